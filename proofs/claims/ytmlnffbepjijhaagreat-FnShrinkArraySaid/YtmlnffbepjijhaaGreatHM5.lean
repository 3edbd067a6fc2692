/- Helper of the proof (see the last text). -/
import Derived.Test.YtmlnffbepjijhaaGreatHM4
set_option linter.unusedVariables false
set_option linter.unusedSimpArgs false
namespace Go.LN
open Go.Proofs
set_option maxRecDepth 20000
def zCK (b0:Nat) (r:zI×zP):KT:=fun kk I' hs' v=>
  ∃ v0 k0,hs'=[.blk b0 ⟨k0⟩]/\v=tupV [v0]/\(∃ cs,v0=.agg ⟨cs⟩/\Rp.rep I' cs r.1)/\Rp.rep I' k0 r.2
def mN (y1:(List zE)) (Body2:List zJ) (n0:Int) (x6:zP):Option ((List zJ×zP)):=do
 if (decide (n0<5)) then
  let (y7,y8)<-zAE x6 (y1.length:Int)
  let y9<-gQ
  let (y11,y12)<-mX y9 (zI.mk y1 ([y7]:List zJ))
  if y12 then
   let l<-app 152 Body2 ([y7]:List zJ)
   pure (l,y8)
  else
   mN y1 Body2 (W (n0+1)) y8
 else
  pure (Body2,x6)
 partial_fixpoint
theorem zF6 (y1:(List zE)) (Body2:List zJ):∀ (n0:Int) (x6:zP) (o:(List zJ×zP)),mN y1 Body2 n0 x6=some o->∀ {B}{I0 I:Imm}{Q}{i:Int}{x:zI}{k0:Int}{r01:Nat}{b:Nat}{p1 c1 p2 c2 p7 c7}{b1:Nat}{p14 c14 cs2 p15 c15},I0.le I->(S4 I p7 y1 c7)->(S4 I p1 x.Nest c1)->(S4 I p2 x.Body c2)->(RL I cs2 Body2)->(S4 I p15 x6.b c15)->NG Q->NO Q->(∀ (I':Imm) (Body3:List zJ) (x7:zP) (p16:Option Addr) (c16:Nat) (cs3:List Value) (p17:Option Addr) (c17:Nat),o=(Body3,x7)->I0.le I'->(RL I' cs3 Body3)->(S4 I' p17 x7.b c17)->T 81 B Q (.exit 4) I' [hO zJ (vS p16 Body3 c16) cs3,hB r01 (cRd x7 p17 c17),hB b1 [vS p7 y1 c7,vS p16 Body3 c16],hB b (cPart x p1 c1 p2 c2)] [(0,vP r01 0),(2,vP b 0),(3,vI i),(4,vP b1 0),(5,vI k0)])->J Tryz.prog 81 B (nav (bodyOf Tryz.f155) [1,0,1,0,0,1,0,0,1,0,1,0,0,1,0,0,1,0]) Q I [hO zJ (vS p14 Body2 c14) cs2,hB r01 (cRd x6 p15 c15),hB b1 [vS p7 y1 c7,vS p14 Body2 c14],hB b (cPart x p1 c1 p2 c2)] [(0,vP r01 0),(2,vP b 0),(3,vI i),(4,vP b1 0),(5,vI k0),(6,vI n0)]:=by
 refine mN.partial_correctness y1 Body2 _ fun self ih n0 x6 o N B I0 I Q i x k0 r01 b p1 c1 p2 c2 p7 c7 b1 p14 c14 cs2 p15 c15 H h7 h1 h2 h20 h21 hg ho hx=>yU hg ho<|yD<|yH [31] rfl<|zK<|yG N ?_ ?_
 · intro hc2 N;refine zS<|zZ<|yF<|yC<|yE 4 [2] [34,37] rfl<|sW (zY [1,0,2,3] (hs':=[hB r01 (cRd x6 p15 c15),hO zJ (vS p14 Body2 c14) cs2,hB b1 [vS p7 y1 c7,vS p14 Body2 c14],hB b (cPart x p1 c1 p2 c2)])) ?_;obtain ⟨⟨y7,y8⟩,hy2,N⟩:=zB N;refine rS (zHe x6 (y1.length:Int) _ hy2 h21) rfl ?_;rintro I03 hs2 v2 k2 le3 - ⟨v04,kk2,rfl,rfl,⟨cs4,rfl,h24⟩,h25⟩ -;have ⟨h20,h7,h1,h2,H⟩:=m5 le3 h20 h7 h1 h2 H;obtain ⟨p18,c18,p19,c19,p20,c20,p21,c21,rfl,h26,h27,h28,h29⟩:=vC h24;obtain ⟨p22,c22,rfl,h30⟩:=yA h25;refine xU [vT ([]),z0,vI 0,vI 0,z0,vI 0,vT ([]),z0,z0] ?_;intro b3 hb3;refine yZ 0 (cStmt y7 p18 c18 p19 c19 p20 c20 p21 c21) rfl<|zX rfl<|zK<|yD ?_;obtain ⟨y9,hy3,N⟩:=zB N;obtain ⟨⟨y11,y12⟩,hy4,N⟩:=zB N;refine wP [.x (eS y9),.p (vP b1 0) [],.p (vS p7 y1 c7) [3],.p (vA (cStmt y7 p18 c18 p19 c19 p20 c20 p21 c21)) [0],.x (fun I' v hx=>∃ b4,v=vS (some ⟨b4,0,none⟩) ([y7]:List zJ) 1/\hx=[]/\(SL I' (vS (some ⟨b4,0,none⟩) ([y7]:List zJ) 1) ([y7]:List zJ))),.x (fun I' v hx=>∃ b41,v=vA [vS p7 y1 c7,vS (some ⟨b41,0,none⟩) ([y7]:List zJ) 1]/\hx=[]/\(SL I' (vS (some ⟨b41,0,none⟩) ([y7]:List zJ) 1) ([y7]:List zJ))),.q (.tuple ⟨[vI y11,.bool y12]⟩),.p (.tuple ⟨[vI y11,.bool y12]⟩) [],.p (vI y11) [],.p (.bool y12) [],.p (vI y11) []] [[],[],[(1,false)],[],[(3,false)],[(2,false),(4,false)],[(0,false),(5,false)],[(6,false)],[(7,false)],[(7,false)],[(8,false)]] [hB b3 (cStmt y7 p18 c18 p19 c19 p20 c20 p21 c21),hB r01 (cRd y8 p22 c22),hO zJ (vS p14 Body2 c14) cs2,hB b1 [vS p7 y1 c7,vS p14 Body2 c14],hB b (cPart x p1 c1 p2 c2)] [] [(9,false)] (zY [0,1,2,3,4]) ?_ ?_
   · refine Ox ?_<|Op<|Op<|Op<|Ox ?_<|Ox ?_<|Oq ?_<|Op<|Op<|Op<|Op<|On
     · intro I1 hf le1;refine dS [] ?_;have H:=iS I1;refine xH (zAU  _ hy3 ) ?_;rintro I04 hs2 v2 k2 le4 - ⟨v010,rfl,rfl,h31⟩ -;have H:=H.trans le4;obtain ⟨p23,c23,rfl⟩:=h31.form;exact yL [] H ⟨_,_,rfl,rfl,h31⟩
     · intro I1 hf le1;refine yV [43] rfl ?_;have H:=iS I1;have ⟨h26,h27,h28,h29⟩:=m4 le1 h26 h27 h28 h29;refine mU (rc y7 (wC ⟨_,_,_,_,rfl,h26,h27,h28,h29⟩) rN) ?_;intro b4 I05 le5 h33;have H:=H.trans le5;exact yL [] H ⟨_,rfl,rfl,h33⟩
     · rintro I1 hf le1 _ _ ⟨rfl,rfl⟩ _ _ ⟨b4,rfl,rfl,h33⟩;refine yV [42,44] rfl ?_;exact qA 6 [(45,vA [vS p7 y1 c7,vS (some ⟨b4,0,none⟩) ([y7]:List zJ) 1])]<|yL [] iR ⟨_,rfl,rfl,h33⟩
     rintro I1 hf le1 _ _ ⟨p23,c23,rfl,rfl,h31⟩ _ _ ⟨b41,rfl,rfl,h331⟩;refine yV [40,45] rfl ?_;have H:=iS I1;have h7:=h7.mono le1;refine xH (zBK y9 (zI.mk y1 ([y7]:List zJ)) _ hy4 h31 h7 h331) ?_;rintro I06 hs2 v2 k2 le6 - ⟨v011,v012,rfl,rfl,rfl,rfl⟩ -;have H:=H.trans le6;exact xB H
   intro I07 le7;refine yV [0,2,3,4,5,6,7,48] rfl ?_;have ⟨h26,h27,h28,h29,h30,h20⟩:=m6 le7 h26 h27 h28 h29 h30 h20;have ⟨h7,h1,h2,H⟩:=m4 le7 h7 h1 h2 H;refine yM [] [9] rfl<|uN [49] rfl<|zK<|yG N ?_ ?_
   · intro hc3 N;refine yC<|tZ 3 [3,0] [(51,vS p14 Body2 c14),(52,vA (cStmt y7 p18 c18 p19 c19 p20 c20 p21 c21))]<|tK (cStmt y7 p18 c18 p19 c19 p20 c20 p21 c21) zJ ?_;intro b5 hb5;have h36:RL I07 (cStmt y7 p18 c18 p19 c19 p20 c20 p21 c21) ([y7]:List zJ):=⟨(cStmt y7 p18 c18 p19 c19 p20 c20 p21 c21),_,rfl,rfl,(wC ⟨_,_,_,_,rfl,h26,h27,h28,h29⟩),rfl⟩;obtain ⟨l,hy5,N⟩:=zB N;refine qD 74 9 3 rfl rfl rfl h20 (.inr ⟨0,rfl⟩) h36 hy5 ?_;intro p24 c24 cs5 h37;exact sW (zY [1,2,3,4,5] (hs':=[hB b3 (cStmt y7 p18 c18 p19 c19 p20 c20 p21 c21),hB r01 (cRd y8 p22 c22),hO zJ (vS p24 l c24) cs5,hB b1 [vS p7 y1 c7,vS p14 Body2 c14],hB b (cPart x p1 c1 p2 c2)]))<|yE 6 [] [55] rfl<|yZ 3 [vS p7 y1 c7,vS p24 l c24] rfl<|zX rfl<|zK<|zEO<|zIK rfl<|jY<|jY<|wG (zW [2,1,3,4] rfl (by decide))<|yW<|hx _ _ _ _ _ _ _ _ (zC N).symm H h37 h30
   intro hc3 N;exact zS<|zO<|zK<|zM<|yM [] [6] rfl<|yT<|pL (zW [2,1,3,4] rfl (by decide))<|nT<|ih (W (n0+1)) y8 _ N H h7 h1 h2 h20 h30 hg ho hx
 intro hc2 N;exact wW<|yW<|hx _ _ _ _ _ _ _ _ (zC N).symm H h20 h21
def mO (y1:(List zE)) (k0:Int) (Body:List zJ) (x4:zP):Option ((List zJ×zP)):=do
 if (decide (k0>0)) then
  let (Body3,x7)<-mN y1 Body 0 x4
  mO y1 (W (k0 - 1)) Body3 x7
 else
  pure (Body,x4)
 partial_fixpoint
theorem zF7 (y1:(List zE)):∀ (k0:Int) (Body:List zJ) (x4:zP) (o:(List zJ×zP)),mO y1 k0 Body x4=some o->∀ {B}{I0 I:Imm}{Q}{i:Int}{x:zI}{r01:Nat}{b:Nat}{p1 c1 p2 c2 p7 c7}{b1:Nat}{p10 c10 cs p11 c11},I0.le I->(S4 I p7 y1 c7)->(S4 I p1 x.Nest c1)->(S4 I p2 x.Body c2)->(RL I cs Body)->(S4 I p11 x4.b c11)->NG Q->NO Q->(∀ (I':Imm) (Body1:List zJ) (x5:zP) (p12:Option Addr) (c12:Nat) (cs1:List Value) (p13:Option Addr) (c13:Nat),o=(Body1,x5)->I0.le I'->(RL I' cs1 Body1)->(S4 I' p13 x5.b c13)->T 81 B Q (.exit 2) I' [hO zJ (vS p12 Body1 c12) cs1,hB r01 (cRd x5 p13 c13),hB b1 [vS p7 y1 c7,vS p12 Body1 c12],hB b (cPart x p1 c1 p2 c2)] [(0,vP r01 0),(2,vP b 0),(3,vI i),(4,vP b1 0)])->J Tryz.prog 81 B (nav (bodyOf Tryz.f155) [1,0,1,0,0,1,0,0,1,0,1,0]) Q I [hO zJ (vS p10 Body c10) cs,hB r01 (cRd x4 p11 c11),hB b1 [vS p7 y1 c7,vS p10 Body c10],hB b (cPart x p1 c1 p2 c2)] [(0,vP r01 0),(2,vP b 0),(3,vI i),(4,vP b1 0),(5,vI k0)]:=by
 refine mO.partial_correctness y1 _ fun self ih k0 Body x4 o N B I0 I Q i x r01 b p1 c1 p2 c2 p7 c7 b1 p10 c10 cs p11 c11 H h7 h1 h2 h16 h17 hg ho hx=>yU hg ho<|yD<|yH [27] rfl<|zK<|yG N ?_ ?_
 · intro hc1 N;refine zS<|zZ<|yF<|yH [6] rfl<|wK<|pM [(0,vP r01 0),(2,vP b 0),(3,vI i),(4,vP b1 0),(5,vI k0),(6,vI 0)] ?_;obtain ⟨o0,ho0,hMl⟩:=zB N;refine zF6 y1 Body 0 x4 o0 ho0 iR h7 h1 h2 h16 h17 (fun _ _ _ h=>hg _ _ _ h) (fun _ _ h=>ho _ _ h) ?_;intro I08 Body3 x7 p16 c16 cs3 p17 c17 heq le8 h22 h23;subst o0;have ⟨h7,h1,h2,H⟩:=m4 le8 h7 h1 h2 H;exact zR<|zO<|zK<|zM<|yM [] [5] rfl<|yT<|nT<|ih (W (k0 - 1)) Body3 x7 _ hMl H h7 h1 h2 h22 h23 hg ho hx
 intro hc1 N;exact wW<|yW<|hx _ _ _ _ _ _ _ _ (zC N).symm H h16 h17
def mP (x:zI) (i:Int) (x1:zP):Option (Out (zI×zP) (zI×zP)):=do
 if (decide (i<4)) then
  let (y1,y2)<-zAD x1
  let (y4,y5)<-xG y2 ([1,2,1,3]:List Int)
  let (Body1,x5)<-mO y1 y4 ([]:List zJ) y5
  let y13<-gQ
  let (y15,y16)<-mX y13 (zI.mk y1 Body1)
  let t66<-(do
    if y16 then
     pure (decide (y15<=40))
    else
     pure false
      : Option Bool)
  if t66 then
   pure (.ret ((zI.mk y1 Body1),x5))
  else
   mP x (W (i+1)) x5
 else
  pure (.done (x,x1))
 partial_fixpoint
theorem zF8 (x:zI):∀ (i:Int) (x1:zP) (o:Out (zI×zP) (zI×zP)),mP x i x1=some o->∀ {B}{I0 I:Imm}{Q}  {r01:Nat}{b:Nat}{p1 c1 p2 c2 p3 c3},I0.le I->(S4 I p1 x.Nest c1)->(S4 I p2 x.Body c2)->(S4 I p3 x1.b c3)->NG Q->NO Q->(∀ (I':Imm) (x2:zI) (x3:zP) (p4:Option Addr) (c4:Nat) (p5:Option Addr) (c5:Nat) (p6:Option Addr) (c6:Nat),o=(.done (x2,x3))->I0.le I'->(S4 I' p4 x2.Nest c4)->(S4 I' p5 x2.Body c5)->(S4 I' p6 x3.b c6)->T 81 B Q (.exit 0) I' [hB b (cPart x2 p4 c4 p5 c5),hB r01 (cRd x3 p6 c6)] [(2,vP b 0)])->(∀ r I' hs' m',o=(.ret r)->I0.le I'->RS Tryz.prog Tryz.f155 B (zCK r01 r) I' hs' m'->T 81 B Q .ret I' hs' m')->J Tryz.prog 81 B (nav (bodyOf Tryz.f155) [1,0,1,0]) Q I [hB b (cPart x p1 c1 p2 c2),hB r01 (cRd x1 p3 c3)] [(0,vP r01 0),(2,vP b 0),(3,vI i)]:=by
 refine mP.partial_correctness x _ fun self ih i x1 o N B I0 I Q r01 b p1 c1 p2 c2 p3 c3 H h1 h2 h3 hg ho hx hr=>yU hg ho<|yD<|yH [17] rfl<|zK<|yG N ?_ ?_
 · intro hc N;refine zS<|zZ<|yF<|yC<|yE 1 [] [20] rfl<|sW (zY [1,0] (hs':=[hB r01 (cRd x1 p3 c3),hB b (cPart x p1 c1 p2 c2)])) ?_;obtain ⟨⟨y1,y2⟩,hy,N⟩:=zB N;refine rS (zHc x1 _ hy h3) rfl ?_;rintro I0 hs2 v2 k2 le - ⟨v0,kk,rfl,rfl,h7,h8⟩ -;have ⟨h1,h2,H⟩:=m3 le h1 h2 H;obtain ⟨p7,c7,rfl⟩:=h7.form;obtain ⟨p8,c8,rfl,h9⟩:=yA h8;refine yE 3 [] [22] rfl<|xU zTwo ?_;intro b1 hb1;refine yZ 0 [vS p7 y1 c7,z0] rfl<|zX rfl<|zZ<|yC<|yE 1 [] [23] rfl<|mU (rI [1,2,1,3]) ?_;intro b2 I01 le1 h11;have ⟨h7,h9,h1,h2,H⟩:=m5 le1 h7 h9 h1 h2 H;refine sW (zY [1,0,2] (hs':=[hB r01 (cRd y2 p8 c8),hB b1 [vS p7 y1 c7,z0],hB b (cPart x p1 c1 p2 c2)])) ?_;obtain ⟨⟨y4,y5⟩,hy1,N⟩:=zB N;refine rS (xR y2 ([1,2,1,3]:List Int) _ hy1 h9 h11) rfl ?_;rintro I02 hs2 v2 k2 le2 - ⟨v02,kk1,rfl,rfl,rfl,h13⟩ -;have ⟨h7,h1,h2,H⟩:=m4 le2 h7 h1 h2 H;obtain ⟨p9,c9,rfl,h14⟩:=yA h13;refine yM [] [5] rfl<|wK<|pM [(0,vP r01 0),(2,vP b 0),(3,vI i),(4,vP b1 0),(5,vI y4)]<|zAb zJ fun h15=>?_;obtain ⟨o01,ho01,hMl1⟩:=zB N;refine zF7 y1 y4 ([]:List zJ) y5 o01 ho01 iR h7 h1 h2 h15 h14 (fun _ _ _ h=>hg _ _ _ h) (fun _ _ h=>ho _ _ h) ?_;intro I09 Body1 x5 p12 c12 cs1 p13 c13 heq1 le9 h18 h19;subst o01;have ⟨h7,h1,h2,H⟩:=m4 le9 h7 h1 h2 H;refine zR<|zZ<|qX 0 rfl ?_;intro I010 le10 hl02;have h38:=SL.of_frozen hl02 le10 h18;have ⟨h19,h7,h1,h2,H⟩:=m5 le10 h19 h7 h1 h2 H;obtain ⟨y13,hy6,N⟩:=zB hMl1;obtain ⟨⟨y15,y16⟩,hy7,N⟩:=zB N;refine wP [.x (eS y13),.p (vA [vS p7 y1 c7,vS p12 Body1 c12]) [1],.q (.tuple ⟨[vI y15,.bool y16]⟩),.p (.tuple ⟨[vI y15,.bool y16]⟩) [],.p (vI y15) [],.p (.bool y16) [],.p (vI y15) []] [[],[],[(0,false),(1,false)],[(2,false)],[(3,false)],[(3,false)],[(4,false)]] [hB r01 (cRd x5 p13 c13),hB b1 [vS p7 y1 c7,vS p12 Body1 c12],hB b (cPart x p1 c1 p2 c2)] [] [(5,false),(6,false)] (zY [0,1,2]) ?_ ?_
   · refine Ox ?_<|Op<|Oq ?_<|Op<|Op<|Op<|Op<|On
     · intro I1 hf le1;refine dS [] ?_;have H:=iS I1;refine xH (zAU  _ hy6 ) ?_;rintro I011 hs2 v2 k2 le11 - ⟨v013,rfl,rfl,h39⟩ -;have H:=H.trans le11;obtain ⟨p25,c25,rfl⟩:=h39.form;exact yL [] H ⟨_,_,rfl,rfl,h39⟩
     rintro I1 hf le1 _ _ ⟨p25,c25,rfl,rfl,h39⟩;refine yV [57,58] rfl ?_;have H:=iS I1;have ⟨h7,h38⟩:=m2 le1 h7 h38;refine xH (zBK y13 (zI.mk y1 Body1) _ hy7 h39 h7 h38) ?_;rintro I012 hs2 v2 k2 le12 - ⟨v014,v015,rfl,rfl,rfl,rfl⟩ -;have H:=H.trans le12;exact xB H
   intro I013 le13;refine yV [0,2,3,4,10,61] rfl ?_;have ⟨h19,h7,h38,h1,h2,H⟩:=m6 le13 h19 h7 h38 h1 h2 H;refine yM [] [11] rfl<|zK<|yD ?_;refine uB N [hB r01 (cRd x5 p13 c13),hB b1 [vS p7 y1 c7,vS p12 Body1 c12],hB b (cPart x p1 c1 p2 c2)] (fun t66=>[(0,vP r01 0),(2,vP b 0),(3,vI i),(4,vP b1 0),(66,.bool t66)]) (fun o02 ho02=>?_) ?_
   · have H:=iS I013;refine zM<|yE 2 [] [63] rfl<|wO [63] ho02 ?_ ?_
     · intro hc4 N;exact yM [] [66] rfl<|yW<|zU (ct N H)
     intro hc4 N;exact wU [] [(66,vF)]<|yW<|zU (ct N H)
   intro t66 I014 le14 hMc;have ⟨h19,h7,h38,h1,h2,H⟩:=m6 le14 h19 h7 h38 h1 h2 H;refine zK<|yG hMc ?_ ?_
   · intro hc5 N;exact yC<|tZ 1 [1] [(67,vA [vS p7 y1 c7,vS p12 Body1 c12])]<|yZ 2 [vS p7 y1 c7,vS p12 Body1 c12] rfl<|zX rfl<|xI<|zV<|zL<|zL<|hr _ _ _ _ (zC N).symm H ⟨_,_,(.cell 2 rfl rfl (by kernel_rfl) ResV.nil),(zW [0] rfl (by decide)),⟨_,_,rfl,rfl,⟨_,rfl,(uQ ⟨_,_,rfl,h7,h38⟩)⟩,(yY ⟨_,rfl,h19⟩)⟩⟩
   intro hc5 N;exact zS<|zO<|zK<|zM<|yM [] [3] rfl<|yT<|pL (zW [2,0] rfl (by decide))<|nT<|ih (W (i+1)) x5 _ N H h1 h2 h19 hg ho hx hr
 intro hc N;exact wW<|yW<|hx _ _ _ _ _ _ _ _ _ (zC N).symm H h1 h2 h3
def zAF (r0:zP):Option (zI×zP):=do
 match<-mP (zI.mk ([]:List zE) ([]:List zJ)) 0 r0 with
 | .ret r0=>pure r0
 | .done (x2,x3) =>
  let (y18,y19)<-jC (⟨[65,91,105,93,61,40,65,91,105,93,43,123,105,125,41]⟩:Str)
  let (y21,y22)<-dC ([4]:List Int)
  pure ((zI.mk y21 ([y18]:List zJ)),x3)
theorem zHf:∀ r0 r,zAF r0=some r->∀ {I:Imm}{r01:Nat}{p c},(S4 I p r0.b c)->RT 155 [vP r01 0] I [hB r01 (cRd r0 p c)] (zCK r01 r):=by
 intro r0 r N I r01 p c h;unfold zAF at N;refine yJ Tryz.func155 fun B=>yC<|xU zTwo ?_;intro b hb;refine zX rfl<|zZ<|yH [3] rfl<|wK<|pM [(0,vP r01 0),(2,vP b 0),(3,vI 0)] ?_;obtain ⟨o03,ho03,hMl2⟩:=zB N;refine zF8 (zI.mk ([]:List zE) ([]:List zJ)) 0 r0 o03 ho03 iR (SL.nil _) (SL.nil _) h (fun _ _ _ h=>h) (fun _ _ h=>h) ?_ ?_
 · intro I015 x2 x3 p4 c4 p5 c5 p6 c6 heq3 le15 h4 h5 h6;subst o03;refine zR<|zZ<|zM ?_;obtain ⟨⟨y18,y19⟩,hy8,N⟩:=zB hMl2;refine xH (zB8 (⟨[65,91,105,93,61,40,65,91,105,93,43,123,105,125,41]⟩:Str) _ hy8 ) ?_;rintro I016 hs2 v2 k2 le16 - ⟨v016,v017,rfl,rfl,⟨cs6,rfl,h42⟩,rfl⟩ -;have h6:=h6.mono le16;obtain ⟨p26,c26,p27,c27,p28,c28,p29,c29,rfl,h44,h45,h46,h47⟩:=vC h42;refine yE 4 [] [70,71] rfl<|xU [vT ([]),z0,vI 0,vI 0,z0,vI 0,vT ([]),z0,z0] ?_;intro b6 hb6;refine yZ 0 (cStmt y18 p26 c26 p27 c27 p28 c28 p29 c29) rfl<|wU [] []<|yX<|mU (rI [4]) ?_;intro b7 I017 le17 h49;have ⟨h44,h45,h46,h47,h6⟩:=m5 le17 h44 h45 h46 h47 h6;obtain ⟨⟨y21,y22⟩,hy9,N⟩:=zB N;refine xH (zGm ([4]:List Int) _ hy9 h49) ?_;rintro I018 hs2 v2 k2 le18 - ⟨v022,v023,rfl,rfl,h50,rfl⟩ -;have ⟨h44,h45,h46,h47,h6⟩:=m5 le18 h44 h45 h46 h47 h6;obtain ⟨p30,c30,rfl⟩:=h50.form;refine yM [] [14] rfl<|yX<|tZ 2 [0] [(77,vS p30 y21 c30),(78,vA (cStmt y18 p26 c26 p27 c27 p28 c28 p29 c29))]<|tK (cStmt y18 p26 c26 p27 c27 p28 c28 p29 c29) zJ ?_;intro b8 hb8;have h52:RL I018 (cStmt y18 p26 c26 p27 c27 p28 c28 p29 c29) ([y18]:List zJ):=⟨(cStmt y18 p26 c26 p27 c27 p28 c28 p29 c29),_,rfl,rfl,(wC ⟨_,_,_,_,rfl,h44,h45,h46,h47⟩),rfl⟩;refine yE 4 [] [80] rfl<|yZ 2 [vS p30 y21 c30,vS (some ⟨b8,0,none⟩) ([y18]:List zJ) 1] rfl<|zX rfl<|xI<|xE 0 rfl ?_;intro I019 le19 hl04;have h53:=SL.of_frozen hl04 le19 h52;have ⟨h50,h6⟩:=m2 le19 h50 h6;obtain rfl:=zC N;exact xC ⟨_,_,(.cell 1 rfl rfl (by kernel_rfl) ResV.nil),(zW [2] rfl (by decide)),⟨_,_,rfl,rfl,⟨_,rfl,(uQ ⟨_,_,rfl,h50,h53⟩)⟩,(yY ⟨_,rfl,h6⟩)⟩⟩
 intro r0 I9 hs9 m9 heq9 le9 hrs9;subst heq9;refine zV<|zL ?_;obtain rfl:=zC hMl2;exact xC hrs9
def zGP (b0:Nat) (r:zF×zP):KT:=fun kk I' hs' v=>
  ∃ v0 k0,hs'=[.blk b0 ⟨k0⟩]/\v=tupV [v0]/\(∃ cs,v0=.agg ⟨cs⟩/\Rp.rep I' cs r.1)/\Rp.rep I' k0 r.2
def mQ (i:Int) (Parts:List zI) (x:zP):Option ((List zI×zP)):=do
 if (decide (i>0)) then
  let (y5,y6)<-zAF x
  let l<-app 48 Parts ([y5]:List zI)
  mQ (W (i - 1)) l y6
 else
  pure (Parts,x)
 partial_fixpoint
theorem zF9 :∀ (i:Int) (Parts:List zI) (x:zP) (o:(List zI×zP)),mQ i Parts x=some o->∀ {B}{I0 I:Imm}{Q}{y:(List zD)}{r01:Nat}{b:Nat}{p1 c1}{b1:Nat}{p3 c3 cs p4 c4},I0.le I->(S4 I p1 y c1)->(RL I cs Parts)->(S4 I p4 x.b c4)->NG Q->NO Q->(∀ (I':Imm) (Parts1:List zI) (x1:zP) (p5:Option Addr) (c5:Nat) (cs1:List Value) (p6:Option Addr) (c6:Nat),o=(Parts1,x1)->I0.le I'->(RL I' cs1 Parts1)->(S4 I' p6 x1.b c6)->T 29 B Q (.exit 0) I' [hO zI (vS p5 Parts1 c5) cs1,hB r01 (cRd x1 p6 c6),hB b1 [vS p1 y c1,vS p5 Parts1 c5],hB b zTwo] [(2,vP b 0),(3,vP b1 0)])->J Tryz.prog 29 B (nav (bodyOf Tryz.f118) [1,1,0,1,0]) Q I [hO zI (vS p3 Parts c3) cs,hB r01 (cRd x p4 c4),hB b1 [vS p1 y c1,vS p3 Parts c3],hB b zTwo] [(0,vP r01 0),(2,vP b 0),(3,vP b1 0),(4,vI i)]:=by
 refine mQ.partial_correctness  _ fun self ih i Parts x o N B I0 I Q y r01 b p1 c1 b1 p3 c3 cs p4 c4 H h1 h8 h9 hg ho hx=>yU hg ho<|yD<|yH [11] rfl<|zK<|yG N ?_ ?_
 · intro hc N;refine zS<|zZ<|yF ?_;obtain ⟨⟨y5,y6⟩,hy2,N⟩:=zB N;obtain ⟨l,hy3,N⟩:=zB N;refine wP [.p (vP b1 1) [],.p (vS p3 Parts c3) [0],.p (vP r01 0) [],.x (fun I' v hx=>∃ p7 c7 p8 c8 p9 c9,v=vA (cPart y5 p7 c7 p8 c8)/\hx=[hB r01 (cRd y6 p9 c9)]/\(S4 I' p7 y5.Nest c7)/\(S4 I' p8 y5.Body c8)/\(S4 I' p9 y6.b c9)),.x (fun I' v hx=>∃ b3,v=vS (some ⟨b3,0,none⟩) ([y5]:List zI) 1/\hx=[]/\(SL I' (vS (some ⟨b3,0,none⟩) ([y5]:List zI) 1) ([y5]:List zI))),.x (fun I' v hx=>∃ p10 c10 cs3,v=vS p10 l c10/\hx=[hO zI (vS p10 l c10) cs3]/\(RL I' cs3 l))] [[],[(0,false)],[],[(2,false),(8,true)],[(3,false)],[(1,false),(4,false),(9,true)]] [hB b1 [vS p1 y c1,vS p3 Parts c3],hB b zTwo] [[hB r01 (cRd x p4 c4)],[hO zI (vS p3 Parts c3) cs]] [(3,true),(5,true)] (zY [2,3,1,0]) ?_ ?_
   · refine Op<|Op<|Op<|Ox ?_<|Ox ?_<|Ox ?_<|On
     · rintro I1 hf le1 _ _ ⟨rfl,rfl⟩ _ _ rfl;refine yV [16] rfl ?_;have H:=iS I1;have h9:=h9.mono le1;refine rS (zHf x _ hy2 h9) rfl ?_;rintro I03 hs2 v2 k2 le3 - ⟨v03,kk1,rfl,rfl,⟨cs2,rfl,h12⟩,h13⟩ -;have H:=H.trans le3;obtain ⟨p7,c7,p8,c8,rfl,h14,h15⟩:=wH h12;obtain ⟨p9,c9,rfl,h16⟩:=yA h13;exact yL [hB r01 (cRd y6 p9 c9)] H ⟨_,_,_,_,_,_,rfl,rfl,h14,h15,h16⟩
     · rintro I1 hf le1 _ _ ⟨p7,c7,p8,c8,p9,c9,rfl,rfl,h14,h15,h16⟩;refine yV [17] rfl ?_;have H:=iS I1;refine mU (rc y5 (uQ ⟨_,_,rfl,h14,h15⟩) rN) ?_;intro b3 I04 le4 h18;have H:=H.trans le4;exact yL [] H ⟨_,rfl,rfl,h18⟩
     rintro I1 hf le1 _ _ ⟨rfl,rfl⟩ _ _ ⟨b3,rfl,rfl,h18⟩ _ _ rfl;refine yV [15,18] rfl ?_;have h8:=iM le1 h8;obtain ⟨ccs,k0,k01⟩:=h18;have h18:SL I1 (vS (some ⟨b3,0,none⟩) ([y5]:List zI) 1) ([y5]:List zI):=⟨_,k0,k01⟩;exact qD 85 2 0 rfl rfl rfl h8 (.inl k0) k01 hy3 fun p10 c10 cs3 h19=>vH (hs':=(hO zI (vS p10 l c10) cs3::hB b1 [vS p1 y c1,vS p3 Parts c3]::hB b zTwo::hf)) rfl<|yL [hO zI (vS p10 l c10) cs3] iR ⟨_,_,_,rfl,rfl,h19⟩
   rintro I05 le5 _ _ ⟨p7,c7,p8,c8,p9,c9,rfl,rfl,h14,h15,h16⟩ _ _ ⟨p10,c10,cs3,rfl,rfl,h19⟩;refine yV [0,2,3,4,19] rfl ?_;have ⟨h1,H⟩:=m2 le5 h1 H;exact yE 7 [] [20] rfl<|yZ 2 [vS p1 y c1,vS p10 l c10] rfl<|zX rfl<|zO<|zK<|zM<|yM [] [4] rfl<|yT<|nT<|ih (W (i - 1)) l y6 _ N H h1 h19 h16 hg ho hx
 intro hc N;exact wW<|yW<|hx _ _ _ _ _ _ _ _ (zC N).symm H h8 h9
def zAG (r0:zP):Option (zF×zP):=do
 let y<-gQ
 let (y2,y3)<-xG r0 ([1,2,1,3]:List Int)
 let (Parts1,x1)<-mQ y2 ([]:List zI) y3
 let y7<-tV (zF.mk y Parts1)
 if y7 then
  pure ((zF.mk y Parts1),x1)
 else
  let y8<-gQ
  let l1<-slc Parts1 0 1
  pure ((zF.mk y8 l1),x1)
theorem zHg:∀ r0 r,zAG r0=some r->∀ {I:Imm}{r01:Nat}{p c},(S4 I p r0.b c)->RT 118 [vP r01 0] I [hB r01 (cRd r0 p c)] (zGP r01 r):=by
 intro r0 r N I r01 p c h;unfold zAG at N;refine yJ Tryz.func118 fun B=>?_;have H:=iS I;refine yC<|xU zTwo ?_;intro b hb;refine zX rfl<|yX<|bE N fun y hy N=>xH (zAU  _ hy ) ?_;rintro I0 hs2 v2 k2 le - ⟨v0,rfl,rfl,h1⟩ -;have ⟨h,H⟩:=m2 le h H;obtain ⟨p1,c1,rfl⟩:=h1.form;refine yE 2 [] [6] rfl<|xU zTwo ?_;intro b1 hb1;refine yZ 0 [vS p1 y c1,z0] rfl<|zX rfl<|zZ<|yC<|yE 1 [] [7] rfl<|mU (rI [1,2,1,3]) ?_;intro b2 I01 le1 h3;have ⟨h1,h,H⟩:=m3 le1 h1 h H;refine sW (zY [2,0,1] (hs':=[hB r01 (cRd r0 p c),hB b1 [vS p1 y c1,z0],hB b zTwo])) ?_;obtain ⟨⟨y2,y3⟩,hy1,N⟩:=zB N;refine rS (xR r0 ([1,2,1,3]:List Int) _ hy1 h h3) rfl ?_;rintro I02 hs2 v2 k2 le2 - ⟨v01,kk,rfl,rfl,rfl,h5⟩ -;have ⟨h1,H⟩:=m2 le2 h1 H;obtain ⟨p2,c2,rfl,h6⟩:=yA h5;refine yM [] [4] rfl<|wK<|pM [(0,vP r01 0),(2,vP b 0),(3,vP b1 0),(4,vI y2)]<|zAb zI fun h7=>?_;obtain ⟨o0,ho0,hMl⟩:=zB N;refine zF9 y2 ([]:List zI) y3 o0 ho0 iR h1 h7 h6 (fun _ _ _ h=>h) (fun _ _ h=>h) ?_;intro I06 Parts1 x1 p5 c5 cs1 p6 c6 heq le6 h10 h11;subst o0;have ⟨h1,H⟩:=m2 le6 h1 H;refine zR<|zZ<|yC<|tZ 1 [2] [(21,vA [vS p1 y c1,vS p5 Parts1 c5])]<|xX 0 rfl ?_;intro I07 le7 hl02;have h20:=SL.of_frozen hl02 le7 h10;have ⟨h1,h11,H⟩:=m3 le7 h1 h11 H;obtain ⟨y7,hy4,N⟩:=zB hMl;refine uZ (dB (zF.mk y Parts1) _ hy4 h1 h20) ?_;intro I08 le8;have ⟨h11,h1,h20,H⟩:=m4 le8 h11 h1 h20 H;refine zX rfl<|zK<|yG N ?_ ?_
 · intro hc1 N;refine yC<|tZ 1 [1] [(23,vA [vS p1 y c1,vS p5 Parts1 c5])]<|yZ 2 [vS p1 y c1,vS p5 Parts1 c5] rfl<|zX rfl<|xI<|zL ?_;obtain rfl:=zC N;exact xC ⟨_,_,(.cell 2 rfl rfl (by kernel_rfl) ResV.nil),(zW [0] rfl (by decide)),⟨_,_,rfl,rfl,⟨_,rfl,(xY ⟨_,_,rfl,h1,h20⟩)⟩,(yY ⟨_,rfl,h11⟩)⟩⟩
 intro hc1 N;refine zS<|zK<|yD ?_;obtain ⟨y8,hy5,N⟩:=zB N;obtain ⟨l1,hy6,N⟩:=zB N;refine wP [.x (eS y8),.p (vP b1 1) [],.p (vS p5 Parts1 c5) [1],.x (eS l1),.x (fun I' v hx=>∃ p111 c111 p121 c121,v=vA [vS p111 y8 c111,vS p121 l1 c121]/\hx=[]/\(S4 I' p111 y8 c111)/\(S4 I' p121 l1 c121))] [[],[],[(1,false)],[(2,false)],[(0,false),(3,false)]] [hB r01 (cRd x1 p6 c6),hB b1 [vS p1 y c1,vS p5 Parts1 c5],hB b zTwo] [] [(4,false)] (zY [0,1,2]) ?_ ?_
 · refine Ox ?_<|Op<|Op<|Ox ?_<|Ox ?_<|On
   · intro I1 hf le1;refine dS [] ?_;have H:=iS I1;refine xH (zAU  _ hy5 ) ?_;rintro I09 hs2 v2 k2 le9 - ⟨v08,rfl,rfl,h22⟩ -;have H:=H.trans le9;obtain ⟨p11,c11,rfl⟩:=h22.form;exact yL [] H ⟨_,_,rfl,rfl,h22⟩
   · intro I1 hf le1;refine yV [26] rfl ?_;have h20:=h20.mono le1;refine zOf rfl h20 hy6 ?_;intro v09 h23;obtain ⟨p12,c12,rfl⟩:=h23.form;exact yL [] iR ⟨_,_,rfl,rfl,h23⟩
   rintro I1 hf le1 _ _ ⟨p11,c11,rfl,rfl,h22⟩ _ _ ⟨p12,c12,rfl,rfl,h23⟩;exact yV [24,27] rfl<|qA 5 [(28,vA [vS p11 y8 c11,vS p12 l1 c12])]<|yL [] iR ⟨_,_,_,_,rfl,rfl,h22,h23⟩
 rintro I010 le10 _ _ ⟨p111,c111,p121,c121,rfl,rfl,h221,h231⟩;refine yV [2,28] rfl ?_;have h11:=h11.mono le10;refine yZ 2 [vS p111 y8 c111,vS p121 l1 c121] rfl<|zX rfl<|zK<|xD ?_;obtain rfl:=zC N;exact xC ⟨_,_,(.cell 2 rfl rfl (by kernel_rfl) ResV.nil),(zW [0] rfl (by decide)),⟨_,_,rfl,rfl,⟨_,rfl,(xY ⟨_,_,rfl,h221,h231⟩)⟩,(yY ⟨_,rfl,h11⟩)⟩⟩
def zGQ (b0:Nat) (r:zF×zP):KT:=fun kk I' hs' v=>
  ∃ v0 k0,hs'=[.blk b0 ⟨k0⟩]/\v=tupV [v0]/\(∃ cs,v0=.agg ⟨cs⟩/\Rp.rep I' cs r.1)/\Rp.rep I' k0 r.2
def zAH (r0:zP):Option (zF×zP):=do
 let (y1,y2)<-qK r0 ([(⟨[112,97,114,116,10,102,111,114,32,48,32,51,10,102,111,114,32,48,32,52,10,66,91,105,44,106,93,61,40,66,91,105,44,106,93,43,123,50,42,105,43,106,125,41,10]⟩:Str),(⟨[112,97,114,116,10,102,111,114,32,48,32,51,10,102,111,114,32,48,32,52,10,66,91,105,44,106,43,49,93,61,40,66,91,105,44,106,93,43,49,41,10]⟩:Str),(⟨[112,97,114,116,10,102,111,114,32,48,32,51,10,102,111,114,32,49,32,52,10,66,91,105,43,49,44,106,45,49,93,61,40,66,91,105,44,106,93,42,50,41,10]⟩:Str),(⟨[112,97,114,116,10,102,111,114,32,48,32,51,10,102,111,114,32,49,32,53,10,66,91,105,43,49,44,106,93,61,40,66,91,105,44,106,45,49,93,43,66,91,105,44,106,93,41,10,65,91,105,93,61,123,106,125,10]⟩:Str),(⟨[112,97,114,116,10,102,111,114,32,48,32,52,10,65,91,105,93,61,40,123,105,125,42,50,41,10,112,97,114,116,10,102,111,114,32,48,32,52,10,65,91,105,43,49,93,61,40,65,91,105,93,43,67,91,48,93,41,10]⟩:Str),(⟨[112,97,114,116,10,102,111,114,32,48,32,53,10,65,91,105,93,61,40,65,91,105,93,43,51,41,10,66,91,48,44,105,93,61,65,91,105,93,10]⟩:Str),(⟨[112,97,114,116,10,102,111,114,32,48,32,51,10,102,111,114,32,48,32,51,10,67,91,105,93,61,40,67,91,105,93,43,66,91,105,44,106,93,41,10,112,97,114,116,10,102,111,114,32,48,32,51,10,102,111,114,32,48,32,51,10,65,91,106,93,61,40,65,91,106,93,45,66,91,106,44,105,93,41,10]⟩:Str),(⟨[112,97,114,116,10,102,111,114,32,48,32,52,10,102,111,114,32,48,32,105,43,49,10,66,91,105,44,106,93,61,40,65,91,106,93,42,67,91,48,93,41,10]⟩:Str)]:List Str)
 let s<-cat (⟨[112,114,111,103,114,97,109,10,97,114,114,97,121,32,65,32,54,10,97,114,114,97,121,32,66,32,52,32,53,10,97,114,114,97,121,32,67,32,51,10]⟩:Str) y1
 let (y4,y5)<-nH s
 let (t20,x)<-(do
   if y5 then
    let (y7,y8)<-xF y2 3
    pure ((decide (y7>0)),y8)
   else
    pure (false,y2)
     : Option (Bool×zP))
 if t20 then
  pure (y4,x)
 else
  let (y10,y11)<-zAG x
  pure (y10,y11)
theorem zHh:∀ r0 r,zAH r0=some r->∀ {I:Imm}{r01:Nat}{p c},(S4 I p r0.b c)->RT 85 [vP r01 0] I [hB r01 (cRd r0 p c)] (zGQ r01 r):=by
 intro r0 r N I r01 p c h;unfold zAH at N;refine yJ Tryz.func85 fun B=>?_;have H:=iS I;refine yC<|xU zTwo ?_;intro b hb;refine zX rfl<|yX<|yE 1 [] [6] rfl<|mU (rT [(⟨[112,97,114,116,10,102,111,114,32,48,32,51,10,102,111,114,32,48,32,52,10,66,91,105,44,106,93,61,40,66,91,105,44,106,93,43,123,50,42,105,43,106,125,41,10]⟩:Str),(⟨[112,97,114,116,10,102,111,114,32,48,32,51,10,102,111,114,32,48,32,52,10,66,91,105,44,106,43,49,93,61,40,66,91,105,44,106,93,43,49,41,10]⟩:Str),(⟨[112,97,114,116,10,102,111,114,32,48,32,51,10,102,111,114,32,49,32,52,10,66,91,105,43,49,44,106,45,49,93,61,40,66,91,105,44,106,93,42,50,41,10]⟩:Str),(⟨[112,97,114,116,10,102,111,114,32,48,32,51,10,102,111,114,32,49,32,53,10,66,91,105,43,49,44,106,93,61,40,66,91,105,44,106,45,49,93,43,66,91,105,44,106,93,41,10,65,91,105,93,61,123,106,125,10]⟩:Str),(⟨[112,97,114,116,10,102,111,114,32,48,32,52,10,65,91,105,93,61,40,123,105,125,42,50,41,10,112,97,114,116,10,102,111,114,32,48,32,52,10,65,91,105,43,49,93,61,40,65,91,105,93,43,67,91,48,93,41,10]⟩:Str),(⟨[112,97,114,116,10,102,111,114,32,48,32,53,10,65,91,105,93,61,40,65,91,105,93,43,51,41,10,66,91,48,44,105,93,61,65,91,105,93,10]⟩:Str),(⟨[112,97,114,116,10,102,111,114,32,48,32,51,10,102,111,114,32,48,32,51,10,67,91,105,93,61,40,67,91,105,93,43,66,91,105,44,106,93,41,10,112,97,114,116,10,102,111,114,32,48,32,51,10,102,111,114,32,48,32,51,10,65,91,106,93,61,40,65,91,106,93,45,66,91,106,44,105,93,41,10]⟩:Str),(⟨[112,97,114,116,10,102,111,114,32,48,32,52,10,102,111,114,32,48,32,105,43,49,10,66,91,105,44,106,93,61,40,65,91,106,93,42,67,91,48,93,41,10]⟩:Str)]) ?_;intro b1 I0 le h2;have ⟨h,H⟩:=m2 le h H;refine sW (zY [1,0] (hs':=[hB r01 (cRd r0 p c),hB b zTwo])) ?_;obtain ⟨⟨y1,y2⟩,hy,N⟩:=zB N;refine rS (jB r0 ([(⟨[112,97,114,116,10,102,111,114,32,48,32,51,10,102,111,114,32,48,32,52,10,66,91,105,44,106,93,61,40,66,91,105,44,106,93,43,123,50,42,105,43,106,125,41,10]⟩:Str),(⟨[112,97,114,116,10,102,111,114,32,48,32,51,10,102,111,114,32,48,32,52,10,66,91,105,44,106,43,49,93,61,40,66,91,105,44,106,93,43,49,41,10]⟩:Str),(⟨[112,97,114,116,10,102,111,114,32,48,32,51,10,102,111,114,32,49,32,52,10,66,91,105,43,49,44,106,45,49,93,61,40,66,91,105,44,106,93,42,50,41,10]⟩:Str),(⟨[112,97,114,116,10,102,111,114,32,48,32,51,10,102,111,114,32,49,32,53,10,66,91,105,43,49,44,106,93,61,40,66,91,105,44,106,45,49,93,43,66,91,105,44,106,93,41,10,65,91,105,93,61,123,106,125,10]⟩:Str),(⟨[112,97,114,116,10,102,111,114,32,48,32,52,10,65,91,105,93,61,40,123,105,125,42,50,41,10,112,97,114,116,10,102,111,114,32,48,32,52,10,65,91,105,43,49,93,61,40,65,91,105,93,43,67,91,48,93,41,10]⟩:Str),(⟨[112,97,114,116,10,102,111,114,32,48,32,53,10,65,91,105,93,61,40,65,91,105,93,43,51,41,10,66,91,48,44,105,93,61,65,91,105,93,10]⟩:Str),(⟨[112,97,114,116,10,102,111,114,32,48,32,51,10,102,111,114,32,48,32,51,10,67,91,105,93,61,40,67,91,105,93,43,66,91,105,44,106,93,41,10,112,97,114,116,10,102,111,114,32,48,32,51,10,102,111,114,32,48,32,51,10,65,91,106,93,61,40,65,91,106,93,45,66,91,106,44,105,93,41,10]⟩:Str),(⟨[112,97,114,116,10,102,111,114,32,48,32,52,10,102,111,114,32,48,32,105,43,49,10,66,91,105,44,106,93,61,40,65,91,106,93,42,67,91,48,93,41,10]⟩:Str)]:List Str) _ hy h h2) rfl ?_;rintro I01 hs2 v2 k2 le1 - ⟨v0,kk,rfl,rfl,rfl,h4⟩ -;have H:=H.trans le1;obtain ⟨p1,c1,rfl,h5⟩:=yA h4;refine yM [] [3] rfl<|yX<|yE 1 [] [10] rfl<|bE N fun s hy1 N=>fA rfl hy1 ?_;obtain ⟨⟨y4,y5⟩,hy2,N⟩:=zB N;refine xH (zAf s _ hy2 ) ?_;rintro I02 hs2 v2 k2 le2 - ⟨v02,v03,rfl,rfl,⟨cs,rfl,h6⟩,rfl⟩ -;have ⟨h5,H⟩:=m2 le2 h5 H;obtain ⟨p2,c2,p3,c3,rfl,h8,h9⟩:=tW h6;refine yE 6 [] [13,14] rfl<|xU zTwo ?_;intro b2 hb2;refine yZ 0 (cProg y4 p2 c2 p3 c3) rfl<|yM [] [5] rfl<|zZ<|yD ?_;obtain ⟨o0,ho0,hMc⟩:=zB N;refine nN (fun I' hs' m'=>∃ (t20:Bool) (x:zP) (p4:Option Addr) (c4:Nat),o0=(t20,x)/\I02.le I'/\(S4 I' p4 x.b c4)/\hs'=[hB b2 (cProg y4 p2 c2 p3 c3),hB r01 (cRd x p4 c4),hB b zTwo]/\m'=[(0,vP r01 0),(2,vP b 0),(4,vP b2 0),(20,.bool t20)]) ?_ ?_
 · have H:=iS I02;refine zM<|yE 2 [] [16] rfl<|wO [16] ho0 ?_ ?_
   · intro hc N;refine yE 3 [] [17] rfl<|sW (zY [1,0,2] (hs':=[hB r01 (cRd y2 p1 c1),hB b2 (cProg y4 p2 c2 p3 c3),hB b zTwo])) ?_;obtain ⟨⟨y7,y8⟩,hy3,N⟩:=zB N;refine rS (wD y2 3 _ hy3 h5) rfl ?_;rintro I04 hs2 v2 k2 le3 - ⟨v06,kk1,rfl,rfl,rfl,h12⟩ -;have H:=H.trans le3;obtain ⟨p5,c5,rfl,h13⟩:=yA h12;exact yM [] [20] rfl<|wG (zW [1,0,2] rfl (by decide))<|yW<|zU ⟨_,_,_,_,(zC N).symm,H,h13,rfl,rfl⟩
   intro hc N;exact wU [] [(20,vF)]<|yW<|zU ⟨_,_,_,_,(zC N).symm,H,h5,rfl,rfl⟩
 rintro I03 hs2 m2 ⟨t20,x,p4,c4,heq,le4,h10,rfl,rfl⟩;subst o0;have ⟨h8,h9⟩:=m2 le4 h8 h9;refine zK<|yG hMc ?_ ?_
 · intro hc1 N;refine yC<|tZ 1 [0] [(21,vA (cProg y4 p2 c2 p3 c3))]<|yZ 2 (cProg y4 p2 c2 p3 c3) rfl<|zX rfl<|xI<|zL ?_;obtain rfl:=zC N;exact xC ⟨_,_,(.cell 2 rfl rfl (by kernel_rfl) ResV.nil),(zW [1] rfl (by decide)),⟨_,_,rfl,rfl,⟨_,rfl,(xY ⟨_,_,rfl,h8,h9⟩)⟩,(yY ⟨_,rfl,h10⟩)⟩⟩
 intro hc1 N;refine zS<|yX<|yE 1 [] [22] rfl<|sW (zY [1,0,2] (hs':=[hB r01 (cRd x p4 c4),hB b2 (cProg y4 p2 c2 p3 c3),hB b zTwo])) ?_;obtain ⟨⟨y10,y11⟩,hy4,N⟩:=zB N;refine rS (zHg x _ hy4 h10) rfl ?_;rintro I05 hs2 v2 k2 le5 - ⟨v08,kk2,rfl,rfl,⟨cs1,rfl,h14⟩,h15⟩ -;obtain ⟨p6,c6,p7,c7,rfl,h16,h17⟩:=tW h14;obtain ⟨p8,c8,rfl,h18⟩:=yA h15;refine yZ 2 (cProg y10 p6 c6 p7 c7) rfl<|zX rfl<|zK<|xD ?_;obtain rfl:=zC N;exact xC ⟨_,_,(.cell 2 rfl rfl (by kernel_rfl) ResV.nil),(zW [0] rfl (by decide)),⟨_,_,rfl,rfl,⟨_,rfl,(xY ⟨_,_,rfl,h16,h17⟩)⟩,(yY ⟨_,rfl,h18⟩)⟩⟩
def zFa (b0:Nat) (r:zF×zP):KT:=fun kk I' hs' v=>
  ∃ v0 k0,hs'=[.blk b0 ⟨k0⟩]/\v=tupV [v0]/\(∃ cs,v0=.agg ⟨cs⟩/\Rp.rep I' cs r.1)/\Rp.rep I' k0 r.2
def dD (r0:zP):Option (zF×zP):=do
 let (y1,y2)<-qK r0 ([(⟨[112,97,114,116,10,102,111,114,32,48,32,52,10,65,91,105,93,61,123,105,125,10,112,97,114,116,10,102,111,114,32,48,32,51,10,67,91,105,93,61,40,67,91,105,93,43,49,41,10,112,97,114,116,10,102,111,114,32,48,32,52,10,66,91,48,44,105,93,61,65,91,105,93,10]⟩:Str),(⟨[112,97,114,116,10,102,111,114,32,48,32,52,10,65,91,105,93,61,123,50,42,105,125,10,112,97,114,116,10,102,111,114,32,48,32,53,10,65,91,105,93,61,51,10,112,97,114,116,10,67,91,48,93,61,65,91,49,93,10]⟩:Str),(⟨[112,97,114,116,10,102,111,114,32,48,32,51,10,67,91,105,93,61,66,91,105,44,48,93,10,112,97,114,116,10,102,111,114,32,48,32,51,10,66,91,105,44,49,93,61,67,91,105,93,10]⟩:Str)]:List Str)
 let s<-cat (⟨[112,114,111,103,114,97,109,10,97,114,114,97,121,32,65,32,54,10,97,114,114,97,121,32,66,32,52,32,53,10,97,114,114,97,121,32,67,32,51,10]⟩:Str) y1
 let (y4,y5)<-nH s
 let (t20,x)<-(do
   if y5 then
    let (y7,y8)<-xF y2 2
    pure ((y7==0),y8)
   else
    pure (false,y2)
     : Option (Bool×zP))
 if t20 then
  pure (y4,x)
 else
  let (y10,y11)<-zAH x
  pure (y10,y11)
theorem zGn:∀ r0 r,dD r0=some r->∀ {I:Imm}{r01:Nat}{p c},(S4 I p r0.b c)->RT 54 [vP r01 0] I [hB r01 (cRd r0 p c)] (zFa r01 r):=by
 intro r0 r N I r01 p c h;unfold dD at N;refine yJ Tryz.func54 fun B=>?_;have H:=iS I;refine yC<|xU zTwo ?_;intro b hb;refine zX rfl<|yX<|yE 1 [] [6] rfl<|mU (rT [(⟨[112,97,114,116,10,102,111,114,32,48,32,52,10,65,91,105,93,61,123,105,125,10,112,97,114,116,10,102,111,114,32,48,32,51,10,67,91,105,93,61,40,67,91,105,93,43,49,41,10,112,97,114,116,10,102,111,114,32,48,32,52,10,66,91,48,44,105,93,61,65,91,105,93,10]⟩:Str),(⟨[112,97,114,116,10,102,111,114,32,48,32,52,10,65,91,105,93,61,123,50,42,105,125,10,112,97,114,116,10,102,111,114,32,48,32,53,10,65,91,105,93,61,51,10,112,97,114,116,10,67,91,48,93,61,65,91,49,93,10]⟩:Str),(⟨[112,97,114,116,10,102,111,114,32,48,32,51,10,67,91,105,93,61,66,91,105,44,48,93,10,112,97,114,116,10,102,111,114,32,48,32,51,10,66,91,105,44,49,93,61,67,91,105,93,10]⟩:Str)]) ?_;intro b1 I0 le h2;have ⟨h,H⟩:=m2 le h H;refine sW (zY [1,0] (hs':=[hB r01 (cRd r0 p c),hB b zTwo])) ?_;obtain ⟨⟨y1,y2⟩,hy,N⟩:=zB N;refine rS (jB r0 ([(⟨[112,97,114,116,10,102,111,114,32,48,32,52,10,65,91,105,93,61,123,105,125,10,112,97,114,116,10,102,111,114,32,48,32,51,10,67,91,105,93,61,40,67,91,105,93,43,49,41,10,112,97,114,116,10,102,111,114,32,48,32,52,10,66,91,48,44,105,93,61,65,91,105,93,10]⟩:Str),(⟨[112,97,114,116,10,102,111,114,32,48,32,52,10,65,91,105,93,61,123,50,42,105,125,10,112,97,114,116,10,102,111,114,32,48,32,53,10,65,91,105,93,61,51,10,112,97,114,116,10,67,91,48,93,61,65,91,49,93,10]⟩:Str),(⟨[112,97,114,116,10,102,111,114,32,48,32,51,10,67,91,105,93,61,66,91,105,44,48,93,10,112,97,114,116,10,102,111,114,32,48,32,51,10,66,91,105,44,49,93,61,67,91,105,93,10]⟩:Str)]:List Str) _ hy h h2) rfl ?_;rintro I01 hs2 v2 k2 le1 - ⟨v0,kk,rfl,rfl,rfl,h4⟩ -;have H:=H.trans le1;obtain ⟨p1,c1,rfl,h5⟩:=yA h4;refine yM [] [3] rfl<|yX<|yE 1 [] [10] rfl<|bE N fun s hy1 N=>fA rfl hy1 ?_;obtain ⟨⟨y4,y5⟩,hy2,N⟩:=zB N;refine xH (zAf s _ hy2 ) ?_;rintro I02 hs2 v2 k2 le2 - ⟨v02,v03,rfl,rfl,⟨cs,rfl,h6⟩,rfl⟩ -;have ⟨h5,H⟩:=m2 le2 h5 H;obtain ⟨p2,c2,p3,c3,rfl,h8,h9⟩:=tW h6;refine yE 6 [] [13,14] rfl<|xU zTwo ?_;intro b2 hb2;refine yZ 0 (cProg y4 p2 c2 p3 c3) rfl<|yM [] [5] rfl<|zZ<|yD ?_;obtain ⟨o0,ho0,hMc⟩:=zB N;refine nN (fun I' hs' m'=>∃ (t20:Bool) (x:zP) (p4:Option Addr) (c4:Nat),o0=(t20,x)/\I02.le I'/\(S4 I' p4 x.b c4)/\hs'=[hB b2 (cProg y4 p2 c2 p3 c3),hB r01 (cRd x p4 c4),hB b zTwo]/\m'=[(0,vP r01 0),(2,vP b 0),(4,vP b2 0),(20,.bool t20)]) ?_ ?_
 · have H:=iS I02;refine zM<|yE 2 [] [16] rfl<|wO [16] ho0 ?_ ?_
   · intro hc N;refine yE 3 [] [17] rfl<|sW (zY [1,0,2] (hs':=[hB r01 (cRd y2 p1 c1),hB b2 (cProg y4 p2 c2 p3 c3),hB b zTwo])) ?_;obtain ⟨⟨y7,y8⟩,hy3,N⟩:=zB N;refine rS (wD y2 2 _ hy3 h5) rfl ?_;rintro I04 hs2 v2 k2 le3 - ⟨v06,kk1,rfl,rfl,rfl,h12⟩ -;have H:=H.trans le3;obtain ⟨p5,c5,rfl,h13⟩:=yA h12;exact yM [] [20] rfl<|wG (zW [1,0,2] rfl (by decide))<|yW<|zU ⟨_,_,_,_,(zC N).symm,H,h13,rfl,rfl⟩
   intro hc N;exact wU [] [(20,vF)]<|yW<|zU ⟨_,_,_,_,(zC N).symm,H,h5,rfl,rfl⟩
 rintro I03 hs2 m2 ⟨t20,x,p4,c4,heq,le4,h10,rfl,rfl⟩;subst o0;have ⟨h8,h9⟩:=m2 le4 h8 h9;refine zK<|yG hMc ?_ ?_
 · intro hc1 N;refine yC<|tZ 1 [0] [(21,vA (cProg y4 p2 c2 p3 c3))]<|yZ 2 (cProg y4 p2 c2 p3 c3) rfl<|zX rfl<|xI<|zL ?_;obtain rfl:=zC N;exact xC ⟨_,_,(.cell 2 rfl rfl (by kernel_rfl) ResV.nil),(zW [1] rfl (by decide)),⟨_,_,rfl,rfl,⟨_,rfl,(xY ⟨_,_,rfl,h8,h9⟩)⟩,(yY ⟨_,rfl,h10⟩)⟩⟩
 intro hc1 N;refine zS<|yX<|yE 1 [] [22] rfl<|sW (zY [1,0,2] (hs':=[hB r01 (cRd x p4 c4),hB b2 (cProg y4 p2 c2 p3 c3),hB b zTwo])) ?_;obtain ⟨⟨y10,y11⟩,hy4,N⟩:=zB N;refine rS (zHh x _ hy4 h10) rfl ?_;rintro I05 hs2 v2 k2 le5 - ⟨v08,kk2,rfl,rfl,⟨cs1,rfl,h14⟩,h15⟩ -;obtain ⟨p6,c6,p7,c7,rfl,h16,h17⟩:=tW h14;obtain ⟨p8,c8,rfl,h18⟩:=yA h15;refine yZ 2 (cProg y10 p6 c6 p7 c7) rfl<|zX rfl<|zK<|xD ?_;obtain rfl:=zC N;exact xC ⟨_,_,(.cell 2 rfl rfl (by kernel_rfl) ResV.nil),(zW [0] rfl (by decide)),⟨_,_,rfl,rfl,⟨_,rfl,(xY ⟨_,_,rfl,h16,h17⟩)⟩,(yY ⟨_,rfl,h18⟩)⟩⟩
def zFb (b0:Nat) (r:zF×Int×zP):KT:=fun kk I' hs' v=>
  ∃ v0 v1 k0,hs'=[.blk b0 ⟨k0⟩]/\v=tupV [v0,v1]/\(∃ cs,v0=.agg ⟨cs⟩/\Rp.rep I' cs r.1)/\v1=.int .i64 r.2.1/\Rp.rep I' k0 r.2.2
def dE (r0:zP):Option (zF×Int×zP):=do
 let (y1,y2)<-dD r0
 let (y4,y5)<-nO y2 y1
 let (y7,y8)<-xG y5 ([0,0,1,1,2,(-1),9]:List Int)
 pure (y4,y7,y8)
theorem zGo:∀ r0 r,dE r0=some r->∀ {I:Imm}{r01:Nat}{p c},(S4 I p r0.b c)->RT 23 [vP r01 0] I [hB r01 (cRd r0 p c)] (zFb r01 r):=by
 intro r0 r N I r01 p c h;unfold dE at N;refine yJ Tryz.func23 fun B=>?_;have H:=iS I;refine yC<|xU zTwo ?_;intro b hb;refine wU [] []<|yX<|yE 2 [] [5,6] rfl<|sW (zY [1,0] (hs':=[hB r01 (cRd r0 p c),hB b zTwo])) ?_;obtain ⟨⟨y1,y2⟩,hy,N⟩:=zB N;refine rS (zGn r0 _ hy h) rfl ?_;rintro I0 hs2 v2 k2 le - ⟨v0,kk,rfl,rfl,⟨cs,rfl,h1⟩,h2⟩ -;have H:=H.trans le;obtain ⟨p1,c1,p2,c2,rfl,h3,h4⟩:=tW h1;obtain ⟨p3,c3,rfl,h5⟩:=yA h2;obtain ⟨⟨y4,y5⟩,hy1,N⟩:=zB N;refine rS (zGC y2 y1 _ hy1 h5 h3 h4) rfl ?_;rintro I01 hs2 v2 k2 le1 - ⟨v04,kk1,rfl,rfl,⟨cs1,rfl,h6⟩,h7⟩ -;have H:=H.trans le1;obtain ⟨p4,c4,p5,c5,rfl,h8,h9⟩:=tW h6;obtain ⟨p6,c6,rfl,h10⟩:=yA h7;refine xU zTwo ?_;intro b1 hb1;refine yZ 0 (cProg y4 p4 c4 p5 c5) rfl<|zX rfl<|zK<|yD ?_;obtain ⟨⟨y7,y8⟩,hy2,N⟩:=zB N;refine wP [.p (vA (cProg y4 p4 c4 p5 c5)) [0],.p (vP r01 0) [],.x (fun I' v hx=>∃ b2,v=vS (some ⟨b2,0,none⟩) ([0,0,1,1,2,(-1),9]:List Int) 7/\hx=[]/\(SL I' (vS (some ⟨b2,0,none⟩) ([0,0,1,1,2,(-1),9]:List Int) 7) ([0,0,1,1,2,(-1),9]:List Int))),.x (fun I' v hx=>∃ p7 c7,v=vI y7/\hx=[hB r01 (cRd y8 p7 c7)]/\(S4 I' p7 y8.b c7)),.x (fun I' v hx=>hx=[hB b (cProg y4 p4 c4 p5 c5)])] [[],[],[],[(1,false),(2,false),(6,true)],[(0,false),(7,true)]] [hB b1 (cProg y4 p4 c4 p5 c5)] [[hB r01 (cRd y5 p6 c6)],[hB b zTwo]] [(3,true),(4,true)] (zY [0,1,2]) ?_ ?_
 · refine Op<|Op<|Ox ?_<|Ox ?_<|Ox ?_<|On
   · intro I1 hf le1;refine dS [] ?_;have H:=iS I1;refine mU (rI [0,0,1,1,2,(-1),9]) ?_;intro b2 I02 le2 h12;have H:=H.trans le2;exact yL [] H ⟨_,rfl,rfl,h12⟩
   · rintro I1 hf le1 _ _ ⟨rfl,rfl⟩ _ _ ⟨b2,rfl,rfl,h12⟩ _ _ rfl;refine yV [10,11] rfl ?_;have H:=iS I1;have h10:=h10.mono le1;refine rS (xR y5 ([0,0,1,1,2,(-1),9]:List Int) _ hy2 h10 h12) rfl ?_;rintro I03 hs2 v2 k2 le3 - ⟨v08,kk2,rfl,rfl,rfl,h14⟩ -;have H:=H.trans le3;obtain ⟨p7,c7,rfl,h15⟩:=yA h14;exact yL [hB r01 (cRd y8 p7 c7)] H ⟨_,_,rfl,rfl,h15⟩
   rintro I1 hf le1 _ _ ⟨rfl,rfl⟩ _ _ rfl;refine yV [2,9] rfl ?_;have H:=iS I1;exact eQ 0 (cProg y4 p4 c4 p5 c5) (hB b (cProg y4 p4 c4 p5 c5)::hB b1 (cProg y4 p4 c4 p5 c5)::hf) rfl rfl rfl rfl<|zG3 (hx:=[hB b (cProg y4 p4 c4 p5 c5)]) rfl H rfl (zHT (v:=undef)) rfl
 rintro I04 le4 _ _ ⟨p7,c7,rfl,rfl,h15⟩ _ _ rfl;refine yV [2,12] rfl ?_;have ⟨h8,h9⟩:=m2 le4 h8 h9;refine yM [] [3] rfl<|zK<|xD ?_;obtain rfl:=zC N;exact xC ⟨_,_,(.cell 0 rfl rfl (by kernel_rfl) (.tmp rfl ResV.nil)),(zW [1] rfl (by decide)),⟨_,_,_,rfl,rfl,⟨_,rfl,(xY ⟨_,_,rfl,h8,h9⟩)⟩,rfl,(yY ⟨_,rfl,h15⟩)⟩⟩
def zBT (r:zF×Str):KT:=fun kk I' hs' v=>
  ∃ v0 v1,hs'=[]/\v=tupV [v0,v1]/\(∃ cs,v0=.agg ⟨cs⟩/\Rp.rep I' cs r.1)/\v1=.string ⟨⟨r.2.l⟩⟩
def oZ (code:(List UInt8)):Option (zF×Str):=do
 let y<-eV code
 let (y2,y3,y4)<-dE y
 let (y6,y7)<-qK y4 ([(⟨[65]⟩:Str),(⟨[66]⟩:Str),(⟨[67]⟩:Str),(⟨[68]⟩:Str),(⟨[]⟩:Str)]:List Str)
 pure (y2,y6)
theorem zCL:∀ code r,oZ code=some r->∀ {I:Imm}{p c},(S4 I p code c)->RT 7 [vS p code c] I [] (zBT  r):=by
 intro code r N I p c h;unfold oZ at N;refine yJ Tryz.func7 fun B=>?_;have H:=iS I;refine yC<|xU zTwo ?_;intro b hb;refine wU [] []<|yX<|yE 1 [] [7] rfl<|bE N fun y hy N=>xH (zG9 code _ hy h) ?_;rintro I0 hs2 v2 k2 le - ⟨b1,p1,c1,rfl,rfl,h1⟩ -;have H:=H.trans le;refine yM [] [4] rfl<|yX<|yE 1 [] [10] rfl ?_;obtain ⟨⟨y2,y3,y4⟩,hy1,N⟩:=zB N;refine rS (zGo y _ hy1 h1) rfl ?_;rintro I01 hs2 v2 k2 le1 - ⟨v0,v01,kk,rfl,rfl,⟨cs,rfl,h2⟩,rfl,h4⟩ -;have H:=H.trans le1;obtain ⟨p2,c2,p3,c3,rfl,h5,h6⟩:=tW h2;obtain ⟨p4,c4,rfl,h7⟩:=yA h4;refine yE 5 [] [12,13] rfl<|xU zTwo ?_;intro b2 hb1;refine yZ 0 (cProg y2 p2 c2 p3 c3) rfl<|wU [] []<|zK<|yD ?_;obtain ⟨⟨y6,y7⟩,hy2,N⟩:=zB N;refine wP [.p (vA (cProg y2 p2 c2 p3 c3)) [0],.p (vP b1 0) [],.x (fun I' v hx=>∃ b3,v=vS (some ⟨b3,0,none⟩) ([(⟨[65]⟩:Str),(⟨[66]⟩:Str),(⟨[67]⟩:Str),(⟨[68]⟩:Str),(⟨[]⟩:Str)]:List Str) 5/\hx=[]/\(SL I' (vS (some ⟨b3,0,none⟩) ([(⟨[65]⟩:Str),(⟨[66]⟩:Str),(⟨[67]⟩:Str),(⟨[68]⟩:Str),(⟨[]⟩:Str)]:List Str) 5) ([(⟨[65]⟩:Str),(⟨[66]⟩:Str),(⟨[67]⟩:Str),(⟨[68]⟩:Str),(⟨[]⟩:Str)]:List Str))),.x (fun I' v hx=>∃ p5 c5,v=vT y6.l/\hx=[hB b1 (cRd y7 p5 c5)]/\(S4 I' p5 y7.b c5)),.x (fun I' v hx=>hx=[hB b (cProg y2 p2 c2 p3 c3)])] [[],[],[],[(1,false),(2,false),(6,true)],[(0,false),(7,true)]] [hB b2 (cProg y2 p2 c2 p3 c3)] [[hB b1 (cRd y4 p4 c4)],[hB b zTwo]] [(3,true),(4,true)] (zY [0,1,2]) ?_ ?_
 · refine Op<|Op<|Ox ?_<|Ox ?_<|Ox ?_<|On
   · intro I1 hf le1;refine dS [] ?_;have H:=iS I1;refine mU (rT [(⟨[65]⟩:Str),(⟨[66]⟩:Str),(⟨[67]⟩:Str),(⟨[68]⟩:Str),(⟨[]⟩:Str)]) ?_;intro b3 I02 le2 h9;have H:=H.trans le2;exact yL [] H ⟨_,rfl,rfl,h9⟩
   · rintro I1 hf le1 _ _ ⟨rfl,rfl⟩ _ _ ⟨b3,rfl,rfl,h9⟩ _ _ rfl;refine yV [15,16] rfl ?_;have H:=iS I1;have h7:=h7.mono le1;refine rS (jB y4 ([(⟨[65]⟩:Str),(⟨[66]⟩:Str),(⟨[67]⟩:Str),(⟨[68]⟩:Str),(⟨[]⟩:Str)]:List Str) _ hy2 h7 h9) rfl ?_;rintro I03 hs2 v2 k2 le3 - ⟨v05,kk1,rfl,rfl,rfl,h11⟩ -;have H:=H.trans le3;obtain ⟨p5,c5,rfl,h12⟩:=yA h11;exact yL [hB b1 (cRd y7 p5 c5)] H ⟨_,_,rfl,rfl,h12⟩
   rintro I1 hf le1 _ _ ⟨rfl,rfl⟩ _ _ rfl;refine yV [2,14] rfl ?_;have H:=iS I1;exact eQ 0 (cProg y2 p2 c2 p3 c3) (hB b (cProg y2 p2 c2 p3 c3)::hB b2 (cProg y2 p2 c2 p3 c3)::hf) rfl rfl rfl rfl<|zG3 (hx:=[hB b (cProg y2 p2 c2 p3 c3)]) rfl H rfl (zHT (v:=undef)) rfl
 rintro I04 le4 _ _ ⟨p5,c5,rfl,rfl,h12⟩ _ _ rfl;refine yV [2,17] rfl ?_;have ⟨h5,h6⟩:=m2 le4 h5 h6;refine yM [] [3] rfl<|zK<|xD ?_;obtain rfl:=zC N;exact xC ⟨_,_,(.cell 0 rfl rfl (by kernel_rfl) (.tmp rfl ResV.nil)),zQ,⟨_,_,rfl,rfl,⟨_,rfl,(xY ⟨_,_,rfl,h5,h6⟩)⟩,rfl⟩⟩
def vR (n0:Int) (low:Int) (high:Int):Option (Bool):=do
 let t6<-(do
   if (decide (low<=n0)) then
    pure (decide (n0<=high))
   else
    pure false
     : Option Bool)
 pure (id t6)
theorem uS:∀ n0 low high r,vR n0 low high=some r->∀ {I:Imm} ,RT 46 [vI n0,vI low,vI high] I [] (zT  r):=by
 intro n0 low high r N I;unfold vR at N;refine yJ Tryz.func46 fun B=>?_;have H:=iS I;refine vM []<|zK<|yD ?_;refine uB N [] (fun t6=>[(6,.bool t6)]) (fun o0 ho0=>?_) ?_
 · have H:=iS I;refine zM<|yE 4 [] [10] rfl<|wO [10] ho0 ?_ ?_
   · intro hc N;exact yM [] [6] rfl<|yW<|zU (ct N H)
   intro hc N;exact wU [] [(6,vF)]<|yW<|zU (ct N H)
 intro t6 I0 le hMc;refine zK<|xD ?_;obtain rfl:=zC hMc;exact uE
def fT (s:Str) (substr:Str):Option Bool:=match substr.l with | [c]=>some (decide (0<=Lib.indexByte s.l c)) | _=>none
theorem zDz:∀ (s substr:Str) r,fT s substr=some r->∀ {I:Imm},RT 136 [vT s.l,vT substr.l] I [] (zT r):=by
 intro s substr r N I;unfold fT at N;split at N
 · rename_i c hc;cases N
   rw [hc];exact zLi (fun w g=>(Tryz.strings_Contains_one ⟨⟨s.l⟩⟩ c w).mono fun e w' ⟨h1,h2⟩=>⟨h1,h2 ▸ RowKit.Below.refl _ _,Nat.le_of_eq (by rw [h2])⟩) fun k=>⟨_,rfl,rfl,rfl⟩
 cases N
def fH (s:Str):Option (Bool):=do
 let t2<-(do
   if ((s.l.length:Int)==1) then
    let y<-fT (⟨[65,66,67,68]⟩:Str) s
    pure (id y)
   else
    pure false
     : Option Bool)
 pure (id t2)
theorem kR:∀ s r,fH s=some r->∀ {I:Imm} ,RT 94 [vT s.l] I [] (zT  r):=by
 intro s r N I;unfold fH at N;refine yJ Tryz.func94 fun B=>?_;have H:=iS I;refine vM []<|zK<|yD ?_;refine uB N [] (fun t2=>[(2,.bool t2)]) (fun o0 ho0=>?_) ?_
 · have H:=iS I;refine zM<|yE 4 [] [6] rfl<|wO [6] ho0 ?_ ?_
   · intro hc N;refine yE 5 [] [7] rfl<|bE N fun y hy N=>uZ (zDz (⟨[65,66,67,68]⟩:Str) s _ hy ) ?_;intro I01 le;have H:=H.trans le;exact yM [] [2] rfl<|yW<|zU (ct N H)
   intro hc N;exact wU [] [(2,vF)]<|yW<|zU (ct N H)
 intro t2 I0 le1 hMc;refine zK<|xD ?_;obtain rfl:=zC hMc;exact uE
def fP (hsF:List HA) (r:Int):KT:=fun kk I' hs' v=>
  ∃ v0,hsF=hs'/\v=tupV [v0]/\v0=.int .i64 r
def vJ (s:(List Int)) (f0:(Int->Option Bool)) (t8:Int):Option (Out Unit (Int)):=do
 if (decide (t8<(s.length:Int))) then
  let x<-idx s t8
  let y<-f0 x
  if y then
   pure (.ret t8)
  else
   vJ s f0 (W (t8+1))
 else
  pure (.done ())
 partial_fixpoint
theorem zA6 (s:(List Int)) (f0:(Int->Option Bool)):∀ (t8:Int) (o:Out Unit (Int)),vJ s f0 t8=some o->∀ {B}{I0 I:Imm}{Q p c}{fv:Value}{hsF:List HA},I0.le I->(S4 I p s c)->(FV1 Tryz.prog I hsF fv f0)->NG Q->NO Q->(∀ (I':Imm) ,o=(.done ())->I0.le I'->T 19 B Q (.exit 0) I' hsF [])->(∀ r I' hs' m',o=(.ret r)->I0.le I'->RS Tryz.prog Tryz.f137 B (fP hsF r) I' hs' m'->T 19 B Q .ret I' hs' m')->J Tryz.prog 19 B (nav (bodyOf Tryz.f137) [1,0,1,0]) Q I hsF [(0,vS p s c),(1,fv),(7,vI (s.length:Int)),(8,vI t8)]:=by
 refine vJ.partial_correctness s f0 _ fun self ih t8 o N B I0 I Q p c fv hsF H h h1 hg ho hx hr=>yU hg ho<|yH [9] rfl<|zZ<|yG N ?_ ?_
 · intro hc N;refine zS<|zZ<|yF<|yH [5] rfl<|yX<|yE 3 [] [11,12,13] rfl<|bE N fun x hy N=>xT rfl rfl h hy ?_;intro ad ccs hat hrep;obtain rfl:=hrep;refine xO 0 hat [vI x] (vI x) rfl<|bE N fun y hy1 N=>zIo rfl rfl h1 hy1 rfl (List.append_nil _).symm ?_;rintro I0 v0 le rfl;refine vH (hs':=hsF) (List.append_nil _) ?_;have ⟨h,h1,H⟩:=m3 le h h1 H;refine zX rfl<|zK<|yG N ?_ ?_
   · intro hc1 N;exact yH [4] rfl<|xI<|zV<|zL<|zL<|hr _ _ _ _ (zC N).symm H ⟨_,_,(.tmp rfl ResV.nil),(fun _ h=>h),⟨_,rfl,rfl,rfl⟩⟩
   intro hc1 N;exact zS<|zO<|zK<|zM<|yM [] [8] rfl<|yT<|nT<|ih (W (t8+1)) _ N H h h1 hg ho hx hr
 intro hc N;exact wW<|yW<|hx _  (zC N).symm H
def nA (s:(List Int)) (f0:(Int->Option Bool)):Option (Int):=do
 match<-vJ s f0 0 with
 | .ret r0=>pure r0
 | .done _ =>
  pure (-1)
theorem zAx:∀ s f0 r,nA s f0=some r->∀ {I:Imm}{p c}{fv:Value}{hsF:List HA},(S4 I p s c)->(FV1 Tryz.prog I hsF fv f0)->RT 137 [vS p s c,fv] I hsF (fP hsF r):=by
 intro s f0 r N I p c fv hsF h h1;unfold nA at N;refine yJ Tryz.func137 fun B=>vM []<|zZ<|yH [7,8] rfl<|wK<|pM [(0,vS p s c),(1,fv),(7,vI (s.length:Int)),(8,vI 0)] ?_;obtain ⟨o0,ho0,hMl⟩:=zB N;refine zA6 s f0 0 o0 ho0 iR h h1 (fun _ _ _ h=>h) (fun _ _ h=>h) ?_ ?_
 · intro I01  heq le1;subst o0;refine zR<|uN [4] rfl<|zK<|xD ?_;obtain rfl:=zC hMl;exact xC ⟨_,_,(.tmp rfl ResV.nil),(fun _ h=>h),⟨_,rfl,rfl,rfl⟩⟩
 intro r0 I9 hs9 m9 heq9 le9 hrs9;subst heq9;refine zV<|zL ?_;obtain rfl:=zC hMl;exact xC hrs9
def zAV (hsF:List HA) (r:Bool):KT:=fun kk I' hs' v=>
  ∃ v0,hsF=hs'/\v=tupV [v0]/\v0=.bool r
def wA (s:(List Int)) (f0:(Int->Option Bool)):Option (Bool):=do
 let y<-nA s f0
 pure (decide (y>=0))
theorem qU:∀ s f0 r,wA s f0=some r->∀ {I:Imm}{p c}{fv:Value}{hsF:List HA},(S4 I p s c)->(FV1 Tryz.prog I hsF fv f0)->RT 95 [vS p s c,fv] I hsF (zAV hsF r):=by
 intro s f0 r N I p c fv hsF h h1;unfold wA at N;refine yJ Tryz.func95 fun B=>vM []<|yX<|yE 2 [] [5,6] rfl<|bE N fun y hy N=>zFr (hs1:=hsF) (rest:=[]) rfl rfl rfl rfl (by kernel_rfl) rfl (List.append_nil _).symm (zAx s f0 _ hy h h1) ?_;rintro I0 hs2 v2 k2 le - ⟨v0,rfl,rfl,rfl⟩ -;refine vH (hs':=hsF) (List.append_nil _) ?_;refine yM [] [4] rfl<|zK<|xD ?_;obtain rfl:=zC N;exact xC ⟨_,_,(.tmp rfl ResV.nil),(fun _ h=>h),⟨_,rfl,rfl,rfl⟩⟩
def sT (n0:Int):Option (Bool):=do
 let y<-vR n0 1 6
 pure (!y)
theorem zBL:∀ n0 r,sT n0=some r->∀ {I:Imm} ,RT 96 [vI n0] I [] (zT  r):=by
 intro n0 r N I;unfold sT at N;refine yJ Tryz.func96 fun B=>vM []<|yX<|yE 1 [] [3] rfl<|bE N fun y hy N=>uZ (uS n0 1 6 _ hy ) fun I0 le=>wU [] [(2,.bool (!y))]<|zK<|xD ?_;obtain rfl:=zC N;exact uE
def oC (list:(List zD)) (t7:Int):Option (Out Unit (Bool)):=do
 if (decide (t7<(list.length:Int))) then
  let x<-idx list t7
  let t42<-(do
    let y<-fH x.Name
    if (!y) then
     pure true
    else
     if (decide (t7>0)) then
      let x1<-idx list (W (t7 - 1))
      if (!(Op.bytesLess x1.Name.l x.Name.l)) then
       pure true
      else
       let y1<-vR (x.Dims.length:Int) 1 2
       if (!y1) then
        pure true
       else
        let y2<-wA x.Dims sT
        pure (id y2)
     else
      let y3<-vR (x.Dims.length:Int) 1 2
      if (!y3) then
       pure true
      else
       let y4<-wA x.Dims sT
       pure (id y4)
      : Option Bool)
  if t42 then
   pure (.ret false)
  else
   oC list (W (t7+1))
 else
  pure (.done ())
 partial_fixpoint
theorem zEA (list:(List zD)):∀ (t7:Int) (o:Out Unit (Bool)),oC list t7=some o->∀ {B}{I0 I:Imm}{Q p c},I0.le I->(S4 I p list c)->NG Q->NO Q->(∀ (I':Imm) ,o=(.done ())->I0.le I'->T 47 B Q (.exit 0) I' [] [(0,vS p list c)])->(∀ r I' hs' m',o=(.ret r)->I0.le I'->RS Tryz.prog Tryz.f57 B (zT  r) I' hs' m'->T 47 B Q .ret I' hs' m')->J Tryz.prog 47 B (nav (bodyOf Tryz.f57) [1,0,1,0]) Q I [] [(0,vS p list c),(5,vS p list c),(6,vI (list.length:Int)),(7,vI t7)]:=by
 refine oC.partial_correctness list _ fun self ih t7 o N B I0 I Q p c H h hg ho hx hr=>yU hg ho<|yH [8] rfl<|zZ<|yG N ?_ ?_
 · intro hc N;refine zS<|zZ<|yF<|yC<|yE 1 [] [9] rfl<|bE N fun x hy N=>xT rfl rfl h hy ?_;intro ad ccs hat hrep;obtain ⟨p1,c1,rfl,h1⟩:=xL hrep;refine xO 0 hat (cArr x p1 c1) (vA (cArr x p1 c1)) rfl<|xU [vT ([]),z0] ?_;intro b hb;refine yE 5 [] [3] rfl<|yZ 0 (cArr x p1 c1) rfl<|zX rfl<|zK<|yD ?_;refine uB N [] (fun t42=>[(0,vS p list c),(5,vS p list c),(6,vI (list.length:Int)),(7,vI t7),(42,.bool t42)]) (fun o0 ho0=>?_) ?_
   · have H:=iS I;obtain ⟨y,hy1,N⟩:=zB ho0;cases hc1:(!y) with
     | true =>
      have hM0:=tC hc1 N;refine wP [.p (vP b 0) [],.p (vT x.Name.l) [0],.q (.bool y),.q vY,.q vY,.p undef [],.p undef [],.p undef [],.p undef [],.p undef [],.p undef [],.p undef [],.p undef [],.p undef [],.p undef [],.p undef [],.p undef [],.p undef [],.p vY [],.p vY [],.p undef [],.p undef [],.p undef [],.p undef [],.p undef [],.p vY [],.p vY [],.p undef [],.p undef [],.p undef [],.p vY []] [[],[(0,false)],[(1,false)],[(2,false)],[(3,false)],[(4,false)],[(4,false),(5,false)],[(4,false),(6,false)],[(7,false)],[(7,false)],[(7,false),(9,false)],[(7,false),(8,false),(10,false)],[(7,false),(11,false)],[(7,false),(12,false)],[(7,false)],[(7,false),(14,false)],[(7,false),(13,false),(15,false)],[(4,false),(7,false),(16,false)],[(4,false),(17,false)],[(18,false)],[(19,false)],[(19,false),(20,false)],[(19,false),(21,false)],[(19,false),(22,false)],[(19,false),(23,false)],[(19,false),(24,false)],[(25,false)],[(26,false)],[(26,false),(27,false)],[(26,false),(28,false)],[(26,false),(29,false)]] [hB b (cArr x p1 c1)] [] [(30,false)] (zY [0]) ?_ ?_
      · refine Op<|Op<|Oq ?_<|Oq ?_<|Oq ?_<|Op<|Op<|Op<|Op<|Op<|Op<|Op<|Op<|Op<|Op<|Op<|Op<|Op<|Op<|Op<|Op<|Op<|Op<|Op<|Op<|Op<|Op<|Op<|Op<|Op<|Op<|On
        · intro I1 hf le1;refine yV [13] rfl ?_;have H:=iS I1;refine uZ (kR x.Name _ hy1 ) ?_;intro I01 le;have H:=H.trans le;exact xB H
        · intro I1 hf le1;refine yV [14] rfl<|qA 4 [(15,.bool (!y))] ?_;rw [hc1];exact xB iR
        intro I1 hf le1;exact dS [(15,vY)]<|qA 5 [(16,vY)]<|xB iR
      intro I02 le1;refine yV [0,5,6,7,42] rfl ?_;have H:=H.trans le1;exact zX rfl<|wG zQ<|yW<|zU (ct hM0 H)
     | false =>
      have hM01:=uL hc1 N;cases hc2:(decide (t7>0)) with
      | true =>
       have hM02:=tC hc2 hM01;obtain ⟨x1,hy2,N⟩:=zB hM02;cases hc3:(!(Op.bytesLess x1.Name.l x.Name.l)) with
       | true =>
        have hM03:=tC hc3 N;refine wP [.p (vP b 0) [],.p (vT x.Name.l) [0],.q (.bool y),.q vF,.q vF,.p (vI t7) [],.q vY,.q vY,.p (vS p list c) [],.p (vI t7) [],.p (vI (W (t7 - 1))) [],.x (ePArr x1),.x (ePArr x1),.q (vT x1.Name.l),.p (vP b 0) [],.p (vT x.Name.l) [0],.q vY,.q vY,.q vY,.q vY,.p undef [],.p undef [],.p undef [],.p undef [],.p undef [],.p vY [],.p vY [],.p undef [],.p undef [],.p undef [],.p vY []] [[],[(0,false)],[(1,false)],[(2,false)],[(3,false)],[(4,false)],[(4,false),(5,false)],[(4,false),(6,false)],[(7,false)],[(7,false)],[(7,false),(9,false)],[(7,false),(8,false),(10,false)],[(7,false),(11,false)],[(7,false),(12,false)],[(7,false)],[(7,false),(14,false)],[(7,false),(13,false),(15,false)],[(4,false),(7,false),(16,false)],[(4,false),(17,false)],[(18,false)],[(19,false)],[(19,false),(20,false)],[(19,false),(21,false)],[(19,false),(22,false)],[(19,false),(23,false)],[(19,false),(24,false)],[(25,false)],[(26,false)],[(26,false),(27,false)],[(26,false),(28,false)],[(26,false),(29,false)]] [hB b (cArr x p1 c1)] [] [(30,false)] (zY [0]) ?_ ?_
        · refine Op<|Op<|Oq ?_<|Oq ?_<|Oq ?_<|Op<|Oq ?_<|Oq ?_<|Op<|Op<|Op<|Ox ?_<|Ox ?_<|Oq ?_<|Op<|Op<|Oq ?_<|Oq ?_<|Oq ?_<|Oq ?_<|Op<|Op<|Op<|Op<|Op<|Op<|Op<|Op<|Op<|Op<|Op<|On
          · intro I1 hf le1;refine yV [13] rfl ?_;have H:=iS I1;refine uZ (kR x.Name _ hy1 ) ?_;intro I01 le;have H:=H.trans le;exact xB H
          · intro I1 hf le1;refine yV [14] rfl<|qA 4 [(15,.bool (!y))] ?_;rw [hc1];exact xB iR
          · intro I1 hf le1;exact dS [(15,vF)]<|qA 5 [(16,vF)]<|xB iR
          · intro I1 hf le1;refine yV [16,17] rfl<|qA 7 [(18,.bool (decide (t7>0)))] ?_;rw [hc2];exact xB iR
          · intro I1 hf le1;exact yV [16,18] rfl<|qA 8 [(19,vY)]<|xB iR
          · intro I1 hf le1;refine yV [19,20,22] rfl ?_;have h:=h.mono le1;refine xT rfl rfl h hy2 ?_;intro ad1 ccs1 hat1 hrep1;obtain ⟨p2,c2,rfl,h3⟩:=xL hrep1;exact yL [] iR ⟨_,_,_,rfl,rfl,hat1,h3⟩
          · rintro I1 hf le1 _ _ ⟨rfl,rfl⟩ _ _ ⟨ad1,p2,c2,rfl,rfl,hat1,h3⟩;exact yV [19,23] rfl<|qA 13 [(24,.pointer (some ad1))]<|yL [] iR ⟨_,_,_,rfl,rfl,hat1,h3⟩
          · rintro I1 hf le1 _ _ ⟨rfl,rfl⟩ _ _ ⟨ad11,p21,c21,rfl,rfl,hat11,h31⟩;exact yV [19,24] rfl<|xO 0 hat11 [vT x1.Name.l] (vT x1.Name.l) rfl<|xB iR
          · intro I1 hf le1;refine yV [19,25,27] rfl<|qA 17 [(28,.bool (!(Op.bytesLess x1.Name.l x.Name.l)))] ?_;rw [hc3];exact xB iR
          · intro I1 hf le1;exact yV [16,19,28] rfl<|qA 18 [(29,vY)]<|xB iR
          · intro I1 hf le1;exact yV [16,29] rfl<|qA 19 [(30,vY)]<|xB iR
          intro I1 hf le1;exact dS [(30,vY)]<|qA 20 [(31,vY)]<|xB iR
        intro I03 le2;refine yV [0,5,6,7,42] rfl ?_;have H:=H.trans le2;exact zX rfl<|wG zQ<|yW<|zU (ct hM03 H)
       | false =>
        have hM04:=uL hc3 N;obtain ⟨y1,hy3,N⟩:=zB hM04;cases hc4:(!y1) with
        | true =>
         have hM05:=tC hc4 N;refine wP [.p (vP b 0) [],.p (vT x.Name.l) [0],.q (.bool y),.q vF,.q vF,.p (vI t7) [],.q vY,.q vY,.p (vS p list c) [],.p (vI t7) [],.p (vI (W (t7 - 1))) [],.x (ePArr x1),.x (ePArr x1),.q (vT x1.Name.l),.p (vP b 0) [],.p (vT x.Name.l) [0],.q vF,.q vF,.q vF,.q vF,.p (vP b 1) [],.p (vS p1 x.Dims c1) [0],.p (vI (x.Dims.length:Int)) [],.q (.bool y1),.q vY,.q vY,.q vY,.p undef [],.p undef [],.p undef [],.p vY []] [[],[(0,false)],[(1,false)],[(2,false)],[(3,false)],[(4,false)],[(4,false),(5,false)],[(4,false),(6,false)],[(7,false)],[(7,false)],[(7,false),(9,false)],[(7,false),(8,false),(10,false)],[(7,false),(11,false)],[(7,false),(12,false)],[(7,false)],[(7,false),(14,false)],[(7,false),(13,false),(15,false)],[(4,false),(7,false),(16,false)],[(4,false),(17,false)],[(18,false)],[(19,false)],[(19,false),(20,false)],[(19,false),(21,false)],[(19,false),(22,false)],[(19,false),(23,false)],[(19,false),(24,false)],[(25,false)],[(26,false)],[(26,false),(27,false)],[(26,false),(28,false)],[(26,false),(29,false)]] [hB b (cArr x p1 c1)] [] [(30,false)] (zY [0]) ?_ ?_
         · refine Op<|Op<|Oq ?_<|Oq ?_<|Oq ?_<|Op<|Oq ?_<|Oq ?_<|Op<|Op<|Op<|Ox ?_<|Ox ?_<|Oq ?_<|Op<|Op<|Oq ?_<|Oq ?_<|Oq ?_<|Oq ?_<|Op<|Op<|Op<|Oq ?_<|Oq ?_<|Oq ?_<|Oq ?_<|Op<|Op<|Op<|Op<|On
           · intro I1 hf le1;refine yV [13] rfl ?_;have H:=iS I1;refine uZ (kR x.Name _ hy1 ) ?_;intro I01 le;have H:=H.trans le;exact xB H
           · intro I1 hf le1;refine yV [14] rfl<|qA 4 [(15,.bool (!y))] ?_;rw [hc1];exact xB iR
           · intro I1 hf le1;exact dS [(15,vF)]<|qA 5 [(16,vF)]<|xB iR
           · intro I1 hf le1;refine yV [16,17] rfl<|qA 7 [(18,.bool (decide (t7>0)))] ?_;rw [hc2];exact xB iR
           · intro I1 hf le1;exact yV [16,18] rfl<|qA 8 [(19,vY)]<|xB iR
           · intro I1 hf le1;refine yV [19,20,22] rfl ?_;have h:=h.mono le1;refine xT rfl rfl h hy2 ?_;intro ad1 ccs1 hat1 hrep1;obtain ⟨p2,c2,rfl,h3⟩:=xL hrep1;exact yL [] iR ⟨_,_,_,rfl,rfl,hat1,h3⟩
           · rintro I1 hf le1 _ _ ⟨rfl,rfl⟩ _ _ ⟨ad1,p2,c2,rfl,rfl,hat1,h3⟩;exact yV [19,23] rfl<|qA 13 [(24,.pointer (some ad1))]<|yL [] iR ⟨_,_,_,rfl,rfl,hat1,h3⟩
           · rintro I1 hf le1 _ _ ⟨rfl,rfl⟩ _ _ ⟨ad11,p21,c21,rfl,rfl,hat11,h31⟩;exact yV [19,24] rfl<|xO 0 hat11 [vT x1.Name.l] (vT x1.Name.l) rfl<|xB iR
           · intro I1 hf le1;refine yV [19,25,27] rfl<|qA 17 [(28,.bool (!(Op.bytesLess x1.Name.l x.Name.l)))] ?_;rw [hc3];exact xB iR
           · intro I1 hf le1;exact yV [16,19,28] rfl<|qA 18 [(29,vF)]<|xB iR
           · intro I1 hf le1;exact yV [16,29] rfl<|qA 19 [(30,vF)]<|xB iR
           · intro I1 hf le1;exact dS [(30,vF)]<|qA 20 [(31,vF)]<|xB iR
           · intro I1 hf le1;refine yV [31,34] rfl ?_;have H:=iS I1;refine uZ (uS (x.Dims.length:Int) 1 2 _ hy3 ) ?_;intro I04 le3;have H:=H.trans le3;exact xB H
           · intro I1 hf le1;refine yV [31,35] rfl<|qA 25 [(36,.bool (!y1))] ?_;rw [hc4];exact xB iR
           · intro I1 hf le1;exact yV [31,36] rfl<|qA 26 [(37,vY)]<|xB iR
           intro I1 hf le1;exact dS [(37,vY)]<|qA 27 [(38,vY)]<|xB iR
         intro I05 le4;refine yV [0,5,6,7,42] rfl ?_;have H:=H.trans le4;exact zX rfl<|wG zQ<|yW<|zU (ct hM05 H)
        | false =>
         have hM06:=uL hc4 N;obtain ⟨y2,hy4,N⟩:=zB hM06;refine wP [.p (vP b 0) [],.p (vT x.Name.l) [0],.q (.bool y),.q vF,.q vF,.p (vI t7) [],.q vY,.q vY,.p (vS p list c) [],.p (vI t7) [],.p (vI (W (t7 - 1))) [],.x (ePArr x1),.x (ePArr x1),.q (vT x1.Name.l),.p (vP b 0) [],.p (vT x.Name.l) [0],.q vF,.q vF,.q vF,.q vF,.p (vP b 1) [],.p (vS p1 x.Dims c1) [0],.p (vI (x.Dims.length:Int)) [],.q (.bool y1),.q vF,.q vF,.q vF,.p (vP b 1) [],.p (vS p1 x.Dims c1) [0],.q (.bool y2),.p (.bool y2) []] [[],[(0,false)],[(1,false)],[(2,false)],[(3,false)],[(4,false)],[(4,false),(5,false)],[(4,false),(6,false)],[(7,false)],[(7,false)],[(7,false),(9,false)],[(7,false),(8,false),(10,false)],[(7,false),(11,false)],[(7,false),(12,false)],[(7,false)],[(7,false),(14,false)],[(7,false),(13,false),(15,false)],[(4,false),(7,false),(16,false)],[(4,false),(17,false)],[(18,false)],[(19,false)],[(19,false),(20,false)],[(19,false),(21,false)],[(19,false),(22,false)],[(19,false),(23,false)],[(19,false),(24,false)],[(25,false)],[(26,false)],[(26,false),(27,false)],[(26,false),(28,false)],[(26,false),(29,false)]] [hB b (cArr x p1 c1)] [] [(30,false)] (zY [0]) ?_ ?_
         · refine Op<|Op<|Oq ?_<|Oq ?_<|Oq ?_<|Op<|Oq ?_<|Oq ?_<|Op<|Op<|Op<|Ox ?_<|Ox ?_<|Oq ?_<|Op<|Op<|Oq ?_<|Oq ?_<|Oq ?_<|Oq ?_<|Op<|Op<|Op<|Oq ?_<|Oq ?_<|Oq ?_<|Oq ?_<|Op<|Op<|Oq ?_<|Op<|On
           · intro I1 hf le1;refine yV [13] rfl ?_;have H:=iS I1;refine uZ (kR x.Name _ hy1 ) ?_;intro I01 le;have H:=H.trans le;exact xB H
           · intro I1 hf le1;refine yV [14] rfl<|qA 4 [(15,.bool (!y))] ?_;rw [hc1];exact xB iR
           · intro I1 hf le1;exact dS [(15,vF)]<|qA 5 [(16,vF)]<|xB iR
           · intro I1 hf le1;refine yV [16,17] rfl<|qA 7 [(18,.bool (decide (t7>0)))] ?_;rw [hc2];exact xB iR
           · intro I1 hf le1;exact yV [16,18] rfl<|qA 8 [(19,vY)]<|xB iR
           · intro I1 hf le1;refine yV [19,20,22] rfl ?_;have h:=h.mono le1;refine xT rfl rfl h hy2 ?_;intro ad1 ccs1 hat1 hrep1;obtain ⟨p2,c2,rfl,h3⟩:=xL hrep1;exact yL [] iR ⟨_,_,_,rfl,rfl,hat1,h3⟩
           · rintro I1 hf le1 _ _ ⟨rfl,rfl⟩ _ _ ⟨ad1,p2,c2,rfl,rfl,hat1,h3⟩;exact yV [19,23] rfl<|qA 13 [(24,.pointer (some ad1))]<|yL [] iR ⟨_,_,_,rfl,rfl,hat1,h3⟩
           · rintro I1 hf le1 _ _ ⟨rfl,rfl⟩ _ _ ⟨ad11,p21,c21,rfl,rfl,hat11,h31⟩;exact yV [19,24] rfl<|xO 0 hat11 [vT x1.Name.l] (vT x1.Name.l) rfl<|xB iR
           · intro I1 hf le1;refine yV [19,25,27] rfl<|qA 17 [(28,.bool (!(Op.bytesLess x1.Name.l x.Name.l)))] ?_;rw [hc3];exact xB iR
           · intro I1 hf le1;exact yV [16,19,28] rfl<|qA 18 [(29,vF)]<|xB iR
           · intro I1 hf le1;exact yV [16,29] rfl<|qA 19 [(30,vF)]<|xB iR
           · intro I1 hf le1;exact dS [(30,vF)]<|qA 20 [(31,vF)]<|xB iR
           · intro I1 hf le1;refine yV [31,34] rfl ?_;have H:=iS I1;refine uZ (uS (x.Dims.length:Int) 1 2 _ hy3 ) ?_;intro I04 le3;have H:=H.trans le3;exact xB H
           · intro I1 hf le1;refine yV [31,35] rfl<|qA 25 [(36,.bool (!y1))] ?_;rw [hc4];exact xB iR
           · intro I1 hf le1;exact yV [31,36] rfl<|qA 26 [(37,vF)]<|xB iR
           · intro I1 hf le1;exact dS [(37,vF)]<|qA 27 [(38,vF)]<|xB iR
           intro I1 hf le1;refine yV [38,40] rfl ?_;have H:=iS I1;have ⟨h,h1⟩:=m2 le1 h h1;have hf0:FV1 Tryz.prog I1 [] (.func (.func 96) ⟨[]⟩ ⟨[]⟩) sT:=by
             refine FV1.intro ?_;intro I1 le1 x0 r u0 hF k0;obtain rfl:=k0;exact (zBL x0 r hF ).mono (by rintro k i hs u ⟨v0,rfl,rfl,h⟩; exact ⟨rfl,h⟩)
           refine xH (qU x.Dims sT _ hy4 h1 hf0) ?_;rintro I06 hs2 v2 k2 le5 - ⟨v04,rfl,rfl,rfl⟩ -;have H:=H.trans le5;exact xB H
         intro I07 le6;refine yV [0,5,6,7,42] rfl ?_;have H:=H.trans le6;exact zX rfl<|wG zQ<|yW<|zU (ct N H)
      | false =>
       have hM07:=uL hc2 hM01;obtain ⟨y3,hy5,N⟩:=zB hM07;cases hc5:(!y3) with
       | true =>
        have hM08:=tC hc5 N;refine wP [.p (vP b 0) [],.p (vT x.Name.l) [0],.q (.bool y),.q vF,.q vF,.p (vI t7) [],.q vF,.q vF,.p undef [],.p undef [],.p undef [],.p undef [],.p undef [],.p undef [],.p undef [],.p undef [],.p undef [],.p vF [],.p vF [],.p vF [],.p (vP b 1) [],.p (vS p1 x.Dims c1) [0],.p (vI (x.Dims.length:Int)) [],.q (.bool y3),.q vY,.q vY,.q vY,.p undef [],.p undef [],.p undef [],.p vY []] [[],[(0,false)],[(1,false)],[(2,false)],[(3,false)],[(4,false)],[(4,false),(5,false)],[(4,false),(6,false)],[(7,false)],[(7,false)],[(7,false),(9,false)],[(7,false),(8,false),(10,false)],[(7,false),(11,false)],[(7,false),(12,false)],[(7,false)],[(7,false),(14,false)],[(7,false),(13,false),(15,false)],[(4,false),(7,false),(16,false)],[(4,false),(17,false)],[(18,false)],[(19,false)],[(19,false),(20,false)],[(19,false),(21,false)],[(19,false),(22,false)],[(19,false),(23,false)],[(19,false),(24,false)],[(25,false)],[(26,false)],[(26,false),(27,false)],[(26,false),(28,false)],[(26,false),(29,false)]] [hB b (cArr x p1 c1)] [] [(30,false)] (zY [0]) ?_ ?_
        · refine Op<|Op<|Oq ?_<|Oq ?_<|Oq ?_<|Op<|Oq ?_<|Oq ?_<|Op<|Op<|Op<|Op<|Op<|Op<|Op<|Op<|Op<|Op<|Op<|Op<|Op<|Op<|Op<|Oq ?_<|Oq ?_<|Oq ?_<|Oq ?_<|Op<|Op<|Op<|Op<|On
          · intro I1 hf le1;refine yV [13] rfl ?_;have H:=iS I1;refine uZ (kR x.Name _ hy1 ) ?_;intro I01 le;have H:=H.trans le;exact xB H
          · intro I1 hf le1;refine yV [14] rfl<|qA 4 [(15,.bool (!y))] ?_;rw [hc1];exact xB iR
          · intro I1 hf le1;exact dS [(15,vF)]<|qA 5 [(16,vF)]<|xB iR
          · intro I1 hf le1;refine yV [16,17] rfl<|qA 7 [(18,.bool (decide (t7>0)))] ?_;rw [hc2];exact xB iR
          · intro I1 hf le1;exact yV [16,18] rfl<|qA 8 [(19,vF)]<|xB iR
          · intro I1 hf le1;refine yV [31,34] rfl ?_;have H:=iS I1;refine uZ (uS (x.Dims.length:Int) 1 2 _ hy5 ) ?_;intro I08 le7;have H:=H.trans le7;exact xB H
          · intro I1 hf le1;refine yV [31,35] rfl<|qA 25 [(36,.bool (!y3))] ?_;rw [hc5];exact xB iR
          · intro I1 hf le1;exact yV [31,36] rfl<|qA 26 [(37,vY)]<|xB iR
          intro I1 hf le1;exact dS [(37,vY)]<|qA 27 [(38,vY)]<|xB iR
        intro I09 le8;refine yV [0,5,6,7,42] rfl ?_;have H:=H.trans le8;exact zX rfl<|wG zQ<|yW<|zU (ct hM08 H)
       | false =>
        have hM09:=uL hc5 N;obtain ⟨y4,hy6,N⟩:=zB hM09;refine wP [.p (vP b 0) [],.p (vT x.Name.l) [0],.q (.bool y),.q vF,.q vF,.p (vI t7) [],.q vF,.q vF,.p undef [],.p undef [],.p undef [],.p undef [],.p undef [],.p undef [],.p undef [],.p undef [],.p undef [],.p vF [],.p vF [],.p vF [],.p (vP b 1) [],.p (vS p1 x.Dims c1) [0],.p (vI (x.Dims.length:Int)) [],.q (.bool y3),.q vF,.q vF,.q vF,.p (vP b 1) [],.p (vS p1 x.Dims c1) [0],.q (.bool y4),.p (.bool y4) []] [[],[(0,false)],[(1,false)],[(2,false)],[(3,false)],[(4,false)],[(4,false),(5,false)],[(4,false),(6,false)],[(7,false)],[(7,false)],[(7,false),(9,false)],[(7,false),(8,false),(10,false)],[(7,false),(11,false)],[(7,false),(12,false)],[(7,false)],[(7,false),(14,false)],[(7,false),(13,false),(15,false)],[(4,false),(7,false),(16,false)],[(4,false),(17,false)],[(18,false)],[(19,false)],[(19,false),(20,false)],[(19,false),(21,false)],[(19,false),(22,false)],[(19,false),(23,false)],[(19,false),(24,false)],[(25,false)],[(26,false)],[(26,false),(27,false)],[(26,false),(28,false)],[(26,false),(29,false)]] [hB b (cArr x p1 c1)] [] [(30,false)] (zY [0]) ?_ ?_
        · refine Op<|Op<|Oq ?_<|Oq ?_<|Oq ?_<|Op<|Oq ?_<|Oq ?_<|Op<|Op<|Op<|Op<|Op<|Op<|Op<|Op<|Op<|Op<|Op<|Op<|Op<|Op<|Op<|Oq ?_<|Oq ?_<|Oq ?_<|Oq ?_<|Op<|Op<|Oq ?_<|Op<|On
          · intro I1 hf le1;refine yV [13] rfl ?_;have H:=iS I1;refine uZ (kR x.Name _ hy1 ) ?_;intro I01 le;have H:=H.trans le;exact xB H
          · intro I1 hf le1;refine yV [14] rfl<|qA 4 [(15,.bool (!y))] ?_;rw [hc1];exact xB iR
          · intro I1 hf le1;exact dS [(15,vF)]<|qA 5 [(16,vF)]<|xB iR
          · intro I1 hf le1;refine yV [16,17] rfl<|qA 7 [(18,.bool (decide (t7>0)))] ?_;rw [hc2];exact xB iR
          · intro I1 hf le1;exact yV [16,18] rfl<|qA 8 [(19,vF)]<|xB iR
          · intro I1 hf le1;refine yV [31,34] rfl ?_;have H:=iS I1;refine uZ (uS (x.Dims.length:Int) 1 2 _ hy5 ) ?_;intro I08 le7;have H:=H.trans le7;exact xB H
          · intro I1 hf le1;refine yV [31,35] rfl<|qA 25 [(36,.bool (!y3))] ?_;rw [hc5];exact xB iR
          · intro I1 hf le1;exact yV [31,36] rfl<|qA 26 [(37,vF)]<|xB iR
          · intro I1 hf le1;exact dS [(37,vF)]<|qA 27 [(38,vF)]<|xB iR
          intro I1 hf le1;refine yV [38,40] rfl ?_;have H:=iS I1;have ⟨h,h1⟩:=m2 le1 h h1;have hf01:FV1 Tryz.prog I1 [] (.func (.func 96) ⟨[]⟩ ⟨[]⟩) sT:=by
            refine FV1.intro ?_;intro I1 le1 x0 r u0 hF k0;obtain rfl:=k0;exact (zBL x0 r hF ).mono (by rintro k i hs u ⟨v0,rfl,rfl,h⟩; exact ⟨rfl,h⟩)
          refine xH (qU x.Dims sT _ hy6 h1 hf01) ?_;rintro I010 hs2 v2 k2 le9 - ⟨v06,rfl,rfl,rfl⟩ -;have H:=H.trans le9;exact xB H
        intro I011 le10;refine yV [0,5,6,7,42] rfl ?_;have H:=H.trans le10;exact zX rfl<|wG zQ<|yW<|zU (ct N H)
   intro t42 I0 le11 hMc;have ⟨h,H⟩:=m2 le11 h H;refine zK<|yG hMc ?_ ?_
   · intro hc6 N;exact vM [(2,vF)]<|xI<|zV<|zL<|zL<|hr _ _ _ _ (zC N).symm H ⟨_,_,(.tmp rfl ResV.nil),zQ,⟨_,rfl,rfl,rfl⟩⟩
   intro hc6 N;exact zS<|zO<|zK<|zM<|yM [] [7] rfl<|yT<|nT<|ih (W (t7+1)) _ N H h hg ho hx hr
 intro hc N;exact wW<|yW<|hx _  (zC N).symm H
def fZ (list:(List zD)):Option (Bool):=do
 match<-oC list 0 with
 | .ret r0=>pure r0
 | .done _ =>
  pure (decide ((list.length:Int)<=4))
theorem zGR:∀ list r,fZ list=some r->∀ {I:Imm}{p c},(S4 I p list c)->RT 57 [vS p list c] I [] (zT  r):=by
 intro list r N I p c h;unfold fZ at N;refine yJ Tryz.func57 fun B=>vM []<|zZ<|yH [5,6,7] rfl<|wK<|pM [(0,vS p list c),(5,vS p list c),(6,vI (list.length:Int)),(7,vI 0)] ?_;obtain ⟨o01,ho01,hMl⟩:=zB N;refine zEA list 0 o01 ho01 iR h (fun _ _ _ h=>h) (fun _ _ h=>h) ?_ ?_
 · intro I012  heq1 le12;subst o01;refine zR<|uN [2] rfl<|zK<|xD ?_;obtain rfl:=zC hMl;exact uE
 intro r0 I9 hs9 m9 heq9 le9 hrs9;subst heq9;refine zV<|zL ?_;obtain rfl:=zC hMl;exact xC hrs9
def pV (hsF:List HA) (r:Int):KT:=fun kk I' hs' v=>
  ∃ v0,hsF=hs'/\v=tupV [v0]/\v0=.int .i64 r
def xJ (s:(List zA)) (f0:(zA->Option Bool)) (t8:Int):Option (Out Unit (Int)):=do
 if (decide (t8<(s.length:Int))) then
  let x<-idx s t8
  let y<-f0 x
  if y then
   pure (.ret t8)
  else
   xJ s f0 (W (t8+1))
 else
  pure (.done ())
 partial_fixpoint
theorem gS (s:(List zA)) (f0:(zA->Option Bool)):∀ (t8:Int) (o:Out Unit (Int)),xJ s f0 t8=some o->∀ {B}{I0 I:Imm}{Q p c}{fv:Value}{hsF:List HA},I0.le I->(S4 I p s c)->(FV1 Tryz.prog I hsF fv f0)->NG Q->NO Q->(∀ (I':Imm) ,o=(.done ())->I0.le I'->T 19 B Q (.exit 0) I' hsF [])->(∀ r I' hs' m',o=(.ret r)->I0.le I'->RS Tryz.prog Tryz.f175 B (pV hsF r) I' hs' m'->T 19 B Q .ret I' hs' m')->J Tryz.prog 19 B (nav (bodyOf Tryz.f175) [1,0,1,0]) Q I hsF [(0,vS p s c),(1,fv),(7,vI (s.length:Int)),(8,vI t8)]:=by
 refine xJ.partial_correctness s f0 _ fun self ih t8 o N B I0 I Q p c fv hsF H h h1 hg ho hx hr=>yU hg ho<|yH [9] rfl<|zZ<|yG N ?_ ?_
 · intro hc N;refine zS<|zZ<|yF<|yH [5] rfl<|yX<|yE 3 [] [11,12,13] rfl<|bE N fun x hy N=>xT rfl rfl h hy ?_;intro ad ccs hat hrep;obtain ⟨p1,c1,rfl,h2⟩:=yB hrep;refine xO 0 hat (cAff x p1 c1) (vA (cAff x p1 c1)) rfl<|bE N fun y hy1 N=>zIo rfl rfl h1 hy1 ⟨_,rfl,(yI ⟨_,rfl,h2⟩)⟩ (List.append_nil _).symm ?_;rintro I0 v01 le rfl;refine vH (hs':=hsF) (List.append_nil _) ?_;have ⟨h,h1,H⟩:=m3 le h h1 H;refine zX rfl<|zK<|yG N ?_ ?_
   · intro hc1 N;exact yH [4] rfl<|xI<|zV<|zL<|zL<|hr _ _ _ _ (zC N).symm H ⟨_,_,(.tmp rfl ResV.nil),(fun _ h=>h),⟨_,rfl,rfl,rfl⟩⟩
   intro hc1 N;exact zS<|zO<|zK<|zM<|yM [] [8] rfl<|yT<|nT<|ih (W (t8+1)) _ N H h h1 hg ho hx hr
 intro hc N;exact wW<|yW<|hx _  (zC N).symm H
def uG (s:(List zA)) (f0:(zA->Option Bool)):Option (Int):=do
 match<-xJ s f0 0 with
 | .ret r0=>pure r0
 | .done _ =>
  pure (-1)
theorem fN:∀ s f0 r,uG s f0=some r->∀ {I:Imm}{p c}{fv:Value}{hsF:List HA},(S4 I p s c)->(FV1 Tryz.prog I hsF fv f0)->RT 175 [vS p s c,fv] I hsF (pV hsF r):=by
 intro s f0 r N I p c fv hsF h h1;unfold uG at N;refine yJ Tryz.func175 fun B=>vM []<|zZ<|yH [7,8] rfl<|wK<|pM [(0,vS p s c),(1,fv),(7,vI (s.length:Int)),(8,vI 0)] ?_;obtain ⟨o0,ho0,hMl⟩:=zB N;refine gS s f0 0 o0 ho0 iR h h1 (fun _ _ _ h=>h) (fun _ _ h=>h) ?_ ?_
 · intro I01  heq le1;subst o0;refine zR<|uN [4] rfl<|zK<|xD ?_;obtain rfl:=zC hMl;exact xC ⟨_,_,(.tmp rfl ResV.nil),(fun _ h=>h),⟨_,rfl,rfl,rfl⟩⟩
 intro r0 I9 hs9 m9 heq9 le9 hrs9;subst heq9;refine zV<|zL ?_;obtain rfl:=zC hMl;exact xC hrs9
def jN (hsF:List HA) (r:Bool):KT:=fun kk I' hs' v=>
  ∃ v0,hsF=hs'/\v=tupV [v0]/\v0=.bool r
def xV (s:(List zA)) (f0:(zA->Option Bool)):Option (Bool):=do
 let y<-uG s f0
 pure (decide (y>=0))
theorem pS:∀ s f0 r,xV s f0=some r->∀ {I:Imm}{p c}{fv:Value}{hsF:List HA},(S4 I p s c)->(FV1 Tryz.prog I hsF fv f0)->RT 140 [vS p s c,fv] I hsF (jN hsF r):=by
 intro s f0 r N I p c fv hsF h h1;unfold xV at N;refine yJ Tryz.func140 fun B=>vM []<|yX<|yE 2 [] [5,6] rfl<|bE N fun y hy N=>zFr (hs1:=hsF) (rest:=[]) rfl rfl rfl rfl (by kernel_rfl) rfl (List.append_nil _).symm (fN s f0 _ hy h h1) ?_;rintro I0 hs2 v2 k2 le - ⟨v0,rfl,rfl,rfl⟩ -;refine vH (hs':=hsF) (List.append_nil _) ?_;refine yM [] [4] rfl<|zK<|xD ?_;obtain rfl:=zC N;exact xC ⟨_,_,(.tmp rfl ResV.nil),(fun _ h=>h),⟨_,rfl,rfl,rfl⟩⟩
def rB (a0:zA) (n0:Int):Option (Int):=do
 let t17<-(do
   if (decide (n0>0)) then
    let x<-idx a0.Coefs (W (n0 - 1))
    pure (x==0)
   else
    pure false
     : Option Bool)
 if t17 then
  rB a0 (W (n0 - 1))
 else
  pure (id n0)
 partial_fixpoint
theorem zCM (a0:zA):∀ (n0:Int) (o:Int),rB a0 n0=some o->∀ {B}{I0 I:Imm}{Q p c}{b:Nat},I0.le I->(S4 I p a0.Coefs c)->NG Q->NO Q->(∀ (I':Imm) (n01:Int),o=n01->I0.le I'->T 21 B Q (.exit 0) I' [] [(3,vI n01)])->J Tryz.prog 21 B (nav (bodyOf Tryz.f123) [1,1,0,0]) Q I [hB b (cAff a0 p c)] [(1,vP b 0),(3,vI n0)]:=by
 refine rB.partial_correctness a0 _ fun self ih n0 o N B I0 I Q p c b H h hg ho hx=>yU hg ho<|yD<|yD ?_;refine uB N [hB b (cAff a0 p c)] (fun t17=>[(1,vP b 0),(3,vI n0),(17,.bool t17)]) (fun o0 ho0=>?_) ?_
 · have H:=iS I;refine zM<|yE 3 [] [9] rfl<|wO [9] ho0 ?_ ?_
   · intro hc N;refine yE 7 [0] [11,13] rfl<|bE N fun x hy N=>xT rfl rfl h hy ?_;intro ad ccs hat hrep;obtain rfl:=hrep;exact xO 0 hat [vI x] (vI x) rfl<|yM [] [17] rfl<|yW<|zU (ct N H)
   intro hc N;exact wU [] [(17,vF)]<|yW<|zU (ct N H)
 intro t17 I0 le hMc;have ⟨h,H⟩:=m2 le h H;refine zK<|yG hMc ?_ ?_
 · intro hc1 N;exact zS<|wK<|zM<|yM [] [3] rfl<|zO<|yT<|nT<|ih (W (n0 - 1)) _ N H h hg ho hx
 intro hc1 N;exact wW<|wG zQ<|yW<|hx _ _ (zC N).symm H
def pA (a0:zA):Option (Int):=do
 let n01<-rB a0 (a0.Coefs.length:Int)
 pure (id n01)
theorem dG:∀ a0 r,pA a0=some r->∀ {I:Imm}{p c},(S4 I p a0.Coefs c)->RT 123 [vA (cAff a0 p c)] I [] (xQ  r):=by
 intro a0 r N I p c h;unfold pA at N;refine yJ Tryz.func123 fun B=>yC<|vK (cAff a0 p c) ?_;intro b hb;refine wU [] []<|yX<|yM [0] [3] rfl<|zZ<|yF<|pM [(1,vP b 0),(3,vI (a0.Coefs.length:Int))] ?_;obtain ⟨o01,ho01,hMl⟩:=zB N;refine zCM a0 (a0.Coefs.length:Int) o01 ho01 iR h (fun _ _ _ h=>h) (fun _ _ h=>h) ?_;intro I01 n01 heq1 le1;subst o01;refine zR<|uN [2] rfl<|zK<|xD ?_;obtain rfl:=zC hMl;exact uE
def zAW (n0:Int):Option (Bool):=do
 let y<-vR n0 (-99) 99
 pure (id y)
theorem zGp:∀ n0 r,zAW n0=some r->∀ {I:Imm} ,RT 176 [vI n0] I [] (zT  r):=by
 intro n0 r N I;unfold zAW at N;refine yJ Tryz.func176 fun B=>vM []<|yX<|yE 1 [] [3] rfl<|bE N fun y hy N=>uZ (uS n0 (-99) 99 _ hy ) fun I0 le=>wU [] [(2,.bool y)]<|zK<|xD ?_;obtain rfl:=zC N;exact uE
def qH (c:Int):Option (Bool):=do
 let y<-vR c (-9) 9
 pure (!y)
theorem zCw:∀ c r,qH c=some r->∀ {I:Imm} ,RT 177 [vI c] I [] (zT  r):=by
 intro c r N I;unfold qH at N;refine yJ Tryz.func177 fun B=>vM []<|yX<|yE 1 [] [3] rfl<|bE N fun y hy N=>uZ (uS c (-9) 9 _ hy ) fun I0 le=>wU [] [(2,.bool (!y))]<|zK<|xD ?_;obtain rfl:=zC N;exact uE
def oD (a0:zA):Option (Bool):=do
 let t2<-(do
   if ((a0.Coefs.length:Int)==4) then
    let y<-zAW a0.Const
    if y then
     let y1<-wA a0.Coefs qH
     pure (!y1)
    else
     pure false
   else
    pure false
     : Option Bool)
 pure (id t2)
theorem kU:∀ a0 r,oD a0=some r->∀ {I:Imm}{p c},(S4 I p a0.Coefs c)->RT 142 [vA (cAff a0 p c)] I [] (zT  r):=by
 intro a0 r N I p c h;unfold oD at N;refine yJ Tryz.func142 fun B=>?_;have H:=iS I;refine yC<|vK (cAff a0 p c) ?_;intro b hb;refine wU [] []<|zK<|yD ?_;refine uB N [] (fun t2=>[(2,.bool t2)]) (fun o0 ho0=>?_) ?_
 · have H:=iS I;refine zM<|yE 5 [0] [7] rfl<|wO [7] ho0 ?_ ?_
   · intro hc N;refine yE 7 [0] [9] rfl<|bE N fun y hy N=>uZ (zGp a0.Const _ hy ) ?_;intro I01 le;have ⟨h,H⟩:=m2 le h H;refine yE 10 [] [12] rfl<|wO [12] N ?_ ?_
     · intro hc1 N;refine yE 12 [0] [14] rfl ?_;have hf0:FV1 Tryz.prog I01 [] (.func (.func 177) ⟨[]⟩ ⟨[]⟩) qH:=by
         refine FV1.intro ?_;intro I1 le1 x0 r u0 hF k0;obtain rfl:=k0;exact (zCw x0 r hF ).mono (by rintro k i hs u ⟨v0,rfl,rfl,h⟩; exact ⟨rfl,h⟩)
       obtain ⟨y1,hy1,N⟩:=zB N;refine xH (qU a0.Coefs qH _ hy1 h hf0) ?_;rintro I02 hs2 v2 k2 le1 - ⟨v01,rfl,rfl,rfl⟩ -;have H:=H.trans le1;exact yM [] [2] rfl<|wG zQ<|yW<|zU (ct N H)
     intro hc1 N;exact wU [] [(2,vF)]<|wG zQ<|yW<|zU (ct N H)
   intro hc N;exact wU [] [(2,vF)]<|wG zQ<|yW<|zU (ct N H)
 intro t2 I0 le2 hMc;refine zK<|xD ?_;obtain rfl:=zC hMc;exact uE
def pI (a0:zA) (x:Int):Option (Bool):=do
 let t3<-(do
   let y<-oD a0
   if (!y) then
    pure true
   else
    let y1<-pA a0
    pure (decide (y1>x))
     : Option Bool)
 pure (id t3)
theorem zEa:∀ a0 x r,pI a0 x=some r->∀ {I:Imm}{p c}{ad:Addr},(S4 I p a0.Coefs c)->(At I ad [vI x])->RT 174 [vA (cAff a0 p c),.pointer (some ad)] I [] (zT  r):=by
 intro a0 x r N I p c ad h hat;unfold pI at N;refine yJ Tryz.func174 fun B=>?_;have H:=iS I;refine yC<|vK (cAff a0 p c) ?_;intro b hb;refine wU [] []<|zK<|yD ?_;refine uB N [] (fun t3=>[(3,.bool t3)]) (fun o0 ho0=>?_) ?_
 · have H:=iS I;obtain ⟨y,hy,N⟩:=zB ho0;cases hc:(!y) with
   | true =>
    have hM0:=tC hc N;refine wP [.p (vA (cAff a0 p c)) [0],.q (.bool y),.q vY,.q vY,.p undef [],.p undef [],.p undef [],.p undef [],.p vY []] [[],[(0,false)],[(1,false)],[(2,false)],[(3,false)],[(3,false),(4,false)],[(3,false)],[(3,false),(5,false),(6,false)],[(3,false),(7,false)]] [hB b (cAff a0 p c)] [] [(8,false)] (zY [0]) ?_ ?_
    · refine Op<|Oq ?_<|Oq ?_<|Oq ?_<|Op<|Op<|Op<|Op<|Op<|On
      · intro I1 hf le1;refine yV [4] rfl ?_;have H:=iS I1;have h:=h.mono le1;refine uZ (kU a0 _ hy h) ?_;intro I01 le;have H:=H.trans le;exact xB H
      · intro I1 hf le1;refine yV [5] rfl<|qA 3 [(6,.bool (!y))] ?_;rw [hc];exact xB iR
      intro I1 hf le1;exact dS [(6,vY)]<|qA 4 [(7,vY)]<|xB iR
    intro I02 le1;refine dS [(12,vY)] ?_;have H:=H.trans le1;exact wU [] [(3,vY)]<|wG zQ<|yW<|zU (ct hM0 H)
   | false =>
    have hM01:=uL hc N;obtain ⟨y1,hy1,N⟩:=zB hM01;refine wP [.p (vA (cAff a0 p c)) [0],.q (.bool y),.q vF,.q vF,.p (vA (cAff a0 p c)) [0],.q (vI y1),.q (vI x),.p (.bool (decide (y1>x))) [],.p (.bool (decide (y1>x))) []] [[],[(0,false)],[(1,false)],[(2,false)],[(3,false)],[(3,false),(4,false)],[(3,false)],[(3,false),(5,false),(6,false)],[(3,false),(7,false)]] [hB b (cAff a0 p c)] [] [(8,false)] (zY [0]) ?_ ?_
    · refine Op<|Oq ?_<|Oq ?_<|Oq ?_<|Op<|Oq ?_<|Oq ?_<|Op<|Op<|On
      · intro I1 hf le1;refine yV [4] rfl ?_;have H:=iS I1;have h:=h.mono le1;refine uZ (kU a0 _ hy h) ?_;intro I01 le;have H:=H.trans le;exact xB H
      · intro I1 hf le1;refine yV [5] rfl<|qA 3 [(6,.bool (!y))] ?_;rw [hc];exact xB iR
      · intro I1 hf le1;exact dS [(6,vF)]<|qA 4 [(7,vF)]<|xB iR
      · intro I1 hf le1;refine yV [7,8] rfl ?_;have H:=iS I1;have h:=h.mono le1;refine fB (dG a0 _ hy1 h) ?_;intro I03 le2;have H:=H.trans le2;exact xB H
      intro I1 hf le1;refine yV [1,7] rfl ?_;have hat:=hat.mono le1;exact xO 0 hat [vI x] (vI x) rfl<|xB iR
    intro I04 le3;refine yV [12] rfl ?_;have H:=H.trans le3;exact yM [] [3] rfl<|wG zQ<|yW<|zU (ct N H)
 intro t3 I0 le4 hMc;refine zK<|xD ?_;obtain rfl:=zC hMc;exact uE
def jS (list:(List zA)) (depth:Int):Option (Bool):=do
 let t4<-(do
   let y<-vR (list.length:Int) 1 2
   if y then
    let y1<-xV list (fun x0=>pI x0 depth)
    pure (!y1)
   else
    pure false
     : Option Bool)
 pure (id t4)
theorem zCN:∀ list depth r,jS list depth=some r->∀ {I:Imm}{p c},(S4 I p list c)->RT 138 [vS p list c,vI depth] I [] (zT  r):=by
 intro list depth r N I p c h;unfold jS at N;refine yJ Tryz.func138 fun B=>?_;have H:=iS I;refine yC<|vK [vI depth] ?_;intro b hb;refine xX 0 rfl ?_;intro I0 le hl0;have hat:At I0 ⟨b,0,none⟩ [vI depth]:=At.of_blk hl0;have ⟨h,H⟩:=m2 le h H;refine wU [] []<|zK<|yD ?_;refine uB N [] (fun t4=>[(4,.bool t4)]) (fun o0 ho0=>?_) ?_
 · have H:=iS I0;refine zM<|yE 2 [] [6] rfl ?_;obtain ⟨y,hy,N⟩:=zB ho0;refine uZ (uS (list.length:Int) 1 2 _ hy ) ?_;intro I02 le1;have ⟨h,hat,H⟩:=m3 le1 h hat H;refine yE 4 [] [8] rfl<|wO [8] N ?_ ?_
   · intro hc N;refine yE 6 [] [9,10] rfl ?_;have hf0:FV1 Tryz.prog I02 [] (.func (.func 174) ⟨[]⟩ ⟨[vP b 0]⟩) (fun x0=>pI x0 depth):=by
       refine FV1.intro ?_;intro I1 le1 x0 r u0 hF k0;obtain ⟨_,rfl,k0⟩:=k0;obtain ⟨p1,c1,rfl,h2⟩:=yB k0;exact (zEa x0 depth r hF h2 (hat.mono le1)).mono (by rintro k i hs u ⟨v0,rfl,rfl,h⟩; exact ⟨rfl,h⟩)
     obtain ⟨y1,hy1,N⟩:=zB N;refine xH (pS list (fun x0=>pI x0 depth) _ hy1 h hf0) ?_;rintro I03 hs2 v2 k2 le2 - ⟨v02,rfl,rfl,rfl⟩ -;have H:=H.trans le2;exact yM [] [4] rfl<|yW<|zU (ct N H)
   intro hc N;exact wU [] [(4,vF)]<|yW<|zU (ct N H)
 intro t4 I01 le3 hMc;refine zK<|xD ?_;obtain rfl:=zC hMc;exact uE
def pC (nest:(List zE)) (t7:Int):Option (Out Unit (Bool)):=do
 if (decide (t7<(nest.length:Int))) then
  let x<-idx nest t7
  let t23<-(do
    let y<-jS x.Lo t7
    if (!y) then
     pure true
    else
     let y1<-jS x.Hi t7
     pure (!y1)
      : Option Bool)
  if t23 then
   pure (.ret false)
  else
   pC nest (W (t7+1))
 else
  pure (.done ())
 partial_fixpoint
theorem zD0 (nest:(List zE)):∀ (t7:Int) (o:Out Unit (Bool)),pC nest t7=some o->∀ {B}{I0 I:Imm}{Q p c},I0.le I->(S4 I p nest c)->NG Q->NO Q->(∀ (I':Imm) ,o=(.done ())->I0.le I'->T 28 B Q (.exit 0) I' [] [(0,vS p nest c)])->(∀ r I' hs' m',o=(.ret r)->I0.le I'->RS Tryz.prog Tryz.f97 B (zT  r) I' hs' m'->T 28 B Q .ret I' hs' m')->J Tryz.prog 28 B (nav (bodyOf Tryz.f97) [1,0,1,0]) Q I [] [(0,vS p nest c),(5,vS p nest c),(6,vI (nest.length:Int)),(7,vI t7)]:=by
 refine pC.partial_correctness nest _ fun self ih t7 o N B I0 I Q p c H h hg ho hx hr=>yU hg ho<|yH [8] rfl<|zZ<|yG N ?_ ?_
 · intro hc N;refine zS<|zZ<|yF<|yC<|yE 1 [] [9] rfl<|bE N fun x hy N=>xT rfl rfl h hy ?_;intro ad ccs hat hrep;obtain ⟨p1,c1,p2,c2,rfl,h1,h2⟩:=wZ hrep;refine xO 0 hat (cLoop x p1 c1 p2 c2) (vA (cLoop x p1 c1 p2 c2)) rfl<|xU zTwo ?_;intro b hb;refine yE 5 [] [3] rfl<|yZ 0 (cLoop x p1 c1 p2 c2) rfl<|zX rfl<|zK<|yD ?_;refine uB N [] (fun t23=>[(0,vS p nest c),(5,vS p nest c),(6,vI (nest.length:Int)),(7,vI t7),(23,.bool t23)]) (fun o0 ho0=>?_) ?_
   · have H:=iS I;refine zM<|yE 3 [0] [13,14] rfl ?_;obtain ⟨y,hy1,N⟩:=zB ho0;refine uZ (zCN x.Lo t7 _ hy1 h1) ?_;intro I01 le;have ⟨h2,H⟩:=m2 le h2 H;refine yE 6 [] [17] rfl<|wO [17] N ?_ ?_
     · intro hc1 N;exact wU [] [(23,vY)]<|wG zQ<|yW<|zU (ct N H)
     intro hc1 N;refine yE 9 [0] [19,20] rfl<|bE N fun y1 hy2 N=>uZ (zCN x.Hi t7 _ hy2 h2) ?_;intro I02 le1;have H:=H.trans le1;exact yM [] [23] rfl<|wG zQ<|yW<|zU (ct N H)
   intro t23 I0 le2 hMc;have ⟨h,H⟩:=m2 le2 h H;refine zK<|yG hMc ?_ ?_
   · intro hc2 N;exact vM [(2,vF)]<|xI<|zV<|zL<|zL<|hr _ _ _ _ (zC N).symm H ⟨_,_,(.tmp rfl ResV.nil),zQ,⟨_,rfl,rfl,rfl⟩⟩
   intro hc2 N;exact zS<|zO<|zK<|zM<|yM [] [7] rfl<|yT<|nT<|ih (W (t7+1)) _ N H h hg ho hx hr
 intro hc N;exact wW<|yW<|hx _  (zC N).symm H
def fI (nest:(List zE)):Option (Bool):=do
 match<-pC nest 0 with
 | .ret r0=>pure r0
 | .done _ =>
  pure (decide ((nest.length:Int)<=4))
theorem zFc:∀ nest r,fI nest=some r->∀ {I:Imm}{p c},(S4 I p nest c)->RT 97 [vS p nest c] I [] (zT  r):=by
 intro nest r N I p c h;unfold fI at N;refine yJ Tryz.func97 fun B=>vM []<|zZ<|yH [5,6,7] rfl<|wK<|pM [(0,vS p nest c),(5,vS p nest c),(6,vI (nest.length:Int)),(7,vI 0)] ?_;obtain ⟨o01,ho01,hMl⟩:=zB N;refine zD0 nest 0 o01 ho01 iR h (fun _ _ _ h=>h) (fun _ _ h=>h) ?_ ?_
 · intro I03  heq1 le3;subst o01;refine zR<|uN [2] rfl<|zK<|xD ?_;obtain rfl:=zC hMl;exact uE
 intro r0 I9 hs9 m9 heq9 le9 hrs9;subst heq9;refine zV<|zL ?_;obtain rfl:=zC hMl;exact xC hrs9
def zBU (r:List Int):KT:=fun kk I' hs' v=>
  ∃ a0 c0 s0,hs'=[.osl (.slice a0 r.length c0) (Rp.sz Int) s0]/\v=tupV [(.slice a0 r.length c0)]/\RepL (Rp.rep I') (Rp.sz Int) s0 r
def tH (s:List Int):Option (List Int):=app 8 ([]:List Int) s
theorem oH:∀ s r,tH s=some r->∀ {I:Imm}{p c},SL I (vS p s c) s->RT 64 [vS p s c] I [] (zBU r):=by
 intro s r N I p c h;unfold tH at N;obtain ⟨ccs,k0,k01⟩:=h;refine yJ Tryz.func64 fun B=>?_;cases p with
 | none =>
  have hs:s=[]:=by
    rcases k0 with ⟨hv,rfl⟩ | ⟨b0,off,len,cap,cc,hv,k2⟩
    · cases s with
      | nil=>rfl
      | cons _ _=>simp at hv
    simp at hv
  subst hs;obtain ⟨_,rfl⟩:=zAa N;refine yH [0,2] rfl<|zZ<|yC<|yE 1 [] [3] rfl<|zOi true rfl rfl ?_ rfl;exact wU [] [(4,vY)]<|zK<|zDH rfl<|vM [(2,z0)]<|xI<|zL<|wG (gZ (Rp.sz Int))<|xC ⟨_,_,(.tmp rfl ResV.nil),(zW [0] rfl (by decide)),⟨none,0,[],rfl,rfl,rfl⟩⟩
 | some ad =>
  refine yH [0,2] rfl<|zZ<|yC<|yE 1 [] [3] rfl<|zOi false rfl rfl ?_ rfl;refine yM [] [0,4] rfl<|zK<|zAw rfl<|zS<|yX<|tK [] Int ?_;intro b2 hb2;have h1:RL I [] ([]:List Int):=rfl;exact yE 2 [] [6] rfl<|qD 3 1 0 rfl rfl rfl h1 (.inl k0) k01 N fun p1 c1 cs h2=>yM [] [2] rfl<|xI<|xC ⟨_,_,(.tmp rfl ResV.nil),(zW [0] rfl (by decide)),⟨_,_,_,rfl,rfl,h2⟩⟩
def rV (a0:zA) (point:(List Int)) (sum:Int) (t12:Int):Option (Int):=do
 if (decide (t12<(point.length:Int))) then
  let x<-idx point t12
  let x1<-idx a0.Coefs t12
  rV a0 point (W (sum+(W (x1*x)))) (W (t12+1))
 else
  pure (id sum)
 partial_fixpoint
theorem zC5 (a0:zA) (point:(List Int)):∀ (sum:Int) (t12:Int) (o:Int),rV a0 point sum t12=some o->∀ {B}{I0 I:Imm}{Q p c p1 c1}{b:Nat},I0.le I->(S4 I p1 point c1)->(S4 I p a0.Coefs c)->NG Q->NO Q->(∀ (I':Imm) (sum1:Int),o=sum1->I0.le I'->T 28 B Q (.exit 0) I' [] [(5,vI sum1)])->J Tryz.prog 28 B (nav (bodyOf Tryz.f31) [1,1,0,1,0]) Q I [hB b (cAff a0 p c)] [(2,vP b 0),(5,vI sum),(10,vS p1 point c1),(11,vI (point.length:Int)),(12,vI t12)]:=by
 refine rV.partial_correctness a0 point _ fun self ih sum t12 o N B I0 I Q p c p1 c1 b H h1 h hg ho hx=>yU hg ho<|yH [13] rfl<|zZ<|yG N ?_ ?_
 · intro hc N;refine zS<|zZ<|yF<|yC<|yE 1 [] [14] rfl<|bE N fun x hy N=>xT rfl rfl h1 hy ?_;intro ad ccs hat hrep;obtain rfl:=hrep;refine xO 0 hat [vI x] (vI x) rfl<|yM [] [6,7] rfl<|zK<|zM<|yE 4 [0] [17,19,20] rfl<|bE N fun x1 hy1 N=>xT rfl rfl h hy1 ?_;intro ad1 ccs1 hat1 hrep1;obtain rfl:=hrep1;exact xO 0 hat1 [vI x1] (vI x1) rfl<|yM [] [5] rfl<|zO<|zK<|zM<|yM [] [12] rfl<|yT<|nT<|ih (W (sum+(W (x1*x)))) (W (t12+1)) _ N H h1 h hg ho hx
 intro hc N;exact wW<|wG zQ<|yW<|hx _ _ (zC N).symm H
def tR (a0:zA) (point:(List Int)):Option (Int):=do
 let sum1<-rV a0 point a0.Const 0
 pure (id sum1)
theorem nI:∀ a0 point r,tR a0 point=some r->∀ {I:Imm}{p c p1 c1},(S4 I p a0.Coefs c)->(S4 I p1 point c1)->RT 31 [vA (cAff a0 p c),vS p1 point c1] I [] (xQ  r):=by
 intro a0 point r N I p c p1 c1 h h1;unfold tR at N;refine yJ Tryz.func31 fun B=>yC<|vK (cAff a0 p c) ?_;intro b hb;refine wU [] []<|yX<|yM [0] [5] rfl<|zZ<|yH [10,11,12] rfl<|wK<|pM [(2,vP b 0),(5,vI a0.Const),(10,vS p1 point c1),(11,vI (point.length:Int)),(12,vI 0)] ?_;obtain ⟨o0,ho0,hMl⟩:=zB N;refine zC5 a0 point a0.Const 0 o0 ho0 iR h1 h (fun _ _ _ h=>h) (fun _ _ h=>h) ?_;intro I0 sum1 heq le;subst o0;refine zR<|uN [4] rfl<|zK<|xD ?_;obtain rfl:=zC hMl;exact uE
def pD (l:zE) (point:(List Int)) (lo:Int) (t27:Int):Option (Int):=do
 if (decide (t27<(l.Lo.length:Int))) then
  let x2<-idx l.Lo t27
  let y2<-tR x2 point
  pD l point (if y2>lo then y2 else lo) (W (t27+1))
 else
  pure (id lo)
 partial_fixpoint
theorem zD1 (l:zE) (point:(List Int)):∀ (lo:Int) (t27:Int) (o:Int),pD l point lo t27=some o->∀ {B}{I0 I:Imm}{Q}{y1:Int}{p c p1 c1 p2 c2}{b:Nat},I0.le I->(S4 I p2 point c2)->(S4 I p l.Lo c)->(S4 I p1 l.Hi c1)->NG Q->NO Q->(∀ (I':Imm) (lo1:Int),o=lo1->I0.le I'->T 52 B Q (.exit 0) I' [hB b (cLoop l p c p1 c1)] [(1,vS p2 point c2),(2,vP b 0),(6,vI lo1),(7,vI y1)])->J Tryz.prog 52 B (nav (bodyOf Tryz.f139) [1,1,0,1,0]) Q I [hB b (cLoop l p c p1 c1)] [(1,vS p2 point c2),(2,vP b 0),(6,vI lo),(7,vI y1),(25,vS p l.Lo c),(26,vI (l.Lo.length:Int)),(27,vI t27)]:=by
 refine pD.partial_correctness l point _ fun self ih lo t27 o N B I0 I Q y1 p c p1 c1 p2 c2 b H h2 h h1 hg ho hx=>yU hg ho<|yH [28] rfl<|zZ<|yG N ?_ ?_
 · intro hc N;refine zS<|zZ<|yF<|yC<|bE N fun x2 hy4 N=>xT rfl rfl h hy4 ?_;intro ad2 ccs2 hat2 hrep2;obtain ⟨p5,c5,rfl,h7⟩:=yB hrep2;refine xO 0 hat2 (cAff x2 p5 c5) (vA (cAff x2 p5 c5)) rfl<|xU [z0,vI 0] ?_;intro b1 hb1;refine yZ 0 (cAff x2 p5 c5) rfl<|zX rfl<|zK<|zM<|tZ 3 [0] [(31,vI lo),(32,vA (cAff x2 p5 c5)),(33,vS p2 point c2)]<|bE N fun y2 hy5 N=>fB (nI x2 point _ hy5 h7 h2) ?_;intro I03 le3;have ⟨h2,h,h1,H⟩:=m4 le3 h2 h h1 H;exact yM [] [6] rfl<|zO<|zK<|zM<|yM [] [27] rfl<|yT<|pL (zW [1] rfl (by decide))<|nT<|ih (if y2>lo then y2 else lo) (W (t27+1)) _ N H h2 h h1 hg ho hx
 intro hc N;exact wW<|yW<|hx _ _ (zC N).symm H
def pE (l:zE) (point:(List Int)) (hi:Int) (t40:Int):Option (Int):=do
 if (decide (t40<(l.Hi.length:Int))) then
  let x3<-idx l.Hi t40
  let y3<-tR x3 point
  pE l point (if y3<hi then y3 else hi) (W (t40+1))
 else
  pure (id hi)
 partial_fixpoint
theorem zD2 (l:zE) (point:(List Int)):∀ (hi:Int) (t40:Int) (o:Int),pE l point hi t40=some o->∀ {B}{I0 I:Imm}{Q}{lo1:Int}{p1 c1 p2 c2},I0.le I->(S4 I p2 point c2)->(S4 I p1 l.Hi c1)->NG Q->NO Q->(∀ (I':Imm) (hi1:Int),o=hi1->I0.le I'->T 52 B Q (.exit 2) I' [] [(6,vI lo1),(7,vI hi1)])->J Tryz.prog 52 B (nav (bodyOf Tryz.f139) [1,1,1,0,1,0]) Q I [] [(1,vS p2 point c2),(6,vI lo1),(7,vI hi),(38,vS p1 l.Hi c1),(39,vI (l.Hi.length:Int)),(40,vI t40)]:=by
 refine pE.partial_correctness l point _ fun self ih hi t40 o N B I0 I Q lo1 p1 c1 p2 c2 H h2 h1 hg ho hx=>yU hg ho<|yH [41] rfl<|zZ<|yG N ?_ ?_
 · intro hc1 N;refine zS<|zZ<|yF<|yC<|bE N fun x3 hy6 N=>xT rfl rfl h1 hy6 ?_;intro ad3 ccs3 hat3 hrep3;obtain ⟨p6,c6,rfl,h9⟩:=yB hrep3;refine xO 0 hat3 (cAff x3 p6 c6) (vA (cAff x3 p6 c6)) rfl<|xU [z0,vI 0] ?_;intro b2 hb2;refine yZ 0 (cAff x3 p6 c6) rfl<|zX rfl<|zK<|zM<|tZ 3 [0] [(44,vI hi),(45,vA (cAff x3 p6 c6)),(46,vS p2 point c2)]<|bE N fun y3 hy7 N=>fB (nI x3 point _ hy7 h9 h2) ?_;intro I05 le5;have ⟨h2,h1,H⟩:=m3 le5 h2 h1 H;exact yM [] [7] rfl<|zO<|zK<|zM<|yM [] [40] rfl<|yT<|pL zQ<|nT<|ih (if y3<hi then y3 else hi) (W (t40+1)) _ N H h2 h1 hg ho hx
 intro hc1 N;exact wW<|yW<|hx _ _ (zC N).symm H
def fJ (l:zE) (point:(List Int)):Option (Int×Int):=do
 let x<-idx l.Lo 0
 let y<-tR x point
 let x1<-idx l.Hi 0
 let y1<-tR x1 point
 let lo1<-pD l point y 0
 let hi1<-pE l point y1 0
 pure (lo1,hi1)
theorem zFd:∀ l point r,fJ l point=some r->∀ {I:Imm}{p c p1 c1 p2 c2},(S4 I p l.Lo c)->(S4 I p1 l.Hi c1)->(S4 I p2 point c2)->RT 139 [vA (cLoop l p c p1 c1),vS p2 point c2] I [] (zAL  r):=by
 intro l point r N I p c p1 c1 p2 c2 h h1 h2;unfold fJ at N;refine yJ Tryz.func139 fun B=>?_;have H:=iS I;refine yC<|vK (cLoop l p c p1 c1) ?_;intro b hb;refine wU [] []<|zK<|yD ?_;obtain ⟨x,hy,N⟩:=zB N;obtain ⟨y,hy1,N⟩:=zB N;obtain ⟨x1,hy2,N⟩:=zB N;obtain ⟨y1,hy3,N⟩:=zB N;refine wP [.p (vP b 0) [],.p (vS p l.Lo c) [0],.x (ePAff x),.x (eVAff x),.p (vS p2 point c2) [],.q (vI y),.p (vP b 1) [],.p (vS p1 l.Hi c1) [0],.x (ePAff x1),.x (eVAff x1),.p (vS p2 point c2) [],.q (vI y1),.p (vI y) []] [[],[(0,false)],[(1,false)],[(2,false)],[],[(3,false),(4,false)],[],[(6,false)],[(7,false)],[(8,false)],[],[(9,false),(10,false)],[(5,false)]] [hB b (cLoop l p c p1 c1)] [] [(11,false),(12,false)] (zY [0]) ?_ ?_
 · refine Op<|Op<|Ox ?_<|Ox ?_<|Op<|Oq ?_<|Op<|Op<|Ox ?_<|Ox ?_<|Op<|Oq ?_<|Op<|On
   · intro I1 hf le1;refine yV [13] rfl ?_;have h:=h.mono le1;refine xT rfl rfl h hy ?_;intro ad ccs hat hrep;obtain ⟨p3,c3,rfl,h3⟩:=yB hrep;exact yL [] iR ⟨_,_,_,rfl,rfl,hat,h3⟩
   · rintro I1 hf le1 _ _ ⟨ad,p3,c3,rfl,rfl,hat,h3⟩;exact yV [14] rfl<|xO 0 hat (cAff x p3 c3) (vA (cAff x p3 c3)) rfl<|yL [] iR ⟨_,_,rfl,rfl,h3⟩
   · rintro I1 hf le1 _ _ ⟨p31,c31,rfl,rfl,h31⟩;refine yV [15,16] rfl ?_;have H:=iS I1;have h2:=h2.mono le1;refine fB (nI x point _ hy1 h31 h2) ?_;intro I0 le;have H:=H.trans le;exact xB H
   · intro I1 hf le1;refine yV [19] rfl ?_;have h1:=h1.mono le1;refine xT rfl rfl h1 hy2 ?_;intro ad1 ccs1 hat1 hrep1;obtain ⟨p4,c4,rfl,h5⟩:=yB hrep1;exact yL [] iR ⟨_,_,_,rfl,rfl,hat1,h5⟩
   · rintro I1 hf le1 _ _ ⟨ad1,p4,c4,rfl,rfl,hat1,h5⟩;exact yV [20] rfl<|xO 0 hat1 (cAff x1 p4 c4) (vA (cAff x1 p4 c4)) rfl<|yL [] iR ⟨_,_,rfl,rfl,h5⟩
   rintro I1 hf le1 _ _ ⟨p41,c41,rfl,rfl,h51⟩;refine yV [21,22] rfl ?_;have H:=iS I1;have h2:=h2.mono le1;refine fB (nI x1 point _ hy3 h51 h2) ?_;intro I01 le1;have H:=H.trans le1;exact xB H
 intro I02 le2;refine yV [1,2,6,23] rfl ?_;have ⟨h2,h,h1⟩:=m3 le2 h2 h h1;refine yM [] [7] rfl<|zZ<|yC<|yM [0] [25,26,27] rfl<|wK<|pM [(1,vS p2 point c2),(2,vP b 0),(6,vI y),(7,vI y1),(25,vS p l.Lo c),(26,vI (l.Lo.length:Int)),(27,vI 0)] ?_;obtain ⟨o0,ho0,hMl⟩:=zB N;refine zD1 l point y 0 o0 ho0 iR h2 h h1 (fun _ _ _ h=>h) (fun _ _ h=>h) ?_;intro I04 lo1 heq le4;subst o0;have ⟨h2,h,h1⟩:=m3 le4 h2 h h1;refine zR<|zZ<|yC<|yM [0] [38,39,40] rfl<|wK<|pL (zY [] (hs':=[]))<|pM [(1,vS p2 point c2),(6,vI lo1),(7,vI y1),(38,vS p1 l.Hi c1),(39,vI (l.Hi.length:Int)),(40,vI 0)] ?_;obtain ⟨o01,ho01,hMl1⟩:=zB hMl;refine zD2 l point y1 0 o01 ho01 iR h2 h1 (fun _ _ _ h=>h) (fun _ _ h=>h) ?_;intro I06 hi1 heq1 le6;subst o01;refine zR<|uN [4,5] rfl<|zK<|xD ?_;obtain rfl:=zC hMl1;exact xC ⟨_,_,(.tmp rfl (.tmp rfl ResV.nil)),zQ,⟨_,_,rfl,rfl,rfl,rfl⟩⟩
def fU (b0:Nat) (r:Bool×rY):KT:=fun kk I' hs' v=>
  ∃ v0 x0_0 y0_0 x0_2 y0_2 z0_2,hs'=[.blk b0 ⟨[.slice x0_0 r.2.nest.length y0_0,.int .i64 r.2.steps,.slice x0_2 r.2.out.length y0_2]⟩,.osl (.slice x0_2 r.2.out.length y0_2) (Rp.sz (List Int)) z0_2]/\v=tupV [v0]/\v0=.bool r.1/\SL I' (.slice x0_0 r.2.nest.length y0_0) r.2.nest/\RepL (Rp.rep I') (Rp.sz (List Int)) z0_2 r.2.out
mutual
def rR (w0:rY) (point:(List Int)):Option (Bool×rY):=do
 if ((point.length:Int)==(w0.nest.length:Int)) then
  let y<-tH point
  let l<-app 24 w0.out ([y]:List (List Int))
  pure ((decide ((l.length:Int)<=120)),(rY.mk w0.nest w0.steps l))
 else
  let x<-idx w0.nest (point.length:Int)
  let (y2,y3)<-fJ x point
  match<-qV (same point) (same y3) (same y2) w0.nest w0.steps w0.out with
  | .ret r0=>pure r0
  | .done (nest1,steps1,out1) =>
   pure (true,(rY.mk nest1 steps1 out1))
 partial_fixpoint
def qV (point:(List Int)) (y3:Int) (n0:Int) (nest:List zE) (steps:Int) (out:List (List Int)):Option (Out (List zE×Int×List (List Int)) (Bool×rY)):=do
 if (decide (n0<y3)) then
  let (t74,nest2,steps2,out2)<-(do
    if (decide ((W ((W (steps+1))+1))>1200)) then
     pure (true,nest,(W (steps+1)),out)
    else
     let y4<-tH point
     let l1<-app 8 y4 ([n0]:List Int)
     let (y6,y7)<-rR (rY.mk nest (W (steps+1)) out) (same l1)
     pure ((!y6),y7.nest,y7.steps,y7.out)
      : Option (Bool×List zE×Int×List (List Int)))
  if t74 then
   pure (.ret (false,(rY.mk nest2 steps2 out2)))
  else
   qV (same point) (same y3) (W (n0+1)) (same nest2) (same steps2) (same out2)
 else
  pure (.done (nest,steps,out))
 partial_fixpoint
end
theorem zCx:(∀ (w0:rY) (point:(List Int)) r,rR w0 point=some r->∀ {I:Imm}{r0:Nat}{p c p1 c1 cs p2 c2},(S4 I p w0.nest c)->(RL I cs w0.out)->(S4 I p2 point c2)->RT 98 [vP r0 0,vS p2 point c2] I [hB r0 [vS p w0.nest c,vI w0.steps,vS p1 w0.out c1],hO (List Int) (vS p1 w0.out c1) cs] (fU r0 r))/\(∀ (point:(List Int)) (y3:Int) (n0:Int) (nest:List zE) (steps:Int) (out:List (List Int)) o,qV point y3 n0 nest steps out=some o->∀ {B}{I0 I:Imm}{Q}  {r0:Nat}{p2 c2 p7 c7 p8 c8 cs3},I0.le I->(S4 I p2 point c2)->(S4 I p7 nest c7)->(RL I cs3 out)->NG Q->NO Q->(∀ (I':Imm) (nest1:List zE) (steps1:Int) (out1:List (List Int)) (p9:Option Addr) (c9:Nat) (p10:Option Addr) (c10:Nat) (cs4:List Value),o=(.done (nest1,steps1,out1))->I0.le I'->(S4 I' p9 nest1 c9)->(RL I' cs4 out1)->T 75 B Q (.exit 0) I' [hB r0 [vS p9 nest1 c9,vI steps1,vS p10 out1 c10],hO (List Int) (vS p10 out1 c10) cs4] [])->(∀ r I' hs' m',o=(.ret r)->I0.le I'->RS Tryz.prog Tryz.f98 B (fU r0 r) I' hs' m'->T 75 B Q .ret I' hs' m')->J Tryz.prog 75 B (nav (bodyOf Tryz.f98) [1,1,1,0,1,0]) Q I [hB r0 [vS p7 nest c7,vI steps,vS p8 out c8],hO (List Int) (vS p8 out c8) cs3] [(0,vP r0 0),(1,vS p2 point c2),(6,vI y3),(7,vI n0)]):=by
  refine rR.mutual_partial_correctness _ _ ?_ ?_
  · intro F_impl_walking_walk_l1 ih_impl_walking_walk_l1 w0 point r N I r0 p c p1 c1 cs p2 c2 h h1 h2;refine yJ Tryz.func98 fun B=>?_;have H:=iS I;refine vM []<|zZ<|yC<|yM [0] [15] rfl<|zK<|yG N ?_ ?_
    · intro hc N;refine yD ?_;obtain ⟨y,hy,N⟩:=zB N;obtain ⟨l,hy1,N⟩:=zB N;refine wP [.p (vP r0 0) [],.p (vP r0 0) [],.p (vP r0 0) [],.p (vP r0 2) [],.p (vS p1 w0.out c1) [0],.p (vS p2 point c2) [],.x (fun I' v hx=>∃ p3 c3 cs1,v=vS p3 y c3/\hx=[hO Int (vS p3 y c3) cs1]/\(RL I' cs1 y)),.x (fun I' v hx=>∃ b,v=vS (some ⟨b,0,none⟩) ([y]:List (List Int)) 1/\hx=[]/\(SL I' (vS (some ⟨b,0,none⟩) ([y]:List (List Int)) 1) ([y]:List (List Int)))),.x (fun I' v hx=>∃ p4 c4 cs2,v=vS p4 l c4/\hx=[hO (List Int) (vS p4 l c4) cs2]/\(RL I' cs2 l))] [[],[],[(1,false)],[(2,false)],[(3,false)],[],[(5,false)],[(6,true)],[(4,false),(7,false),(12,true)]] [hB r0 [vS p w0.nest c,vI w0.steps,vS p1 w0.out c1]] [[hO (List Int) (vS p1 w0.out c1) cs]] [(0,false),(8,true)] (zY [0,1]) ?_ ?_
      · refine Op<|Op<|Op<|Op<|Op<|Op<|Ox ?_<|Ox ?_<|Ox ?_<|On
        · intro I1 hf le1;refine yV [21] rfl ?_;have H:=iS I1;have h2:=h2.mono le1;refine xH (oH point _ hy h2) ?_;rintro I0 hs2 v2 k2 le - ⟨p3,c3,cs1,rfl,rfl,h3⟩ -;have H:=H.trans le;exact yL [hO Int (vS p3 y c3) cs1] H ⟨_,_,_,rfl,rfl,h3⟩
        · rintro I1 hf le1 _ _ ⟨p3,c3,cs1,rfl,rfl,h3⟩;refine yV [22] rfl ?_;have H:=iS I1;refine xX 0 rfl ?_;intro I01 le1 hl0;have h4:=SL.of_frozen hl0 le1 h3;have H:=H.trans le1;refine mU (rc y ⟨_,rfl,h4⟩ rN) ?_;intro b I02 le2 h6;have H:=H.trans le2;exact yL [] H ⟨_,rfl,rfl,h6⟩
        rintro I1 hf le1 _ _ ⟨rfl,rfl⟩ _ _ ⟨b,rfl,rfl,h6⟩ _ _ rfl;refine yV [20,23] rfl ?_;have h1:=iM le1 h1;obtain ⟨ccs,k0,k01⟩:=h6;have h6:SL I1 (vS (some ⟨b,0,none⟩) ([y]:List (List Int)) 1) ([y]:List (List Int)):=⟨_,k0,k01⟩;exact qD 39 1 0 rfl rfl rfl h1 (.inl k0) k01 hy1 fun p4 c4 cs2 h7=>vH (hs':=(hO (List Int) (vS p4 l c4) cs2::hB r0 [vS p w0.nest c,vI w0.steps,vS p1 w0.out c1]::hf)) rfl<|yL [hO (List Int) (vS p4 l c4) cs2] iR ⟨_,_,_,rfl,rfl,h7⟩
      rintro I03 le3 _ _ ⟨rfl,rfl⟩ _ _ ⟨p4,c4,cs2,rfl,rfl,h7⟩;refine yV [0,16,24] rfl ?_;have h:=h.mono le3;refine yE 11 [] [26] rfl<|yZ 1 [vS p w0.nest c,vI w0.steps,vS p4 l c4] rfl<|zX rfl<|yX<|yM [1] [4] rfl<|xI<|zL ?_;obtain rfl:=zC N;exact xC ⟨_,_,(.tmp rfl ResV.nil),(zW [1,0] rfl (by decide)),⟨_,_,_,_,_,_,rfl,rfl,rfl,h,h7⟩⟩
    intro hc N;refine zS<|yX<|yE 6 [0] [37,39] rfl<|bE N fun x hy2 N=>xT rfl rfl h hy2 ?_;intro ad ccs1 hat hrep;obtain ⟨p5,c5,p6,c6,rfl,h8,h9⟩:=wZ hrep;refine xO 0 hat (cLoop x p5 c5 p6 c6) (vA (cLoop x p5 c5 p6 c6)) rfl<|yE 9 [] [42] rfl ?_;obtain ⟨⟨y2,y3⟩,hy3,N⟩:=zB N;refine xH (zFd x point _ hy3 h8 h9 h2) ?_;rintro I04 hs2 v2 k2 le4 - ⟨v02,v03,rfl,rfl,rfl,rfl⟩ -;have ⟨h2,h,h1⟩:=m3 le4 h2 h h1;refine yM [] [5,6] rfl<|zZ<|yH [7] rfl<|wK<|pM [(0,vP r0 0),(1,vS p2 point c2),(6,vI y3),(7,vI y2)] ?_;obtain ⟨o01,ho01,hMl⟩:=zB N;refine ih_impl_walking_walk_l1 point y3 y2 w0.nest w0.steps w0.out o01 ho01 iR h2 h h1 (fun _ _ _ h=>h) (fun _ _ h=>h) ?_ ?_
    · intro I09 nest1 steps1 out1 p9 c9 p10 c10 cs4 heq1 le9 h14 h15;subst o01;refine zR<|zFy [(4,vY)]<|zK<|xD ?_;obtain rfl:=zC hMl;exact xC ⟨_,_,(.tmp rfl ResV.nil),(zW [0,1] rfl (by decide)),⟨_,_,_,_,_,_,rfl,rfl,rfl,h14,h15⟩⟩
    intro r0 I9 hs9 m9 heq9 le9 hrs9;subst heq9;refine zV<|zL ?_;obtain rfl:=zC hMl;exact xC hrs9
  intro F_impl_walking_walk F_impl_walking_walk_l1 ih_impl_walking_walk ih_impl_walking_walk_l1 point y3 n0 nest steps out o N B I0 I Q r0 p2 c2 p7 c7 p8 c8 cs3 H h2 h12 h13 hg ho hx hr;refine yU hg ho<|yD<|yH [49] rfl<|zK<|yG N ?_ ?_
  · intro hc1 N;refine zS<|zZ<|yF<|yC<|yE 7 [0] [56,58] rfl<|yZ 0 [vS p7 nest c7,vI (W (steps+1)),vS p8 out c8] rfl<|zX rfl<|zK<|yD ?_;obtain ⟨o0,ho0,hMc⟩:=zB N;refine nN (fun I' hs' m'=>∃ (t74:Bool) (nest2:List zE) (steps2:Int) (out2:List (List Int)) (p11:Option Addr) (c11:Nat) (p12:Option Addr) (c12:Nat) (cs5:List Value),o0=(t74,nest2,steps2,out2)/\I.le I'/\(S4 I' p11 nest2 c11)/\(RL I' cs5 out2)/\hs'=[hB r0 [vS p11 nest2 c11,vI steps2,vS p12 out2 c12],hO (List Int) (vS p12 out2 c12) cs5]/\m'=[(0,vP r0 0),(1,vS p2 point c2),(6,vI y3),(7,vI n0),(74,.bool t74)]) ?_ ?_
    · have H:=iS I;refine zM<|yE 7 [0] [65] rfl<|wO [65] ho0 ?_ ?_
      · intro hc2 N;exact wU [] [(74,vY)]<|yW<|zU ⟨_,_,_,_,_,_,_,_,_,(zC N).symm,H,h12,h13,rfl,rfl⟩
      intro hc2 N;refine yE 9 [] [66,67] rfl<|bE N fun y4 hy4 N=>xH (oH point _ hy4 h2) ?_;rintro I06 hs2 v2 k2 le5 - ⟨p13,c13,cs6,rfl,rfl,h18⟩ -;have ⟨h12,h13,H⟩:=m3 le5 h12 h13 H;refine yE 11 [] [69] rfl<|tK [vI n0] Int ?_;intro b1 hb1;have h19:RL I06 [vI n0] ([n0]:List Int):=rI [n0];obtain ⟨l1,hy5,N⟩:=zB N;refine qD 3 1 1 rfl rfl rfl h18 (.inr ⟨0,rfl⟩) h19 hy5 fun p14 c14 cs7 h20=>sW (zY [1,2,3] (hs':=[hO Int (vS p14 l1 c14) cs7,hB r0 [vS p7 nest c7,vI (W (steps+1)),vS p8 out c8],hO (List Int) (vS p8 out c8) cs3]))<|xX 0 rfl ?_;intro I07 le6 hl02;have h21:=SL.of_frozen hl02 le6 h20;have ⟨h12,h13,H⟩:=m3 le6 h12 h13 H;obtain ⟨⟨y6,y7⟩,hy6,N⟩:=zB N;refine rS (ih_impl_walking_walk (rY.mk nest (W (steps+1)) out) l1 _ hy6 h12 h13 h21) rfl ?_;rintro I08 hs2 v2 k2 le7 - ⟨v04,p15,c15,p16,c16,cs8,rfl,rfl,rfl,h23,h24⟩ -;have H:=H.trans le7;exact yM [] [74] rfl<|yW<|zU ⟨_,_,_,_,_,_,_,_,_,(zC N).symm,H,h23,h24,rfl,rfl⟩
    rintro I05 hs2 m2 ⟨t74,nest2,steps2,out2,p11,c11,p12,c12,cs5,heq,le8,h16,h17,rfl,rfl⟩;subst o0;have ⟨h2,H⟩:=m2 le8 h2 H;refine zK<|yG hMc ?_ ?_
    · intro hc3 N;exact vM [(4,vF)]<|xI<|zV<|zL<|zL<|hr _ _ _ _ (zC N).symm H ⟨_,_,(.tmp rfl ResV.nil),(zW [0,1] rfl (by decide)),⟨_,_,_,_,_,_,rfl,rfl,rfl,h16,h17⟩⟩
    intro hc3 N;exact zS<|zO<|zK<|zM<|yM [] [7] rfl<|yT<|nT<|ih_impl_walking_walk_l1 point y3 (W (n0+1)) nest2 steps2 out2 _ N H h2 h16 h17 hg ho hx hr
  intro hc1 N;exact wW<|yW<|hx _ _ _ _ _ _ _ _ _ (zC N).symm H h12 h13
theorem zD3:∀ w0 point r,rR w0 point=some r->∀ {I:Imm}{r0:Nat}{p c p1 c1 cs p2 c2},(S4 I p w0.nest c)->(RL I cs w0.out)->(S4 I p2 point c2)->RT 98 [vP r0 0,vS p2 point c2] I [hB r0 [vS p w0.nest c,vI w0.steps,vS p1 w0.out c1],hO (List Int) (vS p1 w0.out c1) cs] (fU r0 r):=zCx.1
def gA (nest:(List zE)):Option ((List (List Int))×Bool):=do
 let y<-fI nest
 if (!y) then
  pure (([]:List (List Int)),false)
 else
  let (y2,y3)<-rR (rY.mk nest 0 ([]:List (List Int))) ([]:List Int)
  if (!y2) then
   pure (([]:List (List Int)),false)
  else
   pure (y3.out,true)
theorem zEb:∀ nest r,gA nest=some r->∀ {I:Imm}{p c},(S4 I p nest c)->RT 58 [vS p nest c] I [] (zAe  r):=by
 intro nest r N I p c h;unfold gA at N;refine yJ Tryz.func58 fun B=>vM []<|zZ<|yC<|yE 1 [] [5] rfl<|bE N fun y hy N=>uZ (zFc nest _ hy h) ?_;intro I0 le;have h:=h.mono le;refine yM [] [7] rfl<|zK<|yG N ?_ ?_
 · intro hc N;refine yH [2,3] rfl<|xI<|zL ?_;obtain rfl:=zC N;exact xC ⟨_,_,(.tmp rfl (.tmp rfl ResV.nil)),zQ,⟨_,_,rfl,rfl,(SL.nil _),rfl⟩⟩
 intro hc N;refine zS<|yX<|yE 2 [] [9] rfl<|vK [vS p nest c,vI 0,z0] ?_;intro b hb;refine yM [] [4] rfl<|zZ<|yC<|yE 1 [] [11] rfl<|zOp (List Int) fun h2=>?_;refine sW (zY [1,0] (hs':=[hB b [vS p nest c,vI 0,vS none ([]:List (List Int)) 0],hO (List Int) (vS none ([]:List (List Int)) 0) []])) ?_;obtain ⟨⟨y2,y3⟩,hy1,N⟩:=zB N;refine rS (zD3 (rY.mk nest 0 ([]:List (List Int))) ([]:List Int) _ hy1 h h2 (SL.nil _)) rfl ?_;rintro I01 hs2 v2 k2 le1 - ⟨v01,p1,c1,p2,c2,cs,rfl,rfl,rfl,h4,h5⟩ -;refine yM [] [13] rfl<|zK<|yG N ?_ ?_
 · intro hc1 N;refine yH [2,3] rfl<|xI<|zL ?_;obtain rfl:=zC N;exact xC ⟨_,_,(.tmp rfl (.tmp rfl ResV.nil)),zQ,⟨_,_,rfl,rfl,(SL.nil _),rfl⟩⟩
 intro hc1 N;refine zS<|yX<|yM [0] [2,3] rfl<|xI<|xE 1 rfl ?_;intro I02 le2 hl0;have h6:=SL.of_frozen hl0 le2 h5;obtain rfl:=zC N;exact xC ⟨_,_,(.tmp rfl (.tmp rfl ResV.nil)),zQ,⟨_,_,rfl,rfl,h6,rfl⟩⟩
def nQ (hsF:List HA) (r:Int):KT:=fun kk I' hs' v=>
  ∃ v0,hsF=hs'/\v=tupV [v0]/\v0=.int .i64 r
def xS (s:(List zJ)) (f0:(zJ->Option Bool)) (t8:Int):Option (Out Unit (Int)):=do
 if (decide (t8<(s.length:Int))) then
  let x<-idx s t8
  let y<-f0 x
  if y then
   pure (.ret t8)
  else
   xS s f0 (W (t8+1))
 else
  pure (.done ())
 partial_fixpoint
theorem fV (s:(List zJ)) (f0:(zJ->Option Bool)):∀ (t8:Int) (o:Out Unit (Int)),xS s f0 t8=some o->∀ {B}{I0 I:Imm}{Q p c}{fv:Value}{hsF:List HA},I0.le I->(S4 I p s c)->(FV1 Tryz.prog I hsF fv f0)->NG Q->NO Q->(∀ (I':Imm) ,o=(.done ())->I0.le I'->T 19 B Q (.exit 0) I' hsF [])->(∀ r I' hs' m',o=(.ret r)->I0.le I'->RS Tryz.prog Tryz.f99 B (nQ hsF r) I' hs' m'->T 19 B Q .ret I' hs' m')->J Tryz.prog 19 B (nav (bodyOf Tryz.f99) [1,0,1,0]) Q I hsF [(0,vS p s c),(1,fv),(7,vI (s.length:Int)),(8,vI t8)]:=by
 refine xS.partial_correctness s f0 _ fun self ih t8 o N B I0 I Q p c fv hsF H h h1 hg ho hx hr=>yU hg ho<|yH [9] rfl<|zZ<|yG N ?_ ?_
 · intro hc N;refine zS<|zZ<|yF<|yH [5] rfl<|yX<|yE 3 [] [11,12,13] rfl<|bE N fun x hy N=>xT rfl rfl h hy ?_;intro ad ccs hat hrep;obtain ⟨p1,c1,p2,c2,p3,c3,p4,c4,rfl,h2,h3,h4,h5⟩:=vC hrep;refine xO 0 hat (cStmt x p1 c1 p2 c2 p3 c3 p4 c4) (vA (cStmt x p1 c1 p2 c2 p3 c3 p4 c4)) rfl<|bE N fun y hy1 N=>zIo rfl rfl h1 hy1 ⟨_,rfl,(wC ⟨_,_,_,_,rfl,h2,h3,h4,h5⟩)⟩ (List.append_nil _).symm ?_;rintro I0 v04 le rfl;refine vH (hs':=hsF) (List.append_nil _) ?_;have ⟨h,h1,H⟩:=m3 le h h1 H;refine zX rfl<|zK<|yG N ?_ ?_
   · intro hc1 N;exact yH [4] rfl<|xI<|zV<|zL<|zL<|hr _ _ _ _ (zC N).symm H ⟨_,_,(.tmp rfl ResV.nil),(fun _ h=>h),⟨_,rfl,rfl,rfl⟩⟩
   intro hc1 N;exact zS<|zO<|zK<|zM<|yM [] [8] rfl<|yT<|nT<|ih (W (t8+1)) _ N H h h1 hg ho hx hr
 intro hc N;exact wW<|yW<|hx _  (zC N).symm H
def tI (s:(List zJ)) (f0:(zJ->Option Bool)):Option (Int):=do
 match<-xS s f0 0 with
 | .ret r0=>pure r0
 | .done _ =>
  pure (-1)
theorem eT:∀ s f0 r,tI s f0=some r->∀ {I:Imm}{p c}{fv:Value}{hsF:List HA},(S4 I p s c)->(FV1 Tryz.prog I hsF fv f0)->RT 99 [vS p s c,fv] I hsF (nQ hsF r):=by
 intro s f0 r N I p c fv hsF h h1;unfold tI at N;refine yJ Tryz.func99 fun B=>vM []<|zZ<|yH [7,8] rfl<|wK<|pM [(0,vS p s c),(1,fv),(7,vI (s.length:Int)),(8,vI 0)] ?_;obtain ⟨o0,ho0,hMl⟩:=zB N;refine fV s f0 0 o0 ho0 iR h h1 (fun _ _ _ h=>h) (fun _ _ h=>h) ?_ ?_
 · intro I01  heq le1;subst o0;refine zR<|uN [4] rfl<|zK<|xD ?_;obtain rfl:=zC hMl;exact xC ⟨_,_,(.tmp rfl ResV.nil),(fun _ h=>h),⟨_,rfl,rfl,rfl⟩⟩
 intro r0 I9 hs9 m9 heq9 le9 hrs9;subst heq9;refine zV<|zL ?_;obtain rfl:=zC hMl;exact xC hrs9
def fK (hsF:List HA) (r:Bool):KT:=fun kk I' hs' v=>
  ∃ v0,hsF=hs'/\v=tupV [v0]/\v0=.bool r
def wV (s:(List zJ)) (f0:(zJ->Option Bool)):Option (Bool):=do
 let y<-tI s f0
 pure (decide (y>=0))
theorem fW:∀ s f0 r,wV s f0=some r->∀ {I:Imm}{p c}{fv:Value}{hsF:List HA},(S4 I p s c)->(FV1 Tryz.prog I hsF fv f0)->RT 59 [vS p s c,fv] I hsF (fK hsF r):=by
 intro s f0 r N I p c fv hsF h h1;unfold wV at N;refine yJ Tryz.func59 fun B=>vM []<|yX<|yE 2 [] [5,6] rfl<|bE N fun y hy N=>zFr (hs1:=hsF) (rest:=[]) rfl rfl rfl rfl (by kernel_rfl) rfl (List.append_nil _).symm (eT s f0 _ hy h h1) ?_;rintro I0 hs2 v2 k2 le - ⟨v0,rfl,rfl,rfl⟩ -;refine vH (hs':=hsF) (List.append_nil _) ?_;refine yM [] [4] rfl<|zK<|xD ?_;obtain rfl:=zC N;exact xC ⟨_,_,(.tmp rfl ResV.nil),(fun _ h=>h),⟨_,rfl,rfl,rfl⟩⟩
def nB (s:zA) (x:Int):Option (Bool):=do
 let t3<-(do
   let y<-oD s
   if (!y) then
    pure true
   else
    let y1<-pA s
    pure (decide (y1>x))
     : Option Bool)
 pure (id t3)
theorem zEc:∀ s x r,nB s x=some r->∀ {I:Imm}{p c}{ad:Addr},(S4 I p s.Coefs c)->(At I ad [vI x])->RT 141 [vA (cAff s p c),.pointer (some ad)] I [] (zT  r):=by
 intro s x r N I p c ad h hat;unfold nB at N;refine yJ Tryz.func141 fun B=>?_;have H:=iS I;refine yC<|vK (cAff s p c) ?_;intro b hb;refine wU [] []<|zK<|yD ?_;refine uB N [] (fun t3=>[(3,.bool t3)]) (fun o0 ho0=>?_) ?_
 · have H:=iS I;obtain ⟨y,hy,N⟩:=zB ho0;cases hc:(!y) with
   | true =>
    have hM0:=tC hc N;refine wP [.p (vA (cAff s p c)) [0],.q (.bool y),.q vY,.q vY,.p undef [],.p undef [],.p undef [],.p undef [],.p vY []] [[],[(0,false)],[(1,false)],[(2,false)],[(3,false)],[(3,false),(4,false)],[(3,false)],[(3,false),(5,false),(6,false)],[(3,false),(7,false)]] [hB b (cAff s p c)] [] [(8,false)] (zY [0]) ?_ ?_
    · refine Op<|Oq ?_<|Oq ?_<|Oq ?_<|Op<|Op<|Op<|Op<|Op<|On
      · intro I1 hf le1;refine yV [4] rfl ?_;have H:=iS I1;have h:=h.mono le1;refine uZ (kU s _ hy h) ?_;intro I01 le;have H:=H.trans le;exact xB H
      · intro I1 hf le1;refine yV [5] rfl<|qA 3 [(6,.bool (!y))] ?_;rw [hc];exact xB iR
      intro I1 hf le1;exact dS [(6,vY)]<|qA 4 [(7,vY)]<|xB iR
    intro I02 le1;refine dS [(12,vY)] ?_;have H:=H.trans le1;exact wU [] [(3,vY)]<|wG zQ<|yW<|zU (ct hM0 H)
   | false =>
    have hM01:=uL hc N;obtain ⟨y1,hy1,N⟩:=zB hM01;refine wP [.p (vA (cAff s p c)) [0],.q (.bool y),.q vF,.q vF,.p (vA (cAff s p c)) [0],.q (vI y1),.q (vI x),.p (.bool (decide (y1>x))) [],.p (.bool (decide (y1>x))) []] [[],[(0,false)],[(1,false)],[(2,false)],[(3,false)],[(3,false),(4,false)],[(3,false)],[(3,false),(5,false),(6,false)],[(3,false),(7,false)]] [hB b (cAff s p c)] [] [(8,false)] (zY [0]) ?_ ?_
    · refine Op<|Oq ?_<|Oq ?_<|Oq ?_<|Op<|Oq ?_<|Oq ?_<|Op<|Op<|On
      · intro I1 hf le1;refine yV [4] rfl ?_;have H:=iS I1;have h:=h.mono le1;refine uZ (kU s _ hy h) ?_;intro I01 le;have H:=H.trans le;exact xB H
      · intro I1 hf le1;refine yV [5] rfl<|qA 3 [(6,.bool (!y))] ?_;rw [hc];exact xB iR
      · intro I1 hf le1;exact dS [(6,vF)]<|qA 4 [(7,vF)]<|xB iR
      · intro I1 hf le1;refine yV [7,8] rfl ?_;have H:=iS I1;have h:=h.mono le1;refine fB (dG s _ hy1 h) ?_;intro I03 le2;have H:=H.trans le2;exact xB H
      intro I1 hf le1;refine yV [1,7] rfl ?_;have hat:=hat.mono le1;exact xO 0 hat [vI x] (vI x) rfl<|xB iR
    intro I04 le3;refine yV [12] rfl ?_;have H:=H.trans le3;exact yM [] [3] rfl<|wG zQ<|yW<|zU (ct N H)
 intro t3 I0 le4 hMc;refine zK<|xD ?_;obtain rfl:=zC hMc;exact uE
def jT (a0:zG) (depth:Int):Option (Bool):=do
 let t4<-(do
   let y<-fH a0.Array
   if y then
    let y1<-vR (a0.Subs.length:Int) 1 2
    if y1 then
     let y2<-xV a0.Subs (fun x0=>nB x0 depth)
     pure (!y2)
    else
     pure false
   else
    pure false
     : Option Bool)
 pure (id t4)
theorem zCO:∀ a0 depth r,jT a0 depth=some r->∀ {I:Imm}{p c},(S4 I p a0.Subs c)->RT 100 [vA (cAccess a0 p c),vI depth] I [] (zT  r):=by
 intro a0 depth r N I p c h;unfold jT at N;refine yJ Tryz.func100 fun B=>?_;have H:=iS I;refine yC<|vK (cAccess a0 p c) ?_;intro b hb;refine vK [vI depth] ?_;intro b1 hb1;refine xX 0 rfl ?_;intro I0 le hl0;have hat:At I0 ⟨b1,0,none⟩ [vI depth]:=At.of_blk hl0;have ⟨h,H⟩:=m2 le h H;refine wU [] []<|zK<|yD ?_;refine uB N [] (fun t4=>[(4,.bool t4)]) (fun o0 ho0=>?_) ?_
 · have H:=iS I0;refine zM<|yE 2 [0] [6] rfl ?_;obtain ⟨y,hy,N⟩:=zB ho0;refine uZ (kR a0.Array _ hy ) ?_;intro I02 le1;have ⟨hat,h,H⟩:=m3 le1 hat h H;refine yE 4 [] [8] rfl<|wO [8] N ?_ ?_
   · intro hc N;refine yE 7 [0] [11] rfl<|bE N fun y1 hy1 N=>uZ (uS (a0.Subs.length:Int) 1 2 _ hy1 ) ?_;intro I03 le2;have ⟨hat,h,H⟩:=m3 le2 hat h H;refine yE 10 [] [14] rfl<|wO [14] N ?_ ?_
     · intro hc1 N;refine yE 13 [0] [16,17] rfl ?_;have hf0:FV1 Tryz.prog I03 [] (.func (.func 141) ⟨[]⟩ ⟨[vP b1 0]⟩) (fun x0=>nB x0 depth):=by
         refine FV1.intro ?_;intro I1 le1 x0 r u0 hF k0;obtain ⟨_,rfl,k0⟩:=k0;obtain ⟨p1,c1,rfl,h3⟩:=yB k0;exact (zEc x0 depth r hF h3 (hat.mono le1)).mono (by rintro k i hs u ⟨v0,rfl,rfl,h⟩; exact ⟨rfl,h⟩)
       obtain ⟨y2,hy2,N⟩:=zB N;refine xH (pS a0.Subs (fun x0=>nB x0 depth) _ hy2 h hf0) ?_;rintro I04 hs2 v2 k2 le3 - ⟨v03,rfl,rfl,rfl⟩ -;have H:=H.trans le3;exact yM [] [4] rfl<|wG zQ<|yW<|zU (ct N H)
     intro hc1 N;exact wU [] [(4,vF)]<|wG zQ<|yW<|zU (ct N H)
   intro hc N;exact wU [] [(4,vF)]<|wG zQ<|yW<|zU (ct N H)
 intro t4 I01 le4 hMc;refine zK<|xD ?_;obtain rfl:=zC hMc;exact uE
def zAg (kind:Int):Option (Bool):=do
 let y<-vR kind 4 6
 pure (id y)
theorem zJF:∀ kind r,zAg kind=some r->∀ {I:Imm} ,RT 125 [vI kind] I [] (zT  r):=by
 intro kind r N I;unfold zAg at N;refine yJ Tryz.func125 fun B=>vM []<|yX<|yE 1 [] [3] rfl<|bE N fun y hy N=>uZ (uS kind 4 6 _ hy ) fun I0 le=>wU [] [(2,.bool y)]<|zK<|xD ?_;obtain rfl:=zC N;exact uE
end Go.LN
