/- Helper of the proof (see the last text). -/
import Derived.Test.YtndncjnhabjnbaaGreatHM2
set_option linter.unusedVariables false
set_option linter.unusedSimpArgs false
namespace Go.LN
open Go.Proofs Go.Proofs.Tryz
set_option maxRecDepth 20000
def zGt(r:zC):KT:=λkk I' ag v=>
 ∃a0_0 c0_0 s0_0 a0_1 c0_1 s0_1,ag=[.osl (.slice a0_0 r.Arrays.length c0_0) (Rp.sz zF) s0_0,.osl (.slice a0_1 r.Parts.length c0_1) (Rp.sz zQ) s0_1]/\v=tupV [(.agg ⟨[.slice a0_0 r.Arrays.length c0_0,.slice a0_1 r.Parts.length c0_1]⟩)]/\RepL (Rp.rep I') (Rp.sz zF) s0_0 r.Arrays/\RepL (Rp.rep I') (Rp.sz zQ) s0_1 r.Parts
def rU(p:zC)(i:Int)(Arrays:List zF):Option (List zF):=do
 if(decide (i<(p.Arrays.length:Int))) then
  let x<-idx p.Arrays i;let x1<-idx p.Arrays i;let l<-app 8 ([]:List Int) x1.Dims;let l1<-app 40 Arrays ([(zF.mk x.Name l)]:List zF);rU p (W (i+1)) l1
 else pure (id Arrays)
 partial_fixpoint
theorem zBi(p:zC):∀(i:Int) (Arrays:List zF) (o:List zF),rU p i Arrays=some o->∀{B}{I0 I:Imm}{Q p1 c p2 c1}{b b1 b2}{p3 c2 cs},I0.le I->(S4 I p1 p.Arrays c)->(S4 I p2 p.Parts c1)->(RL I cs Arrays)->NG Q->NO Q->(∀I' aC p4 c3 az,o=aC->I0.le I'->(RL I' az aC)->T 84 B Q (.exit 0) I' [hO zF (vS p4 aC c3) az,hB b2 [vS p4 aC c3,z0],hB b1 zTwo,hB b (cProg p p1 c p2 c1)] [(1,vP b 0),(2,vP b1 0),(3,vP b2 0)])->J Tryz.prog 84 B (nav (bodyOf f71) [1,1,0,1,0]) Q I [hO zF (vS p3 Arrays c2) cs,hB b2 [vS p3 Arrays c2,z0],hB b1 zTwo,hB b (cProg p p1 c p2 c1)] [(1,vP b 0),(2,vP b1 0),(3,vP b2 0),(4,vI i)]:=by
 refine rU.partial_correctness p _ λaI ih i Arrays o N B I0 I Q p1 c p2 c1 b b1 b2 p3 c2 cs H h h1 h3 hg ho hx=>yV hg ho<|yB<|yF<|yK [3] [13] rfl<|zG<|yE N ?_ ?_
 ·intro hc N;refine zT<|zZ<|yI ?_;obtain⟨x,hy,N⟩:=zB N;obtain⟨x1,ay,N⟩:=zB N;obtain⟨l,aF,N⟩:=zB N;obtain⟨l1,aX,N⟩:=zB N;refine wA [.p (vP b2 0) [],.p (vS p3 Arrays c2) [0],.p (vP b 0) [],.p (vS p1 p.Arrays c) [2],.p (vI i) [],.x (ePArr x),.x (ePArr x),.q (vT x.Name.l),.x (λI' v hx=>∃b3,v=vS (some ⟨b3,0,none⟩) ([]:List Int) 0/\hx=[hO Int (vS (some ⟨b3,0,none⟩) ([]:List Int) 0) []]/\(RL I' [] ([]:List Int))),.p (vP b 0) [],.p (vS p1 p.Arrays c) [2],.p (vI i) [],.x (ePArr x1),.x (eQArr 1 x1),.x (eS x1.Dims),.x (λI' v hx=>∃p7 c6 aM,v=vS p7 l c6/\hx=[hO Int (vS p7 l c6) aM]/\(RL I' aM l)),.x (λI' v hx=>∃p71 c61 cs21,v=vA [vT x.Name.l,vS p71 l c61]/\hx=[hO Int (vS p71 l c61) cs21]/\(RL I' cs21 l)),.x (λI' v hx=>∃b4,v=vS (some ⟨b4,0,none⟩) ([(zF.mk x.Name l)]:List zF) 1/\hx=[]/\(SL I' (vS (some ⟨b4,0,none⟩) ([(zF.mk x.Name l)]:List zF) 1) ([(zF.mk x.Name l)]:List zF))),.x (λI' v hx=>∃p8 c7 aU,v=vS p8 l1 c7/\hx=[hO zF (vS p8 l1 c7) aU]/\(RL I' aU l1))] [[],[(0,false)],[],[(2,false)],[],[(3,false),(4,false)],[(5,false)],[(6,false)],[],[],[(9,false)],[],[(10,false),(11,false)],[(12,false)],[(13,false)],[(8,true),(14,false)],[(7,false),(15,true)],[(16,true)],[(1,false),(17,false),(21,true)]] [hB b2 [vS p3 Arrays c2,z0],hB b1 zTwo,hB b (cProg p p1 c p2 c1)] [[hO zF (vS p3 Arrays c2) cs]] [(18,true)] (zY [1,2,3,0]) ?_ ?_
  ·refine O4<|Op<|Ox ?_<|Ox ?_<|Oq ?_<|Ox ?_<|O3<|Ox ?_<|Ox ?_<|Ox ?_<|Ox ?_<|Ox ?_<|Ox ?_<|Ox ?_<|On
   ·intro I1 hf aa;refine yP [19,20] rfl ?_;have h:=h.mono aa;refine xK rfl rfl h hy ?_;intro ad aN ap ak;obtain⟨p5,c4,rfl,h5⟩:=wZ ak;exact yM [] iR ⟨_,_,_,rfl,rfl,ap,h5⟩
   ·rintro I1 hf aa _ _ ⟨ad,p5,c4,rfl,rfl,ap,h5⟩;exact yP [21] rfl<|tD 7 [(22,.pointer (some ad))]<|yM [] iR ⟨_,_,_,rfl,rfl,ap,h5⟩
   ·rintro I1 hf aa _ _ ⟨ad1,p51,c41,rfl,rfl,ar,h51⟩;exact yP [22] rfl<|xA 0 ar [vT x.Name.l] (vT x.Name.l) rfl<|yR iR
   ·intro I1 hf aa;refine eN []<|uP [] Int ?_;intro b3 hb3;have h6:RL I1 [] ([]:List Int):=rfl;exact yM [hO Int (vS (some ⟨b3,0,none⟩) ([]:List Int) 0) []] iR ⟨_,rfl,rfl,h6⟩
   ·intro I1 hf aa;refine yP [26,27] rfl ?_;have h:=h.mono aa;refine xK rfl rfl h ay ?_;intro ad2 bm aS au;obtain⟨p6,c5,rfl,h7⟩:=wZ au;exact yM [] iR ⟨_,_,_,rfl,rfl,aS,h7⟩
   ·rintro I1 hf aa _ _ ⟨ad2,p6,c5,rfl,rfl,aS,h7⟩;exact yP [28] rfl<|tD 14 [(29,.pointer (some (ad2.add 1)))]<|yM [] iR ⟨_,_,_,rfl,rfl,aS,h7⟩
   ·rintro I1 hf aa _ _ ⟨ad21,p61,c51,rfl,rfl,hat21,h71⟩;exact yP [29] rfl<|xA 1 hat21 [vS p61 x1.Dims c51] (vS p61 x1.Dims c51) rfl<|yM [] iR ⟨_,_,rfl,rfl,h71⟩
   ·rintro I1 hf aa _ _ ⟨b3,rfl,rfl,h6⟩ _ _ ⟨p611,c511,rfl,rfl,h711⟩;refine yP [24,30] rfl ?_;obtain⟨bO,k0,k01⟩:=h711;have h711:SL I1 (vS p611 x1.Dims c511) x1.Dims:=⟨_,k0,k01⟩;exact qA 3 1 0 rfl rfl rfl h6 (.inl k0) k01 aF λp7 c6 aM h8=>uD (ag:=(hO Int (vS p7 l c6) aM::hB b2 [vS p3 Arrays c2,z0]::hB b1 zTwo::hB b (cProg p p1 c p2 c1)::hf)) rfl<|yM [hO Int (vS p7 l c6) aM] iR ⟨_,_,_,rfl,rfl,h8⟩
   ·rintro I1 hf aa _ _ ⟨rfl,rfl⟩ _ _ ⟨p7,c6,aM,rfl,rfl,h8⟩;exact yP [23,31] rfl<|tD 17 [(32,vA [vT x.Name.l,vS p7 l c6])]<|yM [hO Int (vS p7 l c6) aM] iR ⟨_,_,_,rfl,rfl,h8⟩
   ·rintro I1 hf aa _ _ ⟨p71,c61,cs21,rfl,rfl,h81⟩;refine yP [32] rfl ?_;have H:=iS I1;refine xM 0 rfl ?_;intro I0 le hl0;have h9:=SL.of_frozen hl0 le h81;have H:=H.trans le;refine kM (rc (zF.mk x.Name l) (qY ⟨_,rfl,h9⟩) rN) ?_;intro b4 aT aa h11;have H:=H.trans aa;exact yM [] H ⟨_,rfl,rfl,h11⟩
   rintro I1 hf aa _ _ ⟨rfl,rfl⟩ _ _ ⟨b4,rfl,rfl,h11⟩ _ _ rfl;refine yP [17,33] rfl ?_;have h3:=iM aa h3;obtain⟨ccs3,k02,k03⟩:=h11;have h11:SL I1 (vS (some ⟨b4,0,none⟩) ([(zF.mk x.Name l)]:List zF) 1) ([(zF.mk x.Name l)]:List zF):=⟨_,k02,k03⟩;exact qA 111 2 0 rfl rfl rfl h3 (.inl k02) k03 aX λp8 c7 aU h12=>uD (ag:=(hO zF (vS p8 l1 c7) aU::hB b2 [vS p3 Arrays c2,z0]::hB b1 zTwo::hB b (cProg p p1 c p2 c1)::hf)) rfl<|yM [hO zF (vS p8 l1 c7) aU] iR ⟨_,_,_,rfl,rfl,h12⟩
  rintro aP aD _ _ ⟨p8,c7,aU,rfl,rfl,h12⟩;refine yP [1,2,3,4,34] rfl ?_;have ⟨h,h1,H⟩:=m3 aD h h1 H;exact yG 20 [] [35] rfl<|xI 1 [vS p8 l1 c7,z0] rfl<|yA rfl<|zL<|zG<|zJ<|yK [] [4] rfl<|yU<|nD<|ih (W (i+1)) l1 _ N H h h1 h12 hg ho hx
 intro hc N;exact wM<|yS<|hx _ _ _ _ _ (zD N).symm H h3
def rV(p:zC)(i1:Int)(k04:Int)(Body:List zP):Option (List zP):=do
 let x3<-idx p.Parts i1;if(decide (k04<(x3.Body.length:Int))) then
  let x4<-idx p.Parts i1;let x5<-idx x4.Body k04;let y1<-eF x5;let l2<-app 152 Body ([y1]:List zP);rV p i1 (W (k04+1)) l2
 else pure (id Body)
 partial_fixpoint
theorem zBj(p:zC)(i1:Int):∀(k04:Int) (Body:List zP) (o:List zP),rV p i1 k04 Body=some o->∀{B}{I0 I:Imm}{Q}{aC:List zF}{Parts:List zQ}{y:(List zE)}{p1 c p2 c1}{b b1 b2}{p4 c3 az p9 c8 bv bj bo}{b5}{p14 bw cs6},I0.le I->(S4 I bj y bo)->(RL I bv Parts)->(RL I az aC)->(S4 I p1 p.Arrays c)->(S4 I p2 p.Parts c1)->(RL I cs6 Body)->NG Q->NO Q->(∀I' bt p15 c14 cs7,o=bt->I0.le I'->(RL I' cs7 bt)->T 84 B Q (.exit 4) I' [hO zP (vS p15 bt c14) cs7,hB b5 [vS bj y bo,vS p15 bt c14],hO zQ (vS p9 Parts c8) bv,hO zF (vS p4 aC c3) az,hB b2 [vS p4 aC c3,vS p9 Parts c8],hB b1 zTwo,hB b (cProg p p1 c p2 c1)] [(1,vP b 0),(2,vP b1 0),(3,vP b2 0),(5,vI i1),(6,vP b5 0)])->J Tryz.prog 84 B (nav (bodyOf f71) [1,1,1,0,1,0,0,1,0,0,1,0,1,0]) Q I [hO zP (vS p14 Body bw) cs6,hB b5 [vS bj y bo,vS p14 Body bw],hO zQ (vS p9 Parts c8) bv,hO zF (vS p4 aC c3) az,hB b2 [vS p4 aC c3,vS p9 Parts c8],hB b1 zTwo,hB b (cProg p p1 c p2 c1)] [(1,vP b 0),(2,vP b1 0),(3,vP b2 0),(5,vI i1),(6,vP b5 0),(7,vI k04)]:=by
 refine rV.partial_correctness p i1 _ λaI ih k04 Body o N B I0 I Q aC Parts y p1 c p2 c1 b b1 b2 p4 c3 az p9 c8 bv bj bo b5 p14 bw cs6 H h18 h14 h4 h h1 h20 hg ho hx=>yV hg ho<|yB<|yF<|yG 4 [6] [51,53,54] rfl<|bE N λx3 hy6 N=>xK rfl rfl h1 hy6 ?_;intro ad4 ccs5 hat4 bB;obtain⟨p16,c15,p17,c16,rfl,h22,h23⟩:=vU bB;refine yG 6 [] [56] rfl<|xA 1 hat4 [vS p17 x3.Body c16] (vS p17 x3.Body c16) rfl<|yK [] [59] rfl<|zG<|yE N ?_ ?_
 ·intro aV N;refine zT<|zZ<|yI ?_;obtain⟨x4,hy7,N⟩:=zB N;obtain⟨x5,hy8,N⟩:=zB N;obtain⟨y1,hy9,N⟩:=zB N;obtain⟨l2,hy10,N⟩:=zB N;refine wA [.p (vP b5 1) [],.p (vS p14 Body bw) [0],.p (vP b 1) [],.p (vS p2 p.Parts c1) [5],.p (vI i1) [],.x (ePPart x4),.x (eQPart 1 x4),.x (eS x4.Body),.p (vI k04) [],.x (ePStmt x5),.x (eVStmt x5),.x (λI' v hx=>∃p24 c23 p25 c24 p26 c25 p27 c26 cs8 cs9,v=vA (cStmt y1 p24 c23 p25 c24 p26 c25 p27 c26)/\hx=[hO zA (vS p24 y1.Write.Subs c23) cs8,hO zI (vS p27 y1.Value.Kids c26) cs9]/\(RL I' cs8 y1.Write.Subs)/\(S4 I' p25 y1.Value.Index.Coefs c24)/\(S4 I' p26 y1.Value.Read.Subs c25)/\(RL I' cs9 y1.Value.Kids)),.x (λI' v hx=>∃b6,v=vS (some ⟨b6,0,none⟩) ([y1]:List zP) 1/\hx=[]/\(SL I' (vS (some ⟨b6,0,none⟩) ([y1]:List zP) 1) ([y1]:List zP))),.x (λI' v hx=>∃p28 c27 cs10,v=vS p28 l2 c27/\hx=[hO zP (vS p28 l2 c27) cs10]/\(RL I' cs10 l2))] [[],[(0,false)],[],[(2,false)],[],[(3,false),(4,false)],[(5,false)],[(6,false)],[],[(7,false),(8,false)],[(9,false)],[(10,false)],[(11,true)],[(1,false),(12,false),(16,true)]] [hB b5 [vS bj y bo,vS p14 Body bw],hO zQ (vS p9 Parts c8) bv,hO zF (vS p4 aC c3) az,hB b2 [vS p4 aC c3,vS p9 Parts c8],hB b1 zTwo,hB b (cProg p p1 c p2 c1)] [[hO zP (vS p14 Body bw) cs6]] [(13,true)] (zY [1,2,3,4,5,6,0]) ?_ ?_
  ·refine O4<|Op<|Ox ?_<|Ox ?_<|Ox ?_<|Op<|Ox ?_<|Ox ?_<|Ox ?_<|Ox ?_<|Ox ?_<|On
   ·intro I1 hf aa;refine yP [65,66] rfl ?_;have h1:=h1.mono aa;refine xK rfl rfl h1 hy7 ?_;intro ad5 ccs6 hat5 hrep4;obtain⟨p18,c17,p19,c18,rfl,h24,h25⟩:=vU hrep4;exact yM [] iR ⟨_,_,_,_,_,rfl,rfl,hat5,h24,h25⟩
   ·rintro I1 hf aa _ _ ⟨ad5,p18,c17,p19,c18,rfl,rfl,hat5,h24,h25⟩;exact yP [67] rfl<|tD 7 [(68,.pointer (some (ad5.add 1)))]<|yM [] iR ⟨_,_,_,_,_,rfl,rfl,hat5,h24,h25⟩
   ·rintro I1 hf aa _ _ ⟨ad51,p181,c171,p191,c181,rfl,rfl,hat51,h241,h251⟩;exact yP [68] rfl<|xA 1 hat51 [vS p191 x4.Body c181] (vS p191 x4.Body c181) rfl<|yM [] iR ⟨_,_,rfl,rfl,h251⟩
   ·rintro I1 hf aa _ _ ⟨p1911,c1811,rfl,rfl,h2511⟩;refine yP [69,70] rfl<|xK rfl rfl h2511 hy8 ?_;intro ad6 ccs7 hat6 hrep5;obtain⟨p20,c19,p21,c20,p22,c21,p23,c22,rfl,h26,h27,h28,h29⟩:=sA hrep5;exact yM [] iR ⟨_,_,_,_,_,_,_,_,_,rfl,rfl,hat6,h26,h27,h28,h29⟩
   ·rintro I1 hf aa _ _ ⟨ad6,p20,c19,p21,c20,p22,c21,p23,c22,rfl,rfl,hat6,h26,h27,h28,h29⟩;exact yP [71] rfl<|xA 0 hat6 (cStmt x5 p20 c19 p21 c20 p22 c21 p23 c22) (vA (cStmt x5 p20 c19 p21 c20 p22 c21 p23 c22)) rfl<|yM [] iR ⟨_,_,_,_,_,_,_,_,rfl,rfl,h26,h27,h28,h29⟩
   ·rintro I1 hf aa _ _ ⟨p201,c191,p211,c201,p221,c211,p231,c221,rfl,rfl,h261,h271,h281,h291⟩;refine yP [72] rfl ?_;have H:=iS I1;refine xF (zDb x5 _ hy9 h261 h271 h281 h291) ?_;rintro bL av v2 k2 bu - ⟨p24,c23,cs8,p25,c24,p26,c25,p27,c26,cs9,rfl,rfl,h30,h31,h32,h33⟩ -;have H:=H.trans bu;exact yM [hO zA (vS p24 y1.Write.Subs c23) cs8,hO zI (vS p27 y1.Value.Kids c26) cs9] H ⟨_,_,_,_,_,_,_,_,_,_,rfl,rfl,h30,h31,h32,h33⟩
   ·rintro I1 hf aa _ _ ⟨p24,c23,p25,c24,p26,c25,p27,c26,cs8,cs9,rfl,rfl,h30,h31,h32,h33⟩;refine yP [73] rfl ?_;have H:=iS I1;refine xM 0 rfl ?_;intro I06 bG hl02;have h34:=SL.of_frozen hl02 bG h30;have ⟨h31,h32,h33,H⟩:=m4 bG h31 h32 h33 H;refine xM 0 rfl ?_;intro I07 le7 hl03;have h35:=SL.of_frozen hl03 le7 h33;have ⟨h34,h31,h32,H⟩:=m4 le7 h34 h31 h32 H;refine kM (rc y1 (vL ⟨_,_,_,_,rfl,h34,h31,h32,h35⟩) rN) ?_;intro b6 I08 le8 h37;have H:=H.trans le8;exact yM [] H ⟨_,rfl,rfl,h37⟩
   rintro I1 hf aa _ _ ⟨rfl,rfl⟩ _ _ ⟨b6,rfl,rfl,h37⟩ _ _ rfl;refine yP [63,74] rfl ?_;have h20:=iM aa h20;obtain⟨ccs8,k05,k06⟩:=h37;have h37:SL I1 (vS (some ⟨b6,0,none⟩) ([y1]:List zP) 1) ([y1]:List zP):=⟨_,k05,k06⟩;exact qA 83 9 0 rfl rfl rfl h20 (.inl k05) k06 hy10 λp28 c27 cs10 h38=>uD (ag:=(hO zP (vS p28 l2 c27) cs10::hB b5 [vS bj y bo,vS p14 Body bw]::hO zQ (vS p9 Parts c8) bv::hO zF (vS p4 aC c3) az::hB b2 [vS p4 aC c3,vS p9 Parts c8]::hB b1 zTwo::hB b (cProg p p1 c p2 c1)::hf)) rfl<|yM [hO zP (vS p28 l2 c27) cs10] iR ⟨_,_,_,rfl,rfl,h38⟩
  rintro I09 le9 _ _ ⟨p28,c27,cs10,rfl,rfl,h38⟩;refine yP [1,2,3,5,6,7,75] rfl ?_;have ⟨h18,h14,h4,h,h1,H⟩:=m6 le9 h18 h14 h4 h h1 H;exact yG 15 [] [76] rfl<|xI 1 [vS bj y bo,vS p28 l2 c27] rfl<|yA rfl<|zL<|zG<|zJ<|yK [] [7] rfl<|yU<|nD<|ih (W (k04+1)) l2 _ N H h18 h14 h4 h h1 h38 hg ho hx
 intro aV N;exact wM<|yS<|hx _ _ _ _ _ (zD N).symm H h20
def tH(p:zC)(i1:Int)(Parts:List zQ):Option (List zQ):=do
 if(decide (i1<(p.Parts.length:Int))) then
  let x2<-idx p.Parts i1;let y<-kS x2.Nest;let bt<-rV p i1 0 ([]:List zP);let l3<-app 48 Parts ([(zQ.mk y bt)]:List zQ);tH p (W (i1+1)) l3
 else pure (id Parts)
 partial_fixpoint
theorem zFf(p:zC):∀(i1:Int) (Parts:List zQ) (o:List zQ),tH p i1 Parts=some o->∀{B}{I0 I:Imm}{Q}{aC:List zF}{p1 c p2 c1}{b b1 b2}{p4 c3 az p9 c8 bv},I0.le I->(RL I az aC)->(S4 I p1 p.Arrays c)->(S4 I p2 p.Parts c1)->(RL I bv Parts)->NG Q->NO Q->(∀I' bi bb c9 bH,o=bi->I0.le I'->(RL I' bH bi)->T 84 B Q (.exit 2) I' [hO zQ (vS bb bi c9) bH,hO zF (vS p4 aC c3) az,hB b2 [vS p4 aC c3,vS bb bi c9],hB b1 zTwo] [(2,vP b1 0),(3,vP b2 0)])->J Tryz.prog 84 B (nav (bodyOf f71) [1,1,1,0,1,0]) Q I [hO zQ (vS p9 Parts c8) bv,hO zF (vS p4 aC c3) az,hB b2 [vS p4 aC c3,vS p9 Parts c8],hB b1 zTwo,hB b (cProg p p1 c p2 c1)] [(1,vP b 0),(2,vP b1 0),(3,vP b2 0),(5,vI i1)]:=by
 refine tH.partial_correctness p _ λaI ih i1 Parts o N B I0 I Q aC p1 c p2 c1 b b1 b2 p4 c3 az p9 c8 bv H h4 h h1 h14 hg ho hx=>yV hg ho<|yB<|yF<|yK [4] [40] rfl<|zG<|yE N ?_ ?_
 ·intro aE N;refine zT<|zZ<|yI<|yF<|yG 3 [4] [44,45] rfl<|bE N λx2 bk N=>xK rfl rfl h1 bk ?_;intro ad3 ccs4 hat3 aZ;obtain⟨aR,bd,bz,bh,rfl,h16,h17⟩:=vU aZ;refine yG 5 [] [47] rfl<|xA 0 hat3 [vS aR x2.Nest bd] (vS aR x2.Nest bd) rfl<|bE N λy bC N=>xF (zDa x2.Nest _ bC h16) ?_;rintro bI av v2 k2 bf - ⟨v04,rfl,rfl,h18⟩ -;have ⟨h14,h4,h,h1,H⟩:=m5 bf h14 h4 h h1 H;obtain⟨bj,bo,rfl⟩:=h18.form;refine yG 8 [] [50] rfl<|wI zTwo ?_;intro b5 hb5;refine xI 0 [vS bj y bo,z0] rfl<|yA rfl<|zZ<|yH [7] rfl<|xY<|pE [(1,vP b 0),(2,vP b1 0),(3,vP b2 0),(5,vI i1),(6,vP b5 0),(7,vI 0)]<|zAm zP λh19=>?_;obtain⟨aO,aB,hMl1⟩:=zB N;refine zBj p i1 0 ([]:List zP) aO aB iR h18 h14 h4 h h1 h19 (λ_ _ _ h=>hg _ _ _ h) (λ_ _ h=>ho _ _ h) ?_;intro bP bt p15 c14 cs7 heq1 le10 h21;subst aO;have ⟨h18,h14,h4,h,h1,H⟩:=m6 le10 h18 h14 h4 h h1 H;refine zS<|zG<|zJ<|sW 3 [4,1] [(78,vS p9 Parts c8),(79,vA [vS bj y bo,vS p15 bt c14])]<|xM 0 rfl ?_;intro bV le11 hl05;have h39:=SL.of_frozen hl05 le11 h21;have ⟨h14,h18,h4,h,h1,H⟩:=m6 le11 h14 h18 h4 h h1 H;refine uP [vS bj y bo,vS p15 bt c14] zQ ?_;intro b7 hb7;have h40:RL bV [vS bj y bo,vS p15 bt c14] ([(zQ.mk y bt)]:List zQ):=⟨[vS bj y bo,vS p15 bt c14],_,rfl,rfl,(qS ⟨_,_,rfl,h18,h39⟩),rfl⟩;obtain⟨l3,hy11,N⟩:=zB hMl1;refine qA 70 2 2 rfl rfl rfl h14 (.inr ⟨0,rfl⟩) h40 hy11 ?_;intro p29 c28 cs11 h41;exact tX (zY [1,2,3,4,5,6] (ag:=[hB b5 [vS bj y bo,vS p15 bt c14],hO zQ (vS p29 l3 c28) cs11,hO zF (vS p4 aC c3) az,hB b2 [vS p4 aC c3,vS p9 Parts c8],hB b1 zTwo,hB b (cProg p p1 c p2 c1)]))<|yG 6 [] [82] rfl<|xI 3 [vS p4 aC c3,vS p29 l3 c28] rfl<|yA rfl<|zL<|zG<|zJ<|yK [] [5] rfl<|yU<|jS (zX [1,2,3,4,5] rfl (by decide))<|nD<|ih (W (i1+1)) l3 _ N H h4 h h1 h41 hg ho hx
 intro aE N;exact wM<|xW (zX [0,1,2,3] rfl (by decide))<|yS<|hx _ _ _ _ _ (zD N).symm H h14
def pY(p:zC):Option (zC):=do
 let aC<-rU p 0 ([]:List zF);let bi<-tH p 0 ([]:List zQ);pure (zC.mk aC bi)
theorem zI8:∀p r,pY p=some r->∀{I:Imm}{p1 c p2 c1},(S4 I p1 p.Arrays c)->(S4 I p2 p.Parts c1)->RT 71 [vA (cProg p p1 c p2 c1)] I [] (zGt  r):=by
 intro p r N I p1 c p2 c1 h h1;unfold pY at N;refine yL func71 λB=>yF<|vK (cProg p p1 c p2 c1) ?_;intro b hb;refine wI zTwo ?_;intro b1 hb1;refine yA rfl<|yW<|yG 1 [] [8] rfl<|wI zTwo ?_;intro b2 hb2;refine zBu 0 zTwo [hB b2 zTwo,hB b1 zTwo,hB b (cProg p p1 c p2 c1)] rfl rfl rfl rfl<|yA rfl<|zZ<|yH [4] rfl<|xY<|pE [(1,vP b 0),(2,vP b1 0),(3,vP b2 0),(4,vI 0)]<|zAm zF λh2=>?_;obtain⟨o0,aA,aG⟩:=zB N;refine zBi p 0 ([]:List zF) o0 aA iR h h1 h2 nG nO ?_;intro bx aC p4 c3 az heq aH h4;subst o0;have ⟨h,h1⟩:=m2 aH h h1;refine zS<|zZ<|yH [5] rfl<|xY<|pE [(1,vP b 0),(2,vP b1 0),(3,vP b2 0),(5,vI 0)]<|zAm zQ λh13=>?_;obtain⟨o02,ho02,hMl2⟩:=zB aG;refine zFf p 0 ([]:List zQ) o02 ho02 iR h4 h h1 h13 nG nO ?_;intro bW bi bb c9 bH heq2 le12 h15;subst o02;have h4:=iM le12 h4;refine zS<|yW<|sW 1 [2] [(83,vA [vS p4 aC c3,vS bb bi c9])]<|xI 3 [vS p4 aC c3,vS bb bi c9] rfl<|yA rfl<|zG<|yX ?_;exact xU hMl2 (resC 3 rfl rfl) (zX [1,0] rfl (by decide)) ⟨_,_,_,_,_,_,rfl,rfl,h4,h15⟩
def zEt(b0:Nat)(r:Str×zO):KT:=λkk I' ag v=>
 ∃v0 k0,ag=[.blk b0 ⟨k0⟩]/\v=tupV [v0]/\v0=.string ⟨⟨r.1.l⟩⟩/\Rp.rep I' k0 r.2
def qZ(r0:zO)(list:(List Str)):Option (Str×zO):=do
 let (y1,y2)<-xC r0 (list.length:Int);let x<-idx list y1;pure (x,y2)
theorem fF:∀r0 list r,qZ r0 list=some r->∀{I:Imm}{aw}{p c p1 c1},(S4 I p r0.b c)->(S4 I p1 list c1)->RT 73 [vP aw 0,vS p1 list c1] I [hB aw (cRd r0 p c)] (zEt aw r):=by
 intro r0 list r N I aw p c p1 c1 h h1;unfold qZ at N;refine yL func73 λB=>wL []<|yW<|yG 4 [] [5,6,8] rfl ?_;obtain⟨⟨y1,y2⟩,hy,N⟩:=zB N;refine sG (xV r0 (list.length:Int) _ hy h) rfl ?_;rintro I0 av v2 k2 le - ⟨v0,kk,rfl,rfl,rfl,h3⟩ -;have h1:=h1.mono le;obtain⟨p2,c2,rfl,h4⟩:=yD h3;obtain⟨x,ay,N⟩:=zB N;refine xK rfl rfl h1 ay ?_;intro ad aN ap ak;obtain rfl:=ak;refine xA 0 ap [vT x.l] (vT x.l) rfl<|yK [] [4] rfl<|zG<|yX ?_;exact xU N (resT rfl) (zX [0] rfl (by decide)) ⟨_,_,rfl,rfl,rfl,(yY ⟨_,rfl,h4⟩)⟩
def zCS(r:zA):KT:=λkk I' ag v=>
 ∃a0_0 c0_0 s0_0,ag=[.osl (.slice a0_0 r.Coefs.length c0_0) (Rp.sz Int) s0_0]/\v=tupV [(.agg ⟨[.slice a0_0 r.Coefs.length c0_0,.int .i64 r.Const]⟩)]/\RepL (Rp.rep I') (Rp.sz Int) s0_0 r.Coefs
def mJ :Option (zA):=do
 pure (zA.mk ([0,0,0,0]:List Int) 0)
theorem fG:∀r,mJ =some r->∀{I:Imm} ,RT 111 [] I [] (zCS  r):=by
 intro  r N I;unfold mJ at N;refine yL func111 λB=>yF<|wI [z0,vI 0] ?_;intro b hb;refine yA rfl<|yW<|uP [vI 0,vI 0,vI 0,vI 0] Int ?_;intro b1 hb1;have h:RL I [vI 0,vI 0,vI 0,vI 0] ([0,0,0,0]:List Int):=rI [0,0,0,0];refine yG 2 [] [2] rfl<|xI 1 [vS (some ⟨b1,0,none⟩) ([0,0,0,0]:List Int) 4,vI 0] rfl<|yA rfl<|zG<|yX ?_;exact xU N (resC 1 rfl rfl) (zX [0] rfl (by decide)) ⟨_,_,_,rfl,rfl,h⟩
def kR(v0:Int):Option (zA):=do
 let y<-mJ;let x<-idx y.Coefs v0;let l<-pure (y.Coefs.set v0.toNat 1);pure (zA.mk l y.Const)
theorem zAF:∀v0 r,kR v0=some r->∀{I:Imm} ,RT 109 [vI v0] I [] (fV  r):=by
 intro v0 r N I;unfold kR at N;refine yL func109 λB=>yF<|wI [z0,vI 0] ?_;intro b hb;refine yA rfl<|yW<|bE N λy hy N=>xF (fG  _ hy ) ?_;rintro I0 av v2 k2 le - ⟨p,c,cs,rfl,rfl,h⟩ -;refine wI [z0,vI 0] ?_;intro b1 hb1;refine xI 0 (cAff y p c) rfl<|yA rfl<|yW<|yG 3 [0] [6,7] rfl<|bE N λx ay N=>pF 1 rfl rfl rfl h ay ?_;intro ad aN ap bJ ak;obtain rfl:=ak;obtain⟨l,aF,N⟩:=zB N;refine zGm 1 0 ap bJ h ay aF rfl ?_;intro az h1 hl0;refine zAl (m':=[(2,vP b 0),(3,vP b1 0),(6,vS p y.Coefs c),(7,vI v0)]) ⟨rfl,rfl,rfl,rfl,trivial⟩<|zIU (ag:=[hB b1 [vS p l c,vI y.Const],hO Int (vS p l c) az,hB b [z0,vI 0]]) (m':=[(2,vP b 0),(3,vP b1 0),(6,vS p l c),(7,vI v0)]) (by first|rfl|simp only[vS,hl0,cu,fa,fw,fe,ex,ey]) (by first|rfl|simp only[vS,hl0])<|yA rfl<|yW<|sW 1 [0] [(9,vA [vS p l c,vI y.Const])]<|xI 2 [vS p l c,vI y.Const] rfl<|yA rfl<|xD<|yZ 1 rfl ?_;intro aT aa hl01;have h2:=SL.of_frozen hl01 aa h1;exact xU N (resC 1 rfl rfl) zM ⟨_,rfl,rfl,⟨_,rfl,(yT ⟨_,rfl,h2⟩)⟩⟩
def vO(n0:Int):Option (zA):=do
 let y<-mJ;pure (zA.mk y.Coefs n0)
theorem tC:∀n0 r,vO n0=some r->∀{I:Imm} ,RT 110 [vI n0] I [] (zCS  r):=by
 intro n0 r N I;unfold vO at N;refine yL func110 λB=>yF<|wI [z0,vI 0] ?_;intro b hb;refine yA rfl<|yW<|bE N λy hy N=>xF (fG  _ hy ) ?_;rintro I0 av v2 k2 le - ⟨p,c,cs,rfl,rfl,h⟩ -;refine wI [z0,vI 0] ?_;intro b1 hb1;refine xI 0 (cAff y p c) rfl<|yA rfl<|yW<|yG 2 [] [5,6] rfl<|xI 0 [vS p y.Coefs c,vI n0] rfl<|yA rfl<|yW<|sW 1 [0] [(7,vA [vS p y.Coefs c,vI n0])]<|xI 2 [vS p y.Coefs c,vI n0] rfl<|yA rfl<|zG<|yX ?_;exact xU N (resC 2 rfl rfl) (zX [1] rfl (by decide)) ⟨_,_,_,rfl,rfl,h⟩
theorem zOT(xs:List NL)(x:NL):(x.ha++NLs xs).Perm (NLs (xs++[x])):=by
 simp only[NLs,cZ,ce,fm,co];exact dh
theorem zEu(nest:(List zE)):∀(out:List zE) (i:Int) (o:List zE),tG nest out i=some o->∀{B}{I0 I:Imm}{Q p c p1 c1 cs}{xs:List NL},I0.le I->(S4 I p nest c)->(RL I cs (xs.map NL.raw))->out=xs.map NL.d->(∀x∈xs,x.ok I)->(∀l a w,¬Q (.goto l) a w)->(∀a w,¬Q .outgrown a w)->(∀(I':Imm) (p2:Option Addr) (c2:Nat) (az:List Value) (ys:List NL),I0.le I'->o=ys.map NL.d->(RL I' az (ys.map NL.raw))->(∀x∈ys,x.ok I')->T 83 B Q (.exit 0) I' (hO Raw2 (vS p2 (ys.map NL.raw) c2) az::NLs ys) [(3,vS p2 (ys.map NL.raw) c2)])->J Tryz.prog 83 B (nav (bodyOf f107) [1,1,0,1,0]) Q I (hO Raw2 (vS p1 (xs.map NL.raw) c1) cs::NLs xs) [(0,vS p nest c),(3,vS p1 (xs.map NL.raw) c1),(4,vI i)]:=by
 refine tG.partial_correctness nest _ λaI ih out i o N B I0 I Q p c p1 c1 cs xs H h h2 hout bY hg ho hx=>yV hg ho<|yB<|yH [14] rfl<|zG<|yE N ?_ ?_
 ·intro hc N;refine zT<|zZ<|yI<|yF<|yG 1 [] [17] rfl<|wI zTwo ?_;intro b1 hb1;refine zBu 0 zTwo (hB b1 zTwo::hO Raw2 (vS p1 (xs.map NL.raw) c1) cs::NLs xs) rfl rfl rfl rfl<|yA rfl<|zZ<|yH [6] rfl<|xY<|pE [(0,vS p nest c),(3,vS p1 (xs.map NL.raw) c1),(4,vI i),(5,vP b1 0),(6,vI 0)]<|zAm zA λh4=>?_;obtain⟨o0,aA,aG⟩:=zB N;refine zQs (hs:=[hO zA (vS none ([]:List zA) 0) [],hB b1 zTwo,hO Raw2 (vS p1 (xs.map NL.raw) c1) cs]) (L:=NLs xs) (.exit 2) (λI' ag m'=>∃p4 c4 aU,RL I' aU o0/\ag=[hO zA (vS p4 o0 c4) aU,hB b1 [vS p4 o0 c4,z0],hO Raw2 (vS p1 (xs.map NL.raw) c1) cs]/\m'=[(0,vS p nest c),(3,vS p1 (xs.map NL.raw) c1),(4,vI i),(5,vP b1 0)]) (λB'=>?_) ?_
  ·refine zBg nest i 0 ([]:List zA) o0 aA iR h h2 h4 (λ_ _ _ h=>by cases h.1) (λ_ _ h=>by cases h.1) ?_;intro bx Lo1 p4 c4 aU heq aH h6;subst o0;exact zQt ⟨_,_,_,h6,rfl,rfl⟩
  rintro bx _ _ ⟨p4,c4,aU,h6,rfl,rfl⟩ aH;have ⟨h,h2⟩:=m2 aH h h2;have bY:=λx hx=>(bY x hx).mono aH;have H:=H.trans aH;refine zS<|zZ<|yH [8] rfl<|xY<|pE [(0,vS p nest c),(3,vS p1 (xs.map NL.raw) c1),(4,vI i),(5,vP b1 0),(8,vI 0)]<|zAm zA λh18=>?_;obtain⟨aO,aB,hMl1⟩:=zB aG;refine zQs (hs:=[hO zA (vS none ([]:List zA) 0) [],hO zA (vS p4 o0 c4) aU,hB b1 [vS p4 o0 c4,z0],hO Raw2 (vS p1 (xs.map NL.raw) c1) cs]) (L:=NLs xs) (.exit 4) (λI' ag m'=>∃bj bw cs7,RL I' cs7 aO/\ag=[hO zA (vS bj aO bw) cs7,hO zA (vS p4 o0 c4) aU,hB b1 [vS p4 o0 c4,vS bj aO bw],hO Raw2 (vS p1 (xs.map NL.raw) c1) cs]/\m'=[(0,vS p nest c),(3,vS p1 (xs.map NL.raw) c1),(4,vI i),(5,vP b1 0)]) (λB'=>?_) ?_
  ·refine zBh nest i 0 ([]:List zA) aO aB iR h h2 h6 h18 (λ_ _ _ h=>by cases h.1) (λ_ _ h=>by cases h.1) ?_;intro I07 Hi1 bj bw cs7 heq1 le7 h20;subst aO;exact zQt ⟨_,_,_,h20,rfl,rfl⟩
  rintro I07 _ _ ⟨bj,bw,cs7,h20,rfl,rfl⟩ le7;have ⟨h,h2,h6⟩:=m3 le7 h h2 h6;have bY:=λx hx=>(bY x hx).mono le7;have H:=H.trans le7;obtain⟨aq,hy10,N⟩:=zB hMl1;have hy11:=zKZ (l':=xs.map NL.raw) (m':=[(⟨vS p4 o0 c4,vS bj aO bw⟩:Raw2)]) hy10 (by simp[hout]) rfl;obtain⟨_,rfl⟩:=zCG hy10;have h34:RL I07 [vS p4 o0 c4,vS bj aO bw] [(⟨vS p4 o0 c4,vS bj aO bw⟩:Raw2)]:=⟨[vS p4 o0 c4,vS bj aO bw],[],rfl,rfl,⟨rfl,rfl,rfl⟩,rfl⟩;refine zS<|zG<|zJ<|sW 2 [2] [(78,vS p1 (xs.map NL.raw) c1),(79,vA [vS p4 o0 c4,vS bj aO bw])]<|uP [vS p4 o0 c4,vS bj aO bw] Raw2 ?_;intro b8 hb8;refine qA 150 2 4 rfl rfl rfl h2 (.inr ⟨0,rfl⟩) h34 hy11 ?_;intro p21 c21 cs10 h35;have eR:xs.map NL.raw++[(⟨vS p4 o0 c4,vS bj aO bw⟩:Raw2)]=(xs++[(⟨p4,o0,c4,aU,bj,aO,bw,cs7⟩:NL)]).map NL.raw:=by simp[NL.raw,NL.vl,NL.vh]
  have eD:out++[(⟨o0,aO⟩:zE)]=(xs++[(⟨p4,o0,c4,aU,bj,aO,bw,cs7⟩:NL)]).map NL.d:=by simp[hout,NL.d]
  rw[eR] at h35 ⊢;refine yK [] [3] rfl<|zL<|zG<|zJ<|yK [] [4] rfl<|yU<|jS (zGb 0 rfl)<|jS (zGb 2 rfl)<|zK1 _ ?_<|pE [(0,vS p nest c),(3,vS p21 ((xs++[(⟨p4,o0,c4,aU,bj,aO,bw,cs7⟩:NL)]).map NL.raw) c21),(4,vI (W (i+1)))]<|ih _ (W (i+1)) _ N H h h35 eD ?_ hg ho hx
  ·show List.Perm _ (hO zA (vS bj aO bw) cs7::hO zA (vS p4 o0 c4) aU::hO Raw2 (vS p21 ((xs++[(⟨p4,o0,c4,aU,bj,aO,bw,cs7⟩:NL)]).map NL.raw) c21) cs10::NLs xs);exact List.Perm.trans ((zOT xs ⟨p4,o0,c4,aU,bj,aO,bw,cs7⟩).symm.cons _)<|(List.Perm.swap _ _ _).trans (List.Perm.cons _ (List.Perm.swap _ _ _))
  intro x hx';rcases dl.1 hx' with hx' | hx'
  ·exact bY x hx'
  rw[cD.1 hx'];exact⟨h6,h20⟩
 intro hc N;have:=zD N;simp only[id] at this;exact wM<|yS<|hx _ _ _ _ _ H (by rw[<- this,hout]) h2 bY
def zFg(r:(List zE)):KT:=λkk I' ag v=>
 ∃(p:Option Addr) (c:Nat) (cs:List Value) (xs:List NL),ag=hO Raw2 (vS p (xs.map NL.raw) c) cs::NLs xs/\v=tupV [vS p (xs.map NL.raw) c]/\RL I' cs (xs.map NL.raw)/\r=xs.map NL.d/\∀x∈xs,x.ok I'
theorem zHc:∀(nest:(List zE)) r,kS nest=some r->∀{I:Imm}{p c},(S4 I p nest c)->RT 107 [vS p nest c] I [] (zFg  r):=by
 intro nest r N I p c h;unfold kS at N;refine yL func107 λB=>wL []<|yW<|uP [] zE ?_;intro b hb;have h1:RL I [] (([]:List NL).map NL.raw):=rfl;refine yK [] [3] rfl<|zZ<|yH [4] rfl<|xY<|pE [(0,vS p nest c),(3,vS (some ⟨b,0,none⟩) (([]:List NL).map NL.raw) 0),(4,vI 0)] ?_;obtain⟨o02,ho02,hMl2⟩:=zB N;refine zEu nest ([]:List zE) 0 o02 ho02 (xs:=[]) iR h h1 rfl (λ_ h=>by cases h) nG nO ?_;intro I1 p2 c2 az ys le10 ho h3 hok;have:=zD hMl2;simp only[id] at this;subst this;exact zS<|wV [2] rfl<|xD<|zJ3 (resT rfl) (λ_ g=>g) ⟨_,_,_,ys,rfl,rfl,h3,ho,hok⟩
def pL(out:List zE):Option (List zE):=do
 if(decide ((out.length:Int)<=4)) then
  let x<-idx out 0;let l<-app 48 out ([x]:List zE);pL l
 else pure (id out)
 partial_fixpoint
def mZ(r0:zO)(nest:(List zE)):Option ((List zE)×zO):=do
 let y<-kS nest;if((y.length:Int)==0) then pure (y,r0)
 else
  let (y2,y3)<-xC r0 40;if(y2==0) then
   let x<-idx y 0;let (y5,y6)<-xC y3 2;let y7<-kR y5;let l<-app 32 x.Lo ([y7]:List zA);pure (y.set 0 (zE.mk l x.Hi),y6)
  else
   if(y2==1) then
    let x<-idx y (W ((y.length:Int) - 1));pure (y.set (W ((y.length:Int) - 1)).toNat (zE.mk x.Lo []),y3)
   else
    if(y2==2) then
     let x<-idx y (W ((y.length:Int) - 1));let y7<-vO 1;let y8<-vO 2;let l<-app 32 x.Hi ([y7,y8]:List zA);pure (y.set (W ((y.length:Int) - 1)).toNat (zE.mk x.Lo l),y3)
    else
     if(y2==3) then
      let y7<-vO 99;let x<-idx y 0;pure (y.set 0 (zE.mk x.Lo [y7]),y3)
     else
      if(y2==4) then
       let z<-pL y;pure (z,y3)
      else pure (y,y3)
theorem zEU:∀(out:List zE) (o:List zE),pL out=some o->∀{B}{I0 I:Imm}{Q}{K:HA}{p1 c1 cs},I0.le I->RL I cs out->(∀l a w,¬Q (.goto l) a w)->(∀a w,¬Q .outgrown a w)->(∀(I':Imm) (p2:Option Addr) (c2:Nat) (az:List Value),I0.le I'->RL I' az o->T 73 B Q (.exit 1) I' [hO zE (vS p2 o c2) az,K] [(5,vS p2 o c2)])->J Tryz.prog 73 B (nav (bodyOf f74) [1,1,1,1,0,1,0,1,1,1,1,1,1,1,1,1,0,0]) Q I [hO zE (vS p1 out c1) cs,K] [(5,vS p1 out c1)]:=by
 refine pL.partial_correctness _ λaI ih out o N B I0 I Q K p1 c1 cs H h hg ho hx=>yV hg ho<|yB<|yH [65] rfl<|zG<|yE N ?_ ?_
 ·intro hc N;obtain⟨x,hy,N⟩:=zB N;obtain⟨l,ay,N⟩:=zB N;refine zT<|xY<|zJ<|yG 2 [] [66,67] rfl<|pF 0 rfl rfl rfl h hy ?_;intro ad aN ap bJ ak;obtain⟨p3,c3,p4,c4,rfl,h1,h2⟩:=sX ak;refine zBt 0 0 ap bJ (cLoop x p3 c3 p4 c4) (vA (cLoop x p3 c3 p4 c4)) rfl rfl<|uP (cLoop x p3 c3 p4 c4) zE ?_;intro b2 hb2;have h3:RL I (cLoop x p3 c3 p4 c4) ([x]:List zE):=⟨(cLoop x p3 c3 p4 c4),[],rfl,rfl,qR ⟨_,_,rfl,h1,h2⟩,rfl⟩;exact qA 150 2 1 rfl rfl rfl h (.inr ⟨0,rfl⟩) h3 ay λp5 c5 bH h5=>yK [] [5] rfl<|zL<|yU<|jS (zGb 0 rfl)<|nD<|ih l _ N H h5 hg ho hx
 intro hc N;have:=zD N;simp only[id] at this;subst this;exact wM<|yS<|hx _ _ _ _ H h
def zBV(b0:Nat)(r:(List zE)×zO):KT:=λkk I' ag v=>
 ∃v0 k0,ag=[.blk b0 ⟨k0⟩]/\v=tupV [v0]/\SL I' v0 r.1/\Rp.rep I' k0 r.2
theorem zCT{B:Base}{I:Imm}{out:List zE}{p1 c1 cs}{aw}{kl:List Value}{y3:zO}(h:RL I cs out)(hk:Rp.rep I kl y3):
 J Tryz.prog 73 B (nav (bodyOf f74) [1,1,1,1,1]) (QB Tryz.prog f74 B (zBV aw (out,y3))) I [hO zE (vS p1 out c1) cs,hB aw kl] [(5,vS p1 out c1)]:=by
 refine yH [4] rfl<|xD<|yZ 0 rfl ?_
 intro I1 aa hl
 have h1:=SL.of_frozen hl aa h
 exact zJ3 (resT rfl) (λ_ g=>g) ⟨_,_,rfl,rfl,h1,Rp.mono aa hk⟩
theorem zOU(xs:List NL):((xs.map NL.d).length:Int)=((xs.map NL.raw).length:Int):=by simp
theorem zPV{p c}(xs:List NL):vS p (xs.map NL.raw) c=vS p (xs.map NL.d) c:=by simp[vS]
theorem zAb:∀r0 nest r,mZ r0 nest=some r->∀{I:Imm}{aw}{p c p1 c1},(S4 I p r0.b c)->(S4 I p1 nest c1)->RT 74 [vP aw 0,vS p1 nest c1] I [hB aw (cRd r0 p c)] (zBV aw r):=by
 intro r0 nest r N I aw p c p1 c1 h h1;unfold mZ at N;refine yL func74 λB=>?_;have H:=iS I;obtain⟨y,hy,N⟩:=zB N;refine yH [0,1] rfl<|yW<|yG 1 [] [7] rfl<|xF (zHc nest _ hy h1) ?_;rintro I1 av v2 k2 aa - ⟨p2,c2,cs,xs,rfl,rfl,h2,rfl,bY⟩ -;have h:=h.mono aa;clear h1 H;simp only[zOU] at N;refine tX (ag:=hO Raw2 (vS p2 (xs.map NL.raw) c2) cs::hB aw (cRd r0 p c)::NLs xs) (λw g=>g.perm (List.Perm.cons _ (dh (l₁:=[hB aw (cRd r0 p c)]) (l₂:=NLs xs))))<|yK [] [0,5] rfl<|wV [0,5,6] rfl<|zZ<|yH [0,5,6,12] rfl<|zG<|yE N ?_ ?_
 ·intro hc N;obtain rfl:=zD N;refine zK1 (NLs xs++[hO Raw2 (vS p2 (xs.map NL.raw) c2) cs,hB aw (cRd r0 p c)]) (dh)<|zCH xs bY ?_;intro I2 aD hfz;have h:=h.mono aD;have h3:=zI1 hfz;rw[<- gX h2] at h3;refine yH [4] rfl<|xD<|zH<|yZ 0 rfl ?_;intro I3 aH hl;have h4:SL I3 (vS p2 (xs.map NL.raw) c2) (xs.map NL.d):=SL.of_frozen (l:=xs.map NL.d) hl aH h3;exact zJ3 (resT rfl) (λ_ g=>g) ⟨_,_,rfl,rfl,h4,yY ⟨_,rfl,h.mono aH⟩⟩
 intro hc N;obtain⟨⟨y2,y3⟩,ay,N⟩:=zB N;refine zT<|zZ<|yF<|yG 1 [] [14] rfl<|tX (ag:=hB aw (cRd r0 p c)::hO Raw2 (vS p2 (xs.map NL.raw) c2) cs::NLs xs) (λw g=>g.perm (List.Perm.swap _ _ _))<|sG (xV r0 40 _ ay h) rfl ?_;rintro I2 av v2 k2 aD - ⟨v0,kk,rfl,rfl,rfl,h3⟩ -;obtain⟨p3,c3,rfl,h4⟩:=yD h3;clear h3 h;have h2:=iM aD h2;have bY:=λx hx=>(bY x hx).mono aD;refine yK [] [0,5,6,15] rfl<|xY<|yH [0,5,6,15,16] rfl<|zG<|zK1 (NLs xs++[hO Raw2 (vS p2 (xs.map NL.raw) c2) cs,hB aw (cRd y3 p3 c3)]) ((dh).trans (List.Perm.swap _ _ _))<|yE N ?_ ?_
 ·intro hc0 N;obtain⟨x,hx,N⟩:=zB N;obtain⟨⟨y5,y6⟩,bC,N⟩:=zB N;obtain⟨y7,hy7,N⟩:=zB N;obtain⟨l,hl,N⟩:=zB N;obtain⟨x,hx2,rfl⟩:=zIE hx;have hx:=hx2;clear hx2;refine zOK hx bY ?_;intro I3 aH hfz;obtain⟨xlo,xhi⟩:=bY x (sV hx |>.2.2 |> cP);replace xlo:=iM aH xlo;replace xhi:=iM aH xhi;have ⟨h2,h4⟩:=m2 aH h2 h4;clear bY;refine mM 0 rfl ?_;intro I4 bf hl4;have khi:=SL.of_frozen hl4 bf xhi;replace xlo:=iM bf xlo;have ⟨h2,h4⟩:=m2 bf h2 h4;have hfz:=λj y hj hy=>(hfz j y hj hy).mono bf;have hxr:=zCa (f:=NL.raw) hx;refine pE [(0,vP aw 0),(5,vS p2 (xs.map NL.raw) c2)]<|wA [.p (vS p2 (xs.map NL.raw) c2) [],.p (vS p2 (xs.map NL.raw) c2) [],.x (λI' v hx'=>∃ad,v=.pointer (some ad)/\hx'=[]/\AtO (vS p2 (xs.map NL.raw) c2) 2 0 ad),.x (λI' v hx'=>∃ad,v=.pointer (some ad)/\hx'=[]/\AtO (vS p2 (xs.map NL.raw) c2) 2 0 ad),.x (λI' v hx'=>v=x.vl/\hx'=[]),.p (vP aw 0) [],.x (λI' v hx'=>∃kk,v=vI y5/\hx'=[hB aw kk]/\Rp.rep I' kk y6),.x (λI' v hx'=>∃p5 c5,v=vA (cAff y7 p5 c5)/\hx'=[]/\SL I' (vS p5 y7.Coefs c5) y7.Coefs),.x (λI' v hx'=>∃b4,v=vS (some ⟨b4,0,none⟩) ([y7]:List zA) 1/\hx'=[]/\SL I' (vS (some ⟨b4,0,none⟩) ([y7]:List zA) 1) ([y7]:List zA)),.x (λI' v hx'=>∃p6 c6 cs6,v=vS p6 l c6/\hx'=[hO zA (vS p6 l c6) cs6]/\RL I' cs6 l)]
   [[],[],[(1,false)],[(2,false)],[(3,false)],[],[(5,false),(13,true)],[(6,false)],[(7,false)],[(4,false),(8,false),(14,true)]]
   [hO Raw2 (vS p2 (xs.map NL.raw) c2) cs] [[hB aw (cRd y3 p3 c3)],[hO zA x.vl x.csl]] [(0,false),(6,true),(9,true)] (zY [1,2,0]) ?_ ?_
  ·refine O2<|Ox ?_<|Ox ?_<|Ox ?_<|Op<|Ox ?_<|Ox ?_<|Ox ?_<|Ox ?_<|On
   ·intro I1 hf aa;exact yP [19] rfl<|pF 0 rfl rfl rfl (iM aa h2) hxr λad aN ap bJ ak=>yM [] iR ⟨_,rfl,rfl,ap⟩
   ·rintro I1 hf aa _ _ ⟨ad,rfl,rfl,ap⟩;exact jF<|zDF [(20,.pointer (some ad))]<|tD 4 [(21,.pointer (some ad))]<|yM [] iR ⟨_,rfl,rfl,ap⟩
   ·rintro I1 hf aa _ _ ⟨ad,rfl,rfl,ap⟩;refine yP [21] rfl ?_;have ak:=h2.at (i:=0) (sV hxr).2.2;obtain⟨⟨bJ,o1,o2⟩,_⟩:=ak;exact zBt 0 0 ap bJ [x.vl] x.vl rfl rfl<|yR iR
   ·rintro I1 hf aa _ _ ⟨rfl,rfl⟩ _ _ rfl;refine yP [23] rfl<|sG (xV y3 2 _ bC (h4.mono aa)) rfl ?_;rintro aP av v2 k2 aD - ⟨v0,kk,rfl,rfl,rfl,h5⟩ -;exact yM [hB aw kk] aD ⟨_,rfl,rfl,h5⟩
   ·rintro I1 hf aa _ _ ⟨kk,rfl,rfl,h5⟩;refine yP [24] rfl<|xF (zAF y5 _ hy7) ?_;rintro aP av v2 k2 aD - ⟨v0,rfl,rfl,⟨aM,rfl,h6⟩⟩ -;obtain⟨p5,c5,rfl,h7⟩:=yQ h6;exact yM [] aD ⟨_,_,rfl,rfl,h7⟩
   ·rintro I1 hf aa _ _ ⟨p5,c5,rfl,rfl,h7⟩;refine yP [25] rfl<|uP (cAff y7 p5 c5) zA ?_;intro b4 hb4;have h15:RL I1 (cAff y7 p5 c5) ([y7]:List zA):=⟨(cAff y7 p5 c5),_,rfl,rfl,(yT ⟨_,rfl,h7⟩),rfl⟩;exact xM 0 rfl λaT le01 hl01=>yM [] le01 ⟨_,rfl,rfl,SL.of_frozen hl01 le01 h15⟩
   rintro I1 hf aa _ _ ⟨rfl,rfl⟩ _ _ ⟨b4,rfl,rfl,h16⟩ _ _ rfl;refine yP [22,26] rfl ?_;obtain⟨ccs4,k03,k04⟩:=h16;exact qA 78 2 0 rfl rfl rfl (iM aa xlo) (.inl k03) k04 hl λaR bh bH h17=>uD (ag:=(hO zA (vS aR l bh) bH::hO Raw2 (vS p2 (xs.map NL.raw) c2) cs::hf)) rfl<|yM [hO zA (vS aR l bh) bH] iR ⟨_,_,_,rfl,rfl,h17⟩
  rintro I5 bu _ _ ⟨rfl,rfl⟩ _ _ ⟨kk,rfl,rfl,h5⟩ _ _ ⟨p6,c6,cs6,rfl,rfl,h6⟩;have h2:=iM bu h2;refine yP [5,18,27] rfl<|pF 2 rfl rfl rfl h2 hxr ?_;intro ad aN ap bJ ak;obtain⟨rfl,o1,o2⟩:=ak;refine yG 12 [] [29] rfl<|fP (c:=[vS p6 l c6,x.vh]) (x':=(⟨vS p6 l c6,x.vh⟩:Raw2)) 2 0 rfl rfl rfl ap rfl rfl bJ (by kernel_rfl) (by kernel_rfl) (by kernel_rfl) h2 hxr (by kernel_rfl) ⟨rfl,rfl,rfl⟩ λcs7 h7 aJ=>uD (ag:=[hO zA (vS p6 l c6) cs6,hB aw kk,hO Raw2 (vS p2 (xs.map NL.raw) c2) cs7]) rfl<|xM 0 rfl ?_;intro I6 bG hl6;have klo:=SL.of_frozen hl6 bG h6;have hpw:=zK2 (r:=⟨vS p6 l c6,x.vh⟩) (d:=⟨l,x.hi⟩) (λj y hj hy=>((hfz j y hj hy).mono bu).mono bG) ⟨klo,(khi.mono bu).mono bG⟩;have h8:=hpw.rl;have e8:=gX h7;obtain rfl:=zD N;have eL:vS p2 (xs.map NL.raw) c2=vS p2 ((xs.map NL.d).set 0 (⟨l,x.hi⟩:zE)) c2:=by simp[vS]
  rw[show (0:Int).toNat=0 from rfl] at e8 h8;rw[<- e8] at h8;rw[eL];exact tX (zY [1,0] (ag:=[hO zE (vS p2 ((xs.map NL.d).set 0 (⟨l,x.hi⟩:zE)) c2) cs7,hB aw kk]))<|yK [] [5] rfl<|zL<|zG<|pE [(5,vS p2 ((xs.map NL.d).set 0 (⟨l,x.hi⟩:zE)) c2)]<|zCT h8 (Rp.mono bG h5)
 intro hc0 N;refine yH [0,5,6,15,30] rfl<|zG<|yE N ?_ ?_
 ·intro aE N;obtain⟨x,hx,N⟩:=zB N;obtain⟨x,hx2,rfl⟩:=zIE hx;have hx:=hx2;clear hx2;have hxr:=zCa (f:=NL.raw) hx;refine zCH xs bY ?_;intro I3 aH hfz;obtain⟨flo,fhi⟩:=hfz x (cP (sV hx).2.2);have ⟨h2,h4⟩:=m2 aH h2 h4;refine zJ<|yG 3 [] [32,34] rfl<|pF 0 rfl rfl rfl h2 hxr ?_;intro ad aN ap bJ ak;obtain⟨rfl,o1,o2⟩:=ak;refine yG 5 [] [36] rfl<|fP (c:=[x.vl,z0]) (x':=(⟨x.vl,z0⟩:Raw2)) 0 1 rfl rfl rfl ap rfl rfl bJ (by kernel_rfl) (by kernel_rfl) (by kernel_rfl) h2 hxr (by kernel_rfl) ⟨rfl,rfl,rfl⟩ ?_;intro cs7 h7 aJ;have hpw:=zK2 (k:=(W (((xs.map NL.raw).length:Int) - 1)).toNat) (r:=⟨x.vl,z0⟩) (d:=⟨x.lo,[]⟩) (λj y hj hy=>hfz y (cP hy)) ⟨flo,SL.nil _⟩;have h8:=hpw.rl;rw[<- gX h7] at h8;obtain rfl:=zD N;have eL:vS p2 (xs.map NL.raw) c2=vS p2 ((xs.map NL.d).set (W (((xs.map NL.raw).length:Int) - 1)).toNat (⟨x.lo,[]⟩:zE)) c2:=by simp only[vS,cJ,dm]
  rw[eL];exact uD (ag:=[hO zE (vS p2 ((xs.map NL.d).set (W (((xs.map NL.raw).length:Int) - 1)).toNat (⟨x.lo,[]⟩:zE)) c2) cs7,hB aw (cRd y3 p3 c3)]) rfl<|yK [] [5] rfl<|zL<|zG<|pE [(5,vS p2 ((xs.map NL.d).set (W (((xs.map NL.raw).length:Int) - 1)).toNat (⟨x.lo,[]⟩:zE)) c2)]<|zCT h8 (yY ⟨_,rfl,h4⟩)
 intro aE N;refine yH [0,5,6,15,37] rfl<|zG<|yE N ?_ ?_
 ·intro aV N;obtain⟨x,hx,N⟩:=zB N;obtain⟨y7,hy7,N⟩:=zB N;obtain⟨y8,hy8,N⟩:=zB N;obtain⟨l,hl,N⟩:=zB N;obtain⟨x,hx2,rfl⟩:=zIE hx;have hx:=hx2;clear hx2;refine zOK hx bY ?_;intro I3 aH hfz;obtain⟨xlo,xhi⟩:=bY x (sV hx |>.2.2 |> cP);replace xlo:=iM aH xlo;replace xhi:=iM aH xhi;have ⟨h2,h4⟩:=m2 aH h2 h4;clear bY;refine mM 1 rfl ?_;intro I4 bf hl4;have klo:=SL.of_frozen hl4 bf xlo;replace xhi:=iM bf xhi;have ⟨h2,h4⟩:=m2 bf h2 h4;have hfz:=λj y hj hy=>(hfz j y hj hy).mono bf;have hxr:=zCa (f:=NL.raw) hx;refine pE [(5,vS p2 (xs.map NL.raw) c2),(6,vI ((xs.map NL.raw).length:Int))]<|wA [.p (vS p2 (xs.map NL.raw) c2) [],.p (vI ((xs.map NL.raw).length:Int)) [],.p (vI (W (((xs.map NL.raw).length:Int) - 1))) [],.p (vS p2 (xs.map NL.raw) c2) [],.p (vI ((xs.map NL.raw).length:Int)) [],.p (vI (W (((xs.map NL.raw).length:Int) - 1))) [],.x (λI' v hx'=>∃ad,v=.pointer (some ad)/\hx'=[]/\AtO (vS p2 (xs.map NL.raw) c2) 2 (W (((xs.map NL.raw).length:Int) - 1)).toNat ad),.x (λI' v hx'=>∃ad,v=.pointer (some (ad.add 1))/\hx'=[]/\AtO (vS p2 (xs.map NL.raw) c2) 2 (W (((xs.map NL.raw).length:Int) - 1)).toNat ad),.x (λI' v hx'=>v=x.vh/\hx'=[]),.x (λI' v hx'=>∃p5 c5,v=vA (cAff y7 p5 c5)/\hx'=[]/\SL I' (vS p5 y7.Coefs c5) y7.Coefs),.x (λI' v hx'=>∃p5 c5,v=vA (cAff y8 p5 c5)/\hx'=[]/\SL I' (vS p5 y8.Coefs c5) y8.Coefs),.x (λI' v hx'=>∃b4,v=vS (some ⟨b4,0,none⟩) ([y7,y8]:List zA) 2/\hx'=[]/\SL I' (vS (some ⟨b4,0,none⟩) ([y7,y8]:List zA) 2) ([y7,y8]:List zA)),.x (λI' v hx'=>∃p6 c6 cs6,v=vS p6 l c6/\hx'=[hO zA (vS p6 l c6) cs6]/\RL I' cs6 l)]
   [[],[],[(1,false)],[],[],[(4,false)],[(3,false),(5,false)],[(6,false)],[(7,false)],[],[],[(9,false),(10,false)],[(8,false),(11,false),(16,true)]]
   [hO Raw2 (vS p2 (xs.map NL.raw) c2) cs,hB aw (cRd y3 p3 c3)] [[hO zA x.vh x.csh]] [(0,false),(2,false),(12,true)] (zY [1,2,0]) ?_ ?_
  ·refine O4<|O2<|Ox ?_<|Ox ?_<|Ox ?_<|Ox ?_<|Ox ?_<|Ox ?_<|Ox ?_<|On
   ·intro I1 hf aa;exact yP [42,44] rfl<|pF 0 rfl rfl rfl (iM aa h2) hxr λad aN ap bJ ak=>yM [] iR ⟨_,rfl,rfl,ap⟩
   ·rintro I1 hf aa _ _ ⟨ad,rfl,rfl,ap⟩;exact jF<|zDF [(45,.pointer (some ad))]<|tD 8 [(46,.pointer (some (ad.add 1)))]<|yM [] iR ⟨_,rfl,rfl,ap⟩
   ·rintro I1 hf aa _ _ ⟨ad,rfl,rfl,ap⟩;refine yP [46] rfl ?_;have ak:=h2.at (sV hxr).2.2;obtain⟨⟨bJ,o1,o2⟩,_⟩:=ak;exact zBt 0 1 ap bJ [x.vh] x.vh rfl rfl<|yR iR
   ·intro I1 hf aa;refine eN []<|xF (tC 1 _ hy7) ?_;rintro aP av v2 k2 aD - ⟨p5,c5,bH,rfl,rfl,h5⟩ -;exact xM 0 rfl λbx aH hl3=>zIR (hx:=[]) rfl (aD.trans aH) rfl (zIS rfl) ⟨_,_,rfl,rfl,SL.of_frozen hl3 aH h5⟩
   ·intro I1 hf aa;refine eN []<|xF (tC 2 _ hy8) ?_;rintro aP av v2 k2 aD - ⟨p5,c5,bH,rfl,rfl,h5⟩ -;exact xM 0 rfl λbx aH hl3=>zIR (hx:=[]) rfl (aD.trans aH) rfl (zIS rfl) ⟨_,_,rfl,rfl,SL.of_frozen hl3 aH h5⟩
   ·rintro I1 hf aa _ _ ⟨p5,c5,rfl,rfl,h7⟩ _ _ ⟨p6,c6,rfl,rfl,h8⟩;refine yP [48,49] rfl<|uP [vS p5 y7.Coefs c5,vI y7.Const,vS p6 y8.Coefs c6,vI y8.Const] zA ?_;intro b4 hb4;have h15:RL I1 [vS p5 y7.Coefs c5,vI y7.Const,vS p6 y8.Coefs c6,vI y8.Const] ([y7,y8]:List zA):=⟨(cAff y7 p5 c5),_,rfl,rfl,(yT ⟨_,rfl,h7⟩),⟨(cAff y8 p6 c6),_,rfl,rfl,(yT ⟨_,rfl,h8⟩),rfl⟩⟩;exact xM 0 rfl λaT le01 hl01=>yM [] le01 ⟨_,rfl,rfl,SL.of_frozen hl01 le01 h15⟩
   rintro I1 hf aa _ _ ⟨rfl,rfl⟩ _ _ ⟨b4,rfl,rfl,h16⟩ _ _ rfl;refine yP [47,50] rfl ?_;obtain⟨ccs4,k03,k04⟩:=h16;exact qA 78 2 0 rfl rfl rfl (iM aa xhi) (.inl k03) k04 hl λaR bh bH h17=>uD (ag:=(hO zA (vS aR l bh) bH::hO Raw2 (vS p2 (xs.map NL.raw) c2) cs::hB aw (cRd y3 p3 c3)::hf)) rfl<|yM [hO zA (vS aR l bh) bH] iR ⟨_,_,_,rfl,rfl,h17⟩
  rintro I5 bu _ _ ⟨rfl,rfl⟩ _ _ ⟨rfl,rfl⟩ _ _ ⟨p6,c6,cs6,rfl,rfl,h6⟩;have h2:=iM bu h2;refine yP [5,39,41,51] rfl<|pF 1 rfl rfl rfl h2 hxr ?_;intro ad aN ap bJ ak;obtain⟨rfl,o1,o2⟩:=ak;refine yG 15 [] [53] rfl<|fP (c:=[x.vl,vS p6 l c6]) (x':=(⟨x.vl,vS p6 l c6⟩:Raw2)) 1 1 rfl rfl rfl ap rfl rfl bJ (by kernel_rfl) (by kernel_rfl) (by kernel_rfl) h2 hxr (by kernel_rfl) ⟨rfl,rfl,rfl⟩ λcs7 h7 aJ=>uD (ag:=[hO zA (vS p6 l c6) cs6,hO Raw2 (vS p2 (xs.map NL.raw) c2) cs7,hB aw (cRd y3 p3 c3)]) rfl<|xM 0 rfl ?_;intro I6 bG hl6;have khi:=SL.of_frozen hl6 bG h6;have hpw:=zK2 (k:=(W (((xs.map NL.raw).length:Int) - 1)).toNat) (r:=⟨x.vl,vS p6 l c6⟩) (d:=⟨x.lo,l⟩) (λj y hj hy=>((hfz j y hj hy).mono bu).mono bG) ⟨(klo.mono bu).mono bG,khi⟩;have h8:=hpw.rl;rw[<- gX h7] at h8;obtain rfl:=zD N;have eL:vS p2 (xs.map NL.raw) c2=vS p2 ((xs.map NL.d).set (W (((xs.map NL.raw).length:Int) - 1)).toNat (⟨x.lo,l⟩:zE)) c2:=by simp only[vS,cJ,dm]
  rw[eL];exact uD (ag:=[hO zE (vS p2 ((xs.map NL.d).set (W (((xs.map NL.raw).length:Int) - 1)).toNat (⟨x.lo,l⟩:zE)) c2) cs7,hB aw (cRd y3 p3 c3)]) rfl<|yK [] [5] rfl<|zL<|zG<|pE [(5,vS p2 ((xs.map NL.d).set (W (((xs.map NL.raw).length:Int) - 1)).toNat (⟨x.lo,l⟩:zE)) c2)]<|zCT h8 (yY ⟨_,rfl,(h4.mono bu).mono bG⟩)
 intro aV N;refine zCH xs bY ?_;intro I3 aH hfz;have ⟨h2,h4⟩:=m2 aH h2 h4;clear bY;refine yH [0,5,6,15,54] rfl<|zG<|yE N ?_ ?_
 ·intro bD N;obtain⟨y7,hy7,N⟩:=zB N;obtain⟨x,hx,N⟩:=zB N;obtain⟨x,hx2,rfl⟩:=zIE hx;have hx:=hx2;clear hx2;have hxr:=zCa (f:=NL.raw) hx;refine zJ<|yG 1 [] [56] rfl<|xF (tC 99 _ hy7) ?_;rintro I4 av v2 k2 bf - ⟨p5,c5,bH,rfl,rfl,h5⟩ -;refine xM 0 rfl ?_;intro I5 bu hl5;have h7:=SL.of_frozen hl5 bu h5;refine uP (cAff y7 p5 c5) zA ?_;intro b4 hb4;have h15:RL I5 (cAff y7 p5 c5) ([y7]:List zA):=⟨(cAff y7 p5 c5),_,rfl,rfl,(yT ⟨_,rfl,h7⟩),rfl⟩;refine xM 0 rfl ?_;intro I6 bG hl6;have khi:SL I6 (vS (some ⟨b4,0,none⟩) ([y7]:List zA) 1) [y7]:=SL.of_frozen hl6 bG h15;have le:=(bf.trans bu).trans bG;have ⟨h2,h4⟩:=m2 le h2 h4;have hfz:=λx hx=>(hfz x hx).mono le;obtain⟨flo,fhi⟩:=hfz x (cP (sV hx).2.2);refine pF 0 rfl rfl rfl h2 hxr ?_;intro ad aN ap bJ ak;obtain⟨rfl,o1,o2⟩:=ak;refine yG 5 [] [60] rfl<|fP (c:=[x.vl,vS (some ⟨b4,0,none⟩) ([y7]:List zA) 1]) (x':=(⟨x.vl,vS (some ⟨b4,0,none⟩) ([y7]:List zA) 1⟩:Raw2)) 0 1 rfl rfl rfl ap rfl rfl bJ (by kernel_rfl) (by kernel_rfl) (by kernel_rfl) h2 hxr (by kernel_rfl) ⟨rfl,rfl,rfl⟩ ?_;intro cs7 h7 aJ;have hpw:=zK2 (k:=0) (r:=⟨x.vl,vS (some ⟨b4,0,none⟩) ([y7]:List zA) 1⟩) (d:=⟨x.lo,[y7]⟩) (λj y hj hy=>hfz y (cP hy)) ⟨flo,khi⟩;have h8:=hpw.rl;have e8:=gX h7;rw[show (0:Int).toNat=0 from rfl] at e8;rw[<- e8] at h8;obtain rfl:=zD N;have eL:vS p2 (xs.map NL.raw) c2=vS p2 ((xs.map NL.d).set 0 (⟨x.lo,[y7]⟩:zE)) c2:=by simp only[vS,cJ,dm]
  rw[eL];exact uD (ag:=[hO zE (vS p2 ((xs.map NL.d).set 0 (⟨x.lo,[y7]⟩:zE)) c2) cs7,hB aw (cRd y3 p3 c3)]) rfl<|yK [] [5] rfl<|zL<|zG<|pE [(5,vS p2 ((xs.map NL.d).set 0 (⟨x.lo,[y7]⟩:zE)) c2)]<|zCT h8 (yY ⟨_,rfl,h4⟩)
 intro bD N;have h8:=zI1 hfz;rw[<- gX h2] at h8;rw[zPV];refine yH [0,5,15,61] rfl<|zG<|yE N ?_ ?_
 ·intro bM N;obtain⟨z,hz,N⟩:=zB N;obtain rfl:=zD N;exact yI<|pE [(5,vS p2 (xs.map NL.d) c2)]<|zEU (xs.map NL.d) z hz iR h8 nG nO λI4 p6 c6 cs6 bf h9=>zS<|zL<|zG<|pE [(5,vS p6 z c6)]<|zCT h9 (yY ⟨_,rfl,h4.mono bf⟩)
 intro bM N;obtain rfl:=zD N;exact zT<|zL<|zG<|pE [(5,vS p2 (xs.map NL.d) c2)]<|zCT h8 (yY ⟨_,rfl,h4⟩)
def zEv(b0:Nat)(r:zP×zO):KT:=λkk I' ag v=>
 ∃v0 k0,ag=[.blk b0 ⟨k0⟩]/\v=tupV [v0]/\(∃cs,v0=.agg ⟨cs⟩/\Rp.rep I' cs r.1)/\Rp.rep I' k0 r.2
def rK(r0:zO)(s:zP):Option (zP×zO):=do
 let y<-eF s;let (y2,y3)<-xC r0 40;let (WriteArray,WriteSubs,ValueKind,ValueNum,ValueKids,x)<-(do
  if(y2==0) then
   let (y5,y6)<-qZ y3 ([(⟨[69]⟩:Str),(⟨[]⟩:Str),(⟨[65,66]⟩:Str),(⟨[97]⟩:Str)]:List Str);pure (y5,y.Write.Subs,y.Value.Kind,y.Value.Num,y.Value.Kids,y6)
  else
   let (WriteSubs1,ValueKind1,ValueNum1,ValueKids1,x1)<-(do
    if(y2==1) then
     let y7<-kR 3;let y8<-mJ;let l<-app 32 y.Write.Subs ([y7,y8]:List zA);pure (l,y.Value.Kind,y.Value.Num,y.Value.Kids,y3)
    else
     let (ValueKind2,ValueNum2,ValueKids2,x2)<-(do
      if(y2==2) then
       let (y10,y11)<-xB y3 ([0,7,1,4,2]:List Int);pure (y10,y.Value.Num,y.Value.Kids,y11)
      else
       let (ValueNum3,ValueKids3,x3)<-(do
        if(y2==3) then
         let (y13,y14)<-xB y3 ([100,(-1),1]:List Int);pure (y13,y.Value.Kids,y14)
        else
         let ValueKids4<-(do
          if(y2==4) then
           let l1<-app 112 y.Value.Kids ([(zI.mk 1 0 (zA.mk ([]:List Int) 0) (zK.mk (⟨[]⟩:Str) ([]:List zA)) ([]:List zI))]:List zI);pure (id l1)
          else
           pure y.Value.Kids
            : Option (List zI))
         pure (y.Value.Num,ValueKids4,y3)
          : Option (Int×List zI×zO))
       pure (y.Value.Kind,ValueNum3,ValueKids3,x3)
        : Option (Int×Int×List zI×zO))
     pure (y.Write.Subs,ValueKind2,ValueNum2,ValueKids2,x2)
      : Option (List zA×Int×Int×List zI×zO))
   pure (y.Write.Array,WriteSubs1,ValueKind1,ValueNum1,ValueKids1,x1)
    : Option (Str×List zA×Int×Int×List zI×zO))
 pure ((zP.mk (zK.mk WriteArray WriteSubs) (zI.mk ValueKind ValueNum y.Value.Index y.Value.Read ValueKids)),x)
theorem zAc:∀r0 s r,rK r0 s=some r->∀{I:Imm}{aw}{p c p1 c1 p2 c2 p3 c3 p4 c4},(S4 I p r0.b c)->(S4 I p1 s.Write.Subs c1)->(S4 I p2 s.Value.Index.Coefs c2)->(S4 I p3 s.Value.Read.Subs c3)->(S4 I p4 s.Value.Kids c4)->RT 75 [vP aw 0,vA (cStmt s p1 c1 p2 c2 p3 c3 p4 c4)] I [hB aw (cRd r0 p c)] (zEv aw r):=by
 intro r0 s r N I aw p c p1 c1 p2 c2 p3 c3 p4 c4 h h1 h2 h3 h4;unfold rK at N;refine yL func75 λB=>?_;have H:=iS I;refine yF<|vK (cStmt s p1 c1 p2 c2 p3 c3 p4 c4) ?_;intro b hb;refine wI [vT ([]),z0,vI 0,vI 0,z0,vI 0,vT ([]),z0,z0] ?_;intro b1 hb1;refine yA rfl<|yW<|sW 1 [1] [(6,vA (cStmt s p1 c1 p2 c2 p3 c3 p4 c4))]<|bE N λy hy N=>xF (zDb s _ hy h1 h2 h3 h4) ?_;rintro I0 av v2 k2 le - ⟨p5,c5,cs,p6,c6,p7,c7,p8,c8,az,rfl,rfl,h5,h6,h7,h8⟩ -;have ⟨h,H⟩:=m2 le h H;refine wI [vT ([]),z0,vI 0,vI 0,z0,vI 0,vT ([]),z0,z0] ?_;intro b2 hb2;refine xI 0 (cStmt y p5 c5 p6 c6 p7 c7 p8 c8) rfl<|yA rfl<|zZ<|yF<|yG 1 [] [8] rfl<|tX (zY [5,0,1,2,3,4] (ag:=[hB aw (cRd r0 p c),hB b2 (cStmt y p5 c5 p6 c6 p7 c7 p8 c8),hO zA (vS p5 y.Write.Subs c5) cs,hO zI (vS p8 y.Value.Kids c8) az,hB b1 [vT ([]),z0,vI 0,vI 0,z0,vI 0,vT ([]),z0,z0],hB b (cStmt s p1 c1 p2 c2 p3 c3 p4 c4)])) ?_;obtain⟨⟨y2,y3⟩,ay,N⟩:=zB N;refine sG (xV r0 40 _ ay h) rfl ?_;rintro aT av v2 k2 aa - ⟨v0,kk,rfl,rfl,rfl,h10⟩ -;have ⟨h5,h6,h7,h8,H⟩:=m5 aa h5 h6 h7 h8 H;obtain⟨p9,c9,rfl,h11⟩:=yD h10;refine yA rfl<|xY<|yH [10] rfl<|zG<|mM 5 rfl ?_;intro aP aD hl0;have ap:At aP ⟨b,0,none⟩ (cStmt s p1 c1 p2 c2 p3 c3 p4 c4):=At.of_blk hl0;have ⟨h11,h5,h6,h7,h8,H⟩:=m6 aD h11 h5 h6 h7 h8 H;obtain⟨o0,aA,aQ⟩:=zB N;refine qQ (λI' ag m'=>∃(WriteArray:Str) (WriteSubs:List zA) (ValueKind:Int) (ValueNum:Int) (ValueKids:List zI) (x:zO) (bb:Option Addr) (bd:Nat) (aM:List Value) (aR:Option Addr) (bh:Nat) (aU:List Value) (bz:Option Addr) (bo:Nat),o0=(WriteArray,WriteSubs,ValueKind,ValueNum,ValueKids,x)/\aP.le I'/\(RL I' aM WriteSubs)/\(RL I' aU ValueKids)/\(S4 I' bz x.b bo)/\ag=[hB aw (cRd x bz bo),hB b2 [vT WriteArray.l,vS bb WriteSubs bd,vI ValueKind,vI ValueNum,vS p6 y.Value.Index.Coefs c6,vI y.Value.Index.Const,vT y.Value.Read.Array.l,vS p7 y.Value.Read.Subs c7,vS aR ValueKids bh],hO zA (vS bb WriteSubs bd) aM,hO zI (vS aR ValueKids bh) aU,hB b1 [vT ([]),z0,vI 0,vI 0,z0,vI 0,vT ([]),z0,z0]]/\m'=[(4,vP b1 0),(5,vP b2 0)]) ?_ ?_
 ·have H:=iS aP;refine yE aA ?_ ?_
  ·intro hc N;refine zJ<|yG 1 [] [12] rfl<|kM (rT [(⟨[69]⟩:Str),(⟨[]⟩:Str),(⟨[65,66]⟩:Str),(⟨[97]⟩:Str)]) ?_;intro b3 bI aH h16;have ⟨h11,h5,h8,H⟩:=m4 aH h11 h5 h8 H;obtain⟨⟨y5,y6⟩,aF,N⟩:=zB N;refine sG (fF y3 ([(⟨[69]⟩:Str),(⟨[]⟩:Str),(⟨[65,66]⟩:Str),(⟨[97]⟩:Str)]:List Str) _ aF h11 h16) rfl ?_;rintro bL av v2 k2 bf - ⟨v02,kk1,rfl,rfl,rfl,h18⟩ -;have ⟨h5,h8,H⟩:=m3 bf h5 h8 H;obtain⟨bj,bw,rfl,h19⟩:=yD h18;exact yG 5 [] [16] rfl<|xI 1 [vT y5.l,vS p5 y.Write.Subs c5,vI y.Value.Kind,vI y.Value.Num,vS p6 y.Value.Index.Coefs c6,vI y.Value.Index.Const,vT y.Value.Read.Array.l,vS p7 y.Value.Read.Subs c7,vS p8 y.Value.Kids c8] rfl<|yA rfl<|yS<|zV ⟨_,_,_,_,_,_,_,_,_,_,_,_,_,_,(zD N).symm,H,h5,h8,h19,rfl,rfl⟩
  intro hc N;refine yH [17] rfl<|zG ?_;obtain⟨aO,aB,hMc1⟩:=zB N;refine qQ (λI' ag m'=>∃(WriteSubs1:List zA) (ValueKind1:Int) (ValueNum1:Int) (ValueKids1:List zI) (x1:zO) (p14:Option Addr) (c14:Nat) (bv:List Value) (p15:Option Addr) (c15:Nat) (bH:List Value) (p16:Option Addr) (c16:Nat),aO=(WriteSubs1,ValueKind1,ValueNum1,ValueKids1,x1)/\aP.le I'/\(RL I' bv WriteSubs1)/\(RL I' bH ValueKids1)/\(S4 I' p16 x1.b c16)/\ag=[hB aw (cRd x1 p16 c16),hB b2 [vT y.Write.Array.l,vS p14 WriteSubs1 c14,vI ValueKind1,vI ValueNum1,vS p6 y.Value.Index.Coefs c6,vI y.Value.Index.Const,vT y.Value.Read.Array.l,vS p7 y.Value.Read.Subs c7,vS p15 ValueKids1 c15],hO zA (vS p14 WriteSubs1 c14) bv,hO zI (vS p15 ValueKids1 c15) bH,hB b1 [vT ([]),z0,vI 0,vI 0,z0,vI 0,vT ([]),z0,z0]]/\m'=[(4,vP b1 0),(5,vP b2 0)]) ?_ ?_
  ·have H:=iS aP;refine yE aB ?_ ?_
   ·intro aE N;obtain⟨y7,aX,N⟩:=zB N;obtain⟨y8,bk,N⟩:=zB N;obtain⟨l,bC,N⟩:=zB N;refine wA [.p (vP b2 0) [],.p (vP b2 1) [],.p (vS p5 y.Write.Subs c5) [1],.x (eVAff y7),.x (λI' v hx=>∃p18 c18 cs7,v=vA (cAff y8 p18 c18)/\hx=[hO Int (vS p18 y8.Coefs c18) cs7]/\(RL I' cs7 y8.Coefs)),.x (λI' v hx=>∃b4,v=vS (some ⟨b4,0,none⟩) ([y7,y8]:List zA) 2/\hx=[]/\(SL I' (vS (some ⟨b4,0,none⟩) ([y7,y8]:List zA) 2) ([y7,y8]:List zA))),.x (λI' v hx=>∃p19 c19 cs8,v=vS p19 l c19/\hx=[hO zA (vS p19 l c19) cs8]/\(RL I' cs8 l))] [[],[(0,false)],[(1,false)],[],[],[(3,false),(4,true)],[(2,false),(5,false),(10,true)]] [hB aw (cRd y3 p9 c9),hB b2 (cStmt y p5 c5 p6 c6 p7 c7 p8 c8),hO zI (vS p8 y.Value.Kids c8) az,hB b1 [vT ([]),z0,vI 0,vI 0,z0,vI 0,vT ([]),z0,z0]] [[hO zA (vS p5 y.Write.Subs c5) cs]] [(6,true)] (zY [0,1,3,4,2]) ?_ ?_
    ·refine O3<|Ox ?_<|Ox ?_<|Ox ?_<|Ox ?_<|On
     ·intro I1 hf aa;refine eN [] ?_;have H:=iS I1;refine xF (zAF 3 _ aX ) ?_;rintro I07 av v2 k2 bu - ⟨v04,rfl,rfl,⟨cs6,rfl,h23⟩⟩ -;have H:=H.trans bu;obtain⟨p17,c17,rfl,h24⟩:=yQ h23;exact yM [] H ⟨_,_,rfl,rfl,h24⟩
     ·intro I1 hf aa;refine eN [] ?_;have H:=iS I1;refine xF (fG  _ bk ) ?_;rintro I08 av v2 k2 bG - ⟨p18,c18,cs7,rfl,rfl,h25⟩ -;have H:=H.trans bG;exact yM [hO Int (vS p18 y8.Coefs c18) cs7] H ⟨_,_,_,rfl,rfl,h25⟩
     ·rintro I1 hf aa _ _ ⟨p17,c17,rfl,rfl,h24⟩ _ _ ⟨p18,c18,cs7,rfl,rfl,h25⟩;refine yP [22,23] rfl ?_;have H:=iS I1;refine xM 0 rfl ?_;intro I09 le7 hl02;have h26:=SL.of_frozen hl02 le7 h25;have ⟨h24,H⟩:=m2 le7 h24 H;refine kM (rc y7 (yT ⟨_,rfl,h24⟩) (rc y8 (yT ⟨_,rfl,h26⟩) rN)) ?_;intro b4 bP le8 h28;have H:=H.trans le8;exact yM [] H ⟨_,rfl,rfl,h28⟩
     rintro I1 hf aa _ _ ⟨rfl,rfl⟩ _ _ ⟨b4,rfl,rfl,h28⟩ _ _ rfl;refine yP [21,24] rfl ?_;have h5:=iM aa h5;obtain⟨aN,k0,k01⟩:=h28;have h28:SL I1 (vS (some ⟨b4,0,none⟩) ([y7,y8]:List zA) 2) ([y7,y8]:List zA):=⟨_,k0,k01⟩;exact qA 78 2 0 rfl rfl rfl h5 (.inl k0) k01 bC λp19 c19 cs8 h29=>uD (ag:=(hO zA (vS p19 l c19) cs8::hB aw (cRd y3 p9 c9)::hB b2 (cStmt y p5 c5 p6 c6 p7 c7 p8 c8)::hO zI (vS p8 y.Value.Kids c8) az::hB b1 [vT ([]),z0,vI 0,vI 0,z0,vI 0,vT ([]),z0,z0]::hf)) rfl<|yM [hO zA (vS p19 l c19) cs8] iR ⟨_,_,_,rfl,rfl,h29⟩
    rintro bV le9 _ _ ⟨p19,c19,cs8,rfl,rfl,h29⟩;refine yP [4,5,25] rfl ?_;have ⟨h11,h8,H⟩:=m3 le9 h11 h8 H;exact yG 9 [] [27] rfl<|xI 2 [vT y.Write.Array.l,vS p19 l c19,vI y.Value.Kind,vI y.Value.Num,vS p6 y.Value.Index.Coefs c6,vI y.Value.Index.Const,vT y.Value.Read.Array.l,vS p7 y.Value.Read.Subs c7,vS p8 y.Value.Kids c8] rfl<|yA rfl<|xW (zX [1,2,0,3,4] rfl (by decide))<|yS<|zV ⟨_,_,_,_,_,_,_,_,_,_,_,_,_,(zD N).symm,H,h29,h8,h11,rfl,rfl⟩
   intro aE N;refine yH [28] rfl<|zG ?_;obtain⟨o02,ho02,hMc2⟩:=zB N;refine qQ (λI' ag m'=>∃(ValueKind2:Int) (ValueNum2:Int) (ValueKids2:List zI) (x2:zO) (p20:Option Addr) (c20:Nat) (cs9:List Value) (p21:Option Addr) (c21:Nat),o02=(ValueKind2,ValueNum2,ValueKids2,x2)/\aP.le I'/\(RL I' cs9 ValueKids2)/\(S4 I' p21 x2.b c21)/\ag=[hB aw (cRd x2 p21 c21),hB b2 [vT y.Write.Array.l,vS p5 y.Write.Subs c5,vI ValueKind2,vI ValueNum2,vS p6 y.Value.Index.Coefs c6,vI y.Value.Index.Const,vT y.Value.Read.Array.l,vS p7 y.Value.Read.Subs c7,vS p20 ValueKids2 c20],hO zA (vS p5 y.Write.Subs c5) cs,hO zI (vS p20 ValueKids2 c20) cs9,hB b1 [vT ([]),z0,vI 0,vI 0,z0,vI 0,vT ([]),z0,z0]]/\m'=[(4,vP b1 0),(5,vP b2 0)]) ?_ ?_
   ·have H:=iS aP;refine yE ho02 ?_ ?_
    ·intro aV N;refine zJ<|yG 1 [] [30] rfl<|kM (rI [0,7,1,4,2]) ?_;intro b5 I013 le10 h33;have ⟨h11,h8,H⟩:=m3 le10 h11 h8 H;obtain⟨⟨y10,y11⟩,hy6,N⟩:=zB N;refine sG (xJ y3 ([0,7,1,4,2]:List Int) _ hy6 h11 h33) rfl ?_;rintro I014 av v2 k2 le11 - ⟨v06,kk2,rfl,rfl,rfl,h35⟩ -;have ⟨h8,H⟩:=m2 le11 h8 H;obtain⟨p22,c22,rfl,h36⟩:=yD h35;exact yG 5 [] [34] rfl<|xI 1 [vT y.Write.Array.l,vS p5 y.Write.Subs c5,vI y10,vI y.Value.Num,vS p6 y.Value.Index.Coefs c6,vI y.Value.Index.Const,vT y.Value.Read.Array.l,vS p7 y.Value.Read.Subs c7,vS p8 y.Value.Kids c8] rfl<|yA rfl<|yS<|zV ⟨_,_,_,_,_,_,_,_,_,(zD N).symm,H,h8,h36,rfl,rfl⟩
    intro aV N;refine yH [35] rfl<|zG ?_;obtain⟨o03,ho03,hMc3⟩:=zB N;refine qQ (λI' ag m'=>∃(ValueNum3:Int) (ValueKids3:List zI) (x3:zO) (p23:Option Addr) (c23:Nat) (cs10:List Value) (p24:Option Addr) (c24:Nat),o03=(ValueNum3,ValueKids3,x3)/\aP.le I'/\(RL I' cs10 ValueKids3)/\(S4 I' p24 x3.b c24)/\ag=[hB aw (cRd x3 p24 c24),hB b2 [vT y.Write.Array.l,vS p5 y.Write.Subs c5,vI y.Value.Kind,vI ValueNum3,vS p6 y.Value.Index.Coefs c6,vI y.Value.Index.Const,vT y.Value.Read.Array.l,vS p7 y.Value.Read.Subs c7,vS p23 ValueKids3 c23],hO zA (vS p5 y.Write.Subs c5) cs,hO zI (vS p23 ValueKids3 c23) cs10,hB b1 [vT ([]),z0,vI 0,vI 0,z0,vI 0,vT ([]),z0,z0]]/\m'=[(4,vP b1 0),(5,vP b2 0)]) ?_ ?_
    ·have H:=iS aP;refine yE ho03 ?_ ?_
     ·intro bD N;refine zJ<|yG 1 [] [37] rfl<|kM (rI [100,(-1),1]) ?_;intro b6 I016 le12 h40;have ⟨h11,h8,H⟩:=m3 le12 h11 h8 H;obtain⟨⟨y13,y14⟩,hy7,N⟩:=zB N;refine sG (xJ y3 ([100,(-1),1]:List Int) _ hy7 h11 h40) rfl ?_;rintro I017 av v2 k2 le13 - ⟨v08,kk3,rfl,rfl,rfl,h42⟩ -;have ⟨h8,H⟩:=m2 le13 h8 H;obtain⟨p25,c25,rfl,h43⟩:=yD h42;exact yG 5 [] [41] rfl<|xI 1 [vT y.Write.Array.l,vS p5 y.Write.Subs c5,vI y.Value.Kind,vI y13,vS p6 y.Value.Index.Coefs c6,vI y.Value.Index.Const,vT y.Value.Read.Array.l,vS p7 y.Value.Read.Subs c7,vS p8 y.Value.Kids c8] rfl<|yA rfl<|yS<|zV ⟨_,_,_,_,_,_,_,_,(zD N).symm,H,h8,h43,rfl,rfl⟩
     intro bD N;refine yH [42] rfl<|zG ?_;obtain⟨o04,ho04,hMc4⟩:=zB N;refine qQ (λI' ag m'=>∃(ValueKids4:List zI) (p26:Option Addr) (c26:Nat) (cs11:List Value),o04=ValueKids4/\aP.le I'/\(RL I' cs11 ValueKids4)/\ag=[hB aw (cRd y3 p9 c9),hB b2 [vT y.Write.Array.l,vS p5 y.Write.Subs c5,vI y.Value.Kind,vI y.Value.Num,vS p6 y.Value.Index.Coefs c6,vI y.Value.Index.Const,vT y.Value.Read.Array.l,vS p7 y.Value.Read.Subs c7,vS p26 ValueKids4 c26],hO zA (vS p5 y.Write.Subs c5) cs,hO zI (vS p26 ValueKids4 c26) cs11,hB b1 [vT ([]),z0,vI 0,vI 0,z0,vI 0,vT ([]),z0,z0]]/\m'=[(4,vP b1 0),(5,vP b2 0)]) ?_ ?_
     ·have H:=iS aP;refine yE ho04 ?_ ?_
      ·intro bM N;refine zJ<|sW 4 [1] [(46,vS p8 y.Value.Kids c8),(47,vA [vI 1,vI 0,z0,vI 0,vT ([]),z0,z0])]<|uP [vI 1,vI 0,z0,vI 0,vT ([]),z0,z0] zI ?_;intro b7 hb7;have h45:RL aP [vI 1,vI 0,z0,vI 0,vT ([]),z0,z0] ([(zI.mk 1 0 (zA.mk ([]:List Int) 0) (zK.mk (⟨[]⟩:Str) ([]:List zA)) ([]:List zI))]:List zI):=⟨[vI 1,vI 0,z0,vI 0,vT ([]),z0,z0],_,rfl,rfl,(wF ⟨_,_,_,rfl,(SL.nil _),(SL.nil _),(SL.nil _)⟩),rfl⟩;obtain⟨l1,hy8,N⟩:=zB N;refine qA 81 7 4 rfl rfl rfl h8 (.inr ⟨0,rfl⟩) h45 hy8 ?_;intro p27 c27 cs12 h46;exact tX (zY [1,2,3,4,5] (ag:=[hB aw (cRd y3 p9 c9),hB b2 (cStmt y p5 c5 p6 c6 p7 c7 p8 c8),hO zA (vS p5 y.Write.Subs c5) cs,hO zI (vS p27 l1 c27) cs12,hB b1 [vT ([]),z0,vI 0,vI 0,z0,vI 0,vT ([]),z0,z0]]))<|yG 8 [] [51] rfl<|xI 1 [vT y.Write.Array.l,vS p5 y.Write.Subs c5,vI y.Value.Kind,vI y.Value.Num,vS p6 y.Value.Index.Coefs c6,vI y.Value.Index.Const,vT y.Value.Read.Array.l,vS p7 y.Value.Read.Subs c7,vS p27 l1 c27] rfl<|yA rfl<|yS<|zV ⟨_,_,_,_,(zD N).symm,H,h46,rfl,rfl⟩
      intro bM N;exact zT<|yS<|zV ⟨_,_,_,_,(zD N).symm,H,h8,rfl,rfl⟩
     rintro I018 av m2 ⟨ValueKids4,p26,c26,cs11,heq,le14,h44,rfl,rfl⟩;subst o04;have ⟨h11,H⟩:=m2 le14 h11 H;exact yS<|zV ⟨_,_,_,_,_,_,_,_,(zD hMc4).symm,H,h44,h11,rfl,rfl⟩
    rintro I015 av m2 ⟨ValueNum3,ValueKids3,x3,p23,c23,cs10,p24,c24,heq1,le15,h37,h38,rfl,rfl⟩;subst o03;have H:=H.trans le15;exact yS<|zV ⟨_,_,_,_,_,_,_,_,_,(zD hMc3).symm,H,h37,h38,rfl,rfl⟩
   rintro bW av m2 ⟨ValueKind2,ValueNum2,ValueKids2,x2,p20,c20,cs9,p21,c21,heq2,le16,h30,h31,rfl,rfl⟩;subst o02;have ⟨h5,H⟩:=m2 le16 h5 H;exact yS<|zV ⟨_,_,_,_,_,_,_,_,_,_,_,_,_,(zD hMc2).symm,H,h5,h30,h31,rfl,rfl⟩
  rintro I06 av m2 ⟨WriteSubs1,ValueKind1,ValueNum1,ValueKids1,x1,p14,c14,bv,p15,c15,bH,p16,c16,heq3,le17,h20,h21,h22,rfl,rfl⟩;subst aO;have H:=H.trans le17;exact yS<|zV ⟨_,_,_,_,_,_,_,_,_,_,_,_,_,_,(zD hMc1).symm,H,h20,h21,h22,rfl,rfl⟩
 rintro bx av m2 ⟨WriteArray,WriteSubs,ValueKind,ValueNum,ValueKids,x,bb,bd,aM,aR,bh,aU,bz,bo,heq4,le18,h12,h13,h14,rfl,rfl⟩;subst o0;have ⟨h6,h7⟩:=m2 le18 h6 h7;refine zL<|yW<|sW 1 [1] [(52,vA [vT WriteArray.l,vS bb WriteSubs bd,vI ValueKind,vI ValueNum,vS p6 y.Value.Index.Coefs c6,vI y.Value.Index.Const,vT y.Value.Read.Array.l,vS p7 y.Value.Read.Subs c7,vS aR ValueKids bh])]<|xI 4 [vT WriteArray.l,vS bb WriteSubs bd,vI ValueKind,vI ValueNum,vS p6 y.Value.Index.Coefs c6,vI y.Value.Index.Const,vT y.Value.Read.Array.l,vS p7 y.Value.Read.Subs c7,vS aR ValueKids bh] rfl<|yA rfl<|xD<|yZ 2 rfl ?_;intro I019 le19 hl06;have h47:=SL.of_frozen hl06 le19 h12;have ⟨h14,h6,h7,h13⟩:=m4 le19 h14 h6 h7 h13;refine yZ 2 rfl ?_;intro I020 le20 hl07;have h48:=SL.of_frozen hl07 le20 h13;have ⟨h14,h47,h6,h7⟩:=m4 le20 h14 h47 h6 h7;exact xU aQ (resC 2 rfl rfl) (zX [0] rfl (by decide)) ⟨_,_,rfl,rfl,⟨_,rfl,(vL ⟨_,_,_,_,rfl,h47,h6,h7,h48⟩)⟩,(yY ⟨_,rfl,h14⟩)⟩
def zAV(b0:Nat)(r:zC×zO):KT:=λkk I' ag v=>
 ∃v0 k0,ag=[.blk b0 ⟨k0⟩]/\v=tupV [v0]/\(∃cs,v0=.agg ⟨cs⟩/\Rp.rep I' cs r.1)/\Rp.rep I' k0 r.2
def pA(r0:zO)(p1:zC):Option (zC×zO):=do
 let y<-pY p1;let (y2,y3)<-xC r0 60;let (Arrays,Parts,x)<-(do
  if(y2==0) then
   let (y5,y6)<-qZ y3 ([(⟨[65]⟩:Str),(⟨[68]⟩:Str),(⟨[69]⟩:Str)]:List Str);let (y8,y9)<-xB y6 ([7,0,3,(-1)]:List Int);let l<-app 40 y.Arrays ([(zF.mk y5 ([y8]:List Int))]:List zF);pure (l,y.Parts,y9)
  else
   let (aC,bi,x1)<-(do
    if(y2==1) then
     let (Arrays2,x2)<-(do
      if(decide ((y.Arrays.length:Int)>0)) then
       let (y11,y12)<-xB y3 ([1,2,7]:List Int);let x3<-idx y.Arrays 0;let l1<-pure (y.Arrays.set (0:Int).toNat (zF.mk x3.Name ([y11]:List Int)));pure (l1,y12)
      else
       pure (y.Arrays,y3)
        : Option (List zF×zO))
     pure (Arrays2,y.Parts,x2)
    else
     let (Parts2,x4)<-(do
      if(y2==2) then
       let (Parts3,x5)<-(do
        if(decide ((y.Parts.length:Int)>0)) then
         let x6<-idx y.Parts 0;let (y14,y15)<-mZ y3 x6.Nest;let (y17,y18)<-mZ y15 y14;let (y20,y21)<-mZ y18 y17;let x7<-idx y.Parts 0;let l2<-pure (y.Parts.set (0:Int).toNat (zQ.mk y20 x7.Body));pure (l2,y21)
        else
         pure (y.Parts,y3)
          : Option (List zQ×zO))
       pure (Parts3,x5)
      else
       let (Parts4,x8)<-(do
        if(y2==3) then
         let t76<-(do
          if(decide ((y.Parts.length:Int)>0)) then
           let x9<-idx y.Parts (W ((y.Parts.length:Int) - 1));pure (decide ((x9.Body.length:Int)>0))
          else
           pure false
            : Option Bool)
         let (Parts5,x10)<-(do
          if t76 then
           let x11<-idx y.Parts (W ((y.Parts.length:Int) - 1));let x12<-idx x11.Body 0;let (y22,y23)<-rK y3 x12;let (y24,y25)<-rK y23 y22;let (y26,y27)<-rK y25 y24;let l3<-pure ((y.Parts).set (W ((y.Parts.length:Int) - 1)).toNat (zQ.mk x11.Nest (x11.Body.set 0 y26)));pure (l3,y27)
          else
           pure (y.Parts,y3)
            : Option (List zQ×zO))
         pure (Parts5,x10)
        else
         let Parts6<-(do
          if(y2==4) then
           let Parts7<-(do
            if(decide ((y.Parts.length:Int)>0)) then
             let x13<-idx y.Parts (W ((y.Parts.length:Int) - 1));let l4<-pure (y.Parts.set (W ((y.Parts.length:Int) - 1)).toNat (zQ.mk x13.Nest ([]:List zP)));pure (id l4)
            else
             pure y.Parts
              : Option (List zQ))
           pure (id Parts7)
          else
           pure y.Parts
            : Option (List zQ))
         pure (Parts6,y3)
          : Option (List zQ×zO))
       pure (Parts4,x8)
        : Option (List zQ×zO))
     pure (y.Arrays,Parts2,x4)
      : Option (List zF×List zQ×zO))
   pure (aC,bi,x1)
    : Option (List zF×List zQ×zO))
 pure ((zC.mk Arrays Parts),x)
theorem zFh:∀(r0:zO) (p1:zC) r,pA r0 p1=some r->∀{I:Imm}{aw}{p c p2 c1 p3 c2},(S4 I p r0.b c)->(S4 I p2 p1.Arrays c1)->(S4 I p3 p1.Parts c2)->(∀(y:zC) (y2:Int) (y3:zO) (x:zQ) (s:zP),pY p1=some y->xC r0 60=some (y2,y3)->(y2==3)=true->idx y.Parts (W ((y.Parts.length:Int) - 1))=some x->idx x.Body 0=some s->False)->RT 40 [vP aw 0,vA (cProg p1 p2 c1 p3 c2)] I [hB aw (cRd r0 p c)] (zAV aw r):=by
 intro r0 p1 r N I aw p c p2 c1 p3 c2 h h1 h2 hne;unfold pA at N;refine yL func40 λB=>?_;have H:=iS I;refine yF<|vK (cProg p1 p2 c1 p3 c2) ?_;intro b hb;refine wI zTwo ?_;intro b1 hb1;refine yA rfl<|yW<|sW 1 [1] [(7,vA (cProg p1 p2 c1 p3 c2))]<|bE N λy hy N=>xF (zI8 p1 _ hy h1 h2) ?_;rintro I0 av v2 k2 le - ⟨p4,c3,cs,p5,c4,az,rfl,rfl,h3,h4⟩ -;have ⟨h,H⟩:=m2 le h H;refine wI zTwo ?_;intro b2 hb2;refine xI 0 (cProg y p4 c3 p5 c4) rfl<|yA rfl<|yW<|yK [0] [6] rfl<|zZ<|yF<|yG 1 [] [12] rfl<|tX (zY [5,0,1,2,3,4] (ag:=[hB aw (cRd r0 p c),hB b2 (cProg y p4 c3 p5 c4),hO zF (vS p4 y.Arrays c3) cs,hO zQ (vS p5 y.Parts c4) az,hB b1 zTwo,hB b (cProg p1 p2 c1 p3 c2)])) ?_;obtain⟨⟨y2,y3⟩,ay,N⟩:=zB N;refine sG (xV r0 60 _ ay h) rfl ?_;rintro aT av v2 k2 aa - ⟨v0,kk,rfl,rfl,rfl,h6⟩ -;have ⟨h3,h4,H⟩:=m3 aa h3 h4 H;obtain⟨p6,c5,rfl,h7⟩:=yD h6;refine yA rfl<|xY<|yH [14] rfl<|zG<|mM 5 rfl ?_;intro aP aD hl0;have ap:At aP ⟨b,0,none⟩ (cProg p1 p2 c1 p3 c2):=At.of_blk hl0;have ⟨h7,h3,h4,H⟩:=m4 aD h7 h3 h4 H;obtain⟨o0,aA,aQ⟩:=zB N;refine qQ (λI' ag m'=>∃(Arrays:List zF) (Parts:List zQ) (x:zO) (p7:Option Addr) (c6:Nat) (aM:List Value) (p8:Option Addr) (c7:Nat) (aU:List Value) (p9:Option Addr) (c8:Nat),o0=(Arrays,Parts,x)/\aP.le I'/\(RL I' aM Arrays)/\(RL I' aU Parts)/\(S4 I' p9 x.b c8)/\ag=[hB aw (cRd x p9 c8),hB b2 [vS p7 Arrays c6,vS p8 Parts c7],hO zF (vS p7 Arrays c6) aM,hO zQ (vS p8 Parts c7) aU,hB b1 zTwo]/\m'=[(4,vP b1 0),(5,vP b2 0)]) ?_ ?_
 ·have H:=iS aP;refine yE aA ?_ ?_
  ·intro hc N;obtain⟨⟨y5,y6⟩,aF,N⟩:=zB N;obtain⟨⟨y8,y9⟩,aX,N⟩:=zB N;obtain⟨l,bk,N⟩:=zB N;refine wA [.p (vP b2 0) [],.p (vS p4 y.Arrays c3) [0],.p (vP aw 0) [],.x (λI' v hx=>∃b3,v=vS (some ⟨b3,0,none⟩) ([(⟨[65]⟩:Str),(⟨[68]⟩:Str),(⟨[69]⟩:Str)]:List Str) 3/\hx=[]/\(SL I' (vS (some ⟨b3,0,none⟩) ([(⟨[65]⟩:Str),(⟨[68]⟩:Str),(⟨[69]⟩:Str)]:List Str) 3) ([(⟨[65]⟩:Str),(⟨[68]⟩:Str),(⟨[69]⟩:Str)]:List Str))),.x (λI' v hx=>∃bb c9,v=vT y5.l/\hx=[hB aw (cRd y6 bb c9)]/\(S4 I' bb y6.b c9)),.p (vP aw 0) [],.x (λI' v hx=>∃b4,v=vS (some ⟨b4,0,none⟩) ([7,0,3,(-1)]:List Int) 4/\hx=[]/\(SL I' (vS (some ⟨b4,0,none⟩) ([7,0,3,(-1)]:List Int) 4) ([7,0,3,(-1)]:List Int))),.x (λI' v hx=>∃aR bd,v=vI y8/\hx=[hB aw (cRd y9 aR bd)]/\(S4 I' aR y9.b bd)),.x (λI' v hx=>∃b5,v=vS (some ⟨b5,0,none⟩) ([y8]:List Int) 1/\hx=[]/\(SL I' (vS (some ⟨b5,0,none⟩) ([y8]:List Int) 1) ([y8]:List Int))),.x (λI' v hx=>∃b51,v=vA [vT y5.l,vS (some ⟨b51,0,none⟩) ([y8]:List Int) 1]/\hx=[]/\(SL I' (vS (some ⟨b51,0,none⟩) ([y8]:List Int) 1) ([y8]:List Int))),.x (λI' v hx=>∃b6,v=vS (some ⟨b6,0,none⟩) ([(zF.mk y5 ([y8]:List Int))]:List zF) 1/\hx=[]/\(SL I' (vS (some ⟨b6,0,none⟩) ([(zF.mk y5 ([y8]:List Int))]:List zF) 1) ([(zF.mk y5 ([y8]:List Int))]:List zF))),.x (λI' v hx=>∃bz bh bv,v=vS bz l bh/\hx=[hO zF (vS bz l bh) bv]/\(RL I' bv l))] [[],[(0,false)],[],[],[(2,false),(3,false),(14,true)],[],[],[(5,false),(6,false),(4,true)],[(7,false)],[(4,false),(8,false)],[(9,false)],[(1,false),(10,false),(15,true)]] [hB b2 (cProg y p4 c3 p5 c4),hO zQ (vS p5 y.Parts c4) az,hB b1 zTwo] [[hB aw (cRd y3 p6 c5)],[hO zF (vS p4 y.Arrays c3) cs]] [(7,true),(11,true)] (zY [1,3,4,0,2]) ?_ ?_
   ·refine O3<|Ox ?_<|Ox ?_<|Op<|Ox ?_<|Ox ?_<|Ox ?_<|Ox ?_<|Ox ?_<|Ox ?_<|On
    ·intro I1 hf aa;refine eN [] ?_;have H:=iS I1;refine kM (rT [(⟨[65]⟩:Str),(⟨[68]⟩:Str),(⟨[69]⟩:Str)]) ?_;intro b3 bI aH h12;have H:=H.trans aH;exact yM [] H ⟨_,rfl,rfl,h12⟩
    ·rintro I1 hf aa _ _ ⟨rfl,rfl⟩ _ _ ⟨b3,rfl,rfl,h12⟩ _ _ rfl;refine yP [18,19] rfl ?_;have H:=iS I1;have h7:=h7.mono aa;refine sG (fF y3 ([(⟨[65]⟩:Str),(⟨[68]⟩:Str),(⟨[69]⟩:Str)]:List Str) _ aF h7 h12) rfl ?_;rintro bL av v2 k2 bf - ⟨v02,kk1,rfl,rfl,rfl,h14⟩ -;have H:=H.trans bf;obtain⟨bb,c9,rfl,h15⟩:=yD h14;exact yM [hB aw (cRd y6 bb c9)] H ⟨_,_,rfl,rfl,h15⟩
    ·intro I1 hf aa;refine eN [] ?_;have H:=iS I1;refine kM (rI [7,0,3,(-1)]) ?_;intro b4 I06 bu h17;have H:=H.trans bu;exact yM [] H ⟨_,rfl,rfl,h17⟩
    ·rintro I1 hf aa _ _ ⟨rfl,rfl⟩ _ _ ⟨b4,rfl,rfl,h17⟩ _ _ ⟨bb,c9,rfl,rfl,h15⟩;refine yP [21,22] rfl ?_;have H:=iS I1;refine sG (xJ y6 ([7,0,3,(-1)]:List Int) _ aX h15 h17) rfl ?_;rintro I07 av v2 k2 bG - ⟨v04,kk2,rfl,rfl,rfl,h19⟩ -;have H:=H.trans bG;obtain⟨aR,bd,rfl,h20⟩:=yD h19;exact yM [hB aw (cRd y9 aR bd)] H ⟨_,_,rfl,rfl,h20⟩
    ·rintro I1 hf aa _ _ ⟨aR,bd,rfl,rfl,h20⟩;refine yP [23] rfl ?_;have H:=iS I1;refine kM (rI [y8]) ?_;intro b5 I08 le7 h22;have H:=H.trans le7;exact yM [] H ⟨_,rfl,rfl,h22⟩
    ·rintro I1 hf aa _ _ ⟨bb,c9,rfl,rfl,h15⟩ _ _ ⟨b5,rfl,rfl,h22⟩;exact yP [20,24] rfl<|tD 10 [(25,vA [vT y5.l,vS (some ⟨b5,0,none⟩) ([y8]:List Int) 1])]<|yM [] iR ⟨_,rfl,rfl,h22⟩
    ·rintro I1 hf aa _ _ ⟨b51,rfl,rfl,h221⟩;refine yP [25] rfl ?_;have H:=iS I1;refine kM (rc (zF.mk y5 ([y8]:List Int)) (qY ⟨_,rfl,h221⟩) rN) ?_;intro b6 I09 le8 h24;have H:=H.trans le8;exact yM [] H ⟨_,rfl,rfl,h24⟩
    rintro I1 hf aa _ _ ⟨rfl,rfl⟩ _ _ ⟨b6,rfl,rfl,h24⟩ _ _ rfl;refine yP [17,26] rfl ?_;have h3:=iM aa h3;obtain⟨aN,k0,k01⟩:=h24;have h24:SL I1 (vS (some ⟨b6,0,none⟩) ([(zF.mk y5 ([y8]:List Int))]:List zF) 1) ([(zF.mk y5 ([y8]:List Int))]:List zF):=⟨_,k0,k01⟩;exact qA 111 2 0 rfl rfl rfl h3 (.inl k0) k01 bk λbz bh bv h25=>uD (ag:=(hO zF (vS bz l bh) bv::hB b2 (cProg y p4 c3 p5 c4)::hO zQ (vS p5 y.Parts c4) az::hB b1 zTwo::hf)) rfl<|yM [hO zF (vS bz l bh) bv] iR ⟨_,_,_,rfl,rfl,h25⟩
   rintro bP le9 _ _ ⟨aR,bd,rfl,rfl,h20⟩ _ _ ⟨bz,bh,bv,rfl,rfl,h25⟩;refine yP [4,5,27] rfl ?_;have ⟨h4,H⟩:=m2 le9 h4 H;exact yG 13 [] [28] rfl<|xI 2 [vS bz l bh,vS p5 y.Parts c4] rfl<|yA rfl<|xW (zX [1,2,0,3,4] rfl (by decide))<|yS<|zV ⟨_,_,_,_,_,_,_,_,_,_,_,(zD N).symm,H,h25,h4,h20,rfl,rfl⟩
  intro hc N;refine yH [29] rfl<|zG ?_;obtain⟨aO,aB,hMc1⟩:=zB N;refine qQ (λI' ag m'=>∃(aC:List zF) (bi:List zQ) (x1:zO) (bj:Option Addr) (bo:Nat) (bH:List Value) (p14:Option Addr) (bw:Nat) (cs6:List Value) (p15:Option Addr) (c14:Nat),aO=(aC,bi,x1)/\aP.le I'/\(RL I' bH aC)/\(RL I' cs6 bi)/\(S4 I' p15 x1.b c14)/\ag=[hB aw (cRd x1 p15 c14),hB b2 [vS bj aC bo,vS p14 bi bw],hO zF (vS bj aC bo) bH,hO zQ (vS p14 bi bw) cs6,hB b1 zTwo]/\m'=[(4,vP b1 0),(5,vP b2 0)]) ?_ ?_
  ·have H:=iS aP;refine yE aB ?_ ?_
   ·intro aE N;refine yF<|yK [1] [34] rfl<|zG ?_;obtain⟨o02,ho02,hMc2⟩:=zB N;refine qQ (λI' ag m'=>∃(Arrays2:List zF) (x2:zO) (p16:Option Addr) (c15:Nat) (cs7:List Value) (p17:Option Addr) (c16:Nat),o02=(Arrays2,x2)/\aP.le I'/\(RL I' cs7 Arrays2)/\(S4 I' p17 x2.b c16)/\ag=[hB aw (cRd x2 p17 c16),hB b2 [vS p16 Arrays2 c15,vS p5 y.Parts c4],hO zF (vS p16 Arrays2 c15) cs7,hO zQ (vS p5 y.Parts c4) az,hB b1 zTwo]/\m'=[(4,vP b1 0),(5,vP b2 0)]) ?_ ?_
    ·have H:=iS aP;refine yE ho02 ?_ ?_
     ·intro aV N;obtain⟨⟨y11,y12⟩,bC,N⟩:=zB N;refine wA [.p (vP b2 0) [],.p (vS p4 y.Arrays c3) [0],.p (vP aw 0) [],.x (λI' v hx=>∃b7,v=vS (some ⟨b7,0,none⟩) ([1,2,7]:List Int) 3/\hx=[]/\(SL I' (vS (some ⟨b7,0,none⟩) ([1,2,7]:List Int) 3) ([1,2,7]:List Int))),.x (λI' v hx=>∃p18 c17,v=vI y11/\hx=[hB aw (cRd y12 p18 c17)]/\(S4 I' p18 y12.b c17)),.x (λI' v hx=>∃b8,v=vS (some ⟨b8,0,none⟩) ([y11]:List Int) 1/\hx=[]/\(SL I' (vS (some ⟨b8,0,none⟩) ([y11]:List Int) 1) ([y11]:List Int)))] [[],[(0,false)],[],[],[(2,false),(3,false),(9,true)],[(4,false)]] [hB b2 (cProg y p4 c3 p5 c4),hO zF (vS p4 y.Arrays c3) cs,hO zQ (vS p5 y.Parts c4) az,hB b1 zTwo] [[hB aw (cRd y3 p6 c5)]] [(1,false),(4,true),(5,false)] (zY [1,2,3,4,0]) ?_ ?_
      ·refine O3<|Ox ?_<|Ox ?_<|Ox ?_<|On
       ·intro I1 hf aa;refine eN [] ?_;have H:=iS I1;refine kM (rI [1,2,7]) ?_;intro b7 I013 le10 h32;have H:=H.trans le10;exact yM [] H ⟨_,rfl,rfl,h32⟩
       ·rintro I1 hf aa _ _ ⟨rfl,rfl⟩ _ _ ⟨b7,rfl,rfl,h32⟩ _ _ rfl;refine yP [37,38] rfl ?_;have H:=iS I1;have h7:=h7.mono aa;refine sG (xJ y3 ([1,2,7]:List Int) _ bC h7 h32) rfl ?_;rintro I014 av v2 k2 le11 - ⟨v06,kk3,rfl,rfl,rfl,h34⟩ -;have H:=H.trans le11;obtain⟨p18,c17,rfl,h35⟩:=yD h34;exact yM [hB aw (cRd y12 p18 c17)] H ⟨_,_,rfl,rfl,h35⟩
       rintro I1 hf aa _ _ ⟨p18,c17,rfl,rfl,h35⟩;refine yP [39] rfl ?_;have H:=iS I1;refine kM (rI [y11]) ?_;intro b8 I015 le12 h37;have H:=H.trans le12;exact yM [] H ⟨_,rfl,rfl,h37⟩
      rintro I016 le13 _ _ ⟨rfl,rfl⟩ _ _ ⟨p18,c17,rfl,rfl,h35⟩ _ _ ⟨b8,rfl,rfl,h37⟩;refine yP [4,5,36,40] rfl ?_;have ⟨h3,H⟩:=m2 le13 h3 H;obtain⟨x3,hy6,N⟩:=zB N;refine pF 2 rfl rfl rfl h3 hy6 ?_;intro ad bm ar bJ ak;obtain⟨p19,c18,rfl,h38⟩:=wZ ak;refine yG 8 [] [42] rfl ?_;obtain⟨l1,hy7,N⟩:=zB N;refine zGm (c:=[vT x3.Name.l,vS (some ⟨b8,0,none⟩) ([y11]:List Int) 1]) 2 1 ar bJ h3 hy6 hy7 (qY ⟨_,rfl,h37⟩) ?_;intro cs8 h39 hl07;exact zAl (m':=[(4,vP b1 0),(5,vP b2 0),(40,vS (some ⟨b8,0,none⟩) ([y11]:List Int) 1)]) ⟨rfl,rfl,rfl,trivial⟩<|zIU (ag:=[hB aw (cRd y12 p18 c17),hB b2 [vS p4 l1 c3,vS p5 y.Parts c4],hO zF (vS p4 l1 c3) cs8,hO zQ (vS p5 y.Parts c4) az,hB b1 zTwo]) (m':=[(4,vP b1 0),(5,vP b2 0),(40,vS (some ⟨b8,0,none⟩) ([y11]:List Int) 1)]) (by first|rfl|simp only[vS,hl07,cu,fa,fw,fe,ex,ey]) (by first|rfl|simp only[vS,hl07])<|yA rfl<|yS<|zV ⟨_,_,_,_,_,_,_,(zD N).symm,H,h39,h35,rfl,rfl⟩
     intro aV N;exact zT<|yS<|zV ⟨_,_,_,_,_,_,_,(zD N).symm,H,h3,h7,rfl,rfl⟩
    rintro bW av m2 ⟨Arrays2,x2,p16,c15,cs7,p17,c16,heq,le14,h29,h30,rfl,rfl⟩;subst o02;have ⟨h4,H⟩:=m2 le14 h4 H;exact yS<|zV ⟨_,_,_,_,_,_,_,_,_,_,_,(zD hMc2).symm,H,h29,h4,h30,rfl,rfl⟩
   intro aE N;refine yH [43] rfl<|zG ?_;obtain⟨o03,ho03,hMc3⟩:=zB N;refine qQ (λI' ag m'=>∃(Parts2:List zQ) (x4:zO) (p20:Option Addr) (c19:Nat) (cs9:List Value) (p21:Option Addr) (c20:Nat),o03=(Parts2,x4)/\aP.le I'/\(RL I' cs9 Parts2)/\(S4 I' p21 x4.b c20)/\ag=[hB aw (cRd x4 p21 c20),hB b2 [vS p4 y.Arrays c3,vS p20 Parts2 c19],hO zF (vS p4 y.Arrays c3) cs,hO zQ (vS p20 Parts2 c19) cs9,hB b1 zTwo]/\m'=[(4,vP b1 0),(5,vP b2 0)]) ?_ ?_
   ·have H:=iS aP;refine yE ho03 ?_ ?_
    ·intro bD N;refine yH [46] rfl<|zG ?_;obtain⟨o04,ho04,hMc4⟩:=zB N;refine qQ (λI' ag m'=>∃(Parts3:List zQ) (x5:zO) (p22:Option Addr) (c21:Nat) (cs10:List Value) (p23:Option Addr) (c22:Nat),o04=(Parts3,x5)/\aP.le I'/\(RL I' cs10 Parts3)/\(S4 I' p23 x5.b c22)/\ag=[hB aw (cRd x5 p23 c22),hB b2 [vS p4 y.Arrays c3,vS p22 Parts3 c21],hO zF (vS p4 y.Arrays c3) cs,hO zQ (vS p22 Parts3 c21) cs10,hB b1 zTwo]/\m'=[(4,vP b1 0),(5,vP b2 0)]) ?_ ?_
     ·have H:=iS aP;refine yE ho04 ?_ ?_
      ·intro bM N;obtain⟨x6,hy8,N⟩:=zB N;obtain⟨⟨y14,y15⟩,hy9,N⟩:=zB N;obtain⟨⟨y17,y18⟩,hy10,N⟩:=zB N;obtain⟨⟨y20,y21⟩,hy11,N⟩:=zB N;refine wA [.p (vP b2 1) [],.p (vS p5 y.Parts c4) [0],.p (vP aw 0) [],.p (vP aw 0) [],.p (vP aw 0) [],.p (vP b2 1) [],.p (vS p5 y.Parts c4) [0],.x (λI' v hx=>∃ad1 p24 c23 p25 c24,v=.pointer (some ad1)/\hx=[]/\(AtO (vS p5 y.Parts c4) (Rp.sz zQ) (0:Int).toNat ad1)/\((az.drop ((0:Int).toNat*Rp.sz zQ)).take (Rp.sz zQ)=(cPart x6 p24 c23 p25 c24))/\(S4 I' p24 x6.Nest c23)/\(S4 I' p25 x6.Body c24)),.x (λI' v hx=>∃ad11 p241 c231 p251 c241,v=.pointer (some ad11)/\hx=[]/\(AtO (vS p5 y.Parts c4) (Rp.sz zQ) (0:Int).toNat ad11)/\((az.drop ((0:Int).toNat*Rp.sz zQ)).take (Rp.sz zQ)=(cPart x6 p241 c231 p251 c241))/\(S4 I' p241 x6.Nest c231)/\(S4 I' p251 x6.Body c241)),.x (eS x6.Nest),.x (λI' v hx=>∃p26 c25 p27 c26,v=vS p26 y14 c25/\hx=[hB aw (cRd y15 p27 c26)]/\(S4 I' p26 y14 c25)/\(S4 I' p27 y15.b c26)),.x (λI' v hx=>∃p28 c27 p29 c28,v=vS p28 y17 c27/\hx=[hB aw (cRd y18 p29 c28)]/\(S4 I' p28 y17 c27)/\(S4 I' p29 y18.b c28)),.x (λI' v hx=>∃p30 c29 p31 c30,v=vS p30 y20 c29/\hx=[hB aw (cRd y21 p31 c30)]/\(S4 I' p30 y20 c29)/\(S4 I' p31 y21.b c30))] [[],[(0,false)],[],[],[],[],[(5,false)],[(6,false)],[(7,false)],[(8,false)],[(4,false),(9,false),(16,true)],[(3,false),(10,true)],[(2,false),(11,true)]] [hB b2 (cProg y p4 c3 p5 c4),hO zF (vS p4 y.Arrays c3) cs,hO zQ (vS p5 y.Parts c4) az,hB b1 zTwo] [[hB aw (cRd y3 p6 c5)]] [(1,false),(12,true)] (zY [1,2,3,4,0]) ?_ ?_
       ·refine O4<|O3<|Ox ?_<|Ox ?_<|Ox ?_<|Ox ?_<|Ox ?_<|Ox ?_<|On
        ·intro I1 hf aa;refine yP [53] rfl ?_;have h4:=iM aa h4;refine pF 2 rfl rfl rfl h4 hy8 ?_;intro ad1 bO aS hcc1 au;obtain⟨p24,c23,p25,c24,rfl,h44,h45⟩:=vU au;exact yM [] iR ⟨_,_,_,_,_,rfl,rfl,aS,hcc1,h44,h45⟩
        ·rintro I1 hf aa _ _ ⟨ad1,p24,c23,p25,c24,rfl,rfl,aS,hcc1,h44,h45⟩;exact yP [54] rfl<|tD 9 [(55,.pointer (some ad1))]<|yM [] iR ⟨_,_,_,_,_,rfl,rfl,aS,hcc1,h44,h45⟩
        ·rintro I1 hf aa _ _ ⟨ad11,p241,c231,p251,c241,rfl,rfl,hat21,hcc11,h441,h451⟩;exact yP [55] rfl<|zBt 2 0 hat21 hcc11 [vS p241 x6.Nest c231] (vS p241 x6.Nest c231) rfl rfl<|yM [] iR ⟨_,_,rfl,rfl,h441⟩
        ·rintro I1 hf aa _ _ ⟨rfl,rfl⟩ _ _ ⟨p2411,c2311,rfl,rfl,h4411⟩ _ _ rfl;refine yP [51,56] rfl ?_;have H:=iS I1;have h7:=h7.mono aa;refine sG (zAb y3 x6.Nest _ hy9 h7 h4411) rfl ?_;rintro I019 av v2 k2 le15 - ⟨v011,kk4,rfl,rfl,h46,h47⟩ -;have H:=H.trans le15;obtain⟨p26,c25,rfl⟩:=h46.form;obtain⟨p27,c26,rfl,h48⟩:=yD h47;exact yM [hB aw (cRd y15 p27 c26)] H ⟨_,_,_,_,rfl,rfl,h46,h48⟩
        ·rintro I1 hf aa _ _ ⟨rfl,rfl⟩ _ _ ⟨p26,c25,p27,c26,rfl,rfl,h46,h48⟩;refine yP [50,57] rfl ?_;have H:=iS I1;refine sG (zAb y15 y14 _ hy10 h48 h46) rfl ?_;rintro I020 av v2 k2 le16 - ⟨v013,kk5,rfl,rfl,h49,h50⟩ -;have H:=H.trans le16;obtain⟨p28,c27,rfl⟩:=h49.form;obtain⟨p29,c28,rfl,h51⟩:=yD h50;exact yM [hB aw (cRd y18 p29 c28)] H ⟨_,_,_,_,rfl,rfl,h49,h51⟩
        rintro I1 hf aa _ _ ⟨rfl,rfl⟩ _ _ ⟨p28,c27,p29,c28,rfl,rfl,h49,h51⟩;refine yP [49,58] rfl ?_;have H:=iS I1;refine sG (zAb y18 y17 _ hy11 h51 h49) rfl ?_;rintro I021 av v2 k2 le17 - ⟨v015,kk6,rfl,rfl,h52,h53⟩ -;have H:=H.trans le17;obtain⟨p30,c29,rfl⟩:=h52.form;obtain⟨p31,c30,rfl,h54⟩:=yD h53;exact yM [hB aw (cRd y21 p31 c30)] H ⟨_,_,_,_,rfl,rfl,h52,h54⟩
       rintro I022 le18 _ _ ⟨rfl,rfl⟩ _ _ ⟨p30,c29,p31,c30,rfl,rfl,h52,h54⟩;refine yP [4,5,48,59] rfl ?_;have ⟨h4,H⟩:=m2 le18 h4 H;obtain⟨x7,hy12,N⟩:=zB N;refine pF 3 rfl rfl rfl h4 hy12 ?_;intro ad2 ccs3 hat3 hcc2 aZ;obtain⟨p32,c31,p33,c32,rfl,h55,h56⟩:=vU aZ;refine yG 15 [] [61] rfl ?_;obtain⟨l2,hy13,N⟩:=zB N;refine zGm (c:=[vS p30 y20 c29,vS p33 x7.Body c32]) 3 0 hat3 hcc2 h4 hy12 hy13 (qS ⟨_,_,rfl,h52,h56⟩) ?_;intro cs11 h57 hl08;exact zAl (m':=[(4,vP b1 0),(5,vP b2 0),(59,vS p30 y20 c29)]) ⟨rfl,rfl,rfl,trivial⟩<|zIU (ag:=[hB aw (cRd y21 p31 c30),hB b2 [vS p4 y.Arrays c3,vS p5 l2 c4],hO zF (vS p4 y.Arrays c3) cs,hO zQ (vS p5 l2 c4) cs11,hB b1 zTwo]) (m':=[(4,vP b1 0),(5,vP b2 0),(59,vS p30 y20 c29)]) (by first|rfl|simp only[vS,hl08,cu,fa,fw,fe,ex,ey]) (by first|rfl|simp only[vS,hl08])<|yA rfl<|yS<|zV ⟨_,_,_,_,_,_,_,(zD N).symm,H,h57,h54,rfl,rfl⟩
      intro bM N;exact zT<|yS<|zV ⟨_,_,_,_,_,_,_,(zD N).symm,H,h4,h7,rfl,rfl⟩
     rintro I018 av m2 ⟨Parts3,x5,p22,c21,cs10,p23,c22,heq1,le19,h42,h43,rfl,rfl⟩;subst o04;have H:=H.trans le19;exact yS<|zV ⟨_,_,_,_,_,_,_,(zD hMc4).symm,H,h42,h43,rfl,rfl⟩
    intro bD N;refine yH [62] rfl<|zG ?_;obtain⟨o05,ho05,hMc5⟩:=zB N;refine qQ (λI' ag m'=>∃(Parts4:List zQ) (x8:zO) (p34:Option Addr) (c33:Nat) (cs12:List Value) (p35:Option Addr) (c34:Nat),o05=(Parts4,x8)/\aP.le I'/\(RL I' cs12 Parts4)/\(S4 I' p35 x8.b c34)/\ag=[hB aw (cRd x8 p35 c34),hB b2 [vS p4 y.Arrays c3,vS p34 Parts4 c33],hO zF (vS p4 y.Arrays c3) cs,hO zQ (vS p34 Parts4 c33) cs12,hB b1 zTwo]/\m'=[(4,vP b1 0),(5,vP b2 0)]) ?_ ?_
    ·have H:=iS aP;refine yE ho05 ?_ ?_
     ·intro hc5 N;refine yB ?_;refine wK N [hB aw (cRd y3 p6 c5),hB b2 (cProg y p4 c3 p5 c4),hO zF (vS p4 y.Arrays c3) cs,hO zQ (vS p5 y.Parts c4) az,hB b1 zTwo] (λt76=>[(0,vP aw 0),(4,vP b1 0),(5,vP b2 0),(6,vI (y.Parts.length:Int)),(76,.bool t76)]) (λo06 ho06=>?_) ?_
      ·have H:=iS aP;refine zJ<|yG 3 [] [66] rfl<|xZ [66] ho06 ?_ ?_
       ·intro hc6 N;refine yG 7 [1] [68,70] rfl<|bE N λx9 hy14 N=>pF 3 rfl rfl rfl h4 hy14 ?_;intro ad3 ccs4 hat4 hcc3 bB;obtain⟨p36,c35,p37,c36,rfl,h60,h61⟩:=vU bB;exact yG 9 [] [72] rfl<|zBt 3 1 hat4 hcc3 [vS p37 x9.Body c36] (vS p37 x9.Body c36) rfl rfl<|yK [] [76] rfl<|yS<|zV (ct N H)
       intro hc6 N;exact wB [] [(76,vF)]<|yS<|zV (ct N H)
      intro t76 I024 le20 hMc6;have ⟨h7,h4,H⟩:=m3 le20 h7 h4 H;refine zG ?_;obtain⟨o07,ho07,hMc7⟩:=zB hMc6;refine qQ (λI' ag m'=>∃(Parts5:List zQ) (x10:zO) (p38:Option Addr) (c37:Nat) (cs13:List Value) (p39:Option Addr) (c38:Nat),o07=(Parts5,x10)/\I024.le I'/\(RL I' cs13 Parts5)/\(S4 I' p39 x10.b c38)/\ag=[hB aw (cRd x10 p39 c38),hB b2 [vS p4 y.Arrays c3,vS p38 Parts5 c37],hO zF (vS p4 y.Arrays c3) cs,hO zQ (vS p38 Parts5 c37) cs13,hB b1 zTwo]/\m'=[(4,vP b1 0),(5,vP b2 0)]) ?_ ?_
      ·have H:=iS I024;refine yE ho07 ?_ ?_
       ·intro hc7 N;obtain⟨x11,hy15,N⟩:=zB N;obtain⟨x12,hy16,N⟩:=zB N;obtain⟨⟨y22,y23⟩,hy17,N⟩:=zB N;obtain⟨⟨y24,y25⟩,hy18,N⟩:=zB N;obtain⟨⟨y26,y27⟩,hy19,N⟩:=zB N;obtain⟨l3,hy20,N⟩:=zB N;have hF:False:=hne _ _ _ _ _ (by assumption) (by assumption) (by assumption) hy15 hy16;obtain⟨p40,c39,cs14,p41,c40,h64,h65⟩:∃p40 c39 cs14 p41 c40,(RL I024 cs14 l3)/\(S4 I024 p41 y27.b c40):=hF.elim;exact zOI hF (am:=I024) (ag:=[hB aw (cRd y27 p41 c40),hB b2 [vS p4 y.Arrays c3,vS p40 l3 c39],hO zF (vS p4 y.Arrays c3) cs,hO zQ (vS p40 l3 c39) cs14,hB b1 zTwo]) (m':=[(0,vP aw 0),(4,vP b1 0),(5,vP b2 0),(6,vI (y.Parts.length:Int)),(76,.bool t76)])<|yS<|zV ⟨_,_,_,_,_,_,_,(zD N).symm,H,h64,h65,rfl,rfl⟩
       intro hc7 N;exact zT<|yS<|zV ⟨_,_,_,_,_,_,_,(zD N).symm,H,h4,h7,rfl,rfl⟩
      rintro I025 av m2 ⟨Parts5,x10,p38,c37,cs13,p39,c38,heq3,le21,h62,h63,rfl,rfl⟩;subst o07;have H:=H.trans le21;exact yS<|zV ⟨_,_,_,_,_,_,_,(zD hMc7).symm,H,h62,h63,rfl,rfl⟩
     intro hc5 N;refine yH [100] rfl<|zG ?_;obtain⟨o08,ho08,hMc8⟩:=zB N;refine qQ (λI' ag m'=>∃(Parts6:List zQ) (p42:Option Addr) (c41:Nat) (cs15:List Value),o08=Parts6/\aP.le I'/\(RL I' cs15 Parts6)/\ag=[hB aw (cRd y3 p6 c5),hB b2 [vS p4 y.Arrays c3,vS p42 Parts6 c41],hO zF (vS p4 y.Arrays c3) cs,hO zQ (vS p42 Parts6 c41) cs15,hB b1 zTwo]/\m'=[(4,vP b1 0),(5,vP b2 0)]) ?_ ?_
     ·have H:=iS aP;refine yE ho08 ?_ ?_
      ·intro hc8 N;refine yH [103] rfl<|zG ?_;obtain⟨o09,ho09,hMc9⟩:=zB N;refine qQ (λI' ag m'=>∃(Parts7:List zQ) (p43:Option Addr) (c42:Nat) (cs16:List Value),o09=Parts7/\aP.le I'/\(RL I' cs16 Parts7)/\ag=[hB aw (cRd y3 p6 c5),hB b2 [vS p4 y.Arrays c3,vS p43 Parts7 c42],hO zF (vS p4 y.Arrays c3) cs,hO zQ (vS p43 Parts7 c42) cs16,hB b1 zTwo]/\m'=[(4,vP b1 0),(5,vP b2 0)]) ?_ ?_
       ·have H:=iS aP;refine yE ho09 ?_ ?_
        ·intro hc9 N;refine zJ<|yG 4 [1] [105,107] rfl<|bE N λx13 hy21 N=>pF 3 rfl rfl rfl h4 hy21 ?_;intro ad4 ccs5 hat5 hcc4 hrep4;obtain⟨p44,c43,p45,c44,rfl,h68,h69⟩:=vU hrep4;refine yG 6 [] [109] rfl ?_;obtain⟨l4,hy22,N⟩:=zB N;refine zGm (c:=[vS p44 x13.Nest c43,z0]) 3 1 hat5 hcc4 h4 hy21 hy22 (qS ⟨_,_,rfl,h68,(SL.nil _)⟩) ?_;intro cs17 h70 hl09;exact zAl (m':=[(4,vP b1 0),(5,vP b2 0)]) ⟨rfl,rfl,trivial⟩<|zIU (ag:=[hB aw (cRd y3 p6 c5),hB b2 [vS p4 y.Arrays c3,vS p5 l4 c4],hO zF (vS p4 y.Arrays c3) cs,hO zQ (vS p5 l4 c4) cs17,hB b1 zTwo]) (m':=[(4,vP b1 0),(5,vP b2 0)]) (by first|rfl|simp only[vS,hl09,cu,fa,fw,fe,ex,ey]) (by first|rfl|simp only[vS,hl09])<|yA rfl<|yS<|zV ⟨_,_,_,_,(zD N).symm,H,h70,rfl,rfl⟩
        intro hc9 N;exact zT<|yS<|zV ⟨_,_,_,_,(zD N).symm,H,h4,rfl,rfl⟩
       rintro I027 av m2 ⟨Parts7,p43,c42,cs16,heq4,le22,h67,rfl,rfl⟩;subst o09;have H:=H.trans le22;exact yS<|zV ⟨_,_,_,_,(zD hMc9).symm,H,h67,rfl,rfl⟩
      intro hc8 N;exact zT<|yS<|zV ⟨_,_,_,_,(zD N).symm,H,h4,rfl,rfl⟩
     rintro I026 av m2 ⟨Parts6,p42,c41,cs15,heq5,le23,h66,rfl,rfl⟩;subst o08;have ⟨h7,H⟩:=m2 le23 h7 H;exact yS<|zV ⟨_,_,_,_,_,_,_,(zD hMc8).symm,H,h66,h7,rfl,rfl⟩
    rintro I023 av m2 ⟨Parts4,x8,p34,c33,cs12,p35,c34,heq6,le24,h58,h59,rfl,rfl⟩;subst o05;have H:=H.trans le24;exact yS<|zV ⟨_,_,_,_,_,_,_,(zD hMc5).symm,H,h58,h59,rfl,rfl⟩
   rintro I017 av m2 ⟨Parts2,x4,p20,c19,cs9,p21,c20,heq7,le25,h40,h41,rfl,rfl⟩;subst o03;have ⟨h3,H⟩:=m2 le25 h3 H;exact yS<|zV ⟨_,_,_,_,_,_,_,_,_,_,_,(zD hMc3).symm,H,h3,h40,h41,rfl,rfl⟩
  rintro bV av m2 ⟨aC,bi,x1,bj,bo,bH,p14,bw,cs6,p15,c14,heq8,le26,h26,h27,h28,rfl,rfl⟩;subst aO;have H:=H.trans le26;exact yS<|zV ⟨_,_,_,_,_,_,_,_,_,_,_,(zD hMc1).symm,H,h26,h27,h28,rfl,rfl⟩
 rintro bx av m2 ⟨Arrays,Parts,x,p7,c6,aM,p8,c7,aU,p9,c8,aW,le27,h8,h9,h10,rfl,rfl⟩;subst o0;refine zL<|yW<|sW 1 [1] [(110,vA [vS p7 Arrays c6,vS p8 Parts c7])]<|xI 4 [vS p7 Arrays c6,vS p8 Parts c7] rfl<|yA rfl<|xD<|yZ 2 rfl ?_;intro I028 le28 hl010;have h71:=SL.of_frozen hl010 le28 h8;have ⟨h10,h9⟩:=m2 le28 h10 h9;refine yZ 2 rfl ?_;intro I029 le29 hl011;have h72:=SL.of_frozen hl011 le29 h9;have ⟨h10,h71⟩:=m2 le29 h10 h71;exact xU aQ (resC 2 rfl rfl) (zX [0] rfl (by decide)) ⟨_,_,rfl,rfl,⟨_,rfl,(wN ⟨_,_,rfl,h71,h72⟩)⟩,(yY ⟨_,rfl,h10⟩)⟩
theorem zEw(p:zC):∀(i1:Int) (Parts:List zQ) (o:List zQ),tH p i1 Parts=some o->∀{B}{I0 I:Imm}{Q}{aC:List zF}{p1 c p2 c1}{b b1 b2}{p4 c3 az p9 c8 bv}{al:List Raw2}{pN pB:Option Addr}{cN cB:Nat}{nl:List zE}{bl:List zP}{csB:List Value},I0.le I->(RL I az aC)->(S4 I p1 p.Arrays c)->(S4 I p2 p.Parts c1)->(RL I bv al)->LP I al Parts (vS pN nl cN) nl (vS pB bl cB) bl->SL I (vS pN nl cN) nl->RL I csB bl->(∀l a w,¬Q (.goto l) a w)->(∀a w,¬Q .outgrown a w)->(∀(I':Imm) (bb:Option Addr) (c9:Nat) (bH:List Value) (raws1:List Raw2) (pN pB:Option Addr) (cN cB:Nat) (nl:List zE) (bl:List zP) (csB:List Value),I0.le I'->(RL I' bH raws1)->LP I' raws1 o (vS pN nl cN) nl (vS pB bl cB) bl->SL I' (vS pN nl cN) nl->RL I' csB bl->T 84 B Q (.exit 2) I' [hO zP (vS pB bl cB) csB,hO Raw2 (vS bb raws1 c9) bH,hO zF (vS p4 aC c3) az,hB b2 [vS p4 aC c3,vS bb raws1 c9],hB b1 zTwo] [(2,vP b1 0),(3,vP b2 0)])->J Tryz.prog 84 B (nav (bodyOf f71) [1,1,1,0,1,0]) Q I [hO zP (vS pB bl cB) csB,hO Raw2 (vS p9 al c8) bv,hO zF (vS p4 aC c3) az,hB b2 [vS p4 aC c3,vS p9 al c8],hB b1 zTwo,hB b (cProg p p1 c p2 c1)] [(1,vP b 0),(2,vP b1 0),(3,vP b2 0),(5,vI i1)]:=by
 refine tH.partial_correctness p _ λaI ih i1 Parts o N B I0 I Q aC p1 c p2 c1 b b1 b2 p4 c3 az p9 c8 bv al pN pB cN cB nl bl csB H h4 h h1 hRw hLP hN hBd hg ho hx=>yV hg ho<|yB<|yF<|yK [5] [40] rfl<|zG<|yE N ?_ ?_
 ·intro aE N;refine mM 0 rfl ?_;intro immf lef hlf;have kB:=SL.of_frozen hlf lef hBd;have ⟨h4,h,h1,hN,hRw,hLP⟩:=m6 lef h4 h h1 hN hRw hLP;have H:=H.trans lef;have h14:=hLP.done hN kB;rw[<- gX hRw] at h14;have eP:vS p9 al c8=vS p9 Parts c8:=by simp only[vS,hLP.2.1]
  rw[eP];clear hBd hlf;refine zT<|zZ<|yI<|yF<|yG 3 [4] [44,45] rfl<|bE N λx2 bk N=>xK rfl rfl h1 bk ?_;intro ad3 ccs4 hat3 aZ;obtain⟨aR,bd,bz,bh,rfl,h16,h17⟩:=vU aZ;refine yG 5 [] [47] rfl<|xA 0 hat3 [vS aR x2.Nest bd] (vS aR x2.Nest bd) rfl<|bE N λy bC N=>xF (zDa x2.Nest _ bC h16) ?_;rintro bI av v2 k2 bf - ⟨v04,rfl,rfl,h18⟩ -;have ⟨h14,hRw,hLP,hN⟩:=m4 bf h14 hRw hLP hN;replace kB:=kB.mono bf;have ⟨h4,h,h1,H⟩:=m4 bf h4 h h1 H;obtain⟨bj,bo,rfl⟩:=h18.form;refine yG 8 [] [50] rfl<|wI zTwo ?_;intro b5 hb5;refine xI 0 [vS bj y bo,z0] rfl<|yA rfl<|zZ<|yH [7] rfl<|xY<|pE [(1,vP b 0),(2,vP b1 0),(3,vP b2 0),(5,vI i1),(6,vP b5 0),(7,vI 0)]<|zAm zP λh19=>?_;obtain⟨aO,aB,hMl1⟩:=zB N;refine zBj p i1 0 ([]:List zP) aO aB iR h18 h14 h4 h h1 h19 (λ_ _ _ h=>hg _ _ _ h) (λ_ _ h=>ho _ _ h) ?_;intro bP bt p15 c14 cs7 heq1 le10 h21;subst aO;have ⟨h18,hRw,hLP,hN⟩:=m4 le10 h18 hRw hLP hN;replace kB:=kB.mono le10;have ⟨h4,h,h1,H⟩:=m4 le10 h4 h h1 H;obtain⟨l3,hy11,N⟩:=zB hMl1;have hy12:=zKZ (l':=al) (m':=[(⟨vS bj y bo,vS p15 bt c14⟩:Raw2)]) hy11 hLP.2.1 rfl;have h40:RL bP [vS bj y bo,vS p15 bt c14] [(⟨vS bj y bo,vS p15 bt c14⟩:Raw2)]:=⟨[vS bj y bo,vS p15 bt c14],[],rfl,rfl,⟨rfl,rfl,rfl⟩,rfl⟩;refine zS<|zG<|zJ<|sW 3 [4,1] [(78,vS p9 Parts c8),(79,vA [vS bj y bo,vS p15 bt c14])]<|uP [vS bj y bo,vS p15 bt c14] Raw2 ?_;intro b7 hb7;refine qA (α:=Raw2) 70 2 3 rfl rfl rfl hRw (.inr ⟨0,rfl⟩) h40 hy12 ?_;intro p29 c28 cs11 h41;exact tX (zY [1,3,4,5,6,7] (ag:=[hO zP (vS p15 bt c14) cs7,hO Raw2 (vS p29 (al++[(⟨vS bj y bo,vS p15 bt c14⟩:Raw2)]) c28) cs11,hO zF (vS p4 aC c3) az,hB b2 [vS p4 aC c3,vS p9 Parts c8],hB b1 zTwo,hB b (cProg p p1 c p2 c1)]))<|yG 6 [] [82] rfl<|xI 3 [vS p4 aC c3,vS p29 (al++[(⟨vS bj y bo,vS p15 bt c14⟩:Raw2)]) c28] rfl<|yA rfl<|zL<|zG<|zJ<|yK [] [5] rfl<|yU<|nD<|ih (W (i1+1)) l3 _ N H h4 h h1 h41 (hLP.push hN kB hy11) h18 h21 hg ho hx
 intro aE N;have:=zD N;simp only[id] at this;subst this;exact wM<|xW (zX [0,1,2,3,4] rfl (by decide))<|yS<|hx _ _ _ _ _ _ _ _ _ _ _ _ H hRw hLP hN hBd
def zFi(r:zC):KT:=λkk I' ag v=>
 ∃(a0:Option Addr) (c0:Nat) (s0:List Value) (a1:Option Addr) (c1:Nat) (s1:List Value) (al:List Raw2) (pN pB:Option Addr) (cN cB:Nat) (nl:List zE) (bl:List zP) (csB:List Value),ag=[hO zP (vS pB bl cB) csB,hO Raw2 (vS a1 al c1) s1,hO zF (vS a0 r.Arrays c0) s0]/\v=tupV [vA [vS a0 r.Arrays c0,vS a1 al c1]]/\RL I' s0 r.Arrays/\RL I' s1 al/\LP I' al r.Parts (vS pN nl cN) nl (vS pB bl cB) bl/\SL I' (vS pN nl cN) nl/\RL I' csB bl
theorem zHd:∀(p:zC) r,pY p=some r->∀{I:Imm}{p1 c p2 c1},(S4 I p1 p.Arrays c)->(S4 I p2 p.Parts c1)->RT 71 [vA (cProg p p1 c p2 c1)] I [] (zFi r):=by
 intro p r N I p1 c p2 c1 h h1;unfold pY at N;refine yL func71 λB=>yF<|vK (cProg p p1 c p2 c1) ?_;intro b hb;refine wI zTwo ?_;intro b1 hb1;refine yA rfl<|yW<|yG 1 [] [8] rfl<|wI zTwo ?_;intro b2 hb2;refine zBu 0 zTwo [hB b2 zTwo,hB b1 zTwo,hB b (cProg p p1 c p2 c1)] rfl rfl rfl rfl<|yA rfl<|zZ<|yH [4] rfl<|xY<|pE [(1,vP b 0),(2,vP b1 0),(3,vP b2 0),(4,vI 0)]<|zAm zF λh2=>?_;obtain⟨o0,aA,aG⟩:=zB N;refine zBi p 0 ([]:List zF) o0 aA iR h h1 h2 nG nO ?_;intro bx aC p4 c3 az heq aH h4;subst o0;have ⟨h,h1⟩:=m2 aH h h1;refine zS<|zZ<|yH [5] rfl<|xY<|pE [(1,vP b 0),(2,vP b1 0),(3,vP b2 0),(5,vI 0)]<|jS (dA (Rp.sz Raw2))<|jS (dA (Rp.sz zP)) ?_;obtain⟨o02,ho02,hMl2⟩:=zB aG;refine zEw p 0 ([]:List zQ) o02 ho02 (al:=[]) (pN:=none) (pB:=none) (cN:=0) (cB:=0) (nl:=[]) (bl:=[]) iR h4 h h1 RepL.nil LP.nil (SL.nil _) RepL.nil nG nO ?_;intro bW bb c9 bH raws1 pN pB cN cB nl bl csB le12 hRw hLP hN hBd;have h4:=iM le12 h4;obtain rfl:=zD hMl2;exact zS<|yW<|sW 1 [3] [(83,vA [vS p4 aC c3,vS bb raws1 c9])]<|xI 4 [vS p4 aC c3,vS bb raws1 c9] rfl<|yA rfl<|xD<|zJ3 (resC 4 rfl rfl) (zX [0,1,2] rfl (by decide)) ⟨_,_,_,_,_,_,_,_,_,_,_,_,_,_,rfl,rfl,h4,hRw,hLP,hN,hBd⟩
theorem zOV{al:List Raw2}{k}{r:Raw2}(h:al[k]?=some r):al.set k r=al:=by
 obtain⟨hk,e⟩:=cj.1 h;subst e;exact List.set_getElem_self hk
theorem zFj(r0:zO)(p1:zC)(r:zC×zO)(N:pA r0 p1=some r){y:zC}{y3:zO}{x:zQ}{s:zP}(hy:pY p1=some y)(ay:xC r0 60=some (3,y3))(hx:idx y.Parts (W ((y.Parts.length:Int) - 1))=some x)(hs:idx x.Body 0=some s):
 ∀{I:Imm}{aw}{p c p2 c1 p3 c2},(S4 I p r0.b c)->(S4 I p2 p1.Arrays c1)->(S4 I p3 p1.Parts c2)->RT 40 [vP aw 0,vA (cProg p1 p2 c1 p3 c2)] I [hB aw (cRd r0 p c)] (zAV aw r):=by
 intro I aw p c p2 c1' p3 c2 h h1 h2
 obtain⟨i0,i1,i2⟩:=sV hx
 obtain⟨j0,j1,j2⟩:=sV hs
 have hn:(y.Parts.length:Int)>0:=by
  have:=(cj.1 i2).1;omega
 have hb:(x.Body.length:Int)>0:=by
  have:=(cj.1 j2).1;omega
 have e0:((3:Int)==0)=false:=rfl
 have e1:((3:Int)==1)=false:=rfl
 have e2:((3:Int)==2)=false:=rfl
 have e3:((3:Int)==3)=true:=rfl
 unfold pA at N
 simp only[hy,ay,e0,e1,e2,e3,hn,hb,hx,hs,decide_true,if_true,cU,if_false,Option.pure_def,Option.bind_eq_bind,Option.bind_some] at N
 cases hm1:rK y3 s with
 | none=>rw[hm1] at N;cases N
 | some q1=>
 obtain⟨y22,y23⟩:=q1
 simp only[hm1,Option.bind_some] at N
 cases hm2:rK y23 y22 with
 | none=>rw[hm2] at N;cases N
 | some q2=>
 obtain⟨y24,y25⟩:=q2
 simp only[hm2,Option.bind_some] at N
 cases hm3:rK y25 y24 with
 | none=>rw[hm3] at N;cases N
 | some q3=>
 obtain⟨y26,y27⟩:=q3
 simp only[hm3,Option.bind_some,Option.some.injEq] at N
 subst N
 refine yL func40 λB=>yF<|vK [vS p2 p1.Arrays c1',vS p3 p1.Parts c2] ?_
 intro b hb
 refine wI zTwo ?_
 intro b1 hb1
 refine yA rfl<|yW<|sW 1 [1] [(7,vA [vS p2 p1.Arrays c1',vS p3 p1.Parts c2])]<|xF (zHd p1 _ hy h1 h2) ?_
 rintro I0 av v2 k2 le - ⟨a0,c0,s0,a1,c1,s1,al,pN,pB,cN,cB,nl,bl,csB,rfl,rfl,h3,hRw,hLP,hN,hBd⟩ -
 have h:=h.mono le
 clear h1 h2
 rw[hLP.len] at hx hn i0 i1 i2
 obtain⟨rfl,hraw,hset⟩:=hLP.last hx
 simp only at hs hb j0 j1 j2 hm1
 have hset:=hset (vS pN nl cN) nl (vS pB bl cB) (bl.set 0 y26)
 rw[zOV (sV hraw).2.2] at hset
 refine wI zTwo ?_
 intro b2 hb2
 refine xI 0 [vS a0 y.Arrays c0,vS a1 al c1] rfl<|yA rfl<|yW<|yK [0] [6] rfl<|zZ<|yF<|yG 1 [] [12] rfl<|tX (zY [6,1,2,0,3,4] (ag:=[hB aw (cRd r0 p c),hO zP (vS pB bl cB) csB,hO Raw2 (vS a1 al c1) s1,hB b2 [vS a0 y.Arrays c0,vS a1 al c1],hO zF (vS a0 y.Arrays c0) s0,hB b1 zTwo]))<|sG (xV r0 60 _ ay h) rfl ?_
 rintro aT av v2 k2 aa - ⟨v0,kk,rfl,rfl,rfl,h6⟩ -
 obtain⟨v01,rfl,h7⟩:=zAT h6
 obtain⟨p6,c5,rfl⟩:=h7.form
 clear h6 h
 have h3:=iM aa h3
 have hRw:=iM aa hRw
 have hN:=hN.mono aa
 have hBd:=iM aa hBd
 have hset:=hset.mono aa
 refine yA rfl<|xY<|yH [14] rfl<|zG<|zBH rfl<|yH [29] rfl<|zG<|zBH rfl<|yH [43] rfl<|zG<|zBH rfl<|yH [62] rfl<|zG<|zDS rfl<|yF<|yG 3 [] [66] rfl ?_
 rw[decide_eq_true hn]
 refine yG 7 [3] [68,70] rfl<|pF (α:=Raw2) 2 rfl rfl rfl hRw hraw ?_
 intro ad aN ap bJ ak
 obtain⟨rfl,o1,o2⟩:=ak
 refine yG 9 [] [72] rfl<|zBt 2 1 ap bJ [vS pB bl cB] (vS pB bl cB) rfl rfl<|yK [] [76] rfl ?_
 rw[decide_eq_true hb]
 refine zG<|zDS rfl<|pE [(0,vP aw 0),(4,vP b1 0),(5,vP b2 0),(6,vI (al.length:Int))]<|wA [.p (vP b2 1) [],.p (vS a1 al c1) [2],.p (vI (al.length:Int)) [],.p (vI (W ((al.length:Int) - 1))) [],.x (λI' v hx'=>∃ad,v=.pointer (some ad)/\hx'=[]/\AtO (vS a1 al c1) 2 (W ((al.length:Int) - 1)).toNat ad),.x (λI' v hx'=>∃ad,v=.pointer (some (ad.add 1))/\hx'=[]/\AtO (vS a1 al c1) 2 (W ((al.length:Int) - 1)).toNat ad),.x (λI' v hx'=>v=vS pB bl cB/\hx'=[]),.p (vP aw 0) [],.p (vP aw 0) [],.p (vP aw 0) [],.p (vP b2 1) [],.p (vS a1 al c1) [2],.p (vI (al.length:Int)) [],.p (vI (W ((al.length:Int) - 1))) [],.x (λI' v hx'=>∃ad,v=.pointer (some ad)/\hx'=[]/\AtO (vS a1 al c1) 2 (W ((al.length:Int) - 1)).toNat ad),.x (λI' v hx'=>∃ad,v=.pointer (some (ad.add 1))/\hx'=[]/\AtO (vS a1 al c1) 2 (W ((al.length:Int) - 1)).toNat ad),.x (λI' v hx'=>v=vS pB bl cB/\hx'=[]),.x (λI' v hx'=>∃ad,v=.pointer (some ad)/\hx'=[]/\AtO (vS pB bl cB) 9 0 ad),.x (λI' v hx'=>∃cs9,v=.agg ⟨cs9⟩/\hx'=[]/\Rp.rep I' cs9 s),.x (λI' v hx'=>∃(cs9 kk:List Value),v=.agg ⟨cs9⟩/\hx'=[hB aw kk]/\Rp.rep I' cs9 y22/\Rp.rep I' kk y23),.x (λI' v hx'=>∃(cs9 kk:List Value),v=.agg ⟨cs9⟩/\hx'=[hB aw kk]/\Rp.rep I' cs9 y24/\Rp.rep I' kk y25),.x (λI' v hx'=>∃(cs9 kk:List Value),v=.agg ⟨cs9⟩/\hx'=[hB aw kk]/\Rp.rep I' cs9 y26/\Rp.rep I' kk y27)] [[],[(0,false)],[],[(2,false)],[(1,false),(3,false)],[(4,false)],[(5,false)],[],[],[],[],[(10,false)],[],[(12,false)],[(11,false),(13,false)],[(14,false)],[(15,false)],[(16,false)],[(17,false)],[(9,false),(18,false),(24,true)],[(8,false),(19,true)],[(7,false),(20,true)]] [hO zP (vS pB bl cB) csB,hO Raw2 (vS a1 al c1) s1,hB b2 [vS a0 y.Arrays c0,vS a1 al c1],hO zF (vS a0 y.Arrays c0) s0,hB b1 zTwo] [[hB aw (cRd y3 p6 c5)]] [(6,false),(21,true)] (zY [1,2,3,4,5,0]) ?_ ?_
 ·refine O4<|Ox ?_<|Ox ?_<|Ox ?_<|O4<|O3<|Ox ?_<|Ox ?_<|Ox ?_<|Ox ?_<|Ox ?_<|Ox ?_<|Ox ?_<|Ox ?_<|On
  ·intro I1 hf aa
   refine wG ?_
   rintro _ _ ⟨rfl,rfl⟩
   refine wG ?_
   rintro _ _ ⟨rfl,rfl⟩
   refine jF<|zDF [(78,vS a1 al c1),(80,vI (W ((al.length:Int) - 1)))]<|pF (α:=Raw2) 1 rfl rfl rfl (iM aa hRw) hraw ?_
   intro ad aN ap bJ ak
   exact yM [] iR ⟨_,rfl,rfl,ap⟩
  ·intro I1 hf aa
   refine wG ?_
   rintro _ _ ⟨ad,rfl,rfl,ap⟩
   exact jF<|zDF [(81,.pointer (some ad))]<|tD 6 [(82,.pointer (some (ad.add 1)))]<|yM [] iR ⟨_,rfl,rfl,ap⟩
  ·intro I1 hf aa
   refine wG ?_
   rintro _ _ ⟨ad,rfl,rfl,ap⟩
   refine jF<|zDF [(82,.pointer (some (ad.add 1)))] ?_
   have ak:=hRw.at (sV hraw).2.2
   obtain⟨⟨bJ,o1,o2⟩,_⟩:=ak
   exact zBt 1 1 ap bJ [vS pB bl cB] (vS pB bl cB) rfl rfl<|yR iR
  ·intro I1 hf aa
   refine wG ?_
   rintro _ _ ⟨rfl,rfl⟩
   refine wG ?_
   rintro _ _ ⟨rfl,rfl⟩
   refine jF<|zDF [(88,vS a1 al c1),(90,vI (W ((al.length:Int) - 1)))]<|pF (α:=Raw2) 1 rfl rfl rfl (iM aa hRw) hraw ?_
   intro ad aN ap bJ ak
   exact yM [] iR ⟨_,rfl,rfl,ap⟩
  ·intro I1 hf aa
   refine wG ?_
   rintro _ _ ⟨ad,rfl,rfl,ap⟩
   exact jF<|zDF [(91,.pointer (some ad))]<|tD 16 [(92,.pointer (some (ad.add 1)))]<|yM [] iR ⟨_,rfl,rfl,ap⟩
  ·intro I1 hf aa
   refine wG ?_
   rintro _ _ ⟨ad,rfl,rfl,ap⟩
   refine jF<|zDF [(92,.pointer (some (ad.add 1)))] ?_
   have ak:=hRw.at (sV hraw).2.2
   obtain⟨⟨bJ,o1,o2⟩,_⟩:=ak
   exact zBt 1 1 ap bJ [vS pB bl cB] (vS pB bl cB) rfl rfl<|yR iR
  ·intro I1 hf aa
   refine wG ?_
   rintro _ _ ⟨rfl,rfl⟩
   refine jF<|zDF [(93,vS pB bl cB)]<|pF (α:=zP) 0 rfl rfl rfl (iM aa hBd) hs ?_
   intro ad aN ap bJ ak
   exact yM [] iR ⟨_,rfl,rfl,ap⟩
  ·intro I1 hf aa
   refine wG ?_
   rintro _ _ ⟨ad,rfl,rfl,ap⟩
   refine jF<|zDF [(94,.pointer (some ad))] ?_
   obtain⟨ak,_⟩:=(iM aa hBd).at j2
   generalize bJ:(csB.drop (Int.toNat 0*Rp.sz zP)).take (Rp.sz zP)=cc at ak
   obtain⟨w0,w1,w2,w3,rfl,e10,e11,e12,e13⟩:=mN ak
   obtain⟨bb,bd,rfl⟩:=e10.form
   obtain⟨aR,bh,rfl⟩:=e11.form
   obtain⟨bz,bo,rfl⟩:=e12.form
   obtain⟨bj,bw,rfl⟩:=e13.form
   exact zBt 0 0 ap bJ (cStmt s bb bd aR bh bz bo bj bw) (vA (cStmt s bb bd aR bh bz bo bj bw)) rfl rfl<|yM [] iR ⟨_,rfl,rfl,vL ⟨_,_,_,_,rfl,e10,e11,e12,e13⟩⟩
  ·intro I1 hf aa
   refine wG ?_
   rintro _ _ ⟨rfl,rfl⟩
   refine wG ?_
   rintro _ _ ⟨cs9,rfl,rfl,h9⟩
   refine wG ?_
   rintro _ _ rfl
   obtain⟨w0,w1,w2,w3,rfl,e10,e11,e12,e13⟩:=mN h9
   obtain⟨bb,bd,rfl⟩:=e10.form
   obtain⟨aR,bh,rfl⟩:=e11.form
   obtain⟨bz,bo,rfl⟩:=e12.form
   obtain⟨bj,bw,rfl⟩:=e13.form
   refine jF<|zDF [(86,vP aw 0),(95,vA (cStmt s bb bd aR bh bz bo bj bw))]<|sG (zAc y3 s _ hm1 (h7.mono aa) e10 e11 e12 e13) rfl ?_
   rintro aP av v2 k2 aD - ⟨v0,kk2,rfl,rfl,⟨aM,rfl,h10⟩,h11⟩ -
   exact yM [hB aw kk2] aD ⟨_,_,rfl,rfl,h10,h11⟩
  ·intro I1 hf aa
   refine wG ?_
   rintro _ _ ⟨rfl,rfl⟩
   refine wG ?_
   rintro _ _ ⟨cs9,kk,rfl,rfl,h9,hk⟩
   obtain⟨w0,w1,w2,w3,rfl,e10,e11,e12,e13⟩:=mN h9
   obtain⟨bb,bd,rfl⟩:=e10.form
   obtain⟨aR,bh,rfl⟩:=e11.form
   obtain⟨bz,bo,rfl⟩:=e12.form
   obtain⟨bj,bw,rfl⟩:=e13.form
   obtain⟨w4,rfl,hsl⟩:=zAT hk
   obtain⟨p8,c8,rfl⟩:=hsl.form
   refine jF<|zDF [(85,vP aw 0),(96,vA (cStmt y22 bb bd aR bh bz bo bj bw))]<|sG (zAc y23 y22 _ hm2 (hsl) e10 e11 e12 e13) rfl ?_
   rintro aP av v2 k2 aD - ⟨v0,kk2,rfl,rfl,⟨aM,rfl,h10⟩,h11⟩ -
   exact yM [hB aw kk2] aD ⟨_,_,rfl,rfl,h10,h11⟩
  intro I1 hf aa
  refine wG ?_
  rintro _ _ ⟨rfl,rfl⟩
  refine wG ?_
  rintro _ _ ⟨cs9,kk,rfl,rfl,h9,hk⟩
  obtain⟨w0,w1,w2,w3,rfl,e10,e11,e12,e13⟩:=mN h9
  obtain⟨bb,bd,rfl⟩:=e10.form
  obtain⟨aR,bh,rfl⟩:=e11.form
  obtain⟨bz,bo,rfl⟩:=e12.form
  obtain⟨bj,bw,rfl⟩:=e13.form
  obtain⟨w4,rfl,hsl⟩:=zAT hk
  obtain⟨p8,c8,rfl⟩:=hsl.form
  refine jF<|zDF [(84,vP aw 0),(97,vA (cStmt y24 bb bd aR bh bz bo bj bw))]<|sG (zAc y25 y24 _ hm3 (hsl) e10 e11 e12 e13) rfl ?_
  rintro aP av v2 k2 aD - ⟨v0,kk2,rfl,rfl,⟨aM,rfl,h10⟩,h11⟩ -
  exact yM [hB aw kk2] aD ⟨_,_,rfl,rfl,h10,h11⟩
 intro I5 bu
 refine wG ?_
 rintro _ _ ⟨rfl,rfl⟩
 refine wG ?_
 rintro _ _ ⟨cs9,kk,rfl,rfl,h9,hk⟩
 obtain⟨w0,w1,w2,w3,rfl,e10,e11,e12,e13⟩:=mN h9
 obtain⟨bb,bd,rfl⟩:=e10.form
 obtain⟨aR,bh,rfl⟩:=e11.form
 obtain⟨bz,bo,rfl⟩:=e12.form
 obtain⟨bj,bw,rfl⟩:=e13.form
 have h3:=iM bu h3
 have hRw:=iM bu hRw
 have hN:=hN.mono bu
 have hBd:=iM bu hBd
 have hset:=hset.mono bu
 refine jF<|zDF [(4,vP b1 0),(5,vP b2 0),(83,vS pB bl cB),(98,vA (cStmt y26 bb bd aR bh bz bo bj bw))]<|pF (α:=zP) 1 rfl rfl rfl hBd hs ?_
 intro ad aN ap bJ ak
 obtain⟨w0,w1,w2,w3,rfl,e20,e21,e22,e23⟩:=mN ak
 obtain⟨p20,c20,rfl⟩:=e20.form
 obtain⟨p21,c21,rfl⟩:=e21.form
 obtain⟨p22,c22,rfl⟩:=e22.form
 obtain⟨p23,c23,rfl⟩:=e23.form
 refine fP (c:=(cStmt y26 bb bd aR bh bz bo bj bw)) (x':=y26) 1 0 rfl rfl rfl ap rfl rfl bJ (by kernel_rfl) (by kernel_rfl) (by kernel_rfl) hBd hs (by kernel_rfl) (vL ⟨_,_,_,_,rfl,e10,e11,e12,e13⟩) ?_
 intro cs7 h7' aJ
 refine uD (ag:=[hB aw kk,hO zP (vS pB bl cB) cs7,hO Raw2 (vS a1 al c1) s1,hB b2 [vS a0 y.Arrays c0,vS a1 al c1],hO zF (vS a0 y.Arrays c0) s0,hB b1 zTwo]) rfl<|xM 1 rfl ?_
 intro I6 bG hl6
 have eB:vS pB bl cB=vS pB (bl.set 0 y26) cB:=by simp[vS]
 have kB:SL I6 (vS pB (bl.set 0 y26) cB) (bl.set 0 y26):=by
  rw[<- eB]
  exact SL.of_frozen (l:=bl.set 0 y26) hl6 bG h7'
 rw[eB] at hset
 have hdone:=(hset.mono bG).done (hN.mono bG) kB
 have eS:=gX hRw
 rw[<- eS] at hdone
 have h3:=iM bG h3
 have hk:=Rp.mono bG hk
 have eP:vS a1 al c1=vS a1 (y.Parts.set (W ((al.length:Int) - 1)).toNat ⟨nl,bl.set 0 y26⟩) c1:=by simp only[vS,cJ,hLP.2.1]
 refine uD (ag:=[hB aw kk,hO Raw2 (vS a1 al c1) s1,hB b2 [vS a0 y.Arrays c0,vS a1 al c1],hO zF (vS a0 y.Arrays c0) s0,hB b1 zTwo]) rfl<|yA rfl<|zL<|yW<|sW 1 [2] [(110,vA [vS a0 y.Arrays c0,vS a1 al c1])]<|xI 4 [vS a0 y.Arrays c0,vS a1 al c1] rfl<|yA rfl<|xD<|yZ 1 rfl ?_
 intro I7 le7 hl7
 have k1:SL I7 (vS a1 al c1) (y.Parts.set (W ((al.length:Int) - 1)).toNat ⟨nl,bl.set 0 y26⟩):=SL.of_frozen (l:=y.Parts.set (W ((al.length:Int) - 1)).toNat ⟨nl,bl.set 0 y26⟩) hl7 le7 hdone
 refine yZ 2 rfl ?_
 intro I8 le8 hl8
 have k2:=SL.of_frozen hl8 le8 (iM le7 h3)
 rw[hLP.len]
 exact zJ3 (resC 2 rfl rfl) (zX [0] rfl (by decide)) ⟨_,_,rfl,rfl,⟨_,rfl,(wN ⟨_,_,rfl,k2,k1.mono le8⟩)⟩,Rp.mono le8 (Rp.mono le7 hk)⟩
theorem zCU:∀r0 p1 r,pA r0 p1=some r->∀{I:Imm}{aw}{p c p2 c1 p3 c2},(S4 I p r0.b c)->(S4 I p2 p1.Arrays c1)->(S4 I p3 p1.Parts c2)->RT 40 [vP aw 0,vA (cProg p1 p2 c1 p3 c2)] I [hB aw (cRd r0 p c)] (zAV aw r):=by
 intro r0 p1 r N I aw p c p2 c1 p3 c2 h h1 h2;by_cases hq:∃y y3 x s,pY p1=some y/\xC r0 60=some (3,y3)/\idx y.Parts (W ((y.Parts.length:Int) - 1))=some x/\idx x.Body 0=some s
 ·obtain⟨y,y3,x,s,e1,e2,e3,e4⟩:=hq;exact zFj r0 p1 r N e1 e2 e3 e4 h h1 h2
 refine zFh r0 p1 r N h h1 h2 ?_;intro y y2 y3 x s e1 e2 e3 e4 e5;obtain rfl:=eq_of_beq e3;exact hq ⟨y,y3,x,s,e1,e2,e4,e5⟩
def zAd(r:(List Str)):KT:=λkk I' ag v=>
 ∃v0,ag=[]/\v=tupV [v0]/\SL I' v0 r
def nN(s:Str)(c:UInt8)(out:List Str)(from0:Int)(i:Int):Option (List Str):=do
 if(decide (i<=(s.l.length:Int))) then
  let t25<-(do
   if(i==(s.l.length:Int)) then pure true
   else
    let b1<-sidx s i;pure ((b1.toNat:Int)==(c.toNat:Int))
     : Option Bool)
  let (aq,from01)<-(do
   if t25 then
    let s1<-sslc s from0 i;let aL<-app 16 out ([s1]:List Str);pure (aL,(W (i+1)))
   else
    pure (out,from0)
     : Option (List Str×Int))
  nN s c aq from01 (W (i+1))
 else pure (id out)
 partial_fixpoint
theorem zFk(s:Str)(c:UInt8):∀(out:List Str) (from0:Int) (i:Int) (o:List Str),nN s c out from0 i=some o->∀{B}{I0 I:Imm}{Q p c1 cs},I0.le I->(RL I cs out)->NG Q->NO Q->(∀I' aj p1 c2 az,o=aj->I0.le I'->(RL I' az aj)->T 36 B Q (.exit 0) I' [hO Str (vS p1 aj c2) az] [(5,vS p1 aj c2)])->J Tryz.prog 36 B (nav (bodyOf f135) [1,1,1,0,1,0]) Q I [hO Str (vS p out c1) cs] [(0,vT s.l),(1,.int .u8 (c.toNat:Int)),(5,vS p out c1),(6,vI from0),(7,vI i)]:=by
 refine nN.partial_correctness s c _ λaI ih out from0 i o N B I0 I Q p c1 cs H h1 hg ho hx=>yV hg ho<|yB<|yH [12] rfl<|zG<|yE N ?_ ?_
 ·intro hc N;refine zT<|zZ<|yI<|yB ?_;refine wK N [hO Str (vS p out c1) cs] (λt25=>[(0,vT s.l),(1,.int .u8 (c.toNat:Int)),(5,vS p out c1),(6,vI from0),(7,vI i),(25,.bool t25)]) (λo0 aA=>?_) ?_
  ·have H:=iS I;refine zJ<|yG 5 [] [19] rfl<|xZ [19] aA ?_ ?_
   ·intro aE N;exact wB [] [(25,vY)]<|yS<|zV (ct N H)
   intro aE N;exact yG 7 [] [20,21] rfl<|bE N λb1 hy N=>zB9 rfl rfl hy<|yK [] [25] rfl<|yS<|zV (ct N H)
  intro t25 I0 le aQ;have ⟨h1,H⟩:=m2 le h1 H;refine zG ?_;obtain⟨aO,aB,hMc1⟩:=zB aQ;refine qQ (λI' ag m'=>∃(aq:List Str) (from01:Int) (p2:Option Addr) (c3:Nat) (aM:List Value),aO=(aq,from01)/\I0.le I'/\(RL I' aM aq)/\ag=[hO Str (vS p2 aq c3) aM]/\m'=[(0,vT s.l),(1,.int .u8 (c.toNat:Int)),(5,vS p2 aq c3),(6,vI from01),(7,vI i)]) ?_ ?_
  ·have H:=iS I0;refine yE aB ?_ ?_
   ·intro aV N;refine yF<|yG 4 [] [26,27,28,29] rfl<|bE N λs1 ay N=>zJ2 rfl ay<|uP [vT s1.l] Str ?_;intro b2 hb1;have h4:RL I0 [vT s1.l] ([s1]:List Str):=rT [s1];obtain⟨aL,aF,N⟩:=zB N;exact qA 9 1 1 rfl rfl rfl h1 (.inr ⟨0,rfl⟩) h4 aF λp3 c4 aU h5=>tX (zY [1] (ag:=[hO Str (vS p3 aL c4) aU]))<|yK [] [5] rfl<|zG<|zJ<|yK [] [6] rfl<|yS<|zV ⟨_,_,_,_,_,(zD N).symm,H,h5,rfl,rfl⟩
   intro aV N;exact zT<|yS<|zV ⟨_,_,_,_,_,(zD N).symm,H,h1,rfl,rfl⟩
  rintro aT av m2 ⟨aq,from01,p2,c3,aM,heq1,aa,h3,rfl,rfl⟩;subst aO;have H:=H.trans aa;exact zL<|zG<|zJ<|yK [] [7] rfl<|yU<|nD<|ih aq from01 (W (i+1)) _ hMc1 H h3 hg ho hx
 intro hc N;exact wM<|yS<|hx _ _ _ _ _ (zD N).symm H h1
def gJ(s:Str)(c:UInt8):Option ((List Str)):=do
 let aj<-nN s c ([]:List Str) 0 0;pure (id aj)
theorem zBW:∀s c r,gJ s c=some r->∀{I:Imm} ,RT 135 [vT s.l,.int .u8 (c.toNat:Int)] I [] (zAd  r):=by
 intro s c r N I;unfold gJ at N;refine yL func135 λB=>wL []<|yW<|uP [] Str ?_;intro b hb;have h:RL I [] ([]:List Str):=rfl;refine yK [] [5] rfl<|wV [6] rfl<|zZ<|yH [7] rfl<|xY<|pE [(0,vT s.l),(1,.int .u8 (c.toNat:Int)),(5,vS (some ⟨b,0,none⟩) ([]:List Str) 0),(6,vI 0),(7,vI 0)] ?_;obtain⟨o02,ho02,aG⟩:=zB N;refine zFk s c ([]:List Str) 0 0 o02 ho02 iR h nG nO ?_;intro aP aj p1 c2 az heq2 aD h2;subst o02;refine zS<|wV [4] rfl<|xD<|yZ 0 rfl ?_;intro bx aH hl0;have h6:=SL.of_frozen hl0 aH h2;exact xU aG (resT rfl) zM ⟨_,rfl,rfl,h6⟩
def oG(s:Str)(end0:UInt8)(i:Int):Option (Out Unit (Int)):=do
 if(decide (i<(s.l.length:Int))) then
  let b<-sidx s i;if((b.toNat:Int)==(end0.toNat:Int)) then pure (.ret i)
  else oG s end0 (W (i+1))
 else pure (.done ())
 partial_fixpoint
theorem zEx(s:Str)(end0:UInt8):∀(i:Int) (o:Out Unit (Int)),oG s end0 i=some o->∀{B}{I0 I:Imm}{Q}  ,I0.le I->NG Q->NO Q->(∀I',o=(.done ())->I0.le I'->T 21 B Q (.exit 0) I' [] [])->(∀r I' ag m',o=(.ret r)->I0.le I'->RS Tryz.prog f179 B (yJ  r) I' ag m'->T 21 B Q .ret I' ag m')->J Tryz.prog 21 B (nav (bodyOf f179) [1,0,1,0]) Q I [] [(0,vT s.l),(2,.int .u8 (end0.toNat:Int)),(7,vI i)]:=by
 refine oG.partial_correctness s end0 _ λaI ih i o N B I0 I Q H hg ho hx hr=>yV hg ho<|yB<|yH [12] rfl<|zG<|yE N ?_ ?_
 ·intro hc N;refine zT<|zZ<|yI<|yF<|yG 2 [] [15,16] rfl<|bE N λb hy N=>zB9 rfl rfl hy<|yK [] [19] rfl<|zG<|yE N ?_ ?_
  ·intro aE N;exact yH [6] rfl<|xD<|zW<|zH<|zH<|hr _ _ _ _ (zD N).symm H ⟨_,_,(resT rfl),zM,⟨_,rfl,rfl,rfl⟩⟩
  intro aE N;exact zT<|zL<|zG<|zJ<|yK [] [7] rfl<|yU<|nD<|ih (W (i+1)) _ N H  hg ho hx hr
 intro hc N;exact wM<|yS<|hx _  (zD N).symm H
def fH(s:Str)(at0:Int)(end0:UInt8):Option (Int):=do
 match<-oG s end0 at0 with
 | .ret r0=>pure r0
 | .done _=>
  pure (-1)
theorem zDB:∀s at0 end0 r,fH s at0 end0=some r->∀{I:Imm} ,RT 179 [vT s.l,vI at0,.int .u8 (end0.toNat:Int)] I [] (yJ  r):=by
 intro s at0 end0 r N I;unfold fH at N;refine yL func179 λB=>wL []<|zZ<|yH [7] rfl<|xY<|pE [(0,vT s.l),(2,.int .u8 (end0.toNat:Int)),(7,vI at0)] ?_;obtain⟨o0,aA,aG⟩:=zB N;refine zEx s end0 at0 o0 aA iR  nG nO ?_ ?_
 ·intro I0  heq le;subst o0;refine zS<|wV [6] rfl<|zG<|yX ?_;obtain rfl:=zD aG;exact wC
 intro r0 I9 hs9 m9 aW le9 aY;subst aW;refine zW<|zH ?_;obtain rfl:=zD aG;exact fO aY
def fI(r:Int×Bool):KT:=λkk I' ag v=>
 ∃v0 v1,ag=[]/\v=tupV [v0,v1]/\v0=.int .i64 r.1/\v1=.bool r.2
def nP(s1:Str)(n0:Int)(i:Int):Option (Out Int (Int×Bool)):=do
 if(decide (i<(s1.l.length:Int))) then
  let t54<-(do
   let b2<-sidx s1 i;if(decide ((b2.toNat:Int)<48)) then pure true
   else
    let b3<-sidx s1 i;pure (decide ((b3.toNat:Int)>57))
     : Option Bool)
  if t54 then pure (.ret (0,false))
  else
   let b4<-sidx s1 i;nP s1 (W ((W (n0*10))+(W (IntKind.u8.wrap ((b4.toNat:Int) - 48))))) (W (i+1))
 else pure (.done n0)
 partial_fixpoint
theorem zFl(s1:Str):∀(n0:Int) (i:Int) (o:Out Int (Int×Bool)),nP s1 n0 i=some o->∀{B}{I0 I:Imm}{Q}{neg:Bool} ,I0.le I->NG Q->NO Q->(∀I' n01,o=(.done n01)->I0.le I'->T 67 B Q (.exit 0) I' [] [(4,.bool neg),(5,vI n01)])->(∀r I' ag m',o=(.ret r)->I0.le I'->RS Tryz.prog f191 B (fI  r) I' ag m'->T 67 B Q .ret I' ag m')->J Tryz.prog 67 B (nav (bodyOf f191) [1,1,1,1,1,0,1,0]) Q I [] [(0,vT s1.l),(4,.bool neg),(5,vI n0),(6,vI i)]:=by
 refine nP.partial_correctness s1 _ λaI ih n0 i o N B I0 I Q neg H hg ho hx hr=>yV hg ho<|yB<|yH [42] rfl<|zG<|yE N ?_ ?_
 ·intro hc7 N;refine zT<|zZ<|yI<|yB<|yB ?_;refine wK N [] (λt54=>[(0,vT s1.l),(4,.bool neg),(5,vI n0),(6,vI i),(54,.bool t54)]) (λo03 ho03=>?_) ?_
  ·have H:=iS I;refine zJ<|yG 2 [] [45,46] rfl ?_;obtain⟨b2,aX,N⟩:=zB ho03;refine zB9 rfl rfl aX<|yG 5 [] [49] rfl<|xZ [49] N ?_ ?_
   ·intro hc8 N;exact wB [] [(54,vY)]<|yS<|zV (ct N H)
   intro hc8 N;exact yG 7 [] [50,51] rfl<|bE N λb3 bk N=>zB9 rfl rfl bk<|yK [] [54] rfl<|yS<|zV (ct N H)
  intro t54 bx aH hMc3;have H:=H.trans aH;refine zG<|yE hMc3 ?_ ?_
  ·intro hc9 N;exact yH [2,3] rfl<|xD<|zH<|zW<|zH<|zH<|hr _ _ _ _ (zD N).symm H ⟨_,_,(resU rfl rfl),zM,⟨_,_,rfl,rfl,rfl,rfl⟩⟩
  intro hc9 N;exact zT<|zG<|zJ<|yG 4 [] [56,57,58] rfl<|bE N λb4 bC N=>zB9 rfl rfl bC<|yK [] [5] rfl<|zL<|zG<|zJ<|yK [] [6] rfl<|yU<|nD<|ih (W ((W (n0*10))+(W (IntKind.u8.wrap ((b4.toNat:Int) - 48))))) (W (i+1)) _ N H  hg ho hx hr
 intro hc7 N;exact wM<|yS<|hx _ _ (zD N).symm H
def eG(s:Str):Option (Int×Bool):=do
 let neg<-(do
  if(decide ((s.l.length:Int)>0)) then
   let b<-sidx s 0;pure ((b.toNat:Int)==45)
  else
   pure false
    : Option Bool)
 let s1<-(do
  if neg then
   let s2<-sslc s 1 (s.l.length:Int);pure (id s2)
  else
   pure (id s)
    : Option Str)
 let t38<-(do
  if((s1.l.length:Int)==0) then pure true
  else
   if(decide ((s1.l.length:Int)>17)) then pure true
   else
    let b1<-sidx s1 0;if((b1.toNat:Int)==48) then
     if(decide ((s1.l.length:Int)>1)) then pure true
     else pure (id neg)
    else pure false
    : Option Bool)
 if t38 then pure (0,false)
 else
  match<-nP s1 0 0 with
  | .ret r0=>pure r0
  | .done n01=>
   let n02<-(do
    if neg then pure (W (0 - n01))
    else
     pure (id n01)
      : Option Int)
   pure (n02,true)
theorem zDc:∀s r,eG s=some r->∀{I:Imm} ,RT 191 [vT s.l] I [] (fI  r):=by
 intro s r N I;unfold eG at N;refine yL func191 λB=>?_;have H:=iS I;refine wL []<|zG<|yB ?_;refine wK N [] (λneg=>[(0,vT s.l),(4,.bool neg)]) (λo0 aA=>?_) ?_
 ·have H:=iS I;refine zJ<|yG 4 [] [10] rfl<|xZ [10] aA ?_ ?_
  ·intro hc N;exact yG 5 [] [11] rfl<|bE N λb hy N=>zB9 rfl rfl hy<|yK [] [4] rfl<|yS<|zV (ct N H)
  intro hc N;exact wB [] [(4,vF)]<|yS<|zV (ct N H)
 intro neg I0 le aQ;have H:=H.trans le;refine zZ<|yH [15] rfl<|zG ?_;refine wK aQ [] (λs1=>[(0,vT s1.l),(4,.bool neg)]) (λaO aB=>?_) ?_
 ·have H:=iS I0;refine yE aB ?_ ?_
  ·intro aE N;exact zJ<|yG 1 [] [16] rfl<|bE N λs2 ay N=>zJ2 rfl ay<|yK [] [0] rfl<|yS<|zV (ct N H)
  intro aE N;exact zT<|yS<|zV (ct N H)
 intro s1 aT aa hMc1;have H:=H.trans aa;refine zZ<|yB ?_;refine wK hMc1 [] (λt38=>[(0,vT s1.l),(4,.bool neg),(38,.bool t38)]) (λo02 ho02=>?_) ?_
 ·have H:=iS aT;refine zJ<|yG 4 [] [21] rfl<|xZ [21] ho02 ?_ ?_
  ·intro aV N;exact wB [] [(38,vY)]<|yS<|zV (ct N H)
  intro aV N;refine yG 9 [] [26] rfl<|xZ [26] N ?_ ?_
  ·intro bD N;exact wB [] [(38,vY)]<|yS<|zV (ct N H)
  intro bD N;refine yG 10 [] [27] rfl<|bE N λb1 aF N=>zB9 rfl rfl aF<|yG 13 [] [30] rfl<|xZ [30] N ?_ ?_
  ·intro bM N;refine yG 17 [] [34] rfl<|xZ [34] N ?_ ?_
   ·intro hc5 N;exact wB [] [(38,vY)]<|yS<|zV (ct N H)
   intro hc5 N;exact yK [] [38] rfl<|yS<|zV (ct N H)
  intro bM N;exact wB [] [(38,vF)]<|yS<|zV (ct N H)
 intro t38 aP aD hMc2;have H:=H.trans aD;refine zG<|yE hMc2 ?_ ?_
 ·intro hc6 N;refine yH [2,3] rfl<|xD<|zH ?_;exact xU N (resU rfl rfl) zM ⟨_,_,rfl,rfl,rfl,rfl⟩
 intro hc6 N;refine zT<|wV [5] rfl<|zZ<|yH [6] rfl<|xY<|pE [(0,vT s1.l),(4,.bool neg),(5,vI 0),(6,vI 0)] ?_;obtain⟨o04,ho04,aG⟩:=zB N;refine zFl s1 0 0 o04 ho04 iR  nG nO ?_ ?_
 ·intro bI n01 heq4 bf;subst o04;have H:=H.trans bf;refine zS<|zZ<|yH [63] rfl<|zG ?_;refine wK aG [] (λn02=>[(5,vI n02)]) (λo05 ho05=>?_) ?_
  ·have H:=iS bI;refine yE ho05 ?_ ?_
   ·intro hc10 N;exact zJ<|yK [] [5] rfl<|yS<|zV (ct N H)
   intro hc10 N;exact zT<|yS<|zV (ct N H)
  intro n02 bL bu hMc4;refine wV [2,3] rfl<|zG<|yX ?_;exact xU hMc4 (resU rfl rfl) zM ⟨_,_,rfl,rfl,rfl,rfl⟩
 intro r0 I9 hs9 m9 aW le9 aY;subst aW;refine zW<|zH ?_;obtain rfl:=zD aG;exact fO aY
def pM(s:Str)(at0:Int)(end0:Int):Option (Int):=do
 let t31<-(do
  if(decide (end0<(s.l.length:Int))) then
   if(decide (end0<(W (at0+2)))) then
    let b<-sidx s end0;if(decide ((b.toNat:Int)>=48)) then
     let b1<-sidx s end0;pure (decide ((b1.toNat:Int)<=57))
    else pure false
   else pure false
  else
   pure false
    : Option Bool)
 if t31 then pM s at0 (W (end0+1))
 else pure (id end0)
 partial_fixpoint
theorem zEV(s:Str)(at0:Int):∀(end0:Int) (o:Int),pM s at0 end0=some o->∀{B}{I0 I:Imm}{Q}  ,I0.le I->NG Q->NO Q->(∀I' end01,o=end01->I0.le I'->T 47 B Q (.exit 0) I' [] [(0,vT s.l),(1,vI at0),(6,vI end01)])->J Tryz.prog 47 B (nav (bodyOf f183) [1,1,0,0]) Q I [] [(0,vT s.l),(1,vI at0),(6,vI end0)]:=by
 refine pM.partial_correctness s at0 _ λaI ih end0 o N B I0 I Q H hg ho hx=>yV hg ho<|yB<|yB ?_;refine wK N [] (λt31=>[(0,vT s.l),(1,vI at0),(6,vI end0),(31,.bool t31)]) (λo0 aA=>?_) ?_
 ·have H:=iS I;refine zJ<|yG 5 [] [14] rfl<|xZ [14] aA ?_ ?_
  ·intro hc N;refine yG 11 [] [20] rfl<|xZ [20] N ?_ ?_
   ·intro aE N;refine yG 13 [] [21,22] rfl<|bE N λb hy N=>zB9 rfl rfl hy<|yG 17 [] [26] rfl<|xZ [26] N ?_ ?_
    ·intro aV N;exact yG 19 [] [27,28] rfl<|bE N λb1 ay N=>zB9 rfl rfl ay<|yK [] [31] rfl<|yS<|zV (ct N H)
    intro aV N;exact wB [] [(31,vF)]<|yS<|zV (ct N H)
   intro aE N;exact wB [] [(31,vF)]<|yS<|zV (ct N H)
  intro hc N;exact wB [] [(31,vF)]<|yS<|zV (ct N H)
 intro t31 I0 le aQ;have H:=H.trans le;refine zG<|yE aQ ?_ ?_
 ·intro bD N;exact zT<|xY<|zJ<|yK [] [6] rfl<|zL<|yU<|nD<|ih (W (end0+1)) _ N H  hg ho hx
 intro bD N;exact wM<|yS<|hx _ _ (zD N).symm H
def jO(s:Str)(at0:Int):Option (Int×Int):=do
 let end01<-pM s at0 at0;let s1<-sslc s at0 end01;let (y1,y2)<-eG s1;if(!y2) then pure (1,at0)
 else pure (y1,end01)
theorem zCV:∀s at0 r,jO s at0=some r->∀{I:Imm} ,RT 183 [vT s.l,vI at0] I [] (zAB  r):=by
 intro s at0 r N I;unfold jO at N;refine yL func183 λB=>wL []<|wV [6] rfl<|zZ<|yI<|pE [(0,vT s.l),(1,vI at0),(6,vI at0)] ?_;obtain⟨aO,aB,aG⟩:=zB N;refine zEV s at0 at0 aO aB iR  nG nO ?_;intro aT end01 heq1 aa;subst aO;refine zS<|yW<|yG 3 [] [35,36,37] rfl ?_;obtain⟨s1,aF,N⟩:=zB aG;refine zJ2 rfl aF ?_;obtain⟨⟨y1,y2⟩,aX,N⟩:=zB N;refine xF (zDc s1 _ aX ) ?_;rintro aP av v2 k2 aD - ⟨v0,v01,rfl,rfl,rfl,rfl⟩ -;refine yK [] [7,8] rfl<|zZ<|yH [43] rfl<|zG<|yE N ?_ ?_
 ·intro bM N;refine yH [4,5] rfl<|xD<|zH ?_;exact xU N (resU rfl rfl) zM ⟨_,_,rfl,rfl,rfl,rfl⟩
 intro bM N;refine zT<|wV [4,5] rfl<|zG<|yX ?_;exact xU N (resU rfl rfl) zM ⟨_,_,rfl,rfl,rfl,rfl⟩
def zAG(s:Str)(at0:Int):Option (Int):=do
 let t20<-(do
  if(decide (at0>=(s.l.length:Int))) then pure true
  else
   let b<-sidx s at0;if(decide ((b.toNat:Int)<105)) then pure true
   else
    let b1<-sidx s at0;pure (decide ((b1.toNat:Int)>108))
    : Option Bool)
 if t20 then pure (-1)
 else
  let b2<-sidx s at0;pure (W ((W (b2.toNat:Int)) - 105))
theorem zI9:∀s at0 r,zAG s at0=some r->∀{I:Imm} ,RT 205 [vT s.l,vI at0] I [] (yJ  r):=by
 intro s at0 r N I;unfold zAG at N;refine yL func205 λB=>?_;have H:=iS I;refine wL []<|zZ<|yB ?_;refine wK N [] (λt20=>[(0,vT s.l),(1,vI at0),(20,.bool t20)]) (λo0 aA=>?_) ?_
 ·have H:=iS I;refine zJ<|yG 5 [] [9] rfl<|xZ [9] aA ?_ ?_
  ·intro hc N;exact wB [] [(20,vY)]<|yS<|zV (ct N H)
  intro hc N;refine yG 7 [] [10,11] rfl<|bE N λb hy N=>zB9 rfl rfl hy<|yG 11 [] [15] rfl<|xZ [15] N ?_ ?_
  ·intro aE N;exact wB [] [(20,vY)]<|yS<|zV (ct N H)
  intro aE N;exact yG 13 [] [16,17] rfl<|bE N λb1 ay N=>zB9 rfl rfl ay<|yK [] [20] rfl<|yS<|zV (ct N H)
 intro t20 I0 le aQ;refine zG<|yE aQ ?_ ?_
 ·intro aV N;refine yH [4] rfl<|xD<|zH ?_;obtain rfl:=zD N;exact wC
 intro aV N;refine zT<|yW<|yG 2 [] [21,22] rfl<|bE N λb2 aF N=>zB9 rfl rfl aF<|yK [] [4] rfl<|zG<|yX ?_;obtain rfl:=zD N;exact wC
end Go.LN
