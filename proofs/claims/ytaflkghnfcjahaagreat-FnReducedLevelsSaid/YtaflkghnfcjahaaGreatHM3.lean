/- Helper of the proof (see the last text). -/
import Derived.Test.YtaflkghnfcjahaaGreatHM2
set_option linter.unusedVariables false
set_option linter.unusedSimpArgs false
namespace Go.LN
open Go.Proofs
set_option maxRecDepth 20000
def zEn (r:zE):KT:=fun kk I' hs' v=>
  ∃ a0_0 c0_0 s0_0 a0_1 c0_1 s0_1,hs'=[.osl (.slice a0_0 r.Arrays.length c0_0) (Rp.sz zF) s0_0,.osl (.slice a0_1 r.Parts.length c0_1) (Rp.sz zM) s0_1]∧v=tupV [(.agg ⟨[.slice a0_0 r.Arrays.length c0_0,.slice a0_1 r.Parts.length c0_1]⟩)]∧RepL (Rp.rep I') (Rp.sz zF) s0_0 r.Arrays∧RepL (Rp.rep I') (Rp.sz zM) s0_1 r.Parts
def sT (p:zE) (i:Int) (Arrays:List zF):Option (List zF):=do
 if (decide (i < (p.Arrays.length:Int))) then
  let x←idx p.Arrays i
  let x1←idx p.Arrays i
  let l←app 8 ([]:List Int) x1.Dims
  let l1←app 40 Arrays ([(zF.mk x.Name l)]:List zF)
  sT p (W (i + 1)) l1
 else
  pure (id Arrays)
 partial_fixpoint
theorem zA1 (p:zE):∀ (i:Int) (Arrays:List zF) (o:List zF),sT p i Arrays=some o→∀ {B}{I0 I:Imm}{Q p1 c p2 c1}{b:Nat}{b1:Nat}{b2:Nat}{p3 c2 cs},I0.le I→(S4 I p1 p.Arrays c)→(S4 I p2 p.Parts c1)→(RL I cs Arrays)→NG Q→NO Q→(∀ (I':Imm) (Arrays1:List zF) (p4:Option Addr) (c3:Nat) (cs1:List Value),o=Arrays1→I0.le I'→(RL I' cs1 Arrays1)→T 84 B Q (.exit 0) I' [hO zF (vS p4 Arrays1 c3) cs1,hB b2 [vS p4 Arrays1 c3,z0],hB b1 zTwo,hB b (cProg p p1 c p2 c1)] [(1,vP b 0),(2,vP b1 0),(3,vP b2 0)])→J Tryz.prog 84 B (nav (bodyOf Tryz.f94) [1,1,0,1,0]) Q I [hO zF (vS p3 Arrays c2) cs,hB b2 [vS p3 Arrays c2,z0],hB b1 zTwo,hB b (cProg p p1 c p2 c1)] [(1,vP b 0),(2,vP b1 0),(3,vP b2 0),(4,vI i)]:=by
 refine sT.partial_correctness p _ fun self ih i Arrays o N B I0 I Q p1 c p2 c1 b b1 b2 p3 c2 cs H h h1 h3 hg ho hx=>yT hg ho<|yC<|yF<|yJ [3] [13] rfl<|zI<|yE N ?_ ?_
 · intro hc N;refine zS<|zZ<|yH ?_;obtain ⟨x,hy,N⟩:=zB N;obtain ⟨x1,hy1,N⟩:=zB N;obtain ⟨l,hy2,N⟩:=zB N;obtain ⟨l1,hy3,N⟩:=zB N;refine wA [.p (vP b2 0) [],.p (vS p3 Arrays c2) [0],.p (vP b 0) [],.p (vS p1 p.Arrays c) [2],.p (vI i) [],.x (ePArr x),.x (ePArr x),.q (vT x.Name.l),.x (fun I' v hx=>∃ b3,v=vS (some ⟨b3,0,none⟩) ([]:List Int) 0∧hx=[hO Int (vS (some ⟨b3,0,none⟩) ([]:List Int) 0) []]∧(RL I' [] ([]:List Int))),.p (vP b 0) [],.p (vS p1 p.Arrays c) [2],.p (vI i) [],.x (ePArr x1),.x (eQArr 1 x1),.x (eS x1.Dims),.x (fun I' v hx=>∃ p7 c6 cs2,v=vS p7 l c6∧hx=[hO Int (vS p7 l c6) cs2]∧(RL I' cs2 l)),.x (fun I' v hx=>∃ p71 c61 cs21,v=vA [vT x.Name.l,vS p71 l c61]∧hx=[hO Int (vS p71 l c61) cs21]∧(RL I' cs21 l)),.x (fun I' v hx=>∃ b4,v=vS (some ⟨b4,0,none⟩) ([(zF.mk x.Name l)]:List zF) 1∧hx=[]∧(SL I' (vS (some ⟨b4,0,none⟩) ([(zF.mk x.Name l)]:List zF) 1) ([(zF.mk x.Name l)]:List zF))),.x (fun I' v hx=>∃ p8 c7 cs3,v=vS p8 l1 c7∧hx=[hO zF (vS p8 l1 c7) cs3]∧(RL I' cs3 l1))] [[],[(0,false)],[],[(2,false)],[],[(3,false),(4,false)],[(5,false)],[(6,false)],[],[],[(9,false)],[],[(10,false),(11,false)],[(12,false)],[(13,false)],[(8,true),(14,false)],[(7,false),(15,true)],[(16,true)],[(1,false),(17,false),(21,true)]] [hB b2 [vS p3 Arrays c2,z0],hB b1 zTwo,hB b (cProg p p1 c p2 c1)] [[hO zF (vS p3 Arrays c2) cs]] [(18,true)] (zY [1,2,3,0]) ?_ ?_
   · refine Op<|Op<|Op<|Op<|Op<|Ox ?_<|Ox ?_<|Oq ?_<|Ox ?_<|Op<|Op<|Op<|Ox ?_<|Ox ?_<|Ox ?_<|Ox ?_<|Ox ?_<|Ox ?_<|Ox ?_<|On
     · intro I1 hf le1;refine yN [19,20] rfl ?_;have h:=h.mono le1;refine xJ rfl rfl h hy ?_;intro ad ccs hat hrep;obtain ⟨p5,c4,rfl,h5⟩:=wJ hrep;exact yI [] iR ⟨_,_,_,rfl,rfl,hat,h5⟩
     · rintro I1 hf le1 _ _ ⟨ad,p5,c4,rfl,rfl,hat,h5⟩;exact yN [21] rfl<|tM 7 [(22,.pointer (some ad))]<|yI [] iR ⟨_,_,_,rfl,rfl,hat,h5⟩
     · rintro I1 hf le1 _ _ ⟨ad1,p51,c41,rfl,rfl,hat1,h51⟩;exact yN [22] rfl<|yX 0 hat1 [vT x.Name.l] (vT x.Name.l) rfl<|yP iR
     · intro I1 hf le1;refine gY []<|tH [] Int ?_;intro b3 hb3;have h6:RL I1 [] ([]:List Int):=rfl;exact yI [hO Int (vS (some ⟨b3,0,none⟩) ([]:List Int) 0) []] iR ⟨_,rfl,rfl,h6⟩
     · intro I1 hf le1;refine yN [26,27] rfl ?_;have h:=h.mono le1;refine xJ rfl rfl h hy1 ?_;intro ad2 ccs1 hat2 hrep1;obtain ⟨p6,c5,rfl,h7⟩:=wJ hrep1;exact yI [] iR ⟨_,_,_,rfl,rfl,hat2,h7⟩
     · rintro I1 hf le1 _ _ ⟨ad2,p6,c5,rfl,rfl,hat2,h7⟩;exact yN [28] rfl<|tM 14 [(29,.pointer (some (ad2.add 1)))]<|yI [] iR ⟨_,_,_,rfl,rfl,hat2,h7⟩
     · rintro I1 hf le1 _ _ ⟨ad21,p61,c51,rfl,rfl,hat21,h71⟩;exact yN [29] rfl<|yX 1 hat21 [vS p61 x1.Dims c51] (vS p61 x1.Dims c51) rfl<|yI [] iR ⟨_,_,rfl,rfl,h71⟩
     · rintro I1 hf le1 _ _ ⟨b3,rfl,rfl,h6⟩ _ _ ⟨p611,c511,rfl,rfl,h711⟩;refine yN [24,30] rfl ?_;obtain ⟨ccs2,k0,k01⟩:=h711;have h711:SL I1 (vS p611 x1.Dims c511) x1.Dims:=⟨_,k0,k01⟩;exact qI 3 1 0 rfl rfl rfl h6 (.inl k0) k01 hy2 fun p7 c6 cs2 h8=>vH (hs':=(hO Int (vS p7 l c6) cs2::hB b2 [vS p3 Arrays c2,z0]::hB b1 zTwo::hB b (cProg p p1 c p2 c1)::hf)) rfl<|yI [hO Int (vS p7 l c6) cs2] iR ⟨_,_,_,rfl,rfl,h8⟩
     · rintro I1 hf le1 _ _ ⟨rfl,rfl⟩ _ _ ⟨p7,c6,cs2,rfl,rfl,h8⟩;exact yN [23,31] rfl<|tM 17 [(32,vA [vT x.Name.l,vS p7 l c6])]<|yI [hO Int (vS p7 l c6) cs2] iR ⟨_,_,_,rfl,rfl,h8⟩
     · rintro I1 hf le1 _ _ ⟨p71,c61,cs21,rfl,rfl,h81⟩;refine yN [32] rfl ?_;have H:=iS I1;refine xP 0 rfl ?_;intro I0 le hl0;have h9:=SL.of_frozen hl0 le h81;have H:=H.trans le;refine nQ (rc (zF.mk x.Name l) (pE ⟨_,rfl,h9⟩) rN) ?_;intro b4 I01 le1 h11;have H:=H.trans le1;exact yI [] H ⟨_,rfl,rfl,h11⟩
     rintro I1 hf le1 _ _ ⟨rfl,rfl⟩ _ _ ⟨b4,rfl,rfl,h11⟩ _ _ rfl;refine yN [17,33] rfl ?_;have h3:=iM le1 h3;obtain ⟨ccs3,k02,k03⟩:=h11;have h11:SL I1 (vS (some ⟨b4,0,none⟩) ([(zF.mk x.Name l)]:List zF) 1) ([(zF.mk x.Name l)]:List zF):=⟨_,k02,k03⟩;exact qI 122 2 0 rfl rfl rfl h3 (.inl k02) k03 hy3 fun p8 c7 cs3 h12=>vH (hs':=(hO zF (vS p8 l1 c7) cs3::hB b2 [vS p3 Arrays c2,z0]::hB b1 zTwo::hB b (cProg p p1 c p2 c1)::hf)) rfl<|yI [hO zF (vS p8 l1 c7) cs3] iR ⟨_,_,_,rfl,rfl,h12⟩
   rintro I02 le2 _ _ ⟨p8,c7,cs3,rfl,rfl,h12⟩;refine yN [1,2,3,4,34] rfl ?_;have ⟨h,h1,H⟩:=m3 le2 h h1 H;exact yB 20 [] [35] rfl<|xI 1 [vS p8 l1 c7,z0] rfl<|yA rfl<|zP<|zI<|zK<|yJ [] [4] rfl<|yS<|nG<|ih (W (i + 1)) l1 _ N H h h1 h12 hg ho hx
 intro hc N;exact wT<|yQ<|hx _ _ _ _ _ (zC N).symm H h3
def sU (p:zE) (i1:Int) (k04:Int) (Body:List zN):Option (List zN):=do
 let x3←idx p.Parts i1
 if (decide (k04 < (x3.Body.length:Int))) then
  let x4←idx p.Parts i1
  let x5←idx x4.Body k04
  let y1←jN x5
  let l2←app 152 Body ([y1]:List zN)
  sU p i1 (W (k04 + 1)) l2
 else
  pure (id Body)
 partial_fixpoint
theorem zA2 (p:zE) (i1:Int):∀ (k04:Int) (Body:List zN) (o:List zN),sU p i1 k04 Body=some o→∀ {B}{I0 I:Imm}{Q}{Arrays1:List zF}{Parts:List zM}{y:(List zD)}{p1 c p2 c1}{b:Nat}{b1:Nat}{b2:Nat}{p4 c3 cs1 p9 c8 cs4 p13 c12}{b5:Nat}{p14 c13 cs6},I0.le I→(S4 I p13 y c12)→(RL I cs4 Parts)→(RL I cs1 Arrays1)→(S4 I p1 p.Arrays c)→(S4 I p2 p.Parts c1)→(RL I cs6 Body)→NG Q→NO Q→(∀ (I':Imm) (Body1:List zN) (p15:Option Addr) (c14:Nat) (cs7:List Value),o=Body1→I0.le I'→(RL I' cs7 Body1)→T 84 B Q (.exit 4) I' [hO zN (vS p15 Body1 c14) cs7,hB b5 [vS p13 y c12,vS p15 Body1 c14],hO zM (vS p9 Parts c8) cs4,hO zF (vS p4 Arrays1 c3) cs1,hB b2 [vS p4 Arrays1 c3,vS p9 Parts c8],hB b1 zTwo,hB b (cProg p p1 c p2 c1)] [(1,vP b 0),(2,vP b1 0),(3,vP b2 0),(5,vI i1),(6,vP b5 0)])→J Tryz.prog 84 B (nav (bodyOf Tryz.f94) [1,1,1,0,1,0,0,1,0,0,1,0,1,0]) Q I [hO zN (vS p14 Body c13) cs6,hB b5 [vS p13 y c12,vS p14 Body c13],hO zM (vS p9 Parts c8) cs4,hO zF (vS p4 Arrays1 c3) cs1,hB b2 [vS p4 Arrays1 c3,vS p9 Parts c8],hB b1 zTwo,hB b (cProg p p1 c p2 c1)] [(1,vP b 0),(2,vP b1 0),(3,vP b2 0),(5,vI i1),(6,vP b5 0),(7,vI k04)]:=by
 refine sU.partial_correctness p i1 _ fun self ih k04 Body o N B I0 I Q Arrays1 Parts y p1 c p2 c1 b b1 b2 p4 c3 cs1 p9 c8 cs4 p13 c12 b5 p14 c13 cs6 H h18 h14 h4 h h1 h20 hg ho hx=>yT hg ho<|yC<|yF<|yB 4 [6] [51,53,54] rfl<|bE N fun x3 hy6 N=>xJ rfl rfl h1 hy6 ?_;intro ad4 ccs5 hat4 hrep3;obtain ⟨p16,c15,p17,c16,rfl,h22,h23⟩:=wW hrep3;refine yB 6 [] [56] rfl<|yX 1 hat4 [vS p17 x3.Body c16] (vS p17 x3.Body c16) rfl<|yJ [] [59] rfl<|zI<|yE N ?_ ?_
 · intro hc2 N;refine zS<|zZ<|yH ?_;obtain ⟨x4,hy7,N⟩:=zB N;obtain ⟨x5,hy8,N⟩:=zB N;obtain ⟨y1,hy9,N⟩:=zB N;obtain ⟨l2,hy10,N⟩:=zB N;refine wA [.p (vP b5 1) [],.p (vS p14 Body c13) [0],.p (vP b 1) [],.p (vS p2 p.Parts c1) [5],.p (vI i1) [],.x (ePPart x4),.x (eQPart 1 x4),.x (eS x4.Body),.p (vI k04) [],.x (ePStmt x5),.x (eVStmt x5),.x (fun I' v hx=>∃ p24 c23 p25 c24 p26 c25 p27 c26 cs8 cs9,v=vA (cStmt y1 p24 c23 p25 c24 p26 c25 p27 c26)∧hx=[hO zA (vS p24 y1.Write.Subs c23) cs8,hO zG (vS p27 y1.Value.Kids c26) cs9]∧(RL I' cs8 y1.Write.Subs)∧(S4 I' p25 y1.Value.Index.Coefs c24)∧(S4 I' p26 y1.Value.Read.Subs c25)∧(RL I' cs9 y1.Value.Kids)),.x (fun I' v hx=>∃ b6,v=vS (some ⟨b6,0,none⟩) ([y1]:List zN) 1∧hx=[]∧(SL I' (vS (some ⟨b6,0,none⟩) ([y1]:List zN) 1) ([y1]:List zN))),.x (fun I' v hx=>∃ p28 c27 cs10,v=vS p28 l2 c27∧hx=[hO zN (vS p28 l2 c27) cs10]∧(RL I' cs10 l2))] [[],[(0,false)],[],[(2,false)],[],[(3,false),(4,false)],[(5,false)],[(6,false)],[],[(7,false),(8,false)],[(9,false)],[(10,false)],[(11,true)],[(1,false),(12,false),(16,true)]] [hB b5 [vS p13 y c12,vS p14 Body c13],hO zM (vS p9 Parts c8) cs4,hO zF (vS p4 Arrays1 c3) cs1,hB b2 [vS p4 Arrays1 c3,vS p9 Parts c8],hB b1 zTwo,hB b (cProg p p1 c p2 c1)] [[hO zN (vS p14 Body c13) cs6]] [(13,true)] (zY [1,2,3,4,5,6,0]) ?_ ?_
   · refine Op<|Op<|Op<|Op<|Op<|Ox ?_<|Ox ?_<|Ox ?_<|Op<|Ox ?_<|Ox ?_<|Ox ?_<|Ox ?_<|Ox ?_<|On
     · intro I1 hf le1;refine yN [65,66] rfl ?_;have h1:=h1.mono le1;refine xJ rfl rfl h1 hy7 ?_;intro ad5 ccs6 hat5 hrep4;obtain ⟨p18,c17,p19,c18,rfl,h24,h25⟩:=wW hrep4;exact yI [] iR ⟨_,_,_,_,_,rfl,rfl,hat5,h24,h25⟩
     · rintro I1 hf le1 _ _ ⟨ad5,p18,c17,p19,c18,rfl,rfl,hat5,h24,h25⟩;exact yN [67] rfl<|tM 7 [(68,.pointer (some (ad5.add 1)))]<|yI [] iR ⟨_,_,_,_,_,rfl,rfl,hat5,h24,h25⟩
     · rintro I1 hf le1 _ _ ⟨ad51,p181,c171,p191,c181,rfl,rfl,hat51,h241,h251⟩;exact yN [68] rfl<|yX 1 hat51 [vS p191 x4.Body c181] (vS p191 x4.Body c181) rfl<|yI [] iR ⟨_,_,rfl,rfl,h251⟩
     · rintro I1 hf le1 _ _ ⟨p1911,c1811,rfl,rfl,h2511⟩;refine yN [69,70] rfl<|xJ rfl rfl h2511 hy8 ?_;intro ad6 ccs7 hat6 hrep5;obtain ⟨p20,c19,p21,c20,p22,c21,p23,c22,rfl,h26,h27,h28,h29⟩:=tG hrep5;exact yI [] iR ⟨_,_,_,_,_,_,_,_,_,rfl,rfl,hat6,h26,h27,h28,h29⟩
     · rintro I1 hf le1 _ _ ⟨ad6,p20,c19,p21,c20,p22,c21,p23,c22,rfl,rfl,hat6,h26,h27,h28,h29⟩;exact yN [71] rfl<|yX 0 hat6 (cStmt x5 p20 c19 p21 c20 p22 c21 p23 c22) (vA (cStmt x5 p20 c19 p21 c20 p22 c21 p23 c22)) rfl<|yI [] iR ⟨_,_,_,_,_,_,_,_,rfl,rfl,h26,h27,h28,h29⟩
     · rintro I1 hf le1 _ _ ⟨p201,c191,p211,c201,p221,c211,p231,c221,rfl,rfl,h261,h271,h281,h291⟩;refine yN [72] rfl ?_;have H:=iS I1;refine xQ (zCI x5 _ hy9 h261 h271 h281 h291) ?_;rintro I05 hs2 v2 k2 le5 - ⟨p24,c23,cs8,p25,c24,p26,c25,p27,c26,cs9,rfl,rfl,h30,h31,h32,h33⟩ -;have H:=H.trans le5;exact yI [hO zA (vS p24 y1.Write.Subs c23) cs8,hO zG (vS p27 y1.Value.Kids c26) cs9] H ⟨_,_,_,_,_,_,_,_,_,_,rfl,rfl,h30,h31,h32,h33⟩
     · rintro I1 hf le1 _ _ ⟨p24,c23,p25,c24,p26,c25,p27,c26,cs8,cs9,rfl,rfl,h30,h31,h32,h33⟩;refine yN [73] rfl ?_;have H:=iS I1;refine xP 0 rfl ?_;intro I06 le6 hl02;have h34:=SL.of_frozen hl02 le6 h30;have ⟨h31,h32,h33,H⟩:=m4 le6 h31 h32 h33 H;refine xP 0 rfl ?_;intro I07 le7 hl03;have h35:=SL.of_frozen hl03 le7 h33;have ⟨h34,h31,h32,H⟩:=m4 le7 h34 h31 h32 H;refine nQ (rc y1 (wQ ⟨_,_,_,_,rfl,h34,h31,h32,h35⟩) rN) ?_;intro b6 I08 le8 h37;have H:=H.trans le8;exact yI [] H ⟨_,rfl,rfl,h37⟩
     rintro I1 hf le1 _ _ ⟨rfl,rfl⟩ _ _ ⟨b6,rfl,rfl,h37⟩ _ _ rfl;refine yN [63,74] rfl ?_;have h20:=iM le1 h20;obtain ⟨ccs8,k05,k06⟩:=h37;have h37:SL I1 (vS (some ⟨b6,0,none⟩) ([y1]:List zN) 1) ([y1]:List zN):=⟨_,k05,k06⟩;exact qI 43 9 0 rfl rfl rfl h20 (.inl k05) k06 hy10 fun p28 c27 cs10 h38=>vH (hs':=(hO zN (vS p28 l2 c27) cs10::hB b5 [vS p13 y c12,vS p14 Body c13]::hO zM (vS p9 Parts c8) cs4::hO zF (vS p4 Arrays1 c3) cs1::hB b2 [vS p4 Arrays1 c3,vS p9 Parts c8]::hB b1 zTwo::hB b (cProg p p1 c p2 c1)::hf)) rfl<|yI [hO zN (vS p28 l2 c27) cs10] iR ⟨_,_,_,rfl,rfl,h38⟩
   rintro I09 le9 _ _ ⟨p28,c27,cs10,rfl,rfl,h38⟩;refine yN [1,2,3,5,6,7,75] rfl ?_;have ⟨h18,h14,h4,h,h1,H⟩:=m6 le9 h18 h14 h4 h h1 H;exact yB 15 [] [76] rfl<|xI 1 [vS p13 y c12,vS p28 l2 c27] rfl<|yA rfl<|zP<|zI<|zK<|yJ [] [7] rfl<|yS<|nG<|ih (W (k04 + 1)) l2 _ N H h18 h14 h4 h h1 h38 hg ho hx
 intro hc2 N;exact wT<|yQ<|hx _ _ _ _ _ (zC N).symm H h20
def uO (p:zE) (i1:Int) (Parts:List zM):Option (List zM):=do
 if (decide (i1 < (p.Parts.length:Int))) then
  let x2←idx p.Parts i1
  let y←nK x2.Nest
  let Body1←sU p i1 0 ([]:List zN)
  let l3←app 48 Parts ([(zM.mk y Body1)]:List zM)
  uO p (W (i1 + 1)) l3
 else
  pure (id Parts)
 partial_fixpoint
theorem zDp (p:zE):∀ (i1:Int) (Parts:List zM) (o:List zM),uO p i1 Parts=some o→∀ {B}{I0 I:Imm}{Q}{Arrays1:List zF}{p1 c p2 c1}{b:Nat}{b1:Nat}{b2:Nat}{p4 c3 cs1 p9 c8 cs4},I0.le I→(RL I cs1 Arrays1)→(S4 I p1 p.Arrays c)→(S4 I p2 p.Parts c1)→(RL I cs4 Parts)→NG Q→NO Q→(∀ (I':Imm) (Parts1:List zM) (p10:Option Addr) (c9:Nat) (cs5:List Value),o=Parts1→I0.le I'→(RL I' cs5 Parts1)→T 84 B Q (.exit 2) I' [hO zM (vS p10 Parts1 c9) cs5,hO zF (vS p4 Arrays1 c3) cs1,hB b2 [vS p4 Arrays1 c3,vS p10 Parts1 c9],hB b1 zTwo] [(2,vP b1 0),(3,vP b2 0)])→J Tryz.prog 84 B (nav (bodyOf Tryz.f94) [1,1,1,0,1,0]) Q I [hO zM (vS p9 Parts c8) cs4,hO zF (vS p4 Arrays1 c3) cs1,hB b2 [vS p4 Arrays1 c3,vS p9 Parts c8],hB b1 zTwo,hB b (cProg p p1 c p2 c1)] [(1,vP b 0),(2,vP b1 0),(3,vP b2 0),(5,vI i1)]:=by
 refine uO.partial_correctness p _ fun self ih i1 Parts o N B I0 I Q Arrays1 p1 c p2 c1 b b1 b2 p4 c3 cs1 p9 c8 cs4 H h4 h h1 h14 hg ho hx=>yT hg ho<|yC<|yF<|yJ [4] [40] rfl<|zI<|yE N ?_ ?_
 · intro hc1 N;refine zS<|zZ<|yH<|yF<|yB 3 [4] [44,45] rfl<|bE N fun x2 hy4 N=>xJ rfl rfl h1 hy4 ?_;intro ad3 ccs4 hat3 hrep2;obtain ⟨p11,c10,p12,c11,rfl,h16,h17⟩:=wW hrep2;refine yB 5 [] [47] rfl<|yX 0 hat3 [vS p11 x2.Nest c10] (vS p11 x2.Nest c10) rfl<|bE N fun y hy5 N=>xQ (zCH x2.Nest _ hy5 h16) ?_;rintro I04 hs2 v2 k2 le4 - ⟨v04,rfl,rfl,h18⟩ -;have ⟨h14,h4,h,h1,H⟩:=m5 le4 h14 h4 h h1 H;obtain ⟨p13,c12,rfl⟩:=h18.form;refine yB 8 [] [50] rfl<|wH zTwo ?_;intro b5 hb5;refine xI 0 [vS p13 y c12,z0] rfl<|yA rfl<|zZ<|yG [7] rfl<|xZ<|pJ [(1,vP b 0),(2,vP b1 0),(3,vP b2 0),(5,vI i1),(6,vP b5 0),(7,vI 0)]<|zAE zN fun h19=>?_;obtain ⟨o01,ho01,hMl1⟩:=zB N;refine zA2 p i1 0 ([]:List zN) o01 ho01 iR h18 h14 h4 h h1 h19 (fun _ _ _ h=>hg _ _ _ h) (fun _ _ h=>ho _ _ h) ?_;intro I010 Body1 p15 c14 cs7 heq1 le10 h21;subst o01;have ⟨h18,h14,h4,h,h1,H⟩:=m6 le10 h18 h14 h4 h h1 H;refine zR<|zI<|zK<|yB 3 [4,1] [78,79] rfl<|xP 0 rfl ?_;intro I011 le11 hl05;have h39:=SL.of_frozen hl05 le11 h21;have ⟨h14,h18,h4,h,h1,H⟩:=m6 le11 h14 h18 h4 h h1 H;refine tH [vS p13 y c12,vS p15 Body1 c14] zM ?_;intro b7 hb7;have h40:RL I011 [vS p13 y c12,vS p15 Body1 c14] ([(zM.mk y Body1)]:List zM):=⟨[vS p13 y c12,vS p15 Body1 c14],_,rfl,rfl,(qO ⟨_,_,rfl,h18,h39⟩),rfl⟩;obtain ⟨l3,hy11,N⟩:=zB hMl1;refine qI 47 2 2 rfl rfl rfl h14 (.inr ⟨0,rfl⟩) h40 hy11 ?_;intro p29 c28 cs11 h41;exact sD (zY [1,2,3,4,5,6] (hs':=[hB b5 [vS p13 y c12,vS p15 Body1 c14],hO zM (vS p29 l3 c28) cs11,hO zF (vS p4 Arrays1 c3) cs1,hB b2 [vS p4 Arrays1 c3,vS p9 Parts c8],hB b1 zTwo,hB b (cProg p p1 c p2 c1)]))<|yB 6 [] [82] rfl<|xI 3 [vS p4 Arrays1 c3,vS p29 l3 c28] rfl<|yA rfl<|zP<|zI<|zK<|yJ [] [5] rfl<|yS<|kX (zX [1,2,3,4,5] rfl (by decide))<|nG<|ih (W (i1 + 1)) l3 _ N H h4 h h1 h41 hg ho hx
 intro hc1 N;exact wT<|xT (zX [0,1,2,3] rfl (by decide))<|yQ<|hx _ _ _ _ _ (zC N).symm H h14
def qJ (p:zE):Option (zE):=do
 let Arrays1←sT p 0 ([]:List zF)
 let Parts1←uO p 0 ([]:List zM)
 pure (zE.mk Arrays1 Parts1)
theorem zGQ:∀ p r,qJ p=some r→∀ {I:Imm}{p1 c p2 c1},(S4 I p1 p.Arrays c)→(S4 I p2 p.Parts c1)→RT 94 [vA (cProg p p1 c p2 c1)] I [] (zEn  r):=by
 intro p r N I p1 c p2 c1 h h1;unfold qJ at N;refine yM Tryz.func94 fun B=>yF<|vX (cProg p p1 c p2 c1) ?_;intro b hb;refine wH zTwo ?_;intro b1 hb1;refine yA rfl<|yV<|yB 1 [] [8] rfl<|wH zTwo ?_;intro b2 hb2;refine zAf 0 zTwo [hB b2 zTwo,hB b1 zTwo,hB b (cProg p p1 c p2 c1)] rfl rfl rfl rfl<|yA rfl<|zZ<|yG [4] rfl<|xZ<|pJ [(1,vP b 0),(2,vP b1 0),(3,vP b2 0),(4,vI 0)]<|zAE zF fun h2=>?_;obtain ⟨o0,ho0,hMl⟩:=zB N;refine zA1 p 0 ([]:List zF) o0 ho0 iR h h1 h2 (fun _ _ _ h=>h) (fun _ _ h=>h) ?_;intro I03 Arrays1 p4 c3 cs1 heq le3 h4;subst o0;have ⟨h,h1⟩:=m2 le3 h h1;refine zR<|zZ<|yG [5] rfl<|xZ<|pJ [(1,vP b 0),(2,vP b1 0),(3,vP b2 0),(5,vI 0)]<|zAE zM fun h13=>?_;obtain ⟨o02,ho02,hMl2⟩:=zB hMl;refine zDp p 0 ([]:List zM) o02 ho02 iR h4 h h1 h13 (fun _ _ _ h=>h) (fun _ _ h=>h) ?_;intro I012 Parts1 p10 c9 cs5 heq2 le12 h15;subst o02;have h4:=iM le12 h4;refine zR<|yV<|yB 1 [2] [83] rfl<|xI 3 [vS p4 Arrays1 c3,vS p10 Parts1 c9] rfl<|yA rfl<|zI<|yW ?_;obtain rfl:=zC hMl2;exact xA ⟨_,_,(.cell 3 rfl rfl (by kernel_rfl) ResV.nil),(zX [1,0] rfl (by decide)),⟨_,_,_,_,_,_,rfl,rfl,h4,h15⟩⟩
def zDN (b0:Nat) (r:Str×zL):KT:=fun kk I' hs' v=>
  ∃ v0 k0,hs'=[.blk b0 ⟨k0⟩]∧v=tupV [v0]∧v0=.string ⟨⟨r.1.l⟩⟩∧Rp.rep I' k0 r.2
def rW (r0:zL) (list:(List Str)):Option (Str×zL):=do
 let (y1,y2)←yU r0 (list.length:Int)
 let x←idx list y1
 pure (x,y2)
theorem kQ:∀ r0 list r,rW r0 list=some r→∀ {I:Imm}{r01:Nat}{p c p1 c1},(S4 I p r0.b c)→(S4 I p1 list c1)→RT 96 [vP r01 0,vS p1 list c1] I [hB r01 (cRd r0 p c)] (zDN r01 r):=by
 intro r0 list r N I r01 p c p1 c1 h h1;unfold rW at N;refine yM Tryz.func96 fun B=>vJ []<|yV<|yB 4 [] [5,6,8] rfl ?_;obtain ⟨⟨y1,y2⟩,hy,N⟩:=zB N;refine sE (xR r0 (list.length:Int) _ hy h) rfl ?_;rintro I0 hs2 v2 k2 le - ⟨v0,kk,rfl,rfl,rfl,h3⟩ -;have h1:=h1.mono le;obtain ⟨p2,c2,rfl,h4⟩:=yD h3;obtain ⟨x,hy1,N⟩:=zB N;refine xJ rfl rfl h1 hy1 ?_;intro ad ccs hat hrep;obtain rfl:=hrep;refine yX 0 hat [vT x.l] (vT x.l) rfl<|yJ [] [4] rfl<|zI<|yW ?_;obtain rfl:=zC N;exact xA ⟨_,_,(.tmp rfl ResV.nil),(zX [0] rfl (by decide)),⟨_,_,rfl,rfl,rfl,(yR ⟨_,rfl,h4⟩)⟩⟩
def zBA (r:zA):KT:=fun kk I' hs' v=>
  ∃ a0_0 c0_0 s0_0,hs'=[.osl (.slice a0_0 r.Coefs.length c0_0) (Rp.sz Int) s0_0]∧v=tupV [(.agg ⟨[.slice a0_0 r.Coefs.length c0_0,.int .i64 r.Const]⟩)]∧RepL (Rp.rep I') (Rp.sz Int) s0_0 r.Coefs
def oJ :Option (zA):=do
 pure (zA.mk ([0,0,0,0]:List Int) 0)
theorem kR:∀ r,oJ =some r→∀ {I:Imm} ,RT 145 [] I [] (zBA  r):=by
 intro  r N I;unfold oJ at N;refine yM Tryz.func145 fun B=>yF<|wH [z0,vI 0] ?_;intro b hb;refine yA rfl<|yV<|tH [vI 0,vI 0,vI 0,vI 0] Int ?_;intro b1 hb1;have h:RL I [vI 0,vI 0,vI 0,vI 0] ([0,0,0,0]:List Int):=rI [0,0,0,0];refine yB 2 [] [2] rfl<|xI 1 [vS (some ⟨b1,0,none⟩) ([0,0,0,0]:List Int) 4,vI 0] rfl<|yA rfl<|zI<|yW ?_;obtain rfl:=zC N;exact xA ⟨_,_,(.cell 1 rfl rfl (by kernel_rfl) ResV.nil),(zX [0] rfl (by decide)),⟨_,_,_,rfl,rfl,h⟩⟩
def nI (v0:Int):Option (zA):=do
 let y←oJ
 let x←idx y.Coefs v0
 let l←pure (y.Coefs.set v0.toNat 1)
 pure (zA.mk l y.Const)
theorem fC:∀ v0 r,nI v0=some r→∀ {I:Imm} ,RT 143 [vI v0] I [] (jF  r):=by
 intro v0 r N I;unfold nI at N;refine yM Tryz.func143 fun B=>yF<|wH [z0,vI 0] ?_;intro b hb;refine yA rfl<|yV<|bE N fun y hy N=>xQ (kR  _ hy ) ?_;rintro I0 hs2 v2 k2 le - ⟨p,c,cs,rfl,rfl,h⟩ -;refine wH [z0,vI 0] ?_;intro b1 hb1;refine xI 0 (cAff y p c) rfl<|yA rfl<|yV<|yB 3 [0] [6,7] rfl<|bE N fun x hy1 N=>mF 1 rfl rfl rfl h hy1 ?_;intro ad ccs hat hcc hrep;obtain rfl:=hrep;obtain ⟨l,hy2,N⟩:=zB N;refine qM (c:=[vI 1]) (x':=1) 1 0 rfl rfl rfl hat rfl rfl hcc (by kernel_rfl) (by kernel_rfl) (by kernel_rfl) h hy1 (by kernel_rfl) rfl ?_;rw [show y.Coefs.set v0.toNat 1=l from zC hy2];intro cs1 h1 hl0;refine jW (m':=[(2,vP b 0),(3,vP b1 0),(6,vS p y.Coefs c),(7,vI v0)]) ⟨rfl,rfl,rfl,rfl,trivial⟩<|zBz (hs':=[hB b1 [vS p l c,vI y.Const],hO Int (vS p l c) cs1,hB b [z0,vI 0]]) (m':=[(2,vP b 0),(3,vP b1 0),(6,vS p l c),(7,vI v0)]) (by first | rfl | simp only [vS,hl0,List.nil_append,List.cons_append,List.set_cons_zero,List.set_cons_succ,List.eraseIdx_cons_zero,List.eraseIdx_cons_succ]) (by first | rfl | simp only [vS,hl0])<|yA rfl<|yV<|yB 1 [0] [9] rfl<|xI 2 [vS p l c,vI y.Const] rfl<|yA rfl<|xG<|yY 1 rfl ?_;intro I01 le1 hl01;have h2:=SL.of_frozen hl01 le1 h1;obtain rfl:=zC N;exact xA ⟨_,_,(.cell 1 rfl rfl (by kernel_rfl) ResV.nil),zQ,⟨_,rfl,rfl,⟨_,rfl,(yO ⟨_,rfl,h2⟩)⟩⟩⟩
def wR (n0:Int):Option (zA):=do
 let y←oJ
 pure (zA.mk y.Coefs n0)
theorem uL:∀ n0 r,wR n0=some r→∀ {I:Imm} ,RT 144 [vI n0] I [] (zBA  r):=by
 intro n0 r N I;unfold wR at N;refine yM Tryz.func144 fun B=>yF<|wH [z0,vI 0] ?_;intro b hb;refine yA rfl<|yV<|bE N fun y hy N=>xQ (kR  _ hy ) ?_;rintro I0 hs2 v2 k2 le - ⟨p,c,cs,rfl,rfl,h⟩ -;refine wH [z0,vI 0] ?_;intro b1 hb1;refine xI 0 (cAff y p c) rfl<|yA rfl<|yV<|yB 2 [] [5,6] rfl<|xI 0 [vS p y.Coefs c,vI n0] rfl<|yA rfl<|yV<|yB 1 [0] [7] rfl<|xI 2 [vS p y.Coefs c,vI n0] rfl<|yA rfl<|zI<|yW ?_;obtain rfl:=zC N;exact xA ⟨_,_,(.cell 2 rfl rfl (by kernel_rfl) ResV.nil),(zX [1] rfl (by decide)),⟨_,_,_,rfl,rfl,h⟩⟩
theorem zKf (xs:List NL) (x:NL):(x.ha ++ NLs xs).Perm (NLs (xs ++ [x])):=by
  simp only [NLs,List.flatMap_append,List.flatMap_cons,List.flatMap_nil,List.append_nil];exact List.perm_append_comm
theorem zDO (nest:(List zD)):∀ (out:List zD) (i:Int) (o:List zD),uN nest out i=some o→∀ {B}{I0 I:Imm}{Q p c p1 c1 cs}{xs:List NL},I0.le I→(S4 I p nest c)→(RL I cs (xs.map NL.raw))→out=xs.map NL.d→(∀ x ∈ xs,x.ok I)→(∀ l a w,¬Q (.goto l) a w)→(∀ a w,¬Q .outgrown a w)→(∀ (I':Imm) (p2:Option Addr) (c2:Nat) (cs1:List Value) (ys:List NL),I0.le I'→o=ys.map NL.d→(RL I' cs1 (ys.map NL.raw))→(∀ x ∈ ys,x.ok I')→T 83 B Q (.exit 0) I' (hO Raw2 (vS p2 (ys.map NL.raw) c2) cs1::NLs ys) [(3,vS p2 (ys.map NL.raw) c2)])→J Tryz.prog 83 B (nav (bodyOf Tryz.f141) [1,1,0,1,0]) Q I (hO Raw2 (vS p1 (xs.map NL.raw) c1) cs::NLs xs) [(0,vS p nest c),(3,vS p1 (xs.map NL.raw) c1),(4,vI i)]:=by
 refine uN.partial_correctness nest _ fun self ih out i o N B I0 I Q p c p1 c1 cs xs H h h2 hout hxs hg ho hx=>yT hg ho<|yC<|yG [14] rfl<|zI<|yE N ?_ ?_
 · intro hc N;refine zS<|zZ<|yH<|yF<|yB 1 [] [17] rfl<|wH zTwo ?_;intro b1 hb1;refine zAf 0 zTwo (hB b1 zTwo::hO Raw2 (vS p1 (xs.map NL.raw) c1) cs::NLs xs) rfl rfl rfl rfl<|yA rfl<|zZ<|yG [6] rfl<|xZ<|pJ [(0,vS p nest c),(3,vS p1 (xs.map NL.raw) c1),(4,vI i),(5,vP b1 0),(6,vI 0)]<|zAE zA fun h4=>?_;obtain ⟨o0,ho0,hMl⟩:=zB N;refine zMb (hs:=[hO zA (vS none ([]:List zA) 0) [],hB b1 zTwo,hO Raw2 (vS p1 (xs.map NL.raw) c1) cs]) (L:=NLs xs) (.exit 2) (fun I' hs' m'=>∃ p4 c4 cs3,RL I' cs3 o0∧hs'=[hO zA (vS p4 o0 c4) cs3,hB b1 [vS p4 o0 c4,z0],hO Raw2 (vS p1 (xs.map NL.raw) c1) cs]∧m'=[(0,vS p nest c),(3,vS p1 (xs.map NL.raw) c1),(4,vI i),(5,vP b1 0)]) (fun B'=>?_) ?_
   · refine zAZ nest i 0 ([]:List zA) o0 ho0 iR h h2 h4 (fun _ _ _ h=>by cases h.1) (fun _ _ h=>by cases h.1) ?_;intro I03 Lo1 p4 c4 cs3 heq le3 h6;subst o0;exact zMc ⟨_,_,_,h6,rfl,rfl⟩
   rintro I03 _ _ ⟨p4,c4,cs3,h6,rfl,rfl⟩ le3;have ⟨h,h2⟩:=m2 le3 h h2;have hxs:=fun x hx=>(hxs x hx).mono le3;have H:=H.trans le3;refine zR<|zZ<|yG [8] rfl<|xZ<|pJ [(0,vS p nest c),(3,vS p1 (xs.map NL.raw) c1),(4,vI i),(5,vP b1 0),(8,vI 0)]<|zAE zA fun h18=>?_;obtain ⟨o01,ho01,hMl1⟩:=zB hMl;refine zMb (hs:=[hO zA (vS none ([]:List zA) 0) [],hO zA (vS p4 o0 c4) cs3,hB b1 [vS p4 o0 c4,z0],hO Raw2 (vS p1 (xs.map NL.raw) c1) cs]) (L:=NLs xs) (.exit 4) (fun I' hs' m'=>∃ p13 c13 cs7,RL I' cs7 o01∧hs'=[hO zA (vS p13 o01 c13) cs7,hO zA (vS p4 o0 c4) cs3,hB b1 [vS p4 o0 c4,vS p13 o01 c13],hO Raw2 (vS p1 (xs.map NL.raw) c1) cs]∧m'=[(0,vS p nest c),(3,vS p1 (xs.map NL.raw) c1),(4,vI i),(5,vP b1 0)]) (fun B'=>?_) ?_
   · refine zA0 nest i 0 ([]:List zA) o01 ho01 iR h h2 h6 h18 (fun _ _ _ h=>by cases h.1) (fun _ _ h=>by cases h.1) ?_;intro I07 Hi1 p13 c13 cs7 heq1 le7 h20;subst o01;exact zMc ⟨_,_,_,h20,rfl,rfl⟩
   rintro I07 _ _ ⟨p13,c13,cs7,h20,rfl,rfl⟩ le7;have ⟨h,h2,h6⟩:=m3 le7 h h2 h6;have hxs:=fun x hx=>(hxs x hx).mono le7;have H:=H.trans le7;obtain ⟨out2,hy10,N⟩:=zB hMl1;have hy11:=zHl (l':=xs.map NL.raw) (m':=[(⟨vS p4 o0 c4,vS p13 o01 c13⟩:Raw2)]) hy10 (by simp [hout]) rfl;obtain ⟨_,rfl⟩:=zAq hy10;have h34:RL I07 [vS p4 o0 c4,vS p13 o01 c13] [(⟨vS p4 o0 c4,vS p13 o01 c13⟩:Raw2)]:=⟨[vS p4 o0 c4,vS p13 o01 c13],[],rfl,rfl,⟨rfl,rfl,rfl⟩,rfl⟩;refine zR<|zI<|zK<|yB 2 [2] [78,79] rfl<|tH [vS p4 o0 c4,vS p13 o01 c13] Raw2 ?_;intro b8 hb8;refine qI 170 2 4 rfl rfl rfl h2 (.inr ⟨0,rfl⟩) h34 hy11 ?_;intro p21 c21 cs10 h35;have eR:xs.map NL.raw ++ [(⟨vS p4 o0 c4,vS p13 o01 c13⟩:Raw2)]=(xs ++ [(⟨p4,o0,c4,cs3,p13,o01,c13,cs7⟩:NL)]).map NL.raw:=by simp [NL.raw,NL.vl,NL.vh]
   have eD:out ++ [(⟨o0,o01⟩:zD)]=(xs ++ [(⟨p4,o0,c4,cs3,p13,o01,c13,cs7⟩:NL)]).map NL.d:=by simp [hout,NL.d]
   rw [eR] at h35 ⊢;refine yJ [] [3] rfl<|zP<|zI<|zK<|yJ [] [4] rfl<|yS<|kX (zE8 0 rfl)<|kX (zE8 2 rfl)<|zHn _ ?_<|pJ [(0,vS p nest c),(3,vS p21 ((xs ++ [(⟨p4,o0,c4,cs3,p13,o01,c13,cs7⟩:NL)]).map NL.raw) c21),(4,vI (W (i + 1)))]<|ih _ (W (i + 1)) _ N H h h35 eD ?_ hg ho hx
   · show List.Perm _ (hO zA (vS p13 o01 c13) cs7::hO zA (vS p4 o0 c4) cs3::hO Raw2 (vS p21 ((xs ++ [(⟨p4,o0,c4,cs3,p13,o01,c13,cs7⟩:NL)]).map NL.raw) c21) cs10::NLs xs);exact List.Perm.trans ((zKf xs ⟨p4,o0,c4,cs3,p13,o01,c13,cs7⟩).symm.cons _)<|(List.Perm.swap _ _ _).trans (List.Perm.cons _ (List.Perm.swap _ _ _))
   intro x hx';rcases List.mem_append.1 hx' with hx' | hx'
   · exact hxs x hx'
   rw [List.mem_singleton.1 hx']; exact ⟨h6,h20⟩
 intro hc N;have:=zC N;simp only [id] at this;exact wT<|yQ<|hx _ _ _ _ _ H (by rw [← this,hout]) h2 hxs
def zDq (r:(List zD)):KT:=fun kk I' hs' v=>
  ∃ (p:Option Addr) (c:Nat) (cs:List Value) (xs:List NL),hs'=hO Raw2 (vS p (xs.map NL.raw) c) cs::NLs xs∧v=tupV [vS p (xs.map NL.raw) c]∧RL I' cs (xs.map NL.raw)∧r=xs.map NL.d∧∀ x ∈ xs,x.ok I'
theorem zF4:∀ (nest:(List zD)) r,nK nest=some r→∀ {I:Imm}{p c},(S4 I p nest c)→RT 141 [vS p nest c] I [] (zDq  r):=by
 intro nest r N I p c h;unfold nK at N;refine yM Tryz.func141 fun B=>vJ []<|yV<|tH [] zD ?_;intro b hb;have h1:RL I [] (([]:List NL).map NL.raw):=rfl;refine yJ [] [3] rfl<|zZ<|yG [4] rfl<|xZ<|pJ [(0,vS p nest c),(3,vS (some ⟨b,0,none⟩) (([]:List NL).map NL.raw) 0),(4,vI 0)] ?_;obtain ⟨o02,ho02,hMl2⟩:=zB N;refine zDO nest ([]:List zD) 0 o02 ho02 (xs:=[]) iR h h1 rfl (fun _ h=>by cases h) (fun _ _ _ h=>h) (fun _ _ h=>h) ?_;intro I1 p2 c2 cs1 ys le10 ho h3 hok;have:=zC hMl2;simp only [id] at this;subst this;exact zR<|vG [2] rfl<|xG<|xA ⟨_,_,(.tmp rfl ResV.nil),(fun _ g=>g),⟨_,_,_,ys,rfl,rfl,h3,ho,hok⟩⟩
def qB (out:List zD):Option (List zD):=do
 if (decide ((out.length:Int) ≤ 4)) then
  let x←idx out 0
  let l←app 48 out ([x]:List zD)
  qB l
 else
  pure (id out)
 partial_fixpoint
def oY (r0:zL) (nest:(List zD)):Option ((List zD)×zL):=do
 let y←nK nest
 if ((y.length:Int) == 0) then
  pure (y,r0)
 else
  let (y2,y3)←yU r0 40
  if (y2 == 0) then
   let x←idx y 0
   let (y5,y6)←yU y3 2
   let y7←nI y5
   let l←app 32 x.Lo ([y7]:List zA)
   pure (y.set 0 (zD.mk l x.Hi),y6)
  else
   if (y2 == 1) then
    let x←idx y (W ((y.length:Int) - 1))
    pure (y.set (W ((y.length:Int) - 1)).toNat (zD.mk x.Lo []),y3)
   else
    if (y2 == 2) then
     let x←idx y (W ((y.length:Int) - 1))
     let y7←wR 1
     let y8←wR 2
     let l←app 32 x.Hi ([y7,y8]:List zA)
     pure (y.set (W ((y.length:Int) - 1)).toNat (zD.mk x.Lo l),y3)
    else
     if (y2 == 3) then
      let y7←wR 99
      let x←idx y 0
      pure (y.set 0 (zD.mk x.Lo [y7]),y3)
     else
      if (y2 == 4) then
       let z←qB y
       pure (z,y3)
      else
       pure (y,y3)
theorem zCf:∀ (out:List zD) (o:List zD),qB out=some o→∀ {B}{I0 I:Imm}{Q}{K:HA}{p1 c1 cs},I0.le I→RL I cs out→(∀ l a w,¬Q (.goto l) a w)→(∀ a w,¬Q .outgrown a w)→(∀ (I':Imm) (p2:Option Addr) (c2:Nat) (cs1:List Value),I0.le I'→RL I' cs1 o→T 73 B Q (.exit 1) I' [hO zD (vS p2 o c2) cs1,K] [(5,vS p2 o c2)])→J Tryz.prog 73 B (nav (bodyOf Tryz.f97) [1,1,1,1,0,1,0,1,1,1,1,1,1,1,1,1,0,0]) Q I [hO zD (vS p1 out c1) cs,K] [(5,vS p1 out c1)]:=by
 refine qB.partial_correctness _ fun self ih out o N B I0 I Q K p1 c1 cs H h hg ho hx=>yT hg ho<|yC<|yG [65] rfl<|zI<|yE N ?_ ?_
 · intro hc N;obtain ⟨x,hy,N⟩:=zB N;obtain ⟨l,hy1,N⟩:=zB N;refine zS<|xZ<|zK<|yB 2 [] [66,67] rfl<|mF 0 rfl rfl rfl h hy ?_;intro ad ccs hat hcc hrep;obtain ⟨p3,c3,p4,c4,rfl,h1,h2⟩:=sB hrep;refine zDC 0 0 hat hcc (cLoop x p3 c3 p4 c4) (vA (cLoop x p3 c3 p4 c4)) rfl rfl<|tH (cLoop x p3 c3 p4 c4) zD ?_;intro b2 hb2;have h3:RL I (cLoop x p3 c3 p4 c4) ([x]:List zD):=⟨(cLoop x p3 c3 p4 c4),[],rfl,rfl,rL ⟨_,_,rfl,h1,h2⟩,rfl⟩;exact qI 170 2 1 rfl rfl rfl h (.inr ⟨0,rfl⟩) h3 hy1 fun p5 c5 cs5 h5=>yJ [] [5] rfl<|zP<|yS<|kX (zE8 0 rfl)<|nG<|ih l _ N H h5 hg ho hx
 intro hc N;have:=zC N;simp only [id] at this;subst this;exact wT<|yQ<|hx _ _ _ _ H h
def zAI (b0:Nat) (r:(List zD)×zL):KT:=fun kk I' hs' v=>
  ∃ v0 k0,hs'=[.blk b0 ⟨k0⟩]∧v=tupV [v0]∧SL I' v0 r.1∧Rp.rep I' k0 r.2
theorem zBB {B:Base}{I:Imm}{out:List zD}{p1 c1 cs}{r01:Nat}{kl:List Value}{y3:zL} (h:RL I cs out) (hk:Rp.rep I kl y3) :
    J Tryz.prog 73 B (nav (bodyOf Tryz.f97) [1,1,1,1,1]) (QB Tryz.prog Tryz.f97 B (zAI r01 (out,y3))) I [hO zD (vS p1 out c1) cs,hB r01 kl] [(5,vS p1 out c1)]:=by
 refine yG [4] rfl<|xG<|yY 0 rfl ?_
 intro I1 le1 hl
 have h1:=SL.of_frozen hl le1 h
 exact xA ⟨_,_,(.tmp rfl ResV.nil),(fun _ g=>g),⟨_,_,rfl,rfl,h1,Rp.mono le1 hk⟩⟩
theorem zKg (xs:List NL):((xs.map NL.d).length:Int)=((xs.map NL.raw).length:Int):=by simp
theorem zL1 {p c} (xs:List NL):vS p (xs.map NL.raw) c=vS p (xs.map NL.d) c:=by simp [vS]
theorem eQ:∀ r0 nest r,oY r0 nest=some r→∀ {I:Imm}{r01:Nat}{p c p1 c1},(S4 I p r0.b c)→(S4 I p1 nest c1)→RT 97 [vP r01 0,vS p1 nest c1] I [hB r01 (cRd r0 p c)] (zAI r01 r):=by
 intro r0 nest r N I r01 p c p1 c1 h h1;unfold oY at N;refine yM Tryz.func97 fun B=>?_;have H:=iS I;obtain ⟨y,hy,N⟩:=zB N;refine yG [0,1] rfl<|yV<|yB 1 [] [7] rfl<|xQ (zF4 nest _ hy h1) ?_;rintro I1 hs2 v2 k2 le1 - ⟨p2,c2,cs,xs,rfl,rfl,h2,rfl,hxs⟩ -;have h:=h.mono le1;clear h1 H;simp only [zKg] at N;refine sD (hs':=hO Raw2 (vS p2 (xs.map NL.raw) c2) cs::hB r01 (cRd r0 p c)::NLs xs) (fun w g=>g.perm (List.Perm.cons _ (List.perm_append_comm (l₁:=[hB r01 (cRd r0 p c)]) (l₂:=NLs xs))))<|yJ [] [0,5] rfl<|vG [0,5,6] rfl<|zZ<|yG [0,5,6,12] rfl<|zI<|yE N ?_ ?_
 · intro hc N;obtain rfl:=zC N;refine zHn (NLs xs ++ [hO Raw2 (vS p2 (xs.map NL.raw) c2) cs,hB r01 (cRd r0 p c)]) (List.perm_append_comm)<|zAr xs hxs ?_;intro I2 le2 hfz;have h:=h.mono le2;have h3:=zGO hfz;rw [← jM h2] at h3;refine yG [4] rfl<|xG<|zH<|yY 0 rfl ?_;intro I3 le3 hl;have h4:SL I3 (vS p2 (xs.map NL.raw) c2) (xs.map NL.d):=SL.of_frozen (l:=xs.map NL.d) hl le3 h3;exact xA ⟨_,_,(.tmp rfl ResV.nil),(fun _ g=>g),⟨_,_,rfl,rfl,h4,yR ⟨_,rfl,h.mono le3⟩⟩⟩
 intro hc N;obtain ⟨⟨y2,y3⟩,hy1,N⟩:=zB N;refine zS<|zZ<|yF<|yB 1 [] [14] rfl<|sD (hs':=hB r01 (cRd r0 p c)::hO Raw2 (vS p2 (xs.map NL.raw) c2) cs::NLs xs) (fun w g=>g.perm (List.Perm.swap _ _ _))<|sE (xR r0 40 _ hy1 h) rfl ?_;rintro I2 hs2 v2 k2 le2 - ⟨v0,kk,rfl,rfl,rfl,h3⟩ -;obtain ⟨p3,c3,rfl,h4⟩:=yD h3;clear h3 h;have h2:=iM le2 h2;have hxs:=fun x hx=>(hxs x hx).mono le2;refine yJ [] [0,5,6,15] rfl<|xZ<|yG [0,5,6,15,16] rfl<|zI<|zHn (NLs xs ++ [hO Raw2 (vS p2 (xs.map NL.raw) c2) cs,hB r01 (cRd y3 p3 c3)]) ((List.perm_append_comm).trans (List.Perm.swap _ _ _))<|yE N ?_ ?_
 · intro hc0 N;obtain ⟨x,hx,N⟩:=zB N;obtain ⟨⟨y5,y6⟩,hy5,N⟩:=zB N;obtain ⟨y7,hy7,N⟩:=zB N;obtain ⟨l,hl,N⟩:=zB N;obtain ⟨x,hx2,rfl⟩:=zFv hx;have hx:=hx2; clear hx2;refine zKd hx hxs ?_;intro I3 le3 hfz;obtain ⟨xlo,xhi⟩:=hxs x (qK hx |>.2.2 |> List.mem_of_getElem?);replace xlo:=iM le3 xlo;replace xhi:=iM le3 xhi;have ⟨h2,h4⟩:=m2 le3 h2 h4;clear hxs;refine oM 0 rfl ?_;intro I4 le4 hl4;have khi:=SL.of_frozen hl4 le4 xhi;replace xlo:=iM le4 xlo;have ⟨h2,h4⟩:=m2 le4 h2 h4;have hfz:=fun j y hj hy=>(hfz j y hj hy).mono le4;have hxr:=zBQ (f:=NL.raw) hx;refine pJ [(0,vP r01 0),(5,vS p2 (xs.map NL.raw) c2)]<|wA [.p (vS p2 (xs.map NL.raw) c2) [],.p (vS p2 (xs.map NL.raw) c2) [],.x (fun I' v hx'=>∃ ad,v=.pointer (some ad)∧hx'=[]∧AtO (vS p2 (xs.map NL.raw) c2) 2 0 ad),.x (fun I' v hx'=>∃ ad,v=.pointer (some ad)∧hx'=[]∧AtO (vS p2 (xs.map NL.raw) c2) 2 0 ad),.x (fun I' v hx'=>v=x.vl∧hx'=[]),.p (vP r01 0) [],.x (fun I' v hx'=>∃ kk,v=vI y5∧hx'=[hB r01 kk]∧Rp.rep I' kk y6),.x (fun I' v hx'=>∃ p5 c5,v=vA (cAff y7 p5 c5)∧hx'=[]∧SL I' (vS p5 y7.Coefs c5) y7.Coefs),.x (fun I' v hx'=>∃ b4,v=vS (some ⟨b4,0,none⟩) ([y7]:List zA) 1∧hx'=[]∧SL I' (vS (some ⟨b4,0,none⟩) ([y7]:List zA) 1) ([y7]:List zA)),.x (fun I' v hx'=>∃ p6 c6 cs6,v=vS p6 l c6∧hx'=[hO zA (vS p6 l c6) cs6]∧RL I' cs6 l)]
     [[],[],[(1,false)],[(2,false)],[(3,false)],[],[(5,false),(13,true)],[(6,false)],[(7,false)],[(4,false),(8,false),(14,true)]]
     [hO Raw2 (vS p2 (xs.map NL.raw) c2) cs] [[hB r01 (cRd y3 p3 c3)],[hO zA x.vl x.csl]] [(0,false),(6,true),(9,true)] (zY [1,2,0]) ?_ ?_
   · refine Op<|Op<|Ox ?_<|Ox ?_<|Ox ?_<|Op<|Ox ?_<|Ox ?_<|Ox ?_<|Ox ?_<|On
     · intro I1 hf le1;exact yN [19] rfl<|mF 0 rfl rfl rfl (iM le1 h2) hxr fun ad ccs hat hcc hrep=>yI [] iR ⟨_,rfl,rfl,hat⟩
     · rintro I1 hf le1 _ _ ⟨ad,rfl,rfl,hat⟩;exact nT<|zBh [(20,.pointer (some ad))]<|tM 4 [(21,.pointer (some ad))]<|yI [] iR ⟨_,rfl,rfl,hat⟩
     · rintro I1 hf le1 _ _ ⟨ad,rfl,rfl,hat⟩;refine yN [21] rfl ?_;have hrep:=h2.at (i:=0) (qK hxr).2.2;obtain ⟨⟨hcc,o1,o2⟩,_⟩:=hrep;exact zDC 0 0 hat hcc [x.vl] x.vl rfl rfl<|yP iR
     · rintro I1 hf le1 _ _ ⟨rfl,rfl⟩ _ _ rfl;refine yN [23] rfl<|sE (xR y3 2 _ hy5 (h4.mono le1)) rfl ?_;rintro I02 hs2 v2 k2 le2 - ⟨v0,kk,rfl,rfl,rfl,h5⟩ -;exact yI [hB r01 kk] le2 ⟨_,rfl,rfl,h5⟩
     · rintro I1 hf le1 _ _ ⟨kk,rfl,rfl,h5⟩;refine yN [24] rfl<|xQ (fC y5 _ hy7) ?_;rintro I02 hs2 v2 k2 le2 - ⟨v0,rfl,rfl,⟨cs2,rfl,h6⟩⟩ -;obtain ⟨p5,c5,rfl,h7⟩:=yL h6;exact yI [] le2 ⟨_,_,rfl,rfl,h7⟩
     · rintro I1 hf le1 _ _ ⟨p5,c5,rfl,rfl,h7⟩;refine yN [25] rfl<|tH (cAff y7 p5 c5) zA ?_;intro b4 hb4;have h15:RL I1 (cAff y7 p5 c5) ([y7]:List zA):=⟨(cAff y7 p5 c5),_,rfl,rfl,(yO ⟨_,rfl,h7⟩),rfl⟩;exact xP 0 rfl fun I01 le01 hl01=>yI [] le01 ⟨_,rfl,rfl,SL.of_frozen hl01 le01 h15⟩
     rintro I1 hf le1 _ _ ⟨rfl,rfl⟩ _ _ ⟨b4,rfl,rfl,h16⟩ _ _ rfl;refine yN [22,26] rfl ?_;obtain ⟨ccs4,k03,k04⟩:=h16;exact qI 38 2 0 rfl rfl rfl (iM le1 xlo) (.inl k03) k04 hl fun p11 c11 cs5 h17=>vH (hs':=(hO zA (vS p11 l c11) cs5::hO Raw2 (vS p2 (xs.map NL.raw) c2) cs::hf)) rfl<|yI [hO zA (vS p11 l c11) cs5] iR ⟨_,_,_,rfl,rfl,h17⟩
   rintro I5 le5 _ _ ⟨rfl,rfl⟩ _ _ ⟨kk,rfl,rfl,h5⟩ _ _ ⟨p6,c6,cs6,rfl,rfl,h6⟩;have h2:=iM le5 h2;refine yN [5,18,27] rfl<|mF 2 rfl rfl rfl h2 hxr ?_;intro ad ccs hat hcc hrep;obtain ⟨rfl,o1,o2⟩:=hrep;refine yB 12 [] [29] rfl<|qM (c:=[vS p6 l c6,x.vh]) (x':=(⟨vS p6 l c6,x.vh⟩:Raw2)) 2 0 rfl rfl rfl hat rfl rfl hcc (by kernel_rfl) (by kernel_rfl) (by kernel_rfl) h2 hxr (by kernel_rfl) ⟨rfl,rfl,rfl⟩ fun cs7 h7 hlen=>vH (hs':=[hO zA (vS p6 l c6) cs6,hB r01 kk,hO Raw2 (vS p2 (xs.map NL.raw) c2) cs7]) rfl<|xP 0 rfl ?_;intro I6 le6 hl6;have klo:=SL.of_frozen hl6 le6 h6;have hpw:=zHo (r:=⟨vS p6 l c6,x.vh⟩) (d:=⟨l,x.hi⟩) (fun j y hj hy=>((hfz j y hj hy).mono le5).mono le6) ⟨klo,(khi.mono le5).mono le6⟩;have h8:=hpw.rl;have e8:=jM h7;obtain rfl:=zC N;have eL:vS p2 (xs.map NL.raw) c2=vS p2 ((xs.map NL.d).set 0 (⟨l,x.hi⟩:zD)) c2:=by simp [vS]
   rw [show (0:Int).toNat=0 from rfl] at e8 h8;rw [← e8] at h8;rw [eL];exact sD (zY [1,0] (hs':=[hO zD (vS p2 ((xs.map NL.d).set 0 (⟨l,x.hi⟩:zD)) c2) cs7,hB r01 kk]))<|yJ [] [5] rfl<|zP<|zI<|pJ [(5,vS p2 ((xs.map NL.d).set 0 (⟨l,x.hi⟩:zD)) c2)]<|zBB h8 (Rp.mono le6 h5)
 intro hc0 N;refine yG [0,5,6,15,30] rfl<|zI<|yE N ?_ ?_
 · intro hc1 N;obtain ⟨x,hx,N⟩:=zB N;obtain ⟨x,hx2,rfl⟩:=zFv hx;have hx:=hx2; clear hx2;have hxr:=zBQ (f:=NL.raw) hx;refine zAr xs hxs ?_;intro I3 le3 hfz;obtain ⟨flo,fhi⟩:=hfz x (List.mem_of_getElem? (qK hx).2.2);have ⟨h2,h4⟩:=m2 le3 h2 h4;refine zK<|yB 3 [] [32,34] rfl<|mF 0 rfl rfl rfl h2 hxr ?_;intro ad ccs hat hcc hrep;obtain ⟨rfl,o1,o2⟩:=hrep;refine yB 5 [] [36] rfl<|qM (c:=[x.vl,z0]) (x':=(⟨x.vl,z0⟩:Raw2)) 0 1 rfl rfl rfl hat rfl rfl hcc (by kernel_rfl) (by kernel_rfl) (by kernel_rfl) h2 hxr (by kernel_rfl) ⟨rfl,rfl,rfl⟩ ?_;intro cs7 h7 hlen;have hpw:=zHo (k:=(W (((xs.map NL.raw).length:Int) - 1)).toNat) (r:=⟨x.vl,z0⟩) (d:=⟨x.lo,[]⟩) (fun j y hj hy=>hfz y (List.mem_of_getElem? hy)) ⟨flo,SL.nil _⟩;have h8:=hpw.rl;rw [← jM h7] at h8;obtain rfl:=zC N;have eL:vS p2 (xs.map NL.raw) c2=vS p2 ((xs.map NL.d).set (W (((xs.map NL.raw).length:Int) - 1)).toNat (⟨x.lo,[]⟩:zD)) c2:=by simp only [vS,List.length_set,List.length_map]
   rw [eL];exact vH (hs':=[hO zD (vS p2 ((xs.map NL.d).set (W (((xs.map NL.raw).length:Int) - 1)).toNat (⟨x.lo,[]⟩:zD)) c2) cs7,hB r01 (cRd y3 p3 c3)]) rfl<|yJ [] [5] rfl<|zP<|zI<|pJ [(5,vS p2 ((xs.map NL.d).set (W (((xs.map NL.raw).length:Int) - 1)).toNat (⟨x.lo,[]⟩:zD)) c2)]<|zBB h8 (yR ⟨_,rfl,h4⟩)
 intro hc1 N;refine yG [0,5,6,15,37] rfl<|zI<|yE N ?_ ?_
 · intro hc2 N;obtain ⟨x,hx,N⟩:=zB N;obtain ⟨y7,hy7,N⟩:=zB N;obtain ⟨y8,hy8,N⟩:=zB N;obtain ⟨l,hl,N⟩:=zB N;obtain ⟨x,hx2,rfl⟩:=zFv hx;have hx:=hx2; clear hx2;refine zKd hx hxs ?_;intro I3 le3 hfz;obtain ⟨xlo,xhi⟩:=hxs x (qK hx |>.2.2 |> List.mem_of_getElem?);replace xlo:=iM le3 xlo;replace xhi:=iM le3 xhi;have ⟨h2,h4⟩:=m2 le3 h2 h4;clear hxs;refine oM 1 rfl ?_;intro I4 le4 hl4;have klo:=SL.of_frozen hl4 le4 xlo;replace xhi:=iM le4 xhi;have ⟨h2,h4⟩:=m2 le4 h2 h4;have hfz:=fun j y hj hy=>(hfz j y hj hy).mono le4;have hxr:=zBQ (f:=NL.raw) hx;refine pJ [(5,vS p2 (xs.map NL.raw) c2),(6,vI ((xs.map NL.raw).length:Int))]<|wA [.p (vS p2 (xs.map NL.raw) c2) [],.p (vI ((xs.map NL.raw).length:Int)) [],.p (vI (W (((xs.map NL.raw).length:Int) - 1))) [],.p (vS p2 (xs.map NL.raw) c2) [],.p (vI ((xs.map NL.raw).length:Int)) [],.p (vI (W (((xs.map NL.raw).length:Int) - 1))) [],.x (fun I' v hx'=>∃ ad,v=.pointer (some ad)∧hx'=[]∧AtO (vS p2 (xs.map NL.raw) c2) 2 (W (((xs.map NL.raw).length:Int) - 1)).toNat ad),.x (fun I' v hx'=>∃ ad,v=.pointer (some (ad.add 1))∧hx'=[]∧AtO (vS p2 (xs.map NL.raw) c2) 2 (W (((xs.map NL.raw).length:Int) - 1)).toNat ad),.x (fun I' v hx'=>v=x.vh∧hx'=[]),.x (fun I' v hx'=>∃ p5 c5,v=vA (cAff y7 p5 c5)∧hx'=[]∧SL I' (vS p5 y7.Coefs c5) y7.Coefs),.x (fun I' v hx'=>∃ p5 c5,v=vA (cAff y8 p5 c5)∧hx'=[]∧SL I' (vS p5 y8.Coefs c5) y8.Coefs),.x (fun I' v hx'=>∃ b4,v=vS (some ⟨b4,0,none⟩) ([y7,y8]:List zA) 2∧hx'=[]∧SL I' (vS (some ⟨b4,0,none⟩) ([y7,y8]:List zA) 2) ([y7,y8]:List zA)),.x (fun I' v hx'=>∃ p6 c6 cs6,v=vS p6 l c6∧hx'=[hO zA (vS p6 l c6) cs6]∧RL I' cs6 l)]
     [[],[],[(1,false)],[],[],[(4,false)],[(3,false),(5,false)],[(6,false)],[(7,false)],[],[],[(9,false),(10,false)],[(8,false),(11,false),(16,true)]]
     [hO Raw2 (vS p2 (xs.map NL.raw) c2) cs,hB r01 (cRd y3 p3 c3)] [[hO zA x.vh x.csh]] [(0,false),(2,false),(12,true)] (zY [1,2,0]) ?_ ?_
   · refine Op<|Op<|Op<|Op<|Op<|Op<|Ox ?_<|Ox ?_<|Ox ?_<|Ox ?_<|Ox ?_<|Ox ?_<|Ox ?_<|On
     · intro I1 hf le1;exact yN [42,44] rfl<|mF 0 rfl rfl rfl (iM le1 h2) hxr fun ad ccs hat hcc hrep=>yI [] iR ⟨_,rfl,rfl,hat⟩
     · rintro I1 hf le1 _ _ ⟨ad,rfl,rfl,hat⟩;exact nT<|zBh [(45,.pointer (some ad))]<|tM 8 [(46,.pointer (some (ad.add 1)))]<|yI [] iR ⟨_,rfl,rfl,hat⟩
     · rintro I1 hf le1 _ _ ⟨ad,rfl,rfl,hat⟩;refine yN [46] rfl ?_;have hrep:=h2.at (qK hxr).2.2;obtain ⟨⟨hcc,o1,o2⟩,_⟩:=hrep;exact zDC 0 1 hat hcc [x.vh] x.vh rfl rfl<|yP iR
     · intro I1 hf le1;refine gY []<|xQ (uL 1 _ hy7) ?_;rintro I02 hs2 v2 k2 le2 - ⟨p5,c5,cs5,rfl,rfl,h5⟩ -;exact xP 0 rfl fun I03 le3 hl3=>zGF (hx:=[]) rfl (le2.trans le3) rfl (zGG rfl) ⟨_,_,rfl,rfl,SL.of_frozen hl3 le3 h5⟩
     · intro I1 hf le1;refine gY []<|xQ (uL 2 _ hy8) ?_;rintro I02 hs2 v2 k2 le2 - ⟨p5,c5,cs5,rfl,rfl,h5⟩ -;exact xP 0 rfl fun I03 le3 hl3=>zGF (hx:=[]) rfl (le2.trans le3) rfl (zGG rfl) ⟨_,_,rfl,rfl,SL.of_frozen hl3 le3 h5⟩
     · rintro I1 hf le1 _ _ ⟨p5,c5,rfl,rfl,h7⟩ _ _ ⟨p6,c6,rfl,rfl,h8⟩;refine yN [48,49] rfl<|tH [vS p5 y7.Coefs c5,vI y7.Const,vS p6 y8.Coefs c6,vI y8.Const] zA ?_;intro b4 hb4;have h15:RL I1 [vS p5 y7.Coefs c5,vI y7.Const,vS p6 y8.Coefs c6,vI y8.Const] ([y7,y8]:List zA):=⟨(cAff y7 p5 c5),_,rfl,rfl,(yO ⟨_,rfl,h7⟩),⟨(cAff y8 p6 c6),_,rfl,rfl,(yO ⟨_,rfl,h8⟩),rfl⟩⟩;exact xP 0 rfl fun I01 le01 hl01=>yI [] le01 ⟨_,rfl,rfl,SL.of_frozen hl01 le01 h15⟩
     rintro I1 hf le1 _ _ ⟨rfl,rfl⟩ _ _ ⟨b4,rfl,rfl,h16⟩ _ _ rfl;refine yN [47,50] rfl ?_;obtain ⟨ccs4,k03,k04⟩:=h16;exact qI 38 2 0 rfl rfl rfl (iM le1 xhi) (.inl k03) k04 hl fun p11 c11 cs5 h17=>vH (hs':=(hO zA (vS p11 l c11) cs5::hO Raw2 (vS p2 (xs.map NL.raw) c2) cs::hB r01 (cRd y3 p3 c3)::hf)) rfl<|yI [hO zA (vS p11 l c11) cs5] iR ⟨_,_,_,rfl,rfl,h17⟩
   rintro I5 le5 _ _ ⟨rfl,rfl⟩ _ _ ⟨rfl,rfl⟩ _ _ ⟨p6,c6,cs6,rfl,rfl,h6⟩;have h2:=iM le5 h2;refine yN [5,39,41,51] rfl<|mF 1 rfl rfl rfl h2 hxr ?_;intro ad ccs hat hcc hrep;obtain ⟨rfl,o1,o2⟩:=hrep;refine yB 15 [] [53] rfl<|qM (c:=[x.vl,vS p6 l c6]) (x':=(⟨x.vl,vS p6 l c6⟩:Raw2)) 1 1 rfl rfl rfl hat rfl rfl hcc (by kernel_rfl) (by kernel_rfl) (by kernel_rfl) h2 hxr (by kernel_rfl) ⟨rfl,rfl,rfl⟩ fun cs7 h7 hlen=>vH (hs':=[hO zA (vS p6 l c6) cs6,hO Raw2 (vS p2 (xs.map NL.raw) c2) cs7,hB r01 (cRd y3 p3 c3)]) rfl<|xP 0 rfl ?_;intro I6 le6 hl6;have khi:=SL.of_frozen hl6 le6 h6;have hpw:=zHo (k:=(W (((xs.map NL.raw).length:Int) - 1)).toNat) (r:=⟨x.vl,vS p6 l c6⟩) (d:=⟨x.lo,l⟩) (fun j y hj hy=>((hfz j y hj hy).mono le5).mono le6) ⟨(klo.mono le5).mono le6,khi⟩;have h8:=hpw.rl;rw [← jM h7] at h8;obtain rfl:=zC N;have eL:vS p2 (xs.map NL.raw) c2=vS p2 ((xs.map NL.d).set (W (((xs.map NL.raw).length:Int) - 1)).toNat (⟨x.lo,l⟩:zD)) c2:=by simp only [vS,List.length_set,List.length_map]
   rw [eL];exact vH (hs':=[hO zD (vS p2 ((xs.map NL.d).set (W (((xs.map NL.raw).length:Int) - 1)).toNat (⟨x.lo,l⟩:zD)) c2) cs7,hB r01 (cRd y3 p3 c3)]) rfl<|yJ [] [5] rfl<|zP<|zI<|pJ [(5,vS p2 ((xs.map NL.d).set (W (((xs.map NL.raw).length:Int) - 1)).toNat (⟨x.lo,l⟩:zD)) c2)]<|zBB h8 (yR ⟨_,rfl,(h4.mono le5).mono le6⟩)
 intro hc2 N;refine zAr xs hxs ?_;intro I3 le3 hfz;have ⟨h2,h4⟩:=m2 le3 h2 h4;clear hxs;refine yG [0,5,6,15,54] rfl<|zI<|yE N ?_ ?_
 · intro hc3 N;obtain ⟨y7,hy7,N⟩:=zB N;obtain ⟨x,hx,N⟩:=zB N;obtain ⟨x,hx2,rfl⟩:=zFv hx;have hx:=hx2; clear hx2;have hxr:=zBQ (f:=NL.raw) hx;refine zK<|yB 1 [] [56] rfl<|xQ (uL 99 _ hy7) ?_;rintro I4 hs2 v2 k2 le4 - ⟨p5,c5,cs5,rfl,rfl,h5⟩ -;refine xP 0 rfl ?_;intro I5 le5 hl5;have h7:=SL.of_frozen hl5 le5 h5;refine tH (cAff y7 p5 c5) zA ?_;intro b4 hb4;have h15:RL I5 (cAff y7 p5 c5) ([y7]:List zA):=⟨(cAff y7 p5 c5),_,rfl,rfl,(yO ⟨_,rfl,h7⟩),rfl⟩;refine xP 0 rfl ?_;intro I6 le6 hl6;have khi:SL I6 (vS (some ⟨b4,0,none⟩) ([y7]:List zA) 1) [y7]:=SL.of_frozen hl6 le6 h15;have le:=(le4.trans le5).trans le6;have ⟨h2,h4⟩:=m2 le h2 h4;have hfz:=fun x hx=>(hfz x hx).mono le;obtain ⟨flo,fhi⟩:=hfz x (List.mem_of_getElem? (qK hx).2.2);refine mF 0 rfl rfl rfl h2 hxr ?_;intro ad ccs hat hcc hrep;obtain ⟨rfl,o1,o2⟩:=hrep;refine yB 5 [] [60] rfl<|qM (c:=[x.vl,vS (some ⟨b4,0,none⟩) ([y7]:List zA) 1]) (x':=(⟨x.vl,vS (some ⟨b4,0,none⟩) ([y7]:List zA) 1⟩:Raw2)) 0 1 rfl rfl rfl hat rfl rfl hcc (by kernel_rfl) (by kernel_rfl) (by kernel_rfl) h2 hxr (by kernel_rfl) ⟨rfl,rfl,rfl⟩ ?_;intro cs7 h7 hlen;have hpw:=zHo (k:=0) (r:=⟨x.vl,vS (some ⟨b4,0,none⟩) ([y7]:List zA) 1⟩) (d:=⟨x.lo,[y7]⟩) (fun j y hj hy=>hfz y (List.mem_of_getElem? hy)) ⟨flo,khi⟩;have h8:=hpw.rl;have e8:=jM h7;rw [show (0:Int).toNat=0 from rfl] at e8;rw [← e8] at h8;obtain rfl:=zC N;have eL:vS p2 (xs.map NL.raw) c2=vS p2 ((xs.map NL.d).set 0 (⟨x.lo,[y7]⟩:zD)) c2:=by simp only [vS,List.length_set,List.length_map]
   rw [eL];exact vH (hs':=[hO zD (vS p2 ((xs.map NL.d).set 0 (⟨x.lo,[y7]⟩:zD)) c2) cs7,hB r01 (cRd y3 p3 c3)]) rfl<|yJ [] [5] rfl<|zP<|zI<|pJ [(5,vS p2 ((xs.map NL.d).set 0 (⟨x.lo,[y7]⟩:zD)) c2)]<|zBB h8 (yR ⟨_,rfl,h4⟩)
 intro hc3 N;have h8:=zGO hfz;rw [← jM h2] at h8;rw [zL1];refine yG [0,5,15,61] rfl<|zI<|yE N ?_ ?_
 · intro hc4 N;obtain ⟨z,hz,N⟩:=zB N;obtain rfl:=zC N;exact yH<|pJ [(5,vS p2 (xs.map NL.d) c2)]<|zCf (xs.map NL.d) z hz iR h8 (fun _ _ _ h=>h) (fun _ _ h=>h) fun I4 p6 c6 cs6 le4 h9=>zR<|zP<|zI<|pJ [(5,vS p6 z c6)]<|zBB h9 (yR ⟨_,rfl,h4.mono le4⟩)
 intro hc4 N;obtain rfl:=zC N;exact zS<|zP<|zI<|pJ [(5,vS p2 (xs.map NL.d) c2)]<|zBB h8 (yR ⟨_,rfl,h4⟩)
def zDP (b0:Nat) (r:zN×zL):KT:=fun kk I' hs' v=>
  ∃ v0 k0,hs'=[.blk b0 ⟨k0⟩]∧v=tupV [v0]∧(∃ cs,v0=.agg ⟨cs⟩∧Rp.rep I' cs r.1)∧Rp.rep I' k0 r.2
def sM (r0:zL) (s:zN):Option (zN×zL):=do
 let y←jN s
 let (y2,y3)←yU r0 40
 let (WriteArray,WriteSubs,ValueKind,ValueNum,ValueKids,x)←(do
   if (y2 == 0) then
    let (y5,y6)←rW y3 ([(⟨[69]⟩:Str),(⟨[]⟩:Str),(⟨[65,66]⟩:Str),(⟨[97]⟩:Str)]:List Str)
    pure (y5,y.Write.Subs,y.Value.Kind,y.Value.Num,y.Value.Kids,y6)
   else
    let (WriteSubs1,ValueKind1,ValueNum1,ValueKids1,x1)←(do
      if (y2 == 1) then
       let y7←nI 3
       let y8←oJ
       let l←app 32 y.Write.Subs ([y7,y8]:List zA)
       pure (l,y.Value.Kind,y.Value.Num,y.Value.Kids,y3)
      else
       let (ValueKind2,ValueNum2,ValueKids2,x2)←(do
         if (y2 == 2) then
          let (y10,y11)←xB y3 ([0,7,1,4,2]:List Int)
          pure (y10,y.Value.Num,y.Value.Kids,y11)
         else
          let (ValueNum3,ValueKids3,x3)←(do
            if (y2 == 3) then
             let (y13,y14)←xB y3 ([100,(-1),1]:List Int)
             pure (y13,y.Value.Kids,y14)
            else
             let ValueKids4←(do
               if (y2 == 4) then
                let l1←app 112 y.Value.Kids ([(zG.mk 1 0 (zA.mk ([]:List Int) 0) (zJ.mk (⟨[]⟩:Str) ([]:List zA)) ([]:List zG))]:List zG)
                pure (id l1)
               else
                pure y.Value.Kids
                 : Option (List zG))
             pure (y.Value.Num,ValueKids4,y3)
              : Option (Int×List zG×zL))
          pure (y.Value.Kind,ValueNum3,ValueKids3,x3)
           : Option (Int×Int×List zG×zL))
       pure (y.Write.Subs,ValueKind2,ValueNum2,ValueKids2,x2)
        : Option (List zA×Int×Int×List zG×zL))
    pure (y.Write.Array,WriteSubs1,ValueKind1,ValueNum1,ValueKids1,x1)
     : Option (Str×List zA×Int×Int×List zG×zL))
 pure ((zN.mk (zJ.mk WriteArray WriteSubs) (zG.mk ValueKind ValueNum y.Value.Index y.Value.Read ValueKids)),x)
theorem eT:∀ r0 s r,sM r0 s=some r→∀ {I:Imm}{r01:Nat}{p c p1 c1 p2 c2 p3 c3 p4 c4},(S4 I p r0.b c)→(S4 I p1 s.Write.Subs c1)→(S4 I p2 s.Value.Index.Coefs c2)→(S4 I p3 s.Value.Read.Subs c3)→(S4 I p4 s.Value.Kids c4)→RT 98 [vP r01 0,vA (cStmt s p1 c1 p2 c2 p3 c3 p4 c4)] I [hB r01 (cRd r0 p c)] (zDP r01 r):=by
 intro r0 s r N I r01 p c p1 c1 p2 c2 p3 c3 p4 c4 h h1 h2 h3 h4;unfold sM at N;refine yM Tryz.func98 fun B=>?_;have H:=iS I;refine yF<|vX (cStmt s p1 c1 p2 c2 p3 c3 p4 c4) ?_;intro b hb;refine wH [vT ([]),z0,vI 0,vI 0,z0,vI 0,vT ([]),z0,z0] ?_;intro b1 hb1;refine yA rfl<|yV<|yB 1 [1] [6] rfl<|bE N fun y hy N=>xQ (zCI s _ hy h1 h2 h3 h4) ?_;rintro I0 hs2 v2 k2 le - ⟨p5,c5,cs,p6,c6,p7,c7,p8,c8,cs1,rfl,rfl,h5,h6,h7,h8⟩ -;have ⟨h,H⟩:=m2 le h H;refine wH [vT ([]),z0,vI 0,vI 0,z0,vI 0,vT ([]),z0,z0] ?_;intro b2 hb2;refine xI 0 (cStmt y p5 c5 p6 c6 p7 c7 p8 c8) rfl<|yA rfl<|zZ<|yF<|yB 1 [] [8] rfl<|sD (zY [5,0,1,2,3,4] (hs':=[hB r01 (cRd r0 p c),hB b2 (cStmt y p5 c5 p6 c6 p7 c7 p8 c8),hO zA (vS p5 y.Write.Subs c5) cs,hO zG (vS p8 y.Value.Kids c8) cs1,hB b1 [vT ([]),z0,vI 0,vI 0,z0,vI 0,vT ([]),z0,z0],hB b (cStmt s p1 c1 p2 c2 p3 c3 p4 c4)])) ?_;obtain ⟨⟨y2,y3⟩,hy1,N⟩:=zB N;refine sE (xR r0 40 _ hy1 h) rfl ?_;rintro I01 hs2 v2 k2 le1 - ⟨v0,kk,rfl,rfl,rfl,h10⟩ -;have ⟨h5,h6,h7,h8,H⟩:=m5 le1 h5 h6 h7 h8 H;obtain ⟨p9,c9,rfl,h11⟩:=yD h10;refine yA rfl<|xZ<|yG [10] rfl<|zI<|oM 5 rfl ?_;intro I02 le2 hl0;have hat:At I02 ⟨b,0,none⟩ (cStmt s p1 c1 p2 c2 p3 c3 p4 c4):=At.of_blk hl0;have ⟨h11,h5,h6,h7,h8,H⟩:=m6 le2 h11 h5 h6 h7 h8 H;obtain ⟨o0,ho0,hMc⟩:=zB N;refine qL (fun I' hs' m'=>∃ (WriteArray:Str) (WriteSubs:List zA) (ValueKind:Int) (ValueNum:Int) (ValueKids:List zG) (x:zL) (p10:Option Addr) (c10:Nat) (cs2:List Value) (p11:Option Addr) (c11:Nat) (cs3:List Value) (p12:Option Addr) (c12:Nat),o0=(WriteArray,WriteSubs,ValueKind,ValueNum,ValueKids,x)∧I02.le I'∧(RL I' cs2 WriteSubs)∧(RL I' cs3 ValueKids)∧(S4 I' p12 x.b c12)∧hs'=[hB r01 (cRd x p12 c12),hB b2 [vT WriteArray.l,vS p10 WriteSubs c10,vI ValueKind,vI ValueNum,vS p6 y.Value.Index.Coefs c6,vI y.Value.Index.Const,vT y.Value.Read.Array.l,vS p7 y.Value.Read.Subs c7,vS p11 ValueKids c11],hO zA (vS p10 WriteSubs c10) cs2,hO zG (vS p11 ValueKids c11) cs3,hB b1 [vT ([]),z0,vI 0,vI 0,z0,vI 0,vT ([]),z0,z0]]∧m'=[(4,vP b1 0),(5,vP b2 0)]) ?_ ?_
 · have H:=iS I02;refine yE ho0 ?_ ?_
   · intro hc N;refine zK<|yB 1 [] [12] rfl<|nQ (rT [(⟨[69]⟩:Str),(⟨[]⟩:Str),(⟨[65,66]⟩:Str),(⟨[97]⟩:Str)]) ?_;intro b3 I04 le3 h16;have ⟨h11,h5,h8,H⟩:=m4 le3 h11 h5 h8 H;obtain ⟨⟨y5,y6⟩,hy2,N⟩:=zB N;refine sE (kQ y3 ([(⟨[69]⟩:Str),(⟨[]⟩:Str),(⟨[65,66]⟩:Str),(⟨[97]⟩:Str)]:List Str) _ hy2 h11 h16) rfl ?_;rintro I05 hs2 v2 k2 le4 - ⟨v02,kk1,rfl,rfl,rfl,h18⟩ -;have ⟨h5,h8,H⟩:=m3 le4 h5 h8 H;obtain ⟨p13,c13,rfl,h19⟩:=yD h18;exact yB 5 [] [16] rfl<|xI 1 [vT y5.l,vS p5 y.Write.Subs c5,vI y.Value.Kind,vI y.Value.Num,vS p6 y.Value.Index.Coefs c6,vI y.Value.Index.Const,vT y.Value.Read.Array.l,vS p7 y.Value.Read.Subs c7,vS p8 y.Value.Kids c8] rfl<|yA rfl<|yQ<|zT ⟨_,_,_,_,_,_,_,_,_,_,_,_,_,_,(zC N).symm,H,h5,h8,h19,rfl,rfl⟩
   intro hc N;refine yG [17] rfl<|zI ?_;obtain ⟨o01,ho01,hMc1⟩:=zB N;refine qL (fun I' hs' m'=>∃ (WriteSubs1:List zA) (ValueKind1:Int) (ValueNum1:Int) (ValueKids1:List zG) (x1:zL) (p14:Option Addr) (c14:Nat) (cs4:List Value) (p15:Option Addr) (c15:Nat) (cs5:List Value) (p16:Option Addr) (c16:Nat),o01=(WriteSubs1,ValueKind1,ValueNum1,ValueKids1,x1)∧I02.le I'∧(RL I' cs4 WriteSubs1)∧(RL I' cs5 ValueKids1)∧(S4 I' p16 x1.b c16)∧hs'=[hB r01 (cRd x1 p16 c16),hB b2 [vT y.Write.Array.l,vS p14 WriteSubs1 c14,vI ValueKind1,vI ValueNum1,vS p6 y.Value.Index.Coefs c6,vI y.Value.Index.Const,vT y.Value.Read.Array.l,vS p7 y.Value.Read.Subs c7,vS p15 ValueKids1 c15],hO zA (vS p14 WriteSubs1 c14) cs4,hO zG (vS p15 ValueKids1 c15) cs5,hB b1 [vT ([]),z0,vI 0,vI 0,z0,vI 0,vT ([]),z0,z0]]∧m'=[(4,vP b1 0),(5,vP b2 0)]) ?_ ?_
   · have H:=iS I02;refine yE ho01 ?_ ?_
     · intro hc1 N;obtain ⟨y7,hy3,N⟩:=zB N;obtain ⟨y8,hy4,N⟩:=zB N;obtain ⟨l,hy5,N⟩:=zB N;refine wA [.p (vP b2 0) [],.p (vP b2 1) [],.p (vS p5 y.Write.Subs c5) [1],.x (eVAff y7),.x (fun I' v hx=>∃ p18 c18 cs7,v=vA (cAff y8 p18 c18)∧hx=[hO Int (vS p18 y8.Coefs c18) cs7]∧(RL I' cs7 y8.Coefs)),.x (fun I' v hx=>∃ b4,v=vS (some ⟨b4,0,none⟩) ([y7,y8]:List zA) 2∧hx=[]∧(SL I' (vS (some ⟨b4,0,none⟩) ([y7,y8]:List zA) 2) ([y7,y8]:List zA))),.x (fun I' v hx=>∃ p19 c19 cs8,v=vS p19 l c19∧hx=[hO zA (vS p19 l c19) cs8]∧(RL I' cs8 l))] [[],[(0,false)],[(1,false)],[],[],[(3,false),(4,true)],[(2,false),(5,false),(10,true)]] [hB r01 (cRd y3 p9 c9),hB b2 (cStmt y p5 c5 p6 c6 p7 c7 p8 c8),hO zG (vS p8 y.Value.Kids c8) cs1,hB b1 [vT ([]),z0,vI 0,vI 0,z0,vI 0,vT ([]),z0,z0]] [[hO zA (vS p5 y.Write.Subs c5) cs]] [(6,true)] (zY [0,1,3,4,2]) ?_ ?_
       · refine Op<|Op<|Op<|Ox ?_<|Ox ?_<|Ox ?_<|Ox ?_<|On
         · intro I1 hf le1;refine gY [] ?_;have H:=iS I1;refine xQ (fC 3 _ hy3 ) ?_;rintro I07 hs2 v2 k2 le5 - ⟨v04,rfl,rfl,⟨cs6,rfl,h23⟩⟩ -;have H:=H.trans le5;obtain ⟨p17,c17,rfl,h24⟩:=yL h23;exact yI [] H ⟨_,_,rfl,rfl,h24⟩
         · intro I1 hf le1;refine gY [] ?_;have H:=iS I1;refine xQ (kR  _ hy4 ) ?_;rintro I08 hs2 v2 k2 le6 - ⟨p18,c18,cs7,rfl,rfl,h25⟩ -;have H:=H.trans le6;exact yI [hO Int (vS p18 y8.Coefs c18) cs7] H ⟨_,_,_,rfl,rfl,h25⟩
         · rintro I1 hf le1 _ _ ⟨p17,c17,rfl,rfl,h24⟩ _ _ ⟨p18,c18,cs7,rfl,rfl,h25⟩;refine yN [22,23] rfl ?_;have H:=iS I1;refine xP 0 rfl ?_;intro I09 le7 hl02;have h26:=SL.of_frozen hl02 le7 h25;have ⟨h24,H⟩:=m2 le7 h24 H;refine nQ (rc y7 (yO ⟨_,rfl,h24⟩) (rc y8 (yO ⟨_,rfl,h26⟩) rN)) ?_;intro b4 I010 le8 h28;have H:=H.trans le8;exact yI [] H ⟨_,rfl,rfl,h28⟩
         rintro I1 hf le1 _ _ ⟨rfl,rfl⟩ _ _ ⟨b4,rfl,rfl,h28⟩ _ _ rfl;refine yN [21,24] rfl ?_;have h5:=iM le1 h5;obtain ⟨ccs,k0,k01⟩:=h28;have h28:SL I1 (vS (some ⟨b4,0,none⟩) ([y7,y8]:List zA) 2) ([y7,y8]:List zA):=⟨_,k0,k01⟩;exact qI 38 2 0 rfl rfl rfl h5 (.inl k0) k01 hy5 fun p19 c19 cs8 h29=>vH (hs':=(hO zA (vS p19 l c19) cs8::hB r01 (cRd y3 p9 c9)::hB b2 (cStmt y p5 c5 p6 c6 p7 c7 p8 c8)::hO zG (vS p8 y.Value.Kids c8) cs1::hB b1 [vT ([]),z0,vI 0,vI 0,z0,vI 0,vT ([]),z0,z0]::hf)) rfl<|yI [hO zA (vS p19 l c19) cs8] iR ⟨_,_,_,rfl,rfl,h29⟩
       rintro I011 le9 _ _ ⟨p19,c19,cs8,rfl,rfl,h29⟩;refine yN [4,5,25] rfl ?_;have ⟨h11,h8,H⟩:=m3 le9 h11 h8 H;exact yB 9 [] [27] rfl<|xI 2 [vT y.Write.Array.l,vS p19 l c19,vI y.Value.Kind,vI y.Value.Num,vS p6 y.Value.Index.Coefs c6,vI y.Value.Index.Const,vT y.Value.Read.Array.l,vS p7 y.Value.Read.Subs c7,vS p8 y.Value.Kids c8] rfl<|yA rfl<|xT (zX [1,2,0,3,4] rfl (by decide))<|yQ<|zT ⟨_,_,_,_,_,_,_,_,_,_,_,_,_,(zC N).symm,H,h29,h8,h11,rfl,rfl⟩
     intro hc1 N;refine yG [28] rfl<|zI ?_;obtain ⟨o02,ho02,hMc2⟩:=zB N;refine qL (fun I' hs' m'=>∃ (ValueKind2:Int) (ValueNum2:Int) (ValueKids2:List zG) (x2:zL) (p20:Option Addr) (c20:Nat) (cs9:List Value) (p21:Option Addr) (c21:Nat),o02=(ValueKind2,ValueNum2,ValueKids2,x2)∧I02.le I'∧(RL I' cs9 ValueKids2)∧(S4 I' p21 x2.b c21)∧hs'=[hB r01 (cRd x2 p21 c21),hB b2 [vT y.Write.Array.l,vS p5 y.Write.Subs c5,vI ValueKind2,vI ValueNum2,vS p6 y.Value.Index.Coefs c6,vI y.Value.Index.Const,vT y.Value.Read.Array.l,vS p7 y.Value.Read.Subs c7,vS p20 ValueKids2 c20],hO zA (vS p5 y.Write.Subs c5) cs,hO zG (vS p20 ValueKids2 c20) cs9,hB b1 [vT ([]),z0,vI 0,vI 0,z0,vI 0,vT ([]),z0,z0]]∧m'=[(4,vP b1 0),(5,vP b2 0)]) ?_ ?_
     · have H:=iS I02;refine yE ho02 ?_ ?_
       · intro hc2 N;refine zK<|yB 1 [] [30] rfl<|nQ (rI [0,7,1,4,2]) ?_;intro b5 I013 le10 h33;have ⟨h11,h8,H⟩:=m3 le10 h11 h8 H;obtain ⟨⟨y10,y11⟩,hy6,N⟩:=zB N;refine sE (xN y3 ([0,7,1,4,2]:List Int) _ hy6 h11 h33) rfl ?_;rintro I014 hs2 v2 k2 le11 - ⟨v06,kk2,rfl,rfl,rfl,h35⟩ -;have ⟨h8,H⟩:=m2 le11 h8 H;obtain ⟨p22,c22,rfl,h36⟩:=yD h35;exact yB 5 [] [34] rfl<|xI 1 [vT y.Write.Array.l,vS p5 y.Write.Subs c5,vI y10,vI y.Value.Num,vS p6 y.Value.Index.Coefs c6,vI y.Value.Index.Const,vT y.Value.Read.Array.l,vS p7 y.Value.Read.Subs c7,vS p8 y.Value.Kids c8] rfl<|yA rfl<|yQ<|zT ⟨_,_,_,_,_,_,_,_,_,(zC N).symm,H,h8,h36,rfl,rfl⟩
       intro hc2 N;refine yG [35] rfl<|zI ?_;obtain ⟨o03,ho03,hMc3⟩:=zB N;refine qL (fun I' hs' m'=>∃ (ValueNum3:Int) (ValueKids3:List zG) (x3:zL) (p23:Option Addr) (c23:Nat) (cs10:List Value) (p24:Option Addr) (c24:Nat),o03=(ValueNum3,ValueKids3,x3)∧I02.le I'∧(RL I' cs10 ValueKids3)∧(S4 I' p24 x3.b c24)∧hs'=[hB r01 (cRd x3 p24 c24),hB b2 [vT y.Write.Array.l,vS p5 y.Write.Subs c5,vI y.Value.Kind,vI ValueNum3,vS p6 y.Value.Index.Coefs c6,vI y.Value.Index.Const,vT y.Value.Read.Array.l,vS p7 y.Value.Read.Subs c7,vS p23 ValueKids3 c23],hO zA (vS p5 y.Write.Subs c5) cs,hO zG (vS p23 ValueKids3 c23) cs10,hB b1 [vT ([]),z0,vI 0,vI 0,z0,vI 0,vT ([]),z0,z0]]∧m'=[(4,vP b1 0),(5,vP b2 0)]) ?_ ?_
       · have H:=iS I02;refine yE ho03 ?_ ?_
         · intro hc3 N;refine zK<|yB 1 [] [37] rfl<|nQ (rI [100,(-1),1]) ?_;intro b6 I016 le12 h40;have ⟨h11,h8,H⟩:=m3 le12 h11 h8 H;obtain ⟨⟨y13,y14⟩,hy7,N⟩:=zB N;refine sE (xN y3 ([100,(-1),1]:List Int) _ hy7 h11 h40) rfl ?_;rintro I017 hs2 v2 k2 le13 - ⟨v08,kk3,rfl,rfl,rfl,h42⟩ -;have ⟨h8,H⟩:=m2 le13 h8 H;obtain ⟨p25,c25,rfl,h43⟩:=yD h42;exact yB 5 [] [41] rfl<|xI 1 [vT y.Write.Array.l,vS p5 y.Write.Subs c5,vI y.Value.Kind,vI y13,vS p6 y.Value.Index.Coefs c6,vI y.Value.Index.Const,vT y.Value.Read.Array.l,vS p7 y.Value.Read.Subs c7,vS p8 y.Value.Kids c8] rfl<|yA rfl<|yQ<|zT ⟨_,_,_,_,_,_,_,_,(zC N).symm,H,h8,h43,rfl,rfl⟩
         intro hc3 N;refine yG [42] rfl<|zI ?_;obtain ⟨o04,ho04,hMc4⟩:=zB N;refine qL (fun I' hs' m'=>∃ (ValueKids4:List zG) (p26:Option Addr) (c26:Nat) (cs11:List Value),o04=ValueKids4∧I02.le I'∧(RL I' cs11 ValueKids4)∧hs'=[hB r01 (cRd y3 p9 c9),hB b2 [vT y.Write.Array.l,vS p5 y.Write.Subs c5,vI y.Value.Kind,vI y.Value.Num,vS p6 y.Value.Index.Coefs c6,vI y.Value.Index.Const,vT y.Value.Read.Array.l,vS p7 y.Value.Read.Subs c7,vS p26 ValueKids4 c26],hO zA (vS p5 y.Write.Subs c5) cs,hO zG (vS p26 ValueKids4 c26) cs11,hB b1 [vT ([]),z0,vI 0,vI 0,z0,vI 0,vT ([]),z0,z0]]∧m'=[(4,vP b1 0),(5,vP b2 0)]) ?_ ?_
         · have H:=iS I02;refine yE ho04 ?_ ?_
           · intro hc4 N;refine zK<|yB 4 [1] [46,47] rfl<|tH [vI 1,vI 0,z0,vI 0,vT ([]),z0,z0] zG ?_;intro b7 hb7;have h45:RL I02 [vI 1,vI 0,z0,vI 0,vT ([]),z0,z0] ([(zG.mk 1 0 (zA.mk ([]:List Int) 0) (zJ.mk (⟨[]⟩:Str) ([]:List zA)) ([]:List zG))]:List zG):=⟨[vI 1,vI 0,z0,vI 0,vT ([]),z0,z0],_,rfl,rfl,(xV ⟨_,_,_,rfl,(SL.nil _),(SL.nil _),(SL.nil _)⟩),rfl⟩;obtain ⟨l1,hy8,N⟩:=zB N;refine qI 41 7 4 rfl rfl rfl h8 (.inr ⟨0,rfl⟩) h45 hy8 ?_;intro p27 c27 cs12 h46;exact sD (zY [1,2,3,4,5] (hs':=[hB r01 (cRd y3 p9 c9),hB b2 (cStmt y p5 c5 p6 c6 p7 c7 p8 c8),hO zA (vS p5 y.Write.Subs c5) cs,hO zG (vS p27 l1 c27) cs12,hB b1 [vT ([]),z0,vI 0,vI 0,z0,vI 0,vT ([]),z0,z0]]))<|yB 8 [] [51] rfl<|xI 1 [vT y.Write.Array.l,vS p5 y.Write.Subs c5,vI y.Value.Kind,vI y.Value.Num,vS p6 y.Value.Index.Coefs c6,vI y.Value.Index.Const,vT y.Value.Read.Array.l,vS p7 y.Value.Read.Subs c7,vS p27 l1 c27] rfl<|yA rfl<|yQ<|zT ⟨_,_,_,_,(zC N).symm,H,h46,rfl,rfl⟩
           intro hc4 N;exact zS<|yQ<|zT ⟨_,_,_,_,(zC N).symm,H,h8,rfl,rfl⟩
         rintro I018 hs2 m2 ⟨ValueKids4,p26,c26,cs11,heq,le14,h44,rfl,rfl⟩;subst o04;have ⟨h11,H⟩:=m2 le14 h11 H;exact yQ<|zT ⟨_,_,_,_,_,_,_,_,(zC hMc4).symm,H,h44,h11,rfl,rfl⟩
       rintro I015 hs2 m2 ⟨ValueNum3,ValueKids3,x3,p23,c23,cs10,p24,c24,heq1,le15,h37,h38,rfl,rfl⟩;subst o03;have H:=H.trans le15;exact yQ<|zT ⟨_,_,_,_,_,_,_,_,_,(zC hMc3).symm,H,h37,h38,rfl,rfl⟩
     rintro I012 hs2 m2 ⟨ValueKind2,ValueNum2,ValueKids2,x2,p20,c20,cs9,p21,c21,heq2,le16,h30,h31,rfl,rfl⟩;subst o02;have ⟨h5,H⟩:=m2 le16 h5 H;exact yQ<|zT ⟨_,_,_,_,_,_,_,_,_,_,_,_,_,(zC hMc2).symm,H,h5,h30,h31,rfl,rfl⟩
   rintro I06 hs2 m2 ⟨WriteSubs1,ValueKind1,ValueNum1,ValueKids1,x1,p14,c14,cs4,p15,c15,cs5,p16,c16,heq3,le17,h20,h21,h22,rfl,rfl⟩;subst o01;have H:=H.trans le17;exact yQ<|zT ⟨_,_,_,_,_,_,_,_,_,_,_,_,_,_,(zC hMc1).symm,H,h20,h21,h22,rfl,rfl⟩
 rintro I03 hs2 m2 ⟨WriteArray,WriteSubs,ValueKind,ValueNum,ValueKids,x,p10,c10,cs2,p11,c11,cs3,p12,c12,heq4,le18,h12,h13,h14,rfl,rfl⟩;subst o0;have ⟨h6,h7⟩:=m2 le18 h6 h7;refine zP<|yV<|yB 1 [1] [52] rfl<|xI 4 [vT WriteArray.l,vS p10 WriteSubs c10,vI ValueKind,vI ValueNum,vS p6 y.Value.Index.Coefs c6,vI y.Value.Index.Const,vT y.Value.Read.Array.l,vS p7 y.Value.Read.Subs c7,vS p11 ValueKids c11] rfl<|yA rfl<|xG<|yY 2 rfl ?_;intro I019 le19 hl06;have h47:=SL.of_frozen hl06 le19 h12;have ⟨h14,h6,h7,h13⟩:=m4 le19 h14 h6 h7 h13;refine yY 2 rfl ?_;intro I020 le20 hl07;have h48:=SL.of_frozen hl07 le20 h13;have ⟨h14,h47,h6,h7⟩:=m4 le20 h14 h47 h6 h7;obtain rfl:=zC hMc;exact xA ⟨_,_,(.cell 2 rfl rfl (by kernel_rfl) ResV.nil),(zX [0] rfl (by decide)),⟨_,_,rfl,rfl,⟨_,rfl,(wQ ⟨_,_,_,_,rfl,h47,h6,h7,h48⟩)⟩,(yR ⟨_,rfl,h14⟩)⟩⟩
def fQ (b0:Nat) (r:zE×zL):KT:=fun kk I' hs' v=>
  ∃ v0 k0,hs'=[.blk b0 ⟨k0⟩]∧v=tupV [v0]∧(∃ cs,v0=.agg ⟨cs⟩∧Rp.rep I' cs r.1)∧Rp.rep I' k0 r.2
def pH (r0:zL) (p1:zE):Option (zE×zL):=do
 let y←qJ p1
 let (y2,y3)←yU r0 60
 let (Arrays,Parts,x)←(do
   if (y2 == 0) then
    let (y5,y6)←rW y3 ([(⟨[65]⟩:Str),(⟨[68]⟩:Str),(⟨[69]⟩:Str)]:List Str)
    let (y8,y9)←xB y6 ([7,0,3,(-1)]:List Int)
    let l←app 40 y.Arrays ([(zF.mk y5 ([y8]:List Int))]:List zF)
    pure (l,y.Parts,y9)
   else
    let (Arrays1,Parts1,x1)←(do
      if (y2 == 1) then
       let (Arrays2,x2)←(do
         if (decide ((y.Arrays.length:Int) > 0)) then
          let (y11,y12)←xB y3 ([1,2,7]:List Int)
          let x3←idx y.Arrays 0
          let l1←pure (y.Arrays.set (0:Int).toNat (zF.mk x3.Name ([y11]:List Int)))
          pure (l1,y12)
         else
          pure (y.Arrays,y3)
           : Option (List zF×zL))
       pure (Arrays2,y.Parts,x2)
      else
       let (Parts2,x4)←(do
         if (y2 == 2) then
          let (Parts3,x5)←(do
            if (decide ((y.Parts.length:Int) > 0)) then
             let x6←idx y.Parts 0
             let (y14,y15)←oY y3 x6.Nest
             let (y17,y18)←oY y15 y14
             let (y20,y21)←oY y18 y17
             let x7←idx y.Parts 0
             let l2←pure (y.Parts.set (0:Int).toNat (zM.mk y20 x7.Body))
             pure (l2,y21)
            else
             pure (y.Parts,y3)
              : Option (List zM×zL))
          pure (Parts3,x5)
         else
          let (Parts4,x8)←(do
            if (y2 == 3) then
             let t76←(do
               if (decide ((y.Parts.length:Int) > 0)) then
                let x9←idx y.Parts (W ((y.Parts.length:Int) - 1))
                pure (decide ((x9.Body.length:Int) > 0))
               else
                pure false
                 : Option Bool)
             let (Parts5,x10)←(do
               if t76 then
                let x11←idx y.Parts (W ((y.Parts.length:Int) - 1))
                let x12←idx x11.Body 0
                let (y22,y23)←sM y3 x12
                let (y24,y25)←sM y23 y22
                let (y26,y27)←sM y25 y24
                let l3←pure ((y.Parts).set (W ((y.Parts.length:Int) - 1)).toNat (zM.mk x11.Nest (x11.Body.set 0 y26)))
                pure (l3,y27)
               else
                pure (y.Parts,y3)
                 : Option (List zM×zL))
             pure (Parts5,x10)
            else
             let Parts6←(do
               if (y2 == 4) then
                let Parts7←(do
                  if (decide ((y.Parts.length:Int) > 0)) then
                   let x13←idx y.Parts (W ((y.Parts.length:Int) - 1))
                   let l4←pure (y.Parts.set (W ((y.Parts.length:Int) - 1)).toNat (zM.mk x13.Nest ([]:List zN)))
                   pure (id l4)
                  else
                   pure y.Parts
                    : Option (List zM))
                pure (id Parts7)
               else
                pure y.Parts
                 : Option (List zM))
             pure (Parts6,y3)
              : Option (List zM×zL))
          pure (Parts4,x8)
           : Option (List zM×zL))
       pure (y.Arrays,Parts2,x4)
        : Option (List zF×List zM×zL))
    pure (Arrays1,Parts1,x1)
     : Option (List zF×List zM×zL))
 pure ((zE.mk Arrays Parts),x)
theorem zDr:∀ (r0:zL) (p1:zE) r,pH r0 p1=some r→∀ {I:Imm}{r01:Nat}{p c p2 c1 p3 c2},(S4 I p r0.b c)→(S4 I p2 p1.Arrays c1)→(S4 I p3 p1.Parts c2)→(∀ (y:zE) (y2:Int) (y3:zL) (x:zM) (s:zN),qJ p1=some y→yU r0 60=some (y2,y3)→(y2 == 3)=true→idx y.Parts (W ((y.Parts.length:Int) - 1))=some x→idx x.Body 0=some s→False)→RT 47 [vP r01 0,vA (cProg p1 p2 c1 p3 c2)] I [hB r01 (cRd r0 p c)] (fQ r01 r):=by
 intro r0 p1 r N I r01 p c p2 c1 p3 c2 h h1 h2 hne;unfold pH at N;refine yM Tryz.func47 fun B=>?_;have H:=iS I;refine yF<|vX (cProg p1 p2 c1 p3 c2) ?_;intro b hb;refine wH zTwo ?_;intro b1 hb1;refine yA rfl<|yV<|yB 1 [1] [7] rfl<|bE N fun y hy N=>xQ (zGQ p1 _ hy h1 h2) ?_;rintro I0 hs2 v2 k2 le - ⟨p4,c3,cs,p5,c4,cs1,rfl,rfl,h3,h4⟩ -;have ⟨h,H⟩:=m2 le h H;refine wH zTwo ?_;intro b2 hb2;refine xI 0 (cProg y p4 c3 p5 c4) rfl<|yA rfl<|yV<|yJ [0] [6] rfl<|zZ<|yF<|yB 1 [] [12] rfl<|sD (zY [5,0,1,2,3,4] (hs':=[hB r01 (cRd r0 p c),hB b2 (cProg y p4 c3 p5 c4),hO zF (vS p4 y.Arrays c3) cs,hO zM (vS p5 y.Parts c4) cs1,hB b1 zTwo,hB b (cProg p1 p2 c1 p3 c2)])) ?_;obtain ⟨⟨y2,y3⟩,hy1,N⟩:=zB N;refine sE (xR r0 60 _ hy1 h) rfl ?_;rintro I01 hs2 v2 k2 le1 - ⟨v0,kk,rfl,rfl,rfl,h6⟩ -;have ⟨h3,h4,H⟩:=m3 le1 h3 h4 H;obtain ⟨p6,c5,rfl,h7⟩:=yD h6;refine yA rfl<|xZ<|yG [14] rfl<|zI<|oM 5 rfl ?_;intro I02 le2 hl0;have hat:At I02 ⟨b,0,none⟩ (cProg p1 p2 c1 p3 c2):=At.of_blk hl0;have ⟨h7,h3,h4,H⟩:=m4 le2 h7 h3 h4 H;obtain ⟨o0,ho0,hMc⟩:=zB N;refine qL (fun I' hs' m'=>∃ (Arrays:List zF) (Parts:List zM) (x:zL) (p7:Option Addr) (c6:Nat) (cs2:List Value) (p8:Option Addr) (c7:Nat) (cs3:List Value) (p9:Option Addr) (c8:Nat),o0=(Arrays,Parts,x)∧I02.le I'∧(RL I' cs2 Arrays)∧(RL I' cs3 Parts)∧(S4 I' p9 x.b c8)∧hs'=[hB r01 (cRd x p9 c8),hB b2 [vS p7 Arrays c6,vS p8 Parts c7],hO zF (vS p7 Arrays c6) cs2,hO zM (vS p8 Parts c7) cs3,hB b1 zTwo]∧m'=[(4,vP b1 0),(5,vP b2 0)]) ?_ ?_
 · have H:=iS I02;refine yE ho0 ?_ ?_
   · intro hc N;obtain ⟨⟨y5,y6⟩,hy2,N⟩:=zB N;obtain ⟨⟨y8,y9⟩,hy3,N⟩:=zB N;obtain ⟨l,hy4,N⟩:=zB N;refine wA [.p (vP b2 0) [],.p (vS p4 y.Arrays c3) [0],.p (vP r01 0) [],.x (fun I' v hx=>∃ b3,v=vS (some ⟨b3,0,none⟩) ([(⟨[65]⟩:Str),(⟨[68]⟩:Str),(⟨[69]⟩:Str)]:List Str) 3∧hx=[]∧(SL I' (vS (some ⟨b3,0,none⟩) ([(⟨[65]⟩:Str),(⟨[68]⟩:Str),(⟨[69]⟩:Str)]:List Str) 3) ([(⟨[65]⟩:Str),(⟨[68]⟩:Str),(⟨[69]⟩:Str)]:List Str))),.x (fun I' v hx=>∃ p10 c9,v=vT y5.l∧hx=[hB r01 (cRd y6 p10 c9)]∧(S4 I' p10 y6.b c9)),.p (vP r01 0) [],.x (fun I' v hx=>∃ b4,v=vS (some ⟨b4,0,none⟩) ([7,0,3,(-1)]:List Int) 4∧hx=[]∧(SL I' (vS (some ⟨b4,0,none⟩) ([7,0,3,(-1)]:List Int) 4) ([7,0,3,(-1)]:List Int))),.x (fun I' v hx=>∃ p11 c10,v=vI y8∧hx=[hB r01 (cRd y9 p11 c10)]∧(S4 I' p11 y9.b c10)),.x (fun I' v hx=>∃ b5,v=vS (some ⟨b5,0,none⟩) ([y8]:List Int) 1∧hx=[]∧(SL I' (vS (some ⟨b5,0,none⟩) ([y8]:List Int) 1) ([y8]:List Int))),.x (fun I' v hx=>∃ b51,v=vA [vT y5.l,vS (some ⟨b51,0,none⟩) ([y8]:List Int) 1]∧hx=[]∧(SL I' (vS (some ⟨b51,0,none⟩) ([y8]:List Int) 1) ([y8]:List Int))),.x (fun I' v hx=>∃ b6,v=vS (some ⟨b6,0,none⟩) ([(zF.mk y5 ([y8]:List Int))]:List zF) 1∧hx=[]∧(SL I' (vS (some ⟨b6,0,none⟩) ([(zF.mk y5 ([y8]:List Int))]:List zF) 1) ([(zF.mk y5 ([y8]:List Int))]:List zF))),.x (fun I' v hx=>∃ p12 c11 cs4,v=vS p12 l c11∧hx=[hO zF (vS p12 l c11) cs4]∧(RL I' cs4 l))] [[],[(0,false)],[],[],[(2,false),(3,false),(14,true)],[],[],[(5,false),(6,false),(4,true)],[(7,false)],[(4,false),(8,false)],[(9,false)],[(1,false),(10,false),(15,true)]] [hB b2 (cProg y p4 c3 p5 c4),hO zM (vS p5 y.Parts c4) cs1,hB b1 zTwo] [[hB r01 (cRd y3 p6 c5)],[hO zF (vS p4 y.Arrays c3) cs]] [(7,true),(11,true)] (zY [1,3,4,0,2]) ?_ ?_
     · refine Op<|Op<|Op<|Ox ?_<|Ox ?_<|Op<|Ox ?_<|Ox ?_<|Ox ?_<|Ox ?_<|Ox ?_<|Ox ?_<|On
       · intro I1 hf le1;refine gY [] ?_;have H:=iS I1;refine nQ (rT [(⟨[65]⟩:Str),(⟨[68]⟩:Str),(⟨[69]⟩:Str)]) ?_;intro b3 I04 le3 h12;have H:=H.trans le3;exact yI [] H ⟨_,rfl,rfl,h12⟩
       · rintro I1 hf le1 _ _ ⟨rfl,rfl⟩ _ _ ⟨b3,rfl,rfl,h12⟩ _ _ rfl;refine yN [18,19] rfl ?_;have H:=iS I1;have h7:=h7.mono le1;refine sE (kQ y3 ([(⟨[65]⟩:Str),(⟨[68]⟩:Str),(⟨[69]⟩:Str)]:List Str) _ hy2 h7 h12) rfl ?_;rintro I05 hs2 v2 k2 le4 - ⟨v02,kk1,rfl,rfl,rfl,h14⟩ -;have H:=H.trans le4;obtain ⟨p10,c9,rfl,h15⟩:=yD h14;exact yI [hB r01 (cRd y6 p10 c9)] H ⟨_,_,rfl,rfl,h15⟩
       · intro I1 hf le1;refine gY [] ?_;have H:=iS I1;refine nQ (rI [7,0,3,(-1)]) ?_;intro b4 I06 le5 h17;have H:=H.trans le5;exact yI [] H ⟨_,rfl,rfl,h17⟩
       · rintro I1 hf le1 _ _ ⟨rfl,rfl⟩ _ _ ⟨b4,rfl,rfl,h17⟩ _ _ ⟨p10,c9,rfl,rfl,h15⟩;refine yN [21,22] rfl ?_;have H:=iS I1;refine sE (xN y6 ([7,0,3,(-1)]:List Int) _ hy3 h15 h17) rfl ?_;rintro I07 hs2 v2 k2 le6 - ⟨v04,kk2,rfl,rfl,rfl,h19⟩ -;have H:=H.trans le6;obtain ⟨p11,c10,rfl,h20⟩:=yD h19;exact yI [hB r01 (cRd y9 p11 c10)] H ⟨_,_,rfl,rfl,h20⟩
       · rintro I1 hf le1 _ _ ⟨p11,c10,rfl,rfl,h20⟩;refine yN [23] rfl ?_;have H:=iS I1;refine nQ (rI [y8]) ?_;intro b5 I08 le7 h22;have H:=H.trans le7;exact yI [] H ⟨_,rfl,rfl,h22⟩
       · rintro I1 hf le1 _ _ ⟨p10,c9,rfl,rfl,h15⟩ _ _ ⟨b5,rfl,rfl,h22⟩;exact yN [20,24] rfl<|tM 10 [(25,vA [vT y5.l,vS (some ⟨b5,0,none⟩) ([y8]:List Int) 1])]<|yI [] iR ⟨_,rfl,rfl,h22⟩
       · rintro I1 hf le1 _ _ ⟨b51,rfl,rfl,h221⟩;refine yN [25] rfl ?_;have H:=iS I1;refine nQ (rc (zF.mk y5 ([y8]:List Int)) (pE ⟨_,rfl,h221⟩) rN) ?_;intro b6 I09 le8 h24;have H:=H.trans le8;exact yI [] H ⟨_,rfl,rfl,h24⟩
       rintro I1 hf le1 _ _ ⟨rfl,rfl⟩ _ _ ⟨b6,rfl,rfl,h24⟩ _ _ rfl;refine yN [17,26] rfl ?_;have h3:=iM le1 h3;obtain ⟨ccs,k0,k01⟩:=h24;have h24:SL I1 (vS (some ⟨b6,0,none⟩) ([(zF.mk y5 ([y8]:List Int))]:List zF) 1) ([(zF.mk y5 ([y8]:List Int))]:List zF):=⟨_,k0,k01⟩;exact qI 122 2 0 rfl rfl rfl h3 (.inl k0) k01 hy4 fun p12 c11 cs4 h25=>vH (hs':=(hO zF (vS p12 l c11) cs4::hB b2 (cProg y p4 c3 p5 c4)::hO zM (vS p5 y.Parts c4) cs1::hB b1 zTwo::hf)) rfl<|yI [hO zF (vS p12 l c11) cs4] iR ⟨_,_,_,rfl,rfl,h25⟩
     rintro I010 le9 _ _ ⟨p11,c10,rfl,rfl,h20⟩ _ _ ⟨p12,c11,cs4,rfl,rfl,h25⟩;refine yN [4,5,27] rfl ?_;have ⟨h4,H⟩:=m2 le9 h4 H;exact yB 13 [] [28] rfl<|xI 2 [vS p12 l c11,vS p5 y.Parts c4] rfl<|yA rfl<|xT (zX [1,2,0,3,4] rfl (by decide))<|yQ<|zT ⟨_,_,_,_,_,_,_,_,_,_,_,(zC N).symm,H,h25,h4,h20,rfl,rfl⟩
   intro hc N;refine yG [29] rfl<|zI ?_;obtain ⟨o01,ho01,hMc1⟩:=zB N;refine qL (fun I' hs' m'=>∃ (Arrays1:List zF) (Parts1:List zM) (x1:zL) (p13:Option Addr) (c12:Nat) (cs5:List Value) (p14:Option Addr) (c13:Nat) (cs6:List Value) (p15:Option Addr) (c14:Nat),o01=(Arrays1,Parts1,x1)∧I02.le I'∧(RL I' cs5 Arrays1)∧(RL I' cs6 Parts1)∧(S4 I' p15 x1.b c14)∧hs'=[hB r01 (cRd x1 p15 c14),hB b2 [vS p13 Arrays1 c12,vS p14 Parts1 c13],hO zF (vS p13 Arrays1 c12) cs5,hO zM (vS p14 Parts1 c13) cs6,hB b1 zTwo]∧m'=[(4,vP b1 0),(5,vP b2 0)]) ?_ ?_
   · have H:=iS I02;refine yE ho01 ?_ ?_
     · intro hc1 N;refine yF<|yJ [1] [34] rfl<|zI ?_;obtain ⟨o02,ho02,hMc2⟩:=zB N;refine qL (fun I' hs' m'=>∃ (Arrays2:List zF) (x2:zL) (p16:Option Addr) (c15:Nat) (cs7:List Value) (p17:Option Addr) (c16:Nat),o02=(Arrays2,x2)∧I02.le I'∧(RL I' cs7 Arrays2)∧(S4 I' p17 x2.b c16)∧hs'=[hB r01 (cRd x2 p17 c16),hB b2 [vS p16 Arrays2 c15,vS p5 y.Parts c4],hO zF (vS p16 Arrays2 c15) cs7,hO zM (vS p5 y.Parts c4) cs1,hB b1 zTwo]∧m'=[(4,vP b1 0),(5,vP b2 0)]) ?_ ?_
       · have H:=iS I02;refine yE ho02 ?_ ?_
         · intro hc2 N;obtain ⟨⟨y11,y12⟩,hy5,N⟩:=zB N;refine wA [.p (vP b2 0) [],.p (vS p4 y.Arrays c3) [0],.p (vP r01 0) [],.x (fun I' v hx=>∃ b7,v=vS (some ⟨b7,0,none⟩) ([1,2,7]:List Int) 3∧hx=[]∧(SL I' (vS (some ⟨b7,0,none⟩) ([1,2,7]:List Int) 3) ([1,2,7]:List Int))),.x (fun I' v hx=>∃ p18 c17,v=vI y11∧hx=[hB r01 (cRd y12 p18 c17)]∧(S4 I' p18 y12.b c17)),.x (fun I' v hx=>∃ b8,v=vS (some ⟨b8,0,none⟩) ([y11]:List Int) 1∧hx=[]∧(SL I' (vS (some ⟨b8,0,none⟩) ([y11]:List Int) 1) ([y11]:List Int)))] [[],[(0,false)],[],[],[(2,false),(3,false),(9,true)],[(4,false)]] [hB b2 (cProg y p4 c3 p5 c4),hO zF (vS p4 y.Arrays c3) cs,hO zM (vS p5 y.Parts c4) cs1,hB b1 zTwo] [[hB r01 (cRd y3 p6 c5)]] [(1,false),(4,true),(5,false)] (zY [1,2,3,4,0]) ?_ ?_
           · refine Op<|Op<|Op<|Ox ?_<|Ox ?_<|Ox ?_<|On
             · intro I1 hf le1;refine gY [] ?_;have H:=iS I1;refine nQ (rI [1,2,7]) ?_;intro b7 I013 le10 h32;have H:=H.trans le10;exact yI [] H ⟨_,rfl,rfl,h32⟩
             · rintro I1 hf le1 _ _ ⟨rfl,rfl⟩ _ _ ⟨b7,rfl,rfl,h32⟩ _ _ rfl;refine yN [37,38] rfl ?_;have H:=iS I1;have h7:=h7.mono le1;refine sE (xN y3 ([1,2,7]:List Int) _ hy5 h7 h32) rfl ?_;rintro I014 hs2 v2 k2 le11 - ⟨v06,kk3,rfl,rfl,rfl,h34⟩ -;have H:=H.trans le11;obtain ⟨p18,c17,rfl,h35⟩:=yD h34;exact yI [hB r01 (cRd y12 p18 c17)] H ⟨_,_,rfl,rfl,h35⟩
             rintro I1 hf le1 _ _ ⟨p18,c17,rfl,rfl,h35⟩;refine yN [39] rfl ?_;have H:=iS I1;refine nQ (rI [y11]) ?_;intro b8 I015 le12 h37;have H:=H.trans le12;exact yI [] H ⟨_,rfl,rfl,h37⟩
           rintro I016 le13 _ _ ⟨rfl,rfl⟩ _ _ ⟨p18,c17,rfl,rfl,h35⟩ _ _ ⟨b8,rfl,rfl,h37⟩;refine yN [4,5,36,40] rfl ?_;have ⟨h3,H⟩:=m2 le13 h3 H;obtain ⟨x3,hy6,N⟩:=zB N;refine mF 2 rfl rfl rfl h3 hy6 ?_;intro ad ccs1 hat1 hcc hrep;obtain ⟨p19,c18,rfl,h38⟩:=wJ hrep;refine yB 8 [] [42] rfl ?_;obtain ⟨l1,hy7,N⟩:=zB N;refine qM (c:=[vT x3.Name.l,vS (some ⟨b8,0,none⟩) ([y11]:List Int) 1]) (x':=(zF.mk x3.Name ([y11]:List Int))) 2 1 rfl rfl rfl hat1 rfl rfl hcc (by kernel_rfl) (by kernel_rfl) (by kernel_rfl) h3 hy6 (by kernel_rfl) (pE ⟨_,rfl,h37⟩) ?_;rw [show y.Arrays.set (0:Int).toNat (zF.mk x3.Name ([y11]:List Int))=l1 from zC hy7];intro cs8 h39 hl07;exact jW (m':=[(4,vP b1 0),(5,vP b2 0),(40,vS (some ⟨b8,0,none⟩) ([y11]:List Int) 1)]) ⟨rfl,rfl,rfl,trivial⟩<|zBz (hs':=[hB r01 (cRd y12 p18 c17),hB b2 [vS p4 l1 c3,vS p5 y.Parts c4],hO zF (vS p4 l1 c3) cs8,hO zM (vS p5 y.Parts c4) cs1,hB b1 zTwo]) (m':=[(4,vP b1 0),(5,vP b2 0),(40,vS (some ⟨b8,0,none⟩) ([y11]:List Int) 1)]) (by first | rfl | simp only [vS,hl07,List.nil_append,List.cons_append,List.set_cons_zero,List.set_cons_succ,List.eraseIdx_cons_zero,List.eraseIdx_cons_succ]) (by first | rfl | simp only [vS,hl07])<|yA rfl<|yQ<|zT ⟨_,_,_,_,_,_,_,(zC N).symm,H,h39,h35,rfl,rfl⟩
         intro hc2 N;exact zS<|yQ<|zT ⟨_,_,_,_,_,_,_,(zC N).symm,H,h3,h7,rfl,rfl⟩
       rintro I012 hs2 m2 ⟨Arrays2,x2,p16,c15,cs7,p17,c16,heq,le14,h29,h30,rfl,rfl⟩;subst o02;have ⟨h4,H⟩:=m2 le14 h4 H;exact yQ<|zT ⟨_,_,_,_,_,_,_,_,_,_,_,(zC hMc2).symm,H,h29,h4,h30,rfl,rfl⟩
     intro hc1 N;refine yG [43] rfl<|zI ?_;obtain ⟨o03,ho03,hMc3⟩:=zB N;refine qL (fun I' hs' m'=>∃ (Parts2:List zM) (x4:zL) (p20:Option Addr) (c19:Nat) (cs9:List Value) (p21:Option Addr) (c20:Nat),o03=(Parts2,x4)∧I02.le I'∧(RL I' cs9 Parts2)∧(S4 I' p21 x4.b c20)∧hs'=[hB r01 (cRd x4 p21 c20),hB b2 [vS p4 y.Arrays c3,vS p20 Parts2 c19],hO zF (vS p4 y.Arrays c3) cs,hO zM (vS p20 Parts2 c19) cs9,hB b1 zTwo]∧m'=[(4,vP b1 0),(5,vP b2 0)]) ?_ ?_
     · have H:=iS I02;refine yE ho03 ?_ ?_
       · intro hc3 N;refine yG [46] rfl<|zI ?_;obtain ⟨o04,ho04,hMc4⟩:=zB N;refine qL (fun I' hs' m'=>∃ (Parts3:List zM) (x5:zL) (p22:Option Addr) (c21:Nat) (cs10:List Value) (p23:Option Addr) (c22:Nat),o04=(Parts3,x5)∧I02.le I'∧(RL I' cs10 Parts3)∧(S4 I' p23 x5.b c22)∧hs'=[hB r01 (cRd x5 p23 c22),hB b2 [vS p4 y.Arrays c3,vS p22 Parts3 c21],hO zF (vS p4 y.Arrays c3) cs,hO zM (vS p22 Parts3 c21) cs10,hB b1 zTwo]∧m'=[(4,vP b1 0),(5,vP b2 0)]) ?_ ?_
         · have H:=iS I02;refine yE ho04 ?_ ?_
           · intro hc4 N;obtain ⟨x6,hy8,N⟩:=zB N;obtain ⟨⟨y14,y15⟩,hy9,N⟩:=zB N;obtain ⟨⟨y17,y18⟩,hy10,N⟩:=zB N;obtain ⟨⟨y20,y21⟩,hy11,N⟩:=zB N;refine wA [.p (vP b2 1) [],.p (vS p5 y.Parts c4) [0],.p (vP r01 0) [],.p (vP r01 0) [],.p (vP r01 0) [],.p (vP b2 1) [],.p (vS p5 y.Parts c4) [0],.x (fun I' v hx=>∃ ad1 p24 c23 p25 c24,v=.pointer (some ad1)∧hx=[]∧(AtO (vS p5 y.Parts c4) (Rp.sz zM) (0:Int).toNat ad1)∧((cs1.drop ((0:Int).toNat * Rp.sz zM)).take (Rp.sz zM)=(cPart x6 p24 c23 p25 c24))∧(S4 I' p24 x6.Nest c23)∧(S4 I' p25 x6.Body c24)),.x (fun I' v hx=>∃ ad11 p241 c231 p251 c241,v=.pointer (some ad11)∧hx=[]∧(AtO (vS p5 y.Parts c4) (Rp.sz zM) (0:Int).toNat ad11)∧((cs1.drop ((0:Int).toNat * Rp.sz zM)).take (Rp.sz zM)=(cPart x6 p241 c231 p251 c241))∧(S4 I' p241 x6.Nest c231)∧(S4 I' p251 x6.Body c241)),.x (eS x6.Nest),.x (fun I' v hx=>∃ p26 c25 p27 c26,v=vS p26 y14 c25∧hx=[hB r01 (cRd y15 p27 c26)]∧(S4 I' p26 y14 c25)∧(S4 I' p27 y15.b c26)),.x (fun I' v hx=>∃ p28 c27 p29 c28,v=vS p28 y17 c27∧hx=[hB r01 (cRd y18 p29 c28)]∧(S4 I' p28 y17 c27)∧(S4 I' p29 y18.b c28)),.x (fun I' v hx=>∃ p30 c29 p31 c30,v=vS p30 y20 c29∧hx=[hB r01 (cRd y21 p31 c30)]∧(S4 I' p30 y20 c29)∧(S4 I' p31 y21.b c30))] [[],[(0,false)],[],[],[],[],[(5,false)],[(6,false)],[(7,false)],[(8,false)],[(4,false),(9,false),(16,true)],[(3,false),(10,true)],[(2,false),(11,true)]] [hB b2 (cProg y p4 c3 p5 c4),hO zF (vS p4 y.Arrays c3) cs,hO zM (vS p5 y.Parts c4) cs1,hB b1 zTwo] [[hB r01 (cRd y3 p6 c5)]] [(1,false),(12,true)] (zY [1,2,3,4,0]) ?_ ?_
             · refine Op<|Op<|Op<|Op<|Op<|Op<|Op<|Ox ?_<|Ox ?_<|Ox ?_<|Ox ?_<|Ox ?_<|Ox ?_<|On
               · intro I1 hf le1;refine yN [53] rfl ?_;have h4:=iM le1 h4;refine mF 2 rfl rfl rfl h4 hy8 ?_;intro ad1 ccs2 hat2 hcc1 hrep1;obtain ⟨p24,c23,p25,c24,rfl,h44,h45⟩:=wW hrep1;exact yI [] iR ⟨_,_,_,_,_,rfl,rfl,hat2,hcc1,h44,h45⟩
               · rintro I1 hf le1 _ _ ⟨ad1,p24,c23,p25,c24,rfl,rfl,hat2,hcc1,h44,h45⟩;exact yN [54] rfl<|tM 9 [(55,.pointer (some ad1))]<|yI [] iR ⟨_,_,_,_,_,rfl,rfl,hat2,hcc1,h44,h45⟩
               · rintro I1 hf le1 _ _ ⟨ad11,p241,c231,p251,c241,rfl,rfl,hat21,hcc11,h441,h451⟩;exact yN [55] rfl<|zDC 2 0 hat21 hcc11 [vS p241 x6.Nest c231] (vS p241 x6.Nest c231) rfl rfl<|yI [] iR ⟨_,_,rfl,rfl,h441⟩
               · rintro I1 hf le1 _ _ ⟨rfl,rfl⟩ _ _ ⟨p2411,c2311,rfl,rfl,h4411⟩ _ _ rfl;refine yN [51,56] rfl ?_;have H:=iS I1;have h7:=h7.mono le1;refine sE (eQ y3 x6.Nest _ hy9 h7 h4411) rfl ?_;rintro I019 hs2 v2 k2 le15 - ⟨v011,kk4,rfl,rfl,h46,h47⟩ -;have H:=H.trans le15;obtain ⟨p26,c25,rfl⟩:=h46.form;obtain ⟨p27,c26,rfl,h48⟩:=yD h47;exact yI [hB r01 (cRd y15 p27 c26)] H ⟨_,_,_,_,rfl,rfl,h46,h48⟩
               · rintro I1 hf le1 _ _ ⟨rfl,rfl⟩ _ _ ⟨p26,c25,p27,c26,rfl,rfl,h46,h48⟩;refine yN [50,57] rfl ?_;have H:=iS I1;refine sE (eQ y15 y14 _ hy10 h48 h46) rfl ?_;rintro I020 hs2 v2 k2 le16 - ⟨v013,kk5,rfl,rfl,h49,h50⟩ -;have H:=H.trans le16;obtain ⟨p28,c27,rfl⟩:=h49.form;obtain ⟨p29,c28,rfl,h51⟩:=yD h50;exact yI [hB r01 (cRd y18 p29 c28)] H ⟨_,_,_,_,rfl,rfl,h49,h51⟩
               rintro I1 hf le1 _ _ ⟨rfl,rfl⟩ _ _ ⟨p28,c27,p29,c28,rfl,rfl,h49,h51⟩;refine yN [49,58] rfl ?_;have H:=iS I1;refine sE (eQ y18 y17 _ hy11 h51 h49) rfl ?_;rintro I021 hs2 v2 k2 le17 - ⟨v015,kk6,rfl,rfl,h52,h53⟩ -;have H:=H.trans le17;obtain ⟨p30,c29,rfl⟩:=h52.form;obtain ⟨p31,c30,rfl,h54⟩:=yD h53;exact yI [hB r01 (cRd y21 p31 c30)] H ⟨_,_,_,_,rfl,rfl,h52,h54⟩
             rintro I022 le18 _ _ ⟨rfl,rfl⟩ _ _ ⟨p30,c29,p31,c30,rfl,rfl,h52,h54⟩;refine yN [4,5,48,59] rfl ?_;have ⟨h4,H⟩:=m2 le18 h4 H;obtain ⟨x7,hy12,N⟩:=zB N;refine mF 3 rfl rfl rfl h4 hy12 ?_;intro ad2 ccs3 hat3 hcc2 hrep2;obtain ⟨p32,c31,p33,c32,rfl,h55,h56⟩:=wW hrep2;refine yB 15 [] [61] rfl ?_;obtain ⟨l2,hy13,N⟩:=zB N;refine qM (c:=[vS p30 y20 c29,vS p33 x7.Body c32]) (x':=(zM.mk y20 x7.Body)) 3 0 rfl rfl rfl hat3 rfl rfl hcc2 (by kernel_rfl) (by kernel_rfl) (by kernel_rfl) h4 hy12 (by kernel_rfl) (qO ⟨_,_,rfl,h52,h56⟩) ?_;rw [show y.Parts.set (0:Int).toNat (zM.mk y20 x7.Body)=l2 from zC hy13];intro cs11 h57 hl08;exact jW (m':=[(4,vP b1 0),(5,vP b2 0),(59,vS p30 y20 c29)]) ⟨rfl,rfl,rfl,trivial⟩<|zBz (hs':=[hB r01 (cRd y21 p31 c30),hB b2 [vS p4 y.Arrays c3,vS p5 l2 c4],hO zF (vS p4 y.Arrays c3) cs,hO zM (vS p5 l2 c4) cs11,hB b1 zTwo]) (m':=[(4,vP b1 0),(5,vP b2 0),(59,vS p30 y20 c29)]) (by first | rfl | simp only [vS,hl08,List.nil_append,List.cons_append,List.set_cons_zero,List.set_cons_succ,List.eraseIdx_cons_zero,List.eraseIdx_cons_succ]) (by first | rfl | simp only [vS,hl08])<|yA rfl<|yQ<|zT ⟨_,_,_,_,_,_,_,(zC N).symm,H,h57,h54,rfl,rfl⟩
           intro hc4 N;exact zS<|yQ<|zT ⟨_,_,_,_,_,_,_,(zC N).symm,H,h4,h7,rfl,rfl⟩
         rintro I018 hs2 m2 ⟨Parts3,x5,p22,c21,cs10,p23,c22,heq1,le19,h42,h43,rfl,rfl⟩;subst o04;have H:=H.trans le19;exact yQ<|zT ⟨_,_,_,_,_,_,_,(zC hMc4).symm,H,h42,h43,rfl,rfl⟩
       intro hc3 N;refine yG [62] rfl<|zI ?_;obtain ⟨o05,ho05,hMc5⟩:=zB N;refine qL (fun I' hs' m'=>∃ (Parts4:List zM) (x8:zL) (p34:Option Addr) (c33:Nat) (cs12:List Value) (p35:Option Addr) (c34:Nat),o05=(Parts4,x8)∧I02.le I'∧(RL I' cs12 Parts4)∧(S4 I' p35 x8.b c34)∧hs'=[hB r01 (cRd x8 p35 c34),hB b2 [vS p4 y.Arrays c3,vS p34 Parts4 c33],hO zF (vS p4 y.Arrays c3) cs,hO zM (vS p34 Parts4 c33) cs12,hB b1 zTwo]∧m'=[(4,vP b1 0),(5,vP b2 0)]) ?_ ?_
       · have H:=iS I02;refine yE ho05 ?_ ?_
         · intro hc5 N;refine yC ?_;refine wE N [hB r01 (cRd y3 p6 c5),hB b2 (cProg y p4 c3 p5 c4),hO zF (vS p4 y.Arrays c3) cs,hO zM (vS p5 y.Parts c4) cs1,hB b1 zTwo] (fun t76=>[(0,vP r01 0),(4,vP b1 0),(5,vP b2 0),(6,vI (y.Parts.length:Int)),(76,.bool t76)]) (fun o06 ho06=>?_) ?_
           · have H:=iS I02;refine zK<|yB 3 [] [66] rfl<|xW [66] ho06 ?_ ?_
             · intro hc6 N;refine yB 7 [1] [68,70] rfl<|bE N fun x9 hy14 N=>mF 3 rfl rfl rfl h4 hy14 ?_;intro ad3 ccs4 hat4 hcc3 hrep3;obtain ⟨p36,c35,p37,c36,rfl,h60,h61⟩:=wW hrep3;exact yB 9 [] [72] rfl<|zDC 3 1 hat4 hcc3 [vS p37 x9.Body c36] (vS p37 x9.Body c36) rfl rfl<|yJ [] [76] rfl<|yQ<|zT (ct N H)
             intro hc6 N;exact wG [] [(76,vF)]<|yQ<|zT (ct N H)
           intro t76 I024 le20 hMc6;have ⟨h7,h4,H⟩:=m3 le20 h7 h4 H;refine zI ?_;obtain ⟨o07,ho07,hMc7⟩:=zB hMc6;refine qL (fun I' hs' m'=>∃ (Parts5:List zM) (x10:zL) (p38:Option Addr) (c37:Nat) (cs13:List Value) (p39:Option Addr) (c38:Nat),o07=(Parts5,x10)∧I024.le I'∧(RL I' cs13 Parts5)∧(S4 I' p39 x10.b c38)∧hs'=[hB r01 (cRd x10 p39 c38),hB b2 [vS p4 y.Arrays c3,vS p38 Parts5 c37],hO zF (vS p4 y.Arrays c3) cs,hO zM (vS p38 Parts5 c37) cs13,hB b1 zTwo]∧m'=[(4,vP b1 0),(5,vP b2 0)]) ?_ ?_
           · have H:=iS I024;refine yE ho07 ?_ ?_
             · intro hc7 N;obtain ⟨x11,hy15,N⟩:=zB N;obtain ⟨x12,hy16,N⟩:=zB N;obtain ⟨⟨y22,y23⟩,hy17,N⟩:=zB N;obtain ⟨⟨y24,y25⟩,hy18,N⟩:=zB N;obtain ⟨⟨y26,y27⟩,hy19,N⟩:=zB N;obtain ⟨l3,hy20,N⟩:=zB N;have hF:False:=hne _ _ _ _ _ (by assumption) (by assumption) (by assumption) hy15 hy16;obtain ⟨p40,c39,cs14,p41,c40,h64,h65⟩:∃ p40 c39 cs14 p41 c40,(RL I024 cs14 l3)∧(S4 I024 p41 y27.b c40):=hF.elim;exact zKb hF (imm':=I024) (hs':=[hB r01 (cRd y27 p41 c40),hB b2 [vS p4 y.Arrays c3,vS p40 l3 c39],hO zF (vS p4 y.Arrays c3) cs,hO zM (vS p40 l3 c39) cs14,hB b1 zTwo]) (m':=[(0,vP r01 0),(4,vP b1 0),(5,vP b2 0),(6,vI (y.Parts.length:Int)),(76,.bool t76)])<|yQ<|zT ⟨_,_,_,_,_,_,_,(zC N).symm,H,h64,h65,rfl,rfl⟩
             intro hc7 N;exact zS<|yQ<|zT ⟨_,_,_,_,_,_,_,(zC N).symm,H,h4,h7,rfl,rfl⟩
           rintro I025 hs2 m2 ⟨Parts5,x10,p38,c37,cs13,p39,c38,heq3,le21,h62,h63,rfl,rfl⟩;subst o07;have H:=H.trans le21;exact yQ<|zT ⟨_,_,_,_,_,_,_,(zC hMc7).symm,H,h62,h63,rfl,rfl⟩
         intro hc5 N;refine yG [100] rfl<|zI ?_;obtain ⟨o08,ho08,hMc8⟩:=zB N;refine qL (fun I' hs' m'=>∃ (Parts6:List zM) (p42:Option Addr) (c41:Nat) (cs15:List Value),o08=Parts6∧I02.le I'∧(RL I' cs15 Parts6)∧hs'=[hB r01 (cRd y3 p6 c5),hB b2 [vS p4 y.Arrays c3,vS p42 Parts6 c41],hO zF (vS p4 y.Arrays c3) cs,hO zM (vS p42 Parts6 c41) cs15,hB b1 zTwo]∧m'=[(4,vP b1 0),(5,vP b2 0)]) ?_ ?_
         · have H:=iS I02;refine yE ho08 ?_ ?_
           · intro hc8 N;refine yG [103] rfl<|zI ?_;obtain ⟨o09,ho09,hMc9⟩:=zB N;refine qL (fun I' hs' m'=>∃ (Parts7:List zM) (p43:Option Addr) (c42:Nat) (cs16:List Value),o09=Parts7∧I02.le I'∧(RL I' cs16 Parts7)∧hs'=[hB r01 (cRd y3 p6 c5),hB b2 [vS p4 y.Arrays c3,vS p43 Parts7 c42],hO zF (vS p4 y.Arrays c3) cs,hO zM (vS p43 Parts7 c42) cs16,hB b1 zTwo]∧m'=[(4,vP b1 0),(5,vP b2 0)]) ?_ ?_
             · have H:=iS I02;refine yE ho09 ?_ ?_
               · intro hc9 N;refine zK<|yB 4 [1] [105,107] rfl<|bE N fun x13 hy21 N=>mF 3 rfl rfl rfl h4 hy21 ?_;intro ad4 ccs5 hat5 hcc4 hrep4;obtain ⟨p44,c43,p45,c44,rfl,h68,h69⟩:=wW hrep4;refine yB 6 [] [109] rfl ?_;obtain ⟨l4,hy22,N⟩:=zB N;refine qM (c:=[vS p44 x13.Nest c43,z0]) (x':=(zM.mk x13.Nest ([]:List zN))) 3 1 rfl rfl rfl hat5 rfl rfl hcc4 (by kernel_rfl) (by kernel_rfl) (by kernel_rfl) h4 hy21 (by kernel_rfl) (qO ⟨_,_,rfl,h68,(SL.nil _)⟩) ?_;rw [show y.Parts.set (W ((y.Parts.length:Int) - 1)).toNat (zM.mk x13.Nest ([]:List zN))=l4 from zC hy22];intro cs17 h70 hl09;exact jW (m':=[(4,vP b1 0),(5,vP b2 0)]) ⟨rfl,rfl,trivial⟩<|zBz (hs':=[hB r01 (cRd y3 p6 c5),hB b2 [vS p4 y.Arrays c3,vS p5 l4 c4],hO zF (vS p4 y.Arrays c3) cs,hO zM (vS p5 l4 c4) cs17,hB b1 zTwo]) (m':=[(4,vP b1 0),(5,vP b2 0)]) (by first | rfl | simp only [vS,hl09,List.nil_append,List.cons_append,List.set_cons_zero,List.set_cons_succ,List.eraseIdx_cons_zero,List.eraseIdx_cons_succ]) (by first | rfl | simp only [vS,hl09])<|yA rfl<|yQ<|zT ⟨_,_,_,_,(zC N).symm,H,h70,rfl,rfl⟩
               intro hc9 N;exact zS<|yQ<|zT ⟨_,_,_,_,(zC N).symm,H,h4,rfl,rfl⟩
             rintro I027 hs2 m2 ⟨Parts7,p43,c42,cs16,heq4,le22,h67,rfl,rfl⟩;subst o09;have H:=H.trans le22;exact yQ<|zT ⟨_,_,_,_,(zC hMc9).symm,H,h67,rfl,rfl⟩
           intro hc8 N;exact zS<|yQ<|zT ⟨_,_,_,_,(zC N).symm,H,h4,rfl,rfl⟩
         rintro I026 hs2 m2 ⟨Parts6,p42,c41,cs15,heq5,le23,h66,rfl,rfl⟩;subst o08;have ⟨h7,H⟩:=m2 le23 h7 H;exact yQ<|zT ⟨_,_,_,_,_,_,_,(zC hMc8).symm,H,h66,h7,rfl,rfl⟩
       rintro I023 hs2 m2 ⟨Parts4,x8,p34,c33,cs12,p35,c34,heq6,le24,h58,h59,rfl,rfl⟩;subst o05;have H:=H.trans le24;exact yQ<|zT ⟨_,_,_,_,_,_,_,(zC hMc5).symm,H,h58,h59,rfl,rfl⟩
     rintro I017 hs2 m2 ⟨Parts2,x4,p20,c19,cs9,p21,c20,heq7,le25,h40,h41,rfl,rfl⟩;subst o03;have ⟨h3,H⟩:=m2 le25 h3 H;exact yQ<|zT ⟨_,_,_,_,_,_,_,_,_,_,_,(zC hMc3).symm,H,h3,h40,h41,rfl,rfl⟩
   rintro I011 hs2 m2 ⟨Arrays1,Parts1,x1,p13,c12,cs5,p14,c13,cs6,p15,c14,heq8,le26,h26,h27,h28,rfl,rfl⟩;subst o01;have H:=H.trans le26;exact yQ<|zT ⟨_,_,_,_,_,_,_,_,_,_,_,(zC hMc1).symm,H,h26,h27,h28,rfl,rfl⟩
 rintro I03 hs2 m2 ⟨Arrays,Parts,x,p7,c6,cs2,p8,c7,cs3,p9,c8,heq9,le27,h8,h9,h10,rfl,rfl⟩;subst o0;refine zP<|yV<|yB 1 [1] [110] rfl<|xI 4 [vS p7 Arrays c6,vS p8 Parts c7] rfl<|yA rfl<|xG<|yY 2 rfl ?_;intro I028 le28 hl010;have h71:=SL.of_frozen hl010 le28 h8;have ⟨h10,h9⟩:=m2 le28 h10 h9;refine yY 2 rfl ?_;intro I029 le29 hl011;have h72:=SL.of_frozen hl011 le29 h9;have ⟨h10,h71⟩:=m2 le29 h10 h71;obtain rfl:=zC hMc;exact xA ⟨_,_,(.cell 2 rfl rfl (by kernel_rfl) ResV.nil),(zX [0] rfl (by decide)),⟨_,_,rfl,rfl,⟨_,rfl,(vE ⟨_,_,rfl,h71,h72⟩)⟩,(yR ⟨_,rfl,h10⟩)⟩⟩
theorem zDQ (p:zE):∀ (i1:Int) (Parts:List zM) (o:List zM),uO p i1 Parts=some o→∀ {B}{I0 I:Imm}{Q}{Arrays1:List zF}{p1 c p2 c1}{b:Nat}{b1:Nat}{b2:Nat}{p4 c3 cs1 p9 c8 cs4}{raws:List Raw2}{pN pB:Option Addr}{cN cB:Nat}{nl:List zD}{bl:List zN}{csB:List Value},I0.le I→(RL I cs1 Arrays1)→(S4 I p1 p.Arrays c)→(S4 I p2 p.Parts c1)→(RL I cs4 raws)→LP I raws Parts (vS pN nl cN) nl (vS pB bl cB) bl→SL I (vS pN nl cN) nl→RL I csB bl→(∀ l a w,¬Q (.goto l) a w)→(∀ a w,¬Q .outgrown a w)→(∀ (I':Imm) (p10:Option Addr) (c9:Nat) (cs5:List Value) (raws1:List Raw2) (pN pB:Option Addr) (cN cB:Nat) (nl:List zD) (bl:List zN) (csB:List Value),I0.le I'→(RL I' cs5 raws1)→LP I' raws1 o (vS pN nl cN) nl (vS pB bl cB) bl→SL I' (vS pN nl cN) nl→RL I' csB bl→T 84 B Q (.exit 2) I' [hO zN (vS pB bl cB) csB,hO Raw2 (vS p10 raws1 c9) cs5,hO zF (vS p4 Arrays1 c3) cs1,hB b2 [vS p4 Arrays1 c3,vS p10 raws1 c9],hB b1 zTwo] [(2,vP b1 0),(3,vP b2 0)])→J Tryz.prog 84 B (nav (bodyOf Tryz.f94) [1,1,1,0,1,0]) Q I [hO zN (vS pB bl cB) csB,hO Raw2 (vS p9 raws c8) cs4,hO zF (vS p4 Arrays1 c3) cs1,hB b2 [vS p4 Arrays1 c3,vS p9 raws c8],hB b1 zTwo,hB b (cProg p p1 c p2 c1)] [(1,vP b 0),(2,vP b1 0),(3,vP b2 0),(5,vI i1)]:=by
 refine uO.partial_correctness p _ fun self ih i1 Parts o N B I0 I Q Arrays1 p1 c p2 c1 b b1 b2 p4 c3 cs1 p9 c8 cs4 raws pN pB cN cB nl bl csB H h4 h h1 hRw hLP hN hBd hg ho hx=>yT hg ho<|yC<|yF<|yJ [5] [40] rfl<|zI<|yE N ?_ ?_
 · intro hc1 N;refine oM 0 rfl ?_;intro immf lef hlf;have kB:=SL.of_frozen hlf lef hBd;have ⟨h4,h,h1,hN,hRw,hLP⟩:=m6 lef h4 h h1 hN hRw hLP;have H:=H.trans lef;have h14:=hLP.done hN kB;rw [← jM hRw] at h14;have eP:vS p9 raws c8=vS p9 Parts c8:=by simp only [vS,hLP.2.1]
   rw [eP];clear hBd hlf;refine zS<|zZ<|yH<|yF<|yB 3 [4] [44,45] rfl<|bE N fun x2 hy4 N=>xJ rfl rfl h1 hy4 ?_;intro ad3 ccs4 hat3 hrep2;obtain ⟨p11,c10,p12,c11,rfl,h16,h17⟩:=wW hrep2;refine yB 5 [] [47] rfl<|yX 0 hat3 [vS p11 x2.Nest c10] (vS p11 x2.Nest c10) rfl<|bE N fun y hy5 N=>xQ (zCH x2.Nest _ hy5 h16) ?_;rintro I04 hs2 v2 k2 le4 - ⟨v04,rfl,rfl,h18⟩ -;have ⟨h14,hRw,hLP,hN⟩:=m4 le4 h14 hRw hLP hN;replace kB:=kB.mono le4;have ⟨h4,h,h1,H⟩:=m4 le4 h4 h h1 H;obtain ⟨p13,c12,rfl⟩:=h18.form;refine yB 8 [] [50] rfl<|wH zTwo ?_;intro b5 hb5;refine xI 0 [vS p13 y c12,z0] rfl<|yA rfl<|zZ<|yG [7] rfl<|xZ<|pJ [(1,vP b 0),(2,vP b1 0),(3,vP b2 0),(5,vI i1),(6,vP b5 0),(7,vI 0)]<|zAE zN fun h19=>?_;obtain ⟨o01,ho01,hMl1⟩:=zB N;refine zA2 p i1 0 ([]:List zN) o01 ho01 iR h18 h14 h4 h h1 h19 (fun _ _ _ h=>hg _ _ _ h) (fun _ _ h=>ho _ _ h) ?_;intro I010 Body1 p15 c14 cs7 heq1 le10 h21;subst o01;have ⟨h18,hRw,hLP,hN⟩:=m4 le10 h18 hRw hLP hN;replace kB:=kB.mono le10;have ⟨h4,h,h1,H⟩:=m4 le10 h4 h h1 H;obtain ⟨l3,hy11,N⟩:=zB hMl1;have hy12:=zHl (l':=raws) (m':=[(⟨vS p13 y c12,vS p15 Body1 c14⟩:Raw2)]) hy11 hLP.2.1 rfl;have h40:RL I010 [vS p13 y c12,vS p15 Body1 c14] [(⟨vS p13 y c12,vS p15 Body1 c14⟩:Raw2)]:=⟨[vS p13 y c12,vS p15 Body1 c14],[],rfl,rfl,⟨rfl,rfl,rfl⟩,rfl⟩;refine zR<|zI<|zK<|yB 3 [4,1] [78,79] rfl<|tH [vS p13 y c12,vS p15 Body1 c14] Raw2 ?_;intro b7 hb7;refine qI (α:=Raw2) 47 2 3 rfl rfl rfl hRw (.inr ⟨0,rfl⟩) h40 hy12 ?_;intro p29 c28 cs11 h41;exact sD (zY [1,3,4,5,6,7] (hs':=[hO zN (vS p15 Body1 c14) cs7,hO Raw2 (vS p29 (raws ++ [(⟨vS p13 y c12,vS p15 Body1 c14⟩:Raw2)]) c28) cs11,hO zF (vS p4 Arrays1 c3) cs1,hB b2 [vS p4 Arrays1 c3,vS p9 Parts c8],hB b1 zTwo,hB b (cProg p p1 c p2 c1)]))<|yB 6 [] [82] rfl<|xI 3 [vS p4 Arrays1 c3,vS p29 (raws ++ [(⟨vS p13 y c12,vS p15 Body1 c14⟩:Raw2)]) c28] rfl<|yA rfl<|zP<|zI<|zK<|yJ [] [5] rfl<|yS<|nG<|ih (W (i1 + 1)) l3 _ N H h4 h h1 h41 (hLP.push hN kB hy11) h18 h21 hg ho hx
 intro hc1 N;have:=zC N;simp only [id] at this;subst this;exact wT<|xT (zX [0,1,2,3,4] rfl (by decide))<|yQ<|hx _ _ _ _ _ _ _ _ _ _ _ _ H hRw hLP hN hBd
def zDs (r:zE):KT:=fun kk I' hs' v=>
  ∃ (a0:Option Addr) (c0:Nat) (s0:List Value) (a1:Option Addr) (c1:Nat) (s1:List Value) (raws:List Raw2) (pN pB:Option Addr) (cN cB:Nat) (nl:List zD) (bl:List zN) (csB:List Value),hs'=[hO zN (vS pB bl cB) csB,hO Raw2 (vS a1 raws c1) s1,hO zF (vS a0 r.Arrays c0) s0]∧v=tupV [vA [vS a0 r.Arrays c0,vS a1 raws c1]]∧RL I' s0 r.Arrays∧RL I' s1 raws∧LP I' raws r.Parts (vS pN nl cN) nl (vS pB bl cB) bl∧SL I' (vS pN nl cN) nl∧RL I' csB bl
theorem zF5:∀ (p:zE) r,qJ p=some r→∀ {I:Imm}{p1 c p2 c1},(S4 I p1 p.Arrays c)→(S4 I p2 p.Parts c1)→RT 94 [vA (cProg p p1 c p2 c1)] I [] (zDs r):=by
 intro p r N I p1 c p2 c1 h h1;unfold qJ at N;refine yM Tryz.func94 fun B=>yF<|vX (cProg p p1 c p2 c1) ?_;intro b hb;refine wH zTwo ?_;intro b1 hb1;refine yA rfl<|yV<|yB 1 [] [8] rfl<|wH zTwo ?_;intro b2 hb2;refine zAf 0 zTwo [hB b2 zTwo,hB b1 zTwo,hB b (cProg p p1 c p2 c1)] rfl rfl rfl rfl<|yA rfl<|zZ<|yG [4] rfl<|xZ<|pJ [(1,vP b 0),(2,vP b1 0),(3,vP b2 0),(4,vI 0)]<|zAE zF fun h2=>?_;obtain ⟨o0,ho0,hMl⟩:=zB N;refine zA1 p 0 ([]:List zF) o0 ho0 iR h h1 h2 (fun _ _ _ h=>h) (fun _ _ h=>h) ?_;intro I03 Arrays1 p4 c3 cs1 heq le3 h4;subst o0;have ⟨h,h1⟩:=m2 le3 h h1;refine zR<|zZ<|yG [5] rfl<|xZ<|pJ [(1,vP b 0),(2,vP b1 0),(3,vP b2 0),(5,vI 0)]<|kX (jX (Rp.sz Raw2))<|kX (jX (Rp.sz zN)) ?_;obtain ⟨o02,ho02,hMl2⟩:=zB hMl;refine zDQ p 0 ([]:List zM) o02 ho02 (raws:=[]) (pN:=none) (pB:=none) (cN:=0) (cB:=0) (nl:=[]) (bl:=[]) iR h4 h h1 RepL.nil LP.nil (SL.nil _) RepL.nil (fun _ _ _ h=>h) (fun _ _ h=>h) ?_;intro I012 p10 c9 cs5 raws1 pN pB cN cB nl bl csB le12 hRw hLP hN hBd;have h4:=iM le12 h4;obtain rfl:=zC hMl2;exact zR<|yV<|yB 1 [3] [83] rfl<|xI 4 [vS p4 Arrays1 c3,vS p10 raws1 c9] rfl<|yA rfl<|xG<|xA ⟨_,_,(.cell 4 rfl rfl (by kernel_rfl) ResV.nil),(zX [0,1,2] rfl (by decide)),⟨_,_,_,_,_,_,_,_,_,_,_,_,_,_,rfl,rfl,h4,hRw,hLP,hN,hBd⟩⟩
theorem zKh {raws:List Raw2}{k:Nat}{r:Raw2} (h:raws[k]?=some r):raws.set k r=raws:=by
  obtain ⟨hk,e⟩:=List.getElem?_eq_some_iff.1 h;subst e;exact List.set_getElem_self hk
theorem zDt (r0:zL) (p1:zE) (r:zE×zL) (N:pH r0 p1=some r) {y:zE}{y3:zL}{x:zM}{s:zN} (hy:qJ p1=some y) (hy1:yU r0 60=some (3,y3)) (hx:idx y.Parts (W ((y.Parts.length:Int) - 1))=some x) (hs:idx x.Body 0=some s) :
    ∀ {I:Imm}{r01:Nat}{p c p2 c1 p3 c2},(S4 I p r0.b c)→(S4 I p2 p1.Arrays c1)→(S4 I p3 p1.Parts c2)→RT 47 [vP r01 0,vA (cProg p1 p2 c1 p3 c2)] I [hB r01 (cRd r0 p c)] (fQ r01 r):=by
 intro I r01 p c p2 c1' p3 c2 h h1 h2
 obtain ⟨i0,i1,i2⟩:=qK hx
 obtain ⟨j0,j1,j2⟩:=qK hs
 have hn:(y.Parts.length:Int) > 0:=by
   have:=(List.getElem?_eq_some_iff.1 i2).1; omega
 have hb:(x.Body.length:Int) > 0:=by
   have:=(List.getElem?_eq_some_iff.1 j2).1; omega
 have e0:((3:Int) == 0)=false:=rfl
 have e1:((3:Int) == 1)=false:=rfl
 have e2:((3:Int) == 2)=false:=rfl
 have e3:((3:Int) == 3)=true:=rfl
 unfold pH at N
 simp only [hy,hy1,e0,e1,e2,e3,hn,hb,hx,hs,decide_true,if_true,Bool.false_eq_true,if_false,Option.pure_def,Option.bind_eq_bind,Option.bind_some] at N
 cases hm1:sM y3 s with
 | none=>rw [hm1] at N; cases N
 | some q1 =>
 obtain ⟨y22,y23⟩:=q1
 simp only [hm1,Option.bind_some] at N
 cases hm2:sM y23 y22 with
 | none=>rw [hm2] at N; cases N
 | some q2 =>
 obtain ⟨y24,y25⟩:=q2
 simp only [hm2,Option.bind_some] at N
 cases hm3:sM y25 y24 with
 | none=>rw [hm3] at N; cases N
 | some q3 =>
 obtain ⟨y26,y27⟩:=q3
 simp only [hm3,Option.bind_some,Option.some.injEq] at N
 subst N
 refine yM Tryz.func47 fun B=>yF<|vX [vS p2 p1.Arrays c1',vS p3 p1.Parts c2] ?_
 intro b hb
 refine wH zTwo ?_
 intro b1 hb1
 refine yA rfl<|yV<|yB 1 [1] [7] rfl<|xQ (zF5 p1 _ hy h1 h2) ?_
 rintro I0 hs2 v2 k2 le - ⟨a0,c0,s0,a1,c1,s1,raws,pN,pB,cN,cB,nl,bl,csB,rfl,rfl,h3,hRw,hLP,hN,hBd⟩ -
 have h:=h.mono le
 clear h1 h2
 rw [hLP.len] at hx hn i0 i1 i2
 obtain ⟨rfl,hraw,hset⟩:=hLP.last hx
 simp only at hs hb j0 j1 j2 hm1
 have hset:=hset (vS pN nl cN) nl (vS pB bl cB) (bl.set 0 y26)
 rw [zKh (qK hraw).2.2] at hset
 refine wH zTwo ?_
 intro b2 hb2
 refine xI 0 [vS a0 y.Arrays c0,vS a1 raws c1] rfl<|yA rfl<|yV<|yJ [0] [6] rfl<|zZ<|yF<|yB 1 [] [12] rfl<|sD (zY [6,1,2,0,3,4] (hs':=[hB r01 (cRd r0 p c),hO zN (vS pB bl cB) csB,hO Raw2 (vS a1 raws c1) s1,hB b2 [vS a0 y.Arrays c0,vS a1 raws c1],hO zF (vS a0 y.Arrays c0) s0,hB b1 zTwo]))<|sE (xR r0 60 _ hy1 h) rfl ?_
 rintro I01 hs2 v2 k2 le1 - ⟨v0,kk,rfl,rfl,rfl,h6⟩ -
 obtain ⟨v01,rfl,h7⟩:=fP h6
 obtain ⟨p6,c5,rfl⟩:=h7.form
 clear h6 h
 have h3:=iM le1 h3
 have hRw:=iM le1 hRw
 have hN:=hN.mono le1
 have hBd:=iM le1 hBd
 have hset:=hset.mono le1
 refine yA rfl<|xZ<|yG [14] rfl<|zI<|dX rfl<|yG [29] rfl<|zI<|dX rfl<|yG [43] rfl<|zI<|dX rfl<|yG [62] rfl<|zI<|zBu rfl<|yF<|yB 3 [] [66] rfl ?_
 rw [decide_eq_true hn]
 refine yB 7 [3] [68,70] rfl<|mF (α:=Raw2) 2 rfl rfl rfl hRw hraw ?_
 intro ad ccs hat hcc hrep
 obtain ⟨rfl,o1,o2⟩:=hrep
 refine yB 9 [] [72] rfl<|zDC 2 1 hat hcc [vS pB bl cB] (vS pB bl cB) rfl rfl<|yJ [] [76] rfl ?_
 rw [decide_eq_true hb]
 refine zI<|zBu rfl<|pJ [(0,vP r01 0),(4,vP b1 0),(5,vP b2 0),(6,vI (raws.length:Int))]<|wA [.p (vP b2 1) [],.p (vS a1 raws c1) [2],.p (vI (raws.length:Int)) [],.p (vI (W ((raws.length:Int) - 1))) [],.x (fun I' v hx'=>∃ ad,v=.pointer (some ad)∧hx'=[]∧AtO (vS a1 raws c1) 2 (W ((raws.length:Int) - 1)).toNat ad),.x (fun I' v hx'=>∃ ad,v=.pointer (some (ad.add 1))∧hx'=[]∧AtO (vS a1 raws c1) 2 (W ((raws.length:Int) - 1)).toNat ad),.x (fun I' v hx'=>v=vS pB bl cB∧hx'=[]),.p (vP r01 0) [],.p (vP r01 0) [],.p (vP r01 0) [],.p (vP b2 1) [],.p (vS a1 raws c1) [2],.p (vI (raws.length:Int)) [],.p (vI (W ((raws.length:Int) - 1))) [],.x (fun I' v hx'=>∃ ad,v=.pointer (some ad)∧hx'=[]∧AtO (vS a1 raws c1) 2 (W ((raws.length:Int) - 1)).toNat ad),.x (fun I' v hx'=>∃ ad,v=.pointer (some (ad.add 1))∧hx'=[]∧AtO (vS a1 raws c1) 2 (W ((raws.length:Int) - 1)).toNat ad),.x (fun I' v hx'=>v=vS pB bl cB∧hx'=[]),.x (fun I' v hx'=>∃ ad,v=.pointer (some ad)∧hx'=[]∧AtO (vS pB bl cB) 9 0 ad),.x (fun I' v hx'=>∃ cs9,v=.agg ⟨cs9⟩∧hx'=[]∧Rp.rep I' cs9 s),.x (fun I' v hx'=>∃ (cs9 kk:List Value),v=.agg ⟨cs9⟩∧hx'=[hB r01 kk]∧Rp.rep I' cs9 y22∧Rp.rep I' kk y23),.x (fun I' v hx'=>∃ (cs9 kk:List Value),v=.agg ⟨cs9⟩∧hx'=[hB r01 kk]∧Rp.rep I' cs9 y24∧Rp.rep I' kk y25),.x (fun I' v hx'=>∃ (cs9 kk:List Value),v=.agg ⟨cs9⟩∧hx'=[hB r01 kk]∧Rp.rep I' cs9 y26∧Rp.rep I' kk y27)] [[],[(0,false)],[],[(2,false)],[(1,false),(3,false)],[(4,false)],[(5,false)],[],[],[],[],[(10,false)],[],[(12,false)],[(11,false),(13,false)],[(14,false)],[(15,false)],[(16,false)],[(17,false)],[(9,false),(18,false),(24,true)],[(8,false),(19,true)],[(7,false),(20,true)]] [hO zN (vS pB bl cB) csB,hO Raw2 (vS a1 raws c1) s1,hB b2 [vS a0 y.Arrays c0,vS a1 raws c1],hO zF (vS a0 y.Arrays c0) s0,hB b1 zTwo] [[hB r01 (cRd y3 p6 c5)]] [(6,false),(21,true)] (zY [1,2,3,4,5,0]) ?_ ?_
 · refine Op<|Op<|Op<|Op<|Ox ?_<|Ox ?_<|Ox ?_<|Op<|Op<|Op<|Op<|Op<|Op<|Op<|Ox ?_<|Ox ?_<|Ox ?_<|Ox ?_<|Ox ?_<|Ox ?_<|Ox ?_<|Ox ?_<|On
   · intro I1 hf le1
     refine xX ?_
     rintro _ _ ⟨rfl,rfl⟩
     refine xX ?_
     rintro _ _ ⟨rfl,rfl⟩
     refine nT<|zBh [(78,vS a1 raws c1),(80,vI (W ((raws.length:Int) - 1)))]<|mF (α:=Raw2) 1 rfl rfl rfl (iM le1 hRw) hraw ?_
     intro ad ccs hat hcc hrep
     exact yI [] iR ⟨_,rfl,rfl,hat⟩
   · intro I1 hf le1
     refine xX ?_
     rintro _ _ ⟨ad,rfl,rfl,hat⟩
     exact nT<|zBh [(81,.pointer (some ad))]<|tM 6 [(82,.pointer (some (ad.add 1)))]<|yI [] iR ⟨_,rfl,rfl,hat⟩
   · intro I1 hf le1
     refine xX ?_
     rintro _ _ ⟨ad,rfl,rfl,hat⟩
     refine nT<|zBh [(82,.pointer (some (ad.add 1)))] ?_
     have hrep:=hRw.at (qK hraw).2.2
     obtain ⟨⟨hcc,o1,o2⟩,_⟩:=hrep
     exact zDC 1 1 hat hcc [vS pB bl cB] (vS pB bl cB) rfl rfl<|yP iR
   · intro I1 hf le1
     refine xX ?_
     rintro _ _ ⟨rfl,rfl⟩
     refine xX ?_
     rintro _ _ ⟨rfl,rfl⟩
     refine nT<|zBh [(88,vS a1 raws c1),(90,vI (W ((raws.length:Int) - 1)))]<|mF (α:=Raw2) 1 rfl rfl rfl (iM le1 hRw) hraw ?_
     intro ad ccs hat hcc hrep
     exact yI [] iR ⟨_,rfl,rfl,hat⟩
   · intro I1 hf le1
     refine xX ?_
     rintro _ _ ⟨ad,rfl,rfl,hat⟩
     exact nT<|zBh [(91,.pointer (some ad))]<|tM 16 [(92,.pointer (some (ad.add 1)))]<|yI [] iR ⟨_,rfl,rfl,hat⟩
   · intro I1 hf le1
     refine xX ?_
     rintro _ _ ⟨ad,rfl,rfl,hat⟩
     refine nT<|zBh [(92,.pointer (some (ad.add 1)))] ?_
     have hrep:=hRw.at (qK hraw).2.2
     obtain ⟨⟨hcc,o1,o2⟩,_⟩:=hrep
     exact zDC 1 1 hat hcc [vS pB bl cB] (vS pB bl cB) rfl rfl<|yP iR
   · intro I1 hf le1
     refine xX ?_
     rintro _ _ ⟨rfl,rfl⟩
     refine nT<|zBh [(93,vS pB bl cB)]<|mF (α:=zN) 0 rfl rfl rfl (iM le1 hBd) hs ?_
     intro ad ccs hat hcc hrep
     exact yI [] iR ⟨_,rfl,rfl,hat⟩
   · intro I1 hf le1
     refine xX ?_
     rintro _ _ ⟨ad,rfl,rfl,hat⟩
     refine nT<|zBh [(94,.pointer (some ad))] ?_
     obtain ⟨hrep,_⟩:=(iM le1 hBd).at j2
     generalize hcc:(csB.drop (Int.toNat 0 * Rp.sz zN)).take (Rp.sz zN)=cc at hrep
     obtain ⟨w0,w1,w2,w3,rfl,e10,e11,e12,e13⟩:=oN hrep
     obtain ⟨p10,c10,rfl⟩:=e10.form
     obtain ⟨p11,c11,rfl⟩:=e11.form
     obtain ⟨p12,c12,rfl⟩:=e12.form
     obtain ⟨p13,c13,rfl⟩:=e13.form
     exact zDC 0 0 hat hcc (cStmt s p10 c10 p11 c11 p12 c12 p13 c13) (vA (cStmt s p10 c10 p11 c11 p12 c12 p13 c13)) rfl rfl<|yI [] iR ⟨_,rfl,rfl,wQ ⟨_,_,_,_,rfl,e10,e11,e12,e13⟩⟩
   · intro I1 hf le1
     refine xX ?_
     rintro _ _ ⟨rfl,rfl⟩
     refine xX ?_
     rintro _ _ ⟨cs9,rfl,rfl,h9⟩
     refine xX ?_
     rintro _ _ rfl
     obtain ⟨w0,w1,w2,w3,rfl,e10,e11,e12,e13⟩:=oN h9
     obtain ⟨p10,c10,rfl⟩:=e10.form
     obtain ⟨p11,c11,rfl⟩:=e11.form
     obtain ⟨p12,c12,rfl⟩:=e12.form
     obtain ⟨p13,c13,rfl⟩:=e13.form
     refine nT<|zBh [(86,vP r01 0),(95,vA (cStmt s p10 c10 p11 c11 p12 c12 p13 c13))]<|sE (eT y3 s _ hm1 (h7.mono le1) e10 e11 e12 e13) rfl ?_
     rintro I02 hs2 v2 k2 le2 - ⟨v0,kk2,rfl,rfl,⟨cs2,rfl,h10⟩,h11⟩ -
     exact yI [hB r01 kk2] le2 ⟨_,_,rfl,rfl,h10,h11⟩
   · intro I1 hf le1
     refine xX ?_
     rintro _ _ ⟨rfl,rfl⟩
     refine xX ?_
     rintro _ _ ⟨cs9,kk,rfl,rfl,h9,hk⟩
     obtain ⟨w0,w1,w2,w3,rfl,e10,e11,e12,e13⟩:=oN h9
     obtain ⟨p10,c10,rfl⟩:=e10.form
     obtain ⟨p11,c11,rfl⟩:=e11.form
     obtain ⟨p12,c12,rfl⟩:=e12.form
     obtain ⟨p13,c13,rfl⟩:=e13.form
     obtain ⟨w4,rfl,hsl⟩:=fP hk
     obtain ⟨p8,c8,rfl⟩:=hsl.form
     refine nT<|zBh [(85,vP r01 0),(96,vA (cStmt y22 p10 c10 p11 c11 p12 c12 p13 c13))]<|sE (eT y23 y22 _ hm2 (hsl) e10 e11 e12 e13) rfl ?_
     rintro I02 hs2 v2 k2 le2 - ⟨v0,kk2,rfl,rfl,⟨cs2,rfl,h10⟩,h11⟩ -
     exact yI [hB r01 kk2] le2 ⟨_,_,rfl,rfl,h10,h11⟩
   intro I1 hf le1
   refine xX ?_
   rintro _ _ ⟨rfl,rfl⟩
   refine xX ?_
   rintro _ _ ⟨cs9,kk,rfl,rfl,h9,hk⟩
   obtain ⟨w0,w1,w2,w3,rfl,e10,e11,e12,e13⟩:=oN h9
   obtain ⟨p10,c10,rfl⟩:=e10.form
   obtain ⟨p11,c11,rfl⟩:=e11.form
   obtain ⟨p12,c12,rfl⟩:=e12.form
   obtain ⟨p13,c13,rfl⟩:=e13.form
   obtain ⟨w4,rfl,hsl⟩:=fP hk
   obtain ⟨p8,c8,rfl⟩:=hsl.form
   refine nT<|zBh [(84,vP r01 0),(97,vA (cStmt y24 p10 c10 p11 c11 p12 c12 p13 c13))]<|sE (eT y25 y24 _ hm3 (hsl) e10 e11 e12 e13) rfl ?_
   rintro I02 hs2 v2 k2 le2 - ⟨v0,kk2,rfl,rfl,⟨cs2,rfl,h10⟩,h11⟩ -
   exact yI [hB r01 kk2] le2 ⟨_,_,rfl,rfl,h10,h11⟩
 intro I5 le5
 refine xX ?_
 rintro _ _ ⟨rfl,rfl⟩
 refine xX ?_
 rintro _ _ ⟨cs9,kk,rfl,rfl,h9,hk⟩
 obtain ⟨w0,w1,w2,w3,rfl,e10,e11,e12,e13⟩:=oN h9
 obtain ⟨p10,c10,rfl⟩:=e10.form
 obtain ⟨p11,c11,rfl⟩:=e11.form
 obtain ⟨p12,c12,rfl⟩:=e12.form
 obtain ⟨p13,c13,rfl⟩:=e13.form
 have h3:=iM le5 h3
 have hRw:=iM le5 hRw
 have hN:=hN.mono le5
 have hBd:=iM le5 hBd
 have hset:=hset.mono le5
 refine nT<|zBh [(4,vP b1 0),(5,vP b2 0),(83,vS pB bl cB),(98,vA (cStmt y26 p10 c10 p11 c11 p12 c12 p13 c13))]<|mF (α:=zN) 1 rfl rfl rfl hBd hs ?_
 intro ad ccs hat hcc hrep
 obtain ⟨w0,w1,w2,w3,rfl,e20,e21,e22,e23⟩:=oN hrep
 obtain ⟨p20,c20,rfl⟩:=e20.form
 obtain ⟨p21,c21,rfl⟩:=e21.form
 obtain ⟨p22,c22,rfl⟩:=e22.form
 obtain ⟨p23,c23,rfl⟩:=e23.form
 refine qM (c:=(cStmt y26 p10 c10 p11 c11 p12 c12 p13 c13)) (x':=y26) 1 0 rfl rfl rfl hat rfl rfl hcc (by kernel_rfl) (by kernel_rfl) (by kernel_rfl) hBd hs (by kernel_rfl) (wQ ⟨_,_,_,_,rfl,e10,e11,e12,e13⟩) ?_
 intro cs7 h7' hlen
 refine vH (hs':=[hB r01 kk,hO zN (vS pB bl cB) cs7,hO Raw2 (vS a1 raws c1) s1,hB b2 [vS a0 y.Arrays c0,vS a1 raws c1],hO zF (vS a0 y.Arrays c0) s0,hB b1 zTwo]) rfl<|xP 1 rfl ?_
 intro I6 le6 hl6
 have eB:vS pB bl cB=vS pB (bl.set 0 y26) cB:=by simp [vS]
 have kB:SL I6 (vS pB (bl.set 0 y26) cB) (bl.set 0 y26):=by
   rw [← eB]
   exact SL.of_frozen (l:=bl.set 0 y26) hl6 le6 h7'
 rw [eB] at hset
 have hdone:=(hset.mono le6).done (hN.mono le6) kB
 have eS:=jM hRw
 rw [← eS] at hdone
 have h3:=iM le6 h3
 have hk:=Rp.mono le6 hk
 have eP:vS a1 raws c1=vS a1 (y.Parts.set (W ((raws.length:Int) - 1)).toNat ⟨nl,bl.set 0 y26⟩) c1:=by simp only [vS,List.length_set,hLP.2.1]
 refine vH (hs':=[hB r01 kk,hO Raw2 (vS a1 raws c1) s1,hB b2 [vS a0 y.Arrays c0,vS a1 raws c1],hO zF (vS a0 y.Arrays c0) s0,hB b1 zTwo]) rfl<|yA rfl<|zP<|yV<|yB 1 [2] [110] rfl<|xI 4 [vS a0 y.Arrays c0,vS a1 raws c1] rfl<|yA rfl<|xG<|yY 1 rfl ?_
 intro I7 le7 hl7
 have k1:SL I7 (vS a1 raws c1) (y.Parts.set (W ((raws.length:Int) - 1)).toNat ⟨nl,bl.set 0 y26⟩):=SL.of_frozen (l:=y.Parts.set (W ((raws.length:Int) - 1)).toNat ⟨nl,bl.set 0 y26⟩) hl7 le7 hdone
 refine yY 2 rfl ?_
 intro I8 le8 hl8
 have k2:=SL.of_frozen hl8 le8 (iM le7 h3)
 rw [hLP.len]
 exact xA ⟨_,_,(.cell 2 rfl rfl (by kernel_rfl) ResV.nil),(zX [0] rfl (by decide)),⟨_,_,rfl,rfl,⟨_,rfl,(vE ⟨_,_,rfl,k2,k1.mono le8⟩)⟩,Rp.mono le8 (Rp.mono le7 hk)⟩⟩
theorem zEo:∀ r0 p1 r,pH r0 p1=some r→∀ {I:Imm}{r01:Nat}{p c p2 c1 p3 c2},(S4 I p r0.b c)→(S4 I p2 p1.Arrays c1)→(S4 I p3 p1.Parts c2)→RT 47 [vP r01 0,vA (cProg p1 p2 c1 p3 c2)] I [hB r01 (cRd r0 p c)] (fQ r01 r):=by
 intro r0 p1 r N I r01 p c p2 c1 p3 c2 h h1 h2;by_cases hq:∃ y y3 x s,qJ p1=some y∧yU r0 60=some (3,y3)∧idx y.Parts (W ((y.Parts.length:Int) - 1))=some x∧idx x.Body 0=some s
 · obtain ⟨y,y3,x,s,e1,e2,e3,e4⟩:=hq;exact zDt r0 p1 r N e1 e2 e3 e4 h h1 h2
 refine zDr r0 p1 r N h h1 h2 ?_;intro y y2 y3 x s e1 e2 e3 e4 e5;obtain rfl:=eq_of_beq e3;exact hq ⟨y,y3,x,s,e1,e2,e4,e5⟩
def eU (r:(List Str)):KT:=fun kk I' hs' v=>
  ∃ v0,hs'=[]∧v=tupV [v0]∧SL I' v0 r
def pQ (s:Str) (c:UInt8) (out:List Str) (from0:Int) (i:Int):Option (List Str):=do
 if (decide (i ≤ (s.l.length:Int))) then
  let t25←(do
    if (i == (s.l.length:Int)) then
     pure true
    else
     let b1←sidx s i
     pure ((b1.toNat:Int) == (c.toNat:Int))
      : Option Bool)
  let (out2,from01)←(do
    if t25 then
     let s1←sslc s from0 i
     let out3←app 16 out ([s1]:List Str)
     pure (out3,(W (i + 1)))
    else
     pure (out,from0)
      : Option (List Str×Int))
  pQ s c out2 from01 (W (i + 1))
 else
  pure (id out)
 partial_fixpoint
theorem zDu (s:Str) (c:UInt8):∀ (out:List Str) (from0:Int) (i:Int) (o:List Str),pQ s c out from0 i=some o→∀ {B}{I0 I:Imm}{Q p c1 cs},I0.le I→(RL I cs out)→NG Q→NO Q→(∀ (I':Imm) (out1:List Str) (p1:Option Addr) (c2:Nat) (cs1:List Value),o=out1→I0.le I'→(RL I' cs1 out1)→T 36 B Q (.exit 0) I' [hO Str (vS p1 out1 c2) cs1] [(5,vS p1 out1 c2)])→J Tryz.prog 36 B (nav (bodyOf Tryz.f146) [1,1,1,0,1,0]) Q I [hO Str (vS p out c1) cs] [(0,vT s.l),(1,.int .u8 (c.toNat:Int)),(5,vS p out c1),(6,vI from0),(7,vI i)]:=by
 refine pQ.partial_correctness s c _ fun self ih out from0 i o N B I0 I Q p c1 cs H h1 hg ho hx=>yT hg ho<|yC<|yG [12] rfl<|zI<|yE N ?_ ?_
 · intro hc N;refine zS<|zZ<|yH<|yC ?_;refine wE N [hO Str (vS p out c1) cs] (fun t25=>[(0,vT s.l),(1,.int .u8 (c.toNat:Int)),(5,vS p out c1),(6,vI from0),(7,vI i),(25,.bool t25)]) (fun o0 ho0=>?_) ?_
   · have H:=iS I;refine zK<|yB 5 [] [19] rfl<|xW [19] ho0 ?_ ?_
     · intro hc1 N;exact wG [] [(25,vY)]<|yQ<|zT (ct N H)
     intro hc1 N;exact yB 7 [] [20,21] rfl<|bE N fun b1 hy N=>zAR rfl rfl hy<|yJ [] [25] rfl<|yQ<|zT (ct N H)
   intro t25 I0 le hMc;have ⟨h1,H⟩:=m2 le h1 H;refine zI ?_;obtain ⟨o01,ho01,hMc1⟩:=zB hMc;refine qL (fun I' hs' m'=>∃ (out2:List Str) (from01:Int) (p2:Option Addr) (c3:Nat) (cs2:List Value),o01=(out2,from01)∧I0.le I'∧(RL I' cs2 out2)∧hs'=[hO Str (vS p2 out2 c3) cs2]∧m'=[(0,vT s.l),(1,.int .u8 (c.toNat:Int)),(5,vS p2 out2 c3),(6,vI from01),(7,vI i)]) ?_ ?_
   · have H:=iS I0;refine yE ho01 ?_ ?_
     · intro hc2 N;refine yF<|yB 4 [] [26,27,28,29] rfl<|bE N fun s1 hy1 N=>zGx rfl hy1<|tH [vT s1.l] Str ?_;intro b2 hb1;have h4:RL I0 [vT s1.l] ([s1]:List Str):=rT [s1];obtain ⟨out3,hy2,N⟩:=zB N;exact qI 9 1 1 rfl rfl rfl h1 (.inr ⟨0,rfl⟩) h4 hy2 fun p3 c4 cs3 h5=>sD (zY [1] (hs':=[hO Str (vS p3 out3 c4) cs3]))<|yJ [] [5] rfl<|zI<|zK<|yJ [] [6] rfl<|yQ<|zT ⟨_,_,_,_,_,(zC N).symm,H,h5,rfl,rfl⟩
     intro hc2 N;exact zS<|yQ<|zT ⟨_,_,_,_,_,(zC N).symm,H,h1,rfl,rfl⟩
   rintro I01 hs2 m2 ⟨out2,from01,p2,c3,cs2,heq1,le1,h3,rfl,rfl⟩;subst o01;have H:=H.trans le1;exact zP<|zI<|zK<|yJ [] [7] rfl<|yS<|nG<|ih out2 from01 (W (i + 1)) _ hMc1 H h3 hg ho hx
 intro hc N;exact wT<|yQ<|hx _ _ _ _ _ (zC N).symm H h1
def mU (s:Str) (c:UInt8):Option ((List Str)):=do
 let out1←pQ s c ([]:List Str) 0 0
 pure (id out1)
theorem zAJ:∀ s c r,mU s c=some r→∀ {I:Imm} ,RT 146 [vT s.l,.int .u8 (c.toNat:Int)] I [] (eU  r):=by
 intro s c r N I;unfold mU at N;refine yM Tryz.func146 fun B=>vJ []<|yV<|tH [] Str ?_;intro b hb;have h:RL I [] ([]:List Str):=rfl;refine yJ [] [5] rfl<|vG [6] rfl<|zZ<|yG [7] rfl<|xZ<|pJ [(0,vT s.l),(1,.int .u8 (c.toNat:Int)),(5,vS (some ⟨b,0,none⟩) ([]:List Str) 0),(6,vI 0),(7,vI 0)] ?_;obtain ⟨o02,ho02,hMl⟩:=zB N;refine zDu s c ([]:List Str) 0 0 o02 ho02 iR h (fun _ _ _ h=>h) (fun _ _ h=>h) ?_;intro I02 out1 p1 c2 cs1 heq2 le2 h2;subst o02;refine zR<|vG [4] rfl<|xG<|yY 0 rfl ?_;intro I03 le3 hl0;have h6:=SL.of_frozen hl0 le3 h2;obtain rfl:=zC hMl;exact xA ⟨_,_,(.tmp rfl ResV.nil),zQ,⟨_,rfl,rfl,h6⟩⟩
def kS (r:Int×Bool):KT:=fun kk I' hs' v=>
  ∃ v0 v1,hs'=[]∧v=tupV [v0,v1]∧v0=.int .i64 r.1∧v1=.bool r.2
def pR (s1:Str) (n0:Int) (i:Int):Option (Out Int (Int×Bool)):=do
 if (decide (i < (s1.l.length:Int))) then
  let t54←(do
    let b2←sidx s1 i
    if (decide ((b2.toNat:Int) < 48)) then
     pure true
    else
     let b3←sidx s1 i
     pure (decide ((b3.toNat:Int) > 57))
      : Option Bool)
  if t54 then
   pure (.ret (0,false))
  else
   let b4←sidx s1 i
   pR s1 (W ((W (n0 * 10)) + (W (IntKind.u8.wrap ((b4.toNat:Int) - 48))))) (W (i + 1))
 else
  pure (.done n0)
 partial_fixpoint
theorem zDv (s1:Str):∀ (n0:Int) (i:Int) (o:Out Int (Int×Bool)),pR s1 n0 i=some o→∀ {B}{I0 I:Imm}{Q}{neg:Bool} ,I0.le I→NG Q→NO Q→(∀ (I':Imm) (n01:Int),o=(.done n01)→I0.le I'→T 67 B Q (.exit 0) I' [] [(4,.bool neg),(5,vI n01)])→(∀ r I' hs' m',o=(.ret r)→I0.le I'→RS Tryz.prog Tryz.f233 B (kS  r) I' hs' m'→T 67 B Q .ret I' hs' m')→J Tryz.prog 67 B (nav (bodyOf Tryz.f233) [1,1,1,1,1,0,1,0]) Q I [] [(0,vT s1.l),(4,.bool neg),(5,vI n0),(6,vI i)]:=by
 refine pR.partial_correctness s1 _ fun self ih n0 i o N B I0 I Q neg H hg ho hx hr=>yT hg ho<|yC<|yG [42] rfl<|zI<|yE N ?_ ?_
 · intro hc7 N;refine zS<|zZ<|yH<|yC<|yC ?_;refine wE N [] (fun t54=>[(0,vT s1.l),(4,.bool neg),(5,vI n0),(6,vI i),(54,.bool t54)]) (fun o03 ho03=>?_) ?_
   · have H:=iS I;refine zK<|yB 2 [] [45,46] rfl ?_;obtain ⟨b2,hy3,N⟩:=zB ho03;refine zAR rfl rfl hy3<|yB 5 [] [49] rfl<|xW [49] N ?_ ?_
     · intro hc8 N;exact wG [] [(54,vY)]<|yQ<|zT (ct N H)
     intro hc8 N;exact yB 7 [] [50,51] rfl<|bE N fun b3 hy4 N=>zAR rfl rfl hy4<|yJ [] [54] rfl<|yQ<|zT (ct N H)
   intro t54 I03 le3 hMc3;have H:=H.trans le3;refine zI<|yE hMc3 ?_ ?_
   · intro hc9 N;exact yG [2,3] rfl<|xG<|zH<|zW<|zH<|zH<|hr _ _ _ _ (zC N).symm H ⟨_,_,(.tmp rfl (.tmp rfl ResV.nil)),zQ,⟨_,_,rfl,rfl,rfl,rfl⟩⟩
   intro hc9 N;exact zS<|zI<|zK<|yB 4 [] [56,57,58] rfl<|bE N fun b4 hy5 N=>zAR rfl rfl hy5<|yJ [] [5] rfl<|zP<|zI<|zK<|yJ [] [6] rfl<|yS<|nG<|ih (W ((W (n0 * 10)) + (W (IntKind.u8.wrap ((b4.toNat:Int) - 48))))) (W (i + 1)) _ N H  hg ho hx hr
 intro hc7 N;exact wT<|yQ<|hx _ _ (zC N).symm H
def jO (s:Str):Option (Int×Bool):=do
 let neg←(do
   if (decide ((s.l.length:Int) > 0)) then
    let b←sidx s 0
    pure ((b.toNat:Int) == 45)
   else
    pure false
     : Option Bool)
 let s1←(do
   if neg then
    let s2←sslc s 1 (s.l.length:Int)
    pure (id s2)
   else
    pure (id s)
     : Option Str)
 let t38←(do
   if ((s1.l.length:Int) == 0) then
    pure true
   else
    if (decide ((s1.l.length:Int) > 17)) then
     pure true
    else
     let b1←sidx s1 0
     if ((b1.toNat:Int) == 48) then
      if (decide ((s1.l.length:Int) > 1)) then
       pure true
      else
       pure (id neg)
     else
      pure false
     : Option Bool)
 if t38 then
  pure (0,false)
 else
  match←pR s1 0 0 with
  | .ret r0=>pure r0
  | .done n01 =>
   let n02←(do
     if neg then
      pure (W (0 - n01))
     else
      pure (id n01)
       : Option Int)
   pure (n02,true)
theorem zCJ:∀ s r,jO s=some r→∀ {I:Imm} ,RT 233 [vT s.l] I [] (kS  r):=by
 intro s r N I;unfold jO at N;refine yM Tryz.func233 fun B=>?_;have H:=iS I;refine vJ []<|zI<|yC ?_;refine wE N [] (fun neg=>[(0,vT s.l),(4,.bool neg)]) (fun o0 ho0=>?_) ?_
 · have H:=iS I;refine zK<|yB 4 [] [10] rfl<|xW [10] ho0 ?_ ?_
   · intro hc N;exact yB 5 [] [11] rfl<|bE N fun b hy N=>zAR rfl rfl hy<|yJ [] [4] rfl<|yQ<|zT (ct N H)
   intro hc N;exact wG [] [(4,vF)]<|yQ<|zT (ct N H)
 intro neg I0 le hMc;have H:=H.trans le;refine zZ<|yG [15] rfl<|zI ?_;refine wE hMc [] (fun s1=>[(0,vT s1.l),(4,.bool neg)]) (fun o01 ho01=>?_) ?_
 · have H:=iS I0;refine yE ho01 ?_ ?_
   · intro hc1 N;exact zK<|yB 1 [] [16] rfl<|bE N fun s2 hy1 N=>zGx rfl hy1<|yJ [] [0] rfl<|yQ<|zT (ct N H)
   intro hc1 N;exact zS<|yQ<|zT (ct N H)
 intro s1 I01 le1 hMc1;have H:=H.trans le1;refine zZ<|yC ?_;refine wE hMc1 [] (fun t38=>[(0,vT s1.l),(4,.bool neg),(38,.bool t38)]) (fun o02 ho02=>?_) ?_
 · have H:=iS I01;refine zK<|yB 4 [] [21] rfl<|xW [21] ho02 ?_ ?_
   · intro hc2 N;exact wG [] [(38,vY)]<|yQ<|zT (ct N H)
   intro hc2 N;refine yB 9 [] [26] rfl<|xW [26] N ?_ ?_
   · intro hc3 N;exact wG [] [(38,vY)]<|yQ<|zT (ct N H)
   intro hc3 N;refine yB 10 [] [27] rfl<|bE N fun b1 hy2 N=>zAR rfl rfl hy2<|yB 13 [] [30] rfl<|xW [30] N ?_ ?_
   · intro hc4 N;refine yB 17 [] [34] rfl<|xW [34] N ?_ ?_
     · intro hc5 N;exact wG [] [(38,vY)]<|yQ<|zT (ct N H)
     intro hc5 N;exact yJ [] [38] rfl<|yQ<|zT (ct N H)
   intro hc4 N;exact wG [] [(38,vF)]<|yQ<|zT (ct N H)
 intro t38 I02 le2 hMc2;have H:=H.trans le2;refine zI<|yE hMc2 ?_ ?_
 · intro hc6 N;refine yG [2,3] rfl<|xG<|zH ?_;obtain rfl:=zC N;exact xA ⟨_,_,(.tmp rfl (.tmp rfl ResV.nil)),zQ,⟨_,_,rfl,rfl,rfl,rfl⟩⟩
 intro hc6 N;refine zS<|vG [5] rfl<|zZ<|yG [6] rfl<|xZ<|pJ [(0,vT s1.l),(4,.bool neg),(5,vI 0),(6,vI 0)] ?_;obtain ⟨o04,ho04,hMl⟩:=zB N;refine zDv s1 0 0 o04 ho04 iR  (fun _ _ _ h=>h) (fun _ _ h=>h) ?_ ?_
 · intro I04 n01 heq4 le4;subst o04;have H:=H.trans le4;refine zR<|zZ<|yG [63] rfl<|zI ?_;refine wE hMl [] (fun n02=>[(5,vI n02)]) (fun o05 ho05=>?_) ?_
   · have H:=iS I04;refine yE ho05 ?_ ?_
     · intro hc10 N;exact zK<|yJ [] [5] rfl<|yQ<|zT (ct N H)
     intro hc10 N;exact zS<|yQ<|zT (ct N H)
   intro n02 I05 le5 hMc4;refine vG [2,3] rfl<|zI<|yW ?_;obtain rfl:=zC hMc4;exact xA ⟨_,_,(.tmp rfl (.tmp rfl ResV.nil)),zQ,⟨_,_,rfl,rfl,rfl,rfl⟩⟩
 intro r0 I9 hs9 m9 heq9 le9 hrs9;subst heq9;refine zW<|zH ?_;obtain rfl:=zC hMl;exact xA hrs9
def qC (s:Str) (at0:Int) (end0:Int):Option (Int):=do
 let t31←(do
   if (decide (end0 < (s.l.length:Int))) then
    if (decide (end0 < (W (at0 + 2)))) then
     let b←sidx s end0
     if (decide ((b.toNat:Int) ≥ 48)) then
      let b1←sidx s end0
      pure (decide ((b1.toNat:Int) ≤ 57))
     else
      pure false
    else
     pure false
   else
    pure false
     : Option Bool)
 if t31 then
  qC s at0 (W (end0 + 1))
 else
  pure (id end0)
 partial_fixpoint
theorem zCg (s:Str) (at0:Int):∀ (end0:Int) (o:Int),qC s at0 end0=some o→∀ {B}{I0 I:Imm}{Q}  ,I0.le I→NG Q→NO Q→(∀ (I':Imm) (end01:Int),o=end01→I0.le I'→T 47 B Q (.exit 0) I' [] [(0,vT s.l),(1,vI at0),(6,vI end01)])→J Tryz.prog 47 B (nav (bodyOf Tryz.f255) [1,1,0,0]) Q I [] [(0,vT s.l),(1,vI at0),(6,vI end0)]:=by
 refine qC.partial_correctness s at0 _ fun self ih end0 o N B I0 I Q H hg ho hx=>yT hg ho<|yC<|yC ?_;refine wE N [] (fun t31=>[(0,vT s.l),(1,vI at0),(6,vI end0),(31,.bool t31)]) (fun o0 ho0=>?_) ?_
 · have H:=iS I;refine zK<|yB 5 [] [14] rfl<|xW [14] ho0 ?_ ?_
   · intro hc N;refine yB 11 [] [20] rfl<|xW [20] N ?_ ?_
     · intro hc1 N;refine yB 13 [] [21,22] rfl<|bE N fun b hy N=>zAR rfl rfl hy<|yB 17 [] [26] rfl<|xW [26] N ?_ ?_
       · intro hc2 N;exact yB 19 [] [27,28] rfl<|bE N fun b1 hy1 N=>zAR rfl rfl hy1<|yJ [] [31] rfl<|yQ<|zT (ct N H)
       intro hc2 N;exact wG [] [(31,vF)]<|yQ<|zT (ct N H)
     intro hc1 N;exact wG [] [(31,vF)]<|yQ<|zT (ct N H)
   intro hc N;exact wG [] [(31,vF)]<|yQ<|zT (ct N H)
 intro t31 I0 le hMc;have H:=H.trans le;refine zI<|yE hMc ?_ ?_
 · intro hc3 N;exact zS<|xZ<|zK<|yJ [] [6] rfl<|zP<|yS<|nG<|ih (W (end0 + 1)) _ N H  hg ho hx
 intro hc3 N;exact wT<|yQ<|hx _ _ (zC N).symm H
def mB (s:Str) (at0:Int):Option (Int×Int):=do
 let end01←qC s at0 at0
 let s1←sslc s at0 end01
 let (y1,y2)←jO s1
 if (!y2) then
  pure (1,at0)
 else
  pure (y1,end01)
theorem zBC:∀ s at0 r,mB s at0=some r→∀ {I:Imm} ,RT 255 [vT s.l,vI at0] I [] (gZ  r):=by
 intro s at0 r N I;unfold mB at N;refine yM Tryz.func255 fun B=>vJ []<|vG [6] rfl<|zZ<|yH<|pJ [(0,vT s.l),(1,vI at0),(6,vI at0)] ?_;obtain ⟨o01,ho01,hMl⟩:=zB N;refine zCg s at0 at0 o01 ho01 iR  (fun _ _ _ h=>h) (fun _ _ h=>h) ?_;intro I01 end01 heq1 le1;subst o01;refine zR<|yV<|yB 3 [] [35,36,37] rfl ?_;obtain ⟨s1,hy2,N⟩:=zB hMl;refine zGx rfl hy2 ?_;obtain ⟨⟨y1,y2⟩,hy3,N⟩:=zB N;refine xQ (zCJ s1 _ hy3 ) ?_;rintro I02 hs2 v2 k2 le2 - ⟨v0,v01,rfl,rfl,rfl,rfl⟩ -;refine yJ [] [7,8] rfl<|zZ<|yG [43] rfl<|zI<|yE N ?_ ?_
 · intro hc4 N;refine yG [4,5] rfl<|xG<|zH ?_;obtain rfl:=zC N;exact xA ⟨_,_,(.tmp rfl (.tmp rfl ResV.nil)),zQ,⟨_,_,rfl,rfl,rfl,rfl⟩⟩
 intro hc4 N;refine zS<|vG [4,5] rfl<|zI<|yW ?_;obtain rfl:=zC N;exact xA ⟨_,_,(.tmp rfl (.tmp rfl ResV.nil)),zQ,⟨_,_,rfl,rfl,rfl,rfl⟩⟩
def fD (s:Str) (at0:Int):Option (Int):=do
 let t20←(do
   if (decide (at0 ≥ (s.l.length:Int))) then
    pure true
   else
    let b←sidx s at0
    if (decide ((b.toNat:Int) < 105)) then
     pure true
    else
     let b1←sidx s at0
     pure (decide ((b1.toNat:Int) > 108))
     : Option Bool)
 if t20 then
  pure (-1)
 else
  let b2←sidx s at0
  pure (W ((W (b2.toNat:Int)) - 105))
theorem zGR:∀ s at0 r,fD s at0=some r→∀ {I:Imm} ,RT 272 [vT s.l,vI at0] I [] (yK  r):=by
 intro s at0 r N I;unfold fD at N;refine yM Tryz.func272 fun B=>?_;have H:=iS I;refine vJ []<|zZ<|yC ?_;refine wE N [] (fun t20=>[(0,vT s.l),(1,vI at0),(20,.bool t20)]) (fun o0 ho0=>?_) ?_
 · have H:=iS I;refine zK<|yB 5 [] [9] rfl<|xW [9] ho0 ?_ ?_
   · intro hc N;exact wG [] [(20,vY)]<|yQ<|zT (ct N H)
   intro hc N;refine yB 7 [] [10,11] rfl<|bE N fun b hy N=>zAR rfl rfl hy<|yB 11 [] [15] rfl<|xW [15] N ?_ ?_
   · intro hc1 N;exact wG [] [(20,vY)]<|yQ<|zT (ct N H)
   intro hc1 N;exact yB 13 [] [16,17] rfl<|bE N fun b1 hy1 N=>zAR rfl rfl hy1<|yJ [] [20] rfl<|yQ<|zT (ct N H)
 intro t20 I0 le hMc;refine zI<|yE hMc ?_ ?_
 · intro hc2 N;refine yG [4] rfl<|xG<|zH ?_;obtain rfl:=zC N;exact wP
 intro hc2 N;refine zS<|yV<|yB 2 [] [21,22] rfl<|bE N fun b2 hy2 N=>zAR rfl rfl hy2<|yJ [] [4] rfl<|zI<|yW ?_;obtain rfl:=zC N;exact wP
end Go.LN
