/- Helper of the proof (see the last text). -/
import Derived.Test.YtkipogionmkncaaGreatDoorHM4
set_option linter.unusedVariables false
set_option linter.unusedSimpArgs false
namespace Go.LN
open Go.Proofs Go.Proofs.Tryz
set_option maxRecDepth 20000
def qI(r:(List zB)×Bool):KT:=λkk I' af v=>
 ∃v0 v1,af=[]/\v=tupV [v0,v1]/\SL I' v0 r.1/\v1=.bool r.2
def nA(r:(List zB)):KT:=λkk I' af v=>
 ∃v0,af=[]/\v=tupV [v0]/\SL I' v0 r
def wM(ae:(List zB))(i:Int)(k0:Int)(Lo:List zA):Option (List zA):=do
 let x<-idx ae i
 if(decide (k0<(x.Lo.length:Int))) then
  let x1<-idx ae i
  let x2<-idx x1.Lo k0
  let l<-app 8 ([]:List Int) x2.Coefs
  let l1<-app 32 Lo ([(zA.mk l x2.Const)]:List zA)
  wM ae i (W (k0+1)) l1
 else
  pure (id Lo)
 partial_fixpoint
theorem gH(ae:(List zB))(i:Int):∀(k0:Int) (Lo:List zA) (o:List zA),wM ae i k0 Lo=some o->∀{B}{I0 I:Imm}{Q}{τ:Type} [Rp τ] {ak:List τ}{p c p1 c1 cs}{b1:Nat}{p3 c3 bf},I0.le I->(S4 I p ae c)->(RL I cs ak)->(RL I bf Lo)->NG Q->NO Q->(∀(I':Imm) (Lo1:List zA) (p4:Option Addr) (c4:Nat) (aZ:List Value),o=Lo1->I0.le I'->(RL I' aZ Lo1)->T 83 B Q (.exit 2) I' [hO zA (vS p4 Lo1 c4) aZ,hB b1 [vS p4 Lo1 c4,z0],hO τ (vS p1 ak c1) cs] [(0,vS p ae c),(3,vS p1 ak c1),(4,vI i),(5,vP b1 0)])->J Tryz.prog 83 B (nav (bodyOf f171) [1,1,0,1,0,0,1,0,0,1,0,1,0]) Q I [hO zA (vS p3 Lo c3) bf,hB b1 [vS p3 Lo c3,z0],hO τ (vS p1 ak c1) cs] [(0,vS p ae c),(3,vS p1 ak c1),(4,vI i),(5,vP b1 0),(6,vI k0)]:=by
 refine wM.partial_correctness ae i _ λaO ih k0 Lo o N B I0 I Q τ _ ak p c p1 c1 cs b1 p3 c3 bf H h h2 h5 hg ho hx=>wI hg ho<|yK<|xH<|yE 3 [] [18,19,20] rfl<|bE N λx hy N=>tO rfl rfl h hy ?_;intro ad az au al;obtain⟨p5,c5,p6,c6,rfl,h7,h8⟩:=yZ al;refine yE 5 [] [22] rfl<|tN 0 au [vS p5 x.Lo c5] (vS p5 x.Lo c5) rfl<|yO [] [25] rfl<|zE<|yI N ?_ ?_
 ·intro aG N;refine zO<|yC<|xK<|xH<|yE 2 [] [28,29] rfl<|bE N λx1 aA N=>tO rfl rfl h aA ?_;intro ad1 bh aJ aD;obtain⟨p7,c7,p8,c8,rfl,h9,h10⟩:=yZ aD;refine yE 4 [] [31] rfl<|tN 0 aJ [vS p7 x1.Lo c7] (vS p7 x1.Lo c7) rfl<|yE 6 [] [33] rfl<|bE N λx2 aL N=>tO rfl rfl h9 aL ?_;intro ad2 bO bw bB;obtain⟨p9,c9,rfl,h11⟩:=yB bB;refine tN 0 bw (cAff x2 p9 c9) (vA (cAff x2 p9 c9)) rfl<|rF [z0,vI 0] ?_;intro b2 hb2;refine uE 0 (cAff x2 p9 c9) rfl<|xA rfl<|zE ?_;obtain⟨l,aS,N⟩:=zC N;obtain⟨l1,bg,N⟩:=zC N;refine qA [.p (vP b1 0) [],.p (vS p3 Lo c3) [1],.x (λI' v hx=>∃b3,v=vS (some ⟨b3,0,none⟩) ([]:List Int) 0/\hx=[hO Int (vS (some ⟨b3,0,none⟩) ([]:List Int) 0) []]/\(RL I' [] ([]:List Int))),.p (vP b2 0) [],.p (vS p9 x2.Coefs c9) [0],.x (λI' v hx=>∃bN bM bL,v=vS bN l bM/\hx=[hO Int (vS bN l bM) bL]/\(RL I' bL l)),.p (vP b2 1) [],.p (vI x2.Const) [0],.x (λI' v hx=>∃p101 c101 cs41,v=vA [vS p101 l c101,vI x2.Const]/\hx=[hO Int (vS p101 l c101) cs41]/\(RL I' cs41 l)),.x (λI' v hx=>∃b4,v=vS (some ⟨b4,0,none⟩) ([(zA.mk l x2.Const)]:List zA) 1/\hx=[]/\(SL I' (vS (some ⟨b4,0,none⟩) ([(zA.mk l x2.Const)]:List zA) 1) ([(zA.mk l x2.Const)]:List zA))),.x (λI' v hx=>∃aX aY bC,v=vS aX l1 aY/\hx=[hO zA (vS aX l1 aY) bC]/\(RL I' bC l1))] [[],[(0,false)],[],[],[(3,false)],[(2,true),(4,false)],[],[(6,false)],[(5,true),(7,false)],[(8,true)],[(1,false),(9,false),(13,true)]] [hB b2 (cAff x2 p9 c9),hB b1 [vS p3 Lo c3,z0],hO τ (vS p1 ak c1) cs] [[hO zA (vS p3 Lo c3) bf]] [(10,true)] (xN [0,2,3,1]) ?_ ?_
  ·refine Op<|Op<|Ox ?_<|Op<|Op<|Ox ?_<|Op<|Op<|Ox ?_<|Ox ?_<|Ox ?_<|On
   ·intro I1 hf ah;refine I_h []<|qC [] Int ?_;intro b3 hb3;have h12:RL I1 [] ([]:List Int):=rfl;exact uP [hO Int (vS (some ⟨b3,0,none⟩) ([]:List Int) 0) []] iR ⟨_,rfl,rfl,h12⟩
   ·rintro I1 hf ah _ _ ⟨b3,rfl,rfl,h12⟩;refine uS [38,40] rfl ?_;have h11:=h11.mono ah;obtain⟨ccs3,k01,k02⟩:=h11;have h11:SL I1 (vS p9 x2.Coefs c9) x2.Coefs:=⟨_,k01,k02⟩;exact oO 3 1 0 rfl rfl rfl h12 (.inl k01) k02 aS λbN bM bL h13=>sO (af:=(hO Int (vS bN l bM) bL::hB b2 (cAff x2 p9 c9)::hB b1 [vS p3 Lo c3,z0]::hO τ (vS p1 ak c1) cs::hf)) rfl<|uP [hO Int (vS bN l bM) bL] iR ⟨_,_,_,rfl,rfl,h13⟩
   ·rintro I1 hf ah _ _ ⟨bN,bM,bL,rfl,rfl,h13⟩;exact uS [41,43] rfl<|R_p 9 [(44,vA [vS bN l bM,vI x2.Const])]<|uP [hO Int (vS bN l bM) bL] iR ⟨_,_,_,rfl,rfl,h13⟩
   ·rintro I1 hf ah _ _ ⟨p101,c101,cs41,rfl,rfl,h131⟩;refine uS [44] rfl ?_;have H:=iS I1;refine uZ 0 rfl ?_;intro I0 le hl0;have h14:=SL.of_frozen hl0 le h131;have H:=H.trans le;refine dW (rc (zA.mk l x2.Const) (zQ ⟨_,rfl,h14⟩) rN) ?_;intro b4 aQ ah h16;have H:=H.trans ah;exact uP [] H ⟨_,rfl,rfl,h16⟩
   rintro I1 hf ah _ _ ⟨rfl,rfl⟩ _ _ ⟨b4,rfl,rfl,h16⟩ _ _ rfl;refine uS [37,45] rfl ?_;have h5:=iM ah h5;obtain⟨ccs4,k03,k04⟩:=h16;have h16:SL I1 (vS (some ⟨b4,0,none⟩) ([(zA.mk l x2.Const)]:List zA) 1) ([(zA.mk l x2.Const)]:List zA):=⟨_,k03,k04⟩;exact oO 50 2 0 rfl rfl rfl h5 (.inl k03) k04 bg λaX aY bC h17=>sO (af:=(hO zA (vS aX l1 aY) bC::hB b2 (cAff x2 p9 c9)::hB b1 [vS p3 Lo c3,z0]::hO τ (vS p1 ak c1) cs::hf)) rfl<|uP [hO zA (vS aX l1 aY) bC] iR ⟨_,_,_,rfl,rfl,h17⟩
  rintro aW aH _ _ ⟨aX,aY,bC,rfl,rfl,h17⟩;refine uS [0,3,4,5,6,46] rfl ?_;have ⟨h,h2,H⟩:=m3 aH h h2 H;exact yE 12 [] [47] rfl<|uE 2 [vS aX l1 aY,z0] rfl<|xA rfl<|zJ<|zE<|zF<|yO [] [6] rfl<|wD<|jR (yS [0,2,3] rfl (by decide))<|kK<|ih (W (k0+1)) l1 _ N H h h2 h17 hg ho hx
 intro aG N;exact rG<|xC<|hx _ _ _ _ _ (zD N).symm H h5
def wN(ae:(List zB))(i:Int)(k05:Int)(Hi:List zA):Option (List zA):=do
 let x3<-idx ae i
 if(decide (k05<(x3.Hi.length:Int))) then
  let x4<-idx ae i
  let x5<-idx x4.Hi k05
  let l2<-app 8 ([]:List Int) x5.Coefs
  let l3<-app 32 Hi ([(zA.mk l2 x5.Const)]:List zA)
  wN ae i (W (k05+1)) l3
 else
  pure (id Hi)
 partial_fixpoint
theorem gI(ae:(List zB))(i:Int):∀(k05:Int) (Hi:List zA) (o:List zA),wN ae i k05 Hi=some o->∀{B}{I0 I:Imm}{Q}{τ:Type} [Rp τ] {ak:List τ}{Lo1:List zA}{p c p1 c1 cs}{b1:Nat}{p4 c4 aZ bK bJ cs6},I0.le I->(S4 I p ae c)->(RL I cs ak)->(RL I aZ Lo1)->(RL I cs6 Hi)->NG Q->NO Q->(∀(I':Imm) (Hi1:List zA) (bt:Option Addr) (br:Nat) (cs7:List Value),o=Hi1->I0.le I'->(RL I' cs7 Hi1)->T 83 B Q (.exit 4) I' [hO zA (vS bt Hi1 br) cs7,hO zA (vS p4 Lo1 c4) aZ,hB b1 [vS p4 Lo1 c4,vS bt Hi1 br],hO τ (vS p1 ak c1) cs] [(0,vS p ae c),(3,vS p1 ak c1),(4,vI i),(5,vP b1 0)])->J Tryz.prog 83 B (nav (bodyOf f171) [1,1,0,1,0,0,1,0,0,1,1,0,1,0]) Q I [hO zA (vS bK Hi bJ) cs6,hO zA (vS p4 Lo1 c4) aZ,hB b1 [vS p4 Lo1 c4,vS bK Hi bJ],hO τ (vS p1 ak c1) cs] [(0,vS p ae c),(3,vS p1 ak c1),(4,vI i),(5,vP b1 0),(8,vI k05)]:=by
 refine wN.partial_correctness ae i _ λaO ih k05 Hi o N B I0 I Q τ _ ak Lo1 p c p1 c1 cs b1 p4 c4 aZ bK bJ cs6 H h h2 h6 h19 hg ho hx=>wI hg ho<|yK<|xH<|yE 3 [] [48,49,50] rfl<|bE N λx3 bj N=>tO rfl rfl h bj ?_;intro ad3 ccs5 hat3 bQ;obtain⟨p14,c14,p15,c15,rfl,h21,h22⟩:=yZ bQ;refine yE 5 [] [52] rfl<|tN 1 hat3 [vS p15 x3.Hi c15] (vS p15 x3.Hi c15) rfl<|yO [] [55] rfl<|zE<|yI N ?_ ?_
 ·intro aR N;refine zO<|yC<|xK<|xH<|yE 2 [] [58,59] rfl<|bE N λx4 hy6 N=>tO rfl rfl h hy6 ?_;intro ad4 ccs6 hat4 hrep4;obtain⟨p16,c16,p17,c17,rfl,h23,h24⟩:=yZ hrep4;refine yE 4 [] [61] rfl<|tN 1 hat4 [vS p17 x4.Hi c17] (vS p17 x4.Hi c17) rfl<|yE 6 [] [63] rfl<|bE N λx5 hy7 N=>tO rfl rfl h24 hy7 ?_;intro ad5 ccs7 hat5 hrep5;obtain⟨p18,c18,rfl,h25⟩:=yB hrep5;refine tN 0 hat5 (cAff x5 p18 c18) (vA (cAff x5 p18 c18)) rfl<|rF [z0,vI 0] ?_;intro b5 hb5;refine uE 0 (cAff x5 p18 c18) rfl<|xA rfl<|zE ?_;obtain⟨l2,hy8,N⟩:=zC N;obtain⟨l3,hy9,N⟩:=zC N;refine qA [.p (vP b1 1) [],.p (vS bK Hi bJ) [2],.x (λI' v hx=>∃b6,v=vS (some ⟨b6,0,none⟩) ([]:List Int) 0/\hx=[hO Int (vS (some ⟨b6,0,none⟩) ([]:List Int) 0) []]/\(RL I' [] ([]:List Int))),.p (vP b5 0) [],.p (vS p18 x5.Coefs c18) [0],.x (λI' v hx=>∃p19 c19 cs8,v=vS p19 l2 c19/\hx=[hO Int (vS p19 l2 c19) cs8]/\(RL I' cs8 l2)),.p (vP b5 1) [],.p (vI x5.Const) [0],.x (λI' v hx=>∃p191 c191 cs81,v=vA [vS p191 l2 c191,vI x5.Const]/\hx=[hO Int (vS p191 l2 c191) cs81]/\(RL I' cs81 l2)),.x (λI' v hx=>∃b7,v=vS (some ⟨b7,0,none⟩) ([(zA.mk l2 x5.Const)]:List zA) 1/\hx=[]/\(SL I' (vS (some ⟨b7,0,none⟩) ([(zA.mk l2 x5.Const)]:List zA) 1) ([(zA.mk l2 x5.Const)]:List zA))),.x (λI' v hx=>∃p20 c20 cs9,v=vS p20 l3 c20/\hx=[hO zA (vS p20 l3 c20) cs9]/\(RL I' cs9 l3))] [[],[(0,false)],[],[],[(3,false)],[(2,true),(4,false)],[],[(6,false)],[(5,true),(7,false)],[(8,true)],[(1,false),(9,false),(13,true)]] [hB b5 (cAff x5 p18 c18),hO zA (vS p4 Lo1 c4) aZ,hB b1 [vS p4 Lo1 c4,vS bK Hi bJ],hO τ (vS p1 ak c1) cs] [[hO zA (vS bK Hi bJ) cs6]] [(10,true)] (xN [0,2,3,4,1]) ?_ ?_
  ·refine Op<|Op<|Ox ?_<|Op<|Op<|Ox ?_<|Op<|Op<|Ox ?_<|Ox ?_<|Ox ?_<|On
   ·intro I1 hf ah;refine I_h []<|qC [] Int ?_;intro b6 hb6;have h26:RL I1 [] ([]:List Int):=rfl;exact uP [hO Int (vS (some ⟨b6,0,none⟩) ([]:List Int) 0) []] iR ⟨_,rfl,rfl,h26⟩
   ·rintro I1 hf ah _ _ ⟨b6,rfl,rfl,h26⟩;refine uS [68,70] rfl ?_;have h25:=h25.mono ah;obtain⟨ccs8,k06,k07⟩:=h25;have h25:SL I1 (vS p18 x5.Coefs c18) x5.Coefs:=⟨_,k06,k07⟩;exact oO 3 1 0 rfl rfl rfl h26 (.inl k06) k07 hy8 λp19 c19 cs8 h27=>sO (af:=(hO Int (vS p19 l2 c19) cs8::hB b5 (cAff x5 p18 c18)::hO zA (vS p4 Lo1 c4) aZ::hB b1 [vS p4 Lo1 c4,vS bK Hi bJ]::hO τ (vS p1 ak c1) cs::hf)) rfl<|uP [hO Int (vS p19 l2 c19) cs8] iR ⟨_,_,_,rfl,rfl,h27⟩
   ·rintro I1 hf ah _ _ ⟨p19,c19,cs8,rfl,rfl,h27⟩;exact uS [71,73] rfl<|R_p 9 [(74,vA [vS p19 l2 c19,vI x5.Const])]<|uP [hO Int (vS p19 l2 c19) cs8] iR ⟨_,_,_,rfl,rfl,h27⟩
   ·rintro I1 hf ah _ _ ⟨p191,c191,cs81,rfl,rfl,h271⟩;refine uS [74] rfl ?_;have H:=iS I1;refine uZ 0 rfl ?_;intro bu aV hl02;have h28:=SL.of_frozen hl02 aV h271;have H:=H.trans aV;refine dW (rc (zA.mk l2 x5.Const) (zQ ⟨_,rfl,h28⟩) rN) ?_;intro b7 bG bm h30;have H:=H.trans bm;exact uP [] H ⟨_,rfl,rfl,h30⟩
   rintro I1 hf ah _ _ ⟨rfl,rfl⟩ _ _ ⟨b7,rfl,rfl,h30⟩ _ _ rfl;refine uS [67,75] rfl ?_;have h19:=iM ah h19;obtain⟨ccs9,k08,k09⟩:=h30;have h30:SL I1 (vS (some ⟨b7,0,none⟩) ([(zA.mk l2 x5.Const)]:List zA) 1) ([(zA.mk l2 x5.Const)]:List zA):=⟨_,k08,k09⟩;exact oO 50 2 0 rfl rfl rfl h19 (.inl k08) k09 hy9 λp20 c20 cs9 h31=>sO (af:=(hO zA (vS p20 l3 c20) cs9::hB b5 (cAff x5 p18 c18)::hO zA (vS p4 Lo1 c4) aZ::hB b1 [vS p4 Lo1 c4,vS bK Hi bJ]::hO τ (vS p1 ak c1) cs::hf)) rfl<|uP [hO zA (vS p20 l3 c20) cs9] iR ⟨_,_,_,rfl,rfl,h31⟩
  rintro I06 bp _ _ ⟨p20,c20,cs9,rfl,rfl,h31⟩;refine uS [0,3,4,5,8,76] rfl ?_;have ⟨h,h2,h6,H⟩:=m4 bp h h2 h6 H;exact yE 12 [] [77] rfl<|uE 3 [vS p4 Lo1 c4,vS p20 l3 c20] rfl<|xA rfl<|zJ<|zE<|zF<|yO [] [8] rfl<|wD<|jR (yS [0,2,3,4] rfl (by decide))<|kK<|ih (W (k05+1)) l3 _ N H h h2 h6 h31 hg ho hx
 intro aR N;exact rG<|xC<|hx _ _ _ _ _ (zD N).symm H h19
def wO(ae:(List zB))(ak:List zB)(i:Int):Option (List zB):=do
 if(decide (i<(ae.length:Int))) then
  let Lo1<-wM ae i 0 ([]:List zA)
  let Hi1<-wN ae i 0 ([]:List zA)
  let ax<-app 48 ak ([(zB.mk Lo1 Hi1)]:List zB)
  wO ae ax (W (i+1))
 else
  pure (id ak)
 partial_fixpoint
def rL(ae:(List zB)):Option ((List zB)):=do
 let aj<-wO ae ([]:List zB) 0
 pure (id aj)
theorem zDj(xs:List NL)(x:NL):(x.ha++NLs xs).Perm (NLs (xs++[x])):=by
 simp only[NLs,cT,cd,List.flatMap_nil,cG];exact cV
theorem jJ(ae:(List zB)):∀(ak:List zB) (i:Int) (o:List zB),wO ae ak i=some o->∀{B}{I0 I:Imm}{Q p c p1 c1 cs}{xs:List NL},I0.le I->(S4 I p ae c)->(RL I cs (xs.map NL.raw))->ak=xs.map NL.d->(∀x∈xs,x.ok I)->(∀l a w,¬Q (.goto l) a w)->(∀a w,¬Q .outgrown a w)->(∀(I':Imm) (p2:Option Addr) (c2:Nat) (aF:List Value) (ys:List NL),I0.le I'->o=ys.map NL.d->(RL I' aF (ys.map NL.raw))->(∀x∈ys,x.ok I')->T 83 B Q (.exit 0) I' (hO Raw2 (vS p2 (ys.map NL.raw) c2) aF::NLs ys) [(3,vS p2 (ys.map NL.raw) c2)])->J Tryz.prog 83 B (nav (bodyOf f171) [1,1,0,1,0]) Q I (hO Raw2 (vS p1 (xs.map NL.raw) c1) cs::NLs xs) [(0,vS p ae c),(3,vS p1 (xs.map NL.raw) c1),(4,vI i)]:=by
 refine wO.partial_correctness ae _ λaO ih ak i o N B I0 I Q p c p1 c1 cs xs H h h2 hout bv hg ho hx=>wI hg ho<|yK<|yL [14] rfl<|zE<|yI N ?_ ?_
 ·intro hc N;refine zO<|yC<|xK<|xH<|yE 1 [] [17] rfl<|rF zTwo ?_;intro b1 hb1;refine zB9 0 zTwo (hB b1 zTwo::hO Raw2 (vS p1 (xs.map NL.raw) c1) cs::NLs xs) rfl rfl rfl rfl<|xA rfl<|yC<|yL [6] rfl<|sR<|pY [(0,vS p ae c),(3,vS p1 (xs.map NL.raw) c1),(4,vI i),(5,vP b1 0),(6,vI 0)]<|zCv zA λh4=>?_;obtain⟨o0,aC,aM⟩:=zC N;refine zFS (hs:=[hO zA (vS none ([]:List zA) 0) [],hB b1 zTwo,hO Raw2 (vS p1 (xs.map NL.raw) c1) cs]) (L:=NLs xs) (.exit 2) (λI' af m'=>∃p4 c4 aZ,RL I' aZ o0/\af=[hO zA (vS p4 o0 c4) aZ,hB b1 [vS p4 o0 c4,z0],hO Raw2 (vS p1 (xs.map NL.raw) c1) cs]/\m'=[(0,vS p ae c),(3,vS p1 (xs.map NL.raw) c1),(4,vI i),(5,vP b1 0)]) (λB'=>?_) ?_
  ·refine gH ae i 0 ([]:List zA) o0 aC iR h h2 h4 (λ_ _ _ h=>by cases h.1) (λ_ _ h=>by cases h.1) ?_;intro a6 Lo1 p4 c4 aZ heq aK h6;subst o0;exact zFT ⟨_,_,_,h6,rfl,rfl⟩
  rintro a6 _ _ ⟨p4,c4,aZ,h6,rfl,rfl⟩ aK;have ⟨h,h2⟩:=m2 aK h h2;have bv:=λx hx=>(bv x hx).mono aK;have H:=H.trans aK;refine zR<|yC<|yL [8] rfl<|sR<|pY [(0,vS p ae c),(3,vS p1 (xs.map NL.raw) c1),(4,vI i),(5,vP b1 0),(8,vI 0)]<|zCv zA λh18=>?_;obtain⟨aI,aB,hMl1⟩:=zC aM;refine zFS (hs:=[hO zA (vS none ([]:List zA) 0) [],hO zA (vS p4 o0 c4) aZ,hB b1 [vS p4 o0 c4,z0],hO Raw2 (vS p1 (xs.map NL.raw) c1) cs]) (L:=NLs xs) (.exit 4) (λI' af m'=>∃bt br cs7,RL I' cs7 aI/\af=[hO zA (vS bt aI br) cs7,hO zA (vS p4 o0 c4) aZ,hB b1 [vS p4 o0 c4,vS bt aI br],hO Raw2 (vS p1 (xs.map NL.raw) c1) cs]/\m'=[(0,vS p ae c),(3,vS p1 (xs.map NL.raw) c1),(4,vI i),(5,vP b1 0)]) (λB'=>?_) ?_
  ·refine gI ae i 0 ([]:List zA) aI aB iR h h2 h6 h18 (λ_ _ _ h=>by cases h.1) (λ_ _ h=>by cases h.1) ?_;intro I07 Hi1 bt br cs7 heq1 le7 h20;subst aI;exact zFT ⟨_,_,_,h20,rfl,rfl⟩
  rintro I07 _ _ ⟨bt,br,cs7,h20,rfl,rfl⟩ le7;have ⟨h,h2,h6⟩:=m3 le7 h h2 h6;have bv:=λx hx=>(bv x hx).mono le7;have H:=H.trans le7;obtain⟨ax,hy10,N⟩:=zC hMl1;have hy11:=zEV (l':=xs.map NL.raw) (m':=[(⟨vS p4 o0 c4,vS bt aI br⟩:Raw2)]) hy10 (by simp[hout]) rfl;obtain⟨_,rfl⟩:=mK hy10;have h34:RL I07 [vS p4 o0 c4,vS bt aI br] [(⟨vS p4 o0 c4,vS bt aI br⟩:Raw2)]:=⟨[vS p4 o0 c4,vS bt aI br],[],rfl,rfl,⟨rfl,rfl,rfl⟩,rfl⟩;refine zR<|zE<|zF<|gX 2 [2] [(78,vS p1 (xs.map NL.raw) c1),(79,vA [vS p4 o0 c4,vS bt aI br])]<|qC [vS p4 o0 c4,vS bt aI br] Raw2 ?_;intro b8 hb8;refine oO 92 2 4 rfl rfl rfl h2 (.inr ⟨0,rfl⟩) h34 hy11 ?_;intro p21 c21 cs10 h35;have eR:xs.map NL.raw++[(⟨vS p4 o0 c4,vS bt aI br⟩:Raw2)]=(xs++[(⟨p4,o0,c4,aZ,bt,aI,br,cs7⟩:NL)]).map NL.raw:=by simp[NL.raw,NL.vl,NL.vh]
  have eD:ak++[(⟨o0,aI⟩:zB)]=(xs++[(⟨p4,o0,c4,aZ,bt,aI,br,cs7⟩:NL)]).map NL.d:=by simp[hout,NL.d]
  rw[eR] at h35 ⊢;refine yO [] [3] rfl<|zJ<|zE<|zF<|yO [] [4] rfl<|wD<|jR (gZ 0 rfl)<|jR (gZ 2 rfl)<|zAv _ ?_<|pY [(0,vS p ae c),(3,vS p21 ((xs++[(⟨p4,o0,c4,aZ,bt,aI,br,cs7⟩:NL)]).map NL.raw) c21),(4,vI (W (i+1)))]<|ih _ (W (i+1)) _ N H h h35 eD ?_ hg ho hx
  ·show List.Perm _ (hO zA (vS bt aI br) cs7::hO zA (vS p4 o0 c4) aZ::hO Raw2 (vS p21 ((xs++[(⟨p4,o0,c4,aZ,bt,aI,br,cs7⟩:NL)]).map NL.raw) c21) cs10::NLs xs);exact List.Perm.trans ((zDj xs ⟨p4,o0,c4,aZ,bt,aI,br,cs7⟩).symm.cons _)<|(List.Perm.swap _ _ _).trans (List.Perm.cons _ (List.Perm.swap _ _ _))
  intro x hx';rcases cC.1 hx' with hx' | hx'
  ·exact bv x hx'
  rw[co.1 hx'];exact⟨h6,h20⟩
 intro hc N;have:=zD N;simp only[id] at this;exact rG<|xC<|hx _ _ _ _ _ H (by rw[<- this,hout]) h2 bv
def gJ(r:(List zB)):KT:=λkk I' af v=>
 ∃(p:Option Addr) (c:Nat) (cs:List Value) (xs:List NL),af=hO Raw2 (vS p (xs.map NL.raw) c) cs::NLs xs/\v=tupV [vS p (xs.map NL.raw) c]/\RL I' cs (xs.map NL.raw)/\r=xs.map NL.d/\∀x∈xs,x.ok I'
theorem eN:∀(ae:(List zB)) r,rL ae=some r->∀{I:Imm}{p c},(S4 I p ae c)->RT 171 [vS p ae c] I [] (gJ  r):=by
 intro ae r N I p c h;unfold rL at N;refine yN func171 λB=>vO []<|xF<|qC [] zB ?_;intro b hb;have h1:RL I [] (([]:List NL).map NL.raw):=rfl;refine yO [] [3] rfl<|yC<|yL [4] rfl<|sR<|pY [(0,vS p ae c),(3,vS (some ⟨b,0,none⟩) (([]:List NL).map NL.raw) 0),(4,vI 0)] ?_;obtain⟨o02,ho02,hMl2⟩:=zC N;refine jJ ae ([]:List zB) 0 o02 ho02 (xs:=[]) iR h h1 rfl (λ_ h=>by cases h) (λ_ _ _ h=>h) (λ_ _ h=>h) ?_;intro I1 p2 c2 aF ys le10 ho h3 hok;have:=zD hMl2;simp only[id] at this;subst this;exact zR<|sH [2] rfl<|vG<|wJ ⟨_,_,(.tmp rfl ResV.nil),(λ_ g=>g),⟨_,_,_,ys,rfl,rfl,h3,ho,hok⟩⟩
def vE(ak:List zB):Option (List zB):=do
 if(decide ((ak.length:Int)<=4)) then
  let x<-idx ak 0
  let l<-app 48 ak ([x]:List zB)
  vE l
 else
  pure (id ak)
 partial_fixpoint
def sT(r0:zH)(ae:(List zB)):Option ((List zB)×zH):=do
 let y<-rL ae
 if((y.length:Int)==0) then
  pure (y,r0)
 else
  let (y2,y3)<-yH r0 40
  if(y2==0) then
   let x<-idx y 0
   let (y5,y6)<-yH y3 2
   let y7<-tE y5
   let l<-app 32 x.Lo ([y7]:List zA)
   pure (y.set 0 (zB.mk l x.Hi),y6)
  else
   if(y2==1) then
    let x<-idx y (W ((y.length:Int) - 1))
    pure (y.set (W ((y.length:Int) - 1)).toNat (zB.mk x.Lo []),y3)
   else
    if(y2==2) then
     let x<-idx y (W ((y.length:Int) - 1))
     let y7<-xU 1
     let y8<-xU 2
     let l<-app 32 x.Hi ([y7,y8]:List zA)
     pure (y.set (W ((y.length:Int) - 1)).toNat (zB.mk x.Lo l),y3)
    else
     if(y2==3) then
      let y7<-xU 99
      let x<-idx y 0
      pure (y.set 0 (zB.mk x.Lo [y7]),y3)
     else
      if(y2==4) then
       let z<-vE y
       pure (z,y3)
      else
       pure (y,y3)
theorem kS:∀(ak:List zB) (o:List zB),vE ak=some o->∀{B}{I0 I:Imm}{Q}{K:HA}{p1 c1 cs},I0.le I->RL I cs ak->(∀l a w,¬Q (.goto l) a w)->(∀a w,¬Q .outgrown a w)->(∀(I':Imm) (p2:Option Addr) (c2:Nat) (aF:List Value),I0.le I'->RL I' aF o->T 73 B Q (.exit 1) I' [hO zB (vS p2 o c2) aF,K] [(5,vS p2 o c2)])->J Tryz.prog 73 B (nav (bodyOf f109) [1,1,1,1,0,1,0,1,1,1,1,1,1,1,1,1,0,0]) Q I [hO zB (vS p1 ak c1) cs,K] [(5,vS p1 ak c1)]:=by
 refine vE.partial_correctness _ λaO ih ak o N B I0 I Q K p1 c1 cs H h hg ho hx=>wI hg ho<|yK<|yL [65] rfl<|zE<|yI N ?_ ?_
 ·intro hc N;obtain⟨x,hy,N⟩:=zC N;obtain⟨l,aA,N⟩:=zC N;refine zO<|sR<|zF<|yE 2 [] [66,67] rfl<|nW 0 rfl rfl rfl h hy ?_;intro ad az au bo al;obtain⟨p3,c3,p4,c4,rfl,h1,h2⟩:=yZ al;refine zD9 0 0 au bo (cLoop x p3 c3 p4 c4) (vA (cLoop x p3 c3 p4 c4)) rfl rfl<|qC (cLoop x p3 c3 p4 c4) zB ?_;intro b2 hb2;have h3:RL I (cLoop x p3 c3 p4 c4) ([x]:List zB):=⟨(cLoop x p3 c3 p4 c4),[],rfl,rfl,xO ⟨_,_,rfl,h1,h2⟩,rfl⟩;exact oO 92 2 1 rfl rfl rfl h (.inr ⟨0,rfl⟩) h3 aA λp5 c5 bC h5=>yO [] [5] rfl<|zJ<|wD<|jR (gZ 0 rfl)<|kK<|ih l _ N H h5 hg ho hx
 intro hc N;have:=zD N;simp only[id] at this;subst this;exact rG<|xC<|hx _ _ _ _ H h
def pP(b0:Nat)(r:(List zB)×zH):KT:=λkk I' af v=>
 ∃v0 k0,af=[.blk b0 ⟨k0⟩]/\v=tupV [v0]/\SL I' v0 r.1/\Rp.rep I' k0 r.2
theorem nB{B:Base}{I:Imm}{ak:List zB}{p1 c1 cs}{aE:Nat}{kl:List Value}{y3:zH}(h:RL I cs ak)(hk:Rp.rep I kl y3):
 J Tryz.prog 73 B (nav (bodyOf f109) [1,1,1,1,1]) (QB Tryz.prog f109 B (pP aE (ak,y3))) I [hO zB (vS p1 ak c1) cs,hB aE kl] [(5,vS p1 ak c1)]:=by
 refine yL [4] rfl<|vG<|uN 0 rfl ?_
 intro I1 ah hl
 have h1:=SL.of_frozen hl ah h
 exact wJ ⟨_,_,(.tmp rfl ResV.nil),(λ_ g=>g),⟨_,_,rfl,rfl,h1,Rp.mono ah hk⟩⟩
theorem zDk(xs:List NL):((xs.map NL.d).length:Int)=((xs.map NL.raw).length:Int):=by simp
theorem zEW{p c}(xs:List NL):vS p (xs.map NL.raw) c=vS p (xs.map NL.d) c:=by simp[vS]
theorem fK:∀r0 ae r,sT r0 ae=some r->∀{I:Imm}{aE:Nat}{p c p1 c1},(S4 I p r0.b c)->(S4 I p1 ae c1)->RT 109 [vP aE 0,vS p1 ae c1] I [hB aE (cRd r0 p c)] (pP aE r):=by
 intro r0 ae r N I aE p c p1 c1 h h1;unfold sT at N;refine yN func109 λB=>?_;have H:=iS I;obtain⟨y,hy,N⟩:=zC N;refine yL [0,1] rfl<|xF<|yE 1 [] [7] rfl<|xT (eN ae _ hy h1) ?_;rintro I1 aw v2 k2 ah - ⟨p2,c2,cs,xs,rfl,rfl,h2,rfl,bv⟩ -;have h:=h.mono ah;clear h1 H;simp only[zDk] at N;refine oI (af:=hO Raw2 (vS p2 (xs.map NL.raw) c2) cs::hB aE (cRd r0 p c)::NLs xs) (λw g=>g.perm (List.Perm.cons _ (cV (l₁:=[hB aE (cRd r0 p c)]) (l₂:=NLs xs))))<|yO [] [0,5] rfl<|sH [0,5,6] rfl<|yC<|yL [0,5,6,12] rfl<|zE<|yI N ?_ ?_
 ·intro hc N;obtain rfl:=zD N;refine zAv (NLs xs++[hO Raw2 (vS p2 (xs.map NL.raw) c2) cs,hB aE (cRd r0 p c)]) (cV)<|oQ xs bv ?_;intro I2 aH hfz;have h:=h.mono aH;have h3:=dX hfz;rw[<- rV h2] at h3;refine yL [4] rfl<|vG<|zG<|uN 0 rfl ?_;intro I3 aK hl;have h4:SL I3 (vS p2 (xs.map NL.raw) c2) (xs.map NL.d):=SL.of_frozen (l:=xs.map NL.d) hl aK h3;exact wJ ⟨_,_,(.tmp rfl ResV.nil),(λ_ g=>g),⟨_,_,rfl,rfl,h4,yR ⟨_,rfl,h.mono aK⟩⟩⟩
 intro hc N;obtain⟨⟨y2,y3⟩,aA,N⟩:=zC N;refine zO<|yC<|xH<|yE 1 [] [14] rfl<|oI (af:=hB aE (cRd r0 p c)::hO Raw2 (vS p2 (xs.map NL.raw) c2) cs::NLs xs) (λw g=>g.perm (List.Perm.swap _ _ _))<|pT (yY r0 40 _ aA h) rfl ?_;rintro I2 aw v2 k2 aH - ⟨v0,kk,rfl,rfl,rfl,h3⟩ -;obtain⟨p3,c3,rfl,h4⟩:=yG h3;clear h3 h;have h2:=iM aH h2;have bv:=λx hx=>(bv x hx).mono aH;refine yO [] [0,5,6,15] rfl<|sR<|yL [0,5,6,15,16] rfl<|zE<|zAv (NLs xs++[hO Raw2 (vS p2 (xs.map NL.raw) c2) cs,hB aE (cRd y3 p3 c3)]) ((cV).trans (List.Perm.swap _ _ _))<|yI N ?_ ?_
 ·intro hc0 N;obtain⟨x,hx,N⟩:=zC N;obtain⟨⟨y5,y6⟩,bj,N⟩:=zC N;obtain⟨y7,hy7,N⟩:=zC N;obtain⟨l,hl,N⟩:=zC N;obtain⟨x,hx2,rfl⟩:=dA hx;have hx:=hx2;clear hx2;refine zDg hx bv ?_;intro I3 aK hfz;obtain⟨xlo,xhi⟩:=bv x (uA hx |>.2.2 |> cy);replace xlo:=iM aK xlo;replace xhi:=iM aK xhi;have ⟨h2,h4⟩:=m2 aK h2 h4;clear bv;refine rK 0 rfl ?_;intro I4 aV hl4;have khi:=SL.of_frozen hl4 aV xhi;replace xlo:=iM aV xlo;have ⟨h2,h4⟩:=m2 aV h2 h4;have hfz:=λj y hj hy=>(hfz j y hj hy).mono aV;have hxr:=nI (f:=NL.raw) hx;refine pY [(0,vP aE 0),(5,vS p2 (xs.map NL.raw) c2)]<|qA [.p (vS p2 (xs.map NL.raw) c2) [],.p (vS p2 (xs.map NL.raw) c2) [],.x (λI' v hx'=>∃ad,v=.pointer (some ad)/\hx'=[]/\AtO (vS p2 (xs.map NL.raw) c2) 2 0 ad),.x (λI' v hx'=>∃ad,v=.pointer (some ad)/\hx'=[]/\AtO (vS p2 (xs.map NL.raw) c2) 2 0 ad),.x (λI' v hx'=>v=x.vl/\hx'=[]),.p (vP aE 0) [],.x (λI' v hx'=>∃kk,v=vI y5/\hx'=[hB aE kk]/\Rp.rep I' kk y6),.x (λI' v hx'=>∃p5 c5,v=vA (cAff y7 p5 c5)/\hx'=[]/\SL I' (vS p5 y7.Coefs c5) y7.Coefs),.x (λI' v hx'=>∃b4,v=vS (some ⟨b4,0,none⟩) ([y7]:List zA) 1/\hx'=[]/\SL I' (vS (some ⟨b4,0,none⟩) ([y7]:List zA) 1) ([y7]:List zA)),.x (λI' v hx'=>∃p6 c6 cs6,v=vS p6 l c6/\hx'=[hO zA (vS p6 l c6) cs6]/\RL I' cs6 l)]
   [[],[],[(1,false)],[(2,false)],[(3,false)],[],[(5,false),(13,true)],[(6,false)],[(7,false)],[(4,false),(8,false),(14,true)]]
   [hO Raw2 (vS p2 (xs.map NL.raw) c2) cs] [[hB aE (cRd y3 p3 c3)],[hO zA x.vl x.csl]] [(0,false),(6,true),(9,true)] (xN [1,2,0]) ?_ ?_
  ·refine Op<|Op<|Ox ?_<|Ox ?_<|Ox ?_<|Op<|Ox ?_<|Ox ?_<|Ox ?_<|Ox ?_<|On
   ·intro I1 hf ah;exact uS [19] rfl<|nW 0 rfl rfl rfl (iM ah h2) hxr λad az au bo al=>uP [] iR ⟨_,rfl,rfl,au⟩
   ·rintro I1 hf ah _ _ ⟨ad,rfl,rfl,au⟩;exact zCY<|zFP [(20,.pointer (some ad))]<|R_p 4 [(21,.pointer (some ad))]<|uP [] iR ⟨_,rfl,rfl,au⟩
   ·rintro I1 hf ah _ _ ⟨ad,rfl,rfl,au⟩;refine uS [21] rfl ?_;have al:=h2.at (i:=0) (uA hxr).2.2;obtain⟨⟨bo,o1,o2⟩,_⟩:=al;exact zD9 0 0 au bo [x.vl] x.vl rfl rfl<|tP iR
   ·rintro I1 hf ah _ _ ⟨rfl,rfl⟩ _ _ rfl;refine uS [23] rfl<|pT (yY y3 2 _ bj (h4.mono ah)) rfl ?_;rintro aW aw v2 k2 aH - ⟨v0,kk,rfl,rfl,rfl,h5⟩ -;exact uP [hB aE kk] aH ⟨_,rfl,rfl,h5⟩
   ·rintro I1 hf ah _ _ ⟨kk,rfl,rfl,h5⟩;refine uS [24] rfl<|xT (oJ y5 _ hy7) ?_;rintro aW aw v2 k2 aH - ⟨v0,rfl,rfl,⟨bf,rfl,h6⟩⟩ -;obtain⟨p5,c5,rfl,h7⟩:=yB h6;exact uP [] aH ⟨_,_,rfl,rfl,h7⟩
   ·rintro I1 hf ah _ _ ⟨p5,c5,rfl,rfl,h7⟩;refine uS [25] rfl<|qC (cAff y7 p5 c5) zA ?_;intro b4 hb4;have h15:RL I1 (cAff y7 p5 c5) ([y7]:List zA):=⟨(cAff y7 p5 c5),_,rfl,rfl,(zQ ⟨_,rfl,h7⟩),rfl⟩;exact uZ 0 rfl λaQ le01 hl01=>uP [] le01 ⟨_,rfl,rfl,SL.of_frozen hl01 le01 h15⟩
   rintro I1 hf ah _ _ ⟨rfl,rfl⟩ _ _ ⟨b4,rfl,rfl,h16⟩ _ _ rfl;refine uS [22,26] rfl ?_;obtain⟨ccs4,k03,k04⟩:=h16;exact oO 50 2 0 rfl rfl rfl (iM ah xlo) (.inl k03) k04 hl λaX aY bC h17=>sO (af:=(hO zA (vS aX l aY) bC::hO Raw2 (vS p2 (xs.map NL.raw) c2) cs::hf)) rfl<|uP [hO zA (vS aX l aY) bC] iR ⟨_,_,_,rfl,rfl,h17⟩
  rintro I5 bm _ _ ⟨rfl,rfl⟩ _ _ ⟨kk,rfl,rfl,h5⟩ _ _ ⟨p6,c6,cs6,rfl,rfl,h6⟩;have h2:=iM bm h2;refine uS [5,18,27] rfl<|nW 2 rfl rfl rfl h2 hxr ?_;intro ad az au bo al;obtain⟨rfl,o1,o2⟩:=al;refine yE 12 [] [29] rfl<|rP (c:=[vS p6 l c6,x.vh]) (x':=(⟨vS p6 l c6,x.vh⟩:Raw2)) 2 0 rfl rfl rfl au rfl rfl bo (by kernel_rfl) (by kernel_rfl) (by kernel_rfl) h2 hxr (by kernel_rfl) ⟨rfl,rfl,rfl⟩ λcs7 h7 ar=>sO (af:=[hO zA (vS p6 l c6) cs6,hB aE kk,hO Raw2 (vS p2 (xs.map NL.raw) c2) cs7]) rfl<|uZ 0 rfl ?_;intro I6 bp hl6;have klo:=SL.of_frozen hl6 bp h6;have hpw:=zAw (r:=⟨vS p6 l c6,x.vh⟩) (d:=⟨l,x.hi⟩) (λj y hj hy=>((hfz j y hj hy).mono bm).mono bp) ⟨klo,(khi.mono bm).mono bp⟩;have h8:=hpw.rl;have e8:=rV h7;obtain rfl:=zD N;have eL:vS p2 (xs.map NL.raw) c2=vS p2 ((xs.map NL.d).set 0 (⟨l,x.hi⟩:zB)) c2:=by simp[vS]
  rw[show (0:Int).toNat=0 from rfl] at e8 h8;rw[<- e8] at h8;rw[eL];exact oI (xN [1,0] (af:=[hO zB (vS p2 ((xs.map NL.d).set 0 (⟨l,x.hi⟩:zB)) c2) cs7,hB aE kk]))<|yO [] [5] rfl<|zJ<|zE<|pY [(5,vS p2 ((xs.map NL.d).set 0 (⟨l,x.hi⟩:zB)) c2)]<|nB h8 (Rp.mono bp h5)
 intro hc0 N;refine yL [0,5,6,15,30] rfl<|zE<|yI N ?_ ?_
 ·intro aG N;obtain⟨x,hx,N⟩:=zC N;obtain⟨x,hx2,rfl⟩:=dA hx;have hx:=hx2;clear hx2;have hxr:=nI (f:=NL.raw) hx;refine oQ xs bv ?_;intro I3 aK hfz;obtain⟨flo,fhi⟩:=hfz x (cy (uA hx).2.2);have ⟨h2,h4⟩:=m2 aK h2 h4;refine zF<|yE 3 [] [32,34] rfl<|nW 0 rfl rfl rfl h2 hxr ?_;intro ad az au bo al;obtain⟨rfl,o1,o2⟩:=al;refine yE 5 [] [36] rfl<|rP (c:=[x.vl,z0]) (x':=(⟨x.vl,z0⟩:Raw2)) 0 1 rfl rfl rfl au rfl rfl bo (by kernel_rfl) (by kernel_rfl) (by kernel_rfl) h2 hxr (by kernel_rfl) ⟨rfl,rfl,rfl⟩ ?_;intro cs7 h7 ar;have hpw:=zAw (k:=(W (((xs.map NL.raw).length:Int) - 1)).toNat) (r:=⟨x.vl,z0⟩) (d:=⟨x.lo,[]⟩) (λj y hj hy=>hfz y (cy hy)) ⟨flo,SL.nil _⟩;have h8:=hpw.rl;rw[<- rV h7] at h8;obtain rfl:=zD N;have eL:vS p2 (xs.map NL.raw) c2=vS p2 ((xs.map NL.d).set (W (((xs.map NL.raw).length:Int) - 1)).toNat (⟨x.lo,[]⟩:zB)) c2:=by simp only[vS,cR,ce]
  rw[eL];exact sO (af:=[hO zB (vS p2 ((xs.map NL.d).set (W (((xs.map NL.raw).length:Int) - 1)).toNat (⟨x.lo,[]⟩:zB)) c2) cs7,hB aE (cRd y3 p3 c3)]) rfl<|yO [] [5] rfl<|zJ<|zE<|pY [(5,vS p2 ((xs.map NL.d).set (W (((xs.map NL.raw).length:Int) - 1)).toNat (⟨x.lo,[]⟩:zB)) c2)]<|nB h8 (yR ⟨_,rfl,h4⟩)
 intro aG N;refine yL [0,5,6,15,37] rfl<|zE<|yI N ?_ ?_
 ·intro aR N;obtain⟨x,hx,N⟩:=zC N;obtain⟨y7,hy7,N⟩:=zC N;obtain⟨y8,hy8,N⟩:=zC N;obtain⟨l,hl,N⟩:=zC N;obtain⟨x,hx2,rfl⟩:=dA hx;have hx:=hx2;clear hx2;refine zDg hx bv ?_;intro I3 aK hfz;obtain⟨xlo,xhi⟩:=bv x (uA hx |>.2.2 |> cy);replace xlo:=iM aK xlo;replace xhi:=iM aK xhi;have ⟨h2,h4⟩:=m2 aK h2 h4;clear bv;refine rK 1 rfl ?_;intro I4 aV hl4;have klo:=SL.of_frozen hl4 aV xlo;replace xhi:=iM aV xhi;have ⟨h2,h4⟩:=m2 aV h2 h4;have hfz:=λj y hj hy=>(hfz j y hj hy).mono aV;have hxr:=nI (f:=NL.raw) hx;refine pY [(5,vS p2 (xs.map NL.raw) c2),(6,vI ((xs.map NL.raw).length:Int))]<|qA [.p (vS p2 (xs.map NL.raw) c2) [],.p (vI ((xs.map NL.raw).length:Int)) [],.p (vI (W (((xs.map NL.raw).length:Int) - 1))) [],.p (vS p2 (xs.map NL.raw) c2) [],.p (vI ((xs.map NL.raw).length:Int)) [],.p (vI (W (((xs.map NL.raw).length:Int) - 1))) [],.x (λI' v hx'=>∃ad,v=.pointer (some ad)/\hx'=[]/\AtO (vS p2 (xs.map NL.raw) c2) 2 (W (((xs.map NL.raw).length:Int) - 1)).toNat ad),.x (λI' v hx'=>∃ad,v=.pointer (some (ad.add 1))/\hx'=[]/\AtO (vS p2 (xs.map NL.raw) c2) 2 (W (((xs.map NL.raw).length:Int) - 1)).toNat ad),.x (λI' v hx'=>v=x.vh/\hx'=[]),.x (λI' v hx'=>∃p5 c5,v=vA (cAff y7 p5 c5)/\hx'=[]/\SL I' (vS p5 y7.Coefs c5) y7.Coefs),.x (λI' v hx'=>∃p5 c5,v=vA (cAff y8 p5 c5)/\hx'=[]/\SL I' (vS p5 y8.Coefs c5) y8.Coefs),.x (λI' v hx'=>∃b4,v=vS (some ⟨b4,0,none⟩) ([y7,y8]:List zA) 2/\hx'=[]/\SL I' (vS (some ⟨b4,0,none⟩) ([y7,y8]:List zA) 2) ([y7,y8]:List zA)),.x (λI' v hx'=>∃p6 c6 cs6,v=vS p6 l c6/\hx'=[hO zA (vS p6 l c6) cs6]/\RL I' cs6 l)]
   [[],[],[(1,false)],[],[],[(4,false)],[(3,false),(5,false)],[(6,false)],[(7,false)],[],[],[(9,false),(10,false)],[(8,false),(11,false),(16,true)]]
   [hO Raw2 (vS p2 (xs.map NL.raw) c2) cs,hB aE (cRd y3 p3 c3)] [[hO zA x.vh x.csh]] [(0,false),(2,false),(12,true)] (xN [1,2,0]) ?_ ?_
  ·refine Op<|Op<|Op<|Op<|Op<|Op<|Ox ?_<|Ox ?_<|Ox ?_<|Ox ?_<|Ox ?_<|Ox ?_<|Ox ?_<|On
   ·intro I1 hf ah;exact uS [42,44] rfl<|nW 0 rfl rfl rfl (iM ah h2) hxr λad az au bo al=>uP [] iR ⟨_,rfl,rfl,au⟩
   ·rintro I1 hf ah _ _ ⟨ad,rfl,rfl,au⟩;exact zCY<|zFP [(45,.pointer (some ad))]<|R_p 8 [(46,.pointer (some (ad.add 1)))]<|uP [] iR ⟨_,rfl,rfl,au⟩
   ·rintro I1 hf ah _ _ ⟨ad,rfl,rfl,au⟩;refine uS [46] rfl ?_;have al:=h2.at (uA hxr).2.2;obtain⟨⟨bo,o1,o2⟩,_⟩:=al;exact zD9 0 1 au bo [x.vh] x.vh rfl rfl<|tP iR
   ·intro I1 hf ah;refine I_h []<|xT (vZ 1 _ hy7) ?_;rintro aW aw v2 k2 aH - ⟨p5,c5,bC,rfl,rfl,h5⟩ -;exact uZ 0 rfl λa6 aK hl3=>zB4 (hx:=[]) rfl (aH.trans aK) rfl (dQ rfl) ⟨_,_,rfl,rfl,SL.of_frozen hl3 aK h5⟩
   ·intro I1 hf ah;refine I_h []<|xT (vZ 2 _ hy8) ?_;rintro aW aw v2 k2 aH - ⟨p5,c5,bC,rfl,rfl,h5⟩ -;exact uZ 0 rfl λa6 aK hl3=>zB4 (hx:=[]) rfl (aH.trans aK) rfl (dQ rfl) ⟨_,_,rfl,rfl,SL.of_frozen hl3 aK h5⟩
   ·rintro I1 hf ah _ _ ⟨p5,c5,rfl,rfl,h7⟩ _ _ ⟨p6,c6,rfl,rfl,h8⟩;refine uS [48,49] rfl<|qC [vS p5 y7.Coefs c5,vI y7.Const,vS p6 y8.Coefs c6,vI y8.Const] zA ?_;intro b4 hb4;have h15:RL I1 [vS p5 y7.Coefs c5,vI y7.Const,vS p6 y8.Coefs c6,vI y8.Const] ([y7,y8]:List zA):=⟨(cAff y7 p5 c5),_,rfl,rfl,(zQ ⟨_,rfl,h7⟩),⟨(cAff y8 p6 c6),_,rfl,rfl,(zQ ⟨_,rfl,h8⟩),rfl⟩⟩;exact uZ 0 rfl λaQ le01 hl01=>uP [] le01 ⟨_,rfl,rfl,SL.of_frozen hl01 le01 h15⟩
   rintro I1 hf ah _ _ ⟨rfl,rfl⟩ _ _ ⟨b4,rfl,rfl,h16⟩ _ _ rfl;refine uS [47,50] rfl ?_;obtain⟨ccs4,k03,k04⟩:=h16;exact oO 50 2 0 rfl rfl rfl (iM ah xhi) (.inl k03) k04 hl λaX aY bC h17=>sO (af:=(hO zA (vS aX l aY) bC::hO Raw2 (vS p2 (xs.map NL.raw) c2) cs::hB aE (cRd y3 p3 c3)::hf)) rfl<|uP [hO zA (vS aX l aY) bC] iR ⟨_,_,_,rfl,rfl,h17⟩
  rintro I5 bm _ _ ⟨rfl,rfl⟩ _ _ ⟨rfl,rfl⟩ _ _ ⟨p6,c6,cs6,rfl,rfl,h6⟩;have h2:=iM bm h2;refine uS [5,39,41,51] rfl<|nW 1 rfl rfl rfl h2 hxr ?_;intro ad az au bo al;obtain⟨rfl,o1,o2⟩:=al;refine yE 15 [] [53] rfl<|rP (c:=[x.vl,vS p6 l c6]) (x':=(⟨x.vl,vS p6 l c6⟩:Raw2)) 1 1 rfl rfl rfl au rfl rfl bo (by kernel_rfl) (by kernel_rfl) (by kernel_rfl) h2 hxr (by kernel_rfl) ⟨rfl,rfl,rfl⟩ λcs7 h7 ar=>sO (af:=[hO zA (vS p6 l c6) cs6,hO Raw2 (vS p2 (xs.map NL.raw) c2) cs7,hB aE (cRd y3 p3 c3)]) rfl<|uZ 0 rfl ?_;intro I6 bp hl6;have khi:=SL.of_frozen hl6 bp h6;have hpw:=zAw (k:=(W (((xs.map NL.raw).length:Int) - 1)).toNat) (r:=⟨x.vl,vS p6 l c6⟩) (d:=⟨x.lo,l⟩) (λj y hj hy=>((hfz j y hj hy).mono bm).mono bp) ⟨(klo.mono bm).mono bp,khi⟩;have h8:=hpw.rl;rw[<- rV h7] at h8;obtain rfl:=zD N;have eL:vS p2 (xs.map NL.raw) c2=vS p2 ((xs.map NL.d).set (W (((xs.map NL.raw).length:Int) - 1)).toNat (⟨x.lo,l⟩:zB)) c2:=by simp only[vS,cR,ce]
  rw[eL];exact sO (af:=[hO zB (vS p2 ((xs.map NL.d).set (W (((xs.map NL.raw).length:Int) - 1)).toNat (⟨x.lo,l⟩:zB)) c2) cs7,hB aE (cRd y3 p3 c3)]) rfl<|yO [] [5] rfl<|zJ<|zE<|pY [(5,vS p2 ((xs.map NL.d).set (W (((xs.map NL.raw).length:Int) - 1)).toNat (⟨x.lo,l⟩:zB)) c2)]<|nB h8 (yR ⟨_,rfl,(h4.mono bm).mono bp⟩)
 intro aR N;refine oQ xs bv ?_;intro I3 aK hfz;have ⟨h2,h4⟩:=m2 aK h2 h4;clear bv;refine yL [0,5,6,15,54] rfl<|zE<|yI N ?_ ?_
 ·intro bq N;obtain⟨y7,hy7,N⟩:=zC N;obtain⟨x,hx,N⟩:=zC N;obtain⟨x,hx2,rfl⟩:=dA hx;have hx:=hx2;clear hx2;have hxr:=nI (f:=NL.raw) hx;refine zF<|yE 1 [] [56] rfl<|xT (vZ 99 _ hy7) ?_;rintro I4 aw v2 k2 aV - ⟨p5,c5,bC,rfl,rfl,h5⟩ -;refine uZ 0 rfl ?_;intro I5 bm hl5;have h7:=SL.of_frozen hl5 bm h5;refine qC (cAff y7 p5 c5) zA ?_;intro b4 hb4;have h15:RL I5 (cAff y7 p5 c5) ([y7]:List zA):=⟨(cAff y7 p5 c5),_,rfl,rfl,(zQ ⟨_,rfl,h7⟩),rfl⟩;refine uZ 0 rfl ?_;intro I6 bp hl6;have khi:SL I6 (vS (some ⟨b4,0,none⟩) ([y7]:List zA) 1) [y7]:=SL.of_frozen hl6 bp h15;have le:=(aV.trans bm).trans bp;have ⟨h2,h4⟩:=m2 le h2 h4;have hfz:=λx hx=>(hfz x hx).mono le;obtain⟨flo,fhi⟩:=hfz x (cy (uA hx).2.2);refine nW 0 rfl rfl rfl h2 hxr ?_;intro ad az au bo al;obtain⟨rfl,o1,o2⟩:=al;refine yE 5 [] [60] rfl<|rP (c:=[x.vl,vS (some ⟨b4,0,none⟩) ([y7]:List zA) 1]) (x':=(⟨x.vl,vS (some ⟨b4,0,none⟩) ([y7]:List zA) 1⟩:Raw2)) 0 1 rfl rfl rfl au rfl rfl bo (by kernel_rfl) (by kernel_rfl) (by kernel_rfl) h2 hxr (by kernel_rfl) ⟨rfl,rfl,rfl⟩ ?_;intro cs7 h7 ar;have hpw:=zAw (k:=0) (r:=⟨x.vl,vS (some ⟨b4,0,none⟩) ([y7]:List zA) 1⟩) (d:=⟨x.lo,[y7]⟩) (λj y hj hy=>hfz y (cy hy)) ⟨flo,khi⟩;have h8:=hpw.rl;have e8:=rV h7;rw[show (0:Int).toNat=0 from rfl] at e8;rw[<- e8] at h8;obtain rfl:=zD N;have eL:vS p2 (xs.map NL.raw) c2=vS p2 ((xs.map NL.d).set 0 (⟨x.lo,[y7]⟩:zB)) c2:=by simp only[vS,cR,ce]
  rw[eL];exact sO (af:=[hO zB (vS p2 ((xs.map NL.d).set 0 (⟨x.lo,[y7]⟩:zB)) c2) cs7,hB aE (cRd y3 p3 c3)]) rfl<|yO [] [5] rfl<|zJ<|zE<|pY [(5,vS p2 ((xs.map NL.d).set 0 (⟨x.lo,[y7]⟩:zB)) c2)]<|nB h8 (yR ⟨_,rfl,h4⟩)
 intro bq N;have h8:=dX hfz;rw[<- rV h2] at h8;rw[zEW];refine yL [0,5,15,61] rfl<|zE<|yI N ?_ ?_
 ·intro bx N;obtain⟨z,hz,N⟩:=zC N;obtain rfl:=zD N;exact xK<|pY [(5,vS p2 (xs.map NL.d) c2)]<|kS (xs.map NL.d) z hz iR h8 (λ_ _ _ h=>h) (λ_ _ h=>h) λI4 p6 c6 cs6 aV h9=>zR<|zJ<|zE<|pY [(5,vS p6 z c6)]<|nB h9 (yR ⟨_,rfl,h4.mono aV⟩)
 intro bx N;obtain rfl:=zD N;exact zO<|zJ<|zE<|pY [(5,vS p2 (xs.map NL.d) c2)]<|nB h8 (yR ⟨_,rfl,h4⟩)
end Go.LN
