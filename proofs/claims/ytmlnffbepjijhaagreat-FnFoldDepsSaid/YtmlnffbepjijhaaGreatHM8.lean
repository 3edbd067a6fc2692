/- Helper of the proof (see the last text). -/
import Derived.Test.YtmlnffbepjijhaaGreatHM7
set_option linter.unusedVariables false
set_option linter.unusedSimpArgs false
namespace Go.LN
open Go.Proofs Go.Proofs.Tryz
set_option maxRecDepth 20000
def rV (p:zH) (t11:Int) (Arrays:List zD):Option (List zD):=do
 if (decide (t11<(p.Arrays.length:Int))) then
  let x<-idx p.Arrays t11;let y<-uE x.Dims;let l<-app 40 Arrays ([(zD.mk x.Name y)]:List zD);rV p (W (t11+1)) l
 else pure (id Arrays)
 partial_fixpoint
theorem zDD (p:zH):∀ (t11:Int) (Arrays:List zD) (o:List zD),rV p t11 Arrays=some o->∀ {B}{I0 I:Imm}{Q p1 c p2 c1}{b b1 b2}{p3 c2 cs},I0.le I->(S4 I p1 p.Arrays c)->(S4 I p2 p.Parts c1)->(RL I cs Arrays)->NG Q->NO Q->(∀ I' ai p4 c3 aw,o=ai->I0.le I'->(RL I' aw ai)->T 43 B Q (.exit 0) I' [hO zD (vS p4 ai c3) aw,hB b2 [vS p4 ai c3,z0],hB b1 zTwo,hB b (cProg p p1 c p2 c1)] [(1,vP b 0),(2,vP b1 0),(3,vP b2 0)])->J Tryz.prog 43 B (nav (bodyOf f28) [1,1,0,1,0]) Q I [hO zD (vS p3 Arrays c2) cs,hB b2 [vS p3 Arrays c2,z0],hB b1 zTwo,hB b (cProg p p1 c p2 c1)] [(1,vP b 0),(2,vP b1 0),(3,vP b2 0),(9,vS p1 p.Arrays c),(10,vI (p.Arrays.length:Int)),(11,vI t11)]:=by
 refine rV.partial_correctness p _ fun aJ ih t11 Arrays o N B I0 I Q p1 c p2 c1 b b1 b2 p3 c2 cs H h h1 h3 hg ho hx=>yZ hg ho<|yI [12] rfl<|zZ<|yE N ?_ ?_
 · intro hc N;refine zS<|zZ<|yH<|yA<|bE N fun x hy N=>wA rfl rfl h hy ?_;intro ad aK ap al;obtain ⟨p5,c4,rfl,h5⟩:=wK al;refine xP 0 ap (cArr x p5 c4) (vA (cArr x p5 c4)) rfl<|xU [vT ([]),z0] ?_;intro b3 hb3;refine yS 0 (cArr x p5 c4) rfl<|zU rfl<|zK ?_;obtain ⟨y,ax,N⟩:=zB N;obtain ⟨l,aE,N⟩:=zB N;refine wV [.p (vP b2 0) [],.p (vS p3 Arrays c2) [1],.p (vP b3 0) [],.p (vT x.Name.l) [0],.p (vP b3 1) [],.p (vS p5 x.Dims c4) [0],.x (fun I' v hx=>∃ p6 c5 aU,v=vS p6 y c5/\hx=[hO Int (vS p6 y c5) aU]/\(RL I' aU y)),.x (fun I' v hx=>∃ p61 c51 cs21,v=vA [vT x.Name.l,vS p61 y c51]/\hx=[hO Int (vS p61 y c51) cs21]/\(RL I' cs21 y)),.x (fun I' v hx=>∃ b4,v=vS (some ⟨b4,0,none⟩) ([(zD.mk x.Name y)]:List zD) 1/\hx=[]/\(SL I' (vS (some ⟨b4,0,none⟩) ([(zD.mk x.Name y)]:List zD) 1) ([(zD.mk x.Name y)]:List zD))),.x (fun I' v hx=>∃ p7 c6 aO,v=vS p7 l c6/\hx=[hO zD (vS p7 l c6) aO]/\(RL I' aO l))] [[],[(0,false)],[],[(2,false)],[],[(4,false)],[(5,false)],[(3,false),(6,true)],[(7,true)],[(1,false),(8,false),(12,true)]] [hB b3 (cArr x p5 c4),hB b2 [vS p3 Arrays c2,z0],hB b1 zTwo,hB b (cProg p p1 c p2 c1)] [[hO zD (vS p3 Arrays c2) cs]] [(9,true)] (zY [0,2,3,4,1]) ?_ ?_
   · refine O4<|O2<|Ox ?_<|Ox ?_<|Ox ?_<|Ox ?_<|On
     · intro I1 hf ae;refine xD [20] rfl ?_;have H:=iS I1;have h5:=h5.mono ae;refine xJ (oL x.Dims _ ax h5) ?_;rintro I0 av v2 k2 le - ⟨p6,c5,aU,rfl,rfl,h6⟩ -;have H:=H.trans le;exact yM [hO Int (vS p6 y c5) aU] H ⟨_,_,_,rfl,rfl,h6⟩
     · rintro I1 hf ae _ _ ⟨rfl,rfl⟩ _ _ ⟨p6,c5,aU,rfl,rfl,h6⟩;exact xD [18,21] rfl<|mD 8 [(22,vA [vT x.Name.l,vS p6 y c5])]<|yM [hO Int (vS p6 y c5) aU] iR ⟨_,_,_,rfl,rfl,h6⟩
     · rintro I1 hf ae _ _ ⟨p61,c51,cs21,rfl,rfl,h61⟩;refine xD [22] rfl ?_;have H:=iS I1;refine wC 0 rfl ?_;intro aR ae hl0;have h7:=SL.of_frozen hl0 ae h61;have H:=H.trans ae;refine mE (rc (zD.mk x.Name y) (uL ⟨_,rfl,h7⟩) rN) ?_;intro b4 aV aB h9;have H:=H.trans aB;exact yM [] H ⟨_,rfl,rfl,h9⟩
     rintro I1 hf ae _ _ ⟨rfl,rfl⟩ _ _ ⟨b4,rfl,rfl,h9⟩ _ _ rfl;refine xD [16,23] rfl ?_;have h3:=iM ae h3;obtain ⟨bo,k0,k01⟩:=h9;have h9:SL I1 (vS (some ⟨b4,0,none⟩) ([(zD.mk x.Name y)]:List zD) 1) ([(zD.mk x.Name y)]:List zD):=⟨_,k0,k01⟩;exact qA 60 2 0 rfl rfl rfl h3 (.inl k0) k01 aE fun p7 c6 aO h10=>vQ (ah:=(hO zD (vS p7 l c6) aO::hB b3 (cArr x p5 c4)::hB b2 [vS p3 Arrays c2,z0]::hB b1 zTwo::hB b (cProg p p1 c p2 c1)::hf)) rfl<|yM [hO zD (vS p7 l c6) aO] iR ⟨_,_,_,rfl,rfl,h10⟩
   rintro bv aF _ _ ⟨p7,c6,aO,rfl,rfl,h10⟩;refine xD [1,2,3,9,10,11,24] rfl ?_;have ⟨h,h1,H⟩:=m3 aF h h1 H;exact yD 11 [] [25] rfl<|yS 2 [vS p7 l c6,z0] rfl<|zU rfl<|zP<|zK<|zM<|yL [] [11] rfl<|yX<|qY (zW [0,2,3,4] rfl (by decide))<|mC<|ih (W (t11+1)) l _ N H h h1 h10 hg ho hx
 intro hc N;exact vC<|yQ<|hx _ _ _ _ _ (zE N).symm H h3
def rW (p:zH) (t30:Int) (Parts:List zL):Option (List zL):=do
 if (decide (t30<(p.Parts.length:Int))) then
  let x1<-idx p.Parts t30;let y1<-zAJ x1;let l1<-app 48 Parts ([y1]:List zL);rW p (W (t30+1)) l1
 else pure (id Parts)
 partial_fixpoint
def jX (p:zH):Option (zH):=do
 let ai<-rV p 0 ([]:List zD);let bh<-rW p 0 ([]:List zL);pure (zH.mk ai bh)
theorem zCm (p:zH):∀ (t30:Int) (Parts:List zL) (o:List zL),rW p t30 Parts=some o->∀ {B}{I0 I:Imm}{Q}{ai:List zD}{p2 c1}{b1 b2}{p4 c3 aw p8 c7 bw}{xs:List NB},I0.le I->(S4 I p2 p.Parts c1)->(RL I aw ai)->Parts=xs.map NB.a->(∀ x∈xs,x.ok I)->(RL I bw (xs.map NB.raw))->NG Q->NO Q->(∀ I' xs1 p9 c8 bC,o=xs1.map NB.a->I0.le I'->(RL I' aw ai)->(∀ x∈xs1,x.ok I')->(RL I' bC (xs1.map NB.raw))->T 43 B Q (.exit 2) I' (hO Raw2 (vS p9 (xs1.map NB.raw) c8) bC::hO zD (vS p4 ai c3) aw::hB b2 [vS p4 ai c3,vS p9 (xs1.map NB.raw) c8]::hB b1 zTwo::NBs xs1) [(2,vP b1 0),(3,vP b2 0)])->J Tryz.prog 43 B (nav (bodyOf f28) [1,1,1,0,1,0]) Q I (hO Raw2 (vS p8 (xs.map NB.raw) c7) bw::hO zD (vS p4 ai c3) aw::hB b2 [vS p4 ai c3,vS p8 (xs.map NB.raw) c7]::hB b1 zTwo::NBs xs) [(2,vP b1 0),(3,vP b2 0),(28,vS p2 p.Parts c1),(29,vI (p.Parts.length:Int)),(30,vI t30)]:=by
 refine rW.partial_correctness p _ fun aJ ih t30 Parts o N B I0 I Q ai p2 c1 b1 b2 p4 c3 aw p8 c7 bw xs H h1 h4 hA bP h12 hg ho hx=>yZ hg ho<|yI [31] rfl<|zZ<|yE N ?_ ?_
 · intro aH N;refine zS<|zZ<|yH<|yA<|bE N fun x1 bj N=>wA rfl rfl h1 bj ?_;intro ad1 bR ay aA;obtain ⟨aM,c9,aI,aP,rfl,h14,h15⟩:=wX aA;refine xP 0 ay (cPart x1 aM c9 aI aP) (vA (cPart x1 aM c9 aI aP)) rfl<|xU zTwo ?_;intro b5 hb5;refine eK 0 (cPart x1 aM c9 aI aP) (hB b5 (cPart x1 aM c9 aI aP)::hO Raw2 (vS p8 (xs.map NB.raw) c7) bw::hO zD (vS p4 ai c3) aw::hB b2 [vS p4 ai c3,vS p8 (xs.map NB.raw) c7]::hB b1 zTwo::NBs xs) rfl rfl rfl rfl<|zU rfl<|zK ?_;obtain ⟨y1,bt,N⟩:=zB N;obtain ⟨l1,bD,N⟩:=zB N;refine zLP (hs:=[hB b5 (cPart x1 aM c9 aI aP),hO Raw2 (vS p8 (xs.map NB.raw) c7) bw,hO zD (vS p4 ai c3) aw,hB b2 [vS p4 ai c3,vS p8 (xs.map NB.raw) c7],hB b1 zTwo]) (L:=NBs xs) .normal (fun I' ah m'=>∃ p14 bc cs7 pn cn pq cq csq,ah=[hO zG (vS pq y1.Body cq) csq,hO Raw2 (vS p14 (xs.map NB.raw++[(⟨vS pn y1.Nest cn,vS pq y1.Body cq⟩:Raw2)]) bc) cs7,hO zD (vS p4 ai c3) aw,hB b2 [vS p4 ai c3,vS p14 (xs.map NB.raw++[(⟨vS pn y1.Nest cn,vS pq y1.Body cq⟩:Raw2)]) bc],hB b1 zTwo]/\m'=[(2,vP b1 0),(3,vP b2 0),(28,vS p2 p.Parts c1),(29,vI (p.Parts.length:Int)),(30,vI t30)]/\RL I' cs7 (xs.map NB.raw++[(⟨vS pn y1.Nest cn,vS pq y1.Body cq⟩:Raw2)])/\SL I' (vS pn y1.Nest cn) y1.Nest/\RL I' csq y1.Body) (fun B0=>?_) ?_
   · refine wV [.p (vP b2 1) [],.p (vS p8 (xs.map NB.raw) c7) [2],.p (vA (cPart x1 aM c9 aI aP)) [0],.x (fun I' v hx=>∃ bm aQ aS aW cs6,v=vA (cPart y1 bm aQ aS aW)/\hx=[hO zG (vS aS y1.Body aW) cs6]/\(S4 I' bm y1.Nest aQ)/\(RL I' cs6 y1.Body)),.x (fun I' v hx=>∃ b6 pn cn pq cq csq,v=vS (some ⟨b6,0,none⟩) ([⟨vS pn y1.Nest cn,vS pq y1.Body cq⟩]:List Raw2) 1/\hx=[hO zG (vS pq y1.Body cq) csq]/\SL I' (vS pn y1.Nest cn) y1.Nest/\RL I' csq y1.Body/\(SL I' (vS (some ⟨b6,0,none⟩) ([⟨vS pn y1.Nest cn,vS pq y1.Body cq⟩]:List Raw2) 1) ([⟨vS pn y1.Nest cn,vS pq y1.Body cq⟩]:List Raw2))),.x (fun I' v hx=>∃ p14 bc cs7 pn cn pq cq csq,v=vS p14 (xs.map NB.raw++[(⟨vS pn y1.Nest cn,vS pq y1.Body cq⟩:Raw2)]) bc/\hx=[hO Raw2 (vS p14 (xs.map NB.raw++[(⟨vS pn y1.Nest cn,vS pq y1.Body cq⟩:Raw2)]) bc) cs7,hO zG (vS pq y1.Body cq) csq]/\(RL I' cs7 (xs.map NB.raw++[(⟨vS pn y1.Nest cn,vS pq y1.Body cq⟩:Raw2)]))/\SL I' (vS pn y1.Nest cn) y1.Nest/\RL I' csq y1.Body)] [[],[(0,false)],[],[(2,false)],[(3,true)],[(1,false),(4,true),(8,true)]] [hB b5 (cPart x1 aM c9 aI aP),hO zD (vS p4 ai c3) aw,hB b2 [vS p4 ai c3,vS p8 (xs.map NB.raw) c7],hB b1 zTwo] [[hO Raw2 (vS p8 (xs.map NB.raw) c7) bw]] [(5,true)] (zY [0,2,3,4,1]) ?_ ?_
     · refine O3<|Ox ?_<|Ox ?_<|Ox ?_<|On
       · intro I1 hf ae;refine xD [36] rfl<|xJ (zH9 x1 _ bt (h14.mono ae) (h15.mono ae)) ?_;rintro bO av v2 k2 bi - ⟨bm,aQ,aS,aW,cs6,rfl,rfl,h16,h17⟩ -;exact yM [hO zG (vS aS y1.Body aW) cs6] bi ⟨_,_,_,_,_,rfl,rfl,h16,h17⟩
       · rintro I1 hf ae _ _ ⟨bm,aQ,aS,aW,cs6,rfl,rfl,h16,h17⟩;refine xD [37] rfl<|tK (cPart y1 bm aQ aS aW) Raw2 ?_;intro b6 hb6;have h19:RL I1 (cPart y1 bm aQ aS aW) [(⟨vS bm y1.Nest aQ,vS aS y1.Body aW⟩:Raw2)]:=⟨(cPart y1 bm aQ aS aW),[],rfl,rfl,⟨rfl,rfl,rfl⟩,rfl⟩;refine wC 0 rfl ?_;intro I07 le7 hl03;have h20:SL I07 (vS (some ⟨b6,0,none⟩) [(⟨vS bm y1.Nest aQ,vS aS y1.Body aW⟩:Raw2)] 1) [(⟨vS bm y1.Nest aQ,vS aS y1.Body aW⟩:Raw2)]:=SL.of_frozen hl03 le7 h19;exact yM [hO zG (vS aS y1.Body aW) cs6] le7 ⟨_,_,_,_,_,_,rfl,rfl,h16.mono le7,iM le7 h17,h20⟩
       rintro I1 hf ae _ _ ⟨rfl,rfl⟩ _ _ ⟨b6,pn,cn,pq,cq,csq,rfl,rfl,hn,hq,h20⟩ _ _ rfl;refine xD [35,38] rfl ?_;have h12:=iM ae h12;obtain ⟨ccs3,k02,k03⟩:=h20;refine qA (α:=Raw2) 85 2 0 rfl rfl rfl h12 (.inl k02) k03 (zFd (l':=xs.map NB.raw) (m':=[(⟨vS pn y1.Nest cn,vS pq y1.Body cq⟩:Raw2)]) bD (by rw [hA]; simp) rfl) ?_;intro p14 bc cs7 h21;exact vQ (ah:=(hO Raw2 (vS p14 (xs.map NB.raw++[(⟨vS pn y1.Nest cn,vS pq y1.Body cq⟩:Raw2)]) bc) cs7::hO zG (vS pq y1.Body cq) csq::hB b5 (cPart x1 aM c9 aI aP)::hO zD (vS p4 ai c3) aw::hB b2 [vS p4 ai c3,vS p8 (xs.map NB.raw) c7]::hB b1 zTwo::hf)) rfl<|yM [hO Raw2 (vS p14 (xs.map NB.raw++[(⟨vS pn y1.Nest cn,vS pq y1.Body cq⟩:Raw2)]) bc) cs7,hO zG (vS pq y1.Body cq) csq] iR ⟨_,_,_,_,_,_,_,_,rfl,rfl,h21,hn,hq⟩
     rintro I08 le8 _ _ ⟨p14,bc,cs7,pn,cn,pq,cq,csq,rfl,rfl,h21,hn,hq⟩;exact qC<|zAo [(2,vP b1 0),(3,vP b2 0),(28,vS p2 p.Parts c1),(29,vI (p.Parts.length:Int)),(30,vI t30),(39,vS p14 (xs.map NB.raw++[(⟨vS pn y1.Nest cn,vS pq y1.Body cq⟩:Raw2)]) bc)]<|yD 7 [] [40] rfl<|yS 4 [vS p4 ai c3,vS p14 (xs.map NB.raw++[(⟨vS pn y1.Nest cn,vS pq y1.Body cq⟩:Raw2)]) bc] rfl<|zU rfl<|wH (zY [1,0,3,4,5] (ah:=[hO zG (vS pq y1.Body cq) csq,hO Raw2 (vS p14 (xs.map NB.raw++[(⟨vS pn y1.Nest cn,vS pq y1.Body cq⟩:Raw2)]) bc) cs7,hO zD (vS p4 ai c3) aw,hB b2 [vS p4 ai c3,vS p14 (xs.map NB.raw++[(⟨vS pn y1.Nest cn,vS pq y1.Body cq⟩:Raw2)]) bc],hB b1 zTwo]))<|T_w [(2,vP b1 0),(3,vP b2 0),(28,vS p2 p.Parts c1),(29,vI (p.Parts.length:Int)),(30,vI t30)]<|zLQ ⟨_,_,_,_,_,_,_,_,rfl,rfl,h21,hn,hq⟩
   rintro I5 hs5 m5 ⟨p14,bc,cs7,pn,cn,pq,cq,csq,rfl,rfl,h21,hn,hq⟩ bi;have e1:(xs++[(⟨vS pn y1.Nest cn,y1.Nest,pq,y1.Body,cq,csq⟩:NB)]).map NB.raw=xs.map NB.raw++[(⟨vS pn y1.Nest cn,vS pq y1.Body cq⟩:Raw2)]:=by rw [d8]; rfl
   have e2:l1=(xs++[(⟨vS pn y1.Nest cn,y1.Nest,pq,y1.Body,cq,csq⟩:NB)]).map NB.a:=by rw [d8,<- hA]; exact (zBF bD).2.symm
   have e3:NBs (xs++[(⟨vS pn y1.Nest cn,y1.Nest,pq,y1.Body,cq,csq⟩:NB)])=NBs xs++[hO zG (vS pq y1.Body cq) csq]:=d8 ..;rw [<- e1] at h21 ⊢;refine zEu ([hO Raw2 (vS p14 ((xs++[(⟨vS pn y1.Nest cn,y1.Nest,pq,y1.Body,cq,csq⟩:NB)]).map NB.raw) bc) cs7,hO zD (vS p4 ai c3) aw,hB b2 [vS p4 ai c3,vS p14 ((xs++[(⟨vS pn y1.Nest cn,y1.Nest,pq,y1.Body,cq,csq⟩:NB)]).map NB.raw) bc],hB b1 zTwo]++(NBs xs++[hO zG (vS pq y1.Body cq) csq])) (zJZ _ _ _) ?_;rw [<- e3];exact zP<|zK<|zM<|yL [] [30] rfl<|yX<|mC<|ih (W (t30+1)) l1 _ N (H.trans bi) (h1.mono bi) (iM bi h4) e2 (zLm (fun x hx=>(bP x hx).mono bi) hn hq) h21 hg ho hx
 intro aH N;exact vC<|yQ<|hx _ xs _ _ _ ((zE N).symm.trans hA) H h4 bP h12
def zDE (r:zH):KT:=fun kk I' ah v=>
  ∃ (xs:List NB) (pa:Option Addr) (ca:Nat) (pp:Option Addr) (cp:Nat),ah=NBs xs/\v=tupV [vA [vS pa r.Arrays ca,vS pp (xs.map NB.raw) cp]]/\SL I' (vS pa r.Arrays ca) r.Arrays/\r.Parts=xs.map NB.a/\(∀ x∈xs,x.ok I')/\SL I' (vS pp (xs.map NB.raw) cp) (xs.map NB.raw)
theorem zEA:∀ (p:zH) r,jX p=some r->∀ {I:Imm}{p1 c p2 c1},(S4 I p1 p.Arrays c)->(S4 I p2 p.Parts c1)->RT 28 [vA (cProg p p1 c p2 c1)] I [] (zDE r):=by
 intro p r N I p1 c p2 c1 h h1;unfold jX at N;refine yJ func28 fun B=>yA<|vD (cProg p p1 c p2 c1) ?_;intro b hb;refine xU zTwo ?_;intro b1 hb1;refine zU rfl<|yT<|xU zTwo ?_;intro b2 hb2;refine zU rfl<|zZ<|yA<|yL [2] [9,10,11] rfl<|wQ<|pM [(1,vP b 0),(2,vP b1 0),(3,vP b2 0),(9,vS p1 p.Arrays c),(10,vI (p.Arrays.length:Int)),(11,vI 0)]<|zAP zD fun h2=>?_;obtain ⟨o0,az,aG⟩:=zB N;refine zDD p 0 ([]:List zD) o0 az iR h h1 h2 nG nO ?_;intro bH ai p4 c3 aw heq aX h4;subst o0;have ⟨h,h1⟩:=m2 aX h h1;refine zR<|zZ<|yA<|yL [3] [28,29,30] rfl<|wQ<|qY (zY [0,1,2] (ah:=[hO zD (vS p4 ai c3) aw,hB b2 [vS p4 ai c3,z0],hB b1 zTwo]))<|pM [(2,vP b1 0),(3,vP b2 0),(28,vS p2 p.Parts c1),(29,vI (p.Parts.length:Int)),(30,vI 0)]<|qY (fS (Rp.sz Raw2)) ?_;obtain ⟨aL,aC,hMl1⟩:=zB aG;refine zCm p 0 ([]:List zL) aL aC (xs:=[]) iR h1 h4 rfl (fun _ h=>by cases h) RepL.nil nG nO ?_;intro I08 xs p9 c8 bC heq1 le8 h5 bP h13;refine zR<|yT<|vU 1 [2] [(42,vA [vS p4 ai c3,vS p9 (xs.map NB.raw) c8])]<|eK 3 [vS p4 ai c3,vS p9 (xs.map NB.raw) c8] (hO Raw2 (vS p9 (xs.map NB.raw) c8) bC::hO zD (vS p4 ai c3) aw::hB b2 [vS p4 ai c3,vS p9 (xs.map NB.raw) c8]::hB b1 [vS p4 ai c3,vS p9 (xs.map NB.raw) c8]::NBs xs) rfl rfl rfl rfl<|zU rfl<|xL<|xA 1 rfl ?_;intro I09 le9 hl03;have h22:SL I09 (vS p4 ai c3) ai:=SL.of_frozen hl03 le9 h5;have h13:=iM le9 h13;refine xA 0 rfl ?_;intro bL le10 hl04;have h23:SL bL (vS p9 (xs.map NB.raw) c8) (xs.map NB.raw):=SL.of_frozen hl04 le10 h13;have hr:=zE hMl1;subst hr;exact zHO (resC 1 rfl rfl) (oR [hB b2 [vS p4 ai c3,vS p9 (xs.map NB.raw) c8],hB b1 [vS p4 ai c3,vS p9 (xs.map NB.raw) c8]] (NBs xs) [] rfl (by decide)) ⟨xs,_,_,_,_,rfl,rfl,h22.mono le10,heq1,(fun x hx=>(bP x hx).mono (le9.trans le10)),h23⟩
def zAy (n0:Int):Option (zC):=do
 pure (zC.mk 1 n0 (zA.mk ([]:List Int) 0) (zJ.mk (⟨[]⟩:Str) ([]:List zA)) ([]:List zC))
theorem zEB:∀ n0 r,zAy n0=some r->∀ {I:Imm} ,RT 124 [vI n0] I [] (sJ  r):=by
 intro n0 r N I;unfold zAy at N;refine yJ func124 fun B=>yA<|xU zExpr ?_;intro b hb;refine zU rfl<|yT<|yD 2 [] [4] rfl<|yS 0 [vI 1,vI n0,z0,vI 0,vT ([]),z0,z0] rfl<|zU rfl<|zK<|xF ?_;exact xO N (resC 0 rfl rfl) zN ⟨_,rfl,rfl,⟨_,rfl,(yF ⟨_,_,_,rfl,(SL.nil _),(SL.nil _),(SL.nil _)⟩)⟩⟩
def pX (e0:zC) (n0:Int):Option (Bool):=do
 let t4<-(do
   if (e0.Kind==1) then pure (e0.Num==n0)
   else
    pure false
     : Option Bool)
 pure (id t4)
theorem jN:∀ e0 n0 r,pX e0 n0=some r->∀ {I:Imm}{p c p1 c1 p2 c2},(S4 I p e0.Index.Coefs c)->(S4 I p1 e0.Read.Subs c1)->(S4 I p2 e0.Kids c2)->RT 126 [vA (cExpr e0 p c p1 c1 p2 c2),vI n0] I [] (zQ  r):=by
 intro e0 n0 r N I p c p1 c1 p2 c2 h h1 h2;unfold pX at N;refine yJ func126 fun B=>?_;have H:=iS I;refine yA<|vD (cExpr e0 p c p1 c1 p2 c2) ?_;intro b hb;refine wT [] []<|zK<|yC ?_;refine wU N [] (fun t4=>[(4,.bool t4)]) (fun o0 az=>?_) ?_
 · have H:=iS I;refine zM<|yD 4 [0] [8] rfl<|wD [8] az ?_ ?_
   · intro hc N;exact yL [0] [4] rfl<|wH zN<|yQ<|zT (ct N H)
   intro hc N;exact wT [] [(4,vF)]<|wH zN<|yQ<|zT (ct N H)
 intro t4 I0 le aT;refine zK<|xF ?_;obtain rfl:=zE aT;exact vZ
def zAK (e0:zC):Option (zC):=do
 let t22<-(do
   if (e0.Kind==2) then
    let y<-rM e0.Index;if (y==0) then pure (decide (e0.Index.Const>=0))
    else pure false
   else
    pure false
     : Option Bool)
 if t22 then
  let y1<-zAy e0.Index.Const;pure (id y1)
 else
  let y2<-jI e0.Kind;if (!y2) then pure (id e0)
  else
   let x<-idx e0.Kids 0;let y3<-zAK (same x);let x1<-idx e0.Kids 1;let y4<-zAK (same x1);let t58<-(do
     if (y3.Kind==1) then pure (y4.Kind==1)
     else
      pure false
       : Option Bool)
   if t58 then
    let n0<-(do
      if (e0.Kind==5) then pure (W (y3.Num - y4.Num))
      else
       let n01<-(do
         if (e0.Kind==6) then pure (W (y3.Num*y4.Num))
         else
          pure (W (y3.Num+y4.Num))
           : Option Int)
       pure (id n01)
        : Option Int)
    let y5<-wW n0 0 99;if y5 then
     let y6<-zAy n0;pure (id y6)
    else pure (zC.mk e0.Kind 0 (zA.mk ([]:List Int) 0) (zJ.mk (⟨[]⟩:Str) ([]:List zA)) ([y3,y4]:List zC))
   else
    let t85<-(do
      if (!(e0.Kind==6)) then
       let y7<-pX y4 0;if y7 then pure true
       else
        if (e0.Kind==6) then
         let y8<-pX y4 1;pure (id y8)
        else pure false
      else
       if (e0.Kind==6) then
        let y9<-pX y4 1;pure (id y9)
       else
        pure false
        : Option Bool)
    if t85 then pure (id y3)
    else
     let t100<-(do
       if (e0.Kind==4) then
        let y10<-pX y3 0;if y10 then pure true
        else
         if (e0.Kind==6) then
          let y11<-pX y3 1;pure (id y11)
         else pure false
       else
        if (e0.Kind==6) then
         let y12<-pX y3 1;pure (id y12)
        else
         pure false
         : Option Bool)
     if t100 then pure (id y4)
     else
      let t116<-(do
        if (e0.Kind==6) then
         let y13<-pX y3 0;if y13 then pure true
         else
          let y14<-pX y4 0;pure (id y14)
        else
         pure false
          : Option Bool)
      if t116 then
       let y15<-zAy 0;pure (id y15)
      else pure (zC.mk e0.Kind 0 (zA.mk ([]:List Int) 0) (zJ.mk (⟨[]⟩:Str) ([]:List zA)) ([y3,y4]:List zC))
 partial_fixpoint
theorem zJo:∀ e0 r,zAK e0=some r->∀ {I:Imm}{p c p1 c1 p2 c2},(S4 I p e0.Index.Coefs c)->(S4 I p1 e0.Read.Subs c1)->(S4 I p2 e0.Kids c2)->RT 88 [vA (cExpr e0 p c p1 c1 p2 c2)] I [] (sJ  r):=by
 refine zAK.partial_correctness _ fun F_impl_fold ih_impl_fold e0 r N I p c p1 c1 p2 c2 h h1 h2=>yJ func88 fun B=>?_;have H:=iS I;refine yA<|vD (cExpr e0 p c p1 c1 p2 c2) ?_;intro b hb;refine xU zExpr ?_;intro b1 hb1;refine zU rfl<|zZ<|yC ?_;refine wU N [hB b1 zExpr,hB b (cExpr e0 p c p1 c1 p2 c2)] (fun t22=>[(1,vP b 0),(2,vP b1 0),(22,.bool t22)]) (fun o0 az=>?_) ?_
 · have H:=iS I;refine zM<|yD 4 [1] [11] rfl<|wD [11] az ?_ ?_
   · intro hc N;refine vU 6 [1] [(13,vA (cAff e0.Index p c))]<|bE N fun y hy N=>dL (gT e0.Index _ hy h) ?_;intro aR le;have H:=H.trans le;refine yD 10 [] [17] rfl<|wD [17] N ?_ ?_
     · intro aH N;exact yL [1] [22] rfl<|yQ<|zT (ct N H)
     intro aH N;exact wT [] [(22,vF)]<|yQ<|zT (ct N H)
   intro hc N;exact wT [] [(22,vF)]<|yQ<|zT (ct N H)
 intro t22 I0 ae aT;have ⟨h,h1,h2,H⟩:=m4 ae h h1 h2 H;refine zK<|yE aT ?_ ?_
 · intro bf N;refine yA<|yD 3 [1] [25] rfl<|bE N fun y1 ax N=>xJ (zEB e0.Index.Const _ ax ) ?_;rintro aV av v2 k2 aB - ⟨v01,rfl,rfl,⟨cs,rfl,h4⟩⟩ -;obtain ⟨p3,c3,p4,c4,p5,c5,rfl,h5,h6,h7⟩:=xB h4;refine yS 0 (cExpr y1 p3 c3 p4 c4 p5 c5) rfl<|zU rfl<|xL<|zI ?_;exact xO N (resC 0 rfl rfl) zN ⟨_,rfl,rfl,⟨_,rfl,(yF ⟨_,_,_,rfl,h5,h6,h7⟩)⟩⟩
 intro bf N;refine zS<|zZ<|yA<|yD 2 [1] [28] rfl<|bE N fun y2 aE N=>vR (zFg e0.Kind _ aE ) ?_;intro bv aF;have ⟨h,h1,h2,H⟩:=m4 aF h h1 h2 H;refine yL [] [30] rfl<|zK<|yE N ?_ ?_
 · intro bG N;refine yA<|vU 1 [1] [(31,vA (cExpr e0 p c p1 c1 p2 c2))]<|yS 0 (cExpr e0 p c p1 c1 p2 c2) rfl<|zU rfl<|xL<|zI ?_;exact xO N (resC 0 rfl rfl) zN ⟨_,rfl,rfl,⟨_,rfl,(yF ⟨_,_,_,rfl,h,h1,h2⟩)⟩⟩
 intro bG N;refine zS<|zK<|yC ?_;obtain ⟨x,bj,N⟩:=zB N;obtain ⟨y3,bt,N⟩:=zB N;obtain ⟨x1,bD,N⟩:=zB N;obtain ⟨y4,hy6,N⟩:=zB N;refine wV [.p (vP b 6) [],.p (vS p2 e0.Kids c2) [1],.x (ePExpr x),.x (eVExpr x),.x (eVExpr y3),.p (vP b 6) [],.p (vS p2 e0.Kids c2) [1],.x (ePExpr x1),.x (eVExpr x1),.x (eVExpr y4),.x (fun I' v hx=>∃ b2,v=vP b2 0/\hx=[hB b2 zExpr]),.x (fun I' v hx=>∃ b3,v=vP b3 0/\hx=[hB b3 zExpr]),.x (fun I' v hx=>∃ b21 p91 c91 p101 c101 p111 c111,v=vP b21 0/\hx=[hB b21 (cExpr y3 p91 c91 p101 c101 p111 c111)]/\(S4 I' p91 y3.Index.Coefs c91)/\(S4 I' p101 y3.Read.Subs c101)/\(S4 I' p111 y3.Kids c111))] [[],[(0,false)],[(1,false)],[(2,false)],[(3,false)],[],[(5,false)],[(6,false)],[(7,false)],[(8,false)],[],[],[(4,false),(10,true)]] [hB b1 zExpr,hB b (cExpr e0 p c p1 c1 p2 c2)] [] [(9,false),(11,true),(12,true)] (zY [0,1]) ?_ ?_
 · refine O2<|Ox ?_<|Ox ?_<|Ox ?_<|O2<|Ox ?_<|Ox ?_<|Ox ?_<|Ox ?_<|Ox ?_<|Ox ?_<|On
   · intro I1 hf ae;refine xD [33] rfl ?_;have h2:=h2.mono ae;refine wA rfl rfl h2 bj ?_;intro ad aK ap al;obtain ⟨p6,c6,p7,c7,p8,c8,rfl,h9,h10,h11⟩:=xB al;exact yM [] iR ⟨_,_,_,_,_,_,_,rfl,rfl,ap,h9,h10,h11⟩
   · rintro I1 hf ae _ _ ⟨ad,p6,c6,p7,c7,p8,c8,rfl,rfl,ap,h9,h10,h11⟩;exact xD [34] rfl<|xP 0 ap (cExpr x p6 c6 p7 c7 p8 c8) (vA (cExpr x p6 c6 p7 c7 p8 c8)) rfl<|yM [] iR ⟨_,_,_,_,_,_,rfl,rfl,h9,h10,h11⟩
   · rintro I1 hf ae _ _ ⟨p61,c61,p71,c71,p81,c81,rfl,rfl,h91,h101,h111⟩;refine xD [35] rfl ?_;have H:=iS I1;refine xJ (ih_impl_fold x _ bt h91 h101 h111) ?_;rintro bH av v2 k2 aX - ⟨v09,rfl,rfl,⟨aw,rfl,h12⟩⟩ -;have H:=H.trans aX;obtain ⟨p9,c9,aM,aP,aI,aQ,rfl,h13,h14,h15⟩:=xB h12;exact yM [] H ⟨_,_,_,_,_,_,rfl,rfl,h13,h14,h15⟩
   · intro I1 hf ae;refine xD [38] rfl ?_;have h2:=h2.mono ae;refine wA rfl rfl h2 bD ?_;intro ad1 bo ay aA;obtain ⟨bm,aW,aS,bc,p14,c14,rfl,h16,h17,h18⟩:=xB aA;exact yM [] iR ⟨_,_,_,_,_,_,_,rfl,rfl,ay,h16,h17,h18⟩
   · rintro I1 hf ae _ _ ⟨ad1,bm,aW,aS,bc,p14,c14,rfl,rfl,ay,h16,h17,h18⟩;exact xD [39] rfl<|xP 0 ay (cExpr x1 bm aW aS bc p14 c14) (vA (cExpr x1 bm aW aS bc p14 c14)) rfl<|yM [] iR ⟨_,_,_,_,_,_,rfl,rfl,h16,h17,h18⟩
   · rintro I1 hf ae _ _ ⟨p121,c121,p131,c131,p141,c141,rfl,rfl,h161,h171,h181⟩;refine xD [40] rfl ?_;have H:=iS I1;refine xJ (ih_impl_fold x1 _ hy6 h161 h171 h181) ?_;rintro bO av v2 k2 bi - ⟨v016,rfl,rfl,⟨aU,rfl,h19⟩⟩ -;have H:=H.trans bi;obtain ⟨p15,c15,p16,c16,p17,c17,rfl,h20,h21,h22⟩:=xB h19;exact yM [] H ⟨_,_,_,_,_,_,rfl,rfl,h20,h21,h22⟩
   · intro I1 hf ae;refine I_h []<|xU zExpr ?_;intro b2 hb2;exact yM [hB b2 zExpr] iR ⟨_,rfl,rfl⟩
   · intro I1 hf ae;refine I_h []<|xU zExpr ?_;intro b3 hb3;exact yM [hB b3 zExpr] iR ⟨_,rfl,rfl⟩
   rintro I1 hf ae _ _ ⟨p9,c9,aM,aP,aI,aQ,rfl,rfl,h13,h14,h15⟩ _ _ ⟨b2,rfl,rfl⟩;exact xD [3,36] rfl<|eK 0 (cExpr y3 p9 c9 aM aP aI aQ) (hB b2 (cExpr y3 p9 c9 aM aP aI aQ)::hB b1 zExpr::hB b (cExpr e0 p c p1 c1 p2 c2)::hf) rfl rfl rfl rfl<|yM [hB b2 (cExpr y3 p9 c9 aM aP aI aQ)] iR ⟨_,_,_,_,_,_,_,rfl,rfl,h13,h14,h15⟩
 rintro I06 bB _ _ ⟨p15,c15,p16,c16,p17,c17,rfl,rfl,h20,h21,h22⟩ _ _ ⟨b3,rfl,rfl⟩ _ _ ⟨b21,p91,c91,p101,c101,p111,c111,rfl,rfl,h131,h141,h151⟩;refine xD [1,2,3,4,41] rfl ?_;have H:=H.trans bB;refine yS 1 (cExpr y4 p15 c15 p16 c16 p17 c17) rfl<|zU rfl<|yT<|vU 4 [3,0,1] [(43,vI e0.Kind),(44,vA (cExpr y3 p91 c91 p101 c101 p111 c111)),(45,vA (cExpr y4 p15 c15 p16 c16 p17 c17))]<|tK [vI y3.Kind,vI y3.Num,vS p91 y3.Index.Coefs c91,vI y3.Index.Const,vT y3.Read.Array.l,vS p101 y3.Read.Subs c101,vS p111 y3.Kids c111,vI y4.Kind,vI y4.Num,vS p15 y4.Index.Coefs c15,vI y4.Index.Const,vT y4.Read.Array.l,vS p16 y4.Read.Subs c16,vS p17 y4.Kids c17] zC ?_;intro b4 hb4;have h23:RL I06 [vI y3.Kind,vI y3.Num,vS p91 y3.Index.Coefs c91,vI y3.Index.Const,vT y3.Read.Array.l,vS p101 y3.Read.Subs c101,vS p111 y3.Kids c111,vI y4.Kind,vI y4.Num,vS p15 y4.Index.Coefs c15,vI y4.Index.Const,vT y4.Read.Array.l,vS p16 y4.Read.Subs c16,vS p17 y4.Kids c17] ([y3,y4]:List zC):=⟨(cExpr y3 p91 c91 p101 c101 p111 c111),_,rfl,rfl,(yF ⟨_,_,_,rfl,h131,h141,h151⟩),⟨(cExpr y4 p15 c15 p16 c16 p17 c17),_,rfl,rfl,(yF ⟨_,_,_,rfl,h20,h21,h22⟩),rfl⟩⟩;refine yD 6 [] [47] rfl<|xU zExpr ?_;intro b5 hb5;refine yS 0 [vI e0.Kind,vI 0,z0,vI 0,vT ([]),z0,vS (some ⟨b4,0,none⟩) ([y3,y4]:List zC) 2] rfl<|zU rfl<|yT<|yL [5] [6] rfl<|zZ<|yC ?_;refine wU N [hB b5 [vI e0.Kind,vI 0,z0,vI 0,vT ([]),z0,vS (some ⟨b4,0,none⟩) ([y3,y4]:List zC) 2],hO zC (vS (some ⟨b4,0,none⟩) ([y3,y4]:List zC) 2) [vI y3.Kind,vI y3.Num,vS p91 y3.Index.Coefs c91,vI y3.Index.Const,vT y3.Read.Array.l,vS p101 y3.Read.Subs c101,vS p111 y3.Kids c111,vI y4.Kind,vI y4.Num,vS p15 y4.Index.Coefs c15,vI y4.Index.Const,vT y4.Read.Array.l,vS p16 y4.Read.Subs c16,vS p17 y4.Kids c17],hB b21 (cExpr y3 p91 c91 p101 c101 p111 c111),hB b3 (cExpr y4 p15 c15 p16 c16 p17 c17),hB b1 zExpr,hB b (cExpr e0 p c p1 c1 p2 c2)] (fun t58=>[(1,vP b 0),(2,vP b1 0),(3,vP b21 0),(4,vP b3 0),(5,vP b5 0),(6,.bool (e0.Kind==6)),(58,.bool t58)]) (fun aL aC=>?_) ?_
 · have H:=iS I06;refine zM<|yD 4 [2] [54] rfl<|wD [54] aC ?_ ?_
   · intro bN N;exact yL [3] [58] rfl<|yQ<|zT (ct N H)
   intro bN N;exact wT [] [(58,vF)]<|yQ<|zT (ct N H)
 intro t58 I07 le7 hMc1;have ⟨h23,h131,h141,h151,h20,h21⟩:=m6 le7 h23 h131 h141 h151 h20 h21;have ⟨h22,H⟩:=m2 le7 h22 H;refine zK<|yE hMc1 ?_ ?_
 · intro hc5 N;refine yA<|yL [2,3] [7] rfl<|zZ<|yA<|yL [5] [65] rfl<|wQ<|yI [66] rfl<|zK<|oJ 2 rfl ?_;intro I08 le8 hl0;have bq:At I08 ⟨b21,0,none⟩ (cExpr y3 p91 c91 p101 c101 p111 c111):=At.of_blk hl0;have ⟨h23,H⟩:=m2 le8 h23 H;refine oJ 2 rfl ?_;intro I09 le9 hl01;have hat3:At I09 ⟨b3,0,none⟩ (cExpr y4 p15 c15 p16 c16 p17 c17):=At.of_blk hl01;have ⟨bq,h23,H⟩:=m3 le9 bq h23 H;refine oJ 3 rfl ?_;intro bL le10 hl02;have hat4:At bL ⟨b,0,none⟩ (cExpr e0 p c p1 c1 p2 c2):=At.of_blk hl02;have ⟨bq,hat3,h23,H⟩:=m4 le10 bq hat3 h23 H;refine wU N [hB b5 [vI e0.Kind,vI 0,z0,vI 0,vT ([]),z0,vS (some ⟨b4,0,none⟩) ([y3,y4]:List zC) 2],hO zC (vS (some ⟨b4,0,none⟩) ([y3,y4]:List zC) 2) [vI y3.Kind,vI y3.Num,vS p91 y3.Index.Coefs c91,vI y3.Index.Const,vT y3.Read.Array.l,vS p101 y3.Read.Subs c101,vS p111 y3.Kids c111,vI y4.Kind,vI y4.Num,vS p15 y4.Index.Coefs c15,vI y4.Index.Const,vT y4.Read.Array.l,vS p16 y4.Read.Subs c16,vS p17 y4.Kids c17],hB b1 zExpr] (fun n0=>[(2,vP b1 0),(5,vP b5 0),(7,vI n0)]) (fun o02 ho02=>?_) ?_
   · have H:=iS bL;refine yE ho02 ?_ ?_
     · intro hc6 N;exact zM<|yD 1 [] [68] rfl<|xP 1 bq [vI y3.Num] (vI y3.Num) rfl<|yD 3 [] [70] rfl<|xP 1 hat3 [vI y4.Num] (vI y4.Num) rfl<|yL [] [7] rfl<|yQ<|zT (ct N H)
     intro hc6 N;refine yI [73] rfl<|zK ?_;refine wU N [hB b5 [vI e0.Kind,vI 0,z0,vI 0,vT ([]),z0,vS (some ⟨b4,0,none⟩) ([y3,y4]:List zC) 2],hO zC (vS (some ⟨b4,0,none⟩) ([y3,y4]:List zC) 2) [vI y3.Kind,vI y3.Num,vS p91 y3.Index.Coefs c91,vI y3.Index.Const,vT y3.Read.Array.l,vS p101 y3.Read.Subs c101,vS p111 y3.Kids c111,vI y4.Kind,vI y4.Num,vS p15 y4.Index.Coefs c15,vI y4.Index.Const,vT y4.Read.Array.l,vS p16 y4.Read.Subs c16,vS p17 y4.Kids c17],hB b1 zExpr] (fun n01=>[(2,vP b1 0),(5,vP b5 0),(7,vI n01)]) (fun o03 ho03=>?_) ?_
     · have H:=iS bL;refine yE ho03 ?_ ?_
       · intro hc7 N;exact zM<|yD 1 [] [75] rfl<|xP 1 bq [vI y3.Num] (vI y3.Num) rfl<|yD 3 [] [77] rfl<|xP 1 hat3 [vI y4.Num] (vI y4.Num) rfl<|yL [] [7] rfl<|yQ<|zT (ct N H)
       intro hc7 N;exact zS<|yQ<|zT (ct N H)
     intro n01 bS le11 hMc3;have H:=H.trans le11;exact yQ<|zT (ct hMc3 H)
   intro n0 bW le12 hMc2;have h23:=iM le12 h23;refine zP<|zZ<|yA<|yD 1 [] [80] rfl ?_;obtain ⟨y5,hy7,N⟩:=zB hMc2;refine vR (vG n0 0 99 _ hy7 ) ?_;intro I013 le13;have h23:=iM le13 h23;refine zU rfl<|zK<|yE N ?_ ?_
   · intro hc8 N;refine yA<|yD 1 [] [82] rfl<|bE N fun y6 hy8 N=>xJ (zEB n0 _ hy8 ) ?_;rintro I014 av v2 k2 le14 - ⟨v021,rfl,rfl,⟨aO,rfl,h25⟩⟩ -;obtain ⟨p18,c18,p19,c19,p20,c20,rfl,h26,h27,h28⟩:=xB h25;refine yS 2 (cExpr y6 p18 c18 p19 c19 p20 c20) rfl<|zU rfl<|xL<|zI<|zI ?_;exact xO N (resC 2 rfl rfl) zN ⟨_,rfl,rfl,⟨_,rfl,(yF ⟨_,_,_,rfl,h26,h27,h28⟩)⟩⟩
   intro hc8 N;refine zS<|yT<|vU 1 [0] [(84,vA [vI e0.Kind,vI 0,z0,vI 0,vT ([]),z0,vS (some ⟨b4,0,none⟩) ([y3,y4]:List zC) 2])]<|yS 2 [vI e0.Kind,vI 0,z0,vI 0,vT ([]),z0,vS (some ⟨b4,0,none⟩) ([y3,y4]:List zC) 2] rfl<|zU rfl<|xL<|zI<|xA 1 rfl ?_;intro I015 le15 hl03;have h29:=SL.of_frozen hl03 le15 h23;exact xO N (resC 1 rfl rfl) zN ⟨_,rfl,rfl,⟨_,rfl,(yF ⟨_,_,_,rfl,(SL.nil _),(SL.nil _),h29⟩)⟩⟩
 intro hc5 N;refine zS<|zZ<|yH<|yC ?_;refine wU N [hB b5 [vI e0.Kind,vI 0,z0,vI 0,vT ([]),z0,vS (some ⟨b4,0,none⟩) ([y3,y4]:List zC) 2],hO zC (vS (some ⟨b4,0,none⟩) ([y3,y4]:List zC) 2) [vI y3.Kind,vI y3.Num,vS p91 y3.Index.Coefs c91,vI y3.Index.Const,vT y3.Read.Array.l,vS p101 y3.Read.Subs c101,vS p111 y3.Kids c111,vI y4.Kind,vI y4.Num,vS p15 y4.Index.Coefs c15,vI y4.Index.Const,vT y4.Read.Array.l,vS p16 y4.Read.Subs c16,vS p17 y4.Kids c17],hB b21 (cExpr y3 p91 c91 p101 c101 p111 c111),hB b3 (cExpr y4 p15 c15 p16 c16 p17 c17),hB b1 zExpr,hB b (cExpr e0 p c p1 c1 p2 c2)] (fun t85=>[(1,vP b 0),(2,vP b1 0),(3,vP b21 0),(4,vP b3 0),(5,vP b5 0),(6,.bool (e0.Kind==6)),(85,.bool t85)]) (fun o04 ho04=>?_) ?_
 · have H:=iS I07;refine zM<|yD 3 [] [88] rfl<|wD [88] ho04 ?_ ?_
   · intro hc9 N;refine vU 4 [3] [(89,vA (cExpr y4 p15 c15 p16 c16 p17 c17))]<|bE N fun y7 hy9 N=>vR (jN y4 0 _ hy9 h20 h21 h22) ?_;intro I017 le16;have ⟨h20,h21,h22,H⟩:=m4 le16 h20 h21 h22 H;refine yD 7 [] [92] rfl<|wD [92] N ?_ ?_
     · intro hc10 N;exact wT [] [(85,vY)]<|yQ<|zT (ct N H)
     intro hc10 N;refine yD 9 [] [94] rfl<|wD [94] N ?_ ?_
     · intro hc11 N;refine vU 10 [3] [(95,vA (cExpr y4 p15 c15 p16 c16 p17 c17))]<|bE N fun y8 hy10 N=>vR (jN y4 1 _ hy10 h20 h21 h22) ?_;intro I018 le17;have H:=H.trans le17;exact yL [] [85] rfl<|yQ<|zT (ct N H)
     intro hc11 N;exact wT [] [(85,vF)]<|yQ<|zT (ct N H)
   intro hc9 N;refine yD 9 [] [92,94] rfl<|wD [94] N ?_ ?_
   · intro hc12 N;refine vU 10 [3] [(95,vA (cExpr y4 p15 c15 p16 c16 p17 c17))]<|bE N fun y9 hy11 N=>vR (jN y4 1 _ hy11 h20 h21 h22) ?_;intro I019 le18;have H:=H.trans le18;exact yL [] [85] rfl<|yQ<|zT (ct N H)
   intro hc12 N;exact wT [] [(85,vF)]<|yQ<|zT (ct N H)
 intro t85 I016 le19 hMc4;have ⟨h23,h131,h141,h151,h20,h21⟩:=m6 le19 h23 h131 h141 h151 h20 h21;have ⟨h22,H⟩:=m2 le19 h22 H;refine zK<|yE hMc4 ?_ ?_
 · intro hc13 N;refine yA<|vU 1 [2] [(99,vA (cExpr y3 p91 c91 p101 c101 p111 c111))]<|yS 4 (cExpr y3 p91 c91 p101 c101 p111 c111) rfl<|zU rfl<|xL<|zV<|zI ?_;exact xO N (resC 4 rfl rfl) zN ⟨_,rfl,rfl,⟨_,rfl,(yF ⟨_,_,_,rfl,h131,h141,h151⟩)⟩⟩
 intro hc13 N;refine yC ?_;refine wU N [hB b5 [vI e0.Kind,vI 0,z0,vI 0,vT ([]),z0,vS (some ⟨b4,0,none⟩) ([y3,y4]:List zC) 2],hO zC (vS (some ⟨b4,0,none⟩) ([y3,y4]:List zC) 2) [vI y3.Kind,vI y3.Num,vS p91 y3.Index.Coefs c91,vI y3.Index.Const,vT y3.Read.Array.l,vS p101 y3.Read.Subs c101,vS p111 y3.Kids c111,vI y4.Kind,vI y4.Num,vS p15 y4.Index.Coefs c15,vI y4.Index.Const,vT y4.Read.Array.l,vS p16 y4.Read.Subs c16,vS p17 y4.Kids c17],hB b21 (cExpr y3 p91 c91 p101 c101 p111 c111),hB b3 (cExpr y4 p15 c15 p16 c16 p17 c17),hB b1 zExpr] (fun t100=>[(2,vP b1 0),(3,vP b21 0),(4,vP b3 0),(5,vP b5 0),(6,.bool (e0.Kind==6)),(100,.bool t100)]) (fun o05 ho05=>?_) ?_
 · have H:=iS I016;refine zM<|yD 4 [5] [104] rfl<|wD [104] ho05 ?_ ?_
   · intro hc14 N;refine vU 5 [2] [(105,vA (cExpr y3 p91 c91 p101 c101 p111 c111))]<|bE N fun y10 hy12 N=>vR (jN y3 0 _ hy12 h131 h141 h151) ?_;intro I021 le20;have ⟨h131,h141,h151,H⟩:=m4 le20 h131 h141 h151 H;refine yD 8 [] [108] rfl<|wD [108] N ?_ ?_
     · intro hc15 N;exact wT [] [(100,vY)]<|wH (zW [0,1,2,3,4] rfl (by decide))<|yQ<|zT (ct N H)
     intro hc15 N;refine yD 10 [] [110] rfl<|wD [110] N ?_ ?_
     · intro hc16 N;refine vU 11 [2] [(111,vA (cExpr y3 p91 c91 p101 c101 p111 c111))]<|bE N fun y11 hy13 N=>vR (jN y3 1 _ hy13 h131 h141 h151) ?_;intro I022 le21;have H:=H.trans le21;exact yL [] [100] rfl<|wH (zW [0,1,2,3,4] rfl (by decide))<|yQ<|zT (ct N H)
     intro hc16 N;exact wT [] [(100,vF)]<|wH (zW [0,1,2,3,4] rfl (by decide))<|yQ<|zT (ct N H)
   intro hc14 N;refine yD 10 [] [108,110] rfl<|wD [110] N ?_ ?_
   · intro hc17 N;refine vU 11 [2] [(111,vA (cExpr y3 p91 c91 p101 c101 p111 c111))]<|bE N fun y12 hy14 N=>vR (jN y3 1 _ hy14 h131 h141 h151) ?_;intro I023 le22;have H:=H.trans le22;exact yL [] [100] rfl<|wH (zW [0,1,2,3,4] rfl (by decide))<|yQ<|zT (ct N H)
   intro hc17 N;exact wT [] [(100,vF)]<|wH (zW [0,1,2,3,4] rfl (by decide))<|yQ<|zT (ct N H)
 intro t100 I020 le23 hMc5;have ⟨h23,h131,h141,h151,h20,h21⟩:=m6 le23 h23 h131 h141 h151 h20 h21;have ⟨h22,H⟩:=m2 le23 h22 H;refine zK<|yE hMc5 ?_ ?_
 · intro hc18 N;refine yA<|vU 1 [3] [(115,vA (cExpr y4 p15 c15 p16 c16 p17 c17))]<|yS 4 (cExpr y4 p15 c15 p16 c16 p17 c17) rfl<|zU rfl<|xL<|zV<|zI ?_;exact xO N (resC 4 rfl rfl) zN ⟨_,rfl,rfl,⟨_,rfl,(yF ⟨_,_,_,rfl,h20,h21,h22⟩)⟩⟩
 intro hc18 N;refine yC ?_;refine wU N [hB b5 [vI e0.Kind,vI 0,z0,vI 0,vT ([]),z0,vS (some ⟨b4,0,none⟩) ([y3,y4]:List zC) 2],hO zC (vS (some ⟨b4,0,none⟩) ([y3,y4]:List zC) 2) [vI y3.Kind,vI y3.Num,vS p91 y3.Index.Coefs c91,vI y3.Index.Const,vT y3.Read.Array.l,vS p101 y3.Read.Subs c101,vS p111 y3.Kids c111,vI y4.Kind,vI y4.Num,vS p15 y4.Index.Coefs c15,vI y4.Index.Const,vT y4.Read.Array.l,vS p16 y4.Read.Subs c16,vS p17 y4.Kids c17],hB b1 zExpr] (fun t116=>[(2,vP b1 0),(5,vP b5 0),(116,.bool t116)]) (fun o06 ho06=>?_) ?_
 · have H:=iS I020;refine zM<|yD 2 [] [118] rfl<|wD [118] ho06 ?_ ?_
   · intro hc19 N;refine vU 3 [2] [(119,vA (cExpr y3 p91 c91 p101 c101 p111 c111))]<|bE N fun y13 hy15 N=>vR (jN y3 0 _ hy15 h131 h141 h151) ?_;intro I025 le24;have ⟨h20,h21,h22,H⟩:=m4 le24 h20 h21 h22 H;refine yD 5 [] [121] rfl<|wD [121] N ?_ ?_
     · intro hc20 N;exact wT [] [(116,vY)]<|wH (zW [0,1,4] rfl (by decide))<|yQ<|zT (ct N H)
     intro hc20 N;refine vU 6 [3] [(122,vA (cExpr y4 p15 c15 p16 c16 p17 c17))]<|bE N fun y14 hy16 N=>vR (jN y4 0 _ hy16 h20 h21 h22) ?_;intro I026 le25;have H:=H.trans le25;exact yL [] [116] rfl<|wH (zW [0,1,4] rfl (by decide))<|yQ<|zT (ct N H)
   intro hc19 N;exact wT [] [(116,vF)]<|wH (zW [0,1,4] rfl (by decide))<|yQ<|zT (ct N H)
 intro t116 I024 le26 hMc6;have h23:=iM le26 h23;refine zK<|yE hMc6 ?_ ?_
 · intro hc21 N;refine yA<|bE N fun y15 hy17 N=>xJ (zEB 0 _ hy17 ) ?_;rintro I027 av v2 k2 le27 - ⟨v033,rfl,rfl,⟨bw,rfl,h38⟩⟩ -;obtain ⟨p21,c21,p22,c22,p23,c23,rfl,h39,h40,h41⟩:=xB h38;refine yS 2 (cExpr y15 p21 c21 p22 c22 p23 c23) rfl<|zU rfl<|xL<|zV<|zI ?_;exact xO N (resC 2 rfl rfl) zN ⟨_,rfl,rfl,⟨_,rfl,(yF ⟨_,_,_,rfl,h39,h40,h41⟩)⟩⟩
 intro hc21 N;refine zS<|zP<|yT<|vU 1 [0] [(127,vA [vI e0.Kind,vI 0,z0,vI 0,vT ([]),z0,vS (some ⟨b4,0,none⟩) ([y3,y4]:List zC) 2])]<|yS 2 [vI e0.Kind,vI 0,z0,vI 0,vT ([]),z0,vS (some ⟨b4,0,none⟩) ([y3,y4]:List zC) 2] rfl<|zU rfl<|xL<|xA 1 rfl ?_;intro I028 le28 hl04;have h42:=SL.of_frozen hl04 le28 h23;exact xO N (resC 1 rfl rfl) zN ⟨_,rfl,rfl,⟨_,rfl,(yF ⟨_,_,_,rfl,(SL.nil _),(SL.nil _),h42⟩)⟩⟩
def zA4 (s:zG):Option (zG):=do
 let y<-eC s;let y1<-zAK y.Value;pure (zG.mk y.Write y1)
theorem zIY:∀ s r,zA4 s=some r->∀ {I:Imm}{p c p1 c1 p2 c2 p3 c3},(S4 I p s.Write.Subs c)->(S4 I p1 s.Value.Index.Coefs c1)->(S4 I p2 s.Value.Read.Subs c2)->(S4 I p3 s.Value.Kids c3)->RT 51 [vA (cStmt s p c p1 c1 p2 c2 p3 c3)] I [] (oY  r):=by
 intro s r N I p c p1 c1 p2 c2 p3 c3 h h1 h2 h3;unfold zA4 at N;refine yJ func51 fun B=>yA<|vD (cStmt s p c p1 c1 p2 c2 p3 c3) ?_;intro b hb;refine xU [vT ([]),z0,vI 0,vI 0,z0,vI 0,vT ([]),z0,z0] ?_;intro b1 hb1;refine zU rfl<|yT<|vU 1 [1] [(4,vA (cStmt s p c p1 c1 p2 c2 p3 c3))]<|bE N fun y hy N=>xJ (zDW s _ hy h h1 h2 h3) ?_;rintro I0 av v2 k2 le - ⟨v0,rfl,rfl,⟨cs,rfl,h4⟩⟩ -;obtain ⟨p4,c4,p5,c5,p6,c6,p7,c7,rfl,h5,h6,h7,h8⟩:=wI h4;refine xU [vT ([]),z0,vI 0,vI 0,z0,vI 0,vT ([]),z0,z0] ?_;intro b2 hb2;refine yS 0 (cStmt y p4 c4 p5 c5 p6 c6 p7 c7) rfl<|zU rfl<|yT<|vU 2 [0] [(7,vA (cExpr y.Value p5 c5 p6 c6 p7 c7))]<|bE N fun y1 ax N=>xJ (zJo y.Value _ ax h6 h7 h8) ?_;rintro aR av v2 k2 ae - ⟨v05,rfl,rfl,⟨aw,rfl,h9⟩⟩ -;have h5:=h5.mono ae;obtain ⟨p8,c8,p9,c9,aM,aP,rfl,h10,h11,h12⟩:=xB h9;refine yD 4 [] [9] rfl<|yS 0 [vT y.Write.Array.l,vS p4 y.Write.Subs c4,vI y1.Kind,vI y1.Num,vS p8 y1.Index.Coefs c8,vI y1.Index.Const,vT y1.Read.Array.l,vS p9 y1.Read.Subs c9,vS aM y1.Kids aP] rfl<|zU rfl<|yT<|vU 1 [0] [(10,vA [vT y.Write.Array.l,vS p4 y.Write.Subs c4,vI y1.Kind,vI y1.Num,vS p8 y1.Index.Coefs c8,vI y1.Index.Const,vT y1.Read.Array.l,vS p9 y1.Read.Subs c9,vS aM y1.Kids aP])]<|yS 1 [vT y.Write.Array.l,vS p4 y.Write.Subs c4,vI y1.Kind,vI y1.Num,vS p8 y1.Index.Coefs c8,vI y1.Index.Const,vT y1.Read.Array.l,vS p9 y1.Read.Subs c9,vS aM y1.Kids aP] rfl<|zU rfl<|zK<|xF ?_;exact xO N (resC 1 rfl rfl) zN ⟨_,rfl,rfl,⟨_,rfl,(xV ⟨_,_,_,_,rfl,h5,h10,h11,h12⟩)⟩⟩
def tS (n:Int) (body:List zG) (k:Int):Option (List zG):=do
 if (decide (k<n)) then
  let s<-idx body k;let y<-zA4 s;tS n (body.set k.toNat y) (W (k+1))
 else pure (id body)
 partial_fixpoint
theorem zDF (d:List zG):∀ (body:List zG) (k:Int) (o:List zG),tS (d.length:Int) body k=some o->∀ {B}{I0 I:Imm}{Q}{aj:List Raw2}{pp cp}{i:Int}{vN:Value}{pw cw}{csb:List Value}{b2 b4 b6:Nat},I0.le I->RL I csb body->NG Q->NO Q->(∀ (I':Imm) (csb':List Value),o.length=body.length->I0.le I'->RL I' csb' o->T 39 B Q (.exit 2) I' [hO zG (vS pw d cw) csb',hB b6 [vN,vS pw d cw]] [(2,vP b2 0),(4,vP b4 0),(16,vS pp aj cp),(17,vI (aj.length:Int)),(18,vI i)])->J Tryz.prog 39 B (nav (bodyOf f19) [1,1,1,0,1,0,0,1,1,0,0,1,1,0]) Q I [hO zG (vS pw d cw) csb,hB b6 [vN,vS pw d cw]] [(2,vP b2 0),(4,vP b4 0),(6,vP b6 0),(16,vS pp aj cp),(17,vI (aj.length:Int)),(18,vI i),(23,vS pw d cw),(24,vI (d.length:Int)),(25,vI k)]:=by
 refine tS.partial_correctness _ _ fun aJ ih body k o N B I0 I Q aj pp cp i vN pw cw csb b2 b4 b6 H hR hg ho hx=>yZ hg ho<|yI [26] rfl<|zZ<|yE N ?_ ?_
 · intro hc N;obtain ⟨s,hy,N⟩:=zB N;obtain ⟨y,ax,N⟩:=zB N;refine zS<|zZ<|yH<|yA<|yD 1 [] [27] rfl<|jH (α:=zG) 0 rfl rfl rfl hR hy ?_;intro ad aK ap bJ al;obtain ⟨p0,c0,p1,c1,p2,c2,p3,c3,rfl,g0,g1,g2,g3⟩:=wI al;refine zEV 0 0 ap bJ (cStmt s p0 c0 p1 c1 p2 c2 p3 c3) (vA (cStmt s p0 c0 p1 c1 p2 c2 p3 c3)) rfl rfl<|xU [vT ([]),z0,vI 0,vI 0,z0,vI 0,vT ([]),z0,z0] ?_;intro b8 hb8;refine yD 5 [] [7] rfl<|yS 0 (cStmt s p0 c0 p1 c1 p2 c2 p3 c3) rfl<|zU rfl<|zK<|wV [.p (vP b6 1) [],.p (vS pw d cw) [2],.p (vI k) [],.p (vA (cStmt s p0 c0 p1 c1 p2 c2 p3 c3)) [0],.x (fun I' v hx=>∃ aU,v=.agg ⟨aU⟩/\hx=[]/\Rp.rep I' aU y)] [[],[(0,false)],[],[],[(3,false)]] [hB b8 (cStmt s p0 c0 p1 c1 p2 c2 p3 c3),hO zG (vS pw d cw) csb,hB b6 [vN,vS pw d cw]] [] [(1,false),(2,false),(4,false)] (zY [0,1,2]) ?_ ?_
   · refine O4<|Ox ?_<|On;intro I1 hf ae;refine xD [33] rfl<|xJ (zIY s _ ax (g0.mono ae) (g1.mono ae) (g2.mono ae) (g3.mono ae)) ?_;rintro aV av v2 k2 aB - ⟨v0,rfl,rfl,aU,rfl,hr⟩ -;exact yM [] aB ⟨aU,rfl,rfl,hr⟩
   rintro I2 aB _ _ ⟨rfl,rfl⟩ _ _ ⟨rfl,rfl⟩ _ _ ⟨aU,rfl,rfl,hr⟩;have hr0:=hr;obtain ⟨p4,c4,p5,c5,p6,c6,p7,c7,rfl,-,-,-,-⟩:=wI hr;refine xD [2,4,6,16,17,18,23,24,25,31,32,34] rfl ?_;have cd:RL I2 csb body:=iM aB hR;refine jH (α:=zG) 1 rfl rfl rfl cd hy ?_;intro ad aK ap bJ al;obtain ⟨q0,e0,q1,e1,q2,e2,q3,e3,rfl,-,-,-,-⟩:=wI al;exact kS (c:=(cStmt y p4 c4 p5 c5 p6 c6 p7 c7)) (x':=y) 1 0 rfl rfl rfl ap rfl rfl bJ (by kernel_rfl) (by kernel_rfl) (by kernel_rfl) cd hy rfl hr0 fun csb' hR' hl'=>zU rfl<|zP<|zK<|zM<|yL [] [25] rfl<|yX<|qY (zY [1,2] (ah:=[hO zG (vS pw d cw) csb',hB b6 [vN,vS pw d cw]]))<|mC<|ih _ (W (k+1)) _ N (H.trans aB) hR' hg ho (fun I' cs' h1=>hx I' cs' (h1.trans hl'))
 intro hc N;have:=zE N;simp only [id] at this;subst this;exact vC<|yQ<|hx _ _ rfl H hR
def rX (n:Int) (parts:List zL) (i:Int):Option (List zL):=do
 if (decide (i<n)) then
  let x<-idx parts i;let b<-tS (x.Body.length:Int) x.Body 0;rX n (parts.set i.toNat ⟨x.Nest,b⟩) (W (i+1))
 else pure (id parts)
 partial_fixpoint
theorem zDG (aj:List Raw2):∀ (parts:List zL) (i:Int) (o:List zL),rX (aj.length:Int) parts i=some o->∀ {B}{I0 I:Imm}{Q}{xs:List NB}{hs0:List HA}{pp cp}{b2 b4:Nat},I0.le I->aj=xs.map NB.raw->SL I (vS pp aj cp) aj->parts=xs.map NB.a->(∀ x∈xs,x.ok I)->NG Q->NO Q->(∀ (I':Imm) (xs':List NB),I0.le I'->aj=xs'.map NB.raw->SL I' (vS pp aj cp) aj->o=xs'.map NB.a->(∀ x∈xs',x.ok I')->T 39 B Q (.exit 0) I' (NBs xs'++hs0) [(2,vP b2 0),(4,vP b4 0)])->J Tryz.prog 39 B (nav (bodyOf f19) [1,1,1,0,1,0]) Q I (NBs xs++hs0) [(2,vP b2 0),(4,vP b4 0),(16,vS pp aj cp),(17,vI (aj.length:Int)),(18,vI i)]:=by
 refine rX.partial_correctness _ _ fun aJ ih parts i o N B I0 I Q xs hs0 pp cp b2 b4 H hraw hS hA bP hg ho hx=>yZ hg ho<|yI [19] rfl<|zZ<|yE N ?_ ?_
 · intro hc N;obtain ⟨x0,hy,N⟩:=zB N;obtain ⟨bd,ax,N⟩:=zB N;have hy0:=hy;rw [hA] at hy0;obtain ⟨x,hx',rfl⟩:=zCs hy0;have hxr:idx aj i=some x.raw:=by rw [hraw]; exact zA7 (f:=NB.raw) hx'
   obtain ⟨hi0,hi1,hix⟩:=sS hx';refine zS<|zZ<|yH<|zCN ([x.ha]++(NBs (xs.eraseIdx i.toNat)++hs0)) (((zET hix).symm.append_right hs0))<|zLP (hs:=[x.ha]) (L:=NBs (xs.eraseIdx i.toNat)++hs0) .normal (fun I' ah m'=>∃ csb',bd.length=x.d.length/\ah=[hO zG x.v csb']/\m'=[(2,vP b2 0),(4,vP b4 0),(16,vS pp aj cp),(17,vI (aj.length:Int)),(18,vI i)]/\RL I' csb' bd) (fun B0=>?_) ?_
   · have hfz:=bP x (cz hix);obtain ⟨pN,cN,eN⟩:=hfz.1.form;refine yA<|wA rfl rfl hS hxr ?_;intro ad aK ap al;obtain ⟨rfl,_⟩:=al;have ap:At I ad [vS pN x.nl cN,vS x.p x.d x.c]:=by change At I ad [x.vN,x.v] at ap; rw [eN] at ap; exact ap
     refine xP 0 ap [vS pN x.nl cN,vS x.p x.d x.c] (vA [vS pN x.nl cN,vS x.p x.d x.c]) rfl<|xU zTwo ?_;intro b6 hb6;exact yS 0 [vS pN x.nl cN,vS x.p x.d x.c] rfl<|zU rfl<|yT<|yL [0] [23,24,25] rfl<|wQ<|qY (zY [1,0] (ah:=[hO zG (vS x.p x.d x.c) x.cs,hB b6 [vS pN x.nl cN,vS x.p x.d x.c]]))<|pM [(2,vP b2 0),(4,vP b4 0),(6,vP b6 0),(16,vS pp aj cp),(17,vI (aj.length:Int)),(18,vI i),(23,vS x.p x.d x.c),(24,vI (x.d.length:Int)),(25,vI 0)]<|zDF x.d x.d 0 bd ax iR hfz.2 (fun _ _ _ h=>by cases h.1) (fun _ _ h=>by cases h.1) fun I3 csb3 hl3 aF hR3=>zR<|wH (zY [0] (ah:=[hO zG (vS x.p x.d x.c) csb3]))<|zLQ ⟨csb3,hl3,rfl,rfl,hR3⟩
   rintro I5 hs5 m5 ⟨csb5,hl5,rfl,rfl,hR5⟩ bi;have hfz:=(bP x (cz hix)).mono bi;have hev:vS x.p bd x.c=x.v:=by simp only [NB.v,vS,hl5]
   have hzr:(⟨x.vN,x.nl,x.p,bd,x.c,csb5⟩:NB).raw=x.raw:=by simp only [NB.raw]; exact congrArg (Raw2.mk x.vN) hev
   have hp:=zIH (z:=⟨x.vN,x.nl,x.p,bd,x.c,csb5⟩) hix;have hzh:(⟨x.vN,x.nl,x.p,bd,x.c,csb5⟩:NB).ha=hO zG x.v csb5:=by simp only [NB.ha]; exact congrArg (fun v=>hO zG v csb5) hev
   rw [hzh] at hp;refine zEu (NBs (xs.set i.toNat ⟨x.vN,x.nl,x.p,bd,x.c,csb5⟩)++hs0) (hp.append_right hs0)<|zP<|zK<|zM<|yL [] [18] rfl<|yX<|mC<|ih _ (W (i+1)) _ N (xs:=xs.set i.toNat ⟨x.vN,x.nl,x.p,bd,x.c,csb5⟩) (H.trans bi) (by rw [zJn hix hzr]; exact hraw) (hS.mono bi) (by rw [hA,List.map_set]; rfl) (zLS (z:=⟨x.vN,x.nl,x.p,bd,x.c,csb5⟩) (fun y hy=>(bP y hy).mono bi) ⟨hfz.1,hR5⟩ _) hg ho hx
 intro hc N;have:=zE N;simp only [id] at this;subst this;exact vC<|yQ<|hx _ _ H hraw hS hA bP
def zAs (r:zH×Bool):KT:=fun kk I' ah v=>
  ∃ v0 v1,ah=[]/\v=tupV [v0,v1]/\(∃ cs,v0=.agg ⟨cs⟩/\Rp.rep I' cs r.1)/\v1=.bool r.2
def jY (p:zH):Option (zH×Bool):=do
 let y<-jD p;if (!y) then pure ((zH.mk ([]:List zD) ([]:List zL)),false)
 else
  let y1<-jX p;let o0<-rX (y1.Parts.length:Int) y1.Parts 0;pure ((zH.mk y1.Arrays o0),true)
theorem zE8:∀ p r,jY p=some r->∀ {I:Imm}{p1 c p2 c1},(S4 I p1 p.Arrays c)->(S4 I p2 p.Parts c1)->RT 19 [vA (cProg p p1 c p2 c1)] I [] (zAs  r):=by
 intro p r N I p1 c p2 c1 h h1;unfold jY at N;refine yJ func19 fun B=>yA<|vD (cProg p p1 c p2 c1) ?_;intro b hb;refine xU zTwo ?_;intro b1 hb1;refine wT [] []<|zZ<|yA<|vU 1 [1] [(9,vA (cProg p p1 c p2 c1))]<|bE N fun y hy N=>vR (zDy p _ hy h h1) ?_;intro I0 le;have ⟨h,h1⟩:=m2 le h h1;refine yL [] [11] rfl<|zK<|yE N ?_ ?_
 · intro hc N;refine yA<|yD 1 [] [12] rfl<|eK 0 zTwo [hB b1 zTwo,hB b (cProg p p1 c p2 c1)] rfl rfl rfl rfl<|wT [] [(3,vF)]<|xL<|zI ?_;exact xO N (resE 0 rfl rfl rfl) zN ⟨_,_,rfl,rfl,⟨_,rfl,(wO ⟨_,_,rfl,(SL.nil _),(SL.nil _)⟩)⟩,rfl⟩
 intro hc N;refine zS<|zZ<|bE N fun y1 ax N=>zM<|vU 1 [1] [(13,vA (cProg p p1 c p2 c1))]<|xJ (zEA p _ ax h h1) ?_;rintro aR av v2 k2 ae - ⟨xs,pa,ca,pp,cp,rfl,rfl,hA,hPt,hok,hRw⟩ -;have h:=h.mono ae;refine zLR ([hB b1 zTwo,hB b (cProg p p1 c p2 c1)]++NBs xs) cG<|xU zTwo ?_;intro b2 hb2;refine eK 0 [vS pa y1.Arrays ca,vS pp (xs.map NB.raw) cp] (hB b2 [vS pa y1.Arrays ca,vS pp (xs.map NB.raw) cp]::hB b1 zTwo::hB b (cProg p p1 c p2 c1)::NBs xs) rfl rfl rfl rfl<|zU rfl<|zZ<|yA<|yL [0] [16,17,18] rfl<|wQ<|zCN (NBs xs++[hB b2 [vS pa y1.Arrays ca,vS pp (xs.map NB.raw) cp],hB b1 zTwo,hB b (cProg p p1 c p2 c1)]) (cG (l₂:=[hB b2 [vS pa y1.Arrays ca,vS pp (xs.map NB.raw) cp],hB b1 zTwo,hB b (cProg p p1 c p2 c1)]))<|pM [(2,vP b1 0),(4,vP b2 0),(16,vS pp (xs.map NB.raw) cp),(17,vI ((xs.map NB.raw).length:Int)),(18,vI 0)] ?_;obtain ⟨o0,az,aG⟩:=zB N;rw [show ((y1.Parts.length:Nat):Int)=((xs.map NB.raw).length:Int) by rw [hPt,cI,cI]] at az;refine zDG (xs.map NB.raw) y1.Parts 0 o0 az (xs:=xs) (hs0:=[hB b2 [vS pa y1.Arrays ca,vS pp (xs.map NB.raw) cp],hB b1 zTwo,hB b (cProg p p1 c p2 c1)]) iR rfl hRw hPt hok nG nO ?_;intro aV xs1 aB hr0 hS hA1 hok1;have hA:=hA.mono aB;refine zCt xs1 hok1 ?_;intro bv aF hf0;have hA:=hA.mono aF;have h3:SL bv (vS pp o0 cp) o0:=by rw [hA1]; exact zII (by rw [<- hr0]; exact hS.mono aF) hf0
 have eP:vS pp (xs.map NB.raw) cp=vS pp o0 cp:=by rw [hr0,hA1]; simp only [vS,cI]
 rw [eP];refine zR<|yT<|vU 1 [0] [(38,vA [vS pa y1.Arrays ca,vS pp o0 cp])]<|yS 1 [vS pa y1.Arrays ca,vS pp o0 cp] rfl<|wT [] [(3,vY)]<|zK<|xF ?_;exact xO aG (resE 1 rfl rfl rfl) zN ⟨_,_,rfl,rfl,⟨_,rfl,(wO ⟨_,_,rfl,hA,h3⟩)⟩,rfl⟩
def eY (x:zD):Option (zD):=do
 let l<-app 8 ([]:List Int) x.Dims;pure (zD.mk x.Name l)
theorem zE9:∀ x r,eY x=some r->∀ {I:Imm}{p c},(S4 I p x.Dims c)->RT 107 [vA (cArr x p c)] I [] (zCC  r):=by
 intro x r N I p c h;unfold eY at N;refine yJ func107 fun B=>yA<|vD (cArr x p c) ?_;intro b hb;refine xU [vT ([]),z0] ?_;intro b1 hb1;refine zU rfl<|yT<|tK [] Int ?_;intro b2 hb2;have h1:RL I [] ([]:List Int):=rfl;refine yD 3 [2] [5] rfl ?_;obtain ⟨aK,k0,k01⟩:=h;have h:SL I (vS p x.Dims c) x.Dims:=⟨_,k0,k01⟩;obtain ⟨l,hy,N⟩:=zB N;refine qA 3 1 0 rfl rfl rfl h1 (.inl k0) k01 hy ?_;intro p1 c1 cs h2;refine tU (zY [0,1,2] (ah:=[hO Int (vS p1 l c1) cs,hB b1 [vT ([]),z0],hB b (cArr x p c)]))<|yD 5 [] [7] rfl<|yS 2 [vT x.Name.l,vS p1 l c1] rfl<|zU rfl<|yT<|vU 1 [2] [(8,vA [vT x.Name.l,vS p1 l c1])]<|yS 1 [vT x.Name.l,vS p1 l c1] rfl<|zU rfl<|xL<|xA 0 rfl ?_;intro I0 le hl0;have h3:=SL.of_frozen hl0 le h2;exact xO N (resC 0 rfl rfl) zN ⟨_,rfl,rfl,⟨_,rfl,(uL ⟨_,rfl,h3⟩)⟩⟩
def uV (list:(List zD)) (out:List zD) (t9:Int):Option (List zD):=do
 if (decide (t9<(list.length:Int))) then
  let x<-idx list t9;let y<-eY x;let au<-app 40 out ([y]:List zD);uV list au (W (t9+1))
 else pure (id out)
 partial_fixpoint
theorem zBl (list:(List zD)):∀ (out:List zD) (t9:Int) (o:List zD),uV list out t9=some o->∀ {B}{I0 I:Imm}{Q p c p1 c1 cs},I0.le I->(S4 I p list c)->(RL I cs out)->NG Q->NO Q->(∀ I' am p2 c2 aw,o=am->I0.le I'->(RL I' aw am)->T 20 B Q (.exit 0) I' [hO zD (vS p2 am c2) aw] [(3,vS p2 am c2)])->J Tryz.prog 20 B (nav (bodyOf f66) [1,1,0,1,0]) Q I [hO zD (vS p1 out c1) cs] [(3,vS p1 out c1),(7,vS p list c),(8,vI (list.length:Int)),(9,vI t9)]:=by
 refine uV.partial_correctness list _ fun aJ ih out t9 o N B I0 I Q p c p1 c1 cs H h h2 hg ho hx=>yZ hg ho<|yI [10] rfl<|zZ<|yE N ?_ ?_
 · intro hc N;refine zS<|zZ<|yH<|yA<|bE N fun x hy N=>wA rfl rfl h hy ?_;intro ad aK ap al;obtain ⟨p3,c3,rfl,h4⟩:=wK al;refine xP 0 ap (cArr x p3 c3) (vA (cArr x p3 c3)) rfl<|xU [vT ([]),z0] ?_;intro b1 hb1;refine yS 0 (cArr x p3 c3) rfl<|zU rfl<|zK<|zM<|vU 2 [0] [(13,vS p1 out c1),(14,vA (cArr x p3 c3))]<|bE N fun y ax N=>xJ (zE9 x _ ax h4) ?_;rintro I0 av v2 k2 le - ⟨v01,rfl,rfl,⟨aU,rfl,h5⟩⟩ -;have ⟨h,h2,H⟩:=m3 le h h2 H;obtain ⟨p4,c4,rfl,h6⟩:=wK h5;refine tK (cArr y p4 c4) zD ?_;intro b2 hb2;have h7:RL I0 (cArr y p4 c4) ([y]:List zD):=⟨(cArr y p4 c4),_,rfl,rfl,(uL ⟨_,rfl,h6⟩),rfl⟩;obtain ⟨au,aE,N⟩:=zB N;exact qA 60 2 2 rfl rfl rfl h2 (.inr ⟨0,rfl⟩) h7 aE fun p5 c5 aO h8=>tU (zY [1,2] (ah:=[hB b1 (cArr x p3 c3),hO zD (vS p5 au c5) aO]))<|yL [] [3] rfl<|zP<|zK<|zM<|yL [] [9] rfl<|yX<|qY (zW [1] rfl (by decide))<|mC<|ih au (W (t9+1)) _ N H h h8 hg ho hx
 intro hc N;exact vC<|yQ<|hx _ _ _ _ _ (zE N).symm H h2
def jG (list:(List zD)):Option ((List zD)):=do
 let am<-uV list ([]:List zD) 0;pure (id am)
theorem zCn:∀ list r,jG list=some r->∀ {I:Imm}{p c},(S4 I p list c)->RT 66 [vS p list c] I [] (zCj  r):=by
 intro list r N I p c h;unfold jG at N;refine yJ func66 fun B=>vK []<|yT<|tK [] zD ?_;intro b hb;have h1:RL I [] ([]:List zD):=rfl;refine yL [] [3] rfl<|zZ<|yI [7,8,9] rfl<|wQ<|pM [(3,vS (some ⟨b,0,none⟩) ([]:List zD) 0),(7,vS p list c),(8,vI (list.length:Int)),(9,vI 0)] ?_;obtain ⟨o0,az,aG⟩:=zB N;refine zBl list ([]:List zD) 0 o0 az iR h h1 nG nO ?_;intro aR am p2 c2 aw heq ae h3;subst o0;refine zR<|uJ [2] rfl<|xL<|xA 0 rfl ?_;intro aV aB hl0;have h9:=SL.of_frozen hl0 aB h3;exact xO aG (resT rfl) zN ⟨_,rfl,rfl,h9⟩
def nQ (x:zA):Option (zA):=do
 let l<-app 8 ([]:List Int) x.Coefs;pure (zA.mk l x.Const)
theorem zBI:∀ x r,nQ x=some r->∀ {I:Imm}{p c},(S4 I p x.Coefs c)->RT 209 [vA (cAff x p c)] I [] (nA  r):=by
 intro x r N I p c h;unfold nQ at N;refine yJ func209 fun B=>yA<|vD (cAff x p c) ?_;intro b hb;refine xU [z0,vI 0] ?_;intro b1 hb1;refine zU rfl<|yT<|tK [] Int ?_;intro b2 hb2;have h1:RL I [] ([]:List Int):=rfl;refine yD 3 [2] [5] rfl ?_;obtain ⟨aK,k0,k01⟩:=h;have h:SL I (vS p x.Coefs c) x.Coefs:=⟨_,k0,k01⟩;obtain ⟨l,hy,N⟩:=zB N;refine qA 3 1 0 rfl rfl rfl h1 (.inl k0) k01 hy ?_;intro p1 c1 cs h2;refine tU (zY [0,1,2] (ah:=[hO Int (vS p1 l c1) cs,hB b1 [z0,vI 0],hB b (cAff x p c)]))<|yD 5 [] [7] rfl<|yS 2 [vS p1 l c1,vI x.Const] rfl<|zU rfl<|yT<|vU 1 [2] [(8,vA [vS p1 l c1,vI x.Const])]<|yS 1 [vS p1 l c1,vI x.Const] rfl<|zU rfl<|xL<|xA 0 rfl ?_;intro I0 le hl0;have h3:=SL.of_frozen hl0 le h2;exact xO N (resC 0 rfl rfl) zN ⟨_,rfl,rfl,⟨_,rfl,(yK ⟨_,rfl,h3⟩)⟩⟩
def uP (list:(List zA)) (out:List zA) (t9:Int):Option (List zA):=do
 if (decide (t9<(list.length:Int))) then
  let x<-idx list t9;let y<-nQ x;let au<-app 32 out ([y]:List zA);uP list au (W (t9+1))
 else pure (id out)
 partial_fixpoint
theorem zBY (list:(List zA)):∀ (out:List zA) (t9:Int) (o:List zA),uP list out t9=some o->∀ {B}{I0 I:Imm}{Q p c p1 c1 cs},I0.le I->(S4 I p list c)->(RL I cs out)->NG Q->NO Q->(∀ I' am p2 c2 aw,o=am->I0.le I'->(RL I' aw am)->T 20 B Q (.exit 0) I' [hO zA (vS p2 am c2) aw] [(3,vS p2 am c2)])->J Tryz.prog 20 B (nav (bodyOf f195) [1,1,0,1,0]) Q I [hO zA (vS p1 out c1) cs] [(3,vS p1 out c1),(7,vS p list c),(8,vI (list.length:Int)),(9,vI t9)]:=by
 refine uP.partial_correctness list _ fun aJ ih out t9 o N B I0 I Q p c p1 c1 cs H h h2 hg ho hx=>yZ hg ho<|yI [10] rfl<|zZ<|yE N ?_ ?_
 · intro hc N;refine zS<|zZ<|yH<|yA<|bE N fun x hy N=>wA rfl rfl h hy ?_;intro ad aK ap al;obtain ⟨p3,c3,rfl,h4⟩:=yG al;refine xP 0 ap (cAff x p3 c3) (vA (cAff x p3 c3)) rfl<|xU [z0,vI 0] ?_;intro b1 hb1;refine yS 0 (cAff x p3 c3) rfl<|zU rfl<|zK<|zM<|vU 2 [0] [(13,vS p1 out c1),(14,vA (cAff x p3 c3))]<|bE N fun y ax N=>xJ (zBI x _ ax h4) ?_;rintro I0 av v2 k2 le - ⟨v01,rfl,rfl,⟨aU,rfl,h5⟩⟩ -;have ⟨h,h2,H⟩:=m3 le h h2 H;obtain ⟨p4,c4,rfl,h6⟩:=yG h5;refine tK (cAff y p4 c4) zA ?_;intro b2 hb2;have h7:RL I0 (cAff y p4 c4) ([y]:List zA):=⟨(cAff y p4 c4),_,rfl,rfl,(yK ⟨_,rfl,h6⟩),rfl⟩;obtain ⟨au,aE,N⟩:=zB N;exact qA 69 2 2 rfl rfl rfl h2 (.inr ⟨0,rfl⟩) h7 aE fun p5 c5 aO h8=>tU (zY [1,2] (ah:=[hB b1 (cAff x p3 c3),hO zA (vS p5 au c5) aO]))<|yL [] [3] rfl<|zP<|zK<|zM<|yL [] [9] rfl<|yX<|qY (zW [1] rfl (by decide))<|mC<|ih au (W (t9+1)) _ N H h h8 hg ho hx
 intro hc N;exact vC<|yQ<|hx _ _ _ _ _ (zE N).symm H h2
def sK (list:(List zA)):Option ((List zA)):=do
 let am<-uP list ([]:List zA) 0;pure (id am)
theorem fO:∀ list r,sK list=some r->∀ {I:Imm}{p c},(S4 I p list c)->RT 195 [vS p list c] I [] (dM  r):=by
 intro list r N I p c h;unfold sK at N;refine yJ func195 fun B=>vK []<|yT<|tK [] zA ?_;intro b hb;have h1:RL I [] ([]:List zA):=rfl;refine yL [] [3] rfl<|zZ<|yI [7,8,9] rfl<|wQ<|pM [(3,vS (some ⟨b,0,none⟩) ([]:List zA) 0),(7,vS p list c),(8,vI (list.length:Int)),(9,vI 0)] ?_;obtain ⟨o0,az,aG⟩:=zB N;refine zBY list ([]:List zA) 0 o0 az iR h h1 nG nO ?_;intro aR am p2 c2 aw heq ae h3;subst o0;refine zR<|uJ [2] rfl<|xL<|xA 0 rfl ?_;intro aV aB hl0;have h9:=SL.of_frozen hl0 aB h3;exact xO aG (resT rfl) zN ⟨_,rfl,rfl,h9⟩
def dQ (x:zF):Option (zF):=do
 let y<-sK x.Lo;let y1<-sK x.Hi;pure (zF.mk y y1)
theorem zFU:∀ x r,dQ x=some r->∀ {I:Imm}{p c p1 c1},(S4 I p x.Lo c)->(S4 I p1 x.Hi c1)->RT 178 [vA (cLoop x p c p1 c1)] I [] (zCg  r):=by
 intro x r N I p c p1 c1 h h1;unfold dQ at N;refine yJ func178 fun B=>yA<|vD (cLoop x p c p1 c1) ?_;intro b hb;refine xU zTwo ?_;intro b1 hb1;refine zU rfl<|yT<|yD 2 [1] [4] rfl<|bE N fun y hy N=>xJ (fO x.Lo _ hy h) ?_;rintro I0 av v2 k2 le - ⟨v0,rfl,rfl,h2⟩ -;have h1:=h1.mono le;obtain ⟨p2,c2,rfl⟩:=h2.form;refine yD 4 [] [6] rfl<|yS 1 [vS p2 y c2,vS p1 x.Hi c1] rfl<|zU rfl<|yT<|yD 2 [1] [8] rfl<|bE N fun y1 ax N=>xJ (fO x.Hi _ ax h1) ?_;rintro aR av v2 k2 ae - ⟨v01,rfl,rfl,h3⟩ -;have h2:=h2.mono ae;obtain ⟨p3,c3,rfl⟩:=h3.form;refine yD 4 [] [10] rfl<|yS 1 [vS p2 y c2,vS p3 y1 c3] rfl<|zU rfl<|yT<|vU 1 [1] [(11,vA [vS p2 y c2,vS p3 y1 c3])]<|yS 0 [vS p2 y c2,vS p3 y1 c3] rfl<|zU rfl<|zK<|xF ?_;exact xO N (resC 0 rfl rfl) zN ⟨_,rfl,rfl,⟨_,rfl,(uM ⟨_,_,rfl,h2,h3⟩)⟩⟩
def tP (list:(List zF)) (out:List zF) (t9:Int):Option (List zF):=do
 if (decide (t9<(list.length:Int))) then
  let x<-idx list t9;let y<-dQ x;let au<-app 48 out ([y]:List zF);tP list au (W (t9+1))
 else pure (id out)
 partial_fixpoint
theorem zBr (list:(List zF)):∀ (out:List zF) (t9:Int) (o:List zF),tP list out t9=some o->∀ {B}{I0 I:Imm}{Q p c p1 c1 cs},I0.le I->(S4 I p list c)->(RL I cs out)->NG Q->NO Q->(∀ I' am p2 c2 aw,o=am->I0.le I'->(RL I' aw am)->T 20 B Q (.exit 0) I' [hO zF (vS p2 am c2) aw] [(3,vS p2 am c2)])->J Tryz.prog 20 B (nav (bodyOf f147) [1,1,0,1,0]) Q I [hO zF (vS p1 out c1) cs] [(3,vS p1 out c1),(7,vS p list c),(8,vI (list.length:Int)),(9,vI t9)]:=by
 refine tP.partial_correctness list _ fun aJ ih out t9 o N B I0 I Q p c p1 c1 cs H h h2 hg ho hx=>yZ hg ho<|yI [10] rfl<|zZ<|yE N ?_ ?_
 · intro hc N;refine zS<|zZ<|yH<|yA<|bE N fun x hy N=>wA rfl rfl h hy ?_;intro ad aK ap al;obtain ⟨p3,c3,p4,c4,rfl,h4,h5⟩:=vJ al;refine xP 0 ap (cLoop x p3 c3 p4 c4) (vA (cLoop x p3 c3 p4 c4)) rfl<|xU zTwo ?_;intro b1 hb1;refine yS 0 (cLoop x p3 c3 p4 c4) rfl<|zU rfl<|zK<|zM<|vU 2 [0] [(13,vS p1 out c1),(14,vA (cLoop x p3 c3 p4 c4))]<|bE N fun y ax N=>xJ (zFU x _ ax h4 h5) ?_;rintro I0 av v2 k2 le - ⟨v02,rfl,rfl,⟨aU,rfl,h6⟩⟩ -;have ⟨h,h2,H⟩:=m3 le h h2 H;obtain ⟨p5,c5,p6,c6,rfl,h7,h8⟩:=vJ h6;refine tK (cLoop y p5 c5 p6 c6) zF ?_;intro b2 hb2;have h9:RL I0 (cLoop y p5 c5 p6 c6) ([y]:List zF):=⟨(cLoop y p5 c5 p6 c6),_,rfl,rfl,(uM ⟨_,_,rfl,h7,h8⟩),rfl⟩;obtain ⟨au,aE,N⟩:=zB N;exact qA 130 2 2 rfl rfl rfl h2 (.inr ⟨0,rfl⟩) h9 aE fun p7 c7 aO h10=>tU (zY [1,2] (ah:=[hB b1 (cLoop x p3 c3 p4 c4),hO zF (vS p7 au c7) aO]))<|yL [] [3] rfl<|zP<|zK<|zM<|yL [] [9] rfl<|yX<|qY (zW [1] rfl (by decide))<|mC<|ih au (W (t9+1)) _ N H h h10 hg ho hx
 intro hc N;exact vC<|yQ<|hx _ _ _ _ _ (zE N).symm H h2
def mJ (list:(List zF)):Option ((List zF)):=do
 let am<-tP list ([]:List zF) 0;pure (id am)
theorem zDH:∀ list r,mJ list=some r->∀ {I:Imm}{p c},(S4 I p list c)->RT 147 [vS p list c] I [] (zAu  r):=by
 intro list r N I p c h;unfold mJ at N;refine yJ func147 fun B=>vK []<|yT<|tK [] zF ?_;intro b hb;have h1:RL I [] ([]:List zF):=rfl;refine yL [] [3] rfl<|zZ<|yI [7,8,9] rfl<|wQ<|pM [(3,vS (some ⟨b,0,none⟩) ([]:List zF) 0),(7,vS p list c),(8,vI (list.length:Int)),(9,vI 0)] ?_;obtain ⟨o0,az,aG⟩:=zB N;refine zBr list ([]:List zF) 0 o0 az iR h h1 nG nO ?_;intro aR am p2 c2 aw heq ae h3;subst o0;refine zR<|uJ [2] rfl<|xL<|xA 0 rfl ?_;intro aV aB hl0;have h11:=SL.of_frozen hl0 aB h3;exact xO aG (resT rfl) zN ⟨_,rfl,rfl,h11⟩
def nR (x:zJ):Option (zJ):=do
 let y<-sK x.Subs;pure (zJ.mk x.Array y)
theorem zBJ:∀ x r,nR x=some r->∀ {I:Imm}{p c},(S4 I p x.Subs c)->RT 196 [vA (cAccess x p c)] I [] (zBU  r):=by
 intro x r N I p c h;unfold nR at N;refine yJ func196 fun B=>yA<|vD (cAccess x p c) ?_;intro b hb;refine xU [vT ([]),z0] ?_;intro b1 hb1;refine zU rfl<|yT<|yD 2 [1] [4] rfl<|bE N fun y hy N=>xJ (fO x.Subs _ hy h) ?_;rintro I0 av v2 k2 le - ⟨v0,rfl,rfl,h1⟩ -;obtain ⟨p1,c1,rfl⟩:=h1.form;refine yD 4 [] [6] rfl<|yS 1 [vT x.Array.l,vS p1 y c1] rfl<|zU rfl<|yT<|vU 1 [1] [(7,vA [vT x.Array.l,vS p1 y c1])]<|yS 0 [vT x.Array.l,vS p1 y c1] rfl<|zU rfl<|zK<|xF ?_;exact xO N (resC 0 rfl rfl) zN ⟨_,rfl,rfl,⟨_,rfl,(oK ⟨_,rfl,h1⟩)⟩⟩
def zCT (r:(List zC)):KT:=fun kk I' ah v=>
  ∃ v0,ah=[]/\v=tupV [v0]/\SL I' v0 r
mutual
def mK (list:(List zC)):Option ((List zC)):=do
 let am<-rL (same list) ([]:List zC) (same 0);pure (id am)
 partial_fixpoint
def rL (list:(List zC)) (out:List zC) (t9:Int):Option (List zC):=do
 if (decide (t9<(list.length:Int))) then
  let x<-idx list t9;let y<-nN (same x);let au<-app 112 out ([y]:List zC);rL (same list) (same au) (W (t9+1))
 else pure (id out)
 partial_fixpoint
def nN (x:zC):Option (zC):=do
 let y<-nQ x.Index;let y1<-nR x.Read;let y2<-mK x.Kids;pure (zC.mk x.Kind x.Num y y1 y2)
 partial_fixpoint
end
theorem zCo:(∀ (list:(List zC)) r,mK list=some r->∀ {I:Imm}{p c},(S4 I p list c)->RT 210 [vS p list c] I [] (zCT  r))/\(∀ (list:(List zC)) (out:List zC) (t9:Int) o,rL list out t9=some o->∀ {B}{I0 I:Imm}{Q p c p1 c1 cs},I0.le I->(S4 I p list c)->(RL I cs out)->NG Q->NO Q->(∀ I' am p2 c2 aw,o=am->I0.le I'->(RL I' aw am)->T 20 B Q (.exit 0) I' [hO zC (vS p2 am c2) aw] [(3,vS p2 am c2)])->J Tryz.prog 20 B (nav (bodyOf f210) [1,1,0,1,0]) Q I [hO zC (vS p1 out c1) cs] [(3,vS p1 out c1),(7,vS p list c),(8,vI (list.length:Int)),(9,vI t9)])/\(∀ (x:zC) r,nN x=some r->∀ {I:Imm}{p c p1 c1 p2 c2},(S4 I p x.Index.Coefs c)->(S4 I p1 x.Read.Subs c1)->(S4 I p2 x.Kids c2)->RT 197 [vA (cExpr x p c p1 c1 p2 c2)] I [] (sJ  r)):=by
  refine mK.mutual_partial_correctness _ _ _ ?_ ?_ ?_
  · intro F_spec_l16OwnListExpr_l1 ih_spec_l16OwnListExpr_l1 list r N I p c h;refine yJ func210 fun B=>vK []<|yT<|tK [] zC ?_;intro b hb;have h1:RL I [] ([]:List zC):=rfl;refine yL [] [3] rfl<|zZ<|yI [7,8,9] rfl<|wQ<|pM [(3,vS (some ⟨b,0,none⟩) ([]:List zC) 0),(7,vS p list c),(8,vI (list.length:Int)),(9,vI 0)] ?_;obtain ⟨o0,az,aG⟩:=zB N;refine ih_spec_l16OwnListExpr_l1 list ([]:List zC) 0 o0 az iR h h1 nG nO ?_;intro aR am p2 c2 aw heq ae h3;subst o0;refine zR<|uJ [2] rfl<|xL<|xA 0 rfl ?_;intro aV aB hl0;have h13:=SL.of_frozen hl0 aB h3;exact xO aG (resT rfl) zN ⟨_,rfl,rfl,h13⟩
  · intro F_spec_l16OwnListExpr_l1 F_spec_l16OwnExpr ih_spec_l16OwnListExpr_l1 ih_spec_l16OwnExpr list out t9 o N B I0 I Q p c p1 c1 cs H h h2 hg ho hx;refine yZ hg ho<|yI [10] rfl<|zZ<|yE N ?_ ?_
    · intro hc N;refine zS<|zZ<|yH<|yA<|bE N fun x hy N=>wA rfl rfl h hy ?_;intro ad aK ap al;obtain ⟨p3,c3,p4,c4,p5,c5,rfl,h4,h5,h6⟩:=xB al;refine xP 0 ap (cExpr x p3 c3 p4 c4 p5 c5) (vA (cExpr x p3 c3 p4 c4 p5 c5)) rfl<|xU zExpr ?_;intro b1 hb1;refine yS 0 (cExpr x p3 c3 p4 c4 p5 c5) rfl<|zU rfl<|zK<|zM<|vU 2 [0] [(13,vS p1 out c1),(14,vA (cExpr x p3 c3 p4 c4 p5 c5))]<|bE N fun y ax N=>xJ (ih_spec_l16OwnExpr x _ ax h4 h5 h6) ?_;rintro I0 av v2 k2 le - ⟨v03,rfl,rfl,⟨aU,rfl,h7⟩⟩ -;have ⟨h,h2,H⟩:=m3 le h h2 H;obtain ⟨p6,c6,p7,c7,p8,c8,rfl,h8,h9,h10⟩:=xB h7;refine tK (cExpr y p6 c6 p7 c7 p8 c8) zC ?_;intro b2 hb2;have h11:RL I0 (cExpr y p6 c6 p7 c7 p8 c8) ([y]:List zC):=⟨(cExpr y p6 c6 p7 c7 p8 c8),_,rfl,rfl,(yF ⟨_,_,_,rfl,h8,h9,h10⟩),rfl⟩;obtain ⟨au,aE,N⟩:=zB N;exact qA 72 7 2 rfl rfl rfl h2 (.inr ⟨0,rfl⟩) h11 aE fun p9 c9 aO h12=>tU (zY [1,2] (ah:=[hB b1 (cExpr x p3 c3 p4 c4 p5 c5),hO zC (vS p9 au c9) aO]))<|yL [] [3] rfl<|zP<|zK<|zM<|yL [] [9] rfl<|yX<|qY (zW [1] rfl (by decide))<|mC<|ih_spec_l16OwnListExpr_l1 list au (W (t9+1)) _ N H h h12 hg ho hx
    intro hc N;exact vC<|yQ<|hx _ _ _ _ _ (zE N).symm H h2
  intro F_spec_l16OwnListExpr ih_spec_l16OwnListExpr x r N I p c p1 c1 p2 c2 h h1 h2;refine yJ func197 fun B=>yA<|vD (cExpr x p c p1 c1 p2 c2) ?_;intro b hb;refine xU zExpr ?_;intro b1 hb1;refine zU rfl<|yT<|vU 2 [1] [(4,vA (cAff x.Index p c))]<|bE N fun y hy N=>xJ (zBI x.Index _ hy h) ?_;rintro I0 av v2 k2 le - ⟨v0,rfl,rfl,⟨cs,rfl,h3⟩⟩ -;have ⟨h1,h2⟩:=m2 le h1 h2;obtain ⟨p3,c3,rfl,h4⟩:=yG h3;refine yD 4 [] [6] rfl<|yS 1 [vI x.Kind,vI x.Num,vS p3 y.Coefs c3,vI y.Const,vT x.Read.Array.l,vS p1 x.Read.Subs c1,vS p2 x.Kids c2] rfl<|zU rfl<|yT<|vU 2 [1] [(8,vA (cAccess x.Read p1 c1))]<|bE N fun y1 ax N=>xJ (zBJ x.Read _ ax h1) ?_;rintro aR av v2 k2 ae - ⟨v02,rfl,rfl,⟨aw,rfl,h5⟩⟩ -;have ⟨h4,h2⟩:=m2 ae h4 h2;obtain ⟨p4,c4,rfl,h6⟩:=tY h5;refine yD 4 [] [10] rfl<|yS 1 [vI x.Kind,vI x.Num,vS p3 y.Coefs c3,vI y.Const,vT y1.Array.l,vS p4 y1.Subs c4,vS p2 x.Kids c2] rfl<|zU rfl<|yT<|yD 2 [1] [12] rfl<|bE N fun y2 aE N=>xJ (ih_spec_l16OwnListExpr x.Kids _ aE h2) ?_;rintro aV av v2 k2 aB - ⟨v04,rfl,rfl,h7⟩ -;have ⟨h4,h6⟩:=m2 aB h4 h6;obtain ⟨p5,c5,rfl⟩:=h7.form;refine yD 4 [] [14] rfl<|yS 1 [vI x.Kind,vI x.Num,vS p3 y.Coefs c3,vI y.Const,vT y1.Array.l,vS p4 y1.Subs c4,vS p5 y2 c5] rfl<|zU rfl<|yT<|vU 1 [1] [(15,vA [vI x.Kind,vI x.Num,vS p3 y.Coefs c3,vI y.Const,vT y1.Array.l,vS p4 y1.Subs c4,vS p5 y2 c5])]<|yS 0 [vI x.Kind,vI x.Num,vS p3 y.Coefs c3,vI y.Const,vT y1.Array.l,vS p4 y1.Subs c4,vS p5 y2 c5] rfl<|zU rfl<|zK<|xF ?_;exact xO N (resC 0 rfl rfl) zN ⟨_,rfl,rfl,⟨_,rfl,(yF ⟨_,_,_,rfl,h4,h6,h7⟩)⟩⟩
theorem zFV:∀ x r,nN x=some r->∀ {I:Imm}{p c p1 c1 p2 c2},(S4 I p x.Index.Coefs c)->(S4 I p1 x.Read.Subs c1)->(S4 I p2 x.Kids c2)->RT 197 [vA (cExpr x p c p1 c1 p2 c2)] I [] (sJ  r):=zCo.2.2
def fB (x:zG):Option (zG):=do
 let y<-nR x.Write;let y1<-nN x.Value;pure (zG.mk y y1)
theorem zFW:∀ x r,fB x=some r->∀ {I:Imm}{p c p1 c1 p2 c2 p3 c3},(S4 I p x.Write.Subs c)->(S4 I p1 x.Value.Index.Coefs c1)->(S4 I p2 x.Value.Read.Subs c2)->(S4 I p3 x.Value.Kids c3)->RT 179 [vA (cStmt x p c p1 c1 p2 c2 p3 c3)] I [] (oY  r):=by
 intro x r N I p c p1 c1 p2 c2 p3 c3 h h1 h2 h3;unfold fB at N;refine yJ func179 fun B=>yA<|vD (cStmt x p c p1 c1 p2 c2 p3 c3) ?_;intro b hb;refine xU [vT ([]),z0,vI 0,vI 0,z0,vI 0,vT ([]),z0,z0] ?_;intro b1 hb1;refine zU rfl<|yT<|vU 2 [1] [(4,vA (cAccess x.Write p c))]<|bE N fun y hy N=>xJ (zBJ x.Write _ hy h) ?_;rintro I0 av v2 k2 le - ⟨v0,rfl,rfl,⟨cs,rfl,h4⟩⟩ -;have ⟨h1,h2,h3⟩:=m3 le h1 h2 h3;obtain ⟨p4,c4,rfl,h5⟩:=tY h4;refine yD 4 [] [6] rfl<|yS 1 [vT y.Array.l,vS p4 y.Subs c4,vI x.Value.Kind,vI x.Value.Num,vS p1 x.Value.Index.Coefs c1,vI x.Value.Index.Const,vT x.Value.Read.Array.l,vS p2 x.Value.Read.Subs c2,vS p3 x.Value.Kids c3] rfl<|zU rfl<|yT<|vU 2 [1] [(8,vA (cExpr x.Value p1 c1 p2 c2 p3 c3))]<|bE N fun y1 ax N=>xJ (zFV x.Value _ ax h1 h2 h3) ?_;rintro aR av v2 k2 ae - ⟨v02,rfl,rfl,⟨aw,rfl,h6⟩⟩ -;have h5:=h5.mono ae;obtain ⟨p5,c5,p6,c6,p7,c7,rfl,h7,h8,h9⟩:=xB h6;refine yD 4 [] [10] rfl<|yS 1 [vT y.Array.l,vS p4 y.Subs c4,vI y1.Kind,vI y1.Num,vS p5 y1.Index.Coefs c5,vI y1.Index.Const,vT y1.Read.Array.l,vS p6 y1.Read.Subs c6,vS p7 y1.Kids c7] rfl<|zU rfl<|yT<|vU 1 [1] [(11,vA [vT y.Array.l,vS p4 y.Subs c4,vI y1.Kind,vI y1.Num,vS p5 y1.Index.Coefs c5,vI y1.Index.Const,vT y1.Read.Array.l,vS p6 y1.Read.Subs c6,vS p7 y1.Kids c7])]<|yS 0 [vT y.Array.l,vS p4 y.Subs c4,vI y1.Kind,vI y1.Num,vS p5 y1.Index.Coefs c5,vI y1.Index.Const,vT y1.Read.Array.l,vS p6 y1.Read.Subs c6,vS p7 y1.Kids c7] rfl<|zU rfl<|zK<|xF ?_;exact xO N (resC 0 rfl rfl) zN ⟨_,rfl,rfl,⟨_,rfl,(xV ⟨_,_,_,_,rfl,h5,h7,h8,h9⟩)⟩⟩
def zCU (r:(List zG)):KT:=fun kk I' ah v=>
  ∃ v0,ah=[]/\v=tupV [v0]/\SL I' v0 r
def tQ (list:(List zG)) (out:List zG) (t9:Int):Option (List zG):=do
 if (decide (t9<(list.length:Int))) then
  let x<-idx list t9;let y<-fB x;let au<-app 152 out ([y]:List zG);tQ list au (W (t9+1))
 else pure (id out)
 partial_fixpoint
theorem zBs (list:(List zG)):∀ (out:List zG) (t9:Int) (o:List zG),tQ list out t9=some o->∀ {B}{I0 I:Imm}{Q p c p1 c1 cs},I0.le I->(S4 I p list c)->(RL I cs out)->NG Q->NO Q->(∀ I' am p2 c2 aw,o=am->I0.le I'->(RL I' aw am)->T 20 B Q (.exit 0) I' [hO zG (vS p2 am c2) aw] [(3,vS p2 am c2)])->J Tryz.prog 20 B (nav (bodyOf f148) [1,1,0,1,0]) Q I [hO zG (vS p1 out c1) cs] [(3,vS p1 out c1),(7,vS p list c),(8,vI (list.length:Int)),(9,vI t9)]:=by
 refine tQ.partial_correctness list _ fun aJ ih out t9 o N B I0 I Q p c p1 c1 cs H h h2 hg ho hx=>yZ hg ho<|yI [10] rfl<|zZ<|yE N ?_ ?_
 · intro hc N;refine zS<|zZ<|yH<|yA<|bE N fun x hy N=>wA rfl rfl h hy ?_;intro ad aK ap al;obtain ⟨p3,c3,p4,c4,p5,c5,p6,c6,rfl,h4,h5,h6,h7⟩:=wI al;refine xP 0 ap (cStmt x p3 c3 p4 c4 p5 c5 p6 c6) (vA (cStmt x p3 c3 p4 c4 p5 c5 p6 c6)) rfl<|xU [vT ([]),z0,vI 0,vI 0,z0,vI 0,vT ([]),z0,z0] ?_;intro b1 hb1;refine yS 0 (cStmt x p3 c3 p4 c4 p5 c5 p6 c6) rfl<|zU rfl<|zK<|zM<|vU 2 [0] [(13,vS p1 out c1),(14,vA (cStmt x p3 c3 p4 c4 p5 c5 p6 c6))]<|bE N fun y ax N=>xJ (zFW x _ ax h4 h5 h6 h7) ?_;rintro I0 av v2 k2 le - ⟨v04,rfl,rfl,⟨aU,rfl,h8⟩⟩ -;have ⟨h,h2,H⟩:=m3 le h h2 H;obtain ⟨p7,c7,p8,c8,p9,c9,aM,aP,rfl,h9,h10,h11,h12⟩:=wI h8;refine tK (cStmt y p7 c7 p8 c8 p9 c9 aM aP) zG ?_;intro b2 hb2;have h13:RL I0 (cStmt y p7 c7 p8 c8 p9 c9 aM aP) ([y]:List zG):=⟨(cStmt y p7 c7 p8 c8 p9 c9 aM aP),_,rfl,rfl,(xV ⟨_,_,_,_,rfl,h9,h10,h11,h12⟩),rfl⟩;obtain ⟨au,aE,N⟩:=zB N;exact qA 74 9 2 rfl rfl rfl h2 (.inr ⟨0,rfl⟩) h13 aE fun aI aQ aO h14=>tU (zY [1,2] (ah:=[hB b1 (cStmt x p3 c3 p4 c4 p5 c5 p6 c6),hO zG (vS aI au aQ) aO]))<|yL [] [3] rfl<|zP<|zK<|zM<|yL [] [9] rfl<|yX<|qY (zW [1] rfl (by decide))<|mC<|ih au (W (t9+1)) _ N H h h14 hg ho hx
 intro hc N;exact vC<|yQ<|hx _ _ _ _ _ (zE N).symm H h2
def gD (list:(List zG)):Option ((List zG)):=do
 let am<-tQ list ([]:List zG) 0;pure (id am)
theorem zDI:∀ list r,gD list=some r->∀ {I:Imm}{p c},(S4 I p list c)->RT 148 [vS p list c] I [] (zCU  r):=by
 intro list r N I p c h;unfold gD at N;refine yJ func148 fun B=>vK []<|yT<|tK [] zG ?_;intro b hb;have h1:RL I [] ([]:List zG):=rfl;refine yL [] [3] rfl<|zZ<|yI [7,8,9] rfl<|wQ<|pM [(3,vS (some ⟨b,0,none⟩) ([]:List zG) 0),(7,vS p list c),(8,vI (list.length:Int)),(9,vI 0)] ?_;obtain ⟨o0,az,aG⟩:=zB N;refine zBs list ([]:List zG) 0 o0 az iR h h1 nG nO ?_;intro aR am p2 c2 aw heq ae h3;subst o0;refine zR<|uJ [2] rfl<|xL<|xA 0 rfl ?_;intro aV aB hl0;have h15:=SL.of_frozen hl0 aB h3;exact xO aG (resT rfl) zN ⟨_,rfl,rfl,h15⟩
def zEC (r:zL):KT:=fun kk I' ah v=>
  ∃ v0,ah=[]/\v=tupV [v0]/\(∃ cs,v0=.agg ⟨cs⟩/\Rp.rep I' cs r)
def fC (x:zL):Option (zL):=do
 let y<-mJ x.Nest;let y1<-gD x.Body;pure (zL.mk y y1)
theorem zFX:∀ x r,fC x=some r->∀ {I:Imm}{p c p1 c1},(S4 I p x.Nest c)->(S4 I p1 x.Body c1)->RT 108 [vA (cPart x p c p1 c1)] I [] (zEC  r):=by
 intro x r N I p c p1 c1 h h1;unfold fC at N;refine yJ func108 fun B=>yA<|vD (cPart x p c p1 c1) ?_;intro b hb;refine xU zTwo ?_;intro b1 hb1;refine zU rfl<|yT<|yD 2 [1] [4] rfl<|bE N fun y hy N=>xJ (zDH x.Nest _ hy h) ?_;rintro I0 av v2 k2 le - ⟨v0,rfl,rfl,h2⟩ -;have h1:=h1.mono le;obtain ⟨p2,c2,rfl⟩:=h2.form;refine yD 4 [] [6] rfl<|yS 1 [vS p2 y c2,vS p1 x.Body c1] rfl<|zU rfl<|yT<|yD 2 [1] [8] rfl<|bE N fun y1 ax N=>xJ (zDI x.Body _ ax h1) ?_;rintro aR av v2 k2 ae - ⟨v01,rfl,rfl,h3⟩ -;have h2:=h2.mono ae;obtain ⟨p3,c3,rfl⟩:=h3.form;refine yD 4 [] [10] rfl<|yS 1 [vS p2 y c2,vS p3 y1 c3] rfl<|zU rfl<|yT<|vU 1 [1] [(11,vA [vS p2 y c2,vS p3 y1 c3])]<|yS 0 [vS p2 y c2,vS p3 y1 c3] rfl<|zU rfl<|zK<|xF ?_;exact xO N (resC 0 rfl rfl) zN ⟨_,rfl,rfl,⟨_,rfl,(uY ⟨_,_,rfl,h2,h3⟩)⟩⟩
def zCV (r:(List zL)):KT:=fun kk I' ah v=>
  ∃ v0,ah=[]/\v=tupV [v0]/\SL I' v0 r
def tR (list:(List zL)) (out:List zL) (t9:Int):Option (List zL):=do
 if (decide (t9<(list.length:Int))) then
  let x<-idx list t9;let y<-fC x;let au<-app 48 out ([y]:List zL);tR list au (W (t9+1))
 else pure (id out)
 partial_fixpoint
theorem zBt (list:(List zL)):∀ (out:List zL) (t9:Int) (o:List zL),tR list out t9=some o->∀ {B}{I0 I:Imm}{Q p c p1 c1 cs},I0.le I->(S4 I p list c)->(RL I cs out)->NG Q->NO Q->(∀ I' am p2 c2 aw,o=am->I0.le I'->(RL I' aw am)->T 20 B Q (.exit 0) I' [hO zL (vS p2 am c2) aw] [(3,vS p2 am c2)])->J Tryz.prog 20 B (nav (bodyOf f67) [1,1,0,1,0]) Q I [hO zL (vS p1 out c1) cs] [(3,vS p1 out c1),(7,vS p list c),(8,vI (list.length:Int)),(9,vI t9)]:=by
 refine tR.partial_correctness list _ fun aJ ih out t9 o N B I0 I Q p c p1 c1 cs H h h2 hg ho hx=>yZ hg ho<|yI [10] rfl<|zZ<|yE N ?_ ?_
 · intro hc N;refine zS<|zZ<|yH<|yA<|bE N fun x hy N=>wA rfl rfl h hy ?_;intro ad aK ap al;obtain ⟨p3,c3,p4,c4,rfl,h4,h5⟩:=wX al;refine xP 0 ap (cPart x p3 c3 p4 c4) (vA (cPart x p3 c3 p4 c4)) rfl<|xU zTwo ?_;intro b1 hb1;refine yS 0 (cPart x p3 c3 p4 c4) rfl<|zU rfl<|zK<|zM<|vU 2 [0] [(13,vS p1 out c1),(14,vA (cPart x p3 c3 p4 c4))]<|bE N fun y ax N=>xJ (zFX x _ ax h4 h5) ?_;rintro I0 av v2 k2 le - ⟨v02,rfl,rfl,⟨aU,rfl,h6⟩⟩ -;have ⟨h,h2,H⟩:=m3 le h h2 H;obtain ⟨p5,c5,p6,c6,rfl,h7,h8⟩:=wX h6;refine tK (cPart y p5 c5 p6 c6) zL ?_;intro b2 hb2;have h9:RL I0 (cPart y p5 c5 p6 c6) ([y]:List zL):=⟨(cPart y p5 c5 p6 c6),_,rfl,rfl,(uY ⟨_,_,rfl,h7,h8⟩),rfl⟩;obtain ⟨au,aE,N⟩:=zB N;exact qA 85 2 2 rfl rfl rfl h2 (.inr ⟨0,rfl⟩) h9 aE fun p7 c7 aO h10=>tU (zY [1,2] (ah:=[hB b1 (cPart x p3 c3 p4 c4),hO zL (vS p7 au c7) aO]))<|yL [] [3] rfl<|zP<|zK<|zM<|yL [] [9] rfl<|yX<|qY (zW [1] rfl (by decide))<|mC<|ih au (W (t9+1)) _ N H h h10 hg ho hx
 intro hc N;exact vC<|yQ<|hx _ _ _ _ _ (zE N).symm H h2
def gE (list:(List zL)):Option ((List zL)):=do
 let am<-tR list ([]:List zL) 0;pure (id am)
theorem zDJ:∀ list r,gE list=some r->∀ {I:Imm}{p c},(S4 I p list c)->RT 67 [vS p list c] I [] (zCV  r):=by
 intro list r N I p c h;unfold gE at N;refine yJ func67 fun B=>vK []<|yT<|tK [] zL ?_;intro b hb;have h1:RL I [] ([]:List zL):=rfl;refine yL [] [3] rfl<|zZ<|yI [7,8,9] rfl<|wQ<|pM [(3,vS (some ⟨b,0,none⟩) ([]:List zL) 0),(7,vS p list c),(8,vI (list.length:Int)),(9,vI 0)] ?_;obtain ⟨o0,az,aG⟩:=zB N;refine zBt list ([]:List zL) 0 o0 az iR h h1 nG nO ?_;intro aR am p2 c2 aw heq ae h3;subst o0;refine zR<|uJ [2] rfl<|xL<|xA 0 rfl ?_;intro aV aB hl0;have h11:=SL.of_frozen hl0 aB h3;exact xO aG (resT rfl) zN ⟨_,rfl,rfl,h11⟩
def kO (x:zH):Option (zH):=do
 let y<-jG x.Arrays;let y1<-gE x.Parts;pure (zH.mk y y1)
theorem zD8:∀ x r,kO x=some r->∀ {I:Imm}{p c p1 c1},(S4 I p x.Arrays c)->(S4 I p1 x.Parts c1)->RT 32 [vA (cProg x p c p1 c1)] I [] (zAO  r):=by
 intro x r N I p c p1 c1 h h1;unfold kO at N;refine yJ func32 fun B=>yA<|vD (cProg x p c p1 c1) ?_;intro b hb;refine xU zTwo ?_;intro b1 hb1;refine zU rfl<|yT<|yD 2 [1] [4] rfl<|bE N fun y hy N=>xJ (zCn x.Arrays _ hy h) ?_;rintro I0 av v2 k2 le - ⟨v0,rfl,rfl,h2⟩ -;have h1:=h1.mono le;obtain ⟨p2,c2,rfl⟩:=h2.form;refine yD 4 [] [6] rfl<|yS 1 [vS p2 y c2,vS p1 x.Parts c1] rfl<|zU rfl<|yT<|yD 2 [1] [8] rfl<|bE N fun y1 ax N=>xJ (zDJ x.Parts _ ax h1) ?_;rintro aR av v2 k2 ae - ⟨v01,rfl,rfl,h3⟩ -;have h2:=h2.mono ae;obtain ⟨p3,c3,rfl⟩:=h3.form;refine yD 4 [] [10] rfl<|yS 1 [vS p2 y c2,vS p3 y1 c3] rfl<|zU rfl<|yT<|vU 1 [1] [(11,vA [vS p2 y c2,vS p3 y1 c3])]<|yS 0 [vS p2 y c2,vS p3 y1 c3] rfl<|zU rfl<|zK<|xF ?_;exact xO N (resC 0 rfl rfl) zN ⟨_,rfl,rfl,⟨_,rfl,(wO ⟨_,_,rfl,h2,h3⟩)⟩⟩
def zBD (e0:zC) (a0:Int) (b:Int):Option (zC):=do
 let n0<-(do
   if (e0.Kind==4) then pure (W (a0+b))
   else
    let n01<-(do
      if (e0.Kind==5) then pure (W (a0 - b))
      else
       pure (W (a0*b))
        : Option Int)
    pure (id n01)
     : Option Int)
 let t28<-(do
   if (decide (n0<0)) then pure true
   else
    pure (decide (n0>99))
     : Option Bool)
 if t28 then pure (id e0)
 else
  let y<-jM n0;pure (id y)
theorem zIZ:∀ e0 a0 b r,zBD e0 a0 b=some r->∀ {I:Imm}{p c p1 c1 p2 c2},(S4 I p e0.Index.Coefs c)->(S4 I p1 e0.Read.Subs c1)->(S4 I p2 e0.Kids c2)->RT 163 [vA (cExpr e0 p c p1 c1 p2 c2),vI a0,vI b] I [] (sJ  r):=by
 intro e0 a0 b r N I p c p1 c1 p2 c2 h h1 h2;unfold zBD at N;refine yJ func163 fun B=>?_;have H:=iS I;refine yA<|vD (cExpr e0 p c p1 c1 p2 c2) ?_;intro b1 hb;refine xU zExpr ?_;intro b2 hb1;refine zU rfl<|uJ [7] rfl<|zZ<|yA<|yL [1] [12] rfl<|wQ<|yI [13] rfl<|zK ?_;refine wU N [hB b2 zExpr,hB b1 (cExpr e0 p c p1 c1 p2 c2)] (fun n0=>[(3,vP b1 0),(6,vP b2 0),(7,vI n0)]) (fun o0 az=>?_) ?_
 · have H:=iS I;refine yE az ?_ ?_
   · intro hc N;exact zM<|yL [] [7] rfl<|yQ<|zT (ct N H)
   intro hc N;refine yI [18] rfl<|zK ?_;refine wU N [hB b2 zExpr,hB b1 (cExpr e0 p c p1 c1 p2 c2)] (fun n01=>[(3,vP b1 0),(6,vP b2 0),(7,vI n01)]) (fun aL aC=>?_) ?_
   · have H:=iS I;refine yE aC ?_ ?_
     · intro aH N;exact zM<|yL [] [7] rfl<|yQ<|zT (ct N H)
     intro aH N;exact zS<|yQ<|zT (ct N H)
   intro n01 aR le hMc1;have H:=H.trans le;exact yQ<|zT (ct hMc1 H)
 intro n0 I0 ae aT;have ⟨h,h1,h2,H⟩:=m4 ae h h1 h2 H;refine zP<|zZ<|yC ?_;refine wU aT [hB b2 zExpr,hB b1 (cExpr e0 p c p1 c1 p2 c2)] (fun t28=>[(3,vP b1 0),(6,vP b2 0),(7,vI n0),(28,.bool t28)]) (fun o02 ho02=>?_) ?_
 · have H:=iS I0;refine zM<|yD 3 [] [25] rfl<|wD [25] ho02 ?_ ?_
   · intro bf N;exact wT [] [(28,vY)]<|yQ<|zT (ct N H)
   intro bf N;exact yL [] [28] rfl<|yQ<|zT (ct N H)
 intro t28 aV aB hMc2;have ⟨h,h1,h2⟩:=m3 aB h h1 h2;refine zK<|yE hMc2 ?_ ?_
 · intro bG N;refine yA<|vU 1 [1] [(29,vA (cExpr e0 p c p1 c1 p2 c2))]<|yS 0 (cExpr e0 p c p1 c1 p2 c2) rfl<|zU rfl<|xL<|zI ?_;exact xO N (resC 0 rfl rfl) zN ⟨_,rfl,rfl,⟨_,rfl,(yF ⟨_,_,_,rfl,h,h1,h2⟩)⟩⟩
 intro bG N;refine zS<|yT<|yD 1 [] [30] rfl<|bE N fun y hy N=>xJ (zAm n0 _ hy ) ?_;rintro bv av v2 k2 aF - ⟨v0,rfl,rfl,⟨cs,rfl,h3⟩⟩ -;obtain ⟨p3,c3,p4,c4,p5,c5,rfl,h4,h5,h6⟩:=xB h3;refine yS 0 (cExpr y p3 c3 p4 c4 p5 c5) rfl<|zU rfl<|zK<|xF ?_;exact xO N (resC 0 rfl rfl) zN ⟨_,rfl,rfl,⟨_,rfl,(yF ⟨_,_,_,rfl,h4,h5,h6⟩)⟩⟩
def kI (e0:zC) (n0:Int):Option (Bool):=do
 let t4<-(do
   if (e0.Kind==1) then pure (e0.Num==n0)
   else
    pure false
     : Option Bool)
 pure (id t4)
theorem dK:∀ e0 n0 r,kI e0 n0=some r->∀ {I:Imm}{p c p1 c1 p2 c2},(S4 I p e0.Index.Coefs c)->(S4 I p1 e0.Read.Subs c1)->(S4 I p2 e0.Kids c2)->RT 164 [vA (cExpr e0 p c p1 c1 p2 c2),vI n0] I [] (zQ  r):=by
 intro e0 n0 r N I p c p1 c1 p2 c2 h h1 h2;unfold kI at N;refine yJ func164 fun B=>?_;have H:=iS I;refine yA<|vD (cExpr e0 p c p1 c1 p2 c2) ?_;intro b hb;refine wT [] []<|zK<|yC ?_;refine wU N [] (fun t4=>[(4,.bool t4)]) (fun o0 az=>?_) ?_
 · have H:=iS I;refine zM<|yD 4 [0] [8] rfl<|wD [8] az ?_ ?_
   · intro hc N;exact yL [0] [4] rfl<|wH zN<|yQ<|zT (ct N H)
   intro hc N;exact wT [] [(4,vF)]<|wH zN<|yQ<|zT (ct N H)
 intro t4 I0 le aT;refine zK<|xF ?_;obtain rfl:=zE aT;exact vZ
def jZ (e0:zC):Option (zC):=do
 let t19<-(do
   if (e0.Kind==2) then
    let y<-pR e0.Index;if (y==0) then pure (decide (e0.Index.Const>=0))
    else pure false
   else
    pure false
     : Option Bool)
 if t19 then
  let y1<-jM e0.Index.Const;pure (id y1)
 else
  if ((e0.Kids.length:Int)==0) then pure (id e0)
  else
   let x<-idx e0.Kids 0;let x1<-idx e0.Kids 1;let t37<-(do
     if (x.Kind==1) then pure (x1.Kind==1)
     else
      pure false
       : Option Bool)
   if t37 then
    let y2<-zBD e0 x.Num x1.Num;pure (id y2)
   else
    let t52<-(do
      if (e0.Kind != 6) then
       let y3<-kI x1 0;pure (id y3)
      else
       pure false
        : Option Bool)
    let t521<-(do
      if t52 then pure (id t52)
      else
       let t522<-(do
         if (e0.Kind==6) then
          let y4<-kI x1 1;pure (id y4)
         else
          pure false
           : Option Bool)
       pure (id t522)
        : Option Bool)
    if t521 then pure (id x)
    else
     let t68<-(do
       if (e0.Kind==4) then
        let y5<-kI x 0;pure (id y5)
       else
        pure false
         : Option Bool)
     let t681<-(do
       if t68 then pure (id t68)
       else
        let t682<-(do
          if (e0.Kind==6) then
           let y6<-kI x 1;pure (id y6)
          else
           pure false
            : Option Bool)
        pure (id t682)
         : Option Bool)
     if t681 then pure (id x1)
     else
      let t84<-(do
        if (e0.Kind==6) then
         let y7<-kI x 0;if y7 then pure true
         else
          let y8<-kI x1 0;pure (id y8)
        else
         pure false
          : Option Bool)
      if t84 then
       let y9<-jM 0;pure (id y9)
      else pure (id e0)
theorem zHa:∀ e0 r,jZ e0=some r->∀ {I:Imm}{p c p1 c1 p2 c2},(S4 I p e0.Index.Coefs c)->(S4 I p1 e0.Read.Subs c1)->(S4 I p2 e0.Kids c2)->RT 131 [vA (cExpr e0 p c p1 c1 p2 c2)] I [] (sJ  r):=by
 intro e0 r N I p c p1 c1 p2 c2 h h1 h2;unfold jZ at N;refine yJ func131 fun B=>?_;have H:=iS I;refine yA<|vD (cExpr e0 p c p1 c1 p2 c2) ?_;intro b hb;refine xU zExpr ?_;intro b1 hb1;refine zU rfl<|zZ<|yC ?_;refine wU N [hB b1 zExpr,hB b (cExpr e0 p c p1 c1 p2 c2)] (fun t19=>[(1,vP b 0),(2,vP b1 0),(19,.bool t19)]) (fun o0 az=>?_) ?_
 · have H:=iS I;refine zM<|yD 4 [1] [8] rfl<|wD [8] az ?_ ?_
   · intro hc N;refine vU 6 [1] [(10,vA (cAff e0.Index p c))]<|bE N fun y hy N=>dL (zA6 e0.Index _ hy h) ?_;intro aR le;have H:=H.trans le;refine yD 10 [] [14] rfl<|wD [14] N ?_ ?_
     · intro aH N;exact yL [1] [19] rfl<|yQ<|zT (ct N H)
     intro aH N;exact wT [] [(19,vF)]<|yQ<|zT (ct N H)
   intro hc N;exact wT [] [(19,vF)]<|yQ<|zT (ct N H)
 intro t19 I0 ae aT;have ⟨h,h1,h2,H⟩:=m4 ae h h1 h2 H;refine zK<|yE aT ?_ ?_
 · intro bf N;refine yA<|yD 3 [1] [22] rfl<|bE N fun y1 ax N=>xJ (zAm e0.Index.Const _ ax ) ?_;rintro aV av v2 k2 aB - ⟨v01,rfl,rfl,⟨cs,rfl,h4⟩⟩ -;obtain ⟨p3,c3,p4,c4,p5,c5,rfl,h5,h6,h7⟩:=xB h4;refine yS 0 (cExpr y1 p3 c3 p4 c4 p5 c5) rfl<|zU rfl<|xL<|zI ?_;exact xO N (resC 0 rfl rfl) zN ⟨_,rfl,rfl,⟨_,rfl,(yF ⟨_,_,_,rfl,h5,h6,h7⟩)⟩⟩
 intro bf N;refine zS<|zZ<|yA<|yL [1] [27] rfl<|zK<|yE N ?_ ?_
 · intro bG N;refine yA<|vU 1 [1] [(28,vA (cExpr e0 p c p1 c1 p2 c2))]<|yS 0 (cExpr e0 p c p1 c1 p2 c2) rfl<|zU rfl<|xL<|zI ?_;exact xO N (resC 0 rfl rfl) zN ⟨_,rfl,rfl,⟨_,rfl,(yF ⟨_,_,_,rfl,h,h1,h2⟩)⟩⟩
 intro bG N;refine zS<|yT<|yD 2 [1] [30] rfl<|bE N fun x aE N=>wA rfl rfl h2 aE ?_;intro ad aK ap al;obtain ⟨p6,c6,p7,c7,p8,c8,rfl,h8,h9,h10⟩:=xB al;refine xP 0 ap (cExpr x p6 c6 p7 c7 p8 c8) (vA (cExpr x p6 c6 p7 c7 p8 c8)) rfl<|xU zExpr ?_;intro b2 hb2;refine yS 0 (cExpr x p6 c6 p7 c7 p8 c8) rfl<|zU rfl<|yT<|yD 2 [2] [34] rfl<|bE N fun x1 bj N=>wA rfl rfl h2 bj ?_;intro ad1 bo ay aA;obtain ⟨p9,c9,aM,aP,aI,aQ,rfl,h11,h12,h13⟩:=xB aA;refine xP 0 ay (cExpr x1 p9 c9 aM aP aI aQ) (vA (cExpr x1 p9 c9 aM aP aI aQ)) rfl<|xU zExpr ?_;intro b3 hb3;refine yS 0 (cExpr x1 p9 c9 aM aP aI aQ) rfl<|zU rfl<|zZ<|yH<|yC ?_;refine wU N [hB b3 (cExpr x1 p9 c9 aM aP aI aQ),hB b2 (cExpr x p6 c6 p7 c7 p8 c8),hB b1 zExpr,hB b (cExpr e0 p c p1 c1 p2 c2)] (fun t37=>[(1,vP b 0),(2,vP b1 0),(3,vP b2 0),(4,vP b3 0),(37,.bool t37)]) (fun aL aC=>?_) ?_
 · have H:=iS I0;refine zM<|yD 4 [1] [41] rfl<|wD [41] aC ?_ ?_
   · intro bN N;exact yL [0] [37] rfl<|yQ<|zT (ct N H)
   intro bN N;exact wT [] [(37,vF)]<|yQ<|zT (ct N H)
 intro t37 bv aF hMc1;have ⟨h11,h12,h13,h8,h9,h10⟩:=m6 aF h11 h12 h13 h8 h9 h10;have ⟨h,h1,h2,H⟩:=m4 aF h h1 h2 H;refine zK<|yE hMc1 ?_ ?_
 · intro hc5 N;refine yA<|vU 5 [3,1,0] [(46,vA (cExpr e0 p c p1 c1 p2 c2)),(48,vI x.Num),(50,vI x1.Num)]<|bE N fun y2 bt N=>xJ (zIZ e0 x.Num x1.Num _ bt h h1 h2) ?_;rintro bH av v2 k2 aX - ⟨v011,rfl,rfl,⟨aw,rfl,h14⟩⟩ -;obtain ⟨bm,aW,aS,bc,p14,c14,rfl,h15,h16,h17⟩:=xB h14;refine yS 2 (cExpr y2 bm aW aS bc p14 c14) rfl<|zU rfl<|xL<|zV<|zI ?_;exact xO N (resC 2 rfl rfl) zN ⟨_,rfl,rfl,⟨_,rfl,(yF ⟨_,_,_,rfl,h15,h16,h17⟩)⟩⟩
 intro hc5 N;refine yC<|yC ?_;refine wU N [hB b3 (cExpr x1 p9 c9 aM aP aI aQ),hB b2 (cExpr x p6 c6 p7 c7 p8 c8),hB b1 zExpr,hB b (cExpr e0 p c p1 c1 p2 c2)] (fun t52=>[(1,vP b 0),(2,vP b1 0),(3,vP b2 0),(4,vP b3 0),(52,.bool t52)]) (fun o02 ho02=>?_) ?_
 · have H:=iS bv;refine zM<|yD 4 [3] [56] rfl<|wD [56] ho02 ?_ ?_
   · intro hc6 N;refine vU 5 [0] [(57,vA (cExpr x1 p9 c9 aM aP aI aQ))]<|bE N fun y3 bD N=>vR (dK x1 0 _ bD h11 h12 h13) ?_;intro I06 bi;have H:=H.trans bi;exact yL [] [52] rfl<|yQ<|zT (ct N H)
   intro hc6 N;exact wT [] [(52,vF)]<|yQ<|zT (ct N H)
 intro t52 bO bB hMc2;have ⟨h11,h12,h13,h8,h9,h10⟩:=m6 bB h11 h12 h13 h8 h9 h10;have ⟨h,h1,h2,H⟩:=m4 bB h h1 h2 H;refine zK ?_;refine wU hMc2 [hB b3 (cExpr x1 p9 c9 aM aP aI aQ),hB b2 (cExpr x p6 c6 p7 c7 p8 c8),hB b1 zExpr,hB b (cExpr e0 p c p1 c1 p2 c2)] (fun t521=>[(1,vP b 0),(2,vP b1 0),(3,vP b2 0),(4,vP b3 0),(52,.bool t521)]) (fun o03 ho03=>?_) ?_
 · have H:=iS bO;refine yE ho03 ?_ ?_
   · intro hc7 N;exact zS<|yQ<|zT (ct N H)
   intro hc7 N;refine wU N [hB b3 (cExpr x1 p9 c9 aM aP aI aQ),hB b2 (cExpr x p6 c6 p7 c7 p8 c8),hB b1 zExpr,hB b (cExpr e0 p c p1 c1 p2 c2)] (fun t522=>[(1,vP b 0),(2,vP b1 0),(3,vP b2 0),(4,vP b3 0),(52,.bool t522)]) (fun o04 ho04=>?_) ?_
   · have H:=iS bO;refine zM<|yD 4 [3] [63] rfl<|wD [63] ho04 ?_ ?_
     · intro hc8 N;refine vU 5 [0] [(64,vA (cExpr x1 p9 c9 aM aP aI aQ))]<|bE N fun y4 hy6 N=>vR (dK x1 1 _ hy6 h11 h12 h13) ?_;intro I09 le7;have H:=H.trans le7;exact yL [] [52] rfl<|yQ<|zT (ct N H)
     intro hc8 N;exact wT [] [(52,vF)]<|yQ<|zT (ct N H)
   intro t522 I08 le8 hMc4;have H:=H.trans le8;exact yQ<|zT (ct hMc4 H)
 intro t521 I07 le9 hMc3;have ⟨h11,h12,h13,h8,h9,h10⟩:=m6 le9 h11 h12 h13 h8 h9 h10;have ⟨h,h1,h2,H⟩:=m4 le9 h h1 h2 H;refine zK<|yE hMc3 ?_ ?_
 · intro hc9 N;refine yA<|vU 1 [1] [(67,vA (cExpr x p6 c6 p7 c7 p8 c8))]<|yS 2 (cExpr x p6 c6 p7 c7 p8 c8) rfl<|zU rfl<|xL<|zV<|zI ?_;exact xO N (resC 2 rfl rfl) zN ⟨_,rfl,rfl,⟨_,rfl,(yF ⟨_,_,_,rfl,h8,h9,h10⟩)⟩⟩
 intro hc9 N;refine yC<|yC ?_;refine wU N [hB b3 (cExpr x1 p9 c9 aM aP aI aQ),hB b2 (cExpr x p6 c6 p7 c7 p8 c8),hB b1 zExpr,hB b (cExpr e0 p c p1 c1 p2 c2)] (fun t68=>[(1,vP b 0),(2,vP b1 0),(3,vP b2 0),(4,vP b3 0),(68,.bool t68)]) (fun o05 ho05=>?_) ?_
 · have H:=iS I07;refine zM<|yD 4 [3] [72] rfl<|wD [72] ho05 ?_ ?_
   · intro hc10 N;refine vU 5 [1] [(73,vA (cExpr x p6 c6 p7 c7 p8 c8))]<|bE N fun y5 hy7 N=>vR (dK x 0 _ hy7 h8 h9 h10) ?_;intro bW le10;have H:=H.trans le10;exact yL [] [68] rfl<|yQ<|zT (ct N H)
   intro hc10 N;exact wT [] [(68,vF)]<|yQ<|zT (ct N H)
 intro t68 bL le11 hMc5;have ⟨h11,h12,h13,h8,h9,h10⟩:=m6 le11 h11 h12 h13 h8 h9 h10;have ⟨h,h1,h2,H⟩:=m4 le11 h h1 h2 H;refine zK ?_;refine wU hMc5 [hB b3 (cExpr x1 p9 c9 aM aP aI aQ),hB b2 (cExpr x p6 c6 p7 c7 p8 c8),hB b1 zExpr,hB b (cExpr e0 p c p1 c1 p2 c2)] (fun t681=>[(1,vP b 0),(2,vP b1 0),(3,vP b2 0),(4,vP b3 0),(68,.bool t681)]) (fun o06 ho06=>?_) ?_
 · have H:=iS bL;refine yE ho06 ?_ ?_
   · intro hc11 N;exact zS<|yQ<|zT (ct N H)
   intro hc11 N;refine wU N [hB b3 (cExpr x1 p9 c9 aM aP aI aQ),hB b2 (cExpr x p6 c6 p7 c7 p8 c8),hB b1 zExpr,hB b (cExpr e0 p c p1 c1 p2 c2)] (fun t682=>[(1,vP b 0),(2,vP b1 0),(3,vP b2 0),(4,vP b3 0),(68,.bool t682)]) (fun o07 ho07=>?_) ?_
   · have H:=iS bL;refine zM<|yD 4 [3] [79] rfl<|wD [79] ho07 ?_ ?_
     · intro hc12 N;refine vU 5 [1] [(80,vA (cExpr x p6 c6 p7 c7 p8 c8))]<|bE N fun y6 hy8 N=>vR (dK x 1 _ hy8 h8 h9 h10) ?_;intro I014 le12;have H:=H.trans le12;exact yL [] [68] rfl<|yQ<|zT (ct N H)
     intro hc12 N;exact wT [] [(68,vF)]<|yQ<|zT (ct N H)
   intro t682 I013 le13 hMc7;have H:=H.trans le13;exact yQ<|zT (ct hMc7 H)
 intro t681 bS le14 hMc6;have ⟨h11,h12,h13,h8,h9,h10⟩:=m6 le14 h11 h12 h13 h8 h9 h10;have ⟨h,h1,h2,H⟩:=m4 le14 h h1 h2 H;refine zK<|yE hMc6 ?_ ?_
 · intro hc13 N;refine yA<|vU 1 [0] [(83,vA (cExpr x1 p9 c9 aM aP aI aQ))]<|yS 2 (cExpr x1 p9 c9 aM aP aI aQ) rfl<|zU rfl<|xL<|zV<|zI ?_;exact xO N (resC 2 rfl rfl) zN ⟨_,rfl,rfl,⟨_,rfl,(yF ⟨_,_,_,rfl,h11,h12,h13⟩)⟩⟩
 intro hc13 N;refine yC ?_;refine wU N [hB b1 zExpr,hB b (cExpr e0 p c p1 c1 p2 c2)] (fun t84=>[(1,vP b 0),(2,vP b1 0),(84,.bool t84)]) (fun o08 ho08=>?_) ?_
 · have H:=iS bS;refine zM<|yD 4 [3] [88] rfl<|wD [88] ho08 ?_ ?_
   · intro hc14 N;refine vU 5 [1] [(89,vA (cExpr x p6 c6 p7 c7 p8 c8))]<|bE N fun y7 hy9 N=>vR (dK x 0 _ hy9 h8 h9 h10) ?_;intro I016 le15;have ⟨h11,h12,h13,H⟩:=m4 le15 h11 h12 h13 H;refine yD 7 [] [91] rfl<|wD [91] N ?_ ?_
     · intro hc15 N;exact wT [] [(84,vY)]<|wH (zW [2,3] rfl (by decide))<|yQ<|zT (ct N H)
     intro hc15 N;refine vU 8 [0] [(92,vA (cExpr x1 p9 c9 aM aP aI aQ))]<|bE N fun y8 hy10 N=>vR (dK x1 0 _ hy10 h11 h12 h13) ?_;intro I017 le16;have H:=H.trans le16;exact yL [] [84] rfl<|wH (zW [2,3] rfl (by decide))<|yQ<|zT (ct N H)
   intro hc14 N;exact wT [] [(84,vF)]<|wH (zW [2,3] rfl (by decide))<|yQ<|zT (ct N H)
 intro t84 I015 le17 hMc8;have ⟨h,h1,h2⟩:=m3 le17 h h1 h2;refine zK<|yE hMc8 ?_ ?_
 · intro hc16 N;refine yA<|bE N fun y9 hy11 N=>xJ (zAm 0 _ hy11 ) ?_;rintro I018 av v2 k2 le18 - ⟨v021,rfl,rfl,⟨aU,rfl,h24⟩⟩ -;obtain ⟨p15,c15,p16,c16,p17,c17,rfl,h25,h26,h27⟩:=xB h24;refine yS 0 (cExpr y9 p15 c15 p16 c16 p17 c17) rfl<|zU rfl<|xL<|zV<|zI ?_;exact xO N (resC 0 rfl rfl) zN ⟨_,rfl,rfl,⟨_,rfl,(yF ⟨_,_,_,rfl,h25,h26,h27⟩)⟩⟩
 intro hc16 N;refine zS<|zP<|yT<|vU 1 [1] [(97,vA (cExpr e0 p c p1 c1 p2 c2))]<|yS 0 (cExpr e0 p c p1 c1 p2 c2) rfl<|zU rfl<|zK<|xF ?_;exact xO N (resC 0 rfl rfl) zN ⟨_,rfl,rfl,⟨_,rfl,(yF ⟨_,_,_,rfl,h,h1,h2⟩)⟩⟩
end Go.LN
