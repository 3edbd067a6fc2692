/- Helper of the proof (see the last text). -/
import Derived.Test.YtkipogionmkncaaGreatDoorHM3
set_option linter.unusedVariables false
set_option linter.unusedSimpArgs false
namespace Go.LN
open Go.Proofs Go.Proofs.Tryz
set_option maxRecDepth 20000
def zGe(r:zH):KT:=λkk I' ah v=>
 ∃np ns un nq nt oi,ah=[.osl (.slice np r.Arrays.length ns) (Rp.sz zE) un,.osl (.slice nq r.Parts.length nt) (Rp.sz zL) oi]/\v=tupV [(.agg ⟨[.slice np r.Arrays.length ns,.slice nq r.Parts.length nt]⟩)]/\RepL (Rp.rep I') (Rp.sz zE) un r.Arrays/\RepL (Rp.rep I') (Rp.sz zL) oi r.Parts
def pJ(p:zH)(i:Int)(Arrays:List zE):Option (List zE):=do
 if(decide (i<(p.Arrays.length:Int))) then
  let x<-idx p.Arrays i;let x1<-idx p.Arrays i;let l<-app 8 ([]:List Int) x1.Dims;let l1<-app 40 Arrays ([(zE.mk x.Name l)]:List zE);pJ p (W (i+1)) l1
 else pure (id Arrays)
 partial_fixpoint
theorem zBp(p:zH):∀(i:Int) (Arrays:List zE) (o:List zE),pJ p i Arrays=some o->∀{B}{I0 I:Imm}{Q p1 c p2 c1}{b b1 b2}{p3 c2 cs},I0.le I->(S4 I p1 p.Arrays c)->(S4 I p2 p.Parts c1)->(RL I cs Arrays)->NG Q->NO Q->(∀I' az p4 c3 aA,o=az->I0.le I'->(RL I' aA az)->T 84 B Q (.exit 0) I' [hO zE (vS p4 az c3) aA,hB b2 [vS p4 az c3,z0],hB b1 zTwo,hB b (cProg p p1 c p2 c1)] [(1,vP b 0),(2,vP b1 0),(3,vP b2 0)])->J Tryz.prog 84 B (nav (bodyOf f120) [1,1,0,1,0]) Q I [hO zE (vS p3 Arrays c2) cs,hB b2 [vS p3 Arrays c2,z0],hB b1 zTwo,hB b (cProg p p1 c p2 c1)] [(1,vP b 0),(2,vP b1 0),(3,vP b2 0),(4,vI i)]:=by
 refine pJ.partial_correctness p _ λaQ ih i Arrays o N B I0 I Q p1 c p2 c1 b b1 b2 p3 c2 cs H h h1 h3 hg ho hx=>xD hg ho<|yA<|yB<|yI [3] [13] rfl<|zK<|yC N ?_ ?_
 ·intro hc N;refine zR<|zY<|yM ?_;obtain⟨x,hy,N⟩:=zB N;obtain⟨x1,ay,N⟩:=zB N;obtain⟨l,aK,N⟩:=zB N;obtain⟨l1,bc,N⟩:=zB N;refine vK [.p (vP b2 0) [],.p (vS p3 Arrays c2) [0],.p (vP b 0) [],.p (vS p1 p.Arrays c) [2],.p (vI i) [],.x (ePArr x),.x (ePArr x),.q (vT x.Name.l),.x (λI' v hx=>∃b3,v=vS (some ⟨b3,0,none⟩) ([]:List Int) 0/\hx=[hO Int (vS (some ⟨b3,0,none⟩) ([]:List Int) 0) []]/\(RL I' [] ([]:List Int))),.p (vP b 0) [],.p (vS p1 p.Arrays c) [2],.p (vI i) [],.x (ePArr x1),.x (eQArr 1 x1),.x (eS x1.Dims),.x (λI' v hx=>∃p7 c6 bv,v=vS p7 l c6/\hx=[hO Int (vS p7 l c6) bv]/\(RL I' bv l)),.x (λI' v hx=>∃sr th cs21,v=vA [vT x.Name.l,vS sr l th]/\hx=[hO Int (vS sr l th) cs21]/\(RL I' cs21 l)),.x (λI' v hx=>∃b4,v=vS (some ⟨b4,0,none⟩) ([(zE.mk x.Name l)]:List zE) 1/\hx=[]/\(SL I' (vS (some ⟨b4,0,none⟩) ([(zE.mk x.Name l)]:List zE) 1) ([(zE.mk x.Name l)]:List zE))),.x (λI' v hx=>∃p8 c7 bf,v=vS p8 l1 c7/\hx=[hO zE (vS p8 l1 c7) bf]/\(RL I' bf l1))] [[],[(0,F9)],[],[(2,F9)],[],[(3,F9),(4,F9)],[(5,F9)],[(6,F9)],[],[],[(9,F9)],[],[(10,F9),(11,F9)],[(12,F9)],[(13,F9)],[(8,true),(14,F9)],[(7,F9),(15,true)],[(16,true)],[(1,F9),(17,F9),(21,true)]] [hB b2 [vS p3 Arrays c2,z0],hB b1 zTwo,hB b (cProg p p1 c p2 c1)] [[hO zE (vS p3 Arrays c2) cs]] [(18,true)] (zX [1,2,3,0]) ?_ ?_
  ·refine O4<|Op<|Ox ?_<|Ox ?_<|Oq ?_<|Ox ?_<|O3<|Ox ?_<|Ox ?_<|Ox ?_<|Ox ?_<|Ox ?_<|Ox ?_<|Ox ?_<|On
   ·intro I1 hf ae;refine yW [19,20] rfl ?_;have h:=h.mono ae;refine wJ rfl rfl h hy ?_;intro ad aR av al;obtain⟨p5,c4,rfl,h5⟩:=wN al;exact xC [] iR ⟨_,_,_,rfl,rfl,av,h5⟩
   ·rintro I1 hf ae _ _ ⟨ad,p5,c4,rfl,rfl,av,h5⟩;exact yW [21] rfl<|pQ 7 [(22,.pointer (some ad))]<|xC [] iR ⟨_,_,_,rfl,rfl,av,h5⟩
   ·rintro I1 hf ae _ _ ⟨cD,xk,iF,rfl,rfl,aw,gu⟩;exact yW [22] rfl<|wC 0 aw [vT x.Name.l] (vT x.Name.l) rfl<|yQ iR
   ·intro I1 hf ae;refine I_h []<|qN [] Int ?_;intro b3 ni;have h6:RL I1 [] ([]:List Int):=rfl;exact xC [hO Int (vS (some ⟨b3,0,none⟩) ([]:List Int) 0) []] iR ⟨_,rfl,rfl,h6⟩
   ·intro I1 hf ae;refine yW [26,27] rfl ?_;have h:=h.mono ae;refine wJ rfl rfl h ay ?_;intro jm bN cd ax;obtain⟨p6,c5,rfl,h7⟩:=wN ax;exact xC [] iR ⟨_,_,_,rfl,rfl,cd,h7⟩
   ·rintro I1 hf ae _ _ ⟨jm,p6,c5,rfl,rfl,cd,h7⟩;exact yW [28] rfl<|pQ 14 [(29,.pointer (some (jm.add 1)))]<|xC [] iR ⟨_,_,_,rfl,rfl,cd,h7⟩
   ·rintro I1 hf ae _ _ ⟨ad21,vi,c51,rfl,rfl,ny,rr⟩;exact yW [29] rfl<|wC 1 ny [vS vi x1.Dims c51] (vS vi x1.Dims c51) rfl<|xC [] iR ⟨_,_,rfl,rfl,rr⟩
   ·rintro I1 hf ae _ _ ⟨b3,rfl,rfl,h6⟩ _ _ ⟨p611,c511,rfl,rfl,h711⟩;refine yW [24,30] rfl ?_;obtain⟨gn,k0,cE⟩:=h711;have h711:SL I1 (vS p611 x1.Dims c511) x1.Dims:=⟨_,k0,cE⟩;exact mD 3 1 0 rfl rfl rfl h6 (.inl k0) cE aK λp7 c6 bv h8=>uT (ah:=(hO Int (vS p7 l c6) bv::hB b2 [vS p3 Arrays c2,z0]::hB b1 zTwo::hB b (cProg p p1 c p2 c1)::hf)) rfl<|xC [hO Int (vS p7 l c6) bv] iR ⟨_,_,_,rfl,rfl,h8⟩
   ·rintro I1 hf ae _ _ ⟨rfl,rfl⟩ _ _ ⟨p7,c6,bv,rfl,rfl,h8⟩;exact yW [23,31] rfl<|pQ 17 [(32,vA [vT x.Name.l,vS p7 l c6])]<|xC [hO Int (vS p7 l c6) bv] iR ⟨_,_,_,rfl,rfl,h8⟩
   ·rintro I1 hf ae _ _ ⟨sr,th,cs21,rfl,rfl,h81⟩;refine yW [32] rfl ?_;have H:=iS I1;refine wG 0 rfl ?_;intro I0 le cH;have h9:=SL.of_frozen cH le h81;have H:=H.trans le;refine jW (rc (zE.mk x.Name l) (sL ⟨_,rfl,h9⟩) rN) ?_;intro b4 aT ae bB;have H:=H.trans ae;exact xC [] H ⟨_,rfl,rfl,bB⟩
   rintro I1 hf ae _ _ ⟨rfl,rfl⟩ _ _ ⟨b4,rfl,rfl,bB⟩ _ _ rfl;refine yW [17,33] rfl ?_;have h3:=iM ae h3;obtain⟨kx,ui,qc⟩:=bB;have bB:SL I1 (vS (some ⟨b4,0,none⟩) ([(zE.mk x.Name l)]:List zE) 1) ([(zE.mk x.Name l)]:List zE):=⟨_,ui,qc⟩;exact mD 66 2 0 rfl rfl rfl h3 (.inl ui) qc bc λp8 c7 bf bW=>uT (ah:=(hO zE (vS p8 l1 c7) bf::hB b2 [vS p3 Arrays c2,z0]::hB b1 zTwo::hB b (cProg p p1 c p2 c1)::hf)) rfl<|xC [hO zE (vS p8 l1 c7) bf] iR ⟨_,_,_,rfl,rfl,bW⟩
  rintro aY aJ _ _ ⟨p8,c7,bf,rfl,rfl,bW⟩;refine yW [1,2,3,4,34] rfl ?_;have ⟨h,h1,H⟩:=m3 aJ h h1 H;exact zZ 20 [] [35] rfl<|yZ 1 [vS p8 l1 c7,z0] rfl<|zW rfl<|zO<|zK<|zM<|yI [] [4] rfl<|xB<|jH<|ih (W (i+1)) l1 _ N H h h1 bW hg ho hx
 intro hc N;exact uR<|yP<|hx _ _ _ _ _ (zC N).symm H h3
def pK(p:zH)(i1:Int)(ox:Int)(Body:List zI):Option (List zI):=do
 let x3<-idx p.Parts i1;if(decide (ox<(x3.Body.length:Int))) then
  let x4<-idx p.Parts i1;let x5<-idx x4.Body ox;let y1<-eW x5;let l2<-app 152 Body ([y1]:List zI);pK p i1 (W (ox+1)) l2
 else pure (id Body)
 partial_fixpoint
theorem zBq(p:zH)(i1:Int):∀(ox:Int) (Body:List zI) (o:List zI),pK p i1 ox Body=some o->∀{B}{I0 I:Imm}{Q}{az:List zE}{Parts:List zL}{y:(List zD)}{p1 c p2 c1}{b b1 b2}{p4 c3 aA p9 c8 cC br bx}{b5}{de bM gb},I0.le I->(S4 I br y bx)->(RL I cC Parts)->(RL I aA az)->(S4 I p1 p.Arrays c)->(S4 I p2 p.Parts c1)->(RL I gb Body)->NG Q->NO Q->(∀I' bu du cW d5,o=bu->I0.le I'->(RL I' d5 bu)->T 84 B Q (.exit 4) I' [hO zI (vS du bu cW) d5,hB b5 [vS br y bx,vS du bu cW],hO zL (vS p9 Parts c8) cC,hO zE (vS p4 az c3) aA,hB b2 [vS p4 az c3,vS p9 Parts c8],hB b1 zTwo,hB b (cProg p p1 c p2 c1)] [(1,vP b 0),(2,vP b1 0),(3,vP b2 0),(5,vI i1),(6,vP b5 0)])->J Tryz.prog 84 B (nav (bodyOf f120) [1,1,1,0,1,0,0,1,0,0,1,0,1,0]) Q I [hO zI (vS de Body bM) gb,hB b5 [vS br y bx,vS de Body bM],hO zL (vS p9 Parts c8) cC,hO zE (vS p4 az c3) aA,hB b2 [vS p4 az c3,vS p9 Parts c8],hB b1 zTwo,hB b (cProg p p1 c p2 c1)] [(1,vP b 0),(2,vP b1 0),(3,vP b2 0),(5,vI i1),(6,vP b5 0),(7,vI ox)]:=by
 refine pK.partial_correctness p i1 _ λaQ ih ox Body o N B I0 I Q az Parts y p1 c p2 c1 b b1 b2 p4 c3 aA p9 c8 cC br bx b5 de bM gb H bY bV h4 h h1 dm hg ho hx=>xD hg ho<|yA<|yB<|zZ 4 [6] [51,53,54] rfl<|bE N λx3 cx N=>wJ rfl rfl h1 cx ?_;intro ad4 ro lG cJ;obtain⟨iP,im,ey,fb,rfl,j3,jg⟩:=uK cJ;refine zZ 6 [] [56] rfl<|wC 1 lG [vS ey x3.Body fb] (vS ey x3.Body fb) rfl<|yI [] [59] rfl<|zK<|yC N ?_ ?_
 ·intro aU N;refine zR<|zY<|yM ?_;obtain⟨x4,cV,N⟩:=zB N;obtain⟨x5,eo,N⟩:=zB N;obtain⟨y1,gi,N⟩:=zB N;obtain⟨l2,cU,N⟩:=zB N;refine vK [.p (vP b5 1) [],.p (vS de Body bM) [0],.p (vP b 1) [],.p (vS p2 p.Parts c1) [5],.p (vI i1) [],.x (ePPart x4),.x (eQPart 1 x4),.x (eS x4.Body),.p (vI ox) [],.x (ePStmt x5),.x (eVStmt x5),.x (λI' v hx=>∃lq lz oz lu lO ot km kw iG fe,v=vA (cStmt y1 lq lz oz lu lO ot km kw)/\hx=[hO zA (vS lq y1.Write.Subs lz) iG,hO zF (vS km y1.Value.Kids kw) fe]/\(RL I' iG y1.Write.Subs)/\(S4 I' oz y1.Value.Index.Coefs lu)/\(S4 I' lO y1.Value.Read.Subs ot)/\(RL I' fe y1.Value.Kids)),.x (λI' v hx=>∃b6,v=vS (some ⟨b6,0,none⟩) ([y1]:List zI) 1/\hx=[]/\(SL I' (vS (some ⟨b6,0,none⟩) ([y1]:List zI) 1) ([y1]:List zI))),.x (λI' v hx=>∃lw jy fc,v=vS lw l2 jy/\hx=[hO zI (vS lw l2 jy) fc]/\(RL I' fc l2))] [[],[(0,F9)],[],[(2,F9)],[],[(3,F9),(4,F9)],[(5,F9)],[(6,F9)],[],[(7,F9),(8,F9)],[(9,F9)],[(10,F9)],[(11,true)],[(1,F9),(12,F9),(16,true)]] [hB b5 [vS br y bx,vS de Body bM],hO zL (vS p9 Parts c8) cC,hO zE (vS p4 az c3) aA,hB b2 [vS p4 az c3,vS p9 Parts c8],hB b1 zTwo,hB b (cProg p p1 c p2 c1)] [[hO zI (vS de Body bM) gb]] [(13,true)] (zX [1,2,3,4,5,6,0]) ?_ ?_
  ·refine O4<|Op<|Ox ?_<|Ox ?_<|Ox ?_<|Op<|Ox ?_<|Ox ?_<|Ox ?_<|Ox ?_<|Ox ?_<|On
   ·intro I1 hf ae;refine yW [65,66] rfl ?_;have h1:=h1.mono ae;refine wJ rfl rfl h1 cV ?_;intro ad5 vp kb iz;obtain⟨cL,ep,dv,da,rfl,iu,hV⟩:=uK iz;exact xC [] iR ⟨_,_,_,_,_,rfl,rfl,kb,iu,hV⟩
   ·rintro I1 hf ae _ _ ⟨ad5,cL,ep,dv,da,rfl,rfl,kb,iu,hV⟩;exact yW [67] rfl<|pQ 7 [(68,.pointer (some (ad5.add 1)))]<|xC [] iR ⟨_,_,_,_,_,rfl,rfl,kb,iu,hV⟩
   ·rintro I1 hf ae _ _ ⟨ad51,p181,c171,sf,c181,rfl,rfl,hat51,h241,h251⟩;exact yW [68] rfl<|wC 1 hat51 [vS sf x4.Body c181] (vS sf x4.Body c181) rfl<|xC [] iR ⟨_,_,rfl,rfl,h251⟩
   ·rintro I1 hf ae _ _ ⟨p1911,c1811,rfl,rfl,h2511⟩;refine yW [69,70] rfl<|wJ rfl rfl h2511 eo ?_;intro ad6 ccs7 pj jr;obtain⟨eu,ej,ga,c20,md,c21,mj,mr,rfl,hZ,iH,fk,j4⟩:=rJ jr;exact xC [] iR ⟨_,_,_,_,_,_,_,_,_,rfl,rfl,pj,hZ,iH,fk,j4⟩
   ·rintro I1 hf ae _ _ ⟨ad6,eu,ej,ga,c20,md,c21,mj,mr,rfl,rfl,pj,hZ,iH,fk,j4⟩;exact yW [71] rfl<|wC 0 pj (cStmt x5 eu ej ga c20 md c21 mj mr) (vA (cStmt x5 eu ej ga c20 md c21 mj mr)) rfl<|xC [] iR ⟨_,_,_,_,_,_,_,_,rfl,rfl,hZ,iH,fk,j4⟩
   ·rintro I1 hf ae _ _ ⟨p201,vn,p211,c201,p221,c211,p231,c221,rfl,rfl,h261,h271,h281,h291⟩;refine yW [72] rfl ?_;have H:=iS I1;refine xG (zDg x5 _ gi h261 h271 h281 h291) ?_;rintro dw au v2 k2 bI - ⟨lq,lz,iG,oz,lu,lO,ot,km,kw,fe,rfl,rfl,jn,gt,k8,iT⟩ -;have H:=H.trans bI;exact xC [hO zA (vS lq y1.Write.Subs lz) iG,hO zF (vS km y1.Value.Kids kw) fe] H ⟨_,_,_,_,_,_,_,_,_,_,rfl,rfl,jn,gt,k8,iT⟩
   ·rintro I1 hf ae _ _ ⟨lq,lz,oz,lu,lO,ot,km,kw,iG,fe,rfl,rfl,jn,gt,k8,iT⟩;refine yW [73] rfl ?_;have H:=iS I1;refine wG 0 rfl ?_;intro gk bJ cF;have mh:=SL.of_frozen cF bJ jn;have ⟨gt,k8,iT,H⟩:=m4 bJ gt k8 iT H;refine wG 0 rfl ?_;intro ij bZ lg;have lT:=SL.of_frozen lg bZ iT;have ⟨mh,gt,k8,H⟩:=m4 bZ mh gt k8 H;refine jW (rc y1 (wO ⟨_,_,_,_,rfl,mh,gt,k8,lT⟩) rN) ?_;intro b6 iE dt ov;have H:=H.trans dt;exact xC [] H ⟨_,rfl,rfl,ov⟩
   rintro I1 hf ae _ _ ⟨rfl,rfl⟩ _ _ ⟨b6,rfl,rfl,ov⟩ _ _ rfl;refine yW [63,74] rfl ?_;have dm:=iM ae dm;obtain⟨ccs8,uj,k06⟩:=ov;have ov:SL I1 (vS (some ⟨b6,0,none⟩) ([y1]:List zI) 1) ([y1]:List zI):=⟨_,uj,k06⟩;exact mD 55 9 0 rfl rfl rfl dm (.inl uj) k06 cU λlw jy fc gc=>uT (ah:=(hO zI (vS lw l2 jy) fc::hB b5 [vS br y bx,vS de Body bM]::hO zL (vS p9 Parts c8) cC::hO zE (vS p4 az c3) aA::hB b2 [vS p4 az c3,vS p9 Parts c8]::hB b1 zTwo::hB b (cProg p p1 c p2 c1)::hf)) rfl<|xC [hO zI (vS lw l2 jy) fc] iR ⟨_,_,_,rfl,rfl,gc⟩
  rintro jx bS _ _ ⟨lw,jy,fc,rfl,rfl,gc⟩;refine yW [1,2,3,5,6,7,75] rfl ?_;have ⟨bY,bV,h4,h,h1,H⟩:=m6 bS bY bV h4 h h1 H;exact zZ 15 [] [76] rfl<|yZ 1 [vS br y bx,vS lw l2 jy] rfl<|zW rfl<|zO<|zK<|zM<|yI [] [7] rfl<|xB<|jH<|ih (W (ox+1)) l2 _ N H bY bV h4 h h1 gc hg ho hx
 intro aU N;exact uR<|yP<|hx _ _ _ _ _ (zC N).symm H dm
def sV(p:zH)(i1:Int)(Parts:List zL):Option (List zL):=do
 if(decide (i1<(p.Parts.length:Int))) then
  let x2<-idx p.Parts i1;let y<-jL x2.Nest;let bu<-pK p i1 0 ([]:List zI);let l3<-app 48 Parts ([(zL.mk y bu)]:List zL);sV p (W (i1+1)) l3
 else pure (id Parts)
 partial_fixpoint
theorem zFi(p:zH):∀(i1:Int) (Parts:List zL) (o:List zL),sV p i1 Parts=some o->∀{B}{I0 I:Imm}{Q}{az:List zE}{p1 c p2 c1}{b b1 b2}{p4 c3 aA p9 c8 cC},I0.le I->(RL I aA az)->(S4 I p1 p.Arrays c)->(S4 I p2 p.Parts c1)->(RL I cC Parts)->NG Q->NO Q->(∀I' aX bH c9 cP,o=aX->I0.le I'->(RL I' cP aX)->T 84 B Q (.exit 2) I' [hO zL (vS bH aX c9) cP,hO zE (vS p4 az c3) aA,hB b2 [vS p4 az c3,vS bH aX c9],hB b1 zTwo] [(2,vP b1 0),(3,vP b2 0)])->J Tryz.prog 84 B (nav (bodyOf f120) [1,1,1,0,1,0]) Q I [hO zL (vS p9 Parts c8) cC,hO zE (vS p4 az c3) aA,hB b2 [vS p4 az c3,vS p9 Parts c8],hB b1 zTwo,hB b (cProg p p1 c p2 c1)] [(1,vP b 0),(2,vP b1 0),(3,vP b2 0),(5,vI i1)]:=by
 refine sV.partial_correctness p _ λaQ ih i1 Parts o N B I0 I Q az p1 c p2 c1 b b1 b2 p4 c3 aA p9 c8 cC H h4 h h1 bV hg ho hx=>xD hg ho<|yA<|yB<|yI [4] [40] rfl<|zK<|yC N ?_ ?_
 ·intro aI N;refine zR<|zY<|yM<|yB<|zZ 3 [4] [44,45] rfl<|bE N λx2 bL N=>wJ rfl rfl h1 bL ?_;intro ri nu ek bO;obtain⟨bd,bG,ce,bj,rfl,ck,cm⟩:=uK bO;refine zZ 5 [] [47] rfl<|wC 0 ek [vS bd x2.Nest bG] (vS bd x2.Nest bG) rfl<|bE N λy bX N=>xG (zDf x2.Nest _ bX ck) ?_;rintro cI au v2 k2 bb - ⟨ee,rfl,rfl,bY⟩ -;have ⟨bV,h4,h,h1,H⟩:=m5 bb bV h4 h h1 H;obtain⟨br,bx,rfl⟩:=bY.form;refine zZ 8 [] [50] rfl<|wT zTwo ?_;intro b5 hb5;refine yZ 0 [vS br y bx,z0] rfl<|zW rfl<|zY<|yG [7] rfl<|vC<|mM [(1,vP b 0),(2,vP b1 0),(3,vP b2 0),(5,vI i1),(6,vP b5 0),(7,vI 0)]<|zB9 zI λd9=>?_;obtain⟨aS,aE,dc⟩:=zB N;refine zBq p i1 0 ([]:List zI) aS aE iR bY bV h4 h h1 d9 (λ_ _ _ h=>hg _ _ _ h) (λ_ _ h=>ho _ _ h) ?_;intro eg bu du cW d5 ca cb jz;subst aS;have ⟨bY,bV,h4,h,h1,H⟩:=m6 cb bY bV h4 h h1 H;refine zT<|zK<|zM<|qO 3 [4,1] [(78,vS p9 Parts c8),(79,vA [vS br y bx,vS du bu cW])]<|wG 0 rfl ?_;intro hJ cA pp;have j9:=SL.of_frozen pp cA jz;have ⟨bV,bY,h4,h,h1,H⟩:=m6 cA bV bY h4 h h1 H;refine qN [vS br y bx,vS du bu cW] zL ?_;intro b7 hb7;have sp:RL hJ [vS br y bx,vS du bu cW] ([(zL.mk y bu)]:List zL):=⟨[vS br y bx,vS du bu cW],_,rfl,rfl,(rS ⟨_,_,rfl,bY,j9⟩),rfl⟩;obtain⟨l3,dr,N⟩:=zB dc;refine mD 70 2 2 rfl rfl rfl bV (.inr ⟨0,rfl⟩) sp dr ?_;intro lr lB dl ka;exact qM (zX [1,2,3,4,5,6] (ah:=[hB b5 [vS br y bx,vS du bu cW],hO zL (vS lr l3 lB) dl,hO zE (vS p4 az c3) aA,hB b2 [vS p4 az c3,vS p9 Parts c8],hB b1 zTwo,hB b (cProg p p1 c p2 c1)]))<|zZ 6 [] [82] rfl<|yZ 3 [vS p4 az c3,vS lr l3 lB] rfl<|zW rfl<|zO<|zK<|zM<|yI [] [5] rfl<|xB<|kT (zV [1,2,3,4,5] rfl (by decide))<|jH<|ih (W (i1+1)) l3 _ N H h4 h h1 ka hg ho hx
 intro aI N;exact uR<|wI (zV [0,1,2,3] rfl (by decide))<|yP<|hx _ _ _ _ _ (zC N).symm H bV
def nI(p:zH):Option (zH):=do
 let az<-pJ p 0 ([]:List zE);let aX<-sV p 0 ([]:List zL);pure (zH.mk az aX)
theorem zIN:∀p r,nI p=some r->∀{I:Imm}{p1 c p2 c1},(S4 I p1 p.Arrays c)->(S4 I p2 p.Parts c1)->RT 120 [vA (cProg p p1 c p2 c1)] I [] (zGe  r):=by
 intro p r N I p1 c p2 c1 h h1;unfold nI at N;refine yK func120 λB=>yB<|sF (cProg p p1 c p2 c1) ?_;intro b hb;refine wT zTwo ?_;intro b1 cp;refine zW rfl<|yV<|zZ 1 [] [8] rfl<|wT zTwo ?_;intro b2 fl;refine zAF 0 zTwo [hB b2 zTwo,hB b1 zTwo,hB b (cProg p p1 c p2 c1)] rfl rfl rfl rfl<|zW rfl<|zY<|yG [4] rfl<|vC<|mM [(1,vP b 0),(2,vP b1 0),(3,vP b2 0),(4,vI 0)]<|zB9 zE λh2=>?_;obtain⟨o0,aC,aM⟩:=zB N;refine zBp p 0 ([]:List zE) o0 aC iR h h1 h2 nG nO ?_;intro bP az p4 c3 aA ec aL h4;subst o0;have ⟨h,h1⟩:=m2 aL h h1;refine zT<|zY<|yG [5] rfl<|vC<|mM [(1,vP b 0),(2,vP b1 0),(3,vP b2 0),(5,vI 0)]<|zB9 zL λcy=>?_;obtain⟨dd,bh,iv⟩:=zB aM;refine zFi p 0 ([]:List zL) dd bh iR h4 h h1 cy nG nO ?_;intro fq aX bH c9 cP jo d7 co;subst dd;have h4:=iM d7 h4;refine zT<|yV<|qO 1 [2] [(83,vA [vS p4 az c3,vS bH aX c9])]<|yZ 3 [vS p4 az c3,vS bH aX c9] rfl<|zW rfl<|zK<|yX ?_;exact wD iv (resC 3 rfl rfl) (zV [1,0] rfl (by decide)) ⟨_,_,_,_,_,_,rfl,rfl,h4,co⟩
def zEs(b0:Nat)(r:zI×zP):KT:=λkk I' ah v=>
 ∃v0 k0,ah=[.blk b0 ⟨k0⟩]/\v=tupV [v0]/\(∃cs,v0=.agg ⟨cs⟩/\Rp.rep I' cs r.1)/\Rp.rep I' k0 r.2
def pC(r0:zP)(s:zI):Option (zI×zP):=do
 let y<-eW s;let (y2,y3)<-xF r0 40;let (dj,cS,ei,fa,cR,x)<-(do
  if(y2==0) then
   let (y5,y6)<-mG y3 ([(⟨[69]⟩:Str),(⟨[]⟩:Str),(⟨[65,66]⟩:Str),(⟨[97]⟩:Str)]:List Str);pure (y5,y.Write.Subs,y.Value.Kind,y.Value.Num,y.Value.Kids,y6)
  else
   let (dk,e7,gf,df,x1)<-(do
    if(y2==1) then
     let y7<-jG 3;let y8<-nH;let l<-app 32 y.Write.Subs ([y7,y8]:List zA);pure (l,y.Value.Kind,y.Value.Num,y.Value.Kids,y3)
    else
     let (e9,gg,dg,x2)<-(do
      if(y2==2) then
       let (y10,fm)<-xL y3 ([0,7,1,4,2]:List Int);pure (y10,y.Value.Num,y.Value.Kids,fm)
      else
       let (gh,dh,x3)<-(do
        if(y2==3) then
         let (y13,y14)<-xL y3 ([100,(-1),1]:List Int);pure (y13,y.Value.Kids,y14)
        else
         let di<-(do
          if(y2==4) then
           let l1<-app 112 y.Value.Kids ([(zF.mk 1 0 (zA.mk ([]:List Int) 0) (zJ.mk (⟨[]⟩:Str) ([]:List zA)) ([]:List zF))]:List zF);pure (id l1)
          else
           pure y.Value.Kids
            : Option (List zF))
         pure (y.Value.Num,di,y3)
          : Option (Int×List zF×zP))
       pure (y.Value.Kind,gh,dh,x3)
        : Option (Int×Int×List zF×zP))
     pure (y.Write.Subs,e9,gg,dg,x2)
      : Option (List zA×Int×Int×List zF×zP))
   pure (y.Write.Array,dk,e7,gf,df,x1)
    : Option (Str×List zA×Int×Int×List zF×zP))
 pure ((zI.mk (zJ.mk dj cS) (zF.mk ei fa y.Value.Index y.Value.Read cR)),x)
theorem zAe:∀r0 s r,pC r0 s=some r->∀{I:Imm}{ap}{p c p1 c1 p2 c2 p3 c3 p4 c4},(S4 I p r0.b c)->(S4 I p1 s.Write.Subs c1)->(S4 I p2 s.Value.Index.Coefs c2)->(S4 I p3 s.Value.Read.Subs c3)->(S4 I p4 s.Value.Kids c4)->RT 121 [vP ap 0,vA (cStmt s p1 c1 p2 c2 p3 c3 p4 c4)] I [hB ap (cRd r0 p c)] (zEs ap r):=by
 intro r0 s r N I ap p c p1 c1 p2 c2 p3 c3 p4 c4 h h1 h2 h3 h4;unfold pC at N;refine yK func121 λB=>?_;have H:=iS I;refine yB<|sF (cStmt s p1 c1 p2 c2 p3 c3 p4 c4) ?_;intro b hb;refine wT [vT ([]),z0,vI 0,vI 0,z0,vI 0,vT ([]),z0,z0] ?_;intro b1 cp;refine zW rfl<|yV<|qO 1 [1] [(6,vA (cStmt s p1 c1 p2 c2 p3 c3 p4 c4))]<|bE N λy hy N=>xG (zDg s _ hy h1 h2 h3 h4) ?_;rintro I0 au v2 k2 le - ⟨p5,c5,cs,p6,c6,p7,c7,p8,c8,aA,rfl,rfl,h5,h6,h7,h8⟩ -;have ⟨h,H⟩:=m2 le h H;refine wT [vT ([]),z0,vI 0,vI 0,z0,vI 0,vT ([]),z0,z0] ?_;intro b2 fl;refine yZ 0 (cStmt y p5 c5 p6 c6 p7 c7 p8 c8) rfl<|zW rfl<|zY<|yB<|zZ 1 [] [8] rfl<|qM (zX [5,0,1,2,3,4] (ah:=[hB ap (cRd r0 p c),hB b2 (cStmt y p5 c5 p6 c6 p7 c7 p8 c8),hO zA (vS p5 y.Write.Subs c5) cs,hO zF (vS p8 y.Value.Kids c8) aA,hB b1 [vT ([]),z0,vI 0,vI 0,z0,vI 0,vT ([]),z0,z0],hB b (cStmt s p1 c1 p2 c2 p3 c3 p4 c4)])) ?_;obtain⟨⟨y2,y3⟩,ay,N⟩:=zB N;refine tU (xX r0 40 _ ay h) rfl ?_;rintro aT au v2 k2 ae - ⟨v0,kk,rfl,rfl,rfl,bQ⟩ -;have ⟨h5,h6,h7,h8,H⟩:=m5 ae h5 h6 h7 h8 H;obtain⟨p9,c9,rfl,bB⟩:=yD bQ;refine zW rfl<|vC<|yG [10] rfl<|zK<|oD 5 rfl ?_;intro aY aJ cH;have av:At aY ⟨b,0,none⟩ (cStmt s p1 c1 p2 c2 p3 c3 p4 c4):=At.of_blk cH;have ⟨bB,h5,h6,h7,h8,H⟩:=m6 aJ bB h5 h6 h7 h8 H;obtain⟨o0,aC,aO⟩:=zB N;refine rR (λI' ah m'=>∃(dj:Str) (cS:List zA) (ei:Int) (fa:Int) (cR:List zF) (x:zP) (bH:Option Addr) (bG:Nat) (bv:List Value) (bd:Option Addr) (bj:Nat) (bf:List Value) (ce:Option Addr) (bx:Nat),o0=(dj,cS,ei,fa,cR,x)/\aY.le I'/\(RL I' bv cS)/\(RL I' bf cR)/\(S4 I' ce x.b bx)/\ah=[hB ap (cRd x ce bx),hB b2 [vT dj.l,vS bH cS bG,vI ei,vI fa,vS p6 y.Value.Index.Coefs c6,vI y.Value.Index.Const,vT y.Value.Read.Array.l,vS p7 y.Value.Read.Subs c7,vS bd cR bj],hO zA (vS bH cS bG) bv,hO zF (vS bd cR bj) bf,hB b1 [vT ([]),z0,vI 0,vI 0,z0,vI 0,vT ([]),z0,z0]]/\m'=[(4,vP b1 0),(5,vP b2 0)]) ?_ ?_
 ·have H:=iS aY;refine yC aC ?_ ?_
  ·intro hc N;refine zM<|zZ 1 [] [12] rfl<|jW (rT [(⟨[69]⟩:Str),(⟨[]⟩:Str),(⟨[65,66]⟩:Str),(⟨[97]⟩:Str)]) ?_;intro b3 cI aL ck;have ⟨bB,h5,h8,H⟩:=m4 aL bB h5 h8 H;obtain⟨⟨y5,y6⟩,aK,N⟩:=zB N;refine tU (dK y3 ([(⟨[69]⟩:Str),(⟨[]⟩:Str),(⟨[65,66]⟩:Str),(⟨[97]⟩:Str)]:List Str) _ aK bB ck) rfl ?_;rintro dw au v2 k2 bb - ⟨ig,oe,rfl,rfl,rfl,bY⟩ -;have ⟨h5,h8,H⟩:=m3 bb h5 h8 H;obtain⟨br,bM,rfl,d9⟩:=yD bY;exact zZ 5 [] [16] rfl<|yZ 1 [vT y5.l,vS p5 y.Write.Subs c5,vI y.Value.Kind,vI y.Value.Num,vS p6 y.Value.Index.Coefs c6,vI y.Value.Index.Const,vT y.Value.Read.Array.l,vS p7 y.Value.Read.Subs c7,vS p8 y.Value.Kids c8] rfl<|zW rfl<|yP<|zQ ⟨_,_,_,_,_,_,_,_,_,_,_,_,_,_,(zC N).symm,H,h5,h8,d9,rfl,rfl⟩
  intro hc N;refine yG [17] rfl<|zK ?_;obtain⟨aS,aE,bK⟩:=zB N;refine rR (λI' ah m'=>∃(dk:List zA) (e7:Int) (gf:Int) (df:List zF) (x1:zP) (de:Option Addr) (cW:Nat) (cC:List Value) (du:Option Addr) (im:Nat) (cP:List Value) (iP:Option Addr) (fb:Nat),aS=(dk,e7,gf,df,x1)/\aY.le I'/\(RL I' cC dk)/\(RL I' cP df)/\(S4 I' iP x1.b fb)/\ah=[hB ap (cRd x1 iP fb),hB b2 [vT y.Write.Array.l,vS de dk cW,vI e7,vI gf,vS p6 y.Value.Index.Coefs c6,vI y.Value.Index.Const,vT y.Value.Read.Array.l,vS p7 y.Value.Read.Subs c7,vS du df im],hO zA (vS de dk cW) cC,hO zF (vS du df im) cP,hB b1 [vT ([]),z0,vI 0,vI 0,z0,vI 0,vT ([]),z0,z0]]/\m'=[(4,vP b1 0),(5,vP b2 0)]) ?_ ?_
  ·have H:=iS aY;refine yC aE ?_ ?_
   ·intro aI N;obtain⟨y7,bc,N⟩:=zB N;obtain⟨y8,bL,N⟩:=zB N;obtain⟨l,bX,N⟩:=zB N;refine vK [.p (vP b2 0) [],.p (vP b2 1) [],.p (vS p5 y.Write.Subs c5) [1],.x (eVAff y7),.x (λI' v hx=>∃cL da d5,v=vA (cAff y8 cL da)/\hx=[hO Int (vS cL y8.Coefs da) d5]/\(RL I' d5 y8.Coefs)),.x (λI' v hx=>∃b4,v=vS (some ⟨b4,0,none⟩) ([y7,y8]:List zA) 2/\hx=[]/\(SL I' (vS (some ⟨b4,0,none⟩) ([y7,y8]:List zA) 2) ([y7,y8]:List zA))),.x (λI' v hx=>∃dv ej iG,v=vS dv l ej/\hx=[hO zA (vS dv l ej) iG]/\(RL I' iG l))] [[],[(0,F9)],[(1,F9)],[],[],[(3,F9),(4,true)],[(2,F9),(5,F9),(10,true)]] [hB ap (cRd y3 p9 c9),hB b2 (cStmt y p5 c5 p6 c6 p7 c7 p8 c8),hO zF (vS p8 y.Value.Kids c8) aA,hB b1 [vT ([]),z0,vI 0,vI 0,z0,vI 0,vT ([]),z0,z0]] [[hO zA (vS p5 y.Write.Subs c5) cs]] [(6,true)] (zX [0,1,3,4,2]) ?_ ?_
    ·refine O3<|Ox ?_<|Ox ?_<|Ox ?_<|Ox ?_<|On
     ·intro I1 hf ae;refine I_h [] ?_;have H:=iS I1;refine xG (dV 3 _ bc ) ?_;rintro ij au v2 k2 bI - ⟨ee,rfl,rfl,⟨gb,rfl,jg⟩⟩ -;have H:=H.trans bI;obtain⟨ey,ep,rfl,iu⟩:=yF jg;exact xC [] H ⟨_,_,rfl,rfl,iu⟩
     ·intro I1 hf ae;refine I_h [] ?_;have H:=iS I1;refine xG (fH  _ bL ) ?_;rintro iE au v2 k2 bJ - ⟨cL,da,d5,rfl,rfl,hV⟩ -;have H:=H.trans bJ;exact xC [hO Int (vS cL y8.Coefs da) d5] H ⟨_,_,_,rfl,rfl,hV⟩
     ·rintro I1 hf ae _ _ ⟨ey,ep,rfl,rfl,iu⟩ _ _ ⟨cL,da,d5,rfl,rfl,hV⟩;refine yW [22,23] rfl ?_;have H:=iS I1;refine wG 0 rfl ?_;intro jx bZ cF;have hZ:=SL.of_frozen cF bZ hV;have ⟨iu,H⟩:=m2 bZ iu H;refine jW (rc y7 (yH ⟨_,rfl,iu⟩) (rc y8 (yH ⟨_,rfl,hZ⟩) rN)) ?_;intro b4 eg dt fk;have H:=H.trans dt;exact xC [] H ⟨_,rfl,rfl,fk⟩
     rintro I1 hf ae _ _ ⟨rfl,rfl⟩ _ _ ⟨b4,rfl,rfl,fk⟩ _ _ rfl;refine yW [21,24] rfl ?_;have h5:=iM ae h5;obtain⟨aR,k0,cE⟩:=fk;have fk:SL I1 (vS (some ⟨b4,0,none⟩) ([y7,y8]:List zA) 2) ([y7,y8]:List zA):=⟨_,k0,cE⟩;exact mD 50 2 0 rfl rfl rfl h5 (.inl k0) cE bX λdv ej iG j4=>uT (ah:=(hO zA (vS dv l ej) iG::hB ap (cRd y3 p9 c9)::hB b2 (cStmt y p5 c5 p6 c6 p7 c7 p8 c8)::hO zF (vS p8 y.Value.Kids c8) aA::hB b1 [vT ([]),z0,vI 0,vI 0,z0,vI 0,vT ([]),z0,z0]::hf)) rfl<|xC [hO zA (vS dv l ej) iG] iR ⟨_,_,_,rfl,rfl,j4⟩
    rintro hJ bS _ _ ⟨dv,ej,iG,rfl,rfl,j4⟩;refine yW [4,5,25] rfl ?_;have ⟨bB,h8,H⟩:=m3 bS bB h8 H;exact zZ 9 [] [27] rfl<|yZ 2 [vT y.Write.Array.l,vS dv l ej,vI y.Value.Kind,vI y.Value.Num,vS p6 y.Value.Index.Coefs c6,vI y.Value.Index.Const,vT y.Value.Read.Array.l,vS p7 y.Value.Read.Subs c7,vS p8 y.Value.Kids c8] rfl<|zW rfl<|wI (zV [1,2,0,3,4] rfl (by decide))<|yP<|zQ ⟨_,_,_,_,_,_,_,_,_,_,_,_,_,(zC N).symm,H,j4,h8,bB,rfl,rfl⟩
   intro aI N;refine yG [28] rfl<|zK ?_;obtain⟨dd,bh,d6⟩:=zB N;refine rR (λI' ah m'=>∃(e9:Int) (gg:Int) (dg:List zF) (x2:zP) (eu:Option Addr) (c20:Nat) (fe:List Value) (ga:Option Addr) (c21:Nat),dd=(e9,gg,dg,x2)/\aY.le I'/\(RL I' fe dg)/\(S4 I' ga x2.b c21)/\ah=[hB ap (cRd x2 ga c21),hB b2 [vT y.Write.Array.l,vS p5 y.Write.Subs c5,vI e9,vI gg,vS p6 y.Value.Index.Coefs c6,vI y.Value.Index.Const,vT y.Value.Read.Array.l,vS p7 y.Value.Read.Subs c7,vS eu dg c20],hO zA (vS p5 y.Write.Subs c5) cs,hO zF (vS eu dg c20) fe,hB b1 [vT ([]),z0,vI 0,vI 0,z0,vI 0,vT ([]),z0,z0]]/\m'=[(4,vP b1 0),(5,vP b2 0)]) ?_ ?_
   ·have H:=iS aY;refine yC bh ?_ ?_
    ·intro aU N;refine zM<|zZ 1 [] [30] rfl<|jW (rI [0,7,1,4,2]) ?_;intro b5 ku cb iT;have ⟨bB,h8,H⟩:=m3 cb bB h8 H;obtain⟨⟨y10,fm⟩,cx,N⟩:=zB N;refine tU (wE y3 ([0,7,1,4,2]:List Int) _ cx bB iT) rfl ?_;rintro mm au v2 k2 cA - ⟨q8,oy,rfl,rfl,rfl,lT⟩ -;have ⟨h8,H⟩:=m2 cA h8 H;obtain⟨md,mr,rfl,sn⟩:=yD lT;exact zZ 5 [] [34] rfl<|yZ 1 [vT y.Write.Array.l,vS p5 y.Write.Subs c5,vI y10,vI y.Value.Num,vS p6 y.Value.Index.Coefs c6,vI y.Value.Index.Const,vT y.Value.Read.Array.l,vS p7 y.Value.Read.Subs c7,vS p8 y.Value.Kids c8] rfl<|zW rfl<|yP<|zQ ⟨_,_,_,_,_,_,_,_,_,(zC N).symm,H,h8,sn,rfl,rfl⟩
    intro aU N;refine yG [35] rfl<|zK ?_;obtain⟨fw,cu,ff⟩:=zB N;refine rR (λI' ah m'=>∃(gh:Int) (dh:List zF) (x3:zP) (mj:Option Addr) (lz:Nat) (fc:List Value) (lq:Option Addr) (lu:Nat),fw=(gh,dh,x3)/\aY.le I'/\(RL I' fc dh)/\(S4 I' lq x3.b lu)/\ah=[hB ap (cRd x3 lq lu),hB b2 [vT y.Write.Array.l,vS p5 y.Write.Subs c5,vI y.Value.Kind,vI gh,vS p6 y.Value.Index.Coefs c6,vI y.Value.Index.Const,vT y.Value.Read.Array.l,vS p7 y.Value.Read.Subs c7,vS mj dh lz],hO zA (vS p5 y.Write.Subs c5) cs,hO zF (vS mj dh lz) fc,hB b1 [vT ([]),z0,vI 0,vI 0,z0,vI 0,vT ([]),z0,z0]]/\m'=[(4,vP b1 0),(5,vP b2 0)]) ?_ ?_
    ·have H:=iS aY;refine yC cu ?_ ?_
     ·intro bU N;refine zM<|zZ 1 [] [37] rfl<|jW (rI [100,(-1),1]) ?_;intro b6 lZ d7 sp;have ⟨bB,h8,H⟩:=m3 d7 bB h8 H;obtain⟨⟨y13,y14⟩,cV,N⟩:=zB N;refine tU (wE y3 ([100,(-1),1]:List Int) _ cV bB sp) rfl ?_;rintro mn au v2 k2 fu - ⟨q9,kk3,rfl,rfl,rfl,lU⟩ -;have ⟨h8,H⟩:=m2 fu h8 H;obtain⟨oz,ot,rfl,rq⟩:=yD lU;exact zZ 5 [] [41] rfl<|yZ 1 [vT y.Write.Array.l,vS p5 y.Write.Subs c5,vI y.Value.Kind,vI y13,vS p6 y.Value.Index.Coefs c6,vI y.Value.Index.Const,vT y.Value.Read.Array.l,vS p7 y.Value.Read.Subs c7,vS p8 y.Value.Kids c8] rfl<|zW rfl<|yP<|zQ ⟨_,_,_,_,_,_,_,_,(zC N).symm,H,h8,rq,rfl,rfl⟩
     intro bU N;refine yG [42] rfl<|zK ?_;obtain⟨lN,gv,ia⟩:=zB N;refine rR (λI' ah m'=>∃(di:List zF) (lO:Option Addr) (kw:Nat) (dl:List Value),lN=di/\aY.le I'/\(RL I' dl di)/\ah=[hB ap (cRd y3 p9 c9),hB b2 [vT y.Write.Array.l,vS p5 y.Write.Subs c5,vI y.Value.Kind,vI y.Value.Num,vS p6 y.Value.Index.Coefs c6,vI y.Value.Index.Const,vT y.Value.Read.Array.l,vS p7 y.Value.Read.Subs c7,vS lO di kw],hO zA (vS p5 y.Write.Subs c5) cs,hO zF (vS lO di kw) dl,hB b1 [vT ([]),z0,vI 0,vI 0,z0,vI 0,vT ([]),z0,z0]]/\m'=[(4,vP b1 0),(5,vP b2 0)]) ?_ ?_
     ·have H:=iS aY;refine yC gv ?_ ?_
      ·intro cO N;refine zM<|qO 4 [1] [(46,vS p8 y.Value.Kids c8),(47,vA [vI 1,vI 0,z0,vI 0,vT ([]),z0,z0])]<|qN [vI 1,vI 0,z0,vI 0,vT ([]),z0,z0] zF ?_;intro b7 hb7;have k9:RL aY [vI 1,vI 0,z0,vI 0,vT ([]),z0,z0] ([(zF.mk 1 0 (zA.mk ([]:List Int) 0) (zJ.mk (⟨[]⟩:Str) ([]:List zA)) ([]:List zF))]:List zF):=⟨[vI 1,vI 0,z0,vI 0,vT ([]),z0,z0],_,rfl,rfl,(xS ⟨_,_,_,rfl,(SL.nil _),(SL.nil _),(SL.nil _)⟩),rfl⟩;obtain⟨l1,eo,N⟩:=zB N;refine mD 53 7 4 rfl rfl rfl h8 (.inr ⟨0,rfl⟩) k9 eo ?_;intro km jy ky sq;exact qM (zX [1,2,3,4,5] (ah:=[hB ap (cRd y3 p9 c9),hB b2 (cStmt y p5 c5 p6 c6 p7 c7 p8 c8),hO zA (vS p5 y.Write.Subs c5) cs,hO zF (vS km l1 jy) ky,hB b1 [vT ([]),z0,vI 0,vI 0,z0,vI 0,vT ([]),z0,z0]]))<|zZ 8 [] [51] rfl<|yZ 1 [vT y.Write.Array.l,vS p5 y.Write.Subs c5,vI y.Value.Kind,vI y.Value.Num,vS p6 y.Value.Index.Coefs c6,vI y.Value.Index.Const,vT y.Value.Read.Array.l,vS p7 y.Value.Read.Subs c7,vS km l1 jy] rfl<|zW rfl<|yP<|zQ ⟨_,_,_,_,(zC N).symm,H,sq,rfl,rfl⟩
      intro cO N;exact zR<|yP<|zQ ⟨_,_,_,_,(zC N).symm,H,h8,rfl,rfl⟩
     rintro mq au m2 ⟨di,lO,kw,dl,ec,ib,mu,rfl,rfl⟩;subst lN;have ⟨bB,H⟩:=m2 ib bB H;exact yP<|zQ ⟨_,_,_,_,_,_,_,_,(zC ia).symm,H,mu,bB,rfl,rfl⟩
    rintro kv au m2 ⟨gh,dh,x3,mj,lz,fc,lq,lu,ca,ic,ov,gc,rfl,rfl⟩;subst fw;have H:=H.trans ic;exact yP<|zQ ⟨_,_,_,_,_,_,_,_,_,(zC ff).symm,H,ov,gc,rfl,rfl⟩
   rintro fq au m2 ⟨e9,gg,dg,x2,eu,c20,fe,ga,c21,jo,gw,jn,gt,rfl,rfl⟩;subst dd;have ⟨h5,H⟩:=m2 gw h5 H;exact yP<|zQ ⟨_,_,_,_,_,_,_,_,_,_,_,_,_,(zC d6).symm,H,h5,jn,gt,rfl,rfl⟩
  rintro gk au m2 ⟨dk,e7,gf,df,x1,de,cW,cC,du,im,cP,iP,fb,lI,iC,dm,jz,j3,rfl,rfl⟩;subst aS;have H:=H.trans iC;exact yP<|zQ ⟨_,_,_,_,_,_,_,_,_,_,_,_,_,_,(zC bK).symm,H,dm,jz,j3,rfl,rfl⟩
 rintro bP au m2 ⟨dj,cS,ei,fa,cR,x,bH,bG,bv,bd,bj,bf,ce,bx,ry,iO,bW,cy,bV,rfl,rfl⟩;subst o0;have ⟨h6,h7⟩:=m2 iO h6 h7;refine zO<|yV<|qO 1 [1] [(52,vA [vT dj.l,vS bH cS bG,vI ei,vI fa,vS p6 y.Value.Index.Coefs c6,vI y.Value.Index.Const,vT y.Value.Read.Array.l,vS p7 y.Value.Read.Subs c7,vS bd cR bj])]<|yZ 4 [vT dj.l,vS bH cS bG,vI ei,vI fa,vS p6 y.Value.Index.Coefs c6,vI y.Value.Index.Const,vT y.Value.Read.Array.l,vS p7 y.Value.Read.Subs c7,vS bd cR bj] rfl<|zW rfl<|xH<|xT 2 rfl ?_;intro o8 jc pq;have pd:=SL.of_frozen pq jc bW;have ⟨bV,h6,h7,cy⟩:=m4 jc bV h6 h7 cy;refine xT 2 rfl ?_;intro tb mc rz;have w6:=SL.of_frozen rz mc cy;have ⟨bV,pd,h6,h7⟩:=m4 mc bV pd h6 h7;exact wD aO (resC 2 rfl rfl) (zV [0] rfl (by decide)) ⟨_,_,rfl,rfl,⟨_,rfl,(wO ⟨_,_,_,_,rfl,pd,h6,h7,w6⟩)⟩,(xE ⟨_,rfl,bV⟩)⟩
def zAH(b0:Nat)(r:zH×zP):KT:=λkk I' ah v=>
 ∃v0 k0,ah=[.blk b0 ⟨k0⟩]/\v=tupV [v0]/\(∃cs,v0=.agg ⟨cs⟩/\Rp.rep I' cs r.1)/\Rp.rep I' k0 r.2
def mH(r0:zP)(p1:zH):Option (zH×zP):=do
 let y<-nI p1;let (y2,y3)<-xF r0 60;let (Arrays,Parts,x)<-(do
  if(y2==0) then
   let (y5,y6)<-mG y3 ([(⟨[65]⟩:Str),(⟨[68]⟩:Str),(⟨[69]⟩:Str)]:List Str);let (y8,y9)<-xL y6 ([7,0,3,(-1)]:List Int);let l<-app 40 y.Arrays ([(zE.mk y5 ([y8]:List Int))]:List zE);pure (l,y.Parts,y9)
  else
   let (az,aX,x1)<-(do
    if(y2==1) then
     let (gq,x2)<-(do
      if(decide ((y.Arrays.length:Int)>0)) then
       let (fm,ef)<-xL y3 ([1,2,7]:List Int);let x3<-idx y.Arrays 0;let l1<-pure (y.Arrays.set (0:Int).toNat (zE.mk x3.Name ([fm]:List Int)));pure (l1,ef)
      else
       pure (y.Arrays,y3)
        : Option (List zE×zP))
     pure (gq,y.Parts,x2)
    else
     let (iX,x4)<-(do
      if(y2==2) then
       let (iY,x5)<-(do
        if(decide ((y.Parts.length:Int)>0)) then
         let x6<-idx y.Parts 0;let (y14,je)<-jC y3 x6.Nest;let (lx,jw)<-jC je y14;let (jh,qf)<-jC jw lx;let x7<-idx y.Parts 0;let l2<-pure (y.Parts.set (0:Int).toNat (zL.mk jh x7.Body));pure (l2,qf)
        else
         pure (y.Parts,y3)
          : Option (List zL×zP))
       pure (iY,x5)
      else
       let (iZ,x8)<-(do
        if(y2==3) then
         let t76<-(do
          if(decide ((y.Parts.length:Int)>0)) then
           let x9<-idx y.Parts (W ((y.Parts.length:Int) - 1));pure (decide ((x9.Body.length:Int)>0))
          else
           pure false
            : Option Bool)
         let (i6,x10)<-(do
          if t76 then
           let x11<-idx y.Parts (W ((y.Parts.length:Int) - 1));let x12<-idx x11.Body 0;let (nn,me)<-pC y3 x12;let (qg,uv)<-pC me nn;let (fo,ko)<-pC uv qg;let l3<-pure ((y.Parts).set (W ((y.Parts.length:Int) - 1)).toNat (zL.mk x11.Nest (x11.Body.set 0 fo)));pure (l3,ko)
          else
           pure (y.Parts,y3)
            : Option (List zL×zP))
         pure (i6,x10)
        else
         let i7<-(do
          if(y2==4) then
           let i8<-(do
            if(decide ((y.Parts.length:Int)>0)) then
             let x13<-idx y.Parts (W ((y.Parts.length:Int) - 1));let l4<-pure (y.Parts.set (W ((y.Parts.length:Int) - 1)).toNat (zL.mk x13.Nest ([]:List zI)));pure (id l4)
            else
             pure y.Parts
              : Option (List zL))
           pure (id i8)
          else
           pure y.Parts
            : Option (List zL))
         pure (i7,y3)
          : Option (List zL×zP))
       pure (iZ,x8)
        : Option (List zL×zP))
     pure (y.Arrays,iX,x4)
      : Option (List zE×List zL×zP))
   pure (az,aX,x1)
    : Option (List zE×List zL×zP))
 pure ((zH.mk Arrays Parts),x)
theorem zFj:∀(r0:zP) (p1:zH) r,mH r0 p1=some r->∀{I:Imm}{ap}{p c p2 c1 p3 c2},(S4 I p r0.b c)->(S4 I p2 p1.Arrays c1)->(S4 I p3 p1.Parts c2)->(∀(y:zH) (y2:Int) (y3:zP) (x:zL) (s:zI),nI p1=some y->xF r0 60=some (y2,y3)->(y2==3)=true->idx y.Parts (W ((y.Parts.length:Int) - 1))=some x->idx x.Body 0=some s->False)->RT 69 [vP ap 0,vA (cProg p1 p2 c1 p3 c2)] I [hB ap (cRd r0 p c)] (zAH ap r):=by
 intro r0 p1 r N I ap p c p2 c1 p3 c2 h h1 h2 cT;unfold mH at N;refine yK func69 λB=>?_;have H:=iS I;refine yB<|sF (cProg p1 p2 c1 p3 c2) ?_;intro b hb;refine wT zTwo ?_;intro b1 cp;refine zW rfl<|yV<|qO 1 [1] [(7,vA (cProg p1 p2 c1 p3 c2))]<|bE N λy hy N=>xG (zIN p1 _ hy h1 h2) ?_;rintro I0 au v2 k2 le - ⟨p4,c3,cs,p5,c4,aA,rfl,rfl,h3,h4⟩ -;have ⟨h,H⟩:=m2 le h H;refine wT zTwo ?_;intro b2 fl;refine yZ 0 (cProg y p4 c3 p5 c4) rfl<|zW rfl<|yV<|yI [0] [6] rfl<|zY<|yB<|zZ 1 [] [12] rfl<|qM (zX [5,0,1,2,3,4] (ah:=[hB ap (cRd r0 p c),hB b2 (cProg y p4 c3 p5 c4),hO zE (vS p4 y.Arrays c3) cs,hO zL (vS p5 y.Parts c4) aA,hB b1 zTwo,hB b (cProg p1 p2 c1 p3 c2)])) ?_;obtain⟨⟨y2,y3⟩,ay,N⟩:=zB N;refine tU (xX r0 60 _ ay h) rfl ?_;rintro aT au v2 k2 ae - ⟨v0,kk,rfl,rfl,rfl,h6⟩ -;have ⟨h3,h4,H⟩:=m3 ae h3 h4 H;obtain⟨p6,c5,rfl,h7⟩:=yD h6;refine zW rfl<|vC<|yG [14] rfl<|zK<|oD 5 rfl ?_;intro aY aJ cH;have av:At aY ⟨b,0,none⟩ (cProg p1 p2 c1 p3 c2):=At.of_blk cH;have ⟨h7,h3,h4,H⟩:=m4 aJ h7 h3 h4 H;obtain⟨o0,aC,aO⟩:=zB N;refine rR (λI' ah m'=>∃(Arrays:List zE) (Parts:List zL) (x:zP) (p7:Option Addr) (c6:Nat) (bv:List Value) (p8:Option Addr) (c7:Nat) (bf:List Value) (p9:Option Addr) (c8:Nat),o0=(Arrays,Parts,x)/\aY.le I'/\(RL I' bv Arrays)/\(RL I' bf Parts)/\(S4 I' p9 x.b c8)/\ah=[hB ap (cRd x p9 c8),hB b2 [vS p7 Arrays c6,vS p8 Parts c7],hO zE (vS p7 Arrays c6) bv,hO zL (vS p8 Parts c7) bf,hB b1 zTwo]/\m'=[(4,vP b1 0),(5,vP b2 0)]) ?_ ?_
 ·have H:=iS aY;refine yC aC ?_ ?_
  ·intro hc N;obtain⟨⟨y5,y6⟩,aK,N⟩:=zB N;obtain⟨⟨y8,y9⟩,bc,N⟩:=zB N;obtain⟨l,bL,N⟩:=zB N;refine vK [.p (vP b2 0) [],.p (vS p4 y.Arrays c3) [0],.p (vP ap 0) [],.x (λI' v hx=>∃b3,v=vS (some ⟨b3,0,none⟩) ([(⟨[65]⟩:Str),(⟨[68]⟩:Str),(⟨[69]⟩:Str)]:List Str) 3/\hx=[]/\(SL I' (vS (some ⟨b3,0,none⟩) ([(⟨[65]⟩:Str),(⟨[68]⟩:Str),(⟨[69]⟩:Str)]:List Str) 3) ([(⟨[65]⟩:Str),(⟨[68]⟩:Str),(⟨[69]⟩:Str)]:List Str))),.x (λI' v hx=>∃bH c9,v=vT y5.l/\hx=[hB ap (cRd y6 bH c9)]/\(S4 I' bH y6.b c9)),.p (vP ap 0) [],.x (λI' v hx=>∃b4,v=vS (some ⟨b4,0,none⟩) ([7,0,3,(-1)]:List Int) 4/\hx=[]/\(SL I' (vS (some ⟨b4,0,none⟩) ([7,0,3,(-1)]:List Int) 4) ([7,0,3,(-1)]:List Int))),.x (λI' v hx=>∃bd bG,v=vI y8/\hx=[hB ap (cRd y9 bd bG)]/\(S4 I' bd y9.b bG)),.x (λI' v hx=>∃b5,v=vS (some ⟨b5,0,none⟩) ([y8]:List Int) 1/\hx=[]/\(SL I' (vS (some ⟨b5,0,none⟩) ([y8]:List Int) 1) ([y8]:List Int))),.x (λI' v hx=>∃b51,v=vA [vT y5.l,vS (some ⟨b51,0,none⟩) ([y8]:List Int) 1]/\hx=[]/\(SL I' (vS (some ⟨b51,0,none⟩) ([y8]:List Int) 1) ([y8]:List Int))),.x (λI' v hx=>∃b6,v=vS (some ⟨b6,0,none⟩) ([(zE.mk y5 ([y8]:List Int))]:List zE) 1/\hx=[]/\(SL I' (vS (some ⟨b6,0,none⟩) ([(zE.mk y5 ([y8]:List Int))]:List zE) 1) ([(zE.mk y5 ([y8]:List Int))]:List zE))),.x (λI' v hx=>∃ce bj cC,v=vS ce l bj/\hx=[hO zE (vS ce l bj) cC]/\(RL I' cC l))] [[],[(0,F9)],[],[],[(2,F9),(3,F9),(14,true)],[],[],[(5,F9),(6,F9),(4,true)],[(7,F9)],[(4,F9),(8,F9)],[(9,F9)],[(1,F9),(10,F9),(15,true)]] [hB b2 (cProg y p4 c3 p5 c4),hO zL (vS p5 y.Parts c4) aA,hB b1 zTwo] [[hB ap (cRd y3 p6 c5)],[hO zE (vS p4 y.Arrays c3) cs]] [(7,true),(11,true)] (zX [1,3,4,0,2]) ?_ ?_
   ·refine O3<|Ox ?_<|Ox ?_<|Op<|Ox ?_<|Ox ?_<|Ox ?_<|Ox ?_<|Ox ?_<|Ox ?_<|On
    ·intro I1 hf ae;refine I_h [] ?_;have H:=iS I1;refine jW (rT [(⟨[65]⟩:Str),(⟨[68]⟩:Str),(⟨[69]⟩:Str)]) ?_;intro b3 cI aL bW;have H:=H.trans aL;exact xC [] H ⟨_,rfl,rfl,bW⟩
    ·rintro I1 hf ae _ _ ⟨rfl,rfl⟩ _ _ ⟨b3,rfl,rfl,bW⟩ _ _ rfl;refine yW [18,19] rfl ?_;have H:=iS I1;have h7:=h7.mono ae;refine tU (dK y3 ([(⟨[65]⟩:Str),(⟨[68]⟩:Str),(⟨[69]⟩:Str)]:List Str) _ aK h7 bW) rfl ?_;rintro dw au v2 k2 bb - ⟨ig,oe,rfl,rfl,rfl,bV⟩ -;have H:=H.trans bb;obtain⟨bH,c9,rfl,co⟩:=yD bV;exact xC [hB ap (cRd y6 bH c9)] H ⟨_,_,rfl,rfl,co⟩
    ·intro I1 hf ae;refine I_h [] ?_;have H:=iS I1;refine jW (rI [7,0,3,(-1)]) ?_;intro b4 gk bI cm;have H:=H.trans bI;exact xC [] H ⟨_,rfl,rfl,cm⟩
    ·rintro I1 hf ae _ _ ⟨rfl,rfl⟩ _ _ ⟨b4,rfl,rfl,cm⟩ _ _ ⟨bH,c9,rfl,rfl,co⟩;refine yW [21,22] rfl ?_;have H:=iS I1;refine tU (wE y6 ([7,0,3,(-1)]:List Int) _ bc co cm) rfl ?_;rintro ij au v2 k2 bJ - ⟨ee,oy,rfl,rfl,rfl,d9⟩ -;have H:=H.trans bJ;obtain⟨bd,bG,rfl,dm⟩:=yD d9;exact xC [hB ap (cRd y9 bd bG)] H ⟨_,_,rfl,rfl,dm⟩
    ·rintro I1 hf ae _ _ ⟨bd,bG,rfl,rfl,dm⟩;refine yW [23] rfl ?_;have H:=iS I1;refine jW (rI [y8]) ?_;intro b5 iE bZ j3;have H:=H.trans bZ;exact xC [] H ⟨_,rfl,rfl,j3⟩
    ·rintro I1 hf ae _ _ ⟨bH,c9,rfl,rfl,co⟩ _ _ ⟨b5,rfl,rfl,j3⟩;exact yW [20,24] rfl<|pQ 10 [(25,vA [vT y5.l,vS (some ⟨b5,0,none⟩) ([y8]:List Int) 1])]<|xC [] iR ⟨_,rfl,rfl,j3⟩
    ·rintro I1 hf ae _ _ ⟨b51,rfl,rfl,h221⟩;refine yW [25] rfl ?_;have H:=iS I1;refine jW (rc (zE.mk y5 ([y8]:List Int)) (sL ⟨_,rfl,h221⟩) rN) ?_;intro b6 jx dt iu;have H:=H.trans dt;exact xC [] H ⟨_,rfl,rfl,iu⟩
    rintro I1 hf ae _ _ ⟨rfl,rfl⟩ _ _ ⟨b6,rfl,rfl,iu⟩ _ _ rfl;refine yW [17,26] rfl ?_;have h3:=iM ae h3;obtain⟨aR,k0,cE⟩:=iu;have iu:SL I1 (vS (some ⟨b6,0,none⟩) ([(zE.mk y5 ([y8]:List Int))]:List zE) 1) ([(zE.mk y5 ([y8]:List Int))]:List zE):=⟨_,k0,cE⟩;exact mD 66 2 0 rfl rfl rfl h3 (.inl k0) cE bL λce bj cC hV=>uT (ah:=(hO zE (vS ce l bj) cC::hB b2 (cProg y p4 c3 p5 c4)::hO zL (vS p5 y.Parts c4) aA::hB b1 zTwo::hf)) rfl<|xC [hO zE (vS ce l bj) cC] iR ⟨_,_,_,rfl,rfl,hV⟩
   rintro eg bS _ _ ⟨bd,bG,rfl,rfl,dm⟩ _ _ ⟨ce,bj,cC,rfl,rfl,hV⟩;refine yW [4,5,27] rfl ?_;have ⟨h4,H⟩:=m2 bS h4 H;exact zZ 13 [] [28] rfl<|yZ 2 [vS ce l bj,vS p5 y.Parts c4] rfl<|zW rfl<|wI (zV [1,2,0,3,4] rfl (by decide))<|yP<|zQ ⟨_,_,_,_,_,_,_,_,_,_,_,(zC N).symm,H,hV,h4,dm,rfl,rfl⟩
  intro hc N;refine yG [29] rfl<|zK ?_;obtain⟨aS,aE,bK⟩:=zB N;refine rR (λI' ah m'=>∃(az:List zE) (aX:List zL) (x1:zP) (br:Option Addr) (bx:Nat) (cP:List Value) (de:Option Addr) (bM:Nat) (gb:List Value) (du:Option Addr) (cW:Nat),aS=(az,aX,x1)/\aY.le I'/\(RL I' cP az)/\(RL I' gb aX)/\(S4 I' du x1.b cW)/\ah=[hB ap (cRd x1 du cW),hB b2 [vS br az bx,vS de aX bM],hO zE (vS br az bx) cP,hO zL (vS de aX bM) gb,hB b1 zTwo]/\m'=[(4,vP b1 0),(5,vP b2 0)]) ?_ ?_
  ·have H:=iS aY;refine yC aE ?_ ?_
   ·intro aI N;refine yB<|yI [1] [34] rfl<|zK ?_;obtain⟨dd,bh,d6⟩:=zB N;refine rR (λI' ah m'=>∃(gq:List zE) (x2:zP) (iP:Option Addr) (im:Nat) (d5:List Value) (ey:Option Addr) (fb:Nat),dd=(gq,x2)/\aY.le I'/\(RL I' d5 gq)/\(S4 I' ey x2.b fb)/\ah=[hB ap (cRd x2 ey fb),hB b2 [vS iP gq im,vS p5 y.Parts c4],hO zE (vS iP gq im) d5,hO zL (vS p5 y.Parts c4) aA,hB b1 zTwo]/\m'=[(4,vP b1 0),(5,vP b2 0)]) ?_ ?_
    ·have H:=iS aY;refine yC bh ?_ ?_
     ·intro aU N;obtain⟨⟨fm,ef⟩,bX,N⟩:=zB N;refine vK [.p (vP b2 0) [],.p (vS p4 y.Arrays c3) [0],.p (vP ap 0) [],.x (λI' v hx=>∃b7,v=vS (some ⟨b7,0,none⟩) ([1,2,7]:List Int) 3/\hx=[]/\(SL I' (vS (some ⟨b7,0,none⟩) ([1,2,7]:List Int) 3) ([1,2,7]:List Int))),.x (λI' v hx=>∃cL ep,v=vI fm/\hx=[hB ap (cRd ef cL ep)]/\(S4 I' cL ef.b ep)),.x (λI' v hx=>∃b8,v=vS (some ⟨b8,0,none⟩) ([fm]:List Int) 1/\hx=[]/\(SL I' (vS (some ⟨b8,0,none⟩) ([fm]:List Int) 1) ([fm]:List Int)))] [[],[(0,F9)],[],[],[(2,F9),(3,F9),(9,true)],[(4,F9)]] [hB b2 (cProg y p4 c3 p5 c4),hO zE (vS p4 y.Arrays c3) cs,hO zL (vS p5 y.Parts c4) aA,hB b1 zTwo] [[hB ap (cRd y3 p6 c5)]] [(1,F9),(4,true),(5,F9)] (zX [1,2,3,4,0]) ?_ ?_
      ·refine O3<|Ox ?_<|Ox ?_<|Ox ?_<|On
       ·intro I1 hf ae;refine I_h [] ?_;have H:=iS I1;refine jW (rI [1,2,7]) ?_;intro b7 ku cb k8;have H:=H.trans cb;exact xC [] H ⟨_,rfl,rfl,k8⟩
       ·rintro I1 hf ae _ _ ⟨rfl,rfl⟩ _ _ ⟨b7,rfl,rfl,k8⟩ _ _ rfl;refine yW [37,38] rfl ?_;have H:=iS I1;have h7:=h7.mono ae;refine tU (wE y3 ([1,2,7]:List Int) _ bX h7 k8) rfl ?_;rintro mm au v2 k2 cA - ⟨q8,kk3,rfl,rfl,rfl,mh⟩ -;have H:=H.trans cA;obtain⟨cL,ep,rfl,lT⟩:=yD mh;exact xC [hB ap (cRd ef cL ep)] H ⟨_,_,rfl,rfl,lT⟩
       rintro I1 hf ae _ _ ⟨cL,ep,rfl,rfl,lT⟩;refine yW [39] rfl ?_;have H:=iS I1;refine jW (rI [fm]) ?_;intro b8 kv d7 ov;have H:=H.trans d7;exact xC [] H ⟨_,rfl,rfl,ov⟩
      rintro lZ fu _ _ ⟨rfl,rfl⟩ _ _ ⟨cL,ep,rfl,rfl,lT⟩ _ _ ⟨b8,rfl,rfl,ov⟩;refine yW [4,5,36,40] rfl ?_;have ⟨h3,H⟩:=m2 fu h3 H;obtain⟨x3,cx,N⟩:=zB N;refine kV 2 rfl rfl rfl h3 cx ?_;intro ad bN aw cQ al;obtain⟨dv,da,rfl,gc⟩:=wN al;refine zZ 8 [] [42] rfl ?_;obtain⟨l1,cV,N⟩:=zB N;refine zOJ (c:=[vT x3.Name.l,vS (some ⟨b8,0,none⟩) ([fm]:List Int) 1]) 2 1 aw cQ h3 cx cV (sL ⟨_,rfl,ov⟩) ?_;intro iG j9 rz;exact zBT (m':=[(4,vP b1 0),(5,vP b2 0),(40,vS (some ⟨b8,0,none⟩) ([fm]:List Int) 1)]) ⟨rfl,rfl,rfl,trivial⟩<|zKE (ah:=[hB ap (cRd ef cL ep),hB b2 [vS p4 l1 c3,vS p5 y.Parts c4],hO zE (vS p4 l1 c3) iG,hO zL (vS p5 y.Parts c4) aA,hB b1 zTwo]) (m':=[(4,vP b1 0),(5,vP b2 0),(40,vS (some ⟨b8,0,none⟩) ([fm]:List Int) 1)]) (by first|rfl|simp only[vS,rz,yy,ze,Be,AQ,AX,AY]) (by first|rfl|simp only[vS,rz])<|zW rfl<|yP<|zQ ⟨_,_,_,_,_,_,_,(zC N).symm,H,j9,lT,rfl,rfl⟩
     intro aU N;exact zR<|yP<|zQ ⟨_,_,_,_,_,_,_,(zC N).symm,H,h3,h7,rfl,rfl⟩
    rintro fq au m2 ⟨gq,x2,iP,im,d5,ey,fb,ec,ib,j4,jn,rfl,rfl⟩;subst dd;have ⟨h4,H⟩:=m2 ib h4 H;exact yP<|zQ ⟨_,_,_,_,_,_,_,_,_,_,_,(zC d6).symm,H,j4,h4,jn,rfl,rfl⟩
   intro aI N;refine yG [43] rfl<|zK ?_;obtain⟨fw,cu,ff⟩:=zB N;refine rR (λI' ah m'=>∃(iX:List zL) (x4:zP) (eu:Option Addr) (ej:Nat) (fe:List Value) (ga:Option Addr) (c20:Nat),fw=(iX,x4)/\aY.le I'/\(RL I' fe iX)/\(S4 I' ga x4.b c20)/\ah=[hB ap (cRd x4 ga c20),hB b2 [vS p4 y.Arrays c3,vS eu iX ej],hO zE (vS p4 y.Arrays c3) cs,hO zL (vS eu iX ej) fe,hB b1 zTwo]/\m'=[(4,vP b1 0),(5,vP b2 0)]) ?_ ?_
   ·have H:=iS aY;refine yC cu ?_ ?_
    ·intro bU N;refine yG [46] rfl<|zK ?_;obtain⟨lN,gv,ia⟩:=zB N;refine rR (λI' ah m'=>∃(iY:List zL) (x5:zP) (md:Option Addr) (c21:Nat) (fc:List Value) (mj:Option Addr) (mr:Nat),lN=(iY,x5)/\aY.le I'/\(RL I' fc iY)/\(S4 I' mj x5.b mr)/\ah=[hB ap (cRd x5 mj mr),hB b2 [vS p4 y.Arrays c3,vS md iY c21],hO zE (vS p4 y.Arrays c3) cs,hO zL (vS md iY c21) fc,hB b1 zTwo]/\m'=[(4,vP b1 0),(5,vP b2 0)]) ?_ ?_
     ·have H:=iS aY;refine yC gv ?_ ?_
      ·intro cO N;obtain⟨x6,eo,N⟩:=zB N;obtain⟨⟨y14,je⟩,gi,N⟩:=zB N;obtain⟨⟨lx,jw⟩,cU,N⟩:=zB N;obtain⟨⟨jh,qf⟩,dr,N⟩:=zB N;refine vK [.p (vP b2 1) [],.p (vS p5 y.Parts c4) [0],.p (vP ap 0) [],.p (vP ap 0) [],.p (vP ap 0) [],.p (vP b2 1) [],.p (vS p5 y.Parts c4) [0],.x (λI' v hx=>∃cD lq lz oz lu,v=.pointer (some cD)/\hx=[]/\(AtO (vS p5 y.Parts c4) (Rp.sz zL) (0:Int).toNat cD)/\((aA.drop ((0:Int).toNat*Rp.sz zL)).take (Rp.sz zL)=(cPart x6 lq lz oz lu))/\(S4 I' lq x6.Nest lz)/\(S4 I' oz x6.Body lu)),.x (λI' v hx=>∃rh um tg p251 c241,v=.pointer (some rh)/\hx=[]/\(AtO (vS p5 y.Parts c4) (Rp.sz zL) (0:Int).toNat rh)/\((aA.drop ((0:Int).toNat*Rp.sz zL)).take (Rp.sz zL)=(cPart x6 um tg p251 c241))/\(S4 I' um x6.Nest tg)/\(S4 I' p251 x6.Body c241)),.x (eS x6.Nest),.x (λI' v hx=>∃lO ot km kw,v=vS lO y14 ot/\hx=[hB ap (cRd je km kw)]/\(S4 I' lO y14 ot)/\(S4 I' km je.b kw)),.x (λI' v hx=>∃lw jy lr lB,v=vS lw lx jy/\hx=[hB ap (cRd jw lr lB)]/\(S4 I' lw lx jy)/\(S4 I' lr jw.b lB)),.x (λI' v hx=>∃vg l6 kn vo,v=vS vg jh l6/\hx=[hB ap (cRd qf kn vo)]/\(S4 I' vg jh l6)/\(S4 I' kn qf.b vo))] [[],[(0,F9)],[],[],[],[],[(5,F9)],[(6,F9)],[(7,F9)],[(8,F9)],[(4,F9),(9,F9),(16,true)],[(3,F9),(10,true)],[(2,F9),(11,true)]] [hB b2 (cProg y p4 c3 p5 c4),hO zE (vS p4 y.Arrays c3) cs,hO zL (vS p5 y.Parts c4) aA,hB b1 zTwo] [[hB ap (cRd y3 p6 c5)]] [(1,F9),(12,true)] (zX [1,2,3,4,0]) ?_ ?_
       ·refine O4<|O3<|Ox ?_<|Ox ?_<|Ox ?_<|Ox ?_<|Ox ?_<|Ox ?_<|On
        ·intro I1 hf ae;refine yW [53] rfl ?_;have h4:=iM ae h4;refine kV 2 rfl rfl rfl h4 eo ?_;intro cD gn cd mw ax;obtain⟨lq,lz,oz,lu,rfl,mu,k9⟩:=uK ax;exact xC [] iR ⟨_,_,_,_,_,rfl,rfl,cd,mw,mu,k9⟩
        ·rintro I1 hf ae _ _ ⟨cD,lq,lz,oz,lu,rfl,rfl,cd,mw,mu,k9⟩;exact yW [54] rfl<|pQ 9 [(55,.pointer (some cD))]<|xC [] iR ⟨_,_,_,_,_,rfl,rfl,cd,mw,mu,k9⟩
        ·rintro I1 hf ae _ _ ⟨rh,um,tg,p251,c241,rfl,rfl,ny,hcc11,h441,h451⟩;exact yW [55] rfl<|zDK 2 0 ny hcc11 [vS um x6.Nest tg] (vS um x6.Nest tg) rfl rfl<|xC [] iR ⟨_,_,rfl,rfl,h441⟩
        ·rintro I1 hf ae _ _ ⟨rfl,rfl⟩ _ _ ⟨p2411,c2311,rfl,rfl,h4411⟩ _ _ rfl;refine yW [51,56] rfl ?_;have H:=iS I1;have h7:=h7.mono ae;refine tU (zAd y3 x6.Nest _ gi h7 h4411) rfl ?_;rintro o8 au v2 k2 ic - ⟨v011,kk4,rfl,rfl,sq,pd⟩ -;have H:=H.trans ic;obtain⟨lO,ot,rfl⟩:=sq.form;obtain⟨km,kw,rfl,w6⟩:=yD pd;exact xC [hB ap (cRd je km kw)] H ⟨_,_,_,_,rfl,rfl,sq,w6⟩
        ·rintro I1 hf ae _ _ ⟨rfl,rfl⟩ _ _ ⟨lO,ot,km,kw,rfl,rfl,sq,w6⟩;refine yW [50,57] rfl ?_;have H:=iS I1;refine tU (zAd je y14 _ cU w6 sq) rfl ?_;rintro tb au v2 k2 gw - ⟨qe,kk5,rfl,rfl,w7,tp⟩ -;have H:=H.trans gw;obtain⟨lw,jy,rfl⟩:=w7.form;obtain⟨lr,lB,rfl,gu⟩:=yD tp;exact xC [hB ap (cRd jw lr lB)] H ⟨_,_,_,_,rfl,rfl,w7,gu⟩
        rintro I1 hf ae _ _ ⟨rfl,rfl⟩ _ _ ⟨lw,jy,lr,lB,rfl,rfl,w7,gu⟩;refine yW [49,58] rfl ?_;have H:=iS I1;refine tU (zAd jw lx _ dr gu w7) rfl ?_;rintro rf au v2 k2 iC - ⟨uu,kk6,rfl,rfl,w8,h53⟩ -;have H:=H.trans iC;obtain⟨vg,l6,rfl⟩:=w8.form;obtain⟨kn,vo,rfl,w9⟩:=yD h53;exact xC [hB ap (cRd qf kn vo)] H ⟨_,_,_,_,rfl,rfl,w8,w9⟩
       rintro I022 iO _ _ ⟨rfl,rfl⟩ _ _ ⟨vg,l6,kn,vo,rfl,rfl,w8,w9⟩;refine yW [4,5,48,59] rfl ?_;have ⟨h4,H⟩:=m2 iO h4 H;obtain⟨x7,en,N⟩:=zB N;refine kV 3 rfl rfl rfl h4 en ?_;intro jm kx ek hcc2 bO;obtain⟨p32,l8,p33,c32,rfl,h55,h56⟩:=uK bO;refine zZ 15 [] [61] rfl ?_;obtain⟨l2,iA,N⟩:=zB N;refine zOJ (c:=[vS vg jh l6,vS p33 x7.Body c32]) 3 0 ek hcc2 h4 en iA (rS ⟨_,_,rfl,w8,h56⟩) ?_;intro dl h57 vt;exact zBT (m':=[(4,vP b1 0),(5,vP b2 0),(59,vS vg jh l6)]) ⟨rfl,rfl,rfl,trivial⟩<|zKE (ah:=[hB ap (cRd qf kn vo),hB b2 [vS p4 y.Arrays c3,vS p5 l2 c4],hO zE (vS p4 y.Arrays c3) cs,hO zL (vS p5 l2 c4) dl,hB b1 zTwo]) (m':=[(4,vP b1 0),(5,vP b2 0),(59,vS vg jh l6)]) (by first|rfl|simp only[vS,vt,yy,ze,Be,AQ,AX,AY]) (by first|rfl|simp only[vS,vt])<|zW rfl<|yP<|zQ ⟨_,_,_,_,_,_,_,(zC N).symm,H,h57,w9,rfl,rfl⟩
      intro cO N;exact zR<|yP<|zQ ⟨_,_,_,_,_,_,_,(zC N).symm,H,h4,h7,rfl,rfl⟩
     rintro mq au m2 ⟨iY,x5,md,c21,fc,mj,mr,ca,jc,lU,rq,rfl,rfl⟩;subst lN;have H:=H.trans jc;exact yP<|zQ ⟨_,_,_,_,_,_,_,(zC ia).symm,H,lU,rq,rfl,rfl⟩
    intro bU N;refine yG [62] rfl<|zK ?_;obtain⟨vf,kf,pg⟩:=zB N;refine rR (λI' ah m'=>∃(iZ:List zL) (x8:zP) (p34:Option Addr) (c33:Nat) (ky:List Value) (p35:Option Addr) (c34:Nat),vf=(iZ,x8)/\aY.le I'/\(RL I' ky iZ)/\(S4 I' p35 x8.b c34)/\ah=[hB ap (cRd x8 p35 c34),hB b2 [vS p4 y.Arrays c3,vS p34 iZ c33],hO zE (vS p4 y.Arrays c3) cs,hO zL (vS p34 iZ c33) ky,hB b1 zTwo]/\m'=[(4,vP b1 0),(5,vP b2 0)]) ?_ ?_
    ·have H:=iS aY;refine yC kf ?_ ?_
     ·intro ft N;refine yA ?_;refine wZ N [hB ap (cRd y3 p6 c5),hB b2 (cProg y p4 c3 p5 c4),hO zE (vS p4 y.Arrays c3) cs,hO zL (vS p5 y.Parts c4) aA,hB b1 zTwo] (λt76=>[(0,vP ap 0),(4,vP b1 0),(5,vP b2 0),(6,vI (y.Parts.length:Int)),(76,.bool t76)]) (λo06 ud=>?_) ?_
      ·have H:=iS aY;refine zM<|zZ 3 [] [66] rfl<|xW [66] ud ?_ ?_
       ·intro iU N;refine zZ 7 [1] [68,70] rfl<|bE N λx9 jt N=>kV 3 rfl rfl rfl h4 jt ?_;intro ri nu lG hcc3 cJ;obtain⟨p36,c35,p37,c36,rfl,h60,uz⟩:=uK cJ;exact zZ 9 [] [72] rfl<|zDK 3 1 lG hcc3 [vS p37 x9.Body c36] (vS p37 x9.Body c36) rfl rfl<|yI [] [76] rfl<|yP<|zQ (ct N H)
       intro iU N;exact wP [] [(76,vF)]<|yP<|zQ (ct N H)
      intro t76 rg mc ru;have ⟨h7,h4,H⟩:=m3 mc h7 h4 H;refine zK ?_;obtain⟨o07,ho07,hMc7⟩:=zB ru;refine rR (λI' ah m'=>∃(i6:List zL) (x10:zP) (p38:Option Addr) (c37:Nat) (cs13:List Value) (p39:Option Addr) (c38:Nat),o07=(i6,x10)/\rg.le I'/\(RL I' cs13 i6)/\(S4 I' p39 x10.b c38)/\ah=[hB ap (cRd x10 p39 c38),hB b2 [vS p4 y.Arrays c3,vS p38 i6 c37],hO zE (vS p4 y.Arrays c3) cs,hO zL (vS p38 i6 c37) cs13,hB b1 zTwo]/\m'=[(4,vP b1 0),(5,vP b2 0)]) ?_ ?_
      ·have H:=iS rg;refine yC ho07 ?_ ?_
       ·intro kq N;obtain⟨x11,lK,N⟩:=zB N;obtain⟨x12,qa,N⟩:=zB N;obtain⟨⟨nn,me⟩,r9,N⟩:=zB N;obtain⟨⟨qg,uv⟩,hy18,N⟩:=zB N;obtain⟨⟨fo,ko⟩,hy19,N⟩:=zB N;obtain⟨l3,hy20,N⟩:=zB N;have hF:False:=cT _ _ _ _ _ (by assumption) (by assumption) (by assumption) lK qa;obtain⟨p40,c39,cs14,iJ,c40,h64,h65⟩:∃p40 c39 cs14 iJ c40,(RL rg cs14 l3)/\(S4 rg iJ ko.b c40):=hF.elim;exact zOM hF (am:=rg) (ah:=[hB ap (cRd ko iJ c40),hB b2 [vS p4 y.Arrays c3,vS p40 l3 c39],hO zE (vS p4 y.Arrays c3) cs,hO zL (vS p40 l3 c39) cs14,hB b1 zTwo]) (m':=[(0,vP ap 0),(4,vP b1 0),(5,vP b2 0),(6,vI (y.Parts.length:Int)),(76,.bool t76)])<|yP<|zQ ⟨_,_,_,_,_,_,_,(zC N).symm,H,h64,h65,rfl,rfl⟩
       intro kq N;exact zR<|yP<|zQ ⟨_,_,_,_,_,_,_,(zC N).symm,H,h4,h7,rfl,rfl⟩
      rintro I025 au m2 ⟨i6,x10,p38,c37,cs13,p39,c38,lI,le21,h62,u2,rfl,rfl⟩;subst o07;have H:=H.trans le21;exact yP<|zQ ⟨_,_,_,_,_,_,_,(zC hMc7).symm,H,h62,u2,rfl,rfl⟩
     intro ft N;refine yG [100] rfl<|zK ?_;obtain⟨o08,ho08,hMc8⟩:=zB N;refine rR (λI' ah m'=>∃(i7:List zL) (p42:Option Addr) (iF:Nat) (cs15:List Value),o08=i7/\aY.le I'/\(RL I' cs15 i7)/\ah=[hB ap (cRd y3 p6 c5),hB b2 [vS p4 y.Arrays c3,vS p42 i7 iF],hO zE (vS p4 y.Arrays c3) cs,hO zL (vS p42 i7 iF) cs15,hB b1 zTwo]/\m'=[(4,vP b1 0),(5,vP b2 0)]) ?_ ?_
     ·have H:=iS aY;refine yC ho08 ?_ ?_
      ·intro lH N;refine yG [103] rfl<|zK ?_;obtain⟨o09,ho09,hMc9⟩:=zB N;refine rR (λI' ah m'=>∃(i8:List zL) (p43:Option Addr) (c42:Nat) (cs16:List Value),o09=i8/\aY.le I'/\(RL I' cs16 i8)/\ah=[hB ap (cRd y3 p6 c5),hB b2 [vS p4 y.Arrays c3,vS p43 i8 c42],hO zE (vS p4 y.Arrays c3) cs,hO zL (vS p43 i8 c42) cs16,hB b1 zTwo]/\m'=[(4,vP b1 0),(5,vP b2 0)]) ?_ ?_
       ·have H:=iS aY;refine yC ho09 ?_ ?_
        ·intro l9 N;refine zM<|zZ 4 [1] [105,107] rfl<|bE N λx13 wb N=>kV 3 rfl rfl rfl h4 wb ?_;intro ad4 ro kb hcc4 iz;obtain⟨p44,c43,p45,c44,rfl,h68,h69⟩:=uK iz;refine zZ 6 [] [109] rfl ?_;obtain⟨l4,hy22,N⟩:=zB N;refine zOJ (c:=[vS p44 x13.Nest c43,z0]) 3 1 kb hcc4 h4 wb hy22 (rS ⟨_,_,rfl,h68,(SL.nil _)⟩) ?_;intro cs17 h70 hl09;exact zBT (m':=[(4,vP b1 0),(5,vP b2 0)]) ⟨rfl,rfl,trivial⟩<|zKE (ah:=[hB ap (cRd y3 p6 c5),hB b2 [vS p4 y.Arrays c3,vS p5 l4 c4],hO zE (vS p4 y.Arrays c3) cs,hO zL (vS p5 l4 c4) cs17,hB b1 zTwo]) (m':=[(4,vP b1 0),(5,vP b2 0)]) (by first|rfl|simp only[vS,hl09,yy,ze,Be,AQ,AX,AY]) (by first|rfl|simp only[vS,hl09])<|zW rfl<|yP<|zQ ⟨_,_,_,_,(zC N).symm,H,h70,rfl,rfl⟩
        intro l9 N;exact zR<|yP<|zQ ⟨_,_,_,_,(zC N).symm,H,h4,rfl,rfl⟩
       rintro I027 au m2 ⟨i8,p43,c42,cs16,ry,le22,h67,rfl,rfl⟩;subst o09;have H:=H.trans le22;exact yP<|zQ ⟨_,_,_,_,(zC hMc9).symm,H,h67,rfl,rfl⟩
      intro lH N;exact zR<|yP<|zQ ⟨_,_,_,_,(zC N).symm,H,h4,rfl,rfl⟩
     rintro I026 au m2 ⟨i7,p42,iF,cs15,heq5,le23,h66,rfl,rfl⟩;subst o08;have ⟨h7,H⟩:=m2 le23 h7 H;exact yP<|zQ ⟨_,_,_,_,_,_,_,(zC hMc8).symm,H,h66,h7,rfl,rfl⟩
    rintro I023 au m2 ⟨iZ,x8,p34,c33,ky,p35,c34,heq6,le24,h58,h59,rfl,rfl⟩;subst vf;have H:=H.trans le24;exact yP<|zQ ⟨_,_,_,_,_,_,_,(zC pg).symm,H,h58,h59,rfl,rfl⟩
   rintro mn au m2 ⟨iX,x4,eu,ej,fe,ga,c20,heq7,wf,sp,ka,rfl,rfl⟩;subst fw;have ⟨h3,H⟩:=m2 wf h3 H;exact yP<|zQ ⟨_,_,_,_,_,_,_,_,_,_,_,(zC ff).symm,H,h3,sp,ka,rfl,rfl⟩
  rintro hJ au m2 ⟨az,aX,x1,br,bx,cP,de,bM,gb,du,cW,heq8,le26,hZ,iH,fk,rfl,rfl⟩;subst aS;have H:=H.trans le26;exact yP<|zQ ⟨_,_,_,_,_,_,_,_,_,_,_,(zC bK).symm,H,hZ,iH,fk,rfl,rfl⟩
 rintro bP au m2 ⟨Arrays,Parts,x,p7,c6,bv,p8,c7,bf,p9,c8,aV,le27,h8,h9,bQ,rfl,rfl⟩;subst o0;refine zO<|yV<|qO 1 [1] [(110,vA [vS p7 Arrays c6,vS p8 Parts c7])]<|yZ 4 [vS p7 Arrays c6,vS p8 Parts c7] rfl<|zW rfl<|xH<|xT 2 rfl ?_;intro I028 wg hl010;have rr:=SL.of_frozen hl010 wg h8;have ⟨bQ,h9⟩:=m2 wg bQ h9;refine xT 2 rfl ?_;intro I029 wh ub;have h72:=SL.of_frozen ub wh h9;have ⟨bQ,rr⟩:=m2 wh bQ rr;exact wD aO (resC 2 rfl rfl) (zV [0] rfl (by decide)) ⟨_,_,rfl,rfl,⟨_,rfl,(uA ⟨_,_,rfl,rr,h72⟩)⟩,(xE ⟨_,rfl,bQ⟩)⟩
theorem zEt(p:zH):∀(i1:Int) (Parts:List zL) (o:List zL),sV p i1 Parts=some o->∀{B}{I0 I:Imm}{Q}{az:List zE}{p1 c p2 c1}{b b1 b2}{p4 c3 aA p9 c8 cC}{aj:List Raw2}{pN pB:Option Addr}{cN cB:Nat}{nl:List zD}{bl:List zI}{cj:List Value},I0.le I->(RL I aA az)->(S4 I p1 p.Arrays c)->(S4 I p2 p.Parts c1)->(RL I cC aj)->LP I aj Parts (vS pN nl cN) nl (vS pB bl cB) bl->SL I (vS pN nl cN) nl->RL I cj bl->(∀l a w,¬Q (.goto l) a w)->(∀a w,¬Q .outgrown a w)->(∀(I':Imm) (bH:Option Addr) (c9:Nat) (cP:List Value) (hH:List Raw2) (pN pB:Option Addr) (cN cB:Nat) (nl:List zD) (bl:List zI) (cj:List Value),I0.le I'->(RL I' cP hH)->LP I' hH o (vS pN nl cN) nl (vS pB bl cB) bl->SL I' (vS pN nl cN) nl->RL I' cj bl->T 84 B Q (.exit 2) I' [hO zI (vS pB bl cB) cj,hO Raw2 (vS bH hH c9) cP,hO zE (vS p4 az c3) aA,hB b2 [vS p4 az c3,vS bH hH c9],hB b1 zTwo] [(2,vP b1 0),(3,vP b2 0)])->J Tryz.prog 84 B (nav (bodyOf f120) [1,1,1,0,1,0]) Q I [hO zI (vS pB bl cB) cj,hO Raw2 (vS p9 aj c8) cC,hO zE (vS p4 az c3) aA,hB b2 [vS p4 az c3,vS p9 aj c8],hB b1 zTwo,hB b (cProg p p1 c p2 c1)] [(1,vP b 0),(2,vP b1 0),(3,vP b2 0),(5,vI i1)]:=by
 refine sV.partial_correctness p _ λaQ ih i1 Parts o N B I0 I Q az p1 c p2 c1 b b1 b2 p4 c3 aA p9 c8 cC aj pN pB cN cB nl bl cj H h4 h h1 lV lF hN qr hg ho hx=>xD hg ho<|yA<|yB<|yI [5] [40] rfl<|zK<|yC N ?_ ?_
 ·intro aI N;refine oD 0 rfl ?_;intro immf lef hlf;have kB:=SL.of_frozen hlf lef qr;have ⟨h4,h,h1,hN,lV,lF⟩:=m6 lef h4 h h1 hN lV lF;have H:=H.trans lef;have bV:=lF.done hN kB;rw[<- jZ lV] at bV;have eP:vS p9 aj c8=vS p9 Parts c8:=by simp only[vS,lF.2.1]
  rw[eP];clear qr hlf;refine zR<|zY<|yM<|yB<|zZ 3 [4] [44,45] rfl<|bE N λx2 bL N=>wJ rfl rfl h1 bL ?_;intro ri nu ek bO;obtain⟨bd,bG,ce,bj,rfl,ck,cm⟩:=uK bO;refine zZ 5 [] [47] rfl<|wC 0 ek [vS bd x2.Nest bG] (vS bd x2.Nest bG) rfl<|bE N λy bX N=>xG (zDf x2.Nest _ bX ck) ?_;rintro cI au v2 k2 bb - ⟨ee,rfl,rfl,bY⟩ -;have ⟨bV,lV,lF,hN⟩:=m4 bb bV lV lF hN;replace kB:=kB.mono bb;have ⟨h4,h,h1,H⟩:=m4 bb h4 h h1 H;obtain⟨br,bx,rfl⟩:=bY.form;refine zZ 8 [] [50] rfl<|wT zTwo ?_;intro b5 hb5;refine yZ 0 [vS br y bx,z0] rfl<|zW rfl<|zY<|yG [7] rfl<|vC<|mM [(1,vP b 0),(2,vP b1 0),(3,vP b2 0),(5,vI i1),(6,vP b5 0),(7,vI 0)]<|zB9 zI λd9=>?_;obtain⟨aS,aE,dc⟩:=zB N;refine zBq p i1 0 ([]:List zI) aS aE iR bY bV h4 h h1 d9 (λ_ _ _ h=>hg _ _ _ h) (λ_ _ h=>ho _ _ h) ?_;intro eg bu du cW d5 ca cb jz;subst aS;have ⟨bY,lV,lF,hN⟩:=m4 cb bY lV lF hN;replace kB:=kB.mono cb;have ⟨h4,h,h1,H⟩:=m4 cb h4 h h1 H;obtain⟨l3,dr,N⟩:=zB dc;have en:=zHg (l':=aj) (m':=[(⟨vS br y bx,vS du bu cW⟩:Raw2)]) dr lF.2.1 rfl;have sp:RL eg [vS br y bx,vS du bu cW] [(⟨vS br y bx,vS du bu cW⟩:Raw2)]:=⟨[vS br y bx,vS du bu cW],[],rfl,rfl,⟨rfl,rfl,rfl⟩,rfl⟩;refine zT<|zK<|zM<|qO 3 [4,1] [(78,vS p9 Parts c8),(79,vA [vS br y bx,vS du bu cW])]<|qN [vS br y bx,vS du bu cW] Raw2 ?_;intro b7 hb7;refine mD (α:=Raw2) 70 2 3 rfl rfl rfl lV (.inr ⟨0,rfl⟩) sp en ?_;intro lr lB dl ka;exact qM (zX [1,3,4,5,6,7] (ah:=[hO zI (vS du bu cW) d5,hO Raw2 (vS lr (aj++[(⟨vS br y bx,vS du bu cW⟩:Raw2)]) lB) dl,hO zE (vS p4 az c3) aA,hB b2 [vS p4 az c3,vS p9 Parts c8],hB b1 zTwo,hB b (cProg p p1 c p2 c1)]))<|zZ 6 [] [82] rfl<|yZ 3 [vS p4 az c3,vS lr (aj++[(⟨vS br y bx,vS du bu cW⟩:Raw2)]) lB] rfl<|zW rfl<|zO<|zK<|zM<|yI [] [5] rfl<|xB<|jH<|ih (W (i1+1)) l3 _ N H h4 h h1 ka (lF.push hN kB dr) bY jz hg ho hx
 intro aI N;have:=zC N;simp only[id] at this;subst this;exact uR<|wI (zV [0,1,2,3,4] rfl (by decide))<|yP<|hx _ _ _ _ _ _ _ _ _ _ _ _ H lV lF hN qr
def zFk(r:zH):KT:=λkk I' ah v=>
 ∃(a0:Option Addr) (c0:Nat) (s0:List Value) (a1:Option Addr) (c1:Nat) (s1:List Value) (aj:List Raw2) (pN pB:Option Addr) (cN cB:Nat) (nl:List zD) (bl:List zI) (cj:List Value),ah=[hO zI (vS pB bl cB) cj,hO Raw2 (vS a1 aj c1) s1,hO zE (vS a0 r.Arrays c0) s0]/\v=tupV [vA [vS a0 r.Arrays c0,vS a1 aj c1]]/\RL I' s0 r.Arrays/\RL I' s1 aj/\LP I' aj r.Parts (vS pN nl cN) nl (vS pB bl cB) bl/\SL I' (vS pN nl cN) nl/\RL I' cj bl
theorem zHY:∀(p:zH) r,nI p=some r->∀{I:Imm}{p1 c p2 c1},(S4 I p1 p.Arrays c)->(S4 I p2 p.Parts c1)->RT 120 [vA (cProg p p1 c p2 c1)] I [] (zFk r):=by
 intro p r N I p1 c p2 c1 h h1;unfold nI at N;refine yK func120 λB=>yB<|sF (cProg p p1 c p2 c1) ?_;intro b hb;refine wT zTwo ?_;intro b1 cp;refine zW rfl<|yV<|zZ 1 [] [8] rfl<|wT zTwo ?_;intro b2 fl;refine zAF 0 zTwo [hB b2 zTwo,hB b1 zTwo,hB b (cProg p p1 c p2 c1)] rfl rfl rfl rfl<|zW rfl<|zY<|yG [4] rfl<|vC<|mM [(1,vP b 0),(2,vP b1 0),(3,vP b2 0),(4,vI 0)]<|zB9 zE λh2=>?_;obtain⟨o0,aC,aM⟩:=zB N;refine zBp p 0 ([]:List zE) o0 aC iR h h1 h2 nG nO ?_;intro bP az p4 c3 aA ec aL h4;subst o0;have ⟨h,h1⟩:=m2 aL h h1;refine zT<|zY<|yG [5] rfl<|vC<|mM [(1,vP b 0),(2,vP b1 0),(3,vP b2 0),(5,vI 0)]<|kT (kO (Rp.sz Raw2))<|kT (kO (Rp.sz zI)) ?_;obtain⟨dd,bh,iv⟩:=zB aM;refine zEt p 0 ([]:List zL) dd bh (aj:=[]) (pN:=none) (pB:=none) (cN:=0) (cB:=0) (nl:=[]) (bl:=[]) iR h4 h h1 RepL.nil LP.nil (SL.nil _) RepL.nil nG nO ?_;intro fq bH c9 cP hH pN pB cN cB nl bl cj d7 lV lF hN qr;have h4:=iM d7 h4;obtain rfl:=zC iv;exact zT<|yV<|qO 1 [3] [(83,vA [vS p4 az c3,vS bH hH c9])]<|yZ 4 [vS p4 az c3,vS bH hH c9] rfl<|zW rfl<|xH<|zJG (resC 4 rfl rfl) (zV [0,1,2] rfl (by decide)) ⟨_,_,_,_,_,_,_,_,_,_,_,_,_,_,rfl,rfl,h4,lV,lF,hN,qr⟩
theorem zOT{aj:List Raw2}{k}{r:Raw2}(h:aj[k]?=some r):aj.set k r=aj:=by
 obtain⟨hk,e⟩:=yi.1 h;subst e;exact List.set_getElem_self hk
theorem zFl(r0:zP)(p1:zH)(r:zH×zP)(N:mH r0 p1=some r){y:zH}{y3:zP}{x:zL}{s:zI}(hy:nI p1=some y)(ay:xF r0 60=some (3,y3))(hx:idx y.Parts (W ((y.Parts.length:Int) - 1))=some x)(hs:idx x.Body 0=some s):
 ∀{I:Imm}{ap}{p c p2 c1 p3 c2},(S4 I p r0.b c)->(S4 I p2 p1.Arrays c1)->(S4 I p3 p1.Parts c2)->RT 69 [vP ap 0,vA (cProg p1 p2 c1 p3 c2)] I [hB ap (cRd r0 p c)] (zAH ap r):=by
 intro I ap p c p2 c1' p3 c2 h h1 h2
 obtain⟨i0,i1,i2⟩:=rG hx
 obtain⟨j0,j1,j2⟩:=rG hs
 have hn:(y.Parts.length:Int)>0:=by
  have:=(yi.1 i2).1;omega
 have hb:(x.Body.length:Int)>0:=by
  have:=(yi.1 j2).1;omega
 have e0:((3:Int)==0)=false:=rfl
 have e1:((3:Int)==1)=false:=rfl
 have e2:((3:Int)==2)=false:=rfl
 have e3:((3:Int)==3)=true:=rfl
 unfold mH at N
 simp only[hy,ay,e0,e1,e2,e3,hn,hb,hx,hs,yg,xu,xq,xt,xw,xr,xp] at N
 cases hm1:pC y3 s with
 | none=>rw[hm1] at N;cases N
 | some q1=>
 obtain⟨nn,me⟩:=q1
 simp only[hm1,xp] at N
 cases hm2:pC me nn with
 | none=>rw[hm2] at N;cases N
 | some q2=>
 obtain⟨qg,uv⟩:=q2
 simp only[hm2,xp] at N
 cases hm3:pC uv qg with
 | none=>rw[hm3] at N;cases N
 | some q3=>
 obtain⟨fo,ko⟩:=q3
 simp only[hm3,xp,Option.some.injEq] at N
 subst N
 refine yK func69 λB=>yB<|sF [vS p2 p1.Arrays c1',vS p3 p1.Parts c2] ?_
 intro b hb
 refine wT zTwo ?_
 intro b1 cp
 refine zW rfl<|yV<|qO 1 [1] [(7,vA [vS p2 p1.Arrays c1',vS p3 p1.Parts c2])]<|xG (zHY p1 _ hy h1 h2) ?_
 rintro I0 au v2 k2 le - ⟨a0,c0,s0,a1,c1,s1,aj,pN,pB,cN,cB,nl,bl,cj,rfl,rfl,h3,lV,lF,hN,qr⟩ -
 have h:=h.mono le
 clear h1 h2
 rw[lF.len] at hx hn i0 i1 i2
 obtain⟨rfl,n8,fg⟩:=lF.last hx
 simp only at hs hb j0 j1 j2 hm1
 have fg:=fg (vS pN nl cN) nl (vS pB bl cB) (bl.set 0 fo)
 rw[zOT (rG n8).2.2] at fg
 refine wT zTwo ?_
 intro b2 fl
 refine yZ 0 [vS a0 y.Arrays c0,vS a1 aj c1] rfl<|zW rfl<|yV<|yI [0] [6] rfl<|zY<|yB<|zZ 1 [] [12] rfl<|qM (zX [6,1,2,0,3,4] (ah:=[hB ap (cRd r0 p c),hO zI (vS pB bl cB) cj,hO Raw2 (vS a1 aj c1) s1,hB b2 [vS a0 y.Arrays c0,vS a1 aj c1],hO zE (vS a0 y.Arrays c0) s0,hB b1 zTwo]))<|tU (xX r0 60 _ ay h) rfl ?_
 rintro aT au v2 k2 ae - ⟨v0,kk,rfl,rfl,rfl,h6⟩ -
 obtain⟨gx,rfl,h7⟩:=zAC h6
 obtain⟨p6,c5,rfl⟩:=h7.form
 clear h6 h
 have h3:=iM ae h3
 have lV:=iM ae lV
 have hN:=hN.mono ae
 have qr:=iM ae qr
 have fg:=fg.mono ae
 refine zW rfl<|vC<|yG [14] rfl<|zK<|zBL rfl<|yG [29] rfl<|zK<|zBL rfl<|yG [43] rfl<|zK<|zBL rfl<|yG [62] rfl<|zK<|zDY rfl<|yB<|zZ 3 [] [66] rfl ?_
 rw[AZ hn]
 refine zZ 7 [3] [68,70] rfl<|kV (α:=Raw2) 2 rfl rfl rfl lV n8 ?_
 intro ad aR av cQ al
 obtain⟨rfl,o1,o2⟩:=al
 refine zZ 9 [] [72] rfl<|zDK 2 1 av cQ [vS pB bl cB] (vS pB bl cB) rfl rfl<|yI [] [76] rfl ?_
 rw[AZ hb]
 refine zK<|zDY rfl<|mM [(0,vP ap 0),(4,vP b1 0),(5,vP b2 0),(6,vI (aj.length:Int))]<|vK [.p (vP b2 1) [],.p (vS a1 aj c1) [2],.p (vI (aj.length:Int)) [],.p (vI (W ((aj.length:Int) - 1))) [],.x (λI' v cG=>∃ad,v=.pointer (some ad)/\cG=[]/\AtO (vS a1 aj c1) 2 (W ((aj.length:Int) - 1)).toNat ad),.x (λI' v cG=>∃ad,v=.pointer (some (ad.add 1))/\cG=[]/\AtO (vS a1 aj c1) 2 (W ((aj.length:Int) - 1)).toNat ad),.x (λI' v cG=>v=vS pB bl cB/\cG=[]),.p (vP ap 0) [],.p (vP ap 0) [],.p (vP ap 0) [],.p (vP b2 1) [],.p (vS a1 aj c1) [2],.p (vI (aj.length:Int)) [],.p (vI (W ((aj.length:Int) - 1))) [],.x (λI' v cG=>∃ad,v=.pointer (some ad)/\cG=[]/\AtO (vS a1 aj c1) 2 (W ((aj.length:Int) - 1)).toNat ad),.x (λI' v cG=>∃ad,v=.pointer (some (ad.add 1))/\cG=[]/\AtO (vS a1 aj c1) 2 (W ((aj.length:Int) - 1)).toNat ad),.x (λI' v cG=>v=vS pB bl cB/\cG=[]),.x (λI' v cG=>∃ad,v=.pointer (some ad)/\cG=[]/\AtO (vS pB bl cB) 9 0 ad),.x (λI' v cG=>∃fe,v=.agg ⟨fe⟩/\cG=[]/\Rp.rep I' fe s),.x (λI' v cG=>∃(fe kk:List Value),v=.agg ⟨fe⟩/\cG=[hB ap kk]/\Rp.rep I' fe nn/\Rp.rep I' kk me),.x (λI' v cG=>∃(fe kk:List Value),v=.agg ⟨fe⟩/\cG=[hB ap kk]/\Rp.rep I' fe qg/\Rp.rep I' kk uv),.x (λI' v cG=>∃(fe kk:List Value),v=.agg ⟨fe⟩/\cG=[hB ap kk]/\Rp.rep I' fe fo/\Rp.rep I' kk ko)] [[],[(0,F9)],[],[(2,F9)],[(1,F9),(3,F9)],[(4,F9)],[(5,F9)],[],[],[],[],[(10,F9)],[],[(12,F9)],[(11,F9),(13,F9)],[(14,F9)],[(15,F9)],[(16,F9)],[(17,F9)],[(9,F9),(18,F9),(24,true)],[(8,F9),(19,true)],[(7,F9),(20,true)]] [hO zI (vS pB bl cB) cj,hO Raw2 (vS a1 aj c1) s1,hB b2 [vS a0 y.Arrays c0,vS a1 aj c1],hO zE (vS a0 y.Arrays c0) s0,hB b1 zTwo] [[hB ap (cRd y3 p6 c5)]] [(6,F9),(21,true)] (zX [1,2,3,4,5,0]) ?_ ?_
 ·refine O4<|Ox ?_<|Ox ?_<|Ox ?_<|O4<|O3<|Ox ?_<|Ox ?_<|Ox ?_<|Ox ?_<|Ox ?_<|Ox ?_<|Ox ?_<|Ox ?_<|On
  ·intro I1 hf ae
   refine vX ?_
   rintro _ _ ⟨rfl,rfl⟩
   refine vX ?_
   rintro _ _ ⟨rfl,rfl⟩
   refine kU<|zCP [(78,vS a1 aj c1),(80,vI (W ((aj.length:Int) - 1)))]<|kV (α:=Raw2) 1 rfl rfl rfl (iM ae lV) n8 ?_
   intro ad aR av cQ al
   exact xC [] iR ⟨_,rfl,rfl,av⟩
  ·intro I1 hf ae
   refine vX ?_
   rintro _ _ ⟨ad,rfl,rfl,av⟩
   exact kU<|zCP [(81,.pointer (some ad))]<|pQ 6 [(82,.pointer (some (ad.add 1)))]<|xC [] iR ⟨_,rfl,rfl,av⟩
  ·intro I1 hf ae
   refine vX ?_
   rintro _ _ ⟨ad,rfl,rfl,av⟩
   refine kU<|zCP [(82,.pointer (some (ad.add 1)))] ?_
   have al:=lV.at (rG n8).2.2
   obtain⟨⟨cQ,o1,o2⟩,_⟩:=al
   exact zDK 1 1 av cQ [vS pB bl cB] (vS pB bl cB) rfl rfl<|yQ iR
  ·intro I1 hf ae
   refine vX ?_
   rintro _ _ ⟨rfl,rfl⟩
   refine vX ?_
   rintro _ _ ⟨rfl,rfl⟩
   refine kU<|zCP [(88,vS a1 aj c1),(90,vI (W ((aj.length:Int) - 1)))]<|kV (α:=Raw2) 1 rfl rfl rfl (iM ae lV) n8 ?_
   intro ad aR av cQ al
   exact xC [] iR ⟨_,rfl,rfl,av⟩
  ·intro I1 hf ae
   refine vX ?_
   rintro _ _ ⟨ad,rfl,rfl,av⟩
   exact kU<|zCP [(91,.pointer (some ad))]<|pQ 16 [(92,.pointer (some (ad.add 1)))]<|xC [] iR ⟨_,rfl,rfl,av⟩
  ·intro I1 hf ae
   refine vX ?_
   rintro _ _ ⟨ad,rfl,rfl,av⟩
   refine kU<|zCP [(92,.pointer (some (ad.add 1)))] ?_
   have al:=lV.at (rG n8).2.2
   obtain⟨⟨cQ,o1,o2⟩,_⟩:=al
   exact zDK 1 1 av cQ [vS pB bl cB] (vS pB bl cB) rfl rfl<|yQ iR
  ·intro I1 hf ae
   refine vX ?_
   rintro _ _ ⟨rfl,rfl⟩
   refine kU<|zCP [(93,vS pB bl cB)]<|kV (α:=zI) 0 rfl rfl rfl (iM ae qr) hs ?_
   intro ad aR av cQ al
   exact xC [] iR ⟨_,rfl,rfl,av⟩
  ·intro I1 hf ae
   refine vX ?_
   rintro _ _ ⟨ad,rfl,rfl,av⟩
   refine kU<|zCP [(94,.pointer (some ad))] ?_
   obtain⟨al,_⟩:=(iM ae qr).at j2
   generalize cQ:(cj.drop (Int.toNat 0*Rp.sz zI)).take (Rp.sz zI)=cc at al
   obtain⟨w0,w1,w2,w3,rfl,qm,qn,qo,qp⟩:=kQ al
   obtain⟨bH,bG,rfl⟩:=qm.form
   obtain⟨bd,bj,rfl⟩:=qn.form
   obtain⟨ce,bx,rfl⟩:=qo.form
   obtain⟨br,bM,rfl⟩:=qp.form
   exact zDK 0 0 av cQ (cStmt s bH bG bd bj ce bx br bM) (vA (cStmt s bH bG bd bj ce bx br bM)) rfl rfl<|xC [] iR ⟨_,rfl,rfl,wO ⟨_,_,_,_,rfl,qm,qn,qo,qp⟩⟩
  ·intro I1 hf ae
   refine vX ?_
   rintro _ _ ⟨rfl,rfl⟩
   refine vX ?_
   rintro _ _ ⟨fe,rfl,rfl,h9⟩
   refine vX ?_
   rintro _ _ rfl
   obtain⟨w0,w1,w2,w3,rfl,qm,qn,qo,qp⟩:=kQ h9
   obtain⟨bH,bG,rfl⟩:=qm.form
   obtain⟨bd,bj,rfl⟩:=qn.form
   obtain⟨ce,bx,rfl⟩:=qo.form
   obtain⟨br,bM,rfl⟩:=qp.form
   refine kU<|zCP [(86,vP ap 0),(95,vA (cStmt s bH bG bd bj ce bx br bM))]<|tU (zAe y3 s _ hm1 (h7.mono ae) qm qn qo qp) rfl ?_
   rintro aY au v2 k2 aJ - ⟨v0,oy,rfl,rfl,⟨bv,rfl,bQ⟩,bB⟩ -
   exact xC [hB ap oy] aJ ⟨_,_,rfl,rfl,bQ,bB⟩
  ·intro I1 hf ae
   refine vX ?_
   rintro _ _ ⟨rfl,rfl⟩
   refine vX ?_
   rintro _ _ ⟨fe,kk,rfl,rfl,h9,hk⟩
   obtain⟨w0,w1,w2,w3,rfl,qm,qn,qo,qp⟩:=kQ h9
   obtain⟨bH,bG,rfl⟩:=qm.form
   obtain⟨bd,bj,rfl⟩:=qn.form
   obtain⟨ce,bx,rfl⟩:=qo.form
   obtain⟨br,bM,rfl⟩:=qp.form
   obtain⟨w4,rfl,kg⟩:=zAC hk
   obtain⟨p8,c8,rfl⟩:=kg.form
   refine kU<|zCP [(85,vP ap 0),(96,vA (cStmt nn bH bG bd bj ce bx br bM))]<|tU (zAe me nn _ hm2 (kg) qm qn qo qp) rfl ?_
   rintro aY au v2 k2 aJ - ⟨v0,oy,rfl,rfl,⟨bv,rfl,bQ⟩,bB⟩ -
   exact xC [hB ap oy] aJ ⟨_,_,rfl,rfl,bQ,bB⟩
  intro I1 hf ae
  refine vX ?_
  rintro _ _ ⟨rfl,rfl⟩
  refine vX ?_
  rintro _ _ ⟨fe,kk,rfl,rfl,h9,hk⟩
  obtain⟨w0,w1,w2,w3,rfl,qm,qn,qo,qp⟩:=kQ h9
  obtain⟨bH,bG,rfl⟩:=qm.form
  obtain⟨bd,bj,rfl⟩:=qn.form
  obtain⟨ce,bx,rfl⟩:=qo.form
  obtain⟨br,bM,rfl⟩:=qp.form
  obtain⟨w4,rfl,kg⟩:=zAC hk
  obtain⟨p8,c8,rfl⟩:=kg.form
  refine kU<|zCP [(84,vP ap 0),(97,vA (cStmt qg bH bG bd bj ce bx br bM))]<|tU (zAe uv qg _ hm3 (kg) qm qn qo qp) rfl ?_
  rintro aY au v2 k2 aJ - ⟨v0,oy,rfl,rfl,⟨bv,rfl,bQ⟩,bB⟩ -
  exact xC [hB ap oy] aJ ⟨_,_,rfl,rfl,bQ,bB⟩
 intro I5 bI
 refine vX ?_
 rintro _ _ ⟨rfl,rfl⟩
 refine vX ?_
 rintro _ _ ⟨fe,kk,rfl,rfl,h9,hk⟩
 obtain⟨w0,w1,w2,w3,rfl,qm,qn,qo,qp⟩:=kQ h9
 obtain⟨bH,bG,rfl⟩:=qm.form
 obtain⟨bd,bj,rfl⟩:=qn.form
 obtain⟨ce,bx,rfl⟩:=qo.form
 obtain⟨br,bM,rfl⟩:=qp.form
 have h3:=iM bI h3
 have lV:=iM bI lV
 have hN:=hN.mono bI
 have qr:=iM bI qr
 have fg:=fg.mono bI
 refine kU<|zCP [(4,vP b1 0),(5,vP b2 0),(83,vS pB bl cB),(98,vA (cStmt fo bH bG bd bj ce bx br bM))]<|kV (α:=zI) 1 rfl rfl rfl qr hs ?_
 intro ad aR av cQ al
 obtain⟨w0,w1,w2,w3,rfl,e20,e21,e22,e23⟩:=kQ al
 obtain⟨eu,c20,rfl⟩:=e20.form
 obtain⟨ga,c21,rfl⟩:=e21.form
 obtain⟨md,mr,rfl⟩:=e22.form
 obtain⟨mj,lz,rfl⟩:=e23.form
 refine jA (c:=(cStmt fo bH bG bd bj ce bx br bM)) (x':=fo) 1 0 rfl rfl rfl av rfl rfl cQ (by kernel_rfl) (by kernel_rfl) (by kernel_rfl) qr hs (by kernel_rfl) (wO ⟨_,_,_,_,rfl,qm,qn,qo,qp⟩) ?_
 intro d5 h7' aP
 refine uT (ah:=[hB ap kk,hO zI (vS pB bl cB) d5,hO Raw2 (vS a1 aj c1) s1,hB b2 [vS a0 y.Arrays c0,vS a1 aj c1],hO zE (vS a0 y.Arrays c0) s0,hB b1 zTwo]) rfl<|wG 1 rfl ?_
 intro I6 bJ qw
 have eB:vS pB bl cB=vS pB (bl.set 0 fo) cB:=by simp[vS]
 have kB:SL I6 (vS pB (bl.set 0 fo) cB) (bl.set 0 fo):=by
  rw[<- eB]
  exact SL.of_frozen (l:=bl.set 0 fo) qw bJ h7'
 rw[eB] at fg
 have xb:=(fg.mono bJ).done (hN.mono bJ) kB
 have eS:=jZ lV
 rw[<- eS] at xb
 have h3:=iM bJ h3
 have hk:=Rp.mono bJ hk
 have eP:vS a1 aj c1=vS a1 (y.Parts.set (W ((aj.length:Int) - 1)).toNat ⟨nl,bl.set 0 fo⟩) c1:=by simp only[vS,zk,lF.2.1]
 refine uT (ah:=[hB ap kk,hO Raw2 (vS a1 aj c1) s1,hB b2 [vS a0 y.Arrays c0,vS a1 aj c1],hO zE (vS a0 y.Arrays c0) s0,hB b1 zTwo]) rfl<|zW rfl<|zO<|yV<|qO 1 [2] [(110,vA [vS a0 y.Arrays c0,vS a1 aj c1])]<|yZ 4 [vS a0 y.Arrays c0,vS a1 aj c1] rfl<|zW rfl<|xH<|xT 1 rfl ?_
 intro I7 bZ hl7
 have k1:SL I7 (vS a1 aj c1) (y.Parts.set (W ((aj.length:Int) - 1)).toNat ⟨nl,bl.set 0 fo⟩):=SL.of_frozen (l:=y.Parts.set (W ((aj.length:Int) - 1)).toNat ⟨nl,bl.set 0 fo⟩) hl7 bZ xb
 refine xT 2 rfl ?_
 intro I8 dt hl8
 have k2:=SL.of_frozen hl8 dt (iM bZ h3)
 rw[lF.len]
 exact zJG (resC 2 rfl rfl) (zV [0] rfl (by decide)) ⟨_,_,rfl,rfl,⟨_,rfl,(uA ⟨_,_,rfl,k2,k1.mono dt⟩)⟩,Rp.mono dt (Rp.mono bZ hk)⟩
theorem zGf:∀r0 p1 r,mH r0 p1=some r->∀{I:Imm}{ap}{p c p2 c1 p3 c2},(S4 I p r0.b c)->(S4 I p2 p1.Arrays c1)->(S4 I p3 p1.Parts c2)->RT 69 [vP ap 0,vA (cProg p1 p2 c1 p3 c2)] I [hB ap (cRd r0 p c)] (zAH ap r):=by
 intro r0 p1 r N I ap p c p2 c1 p3 c2 h h1 h2;by_cases hq:∃y y3 x s,nI p1=some y/\xF r0 60=some (3,y3)/\idx y.Parts (W ((y.Parts.length:Int) - 1))=some x/\idx x.Body 0=some s
 ·obtain⟨y,y3,x,s,e1,e2,e3,e4⟩:=hq;exact zFl r0 p1 r N e1 e2 e3 e4 h h1 h2
 refine zFj r0 p1 r N h h1 h2 ?_;intro y y2 y3 x s e1 e2 e3 e4 e5;obtain rfl:=eq_of_beq e3;exact hq ⟨y,y3,x,s,e1,e2,e4,e5⟩
def dG(r:zH):KT:=λkk I' ah v=>
 ∃v0,ah=[]/\v=tupV [v0]/\(∃cs,v0=.agg ⟨cs⟩/\Rp.rep I' cs r)
def oY(bo:(List UInt8)):Option (zH):=do
 let y<-fF bo;let (y2,y3)<-eV y;let (y5,y6)<-mH y3 y2;pure (id y5)
theorem zCD:∀bo r,oY bo=some r->∀{I:Imm}{p c},(S4 I p bo c)->RT 35 [vS p bo c] I [] (dG  r):=by
 intro bo r N I p c h;unfold oY at N;refine yK func35 λB=>yB<|wT zTwo ?_;intro b hb;refine zW rfl<|yV<|zZ 1 [] [4] rfl<|bE N λy hy N=>xG (zDG bo _ hy h) ?_;rintro I0 au v2 k2 le - ⟨b1,p1,c1,rfl,rfl,h1⟩ -;refine yI [] [3] rfl<|yV<|zZ 2 [] [6,7] rfl ?_;obtain⟨⟨y2,y3⟩,ay,N⟩:=zB N;refine tU (zDe y _ ay h1) rfl ?_;rintro aT au v2 k2 ae - ⟨v0,kk,rfl,rfl,⟨cs,rfl,h2⟩,h3⟩ -;obtain⟨p2,c2,p3,c3,rfl,h4,h5⟩:=mE h2;obtain⟨p4,c4,rfl,h6⟩:=yD h3;obtain⟨⟨y5,y6⟩,aK,N⟩:=zB N;refine tU (zGf y3 y2 _ aK h6 h4 h5) rfl ?_;rintro aY au v2 k2 aJ - ⟨ee,oe,rfl,rfl,⟨aA,rfl,h7⟩,h8⟩ -;obtain⟨p5,c5,p6,c6,rfl,h9,bQ⟩:=mE h7;obtain⟨p7,c7,rfl,bB⟩:=yD h8;refine yZ 1 (cProg y5 p5 c5 p6 c6) rfl<|zW rfl<|zK<|yX ?_;exact wD N (resC 1 rfl rfl) zN ⟨_,rfl,rfl,⟨_,rfl,(uA ⟨_,_,rfl,h9,bQ⟩)⟩⟩
def oI(bo:(List UInt8)):Option (zH):=do
 let y<-oY bo;pure (id y)
theorem zBa:∀bo r,oI bo=some r->∀{I:Imm}{p c},(S4 I p bo c)->RT 7 [vS p bo c] I [] (dG  r):=by
 intro bo r N I p c h;unfold oI at N;refine yK func7 λB=>yB<|wT zTwo ?_;intro b hb;refine zW rfl<|yV<|zZ 1 [] [3] rfl<|bE N λy hy N=>xG (zCD bo _ hy h) ?_;rintro I0 au v2 k2 le - ⟨v0,rfl,rfl,⟨cs,rfl,h1⟩⟩ -;obtain⟨p1,c1,p2,c2,rfl,h2,h3⟩:=mE h1;refine yZ 0 (cProg y p1 c1 p2 c2) rfl<|zW rfl<|zK<|yX ?_;exact wD N (resC 0 rfl rfl) zN ⟨_,rfl,rfl,⟨_,rfl,(uA ⟨_,_,rfl,h2,h3⟩)⟩⟩
def uF(n0:Int)(low:Int)(ua:Int):Option (Bool):=do
 let t6<-(do
  if(decide (low<=n0)) then pure (decide (n0<=ua))
  else
   pure false
    : Option Bool)
 pure (id t6)
theorem tA:∀n0 low ua r,uF n0 low ua=some r->∀{I:Imm} ,RT 81 [vI n0,vI low,vI ua] I [] (zU  r):=by
 intro n0 low ua r N I;unfold uF at N;refine yK func81 λB=>?_;have H:=iS I;refine vO []<|zK<|yA ?_;refine wZ N [] (λt6=>[(6,.bool t6)]) (λo0 aC=>?_) ?_
 ·have H:=iS I;refine zM<|zZ 4 [] [10] rfl<|xW [10] aC ?_ ?_
  ·intro hc N;exact yI [] [6] rfl<|yP<|zQ (ct N H)
  intro hc N;exact wP [] [(6,vF)]<|yP<|zQ (ct N H)
 intro t6 I0 le aO;refine zK<|yX ?_;obtain rfl:=zC aO;exact vG
def fY(s:Str)(substr:Str):Option Bool:=match substr.l with|[c]=>some (decide (0<=Lib.indexByte s.l c))|_=>none
theorem zEV:∀(s substr:Str) r,fY s substr=some r->∀{I:Imm},RT 191 [vT s.l,vT substr.l] I [] (zU r):=by
 intro s substr r N I;unfold fY at N;split at N
 ·rename_i c hc;cases N
  rw[hc];exact zAa (λw g=>(Tryz.strings_Contains_one ⟨⟨s.l⟩⟩ c w).mono λe w' ⟨h1,h2⟩=>⟨h1,h2 ▸ RowKit.Below.refl _ _⟩) λk=>⟨_,rfl,rfl,rfl⟩
 cases N
def fJ(s:Str):Option (Bool):=do
 let t2<-(do
  if((s.l.length:Int)==1) then
   let y<-fY (⟨[65,66,67,68]⟩:Str) s;pure (id y)
  else
   pure false
    : Option Bool)
 pure (id t2)
theorem jD:∀s r,fJ s=some r->∀{I:Imm} ,RT 135 [vT s.l] I [] (zU  r):=by
 intro s r N I;unfold fJ at N;refine yK func135 λB=>?_;have H:=iS I;refine vO []<|zK<|yA ?_;refine wZ N [] (λt2=>[(2,.bool t2)]) (λo0 aC=>?_) ?_
 ·have H:=iS I;refine zM<|zZ 4 [] [6] rfl<|xW [6] aC ?_ ?_
  ·intro hc N;refine zZ 5 [] [7] rfl<|bE N λy hy N=>uU (zEV (⟨[65,66,67,68]⟩:Str) s _ hy ) ?_;intro aT le;have H:=H.trans le;exact yI [] [2] rfl<|yP<|zQ (ct N H)
  intro hc N;exact wP [] [(2,vF)]<|yP<|zQ (ct N H)
 intro t2 I0 ae aO;refine zK<|yX ?_;obtain rfl:=zC aO;exact vG
def fS(aH:List HA)(r:Int):KT:=λkk I' ah v=>
 ∃v0,aH=ah/\v=tupV [v0]/\v0=.int .i64 r
def vV(s:(List Int))(f0:(Int->Option Bool))(t8:Int):Option (Out Unit (Int)):=do
 if(decide (t8<(s.length:Int))) then
  let x<-idx s t8;let y<-f0 x;if y then pure (.ret t8)
  else vV s f0 (W (t8+1))
 else pure (.done ())
 partial_fixpoint
theorem zAf(s:(List Int))(f0:(Int->Option Bool)):∀(t8:Int) (o:Out Unit (Int)),vV s f0 t8=some o->∀{B}{I0 I:Imm}{Q p c}{fv:Value}{aH:List HA},I0.le I->(S4 I p s c)->(FV1 Tryz.prog I aH fv f0)->NG Q->NO Q->(∀I',o=(.done ())->I0.le I'->T 19 B Q (.exit 0) I' aH [])->(∀r I' ah m',o=(.ret r)->I0.le I'->RS Tryz.prog f205 B (fS aH r) I' ah m'->T 19 B Q .ret I' ah m')->J Tryz.prog 19 B (nav (bodyOf f205) [1,0,1,0]) Q I aH [(0,vS p s c),(1,fv),(7,vI (s.length:Int)),(8,vI t8)]:=by
 refine vV.partial_correctness s f0 _ λaQ ih t8 o N B I0 I Q p c fv aH H h h1 hg ho hx hr=>xD hg ho<|yG [9] rfl<|zY<|yC N ?_ ?_
 ·intro hc N;refine zR<|zY<|yM<|yG [5] rfl<|yV<|zZ 3 [] [11,12,13] rfl<|bE N λx hy N=>wJ rfl rfl h hy ?_;intro ad aR av al;obtain rfl:=al;refine wC 0 av [vI x] (vI x) rfl<|bE N λy ay N=>zMf rfl rfl h1 ay rfl (yk _).symm ?_;rintro I0 v0 le rfl;refine uT (ah:=aH) (yk _) ?_;have ⟨h,h1,H⟩:=m3 le h h1 H;refine zW rfl<|zK<|yC N ?_ ?_
  ·intro aI N;exact yG [4] rfl<|xH<|zS<|zG<|zG<|hr _ _ _ _ (zC N).symm H ⟨_,_,(resT rfl),(λ_ h=>h),⟨_,rfl,rfl,rfl⟩⟩
  intro aI N;exact zR<|zO<|zK<|zM<|yI [] [8] rfl<|xB<|jH<|ih (W (t8+1)) _ N H h h1 hg ho hx hr
 intro hc N;exact uR<|yP<|hx _  (zC N).symm H
def nT(s:(List Int))(f0:(Int->Option Bool)):Option (Int):=do
 match<-vV s f0 0 with
 | .ret r0=>pure r0
 | .done _=>
  pure (-1)
theorem zBM:∀s f0 r,nT s f0=some r->∀{I:Imm}{p c}{fv:Value}{aH:List HA},(S4 I p s c)->(FV1 Tryz.prog I aH fv f0)->RT 205 [vS p s c,fv] I aH (fS aH r):=by
 intro s f0 r N I p c fv aH h h1;unfold nT at N;refine yK func205 λB=>vO []<|zY<|yG [7,8] rfl<|vC<|mM [(0,vS p s c),(1,fv),(7,vI (s.length:Int)),(8,vI 0)] ?_;obtain⟨o0,aC,aM⟩:=zB N;refine zAf s f0 0 o0 aC iR h h1 nG nO ?_ ?_
 ·intro aT  ec ae;subst o0;refine zT<|uX [4] rfl<|zK<|yX ?_;exact wD aM (resT rfl) (λ_ h=>h) ⟨_,rfl,rfl,rfl⟩
 intro r0 I9 gm m9 aV bS aW;subst aV;refine zS<|zG ?_;obtain rfl:=zC aM;exact fO aW
def zAV(aH:List HA)(r:Bool):KT:=λkk I' ah v=>
 ∃v0,aH=ah/\v=tupV [v0]/\v0=.bool r
def wF(s:(List Int))(f0:(Int->Option Bool)):Option (Bool):=do
 let y<-nT s f0;pure (decide (y>=0))
theorem pL:∀s f0 r,wF s f0=some r->∀{I:Imm}{p c}{fv:Value}{aH:List HA},(S4 I p s c)->(FV1 Tryz.prog I aH fv f0)->RT 155 [vS p s c,fv] I aH (zAV aH r):=by
 intro s f0 r N I p c fv aH h h1;unfold wF at N;refine yK func155 λB=>vO []<|yV<|zZ 2 [] [5,6] rfl<|bE N λy hy N=>zGQ (hs1:=aH) (rest:=[]) rfl rfl rfl rfl (by kernel_rfl) rfl (yk _).symm (zBM s f0 _ hy h h1) ?_;rintro I0 au v2 k2 le - ⟨v0,rfl,rfl,rfl⟩ -;refine uT (ah:=aH) (yk _) ?_;refine yI [] [4] rfl<|zK<|yX ?_;exact wD N (resT rfl) (λ_ h=>h) ⟨_,rfl,rfl,rfl⟩
def rE(n0:Int):Option (Bool):=do
 let y<-uF n0 1 6;pure (!y)
theorem zB2:∀n0 r,rE n0=some r->∀{I:Imm} ,RT 156 [vI n0] I [] (zU  r):=by
 intro n0 r N I;unfold rE at N;refine yK func156 λB=>vO []<|yV<|zZ 1 [] [3] rfl<|bE N λy hy N=>uU (tA n0 1 6 _ hy ) λI0 le=>wP [] [(2,.bool (!y))]<|zK<|yX ?_;obtain rfl:=zC N;exact vG
def oR(ai:(List zE))(t7:Int):Option (Out Unit (Bool)):=do
 if(decide (t7<(ai.length:Int))) then
  let x<-idx ai t7;let q7<-(do
   let y<-fJ x.Name;if(!y) then pure true
   else
    if(decide (t7>0)) then
     let x1<-idx ai (W (t7 - 1));if(!(Op.bytesLess x1.Name.l x.Name.l)) then pure true
     else
      let y1<-uF (x.Dims.length:Int) 1 2;if(!y1) then pure true
      else
       let y2<-wF x.Dims rE;pure (id y2)
    else
     let y3<-uF (x.Dims.length:Int) 1 2;if(!y3) then pure true
     else
      let y4<-wF x.Dims rE;pure (id y4)
     : Option Bool)
  if q7 then pure (.ret false)
  else oR ai (W (t7+1))
 else pure (.done ())
 partial_fixpoint
theorem zEW(ai:(List zE)):∀(t7:Int) (o:Out Unit (Bool)),oR ai t7=some o->∀{B}{I0 I:Imm}{Q p c},I0.le I->(S4 I p ai c)->NG Q->NO Q->(∀I',o=(.done ())->I0.le I'->T 47 B Q (.exit 0) I' [] [(0,vS p ai c)])->(∀r I' ah m',o=(.ret r)->I0.le I'->RS Tryz.prog f93 B (zU  r) I' ah m'->T 47 B Q .ret I' ah m')->J Tryz.prog 47 B (nav (bodyOf f93) [1,0,1,0]) Q I [] [(0,vS p ai c),(5,vS p ai c),(6,vI (ai.length:Int)),(7,vI t7)]:=by
 refine oR.partial_correctness ai _ λaQ ih t7 o N B I0 I Q p c H h hg ho hx hr=>xD hg ho<|yG [8] rfl<|zY<|yC N ?_ ?_
 ·intro hc N;refine zR<|zY<|yM<|yB<|zZ 1 [] [9] rfl<|bE N λx hy N=>wJ rfl rfl h hy ?_;intro ad aR av al;obtain⟨p1,c1,rfl,h1⟩:=wN al;refine wC 0 av (cArr x p1 c1) (vA (cArr x p1 c1)) rfl<|wT [vT ([]),z0] ?_;intro b hb;refine zZ 5 [] [3] rfl<|yZ 0 (cArr x p1 c1) rfl<|zW rfl<|zK<|yA ?_;refine wZ N [] (λq7=>[(0,vS p ai c),(5,vS p ai c),(6,vI (ai.length:Int)),(7,vI t7),(42,.bool q7)]) (λo0 aC=>?_) ?_
  ·have H:=iS I;obtain⟨y,ay,N⟩:=zB aC;cases aI:(!y) with
   | true=>
    have nw:=tI aI N;refine vK [.p (vP b 0) [],.p (vT x.Name.l) [0],.q (.bool y),.q vY,.q vY,u9,u9,u9,u9,u9,u9,u9,u9,u9,u9,u9,u9,u9,.p vY [],.p vY [],u9,u9,u9,u9,u9,.p vY [],.p vY [],u9,u9,u9,.p vY []] [[],[(0,F9)],[(1,F9)],[(2,F9)],[(3,F9)],[(4,F9)],[(4,F9),(5,F9)],[(4,F9),(6,F9)],[(7,F9)],[(7,F9)],[(7,F9),(9,F9)],[(7,F9),(8,F9),(10,F9)],[(7,F9),(11,F9)],[(7,F9),(12,F9)],[(7,F9)],[(7,F9),(14,F9)],[(7,F9),(13,F9),(15,F9)],[(4,F9),(7,F9),(16,F9)],[(4,F9),(17,F9)],[(18,F9)],[(19,F9)],[(19,F9),(20,F9)],[(19,F9),(21,F9)],[(19,F9),(22,F9)],[(19,F9),(23,F9)],[(19,F9),(24,F9)],[(25,F9)],[(26,F9)],[(26,F9),(27,F9)],[(26,F9),(28,F9)],[(26,F9),(29,F9)]] [hB b (cArr x p1 c1)] [] [(30,F9)] (zX [0]) ?_ ?_
    ·refine O2<|Oq ?_<|Oq ?_<|Oq ?_<|O4<|O4<|O4<|O4<|O4<|O4<|O2<|On
     ·intro I1 hf ae;refine yW [13] rfl ?_;have H:=iS I1;refine uU (jD x.Name _ ay ) ?_;intro aT le;have H:=H.trans le;exact yQ H
     ·intro I1 hf ae;refine yW [14] rfl<|pQ 4 [(15,.bool (!y))] ?_;rw[aI];exact yQ iR
     intro I1 hf ae;exact I_h [(15,vY)]<|pQ 5 [(16,vY)]<|yQ iR
    intro aY ae;refine yW [0,5,6,7,42] rfl ?_;have H:=H.trans ae;exact zW rfl<|wI zN<|yP<|zQ (ct nw H)
   | false=>
    have lc:=uQ aI N;cases aU:(decide (t7>0)) with
    | true=>
     have nx:=tI aU lc;obtain⟨x1,aK,N⟩:=zB nx;cases bU:(!(Op.bytesLess x1.Name.l x.Name.l)) with
     | true=>
      have pf:=tI bU N;refine vK [.p (vP b 0) [],.p (vT x.Name.l) [0],.q (.bool y),.q vF,.q vF,.p (vI t7) [],.q vY,.q vY,.p (vS p ai c) [],.p (vI t7) [],.p (vI (W (t7 - 1))) [],.x (ePArr x1),.x (ePArr x1),.q (vT x1.Name.l),.p (vP b 0) [],.p (vT x.Name.l) [0],.q vY,.q vY,.q vY,.q vY,u9,u9,u9,u9,u9,.p vY [],.p vY [],u9,u9,u9,.p vY []] [[],[(0,F9)],[(1,F9)],[(2,F9)],[(3,F9)],[(4,F9)],[(4,F9),(5,F9)],[(4,F9),(6,F9)],[(7,F9)],[(7,F9)],[(7,F9),(9,F9)],[(7,F9),(8,F9),(10,F9)],[(7,F9),(11,F9)],[(7,F9),(12,F9)],[(7,F9)],[(7,F9),(14,F9)],[(7,F9),(13,F9),(15,F9)],[(4,F9),(7,F9),(16,F9)],[(4,F9),(17,F9)],[(18,F9)],[(19,F9)],[(19,F9),(20,F9)],[(19,F9),(21,F9)],[(19,F9),(22,F9)],[(19,F9),(23,F9)],[(19,F9),(24,F9)],[(25,F9)],[(26,F9)],[(26,F9),(27,F9)],[(26,F9),(28,F9)],[(26,F9),(29,F9)]] [hB b (cArr x p1 c1)] [] [(30,F9)] (zX [0]) ?_ ?_
      ·refine O2<|Oq ?_<|Oq ?_<|Oq ?_<|Op<|Oq ?_<|Oq ?_<|O3<|Ox ?_<|Ox ?_<|Oq ?_<|O2<|Oq ?_<|Oq ?_<|Oq ?_<|Oq ?_<|O4<|O4<|O3<|On
       ·intro I1 hf ae;refine yW [13] rfl ?_;have H:=iS I1;refine uU (jD x.Name _ ay ) ?_;intro aT le;have H:=H.trans le;exact yQ H
       ·intro I1 hf ae;refine yW [14] rfl<|pQ 4 [(15,.bool (!y))] ?_;rw[aI];exact yQ iR
       ·intro I1 hf ae;exact I_h [(15,vF)]<|pQ 5 [(16,vF)]<|yQ iR
       ·intro I1 hf ae;refine yW [16,17] rfl<|pQ 7 [(18,.bool (decide (t7>0)))] ?_;rw[aU];exact yQ iR
       ·intro I1 hf ae;exact yW [16,18] rfl<|pQ 8 [(19,vY)]<|yQ iR
       ·intro I1 hf ae;refine yW [19,20,22] rfl ?_;have h:=h.mono ae;refine wJ rfl rfl h aK ?_;intro cD bN aw ax;obtain⟨p2,c2,rfl,h3⟩:=wN ax;exact xC [] iR ⟨_,_,_,rfl,rfl,aw,h3⟩
       ·rintro I1 hf ae _ _ ⟨rfl,rfl⟩ _ _ ⟨cD,p2,c2,rfl,rfl,aw,h3⟩;exact yW [19,23] rfl<|pQ 13 [(24,.pointer (some cD))]<|xC [] iR ⟨_,_,_,rfl,rfl,aw,h3⟩
       ·rintro I1 hf ae _ _ ⟨rfl,rfl⟩ _ _ ⟨rh,ga,c21,rfl,rfl,hat11,gt⟩;exact yW [19,24] rfl<|wC 0 hat11 [vT x1.Name.l] (vT x1.Name.l) rfl<|yQ iR
       ·intro I1 hf ae;refine yW [19,25,27] rfl<|pQ 17 [(28,.bool (!(Op.bytesLess x1.Name.l x.Name.l)))] ?_;rw[bU];exact yQ iR
       ·intro I1 hf ae;exact yW [16,19,28] rfl<|pQ 18 [(29,vY)]<|yQ iR
       ·intro I1 hf ae;exact yW [16,29] rfl<|pQ 19 [(30,vY)]<|yQ iR
       intro I1 hf ae;exact I_h [(30,vY)]<|pQ 20 [(31,vY)]<|yQ iR
      intro bP aJ;refine yW [0,5,6,7,42] rfl ?_;have H:=H.trans aJ;exact zW rfl<|wI zN<|yP<|zQ (ct pf H)
     | false=>
      have tq:=uQ bU N;obtain⟨y1,bc,N⟩:=zB tq;cases cO:(!y1) with
      | true=>
       have rt:=tI cO N;refine vK [.p (vP b 0) [],.p (vT x.Name.l) [0],.q (.bool y),.q vF,.q vF,.p (vI t7) [],.q vY,.q vY,.p (vS p ai c) [],.p (vI t7) [],.p (vI (W (t7 - 1))) [],.x (ePArr x1),.x (ePArr x1),.q (vT x1.Name.l),.p (vP b 0) [],.p (vT x.Name.l) [0],.q vF,.q vF,.q vF,.q vF,.p (vP b 1) [],.p (vS p1 x.Dims c1) [0],.p (vI (x.Dims.length:Int)) [],.q (.bool y1),.q vY,.q vY,.q vY,u9,u9,u9,.p vY []] [[],[(0,F9)],[(1,F9)],[(2,F9)],[(3,F9)],[(4,F9)],[(4,F9),(5,F9)],[(4,F9),(6,F9)],[(7,F9)],[(7,F9)],[(7,F9),(9,F9)],[(7,F9),(8,F9),(10,F9)],[(7,F9),(11,F9)],[(7,F9),(12,F9)],[(7,F9)],[(7,F9),(14,F9)],[(7,F9),(13,F9),(15,F9)],[(4,F9),(7,F9),(16,F9)],[(4,F9),(17,F9)],[(18,F9)],[(19,F9)],[(19,F9),(20,F9)],[(19,F9),(21,F9)],[(19,F9),(22,F9)],[(19,F9),(23,F9)],[(19,F9),(24,F9)],[(25,F9)],[(26,F9)],[(26,F9),(27,F9)],[(26,F9),(28,F9)],[(26,F9),(29,F9)]] [hB b (cArr x p1 c1)] [] [(30,F9)] (zX [0]) ?_ ?_
       ·refine O2<|Oq ?_<|Oq ?_<|Oq ?_<|Op<|Oq ?_<|Oq ?_<|O3<|Ox ?_<|Ox ?_<|Oq ?_<|O2<|Oq ?_<|Oq ?_<|Oq ?_<|Oq ?_<|O3<|Oq ?_<|Oq ?_<|Oq ?_<|Oq ?_<|O4<|On
        ·intro I1 hf ae;refine yW [13] rfl ?_;have H:=iS I1;refine uU (jD x.Name _ ay ) ?_;intro aT le;have H:=H.trans le;exact yQ H
        ·intro I1 hf ae;refine yW [14] rfl<|pQ 4 [(15,.bool (!y))] ?_;rw[aI];exact yQ iR
        ·intro I1 hf ae;exact I_h [(15,vF)]<|pQ 5 [(16,vF)]<|yQ iR
        ·intro I1 hf ae;refine yW [16,17] rfl<|pQ 7 [(18,.bool (decide (t7>0)))] ?_;rw[aU];exact yQ iR
        ·intro I1 hf ae;exact yW [16,18] rfl<|pQ 8 [(19,vY)]<|yQ iR
        ·intro I1 hf ae;refine yW [19,20,22] rfl ?_;have h:=h.mono ae;refine wJ rfl rfl h aK ?_;intro cD bN aw ax;obtain⟨p2,c2,rfl,h3⟩:=wN ax;exact xC [] iR ⟨_,_,_,rfl,rfl,aw,h3⟩
        ·rintro I1 hf ae _ _ ⟨rfl,rfl⟩ _ _ ⟨cD,p2,c2,rfl,rfl,aw,h3⟩;exact yW [19,23] rfl<|pQ 13 [(24,.pointer (some cD))]<|xC [] iR ⟨_,_,_,rfl,rfl,aw,h3⟩
        ·rintro I1 hf ae _ _ ⟨rfl,rfl⟩ _ _ ⟨rh,ga,c21,rfl,rfl,hat11,gt⟩;exact yW [19,24] rfl<|wC 0 hat11 [vT x1.Name.l] (vT x1.Name.l) rfl<|yQ iR
        ·intro I1 hf ae;refine yW [19,25,27] rfl<|pQ 17 [(28,.bool (!(Op.bytesLess x1.Name.l x.Name.l)))] ?_;rw[bU];exact yQ iR
        ·intro I1 hf ae;exact yW [16,19,28] rfl<|pQ 18 [(29,vF)]<|yQ iR
        ·intro I1 hf ae;exact yW [16,29] rfl<|pQ 19 [(30,vF)]<|yQ iR
        ·intro I1 hf ae;exact I_h [(30,vF)]<|pQ 20 [(31,vF)]<|yQ iR
        ·intro I1 hf ae;refine yW [31,34] rfl ?_;have H:=iS I1;refine uU (tA (x.Dims.length:Int) 1 2 _ bc ) ?_;intro cI aL;have H:=H.trans aL;exact yQ H
        ·intro I1 hf ae;refine yW [31,35] rfl<|pQ 25 [(36,.bool (!y1))] ?_;rw[cO];exact yQ iR
        ·intro I1 hf ae;exact yW [31,36] rfl<|pQ 26 [(37,vY)]<|yQ iR
        intro I1 hf ae;exact I_h [(37,vY)]<|pQ 27 [(38,vY)]<|yQ iR
       intro dw bb;refine yW [0,5,6,7,42] rfl ?_;have H:=H.trans bb;exact zW rfl<|wI zN<|yP<|zQ (ct rt H)
      | false=>
       have hM06:=uQ cO N;obtain⟨y2,bL,N⟩:=zB hM06;refine vK [.p (vP b 0) [],.p (vT x.Name.l) [0],.q (.bool y),.q vF,.q vF,.p (vI t7) [],.q vY,.q vY,.p (vS p ai c) [],.p (vI t7) [],.p (vI (W (t7 - 1))) [],.x (ePArr x1),.x (ePArr x1),.q (vT x1.Name.l),.p (vP b 0) [],.p (vT x.Name.l) [0],.q vF,.q vF,.q vF,.q vF,.p (vP b 1) [],.p (vS p1 x.Dims c1) [0],.p (vI (x.Dims.length:Int)) [],.q (.bool y1),.q vF,.q vF,.q vF,.p (vP b 1) [],.p (vS p1 x.Dims c1) [0],.q (.bool y2),.p (.bool y2) []] [[],[(0,F9)],[(1,F9)],[(2,F9)],[(3,F9)],[(4,F9)],[(4,F9),(5,F9)],[(4,F9),(6,F9)],[(7,F9)],[(7,F9)],[(7,F9),(9,F9)],[(7,F9),(8,F9),(10,F9)],[(7,F9),(11,F9)],[(7,F9),(12,F9)],[(7,F9)],[(7,F9),(14,F9)],[(7,F9),(13,F9),(15,F9)],[(4,F9),(7,F9),(16,F9)],[(4,F9),(17,F9)],[(18,F9)],[(19,F9)],[(19,F9),(20,F9)],[(19,F9),(21,F9)],[(19,F9),(22,F9)],[(19,F9),(23,F9)],[(19,F9),(24,F9)],[(25,F9)],[(26,F9)],[(26,F9),(27,F9)],[(26,F9),(28,F9)],[(26,F9),(29,F9)]] [hB b (cArr x p1 c1)] [] [(30,F9)] (zX [0]) ?_ ?_
       ·refine O2<|Oq ?_<|Oq ?_<|Oq ?_<|Op<|Oq ?_<|Oq ?_<|O3<|Ox ?_<|Ox ?_<|Oq ?_<|O2<|Oq ?_<|Oq ?_<|Oq ?_<|Oq ?_<|O3<|Oq ?_<|Oq ?_<|Oq ?_<|Oq ?_<|O2<|Oq ?_<|Op<|On
        ·intro I1 hf ae;refine yW [13] rfl ?_;have H:=iS I1;refine uU (jD x.Name _ ay ) ?_;intro aT le;have H:=H.trans le;exact yQ H
        ·intro I1 hf ae;refine yW [14] rfl<|pQ 4 [(15,.bool (!y))] ?_;rw[aI];exact yQ iR
        ·intro I1 hf ae;exact I_h [(15,vF)]<|pQ 5 [(16,vF)]<|yQ iR
        ·intro I1 hf ae;refine yW [16,17] rfl<|pQ 7 [(18,.bool (decide (t7>0)))] ?_;rw[aU];exact yQ iR
        ·intro I1 hf ae;exact yW [16,18] rfl<|pQ 8 [(19,vY)]<|yQ iR
        ·intro I1 hf ae;refine yW [19,20,22] rfl ?_;have h:=h.mono ae;refine wJ rfl rfl h aK ?_;intro cD bN aw ax;obtain⟨p2,c2,rfl,h3⟩:=wN ax;exact xC [] iR ⟨_,_,_,rfl,rfl,aw,h3⟩
        ·rintro I1 hf ae _ _ ⟨rfl,rfl⟩ _ _ ⟨cD,p2,c2,rfl,rfl,aw,h3⟩;exact yW [19,23] rfl<|pQ 13 [(24,.pointer (some cD))]<|xC [] iR ⟨_,_,_,rfl,rfl,aw,h3⟩
        ·rintro I1 hf ae _ _ ⟨rfl,rfl⟩ _ _ ⟨rh,ga,c21,rfl,rfl,hat11,gt⟩;exact yW [19,24] rfl<|wC 0 hat11 [vT x1.Name.l] (vT x1.Name.l) rfl<|yQ iR
        ·intro I1 hf ae;refine yW [19,25,27] rfl<|pQ 17 [(28,.bool (!(Op.bytesLess x1.Name.l x.Name.l)))] ?_;rw[bU];exact yQ iR
        ·intro I1 hf ae;exact yW [16,19,28] rfl<|pQ 18 [(29,vF)]<|yQ iR
        ·intro I1 hf ae;exact yW [16,29] rfl<|pQ 19 [(30,vF)]<|yQ iR
        ·intro I1 hf ae;exact I_h [(30,vF)]<|pQ 20 [(31,vF)]<|yQ iR
        ·intro I1 hf ae;refine yW [31,34] rfl ?_;have H:=iS I1;refine uU (tA (x.Dims.length:Int) 1 2 _ bc ) ?_;intro cI aL;have H:=H.trans aL;exact yQ H
        ·intro I1 hf ae;refine yW [31,35] rfl<|pQ 25 [(36,.bool (!y1))] ?_;rw[cO];exact yQ iR
        ·intro I1 hf ae;exact yW [31,36] rfl<|pQ 26 [(37,vF)]<|yQ iR
        ·intro I1 hf ae;exact I_h [(37,vF)]<|pQ 27 [(38,vF)]<|yQ iR
        intro I1 hf ae;refine yW [38,40] rfl ?_;have H:=iS I1;have ⟨h,h1⟩:=m2 ae h h1;have lJ:FV1 Tryz.prog I1 [] (.func (.func 156) ⟨[]⟩ ⟨[]⟩) rE:=by
         refine FV1.intro ?_;intro I1 ae x0 r u0 hF k0;obtain rfl:=k0;exact(zB2 x0 r hF ).mono (by rintro k i hs u ⟨v0,rfl,rfl,h⟩;exact⟨rfl,h⟩)
        refine xG (pL x.Dims rE _ bL h1 lJ) ?_;rintro gk au v2 k2 bI - ⟨ee,rfl,rfl,rfl⟩ -;have H:=H.trans bI;exact yQ H
       intro ij bJ;refine yW [0,5,6,7,42] rfl ?_;have H:=H.trans bJ;exact zW rfl<|wI zN<|yP<|zQ (ct N H)
    | false=>
     have hM07:=uQ aU lc;obtain⟨y3,bX,N⟩:=zB hM07;cases ft:(!y3) with
     | true=>
      have hM08:=tI ft N;refine vK [.p (vP b 0) [],.p (vT x.Name.l) [0],.q (.bool y),.q vF,.q vF,.p (vI t7) [],.q vF,.q vF,u9,u9,u9,u9,u9,u9,u9,u9,u9,.p vF [],.p vF [],.p vF [],.p (vP b 1) [],.p (vS p1 x.Dims c1) [0],.p (vI (x.Dims.length:Int)) [],.q (.bool y3),.q vY,.q vY,.q vY,u9,u9,u9,.p vY []] [[],[(0,F9)],[(1,F9)],[(2,F9)],[(3,F9)],[(4,F9)],[(4,F9),(5,F9)],[(4,F9),(6,F9)],[(7,F9)],[(7,F9)],[(7,F9),(9,F9)],[(7,F9),(8,F9),(10,F9)],[(7,F9),(11,F9)],[(7,F9),(12,F9)],[(7,F9)],[(7,F9),(14,F9)],[(7,F9),(13,F9),(15,F9)],[(4,F9),(7,F9),(16,F9)],[(4,F9),(17,F9)],[(18,F9)],[(19,F9)],[(19,F9),(20,F9)],[(19,F9),(21,F9)],[(19,F9),(22,F9)],[(19,F9),(23,F9)],[(19,F9),(24,F9)],[(25,F9)],[(26,F9)],[(26,F9),(27,F9)],[(26,F9),(28,F9)],[(26,F9),(29,F9)]] [hB b (cArr x p1 c1)] [] [(30,F9)] (zX [0]) ?_ ?_
      ·refine O2<|Oq ?_<|Oq ?_<|Oq ?_<|Op<|Oq ?_<|Oq ?_<|O4<|O4<|O4<|O3<|Oq ?_<|Oq ?_<|Oq ?_<|Oq ?_<|O4<|On
       ·intro I1 hf ae;refine yW [13] rfl ?_;have H:=iS I1;refine uU (jD x.Name _ ay ) ?_;intro aT le;have H:=H.trans le;exact yQ H
       ·intro I1 hf ae;refine yW [14] rfl<|pQ 4 [(15,.bool (!y))] ?_;rw[aI];exact yQ iR
       ·intro I1 hf ae;exact I_h [(15,vF)]<|pQ 5 [(16,vF)]<|yQ iR
       ·intro I1 hf ae;refine yW [16,17] rfl<|pQ 7 [(18,.bool (decide (t7>0)))] ?_;rw[aU];exact yQ iR
       ·intro I1 hf ae;exact yW [16,18] rfl<|pQ 8 [(19,vF)]<|yQ iR
       ·intro I1 hf ae;refine yW [31,34] rfl ?_;have H:=iS I1;refine uU (tA (x.Dims.length:Int) 1 2 _ bX ) ?_;intro iE bZ;have H:=H.trans bZ;exact yQ H
       ·intro I1 hf ae;refine yW [31,35] rfl<|pQ 25 [(36,.bool (!y3))] ?_;rw[ft];exact yQ iR
       ·intro I1 hf ae;exact yW [31,36] rfl<|pQ 26 [(37,vY)]<|yQ iR
       intro I1 hf ae;exact I_h [(37,vY)]<|pQ 27 [(38,vY)]<|yQ iR
      intro jx dt;refine yW [0,5,6,7,42] rfl ?_;have H:=H.trans dt;exact zW rfl<|wI zN<|yP<|zQ (ct hM08 H)
     | false=>
      have hM09:=uQ ft N;obtain⟨y4,cx,N⟩:=zB hM09;refine vK [.p (vP b 0) [],.p (vT x.Name.l) [0],.q (.bool y),.q vF,.q vF,.p (vI t7) [],.q vF,.q vF,u9,u9,u9,u9,u9,u9,u9,u9,u9,.p vF [],.p vF [],.p vF [],.p (vP b 1) [],.p (vS p1 x.Dims c1) [0],.p (vI (x.Dims.length:Int)) [],.q (.bool y3),.q vF,.q vF,.q vF,.p (vP b 1) [],.p (vS p1 x.Dims c1) [0],.q (.bool y4),.p (.bool y4) []] [[],[(0,F9)],[(1,F9)],[(2,F9)],[(3,F9)],[(4,F9)],[(4,F9),(5,F9)],[(4,F9),(6,F9)],[(7,F9)],[(7,F9)],[(7,F9),(9,F9)],[(7,F9),(8,F9),(10,F9)],[(7,F9),(11,F9)],[(7,F9),(12,F9)],[(7,F9)],[(7,F9),(14,F9)],[(7,F9),(13,F9),(15,F9)],[(4,F9),(7,F9),(16,F9)],[(4,F9),(17,F9)],[(18,F9)],[(19,F9)],[(19,F9),(20,F9)],[(19,F9),(21,F9)],[(19,F9),(22,F9)],[(19,F9),(23,F9)],[(19,F9),(24,F9)],[(25,F9)],[(26,F9)],[(26,F9),(27,F9)],[(26,F9),(28,F9)],[(26,F9),(29,F9)]] [hB b (cArr x p1 c1)] [] [(30,F9)] (zX [0]) ?_ ?_
      ·refine O2<|Oq ?_<|Oq ?_<|Oq ?_<|Op<|Oq ?_<|Oq ?_<|O4<|O4<|O4<|O3<|Oq ?_<|Oq ?_<|Oq ?_<|Oq ?_<|O2<|Oq ?_<|Op<|On
       ·intro I1 hf ae;refine yW [13] rfl ?_;have H:=iS I1;refine uU (jD x.Name _ ay ) ?_;intro aT le;have H:=H.trans le;exact yQ H
       ·intro I1 hf ae;refine yW [14] rfl<|pQ 4 [(15,.bool (!y))] ?_;rw[aI];exact yQ iR
       ·intro I1 hf ae;exact I_h [(15,vF)]<|pQ 5 [(16,vF)]<|yQ iR
       ·intro I1 hf ae;refine yW [16,17] rfl<|pQ 7 [(18,.bool (decide (t7>0)))] ?_;rw[aU];exact yQ iR
       ·intro I1 hf ae;exact yW [16,18] rfl<|pQ 8 [(19,vF)]<|yQ iR
       ·intro I1 hf ae;refine yW [31,34] rfl ?_;have H:=iS I1;refine uU (tA (x.Dims.length:Int) 1 2 _ bX ) ?_;intro iE bZ;have H:=H.trans bZ;exact yQ H
       ·intro I1 hf ae;refine yW [31,35] rfl<|pQ 25 [(36,.bool (!y3))] ?_;rw[ft];exact yQ iR
       ·intro I1 hf ae;exact yW [31,36] rfl<|pQ 26 [(37,vF)]<|yQ iR
       ·intro I1 hf ae;exact I_h [(37,vF)]<|pQ 27 [(38,vF)]<|yQ iR
       intro I1 hf ae;refine yW [38,40] rfl ?_;have H:=iS I1;have ⟨h,h1⟩:=m2 ae h h1;have tz:FV1 Tryz.prog I1 [] (.func (.func 156) ⟨[]⟩ ⟨[]⟩) rE:=by
        refine FV1.intro ?_;intro I1 ae x0 r u0 hF k0;obtain rfl:=k0;exact(zB2 x0 r hF ).mono (by rintro k i hs u ⟨v0,rfl,rfl,h⟩;exact⟨rfl,h⟩)
       refine xG (pL x.Dims rE _ cx h1 tz) ?_;rintro eg au v2 k2 bS - ⟨q8,rfl,rfl,rfl⟩ -;have H:=H.trans bS;exact yQ H
      intro hJ cb;refine yW [0,5,6,7,42] rfl ?_;have H:=H.trans cb;exact zW rfl<|wI zN<|yP<|zQ (ct N H)
  intro q7 I0 cA aO;have ⟨h,H⟩:=m2 cA h H;refine zK<|yC aO ?_ ?_
  ·intro iU N;exact vO [(2,vF)]<|xH<|zS<|zG<|zG<|hr _ _ _ _ (zC N).symm H ⟨_,_,(resT rfl),zN,⟨_,rfl,rfl,rfl⟩⟩
  intro iU N;exact zR<|zO<|zK<|zM<|yI [] [7] rfl<|xB<|jH<|ih (W (t7+1)) _ N H h hg ho hx hr
 intro hc N;exact uR<|yP<|hx _  (zC N).symm H
def eH(ai:(List zE)):Option (Bool):=do
 match<-oR ai 0 with
 | .ret r0=>pure r0
 | .done _=>
  pure (decide ((ai.length:Int)<=4))
theorem zGg:∀ai r,eH ai=some r->∀{I:Imm}{p c},(S4 I p ai c)->RT 93 [vS p ai c] I [] (zU  r):=by
 intro ai r N I p c h;unfold eH at N;refine yK func93 λB=>vO []<|zY<|yG [5,6,7] rfl<|vC<|mM [(0,vS p ai c),(5,vS p ai c),(6,vI (ai.length:Int)),(7,vI 0)] ?_;obtain⟨aS,aE,aM⟩:=zB N;refine zEW ai 0 aS aE iR h nG nO ?_ ?_
 ·intro fq  ca d7;subst aS;refine zT<|uX [2] rfl<|zK<|yX ?_;obtain rfl:=zC aM;exact vG
 intro r0 I9 gm m9 aV bS aW;subst aV;refine zS<|zG ?_;obtain rfl:=zC aM;exact fO aW
def oN(aH:List HA)(r:Int):KT:=λkk I' ah v=>
 ∃v0,aH=ah/\v=tupV [v0]/\v0=.int .i64 r
def xN(s:(List zA))(f0:(zA->Option Bool))(t8:Int):Option (Out Unit (Int)):=do
 if(decide (t8<(s.length:Int))) then
  let x<-idx s t8;let y<-f0 x;if y then pure (.ret t8)
  else xN s f0 (W (t8+1))
 else pure (.done ())
 partial_fixpoint
theorem gX(s:(List zA))(f0:(zA->Option Bool)):∀(t8:Int) (o:Out Unit (Int)),xN s f0 t8=some o->∀{B}{I0 I:Imm}{Q p c}{fv:Value}{aH:List HA},I0.le I->(S4 I p s c)->(FV1 Tryz.prog I aH fv f0)->NG Q->NO Q->(∀I',o=(.done ())->I0.le I'->T 19 B Q (.exit 0) I' aH [])->(∀r I' ah m',o=(.ret r)->I0.le I'->RS Tryz.prog f176 B (oN aH r) I' ah m'->T 19 B Q .ret I' ah m')->J Tryz.prog 19 B (nav (bodyOf f176) [1,0,1,0]) Q I aH [(0,vS p s c),(1,fv),(7,vI (s.length:Int)),(8,vI t8)]:=by
 refine xN.partial_correctness s f0 _ λaQ ih t8 o N B I0 I Q p c fv aH H h h1 hg ho hx hr=>xD hg ho<|yG [9] rfl<|zY<|yC N ?_ ?_
 ·intro hc N;refine zR<|zY<|yM<|yG [5] rfl<|yV<|zZ 3 [] [11,12,13] rfl<|bE N λx hy N=>wJ rfl rfl h hy ?_;intro ad aR av al;obtain⟨p1,c1,rfl,h2⟩:=yF al;refine wC 0 av (cAff x p1 c1) (vA (cAff x p1 c1)) rfl<|bE N λy ay N=>zMf rfl rfl h1 ay ⟨_,rfl,(yH ⟨_,rfl,h2⟩)⟩ (yk _).symm ?_;rintro I0 gx le rfl;refine uT (ah:=aH) (yk _) ?_;have ⟨h,h1,H⟩:=m3 le h h1 H;refine zW rfl<|zK<|yC N ?_ ?_
  ·intro aI N;exact yG [4] rfl<|xH<|zS<|zG<|zG<|hr _ _ _ _ (zC N).symm H ⟨_,_,(resT rfl),(λ_ h=>h),⟨_,rfl,rfl,rfl⟩⟩
  intro aI N;exact zR<|zO<|zK<|zM<|yI [] [8] rfl<|xB<|jH<|ih (W (t8+1)) _ N H h h1 hg ho hx hr
 intro hc N;exact uR<|yP<|hx _  (zC N).symm H
def uL(s:(List zA))(f0:(zA->Option Bool)):Option (Int):=do
 match<-xN s f0 0 with
 | .ret r0=>pure r0
 | .done _=>
  pure (-1)
theorem fP:∀s f0 r,uL s f0=some r->∀{I:Imm}{p c}{fv:Value}{aH:List HA},(S4 I p s c)->(FV1 Tryz.prog I aH fv f0)->RT 176 [vS p s c,fv] I aH (oN aH r):=by
 intro s f0 r N I p c fv aH h h1;unfold uL at N;refine yK func176 λB=>vO []<|zY<|yG [7,8] rfl<|vC<|mM [(0,vS p s c),(1,fv),(7,vI (s.length:Int)),(8,vI 0)] ?_;obtain⟨o0,aC,aM⟩:=zB N;refine gX s f0 0 o0 aC iR h h1 nG nO ?_ ?_
 ·intro aT  ec ae;subst o0;refine zT<|uX [4] rfl<|zK<|yX ?_;exact wD aM (resT rfl) (λ_ h=>h) ⟨_,rfl,rfl,rfl⟩
 intro r0 I9 gm m9 aV bS aW;subst aV;refine zS<|zG ?_;obtain rfl:=zC aM;exact fO aW
def jX(aH:List HA)(r:Bool):KT:=λkk I' ah v=>
 ∃v0,aH=ah/\v=tupV [v0]/\v0=.bool r
def xY(s:(List zA))(f0:(zA->Option Bool)):Option (Bool):=do
 let y<-uL s f0;pure (decide (y>=0))
theorem oJ:∀s f0 r,xY s f0=some r->∀{I:Imm}{p c}{fv:Value}{aH:List HA},(S4 I p s c)->(FV1 Tryz.prog I aH fv f0)->RT 112 [vS p s c,fv] I aH (jX aH r):=by
 intro s f0 r N I p c fv aH h h1;unfold xY at N;refine yK func112 λB=>vO []<|yV<|zZ 2 [] [5,6] rfl<|bE N λy hy N=>zGQ (hs1:=aH) (rest:=[]) rfl rfl rfl rfl (by kernel_rfl) rfl (yk _).symm (fP s f0 _ hy h h1) ?_;rintro I0 au v2 k2 le - ⟨v0,rfl,rfl,rfl⟩ -;refine uT (ah:=aH) (yk _) ?_;refine yI [] [4] rfl<|zK<|yX ?_;exact wD N (resT rfl) (λ_ h=>h) ⟨_,rfl,rfl,rfl⟩
def zAW(n0:Int):Option (Bool):=do
 let y<-uF n0 (-99) 99;pure (id y)
theorem zHZ:∀n0 r,zAW n0=some r->∀{I:Imm} ,RT 177 [vI n0] I [] (zU  r):=by
 intro n0 r N I;unfold zAW at N;refine yK func177 λB=>vO []<|yV<|zZ 1 [] [3] rfl<|bE N λy hy N=>uU (tA n0 (-99) 99 _ hy ) λI0 le=>wP [] [(2,.bool y)]<|zK<|yX ?_;obtain rfl:=zC N;exact vG
def qT(c:Int):Option (Bool):=do
 let y<-uF c (-9) 9;pure (!y)
theorem zDN:∀c r,qT c=some r->∀{I:Imm} ,RT 178 [vI c] I [] (zU  r):=by
 intro c r N I;unfold qT at N;refine yK func178 λB=>vO []<|yV<|zZ 1 [] [3] rfl<|bE N λy hy N=>uU (tA c (-9) 9 _ hy ) λI0 le=>wP [] [(2,.bool (!y))]<|zK<|yX ?_;obtain rfl:=zC N;exact vG
def qU(a0:zA):Option (Bool):=do
 let t2<-(do
  if((a0.Coefs.length:Int)==4) then
   let y<-zAW a0.Const;if y then
    let y1<-wF a0.Coefs qT;pure (!y1)
   else pure false
  else
   pure false
    : Option Bool)
 pure (id t2)
theorem mA:∀a0 r,qU a0=some r->∀{I:Imm}{p c},(S4 I p a0.Coefs c)->RT 114 [vA (cAff a0 p c)] I [] (zU  r):=by
 intro a0 r N I p c h;unfold qU at N;refine yK func114 λB=>?_;have H:=iS I;refine yB<|sF (cAff a0 p c) ?_;intro b hb;refine wP [] []<|zK<|yA ?_;refine wZ N [] (λt2=>[(2,.bool t2)]) (λo0 aC=>?_) ?_
 ·have H:=iS I;refine zM<|zZ 5 [0] [7] rfl<|xW [7] aC ?_ ?_
  ·intro hc N;refine zZ 7 [0] [9] rfl<|bE N λy hy N=>uU (zHZ a0.Const _ hy ) ?_;intro aT le;have ⟨h,H⟩:=m2 le h H;refine zZ 10 [] [12] rfl<|xW [12] N ?_ ?_
   ·intro aI N;refine zZ 12 [0] [14] rfl ?_;have lJ:FV1 Tryz.prog aT [] (.func (.func 178) ⟨[]⟩ ⟨[]⟩) qT:=by
     refine FV1.intro ?_;intro I1 ae x0 r u0 hF k0;obtain rfl:=k0;exact(zDN x0 r hF ).mono (by rintro k i hs u ⟨v0,rfl,rfl,h⟩;exact⟨rfl,h⟩)
    obtain⟨y1,ay,N⟩:=zB N;refine xG (pL a0.Coefs qT _ ay h lJ) ?_;rintro aY au v2 k2 ae - ⟨gx,rfl,rfl,rfl⟩ -;have H:=H.trans ae;exact yI [] [2] rfl<|wI zN<|yP<|zQ (ct N H)
   intro aI N;exact wP [] [(2,vF)]<|wI zN<|yP<|zQ (ct N H)
  intro hc N;exact wP [] [(2,vF)]<|wI zN<|yP<|zQ (ct N H)
 intro t2 I0 aJ aO;refine zK<|yX ?_;obtain rfl:=zC aO;exact vG
def rM(a0:zA)(n0:Int):Option (Int):=do
 let cw<-(do
  if(decide (n0>0)) then
   let x<-idx a0.Coefs (W (n0 - 1));pure (x==0)
  else
   pure false
    : Option Bool)
 if cw then rM a0 (W (n0 - 1))
 else pure (id n0)
 partial_fixpoint
theorem zC0(a0:zA):∀(n0:Int) (o:Int),rM a0 n0=some o->∀{B}{I0 I:Imm}{Q p c}{b},I0.le I->(S4 I p a0.Coefs c)->NG Q->NO Q->(∀I' ci,o=ci->I0.le I'->T 21 B Q (.exit 0) I' [] [(3,vI ci)])->J Tryz.prog 21 B (nav (bodyOf f115) [1,1,0,0]) Q I [hB b (cAff a0 p c)] [(1,vP b 0),(3,vI n0)]:=by
 refine rM.partial_correctness a0 _ λaQ ih n0 o N B I0 I Q p c b H h hg ho hx=>xD hg ho<|yA<|yA ?_;refine wZ N [hB b (cAff a0 p c)] (λcw=>[(1,vP b 0),(3,vI n0),(17,.bool cw)]) (λo0 aC=>?_) ?_
 ·have H:=iS I;refine zM<|zZ 3 [] [9] rfl<|xW [9] aC ?_ ?_
  ·intro hc N;refine zZ 7 [0] [11,13] rfl<|bE N λx hy N=>wJ rfl rfl h hy ?_;intro ad aR av al;obtain rfl:=al;exact wC 0 av [vI x] (vI x) rfl<|yI [] [17] rfl<|yP<|zQ (ct N H)
  intro hc N;exact wP [] [(17,vF)]<|yP<|zQ (ct N H)
 intro cw I0 le aO;have ⟨h,H⟩:=m2 le h H;refine zK<|yC aO ?_ ?_
 ·intro aI N;exact zR<|vC<|zM<|yI [] [3] rfl<|zO<|xB<|jH<|ih (W (n0 - 1)) _ N H h hg ho hx
 intro aI N;exact uR<|wI zN<|yP<|hx _ _ (zC N).symm H
def pT(a0:zA):Option (Int):=do
 let ci<-rM a0 (a0.Coefs.length:Int);pure (id ci)
theorem dH:∀a0 r,pT a0=some r->∀{I:Imm}{p c},(S4 I p a0.Coefs c)->RT 115 [vA (cAff a0 p c)] I [] (xI  r):=by
 intro a0 r N I p c h;unfold pT at N;refine yK func115 λB=>yB<|sF (cAff a0 p c) ?_;intro b hb;refine wP [] []<|yV<|yI [0] [3] rfl<|zY<|yM<|mM [(1,vP b 0),(3,vI (a0.Coefs.length:Int))] ?_;obtain⟨aS,aE,aM⟩:=zB N;refine zC0 a0 (a0.Coefs.length:Int) aS aE iR h nG nO ?_;intro aT ci ca ae;subst aS;refine zT<|uX [2] rfl<|zK<|yX ?_;obtain rfl:=zC aM;exact vG
end Go.LN
