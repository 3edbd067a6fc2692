/- Helper of the proof (see the last text). -/
import Derived.Test.YtkipogionmkncaaGreatDoorHM5
set_option linter.unusedVariables false
set_option linter.unusedSimpArgs false
namespace Go.LN
open Go.Proofs Go.Proofs.Tryz
set_option maxRecDepth 20000
def sG(x:zE)(aD:Str)(iQ:Int):Option (Str):=do
 if(decide (iQ<(x.Dims.length:Int))) then
  let x1<-idx x.Dims iQ;let y<-kS x1;let s2<-cat (⟨[32]⟩:Str) y;let s3<-cat aD s2;sG x s3 (W (iQ+1))
 else pure (id aD)
 partial_fixpoint
theorem zCp(x:zE):∀(aD:Str) (iQ:Int) (o:Str),sG x aD iQ=some o->∀{B}{I0 I:Imm}{Q}{p:zH}{f7:Int}{p1 c p2 c1}{b}{p3 c2},I0.le I->(S4 I p1 p.Arrays c)->(S4 I p3 x.Dims c2)->(S4 I p2 p.Parts c1)->(GH Tryz.prog I)->NG Q->NO Q->(∀I' bR,o=bR->I0.le I'->T 68 B Q (.exit 2) I' [hB b (cProg p p1 c p2 c1)] [(1,vP b 0),(3,vT bR.l),(13,vS p1 p.Arrays c),(14,vI (p.Arrays.length:Int)),(15,vI f7)])->J Tryz.prog 68 B (nav (bodyOf f36) [1,1,0,1,0,0,1,1,0,0,1,1,0,1,0]) Q I [hB b (cProg p p1 c p2 c1)] [(1,vP b 0),(3,vT aD.l),(13,vS p1 p.Arrays c),(14,vI (p.Arrays.length:Int)),(15,vI f7),(25,vS p3 x.Dims c2),(26,vI (x.Dims.length:Int)),(27,vI iQ)]:=by
 refine sG.partial_correctness x _ λaQ ih aD iQ o N B I0 I Q p f7 p1 c p2 c1 b p3 c2 H h h2 h1 hG hg ho hx=>xD hg ho<|yG [28] rfl<|zY<|yC N ?_ ?_
 ·intro aI N;refine zR<|zY<|yM<|yB<|bE N λx1 bc N=>wJ rfl rfl h2 bc ?_;intro cD bN aw ax;obtain rfl:=ax;refine wC 0 aw [vI x1] (vI x1) rfl<|yI [] [7] rfl<|zK<|zM<|zZ 2 [] [31,32] rfl<|bE N λy bL N=>xG (zAD x1 _ bL hG) ?_;rintro I0 au v2 k2 le - ⟨gx,rfl,rfl,rfl⟩ -;have ⟨h,h2,h1,hG,H⟩:=m5 le h h2 h1 hG H;obtain⟨s2,bX,N⟩:=zB N;exact qP rfl bX<|bE N λs3 cx N=>qP rfl cx<|yI [] [3] rfl<|zO<|zK<|zM<|yI [] [27] rfl<|xB<|jH<|ih s3 (W (iQ+1)) _ N H h h2 h1 hG hg ho hx
 intro aI N;exact uR<|yP<|hx _ _ (zC N).symm H
def qG(p:zH)(out:Str)(f7:Int):Option (Str):=do
 if(decide (f7<(p.Arrays.length:Int))) then
  let x<-idx p.Arrays f7;let s<-cat (⟨[97,114,114,97,121,32]⟩:Str) x.Name;let s1<-cat out s;let bR<-sG x s1 0;let s4<-cat bR (⟨[10]⟩:Str);qG p s4 (W (f7+1))
 else pure (id out)
 partial_fixpoint
theorem zCq(p:zH):∀(out:Str) (f7:Int) (o:Str),qG p out f7=some o->∀{B}{I0 I:Imm}{Q p1 c p2 c1}{b},I0.le I->(S4 I p1 p.Arrays c)->(S4 I p2 p.Parts c1)->(GH Tryz.prog I)->NG Q->NO Q->(∀I' aq,o=aq->I0.le I'->T 68 B Q (.exit 0) I' [hB b (cProg p p1 c p2 c1)] [(1,vP b 0),(3,vT aq.l)])->J Tryz.prog 68 B (nav (bodyOf f36) [1,1,0,1,0]) Q I [hB b (cProg p p1 c p2 c1)] [(1,vP b 0),(3,vT out.l),(13,vS p1 p.Arrays c),(14,vI (p.Arrays.length:Int)),(15,vI f7)]:=by
 refine qG.partial_correctness p _ λaQ ih out f7 o N B I0 I Q p1 c p2 c1 b H h h1 hG hg ho hx=>xD hg ho<|yG [16] rfl<|zY<|yC N ?_ ?_
 ·intro hc N;refine zR<|zY<|yM<|yB<|bE N λx hy N=>wJ rfl rfl h hy ?_;intro ad aR av al;obtain⟨p3,c2,rfl,h2⟩:=wN al;refine wC 0 av (cArr x p3 c2) (vA (cArr x p3 c2)) rfl<|wT [vT ([]),z0] ?_;intro b1 cp;refine yZ 0 (cArr x p3 c2) rfl<|zW rfl<|yV<|zZ 3 [0] [19,21] rfl<|bE N λs ay N=>qP rfl ay<|bE N λs1 aK N=>qP rfl aK<|yI [] [3] rfl<|zY<|yB<|yI [0] [25,26,27] rfl<|vC<|kT (zX [1] (ah:=[hB b (cProg p p1 c p2 c1)]))<|mM [(1,vP b 0),(3,vT s1.l),(13,vS p1 p.Arrays c),(14,vI (p.Arrays.length:Int)),(15,vI f7),(25,vS p3 x.Dims c2),(26,vI (x.Dims.length:Int)),(27,vI 0)] ?_;obtain⟨o0,aC,aM⟩:=zB N;refine zCp x s1 0 o0 aC iR h h2 h1 hG (λ_ _ _ h=>hg _ _ _ h) (λ_ _ h=>ho _ _ h) ?_;intro aT bR ec ae;subst o0;have ⟨h,h1,hG,H⟩:=m4 ae h h1 hG H;refine zT<|zK<|zM<|zZ 1 [] [37] rfl ?_;obtain⟨s4,cV,N⟩:=zB aM;exact qP rfl cV<|yI [] [3] rfl<|zO<|zK<|zM<|yI [] [15] rfl<|xB<|jH<|ih s4 (W (f7+1)) _ N H h h1 hG hg ho hx
 intro hc N;exact uR<|yP<|hx _ _ (zC N).symm H
def qH(x2:zL)(gj:Str)(nj:Int):Option (Str):=do
 if(decide (nj<(x2.Body.length:Int))) then
  let x3<-idx x2.Body nj;let y2<-gE x3;let s7<-cat y2 (⟨[10]⟩:Str);let s8<-cat gj s7;qH x2 s8 (W (nj+1))
 else pure (id gj)
 partial_fixpoint
theorem zCr(x2:zL):∀(gj:Str) (nj:Int) (o:Str),qH x2 gj nj=some o->∀{B}{I0 I:Imm}{Q}{p:zH}{lQ:Int}{p2 c1 p5 c4},I0.le I->(S4 I p2 p.Parts c1)->(S4 I p5 x2.Body c4)->(GH Tryz.prog I)->NG Q->NO Q->(∀I' kj,o=kj->I0.le I'->T 68 B Q (.exit 6) I' [] [(3,vT kj.l),(41,vS p2 p.Parts c1),(42,vI (p.Parts.length:Int)),(43,vI lQ)])->J Tryz.prog 68 B (nav (bodyOf f36) [1,1,1,0,1,0,0,1,1,0,0,1,1,1,0]) Q I [] [(3,vT gj.l),(41,vS p2 p.Parts c1),(42,vI (p.Parts.length:Int)),(43,vI lQ),(54,vS p5 x2.Body c4),(55,vI (x2.Body.length:Int)),(56,vI nj)]:=by
 refine qH.partial_correctness x2 _ λaQ ih gj nj o N B I0 I Q p lQ p2 c1 p5 c4 H h1 h5 hG hg ho hx=>xD hg ho<|yG [57] rfl<|zY<|yC N ?_ ?_
 ·intro bU N;refine zR<|zY<|yM<|yB<|bE N λx3 en N=>wJ rfl rfl h5 en ?_;intro ri kx ek cJ;obtain⟨p6,c5,p7,c6,p8,c7,p9,c8,rfl,h7,h8,h9,bQ⟩:=rJ cJ;refine wC 0 ek (cStmt x3 p6 c5 p7 c6 p8 c7 p9 c8) (vA (cStmt x3 p6 c5 p7 c6 p8 c7 p9 c8)) rfl<|wT [vT ([]),z0,vI 0,vI 0,z0,vI 0,vT ([]),z0,z0] ?_;intro b3 ni;refine yZ 0 (cStmt x3 p6 c5 p7 c6 p8 c7 p9 c8) rfl<|zW rfl<|zK<|zM<|qO 2 [0] [(60,vT gj.l),(61,vA (cStmt x3 p6 c5 p7 c6 p8 c7 p9 c8))]<|bE N λy2 iA N=>xG (zC6 x3 _ iA h7 h8 h9 bQ hG) ?_;rintro cI au v2 k2 bb - ⟨v09,rfl,rfl,rfl⟩ -;have ⟨h1,h5,hG,H⟩:=m4 bb h1 h5 hG H;obtain⟨s7,jt,N⟩:=zB N;exact qP rfl jt<|bE N λs8 lK N=>qP rfl lK<|yI [] [3] rfl<|zO<|zK<|zM<|yI [] [56] rfl<|xB<|kT zN<|jH<|ih s8 (W (nj+1)) _ N H h1 h5 hG hg ho hx
 intro bU N;exact uR<|yP<|hx _ _ (zC N).symm H
def qI(p:zH)(dn:Str)(lQ:Int):Option (Str):=do
 if(decide (lQ<(p.Parts.length:Int))) then
  let x2<-idx p.Parts lQ;let y1<-eI x2.Nest;let s5<-cat (⟨[112,97,114,116,10]⟩:Str) y1;let s6<-cat dn s5;let kj<-qH x2 s6 0;qI p kj (W (lQ+1))
 else pure (id dn)
 partial_fixpoint
theorem zCs(p:zH):∀(dn:Str) (lQ:Int) (o:Str),qI p dn lQ=some o->∀{B}{I0 I:Imm}{Q p2 c1},I0.le I->(S4 I p2 p.Parts c1)->(GH Tryz.prog I)->NG Q->NO Q->(∀I' fx,o=fx->I0.le I'->T 68 B Q (.exit 4) I' [] [(3,vT fx.l)])->J Tryz.prog 68 B (nav (bodyOf f36) [1,1,1,0,1,0]) Q I [] [(3,vT dn.l),(41,vS p2 p.Parts c1),(42,vI (p.Parts.length:Int)),(43,vI lQ)]:=by
 refine qI.partial_correctness p _ λaQ ih dn lQ o N B I0 I Q p2 c1 H h1 hG hg ho hx=>xD hg ho<|yG [44] rfl<|zY<|yC N ?_ ?_
 ·intro aU N;refine zR<|zY<|yM<|yB<|bE N λx2 eo N=>wJ rfl rfl h1 eo ?_;intro jm gn cd bO;obtain⟨p4,c3,p5,c4,rfl,h4,h5⟩:=uK bO;refine wC 0 cd (cPart x2 p4 c3 p5 c4) (vA (cPart x2 p4 c3 p5 c4)) rfl<|wT zTwo ?_;intro b2 fl;refine yZ 0 (cPart x2 p4 c3 p5 c4) rfl<|zW rfl<|yV<|zZ 3 [0] [47,49] rfl<|bE N λy1 gi N=>xG (zGi x2.Nest _ gi h4 hG) ?_;rintro bP au v2 k2 aL - ⟨ee,rfl,rfl,rfl⟩ -;have ⟨h1,h5,hG,H⟩:=m4 aL h1 h5 hG H;obtain⟨s5,cU,N⟩:=zB N;refine qP rfl cU<|bE N λs6 dr N=>qP rfl dr<|yI [] [3] rfl<|yV<|yI [0] [54,55,56] rfl<|vC<|kT (zX [] (ah:=[]))<|mM [(3,vT s6.l),(41,vS p2 p.Parts c1),(42,vI (p.Parts.length:Int)),(43,vI lQ),(54,vS p5 x2.Body c4),(55,vI (x2.Body.length:Int)),(56,vI 0)] ?_;obtain⟨dd,bh,iv⟩:=zB N;refine zCr x2 s6 0 dd bh iR h1 h5 hG (λ_ _ _ h=>hg _ _ _ h) (λ_ _ h=>ho _ _ h) ?_;intro dw kj jo bI;subst dd;have ⟨h1,hG,H⟩:=m3 bI h1 hG H;exact zT<|zO<|zK<|zM<|yI [] [43] rfl<|xB<|jH<|ih kj (W (lQ+1)) _ iv H h1 hG hg ho hx
 intro aU N;exact uR<|yP<|hx _ _ (zC N).symm H
def kE(p:zH):Option (Str):=do
 let aq<-qG p (⟨qL1⟩:Str) 0;let fx<-qI p aq 0;pure (id fx)
theorem zBF:∀p r,kE p=some r->∀{I:Imm}{p1 c p2 c1},(S4 I p1 p.Arrays c)->(S4 I p2 p.Parts c1)->(GH Tryz.prog I)->RT 36 [vA (cProg p p1 c p2 c1)] I [] (xM  r):=by
 intro p r N I p1 c p2 c1 h h1 hG;unfold kE at N;refine yK func36 λB=>yB<|sF (cProg p p1 c p2 c1) ?_;intro b hb;refine wP [] []<|uX [3] rfl<|zY<|yB<|yI [0] [13,14,15] rfl<|vC<|mM [(1,vP b 0),(3,vT (qL1)),(13,vS p1 p.Arrays c),(14,vI (p.Arrays.length:Int)),(15,vI 0)] ?_;obtain⟨aS,aE,dc⟩:=zB N;refine zCq p (⟨qL1⟩:Str) 0 aS aE iR h h1 hG nG nO ?_;intro aY aq ca aJ;subst aS;have ⟨h,h1,hG⟩:=m3 aJ h h1 hG;refine zT<|zY<|yB<|yI [0] [41,42,43] rfl<|vC<|kT (zX [] (ah:=[]))<|mM [(3,vT aq.l),(41,vS p2 p.Parts c1),(42,vI (p.Parts.length:Int)),(43,vI 0)] ?_;obtain⟨fw,cu,hMl3⟩:=zB dc;refine zCs p aq 0 fw cu iR h1 hG nG nO ?_;intro gk fx lI bJ;subst fw;refine zT<|uX [2] rfl<|zK<|yX ?_;obtain rfl:=zC hMl3;exact vG
def qW(p:zH):Option (Str):=do
 let y<-pX p;if(!y) then pure (⟨[]⟩:Str)
 else
  let y1<-kE p;pure (id y1)
theorem zA5:∀p r,qW p=some r->∀{I:Imm}{p1 c p2 c1},(S4 I p1 p.Arrays c)->(S4 I p2 p.Parts c1)->(GH Tryz.prog I)->RT 8 [vA (cProg p p1 c p2 c1)] I [] (xM  r):=by
 intro p r N I p1 c p2 c1 h h1 hG;unfold qW at N;refine yK func8 λB=>yB<|sF (cProg p p1 c p2 c1) ?_;intro b hb;refine wP [] []<|zY<|yB<|qO 1 [0] [(3,vA (cProg p p1 c p2 c1))]<|bE N λy hy N=>uU (oZ p _ hy h h1) ?_;intro I0 le;have ⟨h,h1,hG⟩:=m3 le h h1 hG;refine yI [] [5] rfl<|zK<|yC N ?_ ?_
 ·intro hc N;refine yG [2] rfl<|xH<|zG ?_;obtain rfl:=zC N;exact vG
 intro hc N;refine zR<|yV<|qO 1 [0] [(6,vA (cProg p p1 c p2 c1))]<|bE N λy1 ay N=>xG (zBF p _ ay h h1 hG) ?_;rintro aT au v2 k2 ae - ⟨gx,rfl,rfl,rfl⟩ -;refine yI [] [2] rfl<|zK<|yX ?_;obtain rfl:=zC N;exact vG
def zEz(r:List Str):KT:=λkk I' ah v=>
 ∃v0,ah=[]/\v=tupV [v0]/\SL I' v0 r
def oL(s:Str)(sep:Str):Option (List Str):=if s.l.length<4294967281/\1<=sep.l.length then some (splitM s sep) else none
theorem dM:∀(s sep:Str) r,oL s sep=some r->∀{I:Imm},GH Tryz.prog I->RT 37 [vT s.l,vT sep.l] I [] (zEz r):=by
 intro s sep r N I hG;unfold oL at N;split at N
 ·rename_i hi;cases N
  obtain ⟨g,hg,hm⟩:=hG.ml;obtain rfl:g=0:=(Option.some.inj ((show Tryz.prog.globalNamed "internal/bytealg.MaxLen"=some 0 by kernel_rfl).symm.trans hg)).symm;exact zNV hi.1 hi.2 hm Tryz.strings_Split fun k I' a c hl h=>⟨_,rfl,rfl,h⟩
 cases N
def zAA(s:zI):Option (Bool):=do
 let y<-jO s 4;pure (id y)
theorem zIP:∀s r,zAA s=some r->∀{I:Imm}{p c p1 c1 p2 c2 p3 c3},(S4 I p s.Write.Subs c)->(S4 I p1 s.Value.Index.Coefs c1)->(S4 I p2 s.Value.Read.Subs c2)->(S4 I p3 s.Value.Kids c3)->RT 73 [vA (cStmt s p c p1 c1 p2 c2 p3 c3)] I [] (zU  r):=by
 intro s r N I p c p1 c1 p2 c2 p3 c3 h h1 h2 h3;unfold zAA at N;refine yK func73 λB=>yB<|sF (cStmt s p c p1 c1 p2 c2 p3 c3) ?_;intro b hb;refine wP [] []<|yV<|qO 1 [0] [(3,vA (cStmt s p c p1 c1 p2 c2 p3 c3))]<|bE N λy hy N=>uU (zBr s 4 _ hy h h1 h2 h3) λI0 le=>wP [] [(2,.bool y)]<|zK<|yX ?_;obtain rfl:=zC N;exact vG
def zDR(b0:Nat)(r:UInt8×yU):KT:=λkk I' ah v=>
 ∃v0 k0,ah=[.blk b0 ⟨k0⟩]/\v=tupV [v0]/\v0=.int .u8 (r.1.toNat:Int)/\Rp.rep I' k0 r.2
def vL(r0:yU):Option (UInt8×yU):=do
 let q5<-(do
  if r0.bad then pure true
  else
   pure (r0.s.l==([]:List UInt8))
    : Option Bool)
 if q5 then pure ((0:UInt8),r0)
 else
  let b<-sidx r0.s 0;pure (b,r0)
theorem zBG:∀r0 r,vL r0=some r->∀{I:Imm}{ap},RT 128 [vP ap 0] I [hB ap [vT r0.s.l,.bool r0.bad]] (zDR ap r):=by
 intro r0 r N I ap;unfold vL at N;refine yK func128 λB=>?_;have H:=iS I;refine vO []<|zY<|yA ?_;refine wZ N [hB ap [vT r0.s.l,.bool r0.bad]] (λq5=>[(0,vP ap 0),(13,.bool q5)]) (λo0 aC=>?_) ?_
 ·have H:=iS I;refine zM<|zZ 5 [0] [7] rfl<|xW [7] aC ?_ ?_
  ·intro hc N;exact wP [] [(13,vY)]<|yP<|zQ (ct N H)
  intro hc N;exact yI [0] [13] rfl<|yP<|zQ (ct N H)
 intro q5 I0 le aO;refine zK<|yC aO ?_ ?_
 ·intro aI N;refine yG [2] rfl<|xH<|zG ?_;exact wD N (resT rfl) (zV [0] rfl (by decide)) ⟨_,_,rfl,rfl,rfl,(tG rfl)⟩
 intro aI N;refine zR<|yV<|zZ 4 [0] [17] rfl<|bE N λb hy N=>zA3 rfl rfl hy<|yI [] [2] rfl<|zK<|yX ?_;exact wD N (resT rfl) (zV [0] rfl (by decide)) ⟨_,_,rfl,rfl,rfl,(tG rfl)⟩
def zDl(b0:Nat)(r:UInt8×yU):KT:=λkk I' ah v=>
 ∃v0 k0,ah=[.blk b0 ⟨k0⟩]/\v=tupV [v0]/\v0=.int .u8 (r.1.toNat:Int)/\Rp.rep I' k0 r.2
def tQ(r0:yU):Option (UInt8×yU):=do
 let (y1,y2)<-vL r0;if((y1.toNat:Int)==0) then pure ((0:UInt8),(yU.mk y2.s true))
 else
  let s<-sslc y2.s 1 (y2.s.l.length:Int);pure (y1,(yU.mk s y2.bad))
theorem jS:∀r0 r,tQ r0=some r->∀{I:Imm}{ap},RT 126 [vP ap 0] I [hB ap [vT r0.s.l,.bool r0.bad]] (zDl ap r):=by
 intro r0 r N I ap;unfold tQ at N;refine yK func126 λB=>vO []<|yV<|zZ 1 [] [4] rfl ?_;obtain⟨⟨y1,y2⟩,hy,N⟩:=zB N;refine tU (zBG r0 _ hy ) rfl ?_;rintro I0 au v2 k2 le - ⟨v0,kk,rfl,rfl,rfl,h1⟩ -;obtain rfl:=wV h1;refine yI [] [3] rfl<|zY<|yG [7] rfl<|zK<|yC N ?_ ?_
 ·intro hc N;refine yB<|zZ 3 [] [10] rfl<|yZ 0 [vT y2.s.l,vY] rfl<|zW rfl<|uX [2] rfl<|xH<|zG ?_;exact wD N (resT rfl) (zV [0] rfl (by decide)) ⟨_,_,rfl,rfl,rfl,(tG rfl)⟩
 intro hc N;refine zR<|yV<|zZ 5 [0] [11,15] rfl ?_;obtain⟨s,ay,N⟩:=zB N;refine zB8 rfl ay<|zZ 8 [] [18] rfl<|yZ 0 [vT s.l,.bool y2.bad] rfl<|zW rfl<|uX [2] rfl<|zK<|yX ?_;exact wD N (resT rfl) (zV [0] rfl (by decide)) ⟨_,_,rfl,rfl,rfl,(tG rfl)⟩
def zDS(b0:Nat)(r:yU):KT:=λkk I' ah v=>
 ∃k0,ah=[.blk b0 ⟨k0⟩]/\v=tupV []/\Rp.rep I' k0 r
def rQ(r0:yU)(b:UInt8):Option (yU):=do
 let x<-(do
  let (y1,y2)<-tQ r0;if((y1.toNat:Int) != (b.toNat:Int)) then pure (yU.mk y2.s true)
  else
   pure (id y2)
    : Option yU)
 pure (id x)
theorem dR:∀r0 b r,rQ r0 b=some r->∀{I:Imm}{ap},RT 76 [vP ap 0,.int .u8 (b.toNat:Int)] I [hB ap [vT r0.s.l,.bool r0.bad]] (zDS ap r):=by
 intro r0 b r N I ap;unfold rQ at N;refine yK func76 λB=>?_;have H:=iS I;obtain⟨o0,aC,aO⟩:=zB N;refine rR (λI' ah m'=>∃(x:yU),o0=x/\I.le I'/\ah=[hB ap [vT x.s.l,.bool x.bad]]/\m'=[]) ?_ ?_
 ·have H:=iS I;refine zM<|zZ 2 [] [4,5] rfl ?_;obtain⟨⟨y1,y2⟩,hy,N⟩:=zB aC;refine tU (jS r0 _ hy ) rfl ?_;rintro aT au v2 k2 le - ⟨v0,kk,rfl,rfl,rfl,h1⟩ -;have H:=H.trans le;obtain rfl:=wV h1;refine zZ 6 [] [9] rfl<|xW [9] N ?_ ?_
  ·intro hc N;exact zZ 13 [] [14,16] rfl<|yZ 0 [vT y2.s.l,vY] rfl<|zW rfl<|yP<|zQ (ct N H)
  intro hc N;exact zZ 13 [0] [14,16] rfl<|yZ 0 [vT y2.s.l,.bool y2.bad] rfl<|zW rfl<|yP<|zQ (ct N H)
 rintro I0 au m2 ⟨x,ec,ae,rfl,rfl⟩;subst o0;obtain rfl:=zC aO;exact zQK ⟨_,_,ResV.nil,(zV [0] rfl (by decide)),⟨_,rfl,rfl,(tG rfl)⟩⟩
def zFp(r:Int×Bool):KT:=λkk I' ah v=>
 ∃(v0 v1:Value),ah=[]/\v=tupV [v0,v1]/\v0=.int .i64 r.1/\ErrV v1 r.2
def tC(s:Str):Option (Int×Bool):=if s.l.length<=281474976710656 then some (atoiM s) else none
theorem zAz:∀s r,tC s=some r->∀{I:Imm},GH Tryz.prog I->RT 90 [vT s.l] I [] (zFp r):=by
 intro s r N I hG;unfold tC at N;split at N
 ·rename_i hi;cases N
  obtain ⟨g,hg,h1⟩:=hG.es;obtain rfl:g=1:=(Option.some.inj ((show Tryz.prog.globalNamed "strconv.ErrSyntax"=some 1 by kernel_rfl).symm.trans hg)).symm;obtain ⟨g,hg,h2⟩:=hG.er;obtain rfl:g=2:=(Option.some.inj ((show Tryz.prog.globalNamed "strconv.ErrRange"=some 2 by kernel_rfl).symm.trans hg)).symm;exact zOL hi h1 h2 Tryz.strconv_Atoi_ok Tryz.strconv_Atoi_syntax Tryz.strconv_Atoi_range fun k v h=>⟨_,_,rfl,rfl,rfl,h⟩
 cases N
def gF(s:Str)(substr:Str):Option Int:=if s.l.length<4294967281 then some (Lib.index s.l substr.l) else none
theorem zGk:∀(s substr:Str) r,gF s substr=some r->∀{I:Imm},GH Tryz.prog I->RT 150 [vT s.l,vT substr.l] I [] (xI r):=by
 intro s substr r N I hG;unfold gF at N;split at N
 ·rename_i hi;cases N
  obtain ⟨g,hg,m,hm⟩:=hG.ml;obtain rfl:g=0:=(Option.some.inj ((show Tryz.prog.globalNamed "internal/bytealg.MaxLen"=some 0 by kernel_rfl).symm.trans hg)).symm;exact zAa (fun w g=>(Tryz.strings_Index ⟨⟨s.l⟩⟩ ⟨⟨substr.l⟩⟩ m w hi (g.cell hm)).mono fun e w' ⟨h1,h2⟩=>⟨h1,h2 ▸ RowKit.Below.refl _ _⟩) fun k=>⟨_,rfl,rfl,rfl⟩
 cases N
def zAE(n0:Int):Option (zA):=do
 let l<-mkrow 8 4 (0:Int);pure (zA.mk l n0)
theorem zGl:∀n0 r,zAE n0=some r->∀{I:Imm} ,RT 184 [vI n0] I [] (zAc  r):=by
 intro n0 r N I;unfold zAE at N;refine yK func184 λB=>yB<|wT [z0,vI 0] ?_;intro b hb;refine zW rfl<|yV<|bE N λl hy N=>zRQ 8 [vI 0] rfl hy rfl ?_;intro b1 cs h;refine zZ 3 [] [5] rfl<|yZ 1 [vS (some ⟨b1,0,none⟩) l l.length,vI n0] rfl<|zW rfl<|zK<|yX ?_;exact wD N (resC 1 rfl rfl) (zV [0] rfl (by decide)) ⟨_,_,_,rfl,rfl,h⟩
def jT(s:Str)(chars:Str):Option Int:=if(s.l.length<4294967281/\chars.l.length<4294967281)/\asc s.l=true/\asc chars.l=true then some (Lib.indexAny s.l chars.l) else none
theorem zEY:∀(s chars:Str) r,jT s chars=some r->∀{I:Imm},RT 185 [vT s.l,vT chars.l] I [] (xI r):=by
 intro s chars r N I;unfold jT at N;split at N
 ·rename_i hi;cases N
  exact zAa (λw g=>Tryz.strings_IndexAny_laid ⟨⟨s.l⟩⟩ ⟨⟨chars.l⟩⟩ w hi.1.1 hi.1.2 (zMG hi.2.1) (zMG hi.2.2)) λk=>⟨_,rfl,rfl,rfl⟩
 cases N
def jU(s:Str)(cutset:Str):Option Str:=if cutset.l.length<4294967281/\asc cutset.l=true then some ⟨Lib.trimLeftS s.l cutset.l⟩ else none
theorem zEZ:∀(s cutset:Str) r,jU s cutset=some r->∀{I:Imm},RT 186 [vT s.l,vT cutset.l] I [] (xM r):=by
 intro s cutset r N I;unfold jU at N;split at N
 ·rename_i hi;cases N
  exact zAa (λw g=>Tryz.strings_TrimLeft_laid ⟨⟨s.l⟩⟩ ⟨⟨cutset.l⟩⟩ w hi.1 (zMG hi.2)) λk=>⟨_,rfl,rfl,rfl⟩
 cases N
def M.internal_stringslite_HasSuffix(s:Str)(bC:Str):Option (Bool):=do
 let t4<-(do
  if(decide ((s.l.length:Int)>=(bC.l.length:Int))) then
   let s1<-sslc s (W ((s.l.length:Int) - (bC.l.length:Int))) (s.l.length:Int);pure (s1.l==bC.l)
  else
   pure false
    : Option Bool)
 pure (id t4)
theorem zAP:∀s bC r,M.internal_stringslite_HasSuffix s bC=some r->∀{I:Imm} ,RT 248 [vT s.l,vT bC.l] I [] (zU  r):=by
 intro s bC r N I;unfold M.internal_stringslite_HasSuffix at N;refine yK func248 λB=>?_;have H:=iS I;refine vO []<|zK<|yA ?_;refine wZ N [] (λt4=>[(4,.bool t4)]) (λo0 aC=>?_) ?_
 ·have H:=iS I;refine zM<|zZ 6 [] [10] rfl<|xW [10] aC ?_ ?_
  ·intro hc N;exact zZ 12 [] [11,16] rfl<|bE N λs1 hy N=>zB8 rfl hy<|yI [] [4] rfl<|yP<|zQ (ct N H)
  intro hc N;exact wP [] [(4,vF)]<|yP<|zQ (ct N H)
 intro t4 I0 le aO;refine zK<|yX ?_;obtain rfl:=zC aO;exact vG
def M.internal_stringslite_TrimSuffix(s:Str)(bC:Str):Option (Str):=do
 let y<-M.internal_stringslite_HasSuffix s bC;if y then
  let s1<-sslc s 0 (W ((s.l.length:Int) - (bC.l.length:Int)));pure (id s1)
 else pure (id s)
theorem zAJ:∀s bC r,M.internal_stringslite_TrimSuffix s bC=some r->∀{I:Imm} ,RT 227 [vT s.l,vT bC.l] I [] (xM  r):=by
 intro s bC r N I;unfold M.internal_stringslite_TrimSuffix at N;refine yK func227 λB=>vO []<|zY<|yB<|zZ 2 [] [5,6] rfl<|bE N λy hy N=>uU (zAP s bC _ hy ) λI0 le=>zW rfl<|zK<|yC N ?_ ?_
 ·intro hc N;refine yB<|zZ 6 [] [8,13] rfl<|bE N λs1 ay N=>zB8 rfl ay<|yI [] [4] rfl<|xH<|zG ?_;obtain rfl:=zC N;exact vG
 intro hc N;refine zR<|uX [4] rfl<|zK<|yX ?_;obtain rfl:=zC N;exact vG
def nC(s:Str)(bC:Str):Option (Str):=do
 let y<-M.internal_stringslite_TrimSuffix s bC;pure (id y)
theorem zA6:∀s bC r,nC s bC=some r->∀{I:Imm} ,RT 187 [vT s.l,vT bC.l] I [] (xM  r):=by
 intro s bC r N I;unfold nC at N;refine yK func187 λB=>vO []<|yV<|zZ 2 [] [5,6] rfl<|bE N λy hy N=>xG (zAJ s bC _ hy ) ?_;rintro I0 au v2 k2 le - ⟨v0,rfl,rfl,rfl⟩ -;refine yI [] [4] rfl<|zK<|yX ?_;obtain rfl:=zC N;exact vG
def yY(rest:Str)(x:zA)(Coefs:List Int)(Const:Int):Option (Out (zA×List Int×Int) (zA×Bool)):=do
 if(!(rest.l==([]:List UInt8))) then
  let t30<-(do
   let b2<-sidx rest 0;if((b2.toNat:Int)==43) then pure true
   else
    let b3<-sidx rest 0;pure ((b3.toNat:Int)==45)
     : Option Bool)
  let (iD,qk)<-(do
   if t30 then
    let b4<-sidx rest 0;let rj<-(do
     if((b4.toNat:Int)==45) then pure (-1)
     else
      pure (id 1)
       : Option Int)
    let s<-sslc rest 1 (rest.l.length:Int);pure (s,rj)
   else
    pure (rest,1)
     : Option (Str×Int))
  let y1<-jT iD (⟨[43,45]⟩:Str);let cY<-(do
   if(decide (y1<0)) then pure (iD.l.length:Int)
   else
    pure (id y1)
     : Option Int)
  let s1<-sslc iD 0 cY;let s2<-sslc iD cY (iD.l.length:Int);let y2<-jU s1 (⟨[48,49,50,51,52,53,54,55,56,57,42]⟩:Str);let y3<-nC s1 y2;let y4<-nC y3 (⟨[42]⟩:Str)
  match<-(do
   if(!(y4.l==([]:List UInt8))) then
    let (y6,y7)<-tC y4;let ws<-(do
     if y7 then pure true
     else
      pure (decide (y6>1000))
       : Option Bool)
    if ws then pure (.ret ((zA.mk ([]:List Int) 0),F9))
    else pure (.done (y6,x))
   else
    pure (.done (1,x))
     : Option (Out (Int×zA) (zA×Bool))) with
  | .ret r0=>pure (.ret r0)
  | .done (n0,x2)=>
   let y8<-gF (⟨[105,106,107,108]⟩:Str) y2
   match<-(do
    if(y2.l==([]:List UInt8)) then pure (.done (x2,Coefs,(W (Const+(W (qk*n0))))))
    else
     let ur<-(do
      if((y2.l.length:Int)==1) then pure (decide (y8>=0))
      else
       pure false
        : Option Bool)
     if ur then
      let x4<-idx Coefs y8;let x5<-idx Coefs y8;let l<-pure (Coefs.set y8.toNat (W (x4+(W (qk*n0)))));pure (.done (x2,l,Const))
     else
      pure (.ret ((zA.mk ([]:List Int) 0),F9))
      : Option (Out (zA×List Int×Int) (zA×Bool))) with
   | .ret r0=>pure (.ret r0)
   | .done (x3,f8,ip)=>
    yY s2 x3 f8 ip
 else pure (.done (x,Coefs,Const))
 partial_fixpoint
theorem zCt :∀(rest:Str) (x:zA) (Coefs:List Int) (Const:Int) (o:Out (zA×List Int×Int) (zA×Bool)),yY rest x Coefs Const=some o->∀{B}{I0 I:Imm}{Q}{aF:Str}{b b1}{p1 c1 p2 c2 aA},I0.le I->(GH Tryz.prog I)->(S4 I p1 x.Coefs c1)->(RL I aA Coefs)->NG Q->NO Q->(∀I' x1 aZ dx p3 c3 p4 c4 bv,o=(.done (x1,aZ,dx))->I0.le I'->(S4 I' p3 x1.Coefs c3)->(RL I' bv aZ)->T 111 B Q (.exit 0) I' [hB b1 [vS p4 aZ c4,vI dx],hO Int (vS p4 aZ c4) bv,hB b (cAff x1 p3 c3)] [(0,vT aF.l),(2,vP b 0),(4,vP b1 0)])->(∀r I' ah m',o=(.ret r)->I0.le I'->RS Tryz.prog f129 B (eY  r) I' ah m'->T 111 B Q .ret I' ah m')->J Tryz.prog 111 B (nav (bodyOf f129) [1,1,1,0,1,0]) Q I [hB b1 [vS p2 Coefs c2,vI Const],hO Int (vS p2 Coefs c2) aA,hB b (cAff x p1 c1)] [(0,vT aF.l),(2,vP b 0),(4,vP b1 0),(5,vT rest.l)]:=by
 refine yY.partial_correctness  _ λaQ ih rest x Coefs Const o N B I0 I Q aF b b1 p1 c1 p2 c2 aA H hG h1 h2 hg ho hx hr=>xD hg ho<|yA<|yG [22] rfl<|zK<|yC N ?_ ?_
 ·intro aI N;refine zR<|vC<|yG [6] rfl<|zY<|yA ?_;refine wZ N [hB b1 [vS p2 Coefs c2,vI Const],hO Int (vS p2 Coefs c2) aA,hB b (cAff x p1 c1)] (λt30=>[(0,vT aF.l),(2,vP b 0),(4,vP b1 0),(5,vT rest.l),(6,vI 1),(30,.bool t30)]) (λo0 aC=>?_) ?_
  ·have H:=iS I;refine zM<|zZ 1 [] [23] rfl ?_;obtain⟨b2,ay,N⟩:=zB aC;refine zA3 rfl rfl ay<|zZ 4 [] [26] rfl<|xW [26] N ?_ ?_
   ·intro aU N;exact wP [] [(30,vY)]<|yP<|zQ (ct N H)
   intro aU N;exact zZ 5 [] [27] rfl<|bE N λb3 aK N=>zA3 rfl rfl aK<|yI [] [30] rfl<|yP<|zQ (ct N H)
  intro t30 aT ae aO;have ⟨h2,h1,hG,H⟩:=m4 ae h2 h1 hG H;refine zK ?_;obtain⟨aS,aE,bK⟩:=zB aO;refine rR (λI' ah m'=>∃(iD:Str) (qk:Int),aS=(iD,qk)/\aT.le I'/\ah=[hB b1 [vS p2 Coefs c2,vI Const],hO Int (vS p2 Coefs c2) aA,hB b (cAff x p1 c1)]/\m'=[(0,vT aF.l),(2,vP b 0),(4,vP b1 0),(5,vT iD.l),(6,vI qk)]) ?_ ?_
  ·have H:=iS aT;refine yC aE ?_ ?_
   ·intro bU N;refine yA<|yB<|zZ 1 [] [31] rfl<|bE N λb4 bc N=>zA3 rfl rfl bc<|yI [] [33] rfl<|zK ?_;refine wZ N [hB b1 [vS p2 Coefs c2,vI Const],hO Int (vS p2 Coefs c2) aA,hB b (cAff x p1 c1)] (λrj=>[(0,vT aF.l),(2,vP b 0),(4,vP b1 0),(5,vT rest.l),(6,vI rj)]) (λdd bh=>?_) ?_
    ·have H:=iS aT;refine yC bh ?_ ?_
     ·intro cO N;exact zM<|yI [] [6] rfl<|yP<|zQ (ct N H)
     intro cO N;exact zR<|yP<|zQ (ct N H)
    intro rj bP aJ d6;have H:=H.trans aJ;refine zK<|zM<|zZ 1 [] [34] rfl ?_;obtain⟨s,bL,N⟩:=zB d6;exact zB8 rfl bL<|yI [] [5] rfl<|yP<|zQ ⟨_,_,(zC N).symm,H,rfl,rfl⟩
   intro bU N;exact zR<|yP<|zQ ⟨_,_,(zC N).symm,H,rfl,rfl⟩
  rintro aY au m2 ⟨iD,qk,jo,aL,rfl,rfl⟩;subst aS;have ⟨h2,h1,hG,H⟩:=m4 aL h2 h1 hG H;refine yV<|zZ 1 [] [36] rfl ?_;obtain⟨y1,bX,N⟩:=zB bK;refine dU (zEY iD (⟨[43,45]⟩:Str) _ bX ) ?_;intro cI bb;have ⟨h2,h1,hG,H⟩:=m4 bb h2 h1 hG H;refine yI [] [7] rfl<|zY<|yG [39] rfl<|zK ?_;refine wZ N [hB b1 [vS p2 Coefs c2,vI Const],hO Int (vS p2 Coefs c2) aA,hB b (cAff x p1 c1)] (λcY=>[(0,vT aF.l),(2,vP b 0),(4,vP b1 0),(5,vT iD.l),(6,vI qk),(7,vI cY)]) (λfw cu=>?_) ?_
  ·have H:=iS cI;refine yC cu ?_ ?_
   ·intro ft N;exact zM<|yI [] [7] rfl<|yP<|zQ (ct N H)
   intro ft N;exact zR<|yP<|zQ (ct N H)
  intro cY dw bI ff;have ⟨h2,h1,hG,H⟩:=m4 bI h2 h1 hG H;refine yV<|zZ 2 [] [42,43] rfl ?_;obtain⟨s1,cx,N⟩:=zB ff;refine zB8 rfl cx<|yI [] [8] rfl<|yV<|zZ 2 [] [45,46] rfl<|bE N λs2 cV N=>zB8 rfl cV<|yI [] [5] rfl<|yV<|zZ 1 [] [48] rfl<|bE N λy2 eo N=>xG (zEZ s1 (⟨[48,49,50,51,52,53,54,55,56,57,42]⟩:Str) _ eo ) ?_;rintro gk au v2 k2 bJ - ⟨gx,rfl,rfl,rfl⟩ -;have ⟨h2,h1,hG,H⟩:=m4 bJ h2 h1 hG H;refine yI [] [9] rfl<|uX [10] rfl<|zY<|yB<|zZ 2 [] [50,51] rfl<|bE N λy3 gi N=>xG (zA6 s1 y2 _ gi ) ?_;rintro ij au v2 k2 bZ - ⟨ig,rfl,rfl,rfl⟩ -;have ⟨h2,h1,hG,H⟩:=m4 bZ h2 h1 hG H;obtain⟨y4,cU,N⟩:=zB N;refine xG (zA6 y3 (⟨[42]⟩:Str) _ cU ) ?_;rintro iE au v2 k2 dt - ⟨ng,rfl,rfl,rfl⟩ -;have ⟨h2,h1,hG,H⟩:=m4 dt h2 h1 hG H;refine yI [] [11] rfl<|uX [55] rfl<|zK ?_;obtain⟨lN,gv,ia⟩:=zB N;refine rR (λI' ah m'=>∃(n0:Int) (x2:zA) (p5:Option Addr) (c5:Nat),lN=.done (n0,x2)/\iE.le I'/\(S4 I' p5 x2.Coefs c5)/\ah=[hB b1 [vS p2 Coefs c2,vI Const],hO Int (vS p2 Coefs c2) aA,hB b (cAff x2 p5 c5)]/\m'=[(0,vT aF.l),(2,vP b 0),(4,vP b1 0),(5,vT s2.l),(6,vI qk),(9,vT y2.l),(10,vI n0)]) ?_ ?_
  ·have hle04:=H;have H:=iS iE;refine yC gv ?_ ?_
   ·intro iU N;refine yB<|zZ 1 [] [57] rfl ?_;obtain⟨⟨y6,y7⟩,dr,N⟩:=zB N;refine xG (zAz y4 _ dr hG) ?_;rintro eg au v2 k2 bS - ⟨ee,sk,rfl,rfl,rfl,bB⟩ -;have ⟨h1,H⟩:=m2 bS h1 H;refine yI [] [12,13] rfl<|zY<|yA ?_;refine wZ N [hB b1 [vS p2 Coefs c2,vI Const],hO Int (vS p2 Coefs c2) aA,hB b (cAff x p1 c1)] (λws=>[(0,vT aF.l),(2,vP b 0),(4,vP b1 0),(5,vT s2.l),(6,vI qk),(9,vT y2.l),(12,vI y6),(66,.bool ws)]) (λvf kf=>?_) ?_
    ·have H:=iS eg;refine zM<|qO 1 [] [(61,sk)]<|zRG bB rfl<|zZ 3 [] [63] rfl<|xW [63] kf ?_ ?_
     ·intro kq N;exact wP [] [(66,vY)]<|yP<|zQ (ct N H)
     intro kq N;exact yI [] [66] rfl<|yP<|zQ (ct N H)
    intro ws hJ cb pg;have ⟨h1,H⟩:=m2 cb h1 H;refine zK<|yC pg ?_ ?_
    ·intro lH N;refine yB<|zZ 1 [] [67] rfl<|yZ 2 [z0,vI 0] rfl<|wP [] [(3,vF)]<|xH<|zG<|zG<|zG<|zS<|zG ?_;obtain rfl:=zC N;exact hr _ _ _ _ (zC ia).symm (hle04.trans H) ⟨_,_,(resE 2 rfl rfl rfl),zN,⟨_,_,rfl,rfl,⟨_,rfl,(yH ⟨_,rfl,(SL.nil _)⟩)⟩,rfl⟩⟩
    intro lH N;exact zR<|zK<|zM<|yI [] [10] rfl<|yP<|zQ ⟨_,_,_,_,(zC N).symm,H,h1,rfl,rfl⟩
   intro iU N;exact zR<|yP<|zQ ⟨_,_,_,_,(zC N).symm,H,h1,rfl,rfl⟩
  rintro jx au m2 ⟨n0,x2,p5,c5,heq5,cA,h9,rfl,rfl⟩;subst lN;have ⟨h2,hG,H⟩:=m3 cA h2 hG H;refine yV<|zZ 1 [] [69] rfl ?_;obtain⟨y8,en,N⟩:=zB ia;refine dU (zGk (⟨[105,106,107,108]⟩:Str) y2 _ en hG) ?_;intro fq d7;have ⟨h2,h9,hG,H⟩:=m4 d7 h2 h9 hG H;refine yI [] [14] rfl<|vC<|yG [72] rfl<|zK ?_;obtain⟨o06,ud,ru⟩:=zB N;refine rR (λI' ah m'=>∃(x3:zA) (f8:List Int) (ip:Int) (p6:Option Addr) (c6:Nat) (p7:Option Addr) (c7:Nat) (bf:List Value),o06=.done (x3,f8,ip)/\fq.le I'/\(S4 I' p6 x3.Coefs c6)/\(RL I' bf f8)/\ah=[hB b1 [vS p7 f8 c7,vI ip],hO Int (vS p7 f8 c7) bf,hB b (cAff x3 p6 c6)]/\m'=[(0,vT aF.l),(2,vP b 0),(4,vP b1 0),(5,vT s2.l)]) ?_ ?_
  ·have hle06:=H;have H:=iS fq;refine yC ud ?_ ?_
   ·intro l9 N;exact zM<|zZ 7 [0] [80,81] rfl<|yZ 0 [vS p2 Coefs c2,vI (W (Const+(W (qk*n0))))] rfl<|zW rfl<|yP<|zQ ⟨_,_,_,_,_,_,_,_,(zC N).symm,H,h9,h2,rfl,rfl⟩
   intro l9 N;refine yA ?_;refine wZ N [hB b1 [vS p2 Coefs c2,vI Const],hO Int (vS p2 Coefs c2) aA,hB b (cAff x2 p5 c5)] (λur=>[(0,vT aF.l),(2,vP b 0),(4,vP b1 0),(5,vT s2.l),(6,vI qk),(10,vI n0),(14,vI y8),(82,.bool ur)]) (λo07 ho07=>?_) ?_
   ·have H:=iS fq;refine zM<|zZ 4 [] [86] rfl<|xW [86] ho07 ?_ ?_
    ·intro ja N;exact yI [] [82] rfl<|yP<|zQ (ct N H)
    intro ja N;exact wP [] [(82,vF)]<|yP<|zQ (ct N H)
   intro ur mm fu hMc7;have ⟨h2,h9,H⟩:=m3 fu h2 h9 H;refine zK<|yC hMc7 ?_ ?_
   ·intro kc N;refine zM<|zZ 3 [0] [91,92] rfl<|bE N λx4 iA N=>kV 1 rfl rfl rfl h2 iA ?_;intro ad aR av cQ al;obtain rfl:=al;refine zDK 1 0 av cQ [vI x4] (vI x4) rfl rfl<|zZ 9 [] [98] rfl<|bE N λx5 jt N=>kV 1 rfl rfl rfl h2 jt ?_;intro cD bN aw mw ax;obtain rfl:=ax;obtain⟨l,lK,N⟩:=zB N;refine jA (c:=[vI (W (x4+(W (qk*n0))))]) (x':=(W (x4+(W (qk*n0))))) 1 0 rfl rfl rfl aw rfl rfl mw (by kernel_rfl) (by kernel_rfl) (by kernel_rfl) h2 jt (by kernel_rfl) rfl ?_;rw[show Coefs.set y8.toNat (W (x4+(W (qk*n0))))=l from zC lK];intro cC co cH;rw[vE cH];exact zW rfl<|yP<|zQ ⟨_,_,_,_,_,_,_,_,(zC N).symm,H,h9,co,rfl,rfl⟩
   intro kc N;refine yB<|zZ 1 [] [71] rfl<|yZ 2 [z0,vI 0] rfl<|wP [] [(3,vF)]<|xH<|zG<|zS<|zS<|zG ?_;obtain rfl:=zC N;exact hr _ _ _ _ (zC ru).symm (hle06.trans H) ⟨_,_,(resE 2 rfl rfl rfl),zN,⟨_,_,rfl,rfl,⟨_,rfl,(yH ⟨_,rfl,(SL.nil _)⟩)⟩,rfl⟩⟩
  rintro ku au m2 ⟨x3,f8,ip,p6,c6,p7,c7,bf,heq7,ib,cy,bV,rfl,rfl⟩;subst o06;have ⟨hG,H⟩:=m2 ib hG H;exact zO<|zO<|xB<|jH<|ih s2 x3 f8 ip _ ru H hG cy bV hg ho hx hr
 intro aI N;exact uR<|yP<|hx _ _ _ _ _ _ _ _ _ (zC N).symm H h1 h2
def kF(aF:Str):Option (zA×Bool):=do
 let y<-zAE 0;if(decide ((aF.l.length:Int)>100)) then pure ((zA.mk ([]:List Int) 0),F9)
 else
  match<-yY aF (zA.mk ([]:List Int) 0) y.Coefs y.Const with
  | .ret r0=>pure r0
  | .done (x1,aZ,dx)=>
   let wj<-(do
    let y9<-qU (zA.mk aZ dx);if(!y9) then pure true
    else
     let y10<-nV (zA.mk aZ dx);pure (!(y10.l==aF.l))
      : Option Bool)
   if wj then pure ((zA.mk ([]:List Int) 0),F9)
   else pure ((zA.mk aZ dx),true)
theorem zBH:∀aF r,kF aF=some r->∀{I:Imm} ,(GH Tryz.prog I)->RT 129 [vT aF.l] I [] (eY  r):=by
 intro aF r N I  hG;unfold kF at N;refine yK func129 λB=>?_;have H:=iS I;refine yB<|wT [z0,vI 0] ?_;intro b hb;refine wP [] []<|yV<|bE N λy hy N=>xG (zGl 0 _ hy ) ?_;rintro I0 au v2 k2 le - ⟨p,c,cs,rfl,rfl,h⟩ -;have ⟨hG,H⟩:=m2 le hG H;refine wT [z0,vI 0] ?_;intro b1 cp;refine yZ 0 (cAff y p c) rfl<|zW rfl<|zY<|yG [18] rfl<|zK<|yC N ?_ ?_
 ·intro hc N;refine yB<|zZ 1 [] [19] rfl<|yZ 2 [z0,vI 0] rfl<|wP [] [(3,vF)]<|xH<|zG ?_;exact wD N (resE 2 rfl rfl rfl) zN ⟨_,_,rfl,rfl,⟨_,rfl,(yH ⟨_,rfl,(SL.nil _)⟩)⟩,rfl⟩
 intro hc N;refine zR<|zY<|yG [5] rfl<|vC<|mM [(0,vT aF.l),(2,vP b 0),(4,vP b1 0),(5,vT aF.l)] ?_;obtain⟨o08,ho08,aM⟩:=zB N;refine zCt aF (zA.mk ([]:List Int) 0) y.Coefs y.Const o08 ho08 iR hG (SL.nil _) h nG nO ?_ ?_
 ·intro kv x1 aZ dx p3 c3 p4 c4 bv heq8 ic h3 h4;subst o08;have ⟨hG,H⟩:=m2 ic hG H;refine zT<|zY<|yA<|oD 1 rfl ?_;intro lZ gw cZ;have ck:=SL.of_frozen cZ gw h4;have ⟨hG,H⟩:=m2 gw hG H;refine wZ aM [hB b1 [vS p4 aZ c4,vI dx],hB b (cAff x1 p3 c3)] (λwj=>[(2,vP b 0),(4,vP b1 0),(108,.bool wj)]) (λo09 ho09=>?_) ?_
  ·have H:=iS lZ;refine zM<|qO 1 [0] [(100,vA [vS p4 aZ c4,vI dx])] ?_;obtain⟨y9,qa,N⟩:=zB ho09;refine uU (mA (zA.mk aZ dx) _ qa ck) ?_;intro mq iC;have ⟨ck,hG,H⟩:=m3 iC ck hG H;refine zZ 4 [] [103] rfl<|xW [103] N ?_ ?_
   ·intro nz N;exact wP [] [(108,vY)]<|yP<|zQ (ct N H)
   intro nz N;refine qO 5 [0] [(104,vA [vS p4 aZ c4,vI dx])]<|bE N λy10 r9 N=>xG (zAI (zA.mk aZ dx) _ r9 ck hG) ?_;rintro o8 au v2 k2 iO - ⟨q9,rfl,rfl,rfl⟩ -;have H:=H.trans iO;exact yI [] [108] rfl<|yP<|zQ (ct N H)
  intro wj mn jc hMc8;have ck:=ck.mono jc;refine zK<|yC hMc8 ?_ ?_
  ·intro tu N;refine yB<|zZ 1 [] [109] rfl<|yZ 1 [z0,vI 0] rfl<|wP [] [(3,vF)]<|xH<|zG ?_;exact wD N (resE 1 rfl rfl rfl) zN ⟨_,_,rfl,rfl,⟨_,rfl,(yH ⟨_,rfl,(SL.nil _)⟩)⟩,rfl⟩
  intro tu N;refine zR<|yV<|qO 1 [0] [(110,vA [vS p4 aZ c4,vI dx])]<|yZ 1 [vS p4 aZ c4,vI dx] rfl<|wP [] [(3,vY)]<|zK<|yX ?_;exact wD N (resE 1 rfl rfl rfl) zN ⟨_,_,rfl,rfl,⟨_,rfl,(yH ⟨_,rfl,ck⟩)⟩,rfl⟩
 intro r0 I9 gm m9 aV bS aW;subst aV;refine zS<|zG ?_;obtain rfl:=zC aM;exact fO aW
def zA7(r:(List zA)×Bool):KT:=λkk I' ah v=>
 ∃v0 v1,ah=[]/\v=tupV [v0,v1]/\SL I' v0 r.1/\v1=.bool r.2
def sH(y:(List Str))(out:List zA)(fi:Int):Option (Out (List zA) ((List zA)×Bool)):=do
 if(decide (fi<(y.length:Int))) then
  let x<-idx y fi;let (y2,y3)<-kF x;let iQ<-(do
   if(!y3) then pure true
   else
    pure ((out.length:Int)==2)
     : Option Bool)
  if iQ then pure (.ret (([]:List zA),F9))
  else
   let aD<-app 32 out ([y2]:List zA);sH y aD (W (fi+1))
 else pure (.done out)
 partial_fixpoint
theorem zCu(y:(List Str)):∀(out:List zA) (fi:Int) (o:Out (List zA) ((List zA)×Bool)),sH y out fi=some o->∀{B}{I0 I:Imm}{Q p c p1 c1 cs},I0.le I->(S4 I p y c)->(GH Tryz.prog I)->(RL I cs out)->NG Q->NO Q->(∀I' aq p2 c2 aA,o=(.done aq)->I0.le I'->(RL I' aA aq)->T 34 B Q (.exit 0) I' [hO zA (vS p2 aq c2) aA] [(4,vS p2 aq c2)])->(∀r I' ah m',o=(.ret r)->I0.le I'->RS Tryz.prog f111 B (zA7  r) I' ah m'->T 34 B Q .ret I' ah m')->J Tryz.prog 34 B (nav (bodyOf f111) [1,1,0,1,0]) Q I [hO zA (vS p1 out c1) cs] [(4,vS p1 out c1),(10,vS p y c),(11,vI (y.length:Int)),(12,vI fi)]:=by
 refine sH.partial_correctness y _ λaQ ih out fi o N B I0 I Q p c p1 c1 cs H h hG h2 hg ho hx hr=>xD hg ho<|yG [13] rfl<|zY<|yC N ?_ ?_
 ·intro hc N;refine zR<|zY<|yM<|yB<|bE N λx ay N=>wJ rfl rfl h ay ?_;intro ad aR av al;obtain rfl:=al;refine wC 0 av [vT x.l] (vT x.l) rfl<|yI [] [6] rfl<|yV<|zZ 1 [] [17] rfl ?_;obtain⟨⟨y2,y3⟩,aK,N⟩:=zB N;refine xG (zBH x _ aK hG) ?_;rintro aT au v2 k2 ae - ⟨gx,ig,rfl,rfl,⟨bv,rfl,h4⟩,rfl⟩ -;have ⟨h2,h,hG,H⟩:=m4 ae h2 h hG H;obtain⟨p3,c3,rfl,h6⟩:=yF h4;refine zZ 5 [] [19,20] rfl<|wT [z0,vI 0] ?_;intro b hb;refine yZ 0 (cAff y2 p3 c3) rfl<|yI [] [8] rfl<|zY<|yA ?_;refine wZ N [hB b (cAff y2 p3 c3),hO zA (vS p1 out c1) cs] (λiQ=>[(4,vS p1 out c1),(7,vP b 0),(10,vS p y c),(11,vI (y.length:Int)),(12,vI fi),(27,.bool iQ)]) (λo0 aC=>?_) ?_
  ·have H:=iS aT;refine zM<|zZ 3 [] [23] rfl<|xW [23] aC ?_ ?_
   ·intro aI N;exact wP [] [(27,vY)]<|yP<|zQ (ct N H)
   intro aI N;exact yI [] [27] rfl<|yP<|zQ (ct N H)
  intro iQ aY aJ aO;have ⟨h2,h,h6,hG,H⟩:=m5 aJ h2 h h6 hG H;refine zK<|yC aO ?_ ?_
  ·intro aU N;exact yG [2,3] rfl<|xH<|zG<|zS<|zG<|zG<|hr _ _ _ _ (zC N).symm H ⟨_,_,(resU rfl rfl),zN,⟨_,_,rfl,rfl,(SL.nil _),rfl⟩⟩
  intro aU N;refine zR<|zK<|zM<|qO 2 [0] [(28,vS p1 out c1),(29,vA (cAff y2 p3 c3))]<|qN (cAff y2 p3 c3) zA ?_;intro b1 cp;have h7:RL aY (cAff y2 p3 c3) ([y2]:List zA):=⟨(cAff y2 p3 c3),_,rfl,rfl,(yH ⟨_,rfl,h6⟩),rfl⟩;obtain⟨aD,bc,N⟩:=zB N;exact mD 50 2 2 rfl rfl rfl h2 (.inr ⟨0,rfl⟩) h7 bc λp4 c4 bf h8=>qM (zX [1,2] (ah:=[hB b (cAff y2 p3 c3),hO zA (vS p4 aD c4) bf]))<|yI [] [4] rfl<|zO<|zK<|zM<|yI [] [12] rfl<|xB<|kT (zV [1] rfl (by decide))<|jH<|ih aD (W (fi+1)) _ N H h hG h8 hg ho hx hr
 intro hc N;exact uR<|yP<|hx _ _ _ _ _ (zC N).symm H h2
def oV(aF:Str):Option ((List zA)×Bool):=do
 let y<-oL aF (⟨[44]⟩:Str)
 match<-sH y ([]:List zA) 0 with
 | .ret r0=>pure r0
 | .done aq=>
  pure (aq,true)
theorem dS:∀aF r,oV aF=some r->∀{I:Imm} ,(GH Tryz.prog I)->RT 111 [vT aF.l] I [] (zA7  r):=by
 intro aF r N I  hG;unfold oV at N;refine yK func111 λB=>vO []<|zFT [(4,z0)]<|zY<|yB<|zZ 1 [] [9] rfl<|bE N λy hy N=>xG (dM aF (⟨[44]⟩:Str) _ hy hG) ?_;rintro I0 au v2 k2 le - ⟨v0,rfl,rfl,h⟩ -;have hG:=hG.mono le;obtain⟨p,c,rfl⟩:=h.form;refine yI [] [11,12] rfl<|vC<|mM [(4,z0),(10,vS p y c),(11,vI (y.length:Int)),(12,vI 0)]<|zB9 zA λh1=>?_;obtain⟨aS,aE,aM⟩:=zB N;refine zCu y ([]:List zA) 0 aS aE iR h hG h1 nG nO ?_ ?_
 ·intro bP aq p2 c2 aA ca aL h3;subst aS;refine zT<|uX [2,3] rfl<|xH<|xT 0 rfl ?_;intro cI bb cH;have h9:=SL.of_frozen cH bb h3;exact wD aM (resU rfl rfl) zN ⟨_,_,rfl,rfl,h9,rfl⟩
 intro r0 I9 gm m9 aV bS aW;subst aV;refine zS<|zG ?_;obtain rfl:=zC aM;exact fO aW
def zGm(r:Str×Str×Bool):KT:=λkk I' ah v=>
 ∃(v0 v1 v2:Value),ah=[]/\v=tupV [v0,v1,v2]/\v0=.string ⟨⟨r.1.l⟩⟩/\v1=.string ⟨⟨r.2.1.l⟩⟩/\v2=.bool r.2.2
def jM(s:Str)(sep:Str):Option (Str×Str×Bool):=if s.l.length<4294967281 then some (⟨(Lib.cut s.l sep.l).1⟩,⟨(Lib.cut s.l sep.l).2.1⟩,(Lib.cut s.l sep.l).2.2) else none
theorem zDm:∀(s sep:Str) r,jM s sep=some r->∀{I:Imm},GH Tryz.prog I->RT 89 [vT s.l,vT sep.l] I [] (zGm r):=by
 intro s sep r N I hG;unfold jM at N;split at N
 ·rename_i hi;cases N
  obtain ⟨g,hg,m,hm⟩:=hG.ml;obtain rfl:g=0:=(Option.some.inj ((show Tryz.prog.globalNamed "internal/bytealg.MaxLen"=some 0 by kernel_rfl).symm.trans hg)).symm;exact zAa (fun w g=>(Tryz.strings_Cut ⟨⟨s.l⟩⟩ ⟨⟨sep.l⟩⟩ m w hi (g.cell hm)).mono fun e w' ⟨h1,n,h2⟩=>⟨h1,h2 ▸ ⟨rfl,rfl,rfl,Nat.le_refl _,fun _ _=>rfl⟩⟩) fun k=>⟨_,_,_,rfl,rfl,rfl,rfl,rfl⟩
 cases N
def zDT(b0:Nat)(r:Str×yU):KT:=λkk I' ah v=>
 ∃v0 k0,ah=[.blk b0 ⟨k0⟩]/\v=tupV [v0]/\v0=.string ⟨⟨r.1.l⟩⟩/\Rp.rep I' k0 r.2
def qX(r0:yU)(b:UInt8):Option (Str×yU):=do
 let (y1,y2,y3)<-jM r0.s (⟨([b]:List UInt8)⟩:Str);let x<-(do
  if r0.bad then pure (yU.mk y2 true)
  else
   pure (yU.mk y2 (!y3))
    : Option yU)
 pure (y1,x)
theorem zBI:∀r0 b r,qX r0 b=some r->∀{I:Imm}{ap},(GH Tryz.prog I)->RT 127 [vP ap 0,.int .u8 (b.toNat:Int)] I [hB ap [vT r0.s.l,.bool r0.bad]] (zDT ap r):=by
 intro r0 b r N I ap hG;unfold qX at N;refine yK func127 λB=>?_;have H:=iS I;refine vO []<|zK<|yA ?_;obtain⟨⟨y1,y2,y3⟩,hy,N⟩:=zB N;refine vK [.p (vP ap 0) [],.p (vP ap 0) [],.p (vP ap 0) [],.p (vT r0.s.l) [0],.p (.int .u8 (b.toNat:Int)) [],.x (λI' v hx=>∃b1,v=vS (some ⟨b1,0,none⟩) ([b]:List UInt8) 1/\hx=[]/\(SL I' (vS (some ⟨b1,0,none⟩) ([b]:List UInt8) 1) ([b]:List UInt8))),.q (vT ([b]:List UInt8)),.q (.tuple ⟨[vT y1.l,vT y2.l,.bool y3]⟩),.p (.tuple ⟨[vT y1.l,vT y2.l,.bool y3]⟩) [],.p (vT y1.l) [],.p (vT y2.l) [],.p (.bool y3) [],.p (vT y1.l) [],.p (vT y2.l) []] [[],[(0,F9)],[(1,F9)],[(2,F9)],[],[(4,F9)],[(5,F9)],[(3,F9),(6,F9)],[(7,F9)],[(8,F9)],[(8,F9)],[(8,F9)],[(9,F9)],[(10,F9)]] [hB ap [vT r0.s.l,.bool r0.bad]] [] [(11,F9),(12,F9),(13,F9)] (zX [0]) ?_ ?_
 ·refine O4<|Op<|Ox ?_<|Oq ?_<|Oq ?_<|O4<|O2<|On
  ·intro I1 hf ae;refine yW [13] rfl ?_;have H:=iS I1;refine jW (rc b rfl rN) ?_;intro b1 I0 le h1;have H:=H.trans le;exact xC [] H ⟨_,rfl,rfl,h1⟩
  ·rintro I1 hf ae _ _ ⟨b1,rfl,rfl,h1⟩;refine yW [14] rfl ?_;obtain⟨_,k0,cE⟩:=id h1;exact zHd (l:=([b]:List UInt8)) rfl rfl rfl rfl (by kernel_rfl) (by kernel_rfl) (.inl k0) cE<|yQ iR
  intro I1 hf ae;refine yW [12,15] rfl ?_;have H:=iS I1;have hG:=hG.mono ae;refine xG (zDm r0.s (⟨([b]:List UInt8)⟩:Str) _ hy hG) ?_;rintro aT au v2 k2 ae - ⟨v0,gx,ig,rfl,rfl,rfl,rfl,rfl⟩ -;have H:=H.trans ae;exact yQ H
 intro aY aJ;refine yW [0,5,6,19] rfl ?_;have H:=H.trans aJ;refine yI [] [7] rfl<|zK<|yA ?_;obtain⟨o0,aC,aO⟩:=zB N;refine rR (λI' ah m'=>∃(x:yU),o0=x/\aY.le I'/\ah=[hB ap [vT x.s.l,.bool x.bad]]/\m'=[(5,vT y1.l)]) ?_ ?_
 ·have H:=iS aY;refine zM<|zZ 8 [0] [20,21,22,27] rfl<|xW [27] aC ?_ ?_
  ·intro hc N;exact zZ 13 [] [30,32] rfl<|yZ 0 [vT y2.l,.bool r0.bad] rfl<|zZ 16 [] [34] rfl<|yZ 0 [vT y2.l,vY] rfl<|zW rfl<|yP<|zQ (ct N H)
  intro hc N;exact zZ 13 [] [30,32] rfl<|yZ 0 [vT y2.l,.bool r0.bad] rfl<|zZ 16 [] [34] rfl<|yZ 0 [vT y2.l,.bool (!y3)] rfl<|zW rfl<|yP<|zQ (ct N H)
 rintro bP au m2 ⟨x,ec,aL,rfl,rfl⟩;subst o0;refine uX [4] rfl<|zK<|yX ?_;exact wD aO (resT rfl) (zV [0] rfl (by decide)) ⟨_,_,rfl,rfl,rfl,(tG rfl)⟩
def zC7(b0:Nat)(r:zJ×yU):KT:=λkk I' ah v=>
 ∃v0 k0,ah=[.blk b0 ⟨k0⟩]/\v=tupV [v0]/\(∃cs,v0=.agg ⟨cs⟩/\Rp.rep I' cs r.1)/\Rp.rep I' k0 r.2
def tR(r0:yU):Option (zJ×yU):=do
 let (y1,y2)<-tQ r0;let y3<-rQ y2 (91:UInt8);let (y5,y6)<-qX y3 (93:UInt8);let (y8,y9)<-oV y5;let (bad,Subs)<-(do
  if y6.bad then pure (true,y8)
  else
   pure ((!y9),y8)
    : Option (Bool×List zA))
 pure ((zJ.mk (⟨([y1]:List UInt8)⟩:Str) Subs),(yU.mk y6.s bad))
theorem zA8:∀r0 r,tR r0=some r->∀{I:Imm}{ap},(GH Tryz.prog I)->RT 75 [vP ap 0] I [hB ap [vT r0.s.l,.bool r0.bad]] (zC7 ap r):=by
 intro r0 r N I ap hG;unfold tR at N;refine yK func75 λB=>?_;have H:=iS I;refine yB<|wT [vT ([]),z0] ?_;intro b hb;refine zW rfl<|yV<|zZ 1 [] [6] rfl<|qM (zX [1,0] (ah:=[hB ap [vT r0.s.l,.bool r0.bad],hB b [vT ([]),z0]])) ?_;obtain⟨⟨y1,y2⟩,hy,N⟩:=zB N;refine tU (jS r0 _ hy ) rfl ?_;rintro I0 au v2 k2 le - ⟨v0,kk,rfl,rfl,rfl,h1⟩ -;have ⟨hG,H⟩:=m2 le hG H;obtain rfl:=wV h1;refine qN [.int .u8 (y1.toNat:Int)] UInt8 ?_;intro b1 cp;have h2:RL I0 [.int .u8 (y1.toNat:Int)] ([y1]:List UInt8):=⟨[.int .u8 (y1.toNat:Int)],_,rfl,rfl,rfl,rfl⟩;refine zHd (l:=([y1]:List UInt8)) rfl rfl rfl rfl (by kernel_rfl) (by kernel_rfl) (.inr ⟨0,rfl⟩) h2<|zZ 5 [] [10] rfl<|wT [vT ([]),z0] ?_;intro b2 fl;refine yZ 0 [vT ([y1]:List UInt8),z0] rfl<|zW rfl<|yV<|zZ 1 [] [11] rfl<|qM (zX [2,0,1,3] (ah:=[hB ap [vT y2.s.l,.bool y2.bad],hB b2 [vT ([y1]:List UInt8),z0],hO UInt8 (vS (some ⟨b1,0,none⟩) ([y1]:List UInt8) 1) [.int .u8 (y1.toNat:Int)],hB b [vT ([]),z0]]))<|bE N λy3 ay N=>tU (dR y2 (91:UInt8) _ ay ) rfl ?_;rintro aT au v2 k2 ae - ⟨oe,rfl,rfl,h3⟩ -;have ⟨hG,H⟩:=m2 ae hG H;obtain rfl:=wV h3;refine zW rfl<|yV<|zZ 1 [] [14] rfl ?_;obtain⟨⟨y5,y6⟩,aK,N⟩:=zB N;refine tU (zBI y3 (93:UInt8) _ aK hG) rfl ?_;rintro aY au v2 k2 aJ - ⟨gx,oy,rfl,rfl,rfl,h5⟩ -;have ⟨hG,H⟩:=m2 aJ hG H;obtain rfl:=wV h5;obtain⟨⟨y8,y9⟩,bc,N⟩:=zB N;refine xG (dS y5 _ bc hG) ?_;rintro bP au v2 k2 aL - ⟨ig,ng,rfl,rfl,h6,rfl⟩ -;have H:=H.trans aL;obtain⟨p,c,rfl⟩:=h6.form;refine yI [] [4,5] rfl<|zK<|yA ?_;obtain⟨o0,aC,aO⟩:=zB N;refine rR (λI' ah m'=>∃(bad:Bool) (Subs:List zA) (p1:Option Addr) (c1:Nat),o0=(bad,Subs)/\bP.le I'/\(S4 I' p1 Subs c1)/\ah=[hB ap [vT y6.s.l,.bool bad],hB b2 [vT ([y1]:List UInt8),vS p1 Subs c1],hB b [vT ([]),z0]]/\m'=[(2,vP b 0),(3,vP b2 0)]) ?_ ?_
 ·have H:=iS bP;refine zM<|zZ 7 [0] [19,20,25] rfl<|xW [25] aC ?_ ?_
  ·intro hc N;exact zZ 11 [] [28,29] rfl<|yZ 1 [vT ([y1]:List UInt8),vS p y8 c] rfl<|zZ 14 [] [31] rfl<|yZ 0 [vT y6.s.l,vY] rfl<|zW rfl<|wI (zV [0,1,3] rfl (by decide))<|yP<|zQ ⟨_,_,_,_,(zC N).symm,H,h6,rfl,rfl⟩
  intro hc N;exact zZ 11 [] [28,29] rfl<|yZ 1 [vT ([y1]:List UInt8),vS p y8 c] rfl<|zZ 14 [] [31] rfl<|yZ 0 [vT y6.s.l,.bool (!y9)] rfl<|zW rfl<|wI (zV [0,1,3] rfl (by decide))<|yP<|zQ ⟨_,_,_,_,(zC N).symm,H,h6,rfl,rfl⟩
 rintro cI au m2 ⟨bad,Subs,p1,c1,ec,bb,h8,rfl,rfl⟩;subst o0;refine yV<|qO 1 [1] [(32,vA [vT ([y1]:List UInt8),vS p1 Subs c1])]<|yZ 2 [vT ([y1]:List UInt8),vS p1 Subs c1] rfl<|zW rfl<|zK<|yX ?_;exact wD aO (resC 2 rfl rfl) (zV [0] rfl (by decide)) ⟨_,_,rfl,rfl,⟨_,rfl,(mS ⟨_,rfl,h8⟩)⟩,(tG rfl)⟩
def fE(s:Str)(c:UInt8):Option Int:=some (Lib.indexByte s.l c)
theorem zDn:∀s c r,fE s c=some r->∀{I:Imm},RT 130 [vT s.l,.int .u8 (c.toNat:Int)] I [] (xI r):=by
 intro s c r N I;unfold fE at N;cases N
 refine zAa (λw g=>(Tryz.strings_IndexByte ⟨⟨s.l⟩⟩ (c.toNat:Int) w).mono λe w' ⟨h1,h2⟩=>⟨?_,h2 ▸ RowKit.Below.refl _ _⟩) λk=>⟨_,rfl,rfl,rfl⟩;rw[h1];simp;rfl
def zDU(b0:Nat)(r:zF×yU):KT:=λkk I' ah v=>
 ∃v0 k0,ah=[.blk b0 ⟨k0⟩]/\v=tupV [v0]/\(∃cs,v0=.agg ⟨cs⟩/\Rp.rep I' cs r.1)/\Rp.rep I' k0 r.2
def sI(y2:yU)(n0:Int):Option (Int):=do
 let t63<-(do
  if(decide (n0<(y2.s.l.length:Int))) then
   if(decide (n0<3)) then
    let b1<-sidx y2.s n0;if(decide ((b1.toNat:Int)>=48)) then
     let b2<-sidx y2.s n0;pure (decide ((b2.toNat:Int)<=57))
    else pure false
   else pure false
  else
   pure false
    : Option Bool)
 if t63 then sI y2 (W (n0+1))
 else pure (id n0)
 partial_fixpoint
theorem zCv(y2:yU):∀(n0:Int) (o:Int),sI y2 n0=some o->∀{B}{I0 I:Imm}{Q}  {ap b},I0.le I->(GH Tryz.prog I)->NG Q->NO Q->(∀I' ci,o=ci->I0.le I'->T 149 B Q (.exit 1) I' [hB ap [vT y2.s.l,.bool y2.bad],hB b zExpr] [(0,vP ap 0),(4,vP b 0),(6,vI ci)])->J Tryz.prog 149 B (nav (bodyOf f77) [1,1,0,1,0,1,1,1,0,1,0,0]) Q I [hB ap [vT y2.s.l,.bool y2.bad],hB b zExpr] [(0,vP ap 0),(4,vP b 0),(6,vI n0)]:=by
 refine sI.partial_correctness y2 _ λaQ ih n0 o N B I0 I Q ap b H hG hg ho hx=>xD hg ho<|yA<|yA ?_;refine wZ N [hB ap [vT y2.s.l,.bool y2.bad],hB b zExpr] (λt63=>[(0,vP ap 0),(4,vP b 0),(6,vI n0),(63,.bool t63)]) (λdd bh=>?_) ?_
 ·have H:=iS I;refine zM<|zZ 8 [0] [42] rfl<|xW [42] bh ?_ ?_
  ·intro cO N;refine zZ 12 [] [46] rfl<|xW [46] N ?_ ?_
   ·intro ft N;refine zZ 17 [0] [50,51] rfl<|bE N λb1 ay N=>zA3 rfl rfl ay<|zZ 21 [] [55] rfl<|xW [55] N ?_ ?_
    ·intro iU N;exact zZ 26 [0] [59,60] rfl<|bE N λb2 aK N=>zA3 rfl rfl aK<|yI [] [63] rfl<|yP<|zQ (ct N H)
    intro iU N;exact wP [] [(63,vF)]<|yP<|zQ (ct N H)
   intro ft N;exact wP [] [(63,vF)]<|yP<|zQ (ct N H)
  intro cO N;exact wP [] [(63,vF)]<|yP<|zQ (ct N H)
 intro t63 bP aL d6;have ⟨hG,H⟩:=m2 aL hG H;refine zK<|yC d6 ?_ ?_
 ·intro kq N;exact zR<|vC<|zM<|yI [] [6] rfl<|zO<|xB<|jH<|ih (W (n0+1)) _ N H hG hg ho hx
 intro kq N;exact uR<|yP<|hx _ _ (zC N).symm H
def xK(r0:yU)(cf:Int):Option (zF×yU):=do
 let bad<-(do
  if(decide (cf>5)) then pure true
  else
   pure r0.bad
    : Option Bool)
 let (y1,y2)<-vL (yU.mk r0.s bad);if((y1.toNat:Int)==0) then pure ((zF.mk 0 0 (zA.mk ([]:List Int) 0) (zJ.mk (⟨[]⟩:Str) ([]:List zA)) ([]:List zF)),(yU.mk y2.s true))
 else
  let sh<-(do
   if(decide ((y1.toNat:Int)>=48)) then pure (decide ((y1.toNat:Int)<=57))
   else
    pure false
     : Option Bool)
  if sh then
   let ci<-sI y2 0;let s<-sslc y2.s 0 ci;let (y4,y5)<-tC s;let s1<-sslc y2.s ci (y2.s.l.length:Int);pure ((zF.mk 1 y4 (zA.mk ([]:List Int) 0) (zJ.mk (⟨[]⟩:Str) ([]:List zA)) ([]:List zF)),(yU.mk s1 y2.bad))
  else
   if((y1.toNat:Int)==123) then
    let (y7,y8)<-tQ y2;let (y10,fm)<-qX y8 (125:UInt8);let (y13,y14)<-kF y10;let tc<-(do
     if fm.bad then pure true
     else
      pure (!y14)
       : Option Bool)
    pure ((zF.mk 2 0 y13 (zJ.mk (⟨[]⟩:Str) ([]:List zA)) ([]:List zF)),(yU.mk fm.s tc))
   else
    if((y1.toNat:Int)==40) then
     let (ii,lx)<-tQ y2;let (fj,jh)<-xK (same lx) (W (cf+1));let (nn,me)<-tQ jh;let qg<-fE (⟨[43,45,42]⟩:Str) nn;let (fo,ko)<-xK (same me) (W (cf+1));let y28<-rQ ko (41:UInt8);let td<-(do
      if y28.bad then pure true
      else
       pure (decide (qg<0))
        : Option Bool)
     pure ((zF.mk (W (4+qg)) 0 (zA.mk ([]:List Int) 0) (zJ.mk (⟨[]⟩:Str) ([]:List zA)) ([fj,fo]:List zF)),(yU.mk y28.s td))
    else
     let (uw,o7)<-tR y2;pure ((zF.mk 3 0 (zA.mk ([]:List Int) 0) uw ([]:List zF)),o7)
 partial_fixpoint
theorem zE0:∀r0 cf r,xK r0 cf=some r->∀{I:Imm}{ap},(GH Tryz.prog I)->RT 77 [vP ap 0,vI cf] I [hB ap [vT r0.s.l,.bool r0.bad]] (zDU ap r):=by
 refine xK.partial_correctness _ λF_impl_reader_expr ih_impl_reader_expr r0 cf r N I ap hG=>yK func77 λB=>?_;have H:=iS I;refine yB<|wT zExpr ?_;intro b hb;refine zW rfl<|zY<|yG [15] rfl<|zK ?_;obtain⟨o0,aC,aO⟩:=zB N;refine rR (λI' ah m'=>∃(bad:Bool),o0=bad/\I.le I'/\ah=[hB b zExpr,hB ap [vT r0.s.l,.bool bad]]/\m'=[(0,vP ap 0),(1,vI cf),(4,vP b 0)]) ?_ ?_
 ·have H:=iS I;refine yC aC ?_ ?_
  ·intro hc N;exact zM<|zZ 3 [] [18] rfl<|yZ 1 [vT r0.s.l,vY] rfl<|zW rfl<|yP<|zQ (ct N H)
  intro hc N;exact zR<|yP<|zQ (ct N H)
 rintro I0 au m2 ⟨bad,ec,le,rfl,rfl⟩;subst o0;have ⟨hG,H⟩:=m2 le hG H;refine zY<|yB<|zZ 1 [] [19] rfl<|qM (zX [1,0] (ah:=[hB ap [vT r0.s.l,.bool bad],hB b zExpr])) ?_;obtain⟨⟨y1,y2⟩,hy,N⟩:=zB aO;refine tU (zBG (yU.mk r0.s bad) _ hy ) rfl ?_;rintro aT au v2 k2 ae - ⟨v0,kk,rfl,rfl,rfl,h1⟩ -;have ⟨hG,H⟩:=m2 ae hG H;obtain rfl:=wV h1;refine yI [] [5] rfl<|vC<|yG [21] rfl<|zK<|yC N ?_ ?_
 ·intro aI N;refine yB<|zZ 3 [] [26] rfl<|yZ 0 [vT y2.s.l,vY] rfl<|zW rfl<|yV<|zZ 1 [] [27] rfl<|zAF 1 zExpr [hB ap [vT y2.s.l,vY],hB b zExpr] rfl rfl rfl rfl<|zW rfl<|xH<|zS<|zG ?_;exact wD N (resC 1 rfl rfl) (zV [0] rfl (by decide)) ⟨_,_,rfl,rfl,⟨_,rfl,(xS ⟨_,_,_,rfl,(SL.nil _),(SL.nil _),(SL.nil _)⟩)⟩,(tG rfl)⟩
 intro aI N;refine yA ?_;refine wZ N [hB ap [vT y2.s.l,.bool y2.bad],hB b zExpr] (λsh=>[(0,vP ap 0),(1,vI cf),(4,vP b 0),(5,.int .u8 (y1.toNat:Int)),(28,.bool sh)]) (λaS aE=>?_) ?_
 ·have H:=iS aT;refine zM<|zZ 3 [] [31] rfl<|xW [31] aE ?_ ?_
  ·intro aU N;exact yI [] [28] rfl<|yP<|zQ (ct N H)
  intro aU N;exact wP [] [(28,vF)]<|yP<|zQ (ct N H)
 intro sh aY aJ bK;have ⟨hG,H⟩:=m2 aJ hG H;refine zK<|yC bK ?_ ?_
 ·intro bU N;refine yG [6] rfl<|zY<|yM<|mM [(0,vP ap 0),(4,vP b 0),(6,vI 0)] ?_;obtain⟨fw,cu,aM⟩:=zB N;refine zCv y2 0 fw cu iR hG nG nO ?_;intro cI ci lI bb;subst fw;have hG:=hG.mono bb;refine zT<|yV<|zZ 5 [0] [70,71] rfl ?_;obtain⟨s,bc,N⟩:=zB aM;refine zB8 rfl bc ?_;obtain⟨⟨y4,y5⟩,bL,N⟩:=zB N;refine xG (zAz s _ bL hG) ?_;rintro dw au v2 k2 bI - ⟨gx,ig,rfl,rfl,rfl,h3⟩ -;refine yI [] [7] rfl<|yV<|zZ 6 [0] [76,80,81] rfl ?_;obtain⟨s1,bX,N⟩:=zB N;refine zB8 rfl bX<|zZ 9 [] [84] rfl<|yZ 0 [vT s1.l,.bool y2.bad] rfl<|zW rfl<|yV<|zZ 2 [] [86] rfl<|yZ 1 [vI 1,vI y4,z0,vI 0,vT ([]),z0,z0] rfl<|zW rfl<|xH<|zS<|zG ?_;exact wD N (resC 1 rfl rfl) (zV [0] rfl (by decide)) ⟨_,_,rfl,rfl,⟨_,rfl,(xS ⟨_,_,_,rfl,(SL.nil _),(SL.nil _),(SL.nil _)⟩)⟩,(tG rfl)⟩
 intro bU N;refine yG [87] rfl<|zK<|yC N ?_ ?_
 ·intro lH N;refine yB<|zZ 1 [] [90] rfl ?_;obtain⟨⟨y7,y8⟩,cx,N⟩:=zB N;refine tU (jS y2 _ cx ) rfl ?_;rintro gk au v2 k2 bJ - ⟨ng,oe,rfl,rfl,rfl,h5⟩ -;have ⟨hG,H⟩:=m2 bJ hG H;obtain rfl:=wV h5;refine zW rfl<|yV<|zZ 1 [] [93] rfl ?_;obtain⟨⟨y10,fm⟩,cV,N⟩:=zB N;refine tU (zBI y8 (125:UInt8) _ cV hG) rfl ?_;rintro ij au v2 k2 bZ - ⟨ee,oy,rfl,rfl,rfl,h7⟩ -;have ⟨hG,H⟩:=m2 bZ hG H;obtain rfl:=wV h7;obtain⟨⟨y13,y14⟩,eo,N⟩:=zB N;refine xG (zBH y10 _ eo hG) ?_;rintro iE au v2 k2 dt - ⟨sk,q8,rfl,rfl,⟨cs,rfl,h8⟩,rfl⟩ -;have H:=H.trans dt;obtain⟨p,c,rfl,bQ⟩:=yF h8;refine zZ 6 [] [96,97] rfl<|wT [z0,vI 0] ?_;intro b3 cp;refine yZ 0 (cAff y13 p c) rfl<|yI [] [10] rfl<|zK<|yA ?_;obtain⟨lN,gv,ff⟩:=zB N;refine rR (λI' ah m'=>∃(tc:Bool),lN=tc/\iE.le I'/\ah=[hB b3 (cAff y13 p c),hB ap [vT fm.s.l,.bool tc],hB b zExpr]/\m'=[(4,vP b 0),(9,vP b3 0)]) ?_ ?_
  ·have H:=iS iE;refine zM<|zZ 6 [1] [98,103] rfl<|xW [103] gv ?_ ?_
   ·intro l9 N;exact zZ 11 [] [106,108] rfl<|yZ 1 [vT fm.s.l,vY] rfl<|zW rfl<|yP<|zQ (ct N H)
   intro l9 N;exact zZ 11 [] [106,108] rfl<|yZ 1 [vT fm.s.l,.bool (!y14)] rfl<|zW rfl<|yP<|zQ (ct N H)
  rintro jx au m2 ⟨tc,ry,bS,rfl,rfl⟩;subst lN;have bQ:=bQ.mono bS;refine yV<|qO 2 [0] [(110,vA [vI 2,vI 0,vS p y13.Coefs c,vI y13.Const,vT ([]),z0,z0])]<|yZ 2 [vI 2,vI 0,vS p y13.Coefs c,vI y13.Const,vT ([]),z0,z0] rfl<|zW rfl<|xH<|zS<|zG ?_;exact wD ff (resC 2 rfl rfl) (zV [1] rfl (by decide)) ⟨_,_,rfl,rfl,⟨_,rfl,(xS ⟨_,_,_,rfl,bQ,(SL.nil _),(SL.nil _)⟩)⟩,(tG rfl)⟩
 intro lH N;refine yG [111] rfl<|zK<|yC N ?_ ?_
 ·intro ja N;refine yB<|zZ 1 [] [114] rfl ?_;obtain⟨⟨ii,lx⟩,gi,N⟩:=zB N;refine tU (jS y2 _ gi ) rfl ?_;rintro eg au v2 k2 cb - ⟨q9,kk3,rfl,rfl,rfl,bW⟩ -;have ⟨hG,H⟩:=m2 cb hG H;obtain rfl:=wV bW;refine zW rfl<|yV<|zZ 3 [] [116,118] rfl ?_;obtain⟨⟨fj,jh⟩,cU,N⟩:=zB N;refine tU (ih_impl_reader_expr lx (W (cf+1)) _ cU hG) rfl ?_;rintro hJ au v2 k2 cA - ⟨v09,kk4,rfl,rfl,⟨aA,rfl,cy⟩,bV⟩ -;have ⟨hG,H⟩:=m2 cA hG H;obtain⟨p1,c1,p2,c2,p3,c3,rfl,co,ck,cm⟩:=vJ cy;obtain rfl:=wV bV;refine wT zExpr ?_;intro b4 fl;refine yZ 0 (cExpr fj p1 c1 p2 c2 p3 c3) rfl<|zW rfl<|yV<|zZ 1 [] [120] rfl<|qM (zX [1,0,2] (ah:=[hB ap [vT jh.s.l,.bool jh.bad],hB b4 (cExpr fj p1 c1 p2 c2 p3 c3),hB b zExpr])) ?_;obtain⟨⟨nn,me⟩,dr,N⟩:=zB N;refine tU (jS jh _ dr ) rfl ?_;rintro fq au v2 k2 d7 - ⟨qe,kk5,rfl,rfl,rfl,d9⟩ -;have ⟨co,ck,cm,hG,H⟩:=m5 d7 co ck cm hG H;obtain rfl:=wV d9;obtain⟨qg,en,N⟩:=zB N;refine dU (zDn (⟨[43,45,42]⟩:Str) nn _ en ) ?_;intro ku fu;have ⟨co,ck,cm,hG,H⟩:=m5 fu co ck cm hG H;refine yI [] [12] rfl<|yV<|zZ 3 [] [123,125] rfl ?_;obtain⟨⟨fo,ko⟩,iA,N⟩:=zB N;refine tU (ih_impl_reader_expr me (W (cf+1)) _ iA hG) rfl ?_;rintro mm au v2 k2 ib - ⟨uu,kk6,rfl,rfl,⟨bv,rfl,jz⟩,j3⟩ -;have ⟨co,ck,cm,H⟩:=m4 ib co ck cm H;obtain⟨p4,c4,p5,c5,p6,c6,rfl,jg,iu,hV⟩:=vJ jz;obtain rfl:=wV j3;refine wT zExpr ?_;intro b5 ni;refine yZ 0 (cExpr fo p4 c4 p5 c5 p6 c6) rfl<|zW rfl<|yV<|zZ 1 [] [127] rfl<|qM (zX [1,0,2,3] (ah:=[hB ap [vT ko.s.l,.bool ko.bad],hB b5 (cExpr fo p4 c4 p5 c5 p6 c6),hB b4 (cExpr fj p1 c1 p2 c2 p3 c3),hB b zExpr]))<|bE N λy28 jt N=>tU (dR ko (41:UInt8) _ jt ) rfl ?_;rintro kv au v2 k2 ic - ⟨kk7,rfl,rfl,hZ⟩ -;have ⟨jg,iu,hV,co,ck,cm⟩:=m6 ic jg iu hV co ck cm;have H:=H.trans ic;obtain rfl:=wV hZ;refine zW rfl<|zK<|yA ?_;obtain⟨vf,kf,ia⟩:=zB N;refine rR (λI' ah m'=>∃(td:Bool),vf=td/\kv.le I'/\ah=[hB ap [vT y28.s.l,.bool td],hB b5 (cExpr fo p4 c4 p5 c5 p6 c6),hB b4 (cExpr fj p1 c1 p2 c2 p3 c3),hB b zExpr]/\m'=[(4,vP b 0),(11,vP b4 0),(12,vI qg),(13,vP b5 0)]) ?_ ?_
  ·have H:=iS kv;refine zM<|zZ 6 [0] [129,134] rfl<|xW [134] kf ?_ ?_
   ·intro kc N;exact zZ 11 [] [137,139] rfl<|yZ 0 [vT y28.s.l,vY] rfl<|zW rfl<|yP<|zQ (ct N H)
   intro kc N;exact zZ 11 [] [137,139] rfl<|yZ 0 [vT y28.s.l,.bool (decide (qg<0))] rfl<|zW rfl<|yP<|zQ (ct N H)
  rintro lZ au m2 ⟨td,heq5,gw,rfl,rfl⟩;subst vf;have ⟨jg,iu,hV,co,ck,cm⟩:=m6 gw jg iu hV co ck cm;refine yV<|qO 4 [2,1] [(141,vI (W (4+qg))),(142,vA (cExpr fj p1 c1 p2 c2 p3 c3)),(143,vA (cExpr fo p4 c4 p5 c5 p6 c6))]<|qN [vI fj.Kind,vI fj.Num,vS p1 fj.Index.Coefs c1,vI fj.Index.Const,vT fj.Read.Array.l,vS p2 fj.Read.Subs c2,vS p3 fj.Kids c3,vI fo.Kind,vI fo.Num,vS p4 fo.Index.Coefs c4,vI fo.Index.Const,vT fo.Read.Array.l,vS p5 fo.Read.Subs c5,vS p6 fo.Kids c6] zF ?_;intro b6 tr;have iH:RL lZ [vI fj.Kind,vI fj.Num,vS p1 fj.Index.Coefs c1,vI fj.Index.Const,vT fj.Read.Array.l,vS p2 fj.Read.Subs c2,vS p3 fj.Kids c3,vI fo.Kind,vI fo.Num,vS p4 fo.Index.Coefs c4,vI fo.Index.Const,vT fo.Read.Array.l,vS p5 fo.Read.Subs c5,vS p6 fo.Kids c6] ([fj,fo]:List zF):=⟨(cExpr fj p1 c1 p2 c2 p3 c3),_,rfl,rfl,(xS ⟨_,_,_,rfl,co,ck,cm⟩),⟨(cExpr fo p4 c4 p5 c5 p6 c6),_,rfl,rfl,(xS ⟨_,_,_,rfl,jg,iu,hV⟩),rfl⟩⟩;refine zZ 6 [] [145] rfl<|yZ 4 [vI (W (4+qg)),vI 0,z0,vI 0,vT ([]),z0,vS (some ⟨b6,0,none⟩) ([fj,fo]:List zF) 2] rfl<|zW rfl<|xH<|zS<|zG<|xT 0 rfl ?_;intro mn iC cH;have fk:=SL.of_frozen cH iC iH;exact wD ia (resC 3 rfl rfl) (zV [0] rfl (by decide)) ⟨_,_,rfl,rfl,⟨_,rfl,(xS ⟨_,_,_,rfl,(SL.nil _),(SL.nil _),fk⟩)⟩,(tG rfl)⟩
 intro ja N;refine zR<|zO<|yV<|zZ 1 [] [146] rfl ?_;obtain⟨⟨uw,o7⟩,lK,N⟩:=zB N;refine tU (zA8 y2 _ lK hG) rfl ?_;rintro mq au v2 k2 iO - ⟨v019,kk8,rfl,rfl,⟨bf,rfl,j4⟩,jn⟩ -;obtain⟨p7,c7,rfl,gt⟩:=nJ j4;obtain rfl:=wV jn;refine zZ 3 [] [148] rfl<|yZ 1 [vI 3,vI 0,z0,vI 0,vT uw.Array.l,vS p7 uw.Subs c7,z0] rfl<|zW rfl<|zK<|yX ?_;exact wD N (resC 1 rfl rfl) (zV [0] rfl (by decide)) ⟨_,_,rfl,rfl,⟨_,rfl,(xS ⟨_,_,_,rfl,(SL.nil _),gt,(SL.nil _)⟩)⟩,(tG rfl)⟩
def kG(aF:Str):Option (zI×Bool):=do
 if(decide ((aF.l.length:Int)>2000)) then pure ((zI.mk (zJ.mk (⟨[]⟩:Str) ([]:List zA)) (zF.mk 0 0 (zA.mk ([]:List Int) 0) (zJ.mk (⟨[]⟩:Str) ([]:List zA)) ([]:List zF))),F9)
 else
  let (y1,y2)<-tR (yU.mk aF false);let y3<-rQ y2 (61:UInt8);let (y5,y6)<-xK y3 1;let q7<-(do
   if y6.bad then pure true
   else
    if(!(y6.s.l==([]:List UInt8))) then pure true
    else
     let y7<-zAA (zI.mk y1 y5);if(!y7) then pure true
     else
      let y8<-gE (zI.mk y1 y5);pure (!(y8.l==aF.l))
     : Option Bool)
  if q7 then pure ((zI.mk (zJ.mk (⟨[]⟩:Str) ([]:List zA)) (zF.mk 0 0 (zA.mk ([]:List Int) 0) (zJ.mk (⟨[]⟩:Str) ([]:List zA)) ([]:List zF))),F9)
  else pure ((zI.mk y1 y5),true)
theorem zFq:∀aF r,kG aF=some r->∀{I:Imm} ,(GH Tryz.prog I)->RT 29 [vT aF.l] I [] (zBE  r):=by
 intro aF r N I  hG;unfold kG at N;refine yK func29 λB=>?_;have H:=iS I;refine yB<|wT [vT ([]),z0,vI 0,vI 0,z0,vI 0,vT ([]),z0,z0] ?_;intro b hb;refine wP [] []<|zY<|yG [8] rfl<|zK<|yC N ?_ ?_
 ·intro hc N;refine yB<|zZ 1 [] [9] rfl<|yZ 0 [vT ([]),z0,vI 0,vI 0,z0,vI 0,vT ([]),z0,z0] rfl<|wP [] [(3,vF)]<|xH<|zG ?_;exact wD N (resE 0 rfl rfl rfl) zN ⟨_,_,rfl,rfl,⟨_,rfl,(wO ⟨_,_,_,_,rfl,(SL.nil _),(SL.nil _),(SL.nil _),(SL.nil _)⟩)⟩,rfl⟩
 intro hc N;refine zR<|yV<|zZ 2 [] [11] rfl<|sF [vT aF.l,vF] ?_;intro b1 cp;refine yI [] [4] rfl<|yV<|zZ 1 [] [13] rfl ?_;obtain⟨⟨y1,y2⟩,hy,N⟩:=zB N;refine tU (zA8 (yU.mk aF false) _ hy hG) rfl ?_;rintro I0 au v2 k2 le - ⟨v0,kk,rfl,rfl,⟨cs,rfl,h⟩,h1⟩ -;have ⟨hG,H⟩:=m2 le hG H;obtain⟨p,c,rfl,h2⟩:=nJ h;obtain rfl:=wV h1;refine zZ 3 [] [15] rfl<|wT [vT ([]),z0,vI 0,vI 0,z0,vI 0,vT ([]),z0,z0] ?_;intro b2 fl;refine yZ 0 [vT y1.Array.l,vS p y1.Subs c,vI 0,vI 0,z0,vI 0,vT ([]),z0,z0] rfl<|zW rfl<|yV<|zZ 1 [] [16] rfl<|qM (zX [1,0,2] (ah:=[hB b1 [vT y2.s.l,.bool y2.bad],hB b2 [vT y1.Array.l,vS p y1.Subs c,vI 0,vI 0,z0,vI 0,vT ([]),z0,z0],hB b [vT ([]),z0,vI 0,vI 0,z0,vI 0,vT ([]),z0,z0]]))<|bE N λy3 ay N=>tU (dR y2 (61:UInt8) _ ay ) rfl ?_;rintro aT au v2 k2 ae - ⟨oe,rfl,rfl,h3⟩ -;have ⟨h2,hG,H⟩:=m3 ae h2 hG H;obtain rfl:=wV h3;refine zW rfl<|yV<|zZ 1 [] [18] rfl ?_;obtain⟨⟨y5,y6⟩,aK,N⟩:=zB N;refine tU (zE0 y3 1 _ aK hG) rfl ?_;rintro aY au v2 k2 aJ - ⟨ig,oy,rfl,rfl,⟨aA,rfl,h4⟩,h5⟩ -;have ⟨h2,hG,H⟩:=m3 aJ h2 hG H;obtain⟨p1,c1,p2,c2,p3,c3,rfl,h6,h7,h8⟩:=vJ h4;obtain rfl:=wV h5;refine zZ 3 [] [20] rfl<|yZ 1 [vT y1.Array.l,vS p y1.Subs c,vI y5.Kind,vI y5.Num,vS p1 y5.Index.Coefs c1,vI y5.Index.Const,vT y5.Read.Array.l,vS p2 y5.Read.Subs c2,vS p3 y5.Kids c3] rfl<|zW rfl<|zY<|yA ?_;refine wZ N [hB b2 [vT y1.Array.l,vS p y1.Subs c,vI y5.Kind,vI y5.Num,vS p1 y5.Index.Coefs c1,vI y5.Index.Const,vT y5.Read.Array.l,vS p2 y5.Read.Subs c2,vS p3 y5.Kids c3],hB b [vT ([]),z0,vI 0,vI 0,z0,vI 0,vT ([]),z0,z0]] (λq7=>[(2,vP b 0),(5,vP b2 0),(42,.bool q7)]) (λo0 aC=>?_) ?_
 ·have H:=iS aY;refine zM<|zZ 5 [0] [25] rfl<|xW [25] aC ?_ ?_
  ·intro aI N;exact wP [] [(42,vY)]<|wI (zV [1,2] rfl (by decide))<|yP<|zQ (ct N H)
  intro aI N;refine zZ 12 [0] [32] rfl<|xW [32] N ?_ ?_
  ·intro aU N;exact wP [] [(42,vY)]<|wI (zV [1,2] rfl (by decide))<|yP<|zQ (ct N H)
  intro aU N;refine qO 13 [1] [(33,vA [vT y1.Array.l,vS p y1.Subs c,vI y5.Kind,vI y5.Num,vS p1 y5.Index.Coefs c1,vI y5.Index.Const,vT y5.Read.Array.l,vS p2 y5.Read.Subs c2,vS p3 y5.Kids c3])]<|bE N λy7 bc N=>uU (zIP (zI.mk y1 y5) _ bc h2 h6 h7 h8) ?_;intro cI aL;have ⟨h2,h6,h7,h8,hG,H⟩:=m6 aL h2 h6 h7 h8 hG H;refine zZ 17 [] [37] rfl<|xW [37] N ?_ ?_
  ·intro bU N;exact wP [] [(42,vY)]<|wI (zV [1,2] rfl (by decide))<|yP<|zQ (ct N H)
  intro bU N;refine qO 18 [1] [(38,vA [vT y1.Array.l,vS p y1.Subs c,vI y5.Kind,vI y5.Num,vS p1 y5.Index.Coefs c1,vI y5.Index.Const,vT y5.Read.Array.l,vS p2 y5.Read.Subs c2,vS p3 y5.Kids c3])]<|bE N λy8 bL N=>xG (zC6 (zI.mk y1 y5) _ bL h2 h6 h7 h8 hG) ?_;rintro dw au v2 k2 bb - ⟨v07,rfl,rfl,rfl⟩ -;have H:=H.trans bb;exact yI [] [42] rfl<|wI (zV [1,2] rfl (by decide))<|yP<|zQ (ct N H)
 intro q7 bP bI aO;have ⟨h2,h6,h7,h8⟩:=m4 bI h2 h6 h7 h8;refine zK<|yC aO ?_ ?_
 ·intro cO N;refine yB<|zZ 1 [] [43] rfl<|yZ 1 [vT ([]),z0,vI 0,vI 0,z0,vI 0,vT ([]),z0,z0] rfl<|wP [] [(3,vF)]<|xH<|zG ?_;exact wD N (resE 1 rfl rfl rfl) zN ⟨_,_,rfl,rfl,⟨_,rfl,(wO ⟨_,_,_,_,rfl,(SL.nil _),(SL.nil _),(SL.nil _),(SL.nil _)⟩)⟩,rfl⟩
 intro cO N;refine zR<|yV<|qO 1 [0] [(44,vA [vT y1.Array.l,vS p y1.Subs c,vI y5.Kind,vI y5.Num,vS p1 y5.Index.Coefs c1,vI y5.Index.Const,vT y5.Read.Array.l,vS p2 y5.Read.Subs c2,vS p3 y5.Kids c3])]<|yZ 1 [vT y1.Array.l,vS p y1.Subs c,vI y5.Kind,vI y5.Num,vS p1 y5.Index.Coefs c1,vI y5.Index.Const,vT y5.Read.Array.l,vS p2 y5.Read.Subs c2,vS p3 y5.Kids c3] rfl<|wP [] [(3,vY)]<|zK<|yX ?_;exact wD N (resE 1 rfl rfl rfl) zN ⟨_,_,rfl,rfl,⟨_,rfl,(wO ⟨_,_,_,_,rfl,h2,h6,h7,h8⟩)⟩,rfl⟩
def zFA(r:zD×Bool):KT:=λkk I' ah v=>
 ∃v0 v1,ah=[]/\v=tupV [v0,v1]/\(∃cs,v0=.agg ⟨cs⟩/\Rp.rep I' cs r.1)/\v1=.bool r.2
def gG(cg:Str):Option (zD×Bool):=do
 let y<-oL cg (⟨[32]⟩:Str);let wm<-(do
  if((y.length:Int) != 3) then pure true
  else
   let x<-idx y 0;pure (!(x.l==([102,111,114]:List UInt8)))
    : Option Bool)
 if wm then pure ((zD.mk ([]:List zA) ([]:List zA)),F9)
 else
  let x1<-idx y 1;let (y2,y3)<-oV x1;let x2<-idx y 2;let (y5,y6)<-oV x2;let (t3,x3)<-(do
   if y3 then pure (y6,(zD.mk y2 y5))
   else
    pure (false,(zD.mk y2 y5))
     : Option (Bool×zD))
  pure (x3,t3)
theorem zGn:∀cg r,gG cg=some r->∀{I:Imm} ,(GH Tryz.prog I)->RT 59 [vT cg.l] I [] (zFA  r):=by
 intro cg r N I  hG;unfold gG at N;refine yK func59 λB=>?_;have H:=iS I;refine yB<|wT zTwo ?_;intro b hb;refine wP [] []<|yV<|zZ 1 [] [9] rfl<|bE N λy hy N=>xG (dM cg (⟨[32]⟩:Str) _ hy hG) ?_;rintro I0 au v2 k2 le - ⟨v0,rfl,rfl,h⟩ -;have ⟨hG,H⟩:=m2 le hG H;obtain⟨p,c,rfl⟩:=h.form;refine yI [] [4] rfl<|zY<|yA ?_;refine wZ N [hB b zTwo] (λwm=>[(2,vP b 0),(4,vS p y c),(19,.bool wm)]) (λo0 aC=>?_) ?_
 ·have H:=iS I0;refine zM<|zZ 4 [] [14] rfl<|xW [14] aC ?_ ?_
  ·intro hc N;exact wP [] [(19,vY)]<|yP<|zQ (ct N H)
  intro hc N;refine zZ 5 [] [15] rfl<|bE N λx ay N=>wJ rfl rfl h ay ?_;intro ad aR av al;obtain rfl:=al;exact wC 0 av [vT x.l] (vT x.l) rfl<|yI [] [19] rfl<|yP<|zQ (ct N H)
 intro wm aT ae aO;have ⟨h,hG,H⟩:=m3 ae h hG H;refine zK<|yC aO ?_ ?_
 ·intro aI N;refine yB<|zZ 1 [] [20] rfl<|zAF 0 zTwo [hB b zTwo] rfl rfl rfl rfl<|wP [] [(3,vF)]<|xH<|zG ?_;exact wD N (resE 0 rfl rfl rfl) zN ⟨_,_,rfl,rfl,⟨_,rfl,(uW ⟨_,_,rfl,(SL.nil _),(SL.nil _)⟩)⟩,rfl⟩
 intro aI N;refine zR<|yV<|zZ 1 [] [22] rfl<|bE N λx1 aK N=>wJ rfl rfl h aK ?_;intro cD bN aw ax;obtain rfl:=ax;refine wC 0 aw [vT x1.l] (vT x1.l) rfl ?_;obtain⟨⟨y2,y3⟩,bc,N⟩:=zB N;refine xG (dS x1 _ bc hG) ?_;rintro aY au v2 k2 aJ - ⟨gx,ig,rfl,rfl,h1,rfl⟩ -;have ⟨h,hG,H⟩:=m3 aJ h hG H;obtain⟨p1,c1,rfl⟩:=h1.form;refine yI [] [5,6] rfl<|yV<|zZ 1 [] [29] rfl<|bE N λx2 bL N=>wJ rfl rfl h bL ?_;intro jm gn cd bO;obtain rfl:=bO;refine wC 0 cd [vT x2.l] (vT x2.l) rfl ?_;obtain⟨⟨y5,y6⟩,bX,N⟩:=zB N;refine xG (dS x2 _ bX hG) ?_;rintro bP au v2 k2 aL - ⟨ng,ee,rfl,rfl,h3,rfl⟩ -;have ⟨h1,H⟩:=m2 aL h1 H;obtain⟨p2,c2,rfl⟩:=h3.form;refine yI [] [7,8] rfl<|zK<|yA ?_;obtain⟨aS,aE,bK⟩:=zB N;refine rR (λI' ah m'=>∃(t3:Bool) (x3:zD) (p3:Option Addr) (c3:Nat) (p4:Option Addr) (c4:Nat),aS=(t3,x3)/\bP.le I'/\(S4 I' p3 x3.Lo c3)/\(S4 I' p4 x3.Hi c4)/\ah=[hB b (cLoop x3 p3 c3 p4 c4)]/\m'=[(2,vP b 0),(3,.bool t3)]) ?_ ?_
 ·have H:=iS bP;refine zM<|zZ 5 [] [37,39] rfl<|xW [39] aE ?_ ?_
  ·intro aU N;exact zZ 7 [] [41] rfl<|yZ 0 [vS p1 y2 c1,vS p2 y5 c2] rfl<|yI [] [3] rfl<|yP<|zQ ⟨_,_,_,_,_,_,(zC N).symm,H,h1,h3,rfl,rfl⟩
  intro aU N;exact qO 7 [] [(41,vF)]<|yZ 0 [vS p1 y2 c1,vS p2 y5 c2] rfl<|wP [] [(3,vF)]<|yP<|zQ ⟨_,_,_,_,_,_,(zC N).symm,H,h1,h3,rfl,rfl⟩
 rintro cI au m2 ⟨t3,x3,p3,c3,p4,c4,ca,bb,h5,h6,rfl,rfl⟩;subst aS;refine zK<|yX ?_;exact wD bK (resE 0 rfl rfl rfl) zN ⟨_,_,rfl,rfl,⟨_,rfl,(uW ⟨_,_,rfl,h5,h6⟩)⟩,rfl⟩
structure LQ(I:Imm)(aA:List Value)(aj:List Raw2)(parts:List zL)(vN:Value)(nl:List zD)(vB:Value)(bl:List zI)(cK cj:List Value):Prop where
 raw:RL I aA aj
 lp:LP I aj parts vN nl vB bl
 n:RL I cK nl
 b:RL I cj bl
theorem LQ.mono{i j:Imm}(hl:i.le j){aA}{aj:List Raw2}{parts:List zL}{vN vB:Value}{nl:List zD}{bl:List zI}{cK cj:List Value}
 (h:LQ i aA aj parts vN nl vB bl cK cj):LQ j aA aj parts vN nl vB bl cK cj:=
 ⟨iM hl h.raw,h.lp.mono hl,iM hl h.n,iM hl h.b⟩
instance {i j:Imm}{aA}{aj:List Raw2}{parts:List zL}{vN vB:Value}{nl:List zD}{bl:List zI}{cK cj:List Value}:Mo (LQ i aA aj parts vN nl vB bl cK cj) i j (LQ j aA aj parts vN nl vB bl cK cj):=⟨λh x=>x.mono h⟩
def PQ(I:Imm)(r0:Nat)(hs:List HA)(q:zH):Prop:=
 ∃(p1:Option Addr) (c:Nat) (cs:List Value) (p2:Option Addr) (c1:Nat) (aA:List Value) (aj:List Raw2) (vN vB:Value) (nl:List zD) (bl:List zI) (cK cj:List Value),
   hs=[hB r0 [vS p1 q.Arrays c,vS p2 aj c1],hO zE (vS p1 q.Arrays c) cs,hO Raw2 (vS p2 aj c1) aA,hO zD vN cK,hO zI vB cj]/\RL I cs q.Arrays/\LQ I aA aj q.Parts vN nl vB bl cK cj
def dJ(b0:Nat)(r:Bool×zH):KT:=λkk I' ah v=>PQ I' b0 ah r.2/\v=tupV [.bool r.1]
def xV(p:zH)(l:List Str)(ol:Int)(Dims:List Int):Option (Out (List Int) (Bool×zH)):=do
 if(decide (ol<(l.length:Int))) then
  let x1<-idx l ol;let (y6,y7)<-tC x1;if y7 then pure (.ret (false,p))
  else
   let l1<-app 8 Dims ([y6]:List Int);xV p l (W (ol+1)) l1
 else pure (.done Dims)
 partial_fixpoint
theorem zBO(p:zH)(l:List Str):∀(ol:Int) (Dims:List Int) (o:Out (List Int) (Bool×zH)),xV p l ol Dims=some o->∀{B}{I0 I:Imm}{Q}{x:Str}{r0}{p1 c cs p2 c1 aA}{aj:List Raw2}{vN vB:Value}{nl:List zD}{bl:List zI}{cK cj:List Value}{b}{p6 c5 p7 c6 cC},I0.le I->(S4 I p6 l c5)->(RL I cs p.Arrays)->(LQ I aA aj p.Parts vN nl vB bl cK cj)->(GH Tryz.prog I)->(RL I cC Dims)->NG Q->NO Q->(∀I' cr p8 c7 cP,o=(.done cr)->I0.le I'->(RL I' cP cr)->T 189 B Q (.exit 1) I' [hO Int (vS p8 cr c7) cP,hB b [vT x.l,vS p8 cr c7],hB r0 [vS p1 p.Arrays c,vS p2 aj c1],hO zE (vS p1 p.Arrays c) cs,hO Raw2 (vS p2 aj c1) aA,hO zD vN cK,hO zI vB cj] [(0,vP r0 0),(10,vP b 0)])->(∀r I' ah m',o=(.ret r)->I0.le I'->RS Tryz.prog f38 B (dJ r0 r) I' ah m'->T 189 B Q .ret I' ah m')->J Tryz.prog 189 B (nav (bodyOf f38) [1,1,1,0,1,0,1,0,1,1,1,0,1,0]) Q I [hO Int (vS p7 Dims c6) cC,hB b [vT x.l,vS p7 Dims c6],hB r0 [vS p1 p.Arrays c,vS p2 aj c1],hO zE (vS p1 p.Arrays c) cs,hO Raw2 (vS p2 aj c1) aA,hO zD vN cK,hO zI vB cj] [(0,vP r0 0),(10,vP b 0),(98,vS p6 l c5),(99,vI (l.length:Int)),(100,vI ol)]:=by
 refine xV.partial_correctness p l _ λaQ ih ol Dims o N B I0 I Q x r0 p1 c cs p2 c1 aA aj vN vB nl bl cK cj b p6 c5 p7 c6 cC H h8 h h1 hG bQ hg ho hx hr=>xD hg ho<|yG [101] rfl<|zY<|yC N ?_ ?_
 ·intro cO N;refine zR<|zY<|yM<|yB<|bE N λx1 bL N=>wJ rfl rfl h8 bL ?_;intro cD bN aw ax;obtain rfl:=ax;refine wC 0 aw [vT x1.l] (vT x1.l) rfl<|yI [] [12] rfl<|yV<|zZ 1 [] [105] rfl ?_;obtain⟨⟨y6,y7⟩,bX,N⟩:=zB N;refine xG (zAz x1 _ bX hG) ?_;rintro cI au v2 k2 aL - ⟨sk,q8,rfl,rfl,rfl,cy⟩ -;have ⟨h8,bQ,h,h1,hG,H⟩:=m6 aL h8 bQ h h1 hG H;refine yI [] [13,14] rfl<|zY<|yB<|qO 1 [] [(109,q8)]<|zRG cy rfl<|zW rfl<|zK<|yC N ?_ ?_
  ·intro ft N;exact vO [(4,vF)]<|xH<|zG<|zS<|zG<|zG<|hr _ _ _ _ (zC N).symm H ⟨_,_,(resT rfl),(zV [2,3,4,5,6] rfl (by decide)),⟨⟨_,_,_,_,_,_,_,_,_,_,_,_,_,rfl,h,h1⟩,rfl⟩⟩
  intro ft N;refine zR<|zK<|zM<|zZ 3 [1] [112,113] rfl<|qN [vI y6] Int ?_;intro b1 cp;have bV:RL cI [vI y6] ([y6]:List Int):=rI [y6];obtain⟨l1,cx,N⟩:=zB N;refine mD 3 1 1 rfl rfl rfl bQ (.inr ⟨0,rfl⟩) bV cx ?_;intro p9 c8 gb co;exact qM (zX [1,2,3,4,5,6,7] (ah:=[hO Int (vS p9 l1 c8) gb,hB b [vT x.l,vS p7 Dims c6],hB r0 [vS p1 p.Arrays c,vS p2 aj c1],hO zE (vS p1 p.Arrays c) cs,hO Raw2 (vS p2 aj c1) aA,hO zD vN cK,hO zI vB cj]))<|zZ 6 [] [116] rfl<|yZ 1 [vT x.l,vS p9 l1 c8] rfl<|zW rfl<|zO<|zK<|zM<|yI [] [100] rfl<|xB<|jH<|ih (W (ol+1)) l1 _ N H h8 h h1 hG co hg ho hx hr
 intro cO N;exact uR<|yP<|hx _ _ _ _ _ (zC N).symm H bQ
def wL(p:zH)(cg:Str):Option (Bool×zH):=do
 let (y1,y2,y3)<-jM cg (⟨[32]⟩:Str)
 match<-(do
  if(y1.l==([97,114,114,97,121]:List UInt8)) then
   let y4<-oL cg (⟨[32]⟩:Str);let t92<-(do
    if(decide ((y4.length:Int)<2)) then pure true
    else
     if(decide ((y4.length:Int)>4)) then pure true
     else
      pure ((p.Arrays.length:Int)==4)
      : Option Bool)
   if t92 then pure (.ret (false,p))
   else
    let x<-idx y4 1;let l<-slc y4 2 (y4.length:Int)
    match<-xV p l 0 ([]:List Int) with
    | .ret r0=>pure (.ret r0)
    | .done cr=>
     let l2<-app 40 p.Arrays ([(zE.mk x cr)]:List zE);pure (.done (l2,p.Parts))
  else
   if(y1.l==([112,97,114,116]:List UInt8)) then
    let l3<-app 48 p.Parts ([(zL.mk ([]:List zD) ([]:List zI))]:List zL);pure (.ret ((decide ((l3.length:Int)<=4)),(zH.mk p.Arrays l3)))
   else
    match<-(do
     if(y1.l==([102,111,114]:List UInt8)) then
      let (y9,y10)<-gG cg;let wk<-(do
       if(!y10) then pure true
       else
        if(decide ((W ((p.Parts.length:Int) - 1))<0)) then pure true
        else
         let x2<-idx p.Parts (W ((p.Parts.length:Int) - 1));pure ((x2.Nest.length:Int)==4)
         : Option Bool)
      if wk then pure (.ret (false,p))
      else
       let x4<-idx p.Parts (W ((p.Parts.length:Int) - 1));let l4<-app 48 x4.Nest ([y9]:List zD);pure (.done (p.Parts.set (W ((p.Parts.length:Int) - 1)).toNat (zL.mk l4 x4.Body)))
     else
      let (ef,y13)<-kG cg;let lR<-(do
       if(!y13) then pure true
       else
        if(decide ((W ((p.Parts.length:Int) - 1))<0)) then pure true
        else
         let x3<-idx p.Parts (W ((p.Parts.length:Int) - 1));pure ((x3.Body.length:Int)==4)
         : Option Bool)
      if lR then pure (.ret (false,p))
      else
       let x5<-idx p.Parts (W ((p.Parts.length:Int) - 1));let l5<-app 152 x5.Body ([ef]:List zI);pure (.done (p.Parts.set (W ((p.Parts.length:Int) - 1)).toNat (zL.mk x5.Nest l5)))
       : Option (Out (List zL) (Bool×zH))) with
    | .ret r0=>pure (.ret r0)
    | .done aX=>
     pure (.done (p.Arrays,aX))
    : Option (Out (List zE×List zL) (Bool×zH))) with
 | .ret r0=>pure r0
 | .done (Arrays,Parts)=>
  pure (true,(zH.mk Arrays Parts))
theorem zCF:∀p cg r,wL p cg=some r->∀{I:Imm}{r0}{p1 c cs p2 c1 aA}{aj:List Raw2}{vN vB:Value}{nl:List zD}{bl:List zI}{cK cj:List Value},(RL I cs p.Arrays)->(LQ I aA aj p.Parts vN nl vB bl cK cj)->(GH Tryz.prog I)->RT 38 [vP r0 0,vT cg.l] I [hB r0 [vS p1 p.Arrays c,vS p2 aj c1],hO zE (vS p1 p.Arrays c) cs,hO Raw2 (vS p2 aj c1) aA,hO zD vN cK,hO zI vB cj] (dJ r0 r):=by
 intro p cg r N I r0 p1 c cs p2 c1 aA aj vN0 vB0 nl bl cK cj h h1 hG;unfold wL at N;simp only[h1.lp.len] at N;refine yK func38 λB=>?_;have H:=iS I;refine yB<|zEa (α:=zD) 3 rfl h1.n ?_;intro aN kN eN;subst eN;refine zEa (α:=zI) 4 rfl h1.b ?_;intro aB kB eB;subst eB;refine wP [] []<|yV<|zZ 1 [] [20] rfl ?_;obtain⟨⟨y1,y2,y3⟩,hy,N⟩:=zB N;refine xG (zDm cg (⟨[32]⟩:Str) _ hy hG) ?_;rintro I0 au v2 k2 le - ⟨v0,gx,ig,rfl,rfl,rfl,rfl,rfl⟩ -;have ⟨h,h1,hG,H⟩:=m4 le h h1 hG H;refine yI [] [5] rfl<|yV<|yI [0] [8] rfl<|zY<|yG [31] rfl<|vC<|yG [73] rfl<|zK ?_;obtain⟨o0,aC,aO⟩:=zB N;refine rR (λI' ah m'=>∃(Arrays:List zE) (Parts:List zL),o0=.done (Arrays,Parts)/\I0.le I'/\PQ I' r0 ah (zH.mk Arrays Parts)/\m'=[]) ?_ ?_
 ·have H:=iS I0;refine yC aC ?_ ?_
  ·intro hc N;refine yB<|zZ 1 [] [75] rfl<|bE N λy4 ay N=>xG (dM cg (⟨[32]⟩:Str) _ ay hG) ?_;rintro aY au v2 k2 ae - ⟨ng,rfl,rfl,h7⟩ -;have ⟨h,h1,hG,H⟩:=m4 ae h h1 hG H;obtain⟨p5,c4,rfl⟩:=h7.form;refine yI [] [9] rfl<|zY<|yA ?_;refine wZ N [hB r0 [vS p1 p.Arrays c,vS p2 aj c1],hO zE (vS p1 p.Arrays c) cs,hO Raw2 (vS p2 aj c1) aA,hO zD (vS aN nl kN) cK,hO zI (vS aB bl kB) cj] (λt92=>[(0,vP r0 0),(9,vS p5 y4 c4),(92,.bool t92)]) (λaS aE=>?_) ?_
   ·have H:=iS aY;refine zM<|zZ 4 [] [80] rfl<|xW [80] aE ?_ ?_
    ·intro aI N;exact wP [] [(92,vY)]<|yP<|zQ (ct N H)
    intro aI N;refine zZ 9 [] [85] rfl<|xW [85] N ?_ ?_
    ·intro aU N;exact wP [] [(92,vY)]<|yP<|zQ (ct N H)
    intro aU N;exact yI [0] [92] rfl<|yP<|zQ (ct N H)
   intro t92 bP aJ bK;have ⟨h7,h,h1,hG,H⟩:=m5 aJ h7 h h1 hG H;refine zK<|yC bK ?_ ?_
   ·intro bU N;refine vO [(4,vF)]<|xH<|zG<|zG<|zS<|zG ?_;obtain rfl:=zC N;exact wD aO (resT rfl) (zV [0,1,2,3,4] rfl (by decide)) ⟨⟨_,_,_,_,_,_,_,_,_,_,_,_,_,rfl,h,h1⟩,rfl⟩
   intro bU N;refine zR<|yV<|zZ 1 [] [93] rfl<|bE N λx aK N=>wJ rfl rfl h7 aK ?_;intro ad aR av al;obtain rfl:=al;refine wC 0 av [vT x.l] (vT x.l) rfl<|zZ 4 [] [96] rfl<|wT [vT ([]),z0] ?_;intro b hb;refine yZ 0 [vT x.l,z0] rfl<|zW rfl<|zY<|yB<|zZ 1 [] [97] rfl<|bE N λl bc N=>zP5 rfl h7 bc ?_;intro ee h8;obtain⟨p6,c5,rfl⟩:=h8.form;refine yI [] [99,100] rfl<|vC<|mM [(0,vP r0 0),(10,vP b 0),(98,vS p6 l c5),(99,vI (l.length:Int)),(100,vI 0)]<|zB9 Int λh9=>?_;obtain⟨dd,bh,aM⟩:=zB N;refine zBO p l 0 ([]:List Int) dd bh iR h8 h h1 hG h9 nG nO ?_ ?_
   ·intro dw cr p8 c7 cP ca bb bB;subst dd;have ⟨h,h1,H⟩:=m3 bb h h1 H;refine zT<|zK<|oD 0 rfl ?_;intro gk bI cH;have ck:=SL.of_frozen cH bI bB;have ⟨h,h1,H⟩:=m3 bI h h1 H;obtain⟨l2,cV,N⟩:=zB aM;refine vK [.p (vP r0 0) [],.p (vP r0 0) [],.p (vP r0 0) [],.p (vP r0 0) [],.p (vS p1 p.Arrays c) [1],.p (vA [vT x.l,vS p8 cr c7]) [0],.x (λI' v hx=>∃b2,v=vS (some ⟨b2,0,none⟩) ([(zE.mk x cr)]:List zE) 1/\hx=[]/\(SL I' (vS (some ⟨b2,0,none⟩) ([(zE.mk x cr)]:List zE) 1) ([(zE.mk x cr)]:List zE))),.x (λI' v hx=>∃bH c9 d5,v=vS bH l2 c9/\hx=[hO zE (vS bH l2 c9) d5]/\(RL I' d5 l2))] [[],[],[(1,F9)],[(2,F9)],[(3,F9)],[],[(5,F9)],[(4,F9),(6,F9),(11,true)]] [hB b [vT x.l,vS p8 cr c7],hB r0 [vS p1 p.Arrays c,vS p2 aj c1],hO Raw2 (vS p2 aj c1) aA,hO zD (vS aN nl kN) cK,hO zI (vS aB bl kB) cj] [[hO zE (vS p1 p.Arrays c) cs]] [(0,F9),(7,true)] (zX [0,1,3,4,5,2]) ?_ ?_
    ·refine O4<|O2<|Ox ?_<|Ox ?_<|On
     ·intro I1 hf ae;refine yW [123] rfl ?_;have H:=iS I1;have ck:=ck.mono ae;refine jW (rc (zE.mk x cr) (sL ⟨_,rfl,ck⟩) rN) ?_;intro b2 ij bJ bY;have H:=H.trans bJ;exact xC [] H ⟨_,rfl,rfl,bY⟩
     rintro I1 hf ae _ _ ⟨rfl,rfl⟩ _ _ ⟨b2,rfl,rfl,bY⟩ _ _ rfl;refine yW [122,124] rfl ?_;have h:=iM ae h;obtain⟨gn,k0,cE⟩:=bY;have bY:SL I1 (vS (some ⟨b2,0,none⟩) ([(zE.mk x cr)]:List zE) 1) ([(zE.mk x cr)]:List zE):=⟨_,k0,cE⟩;exact mD 66 2 0 rfl rfl rfl h (.inl k0) cE cV λbH c9 d5 d9=>uT (ah:=(hO zE (vS bH l2 c9) d5::hB b [vT x.l,vS p8 cr c7]::hB r0 [vS p1 p.Arrays c,vS p2 aj c1]::hO Raw2 (vS p2 aj c1) aA::hO zD (vS aN nl kN) cK::hO zI (vS aB bl kB) cj::hf)) rfl<|xC [hO zE (vS bH l2 c9) d5] iR ⟨_,_,_,rfl,rfl,d9⟩
    rintro iE bZ _ _ ⟨rfl,rfl⟩ _ _ ⟨bH,c9,d5,rfl,rfl,d9⟩;refine yW [118,125] rfl ?_;have ⟨h1,H⟩:=m2 bZ h1 H;exact zZ 10 [] [127] rfl<|yZ 2 [vS bH l2 c9,vS p2 aj c1] rfl<|zW rfl<|wI (zV [2,0,3,4,5] rfl (by decide))<|yP<|zQ ⟨_,_,(zC N).symm,H,⟨_,_,_,_,_,_,_,_,_,_,_,_,_,rfl,d9,h1⟩,rfl⟩
   intro r0 I9 gm m9 aV bS aW;subst aV;refine zS<|zG<|zG<|zS<|zG ?_;obtain rfl:=zC aM;obtain rfl:=zC aO;exact fO aW
  intro hc N;refine yG [128] rfl<|zK<|yC N ?_ ?_
  ·intro iU N;refine yA<|oD 3 rfl ?_;intro dw bI r4;have kN:=SL.of_frozen r4 bI h1.n;have ⟨h,h1⟩:=m2 bI h h1;refine oD 3 rfl ?_;intro gk bJ qw;have kB:=SL.of_frozen qw bJ h1.b;replace kN:=kN.mono bJ;have ⟨h,h1⟩:=m2 bJ h h1;obtain⟨l3,eo,N⟩:=zB N;have gi:=zHg (l':=aj) (m':=[(⟨z0,z0⟩:Raw2)]) eo h1.lp.2.1 rfl;have lF:=h1.lp.part kN kB eo;rw[show (l3.length:Int)=((aj++[(⟨z0,z0⟩:Raw2)]).length:Int) by rw[lF.2.1]] at N;refine zM<|uT (ah:=[hB r0 [vS p1 p.Arrays c,vS p2 aj c1],hO zE (vS p1 p.Arrays c) cs,hO Raw2 (vS p2 aj c1) aA]) rfl<|qO 6 [0] [(130,vP r0 0),(134,vS p2 aj c1),(135,vA zTwo)]<|qN zTwo Raw2 ?_;intro b3 ni;have dm:RL gk zTwo [(⟨z0,z0⟩:Raw2)]:=⟨zTwo,[],rfl,rfl,⟨rfl,rfl,rfl⟩,rfl⟩;refine mD 70 2 3 rfl rfl rfl h1.raw (.inr ⟨0,rfl⟩) dm gi ?_;intro bd bG iG jz;refine qM (zX [1,2,3] (ah:=[hB r0 [vS p1 p.Arrays c,vS p2 aj c1],hO zE (vS p1 p.Arrays c) cs,hO Raw2 (vS bd (aj++[(⟨z0,z0⟩:Raw2)]) bG) iG]))<|zZ 10 [] [139] rfl<|yZ 0 [vS p1 p.Arrays c,vS bd (aj++[(⟨z0,z0⟩:Raw2)]) bG] rfl<|zW rfl<|yV<|yI [0] [4] rfl<|xH<|zG<|zS<|zG<|wI (kO (Rp.sz zI))<|wI (kO (Rp.sz zD)) ?_;obtain rfl:=zC N;exact wD aO (resT rfl) (zV [2,3,4,0,1] rfl (by decide)) ⟨⟨_,_,_,_,_,_,_,_,_,_,_,_,_,rfl,h,⟨jz,lF,RepL.nil,RepL.nil⟩⟩,rfl⟩
  intro iU N;refine yG [146] rfl<|zK ?_;obtain⟨fw,cu,d6⟩:=zB N;refine rR (λI' ah m'=>∃(aX:List zL),fw=.done aX/\I0.le I'/\PQ I' r0 ah (zH.mk p.Arrays aX)/\m'=[]) ?_ ?_
  ·have H:=iS I0;refine yC cu ?_ ?_
   ·intro kq N;refine yB<|zZ 1 [] [149] rfl ?_;obtain⟨⟨y9,y10⟩,gi,N⟩:=zB N;refine xG (zGn cg _ gi hG) ?_;rintro eg au v2 k2 dt - ⟨v07,q9,rfl,rfl,⟨fc,rfl,jg⟩,rfl⟩ -;have ⟨h,h1,H⟩:=m3 dt h h1 H;obtain⟨br,bx,de,bM,rfl,hV,hZ⟩:=vZ jg;refine zZ 5 [] [151,152] rfl<|wT zTwo ?_;intro b4 tr;refine yZ 0 (cLoop y9 br bx de bM) rfl<|yI [] [16] rfl<|zY<|yA ?_;refine wZ N [hB b4 (cLoop y9 br bx de bM),hB r0 [vS p1 p.Arrays c,vS p2 aj c1],hO zE (vS p1 p.Arrays c) cs,hO Raw2 (vS p2 aj c1) aA,hO zD (vS aN nl kN) cK,hO zI (vS aB bl kB) cj] (λwk=>[(0,vP r0 0),(8,vI (W ((aj.length:Int) - 1))),(15,vP b4 0),(170,.bool wk)]) (λlN gv=>?_) ?_
    ·have H:=iS eg;refine zM<|zZ 3 [] [155] rfl<|xW [155] gv ?_ ?_
     ·intro lH N;exact wP [] [(170,vY)]<|yP<|zQ (ct N H)
     intro lH N;refine zZ 7 [] [159] rfl<|xW [159] N ?_ ?_
     ·intro l9 N;exact wP [] [(170,vY)]<|yP<|zQ (ct N H)
     intro l9 N;refine zZ 12 [1] [163,164] rfl ?_;obtain⟨x2,cU,N⟩:=zB N;obtain⟨rfl,ma,-⟩:=h1.lp.last cU;refine kV 3 rfl rfl rfl h1.raw ma ?_;intro jm ccsx hatx hccx ug;obtain⟨rfl,-⟩:=ug;exact zZ 14 [] [166] rfl<|zDK 3 0 hatx hccx [vS aN nl kN] (vS aN nl kN) rfl rfl<|yI [] [170] rfl<|yP<|zQ (ct N H)
    intro wk hJ bS ff;have ⟨hV,hZ,h,h1,H⟩:=m5 bS hV hZ h h1 H;refine zK<|yC ff ?_ ?_
    ·intro ja N;refine vO [(4,vF)]<|xH<|zG<|zG<|zG<|zS<|zG ?_;obtain rfl:=zC N;obtain rfl:=zC d6;exact wD aO (resT rfl) (zV [1,2,3,4,5] rfl (by decide)) ⟨⟨_,_,_,_,_,_,_,_,_,_,_,_,_,rfl,h,h1⟩,rfl⟩
    intro ja N;refine zR<|zK ?_;obtain⟨x4,hyAfor,N⟩:=zB N;obtain⟨l4,hyBfor,N⟩:=zB N;obtain⟨rfl,ma,fg⟩:=h1.lp.last hyAfor;have tv:(aA.drop ((W ((aj.length:Int) - 1)).toNat*Rp.sz Raw2)).take (Rp.sz Raw2)=[vS aN nl kN,vS aB bl kB]:=((h1.raw.at (rG ma).2.2).1).1;refine vK [.p (vP r0 0) [],.p (vP r0 0) [],.p (vP r0 1) [],.p (vS p2 aj c1) [1],.p (vI (W ((aj.length:Int) - 1))) [],.p (vP r0 0) [],.p (vP r0 0) [],.p (vP r0 1) [],.p (vS p2 aj c1) [1],.p (vI (W ((aj.length:Int) - 1))) [],.x (λI' v hx=>∃ad,v=.pointer (some ad)/\hx=[]/\AtO (vS p2 aj c1) (Rp.sz Raw2) (W ((aj.length:Int) - 1)).toNat ad),.x (λI' v hx=>∃ad,v=.pointer (some ad)/\hx=[]/\AtO (vS p2 aj c1) (Rp.sz Raw2) (W ((aj.length:Int) - 1)).toNat ad),.x (λI' v hx=>v=vS aN nl kN/\hx=[]),.p (vA (cLoop y9 br bx de bM)) [0],.x (λI' v hx=>∃bz,v=vS (some ⟨bz,0,none⟩) ([y9]:List zD) 1/\hx=[]/\(SL I' (vS (some ⟨bz,0,none⟩) ([y9]:List zD) 1) ([y9]:List zD))),.x (λI' v hx=>∃pz cz nv,v=vS pz l4 cz/\hx=[hO zD (vS pz l4 cz) nv]/\(RL I' nv l4))] [[],[(0,F9)],[(1,F9)],[(2,F9)],[],[],[(5,F9)],[(6,F9)],[(7,F9)],[],[(8,F9),(9,F9)],[(10,F9)],[(11,F9)],[],[(13,F9)],[(12,F9),(14,F9),(19,true)]] [hB b4 (cLoop y9 br bx de bM),hB r0 [vS p1 p.Arrays c,vS p2 aj c1],hO zE (vS p1 p.Arrays c) cs,hO Raw2 (vS p2 aj c1) aA,hO zI (vS aB bl kB) cj] [[hO zD (vS aN nl kN) cK]] [(3,F9),(4,F9),(15,true)] (zX [0,1,2,3,5,4]) ?_ ?_
    ·refine O4<|O4<|O2<|Ox ?_<|Ox ?_<|Ox ?_<|Op<|Ox ?_<|Ox ?_<|On
     ·intro I1 hf ae;exact yW [179,180] rfl<|kV 3 rfl rfl rfl (h1.mono ae).raw ma λad cc av cQ al=>xC [] iR ⟨_,rfl,rfl,av⟩
     ·rintro I1 hf ae _ _ ⟨ad,rfl,rfl,av⟩;exact kU<|zCP [(181,.pointer (some ad))]<|zZ 12 [] [182] rfl<|xC [] iR ⟨_,rfl,rfl,av⟩
     ·rintro I1 hf ae _ _ ⟨ad,rfl,rfl,av⟩;exact kU<|zCP [(182,.pointer (some ad))]<|zDK 3 0 av tv [vS aN nl kN] (vS aN nl kN) rfl rfl<|yQ iR
     ·intro I1 hf ae;refine yW [184] rfl<|qN (cLoop y9 br bx de bM) zD ?_;intro bz hbz;have hz:RL I1 (cLoop y9 br bx de bM) ([y9]:List zD):=⟨(cLoop y9 br bx de bM),_,rfl,rfl,(uW ⟨_,_,rfl,hV.mono ae,hZ.mono ae⟩),rfl⟩;exact wG 0 rfl λimmz lez hlz=>xC [] lez ⟨_,rfl,rfl,SL.of_frozen hlz lez hz⟩
     rintro I1 hf ae _ _ ⟨rfl,rfl⟩ _ _ ⟨bz,rfl,rfl,hz⟩ _ _ rfl;refine yW [183,185] rfl ?_;obtain⟨ccz,k0,cE⟩:=hz;exact mD 92 2 0 rfl rfl rfl (iM ae h1.n) (.inl k0) cE hyBfor λpz cz nv qb=>uT (ah:=(hO zD (vS pz l4 cz) nv::hB b4 (cLoop y9 br bx de bM)::hB r0 [vS p1 p.Arrays c,vS p2 aj c1]::hO zE (vS p1 p.Arrays c) cs::hO Raw2 (vS p2 aj c1) aA::hO zI (vS aB bl kB) cj::hf)) rfl<|xC [hO zD (vS pz l4 cz) nv] iR ⟨_,_,_,rfl,rfl,qb⟩
    rintro immy ley _ _ ⟨rfl,rfl⟩ _ _ ⟨rfl,rfl⟩ _ _ ⟨pz,cz,nv,rfl,rfl,qb⟩;refine yW [174,175,186] rfl ?_;have ⟨h,h1,H⟩:=m3 ley h h1 H;refine kV 4 rfl rfl rfl h1.raw ma ?_;intro ad cc av cQ al;obtain⟨rfl,-⟩:=al;refine zZ 18 [] [188] rfl<|jA (α:=Raw2) (c:=[vS pz l4 cz,vS aB bl kB]) (x':=⟨vS pz l4 cz,vS aB bl kB⟩) 4 0 rfl rfl rfl av rfl rfl cQ (by kernel_rfl) (by kernel_rfl) (by kernel_rfl) h1.raw ma (by kernel_rfl) ⟨rfl,rfl,rfl⟩ λcsy hy31 hly=>uT (ah:=[hO zD (vS pz l4 cz) nv,hB b4 (cLoop y9 br bx de bM),hB r0 [vS p1 p.Arrays c,vS p2 aj c1],hO zE (vS p1 p.Arrays c) cs,hO Raw2 (vS p2 aj c1) csy,hO zI (vS aB bl kB) cj]) rfl<|zW rfl<|wI (zV [2,3,4,0,5] rfl (by decide))<|yP<|zQ ⟨_,(zC N).symm,H,⟨p1,c,cs,p2,c1,csy,aj.set (W ((aj.length:Int) - 1)).toNat ⟨vS pz l4 cz,vS aB bl kB⟩,vS pz l4 cz,vS aB bl kB,l4,bl,nv,cj,?_,h,⟨hy31,(fg _ _ _ _).mono ley,qb,h1.b⟩⟩,rfl⟩;simp only[vS,hly]
   intro kq N;refine yB<|zZ 1 [] [33] rfl ?_;obtain⟨⟨ef,y13⟩,dr,N⟩:=zB N;refine xG (zFq cg _ dr hG) ?_;rintro fq au v2 k2 cb - ⟨qe,om,rfl,rfl,⟨dl,rfl,j4⟩,rfl⟩ -;have ⟨h,h1,H⟩:=m3 cb h h1 H;obtain⟨ey,fb,cL,ep,dv,da,eu,ej,rfl,gt,k8,iT,mh⟩:=rJ j4;refine zZ 5 [] [35,36] rfl<|wT [vT ([]),z0,vI 0,vI 0,z0,vI 0,vT ([]),z0,z0] ?_;intro b5 hb5;refine yZ 0 (cStmt ef ey fb cL ep dv da eu ej) rfl<|yI [] [18] rfl<|zY<|yA ?_;refine wZ N [hB b5 (cStmt ef ey fb cL ep dv da eu ej),hB r0 [vS p1 p.Arrays c,vS p2 aj c1],hO zE (vS p1 p.Arrays c) cs,hO Raw2 (vS p2 aj c1) aA,hO zD (vS aN nl kN) cK,hO zI (vS aB bl kB) cj] (λlR=>[(0,vP r0 0),(8,vI (W ((aj.length:Int) - 1))),(17,vP b5 0),(54,.bool lR)]) (λvf kf=>?_) ?_
   ·have H:=iS fq;refine zM<|zZ 3 [] [39] rfl<|xW [39] kf ?_ ?_
    ·intro kc N;exact wP [] [(54,vY)]<|yP<|zQ (ct N H)
    intro kc N;refine zZ 7 [] [43] rfl<|xW [43] N ?_ ?_
    ·intro nz N;exact wP [] [(54,vY)]<|yP<|zQ (ct N H)
    intro nz N;refine zZ 12 [1] [47,48] rfl ?_;obtain⟨x3,en,N⟩:=zB N;obtain⟨rfl,ma,-⟩:=h1.lp.last en;refine kV 3 rfl rfl rfl h1.raw ma ?_;intro ri ccsx hatx hccx ug;obtain⟨rfl,-⟩:=ug;exact zZ 14 [] [50] rfl<|zDK 3 1 hatx hccx [vS aB bl kB] (vS aB bl kB) rfl rfl<|yI [] [54] rfl<|yP<|zQ (ct N H)
   intro lR ku cA ia;have ⟨gt,k8,iT,mh,h,h1⟩:=m6 cA gt k8 iT mh h h1;have H:=H.trans cA;refine zK<|yC ia ?_ ?_
   ·intro tu N;refine vO [(4,vF)]<|xH<|zG<|zG<|zG<|zS<|zG ?_;obtain rfl:=zC N;obtain rfl:=zC d6;exact wD aO (resT rfl) (zV [1,2,3,4,5] rfl (by decide)) ⟨⟨_,_,_,_,_,_,_,_,_,_,_,_,_,rfl,h,h1⟩,rfl⟩
   intro tu N;refine zR<|zK ?_;obtain⟨x5,wc,N⟩:=zB N;obtain⟨l5,wd,N⟩:=zB N;obtain⟨rfl,ma,fg⟩:=h1.lp.last wc;have tv:(aA.drop ((W ((aj.length:Int) - 1)).toNat*Rp.sz Raw2)).take (Rp.sz Raw2)=[vS aN nl kN,vS aB bl kB]:=((h1.raw.at (rG ma).2.2).1).1;refine vK [.p (vP r0 0) [],.p (vP r0 0) [],.p (vP r0 1) [],.p (vS p2 aj c1) [1],.p (vI (W ((aj.length:Int) - 1))) [],.p (vP r0 0) [],.p (vP r0 0) [],.p (vP r0 1) [],.p (vS p2 aj c1) [1],.p (vI (W ((aj.length:Int) - 1))) [],.x (λI' v hx=>∃ad,v=.pointer (some ad)/\hx=[]/\AtO (vS p2 aj c1) (Rp.sz Raw2) (W ((aj.length:Int) - 1)).toNat ad),.x (λI' v hx=>∃ad,v=.pointer (some (ad.add 1))/\hx=[]/\AtO (vS p2 aj c1) (Rp.sz Raw2) (W ((aj.length:Int) - 1)).toNat ad),.x (λI' v hx=>v=vS aB bl kB/\hx=[]),.p (vA (cStmt ef ey fb cL ep dv da eu ej)) [0],.x (λI' v hx=>∃bz,v=vS (some ⟨bz,0,none⟩) ([ef]:List zI) 1/\hx=[]/\(SL I' (vS (some ⟨bz,0,none⟩) ([ef]:List zI) 1) ([ef]:List zI))),.x (λI' v hx=>∃pz cz nv,v=vS pz l5 cz/\hx=[hO zI (vS pz l5 cz) nv]/\(RL I' nv l5))] [[],[(0,F9)],[(1,F9)],[(2,F9)],[],[],[(5,F9)],[(6,F9)],[(7,F9)],[],[(8,F9),(9,F9)],[(10,F9)],[(11,F9)],[],[(13,F9)],[(12,F9),(14,F9),(19,true)]] [hB b5 (cStmt ef ey fb cL ep dv da eu ej),hB r0 [vS p1 p.Arrays c,vS p2 aj c1],hO zE (vS p1 p.Arrays c) cs,hO Raw2 (vS p2 aj c1) aA,hO zD (vS aN nl kN) cK] [[hO zI (vS aB bl kB) cj]] [(3,F9),(4,F9),(15,true)] (zX [0,1,2,3,4,5]) ?_ ?_
   ·refine O4<|O4<|O2<|Ox ?_<|Ox ?_<|Ox ?_<|Op<|Ox ?_<|Ox ?_<|On
    ·intro I1 hf ae;exact yW [63,64] rfl<|kV 3 rfl rfl rfl (h1.mono ae).raw ma λad cc av cQ al=>xC [] iR ⟨_,rfl,rfl,av⟩
    ·rintro I1 hf ae _ _ ⟨ad,rfl,rfl,av⟩;exact kU<|zCP [(65,.pointer (some ad))]<|zZ 12 [] [66] rfl<|xC [] iR ⟨_,rfl,rfl,av⟩
    ·rintro I1 hf ae _ _ ⟨ad,rfl,rfl,av⟩;exact kU<|zCP [(66,.pointer (some (ad.add 1)))]<|zDK 3 1 av tv [vS aB bl kB] (vS aB bl kB) rfl rfl<|yQ iR
    ·intro I1 hf ae;refine yW [68] rfl<|qN (cStmt ef ey fb cL ep dv da eu ej) zI ?_;intro bz hbz;have hz:RL I1 (cStmt ef ey fb cL ep dv da eu ej) ([ef]:List zI):=⟨(cStmt ef ey fb cL ep dv da eu ej),_,rfl,rfl,(wO ⟨_,_,_,_,rfl,gt.mono ae,k8.mono ae,iT.mono ae,mh.mono ae⟩),rfl⟩;exact wG 0 rfl λimmz lez hlz=>xC [] lez ⟨_,rfl,rfl,SL.of_frozen hlz lez hz⟩
    rintro I1 hf ae _ _ ⟨rfl,rfl⟩ _ _ ⟨bz,rfl,rfl,hz⟩ _ _ rfl;refine yW [67,69] rfl ?_;obtain⟨ccz,k0,cE⟩:=hz;exact mD 55 9 0 rfl rfl rfl (iM ae h1.b) (.inl k0) cE wd λpz cz nv qb=>uT (ah:=(hO zI (vS pz l5 cz) nv::hB b5 (cStmt ef ey fb cL ep dv da eu ej)::hB r0 [vS p1 p.Arrays c,vS p2 aj c1]::hO zE (vS p1 p.Arrays c) cs::hO Raw2 (vS p2 aj c1) aA::hO zD (vS aN nl kN) cK::hf)) rfl<|xC [hO zI (vS pz l5 cz) nv] iR ⟨_,_,_,rfl,rfl,qb⟩
   rintro immy ley _ _ ⟨rfl,rfl⟩ _ _ ⟨rfl,rfl⟩ _ _ ⟨pz,cz,nv,rfl,rfl,qb⟩;refine yW [58,59,70] rfl ?_;have ⟨h,h1,H⟩:=m3 ley h h1 H;refine kV 4 rfl rfl rfl h1.raw ma ?_;intro ad cc av cQ al;obtain⟨rfl,-⟩:=al;refine zZ 18 [] [72] rfl<|jA (α:=Raw2) (c:=[vS aN nl kN,vS pz l5 cz]) (x':=⟨vS aN nl kN,vS pz l5 cz⟩) 4 1 rfl rfl rfl av rfl rfl cQ (by kernel_rfl) (by kernel_rfl) (by kernel_rfl) h1.raw ma (by kernel_rfl) ⟨rfl,rfl,rfl⟩ λcsy hy31 hly=>uT (ah:=[hO zI (vS pz l5 cz) nv,hB b5 (cStmt ef ey fb cL ep dv da eu ej),hB r0 [vS p1 p.Arrays c,vS p2 aj c1],hO zE (vS p1 p.Arrays c) cs,hO Raw2 (vS p2 aj c1) csy,hO zD (vS aN nl kN) cK]) rfl<|zW rfl<|wI (zV [2,3,4,5,0] rfl (by decide))<|yP<|zQ ⟨_,(zC N).symm,H,⟨p1,c,cs,p2,c1,csy,aj.set (W ((aj.length:Int) - 1)).toNat ⟨vS aN nl kN,vS pz l5 cz⟩,vS aN nl kN,vS pz l5 cz,nl,l5,cK,nv,?_,h,⟨hy31,(fg _ _ _ _).mono ley,h1.n,qb⟩⟩,rfl⟩;simp only[vS,hly]
  rintro jx au m2 ⟨aX,ry,d7,hP,rfl⟩;subst fw;exact yP<|zQ ⟨_,_,(zC d6).symm,H.trans d7,hP,rfl⟩
 rintro aT au m2 ⟨Arrays,Parts,heq5,fu,hP,rfl⟩;subst o0;refine zO<|zFT [(4,vY)]<|zK<|yX ?_;exact wD aO (resT rfl) (λ_ g=>g) ⟨hP,rfl⟩
def eF(r:zH×Bool):KT:=λkk I' ah v=>
 ∃(v0 v1:Value),ah=[]/\v=tupV [v0,v1]/\(∃cs,v0=.agg ⟨cs⟩/\Rp.rep I' cs r.1)/\v1=.bool r.2
def wQ(l:List Str)(uq:Int)(p:zH):Option (Out zH (zH×Bool)):=do
 if(decide (uq<(l.length:Int))) then
  let x<-idx l uq;let (y,q)<-wL p x;if(!y) then pure (.ret ((zH.mk [] []),F9))
  else wQ l (W (uq+1)) q
 else pure (.done p)
 partial_fixpoint
theorem zC8(l:List Str):∀(uq:Int) (p:zH) (o:Out zH (zH×Bool)),wQ l uq p=some o->∀{B}{I0 I:Imm}{Q}{aF:Str}{pl cl}{b b1:Nat}{hs:List HA},I0.le I->(S4 I pl l cl)->PQ I b1 hs p->(GH Tryz.prog I)->(∀gl a w,¬Q (.goto gl) a w)->(∀a w,¬Q .outgrown a w) ->
 (∀(I':Imm) (ah:List HA) (q:zH),o=(.done q)->I0.le I'->PQ I' b1 ah q->T 54 B Q (.exit 0) I' (ah++[hB b zTwo]) [(0,vT aF.l),(2,vP b 0),(6,vP b1 0)]) ->
 (∀r I' ah m',o=(.ret r)->I0.le I'->RS Tryz.prog f9 B (eF r) I' ah m'->T 54 B Q .ret I' ah m') ->
 J Tryz.prog 54 B (nav (bodyOf f9) [1,1,1,1,1,0,1,0]) Q I (hs++[hB b zTwo]) [(0,vT aF.l),(2,vP b 0),(6,vP b1 0),(32,vS pl l cl),(33,vI (l.length:Int)),(34,vI uq)]:=by
 refine wQ.partial_correctness l _ ?_
 intro aQ ih uq p o N B I0 I Q aF pl cl b b1 hs H h hP hG hg ho hx hr
 refine xD hg ho<|yG [35] rfl<|zY<|yC N ?_ ?_
 ·intro hc N
  refine zR<|zY<|yM<|yA<|zM ?_
  obtain⟨x,hy,N⟩:=zB N
  refine wJ rfl rfl h hy ?_
  intro ad aR av al
  obtain rfl:=al
  refine wC 0 av [vT x.l] (vT x.l) rfl<|yI [] [8] rfl<|yV<|zZ 1 [] [38] rfl ?_
  obtain⟨⟨y,q⟩,ay,N⟩:=zB N
  obtain⟨p1,c,cs,p2,c1,aA,aj,vN,vB,nl,bl,cK,cj,rfl,hA,hQ⟩:=hP
  refine tU (zCF p x _ ay hA hQ hG) rfl ?_
  rintro I1 au v2 k2 le - ⟨hP2,rfl⟩ -
  refine yI [] [40] rfl<|zK<|yC N ?_ ?_
  ·intro aU N
   obtain⟨p1,c,cs,p2,c1,aA,aj,vN,vB,nl,bl,cK,cj,rfl,hA,hQ⟩:=hP2
   exact yB<|zZ 1 [] [41] rfl<|zAF 5 zTwo [hB b1 [vS p1 q.Arrays c,vS p2 aj c1],hO zE (vS p1 q.Arrays c) cs,hO Raw2 (vS p2 aj c1) aA,hO zD vN cK,hO zI vB cj,hB b zTwo] rfl rfl rfl rfl<|wP [] [(3,vF)]<|xH<|zS<|zG<|zG<|hr _ _ _ _ (zC N).symm (H.trans le) ⟨_,_,(resE 5 rfl rfl rfl),zN,⟨_,_,rfl,rfl,⟨_,rfl,(uA ⟨_,_,rfl,(SL.nil _),(SL.nil _)⟩)⟩,rfl⟩⟩
  intro aU N
  exact zR<|zO<|zK<|zM<|yI [] [34] rfl<|xB<|jH<|ih _ _ _ N (H.trans le) (h.mono le) hP2 (hG.mono le) hg ho hx hr
 intro hc N
 exact uR<|yP<|hx _ _ _ (zC N).symm H hP
def pY(aF:Str):Option (zH×Bool):=do
 let y<-oL aF (⟨[10]⟩:Str);let sh<-(do
  let x<-idx y 0;if(!(x.l==([112,114,111,103,114,97,109]:List UInt8))) then pure true
  else
   let x1<-idx y (W ((y.length:Int) - 1));if(!(x1.l==([]:List UInt8))) then pure true
   else
    pure (decide ((W ((y.length:Int) - 1))<1))
    : Option Bool)
 if sh then pure ((zH.mk [] []),F9)
 else
  let l<-slc y 1 (W ((y.length:Int) - 1))
  match<-wQ l 0 (zH.mk [] []) with
  | .ret r0=>pure r0
  | .done p=>
   let z<-pX p;let t51<-(do
    if(!z) then pure true
    else
     let w<-kE p;pure (!(w.l==aF.l))
     : Option Bool)
   if t51 then pure ((zH.mk [] []),F9)
   else pure (p,true)
theorem zAr:∀aF r,pY aF=some r->∀{I:Imm},(GH Tryz.prog I)->RT 9 [vT aF.l] I [] (eF r):=by
 intro aF r N I hG;unfold pY at N;refine yK func9 λB=>yB<|wT zTwo ?_;intro b hb;refine wP [] []<|yV<|zZ 1 [] [9] rfl<|bE N λy hy N=>xG (dM aF (⟨[10]⟩:Str) _ hy hG) ?_;rintro I0 au v2 k2 le - ⟨v0,rfl,rfl,h⟩ -;have hG:=hG.mono le;obtain⟨pl,cl,rfl⟩:=h.form;refine yI [] [4] rfl<|uX [5] rfl<|zY<|yA<|bE N λsh ht N=>rR (K1 sh I0 [hB b zTwo] λo=>[(0,vT aF.l),(2,vP b 0),(4,vS pl y cl),(5,vI (W ((y.length:Int) - 1))),(28,.bool o)]) ?_ ?_
 ·refine zM<|zZ 1 [] [14] rfl ?_;obtain⟨x,hx,ht⟩:=zB ht;refine wJ rfl rfl h hx ?_;intro ad aR av al;obtain rfl:=al;refine wC 0 av [vT x.l] (vT x.l) rfl<|zZ 5 [] [18] rfl<|xW [18] ht ?_ ?_
  ·intro hc ht;exact wP [] [(28,vY)]<|yP<|zQ ⟨_,(zC ht).symm,Imm.le.refl _,rfl,rfl⟩
  intro hc ht;refine zZ 7 [] [19,20] rfl ?_;obtain⟨x1,hx1,ht⟩:=zB ht;refine wJ rfl rfl h hx1 ?_;intro cD bN aw ax;obtain rfl:=ax;refine wC 0 aw [vT x1.l] (vT x1.l) rfl<|zZ 12 [] [25] rfl<|xW [25] ht ?_ ?_
  ·intro aI ht;exact wP [] [(28,vY)]<|yP<|zQ ⟨_,(zC ht).symm,Imm.le.refl _,rfl,rfl⟩
  intro aI ht;exact yI [] [28] rfl<|yP<|zQ ⟨_,(zC ht).symm,Imm.le.refl _,rfl,rfl⟩
 rintro I2 hs3 m3 ⟨o,rfl,aJ,rfl,rfl⟩;have ⟨h,hG⟩:=m2 aJ h hG;refine zK<|yC N ?_ ?_
 ·intro hc N;refine yB<|zZ 1 [] [29] rfl<|zAF 0 zTwo [hB b zTwo] rfl rfl rfl rfl<|wP [] [(3,vF)]<|xH<|zG ?_;exact wD N (resE 0 rfl rfl rfl) zN ⟨_,_,rfl,rfl,⟨_,rfl,(uA ⟨_,_,rfl,(SL.nil _),(SL.nil _)⟩)⟩,rfl⟩
 intro hc N;refine zR<|yV<|wT zTwo ?_;intro b1 cp;refine zW rfl<|zY<|yB<|zZ 2 [] [30,31] rfl<|bE N λl hl N=>zP5 rfl h hl ?_;intro ee h8;obtain⟨p6,c5,rfl⟩:=h8.form;refine yI [] [33,34] rfl<|vC<|mM [(0,vT aF.l),(2,vP b 0),(6,vP b1 0),(32,vS p6 l c5),(33,vI (l.length:Int)),(34,vI 0)]<|kT (kO (Rp.sz zI))<|kT (kO (Rp.sz zD))<|kT (kO (Rp.sz Raw2))<|kT (kO (Rp.sz zE))<|kT (zX [4,0,1,2,3,5] (ah:=[hB b1 zTwo,hO zE (z0) [],hO Raw2 (z0) [],hO zD (z0) [],hO zI (z0) []]++[hB b zTwo]))<|bE N λo ho N=>zC8 l 0 (zH.mk [] []) o ho iR h8 ⟨none,0,[],none,0,[],[],z0,z0,[],[],[],[],rfl,RepL.nil,⟨RepL.nil,⟨by decide,rfl,.inl ⟨rfl,rfl⟩⟩,RepL.nil,RepL.nil⟩⟩ hG nG nO ?_ ?_
 ·intro I1 hs1 q ec ae hP;subst ec;obtain⟨p1,c,cs,p2,c1,aA,aj,vN,vB,nl,bl,cK,cj,rfl,hA,hQ⟩:=hP;have hG:=hG.mono ae;refine xT 3 rfl ?_;intro I3 aL vu;have kN:=SL.of_frozen vu aL hQ.n;have ⟨hQ,hA⟩:=m2 aL hQ hA;refine xT 3 rfl ?_;intro I4 bb u7;have kB:=SL.of_frozen u7 bb hQ.b;replace kN:=kN.mono bb;have ⟨hQ,hA⟩:=m2 bb hQ hA;refine xT 1 rfl ?_;intro I5 bI r4;have kA:=SL.of_frozen r4 bI hA;replace kN:=kN.mono bI;replace kB:=kB.mono bI;have hQ:=hQ.mono bI;refine xT 1 rfl ?_;intro I6 bJ qw;have kP:SL I6 (vS p2 aj c1) q.Parts:=⟨aA,qw,by
   rw[jZ hQ.raw];exact(hQ.lp.done kN kB).mono λ_ _=>Rp.mono bJ⟩
  have e0:vS p2 aj c1=vS p2 q.Parts c1:=by simp only[vS,hQ.lp.2.1]
  rw[e0] at kP ⊢;clear e0 qw r4 u7 vu hQ kN kB;replace kA:=kA.mono bJ;have hG:=(((hG.mono aL).mono bb).mono bI).mono bJ;refine zT<|zY<|yA ?_;obtain⟨z,hz,N⟩:=zB N;obtain⟨t51,ht,N⟩:=zB N;refine rR (K1 t51 I6 [hB b1 (cProg q p1 c p2 c1),hB b zTwo] λo=>[(2,vP b 0),(6,vP b1 0),(51,.bool o)]) ?_ ?_
  ·refine zM<|qO 1 [0] [(43,vA (cProg q p1 c p2 c1))]<|xG (oZ q _ hz kA kP) ?_;rintro I7 au v2 k2 bZ - ⟨v0,rfl,rfl,rfl⟩ -;refine zZ 4 [] [46] rfl<|xW [46] ht ?_ ?_
   ·intro aU ht;exact wP [] [(51,vY)]<|yP<|zQ (ct ht bZ)
   intro aU ht;obtain⟨w,hw,ht⟩:=zB ht;refine qO 5 [0] [(47,vA (cProg q p1 c p2 c1))]<|xG (zBF q _ hw (kA.mono bZ) (kP.mono bZ) (hG.mono bZ)) ?_;rintro I8 au v2 k2 dt - ⟨v0,rfl,rfl,rfl⟩ -;exact yI [] [51] rfl<|yP<|zQ ⟨_,(zC ht).symm,bZ.trans dt,rfl,rfl⟩
  rintro I7 au m2 ⟨o,rfl,bZ,rfl,rfl⟩;replace kA:=kA.mono bZ;replace kP:=kP.mono bZ;refine zK<|yC N ?_ ?_
  ·intro aU N;refine yB<|zZ 1 [] [52] rfl<|zAF 1 zTwo [hB b1 (cProg q p1 c p2 c1),hB b zTwo] rfl rfl rfl rfl<|wP [] [(3,vF)]<|xH<|zG ?_;exact wD N (resE 1 rfl rfl rfl) zN ⟨_,_,rfl,rfl,⟨_,rfl,(uA ⟨_,_,rfl,(SL.nil _),(SL.nil _)⟩)⟩,rfl⟩
  intro aU N;refine zR<|yV<|qO 1 [0] [(53,vA (cProg q p1 c p2 c1))]<|yZ 1 (cProg q p1 c p2 c1) rfl<|wP [] [(3,vY)]<|zK<|yX ?_;exact wD N (resE 1 rfl rfl rfl) zN ⟨_,_,rfl,rfl,⟨_,rfl,(uA ⟨_,_,rfl,kA,kP⟩)⟩,rfl⟩
 intro r0 I9 gm m9 aV bS aW;subst aV;refine zS<|zG ?_;obtain rfl:=zC N;exact fO aW
def rZ(nest:(List zD))(out:Str)(i:Int):Option (Str):=do
 if(decide (i<(nest.length:Int))) then
  let s<-cat out (⟨[102,111,114,32]⟩:Str);let x<-idx nest i;let y<-qL x.Lo;let s1<-cat s y;let s2<-cat s1 (⟨[32]⟩:Str);let x1<-idx nest i;let y1<-qL x1.Hi;let s3<-cat s2 y1;let s4<-cat s3 (⟨[10]⟩:Str);rZ nest s4 (W (i+1))
 else pure (id out)
 partial_fixpoint
theorem zFr(nest:(List zD)):∀(out:Str) (i:Int) (o:Str),rZ nest out i=some o->∀{B}{I0 I:Imm}{Q p c},I0.le I->(S4 I p nest c)->NG Q->NO Q->(∀I' aq,o=aq->I0.le I'->T 30 B Q (.exit 0) I' [] [(3,vT aq.l)])->J Tryz.prog 30 B (nav (bodyOf f40) [1,1,0,1,0]) Q I [] [(0,vS p nest c),(3,vT out.l),(4,vI i)]:=by
 refine rZ.partial_correctness nest _ λaQ ih out i o N B I0 I Q p c H h hg ho hx=>xD hg ho<|yA<|yG [8] rfl<|zK<|yC N ?_ ?_
 ·intro hc N;refine zR<|zY<|yM ?_;obtain⟨s,hy,N⟩:=zB N;obtain⟨x,ay,N⟩:=zB N;obtain⟨y,aK,N⟩:=zB N;obtain⟨s1,bc,N⟩:=zB N;obtain⟨s2,bL,N⟩:=zB N;obtain⟨x1,bX,N⟩:=zB N;obtain⟨y1,cx,N⟩:=zB N;obtain⟨s3,cV,N⟩:=zB N;obtain⟨s4,eo,N⟩:=zB N;refine vK [.p (vT out.l) [],.q (vT s.l),.p (vS p nest c) [],.p (vI i) [],.x (ePLoop x),.x (ePLoop x),.x (eS x.Lo),.q (vT y.l),.q (vT s1.l),.q (vT s2.l),.p (vS p nest c) [],.p (vI i) [],.x (ePLoop x1),.x (eQLoop 1 x1),.x (eS x1.Hi),.q (vT y1.l),.q (vT s3.l),.q (vT s4.l)] [[],[(0,F9)],[],[],[(2,F9),(3,F9)],[(4,F9)],[(5,F9)],[(6,F9)],[(1,F9),(7,F9)],[(8,F9)],[],[],[(10,F9),(11,F9)],[(12,F9)],[(13,F9)],[(14,F9)],[(9,F9),(15,F9)],[(16,F9)]] [] [] [(17,F9)] zN ?_ ?_
  ·refine Op<|Oq ?_<|O2<|Ox ?_<|Ox ?_<|Ox ?_<|Oq ?_<|Oq ?_<|Oq ?_<|O2<|Ox ?_<|Ox ?_<|Ox ?_<|Oq ?_<|Oq ?_<|Oq ?_<|On
   ·intro I1 hf ae;exact yW [11] rfl<|qP rfl hy<|yQ iR
   ·intro I1 hf ae;refine yW [13,14] rfl ?_;have h:=h.mono ae;refine wJ rfl rfl h ay ?_;intro ad aR av al;obtain⟨p1,c1,p2,c2,rfl,h1,h2⟩:=vZ al;exact xC [] iR ⟨_,_,_,_,_,rfl,rfl,av,h1,h2⟩
   ·rintro I1 hf ae _ _ ⟨ad,p1,c1,p2,c2,rfl,rfl,av,h1,h2⟩;exact yW [15] rfl<|pQ 6 [(16,.pointer (some ad))]<|xC [] iR ⟨_,_,_,_,_,rfl,rfl,av,h1,h2⟩
   ·rintro I1 hf ae _ _ ⟨cD,bd,bj,ga,c21,rfl,rfl,aw,bB,jz⟩;exact yW [16] rfl<|wC 0 aw [vS bd x.Lo bj] (vS bd x.Lo bj) rfl<|xC [] iR ⟨_,_,rfl,rfl,bB⟩
   ·rintro I1 hf ae _ _ ⟨sc,rm,rfl,rfl,lE⟩;refine yW [17] rfl ?_;have H:=iS I1;refine xG (zAG x.Lo _ aK lE) ?_;rintro I0 au v2 k2 le - ⟨ig,rfl,rfl,rfl⟩ -;have H:=H.trans le;exact yQ H
   ·intro I1 hf ae;exact yW [12,18] rfl<|qP rfl bc<|yQ iR
   ·intro I1 hf ae;exact yW [19] rfl<|qP rfl bL<|yQ iR
   ·intro I1 hf ae;refine yW [21,22] rfl ?_;have h:=h.mono ae;refine wJ rfl rfl h bX ?_;intro jm bN cd ax;obtain⟨p3,c3,p4,c4,rfl,h4,h5⟩:=vZ ax;exact xC [] iR ⟨_,_,_,_,_,rfl,rfl,cd,h4,h5⟩
   ·rintro I1 hf ae _ _ ⟨jm,p3,c3,p4,c4,rfl,rfl,cd,h4,h5⟩;exact yW [23] rfl<|pQ 14 [(24,.pointer (some (jm.add 1)))]<|xC [] iR ⟨_,_,_,_,_,rfl,rfl,cd,h4,h5⟩
   ·rintro I1 hf ae _ _ ⟨ad21,kn,l8,iJ,iF,rfl,rfl,ny,ka,gu⟩;exact yW [24] rfl<|wC 1 ny [vS iJ x1.Hi iF] (vS iJ x1.Hi iF) rfl<|xC [] iR ⟨_,_,rfl,rfl,gu⟩
   ·rintro I1 hf ae _ _ ⟨p411,c411,rfl,rfl,h511⟩;refine yW [25] rfl ?_;have H:=iS I1;refine xG (zAG x1.Hi _ cx h511) ?_;rintro aT au v2 k2 ae - ⟨sk,rfl,rfl,rfl⟩ -;have H:=H.trans ae;exact yQ H
   ·intro I1 hf ae;exact yW [20,26] rfl<|qP rfl cV<|yQ iR
   intro I1 hf ae;exact yW [27] rfl<|qP rfl eo<|yQ iR
  intro aY aJ;refine yW [0,4,28] rfl ?_;have ⟨h,H⟩:=m2 aJ h H;exact yI [] [3] rfl<|zO<|zK<|zM<|yI [] [4] rfl<|xB<|jH<|ih s4 (W (i+1)) _ N H h hg ho hx
 intro hc N;exact uR<|yP<|hx _ _ (zC N).symm H
def fA(nest:(List zD)):Option (Str):=do
 let aq<-rZ nest (⟨[]⟩:Str) 0;pure (id aq)
theorem zIQ:∀nest r,fA nest=some r->∀{I:Imm}{p c},(S4 I p nest c)->RT 40 [vS p nest c] I [] (xM  r):=by
 intro nest r N I p c h;unfold fA at N;refine yK func40 λB=>vO []<|uX [3] rfl<|zY<|yG [4] rfl<|vC<|mM [(0,vS p nest c),(3,vT ([])),(4,vI 0)] ?_;obtain⟨o0,aC,aM⟩:=zB N;refine zFr nest (⟨[]⟩:Str) 0 o0 aC iR h nG nO ?_;intro bP aq ec aL;subst o0;refine zT<|uX [2] rfl<|zK<|yX ?_;obtain rfl:=zC aM;exact vG
def wW(p:zH)(i:Int)(aD:Str)(k0:Int):Option (Str):=do
 let x1<-idx p.Arrays i;if(decide (k0<(x1.Dims.length:Int))) then
  let s2<-cat aD (⟨[32]⟩:Str);let x2<-idx p.Arrays i;let x3<-idx x2.Dims k0;let y1<-sC x3;let s3<-cat s2 y1;wW p i s3 (W (k0+1))
 else pure (id aD)
 partial_fixpoint
theorem zCG(p:zH)(i:Int):∀(aD:Str) (k0:Int) (o:Str),wW p i aD k0=some o->∀{B}{I0 I:Imm}{Q p1 c p2 c1}{b},I0.le I->(S4 I p1 p.Arrays c)->(S4 I p2 p.Parts c1)->NG Q->NO Q->(∀I' bR,o=bR->I0.le I'->T 103 B Q (.exit 2) I' [hB b (cProg p p1 c p2 c1)] [(1,vP b 0),(3,vT bR.l),(4,vI i)])->J Tryz.prog 103 B (nav (bodyOf f10) [1,1,1,0,1,0,0,1,0,0,1,0,1,0]) Q I [hB b (cProg p p1 c p2 c1)] [(1,vP b 0),(3,vT aD.l),(4,vI i),(5,vI k0)]:=by
 refine wW.partial_correctness p i _ λaQ ih aD k0 o N B I0 I Q p1 c p2 c1 b H h h1 hg ho hx=>xD hg ho<|yA<|yB<|zZ 4 [0] [28,30,31] rfl<|bE N λx1 bL N=>wJ rfl rfl h bL ?_;intro cD bN aw ax;obtain⟨p4,c3,rfl,h4⟩:=wN ax;refine zZ 6 [] [33] rfl<|wC 1 aw [vS p4 x1.Dims c3] (vS p4 x1.Dims c3) rfl<|yI [] [36] rfl<|zK<|yC N ?_ ?_
 ·intro aU N;refine zR<|zY<|yM<|zM<|zZ 1 [] [39] rfl<|bE N λs2 bX N=>qP rfl bX<|zZ 5 [0] [42,43] rfl<|bE N λx2 cx N=>wJ rfl rfl h cx ?_;intro jm gn cd bO;obtain⟨p5,c4,rfl,h5⟩:=wN bO;refine zZ 7 [] [45] rfl<|wC 1 cd [vS p5 x2.Dims c4] (vS p5 x2.Dims c4) rfl<|zZ 9 [] [47] rfl<|bE N λx3 cV N=>wJ rfl rfl h5 cV ?_;intro ri kx ek cJ;obtain rfl:=cJ;refine wC 0 ek [vI x3] (vI x3) rfl<|bE N λy1 eo N=>xG (zAT x3 _ eo ) ?_;rintro aT au v2 k2 ae - ⟨ee,rfl,rfl,rfl⟩ -;have ⟨h,h1,H⟩:=m3 ae h h1 H;obtain⟨s3,gi,N⟩:=zB N;exact qP rfl gi<|yI [] [3] rfl<|zO<|zK<|zM<|yI [] [5] rfl<|xB<|jH<|ih s3 (W (k0+1)) _ N H h h1 hg ho hx
 intro aU N;exact uR<|yP<|hx _ _ (zC N).symm H
def wX(p:zH)(out:Str)(i:Int):Option (Str):=do
 if(decide (i<(p.Arrays.length:Int))) then
  let s<-cat out (⟨[97,114,114,97,121,32]⟩:Str);let x<-idx p.Arrays i;let s1<-cat s x.Name;let bR<-wW p i s1 0;let s4<-cat bR (⟨[10]⟩:Str);wX p s4 (W (i+1))
 else pure (id out)
 partial_fixpoint
theorem zCH(p:zH):∀(out:Str) (i:Int) (o:Str),wX p out i=some o->∀{B}{I0 I:Imm}{Q p1 c p2 c1}{b},I0.le I->(S4 I p1 p.Arrays c)->(S4 I p2 p.Parts c1)->NG Q->NO Q->(∀I' aq,o=aq->I0.le I'->T 103 B Q (.exit 0) I' [hB b (cProg p p1 c p2 c1)] [(1,vP b 0),(3,vT aq.l)])->J Tryz.prog 103 B (nav (bodyOf f10) [1,1,1,0,1,0]) Q I [hB b (cProg p p1 c p2 c1)] [(1,vP b 0),(3,vT out.l),(4,vI i)]:=by
 refine wX.partial_correctness p _ λaQ ih out i o N B I0 I Q p1 c p2 c1 b H h h1 hg ho hx=>xD hg ho<|yA<|yB<|yI [0] [16] rfl<|zK<|yC N ?_ ?_
 ·intro aI N;refine zR<|zY<|yM<|yB<|zZ 1 [] [19] rfl<|bE N λs ay N=>qP rfl ay<|zZ 5 [0] [22,23] rfl<|bE N λx aK N=>wJ rfl rfl h aK ?_;intro ad aR av al;obtain⟨p3,c2,rfl,h3⟩:=wN al;refine zZ 7 [] [25] rfl<|wC 0 av [vT x.Name.l] (vT x.Name.l) rfl<|bE N λs1 bc N=>qP rfl bc<|yI [] [3] rfl<|zY<|yG [5] rfl<|vC<|mM [(1,vP b 0),(3,vT s1.l),(4,vI i),(5,vI 0)] ?_;obtain⟨o0,aC,aM⟩:=zB N;refine zCG p i s1 0 o0 aC iR h h1 (λ_ _ _ h=>hg _ _ _ h) (λ_ _ h=>ho _ _ h) ?_;intro aY bR ec aJ;subst o0;have ⟨h,h1,H⟩:=m3 aJ h h1 H;refine zT<|zK<|zM<|zZ 1 [] [52] rfl ?_;obtain⟨s4,cU,N⟩:=zB aM;exact qP rfl cU<|yI [] [3] rfl<|zO<|zK<|zM<|yI [] [4] rfl<|xB<|jH<|ih s4 (W (i+1)) _ N H h h1 hg ho hx
 intro aI N;exact uR<|yP<|hx _ _ (zC N).symm H
def vH(p:zH)(i1:Int)(gj:Str)(cE:Int):Option (Str):=do
 let x5<-idx p.Parts i1;if(decide (cE<(x5.Body.length:Int))) then
  let x6<-idx p.Parts i1;let x7<-idx x6.Body cE;let y3<-sK x7.Write;let s7<-cat gj y3;let s8<-cat s7 (⟨[61]⟩:Str);let y4<-tE x7.Value;let s9<-cat s8 y4;let s10<-cat s9 (⟨[10]⟩:Str);vH p i1 s10 (W (cE+1))
 else pure (id gj)
 partial_fixpoint
theorem zCI(p:zH)(i1:Int):∀(gj:Str) (cE:Int) (o:Str),vH p i1 gj cE=some o->∀{B}{I0 I:Imm}{Q p1 c p2 c1}{b},I0.le I->(S4 I p1 p.Arrays c)->(S4 I p2 p.Parts c1)->NG Q->NO Q->(∀I' kj,o=kj->I0.le I'->T 103 B Q (.exit 6) I' [hB b (cProg p p1 c p2 c1)] [(1,vP b 0),(3,vT kj.l),(6,vI i1)])->J Tryz.prog 103 B (nav (bodyOf f10) [1,1,1,1,0,1,0,0,1,0,0,1,1,0]) Q I [hB b (cProg p p1 c p2 c1)] [(1,vP b 0),(3,vT gj.l),(6,vI i1),(7,vI cE)]:=by
 refine vH.partial_correctness p i1 _ λaQ ih gj cE o N B I0 I Q p1 c p2 c1 b H h h1 hg ho hx=>xD hg ho<|yA<|yB<|zZ 4 [0] [71,73,74] rfl<|bE N λx5 lK N=>wJ rfl rfl h1 lK ?_;intro ad5 ro kb jr;obtain⟨p8,c7,p9,c8,rfl,bQ,bB⟩:=uK jr;refine zZ 6 [] [76] rfl<|wC 1 kb [vS p9 x5.Body c8] (vS p9 x5.Body c8) rfl<|yI [] [79] rfl<|zK<|yC N ?_ ?_
 ·intro cO N;refine zR<|zY<|yM<|yB<|zZ 3 [0] [83,84] rfl<|bE N λx6 qa N=>wJ rfl rfl h1 qa ?_;intro ad6 vp pj ue;obtain⟨bH,c9,bd,bG,rfl,bW,cy⟩:=uK ue;refine zZ 5 [] [86] rfl<|wC 1 pj [vS bd x6.Body bG] (vS bd x6.Body bG) rfl<|zZ 7 [] [88] rfl<|bE N λx7 r9 N=>wJ rfl rfl cy r9 ?_;intro ad7 ccs7 hat7 uf;obtain⟨ce,bj,br,bx,de,bM,du,cW,rfl,bV,co,ck,cm⟩:=rJ uf;refine wC 0 hat7 (cStmt x7 ce bj br bx de bM du cW) (vA (cStmt x7 ce bj br bx de bM du cW)) rfl<|wT [vT ([]),z0,vI 0,vI 0,z0,vI 0,vT ([]),z0,z0] ?_;intro b1 cp;refine yZ 0 (cStmt x7 ce bj br bx de bM du cW) rfl<|zW rfl<|zK ?_;obtain⟨y3,hy18,N⟩:=zB N;obtain⟨s7,hy19,N⟩:=zB N;obtain⟨s8,hy20,N⟩:=zB N;obtain⟨y4,wb,N⟩:=zB N;obtain⟨s9,hy22,N⟩:=zB N;obtain⟨s10,hy23,N⟩:=zB N;refine vK [.p (vT gj.l) [],.p (vP b1 0) [],.p (vA (cAccess x7.Write ce bj)) [0],.q (vT y3.l),.q (vT s7.l),.q (vT s8.l),.p (vP b1 2) [],.p (vA (cExpr x7.Value br bx de bM du cW)) [0],.q (vT y4.l),.q (vT s9.l),.q (vT s10.l)] [[],[],[(1,F9)],[(2,F9)],[(0,F9),(3,F9)],[(4,F9)],[],[(6,F9)],[(7,F9)],[(5,F9),(8,F9)],[(9,F9)]] [hB b1 (cStmt x7 ce bj br bx de bM du cW),hB b (cProg p p1 c p2 c1)] [] [(10,F9)] (zX [0,1]) ?_ ?_
  ·refine O3<|Oq ?_<|Oq ?_<|Oq ?_<|O2<|Oq ?_<|Oq ?_<|Oq ?_<|On
   ·intro I1 hf ae;refine yW [93] rfl ?_;have H:=iS I1;have bV:=bV.mono ae;refine xG (dD x7.Write _ hy18 bV) ?_;rintro dw au v2 k2 bI - ⟨v016,rfl,rfl,rfl⟩ -;have H:=H.trans bI;exact yQ H
   ·intro I1 hf ae;exact yW [91,94] rfl<|qP rfl hy19<|yQ iR
   ·intro I1 hf ae;exact yW [95] rfl<|qP rfl hy20<|yQ iR
   ·intro I1 hf ae;refine yW [98] rfl ?_;have H:=iS I1;have ⟨co,ck,cm⟩:=m3 ae co ck cm;refine xG (zD9 x7.Value _ wb co ck cm) ?_;rintro gk au v2 k2 bJ - ⟨v017,rfl,rfl,rfl⟩ -;have H:=H.trans bJ;exact yQ H
   ·intro I1 hf ae;exact yW [96,99] rfl<|qP rfl hy22<|yQ iR
   intro I1 hf ae;exact yW [100] rfl<|qP rfl hy23<|yQ iR
  intro ij bZ;refine yW [1,6,7,101] rfl ?_;have ⟨h,h1,H⟩:=m3 bZ h h1 H;exact yI [] [3] rfl<|zO<|zK<|zM<|yI [] [7] rfl<|xB<|kT (zV [1] rfl (by decide))<|jH<|ih s10 (W (cE+1)) _ N H h h1 hg ho hx
 intro cO N;exact uR<|yP<|hx _ _ (zC N).symm H
def wM(p:zH)(dn:Str)(i1:Int):Option (Str):=do
 if(decide (i1<(p.Parts.length:Int))) then
  let s5<-cat dn (⟨[112,97,114,116,10]⟩:Str);let x4<-idx p.Parts i1;let y2<-fA x4.Nest;let s6<-cat s5 y2;let kj<-vH p i1 s6 0;wM p kj (W (i1+1))
 else pure (id dn)
 partial_fixpoint
theorem zCJ(p:zH):∀(dn:Str) (i1:Int) (o:Str),wM p dn i1=some o->∀{B}{I0 I:Imm}{Q p1 c p2 c1}{b},I0.le I->(S4 I p1 p.Arrays c)->(S4 I p2 p.Parts c1)->NG Q->NO Q->(∀I' fx,o=fx->I0.le I'->T 103 B Q (.exit 4) I' [] [(3,vT fx.l)])->J Tryz.prog 103 B (nav (bodyOf f10) [1,1,1,1,0,1,0]) Q I [hB b (cProg p p1 c p2 c1)] [(1,vP b 0),(3,vT dn.l),(6,vI i1)]:=by
 refine wM.partial_correctness p _ λaQ ih dn i1 o N B I0 I Q p1 c p2 c1 b H h h1 hg ho hx=>xD hg ho<|yA<|yB<|yI [0] [58] rfl<|zK<|yC N ?_ ?_
 ·intro bU N;refine zR<|zY<|yM<|yB<|zZ 1 [] [61] rfl<|bE N λs5 dr N=>qP rfl dr<|zZ 5 [0] [64,65] rfl<|bE N λx4 en N=>wJ rfl rfl h1 en ?_;intro ad4 nu lG iz;obtain⟨p6,c5,p7,c6,rfl,h7,h8⟩:=uK iz;refine zZ 7 [] [67] rfl<|wC 0 lG [vS p6 x4.Nest c5] (vS p6 x4.Nest c5) rfl<|bE N λy2 iA N=>xG (zIQ x4.Nest _ iA h7) ?_;rintro cI au v2 k2 bb - ⟨v07,rfl,rfl,rfl⟩ -;have ⟨h,h1,H⟩:=m3 bb h h1 H;obtain⟨s6,jt,N⟩:=zB N;refine qP rfl jt<|yI [] [3] rfl<|uX [7] rfl<|vC<|mM [(1,vP b 0),(3,vT s6.l),(6,vI i1),(7,vI 0)] ?_;obtain⟨dd,bh,iv⟩:=zB N;refine zCI p i1 s6 0 dd bh iR h h1 (λ_ _ _ h=>hg _ _ _ h) (λ_ _ h=>ho _ _ h) ?_;intro iE kj jo dt;subst dd;have ⟨h,h1,H⟩:=m3 dt h h1 H;exact zT<|zO<|zK<|zM<|yI [] [6] rfl<|xB<|jH<|ih kj (W (i1+1)) _ iv H h h1 hg ho hx
 intro bU N;exact uR<|wI zN<|yP<|hx _ _ (zC N).symm H
def vW(p:zH):Option (Str):=do
 let y<-uH p;if(!y) then pure (⟨[]⟩:Str)
 else
  let aq<-wX p (⟨qL1⟩:Str) 0;let fx<-wM p aq 0;pure (id fx)
theorem qJ:∀p r,vW p=some r->∀{I:Imm}{p1 c p2 c1},(S4 I p1 p.Arrays c)->(S4 I p2 p.Parts c1)->RT 10 [vA (cProg p p1 c p2 c1)] I [] (xM  r):=by
 intro p r N I p1 c p2 c1 h h1;unfold vW at N;refine yK func10 λB=>yB<|sF (cProg p p1 c p2 c1) ?_;intro b hb;refine wP [] []<|zY<|yB<|qO 1 [0] [(9,vA (cProg p p1 c p2 c1))]<|bE N λy hy N=>uU (tL p _ hy h h1) ?_;intro I0 le;have ⟨h,h1⟩:=m2 le h h1;refine yI [] [11] rfl<|zK<|yC N ?_ ?_
 ·intro hc N;refine yG [2] rfl<|xH<|zG ?_;obtain rfl:=zC N;exact vG
 intro hc N;refine zR<|uX [3] rfl<|zY<|yG [4] rfl<|vC<|mM [(1,vP b 0),(3,vT (qL1)),(4,vI 0)] ?_;obtain⟨aS,aE,dc⟩:=zB N;refine zCH p (⟨qL1⟩:Str) 0 aS aE iR h h1 nG nO ?_;intro bP aq ca aL;subst aS;have ⟨h,h1⟩:=m2 aL h h1;refine zT<|zY<|yG [6] rfl<|vC<|mM [(1,vP b 0),(3,vT aq.l),(6,vI 0)] ?_;obtain⟨fw,cu,hMl3⟩:=zB dc;refine zCJ p aq 0 fw cu iR h h1 nG nO ?_;intro jx fx lI bS;subst fw;refine zT<|uX [2] rfl<|zK<|yX ?_;obtain rfl:=zC hMl3;exact vG
def tF(s1:(List Int))(s2:(List Int))(q5:Int):Option (Out Unit (Bool)):=do
 if(decide (q5<(s1.length:Int))) then
  let x<-idx s1 q5;let x1<-idx s2 q5;if(x != x1) then pure (.ret false)
  else tF s1 s2 (W (q5+1))
 else pure (.done ())
 partial_fixpoint
theorem zB4(s1:(List Int))(s2:(List Int)):∀(q5:Int) (o:Out Unit (Bool)),tF s1 s2 q5=some o->∀{B}{I0 I:Imm}{Q p c p1 c1},I0.le I->(S4 I p s1 c)->(S4 I p1 s2 c1)->NG Q->NO Q->(∀I',o=(.done ())->I0.le I'->T 26 B Q (.exit 0) I' [] [])->(∀r I' ah m',o=(.ret r)->I0.le I'->RS Tryz.prog f47 B (zU  r) I' ah m'->T 26 B Q .ret I' ah m')->J Tryz.prog 26 B (nav (bodyOf f47) [1,1,0,1,0]) Q I [] [(0,vS p s1 c),(1,vS p1 s2 c1),(12,vI (s1.length:Int)),(13,vI q5)]:=by
 refine tF.partial_correctness s1 s2 _ λaQ ih q5 o N B I0 I Q p c p1 c1 H h h1 hg ho hx hr=>xD hg ho<|yG [14] rfl<|zY<|yC N ?_ ?_
 ·intro aI N;refine zR<|zY<|yM<|yG [5] rfl<|zY<|zA9 (by kernel_rfl) (by kernel_rfl)<|zCQ 2 [] [16,17] rfl<|bE N λx hy N=>zFQ rfl rfl h hy ?_;intro ad aR av al;obtain rfl:=al;refine zFP 0 av [vI x] (vI x) rfl<|zCQ 6 [] [20,21] rfl<|bE N λx1 ay N=>zFQ rfl rfl h1 ay ?_;intro cD bN aw ax;obtain rfl:=ax;refine zFP 0 aw [vI x1] (vI x1) rfl<|zMF [] [24] rfl<|zK<|yC N ?_ ?_
  ·intro aU N;exact vO [(4,vF)]<|xH<|zS<|zG<|zG<|hr _ _ _ _ (zC N).symm H ⟨_,_,(resT rfl),zN,⟨_,rfl,rfl,rfl⟩⟩
  intro aU N;exact zR<|zO<|zK<|zM<|yI [] [13] rfl<|xB<|jH<|ih (W (q5+1)) _ N H h h1 hg ho hx hr
 intro aI N;exact uR<|yP<|hx _  (zC N).symm H
def pP(s1:(List Int))(s2:(List Int)):Option (Bool):=do
 if((s1.length:Int) != (s2.length:Int)) then pure false
 else
  match<-tF s1 s2 0 with
  | .ret r0=>pure r0
  | .done _=>
   pure true
theorem zAO:∀s1 s2 r,pP s1 s2=some r->∀{I:Imm}{p c p1 c1},(S4 I p s1 c)->(S4 I p1 s2 c1)->RT 47 [vS p s1 c,vS p1 s2 c1] I [] (zU  r):=by
 intro s1 s2 r N I p c p1 c1 h h1;unfold pP at N;refine yK func47 λB=>vO []<|zY<|yG [10] rfl<|zK<|yC N ?_ ?_
 ·intro hc N;refine vO [(4,vF)]<|xH<|zG ?_;obtain rfl:=zC N;exact vG
 intro hc N;refine zR<|zY<|yG [12,13] rfl<|vC<|mM [(0,vS p s1 c),(1,vS p1 s2 c1),(12,vI (s1.length:Int)),(13,vI 0)] ?_;obtain⟨o0,aC,aM⟩:=zB N;refine zB4 s1 s2 0 o0 aC iR h h1 nG nO ?_ ?_
 ·intro I0  ec le;subst o0;refine zT<|zFT [(4,vY)]<|zK<|yX ?_;obtain rfl:=zC aM;exact vG
 intro r0 I9 gm m9 aV bS aW;subst aV;refine zS<|zG ?_;obtain rfl:=zC aM;exact fO aW
def tS(x:zE)(y:zE):Option (Bool):=do
 let t4<-(do
  if(x.Name.l==y.Name.l) then
   let y1<-pP x.Dims y.Dims;pure (id y1)
  else
   pure false
    : Option Bool)
 pure (id t4)
theorem zDV:∀x y r,tS x y=some r->∀{I:Imm}{p c p1 c1},(S4 I p x.Dims c)->(S4 I p1 y.Dims c1)->RT 46 [vA (cArr x p c),vA (cArr y p1 c1)] I [] (zU  r):=by
 intro x y r N I p c p1 c1 h h1;unfold tS at N;refine yK func46 λB=>?_;have H:=iS I;refine yB<|sF (cArr x p c) ?_;intro b hb;refine sF (cArr y p1 c1) ?_;intro b1 cp;refine wP [] []<|zK<|yA ?_;refine wZ N [] (λt4=>[(4,.bool t4)]) (λo0 aC=>?_) ?_
 ·have H:=iS I;refine zM<|zZ 6 [1,0] [10] rfl<|xW [10] aC ?_ ?_
  ·intro hc N;refine zZ 10 [1,0] [12,14] rfl<|bE N λy1 hy N=>uU (zAO x.Dims y.Dims _ hy h h1) ?_;intro aT le;have H:=H.trans le;exact yI [] [4] rfl<|wI zN<|yP<|zQ (ct N H)
  intro hc N;exact wP [] [(4,vF)]<|wI zN<|yP<|zQ (ct N H)
 intro t4 I0 ae aO;refine zK<|yX ?_;obtain rfl:=zC aO;exact vG
end Go.LN
