/- Helper of the proof (see the last text). -/
import Derived.Test.YtkipogionmkncaaGreatHM3
set_option linter.unusedVariables false
set_option linter.unusedSimpArgs false
namespace Go.LN
open Go.Proofs Go.Proofs.Tryz
set_option maxRecDepth 20000
def zCR(r:(List zK)):KT:=λkk I' aj v=>
 ∃v0,aj=[]/\v=tupV [v0]/\SL I' v0 r
mutual
def gR(e0:zD):Option ((List zK)):=do
 if(e0.Kind==3) then
  pure ([e0.Read]:List zK)
 else
  let ak<-nC (same e0) ([]:List zK) (same 0)
  pure (id ak)
 partial_fixpoint
def nC(e0:zD)(out:List zK)(t15:Int):Option (List zK):=do
 if(decide (t15<(e0.Kids.length:Int))) then
  let x<-idx e0.Kids t15
  let y<-gR (same x)
  let ar<-app 40 out y
  nC (same e0) (same ar) (W (t15+1))
 else
  pure (id out)
 partial_fixpoint
end
theorem zG9:(∀(e0:zD) r,gR e0=some r->∀{I:Imm}{p c p1 c1 p2 c2},(S4 I p e0.Index.Coefs c)->(S4 I p1 e0.Read.Subs c1)->(S4 I p2 e0.Kids c2)->RT 124 [vA (cExpr e0 p c p1 c1 p2 c2)] I [] (zCR  r))/\(∀(e0:zD) (out:List zK) (t15:Int) o,nC e0 out t15=some o->∀{B}{I0 I:Imm}{Q p2 c2 p3 c3 cs},I0.le I->(S4 I p2 e0.Kids c2)->(RL I cs out)->NG Q->NO Q->(∀(I':Imm) (ak:List zK) (p4:Option Addr) (c4:Nat) (aM:List Value),o=ak->I0.le I'->(RL I' aM ak)->T 25 B Q (.exit 0) I' [hO zK (vS p4 ak c4) aM] [(3,vS p4 ak c4)])->J Tryz.prog 25 B (nav (bodyOf f124) [1,1,1,0,1,0]) Q I [hO zK (vS p3 out c3) cs] [(3,vS p3 out c3),(13,vS p2 e0.Kids c2),(14,vI (e0.Kids.length:Int)),(15,vI t15)]):=by
 refine gR.mutual_partial_correctness _ _ ?_ ?_
 ·intro F_impl_reads_l1 ih_impl_reads_l1 e0 r N I p c p1 c1 p2 c2 h h1 h2;refine yM func124 λB=>yJ<|uA (cExpr e0 p c p1 c1 p2 c2) ?_;intro b hb;refine yO [] []<|yE<|yJ<|yW [0] [8] rfl<|zH<|yD N ?_ ?_
  ·intro hc N;refine yJ<|xF 2 [0] [(10,vA (cAccess e0.Read p1 c1))]<|jJ (cAccess e0.Read p1 c1) zK ?_;intro b1 hb1;have h3:RL I (cAccess e0.Read p1 c1) ([e0.Read]:List zK):=⟨(cAccess e0.Read p1 c1),_,rfl,rfl,(nU ⟨_,rfl,h1⟩),rfl⟩;refine yW [] [2] rfl<|yS<|zG<|uY 0 rfl ?_;intro I0 le hl0;have h4:=SL.of_frozen hl0 le h3;obtain rfl:=zB N;exact yV ⟨_,_,(.tmp rfl ResV.nil),zO,⟨_,rfl,rfl,h4⟩⟩
  intro hc N;refine zT<|zBu [(3,z0)]<|yE<|yJ<|yW [0] [13,14,15] rfl<|uP<|kU (xD [] (aj:=[]))<|rX [(3,z0),(13,vS p2 e0.Kids c2),(14,vI (e0.Kids.length:Int)),(15,vI 0)]<|zH7 zK λh5=>?_;obtain⟨o0,ay,aB⟩:=zF N;refine ih_impl_reads_l1 e0 ([]:List zK) 0 o0 ay iR h2 h5 (λ_ _ _ h=>h) (λ_ _ h=>h) ?_;intro bf ak p4 c4 aM heq ax h7;subst o0;refine zU<|wJ [2] rfl<|yS<|uY 0 rfl ?_;intro bq aR hl01;have h13:=SL.of_frozen hl01 aR h7;obtain rfl:=zB aB;exact yV ⟨_,_,(.tmp rfl ResV.nil),zO,⟨_,rfl,rfl,h13⟩⟩
 intro F_impl_reads F_impl_reads_l1 ih_impl_reads ih_impl_reads_l1 e0 out t15 o N B I0 I Q p2 c2 p3 c3 cs H h2 h6 hg ho hx;refine yK hg ho<|yG [16] rfl<|yE<|yD N ?_ ?_
 ·intro aE N;refine zT<|yE<|zZ<|yJ<|bE N λx hy N=>xL rfl rfl h2 hy ?_;intro ad aF av aq;obtain⟨p5,c5,p6,c6,p7,c7,rfl,h8,h9,h10⟩:=yZ aq;refine yY 0 av (cExpr x p5 c5 p6 c6 p7 c7) (vA (cExpr x p5 c5 p6 c6 p7 c7)) rfl<|nV zExpr ?_;intro b2 hb2;refine tA 0 (cExpr x p5 c5 p6 c6 p7 c7) rfl<|zX rfl<|zH<|zE<|xF 2 [0] [(19,vS p3 out c3),(20,vA (cExpr x p5 c5 p6 c6 p7 c7))]<|bE N λy aw N=>tG (ih_impl_reads x _ aw h8 h9 h10) ?_;rintro aN aK v2 k2 ai - ⟨v03,rfl,rfl,h11⟩ -;have ⟨h2,h6,H⟩:=m3 ai h2 h6 H;obtain⟨p8,c8,rfl⟩:=h11.form;obtain⟨aY,k0,k01⟩:=h11;have h11:SL aN (vS p8 y c8) y:=⟨_,k0,k01⟩;obtain⟨ar,aI,N⟩:=zF N;exact fU 47 2 1 rfl rfl rfl h6 (.inl k0) k01 aI λp9 c9 aV h12=>dY (xD [0,1] (aj:=[hB b2 (cExpr x p5 c5 p6 c6 p7 c7),hO zK (vS p9 ar c9) aV]))<|yW [] [3] rfl<|zQ<|zH<|zE<|yW [] [15] rfl<|yL<|kU (yN [1] rfl (by decide))<|gJ<|ih_impl_reads_l1 e0 ar (W (t15+1)) _ N H h2 h12 hg ho hx
 intro aE N;exact uQ<|xM<|hx _ _ _ _ _ (zB N).symm H h6
theorem zHD:∀e0 r,gR e0=some r->∀{I:Imm}{p c p1 c1 p2 c2},(S4 I p e0.Index.Coefs c)->(S4 I p1 e0.Read.Subs c1)->(S4 I p2 e0.Kids c2)->RT 124 [vA (cExpr e0 p c p1 c1 p2 c2)] I [] (zCR  r):=zG9.1
def uL(a0:zK)(x:zV)(x1:(List Int)):Option (Bool):=do
 let y<-pH x a0 x1
 pure (decide (y<0))
theorem zB0:∀a0 x x1 r,uL a0 x x1=some r->∀{I:Imm}{p c}{ad:Addr}{p1 c1 p2 c2}{ad1:Addr}{p3 c3},(S4 I p a0.Subs c)->(S4 I p1 x.Arrays c1)->(S4 I p2 x.Parts c2)->(At I ad (cProg x p1 c1 p2 c2))->(S4 I p3 x1 c3)->(At I ad1 [vS p3 x1 c3])->RT 125 [vA (cAccess a0 p c),.pointer (some ad),.pointer (some ad1)] I [] (zS  r):=by
 intro a0 x x1 r N I p c ad p1 c1 p2 c2 ad1 p3 c3 h h1 h2 av h3 au;unfold uL at N;refine yM func125 λB=>yJ<|uA (cAccess a0 p c) ?_;intro b hb;refine yO [] []<|wG<|yY 0 av (cProg x p1 c1 p2 c2) (vA (cProg x p1 c1 p2 c2)) rfl<|xF 2 [0] [(6,vA (cAccess a0 p c))]<|yY 0 au [vS p3 x1 c3] (vS p3 x1 c3) rfl<|bE N λy hy N=>qJ (zA5 x a0 x1 _ hy h1 h2 h h3) λI0 le=>yO [] [(4,.bool (decide (y<0)))]<|zH<|yF ?_;obtain rfl:=zB N;exact xH
def pS(p:zV)(s:zJ)(ah:(List Int)):Option (Bool):=do
 let t6<-(do
  let y<-pH p s.Write ah
  if(decide (y>=0)) then
   let y1<-gR s.Value
   let y2<-xS y1 (λx0=>uL x0 p ah)
   pure (!y2)
  else
   pure false
    : Option Bool)
 pure (id t6)
theorem zCC:∀p s ah r,pS p s ah=some r->∀{I:Imm}{p1 c p2 c1 p3 c2 p4 c3 p5 c4 p6 c5 p7 c6},(S4 I p1 p.Arrays c)->(S4 I p2 p.Parts c1)->(S4 I p3 s.Write.Subs c2)->(S4 I p4 s.Value.Index.Coefs c3)->(S4 I p5 s.Value.Read.Subs c4)->(S4 I p6 s.Value.Kids c5)->(S4 I p7 ah c6)->RT 79 [vA (cProg p p1 c p2 c1),vA (cStmt s p3 c2 p4 c3 p5 c4 p6 c5),vS p7 ah c6] I [] (zS  r):=by
 intro p s ah r N I p1 c p2 c1 p3 c2 p4 c3 p5 c4 p6 c5 p7 c6 h h1 h2 h3 h4 h5 h6;unfold pS at N;refine yM func79 λB=>?_;have H:=iS I;refine yJ<|uA (cProg p p1 c p2 c1) ?_;intro b hb;refine tP 0 rfl ?_;intro I0 le hl0;have av:At I0 ⟨b,0,none⟩ (cProg p p1 c p2 c1):=At.of_blk hl0;have ⟨h,h1,h2,h3,h4,h5⟩:=m6 le h h1 h2 h3 h4 h5;have ⟨h6,H⟩:=m2 le h6 H;refine uA (cStmt s p3 c2 p4 c3 p5 c4 p6 c5) ?_;intro b1 hb1;refine uA [vS p7 ah c6] ?_;intro b2 hb2;refine tP 0 rfl ?_;intro aN ai hl01;have au:At aN ⟨b2,0,none⟩ [vS p7 ah c6]:=At.of_blk hl01;have ⟨h,h1,h2,h3,h4,h5⟩:=m6 ai h h1 h2 h3 h4 h5;have ⟨h6,av,H⟩:=m3 ai h6 av H;refine yO [] []<|zH<|zM ?_;refine tZ N [] (λt6=>[(6,.bool t6)]) (λo0 ay=>?_) ?_
 ·have H:=iS aN;refine zE<|yY 0 av (cProg p p1 c p2 c1) (vA (cProg p p1 c p2 c1)) rfl<|xF 3 [0] [(9,vA (cAccess s.Write p3 c2))]<|yY 0 au [vS p7 ah c6] (vS p7 ah c6) rfl ?_;obtain⟨y,hy,N⟩:=zF ay;refine qJ (zA5 p s.Write ah _ hy h h1 h2 h6) ?_;intro bq ax;have ⟨h,h1,av,h6,au,h3⟩:=m6 ax h h1 av h6 au h3;have ⟨h4,h5,H⟩:=m3 ax h4 h5 H;refine yR 7 [] [13] rfl<|wN [13] N ?_ ?_
  ·intro hc N;refine xF 9 [0] [(15,vA (cExpr s.Value p4 c3 p5 c4 p6 c5))]<|bE N λy1 aw N=>tG (zHD s.Value _ aw h3 h4 h5) ?_;rintro bG aK v2 k2 aR - ⟨v01,rfl,rfl,h8⟩ -;have ⟨h,h1,av,h6,au,H⟩:=m6 aR h h1 av h6 au H;obtain⟨p8,c7,rfl⟩:=h8.form;refine yR 11 [] [17] rfl ?_;have hf0:FV1 Tryz.prog bG [] (.func (.func 125) ⟨[]⟩ ⟨[vP b 0,vP b2 0]⟩) (λx0=>uL x0 p ah):=by
    refine FV1.intro ?_;intro I1 ai x0 r u0 hF k0;obtain⟨_,rfl,k0⟩:=k0;obtain⟨p9,c8,rfl,h9⟩:=rD k0;exact(zB0 x0 p ah r hF h9 (h.mono ai) (h1.mono ai) (av.mono ai) (h6.mono ai) (au.mono ai)).mono (by rintro k i hs u ⟨v0,rfl,rfl,h⟩;exact⟨rfl,h⟩)
   obtain⟨y2,aI,N⟩:=zF N;refine tG (jH y1 (λx0=>uL x0 p ah) _ aI h8 hf0) ?_;rintro bL aK v2 k2 bg - ⟨v03,rfl,rfl,rfl⟩ -;have H:=H.trans bg;exact yW [] [6] rfl<|wM zO<|xM<|zY (ct N H)
  intro hc N;exact yO [] [(6,vF)]<|wM zO<|xM<|zY (ct N H)
 intro t6 bf bo aT;refine zH<|yF ?_;obtain rfl:=zB aT;exact xH
def qH(r:(List yC)×Bool):KT:=λkk I' aj v=>
 ∃v0 v1,aj=[]/\v=tupV [v0,v1]/\SL I' v0 r.1/\v1=.bool r.2
def wY(p:zV)(t26:Int)(x:zN)(x1:(List Int))(bI:List yC)(t64:Int):Option (Out (List yC) ((List yC)×Bool)):=do
 if(decide (t64<(x.Body.length:Int))) then
  let x2<-idx x.Body t64
  let y7<-pS p x2 x1
  if(!y7) then
   pure (.ret (([]:List yC),false))
  else
   let y8<-wU x1
   let out6<-app 40 bI ([(yC.mk t26 t64 y8)]:List yC)
   wY p t26 x x1 out6 (W (t64+1))
 else
  pure (.done bI)
 partial_fixpoint
theorem zA7(p:zV)(t26:Int)(x:zN)(x1:(List Int)):∀(bI:List yC) (t64:Int) (o:Out (List yC) ((List yC)×Bool)),wY p t26 x x1 bI t64=some o->∀{B}{I0 I:Imm}{Q}{y2:(List (List Int))}{t54:Int}{p1 c p2 c1}{b:Nat}{p5 c4 p6 c5}{b1:Nat}{p7 c6 p14 bm p15 c14 br},I0.le I->(S4 I p5 x.Nest c4)->(S4 I p6 x.Body c5)->(At I ⟨b1,0,none⟩ (cPart x p5 c4 p6 c5))->(S4 I p14 x1 bm)->(S4 I p2 p.Parts c1)->(S4 I p7 y2 c6)->(S4 I p1 p.Arrays c)->(RL I br bI)->NG Q->NO Q->(∀(I':Imm) (out5:List yC) (p16:Option Addr) (c15:Nat) (bw:List Value),o=(.done out5)->I0.le I'->(RL I' bw out5)->T 89 B Q (.exit 4) I' [hO yC (vS p16 out5 c15) bw,hB b (cProg p p1 c p2 c1)] [(1,vP b 0),(4,vS p16 out5 c15),(5,vI t26),(6,vP b1 0),(24,vS p2 p.Parts c1),(25,vI (p.Parts.length:Int)),(26,vI t26),(52,vS p7 y2 c6),(53,vI (y2.length:Int)),(54,vI t54)])->(∀r I' aj m',o=(.ret r)->I0.le I'->RS Tryz.prog f41 B (qH  r) I' aj m'->T 89 B Q .ret I' aj m')->J Tryz.prog 89 B (nav (bodyOf f41) [1,1,1,0,1,0,0,1,1,0,0,1,1,1,1,0,0,1,1,0,0,1,1,1,0]) Q I [hO yC (vS p15 bI c14) br,hB b (cProg p p1 c p2 c1)] [(1,vP b 0),(4,vS p15 bI c14),(5,vI t26),(6,vP b1 0),(10,vS p14 x1 bm),(24,vS p2 p.Parts c1),(25,vI (p.Parts.length:Int)),(26,vI t26),(52,vS p7 y2 c6),(53,vI (y2.length:Int)),(54,vI t54),(62,vS p6 x.Body c5),(63,vI (x.Body.length:Int)),(64,vI t64)]:=by
 refine wY.partial_correctness p t26 x x1 _ λaG ih bI t64 o N B I0 I Q y2 t54 p1 c p2 c1 b p5 c4 p6 c5 b1 p7 c6 p14 bm p15 c14 br H h6 h7 au h18 h1 h8 h h20 hg ho hx hr=>yK hg ho<|yG [65] rfl<|yE<|yD N ?_ ?_
 ·intro hc8 N;refine zT<|yE<|zZ<|yJ<|yR 1 [] [66] rfl<|bE N λx2 hy7 N=>xL rfl rfl h7 hy7 ?_;intro ad2 bM hat3 bh;obtain⟨p17,c16,p18,c17,p19,c18,p20,c19,rfl,h22,h23,h24,h25⟩:=xY bh;refine yY 0 hat3 (cStmt x2 p17 c16 p18 c17 p19 c18 p20 c19) (vA (cStmt x2 p17 c16 p18 c17 p19 c18 p20 c19)) rfl<|nV [vT ([]),z0,vI 0,vI 0,z0,vI 0,vT ([]),z0,z0] ?_;intro b2 hb2;refine yR 5 [] [11] rfl<|tA 0 (cStmt x2 p17 c16 p18 c17 p19 c18 p20 c19) rfl<|zX rfl<|yE<|yJ<|xF 3 [2,0] [(69,vA (cProg p p1 c p2 c1)),(70,vA (cStmt x2 p17 c16 p18 c17 p19 c18 p20 c19)),(71,vS p14 x1 bm)]<|bE N λy7 hy8 N=>vJ (zCC p x2 x1 _ hy8 h h1 h22 h23 h24 h25 h18) ?_;intro I08 le8;have ⟨h20,h6,h7,au,h18,h1⟩:=m6 le8 h20 h6 h7 au h18 h1;have ⟨h8,h,H⟩:=m3 le8 h8 h H;refine yW [] [73] rfl<|zH<|yD N ?_ ?_
  ·intro hc9 N;exact yG [2,3] rfl<|yS<|zG<|zR<|zG<|zG<|hr _ _ _ _ (zB N).symm H ⟨_,_,(.tmp rfl (.tmp rfl ResV.nil)),zO,⟨_,_,rfl,rfl,(SL.nil _),rfl⟩⟩
  intro hc9 N;refine zT<|zH<|zE<|yR 4 [] [74,75,76,77] rfl<|bE N λy8 hy9 N=>tG (qD x1 _ hy9 h18) ?_;rintro I09 aK v2 k2 le9 - ⟨p21,c20,cs6,rfl,rfl,h27⟩ -;have ⟨h6,h7,au,h18,h1,h8⟩:=m6 le9 h6 h7 au h18 h1 h8;have ⟨h20,h,H⟩:=m3 le9 h20 h H;refine yR 6 [] [79] rfl<|tP 0 rfl ?_;intro bO le10 hl01;have h28:=SL.of_frozen hl01 le10 h27;have ⟨h6,h7,au,h18,h1,h8⟩:=m6 le10 h6 h7 au h18 h1 h8;have ⟨h20,h,H⟩:=m3 le10 h20 h H;refine jJ [vI t26,vI t64,vS p21 y8 c20] yC ?_;intro b3 hb3;have h29:RL bO [vI t26,vI t64,vS p21 y8 c20] ([(yC.mk t26 t64 y8)]:List yC):=⟨[vI t26,vI t64,vS p21 y8 c20],_,rfl,rfl,(zDk ⟨_,rfl,h28⟩),rfl⟩;obtain⟨out6,hy10,N⟩:=zF N;exact fU 119 3 2 rfl rfl rfl h20 (.inr ⟨0,rfl⟩) h29 hy10 λp22 c21 cs7 h30=>dY (xD [1,2,3] (aj:=[hB b2 (cStmt x2 p17 c16 p18 c17 p19 c18 p20 c19),hO yC (vS p22 out6 c21) cs7,hB b (cProg p p1 c p2 c1)]))<|yW [] [4] rfl<|zQ<|zH<|zE<|yW [] [64] rfl<|yL<|kU (yN [1,2] rfl (by decide))<|gJ<|ih out6 (W (t64+1)) _ N H h6 h7 au h18 h1 h8 h h30 hg ho hx hr
 intro hc8 N;exact uQ<|xM<|hx _ _ _ _ _ (zB N).symm H h20
def wZ(p:zV)(t26:Int)(x:zN)(y2:(List (List Int)))(ar:List yC)(t54:Int):Option (Out (List yC) ((List yC)×Bool)):=do
 if(decide (t54<(y2.length:Int))) then
  let x1<-idx y2 t54
  let y6<-fZ x1
  if(!y6) then
   pure (.ret (([]:List yC),false))
  else
   match<-wY p t26 x x1 ar 0 with
   | .ret r0=>pure (.ret r0)
   | .done out5=>
    wZ p t26 x y2 out5 (W (t54+1))
 else
  pure (.done ar)
 partial_fixpoint
theorem zA8(p:zV)(t26:Int)(x:zN)(y2:(List (List Int))):∀(ar:List yC) (t54:Int) (o:Out (List yC) ((List yC)×Bool)),wZ p t26 x y2 ar t54=some o->∀{B}{I0 I:Imm}{Q p1 c p2 c1}{b:Nat}{p5 c4 p6 c5}{b1:Nat}{p7 c6 bu a6 aV},I0.le I->(S4 I p5 x.Nest c4)->(S4 I p6 x.Body c5)->(At I ⟨b1,0,none⟩ (cPart x p5 c4 p6 c5))->(S4 I p2 p.Parts c1)->(S4 I p7 y2 c6)->(S4 I p1 p.Arrays c)->(RL I aV ar)->NG Q->NO Q->(∀(I':Imm) (bx:List yC) (aZ:Option Addr) (bc:Nat) (bb:List Value),o=(.done bx)->I0.le I'->(RL I' bb bx)->T 89 B Q (.exit 2) I' [hO yC (vS aZ bx bc) bb,hB b (cProg p p1 c p2 c1)] [(1,vP b 0),(4,vS aZ bx bc),(24,vS p2 p.Parts c1),(25,vI (p.Parts.length:Int)),(26,vI t26)])->(∀r I' aj m',o=(.ret r)->I0.le I'->RS Tryz.prog f41 B (qH  r) I' aj m'->T 89 B Q .ret I' aj m')->J Tryz.prog 89 B (nav (bodyOf f41) [1,1,1,0,1,0,0,1,1,0,0,1,1,1,1,0]) Q I [hO yC (vS bu ar a6) aV,hB b (cProg p p1 c p2 c1)] [(1,vP b 0),(4,vS bu ar a6),(5,vI t26),(6,vP b1 0),(24,vS p2 p.Parts c1),(25,vI (p.Parts.length:Int)),(26,vI t26),(52,vS p7 y2 c6),(53,vI (y2.length:Int)),(54,vI t54)]:=by
 refine wZ.partial_correctness p t26 x y2 _ λaG ih ar t54 o N B I0 I Q p1 c p2 c1 b p5 c4 p6 c5 b1 p7 c6 bu a6 aV H h6 h7 au h1 h8 h h16 hg ho hx hr=>yK hg ho<|yG [55] rfl<|yE<|yD N ?_ ?_
 ·intro hc6 N;refine zT<|yE<|zZ<|yJ<|bE N λx1 bC N=>xL rfl rfl h8 bC ?_;intro ad1 aY aS aA;obtain⟨v011,rfl,h18⟩:=aA;obtain⟨p14,bm,rfl⟩:=h18.form;refine yY 0 aS [vS p14 x1 bm] (vS p14 x1 bm) rfl<|yW [] [10] rfl<|yE<|yJ<|yR 1 [] [58] rfl<|bE N λy6 hy6 N=>vJ (zFr x1 _ hy6 h18) ?_;intro I07 le7;have ⟨h16,h6,h7,au,h18,h1⟩:=m6 le7 h16 h6 h7 au h18 h1;have ⟨h8,h,H⟩:=m3 le7 h8 h H;refine yW [] [60] rfl<|zH<|yD N ?_ ?_
  ·intro hc7 N;exact yG [2,3] rfl<|yS<|zG<|zR<|zG<|zG<|hr _ _ _ _ (zB N).symm H ⟨_,_,(.tmp rfl (.tmp rfl ResV.nil)),zO,⟨_,_,rfl,rfl,(SL.nil _),rfl⟩⟩
  intro hc7 N;refine zT<|wG<|yR 1 [] [61] rfl<|yY 1 au [vS p6 x.Body c5] (vS p6 x.Body c5) rfl<|yW [] [63,64] rfl<|uP<|rX [(1,vP b 0),(4,vS bu ar a6),(5,vI t26),(6,vP b1 0),(10,vS p14 x1 bm),(24,vS p2 p.Parts c1),(25,vI (p.Parts.length:Int)),(26,vI t26),(52,vS p7 y2 c6),(53,vI (y2.length:Int)),(54,vI t54),(62,vS p6 x.Body c5),(63,vI (x.Body.length:Int)),(64,vI 0)] ?_;obtain⟨o02,ho02,aB⟩:=zF N;refine zA7 p t26 x x1 ar 0 o02 ho02 iR h6 h7 au h18 h1 h8 h h16 (λ_ _ _ h=>hg _ _ _ h) (λ_ _ h=>ho _ _ h) ?_ ?_
  ·intro bU out5 p16 c15 bw heq2 le11 h21;subst o02;have ⟨h6,h7,au,h1,h8,h⟩:=m6 le11 h6 h7 au h1 h8 h;have H:=H.trans le11;exact zU<|zQ<|zH<|zE<|yW [] [54] rfl<|yL<|gJ<|ih out5 (W (t54+1)) _ aB H h6 h7 au h1 h8 h h21 hg ho hx hr
  intro r0 I9 hs9 m9 aC le9 aD;subst aC;exact zR<|zR<|zG<|zG<|hr _ _ _ _ (zB aB).symm (H.trans le9) aD
 intro hc6 N;exact uQ<|xM<|hx _ _ _ _ _ (zB N).symm H h16
def vC(p:zV)(out:List yC)(t26:Int):Option (Out (List yC) ((List yC)×Bool)):=do
 if(decide (t26<(p.Parts.length:Int))) then
  let x<-idx p.Parts t26
  let (y2,y3)<-kZ x.Nest
  let t51<-(do
   if(!y3) then
    pure true
   else
    let y4<-wH (x.Body.length:Int) 1 4
    if(!y4) then
     pure true
    else
     let y5<-wA x.Body (λx0=>vE x0 x)
     pure (id y5)
     : Option Bool)
  if t51 then
   pure (.ret (([]:List yC),false))
  else
   match<-wZ p t26 x y2 out 0 with
   | .ret r0=>pure (.ret r0)
   | .done bx=>
    vC p bx (W (t26+1))
 else
  pure (.done out)
 partial_fixpoint
theorem zA9(p:zV):∀(out:List yC) (t26:Int) (o:Out (List yC) ((List yC)×Bool)),vC p out t26=some o->∀{B}{I0 I:Imm}{Q p1 c p2 c1}{b:Nat}{p3 c2 cs},I0.le I->(S4 I p2 p.Parts c1)->(S4 I p1 p.Arrays c)->(RL I cs out)->NG Q->NO Q->(∀(I':Imm) (ak:List yC) (p4:Option Addr) (c3:Nat) (aM:List Value),o=(.done ak)->I0.le I'->(RL I' aM ak)->T 89 B Q (.exit 0) I' [hO yC (vS p4 ak c3) aM] [(4,vS p4 ak c3)])->(∀r I' aj m',o=(.ret r)->I0.le I'->RS Tryz.prog f41 B (qH  r) I' aj m'->T 89 B Q .ret I' aj m')->J Tryz.prog 89 B (nav (bodyOf f41) [1,1,1,0,1,0]) Q I [hO yC (vS p3 out c2) cs,hB b (cProg p p1 c p2 c1)] [(1,vP b 0),(4,vS p3 out c2),(24,vS p2 p.Parts c1),(25,vI (p.Parts.length:Int)),(26,vI t26)]:=by
 refine vC.partial_correctness p _ λaG ih out t26 o N B I0 I Q p1 c p2 c1 b p3 c2 cs H h1 h h4 hg ho hx hr=>yK hg ho<|yG [27] rfl<|yE<|yD N ?_ ?_
 ·intro aQ N;refine zT<|yE<|zZ<|yJ<|yR 1 [] [28] rfl<|bE N λx aw N=>xL rfl rfl h1 aw ?_;intro ad aF av aq;obtain⟨p5,c4,p6,c5,rfl,h6,h7⟩:=qI aq;refine yY 0 av (cPart x p5 c4 p6 c5) (vA (cPart x p5 c4 p6 c5)) rfl<|nV zTwo ?_;intro b1 hb1;refine yR 5 [] [5] rfl<|tA 0 (cPart x p5 c4 p6 c5) rfl<|zX rfl<|wG<|yR 2 [0] [33] rfl ?_;obtain⟨⟨y2,y3⟩,aI,N⟩:=zF N;refine tG (zEA x.Nest _ aI h6) ?_;rintro bf aK v2 k2 ax - ⟨v03,v04,rfl,rfl,h8,rfl⟩ -;have ⟨h4,h1,h6,h7,h,H⟩:=m6 ax h4 h1 h6 h7 h H;obtain⟨p7,c6,rfl⟩:=h8.form;refine yW [] [7,8] rfl<|yE<|zM<|zB1 0 rfl ?_;intro bq aR hl0;have au:At bq ⟨b1,0,none⟩ (cPart x p5 c4 p6 c5):=At.of_blk hl0;have ⟨h4,h6,h7,h8,h1,h⟩:=m6 aR h4 h6 h7 h8 h1 h;have H:=H.trans aR;refine tZ N [hO yC (vS p3 out c2) cs,hB b (cProg p p1 c p2 c1)] (λt51=>[(1,vP b 0),(4,vS p3 out c2),(5,vI t26),(6,vP b1 0),(7,vS p7 y2 c6),(24,vS p2 p.Parts c1),(25,vI (p.Parts.length:Int)),(26,vI t26),(51,.bool t51)]) (λaO aJ=>?_) ?_
  ·have H:=iS bq;refine zE<|yR 3 [] [39] rfl<|wN [39] aJ ?_ ?_
   ·intro bp N;exact yO [] [(51,vY)]<|xM<|zY (ct N H)
   intro bp N;refine yR 4 [] [40] rfl<|yY 1 au [vS p6 x.Body c5] (vS p6 x.Body c5) rfl<|yR 6 [] [42] rfl<|bE N λy4 aW N=>vJ (wO (x.Body.length:Int) 1 4 _ aW ) ?_;intro bL bg;have ⟨h6,h7,au,h,H⟩:=m5 bg h6 h7 au h H;refine yR 10 [] [46] rfl<|wN [46] N ?_ ?_
   ·intro bD N;exact yO [] [(51,vY)]<|xM<|zY (ct N H)
   intro bD N;refine yR 11 [] [47] rfl<|yY 1 au [vS p6 x.Body c5] (vS p6 x.Body c5) rfl<|yR 13 [] [49] rfl ?_;have hf0:FV1 Tryz.prog bL [] (.func (.func 76) ⟨[]⟩ ⟨[vP b1 0]⟩) (λx0=>vE x0 x):=by
    refine FV1.intro ?_;intro I1 ai x0 r u0 hF k0;obtain⟨_,rfl,k0⟩:=k0;obtain⟨p8,c7,p9,c8,aX,c9,a7,a8,rfl,h11,h12,h13,h14⟩:=xY k0;exact(zAk x0 x r hF h11 h12 h13 h14 (h6.mono ai) (h7.mono ai) (au.mono ai)).mono (by rintro k i hs u ⟨v0,rfl,rfl,h⟩;exact⟨rfl,h⟩)
   obtain⟨y5,bk,N⟩:=zF N;refine tG (gQ x.Body (λx0=>vE x0 x) _ bk h7 hf0) ?_;rintro I06 aK v2 k2 bo - ⟨v010,rfl,rfl,rfl⟩ -;have H:=H.trans bo;exact yW [] [51] rfl<|xM<|zY (ct N H)
  intro t51 bG bB hMc1;have ⟨h4,h6,h7,au,h8,h1⟩:=m6 bB h4 h6 h7 au h8 h1;have ⟨h,H⟩:=m2 bB h H;refine zH<|yD hMc1 ?_ ?_
  ·intro hc5 N;exact yG [2,3] rfl<|yS<|zG<|zR<|zG<|zG<|hr _ _ _ _ (zB N).symm H ⟨_,_,(.tmp rfl (.tmp rfl ResV.nil)),zO,⟨_,_,rfl,rfl,(SL.nil _),rfl⟩⟩
  intro hc5 N;refine zT<|wJ [52,53,54] rfl<|uP<|rX [(1,vP b 0),(4,vS p3 out c2),(5,vI t26),(6,vP b1 0),(24,vS p2 p.Parts c1),(25,vI (p.Parts.length:Int)),(26,vI t26),(52,vS p7 y2 c6),(53,vI (y2.length:Int)),(54,vI 0)] ?_;obtain⟨o03,ho03,hMl1⟩:=zF N;refine zA8 p t26 x y2 out 0 o03 ho03 iR h6 h7 au h1 h8 h h4 (λ_ _ _ h=>hg _ _ _ h) (λ_ _ h=>ho _ _ h) ?_ ?_
  ·intro bR bx aZ bc bb heq3 le12 h17;subst o03;have ⟨h1,h,H⟩:=m3 le12 h1 h H;exact zU<|zQ<|zH<|zE<|yW [] [26] rfl<|yL<|gJ<|ih bx (W (t26+1)) _ hMl1 H h1 h h17 hg ho hx hr
  intro r0 I9 hs9 m9 aC le9 aD;subst aC;exact zR<|zR<|zG<|zG<|hr _ _ _ _ (zB hMl1).symm (H.trans le9) aD
 intro aQ N;exact uQ<|wM (yN [0] rfl (by decide))<|xM<|hx _ _ _ _ _ (zB N).symm H h4
def rF(p:zV):Option ((List yC)×Bool):=do
 let t22<-(do
  let y<-gU p.Arrays
  if(!y) then
   pure true
  else
   pure (decide ((p.Parts.length:Int)>4))
    : Option Bool)
 if t22 then
  pure (([]:List yC),false)
 else
  match<-vC p ([]:List yC) 0 with
  | .ret r0=>pure r0
  | .done ak=>
   pure (ak,(decide ((ak.length:Int)<=120)))
theorem zBG:∀p r,rF p=some r->∀{I:Imm}{p1 c p2 c1},(S4 I p1 p.Arrays c)->(S4 I p2 p.Parts c1)->RT 41 [vA (cProg p p1 c p2 c1)] I [] (qH  r):=by
 intro p r N I p1 c p2 c1 h h1;unfold rF at N;refine yM func41 λB=>?_;have H:=iS I;refine yJ<|uA (cProg p p1 c p2 c1) ?_;intro b hb;refine yO [] []<|yE<|zM ?_;refine tZ N [hB b (cProg p p1 c p2 c1)] (λt22=>[(1,vP b 0),(22,.bool t22)]) (λo0 ay=>?_) ?_
 ·have H:=iS I;refine zE<|yR 2 [0] [14] rfl ?_;obtain⟨y,hy,N⟩:=zF ay;refine vJ (zF0 p.Arrays _ hy h) ?_;intro aN le;have H:=H.trans le;refine yR 5 [] [17] rfl<|wN [17] N ?_ ?_
  ·intro hc N;exact yO [] [(22,vY)]<|xM<|zY (ct N H)
  intro hc N;exact yW [0] [22] rfl<|xM<|zY (ct N H)
 intro t22 I0 ai aT;have ⟨h,h1⟩:=m2 ai h h1;refine zH<|yD aT ?_ ?_
 ·intro aE N;refine yG [2,3] rfl<|yS<|zG ?_;obtain rfl:=zB N;exact yV ⟨_,_,(.tmp rfl (.tmp rfl ResV.nil)),zO,⟨_,_,rfl,rfl,(SL.nil _),rfl⟩⟩
 intro aE N;refine zT<|zBu [(4,z0)]<|yE<|yJ<|yW [0] [24,25,26] rfl<|uP<|rX [(1,vP b 0),(4,z0),(24,vS p2 p.Parts c1),(25,vI (p.Parts.length:Int)),(26,vI 0)]<|zH7 yC λh3=>?_;obtain⟨o04,ho04,hMl2⟩:=zF N;refine zA9 p ([]:List yC) 0 o04 ho04 iR h1 h h3 (λ_ _ _ h=>h) (λ_ _ h=>h) ?_ ?_
 ·intro I013 ak p4 c3 aM heq4 le13 h5;subst o04;refine zU<|wJ [2,3] rfl<|yS<|uY 0 rfl ?_;intro I014 le14 hl02;have h31:=SL.of_frozen hl02 le14 h5;obtain rfl:=zB hMl2;exact yV ⟨_,_,(.tmp rfl (.tmp rfl ResV.nil)),zO,⟨_,_,rfl,rfl,h31,rfl⟩⟩
 intro r0 I9 hs9 m9 aC le9 aD;subst aC;refine zR<|zG ?_;obtain rfl:=zB hMl2;exact yV aD
def nJ(p:zV):Option (Bool):=do
 let (y1,y2)<-rF p
 pure (id y2)
theorem zCr:∀p r,nJ p=some r->∀{I:Imm}{p1 c p2 c1},(S4 I p1 p.Arrays c)->(S4 I p2 p.Parts c1)->RT 19 [vA (cProg p p1 c p2 c1)] I [] (zS  r):=by
 intro p r N I p1 c p2 c1 h h1;unfold nJ at N;refine yM func19 λB=>yJ<|uA (cProg p p1 c p2 c1) ?_;intro b hb;refine yO [] []<|wG<|xF 1 [0] [(6,vA (cProg p p1 c p2 c1))] ?_;obtain⟨⟨y1,y2⟩,hy,N⟩:=zF N;refine tG (zBG p _ hy h h1) ?_;rintro I0 aK v2 k2 le - ⟨v0,v01,rfl,rfl,h2,rfl⟩ -;obtain⟨p3,c2,rfl⟩:=h2.form;refine yW [] [4] rfl<|wJ [2] rfl<|zH<|yF ?_;obtain rfl:=zB N;exact xH
def pZ(a0:(List Int))(b:(List Int))(i:Int):Option (Out Unit (Bool)):=do
 if(decide (i<(a0.length:Int))) then
  let x<-idx a0 i
  let x1<-idx b i
  if(x != x1) then
   pure (.ret false)
  else
   pZ a0 b (W (i+1))
 else
  pure (.done ())
 partial_fixpoint
theorem zEt(a0:(List Int))(b:(List Int)):∀(i:Int) (o:Out Unit (Bool)),pZ a0 b i=some o->∀{B}{I0 I:Imm}{Q p c p1 c1},I0.le I->(S4 I p a0 c)->(S4 I p1 b c1)->NG Q->NO Q->(∀(I':Imm) ,o=(.done ())->I0.le I'->T 26 B Q (.exit 0) I' [] [])->(∀r I' aj m',o=(.ret r)->I0.le I'->RS Tryz.prog f87 B (zS  r) I' aj m'->T 26 B Q .ret I' aj m')->J Tryz.prog 26 B (nav (bodyOf f87) [1,1,0,1,0]) Q I [] [(0,vS p a0 c),(1,vS p1 b c1),(5,vI i)]:=by
 refine pZ.partial_correctness a0 b _ λaG ih i o N B I0 I Q p c p1 c1 H h h1 hg ho hx hr=>yK hg ho<|zM<|yG [14] rfl<|zH<|yD N ?_ ?_
 ·intro aE N;refine zT<|yE<|zZ<|zM<|zAn (by kernel_rfl) (by kernel_rfl)<|zCf 2 [] [17,18] rfl<|bE N λx hy N=>zGY rfl rfl h hy ?_;intro ad aF av aq;obtain rfl:=aq;refine zGX 0 av [vI x] (vI x) rfl<|zCf 6 [] [21,22] rfl<|bE N λx1 aw N=>zGY rfl rfl h1 aw ?_;intro ad1 aY au aA;obtain rfl:=aA;refine zGX 0 au [vI x1] (vI x1) rfl<|zJ5 [] [25] rfl<|zH<|yD N ?_ ?_
  ·intro aQ N;exact xZ [(4,vF)]<|yS<|zR<|zG<|zG<|hr _ _ _ _ (zB N).symm H ⟨_,_,(.tmp rfl ResV.nil),zO,⟨_,rfl,rfl,rfl⟩⟩
  intro aQ N;exact zT<|zQ<|zH<|zE<|yW [] [5] rfl<|yL<|gJ<|ih (W (i+1)) _ N H h h1 hg ho hx hr
 intro aE N;exact uQ<|xM<|hx _  (zB N).symm H
def fD(a0:(List Int))(b:(List Int)):Option (Bool):=do
 if((a0.length:Int) != (b.length:Int)) then
  pure false
 else
  match<-pZ a0 b 0 with
  | .ret r0=>pure r0
  | .done _=>
   pure true
theorem zCs:∀a0 b r,fD a0 b=some r->∀{I:Imm}{p c p1 c1},(S4 I p a0 c)->(S4 I p1 b c1)->RT 87 [vS p a0 c,vS p1 b c1] I [] (zS  r):=by
 intro a0 b r N I p c p1 c1 h h1;unfold fD at N;refine yM func87 λB=>xZ []<|yE<|yG [10] rfl<|zH<|yD N ?_ ?_
 ·intro hc N;refine xZ [(4,vF)]<|yS<|zG ?_;obtain rfl:=zB N;exact xH
 intro hc N;refine zT<|yE<|yG [5] rfl<|uP<|rX [(0,vS p a0 c),(1,vS p1 b c1),(5,vI 0)] ?_;obtain⟨o0,ay,aB⟩:=zF N;refine zEt a0 b 0 o0 ay iR h h1 (λ_ _ _ h=>h) (λ_ _ h=>h) ?_ ?_
 ·intro I0  heq le;subst o0;refine zU<|zBu [(4,vY)]<|zH<|yF ?_;obtain rfl:=zB aB;exact xH
 intro r0 I9 hs9 m9 aC le9 aD;subst aC;refine zR<|zG ?_;obtain rfl:=zB aB;exact yV aD
def eB(a0:zI)(b:zI):Option (Bool):=do
 if(!(a0.Name.l==b.Name.l)) then
  pure false
 else
  let y<-fD a0.Dims b.Dims
  if(!y) then
   pure false
  else
   pure true
theorem zFs:∀a0 b r,eB a0 b=some r->∀{I:Imm}{p c p1 c1},(S4 I p a0.Dims c)->(S4 I p1 b.Dims c1)->RT 46 [vA (cArr a0 p c),vA (cArr b p1 c1)] I [] (zS  r):=by
 intro a0 b r N I p c p1 c1 h h1;unfold eB at N;refine yM func46 λB=>yJ<|uA (cArr a0 p c) ?_;intro b1 hb;refine uA (cArr b p1 c1) ?_;intro b2 hb1;refine yO [] []<|yE<|yJ<|yW [1,0] [9] rfl<|zH<|yD N ?_ ?_
 ·intro hc N;refine xZ [(4,vF)]<|yS<|zG ?_;obtain rfl:=zB N;exact xH
 intro hc N;refine zT<|yE<|yJ<|yR 4 [1,0] [11,13] rfl<|bE N λy hy N=>vJ (zCs a0.Dims b.Dims _ hy h h1) λI0 le=>yO [] [(15,.bool (!y))]<|zH<|yD N ?_ ?_
 ·intro aE N;refine xZ [(4,vF)]<|yS<|zG ?_;obtain rfl:=zB N;exact xH
 intro aE N;refine zT<|zBu [(4,vY)]<|zH<|yF ?_;obtain rfl:=zB N;exact xH
def rQ(a0:(List zI))(b:(List zI))(i:Int):Option (Out Unit (Bool)):=do
 if(decide (i<(a0.length:Int))) then
  let x<-idx a0 i
  let x1<-idx b i
  let y<-eB x x1
  if(!y) then
   pure (.ret false)
  else
   rQ a0 b (W (i+1))
 else
  pure (.done ())
 partial_fixpoint
theorem zDZ(a0:(List zI))(b:(List zI)):∀(i:Int) (o:Out Unit (Bool)),rQ a0 b i=some o->∀{B}{I0 I:Imm}{Q p c p1 c1},I0.le I->(S4 I p a0 c)->(S4 I p1 b c1)->NG Q->NO Q->(∀(I':Imm) ,o=(.done ())->I0.le I'->T 27 B Q (.exit 0) I' [] [])->(∀r I' aj m',o=(.ret r)->I0.le I'->RS Tryz.prog f22 B (zS  r) I' aj m'->T 27 B Q .ret I' aj m')->J Tryz.prog 27 B (nav (bodyOf f22) [1,1,0,1,0]) Q I [] [(0,vS p a0 c),(1,vS p1 b c1),(5,vI i)]:=by
 refine rQ.partial_correctness a0 b _ λaG ih i o N B I0 I Q p c p1 c1 H h h1 hg ho hx hr=>yK hg ho<|zM<|yG [14] rfl<|zH<|yD N ?_ ?_
 ·intro aE N;refine zT<|yE<|zZ<|zM ?_;obtain⟨x,hy,N⟩:=zF N;obtain⟨x1,aw,N⟩:=zF N;obtain⟨y,aI,N⟩:=zF N;refine uX [.p (vS p a0 c) [],.p (vI i) [],.x (ePArr x),.x (eVArr x),.p (vS p1 b c1) [],.p (vI i) [],.x (ePArr x1),.x (eVArr x1),.q (.bool y),.p (.bool (!y)) []] [[],[],[(0,false),(1,false)],[(2,false)],[],[],[(4,false),(5,false)],[(6,false)],[(3,false),(7,false)],[(8,false)]] [] [] [(9,false)] zO ?_ ?_
  ·refine Op<|Op<|Ox ?_<|Ox ?_<|Op<|Op<|Ox ?_<|Ox ?_<|Oq ?_<|Op<|On
   ·intro I1 hf ai;refine xV [17,18] rfl ?_;have h:=h.mono ai;refine xL rfl rfl h hy ?_;intro ad aF av aq;obtain⟨p2,c2,rfl,h2⟩:=wB aq;exact xU [] iR ⟨_,_,_,rfl,rfl,av,h2⟩
   ·rintro I1 hf ai _ _ ⟨ad,p2,c2,rfl,rfl,av,h2⟩;exact xV [19] rfl<|yY 0 av (cArr x p2 c2) (vA (cArr x p2 c2)) rfl<|xU [] iR ⟨_,_,rfl,rfl,h2⟩
   ·intro I1 hf ai;refine xV [21,22] rfl ?_;have h1:=h1.mono ai;refine xL rfl rfl h1 aw ?_;intro ad1 aY au aA;obtain⟨p3,c3,rfl,h3⟩:=wB aA;exact xU [] iR ⟨_,_,_,rfl,rfl,au,h3⟩
   ·rintro I1 hf ai _ _ ⟨ad1,p3,c3,rfl,rfl,au,h3⟩;exact xV [23] rfl<|yY 0 au (cArr x1 p3 c3) (vA (cArr x1 p3 c3)) rfl<|xU [] iR ⟨_,_,rfl,rfl,h3⟩
   rintro I1 hf ai _ _ ⟨p21,c21,rfl,rfl,h21⟩ _ _ ⟨p31,c31,rfl,rfl,h31⟩;refine xV [20,24] rfl ?_;have H:=iS I1;refine vJ (zFs x x1 _ aI h21 h31) ?_;intro I0 le;have H:=H.trans le;exact wD H
  intro aN ai;refine xV [0,1,5,26] rfl ?_;have ⟨h,h1,H⟩:=m3 ai h h1 H;refine zX rfl<|zH<|yD N ?_ ?_
  ·intro aQ N;exact xZ [(4,vF)]<|yS<|zR<|zG<|zG<|hr _ _ _ _ (zB N).symm H ⟨_,_,(.tmp rfl ResV.nil),zO,⟨_,rfl,rfl,rfl⟩⟩
  intro aQ N;exact zT<|zQ<|zH<|zE<|yW [] [5] rfl<|yL<|gJ<|ih (W (i+1)) _ N H h h1 hg ho hx hr
 intro aE N;exact uQ<|xM<|hx _  (zB N).symm H
def gV(a0:(List zI))(b:(List zI)):Option (Bool):=do
 if((a0.length:Int) != (b.length:Int)) then
  pure false
 else
  match<-rQ a0 b 0 with
  | .ret r0=>pure r0
  | .done _=>
   pure true
theorem zF2:∀a0 b r,gV a0 b=some r->∀{I:Imm}{p c p1 c1},(S4 I p a0 c)->(S4 I p1 b c1)->RT 22 [vS p a0 c,vS p1 b c1] I [] (zS  r):=by
 intro a0 b r N I p c p1 c1 h h1;unfold gV at N;refine yM func22 λB=>xZ []<|yE<|yG [10] rfl<|zH<|yD N ?_ ?_
 ·intro hc N;refine xZ [(4,vF)]<|yS<|zG ?_;obtain rfl:=zB N;exact xH
 intro hc N;refine zT<|yE<|yG [5] rfl<|uP<|rX [(0,vS p a0 c),(1,vS p1 b c1),(5,vI 0)] ?_;obtain⟨o0,ay,aB⟩:=zF N;refine zDZ a0 b 0 o0 ay iR h h1 (λ_ _ _ h=>h) (λ_ _ h=>h) ?_ ?_
 ·intro bf  heq ax;subst o0;refine zU<|zBu [(4,vY)]<|zH<|yF ?_;obtain rfl:=zB aB;exact xH
 intro r0 I9 hs9 m9 aC le9 aD;subst aC;refine zR<|zG ?_;obtain rfl:=zB aB;exact yV aD
def kI(a0:zC)(b:zC):Option (Bool):=do
 let y<-fD a0.Coefs b.Coefs
 if(!y) then
  pure false
 else
  if(a0.Const != b.Const) then
   pure false
  else
   pure true
theorem zBg:∀a0 b r,kI a0 b=some r->∀{I:Imm}{p c p1 c1},(S4 I p a0.Coefs c)->(S4 I p1 b.Coefs c1)->RT 172 [vA (cAff a0 p c),vA (cAff b p1 c1)] I [] (zS  r):=by
 intro a0 b r N I p c p1 c1 h h1;unfold kI at N;refine yM func172 λB=>yJ<|uA (cAff a0 p c) ?_;intro b1 hb;refine uA (cAff b p1 c1) ?_;intro b2 hb1;refine yO [] []<|yE<|yJ<|yR 4 [1,0] [6,8] rfl<|bE N λy hy N=>vJ (zCs a0.Coefs b.Coefs _ hy h h1) λI0 le=>yO [] [(10,.bool (!y))]<|zH<|yD N ?_ ?_
 ·intro hc N;refine xZ [(4,vF)]<|yS<|zG ?_;obtain rfl:=zB N;exact xH
 intro hc N;refine zT<|yE<|yJ<|yW [1,0] [15] rfl<|zH<|yD N ?_ ?_
 ·intro aE N;refine xZ [(4,vF)]<|yS<|zG ?_;obtain rfl:=zB N;exact xH
 intro aE N;refine zT<|zBu [(4,vY)]<|zH<|yF ?_;obtain rfl:=zB N;exact xH
def sO(a0:(List zC))(b:(List zC))(i:Int):Option (Out Unit (Bool)):=do
 if(decide (i<(a0.length:Int))) then
  let x<-idx a0 i
  let x1<-idx b i
  let y<-kI x x1
  if(!y) then
   pure (.ret false)
  else
   sO a0 b (W (i+1))
 else
  pure (.done ())
 partial_fixpoint
theorem zCt(a0:(List zC))(b:(List zC)):∀(i:Int) (o:Out Unit (Bool)),sO a0 b i=some o->∀{B}{I0 I:Imm}{Q p c p1 c1},I0.le I->(S4 I p a0 c)->(S4 I p1 b c1)->NG Q->NO Q->(∀(I':Imm) ,o=(.done ())->I0.le I'->T 27 B Q (.exit 0) I' [] [])->(∀r I' aj m',o=(.ret r)->I0.le I'->RS Tryz.prog f157 B (zS  r) I' aj m'->T 27 B Q .ret I' aj m')->J Tryz.prog 27 B (nav (bodyOf f157) [1,1,0,1,0]) Q I [] [(0,vS p a0 c),(1,vS p1 b c1),(5,vI i)]:=by
 refine sO.partial_correctness a0 b _ λaG ih i o N B I0 I Q p c p1 c1 H h h1 hg ho hx hr=>yK hg ho<|zM<|yG [14] rfl<|zH<|yD N ?_ ?_
 ·intro aE N;refine zT<|yE<|zZ<|zM ?_;obtain⟨x,hy,N⟩:=zF N;obtain⟨x1,aw,N⟩:=zF N;obtain⟨y,aI,N⟩:=zF N;refine uX [.p (vS p a0 c) [],.p (vI i) [],.x (ePAff x),.x (eVAff x),.p (vS p1 b c1) [],.p (vI i) [],.x (ePAff x1),.x (eVAff x1),.q (.bool y),.p (.bool (!y)) []] [[],[],[(0,false),(1,false)],[(2,false)],[],[],[(4,false),(5,false)],[(6,false)],[(3,false),(7,false)],[(8,false)]] [] [] [(9,false)] zO ?_ ?_
  ·refine Op<|Op<|Ox ?_<|Ox ?_<|Op<|Op<|Ox ?_<|Ox ?_<|Oq ?_<|Op<|On
   ·intro I1 hf ai;refine xV [17,18] rfl ?_;have h:=h.mono ai;refine xL rfl rfl h hy ?_;intro ad aF av aq;obtain⟨p2,c2,rfl,h2⟩:=yQ aq;exact xU [] iR ⟨_,_,_,rfl,rfl,av,h2⟩
   ·rintro I1 hf ai _ _ ⟨ad,p2,c2,rfl,rfl,av,h2⟩;exact xV [19] rfl<|yY 0 av (cAff x p2 c2) (vA (cAff x p2 c2)) rfl<|xU [] iR ⟨_,_,rfl,rfl,h2⟩
   ·intro I1 hf ai;refine xV [21,22] rfl ?_;have h1:=h1.mono ai;refine xL rfl rfl h1 aw ?_;intro ad1 aY au aA;obtain⟨p3,c3,rfl,h3⟩:=yQ aA;exact xU [] iR ⟨_,_,_,rfl,rfl,au,h3⟩
   ·rintro I1 hf ai _ _ ⟨ad1,p3,c3,rfl,rfl,au,h3⟩;exact xV [23] rfl<|yY 0 au (cAff x1 p3 c3) (vA (cAff x1 p3 c3)) rfl<|xU [] iR ⟨_,_,rfl,rfl,h3⟩
   rintro I1 hf ai _ _ ⟨p21,c21,rfl,rfl,h21⟩ _ _ ⟨p31,c31,rfl,rfl,h31⟩;refine xV [20,24] rfl ?_;have H:=iS I1;refine vJ (zBg x x1 _ aI h21 h31) ?_;intro I0 le;have H:=H.trans le;exact wD H
  intro aN ai;refine xV [0,1,5,26] rfl ?_;have ⟨h,h1,H⟩:=m3 ai h h1 H;refine zX rfl<|zH<|yD N ?_ ?_
  ·intro aQ N;exact xZ [(4,vF)]<|yS<|zR<|zG<|zG<|hr _ _ _ _ (zB N).symm H ⟨_,_,(.tmp rfl ResV.nil),zO,⟨_,rfl,rfl,rfl⟩⟩
  intro aQ N;exact zT<|zQ<|zH<|zE<|yW [] [5] rfl<|yL<|gJ<|ih (W (i+1)) _ N H h h1 hg ho hx hr
 intro aE N;exact uQ<|xM<|hx _  (zB N).symm H
def oA(a0:(List zC))(b:(List zC)):Option (Bool):=do
 if((a0.length:Int) != (b.length:Int)) then
  pure false
 else
  match<-sO a0 b 0 with
  | .ret r0=>pure r0
  | .done _=>
   pure true
theorem zAF:∀a0 b r,oA a0 b=some r->∀{I:Imm}{p c p1 c1},(S4 I p a0 c)->(S4 I p1 b c1)->RT 157 [vS p a0 c,vS p1 b c1] I [] (zS  r):=by
 intro a0 b r N I p c p1 c1 h h1;unfold oA at N;refine yM func157 λB=>xZ []<|yE<|yG [10] rfl<|zH<|yD N ?_ ?_
 ·intro hc N;refine xZ [(4,vF)]<|yS<|zG ?_;obtain rfl:=zB N;exact xH
 intro hc N;refine zT<|yE<|yG [5] rfl<|uP<|rX [(0,vS p a0 c),(1,vS p1 b c1),(5,vI 0)] ?_;obtain⟨o0,ay,aB⟩:=zF N;refine zCt a0 b 0 o0 ay iR h h1 (λ_ _ _ h=>h) (λ_ _ h=>h) ?_ ?_
 ·intro bf  heq ax;subst o0;refine zU<|zBu [(4,vY)]<|zH<|yF ?_;obtain rfl:=zB aB;exact xH
 intro r0 I9 hs9 m9 aC le9 aD;subst aC;refine zR<|zG ?_;obtain rfl:=zB aB;exact yV aD
def dI(a0:zL)(b:zL):Option (Bool):=do
 let y<-oA a0.Lo b.Lo
 if(!y) then
  pure false
 else
  let y1<-oA a0.Hi b.Hi
  if(!y1) then
   pure false
  else
   pure true
theorem zGa:∀a0 b r,dI a0 b=some r->∀{I:Imm}{p c p1 c1 p2 c2 p3 c3},(S4 I p a0.Lo c)->(S4 I p1 a0.Hi c1)->(S4 I p2 b.Lo c2)->(S4 I p3 b.Hi c3)->RT 129 [vA (cLoop a0 p c p1 c1),vA (cLoop b p2 c2 p3 c3)] I [] (zS  r):=by
 intro a0 b r N I p c p1 c1 p2 c2 p3 c3 h h1 h2 h3;unfold dI at N;refine yM func129 λB=>yJ<|uA (cLoop a0 p c p1 c1) ?_;intro b1 hb;refine uA (cLoop b p2 c2 p3 c3) ?_;intro b2 hb1;refine yO [] []<|yE<|yJ<|yR 4 [1,0] [6,8] rfl<|bE N λy hy N=>vJ (zAF a0.Lo b.Lo _ hy h h2) ?_;intro I0 le;have ⟨h3,h1⟩:=m2 le h3 h1;refine yW [] [10] rfl<|zH<|yD N ?_ ?_
 ·intro hc N;refine xZ [(4,vF)]<|yS<|zG ?_;obtain rfl:=zB N;exact xH
 intro hc N;refine zT<|yE<|yJ<|yR 4 [1,0] [12,14] rfl<|bE N λy1 aw N=>vJ (zAF a0.Hi b.Hi _ aw h1 h3) λaN ai=>yO [] [(16,.bool (!y1))]<|zH<|yD N ?_ ?_
 ·intro aE N;refine xZ [(4,vF)]<|yS<|zG ?_;obtain rfl:=zB N;exact xH
 intro aE N;refine zT<|zBu [(4,vY)]<|zH<|yF ?_;obtain rfl:=zB N;exact xH
def qU(a0:(List zL))(b:(List zL))(i:Int):Option (Out Unit (Bool)):=do
 if(decide (i<(a0.length:Int))) then
  let x<-idx a0 i
  let x1<-idx b i
  let y<-dI x x1
  if(!y) then
   pure (.ret false)
  else
   qU a0 b (W (i+1))
 else
  pure (.done ())
 partial_fixpoint
theorem zEE(a0:(List zL))(b:(List zL)):∀(i:Int) (o:Out Unit (Bool)),qU a0 b i=some o->∀{B}{I0 I:Imm}{Q p c p1 c1},I0.le I->(S4 I p a0 c)->(S4 I p1 b c1)->NG Q->NO Q->(∀(I':Imm) ,o=(.done ())->I0.le I'->T 27 B Q (.exit 0) I' [] [])->(∀r I' aj m',o=(.ret r)->I0.le I'->RS Tryz.prog f88 B (zS  r) I' aj m'->T 27 B Q .ret I' aj m')->J Tryz.prog 27 B (nav (bodyOf f88) [1,1,0,1,0]) Q I [] [(0,vS p a0 c),(1,vS p1 b c1),(5,vI i)]:=by
 refine qU.partial_correctness a0 b _ λaG ih i o N B I0 I Q p c p1 c1 H h h1 hg ho hx hr=>yK hg ho<|zM<|yG [14] rfl<|zH<|yD N ?_ ?_
 ·intro aE N;refine zT<|yE<|zZ<|zM ?_;obtain⟨x,hy,N⟩:=zF N;obtain⟨x1,aw,N⟩:=zF N;obtain⟨y,aI,N⟩:=zF N;refine uX [.p (vS p a0 c) [],.p (vI i) [],.x (ePLoop x),.x (eVLoop x),.p (vS p1 b c1) [],.p (vI i) [],.x (ePLoop x1),.x (eVLoop x1),.q (.bool y),.p (.bool (!y)) []] [[],[],[(0,false),(1,false)],[(2,false)],[],[],[(4,false),(5,false)],[(6,false)],[(3,false),(7,false)],[(8,false)]] [] [] [(9,false)] zO ?_ ?_
  ·refine Op<|Op<|Ox ?_<|Ox ?_<|Op<|Op<|Ox ?_<|Ox ?_<|Oq ?_<|Op<|On
   ·intro I1 hf ai;refine xV [17,18] rfl ?_;have h:=h.mono ai;refine xL rfl rfl h hy ?_;intro ad aF av aq;obtain⟨p2,c2,p3,c3,rfl,h2,h3⟩:=uD aq;exact xU [] iR ⟨_,_,_,_,_,rfl,rfl,av,h2,h3⟩
   ·rintro I1 hf ai _ _ ⟨ad,p2,c2,p3,c3,rfl,rfl,av,h2,h3⟩;exact xV [19] rfl<|yY 0 av (cLoop x p2 c2 p3 c3) (vA (cLoop x p2 c2 p3 c3)) rfl<|xU [] iR ⟨_,_,_,_,rfl,rfl,h2,h3⟩
   ·intro I1 hf ai;refine xV [21,22] rfl ?_;have h1:=h1.mono ai;refine xL rfl rfl h1 aw ?_;intro ad1 aY au aA;obtain⟨p4,c4,p5,c5,rfl,h4,h5⟩:=uD aA;exact xU [] iR ⟨_,_,_,_,_,rfl,rfl,au,h4,h5⟩
   ·rintro I1 hf ai _ _ ⟨ad1,p4,c4,p5,c5,rfl,rfl,au,h4,h5⟩;exact xV [23] rfl<|yY 0 au (cLoop x1 p4 c4 p5 c5) (vA (cLoop x1 p4 c4 p5 c5)) rfl<|xU [] iR ⟨_,_,_,_,rfl,rfl,h4,h5⟩
   rintro I1 hf ai _ _ ⟨p21,c21,p31,c31,rfl,rfl,h21,h31⟩ _ _ ⟨p41,c41,p51,c51,rfl,rfl,h41,h51⟩;refine xV [20,24] rfl ?_;have H:=iS I1;refine vJ (zGa x x1 _ aI h21 h31 h41 h51) ?_;intro I0 le;have H:=H.trans le;exact wD H
  intro aN ai;refine xV [0,1,5,26] rfl ?_;have ⟨h,h1,H⟩:=m3 ai h h1 H;refine zX rfl<|zH<|yD N ?_ ?_
  ·intro aQ N;exact xZ [(4,vF)]<|yS<|zR<|zG<|zG<|hr _ _ _ _ (zB N).symm H ⟨_,_,(.tmp rfl ResV.nil),zO,⟨_,rfl,rfl,rfl⟩⟩
  intro aQ N;exact zT<|zQ<|zH<|zE<|yW [] [5] rfl<|yL<|gJ<|ih (W (i+1)) _ N H h h1 hg ho hx hr
 intro aE N;exact uQ<|xM<|hx _  (zB N).symm H
def eC(a0:(List zL))(b:(List zL)):Option (Bool):=do
 if((a0.length:Int) != (b.length:Int)) then
  pure false
 else
  match<-qU a0 b 0 with
  | .ret r0=>pure r0
  | .done _=>
   pure true
theorem zFt:∀a0 b r,eC a0 b=some r->∀{I:Imm}{p c p1 c1},(S4 I p a0 c)->(S4 I p1 b c1)->RT 88 [vS p a0 c,vS p1 b c1] I [] (zS  r):=by
 intro a0 b r N I p c p1 c1 h h1;unfold eC at N;refine yM func88 λB=>xZ []<|yE<|yG [10] rfl<|zH<|yD N ?_ ?_
 ·intro hc N;refine xZ [(4,vF)]<|yS<|zG ?_;obtain rfl:=zB N;exact xH
 intro hc N;refine zT<|yE<|yG [5] rfl<|uP<|rX [(0,vS p a0 c),(1,vS p1 b c1),(5,vI 0)] ?_;obtain⟨o0,ay,aB⟩:=zF N;refine zEE a0 b 0 o0 ay iR h h1 (λ_ _ _ h=>h) (λ_ _ h=>h) ?_ ?_
 ·intro bf  heq ax;subst o0;refine zU<|zBu [(4,vY)]<|zH<|yF ?_;obtain rfl:=zB aB;exact xH
 intro r0 I9 hs9 m9 aC le9 aD;subst aC;refine zR<|zG ?_;obtain rfl:=zB aB;exact yV aD
def kJ(a0:zK)(b:zK):Option (Bool):=do
 if(!(a0.Array.l==b.Array.l)) then
  pure false
 else
  let y<-oA a0.Subs b.Subs
  if(!y) then
   pure false
  else
   pure true
theorem zBh:∀a0 b r,kJ a0 b=some r->∀{I:Imm}{p c p1 c1},(S4 I p a0.Subs c)->(S4 I p1 b.Subs c1)->RT 158 [vA (cAccess a0 p c),vA (cAccess b p1 c1)] I [] (zS  r):=by
 intro a0 b r N I p c p1 c1 h h1;unfold kJ at N;refine yM func158 λB=>yJ<|uA (cAccess a0 p c) ?_;intro b1 hb;refine uA (cAccess b p1 c1) ?_;intro b2 hb1;refine yO [] []<|yE<|yJ<|yW [1,0] [9] rfl<|zH<|yD N ?_ ?_
 ·intro hc N;refine xZ [(4,vF)]<|yS<|zG ?_;obtain rfl:=zB N;exact xH
 intro hc N;refine zT<|yE<|yJ<|yR 4 [1,0] [11,13] rfl<|bE N λy hy N=>vJ (zAF a0.Subs b.Subs _ hy h h1) λI0 le=>yO [] [(15,.bool (!y))]<|zH<|yD N ?_ ?_
 ·intro aE N;refine xZ [(4,vF)]<|yS<|zG ?_;obtain rfl:=zB N;exact xH
 intro aE N;refine zT<|zBu [(4,vY)]<|zH<|yF ?_;obtain rfl:=zB N;exact xH
mutual
def eD(a0:(List zD))(b:(List zD)):Option (Bool):=do
 if((a0.length:Int) != (b.length:Int)) then
  pure false
 else
  match<-oY (same a0) (same b) (same 0) with
  | .ret r0=>pure r0
  | .done _=>
   pure true
 partial_fixpoint
def oY(a0:(List zD))(b:(List zD))(i:Int):Option (Out Unit (Bool)):=do
 if(decide (i<(a0.length:Int))) then
  let x<-idx a0 i
  let x1<-idx b i
  let y<-oN (same x) (same x1)
  if(!y) then
   pure (.ret false)
  else
   oY (same a0) (same b) (W (i+1))
 else
  pure (.done ())
 partial_fixpoint
def oN(a0:zD)(b:zD):Option (Bool):=do
 if(a0.Kind != b.Kind) then
  pure false
 else
  if(a0.Num != b.Num) then
   pure false
  else
   let y<-kI a0.Index b.Index
   if(!y) then
    pure false
   else
    let y1<-kJ a0.Read b.Read
    if(!y1) then
     pure false
    else
     let y2<-eD a0.Kids b.Kids
     if(!y2) then
      pure false
     else
      pure true
 partial_fixpoint
end
theorem zF3:(∀(a0:(List zD)) (b:(List zD)) r,eD a0 b=some r->∀{I:Imm}{p c p1 c1},(S4 I p a0 c)->(S4 I p1 b c1)->RT 173 [vS p a0 c,vS p1 b c1] I [] (zS  r))/\(∀(a0:(List zD)) (b:(List zD)) (i:Int) o,oY a0 b i=some o->∀{B}{I0 I:Imm}{Q p c p1 c1},I0.le I->(S4 I p a0 c)->(S4 I p1 b c1)->NG Q->NO Q->(∀(I':Imm) ,o=(.done ())->I0.le I'->T 27 B Q (.exit 0) I' [] [])->(∀r I' aj m',o=(.ret r)->I0.le I'->RS Tryz.prog f173 B (zS  r) I' aj m'->T 27 B Q .ret I' aj m')->J Tryz.prog 27 B (nav (bodyOf f173) [1,1,0,1,0]) Q I [] [(0,vS p a0 c),(1,vS p1 b c1),(5,vI i)])/\(∀(a0:zD) (b:zD) r,oN a0 b=some r->∀{I:Imm}{p c p1 c1 p2 c2 p3 c3 p4 c4 p5 c5},(S4 I p a0.Index.Coefs c)->(S4 I p1 a0.Read.Subs c1)->(S4 I p2 a0.Kids c2)->(S4 I p3 b.Index.Coefs c3)->(S4 I p4 b.Read.Subs c4)->(S4 I p5 b.Kids c5)->RT 159 [vA (cExpr a0 p c p1 c1 p2 c2),vA (cExpr b p3 c3 p4 c4 p5 c5)] I [] (zS  r)):=by
 refine eD.mutual_partial_correctness _ _ _ ?_ ?_ ?_
 ·intro F_laws_eqExprS_l1 ih_laws_eqExprS_l1 a0 b r N I p c p1 c1 h h1;refine yM func173 λB=>xZ []<|yE<|yG [10] rfl<|zH<|yD N ?_ ?_
  ·intro hc N;refine xZ [(4,vF)]<|yS<|zG ?_;obtain rfl:=zB N;exact xH
  intro hc N;refine zT<|yE<|yG [5] rfl<|uP<|rX [(0,vS p a0 c),(1,vS p1 b c1),(5,vI 0)] ?_;obtain⟨o0,ay,aB⟩:=zF N;refine ih_laws_eqExprS_l1 a0 b 0 o0 ay iR h h1 (λ_ _ _ h=>h) (λ_ _ h=>h) ?_ ?_
  ·intro bf  heq ax;subst o0;refine zU<|zBu [(4,vY)]<|zH<|yF ?_;obtain rfl:=zB aB;exact xH
  intro r0 I9 hs9 m9 aC le9 aD;subst aC;refine zR<|zG ?_;obtain rfl:=zB aB;exact yV aD
 ·intro F_laws_eqExprS_l1 F_laws_eqExpr ih_laws_eqExprS_l1 ih_laws_eqExpr a0 b i o N B I0 I Q p c p1 c1 H h h1 hg ho hx hr;refine yK hg ho<|zM<|yG [14] rfl<|zH<|yD N ?_ ?_
  ·intro aE N;refine zT<|yE<|zZ<|zM ?_;obtain⟨x,hy,N⟩:=zF N;obtain⟨x1,aw,N⟩:=zF N;obtain⟨y,aI,N⟩:=zF N;refine uX [.p (vS p a0 c) [],.p (vI i) [],.x (ePExpr x),.x (eVExpr x),.p (vS p1 b c1) [],.p (vI i) [],.x (ePExpr x1),.x (eVExpr x1),.q (.bool y),.p (.bool (!y)) []] [[],[],[(0,false),(1,false)],[(2,false)],[],[],[(4,false),(5,false)],[(6,false)],[(3,false),(7,false)],[(8,false)]] [] [] [(9,false)] zO ?_ ?_
   ·refine Op<|Op<|Ox ?_<|Ox ?_<|Op<|Op<|Ox ?_<|Ox ?_<|Oq ?_<|Op<|On
    ·intro I1 hf ai;refine xV [17,18] rfl ?_;have h:=h.mono ai;refine xL rfl rfl h hy ?_;intro ad aF av aq;obtain⟨p2,c2,p3,c3,p4,c4,rfl,h2,h3,h4⟩:=yZ aq;exact xU [] iR ⟨_,_,_,_,_,_,_,rfl,rfl,av,h2,h3,h4⟩
    ·rintro I1 hf ai _ _ ⟨ad,p2,c2,p3,c3,p4,c4,rfl,rfl,av,h2,h3,h4⟩;exact xV [19] rfl<|yY 0 av (cExpr x p2 c2 p3 c3 p4 c4) (vA (cExpr x p2 c2 p3 c3 p4 c4)) rfl<|xU [] iR ⟨_,_,_,_,_,_,rfl,rfl,h2,h3,h4⟩
    ·intro I1 hf ai;refine xV [21,22] rfl ?_;have h1:=h1.mono ai;refine xL rfl rfl h1 aw ?_;intro ad1 aY au aA;obtain⟨p5,c5,p6,c6,p7,c7,rfl,h5,h6,h7⟩:=yZ aA;exact xU [] iR ⟨_,_,_,_,_,_,_,rfl,rfl,au,h5,h6,h7⟩
    ·rintro I1 hf ai _ _ ⟨ad1,p5,c5,p6,c6,p7,c7,rfl,rfl,au,h5,h6,h7⟩;exact xV [23] rfl<|yY 0 au (cExpr x1 p5 c5 p6 c6 p7 c7) (vA (cExpr x1 p5 c5 p6 c6 p7 c7)) rfl<|xU [] iR ⟨_,_,_,_,_,_,rfl,rfl,h5,h6,h7⟩
    rintro I1 hf ai _ _ ⟨p21,c21,p31,c31,p41,c41,rfl,rfl,h21,h31,h41⟩ _ _ ⟨p51,c51,p61,c61,p71,c71,rfl,rfl,h51,h61,h71⟩;refine xV [20,24] rfl ?_;have H:=iS I1;refine tG (ih_laws_eqExpr x x1 _ aI h21 h31 h41 h51 h61 h71) ?_;rintro I0 aK v2 k2 le - ⟨v06,rfl,rfl,rfl⟩ -;have H:=H.trans le;exact wD H
   intro aN ai;refine xV [0,1,5,26] rfl ?_;have ⟨h,h1,H⟩:=m3 ai h h1 H;refine zX rfl<|zH<|yD N ?_ ?_
   ·intro aQ N;exact xZ [(4,vF)]<|yS<|zR<|zG<|zG<|hr _ _ _ _ (zB N).symm H ⟨_,_,(.tmp rfl ResV.nil),zO,⟨_,rfl,rfl,rfl⟩⟩
   intro aQ N;exact zT<|zQ<|zH<|zE<|yW [] [5] rfl<|yL<|gJ<|ih_laws_eqExprS_l1 a0 b (W (i+1)) _ N H h h1 hg ho hx hr
  intro aE N;exact uQ<|xM<|hx _  (zB N).symm H
 intro F_laws_eqExprS ih_laws_eqExprS a0 b r N I p c p1 c1 p2 c2 p3 c3 p4 c4 p5 c5 h h1 h2 h3 h4 h5;refine yM func159 λB=>yJ<|uA (cExpr a0 p c p1 c1 p2 c2) ?_;intro b1 hb;refine uA (cExpr b p3 c3 p4 c4 p5 c5) ?_;intro b2 hb1;refine yO [] []<|yE<|yJ<|yW [1,0] [9] rfl<|zH<|yD N ?_ ?_
 ·intro hc N;refine xZ [(4,vF)]<|yS<|zG ?_;obtain rfl:=zB N;exact xH
 intro hc N;refine zT<|yE<|yJ<|yW [1,0] [14] rfl<|zH<|yD N ?_ ?_
 ·intro aE N;refine xZ [(4,vF)]<|yS<|zG ?_;obtain rfl:=zB N;exact xH
 intro aE N;refine zT<|yE<|yJ<|xF 4 [1,0] [(16,vA (cAff a0.Index p c)),(18,vA (cAff b.Index p3 c3))]<|bE N λy hy N=>vJ (zBg a0.Index b.Index _ hy h h3) ?_;intro I0 le;have ⟨h4,h5,h1,h2⟩:=m4 le h4 h5 h1 h2;refine yW [] [20] rfl<|zH<|yD N ?_ ?_
 ·intro aQ N;refine xZ [(4,vF)]<|yS<|zG ?_;obtain rfl:=zB N;exact xH
 intro aQ N;refine zT<|yE<|yJ<|xF 4 [1,0] [(22,vA (cAccess a0.Read p1 c1)),(24,vA (cAccess b.Read p4 c4))]<|bE N λy1 aw N=>vJ (zBh a0.Read b.Read _ aw h1 h4) ?_;intro aN ai;have ⟨h5,h2⟩:=m2 ai h5 h2;refine yW [] [26] rfl<|zH<|yD N ?_ ?_
 ·intro bp N;refine xZ [(4,vF)]<|yS<|zG ?_;obtain rfl:=zB N;exact xH
 intro bp N;refine zT<|yE<|yJ<|yR 4 [1,0] [28,30] rfl<|bE N λy2 aI N=>tG (ih_laws_eqExprS a0.Kids b.Kids _ aI h2 h5) ?_;rintro bf aK v2 k2 ax - ⟨v02,rfl,rfl,rfl⟩ -;refine yW [] [32] rfl<|zH<|yD N ?_ ?_
 ·intro bD N;refine xZ [(4,vF)]<|yS<|zG ?_;obtain rfl:=zB N;exact xH
 intro bD N;refine zT<|zBu [(4,vY)]<|zH<|yF ?_;obtain rfl:=zB N;exact xH
theorem zGb:∀a0 b r,oN a0 b=some r->∀{I:Imm}{p c p1 c1 p2 c2 p3 c3 p4 c4 p5 c5},(S4 I p a0.Index.Coefs c)->(S4 I p1 a0.Read.Subs c1)->(S4 I p2 a0.Kids c2)->(S4 I p3 b.Index.Coefs c3)->(S4 I p4 b.Read.Subs c4)->(S4 I p5 b.Kids c5)->RT 159 [vA (cExpr a0 p c p1 c1 p2 c2),vA (cExpr b p3 c3 p4 c4 p5 c5)] I [] (zS  r):=zF3.2.2
def dJ(a0:zJ)(b:zJ):Option (Bool):=do
 let y<-kJ a0.Write b.Write
 if(!y) then
  pure false
 else
  let y1<-oN a0.Value b.Value
  if(!y1) then
   pure false
  else
   pure true
theorem zGc:∀a0 b r,dJ a0 b=some r->∀{I:Imm}{p c p1 c1 p2 c2 p3 c3 p4 c4 p5 c5 p6 c6 p7 c7},(S4 I p a0.Write.Subs c)->(S4 I p1 a0.Value.Index.Coefs c1)->(S4 I p2 a0.Value.Read.Subs c2)->(S4 I p3 a0.Value.Kids c3)->(S4 I p4 b.Write.Subs c4)->(S4 I p5 b.Value.Index.Coefs c5)->(S4 I p6 b.Value.Read.Subs c6)->(S4 I p7 b.Value.Kids c7)->RT 130 [vA (cStmt a0 p c p1 c1 p2 c2 p3 c3),vA (cStmt b p4 c4 p5 c5 p6 c6 p7 c7)] I [] (zS  r):=by
 intro a0 b r N I p c p1 c1 p2 c2 p3 c3 p4 c4 p5 c5 p6 c6 p7 c7 h h1 h2 h3 h4 h5 h6 h7;unfold dJ at N;refine yM func130 λB=>yJ<|uA (cStmt a0 p c p1 c1 p2 c2 p3 c3) ?_;intro b1 hb;refine uA (cStmt b p4 c4 p5 c5 p6 c6 p7 c7) ?_;intro b2 hb1;refine yO [] []<|yE<|yJ<|xF 4 [1,0] [(6,vA (cAccess a0.Write p c)),(8,vA (cAccess b.Write p4 c4))]<|bE N λy hy N=>vJ (zBh a0.Write b.Write _ hy h h4) ?_;intro I0 le;have ⟨h5,h6,h7,h1,h2,h3⟩:=m6 le h5 h6 h7 h1 h2 h3;refine yW [] [10] rfl<|zH<|yD N ?_ ?_
 ·intro hc N;refine xZ [(4,vF)]<|yS<|zG ?_;obtain rfl:=zB N;exact xH
 intro hc N;refine zT<|yE<|yJ<|xF 4 [1,0] [(12,vA (cExpr a0.Value p1 c1 p2 c2 p3 c3)),(14,vA (cExpr b.Value p5 c5 p6 c6 p7 c7))]<|bE N λy1 aw N=>vJ (zGb a0.Value b.Value _ aw h1 h2 h3 h5 h6 h7) λaN ai=>yO [] [(16,.bool (!y1))]<|zH<|yD N ?_ ?_
 ·intro aE N;refine xZ [(4,vF)]<|yS<|zG ?_;obtain rfl:=zB N;exact xH
 intro aE N;refine zT<|zBu [(4,vY)]<|zH<|yF ?_;obtain rfl:=zB N;exact xH
def qV(a0:(List zJ))(b:(List zJ))(i:Int):Option (Out Unit (Bool)):=do
 if(decide (i<(a0.length:Int))) then
  let x<-idx a0 i
  let x1<-idx b i
  let y<-dJ x x1
  if(!y) then
   pure (.ret false)
  else
   qV a0 b (W (i+1))
 else
  pure (.done ())
 partial_fixpoint
theorem zEF(a0:(List zJ))(b:(List zJ)):∀(i:Int) (o:Out Unit (Bool)),qV a0 b i=some o->∀{B}{I0 I:Imm}{Q p c p1 c1},I0.le I->(S4 I p a0 c)->(S4 I p1 b c1)->NG Q->NO Q->(∀(I':Imm) ,o=(.done ())->I0.le I'->T 27 B Q (.exit 0) I' [] [])->(∀r I' aj m',o=(.ret r)->I0.le I'->RS Tryz.prog f89 B (zS  r) I' aj m'->T 27 B Q .ret I' aj m')->J Tryz.prog 27 B (nav (bodyOf f89) [1,1,0,1,0]) Q I [] [(0,vS p a0 c),(1,vS p1 b c1),(5,vI i)]:=by
 refine qV.partial_correctness a0 b _ λaG ih i o N B I0 I Q p c p1 c1 H h h1 hg ho hx hr=>yK hg ho<|zM<|yG [14] rfl<|zH<|yD N ?_ ?_
 ·intro aE N;refine zT<|yE<|zZ<|zM ?_;obtain⟨x,hy,N⟩:=zF N;obtain⟨x1,aw,N⟩:=zF N;obtain⟨y,aI,N⟩:=zF N;refine uX [.p (vS p a0 c) [],.p (vI i) [],.x (ePStmt x),.x (eVStmt x),.p (vS p1 b c1) [],.p (vI i) [],.x (ePStmt x1),.x (eVStmt x1),.q (.bool y),.p (.bool (!y)) []] [[],[],[(0,false),(1,false)],[(2,false)],[],[],[(4,false),(5,false)],[(6,false)],[(3,false),(7,false)],[(8,false)]] [] [] [(9,false)] zO ?_ ?_
  ·refine Op<|Op<|Ox ?_<|Ox ?_<|Op<|Op<|Ox ?_<|Ox ?_<|Oq ?_<|Op<|On
   ·intro I1 hf ai;refine xV [17,18] rfl ?_;have h:=h.mono ai;refine xL rfl rfl h hy ?_;intro ad aF av aq;obtain⟨p2,c2,p3,c3,p4,c4,p5,c5,rfl,h2,h3,h4,h5⟩:=xY aq;exact xU [] iR ⟨_,_,_,_,_,_,_,_,_,rfl,rfl,av,h2,h3,h4,h5⟩
   ·rintro I1 hf ai _ _ ⟨ad,p2,c2,p3,c3,p4,c4,p5,c5,rfl,rfl,av,h2,h3,h4,h5⟩;exact xV [19] rfl<|yY 0 av (cStmt x p2 c2 p3 c3 p4 c4 p5 c5) (vA (cStmt x p2 c2 p3 c3 p4 c4 p5 c5)) rfl<|xU [] iR ⟨_,_,_,_,_,_,_,_,rfl,rfl,h2,h3,h4,h5⟩
   ·intro I1 hf ai;refine xV [21,22] rfl ?_;have h1:=h1.mono ai;refine xL rfl rfl h1 aw ?_;intro ad1 aY au aA;obtain⟨p6,c6,p7,c7,p8,c8,p9,c9,rfl,h6,h7,h8,h9⟩:=xY aA;exact xU [] iR ⟨_,_,_,_,_,_,_,_,_,rfl,rfl,au,h6,h7,h8,h9⟩
   ·rintro I1 hf ai _ _ ⟨ad1,p6,c6,p7,c7,p8,c8,p9,c9,rfl,rfl,au,h6,h7,h8,h9⟩;exact xV [23] rfl<|yY 0 au (cStmt x1 p6 c6 p7 c7 p8 c8 p9 c9) (vA (cStmt x1 p6 c6 p7 c7 p8 c8 p9 c9)) rfl<|xU [] iR ⟨_,_,_,_,_,_,_,_,rfl,rfl,h6,h7,h8,h9⟩
   rintro I1 hf ai _ _ ⟨p21,c21,p31,c31,p41,c41,p51,c51,rfl,rfl,h21,h31,h41,h51⟩ _ _ ⟨p61,c61,p71,c71,p81,c81,p91,c91,rfl,rfl,h61,h71,h81,h91⟩;refine xV [20,24] rfl ?_;have H:=iS I1;refine vJ (zGc x x1 _ aI h21 h31 h41 h51 h61 h71 h81 h91) ?_;intro I0 le;have H:=H.trans le;exact wD H
  intro aN ai;refine xV [0,1,5,26] rfl ?_;have ⟨h,h1,H⟩:=m3 ai h h1 H;refine zX rfl<|zH<|yD N ?_ ?_
  ·intro aQ N;exact xZ [(4,vF)]<|yS<|zR<|zG<|zG<|hr _ _ _ _ (zB N).symm H ⟨_,_,(.tmp rfl ResV.nil),zO,⟨_,rfl,rfl,rfl⟩⟩
  intro aQ N;exact zT<|zQ<|zH<|zE<|yW [] [5] rfl<|yL<|gJ<|ih (W (i+1)) _ N H h h1 hg ho hx hr
 intro aE N;exact uQ<|xM<|hx _  (zB N).symm H
def eE(a0:(List zJ))(b:(List zJ)):Option (Bool):=do
 if((a0.length:Int) != (b.length:Int)) then
  pure false
 else
  match<-qV a0 b 0 with
  | .ret r0=>pure r0
  | .done _=>
   pure true
theorem zFu:∀a0 b r,eE a0 b=some r->∀{I:Imm}{p c p1 c1},(S4 I p a0 c)->(S4 I p1 b c1)->RT 89 [vS p a0 c,vS p1 b c1] I [] (zS  r):=by
 intro a0 b r N I p c p1 c1 h h1;unfold eE at N;refine yM func89 λB=>xZ []<|yE<|yG [10] rfl<|zH<|yD N ?_ ?_
 ·intro hc N;refine xZ [(4,vF)]<|yS<|zG ?_;obtain rfl:=zB N;exact xH
 intro hc N;refine zT<|yE<|yG [5] rfl<|uP<|rX [(0,vS p a0 c),(1,vS p1 b c1),(5,vI 0)] ?_;obtain⟨o0,ay,aB⟩:=zF N;refine zEF a0 b 0 o0 ay iR h h1 (λ_ _ _ h=>h) (λ_ _ h=>h) ?_ ?_
 ·intro bf  heq ax;subst o0;refine zU<|zBu [(4,vY)]<|zH<|yF ?_;obtain rfl:=zB aB;exact xH
 intro r0 I9 hs9 m9 aC le9 aD;subst aC;refine zR<|zG ?_;obtain rfl:=zB aB;exact yV aD
def dK(a0:zN)(b:zN):Option (Bool):=do
 let y<-eC a0.Nest b.Nest
 if(!y) then
  pure false
 else
  let y1<-eE a0.Body b.Body
  if(!y1) then
   pure false
  else
   pure true
theorem zGd:∀a0 b r,dK a0 b=some r->∀{I:Imm}{p c p1 c1 p2 c2 p3 c3},(S4 I p a0.Nest c)->(S4 I p1 a0.Body c1)->(S4 I p2 b.Nest c2)->(S4 I p3 b.Body c3)->RT 47 [vA (cPart a0 p c p1 c1),vA (cPart b p2 c2 p3 c3)] I [] (zS  r):=by
 intro a0 b r N I p c p1 c1 p2 c2 p3 c3 h h1 h2 h3;unfold dK at N;refine yM func47 λB=>yJ<|uA (cPart a0 p c p1 c1) ?_;intro b1 hb;refine uA (cPart b p2 c2 p3 c3) ?_;intro b2 hb1;refine yO [] []<|yE<|yJ<|yR 4 [1,0] [6,8] rfl<|bE N λy hy N=>vJ (zFt a0.Nest b.Nest _ hy h h2) ?_;intro I0 le;have ⟨h3,h1⟩:=m2 le h3 h1;refine yW [] [10] rfl<|zH<|yD N ?_ ?_
 ·intro hc N;refine xZ [(4,vF)]<|yS<|zG ?_;obtain rfl:=zB N;exact xH
 intro hc N;refine zT<|yE<|yJ<|yR 4 [1,0] [12,14] rfl<|bE N λy1 aw N=>vJ (zFu a0.Body b.Body _ aw h1 h3) λaN ai=>yO [] [(16,.bool (!y1))]<|zH<|yD N ?_ ?_
 ·intro aE N;refine xZ [(4,vF)]<|yS<|zG ?_;obtain rfl:=zB N;exact xH
 intro aE N;refine zT<|zBu [(4,vY)]<|zH<|yF ?_;obtain rfl:=zB N;exact xH
def qW(a0:(List zN))(b:(List zN))(i:Int):Option (Out Unit (Bool)):=do
 if(decide (i<(a0.length:Int))) then
  let x<-idx a0 i
  let x1<-idx b i
  let y<-dK x x1
  if(!y) then
   pure (.ret false)
  else
   qW a0 b (W (i+1))
 else
  pure (.done ())
 partial_fixpoint
theorem zEG(a0:(List zN))(b:(List zN)):∀(i:Int) (o:Out Unit (Bool)),qW a0 b i=some o->∀{B}{I0 I:Imm}{Q p c p1 c1},I0.le I->(S4 I p a0 c)->(S4 I p1 b c1)->NG Q->NO Q->(∀(I':Imm) ,o=(.done ())->I0.le I'->T 27 B Q (.exit 0) I' [] [])->(∀r I' aj m',o=(.ret r)->I0.le I'->RS Tryz.prog f23 B (zS  r) I' aj m'->T 27 B Q .ret I' aj m')->J Tryz.prog 27 B (nav (bodyOf f23) [1,1,0,1,0]) Q I [] [(0,vS p a0 c),(1,vS p1 b c1),(5,vI i)]:=by
 refine qW.partial_correctness a0 b _ λaG ih i o N B I0 I Q p c p1 c1 H h h1 hg ho hx hr=>yK hg ho<|zM<|yG [14] rfl<|zH<|yD N ?_ ?_
 ·intro aE N;refine zT<|yE<|zZ<|zM ?_;obtain⟨x,hy,N⟩:=zF N;obtain⟨x1,aw,N⟩:=zF N;obtain⟨y,aI,N⟩:=zF N;refine uX [.p (vS p a0 c) [],.p (vI i) [],.x (ePPart x),.x (eVPart x),.p (vS p1 b c1) [],.p (vI i) [],.x (ePPart x1),.x (eVPart x1),.q (.bool y),.p (.bool (!y)) []] [[],[],[(0,false),(1,false)],[(2,false)],[],[],[(4,false),(5,false)],[(6,false)],[(3,false),(7,false)],[(8,false)]] [] [] [(9,false)] zO ?_ ?_
  ·refine Op<|Op<|Ox ?_<|Ox ?_<|Op<|Op<|Ox ?_<|Ox ?_<|Oq ?_<|Op<|On
   ·intro I1 hf ai;refine xV [17,18] rfl ?_;have h:=h.mono ai;refine xL rfl rfl h hy ?_;intro ad aF av aq;obtain⟨p2,c2,p3,c3,rfl,h2,h3⟩:=qI aq;exact xU [] iR ⟨_,_,_,_,_,rfl,rfl,av,h2,h3⟩
   ·rintro I1 hf ai _ _ ⟨ad,p2,c2,p3,c3,rfl,rfl,av,h2,h3⟩;exact xV [19] rfl<|yY 0 av (cPart x p2 c2 p3 c3) (vA (cPart x p2 c2 p3 c3)) rfl<|xU [] iR ⟨_,_,_,_,rfl,rfl,h2,h3⟩
   ·intro I1 hf ai;refine xV [21,22] rfl ?_;have h1:=h1.mono ai;refine xL rfl rfl h1 aw ?_;intro ad1 aY au aA;obtain⟨p4,c4,p5,c5,rfl,h4,h5⟩:=qI aA;exact xU [] iR ⟨_,_,_,_,_,rfl,rfl,au,h4,h5⟩
   ·rintro I1 hf ai _ _ ⟨ad1,p4,c4,p5,c5,rfl,rfl,au,h4,h5⟩;exact xV [23] rfl<|yY 0 au (cPart x1 p4 c4 p5 c5) (vA (cPart x1 p4 c4 p5 c5)) rfl<|xU [] iR ⟨_,_,_,_,rfl,rfl,h4,h5⟩
   rintro I1 hf ai _ _ ⟨p21,c21,p31,c31,rfl,rfl,h21,h31⟩ _ _ ⟨p41,c41,p51,c51,rfl,rfl,h41,h51⟩;refine xV [20,24] rfl ?_;have H:=iS I1;refine vJ (zGd x x1 _ aI h21 h31 h41 h51) ?_;intro I0 le;have H:=H.trans le;exact wD H
  intro aN ai;refine xV [0,1,5,26] rfl ?_;have ⟨h,h1,H⟩:=m3 ai h h1 H;refine zX rfl<|zH<|yD N ?_ ?_
  ·intro aQ N;exact xZ [(4,vF)]<|yS<|zR<|zG<|zG<|hr _ _ _ _ (zB N).symm H ⟨_,_,(.tmp rfl ResV.nil),zO,⟨_,rfl,rfl,rfl⟩⟩
  intro aQ N;exact zT<|zQ<|zH<|zE<|yW [] [5] rfl<|yL<|gJ<|ih (W (i+1)) _ N H h h1 hg ho hx hr
 intro aE N;exact uQ<|xM<|hx _  (zB N).symm H
def eF(a0:(List zN))(b:(List zN)):Option (Bool):=do
 if((a0.length:Int) != (b.length:Int)) then
  pure false
 else
  match<-qW a0 b 0 with
  | .ret r0=>pure r0
  | .done _=>
   pure true
theorem zFv:∀a0 b r,eF a0 b=some r->∀{I:Imm}{p c p1 c1},(S4 I p a0 c)->(S4 I p1 b c1)->RT 23 [vS p a0 c,vS p1 b c1] I [] (zS  r):=by
 intro a0 b r N I p c p1 c1 h h1;unfold eF at N;refine yM func23 λB=>xZ []<|yE<|yG [10] rfl<|zH<|yD N ?_ ?_
 ·intro hc N;refine xZ [(4,vF)]<|yS<|zG ?_;obtain rfl:=zB N;exact xH
 intro hc N;refine zT<|yE<|yG [5] rfl<|uP<|rX [(0,vS p a0 c),(1,vS p1 b c1),(5,vI 0)] ?_;obtain⟨o0,ay,aB⟩:=zF N;refine zEG a0 b 0 o0 ay iR h h1 (λ_ _ _ h=>h) (λ_ _ h=>h) ?_ ?_
 ·intro bf  heq ax;subst o0;refine zU<|zBu [(4,vY)]<|zH<|yF ?_;obtain rfl:=zB aB;exact xH
 intro r0 I9 hs9 m9 aC le9 aD;subst aC;refine zR<|zG ?_;obtain rfl:=zB aB;exact yV aD
def qE(a0:zV)(b:zV):Option (Bool):=do
 let y<-gV a0.Arrays b.Arrays
 if(!y) then
  pure false
 else
  let y1<-eF a0.Parts b.Parts
  if(!y1) then
   pure false
  else
   pure true
theorem fP:∀a0 b r,qE a0 b=some r->∀{I:Imm}{p c p1 c1 p2 c2 p3 c3},(S4 I p a0.Arrays c)->(S4 I p1 a0.Parts c1)->(S4 I p2 b.Arrays c2)->(S4 I p3 b.Parts c3)->RT 8 [vA (cProg a0 p c p1 c1),vA (cProg b p2 c2 p3 c3)] I [] (zS  r):=by
 intro a0 b r N I p c p1 c1 p2 c2 p3 c3 h h1 h2 h3;unfold qE at N;refine yM func8 λB=>yJ<|uA (cProg a0 p c p1 c1) ?_;intro b1 hb;refine uA (cProg b p2 c2 p3 c3) ?_;intro b2 hb1;refine yO [] []<|yE<|yJ<|yR 4 [1,0] [6,8] rfl<|bE N λy hy N=>vJ (zF2 a0.Arrays b.Arrays _ hy h h2) ?_;intro I0 le;have ⟨h3,h1⟩:=m2 le h3 h1;refine yW [] [10] rfl<|zH<|yD N ?_ ?_
 ·intro hc N;refine xZ [(4,vF)]<|yS<|zG ?_;obtain rfl:=zB N;exact xH
 intro hc N;refine zT<|yE<|yJ<|yR 4 [1,0] [12,14] rfl<|bE N λy1 aw N=>vJ (zFv a0.Parts b.Parts _ aw h1 h3) λaN ai=>yO [] [(16,.bool (!y1))]<|zH<|yD N ?_ ?_
 ·intro aE N;refine xZ [(4,vF)]<|yS<|zG ?_;obtain rfl:=zB N;exact xH
 intro aE N;refine zT<|zBu [(4,vY)]<|zH<|yF ?_;obtain rfl:=zB N;exact xH
def zEH(r:Str):KT:=λkk I' aj v=>
 ∃v0,aj=[]/\v=tupV [v0]/\v0=.string ⟨⟨r.l⟩⟩
def rR(k01:Int)(out:Str):Option (Str):=do
 if(decide (k01>0)) then
  let s<-cat (⟨([(u8 (W (48+(k01.tmod 10))))]:List UInt8)⟩:Str) out
  rR (W (k01.tdiv 10)) s
 else
  pure (id out)
 partial_fixpoint
theorem zD0 :∀(k01:Int) (out:Str) (o:Str),rR k01 out=some o->∀{B}{I0 I:Imm}{Q}  ,I0.le I->NG Q->NO Q->(∀(I':Imm) (ak:Str),o=ak->I0.le I'->T 20 B Q (.exit 0) I' [] [(3,vT ak.l)])->J Tryz.prog 20 B (nav (bodyOf f48) [1,1,1,0,0]) Q I [] [(0,vI k01),(3,vT out.l)]:=by
 refine rR.partial_correctness  _ λaG ih k01 out o N B I0 I Q H hg ho hx=>yK hg ho<|zM<|yG [7] rfl<|zH<|yD N ?_ ?_
 ·intro aE N;refine zT<|uP<|yJ<|yR 3 [] [10] rfl<|zLY (d:=11) (i:=(W (48+(k01.tmod 10)))) rfl (by kernel_rfl)<|jJ [.int .u8 ((u8 (W (48+(k01.tmod 10)))).toNat:Int)] UInt8 ?_;intro b hb;have h:RL I [.int .u8 ((u8 (W (48+(k01.tmod 10)))).toNat:Int)] ([(u8 (W (48+(k01.tmod 10))))]:List UInt8):=⟨[.int .u8 ((u8 (W (48+(k01.tmod 10)))).toNat:Int)],_,rfl,rfl,rfl,rfl⟩;exact zK3 (l:=([(u8 (W (48+(k01.tmod 10))))]:List UInt8)) rfl rfl rfl rfl (by kernel_rfl) (by kernel_rfl) (.inr ⟨0,rfl⟩) h<|yR 7 [] [14] rfl<|bE N λs hy N=>zLG rfl hy<|yW [] [3] rfl<|zH<|zE<|yW [] [0] rfl<|zQ<|yL<|kU zO<|gJ<|ih (W (k01.tdiv 10)) s _ N H  hg ho hx
 intro aE N;exact uQ<|xM<|hx _ _ (zB N).symm H
def uH(k0:Int):Option (Str):=do
 if(decide (k0<=0)) then
  pure (⟨[109,48]⟩:Str)
 else
  let ak<-rR k0 (⟨[]⟩:Str)
  let s1<-cat (⟨[109]⟩:Str) ak
  pure (id s1)
theorem qF:∀k0 r,uH k0=some r->∀{I:Imm} ,RT 48 [vI k0] I [] (zEH  r):=by
 intro k0 r N I;unfold uH at N;refine yM func48 λB=>xZ []<|yE<|yG [5] rfl<|zH<|yD N ?_ ?_
 ·intro hc N;refine yG [2] rfl<|yS<|zG ?_;obtain rfl:=zB N;exact xH
 intro hc N;refine zT<|wJ [3] rfl<|yE<|zZ<|rX [(0,vI k0),(3,vT ([]))] ?_;obtain⟨o0,ay,aB⟩:=zF N;refine zD0 k0 (⟨[]⟩:Str) o0 ay iR  (λ_ _ _ h=>h) (λ_ _ h=>h) ?_;intro I0 ak heq le;subst o0;refine zU<|wG<|yR 1 [] [18] rfl ?_;obtain⟨s1,aw,N⟩:=zF aB;refine zLG rfl aw<|yW [] [2] rfl<|zH<|yF ?_;obtain rfl:=zB N;exact xH
def rS(a0:(List Int))(k01:Int)(i:Int):Option (Out Int (Int)):=do
 if(decide (i<(a0.length:Int))) then
  let x<-idx a0 i
  if(x != k01) then
   pure (.ret (-1))
  else
   rS a0 (W (k01+1)) (W (i+1))
 else
  pure (.done k01)
 partial_fixpoint
theorem zD1(a0:(List Int)):∀(k01:Int) (i:Int) (o:Out Int (Int)),rS a0 k01 i=some o->∀{B}{I0 I:Imm}{Q p c},I0.le I->(S4 I p a0 c)->NG Q->NO Q->(∀(I':Imm) (k02:Int),o=(.done k02)->I0.le I'->T 21 B Q (.exit 0) I' [] [(1,vI k02)])->(∀r I' aj m',o=(.ret r)->I0.le I'->RS Tryz.prog f52 B (zW  r) I' aj m'->T 21 B Q .ret I' aj m')->J Tryz.prog 21 B (nav (bodyOf f52) [1,0,1,0]) Q I [] [(0,vS p a0 c),(1,vI k01),(5,vI i)]:=by
 refine rS.partial_correctness a0 _ λaG ih k01 i o N B I0 I Q p c H h hg ho hx hr=>yK hg ho<|zM<|yG [9] rfl<|zH<|yD N ?_ ?_
 ·intro hc N;refine zT<|yE<|zZ<|zM<|yJ<|yR 2 [] [12,13] rfl<|bE N λx hy N=>xL rfl rfl h hy ?_;intro ad aF av aq;obtain rfl:=aq;refine yY 0 av [vI x] (vI x) rfl<|yW [] [17] rfl<|zH<|yD N ?_ ?_
  ·intro aE N;exact yG [4] rfl<|yS<|zG<|zR<|zG<|zG<|hr _ _ _ _ (zB N).symm H ⟨_,_,(.tmp rfl ResV.nil),zO,⟨_,rfl,rfl,rfl⟩⟩
  intro aE N;exact zT<|zH<|zE<|yW [] [1] rfl<|zQ<|zH<|zE<|yW [] [5] rfl<|yL<|gJ<|ih (W (k01+1)) (W (i+1)) _ N H h hg ho hx hr
 intro hc N;exact uQ<|xM<|hx _ _ (zB N).symm H
def pM(a0:(List Int))(k0:Int):Option (Int):=do
 match<-rS a0 k0 0 with
 | .ret r0=>pure r0
 | .done k02=>
  pure (id k02)
theorem eV:∀a0 k0 r,pM a0 k0=some r->∀{I:Imm}{p c},(S4 I p a0 c)->RT 52 [vS p a0 c,vI k0] I [] (zW  r):=by
 intro a0 k0 r N I p c h;unfold pM at N;refine yM func52 λB=>xZ []<|yE<|yG [5] rfl<|uP<|rX [(0,vS p a0 c),(1,vI k0),(5,vI 0)] ?_;obtain⟨o0,ay,aB⟩:=zF N;refine zD1 a0 k0 0 o0 ay iR h (λ_ _ _ h=>h) (λ_ _ h=>h) ?_ ?_
 ·intro I0 k02 heq le;subst o0;refine zU<|wJ [4] rfl<|zH<|yF ?_;obtain rfl:=zB aB;exact xH
 intro r0 I9 hs9 m9 aC le9 aD;subst aC;refine zR<|zG ?_;obtain rfl:=zB aB;exact yV aD
def tW(a0:(List zI))(k01:Int)(i:Int):Option (Out Int (Int)):=do
 if(decide (i<(a0.length:Int))) then
  let x<-idx a0 i
  let y<-uH k01
  if(!(x.Name.l==y.l)) then
   pure (.ret (-1))
  else
   let x1<-idx a0 i
   let y1<-pM x1.Dims (W (k01+1))
   if(decide (y1<0)) then
    pure (.ret (-1))
   else
    tW a0 y1 (W (i+1))
 else
  pure (.done k01)
 partial_fixpoint
theorem zC1(a0:(List zI)):∀(k01:Int) (i:Int) (o:Out Int (Int)),tW a0 k01 i=some o->∀{B}{I0 I:Imm}{Q p c},I0.le I->(S4 I p a0 c)->NG Q->NO Q->(∀(I':Imm) (k02:Int),o=(.done k02)->I0.le I'->T 32 B Q (.exit 0) I' [] [(1,vI k02)])->(∀r I' aj m',o=(.ret r)->I0.le I'->RS Tryz.prog f26 B (zW  r) I' aj m'->T 32 B Q .ret I' aj m')->J Tryz.prog 32 B (nav (bodyOf f26) [1,0,1,0]) Q I [] [(0,vS p a0 c),(1,vI k01),(5,vI i)]:=by
 refine tW.partial_correctness a0 _ λaG ih k01 i o N B I0 I Q p c H h hg ho hx hr=>yK hg ho<|zM<|yG [9] rfl<|zH<|yD N ?_ ?_
 ·intro hc N;refine zT<|yE<|zZ<|zM<|zM ?_;obtain⟨x,hy,N⟩:=zF N;obtain⟨y,aw,N⟩:=zF N;refine uX [.p (vS p a0 c) [],.p (vI i) [],.x (ePArr x),.x (ePArr x),.q (vT x.Name.l),.p (vI k01) [],.q (vT y.l),.p (.bool (!(x.Name.l==y.l))) []] [[],[],[(0,false),(1,false)],[(2,false)],[(3,false)],[],[(5,false)],[(4,false),(6,false)]] [] [] [(7,false)] zO ?_ ?_
  ·refine Op<|Op<|Ox ?_<|Ox ?_<|Oq ?_<|Op<|Oq ?_<|Op<|On
   ·intro I1 hf ai;refine xV [12,13] rfl ?_;have h:=h.mono ai;refine xL rfl rfl h hy ?_;intro ad aF av aq;obtain⟨p1,c1,rfl,h1⟩:=wB aq;exact xU [] iR ⟨_,_,_,rfl,rfl,av,h1⟩
   ·rintro I1 hf ai _ _ ⟨ad,p1,c1,rfl,rfl,av,h1⟩;exact xV [14] rfl<|nP 4 [(15,.pointer (some ad))]<|xU [] iR ⟨_,_,_,rfl,rfl,av,h1⟩
   ·rintro I1 hf ai _ _ ⟨ad1,a7,a6,rfl,rfl,au,h11⟩;exact xV [15] rfl<|yY 0 au [vT x.Name.l] (vT x.Name.l) rfl<|wD iR
   intro I1 hf ai;refine xV [17] rfl ?_;have H:=iS I1;refine tG (qF k01 _ aw ) ?_;rintro I0 aK v2 k2 le - ⟨v01,rfl,rfl,rfl⟩ -;have H:=H.trans le;exact wD H
  intro aN ai;refine xV [0,1,5,19] rfl ?_;have ⟨h,H⟩:=m2 ai h H;refine zX rfl<|zH<|yD N ?_ ?_
  ·intro aE N;exact yG [4] rfl<|yS<|zG<|zR<|zG<|zG<|hr _ _ _ _ (zB N).symm H ⟨_,_,(.tmp rfl ResV.nil),zO,⟨_,rfl,rfl,rfl⟩⟩
  intro aE N;refine zT<|wJ [1] rfl<|wG<|yR 2 [] [22,23] rfl<|bE N λx1 aI N=>xL rfl rfl h aI ?_;intro ad2 aY aS aA;obtain⟨p2,c2,rfl,h3⟩:=wB aA;refine yR 4 [] [25] rfl<|yY 1 aS [vS p2 x1.Dims c2] (vS p2 x1.Dims c2) rfl<|yR 6 [] [27] rfl<|bE N λy1 aW N=>qJ (eV x1.Dims (W (k01+1)) _ aW h3) ?_;intro bf ax;have ⟨h,H⟩:=m2 ax h H;refine yW [] [1] rfl<|wJ [30] rfl<|zH<|yD N ?_ ?_
  ·intro aQ N;exact yG [4] rfl<|yS<|zR<|zG<|zG<|hr _ _ _ _ (zB N).symm H ⟨_,_,(.tmp rfl ResV.nil),zO,⟨_,rfl,rfl,rfl⟩⟩
  intro aQ N;exact zT<|zQ<|zH<|zE<|yW [] [5] rfl<|yL<|gJ<|ih y1 (W (i+1)) _ N H h hg ho hx hr
 intro hc N;exact uQ<|xM<|hx _ _ (zB N).symm H
def jB(a0:(List zI))(k0:Int):Option (Int):=do
 match<-tW a0 k0 0 with
 | .ret r0=>pure r0
 | .done k02=>
  pure (id k02)
theorem zEI:∀a0 k0 r,jB a0 k0=some r->∀{I:Imm}{p c},(S4 I p a0 c)->RT 26 [vS p a0 c,vI k0] I [] (zW  r):=by
 intro a0 k0 r N I p c h;unfold jB at N;refine yM func26 λB=>xZ []<|yE<|yG [5] rfl<|uP<|rX [(0,vS p a0 c),(1,vI k0),(5,vI 0)] ?_;obtain⟨o0,ay,aB⟩:=zF N;refine zC1 a0 k0 0 o0 ay iR h (λ_ _ _ h=>h) (λ_ _ h=>h) ?_ ?_
 ·intro bq k02 heq aR;subst o0;refine zU<|wJ [4] rfl<|zH<|yF ?_;obtain rfl:=zB aB;exact xH
 intro r0 I9 hs9 m9 aC le9 aD;subst aC;refine zR<|zG ?_;obtain rfl:=zB aB;exact yV aD
def tK(a0:(List zC))(k01:Int)(i:Int):Option (Out Int (Int)):=do
 if(decide (i<(a0.length:Int))) then
  let x<-idx a0 i
  let y<-pM x.Coefs k01
  if(decide (y<0)) then
   pure (.ret (-1))
  else
   let x1<-idx a0 i
   if(x1.Const != y) then
    pure (.ret (-1))
   else
    tK a0 (W (y+1)) (W (i+1))
 else
  pure (.done k01)
 partial_fixpoint
theorem zCD(a0:(List zC)):∀(k01:Int) (i:Int) (o:Out Int (Int)),tK a0 k01 i=some o->∀{B}{I0 I:Imm}{Q p c},I0.le I->(S4 I p a0 c)->NG Q->NO Q->(∀(I':Imm) (k02:Int),o=(.done k02)->I0.le I'->T 31 B Q (.exit 0) I' [] [(1,vI k02)])->(∀r I' aj m',o=(.ret r)->I0.le I'->RS Tryz.prog f92 B (zW  r) I' aj m'->T 31 B Q .ret I' aj m')->J Tryz.prog 31 B (nav (bodyOf f92) [1,0,1,0]) Q I [] [(0,vS p a0 c),(1,vI k01),(5,vI i)]:=by
 refine tK.partial_correctness a0 _ λaG ih k01 i o N B I0 I Q p c H h hg ho hx hr=>yK hg ho<|zM<|yG [9] rfl<|zH<|yD N ?_ ?_
 ·intro hc N;refine zT<|yE<|zZ<|yJ<|yR 2 [] [12,13] rfl<|bE N λx hy N=>xL rfl rfl h hy ?_;intro ad aF av aq;obtain⟨p1,c1,rfl,h1⟩:=yQ aq;refine yR 4 [] [15] rfl<|yY 0 av [vS p1 x.Coefs c1] (vS p1 x.Coefs c1) rfl<|yR 6 [] [17] rfl<|bE N λy aw N=>qJ (eV x.Coefs k01 _ aw h1) ?_;intro I0 le;have ⟨h,H⟩:=m2 le h H;refine yW [] [1] rfl<|yE<|yG [20] rfl<|zH<|yD N ?_ ?_
  ·intro aE N;exact yG [4] rfl<|yS<|zG<|zR<|zG<|zG<|hr _ _ _ _ (zB N).symm H ⟨_,_,(.tmp rfl ResV.nil),zO,⟨_,rfl,rfl,rfl⟩⟩
  intro aE N;refine zT<|yE<|yJ<|yR 2 [] [21,22] rfl<|bE N λx1 aI N=>xL rfl rfl h aI ?_;intro ad1 aY au aA;obtain⟨p2,c2,rfl,h3⟩:=yQ aA;refine yR 4 [] [24] rfl<|yY 1 au [vI x1.Const] (vI x1.Const) rfl<|yW [] [27] rfl<|zH<|yD N ?_ ?_
  ·intro aQ N;exact yG [4] rfl<|yS<|zG<|zR<|zG<|zG<|hr _ _ _ _ (zB N).symm H ⟨_,_,(.tmp rfl ResV.nil),zO,⟨_,rfl,rfl,rfl⟩⟩
  intro aQ N;exact zT<|zH<|zE<|yW [] [1] rfl<|zQ<|zH<|zE<|yW [] [5] rfl<|yL<|gJ<|ih (W (y+1)) (W (i+1)) _ N H h hg ho hx hr
 intro hc N;exact uQ<|xM<|hx _ _ (zB N).symm H
def uW(a0:(List zC))(k0:Int):Option (Int):=do
 match<-tK a0 k0 0 with
 | .ret r0=>pure r0
 | .done k02=>
  pure (id k02)
theorem nK:∀a0 k0 r,uW a0 k0=some r->∀{I:Imm}{p c},(S4 I p a0 c)->RT 92 [vS p a0 c,vI k0] I [] (zW  r):=by
 intro a0 k0 r N I p c h;unfold uW at N;refine yM func92 λB=>xZ []<|yE<|yG [5] rfl<|uP<|rX [(0,vS p a0 c),(1,vI k0),(5,vI 0)] ?_;obtain⟨o0,ay,aB⟩:=zF N;refine zCD a0 k0 0 o0 ay iR h (λ_ _ _ h=>h) (λ_ _ h=>h) ?_ ?_
 ·intro aN k02 heq ai;subst o0;refine zU<|wJ [4] rfl<|zH<|yF ?_;obtain rfl:=zB aB;exact xH
 intro r0 I9 hs9 m9 aC le9 aD;subst aC;refine zR<|zG ?_;obtain rfl:=zB aB;exact yV aD
def sP(a0:(List zL))(k01:Int)(i:Int):Option (Out Int (Int)):=do
 if(decide (i<(a0.length:Int))) then
  let x<-idx a0 i
  let y<-uW x.Lo k01
  if(decide (y<0)) then
   pure (.ret (-1))
  else
   let x1<-idx a0 i
   let y1<-uW x1.Hi y
   if(decide (y1<0)) then
    pure (.ret (-1))
   else
    sP a0 y1 (W (i+1))
 else
  pure (.done k01)
 partial_fixpoint
theorem zCu(a0:(List zL)):∀(k01:Int) (i:Int) (o:Out Int (Int)),sP a0 k01 i=some o->∀{B}{I0 I:Imm}{Q p c},I0.le I->(S4 I p a0 c)->NG Q->NO Q->(∀(I':Imm) (k02:Int),o=(.done k02)->I0.le I'->T 31 B Q (.exit 0) I' [] [(1,vI k02)])->(∀r I' aj m',o=(.ret r)->I0.le I'->RS Tryz.prog f53 B (zW  r) I' aj m'->T 31 B Q .ret I' aj m')->J Tryz.prog 31 B (nav (bodyOf f53) [1,0,1,0]) Q I [] [(0,vS p a0 c),(1,vI k01),(5,vI i)]:=by
 refine sP.partial_correctness a0 _ λaG ih k01 i o N B I0 I Q p c H h hg ho hx hr=>yK hg ho<|zM<|yG [9] rfl<|zH<|yD N ?_ ?_
 ·intro hc N;refine zT<|yE<|zZ<|yJ<|yR 2 [] [12,13] rfl<|bE N λx hy N=>xL rfl rfl h hy ?_;intro ad aF av aq;obtain⟨p1,c1,p2,c2,rfl,h1,h2⟩:=uD aq;refine yR 4 [] [15] rfl<|yY 0 av [vS p1 x.Lo c1] (vS p1 x.Lo c1) rfl<|yR 6 [] [17] rfl<|bE N λy aw N=>qJ (nK x.Lo k01 _ aw h1) ?_;intro I0 le;have ⟨h,H⟩:=m2 le h H;refine yW [] [1] rfl<|yE<|yG [20] rfl<|zH<|yD N ?_ ?_
  ·intro aE N;exact yG [4] rfl<|yS<|zG<|zR<|zG<|zG<|hr _ _ _ _ (zB N).symm H ⟨_,_,(.tmp rfl ResV.nil),zO,⟨_,rfl,rfl,rfl⟩⟩
  intro aE N;refine zT<|wG<|yR 2 [] [21,22] rfl<|bE N λx1 aI N=>xL rfl rfl h aI ?_;intro ad1 aY au aA;obtain⟨p3,c3,p4,c4,rfl,h4,h5⟩:=uD aA;refine yR 4 [] [24] rfl<|yY 1 au [vS p4 x1.Hi c4] (vS p4 x1.Hi c4) rfl<|yR 6 [] [26] rfl<|bE N λy1 aW N=>qJ (nK x1.Hi y _ aW h5) ?_;intro aN ai;have ⟨h,H⟩:=m2 ai h H;refine yW [] [1] rfl<|wJ [29] rfl<|zH<|yD N ?_ ?_
  ·intro aQ N;exact yG [4] rfl<|yS<|zR<|zG<|zG<|hr _ _ _ _ (zB N).symm H ⟨_,_,(.tmp rfl ResV.nil),zO,⟨_,rfl,rfl,rfl⟩⟩
  intro aQ N;exact zT<|zQ<|zH<|zE<|yW [] [5] rfl<|yL<|gJ<|ih y1 (W (i+1)) _ N H h hg ho hx hr
 intro hc N;exact uQ<|xM<|hx _ _ (zB N).symm H
def jT(a0:(List zL))(k0:Int):Option (Int):=do
 match<-sP a0 k0 0 with
 | .ret r0=>pure r0
 | .done k02=>
  pure (id k02)
theorem zEu:∀a0 k0 r,jT a0 k0=some r->∀{I:Imm}{p c},(S4 I p a0 c)->RT 53 [vS p a0 c,vI k0] I [] (zW  r):=by
 intro a0 k0 r N I p c h;unfold jT at N;refine yM func53 λB=>xZ []<|yE<|yG [5] rfl<|uP<|rX [(0,vS p a0 c),(1,vI k0),(5,vI 0)] ?_;obtain⟨o0,ay,aB⟩:=zF N;refine zCu a0 k0 0 o0 ay iR h (λ_ _ _ h=>h) (λ_ _ h=>h) ?_ ?_
 ·intro bf k02 heq ax;subst o0;refine zU<|wJ [4] rfl<|zH<|yF ?_;obtain rfl:=zB aB;exact xH
 intro r0 I9 hs9 m9 aC le9 aD;subst aC;refine zR<|zG ?_;obtain rfl:=zB aB;exact yV aD
mutual
def uM(a0:(List zD))(k0:Int):Option (Int):=do
 match<-pI (same a0) (same k0) (same 0) with
 | .ret r0=>pure r0
 | .done k02=>
  pure (id k02)
 partial_fixpoint
def pI(a0:(List zD))(k01:Int)(i:Int):Option (Out Int (Int)):=do
 if(decide (i<(a0.length:Int))) then
  let x<-idx a0 i
  if(x.Kind != k01) then
   pure (.ret (-1))
  else
   let x1<-idx a0 i
   if(x1.Num != (W (k01+1))) then
    pure (.ret (-1))
   else
    let x2<-idx a0 i
    let y<-pM x2.Index.Coefs (W ((W (k01+1))+1))
    if(decide (y<0)) then
     pure (.ret (-1))
    else
     let x3<-idx a0 i
     if(x3.Index.Const != y) then
      pure (.ret (-1))
     else
      let x4<-idx a0 i
      let y1<-uH (W (y+1))
      if(!(x4.Read.Array.l==y1.l)) then
       pure (.ret (-1))
      else
       let x5<-idx a0 i
       let y2<-uW x5.Read.Subs (W ((W (y+1))+1))
       if(decide (y2<0)) then
        pure (.ret (-1))
       else
        let x6<-idx a0 i
        let y3<-uM x6.Kids (same y2)
        if(decide (y3<0)) then
         pure (.ret (-1))
        else
         pI (same a0) (same y3) (W (i+1))
 else
  pure (.done k01)
 partial_fixpoint
end
theorem zEJ:(∀(a0:(List zD)) (k0:Int) r,uM a0 k0=some r->∀{I:Imm}{p c},(S4 I p a0 c)->RT 93 [vS p a0 c,vI k0] I [] (zW  r))/\(∀(a0:(List zD)) (k01:Int) (i:Int) o,pI a0 k01 i=some o->∀{B}{I0 I:Imm}{Q p c},I0.le I->(S4 I p a0 c)->NG Q->NO Q->(∀(I':Imm) (k02:Int),o=(.done k02)->I0.le I'->T 81 B Q (.exit 0) I' [] [(1,vI k02)])->(∀r I' aj m',o=(.ret r)->I0.le I'->RS Tryz.prog f93 B (zW  r) I' aj m'->T 81 B Q .ret I' aj m')->J Tryz.prog 81 B (nav (bodyOf f93) [1,0,1,0]) Q I [] [(0,vS p a0 c),(1,vI k01),(5,vI i)]):=by
 refine uM.mutual_partial_correctness _ _ ?_ ?_
 ·intro F_laws_heldExprS_l1 ih_laws_heldExprS_l1 a0 k0 r N I p c h;refine yM func93 λB=>xZ []<|yE<|yG [5] rfl<|uP<|rX [(0,vS p a0 c),(1,vI k0),(5,vI 0)] ?_;obtain⟨o0,ay,aB⟩:=zF N;refine ih_laws_heldExprS_l1 a0 k0 0 o0 ay iR h (λ_ _ _ h=>h) (λ_ _ h=>h) ?_ ?_
  ·intro bL k02 heq bo;subst o0;refine zU<|wJ [4] rfl<|zH<|yF ?_;obtain rfl:=zB aB;exact xH
  intro r0 I9 hs9 m9 aC le9 aD;subst aC;refine zR<|zG ?_;obtain rfl:=zB aB;exact yV aD
 intro F_laws_heldExprS F_laws_heldExprS_l1 ih_laws_heldExprS ih_laws_heldExprS_l1 a0 k01 i o N B I0 I Q p c H h hg ho hx hr;refine yK hg ho<|zM<|yG [9] rfl<|zH<|yD N ?_ ?_
 ·intro hc N;refine zT<|yE<|zZ<|zM<|yJ<|yR 2 [] [12,13] rfl<|bE N λx hy N=>xL rfl rfl h hy ?_;intro ad aF av aq;obtain⟨p1,c1,p2,c2,p3,c3,rfl,h1,h2,h3⟩:=yZ aq;refine yR 4 [] [15] rfl<|yY 0 av [vI x.Kind] (vI x.Kind) rfl<|yW [] [18] rfl<|zH<|yD N ?_ ?_
  ·intro aE N;exact yG [4] rfl<|yS<|zG<|zR<|zG<|zG<|hr _ _ _ _ (zB N).symm H ⟨_,_,(.tmp rfl ResV.nil),zO,⟨_,rfl,rfl,rfl⟩⟩
  intro aE N;refine zT<|wJ [1] rfl<|yE<|yJ<|yR 2 [] [21,22] rfl<|bE N λx1 aw N=>xL rfl rfl h aw ?_;intro ad1 aY au aA;obtain⟨p4,c4,p5,c5,p6,c6,rfl,h4,h5,h6⟩:=yZ aA;refine yR 4 [] [24] rfl<|yY 1 au [vI x1.Num] (vI x1.Num) rfl<|yW [] [27] rfl<|zH<|yD N ?_ ?_
  ·intro aQ N;exact yG [4] rfl<|yS<|zG<|zR<|zG<|zG<|hr _ _ _ _ (zB N).symm H ⟨_,_,(.tmp rfl ResV.nil),zO,⟨_,rfl,rfl,rfl⟩⟩
  intro aQ N;refine zT<|wJ [1] rfl<|wG<|yR 2 [] [30,31] rfl<|bE N λx2 aI N=>xL rfl rfl h aI ?_;intro ad2 bM aS bh;obtain⟨p7,c7,p8,c8,p9,c9,rfl,h7,h8,h9⟩:=yZ bh;refine yR 5 [] [34] rfl<|yY 2 aS [vS p7 x2.Index.Coefs c7] (vS p7 x2.Index.Coefs c7) rfl<|yR 7 [] [36] rfl<|bE N λy aW N=>qJ (eV x2.Index.Coefs (W ((W (k01+1))+1)) _ aW h7) ?_;intro I0 le;have ⟨h,H⟩:=m2 le h H;refine yW [] [1] rfl<|yE<|yG [39] rfl<|zH<|yD N ?_ ?_
  ·intro bp N;exact yG [4] rfl<|yS<|zG<|zR<|zG<|zG<|hr _ _ _ _ (zB N).symm H ⟨_,_,(.tmp rfl ResV.nil),zO,⟨_,rfl,rfl,rfl⟩⟩
  intro bp N;refine zT<|yE<|yJ<|yR 2 [] [40,41] rfl<|bE N λx3 bk N=>xL rfl rfl h bk ?_;intro ad3 ccs3 hat3 bn;obtain⟨aX,a8,a7,a6,bu,bc,rfl,h11,h12,h13⟩:=yZ bn;refine yR 5 [] [44] rfl<|yY 3 hat3 [vI x3.Index.Const] (vI x3.Index.Const) rfl<|yW [] [47] rfl<|zH<|yD N ?_ ?_
  ·intro bD N;exact yG [4] rfl<|yS<|zG<|zR<|zG<|zG<|hr _ _ _ _ (zB N).symm H ⟨_,_,(.tmp rfl ResV.nil),zO,⟨_,rfl,rfl,rfl⟩⟩
  intro bD N;refine zT<|wJ [1] rfl<|yE<|zM ?_;obtain⟨x4,bC,N⟩:=zF N;obtain⟨y1,hy6,N⟩:=zF N;refine uX [.p (vS p a0 c) [],.p (vI i) [],.x (ePExpr x4),.x (eQExpr 4 x4),.x (eQExpr 4 x4),.q (vT x4.Read.Array.l),.p (vI (W (y+1))) [],.q (vT y1.l),.p (.bool (!(x4.Read.Array.l==y1.l))) []] [[],[],[(0,false),(1,false)],[(2,false)],[(3,false)],[(4,false)],[],[(6,false)],[(5,false),(7,false)]] [] [] [(8,false)] zO ?_ ?_
  ·refine Op<|Op<|Ox ?_<|Ox ?_<|Ox ?_<|Oq ?_<|Op<|Oq ?_<|Op<|On
   ·intro I1 hf ai;refine xV [50,51] rfl ?_;have h:=h.mono ai;refine xL rfl rfl h bC ?_;intro ad4 ccs4 hat4 hrep4;obtain⟨aZ,bm,p14,c14,p15,c15,rfl,h14,h15,h16⟩:=yZ hrep4;exact xU [] iR ⟨_,_,_,_,_,_,_,rfl,rfl,hat4,h14,h15,h16⟩
   ·rintro I1 hf ai _ _ ⟨ad4,aZ,bm,p14,c14,p15,c15,rfl,rfl,hat4,h14,h15,h16⟩;exact xV [52] rfl<|nP 4 [(53,.pointer (some (ad4.add 4)))]<|xU [] iR ⟨_,_,_,_,_,_,_,rfl,rfl,hat4,h14,h15,h16⟩
   ·rintro I1 hf ai _ _ ⟨ad41,p131,c131,p141,c141,p151,c151,rfl,rfl,hat41,h141,h151,h161⟩;exact xV [53] rfl<|nP 5 [(54,.pointer (some (ad41.add 4)))]<|xU [] iR ⟨_,_,_,_,_,_,_,rfl,rfl,hat41,h141,h151,h161⟩
   ·rintro I1 hf ai _ _ ⟨ad411,p1311,c1311,p1411,c1411,p1511,c1511,rfl,rfl,hat411,h1411,h1511,h1611⟩;exact xV [54] rfl<|yY 4 hat411 [vT x4.Read.Array.l] (vT x4.Read.Array.l) rfl<|wD iR
   intro I1 hf ai;refine xV [56] rfl ?_;have H:=iS I1;refine tG (qF (W (y+1)) _ hy6 ) ?_;rintro aN aK v2 k2 ai - ⟨v016,rfl,rfl,rfl⟩ -;have H:=H.trans ai;exact wD H
  intro bf ax;refine xV [0,1,5,58] rfl ?_;have ⟨h,H⟩:=m2 ax h H;refine zX rfl<|zH<|yD N ?_ ?_
  ·intro hc5 N;exact yG [4] rfl<|yS<|zG<|zR<|zG<|zG<|hr _ _ _ _ (zB N).symm H ⟨_,_,(.tmp rfl ResV.nil),zO,⟨_,rfl,rfl,rfl⟩⟩
  intro hc5 N;refine zT<|wJ [1] rfl<|wG<|yR 2 [] [61,62] rfl<|bE N λx5 hy7 N=>xL rfl rfl h hy7 ?_;intro ad5 ccs5 hat5 hrep5;obtain⟨p16,c16,p17,c17,p18,c18,rfl,h18,h19,h20⟩:=yZ hrep5;refine yR 5 [] [65] rfl<|yY 5 hat5 [vS p17 x5.Read.Subs c17] (vS p17 x5.Read.Subs c17) rfl<|yR 7 [] [67] rfl<|bE N λy2 hy8 N=>qJ (nK x5.Read.Subs (W ((W (y+1))+1)) _ hy8 h19) ?_;intro bq aR;have ⟨h,H⟩:=m2 aR h H;refine yW [] [1] rfl<|yE<|yG [70] rfl<|zH<|yD N ?_ ?_
  ·intro hc6 N;exact yG [4] rfl<|yS<|zG<|zR<|zG<|zG<|hr _ _ _ _ (zB N).symm H ⟨_,_,(.tmp rfl ResV.nil),zO,⟨_,rfl,rfl,rfl⟩⟩
  intro hc6 N;refine zT<|wG<|yR 2 [] [71,72] rfl<|bE N λx6 hy9 N=>xL rfl rfl h hy9 ?_;intro ad6 ccs6 hat6 hrep6;obtain⟨p19,c19,p20,c20,p21,c21,rfl,h22,h23,h24⟩:=yZ hrep6;refine yR 4 [] [74] rfl<|yY 6 hat6 [vS p21 x6.Kids c21] (vS p21 x6.Kids c21) rfl<|yR 6 [] [76] rfl<|bE N λy3 hy10 N=>tG (ih_laws_heldExprS x6.Kids y2 _ hy10 h24) ?_;rintro bG aK v2 k2 bg - ⟨v024,rfl,rfl,rfl⟩ -;have ⟨h,H⟩:=m2 bg h H;refine yW [] [1] rfl<|wJ [79] rfl<|zH<|yD N ?_ ?_
  ·intro hc7 N;exact yG [4] rfl<|yS<|zR<|zG<|zG<|hr _ _ _ _ (zB N).symm H ⟨_,_,(.tmp rfl ResV.nil),zO,⟨_,rfl,rfl,rfl⟩⟩
  intro hc7 N;exact zT<|zQ<|zH<|zE<|yW [] [5] rfl<|yL<|gJ<|ih_laws_heldExprS_l1 a0 y3 (W (i+1)) _ N H h hg ho hx hr
 intro hc N;exact uQ<|xM<|hx _ _ (zB N).symm H
theorem zEv:∀a0 k0 r,uM a0 k0=some r->∀{I:Imm}{p c},(S4 I p a0 c)->RT 93 [vS p a0 c,vI k0] I [] (zW  r):=zEJ.1
def sQ(a0:(List zJ))(k01:Int)(i:Int):Option (Out Int (Int)):=do
 if(decide (i<(a0.length:Int))) then
  let x<-idx a0 i
  let y<-uH k01
  if(!(x.Write.Array.l==y.l)) then
   pure (.ret (-1))
  else
   let x1<-idx a0 i
   let y1<-uW x1.Write.Subs (W (k01+1))
   if(decide (y1<0)) then
    pure (.ret (-1))
   else
    let x2<-idx a0 i
    if(x2.Value.Kind != y1) then
     pure (.ret (-1))
    else
     let x3<-idx a0 i
     if(x3.Value.Num != (W (y1+1))) then
      pure (.ret (-1))
     else
      let x4<-idx a0 i
      let y2<-pM x4.Value.Index.Coefs (W ((W (y1+1))+1))
      if(decide (y2<0)) then
       pure (.ret (-1))
      else
       let x5<-idx a0 i
       if(x5.Value.Index.Const != y2) then
        pure (.ret (-1))
       else
        let x6<-idx a0 i
        let y3<-uH (W (y2+1))
        if(!(x6.Value.Read.Array.l==y3.l)) then
         pure (.ret (-1))
        else
         let x7<-idx a0 i
         let y4<-uW x7.Value.Read.Subs (W ((W (y2+1))+1))
         if(decide (y4<0)) then
          pure (.ret (-1))
         else
          let x8<-idx a0 i
          let y5<-uM x8.Value.Kids y4
          if(decide (y5<0)) then
           pure (.ret (-1))
          else
           sQ a0 y5 (W (i+1))
 else
  pure (.done k01)
 partial_fixpoint
theorem zCv(a0:(List zJ)):∀(k01:Int) (i:Int) (o:Out Int (Int)),sQ a0 k01 i=some o->∀{B}{I0 I:Imm}{Q p c},I0.le I->(S4 I p a0 c)->NG Q->NO Q->(∀(I':Imm) (k02:Int),o=(.done k02)->I0.le I'->T 109 B Q (.exit 0) I' [] [(1,vI k02)])->(∀r I' aj m',o=(.ret r)->I0.le I'->RS Tryz.prog f54 B (zW  r) I' aj m'->T 109 B Q .ret I' aj m')->J Tryz.prog 109 B (nav (bodyOf f54) [1,0,1,0]) Q I [] [(0,vS p a0 c),(1,vI k01),(5,vI i)]:=by
 refine sQ.partial_correctness a0 _ λaG ih k01 i o N B I0 I Q p c H h hg ho hx hr=>yK hg ho<|zM<|yG [9] rfl<|zH<|yD N ?_ ?_
 ·intro hc N;refine zT<|yE<|zZ<|zM<|zM ?_;obtain⟨x,hy,N⟩:=zF N;obtain⟨y,aw,N⟩:=zF N;refine uX [.p (vS p a0 c) [],.p (vI i) [],.x (ePStmt x),.x (ePStmt x),.x (ePStmt x),.q (vT x.Write.Array.l),.p (vI k01) [],.q (vT y.l),.p (.bool (!(x.Write.Array.l==y.l))) []] [[],[],[(0,false),(1,false)],[(2,false)],[(3,false)],[(4,false)],[],[(6,false)],[(5,false),(7,false)]] [] [] [(8,false)] zO ?_ ?_
  ·refine Op<|Op<|Ox ?_<|Ox ?_<|Ox ?_<|Oq ?_<|Op<|Oq ?_<|Op<|On
   ·intro I1 hf ai;refine xV [12,13] rfl ?_;have h:=h.mono ai;refine xL rfl rfl h hy ?_;intro ad aF av aq;obtain⟨p1,c1,p2,c2,p3,c3,p4,c4,rfl,h1,h2,h3,h4⟩:=xY aq;exact xU [] iR ⟨_,_,_,_,_,_,_,_,_,rfl,rfl,av,h1,h2,h3,h4⟩
   ·rintro I1 hf ai _ _ ⟨ad,p1,c1,p2,c2,p3,c3,p4,c4,rfl,rfl,av,h1,h2,h3,h4⟩;exact xV [14] rfl<|nP 4 [(15,.pointer (some ad))]<|xU [] iR ⟨_,_,_,_,_,_,_,_,_,rfl,rfl,av,h1,h2,h3,h4⟩
   ·rintro I1 hf ai _ _ ⟨ad1,a7,a6,p21,c21,p31,c31,p41,c41,rfl,rfl,au,h11,h21,h31,h41⟩;exact xV [15] rfl<|nP 5 [(16,.pointer (some ad1))]<|xU [] iR ⟨_,_,_,_,_,_,_,_,_,rfl,rfl,au,h11,h21,h31,h41⟩
   ·rintro I1 hf ai _ _ ⟨ad11,p111,c111,p211,c211,p311,c311,p411,c411,rfl,rfl,hat11,h111,h211,h311,h411⟩;exact xV [16] rfl<|yY 0 hat11 [vT x.Write.Array.l] (vT x.Write.Array.l) rfl<|wD iR
   intro I1 hf ai;refine xV [18] rfl ?_;have H:=iS I1;refine tG (qF k01 _ aw ) ?_;rintro I0 aK v2 k2 le - ⟨v04,rfl,rfl,rfl⟩ -;have H:=H.trans le;exact wD H
  intro aN ai;refine xV [0,1,5,20] rfl ?_;have ⟨h,H⟩:=m2 ai h H;refine zX rfl<|zH<|yD N ?_ ?_
  ·intro aE N;exact yG [4] rfl<|yS<|zG<|zR<|zG<|zG<|hr _ _ _ _ (zB N).symm H ⟨_,_,(.tmp rfl ResV.nil),zO,⟨_,rfl,rfl,rfl⟩⟩
  intro aE N;refine zT<|wJ [1] rfl<|wG<|yR 2 [] [23,24] rfl<|bE N λx1 aI N=>xL rfl rfl h aI ?_;intro ad2 aY aS aA;obtain⟨p5,c5,p6,c6,p7,c7,p8,c8,rfl,h6,h7,h8,h9⟩:=xY aA;refine yR 5 [] [27] rfl<|yY 1 aS [vS p5 x1.Write.Subs c5] (vS p5 x1.Write.Subs c5) rfl<|yR 7 [] [29] rfl<|bE N λy1 aW N=>qJ (nK x1.Write.Subs (W (k01+1)) _ aW h6) ?_;intro bf ax;have ⟨h,H⟩:=m2 ax h H;refine yW [] [1] rfl<|yE<|yG [32] rfl<|zH<|yD N ?_ ?_
  ·intro aQ N;exact yG [4] rfl<|yS<|zG<|zR<|zG<|zG<|hr _ _ _ _ (zB N).symm H ⟨_,_,(.tmp rfl ResV.nil),zO,⟨_,rfl,rfl,rfl⟩⟩
  intro aQ N;refine zT<|yE<|yJ<|yR 2 [] [33,34] rfl<|bE N λx2 bk N=>xL rfl rfl h bk ?_;intro ad3 bM hat3 bh;obtain⟨p9,c9,aX,a8,bu,bc,aZ,bm,rfl,h12,h13,h14,h15⟩:=xY bh;refine yR 5 [] [37] rfl<|yY 2 hat3 [vI x2.Value.Kind] (vI x2.Value.Kind) rfl<|yW [] [40] rfl<|zH<|yD N ?_ ?_
  ·intro bp N;exact yG [4] rfl<|yS<|zG<|zR<|zG<|zG<|hr _ _ _ _ (zB N).symm H ⟨_,_,(.tmp rfl ResV.nil),zO,⟨_,rfl,rfl,rfl⟩⟩
  intro bp N;refine zT<|wJ [1] rfl<|yE<|yJ<|yR 2 [] [43,44] rfl<|bE N λx3 bC N=>xL rfl rfl h bC ?_;intro ad4 ccs3 hat4 bn;obtain⟨p14,c14,p15,c15,p16,c16,p17,c17,rfl,h16,h17,h18,h19⟩:=xY bn;refine yR 5 [] [47] rfl<|yY 3 hat4 [vI x3.Value.Num] (vI x3.Value.Num) rfl<|yW [] [50] rfl<|zH<|yD N ?_ ?_
  ·intro bD N;exact yG [4] rfl<|yS<|zG<|zR<|zG<|zG<|hr _ _ _ _ (zB N).symm H ⟨_,_,(.tmp rfl ResV.nil),zO,⟨_,rfl,rfl,rfl⟩⟩
  intro bD N;refine zT<|wJ [1] rfl<|wG<|yR 2 [] [53,54] rfl<|bE N λx4 hy6 N=>xL rfl rfl h hy6 ?_;intro ad5 ccs4 hat5 hrep4;obtain⟨p18,c18,p19,c19,p20,c20,p22,c22,rfl,h20,h22,h23,h24⟩:=xY hrep4;refine yR 6 [] [58] rfl<|yY 4 hat5 [vS p19 x4.Value.Index.Coefs c19] (vS p19 x4.Value.Index.Coefs c19) rfl<|yR 8 [] [60] rfl<|bE N λy2 hy7 N=>qJ (eV x4.Value.Index.Coefs (W ((W (y1+1))+1)) _ hy7 h22) ?_;intro bq aR;have ⟨h,H⟩:=m2 aR h H;refine yW [] [1] rfl<|yE<|yG [63] rfl<|zH<|yD N ?_ ?_
  ·intro hc5 N;exact yG [4] rfl<|yS<|zG<|zR<|zG<|zG<|hr _ _ _ _ (zB N).symm H ⟨_,_,(.tmp rfl ResV.nil),zO,⟨_,rfl,rfl,rfl⟩⟩
  intro hc5 N;refine zT<|yE<|yJ<|yR 2 [] [64,65] rfl<|bE N λx5 hy8 N=>xL rfl rfl h hy8 ?_;intro ad6 ccs5 hat6 hrep5;obtain⟨p23,c23,p24,c24,p25,c25,p26,c26,rfl,h26,h27,h28,h29⟩:=xY hrep5;refine yR 6 [] [69] rfl<|yY 5 hat6 [vI x5.Value.Index.Const] (vI x5.Value.Index.Const) rfl<|yW [] [72] rfl<|zH<|yD N ?_ ?_
  ·intro hc6 N;exact yG [4] rfl<|yS<|zG<|zR<|zG<|zG<|hr _ _ _ _ (zB N).symm H ⟨_,_,(.tmp rfl ResV.nil),zO,⟨_,rfl,rfl,rfl⟩⟩
  intro hc6 N;refine zT<|wJ [1] rfl<|yE<|zM ?_;obtain⟨x6,hy9,N⟩:=zF N;obtain⟨y3,hy10,N⟩:=zF N;refine uX [.p (vS p a0 c) [],.p (vI i) [],.x (ePStmt x6),.x (eQStmt 2 x6),.x (eQStmt 6 x6),.x (eQStmt 6 x6),.q (vT x6.Value.Read.Array.l),.p (vI (W (y2+1))) [],.q (vT y3.l),.p (.bool (!(x6.Value.Read.Array.l==y3.l))) []] [[],[],[(0,false),(1,false)],[(2,false)],[(3,false)],[(4,false)],[(5,false)],[],[(7,false)],[(6,false),(8,false)]] [] [] [(9,false)] zO ?_ ?_
  ·refine Op<|Op<|Ox ?_<|Ox ?_<|Ox ?_<|Ox ?_<|Oq ?_<|Op<|Oq ?_<|Op<|On
   ·intro I1 hf ai;refine xV [75,76] rfl ?_;have h:=h.mono ai;refine xL rfl rfl h hy9 ?_;intro ad7 ccs6 hat7 hrep6;obtain⟨p27,c27,p28,c28,p29,c29,p30,c30,rfl,h30,h32,h33,h34⟩:=xY hrep6;exact xU [] iR ⟨_,_,_,_,_,_,_,_,_,rfl,rfl,hat7,h30,h32,h33,h34⟩
   ·rintro I1 hf ai _ _ ⟨ad7,p27,c27,p28,c28,p29,c29,p30,c30,rfl,rfl,hat7,h30,h32,h33,h34⟩;exact xV [77] rfl<|nP 4 [(78,.pointer (some (ad7.add 2)))]<|xU [] iR ⟨_,_,_,_,_,_,_,_,_,rfl,rfl,hat7,h30,h32,h33,h34⟩
   ·rintro I1 hf ai _ _ ⟨ad71,p271,c271,p281,c281,p291,c291,p301,c301,rfl,rfl,hat71,h301,h321,h331,h341⟩;exact xV [78] rfl<|nP 5 [(79,.pointer (some (ad71.add 6)))]<|xU [] iR ⟨_,_,_,_,_,_,_,_,_,rfl,rfl,hat71,h301,h321,h331,h341⟩
   ·rintro I1 hf ai _ _ ⟨ad711,p2711,c2711,p2811,c2811,p2911,c2911,p3011,c3011,rfl,rfl,hat711,h3011,h3211,h3311,h3411⟩;exact xV [79] rfl<|nP 6 [(80,.pointer (some (ad711.add 6)))]<|xU [] iR ⟨_,_,_,_,_,_,_,_,_,rfl,rfl,hat711,h3011,h3211,h3311,h3411⟩
   ·rintro I1 hf ai _ _ ⟨ad7111,p27111,c27111,p28111,c28111,p29111,c29111,p30111,c30111,rfl,rfl,hat7111,h30111,h32111,h33111,h34111⟩;exact xV [80] rfl<|yY 6 hat7111 [vT x6.Value.Read.Array.l] (vT x6.Value.Read.Array.l) rfl<|wD iR
   intro I1 hf ai;refine xV [82] rfl ?_;have H:=iS I1;refine tG (qF (W (y2+1)) _ hy10 ) ?_;rintro bG aK v2 k2 bg - ⟨v031,rfl,rfl,rfl⟩ -;have H:=H.trans bg;exact wD H
  intro bL bo;refine xV [0,1,5,84] rfl ?_;have ⟨h,H⟩:=m2 bo h H;refine zX rfl<|zH<|yD N ?_ ?_
  ·intro hc7 N;exact yG [4] rfl<|yS<|zG<|zR<|zG<|zG<|hr _ _ _ _ (zB N).symm H ⟨_,_,(.tmp rfl ResV.nil),zO,⟨_,rfl,rfl,rfl⟩⟩
  intro hc7 N;refine zT<|wJ [1] rfl<|wG<|yR 2 [] [87,88] rfl<|bE N λx7 hy11 N=>xL rfl rfl h hy11 ?_;intro ad8 ccs7 hat8 hrep7;obtain⟨p32,c32,p33,c33,p34,c34,p35,c35,rfl,h36,h37,h38,h39⟩:=xY hrep7;refine yR 6 [] [92] rfl<|yY 7 hat8 [vS p34 x7.Value.Read.Subs c34] (vS p34 x7.Value.Read.Subs c34) rfl<|yR 8 [] [94] rfl<|bE N λy4 hy12 N=>qJ (nK x7.Value.Read.Subs (W ((W (y2+1))+1)) _ hy12 h38) ?_;intro I06 bB;have ⟨h,H⟩:=m2 bB h H;refine yW [] [1] rfl<|yE<|yG [97] rfl<|zH<|yD N ?_ ?_
  ·intro hc8 N;exact yG [4] rfl<|yS<|zG<|zR<|zG<|zG<|hr _ _ _ _ (zB N).symm H ⟨_,_,(.tmp rfl ResV.nil),zO,⟨_,rfl,rfl,rfl⟩⟩
  intro hc8 N;refine zT<|wG<|yR 2 [] [98,99] rfl<|bE N λx8 hy13 N=>xL rfl rfl h hy13 ?_;intro ad9 ccs8 hat9 hrep8;obtain⟨p36,c36,p37,c37,p38,c38,p39,c39,rfl,h42,h43,h44,h45⟩:=xY hrep8;refine yR 5 [] [102] rfl<|yY 8 hat9 [vS p39 x8.Value.Kids c39] (vS p39 x8.Value.Kids c39) rfl<|yR 7 [] [104] rfl<|bE N λy5 hy14 N=>qJ (zEv x8.Value.Kids y4 _ hy14 h45) ?_;intro I07 le7;have ⟨h,H⟩:=m2 le7 h H;refine yW [] [1] rfl<|wJ [107] rfl<|zH<|yD N ?_ ?_
  ·intro hc9 N;exact yG [4] rfl<|yS<|zR<|zG<|zG<|hr _ _ _ _ (zB N).symm H ⟨_,_,(.tmp rfl ResV.nil),zO,⟨_,rfl,rfl,rfl⟩⟩
  intro hc9 N;exact zT<|zQ<|zH<|zE<|yW [] [5] rfl<|yL<|gJ<|ih y5 (W (i+1)) _ N H h hg ho hx hr
 intro hc N;exact uQ<|xM<|hx _ _ (zB N).symm H
def jU(a0:(List zJ))(k0:Int):Option (Int):=do
 match<-sQ a0 k0 0 with
 | .ret r0=>pure r0
 | .done k02=>
  pure (id k02)
theorem zEw:∀a0 k0 r,jU a0 k0=some r->∀{I:Imm}{p c},(S4 I p a0 c)->RT 54 [vS p a0 c,vI k0] I [] (zW  r):=by
 intro a0 k0 r N I p c h;unfold jU at N;refine yM func54 λB=>xZ []<|yE<|yG [5] rfl<|uP<|rX [(0,vS p a0 c),(1,vI k0),(5,vI 0)] ?_;obtain⟨o0,ay,aB⟩:=zF N;refine zCv a0 k0 0 o0 ay iR h (λ_ _ _ h=>h) (λ_ _ h=>h) ?_ ?_
 ·intro I08 k02 heq le8;subst o0;refine zU<|wJ [4] rfl<|zH<|yF ?_;obtain rfl:=zB aB;exact xH
 intro r0 I9 hs9 m9 aC le9 aD;subst aC;refine zR<|zG ?_;obtain rfl:=zB aB;exact yV aD
def sR(a0:(List zN))(k01:Int)(i:Int):Option (Out Int (Int)):=do
 if(decide (i<(a0.length:Int))) then
  let x<-idx a0 i
  let y<-jT x.Nest k01
  if(decide (y<0)) then
   pure (.ret (-1))
  else
   let x1<-idx a0 i
   let y1<-jU x1.Body y
   if(decide (y1<0)) then
    pure (.ret (-1))
   else
    sR a0 y1 (W (i+1))
 else
  pure (.done k01)
 partial_fixpoint
theorem zCw(a0:(List zN)):∀(k01:Int) (i:Int) (o:Out Int (Int)),sR a0 k01 i=some o->∀{B}{I0 I:Imm}{Q p c},I0.le I->(S4 I p a0 c)->NG Q->NO Q->(∀(I':Imm) (k02:Int),o=(.done k02)->I0.le I'->T 31 B Q (.exit 0) I' [] [(1,vI k02)])->(∀r I' aj m',o=(.ret r)->I0.le I'->RS Tryz.prog f27 B (zW  r) I' aj m'->T 31 B Q .ret I' aj m')->J Tryz.prog 31 B (nav (bodyOf f27) [1,0,1,0]) Q I [] [(0,vS p a0 c),(1,vI k01),(5,vI i)]:=by
 refine sR.partial_correctness a0 _ λaG ih k01 i o N B I0 I Q p c H h hg ho hx hr=>yK hg ho<|zM<|yG [9] rfl<|zH<|yD N ?_ ?_
 ·intro hc N;refine zT<|yE<|zZ<|yJ<|yR 2 [] [12,13] rfl<|bE N λx hy N=>xL rfl rfl h hy ?_;intro ad aF av aq;obtain⟨p1,c1,p2,c2,rfl,h1,h2⟩:=qI aq;refine yR 4 [] [15] rfl<|yY 0 av [vS p1 x.Nest c1] (vS p1 x.Nest c1) rfl<|yR 6 [] [17] rfl<|bE N λy aw N=>qJ (zEu x.Nest k01 _ aw h1) ?_;intro I0 le;have ⟨h,H⟩:=m2 le h H;refine yW [] [1] rfl<|yE<|yG [20] rfl<|zH<|yD N ?_ ?_
  ·intro aE N;exact yG [4] rfl<|yS<|zG<|zR<|zG<|zG<|hr _ _ _ _ (zB N).symm H ⟨_,_,(.tmp rfl ResV.nil),zO,⟨_,rfl,rfl,rfl⟩⟩
  intro aE N;refine zT<|wG<|yR 2 [] [21,22] rfl<|bE N λx1 aI N=>xL rfl rfl h aI ?_;intro ad1 aY au aA;obtain⟨p3,c3,p4,c4,rfl,h4,h5⟩:=qI aA;refine yR 4 [] [24] rfl<|yY 1 au [vS p4 x1.Body c4] (vS p4 x1.Body c4) rfl<|yR 6 [] [26] rfl<|bE N λy1 aW N=>qJ (zEw x1.Body y _ aW h5) ?_;intro aN ai;have ⟨h,H⟩:=m2 ai h H;refine yW [] [1] rfl<|wJ [29] rfl<|zH<|yD N ?_ ?_
  ·intro aQ N;exact yG [4] rfl<|yS<|zR<|zG<|zG<|hr _ _ _ _ (zB N).symm H ⟨_,_,(.tmp rfl ResV.nil),zO,⟨_,rfl,rfl,rfl⟩⟩
  intro aQ N;exact zT<|zQ<|zH<|zE<|yW [] [5] rfl<|yL<|gJ<|ih y1 (W (i+1)) _ N H h hg ho hx hr
 intro hc N;exact uQ<|xM<|hx _ _ (zB N).symm H
def jV(a0:(List zN))(k0:Int):Option (Int):=do
 match<-sR a0 k0 0 with
 | .ret r0=>pure r0
 | .done k02=>
  pure (id k02)
theorem zEx:∀a0 k0 r,jV a0 k0=some r->∀{I:Imm}{p c},(S4 I p a0 c)->RT 27 [vS p a0 c,vI k0] I [] (zW  r):=by
 intro a0 k0 r N I p c h;unfold jV at N;refine yM func27 λB=>xZ []<|yE<|yG [5] rfl<|uP<|rX [(0,vS p a0 c),(1,vI k0),(5,vI 0)] ?_;obtain⟨o0,ay,aB⟩:=zF N;refine zCw a0 k0 0 o0 ay iR h (λ_ _ _ h=>h) (λ_ _ h=>h) ?_ ?_
 ·intro bf k02 heq ax;subst o0;refine zU<|wJ [4] rfl<|zH<|yF ?_;obtain rfl:=zB aB;exact xH
 intro r0 I9 hs9 m9 aC le9 aD;subst aC;refine zR<|zG ?_;obtain rfl:=zB aB;exact yV aD
def oC(a0:zV)(k0:Int):Option (Int):=do
 let y<-jB a0.Arrays k0
 if(decide (y<0)) then
  pure (-1)
 else
  let y1<-jV a0.Parts y
  if(decide (y1<0)) then
   pure (-1)
  else
   pure (id y1)
theorem zAf:∀a0 k0 r,oC a0 k0=some r->∀{I:Imm}{p c p1 c1},(S4 I p a0.Arrays c)->(S4 I p1 a0.Parts c1)->RT 10 [vA (cProg a0 p c p1 c1),vI k0] I [] (zW  r):=by
 intro a0 k0 r N I p c p1 c1 h h1;unfold oC at N;refine yM func10 λB=>yJ<|uA (cProg a0 p c p1 c1) ?_;intro b hb;refine yO [] []<|wG<|yR 3 [0] [6,7] rfl<|bE N λy hy N=>qJ (zEI a0.Arrays k0 _ hy h) ?_;intro I0 le;have h1:=h1.mono le;refine yW [] [1] rfl<|yE<|yG [10] rfl<|zH<|yD N ?_ ?_
 ·intro hc N;refine yG [4] rfl<|yS<|zG ?_;obtain rfl:=zB N;exact xH
 intro hc N;refine zT<|wG<|yR 3 [0] [12,13] rfl<|bE N λy1 aw N=>qJ (zEx a0.Parts y _ aw h1) λaN ai=>yO [] [(1,vI y1)]<|yE<|xZ [(16,.bool (decide (y1<0)))]<|zH<|yD N ?_ ?_
 ·intro aE N;refine yG [4] rfl<|yS<|zG ?_;obtain rfl:=zB N;exact xH
 intro aE N;refine zT<|wJ [4] rfl<|zH<|yF ?_;obtain rfl:=zB N;exact xH
def fE(a0:(List Int))(left:Int):Option (Int):=do
 if(decide ((W (left - (a0.length:Int)))<0)) then
  pure (-1)
 else
  pure (W (left - (a0.length:Int)))
theorem zCx:∀a0 left r,fE a0 left=some r->∀{I:Imm}{p c},(S4 I p a0 c)->RT 55 [vS p a0 c,vI left] I [] (zW  r):=by
 intro a0 left r N I p c h;unfold fE at N;refine yM func55 λB=>xZ []<|wJ [1] rfl<|yE<|yG [10] rfl<|zH<|yD N ?_ ?_
 ·intro hc N;refine yG [4] rfl<|yS<|zG ?_;obtain rfl:=zB N;exact xH
 intro hc N;refine zT<|wJ [4] rfl<|zH<|yF ?_;obtain rfl:=zB N;exact xH
def jW(a0:wQ)(left:Int):Option (Int):=do
 if(decide ((W (left - (a0.Name.l.length:Int)))<0)) then
  pure (-1)
 else
  let y<-fE a0.Dims (W (left - (a0.Name.l.length:Int)))
  if(decide (y<0)) then
   pure (-1)
  else
   pure (id y)
theorem zFw:∀a0 left r,jW a0 left=some r->∀{I:Imm}{p c},(S4 I p a0.Dims c)->RT 28 [vA [vT a0.Name.l,vS p a0.Dims c],vI left] I [] (zW  r):=by
 intro a0 left r N I p c h;unfold jW at N;refine yM func28 λB=>yJ<|uA [vT a0.Name.l,vS p a0.Dims c] ?_;intro b hb;refine yO [] []<|wG<|yW [0] [1] rfl<|yE<|yG [11] rfl<|zH<|yD N ?_ ?_
 ·intro hc N;refine yG [4] rfl<|yS<|zG ?_;obtain rfl:=zB N;exact xH
 intro hc N;refine zT<|wG<|yR 3 [0] [13,14] rfl<|bE N λy hy N=>qJ (zCx a0.Dims (W (left - (a0.Name.l.length:Int))) _ hy h) λI0 le=>yO [] [(1,vI y)]<|yE<|xZ [(17,.bool (decide (y<0)))]<|zH<|yD N ?_ ?_
 ·intro aE N;refine yG [4] rfl<|yS<|zG ?_;obtain rfl:=zB N;exact xH
 intro aE N;refine zT<|wJ [4] rfl<|zH<|yF ?_;obtain rfl:=zB N;exact xH
def rT(a0:(List wQ))(left1:Int)(i:Int):Option (Out Int (Int)):=do
 if(decide (i<(a0.length:Int))) then
  let x<-idx a0 i
  let y<-jW x left1
  if(decide (y<0)) then
   pure (.ret (-1))
  else
   rT a0 y (W (i+1))
 else
  pure (.done left1)
 partial_fixpoint
theorem zD2(a0:(List wQ)):∀(left1:Int) (i:Int) (o:Out Int (Int)),rT a0 left1 i=some o->∀{B}{I0 I:Imm}{Q p c},I0.le I->(S4 I p a0 c)->NG Q->NO Q->(∀(I':Imm) (left2:Int),o=(.done left2)->I0.le I'->T 27 B Q (.exit 0) I' [] [(1,vI left2)])->(∀r I' aj m',o=(.ret r)->I0.le I'->RS Tryz.prog f11 B (zW  r) I' aj m'->T 27 B Q .ret I' aj m')->J Tryz.prog 27 B (nav (bodyOf f11) [1,1,1,0,1,0]) Q I [] [(0,vS p a0 c),(1,vI left1),(5,vI i)]:=by
 refine rT.partial_correctness a0 _ λaG ih left1 i o N B I0 I Q p c H h hg ho hx hr=>yK hg ho<|zM<|yG [15] rfl<|zH<|yD N ?_ ?_
 ·intro aE N;refine zT<|yE<|zZ<|yJ<|yR 2 [] [18,19] rfl<|bE N λx hy N=>xL rfl rfl h hy ?_;intro ad aF av aq;obtain⟨p1,c1,rfl,h1⟩:=zHB aq;refine yY 0 av [vT x.Name.l,vS p1 x.Dims c1] (vA [vT x.Name.l,vS p1 x.Dims c1]) rfl<|yR 5 [] [22] rfl<|bE N λy aw N=>qJ (zFw x left1 _ aw h1) ?_;intro I0 le;have ⟨h,H⟩:=m2 le h H;refine yW [] [1] rfl<|wJ [25] rfl<|zH<|yD N ?_ ?_
  ·intro aQ N;exact yG [4] rfl<|yS<|zR<|zG<|zG<|hr _ _ _ _ (zB N).symm H ⟨_,_,(.tmp rfl ResV.nil),zO,⟨_,rfl,rfl,rfl⟩⟩
  intro aQ N;exact zT<|zQ<|zH<|zE<|yW [] [5] rfl<|yL<|gJ<|ih y (W (i+1)) _ N H h hg ho hx hr
 intro aE N;exact uQ<|xM<|hx _ _ (zB N).symm H
def kK(a0:(List wQ))(left:Int):Option (Int):=do
 if(decide ((W (left - (a0.length:Int)))<0)) then
  pure (-1)
 else
  match<-rT a0 (W (left - (a0.length:Int))) 0 with
  | .ret r0=>pure r0
  | .done left2=>
   pure (id left2)
theorem zF4:∀a0 left r,kK a0 left=some r->∀{I:Imm}{p c},(S4 I p a0 c)->RT 11 [vS p a0 c,vI left] I [] (zW  r):=by
 intro a0 left r N I p c h;unfold kK at N;refine yM func11 λB=>xZ []<|wJ [1] rfl<|yE<|yG [11] rfl<|zH<|yD N ?_ ?_
 ·intro hc N;refine yG [4] rfl<|yS<|zG ?_;obtain rfl:=zB N;exact xH
 intro hc N;refine zT<|yE<|yG [5] rfl<|uP<|rX [(0,vS p a0 c),(1,vI (W (left - (a0.length:Int)))),(5,vI 0)] ?_;obtain⟨o0,ay,aB⟩:=zF N;refine zD2 a0 (W (left - (a0.length:Int))) 0 o0 ay iR h (λ_ _ _ h=>h) (λ_ _ h=>h) ?_ ?_
 ·intro aN left2 heq ai;subst o0;refine zU<|wJ [4] rfl<|zH<|yF ?_;obtain rfl:=zB aB;exact xH
 intro r0 I9 hs9 m9 aC le9 aD;subst aC;refine zR<|zG ?_;obtain rfl:=zB aB;exact yV aD
def nD(a0:yX)(left:Int):Option (Int):=do
 let y<-fE a0.Coefs left
 if(decide (y<0)) then
  pure (-1)
 else
  pure (id y)
theorem zBi:∀a0 left r,nD a0 left=some r->∀{I:Imm}{p c},(S4 I p a0.Coefs c)->RT 160 [vA [vS p a0.Coefs c,vI a0.Const],vI left] I [] (zW  r):=by
 intro a0 left r N I p c h;unfold nD at N;refine yM func160 λB=>yJ<|uA [vS p a0.Coefs c,vI a0.Const] ?_;intro b hb;refine yO [] []<|wG<|yR 3 [0] [6,7] rfl<|bE N λy hy N=>qJ (zCx a0.Coefs left _ hy h) λI0 le=>yO [] [(1,vI y)]<|yE<|xZ [(10,.bool (decide (y<0)))]<|zH<|yD N ?_ ?_
 ·intro hc N;refine yG [4] rfl<|yS<|zG ?_;obtain rfl:=zB N;exact xH
 intro hc N;refine zT<|wJ [4] rfl<|zH<|yF ?_;obtain rfl:=zB N;exact xH
def sS(a0:(List yX))(left1:Int)(i:Int):Option (Out Int (Int)):=do
 if(decide (i<(a0.length:Int))) then
  let x<-idx a0 i
  let y<-nD x left1
  if(decide (y<0)) then
   pure (.ret (-1))
  else
   sS a0 y (W (i+1))
 else
  pure (.done left1)
 partial_fixpoint
theorem zCy(a0:(List yX)):∀(left1:Int) (i:Int) (o:Out Int (Int)),sS a0 left1 i=some o->∀{B}{I0 I:Imm}{Q p c},I0.le I->(S4 I p a0 c)->NG Q->NO Q->(∀(I':Imm) (left2:Int),o=(.done left2)->I0.le I'->T 27 B Q (.exit 0) I' [] [(1,vI left2)])->(∀r I' aj m',o=(.ret r)->I0.le I'->RS Tryz.prog f131 B (zW  r) I' aj m'->T 27 B Q .ret I' aj m')->J Tryz.prog 27 B (nav (bodyOf f131) [1,1,1,0,1,0]) Q I [] [(0,vS p a0 c),(1,vI left1),(5,vI i)]:=by
 refine sS.partial_correctness a0 _ λaG ih left1 i o N B I0 I Q p c H h hg ho hx hr=>yK hg ho<|zM<|yG [15] rfl<|zH<|yD N ?_ ?_
 ·intro aE N;refine zT<|yE<|zZ<|yJ<|yR 2 [] [18,19] rfl<|bE N λx hy N=>xL rfl rfl h hy ?_;intro ad aF av aq;obtain⟨p1,c1,rfl,h1⟩:=zGZ aq;refine yY 0 av [vS p1 x.Coefs c1,vI x.Const] (vA [vS p1 x.Coefs c1,vI x.Const]) rfl<|yR 5 [] [22] rfl<|bE N λy aw N=>qJ (zBi x left1 _ aw h1) ?_;intro I0 le;have ⟨h,H⟩:=m2 le h H;refine yW [] [1] rfl<|wJ [25] rfl<|zH<|yD N ?_ ?_
  ·intro aQ N;exact yG [4] rfl<|yS<|zR<|zG<|zG<|hr _ _ _ _ (zB N).symm H ⟨_,_,(.tmp rfl ResV.nil),zO,⟨_,rfl,rfl,rfl⟩⟩
  intro aQ N;exact zT<|zQ<|zH<|zE<|yW [] [5] rfl<|yL<|gJ<|ih y (W (i+1)) _ N H h hg ho hx hr
 intro aE N;exact uQ<|xM<|hx _ _ (zB N).symm H
def sJ(a0:(List yX))(left:Int):Option (Int):=do
 if(decide ((W (left - (a0.length:Int)))<0)) then
  pure (-1)
 else
  match<-sS a0 (W (left - (a0.length:Int))) 0 with
  | .ret r0=>pure r0
  | .done left2=>
   pure (id left2)
theorem zAG:∀a0 left r,sJ a0 left=some r->∀{I:Imm}{p c},(S4 I p a0 c)->RT 131 [vS p a0 c,vI left] I [] (zW  r):=by
 intro a0 left r N I p c h;unfold sJ at N;refine yM func131 λB=>xZ []<|wJ [1] rfl<|yE<|yG [11] rfl<|zH<|yD N ?_ ?_
 ·intro hc N;refine yG [4] rfl<|yS<|zG ?_;obtain rfl:=zB N;exact xH
 intro hc N;refine zT<|yE<|yG [5] rfl<|uP<|rX [(0,vS p a0 c),(1,vI (W (left - (a0.length:Int)))),(5,vI 0)] ?_;obtain⟨o0,ay,aB⟩:=zF N;refine zCy a0 (W (left - (a0.length:Int))) 0 o0 ay iR h (λ_ _ _ h=>h) (λ_ _ h=>h) ?_ ?_
 ·intro aN left2 heq ai;subst o0;refine zU<|wJ [4] rfl<|zH<|yF ?_;obtain rfl:=zB aB;exact xH
 intro r0 I9 hs9 m9 aC le9 aD;subst aC;refine zR<|zG ?_;obtain rfl:=zB aB;exact yV aD
def fG(a0:vZ)(left:Int):Option (Int):=do
 let y<-sJ a0.Lo left
 if(decide (y<0)) then
  pure (-1)
 else
  let y1<-sJ a0.Hi y
  if(decide (y1<0)) then
   pure (-1)
  else
   pure (id y1)
theorem zGe:∀a0 left r,fG a0 left=some r->∀{I:Imm}{p c p1 c1},(S4 I p a0.Lo c)->(S4 I p1 a0.Hi c1)->RT 94 [vA [vS p a0.Lo c,vS p1 a0.Hi c1],vI left] I [] (zW  r):=by
 intro a0 left r N I p c p1 c1 h h1;unfold fG at N;refine yM func94 λB=>yJ<|uA [vS p a0.Lo c,vS p1 a0.Hi c1] ?_;intro b hb;refine yO [] []<|wG<|yR 3 [0] [6,7] rfl<|bE N λy hy N=>qJ (zAG a0.Lo left _ hy h) ?_;intro I0 le;have h1:=h1.mono le;refine yW [] [1] rfl<|yE<|yG [10] rfl<|zH<|yD N ?_ ?_
 ·intro hc N;refine yG [4] rfl<|yS<|zG ?_;obtain rfl:=zB N;exact xH
 intro hc N;refine zT<|wG<|yR 3 [0] [12,13] rfl<|bE N λy1 aw N=>qJ (zAG a0.Hi y _ aw h1) λaN ai=>yO [] [(1,vI y1)]<|yE<|xZ [(16,.bool (decide (y1<0)))]<|zH<|yD N ?_ ?_
 ·intro aE N;refine yG [4] rfl<|yS<|zG ?_;obtain rfl:=zB N;exact xH
 intro aE N;refine zT<|wJ [4] rfl<|zH<|yF ?_;obtain rfl:=zB N;exact xH
def qX(a0:(List vZ))(left1:Int)(i:Int):Option (Out Int (Int)):=do
 if(decide (i<(a0.length:Int))) then
  let x<-idx a0 i
  let y<-fG x left1
  if(decide (y<0)) then
   pure (.ret (-1))
  else
   qX a0 y (W (i+1))
 else
  pure (.done left1)
 partial_fixpoint
theorem zEK(a0:(List vZ)):∀(left1:Int) (i:Int) (o:Out Int (Int)),qX a0 left1 i=some o->∀{B}{I0 I:Imm}{Q p c},I0.le I->(S4 I p a0 c)->NG Q->NO Q->(∀(I':Imm) (left2:Int),o=(.done left2)->I0.le I'->T 27 B Q (.exit 0) I' [] [(1,vI left2)])->(∀r I' aj m',o=(.ret r)->I0.le I'->RS Tryz.prog f56 B (zW  r) I' aj m'->T 27 B Q .ret I' aj m')->J Tryz.prog 27 B (nav (bodyOf f56) [1,1,1,0,1,0]) Q I [] [(0,vS p a0 c),(1,vI left1),(5,vI i)]:=by
 refine qX.partial_correctness a0 _ λaG ih left1 i o N B I0 I Q p c H h hg ho hx hr=>yK hg ho<|zM<|yG [15] rfl<|zH<|yD N ?_ ?_
 ·intro aE N;refine zT<|yE<|zZ<|yJ<|yR 2 [] [18,19] rfl<|bE N λx hy N=>xL rfl rfl h hy ?_;intro ad aF av aq;obtain⟨p1,c1,p2,c2,rfl,h1,h2⟩:=zH3 aq;refine yY 0 av [vS p1 x.Lo c1,vS p2 x.Hi c2] (vA [vS p1 x.Lo c1,vS p2 x.Hi c2]) rfl<|yR 5 [] [22] rfl<|bE N λy aw N=>qJ (zGe x left1 _ aw h1 h2) ?_;intro I0 le;have ⟨h,H⟩:=m2 le h H;refine yW [] [1] rfl<|wJ [25] rfl<|zH<|yD N ?_ ?_
  ·intro aQ N;exact yG [4] rfl<|yS<|zR<|zG<|zG<|hr _ _ _ _ (zB N).symm H ⟨_,_,(.tmp rfl ResV.nil),zO,⟨_,rfl,rfl,rfl⟩⟩
  intro aQ N;exact zT<|zQ<|zH<|zE<|yW [] [5] rfl<|yL<|gJ<|ih y (W (i+1)) _ N H h hg ho hx hr
 intro aE N;exact uQ<|xM<|hx _ _ (zB N).symm H
def jX(a0:(List vZ))(left:Int):Option (Int):=do
 if(decide ((W (left - (a0.length:Int)))<0)) then
  pure (-1)
 else
  match<-qX a0 (W (left - (a0.length:Int))) 0 with
  | .ret r0=>pure r0
  | .done left2=>
   pure (id left2)
theorem zFx:∀a0 left r,jX a0 left=some r->∀{I:Imm}{p c},(S4 I p a0 c)->RT 56 [vS p a0 c,vI left] I [] (zW  r):=by
 intro a0 left r N I p c h;unfold jX at N;refine yM func56 λB=>xZ []<|wJ [1] rfl<|yE<|yG [11] rfl<|zH<|yD N ?_ ?_
 ·intro hc N;refine yG [4] rfl<|yS<|zG ?_;obtain rfl:=zB N;exact xH
 intro hc N;refine zT<|yE<|yG [5] rfl<|uP<|rX [(0,vS p a0 c),(1,vI (W (left - (a0.length:Int)))),(5,vI 0)] ?_;obtain⟨o0,ay,aB⟩:=zF N;refine zEK a0 (W (left - (a0.length:Int))) 0 o0 ay iR h (λ_ _ _ h=>h) (λ_ _ h=>h) ?_ ?_
 ·intro aN left2 heq ai;subst o0;refine zU<|wJ [4] rfl<|zH<|yF ?_;obtain rfl:=zB aB;exact xH
 intro r0 I9 hs9 m9 aC le9 aD;subst aC;refine zR<|zG ?_;obtain rfl:=zB aB;exact yV aD
def kL(a0:tS)(left:Int):Option (Int):=do
 if(decide ((W (left - (a0.Array.l.length:Int)))<0)) then
  pure (-1)
 else
  let y<-sJ a0.Subs (W (left - (a0.Array.l.length:Int)))
  if(decide (y<0)) then
   pure (-1)
  else
   pure (id y)
theorem zBj:∀a0 left r,kL a0 left=some r->∀{I:Imm}{p c},(S4 I p a0.Subs c)->RT 132 [vA [vT a0.Array.l,vS p a0.Subs c],vI left] I [] (zW  r):=by
 intro a0 left r N I p c h;unfold kL at N;refine yM func132 λB=>yJ<|uA [vT a0.Array.l,vS p a0.Subs c] ?_;intro b hb;refine yO [] []<|wG<|yW [0] [1] rfl<|yE<|yG [11] rfl<|zH<|yD N ?_ ?_
 ·intro hc N;refine yG [4] rfl<|yS<|zG ?_;obtain rfl:=zB N;exact xH
 intro hc N;refine zT<|wG<|yR 3 [0] [13,14] rfl<|bE N λy hy N=>qJ (zAG a0.Subs (W (left - (a0.Array.l.length:Int))) _ hy h) λI0 le=>yO [] [(1,vI y)]<|yE<|xZ [(17,.bool (decide (y<0)))]<|zH<|yD N ?_ ?_
 ·intro aE N;refine yG [4] rfl<|yS<|zG ?_;obtain rfl:=zB N;exact xH
 intro aE N;refine zT<|wJ [4] rfl<|zH<|yF ?_;obtain rfl:=zB N;exact xH
mutual
def eG(a0:(List yB))(left:Int):Option (Int):=do
 if(decide ((W (left - (a0.length:Int)))<0)) then
  pure (-1)
 else
  match<-oZ (same a0) (W (left - (a0.length:Int))) (same 0) with
  | .ret r0=>pure r0
  | .done left2=>
   pure (id left2)
 partial_fixpoint
def oZ(a0:(List yB))(left1:Int)(i:Int):Option (Out Int (Int)):=do
 if(decide (i<(a0.length:Int))) then
  let x<-idx a0 i
  let y<-jI (same x) (same left1)
  if(decide (y<0)) then
   pure (.ret (-1))
  else
   oZ (same a0) (same y) (W (i+1))
 else
  pure (.done left1)
 partial_fixpoint
def jI(a0:yB)(left:Int):Option (Int):=do
 let y<-nD a0.Index left
 if(decide (y<0)) then
  pure (-1)
 else
  let y1<-kL a0.Read y
  if(decide (y1<0)) then
   pure (-1)
  else
   let y2<-eG a0.Kids (same y1)
   if(decide (y2<0)) then
    pure (-1)
   else
    pure (id y2)
 partial_fixpoint
end
theorem zF5:(∀(a0:(List yB)) (left:Int) r,eG a0 left=some r->∀{I:Imm}{p c},(S4 I p a0 c)->RT 161 [vS p a0 c,vI left] I [] (zW  r))/\(∀(a0:(List yB)) (left1:Int) (i:Int) o,oZ a0 left1 i=some o->∀{B}{I0 I:Imm}{Q p c},I0.le I->(S4 I p a0 c)->NG Q->NO Q->(∀(I':Imm) (left2:Int),o=(.done left2)->I0.le I'->T 27 B Q (.exit 0) I' [] [(1,vI left2)])->(∀r I' aj m',o=(.ret r)->I0.le I'->RS Tryz.prog f161 B (zW  r) I' aj m'->T 27 B Q .ret I' aj m')->J Tryz.prog 27 B (nav (bodyOf f161) [1,1,1,0,1,0]) Q I [] [(0,vS p a0 c),(1,vI left1),(5,vI i)])/\(∀(a0:yB) (left:Int) r,jI a0 left=some r->∀{I:Imm}{p c p1 c1 p2 c2},(S4 I p a0.Index.Coefs c)->(S4 I p1 a0.Read.Subs c1)->(S4 I p2 a0.Kids c2)->RT 133 [vA [vI a0.Kind,vI a0.Num,vS p a0.Index.Coefs c,vI a0.Index.Const,vT a0.Read.Array.l,vS p1 a0.Read.Subs c1,vS p2 a0.Kids c2],vI left] I [] (zW  r)):=by
 refine eG.mutual_partial_correctness _ _ _ ?_ ?_ ?_
 ·intro F_laws_szExprS_l1 ih_laws_szExprS_l1 a0 left r N I p c h;refine yM func161 λB=>xZ []<|wJ [1] rfl<|yE<|yG [11] rfl<|zH<|yD N ?_ ?_
  ·intro hc N;refine yG [4] rfl<|yS<|zG ?_;obtain rfl:=zB N;exact xH
  intro hc N;refine zT<|yE<|yG [5] rfl<|uP<|rX [(0,vS p a0 c),(1,vI (W (left - (a0.length:Int)))),(5,vI 0)] ?_;obtain⟨o0,ay,aB⟩:=zF N;refine ih_laws_szExprS_l1 a0 (W (left - (a0.length:Int))) 0 o0 ay iR h (λ_ _ _ h=>h) (λ_ _ h=>h) ?_ ?_
  ·intro aN left2 heq ai;subst o0;refine zU<|wJ [4] rfl<|zH<|yF ?_;obtain rfl:=zB aB;exact xH
  intro r0 I9 hs9 m9 aC le9 aD;subst aC;refine zR<|zG ?_;obtain rfl:=zB aB;exact yV aD
 ·intro F_laws_szExprS_l1 F_laws_szExpr ih_laws_szExprS_l1 ih_laws_szExpr a0 left1 i o N B I0 I Q p c H h hg ho hx hr;refine yK hg ho<|zM<|yG [15] rfl<|zH<|yD N ?_ ?_
  ·intro aE N;refine zT<|yE<|zZ<|yJ<|yR 2 [] [18,19] rfl<|bE N λx hy N=>xL rfl rfl h hy ?_;intro ad aF av aq;obtain⟨p1,c1,p2,c2,p3,c3,rfl,h1,h2,h3⟩:=zH4 aq;refine yY 0 av [vI x.Kind,vI x.Num,vS p1 x.Index.Coefs c1,vI x.Index.Const,vT x.Read.Array.l,vS p2 x.Read.Subs c2,vS p3 x.Kids c3] (vA [vI x.Kind,vI x.Num,vS p1 x.Index.Coefs c1,vI x.Index.Const,vT x.Read.Array.l,vS p2 x.Read.Subs c2,vS p3 x.Kids c3]) rfl<|yR 5 [] [22] rfl<|bE N λy aw N=>tG (ih_laws_szExpr x left1 _ aw h1 h2 h3) ?_;rintro I0 aK v2 k2 le - ⟨v03,rfl,rfl,rfl⟩ -;have ⟨h,H⟩:=m2 le h H;refine yW [] [1] rfl<|wJ [25] rfl<|zH<|yD N ?_ ?_
   ·intro aQ N;exact yG [4] rfl<|yS<|zR<|zG<|zG<|hr _ _ _ _ (zB N).symm H ⟨_,_,(.tmp rfl ResV.nil),zO,⟨_,rfl,rfl,rfl⟩⟩
   intro aQ N;exact zT<|zQ<|zH<|zE<|yW [] [5] rfl<|yL<|gJ<|ih_laws_szExprS_l1 a0 y (W (i+1)) _ N H h hg ho hx hr
  intro aE N;exact uQ<|xM<|hx _ _ (zB N).symm H
 intro F_laws_szExprS ih_laws_szExprS a0 left r N I p c p1 c1 p2 c2 h h1 h2;refine yM func133 λB=>yJ<|uA [vI a0.Kind,vI a0.Num,vS p a0.Index.Coefs c,vI a0.Index.Const,vT a0.Read.Array.l,vS p1 a0.Read.Subs c1,vS p2 a0.Kids c2] ?_;intro b hb;refine yO [] []<|wG<|xF 3 [0] [(6,vA [vS p a0.Index.Coefs c,vI a0.Index.Const]),(7,vI left)]<|bE N λy hy N=>qJ (zBi a0.Index left _ hy h) ?_;intro I0 le;have ⟨h1,h2⟩:=m2 le h1 h2;refine yW [] [1] rfl<|yE<|yG [10] rfl<|zH<|yD N ?_ ?_
 ·intro hc N;refine yG [4] rfl<|yS<|zG ?_;obtain rfl:=zB N;exact xH
 intro hc N;refine zT<|wG<|xF 3 [0] [(12,vA [vT a0.Read.Array.l,vS p1 a0.Read.Subs c1]),(13,vI y)]<|bE N λy1 aw N=>qJ (zBj a0.Read y _ aw h1) ?_;intro aN ai;have h2:=h2.mono ai;refine yW [] [1] rfl<|yE<|yG [16] rfl<|zH<|yD N ?_ ?_
 ·intro aE N;refine yG [4] rfl<|yS<|zG ?_;obtain rfl:=zB N;exact xH
 intro aE N;refine zT<|wG<|yR 3 [0] [18,19] rfl<|bE N λy2 aI N=>tG (ih_laws_szExprS a0.Kids y1 _ aI h2) ?_;rintro bf aK v2 k2 ax - ⟨v02,rfl,rfl,rfl⟩ -;refine yW [] [1] rfl<|yE<|yG [22] rfl<|zH<|yD N ?_ ?_
 ·intro aQ N;refine yG [4] rfl<|yS<|zG ?_;obtain rfl:=zB N;exact xH
 intro aQ N;refine zT<|wJ [4] rfl<|zH<|yF ?_;obtain rfl:=zB N;exact xH
theorem zGf:∀a0 left r,jI a0 left=some r->∀{I:Imm}{p c p1 c1 p2 c2},(S4 I p a0.Index.Coefs c)->(S4 I p1 a0.Read.Subs c1)->(S4 I p2 a0.Kids c2)->RT 133 [vA [vI a0.Kind,vI a0.Num,vS p a0.Index.Coefs c,vI a0.Index.Const,vT a0.Read.Array.l,vS p1 a0.Read.Subs c1,vS p2 a0.Kids c2],vI left] I [] (zW  r):=zF5.2.2
end Go.LN
