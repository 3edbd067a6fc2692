/- Helper of the proof (see the last text). -/
import Derived.Test.YtknadcjnkbdpdaaGreatHM5
set_option linter.unusedVariables false
set_option linter.unusedSimpArgs false
namespace Go.LN
open Go.Proofs
set_option maxRecDepth 20000
def sK (hsF:List HA) (r:Int):KT:=fun kk I' hs' v=>
  ∃ v0,hsF=hs'∧v=tupV [v0]∧v0=.int .i64 r
def xA (s:(List zI)) (f0:(zI→Option Bool)) (t8:Int):Option (Out Unit (Int)):=do
 if (decide (t8 < (s.length:Int))) then
  let x←idx s t8
  let y←f0 x
  if y then
   pure (.ret t8)
  else
   xA s f0 (W (t8 + 1))
 else
  pure (.done ())
 partial_fixpoint
theorem oV (s:(List zI)) (f0:(zI→Option Bool)):∀ (t8:Int) (o:Out Unit (Int)),xA s f0 t8=some o→∀ {B}{I0 I:Imm}{Q p c}{fv:Value}{hsF:List HA},I0.le I→(S4 I p s c)→(FV1 Tryz.prog I hsF fv f0)→NG Q→NO Q→(∀ (I':Imm) ,o=(.done ())→I0.le I'→T 19 B Q (.exit 0) I' hsF [])→(∀ r I' hs' m',o=(.ret r)→I0.le I'→RS Tryz.prog Tryz.f165 B (sK hsF r) I' hs' m'→T 19 B Q .ret I' hs' m')→J Tryz.prog 19 B (nav (bodyOf Tryz.f165) [1,0,1,0]) Q I hsF [(0,vS p s c),(1,fv),(7,vI (s.length:Int)),(8,vI t8)]:=by
 refine xA.partial_correctness s f0 _ fun self ih t8 o N B I0 I Q p c fv hsF H h h1 hg ho hx hr=>xD hg ho<|yI [(9,.bool (decide (t8 < (s.length:Int))))]<|yL<|yO N ?_ ?_
 · intro hc N;refine zZ<|yL<|zX<|yI [(5,vI t8)]<|xP<|yG 3 [] [(11,fv),(12,vS p s c),(13,vI t8)]<|bE N fun x hy N=>wD rfl rfl h hy ?_;intro ad ccs hat hrep;obtain ⟨p1,c1,rfl,h2⟩:=qP hrep;refine xT 0 hat (cAccess x p1 c1) (vA (cAccess x p1 c1)) rfl<|bE N fun y hy1 N=>zGR rfl rfl h1 hy1 ⟨_,rfl,(pK ⟨_,rfl,h2⟩)⟩ (List.append_nil _).symm ?_;rintro I0 v01 le rfl;refine uY (hs':=hsF) (List.append_nil _) ?_;have h:=h.mono le;have h1:=h1.mono le;have H:=H.trans le;refine yN rfl<|zE<|yO N ?_ ?_
   · intro hc1 N;exact yI [(4,vI t8)]<|zE<|yC<|yA<|zK<|zK<|hr _ _ _ _ (zB N).symm H ⟨_,_,(.tmp rfl ResV.nil),(fun _ h=>h),⟨_,rfl,rfl,rfl⟩⟩
   intro hc1 N;exact zZ<|zU<|zE<|zR<|yF [] [(8,vI (W (t8 + 1)))]<|xE<|vM [(0,vS p s c),(1,fv),(7,vI (s.length:Int)),(8,vI (W (t8 + 1)))]<|ih (W (t8 + 1)) _ N H h h1 hg ho hx hr
 intro hc N;exact xC<|zO<|zO<|yV []<|hx _  (zB N).symm H
def wM (s:(List zI)) (f0:(zI→Option Bool)):Option (Int):=do
 match←xA s f0 0 with
 | .ret r0=>pure r0
 | .done _ =>
  pure (-1)
theorem nK:∀ s f0 r,wM s f0=some r→∀ {I:Imm}{p c}{fv:Value}{hsF:List HA},(S4 I p s c)→(FV1 Tryz.prog I hsF fv f0)→Ret Tryz.prog 165 [vS p s c,fv] I hsF (sK hsF r):=by
 intro s f0 r N I p c fv hsF h h1;unfold wM at N;refine yB (fn:=Tryz.f165) (c:=(bodyOf Tryz.f165)) Tryz.func165 rfl rfl ?_;rintro B - -;refine yI []<|yL<|yI [(7,vI (s.length:Int)),(8,vI 0)]<|zE<|zX<|vM [(0,vS p s c),(1,fv),(7,vI (s.length:Int)),(8,vI 0)] ?_;obtain ⟨o0,ho0,hMl⟩:=zC N;refine oV s f0 0 o0 ho0 iR h h1 (fun _ _ _ h=>h) (fun _ _ h=>h) ?_ ?_
 · intro I01  heq le1;subst o0;refine zY<|vO [(4,vI (-1))]<|zE<|yC ?_;obtain rfl:=zB hMl;exact xM ⟨_,_,(.tmp rfl ResV.nil),(fun _ h=>h),⟨_,rfl,rfl,rfl⟩⟩
 intro r0 I9 hs9 m9 heq9 le9 hrs9;subst heq9;refine yA<|zK ?_;obtain rfl:=zB hMl;exact xM hrs9
def pX (hsF:List HA) (r:Bool):KT:=fun kk I' hs' v=>
  ∃ v0,hsF=hs'∧v=tupV [v0]∧v0=.bool r
def xQ (s:(List zI)) (f0:(zI→Option Bool)):Option (Bool):=do
 let y←wM s f0
 pure (decide (y ≥ 0))
theorem oW:∀ s f0 r,xQ s f0=some r→∀ {I:Imm}{p c}{fv:Value}{hsF:List HA},(S4 I p s c)→(FV1 Tryz.prog I hsF fv f0)→Ret Tryz.prog 123 [vS p s c,fv] I hsF (pX hsF r):=by
 intro s f0 r N I p c fv hsF h h1;unfold xQ at N;refine yB (fn:=Tryz.f123) (c:=(bodyOf Tryz.f123)) Tryz.func123 rfl rfl ?_;rintro B - -;refine yI []<|xP<|yG 2 [] [(5,vS p s c),(6,fv)]<|bE N fun y hy N=>zCD (hs1:=hsF) (rest:=[]) rfl rfl rfl rfl (by kernel_rfl) rfl (List.append_nil _).symm (nK s f0 _ hy h h1) ?_;rintro I0 hs2 v2 k2 le - ⟨v0,rfl,rfl,rfl⟩ -;refine uY (hs':=hsF) (List.append_nil _) ?_;refine yF [] [(4,.bool (decide (y ≥ 0)))]<|zE<|yC ?_;obtain rfl:=zB N;exact xM ⟨_,_,(.tmp rfl ResV.nil),(fun _ h=>h),⟨_,rfl,rfl,rfl⟩⟩
def uD (a0:zI) (x:zS) (x1:(List Int)):Option (Bool):=do
 let y←uX x a0 x1
 pure (decide (y < 0))
theorem fN:∀ a0 x x1 r,uD a0 x x1=some r→∀ {I:Imm}{p c}{ad:Addr}{p1 c1 p2 c2}{ad1:Addr}{p3 c3},(S4 I p a0.Subs c)→(S4 I p1 x.Arrays c1)→(S4 I p2 x.Parts c2)→(At I ad (cProg x p1 c1 p2 c2))→(S4 I p3 x1 c3)→(At I ad1 [vS p3 x1 c3])→Ret Tryz.prog 162 [vA (cAccess a0 p c),.pointer (some ad),.pointer (some ad1)] I [] (zW  r):=by
 intro a0 x x1 r N I p c ad p1 c1 p2 c2 ad1 p3 c3 h h1 h2 hat h3 hat1;unfold uD at N;refine yB (fn:=Tryz.f162) (c:=(bodyOf Tryz.f162)) Tryz.func162 rfl rfl ?_;rintro B - -;refine yM<|tD (cAccess a0 p c) ?_;intro b hb;refine yF [] []<|xP<|xT 0 hat (cProg x p1 c1 p2 c2) (vA (cProg x p1 c1 p2 c2)) rfl<|yG 2 [0] [(6,vA (cAccess a0 p c))]<|xT 0 hat1 [vS p3 x1 c3] (vS p3 x1 c3) rfl<|bE N fun y hy N=>kD (oK x a0 x1 _ hy h1 h2 h h3) fun I0 le=>yF [] [(4,.bool (decide (y < 0)))]<|zE<|yC ?_;obtain rfl:=zB N;exact vQ
def rT (p:zS) (s:zP) (point:(List Int)):Option (Bool):=do
 let t6←(do
   let y←uX p s.Write point
   if (decide (y ≥ 0)) then
    let y1←oI s.Value
    let y2←xQ y1 (fun x0=>uD x0 p point)
    pure (!y2)
   else
    pure false
     : Option Bool)
 pure (id t6)
theorem eZ:∀ p s point r,rT p s point=some r→∀ {I:Imm}{p1 c p2 c1 p3 c2 p4 c3 p5 c4 p6 c5 p7 c6},(S4 I p1 p.Arrays c)→(S4 I p2 p.Parts c1)→(S4 I p3 s.Write.Subs c2)→(S4 I p4 s.Value.Index.Coefs c3)→(S4 I p5 s.Value.Read.Subs c4)→(S4 I p6 s.Value.Kids c5)→(S4 I p7 point c6)→Ret Tryz.prog 120 [vA (cProg p p1 c p2 c1),vA (cStmt s p3 c2 p4 c3 p5 c4 p6 c5),vS p7 point c6] I [] (zW  r):=by
 intro p s point r N I p1 c p2 c1 p3 c2 p4 c3 p5 c4 p6 c5 p7 c6 h h1 h2 h3 h4 h5 h6;unfold rT at N;refine yB (fn:=Tryz.f120) (c:=(bodyOf Tryz.f120)) Tryz.func120 rfl rfl ?_;rintro B - -;have H:=iS I;refine yM<|tD (cProg p p1 c p2 c1) ?_;intro b hb;refine yJ 0 rfl ?_;intro I0 le hl0;have hat:At I0 ⟨b,0,none⟩ (cProg p p1 c p2 c1):=At.of_blk hl0;have h:=h.mono le;have h1:=h1.mono le;have h2:=h2.mono le;have h3:=h3.mono le;have h4:=h4.mono le;have h5:=h5.mono le;have h6:=h6.mono le;have H:=H.trans le;refine tD (cStmt s p3 c2 p4 c3 p5 c4 p6 c5) ?_;intro b1 hb1;refine tD [vS p7 point c6] ?_;intro b2 hb2;refine yJ 0 rfl ?_;intro I01 le1 hl01;have hat1:At I01 ⟨b2,0,none⟩ [vS p7 point c6]:=At.of_blk hl01;have h:=h.mono le1;have h1:=h1.mono le1;have h2:=h2.mono le1;have h3:=h3.mono le1;have h4:=h4.mono le1;have h5:=h5.mono le1;have h6:=h6.mono le1;have hat:=hat.mono le1;have H:=H.trans le1;refine yF [] []<|zE<|yK ?_;obtain ⟨o0,ho0,hMc⟩:=zC N;refine yU (fun I' hs' m'=>∃ (t6:Bool),o0=t6∧I01.le I'∧hs'=[]∧m'=[(6,.bool t6)]) ?_ ?_
 · have H:=iS I01;refine zR<|xT 0 hat (cProg p p1 c p2 c1) (vA (cProg p p1 c p2 c1)) rfl<|yG 3 [0] [(9,vA (cAccess s.Write p3 c2))]<|xT 0 hat1 [vS p7 point c6] (vS p7 point c6) rfl ?_;obtain ⟨y,hy,N⟩:=zC ho0;refine kD (oK p s.Write point _ hy h h1 h2 h6) ?_;intro I03 le2;have h:=h.mono le2;have h1:=h1.mono le2;have hat:=hat.mono le2;have h6:=h6.mono le2;have hat1:=hat1.mono le2;have h3:=h3.mono le2;have h4:=h4.mono le2;have h5:=h5.mono le2;have H:=H.trans le2;refine yG 7 [] [(13,.bool (decide (y ≥ 0)))] ?_;cases hc:(decide (y ≥ 0)) with
   | true =>
    have hM0:=zQ hc N
    try rw [hc]
    refine yG 9 [0] [(15,vA (cExpr s.Value p4 c3 p5 c4 p6 c5))] ?_;obtain ⟨y1,hy1,N⟩:=zC hM0;refine xX (zAj s.Value _ hy1 h3 h4 h5) ?_;rintro I04 hs2 v2 k2 le3 - ⟨v01,rfl,rfl,h8⟩ -;have h:=h.mono le3;have h1:=h1.mono le3;have hat:=hat.mono le3;have h6:=h6.mono le3;have hat1:=hat1.mono le3;have H:=H.trans le3;obtain ⟨p8,c7,rfl⟩:=h8.form;refine yG 11 [] [(17,.func (.func 162) ⟨[]⟩ ⟨[vP b 0,vP b2 0]⟩)] ?_;have hf0:FV1 Tryz.prog I04 [] (.func (.func 162) ⟨[]⟩ ⟨[vP b 0,vP b2 0]⟩) (fun x0=>uD x0 p point):=by
      refine FV1.intro ?_;intro I1 le1 x0 r u0 hF k0;obtain ⟨_,rfl,k0⟩:=k0;obtain ⟨p9,c8,rfl,h9⟩:=qP k0;exact (fN x0 p point r hF h9 (h.mono le1) (h1.mono le1) (hat.mono le1) (h6.mono le1) (hat1.mono le1)).mono (by rintro k i hs u ⟨v0,rfl,rfl,h⟩; exact ⟨rfl,h⟩)
    obtain ⟨y2,hy2,N⟩:=zC N;refine xX (oW y1 (fun x0=>uD x0 p point) _ hy2 h8 hf0) ?_;rintro I05 hs2 v2 k2 le4 - ⟨v03,rfl,rfl,rfl⟩ -;have H:=H.trans le4;exact yF [] [(6,.bool (!y2))]<|wB zT<|yV [(6,.bool (!y2))]<|zV ⟨_,(zB N).symm,H,rfl,rfl⟩
   | false =>
    have hM01:=zN hc N
    try rw [hc]
    exact yF [] [(6,vF)]<|wB zT<|yV [(6,vF)]<|zV ⟨_,(zB hM01).symm,H,rfl,rfl⟩
 rintro I02 hs2 m2 ⟨t6,heq,le5,rfl,rfl⟩;subst o0;refine zE<|yC ?_;obtain rfl:=zB hMc;exact vQ
def sT (r:(List zM)×Bool):KT:=fun kk I' hs' v=>
  ∃ v0 v1,hs'=[]∧v=tupV [v0,v1]∧SL I' v0 r.1∧v1=.bool r.2
def wN (p:zS) (t26:Int) (x:zL) (x1:(List Int)) (out4:List zM) (t64:Int):Option (Out (List zM) ((List zM)×Bool)):=do
 if (decide (t64 < (x.Body.length:Int))) then
  let x2←idx x.Body t64
  let y7←rT p x2 x1
  if (!y7) then
   pure (.ret (([]:List zM),false))
  else
   let y8←tV x1
   let out6←app 40 out4 ([(zM.mk t26 t64 y8)]:List zM)
   wN p t26 x x1 out6 (W (t64 + 1))
 else
  pure (.done out4)
 partial_fixpoint
theorem jN (p:zS) (t26:Int) (x:zL) (x1:(List Int)):∀ (out4:List zM) (t64:Int) (o:Out (List zM) ((List zM)×Bool)),wN p t26 x x1 out4 t64=some o→∀ {B}{I0 I:Imm}{Q}{y2:(List (List Int))}{t54:Int}{p1 c p2 c1}{b:Nat}{p5 c4 p6 c5}{b1:Nat}{p7 c6 p14 c13 p15 c14 cs4},I0.le I→(S4 I p5 x.Nest c4)→(S4 I p6 x.Body c5)→(At I ⟨b1,0,none⟩ (cPart x p5 c4 p6 c5))→(S4 I p14 x1 c13)→(S4 I p2 p.Parts c1)→(S4 I p7 y2 c6)→(S4 I p1 p.Arrays c)→(RL I cs4 out4)→NG Q→NO Q→(∀ (I':Imm) (out5:List zM) (p16:Option Addr) (c15:Nat) (cs5:List Value),o=(.done out5)→I0.le I'→(RL I' cs5 out5)→T 89 B Q (.exit 4) I' [hO zM (vS p16 out5 c15) cs5,hB b (cProg p p1 c p2 c1)] [(1,vP b 0),(4,vS p16 out5 c15),(5,vI t26),(6,vP b1 0),(24,vS p2 p.Parts c1),(25,vI (p.Parts.length:Int)),(26,vI t26),(52,vS p7 y2 c6),(53,vI (y2.length:Int)),(54,vI t54)])→(∀ r I' hs' m',o=(.ret r)→I0.le I'→RS Tryz.prog Tryz.f67 B (sT  r) I' hs' m'→T 89 B Q .ret I' hs' m')→J Tryz.prog 89 B (nav (bodyOf Tryz.f67) [1,1,1,0,1,0,0,1,1,0,0,1,1,1,1,0,0,1,1,0,0,1,1,1,0]) Q I [hO zM (vS p15 out4 c14) cs4,hB b (cProg p p1 c p2 c1)] [(1,vP b 0),(4,vS p15 out4 c14),(5,vI t26),(6,vP b1 0),(10,vS p14 x1 c13),(24,vS p2 p.Parts c1),(25,vI (p.Parts.length:Int)),(26,vI t26),(52,vS p7 y2 c6),(53,vI (y2.length:Int)),(54,vI t54),(62,vS p6 x.Body c5),(63,vI (x.Body.length:Int)),(64,vI t64)]:=by
 refine wN.partial_correctness p t26 x x1 _ fun self ih out4 t64 o N B I0 I Q y2 t54 p1 c p2 c1 b p5 c4 p6 c5 b1 p7 c6 p14 c13 p15 c14 cs4 H h6 h7 hat1 h18 h1 h8 h h20 hg ho hx hr=>xD hg ho<|yI [(65,.bool (decide (t64 < (x.Body.length:Int))))]<|yL<|yO N ?_ ?_
 · intro hc8 N;refine zZ<|yL<|zX<|yM<|yG 1 [] [(66,vI t64)]<|bE N fun x2 hy7 N=>wD rfl rfl h7 hy7 ?_;intro ad2 ccs2 hat3 hrep2;obtain ⟨p17,c16,p18,c17,p19,c18,p20,c19,rfl,h22,h23,h24,h25⟩:=qK hrep2;refine xT 0 hat3 (cStmt x2 p17 c16 p18 c17 p19 c18 p20 c19) (vA (cStmt x2 p17 c16 p18 c17 p19 c18 p20 c19)) rfl<|uK [vT ([]),z0,vI 0,vI 0,z0,vI 0,vT ([]),z0,z0] ?_;intro b2 hb2;refine yG 5 [] [(11,vI t64)]<|xN 0 (cStmt x2 p17 c16 p18 c17 p19 c18 p20 c19) [hB b2 (cStmt x2 p17 c16 p18 c17 p19 c18 p20 c19),hO zM (vS p15 out4 c14) cs4,hB b (cProg p p1 c p2 c1)] rfl rfl rfl rfl<|yN rfl<|yL<|yM<|yG 3 [2,0] [(69,vA (cProg p p1 c p2 c1)),(70,vA (cStmt x2 p17 c16 p18 c17 p19 c18 p20 c19)),(71,vS p14 x1 c13)]<|bE N fun y7 hy8 N=>vL (eZ p x2 x1 _ hy8 h h1 h22 h23 h24 h25 h18) ?_;intro I08 le8;have h20:=iM le8 h20;have h6:=h6.mono le8;have h7:=h7.mono le8;have hat1:=hat1.mono le8;have h18:=h18.mono le8;have h1:=h1.mono le8;have h8:=h8.mono le8;have h:=h.mono le8;have H:=H.trans le8;refine yF [] [(73,.bool (!y7))]<|zE<|yO N ?_ ?_
   · intro hc9 N;exact yI [(2,z0),(3,vF)]<|zE<|yC<|zK<|yA<|zK<|zK<|hr _ _ _ _ (zB N).symm H ⟨_,_,(.tmp rfl (.tmp rfl ResV.nil)),zT,⟨_,_,rfl,rfl,(SL.nil _),rfl⟩⟩
   intro hc9 N;refine zZ<|zE<|zR<|yG 4 [] [(74,vS p15 out4 c14),(75,vI t26),(76,vI t64),(77,vS p14 x1 c13)]<|bE N fun y8 hy9 N=>xX (nG x1 _ hy9 h18) ?_;rintro I09 hs2 v2 k2 le9 - ⟨p21,c20,cs6,rfl,rfl,h27⟩ -;have h6:=h6.mono le9;have h7:=h7.mono le9;have hat1:=hat1.mono le9;have h18:=h18.mono le9;have h1:=h1.mono le9;have h8:=h8.mono le9;have h20:=iM le9 h20;have h:=h.mono le9;have H:=H.trans le9;refine yG 6 [] [(79,vA [vI t26,vI t64,vS p21 y8 c20])]<|yJ 0 rfl ?_;intro I010 le10 hl01;have h28:=SL.of_frozen hl01 le10 h27;have h6:=h6.mono le10;have h7:=h7.mono le10;have hat1:=hat1.mono le10;have h18:=h18.mono le10;have h1:=h1.mono le10;have h8:=h8.mono le10;have h20:=iM le10 h20;have h:=h.mono le10;have H:=H.trans le10;refine xW [vI t26,vI t64,vS p21 y8 c20] zM ?_;intro b3 hb3;have h29:RL I010 [vI t26,vI t64,vS p21 y8 c20] ([(zM.mk t26 t64 y8)]:List zM):=⟨[vI t26,vI t64,vS p21 y8 c20],_,rfl,rfl,(nN ⟨_,rfl,h28⟩),rfl⟩;obtain ⟨out6,hy10,N⟩:=zC N;exact qZ 29 3 2 rfl rfl rfl h20 (.inr ⟨0,rfl⟩) h29 hy10 fun p22 c21 cs7 h30=>rP (yH [1,2,3] (hs':=[hB b2 (cStmt x2 p17 c16 p18 c17 p19 c18 p20 c19),hO zM (vS p22 out6 c21) cs7,hB b (cProg p p1 c p2 c1)]))<|yF [] [(4,vS p22 out6 c21)]<|zU<|zE<|zR<|yF [] [(64,vI (W (t64 + 1)))]<|xE<|pJ (yD [1,2] rfl (by decide))<|vM [(1,vP b 0),(4,vS p22 out6 c21),(5,vI t26),(6,vP b1 0),(10,vS p14 x1 c13),(24,vS p2 p.Parts c1),(25,vI (p.Parts.length:Int)),(26,vI t26),(52,vS p7 y2 c6),(53,vI (y2.length:Int)),(54,vI t54),(62,vS p6 x.Body c5),(63,vI (x.Body.length:Int)),(64,vI (W (t64 + 1)))]<|ih out6 (W (t64 + 1)) _ N H h6 h7 hat1 h18 h1 h8 h h30 hg ho hx hr
 intro hc8 N;exact xC<|zO<|zO<|yV [(1,vP b 0),(4,vS p15 out4 c14),(5,vI t26),(6,vP b1 0),(24,vS p2 p.Parts c1),(25,vI (p.Parts.length:Int)),(26,vI t26),(52,vS p7 y2 c6),(53,vI (y2.length:Int)),(54,vI t54)]<|hx _ _ _ _ _ (zB N).symm H h20
def wO (p:zS) (t26:Int) (x:zL) (y2:(List (List Int))) (out2:List zM) (t54:Int):Option (Out (List zM) ((List zM)×Bool)):=do
 if (decide (t54 < (y2.length:Int))) then
  let x1←idx y2 t54
  let y6←nE x1
  if (!y6) then
   pure (.ret (([]:List zM),false))
  else
   match←wN p t26 x x1 out2 0 with
   | .ret r0=>pure (.ret r0)
   | .done out5 =>
    wO p t26 x y2 out5 (W (t54 + 1))
 else
  pure (.done out2)
 partial_fixpoint
theorem jO (p:zS) (t26:Int) (x:zL) (y2:(List (List Int))):∀ (out2:List zM) (t54:Int) (o:Out (List zM) ((List zM)×Bool)),wO p t26 x y2 out2 t54=some o→∀ {B}{I0 I:Imm}{Q p1 c p2 c1}{b:Nat}{p5 c4 p6 c5}{b1:Nat}{p7 c6 p12 c11 cs2},I0.le I→(S4 I p5 x.Nest c4)→(S4 I p6 x.Body c5)→(At I ⟨b1,0,none⟩ (cPart x p5 c4 p6 c5))→(S4 I p2 p.Parts c1)→(S4 I p7 y2 c6)→(S4 I p1 p.Arrays c)→(RL I cs2 out2)→NG Q→NO Q→(∀ (I':Imm) (out3:List zM) (p13:Option Addr) (c12:Nat) (cs3:List Value),o=(.done out3)→I0.le I'→(RL I' cs3 out3)→T 89 B Q (.exit 2) I' [hO zM (vS p13 out3 c12) cs3,hB b (cProg p p1 c p2 c1)] [(1,vP b 0),(4,vS p13 out3 c12),(24,vS p2 p.Parts c1),(25,vI (p.Parts.length:Int)),(26,vI t26)])→(∀ r I' hs' m',o=(.ret r)→I0.le I'→RS Tryz.prog Tryz.f67 B (sT  r) I' hs' m'→T 89 B Q .ret I' hs' m')→J Tryz.prog 89 B (nav (bodyOf Tryz.f67) [1,1,1,0,1,0,0,1,1,0,0,1,1,1,1,0]) Q I [hO zM (vS p12 out2 c11) cs2,hB b (cProg p p1 c p2 c1)] [(1,vP b 0),(4,vS p12 out2 c11),(5,vI t26),(6,vP b1 0),(24,vS p2 p.Parts c1),(25,vI (p.Parts.length:Int)),(26,vI t26),(52,vS p7 y2 c6),(53,vI (y2.length:Int)),(54,vI t54)]:=by
 refine wO.partial_correctness p t26 x y2 _ fun self ih out2 t54 o N B I0 I Q p1 c p2 c1 b p5 c4 p6 c5 b1 p7 c6 p12 c11 cs2 H h6 h7 hat1 h1 h8 h h16 hg ho hx hr=>xD hg ho<|yI [(55,.bool (decide (t54 < (y2.length:Int))))]<|yL<|yO N ?_ ?_
 · intro hc6 N;refine zZ<|yL<|zX<|yM<|bE N fun x1 hy5 N=>wD rfl rfl h8 hy5 ?_;intro ad1 ccs1 hat2 hrep1;obtain ⟨v011,rfl,h18⟩:=hrep1;obtain ⟨p14,c13,rfl⟩:=h18.form;refine xT 0 hat2 [vS p14 x1 c13] (vS p14 x1 c13) rfl<|yF [] [(10,vS p14 x1 c13)]<|yL<|yM<|yG 1 [] [(58,vS p14 x1 c13)]<|bE N fun y6 hy6 N=>vL (dJ x1 _ hy6 h18) ?_;intro I07 le7;have h16:=iM le7 h16;have h6:=h6.mono le7;have h7:=h7.mono le7;have hat1:=hat1.mono le7;have h18:=h18.mono le7;have h1:=h1.mono le7;have h8:=h8.mono le7;have h:=h.mono le7;have H:=H.trans le7;refine yF [] [(60,.bool (!y6))]<|zE<|yO N ?_ ?_
   · intro hc7 N;exact yI [(2,z0),(3,vF)]<|zE<|yC<|zK<|yA<|zK<|zK<|hr _ _ _ _ (zB N).symm H ⟨_,_,(.tmp rfl (.tmp rfl ResV.nil)),zT,⟨_,_,rfl,rfl,(SL.nil _),rfl⟩⟩
   intro hc7 N;refine zZ<|xP<|yG 1 [] [(61,vP b1 1)]<|xT 1 hat1 [vS p6 x.Body c5] (vS p6 x.Body c5) rfl<|yF [] [(63,vI (x.Body.length:Int)),(64,vI 0)]<|zE<|zX<|vM [(1,vP b 0),(4,vS p12 out2 c11),(5,vI t26),(6,vP b1 0),(10,vS p14 x1 c13),(24,vS p2 p.Parts c1),(25,vI (p.Parts.length:Int)),(26,vI t26),(52,vS p7 y2 c6),(53,vI (y2.length:Int)),(54,vI t54),(62,vS p6 x.Body c5),(63,vI (x.Body.length:Int)),(64,vI 0)] ?_;obtain ⟨o02,ho02,hMl⟩:=zC N;refine jN p t26 x x1 out2 0 o02 ho02 iR h6 h7 hat1 h18 h1 h8 h h16 (fun _ _ _ h=>hg _ _ _ h) (fun _ _ h=>ho _ _ h) ?_ ?_
   · intro I011 out5 p16 c15 cs5 heq2 le11 h21;subst o02;have h6:=h6.mono le11;have h7:=h7.mono le11;have hat1:=hat1.mono le11;have h1:=h1.mono le11;have h8:=h8.mono le11;have h:=h.mono le11;have H:=H.trans le11;exact zY<|zU<|zE<|zR<|yF [] [(54,vI (W (t54 + 1)))]<|xE<|vM [(1,vP b 0),(4,vS p16 out5 c15),(5,vI t26),(6,vP b1 0),(24,vS p2 p.Parts c1),(25,vI (p.Parts.length:Int)),(26,vI t26),(52,vS p7 y2 c6),(53,vI (y2.length:Int)),(54,vI (W (t54 + 1)))]<|ih out5 (W (t54 + 1)) _ hMl H h6 h7 hat1 h1 h8 h h21 hg ho hx hr
   intro r0 I9 hs9 m9 heq9 le9 hrs9;subst heq9;exact yA<|yA<|zK<|zK<|hr _ _ _ _ (zB hMl).symm (H.trans le9) hrs9
 intro hc6 N;exact xC<|zO<|zO<|yV [(1,vP b 0),(4,vS p12 out2 c11),(24,vS p2 p.Parts c1),(25,vI (p.Parts.length:Int)),(26,vI t26)]<|hx _ _ _ _ _ (zB N).symm H h16
def wP (p:zS) (out:List zM) (t26:Int):Option (Out (List zM) ((List zM)×Bool)):=do
 if (decide (t26 < (p.Parts.length:Int))) then
  let x←idx p.Parts t26
  let (y2,y3)←oH x.Nest
  let t51←(do
    if (!y3) then
     pure true
    else
     let y4←xV (x.Body.length:Int) 1 4
     if (!y4) then
      pure true
     else
      let y5←xU x.Body (fun x0=>wS x0 x)
      pure (id y5)
      : Option Bool)
  if t51 then
   pure (.ret (([]:List zM),false))
  else
   match←wO p t26 x y2 out 0 with
   | .ret r0=>pure (.ret r0)
   | .done out3 =>
    wP p out3 (W (t26 + 1))
 else
  pure (.done out)
 partial_fixpoint
theorem jP (p:zS):∀ (out:List zM) (t26:Int) (o:Out (List zM) ((List zM)×Bool)),wP p out t26=some o→∀ {B}{I0 I:Imm}{Q p1 c p2 c1}{b:Nat}{p3 c2 cs},I0.le I→(S4 I p2 p.Parts c1)→(S4 I p1 p.Arrays c)→(RL I cs out)→NG Q→NO Q→(∀ (I':Imm) (out1:List zM) (p4:Option Addr) (c3:Nat) (cs1:List Value),o=(.done out1)→I0.le I'→(RL I' cs1 out1)→T 89 B Q (.exit 0) I' [hO zM (vS p4 out1 c3) cs1] [(4,vS p4 out1 c3)])→(∀ r I' hs' m',o=(.ret r)→I0.le I'→RS Tryz.prog Tryz.f67 B (sT  r) I' hs' m'→T 89 B Q .ret I' hs' m')→J Tryz.prog 89 B (nav (bodyOf Tryz.f67) [1,1,1,0,1,0]) Q I [hO zM (vS p3 out c2) cs,hB b (cProg p p1 c p2 c1)] [(1,vP b 0),(4,vS p3 out c2),(24,vS p2 p.Parts c1),(25,vI (p.Parts.length:Int)),(26,vI t26)]:=by
 refine wP.partial_correctness p _ fun self ih out t26 o N B I0 I Q p1 c p2 c1 b p3 c2 cs H h1 h h4 hg ho hx hr=>xD hg ho<|yI [(27,.bool (decide (t26 < (p.Parts.length:Int))))]<|yL<|yO N ?_ ?_
 · intro hc2 N;refine zZ<|yL<|zX<|yM<|yG 1 [] [(28,vI t26)]<|bE N fun x hy1 N=>wD rfl rfl h1 hy1 ?_;intro ad ccs hat hrep;obtain ⟨p5,c4,p6,c5,rfl,h6,h7⟩:=wT hrep;refine xT 0 hat (cPart x p5 c4 p6 c5) (vA (cPart x p5 c4 p6 c5)) rfl<|uK zTwo ?_;intro b1 hb1;refine yG 5 [] [(5,vI t26)]<|xN 0 (cPart x p5 c4 p6 c5) [hB b1 (cPart x p5 c4 p6 c5),hO zM (vS p3 out c2) cs,hB b (cProg p p1 c p2 c1)] rfl rfl rfl rfl<|yN rfl<|xP<|yG 2 [0] [(33,vS p5 x.Nest c4)] ?_;obtain ⟨⟨y2,y3⟩,hy2,N⟩:=zC N;refine xX (zBG x.Nest _ hy2 h6) ?_;rintro I02 hs2 v2 k2 le2 - ⟨v03,v04,rfl,rfl,h8,rfl⟩ -;have h4:=iM le2 h4;have h1:=h1.mono le2;have h6:=h6.mono le2;have h7:=h7.mono le2;have h:=h.mono le2;have H:=H.trans le2;obtain ⟨p7,c6,rfl⟩:=h8.form;refine yF [] [(7,vS p7 y2 c6),(8,.bool y3)]<|yL<|yK<|pQ 0 rfl ?_;intro I03 le3 hl0;have hat1:At I03 ⟨b1,0,none⟩ (cPart x p5 c4 p6 c5):=At.of_blk hl0;have h4:=iM le3 h4;have h6:=h6.mono le3;have h7:=h7.mono le3;have h8:=h8.mono le3;have h1:=h1.mono le3;have h:=h.mono le3;have H:=H.trans le3;obtain ⟨o01,ho01,hMc1⟩:=zC N;refine yU (fun I' hs' m'=>∃ (t51:Bool),o01=t51∧I03.le I'∧hs'=[hO zM (vS p3 out c2) cs,hB b (cProg p p1 c p2 c1)]∧m'=[(1,vP b 0),(4,vS p3 out c2),(5,vI t26),(6,vP b1 0),(7,vS p7 y2 c6),(24,vS p2 p.Parts c1),(25,vI (p.Parts.length:Int)),(26,vI t26),(51,.bool t51)]) ?_ ?_
   · have H:=iS I03;refine zR<|yG 3 [] [(39,.bool (!y3))] ?_;cases hc3:(!y3) with
     | true =>
      have hM02:=zQ hc3 ho01
      try rw [hc3]
      exact yF [] [(51,vY)]<|yV [(1,vP b 0),(4,vS p3 out c2),(5,vI t26),(6,vP b1 0),(7,vS p7 y2 c6),(24,vS p2 p.Parts c1),(25,vI (p.Parts.length:Int)),(26,vI t26),(51,vY)]<|zV ⟨_,(zB hM02).symm,H,rfl,rfl⟩
     | false =>
      have hM03:=zN hc3 ho01
      try rw [hc3]
      refine yG 4 [] [(40,vP b1 1)]<|xT 1 hat1 [vS p6 x.Body c5] (vS p6 x.Body c5) rfl<|yG 6 [] [(42,vI (x.Body.length:Int))] ?_;obtain ⟨y4,hy3,N⟩:=zC hM03;refine vL (xR (x.Body.length:Int) 1 4 _ hy3 ) ?_;intro I05 le4;have h6:=h6.mono le4;have h7:=h7.mono le4;have hat1:=hat1.mono le4;have h:=h.mono le4;have H:=H.trans le4;refine yG 10 [] [(46,.bool (!y4))] ?_;cases hc4:(!y4) with
      | true =>
       have hM04:=zQ hc4 N
       try rw [hc4]
       exact yF [] [(51,vY)]<|yV [(1,vP b 0),(4,vS p3 out c2),(5,vI t26),(6,vP b1 0),(7,vS p7 y2 c6),(24,vS p2 p.Parts c1),(25,vI (p.Parts.length:Int)),(26,vI t26),(51,vY)]<|zV ⟨_,(zB hM04).symm,H,rfl,rfl⟩
      | false =>
       have hM05:=zN hc4 N
       try rw [hc4]
       refine yG 11 [] [(47,vP b1 1)]<|xT 1 hat1 [vS p6 x.Body c5] (vS p6 x.Body c5) rfl<|yG 13 [] [(49,.func (.func 119) ⟨[]⟩ ⟨[vP b1 0]⟩)] ?_;have hf0:FV1 Tryz.prog I05 [] (.func (.func 119) ⟨[]⟩ ⟨[vP b1 0]⟩) (fun x0=>wS x0 x):=by
         refine FV1.intro ?_;intro I1 le1 x0 r u0 hF k0;obtain ⟨_,rfl,k0⟩:=k0;obtain ⟨p8,c7,p9,c8,p10,c9,p11,c10,rfl,h11,h12,h13,h14⟩:=qK k0;exact (jW x0 x r hF h11 h12 h13 h14 (h6.mono le1) (h7.mono le1) (hat1.mono le1)).mono (by rintro k i hs u ⟨v0,rfl,rfl,h⟩; exact ⟨rfl,h⟩)
       obtain ⟨y5,hy4,N⟩:=zC hM05;refine xX (nT x.Body (fun x0=>wS x0 x) _ hy4 h7 hf0) ?_;rintro I06 hs2 v2 k2 le5 - ⟨v010,rfl,rfl,rfl⟩ -;have H:=H.trans le5;exact yF [] [(51,.bool y5)]<|yV [(1,vP b 0),(4,vS p3 out c2),(5,vI t26),(6,vP b1 0),(7,vS p7 y2 c6),(24,vS p2 p.Parts c1),(25,vI (p.Parts.length:Int)),(26,vI t26),(51,.bool y5)]<|zV ⟨_,(zB N).symm,H,rfl,rfl⟩
   rintro I04 hs2 m2 ⟨t51,heq1,le6,rfl,rfl⟩;subst o01;have h4:=iM le6 h4;have h6:=h6.mono le6;have h7:=h7.mono le6;have hat1:=hat1.mono le6;have h8:=h8.mono le6;have h1:=h1.mono le6;have h:=h.mono le6;have H:=H.trans le6;refine zE<|yO hMc1 ?_ ?_
   · intro hc5 N;exact yI [(2,z0),(3,vF)]<|zE<|yC<|zK<|yA<|zK<|zK<|hr _ _ _ _ (zB N).symm H ⟨_,_,(.tmp rfl (.tmp rfl ResV.nil)),zT,⟨_,_,rfl,rfl,(SL.nil _),rfl⟩⟩
   intro hc5 N;refine zZ<|vO [(52,vS p7 y2 c6),(53,vI (y2.length:Int)),(54,vI 0)]<|zE<|zX<|vM [(1,vP b 0),(4,vS p3 out c2),(5,vI t26),(6,vP b1 0),(24,vS p2 p.Parts c1),(25,vI (p.Parts.length:Int)),(26,vI t26),(52,vS p7 y2 c6),(53,vI (y2.length:Int)),(54,vI 0)] ?_;obtain ⟨o03,ho03,hMl1⟩:=zC N;refine jO p t26 x y2 out 0 o03 ho03 iR h6 h7 hat1 h1 h8 h h4 (fun _ _ _ h=>hg _ _ _ h) (fun _ _ h=>ho _ _ h) ?_ ?_
   · intro I012 out3 p13 c12 cs3 heq3 le12 h17;subst o03;have h1:=h1.mono le12;have h:=h.mono le12;have H:=H.trans le12;exact zY<|zU<|zE<|zR<|yF [] [(26,vI (W (t26 + 1)))]<|xE<|vM [(1,vP b 0),(4,vS p13 out3 c12),(24,vS p2 p.Parts c1),(25,vI (p.Parts.length:Int)),(26,vI (W (t26 + 1)))]<|ih out3 (W (t26 + 1)) _ hMl1 H h1 h h17 hg ho hx hr
   intro r0 I9 hs9 m9 heq9 le9 hrs9;subst heq9;exact yA<|yA<|zK<|zK<|hr _ _ _ _ (zB hMl1).symm (H.trans le9) hrs9
 intro hc2 N;exact xC<|zO<|zO<|wB (yD [0] rfl (by decide))<|yV [(4,vS p3 out c2)]<|hx _ _ _ _ _ (zB N).symm H h4
def sI (p:zS):Option ((List zM)×Bool):=do
 let t22←(do
   let y←nV p.Arrays
   if (!y) then
    pure true
   else
    pure (decide ((p.Parts.length:Int) > 4))
     : Option Bool)
 if t22 then
  pure (([]:List zM),false)
 else
  match←wP p ([]:List zM) 0 with
  | .ret r0=>pure r0
  | .done out1 =>
   pure (out1,(decide ((out1.length:Int) ≤ 120)))
theorem gQ:∀ p r,sI p=some r→∀ {I:Imm}{p1 c p2 c1},(S4 I p1 p.Arrays c)→(S4 I p2 p.Parts c1)→Ret Tryz.prog 67 [vA (cProg p p1 c p2 c1)] I [] (sT  r):=by
 intro p r N I p1 c p2 c1 h h1;unfold sI at N;refine yB (fn:=Tryz.f67) (c:=(bodyOf Tryz.f67)) Tryz.func67 rfl rfl ?_;rintro B - -;have H:=iS I;refine yM<|tD (cProg p p1 c p2 c1) ?_;intro b hb;refine yF [] []<|yL<|yK ?_;obtain ⟨o0,ho0,hMc⟩:=zC N;refine yU (fun I' hs' m'=>∃ (t22:Bool),o0=t22∧I.le I'∧hs'=[hB b (cProg p p1 c p2 c1)]∧m'=[(1,vP b 0),(22,.bool t22)]) ?_ ?_
 · have H:=iS I;refine zR<|yG 2 [0] [(14,vS p1 p.Arrays c)] ?_;obtain ⟨y,hy,N⟩:=zC ho0;refine vL (zC3 p.Arrays _ hy h) ?_;intro I01 le;have H:=H.trans le;refine yG 5 [] [(17,.bool (!y))] ?_;cases hc:(!y) with
   | true =>
    have hM0:=zQ hc N
    try rw [hc]
    exact yF [] [(22,vY)]<|yV [(1,vP b 0),(22,vY)]<|zV ⟨_,(zB hM0).symm,H,rfl,rfl⟩
   | false =>
    have hM01:=zN hc N
    try rw [hc]
    exact yF [0] [(22,.bool (decide ((p.Parts.length:Int) > 4)))]<|yV [(1,vP b 0),(22,.bool (decide ((p.Parts.length:Int) > 4)))]<|zV ⟨_,(zB hM01).symm,H,rfl,rfl⟩
 rintro I0 hs2 m2 ⟨t22,heq,le1,rfl,rfl⟩;subst o0;have h:=h.mono le1;have h1:=h1.mono le1;refine zE<|yO hMc ?_ ?_
 · intro hc1 N;refine yI [(2,z0),(3,vF)]<|zE<|yC<|zK ?_;obtain rfl:=zB N;exact xM ⟨_,_,(.tmp rfl (.tmp rfl ResV.nil)),zT,⟨_,_,rfl,rfl,(SL.nil _),rfl⟩⟩
 intro hc1 N;refine zZ<|vO [(4,z0)]<|yL<|yM<|yF [0] [(24,vS p2 p.Parts c1),(25,vI (p.Parts.length:Int)),(26,vI 0)]<|zE<|zX<|vM [(1,vP b 0),(4,z0),(24,vS p2 p.Parts c1),(25,vI (p.Parts.length:Int)),(26,vI 0)]<|pJ (tE (Rp.sz zM)) ?_;have h3:RL I0 [] ([]:List zM):=RepL.nil;obtain ⟨o04,ho04,hMl2⟩:=zC N;refine jP p ([]:List zM) 0 o04 ho04 iR h1 h h3 (fun _ _ _ h=>h) (fun _ _ h=>h) ?_ ?_
 · intro I013 out1 p4 c3 cs1 heq4 le13 h5;subst o04;refine zY<|vO [(2,vS p4 out1 c3),(3,.bool (decide ((out1.length:Int) ≤ 120)))]<|zE<|yC<|xO 0 rfl ?_;intro I014 le14 hl02;have h31:=SL.of_frozen hl02 le14 h5;obtain rfl:=zB hMl2;exact xM ⟨_,_,(.tmp rfl (.tmp rfl ResV.nil)),zT,⟨_,_,rfl,rfl,h31,rfl⟩⟩
 intro r0 I9 hs9 m9 heq9 le9 hrs9;subst heq9;refine yA<|zK ?_;obtain rfl:=zB hMl2;exact xM hrs9
def pE (p:zS):Option (Bool):=do
 let (y1,y2)←sI p
 pure (id y2)
theorem zAO:∀ p r,pE p=some r→∀ {I:Imm}{p1 c p2 c1},(S4 I p1 p.Arrays c)→(S4 I p2 p.Parts c1)→Ret Tryz.prog 47 [vA (cProg p p1 c p2 c1)] I [] (zW  r):=by
 intro p r N I p1 c p2 c1 h h1;unfold pE at N;refine yB (fn:=Tryz.f47) (c:=(bodyOf Tryz.f47)) Tryz.func47 rfl rfl ?_;rintro B - -;refine yM<|tD (cProg p p1 c p2 c1) ?_;intro b hb;refine yF [] []<|xP<|yG 1 [0] [(6,vA (cProg p p1 c p2 c1))] ?_;obtain ⟨⟨y1,y2⟩,hy,N⟩:=zC N;refine xX (gQ p _ hy h h1) ?_;rintro I0 hs2 v2 k2 le - ⟨v0,v01,rfl,rfl,h2,rfl⟩ -;obtain ⟨p3,c2,rfl⟩:=h2.form;refine yF [] [(4,.bool y2)]<|vO [(2,.bool y2)]<|zE<|yC ?_;obtain rfl:=zB N;exact vQ
def rL (nest:(List zD)) (p1:(List Int)) (t26:Int):Option (Out Unit (Bool)):=do
 if (decide (t26 < (nest.length:Int))) then
  let x←idx nest t26
  let l←slc p1 0 t26
  let (y3,y4)←pO x l
  let t52←(do
    let x1←idx p1 t26
    if (decide (x1 < y3)) then
     pure true
    else
     let x2←idx p1 t26
     pure (decide (x2 ≥ y4))
      : Option Bool)
  if t52 then
   pure (.ret false)
  else
   rL nest p1 (W (t26 + 1))
 else
  pure (.done ())
 partial_fixpoint
theorem zBK (nest:(List zD)) (p1:(List Int)):∀ (t26:Int) (o:Out Unit (Bool)),rL nest p1 t26=some o→∀ {B}{I0 I:Imm}{Q p c p2 c1},I0.le I→(S4 I p2 p1 c1)→(S4 I p nest c)→NG Q→NO Q→(∀ (I':Imm) ,o=(.done ())→I0.le I'→T 54 B Q (.exit 0) I' [] [])→(∀ r I' hs' m',o=(.ret r)→I0.le I'→RS Tryz.prog Tryz.f92 B (zW  r) I' hs' m'→T 54 B Q .ret I' hs' m')→J Tryz.prog 54 B (nav (bodyOf Tryz.f92) [1,1,0,1,0]) Q I [] [(1,vS p2 p1 c1),(24,vS p nest c),(25,vI (nest.length:Int)),(26,vI t26)]:=by
 refine rL.partial_correctness nest p1 _ fun self ih t26 o N B I0 I Q p c p2 c1 H h1 h hg ho hx hr=>xD hg ho<|yI [(27,.bool (decide (t26 < (nest.length:Int))))]<|yL<|yO N ?_ ?_
 · intro hc3 N;refine zZ<|yL<|zX<|yM<|yG 1 [] [(28,vI t26)]<|bE N fun x hy2 N=>wD rfl rfl h hy2 ?_;intro ad ccs hat hrep;obtain ⟨p3,c2,p4,c3,rfl,h4,h5⟩:=tB hrep;refine xT 0 hat (cLoop x p3 c2 p4 c3) (vA (cLoop x p3 c2 p4 c3)) rfl<|uK zTwo ?_;intro b hb;refine yG 5 [] [(5,vI t26)]<|xN 0 (cLoop x p3 c2 p4 c3) [hB b (cLoop x p3 c2 p4 c3)] rfl rfl rfl rfl<|yN rfl<|zE<|yK ?_;obtain ⟨l,hy3,N⟩:=zC N;obtain ⟨⟨y3,y4⟩,hy4,N⟩:=zC N;refine vK [.p (vA (cLoop x p3 c2 p4 c3)) [0],.p (vS p2 p1 c1) [],.p (vI t26) [],.x (fun I' v hx=>∃ p5 c4,v=vS p5 l c4∧hx=[]∧(S4 I' p5 l c4)),.q (.tuple ⟨[vI y3,vI y4]⟩),.p (.tuple ⟨[vI y3,vI y4]⟩) [],.p (vI y3) [],.p (vI y4) [],.p (vI y3) []] [[],[],[],[(1,false),(2,false)],[(0,false),(3,false)],[(4,false)],[(5,false)],[(5,false)],[(6,false)]] [hB b (cLoop x p3 c2 p4 c3)] [] [(7,false),(8,false)] (yH [0]) ?_ ?_
   · refine Op<|Op<|Op<|Ox ?_<|Oq ?_<|Op<|Op<|Op<|Op<|On
     · intro I1 hf le1;refine yX [(33,vS p2 p1 c1),(34,vI t26)] ?_;have h1:=h1.mono le1;refine zII rfl h1 hy3 ?_;intro v04 h6;obtain ⟨p5,c4,rfl⟩:=h6.form;exact yY [] iR ⟨_,_,rfl,rfl,h6⟩
     intro I1 hf le1;refine zH ?_;rintro _ _ ⟨rfl,rfl⟩;refine zH ?_;rintro _ _ ⟨p5,c4,rfl,rfl,h6⟩;refine yX [(32,vA (cLoop x p3 c2 p4 c3)),(35,vS p5 l c4)] ?_;have H:=iS I1;have h4:=h4.mono le1;have h5:=h5.mono le1;refine xX (fG x l _ hy4 h4 h5 h6) ?_;rintro I03 hs2 v2 k2 le3 - ⟨v05,v06,rfl,rfl,rfl,rfl⟩ -;have H:=H.trans le3;exact xJ H
   intro I04 le4;refine yX [(1,vS p2 p1 c1),(5,vI t26),(7,vI y3),(24,vS p nest c),(25,vI (nest.length:Int)),(26,vI t26),(38,vI y4)] ?_;have h1:=h1.mono le4;have h:=h.mono le4;have H:=H.trans le4;refine yF [] [(8,vI y4)]<|zE<|yK ?_;obtain ⟨o01,ho01,hMc1⟩:=zC N;refine yU (fun I' hs' m'=>∃ (t52:Bool),o01=t52∧I04.le I'∧hs'=[]∧m'=[(1,vS p2 p1 c1),(24,vS p nest c),(25,vI (nest.length:Int)),(26,vI t26),(52,.bool t52)]) ?_ ?_
   · have H:=iS I04;refine zR<|yG 2 [] [(39,vS p2 p1 c1),(40,vI t26)] ?_;obtain ⟨x1,hy5,N⟩:=zC ho01;refine wD rfl rfl h1 hy5 ?_;intro ad1 ccs1 hat1 hrep1;obtain rfl:=hrep1;refine xT 0 hat1 [vI x1] (vI x1) rfl<|yG 7 [] [(45,.bool (decide (x1 < y3)))] ?_;cases hc4:(decide (x1 < y3)) with
     | true =>
      have hM04:=zQ hc4 N
      try rw [hc4]
      exact yF [] [(52,vY)]<|wB zT<|yV [(1,vS p2 p1 c1),(24,vS p nest c),(25,vI (nest.length:Int)),(26,vI t26),(52,vY)]<|zV ⟨_,(zB hM04).symm,H,rfl,rfl⟩
     | false =>
      have hM05:=zN hc4 N
      try rw [hc4]
      refine yG 9 [] [(46,vS p2 p1 c1),(47,vI t26)] ?_;obtain ⟨x2,hy6,N⟩:=zC hM05;refine wD rfl rfl h1 hy6 ?_;intro ad2 ccs2 hat2 hrep2;obtain rfl:=hrep2;exact xT 0 hat2 [vI x2] (vI x2) rfl<|yF [] [(52,.bool (decide (x2 ≥ y4)))]<|wB zT<|yV [(1,vS p2 p1 c1),(24,vS p nest c),(25,vI (nest.length:Int)),(26,vI t26),(52,.bool (decide (x2 ≥ y4)))]<|zV ⟨_,(zB N).symm,H,rfl,rfl⟩
   rintro I05 hs2 m2 ⟨t52,heq1,le5,rfl,rfl⟩;subst o01;have h1:=h1.mono le5;have h:=h.mono le5;have H:=H.trans le5;refine zE<|yO hMc1 ?_ ?_
   · intro hc5 N;exact yI [(4,vF)]<|zE<|yC<|yA<|zK<|zK<|hr _ _ _ _ (zB N).symm H ⟨_,_,(.tmp rfl ResV.nil),zT,⟨_,rfl,rfl,rfl⟩⟩
   intro hc5 N;exact zZ<|zU<|zE<|zR<|yF [] [(26,vI (W (t26 + 1)))]<|xE<|vM [(1,vS p2 p1 c1),(24,vS p nest c),(25,vI (nest.length:Int)),(26,vI (W (t26 + 1)))]<|ih (W (t26 + 1)) _ N H h1 h hg ho hx hr
 intro hc3 N;exact xC<|zO<|zO<|yV []<|hx _  (zB N).symm H
def mP (nest:(List zD)) (p1:(List Int)):Option (Bool):=do
 let t23←(do
   let y←pM nest
   if (!y) then
    pure true
   else
    let y1←nE p1
    if (!y1) then
     pure true
    else
     pure ((p1.length:Int) != (nest.length:Int))
     : Option Bool)
 if t23 then
  pure false
 else
  match←rL nest p1 0 with
  | .ret r0=>pure r0
  | .done _ =>
   pure true
theorem zCu:∀ nest p1 r,mP nest p1=some r→∀ {I:Imm}{p c p2 c1},(S4 I p nest c)→(S4 I p2 p1 c1)→Ret Tryz.prog 92 [vS p nest c,vS p2 p1 c1] I [] (zW  r):=by
 intro nest p1 r N I p c p2 c1 h h1;unfold mP at N;refine yB (fn:=Tryz.f92) (c:=(bodyOf Tryz.f92)) Tryz.func92 rfl rfl ?_;rintro B - -;have H:=iS I;refine yI []<|yL<|yK ?_;obtain ⟨o0,ho0,hMc⟩:=zC N;refine yU (fun I' hs' m'=>∃ (t23:Bool),o0=t23∧I.le I'∧hs'=[]∧m'=[(0,vS p nest c),(1,vS p2 p1 c1),(23,.bool t23)]) ?_ ?_
 · have H:=iS I;refine zR<|yG 1 [] [(9,vS p nest c)] ?_;obtain ⟨y,hy,N⟩:=zC ho0;refine vL (fF nest _ hy h) ?_;intro I01 le;have h1:=h1.mono le;have H:=H.trans le;refine yG 4 [] [(12,.bool (!y))] ?_;cases hc:(!y) with
   | true =>
    have hM0:=zQ hc N
    try rw [hc]
    exact yF [] [(23,vY)]<|yV [(0,vS p nest c),(1,vS p2 p1 c1),(23,vY)]<|zV ⟨_,(zB hM0).symm,H,rfl,rfl⟩
   | false =>
    have hM01:=zN hc N
    try rw [hc]
    refine yG 5 [] [(13,vS p2 p1 c1)] ?_;obtain ⟨y1,hy1,N⟩:=zC hM01;refine vL (dJ p1 _ hy1 h1) ?_;intro I02 le1;have H:=H.trans le1;refine yG 9 [] [(17,.bool (!y1))] ?_;cases hc1:(!y1) with
    | true =>
     have hM02:=zQ hc1 N
     try rw [hc1]
     exact yF [] [(23,vY)]<|yV [(0,vS p nest c),(1,vS p2 p1 c1),(23,vY)]<|zV ⟨_,(zB hM02).symm,H,rfl,rfl⟩
    | false =>
     have hM03:=zN hc1 N
     try rw [hc1]
     exact yF [] [(23,.bool ((p1.length:Int) != (nest.length:Int)))]<|yV [(0,vS p nest c),(1,vS p2 p1 c1),(23,.bool ((p1.length:Int) != (nest.length:Int)))]<|zV ⟨_,(zB hM03).symm,H,rfl,rfl⟩
 rintro I0 hs2 m2 ⟨t23,heq,le2,rfl,rfl⟩;subst o0;have h:=h.mono le2;have h1:=h1.mono le2;refine zE<|yO hMc ?_ ?_
 · intro hc2 N;refine yI [(4,vF)]<|zE<|yC<|zK ?_;obtain rfl:=zB N;exact vQ
 intro hc2 N;refine zZ<|yL<|yI [(24,vS p nest c),(25,vI (nest.length:Int)),(26,vI 0)]<|zE<|zX<|vM [(1,vS p2 p1 c1),(24,vS p nest c),(25,vI (nest.length:Int)),(26,vI 0)] ?_;obtain ⟨o02,ho02,hMl⟩:=zC N;refine zBK nest p1 0 o02 ho02 iR h1 h (fun _ _ _ h=>h) (fun _ _ h=>h) ?_ ?_
 · intro I06  heq2 le6;subst o02;refine zY<|vO [(4,vY)]<|zE<|yC ?_;obtain rfl:=zB hMl;exact vQ
 intro r0 I9 hs9 m9 heq9 le9 hrs9;subst heq9;refine yA<|zK ?_;obtain rfl:=zB hMl;exact xM hrs9
def tX (p:zS) (x:zM):Option (Bool):=do
 let t4←(do
   let y←xV x.Part 0 (W ((p.Parts.length:Int) - 1))
   if y then
    let x1←idx p.Parts x.Part
    let y1←xV x.Stmt 0 (W ((x1.Body.length:Int) - 1))
    if y1 then
     let x2←idx p.Parts x.Part
     let y2←mP x2.Nest x.Point
     pure (id y2)
    else
     pure false
   else
    pure false
     : Option Bool)
 pure (id t4)
theorem gK:∀ p x r,tX p x=some r→∀ {I:Imm}{p1 c p2 c1 p3 c2},(S4 I p1 p.Arrays c)→(S4 I p2 p.Parts c1)→(S4 I p3 x.Point c2)→Ret Tryz.prog 41 [vA (cProg p p1 c p2 c1),vA (cInst x p3 c2)] I [] (zW  r):=by
 intro p x r N I p1 c p2 c1 p3 c2 h h1 h2;unfold tX at N;refine yB (fn:=Tryz.f41) (c:=(bodyOf Tryz.f41)) Tryz.func41 rfl rfl ?_;rintro B - -;have H:=iS I;refine yM<|tD (cProg p p1 c p2 c1) ?_;intro b hb;refine tD (cInst x p3 c2) ?_;intro b1 hb1;refine yF [] []<|zE<|yK ?_;obtain ⟨o0,ho0,hMc⟩:=zC N;refine yU (fun I' hs' m'=>∃ (t4:Bool),o0=t4∧I.le I'∧hs'=[]∧m'=[(4,.bool t4)]) ?_ ?_
 · have H:=iS I;obtain ⟨y,hy,N⟩:=zC ho0;cases hc:y with
   | true =>
    have hM0:=zQ hc N;obtain ⟨x1,hy1,N⟩:=zC hM0;obtain ⟨y1,hy2,N⟩:=zC N;cases hc1:y1 with
    | true =>
     have hM01:=zQ hc1 N;obtain ⟨x2,hy3,N⟩:=zC hM01;obtain ⟨y2,hy4,N⟩:=zC N;refine vK [.p (vP b1 0) [],.p (vI x.Part) [0],.p (vP b 1) [],.p (vS p2 p.Parts c1) [1],.p (vI (p.Parts.length:Int)) [],.p (vI (W ((p.Parts.length:Int) - 1))) [],.q vY,.q vY,.p (vP b1 1) [],.p (vI x.Stmt) [0],.p (vP b 1) [],.p (vS p2 p.Parts c1) [1],.p (vP b1 0) [],.p (vI x.Part) [0],.x (fun I' v hx=>∃ ad p4 c3 p5 c4,v=.pointer (some ad)∧hx=[]∧(At I' ad (cPart x1 p4 c3 p5 c4))∧(S4 I' p4 x1.Nest c3)∧(S4 I' p5 x1.Body c4)),.x (fun I' v hx=>∃ ad1 p41 c31 p51 c41,v=.pointer (some (ad1.add 1))∧hx=[]∧(At I' ad1 (cPart x1 p41 c31 p51 c41))∧(S4 I' p41 x1.Nest c31)∧(S4 I' p51 x1.Body c41)),.x (fun I' v hx=>∃ p511 c411,v=vS p511 x1.Body c411∧hx=[]∧(S4 I' p511 x1.Body c411)),.q (vI (x1.Body.length:Int)),.p (vI (W ((x1.Body.length:Int) - 1))) [],.q vY,.q vY,.q vY,.p (vP b 1) [],.p (vS p2 p.Parts c1) [1],.p (vP b1 0) [],.p (vI x.Part) [0],.x (fun I' v hx=>∃ ad2 p6 c5 p7 c6,v=.pointer (some ad2)∧hx=[]∧(At I' ad2 (cPart x2 p6 c5 p7 c6))∧(S4 I' p6 x2.Nest c5)∧(S4 I' p7 x2.Body c6)),.x (fun I' v hx=>∃ ad21 p61 c51 p71 c61,v=.pointer (some ad21)∧hx=[]∧(At I' ad21 (cPart x2 p61 c51 p71 c61))∧(S4 I' p61 x2.Nest c51)∧(S4 I' p71 x2.Body c61)),.x (fun I' v hx=>∃ p611 c511,v=vS p611 x2.Nest c511∧hx=[]∧(S4 I' p611 x2.Nest c511)),.p (vP b1 2) [],.p (vS p3 x.Point c2) [0],.q (.bool y2),.p (.bool y2) []] [[],[(0,false)],[],[(2,false)],[(3,false)],[(4,false)],[(1,false),(5,false)],[(6,false)],[(7,false)],[(7,false),(8,false)],[(7,false)],[(7,false),(10,false)],[(7,false)],[(7,false),(12,false)],[(7,false),(11,false),(13,false)],[(7,false),(14,false)],[(7,false),(15,false)],[(7,false),(16,false)],[(7,false),(17,false)],[(7,false),(9,false),(18,false)],[(7,false),(19,false)],[(20,false)],[(21,false)],[(21,false),(22,false)],[(21,false)],[(21,false),(24,false)],[(21,false),(23,false),(25,false)],[(21,false),(26,false)],[(21,false),(27,false)],[(21,false)],[(21,false),(29,false)],[(21,false),(28,false),(30,false)],[(21,false),(31,false)]] [hB b1 (cInst x p3 c2),hB b (cProg p p1 c p2 c1)] [] [(32,false)] (yH [0,1]) ?_ ?_
     · refine Op<|Op<|Op<|Op<|Op<|Op<|Oq ?_<|Oq ?_<|Op<|Op<|Op<|Op<|Op<|Op<|Ox ?_<|Ox ?_<|Ox ?_<|Oq ?_<|Op<|Oq ?_<|Oq ?_<|Oq ?_<|Op<|Op<|Op<|Op<|Ox ?_<|Ox ?_<|Ox ?_<|Op<|Op<|Oq ?_<|Op<|On
       · intro I1 hf le1;refine yX [(6,vI x.Part),(10,vI (W ((p.Parts.length:Int) - 1)))] ?_;have H:=iS I1;refine vL (xR x.Part 0 (W ((p.Parts.length:Int) - 1)) _ hy ) ?_;intro I01 le;have H:=H.trans le;rw [hc];exact xJ H
       · intro I1 hf le1;exact yX [(11,vY)]<|qO 8 [(12,vY)]<|xJ iR
       · intro I1 hf le1;refine yX [(12,vY),(16,vS p2 p.Parts c1),(18,vI x.Part)] ?_;have h1:=h1.mono le1;refine wD rfl rfl h1 hy1 ?_;intro ad ccs hat hrep;obtain ⟨p4,c3,p5,c4,rfl,h4,h5⟩:=wT hrep;exact yY [] iR ⟨_,_,_,_,_,rfl,rfl,hat,h4,h5⟩
       · intro I1 hf le1;refine zH ?_;rintro _ _ ⟨rfl,rfl⟩;refine zH ?_;rintro _ _ ⟨ad,p4,c3,p5,c4,rfl,rfl,hat,h4,h5⟩;exact yX [(12,vY),(19,.pointer (some ad))]<|qO 16 [(20,.pointer (some (ad.add 1)))]<|yY [] iR ⟨_,_,_,_,_,rfl,rfl,hat,h4,h5⟩
       · intro I1 hf le1;refine zH ?_;rintro _ _ ⟨rfl,rfl⟩;refine zH ?_;rintro _ _ ⟨ad1,p41,c31,p51,c41,rfl,rfl,hat1,h41,h51⟩;exact yX [(12,vY),(20,.pointer (some (ad1.add 1)))]<|xT 1 hat1 [vS p51 x1.Body c41] (vS p51 x1.Body c41) rfl<|yY [] iR ⟨_,_,rfl,rfl,h51⟩
       · intro I1 hf le1;refine zH ?_;rintro _ _ ⟨rfl,rfl⟩;refine zH ?_;rintro _ _ ⟨p511,c411,rfl,rfl,h511⟩;exact yX [(12,vY),(21,vS p511 x1.Body c411)]<|qO 18 [(22,vI (x1.Body.length:Int))]<|xJ iR
       · intro I1 hf le1;refine yX [(12,vY),(14,vI x.Stmt),(23,vI (W ((x1.Body.length:Int) - 1)))] ?_;have H:=iS I1;refine vL (xR x.Stmt 0 (W ((x1.Body.length:Int) - 1)) _ hy2 ) ?_;intro I02 le1;have H:=H.trans le1;rw [hc1];exact xJ H
       · intro I1 hf le1;exact yX [(12,vY),(24,vY)]<|qO 21 [(25,vY)]<|xJ iR
       · intro I1 hf le1;exact yX [(25,vY)]<|qO 22 [(26,vY)]<|xJ iR
       · intro I1 hf le1;refine yX [(26,vY),(28,vS p2 p.Parts c1),(30,vI x.Part)] ?_;have h1:=h1.mono le1;refine wD rfl rfl h1 hy3 ?_;intro ad2 ccs1 hat2 hrep1;obtain ⟨p6,c5,p7,c6,rfl,h7,h8⟩:=wT hrep1;exact yY [] iR ⟨_,_,_,_,_,rfl,rfl,hat2,h7,h8⟩
       · intro I1 hf le1;refine zH ?_;rintro _ _ ⟨rfl,rfl⟩;refine zH ?_;rintro _ _ ⟨ad2,p6,c5,p7,c6,rfl,rfl,hat2,h7,h8⟩;exact yX [(26,vY),(31,.pointer (some ad2))]<|qO 28 [(32,.pointer (some ad2))]<|yY [] iR ⟨_,_,_,_,_,rfl,rfl,hat2,h7,h8⟩
       · intro I1 hf le1;refine zH ?_;rintro _ _ ⟨rfl,rfl⟩;refine zH ?_;rintro _ _ ⟨ad21,p61,c51,p71,c61,rfl,rfl,hat21,h71,h81⟩;exact yX [(26,vY),(32,.pointer (some ad21))]<|xT 0 hat21 [vS p61 x2.Nest c51] (vS p61 x2.Nest c51) rfl<|yY [] iR ⟨_,_,rfl,rfl,h71⟩
       intro I1 hf le1;refine zH ?_;rintro _ _ ⟨rfl,rfl⟩;refine zH ?_;rintro _ _ ⟨p611,c511,rfl,rfl,h711⟩;refine yX [(26,vY),(33,vS p611 x2.Nest c511),(35,vS p3 x.Point c2)] ?_;have H:=iS I1;have h2:=h2.mono le1;refine vL (zCu x2.Nest x.Point _ hy4 h711 h2) ?_;intro I03 le2;have H:=H.trans le2;exact xJ H
     intro I04 le3;refine yX [(37,.bool y2)] ?_;have H:=H.trans le3;exact yF [] [(4,.bool y2)]<|wB zT<|yV [(4,.bool y2)]<|zV ⟨_,(zB N).symm,H,rfl,rfl⟩
    | false =>
     have hM02:=zN hc1 N;refine vK [.p (vP b1 0) [],.p (vI x.Part) [0],.p (vP b 1) [],.p (vS p2 p.Parts c1) [1],.p (vI (p.Parts.length:Int)) [],.p (vI (W ((p.Parts.length:Int) - 1))) [],.q vY,.q vY,.p (vP b1 1) [],.p (vI x.Stmt) [0],.p (vP b 1) [],.p (vS p2 p.Parts c1) [1],.p (vP b1 0) [],.p (vI x.Part) [0],.x (fun I' v hx=>∃ ad p4 c3 p5 c4,v=.pointer (some ad)∧hx=[]∧(At I' ad (cPart x1 p4 c3 p5 c4))∧(S4 I' p4 x1.Nest c3)∧(S4 I' p5 x1.Body c4)),.x (fun I' v hx=>∃ ad1 p41 c31 p51 c41,v=.pointer (some (ad1.add 1))∧hx=[]∧(At I' ad1 (cPart x1 p41 c31 p51 c41))∧(S4 I' p41 x1.Nest c31)∧(S4 I' p51 x1.Body c41)),.x (fun I' v hx=>∃ p511 c411,v=vS p511 x1.Body c411∧hx=[]∧(S4 I' p511 x1.Body c411)),.q (vI (x1.Body.length:Int)),.p (vI (W ((x1.Body.length:Int) - 1))) [],.q vF,.q vF,.q vF,.p undef [],.p undef [],.p undef [],.p undef [],.p undef [],.p undef [],.p undef [],.p undef [],.p undef [],.p undef [],.p vF []] [[],[(0,false)],[],[(2,false)],[(3,false)],[(4,false)],[(1,false),(5,false)],[(6,false)],[(7,false)],[(7,false),(8,false)],[(7,false)],[(7,false),(10,false)],[(7,false)],[(7,false),(12,false)],[(7,false),(11,false),(13,false)],[(7,false),(14,false)],[(7,false),(15,false)],[(7,false),(16,false)],[(7,false),(17,false)],[(7,false),(9,false),(18,false)],[(7,false),(19,false)],[(20,false)],[(21,false)],[(21,false),(22,false)],[(21,false)],[(21,false),(24,false)],[(21,false),(23,false),(25,false)],[(21,false),(26,false)],[(21,false),(27,false)],[(21,false)],[(21,false),(29,false)],[(21,false),(28,false),(30,false)],[(21,false),(31,false)]] [hB b1 (cInst x p3 c2),hB b (cProg p p1 c p2 c1)] [] [(32,false)] (yH [0,1]) ?_ ?_
     · refine Op<|Op<|Op<|Op<|Op<|Op<|Oq ?_<|Oq ?_<|Op<|Op<|Op<|Op<|Op<|Op<|Ox ?_<|Ox ?_<|Ox ?_<|Oq ?_<|Op<|Oq ?_<|Oq ?_<|Oq ?_<|Op<|Op<|Op<|Op<|Op<|Op<|Op<|Op<|Op<|Op<|Op<|On
       · intro I1 hf le1;refine yX [(6,vI x.Part),(10,vI (W ((p.Parts.length:Int) - 1)))] ?_;have H:=iS I1;refine vL (xR x.Part 0 (W ((p.Parts.length:Int) - 1)) _ hy ) ?_;intro I01 le;have H:=H.trans le;rw [hc];exact xJ H
       · intro I1 hf le1;exact yX [(11,vY)]<|qO 8 [(12,vY)]<|xJ iR
       · intro I1 hf le1;refine yX [(12,vY),(16,vS p2 p.Parts c1),(18,vI x.Part)] ?_;have h1:=h1.mono le1;refine wD rfl rfl h1 hy1 ?_;intro ad ccs hat hrep;obtain ⟨p4,c3,p5,c4,rfl,h4,h5⟩:=wT hrep;exact yY [] iR ⟨_,_,_,_,_,rfl,rfl,hat,h4,h5⟩
       · intro I1 hf le1;refine zH ?_;rintro _ _ ⟨rfl,rfl⟩;refine zH ?_;rintro _ _ ⟨ad,p4,c3,p5,c4,rfl,rfl,hat,h4,h5⟩;exact yX [(12,vY),(19,.pointer (some ad))]<|qO 16 [(20,.pointer (some (ad.add 1)))]<|yY [] iR ⟨_,_,_,_,_,rfl,rfl,hat,h4,h5⟩
       · intro I1 hf le1;refine zH ?_;rintro _ _ ⟨rfl,rfl⟩;refine zH ?_;rintro _ _ ⟨ad1,p41,c31,p51,c41,rfl,rfl,hat1,h41,h51⟩;exact yX [(12,vY),(20,.pointer (some (ad1.add 1)))]<|xT 1 hat1 [vS p51 x1.Body c41] (vS p51 x1.Body c41) rfl<|yY [] iR ⟨_,_,rfl,rfl,h51⟩
       · intro I1 hf le1;refine zH ?_;rintro _ _ ⟨rfl,rfl⟩;refine zH ?_;rintro _ _ ⟨p511,c411,rfl,rfl,h511⟩;exact yX [(12,vY),(21,vS p511 x1.Body c411)]<|qO 18 [(22,vI (x1.Body.length:Int))]<|xJ iR
       · intro I1 hf le1;refine yX [(12,vY),(14,vI x.Stmt),(23,vI (W ((x1.Body.length:Int) - 1)))] ?_;have H:=iS I1;refine vL (xR x.Stmt 0 (W ((x1.Body.length:Int) - 1)) _ hy2 ) ?_;intro I02 le1;have H:=H.trans le1;rw [hc1];exact xJ H
       · intro I1 hf le1;exact yX [(12,vY),(24,vF)]<|qO 21 [(25,vF)]<|xJ iR
       intro I1 hf le1;exact yX [(25,vF)]<|qO 22 [(26,vF)]<|xJ iR
     intro I05 le4;refine yX [(37,vF)] ?_;have H:=H.trans le4;exact yF [] [(4,vF)]<|wB zT<|yV [(4,vF)]<|zV ⟨_,(zB hM02).symm,H,rfl,rfl⟩
   | false =>
    have hM03:=zN hc N;refine vK [.p (vP b1 0) [],.p (vI x.Part) [0],.p (vP b 1) [],.p (vS p2 p.Parts c1) [1],.p (vI (p.Parts.length:Int)) [],.p (vI (W ((p.Parts.length:Int) - 1))) [],.q vF,.q vF,.p undef [],.p undef [],.p undef [],.p undef [],.p undef [],.p undef [],.p undef [],.p undef [],.p undef [],.p undef [],.p undef [],.p undef [],.p vF [],.p vF [],.p undef [],.p undef [],.p undef [],.p undef [],.p undef [],.p undef [],.p undef [],.p undef [],.p undef [],.p undef [],.p vF []] [[],[(0,false)],[],[(2,false)],[(3,false)],[(4,false)],[(1,false),(5,false)],[(6,false)],[(7,false)],[(7,false),(8,false)],[(7,false)],[(7,false),(10,false)],[(7,false)],[(7,false),(12,false)],[(7,false),(11,false),(13,false)],[(7,false),(14,false)],[(7,false),(15,false)],[(7,false),(16,false)],[(7,false),(17,false)],[(7,false),(9,false),(18,false)],[(7,false),(19,false)],[(20,false)],[(21,false)],[(21,false),(22,false)],[(21,false)],[(21,false),(24,false)],[(21,false),(23,false),(25,false)],[(21,false),(26,false)],[(21,false),(27,false)],[(21,false)],[(21,false),(29,false)],[(21,false),(28,false),(30,false)],[(21,false),(31,false)]] [hB b1 (cInst x p3 c2),hB b (cProg p p1 c p2 c1)] [] [(32,false)] (yH [0,1]) ?_ ?_
    · refine Op<|Op<|Op<|Op<|Op<|Op<|Oq ?_<|Oq ?_<|Op<|Op<|Op<|Op<|Op<|Op<|Op<|Op<|Op<|Op<|Op<|Op<|Op<|Op<|Op<|Op<|Op<|Op<|Op<|Op<|Op<|Op<|Op<|Op<|Op<|On
      · intro I1 hf le1;refine yX [(6,vI x.Part),(10,vI (W ((p.Parts.length:Int) - 1)))] ?_;have H:=iS I1;refine vL (xR x.Part 0 (W ((p.Parts.length:Int) - 1)) _ hy ) ?_;intro I01 le;have H:=H.trans le;rw [hc];exact xJ H
      intro I1 hf le1;exact yX [(11,vF)]<|qO 8 [(12,vF)]<|xJ iR
    intro I06 le5;refine yX [(37,vF)] ?_;have H:=H.trans le5;exact yF [] [(4,vF)]<|wB zT<|yV [(4,vF)]<|zV ⟨_,(zB hM03).symm,H,rfl,rfl⟩
 rintro I0 hs2 m2 ⟨t4,heq,le6,rfl,rfl⟩;subst o0;refine zE<|yC ?_;obtain rfl:=zB hMc;exact vQ
def dA (r:zP):KT:=fun kk I' hs' v=>
  ∃ v0,hs'=[]∧v=tupV [v0]∧(∃ cs,v0=.agg ⟨cs⟩∧Rp.rep I' cs r)
def oZ (p:zS) (x:zM):Option (zP):=do
 let x1←idx p.Parts x.Part
 let x2←idx x1.Body x.Stmt
 pure (id x2)
theorem zAP:∀ p x r,oZ p x=some r→∀ {I:Imm}{p1 c p2 c1 p3 c2},(S4 I p1 p.Arrays c)→(S4 I p2 p.Parts c1)→(S4 I p3 x.Point c2)→Ret Tryz.prog 43 [vA (cProg p p1 c p2 c1),vA (cInst x p3 c2)] I [] (dA  r):=by
 intro p x r N I p1 c p2 c1 p3 c2 h h1 h2;unfold oZ at N;refine yB (fn:=Tryz.f43) (c:=(bodyOf Tryz.f43)) Tryz.func43 rfl rfl ?_;rintro B - -;refine yM<|tD (cProg p p1 c p2 c1) ?_;intro b hb;refine tD (cInst x p3 c2) ?_;intro b1 hb1;refine uK [vT ([]),z0,vI 0,vI 0,z0,vI 0,vT ([]),z0,z0] ?_;intro b2 hb2;refine yN rfl<|zE<|yK ?_;obtain ⟨x1,hy,N⟩:=zC N;obtain ⟨x2,hy1,N⟩:=zC N;refine vK [.p (vP b 1) [],.p (vS p2 p.Parts c1) [2],.p (vP b1 0) [],.p (vI x.Part) [1],.x (fun I' v hx=>∃ ad p4 c3 p5 c4,v=.pointer (some ad)∧hx=[]∧(At I' ad (cPart x1 p4 c3 p5 c4))∧(S4 I' p4 x1.Nest c3)∧(S4 I' p5 x1.Body c4)),.x (fun I' v hx=>∃ ad1 p41 c31 p51 c41,v=.pointer (some (ad1.add 1))∧hx=[]∧(At I' ad1 (cPart x1 p41 c31 p51 c41))∧(S4 I' p41 x1.Nest c31)∧(S4 I' p51 x1.Body c41)),.x (fun I' v hx=>∃ p511 c411,v=vS p511 x1.Body c411∧hx=[]∧(S4 I' p511 x1.Body c411)),.p (vP b1 1) [],.p (vI x.Stmt) [1],.x (fun I' v hx=>∃ ad2 p6 c5 p7 c6 p8 c7 p9 c8,v=.pointer (some ad2)∧hx=[]∧(At I' ad2 (cStmt x2 p6 c5 p7 c6 p8 c7 p9 c8))∧(S4 I' p6 x2.Write.Subs c5)∧(S4 I' p7 x2.Value.Index.Coefs c6)∧(S4 I' p8 x2.Value.Read.Subs c7)∧(S4 I' p9 x2.Value.Kids c8)),.x (fun I' v hx=>∃ p61 c51 p71 c61 p81 c71 p91 c81,v=vA (cStmt x2 p61 c51 p71 c61 p81 c71 p91 c81)∧hx=[]∧(S4 I' p61 x2.Write.Subs c51)∧(S4 I' p71 x2.Value.Index.Coefs c61)∧(S4 I' p81 x2.Value.Read.Subs c71)∧(S4 I' p91 x2.Value.Kids c81))] [[],[(0,false)],[],[(2,false)],[(1,false),(3,false)],[(4,false)],[(5,false)],[],[(7,false)],[(6,false),(8,false)],[(9,false)]] [hB b2 [vT ([]),z0,vI 0,vI 0,z0,vI 0,vT ([]),z0,z0],hB b1 (cInst x p3 c2),hB b (cProg p p1 c p2 c1)] [] [(10,false)] (yH [0,1,2]) ?_ ?_
 · refine Op<|Op<|Op<|Op<|Ox ?_<|Ox ?_<|Ox ?_<|Op<|Op<|Ox ?_<|Ox ?_<|On
   · intro I1 hf le1;refine yX [(6,vS p2 p.Parts c1),(8,vI x.Part)] ?_;have h1:=h1.mono le1;refine wD rfl rfl h1 hy ?_;intro ad ccs hat hrep;obtain ⟨p4,c3,p5,c4,rfl,h3,h4⟩:=wT hrep;exact yY [] iR ⟨_,_,_,_,_,rfl,rfl,hat,h3,h4⟩
   · intro I1 hf le1;refine zH ?_;rintro _ _ ⟨ad,p4,c3,p5,c4,rfl,rfl,hat,h3,h4⟩;exact yX [(9,.pointer (some ad))]<|qO 6 [(10,.pointer (some (ad.add 1)))]<|yY [] iR ⟨_,_,_,_,_,rfl,rfl,hat,h3,h4⟩
   · intro I1 hf le1;refine zH ?_;rintro _ _ ⟨ad1,p41,c31,p51,c41,rfl,rfl,hat1,h31,h41⟩;exact yX [(10,.pointer (some (ad1.add 1)))]<|xT 1 hat1 [vS p51 x1.Body c41] (vS p51 x1.Body c41) rfl<|yY [] iR ⟨_,_,rfl,rfl,h41⟩
   · intro I1 hf le1;refine zH ?_;rintro _ _ ⟨p511,c411,rfl,rfl,h411⟩;refine yX [(11,vS p511 x1.Body c411),(13,vI x.Stmt)]<|wD rfl rfl h411 hy1 ?_;intro ad2 ccs1 hat2 hrep1;obtain ⟨p6,c5,p7,c6,p8,c7,p9,c8,rfl,h5,h6,h7,h8⟩:=qK hrep1;exact yY [] iR ⟨_,_,_,_,_,_,_,_,_,rfl,rfl,hat2,h5,h6,h7,h8⟩
   intro I1 hf le1;refine zH ?_;rintro _ _ ⟨ad2,p6,c5,p7,c6,p8,c7,p9,c8,rfl,rfl,hat2,h5,h6,h7,h8⟩;exact yX [(14,.pointer (some ad2))]<|xT 0 hat2 (cStmt x2 p6 c5 p7 c6 p8 c7 p9 c8) (vA (cStmt x2 p6 c5 p7 c6 p8 c7 p9 c8)) rfl<|yY [] iR ⟨_,_,_,_,_,_,_,_,rfl,rfl,h5,h6,h7,h8⟩
 intro I0 le;refine zH ?_;rintro _ _ ⟨p61,c51,p71,c61,p81,c71,p91,c81,rfl,rfl,h51,h61,h71,h81⟩;refine yX [(4,vP b2 0),(15,vA (cStmt x2 p61 c51 p71 c61 p81 c71 p91 c81))] ?_;refine xN 0 (cStmt x2 p61 c51 p71 c61 p81 c71 p91 c81) [hB b2 (cStmt x2 p61 c51 p71 c61 p81 c71 p91 c81),hB b1 (cInst x p3 c2),hB b (cProg p p1 c p2 c1)] rfl rfl rfl rfl<|yN rfl<|zE<|yC ?_;obtain rfl:=zB N;exact xM ⟨_,_,(.cell 0 rfl rfl (by kernel_rfl) ResV.nil),zT,⟨_,rfl,rfl,⟨_,rfl,(wQ ⟨_,_,_,_,rfl,h51,h61,h71,h81⟩)⟩⟩⟩
def rM (nest:(List zD)) (p1:(List Int)) (i:Int):Option (Out Unit (Bool)):=do
 if (decide (i < (p1.length:Int))) then
  let x←idx nest i
  let l←slc p1 0 i
  let (y3,y4)←rB x l
  let t53←(do
    let x1←idx p1 i
    if (decide (x1 < y3)) then
     pure true
    else
     let x2←idx p1 i
     pure (decide (x2 ≥ y4))
      : Option Bool)
  if t53 then
   pure (.ret false)
  else
   rM nest p1 (W (i + 1))
 else
  pure (.done ())
 partial_fixpoint
theorem zBL (nest:(List zD)) (p1:(List Int)):∀ (i:Int) (o:Out Unit (Bool)),rM nest p1 i=some o→∀ {B}{I0 I:Imm}{Q p c p2 c1},I0.le I→(S4 I p nest c)→(S4 I p2 p1 c1)→NG Q→NO Q→(∀ (I':Imm) ,o=(.done ())→I0.le I'→T 54 B Q (.exit 0) I' [] [])→(∀ r I' hs' m',o=(.ret r)→I0.le I'→RS Tryz.prog Tryz.f95 B (zW  r) I' hs' m'→T 54 B Q .ret I' hs' m')→J Tryz.prog 54 B (nav (bodyOf Tryz.f95) [1,1,0,1,0]) Q I [] [(0,vS p nest c),(1,vS p2 p1 c1),(5,vI i)]:=by
 refine rM.partial_correctness nest p1 _ fun self ih i o N B I0 I Q p c p2 c1 H h h1 hg ho hx hr=>xD hg ho<|yK<|yI [(26,.bool (decide (i < (p1.length:Int))))]<|zE<|yO N ?_ ?_
 · intro hc3 N;refine zZ<|yL<|zX<|yK ?_;obtain ⟨x,hy2,N⟩:=zC N;obtain ⟨l,hy3,N⟩:=zC N;obtain ⟨⟨y3,y4⟩,hy4,N⟩:=zC N;refine vK [.p (vS p nest c) [],.p (vI i) [],.x (fun I' v hx=>∃ ad p3 c2 p4 c3,v=.pointer (some ad)∧hx=[]∧(At I' ad (cLoop x p3 c2 p4 c3))∧(S4 I' p3 x.Lo c2)∧(S4 I' p4 x.Hi c3)),.x (fun I' v hx=>∃ p31 c21 p41 c31,v=vA (cLoop x p31 c21 p41 c31)∧hx=[]∧(S4 I' p31 x.Lo c21)∧(S4 I' p41 x.Hi c31)),.p (vS p2 p1 c1) [],.p (vI i) [],.x (fun I' v hx=>∃ p5 c4,v=vS p5 l c4∧hx=[]∧(S4 I' p5 l c4)),.q (.tuple ⟨[vI y3,vI y4]⟩),.p (.tuple ⟨[vI y3,vI y4]⟩) [],.p (vI y3) [],.p (vI y4) [],.p (vI y3) []] [[],[],[(0,false),(1,false)],[(2,false)],[],[],[(4,false),(5,false)],[(3,false),(6,false)],[(7,false)],[(8,false)],[(8,false)],[(9,false)]] [] [] [(10,false),(11,false)] zT ?_ ?_
   · refine Op<|Op<|Ox ?_<|Ox ?_<|Op<|Op<|Ox ?_<|Oq ?_<|Op<|Op<|Op<|Op<|On
     · intro I1 hf le1;refine yX [(30,vS p nest c),(31,vI i)] ?_;have h:=h.mono le1;refine wD rfl rfl h hy2 ?_;intro ad ccs hat hrep;obtain ⟨p3,c2,p4,c3,rfl,h4,h5⟩:=tB hrep;exact yY [] iR ⟨_,_,_,_,_,rfl,rfl,hat,h4,h5⟩
     · intro I1 hf le1;refine zH ?_;rintro _ _ ⟨ad,p3,c2,p4,c3,rfl,rfl,hat,h4,h5⟩;exact yX [(32,.pointer (some ad))]<|xT 0 hat (cLoop x p3 c2 p4 c3) (vA (cLoop x p3 c2 p4 c3)) rfl<|yY [] iR ⟨_,_,_,_,rfl,rfl,h4,h5⟩
     · intro I1 hf le1;refine yX [(34,vS p2 p1 c1),(35,vI i)] ?_;have h1:=h1.mono le1;refine zII rfl h1 hy3 ?_;intro v04 h6;obtain ⟨p5,c4,rfl⟩:=h6.form;exact yY [] iR ⟨_,_,rfl,rfl,h6⟩
     intro I1 hf le1;refine zH ?_;rintro _ _ ⟨p31,c21,p41,c31,rfl,rfl,h41,h51⟩;refine zH ?_;rintro _ _ ⟨p5,c4,rfl,rfl,h6⟩;refine yX [(33,vA (cLoop x p31 c21 p41 c31)),(36,vS p5 l c4)] ?_;have H:=iS I1;refine xX (jL x l _ hy4 h41 h51 h6) ?_;rintro I03 hs2 v2 k2 le3 - ⟨v05,v06,rfl,rfl,rfl,rfl⟩ -;have H:=H.trans le3;exact xJ H
   intro I04 le4;refine yX [(0,vS p nest c),(1,vS p2 p1 c1),(5,vI i),(6,vI y3),(39,vI y4)] ?_;have h:=h.mono le4;have h1:=h1.mono le4;have H:=H.trans le4;refine yF [] [(7,vI y4)]<|zE<|yK ?_;obtain ⟨o01,ho01,hMc1⟩:=zC N;refine yU (fun I' hs' m'=>∃ (t53:Bool),o01=t53∧I04.le I'∧hs'=[]∧m'=[(0,vS p nest c),(1,vS p2 p1 c1),(5,vI i),(53,.bool t53)]) ?_ ?_
   · have H:=iS I04;refine zR<|yG 2 [] [(40,vS p2 p1 c1),(41,vI i)] ?_;obtain ⟨x1,hy5,N⟩:=zC ho01;refine wD rfl rfl h1 hy5 ?_;intro ad1 ccs1 hat1 hrep1;obtain rfl:=hrep1;refine xT 0 hat1 [vI x1] (vI x1) rfl<|yG 7 [] [(46,.bool (decide (x1 < y3)))] ?_;cases hc4:(decide (x1 < y3)) with
     | true =>
      have hM04:=zQ hc4 N
      try rw [hc4]
      exact yF [] [(53,vY)]<|yV [(0,vS p nest c),(1,vS p2 p1 c1),(5,vI i),(53,vY)]<|zV ⟨_,(zB hM04).symm,H,rfl,rfl⟩
     | false =>
      have hM05:=zN hc4 N
      try rw [hc4]
      refine yG 9 [] [(47,vS p2 p1 c1),(48,vI i)] ?_;obtain ⟨x2,hy6,N⟩:=zC hM05;refine wD rfl rfl h1 hy6 ?_;intro ad2 ccs2 hat2 hrep2;obtain rfl:=hrep2;exact xT 0 hat2 [vI x2] (vI x2) rfl<|yF [] [(53,.bool (decide (x2 ≥ y4)))]<|yV [(0,vS p nest c),(1,vS p2 p1 c1),(5,vI i),(53,.bool (decide (x2 ≥ y4)))]<|zV ⟨_,(zB N).symm,H,rfl,rfl⟩
   rintro I05 hs2 m2 ⟨t53,heq1,le5,rfl,rfl⟩;subst o01;have h:=h.mono le5;have h1:=h1.mono le5;have H:=H.trans le5;refine zE<|yO hMc1 ?_ ?_
   · intro hc5 N;exact yI [(4,vF)]<|zE<|yC<|yA<|zK<|zK<|hr _ _ _ _ (zB N).symm H ⟨_,_,(.tmp rfl ResV.nil),zT,⟨_,rfl,rfl,rfl⟩⟩
   intro hc5 N;exact zZ<|zU<|zE<|zR<|yF [] [(5,vI (W (i + 1)))]<|xE<|vM [(0,vS p nest c),(1,vS p2 p1 c1),(5,vI (W (i + 1)))]<|ih (W (i + 1)) _ N H h h1 hg ho hx hr
 intro hc3 N;exact xC<|zO<|zO<|yV []<|hx _  (zB N).symm H
def mQ (nest:(List zD)) (p1:(List Int)):Option (Bool):=do
 let t22←(do
   let y←sP nest
   if (!y) then
    pure true
   else
    let y1←qQ p1
    if (!y1) then
     pure true
    else
     pure ((p1.length:Int) != (nest.length:Int))
     : Option Bool)
 if t22 then
  pure false
 else
  match←rM nest p1 0 with
  | .ret r0=>pure r0
  | .done _ =>
   pure true
theorem zCv:∀ nest p1 r,mQ nest p1=some r→∀ {I:Imm}{p c p2 c1},(S4 I p nest c)→(S4 I p2 p1 c1)→Ret Tryz.prog 95 [vS p nest c,vS p2 p1 c1] I [] (zW  r):=by
 intro nest p1 r N I p c p2 c1 h h1;unfold mQ at N;refine yB (fn:=Tryz.f95) (c:=(bodyOf Tryz.f95)) Tryz.func95 rfl rfl ?_;rintro B - -;have H:=iS I;refine yI []<|yL<|yK ?_;obtain ⟨o0,ho0,hMc⟩:=zC N;refine yU (fun I' hs' m'=>∃ (t22:Bool),o0=t22∧I.le I'∧hs'=[]∧m'=[(0,vS p nest c),(1,vS p2 p1 c1),(22,.bool t22)]) ?_ ?_
 · have H:=iS I;refine zR<|yG 1 [] [(8,vS p nest c)] ?_;obtain ⟨y,hy,N⟩:=zC ho0;refine vL (fB nest _ hy h) ?_;intro I01 le;have h1:=h1.mono le;have H:=H.trans le;refine yG 4 [] [(11,.bool (!y))] ?_;cases hc:(!y) with
   | true =>
    have hM0:=zQ hc N
    try rw [hc]
    exact yF [] [(22,vY)]<|yV [(0,vS p nest c),(1,vS p2 p1 c1),(22,vY)]<|zV ⟨_,(zB hM0).symm,H,rfl,rfl⟩
   | false =>
    have hM01:=zN hc N
    try rw [hc]
    refine yG 5 [] [(12,vS p2 p1 c1)] ?_;obtain ⟨y1,hy1,N⟩:=zC hM01;refine vL (dH p1 _ hy1 h1) ?_;intro I02 le1;have H:=H.trans le1;refine yG 9 [] [(16,.bool (!y1))] ?_;cases hc1:(!y1) with
    | true =>
     have hM02:=zQ hc1 N
     try rw [hc1]
     exact yF [] [(22,vY)]<|yV [(0,vS p nest c),(1,vS p2 p1 c1),(22,vY)]<|zV ⟨_,(zB hM02).symm,H,rfl,rfl⟩
    | false =>
     have hM03:=zN hc1 N
     try rw [hc1]
     exact yF [] [(22,.bool ((p1.length:Int) != (nest.length:Int)))]<|yV [(0,vS p nest c),(1,vS p2 p1 c1),(22,.bool ((p1.length:Int) != (nest.length:Int)))]<|zV ⟨_,(zB hM03).symm,H,rfl,rfl⟩
 rintro I0 hs2 m2 ⟨t22,heq,le2,rfl,rfl⟩;subst o0;have h:=h.mono le2;have h1:=h1.mono le2;refine zE<|yO hMc ?_ ?_
 · intro hc2 N;refine yI [(4,vF)]<|zE<|yC<|zK ?_;obtain rfl:=zB N;exact vQ
 intro hc2 N;refine zZ<|yL<|yI [(5,vI 0)]<|zE<|zX<|vM [(0,vS p nest c),(1,vS p2 p1 c1),(5,vI 0)] ?_;obtain ⟨o02,ho02,hMl⟩:=zC N;refine zBL nest p1 0 o02 ho02 iR h h1 (fun _ _ _ h=>h) (fun _ _ h=>h) ?_ ?_
 · intro I06  heq2 le6;subst o02;refine zY<|vO [(4,vY)]<|zE<|yC ?_;obtain rfl:=zB hMl;exact vQ
 intro r0 I9 hs9 m9 heq9 le9 hrs9;subst heq9;refine yA<|zK ?_;obtain rfl:=zB hMl;exact xM hrs9
def fH (p:zS) (x:zM):Option (Bool):=do
 let t16←(do
   if (decide (x.Part < 0)) then
    pure true
   else
    pure (decide (x.Part ≥ (p.Parts.length:Int)))
     : Option Bool)
 if t16 then
  pure false
 else
  let x1←idx p.Parts x.Part
  let t4←(do
    if (decide (x.Stmt ≥ 0)) then
     if (decide (x.Stmt < (x1.Body.length:Int))) then
      let y←mQ x1.Nest x.Point
      pure (id y)
     else
      pure false
    else
     pure false
      : Option Bool)
  pure (id t4)
theorem zIL:∀ p x r,fH p x=some r→∀ {I:Imm}{p1 c p2 c1 p3 c2},(S4 I p1 p.Arrays c)→(S4 I p2 p.Parts c1)→(S4 I p3 x.Point c2)→Ret Tryz.prog 45 [vA (cProg p p1 c p2 c1),vA (cInst x p3 c2)] I [] (zW  r):=by
 intro p x r N I p1 c p2 c1 p3 c2 h h1 h2;unfold fH at N;refine yB (fn:=Tryz.f45) (c:=(bodyOf Tryz.f45)) Tryz.func45 rfl rfl ?_;rintro B - -;have H:=iS I;refine yM<|tD (cProg p p1 c p2 c1) ?_;intro b hb;refine tD (cInst x p3 c2) ?_;intro b1 hb1;refine yF [] []<|yL<|yK ?_;obtain ⟨o0,ho0,hMc⟩:=zC N;refine yU (fun I' hs' m'=>∃ (t16:Bool),o0=t16∧I.le I'∧hs'=[hB b1 (cInst x p3 c2),hB b (cProg p p1 c p2 c1)]∧m'=[(2,vP b 0),(3,vP b1 0),(16,.bool t16)]) ?_ ?_
 · have H:=iS I;refine zR<|yG 4 [0] [(9,.bool (decide (x.Part < 0)))] ?_;cases hc:(decide (x.Part < 0)) with
   | true =>
    have hM0:=zQ hc ho0
    try rw [hc]
    exact yF [] [(16,vY)]<|yV [(2,vP b 0),(3,vP b1 0),(16,vY)]<|zV ⟨_,(zB hM0).symm,H,rfl,rfl⟩
   | false =>
    have hM01:=zN hc ho0
    try rw [hc]
    exact yF [0,1] [(16,.bool (decide (x.Part ≥ (p.Parts.length:Int))))]<|yV [(2,vP b 0),(3,vP b1 0),(16,.bool (decide (x.Part ≥ (p.Parts.length:Int))))]<|zV ⟨_,(zB hM01).symm,H,rfl,rfl⟩
 rintro I0 hs2 m2 ⟨t16,heq,le,rfl,rfl⟩;subst o0;have h2:=h2.mono le;have h1:=h1.mono le;have H:=H.trans le;refine zE<|yO hMc ?_ ?_
 · intro hc1 N;refine yI [(4,vF)]<|zE<|yC<|zK ?_;obtain rfl:=zB N;exact vQ
 intro hc1 N;refine zZ<|xP<|yG 4 [1,0] [(18,vS p2 p.Parts c1),(20,vI x.Part)]<|bE N fun x1 hy N=>wD rfl rfl h1 hy ?_;intro ad ccs hat hrep;obtain ⟨p4,c3,p5,c4,rfl,h3,h4⟩:=wT hrep;refine xT 0 hat (cPart x1 p4 c3 p5 c4) (vA (cPart x1 p4 c3 p5 c4)) rfl<|uK zTwo ?_;intro b2 hb2;refine xN 0 (cPart x1 p4 c3 p5 c4) [hB b2 (cPart x1 p4 c3 p5 c4),hB b1 (cInst x p3 c2),hB b (cProg p p1 c p2 c1)] rfl rfl rfl rfl<|yN rfl<|zE<|yK ?_;obtain ⟨o01,ho01,hMc1⟩:=zC N;refine yU (fun I' hs' m'=>∃ (t4:Bool),o01=t4∧I0.le I'∧hs'=[]∧m'=[(4,.bool t4)]) ?_ ?_
 · have H:=iS I0;refine zR<|yG 4 [1] [(26,.bool (decide (x.Stmt ≥ 0)))] ?_;cases hc2:(decide (x.Stmt ≥ 0)) with
   | true =>
    have hM02:=zQ hc2 ho01
    try rw [hc2]
    refine yG 12 [1,0] [(34,.bool (decide (x.Stmt < (x1.Body.length:Int))))] ?_;cases hc3:(decide (x.Stmt < (x1.Body.length:Int))) with
    | true =>
     have hM03:=zQ hc3 hM02
     try rw [hc3]
     refine yG 16 [0,1] [(36,vS p4 x1.Nest c3),(38,vS p3 x.Point c2)] ?_;obtain ⟨y,hy1,N⟩:=zC hM03;refine vL (zCv x1.Nest x.Point _ hy1 h3 h2) ?_;intro I02 le1;have H:=H.trans le1;exact yF [] [(4,.bool y)]<|wB zT<|yV [(4,.bool y)]<|zV ⟨_,(zB N).symm,H,rfl,rfl⟩
    | false =>
     have hM04:=zN hc3 hM02
     try rw [hc3]
     exact yF [] [(4,vF)]<|wB zT<|yV [(4,vF)]<|zV ⟨_,(zB hM04).symm,H,rfl,rfl⟩
   | false =>
    have hM05:=zN hc2 ho01
    try rw [hc2]
    exact yF [] [(4,vF)]<|wB zT<|yV [(4,vF)]<|zV ⟨_,(zB hM05).symm,H,rfl,rfl⟩
 rintro I01 hs2 m2 ⟨t4,heq1,le2,rfl,rfl⟩;subst o01;refine zE<|yC ?_;obtain rfl:=zB hMc1;exact vQ
def gR (r:(List Int)×Int):KT:=fun kk I' hs' v=>
  ∃ v0 v1,hs'=[]∧v=tupV [v0,v1]∧SL I' v0 r.1∧v1=.int .i64 r.2
def wU (p:zS) (x:zM) (y1:(List zI)) (out:List Int) (t17:Int):Option (List Int):=do
 if (decide (t17 < (y1.length:Int))) then
  let x1←idx y1 t17
  let y2←uX p x1 x.Point
  let out2←app 8 out ([y2]:List Int)
  wU p x y1 out2 (W (t17 + 1))
 else
  pure (id out)
 partial_fixpoint
theorem gL (p:zS) (x:zM) (y1:(List zI)):∀ (out:List Int) (t17:Int) (o:List Int),wU p x y1 out t17=some o→∀ {B}{I0 I:Imm}{Q}{y:zP}{p1 c p2 c1 p3 c2}{b:Nat}{b1:Nat}{p4 c3 p5 c4 p6 c5 p7 c6}{b2:Nat}{p8 c7 p9 c8 cs1},I0.le I→(S4 I p8 y1 c7)→(S4 I p4 y.Write.Subs c3)→(S4 I p5 y.Value.Index.Coefs c4)→(S4 I p6 y.Value.Read.Subs c5)→(S4 I p7 y.Value.Kids c6)→(S4 I p3 x.Point c2)→(S4 I p1 p.Arrays c)→(S4 I p2 p.Parts c1)→(RL I cs1 out)→NG Q→NO Q→(∀ (I':Imm) (out1:List Int) (p10:Option Addr) (c9:Nat) (cs2:List Value),o=out1→I0.le I'→(RL I' cs2 out1)→T 37 B Q (.exit 0) I' [hO Int (vS p10 out1 c9) cs2,hB b2 (cStmt y p4 c3 p5 c4 p6 c5 p7 c6),hB b1 (cInst x p3 c2),hB b (cProg p p1 c p2 c1)] [(2,vP b 0),(3,vP b1 0),(6,vP b2 0),(7,vS p10 out1 c9)])→J Tryz.prog 37 B (nav (bodyOf Tryz.f48) [1,1,1,0,1,0]) Q I [hO Int (vS p9 out c8) cs1,hB b2 (cStmt y p4 c3 p5 c4 p6 c5 p7 c6),hB b1 (cInst x p3 c2),hB b (cProg p p1 c p2 c1)] [(2,vP b 0),(3,vP b1 0),(6,vP b2 0),(7,vS p9 out c8),(15,vS p8 y1 c7),(16,vI (y1.length:Int)),(17,vI t17)]:=by
 refine wU.partial_correctness p x y1 _ fun self ih out t17 o N B I0 I Q y p1 c p2 c1 p3 c2 b b1 p4 c3 p5 c4 p6 c5 p7 c6 b2 p8 c7 p9 c8 cs1 H h8 h4 h5 h6 h7 h2 h h1 h10 hg ho hx=>xD hg ho<|yI [(18,.bool (decide (t17 < (y1.length:Int))))]<|yL<|yO N ?_ ?_
 · intro hc N;refine zZ<|yL<|zX<|yM<|bE N fun x1 hy2 N=>wD rfl rfl h8 hy2 ?_;intro ad ccs hat hrep;obtain ⟨p11,c10,rfl,h12⟩:=qP hrep;refine xT 0 hat (cAccess x1 p11 c10) (vA (cAccess x1 p11 c10)) rfl<|uK [vT ([]),z0] ?_;intro b3 hb3;refine xN 0 (cAccess x1 p11 c10) [hB b3 (cAccess x1 p11 c10),hO Int (vS p9 out c8) cs1,hB b2 (cStmt y p4 c3 p5 c4 p6 c5 p7 c6),hB b1 (cInst x p3 c2),hB b (cProg p p1 c p2 c1)] rfl rfl rfl rfl<|yN rfl<|zE<|zR<|yG 5 [4,0,3] [(21,vS p9 out c8),(22,vA (cProg p p1 c p2 c1)),(23,vA (cAccess x1 p11 c10)),(25,vS p3 x.Point c2)]<|bE N fun y2 hy3 N=>kD (oK p x1 x.Point _ hy3 h h1 h12 h2) ?_;intro I02 le2;have h8:=h8.mono le2;have h10:=iM le2 h10;have h4:=h4.mono le2;have h5:=h5.mono le2;have h6:=h6.mono le2;have h7:=h7.mono le2;have h2:=h2.mono le2;have h:=h.mono le2;have h1:=h1.mono le2;have H:=H.trans le2;refine xW [vI y2] Int ?_;intro b4 hb4;have h14:RL I02 [vI y2] ([y2]:List Int):=⟨[vI y2],_,rfl,rfl,rfl,rfl⟩;obtain ⟨out2,hy4,N⟩:=zC N;exact qZ 3 1 2 rfl rfl rfl h10 (.inr ⟨0,rfl⟩) h14 hy4 fun p12 c11 cs3 h15=>rP (yH [1,2,3,4,5] (hs':=[hB b3 (cAccess x1 p11 c10),hO Int (vS p12 out2 c11) cs3,hB b2 (cStmt y p4 c3 p5 c4 p6 c5 p7 c6),hB b1 (cInst x p3 c2),hB b (cProg p p1 c p2 c1)]))<|yF [] [(7,vS p12 out2 c11)]<|zU<|zE<|zR<|yF [] [(17,vI (W (t17 + 1)))]<|xE<|pJ (yD [1,2,3,4] rfl (by decide))<|vM [(2,vP b 0),(3,vP b1 0),(6,vP b2 0),(7,vS p12 out2 c11),(15,vS p8 y1 c7),(16,vI (y1.length:Int)),(17,vI (W (t17 + 1)))]<|ih out2 (W (t17 + 1)) _ N H h8 h4 h5 h6 h7 h2 h h1 h15 hg ho hx
 intro hc N;exact xC<|zO<|zO<|yV [(2,vP b 0),(3,vP b1 0),(6,vP b2 0),(7,vS p9 out c8)]<|hx _ _ _ _ _ (zB N).symm H h10
def rN (p:zS) (x:zM):Option ((List Int)×Int):=do
 let y←oZ p x
 let y1←oI y.Value
 let out1←wU p x y1 ([]:List Int) 0
 let y3←uX p y.Write x.Point
 pure (out1,y3)
theorem eJ:∀ p x r,rN p x=some r→∀ {I:Imm}{p1 c p2 c1 p3 c2},(S4 I p1 p.Arrays c)→(S4 I p2 p.Parts c1)→(S4 I p3 x.Point c2)→Ret Tryz.prog 48 [vA (cProg p p1 c p2 c1),vA (cInst x p3 c2)] I [] (gR  r):=by
 intro p x r N I p1 c p2 c1 p3 c2 h h1 h2;unfold rN at N;refine yB (fn:=Tryz.f48) (c:=(bodyOf Tryz.f48)) Tryz.func48 rfl rfl ?_;rintro B - -;refine yM<|tD (cProg p p1 c p2 c1) ?_;intro b hb;refine tD (cInst x p3 c2) ?_;intro b1 hb1;refine yF [] []<|xP<|yG 2 [1,0] [(10,vA (cProg p p1 c p2 c1)),(11,vA (cInst x p3 c2))]<|bE N fun y hy N=>xX (zAP p x _ hy h h1 h2) ?_;rintro I0 hs2 v2 k2 le - ⟨v0,rfl,rfl,⟨cs,rfl,h3⟩⟩ -;have h2:=h2.mono le;have h:=h.mono le;have h1:=h1.mono le;obtain ⟨p4,c3,p5,c4,p6,c5,p7,c6,rfl,h4,h5,h6,h7⟩:=qK h3;refine uK [vT ([]),z0,vI 0,vI 0,z0,vI 0,vT ([]),z0,z0] ?_;intro b2 hb2;refine xN 0 (cStmt y p4 c3 p5 c4 p6 c5 p7 c6) [hB b2 (cStmt y p4 c3 p5 c4 p6 c5 p7 c6),hB b1 (cInst x p3 c2),hB b (cProg p p1 c p2 c1)] rfl rfl rfl rfl<|yN rfl<|vO [(7,z0)]<|yL<|yM<|yG 2 [0] [(14,vA (cExpr y.Value p5 c4 p6 c5 p7 c6))]<|bE N fun y1 hy1 N=>xX (zAj y.Value _ hy1 h5 h6 h7) ?_;rintro I01 hs2 v2 k2 le1 - ⟨v05,rfl,rfl,h8⟩ -;have h4:=h4.mono le1;have h5:=h5.mono le1;have h6:=h6.mono le1;have h7:=h7.mono le1;have h2:=h2.mono le1;have h:=h.mono le1;have h1:=h1.mono le1;obtain ⟨p8,c7,rfl⟩:=h8.form;refine yF [] [(16,vI (y1.length:Int)),(17,vI 0)]<|zE<|zX<|vM [(2,vP b 0),(3,vP b1 0),(6,vP b2 0),(7,z0),(15,vS p8 y1 c7),(16,vI (y1.length:Int)),(17,vI 0)]<|pJ (tE (Rp.sz Int)) ?_;have h9:RL I01 [] ([]:List Int):=RepL.nil;obtain ⟨o0,ho0,hMl⟩:=zC N;refine gL p x y1 ([]:List Int) 0 o0 ho0 iR h8 h4 h5 h6 h7 h2 h h1 h9 (fun _ _ _ h=>h) (fun _ _ h=>h) ?_;intro I03 out1 p10 c9 cs2 heq le3 h11;subst o0;have h4:=h4.mono le3;have h2:=h2.mono le3;have h:=h.mono le3;have h1:=h1.mono le3;refine zY<|xP<|yG 6 [3,1,2] [(30,vS p10 out1 c9),(31,vA (cProg p p1 c p2 c1)),(33,vA (cAccess y.Write p4 c3)),(35,vS p3 x.Point c2)] ?_;obtain ⟨y3,hy5,N⟩:=zC hMl;refine kD (oK p y.Write x.Point _ hy5 h h1 h4 h2) ?_;intro I04 le4;have h11:=iM le4 h11;refine yF [] [(4,vS p10 out1 c9),(5,vI y3)]<|zE<|yC<|xO 0 rfl ?_;intro I05 le5 hl0;have h17:=SL.of_frozen hl0 le5 h11;obtain rfl:=zB N;exact xM ⟨_,_,(.tmp rfl (.tmp rfl ResV.nil)),zT,⟨_,_,rfl,rfl,h17,rfl⟩⟩
def jJ (p:zS) (x:zM):Option ((List Int)×Int×Bool):=do
 let t17←(do
   let y←pE p
   if (!y) then
    pure true
   else
    let y1←tX p x
    pure (!y1)
     : Option Bool)
 if t17 then
  pure (([]:List Int),0,false)
 else
  let (y3,y4)←rN p x
  pure (y3,y4,true)
theorem zFC:∀ p x r,jJ p x=some r→∀ {I:Imm}{p1 c p2 c1 p3 c2},(S4 I p1 p.Arrays c)→(S4 I p2 p.Parts c1)→(S4 I p3 x.Point c2)→Ret Tryz.prog 12 [vA (cProg p p1 c p2 c1),vA (cInst x p3 c2)] I [] (kJ  r):=by
 intro p x r N I p1 c p2 c1 p3 c2 h h1 h2;unfold jJ at N;refine yB (fn:=Tryz.f12) (c:=(bodyOf Tryz.f12)) Tryz.func12 rfl rfl ?_;rintro B - -;have H:=iS I;refine yM<|tD (cProg p p1 c p2 c1) ?_;intro b hb;refine tD (cInst x p3 c2) ?_;intro b1 hb1;refine yF [] []<|yL<|yK ?_;obtain ⟨o0,ho0,hMc⟩:=zC N;refine yU (fun I' hs' m'=>∃ (t17:Bool),o0=t17∧I.le I'∧hs'=[hB b1 (cInst x p3 c2),hB b (cProg p p1 c p2 c1)]∧m'=[(2,vP b 0),(3,vP b1 0),(17,.bool t17)]) ?_ ?_
 · have H:=iS I;refine zR<|yG 1 [1] [(9,vA (cProg p p1 c p2 c1))] ?_;obtain ⟨y,hy,N⟩:=zC ho0;refine vL (zAO p _ hy h h1) ?_;intro I01 le;have h2:=h2.mono le;have h:=h.mono le;have h1:=h1.mono le;have H:=H.trans le;refine yG 4 [] [(12,.bool (!y))] ?_;cases hc:(!y) with
   | true =>
    have hM0:=zQ hc N
    try rw [hc]
    exact yF [] [(17,vY)]<|yV [(2,vP b 0),(3,vP b1 0),(17,vY)]<|zV ⟨_,(zB hM0).symm,H,rfl,rfl⟩
   | false =>
    have hM01:=zN hc N
    try rw [hc]
    refine yG 6 [1,0] [(13,vA (cProg p p1 c p2 c1)),(14,vA (cInst x p3 c2))] ?_;obtain ⟨y1,hy1,N⟩:=zC hM01;refine vL (gK p x _ hy1 h h1 h2) ?_;intro I02 le1;have H:=H.trans le1;exact yF [] [(17,.bool (!y1))]<|yV [(2,vP b 0),(3,vP b1 0),(17,.bool (!y1))]<|zV ⟨_,(zB N).symm,H,rfl,rfl⟩
 rintro I0 hs2 m2 ⟨t17,heq,le2,rfl,rfl⟩;subst o0;have h2:=h2.mono le2;have h:=h.mono le2;have h1:=h1.mono le2;refine zE<|yO hMc ?_ ?_
 · intro hc1 N;refine yI [(4,z0),(5,vI 0),(6,vF)]<|zE<|yC<|zK ?_;obtain rfl:=zB N;exact xM ⟨_,_,(.tmp rfl (.tmp rfl (.tmp rfl ResV.nil))),zT,⟨_,_,_,rfl,rfl,(SL.nil _),rfl,rfl⟩⟩
 intro hc1 N;refine zZ<|xP<|yG 2 [1,0] [(19,vA (cProg p p1 c p2 c1)),(20,vA (cInst x p3 c2))] ?_;obtain ⟨⟨y3,y4⟩,hy2,N⟩:=zC N;refine xX (eJ p x _ hy2 h h1 h2) ?_;rintro I03 hs2 v2 k2 le3 - ⟨v02,v03,rfl,rfl,h5,rfl⟩ -;obtain ⟨p4,c3,rfl⟩:=h5.form;refine yF [] [(7,vS p4 y3 c3),(8,vI y4)]<|vO [(4,vS p4 y3 c3),(5,vI y4),(6,vY)]<|zE<|yC ?_;obtain rfl:=zB N;exact xM ⟨_,_,(.tmp rfl (.tmp rfl (.tmp rfl ResV.nil))),zT,⟨_,_,_,rfl,rfl,h5,rfl,rfl⟩⟩
end Go.LN
