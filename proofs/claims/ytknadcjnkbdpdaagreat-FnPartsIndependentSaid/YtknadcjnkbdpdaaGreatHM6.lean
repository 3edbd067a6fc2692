/- Helper of the proof (see the last text). -/
import Derived.Test.YtknadcjnkbdpdaaGreatHM5
set_option linter.unusedVariables false
set_option linter.unusedSimpArgs false
namespace Go.LN
open Go.Proofs
set_option maxRecDepth 20000
def rF (hsF:List HA) (r:Int):KT:=fun kk I' hs' v=>
  ∃ v0,hsF=hs'∧v=tupV [v0]∧v0=.int .i64 r
def yZ (s:(List zI)) (f0:(zI→Option Bool)) (t8:Int):Option (Out Unit (Int)):=do
 if (decide (t8 < (s.length:Int))) then
  let x←idx s t8
  let y←f0 x
  if y then
   pure (.ret t8)
  else
   yZ s f0 (W (t8 + 1))
 else
  pure (.done ())
 partial_fixpoint
theorem nT (s:(List zI)) (f0:(zI→Option Bool)):∀ (t8:Int) (o:Out Unit (Int)),yZ s f0 t8=some o→∀ {B}{I0 I:Imm}{Q p c}{fv:Value}{hsF:List HA},I0.le I→(S4 I p s c)→(FV1 Tryz.prog I hsF fv f0)→NG Q→NO Q→(∀ (I':Imm) ,o=(.done ())→I0.le I'→T 19 B Q (.exit 0) I' hsF [])→(∀ r I' hs' m',o=(.ret r)→I0.le I'→RS Tryz.prog Tryz.f165 B (rF hsF r) I' hs' m'→T 19 B Q .ret I' hs' m')→J Tryz.prog 19 B (nav (bodyOf Tryz.f165) [1,0,1,0]) Q I hsF [(0,vS p s c),(1,fv),(7,vI (s.length:Int)),(8,vI t8)]:=by
 refine yZ.partial_correctness s f0 _ fun self ih t8 o N B I0 I Q p c fv hsF H h h1 hg ho hx hr=>yW hg ho<|yF [(9,.bool (decide (t8 < (s.length:Int))))]<|yG<|yL N ?_ ?_
 · intro hc N;refine zV<|yG<|yM<|yF [(5,vI t8)]<|xD<|yC 3 [] [(11,fv),(12,vS p s c),(13,vI t8)]<|bE N fun x hy N=>xR rfl rfl h hy ?_;intro ad ccs hat hrep;obtain ⟨p1,c1,rfl,h2⟩:=pP hrep;refine xN 0 hat (cAccess x p1 c1) (vA (cAccess x p1 c1)) rfl<|bE N fun y hy1 N=>zIA rfl rfl h1 hy1 ⟨_,rfl,(oO ⟨_,rfl,h2⟩)⟩ (List.append_nil _).symm ?_;rintro I0 v01 le rfl;refine vJ (hs':=hsF) (List.append_nil _) ?_;have h:=h.mono le;have h1:=h1.mono le;have H:=H.trans le;refine yH rfl<|zL<|yL N ?_ ?_
   · intro hc1 N;exact yF [(4,vI t8)]<|xP<|yA<|zN<|zN<|hr _ _ _ _ (zC N).symm H ⟨_,_,(.tmp rfl ResV.nil),(fun _ h=>h),⟨_,rfl,rfl,rfl⟩⟩
   intro hc1 N;exact zV<|zR<|zL<|zP<|yB [] [(8,vI (W (t8 + 1)))]<|yT<|wN [(0,vS p s c),(1,fv),(7,vI (s.length:Int)),(8,vI (W (t8 + 1)))]<|ih (W (t8 + 1)) _ N H h h1 hg ho hx hr
 intro hc N;exact vD<|yS []<|hx _  (zC N).symm H
def wP (s:(List zI)) (f0:(zI→Option Bool)):Option (Int):=do
 match←yZ s f0 0 with
 | .ret r0=>pure r0
 | .done _ =>
  pure (-1)
theorem mN:∀ s f0 r,wP s f0=some r→∀ {I:Imm}{p c}{fv:Value}{hsF:List HA},(S4 I p s c)→(FV1 Tryz.prog I hsF fv f0)→RT 165 [vS p s c,fv] I hsF (rF hsF r):=by
 intro s f0 r N I p c fv hsF h h1;unfold wP at N;refine zX (fn:=Tryz.f165) (c:=(bodyOf Tryz.f165)) Tryz.func165 rfl rfl ?_;rintro B - -;refine yF []<|yG<|yF [(7,vI (s.length:Int)),(8,vI 0)]<|wD<|wN [(0,vS p s c),(1,fv),(7,vI (s.length:Int)),(8,vI 0)] ?_;obtain ⟨o0,ho0,hMl⟩:=zB N;refine nT s f0 0 o0 ho0 iR h h1 (fun _ _ _ h=>h) (fun _ _ h=>h) ?_ ?_
 · intro I01  heq le1;subst o0;refine zU<|wW [(4,vI (-1))]<|zL<|xG ?_;obtain rfl:=zC hMl;exact xF ⟨_,_,(.tmp rfl ResV.nil),(fun _ h=>h),⟨_,rfl,rfl,rfl⟩⟩
 intro r0 I9 hs9 m9 heq9 le9 hrs9;subst heq9;refine yA<|zN ?_;obtain rfl:=zC hMl;exact xF hrs9
def oY (hsF:List HA) (r:Bool):KT:=fun kk I' hs' v=>
  ∃ v0,hsF=hs'∧v=tupV [v0]∧v0=.bool r
def xT (s:(List zI)) (f0:(zI→Option Bool)):Option (Bool):=do
 let y←wP s f0
 pure (decide (y ≥ 0))
theorem nU:∀ s f0 r,xT s f0=some r→∀ {I:Imm}{p c}{fv:Value}{hsF:List HA},(S4 I p s c)→(FV1 Tryz.prog I hsF fv f0)→RT 123 [vS p s c,fv] I hsF (oY hsF r):=by
 intro s f0 r N I p c fv hsF h h1;unfold xT at N;refine zX (fn:=Tryz.f123) (c:=(bodyOf Tryz.f123)) Tryz.func123 rfl rfl ?_;rintro B - -;refine yF []<|xD<|yC 2 [] [(5,vS p s c),(6,fv)]<|bE N fun y hy N=>zDR (hs1:=hsF) (rest:=[]) rfl rfl rfl rfl (by kernel_rfl) rfl (List.append_nil _).symm (mN s f0 _ hy h h1) ?_;rintro I0 hs2 v2 k2 le - ⟨v0,rfl,rfl,rfl⟩ -;refine vJ (hs':=hsF) (List.append_nil _) ?_;refine yB [] [(4,.bool (decide (y ≥ 0)))]<|zL<|xG ?_;obtain rfl:=zC N;exact xF ⟨_,_,(.tmp rfl ResV.nil),(fun _ h=>h),⟨_,rfl,rfl,rfl⟩⟩
def uG (a0:zI) (x:zH) (x1:(List Int)):Option (Bool):=do
 let y←tJ x a0 x1
 pure (decide (y < 0))
theorem dH:∀ a0 x x1 r,uG a0 x x1=some r→∀ {I:Imm}{p c}{ad:Addr}{p1 c1 p2 c2}{ad1:Addr}{p3 c3},(S4 I p a0.Subs c)→(S4 I p1 x.Arrays c1)→(S4 I p2 x.Parts c2)→(At I ad (cProg x p1 c1 p2 c2))→(S4 I p3 x1 c3)→(At I ad1 [vS p3 x1 c3])→RT 162 [vA (cAccess a0 p c),.pointer (some ad),.pointer (some ad1)] I [] (zY  r):=by
 intro a0 x x1 r N I p c ad p1 c1 p2 c2 ad1 p3 c3 h h1 h2 hat h3 hat1;unfold uG at N;refine zX (fn:=Tryz.f162) (c:=(bodyOf Tryz.f162)) Tryz.func162 rfl rfl ?_;rintro B - -;refine yK<|tO (cAccess a0 p c) ?_;intro b hb;refine yB [] []<|xD<|xN 0 hat (cProg x p1 c1 p2 c2) (vA (cProg x p1 c1 p2 c2)) rfl<|yC 2 [0] [(6,vA (cAccess a0 p c))]<|xN 0 hat1 [vS p3 x1 c3] (vS p3 x1 c3) rfl<|bE N fun y hy N=>kI (nK x a0 x1 _ hy h1 h2 h h3) fun I0 le=>yB [] [(4,.bool (decide (y < 0)))]<|zL<|xG ?_;obtain rfl:=zC N;exact uM
def qO (p:zH) (s:zJ) (point:(List Int)):Option (Bool):=do
 let t6←(do
   let y←tJ p s.Write point
   if (decide (y ≥ 0)) then
    let y1←nJ s.Value
    let y2←xT y1 (fun x0=>uG x0 p point)
    pure (!y2)
   else
    pure false
     : Option Bool)
 pure (id t6)
theorem zAZ:∀ p s point r,qO p s point=some r→∀ {I:Imm}{p1 c p2 c1 p3 c2 p4 c3 p5 c4 p6 c5 p7 c6},(S4 I p1 p.Arrays c)→(S4 I p2 p.Parts c1)→(S4 I p3 s.Write.Subs c2)→(S4 I p4 s.Value.Index.Coefs c3)→(S4 I p5 s.Value.Read.Subs c4)→(S4 I p6 s.Value.Kids c5)→(S4 I p7 point c6)→RT 120 [vA (cProg p p1 c p2 c1),vA (cStmt s p3 c2 p4 c3 p5 c4 p6 c5),vS p7 point c6] I [] (zY  r):=by
 intro p s point r N I p1 c p2 c1 p3 c2 p4 c3 p5 c4 p6 c5 p7 c6 h h1 h2 h3 h4 h5 h6;unfold qO at N;refine zX (fn:=Tryz.f120) (c:=(bodyOf Tryz.f120)) Tryz.func120 rfl rfl ?_;rintro B - -;have H:=iS I;refine yK<|tO (cProg p p1 c p2 c1) ?_;intro b hb;refine yJ 0 rfl ?_;intro I0 le hl0;have hat:At I0 ⟨b,0,none⟩ (cProg p p1 c p2 c1):=At.of_blk hl0;have h:=h.mono le;have h1:=h1.mono le;have h2:=h2.mono le;have h3:=h3.mono le;have h4:=h4.mono le;have h5:=h5.mono le;have h6:=h6.mono le;have H:=H.trans le;refine tO (cStmt s p3 c2 p4 c3 p5 c4 p6 c5) ?_;intro b1 hb1;refine tO [vS p7 point c6] ?_;intro b2 hb2;refine yJ 0 rfl ?_;intro I01 le1 hl01;have hat1:At I01 ⟨b2,0,none⟩ [vS p7 point c6]:=At.of_blk hl01;have h:=h.mono le1;have h1:=h1.mono le1;have h2:=h2.mono le1;have h3:=h3.mono le1;have h4:=h4.mono le1;have h5:=h5.mono le1;have h6:=h6.mono le1;have hat:=hat.mono le1;have H:=H.trans le1;refine yB [] []<|zL<|yI ?_;obtain ⟨o0,ho0,hMc⟩:=zB N;refine yU (fun I' hs' m'=>∃ (t6:Bool),o0=t6∧I01.le I'∧hs'=[]∧m'=[(6,.bool t6)]) ?_ ?_
 · have H:=iS I01;refine zP<|xN 0 hat (cProg p p1 c p2 c1) (vA (cProg p p1 c p2 c1)) rfl<|yC 3 [0] [(9,vA (cAccess s.Write p3 c2))]<|xN 0 hat1 [vS p7 point c6] (vS p7 point c6) rfl ?_;obtain ⟨y,hy,N⟩:=zB ho0;refine kI (nK p s.Write point _ hy h h1 h2 h6) ?_;intro I03 le2;have h:=h.mono le2;have h1:=h1.mono le2;have hat:=hat.mono le2;have h6:=h6.mono le2;have hat1:=hat1.mono le2;have h3:=h3.mono le2;have h4:=h4.mono le2;have h5:=h5.mono le2;have H:=H.trans le2;refine yC 7 [] [(13,.bool (decide (y ≥ 0)))] ?_;cases hc:(decide (y ≥ 0)) with
   | true =>
    have hM0:=zS hc N
    try rw [hc]
    refine yC 9 [0] [(15,vA (cExpr s.Value p4 c3 p5 c4 p6 c5))] ?_;obtain ⟨y1,hy1,N⟩:=zB hM0;refine xS (zBo s.Value _ hy1 h3 h4 h5) ?_;rintro I04 hs2 v2 k2 le3 - ⟨v01,rfl,rfl,h8⟩ -;have h:=h.mono le3;have h1:=h1.mono le3;have hat:=hat.mono le3;have h6:=h6.mono le3;have hat1:=hat1.mono le3;have H:=H.trans le3;obtain ⟨p8,c7,rfl⟩:=h8.form;refine yC 11 [] [(17,.func (.func 162) ⟨[]⟩ ⟨[vP b 0,vP b2 0]⟩)] ?_;have hf0:FV1 Tryz.prog I04 [] (.func (.func 162) ⟨[]⟩ ⟨[vP b 0,vP b2 0]⟩) (fun x0=>uG x0 p point):=by
      refine FV1.intro ?_;intro I1 le1 x0 r u0 hF k0;obtain ⟨_,rfl,k0⟩:=k0;obtain ⟨p9,c8,rfl,h9⟩:=pP k0;exact (dH x0 p point r hF h9 (h.mono le1) (h1.mono le1) (hat.mono le1) (h6.mono le1) (hat1.mono le1)).mono (by rintro k i hs u ⟨v0,rfl,rfl,h⟩; exact ⟨rfl,h⟩)
    obtain ⟨y2,hy2,N⟩:=zB N;refine xS (nU y1 (fun x0=>uG x0 p point) _ hy2 h8 hf0) ?_;rintro I05 hs2 v2 k2 le4 - ⟨v03,rfl,rfl,rfl⟩ -;have H:=H.trans le4;exact yB [] [(6,.bool (!y2))]<|wC zT<|yS [(6,.bool (!y2))]<|zW (ct N H)
   | false =>
    have hM01:=zQ hc N
    try rw [hc]
    exact yB [] [(6,vF)]<|wC zT<|yS [(6,vF)]<|zW (ct hM01 H)
 rintro I02 hs2 m2 ⟨t6,heq,le5,rfl,rfl⟩;subst o0;refine zL<|xG ?_;obtain rfl:=zC hMc;exact uM
def rQ (r:(List zO)×Bool):KT:=fun kk I' hs' v=>
  ∃ v0 v1,hs'=[]∧v=tupV [v0,v1]∧SL I' v0 r.1∧v1=.bool r.2
def wQ (p:zH) (t26:Int) (x:zK) (x1:(List Int)) (out4:List zO) (t64:Int):Option (Out (List zO) ((List zO)×Bool)):=do
 if (decide (t64 < (x.Body.length:Int))) then
  let x2←idx x.Body t64
  let y7←qO p x2 x1
  if (!y7) then
   pure (.ret (([]:List zO),false))
  else
   let y8←sJ x1
   let out6←app 40 out4 ([(zO.mk t26 t64 y8)]:List zO)
   wQ p t26 x x1 out6 (W (t64 + 1))
 else
  pure (.done out4)
 partial_fixpoint
theorem fA (p:zH) (t26:Int) (x:zK) (x1:(List Int)):∀ (out4:List zO) (t64:Int) (o:Out (List zO) ((List zO)×Bool)),wQ p t26 x x1 out4 t64=some o→∀ {B}{I0 I:Imm}{Q}{y2:(List (List Int))}{t54:Int}{p1 c p2 c1}{b:Nat}{p5 c4 p6 c5}{b1:Nat}{p7 c6 p14 c13 p15 c14 cs4},I0.le I→(S4 I p5 x.Nest c4)→(S4 I p6 x.Body c5)→(At I ⟨b1,0,none⟩ (cPart x p5 c4 p6 c5))→(S4 I p14 x1 c13)→(S4 I p2 p.Parts c1)→(S4 I p7 y2 c6)→(S4 I p1 p.Arrays c)→(RL I cs4 out4)→NG Q→NO Q→(∀ (I':Imm) (out5:List zO) (p16:Option Addr) (c15:Nat) (cs5:List Value),o=(.done out5)→I0.le I'→(RL I' cs5 out5)→T 89 B Q (.exit 4) I' [hO zO (vS p16 out5 c15) cs5,hB b (cProg p p1 c p2 c1)] [(1,vP b 0),(4,vS p16 out5 c15),(5,vI t26),(6,vP b1 0),(24,vS p2 p.Parts c1),(25,vI (p.Parts.length:Int)),(26,vI t26),(52,vS p7 y2 c6),(53,vI (y2.length:Int)),(54,vI t54)])→(∀ r I' hs' m',o=(.ret r)→I0.le I'→RS Tryz.prog Tryz.f67 B (rQ  r) I' hs' m'→T 89 B Q .ret I' hs' m')→J Tryz.prog 89 B (nav (bodyOf Tryz.f67) [1,1,1,0,1,0,0,1,1,0,0,1,1,1,1,0,0,1,1,0,0,1,1,1,0]) Q I [hO zO (vS p15 out4 c14) cs4,hB b (cProg p p1 c p2 c1)] [(1,vP b 0),(4,vS p15 out4 c14),(5,vI t26),(6,vP b1 0),(10,vS p14 x1 c13),(24,vS p2 p.Parts c1),(25,vI (p.Parts.length:Int)),(26,vI t26),(52,vS p7 y2 c6),(53,vI (y2.length:Int)),(54,vI t54),(62,vS p6 x.Body c5),(63,vI (x.Body.length:Int)),(64,vI t64)]:=by
 refine wQ.partial_correctness p t26 x x1 _ fun self ih out4 t64 o N B I0 I Q y2 t54 p1 c p2 c1 b p5 c4 p6 c5 b1 p7 c6 p14 c13 p15 c14 cs4 H h6 h7 hat1 h18 h1 h8 h h20 hg ho hx hr=>yW hg ho<|yF [(65,.bool (decide (t64 < (x.Body.length:Int))))]<|yG<|yL N ?_ ?_
 · intro hc8 N;refine zV<|yG<|yM<|yK<|yC 1 [] [(66,vI t64)]<|bE N fun x2 hy7 N=>xR rfl rfl h7 hy7 ?_;intro ad2 ccs2 hat3 hrep2;obtain ⟨p17,c16,p18,c17,p19,c18,p20,c19,rfl,h22,h23,h24,h25⟩:=rC hrep2;refine xN 0 hat3 (cStmt x2 p17 c16 p18 c17 p19 c18 p20 c19) (vA (cStmt x2 p17 c16 p18 c17 p19 c18 p20 c19)) rfl<|wU [vT ([]),z0,vI 0,vI 0,z0,vI 0,vT ([]),z0,z0] ?_;intro b2 hb2;refine yC 5 [] [(11,vI t64)]<|xB 0 (cStmt x2 p17 c16 p18 c17 p19 c18 p20 c19) [hB b2 (cStmt x2 p17 c16 p18 c17 p19 c18 p20 c19),hO zO (vS p15 out4 c14) cs4,hB b (cProg p p1 c p2 c1)] rfl rfl rfl rfl<|yH rfl<|yG<|yK<|yC 3 [2,0] [(69,vA (cProg p p1 c p2 c1)),(70,vA (cStmt x2 p17 c16 p18 c17 p19 c18 p20 c19)),(71,vS p14 x1 c13)]<|bE N fun y7 hy8 N=>tQ (zAZ p x2 x1 _ hy8 h h1 h22 h23 h24 h25 h18) ?_;intro I08 le8;have h20:=iM le8 h20;have h6:=h6.mono le8;have h7:=h7.mono le8;have hat1:=hat1.mono le8;have h18:=h18.mono le8;have h1:=h1.mono le8;have h8:=h8.mono le8;have h:=h.mono le8;have H:=H.trans le8;refine yB [] [(73,.bool (!y7))]<|zL<|yL N ?_ ?_
   · intro hc9 N;exact yF [(2,z0),(3,vF)]<|xP<|zN<|yA<|zN<|zN<|hr _ _ _ _ (zC N).symm H ⟨_,_,(.tmp rfl (.tmp rfl ResV.nil)),zT,⟨_,_,rfl,rfl,(SL.nil _),rfl⟩⟩
   intro hc9 N;refine zV<|zL<|zP<|yC 4 [] [(74,vS p15 out4 c14),(75,vI t26),(76,vI t64),(77,vS p14 x1 c13)]<|bE N fun y8 hy9 N=>xS (mI x1 _ hy9 h18) ?_;rintro I09 hs2 v2 k2 le9 - ⟨p21,c20,cs6,rfl,rfl,h27⟩ -;have h6:=h6.mono le9;have h7:=h7.mono le9;have hat1:=hat1.mono le9;have h18:=h18.mono le9;have h1:=h1.mono le9;have h8:=h8.mono le9;have h20:=iM le9 h20;have h:=h.mono le9;have H:=H.trans le9;refine yC 6 [] [(79,vA [vI t26,vI t64,vS p21 y8 c20])]<|yJ 0 rfl ?_;intro I010 le10 hl01;have h28:=SL.of_frozen hl01 le10 h27;have h6:=h6.mono le10;have h7:=h7.mono le10;have hat1:=hat1.mono le10;have h18:=h18.mono le10;have h1:=h1.mono le10;have h8:=h8.mono le10;have h20:=iM le10 h20;have h:=h.mono le10;have H:=H.trans le10;refine xU [vI t26,vI t64,vS p21 y8 c20] zO ?_;intro b3 hb3;have h29:RL I010 [vI t26,vI t64,vS p21 y8 c20] ([(zO.mk t26 t64 y8)]:List zO):=⟨[vI t26,vI t64,vS p21 y8 c20],_,rfl,rfl,(fR ⟨_,rfl,h28⟩),rfl⟩;obtain ⟨out6,hy10,N⟩:=zB N;exact qI 29 3 2 rfl rfl rfl h20 (.inr ⟨0,rfl⟩) h29 hy10 fun p22 c21 cs7 h30=>sU (yD [1,2,3] (hs':=[hB b2 (cStmt x2 p17 c16 p18 c17 p19 c18 p20 c19),hO zO (vS p22 out6 c21) cs7,hB b (cProg p p1 c p2 c1)]))<|yB [] [(4,vS p22 out6 c21)]<|zR<|zL<|zP<|yB [] [(64,vI (W (t64 + 1)))]<|yT<|rM (zZ [1,2] rfl (by decide))<|wN [(1,vP b 0),(4,vS p22 out6 c21),(5,vI t26),(6,vP b1 0),(10,vS p14 x1 c13),(24,vS p2 p.Parts c1),(25,vI (p.Parts.length:Int)),(26,vI t26),(52,vS p7 y2 c6),(53,vI (y2.length:Int)),(54,vI t54),(62,vS p6 x.Body c5),(63,vI (x.Body.length:Int)),(64,vI (W (t64 + 1)))]<|ih out6 (W (t64 + 1)) _ N H h6 h7 hat1 h18 h1 h8 h h30 hg ho hx hr
 intro hc8 N;exact vD<|yS [(1,vP b 0),(4,vS p15 out4 c14),(5,vI t26),(6,vP b1 0),(24,vS p2 p.Parts c1),(25,vI (p.Parts.length:Int)),(26,vI t26),(52,vS p7 y2 c6),(53,vI (y2.length:Int)),(54,vI t54)]<|hx _ _ _ _ _ (zC N).symm H h20
def wR (p:zH) (t26:Int) (x:zK) (y2:(List (List Int))) (out2:List zO) (t54:Int):Option (Out (List zO) ((List zO)×Bool)):=do
 if (decide (t54 < (y2.length:Int))) then
  let x1←idx y2 t54
  let y6←kU x1
  if (!y6) then
   pure (.ret (([]:List zO),false))
  else
   match←wQ p t26 x x1 out2 0 with
   | .ret r0=>pure (.ret r0)
   | .done out5 =>
    wR p t26 x y2 out5 (W (t54 + 1))
 else
  pure (.done out2)
 partial_fixpoint
theorem fB (p:zH) (t26:Int) (x:zK) (y2:(List (List Int))):∀ (out2:List zO) (t54:Int) (o:Out (List zO) ((List zO)×Bool)),wR p t26 x y2 out2 t54=some o→∀ {B}{I0 I:Imm}{Q p1 c p2 c1}{b:Nat}{p5 c4 p6 c5}{b1:Nat}{p7 c6 p12 c11 cs2},I0.le I→(S4 I p5 x.Nest c4)→(S4 I p6 x.Body c5)→(At I ⟨b1,0,none⟩ (cPart x p5 c4 p6 c5))→(S4 I p2 p.Parts c1)→(S4 I p7 y2 c6)→(S4 I p1 p.Arrays c)→(RL I cs2 out2)→NG Q→NO Q→(∀ (I':Imm) (out3:List zO) (p13:Option Addr) (c12:Nat) (cs3:List Value),o=(.done out3)→I0.le I'→(RL I' cs3 out3)→T 89 B Q (.exit 2) I' [hO zO (vS p13 out3 c12) cs3,hB b (cProg p p1 c p2 c1)] [(1,vP b 0),(4,vS p13 out3 c12),(24,vS p2 p.Parts c1),(25,vI (p.Parts.length:Int)),(26,vI t26)])→(∀ r I' hs' m',o=(.ret r)→I0.le I'→RS Tryz.prog Tryz.f67 B (rQ  r) I' hs' m'→T 89 B Q .ret I' hs' m')→J Tryz.prog 89 B (nav (bodyOf Tryz.f67) [1,1,1,0,1,0,0,1,1,0,0,1,1,1,1,0]) Q I [hO zO (vS p12 out2 c11) cs2,hB b (cProg p p1 c p2 c1)] [(1,vP b 0),(4,vS p12 out2 c11),(5,vI t26),(6,vP b1 0),(24,vS p2 p.Parts c1),(25,vI (p.Parts.length:Int)),(26,vI t26),(52,vS p7 y2 c6),(53,vI (y2.length:Int)),(54,vI t54)]:=by
 refine wR.partial_correctness p t26 x y2 _ fun self ih out2 t54 o N B I0 I Q p1 c p2 c1 b p5 c4 p6 c5 b1 p7 c6 p12 c11 cs2 H h6 h7 hat1 h1 h8 h h16 hg ho hx hr=>yW hg ho<|yF [(55,.bool (decide (t54 < (y2.length:Int))))]<|yG<|yL N ?_ ?_
 · intro hc6 N;refine zV<|yG<|yM<|yK<|bE N fun x1 hy5 N=>xR rfl rfl h8 hy5 ?_;intro ad1 ccs1 hat2 hrep1;obtain ⟨v011,rfl,h18⟩:=hrep1;obtain ⟨p14,c13,rfl⟩:=h18.form;refine xN 0 hat2 [vS p14 x1 c13] (vS p14 x1 c13) rfl<|yB [] [(10,vS p14 x1 c13)]<|yG<|yK<|yC 1 [] [(58,vS p14 x1 c13)]<|bE N fun y6 hy6 N=>tQ (zEP x1 _ hy6 h18) ?_;intro I07 le7;have h16:=iM le7 h16;have h6:=h6.mono le7;have h7:=h7.mono le7;have hat1:=hat1.mono le7;have h18:=h18.mono le7;have h1:=h1.mono le7;have h8:=h8.mono le7;have h:=h.mono le7;have H:=H.trans le7;refine yB [] [(60,.bool (!y6))]<|zL<|yL N ?_ ?_
   · intro hc7 N;exact yF [(2,z0),(3,vF)]<|xP<|zN<|yA<|zN<|zN<|hr _ _ _ _ (zC N).symm H ⟨_,_,(.tmp rfl (.tmp rfl ResV.nil)),zT,⟨_,_,rfl,rfl,(SL.nil _),rfl⟩⟩
   intro hc7 N;refine zV<|xD<|yC 1 [] [(61,vP b1 1)]<|xN 1 hat1 [vS p6 x.Body c5] (vS p6 x.Body c5) rfl<|yB [] [(63,vI (x.Body.length:Int)),(64,vI 0)]<|wD<|wN [(1,vP b 0),(4,vS p12 out2 c11),(5,vI t26),(6,vP b1 0),(10,vS p14 x1 c13),(24,vS p2 p.Parts c1),(25,vI (p.Parts.length:Int)),(26,vI t26),(52,vS p7 y2 c6),(53,vI (y2.length:Int)),(54,vI t54),(62,vS p6 x.Body c5),(63,vI (x.Body.length:Int)),(64,vI 0)] ?_;obtain ⟨o02,ho02,hMl⟩:=zB N;refine fA p t26 x x1 out2 0 o02 ho02 iR h6 h7 hat1 h18 h1 h8 h h16 (fun _ _ _ h=>hg _ _ _ h) (fun _ _ h=>ho _ _ h) ?_ ?_
   · intro I011 out5 p16 c15 cs5 heq2 le11 h21;subst o02;have h6:=h6.mono le11;have h7:=h7.mono le11;have hat1:=hat1.mono le11;have h1:=h1.mono le11;have h8:=h8.mono le11;have h:=h.mono le11;have H:=H.trans le11;exact zU<|zR<|zL<|zP<|yB [] [(54,vI (W (t54 + 1)))]<|yT<|wN [(1,vP b 0),(4,vS p16 out5 c15),(5,vI t26),(6,vP b1 0),(24,vS p2 p.Parts c1),(25,vI (p.Parts.length:Int)),(26,vI t26),(52,vS p7 y2 c6),(53,vI (y2.length:Int)),(54,vI (W (t54 + 1)))]<|ih out5 (W (t54 + 1)) _ hMl H h6 h7 hat1 h1 h8 h h21 hg ho hx hr
   intro r0 I9 hs9 m9 heq9 le9 hrs9;subst heq9;exact yA<|yA<|zN<|zN<|hr _ _ _ _ (zC hMl).symm (H.trans le9) hrs9
 intro hc6 N;exact vD<|yS [(1,vP b 0),(4,vS p12 out2 c11),(24,vS p2 p.Parts c1),(25,vI (p.Parts.length:Int)),(26,vI t26)]<|hx _ _ _ _ _ (zC N).symm H h16
def wS (p:zH) (out:List zO) (t26:Int):Option (Out (List zO) ((List zO)×Bool)):=do
 if (decide (t26 < (p.Parts.length:Int))) then
  let x←idx p.Parts t26
  let (y2,y3)←nI x.Nest
  let t51←(do
    if (!y3) then
     pure true
    else
     let y4←wA (x.Body.length:Int) 1 4
     if (!y4) then
      pure true
     else
      let y5←xW x.Body (fun x0=>wY x0 x)
      pure (id y5)
      : Option Bool)
  if t51 then
   pure (.ret (([]:List zO),false))
  else
   match←wR p t26 x y2 out 0 with
   | .ret r0=>pure (.ret r0)
   | .done out3 =>
    wS p out3 (W (t26 + 1))
 else
  pure (.done out)
 partial_fixpoint
theorem fC (p:zH):∀ (out:List zO) (t26:Int) (o:Out (List zO) ((List zO)×Bool)),wS p out t26=some o→∀ {B}{I0 I:Imm}{Q p1 c p2 c1}{b:Nat}{p3 c2 cs},I0.le I→(S4 I p2 p.Parts c1)→(S4 I p1 p.Arrays c)→(RL I cs out)→NG Q→NO Q→(∀ (I':Imm) (out1:List zO) (p4:Option Addr) (c3:Nat) (cs1:List Value),o=(.done out1)→I0.le I'→(RL I' cs1 out1)→T 89 B Q (.exit 0) I' [hO zO (vS p4 out1 c3) cs1] [(4,vS p4 out1 c3)])→(∀ r I' hs' m',o=(.ret r)→I0.le I'→RS Tryz.prog Tryz.f67 B (rQ  r) I' hs' m'→T 89 B Q .ret I' hs' m')→J Tryz.prog 89 B (nav (bodyOf Tryz.f67) [1,1,1,0,1,0]) Q I [hO zO (vS p3 out c2) cs,hB b (cProg p p1 c p2 c1)] [(1,vP b 0),(4,vS p3 out c2),(24,vS p2 p.Parts c1),(25,vI (p.Parts.length:Int)),(26,vI t26)]:=by
 refine wS.partial_correctness p _ fun self ih out t26 o N B I0 I Q p1 c p2 c1 b p3 c2 cs H h1 h h4 hg ho hx hr=>yW hg ho<|yF [(27,.bool (decide (t26 < (p.Parts.length:Int))))]<|yG<|yL N ?_ ?_
 · intro hc2 N;refine zV<|yG<|yM<|yK<|yC 1 [] [(28,vI t26)]<|bE N fun x hy1 N=>xR rfl rfl h1 hy1 ?_;intro ad ccs hat hrep;obtain ⟨p5,c4,p6,c5,rfl,h6,h7⟩:=wZ hrep;refine xN 0 hat (cPart x p5 c4 p6 c5) (vA (cPart x p5 c4 p6 c5)) rfl<|wU zTwo ?_;intro b1 hb1;refine yC 5 [] [(5,vI t26)]<|xB 0 (cPart x p5 c4 p6 c5) [hB b1 (cPart x p5 c4 p6 c5),hO zO (vS p3 out c2) cs,hB b (cProg p p1 c p2 c1)] rfl rfl rfl rfl<|yH rfl<|xD<|yC 2 [0] [(33,vS p5 x.Nest c4)] ?_;obtain ⟨⟨y2,y3⟩,hy2,N⟩:=zB N;refine xS (zCM x.Nest _ hy2 h6) ?_;rintro I02 hs2 v2 k2 le2 - ⟨v03,v04,rfl,rfl,h8,rfl⟩ -;have h4:=iM le2 h4;have h1:=h1.mono le2;have h6:=h6.mono le2;have h7:=h7.mono le2;have h:=h.mono le2;have H:=H.trans le2;obtain ⟨p7,c6,rfl⟩:=h8.form;refine yB [] [(7,vS p7 y2 c6),(8,.bool y3)]<|yG<|yI<|pO 0 rfl ?_;intro I03 le3 hl0;have hat1:At I03 ⟨b1,0,none⟩ (cPart x p5 c4 p6 c5):=At.of_blk hl0;have h4:=iM le3 h4;have h6:=h6.mono le3;have h7:=h7.mono le3;have h8:=h8.mono le3;have h1:=h1.mono le3;have h:=h.mono le3;have H:=H.trans le3;obtain ⟨o01,ho01,hMc1⟩:=zB N;refine yU (fun I' hs' m'=>∃ (t51:Bool),o01=t51∧I03.le I'∧hs'=[hO zO (vS p3 out c2) cs,hB b (cProg p p1 c p2 c1)]∧m'=[(1,vP b 0),(4,vS p3 out c2),(5,vI t26),(6,vP b1 0),(7,vS p7 y2 c6),(24,vS p2 p.Parts c1),(25,vI (p.Parts.length:Int)),(26,vI t26),(51,.bool t51)]) ?_ ?_
   · have H:=iS I03;refine zP<|yC 3 [] [(39,.bool (!y3))] ?_;cases hc3:(!y3) with
     | true =>
      have hM02:=zS hc3 ho01
      try rw [hc3]
      exact yB [] [(51,vY)]<|yS [(1,vP b 0),(4,vS p3 out c2),(5,vI t26),(6,vP b1 0),(7,vS p7 y2 c6),(24,vS p2 p.Parts c1),(25,vI (p.Parts.length:Int)),(26,vI t26),(51,vY)]<|zW (ct hM02 H)
     | false =>
      have hM03:=zQ hc3 ho01
      try rw [hc3]
      refine yC 4 [] [(40,vP b1 1)]<|xN 1 hat1 [vS p6 x.Body c5] (vS p6 x.Body c5) rfl<|yC 6 [] [(42,vI (x.Body.length:Int))] ?_;obtain ⟨y4,hy3,N⟩:=zB hM03;refine tQ (wM (x.Body.length:Int) 1 4 _ hy3 ) ?_;intro I05 le4;have h6:=h6.mono le4;have h7:=h7.mono le4;have hat1:=hat1.mono le4;have h:=h.mono le4;have H:=H.trans le4;refine yC 10 [] [(46,.bool (!y4))] ?_;cases hc4:(!y4) with
      | true =>
       have hM04:=zS hc4 N
       try rw [hc4]
       exact yB [] [(51,vY)]<|yS [(1,vP b 0),(4,vS p3 out c2),(5,vI t26),(6,vP b1 0),(7,vS p7 y2 c6),(24,vS p2 p.Parts c1),(25,vI (p.Parts.length:Int)),(26,vI t26),(51,vY)]<|zW (ct hM04 H)
      | false =>
       have hM05:=zQ hc4 N
       try rw [hc4]
       refine yC 11 [] [(47,vP b1 1)]<|xN 1 hat1 [vS p6 x.Body c5] (vS p6 x.Body c5) rfl<|yC 13 [] [(49,.func (.func 119) ⟨[]⟩ ⟨[vP b1 0]⟩)] ?_;have hf0:FV1 Tryz.prog I05 [] (.func (.func 119) ⟨[]⟩ ⟨[vP b1 0]⟩) (fun x0=>wY x0 x):=by
         refine FV1.intro ?_;intro I1 le1 x0 r u0 hF k0;obtain ⟨_,rfl,k0⟩:=k0;obtain ⟨p8,c7,p9,c8,p10,c9,p11,c10,rfl,h11,h12,h13,h14⟩:=rC k0;exact (fK x0 x r hF h11 h12 h13 h14 (h6.mono le1) (h7.mono le1) (hat1.mono le1)).mono (by rintro k i hs u ⟨v0,rfl,rfl,h⟩; exact ⟨rfl,h⟩)
       obtain ⟨y5,hy4,N⟩:=zB hM05;refine xS (mW x.Body (fun x0=>wY x0 x) _ hy4 h7 hf0) ?_;rintro I06 hs2 v2 k2 le5 - ⟨v010,rfl,rfl,rfl⟩ -;have H:=H.trans le5;exact yB [] [(51,.bool y5)]<|yS [(1,vP b 0),(4,vS p3 out c2),(5,vI t26),(6,vP b1 0),(7,vS p7 y2 c6),(24,vS p2 p.Parts c1),(25,vI (p.Parts.length:Int)),(26,vI t26),(51,.bool y5)]<|zW (ct N H)
   rintro I04 hs2 m2 ⟨t51,heq1,le6,rfl,rfl⟩;subst o01;have h4:=iM le6 h4;have h6:=h6.mono le6;have h7:=h7.mono le6;have hat1:=hat1.mono le6;have h8:=h8.mono le6;have h1:=h1.mono le6;have h:=h.mono le6;have H:=H.trans le6;refine zL<|yL hMc1 ?_ ?_
   · intro hc5 N;exact yF [(2,z0),(3,vF)]<|xP<|zN<|yA<|zN<|zN<|hr _ _ _ _ (zC N).symm H ⟨_,_,(.tmp rfl (.tmp rfl ResV.nil)),zT,⟨_,_,rfl,rfl,(SL.nil _),rfl⟩⟩
   intro hc5 N;refine zV<|wW [(52,vS p7 y2 c6),(53,vI (y2.length:Int)),(54,vI 0)]<|wD<|wN [(1,vP b 0),(4,vS p3 out c2),(5,vI t26),(6,vP b1 0),(24,vS p2 p.Parts c1),(25,vI (p.Parts.length:Int)),(26,vI t26),(52,vS p7 y2 c6),(53,vI (y2.length:Int)),(54,vI 0)] ?_;obtain ⟨o03,ho03,hMl1⟩:=zB N;refine fB p t26 x y2 out 0 o03 ho03 iR h6 h7 hat1 h1 h8 h h4 (fun _ _ _ h=>hg _ _ _ h) (fun _ _ h=>ho _ _ h) ?_ ?_
   · intro I012 out3 p13 c12 cs3 heq3 le12 h17;subst o03;have h1:=h1.mono le12;have h:=h.mono le12;have H:=H.trans le12;exact zU<|zR<|zL<|zP<|yB [] [(26,vI (W (t26 + 1)))]<|yT<|wN [(1,vP b 0),(4,vS p13 out3 c12),(24,vS p2 p.Parts c1),(25,vI (p.Parts.length:Int)),(26,vI (W (t26 + 1)))]<|ih out3 (W (t26 + 1)) _ hMl1 H h1 h h17 hg ho hx hr
   intro r0 I9 hs9 m9 heq9 le9 hrs9;subst heq9;exact yA<|yA<|zN<|zN<|hr _ _ _ _ (zC hMl1).symm (H.trans le9) hrs9
 intro hc2 N;exact vD<|wC (zZ [0] rfl (by decide))<|yS [(4,vS p3 out c2)]<|hx _ _ _ _ _ (zC N).symm H h4
def tE (p:zH):Option ((List zO)×Bool):=do
 let t22←(do
   let y←mZ p.Arrays
   if (!y) then
    pure true
   else
    pure (decide ((p.Parts.length:Int) > 4))
     : Option Bool)
 if t22 then
  pure (([]:List zO),false)
 else
  match←wS p ([]:List zO) 0 with
  | .ret r0=>pure r0
  | .done out1 =>
   pure (out1,(decide ((out1.length:Int) ≤ 120)))
theorem kY:∀ p r,tE p=some r→∀ {I:Imm}{p1 c p2 c1},(S4 I p1 p.Arrays c)→(S4 I p2 p.Parts c1)→RT 67 [vA (cProg p p1 c p2 c1)] I [] (rQ  r):=by
 intro p r N I p1 c p2 c1 h h1;unfold tE at N;refine zX (fn:=Tryz.f67) (c:=(bodyOf Tryz.f67)) Tryz.func67 rfl rfl ?_;rintro B - -;have H:=iS I;refine yK<|tO (cProg p p1 c p2 c1) ?_;intro b hb;refine yB [] []<|yG<|yI ?_;obtain ⟨o0,ho0,hMc⟩:=zB N;refine yU (fun I' hs' m'=>∃ (t22:Bool),o0=t22∧I.le I'∧hs'=[hB b (cProg p p1 c p2 c1)]∧m'=[(1,vP b 0),(22,.bool t22)]) ?_ ?_
 · have H:=iS I;refine zP<|yC 2 [0] [(14,vS p1 p.Arrays c)] ?_;obtain ⟨y,hy,N⟩:=zB ho0;refine tQ (zDh p.Arrays _ hy h) ?_;intro I01 le;have H:=H.trans le;refine yC 5 [] [(17,.bool (!y))] ?_;cases hc:(!y) with
   | true =>
    have hM0:=zS hc N
    try rw [hc]
    exact yB [] [(22,vY)]<|yS [(1,vP b 0),(22,vY)]<|zW (ct hM0 H)
   | false =>
    have hM01:=zQ hc N
    try rw [hc]
    exact yB [0] [(22,.bool (decide ((p.Parts.length:Int) > 4)))]<|yS [(1,vP b 0),(22,.bool (decide ((p.Parts.length:Int) > 4)))]<|zW (ct hM01 H)
 rintro I0 hs2 m2 ⟨t22,heq,le1,rfl,rfl⟩;subst o0;have h:=h.mono le1;have h1:=h1.mono le1;refine zL<|yL hMc ?_ ?_
 · intro hc1 N;refine yF [(2,z0),(3,vF)]<|xP<|zN ?_;obtain rfl:=zC N;exact xF ⟨_,_,(.tmp rfl (.tmp rfl ResV.nil)),zT,⟨_,_,rfl,rfl,(SL.nil _),rfl⟩⟩
 intro hc1 N;refine zV<|wW [(4,z0)]<|yG<|yK<|yB [0] [(24,vS p2 p.Parts c1),(25,vI (p.Parts.length:Int)),(26,vI 0)]<|wD<|wN [(1,vP b 0),(4,z0),(24,vS p2 p.Parts c1),(25,vI (p.Parts.length:Int)),(26,vI 0)]<|rM (wT (Rp.sz zO)) ?_;have h3:RL I0 [] ([]:List zO):=RepL.nil;obtain ⟨o04,ho04,hMl2⟩:=zB N;refine fC p ([]:List zO) 0 o04 ho04 iR h1 h h3 (fun _ _ _ h=>h) (fun _ _ h=>h) ?_ ?_
 · intro I013 out1 p4 c3 cs1 heq4 le13 h5;subst o04;refine zU<|wW [(2,vS p4 out1 c3),(3,.bool (decide ((out1.length:Int) ≤ 120)))]<|xP<|xA 0 rfl ?_;intro I014 le14 hl02;have h31:=SL.of_frozen hl02 le14 h5;obtain rfl:=zC hMl2;exact xF ⟨_,_,(.tmp rfl (.tmp rfl ResV.nil)),zT,⟨_,_,rfl,rfl,h31,rfl⟩⟩
 intro r0 I9 hs9 m9 heq9 le9 hrs9;subst heq9;refine yA<|zN ?_;obtain rfl:=zC hMl2;exact xF hrs9
def uH (p:zH) (n0:Int) (t9:Int):Option (Int):=do
 if (decide (t9 < (p.Arrays.length:Int))) then
  let x←idx p.Arrays t9
  let y←pV x
  uH p (W (n0 + y)) (W (t9 + 1))
 else
  pure (id n0)
 partial_fixpoint
theorem dI (p:zH):∀ (n0:Int) (t9:Int) (o:Int),uH p n0 t9=some o→∀ {B}{I0 I:Imm}{Q p1 c},I0.le I→(S4 I p1 p.Arrays c)→NG Q→NO Q→(∀ (I':Imm) (n01:Int),o=n01→I0.le I'→T 19 B Q (.exit 0) I' [] [(3,vI n01)])→J Tryz.prog 19 B (nav (bodyOf Tryz.f90) [1,1,0,1,0]) Q I [] [(3,vI n0),(7,vS p1 p.Arrays c),(8,vI (p.Arrays.length:Int)),(9,vI t9)]:=by
 refine uH.partial_correctness p _ fun self ih n0 t9 o N B I0 I Q p1 c H h hg ho hx=>yW hg ho<|yF [(10,.bool (decide (t9 < (p.Arrays.length:Int))))]<|yG<|yL N ?_ ?_
 · intro hc N;refine zV<|yG<|yM<|yK<|bE N fun x hy N=>xR rfl rfl h hy ?_;intro ad ccs hat hrep;obtain ⟨p3,c2,rfl,h2⟩:=xX hrep;refine xN 0 hat (cArr x p3 c2) (vA (cArr x p3 c2)) rfl<|wU [vT ([]),z0] ?_;intro b1 hb1;refine xB 0 (cArr x p3 c2) [hB b1 (cArr x p3 c2)] rfl rfl rfl rfl<|yH rfl<|zL<|zP<|yC 2 [0] [(13,vI n0),(14,vA (cArr x p3 c2))]<|bE N fun y hy1 N=>kI (fZ x _ hy1 h2) ?_;intro I0 le;have h:=h.mono le;have H:=H.trans le;exact yB [] [(3,vI (W (n0 + y)))]<|zR<|zL<|zP<|yB [] [(9,vI (W (t9 + 1)))]<|yT<|rM zT<|wN [(3,vI (W (n0 + y))),(7,vS p1 p.Arrays c),(8,vI (p.Arrays.length:Int)),(9,vI (W (t9 + 1)))]<|ih (W (n0 + y)) (W (t9 + 1)) _ N H h hg ho hx
 intro hc N;exact vD<|yS [(3,vI n0)]<|hx _ _ (zC N).symm H
def rP (p:zH):Option (Int):=do
 let n01←uH p 0 0
 pure (id n01)
theorem gD:∀ p r,rP p=some r→∀ {I:Imm}{p1 c p2 c1},(S4 I p1 p.Arrays c)→(S4 I p2 p.Parts c1)→RT 90 [vA (cProg p p1 c p2 c1)] I [] (xE  r):=by
 intro p r N I p1 c p2 c1 h h1;unfold rP at N;refine zX (fn:=Tryz.f90) (c:=(bodyOf Tryz.f90)) Tryz.func90 rfl rfl ?_;rintro B - -;refine yK<|tO (cProg p p1 c p2 c1) ?_;intro b hb;refine yB [] []<|wW [(3,vI 0)]<|yG<|yK<|yB [0] [(7,vS p1 p.Arrays c),(8,vI (p.Arrays.length:Int)),(9,vI 0)]<|wD<|rM (yD [] (hs':=[]))<|wN [(3,vI 0),(7,vS p1 p.Arrays c),(8,vI (p.Arrays.length:Int)),(9,vI 0)] ?_;obtain ⟨o0,ho0,hMl⟩:=zB N;refine dI p 0 0 o0 ho0 iR h (fun _ _ _ h=>h) (fun _ _ h=>h) ?_;intro I01 n01 heq le1;subst o0;refine zU<|wW [(2,vI n01)]<|zL<|xG ?_;obtain rfl:=zC hMl;exact uM
def zA0 (r:zJ):KT:=fun kk I' hs' v=>
  ∃ v0,hs'=[]∧v=tupV [v0]∧(∃ cs,v0=.agg ⟨cs⟩∧Rp.rep I' cs r)
def nX (p:zH) (x:zO):Option (zJ):=do
 let x1←idx p.Parts x.Part
 let x2←idx x1.Body x.Stmt
 pure (id x2)
theorem zBL:∀ p x r,nX p x=some r→∀ {I:Imm}{p1 c p2 c1 p3 c2},(S4 I p1 p.Arrays c)→(S4 I p2 p.Parts c1)→(S4 I p3 x.Point c2)→RT 43 [vA (cProg p p1 c p2 c1),vA (cInst x p3 c2)] I [] (zA0  r):=by
 intro p x r N I p1 c p2 c1 p3 c2 h h1 h2;unfold nX at N;refine zX (fn:=Tryz.f43) (c:=(bodyOf Tryz.f43)) Tryz.func43 rfl rfl ?_;rintro B - -;refine yK<|tO (cProg p p1 c p2 c1) ?_;intro b hb;refine tO (cInst x p3 c2) ?_;intro b1 hb1;refine wU [vT ([]),z0,vI 0,vI 0,z0,vI 0,vT ([]),z0,z0] ?_;intro b2 hb2;refine yH rfl<|zL<|yI ?_;obtain ⟨x1,hy,N⟩:=zB N;obtain ⟨x2,hy1,N⟩:=zB N;refine vC [.p (vP b 1) [],.p (vS p2 p.Parts c1) [2],.p (vP b1 0) [],.p (vI x.Part) [1],.x (fun I' v hx=>∃ ad p4 c3 p5 c4,v=.pointer (some ad)∧hx=[]∧(At I' ad (cPart x1 p4 c3 p5 c4))∧(S4 I' p4 x1.Nest c3)∧(S4 I' p5 x1.Body c4)),.x (fun I' v hx=>∃ ad1 p41 c31 p51 c41,v=.pointer (some (ad1.add 1))∧hx=[]∧(At I' ad1 (cPart x1 p41 c31 p51 c41))∧(S4 I' p41 x1.Nest c31)∧(S4 I' p51 x1.Body c41)),.x (fun I' v hx=>∃ p511 c411,v=vS p511 x1.Body c411∧hx=[]∧(S4 I' p511 x1.Body c411)),.p (vP b1 1) [],.p (vI x.Stmt) [1],.x (fun I' v hx=>∃ ad2 p6 c5 p7 c6 p8 c7 p9 c8,v=.pointer (some ad2)∧hx=[]∧(At I' ad2 (cStmt x2 p6 c5 p7 c6 p8 c7 p9 c8))∧(S4 I' p6 x2.Write.Subs c5)∧(S4 I' p7 x2.Value.Index.Coefs c6)∧(S4 I' p8 x2.Value.Read.Subs c7)∧(S4 I' p9 x2.Value.Kids c8)),.x (fun I' v hx=>∃ p61 c51 p71 c61 p81 c71 p91 c81,v=vA (cStmt x2 p61 c51 p71 c61 p81 c71 p91 c81)∧hx=[]∧(S4 I' p61 x2.Write.Subs c51)∧(S4 I' p71 x2.Value.Index.Coefs c61)∧(S4 I' p81 x2.Value.Read.Subs c71)∧(S4 I' p91 x2.Value.Kids c81))] [[],[(0,false)],[],[(2,false)],[(1,false),(3,false)],[(4,false)],[(5,false)],[],[(7,false)],[(6,false),(8,false)],[(9,false)]] [hB b2 [vT ([]),z0,vI 0,vI 0,z0,vI 0,vT ([]),z0,z0],hB b1 (cInst x p3 c2),hB b (cProg p p1 c p2 c1)] [] [(10,false)] (yD [0,1,2]) ?_ ?_
 · refine Op<|Op<|Op<|Op<|Ox ?_<|Ox ?_<|Ox ?_<|Op<|Op<|Ox ?_<|Ox ?_<|On
   · intro I1 hf le1;refine yR [(6,vS p2 p.Parts c1),(8,vI x.Part)] ?_;have h1:=h1.mono le1;refine xR rfl rfl h1 hy ?_;intro ad ccs hat hrep;obtain ⟨p4,c3,p5,c4,rfl,h3,h4⟩:=wZ hrep;exact yP [] iR ⟨_,_,_,_,_,rfl,rfl,hat,h3,h4⟩
   · intro I1 hf le1;refine zF ?_;rintro _ _ ⟨ad,p4,c3,p5,c4,rfl,rfl,hat,h3,h4⟩;exact yR [(9,.pointer (some ad))]<|pM 6 [(10,.pointer (some (ad.add 1)))]<|yP [] iR ⟨_,_,_,_,_,rfl,rfl,hat,h3,h4⟩
   · intro I1 hf le1;refine zF ?_;rintro _ _ ⟨ad1,p41,c31,p51,c41,rfl,rfl,hat1,h31,h41⟩;exact yR [(10,.pointer (some (ad1.add 1)))]<|xN 1 hat1 [vS p51 x1.Body c41] (vS p51 x1.Body c41) rfl<|yP [] iR ⟨_,_,rfl,rfl,h41⟩
   · intro I1 hf le1;refine zF ?_;rintro _ _ ⟨p511,c411,rfl,rfl,h411⟩;refine yR [(11,vS p511 x1.Body c411),(13,vI x.Stmt)]<|xR rfl rfl h411 hy1 ?_;intro ad2 ccs1 hat2 hrep1;obtain ⟨p6,c5,p7,c6,p8,c7,p9,c8,rfl,h5,h6,h7,h8⟩:=rC hrep1;exact yP [] iR ⟨_,_,_,_,_,_,_,_,_,rfl,rfl,hat2,h5,h6,h7,h8⟩
   intro I1 hf le1;refine zF ?_;rintro _ _ ⟨ad2,p6,c5,p7,c6,p8,c7,p9,c8,rfl,rfl,hat2,h5,h6,h7,h8⟩;exact yR [(14,.pointer (some ad2))]<|xN 0 hat2 (cStmt x2 p6 c5 p7 c6 p8 c7 p9 c8) (vA (cStmt x2 p6 c5 p7 c6 p8 c7 p9 c8)) rfl<|yP [] iR ⟨_,_,_,_,_,_,_,_,rfl,rfl,h5,h6,h7,h8⟩
 intro I0 le;refine zF ?_;rintro _ _ ⟨p61,c51,p71,c61,p81,c71,p91,c81,rfl,rfl,h51,h61,h71,h81⟩;refine yR [(4,vP b2 0),(15,vA (cStmt x2 p61 c51 p71 c61 p81 c71 p91 c81))] ?_;refine xB 0 (cStmt x2 p61 c51 p71 c61 p81 c71 p91 c81) [hB b2 (cStmt x2 p61 c51 p71 c61 p81 c71 p91 c81),hB b1 (cInst x p3 c2),hB b (cProg p p1 c p2 c1)] rfl rfl rfl rfl<|yH rfl<|zL<|xG ?_;obtain rfl:=zC N;exact xF ⟨_,_,(.cell 0 rfl rfl (by kernel_rfl) ResV.nil),zT,⟨_,rfl,rfl,⟨_,rfl,(wJ ⟨_,_,_,_,rfl,h51,h61,h71,h81⟩)⟩⟩⟩
def eG (r:(List Int)×Int):KT:=fun kk I' hs' v=>
  ∃ v0 v1,hs'=[]∧v=tupV [v0,v1]∧SL I' v0 r.1∧v1=.int .i64 r.2
def vE (p:zH) (x:zO) (y1:(List zI)) (out:List Int) (t17:Int):Option (List Int):=do
 if (decide (t17 < (y1.length:Int))) then
  let x1←idx y1 t17
  let y2←tJ p x1 x.Point
  let out2←app 8 out ([y2]:List Int)
  vE p x y1 out2 (W (t17 + 1))
 else
  pure (id out)
 partial_fixpoint
theorem eA (p:zH) (x:zO) (y1:(List zI)):∀ (out:List Int) (t17:Int) (o:List Int),vE p x y1 out t17=some o→∀ {B}{I0 I:Imm}{Q}{y:zJ}{p1 c p2 c1 p3 c2}{b:Nat}{b1:Nat}{p4 c3 p5 c4 p6 c5 p7 c6}{b2:Nat}{p8 c7 p9 c8 cs1},I0.le I→(S4 I p8 y1 c7)→(S4 I p4 y.Write.Subs c3)→(S4 I p5 y.Value.Index.Coefs c4)→(S4 I p6 y.Value.Read.Subs c5)→(S4 I p7 y.Value.Kids c6)→(S4 I p3 x.Point c2)→(S4 I p1 p.Arrays c)→(S4 I p2 p.Parts c1)→(RL I cs1 out)→NG Q→NO Q→(∀ (I':Imm) (out1:List Int) (p10:Option Addr) (c9:Nat) (cs2:List Value),o=out1→I0.le I'→(RL I' cs2 out1)→T 37 B Q (.exit 0) I' [hO Int (vS p10 out1 c9) cs2,hB b2 (cStmt y p4 c3 p5 c4 p6 c5 p7 c6),hB b1 (cInst x p3 c2),hB b (cProg p p1 c p2 c1)] [(2,vP b 0),(3,vP b1 0),(6,vP b2 0),(7,vS p10 out1 c9)])→J Tryz.prog 37 B (nav (bodyOf Tryz.f48) [1,1,1,0,1,0]) Q I [hO Int (vS p9 out c8) cs1,hB b2 (cStmt y p4 c3 p5 c4 p6 c5 p7 c6),hB b1 (cInst x p3 c2),hB b (cProg p p1 c p2 c1)] [(2,vP b 0),(3,vP b1 0),(6,vP b2 0),(7,vS p9 out c8),(15,vS p8 y1 c7),(16,vI (y1.length:Int)),(17,vI t17)]:=by
 refine vE.partial_correctness p x y1 _ fun self ih out t17 o N B I0 I Q y p1 c p2 c1 p3 c2 b b1 p4 c3 p5 c4 p6 c5 p7 c6 b2 p8 c7 p9 c8 cs1 H h8 h4 h5 h6 h7 h2 h h1 h10 hg ho hx=>yW hg ho<|yF [(18,.bool (decide (t17 < (y1.length:Int))))]<|yG<|yL N ?_ ?_
 · intro hc N;refine zV<|yG<|yM<|yK<|bE N fun x1 hy2 N=>xR rfl rfl h8 hy2 ?_;intro ad ccs hat hrep;obtain ⟨p11,c10,rfl,h12⟩:=pP hrep;refine xN 0 hat (cAccess x1 p11 c10) (vA (cAccess x1 p11 c10)) rfl<|wU [vT ([]),z0] ?_;intro b3 hb3;refine xB 0 (cAccess x1 p11 c10) [hB b3 (cAccess x1 p11 c10),hO Int (vS p9 out c8) cs1,hB b2 (cStmt y p4 c3 p5 c4 p6 c5 p7 c6),hB b1 (cInst x p3 c2),hB b (cProg p p1 c p2 c1)] rfl rfl rfl rfl<|yH rfl<|zL<|zP<|yC 5 [4,0,3] [(21,vS p9 out c8),(22,vA (cProg p p1 c p2 c1)),(23,vA (cAccess x1 p11 c10)),(25,vS p3 x.Point c2)]<|bE N fun y2 hy3 N=>kI (nK p x1 x.Point _ hy3 h h1 h12 h2) ?_;intro I02 le2;have h8:=h8.mono le2;have h10:=iM le2 h10;have h4:=h4.mono le2;have h5:=h5.mono le2;have h6:=h6.mono le2;have h7:=h7.mono le2;have h2:=h2.mono le2;have h:=h.mono le2;have h1:=h1.mono le2;have H:=H.trans le2;refine xU [vI y2] Int ?_;intro b4 hb4;have h14:RL I02 [vI y2] ([y2]:List Int):=⟨[vI y2],_,rfl,rfl,rfl,rfl⟩;obtain ⟨out2,hy4,N⟩:=zB N;exact qI 3 1 2 rfl rfl rfl h10 (.inr ⟨0,rfl⟩) h14 hy4 fun p12 c11 cs3 h15=>sU (yD [1,2,3,4,5] (hs':=[hB b3 (cAccess x1 p11 c10),hO Int (vS p12 out2 c11) cs3,hB b2 (cStmt y p4 c3 p5 c4 p6 c5 p7 c6),hB b1 (cInst x p3 c2),hB b (cProg p p1 c p2 c1)]))<|yB [] [(7,vS p12 out2 c11)]<|zR<|zL<|zP<|yB [] [(17,vI (W (t17 + 1)))]<|yT<|rM (zZ [1,2,3,4] rfl (by decide))<|wN [(2,vP b 0),(3,vP b1 0),(6,vP b2 0),(7,vS p12 out2 c11),(15,vS p8 y1 c7),(16,vI (y1.length:Int)),(17,vI (W (t17 + 1)))]<|ih out2 (W (t17 + 1)) _ N H h8 h4 h5 h6 h7 h2 h h1 h15 hg ho hx
 intro hc N;exact vD<|yS [(2,vP b 0),(3,vP b1 0),(6,vP b2 0),(7,vS p9 out c8)]<|hx _ _ _ _ _ (zC N).symm H h10
def qG (p:zH) (x:zO):Option ((List Int)×Int):=do
 let y←nX p x
 let y1←nJ y.Value
 let out1←vE p x y1 ([]:List Int) 0
 let y3←tJ p y.Write x.Point
 pure (out1,y3)
theorem zAK:∀ p x r,qG p x=some r→∀ {I:Imm}{p1 c p2 c1 p3 c2},(S4 I p1 p.Arrays c)→(S4 I p2 p.Parts c1)→(S4 I p3 x.Point c2)→RT 48 [vA (cProg p p1 c p2 c1),vA (cInst x p3 c2)] I [] (eG  r):=by
 intro p x r N I p1 c p2 c1 p3 c2 h h1 h2;unfold qG at N;refine zX (fn:=Tryz.f48) (c:=(bodyOf Tryz.f48)) Tryz.func48 rfl rfl ?_;rintro B - -;refine yK<|tO (cProg p p1 c p2 c1) ?_;intro b hb;refine tO (cInst x p3 c2) ?_;intro b1 hb1;refine yB [] []<|xD<|yC 2 [1,0] [(10,vA (cProg p p1 c p2 c1)),(11,vA (cInst x p3 c2))]<|bE N fun y hy N=>xS (zBL p x _ hy h h1 h2) ?_;rintro I0 hs2 v2 k2 le - ⟨v0,rfl,rfl,⟨cs,rfl,h3⟩⟩ -;have h2:=h2.mono le;have h:=h.mono le;have h1:=h1.mono le;obtain ⟨p4,c3,p5,c4,p6,c5,p7,c6,rfl,h4,h5,h6,h7⟩:=rC h3;refine wU [vT ([]),z0,vI 0,vI 0,z0,vI 0,vT ([]),z0,z0] ?_;intro b2 hb2;refine xB 0 (cStmt y p4 c3 p5 c4 p6 c5 p7 c6) [hB b2 (cStmt y p4 c3 p5 c4 p6 c5 p7 c6),hB b1 (cInst x p3 c2),hB b (cProg p p1 c p2 c1)] rfl rfl rfl rfl<|yH rfl<|wW [(7,z0)]<|yG<|yK<|yC 2 [0] [(14,vA (cExpr y.Value p5 c4 p6 c5 p7 c6))]<|bE N fun y1 hy1 N=>xS (zBo y.Value _ hy1 h5 h6 h7) ?_;rintro I01 hs2 v2 k2 le1 - ⟨v05,rfl,rfl,h8⟩ -;have h4:=h4.mono le1;have h5:=h5.mono le1;have h6:=h6.mono le1;have h7:=h7.mono le1;have h2:=h2.mono le1;have h:=h.mono le1;have h1:=h1.mono le1;obtain ⟨p8,c7,rfl⟩:=h8.form;refine yB [] [(16,vI (y1.length:Int)),(17,vI 0)]<|wD<|wN [(2,vP b 0),(3,vP b1 0),(6,vP b2 0),(7,z0),(15,vS p8 y1 c7),(16,vI (y1.length:Int)),(17,vI 0)]<|rM (wT (Rp.sz Int)) ?_;have h9:RL I01 [] ([]:List Int):=RepL.nil;obtain ⟨o0,ho0,hMl⟩:=zB N;refine eA p x y1 ([]:List Int) 0 o0 ho0 iR h8 h4 h5 h6 h7 h2 h h1 h9 (fun _ _ _ h=>h) (fun _ _ h=>h) ?_;intro I03 out1 p10 c9 cs2 heq le3 h11;subst o0;have h4:=h4.mono le3;have h2:=h2.mono le3;have h:=h.mono le3;have h1:=h1.mono le3;refine zU<|xD<|yC 6 [3,1,2] [(30,vS p10 out1 c9),(31,vA (cProg p p1 c p2 c1)),(33,vA (cAccess y.Write p4 c3)),(35,vS p3 x.Point c2)] ?_;obtain ⟨y3,hy5,N⟩:=zB hMl;refine kI (nK p y.Write x.Point _ hy5 h h1 h4 h2) ?_;intro I04 le4;have h11:=iM le4 h11;refine yB [] [(4,vS p10 out1 c9),(5,vI y3)]<|xP<|xA 0 rfl ?_;intro I05 le5 hl0;have h17:=SL.of_frozen hl0 le5 h11;obtain rfl:=zC N;exact xF ⟨_,_,(.tmp rfl (.tmp rfl ResV.nil)),zT,⟨_,_,rfl,rfl,h17,rfl⟩⟩
def pW (p:zH):Option ((List zO)):=do
 let (y1,y2)←tE p
 if (!y2) then
  pure ([]:List zO)
 else
  pure (id y1)
theorem zFb:∀ p r,pW p=some r→∀ {I:Imm}{p1 c p2 c1},(S4 I p1 p.Arrays c)→(S4 I p2 p.Parts c1)→RT 22 [vA (cProg p p1 c p2 c1)] I [] (gB  r):=by
 intro p r N I p1 c p2 c1 h h1;unfold pW at N;refine zX (fn:=Tryz.f22) (c:=(bodyOf Tryz.f22)) Tryz.func22 rfl rfl ?_;rintro B - -;refine yK<|tO (cProg p p1 c p2 c1) ?_;intro b hb;refine yB [] []<|xD<|yC 1 [0] [(6,vA (cProg p p1 c p2 c1))] ?_;obtain ⟨⟨y1,y2⟩,hy,N⟩:=zB N;refine xS (kY p _ hy h h1) ?_;rintro I0 hs2 v2 k2 le - ⟨v0,v01,rfl,rfl,h2,rfl⟩ -;obtain ⟨p3,c2,rfl⟩:=h2.form;refine yB [] [(3,vS p3 y1 c2),(4,.bool y2)]<|yG<|yF [(11,.bool (!y2))]<|zL<|yL N ?_ ?_
 · intro hc N;refine yF [(2,z0)]<|xP<|zN ?_;obtain rfl:=zC N;exact xF ⟨_,_,(.tmp rfl ResV.nil),zT,⟨_,rfl,rfl,(SL.nil _)⟩⟩
 intro hc N;refine zV<|wW [(2,vS p3 y1 c2)]<|zL<|xG ?_;obtain rfl:=zC N;exact xF ⟨_,_,(.tmp rfl ResV.nil),zT,⟨_,rfl,rfl,h2⟩⟩
def rL (y:(List Str)) (out:List Str) (i:Int):Option (List Str):=do
 if (decide (i < (y.length:Int))) then
  let x←idx y i
  let out2←(do
    if (!(x.l == ([]:List UInt8))) then
     let x1←idx y i
     let out3←app 16 out ([x1]:List Str)
     pure (id out3)
    else
     pure (id out)
      : Option (List Str))
  rL y out2 (W (i + 1))
 else
  pure (id out)
 partial_fixpoint
theorem zBe (y:(List Str)):∀ (out:List Str) (i:Int) (o:List Str),rL y out i=some o→∀ {B}{I0 I:Imm}{Q p c p1 c1 cs},I0.le I→(S4 I p y c)→(RL I cs out)→NG Q→NO Q→(∀ (I':Imm) (out1:List Str) (p2:Option Addr) (c2:Nat) (cs1:List Value),o=out1→I0.le I'→(RL I' cs1 out1)→T 28 B Q (.exit 0) I' [hO Str (vS p2 out1 c2) cs1] [(4,vS p2 out1 c2)])→J Tryz.prog 28 B (nav (bodyOf Tryz.f186) [1,1,1,0,1,0]) Q I [hO Str (vS p1 out c1) cs] [(3,vS p y c),(4,vS p1 out c1),(5,vI i)]:=by
 refine rL.partial_correctness y _ fun self ih out i o N B I0 I Q p c p1 c1 cs H h h2 hg ho hx=>yW hg ho<|yI<|yF [(12,.bool (decide (i < (y.length:Int))))]<|zL<|yL N ?_ ?_
 · intro hc N;refine zV<|yG<|yM<|yK<|yC 2 [] [(15,vS p y c),(16,vI i)]<|bE N fun x hy1 N=>xR rfl rfl h hy1 ?_;intro ad ccs hat hrep;obtain rfl:=hrep;refine xN 0 hat [vT x.l] (vT x.l) rfl<|yB [] [(19,.bool (!(x.l == ([]:List UInt8))))]<|zL ?_;obtain ⟨o0,ho0,hMc⟩:=zB N;refine yU (fun I' hs' m'=>∃ (out2:List Str) (p3:Option Addr) (c3:Nat) (cs2:List Value),o0=out2∧I.le I'∧(RL I' cs2 out2)∧hs'=[hO Str (vS p3 out2 c3) cs2]∧m'=[(3,vS p y c),(4,vS p3 out2 c3),(5,vI i)]) ?_ ?_
   · have H:=iS I;refine yL ho0 ?_ ?_
     · intro hc1 N;refine zP<|yC 3 [] [(20,vS p1 out c1),(21,vS p y c),(22,vI i)]<|bE N fun x1 hy2 N=>xR rfl rfl h hy2 ?_;intro ad1 ccs1 hat1 hrep1;obtain rfl:=hrep1;refine xN 0 hat1 [vT x1.l] (vT x1.l) rfl<|xU [vT x1.l] Str ?_;intro b1 hb1;have h5:RL I [vT x1.l] ([x1]:List Str):=⟨[vT x1.l],_,rfl,rfl,rfl,rfl⟩;obtain ⟨out3,hy3,N⟩:=zB N;exact qI 9 1 1 rfl rfl rfl h2 (.inr ⟨0,rfl⟩) h5 hy3 fun p4 c4 cs3 h6=>sU (yD [1] (hs':=[hO Str (vS p4 out3 c4) cs3]))<|yB [] [(4,vS p4 out3 c4)]<|yS [(3,vS p y c),(4,vS p4 out3 c4),(5,vI i)]<|zW ⟨_,_,_,_,(zC N).symm,H,h6,rfl,rfl⟩
     intro hc1 N;exact zV<|yS [(3,vS p y c),(4,vS p1 out c1),(5,vI i)]<|zW ⟨_,_,_,_,(zC N).symm,H,h2,rfl,rfl⟩
   rintro I01 hs2 m2 ⟨out2,p3,c3,cs2,heq,le1,h4,rfl,rfl⟩;subst o0;have h:=h.mono le1;have H:=H.trans le1;exact zR<|zL<|zP<|yB [] [(5,vI (W (i + 1)))]<|yT<|wN [(3,vS p y c),(4,vS p3 out2 c3),(5,vI (W (i + 1)))]<|ih out2 (W (i + 1)) _ hMc H h h4 hg ho hx
 intro hc N;exact vD<|yS [(4,vS p1 out c1)]<|hx _ _ _ _ _ (zC N).symm H h2
def nE (s:Str):Option ((List Str)):=do
 let y←nQ s (32:UInt8)
 let out1←rL y ([]:List Str) 0
 pure (id out1)
theorem zAL:∀ s r,nE s=some r→∀ {I:Imm} ,RT 186 [vT s.l] I [] (zAA  r):=by
 intro s r N I;unfold nE at N;refine zX (fn:=Tryz.f186) (c:=(bodyOf Tryz.f186)) Tryz.func186 rfl rfl ?_;rintro B - -;refine yF []<|xD<|yC 1 [] [(6,vT s.l)]<|bE N fun y hy N=>xS (fW s (32:UInt8) _ hy ) ?_;rintro I0 hs2 v2 k2 le - ⟨v0,rfl,rfl,h⟩ -;obtain ⟨p,c,rfl⟩:=h.form;refine yB [] [(3,vS p y c)]<|xD<|xU [] Str ?_;intro b hb;have h1:RL I0 [] ([]:List Str):=rfl;refine yB [] [(4,vS (some ⟨b,0,none⟩) ([]:List Str) 0)]<|yG<|yF [(5,vI 0)]<|wD<|wN [(3,vS p y c),(4,vS (some ⟨b,0,none⟩) ([]:List Str) 0),(5,vI 0)] ?_;obtain ⟨o01,ho01,hMl⟩:=zB N;refine zBe y ([]:List Str) 0 o01 ho01 iR h h1 (fun _ _ _ h=>h) (fun _ _ h=>h) ?_;intro I02 out1 p2 c2 cs1 heq1 le2 h3;subst o01;refine zU<|wW [(2,vS p2 out1 c2)]<|xP<|xA 0 rfl ?_;intro I03 le3 hl0;have h7:=SL.of_frozen hl0 le3 h3;obtain rfl:=zC hMl;exact xF ⟨_,_,(.tmp rfl ResV.nil),zT,⟨_,rfl,rfl,h7⟩⟩
def zDB (r:zD):KT:=fun kk I' hs' v=>
  ∃ v0,hs'=[]∧v=tupV [v0]∧(∃ cs,v0=.agg ⟨cs⟩∧Rp.rep I' cs r)
def sT (w0:(List Str)) (i:Int) (Name:Str) (Dims:List Int):Option ((Str×List Int)):=do
 let t15←(do
   if (decide (i < (w0.length:Int))) then
    pure (decide (i ≤ 4))
   else
    pure false
     : Option Bool)
 if t15 then
  if (i == 1) then
   let x←idx w0 1
   sT w0 (W (i + 1)) x Dims
  else
   let x1←idx w0 i
   let (y1,y2)←kG x1
   let l←app 8 Dims ([y1]:List Int)
   sT w0 (W (i + 1)) Name l
 else
  pure (Name,Dims)
 partial_fixpoint
theorem zCP (w0:(List Str)):∀ (i:Int) (Name:Str) (Dims:List Int) (o:(Str×List Int)),sT w0 i Name Dims=some o→∀ {B}{I0 I:Imm}{Q p c}{b:Nat}{b1:Nat}{p1 c1 cs},I0.le I→(S4 I p w0 c)→(RL I cs Dims)→NG Q→NO Q→(∀ (I':Imm) (Name1:Str) (Dims1:List Int) (p2:Option Addr) (c2:Nat) (cs1:List Value),o=(Name1,Dims1)→I0.le I'→(RL I' cs1 Dims1)→T 39 B Q (.exit 0) I' [hO Int (vS p2 Dims1 c2) cs1,hB b1 [vT Name1.l,vS p2 Dims1 c2],hB b [vT ([]),z0]] [(2,vP b 0),(3,vP b1 0)])→J Tryz.prog 39 B (nav (bodyOf Tryz.f187) [1,1,0,1,0]) Q I [hO Int (vS p1 Dims c1) cs,hB b1 [vT Name.l,vS p1 Dims c1],hB b [vT ([]),z0]] [(0,vS p w0 c),(2,vP b 0),(3,vP b1 0),(4,vI i)]:=by
 refine sT.partial_correctness w0 _ fun self ih i Name Dims o N B I0 I Q p c b b1 p1 c1 cs H h h2 hg ho hx=>yW hg ho<|yI<|yI ?_;obtain ⟨o0,ho0,hMc⟩:=zB N;refine yU (fun I' hs' m'=>∃ (t15:Bool),o0=t15∧I.le I'∧hs'=[hO Int (vS p1 Dims c1) cs,hB b1 [vT Name.l,vS p1 Dims c1],hB b [vT ([]),z0]]∧m'=[(0,vS p w0 c),(2,vP b 0),(3,vP b1 0),(4,vI i),(15,.bool t15)]) ?_ ?_
 · have H:=iS I;refine zP<|yC 5 [] [(12,.bool (decide (i < (w0.length:Int))))] ?_;cases hc:(decide (i < (w0.length:Int))) with
   | true =>
    have hM0:=zS hc ho0
    try rw [hc]
    exact yB [] [(15,.bool (decide (i ≤ 4)))]<|yS [(0,vS p w0 c),(2,vP b 0),(3,vP b1 0),(4,vI i),(15,.bool (decide (i ≤ 4)))]<|zW (ct hM0 H)
   | false =>
    have hM01:=zQ hc ho0
    try rw [hc]
    exact yB [] [(15,vF)]<|yS [(0,vS p w0 c),(2,vP b 0),(3,vP b1 0),(4,vI i),(15,vF)]<|zW (ct hM01 H)
 rintro I0 hs2 m2 ⟨t15,heq,le,rfl,rfl⟩;subst o0;have h:=h.mono le;have h2:=iM le h2;have H:=H.trans le;refine zL<|yL hMc ?_ ?_
 · intro hc1 N;refine zV<|yG<|yM<|yI<|yF [(19,.bool (i == 1))]<|zL<|yL N ?_ ?_
   · intro hc2 N;refine yK<|yC 1 [] [(20,vS p w0 c)]<|bE N fun x hy N=>xR rfl rfl h hy ?_;intro ad ccs hat hrep;obtain rfl:=hrep;exact xN 0 hat [vT x.l] (vT x.l) rfl<|yC 4 [] [(23,vP b1 0)]<|xB 1 [vT x.l,vS p1 Dims c1] [hO Int (vS p1 Dims c1) cs,hB b1 [vT x.l,vS p1 Dims c1],hB b [vT ([]),z0]] rfl rfl rfl rfl<|yH rfl<|zL<|zAn<|oJ<|zU<|zL<|zP<|yB [] [(4,vI (W (i + 1)))]<|yT<|wN [(0,vS p w0 c),(2,vP b 0),(3,vP b1 0),(4,vI (W (i + 1)))]<|ih (W (i + 1)) x Dims _ N H h h2 hg ho hx
   intro hc2 N;refine zV<|xD<|yC 2 [] [(25,vS p w0 c),(26,vI i)]<|bE N fun x1 hy1 N=>xR rfl rfl h hy1 ?_;intro ad1 ccs1 hat1 hrep1;obtain rfl:=hrep1;refine xN 0 hat1 [vT x1.l] (vT x1.l) rfl ?_;obtain ⟨⟨y1,y2⟩,hy2,N⟩:=zB N;refine xS (zBD x1 _ hy2 ) ?_;rintro I01 hs2 v2 k2 le1 - ⟨v0,v01,rfl,rfl,rfl,rfl⟩ -;have h:=h.mono le1;have h2:=iM le1 h2;have H:=H.trans le1;refine yB [] [(5,vI y1)]<|zL<|zP<|yC 3 [1] [(33,vS p1 Dims c1),(34,vI y1)]<|xU [vI y1] Int ?_;intro b2 hb2;have h6:RL I01 [vI y1] ([y1]:List Int):=⟨[vI y1],_,rfl,rfl,rfl,rfl⟩;obtain ⟨l,hy3,N⟩:=zB N;refine qI 3 1 1 rfl rfl rfl h2 (.inr ⟨0,rfl⟩) h6 hy3 ?_;intro p3 c3 cs2 h7;exact sU (yD [1,2,3] (hs':=[hO Int (vS p3 l c3) cs2,hB b1 [vT Name.l,vS p1 Dims c1],hB b [vT ([]),z0]]))<|yC 6 [] [(37,vP b1 1)]<|xB 1 [vT Name.l,vS p3 l c3] [hO Int (vS p3 l c3) cs2,hB b1 [vT Name.l,vS p3 l c3],hB b [vT ([]),z0]] rfl rfl rfl rfl<|yH rfl<|zR<|zL<|zP<|yB [] [(4,vI (W (i + 1)))]<|yT<|wN [(0,vS p w0 c),(2,vP b 0),(3,vP b1 0),(4,vI (W (i + 1)))]<|ih (W (i + 1)) Name l _ N H h h7 hg ho hx
 intro hc1 N;exact vD<|yS [(2,vP b 0),(3,vP b1 0)]<|hx _ _ _ _ _ _ (zC N).symm H h2
def kW (w0:(List Str)):Option (zD):=do
 let (Name1,Dims1)←sT w0 1 (⟨[]⟩:Str) ([]:List Int)
 pure (zD.mk Name1 Dims1)
theorem zER:∀ w0 r,kW w0=some r→∀ {I:Imm}{p c},(S4 I p w0 c)→RT 187 [vS p w0 c] I [] (zDB  r):=by
 intro w0 r N I p c h;unfold kW at N;refine zX (fn:=Tryz.f187) (c:=(bodyOf Tryz.f187)) Tryz.func187 rfl rfl ?_;rintro B - -;refine yK<|wU [vT ([]),z0] ?_;intro b hb;refine yH rfl<|xD<|yC 1 [] [(7,vA [vT ([]),z0])]<|wU [vT ([]),z0] ?_;intro b1 hb1;refine xB 0 [vT ([]),z0] [hB b1 [vT ([]),z0],hB b [vT ([]),z0]] rfl rfl rfl rfl<|yH rfl<|yG<|yF [(4,vI 1)]<|wD<|wN [(0,vS p w0 c),(2,vP b 0),(3,vP b1 0),(4,vI 1)]<|rM (wT (Rp.sz Int)) ?_;have h1:RL I [] ([]:List Int):=RepL.nil;obtain ⟨o01,ho01,hMl⟩:=zB N;refine zCP w0 1 (⟨[]⟩:Str) ([]:List Int) o01 ho01 iR h h1 (fun _ _ _ h=>h) (fun _ _ h=>h) ?_;intro I02 Name1 Dims1 p2 c2 cs1 heq1 le2 h3;subst o01;refine zU<|xD<|yC 1 [1] [(38,vA [vT Name1.l,vS p2 Dims1 c2])]<|xB 2 [vT Name1.l,vS p2 Dims1 c2] [hO Int (vS p2 Dims1 c2) cs1,hB b1 [vT Name1.l,vS p2 Dims1 c2],hB b [vT Name1.l,vS p2 Dims1 c2]] rfl rfl rfl rfl<|yH rfl<|xP<|xA 0 rfl ?_;intro I03 le3 hl0;have h8:=SL.of_frozen hl0 le3 h3;obtain rfl:=zC hMl;exact xF ⟨_,_,(.cell 1 rfl rfl (by kernel_rfl) ResV.nil),zT,⟨_,rfl,rfl,⟨_,rfl,(qJ ⟨_,rfl,h8⟩)⟩⟩⟩
def zDj (r:zE):KT:=fun kk I' hs' v=>
  ∃ v0,hs'=[]∧v=tupV [v0]∧(∃ cs,v0=.agg ⟨cs⟩∧Rp.rep I' cs r)
def jH (line:Str):Option (zE):=do
 let y←nE line
 if ((y.length:Int) != 3) then
  pure (zE.mk ([]:List zA) ([]:List zA))
 else
  let x←idx y 1
  let y1←rI x
  let x1←idx y 2
  let y2←rI x1
  pure (zE.mk y1 y2)
theorem zFC:∀ line r,jH line=some r→∀ {I:Imm} ,RT 188 [vT line.l] I [] (zDj  r):=by
 intro line r N I;unfold jH at N;refine zX (fn:=Tryz.f188) (c:=(bodyOf Tryz.f188)) Tryz.func188 rfl rfl ?_;rintro B - -;have H:=iS I;refine yK<|wU zTwo ?_;intro b hb;refine yH rfl<|xD<|yC 1 [] [(4,vT line.l)]<|bE N fun y hy N=>xS (zAL line _ hy ) ?_;rintro I0 hs2 v2 k2 le - ⟨v0,rfl,rfl,h⟩ -;have H:=H.trans le;obtain ⟨p,c,rfl⟩:=h.form;refine yB [] [(3,vS p y c)]<|yG<|yF [(8,.bool ((y.length:Int) != 3))]<|zL<|yL N ?_ ?_
 · intro hc N;refine yK<|yC 1 [] [(9,vA zTwo)]<|xB 0 zTwo [hB b zTwo] rfl rfl rfl rfl<|yH rfl<|xP<|zN ?_;obtain rfl:=zC N;exact xF ⟨_,_,(.cell 0 rfl rfl (by kernel_rfl) ResV.nil),zT,⟨_,rfl,rfl,⟨_,rfl,(sW ⟨_,_,rfl,(SL.nil _),(SL.nil _)⟩)⟩⟩⟩
 intro hc N;refine zV<|zL<|yI ?_;obtain ⟨x,hy1,N⟩:=zB N;obtain ⟨y1,hy2,N⟩:=zB N;obtain ⟨x1,hy3,N⟩:=zB N;obtain ⟨y2,hy4,N⟩:=zB N;refine vC [.p (vS p y c) [],.x (fun I' v hx=>∃ ad,v=.pointer (some ad)∧hx=[]∧(At I' ad [vT x.l])),.q (vT x.l),.x (fun I' v hx=>∃ p1 c1,v=vS p1 y1 c1∧hx=[]∧(S4 I' p1 y1 c1)),.p (vS p y c) [],.x (fun I' v hx=>∃ ad1,v=.pointer (some ad1)∧hx=[]∧(At I' ad1 [vT x1.l])),.q (vT x1.l),.x (fun I' v hx=>∃ p2 c2,v=vS p2 y2 c2∧hx=[]∧(S4 I' p2 y2 c2)),.x (fun I' v hx=>∃ p11 c11 p21 c21,v=vA [vS p11 y1 c11,vS p21 y2 c21]∧hx=[]∧(S4 I' p11 y1 c11)∧(S4 I' p21 y2 c21))] [[],[(0,false)],[(1,false)],[(2,false)],[],[(4,false)],[(5,false)],[(6,false)],[(3,false),(7,false)]] [hB b zTwo] [] [(8,false)] (yD [0]) ?_ ?_
 · refine Op<|Ox ?_<|Oq ?_<|Ox ?_<|Op<|Ox ?_<|Oq ?_<|Ox ?_<|Ox ?_<|On
   · intro I1 hf le1;refine yR [(10,vS p y c)] ?_;have h:=h.mono le1;refine xR rfl rfl h hy1 ?_;intro ad ccs hat hrep;obtain rfl:=hrep;exact yP [] iR ⟨_,rfl,rfl,hat⟩
   · intro I1 hf le1;refine zF ?_;rintro _ _ ⟨ad,rfl,rfl,hat⟩;exact yR [(11,.pointer (some ad))]<|xN 0 hat [vT x.l] (vT x.l) rfl<|xI iR
   · intro I1 hf le1;refine yR [(12,vT x.l)] ?_;have H:=iS I1;refine xS (kZ x _ hy2 ) ?_;rintro I01 hs2 v2 k2 le1 - ⟨v01,rfl,rfl,h1⟩ -;have H:=H.trans le1;obtain ⟨p1,c1,rfl⟩:=h1.form;exact yP [] H ⟨_,_,rfl,rfl,h1⟩
   · intro I1 hf le1;refine yR [(14,vS p y c)] ?_;have h:=h.mono le1;refine xR rfl rfl h hy3 ?_;intro ad1 ccs1 hat1 hrep1;obtain rfl:=hrep1;exact yP [] iR ⟨_,rfl,rfl,hat1⟩
   · intro I1 hf le1;refine zF ?_;rintro _ _ ⟨ad1,rfl,rfl,hat1⟩;exact yR [(15,.pointer (some ad1))]<|xN 0 hat1 [vT x1.l] (vT x1.l) rfl<|xI iR
   · intro I1 hf le1;refine yR [(16,vT x1.l)] ?_;have H:=iS I1;refine xS (kZ x1 _ hy4 ) ?_;rintro I02 hs2 v2 k2 le2 - ⟨v02,rfl,rfl,h2⟩ -;have H:=H.trans le2;obtain ⟨p2,c2,rfl⟩:=h2.form;exact yP [] H ⟨_,_,rfl,rfl,h2⟩
   intro I1 hf le1;refine zF ?_;rintro _ _ ⟨p1,c1,rfl,rfl,h1⟩;refine zF ?_;rintro _ _ ⟨p2,c2,rfl,rfl,h2⟩;exact yR [(13,vS p1 y1 c1),(17,vS p2 y2 c2)]<|pM 9 [(18,vA [vS p1 y1 c1,vS p2 y2 c2])]<|yP [] iR ⟨_,_,_,_,rfl,rfl,h1,h2⟩
 intro I03 le3;refine zF ?_;rintro _ _ ⟨p11,c11,p21,c21,rfl,rfl,h11,h21⟩;refine yR [(2,vP b 0),(18,vA [vS p11 y1 c11,vS p21 y2 c21])] ?_;refine xB 0 [vS p11 y1 c11,vS p21 y2 c21] [hB b [vS p11 y1 c11,vS p21 y2 c21]] rfl rfl rfl rfl<|yH rfl<|zL<|xG ?_;obtain rfl:=zC N;exact xF ⟨_,_,(.cell 0 rfl rfl (by kernel_rfl) ResV.nil),zT,⟨_,rfl,rfl,⟨_,rfl,(sW ⟨_,_,rfl,h11,h21⟩)⟩⟩⟩
end Go.LN
