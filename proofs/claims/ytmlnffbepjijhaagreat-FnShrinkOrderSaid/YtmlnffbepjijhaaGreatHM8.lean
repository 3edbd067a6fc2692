/- Helper of the proof (see the last text). -/
import Derived.Test.YtmlnffbepjijhaaGreatHM7
set_option linter.unusedVariables false
set_option linter.unusedSimpArgs false
namespace Go.LN
open Go.Proofs
set_option maxRecDepth 20000
mutual
def xL (s1:(List zH)) (s2:(List zH)):Option (Bool):=do
 if ((s1.length:Int) != (s2.length:Int)) then
  pure false
 else
  match←xA (same s1) (same s2) (same 0) with
  | .ret r0=>pure r0
  | .done _ =>
   pure true
 partial_fixpoint
def xA (s1:(List zH)) (s2:(List zH)) (t17:Int):Option (Out Unit (Bool)):=do
 if (decide (t17 < (s1.length:Int))) then
  let x←idx s1 t17
  let x1←idx s2 t17
  let y←jM (same x) (same x1)
  if (!y) then
   pure (.ret false)
  else
   xA (same s1) (same s2) (W (t17 + 1))
 else
  pure (.done ())
 partial_fixpoint
def jM (a0:zH) (b:zH):Option (Bool):=do
 let t4←(do
   if (a0.Kind == b.Kind) then
    if (a0.Num == b.Num) then
     let y←wI a0.Index b.Index
     if y then
      let y1←kC a0.Read b.Read
      if y1 then
       let y2←xL a0.Kids b.Kids
       pure (id y2)
      else
       pure false
     else
      pure false
    else
     pure false
   else
    pure false
     : Option Bool)
 pure (id t4)
 partial_fixpoint
end
theorem nP:(∀ (s1:(List zH)) (s2:(List zH)) r,xL s1 s2=some r→∀ {I:Imm}{p c p1 c1},(S4 I p s1 c)→(S4 I p1 s2 c1)→RT 114 [vS p s1 c,vS p1 s2 c1,.func (.func 80) ⟨[]⟩ ⟨[]⟩] I [] (zT  r))∧(∀ (s1:(List zH)) (s2:(List zH)) (t17:Int) o,xA s1 s2 t17=some o→∀ {B}{I0 I:Imm}{Q p c p1 c1},I0.le I→(S4 I p1 s2 c1)→(S4 I p s1 c)→NG Q→NO Q→(∀ (I':Imm) ,o=(.done ())→I0.le I'→T 32 B Q (.exit 0) I' [] [])→(∀ r I' hs' m',o=(.ret r)→I0.le I'→RS Tryz.prog Tryz.f114 B (zT  r) I' hs' m'→T 32 B Q .ret I' hs' m')→J Tryz.prog 32 B (nav (bodyOf Tryz.f114) [1,1,0,1,0]) Q I [] [(1,vS p1 s2 c1),(2,.func (.func 80) ⟨[]⟩ ⟨[]⟩),(15,vS p s1 c),(16,vI (s1.length:Int)),(17,vI t17)])∧(∀ (a0:zH) (b:zH) r,jM a0 b=some r→∀ {I:Imm}{p c p1 c1 p2 c2 p3 c3 p4 c4 p5 c5},(S4 I p a0.Index.Coefs c)→(S4 I p1 a0.Read.Subs c1)→(S4 I p2 a0.Kids c2)→(S4 I p3 b.Index.Coefs c3)→(S4 I p4 b.Read.Subs c4)→(S4 I p5 b.Kids c5)→RT 80 [vA (cExpr a0 p c p1 c1 p2 c2),vA (cExpr b p3 c3 p4 c4 p5 c5)] I [] (zT  r)):=by
  refine xL.mutual_partial_correctness _ _ _ ?_ ?_ ?_
  · intro F_slices_EqualFunc_impl_Expr_impl_Expr_impl_Expr_impl_Expr_l1 ih_slices_EqualFunc_impl_Expr_impl_Expr_impl_Expr_impl_Expr_l1 s1 s2 r N I p c p1 c1 h h1;refine yK Tryz.func114 fun B=>uA []<|zZ<|yH [14] rfl<|zK<|yG N ?_ ?_
    · intro hc N;refine uA [(6,vF)]<|xH<|zL ?_;obtain rfl:=zC N;exact uN
    intro hc N;refine zS<|zZ<|yH [15,16,17] rfl<|wM<|pJ [(1,vS p1 s2 c1),(2,.func (.func 80) ⟨[]⟩ ⟨[]⟩),(15,vS p s1 c),(16,vI (s1.length:Int)),(17,vI 0)] ?_;obtain ⟨o0,ho0,hMl⟩:=zB N;refine ih_slices_EqualFunc_impl_Expr_impl_Expr_impl_Expr_impl_Expr_l1 s1 s2 0 o0 ho0 iR h1 h (fun _ _ _ h=>h) (fun _ _ h=>h) ?_ ?_
    · intro I01  heq le1;subst o0;refine zR<|zFn [(6,vY)]<|zK<|xC ?_;obtain rfl:=zC hMl;exact uN
    intro r0 I9 hs9 m9 heq9 le9 hrs9;subst heq9;refine zV<|zL ?_;obtain rfl:=zC hMl;exact xB hrs9
  · intro F_slices_EqualFunc_impl_Expr_impl_Expr_impl_Expr_impl_Expr_l1 F_impl_exprSame ih_slices_EqualFunc_impl_Expr_impl_Expr_impl_Expr_impl_Expr_l1 ih_impl_exprSame s1 s2 t17 o N B I0 I Q p c p1 c1 H h1 h hg ho hx hr;refine yU hg ho<|yH [18] rfl<|zZ<|yG N ?_ ?_
    · intro hc1 N;refine zS<|zZ<|yF<|yC<|yE 1 [] [19] rfl<|bE N fun x hy N=>xT rfl rfl h hy ?_;intro ad ccs hat hrep;obtain ⟨p2,c2,p3,c3,p4,c4,rfl,h2,h3,h4⟩:=wS hrep;refine xM 0 hat (cExpr x p2 c2 p3 c3 p4 c4) (vA (cExpr x p2 c2 p3 c3 p4 c4)) rfl<|xR zExpr ?_;intro b hb;refine yE 5 [] [7] rfl<|yY 0 (cExpr x p2 c2 p3 c3 p4 c4) rfl<|zX rfl<|yW<|yE 2 [] [22,23] rfl<|bE N fun x1 hy1 N=>xT rfl rfl h1 hy1 ?_;intro ad1 ccs1 hat1 hrep1;obtain ⟨p5,c5,p6,c6,p7,c7,rfl,h5,h6,h7⟩:=wS hrep1;refine xM 0 hat1 (cExpr x1 p5 c5 p6 c6 p7 c7) (vA (cExpr x1 p5 c5 p6 c6 p7 c7)) rfl<|xR zExpr ?_;intro b1 hb1;refine yY 0 (cExpr x1 p5 c5 p6 c6 p7 c7) rfl<|zX rfl<|yW<|sK 3 [1,0] [(26,.func (.func 80) ⟨[]⟩ ⟨[]⟩),(27,vA (cExpr x p2 c2 p3 c3 p4 c4)),(28,vA (cExpr x1 p5 c5 p6 c6 p7 c7))]<|bE N fun y hy2 N=>xG (ih_impl_exprSame x x1 _ hy2 h2 h3 h4 h5 h6 h7) ?_;rintro I0 hs2 v2 k2 le - ⟨v06,rfl,rfl,rfl⟩ -;have ⟨h1,h,H⟩:=m3 le h1 h H;refine yL [] [30] rfl<|zK<|yG N ?_ ?_
      · intro hc2 N;exact uA [(6,vF)]<|xH<|zV<|zL<|zL<|hr _ _ _ _ (zC N).symm H ⟨_,_,(.tmp rfl ResV.nil),zQ,⟨_,rfl,rfl,rfl⟩⟩
      intro hc2 N;exact zS<|zO<|zK<|zM<|yL [] [17] rfl<|yT<|pP zQ<|pJ [(1,vS p1 s2 c1),(2,.func (.func 80) ⟨[]⟩ ⟨[]⟩),(15,vS p s1 c),(16,vI (s1.length:Int)),(17,vI (W (t17 + 1)))]<|ih_slices_EqualFunc_impl_Expr_impl_Expr_impl_Expr_impl_Expr_l1 s1 s2 (W (t17 + 1)) _ N H h1 h hg ho hx hr
    intro hc1 N;exact wW<|yV<|hx _  (zC N).symm H
  intro F_slices_EqualFunc_impl_Expr_impl_Expr_impl_Expr_impl_Expr ih_slices_EqualFunc_impl_Expr_impl_Expr_impl_Expr_impl_Expr a0 b r N I p c p1 c1 p2 c2 p3 c3 p4 c4 p5 c5 h h1 h2 h3 h4 h5;refine yK Tryz.func80 fun B=>?_;have H:=iS I;refine yC<|uB (cExpr a0 p c p1 c1 p2 c2) ?_;intro b1 hb;refine uB (cExpr b p3 c3 p4 c4 p5 c5) ?_;intro b2 hb1;refine wU [] []<|zK<|yD ?_;refine vL N [] (fun t4=>[(4,.bool t4)]) (fun o0 ho0=>?_) ?_
  · have H:=iS I;refine zM<|yE 6 [1,0] [10] rfl<|wJ [10] ho0 ?_ ?_
    · intro hc N;refine yE 13 [1,0] [17] rfl<|wJ [17] N ?_ ?_
      · intro hc1 N;refine sK 17 [1,0] [(19,vA (cAff a0.Index p c)),(21,vA (cAff b.Index p3 c3))]<|bE N fun y hy N=>tS (fP a0.Index b.Index _ hy h h3) ?_;intro I01 le;have ⟨h4,h5,h1,h2,H⟩:=m5 le h4 h5 h1 h2 H;refine yE 20 [] [24] rfl<|wJ [24] N ?_ ?_
        · intro hc2 N;refine sK 24 [1,0] [(26,vA (cAccess a0.Read p1 c1)),(28,vA (cAccess b.Read p4 c4))]<|bE N fun y1 hy1 N=>tS (zBF a0.Read b.Read _ hy1 h1 h4) ?_;intro I02 le1;have ⟨h5,h2,H⟩:=m3 le1 h5 h2 H;refine yE 27 [] [31] rfl<|wJ [31] N ?_ ?_
          · intro hc3 N;refine yE 31 [1,0] [33,35] rfl<|bE N fun y2 hy2 N=>xG (ih_slices_EqualFunc_impl_Expr_impl_Expr_impl_Expr_impl_Expr a0.Kids b.Kids _ hy2 h2 h5) ?_;rintro I03 hs2 v2 k2 le2 - ⟨v02,rfl,rfl,rfl⟩ -;have H:=H.trans le2;exact yL [] [4] rfl<|wG zQ<|yV<|zU (ct N H)
          intro hc3 N;exact wU [] [(4,vF)]<|wG zQ<|yV<|zU (ct N H)
        intro hc2 N;exact wU [] [(4,vF)]<|wG zQ<|yV<|zU (ct N H)
      intro hc1 N;exact wU [] [(4,vF)]<|wG zQ<|yV<|zU (ct N H)
    intro hc N;exact wU [] [(4,vF)]<|wG zQ<|yV<|zU (ct N H)
  intro t4 I0 le3 hMc;refine zK<|xC ?_;obtain rfl:=zC hMc;exact uN
theorem zGK:∀ a0 b r,jM a0 b=some r→∀ {I:Imm}{p c p1 c1 p2 c2 p3 c3 p4 c4 p5 c5},(S4 I p a0.Index.Coefs c)→(S4 I p1 a0.Read.Subs c1)→(S4 I p2 a0.Kids c2)→(S4 I p3 b.Index.Coefs c3)→(S4 I p4 b.Read.Subs c4)→(S4 I p5 b.Kids c5)→RT 80 [vA (cExpr a0 p c p1 c1 p2 c2),vA (cExpr b p3 c3 p4 c4 p5 c5)] I [] (zT  r):=nP.2.2
def pR (a0:zJ) (b:zJ):Option (Bool):=do
 let t4←(do
   let y←kC a0.Write b.Write
   if y then
    let y1←jM a0.Value b.Value
    pure (id y1)
   else
    pure false
     : Option Bool)
 pure (id t4)
theorem zGL:∀ a0 b r,pR a0 b=some r→∀ {I:Imm}{p c p1 c1 p2 c2 p3 c3 p4 c4 p5 c5 p6 c6 p7 c7},(S4 I p a0.Write.Subs c)→(S4 I p1 a0.Value.Index.Coefs c1)→(S4 I p2 a0.Value.Read.Subs c2)→(S4 I p3 a0.Value.Kids c3)→(S4 I p4 b.Write.Subs c4)→(S4 I p5 b.Value.Index.Coefs c5)→(S4 I p6 b.Value.Read.Subs c6)→(S4 I p7 b.Value.Kids c7)→RT 41 [vA (cStmt a0 p c p1 c1 p2 c2 p3 c3),vA (cStmt b p4 c4 p5 c5 p6 c6 p7 c7)] I [] (zT  r):=by
 intro a0 b r N I p c p1 c1 p2 c2 p3 c3 p4 c4 p5 c5 p6 c6 p7 c7 h h1 h2 h3 h4 h5 h6 h7;unfold pR at N;refine yK Tryz.func41 fun B=>?_;have H:=iS I;refine yC<|uB (cStmt a0 p c p1 c1 p2 c2 p3 c3) ?_;intro b1 hb;refine uB (cStmt b p4 c4 p5 c5 p6 c6 p7 c7) ?_;intro b2 hb1;refine wU [] []<|zK<|yD ?_;refine vL N [] (fun t4=>[(4,.bool t4)]) (fun o0 ho0=>?_) ?_
 · have H:=iS I;refine zM<|sK 4 [1,0] [(6,vA (cAccess a0.Write p c)),(8,vA (cAccess b.Write p4 c4))] ?_;obtain ⟨y,hy,N⟩:=zB ho0;refine tS (zBF a0.Write b.Write _ hy h h4) ?_;intro I01 le;have ⟨h5,h6,h7,h1,h2,h3⟩:=m6 le h5 h6 h7 h1 h2 h3;have H:=H.trans le;refine yE 6 [] [10] rfl<|wJ [10] N ?_ ?_
   · intro hc N;refine sK 10 [1,0] [(12,vA (cExpr a0.Value p1 c1 p2 c2 p3 c3)),(14,vA (cExpr b.Value p5 c5 p6 c6 p7 c7))]<|bE N fun y1 hy1 N=>tS (zGK a0.Value b.Value _ hy1 h1 h2 h3 h5 h6 h7) ?_;intro I02 le1;have H:=H.trans le1;exact yL [] [4] rfl<|wG zQ<|yV<|zU (ct N H)
   intro hc N;exact wU [] [(4,vF)]<|wG zQ<|yV<|zU (ct N H)
 intro t4 I0 le2 hMc;refine zK<|xC ?_;obtain rfl:=zC hMc;exact uN
def sW (x:zI) (y:zI):Option (Bool):=do
 let t4←(do
   let y1←fT x.Nest y.Nest
   if y1 then
    let y2←xK x.Body y.Body pR
    pure (id y2)
   else
    pure false
     : Option Bool)
 pure (id t4)
theorem zCu:∀ x y r,sW x y=some r→∀ {I:Imm}{p c p1 c1 p2 c2 p3 c3},(S4 I p x.Nest c)→(S4 I p1 x.Body c1)→(S4 I p2 y.Nest c2)→(S4 I p3 y.Body c3)→RT 38 [vA (cPart x p c p1 c1),vA (cPart y p2 c2 p3 c3)] I [] (zT  r):=by
 intro x y r N I p c p1 c1 p2 c2 p3 c3 h h1 h2 h3;unfold sW at N;refine yK Tryz.func38 fun B=>?_;have H:=iS I;refine yC<|uB (cPart x p c p1 c1) ?_;intro b hb;refine uB (cPart y p2 c2 p3 c3) ?_;intro b1 hb1;refine wU [] []<|zK<|yD ?_;refine vL N [] (fun t4=>[(4,.bool t4)]) (fun o0 ho0=>?_) ?_
 · have H:=iS I;refine zM<|yE 4 [1,0] [6,8] rfl ?_;obtain ⟨y1,hy,N⟩:=zB ho0;refine tS (zGJ x.Nest y.Nest _ hy h h2) ?_;intro I01 le;have ⟨h3,h,h1,H⟩:=m4 le h3 h h1 H;refine yE 6 [] [10] rfl<|wJ [10] N ?_ ?_
   · intro hc N;refine yE 10 [1,0] [12,14] rfl ?_;have hf0:FV2 Tryz.prog I01 [] (.func (.func 41) ⟨[]⟩ ⟨[]⟩) pR:=by
       refine FV2.intro ?_;intro I1 le1 x0 x1 r u0 u1 hF k0 k1;obtain ⟨_,rfl,k0⟩:=k0;obtain ⟨p4,c4,p5,c5,p6,c6,p7,c7,rfl,h5,h6,h7,h8⟩:=vC k0;obtain ⟨_,rfl,k1⟩:=k1;obtain ⟨p8,c8,p9,c9,p10,c10,p11,c11,rfl,h9,h10,h11,h12⟩:=vC k1;exact (zGL x0 x1 r hF h5 h6 h7 h8 h9 h10 h11 h12).mono (by rintro k i hs u ⟨v0,rfl,rfl,h⟩; exact ⟨rfl,h⟩)
     obtain ⟨y2,hy1,N⟩:=zB N;refine xG (nV x.Body y.Body pR _ hy1 h1 h3 hf0) ?_;rintro I02 hs2 v2 k2 le1 - ⟨v09,rfl,rfl,rfl⟩ -;have H:=H.trans le1;exact yL [] [4] rfl<|wG zQ<|yV<|zU (ct N H)
   intro hc N;exact wU [] [(4,vF)]<|wG zQ<|yV<|zU (ct N H)
 intro t4 I0 le2 hMc;refine zK<|xC ?_;obtain rfl:=zC hMc;exact uN
def uW (hsF:List HA) (r:Bool):KT:=fun kk I' hs' v=>
  ∃ v0,hsF=hs'∧v=tupV [v0]∧v0=.bool r
def yO (s1:(List zD)) (s2:(List zD)) (eq:(zD→zD→Option Bool)) (t17:Int):Option (Out Unit (Bool)):=do
 if (decide (t17 < (s1.length:Int))) then
  let x←idx s1 t17
  let x1←idx s2 t17
  let y←eq x x1
  if (!y) then
   pure (.ret false)
  else
   yO s1 s2 eq (W (t17 + 1))
 else
  pure (.done ())
 partial_fixpoint
theorem oC (s1:(List zD)) (s2:(List zD)) (eq:(zD→zD→Option Bool)):∀ (t17:Int) (o:Out Unit (Bool)),yO s1 s2 eq t17=some o→∀ {B}{I0 I:Imm}{Q p c p1 c1}{fv:Value}{hsF:List HA},I0.le I→(S4 I p1 s2 c1)→(FV2 Tryz.prog I hsF fv eq)→(S4 I p s1 c)→NG Q→NO Q→(∀ (I':Imm) ,o=(.done ())→I0.le I'→T 32 B Q (.exit 0) I' hsF [])→(∀ r I' hs' m',o=(.ret r)→I0.le I'→RS Tryz.prog Tryz.f42 B (uW hsF r) I' hs' m'→T 32 B Q .ret I' hs' m')→J Tryz.prog 32 B (nav (bodyOf Tryz.f42) [1,1,0,1,0]) Q I hsF [(1,vS p1 s2 c1),(2,fv),(15,vS p s1 c),(16,vI (s1.length:Int)),(17,vI t17)]:=by
 refine yO.partial_correctness s1 s2 eq _ fun self ih t17 o N B I0 I Q p c p1 c1 fv hsF H h1 h2 h hg ho hx hr=>yU hg ho<|yH [18] rfl<|zZ<|yG N ?_ ?_
 · intro hc1 N;refine zS<|zZ<|yF<|yC<|yE 1 [] [19] rfl<|bE N fun x hy N=>xT rfl rfl h hy ?_;intro ad ccs hat hrep;obtain ⟨p2,c2,rfl,h3⟩:=xN hrep;refine xM 0 hat (cArr x p2 c2) (vA (cArr x p2 c2)) rfl<|xR [vT ([]),z0] ?_;intro b hb;refine yE 5 [] [7] rfl<|eG 0 (cArr x p2 c2) (hB b (cArr x p2 c2)::hsF) rfl rfl rfl rfl<|zX rfl<|yW<|yE 2 [] [22,23] rfl<|bE N fun x1 hy1 N=>xT rfl rfl h1 hy1 ?_;intro ad1 ccs1 hat1 hrep1;obtain ⟨p3,c3,rfl,h4⟩:=xN hrep1;refine xM 0 hat1 (cArr x1 p3 c3) (vA (cArr x1 p3 c3)) rfl<|xR [vT ([]),z0] ?_;intro b1 hb1;refine eG 0 (cArr x1 p3 c3) (hB b1 (cArr x1 p3 c3)::hB b (cArr x p2 c2)::hsF) rfl rfl rfl rfl<|zX rfl<|yW<|sK 3 [1,0] [(26,fv),(27,vA (cArr x p2 c2)),(28,vA (cArr x1 p3 c3))]<|bE N fun y hy2 N=>sT (hs':=hsF ++ [hB b1 (cArr x1 p3 c3),hB b (cArr x p2 c2)]) (fU [hB b1 (cArr x1 p3 c3),hB b (cArr x p2 c2)] hsF)<|zJ3 rfl rfl rfl h2 hy2 ⟨_,rfl,(uL ⟨_,rfl,h3⟩)⟩ ⟨_,rfl,(uL ⟨_,rfl,h4⟩)⟩ rfl ?_;rintro I0 v02 le rfl;refine sT (hs':=(hB b1 (cArr x1 p3 c3)::hB b (cArr x p2 c2)::hsF)) (fU hsF [hB b1 (cArr x1 p3 c3),hB b (cArr x p2 c2)]) ?_;have ⟨h1,h2,h,H⟩:=m4 le h1 h2 h H;refine yL [] [30] rfl<|zK<|yG N ?_ ?_
   · intro hc2 N;exact uA [(6,vF)]<|xH<|zV<|zL<|zL<|hr _ _ _ _ (zC N).symm H ⟨_,_,(.tmp rfl ResV.nil),(kE [hB b1 (cArr x1 p3 c3),hB b (cArr x p2 c2)] hsF [] rfl (by decide)),⟨_,rfl,rfl,rfl⟩⟩
   intro hc2 N;exact zS<|zO<|zK<|zM<|yL [] [17] rfl<|yT<|pP (kE [hB b1 (cArr x1 p3 c3),hB b (cArr x p2 c2)] hsF [] rfl (by decide))<|nQ<|ih (W (t17 + 1)) _ N H h1 h2 h hg ho hx hr
 intro hc1 N;exact wW<|yV<|hx _  (zC N).symm H
def xY (s1:(List zD)) (s2:(List zD)) (eq:(zD→zD→Option Bool)):Option (Bool):=do
 if ((s1.length:Int) != (s2.length:Int)) then
  pure false
 else
  match←yO s1 s2 eq 0 with
  | .ret r0=>pure r0
  | .done _ =>
   pure true
theorem oI:∀ s1 s2 eq r,xY s1 s2 eq=some r→∀ {I:Imm}{p c p1 c1}{fv:Value}{hsF:List HA},(S4 I p s1 c)→(S4 I p1 s2 c1)→(FV2 Tryz.prog I hsF fv eq)→RT 42 [vS p s1 c,vS p1 s2 c1,fv] I hsF (uW hsF r):=by
 intro s1 s2 eq r N I p c p1 c1 fv hsF h h1 h2;unfold xY at N;refine yK Tryz.func42 fun B=>uA []<|zZ<|yH [14] rfl<|zK<|yG N ?_ ?_
 · intro hc N;refine uA [(6,vF)]<|xH<|zL ?_;obtain rfl:=zC N;exact xB ⟨_,_,(.tmp rfl ResV.nil),(fun _ h=>h),⟨_,rfl,rfl,rfl⟩⟩
 intro hc N;refine zS<|zZ<|yH [15,16,17] rfl<|wM<|pJ [(1,vS p1 s2 c1),(2,fv),(15,vS p s1 c),(16,vI (s1.length:Int)),(17,vI 0)] ?_;obtain ⟨o0,ho0,hMl⟩:=zB N;refine oC s1 s2 eq 0 o0 ho0 iR h1 h2 h (fun _ _ _ h=>h) (fun _ _ h=>h) ?_ ?_
 · intro I01  heq le1;subst o0;refine zR<|zFn [(6,vY)]<|zK<|xC ?_;obtain rfl:=zC hMl;exact xB ⟨_,_,(.tmp rfl ResV.nil),(fun _ h=>h),⟨_,rfl,rfl,rfl⟩⟩
 intro r0 I9 hs9 m9 heq9 le9 hrs9;subst heq9;refine zV<|zL ?_;obtain rfl:=zC hMl;exact xB hrs9
def tL (hsF:List HA) (r:Bool):KT:=fun kk I' hs' v=>
  ∃ v0,hsF=hs'∧v=tupV [v0]∧v0=.bool r
def yS (s1:(List zI)) (s2:(List zI)) (eq:(zI→zI→Option Bool)) (t17:Int):Option (Out Unit (Bool)):=do
 if (decide (t17 < (s1.length:Int))) then
  let x←idx s1 t17
  let x1←idx s2 t17
  let y←eq x x1
  if (!y) then
   pure (.ret false)
  else
   yS s1 s2 eq (W (t17 + 1))
 else
  pure (.done ())
 partial_fixpoint
theorem nC (s1:(List zI)) (s2:(List zI)) (eq:(zI→zI→Option Bool)):∀ (t17:Int) (o:Out Unit (Bool)),yS s1 s2 eq t17=some o→∀ {B}{I0 I:Imm}{Q p c p1 c1}{fv:Value}{hsF:List HA},I0.le I→(S4 I p1 s2 c1)→(FV2 Tryz.prog I hsF fv eq)→(S4 I p s1 c)→NG Q→NO Q→(∀ (I':Imm) ,o=(.done ())→I0.le I'→T 32 B Q (.exit 0) I' hsF [])→(∀ r I' hs' m',o=(.ret r)→I0.le I'→RS Tryz.prog Tryz.f43 B (tL hsF r) I' hs' m'→T 32 B Q .ret I' hs' m')→J Tryz.prog 32 B (nav (bodyOf Tryz.f43) [1,1,0,1,0]) Q I hsF [(1,vS p1 s2 c1),(2,fv),(15,vS p s1 c),(16,vI (s1.length:Int)),(17,vI t17)]:=by
 refine yS.partial_correctness s1 s2 eq _ fun self ih t17 o N B I0 I Q p c p1 c1 fv hsF H h1 h2 h hg ho hx hr=>yU hg ho<|yH [18] rfl<|zZ<|yG N ?_ ?_
 · intro hc1 N;refine zS<|zZ<|yF<|yC<|yE 1 [] [19] rfl<|bE N fun x hy N=>xT rfl rfl h hy ?_;intro ad ccs hat hrep;obtain ⟨p2,c2,p3,c3,rfl,h3,h4⟩:=wH hrep;refine xM 0 hat (cPart x p2 c2 p3 c3) (vA (cPart x p2 c2 p3 c3)) rfl<|xR zTwo ?_;intro b hb;refine yE 5 [] [7] rfl<|eG 0 (cPart x p2 c2 p3 c3) (hB b (cPart x p2 c2 p3 c3)::hsF) rfl rfl rfl rfl<|zX rfl<|yW<|yE 2 [] [22,23] rfl<|bE N fun x1 hy1 N=>xT rfl rfl h1 hy1 ?_;intro ad1 ccs1 hat1 hrep1;obtain ⟨p4,c4,p5,c5,rfl,h5,h6⟩:=wH hrep1;refine xM 0 hat1 (cPart x1 p4 c4 p5 c5) (vA (cPart x1 p4 c4 p5 c5)) rfl<|xR zTwo ?_;intro b1 hb1;refine eG 0 (cPart x1 p4 c4 p5 c5) (hB b1 (cPart x1 p4 c4 p5 c5)::hB b (cPart x p2 c2 p3 c3)::hsF) rfl rfl rfl rfl<|zX rfl<|yW<|sK 3 [1,0] [(26,fv),(27,vA (cPart x p2 c2 p3 c3)),(28,vA (cPart x1 p4 c4 p5 c5))]<|bE N fun y hy2 N=>sT (hs':=hsF ++ [hB b1 (cPart x1 p4 c4 p5 c5),hB b (cPart x p2 c2 p3 c3)]) (fU [hB b1 (cPart x1 p4 c4 p5 c5),hB b (cPart x p2 c2 p3 c3)] hsF)<|zJ3 rfl rfl rfl h2 hy2 ⟨_,rfl,(uP ⟨_,_,rfl,h3,h4⟩)⟩ ⟨_,rfl,(uP ⟨_,_,rfl,h5,h6⟩)⟩ rfl ?_;rintro I0 v04 le rfl;refine sT (hs':=(hB b1 (cPart x1 p4 c4 p5 c5)::hB b (cPart x p2 c2 p3 c3)::hsF)) (fU hsF [hB b1 (cPart x1 p4 c4 p5 c5),hB b (cPart x p2 c2 p3 c3)]) ?_;have ⟨h1,h2,h,H⟩:=m4 le h1 h2 h H;refine yL [] [30] rfl<|zK<|yG N ?_ ?_
   · intro hc2 N;exact uA [(6,vF)]<|xH<|zV<|zL<|zL<|hr _ _ _ _ (zC N).symm H ⟨_,_,(.tmp rfl ResV.nil),(kE [hB b1 (cPart x1 p4 c4 p5 c5),hB b (cPart x p2 c2 p3 c3)] hsF [] rfl (by decide)),⟨_,rfl,rfl,rfl⟩⟩
   intro hc2 N;exact zS<|zO<|zK<|zM<|yL [] [17] rfl<|yT<|pP (kE [hB b1 (cPart x1 p4 c4 p5 c5),hB b (cPart x p2 c2 p3 c3)] hsF [] rfl (by decide))<|nQ<|ih (W (t17 + 1)) _ N H h1 h2 h hg ho hx hr
 intro hc1 N;exact wW<|yV<|hx _  (zC N).symm H
def wF (s1:(List zI)) (s2:(List zI)) (eq:(zI→zI→Option Bool)):Option (Bool):=do
 if ((s1.length:Int) != (s2.length:Int)) then
  pure false
 else
  match←yS s1 s2 eq 0 with
  | .ret r0=>pure r0
  | .done _ =>
   pure true
theorem nW:∀ s1 s2 eq r,wF s1 s2 eq=some r→∀ {I:Imm}{p c p1 c1}{fv:Value}{hsF:List HA},(S4 I p s1 c)→(S4 I p1 s2 c1)→(FV2 Tryz.prog I hsF fv eq)→RT 43 [vS p s1 c,vS p1 s2 c1,fv] I hsF (tL hsF r):=by
 intro s1 s2 eq r N I p c p1 c1 fv hsF h h1 h2;unfold wF at N;refine yK Tryz.func43 fun B=>uA []<|zZ<|yH [14] rfl<|zK<|yG N ?_ ?_
 · intro hc N;refine uA [(6,vF)]<|xH<|zL ?_;obtain rfl:=zC N;exact xB ⟨_,_,(.tmp rfl ResV.nil),(fun _ h=>h),⟨_,rfl,rfl,rfl⟩⟩
 intro hc N;refine zS<|zZ<|yH [15,16,17] rfl<|wM<|pJ [(1,vS p1 s2 c1),(2,fv),(15,vS p s1 c),(16,vI (s1.length:Int)),(17,vI 0)] ?_;obtain ⟨o0,ho0,hMl⟩:=zB N;refine nC s1 s2 eq 0 o0 ho0 iR h1 h2 h (fun _ _ _ h=>h) (fun _ _ h=>h) ?_ ?_
 · intro I01  heq le1;subst o0;refine zR<|zFn [(6,vY)]<|zK<|xC ?_;obtain rfl:=zC hMl;exact xB ⟨_,_,(.tmp rfl ResV.nil),(fun _ h=>h),⟨_,rfl,rfl,rfl⟩⟩
 intro r0 I9 hs9 m9 heq9 le9 hrs9;subst heq9;refine zV<|zL ?_;obtain rfl:=zC hMl;exact xB hrs9
def tQ (a0:zG) (b:zG):Option (Bool):=do
 let t4←(do
   let y←xY a0.Arrays b.Arrays sV
   if y then
    let y1←wF a0.Parts b.Parts sW
    pure (id y1)
   else
    pure false
     : Option Bool)
 pure (id t4)
theorem gR:∀ a0 b r,tQ a0 b=some r→∀ {I:Imm}{p c p1 c1 p2 c2 p3 c3},(S4 I p a0.Arrays c)→(S4 I p1 a0.Parts c1)→(S4 I p2 b.Arrays c2)→(S4 I p3 b.Parts c3)→RT 10 [vA (cProg a0 p c p1 c1),vA (cProg b p2 c2 p3 c3)] I [] (zT  r):=by
 intro a0 b r N I p c p1 c1 p2 c2 p3 c3 h h1 h2 h3;unfold tQ at N;refine yK Tryz.func10 fun B=>?_;have H:=iS I;refine yC<|uB (cProg a0 p c p1 c1) ?_;intro b1 hb;refine uB (cProg b p2 c2 p3 c3) ?_;intro b2 hb1;refine wU [] []<|uX [5] rfl<|uX [6] rfl<|zK<|yD ?_;refine vL N [] (fun t4=>[(4,.bool t4)]) (fun o0 ho0=>?_) ?_
 · have H:=iS I;refine zM<|yE 5 [1,0] [8,10,11] rfl ?_;have hf0:FV2 Tryz.prog I [] (.func (.func 36) ⟨[]⟩ ⟨[]⟩) sV:=by
     refine FV2.intro ?_;intro I1 le1 x0 x1 r u0 u1 hF k0 k1;obtain ⟨_,rfl,k0⟩:=k0;obtain ⟨p4,c4,rfl,h4⟩:=xN k0;obtain ⟨_,rfl,k1⟩:=k1;obtain ⟨p5,c5,rfl,h5⟩:=xN k1;exact (zCt x0 x1 r hF h4 h5).mono (by rintro k i hs u ⟨v0,rfl,rfl,h⟩; exact ⟨rfl,h⟩)
   obtain ⟨y,hy,N⟩:=zB ho0;refine xG (oI a0.Arrays b.Arrays sV _ hy h h2 hf0) ?_;rintro I01 hs2 v2 k2 le - ⟨v02,rfl,rfl,rfl⟩ -;have ⟨h3,h,h1,H⟩:=m4 le h3 h h1 H;refine yE 7 [] [13] rfl<|wJ [13] N ?_ ?_
   · intro hc N;refine yE 12 [1,0] [15,17,18] rfl ?_;have hf01:FV2 Tryz.prog I01 [] (.func (.func 38) ⟨[]⟩ ⟨[]⟩) sW:=by
       refine FV2.intro ?_;intro I1 le1 x0 x1 r u0 u1 hF k0 k1;obtain ⟨_,rfl,k0⟩:=k0;obtain ⟨p6,c6,p7,c7,rfl,h7,h8⟩:=wH k0;obtain ⟨_,rfl,k1⟩:=k1;obtain ⟨p8,c8,p9,c9,rfl,h9,h10⟩:=wH k1;exact (zCu x0 x1 r hF h7 h8 h9 h10).mono (by rintro k i hs u ⟨v0,rfl,rfl,h⟩; exact ⟨rfl,h⟩)
     obtain ⟨y1,hy1,N⟩:=zB N;refine xG (nW a0.Parts b.Parts sW _ hy1 h1 h3 hf01) ?_;rintro I02 hs2 v2 k2 le1 - ⟨v07,rfl,rfl,rfl⟩ -;have H:=H.trans le1;exact yL [] [4] rfl<|wG zQ<|yV<|zU (ct N H)
   intro hc N;exact wU [] [(4,vF)]<|wG zQ<|yV<|zU (ct N H)
 intro t4 I0 le2 hMc;refine zK<|xC ?_;obtain rfl:=zC hMc;exact uN
def jX (code:(List UInt8)) (more:(List UInt8)):Option (Bool):=do
 let t25←(do
   if (decide ((code.length:Int) > 1048576)) then
    pure true
   else
    pure (decide ((more.length:Int) > 1048576))
     : Option Bool)
 if t25 then
  pure true
 else
  let (y1,y2)←oV code
  let (y4,y5)←qE y1 y2
  let (y7,y8)←jC y1 y2
  let t55←(do
    if (!(y5 == y8)) then
     pure true
    else
     let y9←tQ y4 y7
     if (!y9) then
      pure true
     else
      pure (!y5)
      : Option Bool)
  if t55 then
   let t4←(do
     if (y5 == y8) then
      let y10←tQ y4 y7
      pure (id y10)
     else
      pure false
       : Option Bool)
   pure (id t4)
  else
   let x←idx ([(⟨[65]⟩:Str),(⟨[66]⟩:Str),(⟨[67]⟩:Str)]:List Str) ((more.length:Int).tmod 3)
   let (y12,y13)←qE y4 x
   let (y15,y16)←qE y1 x
   let (y18,y19)←qE y15 y2
   let t41←(do
     if y16 then
      if (y13 == y19) then
       if (!y13) then
        pure true
       else
        let y20←tQ y12 y18
        pure (id y20)
      else
       pure false
     else
      if (y13 == false) then
       if (!y13) then
        pure true
       else
        let y21←tQ y12 y18
        pure (id y21)
      else
       pure false
       : Option Bool)
   pure (id t41)
theorem zJM:∀ code more r,jX code more=some r→∀ {I:Imm}{p c p1 c1},(S4 I p code c)→(S4 I p1 more c1)→RT 3 [vS p code c,vS p1 more c1] I [] (zT  r):=by
 intro code more r N I p c p1 c1 h h1;unfold jX at N;refine yK Tryz.func3 fun B=>?_;have H:=iS I;refine uA []<|zZ<|yD ?_;refine vL N [] (fun t25=>[(0,vS p code c),(1,vS p1 more c1),(25,.bool t25)]) (fun o0 ho0=>?_) ?_
 · have H:=iS I;refine zM<|yE 4 [] [21] rfl<|wJ [21] ho0 ?_ ?_
   · intro hc N;exact wU [] [(25,vY)]<|yV<|zU (ct N H)
   intro hc N;exact yL [] [25] rfl<|yV<|zU (ct N H)
 intro t25 I0 le hMc;have ⟨h,H⟩:=m2 le h H;refine zK<|yG hMc ?_ ?_
 · intro hc1 N;refine uA [(4,vY)]<|xH<|zL ?_;obtain rfl:=zC N;exact uN
 intro hc1 N;refine zS<|yW<|yE 1 [] [27] rfl ?_;obtain ⟨⟨y1,y2⟩,hy,N⟩:=zB N;refine xG (zCA code _ hy h) ?_;rintro I01 hs2 v2 k2 le1 - ⟨v0,v01,rfl,rfl,⟨cs,rfl,h2⟩,rfl⟩ -;have H:=H.trans le1;obtain ⟨p2,c2,p3,c3,rfl,h4,h5⟩:=uM h2;refine yE 5 [] [29,30] rfl<|xR zTwo ?_;intro b hb;refine yY 0 (cProg y1 p2 c2 p3 c3) rfl<|yL [] [6] rfl<|yW<|sK 2 [0] [(32,vA (cProg y1 p2 c2 p3 c3)),(33,vT y2.l)] ?_;obtain ⟨⟨y4,y5⟩,hy1,N⟩:=zB N;refine xG (gQ y1 y2 _ hy1 h4 h5) ?_;rintro I02 hs2 v2 k2 le2 - ⟨v04,v05,rfl,rfl,⟨cs1,rfl,h6⟩,rfl⟩ -;have ⟨h4,h5,H⟩:=m3 le2 h4 h5 H;obtain ⟨p4,c4,p5,c5,rfl,h8,h9⟩:=uM h6;refine yE 6 [] [35,36] rfl<|xR zTwo ?_;intro b1 hb1;refine yY 0 (cProg y4 p4 c4 p5 c5) rfl<|yL [] [8] rfl<|yW<|sK 2 [1] [(38,vA (cProg y1 p2 c2 p3 c3)),(39,vT y2.l)] ?_;obtain ⟨⟨y7,y8⟩,hy2,N⟩:=zB N;refine xG (zDr y1 y2 _ hy2 h4 h5) ?_;rintro I03 hs2 v2 k2 le3 - ⟨v08,v09,rfl,rfl,⟨cs2,rfl,h10⟩,rfl⟩ -;have ⟨h8,h9,h4,h5,H⟩:=m5 le3 h8 h9 h4 h5 H;obtain ⟨p6,c6,p7,c7,rfl,h12,h13⟩:=uM h10;refine yE 6 [] [41,42] rfl<|xR zTwo ?_;intro b2 hb2;refine yY 0 (cProg y7 p6 c6 p7 c7) rfl<|yL [] [10] rfl<|zZ<|yD ?_;refine vL N [hB b2 (cProg y7 p6 c6 p7 c7),hB b1 (cProg y4 p4 c4 p5 c5),hB b (cProg y1 p2 c2 p3 c3)] (fun t55=>[(1,vS p1 more c1),(5,vP b 0),(6,vT y2.l),(7,vP b1 0),(8,.bool y5),(9,vP b2 0),(10,.bool y8),(55,.bool t55)]) (fun o01 ho01=>?_) ?_
 · have H:=iS I03;refine zM<|yE 4 [] [46] rfl<|wJ [46] ho01 ?_ ?_
   · intro hc2 N;exact wU [] [(55,vY)]<|yV<|zU (ct N H)
   intro hc2 N;refine sK 6 [1,0] [(47,vA (cProg y4 p4 c4 p5 c5)),(48,vA (cProg y7 p6 c6 p7 c7))]<|bE N fun y9 hy3 N=>tS (gR y4 y7 _ hy3 h8 h9 h12 h13) ?_;intro I05 le4;have H:=H.trans le4;refine yE 10 [] [52] rfl<|wJ [52] N ?_ ?_
   · intro hc3 N;exact wU [] [(55,vY)]<|yV<|zU (ct N H)
   intro hc3 N;exact yL [] [55] rfl<|yV<|zU (ct N H)
 intro t55 I04 le5 hMc1;have ⟨h12,h13,h8,h9,h4,h5⟩:=m6 le5 h12 h13 h8 h9 h4 h5;have H:=H.trans le5;refine zK<|yG hMc1 ?_ ?_
 · intro hc4 N;refine yD ?_;refine vL N [] (fun t4=>[(4,.bool t4)]) (fun o02 ho02=>?_) ?_
   · have H:=iS I04;refine zM<|yE 4 [] [59] rfl<|wJ [59] ho02 ?_ ?_
     · intro hc5 N;refine sK 6 [1,0] [(60,vA (cProg y4 p4 c4 p5 c5)),(61,vA (cProg y7 p6 c6 p7 c7))]<|bE N fun y10 hy4 N=>tS (gR y4 y7 _ hy4 h8 h9 h12 h13) ?_;intro I07 le6;have H:=H.trans le6;exact yL [] [4] rfl<|wG zQ<|yV<|zU (ct N H)
     intro hc5 N;exact wU [] [(4,vF)]<|wG zQ<|yV<|zU (ct N H)
   intro t4 I06 le7 hMc2;refine xH<|zL ?_;obtain rfl:=zC hMc2;exact uN
 intro hc4 N;refine zS<|yW<|tC [vT ([65]),vT ([66]),vT ([67])] Str ?_;intro b3 hb3;have h16:RL I04 [vT ([65]),vT ([66]),vT ([67])] ([(⟨[65]⟩:Str),(⟨[66]⟩:Str),(⟨[67]⟩:Str)]:List Str):=rT [(⟨[65]⟩:Str),(⟨[66]⟩:Str),(⟨[67]⟩:Str)];refine yE 4 [] [67] rfl<|bE N fun x hy5 N=>nJ 0 rfl rfl rfl h16 hy5 ?_;intro ad ccs hat hcc hrep;obtain rfl:=hrep;refine zB9 0 0 hat hcc [vT x.l] (vT x.l) rfl rfl<|yL [] [11] rfl<|yW<|sK 2 [2] [(71,vA (cProg y4 p4 c4 p5 c5)),(72,vT x.l)] ?_;obtain ⟨⟨y12,y13⟩,hy6,N⟩:=zB N;refine xG (gQ y4 x _ hy6 h8 h9) ?_;rintro I08 hs2 v2 k2 le8 - ⟨v014,v015,rfl,rfl,⟨cs3,rfl,h17⟩,rfl⟩ -;have ⟨h4,h5,H⟩:=m3 le8 h4 h5 H;obtain ⟨p8,c8,p9,c9,rfl,h19,h20⟩:=uM h17;refine yE 6 [] [74,75] rfl<|xR zTwo ?_;intro b4 hb4;refine yY 0 (cProg y12 p8 c8 p9 c9) rfl<|yL [] [13] rfl<|yW<|sK 2 [4] [(77,vA (cProg y1 p2 c2 p3 c3)),(78,vT x.l)] ?_;obtain ⟨⟨y15,y16⟩,hy7,N⟩:=zB N;refine xG (gQ y1 x _ hy7 h4 h5) ?_;rintro I09 hs2 v2 k2 le9 - ⟨v018,v019,rfl,rfl,⟨cs4,rfl,h21⟩,rfl⟩ -;have ⟨h19,h20,H⟩:=m3 le9 h19 h20 H;obtain ⟨p10,c10,p11,c11,rfl,h23,h24⟩:=uM h21;refine yE 6 [] [80,81] rfl<|xR zTwo ?_;intro b5 hb5;refine yY 0 (cProg y15 p10 c10 p11 c11) rfl<|yL [] [15] rfl<|yW<|sK 2 [0] [(83,vA (cProg y15 p10 c10 p11 c11)),(84,vT y2.l)] ?_;obtain ⟨⟨y18,y19⟩,hy8,N⟩:=zB N;refine xG (gQ y15 y2 _ hy8 h23 h24) ?_;rintro I010 hs2 v2 k2 le10 - ⟨v022,v023,rfl,rfl,⟨cs5,rfl,h25⟩,rfl⟩ -;have ⟨h19,h20,H⟩:=m3 le10 h19 h20 H;obtain ⟨p12,c12,p13,c13,rfl,h27,h28⟩:=uM h25;refine yE 6 [] [86,87] rfl<|xR zTwo ?_;intro b6 hb6;refine yY 0 (cProg y18 p12 c12 p13 c13) rfl<|yL [] [17] rfl<|zK<|yD ?_;refine vL N [] (fun t41=>[(4,.bool t41)]) (fun o03 ho03=>?_) ?_
 · have H:=iS I010;refine zM<|yE 3 [] [88,90] rfl<|wJ [90] ho03 ?_ ?_
   · intro hc6 N;refine yE 7 [] [94] rfl<|wJ [94] N ?_ ?_
     · intro hc7 N;refine yE 10 [] [97] rfl<|wJ [97] N ?_ ?_
       · intro hc8 N;exact wU [] [(4,vY)]<|wG zQ<|yV<|zU (ct N H)
       intro hc8 N;refine sK 12 [2,0] [(98,vA (cProg y12 p8 c8 p9 c9)),(99,vA (cProg y18 p12 c12 p13 c13))]<|bE N fun y20 hy9 N=>tS (gR y12 y18 _ hy9 h19 h20 h27 h28) ?_;intro I012 le11;have H:=H.trans le11;exact yL [] [4] rfl<|wG zQ<|yV<|zU (ct N H)
     intro hc7 N;exact wU [] [(4,vF)]<|wG zQ<|yV<|zU (ct N H)
   intro hc6 N;refine yE 7 [] [94] rfl<|wJ [94] N ?_ ?_
   · intro hc9 N;refine yE 10 [] [97] rfl<|wJ [97] N ?_ ?_
     · intro hc10 N;exact wU [] [(4,vY)]<|wG zQ<|yV<|zU (ct N H)
     intro hc10 N;refine sK 12 [2,0] [(98,vA (cProg y12 p8 c8 p9 c9)),(99,vA (cProg y18 p12 c12 p13 c13))]<|bE N fun y21 hy10 N=>tS (gR y12 y18 _ hy10 h19 h20 h27 h28) ?_;intro I013 le12;have H:=H.trans le12;exact yL [] [4] rfl<|wG zQ<|yV<|zU (ct N H)
   intro hc9 N;exact wU [] [(4,vF)]<|wG zQ<|yV<|zU (ct N H)
 intro t41 I011 le13 hMc3;refine zK<|xC ?_;obtain rfl:=zC hMc3;exact uN
end Go.LN
