/- Helper of the proof (see the last text). -/
import Derived.Test.YtmlnffbepjijhaaGreatHM7
set_option linter.unusedVariables false
set_option linter.unusedSimpArgs false
namespace Go.LN
open Go.Proofs
set_option maxRecDepth 20000
mutual
def xN (s1:(List zH)) (s2:(List zH)):Option (Bool):=do
 if ((s1.length:Int) != (s2.length:Int)) then
  pure false
 else
  match<-xA (same s1) (same s2) (same 0) with
  | .ret r0=>pure r0
  | .done _ =>
   pure true
 partial_fixpoint
def xA (s1:(List zH)) (s2:(List zH)) (t17:Int):Option (Out Unit (Bool)):=do
 if (decide (t17<(s1.length:Int))) then
  let x<-idx s1 t17
  let x1<-idx s2 t17
  let y<-jV (same x) (same x1)
  if (!y) then
   pure (.ret false)
  else
   xA (same s1) (same s2) (W (t17+1))
 else
  pure (.done ())
 partial_fixpoint
def jV (a0:zH) (b:zH):Option (Bool):=do
 let t4<-(do
   if (a0.Kind==b.Kind) then
    if (a0.Num==b.Num) then
     let y<-wI a0.Index b.Index
     if y then
      let y1<-kJ a0.Read b.Read
      if y1 then
       let y2<-xN a0.Kids b.Kids
       pure (id y2)
      else
       pure false
     else
      pure false
    else
     pure false
   else
    pure false
     : Option Bool)
 pure (id t4)
 partial_fixpoint
end
theorem nS:(∀ (s1:(List zH)) (s2:(List zH)) r,xN s1 s2=some r->∀ {I:Imm}{p c p1 c1},(S4 I p s1 c)->(S4 I p1 s2 c1)->RT 114 [vS p s1 c,vS p1 s2 c1,.func (.func 80) ⟨[]⟩ ⟨[]⟩] I [] (zT  r))/\(∀ (s1:(List zH)) (s2:(List zH)) (t17:Int) o,xA s1 s2 t17=some o->∀ {B}{I0 I:Imm}{Q p c p1 c1},I0.le I->(S4 I p1 s2 c1)->(S4 I p s1 c)->NG Q->NO Q->(∀ (I':Imm) ,o=(.done ())->I0.le I'->T 32 B Q (.exit 0) I' [] [])->(∀ r I' hs' m',o=(.ret r)->I0.le I'->RS Tryz.prog Tryz.f114 B (zT  r) I' hs' m'->T 32 B Q .ret I' hs' m')->J Tryz.prog 32 B (nav (bodyOf Tryz.f114) [1,1,0,1,0]) Q I [] [(1,vS p1 s2 c1),(2,.func (.func 80) ⟨[]⟩ ⟨[]⟩),(15,vS p s1 c),(16,vI (s1.length:Int)),(17,vI t17)])/\(∀ (a0:zH) (b:zH) r,jV a0 b=some r->∀ {I:Imm}{p c p1 c1 p2 c2 p3 c3 p4 c4 p5 c5},(S4 I p a0.Index.Coefs c)->(S4 I p1 a0.Read.Subs c1)->(S4 I p2 a0.Kids c2)->(S4 I p3 b.Index.Coefs c3)->(S4 I p4 b.Read.Subs c4)->(S4 I p5 b.Kids c5)->RT 80 [vA (cExpr a0 p c p1 c1 p2 c2),vA (cExpr b p3 c3 p4 c4 p5 c5)] I [] (zT  r)):=by
  refine xN.mutual_partial_correctness _ _ _ ?_ ?_ ?_
  · intro F_slices_EqualFunc_impl_Expr_impl_Expr_impl_Expr_impl_Expr_l1 ih_slices_EqualFunc_impl_Expr_impl_Expr_impl_Expr_impl_Expr_l1 s1 s2 r N I p c p1 c1 h h1;refine yJ Tryz.func114 fun B=>vM []<|zZ<|yH [14] rfl<|zK<|yG N ?_ ?_
    · intro hc N;refine vM [(6,vF)]<|xI<|zL ?_;obtain rfl:=zC N;exact uE
    intro hc N;refine zS<|zZ<|yH [15,16,17] rfl<|wK<|pM [(1,vS p1 s2 c1),(2,.func (.func 80) ⟨[]⟩ ⟨[]⟩),(15,vS p s1 c),(16,vI (s1.length:Int)),(17,vI 0)] ?_;obtain ⟨o0,ho0,hMl⟩:=zB N;refine ih_slices_EqualFunc_impl_Expr_impl_Expr_impl_Expr_impl_Expr_l1 s1 s2 0 o0 ho0 iR h1 h (fun _ _ _ h=>h) (fun _ _ h=>h) ?_ ?_
    · intro I01  heq le1;subst o0;refine zR<|zFy [(6,vY)]<|zK<|xD ?_;obtain rfl:=zC hMl;exact uE
    intro r0 I9 hs9 m9 heq9 le9 hrs9;subst heq9;refine zV<|zL ?_;obtain rfl:=zC hMl;exact xC hrs9
  · intro F_slices_EqualFunc_impl_Expr_impl_Expr_impl_Expr_impl_Expr_l1 F_impl_exprSame ih_slices_EqualFunc_impl_Expr_impl_Expr_impl_Expr_impl_Expr_l1 ih_impl_exprSame s1 s2 t17 o N B I0 I Q p c p1 c1 H h1 h hg ho hx hr;refine yU hg ho<|yH [18] rfl<|zZ<|yG N ?_ ?_
    · intro hc1 N;refine zS<|zZ<|yF<|yC<|yE 1 [] [19] rfl<|bE N fun x hy N=>xT rfl rfl h hy ?_;intro ad ccs hat hrep;obtain ⟨p2,c2,p3,c3,p4,c4,rfl,h2,h3,h4⟩:=wT hrep;refine xO 0 hat (cExpr x p2 c2 p3 c3 p4 c4) (vA (cExpr x p2 c2 p3 c3 p4 c4)) rfl<|xU zExpr ?_;intro b hb;refine yE 5 [] [7] rfl<|yZ 0 (cExpr x p2 c2 p3 c3 p4 c4) rfl<|zX rfl<|yX<|yE 2 [] [22,23] rfl<|bE N fun x1 hy1 N=>xT rfl rfl h1 hy1 ?_;intro ad1 ccs1 hat1 hrep1;obtain ⟨p5,c5,p6,c6,p7,c7,rfl,h5,h6,h7⟩:=wT hrep1;refine xO 0 hat1 (cExpr x1 p5 c5 p6 c6 p7 c7) (vA (cExpr x1 p5 c5 p6 c6 p7 c7)) rfl<|xU zExpr ?_;intro b1 hb1;refine yZ 0 (cExpr x1 p5 c5 p6 c6 p7 c7) rfl<|zX rfl<|yX<|tZ 3 [1,0] [(26,.func (.func 80) ⟨[]⟩ ⟨[]⟩),(27,vA (cExpr x p2 c2 p3 c3 p4 c4)),(28,vA (cExpr x1 p5 c5 p6 c6 p7 c7))]<|bE N fun y hy2 N=>xH (ih_impl_exprSame x x1 _ hy2 h2 h3 h4 h5 h6 h7) ?_;rintro I0 hs2 v2 k2 le - ⟨v06,rfl,rfl,rfl⟩ -;have ⟨h1,h,H⟩:=m3 le h1 h H;refine yM [] [30] rfl<|zK<|yG N ?_ ?_
      · intro hc2 N;exact vM [(6,vF)]<|xI<|zV<|zL<|zL<|hr _ _ _ _ (zC N).symm H ⟨_,_,(.tmp rfl ResV.nil),zQ,⟨_,rfl,rfl,rfl⟩⟩
      intro hc2 N;exact zS<|zO<|zK<|zM<|yM [] [17] rfl<|yT<|pL zQ<|pM [(1,vS p1 s2 c1),(2,.func (.func 80) ⟨[]⟩ ⟨[]⟩),(15,vS p s1 c),(16,vI (s1.length:Int)),(17,vI (W (t17+1)))]<|ih_slices_EqualFunc_impl_Expr_impl_Expr_impl_Expr_impl_Expr_l1 s1 s2 (W (t17+1)) _ N H h1 h hg ho hx hr
    intro hc1 N;exact wW<|yW<|hx _  (zC N).symm H
  intro F_slices_EqualFunc_impl_Expr_impl_Expr_impl_Expr_impl_Expr ih_slices_EqualFunc_impl_Expr_impl_Expr_impl_Expr_impl_Expr a0 b r N I p c p1 c1 p2 c2 p3 c3 p4 c4 p5 c5 h h1 h2 h3 h4 h5;refine yJ Tryz.func80 fun B=>?_;have H:=iS I;refine yC<|vK (cExpr a0 p c p1 c1 p2 c2) ?_;intro b1 hb;refine vK (cExpr b p3 c3 p4 c4 p5 c5) ?_;intro b2 hb1;refine wU [] []<|zK<|yD ?_;refine uB N [] (fun t4=>[(4,.bool t4)]) (fun o0 ho0=>?_) ?_
  · have H:=iS I;refine zM<|yE 6 [1,0] [10] rfl<|wO [10] ho0 ?_ ?_
    · intro hc N;refine yE 13 [1,0] [17] rfl<|wO [17] N ?_ ?_
      · intro hc1 N;refine tZ 17 [1,0] [(19,vA (cAff a0.Index p c)),(21,vA (cAff b.Index p3 c3))]<|bE N fun y hy N=>uZ (fX a0.Index b.Index _ hy h h3) ?_;intro I01 le;have ⟨h4,h5,h1,h2,H⟩:=m5 le h4 h5 h1 h2 H;refine yE 20 [] [24] rfl<|wO [24] N ?_ ?_
        · intro hc2 N;refine tZ 24 [1,0] [(26,vA (cAccess a0.Read p1 c1)),(28,vA (cAccess b.Read p4 c4))]<|bE N fun y1 hy1 N=>uZ (zBQ a0.Read b.Read _ hy1 h1 h4) ?_;intro I02 le1;have ⟨h5,h2,H⟩:=m3 le1 h5 h2 H;refine yE 27 [] [31] rfl<|wO [31] N ?_ ?_
          · intro hc3 N;refine yE 31 [1,0] [33,35] rfl<|bE N fun y2 hy2 N=>xH (ih_slices_EqualFunc_impl_Expr_impl_Expr_impl_Expr_impl_Expr a0.Kids b.Kids _ hy2 h2 h5) ?_;rintro I03 hs2 v2 k2 le2 - ⟨v02,rfl,rfl,rfl⟩ -;have H:=H.trans le2;exact yM [] [4] rfl<|wG zQ<|yW<|zU (ct N H)
          intro hc3 N;exact wU [] [(4,vF)]<|wG zQ<|yW<|zU (ct N H)
        intro hc2 N;exact wU [] [(4,vF)]<|wG zQ<|yW<|zU (ct N H)
      intro hc1 N;exact wU [] [(4,vF)]<|wG zQ<|yW<|zU (ct N H)
    intro hc N;exact wU [] [(4,vF)]<|wG zQ<|yW<|zU (ct N H)
  intro t4 I0 le3 hMc;refine zK<|xD ?_;obtain rfl:=zC hMc;exact uE
theorem zGV:∀ a0 b r,jV a0 b=some r->∀ {I:Imm}{p c p1 c1 p2 c2 p3 c3 p4 c4 p5 c5},(S4 I p a0.Index.Coefs c)->(S4 I p1 a0.Read.Subs c1)->(S4 I p2 a0.Kids c2)->(S4 I p3 b.Index.Coefs c3)->(S4 I p4 b.Read.Subs c4)->(S4 I p5 b.Kids c5)->RT 80 [vA (cExpr a0 p c p1 c1 p2 c2),vA (cExpr b p3 c3 p4 c4 p5 c5)] I [] (zT  r):=nS.2.2
def pU (a0:zJ) (b:zJ):Option (Bool):=do
 let t4<-(do
   let y<-kJ a0.Write b.Write
   if y then
    let y1<-jV a0.Value b.Value
    pure (id y1)
   else
    pure false
     : Option Bool)
 pure (id t4)
theorem zGW:∀ a0 b r,pU a0 b=some r->∀ {I:Imm}{p c p1 c1 p2 c2 p3 c3 p4 c4 p5 c5 p6 c6 p7 c7},(S4 I p a0.Write.Subs c)->(S4 I p1 a0.Value.Index.Coefs c1)->(S4 I p2 a0.Value.Read.Subs c2)->(S4 I p3 a0.Value.Kids c3)->(S4 I p4 b.Write.Subs c4)->(S4 I p5 b.Value.Index.Coefs c5)->(S4 I p6 b.Value.Read.Subs c6)->(S4 I p7 b.Value.Kids c7)->RT 41 [vA (cStmt a0 p c p1 c1 p2 c2 p3 c3),vA (cStmt b p4 c4 p5 c5 p6 c6 p7 c7)] I [] (zT  r):=by
 intro a0 b r N I p c p1 c1 p2 c2 p3 c3 p4 c4 p5 c5 p6 c6 p7 c7 h h1 h2 h3 h4 h5 h6 h7;unfold pU at N;refine yJ Tryz.func41 fun B=>?_;have H:=iS I;refine yC<|vK (cStmt a0 p c p1 c1 p2 c2 p3 c3) ?_;intro b1 hb;refine vK (cStmt b p4 c4 p5 c5 p6 c6 p7 c7) ?_;intro b2 hb1;refine wU [] []<|zK<|yD ?_;refine uB N [] (fun t4=>[(4,.bool t4)]) (fun o0 ho0=>?_) ?_
 · have H:=iS I;refine zM<|tZ 4 [1,0] [(6,vA (cAccess a0.Write p c)),(8,vA (cAccess b.Write p4 c4))] ?_;obtain ⟨y,hy,N⟩:=zB ho0;refine uZ (zBQ a0.Write b.Write _ hy h h4) ?_;intro I01 le;have ⟨h5,h6,h7,h1,h2,h3⟩:=m6 le h5 h6 h7 h1 h2 h3;have H:=H.trans le;refine yE 6 [] [10] rfl<|wO [10] N ?_ ?_
   · intro hc N;refine tZ 10 [1,0] [(12,vA (cExpr a0.Value p1 c1 p2 c2 p3 c3)),(14,vA (cExpr b.Value p5 c5 p6 c6 p7 c7))]<|bE N fun y1 hy1 N=>uZ (zGV a0.Value b.Value _ hy1 h1 h2 h3 h5 h6 h7) ?_;intro I02 le1;have H:=H.trans le1;exact yM [] [4] rfl<|wG zQ<|yW<|zU (ct N H)
   intro hc N;exact wU [] [(4,vF)]<|wG zQ<|yW<|zU (ct N H)
 intro t4 I0 le2 hMc;refine zK<|xD ?_;obtain rfl:=zC hMc;exact uE
def sZ (x:zI) (y:zI):Option (Bool):=do
 let t4<-(do
   let y1<-eC x.Nest y.Nest
   if y1 then
    let y2<-xM x.Body y.Body pU
    pure (id y2)
   else
    pure false
     : Option Bool)
 pure (id t4)
theorem zDE:∀ x y r,sZ x y=some r->∀ {I:Imm}{p c p1 c1 p2 c2 p3 c3},(S4 I p x.Nest c)->(S4 I p1 x.Body c1)->(S4 I p2 y.Nest c2)->(S4 I p3 y.Body c3)->RT 38 [vA (cPart x p c p1 c1),vA (cPart y p2 c2 p3 c3)] I [] (zT  r):=by
 intro x y r N I p c p1 c1 p2 c2 p3 c3 h h1 h2 h3;unfold sZ at N;refine yJ Tryz.func38 fun B=>?_;have H:=iS I;refine yC<|vK (cPart x p c p1 c1) ?_;intro b hb;refine vK (cPart y p2 c2 p3 c3) ?_;intro b1 hb1;refine wU [] []<|zK<|yD ?_;refine uB N [] (fun t4=>[(4,.bool t4)]) (fun o0 ho0=>?_) ?_
 · have H:=iS I;refine zM<|yE 4 [1,0] [6,8] rfl ?_;obtain ⟨y1,hy,N⟩:=zB ho0;refine uZ (zGU x.Nest y.Nest _ hy h h2) ?_;intro I01 le;have ⟨h3,h,h1,H⟩:=m4 le h3 h h1 H;refine yE 6 [] [10] rfl<|wO [10] N ?_ ?_
   · intro hc N;refine yE 10 [1,0] [12,14] rfl ?_;have hf0:FV2 Tryz.prog I01 [] (.func (.func 41) ⟨[]⟩ ⟨[]⟩) pU:=by
       refine FV2.intro ?_;intro I1 le1 x0 x1 r u0 u1 hF k0 k1;obtain ⟨_,rfl,k0⟩:=k0;obtain ⟨p4,c4,p5,c5,p6,c6,p7,c7,rfl,h5,h6,h7,h8⟩:=vC k0;obtain ⟨_,rfl,k1⟩:=k1;obtain ⟨p8,c8,p9,c9,p10,c10,p11,c11,rfl,h9,h10,h11,h12⟩:=vC k1;exact (zGW x0 x1 r hF h5 h6 h7 h8 h9 h10 h11 h12).mono (by rintro k i hs u ⟨v0,rfl,rfl,h⟩; exact ⟨rfl,h⟩)
     obtain ⟨y2,hy1,N⟩:=zB N;refine xH (mA x.Body y.Body pU _ hy1 h1 h3 hf0) ?_;rintro I02 hs2 v2 k2 le1 - ⟨v09,rfl,rfl,rfl⟩ -;have H:=H.trans le1;exact yM [] [4] rfl<|wG zQ<|yW<|zU (ct N H)
   intro hc N;exact wU [] [(4,vF)]<|wG zQ<|yW<|zU (ct N H)
 intro t4 I0 le2 hMc;refine zK<|xD ?_;obtain rfl:=zC hMc;exact uE
def uX (hsF:List HA) (r:Bool):KT:=fun kk I' hs' v=>
  ∃ v0,hsF=hs'/\v=tupV [v0]/\v0=.bool r
def yO (s1:(List zD)) (s2:(List zD)) (eq:(zD->zD->Option Bool)) (t17:Int):Option (Out Unit (Bool)):=do
 if (decide (t17<(s1.length:Int))) then
  let x<-idx s1 t17
  let x1<-idx s2 t17
  let y<-eq x x1
  if (!y) then
   pure (.ret false)
  else
   yO s1 s2 eq (W (t17+1))
 else
  pure (.done ())
 partial_fixpoint
theorem oF (s1:(List zD)) (s2:(List zD)) (eq:(zD->zD->Option Bool)):∀ (t17:Int) (o:Out Unit (Bool)),yO s1 s2 eq t17=some o->∀ {B}{I0 I:Imm}{Q p c p1 c1}{fv:Value}{hsF:List HA},I0.le I->(S4 I p1 s2 c1)->(FV2 Tryz.prog I hsF fv eq)->(S4 I p s1 c)->NG Q->NO Q->(∀ (I':Imm) ,o=(.done ())->I0.le I'->T 32 B Q (.exit 0) I' hsF [])->(∀ r I' hs' m',o=(.ret r)->I0.le I'->RS Tryz.prog Tryz.f42 B (uX hsF r) I' hs' m'->T 32 B Q .ret I' hs' m')->J Tryz.prog 32 B (nav (bodyOf Tryz.f42) [1,1,0,1,0]) Q I hsF [(1,vS p1 s2 c1),(2,fv),(15,vS p s1 c),(16,vI (s1.length:Int)),(17,vI t17)]:=by
 refine yO.partial_correctness s1 s2 eq _ fun self ih t17 o N B I0 I Q p c p1 c1 fv hsF H h1 h2 h hg ho hx hr=>yU hg ho<|yH [18] rfl<|zZ<|yG N ?_ ?_
 · intro hc1 N;refine zS<|zZ<|yF<|yC<|yE 1 [] [19] rfl<|bE N fun x hy N=>xT rfl rfl h hy ?_;intro ad ccs hat hrep;obtain ⟨p2,c2,rfl,h3⟩:=xL hrep;refine xO 0 hat (cArr x p2 c2) (vA (cArr x p2 c2)) rfl<|xU [vT ([]),z0] ?_;intro b hb;refine yE 5 [] [7] rfl<|eQ 0 (cArr x p2 c2) (hB b (cArr x p2 c2)::hsF) rfl rfl rfl rfl<|zX rfl<|yX<|yE 2 [] [22,23] rfl<|bE N fun x1 hy1 N=>xT rfl rfl h1 hy1 ?_;intro ad1 ccs1 hat1 hrep1;obtain ⟨p3,c3,rfl,h4⟩:=xL hrep1;refine xO 0 hat1 (cArr x1 p3 c3) (vA (cArr x1 p3 c3)) rfl<|xU [vT ([]),z0] ?_;intro b1 hb1;refine eQ 0 (cArr x1 p3 c3) (hB b1 (cArr x1 p3 c3)::hB b (cArr x p2 c2)::hsF) rfl rfl rfl rfl<|zX rfl<|yX<|tZ 3 [1,0] [(26,fv),(27,vA (cArr x p2 c2)),(28,vA (cArr x1 p3 c3))]<|bE N fun y hy2 N=>sW (hs':=hsF++[hB b1 (cArr x1 p3 c3),hB b (cArr x p2 c2)]) (eE [hB b1 (cArr x1 p3 c3),hB b (cArr x p2 c2)] hsF)<|zJh rfl rfl rfl h2 hy2 ⟨_,rfl,(uO ⟨_,rfl,h3⟩)⟩ ⟨_,rfl,(uO ⟨_,rfl,h4⟩)⟩ rfl ?_;rintro I0 v02 le rfl;refine sW (hs':=(hB b1 (cArr x1 p3 c3)::hB b (cArr x p2 c2)::hsF)) (eE hsF [hB b1 (cArr x1 p3 c3),hB b (cArr x p2 c2)]) ?_;have ⟨h1,h2,h,H⟩:=m4 le h1 h2 h H;refine yM [] [30] rfl<|zK<|yG N ?_ ?_
   · intro hc2 N;exact vM [(6,vF)]<|xI<|zV<|zL<|zL<|hr _ _ _ _ (zC N).symm H ⟨_,_,(.tmp rfl ResV.nil),(kM [hB b1 (cArr x1 p3 c3),hB b (cArr x p2 c2)] hsF [] rfl (by decide)),⟨_,rfl,rfl,rfl⟩⟩
   intro hc2 N;exact zS<|zO<|zK<|zM<|yM [] [17] rfl<|yT<|pL (kM [hB b1 (cArr x1 p3 c3),hB b (cArr x p2 c2)] hsF [] rfl (by decide))<|nT<|ih (W (t17+1)) _ N H h1 h2 h hg ho hx hr
 intro hc1 N;exact wW<|yW<|hx _  (zC N).symm H
def xZ (s1:(List zD)) (s2:(List zD)) (eq:(zD->zD->Option Bool)):Option (Bool):=do
 if ((s1.length:Int) != (s2.length:Int)) then
  pure false
 else
  match<-yO s1 s2 eq 0 with
  | .ret r0=>pure r0
  | .done _ =>
   pure true
theorem oM:∀ s1 s2 eq r,xZ s1 s2 eq=some r->∀ {I:Imm}{p c p1 c1}{fv:Value}{hsF:List HA},(S4 I p s1 c)->(S4 I p1 s2 c1)->(FV2 Tryz.prog I hsF fv eq)->RT 42 [vS p s1 c,vS p1 s2 c1,fv] I hsF (uX hsF r):=by
 intro s1 s2 eq r N I p c p1 c1 fv hsF h h1 h2;unfold xZ at N;refine yJ Tryz.func42 fun B=>vM []<|zZ<|yH [14] rfl<|zK<|yG N ?_ ?_
 · intro hc N;refine vM [(6,vF)]<|xI<|zL ?_;obtain rfl:=zC N;exact xC ⟨_,_,(.tmp rfl ResV.nil),(fun _ h=>h),⟨_,rfl,rfl,rfl⟩⟩
 intro hc N;refine zS<|zZ<|yH [15,16,17] rfl<|wK<|pM [(1,vS p1 s2 c1),(2,fv),(15,vS p s1 c),(16,vI (s1.length:Int)),(17,vI 0)] ?_;obtain ⟨o0,ho0,hMl⟩:=zB N;refine oF s1 s2 eq 0 o0 ho0 iR h1 h2 h (fun _ _ _ h=>h) (fun _ _ h=>h) ?_ ?_
 · intro I01  heq le1;subst o0;refine zR<|zFy [(6,vY)]<|zK<|xD ?_;obtain rfl:=zC hMl;exact xC ⟨_,_,(.tmp rfl ResV.nil),(fun _ h=>h),⟨_,rfl,rfl,rfl⟩⟩
 intro r0 I9 hs9 m9 heq9 le9 hrs9;subst heq9;refine zV<|zL ?_;obtain rfl:=zC hMl;exact xC hrs9
def tN (hsF:List HA) (r:Bool):KT:=fun kk I' hs' v=>
  ∃ v0,hsF=hs'/\v=tupV [v0]/\v0=.bool r
def yS (s1:(List zI)) (s2:(List zI)) (eq:(zI->zI->Option Bool)) (t17:Int):Option (Out Unit (Bool)):=do
 if (decide (t17<(s1.length:Int))) then
  let x<-idx s1 t17
  let x1<-idx s2 t17
  let y<-eq x x1
  if (!y) then
   pure (.ret false)
  else
   yS s1 s2 eq (W (t17+1))
 else
  pure (.done ())
 partial_fixpoint
theorem nG (s1:(List zI)) (s2:(List zI)) (eq:(zI->zI->Option Bool)):∀ (t17:Int) (o:Out Unit (Bool)),yS s1 s2 eq t17=some o->∀ {B}{I0 I:Imm}{Q p c p1 c1}{fv:Value}{hsF:List HA},I0.le I->(S4 I p1 s2 c1)->(FV2 Tryz.prog I hsF fv eq)->(S4 I p s1 c)->NG Q->NO Q->(∀ (I':Imm) ,o=(.done ())->I0.le I'->T 32 B Q (.exit 0) I' hsF [])->(∀ r I' hs' m',o=(.ret r)->I0.le I'->RS Tryz.prog Tryz.f43 B (tN hsF r) I' hs' m'->T 32 B Q .ret I' hs' m')->J Tryz.prog 32 B (nav (bodyOf Tryz.f43) [1,1,0,1,0]) Q I hsF [(1,vS p1 s2 c1),(2,fv),(15,vS p s1 c),(16,vI (s1.length:Int)),(17,vI t17)]:=by
 refine yS.partial_correctness s1 s2 eq _ fun self ih t17 o N B I0 I Q p c p1 c1 fv hsF H h1 h2 h hg ho hx hr=>yU hg ho<|yH [18] rfl<|zZ<|yG N ?_ ?_
 · intro hc1 N;refine zS<|zZ<|yF<|yC<|yE 1 [] [19] rfl<|bE N fun x hy N=>xT rfl rfl h hy ?_;intro ad ccs hat hrep;obtain ⟨p2,c2,p3,c3,rfl,h3,h4⟩:=wH hrep;refine xO 0 hat (cPart x p2 c2 p3 c3) (vA (cPart x p2 c2 p3 c3)) rfl<|xU zTwo ?_;intro b hb;refine yE 5 [] [7] rfl<|eQ 0 (cPart x p2 c2 p3 c3) (hB b (cPart x p2 c2 p3 c3)::hsF) rfl rfl rfl rfl<|zX rfl<|yX<|yE 2 [] [22,23] rfl<|bE N fun x1 hy1 N=>xT rfl rfl h1 hy1 ?_;intro ad1 ccs1 hat1 hrep1;obtain ⟨p4,c4,p5,c5,rfl,h5,h6⟩:=wH hrep1;refine xO 0 hat1 (cPart x1 p4 c4 p5 c5) (vA (cPart x1 p4 c4 p5 c5)) rfl<|xU zTwo ?_;intro b1 hb1;refine eQ 0 (cPart x1 p4 c4 p5 c5) (hB b1 (cPart x1 p4 c4 p5 c5)::hB b (cPart x p2 c2 p3 c3)::hsF) rfl rfl rfl rfl<|zX rfl<|yX<|tZ 3 [1,0] [(26,fv),(27,vA (cPart x p2 c2 p3 c3)),(28,vA (cPart x1 p4 c4 p5 c5))]<|bE N fun y hy2 N=>sW (hs':=hsF++[hB b1 (cPart x1 p4 c4 p5 c5),hB b (cPart x p2 c2 p3 c3)]) (eE [hB b1 (cPart x1 p4 c4 p5 c5),hB b (cPart x p2 c2 p3 c3)] hsF)<|zJh rfl rfl rfl h2 hy2 ⟨_,rfl,(uQ ⟨_,_,rfl,h3,h4⟩)⟩ ⟨_,rfl,(uQ ⟨_,_,rfl,h5,h6⟩)⟩ rfl ?_;rintro I0 v04 le rfl;refine sW (hs':=(hB b1 (cPart x1 p4 c4 p5 c5)::hB b (cPart x p2 c2 p3 c3)::hsF)) (eE hsF [hB b1 (cPart x1 p4 c4 p5 c5),hB b (cPart x p2 c2 p3 c3)]) ?_;have ⟨h1,h2,h,H⟩:=m4 le h1 h2 h H;refine yM [] [30] rfl<|zK<|yG N ?_ ?_
   · intro hc2 N;exact vM [(6,vF)]<|xI<|zV<|zL<|zL<|hr _ _ _ _ (zC N).symm H ⟨_,_,(.tmp rfl ResV.nil),(kM [hB b1 (cPart x1 p4 c4 p5 c5),hB b (cPart x p2 c2 p3 c3)] hsF [] rfl (by decide)),⟨_,rfl,rfl,rfl⟩⟩
   intro hc2 N;exact zS<|zO<|zK<|zM<|yM [] [17] rfl<|yT<|pL (kM [hB b1 (cPart x1 p4 c4 p5 c5),hB b (cPart x p2 c2 p3 c3)] hsF [] rfl (by decide))<|nT<|ih (W (t17+1)) _ N H h1 h2 h hg ho hx hr
 intro hc1 N;exact wW<|yW<|hx _  (zC N).symm H
def wF (s1:(List zI)) (s2:(List zI)) (eq:(zI->zI->Option Bool)):Option (Bool):=do
 if ((s1.length:Int) != (s2.length:Int)) then
  pure false
 else
  match<-yS s1 s2 eq 0 with
  | .ret r0=>pure r0
  | .done _ =>
   pure true
theorem mB:∀ s1 s2 eq r,wF s1 s2 eq=some r->∀ {I:Imm}{p c p1 c1}{fv:Value}{hsF:List HA},(S4 I p s1 c)->(S4 I p1 s2 c1)->(FV2 Tryz.prog I hsF fv eq)->RT 43 [vS p s1 c,vS p1 s2 c1,fv] I hsF (tN hsF r):=by
 intro s1 s2 eq r N I p c p1 c1 fv hsF h h1 h2;unfold wF at N;refine yJ Tryz.func43 fun B=>vM []<|zZ<|yH [14] rfl<|zK<|yG N ?_ ?_
 · intro hc N;refine vM [(6,vF)]<|xI<|zL ?_;obtain rfl:=zC N;exact xC ⟨_,_,(.tmp rfl ResV.nil),(fun _ h=>h),⟨_,rfl,rfl,rfl⟩⟩
 intro hc N;refine zS<|zZ<|yH [15,16,17] rfl<|wK<|pM [(1,vS p1 s2 c1),(2,fv),(15,vS p s1 c),(16,vI (s1.length:Int)),(17,vI 0)] ?_;obtain ⟨o0,ho0,hMl⟩:=zB N;refine nG s1 s2 eq 0 o0 ho0 iR h1 h2 h (fun _ _ _ h=>h) (fun _ _ h=>h) ?_ ?_
 · intro I01  heq le1;subst o0;refine zR<|zFy [(6,vY)]<|zK<|xD ?_;obtain rfl:=zC hMl;exact xC ⟨_,_,(.tmp rfl ResV.nil),(fun _ h=>h),⟨_,rfl,rfl,rfl⟩⟩
 intro r0 I9 hs9 m9 heq9 le9 hrs9;subst heq9;refine zV<|zL ?_;obtain rfl:=zC hMl;exact xC hrs9
def rD (a0:zF) (b:zF):Option (Bool):=do
 let t4<-(do
   let y<-xZ a0.Arrays b.Arrays sY
   if y then
    let y1<-wF a0.Parts b.Parts sZ
    pure (id y1)
   else
    pure false
     : Option Bool)
 pure (id t4)
theorem gY:∀ a0 b r,rD a0 b=some r->∀ {I:Imm}{p c p1 c1 p2 c2 p3 c3},(S4 I p a0.Arrays c)->(S4 I p1 a0.Parts c1)->(S4 I p2 b.Arrays c2)->(S4 I p3 b.Parts c3)->RT 10 [vA (cProg a0 p c p1 c1),vA (cProg b p2 c2 p3 c3)] I [] (zT  r):=by
 intro a0 b r N I p c p1 c1 p2 c2 p3 c3 h h1 h2 h3;unfold rD at N;refine yJ Tryz.func10 fun B=>?_;have H:=iS I;refine yC<|vK (cProg a0 p c p1 c1) ?_;intro b1 hb;refine vK (cProg b p2 c2 p3 c3) ?_;intro b2 hb1;refine wU [] []<|uN [5] rfl<|uN [6] rfl<|zK<|yD ?_;refine uB N [] (fun t4=>[(4,.bool t4)]) (fun o0 ho0=>?_) ?_
 · have H:=iS I;refine zM<|yE 5 [1,0] [8,10,11] rfl ?_;have hf0:FV2 Tryz.prog I [] (.func (.func 36) ⟨[]⟩ ⟨[]⟩) sY:=by
     refine FV2.intro ?_;intro I1 le1 x0 x1 r u0 u1 hF k0 k1;obtain ⟨_,rfl,k0⟩:=k0;obtain ⟨p4,c4,rfl,h4⟩:=xL k0;obtain ⟨_,rfl,k1⟩:=k1;obtain ⟨p5,c5,rfl,h5⟩:=xL k1;exact (zDD x0 x1 r hF h4 h5).mono (by rintro k i hs u ⟨v0,rfl,rfl,h⟩; exact ⟨rfl,h⟩)
   obtain ⟨y,hy,N⟩:=zB ho0;refine xH (oM a0.Arrays b.Arrays sY _ hy h h2 hf0) ?_;rintro I01 hs2 v2 k2 le - ⟨v02,rfl,rfl,rfl⟩ -;have ⟨h3,h,h1,H⟩:=m4 le h3 h h1 H;refine yE 7 [] [13] rfl<|wO [13] N ?_ ?_
   · intro hc N;refine yE 12 [1,0] [15,17,18] rfl ?_;have hf01:FV2 Tryz.prog I01 [] (.func (.func 38) ⟨[]⟩ ⟨[]⟩) sZ:=by
       refine FV2.intro ?_;intro I1 le1 x0 x1 r u0 u1 hF k0 k1;obtain ⟨_,rfl,k0⟩:=k0;obtain ⟨p6,c6,p7,c7,rfl,h7,h8⟩:=wH k0;obtain ⟨_,rfl,k1⟩:=k1;obtain ⟨p8,c8,p9,c9,rfl,h9,h10⟩:=wH k1;exact (zDE x0 x1 r hF h7 h8 h9 h10).mono (by rintro k i hs u ⟨v0,rfl,rfl,h⟩; exact ⟨rfl,h⟩)
     obtain ⟨y1,hy1,N⟩:=zB N;refine xH (mB a0.Parts b.Parts sZ _ hy1 h1 h3 hf01) ?_;rintro I02 hs2 v2 k2 le1 - ⟨v07,rfl,rfl,rfl⟩ -;have H:=H.trans le1;exact yM [] [4] rfl<|wG zQ<|yW<|zU (ct N H)
   intro hc N;exact wU [] [(4,vF)]<|wG zQ<|yW<|zU (ct N H)
 intro t4 I0 le2 hMc;refine zK<|xD ?_;obtain rfl:=zC hMc;exact uE
def nM (p:zF):Option (Bool):=do
 let (y1,y2)<-tS p
 pure (id y2)
theorem oJ:∀ p r,nM p=some r->∀ {I:Imm}{p1 c p2 c1},(S4 I p1 p.Arrays c)->(S4 I p2 p.Parts c1)->RT 11 [vA (cProg p p1 c p2 c1)] I [] (zT  r):=by
 intro p r N I p1 c p2 c1 h h1;unfold nM at N;refine yJ Tryz.func11 fun B=>yC<|vK (cProg p p1 c p2 c1) ?_;intro b hb;refine wU [] []<|yX<|tZ 1 [0] [(6,vA (cProg p p1 c p2 c1))] ?_;obtain ⟨⟨y1,y2⟩,hy,N⟩:=zB N;refine xH (jP p _ hy h h1) ?_;rintro I0 hs2 v2 k2 le - ⟨v0,v01,rfl,rfl,h2,rfl⟩ -;obtain ⟨p3,c2,rfl⟩:=h2.form;refine yM [] [4] rfl<|uN [2] rfl<|zK<|xD ?_;obtain rfl:=zC N;exact uE
def sN (p:zF) (n0:Int) (t9:Int):Option (Int):=do
 if (decide (t9<(p.Arrays.length:Int))) then
  let x<-idx p.Arrays t9
  let y<-kG x
  sN p (W (n0+y)) (W (t9+1))
 else
  pure (id n0)
 partial_fixpoint
theorem zBr (p:zF):∀ (n0:Int) (t9:Int) (o:Int),sN p n0 t9=some o->∀ {B}{I0 I:Imm}{Q p1 c},I0.le I->(S4 I p1 p.Arrays c)->NG Q->NO Q->(∀ (I':Imm) (n01:Int),o=n01->I0.le I'->T 19 B Q (.exit 0) I' [] [(3,vI n01)])->J Tryz.prog 19 B (nav (bodyOf Tryz.f44) [1,1,0,1,0]) Q I [] [(3,vI n0),(7,vS p1 p.Arrays c),(8,vI (p.Arrays.length:Int)),(9,vI t9)]:=by
 refine sN.partial_correctness p _ fun self ih n0 t9 o N B I0 I Q p1 c H h hg ho hx=>yU hg ho<|yH [10] rfl<|zZ<|yG N ?_ ?_
 · intro hc N;refine zS<|zZ<|yF<|yC<|bE N fun x hy N=>xT rfl rfl h hy ?_;intro ad ccs hat hrep;obtain ⟨p3,c2,rfl,h2⟩:=xL hrep;refine xO 0 hat (cArr x p3 c2) (vA (cArr x p3 c2)) rfl<|xU [vT ([]),z0] ?_;intro b1 hb1;refine yZ 0 (cArr x p3 c2) rfl<|zX rfl<|zK<|zM<|tZ 2 [0] [(13,vI n0),(14,vA (cArr x p3 c2))]<|bE N fun y hy1 N=>fB (zBM x _ hy1 h2) ?_;intro I0 le;have ⟨h,H⟩:=m2 le h H;exact yM [] [3] rfl<|zO<|zK<|zM<|yM [] [9] rfl<|yT<|pL zQ<|nT<|ih (W (n0+y)) (W (t9+1)) _ N H h hg ho hx
 intro hc N;exact wW<|yW<|hx _ _ (zC N).symm H
def kE (p:zF):Option (Int):=do
 let n01<-sN p 0 0
 pure (id n01)
theorem zDF:∀ p r,kE p=some r->∀ {I:Imm}{p1 c p2 c1},(S4 I p1 p.Arrays c)->(S4 I p2 p.Parts c1)->RT 44 [vA (cProg p p1 c p2 c1)] I [] (xQ  r):=by
 intro p r N I p1 c p2 c1 h h1;unfold kE at N;refine yJ Tryz.func44 fun B=>yC<|vK (cProg p p1 c p2 c1) ?_;intro b hb;refine wU [] []<|uN [3] rfl<|zZ<|yC<|yM [0] [7,8,9] rfl<|wK<|pL (zY [] (hs':=[]))<|pM [(3,vI 0),(7,vS p1 p.Arrays c),(8,vI (p.Arrays.length:Int)),(9,vI 0)] ?_;obtain ⟨o0,ho0,hMl⟩:=zB N;refine zBr p 0 0 o0 ho0 iR h (fun _ _ _ h=>h) (fun _ _ h=>h) ?_;intro I01 n01 heq le1;subst o0;refine zR<|uN [2] rfl<|zK<|xD ?_;obtain rfl:=zC hMl;exact uE
def kK (p:zF):Option (Int):=do
 let y<-nM p
 if (!y) then
  pure (id 0)
 else
  let y1<-kE p
  pure (id y1)
theorem qJ:∀ p r,kK p=some r->∀ {I:Imm}{p1 c p2 c1},(S4 I p1 p.Arrays c)->(S4 I p2 p.Parts c1)->RT 12 [vA (cProg p p1 c p2 c1)] I [] (xQ  r):=by
 intro p r N I p1 c p2 c1 h h1;unfold kK at N;refine yJ Tryz.func12 fun B=>yC<|vK (cProg p p1 c p2 c1) ?_;intro b hb;refine wU [] []<|zZ<|yC<|tZ 1 [0] [(3,vA (cProg p p1 c p2 c1))]<|bE N fun y hy N=>uZ (oJ p _ hy h h1) ?_;intro I0 le;have ⟨h,h1⟩:=m2 le h h1;refine yM [] [5] rfl<|zK<|yG N ?_ ?_
 · intro hc N;refine yH [2] rfl<|xI<|zL ?_;obtain rfl:=zC N;exact uE
 intro hc N;refine zS<|yX<|tZ 1 [0] [(6,vA (cProg p p1 c p2 c1))]<|bE N fun y1 hy1 N=>fB (zDF p _ hy1 h h1) fun I01 le1=>wU [] [(2,vI y1)]<|zK<|xD ?_;obtain rfl:=zC N;exact uE
def qC (p:zF):Option ((List zN)):=do
 let (y1,y2)<-tS p
 if (!y2) then
  pure ([]:List zN)
 else
  pure (id y1)
theorem zAI:∀ p r,qC p=some r->∀ {I:Imm}{p1 c p2 c1},(S4 I p1 p.Arrays c)->(S4 I p2 p.Parts c1)->RT 13 [vA (cProg p p1 c p2 c1)] I [] (zA0  r):=by
 intro p r N I p1 c p2 c1 h h1;unfold qC at N;refine yJ Tryz.func13 fun B=>yC<|vK (cProg p p1 c p2 c1) ?_;intro b hb;refine wU [] []<|yX<|tZ 1 [0] [(6,vA (cProg p p1 c p2 c1))] ?_;obtain ⟨⟨y1,y2⟩,hy,N⟩:=zB N;refine xH (jP p _ hy h h1) ?_;rintro I0 hs2 v2 k2 le - ⟨v0,v01,rfl,rfl,h2,rfl⟩ -;obtain ⟨p3,c2,rfl⟩:=h2.form;refine yM [] [3,4] rfl<|zZ<|yH [11] rfl<|zK<|yG N ?_ ?_
 · intro hc N;refine vM [(2,z0)]<|xI<|zL ?_;obtain rfl:=zC N;exact xC ⟨_,_,(.tmp rfl ResV.nil),zQ,⟨_,rfl,rfl,(SL.nil _)⟩⟩
 intro hc N;refine zS<|uN [2] rfl<|zK<|xD ?_;obtain rfl:=zC N;exact xC ⟨_,_,(.tmp rfl ResV.nil),zQ,⟨_,rfl,rfl,h2⟩⟩
def gG (code:(List UInt8)):Option (Bool):=do
 if (decide ((code.length:Int)>1048576)) then
  pure true
 else
  let (y1,y2)<-oZ code
  let (y4,y5)<-mS y1 y2
  let (y7,y8)<-jK y1 y2
  let t43<-(do
    if (!(y5==y8)) then
     pure true
    else
     let y9<-rD y4 y7
     if (!y9) then
      pure true
     else
      pure (!y5)
      : Option Bool)
  if t43 then
   let t2<-(do
     if (y5==y8) then
      let y10<-rD y4 y7
      pure (id y10)
     else
      pure false
       : Option Bool)
   pure (id t2)
  else
   let (y12,y13)<-mS y4 y2
   let t21<-(do
     let y14<-nM y4
     if y14 then
      let y15<-kK y4
      let y16<-kK y1
      if (decide (y15<=y16)) then
       if y13 then
        let y17<-rD y12 y4
        if y17 then
         let y18<-qC y4
         let y19<-qC y1
         pure ((y18.length:Int)==(y19.length:Int))
        else
         pure false
       else
        pure false
      else
       pure false
     else
      pure false
       : Option Bool)
   pure (id t21)
theorem zJ0:∀ code r,gG code=some r->∀ {I:Imm}{p c},(S4 I p code c)->RT 4 [vS p code c] I [] (zT  r):=by
 intro code r N I p c h;unfold gG at N;refine yJ Tryz.func4 fun B=>?_;have H:=iS I;refine vM []<|zZ<|yH [13] rfl<|zK<|yG N ?_ ?_
 · intro hc N;refine vM [(2,vY)]<|xI<|zL ?_;obtain rfl:=zC N;exact uE
 intro hc N;refine zS<|yX<|yE 1 [] [15] rfl ?_;obtain ⟨⟨y1,y2⟩,hy,N⟩:=zB N;refine xH (zCL code _ hy h) ?_;rintro I0 hs2 v2 k2 le - ⟨v0,v01,rfl,rfl,⟨cs,rfl,h1⟩,rfl⟩ -;have H:=H.trans le;obtain ⟨p1,c1,p2,c2,rfl,h3,h4⟩:=tW h1;refine yE 5 [] [17,18] rfl<|xU zTwo ?_;intro b hb;refine yZ 0 (cProg y1 p1 c1 p2 c2) rfl<|yM [] [4] rfl<|yX<|tZ 2 [0] [(20,vA (cProg y1 p1 c1 p2 c2)),(21,vT y2.l)] ?_;obtain ⟨⟨y4,y5⟩,hy1,N⟩:=zB N;refine xH (zAv y1 y2 _ hy1 h3 h4) ?_;rintro I01 hs2 v2 k2 le1 - ⟨v04,v05,rfl,rfl,⟨cs1,rfl,h5⟩,rfl⟩ -;have ⟨h3,h4,H⟩:=m3 le1 h3 h4 H;obtain ⟨p3,c3,p4,c4,rfl,h7,h8⟩:=tW h5;refine yE 6 [] [23,24] rfl<|xU zTwo ?_;intro b1 hb1;refine yZ 0 (cProg y4 p3 c3 p4 c4) rfl<|yM [] [6] rfl<|yX<|tZ 2 [1] [(26,vA (cProg y1 p1 c1 p2 c2)),(27,vT y2.l)] ?_;obtain ⟨⟨y7,y8⟩,hy2,N⟩:=zB N;refine xH (zED y1 y2 _ hy2 h3 h4) ?_;rintro I02 hs2 v2 k2 le2 - ⟨v08,v09,rfl,rfl,⟨cs2,rfl,h9⟩,rfl⟩ -;have ⟨h7,h8,h3,h4,H⟩:=m5 le2 h7 h8 h3 h4 H;obtain ⟨p5,c5,p6,c6,rfl,h11,h12⟩:=tW h9;refine yE 6 [] [29,30] rfl<|xU zTwo ?_;intro b2 hb2;refine yZ 0 (cProg y7 p5 c5 p6 c6) rfl<|yM [] [8] rfl<|zZ<|yD ?_;refine uB N [hB b2 (cProg y7 p5 c5 p6 c6),hB b1 (cProg y4 p3 c3 p4 c4),hB b (cProg y1 p1 c1 p2 c2)] (fun t43=>[(3,vP b 0),(4,vT y2.l),(5,vP b1 0),(6,.bool y5),(7,vP b2 0),(8,.bool y8),(43,.bool t43)]) (fun o0 ho0=>?_) ?_
 · have H:=iS I02;refine zM<|yE 4 [] [34] rfl<|wO [34] ho0 ?_ ?_
   · intro hc1 N;exact wU [] [(43,vY)]<|yW<|zU (ct N H)
   intro hc1 N;refine tZ 6 [1,0] [(35,vA (cProg y4 p3 c3 p4 c4)),(36,vA (cProg y7 p5 c5 p6 c6))]<|bE N fun y9 hy3 N=>uZ (gY y4 y7 _ hy3 h7 h8 h11 h12) ?_;intro I04 le3;have H:=H.trans le3;refine yE 10 [] [40] rfl<|wO [40] N ?_ ?_
   · intro hc2 N;exact wU [] [(43,vY)]<|yW<|zU (ct N H)
   intro hc2 N;exact yM [] [43] rfl<|yW<|zU (ct N H)
 intro t43 I03 le4 hMc;have ⟨h11,h12,h7,h8,h3,h4⟩:=m6 le4 h11 h12 h7 h8 h3 h4;have H:=H.trans le4;refine zK<|yG hMc ?_ ?_
 · intro hc3 N;refine yD ?_;refine uB N [] (fun t2=>[(2,.bool t2)]) (fun o01 ho01=>?_) ?_
   · have H:=iS I03;refine zM<|yE 4 [] [47] rfl<|wO [47] ho01 ?_ ?_
     · intro hc4 N;refine tZ 6 [1,0] [(48,vA (cProg y4 p3 c3 p4 c4)),(49,vA (cProg y7 p5 c5 p6 c6))]<|bE N fun y10 hy4 N=>uZ (gY y4 y7 _ hy4 h7 h8 h11 h12) ?_;intro I06 le5;have H:=H.trans le5;exact yM [] [2] rfl<|wG zQ<|yW<|zU (ct N H)
     intro hc4 N;exact wU [] [(2,vF)]<|wG zQ<|yW<|zU (ct N H)
   intro t2 I05 le6 hMc1;refine xI<|zL ?_;obtain rfl:=zC hMc1;exact uE
 intro hc3 N;refine zS<|yX<|tZ 2 [1] [(53,vA (cProg y4 p3 c3 p4 c4)),(54,vT y2.l)] ?_;obtain ⟨⟨y12,y13⟩,hy5,N⟩:=zB N;refine xH (zAv y4 y2 _ hy5 h7 h8) ?_;rintro I07 hs2 v2 k2 le7 - ⟨v014,v015,rfl,rfl,⟨cs3,rfl,h15⟩,rfl⟩ -;have ⟨h7,h8,h3,h4,H⟩:=m5 le7 h7 h8 h3 h4 H;obtain ⟨p7,c7,p8,c8,rfl,h17,h18⟩:=tW h15;refine yE 6 [] [56,57] rfl<|xU zTwo ?_;intro b3 hb3;refine yZ 0 (cProg y12 p7 c7 p8 c8) rfl<|yM [] [10] rfl<|zK<|yD ?_;refine uB N [] (fun t21=>[(2,.bool t21)]) (fun o02 ho02=>?_) ?_
 · have H:=iS I07;obtain ⟨y14,hy6,N⟩:=zB ho02;cases hc5:y14 with
   | true =>
    have hM0:=tC hc5 N;obtain ⟨y15,hy7,N⟩:=zB hM0;obtain ⟨y16,hy8,N⟩:=zB N;cases hc6:(decide (y15<=y16)) with
    | true =>
     have hM01:=tC hc6 N;cases hc7:y13 with
     | true =>
      have hM02:=tC hc7 hM01;obtain ⟨y17,hy9,N⟩:=zB hM02;cases hc8:y17 with
      | true =>
       have hM03:=tC hc8 N;obtain ⟨y18,hy10,N⟩:=zB hM03;obtain ⟨y19,hy11,N⟩:=zB N;refine wP [.p (vA (cProg y4 p3 c3 p4 c4)) [2],.q vY,.q vY,.p (vA (cProg y4 p3 c3 p4 c4)) [2],.q (vI y15),.p (vA (cProg y1 p1 c1 p2 c2)) [3],.q (vI y16),.q vY,.q vY,.q vY,.q vY,.q vY,.q vY,.p (vA (cProg y12 p7 c7 p8 c8)) [0],.p (vA (cProg y4 p3 c3 p4 c4)) [2],.q vY,.q vY,.q vY,.p (vA (cProg y4 p3 c3 p4 c4)) [2],.x (eS y18),.q (vI (y18.length:Int)),.p (vA (cProg y1 p1 c1 p2 c2)) [3],.x (eS y19),.q (vI (y19.length:Int)),.p (.bool ((y18.length:Int)==(y19.length:Int))) [],.p (.bool ((y18.length:Int)==(y19.length:Int))) []] [[],[(0,false)],[(1,false)],[(2,false)],[(2,false),(3,false)],[(2,false)],[(2,false),(5,false)],[(2,false),(4,false),(6,false)],[(2,false),(7,false)],[(8,false)],[(9,false)],[(9,false),(10,false)],[(11,false)],[(12,false)],[(12,false)],[(12,false),(13,false),(14,false)],[(12,false),(15,false)],[(16,false)],[(17,false)],[(17,false),(18,false)],[(17,false),(19,false)],[(17,false)],[(17,false),(21,false)],[(17,false),(22,false)],[(17,false),(20,false),(23,false)],[(17,false),(24,false)]] [hB b3 (cProg y12 p7 c7 p8 c8),hB b2 (cProg y7 p5 c5 p6 c6),hB b1 (cProg y4 p3 c3 p4 c4),hB b (cProg y1 p1 c1 p2 c2)] [] [(25,false)] (zY [0,1,2,3]) ?_ ?_
       · refine Op<|Oq ?_<|Oq ?_<|Op<|Oq ?_<|Op<|Oq ?_<|Oq ?_<|Oq ?_<|Oq ?_<|Oq ?_<|Oq ?_<|Oq ?_<|Op<|Op<|Oq ?_<|Oq ?_<|Oq ?_<|Op<|Ox ?_<|Oq ?_<|Op<|Ox ?_<|Oq ?_<|Op<|Op<|On
         · intro I1 hf le1;refine yV [58] rfl ?_;have H:=iS I1;have ⟨h7,h8⟩:=m2 le1 h7 h8;refine uZ (oJ y4 _ hy6 h7 h8) ?_;intro I09 le8;have H:=H.trans le8;rw [hc5];exact xB H
         · intro I1 hf le1;exact dS [(59,vY)]<|qA 3 [(60,vY)]<|xB iR
         · intro I1 hf le1;refine yV [60,61] rfl ?_;have H:=iS I1;have ⟨h7,h8⟩:=m2 le1 h7 h8;refine fB (qJ y4 _ hy7 h7 h8) ?_;intro I010 le9;have H:=H.trans le9;exact xB H
         · intro I1 hf le1;refine yV [60,63] rfl ?_;have H:=iS I1;have ⟨h3,h4⟩:=m2 le1 h3 h4;refine fB (qJ y1 _ hy8 h3 h4) ?_;intro I011 le10;have H:=H.trans le10;exact xB H
         · intro I1 hf le1;refine yV [60,62,64] rfl<|qA 8 [(65,.bool (decide (y15<=y16)))] ?_;rw [hc6];exact xB iR
         · intro I1 hf le1;exact yV [60,65] rfl<|qA 9 [(66,vY)]<|xB iR
         · intro I1 hf le1;exact dS [(66,vY)]<|qA 10 [(67,vY)]<|xB iR
         · intro I1 hf le1;exact yV [10,67] rfl<|qA 11 [(68,vY)]<|xB iR
         · intro I1 hf le1;exact yV [67,68] rfl<|qA 12 [(69,vY)]<|xB iR
         · intro I1 hf le1;exact dS [(69,vY)]<|qA 13 [(70,vY)]<|xB iR
         · intro I1 hf le1;refine yV [70,71,72] rfl ?_;have H:=iS I1;have ⟨h17,h18,h7,h8⟩:=m4 le1 h17 h18 h7 h8;refine uZ (gY y12 y4 _ hy9 h17 h18 h7 h8) ?_;intro I012 le11;have H:=H.trans le11;rw [hc8];exact xB H
         · intro I1 hf le1;exact yV [70,73] rfl<|qA 17 [(74,vY)]<|xB iR
         · intro I1 hf le1;exact dS [(74,vY)]<|qA 18 [(75,vY)]<|xB iR
         · intro I1 hf le1;refine yV [75,76] rfl ?_;have H:=iS I1;have ⟨h7,h8⟩:=m2 le1 h7 h8;refine xH (zAI y4 _ hy10 h7 h8) ?_;rintro I013 hs2 v2 k2 le12 - ⟨v022,rfl,rfl,h23⟩ -;have H:=H.trans le12;obtain ⟨p9,c9,rfl⟩:=h23.form;exact yL [] H ⟨_,_,rfl,rfl,h23⟩
         · rintro I1 hf le1 _ _ ⟨rfl,rfl⟩ _ _ ⟨p9,c9,rfl,rfl,h23⟩;exact yV [75,77] rfl<|qA 21 [(78,vI (y18.length:Int))]<|xB iR
         · intro I1 hf le1;refine yV [75,79] rfl ?_;have H:=iS I1;have ⟨h3,h4⟩:=m2 le1 h3 h4;refine xH (zAI y1 _ hy11 h3 h4) ?_;rintro I014 hs2 v2 k2 le13 - ⟨v023,rfl,rfl,h24⟩ -;have H:=H.trans le13;obtain ⟨p10,c10,rfl⟩:=h24.form;exact yL [] H ⟨_,_,rfl,rfl,h24⟩
         rintro I1 hf le1 _ _ ⟨rfl,rfl⟩ _ _ ⟨p10,c10,rfl,rfl,h24⟩;exact yV [75,80] rfl<|qA 24 [(81,vI (y19.length:Int))]<|xB iR
       intro I015 le14;refine yV [83] rfl ?_;have H:=H.trans le14;exact yM [] [2] rfl<|wG zQ<|yW<|zU (ct N H)
      | false =>
       have hM04:=uL hc8 N;refine wP [.p (vA (cProg y4 p3 c3 p4 c4)) [2],.q vY,.q vY,.p (vA (cProg y4 p3 c3 p4 c4)) [2],.q (vI y15),.p (vA (cProg y1 p1 c1 p2 c2)) [3],.q (vI y16),.q vY,.q vY,.q vY,.q vY,.q vY,.q vY,.p (vA (cProg y12 p7 c7 p8 c8)) [0],.p (vA (cProg y4 p3 c3 p4 c4)) [2],.q vF,.q vF,.q vF,.p undef [],.p undef [],.p undef [],.p undef [],.p undef [],.p undef [],.p undef [],.p vF []] [[],[(0,false)],[(1,false)],[(2,false)],[(2,false),(3,false)],[(2,false)],[(2,false),(5,false)],[(2,false),(4,false),(6,false)],[(2,false),(7,false)],[(8,false)],[(9,false)],[(9,false),(10,false)],[(11,false)],[(12,false)],[(12,false)],[(12,false),(13,false),(14,false)],[(12,false),(15,false)],[(16,false)],[(17,false)],[(17,false),(18,false)],[(17,false),(19,false)],[(17,false)],[(17,false),(21,false)],[(17,false),(22,false)],[(17,false),(20,false),(23,false)],[(17,false),(24,false)]] [hB b3 (cProg y12 p7 c7 p8 c8),hB b2 (cProg y7 p5 c5 p6 c6),hB b1 (cProg y4 p3 c3 p4 c4),hB b (cProg y1 p1 c1 p2 c2)] [] [(25,false)] (zY [0,1,2,3]) ?_ ?_
       · refine Op<|Oq ?_<|Oq ?_<|Op<|Oq ?_<|Op<|Oq ?_<|Oq ?_<|Oq ?_<|Oq ?_<|Oq ?_<|Oq ?_<|Oq ?_<|Op<|Op<|Oq ?_<|Oq ?_<|Oq ?_<|Op<|Op<|Op<|Op<|Op<|Op<|Op<|Op<|On
         · intro I1 hf le1;refine yV [58] rfl ?_;have H:=iS I1;have ⟨h7,h8⟩:=m2 le1 h7 h8;refine uZ (oJ y4 _ hy6 h7 h8) ?_;intro I09 le8;have H:=H.trans le8;rw [hc5];exact xB H
         · intro I1 hf le1;exact dS [(59,vY)]<|qA 3 [(60,vY)]<|xB iR
         · intro I1 hf le1;refine yV [60,61] rfl ?_;have H:=iS I1;have ⟨h7,h8⟩:=m2 le1 h7 h8;refine fB (qJ y4 _ hy7 h7 h8) ?_;intro I010 le9;have H:=H.trans le9;exact xB H
         · intro I1 hf le1;refine yV [60,63] rfl ?_;have H:=iS I1;have ⟨h3,h4⟩:=m2 le1 h3 h4;refine fB (qJ y1 _ hy8 h3 h4) ?_;intro I011 le10;have H:=H.trans le10;exact xB H
         · intro I1 hf le1;refine yV [60,62,64] rfl<|qA 8 [(65,.bool (decide (y15<=y16)))] ?_;rw [hc6];exact xB iR
         · intro I1 hf le1;exact yV [60,65] rfl<|qA 9 [(66,vY)]<|xB iR
         · intro I1 hf le1;exact dS [(66,vY)]<|qA 10 [(67,vY)]<|xB iR
         · intro I1 hf le1;exact yV [10,67] rfl<|qA 11 [(68,vY)]<|xB iR
         · intro I1 hf le1;exact yV [67,68] rfl<|qA 12 [(69,vY)]<|xB iR
         · intro I1 hf le1;exact dS [(69,vY)]<|qA 13 [(70,vY)]<|xB iR
         · intro I1 hf le1;refine yV [70,71,72] rfl ?_;have H:=iS I1;have ⟨h17,h18,h7,h8⟩:=m4 le1 h17 h18 h7 h8;refine uZ (gY y12 y4 _ hy9 h17 h18 h7 h8) ?_;intro I012 le11;have H:=H.trans le11;rw [hc8];exact xB H
         · intro I1 hf le1;exact yV [70,73] rfl<|qA 17 [(74,vF)]<|xB iR
         intro I1 hf le1;exact dS [(74,vF)]<|qA 18 [(75,vF)]<|xB iR
       intro I016 le15;refine dS [(83,vF)] ?_;have H:=H.trans le15;exact wU [] [(2,vF)]<|wG zQ<|yW<|zU (ct hM04 H)
     | false =>
      have hM05:=uL hc7 hM01;refine wP [.p (vA (cProg y4 p3 c3 p4 c4)) [2],.q vY,.q vY,.p (vA (cProg y4 p3 c3 p4 c4)) [2],.q (vI y15),.p (vA (cProg y1 p1 c1 p2 c2)) [3],.q (vI y16),.q vY,.q vY,.q vY,.q vF,.q vF,.q vF,.p undef [],.p undef [],.p undef [],.p vF [],.p vF [],.p undef [],.p undef [],.p undef [],.p undef [],.p undef [],.p undef [],.p undef [],.p vF []] [[],[(0,false)],[(1,false)],[(2,false)],[(2,false),(3,false)],[(2,false)],[(2,false),(5,false)],[(2,false),(4,false),(6,false)],[(2,false),(7,false)],[(8,false)],[(9,false)],[(9,false),(10,false)],[(11,false)],[(12,false)],[(12,false)],[(12,false),(13,false),(14,false)],[(12,false),(15,false)],[(16,false)],[(17,false)],[(17,false),(18,false)],[(17,false),(19,false)],[(17,false)],[(17,false),(21,false)],[(17,false),(22,false)],[(17,false),(20,false),(23,false)],[(17,false),(24,false)]] [hB b3 (cProg y12 p7 c7 p8 c8),hB b2 (cProg y7 p5 c5 p6 c6),hB b1 (cProg y4 p3 c3 p4 c4),hB b (cProg y1 p1 c1 p2 c2)] [] [(25,false)] (zY [0,1,2,3]) ?_ ?_
      · refine Op<|Oq ?_<|Oq ?_<|Op<|Oq ?_<|Op<|Oq ?_<|Oq ?_<|Oq ?_<|Oq ?_<|Oq ?_<|Oq ?_<|Oq ?_<|Op<|Op<|Op<|Op<|Op<|Op<|Op<|Op<|Op<|Op<|Op<|Op<|Op<|On
        · intro I1 hf le1;refine yV [58] rfl ?_;have H:=iS I1;have ⟨h7,h8⟩:=m2 le1 h7 h8;refine uZ (oJ y4 _ hy6 h7 h8) ?_;intro I09 le8;have H:=H.trans le8;rw [hc5];exact xB H
        · intro I1 hf le1;exact dS [(59,vY)]<|qA 3 [(60,vY)]<|xB iR
        · intro I1 hf le1;refine yV [60,61] rfl ?_;have H:=iS I1;have ⟨h7,h8⟩:=m2 le1 h7 h8;refine fB (qJ y4 _ hy7 h7 h8) ?_;intro I010 le9;have H:=H.trans le9;exact xB H
        · intro I1 hf le1;refine yV [60,63] rfl ?_;have H:=iS I1;have ⟨h3,h4⟩:=m2 le1 h3 h4;refine fB (qJ y1 _ hy8 h3 h4) ?_;intro I011 le10;have H:=H.trans le10;exact xB H
        · intro I1 hf le1;refine yV [60,62,64] rfl<|qA 8 [(65,.bool (decide (y15<=y16)))] ?_;rw [hc6];exact xB iR
        · intro I1 hf le1;exact yV [60,65] rfl<|qA 9 [(66,vY)]<|xB iR
        · intro I1 hf le1;exact dS [(66,vY)]<|qA 10 [(67,vY)]<|xB iR
        · intro I1 hf le1;exact yV [10,67] rfl<|qA 11 [(68,vF)]<|xB iR
        · intro I1 hf le1;exact yV [67,68] rfl<|qA 12 [(69,vF)]<|xB iR
        intro I1 hf le1;exact dS [(69,vF)]<|qA 13 [(70,vF)]<|xB iR
      intro I017 le16;refine dS [(83,vF)] ?_;have H:=H.trans le16;exact wU [] [(2,vF)]<|wG zQ<|yW<|zU (ct hM05 H)
    | false =>
     have hM06:=uL hc6 N;refine wP [.p (vA (cProg y4 p3 c3 p4 c4)) [2],.q vY,.q vY,.p (vA (cProg y4 p3 c3 p4 c4)) [2],.q (vI y15),.p (vA (cProg y1 p1 c1 p2 c2)) [3],.q (vI y16),.q vF,.q vF,.q vF,.p undef [],.p vF [],.p vF [],.p undef [],.p undef [],.p undef [],.p vF [],.p vF [],.p undef [],.p undef [],.p undef [],.p undef [],.p undef [],.p undef [],.p undef [],.p vF []] [[],[(0,false)],[(1,false)],[(2,false)],[(2,false),(3,false)],[(2,false)],[(2,false),(5,false)],[(2,false),(4,false),(6,false)],[(2,false),(7,false)],[(8,false)],[(9,false)],[(9,false),(10,false)],[(11,false)],[(12,false)],[(12,false)],[(12,false),(13,false),(14,false)],[(12,false),(15,false)],[(16,false)],[(17,false)],[(17,false),(18,false)],[(17,false),(19,false)],[(17,false)],[(17,false),(21,false)],[(17,false),(22,false)],[(17,false),(20,false),(23,false)],[(17,false),(24,false)]] [hB b3 (cProg y12 p7 c7 p8 c8),hB b2 (cProg y7 p5 c5 p6 c6),hB b1 (cProg y4 p3 c3 p4 c4),hB b (cProg y1 p1 c1 p2 c2)] [] [(25,false)] (zY [0,1,2,3]) ?_ ?_
     · refine Op<|Oq ?_<|Oq ?_<|Op<|Oq ?_<|Op<|Oq ?_<|Oq ?_<|Oq ?_<|Oq ?_<|Op<|Op<|Op<|Op<|Op<|Op<|Op<|Op<|Op<|Op<|Op<|Op<|Op<|Op<|Op<|Op<|On
       · intro I1 hf le1;refine yV [58] rfl ?_;have H:=iS I1;have ⟨h7,h8⟩:=m2 le1 h7 h8;refine uZ (oJ y4 _ hy6 h7 h8) ?_;intro I09 le8;have H:=H.trans le8;rw [hc5];exact xB H
       · intro I1 hf le1;exact dS [(59,vY)]<|qA 3 [(60,vY)]<|xB iR
       · intro I1 hf le1;refine yV [60,61] rfl ?_;have H:=iS I1;have ⟨h7,h8⟩:=m2 le1 h7 h8;refine fB (qJ y4 _ hy7 h7 h8) ?_;intro I010 le9;have H:=H.trans le9;exact xB H
       · intro I1 hf le1;refine yV [60,63] rfl ?_;have H:=iS I1;have ⟨h3,h4⟩:=m2 le1 h3 h4;refine fB (qJ y1 _ hy8 h3 h4) ?_;intro I011 le10;have H:=H.trans le10;exact xB H
       · intro I1 hf le1;refine yV [60,62,64] rfl<|qA 8 [(65,.bool (decide (y15<=y16)))] ?_;rw [hc6];exact xB iR
       · intro I1 hf le1;exact yV [60,65] rfl<|qA 9 [(66,vF)]<|xB iR
       intro I1 hf le1;exact dS [(66,vF)]<|qA 10 [(67,vF)]<|xB iR
     intro I018 le17;refine dS [(83,vF)] ?_;have H:=H.trans le17;exact wU [] [(2,vF)]<|wG zQ<|yW<|zU (ct hM06 H)
   | false =>
    have hM07:=uL hc5 N;refine wP [.p (vA (cProg y4 p3 c3 p4 c4)) [2],.q vF,.q vF,.p undef [],.p undef [],.p undef [],.p undef [],.p undef [],.p vF [],.p vF [],.p undef [],.p vF [],.p vF [],.p undef [],.p undef [],.p undef [],.p vF [],.p vF [],.p undef [],.p undef [],.p undef [],.p undef [],.p undef [],.p undef [],.p undef [],.p vF []] [[],[(0,false)],[(1,false)],[(2,false)],[(2,false),(3,false)],[(2,false)],[(2,false),(5,false)],[(2,false),(4,false),(6,false)],[(2,false),(7,false)],[(8,false)],[(9,false)],[(9,false),(10,false)],[(11,false)],[(12,false)],[(12,false)],[(12,false),(13,false),(14,false)],[(12,false),(15,false)],[(16,false)],[(17,false)],[(17,false),(18,false)],[(17,false),(19,false)],[(17,false)],[(17,false),(21,false)],[(17,false),(22,false)],[(17,false),(20,false),(23,false)],[(17,false),(24,false)]] [hB b3 (cProg y12 p7 c7 p8 c8),hB b2 (cProg y7 p5 c5 p6 c6),hB b1 (cProg y4 p3 c3 p4 c4),hB b (cProg y1 p1 c1 p2 c2)] [] [(25,false)] (zY [0,1,2,3]) ?_ ?_
    · refine Op<|Oq ?_<|Oq ?_<|Op<|Op<|Op<|Op<|Op<|Op<|Op<|Op<|Op<|Op<|Op<|Op<|Op<|Op<|Op<|Op<|Op<|Op<|Op<|Op<|Op<|Op<|Op<|On
      · intro I1 hf le1;refine yV [58] rfl ?_;have H:=iS I1;have ⟨h7,h8⟩:=m2 le1 h7 h8;refine uZ (oJ y4 _ hy6 h7 h8) ?_;intro I09 le8;have H:=H.trans le8;rw [hc5];exact xB H
      intro I1 hf le1;exact dS [(59,vF)]<|qA 3 [(60,vF)]<|xB iR
    intro I019 le18;refine dS [(83,vF)] ?_;have H:=H.trans le18;exact wU [] [(2,vF)]<|wG zQ<|yW<|zU (ct hM07 H)
 intro t21 I08 le19 hMc2;refine zK<|xD ?_;obtain rfl:=zC hMc2;exact uE
end Go.LN
