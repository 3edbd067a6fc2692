/- Helper of the proof (see the last text). -/
import Derived.Test.YtmlnffbepjijhaaGreatHM7
set_option linter.unusedVariables false
set_option linter.unusedSimpArgs false
namespace Go.LN
open Go.Proofs Go.Proofs.Tryz
set_option maxRecDepth 20000
mutual
def xN (s1:(List zH)) (s2:(List zH)):Option (Bool):=do
 if ((s1.length:Int) != (s2.length:Int)) then pure false
 else
  match<-xC (same s1) (same s2) (same 0) with
  | .ret r0=>pure r0
  | .done _ =>
   pure true
 partial_fixpoint
def xC (s1:(List zH)) (s2:(List zH)) (t17:Int):Option (Out Unit (Bool)):=do
 if (decide (t17<(s1.length:Int))) then
  let x<-idx s1 t17;let x1<-idx s2 t17;let y<-gN (same x) (same x1);if (!y) then pure (.ret false)
  else xC (same s1) (same s2) (W (t17+1))
 else pure (.done ())
 partial_fixpoint
def gN (a0:zH) (b:zH):Option (Bool):=do
 let t4<-(do
   if (a0.Kind==b.Kind) then
    if (a0.Num==b.Num) then
     let y<-wK a0.Index b.Index;if y then
      let y1<-kW a0.Read b.Read;if y1 then
       let y2<-xN a0.Kids b.Kids;pure (id y2)
      else pure false
     else pure false
    else pure false
   else
    pure false
     : Option Bool)
 pure (id t4)
 partial_fixpoint
end
theorem mF:(∀ (s1:(List zH)) (s2:(List zH)) r,xN s1 s2=some r->∀ {I:Imm}{p c p1 c1},(S4 I p s1 c)->(S4 I p1 s2 c1)->RT 114 [vS p s1 c,vS p1 s2 c1,.func (.func 80) ⟨[]⟩ ⟨[]⟩] I [] (zT  r))/\(∀ (s1:(List zH)) (s2:(List zH)) (t17:Int) o,xC s1 s2 t17=some o->∀ {B}{I0 I:Imm}{Q p c p1 c1},I0.le I->(S4 I p1 s2 c1)->(S4 I p s1 c)->NG Q->NO Q->(∀ I',o=(.done ())->I0.le I'->T 32 B Q (.exit 0) I' [] [])->(∀ r I' af m',o=(.ret r)->I0.le I'->RS Tryz.prog f114 B (zT  r) I' af m'->T 32 B Q .ret I' af m')->J Tryz.prog 32 B (nav (bodyOf f114) [1,1,0,1,0]) Q I [] [(1,vS p1 s2 c1),(2,.func (.func 80) ⟨[]⟩ ⟨[]⟩),(15,vS p s1 c),(16,vI (s1.length:Int)),(17,vI t17)])/\(∀ (a0:zH) (b:zH) r,gN a0 b=some r->∀ {I:Imm}{p c p1 c1 p2 c2 p3 c3 p4 c4 p5 c5},(S4 I p a0.Index.Coefs c)->(S4 I p1 a0.Read.Subs c1)->(S4 I p2 a0.Kids c2)->(S4 I p3 b.Index.Coefs c3)->(S4 I p4 b.Read.Subs c4)->(S4 I p5 b.Kids c5)->RT 80 [vA (cExpr a0 p c p1 c1 p2 c2),vA (cExpr b p3 c3 p4 c4 p5 c5)] I [] (zT  r)):=by
  refine xN.mutual_partial_correctness _ _ _ ?_ ?_ ?_
  · intro F_slices_EqualFunc_impl_Expr_impl_Expr_impl_Expr_impl_Expr_l1 ih_slices_EqualFunc_impl_Expr_impl_Expr_impl_Expr_impl_Expr_l1 s1 s2 r N I p c p1 c1 h h1;refine yI func114 fun B=>wT []<|zZ<|yH [14] rfl<|zK<|yG N ?_ ?_
    · intro hc N;refine wT [(6,vF)]<|xF<|zJ ?_;obtain rfl:=zD N;exact vV
    intro hc N;refine zS<|zZ<|yH [15,16,17] rfl<|wI<|qR [(1,vS p1 s2 c1),(2,.func (.func 80) ⟨[]⟩ ⟨[]⟩),(15,vS p s1 c),(16,vI (s1.length:Int)),(17,vI 0)] ?_;obtain ⟨o0,az,aF⟩:=zB N;refine ih_slices_EqualFunc_impl_Expr_impl_Expr_impl_Expr_impl_Expr_l1 s1 s2 0 o0 az iR h1 h nG nO ?_ ?_
    · intro aO  heq aa;subst o0;refine zR<|zD7 [(6,vY)]<|zK<|xA ?_;obtain rfl:=zD aF;exact vV
    intro r0 I9 hs9 m9 aS le9 aU;subst aS;refine zV<|zJ ?_;obtain rfl:=zD aF;exact fO aU
  · intro F_slices_EqualFunc_impl_Expr_impl_Expr_impl_Expr_impl_Expr_l1 F_impl_exprSame ih_slices_EqualFunc_impl_Expr_impl_Expr_impl_Expr_impl_Expr_l1 ih_impl_exprSame s1 s2 t17 o N B I0 I Q p c p1 c1 H h1 h hg ho hx hr;refine yQ hg ho<|yH [18] rfl<|zZ<|yG N ?_ ?_
    · intro aH N;refine zS<|zZ<|yF<|yB<|yE 1 [] [19] rfl<|bE N fun x hy N=>xR rfl rfl h hy ?_;intro ad aL al aj;obtain ⟨p2,c2,p3,c3,p4,c4,rfl,h2,h3,h4⟩:=wQ aj;refine xH 0 al (cExpr x p2 c2 p3 c3 p4 c4) (vA (cExpr x p2 c2 p3 c3 p4 c4)) rfl<|xU zExpr ?_;intro b hb;refine yE 5 [] [7] rfl<|yY 0 (cExpr x p2 c2 p3 c3 p4 c4) rfl<|zX rfl<|yW<|yE 2 [] [22,23] rfl<|bE N fun x1 ay N=>xR rfl rfl h1 ay ?_;intro ad1 bm au ax;obtain ⟨p5,c5,p6,c6,p7,c7,rfl,h5,h6,h7⟩:=wQ ax;refine xH 0 au (cExpr x1 p5 c5 p6 c6 p7 c7) (vA (cExpr x1 p5 c5 p6 c6 p7 c7)) rfl<|xU zExpr ?_;intro b1 hb1;refine yY 0 (cExpr x1 p5 c5 p6 c6 p7 c7) rfl<|zX rfl<|yW<|tL 3 [1,0] [(26,.func (.func 80) ⟨[]⟩ ⟨[]⟩),(27,vA (cExpr x p2 c2 p3 c3 p4 c4)),(28,vA (cExpr x1 p5 c5 p6 c6 p7 c7))]<|bE N fun y aG N=>xE (ih_impl_exprSame x x1 _ aG h2 h3 h4 h5 h6 h7) ?_;rintro I0 aw v2 k2 le - ⟨v06,rfl,rfl,rfl⟩ -;have ⟨h1,h,H⟩:=m3 le h1 h H;refine yK [] [30] rfl<|zK<|yG N ?_ ?_
      · intro aY N;exact wT [(6,vF)]<|xF<|zV<|zJ<|zJ<|hr _ _ _ _ (zD N).symm H ⟨_,_,(resT rfl),zP,⟨_,rfl,rfl,rfl⟩⟩
      intro aY N;exact zS<|zO<|zK<|zM<|yK [] [17] rfl<|yP<|pU zP<|qR [(1,vS p1 s2 c1),(2,.func (.func 80) ⟨[]⟩ ⟨[]⟩),(15,vS p s1 c),(16,vI (s1.length:Int)),(17,vI (W (t17+1)))]<|ih_slices_EqualFunc_impl_Expr_impl_Expr_impl_Expr_impl_Expr_l1 s1 s2 (W (t17+1)) _ N H h1 h hg ho hx hr
    intro aH N;exact wP<|yU<|hx _  (zD N).symm H
  intro F_slices_EqualFunc_impl_Expr_impl_Expr_impl_Expr_impl_Expr ih_slices_EqualFunc_impl_Expr_impl_Expr_impl_Expr_impl_Expr a0 b r N I p c p1 c1 p2 c2 p3 c3 p4 c4 p5 c5 h h1 h2 h3 h4 h5;refine yI func80 fun B=>?_;have H:=iS I;refine yB<|vJ (cExpr a0 p c p1 c1 p2 c2) ?_;intro b1 hb;refine vJ (cExpr b p3 c3 p4 c4 p5 c5) ?_;intro b2 hb1;refine wR [] []<|zK<|yA ?_;refine wZ N [] (fun t4=>[(4,.bool t4)]) (fun o0 az=>?_) ?_
  · have H:=iS I;refine zM<|yE 6 [1,0] [10] rfl<|wL [10] az ?_ ?_
    · intro hc N;refine yE 13 [1,0] [17] rfl<|wL [17] N ?_ ?_
      · intro aH N;refine tL 17 [1,0] [(19,vA (cAff a0.Index p c)),(21,vA (cAff b.Index p3 c3))]<|bE N fun y hy N=>tH (eU a0.Index b.Index _ hy h h3) ?_;intro aO le;have ⟨h4,h5,h1,h2,H⟩:=m5 le h4 h5 h1 h2 H;refine yE 20 [] [24] rfl<|wL [24] N ?_ ?_
        · intro aY N;refine tL 24 [1,0] [(26,vA (cAccess a0.Read p1 c1)),(28,vA (cAccess b.Read p4 c4))]<|bE N fun y1 ay N=>tH (zBh a0.Read b.Read _ ay h1 h4) ?_;intro aV aa;have ⟨h5,h2,H⟩:=m3 aa h5 h2 H;refine yE 27 [] [31] rfl<|wL [31] N ?_ ?_
          · intro bC N;refine yE 31 [1,0] [33,35] rfl<|bE N fun y2 aG N=>xE (ih_slices_EqualFunc_impl_Expr_impl_Expr_impl_Expr_impl_Expr a0.Kids b.Kids _ aG h2 h5) ?_;rintro bx aw v2 k2 aA - ⟨v02,rfl,rfl,rfl⟩ -;have H:=H.trans aA;exact yK [] [4] rfl<|wF zP<|yU<|zU (ct N H)
          intro bC N;exact wR [] [(4,vF)]<|wF zP<|yU<|zU (ct N H)
        intro aY N;exact wR [] [(4,vF)]<|wF zP<|yU<|zU (ct N H)
      intro aH N;exact wR [] [(4,vF)]<|wF zP<|yU<|zU (ct N H)
    intro hc N;exact wR [] [(4,vF)]<|wF zP<|yU<|zU (ct N H)
  intro t4 I0 aK aT;refine zK<|xA ?_;obtain rfl:=zD aT;exact vV
theorem zHK:∀ a0 b r,gN a0 b=some r->∀ {I:Imm}{p c p1 c1 p2 c2 p3 c3 p4 c4 p5 c5},(S4 I p a0.Index.Coefs c)->(S4 I p1 a0.Read.Subs c1)->(S4 I p2 a0.Kids c2)->(S4 I p3 b.Index.Coefs c3)->(S4 I p4 b.Read.Subs c4)->(S4 I p5 b.Kids c5)->RT 80 [vA (cExpr a0 p c p1 c1 p2 c2),vA (cExpr b p3 c3 p4 c4 p5 c5)] I [] (zT  r):=mF.2.2
def pZ (a0:zL) (b:zL):Option (Bool):=do
 let t4<-(do
   let y<-kW a0.Write b.Write;if y then
    let y1<-gN a0.Value b.Value;pure (id y1)
   else
    pure false
     : Option Bool)
 pure (id t4)
theorem zHL:∀ a0 b r,pZ a0 b=some r->∀ {I:Imm}{p c p1 c1 p2 c2 p3 c3 p4 c4 p5 c5 p6 c6 p7 c7},(S4 I p a0.Write.Subs c)->(S4 I p1 a0.Value.Index.Coefs c1)->(S4 I p2 a0.Value.Read.Subs c2)->(S4 I p3 a0.Value.Kids c3)->(S4 I p4 b.Write.Subs c4)->(S4 I p5 b.Value.Index.Coefs c5)->(S4 I p6 b.Value.Read.Subs c6)->(S4 I p7 b.Value.Kids c7)->RT 41 [vA (cStmt a0 p c p1 c1 p2 c2 p3 c3),vA (cStmt b p4 c4 p5 c5 p6 c6 p7 c7)] I [] (zT  r):=by
 intro a0 b r N I p c p1 c1 p2 c2 p3 c3 p4 c4 p5 c5 p6 c6 p7 c7 h h1 h2 h3 h4 h5 h6 h7;unfold pZ at N;refine yI func41 fun B=>?_;have H:=iS I;refine yB<|vJ (cStmt a0 p c p1 c1 p2 c2 p3 c3) ?_;intro b1 hb;refine vJ (cStmt b p4 c4 p5 c5 p6 c6 p7 c7) ?_;intro b2 hb1;refine wR [] []<|zK<|yA ?_;refine wZ N [] (fun t4=>[(4,.bool t4)]) (fun o0 az=>?_) ?_
 · have H:=iS I;refine zM<|tL 4 [1,0] [(6,vA (cAccess a0.Write p c)),(8,vA (cAccess b.Write p4 c4))] ?_;obtain ⟨y,hy,N⟩:=zB az;refine tH (zBh a0.Write b.Write _ hy h h4) ?_;intro aO le;have ⟨h5,h6,h7,h1,h2,h3⟩:=m6 le h5 h6 h7 h1 h2 h3;have H:=H.trans le;refine yE 6 [] [10] rfl<|wL [10] N ?_ ?_
   · intro hc N;refine tL 10 [1,0] [(12,vA (cExpr a0.Value p1 c1 p2 c2 p3 c3)),(14,vA (cExpr b.Value p5 c5 p6 c6 p7 c7))]<|bE N fun y1 ay N=>tH (zHK a0.Value b.Value _ ay h1 h2 h3 h5 h6 h7) ?_;intro aV aa;have H:=H.trans aa;exact yK [] [4] rfl<|wF zP<|yU<|zU (ct N H)
   intro hc N;exact wR [] [(4,vF)]<|wF zP<|yU<|zU (ct N H)
 intro t4 I0 aA aT;refine zK<|xA ?_;obtain rfl:=zD aT;exact vV
def sY (x:zI) (y:zI):Option (Bool):=do
 let t4<-(do
   let y1<-eY x.Nest y.Nest;if y1 then
    let y2<-xM x.Body y.Body pZ;pure (id y2)
   else
    pure false
     : Option Bool)
 pure (id t4)
theorem zDj:∀ x y r,sY x y=some r->∀ {I:Imm}{p c p1 c1 p2 c2 p3 c3},(S4 I p x.Nest c)->(S4 I p1 x.Body c1)->(S4 I p2 y.Nest c2)->(S4 I p3 y.Body c3)->RT 38 [vA (cPart x p c p1 c1),vA (cPart y p2 c2 p3 c3)] I [] (zT  r):=by
 intro x y r N I p c p1 c1 p2 c2 p3 c3 h h1 h2 h3;unfold sY at N;refine yI func38 fun B=>?_;have H:=iS I;refine yB<|vJ (cPart x p c p1 c1) ?_;intro b hb;refine vJ (cPart y p2 c2 p3 c3) ?_;intro b1 hb1;refine wR [] []<|zK<|yA ?_;refine wZ N [] (fun t4=>[(4,.bool t4)]) (fun o0 az=>?_) ?_
 · have H:=iS I;refine zM<|yE 4 [1,0] [6,8] rfl ?_;obtain ⟨y1,hy,N⟩:=zB az;refine tH (zHJ x.Nest y.Nest _ hy h h2) ?_;intro aO le;have ⟨h3,h,h1,H⟩:=m4 le h3 h h1 H;refine yE 6 [] [10] rfl<|wL [10] N ?_ ?_
   · intro hc N;refine yE 10 [1,0] [12,14] rfl ?_;have hf0:FV2 Tryz.prog aO [] (.func (.func 41) ⟨[]⟩ ⟨[]⟩) pZ:=by
       refine FV2.intro ?_;intro I1 aa x0 x1 r u0 u1 hF k0 k1;obtain ⟨_,rfl,k0⟩:=k0;obtain ⟨p4,c4,p5,c5,p6,c6,p7,c7,rfl,h5,h6,h7,h8⟩:=wV k0;obtain ⟨_,rfl,k1⟩:=k1;obtain ⟨p8,c8,p9,c9,aQ,aM,aJ,aW,rfl,h9,h10,h11,h12⟩:=wV k1;exact (zHL x0 x1 r hF h5 h6 h7 h8 h9 h10 h11 h12).mono (by rintro k i hs u ⟨v0,rfl,rfl,h⟩; exact ⟨rfl,h⟩)
     obtain ⟨y2,ay,N⟩:=zB N;refine xE (mL x.Body y.Body pZ _ ay h1 h3 hf0) ?_;rintro aV aw v2 k2 aa - ⟨v09,rfl,rfl,rfl⟩ -;have H:=H.trans aa;exact yK [] [4] rfl<|wF zP<|yU<|zU (ct N H)
   intro hc N;exact wR [] [(4,vF)]<|wF zP<|yU<|zU (ct N H)
 intro t4 I0 aA aT;refine zK<|xA ?_;obtain rfl:=zD aT;exact vV
def uT (aB:List HA) (r:Bool):KT:=fun kk I' af v=>
  ∃ v0,aB=af/\v=tupV [v0]/\v0=.bool r
def yO (s1:(List zE)) (s2:(List zE)) (eq:(zE->zE->Option Bool)) (t17:Int):Option (Out Unit (Bool)):=do
 if (decide (t17<(s1.length:Int))) then
  let x<-idx s1 t17;let x1<-idx s2 t17;let y<-eq x x1;if (!y) then pure (.ret false)
  else yO s1 s2 eq (W (t17+1))
 else pure (.done ())
 partial_fixpoint
theorem oK (s1:(List zE)) (s2:(List zE)) (eq:(zE->zE->Option Bool)):∀ (t17:Int) (o:Out Unit (Bool)),yO s1 s2 eq t17=some o->∀ {B}{I0 I:Imm}{Q p c p1 c1}{fv:Value}{aB:List HA},I0.le I->(S4 I p1 s2 c1)->(FV2 Tryz.prog I aB fv eq)->(S4 I p s1 c)->NG Q->NO Q->(∀ I',o=(.done ())->I0.le I'->T 32 B Q (.exit 0) I' aB [])->(∀ r I' af m',o=(.ret r)->I0.le I'->RS Tryz.prog f42 B (uT aB r) I' af m'->T 32 B Q .ret I' af m')->J Tryz.prog 32 B (nav (bodyOf f42) [1,1,0,1,0]) Q I aB [(1,vS p1 s2 c1),(2,fv),(15,vS p s1 c),(16,vI (s1.length:Int)),(17,vI t17)]:=by
 refine yO.partial_correctness s1 s2 eq _ fun aE ih t17 o N B I0 I Q p c p1 c1 fv aB H h1 h2 h hg ho hx hr=>yQ hg ho<|yH [18] rfl<|zZ<|yG N ?_ ?_
 · intro aH N;refine zS<|zZ<|yF<|yB<|yE 1 [] [19] rfl<|bE N fun x hy N=>xR rfl rfl h hy ?_;intro ad aL al aj;obtain ⟨p2,c2,rfl,h3⟩:=xP aj;refine xH 0 al (cArr x p2 c2) (vA (cArr x p2 c2)) rfl<|xU [vT ([]),z0] ?_;intro b hb;refine yE 5 [] [7] rfl<|dE 0 (cArr x p2 c2) (hB b (cArr x p2 c2)::aB) rfl rfl rfl rfl<|zX rfl<|yW<|yE 2 [] [22,23] rfl<|bE N fun x1 ay N=>xR rfl rfl h1 ay ?_;intro ad1 bm au ax;obtain ⟨p3,c3,rfl,h4⟩:=xP ax;refine xH 0 au (cArr x1 p3 c3) (vA (cArr x1 p3 c3)) rfl<|xU [vT ([]),z0] ?_;intro b1 hb1;refine dE 0 (cArr x1 p3 c3) (hB b1 (cArr x1 p3 c3)::hB b (cArr x p2 c2)::aB) rfl rfl rfl rfl<|zX rfl<|yW<|tL 3 [1,0] [(26,fv),(27,vA (cArr x p2 c2)),(28,vA (cArr x1 p3 c3))]<|bE N fun y aG N=>tX (af:=aB++[hB b1 (cArr x1 p3 c3),hB b (cArr x p2 c2)]) (eZ [hB b1 (cArr x1 p3 c3),hB b (cArr x p2 c2)] aB)<|zKt rfl rfl rfl h2 aG ⟨_,rfl,(uI ⟨_,rfl,h3⟩)⟩ ⟨_,rfl,(uI ⟨_,rfl,h4⟩)⟩ rfl ?_;rintro I0 v02 le rfl;refine tX (af:=(hB b1 (cArr x1 p3 c3)::hB b (cArr x p2 c2)::aB)) (eZ aB [hB b1 (cArr x1 p3 c3),hB b (cArr x p2 c2)]) ?_;have ⟨h1,h2,h,H⟩:=m4 le h1 h2 h H;refine yK [] [30] rfl<|zK<|yG N ?_ ?_
   · intro aY N;exact wT [(6,vF)]<|xF<|zV<|zJ<|zJ<|hr _ _ _ _ (zD N).symm H ⟨_,_,(resT rfl),(kY [hB b1 (cArr x1 p3 c3),hB b (cArr x p2 c2)] aB [] rfl (by decide)),⟨_,rfl,rfl,rfl⟩⟩
   intro aY N;exact zS<|zO<|zK<|zM<|yK [] [17] rfl<|yP<|pU (kY [hB b1 (cArr x1 p3 c3),hB b (cArr x p2 c2)] aB [] rfl (by decide))<|oT<|ih (W (t17+1)) _ N H h1 h2 h hg ho hx hr
 intro aH N;exact wP<|yU<|hx _  (zD N).symm H
def xZ (s1:(List zE)) (s2:(List zE)) (eq:(zE->zE->Option Bool)):Option (Bool):=do
 if ((s1.length:Int) != (s2.length:Int)) then pure false
 else
  match<-yO s1 s2 eq 0 with
  | .ret r0=>pure r0
  | .done _ =>
   pure true
theorem oV:∀ s1 s2 eq r,xZ s1 s2 eq=some r->∀ {I:Imm}{p c p1 c1}{fv:Value}{aB:List HA},(S4 I p s1 c)->(S4 I p1 s2 c1)->(FV2 Tryz.prog I aB fv eq)->RT 42 [vS p s1 c,vS p1 s2 c1,fv] I aB (uT aB r):=by
 intro s1 s2 eq r N I p c p1 c1 fv aB h h1 h2;unfold xZ at N;refine yI func42 fun B=>wT []<|zZ<|yH [14] rfl<|zK<|yG N ?_ ?_
 · intro hc N;refine wT [(6,vF)]<|xF<|zJ ?_;exact xO N (resT rfl) (fun _ h=>h) ⟨_,rfl,rfl,rfl⟩
 intro hc N;refine zS<|zZ<|yH [15,16,17] rfl<|wI<|qR [(1,vS p1 s2 c1),(2,fv),(15,vS p s1 c),(16,vI (s1.length:Int)),(17,vI 0)] ?_;obtain ⟨o0,az,aF⟩:=zB N;refine oK s1 s2 eq 0 o0 az iR h1 h2 h nG nO ?_ ?_
 · intro aO  heq aa;subst o0;refine zR<|zD7 [(6,vY)]<|zK<|xA ?_;exact xO aF (resT rfl) (fun _ h=>h) ⟨_,rfl,rfl,rfl⟩
 intro r0 I9 hs9 m9 aS le9 aU;subst aS;refine zV<|zJ ?_;obtain rfl:=zD aF;exact fO aU
def tK (aB:List HA) (r:Bool):KT:=fun kk I' af v=>
  ∃ v0,aB=af/\v=tupV [v0]/\v0=.bool r
def yT (s1:(List zI)) (s2:(List zI)) (eq:(zI->zI->Option Bool)) (t17:Int):Option (Out Unit (Bool)):=do
 if (decide (t17<(s1.length:Int))) then
  let x<-idx s1 t17;let x1<-idx s2 t17;let y<-eq x x1;if (!y) then pure (.ret false)
  else yT s1 s2 eq (W (t17+1))
 else pure (.done ())
 partial_fixpoint
theorem nT (s1:(List zI)) (s2:(List zI)) (eq:(zI->zI->Option Bool)):∀ (t17:Int) (o:Out Unit (Bool)),yT s1 s2 eq t17=some o->∀ {B}{I0 I:Imm}{Q p c p1 c1}{fv:Value}{aB:List HA},I0.le I->(S4 I p1 s2 c1)->(FV2 Tryz.prog I aB fv eq)->(S4 I p s1 c)->NG Q->NO Q->(∀ I',o=(.done ())->I0.le I'->T 32 B Q (.exit 0) I' aB [])->(∀ r I' af m',o=(.ret r)->I0.le I'->RS Tryz.prog f43 B (tK aB r) I' af m'->T 32 B Q .ret I' af m')->J Tryz.prog 32 B (nav (bodyOf f43) [1,1,0,1,0]) Q I aB [(1,vS p1 s2 c1),(2,fv),(15,vS p s1 c),(16,vI (s1.length:Int)),(17,vI t17)]:=by
 refine yT.partial_correctness s1 s2 eq _ fun aE ih t17 o N B I0 I Q p c p1 c1 fv aB H h1 h2 h hg ho hx hr=>yQ hg ho<|yH [18] rfl<|zZ<|yG N ?_ ?_
 · intro aH N;refine zS<|zZ<|yF<|yB<|yE 1 [] [19] rfl<|bE N fun x hy N=>xR rfl rfl h hy ?_;intro ad aL al aj;obtain ⟨p2,c2,p3,c3,rfl,h3,h4⟩:=wJ aj;refine xH 0 al (cPart x p2 c2 p3 c3) (vA (cPart x p2 c2 p3 c3)) rfl<|xU zTwo ?_;intro b hb;refine yE 5 [] [7] rfl<|dE 0 (cPart x p2 c2 p3 c3) (hB b (cPart x p2 c2 p3 c3)::aB) rfl rfl rfl rfl<|zX rfl<|yW<|yE 2 [] [22,23] rfl<|bE N fun x1 ay N=>xR rfl rfl h1 ay ?_;intro ad1 bm au ax;obtain ⟨p4,c4,p5,c5,rfl,h5,h6⟩:=wJ ax;refine xH 0 au (cPart x1 p4 c4 p5 c5) (vA (cPart x1 p4 c4 p5 c5)) rfl<|xU zTwo ?_;intro b1 hb1;refine dE 0 (cPart x1 p4 c4 p5 c5) (hB b1 (cPart x1 p4 c4 p5 c5)::hB b (cPart x p2 c2 p3 c3)::aB) rfl rfl rfl rfl<|zX rfl<|yW<|tL 3 [1,0] [(26,fv),(27,vA (cPart x p2 c2 p3 c3)),(28,vA (cPart x1 p4 c4 p5 c5))]<|bE N fun y aG N=>tX (af:=aB++[hB b1 (cPart x1 p4 c4 p5 c5),hB b (cPart x p2 c2 p3 c3)]) (eZ [hB b1 (cPart x1 p4 c4 p5 c5),hB b (cPart x p2 c2 p3 c3)] aB)<|zKt rfl rfl rfl h2 aG ⟨_,rfl,(uL ⟨_,_,rfl,h3,h4⟩)⟩ ⟨_,rfl,(uL ⟨_,_,rfl,h5,h6⟩)⟩ rfl ?_;rintro I0 v04 le rfl;refine tX (af:=(hB b1 (cPart x1 p4 c4 p5 c5)::hB b (cPart x p2 c2 p3 c3)::aB)) (eZ aB [hB b1 (cPart x1 p4 c4 p5 c5),hB b (cPart x p2 c2 p3 c3)]) ?_;have ⟨h1,h2,h,H⟩:=m4 le h1 h2 h H;refine yK [] [30] rfl<|zK<|yG N ?_ ?_
   · intro aY N;exact wT [(6,vF)]<|xF<|zV<|zJ<|zJ<|hr _ _ _ _ (zD N).symm H ⟨_,_,(resT rfl),(kY [hB b1 (cPart x1 p4 c4 p5 c5),hB b (cPart x p2 c2 p3 c3)] aB [] rfl (by decide)),⟨_,rfl,rfl,rfl⟩⟩
   intro aY N;exact zS<|zO<|zK<|zM<|yK [] [17] rfl<|yP<|pU (kY [hB b1 (cPart x1 p4 c4 p5 c5),hB b (cPart x p2 c2 p3 c3)] aB [] rfl (by decide))<|oT<|ih (W (t17+1)) _ N H h1 h2 h hg ho hx hr
 intro aH N;exact wP<|yU<|hx _  (zD N).symm H
def wH (s1:(List zI)) (s2:(List zI)) (eq:(zI->zI->Option Bool)):Option (Bool):=do
 if ((s1.length:Int) != (s2.length:Int)) then pure false
 else
  match<-yT s1 s2 eq 0 with
  | .ret r0=>pure r0
  | .done _ =>
   pure true
theorem mM:∀ s1 s2 eq r,wH s1 s2 eq=some r->∀ {I:Imm}{p c p1 c1}{fv:Value}{aB:List HA},(S4 I p s1 c)->(S4 I p1 s2 c1)->(FV2 Tryz.prog I aB fv eq)->RT 43 [vS p s1 c,vS p1 s2 c1,fv] I aB (tK aB r):=by
 intro s1 s2 eq r N I p c p1 c1 fv aB h h1 h2;unfold wH at N;refine yI func43 fun B=>wT []<|zZ<|yH [14] rfl<|zK<|yG N ?_ ?_
 · intro hc N;refine wT [(6,vF)]<|xF<|zJ ?_;exact xO N (resT rfl) (fun _ h=>h) ⟨_,rfl,rfl,rfl⟩
 intro hc N;refine zS<|zZ<|yH [15,16,17] rfl<|wI<|qR [(1,vS p1 s2 c1),(2,fv),(15,vS p s1 c),(16,vI (s1.length:Int)),(17,vI 0)] ?_;obtain ⟨o0,az,aF⟩:=zB N;refine nT s1 s2 eq 0 o0 az iR h1 h2 h nG nO ?_ ?_
 · intro aO  heq aa;subst o0;refine zR<|zD7 [(6,vY)]<|zK<|xA ?_;exact xO aF (resT rfl) (fun _ h=>h) ⟨_,rfl,rfl,rfl⟩
 intro r0 I9 hs9 m9 aS le9 aU;subst aS;refine zV<|zJ ?_;obtain rfl:=zD aF;exact fO aU
def qM (a0:zC) (b:zC):Option (Bool):=do
 let t4<-(do
   let y<-xZ a0.Arrays b.Arrays sX;if y then
    let y1<-wH a0.Parts b.Parts sY;pure (id y1)
   else
    pure false
     : Option Bool)
 pure (id t4)
theorem zBR:∀ a0 b r,qM a0 b=some r->∀ {I:Imm}{p c p1 c1 p2 c2 p3 c3},(S4 I p a0.Arrays c)->(S4 I p1 a0.Parts c1)->(S4 I p2 b.Arrays c2)->(S4 I p3 b.Parts c3)->RT 10 [vA (cProg a0 p c p1 c1),vA (cProg b p2 c2 p3 c3)] I [] (zT  r):=by
 intro a0 b r N I p c p1 c1 p2 c2 p3 c3 h h1 h2 h3;unfold qM at N;refine yI func10 fun B=>?_;have H:=iS I;refine yB<|vJ (cProg a0 p c p1 c1) ?_;intro b1 hb;refine vJ (cProg b p2 c2 p3 c3) ?_;intro b2 hb1;refine wR [] []<|vW [5] rfl<|vW [6] rfl<|zK<|yA ?_;refine wZ N [] (fun t4=>[(4,.bool t4)]) (fun o0 az=>?_) ?_
 · have H:=iS I;refine zM<|yE 5 [1,0] [8,10,11] rfl ?_;have hf0:FV2 Tryz.prog I [] (.func (.func 36) ⟨[]⟩ ⟨[]⟩) sX:=by
     refine FV2.intro ?_;intro I1 aa x0 x1 r u0 u1 hF k0 k1;obtain ⟨_,rfl,k0⟩:=k0;obtain ⟨p4,c4,rfl,h4⟩:=xP k0;obtain ⟨_,rfl,k1⟩:=k1;obtain ⟨p5,c5,rfl,h5⟩:=xP k1;exact (zDi x0 x1 r hF h4 h5).mono (by rintro k i hs u ⟨v0,rfl,rfl,h⟩; exact ⟨rfl,h⟩)
   obtain ⟨y,hy,N⟩:=zB az;refine xE (oV a0.Arrays b.Arrays sX _ hy h h2 hf0) ?_;rintro aO aw v2 k2 le - ⟨v02,rfl,rfl,rfl⟩ -;have ⟨h3,h,h1,H⟩:=m4 le h3 h h1 H;refine yE 7 [] [13] rfl<|wL [13] N ?_ ?_
   · intro hc N;refine yE 12 [1,0] [15,17,18] rfl ?_;have hf01:FV2 Tryz.prog aO [] (.func (.func 38) ⟨[]⟩ ⟨[]⟩) sY:=by
       refine FV2.intro ?_;intro I1 aa x0 x1 r u0 u1 hF k0 k1;obtain ⟨_,rfl,k0⟩:=k0;obtain ⟨p6,c6,p7,c7,rfl,h7,h8⟩:=wJ k0;obtain ⟨_,rfl,k1⟩:=k1;obtain ⟨p8,c8,p9,c9,rfl,h9,h10⟩:=wJ k1;exact (zDj x0 x1 r hF h7 h8 h9 h10).mono (by rintro k i hs u ⟨v0,rfl,rfl,h⟩; exact ⟨rfl,h⟩)
     obtain ⟨y1,ay,N⟩:=zB N;refine xE (mM a0.Parts b.Parts sY _ ay h1 h3 hf01) ?_;rintro aV aw v2 k2 aa - ⟨v07,rfl,rfl,rfl⟩ -;have H:=H.trans aa;exact yK [] [4] rfl<|wF zP<|yU<|zU (ct N H)
   intro hc N;exact wR [] [(4,vF)]<|wF zP<|yU<|zU (ct N H)
 intro t4 I0 aA aT;refine zK<|xA ?_;obtain rfl:=zD aT;exact vV
def oQ (p:zC):Option ((List zN)):=do
 let (y1,y2)<-tQ p;if (!y2) then pure ([]:List zN)
 else pure (id y1)
theorem zC1:∀ p r,oQ p=some r->∀ {I:Imm}{p1 c p2 c1},(S4 I p1 p.Arrays c)->(S4 I p2 p.Parts c1)->RT 13 [vA (cProg p p1 c p2 c1)] I [] (zAn  r):=by
 intro p r N I p1 c p2 c1 h h1;unfold oQ at N;refine yI func13 fun B=>yB<|vJ (cProg p p1 c p2 c1) ?_;intro b hb;refine wR [] []<|yW<|tL 1 [0] [(6,vA (cProg p p1 c p2 c1))] ?_;obtain ⟨⟨y1,y2⟩,hy,N⟩:=zB N;refine xE (gG p _ hy h h1) ?_;rintro I0 aw v2 k2 le - ⟨v0,v01,rfl,rfl,h2,rfl⟩ -;obtain ⟨p3,c2,rfl⟩:=h2.form;refine yK [] [3,4] rfl<|zZ<|yH [11] rfl<|zK<|yG N ?_ ?_
 · intro hc N;refine wT [(2,z0)]<|xF<|zJ ?_;exact xO N (resT rfl) zP ⟨_,rfl,rfl,(SL.nil _)⟩
 intro hc N;refine zS<|vW [2] rfl<|zK<|xA ?_;exact xO N (resT rfl) zP ⟨_,rfl,rfl,h2⟩
def zBs (r:(List Int)×Int):KT:=fun kk I' af v=>
  ∃ v0 v1,af=[]/\v=tupV [v0,v1]/\SL I' v0 r.1/\v1=.int .i64 r.2
def uY (p:zC) (x:zN) (y1:(List zG)) (out:List Int) (t17:Int):Option (List Int):=do
 if (decide (t17<(y1.length:Int))) then
  let x1<-idx y1 t17;let y2<-rV p x1 x.Point;let ap<-app 8 out ([y2]:List Int);uY p x y1 ap (W (t17+1))
 else pure (id out)
 partial_fixpoint
theorem zBi (p:zC) (x:zN) (y1:(List zG)):∀ (out:List Int) (t17:Int) (o:List Int),uY p x y1 out t17=some o->∀ {B}{I0 I:Imm}{Q}{y:zL}{p1 c p2 c1 p3 c2}{b b1}{p4 c3 p5 c4 p6 c5 p7 c6}{b2}{p8 c7 av p9 c8 aP},I0.le I->(RL I av y1)->(S4 I p4 y.Write.Subs c3)->(S4 I p5 y.Value.Index.Coefs c4)->(S4 I p6 y.Value.Read.Subs c5)->(S4 I p7 y.Value.Kids c6)->(S4 I p3 x.Point c2)->(S4 I p1 p.Arrays c)->(S4 I p2 p.Parts c1)->(RL I aP out)->NG Q->NO Q->(∀ I' ah aQ c9 aI,o=ah->I0.le I'->(RL I' aI ah)->T 37 B Q (.exit 0) I' [hO Int (vS aQ ah c9) aI,hB b2 (cStmt y p4 c3 p5 c4 p6 c5 p7 c6),hB b1 (cInst x p3 c2),hB b (cProg p p1 c p2 c1)] [(2,vP b 0),(3,vP b1 0),(6,vP b2 0),(7,vS aQ ah c9)])->J Tryz.prog 37 B (nav (bodyOf f82) [1,1,1,0,1,0]) Q I [hO Int (vS p9 out c8) aP,hO zG (vS p8 y1 c7) av,hB b2 (cStmt y p4 c3 p5 c4 p6 c5 p7 c6),hB b1 (cInst x p3 c2),hB b (cProg p p1 c p2 c1)] [(2,vP b 0),(3,vP b1 0),(6,vP b2 0),(7,vS p9 out c8),(15,vS p8 y1 c7),(16,vI (y1.length:Int)),(17,vI t17)]:=by
 refine uY.partial_correctness p x y1 _ fun aE ih out t17 o N B I0 I Q y p1 c p2 c1 p3 c2 b b1 p4 c3 p5 c4 p6 c5 p7 c6 b2 p8 c7 av p9 c8 aP H h8 h4 h5 h6 h7 h2 h h1 h10 hg ho hx=>yQ hg ho<|yH [18] rfl<|zZ<|yG N ?_ ?_
 · intro hc N;refine zS<|zZ<|yF<|yB<|bE N fun x1 aG N=>mA 1 rfl rfl rfl h8 aG ?_;intro ad aL al bG aj;obtain ⟨aJ,aM,rfl,h12⟩:=uK aj;refine zCR 1 0 al bG (cAccess x1 aJ aM) (vA (cAccess x1 aJ aM)) rfl rfl<|xU [vT ([]),z0] ?_;intro b3 hb3;refine yY 0 (cAccess x1 aJ aM) rfl<|zX rfl<|zK<|zM<|tL 5 [5,0,4] [(21,vS p9 out c8),(22,vA (cProg p p1 c p2 c1)),(23,vA (cAccess x1 aJ aM)),(25,vS p3 x.Point c2)]<|bE N fun y2 bc N=>dP (gU p x1 x.Point _ bc h h1 h12 h2) ?_;intro aV aA;have ⟨h8,h10,h4,h5,h6,h7⟩:=m6 aA h8 h10 h4 h5 h6 h7;have ⟨h2,h,h1,H⟩:=m4 aA h2 h h1 H;refine uV [vI y2] Int ?_;intro b4 hb4;have h14:RL aV [vI y2] ([y2]:List Int):=rI [y2];obtain ⟨ap,bu,N⟩:=zB N;exact rF 3 1 2 rfl rfl rfl h10 (.inr ⟨0,rfl⟩) h14 bu fun br aW bo h15=>tX (zY [1,2,3,4,5,6] (af:=[hB b3 (cAccess x1 aJ aM),hO Int (vS br ap aW) bo,hO zG (vS p8 y1 c7) av,hB b2 (cStmt y p4 c3 p5 c4 p6 c5 p7 c6),hB b1 (cInst x p3 c2),hB b (cProg p p1 c p2 c1)]))<|yK [] [7] rfl<|zO<|zK<|zM<|yK [] [17] rfl<|yP<|pU (zW [1,2,3,4,5] rfl (by decide))<|oT<|ih ap (W (t17+1)) _ N H h8 h4 h5 h6 h7 h2 h h1 h15 hg ho hx
 intro hc N;exact wP<|wF (zW [0,2,3,4] rfl (by decide))<|yU<|hx _ _ _ _ _ (zD N).symm H h10
def nU (p:zC) (x:zN):Option ((List Int)×Int):=do
 let y<-pM p x;let y1<-jI y.Value;let ah<-uY p x y1 ([]:List Int) 0;let y3<-rV p y.Write x.Point;pure (ah,y3)
theorem zCs:∀ p x r,nU p x=some r->∀ {I:Imm}{p1 c p2 c1 p3 c2},(S4 I p1 p.Arrays c)->(S4 I p2 p.Parts c1)->(S4 I p3 x.Point c2)->RT 82 [vA (cProg p p1 c p2 c1),vA (cInst x p3 c2)] I [] (zBs  r):=by
 intro p x r N I p1 c p2 c1 p3 c2 h h1 h2;unfold nU at N;refine yI func82 fun B=>yB<|vJ (cProg p p1 c p2 c1) ?_;intro b hb;refine vJ (cInst x p3 c2) ?_;intro b1 hb1;refine wR [] []<|yW<|tL 2 [1,0] [(10,vA (cProg p p1 c p2 c1)),(11,vA (cInst x p3 c2))]<|bE N fun y hy N=>xE (zBF p x _ hy h h1 h2) ?_;rintro I0 aw v2 k2 le - ⟨v0,rfl,rfl,⟨cs,rfl,h3⟩⟩ -;have ⟨h2,h,h1⟩:=m3 le h2 h h1;obtain ⟨p4,c3,p5,c4,p6,c5,p7,c6,rfl,h4,h5,h6,h7⟩:=wV h3;refine xU [vT ([]),z0,vI 0,vI 0,z0,vI 0,vT ([]),z0,z0] ?_;intro b2 hb2;refine yY 0 (cStmt y p4 c3 p5 c4 p6 c5 p7 c6) rfl<|zX rfl<|zD7 [(7,z0)]<|zZ<|yB<|tL 2 [0] [(14,vA (cExpr y.Value p5 c4 p6 c5 p7 c6))]<|bE N fun y1 ay N=>xE (zCW y.Value _ ay h5 h6 h7) ?_;rintro aO aw v2 k2 aa - ⟨p8,c7,av,rfl,rfl,h8⟩ -;have ⟨h4,h5,h6,h7,h2,h⟩:=m6 aa h4 h5 h6 h7 h2 h;have h1:=h1.mono aa;refine yK [] [16,17] rfl<|wI<|qR [(2,vP b 0),(3,vP b1 0),(6,vP b2 0),(7,z0),(15,vS p8 y1 c7),(16,vI (y1.length:Int)),(17,vI 0)]<|zA6 Int fun h9=>?_;obtain ⟨o0,az,aF⟩:=zB N;refine zBi p x y1 ([]:List Int) 0 o0 az iR h8 h4 h5 h6 h7 h2 h h1 h9 nG nO ?_;intro bx ah aQ c9 aI heq aK h11;subst o0;have ⟨h4,h2,h,h1⟩:=m4 aK h4 h2 h h1;refine zR<|yW<|tL 6 [3,1,2] [(30,vS aQ ah c9),(31,vA (cProg p p1 c p2 c1)),(33,vA (cAccess y.Write p4 c3)),(35,vS p3 x.Point c2)] ?_;obtain ⟨y3,bz,N⟩:=zB aF;refine dP (gU p y.Write x.Point _ bz h h1 h4 h2) ?_;intro bD aX;have h11:=iM aX h11;refine yK [] [4,5] rfl<|xF<|xB 0 rfl ?_;intro bI bf hl0;have h17:=SL.of_frozen hl0 bf h11;exact xO N (resU rfl rfl) zP ⟨_,_,rfl,rfl,h17,rfl⟩
def zHr (r:(Option uS)×Bool):KT:=fun kk I' af v=>
  ∃ v0 v1,af=[]/\v=tupV [v0,v1]/\FP I' v0 r.1/\v1=.bool r.2
def jD (p:zC) (y1:(List zN)) (t24:Int) (reads:List (List Int)) (writes:List Int):Option ((List (List Int)×List Int)):=do
 if (decide (t24<(y1.length:Int))) then
  let x<-idx y1 t24;let (y4,y5)<-nU p x;let l<-app 24 reads ([y4]:List (List Int));let l1<-app 8 writes ([y5]:List Int);jD p y1 (W (t24+1)) l l1
 else pure (reads,writes)
 partial_fixpoint
theorem zHM (p:zC) (y1:(List zN)):∀ (t24:Int) (reads:List (List Int)) (writes:List Int) (o:(List (List Int)×List Int)),jD p y1 t24 reads writes=some o->∀ {B}{I0 I:Imm}{Q p1 c p2 c1}{b}{p3 c2}{b1}{p4 c3 cs p5 c4 av},I0.le I->(S4 I p3 y1 c2)->(S4 I p1 p.Arrays c)->(S4 I p2 p.Parts c1)->(RL I cs reads)->(RL I av writes)->NG Q->NO Q->(∀ I' reads1 writes1 p6 c5 aP p7 c6 aI,o=(reads1,writes1)->I0.le I'->(RL I' aP reads1)->(RL I' aI writes1)->T 56 B Q (.exit 0) I' [hO Int (vS p7 writes1 c6) aI,hO (List Int) (vS p6 reads1 c5) aP,hB b1 [vS p1 p.Arrays c,vS p2 p.Parts c1,vS p3 y1 c2,vS p6 reads1 c5,vS p7 writes1 c6]] [(6,vP b1 0)])->J Tryz.prog 56 B (nav (bodyOf f45) [1,1,1,1,0,1,0]) Q I [hO Int (vS p5 writes c4) av,hO (List Int) (vS p4 reads c3) cs,hB b1 [vS p1 p.Arrays c,vS p2 p.Parts c1,vS p3 y1 c2,vS p4 reads c3,vS p5 writes c4],hB b (cProg p p1 c p2 c1)] [(1,vP b 0),(6,vP b1 0),(22,vS p3 y1 c2),(23,vI (y1.length:Int)),(24,vI t24)]:=by
 refine jD.partial_correctness p y1 _ fun aE ih t24 reads writes o N B I0 I Q p1 c p2 c1 b p3 c2 b1 p4 c3 cs p5 c4 av H h2 h h1 h6 h7 hg ho hx=>yQ hg ho<|yH [25] rfl<|zZ<|yG N ?_ ?_
 · intro aH N;refine zS<|zZ<|yF<|yB<|bE N fun x ay N=>xR rfl rfl h2 ay ?_;intro ad aL al aj;obtain ⟨p8,c7,rfl,h10⟩:=fQ aj;refine xH 0 al (cInst x p8 c7) (vA (cInst x p8 c7)) rfl<|xU [vI 0,vI 0,z0] ?_;intro b2 hb2;refine yY 0 (cInst x p8 c7) rfl<|zX rfl<|yW<|tL 2 [4,0] [(29,vA (cProg p p1 c p2 c1)),(30,vA (cInst x p8 c7))] ?_;obtain ⟨⟨y4,y5⟩,aG,N⟩:=zB N;refine xE (zCs p x _ aG h h1 h10) ?_;rintro aO aw v2 k2 aa - ⟨v03,v04,rfl,rfl,h11,rfl⟩ -;have ⟨h2,h7,h6,h,h1,H⟩:=m6 aa h2 h7 h6 h h1 H;obtain ⟨p9,c8,rfl⟩:=h11.form;refine yK [] [9,10] rfl<|zK ?_;obtain ⟨l,bc,N⟩:=zB N;obtain ⟨l1,bu,N⟩:=zB N;refine wO [.p (vP b1 0) [],.p (vP b1 0) [],.p (vP b1 0) [],.p (vP b1 0) [],.p (vP b1 3) [],.q (vS p4 reads c3),.p (vS p9 y4 c8) [],.x (fun I' v hx=>∃ b3,v=vS (some ⟨b3,0,none⟩) ([y4]:List (List Int)) 1/\hx=[]/\(SL I' (vS (some ⟨b3,0,none⟩) ([y4]:List (List Int)) 1) ([y4]:List (List Int)))),.x (fun I' v hx=>∃ aQ c9 bo,v=vS aQ l c9/\hx=[hO (List Int) (vS aQ l c9) bo]/\(RL I' bo l)),.p (vP b1 0) [],.p (vP b1 0) [],.p (vP b1 4) [],.q (vS p5 writes c4),.p (vI y5) [],.x (fun I' v hx=>∃ b4,v=vS (some ⟨b4,0,none⟩) ([y5]:List Int) 1/\hx=[]/\(SL I' (vS (some ⟨b4,0,none⟩) ([y5]:List Int) 1) ([y5]:List Int))),.x (fun I' v hx=>∃ aJ aM bv,v=vS aJ l1 aM/\hx=[hO Int (vS aJ l1 aM) bv]/\(RL I' bv l1)),.p (vP b1 0) [],.p (vP b1 3) [],.x (fun I' v hx=>∃ p101 c91 cs41,hx=[hB b1 [vS p1 p.Arrays c,vS p2 p.Parts c1,vS p3 y1 c2,vS p101 l c91,vS p5 writes c4],hO (List Int) (vS p101 l c91) cs41]/\(RL I' cs41 l))] [[],[],[],[(2,false)],[(3,false)],[(4,false),(24,false)],[],[(6,false)],[(5,false),(7,false),(22,true)],[],[(9,false)],[(10,false)],[(11,false),(24,false)],[],[(13,false)],[(12,false),(14,false),(23,true)],[(0,false)],[(16,false)],[(8,true),(17,false),(24,true)]] [hB b2 (cInst x p8 c7),hB b (cProg p p1 c p2 c1)] [[hO (List Int) (vS p4 reads c3) cs],[hO Int (vS p5 writes c4) av],[hB b1 [vS p1 p.Arrays c,vS p2 p.Parts c1,vS p3 y1 c2,vS p4 reads c3,vS p5 writes c4]]] [(1,false),(15,true),(18,true)] (zY [0,4,2,1,3]) ?_ ?_
   · refine O4<|Op<|Ob ?_<|Op<|Ox ?_<|Ox ?_<|O3<|Ob ?_<|Op<|Ox ?_<|Ox ?_<|O2<|Ox ?_<|On
     · intro I1 hf aa hbo;obtain ⟨hf2,hbp⟩:=hbo.at (j:=24) (g:=[hB b1 [vS p1 p.Arrays c,vS p2 p.Parts c1,vS p3 y1 c2,vS p4 reads c3,vS p5 writes c4]]) (by decide) (by kernel_rfl) rfl;refine wS ?_;rintro _ _ ⟨rfl,rfl⟩;refine wS ?_;rintro _ _ rfl;refine qS<|zPW hbp<|zAp [(38,vP b1 3)] ?_;exact zEv (cs:=[vS p4 reads c3]) (v:=vS p4 reads c3) 2 rfl rfl rfl rfl rfl (by kernel_rfl) (by kernel_rfl) (by kernel_rfl)<|xD iR
     · intro I1 hf aa;refine yX [40] rfl ?_;have H:=iS I1;have h11:=h11.mono aa;refine mG (rc y4 ⟨_,rfl,h11⟩ rN) ?_;intro b3 aV aA h14;have H:=H.trans aA;exact yL [] H ⟨_,rfl,rfl,h14⟩
     · rintro I1 hf aa _ _ ⟨rfl,rfl⟩ _ _ ⟨b3,rfl,rfl,h14⟩ _ _ rfl;refine yX [39,41] rfl ?_;have h6:=iM aa h6;obtain ⟨bm,k0,k01⟩:=h14;have h14:SL I1 (vS (some ⟨b3,0,none⟩) ([y4]:List (List Int)) 1) ([y4]:List (List Int)):=⟨_,k0,k01⟩;exact rF 39 1 0 rfl rfl rfl h6 (.inl k0) k01 bc fun aQ c9 bo h15=>wX (af:=(hO (List Int) (vS aQ l c9) bo::hB b2 (cInst x p8 c7)::hB b (cProg p p1 c p2 c1)::hf)) rfl<|yL [hO (List Int) (vS aQ l c9) bo] iR ⟨_,_,_,rfl,rfl,h15⟩
     · intro I1 hf aa hbo;obtain ⟨hf2,hbp⟩:=hbo.at (j:=24) (g:=[hB b1 [vS p1 p.Arrays c,vS p2 p.Parts c1,vS p3 y1 c2,vS p4 reads c3,vS p5 writes c4]]) (by decide) (by kernel_rfl) rfl;refine wS ?_;rintro _ _ ⟨rfl,rfl⟩;refine wS ?_;rintro _ _ rfl;refine qS<|zPW hbp<|zAp [(45,vP b1 4)] ?_;exact zEv (cs:=[vS p5 writes c4]) (v:=vS p5 writes c4) 2 rfl rfl rfl rfl rfl (by kernel_rfl) (by kernel_rfl) (by kernel_rfl)<|xD iR
     · intro I1 hf aa;refine yX [47] rfl ?_;have H:=iS I1;refine mG (rI [y5]) ?_;intro b4 bx aK h17;have H:=H.trans aK;exact yL [] H ⟨_,rfl,rfl,h17⟩
     · rintro I1 hf aa _ _ ⟨rfl,rfl⟩ _ _ ⟨b4,rfl,rfl,h17⟩ _ _ rfl;refine yX [46,48] rfl ?_;have h7:=iM aa h7;obtain ⟨bK,k02,k03⟩:=h17;have h17:SL I1 (vS (some ⟨b4,0,none⟩) ([y5]:List Int) 1) ([y5]:List Int):=⟨_,k02,k03⟩;exact rF 3 1 0 rfl rfl rfl h7 (.inl k02) k03 bu fun aJ aM bv h18=>wX (af:=(hO Int (vS aJ l1 aM) bv::hB b2 (cInst x p8 c7)::hB b (cProg p p1 c p2 c1)::hf)) rfl<|yL [hO Int (vS aJ l1 aM) bv] iR ⟨_,_,_,rfl,rfl,h18⟩
     rintro I1 hf aa _ _ ⟨aQ,c9,bo,rfl,rfl,h15⟩ _ _ ⟨rfl,rfl⟩ _ _ rfl;refine yX [42,51] rfl ?_;have H:=iS I1;exact dE 0 [vS p1 p.Arrays c,vS p2 p.Parts c1,vS p3 y1 c2,vS aQ l c9,vS p5 writes c4] (hB b1 [vS p1 p.Arrays c,vS p2 p.Parts c1,vS p3 y1 c2,vS aQ l c9,vS p5 writes c4]::hO (List Int) (vS aQ l c9) bo::hB b2 (cInst x p8 c7)::hB b (cProg p p1 c p2 c1)::hf) rfl rfl rfl rfl<|zFl (hx:=[hB b1 [vS p1 p.Arrays c,vS p2 p.Parts c1,vS p3 y1 c2,vS aQ l c9,vS p5 writes c4],hO (List Int) (vS aQ l c9) bo]) rfl H rfl (zFm (v:=undef)) ⟨_,_,_,rfl,h15⟩
   rintro bD aX _ _ ⟨rfl,rfl⟩ _ _ ⟨aJ,aM,bv,rfl,rfl,h18⟩ _ _ ⟨p101,c91,cs41,rfl,h151⟩;refine yX [1,6,22,23,24,35,49] rfl ?_;have ⟨h2,h,h1,H⟩:=m4 aX h2 h h1 H;exact yE 21 [] [53] rfl<|yY 0 [vS p1 p.Arrays c,vS p2 p.Parts c1,vS p3 y1 c2,vS p101 l c91,vS aJ l1 aM] rfl<|zX rfl<|zO<|zK<|zM<|yK [] [24] rfl<|yP<|pU (zW [2,1,0,4] rfl (by decide))<|oT<|ih (W (t24+1)) l l1 _ N H h2 h h1 h151 h18 hg ho hx
 intro aH N;exact wP<|wF (zW [0,1,2] rfl (by decide))<|yU<|hx _ _ _ _ _ _ _ _ _ (zD N).symm H h6 h7
def zAO (p:zC):Option ((Option uS)×Bool):=do
 let (y1,y2)<-tQ p;if (!y2) then pure (none,false)
 else
  let (reads1,writes1)<-jD p y1 0 ([]:List (List Int)) ([]:List Int);pure ((some (uS.mk p y1 reads1 writes1)),true)
theorem zEr:∀ p r,zAO p=some r->∀ {I:Imm}{p1 c p2 c1},(S4 I p1 p.Arrays c)->(S4 I p2 p.Parts c1)->RT 45 [vA (cProg p p1 c p2 c1)] I [] (zHr  r):=by
 intro p r N I p1 c p2 c1 h h1;unfold zAO at N;refine yI func45 fun B=>yB<|vJ (cProg p p1 c p2 c1) ?_;intro b hb;refine wR [] []<|yW<|tL 1 [0] [(12,vA (cProg p p1 c p2 c1))] ?_;obtain ⟨⟨y1,y2⟩,hy,N⟩:=zB N;refine xE (gG p _ hy h h1) ?_;rintro I0 aw v2 k2 le - ⟨v0,v01,rfl,rfl,h2,rfl⟩ -;have ⟨h,h1⟩:=m2 le h h1;obtain ⟨p3,c2,rfl⟩:=h2.form;refine yK [] [4,5] rfl<|zZ<|yH [17] rfl<|zK<|yG N ?_ ?_
 · intro hc N;refine yH [2,3] rfl<|xF<|zJ ?_;exact xO N (resU rfl rfl) zP ⟨_,_,rfl,rfl,zPg,rfl⟩
 intro hc N;refine zS<|yW<|tL 3 [0] [(20,vA [vS p1 p.Arrays c,vS p2 p.Parts c1,vS p3 y1 c2,z0,z0])]<|vJ [vS p1 p.Arrays c,vS p2 p.Parts c1,vS p3 y1 c2,z0,z0] ?_;intro b1 hb1;refine yK [] [6] rfl<|zZ<|yH [22,23,24] rfl<|wI<|qR [(1,vP b 0),(6,vP b1 0),(22,vS p3 y1 c2),(23,vI (y1.length:Int)),(24,vI 0)]<|zA6 (List Int) fun h4=>?_;refine zA6 Int fun h5=>?_;obtain ⟨o0,az,aF⟩:=zB N;refine zHM p y1 0 ([]:List (List Int)) ([]:List Int) o0 az iR h2 h h1 h4 h5 nG nO ?_;intro bI reads1 writes1 p6 c5 aP p7 c6 aI heq bf h8 h9;subst o0;have ⟨h,h1,h2⟩:=m3 bf h h1 h2;refine zR<|vW [2,3] rfl<|xF<|xB 1 rfl ?_;intro I06 bt hl02;have h19:=SL.of_frozen hl02 bt h8;have ⟨h9,h,h1,h2⟩:=m4 bt h9 h h1 h2;refine xB 0 rfl ?_;intro I07 le7 hl03;have h20:=SL.of_frozen hl03 le7 h9;have ⟨h,h1,h2,h19⟩:=m4 le7 h h1 h2 h19;refine xB 0 rfl ?_;intro I08 le8 hl04;have au:At I08 ⟨b1,0,none⟩ [vS p1 p.Arrays c,vS p2 p.Parts c1,vS p3 y1 c2,vS p6 reads1 c5,vS p7 writes1 c6]:=At.of_blk hl04;have ⟨h,h1,h2,h19,h20⟩:=m5 le8 h h1 h2 h19 h20;exact xO aF (resU rfl rfl) zP ⟨_,_,rfl,rfl,(zQK au (zGm ⟨_,_,_,_,_,rfl,h,h1,h2,h19,h20⟩)),rfl⟩
def tU (t:uS) (x1:Int) (from0:Int):Option (Int):=do
 let t35<-(do
   if (decide (from0>=0)) then
    let x2<-idx t.writes from0;pure (x2 != x1)
   else
    pure false
     : Option Bool)
 if t35 then tU t x1 (W (from0 - 1))
 else pure (id from0)
 partial_fixpoint
theorem zBt (t:uS) (x1:Int):∀ (from0:Int) (o:Int),tU t x1 from0=some o->∀ {B}{I0 I:Imm}{Q}{to0:Int}{x:(List Int)}{out:List Int}{t17:Int}{ad:Addr}{p c p1 c1 p2 c2 p3 c3 p4 c4 p5 c5 p6 c6 cs},I0.le I->(S4 I p t.Program.Arrays c)->(S4 I p1 t.Program.Parts c1)->(S4 I p2 t.list c2)->(S4 I p3 t.reads c3)->(S4 I p4 t.writes c4)->(At I ad [vS p t.Program.Arrays c,vS p1 t.Program.Parts c1,vS p2 t.list c2,vS p3 t.reads c3,vS p4 t.writes c4])->(RL I cs out)->(S4 I p5 x c5)->NG Q->NO Q->(∀ I' from01,o=from01->I0.le I'->T 44 B Q (.exit 2) I' [hO Int (vS p6 out c6) cs] [(0,.pointer (some ad)),(1,vI to0),(5,vS p6 out c6),(8,vI from01),(15,vS p5 x c5),(16,vI (x.length:Int)),(17,vI t17)])->J Tryz.prog 44 B (nav (bodyOf f47) [1,1,0,1,0,0,1,1,0,0,1,1,0,0]) Q I [hO Int (vS p6 out c6) cs] [(0,.pointer (some ad)),(1,vI to0),(5,vS p6 out c6),(7,vI x1),(8,vI from0),(15,vS p5 x c5),(16,vI (x.length:Int)),(17,vI t17)]:=by
 refine tU.partial_correctness t x1 _ fun aE ih from0 o N B I0 I Q to0 x out t17 ad p c p1 c1 p2 c2 p3 c3 p4 c4 p5 c5 p6 c6 cs H h h1 h2 h3 h4 al h7 h5 hg ho hx=>yQ hg ho<|yA<|yA ?_;refine wZ N [hO Int (vS p6 out c6) cs] (fun t35=>[(0,.pointer (some ad)),(1,vI to0),(5,vS p6 out c6),(7,vI x1),(8,vI from0),(15,vS p5 x c5),(16,vI (x.length:Int)),(17,vI t17),(35,.bool t35)]) (fun o0 az=>?_) ?_
 · have H:=iS I;refine zM<|yE 3 [] [25] rfl<|wL [25] az ?_ ?_
   · intro aH N;refine yE 6 [] [28] rfl<|xH 4 al [vS p4 t.writes c4] (vS p4 t.writes c4) rfl<|yE 8 [] [30] rfl<|bE N fun x2 aG N=>xR rfl rfl h4 aG ?_;intro ad3 bK hat3 bq;obtain rfl:=bq;exact xH 0 hat3 [vI x2] (vI x2) rfl<|yK [] [35] rfl<|yU<|zU (ct N H)
   intro aH N;exact wR [] [(35,vF)]<|yU<|zU (ct N H)
 intro t35 I0 le aT;have ⟨h,h1,h2,h3,h4,al⟩:=m6 le h h1 h2 h3 h4 al;have ⟨h7,h5,H⟩:=m3 le h7 h5 H;refine zK<|yG aT ?_ ?_
 · intro aY N;exact zS<|wI<|zM<|yK [] [8] rfl<|zO<|yP<|oT<|ih (W (from0 - 1)) _ N H h h1 h2 h3 h4 al h7 h5 hg ho hx
 intro aY N;exact wP<|yU<|hx _ _ (zD N).symm H
def tV (t:uS) (to0:Int) (x:(List Int)) (out:List Int) (t17:Int):Option (List Int):=do
 if (decide (t17<(x.length:Int))) then
  let x1<-idx x t17;let from01<-tU t x1 (W (to0 - 1));let ap<-app 8 out ([from01]:List Int);tV t to0 x ap (W (t17+1))
 else pure (id out)
 partial_fixpoint
theorem zBu (t:uS) (to0:Int) (x:(List Int)):∀ (out:List Int) (t17:Int) (o:List Int),tV t to0 x out t17=some o->∀ {B}{I0 I:Imm}{Q}  {ad:Addr}{p c p1 c1 p2 c2 p3 c3 p4 c4 p5 c5 p6 c6 cs},I0.le I->(S4 I p t.Program.Arrays c)->(S4 I p1 t.Program.Parts c1)->(S4 I p2 t.list c2)->(S4 I p3 t.reads c3)->(S4 I p4 t.writes c4)->(At I ad [vS p t.Program.Arrays c,vS p1 t.Program.Parts c1,vS p2 t.list c2,vS p3 t.reads c3,vS p4 t.writes c4])->(S4 I p5 x c5)->(RL I cs out)->NG Q->NO Q->(∀ I' ah p7 c7 av,o=ah->I0.le I'->(RL I' av ah)->T 44 B Q (.exit 0) I' [hO Int (vS p7 ah c7) av] [(5,vS p7 ah c7)])->J Tryz.prog 44 B (nav (bodyOf f47) [1,1,0,1,0]) Q I [hO Int (vS p6 out c6) cs] [(0,.pointer (some ad)),(1,vI to0),(5,vS p6 out c6),(15,vS p5 x c5),(16,vI (x.length:Int)),(17,vI t17)]:=by
 refine tV.partial_correctness t to0 x _ fun aE ih out t17 o N B I0 I Q ad p c p1 c1 p2 c2 p3 c3 p4 c4 p5 c5 p6 c6 cs H h h1 h2 h3 h4 al h5 h7 hg ho hx=>yQ hg ho<|yH [18] rfl<|zZ<|yG N ?_ ?_
 · intro hc N;refine zS<|zZ<|yF<|yB<|bE N fun x1 ay N=>xR rfl rfl h5 ay ?_;intro ad2 bm bk ax;obtain rfl:=ax;refine xH 0 bk [vI x1] (vI x1) rfl<|yK [] [7] rfl<|vW [8] rfl<|zZ<|yF<|qR [(0,.pointer (some ad)),(1,vI to0),(5,vS p6 out c6),(7,vI x1),(8,vI (W (to0 - 1))),(15,vS p5 x c5),(16,vI (x.length:Int)),(17,vI t17)] ?_;obtain ⟨aN,aC,aF⟩:=zB N;refine zBt t x1 (W (to0 - 1)) aN aC iR h h1 h2 h3 h4 al h7 h5 (fun _ _ _ h=>hg _ _ _ h) (fun _ _ h=>ho _ _ h) ?_;intro aO from01 heq1 aa;subst aN;have ⟨h,h1,h2,h3,h4,al⟩:=m6 aa h h1 h2 h3 h4 al;have ⟨h7,h5,H⟩:=m3 aa h7 h5 H;refine zR<|zK<|zM<|yE 2 [] [38,39] rfl<|uV [vI from01] Int ?_;intro b hb;have h9:RL aO [vI from01] ([from01]:List Int):=rI [from01];obtain ⟨ap,bc,N⟩:=zB aF;exact rF 3 1 1 rfl rfl rfl h7 (.inr ⟨0,rfl⟩) h9 bc fun p8 c8 aP h10=>tX (zY [1] (af:=[hO Int (vS p8 ap c8) aP]))<|yK [] [5] rfl<|zO<|zK<|zM<|yK [] [17] rfl<|yP<|oT<|ih ap (W (t17+1)) _ N H h h1 h2 h3 h4 al h5 h10 hg ho hx
 intro hc N;exact wP<|yU<|hx _ _ _ _ _ (zD N).symm H h7
def mN (t:uS) (to0:Int):Option ((List Int)):=do
 let x<-idx t.reads to0;let ah<-tV t to0 x ([]:List Int) 0;pure (id ah)
theorem zDV:∀ t to0 r,mN t to0=some r->∀ {I:Imm}{ad:Addr}{p c p1 c1 p2 c2 p3 c3 p4 c4},(S4 I p t.Program.Arrays c)->(S4 I p1 t.Program.Parts c1)->(S4 I p2 t.list c2)->(S4 I p3 t.reads c3)->(S4 I p4 t.writes c4)->(At I ad [vS p t.Program.Arrays c,vS p1 t.Program.Parts c1,vS p2 t.list c2,vS p3 t.reads c3,vS p4 t.writes c4])->RT 47 [.pointer (some ad),vI to0] I [] (zCN  r):=by
 intro t to0 r N I ad p c p1 c1 p2 c2 p3 c3 p4 c4 h h1 h2 h3 h4 al;unfold mN at N;refine yI func47 fun B=>wT []<|zD7 [(5,z0)]<|zZ<|yB<|yE 3 [] [11] rfl<|xH 3 al [vS p3 t.reads c3] (vS p3 t.reads c3) rfl<|yE 5 [] [13] rfl<|bE N fun x hy N=>xR rfl rfl h3 hy ?_;intro ad1 aL au aj;obtain ⟨v0,rfl,h5⟩:=aj;obtain ⟨p5,c5,rfl⟩:=h5.form;refine xH 0 au [vS p5 x c5] (vS p5 x c5) rfl<|yK [] [16,17] rfl<|wI<|qR [(0,.pointer (some ad)),(1,vI to0),(5,z0),(15,vS p5 x c5),(16,vI (x.length:Int)),(17,vI 0)]<|zA6 Int fun h6=>?_;obtain ⟨o02,ho02,hMl1⟩:=zB N;refine zBu t to0 x ([]:List Int) 0 o02 ho02 iR h h1 h2 h3 h4 al h5 h6 nG nO ?_;intro aV ah p7 c7 av heq2 aA h8;subst o02;refine zR<|vW [4] rfl<|xF<|xB 0 rfl ?_;intro bx aK hl0;have h11:=SL.of_frozen hl0 aK h8;exact xO hMl1 (resT rfl) zP ⟨_,rfl,rfl,h11⟩
def zDk (r:(List Int)×Bool):KT:=fun kk I' af v=>
  ∃ v0 v1,af=[]/\v=tupV [v0,v1]/\SL I' v0 r.1/\v1=.bool r.2
def kH (p:zC) (to0:Int):Option ((List Int)×Bool):=do
 let (y1,y2)<-zAO p;let t25<-(do
   if (!y2) then pure true
   else
    let t<-y1;let y3<-vG to0 0 (W ((t.list.length:Int) - 1));pure (!y3)
     : Option Bool)
 if t25 then pure (([]:List Int),false)
 else
  let t1<-y1;let y4<-mN t1 to0;pure (y4,true)
theorem zBS:∀ p to0 r,kH p to0=some r->∀ {I:Imm}{p1 c p2 c1},(S4 I p1 p.Arrays c)->(S4 I p2 p.Parts c1)->RT 14 [vA (cProg p p1 c p2 c1),vI to0] I [] (zDk  r):=by
 intro p to0 r N I p1 c p2 c1 h h1;unfold kH at N;refine yI func14 fun B=>?_;have H:=iS I;refine yB<|vJ (cProg p p1 c p2 c1) ?_;intro b hb;refine wR [] []<|yW<|tL 1 [0] [(9,vA (cProg p p1 c p2 c1))] ?_;obtain ⟨⟨y1,y2⟩,hy,N⟩:=zB N;refine xE (zEr p _ hy h h1) ?_;rintro I0 aw v2 k2 le - ⟨v0,v01,rfl,rfl,h2,rfl⟩ -;have H:=H.trans le;refine yK [] [6,7] rfl<|zZ<|yA ?_;refine wZ N [] (fun t25=>[(1,vI to0),(6,v0),(25,.bool t25)]) (fun o0 az=>?_) ?_
 · have H:=iS I0;refine zM<|yE 3 [] [15] rfl<|wL [15] az ?_ ?_
   · intro hc N;exact wR [] [(25,vY)]<|wF zP<|yU<|zU (ct N H)
   intro hc N;refine yE 5 [] [16,17] rfl ?_;obtain ⟨t,ay,N⟩:=zB N;obtain ⟨ad,aL,rfl,al,aj⟩:=zKJ h2 ay;obtain ⟨p3,c2,p4,c3,p5,c4,p6,c5,p7,c6,rfl,h4,h5,h6,h7,h8⟩:=zB5 aj;refine yE 7 [] [19] rfl<|xH 2 al [vS p5 t.list c4] (vS p5 t.list c4) rfl<|yE 10 [] [22] rfl<|bE N fun y3 aG N=>tH (uA to0 0 (W ((t.list.length:Int) - 1)) _ aG ) ?_;intro aV aa;have H:=H.trans aa;exact yK [] [25] rfl<|wF zP<|yU<|zU (ct N H)
 intro t25 aO aA aT;have h2:=h2.mono aA;refine zK<|yG aT ?_ ?_
 · intro aH N;refine yH [4,5] rfl<|xF<|zJ ?_;exact xO N (resU rfl rfl) zP ⟨_,_,rfl,rfl,(SL.nil _),rfl⟩
 intro aH N;refine zS<|yW<|yE 2 [] [26,27] rfl ?_;obtain ⟨t1,bc,N⟩:=zB N;obtain ⟨ad1,bm,rfl,au,ax⟩:=zKJ h2 bc;obtain ⟨p8,c7,p9,c8,aQ,c9,aJ,aM,br,aW,rfl,h10,h11,h12,h13,h14⟩:=zB5 ax;obtain ⟨y4,bu,N⟩:=zB N;refine xE (zDV t1 to0 _ bu h10 h11 h12 h13 h14 au) ?_;rintro bx aw v2 k2 aK - ⟨v013,rfl,rfl,h15⟩ -;obtain ⟨bh,bd,rfl⟩:=h15.form;refine yK [] [4,5] rfl<|zK<|xA ?_;exact xO N (resU rfl rfl) zP ⟨_,_,rfl,rfl,h15,rfl⟩
def kI (a0:(List Int)) (b:(List Int)) (i:Int):Option (Out Unit (Bool)):=do
 if (decide (i<(a0.length:Int))) then
  let x<-idx a0 i;let x1<-idx b i;if (x != x1) then pure (.ret false)
  else kI a0 b (W (i+1))
 else pure (.done ())
 partial_fixpoint
theorem zG1 (a0:(List Int)) (b:(List Int)):∀ (i:Int) (o:Out Unit (Bool)),kI a0 b i=some o->∀ {B}{I0 I:Imm}{Q p c p1 c1},I0.le I->(S4 I p a0 c)->(S4 I p1 b c1)->NG Q->NO Q->(∀ I',o=(.done ())->I0.le I'->T 26 B Q (.exit 0) I' [] [])->(∀ r I' af m',o=(.ret r)->I0.le I'->RS Tryz.prog f15 B (zT  r) I' af m'->T 26 B Q .ret I' af m')->J Tryz.prog 26 B (nav (bodyOf f15) [1,1,0,1,0]) Q I [] [(0,vS p a0 c),(1,vS p1 b c1),(5,vI i)]:=by
 refine kI.partial_correctness a0 b _ fun aE ih i o N B I0 I Q p c p1 c1 H h h1 hg ho hx hr=>yQ hg ho<|yA<|yH [14] rfl<|zK<|yG N ?_ ?_
 · intro aH N;refine zS<|zZ<|yF<|yA<|eI (by kernel_rfl) (by kernel_rfl)<|zAl 2 [] [17,18] rfl<|bE N fun x hy N=>zB3 rfl rfl h hy ?_;intro ad aL al aj;obtain rfl:=aj;refine zAz 0 al [vI x] (vI x) rfl<|zAl 6 [] [21,22] rfl<|bE N fun x1 ay N=>zB3 rfl rfl h1 ay ?_;intro ad1 bm au ax;obtain rfl:=ax;refine zAz 0 au [vI x1] (vI x1) rfl<|zKK [] [25] rfl<|zK<|yG N ?_ ?_
   · intro aY N;exact wT [(4,vF)]<|xF<|zV<|zJ<|zJ<|hr _ _ _ _ (zD N).symm H ⟨_,_,(resT rfl),zP,⟨_,rfl,rfl,rfl⟩⟩
   intro aY N;exact zS<|zO<|zK<|zM<|yK [] [5] rfl<|yP<|oT<|ih (W (i+1)) _ N H h h1 hg ho hx hr
 intro aH N;exact wP<|yU<|hx _  (zD N).symm H
def zA3 (a0:(List Int)) (b:(List Int)):Option (Bool):=do
 if ((a0.length:Int) != (b.length:Int)) then pure false
 else
  match<-kI a0 b 0 with
  | .ret r0=>pure r0
  | .done _ =>
   pure true
theorem zEL:∀ a0 b r,zA3 a0 b=some r->∀ {I:Imm}{p c p1 c1},(S4 I p a0 c)->(S4 I p1 b c1)->RT 15 [vS p a0 c,vS p1 b c1] I [] (zT  r):=by
 intro a0 b r N I p c p1 c1 h h1;unfold zA3 at N;refine yI func15 fun B=>wT []<|zZ<|yH [10] rfl<|zK<|yG N ?_ ?_
 · intro hc N;refine wT [(4,vF)]<|xF<|zJ ?_;obtain rfl:=zD N;exact vV
 intro hc N;refine zS<|zZ<|yH [5] rfl<|wI<|qR [(0,vS p a0 c),(1,vS p1 b c1),(5,vI 0)] ?_;obtain ⟨o0,az,aF⟩:=zB N;refine zG1 a0 b 0 o0 az iR h h1 nG nO ?_ ?_
 · intro I0  heq le;subst o0;refine zR<|zD7 [(4,vY)]<|zK<|xA ?_;obtain rfl:=zD aF;exact vV
 intro r0 I9 hs9 m9 aS le9 aU;subst aS;refine zV<|zJ ?_;obtain rfl:=zD aF;exact fO aU
def kJ (a0:(List wE)) (b:(List wE)) (i:Int):Option (Out Unit (Bool)):=do
 if (decide (i<(a0.length:Int))) then
  let x<-idx a0 i;let x1<-idx b i;if (!(x.From==x1.From&&(x.To==x1.To&&x.Kinds==x1.Kinds))) then pure (.ret false)
  else kJ a0 b (W (i+1))
 else pure (.done ())
 partial_fixpoint
theorem zG2 (a0:(List wE)) (b:(List wE)):∀ (i:Int) (o:Out Unit (Bool)),kJ a0 b i=some o->∀ {B}{I0 I:Imm}{Q p c p1 c1},I0.le I->(S4 I p a0 c)->(S4 I p1 b c1)->NG Q->NO Q->(∀ I',o=(.done ())->I0.le I'->T 26 B Q (.exit 0) I' [] [])->(∀ r I' af m',o=(.ret r)->I0.le I'->RS Tryz.prog f16 B (zT  r) I' af m'->T 26 B Q .ret I' af m')->J Tryz.prog 26 B (nav (bodyOf f16) [1,1,0,1,0]) Q I [] [(0,vS p a0 c),(1,vS p1 b c1),(5,vI i)]:=by
 refine kJ.partial_correctness a0 b _ fun aE ih i o N B I0 I Q p c p1 c1 H h h1 hg ho hx hr=>yQ hg ho<|yA<|yH [14] rfl<|zK<|yG N ?_ ?_
 · intro aH N;refine zS<|zZ<|yF<|yA<|eI (by kernel_rfl) (by kernel_rfl)<|zAl 2 [] [17,18] rfl<|bE N fun x hy N=>zB3 rfl rfl h hy ?_;intro ad aL al aj;obtain rfl:=zEq aj;refine zAz 0 al [vI x.From,vI x.To,vI x.Kinds] (vA [vI x.From,vI x.To,vI x.Kinds]) rfl<|zAl 6 [] [21,22] rfl<|bE N fun x1 ay N=>zB3 rfl rfl h1 ay ?_;intro ad1 bm au ax;obtain rfl:=zEq ax;refine zAz 0 au [vI x1.From,vI x1.To,vI x1.Kinds] (vA [vI x1.From,vI x1.To,vI x1.Kinds]) rfl<|zQP (a:=x.From) (b:=x.To) (c:=x.Kinds) (a':=x1.From) (b':=x1.To) (c':=x1.Kinds) rfl<|zN8 rfl<|zK<|yG N ?_ ?_
   · intro aY N;exact wT [(4,vF)]<|xF<|zV<|zJ<|zJ<|hr _ _ _ _ (zD N).symm H ⟨_,_,(resT rfl),zP,⟨_,rfl,rfl,rfl⟩⟩
   intro aY N;exact zS<|zO<|zK<|zM<|yK [] [5] rfl<|yP<|oT<|ih (W (i+1)) _ N H h h1 hg ho hx hr
 intro aH N;exact wP<|yU<|hx _  (zD N).symm H
def zA4 (a0:(List wE)) (b:(List wE)):Option (Bool):=do
 if ((a0.length:Int) != (b.length:Int)) then pure false
 else
  match<-kJ a0 b 0 with
  | .ret r0=>pure r0
  | .done _ =>
   pure true
theorem zId:∀ a0 b r,zA4 a0 b=some r->∀ {I:Imm}{p c p1 c1},(S4 I p a0 c)->(S4 I p1 b c1)->RT 16 [vS p a0 c,vS p1 b c1] I [] (zT  r):=by
 intro a0 b r N I p c p1 c1 h h1;unfold zA4 at N;refine yI func16 fun B=>wT []<|zZ<|yH [10] rfl<|zK<|yG N ?_ ?_
 · intro hc N;refine wT [(4,vF)]<|xF<|zJ ?_;obtain rfl:=zD N;exact vV
 intro hc N;refine zS<|zZ<|yH [5] rfl<|wI<|qR [(0,vS p a0 c),(1,vS p1 b c1),(5,vI 0)] ?_;obtain ⟨o0,az,aF⟩:=zB N;refine zG2 a0 b 0 o0 az iR h h1 nG nO ?_ ?_
 · intro I0  heq le;subst o0;refine zR<|zD7 [(4,vY)]<|zK<|xA ?_;obtain rfl:=zD aF;exact vV
 intro r0 I9 hs9 m9 aS le9 aU;subst aS;refine zV<|zJ ?_;obtain rfl:=zD aF;exact fO aU
def uZ (s:(List Int)) (v0:Int) (t8:Int):Option (Out Unit (Int)):=do
 if (decide (t8<(s.length:Int))) then
  let x<-idx s t8;if (v0==x) then pure (.ret t8)
  else uZ s v0 (W (t8+1))
 else pure (.done ())
 partial_fixpoint
theorem zBj (s:(List Int)) (v0:Int):∀ (t8:Int) (o:Out Unit (Int)),uZ s v0 t8=some o->∀ {B}{I0 I:Imm}{Q p c},I0.le I->(S4 I p s c)->NG Q->NO Q->(∀ I',o=(.done ())->I0.le I'->T 19 B Q (.exit 0) I' [] [])->(∀ r I' af m',o=(.ret r)->I0.le I'->RS Tryz.prog f132 B (xL  r) I' af m'->T 19 B Q .ret I' af m')->J Tryz.prog 19 B (nav (bodyOf f132) [1,0,1,0]) Q I [] [(0,vS p s c),(1,vI v0),(7,vI (s.length:Int)),(8,vI t8)]:=by
 refine uZ.partial_correctness s v0 _ fun aE ih t8 o N B I0 I Q p c H h hg ho hx hr=>yQ hg ho<|yH [9] rfl<|zZ<|yG N ?_ ?_
 · intro hc N;refine zS<|zZ<|yF<|yH [5] rfl<|yW<|yE 3 [] [11,12,13] rfl<|bE N fun x hy N=>xR rfl rfl h hy ?_;intro ad aL al aj;obtain rfl:=aj;refine xH 0 al [vI x] (vI x) rfl<|yK [] [16] rfl<|zK<|yG N ?_ ?_
   · intro aH N;exact yH [4] rfl<|xF<|zV<|zJ<|zJ<|hr _ _ _ _ (zD N).symm H ⟨_,_,(resT rfl),zP,⟨_,rfl,rfl,rfl⟩⟩
   intro aH N;exact zS<|zO<|zK<|zM<|yK [] [8] rfl<|yP<|oT<|ih (W (t8+1)) _ N H h hg ho hx hr
 intro hc N;exact wP<|yU<|hx _  (zD N).symm H
def jK (s:(List Int)) (v0:Int):Option (Int):=do
 match<-uZ s v0 0 with
 | .ret r0=>pure r0
 | .done _ =>
  pure (-1)
theorem zCt:∀ s v0 r,jK s v0=some r->∀ {I:Imm}{p c},(S4 I p s c)->RT 132 [vS p s c,vI v0] I [] (xL  r):=by
 intro s v0 r N I p c h;unfold jK at N;refine yI func132 fun B=>wT []<|zZ<|yH [7,8] rfl<|wI<|qR [(0,vS p s c),(1,vI v0),(7,vI (s.length:Int)),(8,vI 0)] ?_;obtain ⟨o0,az,aF⟩:=zB N;refine zBj s v0 0 o0 az iR h nG nO ?_ ?_
 · intro I0  heq le;subst o0;refine zR<|vW [4] rfl<|zK<|xA ?_;obtain rfl:=zD aF;exact vV
 intro r0 I9 hs9 m9 aS le9 aU;subst aS;refine zV<|zJ ?_;obtain rfl:=zD aF;exact fO aU
def sZ (s:(List Int)) (v0:Int):Option (Bool):=do
 let y<-jK s v0;pure (decide (y>=0))
theorem zAI:∀ s v0 r,sZ s v0=some r->∀ {I:Imm}{p c},(S4 I p s c)->RT 92 [vS p s c,vI v0] I [] (zT  r):=by
 intro s v0 r N I p c h;unfold sZ at N;refine yI func92 fun B=>wT []<|yW<|yE 2 [] [5,6] rfl<|bE N fun y hy N=>dP (zCt s v0 _ hy h) fun I0 le=>wR [] [(4,.bool (decide (y>=0)))]<|zK<|xA ?_;obtain rfl:=zD N;exact vV
def mO (t:uS) (from0:Int) (to0:Int):Option (Int):=do
 let x<-idx t.reads to0;let x1<-idx t.writes from0;let y<-sZ x x1;let kinds<-(do
   if y then pure (W (0+1))
   else
    pure (id 0)
     : Option Int)
 let x2<-idx t.reads from0;let x3<-idx t.writes to0;let y1<-sZ x2 x3;let kinds1<-(do
   if y1 then pure (W (kinds+2))
   else
    pure (id kinds)
     : Option Int)
 let x4<-idx t.writes from0;let x5<-idx t.writes to0;let kinds2<-(do
   if (x4==x5) then pure (W (kinds1+4))
   else
    pure (id kinds1)
     : Option Int)
 pure (id kinds2)
theorem zDW:∀ t from0 to0 r,mO t from0 to0=some r->∀ {I:Imm}{ad:Addr}{p c p1 c1 p2 c2 p3 c3 p4 c4},(S4 I p t.Program.Arrays c)->(S4 I p1 t.Program.Parts c1)->(S4 I p2 t.list c2)->(S4 I p3 t.reads c3)->(S4 I p4 t.writes c4)->(At I ad [vS p t.Program.Arrays c,vS p1 t.Program.Parts c1,vS p2 t.list c2,vS p3 t.reads c3,vS p4 t.writes c4])->RT 53 [.pointer (some ad),vI from0,vI to0] I [] (xL  r):=by
 intro t from0 to0 r N I ad p c p1 c1 p2 c2 p3 c3 p4 c4 h h1 h2 h3 h4 al;unfold mO at N;refine yI func53 fun B=>?_;have H:=iS I;refine wT []<|vW [7] rfl<|zZ<|yA ?_;obtain ⟨x,hy,N⟩:=zB N;obtain ⟨x1,ay,N⟩:=zB N;obtain ⟨y,aG,N⟩:=zB N;refine wO [.p (.pointer (some ad)) [],.p (.pointer (some ad)) [],.p (.pointer (some (ad.add 3))) [],.q (vS p3 t.reads c3),.p (vI to0) [],.x (fun I' v hx=>∃ ad1 p5 c5,v=.pointer (some ad1)/\hx=[]/\(At I' ad1 [vS p5 x c5])/\(S4 I' p5 x c5)),.x (eS x),.p (.pointer (some ad)) [],.p (.pointer (some ad)) [],.p (.pointer (some (ad.add 4))) [],.q (vS p4 t.writes c4),.p (vI from0) [],.x (fun I' v hx=>∃ ad2,v=.pointer (some ad2)/\hx=[]/\(At I' ad2 [vI x1])),.q (vI x1),.q (.bool y)] [[],[(0,false)],[(1,false)],[(2,false)],[],[(3,false),(4,false)],[(5,false)],[],[(7,false)],[(8,false)],[(9,false)],[],[(10,false),(11,false)],[(12,false)],[(6,false),(13,false)]] [] [] [(14,false)] zP ?_ ?_
 · refine O3<|Oq ?_<|Op<|Ox ?_<|Ox ?_<|O3<|Oq ?_<|Op<|Ox ?_<|Oq ?_<|Oq ?_<|On
   · intro I1 hf aa;refine yX [10] rfl ?_;have al:=al.mono aa;exact xH 3 al [vS p3 t.reads c3] (vS p3 t.reads c3) rfl<|xD iR
   · intro I1 hf aa;refine yX [11,12] rfl ?_;have h3:=h3.mono aa;refine xR rfl rfl h3 hy ?_;intro ad1 aL au aj;obtain ⟨v0,rfl,h5⟩:=aj;obtain ⟨p5,c5,rfl⟩:=h5.form;exact yL [] iR ⟨_,_,_,rfl,rfl,au,h5⟩
   · rintro I1 hf aa _ _ ⟨ad1,p5,c5,rfl,rfl,au,h5⟩;exact yX [13] rfl<|xH 0 au [vS p5 x c5] (vS p5 x c5) rfl<|yL [] iR ⟨_,_,rfl,rfl,h5⟩
   · intro I1 hf aa;refine yX [17] rfl ?_;have al:=al.mono aa;exact xH 4 al [vS p4 t.writes c4] (vS p4 t.writes c4) rfl<|xD iR
   · intro I1 hf aa;refine yX [18,19] rfl ?_;have h4:=h4.mono aa;refine xR rfl rfl h4 ay ?_;intro ad2 bm bk ax;obtain rfl:=ax;exact yL [] iR ⟨_,rfl,rfl,bk⟩
   · rintro I1 hf aa _ _ ⟨ad2,rfl,rfl,bk⟩;exact yX [20] rfl<|xH 0 bk [vI x1] (vI x1) rfl<|xD iR
   rintro I1 hf aa _ _ ⟨p51,c51,rfl,rfl,h51⟩;refine yX [14,21] rfl ?_;have H:=iS I1;refine tH (zAI x x1 _ aG h51) ?_;intro I0 le;have H:=H.trans le;exact xD H
 intro aO aa;refine yX [0,1,2,7,22] rfl ?_;have ⟨h3,h4,al,H⟩:=m4 aa h3 h4 al H;refine zX rfl<|zK ?_;refine wZ N [] (fun kinds=>[(0,.pointer (some ad)),(1,vI from0),(2,vI to0),(7,vI kinds)]) (fun o0 az=>?_) ?_
 · have H:=iS aO;refine yG az ?_ ?_
   · intro hc N;exact zM<|yK [] [7] rfl<|yU<|zU (ct N H)
   intro hc N;exact zS<|yU<|zU (ct N H)
 intro kinds aV aA aT;have ⟨h3,h4,al,H⟩:=m4 aA h3 h4 al H;refine zZ<|yA ?_;obtain ⟨x2,bc,N⟩:=zB aT;obtain ⟨x3,bu,N⟩:=zB N;obtain ⟨y1,bz,N⟩:=zB N;refine wO [.p (.pointer (some ad)) [],.p (.pointer (some ad)) [],.p (.pointer (some (ad.add 3))) [],.q (vS p3 t.reads c3),.p (vI from0) [],.x (fun I' v hx=>∃ ad3 p6 c6,v=.pointer (some ad3)/\hx=[]/\(At I' ad3 [vS p6 x2 c6])/\(S4 I' p6 x2 c6)),.x (eS x2),.p (.pointer (some ad)) [],.p (.pointer (some ad)) [],.p (.pointer (some (ad.add 4))) [],.q (vS p4 t.writes c4),.p (vI to0) [],.x (fun I' v hx=>∃ ad4,v=.pointer (some ad4)/\hx=[]/\(At I' ad4 [vI x3])),.q (vI x3),.q (.bool y1)] [[],[(0,false)],[(1,false)],[(2,false)],[],[(3,false),(4,false)],[(5,false)],[],[(7,false)],[(8,false)],[(9,false)],[],[(10,false),(11,false)],[(12,false)],[(6,false),(13,false)]] [] [] [(14,false)] zP ?_ ?_
 · refine O3<|Oq ?_<|Op<|Ox ?_<|Ox ?_<|O3<|Oq ?_<|Op<|Ox ?_<|Oq ?_<|Oq ?_<|On
   · intro I1 hf aa;refine yX [27] rfl ?_;have al:=al.mono aa;exact xH 3 al [vS p3 t.reads c3] (vS p3 t.reads c3) rfl<|xD iR
   · intro I1 hf aa;refine yX [28,29] rfl ?_;have h3:=h3.mono aa;refine xR rfl rfl h3 bc ?_;intro ad3 bK hat3 bq;obtain ⟨v02,rfl,h7⟩:=bq;obtain ⟨p6,c6,rfl⟩:=h7.form;exact yL [] iR ⟨_,_,_,rfl,rfl,hat3,h7⟩
   · rintro I1 hf aa _ _ ⟨ad3,p6,c6,rfl,rfl,hat3,h7⟩;exact yX [30] rfl<|xH 0 hat3 [vS p6 x2 c6] (vS p6 x2 c6) rfl<|yL [] iR ⟨_,_,rfl,rfl,h7⟩
   · intro I1 hf aa;refine yX [34] rfl ?_;have al:=al.mono aa;exact xH 4 al [vS p4 t.writes c4] (vS p4 t.writes c4) rfl<|xD iR
   · intro I1 hf aa;refine yX [35,36] rfl ?_;have h4:=h4.mono aa;refine xR rfl rfl h4 bu ?_;intro ad4 ccs3 hat4 bB;obtain rfl:=bB;exact yL [] iR ⟨_,rfl,rfl,hat4⟩
   · rintro I1 hf aa _ _ ⟨ad4,rfl,rfl,hat4⟩;exact yX [37] rfl<|xH 0 hat4 [vI x3] (vI x3) rfl<|xD iR
   rintro I1 hf aa _ _ ⟨p61,c61,rfl,rfl,h71⟩;refine yX [31,38] rfl ?_;have H:=iS I1;refine tH (zAI x2 x3 _ bz h71) ?_;intro bx aK;have H:=H.trans aK;exact xD H
 intro bD aX;refine yX [0,1,2,7,39] rfl ?_;have ⟨h4,al,H⟩:=m3 aX h4 al H;refine zX rfl<|zK ?_;refine wZ N [] (fun kinds1=>[(0,.pointer (some ad)),(1,vI from0),(2,vI to0),(7,vI kinds1)]) (fun aN aC=>?_) ?_
 · have H:=iS bD;refine yG aC ?_ ?_
   · intro aH N;exact zM<|yK [] [7] rfl<|yU<|zU (ct N H)
   intro aH N;exact zS<|yU<|zU (ct N H)
 intro kinds1 bI bf hMc1;have ⟨h4,al,H⟩:=m3 bf h4 al H;refine zZ<|yA<|eI (by kernel_rfl) (by kernel_rfl)<|zAl 3 [] [44] rfl<|zAz 4 al [vS p4 t.writes c4] (vS p4 t.writes c4) rfl<|zAl 5 [] [46] rfl ?_;obtain ⟨x4,hy6,N⟩:=zB hMc1;refine zB3 rfl rfl h4 hy6 ?_;intro ad5 ccs4 hat5 hrep4;obtain rfl:=hrep4;refine zAz 0 hat5 [vI x4] (vI x4) rfl<|zAl 10 [] [51] rfl<|zAz 4 al [vS p4 t.writes c4] (vS p4 t.writes c4) rfl<|zAl 12 [] [53] rfl<|bE N fun x5 hy7 N=>zB3 rfl rfl h4 hy7 ?_;intro ad6 ccs5 hat6 hrep5;obtain rfl:=hrep5;refine zAz 0 hat6 [vI x5] (vI x5) rfl<|zKK [] [56] rfl<|zK ?_;refine wZ N [] (fun kinds2=>[(7,vI kinds2)]) (fun o02 ho02=>?_) ?_
 · have H:=iS bI;refine yG ho02 ?_ ?_
   · intro aY N;exact zM<|yK [] [7] rfl<|yU<|zU (ct N H)
   intro aY N;exact zS<|yU<|zU (ct N H)
 intro kinds2 I06 bt hMc2;refine vW [6] rfl<|zK<|xA ?_;obtain rfl:=zD hMc2;exact vV
def zAo (r:(List wE)):KT:=fun kk I' af v=>
  ∃ v0,af=[]/\v=tupV [v0]/\SL I' v0 r
def qD (t:uS) (t12:Int) (ap:List wE) (to0:Int):Option (List wE):=do
 if (decide (to0<(t.list.length:Int))) then
  let y<-mO t t12 to0;let bw<-(do
    if (decide (y>0)) then
     let out5<-app 24 ap ([(wE.mk t12 to0 y)]:List wE);pure (id out5)
    else
     pure (id ap)
      : Option (List wE))
  qD t t12 bw (W (to0+1))
 else pure (id ap)
 partial_fixpoint
theorem zDX (t:uS) (t12:Int):∀ (ap:List wE) (to0:Int) (o:List wE),qD t t12 ap to0=some o->∀ {B}{I0 I:Imm}{Q}  {ad:Addr}{p c p1 c1 p2 c2 p3 c3 p4 c4 p7 c7 aP},I0.le I->(S4 I p t.Program.Arrays c)->(S4 I p1 t.Program.Parts c1)->(S4 I p2 t.list c2)->(S4 I p3 t.reads c3)->(S4 I p4 t.writes c4)->(At I ad [vS p t.Program.Arrays c,vS p1 t.Program.Parts c1,vS p2 t.list c2,vS p3 t.reads c3,vS p4 t.writes c4])->(RL I aP ap)->NG Q->NO Q->(∀ I' bb p8 c8 aI,o=bb->I0.le I'->(RL I' aI bb)->T 41 B Q (.exit 2) I' [hO wE (vS p8 bb c8) aI] [(0,.pointer (some ad)),(3,vS p8 bb c8),(11,vI (t.list.length:Int)),(12,vI t12)])->J Tryz.prog 41 B (nav (bodyOf f48) [1,1,0,1,0,0,1,1,0,0,1,1,0]) Q I [hO wE (vS p7 ap c7) aP] [(0,.pointer (some ad)),(3,vS p7 ap c7),(4,vI t12),(5,vI to0),(11,vI (t.list.length:Int)),(12,vI t12)]:=by
 refine qD.partial_correctness t t12 _ fun aE ih ap to0 o N B I0 I Q ad p c p1 c1 p2 c2 p3 c3 p4 c4 p7 c7 aP H h h1 h2 h3 h4 al h8 hg ho hx=>yQ hg ho<|yA<|yB<|yE 4 [] [17,20] rfl<|xH 2 al [vS p2 t.list c2] (vS p2 t.list c2) rfl<|yK [] [23] rfl<|zK<|yG N ?_ ?_
 · intro aH N;refine zS<|zZ<|yF<|yB<|yE 3 [] [26,27,28] rfl<|bE N fun y hy N=>dP (zDW t t12 to0 _ hy h h1 h2 h3 h4 al) ?_;intro I0 le;have ⟨h,h1,h2,h3,h4,al⟩:=m6 le h h1 h2 h3 h4 al;have ⟨h8,H⟩:=m2 le h8 H;refine yK [] [6] rfl<|vW [31] rfl<|zK ?_;obtain ⟨o0,az,aT⟩:=zB N;refine oW (fun I' af m'=>∃ (bw:List wE) (p9:Option Addr) (c9:Nat) (bo:List Value),o0=bw/\I0.le I'/\(RL I' bo bw)/\af=[hO wE (vS p9 bw c9) bo]/\m'=[(0,.pointer (some ad)),(3,vS p9 bw c9),(4,vI t12),(5,vI to0),(11,vI (t.list.length:Int)),(12,vI t12)]) ?_ ?_
   · have H:=iS I0;refine yG az ?_ ?_
     · intro aY N;refine zM<|yE 5 [] [32,36] rfl<|uV [vI t12,vI to0,vI y] wE ?_;intro b hb;have h12:RL I0 [vI t12,vI to0,vI y] ([(wE.mk t12 to0 y)]:List wE):=⟨[vI t12,vI to0,vI y],_,rfl,rfl,(zJN rfl),rfl⟩;obtain ⟨out5,ay,N⟩:=zB N;exact rF 50 3 1 rfl rfl rfl h8 (.inr ⟨0,rfl⟩) h12 ay fun aQ aM bv h13=>tX (zY [1] (af:=[hO wE (vS aQ out5 aM) bv]))<|yK [] [3] rfl<|yU<|zU ⟨_,_,_,_,(zD N).symm,H,h13,rfl,rfl⟩
     intro aY N;exact zS<|yU<|zU ⟨_,_,_,_,(zD N).symm,H,h8,rfl,rfl⟩
   rintro aO aw m2 ⟨bw,p9,c9,bo,heq,aa,h11,rfl,rfl⟩;subst o0;have ⟨h,h1,h2,h3,h4,al⟩:=m6 aa h h1 h2 h3 h4 al;have H:=H.trans aa;exact zO<|zK<|zM<|yK [] [5] rfl<|yP<|oT<|ih bw (W (to0+1)) _ aT H h h1 h2 h3 h4 al h11 hg ho hx
 intro aH N;exact wP<|yU<|hx _ _ _ _ _ (zD N).symm H h8
def qE (t:uS) (out:List wE) (t12:Int):Option (List wE):=do
 if (decide (t12<(t.list.length:Int))) then
  let bb<-qD t t12 out (W (t12+1));qE t bb (W (t12+1))
 else pure (id out)
 partial_fixpoint
theorem zDY (t:uS):∀ (out:List wE) (t12:Int) (o:List wE),qE t out t12=some o->∀ {B}{I0 I:Imm}{Q}  {ad:Addr}{p c p1 c1 p2 c2 p3 c3 p4 c4 p5 c5 cs},I0.le I->(S4 I p t.Program.Arrays c)->(S4 I p1 t.Program.Parts c1)->(S4 I p2 t.list c2)->(S4 I p3 t.reads c3)->(S4 I p4 t.writes c4)->(At I ad [vS p t.Program.Arrays c,vS p1 t.Program.Parts c1,vS p2 t.list c2,vS p3 t.reads c3,vS p4 t.writes c4])->(RL I cs out)->NG Q->NO Q->(∀ I' ah p6 c6 av,o=ah->I0.le I'->(RL I' av ah)->T 41 B Q (.exit 0) I' [hO wE (vS p6 ah c6) av] [(3,vS p6 ah c6)])->J Tryz.prog 41 B (nav (bodyOf f48) [1,1,0,1,0]) Q I [hO wE (vS p5 out c5) cs] [(0,.pointer (some ad)),(3,vS p5 out c5),(11,vI (t.list.length:Int)),(12,vI t12)]:=by
 refine qE.partial_correctness t _ fun aE ih out t12 o N B I0 I Q ad p c p1 c1 p2 c2 p3 c3 p4 c4 p5 c5 cs H h h1 h2 h3 h4 al h6 hg ho hx=>yQ hg ho<|yH [13] rfl<|zZ<|yG N ?_ ?_
 · intro hc N;refine zS<|zZ<|yF<|yH [4] rfl<|vW [5] rfl<|wI<|qR [(0,.pointer (some ad)),(3,vS p5 out c5),(4,vI t12),(5,vI (W (t12+1))),(11,vI (t.list.length:Int)),(12,vI t12)] ?_;obtain ⟨aN,aC,aF⟩:=zB N;refine zDX t t12 out (W (t12+1)) aN aC iR h h1 h2 h3 h4 al h6 (fun _ _ _ h=>hg _ _ _ h) (fun _ _ h=>ho _ _ h) ?_;intro aV bb p8 c8 aI heq1 aA h9;subst aN;have ⟨h,h1,h2,h3,h4,al⟩:=m6 aA h h1 h2 h3 h4 al;have H:=H.trans aA;exact zR<|zO<|zK<|zM<|yK [] [12] rfl<|yP<|oT<|ih bb (W (t12+1)) _ aF H h h1 h2 h3 h4 al h9 hg ho hx
 intro hc N;exact wP<|yU<|hx _ _ _ _ _ (zD N).symm H h6
def eV (t:uS):Option ((List wE)):=do
 let ah<-qE t ([]:List wE) 0;pure (id ah)
theorem zEi:∀ t r,eV t=some r->∀ {I:Imm}{ad:Addr}{p c p1 c1 p2 c2 p3 c3 p4 c4},(S4 I p t.Program.Arrays c)->(S4 I p1 t.Program.Parts c1)->(S4 I p2 t.list c2)->(S4 I p3 t.reads c3)->(S4 I p4 t.writes c4)->(At I ad [vS p t.Program.Arrays c,vS p1 t.Program.Parts c1,vS p2 t.list c2,vS p3 t.reads c3,vS p4 t.writes c4])->RT 48 [.pointer (some ad)] I [] (zAo  r):=by
 intro t r N I ad p c p1 c1 p2 c2 p3 c3 p4 c4 h h1 h2 h3 h4 al;unfold eV at N;refine yI func48 fun B=>wT []<|zD7 [(3,z0)]<|zZ<|yB<|yE 3 [] [9] rfl<|xH 2 al [vS p2 t.list c2] (vS p2 t.list c2) rfl<|yK [] [11,12] rfl<|wI<|qR [(0,.pointer (some ad)),(3,z0),(11,vI (t.list.length:Int)),(12,vI 0)]<|zA6 wE fun h5=>?_;obtain ⟨o02,ho02,hMl1⟩:=zB N;refine zDY t ([]:List wE) 0 o02 ho02 iR h h1 h2 h3 h4 al h5 nG nO ?_;intro bx ah p6 c6 av heq2 aK h7;subst o02;refine zR<|vW [2] rfl<|xF<|xB 0 rfl ?_;intro bD aX hl0;have h14:=SL.of_frozen hl0 aX h7;exact xO hMl1 (resT rfl) zP ⟨_,rfl,rfl,h14⟩
def kK (p:zC):Option ((List wE)):=do
 let (y1,y2)<-zAO p;if (!y2) then pure ([]:List wE)
 else
  let t<-y1;let y3<-eV t;pure (id y3)
theorem zBT:∀ p r,kK p=some r->∀ {I:Imm}{p1 c p2 c1},(S4 I p1 p.Arrays c)->(S4 I p2 p.Parts c1)->RT 17 [vA (cProg p p1 c p2 c1)] I [] (zAo  r):=by
 intro p r N I p1 c p2 c1 h h1;unfold kK at N;refine yI func17 fun B=>yB<|vJ (cProg p p1 c p2 c1) ?_;intro b hb;refine wR [] []<|yW<|tL 1 [0] [(6,vA (cProg p p1 c p2 c1))] ?_;obtain ⟨⟨y1,y2⟩,hy,N⟩:=zB N;refine xE (zEr p _ hy h h1) ?_;rintro I0 aw v2 k2 le - ⟨v0,v01,rfl,rfl,h2,rfl⟩ -;refine yK [] [3,4] rfl<|zZ<|yH [11] rfl<|zK<|yG N ?_ ?_
 · intro hc N;refine wT [(2,z0)]<|xF<|zJ ?_;exact xO N (resT rfl) zP ⟨_,rfl,rfl,(SL.nil _)⟩
 intro hc N;refine zS<|yW<|tL 1 [] [(12,v0)] ?_;obtain ⟨t,ay,N⟩:=zB N;obtain ⟨ad,aL,rfl,al,aj⟩:=zKJ h2 ay;obtain ⟨p3,c2,p4,c3,p5,c4,p6,c5,p7,c6,rfl,h4,h5,h6,h7,h8⟩:=zB5 aj;obtain ⟨y3,aG,N⟩:=zB N;refine xE (zEi t _ aG h4 h5 h6 h7 h8 al) ?_;rintro aO aw v2 k2 aa - ⟨v07,rfl,rfl,h9⟩ -;obtain ⟨p8,c7,rfl⟩:=h9.form;refine yK [] [2] rfl<|zK<|xA ?_;exact xO N (resT rfl) zP ⟨_,rfl,rfl,h9⟩
end Go.LN
