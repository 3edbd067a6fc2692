/- Helper of the proof (see the last text). -/
import Derived.Test.YtkipogionmkncaaGreatHM4
set_option linter.unusedVariables false
set_option linter.unusedSimpArgs false
namespace Go.LN
open Go.Proofs Go.Proofs.Tryz
set_option maxRecDepth 20000
def fI(a0:vG)(left:Int):Option (Int):=do
 let y<-kL a0.Write left
 if(decide (y<0)) then
  pure (-1)
 else
  let y1<-jI a0.Value y
  if(decide (y1<0)) then
   pure (-1)
  else
   pure (id y1)
theorem zGg:∀a0 left r,fI a0 left=some r->∀{I:Imm}{p c p1 c1 p2 c2 p3 c3},(S4 I p a0.Write.Subs c)->(S4 I p1 a0.Value.Index.Coefs c1)->(S4 I p2 a0.Value.Read.Subs c2)->(S4 I p3 a0.Value.Kids c3)->RT 95 [vA [vT a0.Write.Array.l,vS p a0.Write.Subs c,vI a0.Value.Kind,vI a0.Value.Num,vS p1 a0.Value.Index.Coefs c1,vI a0.Value.Index.Const,vT a0.Value.Read.Array.l,vS p2 a0.Value.Read.Subs c2,vS p3 a0.Value.Kids c3],vI left] I [] (zW  r):=by
 intro a0 left r N I p c p1 c1 p2 c2 p3 c3 h h1 h2 h3;unfold fI at N;refine yM func95 λB=>yJ<|uA [vT a0.Write.Array.l,vS p a0.Write.Subs c,vI a0.Value.Kind,vI a0.Value.Num,vS p1 a0.Value.Index.Coefs c1,vI a0.Value.Index.Const,vT a0.Value.Read.Array.l,vS p2 a0.Value.Read.Subs c2,vS p3 a0.Value.Kids c3] ?_;intro b hb;refine yO [] []<|wG<|xF 3 [0] [(6,vA [vT a0.Write.Array.l,vS p a0.Write.Subs c]),(7,vI left)]<|bE N λy hy N=>qJ (zBj a0.Write left _ hy h) ?_;intro I0 le;have ⟨h1,h2,h3⟩:=m3 le h1 h2 h3;refine yW [] [1] rfl<|yE<|yG [10] rfl<|zH<|yD N ?_ ?_
 ·intro hc N;refine yG [4] rfl<|yS<|zG ?_;obtain rfl:=zB N;exact xH
 intro hc N;refine zT<|wG<|xF 3 [0] [(12,vA [vI a0.Value.Kind,vI a0.Value.Num,vS p1 a0.Value.Index.Coefs c1,vI a0.Value.Index.Const,vT a0.Value.Read.Array.l,vS p2 a0.Value.Read.Subs c2,vS p3 a0.Value.Kids c3]),(13,vI y)]<|bE N λy1 aw N=>qJ (zGf a0.Value y _ aw h1 h2 h3) λaN ai=>yO [] [(1,vI y1)]<|yE<|xZ [(16,.bool (decide (y1<0)))]<|zH<|yD N ?_ ?_
 ·intro aE N;refine yG [4] rfl<|yS<|zG ?_;obtain rfl:=zB N;exact xH
 intro aE N;refine zT<|wJ [4] rfl<|zH<|yF ?_;obtain rfl:=zB N;exact xH
def qY(a0:(List vG))(left1:Int)(i:Int):Option (Out Int (Int)):=do
 if(decide (i<(a0.length:Int))) then
  let x<-idx a0 i
  let y<-fI x left1
  if(decide (y<0)) then
   pure (.ret (-1))
  else
   qY a0 y (W (i+1))
 else
  pure (.done left1)
 partial_fixpoint
theorem zEL(a0:(List vG)):∀(left1:Int) (i:Int) (o:Out Int (Int)),qY a0 left1 i=some o->∀{B}{I0 I:Imm}{Q p c},I0.le I->(S4 I p a0 c)->NG Q->NO Q->(∀(I':Imm) (left2:Int),o=(.done left2)->I0.le I'->T 27 B Q (.exit 0) I' [] [(1,vI left2)])->(∀r I' aj m',o=(.ret r)->I0.le I'->RS Tryz.prog f57 B (zW  r) I' aj m'->T 27 B Q .ret I' aj m')->J Tryz.prog 27 B (nav (bodyOf f57) [1,1,1,0,1,0]) Q I [] [(0,vS p a0 c),(1,vI left1),(5,vI i)]:=by
 refine qY.partial_correctness a0 _ λaG ih left1 i o N B I0 I Q p c H h hg ho hx hr=>yK hg ho<|zM<|yG [15] rfl<|zH<|yD N ?_ ?_
 ·intro aE N;refine zT<|yE<|zZ<|yJ<|yR 2 [] [18,19] rfl<|bE N λx hy N=>xL rfl rfl h hy ?_;intro ad aF av aq;obtain⟨p1,c1,p2,c2,p3,c3,p4,c4,rfl,h1,h2,h3,h4⟩:=zH5 aq;refine yY 0 av [vT x.Write.Array.l,vS p1 x.Write.Subs c1,vI x.Value.Kind,vI x.Value.Num,vS p2 x.Value.Index.Coefs c2,vI x.Value.Index.Const,vT x.Value.Read.Array.l,vS p3 x.Value.Read.Subs c3,vS p4 x.Value.Kids c4] (vA [vT x.Write.Array.l,vS p1 x.Write.Subs c1,vI x.Value.Kind,vI x.Value.Num,vS p2 x.Value.Index.Coefs c2,vI x.Value.Index.Const,vT x.Value.Read.Array.l,vS p3 x.Value.Read.Subs c3,vS p4 x.Value.Kids c4]) rfl<|yR 5 [] [22] rfl<|bE N λy aw N=>qJ (zGg x left1 _ aw h1 h2 h3 h4) ?_;intro I0 le;have ⟨h,H⟩:=m2 le h H;refine yW [] [1] rfl<|wJ [25] rfl<|zH<|yD N ?_ ?_
  ·intro aQ N;exact yG [4] rfl<|yS<|zR<|zG<|zG<|hr _ _ _ _ (zB N).symm H ⟨_,_,(.tmp rfl ResV.nil),zO,⟨_,rfl,rfl,rfl⟩⟩
  intro aQ N;exact zT<|zQ<|zH<|zE<|yW [] [5] rfl<|yL<|gJ<|ih y (W (i+1)) _ N H h hg ho hx hr
 intro aE N;exact uQ<|xM<|hx _ _ (zB N).symm H
def jY(a0:(List vG))(left:Int):Option (Int):=do
 if(decide ((W (left - (a0.length:Int)))<0)) then
  pure (-1)
 else
  match<-qY a0 (W (left - (a0.length:Int))) 0 with
  | .ret r0=>pure r0
  | .done left2=>
   pure (id left2)
theorem zFy:∀a0 left r,jY a0 left=some r->∀{I:Imm}{p c},(S4 I p a0 c)->RT 57 [vS p a0 c,vI left] I [] (zW  r):=by
 intro a0 left r N I p c h;unfold jY at N;refine yM func57 λB=>xZ []<|wJ [1] rfl<|yE<|yG [11] rfl<|zH<|yD N ?_ ?_
 ·intro hc N;refine yG [4] rfl<|yS<|zG ?_;obtain rfl:=zB N;exact xH
 intro hc N;refine zT<|yE<|yG [5] rfl<|uP<|rX [(0,vS p a0 c),(1,vI (W (left - (a0.length:Int)))),(5,vI 0)] ?_;obtain⟨o0,ay,aB⟩:=zF N;refine zEL a0 (W (left - (a0.length:Int))) 0 o0 ay iR h (λ_ _ _ h=>h) (λ_ _ h=>h) ?_ ?_
 ·intro aN left2 heq ai;subst o0;refine zU<|wJ [4] rfl<|zH<|yF ?_;obtain rfl:=zB aB;exact xH
 intro r0 I9 hs9 m9 aC le9 aD;subst aC;refine zR<|zG ?_;obtain rfl:=zB aB;exact yV aD
def fJ(a0:vH)(left:Int):Option (Int):=do
 let y<-jX a0.Nest left
 if(decide (y<0)) then
  pure (-1)
 else
  let y1<-jY a0.Body y
  if(decide (y1<0)) then
   pure (-1)
  else
   pure (id y1)
theorem zGh:∀a0 left r,fJ a0 left=some r->∀{I:Imm}{p c p1 c1},(S4 I p a0.Nest c)->(S4 I p1 a0.Body c1)->RT 29 [vA [vS p a0.Nest c,vS p1 a0.Body c1],vI left] I [] (zW  r):=by
 intro a0 left r N I p c p1 c1 h h1;unfold fJ at N;refine yM func29 λB=>yJ<|uA [vS p a0.Nest c,vS p1 a0.Body c1] ?_;intro b hb;refine yO [] []<|wG<|yR 3 [0] [6,7] rfl<|bE N λy hy N=>qJ (zFx a0.Nest left _ hy h) ?_;intro I0 le;have h1:=h1.mono le;refine yW [] [1] rfl<|yE<|yG [10] rfl<|zH<|yD N ?_ ?_
 ·intro hc N;refine yG [4] rfl<|yS<|zG ?_;obtain rfl:=zB N;exact xH
 intro hc N;refine zT<|wG<|yR 3 [0] [12,13] rfl<|bE N λy1 aw N=>qJ (zFy a0.Body y _ aw h1) λaN ai=>yO [] [(1,vI y1)]<|yE<|xZ [(16,.bool (decide (y1<0)))]<|zH<|yD N ?_ ?_
 ·intro aE N;refine yG [4] rfl<|yS<|zG ?_;obtain rfl:=zB N;exact xH
 intro aE N;refine zT<|wJ [4] rfl<|zH<|yF ?_;obtain rfl:=zB N;exact xH
def qZ(a0:(List vH))(left1:Int)(i:Int):Option (Out Int (Int)):=do
 if(decide (i<(a0.length:Int))) then
  let x<-idx a0 i
  let y<-fJ x left1
  if(decide (y<0)) then
   pure (.ret (-1))
  else
   qZ a0 y (W (i+1))
 else
  pure (.done left1)
 partial_fixpoint
theorem zEM(a0:(List vH)):∀(left1:Int) (i:Int) (o:Out Int (Int)),qZ a0 left1 i=some o->∀{B}{I0 I:Imm}{Q p c},I0.le I->(S4 I p a0 c)->NG Q->NO Q->(∀(I':Imm) (left2:Int),o=(.done left2)->I0.le I'->T 27 B Q (.exit 0) I' [] [(1,vI left2)])->(∀r I' aj m',o=(.ret r)->I0.le I'->RS Tryz.prog f12 B (zW  r) I' aj m'->T 27 B Q .ret I' aj m')->J Tryz.prog 27 B (nav (bodyOf f12) [1,1,1,0,1,0]) Q I [] [(0,vS p a0 c),(1,vI left1),(5,vI i)]:=by
 refine qZ.partial_correctness a0 _ λaG ih left1 i o N B I0 I Q p c H h hg ho hx hr=>yK hg ho<|zM<|yG [15] rfl<|zH<|yD N ?_ ?_
 ·intro aE N;refine zT<|yE<|zZ<|yJ<|yR 2 [] [18,19] rfl<|bE N λx hy N=>xL rfl rfl h hy ?_;intro ad aF av aq;obtain⟨p1,c1,p2,c2,rfl,h1,h2⟩:=zH6 aq;refine yY 0 av [vS p1 x.Nest c1,vS p2 x.Body c2] (vA [vS p1 x.Nest c1,vS p2 x.Body c2]) rfl<|yR 5 [] [22] rfl<|bE N λy aw N=>qJ (zGh x left1 _ aw h1 h2) ?_;intro I0 le;have ⟨h,H⟩:=m2 le h H;refine yW [] [1] rfl<|wJ [25] rfl<|zH<|yD N ?_ ?_
  ·intro aQ N;exact yG [4] rfl<|yS<|zR<|zG<|zG<|hr _ _ _ _ (zB N).symm H ⟨_,_,(.tmp rfl ResV.nil),zO,⟨_,rfl,rfl,rfl⟩⟩
  intro aQ N;exact zT<|zQ<|zH<|zE<|yW [] [5] rfl<|yL<|gJ<|ih y (W (i+1)) _ N H h hg ho hx hr
 intro aE N;exact uQ<|xM<|hx _ _ (zB N).symm H
def jZ(a0:(List vH))(left:Int):Option (Int):=do
 if(decide ((W (left - (a0.length:Int)))<0)) then
  pure (-1)
 else
  match<-qZ a0 (W (left - (a0.length:Int))) 0 with
  | .ret r0=>pure r0
  | .done left2=>
   pure (id left2)
theorem zFz:∀a0 left r,jZ a0 left=some r->∀{I:Imm}{p c},(S4 I p a0 c)->RT 12 [vS p a0 c,vI left] I [] (zW  r):=by
 intro a0 left r N I p c h;unfold jZ at N;refine yM func12 λB=>xZ []<|wJ [1] rfl<|yE<|yG [11] rfl<|zH<|yD N ?_ ?_
 ·intro hc N;refine yG [4] rfl<|yS<|zG ?_;obtain rfl:=zB N;exact xH
 intro hc N;refine zT<|yE<|yG [5] rfl<|uP<|rX [(0,vS p a0 c),(1,vI (W (left - (a0.length:Int)))),(5,vI 0)] ?_;obtain⟨o0,ay,aB⟩:=zF N;refine zEM a0 (W (left - (a0.length:Int))) 0 o0 ay iR h (λ_ _ _ h=>h) (λ_ _ h=>h) ?_ ?_
 ·intro aN left2 heq ai;subst o0;refine zU<|wJ [4] rfl<|zH<|yF ?_;obtain rfl:=zB aB;exact xH
 intro r0 I9 hs9 m9 aC le9 aD;subst aC;refine zR<|zG ?_;obtain rfl:=zB aB;exact yV aD
def gA(a0:wT)(left:Int):Option (Int):=do
 let y<-kK a0.Arrays left
 if(decide (y<0)) then
  pure (-1)
 else
  let y1<-jZ a0.Parts y
  if(decide (y1<0)) then
   pure (-1)
  else
   pure (id y1)
theorem zEy:∀a0 left r,gA a0 left=some r->∀{I:Imm}{p c p1 c1},(S4 I p a0.Arrays c)->(S4 I p1 a0.Parts c1)->RT 4 [vA [vS p a0.Arrays c,vS p1 a0.Parts c1],vI left] I [] (zW  r):=by
 intro a0 left r N I p c p1 c1 h h1;unfold gA at N;refine yM func4 λB=>yJ<|uA [vS p a0.Arrays c,vS p1 a0.Parts c1] ?_;intro b hb;refine yO [] []<|wG<|yR 3 [0] [6,7] rfl<|bE N λy hy N=>qJ (zF4 a0.Arrays left _ hy h) ?_;intro I0 le;have h1:=h1.mono le;refine yW [] [1] rfl<|yE<|yG [10] rfl<|zH<|yD N ?_ ?_
 ·intro hc N;refine yG [4] rfl<|yS<|zG ?_;obtain rfl:=zB N;exact xH
 intro hc N;refine zT<|wG<|yR 3 [0] [12,13] rfl<|bE N λy1 aw N=>qJ (zFz a0.Parts y _ aw h1) λaN ai=>yO [] [(1,vI y1)]<|yE<|xZ [(16,.bool (decide (y1<0)))]<|zH<|yD N ?_ ?_
 ·intro aE N;refine yG [4] rfl<|yS<|zG ?_;obtain rfl:=zB N;exact xH
 intro aE N;refine zT<|wJ [4] rfl<|zH<|yF ?_;obtain rfl:=zB N;exact xH
end Go.LN
