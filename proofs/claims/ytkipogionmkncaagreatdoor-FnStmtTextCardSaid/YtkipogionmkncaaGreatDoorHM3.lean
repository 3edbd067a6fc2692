/- Helper of the proof (see the last text). -/
import Derived.Test.YtkipogionmkncaaGreatDoorHM2
set_option linter.unusedVariables false
set_option linter.unusedSimpArgs false
namespace Go.LN
open Go.Proofs Go.Proofs.Tryz
set_option maxRecDepth 20000
def qE(e0:zB)(ae:Int):Option (Bool):=do
 if(e0.Kind==2) then
  let t4<-(do
   if(e0.Num==0) then
    let y<-tA e0.Read
    if y then
     let y1<-wX e0.Index
     if y1 then
      let y2<-tZ e0.Index
      pure (decide (y2<=ae))
     else
      pure false
    else
     pure false
   else
    pure false
     : Option Bool)
  pure (id t4)
 else
  if(e0.Kind==3) then
   let t41<-(do
    if(e0.Num==0) then
     let y3<-tU e0.Index
     if y3 then
      let y4<-tI e0.Read ae
      pure (id y4)
     else
      pure false
    else
     pure false
      : Option Bool)
   pure (id t41)
  else
   if(e0.Kind==1) then
    let t42<-(do
     if(decide (e0.Num>=0)) then
      if(decide (e0.Num<=99)) then
       let y5<-tU e0.Index
       if y5 then
        let y6<-tA e0.Read
        pure (id y6)
       else
        pure false
      else
       pure false
     else
      pure false
       : Option Bool)
    pure (id t42)
   else
    let t43<-(do
     if(e0.Num==0) then
      let y7<-tU e0.Index
      if y7 then
       let y8<-tA e0.Read
       pure (id y8)
      else
       pure false
     else
      pure false
       : Option Bool)
    pure (id t43)
theorem zBx:∀e0 ae r,qE e0 ae=some r->∀{I:Imm}{p c p1 c1 p2 c2},(S4 I p e0.Index.Coefs c)->(S4 I p1 e0.Read.Subs c1)->(S4 I p2 e0.Kids c2)->RT 190 [vA (cExpr e0 p c p1 c1 p2 c2),vI ae] I [] (zP  r):=by
 intro e0 ae r N I p c p1 c1 p2 c2 h h1 h2;unfold qE at N;refine yK func190 λB=>?_;have H:=iS I;refine yH<|sM (cExpr e0 p c p1 c1 p2 c2) ?_;intro b hb;refine wG [] []<|yL<|yH<|yS [0] [7] rfl<|zG<|yJ N ?_ ?_
 ·intro hc N;refine yB ?_;refine wT N [] (λt4=>[(4,.bool t4)]) (λo0 ar=>?_) ?_
  ·have H:=iS I;refine zI<|zX 4 [0] [11] rfl<|xE [11] ar ?_ ?_
   ·intro ay N;refine sW 6 [0] [(13,vA (cAccess e0.Read p1 c1))]<|bE N λy hy N=>sD (oY e0.Read _ hy h1) ?_;intro aI le;have ⟨h,H⟩:=m2 le h H;refine zX 9 [] [16] rfl<|xE [16] N ?_ ?_
    ·intro aJ N;refine sW 11 [0] [(18,vA (cAff e0.Index p c))]<|bE N λy1 au N=>sD (qZ e0.Index _ au h) ?_;intro aP ai;have ⟨h,H⟩:=m2 ai h H;refine zX 14 [] [21] rfl<|xE [21] N ?_ ?_
     ·intro bd N;refine sW 16 [0] [(23,vA (cAff e0.Index p c))]<|bE N λy2 aB N=>zAD (jI e0.Index _ aB h) ?_;intro aZ aG;have H:=H.trans aG;exact yS [] [4] rfl<|xW zH<|yM<|zJ (ct N H)
     intro bd N;exact wG [] [(4,vF)]<|xW zH<|yM<|zJ (ct N H)
    intro aJ N;exact wG [] [(4,vF)]<|xW zH<|yM<|zJ (ct N H)
   intro ay N;exact wG [] [(4,vF)]<|xW zH<|yM<|zJ (ct N H)
  intro t4 I0 aL aw;refine xP<|zF ?_;obtain rfl:=zD aw;exact wU
 intro hc N;refine zO<|yL<|yH<|yS [0] [30] rfl<|zG<|yJ N ?_ ?_
 ·intro bn N;refine yB ?_;refine wT N [] (λt41=>[(4,.bool t41)]) (λaS ax=>?_) ?_
  ·have H:=iS I;refine zI<|zX 4 [0] [34] rfl<|xE [34] ax ?_ ?_
   ·intro hc5 N;refine sW 6 [0] [(36,vA (cAff e0.Index p c))]<|bE N λy3 aK N=>sD (nV e0.Index _ aK h) ?_;intro bu aV;have ⟨h1,H⟩:=m2 aV h1 H;refine zX 9 [] [39] rfl<|xE [39] N ?_ ?_
    ·intro hc6 N;refine sW 12 [0] [(41,vA (cAccess e0.Read p1 c1)),(42,vI ae)]<|bE N λy4 aY N=>sD (kG e0.Read ae _ aY h1) ?_;intro I06 bj;have H:=H.trans bj;exact yS [] [4] rfl<|xW zH<|yM<|zJ (ct N H)
    intro hc6 N;exact wG [] [(4,vF)]<|xW zH<|yM<|zJ (ct N H)
   intro hc5 N;exact wG [] [(4,vF)]<|xW zH<|yM<|zJ (ct N H)
  intro t41 bq bt hMc1;refine xP<|zF ?_;obtain rfl:=zD hMc1;exact wU
 intro bn N;refine zO<|yL<|yH<|yS [0] [47] rfl<|zG<|yJ N ?_ ?_
 ·intro hc7 N;refine yB ?_;refine wT N [] (λt42=>[(4,.bool t42)]) (λo02 ho02=>?_) ?_
  ·have H:=iS I;refine zI<|zX 4 [0] [51] rfl<|xE [51] ho02 ?_ ?_
   ·intro hc8 N;refine zX 9 [0] [56] rfl<|xE [56] N ?_ ?_
    ·intro hc9 N;refine sW 11 [0] [(58,vA (cAff e0.Index p c))]<|bE N λy5 bo N=>sD (nV e0.Index _ bo h) ?_;intro I08 le7;have ⟨h1,H⟩:=m2 le7 h1 H;refine zX 14 [] [61] rfl<|xE [61] N ?_ ?_
     ·intro hc10 N;refine sW 16 [0] [(63,vA (cAccess e0.Read p1 c1))]<|bE N λy6 hy6 N=>sD (oY e0.Read _ hy6 h1) ?_;intro I09 le8;have H:=H.trans le8;exact yS [] [4] rfl<|xW zH<|yM<|zJ (ct N H)
     intro hc10 N;exact wG [] [(4,vF)]<|xW zH<|yM<|zJ (ct N H)
    intro hc9 N;exact wG [] [(4,vF)]<|xW zH<|yM<|zJ (ct N H)
   intro hc8 N;exact wG [] [(4,vF)]<|xW zH<|yM<|zJ (ct N H)
  intro t42 I07 le9 hMc2;refine xP<|zF ?_;obtain rfl:=zD hMc2;exact wU
 intro hc7 N;refine zO<|zG<|yB ?_;refine wT N [] (λt43=>[(4,.bool t43)]) (λo03 ho03=>?_) ?_
 ·have H:=iS I;refine zI<|zX 4 [0] [69] rfl<|xE [69] ho03 ?_ ?_
  ·intro hc11 N;refine sW 6 [0] [(71,vA (cAff e0.Index p c))]<|bE N λy7 hy7 N=>sD (nV e0.Index _ hy7 h) ?_;intro bJ le10;have ⟨h1,H⟩:=m2 le10 h1 H;refine zX 9 [] [74] rfl<|xE [74] N ?_ ?_
   ·intro hc12 N;refine sW 11 [0] [(76,vA (cAccess e0.Read p1 c1))]<|bE N λy8 hy8 N=>sD (oY e0.Read _ hy8 h1) ?_;intro bG le11;have H:=H.trans le11;exact yS [] [4] rfl<|xW zH<|yM<|zJ (ct N H)
   intro hc12 N;exact wG [] [(4,vF)]<|xW zH<|yM<|zJ (ct N H)
  intro hc11 N;exact wG [] [(4,vF)]<|xW zH<|yM<|zJ (ct N H)
 intro t43 bI le12 hMc3;refine zG<|yX ?_;obtain rfl:=zD hMc3;exact wU
mutual
def vC(e0:zB)(ae:Int)(af:Int):Option (Bool):=do
 let t24<-(do
  if(decide (af<1)) then
   pure true
  else
   let y<-rH e0.Kind
   if(y != (e0.Kids.length:Int)) then
    pure true
   else
    let y1<-qE e0 ae
    pure (!y1)
    : Option Bool)
 if t24 then
  pure false
 else
  match<-xY (same e0) (same ae) (same af) (same 0) with
  | .ret r0=>pure r0
  | .done _=>
   pure true
 partial_fixpoint
def xY(e0:zB)(ae:Int)(af:Int)(i:Int):Option (Out Unit (Bool)):=do
 if(decide (i<(e0.Kids.length:Int))) then
  let x<-idx e0.Kids i
  let y2<-vC (same x) (same ae) (W (af - 1))
  if(!y2) then
   pure (.ret false)
  else
   xY (same e0) (same ae) (same af) (W (i+1))
 else
  pure (.done ())
 partial_fixpoint
end
theorem zAI:(∀(e0:zB) (ae:Int) (af:Int) r,vC e0 ae af=some r->∀{I:Imm}{p c p1 c1 p2 c2},(S4 I p e0.Index.Coefs c)->(S4 I p1 e0.Read.Subs c1)->(S4 I p2 e0.Kids c2)->RT 132 [vA (cExpr e0 p c p1 c1 p2 c2),vI ae,vI af] I [] (zP  r))/\(∀(e0:zB) (ae:Int) (af:Int) (i:Int) o,xY e0 ae af i=some o->∀{B}{I0 I:Imm}{Q p c p1 c1 p2 c2}{b:Nat},I0.le I->(S4 I p e0.Index.Coefs c)->(S4 I p1 e0.Read.Subs c1)->(S4 I p2 e0.Kids c2)->NG Q->NO Q->(∀(I':Imm) ,o=(.done ())->I0.le I'->T 42 B Q (.exit 0) I' [] [])->(∀r I' ag m',o=(.ret r)->I0.le I'->RS Tryz.prog f132 B (zP  r) I' ag m'->T 42 B Q .ret I' ag m')->J Tryz.prog 42 B (nav (bodyOf f132) [1,1,0,1,0]) Q I [hB b (cExpr e0 p c p1 c1 p2 c2)] [(1,vI ae),(2,vI af),(3,vP b 0),(7,vI i)]):=by
 refine vC.mutual_partial_correctness _ _ ?_ ?_
 ·intro F_spec_l3Shape_l1 ih_spec_l3Shape_l1 e0 ae af r N I p c p1 c1 p2 c2 h h1 h2;refine yK func132 λB=>?_;have H:=iS I;refine yH<|sM (cExpr e0 p c p1 c1 p2 c2) ?_;intro b hb;refine wG [] []<|yL<|yB ?_;refine wT N [hB b (cExpr e0 p c p1 c1 p2 c2)] (λt24=>[(1,vI ae),(2,vI af),(3,vP b 0),(24,.bool t24)]) (λo0 ar=>?_) ?_
  ·have H:=iS I;cases hc:(decide (af<1)) with
   | true=>
    have hM0:=kP hc ar;refine sU [.p (vI af) [],.q vY,.q vY,.p undef [],.p undef [],.p undef [],.p undef [],.p undef [],.p undef [],.p undef [],.p vY [],.p vY [],.p undef [],.p undef [],.p undef [],.p undef [],.p vY []] [[],[(0,false)],[(1,false)],[(2,false)],[(2,false),(3,false)],[(2,false),(4,false)],[(2,false)],[(2,false),(6,false)],[(2,false),(7,false)],[(2,false),(5,false),(8,false)],[(2,false),(9,false)],[(10,false)],[(11,false)],[(11,false)],[(11,false),(12,false),(13,false)],[(11,false),(14,false)],[(11,false),(15,false)]] [hB b (cExpr e0 p c p1 c1 p2 c2)] [] [(16,false)] (yR [0]) ?_ ?_
    ·refine Op<|Oq ?_<|Oq ?_<|Op<|Op<|Op<|Op<|Op<|Op<|Op<|Op<|Op<|Op<|Op<|Op<|Op<|Op<|On
     ·intro I1 hf ai;refine vQ [8] rfl<|R_p 2 [(9,.bool (decide (af<1)))] ?_;rw[hc];exact vD iR
     intro I1 hf ai;exact I_h [(9,vY)]<|R_p 3 [(10,vY)]<|vD iR
    intro aI le;refine vQ [1,2,3,24] rfl ?_;have H:=H.trans le;exact zV rfl<|yM<|zJ (ct hM0 H)
   | false=>
    have hM01:=mT hc ar;obtain⟨y,hy,N⟩:=zC hM01;cases ay:(y != (e0.Kids.length:Int)) with
    | true=>
     have hM02:=kP ay N;refine sU [.p (vI af) [],.q vF,.q vF,.p (vP b 0) [],.p (vI e0.Kind) [0],.q (vI y),.p (vP b 6) [],.p (vS p2 e0.Kids c2) [0],.p (vI (e0.Kids.length:Int)) [],.q vY,.q vY,.q vY,.p undef [],.p undef [],.p undef [],.p undef [],.p vY []] [[],[(0,false)],[(1,false)],[(2,false)],[(2,false),(3,false)],[(2,false),(4,false)],[(2,false)],[(2,false),(6,false)],[(2,false),(7,false)],[(2,false),(5,false),(8,false)],[(2,false),(9,false)],[(10,false)],[(11,false)],[(11,false)],[(11,false),(12,false),(13,false)],[(11,false),(14,false)],[(11,false),(15,false)]] [hB b (cExpr e0 p c p1 c1 p2 c2)] [] [(16,false)] (yR [0]) ?_ ?_
     ·refine Op<|Oq ?_<|Oq ?_<|Op<|Op<|Oq ?_<|Op<|Op<|Op<|Oq ?_<|Oq ?_<|Oq ?_<|Op<|Op<|Op<|Op<|Op<|On
      ·intro I1 hf ai;refine vQ [8] rfl<|R_p 2 [(9,.bool (decide (af<1)))] ?_;rw[hc];exact vD iR
      ·intro I1 hf ai;exact I_h [(9,vF)]<|R_p 3 [(10,vF)]<|vD iR
      ·intro I1 hf ai;refine vQ [10,12] rfl ?_;have H:=iS I1;refine zAD (gD e0.Kind _ hy ) ?_;intro aP ai;have H:=H.trans ai;exact vD H
      ·intro I1 hf ai;refine vQ [10,13,16] rfl<|R_p 10 [(17,.bool (y != (e0.Kids.length:Int)))] ?_;rw[ay];exact vD iR
      ·intro I1 hf ai;exact vQ [10,17] rfl<|R_p 11 [(18,vY)]<|vD iR
      intro I1 hf ai;exact I_h [(18,vY)]<|R_p 12 [(19,vY)]<|vD iR
     intro aZ aG;refine vQ [1,2,3,24] rfl ?_;have H:=H.trans aG;exact zV rfl<|yM<|zJ (ct hM02 H)
    | false=>
     have hM03:=mT ay N;obtain⟨y1,au,N⟩:=zC hM03;refine sU [.p (vI af) [],.q vF,.q vF,.p (vP b 0) [],.p (vI e0.Kind) [0],.q (vI y),.p (vP b 6) [],.p (vS p2 e0.Kids c2) [0],.p (vI (e0.Kids.length:Int)) [],.q vF,.q vF,.q vF,.p (vA (cExpr e0 p c p1 c1 p2 c2)) [0],.p (vI ae) [],.q (.bool y1),.p (.bool (!y1)) [],.p (.bool (!y1)) []] [[],[(0,false)],[(1,false)],[(2,false)],[(2,false),(3,false)],[(2,false),(4,false)],[(2,false)],[(2,false),(6,false)],[(2,false),(7,false)],[(2,false),(5,false),(8,false)],[(2,false),(9,false)],[(10,false)],[(11,false)],[(11,false)],[(11,false),(12,false),(13,false)],[(11,false),(14,false)],[(11,false),(15,false)]] [hB b (cExpr e0 p c p1 c1 p2 c2)] [] [(16,false)] (yR [0]) ?_ ?_
     ·refine Op<|Oq ?_<|Oq ?_<|Op<|Op<|Oq ?_<|Op<|Op<|Op<|Oq ?_<|Oq ?_<|Oq ?_<|Op<|Op<|Oq ?_<|Op<|Op<|On
      ·intro I1 hf ai;refine vQ [8] rfl<|R_p 2 [(9,.bool (decide (af<1)))] ?_;rw[hc];exact vD iR
      ·intro I1 hf ai;exact I_h [(9,vF)]<|R_p 3 [(10,vF)]<|vD iR
      ·intro I1 hf ai;refine vQ [10,12] rfl ?_;have H:=iS I1;refine zAD (gD e0.Kind _ hy ) ?_;intro aP ai;have H:=H.trans ai;exact vD H
      ·intro I1 hf ai;refine vQ [10,13,16] rfl<|R_p 10 [(17,.bool (y != (e0.Kids.length:Int)))] ?_;rw[ay];exact vD iR
      ·intro I1 hf ai;exact vQ [10,17] rfl<|R_p 11 [(18,vF)]<|vD iR
      ·intro I1 hf ai;exact I_h [(18,vF)]<|R_p 12 [(19,vF)]<|vD iR
      intro I1 hf ai;refine vQ [19,20,21] rfl ?_;have H:=iS I1;have ⟨h,h1,h2⟩:=m3 ai h h1 h2;refine sD (zBx e0 ae _ au h h1 h2) ?_;intro bq aL;have H:=H.trans aL;exact vD H
     intro bu aV;refine vQ [1,2,3,24] rfl ?_;have H:=H.trans aV;exact zV rfl<|yM<|zJ (ct N H)
  intro t24 I0 bj aw;have ⟨h,h1,h2⟩:=m3 bj h h1 h2;refine zG<|yJ aw ?_ ?_
  ·intro aJ N;refine tK [(6,vF)]<|xP<|zF ?_;obtain rfl:=zD N;exact wU
  intro aJ N;refine zO<|yL<|xB [7] rfl<|rX<|gY [(1,vI ae),(2,vI af),(3,vP b 0),(7,vI 0)] ?_;obtain⟨aS,ax,aM⟩:=zC N;refine ih_spec_l3Shape_l1 e0 ae af 0 aS ax iR h h1 h2 (λ_ _ _ h=>h) (λ_ _ h=>h) ?_ ?_
  ·intro I07  heq1 le7;subst aS;refine yF<|zEz [(6,vY)]<|zG<|yX ?_;obtain rfl:=zD aM;exact wU
  intro r0 I9 hs9 m9 bb le9 bc;subst bb;refine zS<|zF ?_;obtain rfl:=zD aM;exact xN bc
 intro F_spec_l3Shape F_spec_l3Shape_l1 ih_spec_l3Shape ih_spec_l3Shape_l1 e0 ae af i o N B I0 I Q p c p1 c1 p2 c2 b H h h1 h2 hg ho hx hr;refine uQ hg ho<|yB<|yH<|yS [0] [29] rfl<|zG<|yJ N ?_ ?_
 ·intro bd N;refine zO<|yL<|wM<|yH<|zX 3 [0] [33,34] rfl<|bE N λx aB N=>qY rfl rfl h2 aB ?_;intro ad aA az ap;obtain⟨p3,c3,p4,c4,p5,c5,rfl,h5,h6,h7⟩:=xK ap;refine qU 0 az (cExpr x p3 c3 p4 c4 p5 c5) (vA (cExpr x p3 c3 p4 c4 p5 c5)) rfl<|zX 8 [] [37,39] rfl<|bE N λy2 aK N=>xS (ih_spec_l3Shape x ae (W (af - 1)) _ aK h5 h6 h7) ?_;rintro I06 aj v2 k2 bt - ⟨v05,rfl,rfl,rfl⟩ -;have ⟨h,h1,h2,H⟩:=m4 bt h h1 h2 H;refine yS [] [41] rfl<|zG<|yJ N ?_ ?_
  ·intro bn N;exact tK [(6,vF)]<|xP<|zS<|zF<|zF<|hr _ _ _ _ (zD N).symm H ⟨_,_,(.tmp rfl ResV.nil),zH,⟨_,rfl,rfl,rfl⟩⟩
  intro bn N;exact zO<|zQ<|zG<|zI<|yS [] [7] rfl<|uK<|fW<|ih_spec_l3Shape_l1 e0 ae af (W (i+1)) _ N H h h1 h2 hg ho hx hr
 intro bd N;exact pG<|xW zH<|yM<|hx _  (zD N).symm H
theorem zAl:∀e0 ae af r,vC e0 ae af=some r->∀{I:Imm}{p c p1 c1 p2 c2},(S4 I p e0.Index.Coefs c)->(S4 I p1 e0.Read.Subs c1)->(S4 I p2 e0.Kids c2)->RT 132 [vA (cExpr e0 p c p1 c1 p2 c2),vI ae,vI af] I [] (zP  r):=zAI.1
mutual
def vV(e0:zB)(af:Int):Option (Int):=do
 let n01<-xZ (same e0) (same af) (same 1) (same 0)
 pure (id n01)
 partial_fixpoint
def xZ(e0:zB)(af:Int)(n0:Int)(i:Int):Option (Int):=do
 let t15<-(do
  if(decide (i<(e0.Kids.length:Int))) then
   pure (decide (af>0))
  else
   pure false
    : Option Bool)
 if t15 then
  let x<-idx e0.Kids i
  let y<-vV (same x) (W (af - 1))
  xZ (same e0) (same af) (W (n0+y)) (W (i+1))
 else
  pure (id n0)
 partial_fixpoint
end
theorem zAJ:(∀(e0:zB) (af:Int) r,vV e0 af=some r->∀{I:Imm}{p c p1 c1 p2 c2},(S4 I p e0.Index.Coefs c)->(S4 I p1 e0.Read.Subs c1)->(S4 I p2 e0.Kids c2)->RT 133 [vA (cExpr e0 p c p1 c1 p2 c2),vI af] I [] (yZ  r))/\(∀(e0:zB) (af:Int) (n0:Int) (i:Int) o,xZ e0 af n0 i=some o->∀{B}{I0 I:Imm}{Q p c p1 c1 p2 c2}{b:Nat},I0.le I->(S4 I p e0.Index.Coefs c)->(S4 I p1 e0.Read.Subs c1)->(S4 I p2 e0.Kids c2)->NG Q->NO Q->(∀(I':Imm) (n01:Int),o=n01->I0.le I'->T 29 B Q (.exit 0) I' [] [(5,vI n01)])->J Tryz.prog 29 B (nav (bodyOf f133) [1,1,0,1,0]) Q I [hB b (cExpr e0 p c p1 c1 p2 c2)] [(1,vI af),(2,vP b 0),(5,vI n0),(6,vI i)]):=by
 refine vV.mutual_partial_correctness _ _ ?_ ?_
 ·intro F_spec_l3Count_l1 ih_spec_l3Count_l1 e0 af r N I p c p1 c1 p2 c2 h h1 h2;refine yK func133 λB=>yH<|sM (cExpr e0 p c p1 c1 p2 c2) ?_;intro b hb;refine wG [] []<|qN [5] rfl<|yL<|xB [6] rfl<|rX<|gY [(1,vI af),(2,vP b 0),(5,vI 1),(6,vI 0)] ?_;obtain⟨aS,ax,aM⟩:=zC N;refine ih_spec_l3Count_l1 e0 af 1 0 aS ax iR h h1 h2 (λ_ _ _ h=>h) (λ_ _ h=>h) ?_;intro aP n01 heq1 aG;subst aS;refine yF<|qN [4] rfl<|zG<|yX ?_;obtain rfl:=zD aM;exact wU
 intro F_spec_l3Count F_spec_l3Count_l1 ih_spec_l3Count ih_spec_l3Count_l1 e0 af n0 i o N B I0 I Q p c p1 c1 p2 c2 b H h h1 h2 hg ho hx;refine uQ hg ho<|yB<|yB ?_;refine wT N [hB b (cExpr e0 p c p1 c1 p2 c2)] (λt15=>[(1,vI af),(2,vP b 0),(5,vI n0),(6,vI i),(15,.bool t15)]) (λo0 ar=>?_) ?_
 ·have H:=iS I;refine zI<|zX 6 [0] [12] rfl<|xE [12] ar ?_ ?_
  ·intro hc N;exact yS [] [15] rfl<|yM<|zJ (ct N H)
  intro hc N;exact wG [] [(15,vF)]<|yM<|zJ (ct N H)
 intro t15 I0 le aw;have ⟨h,h1,h2,H⟩:=m4 le h h1 h2 H;refine zG<|yJ aw ?_ ?_
 ·intro ay N;refine zO<|yL<|wM<|zI<|zX 4 [0] [18,20,21] rfl<|bE N λx hy N=>qY rfl rfl h2 hy ?_;intro ad aA az ap;obtain⟨p3,c3,p4,c4,p5,c5,rfl,h3,h4,h5⟩:=xK ap;refine qU 0 az (cExpr x p3 c3 p4 c4 p5 c5) (vA (cExpr x p3 c3 p4 c4 p5 c5)) rfl<|zX 8 [] [25] rfl<|bE N λy au N=>xS (ih_spec_l3Count x (W (af - 1)) _ au h3 h4 h5) ?_;rintro aI aj v2 k2 ai - ⟨v03,rfl,rfl,rfl⟩ -;have ⟨h,h1,h2,H⟩:=m4 ai h h1 h2 H;exact yS [] [5] rfl<|zQ<|zG<|zI<|yS [] [6] rfl<|uK<|fW<|ih_spec_l3Count_l1 e0 af (W (n0+y)) (W (i+1)) _ N H h h1 h2 hg ho hx
 intro ay N;exact pG<|xW zH<|yM<|hx _ _ (zD N).symm H
theorem zAm:∀e0 af r,vV e0 af=some r->∀{I:Imm}{p c p1 c1 p2 c2},(S4 I p e0.Index.Coefs c)->(S4 I p1 e0.Read.Subs c1)->(S4 I p2 e0.Kids c2)->RT 133 [vA (cExpr e0 p c p1 c1 p2 c2),vI af] I [] (yZ  r):=zAJ.1
def uS(s:zL)(ae:Int):Option (Bool):=do
 let t24<-(do
  if(decide (ae<0)) then
   pure true
  else
   if(decide (ae>4)) then
    pure true
   else
    let y<-tI s.Write ae
    if(!y) then
     pure true
    else
     let y1<-vC s.Value ae 5
     pure (!y1)
    : Option Bool)
 if t24 then
  pure false
 else
  let y2<-vV s.Value 5
  pure (decide (y2<=12))
theorem mJ:∀s ae r,uS s ae=some r->∀{I:Imm}{p c p1 c1 p2 c2 p3 c3},(S4 I p s.Write.Subs c)->(S4 I p1 s.Value.Index.Coefs c1)->(S4 I p2 s.Value.Read.Subs c2)->(S4 I p3 s.Value.Kids c3)->RT 78 [vA (cStmt s p c p1 c1 p2 c2 p3 c3),vI ae] I [] (zP  r):=by
 intro s ae r N I p c p1 c1 p2 c2 p3 c3 h h1 h2 h3;unfold uS at N;refine yK func78 λB=>?_;have H:=iS I;refine yH<|sM (cStmt s p c p1 c1 p2 c2 p3 c3) ?_;intro b hb;refine wG [] []<|yL<|yB ?_;refine wT N [hB b (cStmt s p c p1 c1 p2 c2 p3 c3)] (λt24=>[(2,vP b 0),(24,.bool t24)]) (λo0 ar=>?_) ?_
 ·have H:=iS I;refine zI<|zX 3 [] [7] rfl<|xE [7] ar ?_ ?_
  ·intro hc N;exact wG [] [(24,vY)]<|yM<|zJ (ct N H)
  intro hc N;refine zX 7 [] [11] rfl<|xE [11] N ?_ ?_
  ·intro ay N;exact wG [] [(24,vY)]<|yM<|zJ (ct N H)
  intro ay N;refine sW 10 [0] [(13,vA (cAccess s.Write p c)),(14,vI ae)]<|bE N λy hy N=>sD (kG s.Write ae _ hy h) ?_;intro aI le;have ⟨h1,h2,h3,H⟩:=m4 le h1 h2 h3 H;refine zX 14 [] [18] rfl<|xE [18] N ?_ ?_
  ·intro aJ N;exact wG [] [(24,vY)]<|yM<|zJ (ct N H)
  intro aJ N;refine sW 17 [0] [(20,vA (cExpr s.Value p1 c1 p2 c2 p3 c3)),(21,vI ae)]<|bE N λy1 au N=>sD (zAl s.Value ae 5 _ au h1 h2 h3) ?_;intro aP ai;have H:=H.trans ai;exact yS [] [24] rfl<|yM<|zJ (ct N H)
 intro t24 I0 aG aw;have ⟨h1,h2,h3⟩:=m3 aG h1 h2 h3;refine zG<|yJ aw ?_ ?_
 ·intro bd N;refine tK [(4,vF)]<|xP<|zF ?_;obtain rfl:=zD N;exact wU
 intro bd N;refine zO<|yW<|sW 2 [0] [(26,vA (cExpr s.Value p1 c1 p2 c2 p3 c3))]<|bE N λy2 aB N=>zAD (zAm s.Value 5 _ aB h1 h2 h3) λaZ aL=>wG [] [(4,.bool (decide (y2<=12)))]<|zG<|yX ?_;obtain rfl:=zD N;exact wU
def qF(r:zA):KT:=λkk I' ag v=>
 ∃v0,ag=[]/\v=tupV [v0]/\(∃cs,v0=.agg ⟨cs⟩/\Rp.rep I' cs r)
def vH(a0:zA):Option (zA):=do
 if((a0.Coefs.length:Int)==0) then
  pure (zA.mk ([]:List Int) a0.Const)
 else
  let l<-app 8 ([]:List Int) a0.Coefs
  pure (zA.mk l a0.Const)
theorem oO:∀a0 r,vH a0=some r->∀{I:Imm}{p c},(S4 I p a0.Coefs c)->RT 243 [vA (cAff a0 p c)] I [] (qF  r):=by
 intro a0 r N I p c h;unfold vH at N;refine yK func243 λB=>yH<|sM (cAff a0 p c) ?_;intro b hb;refine uF [z0,vI 0] ?_;intro b1 hb1;refine zV rfl<|yL<|yH<|yS [1] [6] rfl<|zG<|yJ N ?_ ?_
 ·intro hc N;refine yH<|sW 3 [1] [(9,vA [z0,vI a0.Const])]<|yT 0 [z0,vI a0.Const] rfl<|zV rfl<|xP<|zF ?_;obtain rfl:=zD N;exact xN ⟨_,_,(.cell 0 rfl rfl (by kernel_rfl) ResV.nil),zH,⟨_,rfl,rfl,⟨_,rfl,(zZ ⟨_,rfl,(SL.nil _)⟩)⟩⟩⟩
 intro hc N;refine zO<|yL<|bE N λl hy N=>sU [.x (λI' v hx=>∃b2,v=vS (some ⟨b2,0,none⟩) ([]:List Int) 0/\hx=[hO Int (vS (some ⟨b2,0,none⟩) ([]:List Int) 0) []]/\(RL I' [] ([]:List Int))),.p (vP b 0) [],.p (vS p a0.Coefs c) [1],.x (λI' v hx=>∃p1 c1 cs,v=vS p1 l c1/\hx=[hO Int (vS p1 l c1) cs]/\(RL I' cs l)),.p (vP b 1) [],.p (vI a0.Const) [1],.x (λI' v hx=>∃aR aT aH,v=vA [vS aR l aT,vI a0.Const]/\hx=[hO Int (vS aR l aT) aH]/\(RL I' aH l))] [[],[],[(1,false)],[(0,true),(2,false)],[],[(4,false)],[(3,true),(5,false)]] [hB b1 [z0,vI 0],hB b (cAff a0 p c)] [] [(6,true)] (yR [0,1]) ?_ ?_
 ·refine Ox ?_<|Op<|Op<|Ox ?_<|Op<|Op<|Ox ?_<|On
  ·intro I1 hf ai;refine I_h []<|jL [] Int ?_;intro b2 hb2;have h1:RL I1 [] ([]:List Int):=rfl;exact tS [hO Int (vS (some ⟨b2,0,none⟩) ([]:List Int) 0) []] iR ⟨_,rfl,rfl,h1⟩
  ·rintro I1 hf ai _ _ ⟨b2,rfl,rfl,h1⟩;refine vQ [10,12] rfl ?_;have h:=h.mono ai;obtain⟨aA,k0,k01⟩:=h;have h:SL I1 (vS p a0.Coefs c) a0.Coefs:=⟨_,k0,k01⟩;exact zAA 3 1 0 rfl rfl rfl h1 (.inl k0) k01 hy λp1 c1 cs h2=>nP (ag:=(hO Int (vS p1 l c1) cs::hB b1 [z0,vI 0]::hB b (cAff a0 p c)::hf)) rfl<|tS [hO Int (vS p1 l c1) cs] iR ⟨_,_,_,rfl,rfl,h2⟩
  rintro I1 hf ai _ _ ⟨p1,c1,cs,rfl,rfl,h2⟩;exact vQ [13,15] rfl<|R_p 7 [(16,vA [vS p1 l c1,vI a0.Const])]<|tS [hO Int (vS p1 l c1) cs] iR ⟨_,_,_,rfl,rfl,h2⟩
 rintro I0 le _ _ ⟨aR,aT,aH,rfl,rfl,h21⟩;refine vQ [2,16] rfl ?_;refine yT 1 [vS aR l aT,vI a0.Const] rfl<|zV rfl<|xP<|tY 0 rfl ?_;intro aI ai hl0;have h3:=SL.of_frozen hl0 ai h21;obtain rfl:=zD N;exact xN ⟨_,_,(.cell 0 rfl rfl (by kernel_rfl) ResV.nil),zH,⟨_,rfl,rfl,⟨_,rfl,(zZ ⟨_,rfl,h3⟩)⟩⟩⟩
def kV(r:zE):KT:=λkk I' ag v=>
 ∃a0_1 c0_1 s0_1,ag=[.osl (.slice a0_1 r.Subs.length c0_1) (Rp.sz zA) s0_1]/\v=tupV [(.agg ⟨[.string ⟨⟨r.Array.l⟩⟩,.slice a0_1 r.Subs.length c0_1]⟩)]/\RepL (Rp.rep I') (Rp.sz zA) s0_1 r.Subs
def xI(a0:zE)(i:Int)(Subs:List zA):Option (List zA):=do
 if(decide (i<(a0.Subs.length:Int))) then
  let x<-idx a0.Subs i
  let y<-vH x
  let l<-app 32 Subs ([y]:List zA)
  xI a0 (W (i+1)) l
 else
  pure (id Subs)
 partial_fixpoint
theorem kH(a0:zE):∀(i:Int) (Subs:List zA) (o:List zA),xI a0 i Subs=some o->∀{B}{I0 I:Imm}{Q p c}{b:Nat}{b1:Nat}{b2:Nat}{p1 c1 cs},I0.le I->(S4 I p a0.Subs c)->(RL I cs Subs)->NG Q->NO Q->(∀(I':Imm) (Subs1:List zA) (p2:Option Addr) (c2:Nat) (aH:List Value),o=Subs1->I0.le I'->(RL I' aH Subs1)->T 27 B Q (.exit 0) I' [hO zA (vS p2 Subs1 c2) aH,hB b2 [vT a0.Array.l,vS p2 Subs1 c2],hB b1 [vT ([]),z0]] [(2,vP b1 0),(3,vP b2 0)])->J Tryz.prog 27 B (nav (bodyOf f211) [1,1,0,1,0]) Q I [hO zA (vS p1 Subs c1) cs,hB b2 [vT a0.Array.l,vS p1 Subs c1],hB b1 [vT ([]),z0],hB b (cAccess a0 p c)] [(1,vP b 0),(2,vP b1 0),(3,vP b2 0),(4,vI i)]:=by
 refine xI.partial_correctness a0 _ λaW ih i Subs o N B I0 I Q p c b b1 b2 p1 c1 cs H h h2 hg ho hx=>uQ hg ho<|yB<|yH<|yS [3] [12] rfl<|zG<|yJ N ?_ ?_
 ·intro hc N;refine zO<|yL<|wM ?_;obtain⟨x,hy,N⟩:=zC N;obtain⟨y,au,N⟩:=zC N;obtain⟨l,aB,N⟩:=zC N;refine sU [.p (vP b2 1) [],.p (vS p1 Subs c1) [0],.p (vP b 1) [],.p (vS p a0.Subs c) [2],.p (vI i) [],.x (ePAff x),.x (eVAff x),.x (eVAff y),.x (λI' v hx=>∃b3,v=vS (some ⟨b3,0,none⟩) ([y]:List zA) 1/\hx=[]/\(SL I' (vS (some ⟨b3,0,none⟩) ([y]:List zA) 1) ([y]:List zA))),.x (λI' v hx=>∃p5 c5 br,v=vS p5 l c5/\hx=[hO zA (vS p5 l c5) br]/\(RL I' br l))] [[],[(0,false)],[],[(2,false)],[],[(3,false),(4,false)],[(5,false)],[(6,false)],[(7,false)],[(1,false),(8,false),(12,true)]] [hB b2 [vT a0.Array.l,vS p1 Subs c1],hB b1 [vT ([]),z0],hB b (cAccess a0 p c)] [[hO zA (vS p1 Subs c1) cs]] [(9,true)] (yR [1,2,3,0]) ?_ ?_
  ·refine Op<|Op<|Op<|Op<|Op<|Ox ?_<|Ox ?_<|Ox ?_<|Ox ?_<|Ox ?_<|On
   ·intro I1 hf ai;refine vQ [18,19] rfl ?_;have h:=h.mono ai;refine qY rfl rfl h hy ?_;intro ad aA az ap;obtain⟨p3,c3,rfl,h4⟩:=yP ap;exact tS [] iR ⟨_,_,_,rfl,rfl,az,h4⟩
   ·rintro I1 hf ai _ _ ⟨ad,p3,c3,rfl,rfl,az,h4⟩;exact vQ [20] rfl<|qU 0 az (cAff x p3 c3) (vA (cAff x p3 c3)) rfl<|tS [] iR ⟨_,_,rfl,rfl,h4⟩
   ·rintro I1 hf ai _ _ ⟨p31,c31,rfl,rfl,h41⟩;refine vQ [21] rfl ?_;have H:=iS I1;refine xS (oO x _ au h41) ?_;rintro I0 aj v2 k2 le - ⟨v01,rfl,rfl,⟨aX,rfl,h5⟩⟩ -;have H:=H.trans le;obtain⟨p4,c4,rfl,h6⟩:=yP h5;exact tS [] H ⟨_,_,rfl,rfl,h6⟩
   ·rintro I1 hf ai _ _ ⟨p4,c4,rfl,rfl,h6⟩;refine vQ [22] rfl ?_;have H:=iS I1;refine mY (rc y (zZ ⟨_,rfl,h6⟩) rN) ?_;intro b3 aI ai h8;have H:=H.trans ai;exact tS [] H ⟨_,rfl,rfl,h8⟩
   rintro I1 hf ai _ _ ⟨rfl,rfl⟩ _ _ ⟨b3,rfl,rfl,h8⟩ _ _ rfl;refine vQ [16,23] rfl ?_;have h2:=iM ai h2;obtain⟨bv,k0,k01⟩:=h8;have h8:SL I1 (vS (some ⟨b3,0,none⟩) ([y]:List zA) 1) ([y]:List zA):=⟨_,k0,k01⟩;exact zAA 50 2 0 rfl rfl rfl h2 (.inl k0) k01 aB λp5 c5 br h9=>nP (ag:=(hO zA (vS p5 l c5) br::hB b2 [vT a0.Array.l,vS p1 Subs c1]::hB b1 [vT ([]),z0]::hB b (cAccess a0 p c)::hf)) rfl<|tS [hO zA (vS p5 l c5) br] iR ⟨_,_,_,rfl,rfl,h9⟩
  rintro aP aG _ _ ⟨p5,c5,br,rfl,rfl,h9⟩;refine vQ [1,2,3,4,24] rfl ?_;have ⟨h,H⟩:=m2 aG h H;exact zX 11 [] [25] rfl<|yT 1 [vT a0.Array.l,vS p5 l c5] rfl<|zV rfl<|zQ<|zG<|zI<|yS [] [4] rfl<|uK<|fW<|ih (W (i+1)) l _ N H h h9 hg ho hx
 intro hc N;exact pG<|xW (zN [0,1,2] rfl (by decide))<|yM<|hx _ _ _ _ _ (zD N).symm H h2
def vJ(a0:zE):Option (zE):=do
 let Subs1<-xI a0 0 ([]:List zA)
 pure (zE.mk a0.Array Subs1)
theorem oQ:∀a0 r,vJ a0=some r->∀{I:Imm}{p c},(S4 I p a0.Subs c)->RT 211 [vA (cAccess a0 p c)] I [] (kV  r):=by
 intro a0 r N I p c h;unfold vJ at N;refine yK func211 λB=>yH<|sM (cAccess a0 p c) ?_;intro b hb;refine uF [vT ([]),z0] ?_;intro b1 hb1;refine zV rfl<|yW<|sW 3 [1] [(7,vA [vT a0.Array.l,z0])]<|uF [vT ([]),z0] ?_;intro b2 hb2;refine yT 0 [vT a0.Array.l,z0] rfl<|zV rfl<|yL<|xB [4] rfl<|rX<|gY [(1,vP b 0),(2,vP b1 0),(3,vP b2 0),(4,vI 0)]<|zED zA λh1=>?_;obtain⟨o0,ar,aM⟩:=zC N;refine kH a0 0 ([]:List zA) o0 ar iR h h1 (λ_ _ _ h=>h) (λ_ _ h=>h) ?_;intro aZ Subs1 p2 c2 aH heq aL h3;subst o0;refine yF<|yW<|sW 1 [1] [(26,vA [vT a0.Array.l,vS p2 Subs1 c2])]<|yT 2 [vT a0.Array.l,vS p2 Subs1 c2] rfl<|zV rfl<|zG<|yX ?_;obtain rfl:=zD aM;exact xN ⟨_,_,(.cell 2 rfl rfl (by kernel_rfl) ResV.nil),(zN [0] rfl (by decide)),⟨_,_,_,rfl,rfl,h3⟩⟩
def kI(r:Int×Bool):KT:=λkk I' ag v=>
 ∃v0 v1,ag=[]/\v=tupV [v0,v1]/\v0=.int .i64 r.1/\v1=.bool r.2
def gE(b0:Nat)(r:Int×zK):KT:=λkk I' ag v=>
 ∃v0 k0,ag=[.blk b0 ⟨k0⟩]/\v=tupV [v0]/\v0=.int .i64 r.1/\Rp.rep I' k0 r.2
def yV(r0:zK)(n0:Int):Option (Int×zK):=do
 let t24<-(do
  if(decide (n0<1)) then
   pure true
  else
   pure ((r0.b.length:Int)==0)
    : Option Bool)
 if t24 then
  pure (0,(zK.mk r0.b (W (r0.p+1))))
 else
  if(decide ((W ((W (r0.p+1)) - 1))<(r0.b.length:Int))) then
   let x<-idx r0.b (W ((W (r0.p+1)) - 1))
   let q<-rem (W (x.toNat:Int)) n0
   pure (q,(zK.mk r0.b (W (r0.p+1))))
  else
   let q1<-rem (W ((W (r0.p+1)) - 1)) (r0.b.length:Int)
   let x1<-idx r0.b q1
   let q2<-rem (W ((W ((W ((W (r0.p+1)) - 1))*7))+3)) (r0.b.length:Int)
   let x2<-idx r0.b q2
   let q3<-quo (W ((W (r0.p+1)) - 1)) (r0.b.length:Int)
   let q4<-rem (W (BitVec.ofInt IntKind.i64.bits (W ((W ((W ((W ((W (x1.toNat:Int))*131))+(W ((W (x2.toNat:Int))*1117))))+(W ((W ((W (r0.p+1)) - 1))*29))))+(W (q3*53)))) ^^^ BitVec.ofInt IntKind.i64.bits (W ((W ((W ((W ((W ((W (x1.toNat:Int))*131))+(W ((W (x2.toNat:Int))*1117))))+(W ((W ((W (r0.p+1)) - 1))*29))))+(W (q3*53)))).tdiv 64))).toNat) n0
   pure (q4,(zK.mk r0.b (W (r0.p+1))))
theorem xT:∀r0 n0 r,yV r0 n0=some r->∀{I:Imm}{al:Nat}{p c},(S4 I p r0.b c)->RT 68 [vP al 0,vI n0] I [hB al (cRd r0 p c)] (gE al r):=by
 intro r0 n0 r N I al p c h;unfold yV at N;refine yK func68 λB=>?_;have H:=iS I;refine tK []<|yW<|zX 8 [0] [12,14] rfl<|yT 0 [vS p r0.b c,vI (W (r0.p+1))] rfl<|zV rfl<|yL<|yB ?_;refine wT N [hB al [vS p r0.b c,vI (W (r0.p+1))]] (λt24=>[(0,vP al 0),(1,vI n0),(24,.bool t24)]) (λo0 ar=>?_) ?_
 ·have H:=iS I;refine zI<|zX 3 [] [17] rfl<|xE [17] ar ?_ ?_
  ·intro hc N;exact wG [] [(24,vY)]<|yM<|zJ (ct N H)
  intro hc N;exact yS [0] [24] rfl<|yM<|zJ (ct N H)
 intro t24 I0 le aw;have h:=h.mono le;refine zG<|yJ aw ?_ ?_
 ·intro ay N;refine xB [4] rfl<|xP<|zF ?_;obtain rfl:=zD N;exact xN ⟨_,_,(.tmp rfl ResV.nil),(zN [0] rfl (by decide)),⟨_,_,rfl,rfl,rfl,(xH ⟨_,rfl,h⟩)⟩⟩
 intro ay N;refine zO<|yW<|yS [0] [5] rfl<|yL<|yH<|yS [0] [36] rfl<|zG<|yJ N ?_ ?_
 ·intro aJ N;refine yH<|zX 5 [0] [40,41] rfl<|bE N λx hy N=>qY rfl rfl h hy ?_;intro ad aA az ap;obtain rfl:=ap;refine qU 0 az [.int .u8 (x.toNat:Int)] (.int .u8 (x.toNat:Int)) rfl<|zX 9 [] [44,45] rfl<|bE N λq au N=>zHo rfl au<|yS [] [4] rfl<|xP<|zF ?_;obtain rfl:=zD N;exact xN ⟨_,_,(.tmp rfl ResV.nil),(zN [0] rfl (by decide)),⟨_,_,rfl,rfl,rfl,(xH ⟨_,rfl,h⟩)⟩⟩
 intro aJ N;refine zO<|yL<|zBH (by kernel_rfl) (by kernel_rfl)<|zFm 10 [0,0] [50,51,56] rfl<|bE N λq1 aB N=>zHE rfl aB<|bE N λx1 aK N=>zE3 rfl rfl h aK ?_;intro ad1 bv aQ aN;obtain rfl:=aN;refine zE2 0 aQ [.int .u8 (x1.toNat:Int)] (.int .u8 (x1.toNat:Int)) rfl<|zFm 27 [0,0] [61,65,68,73] rfl<|bE N λq2 aY N=>zHE rfl aY<|bE N λx2 bo N=>zE3 rfl rfl h bo ?_;intro ad2 bP bQ bO;obtain rfl:=bO;refine zE2 0 bQ [.int .u8 (x2.toNat:Int)] (.int .u8 (x2.toNat:Int)) rfl<|zFm 42 [0] [82,83,88] rfl<|bE N λq3 hy6 N=>zHn rfl hy6<|zHq [] [6] rfl<|qN [6] rfl<|yW<|zX 2 [] [96,97] rfl<|bE N λq4 hy7 N=>zHo rfl hy7<|yS [] [4] rfl<|zG<|yX ?_;obtain rfl:=zD N;exact xN ⟨_,_,(.tmp rfl ResV.nil),(zN [0] rfl (by decide)),⟨_,_,rfl,rfl,rfl,(xH ⟨_,rfl,h⟩)⟩⟩
def fD(b0:Nat)(r:Int×zK):KT:=λkk I' ag v=>
 ∃v0 k0,ag=[.blk b0 ⟨k0⟩]/\v=tupV [v0]/\v0=.int .i64 r.1/\Rp.rep I' k0 r.2
def xC(r0:zK)(aq:(List Int)):Option (Int×zK):=do
 let (y1,y2)<-yV r0 (aq.length:Int)
 let x<-idx aq y1
 pure (x,y2)
theorem wC:∀r0 aq r,xC r0 aq=some r->∀{I:Imm}{al:Nat}{p c p1 c1},(S4 I p r0.b c)->(S4 I p1 aq c1)->RT 105 [vP al 0,vS p1 aq c1] I [hB al (cRd r0 p c)] (fD al r):=by
 intro r0 aq r N I al p c p1 c1 h h1;unfold xC at N;refine yK func105 λB=>tK []<|yW<|zX 4 [] [5,6,8] rfl ?_;obtain⟨⟨y1,y2⟩,hy,N⟩:=zC N;refine tT (xT r0 (aq.length:Int) _ hy h) rfl ?_;rintro I0 aj v2 k2 le - ⟨v0,kk,rfl,rfl,rfl,h3⟩ -;have h1:=h1.mono le;obtain⟨p2,c2,rfl,h4⟩:=zW h3;obtain⟨x,au,N⟩:=zC N;refine qY rfl rfl h1 au ?_;intro ad aA az ap;obtain rfl:=ap;refine qU 0 az [vI x] (vI x) rfl<|yS [] [4] rfl<|zG<|yX ?_;obtain rfl:=zD N;exact xN ⟨_,_,(.tmp rfl ResV.nil),(zN [0] rfl (by decide)),⟨_,_,rfl,rfl,rfl,(xH ⟨_,rfl,h4⟩)⟩⟩
def uD(n01:Int)(aF:Str):Option ((Int×Str)):=do
 if(decide (n01>9)) then
  let s1<-cat (⟨([(u8 (W (48+(n01.tmod 10))))]:List UInt8)⟩:Str) aF
  uD (W (n01.tdiv 10)) s1
 else
  pure (n01,aF)
 partial_fixpoint
theorem eV :∀(n01:Int) (aF:Str) (o:(Int×Str)),uD n01 aF=some o->∀{B}{I0 I:Imm}{Q}  ,I0.le I->NG Q->NO Q->(∀(I':Imm) (n02:Int) (aC:Str),o=(n02,aC)->I0.le I'->T 31 B Q (.exit 0) I' [] [(0,vI n02),(3,vT aC.l)])->J Tryz.prog 31 B (nav (bodyOf f39) [1,1,1,1,0,0]) Q I [] [(0,vI n01),(3,vT aF.l)]:=by
 refine uD.partial_correctness  _ λaW ih n01 aF o N B I0 I Q H hg ho hx=>uQ hg ho<|yB<|xB [13] rfl<|zG<|yJ N ?_ ?_
 ·intro aJ N;refine zO<|rX<|yH<|zX 3 [] [16] rfl<|zHl (d:=17) (i:=(W (48+(n01.tmod 10)))) rfl (by kernel_rfl)<|jL [.int .u8 ((u8 (W (48+(n01.tmod 10)))).toNat:Int)] UInt8 ?_;intro b hb;have h1:RL I [.int .u8 ((u8 (W (48+(n01.tmod 10)))).toNat:Int)] ([(u8 (W (48+(n01.tmod 10))))]:List UInt8):=⟨[.int .u8 ((u8 (W (48+(n01.tmod 10)))).toNat:Int)],_,rfl,rfl,rfl,rfl⟩;exact zAw (l:=([(u8 (W (48+(n01.tmod 10))))]:List UInt8)) rfl rfl rfl rfl (by kernel_rfl) (by kernel_rfl) (.inr ⟨0,rfl⟩) h1<|zX 7 [] [20] rfl<|bE N λs1 aB N=>rM rfl aB<|yS [] [3] rfl<|zG<|zI<|yS [] [0] rfl<|zQ<|uK<|zBv zH<|fW<|ih (W (n01.tdiv 10)) s1 _ N H  hg ho hx
 intro aJ N;exact pG<|yM<|hx _ _ _ (zD N).symm H
def wR(n0:Int):Option (Str):=do
 if(decide (n0<(-9223372036854775807))) then
  pure (⟨[45,57,50,50,51,51,55,50,48,51,54,56,53,52,55,55,53,56,48,56]⟩:Str)
 else
  if(decide (n0<0)) then
   let y<-wR (W (0 - n0))
   let s<-cat (⟨[45]⟩:Str) y
   pure (id s)
  else
   let (n02,aC)<-uD n0 (⟨[]⟩:Str)
   let s2<-cat (⟨([(u8 (W (48+n02)))]:List UInt8)⟩:Str) aC
   pure (id s2)
 partial_fixpoint
theorem nW:∀n0 r,wR n0=some r->∀{I:Imm} ,RT 39 [vI n0] I [] (yI  r):=by
 refine wR.partial_correctness _ λF_spec_l16Dec ih_spec_l16Dec n0 r N I=>yK func39 λB=>tK []<|yL<|xB [5] rfl<|zG<|yJ N ?_ ?_
 ·intro hc N;refine xB [2] rfl<|xP<|zF ?_;obtain rfl:=zD N;exact wU
 intro hc N;refine zO<|yL<|xB [7] rfl<|zG<|yJ N ?_ ?_
 ·intro ay N;refine yH<|zX 2 [] [9] rfl<|bE N λy hy N=>xS (ih_spec_l16Dec (W (0 - n0)) _ hy ) ?_;rintro I0 aj v2 k2 le - ⟨v0,rfl,rfl,rfl⟩ -;obtain⟨s,au,N⟩:=zC N;refine rM rfl au<|yS [] [2] rfl<|xP<|zF ?_;obtain rfl:=zD N;exact wU
 intro ay N;refine zO<|qN [3] rfl<|yL<|wM<|gY [(0,vI n0),(3,vT ([]))] ?_;obtain⟨o0,ar,aM⟩:=zC N;refine eV n0 (⟨[]⟩:Str) o0 ar iR  (λ_ _ _ h=>h) (λ_ _ h=>h) ?_;intro aI n02 aC heq ai;subst o0;refine yF<|yW<|zX 2 [] [25] rfl<|zHl (d:=26) (i:=(W (48+n02))) rfl (by kernel_rfl)<|jL [.int .u8 ((u8 (W (48+n02))).toNat:Int)] UInt8 ?_;intro b1 hb1;have h2:RL aI [.int .u8 ((u8 (W (48+n02))).toNat:Int)] ([(u8 (W (48+n02)))]:List UInt8):=⟨[.int .u8 ((u8 (W (48+n02))).toNat:Int)],_,rfl,rfl,rfl,rfl⟩;refine zAw (l:=([(u8 (W (48+n02)))]:List UInt8)) rfl rfl rfl rfl (by kernel_rfl) (by kernel_rfl) (.inr ⟨0,rfl⟩) h2<|zX 6 [] [29] rfl ?_;obtain⟨s2,aK,N⟩:=zC aM;refine rM rfl aK<|yS [] [2] rfl<|zG<|yX ?_;obtain rfl:=zD N;exact wU
def uL(n0:Int)(name:Str):Option (Str):=do
 let (n01,sign)<-(do
  if(decide (n0<0)) then
   pure ((W (0 - n0)),(⟨[45]⟩:Str))
  else
   pure (n0,(⟨[43]⟩:Str))
    : Option (Int×Str))
 if(name.l==([]:List UInt8)) then
  let y<-wR n01
  let s<-cat sign y
  pure (id s)
 else
  if(n01==1) then
   let s1<-cat sign name
   pure (id s1)
  else
   let y1<-wR n01
   let s2<-cat sign y1
   let s3<-cat s2 (⟨[42]⟩:Str)
   let s4<-cat s3 name
   pure (id s4)
theorem gF:∀n0 name r,uL n0 name=some r->∀{I:Imm} ,RT 154 [vI n0,vT name.l] I [] (yI  r):=by
 intro n0 name r N I;unfold uL at N;refine yK func154 λB=>?_;have H:=iS I;refine tK []<|qN [5] rfl<|yL<|xB [7] rfl<|zG ?_;obtain⟨o0,ar,aw⟩:=zC N;refine rR (λI' ag m'=>∃(n01:Int) (sign:Str),o0=(n01,sign)/\I.le I'/\ag=[]/\m'=[(0,vI n01),(1,vT name.l),(5,vT sign.l)]) ?_ ?_
 ·have H:=iS I;refine yJ ar ?_ ?_
  ·intro hc N;exact xB [5] rfl<|zG<|zI<|yS [] [0] rfl<|yM<|zJ ⟨_,_,(zD N).symm,H,rfl,rfl⟩
  intro hc N;exact zO<|yM<|zJ ⟨_,_,(zD N).symm,H,rfl,rfl⟩
 rintro I0 aj m2 ⟨n01,sign,heq,le,rfl,rfl⟩;subst o0;refine yL<|xB [11] rfl<|zG<|yJ aw ?_ ?_
 ·intro ay N;refine yH<|zX 2 [] [12,13] rfl<|bE N λy hy N=>xS (nW n01 _ hy ) ?_;rintro aI aj v2 k2 ai - ⟨v0,rfl,rfl,rfl⟩ -;obtain⟨s,au,N⟩:=zC N;refine rM rfl au<|yS [] [4] rfl<|xP<|zF ?_;obtain rfl:=zD N;exact wU
 intro ay N;refine zO<|yL<|xB [17] rfl<|zG<|yJ N ?_ ?_
 ·intro aJ N;refine yH<|zX 2 [] [18,19] rfl<|bE N λs1 aB N=>rM rfl aB<|yS [] [4] rfl<|xP<|zF ?_;obtain rfl:=zD N;exact wU
 intro aJ N;refine zO<|yW<|zX 2 [] [21,22] rfl<|bE N λy1 aK N=>xS (nW n01 _ aK ) ?_;rintro aP aj v2 k2 aG - ⟨v01,rfl,rfl,rfl⟩ -;obtain⟨s2,aY,N⟩:=zC N;refine rM rfl aY<|bE N λs3 bo N=>rM rfl bo<|zX 6 [] [26] rfl<|bE N λs4 hy6 N=>rM rfl hy6<|yS [] [4] rfl<|zG<|yX ?_;obtain rfl:=zD N;exact wU
def vE(a0:zA)(aF:Str)(i:Int):Option (Str):=do
 if(decide (i<(a0.Coefs.length:Int))) then
  let x<-idx a0.Coefs i
  let aO<-(do
   if(x != 0) then
    let x1<-idx a0.Coefs i
    let s<-sslc (⟨[105,106,107,108]⟩:Str) i (W (i+1))
    let y<-uL x1 s
    let s1<-cat aF y
    pure (id s1)
   else
    pure (id aF)
     : Option Str)
  vE a0 aO (W (i+1))
 else
  pure (id aF)
 partial_fixpoint
theorem eW(a0:zA):∀(aF:Str) (i:Int) (o:Str),vE a0 aF i=some o->∀{B}{I0 I:Imm}{Q p c}{b:Nat},I0.le I->(S4 I p a0.Coefs c)->NG Q->NO Q->(∀(I':Imm) (aC:Str),o=aC->I0.le I'->T 46 B Q (.exit 0) I' [hB b (cAff a0 p c)] [(1,vP b 0),(3,vT aC.l)])->J Tryz.prog 46 B (nav (bodyOf f92) [1,1,0,1,0]) Q I [hB b (cAff a0 p c)] [(1,vP b 0),(3,vT aF.l),(4,vI i)]:=by
 refine vE.partial_correctness a0 _ λaW ih aF i o N B I0 I Q p c b H h hg ho hx=>uQ hg ho<|yB<|yH<|yS [0] [9] rfl<|zG<|yJ N ?_ ?_
 ·intro hc N;refine zO<|yL<|wM<|yH<|zX 3 [0] [13,14] rfl<|bE N λx hy N=>qY rfl rfl h hy ?_;intro ad aA az ap;obtain rfl:=ap;refine qU 0 az [vI x] (vI x) rfl<|yS [] [17] rfl<|zG ?_;refine wT N [hB b (cAff a0 p c)] (λaO=>[(1,vP b 0),(3,vT aO.l),(4,vI i)]) (λo0 ar=>?_) ?_
  ·have H:=iS I;refine yJ ar ?_ ?_
   ·intro ay N;obtain⟨x1,au,N⟩:=zC N;obtain⟨s,aB,N⟩:=zC N;obtain⟨y,aK,N⟩:=zC N;obtain⟨s1,aY,N⟩:=zC N;refine sU [.p (vT aF.l) [],.p (vP b 0) [],.p (vS p a0.Coefs c) [0],.p (vI i) [],.x (λI' v hx=>∃ad1,v=.pointer (some ad1)/\hx=[]/\(At I' ad1 [vI x1])),.q (vI x1),.p (vI i) [],.p (vI i) [],.p (vI (W (i+1))) [],.q (vT s.l),.q (vT y.l),.q (vT s1.l)] [[],[],[(1,false)],[],[(2,false),(3,false)],[(4,false)],[],[],[(7,false)],[(6,false),(8,false)],[(5,false),(9,false)],[(0,false),(10,false)]] [hB b (cAff a0 p c)] [] [(11,false)] (yR [0]) ?_ ?_
    ·refine Op<|Op<|Op<|Op<|Ox ?_<|Oq ?_<|Op<|Op<|Op<|Oq ?_<|Oq ?_<|Oq ?_<|On
     ·intro I1 hf ai;refine vQ [20,21] rfl ?_;have h:=h.mono ai;refine qY rfl rfl h au ?_;intro ad1 bv aQ aN;obtain rfl:=aN;exact tS [] iR ⟨_,rfl,rfl,aQ⟩
     ·rintro I1 hf ai _ _ ⟨ad1,rfl,rfl,aQ⟩;exact vQ [22] rfl<|qU 0 aQ [vI x1] (vI x1) rfl<|vD iR
     ·intro I1 hf ai;exact vQ [24,26] rfl<|mD rfl aB<|vD iR
     ·intro I1 hf ai;refine vQ [23,27] rfl ?_;have H:=iS I1;refine xS (gF x1 s _ aK ) ?_;rintro aI aj v2 k2 le - ⟨v0,rfl,rfl,rfl⟩ -;have H:=H.trans le;exact vD H
     intro I1 hf ai;exact vQ [18,28] rfl<|rM rfl aY<|vD iR
    intro aP ai;refine vQ [1,4,29] rfl ?_;have H:=H.trans ai;exact yS [] [3] rfl<|yM<|zJ (ct N H)
   intro ay N;exact zO<|yM<|zJ (ct N H)
  intro aO I0 aG aw;have ⟨h,H⟩:=m2 aG h H;exact zQ<|zG<|zI<|yS [] [4] rfl<|uK<|fW<|ih aO (W (i+1)) _ aw H h hg ho hx
 intro hc N;exact pG<|yM<|hx _ _ (zD N).symm H
def tV(a0:zA):Option (Str):=do
 let aC<-vE a0 (⟨[]⟩:Str) 0
 let bx<-(do
  if(a0.Const != 0) then
   let y1<-uL a0.Const (⟨[]⟩:Str)
   let s2<-cat aC y1
   pure (id s2)
  else
   pure (id aC)
    : Option Str)
 if(bx.l==([]:List UInt8)) then
  pure (⟨[48]⟩:Str)
 else
  let s3<-sslc bx 0 1
  if(s3.l==([43]:List UInt8)) then
   let s4<-sslc bx 1 (bx.l.length:Int)
   pure (id s4)
  else
   pure (id bx)
theorem nX:∀a0 r,tV a0=some r->∀{I:Imm}{p c},(S4 I p a0.Coefs c)->RT 92 [vA (cAff a0 p c)] I [] (yI  r):=by
 intro a0 r N I p c h;unfold tV at N;refine yK func92 λB=>?_;have H:=iS I;refine yH<|sM (cAff a0 p c) ?_;intro b hb;refine wG [] []<|qN [3] rfl<|yL<|xB [4] rfl<|rX<|gY [(1,vP b 0),(3,vT ([])),(4,vI 0)] ?_;obtain⟨aS,ax,aM⟩:=zC N;refine eW a0 (⟨[]⟩:Str) 0 aS ax iR h (λ_ _ _ h=>h) (λ_ _ h=>h) ?_;intro aZ aC heq1 aL;subst aS;have H:=H.trans aL;refine yF<|yL<|yH<|yS [0] [32] rfl<|zG ?_;refine wT aM [] (λbx=>[(3,vT bx.l)]) (λo02 ho02=>?_) ?_
 ·have H:=iS aZ;refine yJ ho02 ?_ ?_
  ·intro aJ N;refine zI<|zX 3 [0] [33,35] rfl<|bE N λy1 bo N=>xS (gF a0.Const (⟨[]⟩:Str) _ bo ) ?_;rintro bu aj v2 k2 aV - ⟨v01,rfl,rfl,rfl⟩ -;have H:=H.trans aV;obtain⟨s2,hy6,N⟩:=zC N;exact rM rfl hy6<|yS [] [3] rfl<|xW zH<|yM<|zJ (ct N H)
  intro aJ N;exact zO<|xW zH<|yM<|zJ (ct N H)
 intro bx bq bj hMc1;refine yL<|xB [39] rfl<|zG<|yJ hMc1 ?_ ?_
 ·intro bd N;refine xB [2] rfl<|xP<|zF ?_;obtain rfl:=zD N;exact wU
 intro bd N;refine zO<|yL<|yH<|zX 1 [] [40] rfl<|bE N λs3 hy7 N=>mD rfl hy7<|yS [] [42] rfl<|zG<|yJ N ?_ ?_
 ·intro bn N;refine yH<|zX 1 [] [43] rfl<|bE N λs4 hy8 N=>mD rfl hy8<|yS [] [2] rfl<|xP<|zF ?_;obtain rfl:=zD N;exact wU
 intro bn N;refine zO<|qN [2] rfl<|zG<|yX ?_;obtain rfl:=zD N;exact wU
def xR(aq:(List zA))(aF:Str)(i:Int):Option (Str):=do
 if(decide (i<(aq.length:Int))) then
  let aO<-(do
   if(decide (i>0)) then
    let s<-cat aF (⟨[44]⟩:Str)
    pure (id s)
   else
    pure (id aF)
     : Option Str)
  let x<-idx aq i
  let y<-tV x
  let s1<-cat aO y
  xR aq s1 (W (i+1))
 else
  pure (id aF)
 partial_fixpoint
theorem jO(aq:(List zA)):∀(aF:Str) (i:Int) (o:Str),xR aq aF i=some o->∀{B}{I0 I:Imm}{Q p c},I0.le I->(S4 I p aq c)->NG Q->NO Q->(∀(I':Imm) (aC:Str),o=aC->I0.le I'->T 23 B Q (.exit 0) I' [] [(3,vT aC.l)])->J Tryz.prog 23 B (nav (bodyOf f91) [1,1,0,1,0]) Q I [] [(0,vS p aq c),(3,vT aF.l),(4,vI i)]:=by
 refine xR.partial_correctness aq _ λaW ih aF i o N B I0 I Q p c H h hg ho hx=>uQ hg ho<|yB<|xB [8] rfl<|zG<|yJ N ?_ ?_
 ·intro hc N;refine zO<|yL<|wM<|yB<|xB [12] rfl<|zG ?_;refine wT N [] (λaO=>[(0,vS p aq c),(3,vT aO.l),(4,vI i)]) (λo0 ar=>?_) ?_
  ·have H:=iS I;refine yJ ar ?_ ?_
   ·intro ay N;exact zI<|zX 1 [] [13] rfl<|bE N λs hy N=>rM rfl hy<|yS [] [3] rfl<|yM<|zJ (ct N H)
   intro ay N;exact zO<|yM<|zJ (ct N H)
  intro aO I0 le aw;have ⟨h,H⟩:=m2 le h H;refine zG<|zI<|zX 3 [] [15,16,17] rfl ?_;obtain⟨x,au,N⟩:=zC aw;refine qY rfl rfl h au ?_;intro ad aA az ap;obtain⟨p1,c1,rfl,h1⟩:=yP ap;refine qU 0 az (cAff x p1 c1) (vA (cAff x p1 c1)) rfl<|bE N λy aB N=>xS (nX x _ aB h1) ?_;rintro aI aj v2 k2 ai - ⟨v01,rfl,rfl,rfl⟩ -;have ⟨h,H⟩:=m2 ai h H;obtain⟨s1,aK,N⟩:=zC N;exact rM rfl aK<|yS [] [3] rfl<|zQ<|zG<|zI<|yS [] [4] rfl<|uK<|fW<|ih s1 (W (i+1)) _ N H h hg ho hx
 intro hc N;exact pG<|yM<|hx _ _ (zD N).symm H
def tB(aq:(List zA)):Option (Str):=do
 let aC<-xR aq (⟨[]⟩:Str) 0
 pure (id aC)
theorem eA:∀aq r,tB aq=some r->∀{I:Imm}{p c},(S4 I p aq c)->RT 91 [vS p aq c] I [] (yI  r):=by
 intro aq r N I p c h;unfold tB at N;refine yK func91 λB=>tK []<|qN [3] rfl<|yL<|xB [4] rfl<|rX<|gY [(0,vS p aq c),(3,vT ([])),(4,vI 0)] ?_;obtain⟨aS,ax,aM⟩:=zC N;refine jO aq (⟨[]⟩:Str) 0 aS ax iR h (λ_ _ _ h=>h) (λ_ _ h=>h) ?_;intro aP aC heq1 aG;subst aS;refine yF<|qN [2] rfl<|zG<|yX ?_;obtain rfl:=zD aM;exact wU
def vK(a0:zE):Option (Str):=do
 let s<-cat a0.Array (⟨[91]⟩:Str)
 let y<-tB a0.Subs
 let s1<-cat s y
 let s2<-cat s1 (⟨[93]⟩:Str)
 pure (id s2)
theorem oR:∀a0 r,vK a0=some r->∀{I:Imm}{p c},(S4 I p a0.Subs c)->RT 41 [vA (cAccess a0 p c)] I [] (yI  r):=by
 intro a0 r N I p c h;unfold vK at N;refine yK func41 λB=>?_;have H:=iS I;refine yH<|sM (cAccess a0 p c) ?_;intro b hb;refine wG [] []<|zG<|yB ?_;obtain⟨s,hy,N⟩:=zC N;obtain⟨y,au,N⟩:=zC N;obtain⟨s1,aB,N⟩:=zC N;obtain⟨s2,aK,N⟩:=zC N;refine sU [.p (vP b 0) [],.p (vT a0.Array.l) [0],.q (vT s.l),.p (vP b 1) [],.p (vS p a0.Subs c) [0],.q (vT y.l),.q (vT s1.l),.q (vT s2.l)] [[],[(0,false)],[(1,false)],[],[(3,false)],[(4,false)],[(2,false),(5,false)],[(6,false)]] [hB b (cAccess a0 p c)] [] [(7,false)] (yR [0]) ?_ ?_
 ·refine Op<|Op<|Oq ?_<|Op<|Op<|Oq ?_<|Oq ?_<|Oq ?_<|On
  ·intro I1 hf ai;exact vQ [4] rfl<|rM rfl hy<|vD iR
  ·intro I1 hf ai;refine vQ [7] rfl ?_;have H:=iS I1;have h:=h.mono ai;refine xS (eA a0.Subs _ au h) ?_;rintro I0 aj v2 k2 le - ⟨v0,rfl,rfl,rfl⟩ -;have H:=H.trans le;exact vD H
  ·intro I1 hf ai;exact vQ [5,8] rfl<|rM rfl aB<|vD iR
  intro I1 hf ai;exact vQ [9] rfl<|rM rfl aK<|vD iR
 intro aI ai;refine vQ [10] rfl ?_;refine yS [] [2] rfl<|zG<|yX ?_;obtain rfl:=zD N;exact wU
end Go.LN
