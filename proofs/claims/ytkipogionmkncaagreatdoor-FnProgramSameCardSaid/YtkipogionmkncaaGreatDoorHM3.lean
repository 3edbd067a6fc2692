/- Helper of the proof (see the last text). -/
import Derived.Test.YtkipogionmkncaaGreatDoorHM2
set_option linter.unusedVariables false
set_option linter.unusedSimpArgs false
namespace Go.LN
open Go.Proofs Go.Proofs.Tryz
set_option maxRecDepth 20000
def fS(e0:zD)(aa:Int):Option (Bool):=do
 if(e0.Kind==2) then
  let t4<-(do
   if(e0.Num==0) then
    let y<-mB e0.Read
    if y then
     let y1<-tM e0.Index
     if y1 then
      let y2<-mA e0.Index
      pure (decide (y2<=aa))
     else
      pure false
    else
     pure false
   else
    pure false
     : Option Bool)
  pure (id t4)
 else
  if(e0.Kind==3) then
   let t41<-(do
    if(e0.Num==0) then
     let y3<-kC e0.Index
     if y3 then
      let y4<-mL e0.Read aa
      pure (id y4)
     else
      pure false
    else
     pure false
      : Option Bool)
   pure (id t41)
  else
   if(e0.Kind==1) then
    let t42<-(do
     if(decide (e0.Num>=0)) then
      if(decide (e0.Num<=99)) then
       let y5<-kC e0.Index
       if y5 then
        let y6<-mB e0.Read
        pure (id y6)
       else
        pure false
      else
       pure false
     else
      pure false
       : Option Bool)
    pure (id t42)
   else
    let t43<-(do
     if(e0.Num==0) then
      let y7<-kC e0.Index
      if y7 then
       let y8<-mB e0.Read
       pure (id y8)
      else
       pure false
     else
      pure false
       : Option Bool)
    pure (id t43)
theorem zGL:∀e0 aa r,fS e0 aa=some r->∀{I:Imm}{p c p1 c1 p2 c2},(S4 I p e0.Index.Coefs c)->(S4 I p1 e0.Read.Subs c1)->(S4 I p2 e0.Kids c2)->RT 190 [vA (cExpr e0 p c p1 c1 p2 c2),vI aa] I [] (zQ  r):=by
 intro e0 aa r N I p c p1 c1 p2 c2 h h1 h2;unfold fS at N;refine yP func190 λB=>?_;have H:=iS I;refine yE<|vM (cExpr e0 p c p1 c1 p2 c2) ?_;intro b hb;refine wN [] []<|zW<|yE<|yQ [0] [7] rfl<|zI<|yC N ?_ ?_
 ·intro hc N;refine yA ?_;refine wQ N [] (λt4=>[(4,.bool t4)]) (λo0 az=>?_) ?_
  ·have H:=iS I;refine zL<|yG 4 [0] [11] rfl<|wC [11] az ?_ ?_
   ·intro aD N;refine qX 6 [0] [(13,vA (cAccess e0.Read p1 c1))]<|bE N λy hy N=>vH (dA e0.Read _ hy h1) ?_;intro aP le;have ⟨h,H⟩:=m2 le h H;refine yG 9 [] [16] rfl<|wC [16] N ?_ ?_
    ·intro aQ N;refine qX 11 [0] [(18,vA (cAff e0.Index p c))]<|bE N λy1 ay N=>vH (kI e0.Index _ ay h) ?_;intro aS af;have ⟨h,H⟩:=m2 af h H;refine yG 14 [] [21] rfl<|wC [21] N ?_ ?_
     ·intro bu N;refine qX 16 [0] [(23,vA (cAff e0.Index p c))]<|bE N λy2 aI N=>fN (eZ e0.Index _ aI h) ?_;intro bw aE;have H:=H.trans aE;exact yQ [] [4] rfl<|wD zN<|yS<|zU (ct N H)
     intro bu N;exact wN [] [(4,vF)]<|wD zN<|yS<|zU (ct N H)
    intro aQ N;exact wN [] [(4,vF)]<|wD zN<|yS<|zU (ct N H)
   intro aD N;exact wN [] [(4,vF)]<|wD zN<|yS<|zU (ct N H)
  intro t4 I0 aJ aM;refine xJ<|zF ?_;obtain rfl:=zB aM;exact wI
 intro hc N;refine zS<|zW<|yE<|yQ [0] [30] rfl<|zI<|yC N ?_ ?_
 ·intro bK N;refine yA ?_;refine wQ N [] (λt41=>[(4,.bool t41)]) (λaO aB=>?_) ?_
  ·have H:=iS I;refine zL<|yG 4 [0] [34] rfl<|wC [34] aB ?_ ?_
   ·intro hc5 N;refine qX 6 [0] [(36,vA (cAff e0.Index p c))]<|bE N λy3 aW N=>vH (dS e0.Index _ aW h) ?_;intro bL aX;have ⟨h1,H⟩:=m2 aX h1 H;refine yG 9 [] [39] rfl<|wC [39] N ?_ ?_
    ·intro hc6 N;refine qX 12 [0] [(41,vA (cAccess e0.Read p1 c1)),(42,vI aa)]<|bE N λy4 br N=>vH (zAa e0.Read aa _ br h1) ?_;intro I06 bt;have H:=H.trans bt;exact yQ [] [4] rfl<|wD zN<|yS<|zU (ct N H)
    intro hc6 N;exact wN [] [(4,vF)]<|wD zN<|yS<|zU (ct N H)
   intro hc5 N;exact wN [] [(4,vF)]<|wD zN<|yS<|zU (ct N H)
  intro t41 bI bx hMc1;refine xJ<|zF ?_;obtain rfl:=zB hMc1;exact wI
 intro bK N;refine zS<|zW<|yE<|yQ [0] [47] rfl<|zI<|yC N ?_ ?_
 ·intro hc7 N;refine yA ?_;refine wQ N [] (λt42=>[(4,.bool t42)]) (λo02 ho02=>?_) ?_
  ·have H:=iS I;refine zL<|yG 4 [0] [51] rfl<|wC [51] ho02 ?_ ?_
   ·intro hc8 N;refine yG 9 [0] [56] rfl<|wC [56] N ?_ ?_
    ·intro hc9 N;refine qX 11 [0] [(58,vA (cAff e0.Index p c))]<|bE N λy5 bB N=>vH (dS e0.Index _ bB h) ?_;intro I08 le7;have ⟨h1,H⟩:=m2 le7 h1 H;refine yG 14 [] [61] rfl<|wC [61] N ?_ ?_
     ·intro hc10 N;refine qX 16 [0] [(63,vA (cAccess e0.Read p1 c1))]<|bE N λy6 hy6 N=>vH (dA e0.Read _ hy6 h1) ?_;intro I09 le8;have H:=H.trans le8;exact yQ [] [4] rfl<|wD zN<|yS<|zU (ct N H)
     intro hc10 N;exact wN [] [(4,vF)]<|wD zN<|yS<|zU (ct N H)
    intro hc9 N;exact wN [] [(4,vF)]<|wD zN<|yS<|zU (ct N H)
   intro hc8 N;exact wN [] [(4,vF)]<|wD zN<|yS<|zU (ct N H)
  intro t42 I07 le9 hMc2;refine xJ<|zF ?_;obtain rfl:=zB hMc2;exact wI
 intro hc7 N;refine zS<|zI<|yA ?_;refine wQ N [] (λt43=>[(4,.bool t43)]) (λo03 ho03=>?_) ?_
 ·have H:=iS I;refine zL<|yG 4 [0] [69] rfl<|wC [69] ho03 ?_ ?_
  ·intro hc11 N;refine qX 6 [0] [(71,vA (cAff e0.Index p c))]<|bE N λy7 hy7 N=>vH (dS e0.Index _ hy7 h) ?_;intro bW le10;have ⟨h1,H⟩:=m2 le10 h1 H;refine yG 9 [] [74] rfl<|wC [74] N ?_ ?_
   ·intro hc12 N;refine qX 11 [0] [(76,vA (cAccess e0.Read p1 c1))]<|bE N λy8 hy8 N=>vH (dA e0.Read _ hy8 h1) ?_;intro bV le11;have H:=H.trans le11;exact yQ [] [4] rfl<|wD zN<|yS<|zU (ct N H)
   intro hc12 N;exact wN [] [(4,vF)]<|wD zN<|yS<|zU (ct N H)
  intro hc11 N;exact wN [] [(4,vF)]<|wD zN<|yS<|zU (ct N H)
 intro t43 bN le12 hMc3;refine zI<|yX ?_;obtain rfl:=zB hMc3;exact wI
mutual
def qI(e0:zD)(aa:Int)(aj:Int):Option (Bool):=do
 let t24<-(do
  if(decide (aj<1)) then
   pure true
  else
   let y<-gW e0.Kind
   if(y != (e0.Kids.length:Int)) then
    pure true
   else
    let y1<-fS e0 aa
    pure (!y1)
    : Option Bool)
 if t24 then
  pure false
 else
  match<-sM (same e0) (same aa) (same aj) (same 0) with
  | .ret r0=>pure r0
  | .done _=>
   pure true
 partial_fixpoint
def sM(e0:zD)(aa:Int)(aj:Int)(i:Int):Option (Out Unit (Bool)):=do
 if(decide (i<(e0.Kids.length:Int))) then
  let x<-idx e0.Kids i
  let y2<-qI (same x) (same aa) (W (aj - 1))
  if(!y2) then
   pure (.ret false)
  else
   sM (same e0) (same aa) (same aj) (W (i+1))
 else
  pure (.done ())
 partial_fixpoint
end
theorem zEI:(∀(e0:zD) (aa:Int) (aj:Int) r,qI e0 aa aj=some r->∀{I:Imm}{p c p1 c1 p2 c2},(S4 I p e0.Index.Coefs c)->(S4 I p1 e0.Read.Subs c1)->(S4 I p2 e0.Kids c2)->RT 132 [vA (cExpr e0 p c p1 c1 p2 c2),vI aa,vI aj] I [] (zQ  r))/\(∀(e0:zD) (aa:Int) (aj:Int) (i:Int) o,sM e0 aa aj i=some o->∀{B}{I0 I:Imm}{Q p c p1 c1 p2 c2}{b:Nat},I0.le I->(S4 I p e0.Index.Coefs c)->(S4 I p1 e0.Read.Subs c1)->(S4 I p2 e0.Kids c2)->NG Q->NO Q->(∀(I':Imm) ,o=(.done ())->I0.le I'->T 42 B Q (.exit 0) I' [] [])->(∀r I' ai m',o=(.ret r)->I0.le I'->RS Tryz.prog f132 B (zQ  r) I' ai m'->T 42 B Q .ret I' ai m')->J Tryz.prog 42 B (nav (bodyOf f132) [1,1,0,1,0]) Q I [hB b (cExpr e0 p c p1 c1 p2 c2)] [(1,vI aa),(2,vI aj),(3,vP b 0),(7,vI i)]):=by
 refine qI.mutual_partial_correctness _ _ ?_ ?_
 ·intro F_spec_l3Shape_l1 ih_spec_l3Shape_l1 e0 aa aj r N I p c p1 c1 p2 c2 h h1 h2;refine yP func132 λB=>?_;have H:=iS I;refine yE<|vM (cExpr e0 p c p1 c1 p2 c2) ?_;intro b hb;refine wN [] []<|zW<|yA ?_;refine wQ N [hB b (cExpr e0 p c p1 c1 p2 c2)] (λt24=>[(1,vI aa),(2,vI aj),(3,vP b 0),(24,.bool t24)]) (λo0 az=>?_) ?_
  ·have H:=iS I;cases hc:(decide (aj<1)) with
   | true=>
    have hM0:=rY hc az;refine wU [.p (vI aj) [],.q vY,.q vY,.p undef [],.p undef [],.p undef [],.p undef [],.p undef [],.p undef [],.p undef [],.p vY [],.p vY [],.p undef [],.p undef [],.p undef [],.p undef [],.p vY []] [[],[(0,false)],[(1,false)],[(2,false)],[(2,false),(3,false)],[(2,false),(4,false)],[(2,false)],[(2,false),(6,false)],[(2,false),(7,false)],[(2,false),(5,false),(8,false)],[(2,false),(9,false)],[(10,false)],[(11,false)],[(11,false)],[(11,false),(12,false),(13,false)],[(11,false),(14,false)],[(11,false),(15,false)]] [hB b (cExpr e0 p c p1 c1 p2 c2)] [] [(16,false)] (zY [0]) ?_ ?_
    ·refine Op<|Oq ?_<|Oq ?_<|Op<|Op<|Op<|Op<|Op<|Op<|Op<|Op<|Op<|Op<|Op<|Op<|Op<|Op<|On
     ·intro I1 hf af;refine yV [8] rfl<|pG 2 [(9,.bool (decide (aj<1)))] ?_;rw[hc];exact xA iR
     intro I1 hf af;exact dD [(9,vY)]<|pG 3 [(10,vY)]<|xA iR
    intro aP le;refine yV [1,2,3,24] rfl ?_;have H:=H.trans le;exact yB rfl<|yS<|zU (ct hM0 H)
   | false=>
    have hM01:=sP hc az;obtain⟨y,hy,N⟩:=zC hM01;cases aD:(y != (e0.Kids.length:Int)) with
    | true=>
     have hM02:=rY aD N;refine wU [.p (vI aj) [],.q vF,.q vF,.p (vP b 0) [],.p (vI e0.Kind) [0],.q (vI y),.p (vP b 6) [],.p (vS p2 e0.Kids c2) [0],.p (vI (e0.Kids.length:Int)) [],.q vY,.q vY,.q vY,.p undef [],.p undef [],.p undef [],.p undef [],.p vY []] [[],[(0,false)],[(1,false)],[(2,false)],[(2,false),(3,false)],[(2,false),(4,false)],[(2,false)],[(2,false),(6,false)],[(2,false),(7,false)],[(2,false),(5,false),(8,false)],[(2,false),(9,false)],[(10,false)],[(11,false)],[(11,false)],[(11,false),(12,false),(13,false)],[(11,false),(14,false)],[(11,false),(15,false)]] [hB b (cExpr e0 p c p1 c1 p2 c2)] [] [(16,false)] (zY [0]) ?_ ?_
     ·refine Op<|Oq ?_<|Oq ?_<|Op<|Op<|Oq ?_<|Op<|Op<|Op<|Oq ?_<|Oq ?_<|Oq ?_<|Op<|Op<|Op<|Op<|Op<|On
      ·intro I1 hf af;refine yV [8] rfl<|pG 2 [(9,.bool (decide (aj<1)))] ?_;rw[hc];exact xA iR
      ·intro I1 hf af;exact dD [(9,vF)]<|pG 3 [(10,vF)]<|xA iR
      ·intro I1 hf af;refine yV [10,12] rfl ?_;have H:=iS I1;refine fN (zBb e0.Kind _ hy ) ?_;intro aS af;have H:=H.trans af;exact xA H
      ·intro I1 hf af;refine yV [10,13,16] rfl<|pG 10 [(17,.bool (y != (e0.Kids.length:Int)))] ?_;rw[aD];exact xA iR
      ·intro I1 hf af;exact yV [10,17] rfl<|pG 11 [(18,vY)]<|xA iR
      intro I1 hf af;exact dD [(18,vY)]<|pG 12 [(19,vY)]<|xA iR
     intro bw aE;refine yV [1,2,3,24] rfl ?_;have H:=H.trans aE;exact yB rfl<|yS<|zU (ct hM02 H)
    | false=>
     have hM03:=sP aD N;obtain⟨y1,ay,N⟩:=zC hM03;refine wU [.p (vI aj) [],.q vF,.q vF,.p (vP b 0) [],.p (vI e0.Kind) [0],.q (vI y),.p (vP b 6) [],.p (vS p2 e0.Kids c2) [0],.p (vI (e0.Kids.length:Int)) [],.q vF,.q vF,.q vF,.p (vA (cExpr e0 p c p1 c1 p2 c2)) [0],.p (vI aa) [],.q (.bool y1),.p (.bool (!y1)) [],.p (.bool (!y1)) []] [[],[(0,false)],[(1,false)],[(2,false)],[(2,false),(3,false)],[(2,false),(4,false)],[(2,false)],[(2,false),(6,false)],[(2,false),(7,false)],[(2,false),(5,false),(8,false)],[(2,false),(9,false)],[(10,false)],[(11,false)],[(11,false)],[(11,false),(12,false),(13,false)],[(11,false),(14,false)],[(11,false),(15,false)]] [hB b (cExpr e0 p c p1 c1 p2 c2)] [] [(16,false)] (zY [0]) ?_ ?_
     ·refine Op<|Oq ?_<|Oq ?_<|Op<|Op<|Oq ?_<|Op<|Op<|Op<|Oq ?_<|Oq ?_<|Oq ?_<|Op<|Op<|Oq ?_<|Op<|Op<|On
      ·intro I1 hf af;refine yV [8] rfl<|pG 2 [(9,.bool (decide (aj<1)))] ?_;rw[hc];exact xA iR
      ·intro I1 hf af;exact dD [(9,vF)]<|pG 3 [(10,vF)]<|xA iR
      ·intro I1 hf af;refine yV [10,12] rfl ?_;have H:=iS I1;refine fN (zBb e0.Kind _ hy ) ?_;intro aS af;have H:=H.trans af;exact xA H
      ·intro I1 hf af;refine yV [10,13,16] rfl<|pG 10 [(17,.bool (y != (e0.Kids.length:Int)))] ?_;rw[aD];exact xA iR
      ·intro I1 hf af;exact yV [10,17] rfl<|pG 11 [(18,vF)]<|xA iR
      ·intro I1 hf af;exact dD [(18,vF)]<|pG 12 [(19,vF)]<|xA iR
      intro I1 hf af;refine yV [19,20,21] rfl ?_;have H:=iS I1;have ⟨h,h1,h2⟩:=m3 af h h1 h2;refine vH (zGL e0 aa _ ay h h1 h2) ?_;intro bI aJ;have H:=H.trans aJ;exact xA H
     intro bL aX;refine yV [1,2,3,24] rfl ?_;have H:=H.trans aX;exact yB rfl<|yS<|zU (ct N H)
  intro t24 I0 bt aM;have ⟨h,h1,h2⟩:=m3 bt h h1 h2;refine zI<|yC aM ?_ ?_
  ·intro aQ N;refine wM [(6,vF)]<|xJ<|zF ?_;obtain rfl:=zB N;exact wI
  intro aQ N;refine zS<|zW<|yJ [7] rfl<|wS<|oR [(1,vI aa),(2,vI aj),(3,vP b 0),(7,vI 0)] ?_;obtain⟨aO,aB,aF⟩:=zC N;refine ih_spec_l3Shape_l1 e0 aa aj 0 aO aB iR h h1 h2 (λ_ _ _ h=>h) (λ_ _ h=>h) ?_ ?_
  ·intro I07  heq1 le7;subst aO;refine zT<|zBL [(6,vY)]<|zI<|yX ?_;obtain rfl:=zB aF;exact wI
  intro r0 I9 hs9 m9 aG le9 aH;subst aG;refine zR<|zF ?_;obtain rfl:=zB aF;exact xL aH
 intro F_spec_l3Shape F_spec_l3Shape_l1 ih_spec_l3Shape ih_spec_l3Shape_l1 e0 aa aj i o N B I0 I Q p c p1 c1 p2 c2 b H h h1 h2 hg ho hx hr;refine yY hg ho<|yA<|yE<|yQ [0] [29] rfl<|zI<|yC N ?_ ?_
 ·intro bu N;refine zS<|zW<|yK<|yE<|yG 3 [0] [33,34] rfl<|bE N λx aI N=>wB rfl rfl h2 aI ?_;intro ad aK ar al;obtain⟨p3,c3,p4,c4,p5,c5,rfl,h5,h6,h7⟩:=wO al;refine xU 0 ar (cExpr x p3 c3 p4 c4 p5 c5) (vA (cExpr x p3 c3 p4 c4 p5 c5)) rfl<|yG 8 [] [37,39] rfl<|bE N λy2 aW N=>xX (ih_spec_l3Shape x aa (W (aj - 1)) _ aW h5 h6 h7) ?_;rintro I06 ax v2 k2 bx - ⟨v05,rfl,rfl,rfl⟩ -;have ⟨h,h1,h2,H⟩:=m4 bx h h1 h2 H;refine yQ [] [41] rfl<|zI<|yC N ?_ ?_
  ·intro bK N;exact wM [(6,vF)]<|xJ<|zR<|zF<|zF<|hr _ _ _ _ (zB N).symm H ⟨_,_,(.tmp rfl ResV.nil),zN,⟨_,rfl,rfl,rfl⟩⟩
  intro bK N;exact zS<|zO<|zI<|zL<|yQ [] [7] rfl<|yW<|mE<|ih_spec_l3Shape_l1 e0 aa aj (W (i+1)) _ N H h h1 h2 hg ho hx hr
 intro bu N;exact vQ<|wD zN<|yS<|hx _  (zB N).symm H
theorem zEj:∀e0 aa aj r,qI e0 aa aj=some r->∀{I:Imm}{p c p1 c1 p2 c2},(S4 I p e0.Index.Coefs c)->(S4 I p1 e0.Read.Subs c1)->(S4 I p2 e0.Kids c2)->RT 132 [vA (cExpr e0 p c p1 c1 p2 c2),vI aa,vI aj] I [] (zQ  r):=zEI.1
mutual
def qJ(e0:zD)(aj:Int):Option (Int):=do
 let n01<-qK (same e0) (same aj) (same 1) (same 0)
 pure (id n01)
 partial_fixpoint
def qK(e0:zD)(aj:Int)(n0:Int)(i:Int):Option (Int):=do
 let t15<-(do
  if(decide (i<(e0.Kids.length:Int))) then
   pure (decide (aj>0))
  else
   pure false
    : Option Bool)
 if t15 then
  let x<-idx e0.Kids i
  let y<-qJ (same x) (W (aj - 1))
  qK (same e0) (same aj) (W (n0+y)) (W (i+1))
 else
  pure (id n0)
 partial_fixpoint
end
theorem zEJ:(∀(e0:zD) (aj:Int) r,qJ e0 aj=some r->∀{I:Imm}{p c p1 c1 p2 c2},(S4 I p e0.Index.Coefs c)->(S4 I p1 e0.Read.Subs c1)->(S4 I p2 e0.Kids c2)->RT 133 [vA (cExpr e0 p c p1 c1 p2 c2),vI aj] I [] (yT  r))/\(∀(e0:zD) (aj:Int) (n0:Int) (i:Int) o,qK e0 aj n0 i=some o->∀{B}{I0 I:Imm}{Q p c p1 c1 p2 c2}{b:Nat},I0.le I->(S4 I p e0.Index.Coefs c)->(S4 I p1 e0.Read.Subs c1)->(S4 I p2 e0.Kids c2)->NG Q->NO Q->(∀(I':Imm) (n01:Int),o=n01->I0.le I'->T 29 B Q (.exit 0) I' [] [(5,vI n01)])->J Tryz.prog 29 B (nav (bodyOf f133) [1,1,0,1,0]) Q I [hB b (cExpr e0 p c p1 c1 p2 c2)] [(1,vI aj),(2,vP b 0),(5,vI n0),(6,vI i)]):=by
 refine qJ.mutual_partial_correctness _ _ ?_ ?_
 ·intro F_spec_l3Count_l1 ih_spec_l3Count_l1 e0 aj r N I p c p1 c1 p2 c2 h h1 h2;refine yP func133 λB=>yE<|vM (cExpr e0 p c p1 c1 p2 c2) ?_;intro b hb;refine wN [] []<|uN [5] rfl<|zW<|yJ [6] rfl<|wS<|oR [(1,vI aj),(2,vP b 0),(5,vI 1),(6,vI 0)] ?_;obtain⟨aO,aB,aF⟩:=zC N;refine ih_spec_l3Count_l1 e0 aj 1 0 aO aB iR h h1 h2 (λ_ _ _ h=>h) (λ_ _ h=>h) ?_;intro aS n01 heq1 aE;subst aO;refine zT<|uN [4] rfl<|zI<|yX ?_;obtain rfl:=zB aF;exact wI
 intro F_spec_l3Count F_spec_l3Count_l1 ih_spec_l3Count ih_spec_l3Count_l1 e0 aj n0 i o N B I0 I Q p c p1 c1 p2 c2 b H h h1 h2 hg ho hx;refine yY hg ho<|yA<|yA ?_;refine wQ N [hB b (cExpr e0 p c p1 c1 p2 c2)] (λt15=>[(1,vI aj),(2,vP b 0),(5,vI n0),(6,vI i),(15,.bool t15)]) (λo0 az=>?_) ?_
 ·have H:=iS I;refine zL<|yG 6 [0] [12] rfl<|wC [12] az ?_ ?_
  ·intro hc N;exact yQ [] [15] rfl<|yS<|zU (ct N H)
  intro hc N;exact wN [] [(15,vF)]<|yS<|zU (ct N H)
 intro t15 I0 le aM;have ⟨h,h1,h2,H⟩:=m4 le h h1 h2 H;refine zI<|yC aM ?_ ?_
 ·intro aD N;refine zS<|zW<|yK<|zL<|yG 4 [0] [18,20,21] rfl<|bE N λx hy N=>wB rfl rfl h2 hy ?_;intro ad aK ar al;obtain⟨p3,c3,p4,c4,p5,c5,rfl,h3,h4,h5⟩:=wO al;refine xU 0 ar (cExpr x p3 c3 p4 c4 p5 c5) (vA (cExpr x p3 c3 p4 c4 p5 c5)) rfl<|yG 8 [] [25] rfl<|bE N λy ay N=>xX (ih_spec_l3Count x (W (aj - 1)) _ ay h3 h4 h5) ?_;rintro aP ax v2 k2 af - ⟨v03,rfl,rfl,rfl⟩ -;have ⟨h,h1,h2,H⟩:=m4 af h h1 h2 H;exact yQ [] [5] rfl<|zO<|zI<|zL<|yQ [] [6] rfl<|yW<|mE<|ih_spec_l3Count_l1 e0 aj (W (n0+y)) (W (i+1)) _ N H h h1 h2 hg ho hx
 intro aD N;exact vQ<|wD zN<|yS<|hx _ _ (zB N).symm H
theorem zEk:∀e0 aj r,qJ e0 aj=some r->∀{I:Imm}{p c p1 c1 p2 c2},(S4 I p e0.Index.Coefs c)->(S4 I p1 e0.Read.Subs c1)->(S4 I p2 e0.Kids c2)->RT 133 [vA (cExpr e0 p c p1 c1 p2 c2),vI aj] I [] (yT  r):=zEJ.1
def pO(s:zM)(aa:Int):Option (Bool):=do
 let t24<-(do
  if(decide (aa<0)) then
   pure true
  else
   if(decide (aa>4)) then
    pure true
   else
    let y<-mL s.Write aa
    if(!y) then
     pure true
    else
     let y1<-qI s.Value aa 5
     pure (!y1)
    : Option Bool)
 if t24 then
  pure false
 else
  let y2<-qJ s.Value 5
  pure (decide (y2<=12))
theorem fT:∀s aa r,pO s aa=some r->∀{I:Imm}{p c p1 c1 p2 c2 p3 c3},(S4 I p s.Write.Subs c)->(S4 I p1 s.Value.Index.Coefs c1)->(S4 I p2 s.Value.Read.Subs c2)->(S4 I p3 s.Value.Kids c3)->RT 78 [vA (cStmt s p c p1 c1 p2 c2 p3 c3),vI aa] I [] (zQ  r):=by
 intro s aa r N I p c p1 c1 p2 c2 p3 c3 h h1 h2 h3;unfold pO at N;refine yP func78 λB=>?_;have H:=iS I;refine yE<|vM (cStmt s p c p1 c1 p2 c2 p3 c3) ?_;intro b hb;refine wN [] []<|zW<|yA ?_;refine wQ N [hB b (cStmt s p c p1 c1 p2 c2 p3 c3)] (λt24=>[(2,vP b 0),(24,.bool t24)]) (λo0 az=>?_) ?_
 ·have H:=iS I;refine zL<|yG 3 [] [7] rfl<|wC [7] az ?_ ?_
  ·intro hc N;exact wN [] [(24,vY)]<|yS<|zU (ct N H)
  intro hc N;refine yG 7 [] [11] rfl<|wC [11] N ?_ ?_
  ·intro aD N;exact wN [] [(24,vY)]<|yS<|zU (ct N H)
  intro aD N;refine qX 10 [0] [(13,vA (cAccess s.Write p c)),(14,vI aa)]<|bE N λy hy N=>vH (zAa s.Write aa _ hy h) ?_;intro aP le;have ⟨h1,h2,h3,H⟩:=m4 le h1 h2 h3 H;refine yG 14 [] [18] rfl<|wC [18] N ?_ ?_
  ·intro aQ N;exact wN [] [(24,vY)]<|yS<|zU (ct N H)
  intro aQ N;refine qX 17 [0] [(20,vA (cExpr s.Value p1 c1 p2 c2 p3 c3)),(21,vI aa)]<|bE N λy1 ay N=>vH (zEj s.Value aa 5 _ ay h1 h2 h3) ?_;intro aS af;have H:=H.trans af;exact yQ [] [24] rfl<|yS<|zU (ct N H)
 intro t24 I0 aE aM;have ⟨h1,h2,h3⟩:=m3 aE h1 h2 h3;refine zI<|yC aM ?_ ?_
 ·intro bu N;refine wM [(4,vF)]<|xJ<|zF ?_;obtain rfl:=zB N;exact wI
 intro bu N;refine zS<|xN<|qX 2 [0] [(26,vA (cExpr s.Value p1 c1 p2 c2 p3 c3))]<|bE N λy2 aI N=>fN (zEk s.Value 5 _ aI h1 h2 h3) λbw aJ=>wN [] [(4,.bool (decide (y2<=12)))]<|zI<|yX ?_;obtain rfl:=zB N;exact wI
def pP(ah:(List zA))(aa:Int)(i:Int):Option (Out Unit (Bool)):=do
 if(decide (i<(ah.length:Int))) then
  let t26<-(do
   let x<-idx ah i
   let y<-tM x
   if(!y) then
    pure true
   else
    let x1<-idx ah i
    let y1<-mA x1
    pure (decide (y1>aa))
     : Option Bool)
  if t26 then
   pure (.ret false)
  else
   pP ah aa (W (i+1))
 else
  pure (.done ())
 partial_fixpoint
theorem zDK(ah:(List zA))(aa:Int):∀(i:Int) (o:Out Unit (Bool)),pP ah aa i=some o->∀{B}{I0 I:Imm}{Q p c},I0.le I->(S4 I p ah c)->NG Q->NO Q->(∀(I':Imm) ,o=(.done ())->I0.le I'->T 35 B Q (.exit 0) I' [] [(0,vS p ah c)])->(∀r I' ai m',o=(.ret r)->I0.le I'->RS Tryz.prog f61 B (zQ  r) I' ai m'->T 35 B Q .ret I' ai m')->J Tryz.prog 35 B (nav (bodyOf f61) [1,0,1,0]) Q I [] [(0,vS p ah c),(1,vI aa),(5,vI i)]:=by
 refine pP.partial_correctness ah aa _ λaN ih i o N B I0 I Q p c H h hg ho hx hr=>yY hg ho<|yA<|yJ [9] rfl<|zI<|yC N ?_ ?_
 ·intro hc N;refine zS<|zW<|yK<|yA ?_;refine wQ N [] (λt26=>[(0,vS p ah c),(1,vI aa),(5,vI i),(26,.bool t26)]) (λo0 az=>?_) ?_
  ·have H:=iS I;refine zL<|yG 2 [] [12,13] rfl ?_;obtain⟨x,hy,N⟩:=zC az;refine wB rfl rfl h hy ?_;intro ad aK ar al;obtain⟨p1,c1,rfl,h1⟩:=yD al;refine xU 0 ar (cAff x p1 c1) (vA (cAff x p1 c1)) rfl<|bE N λy ay N=>vH (kI x _ ay h1) ?_;intro aP le;have ⟨h,H⟩:=m2 le h H;refine yG 7 [] [18] rfl<|wC [18] N ?_ ?_
   ·intro aD N;exact wN [] [(26,vY)]<|yS<|zU (ct N H)
   intro aD N;refine yG 9 [] [19,20] rfl<|bE N λx1 aI N=>wB rfl rfl h aI ?_;intro ad1 bi ap aw;obtain⟨p2,c2,rfl,h3⟩:=yD aw;refine xU 0 ap (cAff x1 p2 c2) (vA (cAff x1 p2 c2)) rfl<|bE N λy1 aW N=>fN (eZ x1 _ aW h3) ?_;intro aS af;have H:=H.trans af;exact yQ [] [26] rfl<|yS<|zU (ct N H)
  intro t26 I0 aE aM;have ⟨h,H⟩:=m2 aE h H;refine zI<|yC aM ?_ ?_
  ·intro aQ N;exact wM [(4,vF)]<|xJ<|zR<|zF<|zF<|hr _ _ _ _ (zB N).symm H ⟨_,_,(.tmp rfl ResV.nil),zN,⟨_,rfl,rfl,rfl⟩⟩
  intro aQ N;exact zS<|zO<|zI<|zL<|yQ [] [5] rfl<|yW<|mE<|ih (W (i+1)) _ N H h hg ho hx hr
 intro hc N;exact vQ<|yS<|hx _  (zB N).symm H
def jS(ah:(List zA))(aa:Int):Option (Bool):=do
 match<-pP ah aa 0 with
 | .ret r0=>pure r0
 | .done _=>
  let t4<-(do
   if(decide ((ah.length:Int)>=1)) then
    pure (decide ((ah.length:Int)<=2))
   else
    pure false
     : Option Bool)
  pure (id t4)
theorem zBc:∀ah aa r,jS ah aa=some r->∀{I:Imm}{p c},(S4 I p ah c)->RT 61 [vS p ah c,vI aa] I [] (zQ  r):=by
 intro ah aa r N I p c h;unfold jS at N;refine yP func61 λB=>?_;have H:=iS I;refine wM []<|zW<|yJ [5] rfl<|wS<|oR [(0,vS p ah c),(1,vI aa),(5,vI 0)] ?_;obtain⟨aO,aB,aF⟩:=zC N;refine zDK ah aa 0 aO aB iR h (λ_ _ _ h=>h) (λ_ _ h=>h) ?_ ?_
 ·intro bw  heq1 aJ;subst aO;have H:=H.trans aJ;refine zT<|zI<|yA ?_;refine wQ aF [] (λt4=>[(4,.bool t4)]) (λo02 ho02=>?_) ?_
  ·have H:=iS bw;refine zL<|yG 4 [] [30] rfl<|wC [30] ho02 ?_ ?_
   ·intro bu N;exact yQ [] [4] rfl<|yS<|zU (ct N H)
   intro bu N;exact wN [] [(4,vF)]<|yS<|zU (ct N H)
  intro t4 bI aX hMc1;refine zI<|yX ?_;obtain rfl:=zB hMc1;exact wI
 intro r0 I9 hs9 m9 aG le9 aH;subst aG;refine zR<|zF ?_;obtain rfl:=zB aF;exact xL aH
def sH(nest:(List zE))(i:Int):Option (Out Unit (Bool)):=do
 let t12<-(do
  if(decide (i<(nest.length:Int))) then
   pure (decide ((nest.length:Int)<=4))
  else
   pure false
    : Option Bool)
 if t12 then
  let t32<-(do
   let x<-idx nest i
   let y<-jS x.Lo i
   if(!y) then
    pure true
   else
    let x1<-idx nest i
    let y1<-jS x1.Hi i
    pure (!y1)
     : Option Bool)
  if t32 then
   pure (.ret false)
  else
   sH nest (W (i+1))
 else
  pure (.done ())
 partial_fixpoint
theorem zBd(nest:(List zE)):∀(i:Int) (o:Out Unit (Bool)),sH nest i=some o->∀{B}{I0 I:Imm}{Q p c},I0.le I->(S4 I p nest c)->NG Q->NO Q->(∀(I':Imm) ,o=(.done ())->I0.le I'->T 36 B Q (.exit 0) I' [] [(0,vS p nest c)])->(∀r I' ai m',o=(.ret r)->I0.le I'->RS Tryz.prog f21 B (zQ  r) I' ai m'->T 36 B Q .ret I' ai m')->J Tryz.prog 36 B (nav (bodyOf f21) [1,0,1,0]) Q I [] [(0,vS p nest c),(3,vI i)]:=by
 refine sH.partial_correctness nest _ λaN ih i o N B I0 I Q p c H h hg ho hx hr=>yY hg ho<|yA<|yA ?_;refine wQ N [] (λt12=>[(0,vS p nest c),(3,vI i),(12,.bool t12)]) (λo0 az=>?_) ?_
 ·have H:=iS I;refine zL<|yG 5 [] [8] rfl<|wC [8] az ?_ ?_
  ·intro hc N;exact yQ [] [12] rfl<|yS<|zU (ct N H)
  intro hc N;exact wN [] [(12,vF)]<|yS<|zU (ct N H)
 intro t12 I0 le aM;have ⟨h,H⟩:=m2 le h H;refine zI<|yC aM ?_ ?_
 ·intro aD N;refine zS<|zW<|yK<|yA ?_;refine wQ N [] (λt32=>[(0,vS p nest c),(3,vI i),(32,.bool t32)]) (λaO aB=>?_) ?_
  ·have H:=iS I0;refine zL<|yG 2 [] [15,16] rfl ?_;obtain⟨x,hy,N⟩:=zC aB;refine wB rfl rfl h hy ?_;intro ad aK ar al;obtain⟨p1,c1,p2,c2,rfl,h1,h2⟩:=wJ al;refine yG 4 [] [18] rfl<|xU 0 ar [vS p1 x.Lo c1] (vS p1 x.Lo c1) rfl<|yG 6 [] [20] rfl<|bE N λy ay N=>vH (zBc x.Lo i _ ay h1) ?_;intro aS af;have ⟨h,H⟩:=m2 af h H;refine yG 9 [] [23] rfl<|wC [23] N ?_ ?_
   ·intro aQ N;exact wN [] [(32,vY)]<|yS<|zU (ct N H)
   intro aQ N;refine yG 11 [] [24,25] rfl<|bE N λx1 aI N=>wB rfl rfl h aI ?_;intro ad1 bi ap aw;obtain⟨p3,c3,p4,c4,rfl,h4,h5⟩:=wJ aw;refine yG 13 [] [27] rfl<|xU 1 ap [vS p4 x1.Hi c4] (vS p4 x1.Hi c4) rfl<|yG 15 [] [29] rfl<|bE N λy1 aW N=>vH (zBc x1.Hi i _ aW h5) ?_;intro bw aE;have H:=H.trans aE;exact yQ [] [32] rfl<|yS<|zU (ct N H)
  intro t32 aP aJ hMc1;have ⟨h,H⟩:=m2 aJ h H;refine zI<|yC hMc1 ?_ ?_
  ·intro bu N;exact wM [(2,vF)]<|xJ<|zR<|zF<|zF<|hr _ _ _ _ (zB N).symm H ⟨_,_,(.tmp rfl ResV.nil),zN,⟨_,rfl,rfl,rfl⟩⟩
  intro bu N;exact zS<|zO<|zI<|zL<|yQ [] [3] rfl<|yW<|mE<|ih (W (i+1)) _ N H h hg ho hx hr
 intro aD N;exact vQ<|yS<|hx _  (zB N).symm H
def kQ(nest:(List zE)):Option (Bool):=do
 match<-sH nest 0 with
 | .ret r0=>pure r0
 | .done _=>
  pure (decide ((nest.length:Int)<=4))
theorem zDL:∀nest r,kQ nest=some r->∀{I:Imm}{p c},(S4 I p nest c)->RT 21 [vS p nest c] I [] (zQ  r):=by
 intro nest r N I p c h;unfold kQ at N;refine yP func21 λB=>wM []<|zW<|yJ [3] rfl<|wS<|oR [(0,vS p nest c),(3,vI 0)] ?_;obtain⟨o02,ho02,aF⟩:=zC N;refine zBd nest 0 o02 ho02 iR h (λ_ _ _ h=>h) (λ_ _ h=>h) ?_ ?_
 ·intro bI  heq2 aX;subst o02;refine zT<|uN [2] rfl<|zI<|yX ?_;obtain rfl:=zB aF;exact wI
 intro r0 I9 hs9 m9 aG le9 aH;subst aG;refine zR<|zF ?_;obtain rfl:=zB aF;exact xL aH
def pQ(a0:zA)(ag:(List Int))(n0:Int)(i:Int):Option (Int):=do
 let t19<-(do
  if(decide (i<(ag.length:Int))) then
   pure (decide (i<(a0.Coefs.length:Int)))
  else
   pure false
    : Option Bool)
 if t19 then
  let x<-idx a0.Coefs i
  let x1<-idx ag i
  pQ a0 ag (W (n0+(W (x*x1)))) (W (i+1))
 else
  pure (id n0)
 partial_fixpoint
theorem zDM(a0:zA)(ag:(List Int)):∀(n0:Int) (i:Int) (o:Int),pQ a0 ag n0 i=some o->∀{B}{I0 I:Imm}{Q p c p1 c1}{b:Nat},I0.le I->(S4 I p1 ag c1)->(S4 I p a0.Coefs c)->NG Q->NO Q->(∀(I':Imm) (n01:Int),o=n01->I0.le I'->T 35 B Q (.exit 0) I' [] [(5,vI n01)])->J Tryz.prog 35 B (nav (bodyOf f213) [1,1,0,1,0]) Q I [hB b (cAff a0 p c)] [(1,vS p1 ag c1),(2,vP b 0),(5,vI n0),(6,vI i)]:=by
 refine pQ.partial_correctness a0 ag _ λaN ih n0 i o N B I0 I Q p c p1 c1 b H h1 h hg ho hx=>yY hg ho<|yA<|yA ?_;refine wQ N [hB b (cAff a0 p c)] (λt19=>[(1,vS p1 ag c1),(2,vP b 0),(5,vI n0),(6,vI i),(19,.bool t19)]) (λo0 az=>?_) ?_
 ·have H:=iS I;refine zL<|yG 5 [] [13] rfl<|wC [13] az ?_ ?_
  ·intro hc N;exact yQ [0] [19] rfl<|yS<|zU (ct N H)
  intro hc N;exact wN [] [(19,vF)]<|yS<|zU (ct N H)
 intro t19 I0 le aM;have ⟨h1,h,H⟩:=m3 le h1 h H;refine zI<|yC aM ?_ ?_
 ·intro aD N;refine zS<|zW<|yK<|fH (by kernel_rfl) (by kernel_rfl)<|zAE 4 [0] [22,24,25] rfl<|bE N λx hy N=>zB4 rfl rfl h hy ?_;intro ad aK ar al;obtain rfl:=al;refine zB3 0 ar [vI x] (vI x) rfl<|zAE 8 [] [28,29] rfl<|bE N λx1 ay N=>zB4 rfl rfl h1 ay ?_;intro ad1 bi ap aw;obtain rfl:=aw;exact zB3 0 ap [vI x1] (vI x1) rfl<|zH6 [] [5] rfl<|zO<|zI<|zL<|yQ [] [6] rfl<|yW<|mE<|ih (W (n0+(W (x*x1)))) (W (i+1)) _ N H h1 h hg ho hx
 intro aD N;exact vQ<|wD zN<|yS<|hx _ _ (zB N).symm H
def oN(a0:zA)(ag:(List Int)):Option (Int):=do
 let n01<-pQ a0 ag a0.Const 0
 pure (id n01)
theorem gI:∀a0 ag r,oN a0 ag=some r->∀{I:Imm}{p c p1 c1},(S4 I p a0.Coefs c)->(S4 I p1 ag c1)->RT 213 [vA (cAff a0 p c),vS p1 ag c1] I [] (yT  r):=by
 intro a0 ag r N I p c p1 c1 h h1;unfold oN at N;refine yP func213 λB=>yE<|vM (cAff a0 p c) ?_;intro b hb;refine wN [] []<|xN<|yQ [0] [5] rfl<|zW<|yJ [6] rfl<|wS<|oR [(1,vS p1 ag c1),(2,vP b 0),(5,vI a0.Const),(6,vI 0)] ?_;obtain⟨aO,aB,aF⟩:=zC N;refine zDM a0 ag a0.Const 0 aO aB iR h1 h (λ_ _ _ h=>h) (λ_ _ h=>h) ?_;intro aP n01 heq1 af;subst aO;refine zT<|uN [4] rfl<|zI<|yX ?_;obtain rfl:=zB aF;exact wI
def qL(loop:zE)(p2:(List Int))(lo:Int)(i:Int):Option (Int):=do
 if(decide (i<(loop.Lo.length:Int))) then
  let x2<-idx loop.Lo i
  let y2<-oN x2 p2
  let lo2<-(do
   if(decide (y2>lo)) then
    pure (id y2)
   else
    pure (id lo)
     : Option Int)
  qL loop p2 lo2 (W (i+1))
 else
  pure (id lo)
 partial_fixpoint
theorem zCb(loop:zE)(p2:(List Int)):∀(lo:Int) (i:Int) (o:Int),qL loop p2 lo i=some o->∀{B}{I0 I:Imm}{Q}{y1:Int}{p c p1 c1 p3 c2}{b:Nat},I0.le I->(S4 I p3 p2 c2)->(S4 I p loop.Lo c)->(S4 I p1 loop.Hi c1)->NG Q->NO Q->(∀(I':Imm) (lo1:Int),o=lo1->I0.le I'->T 62 B Q (.exit 0) I' [hB b (cLoop loop p c p1 c1)] [(1,vS p3 p2 c2),(2,vP b 0),(6,vI lo1),(7,vI y1)])->J Tryz.prog 62 B (nav (bodyOf f210) [1,1,1,0,1,0]) Q I [hB b (cLoop loop p c p1 c1)] [(1,vS p3 p2 c2),(2,vP b 0),(6,vI lo),(7,vI y1),(8,vI i)]:=by
 refine qL.partial_correctness loop p2 _ λaN ih lo i o N B I0 I Q y1 p c p1 c1 p3 c2 b H h2 h h1 hg ho hx=>yY hg ho<|yA<|yE<|yQ [0] [28] rfl<|zI<|yC N ?_ ?_
 ·intro hc N;refine zS<|zW<|yK<|yE<|yG 3 [0] [32,33] rfl<|bE N λx2 br N=>wB rfl rfl h br ?_;intro ad2 bP bh bj;obtain⟨p6,c5,rfl,h7⟩:=yD bj;refine xU 0 bh (cAff x2 p6 c5) (vA (cAff x2 p6 c5)) rfl<|yG 6 [] [36] rfl<|bE N λy2 bB N=>fN (gI x2 p2 _ bB h7 h2) ?_;intro aS aE;have ⟨h2,h,h1,H⟩:=m4 aE h2 h h1 H;refine yQ [] [9] rfl<|uN [40] rfl<|zI ?_;refine wQ N [hB b (cLoop loop p c p1 c1)] (λlo2=>[(1,vS p3 p2 c2),(2,vP b 0),(6,vI lo2),(7,vI y1),(8,vI i)]) (λo0 az=>?_) ?_
  ·have H:=iS aS;refine yC az ?_ ?_
   ·intro aD N;exact zL<|yQ [] [6] rfl<|yS<|zU (ct N H)
   intro aD N;exact zS<|yS<|zU (ct N H)
  intro lo2 bw aJ aM;have ⟨h2,h,h1,H⟩:=m4 aJ h2 h h1 H;exact zO<|zI<|zL<|yQ [] [8] rfl<|yW<|mE<|ih lo2 (W (i+1)) _ aM H h2 h h1 hg ho hx
 intro hc N;exact vQ<|yS<|hx _ _ (zB N).symm H
def qM(loop:zE)(p2:(List Int))(hi:Int)(i1:Int):Option (Int):=do
 if(decide (i1<(loop.Hi.length:Int))) then
  let x3<-idx loop.Hi i1
  let y3<-oN x3 p2
  let hi2<-(do
   if(decide (y3<hi)) then
    pure (id y3)
   else
    pure (id hi)
     : Option Int)
  qM loop p2 hi2 (W (i1+1))
 else
  pure (id hi)
 partial_fixpoint
theorem zCc(loop:zE)(p2:(List Int)):∀(hi:Int) (i1:Int) (o:Int),qM loop p2 hi i1=some o->∀{B}{I0 I:Imm}{Q}{lo1:Int}{p c p1 c1 p3 c2}{b:Nat},I0.le I->(S4 I p3 p2 c2)->(S4 I p loop.Lo c)->(S4 I p1 loop.Hi c1)->NG Q->NO Q->(∀(I':Imm) (hi1:Int),o=hi1->I0.le I'->T 62 B Q (.exit 2) I' [] [(6,vI lo1),(7,vI hi1)])->J Tryz.prog 62 B (nav (bodyOf f210) [1,1,1,1,0,1,0]) Q I [hB b (cLoop loop p c p1 c1)] [(1,vS p3 p2 c2),(2,vP b 0),(6,vI lo1),(7,vI hi),(10,vI i1)]:=by
 refine qM.partial_correctness loop p2 _ λaN ih hi i1 o N B I0 I Q lo1 p c p1 c1 p3 c2 b H h2 h h1 hg ho hx=>yY hg ho<|yA<|yE<|yQ [0] [46] rfl<|zI<|yC N ?_ ?_
 ·intro aQ N;refine zS<|zW<|yK<|yE<|yG 3 [0] [50,51] rfl<|bE N λx3 hy6 N=>wB rfl rfl h1 hy6 ?_;intro ad3 ccs3 hat3 bC;obtain⟨p7,c6,rfl,h9⟩:=yD bC;refine xU 0 hat3 (cAff x3 p7 c6) (vA (cAff x3 p7 c6)) rfl<|yG 6 [] [54] rfl<|bE N λy3 hy7 N=>fN (gI x3 p2 _ hy7 h9 h2) ?_;intro bL bt;have ⟨h2,h,h1,H⟩:=m4 bt h2 h h1 H;refine yQ [] [11] rfl<|uN [58] rfl<|zI ?_;refine wQ N [hB b (cLoop loop p c p1 c1)] (λhi2=>[(1,vS p3 p2 c2),(2,vP b 0),(6,vI lo1),(7,vI hi2),(10,vI i1)]) (λo02 ho02=>?_) ?_
  ·have H:=iS bL;refine yC ho02 ?_ ?_
   ·intro bu N;exact zL<|yQ [] [7] rfl<|yS<|zU (ct N H)
   intro bu N;exact zS<|yS<|zU (ct N H)
  intro hi2 I06 bx hMc1;have ⟨h2,h,h1,H⟩:=m4 bx h2 h h1 H;exact zO<|zI<|zL<|yQ [] [10] rfl<|yW<|mE<|ih hi2 (W (i1+1)) _ hMc1 H h2 h h1 hg ho hx
 intro aQ N;exact vQ<|wD zN<|yS<|hx _ _ (zB N).symm H
def kR(loop:zE)(p2:(List Int)):Option (Int×Int):=do
 let x<-idx loop.Lo 0
 let y<-oN x p2
 let x1<-idx loop.Hi 0
 let y1<-oN x1 p2
 let lo1<-qL loop p2 y 1
 let hi1<-qM loop p2 y1 1
 pure (lo1,hi1)
theorem zBJ:∀loop p2 r,kR loop p2=some r->∀{I:Imm}{p c p1 c1 p3 c2},(S4 I p loop.Lo c)->(S4 I p1 loop.Hi c1)->(S4 I p3 p2 c2)->RT 210 [vA (cLoop loop p c p1 c1),vS p3 p2 c2] I [] (gS  r):=by
 intro loop p2 r N I p c p1 c1 p3 c2 h h1 h2;unfold kR at N;refine yP func210 λB=>yE<|vM (cLoop loop p c p1 c1) ?_;intro b hb;refine wN [] []<|xN<|yG 2 [0] [13] rfl<|bE N λx hy N=>wB rfl rfl h hy ?_;intro ad aK ar al;obtain⟨p4,c3,rfl,h3⟩:=yD al;refine xU 0 ar (cAff x p4 c3) (vA (cAff x p4 c3)) rfl<|yG 5 [] [16] rfl<|bE N λy ay N=>fN (gI x p2 _ ay h3 h2) ?_;intro I0 le;have ⟨h2,h,h1⟩:=m3 le h2 h h1;refine yQ [] [6] rfl<|xN<|yG 2 [0] [19] rfl<|bE N λx1 aI N=>wB rfl rfl h1 aI ?_;intro ad1 bi ap aw;obtain⟨p5,c4,rfl,h5⟩:=yD aw;refine xU 0 ap (cAff x1 p5 c4) (vA (cAff x1 p5 c4)) rfl<|yG 5 [] [22] rfl<|bE N λy1 aW N=>fN (gI x1 p2 _ aW h5 h2) ?_;intro aP af;have ⟨h2,h,h1⟩:=m3 af h2 h h1;refine yQ [] [7] rfl<|zW<|yJ [8] rfl<|wS<|oR [(1,vS p3 p2 c2),(2,vP b 0),(6,vI y),(7,vI y1),(8,vI 1)] ?_;obtain⟨aO,aB,aF⟩:=zC N;refine zCb loop p2 y 1 aO aB iR h2 h h1 (λ_ _ _ h=>h) (λ_ _ h=>h) ?_;intro bI lo1 heq1 aX;subst aO;have ⟨h2,h,h1⟩:=m3 aX h2 h h1;refine zT<|zW<|yJ [10] rfl<|wS<|oR [(1,vS p3 p2 c2),(2,vP b 0),(6,vI lo1),(7,vI y1),(10,vI 1)] ?_;obtain⟨o03,ho03,hMl1⟩:=zC aF;refine zCc loop p2 y1 1 o03 ho03 iR h2 h h1 (λ_ _ _ h=>h) (λ_ _ h=>h) ?_;intro I07 hi1 heq3 le7;subst o03;refine zT<|uN [4,5] rfl<|zI<|yX ?_;obtain rfl:=zB hMl1;exact xL ⟨_,_,(.tmp rfl (.tmp rfl ResV.nil)),zN,⟨_,_,rfl,rfl,rfl,rfl⟩⟩
mutual
def oO(nest:(List zE))(p1:(List Int))(most:Int):Option (Int):=do
 if((p1.length:Int)==(nest.length:Int)) then
  pure (id 1)
 else
  let x<-idx nest (p1.length:Int)
  let (y1,y2)<-kR x p1
  let n01<-nR (same nest) (same p1) (same most) (same y2) (same 1) (same y1)
  pure (id n01)
 partial_fixpoint
def nR(nest:(List zE))(p1:(List Int))(most:Int)(y2:Int)(n0:Int)(v04:Int):Option (Int):=do
 let t35<-(do
  if(decide (v04<y2)) then
   pure (decide (n0<=most))
  else
   pure false
    : Option Bool)
 if t35 then
  let l<-app 8 ([]:List Int) p1
  let l1<-app 8 l ([v04]:List Int)
  let y3<-oO (same nest) (same l1) (W (most - n0))
  nR (same nest) (same p1) (same most) (same y2) (W (n0+y3)) (W (v04+1))
 else
  pure (id n0)
 partial_fixpoint
end
theorem zEl:(∀(nest:(List zE)) (p1:(List Int)) (most:Int) r,oO nest p1 most=some r->∀{I:Imm}{p c p2 c1},(S4 I p nest c)->(S4 I p2 p1 c1)->RT 164 [vS p nest c,vS p2 p1 c1,vI most] I [] (yT  r))/\(∀(nest:(List zE)) (p1:(List Int)) (most:Int) (y2:Int) (n0:Int) (v04:Int) o,nR nest p1 most y2 n0 v04=some o->∀{B}{I0 I:Imm}{Q p c p2 c1},I0.le I->(S4 I p nest c)->(S4 I p2 p1 c1)->NG Q->NO Q->(∀(I':Imm) (n01:Int),o=n01->I0.le I'->T 52 B Q (.exit 0) I' [] [(7,vI n01)])->J Tryz.prog 52 B (nav (bodyOf f164) [1,1,1,1,0,1,0]) Q I [] [(0,vS p nest c),(1,vS p2 p1 c1),(2,vI most),(7,vI n0),(9,vI y2),(10,vI v04)]):=by
 refine oO.mutual_partial_correctness _ _ ?_ ?_
 ·intro F_spec_l2Work_l1 ih_spec_l2Work_l1 nest p1 most r N I p c p2 c1 h h1;refine yP func164 λB=>wM []<|uN [7] rfl<|zW<|yJ [15] rfl<|zI<|yC N ?_ ?_
  ·intro hc N;refine yJ [6] rfl<|xJ<|zF ?_;obtain rfl:=zB N;exact wI
  intro hc N;refine zS<|xN<|yG 3 [] [18,20] rfl<|bE N λx hy N=>wB rfl rfl h hy ?_;intro ad aK ar al;obtain⟨p3,c2,p4,c3,rfl,h2,h3⟩:=wJ al;refine xU 0 ar (cLoop x p3 c2 p4 c3) (vA (cLoop x p3 c2 p4 c3)) rfl<|yG 6 [] [23] rfl ?_;obtain⟨⟨y1,y2⟩,ay,N⟩:=zC N;refine xX (zBJ x p1 _ ay h2 h3 h1) ?_;rintro I0 ax v2 k2 le - ⟨v02,v03,rfl,rfl,rfl,rfl⟩ -;have ⟨h,h1⟩:=m2 le h h1;refine yQ [] [8,9] rfl<|zW<|yJ [10] rfl<|wS<|oR [(0,vS p nest c),(1,vS p2 p1 c1),(2,vI most),(7,vI 1),(9,vI y2),(10,vI y1)] ?_;obtain⟨aO,aB,aF⟩:=zC N;refine ih_spec_l2Work_l1 nest p1 most y2 1 y1 aO aB iR h h1 (λ_ _ _ h=>h) (λ_ _ h=>h) ?_;intro bI n01 heq1 aX;subst aO;refine zT<|uN [6] rfl<|zI<|yX ?_;obtain rfl:=zB aF;exact wI
 intro F_spec_l2Work F_spec_l2Work_l1 ih_spec_l2Work ih_spec_l2Work_l1 nest p1 most y2 n0 v04 o N B I0 I Q p c p2 c1 H h h1 hg ho hx;refine yY hg ho<|yA<|yA ?_;refine wQ N [] (λt35=>[(0,vS p nest c),(1,vS p2 p1 c1),(2,vI most),(7,vI n0),(9,vI y2),(10,vI v04),(35,.bool t35)]) (λo0 az=>?_) ?_
 ·have H:=iS I;refine zL<|yG 4 [] [31] rfl<|wC [31] az ?_ ?_
  ·intro aD N;exact yQ [] [35] rfl<|yS<|zU (ct N H)
  intro aD N;exact wN [] [(35,vF)]<|yS<|zU (ct N H)
 intro t35 aP af aM;have ⟨h,h1,H⟩:=m3 af h h1 H;refine zI<|yC aM ?_ ?_
 ·intro aQ N;refine zS<|zW<|yK<|zL<|yG 2 [] [38,39] rfl<|qB [] Int ?_;intro b hb;have h6:RL aP [] ([]:List Int):=rfl;refine yG 4 [] [41] rfl ?_;obtain⟨bi,k0,k01⟩:=h1;have h1:SL aP (vS p2 p1 c1) p1:=⟨_,k0,k01⟩;obtain⟨l,aI,N⟩:=zC N;refine mD 3 1 0 rfl rfl rfl h6 (.inl k0) k01 aI λp5 c4 cs h7=>rS (zY [0] (ai:=[hO Int (vS p5 l c4) cs]))<|yG 6 [] [43] rfl<|qB [vI v04] Int ?_;intro b1 hb1;have h8:RL aP [vI v04] ([v04]:List Int):=rI [v04];obtain⟨l1,aW,N⟩:=zC N;refine mD 3 1 1 rfl rfl rfl h7 (.inr ⟨0,rfl⟩) h8 aW λp6 c5 aL h9=>rS (zY [1] (ai:=[hO Int (vS p6 l1 c5) aL]))<|yG 11 [] [48] rfl<|wA 0 rfl ?_;intro aS aE hl0;have h10:=SL.of_frozen hl0 aE h9;have ⟨h,h1,H⟩:=m3 aE h h1 H;obtain⟨y3,br,N⟩:=zC N;refine xX (ih_spec_l2Work nest l1 (W (most - n0)) _ br h h10) ?_;rintro bw ax v2 k2 aJ - ⟨v05,rfl,rfl,rfl⟩ -;have ⟨h,h1,H⟩:=m3 aJ h h1 H;exact yQ [] [7] rfl<|zO<|zI<|zL<|yQ [] [10] rfl<|yW<|mE<|ih_spec_l2Work_l1 nest p1 most y2 (W (n0+y3)) (W (v04+1)) _ N H h h1 hg ho hx
 intro aQ N;exact vQ<|yS<|hx _ _ (zB N).symm H
theorem zF2:∀nest p1 most r,oO nest p1 most=some r->∀{I:Imm}{p c p2 c1},(S4 I p nest c)->(S4 I p2 p1 c1)->RT 164 [vS p nest c,vS p2 p1 c1,vI most] I [] (yT  r):=zEl.1
def dU(r:(List (List Int))):KT:=λkk I' ai v=>
 ∃a0 c0 s0,ai=[.osl (.slice a0 r.length c0) (Rp.sz (List Int)) s0]/\v=tupV [(.slice a0 r.length c0)]/\RepL (Rp.rep I') (Rp.sz (List Int)) s0 r
mutual
def sW(out:(List (List Int)))(nest:(List zE))(p2:(List Int)):Option ((List (List Int))):=do
 if((p2.length:Int)==(nest.length:Int)) then
  let l<-app 8 ([]:List Int) p2
  let t6<-app 24 out ([l]:List (List Int))
  pure (id t6)
 else
  let x<-idx nest (p2.length:Int)
  let (y1,y2)<-kR x p2
  let aC<-pR (same nest) (same p2) (same y2) (same out) (same y1)
  pure (id aC)
 partial_fixpoint
def pR(nest:(List zE))(p2:(List Int))(y2:Int)(aq:List (List Int))(v04:Int):Option (List (List Int)):=do
 let t39<-(do
  if(decide (v04<y2)) then
   pure (decide ((aq.length:Int)<=120))
  else
   pure false
    : Option Bool)
 if t39 then
  let l1<-app 8 ([]:List Int) p2
  let l2<-app 8 l1 ([v04]:List Int)
  let y3<-sW (same aq) (same nest) (same l2)
  pR (same nest) (same p2) (same y2) (same y3) (W (v04+1))
 else
  pure (id aq)
 partial_fixpoint
end
theorem zDN:(∀(out:(List (List Int))) (nest:(List zE)) (p2:(List Int)) r,sW out nest p2=some r->∀{I:Imm}{p c cs p1 c1 p3 c2},(RL I cs out)->(S4 I p1 nest c1)->(S4 I p3 p2 c2)->RT 165 [vS p out c,vS p1 nest c1,vS p3 p2 c2] I [hO (List Int) (vS p out c) cs] (dU  r))/\(∀(nest:(List zE)) (p2:(List Int)) (y2:Int) (aq:List (List Int)) (v04:Int) o,pR nest p2 y2 aq v04=some o->∀{B}{I0 I:Imm}{Q p1 c1 p3 c2 p8 c7 bd},I0.le I->(S4 I p1 nest c1)->(S4 I p3 p2 c2)->(RL I bd aq)->NG Q->NO Q->(∀(I':Imm) (aC:List (List Int)) (p9:Option Addr) (c8:Nat) (bD:List Value),o=aC->I0.le I'->(RL I' bD aC)->T 52 B Q (.exit 0) I' [hO (List Int) (vS p9 aC c8) bD] [(0,vS p9 aC c8)])->J Tryz.prog 52 B (nav (bodyOf f165) [1,1,1,0,1,0]) Q I [hO (List Int) (vS p8 aq c7) bd] [(0,vS p8 aq c7),(1,vS p1 nest c1),(2,vS p3 p2 c2),(8,vI y2),(9,vI v04)]):=by
 refine sW.mutual_partial_correctness _ _ ?_ ?_
 ·intro F_spec_l2Points_l1 ih_spec_l2Points_l1 out nest p2 r N I p c cs p1 c1 p3 c2 h h1 h2;refine yP func165 λB=>wM []<|zW<|yJ [14] rfl<|zI<|yC N ?_ ?_
  ·intro hc N;refine yE<|yG 1 [] [15] rfl<|qB [] Int ?_;intro b hb;have h3:RL I [] ([]:List Int):=rfl;refine yG 3 [] [17] rfl ?_;obtain⟨aK,k0,k01⟩:=h2;have h2:SL I (vS p3 p2 c2) p2:=⟨_,k0,k01⟩;obtain⟨l,hy,N⟩:=zC N;refine mD 3 1 0 rfl rfl rfl h3 (.inl k0) k01 hy λp4 c3 aL h4=>rS (zY [0,1] (ai:=[hO Int (vS p4 l c3) aL,hO (List Int) (vS p out c) cs]))<|wA 0 rfl ?_;intro I0 le hl0;have h5:=SL.of_frozen hl0 le h4;have h:=iM le h;refine qB [vS p4 l c3] (List Int) ?_;intro b1 hb1;have h6:RL I0 [vS p4 l c3] ([l]:List (List Int)):=⟨[vS p4 l c3],_,rfl,rfl,⟨_,rfl,h5⟩,rfl⟩;obtain⟨t6,ay,N⟩:=zC N;refine mD 48 1 1 rfl rfl rfl h (.inr ⟨0,rfl⟩) h6 ay λp5 c4 bf h7=>rS (zY [1] (ai:=[hO (List Int) (vS p5 t6 c4) bf]))<|yQ [] [6] rfl<|xJ<|zF ?_;obtain rfl:=zB N;exact xL ⟨_,_,(.tmp rfl ResV.nil),(zV [0] rfl (by decide)),⟨_,_,_,rfl,rfl,h7⟩⟩
  intro hc N;refine zS<|xN<|yG 3 [] [22,24] rfl<|bE N λx aI N=>wB rfl rfl h1 aI ?_;intro ad bi ar al;obtain⟨p6,c5,p7,c6,rfl,h8,h9⟩:=wJ al;refine xU 0 ar (cLoop x p6 c5 p7 c6) (vA (cLoop x p6 c5 p7 c6)) rfl<|yG 6 [] [27] rfl ?_;obtain⟨⟨y1,y2⟩,aW,N⟩:=zC N;refine xX (zBJ x p2 _ aW h8 h9 h2) ?_;rintro aP ax v2 k2 af - ⟨v02,v03,rfl,rfl,rfl,rfl⟩ -;have ⟨h,h1,h2⟩:=m3 af h h1 h2;refine yQ [] [7,8] rfl<|zW<|yJ [9] rfl<|wS<|oR [(0,vS p out c),(1,vS p1 nest c1),(2,vS p3 p2 c2),(8,vI y2),(9,vI y1)] ?_;obtain⟨aO,aB,aF⟩:=zC N;refine ih_spec_l2Points_l1 nest p2 y2 out y1 aO aB iR h1 h2 h (λ_ _ _ h=>h) (λ_ _ h=>h) ?_;intro bL aC p9 c8 bD heq1 bt h13;subst aO;refine zT<|uN [6] rfl<|zI<|yX ?_;obtain rfl:=zB aF;exact xL ⟨_,_,(.tmp rfl ResV.nil),(zV [0] rfl (by decide)),⟨_,_,_,rfl,rfl,h13⟩⟩
 intro F_spec_l2Points F_spec_l2Points_l1 ih_spec_l2Points ih_spec_l2Points_l1 nest p2 y2 aq v04 o N B I0 I Q p1 c1 p3 c2 p8 c7 bd H h1 h2 h12 hg ho hx;refine yY hg ho<|yA<|yA ?_;refine wQ N [hO (List Int) (vS p8 aq c7) bd] (λt39=>[(0,vS p8 aq c7),(1,vS p1 nest c1),(2,vS p3 p2 c2),(8,vI y2),(9,vI v04),(39,.bool t39)]) (λo0 az=>?_) ?_
 ·have H:=iS I;refine zL<|yG 4 [] [35] rfl<|wC [35] az ?_ ?_
  ·intro aD N;exact yQ [] [39] rfl<|yS<|zU (ct N H)
  intro aD N;exact wN [] [(39,vF)]<|yS<|zU (ct N H)
 intro t39 aS aE aM;have ⟨h12,h1,h2,H⟩:=m4 aE h12 h1 h2 H;refine zI<|yC aM ?_ ?_
 ·intro aQ N;refine zS<|zW<|yK<|zL<|yG 2 [] [42,43] rfl<|qB [] Int ?_;intro b2 hb2;have h14:RL aS [] ([]:List Int):=rfl;refine yG 4 [] [45] rfl ?_;obtain⟨bP,k02,k03⟩:=h2;have h2:SL aS (vS p3 p2 c2) p2:=⟨_,k02,k03⟩;obtain⟨l1,br,N⟩:=zC N;refine mD 3 1 0 rfl rfl rfl h14 (.inl k02) k03 br λaZ c9 bG h15=>rS (zY [0,1] (ai:=[hO Int (vS aZ l1 c9) bG,hO (List Int) (vS p8 aq c7) bd]))<|yG 6 [] [47] rfl<|qB [vI v04] Int ?_;intro b3 hb3;have h16:RL aS [vI v04] ([v04]:List Int):=rI [v04];obtain⟨l2,bB,N⟩:=zC N;refine mD 3 1 1 rfl rfl rfl h15 (.inr ⟨0,rfl⟩) h16 bB λaT ba cs6 h17=>rS (zY [1,2] (ai:=[hO Int (vS aT l2 ba) cs6,hO (List Int) (vS p8 aq c7) bd]))<|wA 0 rfl ?_;intro bw aJ hl01;have h18:=SL.of_frozen hl01 aJ h17;have ⟨h1,h2,h12,H⟩:=m4 aJ h1 h2 h12 H;obtain⟨y3,hy6,N⟩:=zC N;refine sB (ih_spec_l2Points aq nest l2 _ hy6 h12 h1 h18) rfl ?_;rintro bI ax v2 k2 aX - ⟨bv,aU,cs7,rfl,rfl,h19⟩ -;have ⟨h1,h2,H⟩:=m3 aX h1 h2 H;exact yQ [] [0] rfl<|zO<|zI<|zL<|yQ [] [9] rfl<|yW<|mE<|ih_spec_l2Points_l1 nest p2 y2 y3 (W (v04+1)) _ N H h1 h2 h19 hg ho hx
 intro aQ N;exact vQ<|yS<|hx _ _ _ _ _ (zB N).symm H h12
theorem zEK:∀out nest p2 r,sW out nest p2=some r->∀{I:Imm}{p c cs p1 c1 p3 c2},(RL I cs out)->(S4 I p1 nest c1)->(S4 I p3 p2 c2)->RT 165 [vS p out c,vS p1 nest c1,vS p3 p2 c2] I [hO (List Int) (vS p out c) cs] (dU  r):=zDN.1
def mQ(nest:(List zE)):Option ((List (List Int))×Bool):=do
 let t12<-(do
  let y<-kQ nest
  if(!y) then
   pure true
  else
   let y1<-oO nest ([]:List Int) 1200
   pure (decide (y1>1200))
    : Option Bool)
 if t12 then
  pure (([]:List (List Int)),false)
 else
  let y2<-sW ([]:List (List Int)) nest ([]:List Int)
  if(decide ((y2.length:Int)>120)) then
   pure (([]:List (List Int)),false)
  else
   pure (y2,true)
theorem zCd:∀nest r,mQ nest=some r->∀{I:Imm}{p c},(S4 I p nest c)->RT 100 [vS p nest c] I [] (eI  r):=by
 intro nest r N I p c h;unfold mQ at N;refine yP func100 λB=>?_;have H:=iS I;refine wM []<|zW<|yA ?_;refine wQ N [] (λt12=>[(0,vS p nest c),(12,.bool t12)]) (λo0 az=>?_) ?_
 ·have H:=iS I;refine zL<|yG 1 [] [5] rfl ?_;obtain⟨y,hy,N⟩:=zC az;refine vH (zDL nest _ hy h) ?_;intro aP le;have ⟨h,H⟩:=m2 le h H;refine yG 4 [] [8] rfl<|wC [8] N ?_ ?_
  ·intro hc N;exact wN [] [(12,vY)]<|yS<|zU (ct N H)
  intro hc N;refine yG 5 [] [9] rfl<|bE N λy1 ay N=>fN (zF2 nest ([]:List Int) 1200 _ ay h (SL.nil _)) ?_;intro aS af;have H:=H.trans af;exact yQ [] [12] rfl<|yS<|zU (ct N H)
 intro t12 I0 aE aM;have h:=h.mono aE;refine zI<|yC aM ?_ ?_
 ·intro aD N;refine yE<|qB [] (List Int) ?_;intro b hb;have h3:RL I0 [] ([]:List (List Int)):=rfl;refine yQ [] [2,3] rfl<|xJ<|zF<|wH 0 rfl ?_;intro bw aJ hl0;have h4:=SL.of_frozen hl0 aJ h3;obtain rfl:=zB N;exact xL ⟨_,_,(.tmp rfl (.tmp rfl ResV.nil)),zN,⟨_,_,rfl,rfl,h4,rfl⟩⟩
 intro aD N;refine zS<|xN<|qB [] (List Int) ?_;intro b1 hb1;have h5:RL I0 [] ([]:List (List Int)):=rfl;refine yG 2 [] [15] rfl<|bE N λy2 aI N=>sB (zEK ([]:List (List Int)) nest ([]:List Int) _ aI h5 h (SL.nil _)) rfl ?_;rintro bI ax v2 k2 aX - ⟨p1,c1,cs,rfl,rfl,h6⟩ -;refine yQ [] [4] rfl<|zW<|yJ [19] rfl<|zI<|yC N ?_ ?_
 ·intro aQ N;refine yE<|qB [] (List Int) ?_;intro b2 hb2;have h7:RL bI [] ([]:List (List Int)):=rfl;refine yQ [] [2,3] rfl<|xJ<|zF<|wH 0 rfl ?_;intro bL bt hl01;have h8:=SL.of_frozen hl01 bt h7;obtain rfl:=zB N;exact xL ⟨_,_,(.tmp rfl (.tmp rfl ResV.nil)),zN,⟨_,_,rfl,rfl,h8,rfl⟩⟩
 intro aQ N;refine zS<|uN [2,3] rfl<|xJ<|wH 0 rfl ?_;intro I06 bx hl02;have h9:=SL.of_frozen hl02 bx h6;obtain rfl:=zB N;exact xL ⟨_,_,(.tmp rfl (.tmp rfl ResV.nil)),zN,⟨_,_,rfl,rfl,h9,rfl⟩⟩
def jG(r:zA):KT:=λkk I' ai v=>
 ∃v0,ai=[]/\v=tupV [v0]/\(∃cs,v0=.agg ⟨cs⟩/\Rp.rep I' cs r)
def uX(a0:zA):Option (zA):=do
 if((a0.Coefs.length:Int)==0) then
  pure (zA.mk ([]:List Int) a0.Const)
 else
  let l<-app 8 ([]:List Int) a0.Coefs
  pure (zA.mk l a0.Const)
theorem eN:∀a0 r,uX a0=some r->∀{I:Imm}{p c},(S4 I p a0.Coefs c)->RT 243 [vA (cAff a0 p c)] I [] (jG  r):=by
 intro a0 r N I p c h;unfold uX at N;refine yP func243 λB=>yE<|vM (cAff a0 p c) ?_;intro b hb;refine vG [z0,vI 0] ?_;intro b1 hb1;refine yB rfl<|zW<|yE<|yQ [1] [6] rfl<|zI<|yC N ?_ ?_
 ·intro hc N;refine yE<|qX 3 [1] [(9,vA [z0,vI a0.Const])]<|xW 0 [z0,vI a0.Const] rfl<|yB rfl<|xJ<|zF ?_;obtain rfl:=zB N;exact xL ⟨_,_,(.cell 0 rfl rfl (by kernel_rfl) ResV.nil),zN,⟨_,rfl,rfl,⟨_,rfl,(yO ⟨_,rfl,(SL.nil _)⟩)⟩⟩⟩
 intro hc N;refine zS<|zW<|bE N λl hy N=>wU [.x (λI' v hx=>∃b2,v=vS (some ⟨b2,0,none⟩) ([]:List Int) 0/\hx=[hO Int (vS (some ⟨b2,0,none⟩) ([]:List Int) 0) []]/\(RL I' [] ([]:List Int))),.p (vP b 0) [],.p (vS p a0.Coefs c) [1],.x (λI' v hx=>∃p1 c1 cs,v=vS p1 l c1/\hx=[hO Int (vS p1 l c1) cs]/\(RL I' cs l)),.p (vP b 1) [],.p (vI a0.Const) [1],.x (λI' v hx=>∃aT aU aL,v=vA [vS aT l aU,vI a0.Const]/\hx=[hO Int (vS aT l aU) aL]/\(RL I' aL l))] [[],[],[(1,false)],[(0,true),(2,false)],[],[(4,false)],[(3,true),(5,false)]] [hB b1 [z0,vI 0],hB b (cAff a0 p c)] [] [(6,true)] (zY [0,1]) ?_ ?_
 ·refine Ox ?_<|Op<|Op<|Ox ?_<|Op<|Op<|Ox ?_<|On
  ·intro I1 hf af;refine dD []<|qB [] Int ?_;intro b2 hb2;have h1:RL I1 [] ([]:List Int):=rfl;exact yR [hO Int (vS (some ⟨b2,0,none⟩) ([]:List Int) 0) []] iR ⟨_,rfl,rfl,h1⟩
  ·rintro I1 hf af _ _ ⟨b2,rfl,rfl,h1⟩;refine yV [10,12] rfl ?_;have h:=h.mono af;obtain⟨aK,k0,k01⟩:=h;have h:SL I1 (vS p a0.Coefs c) a0.Coefs:=⟨_,k0,k01⟩;exact mD 3 1 0 rfl rfl rfl h1 (.inl k0) k01 hy λp1 c1 cs h2=>uY (ai:=(hO Int (vS p1 l c1) cs::hB b1 [z0,vI 0]::hB b (cAff a0 p c)::hf)) rfl<|yR [hO Int (vS p1 l c1) cs] iR ⟨_,_,_,rfl,rfl,h2⟩
  rintro I1 hf af _ _ ⟨p1,c1,cs,rfl,rfl,h2⟩;exact yV [13,15] rfl<|pG 7 [(16,vA [vS p1 l c1,vI a0.Const])]<|yR [hO Int (vS p1 l c1) cs] iR ⟨_,_,_,rfl,rfl,h2⟩
 rintro I0 le _ _ ⟨aT,aU,aL,rfl,rfl,h21⟩;refine yV [2,16] rfl ?_;refine xW 1 [vS aT l aU,vI a0.Const] rfl<|yB rfl<|xJ<|wH 0 rfl ?_;intro aP af hl0;have h3:=SL.of_frozen hl0 af h21;obtain rfl:=zB N;exact xL ⟨_,_,(.cell 0 rfl rfl (by kernel_rfl) ResV.nil),zN,⟨_,rfl,rfl,⟨_,rfl,(yO ⟨_,rfl,h3⟩)⟩⟩⟩
def zAx(r:zH):KT:=λkk I' ai v=>
 ∃a0_1 c0_1 s0_1,ai=[.osl (.slice a0_1 r.Subs.length c0_1) (Rp.sz zA) s0_1]/\v=tupV [(.agg ⟨[.string ⟨⟨r.Array.l⟩⟩,.slice a0_1 r.Subs.length c0_1]⟩)]/\RepL (Rp.rep I') (Rp.sz zA) s0_1 r.Subs
def wP(a0:zH)(i:Int)(Subs:List zA):Option (List zA):=do
 if(decide (i<(a0.Subs.length:Int))) then
  let x<-idx a0.Subs i
  let y<-uX x
  let l<-app 32 Subs ([y]:List zA)
  wP a0 (W (i+1)) l
 else
  pure (id Subs)
 partial_fixpoint
theorem zAb(a0:zH):∀(i:Int) (Subs:List zA) (o:List zA),wP a0 i Subs=some o->∀{B}{I0 I:Imm}{Q p c}{b:Nat}{b1:Nat}{b2:Nat}{p1 c1 cs},I0.le I->(S4 I p a0.Subs c)->(RL I cs Subs)->NG Q->NO Q->(∀(I':Imm) (Subs1:List zA) (p2:Option Addr) (c2:Nat) (aL:List Value),o=Subs1->I0.le I'->(RL I' aL Subs1)->T 27 B Q (.exit 0) I' [hO zA (vS p2 Subs1 c2) aL,hB b2 [vT a0.Array.l,vS p2 Subs1 c2],hB b1 [vT ([]),z0]] [(2,vP b1 0),(3,vP b2 0)])->J Tryz.prog 27 B (nav (bodyOf f211) [1,1,0,1,0]) Q I [hO zA (vS p1 Subs c1) cs,hB b2 [vT a0.Array.l,vS p1 Subs c1],hB b1 [vT ([]),z0],hB b (cAccess a0 p c)] [(1,vP b 0),(2,vP b1 0),(3,vP b2 0),(4,vI i)]:=by
 refine wP.partial_correctness a0 _ λaN ih i Subs o N B I0 I Q p c b b1 b2 p1 c1 cs H h h2 hg ho hx=>yY hg ho<|yA<|yE<|yQ [3] [12] rfl<|zI<|yC N ?_ ?_
 ·intro hc N;refine zS<|zW<|yK ?_;obtain⟨x,hy,N⟩:=zC N;obtain⟨y,ay,N⟩:=zC N;obtain⟨l,aI,N⟩:=zC N;refine wU [.p (vP b2 1) [],.p (vS p1 Subs c1) [0],.p (vP b 1) [],.p (vS p a0.Subs c) [2],.p (vI i) [],.x (ePAff x),.x (eVAff x),.x (eVAff y),.x (λI' v hx=>∃b3,v=vS (some ⟨b3,0,none⟩) ([y]:List zA) 1/\hx=[]/\(SL I' (vS (some ⟨b3,0,none⟩) ([y]:List zA) 1) ([y]:List zA))),.x (λI' v hx=>∃p5 c5 bd,v=vS p5 l c5/\hx=[hO zA (vS p5 l c5) bd]/\(RL I' bd l))] [[],[(0,false)],[],[(2,false)],[],[(3,false),(4,false)],[(5,false)],[(6,false)],[(7,false)],[(1,false),(8,false),(12,true)]] [hB b2 [vT a0.Array.l,vS p1 Subs c1],hB b1 [vT ([]),z0],hB b (cAccess a0 p c)] [[hO zA (vS p1 Subs c1) cs]] [(9,true)] (zY [1,2,3,0]) ?_ ?_
  ·refine Op<|Op<|Op<|Op<|Op<|Ox ?_<|Ox ?_<|Ox ?_<|Ox ?_<|Ox ?_<|On
   ·intro I1 hf af;refine yV [18,19] rfl ?_;have h:=h.mono af;refine wB rfl rfl h hy ?_;intro ad aK ar al;obtain⟨p3,c3,rfl,h4⟩:=yD al;exact yR [] iR ⟨_,_,_,rfl,rfl,ar,h4⟩
   ·rintro I1 hf af _ _ ⟨ad,p3,c3,rfl,rfl,ar,h4⟩;exact yV [20] rfl<|xU 0 ar (cAff x p3 c3) (vA (cAff x p3 c3)) rfl<|yR [] iR ⟨_,_,rfl,rfl,h4⟩
   ·rintro I1 hf af _ _ ⟨p31,c31,rfl,rfl,h41⟩;refine yV [21] rfl ?_;have H:=iS I1;refine xX (eN x _ ay h41) ?_;rintro I0 ax v2 k2 le - ⟨v01,rfl,rfl,⟨bf,rfl,h5⟩⟩ -;have H:=H.trans le;obtain⟨p4,c4,rfl,h6⟩:=yD h5;exact yR [] H ⟨_,_,rfl,rfl,h6⟩
   ·rintro I1 hf af _ _ ⟨p4,c4,rfl,rfl,h6⟩;refine yV [22] rfl ?_;have H:=iS I1;refine mX (rc y (yO ⟨_,rfl,h6⟩) rN) ?_;intro b3 aP af h8;have H:=H.trans af;exact yR [] H ⟨_,rfl,rfl,h8⟩
   rintro I1 hf af _ _ ⟨rfl,rfl⟩ _ _ ⟨b3,rfl,rfl,h8⟩ _ _ rfl;refine yV [16,23] rfl ?_;have h2:=iM af h2;obtain⟨bi,k0,k01⟩:=h8;have h8:SL I1 (vS (some ⟨b3,0,none⟩) ([y]:List zA) 1) ([y]:List zA):=⟨_,k0,k01⟩;exact mD 50 2 0 rfl rfl rfl h2 (.inl k0) k01 aI λp5 c5 bd h9=>uY (ai:=(hO zA (vS p5 l c5) bd::hB b2 [vT a0.Array.l,vS p1 Subs c1]::hB b1 [vT ([]),z0]::hB b (cAccess a0 p c)::hf)) rfl<|yR [hO zA (vS p5 l c5) bd] iR ⟨_,_,_,rfl,rfl,h9⟩
  rintro aS aE _ _ ⟨p5,c5,bd,rfl,rfl,h9⟩;refine yV [1,2,3,4,24] rfl ?_;have ⟨h,H⟩:=m2 aE h H;exact yG 11 [] [25] rfl<|xW 1 [vT a0.Array.l,vS p5 l c5] rfl<|yB rfl<|zO<|zI<|zL<|yQ [] [4] rfl<|yW<|mE<|ih (W (i+1)) l _ N H h h9 hg ho hx
 intro hc N;exact vQ<|wD (zV [0,1,2] rfl (by decide))<|yS<|hx _ _ _ _ _ (zB N).symm H h2
def uF(a0:zH):Option (zH):=do
 let Subs1<-wP a0 0 ([]:List zA)
 pure (zH.mk a0.Array Subs1)
theorem gJ:∀a0 r,uF a0=some r->∀{I:Imm}{p c},(S4 I p a0.Subs c)->RT 211 [vA (cAccess a0 p c)] I [] (zAx  r):=by
 intro a0 r N I p c h;unfold uF at N;refine yP func211 λB=>yE<|vM (cAccess a0 p c) ?_;intro b hb;refine vG [vT ([]),z0] ?_;intro b1 hb1;refine yB rfl<|xN<|qX 3 [1] [(7,vA [vT a0.Array.l,z0])]<|vG [vT ([]),z0] ?_;intro b2 hb2;refine xW 0 [vT a0.Array.l,z0] rfl<|yB rfl<|zW<|yJ [4] rfl<|wS<|oR [(1,vP b 0),(2,vP b1 0),(3,vP b2 0),(4,vI 0)]<|zAm zA λh1=>?_;obtain⟨o0,az,aF⟩:=zC N;refine zAb a0 0 ([]:List zA) o0 az iR h h1 (λ_ _ _ h=>h) (λ_ _ h=>h) ?_;intro bw Subs1 p2 c2 aL heq aJ h3;subst o0;refine zT<|xN<|qX 1 [1] [(26,vA [vT a0.Array.l,vS p2 Subs1 c2])]<|xW 2 [vT a0.Array.l,vS p2 Subs1 c2] rfl<|yB rfl<|zI<|yX ?_;obtain rfl:=zB aF;exact xL ⟨_,_,(.cell 2 rfl rfl (by kernel_rfl) ResV.nil),(zV [0] rfl (by decide)),⟨_,_,_,rfl,rfl,h3⟩⟩
def zAM(r:(List zH)):KT:=λkk I' ai v=>
 ∃a0 c0 s0,ai=[.osl (.slice a0 r.length c0) (Rp.sz zH) s0]/\v=tupV [(.slice a0 r.length c0)]/\RepL (Rp.rep I') (Rp.sz zH) s0 r
mutual
def qN(out:(List zH))(e0:zD):Option ((List zH)):=do
 let aq<-(do
  if(e0.Kind==3) then
   let y<-uF e0.Read
   let aC<-app 40 out ([y]:List zH)
   pure (id aC)
  else
   pure (id out)
    : Option (List zH))
 let bM<-sN (same e0) (same aq) (same 0)
 pure (id bM)
 partial_fixpoint
def sN(e0:zD)(bz:List zH)(i:Int):Option (List zH):=do
 if(decide (i<(e0.Kids.length:Int))) then
  let x<-idx e0.Kids i
  let y1<-qN (same bz) (same x)
  sN (same e0) (same y1) (W (i+1))
 else
  pure (id bz)
 partial_fixpoint
end
theorem zEL:(∀(out:(List zH)) (e0:zD) r,qN out e0=some r->∀{I:Imm}{p c cs p1 c1 p2 c2 p3 c3},(RL I cs out)->(S4 I p1 e0.Index.Coefs c1)->(S4 I p2 e0.Read.Subs c2)->(S4 I p3 e0.Kids c3)->RT 166 [vS p out c,vA (cExpr e0 p1 c1 p2 c2 p3 c3)] I [hO zH (vS p out c) cs] (zAM  r))/\(∀(e0:zD) (bz:List zH) (i:Int) o,sN e0 bz i=some o->∀{B}{I0 I:Imm}{Q p1 c1 p2 c2 p3 c3}{b:Nat}{p7 c7 bD},I0.le I->(S4 I p1 e0.Index.Coefs c1)->(S4 I p2 e0.Read.Subs c2)->(S4 I p3 e0.Kids c3)->(RL I bD bz)->NG Q->NO Q->(∀(I':Imm) (bM:List zH) (p8:Option Addr) (c8:Nat) (bG:List Value),o=bM->I0.le I'->(RL I' bG bM)->T 30 B Q (.exit 0) I' [hO zH (vS p8 bM c8) bG] [(0,vS p8 bM c8)])->J Tryz.prog 30 B (nav (bodyOf f166) [1,1,0,1,0]) Q I [hB b (cExpr e0 p1 c1 p2 c2 p3 c3),hO zH (vS p7 bz c7) bD] [(0,vS p7 bz c7),(3,vP b 0),(5,vI i)]):=by
 refine qN.mutual_partial_correctness _ _ ?_ ?_
 ·intro F_spec_l3Reads_l1 ih_spec_l3Reads_l1 out e0 r N I p c cs p1 c1 p2 c2 p3 c3 h h1 h2 h3;refine yP func166 λB=>?_;have H:=iS I;refine yE<|vM (cExpr e0 p1 c1 p2 c2 p3 c3) ?_;intro b hb;refine wN [] []<|zW<|yE<|yQ [0] [8] rfl<|zI ?_;obtain⟨o0,az,aM⟩:=zC N;refine nH (λI' ai m'=>∃(aq:List zH) (p4:Option Addr) (c4:Nat) (aL:List Value),o0=aq/\I.le I'/\(RL I' aL aq)/\ai=[hB b (cExpr e0 p1 c1 p2 c2 p3 c3),hO zH (vS p4 aq c4) aL]/\m'=[(0,vS p4 aq c4),(3,vP b 0)]) ?_ ?_
  ·have H:=iS I;refine yC az ?_ ?_
   ·intro hc N;refine zL<|qX 3 [0] [(9,vS p out c),(11,vA (cAccess e0.Read p2 c2))]<|bE N λy hy N=>xX (gJ e0.Read _ hy h2) ?_;rintro aP ax v2 k2 le - ⟨p5,c5,bf,rfl,rfl,h5⟩ -;have ⟨h,H⟩:=m2 le h H;refine wA 0 rfl ?_;intro aS af hl0;have h6:=SL.of_frozen hl0 af h5;have ⟨h,H⟩:=m2 af h H;refine qB (cAccess y p5 c5) zH ?_;intro b1 hb1;have h7:RL aS (cAccess y p5 c5) ([y]:List zH):=⟨(cAccess y p5 c5),_,rfl,rfl,(nQ ⟨_,rfl,h6⟩),rfl⟩;obtain⟨aC,ay,N⟩:=zC N;exact mD 47 2 2 rfl rfl rfl h (.inr ⟨0,rfl⟩) h7 ay λp6 c6 bd h8=>rS (zY [1,2] (ai:=[hB b (cExpr e0 p1 c1 p2 c2 p3 c3),hO zH (vS p6 aC c6) bd]))<|yQ [] [0] rfl<|yS<|zU ⟨_,_,_,_,(zB N).symm,H,h8,rfl,rfl⟩
   intro hc N;exact zS<|yS<|zU ⟨_,_,_,_,(zB N).symm,H,h,rfl,rfl⟩
  rintro I0 ax m2 ⟨aq,p4,c4,aL,heq,aE,h4,rfl,rfl⟩;subst o0;have ⟨h1,h2,h3⟩:=m3 aE h1 h2 h3;refine zW<|yJ [5] rfl<|wS<|oR [(0,vS p4 aq c4),(3,vP b 0),(5,vI 0)] ?_;obtain⟨aO,aB,aF⟩:=zC aM;refine ih_spec_l3Reads_l1 e0 aq 0 aO aB iR h1 h2 h3 h4 (λ_ _ _ h=>h) (λ_ _ h=>h) ?_;intro bI bM p8 c8 bG heq1 aX h10;subst aO;refine zT<|uN [4] rfl<|zI<|yX ?_;obtain rfl:=zB aF;exact xL ⟨_,_,(.tmp rfl ResV.nil),(zV [0] rfl (by decide)),⟨_,_,_,rfl,rfl,h10⟩⟩
 intro F_spec_l3Reads F_spec_l3Reads_l1 ih_spec_l3Reads ih_spec_l3Reads_l1 e0 bz i o N B I0 I Q p1 c1 p2 c2 p3 c3 b p7 c7 bD H h1 h2 h3 h9 hg ho hx;refine yY hg ho<|yA<|yE<|yQ [0] [19] rfl<|zI<|yC N ?_ ?_
 ·intro aD N;refine zS<|zW<|yK<|zL<|yG 4 [0] [22,24,25] rfl<|bE N λx aI N=>wB rfl rfl h3 aI ?_;intro ad aK ar al;obtain⟨p9,c9,aZ,ba,aT,aU,rfl,h11,h12,h13⟩:=wO al;refine xU 0 ar (cExpr x p9 c9 aZ ba aT aU) (vA (cExpr x p9 c9 aZ ba aT aU)) rfl<|rS (zY [1,0] (ai:=[hO zH (vS p7 bz c7) bD,hB b (cExpr e0 p1 c1 p2 c2 p3 c3)]))<|bE N λy1 aW N=>sB (ih_spec_l3Reads bz x _ aW h9 h11 h12 h13) rfl ?_;rintro bw ax v2 k2 aJ - ⟨bv,bc,cs6,rfl,rfl,h14⟩ -;have ⟨h1,h2,h3,H⟩:=m4 aJ h1 h2 h3 H;exact yQ [] [0] rfl<|zO<|zI<|zL<|yQ [] [5] rfl<|yW<|kJ (zV [1,0] rfl (by decide))<|mE<|ih_spec_l3Reads_l1 e0 y1 (W (i+1)) _ N H h1 h2 h3 h14 hg ho hx
 intro aD N;exact vQ<|wD (zV [1] rfl (by decide))<|yS<|hx _ _ _ _ _ (zB N).symm H h9
theorem zEm:∀out e0 r,qN out e0=some r->∀{I:Imm}{p c cs p1 c1 p2 c2 p3 c3},(RL I cs out)->(S4 I p1 e0.Index.Coefs c1)->(S4 I p2 e0.Read.Subs c2)->(S4 I p3 e0.Kids c3)->RT 166 [vS p out c,vA (cExpr e0 p1 c1 p2 c2 p3 c3)] I [hO zH (vS p out c) cs] (zAM  r):=zEL.1
def pS(a0:zG)(n0:Int)(i:Int):Option (Int):=do
 if(decide (i<(a0.Dims.length:Int))) then
  let x<-idx a0.Dims i
  pS a0 (W (n0*x)) (W (i+1))
 else
  pure (id n0)
 partial_fixpoint
theorem zDO(a0:zG):∀(n0:Int) (i:Int) (o:Int),pS a0 n0 i=some o->∀{B}{I0 I:Imm}{Q p c}{b:Nat},I0.le I->(S4 I p a0.Dims c)->NG Q->NO Q->(∀(I':Imm) (n01:Int),o=n01->I0.le I'->T 20 B Q (.exit 0) I' [] [(3,vI n01)])->J Tryz.prog 20 B (nav (bodyOf f212) [1,1,0,1,0]) Q I [hB b (cArr a0 p c)] [(1,vP b 0),(3,vI n0),(4,vI i)]:=by
 refine pS.partial_correctness a0 _ λaN ih n0 i o N B I0 I Q p c b H h hg ho hx=>yY hg ho<|yA<|yE<|yQ [0] [9] rfl<|zI<|yC N ?_ ?_
 ·intro hc N;refine zS<|zW<|yK<|zL<|yG 4 [0] [12,14,15] rfl<|bE N λx hy N=>wB rfl rfl h hy ?_;intro ad aK ar al;obtain rfl:=al;exact xU 0 ar [vI x] (vI x) rfl<|yQ [] [3] rfl<|zO<|zI<|zL<|yQ [] [4] rfl<|yW<|mE<|ih (W (n0*x)) (W (i+1)) _ N H h hg ho hx
 intro hc N;exact vQ<|wD zN<|yS<|hx _ _ (zB N).symm H
def gX(a0:zG):Option (Int):=do
 let n01<-pS a0 1 0
 pure (id n01)
theorem zF3:∀a0 r,gX a0=some r->∀{I:Imm}{p c},(S4 I p a0.Dims c)->RT 212 [vA (cArr a0 p c)] I [] (yT  r):=by
 intro a0 r N I p c h;unfold gX at N;refine yP func212 λB=>yE<|vM (cArr a0 p c) ?_;intro b hb;refine wN [] []<|uN [3] rfl<|zW<|yJ [4] rfl<|wS<|oR [(1,vP b 0),(3,vI 1),(4,vI 0)] ?_;obtain⟨o0,az,aF⟩:=zC N;refine zDO a0 1 0 o0 az iR h (λ_ _ _ h=>h) (λ_ _ h=>h) ?_;intro I0 n01 heq le;subst o0;refine zT<|uN [2] rfl<|zI<|yX ?_;obtain rfl:=zB aF;exact wI
def pT(ah:(List zG))(a0:zH)(ag:(List Int))(i:Int)(n0:Int)(k0:Int):Option (Out Int (Int)):=do
 if(decide (k0<(a0.Subs.length:Int))) then
  let x2<-idx ah i
  if((a0.Subs.length:Int) != (x2.Dims.length:Int)) then
   pure (.ret (-1))
  else
   let x3<-idx a0.Subs k0
   let y1<-oN x3 ag
   let t70<-(do
    if(decide (y1<0)) then
     pure true
    else
     let x4<-idx ah i
     let x5<-idx x4.Dims k0
     pure (decide (y1>=x5))
      : Option Bool)
   if t70 then
    pure (.ret (-1))
   else
    let x6<-idx ah i
    let x7<-idx x6.Dims k0
    pT ah a0 ag i (W ((W (n0*x7))+y1)) (W (k0+1))
 else
  pure (.done n0)
 partial_fixpoint
theorem zDP(ah:(List zG))(a0:zH)(ag:(List Int))(i:Int):∀(n0:Int) (k0:Int) (o:Out Int (Int)),pT ah a0 ag i n0 k0=some o->∀{B}{I0 I:Imm}{Q}{base:Int}{p c p1 c1 p2 c2}{b:Nat},I0.le I->(S4 I p ah c)->(S4 I p2 ag c2)->(S4 I p1 a0.Subs c1)->NG Q->NO Q->(∀(I':Imm) (n01:Int),o=(.done n01)->I0.le I'->T 86 B Q (.exit 2) I' [] [(7,vI base),(9,vI n01)])->(∀r I' ai m',o=(.ret r)->I0.le I'->RS Tryz.prog f167 B (yT  r) I' ai m'->T 86 B Q .ret I' ai m')->J Tryz.prog 86 B (nav (bodyOf f167) [1,1,0,1,0,0,1,0,0,1,1,0,1,0]) Q I [hB b (cAccess a0 p1 c1)] [(0,vS p ah c),(2,vS p2 ag c2),(4,vP b 0),(7,vI base),(8,vI i),(9,vI n0),(10,vI k0)]:=by
 refine pT.partial_correctness ah a0 ag i _ λaN ih n0 k0 o N B I0 I Q base p c p1 c1 p2 c2 b H h h2 h1 hg ho hx hr=>yY hg ho<|yA<|yE<|yQ [0] [37] rfl<|zI<|yC N ?_ ?_
 ·intro aQ N;refine zS<|zW<|yK<|yA<|yA<|fH (by kernel_rfl) (by kernel_rfl)<|zAE 5 [0] [42,43,44] rfl<|bE N λx2 aW N=>zB4 rfl rfl h aW ?_;intro ad2 bP bh bj;obtain⟨p5,c5,rfl,h6⟩:=xQ bj;refine zAE 7 [] [46] rfl<|zB3 1 bh [vS p5 x2.Dims c5] (vS p5 x2.Dims c5) rfl<|zH6 [] [49] rfl<|zI<|yC N ?_ ?_
  ·intro bu N;exact yJ [6] rfl<|xJ<|zF<|zR<|zF<|zF<|hr _ _ _ _ (zB N).symm H ⟨_,_,(.tmp rfl ResV.nil),zN,⟨_,rfl,rfl,rfl⟩⟩
  intro bu N;refine zS<|xN<|yG 3 [0] [51,52] rfl<|bE N λx3 br N=>wB rfl rfl h1 br ?_;intro ad3 ccs3 hat3 bC;obtain⟨p6,c6,rfl,h7⟩:=yD bC;refine xU 0 hat3 (cAff x3 p6 c6) (vA (cAff x3 p6 c6)) rfl<|yG 6 [] [55] rfl<|bE N λy1 bB N=>fN (gI x3 ag _ bB h7 h2) ?_;intro aP af;have ⟨h,h2,h1,H⟩:=m4 af h h2 h1 H;refine yQ [] [11] rfl<|zW<|yA ?_;refine wQ N [hB b (cAccess a0 p1 c1)] (λt70=>[(0,vS p ah c),(2,vS p2 ag c2),(4,vP b 0),(7,vI base),(8,vI i),(9,vI n0),(10,vI k0),(11,vI y1),(70,.bool t70)]) (λo0 az=>?_) ?_
  ·have H:=iS aP;refine zL<|yG 3 [] [59] rfl<|wC [59] az ?_ ?_
   ·intro bK N;exact wN [] [(70,vY)]<|yS<|zU (ct N H)
   intro bK N;refine yG 6 [] [60,61,62] rfl<|bE N λx4 hy6 N=>wB rfl rfl h hy6 ?_;intro ad4 ccs4 hat4 hrep4;obtain⟨p7,c7,rfl,h9⟩:=xQ hrep4;refine yG 8 [] [64] rfl<|xU 1 hat4 [vS p7 x4.Dims c7] (vS p7 x4.Dims c7) rfl<|yG 10 [] [66] rfl<|bE N λx5 hy7 N=>wB rfl rfl h9 hy7 ?_;intro ad5 ccs5 hat5 hrep5;obtain rfl:=hrep5;exact xU 0 hat5 [vI x5] (vI x5) rfl<|yQ [] [70] rfl<|yS<|zU (ct N H)
  intro t70 aS aE aM;have ⟨h,h2,h1,H⟩:=m4 aE h h2 h1 H;refine zI<|yC aM ?_ ?_
  ·intro hc5 N;exact yJ [6] rfl<|xJ<|zF<|zR<|zF<|zF<|hr _ _ _ _ (zB N).symm H ⟨_,_,(.tmp rfl ResV.nil),zN,⟨_,rfl,rfl,rfl⟩⟩
  intro hc5 N;refine zS<|zI<|zL<|yG 3 [] [71,72,73] rfl<|bE N λx6 hy8 N=>wB rfl rfl h hy8 ?_;intro ad6 ccs6 hat6 hrep6;obtain⟨p8,c8,rfl,h10⟩:=xQ hrep6;refine yG 5 [] [75] rfl<|xU 1 hat6 [vS p8 x6.Dims c8] (vS p8 x6.Dims c8) rfl<|yG 7 [] [77] rfl<|bE N λx7 hy9 N=>wB rfl rfl h10 hy9 ?_;intro ad7 ccs7 hat7 hrep7;obtain rfl:=hrep7;exact xU 0 hat7 [vI x7] (vI x7) rfl<|yQ [] [9] rfl<|zO<|zI<|zL<|yQ [] [10] rfl<|yW<|mE<|ih (W ((W (n0*x7))+y1)) (W (k0+1)) _ N H h h2 h1 hg ho hx hr
 intro aQ N;exact vQ<|wD zN<|yS<|hx _ _ (zB N).symm H
def pU(ah:(List zG))(a0:zH)(ag:(List Int))(base:Int)(i:Int):Option (Out Unit (Int)):=do
 if(decide (i<(ah.length:Int))) then
  let x<-idx ah i
  if(!(x.Name.l==a0.Array.l)) then
   let x1<-idx ah i
   let y<-gX x1
   pU ah a0 ag (W (base+y)) (W (i+1))
  else
   match<-pT ah a0 ag i 0 0 with
   | .ret r0=>pure (.ret r0)
   | .done n01=>
    pure (.ret (W (base+n01)))
 else
  pure (.done ())
 partial_fixpoint
theorem zDQ(ah:(List zG))(a0:zH)(ag:(List Int)):∀(base:Int) (i:Int) (o:Out Unit (Int)),pU ah a0 ag base i=some o->∀{B}{I0 I:Imm}{Q p c p1 c1 p2 c2}{b:Nat},I0.le I->(S4 I p ah c)->(S4 I p2 ag c2)->(S4 I p1 a0.Subs c1)->NG Q->NO Q->(∀(I':Imm) ,o=(.done ())->I0.le I'->T 86 B Q (.exit 0) I' [] [])->(∀r I' ai m',o=(.ret r)->I0.le I'->RS Tryz.prog f167 B (yT  r) I' ai m'->T 86 B Q .ret I' ai m')->J Tryz.prog 86 B (nav (bodyOf f167) [1,1,0,1,0]) Q I [hB b (cAccess a0 p1 c1)] [(0,vS p ah c),(2,vS p2 ag c2),(4,vP b 0),(7,vI base),(8,vI i)]:=by
 refine pU.partial_correctness ah a0 ag _ λaN ih base i o N B I0 I Q p c p1 c1 p2 c2 b H h h2 h1 hg ho hx hr=>yY hg ho<|yA<|yJ [15] rfl<|zI<|yC N ?_ ?_
 ·intro hc N;refine zS<|zW<|yK<|yA<|yA<|fH (by kernel_rfl) (by kernel_rfl)<|zAE 2 [] [18,19] rfl<|bE N λx hy N=>zB4 rfl rfl h hy ?_;intro ad aK ar al;obtain⟨p3,c3,rfl,h3⟩:=xQ al;refine zAE 4 [] [21] rfl<|zB3 0 ar [vT x.Name.l] (vT x.Name.l) rfl<|zH6 [0] [25] rfl<|zI<|yC N ?_ ?_
  ·intro aD N;refine yE<|yG 3 [] [26,27,28] rfl<|bE N λx1 ay N=>wB rfl rfl h ay ?_;intro ad1 bi ap aw;obtain⟨p4,c4,rfl,h4⟩:=xQ aw;refine xU 0 ap (cArr x1 p4 c4) (vA (cArr x1 p4 c4)) rfl<|bE N λy aI N=>fN (zF3 x1 _ aI h4) ?_;intro I0 le;have ⟨h,h2,h1,H⟩:=m4 le h h2 h1 H;exact yQ [] [7] rfl<|zI<|zFJ<|gD<|zT<|zI<|zL<|yQ [] [8] rfl<|yW<|mE<|ih (W (base+y)) (W (i+1)) _ N H h h2 h1 hg ho hx hr
  intro aD N;refine zS<|uN [9] rfl<|zW<|yJ [10] rfl<|wS<|oR [(0,vS p ah c),(2,vS p2 ag c2),(4,vP b 0),(7,vI base),(8,vI i),(9,vI 0),(10,vI 0)] ?_;obtain⟨aO,aB,aF⟩:=zC N;refine zDP ah a0 ag i 0 0 aO aB iR h h2 h1 (λ_ _ _ h=>hg _ _ _ h) (λ_ _ h=>ho _ _ h) ?_ ?_
  ·intro bw n01 heq1 aJ;subst aO;have H:=H.trans aJ;exact zT<|uN [6] rfl<|xJ<|zR<|zF<|zF<|hr _ _ _ _ (zB aF).symm H ⟨_,_,(.tmp rfl ResV.nil),zN,⟨_,rfl,rfl,rfl⟩⟩
  intro r0 I9 hs9 m9 aG le9 aH;subst aG;exact zR<|zF<|zR<|zF<|zF<|hr _ _ _ _ (zB aF).symm (H.trans le9) aH
 intro hc N;exact vQ<|wD zN<|yS<|hx _  (zB N).symm H
def jT(ah:(List zG))(a0:zH)(ag:(List Int)):Option (Int):=do
 match<-pU ah a0 ag 0 0 with
 | .ret r0=>pure r0
 | .done _=>
  pure (-1)
theorem zBe:∀ah a0 ag r,jT ah a0 ag=some r->∀{I:Imm}{p c p1 c1 p2 c2},(S4 I p ah c)->(S4 I p1 a0.Subs c1)->(S4 I p2 ag c2)->RT 167 [vS p ah c,vA (cAccess a0 p1 c1),vS p2 ag c2] I [] (yT  r):=by
 intro ah a0 ag r N I p c p1 c1 p2 c2 h h1 h2;unfold jT at N;refine yP func167 λB=>yE<|vM (cAccess a0 p1 c1) ?_;intro b hb;refine wN [] []<|uN [7] rfl<|zW<|yJ [8] rfl<|wS<|oR [(0,vS p ah c),(2,vS p2 ag c2),(4,vP b 0),(7,vI 0),(8,vI 0)] ?_;obtain⟨o02,ho02,hMl1⟩:=zC N;refine zDQ ah a0 ag 0 0 o02 ho02 iR h h2 h1 (λ_ _ _ h=>h) (λ_ _ h=>h) ?_ ?_
 ·intro bI  heq2 aX;subst o02;refine zT<|uN [6] rfl<|zI<|yX ?_;obtain rfl:=zB hMl1;exact wI
 intro r0 I9 hs9 m9 aG le9 aH;subst aG;refine zR<|zF ?_;obtain rfl:=zB hMl1;exact xL aH
def zAN(r:(List Int)×Int×Bool):KT:=λkk I' ai v=>
 ∃v0 v1 v2,ai=[]/\v=tupV [v0,v1,v2]/\SL I' v0 r.1/\v1=.int .i64 r.2.1/\v2=.bool r.2.2
def qO(ah:(List zG))(ag:(List Int))(y:(List zH))(out:List Int)(i:Int):Option (Out (List Int) ((List Int)×Int×Bool)):=do
 if(decide (i<(y.length:Int))) then
  let x<-idx y i
  let y1<-jT ah x ag
  if(decide (y1<0)) then
   pure (.ret (([]:List Int),0,false))
  else
   let aC<-app 8 out ([y1]:List Int)
   qO ah ag y aC (W (i+1))
 else
  pure (.done out)
 partial_fixpoint
theorem zCe(ah:(List zG))(ag:(List Int))(y:(List zH)):∀(out:List Int) (i:Int) (o:Out (List Int) ((List Int)×Int×Bool)),qO ah ag y out i=some o->∀{B}{I0 I:Imm}{Q}{s:zM}{p c p1 c1 p2 c2 p3 c3 p4 c4 p5 c5}{b:Nat}{p6 c6 cs p7 c7 aL},I0.le I->(S4 I p ah c)->(S4 I p5 ag c5)->(RL I cs y)->(S4 I p1 s.Write.Subs c1)->(S4 I p2 s.Value.Index.Coefs c2)->(S4 I p3 s.Value.Read.Subs c3)->(S4 I p4 s.Value.Kids c4)->(RL I aL out)->NG Q->NO Q->(∀(I':Imm) (aq:List Int) (p8:Option Addr) (c8:Nat) (bf:List Value),o=(.done aq)->I0.le I'->(RL I' bf aq)->T 49 B Q (.exit 0) I' [hO Int (vS p8 aq c8) bf,hB b (cStmt s p1 c1 p2 c2 p3 c3 p4 c4)] [(0,vS p ah c),(2,vS p5 ag c5),(4,vP b 0),(9,vS p8 aq c8)])->(∀r I' ai m',o=(.ret r)->I0.le I'->RS Tryz.prog f101 B (zAN  r) I' ai m'->T 49 B Q .ret I' ai m')->J Tryz.prog 49 B (nav (bodyOf f101) [1,1,1,0,1,0]) Q I [hO zH (vS p6 y c6) cs,hO Int (vS p7 out c7) aL,hB b (cStmt s p1 c1 p2 c2 p3 c3 p4 c4)] [(0,vS p ah c),(2,vS p5 ag c5),(4,vP b 0),(9,vS p7 out c7),(10,vS p6 y c6),(11,vI i)]:=by
 refine qO.partial_correctness ah ag y _ λaN ih out i o N B I0 I Q s p c p1 c1 p2 c2 p3 c3 p4 c4 p5 c5 b p6 c6 cs p7 c7 aL H h h5 h8 h1 h2 h3 h4 h9 hg ho hx hr=>yY hg ho<|yA<|yJ [22] rfl<|zI<|yC N ?_ ?_
 ·intro hc N;refine zS<|zW<|yK<|yE<|yG 3 [] [25,26,27] rfl<|bE N λx ay N=>gR 0 rfl rfl rfl h8 ay ?_;intro ad aK ar bJ al;obtain⟨p9,c9,rfl,h11⟩:=nW al;refine zFV 0 0 ar bJ (cAccess x p9 c9) (vA (cAccess x p9 c9)) rfl rfl<|yG 6 [] [30] rfl<|bE N λy1 aI N=>fN (zBe ah x ag _ aI h h11 h5) ?_;intro aP af;have ⟨h,h5,h9,h8,h1,h2⟩:=m6 af h h5 h9 h8 h1 h2;have ⟨h3,h4,H⟩:=m3 af h3 h4 H;refine yQ [] [12] rfl<|zW<|yJ [33] rfl<|zI<|yC N ?_ ?_
  ·intro aD N;refine yE<|qB [] Int ?_;intro b3 hb3;have h13:RL aP [] ([]:List Int):=rfl;refine yQ [] [6,7,8] rfl<|xJ<|zF<|zR<|zF<|zF<|wH 0 rfl ?_;intro aS aE hl0;have h14:=SL.of_frozen hl0 aE h13;have H:=H.trans aE;exact hr _ _ _ _ (zB N).symm H ⟨_,_,(.tmp rfl (.tmp rfl (.tmp rfl ResV.nil))),zN,⟨_,_,_,rfl,rfl,h14,rfl,rfl⟩⟩
  intro aD N;refine zS<|zI<|zL<|yG 2 [] [35,36] rfl<|qB [vI y1] Int ?_;intro b4 hb4;have h15:RL aP [vI y1] ([y1]:List Int):=rI [y1];obtain⟨aC,aW,N⟩:=zC N;exact mD 3 1 2 rfl rfl rfl h9 (.inr ⟨0,rfl⟩) h15 aW λaZ ba bd h16=>rS (zY [1,2,3] (ai:=[hO zH (vS p6 y c6) cs,hO Int (vS aZ aC ba) bd,hB b (cStmt s p1 c1 p2 c2 p3 c3 p4 c4)]))<|yQ [] [9] rfl<|zO<|zI<|zL<|yQ [] [11] rfl<|yW<|mE<|ih aC (W (i+1)) _ N H h h5 h8 h1 h2 h3 h4 h16 hg ho hx hr
 intro hc N;exact vQ<|wD (zV [1,2] rfl (by decide))<|yS<|hx _ _ _ _ _ (zB N).symm H h9
def gK(ah:(List zG))(s:zM)(ag:(List Int)):Option ((List Int)×Int×Bool):=do
 let y<-qN ([]:List zH) s.Value
 match<-qO ah ag y ([]:List Int) 0 with
 | .ret r0=>pure r0
 | .done aq=>
  let y2<-jT ah s.Write ag
  if(decide (y2<0)) then
   pure (([]:List Int),0,false)
  else
   pure (aq,y2,true)
theorem zEn:∀ah s ag r,gK ah s ag=some r->∀{I:Imm}{p c p1 c1 p2 c2 p3 c3 p4 c4 p5 c5},(S4 I p ah c)->(S4 I p1 s.Write.Subs c1)->(S4 I p2 s.Value.Index.Coefs c2)->(S4 I p3 s.Value.Read.Subs c3)->(S4 I p4 s.Value.Kids c4)->(S4 I p5 ag c5)->RT 101 [vS p ah c,vA (cStmt s p1 c1 p2 c2 p3 c3 p4 c4),vS p5 ag c5] I [] (zAN  r):=by
 intro ah s ag r N I p c p1 c1 p2 c2 p3 c3 p4 c4 p5 c5 h h1 h2 h3 h4 h5;unfold gK at N;refine yP func101 λB=>yE<|vM (cStmt s p1 c1 p2 c2 p3 c3 p4 c4) ?_;intro b hb;refine wN [] []<|xN<|qB [] Int ?_;intro b1 hb1;have h6:RL I [] ([]:List Int):=rfl;refine yQ [] [9] rfl<|xN<|qB [] zH ?_;intro b2 hb2;have h7:RL I [] ([]:List zH):=rfl;refine qX 3 [2] [(17,vA (cExpr s.Value p2 c2 p3 c3 p4 c4))]<|bE N λy hy N=>sB (zEm ([]:List zH) s.Value _ hy h7 h2 h3 h4) rfl ?_;rintro I0 ax v2 k2 le - ⟨p6,c6,cs,rfl,rfl,h8⟩ -;have ⟨h,h5,h6,h1,h2,h3⟩:=m6 le h h5 h6 h1 h2 h3;have h4:=h4.mono le;refine yQ [] [10] rfl<|zW<|yJ [11] rfl<|wS<|oR [(0,vS p ah c),(2,vS p5 ag c5),(4,vP b 0),(9,vS (some ⟨b1,0,none⟩) ([]:List Int) 0),(10,vS p6 y c6),(11,vI 0)] ?_;obtain⟨o0,az,aF⟩:=zC N;refine zCe ah ag y ([]:List Int) 0 o0 az iR h h5 h8 h1 h2 h3 h4 h6 (λ_ _ _ h=>h) (λ_ _ h=>h) ?_ ?_
 ·intro bw aq p8 c8 bf heq aJ h10;subst o0;have ⟨h,h5,h1⟩:=m3 aJ h h5 h1;refine zT<|xN<|qX 4 [1] [(39,vS p ah c),(41,vA (cAccess s.Write p1 c1)),(42,vS p5 ag c5)] ?_;obtain⟨y2,br,N⟩:=zC aF;refine fN (zBe ah s.Write ag _ br h h1 h5) ?_;intro bI aX;have h10:=iM aX h10;refine yQ [] [13] rfl<|zW<|yJ [45] rfl<|zI<|yC N ?_ ?_
  ·intro aQ N;refine yE<|qB [] Int ?_;intro b5 hb5;have h18:RL bI [] ([]:List Int):=rfl;refine yQ [] [6,7,8] rfl<|xJ<|zF<|wH 0 rfl ?_;intro bL bt hl01;have h19:=SL.of_frozen hl01 bt h18;obtain rfl:=zB N;exact xL ⟨_,_,(.tmp rfl (.tmp rfl (.tmp rfl ResV.nil))),zN,⟨_,_,_,rfl,rfl,h19,rfl,rfl⟩⟩
  intro aQ N;refine zS<|uN [6,7,8] rfl<|xJ<|wH 0 rfl ?_;intro I06 bx hl02;have h20:=SL.of_frozen hl02 bx h10;obtain rfl:=zB N;exact xL ⟨_,_,(.tmp rfl (.tmp rfl (.tmp rfl ResV.nil))),zN,⟨_,_,_,rfl,rfl,h20,rfl,rfl⟩⟩
 intro r0 I9 hs9 m9 aG le9 aH;subst aG;refine zR<|zF ?_;obtain rfl:=zB aF;exact xL aH
def qP(p:(List Int))(i:Int):Option (Out Unit (Bool)):=do
 if(decide (i<(p.length:Int))) then
  let x<-idx p i
  let y<-nD x 9999
  if(!y) then
   pure (.ret false)
  else
   qP p (W (i+1))
 else
  pure (.done ())
 partial_fixpoint
theorem zCf(p:(List Int)):∀(i:Int) (o:Out Unit (Bool)),qP p i=some o->∀{B}{I0 I:Imm}{Q p1 c},I0.le I->(S4 I p1 p c)->NG Q->NO Q->(∀(I':Imm) ,o=(.done ())->I0.le I'->T 19 B Q (.exit 0) I' [] [(0,vS p1 p c)])->(∀r I' ai m',o=(.ret r)->I0.le I'->RS Tryz.prog f102 B (zQ  r) I' ai m'->T 19 B Q .ret I' ai m')->J Tryz.prog 19 B (nav (bodyOf f102) [1,0,1,0]) Q I [] [(0,vS p1 p c),(3,vI i)]:=by
 refine qP.partial_correctness p _ λaN ih i o N B I0 I Q p1 c H h hg ho hx hr=>yY hg ho<|yA<|yJ [7] rfl<|zI<|yC N ?_ ?_
 ·intro hc N;refine zS<|zW<|yK<|yE<|yG 2 [] [10,11] rfl<|bE N λx hy N=>wB rfl rfl h hy ?_;intro ad aK ar al;obtain rfl:=al;refine xU 0 ar [vI x] (vI x) rfl<|bE N λy ay N=>vH (fZ x 9999 _ ay ) ?_;intro I0 le;have ⟨h,H⟩:=m2 le h H;refine yQ [] [15] rfl<|zI<|yC N ?_ ?_
  ·intro aD N;exact wM [(2,vF)]<|xJ<|zR<|zF<|zF<|hr _ _ _ _ (zB N).symm H ⟨_,_,(.tmp rfl ResV.nil),zN,⟨_,rfl,rfl,rfl⟩⟩
  intro aD N;exact zS<|zO<|zI<|zL<|yQ [] [3] rfl<|yW<|mE<|ih (W (i+1)) _ N H h hg ho hx hr
 intro hc N;exact vQ<|yS<|hx _  (zB N).symm H
def gL(p:(List Int)):Option (Bool):=do
 match<-qP p 0 with
 | .ret r0=>pure r0
 | .done _=>
  pure (decide ((p.length:Int)<=4))
theorem zEo:∀p r,gL p=some r->∀{I:Imm}{p1 c},(S4 I p1 p c)->RT 102 [vS p1 p c] I [] (zQ  r):=by
 intro p r N I p1 c h;unfold gL at N;refine yP func102 λB=>wM []<|zW<|yJ [3] rfl<|wS<|oR [(0,vS p1 p c),(3,vI 0)] ?_;obtain⟨o0,az,aF⟩:=zC N;refine zCf p 0 o0 az iR h (λ_ _ _ h=>h) (λ_ _ h=>h) ?_ ?_
 ·intro aP  heq af;subst o0;refine zT<|uN [2] rfl<|zI<|yX ?_;obtain rfl:=zB aF;exact wI
 intro r0 I9 hs9 m9 aG le9 aH;subst aG;refine zR<|zF ?_;obtain rfl:=zB aF;exact xL aH
def kS(r:Int×Bool):KT:=λkk I' ai v=>
 ∃v0 v1,ai=[]/\v=tupV [v0,v1]/\v0=.int .i64 r.1/\v1=.bool r.2
def pV(ah:(List zG))(part:zJ)(y1:(List (List Int)))(i:Int)(k0:Int):Option (Out Unit (Int×Bool)):=do
 if(decide (k0<(y1.length:Int))) then
  let x1<-idx part.Body i
  let x2<-idx y1 k0
  let (y5,y6,y7)<-gK ah x1 x2
  let t80<-(do
   if(!y7) then
    pure true
   else
    let x3<-idx y1 k0
    let y8<-gL x3
    pure (!y8)
     : Option Bool)
  if t80 then
   pure (.ret (0,false))
  else
   pV ah part y1 i (W (k0+1))
 else
  pure (.done ())
 partial_fixpoint
theorem zDR(ah:(List zG))(part:zJ)(y1:(List (List Int)))(i:Int):∀(k0:Int) (o:Out Unit (Int×Bool)),pV ah part y1 i k0=some o->∀{B}{I0 I:Imm}{Q p c p1 c1 p2 c2}{b:Nat}{p3 c3},I0.le I->(S4 I p ah c)->(S4 I p3 y1 c3)->(S4 I p1 part.Nest c1)->(S4 I p2 part.Body c2)->NG Q->NO Q->(∀(I':Imm) ,o=(.done ())->I0.le I'->T 87 B Q (.exit 2) I' [hB b (cPart part p1 c1 p2 c2)] [(0,vS p ah c),(3,vP b 0),(6,vS p3 y1 c3),(8,vI i)])->(∀r I' ai m',o=(.ret r)->I0.le I'->RS Tryz.prog f45 B (kS  r) I' ai m'->T 87 B Q .ret I' ai m')->J Tryz.prog 87 B (nav (bodyOf f45) [1,1,1,0,1,0,0,1,0,0,1,1,0]) Q I [hB b (cPart part p1 c1 p2 c2)] [(0,vS p ah c),(3,vP b 0),(6,vS p3 y1 c3),(8,vI i),(9,vI k0)]:=by
 refine pV.partial_correctness ah part y1 i _ λaN ih k0 o N B I0 I Q p c p1 c1 p2 c2 b p3 c3 H h h3 h1 h2 hg ho hx hr=>yY hg ho<|yA<|yJ [53] rfl<|zI<|yC N ?_ ?_
 ·intro hc5 N;refine zS<|zW<|yK<|yA ?_;obtain⟨x1,aW,N⟩:=zC N;obtain⟨x2,br,N⟩:=zC N;obtain⟨⟨y5,y6,y7⟩,bB,N⟩:=zC N;refine wU [.p (vS p ah c) [],.p (vP b 1) [],.p (vS p2 part.Body c2) [0],.p (vI i) [],.x (ePStmt x1),.x (eVStmt x1),.p (vS p3 y1 c3) [],.p (vI k0) [],.x (λI' v hx=>∃ad2 bv bc,v=.pointer (some ad2)/\hx=[]/\(At I' ad2 [vS bv x2 bc])/\(S4 I' bv x2 bc)),.x (eS x2),.x (λI' v hx=>∃bb bm,v=.tuple ⟨[vS bb y5 bm,vI y6,.bool y7]⟩/\hx=[]/\(S4 I' bb y5 bm)),.x (λI' v hx=>∃p131 c131,v=.tuple ⟨[vS p131 y5 c131,vI y6,.bool y7]⟩/\hx=[]/\(S4 I' p131 y5 c131)),.x (eS y5),.q (vI y6),.q (.bool y7),.x (eS y5),.p (vI y6) []] [[],[],[(1,false)],[],[(2,false),(3,false)],[(4,false)],[],[],[(6,false),(7,false)],[(8,false)],[(0,false),(5,false),(9,false)],[(10,false)],[(11,false)],[(11,false)],[(11,false)],[(12,false)],[(13,false)]] [hB b (cPart part p1 c1 p2 c2)] [] [(14,false)] (zY [0]) ?_ ?_
  ·refine Op<|Op<|Op<|Op<|Ox ?_<|Ox ?_<|Op<|Op<|Ox ?_<|Ox ?_<|Ox ?_<|Ox ?_<|Ox ?_<|Oq ?_<|Oq ?_<|Ox ?_<|Op<|On
   ·intro I1 hf af;refine yV [59,60] rfl ?_;have h2:=h2.mono af;refine wB rfl rfl h2 aW ?_;intro ad1 bi ap aw;obtain⟨p8,c8,p9,c9,aZ,ba,aT,aU,rfl,h10,h11,h12,h13⟩:=uP aw;exact yR [] iR ⟨_,_,_,_,_,_,_,_,_,rfl,rfl,ap,h10,h11,h12,h13⟩
   ·rintro I1 hf af _ _ ⟨ad1,p8,c8,p9,c9,aZ,ba,aT,aU,rfl,rfl,ap,h10,h11,h12,h13⟩;exact yV [61] rfl<|xU 0 ap (cStmt x1 p8 c8 p9 c9 aZ ba aT aU) (vA (cStmt x1 p8 c8 p9 c9 aZ ba aT aU)) rfl<|yR [] iR ⟨_,_,_,_,_,_,_,_,rfl,rfl,h10,h11,h12,h13⟩
   ·intro I1 hf af;refine yV [63,64] rfl ?_;have h3:=h3.mono af;refine wB rfl rfl h3 br ?_;intro ad2 bP bh bj;obtain⟨v011,rfl,h14⟩:=bj;obtain⟨bv,bc,rfl⟩:=h14.form;exact yR [] iR ⟨_,_,_,rfl,rfl,bh,h14⟩
   ·rintro I1 hf af _ _ ⟨ad2,bv,bc,rfl,rfl,bh,h14⟩;exact yV [65] rfl<|xU 0 bh [vS bv x2 bc] (vS bv x2 bc) rfl<|yR [] iR ⟨_,_,rfl,rfl,h14⟩
   ·rintro I1 hf af _ _ ⟨rfl,rfl⟩ _ _ ⟨p81,c81,p91,c91,p101,c101,p111,c111,rfl,rfl,h101,h111,h121,h131⟩ _ _ ⟨p121,c121,rfl,rfl,h141⟩;refine yV [57,62,66] rfl ?_;have H:=iS I1;have h:=h.mono af;refine xX (zEn ah x1 x2 _ bB h h101 h111 h121 h131 h141) ?_;rintro bI ax v2 k2 aX - ⟨v012,v013,v014,rfl,rfl,h15,rfl,rfl⟩ -;have H:=H.trans aX;obtain⟨bb,bm,rfl⟩:=h15.form;exact yR [] H ⟨_,_,rfl,rfl,h15⟩
   ·rintro I1 hf af _ _ ⟨bb,bm,rfl,rfl,h15⟩;exact yV [67] rfl<|pG 12 [(56,.tuple ⟨[vS bb y5 bm,vI y6,.bool y7]⟩)]<|yR [] iR ⟨_,_,rfl,rfl,h15⟩
   ·rintro I1 hf af _ _ ⟨p131,c131,rfl,rfl,h151⟩;exact yV [56] rfl<|pG 13 [(68,vS p131 y5 c131)]<|yR [] iR ⟨_,_,rfl,rfl,h151⟩
   ·rintro I1 hf af _ _ ⟨p131,c131,rfl,rfl,h151⟩;exact yV [56] rfl<|pG 14 [(69,vI y6)]<|xA iR
   ·rintro I1 hf af _ _ ⟨p131,c131,rfl,rfl,h151⟩;exact yV [56] rfl<|pG 15 [(70,.bool y7)]<|xA iR
   rintro I1 hf af _ _ ⟨p1311,c1311,rfl,rfl,h1511⟩;exact yV [68] rfl<|pG 16 [(10,vS p1311 y5 c1311)]<|yR [] iR ⟨_,_,rfl,rfl,h1511⟩
  intro bL bt;refine yV [0,3,6,8,9,70] rfl ?_;have ⟨h,h3,h1,h2,H⟩:=m5 bt h h3 h1 h2 H;refine yQ [] [12] rfl<|zI<|yA ?_;refine wQ N [hB b (cPart part p1 c1 p2 c2)] (λt80=>[(0,vS p ah c),(3,vP b 0),(6,vS p3 y1 c3),(8,vI i),(9,vI k0),(80,.bool t80)]) (λaO aB=>?_) ?_
  ·have H:=iS bL;refine zL<|yG 3 [] [73] rfl<|wC [73] aB ?_ ?_
   ·intro hc6 N;exact wN [] [(80,vY)]<|yS<|zU (ct N H)
   intro hc6 N;refine yG 5 [] [74,75] rfl<|bE N λx3 hy6 N=>wB rfl rfl h3 hy6 ?_;intro ad3 ccs3 hat3 bC;obtain⟨v015,rfl,h18⟩:=bC;obtain⟨p14,c14,rfl⟩:=h18.form;refine xU 0 hat3 [vS p14 x3 c14] (vS p14 x3 c14) rfl<|bE N λy8 hy7 N=>vH (zEo x3 _ hy7 h18) ?_;intro I07 bx;have H:=H.trans bx;exact yQ [] [80] rfl<|yS<|zU (ct N H)
  intro t80 I06 le7 hMc1;have ⟨h,h3,h1,h2,H⟩:=m5 le7 h h3 h1 h2 H;refine zI<|yC hMc1 ?_ ?_
  ·intro hc7 N;exact yJ [4,5] rfl<|xJ<|zR<|zF<|zF<|hr _ _ _ _ (zB N).symm H ⟨_,_,(.tmp rfl (.tmp rfl ResV.nil)),zN,⟨_,_,rfl,rfl,rfl,rfl⟩⟩
  intro hc7 N;exact zS<|zO<|zI<|zL<|yQ [] [9] rfl<|yW<|mE<|ih (W (k0+1)) _ N H h h3 h1 h2 hg ho hx hr
 intro hc5 N;exact vQ<|yS<|hx _  (zB N).symm H
def pW(ah:(List zG))(part:zJ)(y1:(List (List Int)))(i:Int):Option (Out Unit (Int×Bool)):=do
 if(decide (i<(part.Body.length:Int))) then
  let x<-idx part.Body i
  let y3<-pO x (part.Nest.length:Int)
  if(!y3) then
   pure (.ret (0,false))
  else
   match<-pV ah part y1 i 0 with
   | .ret r0=>pure (.ret r0)
   | .done _=>
    pW ah part y1 (W (i+1))
 else
  pure (.done ())
 partial_fixpoint
theorem zDS(ah:(List zG))(part:zJ)(y1:(List (List Int))):∀(i:Int) (o:Out Unit (Int×Bool)),pW ah part y1 i=some o->∀{B}{I0 I:Imm}{Q p c p1 c1 p2 c2}{b:Nat}{p3 c3},I0.le I->(S4 I p ah c)->(S4 I p3 y1 c3)->(S4 I p1 part.Nest c1)->(S4 I p2 part.Body c2)->NG Q->NO Q->(∀(I':Imm) ,o=(.done ())->I0.le I'->T 87 B Q (.exit 0) I' [hB b (cPart part p1 c1 p2 c2)] [(3,vP b 0),(6,vS p3 y1 c3)])->(∀r I' ai m',o=(.ret r)->I0.le I'->RS Tryz.prog f45 B (kS  r) I' ai m'->T 87 B Q .ret I' ai m')->J Tryz.prog 87 B (nav (bodyOf f45) [1,1,1,0,1,0]) Q I [hB b (cPart part p1 c1 p2 c2)] [(0,vS p ah c),(3,vP b 0),(6,vS p3 y1 c3),(8,vI i)]:=by
 refine pW.partial_correctness ah part y1 _ λaN ih i o N B I0 I Q p c p1 c1 p2 c2 b p3 c3 H h h3 h1 h2 hg ho hx hr=>yY hg ho<|yA<|yE<|yQ [0] [37] rfl<|zI<|yC N ?_ ?_
 ·intro bu N;refine zS<|zW<|yK<|yA<|yA ?_;obtain⟨x,ay,N⟩:=zC N;obtain⟨y3,aI,N⟩:=zC N;refine wU [.p (vP b 1) [],.p (vS p2 part.Body c2) [0],.p (vI i) [],.x (ePStmt x),.x (eVStmt x),.p (vP b 0) [],.p (vS p1 part.Nest c1) [0],.p (vI (part.Nest.length:Int)) [],.q (.bool y3),.p (.bool (!y3)) []] [[],[(0,false)],[],[(1,false),(2,false)],[(3,false)],[],[(5,false)],[(6,false)],[(4,false),(7,false)],[(8,false)]] [hB b (cPart part p1 c1 p2 c2)] [] [(9,false)] (zY [0]) ?_ ?_
  ·refine Op<|Op<|Op<|Ox ?_<|Ox ?_<|Op<|Op<|Op<|Oq ?_<|Op<|On
   ·intro I1 hf af;refine yV [41,42] rfl ?_;have h2:=h2.mono af;refine wB rfl rfl h2 ay ?_;intro ad aK ar al;obtain⟨p4,c4,p5,c5,p6,c6,p7,c7,rfl,h5,h6,h7,h8⟩:=uP al;exact yR [] iR ⟨_,_,_,_,_,_,_,_,_,rfl,rfl,ar,h5,h6,h7,h8⟩
   ·rintro I1 hf af _ _ ⟨ad,p4,c4,p5,c5,p6,c6,p7,c7,rfl,rfl,ar,h5,h6,h7,h8⟩;exact yV [43] rfl<|xU 0 ar (cStmt x p4 c4 p5 c5 p6 c6 p7 c7) (vA (cStmt x p4 c4 p5 c5 p6 c6 p7 c7)) rfl<|yR [] iR ⟨_,_,_,_,_,_,_,_,rfl,rfl,h5,h6,h7,h8⟩
   rintro I1 hf af _ _ ⟨p41,c41,p51,c51,p61,c61,p71,c71,rfl,rfl,h51,h61,h71,h81⟩;refine yV [44,47] rfl ?_;have H:=iS I1;refine vH (fT x (part.Nest.length:Int) _ aI h51 h61 h71 h81) ?_;intro aS aE;have H:=H.trans aE;exact xA H
  intro bw aJ;refine yV [0,3,6,8,49] rfl ?_;have ⟨h,h3,h1,h2,H⟩:=m5 aJ h h3 h1 h2 H;refine yB rfl<|zI<|yC N ?_ ?_
  ·intro bK N;exact yJ [4,5] rfl<|xJ<|zF<|zR<|zF<|zF<|hr _ _ _ _ (zB N).symm H ⟨_,_,(.tmp rfl (.tmp rfl ResV.nil)),zN,⟨_,_,rfl,rfl,rfl,rfl⟩⟩
  intro bK N;refine zS<|uN [9] rfl<|wS<|oR [(0,vS p ah c),(3,vP b 0),(6,vS p3 y1 c3),(8,vI i),(9,vI 0)] ?_;obtain⟨o02,ho02,aF⟩:=zC N;refine zDR ah part y1 i 0 o02 ho02 iR h h3 h1 h2 (λ_ _ _ h=>hg _ _ _ h) (λ_ _ h=>ho _ _ h) ?_ ?_
  ·intro I08  heq2 le8;subst o02;have ⟨h,h3,h1,h2,H⟩:=m5 le8 h h3 h1 h2 H;exact zT<|zO<|zI<|zL<|yQ [] [8] rfl<|yW<|mE<|ih (W (i+1)) _ aF H h h3 h1 h2 hg ho hx hr
  intro r0 I9 hs9 m9 aG le9 aH;subst aG;exact zR<|zR<|zF<|zF<|hr _ _ _ _ (zB aF).symm (H.trans le9) aH
 intro bu N;exact vQ<|yS<|hx _  (zB N).symm H
def kD(ah:(List zG))(part:zJ):Option (Int×Bool):=do
 let (y1,y2)<-mQ part.Nest
 let t32<-(do
  if(!y2) then
   pure true
  else
   if(decide ((part.Body.length:Int)<1)) then
    pure true
   else
    pure (decide ((part.Body.length:Int)>4))
    : Option Bool)
 if t32 then
  pure (0,false)
 else
  match<-pW ah part y1 0 with
  | .ret r0=>pure r0
  | .done _=>
   pure ((W ((y1.length:Int)*(part.Body.length:Int))),true)
theorem dV:∀ah part r,kD ah part=some r->∀{I:Imm}{p c p1 c1 p2 c2},(S4 I p ah c)->(S4 I p1 part.Nest c1)->(S4 I p2 part.Body c2)->RT 45 [vS p ah c,vA (cPart part p1 c1 p2 c2)] I [] (kS  r):=by
 intro ah part r N I p c p1 c1 p2 c2 h h1 h2;unfold kD at N;refine yP func45 λB=>?_;have H:=iS I;refine yE<|vM (cPart part p1 c1 p2 c2) ?_;intro b hb;refine wN [] []<|xN<|yG 2 [0] [15] rfl ?_;obtain⟨⟨y1,y2⟩,hy,N⟩:=zC N;refine xX (zCd part.Nest _ hy h1) ?_;rintro I0 ax v2 k2 le - ⟨v0,v01,rfl,rfl,h3,rfl⟩ -;have ⟨h,h1,h2,H⟩:=m4 le h h1 h2 H;obtain⟨p3,c3,rfl⟩:=h3.form;refine yQ [] [6,7] rfl<|zW<|yA ?_;refine wQ N [hB b (cPart part p1 c1 p2 c2)] (λt32=>[(0,vS p ah c),(3,vP b 0),(6,vS p3 y1 c3),(32,.bool t32)]) (λo0 az=>?_) ?_
 ·have H:=iS I0;refine zL<|yG 3 [] [21] rfl<|wC [21] az ?_ ?_
  ·intro hc N;exact wN [] [(32,vY)]<|yS<|zU (ct N H)
  intro hc N;refine yG 9 [0] [27] rfl<|wC [27] N ?_ ?_
  ·intro aD N;exact wN [] [(32,vY)]<|yS<|zU (ct N H)
  intro aD N;exact yQ [0] [32] rfl<|yS<|zU (ct N H)
 intro t32 aP af aM;have ⟨h,h3,h1,h2⟩:=m4 af h h3 h1 h2;refine zI<|yC aM ?_ ?_
 ·intro aQ N;refine yJ [4,5] rfl<|xJ<|zF ?_;obtain rfl:=zB N;exact xL ⟨_,_,(.tmp rfl (.tmp rfl ResV.nil)),zN,⟨_,_,rfl,rfl,rfl,rfl⟩⟩
 intro aQ N;refine zS<|zW<|yJ [8] rfl<|wS<|oR [(0,vS p ah c),(3,vP b 0),(6,vS p3 y1 c3),(8,vI 0)] ?_;obtain⟨o03,ho03,hMl1⟩:=zC N;refine zDS ah part y1 0 o03 ho03 iR h h3 h1 h2 (λ_ _ _ h=>h) (λ_ _ h=>h) ?_ ?_
 ·intro I09  heq3 le9;subst o03;refine zT<|xN<|yQ [0] [4,5] rfl<|zI<|yX ?_;obtain rfl:=zB hMl1;exact xL ⟨_,_,(.tmp rfl (.tmp rfl ResV.nil)),zN,⟨_,_,rfl,rfl,rfl,rfl⟩⟩
 intro r0 I9 hs9 m9 aG le9 aH;subst aG;refine zR<|zF ?_;obtain rfl:=zB hMl1;exact xL aH
def uT(p:zP)(total:Int)(i:Int):Option (Out Int (Bool)):=do
 if(decide (i<(p.Parts.length:Int))) then
  let x<-idx p.Parts i
  let (y2,y3)<-kD p.Arrays x
  if(!y3) then
   pure (.ret false)
  else
   uT p (W (total+y2)) (W (i+1))
 else
  pure (.done total)
 partial_fixpoint
theorem zAc(p:zP):∀(total:Int) (i:Int) (o:Out Int (Bool)),uT p total i=some o->∀{B}{I0 I:Imm}{Q p1 c p2 c1}{b:Nat},I0.le I->(S4 I p1 p.Arrays c)->(S4 I p2 p.Parts c1)->NG Q->NO Q->(∀(I':Imm) (total1:Int),o=(.done total1)->I0.le I'->T 42 B Q (.exit 0) I' [] [(3,vI total1)])->(∀r I' ai m',o=(.ret r)->I0.le I'->RS Tryz.prog f12 B (zQ  r) I' ai m'->T 42 B Q .ret I' ai m')->J Tryz.prog 42 B (nav (bodyOf f12) [1,1,1,0,1,0]) Q I [hB b (cProg p p1 c p2 c1)] [(1,vP b 0),(3,vI total),(4,vI i)]:=by
 refine uT.partial_correctness p _ λaN ih total i o N B I0 I Q p1 c p2 c1 b H h h1 hg ho hx hr=>yY hg ho<|yA<|yE<|yQ [0] [21] rfl<|zI<|yC N ?_ ?_
 ·intro aQ N;refine zS<|zW<|yK<|yA ?_;obtain⟨x,ay,N⟩:=zC N;obtain⟨⟨y2,y3⟩,aI,N⟩:=zC N;refine wU [.p (vP b 0) [],.p (vS p1 p.Arrays c) [0],.p (vP b 1) [],.p (vS p2 p.Parts c1) [0],.p (vI i) [],.x (ePPart x),.x (eVPart x),.q (.tuple ⟨[vI y2,.bool y3]⟩),.p (.tuple ⟨[vI y2,.bool y3]⟩) [],.p (vI y2) [],.p (.bool y3) [],.p (vI y2) []] [[],[(0,false)],[],[(2,false)],[],[(3,false),(4,false)],[(5,false)],[(1,false),(6,false)],[(7,false)],[(8,false)],[(8,false)],[(9,false)]] [hB b (cProg p p1 c p2 c1)] [] [(10,false),(11,false)] (zY [0]) ?_ ?_
  ·refine Op<|Op<|Op<|Op<|Op<|Ox ?_<|Ox ?_<|Oq ?_<|Op<|Op<|Op<|Op<|On
   ·intro I1 hf af;refine yV [28,29] rfl ?_;have h1:=h1.mono af;refine wB rfl rfl h1 ay ?_;intro ad aK ar al;obtain⟨p3,c2,p4,c3,rfl,h3,h4⟩:=vL al;exact yR [] iR ⟨_,_,_,_,_,rfl,rfl,ar,h3,h4⟩
   ·rintro I1 hf af _ _ ⟨ad,p3,c2,p4,c3,rfl,rfl,ar,h3,h4⟩;exact yV [30] rfl<|xU 0 ar (cPart x p3 c2 p4 c3) (vA (cPart x p3 c2 p4 c3)) rfl<|yR [] iR ⟨_,_,_,_,rfl,rfl,h3,h4⟩
   rintro I1 hf af _ _ ⟨rfl,rfl⟩ _ _ ⟨p31,c21,p41,c31,rfl,rfl,h31,h41⟩;refine yV [26,31] rfl ?_;have H:=iS I1;have h:=h.mono af;refine xX (dV p.Arrays x _ aI h h31 h41) ?_;rintro aS ax v2 k2 aE - ⟨v03,v04,rfl,rfl,rfl,rfl⟩ -;have H:=H.trans aE;exact xA H
  intro bw aJ;refine yV [1,3,4,5,34] rfl ?_;have ⟨h,h1,H⟩:=m3 aJ h h1 H;refine yQ [] [6] rfl<|zW<|yJ [36] rfl<|zI<|yC N ?_ ?_
  ·intro bu N;exact wM [(2,vF)]<|xJ<|zF<|zR<|zF<|zF<|hr _ _ _ _ (zB N).symm H ⟨_,_,(.tmp rfl ResV.nil),zN,⟨_,rfl,rfl,rfl⟩⟩
  intro bu N;exact zS<|zI<|zL<|yQ [] [3] rfl<|zO<|zI<|zL<|yQ [] [4] rfl<|yW<|mE<|ih (W (total+y2)) (W (i+1)) _ N H h h1 hg ho hx hr
 intro aQ N;exact vQ<|wD zN<|yS<|hx _ _ (zB N).symm H
def nL(p:zP):Option (Bool):=do
 let t16<-(do
  let y<-jM p.Arrays
  if(!y) then
   pure true
  else
   pure (decide ((p.Parts.length:Int)>4))
    : Option Bool)
 if t16 then
  pure false
 else
  match<-uT p 0 0 with
  | .ret r0=>pure r0
  | .done total1=>
   pure (decide (total1<=120))
theorem zBf:∀p r,nL p=some r->∀{I:Imm}{p1 c p2 c1},(S4 I p1 p.Arrays c)->(S4 I p2 p.Parts c1)->RT 12 [vA (cProg p p1 c p2 c1)] I [] (zQ  r):=by
 intro p r N I p1 c p2 c1 h h1;unfold nL at N;refine yP func12 λB=>?_;have H:=iS I;refine yE<|vM (cProg p p1 c p2 c1) ?_;intro b hb;refine wN [] []<|zW<|yA ?_;refine wQ N [hB b (cProg p p1 c p2 c1)] (λt16=>[(1,vP b 0),(16,.bool t16)]) (λo0 az=>?_) ?_
 ·have H:=iS I;refine zL<|yG 2 [0] [8] rfl ?_;obtain⟨y,hy,N⟩:=zC az;refine vH (zEH p.Arrays _ hy h) ?_;intro aP le;have H:=H.trans le;refine yG 5 [] [11] rfl<|wC [11] N ?_ ?_
  ·intro hc N;exact wN [] [(16,vY)]<|yS<|zU (ct N H)
  intro hc N;exact yQ [0] [16] rfl<|yS<|zU (ct N H)
 intro t16 I0 af aM;have ⟨h,h1⟩:=m2 af h h1;refine zI<|yC aM ?_ ?_
 ·intro aD N;refine wM [(2,vF)]<|xJ<|zF ?_;obtain rfl:=zB N;exact wI
 intro aD N;refine zS<|uN [3] rfl<|zW<|yJ [4] rfl<|wS<|oR [(1,vP b 0),(3,vI 0),(4,vI 0)] ?_;obtain⟨aO,aB,aF⟩:=zC N;refine zAc p 0 0 aO aB iR h h1 (λ_ _ _ h=>h) (λ_ _ h=>h) ?_ ?_
 ·intro bI total1 heq1 aX;subst aO;refine zT<|uN [2] rfl<|zI<|yX ?_;obtain rfl:=zB aF;exact wI
 intro r0 I9 hs9 m9 aG le9 aH;subst aG;refine zR<|zF ?_;obtain rfl:=zB aF;exact xL aH
def zEM(r:(List zG)):KT:=λkk I' ai v=>
 ∃v0,ai=[]/\v=tupV [v0]/\SL I' v0 r
def kE :Option ((List zG)):=do
 pure ([(zG.mk (⟨[65]⟩:Str) ([6]:List Int)),(zG.mk (⟨[66]⟩:Str) ([4,5]:List Int)),(zG.mk (⟨[67]⟩:Str) ([3]:List Int))]:List zG)
theorem fU:∀r,kE =some r->∀{I:Imm} ,RT 104 [] I [] (zEM  r):=by
 intro  r N I;unfold kE at N;refine yP func104 λB=>wM []<|xN<|qB [vI 6] Int ?_;intro b hb;have h:RL I [vI 6] ([6]:List Int):=rI [6];refine yG 2 [] [2] rfl<|qB [vI 4,vI 5] Int ?_;intro b1 hb1;have h1:RL I [vI 4,vI 5] ([4,5]:List Int):=rI [4,5];refine yG 4 [] [4] rfl<|qB [vI 3] Int ?_;intro b2 hb2;have h2:RL I [vI 3] ([3]:List Int):=rI [3];refine yG 6 [] [6] rfl<|wA 2 rfl ?_;intro I0 le hl0;have h3:=SL.of_frozen hl0 le h;have ⟨h1,h2⟩:=m2 le h1 h2;refine wA 1 rfl ?_;intro aP af hl01;have h4:=SL.of_frozen hl01 af h1;have ⟨h3,h2⟩:=m2 af h3 h2;refine wA 0 rfl ?_;intro aS aE hl02;have h5:=SL.of_frozen hl02 aE h2;have ⟨h3,h4⟩:=m2 aE h3 h4;refine qB [vT ([65]),vS (some ⟨b,0,none⟩) ([6]:List Int) 1,vT ([66]),vS (some ⟨b1,0,none⟩) ([4,5]:List Int) 2,vT ([67]),vS (some ⟨b2,0,none⟩) ([3]:List Int) 1] zG ?_;intro b3 hb3;have h6:RL aS [vT ([65]),vS (some ⟨b,0,none⟩) ([6]:List Int) 1,vT ([66]),vS (some ⟨b1,0,none⟩) ([4,5]:List Int) 2,vT ([67]),vS (some ⟨b2,0,none⟩) ([3]:List Int) 1] ([(zG.mk (⟨[65]⟩:Str) ([6]:List Int)),(zG.mk (⟨[66]⟩:Str) ([4,5]:List Int)),(zG.mk (⟨[67]⟩:Str) ([3]:List Int))]:List zG):=⟨[vT ([65]),vS (some ⟨b,0,none⟩) ([6]:List Int) 1],_,rfl,rfl,(sU ⟨_,rfl,h3⟩),⟨[vT ([66]),vS (some ⟨b1,0,none⟩) ([4,5]:List Int) 2],_,rfl,rfl,(sU ⟨_,rfl,h4⟩),⟨[vT ([67]),vS (some ⟨b2,0,none⟩) ([3]:List Int) 1],_,rfl,rfl,(sU ⟨_,rfl,h5⟩),rfl⟩⟩⟩;refine yQ [] [0] rfl<|xJ<|wH 0 rfl ?_;intro bw aJ hl03;have h7:=SL.of_frozen hl03 aJ h6;obtain rfl:=zB N;exact xL ⟨_,_,(.tmp rfl ResV.nil),zN,⟨_,rfl,rfl,h7⟩⟩
def zBg(b0:Nat)(r:Int×zK):KT:=λkk I' ai v=>
 ∃v0 k0,ai=[.blk b0 ⟨k0⟩]/\v=tupV [v0]/\v0=.int .i64 r.1/\Rp.rep I' k0 r.2
def xC(r0:zK)(n0:Int):Option (Int×zK):=do
 let t24<-(do
  if(decide (n0<1)) then
   pure true
  else
   pure ((r0.b.length:Int)==0)
    : Option Bool)
 if t24 then
  pure (0,(zK.mk r0.b (W (r0.p+1))))
 else
  if(decide ((W ((W (r0.p+1)) - 1))<(r0.b.length:Int))) then
   let x<-idx r0.b (W ((W (r0.p+1)) - 1))
   let q<-rem (W (x.toNat:Int)) n0
   pure (q,(zK.mk r0.b (W (r0.p+1))))
  else
   let q1<-rem (W ((W (r0.p+1)) - 1)) (r0.b.length:Int)
   let x1<-idx r0.b q1
   let q2<-rem (W ((W ((W ((W (r0.p+1)) - 1))*7))+3)) (r0.b.length:Int)
   let x2<-idx r0.b q2
   let q3<-quo (W ((W (r0.p+1)) - 1)) (r0.b.length:Int)
   let q4<-rem (W (BitVec.ofInt IntKind.i64.bits (W ((W ((W ((W ((W (x1.toNat:Int))*131))+(W ((W (x2.toNat:Int))*1117))))+(W ((W ((W (r0.p+1)) - 1))*29))))+(W (q3*53)))) ^^^ BitVec.ofInt IntKind.i64.bits (W ((W ((W ((W ((W ((W (x1.toNat:Int))*131))+(W ((W (x2.toNat:Int))*1117))))+(W ((W ((W (r0.p+1)) - 1))*29))))+(W (q3*53)))).tdiv 64))).toNat) n0
   pure (q4,(zK.mk r0.b (W (r0.p+1))))
theorem xY:∀r0 n0 r,xC r0 n0=some r->∀{I:Imm}{am:Nat}{p c},(S4 I p r0.b c)->RT 68 [vP am 0,vI n0] I [hB am (cRd r0 p c)] (zBg am r):=by
 intro r0 n0 r N I am p c h;unfold xC at N;refine yP func68 λB=>?_;have H:=iS I;refine wM []<|xN<|yG 8 [0] [12,14] rfl<|xW 0 [vS p r0.b c,vI (W (r0.p+1))] rfl<|yB rfl<|zW<|yA ?_;refine wQ N [hB am [vS p r0.b c,vI (W (r0.p+1))]] (λt24=>[(0,vP am 0),(1,vI n0),(24,.bool t24)]) (λo0 az=>?_) ?_
 ·have H:=iS I;refine zL<|yG 3 [] [17] rfl<|wC [17] az ?_ ?_
  ·intro hc N;exact wN [] [(24,vY)]<|yS<|zU (ct N H)
  intro hc N;exact yQ [0] [24] rfl<|yS<|zU (ct N H)
 intro t24 I0 le aM;have h:=h.mono le;refine zI<|yC aM ?_ ?_
 ·intro aD N;refine yJ [4] rfl<|xJ<|zF ?_;obtain rfl:=zB N;exact xL ⟨_,_,(.tmp rfl ResV.nil),(zV [0] rfl (by decide)),⟨_,_,rfl,rfl,rfl,(yZ ⟨_,rfl,h⟩)⟩⟩
 intro aD N;refine zS<|xN<|yQ [0] [5] rfl<|zW<|yE<|yQ [0] [36] rfl<|zI<|yC N ?_ ?_
 ·intro aQ N;refine yE<|yG 5 [0] [40,41] rfl<|bE N λx hy N=>wB rfl rfl h hy ?_;intro ad aK ar al;obtain rfl:=al;refine xU 0 ar [.int .u8 (x.toNat:Int)] (.int .u8 (x.toNat:Int)) rfl<|yG 9 [] [44,45] rfl<|bE N λq ay N=>zMQ rfl ay<|yQ [] [4] rfl<|xJ<|zF ?_;obtain rfl:=zB N;exact xL ⟨_,_,(.tmp rfl ResV.nil),(zV [0] rfl (by decide)),⟨_,_,rfl,rfl,rfl,(yZ ⟨_,rfl,h⟩)⟩⟩
 intro aQ N;refine zS<|zW<|fH (by kernel_rfl) (by kernel_rfl)<|zAE 10 [0,0] [50,51,56] rfl<|bE N λq1 aI N=>zLT rfl aI<|bE N λx1 aW N=>zB4 rfl rfl h aW ?_;intro ad1 bi ap aw;obtain rfl:=aw;refine zB3 0 ap [.int .u8 (x1.toNat:Int)] (.int .u8 (x1.toNat:Int)) rfl<|zAE 27 [0,0] [61,65,68,73] rfl<|bE N λq2 br N=>zLT rfl br<|bE N λx2 bB N=>zB4 rfl rfl h bB ?_;intro ad2 bP bh bj;obtain rfl:=bj;refine zB3 0 bh [.int .u8 (x2.toNat:Int)] (.int .u8 (x2.toNat:Int)) rfl<|zAE 42 [0] [82,83,88] rfl<|bE N λq3 hy6 N=>zMP rfl hy6<|zH6 [] [6] rfl<|uN [6] rfl<|xN<|yG 2 [] [96,97] rfl<|bE N λq4 hy7 N=>zMQ rfl hy7<|yQ [] [4] rfl<|zI<|yX ?_;obtain rfl:=zB N;exact xL ⟨_,_,(.tmp rfl ResV.nil),(zV [0] rfl (by decide)),⟨_,_,rfl,rfl,rfl,(yZ ⟨_,rfl,h⟩)⟩⟩
def zCJ(b0:Nat)(r:Int×zK):KT:=λkk I' ai v=>
 ∃v0 k0,ai=[.blk b0 ⟨k0⟩]/\v=tupV [v0]/\v0=.int .i64 r.1/\Rp.rep I' k0 r.2
def xD(r0:zK)(ah:(List Int)):Option (Int×zK):=do
 let (y1,y2)<-xC r0 (ah.length:Int)
 let x<-idx ah y1
 pure (x,y2)
theorem xP:∀r0 ah r,xD r0 ah=some r->∀{I:Imm}{am:Nat}{p c p1 c1},(S4 I p r0.b c)->(S4 I p1 ah c1)->RT 105 [vP am 0,vS p1 ah c1] I [hB am (cRd r0 p c)] (zCJ am r):=by
 intro r0 ah r N I am p c p1 c1 h h1;unfold xD at N;refine yP func105 λB=>wM []<|xN<|yG 4 [] [5,6,8] rfl ?_;obtain⟨⟨y1,y2⟩,hy,N⟩:=zC N;refine sB (xY r0 (ah.length:Int) _ hy h) rfl ?_;rintro I0 ax v2 k2 le - ⟨v0,kk,rfl,rfl,rfl,h3⟩ -;have h1:=h1.mono le;obtain⟨p2,c2,rfl,h4⟩:=zZ h3;obtain⟨x,ay,N⟩:=zC N;refine wB rfl rfl h1 ay ?_;intro ad aK ar al;obtain rfl:=al;refine xU 0 ar [vI x] (vI x) rfl<|yQ [] [4] rfl<|zI<|yX ?_;obtain rfl:=zB N;exact xL ⟨_,_,(.tmp rfl ResV.nil),(zV [0] rfl (by decide)),⟨_,_,rfl,rfl,rfl,(yZ ⟨_,rfl,h4⟩)⟩⟩
def pX(n01:Int)(out:Str):Option ((Int×Str)):=do
 if(decide (n01>9)) then
  let s1<-cat (⟨([(u8 (W (48+(n01.tmod 10))))]:List UInt8)⟩:Str) out
  pX (W (n01.tdiv 10)) s1
 else
  pure (n01,out)
 partial_fixpoint
theorem zDT :∀(n01:Int) (out:Str) (o:(Int×Str)),pX n01 out=some o->∀{B}{I0 I:Imm}{Q}  ,I0.le I->NG Q->NO Q->(∀(I':Imm) (n02:Int) (aq:Str),o=(n02,aq)->I0.le I'->T 31 B Q (.exit 0) I' [] [(0,vI n02),(3,vT aq.l)])->J Tryz.prog 31 B (nav (bodyOf f39) [1,1,1,1,0,0]) Q I [] [(0,vI n01),(3,vT out.l)]:=by
 refine pX.partial_correctness  _ λaN ih n01 out o N B I0 I Q H hg ho hx=>yY hg ho<|yA<|yJ [13] rfl<|zI<|yC N ?_ ?_
 ·intro aQ N;refine zS<|wS<|yE<|yG 3 [] [16] rfl<|zMN (d:=17) (i:=(W (48+(n01.tmod 10)))) rfl (by kernel_rfl)<|qB [.int .u8 ((u8 (W (48+(n01.tmod 10)))).toNat:Int)] UInt8 ?_;intro b hb;have h1:RL I [.int .u8 ((u8 (W (48+(n01.tmod 10)))).toNat:Int)] ([(u8 (W (48+(n01.tmod 10))))]:List UInt8):=⟨[.int .u8 ((u8 (W (48+(n01.tmod 10)))).toNat:Int)],_,rfl,rfl,rfl,rfl⟩;exact zIl (l:=([(u8 (W (48+(n01.tmod 10))))]:List UInt8)) rfl rfl rfl rfl (by kernel_rfl) (by kernel_rfl) (.inr ⟨0,rfl⟩) h1<|yG 7 [] [20] rfl<|bE N λs1 aI N=>oL rfl aI<|yQ [] [3] rfl<|zI<|zL<|yQ [] [0] rfl<|zO<|yW<|kJ zN<|mE<|ih (W (n01.tdiv 10)) s1 _ N H  hg ho hx
 intro aQ N;exact vQ<|yS<|hx _ _ _ (zB N).symm H
def rV(n0:Int):Option (Str):=do
 if(decide (n0<(-9223372036854775807))) then
  pure (⟨[45,57,50,50,51,51,55,50,48,51,54,56,53,52,55,55,53,56,48,56]⟩:Str)
 else
  if(decide (n0<0)) then
   let y<-rV (W (0 - n0))
   let s<-cat (⟨[45]⟩:Str) y
   pure (id s)
  else
   let (n02,aq)<-pX n0 (⟨[]⟩:Str)
   let s2<-cat (⟨([(u8 (W (48+n02)))]:List UInt8)⟩:Str) aq
   pure (id s2)
 partial_fixpoint
theorem dW:∀n0 r,rV n0=some r->∀{I:Imm} ,RT 39 [vI n0] I [] (xT  r):=by
 refine rV.partial_correctness _ λF_spec_l16Dec ih_spec_l16Dec n0 r N I=>yP func39 λB=>wM []<|zW<|yJ [5] rfl<|zI<|yC N ?_ ?_
 ·intro hc N;refine yJ [2] rfl<|xJ<|zF ?_;obtain rfl:=zB N;exact wI
 intro hc N;refine zS<|zW<|yJ [7] rfl<|zI<|yC N ?_ ?_
 ·intro aD N;refine yE<|yG 2 [] [9] rfl<|bE N λy hy N=>xX (ih_spec_l16Dec (W (0 - n0)) _ hy ) ?_;rintro I0 ax v2 k2 le - ⟨v0,rfl,rfl,rfl⟩ -;obtain⟨s,ay,N⟩:=zC N;refine oL rfl ay<|yQ [] [2] rfl<|xJ<|zF ?_;obtain rfl:=zB N;exact wI
 intro aD N;refine zS<|uN [3] rfl<|zW<|yK<|oR [(0,vI n0),(3,vT ([]))] ?_;obtain⟨o0,az,aF⟩:=zC N;refine zDT n0 (⟨[]⟩:Str) o0 az iR  (λ_ _ _ h=>h) (λ_ _ h=>h) ?_;intro aP n02 aq heq af;subst o0;refine zT<|xN<|yG 2 [] [25] rfl<|zMN (d:=26) (i:=(W (48+n02))) rfl (by kernel_rfl)<|qB [.int .u8 ((u8 (W (48+n02))).toNat:Int)] UInt8 ?_;intro b1 hb1;have h2:RL aP [.int .u8 ((u8 (W (48+n02))).toNat:Int)] ([(u8 (W (48+n02)))]:List UInt8):=⟨[.int .u8 ((u8 (W (48+n02))).toNat:Int)],_,rfl,rfl,rfl,rfl⟩;refine zIl (l:=([(u8 (W (48+n02)))]:List UInt8)) rfl rfl rfl rfl (by kernel_rfl) (by kernel_rfl) (.inr ⟨0,rfl⟩) h2<|yG 6 [] [29] rfl ?_;obtain⟨s2,aW,N⟩:=zC aF;refine oL rfl aW<|yQ [] [2] rfl<|zI<|yX ?_;obtain rfl:=zB N;exact wI
def jU(n0:Int)(name:Str):Option (Str):=do
 let (n01,sign)<-(do
  if(decide (n0<0)) then
   pure ((W (0 - n0)),(⟨[45]⟩:Str))
  else
   pure (n0,(⟨[43]⟩:Str))
    : Option (Int×Str))
 if(name.l==([]:List UInt8)) then
  let y<-rV n01
  let s<-cat sign y
  pure (id s)
 else
  if(n01==1) then
   let s1<-cat sign name
   pure (id s1)
  else
   let y1<-rV n01
   let s2<-cat sign y1
   let s3<-cat s2 (⟨[42]⟩:Str)
   let s4<-cat s3 name
   pure (id s4)
theorem zBh:∀n0 name r,jU n0 name=some r->∀{I:Imm} ,RT 154 [vI n0,vT name.l] I [] (xT  r):=by
 intro n0 name r N I;unfold jU at N;refine yP func154 λB=>?_;have H:=iS I;refine wM []<|uN [5] rfl<|zW<|yJ [7] rfl<|zI ?_;obtain⟨o0,az,aM⟩:=zC N;refine nH (λI' ai m'=>∃(n01:Int) (sign:Str),o0=(n01,sign)/\I.le I'/\ai=[]/\m'=[(0,vI n01),(1,vT name.l),(5,vT sign.l)]) ?_ ?_
 ·have H:=iS I;refine yC az ?_ ?_
  ·intro hc N;exact yJ [5] rfl<|zI<|zL<|yQ [] [0] rfl<|yS<|zU ⟨_,_,(zB N).symm,H,rfl,rfl⟩
  intro hc N;exact zS<|yS<|zU ⟨_,_,(zB N).symm,H,rfl,rfl⟩
 rintro I0 ax m2 ⟨n01,sign,heq,le,rfl,rfl⟩;subst o0;refine zW<|yJ [11] rfl<|zI<|yC aM ?_ ?_
 ·intro aD N;refine yE<|yG 2 [] [12,13] rfl<|bE N λy hy N=>xX (dW n01 _ hy ) ?_;rintro aP ax v2 k2 af - ⟨v0,rfl,rfl,rfl⟩ -;obtain⟨s,ay,N⟩:=zC N;refine oL rfl ay<|yQ [] [4] rfl<|xJ<|zF ?_;obtain rfl:=zB N;exact wI
 intro aD N;refine zS<|zW<|yJ [17] rfl<|zI<|yC N ?_ ?_
 ·intro aQ N;refine yE<|yG 2 [] [18,19] rfl<|bE N λs1 aI N=>oL rfl aI<|yQ [] [4] rfl<|xJ<|zF ?_;obtain rfl:=zB N;exact wI
 intro aQ N;refine zS<|xN<|yG 2 [] [21,22] rfl<|bE N λy1 aW N=>xX (dW n01 _ aW ) ?_;rintro aS ax v2 k2 aE - ⟨v01,rfl,rfl,rfl⟩ -;obtain⟨s2,br,N⟩:=zC N;refine oL rfl br<|bE N λs3 bB N=>oL rfl bB<|yG 6 [] [26] rfl<|bE N λs4 hy6 N=>oL rfl hy6<|yQ [] [4] rfl<|zI<|yX ?_;obtain rfl:=zB N;exact wI
def pY(a0:zA)(out:Str)(i:Int):Option (Str):=do
 if(decide (i<(a0.Coefs.length:Int))) then
  let x<-idx a0.Coefs i
  let aC<-(do
   if(x != 0) then
    let x1<-idx a0.Coefs i
    let s<-sslc (⟨[105,106,107,108]⟩:Str) i (W (i+1))
    let y<-jU x1 s
    let s1<-cat out y
    pure (id s1)
   else
    pure (id out)
     : Option Str)
  pY a0 aC (W (i+1))
 else
  pure (id out)
 partial_fixpoint
theorem zDU(a0:zA):∀(out:Str) (i:Int) (o:Str),pY a0 out i=some o->∀{B}{I0 I:Imm}{Q p c}{b:Nat},I0.le I->(S4 I p a0.Coefs c)->NG Q->NO Q->(∀(I':Imm) (aq:Str),o=aq->I0.le I'->T 46 B Q (.exit 0) I' [hB b (cAff a0 p c)] [(1,vP b 0),(3,vT aq.l)])->J Tryz.prog 46 B (nav (bodyOf f92) [1,1,0,1,0]) Q I [hB b (cAff a0 p c)] [(1,vP b 0),(3,vT out.l),(4,vI i)]:=by
 refine pY.partial_correctness a0 _ λaN ih out i o N B I0 I Q p c b H h hg ho hx=>yY hg ho<|yA<|yE<|yQ [0] [9] rfl<|zI<|yC N ?_ ?_
 ·intro hc N;refine zS<|zW<|yK<|yE<|yG 3 [0] [13,14] rfl<|bE N λx hy N=>wB rfl rfl h hy ?_;intro ad aK ar al;obtain rfl:=al;refine xU 0 ar [vI x] (vI x) rfl<|yQ [] [17] rfl<|zI ?_;refine wQ N [hB b (cAff a0 p c)] (λaC=>[(1,vP b 0),(3,vT aC.l),(4,vI i)]) (λo0 az=>?_) ?_
  ·have H:=iS I;refine yC az ?_ ?_
   ·intro aD N;obtain⟨x1,ay,N⟩:=zC N;obtain⟨s,aI,N⟩:=zC N;obtain⟨y,aW,N⟩:=zC N;obtain⟨s1,br,N⟩:=zC N;refine wU [.p (vT out.l) [],.p (vP b 0) [],.p (vS p a0.Coefs c) [0],.p (vI i) [],.x (λI' v hx=>∃ad1,v=.pointer (some ad1)/\hx=[]/\(At I' ad1 [vI x1])),.q (vI x1),.p (vI i) [],.p (vI i) [],.p (vI (W (i+1))) [],.q (vT s.l),.q (vT y.l),.q (vT s1.l)] [[],[],[(1,false)],[],[(2,false),(3,false)],[(4,false)],[],[],[(7,false)],[(6,false),(8,false)],[(5,false),(9,false)],[(0,false),(10,false)]] [hB b (cAff a0 p c)] [] [(11,false)] (zY [0]) ?_ ?_
    ·refine Op<|Op<|Op<|Op<|Ox ?_<|Oq ?_<|Op<|Op<|Op<|Oq ?_<|Oq ?_<|Oq ?_<|On
     ·intro I1 hf af;refine yV [20,21] rfl ?_;have h:=h.mono af;refine wB rfl rfl h ay ?_;intro ad1 bi ap aw;obtain rfl:=aw;exact yR [] iR ⟨_,rfl,rfl,ap⟩
     ·rintro I1 hf af _ _ ⟨ad1,rfl,rfl,ap⟩;exact yV [22] rfl<|xU 0 ap [vI x1] (vI x1) rfl<|xA iR
     ·intro I1 hf af;exact yV [24,26] rfl<|zEd rfl aI<|xA iR
     ·intro I1 hf af;refine yV [23,27] rfl ?_;have H:=iS I1;refine xX (zBh x1 s _ aW ) ?_;rintro aP ax v2 k2 le - ⟨v0,rfl,rfl,rfl⟩ -;have H:=H.trans le;exact xA H
     intro I1 hf af;exact yV [18,28] rfl<|oL rfl br<|xA iR
    intro aS af;refine yV [1,4,29] rfl ?_;have H:=H.trans af;exact yQ [] [3] rfl<|yS<|zU (ct N H)
   intro aD N;exact zS<|yS<|zU (ct N H)
  intro aC I0 aE aM;have ⟨h,H⟩:=m2 aE h H;exact zO<|zI<|zL<|yQ [] [4] rfl<|yW<|mE<|ih aC (W (i+1)) _ aM H h hg ho hx
 intro hc N;exact vQ<|yS<|hx _ _ (zB N).symm H
def kF(a0:zA):Option (Str):=do
 let aq<-pY a0 (⟨[]⟩:Str) 0
 let bz<-(do
  if(a0.Const != 0) then
   let y1<-jU a0.Const (⟨[]⟩:Str)
   let s2<-cat aq y1
   pure (id s2)
  else
   pure (id aq)
    : Option Str)
 if(bz.l==([]:List UInt8)) then
  pure (⟨[48]⟩:Str)
 else
  let s3<-sslc bz 0 1
  if(s3.l==([43]:List UInt8)) then
   let s4<-sslc bz 1 (bz.l.length:Int)
   pure (id s4)
  else
   pure (id bz)
theorem dX:∀a0 r,kF a0=some r->∀{I:Imm}{p c},(S4 I p a0.Coefs c)->RT 92 [vA (cAff a0 p c)] I [] (xT  r):=by
 intro a0 r N I p c h;unfold kF at N;refine yP func92 λB=>?_;have H:=iS I;refine yE<|vM (cAff a0 p c) ?_;intro b hb;refine wN [] []<|uN [3] rfl<|zW<|yJ [4] rfl<|wS<|oR [(1,vP b 0),(3,vT ([])),(4,vI 0)] ?_;obtain⟨aO,aB,aF⟩:=zC N;refine zDU a0 (⟨[]⟩:Str) 0 aO aB iR h (λ_ _ _ h=>h) (λ_ _ h=>h) ?_;intro bw aq heq1 aJ;subst aO;have H:=H.trans aJ;refine zT<|zW<|yE<|yQ [0] [32] rfl<|zI ?_;refine wQ aF [] (λbz=>[(3,vT bz.l)]) (λo02 ho02=>?_) ?_
 ·have H:=iS bw;refine yC ho02 ?_ ?_
  ·intro aQ N;refine zL<|yG 3 [0] [33,35] rfl<|bE N λy1 bB N=>xX (zBh a0.Const (⟨[]⟩:Str) _ bB ) ?_;rintro bL ax v2 k2 aX - ⟨v01,rfl,rfl,rfl⟩ -;have H:=H.trans aX;obtain⟨s2,hy6,N⟩:=zC N;exact oL rfl hy6<|yQ [] [3] rfl<|wD zN<|yS<|zU (ct N H)
  intro aQ N;exact zS<|wD zN<|yS<|zU (ct N H)
 intro bz bI bt hMc1;refine zW<|yJ [39] rfl<|zI<|yC hMc1 ?_ ?_
 ·intro bu N;refine yJ [2] rfl<|xJ<|zF ?_;obtain rfl:=zB N;exact wI
 intro bu N;refine zS<|zW<|yE<|yG 1 [] [40] rfl<|bE N λs3 hy7 N=>zEd rfl hy7<|yQ [] [42] rfl<|zI<|yC N ?_ ?_
 ·intro bK N;refine yE<|yG 1 [] [43] rfl<|bE N λs4 hy8 N=>zEd rfl hy8<|yQ [] [2] rfl<|xJ<|zF ?_;obtain rfl:=zB N;exact wI
 intro bK N;refine zS<|uN [2] rfl<|zI<|yX ?_;obtain rfl:=zB N;exact wI
def tN(ah:(List zA))(out:Str)(i:Int):Option (Str):=do
 if(decide (i<(ah.length:Int))) then
  let aC<-(do
   if(decide (i>0)) then
    let s<-cat out (⟨[44]⟩:Str)
    pure (id s)
   else
    pure (id out)
     : Option Str)
  let x<-idx ah i
  let y<-kF x
  let s1<-cat aC y
  tN ah s1 (W (i+1))
 else
  pure (id out)
 partial_fixpoint
theorem zBS(ah:(List zA)):∀(out:Str) (i:Int) (o:Str),tN ah out i=some o->∀{B}{I0 I:Imm}{Q p c},I0.le I->(S4 I p ah c)->NG Q->NO Q->(∀(I':Imm) (aq:Str),o=aq->I0.le I'->T 23 B Q (.exit 0) I' [] [(3,vT aq.l)])->J Tryz.prog 23 B (nav (bodyOf f91) [1,1,0,1,0]) Q I [] [(0,vS p ah c),(3,vT out.l),(4,vI i)]:=by
 refine tN.partial_correctness ah _ λaN ih out i o N B I0 I Q p c H h hg ho hx=>yY hg ho<|yA<|yJ [8] rfl<|zI<|yC N ?_ ?_
 ·intro hc N;refine zS<|zW<|yK<|yA<|yJ [12] rfl<|zI ?_;refine wQ N [] (λaC=>[(0,vS p ah c),(3,vT aC.l),(4,vI i)]) (λo0 az=>?_) ?_
  ·have H:=iS I;refine yC az ?_ ?_
   ·intro aD N;exact zL<|yG 1 [] [13] rfl<|bE N λs hy N=>oL rfl hy<|yQ [] [3] rfl<|yS<|zU (ct N H)
   intro aD N;exact zS<|yS<|zU (ct N H)
  intro aC I0 le aM;have ⟨h,H⟩:=m2 le h H;refine zI<|zL<|yG 3 [] [15,16,17] rfl ?_;obtain⟨x,ay,N⟩:=zC aM;refine wB rfl rfl h ay ?_;intro ad aK ar al;obtain⟨p1,c1,rfl,h1⟩:=yD al;refine xU 0 ar (cAff x p1 c1) (vA (cAff x p1 c1)) rfl<|bE N λy aI N=>xX (dX x _ aI h1) ?_;rintro aP ax v2 k2 af - ⟨v01,rfl,rfl,rfl⟩ -;have ⟨h,H⟩:=m2 af h H;obtain⟨s1,aW,N⟩:=zC N;exact oL rfl aW<|yQ [] [3] rfl<|zO<|zI<|zL<|yQ [] [4] rfl<|yW<|mE<|ih s1 (W (i+1)) _ N H h hg ho hx
 intro hc N;exact vQ<|yS<|hx _ _ (zB N).symm H
def mR(ah:(List zA)):Option (Str):=do
 let aq<-tN ah (⟨[]⟩:Str) 0
 pure (id aq)
theorem zCg:∀ah r,mR ah=some r->∀{I:Imm}{p c},(S4 I p ah c)->RT 91 [vS p ah c] I [] (xT  r):=by
 intro ah r N I p c h;unfold mR at N;refine yP func91 λB=>wM []<|uN [3] rfl<|zW<|yJ [4] rfl<|wS<|oR [(0,vS p ah c),(3,vT ([])),(4,vI 0)] ?_;obtain⟨aO,aB,aF⟩:=zC N;refine zBS ah (⟨[]⟩:Str) 0 aO aB iR h (λ_ _ _ h=>h) (λ_ _ h=>h) ?_;intro aS aq heq1 aE;subst aO;refine zT<|uN [2] rfl<|zI<|yX ?_;obtain rfl:=zB aF;exact wI
def pA(a0:zH):Option (Str):=do
 let s<-cat a0.Array (⟨[91]⟩:Str)
 let y<-mR a0.Subs
 let s1<-cat s y
 let s2<-cat s1 (⟨[93]⟩:Str)
 pure (id s2)
theorem eO:∀a0 r,pA a0=some r->∀{I:Imm}{p c},(S4 I p a0.Subs c)->RT 41 [vA (cAccess a0 p c)] I [] (xT  r):=by
 intro a0 r N I p c h;unfold pA at N;refine yP func41 λB=>?_;have H:=iS I;refine yE<|vM (cAccess a0 p c) ?_;intro b hb;refine wN [] []<|zI<|yA ?_;obtain⟨s,hy,N⟩:=zC N;obtain⟨y,ay,N⟩:=zC N;obtain⟨s1,aI,N⟩:=zC N;obtain⟨s2,aW,N⟩:=zC N;refine wU [.p (vP b 0) [],.p (vT a0.Array.l) [0],.q (vT s.l),.p (vP b 1) [],.p (vS p a0.Subs c) [0],.q (vT y.l),.q (vT s1.l),.q (vT s2.l)] [[],[(0,false)],[(1,false)],[],[(3,false)],[(4,false)],[(2,false),(5,false)],[(6,false)]] [hB b (cAccess a0 p c)] [] [(7,false)] (zY [0]) ?_ ?_
 ·refine Op<|Op<|Oq ?_<|Op<|Op<|Oq ?_<|Oq ?_<|Oq ?_<|On
  ·intro I1 hf af;exact yV [4] rfl<|oL rfl hy<|xA iR
  ·intro I1 hf af;refine yV [7] rfl ?_;have H:=iS I1;have h:=h.mono af;refine xX (zCg a0.Subs _ ay h) ?_;rintro I0 ax v2 k2 le - ⟨v0,rfl,rfl,rfl⟩ -;have H:=H.trans le;exact xA H
  ·intro I1 hf af;exact yV [5,8] rfl<|oL rfl aI<|xA iR
  intro I1 hf af;exact yV [9] rfl<|oL rfl aW<|xA iR
 intro aP af;refine yV [10] rfl ?_;refine yQ [] [2] rfl<|zI<|yX ?_;obtain rfl:=zB N;exact wI
end Go.LN
