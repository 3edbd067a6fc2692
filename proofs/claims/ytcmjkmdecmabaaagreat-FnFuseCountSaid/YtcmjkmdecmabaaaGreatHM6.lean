/- Helper of the proof (see the last text). -/
import Derived.Test.YtcmjkmdecmabaaaGreatHM5
set_option linter.unusedVariables false
set_option linter.unusedSimpArgs false
namespace Go.LN
open Go.Proofs Go.Proofs.Tryz
set_option maxRecDepth 20000
def fD(kind:Int):Option (Int):=do
 let t4<-(do
  if(kind==1) then pure (kind==1)
  else
   let t41<-(do
    if(kind==2) then pure (kind==2)
    else
     pure (kind==3)
      : Option Bool)
   pure (id t41)
    : Option Bool)
 if t4 then pure (id 0)
 else
  let t8<-(do
   if(kind==4) then pure (kind==4)
   else
    let t81<-(do
     if(kind==5) then pure (kind==5)
     else
      pure (kind==6)
       : Option Bool)
    pure (id t81)
     : Option Bool)
  if t8 then pure (id 2)
  else pure (-1)
theorem zEC:∀kind r,fD kind=some r->∀{I:Imm} ,RT 227 [vI kind] I [] (yP  r):=by
 intro kind r N I;unfold fD at N;refine yM func227 λB=>?_;have H:=iS I;refine wZ []<|yA<|yK [3] rfl<|wN<|yC<|yK [4] rfl<|zK ?_;refine vQ N [] (λt4=>[(3,vI kind),(4,.bool t4)]) (λo0 aA=>?_) ?_
 ·have H:=iS I;refine yH aA ?_ ?_
  ·intro hc N;exact zT<|yZ<|zU (ct N H)
  intro hc N;refine yK [4] rfl<|zK ?_;refine vQ N [] (λt41=>[(3,vI kind),(4,.bool t41)]) (λaU aB=>?_) ?_
  ·have H:=iS I;refine yH aB ?_ ?_
   ·intro aH N;exact zT<|yZ<|zU (ct N H)
   intro aH N;exact zL<|yQ [] [4] rfl<|yZ<|zU (ct N H)
  intro t41 aP le hMc1;have H:=H.trans le;exact yZ<|zU (ct hMc1 H)
 intro t4 I0 aa aX;have H:=H.trans aa;refine zK<|yH aX ?_ ?_
 ·intro ba N;refine yK [2] rfl<|xH<|zV<|zJ ?_;obtain rfl:=zE N;exact vH
 intro ba N;refine yC<|yK [8] rfl<|zK ?_;refine vQ N [] (λt8=>[(8,.bool t8)]) (λo02 ho02=>?_) ?_
 ·have H:=iS I0;refine yH ho02 ?_ ?_
  ·intro bD N;exact zT<|yZ<|zU (ct N H)
  intro bD N;refine yK [8] rfl<|zK ?_;refine vQ N [] (λt81=>[(8,.bool t81)]) (λo03 ho03=>?_) ?_
  ·have H:=iS I0;refine yH ho03 ?_ ?_
   ·intro bJ N;exact zT<|yZ<|zU (ct N H)
   intro bJ N;exact zL<|yQ [] [8] rfl<|yZ<|zU (ct N H)
  intro t81 bx aC hMc3;have H:=H.trans aC;exact yZ<|zU (ct hMc3 H)
 intro t8 aW aI hMc2;refine zK<|yH hMc2 ?_ ?_
 ·intro hc5 N;refine yK [2] rfl<|xH<|zV<|zJ ?_;obtain rfl:=zE N;exact vH
 intro hc5 N;refine zT<|zN<|vM [2] rfl<|zK<|xD ?_;obtain rfl:=zE N;exact vH
def nD(a0:zM):Option (Bool):=do
 let t2<-(do
  if(a0.Array.l==([]:List UInt8)) then pure ((a0.Subs.length:Int)==0)
  else
   pure false
    : Option Bool)
 pure (id t2)
theorem zBW:∀a0 r,nD a0=some r->∀{I:Imm}{p c},(S4 I p a0.Subs c)->RT 252 [vA (cAccess a0 p c)] I [] (zW  r):=by
 intro a0 r N I p c h;unfold nD at N;refine yM func252 λB=>?_;have H:=iS I;refine yD<|vC (cAccess a0 p c) ?_;intro b hb;refine wM [] []<|zK<|yC ?_;refine vQ N [] (λt2=>[(2,.bool t2)]) (λo0 aA=>?_) ?_
 ·have H:=iS I;refine zL<|yG 4 [0] [6] rfl<|wR [6] aA ?_ ?_
  ·intro hc N;exact yQ [0] [2] rfl<|wK zO<|yZ<|zU (ct N H)
  intro hc N;exact wM [] [(2,vF)]<|wK zO<|yZ<|zU (ct N H)
 intro t2 I0 le aX;refine zK<|xD ?_;obtain rfl:=zE aX;exact vH
def kH(a0:zA):Option (Bool):=do
 let t2<-(do
  if((a0.Coefs.length:Int)==0) then pure (a0.Const==0)
  else
   pure false
    : Option Bool)
 pure (id t2)
theorem zBl:∀a0 r,kH a0=some r->∀{I:Imm}{p c},(S4 I p a0.Coefs c)->RT 253 [vA (cAff a0 p c)] I [] (zW  r):=by
 intro a0 r N I p c h;unfold kH at N;refine yM func253 λB=>?_;have H:=iS I;refine yD<|vC (cAff a0 p c) ?_;intro b hb;refine wM [] []<|zK<|yC ?_;refine vQ N [] (λt2=>[(2,.bool t2)]) (λo0 aA=>?_) ?_
 ·have H:=iS I;refine zL<|yG 5 [0] [7] rfl<|wR [7] aA ?_ ?_
  ·intro hc N;exact yQ [0] [2] rfl<|wK zO<|yZ<|zU (ct N H)
  intro hc N;exact wM [] [(2,vF)]<|wK zO<|yZ<|zU (ct N H)
 intro t2 I0 le aX;refine zK<|xD ?_;obtain rfl:=zE aX;exact vH
def eM(e0:zH)(ae:Int):Option (Bool):=do
 if(e0.Kind==2) then
  let t4<-(do
   if(e0.Num==0) then
    let y<-nD e0.Read;if y then
     let y1<-tR e0.Index;if y1 then
      let y2<-nC e0.Index;pure (decide (y2<=ae))
     else pure false
    else pure false
   else
    pure false
     : Option Bool)
  pure (id t4)
 else
  if(e0.Kind==3) then
   let t41<-(do
    if(e0.Num==0) then
     let y3<-kH e0.Index;if y3 then
      let y4<-nV e0.Read ae;pure (id y4)
     else pure false
    else
     pure false
      : Option Bool)
   pure (id t41)
  else
   if(e0.Kind==1) then
    let t42<-(do
     if(decide (e0.Num>=0)) then
      if(decide (e0.Num<=99)) then
       let y5<-kH e0.Index;if y5 then
        let y6<-nD e0.Read;pure (id y6)
       else pure false
      else pure false
     else
      pure false
       : Option Bool)
    pure (id t42)
   else
    let t43<-(do
     if(e0.Num==0) then
      let y7<-kH e0.Index;if y7 then
       let y8<-nD e0.Read;pure (id y8)
      else pure false
     else
      pure false
       : Option Bool)
    pure (id t43)
theorem zJG:∀e0 ae r,eM e0 ae=some r->∀{I:Imm}{p c p1 c1 p2 c2},(S4 I p e0.Index.Coefs c)->(S4 I p1 e0.Read.Subs c1)->(S4 I p2 e0.Kids c2)->RT 228 [vA (cExpr e0 p c p1 c1 p2 c2),vI ae] I [] (zW  r):=by
 intro e0 ae r N I p c p1 c1 p2 c2 h h1 h2;unfold eM at N;refine yM func228 λB=>?_;have H:=iS I;refine yD<|vC (cExpr e0 p c p1 c1 p2 c2) ?_;intro b hb;refine wM [] []<|yA<|yD<|yQ [0] [7] rfl<|zK<|yH N ?_ ?_
 ·intro hc N;refine yC ?_;refine vQ N [] (λt4=>[(4,.bool t4)]) (λo0 aA=>?_) ?_
  ·have H:=iS I;refine zL<|yG 4 [0] [11] rfl<|wR [11] aA ?_ ?_
   ·intro aH N;refine uW 6 [0] [(13,vA (cAccess e0.Read p1 c1))]<|bE N λy hy N=>tA (zBW e0.Read _ hy h1) ?_;intro aP le;have ⟨h,H⟩:=m2 le h H;refine yG 9 [] [16] rfl<|wR [16] N ?_ ?_
    ·intro ba N;refine uW 11 [0] [(18,vA (cAff e0.Index p c))]<|bE N λy1 az N=>tA (fK e0.Index _ az h) ?_;intro aW aa;have ⟨h,H⟩:=m2 aa h H;refine yG 14 [] [21] rfl<|wR [21] N ?_ ?_
     ·intro bD N;refine uW 16 [0] [(23,vA (cAff e0.Index p c))]<|bE N λy2 aG N=>dC (zBV e0.Index _ aG h) ?_;intro bx aC;have H:=H.trans aC;exact yQ [] [4] rfl<|wK zO<|yZ<|zU (ct N H)
     intro bD N;exact wM [] [(4,vF)]<|wK zO<|yZ<|zU (ct N H)
    intro ba N;exact wM [] [(4,vF)]<|wK zO<|yZ<|zU (ct N H)
   intro aH N;exact wM [] [(4,vF)]<|wK zO<|yZ<|zU (ct N H)
  intro t4 I0 aI aX;refine xH<|zJ ?_;obtain rfl:=zE aX;exact vH
 intro hc N;refine zT<|yA<|yD<|yQ [0] [30] rfl<|zK<|yH N ?_ ?_
 ·intro bJ N;refine yC ?_;refine vQ N [] (λt41=>[(4,.bool t41)]) (λaU aB=>?_) ?_
  ·have H:=iS I;refine zL<|yG 4 [0] [34] rfl<|wR [34] aB ?_ ?_
   ·intro hc5 N;refine uW 6 [0] [(36,vA (cAff e0.Index p c))]<|bE N λy3 bh N=>tA (zBl e0.Index _ bh h) ?_;intro bK aY;have ⟨h1,H⟩:=m2 aY h1 H;refine yG 9 [] [39] rfl<|wR [39] N ?_ ?_
    ·intro hc6 N;refine uW 12 [0] [(41,vA (cAccess e0.Read p1 c1)),(42,vI ae)]<|bE N λy4 bu N=>tA (zCs e0.Read ae _ bu h1) ?_;intro I06 bo;have H:=H.trans bo;exact yQ [] [4] rfl<|wK zO<|yZ<|zU (ct N H)
    intro hc6 N;exact wM [] [(4,vF)]<|wK zO<|yZ<|zU (ct N H)
   intro hc5 N;exact wM [] [(4,vF)]<|wK zO<|yZ<|zU (ct N H)
  intro t41 bG bv hMc1;refine xH<|zJ ?_;obtain rfl:=zE hMc1;exact vH
 intro bJ N;refine zT<|yA<|yD<|yQ [0] [47] rfl<|zK<|yH N ?_ ?_
 ·intro hc7 N;refine yC ?_;refine vQ N [] (λt42=>[(4,.bool t42)]) (λo02 ho02=>?_) ?_
  ·have H:=iS I;refine zL<|yG 4 [0] [51] rfl<|wR [51] ho02 ?_ ?_
   ·intro hc8 N;refine yG 9 [0] [56] rfl<|wR [56] N ?_ ?_
    ·intro hc9 N;refine uW 11 [0] [(58,vA (cAff e0.Index p c))]<|bE N λy5 bC N=>tA (zBl e0.Index _ bC h) ?_;intro I08 le7;have ⟨h1,H⟩:=m2 le7 h1 H;refine yG 14 [] [61] rfl<|wR [61] N ?_ ?_
     ·intro hc10 N;refine uW 16 [0] [(63,vA (cAccess e0.Read p1 c1))]<|bE N λy6 hy6 N=>tA (zBW e0.Read _ hy6 h1) ?_;intro I09 le8;have H:=H.trans le8;exact yQ [] [4] rfl<|wK zO<|yZ<|zU (ct N H)
     intro hc10 N;exact wM [] [(4,vF)]<|wK zO<|yZ<|zU (ct N H)
    intro hc9 N;exact wM [] [(4,vF)]<|wK zO<|yZ<|zU (ct N H)
   intro hc8 N;exact wM [] [(4,vF)]<|wK zO<|yZ<|zU (ct N H)
  intro t42 I07 le9 hMc2;refine xH<|zJ ?_;obtain rfl:=zE hMc2;exact vH
 intro hc7 N;refine zT<|zK<|yC ?_;refine vQ N [] (λt43=>[(4,.bool t43)]) (λo03 ho03=>?_) ?_
 ·have H:=iS I;refine zL<|yG 4 [0] [69] rfl<|wR [69] ho03 ?_ ?_
  ·intro hc11 N;refine uW 6 [0] [(71,vA (cAff e0.Index p c))]<|bE N λy7 hy7 N=>tA (zBl e0.Index _ hy7 h) ?_;intro bS le10;have ⟨h1,H⟩:=m2 le10 h1 H;refine yG 9 [] [74] rfl<|wR [74] N ?_ ?_
   ·intro hc12 N;refine uW 11 [0] [(76,vA (cAccess e0.Read p1 c1))]<|bE N λy8 hy8 N=>tA (zBW e0.Read _ hy8 h1) ?_;intro bR le11;have H:=H.trans le11;exact yQ [] [4] rfl<|wK zO<|yZ<|zU (ct N H)
   intro hc12 N;exact wM [] [(4,vF)]<|wK zO<|yZ<|zU (ct N H)
  intro hc11 N;exact wM [] [(4,vF)]<|wK zO<|yZ<|zU (ct N H)
 intro t43 bN le12 hMc3;refine zK<|xD ?_;obtain rfl:=zE hMc3;exact vH
mutual
def rG(e0:zH)(ae:Int)(ak:Int):Option (Bool):=do
 let t24<-(do
  if(decide (ak<1)) then pure true
  else
   let y<-fD e0.Kind;if(y != (e0.Kids.length:Int)) then pure true
   else
    let y1<-eM e0 ae;pure (!y1)
    : Option Bool)
 if t24 then pure false
 else
  match<-tM (same e0) (same ae) (same ak) (same 0) with
  | .ret r0=>pure r0
  | .done _=>
   pure true
 partial_fixpoint
def tM(e0:zH)(ae:Int)(ak:Int)(i:Int):Option (Out Unit (Bool)):=do
 if(decide (i<(e0.Kids.length:Int))) then
  let x<-idx e0.Kids i;let y2<-rG (same x) (same ae) (W (ak - 1));if(!y2) then pure (.ret false)
  else tM (same e0) (same ae) (same ak) (W (i+1))
 else pure (.done ())
 partial_fixpoint
end
theorem zGw:(∀(e0:zH) (ae:Int) (ak:Int) r,rG e0 ae ak=some r->∀{I:Imm}{p c p1 c1 p2 c2},(S4 I p e0.Index.Coefs c)->(S4 I p1 e0.Read.Subs c1)->(S4 I p2 e0.Kids c2)->RT 187 [vA (cExpr e0 p c p1 c1 p2 c2),vI ae,vI ak] I [] (zW  r))/\(∀(e0:zH) (ae:Int) (ak:Int) (i:Int) o,tM e0 ae ak i=some o->∀{B}{I0 I:Imm}{Q p c p1 c1 p2 c2}{b},I0.le I->(S4 I p e0.Index.Coefs c)->(S4 I p1 e0.Read.Subs c1)->(S4 I p2 e0.Kids c2)->NG Q->NO Q->(∀I',o=(.done ())->I0.le I'->T 42 B Q (.exit 0) I' [] [])->(∀r I' ag m',o=(.ret r)->I0.le I'->RS Tryz.prog f187 B (zW  r) I' ag m'->T 42 B Q .ret I' ag m')->J Tryz.prog 42 B (nav (bodyOf f187) [1,1,0,1,0]) Q I [hB b (cExpr e0 p c p1 c1 p2 c2)] [(1,vI ae),(2,vI ak),(3,vP b 0),(7,vI i)]):=by
 refine rG.mutual_partial_correctness _ _ ?_ ?_
 ·intro F_spec_l3Shape_l1 ih_spec_l3Shape_l1 e0 ae ak r N I p c p1 c1 p2 c2 h h1 h2;refine yM func187 λB=>?_;have H:=iS I;refine yD<|vC (cExpr e0 p c p1 c1 p2 c2) ?_;intro b hb;refine wM [] []<|yA<|yC ?_;refine vQ N [hB b (cExpr e0 p c p1 c1 p2 c2)] (λt24=>[(1,vI ae),(2,vI ak),(3,vP b 0),(24,.bool t24)]) (λo0 aA=>?_) ?_
  ·have H:=iS I;cases hc:(decide (ak<1)) with
   | true=>
    have hM0:=rZ hc aA;refine wP [.p (vI ak) [],.q vY,.q vY,.p undef [],.p undef [],.p undef [],.p undef [],.p undef [],.p undef [],.p undef [],.p vY [],.p vY [],.p undef [],.p undef [],.p undef [],.p undef [],.p vY []] [[],[(0,false)],[(1,false)],[(2,false)],[(2,false),(3,false)],[(2,false),(4,false)],[(2,false)],[(2,false),(6,false)],[(2,false),(7,false)],[(2,false),(5,false),(8,false)],[(2,false),(9,false)],[(10,false)],[(11,false)],[(11,false)],[(11,false),(12,false),(13,false)],[(11,false),(14,false)],[(11,false),(15,false)]] [hB b (cExpr e0 p c p1 c1 p2 c2)] [] [(16,false)] (zZ [0]) ?_ ?_
    ·refine Op<|Oq ?_<|Oq ?_<|O4<|O4<|O4<|O2<|On
     ·intro I1 hf aa;refine yW [8] rfl<|oN 2 [(9,.bool (decide (ak<1)))] ?_;rw[hc];exact xO iR
     intro I1 hf aa;exact I_h [(9,vY)]<|oN 3 [(10,vY)]<|xO iR
    intro aP le;refine yW [1,2,3,24] rfl ?_;have H:=H.trans le;exact zY rfl<|yZ<|zU (ct hM0 H)
   | false=>
    have hM01:=sP hc aA;obtain⟨y,hy,N⟩:=zB hM01;cases aH:(y != (e0.Kids.length:Int)) with
    | true=>
     have hM02:=rZ aH N;refine wP [.p (vI ak) [],.q vF,.q vF,.p (vP b 0) [],.p (vI e0.Kind) [0],.q (vI y),.p (vP b 6) [],.p (vS p2 e0.Kids c2) [0],.p (vI (e0.Kids.length:Int)) [],.q vY,.q vY,.q vY,.p undef [],.p undef [],.p undef [],.p undef [],.p vY []] [[],[(0,false)],[(1,false)],[(2,false)],[(2,false),(3,false)],[(2,false),(4,false)],[(2,false)],[(2,false),(6,false)],[(2,false),(7,false)],[(2,false),(5,false),(8,false)],[(2,false),(9,false)],[(10,false)],[(11,false)],[(11,false)],[(11,false),(12,false),(13,false)],[(11,false),(14,false)],[(11,false),(15,false)]] [hB b (cExpr e0 p c p1 c1 p2 c2)] [] [(16,false)] (zZ [0]) ?_ ?_
     ·refine Op<|Oq ?_<|Oq ?_<|O2<|Oq ?_<|O3<|Oq ?_<|Oq ?_<|Oq ?_<|O4<|Op<|On
      ·intro I1 hf aa;refine yW [8] rfl<|oN 2 [(9,.bool (decide (ak<1)))] ?_;rw[hc];exact xO iR
      ·intro I1 hf aa;exact I_h [(9,vF)]<|oN 3 [(10,vF)]<|xO iR
      ·intro I1 hf aa;refine yW [10,12] rfl ?_;have H:=iS I1;refine dC (zEC e0.Kind _ hy ) ?_;intro aW aa;have H:=H.trans aa;exact xO H
      ·intro I1 hf aa;refine yW [10,13,16] rfl<|oN 10 [(17,.bool (y != (e0.Kids.length:Int)))] ?_;rw[aH];exact xO iR
      ·intro I1 hf aa;exact yW [10,17] rfl<|oN 11 [(18,vY)]<|xO iR
      intro I1 hf aa;exact I_h [(18,vY)]<|oN 12 [(19,vY)]<|xO iR
     intro bx aC;refine yW [1,2,3,24] rfl ?_;have H:=H.trans aC;exact zY rfl<|yZ<|zU (ct hM02 H)
    | false=>
     have hM03:=sP aH N;obtain⟨y1,az,N⟩:=zB hM03;refine wP [.p (vI ak) [],.q vF,.q vF,.p (vP b 0) [],.p (vI e0.Kind) [0],.q (vI y),.p (vP b 6) [],.p (vS p2 e0.Kids c2) [0],.p (vI (e0.Kids.length:Int)) [],.q vF,.q vF,.q vF,.p (vA (cExpr e0 p c p1 c1 p2 c2)) [0],.p (vI ae) [],.q (.bool y1),.p (.bool (!y1)) [],.p (.bool (!y1)) []] [[],[(0,false)],[(1,false)],[(2,false)],[(2,false),(3,false)],[(2,false),(4,false)],[(2,false)],[(2,false),(6,false)],[(2,false),(7,false)],[(2,false),(5,false),(8,false)],[(2,false),(9,false)],[(10,false)],[(11,false)],[(11,false)],[(11,false),(12,false),(13,false)],[(11,false),(14,false)],[(11,false),(15,false)]] [hB b (cExpr e0 p c p1 c1 p2 c2)] [] [(16,false)] (zZ [0]) ?_ ?_
     ·refine Op<|Oq ?_<|Oq ?_<|O2<|Oq ?_<|O3<|Oq ?_<|Oq ?_<|Oq ?_<|O2<|Oq ?_<|O2<|On
      ·intro I1 hf aa;refine yW [8] rfl<|oN 2 [(9,.bool (decide (ak<1)))] ?_;rw[hc];exact xO iR
      ·intro I1 hf aa;exact I_h [(9,vF)]<|oN 3 [(10,vF)]<|xO iR
      ·intro I1 hf aa;refine yW [10,12] rfl ?_;have H:=iS I1;refine dC (zEC e0.Kind _ hy ) ?_;intro aW aa;have H:=H.trans aa;exact xO H
      ·intro I1 hf aa;refine yW [10,13,16] rfl<|oN 10 [(17,.bool (y != (e0.Kids.length:Int)))] ?_;rw[aH];exact xO iR
      ·intro I1 hf aa;exact yW [10,17] rfl<|oN 11 [(18,vF)]<|xO iR
      ·intro I1 hf aa;exact I_h [(18,vF)]<|oN 12 [(19,vF)]<|xO iR
      intro I1 hf aa;refine yW [19,20,21] rfl ?_;have H:=iS I1;have ⟨h,h1,h2⟩:=m3 aa h h1 h2;refine tA (zJG e0 ae _ az h h1 h2) ?_;intro bG aI;have H:=H.trans aI;exact xO H
     intro bK aY;refine yW [1,2,3,24] rfl ?_;have H:=H.trans aY;exact zY rfl<|yZ<|zU (ct N H)
  intro t24 I0 bo aX;have ⟨h,h1,h2⟩:=m3 bo h h1 h2;refine zK<|yH aX ?_ ?_
  ·intro ba N;refine wZ [(6,vF)]<|xH<|zJ ?_;obtain rfl:=zE N;exact vH
  intro ba N;refine zT<|yA<|yK [7] rfl<|wN<|qX [(1,vI ae),(2,vI ak),(3,vP b 0),(7,vI 0)] ?_;obtain⟨aU,aB,aE⟩:=zB N;refine ih_spec_l3Shape_l1 e0 ae ak 0 aU aB iR h h1 h2 nG nO ?_ ?_
  ·intro I07  heq1 le7;subst aU;refine zS<|zE3 [(6,vY)]<|zK<|xD ?_;obtain rfl:=zE aE;exact vH
  intro r0 I9 hs9 m9 aT le9 aV;subst aT;refine zV<|zJ ?_;obtain rfl:=zE aE;exact jW aV
 intro F_spec_l3Shape F_spec_l3Shape_l1 ih_spec_l3Shape ih_spec_l3Shape_l1 e0 ae ak i o N B I0 I Q p c p1 c1 p2 c2 b H h h1 h2 hg ho hx hr;refine yX hg ho<|yC<|yD<|yQ [0] [29] rfl<|zK<|yH N ?_ ?_
 ·intro bD N;refine zT<|yA<|yL<|yD<|yG 3 [0] [33,34] rfl<|bE N λx aG N=>xW rfl rfl h2 aG ?_;intro ad aN aq am;obtain⟨p3,c3,p4,c4,p5,c5,rfl,h5,h6,h7⟩:=wT am;refine xM 0 aq (cExpr x p3 c3 p4 c4 p5 c5) (vA (cExpr x p3 c3 p4 c4 p5 c5)) rfl<|yG 8 [] [37,39] rfl<|bE N λy2 bh N=>xK (ih_spec_l3Shape x ae (W (ak - 1)) _ bh h5 h6 h7) ?_;rintro I06 ax v2 k2 bv - ⟨v05,rfl,rfl,rfl⟩ -;have ⟨h,h1,h2,H⟩:=m4 bv h h1 h2 H;refine yQ [] [41] rfl<|zK<|yH N ?_ ?_
  ·intro bJ N;exact wZ [(6,vF)]<|xH<|zV<|zJ<|zJ<|hr _ _ _ _ (zE N).symm H ⟨_,_,(resT rfl),zO,⟨_,rfl,rfl,rfl⟩⟩
  intro bJ N;exact zT<|zN<|zK<|zL<|yQ [] [7] rfl<|yV<|nX<|ih_spec_l3Shape_l1 e0 ae ak (W (i+1)) _ N H h h1 h2 hg ho hx hr
 intro bD N;exact wW<|wK zO<|yZ<|hx _  (zE N).symm H
theorem zHg:∀e0 ae ak r,rG e0 ae ak=some r->∀{I:Imm}{p c p1 c1 p2 c2},(S4 I p e0.Index.Coefs c)->(S4 I p1 e0.Read.Subs c1)->(S4 I p2 e0.Kids c2)->RT 187 [vA (cExpr e0 p c p1 c1 p2 c2),vI ae,vI ak] I [] (zW  r):=zGw.1
mutual
def qG(e0:zH)(ak:Int):Option (Int):=do
 let n01<-tN (same e0) (same ak) (same 1) (same 0);pure (id n01)
 partial_fixpoint
def tN(e0:zH)(ak:Int)(n0:Int)(i:Int):Option (Int):=do
 let t15<-(do
  if(decide (i<(e0.Kids.length:Int))) then pure (decide (ak>0))
  else
   pure false
    : Option Bool)
 if t15 then
  let x<-idx e0.Kids i;let y<-qG (same x) (W (ak - 1));tN (same e0) (same ak) (W (n0+y)) (W (i+1))
 else pure (id n0)
 partial_fixpoint
end
theorem zGx:(∀(e0:zH) (ak:Int) r,qG e0 ak=some r->∀{I:Imm}{p c p1 c1 p2 c2},(S4 I p e0.Index.Coefs c)->(S4 I p1 e0.Read.Subs c1)->(S4 I p2 e0.Kids c2)->RT 188 [vA (cExpr e0 p c p1 c1 p2 c2),vI ak] I [] (yP  r))/\(∀(e0:zH) (ak:Int) (n0:Int) (i:Int) o,tN e0 ak n0 i=some o->∀{B}{I0 I:Imm}{Q p c p1 c1 p2 c2}{b},I0.le I->(S4 I p e0.Index.Coefs c)->(S4 I p1 e0.Read.Subs c1)->(S4 I p2 e0.Kids c2)->NG Q->NO Q->(∀I' n01,o=n01->I0.le I'->T 29 B Q (.exit 0) I' [] [(5,vI n01)])->J Tryz.prog 29 B (nav (bodyOf f188) [1,1,0,1,0]) Q I [hB b (cExpr e0 p c p1 c1 p2 c2)] [(1,vI ak),(2,vP b 0),(5,vI n0),(6,vI i)]):=by
 refine qG.mutual_partial_correctness _ _ ?_ ?_
 ·intro F_spec_l3Count_l1 ih_spec_l3Count_l1 e0 ak r N I p c p1 c1 p2 c2 h h1 h2;refine yM func188 λB=>yD<|vC (cExpr e0 p c p1 c1 p2 c2) ?_;intro b hb;refine wM [] []<|vM [5] rfl<|yA<|yK [6] rfl<|wN<|qX [(1,vI ak),(2,vP b 0),(5,vI 1),(6,vI 0)] ?_;obtain⟨aU,aB,aE⟩:=zB N;refine ih_spec_l3Count_l1 e0 ak 1 0 aU aB iR h h1 h2 nG nO ?_;intro aW n01 heq1 aC;subst aU;refine zS<|vM [4] rfl<|zK<|xD ?_;obtain rfl:=zE aE;exact vH
 intro F_spec_l3Count F_spec_l3Count_l1 ih_spec_l3Count ih_spec_l3Count_l1 e0 ak n0 i o N B I0 I Q p c p1 c1 p2 c2 b H h h1 h2 hg ho hx;refine yX hg ho<|yC<|yC ?_;refine vQ N [hB b (cExpr e0 p c p1 c1 p2 c2)] (λt15=>[(1,vI ak),(2,vP b 0),(5,vI n0),(6,vI i),(15,.bool t15)]) (λo0 aA=>?_) ?_
 ·have H:=iS I;refine zL<|yG 6 [0] [12] rfl<|wR [12] aA ?_ ?_
  ·intro hc N;exact yQ [] [15] rfl<|yZ<|zU (ct N H)
  intro hc N;exact wM [] [(15,vF)]<|yZ<|zU (ct N H)
 intro t15 I0 le aX;have ⟨h,h1,h2,H⟩:=m4 le h h1 h2 H;refine zK<|yH aX ?_ ?_
 ·intro aH N;refine zT<|yA<|yL<|zL<|yG 4 [0] [18,20,21] rfl<|bE N λx hy N=>xW rfl rfl h2 hy ?_;intro ad aN aq am;obtain⟨p3,c3,p4,c4,p5,c5,rfl,h3,h4,h5⟩:=wT am;refine xM 0 aq (cExpr x p3 c3 p4 c4 p5 c5) (vA (cExpr x p3 c3 p4 c4 p5 c5)) rfl<|yG 8 [] [25] rfl<|bE N λy az N=>xK (ih_spec_l3Count x (W (ak - 1)) _ az h3 h4 h5) ?_;rintro aP ax v2 k2 aa - ⟨v03,rfl,rfl,rfl⟩ -;have ⟨h,h1,h2,H⟩:=m4 aa h h1 h2 H;exact yQ [] [5] rfl<|zN<|zK<|zL<|yQ [] [6] rfl<|yV<|nX<|ih_spec_l3Count_l1 e0 ak (W (n0+y)) (W (i+1)) _ N H h h1 h2 hg ho hx
 intro aH N;exact wW<|wK zO<|yZ<|hx _ _ (zE N).symm H
theorem zHh:∀e0 ak r,qG e0 ak=some r->∀{I:Imm}{p c p1 c1 p2 c2},(S4 I p e0.Index.Coefs c)->(S4 I p1 e0.Read.Subs c1)->(S4 I p2 e0.Kids c2)->RT 188 [vA (cExpr e0 p c p1 c1 p2 c2),vI ak] I [] (yP  r):=zGx.1
def qU(s:zI)(ae:Int):Option (Bool):=do
 let t24<-(do
  if(decide (ae<0)) then pure true
  else
   if(decide (ae>4)) then pure true
   else
    let y<-nV s.Write ae;if(!y) then pure true
    else
     let y1<-rG s.Value ae 5;pure (!y1)
    : Option Bool)
 if t24 then pure false
 else
  let y2<-qG s.Value 5;pure (decide (y2<=12))
theorem zAn:∀s ae r,qU s ae=some r->∀{I:Imm}{p c p1 c1 p2 c2 p3 c3},(S4 I p s.Write.Subs c)->(S4 I p1 s.Value.Index.Coefs c1)->(S4 I p2 s.Value.Read.Subs c2)->(S4 I p3 s.Value.Kids c3)->RT 146 [vA (cStmt s p c p1 c1 p2 c2 p3 c3),vI ae] I [] (zW  r):=by
 intro s ae r N I p c p1 c1 p2 c2 p3 c3 h h1 h2 h3;unfold qU at N;refine yM func146 λB=>?_;have H:=iS I;refine yD<|vC (cStmt s p c p1 c1 p2 c2 p3 c3) ?_;intro b hb;refine wM [] []<|yA<|yC ?_;refine vQ N [hB b (cStmt s p c p1 c1 p2 c2 p3 c3)] (λt24=>[(2,vP b 0),(24,.bool t24)]) (λo0 aA=>?_) ?_
 ·have H:=iS I;refine zL<|yG 3 [] [7] rfl<|wR [7] aA ?_ ?_
  ·intro hc N;exact wM [] [(24,vY)]<|yZ<|zU (ct N H)
  intro hc N;refine yG 7 [] [11] rfl<|wR [11] N ?_ ?_
  ·intro aH N;exact wM [] [(24,vY)]<|yZ<|zU (ct N H)
  intro aH N;refine uW 10 [0] [(13,vA (cAccess s.Write p c)),(14,vI ae)]<|bE N λy hy N=>tA (zCs s.Write ae _ hy h) ?_;intro aP le;have ⟨h1,h2,h3,H⟩:=m4 le h1 h2 h3 H;refine yG 14 [] [18] rfl<|wR [18] N ?_ ?_
  ·intro ba N;exact wM [] [(24,vY)]<|yZ<|zU (ct N H)
  intro ba N;refine uW 17 [0] [(20,vA (cExpr s.Value p1 c1 p2 c2 p3 c3)),(21,vI ae)]<|bE N λy1 az N=>tA (zHg s.Value ae 5 _ az h1 h2 h3) ?_;intro aW aa;have H:=H.trans aa;exact yQ [] [24] rfl<|yZ<|zU (ct N H)
 intro t24 I0 aC aX;have ⟨h1,h2,h3⟩:=m3 aC h1 h2 h3;refine zK<|yH aX ?_ ?_
 ·intro bD N;refine wZ [(4,vF)]<|xH<|zJ ?_;obtain rfl:=zE N;exact vH
 intro bD N;refine zT<|yY<|uW 2 [0] [(26,vA (cExpr s.Value p1 c1 p2 c2 p3 c3))]<|bE N λy2 aG N=>dC (zHh s.Value 5 _ aG h1 h2 h3) λbx aI=>wM [] [(4,.bool (decide (y2<=12)))]<|zK<|xD ?_;obtain rfl:=zE N;exact vH
def qH(list:(List zA))(out:Str)(i:Int):Option (Str):=do
 if(decide (i<(list.length:Int))) then
  let ar<-(do
   if(decide (i>0)) then
    let s<-cat out (⟨[44]⟩:Str);pure (id s)
   else
    pure (id out)
     : Option Str)
  let x<-idx list i;let y<-fC x;let s1<-cat ar y;qH list s1 (W (i+1))
 else pure (id out)
 partial_fixpoint
theorem zDc(list:(List zA)):∀(out:Str) (i:Int) (o:Str),qH list out i=some o->∀{B}{I0 I:Imm}{Q p c},I0.le I->(S4 I p list c)->NG Q->NO Q->(∀I' aj,o=aj->I0.le I'->T 23 B Q (.exit 0) I' [] [(3,vT aj.l)])->J Tryz.prog 23 B (nav (bodyOf f242) [1,1,0,1,0]) Q I [] [(0,vS p list c),(3,vT out.l),(4,vI i)]:=by
 refine qH.partial_correctness list _ λaJ ih out i o N B I0 I Q p c H h hg ho hx=>yX hg ho<|yC<|yK [8] rfl<|zK<|yH N ?_ ?_
 ·intro hc N;refine zT<|yA<|yL<|yC<|yK [12] rfl<|zK ?_;refine vQ N [] (λar=>[(0,vS p list c),(3,vT ar.l),(4,vI i)]) (λo0 aA=>?_) ?_
  ·have H:=iS I;refine yH aA ?_ ?_
   ·intro aH N;exact zL<|yG 1 [] [13] rfl<|bE N λs hy N=>fY rfl hy<|yQ [] [3] rfl<|yZ<|zU (ct N H)
   intro aH N;exact zT<|yZ<|zU (ct N H)
  intro ar I0 le aX;have ⟨h,H⟩:=m2 le h H;refine zK<|zL<|yG 3 [] [15,16,17] rfl ?_;obtain⟨x,az,N⟩:=zB aX;refine xW rfl rfl h az ?_;intro ad aN aq am;obtain⟨p1,c1,rfl,h1⟩:=yI am;refine xM 0 aq (cAff x p1 c1) (vA (cAff x p1 c1)) rfl<|bE N λy aG N=>xK (zBk x _ aG h1) ?_;rintro aP ax v2 k2 aa - ⟨v01,rfl,rfl,rfl⟩ -;have ⟨h,H⟩:=m2 aa h H;obtain⟨s1,bh,N⟩:=zB N;exact fY rfl bh<|yQ [] [3] rfl<|zN<|zK<|zL<|yQ [] [4] rfl<|yV<|nX<|ih s1 (W (i+1)) _ N H h hg ho hx
 intro hc N;exact wW<|yZ<|hx _ _ (zE N).symm H
def nE(list:(List zA)):Option (Str):=do
 let aj<-qH list (⟨[]⟩:Str) 0;pure (id aj)
theorem zA9:∀list r,nE list=some r->∀{I:Imm}{p c},(S4 I p list c)->RT 242 [vS p list c] I [] (rJ  r):=by
 intro list r N I p c h;unfold nE at N;refine yM func242 λB=>wZ []<|vM [3] rfl<|yA<|yK [4] rfl<|wN<|qX [(0,vS p list c),(3,vT ([])),(4,vI 0)] ?_;obtain⟨aU,aB,aE⟩:=zB N;refine zDc list (⟨[]⟩:Str) 0 aU aB iR h nG nO ?_;intro aW aj heq1 aC;subst aU;refine zS<|vM [2] rfl<|zK<|xD ?_;obtain rfl:=zE aE;exact vH
def pH(a0:zM):Option (Str):=do
 let s<-cat a0.Array (⟨[91]⟩:Str);let y<-nE a0.Subs;let s1<-cat s y;let s2<-cat s1 (⟨[93]⟩:Str);pure (id s2)
theorem dY:∀a0 r,pH a0=some r->∀{I:Imm}{p c},(S4 I p a0.Subs c)->RT 216 [vA (cAccess a0 p c)] I [] (rJ  r):=by
 intro a0 r N I p c h;unfold pH at N;refine yM func216 λB=>?_;have H:=iS I;refine yD<|vC (cAccess a0 p c) ?_;intro b hb;refine wM [] []<|zK<|yC ?_;obtain⟨s,hy,N⟩:=zB N;obtain⟨y,az,N⟩:=zB N;obtain⟨s1,aG,N⟩:=zB N;obtain⟨s2,bh,N⟩:=zB N;refine wP [.p (vP b 0) [],.p (vT a0.Array.l) [0],.q (vT s.l),.p (vP b 1) [],.p (vS p a0.Subs c) [0],.q (vT y.l),.q (vT s1.l),.q (vT s2.l)] [[],[(0,false)],[(1,false)],[],[(3,false)],[(4,false)],[(2,false),(5,false)],[(6,false)]] [hB b (cAccess a0 p c)] [] [(7,false)] (zZ [0]) ?_ ?_
 ·refine O2<|Oq ?_<|O2<|Oq ?_<|Oq ?_<|Oq ?_<|On
  ·intro I1 hf aa;exact yW [4] rfl<|fY rfl hy<|xO iR
  ·intro I1 hf aa;refine yW [7] rfl ?_;have H:=iS I1;have h:=h.mono aa;refine xK (zA9 a0.Subs _ az h) ?_;rintro I0 ax v2 k2 le - ⟨v0,rfl,rfl,rfl⟩ -;have H:=H.trans le;exact xO H
  ·intro I1 hf aa;exact yW [5,8] rfl<|fY rfl aG<|xO iR
  intro I1 hf aa;exact yW [9] rfl<|fY rfl bh<|xO iR
 intro aP aa;refine yW [10] rfl ?_;refine yQ [] [2] rfl<|zK<|xD ?_;obtain rfl:=zE N;exact vH
def pS(e0:zH):Option (Str):=do
 if(e0.Kind==1) then
  let y<-pR e0.Num;pure (id y)
 else
  if(e0.Kind==2) then
   let y1<-fC e0.Index;let s<-cat (⟨[123]⟩:Str) y1;let s1<-cat s (⟨[125]⟩:Str);pure (id s1)
  else
   if(e0.Kind==3) then
    let y2<-pH e0.Read;pure (id y2)
   else
    let x<-idx e0.Kids 0;let y3<-pS (same x);let s2<-cat (⟨[40]⟩:Str) y3;let s3<-sslc (⟨[43,45,42]⟩:Str) (W (e0.Kind - 4)) (W ((W (e0.Kind - 4))+1));let s4<-cat s2 s3;let x1<-idx e0.Kids 1;let y4<-pS (same x1);let s5<-cat s4 y4;let s6<-cat s5 (⟨[41]⟩:Str);pure (id s6)
 partial_fixpoint
theorem zED:∀e0 r,pS e0=some r->∀{I:Imm}{p c p1 c1 p2 c2},(S4 I p e0.Index.Coefs c)->(S4 I p1 e0.Read.Subs c1)->(S4 I p2 e0.Kids c2)->RT 217 [vA (cExpr e0 p c p1 c1 p2 c2)] I [] (rJ  r):=by
 refine pS.partial_correctness _ λF_spec_l3Text ih_spec_l3Text e0 r N I p c p1 c1 p2 c2 h h1 h2=>yM func217 λB=>?_;have H:=iS I;refine yD<|vC (cExpr e0 p c p1 c1 p2 c2) ?_;intro b hb;refine wM [] []<|yA<|yD<|yQ [0] [4] rfl<|wN<|yK [5] rfl<|zK<|yH N ?_ ?_
 ·intro hc N;refine yD<|yG 2 [0] [8] rfl<|bE N λy hy N=>xK (zAl e0.Num _ hy ) ?_;rintro I0 ax v2 k2 le - ⟨v0,rfl,rfl,rfl⟩ -;refine yQ [] [2] rfl<|xH<|zV<|zJ ?_;obtain rfl:=zE N;exact vH
 intro hc N;refine yK [10] rfl<|zK<|yH N ?_ ?_
 ·intro aH N;refine yD<|uW 2 [0] [(13,vA (cAff e0.Index p c))]<|bE N λy1 az N=>xK (zBk e0.Index _ az h) ?_;rintro aP ax v2 k2 aa - ⟨v01,rfl,rfl,rfl⟩ -;obtain⟨s,aG,N⟩:=zB N;refine fY rfl aG<|bE N λs1 bh N=>fY rfl bh<|yQ [] [2] rfl<|xH<|zV<|zJ ?_;obtain rfl:=zE N;exact vH
 intro aH N;refine yK [17] rfl<|zK<|yH N ?_ ?_
 ·intro ba N;refine yD<|uW 2 [0] [(20,vA (cAccess e0.Read p1 c1))]<|bE N λy2 bu N=>xK (dY e0.Read _ bu h1) ?_;rintro aW ax v2 k2 aC - ⟨v02,rfl,rfl,rfl⟩ -;refine yQ [] [2] rfl<|xH<|zV<|zJ ?_;obtain rfl:=zE N;exact vH
 intro ba N;refine zT<|zN<|zK<|yC ?_;obtain⟨x,bC,N⟩:=zB N;obtain⟨y3,hy6,N⟩:=zB N;obtain⟨s2,hy7,N⟩:=zB N;obtain⟨s3,hy8,N⟩:=zB N;obtain⟨s4,hy9,N⟩:=zB N;obtain⟨x1,hy10,N⟩:=zB N;obtain⟨y4,hy11,N⟩:=zB N;obtain⟨s5,hy12,N⟩:=zB N;obtain⟨s6,hy13,N⟩:=zB N;refine wP [.p (vP b 6) [],.p (vS p2 e0.Kids c2) [0],.x (ePExpr x),.x (eVExpr x),.q (vT y3.l),.q (vT s2.l),.p (vP b 0) [],.p (vI e0.Kind) [0],.p (vI (W (e0.Kind - 4))) [],.p (vP b 0) [],.p (vI e0.Kind) [0],.p (vI (W (e0.Kind - 4))) [],.p (vI (W ((W (e0.Kind - 4))+1))) [],.q (vT s3.l),.q (vT s4.l),.p (vP b 6) [],.p (vS p2 e0.Kids c2) [0],.x (ePExpr x1),.x (eVExpr x1),.q (vT y4.l),.q (vT s5.l),.q (vT s6.l)] [[],[(0,false)],[(1,false)],[(2,false)],[(3,false)],[(4,false)],[],[(6,false)],[(7,false)],[],[(9,false)],[(10,false)],[(11,false)],[(8,false),(12,false)],[(5,false),(13,false)],[],[(15,false)],[(16,false)],[(17,false)],[(18,false)],[(14,false),(19,false)],[(20,false)]] [hB b (cExpr e0 p c p1 c1 p2 c2)] [] [(21,false)] (zZ [0]) ?_ ?_
 ·refine O2<|Ox ?_<|Ox ?_<|Oq ?_<|Oq ?_<|O4<|O3<|Oq ?_<|Oq ?_<|O2<|Ox ?_<|Ox ?_<|Oq ?_<|Oq ?_<|Oq ?_<|On
  ·intro I1 hf aa;refine yW [23] rfl ?_;have h2:=h2.mono aa;refine xW rfl rfl h2 bC ?_;intro ad aN aq am;obtain⟨p3,c3,p4,c4,p5,c5,rfl,h6,h7,h8⟩:=wT am;exact yN [] iR ⟨_,_,_,_,_,_,_,rfl,rfl,aq,h6,h7,h8⟩
  ·rintro I1 hf aa _ _ ⟨ad,p3,c3,p4,c4,p5,c5,rfl,rfl,aq,h6,h7,h8⟩;exact yW [24] rfl<|xM 0 aq (cExpr x p3 c3 p4 c4 p5 c5) (vA (cExpr x p3 c3 p4 c4 p5 c5)) rfl<|yN [] iR ⟨_,_,_,_,_,_,rfl,rfl,h6,h7,h8⟩
  ·rintro I1 hf aa _ _ ⟨p31,c31,p41,c41,p51,c51,rfl,rfl,h61,h71,h81⟩;refine yW [25] rfl ?_;have H:=iS I1;refine xK (ih_spec_l3Text x _ hy6 h61 h71 h81) ?_;rintro bx ax v2 k2 aI - ⟨v06,rfl,rfl,rfl⟩ -;have H:=H.trans aI;exact xO H
  ·intro I1 hf aa;exact yW [26] rfl<|fY rfl hy7<|xO iR
  ·intro I1 hf aa;exact yW [30,34] rfl<|zJF rfl hy8<|xO iR
  ·intro I1 hf aa;exact yW [27,35] rfl<|fY rfl hy9<|xO iR
  ·intro I1 hf aa;refine yW [38] rfl ?_;have h2:=h2.mono aa;refine xW rfl rfl h2 hy10 ?_;intro ad1 bq aw ay;obtain⟨p6,c6,p7,c7,p8,c8,rfl,h10,h11,h12⟩:=wT ay;exact yN [] iR ⟨_,_,_,_,_,_,_,rfl,rfl,aw,h10,h11,h12⟩
  ·rintro I1 hf aa _ _ ⟨ad1,p6,c6,p7,c7,p8,c8,rfl,rfl,aw,h10,h11,h12⟩;exact yW [39] rfl<|xM 0 aw (cExpr x1 p6 c6 p7 c7 p8 c8) (vA (cExpr x1 p6 c6 p7 c7 p8 c8)) rfl<|yN [] iR ⟨_,_,_,_,_,_,rfl,rfl,h10,h11,h12⟩
  ·rintro I1 hf aa _ _ ⟨p61,c61,p71,c71,p81,c81,rfl,rfl,h101,h111,h121⟩;refine yW [40] rfl ?_;have H:=iS I1;refine xK (ih_spec_l3Text x1 _ hy11 h101 h111 h121) ?_;rintro bG ax v2 k2 aY - ⟨v010,rfl,rfl,rfl⟩ -;have H:=H.trans aY;exact xO H
  ·intro I1 hf aa;exact yW [36,41] rfl<|fY rfl hy12<|xO iR
  intro I1 hf aa;exact yW [42] rfl<|fY rfl hy13<|xO iR
 intro bK bo;refine yW [43] rfl ?_;refine yQ [] [2] rfl<|zK<|xD ?_;obtain rfl:=zE N;exact vH
def gQ(s:zI):Option (Str):=do
 let y<-qU s 4;if(!y) then pure (⟨[]⟩:Str)
 else
  let y1<-pH s.Write;let s1<-cat y1 (⟨[61]⟩:Str);let y2<-pS s.Value;let s2<-cat s1 y2;pure (id s2)
theorem zFW:∀s r,gQ s=some r->∀{I:Imm}{p c p1 c1 p2 c2 p3 c3},(S4 I p s.Write.Subs c)->(S4 I p1 s.Value.Index.Coefs c1)->(S4 I p2 s.Value.Read.Subs c2)->(S4 I p3 s.Value.Kids c3)->RT 241 [vA (cStmt s p c p1 c1 p2 c2 p3 c3)] I [] (rJ  r):=by
 intro s r N I p c p1 c1 p2 c2 p3 c3 h h1 h2 h3;unfold gQ at N;refine yM func241 λB=>?_;have H:=iS I;refine yD<|vC (cStmt s p c p1 c1 p2 c2 p3 c3) ?_;intro b hb;refine wM [] []<|yA<|yD<|uW 1 [0] [(3,vA (cStmt s p c p1 c1 p2 c2 p3 c3))]<|bE N λy hy N=>tA (zAn s 4 _ hy h h1 h2 h3) ?_;intro I0 le;have ⟨h,h1,h2,h3,H⟩:=m5 le h h1 h2 h3 H;refine yQ [] [5] rfl<|zK<|yH N ?_ ?_
 ·intro hc N;refine yK [2] rfl<|xH<|zJ ?_;obtain rfl:=zE N;exact vH
 intro hc N;refine zT<|zK<|yC ?_;obtain⟨y1,az,N⟩:=zB N;obtain⟨s1,aG,N⟩:=zB N;obtain⟨y2,bh,N⟩:=zB N;obtain⟨s2,bu,N⟩:=zB N;refine wP [.p (vP b 0) [],.p (vA (cAccess s.Write p c)) [0],.q (vT y1.l),.q (vT s1.l),.p (vP b 2) [],.p (vA (cExpr s.Value p1 c1 p2 c2 p3 c3)) [0],.q (vT y2.l),.q (vT s2.l)] [[],[(0,false)],[(1,false)],[(2,false)],[],[(4,false)],[(5,false)],[(3,false),(6,false)]] [hB b (cStmt s p c p1 c1 p2 c2 p3 c3)] [] [(7,false)] (zZ [0]) ?_ ?_
 ·refine O2<|Oq ?_<|Oq ?_<|O2<|Oq ?_<|Oq ?_<|On
  ·intro I1 hf aa;refine yW [7] rfl ?_;have H:=iS I1;have h:=h.mono aa;refine xK (dY s.Write _ az h) ?_;rintro aP ax v2 k2 aa - ⟨v01,rfl,rfl,rfl⟩ -;have H:=H.trans aa;exact xO H
  ·intro I1 hf aa;exact yW [8] rfl<|fY rfl aG<|xO iR
  ·intro I1 hf aa;refine yW [11] rfl ?_;have H:=iS I1;have ⟨h1,h2,h3⟩:=m3 aa h1 h2 h3;refine xK (zED s.Value _ bh h1 h2 h3) ?_;rintro aW ax v2 k2 aC - ⟨v02,rfl,rfl,rfl⟩ -;have H:=H.trans aC;exact xO H
  intro I1 hf aa;exact yW [9,12] rfl<|fY rfl bu<|xO iR
 intro bx aI;refine yW [13] rfl ?_;refine yQ [] [2] rfl<|zK<|xD ?_;obtain rfl:=zE N;exact vH
def zEd(r:zI×Bool):KT:=λkk I' ag v=>
 ∃v0 v1,ag=[]/\v=tupV [v0,v1]/\(∃cs,v0=.agg ⟨cs⟩/\Rp.rep I' cs r.1)/\v1=.bool r.2
def jO(bm:Str):Option (zI×Bool):=do
 if(decide ((bm.l.length:Int)<4)) then pure ((zI.mk (zM.mk (⟨[]⟩:Str) ([]:List zA)) (zH.mk 0 0 (zA.mk ([]:List Int) 0) (zM.mk (⟨[]⟩:Str) ([]:List zA)) ([]:List zH))),false)
 else
  let (y1,y2)<-oK bm 0;let t25<-(do
   if(decide (y2<0)) then pure true
   else
    pure (decide (y2>=(bm.l.length:Int)))
     : Option Bool)
  if t25 then pure ((zI.mk (zM.mk (⟨[]⟩:Str) ([]:List zA)) (zH.mk 0 0 (zA.mk ([]:List Int) 0) (zM.mk (⟨[]⟩:Str) ([]:List zA)) ([]:List zH))),false)
  else
   let (y4,y5)<-nB bm (W (y2+1)) 5;let y6<-gQ (zI.mk y1 y4);if(!(y6.l==bm.l)) then pure ((zI.mk (zM.mk (⟨[]⟩:Str) ([]:List zA)) (zH.mk 0 0 (zA.mk ([]:List Int) 0) (zM.mk (⟨[]⟩:Str) ([]:List zA)) ([]:List zH))),false)
   else pure ((zI.mk y1 y4),true)
theorem zCL:∀bm r,jO bm=some r->∀{I:Imm} ,RT 213 [vT bm.l] I [] (zEd  r):=by
 intro bm r N I;unfold jO at N;refine yM func213 λB=>?_;have H:=iS I;refine yD<|xY [vT ([]),z0,vI 0,vI 0,z0,vI 0,vT ([]),z0,z0] ?_;intro b hb;refine wM [] []<|yA<|yK [11] rfl<|zK<|yH N ?_ ?_
 ·intro hc N;refine yD<|yG 1 [] [12] rfl<|xC 0 [vT ([]),z0,vI 0,vI 0,z0,vI 0,vT ([]),z0,z0] rfl<|wM [] [(3,vF)]<|xH<|zJ ?_;exact xX N (resE 0 rfl rfl rfl) zO ⟨_,_,rfl,rfl,⟨_,rfl,(wG ⟨_,_,_,_,rfl,(SL.nil _),(SL.nil _),(SL.nil _),(SL.nil _)⟩)⟩,rfl⟩
 intro hc N;refine zT<|yY<|yG 1 [] [14] rfl ?_;obtain⟨⟨y1,y2⟩,hy,N⟩:=zB N;refine xK (zAu bm 0 _ hy ) ?_;rintro I0 ax v2 k2 le - ⟨v0,v01,rfl,rfl,⟨cs,rfl,h⟩,rfl⟩ -;have H:=H.trans le;obtain⟨p,c,rfl,h2⟩:=rF h;refine yG 5 [] [16,17] rfl<|xY [vT ([]),z0] ?_;intro b1 hb1;refine xC 0 (cAccess y1 p c) rfl<|yQ [] [5] rfl<|yA<|yC ?_;refine vQ N [hB b1 (cAccess y1 p c),hB b [vT ([]),z0,vI 0,vI 0,z0,vI 0,vT ([]),z0,z0]] (λt25=>[(0,vT bm.l),(2,vP b 0),(4,vP b1 0),(5,vI y2),(25,.bool t25)]) (λo0 aA=>?_) ?_
 ·have H:=iS I0;refine zL<|yG 3 [] [20] rfl<|wR [20] aA ?_ ?_
  ·intro aH N;exact wM [] [(25,vY)]<|yZ<|zU (ct N H)
  intro aH N;exact yQ [] [25] rfl<|yZ<|zU (ct N H)
 intro t25 aP aa aX;have h2:=h2.mono aa;refine zK<|yH aX ?_ ?_
 ·intro ba N;refine yD<|yG 1 [] [26] rfl<|xC 1 [vT ([]),z0,vI 0,vI 0,z0,vI 0,vT ([]),z0,z0] rfl<|wM [] [(3,vF)]<|xH<|zJ ?_;exact xX N (resE 1 rfl rfl rfl) zO ⟨_,_,rfl,rfl,⟨_,rfl,(wG ⟨_,_,_,_,rfl,(SL.nil _),(SL.nil _),(SL.nil _),(SL.nil _)⟩)⟩,rfl⟩
 intro ba N;refine zT<|yY<|yG 3 [] [28,30] rfl ?_;obtain⟨⟨y4,y5⟩,az,N⟩:=zB N;refine xK (zHf bm (W (y2+1)) 5 _ az ) ?_;rintro aW ax v2 k2 aC - ⟨v03,v04,rfl,rfl,⟨au,rfl,h3⟩,rfl⟩ -;have h2:=h2.mono aC;obtain⟨p1,c1,p2,c2,p3,c3,rfl,h5,h6,h7⟩:=wT h3;refine yG 7 [] [32,33] rfl<|xY zExpr ?_;intro b2 hb2;refine xC 0 (cExpr y4 p1 c1 p2 c2 p3 c3) rfl<|wM [] []<|yY<|uW 3 [1,0] [(36,vA [vT y1.Array.l,vS p y1.Subs c,vI y4.Kind,vI y4.Num,vS p1 y4.Index.Coefs c1,vI y4.Index.Const,vT y4.Read.Array.l,vS p2 y4.Read.Subs c2,vS p3 y4.Kids c3])]<|xY [vT ([]),z0,vI 0,vI 0,z0,vI 0,vT ([]),z0,z0] ?_;intro b3 hb3;refine xC 0 [vT y1.Array.l,vS p y1.Subs c,vI y4.Kind,vI y4.Num,vS p1 y4.Index.Coefs c1,vI y4.Index.Const,vT y4.Read.Array.l,vS p2 y4.Read.Subs c2,vS p3 y4.Kids c3] rfl<|zY rfl<|yA<|yD<|uW 1 [0] [(37,vA [vT y1.Array.l,vS p y1.Subs c,vI y4.Kind,vI y4.Num,vS p1 y4.Index.Coefs c1,vI y4.Index.Const,vT y4.Read.Array.l,vS p2 y4.Read.Subs c2,vS p3 y4.Kids c3])]<|bE N λy6 aG N=>xK (zFW (zI.mk y1 y4) _ aG h2 h5 h6 h7) ?_;rintro bx ax v2 k2 aI - ⟨v08,rfl,rfl,rfl⟩ -;have ⟨h2,h5,h6,h7⟩:=m4 aI h2 h5 h6 h7;refine yQ [] [40] rfl<|zK<|yH N ?_ ?_
 ·intro bD N;refine yD<|yG 1 [] [41] rfl<|xC 3 [vT ([]),z0,vI 0,vI 0,z0,vI 0,vT ([]),z0,z0] rfl<|wM [] [(3,vF)]<|xH<|zJ ?_;exact xX N (resE 3 rfl rfl rfl) zO ⟨_,_,rfl,rfl,⟨_,rfl,(wG ⟨_,_,_,_,rfl,(SL.nil _),(SL.nil _),(SL.nil _),(SL.nil _)⟩)⟩,rfl⟩
 intro bD N;refine zT<|yY<|uW 1 [0] [(42,vA [vT y1.Array.l,vS p y1.Subs c,vI y4.Kind,vI y4.Num,vS p1 y4.Index.Coefs c1,vI y4.Index.Const,vT y4.Read.Array.l,vS p2 y4.Read.Subs c2,vS p3 y4.Kids c3])]<|xC 3 [vT y1.Array.l,vS p y1.Subs c,vI y4.Kind,vI y4.Num,vS p1 y4.Index.Coefs c1,vI y4.Index.Const,vT y4.Read.Array.l,vS p2 y4.Read.Subs c2,vS p3 y4.Kids c3] rfl<|wM [] [(3,vY)]<|zK<|xD ?_;exact xX N (resE 3 rfl rfl rfl) zO ⟨_,_,rfl,rfl,⟨_,rfl,(wG ⟨_,_,_,_,rfl,h2,h5,h6,h7⟩)⟩,rfl⟩
def zGy(r:zC):KT:=λkk I' ag v=>
 ∃(a0:Option Addr) (c0:Nat) (s0:List Value) (a1:Option Addr) (c1:Nat) (s1:List Value) (al:List Raw2) (vN vB:Value) (nl:List zG) (bl:List zI) (csN csB:List Value),
   ag=[hO zD (vS a0 r.Arrays c0) s0,hO Raw2 (vS a1 al c1) s1,hO zG vN csN,hO zI vB csB]/\v=tupV [vA [vS a0 r.Arrays c0,vS a1 al c1]]/\L4 I' s0 r.Arrays s1 al r.Parts vN nl vB bl csN csB
def zAU(p:zC)(line:Str):Option (zC):=do
 let y<-gF line;let t17<-(do
  if(decide ((y.length:Int)>0)) then
   let x<-idx y 0;pure (x.l==([97,114,114,97,121]:List UInt8))
  else
   pure false
    : Option Bool)
 if t17 then
  let y1<-dV y;let l<-app 40 p.Arrays ([y1]:List zD);pure (zC.mk l p.Parts)
 else
  if(line.l==([112,97,114,116]:List UInt8)) then
   let l1<-app 48 p.Parts ([(zF.mk ([]:List zG) ([]:List zI))]:List zF);pure (zC.mk p.Arrays l1)
  else
   let t43<-(do
    if(decide ((W ((p.Parts.length:Int) - 1))>=0)) then
     if(decide ((y.length:Int)>0)) then
      let x1<-idx y 0;pure (x1.l==([102,111,114]:List UInt8))
     else pure false
    else
     pure false
      : Option Bool)
   if t43 then
    let x2<-idx p.Parts (W ((p.Parts.length:Int) - 1));let y2<-zAT line;let l2<-app 48 x2.Nest ([y2]:List zG);pure (zC.mk p.Arrays (p.Parts.set (W ((p.Parts.length:Int) - 1)).toNat (zF.mk l2 x2.Body)))
   else
    if(decide ((W ((p.Parts.length:Int) - 1))>=0)) then
     let x4<-idx p.Parts (W ((p.Parts.length:Int) - 1));let (y4,y5)<-jO line;let l3<-app 152 x4.Body ([y4]:List zI);pure (zC.mk p.Arrays (p.Parts.set (W ((p.Parts.length:Int) - 1)).toNat (zF.mk x4.Nest l3)))
    else pure (id p)
theorem zI5:∀p line r,zAU p line=some r->∀{I:Imm}{p1 c cs p2 c1 au}{al:List Raw2}{vN vB:Value}{nl:List zG}{bl:List zI}{csN csB:List Value},
 L4 I cs p.Arrays au al p.Parts vN nl vB bl csN csB->RT 175 [vA [vS p1 p.Arrays c,vS p2 al c1],vT line.l] I [hO zD (vS p1 p.Arrays c) cs,hO Raw2 (vS p2 al c1) au,hO zG vN csN,hO zI vB csB] (zGy r):=by
 intro p line r N I p1 c cs p2 c1 au al vN vB nl bl csN csB hQ
 unfold zAU at N
 simp only[hQ.lp.len] at N
 refine yM func175 λB=>yD<|vC [vS p1 p.Arrays c,vS p2 al c1] ?_
 intro b hb
 refine xY zTwo ?_
 intro b1 hb1
 refine zY rfl<|yY<|yG 1 [] [11] rfl ?_
 obtain⟨y,hy,N⟩:=zB N
 refine xK (zCo line _ hy ) ?_
 rintro I0 ax v2 k2 le - ⟨v0,rfl,rfl,h2⟩ -
 have hQ:=hQ.mono le
 obtain⟨p3,c2,rfl⟩:=h2.form
 refine yQ [] [5] rfl<|yY<|yQ [1] [6] rfl<|yA<|yL<|yC ?_
 obtain⟨o0,aA,N⟩:=zB N
 refine nP (K1 o0 I0 [hB b1 zTwo,hB b [vS p1 p.Arrays c,vS p2 al c1],hO zD (vS p1 p.Arrays c) cs,hO Raw2 (vS p2 al c1) au,hO zG vN csN,hO zI vB csB] λt17=>[(1,vT line.l),(2,vP b 0),(4,vP b1 0),(5,vS p3 y c2),(6,vI (W ((al.length:Int) - 1))),(17,.bool t17)]) ?_ ?_
 ·refine zL<|yG 4 [] [21] rfl ?_
  cases hc:(decide ((y.length:Int)>0)) with
  | true=>
   have hM0:=rZ hc aA
   refine yG 5 [] [22] rfl ?_
   obtain⟨x,az,N⟩:=zB hM0
   refine xW rfl rfl h2 az ?_
   intro ad aN aq am
   obtain rfl:=am
   exact xM 0 aq [vT x.l] (vT x.l) rfl<|yQ [] [17] rfl<|yZ<|zU ⟨_,(zE N).symm,Imm.le.refl _,rfl,rfl⟩
  | false=>
   have hM01:=sP hc aA
   exact wM [] [(17,vF)]<|yZ<|zU ⟨_,(zE hM01).symm,Imm.le.refl _,rfl,rfl⟩
 rintro aP ax m2 ⟨t17,heq,aa,rfl,rfl⟩
 subst o0
 have h2:=h2.mono aa
 have hQ:=hQ.mono aa
 refine zK<|yH N ?_ ?_
 ·intro aH N
  obtain⟨y1,aG,N⟩:=zB N
  obtain⟨l,bh,N⟩:=zB N
  refine wP [.p (vP b 0) [],.p (vS p1 p.Arrays c) [1],.p (vS p3 y c2) [],.x (eVArr y1),.x (λI' v hx=>∃b2,v=vS (some ⟨b2,0,none⟩) ([y1]:List zD) 1/\hx=[]/\(SL I' (vS (some ⟨b2,0,none⟩) ([y1]:List zD) 1) ([y1]:List zD))),.x (λI' v hx=>∃p5 c4 aM,v=vS p5 l c4/\hx=[hO zD (vS p5 l c4) aM]/\(RL I' aM l))] [[],[(0,false)],[],[(2,false)],[(3,false)],[(1,false),(4,false),(8,true)]] [hB b1 zTwo,hB b [vS p1 p.Arrays c,vS p2 al c1],hO Raw2 (vS p2 al c1) au,hO zG vN csN,hO zI vB csB] [[hO zD (vS p1 p.Arrays c) cs]] [(5,true)] (zZ [0,1,3,4,5,2]) ?_ ?_
  ·refine O3<|Ox ?_<|Ox ?_<|Ox ?_<|On
   ·intro I1 hf aa
    refine yW [29] rfl<|xK (zHd y _ aG (h2.mono aa)) ?_
    rintro aW ax v2 k2 aC - ⟨v01,rfl,rfl,⟨aR,rfl,h3⟩⟩ -
    obtain⟨v02,rfl,h4⟩:=zDY h3
    obtain⟨p4,c3,rfl⟩:=h4.form
    exact yN [] aC ⟨_,_,rfl,rfl,h4⟩
   ·intro I1 hf aa
    refine xG ?_
    rintro _ _ ⟨p4,c3,rfl,rfl,h4⟩
    refine yW [30] rfl<|uX (cArr y1 p4 c3) zD ?_
    intro b2 hb2
    have h5:RL I1 (cArr y1 p4 c3) ([y1]:List zD):=⟨(cArr y1 p4 c3),_,rfl,rfl,(uP ⟨_,rfl,h4⟩),rfl⟩
    refine xV 0 rfl ?_
    intro bx aI hl0
    exact yN [] aI ⟨_,rfl,rfl,SL.of_frozen hl0 aI h5⟩
   intro I1 hf aa
   refine xG ?_
   rintro _ _ ⟨rfl,rfl⟩
   refine xG ?_
   rintro _ _ ⟨b2,rfl,rfl,h6⟩
   refine xG ?_
   rintro _ _ rfl
   refine yW [28,31] rfl ?_
   obtain⟨bq,k0,k01⟩:=h6
   refine sW 107 2 0 rfl rfl rfl (hQ.mono aa).arr (.inl k0) k01 bh ?_
   intro p5 c4 aM h7
   exact wY (ag:=(hO zD (vS p5 l c4) aM::(hB b1 zTwo::hB b [vS p1 p.Arrays c,vS p2 al c1]::hO Raw2 (vS p2 al c1) au::hO zG vN csN::hO zI vB csB::hf))) rfl<|yN [hO zD (vS p5 l c4) aM] iR ⟨_,_,_,rfl,rfl,h7⟩
  intro bG aY
  refine xG ?_
  rintro _ _ ⟨p5,c4,aM,rfl,rfl,h7⟩
  refine yW [2,4,32] rfl ?_
  have hQ:=hQ.mono aY
  refine yG 7 [] [33] rfl<|xC 2 [vS p5 l c4,vS p2 al c1] rfl<|zY rfl<|zN<|yY<|uW 1 [2] [(98,vA [vS p5 l c4,vS p2 al c1])]<|xC 1 [vS p5 l c4,vS p2 al c1] rfl<|zY rfl<|zK<|xD ?_
  obtain rfl:=zE N
  exact zFE (resC 1 rfl rfl) (zX [0,3,4,5] rfl (by decide)) ⟨_,_,_,_,_,_,_,_,_,_,_,_,_,rfl,rfl,⟨h7,hQ.raw,hQ.lp,hQ.n,hQ.b⟩⟩
 intro aH N
 refine yK [34] rfl<|zK<|yH N ?_ ?_
 ·intro ba N
  refine oO 4 rfl ?_
  intro bK bo hl5
  have kN:=SL.of_frozen hl5 bo hQ.n
  have hQ:=hQ.mono bo
  refine oO 4 rfl ?_
  intro I06 bv hl6
  have kB:=SL.of_frozen hl6 bv hQ.b
  replace kN:=kN.mono bv
  have hQ:=hQ.mono bv
  obtain⟨l1,bu,N⟩:=zB N
  have bC:=zHz (l':=al) (m':=[(⟨z0,z0⟩:Raw2)]) bu hQ.lp.2.1 rfl
  have hLP:=hQ.lp.part kN kB bu
  refine zL<|wY (ag:=[hB b1 zTwo,hB b [vS p1 p.Arrays c,vS p2 al c1],hO zD (vS p1 p.Arrays c) cs,hO Raw2 (vS p2 al c1) au]) rfl<|uW 3 [1] [(38,vS p2 al c1),(39,vA zTwo)]<|uX zTwo Raw2 ?_
  intro b3 hb3
  have h8:RL I06 zTwo [(⟨z0,z0⟩:Raw2)]:=⟨zTwo,[],rfl,rfl,⟨rfl,rfl,rfl⟩,rfl⟩
  refine sW 47 2 4 rfl rfl rfl hQ.raw (.inr ⟨0,rfl⟩) h8 bC ?_
  intro p6 c5 bt h9
  refine tX (zZ [1,2,3,4] (ag:=[hB b1 zTwo,hB b [vS p1 p.Arrays c,vS p2 al c1],hO zD (vS p1 p.Arrays c) cs,hO Raw2 (vS p6 (al++[(⟨z0,z0⟩:Raw2)]) c5) bt]))<|yG 6 [] [42] rfl<|xC 1 [vS p1 p.Arrays c,vS p6 (al++[(⟨z0,z0⟩:Raw2)]) c5] rfl<|zY rfl<|zN<|yY<|uW 1 [1] [(98,vA [vS p1 p.Arrays c,vS p6 (al++[(⟨z0,z0⟩:Raw2)]) c5])]<|xC 0 [vS p1 p.Arrays c,vS p6 (al++[(⟨z0,z0⟩:Raw2)]) c5] rfl<|zY rfl<|xH<|wK (fN (Rp.sz zI))<|wK (fN (Rp.sz zG)) ?_
  obtain rfl:=zE N
  exact zFE (resC 2 rfl rfl) (zX [4,5,0,1] rfl (by decide)) ⟨_,_,_,_,_,_,_,_,_,_,_,_,_,rfl,rfl,⟨hQ.arr,h9,hLP,RepL.nil,RepL.nil⟩⟩
 intro ba N
 refine yC ?_
 obtain⟨aU,aB,N⟩:=zB N
 refine nP (K1 aU aP [hB b1 zTwo,hB b [vS p1 p.Arrays c,vS p2 al c1],hO zD (vS p1 p.Arrays c) cs,hO Raw2 (vS p2 al c1) au,hO zG vN csN,hO zI vB csB] λt43=>[(1,vT line.l),(2,vP b 0),(4,vP b1 0),(6,vI (W ((al.length:Int) - 1))),(43,.bool t43)]) ?_ ?_
 ·refine zL<|yG 3 [] [46] rfl ?_
  cases bD:(decide ((W ((al.length:Int) - 1))>=0)) with
  | true=>
   have hM02:=rZ bD aB
   refine yG 8 [] [51] rfl ?_
   cases bJ:(decide ((y.length:Int)>0)) with
   | true=>
    have hM03:=rZ bJ hM02
    refine yG 9 [] [52] rfl ?_
    obtain⟨x1,bC,N⟩:=zB hM03
    refine xW rfl rfl h2 bC ?_
    intro ad1 bL aw ay
    obtain rfl:=ay
    exact xM 0 aw [vT x1.l] (vT x1.l) rfl<|yQ [] [43] rfl<|yZ<|zU ⟨_,(zE N).symm,Imm.le.refl _,rfl,rfl⟩
   | false=>
    have hM04:=sP bJ hM02
    exact wM [] [(43,vF)]<|yZ<|zU ⟨_,(zE hM04).symm,Imm.le.refl _,rfl,rfl⟩
  | false=>
   have hM05:=sP bD aB
   exact wM [] [(43,vF)]<|yZ<|zU ⟨_,(zE hM05).symm,Imm.le.refl _,rfl,rfl⟩
 rintro bK ax m2 ⟨t43,heq1,bo,rfl,rfl⟩
 subst aU
 have hQ:=hQ.mono bo
 refine zK<|yH N ?_ ?_
 ·intro hc5 N
  refine yD<|yG 3 [1] [58,59] rfl ?_
  obtain⟨x2,hy6,N⟩:=zB N
  obtain⟨rfl,hyr,hset⟩:=hQ.lp.last hy6
  refine gJ 3 rfl rfl rfl hQ.raw hyr ?_
  intro ad2 ccs3 bk bI br
  obtain⟨rfl,o1,o2⟩:=br
  refine zCU 3 0 bk bI [vN,vB] (vA [vN,vB]) rfl rfl<|xY zTwo ?_
  intro b4 hb4
  refine zOg 0 [vN,vB] (hB b4 [vN,vB]::[hB b1 zTwo,hB b [vS p1 p.Arrays c,vS p2 al c1],hO zD (vS p1 p.Arrays c) cs,hO Raw2 (vS p2 al c1) au,hO zG vN csN,hO zI vB csB]) rfl rfl rfl rfl (by simp[Value.cells,o1,o2])<|zY rfl<|zK<|yC ?_
  obtain⟨y2,hy7,N⟩:=zB N
  obtain⟨l2,hy8,N⟩:=zB N
  refine wP [.p (vP b4 0) [],.p vN [0],.p (vT line.l) [],.x (eVLoop y2),.x (λI' v hx=>∃b5,v=vS (some ⟨b5,0,none⟩) ([y2]:List zG) 1/\hx=[]/\(SL I' (vS (some ⟨b5,0,none⟩) ([y2]:List zG) 1) ([y2]:List zG))),.x (λI' v hx=>∃aF aO aM,v=vS aF l2 aO/\hx=[hO zG (vS aF l2 aO) aM]/\(RL I' aM l2))] [[],[(0,false)],[],[(2,false)],[(3,false)],[(1,false),(4,false),(8,true)]] [hB b4 [vN,vB],hB b1 zTwo,hB b [vS p1 p.Arrays c,vS p2 al c1],hO zD (vS p1 p.Arrays c) cs,hO Raw2 (vS p2 al c1) au,hO zI vB csB] [[hO zG vN csN]] [(5,true)] (zZ [0,1,2,3,4,6,5]) ?_ ?_
  ·refine O3<|Ox ?_<|Ox ?_<|Ox ?_<|On
   ·intro I1 hf aa
    refine yW [64] rfl<|xK (zI4 line _ hy7 ) ?_
    rintro I06 ax v2 k2 bv - ⟨v05,rfl,rfl,⟨bz,rfl,h12⟩⟩ -
    obtain⟨v06,v07,rfl,h13,h14⟩:=zDl h12
    obtain⟨p9,c8,rfl⟩:=h13.form
    obtain⟨aL,c9,rfl⟩:=h14.form
    exact yN [] bv ⟨_,_,_,_,rfl,rfl,h13,h14⟩
   ·intro I1 hf aa
    refine xG ?_
    rintro _ _ ⟨p9,c8,aL,c9,rfl,rfl,h13,h14⟩
    refine yW [65] rfl<|uX (cLoop y2 p9 c8 aL c9) zG ?_
    intro b5 hb5
    have h15:RL I1 (cLoop y2 p9 c8 aL c9) ([y2]:List zG):=⟨(cLoop y2 p9 c8 aL c9),_,rfl,rfl,(uR ⟨_,_,rfl,h13,h14⟩),rfl⟩
    refine xV 0 rfl ?_
    intro I07 le7 hl01
    exact yN [] le7 ⟨_,rfl,rfl,SL.of_frozen hl01 le7 h15⟩
   intro I1 hf aa
   refine xG ?_
   rintro u _ ⟨hu,rfl⟩
   have hu:=hu.symm
   subst hu
   refine xG ?_
   rintro _ _ ⟨b5,rfl,rfl,h16⟩
   refine xG ?_
   rintro _ _ rfl
   refine yW [63,66] rfl ?_
   obtain⟨ccs4,k0,k01⟩:=h16
   refine sW 141 2 0 rfl rfl rfl (hQ.mono aa).n (.inl k0) k01 hy8 ?_
   intro aF aO aM h17
   exact wY (ag:=(hO zG (vS aF l2 aO) aM::(hB b4 [vN,vB]::hB b1 zTwo::hB b [vS p1 p.Arrays c,vS p2 al c1]::hO zD (vS p1 p.Arrays c) cs::hO Raw2 (vS p2 al c1) au::hO zI vB csB::hf))) rfl<|yN [hO zG (vS aF l2 aO) aM] iR ⟨_,_,_,rfl,rfl,h17⟩
  intro I08 le8
  refine xG ?_
  rintro _ _ ⟨aF,aO,aM,rfl,rfl,h17⟩
  refine yW [2,4,6,7,67] rfl ?_
  have hQ:=hQ.mono le8
  refine yG 7 [] [68] rfl<|xC 1 [vS aF l2 aO,vB] rfl<|zY rfl<|zK<|zL<|uW 4 [3,1] [(70,vS p2 al c1),(71,vI (W ((al.length:Int) - 1))),(72,vA [vS aF l2 aO,vB])]<|gJ 5 rfl rfl rfl hQ.raw hyr ?_
  intro ad3 ccs5 hat3 hcc1 bB
  obtain⟨rfl,-⟩:=bB
  refine gX (α:=Raw2) (c:=[vS aF l2 aO,vB]) (x':=⟨vS aF l2 aO,vB⟩) 5 0 rfl rfl rfl hat3 rfl rfl hcc1 (by kernel_rfl) (by kernel_rfl) (by simp[Value.cells,o2];rfl) hQ.raw hyr (by kernel_rfl) ⟨rfl,rfl,o2⟩ ?_
  intro cs6 h19 hl02
  refine wY (ag:=[hO zG (vS aF l2 aO) aM,hB b4 [vS aF l2 aO,vB],hB b1 zTwo,hB b [vS p1 p.Arrays c,vS p2 al c1],hO zD (vS p1 p.Arrays c) cs,hO Raw2 (vS p2 al c1) cs6,hO zI vB csB]) rfl<|zY rfl<|zN<|yY<|uW 1 [3] [(98,vA [vS p1 p.Arrays c,vS p2 al c1])]<|xC 2 [vS p1 p.Arrays c,vS p2 al c1] rfl<|zY rfl<|zK<|xD ?_
  obtain rfl:=zE N
  exact jW ⟨[vA [vS p1 p.Arrays c,vS p2 al c1]],_,(resC 2 rfl rfl),(zX [4,5,0,6] rfl (by decide)),⟨p1,c,cs,p2,c1,cs6,al.set (W ((al.length:Int) - 1)).toNat ⟨vS aF l2 aO,vB⟩,vS aF l2 aO,vB,l2,bl,aM,csB,(by simp only[vS,hl02]),(by simp only[vS,hl02]),⟨hQ.arr,h19,(hset _ _ _ _).mono le8,h17,hQ.b⟩⟩⟩
 intro hc5 N
 refine yK [74] rfl<|zK<|yH N ?_ ?_
 ·intro hc6 N
  refine yD<|yG 3 [1] [78,79] rfl ?_
  obtain⟨x4,hy10,N⟩:=zB N
  obtain⟨rfl,hyr,hset⟩:=hQ.lp.last hy10
  refine gJ 3 rfl rfl rfl hQ.raw hyr ?_
  intro ad4 ccs5 hat4 hcc2 hrep4
  obtain⟨rfl,o1,o2⟩:=hrep4
  refine zCU 3 0 hat4 hcc2 [vN,vB] (vA [vN,vB]) rfl rfl<|xY zTwo ?_
  intro b6 hb6
  refine zOg 0 [vN,vB] (hB b6 [vN,vB]::[hB b1 zTwo,hB b [vS p1 p.Arrays c,vS p2 al c1],hO zD (vS p1 p.Arrays c) cs,hO Raw2 (vS p2 al c1) au,hO zG vN csN,hO zI vB csB]) rfl rfl rfl rfl (by simp[Value.cells,o1,o2])<|zY rfl<|yY<|uW 1 [] [(83,vT line.l)] ?_
  obtain⟨⟨y4,y5⟩,hy11,N⟩:=zB N
  refine xK (zCL line _ hy11 ) ?_
  rintro I09 ax v2 k2 le9 - ⟨v012,v013,rfl,rfl,⟨cs7,rfl,h22⟩,rfl⟩ -
  have hQ:=hQ.mono le9
  obtain⟨v014,v015,v016,v017,rfl,h24,h25,h26,h27⟩:=kJ h22
  obtain⟨p15,c14,rfl⟩:=h24.form
  obtain⟨p16,c15,rfl⟩:=h25.form
  obtain⟨p17,c16,rfl⟩:=h26.form
  obtain⟨p18,c17,rfl⟩:=h27.form
  refine yG 5 [] [85,86] rfl<|xY [vT ([]),z0,vI 0,vI 0,z0,vI 0,vT ([]),z0,z0] ?_
  intro b7 hb7
  refine jV 0 (cStmt y4 p15 c14 p16 c15 p17 c16 p18 c17) (hB b7 (cStmt y4 p15 c14 p16 c15 p17 c16 p18 c17)::hB b6 [vN,vB]::[hB b1 zTwo,hB b [vS p1 p.Arrays c,vS p2 al c1],hO zD (vS p1 p.Arrays c) cs,hO Raw2 (vS p2 al c1) au,hO zG vN csN,hO zI vB csB]) rfl rfl rfl rfl<|wM [] []<|yY<|uW 3 [1,0] [(88,vB),(89,vA (cStmt y4 p15 c14 p16 c15 p17 c16 p18 c17))]<|uX (cStmt y4 p15 c14 p16 c15 p17 c16 p18 c17) zI ?_
  intro b8 hb8
  have h28:RL I09 (cStmt y4 p15 c14 p16 c15 p17 c16 p18 c17) ([y4]:List zI):=⟨(cStmt y4 p15 c14 p16 c15 p17 c16 p18 c17),_,rfl,rfl,(wG ⟨_,_,_,_,rfl,h24,h25,h26,h27⟩),rfl⟩
  obtain⟨l3,hy12,N⟩:=zB N
  refine sW 100 9 8 rfl rfl rfl hQ.b (.inr ⟨0,rfl⟩) h28 hy12 ?_
  intro p19 c18 cs9 h29
  refine tX (zZ [2,3,4,5,6,7,8] (ag:=[hB b6 [vN,vB],hB b1 zTwo,hB b [vS p1 p.Arrays c,vS p2 al c1],hO zD (vS p1 p.Arrays c) cs,hO Raw2 (vS p2 al c1) au,hO zG vN csN,hO zI (vS p19 l3 c18) cs9]))<|yG 6 [] [92] rfl<|xC 0 [vN,vS p19 l3 c18] rfl<|zY rfl<|zK<|zL<|uW 4 [2,0] [(94,vS p2 al c1),(95,vI (W ((al.length:Int) - 1))),(96,vA [vN,vS p19 l3 c18])]<|gJ 4 rfl rfl rfl hQ.raw hyr ?_
  intro ad5 ccs6 hat5 hcc3 hrep5
  obtain⟨rfl,-⟩:=hrep5
  refine gX (α:=Raw2) (c:=[vN,vS p19 l3 c18]) (x':=⟨vN,vS p19 l3 c18⟩) 4 0 rfl rfl rfl hat5 rfl rfl hcc3 (by kernel_rfl) (by kernel_rfl) (by simp[Value.cells,o1];rfl) hQ.raw hyr (by kernel_rfl) ⟨rfl,o1,rfl⟩ ?_
  intro cs8 h31 hl03
  refine wY (ag:=[hB b6 [vN,vS p19 l3 c18],hB b1 zTwo,hB b [vS p1 p.Arrays c,vS p2 al c1],hO zD (vS p1 p.Arrays c) cs,hO Raw2 (vS p2 al c1) cs8,hO zG vN csN,hO zI (vS p19 l3 c18) cs9]) rfl<|zY rfl<|zN<|yY<|uW 1 [2] [(98,vA [vS p1 p.Arrays c,vS p2 al c1])]<|xC 1 [vS p1 p.Arrays c,vS p2 al c1] rfl<|zY rfl<|zK<|xD ?_
  obtain rfl:=zE N
  exact jW ⟨[vA [vS p1 p.Arrays c,vS p2 al c1]],_,(resC 1 rfl rfl),(zX [3,4,5,6] rfl (by decide)),⟨p1,c,cs,p2,c1,cs8,al.set (W ((al.length:Int) - 1)).toNat ⟨vN,vS p19 l3 c18⟩,vN,vS p19 l3 c18,nl,l3,csN,cs9,(by simp only[vS,hl03]),(by simp only[vS,hl03]),⟨hQ.arr,h31,(hset _ _ _ _).mono le9,hQ.n,h29⟩⟩⟩
 intro hc6 N
 refine zT<|zN<|yY<|uW 1 [1] [(98,vA [vS p1 p.Arrays c,vS p2 al c1])]<|xC 0 [vS p1 p.Arrays c,vS p2 al c1] rfl<|zY rfl<|zK<|xD ?_
 obtain rfl:=zE N
 exact zFE (resC 0 rfl rfl) (zX [2,3,4,5] rfl (by decide)) ⟨_,_,_,_,_,_,_,_,_,_,_,_,_,rfl,rfl,hQ⟩
def uU(x:zD)(k0:Int):Option (Out Unit (Bool)):=do
 if(decide (k0<(x.Dims.length:Int))) then
  let t77<-(do
   let x2<-idx x.Dims k0;if(decide (x2<1)) then pure true
   else
    let x3<-idx x.Dims k0;pure (decide (x3>6))
     : Option Bool)
  if t77 then pure (.ret false)
  else uU x (W (k0+1))
 else pure (.done ())
 partial_fixpoint
theorem zEe(x:zD):∀(k0:Int) (o:Out Unit (Bool)),uU x k0=some o->∀{B}{I0 I:Imm}{Q}{list:(List zD)}{i:Int}{p c p1 c1}{b},I0.le I->(S4 I p list c)->(S4 I p1 x.Dims c1)->NG Q->NO Q->(∀I',o=(.done ())->I0.le I'->T 81 B Q (.exit 2) I' [] [(0,vS p list c),(3,vI i)])->(∀r I' ag m',o=(.ret r)->I0.le I'->RS Tryz.prog f100 B (zW  r) I' ag m'->T 81 B Q .ret I' ag m')->J Tryz.prog 81 B (nav (bodyOf f100) [1,0,1,0,0,1,0,0,1,1,1,0]) Q I [hB b (cArr x p1 c1)] [(0,vS p list c),(3,vI i),(4,vP b 0),(5,vI k0)]:=by
 refine uU.partial_correctness x _ λaJ ih k0 o N B I0 I Q list i p c p1 c1 b H h h1 hg ho hx hr=>yX hg ho<|yC<|yD<|yQ [0] [61] rfl<|zK<|yH N ?_ ?_
 ·intro hc9 N;refine zT<|yA<|yL<|yC ?_;refine vQ N [hB b (cArr x p1 c1)] (λt77=>[(0,vS p list c),(3,vI i),(4,vP b 0),(5,vI k0),(77,.bool t77)]) (λaU aB=>?_) ?_
  ·have H:=iS I;refine zL<|yG 3 [0] [65,66] rfl ?_;obtain⟨x2,aG,N⟩:=zB aB;refine xW rfl rfl h1 aG ?_;intro ad2 bL bk br;obtain rfl:=br;refine xM 0 bk [vI x2] (vI x2) rfl<|yG 7 [] [70] rfl<|wR [70] N ?_ ?_
   ·intro hc10 N;exact wM [] [(77,vY)]<|yZ<|zU (ct N H)
   intro hc10 N;refine yG 10 [0] [72,73] rfl<|bE N λx3 bh N=>xW rfl rfl h1 bh ?_;intro ad3 ccs3 hat3 bB;obtain rfl:=bB;exact xM 0 hat3 [vI x3] (vI x3) rfl<|yQ [] [77] rfl<|yZ<|zU (ct N H)
  intro t77 aP aa hMc1;have ⟨h,h1,H⟩:=m3 aa h h1 H;refine zK<|yH hMc1 ?_ ?_
  ·intro hc11 N;exact wZ [(2,vF)]<|xH<|zV<|zJ<|zJ<|hr _ _ _ _ (zE N).symm H ⟨_,_,(resT rfl),zO,⟨_,rfl,rfl,rfl⟩⟩
  intro hc11 N;exact zT<|zN<|zK<|zL<|yQ [] [5] rfl<|yV<|nX<|ih (W (k0+1)) _ N H h h1 hg ho hx hr
 intro hc9 N;exact wW<|wK zO<|yZ<|hx _  (zE N).symm H
def tT(list:(List zD))(i:Int):Option (Out Unit (Bool)):=do
 if(decide (i<(list.length:Int))) then
  let x<-idx list i;let t56<-(do
   if((x.Name.l.length:Int) != 1) then pure true
   else
    if(Op.bytesLess x.Name.l ([65]:List UInt8)) then pure true
    else
     if(!(Op.bytesLess x.Name.l ([68]:List UInt8)||x.Name.l==([68]:List UInt8))) then pure true
     else
      if(decide (i>0)) then
       let x1<-idx list (W (i - 1));if(!(Op.bytesLess x1.Name.l x.Name.l)) then pure true
       else
        if(decide ((x.Dims.length:Int)<1)) then pure true
        else pure (decide ((x.Dims.length:Int)>2))
      else
       if(decide ((x.Dims.length:Int)<1)) then pure true
       else pure (decide ((x.Dims.length:Int)>2))
     : Option Bool)
  if t56 then pure (.ret false)
  else
   match<-uU x 0 with
   | .ret r0=>pure (.ret r0)
   | .done _=>
    tT list (W (i+1))
 else pure (.done ())
 partial_fixpoint
theorem zEf(list:(List zD)):∀(i:Int) (o:Out Unit (Bool)),tT list i=some o->∀{B}{I0 I:Imm}{Q p c},I0.le I->(S4 I p list c)->NG Q->NO Q->(∀I',o=(.done ())->I0.le I'->T 81 B Q (.exit 0) I' [] [(0,vS p list c)])->(∀r I' ag m',o=(.ret r)->I0.le I'->RS Tryz.prog f100 B (zW  r) I' ag m'->T 81 B Q .ret I' ag m')->J Tryz.prog 81 B (nav (bodyOf f100) [1,0,1,0]) Q I [] [(0,vS p list c),(3,vI i)]:=by
 refine tT.partial_correctness list _ λaJ ih i o N B I0 I Q p c H h hg ho hx hr=>yX hg ho<|yC<|yK [9] rfl<|zK<|yH N ?_ ?_
 ·intro hc N;refine zT<|yA<|yL<|yD<|yG 2 [] [12,13] rfl<|bE N λx hy N=>xW rfl rfl h hy ?_;intro ad aN aq am;obtain⟨p1,c1,rfl,h1⟩:=wH am;refine xM 0 aq (cArr x p1 c1) (vA (cArr x p1 c1)) rfl<|xY [vT ([]),z0] ?_;intro b hb;refine xC 0 (cArr x p1 c1) rfl<|zY rfl<|yA<|yC ?_;refine vQ N [hB b (cArr x p1 c1)] (λt56=>[(0,vS p list c),(3,vI i),(4,vP b 0),(56,.bool t56)]) (λo0 aA=>?_) ?_
  ·have H:=iS I;refine zA5 (by kernel_rfl) (by kernel_rfl)<|zB2 5 [0] [20] rfl<|zIU [20] aA ?_ ?_
   ·intro aH N;exact zLY [] [(56,vY)]<|yZ<|zU (ct N H)
   intro aH N;refine zB2 10 [0] [25] rfl<|zIU [25] N ?_ ?_
   ·intro ba N;exact zLY [] [(56,vY)]<|yZ<|zU (ct N H)
   intro ba N;refine zB2 15 [0] [30] rfl<|zIU [30] N ?_ ?_
   ·intro bD N;exact zLY [] [(56,vY)]<|yZ<|zU (ct N H)
   intro bD N;refine zB2 18 [] [33] rfl<|zIU [33] N ?_ ?_
   ·intro bJ N;refine zB2 21 [] [34,36] rfl<|bE N λx1 az N=>zDk rfl rfl h az ?_;intro ad1 bq aw ay;obtain⟨p2,c2,rfl,h2⟩:=wH ay;refine zB2 23 [] [38] rfl<|zC5 0 aw [vT x1.Name.l] (vT x1.Name.l) rfl<|zB2 30 [0] [45] rfl<|zIU [45] N ?_ ?_
    ·intro hc5 N;exact zLY [] [(56,vY)]<|yZ<|zU (ct N H)
    intro hc5 N;refine zB2 36 [0] [51] rfl<|zIU [51] N ?_ ?_
    ·intro hc6 N;exact zLY [] [(56,vY)]<|yZ<|zU (ct N H)
    intro hc6 N;exact zK5 [0] [56] rfl<|yZ<|zU (ct N H)
   intro bJ N;refine zB2 36 [0] [51] rfl<|zIU [51] N ?_ ?_
   ·intro hc7 N;exact zLY [] [(56,vY)]<|yZ<|zU (ct N H)
   intro hc7 N;exact zK5 [0] [56] rfl<|yZ<|zU (ct N H)
  intro t56 I0 le aX;have ⟨h,h1,H⟩:=m3 le h h1 H;refine zK<|yH aX ?_ ?_
  ·intro hc8 N;exact wZ [(2,vF)]<|xH<|zJ<|zV<|zJ<|zJ<|hr _ _ _ _ (zE N).symm H ⟨_,_,(resT rfl),zO,⟨_,rfl,rfl,rfl⟩⟩
  intro hc8 N;refine zT<|vM [5] rfl<|wN<|qX [(0,vS p list c),(3,vI i),(4,vP b 0),(5,vI 0)] ?_;obtain⟨o02,ho02,aE⟩:=zB N;refine zEe x 0 o02 ho02 iR h h1 (λ_ _ _ h=>hg _ _ _ h) (λ_ _ h=>ho _ _ h) ?_ ?_
  ·intro aW  heq2 aC;subst o02;have ⟨h,H⟩:=m2 aC h H;exact zS<|zN<|zK<|zL<|yQ [] [3] rfl<|yV<|nX<|ih (W (i+1)) _ aE H h hg ho hx hr
  intro r0 I9 hs9 m9 aT le9 aV;subst aT;exact zV<|zV<|zJ<|zJ<|hr _ _ _ _ (zE aE).symm (H.trans le9) aV
 intro hc N;exact wW<|yZ<|hx _  (zE N).symm H
def kY(list:(List zD)):Option (Bool):=do
 match<-tT list 0 with
 | .ret r0=>pure r0
 | .done _=>
  pure (decide ((list.length:Int)<=4))
theorem zGz:∀list r,kY list=some r->∀{I:Imm}{p c},(S4 I p list c)->RT 100 [vS p list c] I [] (zW  r):=by
 intro list r N I p c h;unfold kY at N;refine yM func100 λB=>wZ []<|yA<|yK [3] rfl<|wN<|qX [(0,vS p list c),(3,vI 0)] ?_;obtain⟨o03,ho03,hMl1⟩:=zB N;refine zEf list 0 o03 ho03 iR h nG nO ?_ ?_
 ·intro bx  heq3 aI;subst o03;refine zS<|vM [2] rfl<|zK<|xD ?_;obtain rfl:=zE hMl1;exact vH
 intro r0 I9 hs9 m9 aT le9 aV;subst aT;refine zV<|zJ ?_;obtain rfl:=zE hMl1;exact jW aV
def rK(a0:zA)(ah:(List Int))(n0:Int)(i:Int):Option (Int):=do
 let t19<-(do
  if(decide (i<(ah.length:Int))) then pure (decide (i<(a0.Coefs.length:Int)))
  else
   pure false
    : Option Bool)
 if t19 then
  let x<-idx a0.Coefs i;let x1<-idx ah i;rK a0 ah (W (n0+(W (x*x1)))) (W (i+1))
 else pure (id n0)
 partial_fixpoint
theorem zGG(a0:zA)(ah:(List Int)):∀(n0:Int) (i:Int) (o:Int),rK a0 ah n0 i=some o->∀{B}{I0 I:Imm}{Q p c p1 c1}{b},I0.le I->(S4 I p1 ah c1)->(S4 I p a0.Coefs c)->NG Q->NO Q->(∀I' n01,o=n01->I0.le I'->T 35 B Q (.exit 0) I' [] [(5,vI n01)])->J Tryz.prog 35 B (nav (bodyOf f155) [1,1,0,1,0]) Q I [hB b (cAff a0 p c)] [(1,vS p1 ah c1),(2,vP b 0),(5,vI n0),(6,vI i)]:=by
 refine rK.partial_correctness a0 ah _ λaJ ih n0 i o N B I0 I Q p c p1 c1 b H h1 h hg ho hx=>yX hg ho<|yC<|yC ?_;refine vQ N [hB b (cAff a0 p c)] (λt19=>[(1,vS p1 ah c1),(2,vP b 0),(5,vI n0),(6,vI i),(19,.bool t19)]) (λo0 aA=>?_) ?_
 ·have H:=iS I;refine zL<|yG 5 [] [13] rfl<|wR [13] aA ?_ ?_
  ·intro hc N;exact yQ [0] [19] rfl<|yZ<|zU (ct N H)
  intro hc N;exact wM [] [(19,vF)]<|yZ<|zU (ct N H)
 intro t19 I0 le aX;have ⟨h1,h,H⟩:=m3 le h1 h H;refine zK<|yH aX ?_ ?_
 ·intro aH N;refine zT<|yA<|yL<|zA5 (by kernel_rfl) (by kernel_rfl)<|zB2 4 [0] [22,24,25] rfl<|bE N λx hy N=>zDk rfl rfl h hy ?_;intro ad aN aq am;obtain rfl:=am;refine zC5 0 aq [vI x] (vI x) rfl<|zB2 8 [] [28,29] rfl<|bE N λx1 az N=>zDk rfl rfl h1 az ?_;intro ad1 bq aw ay;obtain rfl:=ay;exact zC5 0 aw [vI x1] (vI x1) rfl<|zK5 [] [5] rfl<|zN<|zK<|zL<|yQ [] [6] rfl<|yV<|nX<|ih (W (n0+(W (x*x1)))) (W (i+1)) _ N H h1 h hg ho hx
 intro aH N;exact wW<|wK zO<|yZ<|hx _ _ (zE N).symm H
def pT(a0:zA)(ah:(List Int)):Option (Int):=do
 let n01<-rK a0 ah a0.Const 0;pure (id n01)
theorem dZ:∀a0 ah r,pT a0 ah=some r->∀{I:Imm}{p c p1 c1},(S4 I p a0.Coefs c)->(S4 I p1 ah c1)->RT 155 [vA (cAff a0 p c),vS p1 ah c1] I [] (yP  r):=by
 intro a0 ah r N I p c p1 c1 h h1;unfold pT at N;refine yM func155 λB=>yD<|vC (cAff a0 p c) ?_;intro b hb;refine wM [] []<|yY<|yQ [0] [5] rfl<|yA<|yK [6] rfl<|wN<|qX [(1,vS p1 ah c1),(2,vP b 0),(5,vI a0.Const),(6,vI 0)] ?_;obtain⟨aU,aB,aE⟩:=zB N;refine zGG a0 ah a0.Const 0 aU aB iR h1 h nG nO ?_;intro aP n01 heq1 aa;subst aU;refine zS<|vM [4] rfl<|zK<|xD ?_;obtain rfl:=zE aE;exact vH
def sS(loop:zG)(p2:(List Int))(lo:Int)(i:Int):Option (Int):=do
 if(decide (i<(loop.Lo.length:Int))) then
  let x2<-idx loop.Lo i;let y2<-pT x2 p2;let lo2<-(do
   if(decide (y2>lo)) then pure (id y2)
   else
    pure (id lo)
     : Option Int)
  sS loop p2 lo2 (W (i+1))
 else pure (id lo)
 partial_fixpoint
theorem zFX(loop:zG)(p2:(List Int)):∀(lo:Int) (i:Int) (o:Int),sS loop p2 lo i=some o->∀{B}{I0 I:Imm}{Q}{y1:Int}{p c p1 c1 p3 c2}{b},I0.le I->(S4 I p3 p2 c2)->(S4 I p loop.Lo c)->(S4 I p1 loop.Hi c1)->NG Q->NO Q->(∀I' lo1,o=lo1->I0.le I'->T 62 B Q (.exit 0) I' [hB b (cLoop loop p c p1 c1)] [(1,vS p3 p2 c2),(2,vP b 0),(6,vI lo1),(7,vI y1)])->J Tryz.prog 62 B (nav (bodyOf f113) [1,1,1,0,1,0]) Q I [hB b (cLoop loop p c p1 c1)] [(1,vS p3 p2 c2),(2,vP b 0),(6,vI lo),(7,vI y1),(8,vI i)]:=by
 refine sS.partial_correctness loop p2 _ λaJ ih lo i o N B I0 I Q y1 p c p1 c1 p3 c2 b H h2 h h1 hg ho hx=>yX hg ho<|yC<|yD<|yQ [0] [28] rfl<|zK<|yH N ?_ ?_
 ·intro hc N;refine zT<|yA<|yL<|yD<|yG 3 [0] [32,33] rfl<|bE N λx2 bu N=>xW rfl rfl h bu ?_;intro ad2 bL bk br;obtain⟨p6,c5,rfl,h7⟩:=yI br;refine xM 0 bk (cAff x2 p6 c5) (vA (cAff x2 p6 c5)) rfl<|yG 6 [] [36] rfl<|bE N λy2 bC N=>dC (dZ x2 p2 _ bC h7 h2) ?_;intro aW aC;have ⟨h2,h,h1,H⟩:=m4 aC h2 h h1 H;refine yQ [] [9] rfl<|vM [40] rfl<|zK ?_;refine vQ N [hB b (cLoop loop p c p1 c1)] (λlo2=>[(1,vS p3 p2 c2),(2,vP b 0),(6,vI lo2),(7,vI y1),(8,vI i)]) (λo0 aA=>?_) ?_
  ·have H:=iS aW;refine yH aA ?_ ?_
   ·intro aH N;exact zL<|yQ [] [6] rfl<|yZ<|zU (ct N H)
   intro aH N;exact zT<|yZ<|zU (ct N H)
  intro lo2 bx aI aX;have ⟨h2,h,h1,H⟩:=m4 aI h2 h h1 H;exact zN<|zK<|zL<|yQ [] [8] rfl<|yV<|nX<|ih lo2 (W (i+1)) _ aX H h2 h h1 hg ho hx
 intro hc N;exact wW<|yZ<|hx _ _ (zE N).symm H
def sT(loop:zG)(p2:(List Int))(hi:Int)(i1:Int):Option (Int):=do
 if(decide (i1<(loop.Hi.length:Int))) then
  let x3<-idx loop.Hi i1;let y3<-pT x3 p2;let hi2<-(do
   if(decide (y3<hi)) then pure (id y3)
   else
    pure (id hi)
     : Option Int)
  sT loop p2 hi2 (W (i1+1))
 else pure (id hi)
 partial_fixpoint
theorem zFY(loop:zG)(p2:(List Int)):∀(hi:Int) (i1:Int) (o:Int),sT loop p2 hi i1=some o->∀{B}{I0 I:Imm}{Q}{lo1:Int}{p c p1 c1 p3 c2}{b},I0.le I->(S4 I p3 p2 c2)->(S4 I p loop.Lo c)->(S4 I p1 loop.Hi c1)->NG Q->NO Q->(∀I' hi1,o=hi1->I0.le I'->T 62 B Q (.exit 2) I' [] [(6,vI lo1),(7,vI hi1)])->J Tryz.prog 62 B (nav (bodyOf f113) [1,1,1,1,0,1,0]) Q I [hB b (cLoop loop p c p1 c1)] [(1,vS p3 p2 c2),(2,vP b 0),(6,vI lo1),(7,vI hi),(10,vI i1)]:=by
 refine sT.partial_correctness loop p2 _ λaJ ih hi i1 o N B I0 I Q lo1 p c p1 c1 p3 c2 b H h2 h h1 hg ho hx=>yX hg ho<|yC<|yD<|yQ [0] [46] rfl<|zK<|yH N ?_ ?_
 ·intro ba N;refine zT<|yA<|yL<|yD<|yG 3 [0] [50,51] rfl<|bE N λx3 hy6 N=>xW rfl rfl h1 hy6 ?_;intro ad3 ccs3 hat3 bB;obtain⟨p7,c6,rfl,h9⟩:=yI bB;refine xM 0 hat3 (cAff x3 p7 c6) (vA (cAff x3 p7 c6)) rfl<|yG 6 [] [54] rfl<|bE N λy3 hy7 N=>dC (dZ x3 p2 _ hy7 h9 h2) ?_;intro bK bo;have ⟨h2,h,h1,H⟩:=m4 bo h2 h h1 H;refine yQ [] [11] rfl<|vM [58] rfl<|zK ?_;refine vQ N [hB b (cLoop loop p c p1 c1)] (λhi2=>[(1,vS p3 p2 c2),(2,vP b 0),(6,vI lo1),(7,vI hi2),(10,vI i1)]) (λo02 ho02=>?_) ?_
  ·have H:=iS bK;refine yH ho02 ?_ ?_
   ·intro bD N;exact zL<|yQ [] [7] rfl<|yZ<|zU (ct N H)
   intro bD N;exact zT<|yZ<|zU (ct N H)
  intro hi2 I06 bv hMc1;have ⟨h2,h,h1,H⟩:=m4 bv h2 h h1 H;exact zN<|zK<|zL<|yQ [] [10] rfl<|yV<|nX<|ih hi2 (W (i1+1)) _ hMc1 H h2 h h1 hg ho hx
 intro ba N;exact wW<|wK zO<|yZ<|hx _ _ (zE N).symm H
def kK(loop:zG)(p2:(List Int)):Option (Int×Int):=do
 let x<-idx loop.Lo 0;let y<-pT x p2;let x1<-idx loop.Hi 0;let y1<-pT x1 p2;let lo1<-sS loop p2 y 1;let hi1<-sT loop p2 y1 1;pure (lo1,hi1)
theorem zD3:∀loop p2 r,kK loop p2=some r->∀{I:Imm}{p c p1 c1 p3 c2},(S4 I p loop.Lo c)->(S4 I p1 loop.Hi c1)->(S4 I p3 p2 c2)->RT 113 [vA (cLoop loop p c p1 c1),vS p3 p2 c2] I [] (zAO  r):=by
 intro loop p2 r N I p c p1 c1 p3 c2 h h1 h2;unfold kK at N;refine yM func113 λB=>yD<|vC (cLoop loop p c p1 c1) ?_;intro b hb;refine wM [] []<|yY<|yG 2 [0] [13] rfl<|bE N λx hy N=>xW rfl rfl h hy ?_;intro ad aN aq am;obtain⟨p4,c3,rfl,h3⟩:=yI am;refine xM 0 aq (cAff x p4 c3) (vA (cAff x p4 c3)) rfl<|yG 5 [] [16] rfl<|bE N λy az N=>dC (dZ x p2 _ az h3 h2) ?_;intro I0 le;have ⟨h2,h,h1⟩:=m3 le h2 h h1;refine yQ [] [6] rfl<|yY<|yG 2 [0] [19] rfl<|bE N λx1 aG N=>xW rfl rfl h1 aG ?_;intro ad1 bq aw ay;obtain⟨p5,c4,rfl,h5⟩:=yI ay;refine xM 0 aw (cAff x1 p5 c4) (vA (cAff x1 p5 c4)) rfl<|yG 5 [] [22] rfl<|bE N λy1 bh N=>dC (dZ x1 p2 _ bh h5 h2) ?_;intro aP aa;have ⟨h2,h,h1⟩:=m3 aa h2 h h1;refine yQ [] [7] rfl<|yA<|yK [8] rfl<|wN<|qX [(1,vS p3 p2 c2),(2,vP b 0),(6,vI y),(7,vI y1),(8,vI 1)] ?_;obtain⟨aU,aB,aE⟩:=zB N;refine zFX loop p2 y 1 aU aB iR h2 h h1 nG nO ?_;intro bG lo1 heq1 aY;subst aU;have ⟨h2,h,h1⟩:=m3 aY h2 h h1;refine zS<|yA<|yK [10] rfl<|wN<|qX [(1,vS p3 p2 c2),(2,vP b 0),(6,vI lo1),(7,vI y1),(10,vI 1)] ?_;obtain⟨o03,ho03,hMl1⟩:=zB aE;refine zFY loop p2 y1 1 o03 ho03 iR h2 h h1 nG nO ?_;intro I07 hi1 heq3 le7;subst o03;refine zS<|vM [4,5] rfl<|zK<|xD ?_;exact xX hMl1 (resU rfl rfl) zO ⟨_,_,rfl,rfl,rfl,rfl⟩
def zBm(r:(List (List Int))):KT:=λkk I' ag v=>
 ∃a0 c0 s0,ag=[.osl (.slice a0 r.length c0) (Rp.sz (List Int)) s0]/\v=tupV [(.slice a0 r.length c0)]/\RepL (Rp.rep I') (Rp.sz (List Int)) s0 r
mutual
def tG(out:(List (List Int)))(nest:(List zG))(p2:(List Int)):Option ((List (List Int))):=do
 if((p2.length:Int)==(nest.length:Int)) then
  let l<-app 8 ([]:List Int) p2;let t6<-app 24 out ([l]:List (List Int));pure (id t6)
 else
  let x<-idx nest (p2.length:Int);let (y1,y2)<-kK x p2;let ar<-rD (same nest) (same p2) (same y2) (same out) (same y1);pure (id ar)
 partial_fixpoint
def rD(nest:(List zG))(p2:(List Int))(y2:Int)(aj:List (List Int))(v04:Int):Option (List (List Int)):=do
 let t39<-(do
  if(decide (v04<y2)) then pure (decide ((aj.length:Int)<=120))
  else
   pure false
    : Option Bool)
 if t39 then
  let l1<-app 8 ([]:List Int) p2;let l2<-app 8 l1 ([v04]:List Int);let y3<-tG (same aj) (same nest) (same l2);rD (same nest) (same p2) (same y2) (same y3) (W (v04+1))
 else pure (id aj)
 partial_fixpoint
end
theorem zGH:(∀(out:(List (List Int))) (nest:(List zG)) (p2:(List Int)) r,tG out nest p2=some r->∀{I:Imm}{p c cs p1 c1 p3 c2},(RL I cs out)->(S4 I p1 nest c1)->(S4 I p3 p2 c2)->RT 75 [vS p out c,vS p1 nest c1,vS p3 p2 c2] I [hO (List Int) (vS p out c) cs] (zBm  r))/\(∀(nest:(List zG)) (p2:(List Int)) (y2:Int) (aj:List (List Int)) (v04:Int) o,rD nest p2 y2 aj v04=some o->∀{B}{I0 I:Imm}{Q p1 c1 p3 c2 p8 c7 aM},I0.le I->(S4 I p1 nest c1)->(S4 I p3 p2 c2)->(RL I aM aj)->NG Q->NO Q->(∀I' ar p9 c8 bt,o=ar->I0.le I'->(RL I' bt ar)->T 52 B Q (.exit 0) I' [hO (List Int) (vS p9 ar c8) bt] [(0,vS p9 ar c8)])->J Tryz.prog 52 B (nav (bodyOf f75) [1,1,1,0,1,0]) Q I [hO (List Int) (vS p8 aj c7) aM] [(0,vS p8 aj c7),(1,vS p1 nest c1),(2,vS p3 p2 c2),(8,vI y2),(9,vI v04)]):=by
 refine tG.mutual_partial_correctness _ _ ?_ ?_
 ·intro F_spec_l2Points_l1 ih_spec_l2Points_l1 out nest p2 r N I p c cs p1 c1 p3 c2 h h1 h2;refine yM func75 λB=>wZ []<|yA<|yK [14] rfl<|zK<|yH N ?_ ?_
  ·intro hc N;refine yD<|yG 1 [] [15] rfl<|uX [] Int ?_;intro b hb;have h3:RL I [] ([]:List Int):=rfl;refine yG 3 [] [17] rfl ?_;obtain⟨aN,k0,k01⟩:=h2;have h2:SL I (vS p3 p2 c2) p2:=⟨_,k0,k01⟩;obtain⟨l,hy,N⟩:=zB N;refine sW 3 1 0 rfl rfl rfl h3 (.inl k0) k01 hy λp4 c3 au h4=>tX (zZ [0,1] (ag:=[hO Int (vS p4 l c3) au,hO (List Int) (vS p out c) cs]))<|xV 0 rfl ?_;intro I0 le hl0;have h5:=SL.of_frozen hl0 le h4;have h:=iM le h;refine uX [vS p4 l c3] (List Int) ?_;intro b1 hb1;have h6:RL I0 [vS p4 l c3] ([l]:List (List Int)):=⟨[vS p4 l c3],_,rfl,rfl,⟨_,rfl,h5⟩,rfl⟩;obtain⟨t6,az,N⟩:=zB N;refine sW 27 1 1 rfl rfl rfl h (.inr ⟨0,rfl⟩) h6 az λp5 c4 aR h7=>tX (zZ [1] (ag:=[hO (List Int) (vS p5 t6 c4) aR]))<|yQ [] [6] rfl<|xH<|zJ ?_;exact xX N (resT rfl) (zX [0] rfl (by decide)) ⟨_,_,_,rfl,rfl,h7⟩
  intro hc N;refine zT<|yY<|yG 3 [] [22,24] rfl<|bE N λx aG N=>xW rfl rfl h1 aG ?_;intro ad bq aq am;obtain⟨p6,c5,p7,c6,rfl,h8,h9⟩:=vD am;refine xM 0 aq (cLoop x p6 c5 p7 c6) (vA (cLoop x p6 c5 p7 c6)) rfl<|yG 6 [] [27] rfl ?_;obtain⟨⟨y1,y2⟩,bh,N⟩:=zB N;refine xK (zD3 x p2 _ bh h8 h9 h2) ?_;rintro aP ax v2 k2 aa - ⟨v02,v03,rfl,rfl,rfl,rfl⟩ -;have ⟨h,h1,h2⟩:=m3 aa h h1 h2;refine yQ [] [7,8] rfl<|yA<|yK [9] rfl<|wN<|qX [(0,vS p out c),(1,vS p1 nest c1),(2,vS p3 p2 c2),(8,vI y2),(9,vI y1)] ?_;obtain⟨aU,aB,aE⟩:=zB N;refine ih_spec_l2Points_l1 nest p2 y2 out y1 aU aB iR h1 h2 h nG nO ?_;intro bK ar p9 c8 bt heq1 bo h13;subst aU;refine zS<|vM [6] rfl<|zK<|xD ?_;exact xX aE (resT rfl) (zX [0] rfl (by decide)) ⟨_,_,_,rfl,rfl,h13⟩
 intro F_spec_l2Points F_spec_l2Points_l1 ih_spec_l2Points ih_spec_l2Points_l1 nest p2 y2 aj v04 o N B I0 I Q p1 c1 p3 c2 p8 c7 aM H h1 h2 h12 hg ho hx;refine yX hg ho<|yC<|yC ?_;refine vQ N [hO (List Int) (vS p8 aj c7) aM] (λt39=>[(0,vS p8 aj c7),(1,vS p1 nest c1),(2,vS p3 p2 c2),(8,vI y2),(9,vI v04),(39,.bool t39)]) (λo0 aA=>?_) ?_
 ·have H:=iS I;refine zL<|yG 4 [] [35] rfl<|wR [35] aA ?_ ?_
  ·intro aH N;exact yQ [] [39] rfl<|yZ<|zU (ct N H)
  intro aH N;exact wM [] [(39,vF)]<|yZ<|zU (ct N H)
 intro t39 aW aC aX;have ⟨h12,h1,h2,H⟩:=m4 aC h12 h1 h2 H;refine zK<|yH aX ?_ ?_
 ·intro ba N;refine zT<|yA<|yL<|zL<|yG 2 [] [42,43] rfl<|uX [] Int ?_;intro b2 hb2;have h14:RL aW [] ([]:List Int):=rfl;refine yG 4 [] [45] rfl ?_;obtain⟨bL,k02,k03⟩:=h2;have h2:SL aW (vS p3 p2 c2) p2:=⟨_,k02,k03⟩;obtain⟨l1,bu,N⟩:=zB N;refine sW 3 1 0 rfl rfl rfl h14 (.inl k02) k03 bu λaL c9 bz h15=>tX (zZ [0,1] (ag:=[hO Int (vS aL l1 c9) bz,hO (List Int) (vS p8 aj c7) aM]))<|yG 6 [] [47] rfl<|uX [vI v04] Int ?_;intro b3 hb3;have h16:RL aW [vI v04] ([v04]:List Int):=rI [v04];obtain⟨l2,bC,N⟩:=zB N;refine sW 3 1 1 rfl rfl rfl h15 (.inr ⟨0,rfl⟩) h16 bC λaF aO cs6 h17=>tX (zZ [1,2] (ag:=[hO Int (vS aF l2 aO) cs6,hO (List Int) (vS p8 aj c7) aM]))<|xV 0 rfl ?_;intro bx aI hl01;have h18:=SL.of_frozen hl01 aI h17;have ⟨h1,h2,h12,H⟩:=m4 aI h1 h2 h12 H;obtain⟨y3,hy6,N⟩:=zB N;refine qB (ih_spec_l2Points aj nest l2 _ hy6 h12 h1 h18) rfl ?_;rintro bG ax v2 k2 aY - ⟨bj,aQ,cs7,rfl,rfl,h19⟩ -;have ⟨h1,h2,H⟩:=m3 aY h1 h2 H;exact yQ [] [0] rfl<|zN<|zK<|zL<|yQ [] [9] rfl<|yV<|nX<|ih_spec_l2Points_l1 nest p2 y2 y3 (W (v04+1)) _ N H h1 h2 h19 hg ho hx
 intro ba N;exact wW<|yZ<|hx _ _ _ _ _ (zE N).symm H h12
theorem zCt:∀out nest p2 r,tG out nest p2=some r->∀{I:Imm}{p c cs p1 c1 p3 c2},(RL I cs out)->(S4 I p1 nest c1)->(S4 I p3 p2 c2)->RT 75 [vS p out c,vS p1 nest c1,vS p3 p2 c2] I [hO (List Int) (vS p out c) cs] (zBm  r):=zGH.1
def rL(list:(List zA))(ae:Int)(i:Int):Option (Out Unit (Bool)):=do
 if(decide (i<(list.length:Int))) then
  let t26<-(do
   let x<-idx list i;let y<-tR x;if(!y) then pure true
   else
    let x1<-idx list i;let y1<-nC x1;pure (decide (y1>ae))
     : Option Bool)
  if t26 then pure (.ret false)
  else rL list ae (W (i+1))
 else pure (.done ())
 partial_fixpoint
theorem zGI(list:(List zA))(ae:Int):∀(i:Int) (o:Out Unit (Bool)),rL list ae i=some o->∀{B}{I0 I:Imm}{Q p c},I0.le I->(S4 I p list c)->NG Q->NO Q->(∀I',o=(.done ())->I0.le I'->T 35 B Q (.exit 0) I' [] [(0,vS p list c)])->(∀r I' ag m',o=(.ret r)->I0.le I'->RS Tryz.prog f224 B (zW  r) I' ag m'->T 35 B Q .ret I' ag m')->J Tryz.prog 35 B (nav (bodyOf f224) [1,0,1,0]) Q I [] [(0,vS p list c),(1,vI ae),(5,vI i)]:=by
 refine rL.partial_correctness list ae _ λaJ ih i o N B I0 I Q p c H h hg ho hx hr=>yX hg ho<|yC<|yK [9] rfl<|zK<|yH N ?_ ?_
 ·intro hc N;refine zT<|yA<|yL<|yC ?_;refine vQ N [] (λt26=>[(0,vS p list c),(1,vI ae),(5,vI i),(26,.bool t26)]) (λo0 aA=>?_) ?_
  ·have H:=iS I;refine zL<|yG 2 [] [12,13] rfl ?_;obtain⟨x,hy,N⟩:=zB aA;refine xW rfl rfl h hy ?_;intro ad aN aq am;obtain⟨p1,c1,rfl,h1⟩:=yI am;refine xM 0 aq (cAff x p1 c1) (vA (cAff x p1 c1)) rfl<|bE N λy az N=>tA (fK x _ az h1) ?_;intro aP le;have ⟨h,H⟩:=m2 le h H;refine yG 7 [] [18] rfl<|wR [18] N ?_ ?_
   ·intro aH N;exact wM [] [(26,vY)]<|yZ<|zU (ct N H)
   intro aH N;refine yG 9 [] [19,20] rfl<|bE N λx1 aG N=>xW rfl rfl h aG ?_;intro ad1 bq aw ay;obtain⟨p2,c2,rfl,h3⟩:=yI ay;refine xM 0 aw (cAff x1 p2 c2) (vA (cAff x1 p2 c2)) rfl<|bE N λy1 bh N=>dC (zBV x1 _ bh h3) ?_;intro aW aa;have H:=H.trans aa;exact yQ [] [26] rfl<|yZ<|zU (ct N H)
  intro t26 I0 aC aX;have ⟨h,H⟩:=m2 aC h H;refine zK<|yH aX ?_ ?_
  ·intro ba N;exact wZ [(4,vF)]<|xH<|zV<|zJ<|zJ<|hr _ _ _ _ (zE N).symm H ⟨_,_,(resT rfl),zO,⟨_,rfl,rfl,rfl⟩⟩
  intro ba N;exact zT<|zN<|zK<|zL<|yQ [] [5] rfl<|yV<|nX<|ih (W (i+1)) _ N H h hg ho hx hr
 intro hc N;exact wW<|yZ<|hx _  (zE N).symm H
def jL(list:(List zA))(ae:Int):Option (Bool):=do
 match<-rL list ae 0 with
 | .ret r0=>pure r0
 | .done _=>
  let t4<-(do
   if(decide ((list.length:Int)>=1)) then pure (decide ((list.length:Int)<=2))
   else
    pure false
     : Option Bool)
  pure (id t4)
theorem zEE:∀list ae r,jL list ae=some r->∀{I:Imm}{p c},(S4 I p list c)->RT 224 [vS p list c,vI ae] I [] (zW  r):=by
 intro list ae r N I p c h;unfold jL at N;refine yM func224 λB=>?_;have H:=iS I;refine wZ []<|yA<|yK [5] rfl<|wN<|qX [(0,vS p list c),(1,vI ae),(5,vI 0)] ?_;obtain⟨aU,aB,aE⟩:=zB N;refine zGI list ae 0 aU aB iR h nG nO ?_ ?_
 ·intro bx  heq1 aI;subst aU;have H:=H.trans aI;refine zS<|zK<|yC ?_;refine vQ aE [] (λt4=>[(4,.bool t4)]) (λo02 ho02=>?_) ?_
  ·have H:=iS bx;refine zL<|yG 4 [] [30] rfl<|wR [30] ho02 ?_ ?_
   ·intro bD N;exact yQ [] [4] rfl<|yZ<|zU (ct N H)
   intro bD N;exact wM [] [(4,vF)]<|yZ<|zU (ct N H)
  intro t4 bG aY hMc1;refine zK<|xD ?_;obtain rfl:=zE hMc1;exact vH
 intro r0 I9 hs9 m9 aT le9 aV;subst aT;refine zV<|zJ ?_;obtain rfl:=zE aE;exact jW aV
def uD(nest:(List zG))(i:Int):Option (Out Unit (Bool)):=do
 let t12<-(do
  if(decide (i<(nest.length:Int))) then pure (decide ((nest.length:Int)<=4))
  else
   pure false
    : Option Bool)
 if t12 then
  let t32<-(do
   let x<-idx nest i;let y<-jL x.Lo i;if(!y) then pure true
   else
    let x1<-idx nest i;let y1<-jL x1.Hi i;pure (!y1)
     : Option Bool)
  if t32 then pure (.ret false)
  else uD nest (W (i+1))
 else pure (.done ())
 partial_fixpoint
theorem zEF(nest:(List zG)):∀(i:Int) (o:Out Unit (Bool)),uD nest i=some o->∀{B}{I0 I:Imm}{Q p c},I0.le I->(S4 I p nest c)->NG Q->NO Q->(∀I',o=(.done ())->I0.le I'->T 36 B Q (.exit 0) I' [] [(0,vS p nest c)])->(∀r I' ag m',o=(.ret r)->I0.le I'->RS Tryz.prog f184 B (zW  r) I' ag m'->T 36 B Q .ret I' ag m')->J Tryz.prog 36 B (nav (bodyOf f184) [1,0,1,0]) Q I [] [(0,vS p nest c),(3,vI i)]:=by
 refine uD.partial_correctness nest _ λaJ ih i o N B I0 I Q p c H h hg ho hx hr=>yX hg ho<|yC<|yC ?_;refine vQ N [] (λt12=>[(0,vS p nest c),(3,vI i),(12,.bool t12)]) (λo0 aA=>?_) ?_
 ·have H:=iS I;refine zL<|yG 5 [] [8] rfl<|wR [8] aA ?_ ?_
  ·intro hc N;exact yQ [] [12] rfl<|yZ<|zU (ct N H)
  intro hc N;exact wM [] [(12,vF)]<|yZ<|zU (ct N H)
 intro t12 I0 le aX;have ⟨h,H⟩:=m2 le h H;refine zK<|yH aX ?_ ?_
 ·intro aH N;refine zT<|yA<|yL<|yC ?_;refine vQ N [] (λt32=>[(0,vS p nest c),(3,vI i),(32,.bool t32)]) (λaU aB=>?_) ?_
  ·have H:=iS I0;refine zL<|yG 2 [] [15,16] rfl ?_;obtain⟨x,hy,N⟩:=zB aB;refine xW rfl rfl h hy ?_;intro ad aN aq am;obtain⟨p1,c1,p2,c2,rfl,h1,h2⟩:=vD am;refine yG 4 [] [18] rfl<|xM 0 aq [vS p1 x.Lo c1] (vS p1 x.Lo c1) rfl<|yG 6 [] [20] rfl<|bE N λy az N=>tA (zEE x.Lo i _ az h1) ?_;intro aW aa;have ⟨h,H⟩:=m2 aa h H;refine yG 9 [] [23] rfl<|wR [23] N ?_ ?_
   ·intro ba N;exact wM [] [(32,vY)]<|yZ<|zU (ct N H)
   intro ba N;refine yG 11 [] [24,25] rfl<|bE N λx1 aG N=>xW rfl rfl h aG ?_;intro ad1 bq aw ay;obtain⟨p3,c3,p4,c4,rfl,h4,h5⟩:=vD ay;refine yG 13 [] [27] rfl<|xM 1 aw [vS p4 x1.Hi c4] (vS p4 x1.Hi c4) rfl<|yG 15 [] [29] rfl<|bE N λy1 bh N=>tA (zEE x1.Hi i _ bh h5) ?_;intro bx aC;have H:=H.trans aC;exact yQ [] [32] rfl<|yZ<|zU (ct N H)
  intro t32 aP aI hMc1;have ⟨h,H⟩:=m2 aI h H;refine zK<|yH hMc1 ?_ ?_
  ·intro bD N;exact wZ [(2,vF)]<|xH<|zV<|zJ<|zJ<|hr _ _ _ _ (zE N).symm H ⟨_,_,(resT rfl),zO,⟨_,rfl,rfl,rfl⟩⟩
  intro bD N;exact zT<|zN<|zK<|zL<|yQ [] [3] rfl<|yV<|nX<|ih (W (i+1)) _ N H h hg ho hx hr
 intro aH N;exact wW<|yZ<|hx _  (zE N).symm H
def mQ(nest:(List zG)):Option (Bool):=do
 match<-uD nest 0 with
 | .ret r0=>pure r0
 | .done _=>
  pure (decide ((nest.length:Int)<=4))
theorem zGJ:∀nest r,mQ nest=some r->∀{I:Imm}{p c},(S4 I p nest c)->RT 184 [vS p nest c] I [] (zW  r):=by
 intro nest r N I p c h;unfold mQ at N;refine yM func184 λB=>wZ []<|yA<|yK [3] rfl<|wN<|qX [(0,vS p nest c),(3,vI 0)] ?_;obtain⟨o02,ho02,aE⟩:=zB N;refine zEF nest 0 o02 ho02 iR h nG nO ?_ ?_
 ·intro bG  heq2 aY;subst o02;refine zS<|vM [2] rfl<|zK<|xD ?_;obtain rfl:=zE aE;exact vH
 intro r0 I9 hs9 m9 aT le9 aV;subst aT;refine zV<|zJ ?_;obtain rfl:=zE aE;exact jW aV
mutual
def qM(nest:(List zG))(p1:(List Int))(most:Int):Option (Int):=do
 if((p1.length:Int)==(nest.length:Int)) then pure (id 1)
 else
  let x<-idx nest (p1.length:Int);let (y1,y2)<-kK x p1;let n01<-qV (same nest) (same p1) (same most) (same y2) (same 1) (same y1);pure (id n01)
 partial_fixpoint
def qV(nest:(List zG))(p1:(List Int))(most:Int)(y2:Int)(n0:Int)(v04:Int):Option (Int):=do
 let t35<-(do
  if(decide (v04<y2)) then pure (decide (n0<=most))
  else
   pure false
    : Option Bool)
 if t35 then
  let l<-app 8 ([]:List Int) p1;let l1<-app 8 l ([v04]:List Int);let y3<-qM (same nest) (same l1) (W (most - n0));qV (same nest) (same p1) (same most) (same y2) (W (n0+y3)) (W (v04+1))
 else pure (id n0)
 partial_fixpoint
end
theorem zHi:(∀(nest:(List zG)) (p1:(List Int)) (most:Int) r,qM nest p1 most=some r->∀{I:Imm}{p c p2 c1},(S4 I p nest c)->(S4 I p2 p1 c1)->RT 185 [vS p nest c,vS p2 p1 c1,vI most] I [] (yP  r))/\(∀(nest:(List zG)) (p1:(List Int)) (most:Int) (y2:Int) (n0:Int) (v04:Int) o,qV nest p1 most y2 n0 v04=some o->∀{B}{I0 I:Imm}{Q p c p2 c1},I0.le I->(S4 I p nest c)->(S4 I p2 p1 c1)->NG Q->NO Q->(∀I' n01,o=n01->I0.le I'->T 52 B Q (.exit 0) I' [] [(7,vI n01)])->J Tryz.prog 52 B (nav (bodyOf f185) [1,1,1,1,0,1,0]) Q I [] [(0,vS p nest c),(1,vS p2 p1 c1),(2,vI most),(7,vI n0),(9,vI y2),(10,vI v04)]):=by
 refine qM.mutual_partial_correctness _ _ ?_ ?_
 ·intro F_spec_l2Work_l1 ih_spec_l2Work_l1 nest p1 most r N I p c p2 c1 h h1;refine yM func185 λB=>wZ []<|vM [7] rfl<|yA<|yK [15] rfl<|zK<|yH N ?_ ?_
  ·intro hc N;refine yK [6] rfl<|xH<|zJ ?_;obtain rfl:=zE N;exact vH
  intro hc N;refine zT<|yY<|yG 3 [] [18,20] rfl<|bE N λx hy N=>xW rfl rfl h hy ?_;intro ad aN aq am;obtain⟨p3,c2,p4,c3,rfl,h2,h3⟩:=vD am;refine xM 0 aq (cLoop x p3 c2 p4 c3) (vA (cLoop x p3 c2 p4 c3)) rfl<|yG 6 [] [23] rfl ?_;obtain⟨⟨y1,y2⟩,az,N⟩:=zB N;refine xK (zD3 x p1 _ az h2 h3 h1) ?_;rintro I0 ax v2 k2 le - ⟨v02,v03,rfl,rfl,rfl,rfl⟩ -;have ⟨h,h1⟩:=m2 le h h1;refine yQ [] [8,9] rfl<|yA<|yK [10] rfl<|wN<|qX [(0,vS p nest c),(1,vS p2 p1 c1),(2,vI most),(7,vI 1),(9,vI y2),(10,vI y1)] ?_;obtain⟨aU,aB,aE⟩:=zB N;refine ih_spec_l2Work_l1 nest p1 most y2 1 y1 aU aB iR h h1 nG nO ?_;intro bG n01 heq1 aY;subst aU;refine zS<|vM [6] rfl<|zK<|xD ?_;obtain rfl:=zE aE;exact vH
 intro F_spec_l2Work F_spec_l2Work_l1 ih_spec_l2Work ih_spec_l2Work_l1 nest p1 most y2 n0 v04 o N B I0 I Q p c p2 c1 H h h1 hg ho hx;refine yX hg ho<|yC<|yC ?_;refine vQ N [] (λt35=>[(0,vS p nest c),(1,vS p2 p1 c1),(2,vI most),(7,vI n0),(9,vI y2),(10,vI v04),(35,.bool t35)]) (λo0 aA=>?_) ?_
 ·have H:=iS I;refine zL<|yG 4 [] [31] rfl<|wR [31] aA ?_ ?_
  ·intro aH N;exact yQ [] [35] rfl<|yZ<|zU (ct N H)
  intro aH N;exact wM [] [(35,vF)]<|yZ<|zU (ct N H)
 intro t35 aP aa aX;have ⟨h,h1,H⟩:=m3 aa h h1 H;refine zK<|yH aX ?_ ?_
 ·intro ba N;refine zT<|yA<|yL<|zL<|yG 2 [] [38,39] rfl<|uX [] Int ?_;intro b hb;have h6:RL aP [] ([]:List Int):=rfl;refine yG 4 [] [41] rfl ?_;obtain⟨bq,k0,k01⟩:=h1;have h1:SL aP (vS p2 p1 c1) p1:=⟨_,k0,k01⟩;obtain⟨l,aG,N⟩:=zB N;refine sW 3 1 0 rfl rfl rfl h6 (.inl k0) k01 aG λp5 c4 cs h7=>tX (zZ [0] (ag:=[hO Int (vS p5 l c4) cs]))<|yG 6 [] [43] rfl<|uX [vI v04] Int ?_;intro b1 hb1;have h8:RL aP [vI v04] ([v04]:List Int):=rI [v04];obtain⟨l1,bh,N⟩:=zB N;refine sW 3 1 1 rfl rfl rfl h7 (.inr ⟨0,rfl⟩) h8 bh λp6 c5 au h9=>tX (zZ [1] (ag:=[hO Int (vS p6 l1 c5) au]))<|yG 11 [] [48] rfl<|xV 0 rfl ?_;intro aW aC hl0;have h10:=SL.of_frozen hl0 aC h9;have ⟨h,h1,H⟩:=m3 aC h h1 H;obtain⟨y3,bu,N⟩:=zB N;refine xK (ih_spec_l2Work nest l1 (W (most - n0)) _ bu h h10) ?_;rintro bx ax v2 k2 aI - ⟨v05,rfl,rfl,rfl⟩ -;have ⟨h,h1,H⟩:=m3 aI h h1 H;exact yQ [] [7] rfl<|zN<|zK<|zL<|yQ [] [10] rfl<|yV<|nX<|ih_spec_l2Work_l1 nest p1 most y2 (W (n0+y3)) (W (v04+1)) _ N H h h1 hg ho hx
 intro ba N;exact wW<|yZ<|hx _ _ (zE N).symm H
theorem zI6:∀nest p1 most r,qM nest p1 most=some r->∀{I:Imm}{p c p2 c1},(S4 I p nest c)->(S4 I p2 p1 c1)->RT 185 [vS p nest c,vS p2 p1 c1,vI most] I [] (yP  r):=zHi.1
def nF(nest:(List zG)):Option ((List (List Int))×Bool):=do
 let t12<-(do
  let y<-mQ nest;if(!y) then pure true
  else
   let y1<-qM nest ([]:List Int) 1200;pure (decide (y1>1200))
    : Option Bool)
 if t12 then pure (([]:List (List Int)),false)
 else
  let y2<-tG ([]:List (List Int)) nest ([]:List Int);if(decide ((y2.length:Int)>120)) then pure (([]:List (List Int)),false)
  else pure (y2,true)
theorem zFZ:∀nest r,nF nest=some r->∀{I:Imm}{p c},(S4 I p nest c)->RT 145 [vS p nest c] I [] (zBJ  r):=by
 intro nest r N I p c h;unfold nF at N;refine yM func145 λB=>?_;have H:=iS I;refine wZ []<|yA<|yC ?_;refine vQ N [] (λt12=>[(0,vS p nest c),(12,.bool t12)]) (λo0 aA=>?_) ?_
 ·have H:=iS I;refine zL<|yG 1 [] [5] rfl ?_;obtain⟨y,hy,N⟩:=zB aA;refine tA (zGJ nest _ hy h) ?_;intro aP le;have ⟨h,H⟩:=m2 le h H;refine yG 4 [] [8] rfl<|wR [8] N ?_ ?_
  ·intro hc N;exact wM [] [(12,vY)]<|yZ<|zU (ct N H)
  intro hc N;refine yG 5 [] [9] rfl<|bE N λy1 az N=>dC (zI6 nest ([]:List Int) 1200 _ az h (SL.nil _)) ?_;intro aW aa;have H:=H.trans aa;exact yQ [] [12] rfl<|yZ<|zU (ct N H)
 intro t12 I0 aC aX;have h:=h.mono aC;refine zK<|yH aX ?_ ?_
 ·intro aH N;refine yD<|uX [] (List Int) ?_;intro b hb;have h3:RL I0 [] ([]:List (List Int)):=rfl;refine yQ [] [2,3] rfl<|xH<|zJ<|xB 0 rfl ?_;intro bx aI hl0;have h4:=SL.of_frozen hl0 aI h3;exact xX N (resU rfl rfl) zO ⟨_,_,rfl,rfl,h4,rfl⟩
 intro aH N;refine zT<|yY<|uX [] (List Int) ?_;intro b1 hb1;have h5:RL I0 [] ([]:List (List Int)):=rfl;refine yG 2 [] [15] rfl<|bE N λy2 aG N=>qB (zCt ([]:List (List Int)) nest ([]:List Int) _ aG h5 h (SL.nil _)) rfl ?_;rintro bG ax v2 k2 aY - ⟨p1,c1,cs,rfl,rfl,h6⟩ -;refine yQ [] [4] rfl<|yA<|yK [19] rfl<|zK<|yH N ?_ ?_
 ·intro ba N;refine yD<|uX [] (List Int) ?_;intro b2 hb2;have h7:RL bG [] ([]:List (List Int)):=rfl;refine yQ [] [2,3] rfl<|xH<|zJ<|xB 0 rfl ?_;intro bK bo hl01;have h8:=SL.of_frozen hl01 bo h7;exact xX N (resU rfl rfl) zO ⟨_,_,rfl,rfl,h8,rfl⟩
 intro ba N;refine zT<|vM [2,3] rfl<|xH<|xB 0 rfl ?_;intro I06 bv hl02;have h9:=SL.of_frozen hl02 bv h6;exact xX N (resU rfl rfl) zO ⟨_,_,rfl,rfl,h9,rfl⟩
def zCM(r:(List zM)):KT:=λkk I' ag v=>
 ∃a0 c0 s0,ag=[.osl (.slice a0 r.length c0) (Rp.sz zM) s0]/\v=tupV [(.slice a0 r.length c0)]/\RepL (Rp.rep I') (Rp.sz zM) s0 r
mutual
def qI(out:(List zM))(e0:zH):Option ((List zM)):=do
 let aj<-(do
  if(e0.Kind==3) then
   let y<-tZ e0.Read;let ar<-app 40 out ([y]:List zM);pure (id ar)
  else
   pure (id out)
    : Option (List zM))
 let bw<-vV (same e0) (same aj) (same 0);pure (id bw)
 partial_fixpoint
def vV(e0:zH)(bi:List zM)(i:Int):Option (List zM):=do
 if(decide (i<(e0.Kids.length:Int))) then
  let x<-idx e0.Kids i;let y1<-qI (same bi) (same x);vV (same e0) (same y1) (W (i+1))
 else pure (id bi)
 partial_fixpoint
end
theorem zHA:(∀(out:(List zM)) (e0:zH) r,qI out e0=some r->∀{I:Imm}{p c cs p1 c1 p2 c2 p3 c3},(RL I cs out)->(S4 I p1 e0.Index.Coefs c1)->(S4 I p2 e0.Read.Subs c2)->(S4 I p3 e0.Kids c3)->RT 189 [vS p out c,vA (cExpr e0 p1 c1 p2 c2 p3 c3)] I [hO zM (vS p out c) cs] (zCM  r))/\(∀(e0:zH) (bi:List zM) (i:Int) o,vV e0 bi i=some o->∀{B}{I0 I:Imm}{Q p1 c1 p2 c2 p3 c3}{b}{p7 c7 bt},I0.le I->(S4 I p1 e0.Index.Coefs c1)->(S4 I p2 e0.Read.Subs c2)->(S4 I p3 e0.Kids c3)->(RL I bt bi)->NG Q->NO Q->(∀I' bw p8 c8 bz,o=bw->I0.le I'->(RL I' bz bw)->T 30 B Q (.exit 0) I' [hO zM (vS p8 bw c8) bz] [(0,vS p8 bw c8)])->J Tryz.prog 30 B (nav (bodyOf f189) [1,1,0,1,0]) Q I [hB b (cExpr e0 p1 c1 p2 c2 p3 c3),hO zM (vS p7 bi c7) bt] [(0,vS p7 bi c7),(3,vP b 0),(5,vI i)]):=by
 refine qI.mutual_partial_correctness _ _ ?_ ?_
 ·intro F_spec_l3Reads_l1 ih_spec_l3Reads_l1 out e0 r N I p c cs p1 c1 p2 c2 p3 c3 h h1 h2 h3;refine yM func189 λB=>?_;have H:=iS I;refine yD<|vC (cExpr e0 p1 c1 p2 c2 p3 c3) ?_;intro b hb;refine wM [] []<|yA<|yD<|yQ [0] [8] rfl<|zK ?_;obtain⟨o0,aA,aX⟩:=zB N;refine nP (λI' ag m'=>∃(aj:List zM) (p4:Option Addr) (c4:Nat) (au:List Value),o0=aj/\I.le I'/\(RL I' au aj)/\ag=[hB b (cExpr e0 p1 c1 p2 c2 p3 c3),hO zM (vS p4 aj c4) au]/\m'=[(0,vS p4 aj c4),(3,vP b 0)]) ?_ ?_
  ·have H:=iS I;refine yH aA ?_ ?_
   ·intro hc N;refine zL<|uW 3 [0] [(9,vS p out c),(11,vA (cAccess e0.Read p2 c2))]<|bE N λy hy N=>xK (dU e0.Read _ hy h2) ?_;rintro aP ax v2 k2 le - ⟨p5,c5,aR,rfl,rfl,h5⟩ -;have ⟨h,H⟩:=m2 le h H;refine xV 0 rfl ?_;intro aW aa hl0;have h6:=SL.of_frozen hl0 aa h5;have ⟨h,H⟩:=m2 aa h H;refine uX (cAccess y p5 c5) zM ?_;intro b1 hb1;have h7:RL aW (cAccess y p5 c5) ([y]:List zM):=⟨(cAccess y p5 c5),_,rfl,rfl,(oG ⟨_,rfl,h6⟩),rfl⟩;obtain⟨ar,az,N⟩:=zB N;exact sW 93 2 2 rfl rfl rfl h (.inr ⟨0,rfl⟩) h7 az λp6 c6 aM h8=>tX (zZ [1,2] (ag:=[hB b (cExpr e0 p1 c1 p2 c2 p3 c3),hO zM (vS p6 ar c6) aM]))<|yQ [] [0] rfl<|yZ<|zU ⟨_,_,_,_,(zE N).symm,H,h8,rfl,rfl⟩
   intro hc N;exact zT<|yZ<|zU ⟨_,_,_,_,(zE N).symm,H,h,rfl,rfl⟩
  rintro I0 ax m2 ⟨aj,p4,c4,au,heq,aC,h4,rfl,rfl⟩;subst o0;have ⟨h1,h2,h3⟩:=m3 aC h1 h2 h3;refine yA<|yK [5] rfl<|wN<|qX [(0,vS p4 aj c4),(3,vP b 0),(5,vI 0)] ?_;obtain⟨aU,aB,aE⟩:=zB aX;refine ih_spec_l3Reads_l1 e0 aj 0 aU aB iR h1 h2 h3 h4 nG nO ?_;intro bG bw p8 c8 bz heq1 aY h10;subst aU;refine zS<|vM [4] rfl<|zK<|xD ?_;exact xX aE (resT rfl) (zX [0] rfl (by decide)) ⟨_,_,_,rfl,rfl,h10⟩
 intro F_spec_l3Reads F_spec_l3Reads_l1 ih_spec_l3Reads ih_spec_l3Reads_l1 e0 bi i o N B I0 I Q p1 c1 p2 c2 p3 c3 b p7 c7 bt H h1 h2 h3 h9 hg ho hx;refine yX hg ho<|yC<|yD<|yQ [0] [19] rfl<|zK<|yH N ?_ ?_
 ·intro aH N;refine zT<|yA<|yL<|zL<|yG 4 [0] [22,24,25] rfl<|bE N λx aG N=>xW rfl rfl h3 aG ?_;intro ad aN aq am;obtain⟨p9,c9,aL,aO,aF,aQ,rfl,h11,h12,h13⟩:=wT am;refine xM 0 aq (cExpr x p9 c9 aL aO aF aQ) (vA (cExpr x p9 c9 aL aO aF aQ)) rfl<|tX (zZ [1,0] (ag:=[hO zM (vS p7 bi c7) bt,hB b (cExpr e0 p1 c1 p2 c2 p3 c3)]))<|bE N λy1 bh N=>qB (ih_spec_l3Reads bi x _ bh h9 h11 h12 h13) rfl ?_;rintro bx ax v2 k2 aI - ⟨bj,aZ,cs6,rfl,rfl,h14⟩ -;have ⟨h1,h2,h3,H⟩:=m4 aI h1 h2 h3 H;exact yQ [] [0] rfl<|zN<|zK<|zL<|yQ [] [5] rfl<|yV<|qZ (zX [1,0] rfl (by decide))<|nX<|ih_spec_l3Reads_l1 e0 y1 (W (i+1)) _ N H h1 h2 h3 h14 hg ho hx
 intro aH N;exact wW<|wK (zX [1] rfl (by decide))<|yZ<|hx _ _ _ _ _ (zE N).symm H h9
theorem zHj:∀out e0 r,qI out e0=some r->∀{I:Imm}{p c cs p1 c1 p2 c2 p3 c3},(RL I cs out)->(S4 I p1 e0.Index.Coefs c1)->(S4 I p2 e0.Read.Subs c2)->(S4 I p3 e0.Kids c3)->RT 189 [vS p out c,vA (cExpr e0 p1 c1 p2 c2 p3 c3)] I [hO zM (vS p out c) cs] (zCM  r):=zHA.1
def rM(a0:zD)(n0:Int)(i:Int):Option (Int):=do
 if(decide (i<(a0.Dims.length:Int))) then
  let x<-idx a0.Dims i;rM a0 (W (n0*x)) (W (i+1))
 else pure (id n0)
 partial_fixpoint
theorem zGK(a0:zD):∀(n0:Int) (i:Int) (o:Int),rM a0 n0 i=some o->∀{B}{I0 I:Imm}{Q p c}{b},I0.le I->(S4 I p a0.Dims c)->NG Q->NO Q->(∀I' n01,o=n01->I0.le I'->T 20 B Q (.exit 0) I' [] [(3,vI n01)])->J Tryz.prog 20 B (nav (bodyOf f229) [1,1,0,1,0]) Q I [hB b (cArr a0 p c)] [(1,vP b 0),(3,vI n0),(4,vI i)]:=by
 refine rM.partial_correctness a0 _ λaJ ih n0 i o N B I0 I Q p c b H h hg ho hx=>yX hg ho<|yC<|yD<|yQ [0] [9] rfl<|zK<|yH N ?_ ?_
 ·intro hc N;refine zT<|yA<|yL<|zL<|yG 4 [0] [12,14,15] rfl<|bE N λx hy N=>xW rfl rfl h hy ?_;intro ad aN aq am;obtain rfl:=am;exact xM 0 aq [vI x] (vI x) rfl<|yQ [] [3] rfl<|zN<|zK<|zL<|yQ [] [4] rfl<|yV<|nX<|ih (W (n0*x)) (W (i+1)) _ N H h hg ho hx
 intro hc N;exact wW<|wK zO<|yZ<|hx _ _ (zE N).symm H
def fE(a0:zD):Option (Int):=do
 let n01<-rM a0 1 0;pure (id n01)
theorem zI7:∀a0 r,fE a0=some r->∀{I:Imm}{p c},(S4 I p a0.Dims c)->RT 229 [vA (cArr a0 p c)] I [] (yP  r):=by
 intro a0 r N I p c h;unfold fE at N;refine yM func229 λB=>yD<|vC (cArr a0 p c) ?_;intro b hb;refine wM [] []<|vM [3] rfl<|yA<|yK [4] rfl<|wN<|qX [(1,vP b 0),(3,vI 1),(4,vI 0)] ?_;obtain⟨o0,aA,aE⟩:=zB N;refine zGK a0 1 0 o0 aA iR h nG nO ?_;intro I0 n01 heq le;subst o0;refine zS<|vM [2] rfl<|zK<|xD ?_;obtain rfl:=zE aE;exact vH
def sG(list:(List zD))(a0:zM)(ah:(List Int))(i:Int)(n0:Int)(k0:Int):Option (Out Int (Int)):=do
 if(decide (k0<(a0.Subs.length:Int))) then
  let x2<-idx list i;if((a0.Subs.length:Int) != (x2.Dims.length:Int)) then pure (.ret (-1))
  else
   let x3<-idx a0.Subs k0;let y1<-pT x3 ah;let t70<-(do
    if(decide (y1<0)) then pure true
    else
     let x4<-idx list i;let x5<-idx x4.Dims k0;pure (decide (y1>=x5))
      : Option Bool)
   if t70 then pure (.ret (-1))
   else
    let x6<-idx list i;let x7<-idx x6.Dims k0;sG list a0 ah i (W ((W (n0*x7))+y1)) (W (k0+1))
 else pure (.done n0)
 partial_fixpoint
theorem zGL(list:(List zD))(a0:zM)(ah:(List Int))(i:Int):∀(n0:Int) (k0:Int) (o:Out Int (Int)),sG list a0 ah i n0 k0=some o->∀{B}{I0 I:Imm}{Q}{base:Int}{p c p1 c1 p2 c2}{b},I0.le I->(S4 I p list c)->(S4 I p2 ah c2)->(S4 I p1 a0.Subs c1)->NG Q->NO Q->(∀I' n01,o=(.done n01)->I0.le I'->T 86 B Q (.exit 2) I' [] [(7,vI base),(9,vI n01)])->(∀r I' ag m',o=(.ret r)->I0.le I'->RS Tryz.prog f190 B (yP  r) I' ag m'->T 86 B Q .ret I' ag m')->J Tryz.prog 86 B (nav (bodyOf f190) [1,1,0,1,0,0,1,0,0,1,1,0,1,0]) Q I [hB b (cAccess a0 p1 c1)] [(0,vS p list c),(2,vS p2 ah c2),(4,vP b 0),(7,vI base),(8,vI i),(9,vI n0),(10,vI k0)]:=by
 refine sG.partial_correctness list a0 ah i _ λaJ ih n0 k0 o N B I0 I Q base p c p1 c1 p2 c2 b H h h2 h1 hg ho hx hr=>yX hg ho<|yC<|yD<|yQ [0] [37] rfl<|zK<|yH N ?_ ?_
 ·intro ba N;refine zT<|yA<|yL<|yC<|yC<|zA5 (by kernel_rfl) (by kernel_rfl)<|zB2 5 [0] [42,43,44] rfl<|bE N λx2 bh N=>zDk rfl rfl h bh ?_;intro ad2 bL bk br;obtain⟨p5,c5,rfl,h6⟩:=wH br;refine zB2 7 [] [46] rfl<|zC5 1 bk [vS p5 x2.Dims c5] (vS p5 x2.Dims c5) rfl<|zK5 [] [49] rfl<|zK<|yH N ?_ ?_
  ·intro bD N;exact yK [6] rfl<|xH<|zJ<|zV<|zJ<|zJ<|hr _ _ _ _ (zE N).symm H ⟨_,_,(resT rfl),zO,⟨_,rfl,rfl,rfl⟩⟩
  intro bD N;refine zT<|yY<|yG 3 [0] [51,52] rfl<|bE N λx3 bu N=>xW rfl rfl h1 bu ?_;intro ad3 ccs3 hat3 bB;obtain⟨p6,c6,rfl,h7⟩:=yI bB;refine xM 0 hat3 (cAff x3 p6 c6) (vA (cAff x3 p6 c6)) rfl<|yG 6 [] [55] rfl<|bE N λy1 bC N=>dC (dZ x3 ah _ bC h7 h2) ?_;intro aP aa;have ⟨h,h2,h1,H⟩:=m4 aa h h2 h1 H;refine yQ [] [11] rfl<|yA<|yC ?_;refine vQ N [hB b (cAccess a0 p1 c1)] (λt70=>[(0,vS p list c),(2,vS p2 ah c2),(4,vP b 0),(7,vI base),(8,vI i),(9,vI n0),(10,vI k0),(11,vI y1),(70,.bool t70)]) (λo0 aA=>?_) ?_
  ·have H:=iS aP;refine zL<|yG 3 [] [59] rfl<|wR [59] aA ?_ ?_
   ·intro bJ N;exact wM [] [(70,vY)]<|yZ<|zU (ct N H)
   intro bJ N;refine yG 6 [] [60,61,62] rfl<|bE N λx4 hy6 N=>xW rfl rfl h hy6 ?_;intro ad4 ccs4 hat4 hrep4;obtain⟨p7,c7,rfl,h9⟩:=wH hrep4;refine yG 8 [] [64] rfl<|xM 1 hat4 [vS p7 x4.Dims c7] (vS p7 x4.Dims c7) rfl<|yG 10 [] [66] rfl<|bE N λx5 hy7 N=>xW rfl rfl h9 hy7 ?_;intro ad5 ccs5 hat5 hrep5;obtain rfl:=hrep5;exact xM 0 hat5 [vI x5] (vI x5) rfl<|yQ [] [70] rfl<|yZ<|zU (ct N H)
  intro t70 aW aC aX;have ⟨h,h2,h1,H⟩:=m4 aC h h2 h1 H;refine zK<|yH aX ?_ ?_
  ·intro hc5 N;exact yK [6] rfl<|xH<|zJ<|zV<|zJ<|zJ<|hr _ _ _ _ (zE N).symm H ⟨_,_,(resT rfl),zO,⟨_,rfl,rfl,rfl⟩⟩
  intro hc5 N;refine zT<|zK<|zL<|yG 3 [] [71,72,73] rfl<|bE N λx6 hy8 N=>xW rfl rfl h hy8 ?_;intro ad6 ccs6 hat6 hrep6;obtain⟨p8,c8,rfl,h10⟩:=wH hrep6;refine yG 5 [] [75] rfl<|xM 1 hat6 [vS p8 x6.Dims c8] (vS p8 x6.Dims c8) rfl<|yG 7 [] [77] rfl<|bE N λx7 hy9 N=>xW rfl rfl h10 hy9 ?_;intro ad7 ccs7 hat7 hrep7;obtain rfl:=hrep7;exact xM 0 hat7 [vI x7] (vI x7) rfl<|yQ [] [9] rfl<|zN<|zK<|zL<|yQ [] [10] rfl<|yV<|nX<|ih (W ((W (n0*x7))+y1)) (W (k0+1)) _ N H h h2 h1 hg ho hx hr
 intro ba N;exact wW<|wK zO<|yZ<|hx _ _ (zE N).symm H
def sH(list:(List zD))(a0:zM)(ah:(List Int))(base:Int)(i:Int):Option (Out Unit (Int)):=do
 if(decide (i<(list.length:Int))) then
  let x<-idx list i;if(!(x.Name.l==a0.Array.l)) then
   let x1<-idx list i;let y<-fE x1;sH list a0 ah (W (base+y)) (W (i+1))
  else
   match<-sG list a0 ah i 0 0 with
   | .ret r0=>pure (.ret r0)
   | .done n01=>
    pure (.ret (W (base+n01)))
 else pure (.done ())
 partial_fixpoint
theorem zGM(list:(List zD))(a0:zM)(ah:(List Int)):∀(base:Int) (i:Int) (o:Out Unit (Int)),sH list a0 ah base i=some o->∀{B}{I0 I:Imm}{Q p c p1 c1 p2 c2}{b},I0.le I->(S4 I p list c)->(S4 I p2 ah c2)->(S4 I p1 a0.Subs c1)->NG Q->NO Q->(∀I',o=(.done ())->I0.le I'->T 86 B Q (.exit 0) I' [] [])->(∀r I' ag m',o=(.ret r)->I0.le I'->RS Tryz.prog f190 B (yP  r) I' ag m'->T 86 B Q .ret I' ag m')->J Tryz.prog 86 B (nav (bodyOf f190) [1,1,0,1,0]) Q I [hB b (cAccess a0 p1 c1)] [(0,vS p list c),(2,vS p2 ah c2),(4,vP b 0),(7,vI base),(8,vI i)]:=by
 refine sH.partial_correctness list a0 ah _ λaJ ih base i o N B I0 I Q p c p1 c1 p2 c2 b H h h2 h1 hg ho hx hr=>yX hg ho<|yC<|yK [15] rfl<|zK<|yH N ?_ ?_
 ·intro hc N;refine zT<|yA<|yL<|yC<|yC<|zA5 (by kernel_rfl) (by kernel_rfl)<|zB2 2 [] [18,19] rfl<|bE N λx hy N=>zDk rfl rfl h hy ?_;intro ad aN aq am;obtain⟨p3,c3,rfl,h3⟩:=wH am;refine zB2 4 [] [21] rfl<|zC5 0 aq [vT x.Name.l] (vT x.Name.l) rfl<|zK5 [0] [25] rfl<|zK<|yH N ?_ ?_
  ·intro aH N;refine yD<|yG 3 [] [26,27,28] rfl<|bE N λx1 az N=>xW rfl rfl h az ?_;intro ad1 bq aw ay;obtain⟨p4,c4,rfl,h4⟩:=wH ay;refine xM 0 aw (cArr x1 p4 c4) (vA (cArr x1 p4 c4)) rfl<|bE N λy aG N=>dC (zI7 x1 _ aG h4) ?_;intro I0 le;have ⟨h,h2,h1,H⟩:=m4 le h h2 h1 H;exact yQ [] [7] rfl<|zK<|zIH<|dG<|zS<|zK<|zL<|yQ [] [8] rfl<|yV<|nX<|ih (W (base+y)) (W (i+1)) _ N H h h2 h1 hg ho hx hr
  intro aH N;refine zT<|vM [9] rfl<|yA<|yK [10] rfl<|wN<|qX [(0,vS p list c),(2,vS p2 ah c2),(4,vP b 0),(7,vI base),(8,vI i),(9,vI 0),(10,vI 0)] ?_;obtain⟨aU,aB,aE⟩:=zB N;refine zGL list a0 ah i 0 0 aU aB iR h h2 h1 (λ_ _ _ h=>hg _ _ _ h) (λ_ _ h=>ho _ _ h) ?_ ?_
  ·intro bx n01 heq1 aI;subst aU;have H:=H.trans aI;exact zS<|vM [6] rfl<|xH<|zV<|zJ<|zJ<|hr _ _ _ _ (zE aE).symm H ⟨_,_,(resT rfl),zO,⟨_,rfl,rfl,rfl⟩⟩
  intro r0 I9 hs9 m9 aT le9 aV;subst aT;exact zV<|zJ<|zV<|zJ<|zJ<|hr _ _ _ _ (zE aE).symm (H.trans le9) aV
 intro hc N;exact wW<|wK zO<|yZ<|hx _  (zE N).symm H
def jM(list:(List zD))(a0:zM)(ah:(List Int)):Option (Int):=do
 match<-sH list a0 ah 0 0 with
 | .ret r0=>pure r0
 | .done _=>
  pure (-1)
theorem zEG:∀list a0 ah r,jM list a0 ah=some r->∀{I:Imm}{p c p1 c1 p2 c2},(S4 I p list c)->(S4 I p1 a0.Subs c1)->(S4 I p2 ah c2)->RT 190 [vS p list c,vA (cAccess a0 p1 c1),vS p2 ah c2] I [] (yP  r):=by
 intro list a0 ah r N I p c p1 c1 p2 c2 h h1 h2;unfold jM at N;refine yM func190 λB=>yD<|vC (cAccess a0 p1 c1) ?_;intro b hb;refine wM [] []<|vM [7] rfl<|yA<|yK [8] rfl<|wN<|qX [(0,vS p list c),(2,vS p2 ah c2),(4,vP b 0),(7,vI 0),(8,vI 0)] ?_;obtain⟨o02,ho02,hMl1⟩:=zB N;refine zGM list a0 ah 0 0 o02 ho02 iR h h2 h1 nG nO ?_ ?_
 ·intro bG  heq2 aY;subst o02;refine zS<|vM [6] rfl<|zK<|xD ?_;obtain rfl:=zE hMl1;exact vH
 intro r0 I9 hs9 m9 aT le9 aV;subst aT;refine zV<|zJ ?_;obtain rfl:=zE hMl1;exact jW aV
def zCN(r:(List Int)×Int×Bool):KT:=λkk I' ag v=>
 ∃v0 v1 v2,ag=[]/\v=tupV [v0,v1,v2]/\SL I' v0 r.1/\v1=.int .i64 r.2.1/\v2=.bool r.2.2
def sU(list:(List zD))(ah:(List Int))(y:(List zM))(out:List Int)(i:Int):Option (Out (List Int) ((List Int)×Int×Bool)):=do
 if(decide (i<(y.length:Int))) then
  let x<-idx y i;let y1<-jM list x ah;if(decide (y1<0)) then pure (.ret (([]:List Int),0,false))
  else
   let ar<-app 8 out ([y1]:List Int);sU list ah y ar (W (i+1))
 else pure (.done out)
 partial_fixpoint
theorem zF0(list:(List zD))(ah:(List Int))(y:(List zM)):∀(out:List Int) (i:Int) (o:Out (List Int) ((List Int)×Int×Bool)),sU list ah y out i=some o->∀{B}{I0 I:Imm}{Q}{s:zI}{p c p1 c1 p2 c2 p3 c3 p4 c4 p5 c5}{b}{p6 c6 cs p7 c7 au},I0.le I->(S4 I p list c)->(S4 I p5 ah c5)->(RL I cs y)->(S4 I p1 s.Write.Subs c1)->(S4 I p2 s.Value.Index.Coefs c2)->(S4 I p3 s.Value.Read.Subs c3)->(S4 I p4 s.Value.Kids c4)->(RL I au out)->NG Q->NO Q->(∀I' aj p8 c8 aR,o=(.done aj)->I0.le I'->(RL I' aR aj)->T 49 B Q (.exit 0) I' [hO Int (vS p8 aj c8) aR,hB b (cStmt s p1 c1 p2 c2 p3 c3 p4 c4)] [(0,vS p list c),(2,vS p5 ah c5),(4,vP b 0),(9,vS p8 aj c8)])->(∀r I' ag m',o=(.ret r)->I0.le I'->RS Tryz.prog f147 B (zCN  r) I' ag m'->T 49 B Q .ret I' ag m')->J Tryz.prog 49 B (nav (bodyOf f147) [1,1,1,0,1,0]) Q I [hO zM (vS p6 y c6) cs,hO Int (vS p7 out c7) au,hB b (cStmt s p1 c1 p2 c2 p3 c3 p4 c4)] [(0,vS p list c),(2,vS p5 ah c5),(4,vP b 0),(9,vS p7 out c7),(10,vS p6 y c6),(11,vI i)]:=by
 refine sU.partial_correctness list ah y _ λaJ ih out i o N B I0 I Q s p c p1 c1 p2 c2 p3 c3 p4 c4 p5 c5 b p6 c6 cs p7 c7 au H h h5 h8 h1 h2 h3 h4 h9 hg ho hx hr=>yX hg ho<|yC<|yK [22] rfl<|zK<|yH N ?_ ?_
 ·intro hc N;refine zT<|yA<|yL<|yD<|yG 3 [] [25,26,27] rfl<|bE N λx az N=>gJ 0 rfl rfl rfl h8 az ?_;intro ad aN aq bI am;obtain⟨p9,c9,rfl,h11⟩:=rF am;refine zCU 0 0 aq bI (cAccess x p9 c9) (vA (cAccess x p9 c9)) rfl rfl<|yG 6 [] [30] rfl<|bE N λy1 aG N=>dC (zEG list x ah _ aG h h11 h5) ?_;intro aP aa;have ⟨h,h5,h9,h8,h1,h2⟩:=m6 aa h h5 h9 h8 h1 h2;have ⟨h3,h4,H⟩:=m3 aa h3 h4 H;refine yQ [] [12] rfl<|yA<|yK [33] rfl<|zK<|yH N ?_ ?_
  ·intro aH N;refine yD<|uX [] Int ?_;intro b3 hb3;have h13:RL aP [] ([]:List Int):=rfl;refine yQ [] [6,7,8] rfl<|xH<|zJ<|zV<|zJ<|zJ<|xB 0 rfl ?_;intro aW aC hl0;have h14:=SL.of_frozen hl0 aC h13;have H:=H.trans aC;exact hr _ _ _ _ (zE N).symm H ⟨_,_,(.tmp rfl (resU rfl rfl)),zO,⟨_,_,_,rfl,rfl,h14,rfl,rfl⟩⟩
  intro aH N;refine zT<|zK<|zL<|yG 2 [] [35,36] rfl<|uX [vI y1] Int ?_;intro b4 hb4;have h15:RL aP [vI y1] ([y1]:List Int):=rI [y1];obtain⟨ar,bh,N⟩:=zB N;exact sW 3 1 2 rfl rfl rfl h9 (.inr ⟨0,rfl⟩) h15 bh λaL aO aM h16=>tX (zZ [1,2,3] (ag:=[hO zM (vS p6 y c6) cs,hO Int (vS aL ar aO) aM,hB b (cStmt s p1 c1 p2 c2 p3 c3 p4 c4)]))<|yQ [] [9] rfl<|zN<|zK<|zL<|yQ [] [11] rfl<|yV<|nX<|ih ar (W (i+1)) _ N H h h5 h8 h1 h2 h3 h4 h16 hg ho hx hr
 intro hc N;exact wW<|wK (zX [1,2] rfl (by decide))<|yZ<|hx _ _ _ _ _ (zE N).symm H h9
def kL(list:(List zD))(s:zI)(ah:(List Int)):Option ((List Int)×Int×Bool):=do
 let y<-qI ([]:List zM) s.Value
 match<-sU list ah y ([]:List Int) 0 with
 | .ret r0=>pure r0
 | .done aj=>
  let y2<-jM list s.Write ah;if(decide (y2<0)) then pure (([]:List Int),0,false)
  else pure (aj,y2,true)
theorem zD4:∀list s ah r,kL list s ah=some r->∀{I:Imm}{p c p1 c1 p2 c2 p3 c3 p4 c4 p5 c5},(S4 I p list c)->(S4 I p1 s.Write.Subs c1)->(S4 I p2 s.Value.Index.Coefs c2)->(S4 I p3 s.Value.Read.Subs c3)->(S4 I p4 s.Value.Kids c4)->(S4 I p5 ah c5)->RT 147 [vS p list c,vA (cStmt s p1 c1 p2 c2 p3 c3 p4 c4),vS p5 ah c5] I [] (zCN  r):=by
 intro list s ah r N I p c p1 c1 p2 c2 p3 c3 p4 c4 p5 c5 h h1 h2 h3 h4 h5;unfold kL at N;refine yM func147 λB=>yD<|vC (cStmt s p1 c1 p2 c2 p3 c3 p4 c4) ?_;intro b hb;refine wM [] []<|yY<|uX [] Int ?_;intro b1 hb1;have h6:RL I [] ([]:List Int):=rfl;refine yQ [] [9] rfl<|yY<|uX [] zM ?_;intro b2 hb2;have h7:RL I [] ([]:List zM):=rfl;refine uW 3 [2] [(17,vA (cExpr s.Value p2 c2 p3 c3 p4 c4))]<|bE N λy hy N=>qB (zHj ([]:List zM) s.Value _ hy h7 h2 h3 h4) rfl ?_;rintro I0 ax v2 k2 le - ⟨p6,c6,cs,rfl,rfl,h8⟩ -;have ⟨h,h5,h6,h1,h2,h3⟩:=m6 le h h5 h6 h1 h2 h3;have h4:=h4.mono le;refine yQ [] [10] rfl<|yA<|yK [11] rfl<|wN<|qX [(0,vS p list c),(2,vS p5 ah c5),(4,vP b 0),(9,vS (some ⟨b1,0,none⟩) ([]:List Int) 0),(10,vS p6 y c6),(11,vI 0)] ?_;obtain⟨o0,aA,aE⟩:=zB N;refine zF0 list ah y ([]:List Int) 0 o0 aA iR h h5 h8 h1 h2 h3 h4 h6 nG nO ?_ ?_
 ·intro bx aj p8 c8 aR heq aI h10;subst o0;have ⟨h,h5,h1⟩:=m3 aI h h5 h1;refine zS<|yY<|uW 4 [1] [(39,vS p list c),(41,vA (cAccess s.Write p1 c1)),(42,vS p5 ah c5)] ?_;obtain⟨y2,bu,N⟩:=zB aE;refine dC (zEG list s.Write ah _ bu h h1 h5) ?_;intro bG aY;have h10:=iM aY h10;refine yQ [] [13] rfl<|yA<|yK [45] rfl<|zK<|yH N ?_ ?_
  ·intro ba N;refine yD<|uX [] Int ?_;intro b5 hb5;have h18:RL bG [] ([]:List Int):=rfl;refine yQ [] [6,7,8] rfl<|xH<|zJ<|xB 0 rfl ?_;intro bK bo hl01;have h19:=SL.of_frozen hl01 bo h18;exact xX N (.tmp rfl (resU rfl rfl)) zO ⟨_,_,_,rfl,rfl,h19,rfl,rfl⟩
  intro ba N;refine zT<|vM [6,7,8] rfl<|xH<|xB 0 rfl ?_;intro I06 bv hl02;have h20:=SL.of_frozen hl02 bv h10;exact xX N (.tmp rfl (resU rfl rfl)) zO ⟨_,_,_,rfl,rfl,h20,rfl,rfl⟩
 intro r0 I9 hs9 m9 aT le9 aV;subst aT;refine zV<|zJ ?_;obtain rfl:=zE aE;exact jW aV
def sV(p:(List Int))(i:Int):Option (Out Unit (Bool)):=do
 if(decide (i<(p.length:Int))) then
  let x<-idx p i;let y<-tF x 9999;if(!y) then pure (.ret false)
  else sV p (W (i+1))
 else pure (.done ())
 partial_fixpoint
theorem zF1(p:(List Int)):∀(i:Int) (o:Out Unit (Bool)),sV p i=some o->∀{B}{I0 I:Imm}{Q p1 c},I0.le I->(S4 I p1 p c)->NG Q->NO Q->(∀I',o=(.done ())->I0.le I'->T 19 B Q (.exit 0) I' [] [(0,vS p1 p c)])->(∀r I' ag m',o=(.ret r)->I0.le I'->RS Tryz.prog f148 B (zW  r) I' ag m'->T 19 B Q .ret I' ag m')->J Tryz.prog 19 B (nav (bodyOf f148) [1,0,1,0]) Q I [] [(0,vS p1 p c),(3,vI i)]:=by
 refine sV.partial_correctness p _ λaJ ih i o N B I0 I Q p1 c H h hg ho hx hr=>yX hg ho<|yC<|yK [7] rfl<|zK<|yH N ?_ ?_
 ·intro hc N;refine zT<|yA<|yL<|yD<|yG 2 [] [10,11] rfl<|bE N λx hy N=>xW rfl rfl h hy ?_;intro ad aN aq am;obtain rfl:=am;refine xM 0 aq [vI x] (vI x) rfl<|bE N λy az N=>tA (zAy x 9999 _ az ) ?_;intro I0 le;have ⟨h,H⟩:=m2 le h H;refine yQ [] [15] rfl<|zK<|yH N ?_ ?_
  ·intro aH N;exact wZ [(2,vF)]<|xH<|zV<|zJ<|zJ<|hr _ _ _ _ (zE N).symm H ⟨_,_,(resT rfl),zO,⟨_,rfl,rfl,rfl⟩⟩
  intro aH N;exact zT<|zN<|zK<|zL<|yQ [] [3] rfl<|yV<|nX<|ih (W (i+1)) _ N H h hg ho hx hr
 intro hc N;exact wW<|yZ<|hx _  (zE N).symm H
def jR(p:(List Int)):Option (Bool):=do
 match<-sV p 0 with
 | .ret r0=>pure r0
 | .done _=>
  pure (decide ((p.length:Int)<=4))
theorem zHk:∀p r,jR p=some r->∀{I:Imm}{p1 c},(S4 I p1 p c)->RT 148 [vS p1 p c] I [] (zW  r):=by
 intro p r N I p1 c h;unfold jR at N;refine yM func148 λB=>wZ []<|yA<|yK [3] rfl<|wN<|qX [(0,vS p1 p c),(3,vI 0)] ?_;obtain⟨o0,aA,aE⟩:=zB N;refine zF1 p 0 o0 aA iR h nG nO ?_ ?_
 ·intro aP  heq aa;subst o0;refine zS<|vM [2] rfl<|zK<|xD ?_;obtain rfl:=zE aE;exact vH
 intro r0 I9 hs9 m9 aT le9 aV;subst aT;refine zV<|zJ ?_;obtain rfl:=zE aE;exact jW aV
end Go.LN
