/- Helper of the proof (see the last text). -/
import Derived.Test.YtmlnffbepjijhaaGreatHM2
set_option linter.unusedVariables false
set_option linter.unusedSimpArgs false
namespace Go.LN
open Go.Proofs
set_option maxRecDepth 20000
def gN (kind:Int):Option (Int):=do
 let t4<-(do
   if (kind==1) then
    pure (kind==1)
   else
    let t41<-(do
      if (kind==2) then
       pure (kind==2)
      else
       pure (kind==3)
        : Option Bool)
    pure (id t41)
     : Option Bool)
 if t4 then
  pure (id 0)
 else
  let t8<-(do
    if (kind==4) then
     pure (kind==4)
    else
     let t81<-(do
       if (kind==5) then
        pure (kind==5)
       else
        pure (kind==6)
         : Option Bool)
     pure (id t81)
      : Option Bool)
  if t8 then
   pure (id 2)
  else
   pure (-1)
theorem zDT:∀ kind r,gN kind=some r->∀ {I:Imm} ,RT 161 [vI kind] I [] (xQ  r):=by
 intro kind r N I;unfold gN at N;refine yJ Tryz.func161 fun B=>?_;have H:=iS I;refine vM []<|zZ<|yH [3] rfl<|wK<|yD<|yH [4] rfl<|zK ?_;refine uB N [] (fun t4=>[(3,vI kind),(4,.bool t4)]) (fun o0 ho0=>?_) ?_
 · have H:=iS I;refine yG ho0 ?_ ?_
   · intro hc N;exact zS<|yW<|zU (ct N H)
   intro hc N;refine yH [4] rfl<|zK ?_;refine uB N [] (fun t41=>[(3,vI kind),(4,.bool t41)]) (fun o01 ho01=>?_) ?_
   · have H:=iS I;refine yG ho01 ?_ ?_
     · intro hc1 N;exact zS<|yW<|zU (ct N H)
     intro hc1 N;exact zM<|yM [] [4] rfl<|yW<|zU (ct N H)
   intro t41 I01 le hMc1;have H:=H.trans le;exact yW<|zU (ct hMc1 H)
 intro t4 I0 le1 hMc;have H:=H.trans le1;refine zK<|yG hMc ?_ ?_
 · intro hc2 N;refine yH [2] rfl<|xI<|zV<|zL ?_;obtain rfl:=zC N;exact uE
 intro hc2 N;refine yD<|yH [8] rfl<|zK ?_;refine uB N [] (fun t8=>[(8,.bool t8)]) (fun o02 ho02=>?_) ?_
 · have H:=iS I0;refine yG ho02 ?_ ?_
   · intro hc3 N;exact zS<|yW<|zU (ct N H)
   intro hc3 N;refine yH [8] rfl<|zK ?_;refine uB N [] (fun t81=>[(8,.bool t81)]) (fun o03 ho03=>?_) ?_
   · have H:=iS I0;refine yG ho03 ?_ ?_
     · intro hc4 N;exact zS<|yW<|zU (ct N H)
     intro hc4 N;exact zM<|yM [] [8] rfl<|yW<|zU (ct N H)
   intro t81 I03 le2 hMc3;have H:=H.trans le2;exact yW<|zU (ct hMc3 H)
 intro t8 I02 le3 hMc2;refine zK<|yG hMc2 ?_ ?_
 · intro hc5 N;refine yH [2] rfl<|xI<|zV<|zL ?_;obtain rfl:=zC N;exact uE
 intro hc5 N;refine zS<|zO<|uN [2] rfl<|zK<|xD ?_;obtain rfl:=zC N;exact uE
def oU (a0:zG):Option (Bool):=do
 let t2<-(do
   if (a0.Array.l==([]:List UInt8)) then
    pure ((a0.Subs.length:Int)==0)
   else
    pure false
     : Option Bool)
 pure (id t2)
theorem zAn:∀ a0 r,oU a0=some r->∀ {I:Imm}{p c},(S4 I p a0.Subs c)->RT 185 [vA (cAccess a0 p c)] I [] (zT  r):=by
 intro a0 r N I p c h;unfold oU at N;refine yJ Tryz.func185 fun B=>?_;have H:=iS I;refine yC<|vK (cAccess a0 p c) ?_;intro b hb;refine wU [] []<|zK<|yD ?_;refine uB N [] (fun t2=>[(2,.bool t2)]) (fun o0 ho0=>?_) ?_
 · have H:=iS I;refine zM<|yE 4 [0] [6] rfl<|wO [6] ho0 ?_ ?_
   · intro hc N;exact yM [0] [2] rfl<|wG zQ<|yW<|zU (ct N H)
   intro hc N;exact wU [] [(2,vF)]<|wG zQ<|yW<|zU (ct N H)
 intro t2 I0 le hMc;refine zK<|xD ?_;obtain rfl:=zC hMc;exact uE
def mW (a0:zA):Option (Bool):=do
 let t2<-(do
   if ((a0.Coefs.length:Int)==0) then
    pure (a0.Const==0)
   else
    pure false
     : Option Bool)
 pure (id t2)
theorem zBI:∀ a0 r,mW a0=some r->∀ {I:Imm}{p c},(S4 I p a0.Coefs c)->RT 186 [vA (cAff a0 p c)] I [] (zT  r):=by
 intro a0 r N I p c h;unfold mW at N;refine yJ Tryz.func186 fun B=>?_;have H:=iS I;refine yC<|vK (cAff a0 p c) ?_;intro b hb;refine wU [] []<|zK<|yD ?_;refine uB N [] (fun t2=>[(2,.bool t2)]) (fun o0 ho0=>?_) ?_
 · have H:=iS I;refine zM<|yE 5 [0] [7] rfl<|wO [7] ho0 ?_ ?_
   · intro hc N;exact yM [0] [2] rfl<|wG zQ<|yW<|zU (ct N H)
   intro hc N;exact wU [] [(2,vF)]<|wG zQ<|yW<|zU (ct N H)
 intro t2 I0 le hMc;refine zK<|xD ?_;obtain rfl:=zC hMc;exact uE
def fS (e0:zH) (depth:Int):Option (Bool):=do
 if (e0.Kind==2) then
  let t4<-(do
    if (e0.Num==0) then
     let y<-oU e0.Read
     if y then
      let y1<-tO e0.Index
      if y1 then
       let y2<-oT e0.Index
       pure (decide (y2<=depth))
      else
       pure false
     else
      pure false
    else
     pure false
      : Option Bool)
  pure (id t4)
 else
  if (e0.Kind==3) then
   let t41<-(do
     if (e0.Num==0) then
      let y3<-mW e0.Index
      if y3 then
       let y4<-nP e0.Read depth
       pure (id y4)
      else
       pure false
     else
      pure false
       : Option Bool)
   pure (id t41)
  else
   if (e0.Kind==1) then
    let t42<-(do
      if (decide (e0.Num>=0)) then
       if (decide (e0.Num<=99)) then
        let y5<-mW e0.Index
        if y5 then
         let y6<-oU e0.Read
         pure (id y6)
        else
         pure false
       else
        pure false
      else
       pure false
        : Option Bool)
    pure (id t42)
   else
    let t43<-(do
      if (e0.Num==0) then
       let y7<-mW e0.Index
       if y7 then
        let y8<-oU e0.Read
        pure (id y8)
       else
        pure false
      else
       pure false
        : Option Bool)
    pure (id t43)
theorem zIN:∀ e0 depth r,fS e0 depth=some r->∀ {I:Imm}{p c p1 c1 p2 c2},(S4 I p e0.Index.Coefs c)->(S4 I p1 e0.Read.Subs c1)->(S4 I p2 e0.Kids c2)->RT 162 [vA (cExpr e0 p c p1 c1 p2 c2),vI depth] I [] (zT  r):=by
 intro e0 depth r N I p c p1 c1 p2 c2 h h1 h2;unfold fS at N;refine yJ Tryz.func162 fun B=>?_;have H:=iS I;refine yC<|vK (cExpr e0 p c p1 c1 p2 c2) ?_;intro b hb;refine wU [] []<|zZ<|yC<|yM [0] [7] rfl<|zK<|yG N ?_ ?_
 · intro hc N;refine yD ?_;refine uB N [] (fun t4=>[(4,.bool t4)]) (fun o0 ho0=>?_) ?_
   · have H:=iS I;refine zM<|yE 4 [0] [11] rfl<|wO [11] ho0 ?_ ?_
     · intro hc1 N;refine tZ 6 [0] [(13,vA (cAccess e0.Read p1 c1))]<|bE N fun y hy N=>uZ (zAn e0.Read _ hy h1) ?_;intro I01 le;have ⟨h,H⟩:=m2 le h H;refine yE 9 [] [16] rfl<|wO [16] N ?_ ?_
       · intro hc2 N;refine tZ 11 [0] [(18,vA (cAff e0.Index p c))]<|bE N fun y1 hy1 N=>uZ (gX e0.Index _ hy1 h) ?_;intro I02 le1;have ⟨h,H⟩:=m2 le1 h H;refine yE 14 [] [21] rfl<|wO [21] N ?_ ?_
         · intro hc3 N;refine tZ 16 [0] [(23,vA (cAff e0.Index p c))]<|bE N fun y2 hy2 N=>fB (zAm e0.Index _ hy2 h) ?_;intro I03 le2;have H:=H.trans le2;exact yM [] [4] rfl<|wG zQ<|yW<|zU (ct N H)
         intro hc3 N;exact wU [] [(4,vF)]<|wG zQ<|yW<|zU (ct N H)
       intro hc2 N;exact wU [] [(4,vF)]<|wG zQ<|yW<|zU (ct N H)
     intro hc1 N;exact wU [] [(4,vF)]<|wG zQ<|yW<|zU (ct N H)
   intro t4 I0 le3 hMc;refine xI<|zL ?_;obtain rfl:=zC hMc;exact uE
 intro hc N;refine zS<|zZ<|yC<|yM [0] [30] rfl<|zK<|yG N ?_ ?_
 · intro hc4 N;refine yD ?_;refine uB N [] (fun t41=>[(4,.bool t41)]) (fun o01 ho01=>?_) ?_
   · have H:=iS I;refine zM<|yE 4 [0] [34] rfl<|wO [34] ho01 ?_ ?_
     · intro hc5 N;refine tZ 6 [0] [(36,vA (cAff e0.Index p c))]<|bE N fun y3 hy3 N=>uZ (zBI e0.Index _ hy3 h) ?_;intro I05 le4;have ⟨h1,H⟩:=m2 le4 h1 H;refine yE 9 [] [39] rfl<|wO [39] N ?_ ?_
       · intro hc6 N;refine tZ 12 [0] [(41,vA (cAccess e0.Read p1 c1)),(42,vI depth)]<|bE N fun y4 hy4 N=>uZ (zCF e0.Read depth _ hy4 h1) ?_;intro I06 le5;have H:=H.trans le5;exact yM [] [4] rfl<|wG zQ<|yW<|zU (ct N H)
       intro hc6 N;exact wU [] [(4,vF)]<|wG zQ<|yW<|zU (ct N H)
     intro hc5 N;exact wU [] [(4,vF)]<|wG zQ<|yW<|zU (ct N H)
   intro t41 I04 le6 hMc1;refine xI<|zL ?_;obtain rfl:=zC hMc1;exact uE
 intro hc4 N;refine zS<|zZ<|yC<|yM [0] [47] rfl<|zK<|yG N ?_ ?_
 · intro hc7 N;refine yD ?_;refine uB N [] (fun t42=>[(4,.bool t42)]) (fun o02 ho02=>?_) ?_
   · have H:=iS I;refine zM<|yE 4 [0] [51] rfl<|wO [51] ho02 ?_ ?_
     · intro hc8 N;refine yE 9 [0] [56] rfl<|wO [56] N ?_ ?_
       · intro hc9 N;refine tZ 11 [0] [(58,vA (cAff e0.Index p c))]<|bE N fun y5 hy5 N=>uZ (zBI e0.Index _ hy5 h) ?_;intro I08 le7;have ⟨h1,H⟩:=m2 le7 h1 H;refine yE 14 [] [61] rfl<|wO [61] N ?_ ?_
         · intro hc10 N;refine tZ 16 [0] [(63,vA (cAccess e0.Read p1 c1))]<|bE N fun y6 hy6 N=>uZ (zAn e0.Read _ hy6 h1) ?_;intro I09 le8;have H:=H.trans le8;exact yM [] [4] rfl<|wG zQ<|yW<|zU (ct N H)
         intro hc10 N;exact wU [] [(4,vF)]<|wG zQ<|yW<|zU (ct N H)
       intro hc9 N;exact wU [] [(4,vF)]<|wG zQ<|yW<|zU (ct N H)
     intro hc8 N;exact wU [] [(4,vF)]<|wG zQ<|yW<|zU (ct N H)
   intro t42 I07 le9 hMc2;refine xI<|zL ?_;obtain rfl:=zC hMc2;exact uE
 intro hc7 N;refine zS<|zK<|yD ?_;refine uB N [] (fun t43=>[(4,.bool t43)]) (fun o03 ho03=>?_) ?_
 · have H:=iS I;refine zM<|yE 4 [0] [69] rfl<|wO [69] ho03 ?_ ?_
   · intro hc11 N;refine tZ 6 [0] [(71,vA (cAff e0.Index p c))]<|bE N fun y7 hy7 N=>uZ (zBI e0.Index _ hy7 h) ?_;intro I011 le10;have ⟨h1,H⟩:=m2 le10 h1 H;refine yE 9 [] [74] rfl<|wO [74] N ?_ ?_
     · intro hc12 N;refine tZ 11 [0] [(76,vA (cAccess e0.Read p1 c1))]<|bE N fun y8 hy8 N=>uZ (zAn e0.Read _ hy8 h1) ?_;intro I012 le11;have H:=H.trans le11;exact yM [] [4] rfl<|wG zQ<|yW<|zU (ct N H)
     intro hc12 N;exact wU [] [(4,vF)]<|wG zQ<|yW<|zU (ct N H)
   intro hc11 N;exact wU [] [(4,vF)]<|wG zQ<|yW<|zU (ct N H)
 intro t43 I010 le12 hMc3;refine zK<|xD ?_;obtain rfl:=zC hMc3;exact uE
mutual
def rG (e0:zH) (depth:Int) (levels:Int):Option (Bool):=do
 let t24<-(do
   if (decide (levels<1)) then
    pure true
   else
    let y<-gN e0.Kind
    if (y != (e0.Kids.length:Int)) then
     pure true
    else
     let y1<-fS e0 depth
     pure (!y1)
     : Option Bool)
 if t24 then
  pure false
 else
  match<-tF (same e0) (same depth) (same levels) (same 0) with
  | .ret r0=>pure r0
  | .done _ =>
   pure true
 partial_fixpoint
def tF (e0:zH) (depth:Int) (levels:Int) (i:Int):Option (Out Unit (Bool)):=do
 if (decide (i<(e0.Kids.length:Int))) then
  let x<-idx e0.Kids i
  let y2<-rG (same x) (same depth) (W (levels - 1))
  if (!y2) then
   pure (.ret false)
  else
   tF (same e0) (same depth) (same levels) (W (i+1))
 else
  pure (.done ())
 partial_fixpoint
end
theorem zGE:(∀ (e0:zH) (depth:Int) (levels:Int) r,rG e0 depth levels=some r->∀ {I:Imm}{p c p1 c1 p2 c2},(S4 I p e0.Index.Coefs c)->(S4 I p1 e0.Read.Subs c1)->(S4 I p2 e0.Kids c2)->RT 128 [vA (cExpr e0 p c p1 c1 p2 c2),vI depth,vI levels] I [] (zT  r))/\(∀ (e0:zH) (depth:Int) (levels:Int) (i:Int) o,tF e0 depth levels i=some o->∀ {B}{I0 I:Imm}{Q p c p1 c1 p2 c2}{b:Nat},I0.le I->(S4 I p e0.Index.Coefs c)->(S4 I p1 e0.Read.Subs c1)->(S4 I p2 e0.Kids c2)->NG Q->NO Q->(∀ (I':Imm) ,o=(.done ())->I0.le I'->T 42 B Q (.exit 0) I' [] [])->(∀ r I' hs' m',o=(.ret r)->I0.le I'->RS Tryz.prog Tryz.f128 B (zT  r) I' hs' m'->T 42 B Q .ret I' hs' m')->J Tryz.prog 42 B (nav (bodyOf Tryz.f128) [1,1,0,1,0]) Q I [hB b (cExpr e0 p c p1 c1 p2 c2)] [(1,vI depth),(2,vI levels),(3,vP b 0),(7,vI i)]):=by
  refine rG.mutual_partial_correctness _ _ ?_ ?_
  · intro F_spec_l3Shape_l1 ih_spec_l3Shape_l1 e0 depth levels r N I p c p1 c1 p2 c2 h h1 h2;refine yJ Tryz.func128 fun B=>?_;have H:=iS I;refine yC<|vK (cExpr e0 p c p1 c1 p2 c2) ?_;intro b hb;refine wU [] []<|zZ<|yD ?_;refine uB N [hB b (cExpr e0 p c p1 c1 p2 c2)] (fun t24=>[(1,vI depth),(2,vI levels),(3,vP b 0),(24,.bool t24)]) (fun o0 ho0=>?_) ?_
    · have H:=iS I;cases hc:(decide (levels<1)) with
      | true =>
       have hM0:=tC hc ho0;refine wP [.p (vI levels) [],.q vY,.q vY,.p undef [],.p undef [],.p undef [],.p undef [],.p undef [],.p undef [],.p undef [],.p vY [],.p vY [],.p undef [],.p undef [],.p undef [],.p undef [],.p vY []] [[],[(0,false)],[(1,false)],[(2,false)],[(2,false),(3,false)],[(2,false),(4,false)],[(2,false)],[(2,false),(6,false)],[(2,false),(7,false)],[(2,false),(5,false),(8,false)],[(2,false),(9,false)],[(10,false)],[(11,false)],[(11,false)],[(11,false),(12,false),(13,false)],[(11,false),(14,false)],[(11,false),(15,false)]] [hB b (cExpr e0 p c p1 c1 p2 c2)] [] [(16,false)] (zY [0]) ?_ ?_
       · refine Op<|Oq ?_<|Oq ?_<|Op<|Op<|Op<|Op<|Op<|Op<|Op<|Op<|Op<|Op<|Op<|Op<|Op<|Op<|On
         · intro I1 hf le1;refine yV [8] rfl<|qA 2 [(9,.bool (decide (levels<1)))] ?_;rw [hc];exact xB iR
         intro I1 hf le1;exact dS [(9,vY)]<|qA 3 [(10,vY)]<|xB iR
       intro I01 le;refine yV [1,2,3,24] rfl ?_;have H:=H.trans le;exact zX rfl<|yW<|zU (ct hM0 H)
      | false =>
       have hM01:=uL hc ho0;obtain ⟨y,hy,N⟩:=zB hM01;cases hc1:(y != (e0.Kids.length:Int)) with
       | true =>
        have hM02:=tC hc1 N;refine wP [.p (vI levels) [],.q vF,.q vF,.p (vP b 0) [],.p (vI e0.Kind) [0],.q (vI y),.p (vP b 6) [],.p (vS p2 e0.Kids c2) [0],.p (vI (e0.Kids.length:Int)) [],.q vY,.q vY,.q vY,.p undef [],.p undef [],.p undef [],.p undef [],.p vY []] [[],[(0,false)],[(1,false)],[(2,false)],[(2,false),(3,false)],[(2,false),(4,false)],[(2,false)],[(2,false),(6,false)],[(2,false),(7,false)],[(2,false),(5,false),(8,false)],[(2,false),(9,false)],[(10,false)],[(11,false)],[(11,false)],[(11,false),(12,false),(13,false)],[(11,false),(14,false)],[(11,false),(15,false)]] [hB b (cExpr e0 p c p1 c1 p2 c2)] [] [(16,false)] (zY [0]) ?_ ?_
        · refine Op<|Oq ?_<|Oq ?_<|Op<|Op<|Oq ?_<|Op<|Op<|Op<|Oq ?_<|Oq ?_<|Oq ?_<|Op<|Op<|Op<|Op<|Op<|On
          · intro I1 hf le1;refine yV [8] rfl<|qA 2 [(9,.bool (decide (levels<1)))] ?_;rw [hc];exact xB iR
          · intro I1 hf le1;exact dS [(9,vF)]<|qA 3 [(10,vF)]<|xB iR
          · intro I1 hf le1;refine yV [10,12] rfl ?_;have H:=iS I1;refine fB (zDT e0.Kind _ hy ) ?_;intro I02 le1;have H:=H.trans le1;exact xB H
          · intro I1 hf le1;refine yV [10,13,16] rfl<|qA 10 [(17,.bool (y != (e0.Kids.length:Int)))] ?_;rw [hc1];exact xB iR
          · intro I1 hf le1;exact yV [10,17] rfl<|qA 11 [(18,vY)]<|xB iR
          intro I1 hf le1;exact dS [(18,vY)]<|qA 12 [(19,vY)]<|xB iR
        intro I03 le2;refine yV [1,2,3,24] rfl ?_;have H:=H.trans le2;exact zX rfl<|yW<|zU (ct hM02 H)
       | false =>
        have hM03:=uL hc1 N;obtain ⟨y1,hy1,N⟩:=zB hM03;refine wP [.p (vI levels) [],.q vF,.q vF,.p (vP b 0) [],.p (vI e0.Kind) [0],.q (vI y),.p (vP b 6) [],.p (vS p2 e0.Kids c2) [0],.p (vI (e0.Kids.length:Int)) [],.q vF,.q vF,.q vF,.p (vA (cExpr e0 p c p1 c1 p2 c2)) [0],.p (vI depth) [],.q (.bool y1),.p (.bool (!y1)) [],.p (.bool (!y1)) []] [[],[(0,false)],[(1,false)],[(2,false)],[(2,false),(3,false)],[(2,false),(4,false)],[(2,false)],[(2,false),(6,false)],[(2,false),(7,false)],[(2,false),(5,false),(8,false)],[(2,false),(9,false)],[(10,false)],[(11,false)],[(11,false)],[(11,false),(12,false),(13,false)],[(11,false),(14,false)],[(11,false),(15,false)]] [hB b (cExpr e0 p c p1 c1 p2 c2)] [] [(16,false)] (zY [0]) ?_ ?_
        · refine Op<|Oq ?_<|Oq ?_<|Op<|Op<|Oq ?_<|Op<|Op<|Op<|Oq ?_<|Oq ?_<|Oq ?_<|Op<|Op<|Oq ?_<|Op<|Op<|On
          · intro I1 hf le1;refine yV [8] rfl<|qA 2 [(9,.bool (decide (levels<1)))] ?_;rw [hc];exact xB iR
          · intro I1 hf le1;exact dS [(9,vF)]<|qA 3 [(10,vF)]<|xB iR
          · intro I1 hf le1;refine yV [10,12] rfl ?_;have H:=iS I1;refine fB (zDT e0.Kind _ hy ) ?_;intro I02 le1;have H:=H.trans le1;exact xB H
          · intro I1 hf le1;refine yV [10,13,16] rfl<|qA 10 [(17,.bool (y != (e0.Kids.length:Int)))] ?_;rw [hc1];exact xB iR
          · intro I1 hf le1;exact yV [10,17] rfl<|qA 11 [(18,vF)]<|xB iR
          · intro I1 hf le1;exact dS [(18,vF)]<|qA 12 [(19,vF)]<|xB iR
          intro I1 hf le1;refine yV [19,20,21] rfl ?_;have H:=iS I1;have ⟨h,h1,h2⟩:=m3 le1 h h1 h2;refine uZ (zIN e0 depth _ hy1 h h1 h2) ?_;intro I04 le3;have H:=H.trans le3;exact xB H
        intro I05 le4;refine yV [1,2,3,24] rfl ?_;have H:=H.trans le4;exact zX rfl<|yW<|zU (ct N H)
    intro t24 I0 le5 hMc;have ⟨h,h1,h2⟩:=m3 le5 h h1 h2;refine zK<|yG hMc ?_ ?_
    · intro hc2 N;refine vM [(6,vF)]<|xI<|zL ?_;obtain rfl:=zC N;exact uE
    intro hc2 N;refine zS<|zZ<|yH [7] rfl<|wK<|pM [(1,vI depth),(2,vI levels),(3,vP b 0),(7,vI 0)] ?_;obtain ⟨o01,ho01,hMl⟩:=zB N;refine ih_spec_l3Shape_l1 e0 depth levels 0 o01 ho01 iR h h1 h2 (fun _ _ _ h=>h) (fun _ _ h=>h) ?_ ?_
    · intro I07  heq1 le7;subst o01;refine zR<|zFy [(6,vY)]<|zK<|xD ?_;obtain rfl:=zC hMl;exact uE
    intro r0 I9 hs9 m9 heq9 le9 hrs9;subst heq9;refine zV<|zL ?_;obtain rfl:=zC hMl;exact xC hrs9
  intro F_spec_l3Shape F_spec_l3Shape_l1 ih_spec_l3Shape ih_spec_l3Shape_l1 e0 depth levels i o N B I0 I Q p c p1 c1 p2 c2 b H h h1 h2 hg ho hx hr;refine yU hg ho<|yD<|yC<|yM [0] [29] rfl<|zK<|yG N ?_ ?_
  · intro hc3 N;refine zS<|zZ<|yF<|yC<|yE 3 [0] [33,34] rfl<|bE N fun x hy2 N=>xT rfl rfl h2 hy2 ?_;intro ad ccs hat hrep;obtain ⟨p3,c3,p4,c4,p5,c5,rfl,h5,h6,h7⟩:=wT hrep;refine xO 0 hat (cExpr x p3 c3 p4 c4 p5 c5) (vA (cExpr x p3 c3 p4 c4 p5 c5)) rfl<|yE 8 [] [37,39] rfl<|bE N fun y2 hy3 N=>xH (ih_spec_l3Shape x depth (W (levels - 1)) _ hy3 h5 h6 h7) ?_;rintro I06 hs2 v2 k2 le6 - ⟨v05,rfl,rfl,rfl⟩ -;have ⟨h,h1,h2,H⟩:=m4 le6 h h1 h2 H;refine yM [] [41] rfl<|zK<|yG N ?_ ?_
    · intro hc4 N;exact vM [(6,vF)]<|xI<|zV<|zL<|zL<|hr _ _ _ _ (zC N).symm H ⟨_,_,(.tmp rfl ResV.nil),zQ,⟨_,rfl,rfl,rfl⟩⟩
    intro hc4 N;exact zS<|zO<|zK<|zM<|yM [] [7] rfl<|yT<|nT<|ih_spec_l3Shape_l1 e0 depth levels (W (i+1)) _ N H h h1 h2 hg ho hx hr
  intro hc3 N;exact wW<|wG zQ<|yW<|hx _  (zC N).symm H
theorem zGg:∀ e0 depth levels r,rG e0 depth levels=some r->∀ {I:Imm}{p c p1 c1 p2 c2},(S4 I p e0.Index.Coefs c)->(S4 I p1 e0.Read.Subs c1)->(S4 I p2 e0.Kids c2)->RT 128 [vA (cExpr e0 p c p1 c1 p2 c2),vI depth,vI levels] I [] (zT  r):=zGE.1
mutual
def qF (e0:zH) (levels:Int):Option (Int):=do
 let n01<-tG (same e0) (same levels) (same 1) (same 0)
 pure (id n01)
 partial_fixpoint
def tG (e0:zH) (levels:Int) (n0:Int) (i:Int):Option (Int):=do
 let t15<-(do
   if (decide (i<(e0.Kids.length:Int))) then
    pure (decide (levels>0))
   else
    pure false
     : Option Bool)
 if t15 then
  let x<-idx e0.Kids i
  let y<-qF (same x) (W (levels - 1))
  tG (same e0) (same levels) (W (n0+y)) (W (i+1))
 else
  pure (id n0)
 partial_fixpoint
end
theorem zGF:(∀ (e0:zH) (levels:Int) r,qF e0 levels=some r->∀ {I:Imm}{p c p1 c1 p2 c2},(S4 I p e0.Index.Coefs c)->(S4 I p1 e0.Read.Subs c1)->(S4 I p2 e0.Kids c2)->RT 129 [vA (cExpr e0 p c p1 c1 p2 c2),vI levels] I [] (xQ  r))/\(∀ (e0:zH) (levels:Int) (n0:Int) (i:Int) o,tG e0 levels n0 i=some o->∀ {B}{I0 I:Imm}{Q p c p1 c1 p2 c2}{b:Nat},I0.le I->(S4 I p e0.Index.Coefs c)->(S4 I p1 e0.Read.Subs c1)->(S4 I p2 e0.Kids c2)->NG Q->NO Q->(∀ (I':Imm) (n01:Int),o=n01->I0.le I'->T 29 B Q (.exit 0) I' [] [(5,vI n01)])->J Tryz.prog 29 B (nav (bodyOf Tryz.f129) [1,1,0,1,0]) Q I [hB b (cExpr e0 p c p1 c1 p2 c2)] [(1,vI levels),(2,vP b 0),(5,vI n0),(6,vI i)]):=by
  refine qF.mutual_partial_correctness _ _ ?_ ?_
  · intro F_spec_l3Count_l1 ih_spec_l3Count_l1 e0 levels r N I p c p1 c1 p2 c2 h h1 h2;refine yJ Tryz.func129 fun B=>yC<|vK (cExpr e0 p c p1 c1 p2 c2) ?_;intro b hb;refine wU [] []<|uN [5] rfl<|zZ<|yH [6] rfl<|wK<|pM [(1,vI levels),(2,vP b 0),(5,vI 1),(6,vI 0)] ?_;obtain ⟨o01,ho01,hMl⟩:=zB N;refine ih_spec_l3Count_l1 e0 levels 1 0 o01 ho01 iR h h1 h2 (fun _ _ _ h=>h) (fun _ _ h=>h) ?_;intro I02 n01 heq1 le2;subst o01;refine zR<|uN [4] rfl<|zK<|xD ?_;obtain rfl:=zC hMl;exact uE
  intro F_spec_l3Count F_spec_l3Count_l1 ih_spec_l3Count ih_spec_l3Count_l1 e0 levels n0 i o N B I0 I Q p c p1 c1 p2 c2 b H h h1 h2 hg ho hx;refine yU hg ho<|yD<|yD ?_;refine uB N [hB b (cExpr e0 p c p1 c1 p2 c2)] (fun t15=>[(1,vI levels),(2,vP b 0),(5,vI n0),(6,vI i),(15,.bool t15)]) (fun o0 ho0=>?_) ?_
  · have H:=iS I;refine zM<|yE 6 [0] [12] rfl<|wO [12] ho0 ?_ ?_
    · intro hc N;exact yM [] [15] rfl<|yW<|zU (ct N H)
    intro hc N;exact wU [] [(15,vF)]<|yW<|zU (ct N H)
  intro t15 I0 le hMc;have ⟨h,h1,h2,H⟩:=m4 le h h1 h2 H;refine zK<|yG hMc ?_ ?_
  · intro hc1 N;refine zS<|zZ<|yF<|zM<|yE 4 [0] [18,20,21] rfl<|bE N fun x hy N=>xT rfl rfl h2 hy ?_;intro ad ccs hat hrep;obtain ⟨p3,c3,p4,c4,p5,c5,rfl,h3,h4,h5⟩:=wT hrep;refine xO 0 hat (cExpr x p3 c3 p4 c4 p5 c5) (vA (cExpr x p3 c3 p4 c4 p5 c5)) rfl<|yE 8 [] [25] rfl<|bE N fun y hy1 N=>xH (ih_spec_l3Count x (W (levels - 1)) _ hy1 h3 h4 h5) ?_;rintro I01 hs2 v2 k2 le1 - ⟨v03,rfl,rfl,rfl⟩ -;have ⟨h,h1,h2,H⟩:=m4 le1 h h1 h2 H;exact yM [] [5] rfl<|zO<|zK<|zM<|yM [] [6] rfl<|yT<|nT<|ih_spec_l3Count_l1 e0 levels (W (n0+y)) (W (i+1)) _ N H h h1 h2 hg ho hx
  intro hc1 N;exact wW<|wG zQ<|yW<|hx _ _ (zC N).symm H
theorem zGh:∀ e0 levels r,qF e0 levels=some r->∀ {I:Imm}{p c p1 c1 p2 c2},(S4 I p e0.Index.Coefs c)->(S4 I p1 e0.Read.Subs c1)->(S4 I p2 e0.Kids c2)->RT 129 [vA (cExpr e0 p c p1 c1 p2 c2),vI levels] I [] (xQ  r):=zGF.1
def qR (s:zJ) (depth:Int):Option (Bool):=do
 let t24<-(do
   if (decide (depth<0)) then
    pure true
   else
    if (decide (depth>4)) then
     pure true
    else
     let y<-nP s.Write depth
     if (!y) then
      pure true
     else
      let y1<-rG s.Value depth 5
      pure (!y1)
     : Option Bool)
 if t24 then
  pure false
 else
  let y2<-qF s.Value 5
  pure (decide (y2<=12))
theorem zAT:∀ s depth r,qR s depth=some r->∀ {I:Imm}{p c p1 c1 p2 c2 p3 c3},(S4 I p s.Write.Subs c)->(S4 I p1 s.Value.Index.Coefs c1)->(S4 I p2 s.Value.Read.Subs c2)->(S4 I p3 s.Value.Kids c3)->RT 89 [vA (cStmt s p c p1 c1 p2 c2 p3 c3),vI depth] I [] (zT  r):=by
 intro s depth r N I p c p1 c1 p2 c2 p3 c3 h h1 h2 h3;unfold qR at N;refine yJ Tryz.func89 fun B=>?_;have H:=iS I;refine yC<|vK (cStmt s p c p1 c1 p2 c2 p3 c3) ?_;intro b hb;refine wU [] []<|zZ<|yD ?_;refine uB N [hB b (cStmt s p c p1 c1 p2 c2 p3 c3)] (fun t24=>[(2,vP b 0),(24,.bool t24)]) (fun o0 ho0=>?_) ?_
 · have H:=iS I;refine zM<|yE 3 [] [7] rfl<|wO [7] ho0 ?_ ?_
   · intro hc N;exact wU [] [(24,vY)]<|yW<|zU (ct N H)
   intro hc N;refine yE 7 [] [11] rfl<|wO [11] N ?_ ?_
   · intro hc1 N;exact wU [] [(24,vY)]<|yW<|zU (ct N H)
   intro hc1 N;refine tZ 10 [0] [(13,vA (cAccess s.Write p c)),(14,vI depth)]<|bE N fun y hy N=>uZ (zCF s.Write depth _ hy h) ?_;intro I01 le;have ⟨h1,h2,h3,H⟩:=m4 le h1 h2 h3 H;refine yE 14 [] [18] rfl<|wO [18] N ?_ ?_
   · intro hc2 N;exact wU [] [(24,vY)]<|yW<|zU (ct N H)
   intro hc2 N;refine tZ 17 [0] [(20,vA (cExpr s.Value p1 c1 p2 c2 p3 c3)),(21,vI depth)]<|bE N fun y1 hy1 N=>uZ (zGg s.Value depth 5 _ hy1 h1 h2 h3) ?_;intro I02 le1;have H:=H.trans le1;exact yM [] [24] rfl<|yW<|zU (ct N H)
 intro t24 I0 le2 hMc;have ⟨h1,h2,h3⟩:=m3 le2 h1 h2 h3;refine zK<|yG hMc ?_ ?_
 · intro hc3 N;refine vM [(4,vF)]<|xI<|zL ?_;obtain rfl:=zC N;exact uE
 intro hc3 N;refine zS<|yX<|tZ 2 [0] [(26,vA (cExpr s.Value p1 c1 p2 c2 p3 c3))]<|bE N fun y2 hy2 N=>fB (zGh s.Value 5 _ hy2 h1 h2 h3) fun I03 le3=>wU [] [(4,.bool (decide (y2<=12)))]<|zK<|xD ?_;obtain rfl:=zC N;exact uE
def qG (list:(List zA)) (out:Str) (i:Int):Option (Str):=do
 if (decide (i<(list.length:Int))) then
  let out2<-(do
    if (decide (i>0)) then
     let s<-cat out (⟨[44]⟩:Str)
     pure (id s)
    else
     pure (id out)
      : Option Str)
  let x<-idx list i
  let y<-gL x
  let s1<-cat out2 y
  qG list s1 (W (i+1))
 else
  pure (id out)
 partial_fixpoint
theorem zCu (list:(List zA)):∀ (out:Str) (i:Int) (o:Str),qG list out i=some o->∀ {B}{I0 I:Imm}{Q p c},I0.le I->(S4 I p list c)->NG Q->NO Q->(∀ (I':Imm) (out1:Str),o=out1->I0.le I'->T 23 B Q (.exit 0) I' [] [(3,vT out1.l)])->J Tryz.prog 23 B (nav (bodyOf Tryz.f192) [1,1,0,1,0]) Q I [] [(0,vS p list c),(3,vT out.l),(4,vI i)]:=by
 refine qG.partial_correctness list _ fun self ih out i o N B I0 I Q p c H h hg ho hx=>yU hg ho<|yD<|yH [8] rfl<|zK<|yG N ?_ ?_
 · intro hc N;refine zS<|zZ<|yF<|yD<|yH [12] rfl<|zK ?_;refine uB N [] (fun out2=>[(0,vS p list c),(3,vT out2.l),(4,vI i)]) (fun o0 ho0=>?_) ?_
   · have H:=iS I;refine yG ho0 ?_ ?_
     · intro hc1 N;exact zM<|yE 1 [] [13] rfl<|bE N fun s hy N=>fA rfl hy<|yM [] [3] rfl<|yW<|zU (ct N H)
     intro hc1 N;exact zS<|yW<|zU (ct N H)
   intro out2 I0 le hMc;have ⟨h,H⟩:=m2 le h H;refine zK<|zM<|yE 3 [] [15,16,17] rfl ?_;obtain ⟨x,hy1,N⟩:=zB hMc;refine xT rfl rfl h hy1 ?_;intro ad ccs hat hrep;obtain ⟨p1,c1,rfl,h1⟩:=yB hrep;refine xO 0 hat (cAff x p1 c1) (vA (cAff x p1 c1)) rfl<|bE N fun y hy2 N=>xH (zBH x _ hy2 h1) ?_;rintro I01 hs2 v2 k2 le1 - ⟨v01,rfl,rfl,rfl⟩ -;have ⟨h,H⟩:=m2 le1 h H;obtain ⟨s1,hy3,N⟩:=zB N;exact fA rfl hy3<|yM [] [3] rfl<|zO<|zK<|zM<|yM [] [4] rfl<|yT<|nT<|ih s1 (W (i+1)) _ N H h hg ho hx
 intro hc N;exact wW<|yW<|hx _ _ (zC N).symm H
def oV (list:(List zA)):Option (Str):=do
 let out1<-qG list (⟨[]⟩:Str) 0
 pure (id out1)
theorem zAM:∀ list r,oV list=some r->∀ {I:Imm}{p c},(S4 I p list c)->RT 192 [vS p list c] I [] (rL  r):=by
 intro list r N I p c h;unfold oV at N;refine yJ Tryz.func192 fun B=>vM []<|uN [3] rfl<|zZ<|yH [4] rfl<|wK<|pM [(0,vS p list c),(3,vT ([])),(4,vI 0)] ?_;obtain ⟨o01,ho01,hMl⟩:=zB N;refine zCu list (⟨[]⟩:Str) 0 o01 ho01 iR h (fun _ _ _ h=>h) (fun _ _ h=>h) ?_;intro I02 out1 heq1 le2;subst o01;refine zR<|uN [2] rfl<|zK<|xD ?_;obtain rfl:=zC hMl;exact uE
def qY (a0:zG):Option (Str):=do
 let s<-cat a0.Array (⟨[91]⟩:Str)
 let y<-oV a0.Subs
 let s1<-cat s y
 let s2<-cat s1 (⟨[93]⟩:Str)
 pure (id s2)
theorem dA:∀ a0 r,qY a0=some r->∀ {I:Imm}{p c},(S4 I p a0.Subs c)->RT 171 [vA (cAccess a0 p c)] I [] (rL  r):=by
 intro a0 r N I p c h;unfold qY at N;refine yJ Tryz.func171 fun B=>?_;have H:=iS I;refine yC<|vK (cAccess a0 p c) ?_;intro b hb;refine wU [] []<|zK<|yD ?_;obtain ⟨s,hy,N⟩:=zB N;obtain ⟨y,hy1,N⟩:=zB N;obtain ⟨s1,hy2,N⟩:=zB N;obtain ⟨s2,hy3,N⟩:=zB N;refine wP [.p (vP b 0) [],.p (vT a0.Array.l) [0],.q (vT s.l),.p (vP b 1) [],.p (vS p a0.Subs c) [0],.q (vT y.l),.q (vT s1.l),.q (vT s2.l)] [[],[(0,false)],[(1,false)],[],[(3,false)],[(4,false)],[(2,false),(5,false)],[(6,false)]] [hB b (cAccess a0 p c)] [] [(7,false)] (zY [0]) ?_ ?_
 · refine Op<|Op<|Oq ?_<|Op<|Op<|Oq ?_<|Oq ?_<|Oq ?_<|On
   · intro I1 hf le1;exact yV [4] rfl<|fA rfl hy<|xB iR
   · intro I1 hf le1;refine yV [7] rfl ?_;have H:=iS I1;have h:=h.mono le1;refine xH (zAM a0.Subs _ hy1 h) ?_;rintro I0 hs2 v2 k2 le - ⟨v0,rfl,rfl,rfl⟩ -;have H:=H.trans le;exact xB H
   · intro I1 hf le1;exact yV [5,8] rfl<|fA rfl hy2<|xB iR
   intro I1 hf le1;exact yV [9] rfl<|fA rfl hy3<|xB iR
 intro I01 le1;refine yV [10] rfl ?_;refine yM [] [2] rfl<|zK<|xD ?_;obtain rfl:=zC N;exact uE
def pR (e0:zH):Option (Str):=do
 if (e0.Kind==1) then
  let y<-pQ e0.Num
  pure (id y)
 else
  if (e0.Kind==2) then
   let y1<-gL e0.Index
   let s<-cat (⟨[123]⟩:Str) y1
   let s1<-cat s (⟨[125]⟩:Str)
   pure (id s1)
  else
   if (e0.Kind==3) then
    let y2<-qY e0.Read
    pure (id y2)
   else
    let x<-idx e0.Kids 0
    let y3<-pR (same x)
    let s2<-cat (⟨[40]⟩:Str) y3
    let s3<-sslc (⟨[43,45,42]⟩:Str) (W (e0.Kind - 4)) (W ((W (e0.Kind - 4))+1))
    let s4<-cat s2 s3
    let x1<-idx e0.Kids 1
    let y4<-pR (same x1)
    let s5<-cat s4 y4
    let s6<-cat s5 (⟨[41]⟩:Str)
    pure (id s6)
 partial_fixpoint
theorem zDU:∀ e0 r,pR e0=some r->∀ {I:Imm}{p c p1 c1 p2 c2},(S4 I p e0.Index.Coefs c)->(S4 I p1 e0.Read.Subs c1)->(S4 I p2 e0.Kids c2)->RT 172 [vA (cExpr e0 p c p1 c1 p2 c2)] I [] (rL  r):=by
 refine pR.partial_correctness _ fun F_spec_l3Text ih_spec_l3Text e0 r N I p c p1 c1 p2 c2 h h1 h2=>yJ Tryz.func172 fun B=>?_;have H:=iS I;refine yC<|vK (cExpr e0 p c p1 c1 p2 c2) ?_;intro b hb;refine wU [] []<|zZ<|yC<|yM [0] [4] rfl<|wK<|yH [5] rfl<|zK<|yG N ?_ ?_
 · intro hc N;refine yC<|yE 2 [0] [8] rfl<|bE N fun y hy N=>xH (zAR e0.Num _ hy ) ?_;rintro I0 hs2 v2 k2 le - ⟨v0,rfl,rfl,rfl⟩ -;refine yM [] [2] rfl<|xI<|zV<|zL ?_;obtain rfl:=zC N;exact uE
 intro hc N;refine yH [10] rfl<|zK<|yG N ?_ ?_
 · intro hc1 N;refine yC<|tZ 2 [0] [(13,vA (cAff e0.Index p c))]<|bE N fun y1 hy1 N=>xH (zBH e0.Index _ hy1 h) ?_;rintro I01 hs2 v2 k2 le1 - ⟨v01,rfl,rfl,rfl⟩ -;obtain ⟨s,hy2,N⟩:=zB N;refine fA rfl hy2<|bE N fun s1 hy3 N=>fA rfl hy3<|yM [] [2] rfl<|xI<|zV<|zL ?_;obtain rfl:=zC N;exact uE
 intro hc1 N;refine yH [17] rfl<|zK<|yG N ?_ ?_
 · intro hc2 N;refine yC<|tZ 2 [0] [(20,vA (cAccess e0.Read p1 c1))]<|bE N fun y2 hy4 N=>xH (dA e0.Read _ hy4 h1) ?_;rintro I02 hs2 v2 k2 le2 - ⟨v02,rfl,rfl,rfl⟩ -;refine yM [] [2] rfl<|xI<|zV<|zL ?_;obtain rfl:=zC N;exact uE
 intro hc2 N;refine zS<|zO<|zK<|yD ?_;obtain ⟨x,hy5,N⟩:=zB N;obtain ⟨y3,hy6,N⟩:=zB N;obtain ⟨s2,hy7,N⟩:=zB N;obtain ⟨s3,hy8,N⟩:=zB N;obtain ⟨s4,hy9,N⟩:=zB N;obtain ⟨x1,hy10,N⟩:=zB N;obtain ⟨y4,hy11,N⟩:=zB N;obtain ⟨s5,hy12,N⟩:=zB N;obtain ⟨s6,hy13,N⟩:=zB N;refine wP [.p (vP b 6) [],.p (vS p2 e0.Kids c2) [0],.x (ePExpr x),.x (eVExpr x),.q (vT y3.l),.q (vT s2.l),.p (vP b 0) [],.p (vI e0.Kind) [0],.p (vI (W (e0.Kind - 4))) [],.p (vP b 0) [],.p (vI e0.Kind) [0],.p (vI (W (e0.Kind - 4))) [],.p (vI (W ((W (e0.Kind - 4))+1))) [],.q (vT s3.l),.q (vT s4.l),.p (vP b 6) [],.p (vS p2 e0.Kids c2) [0],.x (ePExpr x1),.x (eVExpr x1),.q (vT y4.l),.q (vT s5.l),.q (vT s6.l)] [[],[(0,false)],[(1,false)],[(2,false)],[(3,false)],[(4,false)],[],[(6,false)],[(7,false)],[],[(9,false)],[(10,false)],[(11,false)],[(8,false),(12,false)],[(5,false),(13,false)],[],[(15,false)],[(16,false)],[(17,false)],[(18,false)],[(14,false),(19,false)],[(20,false)]] [hB b (cExpr e0 p c p1 c1 p2 c2)] [] [(21,false)] (zY [0]) ?_ ?_
 · refine Op<|Op<|Ox ?_<|Ox ?_<|Oq ?_<|Oq ?_<|Op<|Op<|Op<|Op<|Op<|Op<|Op<|Oq ?_<|Oq ?_<|Op<|Op<|Ox ?_<|Ox ?_<|Oq ?_<|Oq ?_<|Oq ?_<|On
   · intro I1 hf le1;refine yV [23] rfl ?_;have h2:=h2.mono le1;refine xT rfl rfl h2 hy5 ?_;intro ad ccs hat hrep;obtain ⟨p3,c3,p4,c4,p5,c5,rfl,h6,h7,h8⟩:=wT hrep;exact yL [] iR ⟨_,_,_,_,_,_,_,rfl,rfl,hat,h6,h7,h8⟩
   · rintro I1 hf le1 _ _ ⟨ad,p3,c3,p4,c4,p5,c5,rfl,rfl,hat,h6,h7,h8⟩;exact yV [24] rfl<|xO 0 hat (cExpr x p3 c3 p4 c4 p5 c5) (vA (cExpr x p3 c3 p4 c4 p5 c5)) rfl<|yL [] iR ⟨_,_,_,_,_,_,rfl,rfl,h6,h7,h8⟩
   · rintro I1 hf le1 _ _ ⟨p31,c31,p41,c41,p51,c51,rfl,rfl,h61,h71,h81⟩;refine yV [25] rfl ?_;have H:=iS I1;refine xH (ih_spec_l3Text x _ hy6 h61 h71 h81) ?_;rintro I03 hs2 v2 k2 le3 - ⟨v06,rfl,rfl,rfl⟩ -;have H:=H.trans le3;exact xB H
   · intro I1 hf le1;exact yV [26] rfl<|fA rfl hy7<|xB iR
   · intro I1 hf le1;exact yV [30,34] rfl<|zIM rfl hy8<|xB iR
   · intro I1 hf le1;exact yV [27,35] rfl<|fA rfl hy9<|xB iR
   · intro I1 hf le1;refine yV [38] rfl ?_;have h2:=h2.mono le1;refine xT rfl rfl h2 hy10 ?_;intro ad1 ccs1 hat1 hrep1;obtain ⟨p6,c6,p7,c7,p8,c8,rfl,h10,h11,h12⟩:=wT hrep1;exact yL [] iR ⟨_,_,_,_,_,_,_,rfl,rfl,hat1,h10,h11,h12⟩
   · rintro I1 hf le1 _ _ ⟨ad1,p6,c6,p7,c7,p8,c8,rfl,rfl,hat1,h10,h11,h12⟩;exact yV [39] rfl<|xO 0 hat1 (cExpr x1 p6 c6 p7 c7 p8 c8) (vA (cExpr x1 p6 c6 p7 c7 p8 c8)) rfl<|yL [] iR ⟨_,_,_,_,_,_,rfl,rfl,h10,h11,h12⟩
   · rintro I1 hf le1 _ _ ⟨p61,c61,p71,c71,p81,c81,rfl,rfl,h101,h111,h121⟩;refine yV [40] rfl ?_;have H:=iS I1;refine xH (ih_spec_l3Text x1 _ hy11 h101 h111 h121) ?_;rintro I04 hs2 v2 k2 le4 - ⟨v010,rfl,rfl,rfl⟩ -;have H:=H.trans le4;exact xB H
   · intro I1 hf le1;exact yV [36,41] rfl<|fA rfl hy12<|xB iR
   intro I1 hf le1;exact yV [42] rfl<|fA rfl hy13<|xB iR
 intro I05 le5;refine yV [43] rfl ?_;refine yM [] [2] rfl<|zK<|xD ?_;obtain rfl:=zC N;exact uE
def jZ (s:zJ):Option (Str):=do
 let y<-qR s 4
 if (!y) then
  pure (⟨[]⟩:Str)
 else
  let y1<-qY s.Write
  let s1<-cat y1 (⟨[61]⟩:Str)
  let y2<-pR s.Value
  let s2<-cat s1 y2
  pure (id s2)
theorem zE3:∀ s r,jZ s=some r->∀ {I:Imm}{p c p1 c1 p2 c2 p3 c3},(S4 I p s.Write.Subs c)->(S4 I p1 s.Value.Index.Coefs c1)->(S4 I p2 s.Value.Read.Subs c2)->(S4 I p3 s.Value.Kids c3)->RT 191 [vA (cStmt s p c p1 c1 p2 c2 p3 c3)] I [] (rL  r):=by
 intro s r N I p c p1 c1 p2 c2 p3 c3 h h1 h2 h3;unfold jZ at N;refine yJ Tryz.func191 fun B=>?_;have H:=iS I;refine yC<|vK (cStmt s p c p1 c1 p2 c2 p3 c3) ?_;intro b hb;refine wU [] []<|zZ<|yC<|tZ 1 [0] [(3,vA (cStmt s p c p1 c1 p2 c2 p3 c3))]<|bE N fun y hy N=>uZ (zAT s 4 _ hy h h1 h2 h3) ?_;intro I0 le;have ⟨h,h1,h2,h3,H⟩:=m5 le h h1 h2 h3 H;refine yM [] [5] rfl<|zK<|yG N ?_ ?_
 · intro hc N;refine yH [2] rfl<|xI<|zL ?_;obtain rfl:=zC N;exact uE
 intro hc N;refine zS<|zK<|yD ?_;obtain ⟨y1,hy1,N⟩:=zB N;obtain ⟨s1,hy2,N⟩:=zB N;obtain ⟨y2,hy3,N⟩:=zB N;obtain ⟨s2,hy4,N⟩:=zB N;refine wP [.p (vP b 0) [],.p (vA (cAccess s.Write p c)) [0],.q (vT y1.l),.q (vT s1.l),.p (vP b 2) [],.p (vA (cExpr s.Value p1 c1 p2 c2 p3 c3)) [0],.q (vT y2.l),.q (vT s2.l)] [[],[(0,false)],[(1,false)],[(2,false)],[],[(4,false)],[(5,false)],[(3,false),(6,false)]] [hB b (cStmt s p c p1 c1 p2 c2 p3 c3)] [] [(7,false)] (zY [0]) ?_ ?_
 · refine Op<|Op<|Oq ?_<|Oq ?_<|Op<|Op<|Oq ?_<|Oq ?_<|On
   · intro I1 hf le1;refine yV [7] rfl ?_;have H:=iS I1;have h:=h.mono le1;refine xH (dA s.Write _ hy1 h) ?_;rintro I01 hs2 v2 k2 le1 - ⟨v01,rfl,rfl,rfl⟩ -;have H:=H.trans le1;exact xB H
   · intro I1 hf le1;exact yV [8] rfl<|fA rfl hy2<|xB iR
   · intro I1 hf le1;refine yV [11] rfl ?_;have H:=iS I1;have ⟨h1,h2,h3⟩:=m3 le1 h1 h2 h3;refine xH (zDU s.Value _ hy3 h1 h2 h3) ?_;rintro I02 hs2 v2 k2 le2 - ⟨v02,rfl,rfl,rfl⟩ -;have H:=H.trans le2;exact xB H
   intro I1 hf le1;exact yV [9,12] rfl<|fA rfl hy4<|xB iR
 intro I03 le3;refine yV [13] rfl ?_;refine yM [] [2] rfl<|zK<|xD ?_;obtain rfl:=zC N;exact uE
def zDw (r:zJ×Bool):KT:=fun kk I' hs' v=>
  ∃ v0 v1,hs'=[]/\v=tupV [v0,v1]/\(∃ cs,v0=.agg ⟨cs⟩/\Rp.rep I' cs r.1)/\v1=.bool r.2
def jC (text:Str):Option (zJ×Bool):=do
 if (decide ((text.l.length:Int)<4)) then
  pure ((zJ.mk (zG.mk (⟨[]⟩:Str) ([]:List zA)) (zH.mk 0 0 (zA.mk ([]:List Int) 0) (zG.mk (⟨[]⟩:Str) ([]:List zA)) ([]:List zH))),false)
 else
  let (y1,y2)<-oG text 0
  let t25<-(do
    if (decide (y2<0)) then
     pure true
    else
     pure (decide (y2>=(text.l.length:Int)))
      : Option Bool)
  if t25 then
   pure ((zJ.mk (zG.mk (⟨[]⟩:Str) ([]:List zA)) (zH.mk 0 0 (zA.mk ([]:List Int) 0) (zG.mk (⟨[]⟩:Str) ([]:List zA)) ([]:List zH))),false)
  else
   let (y4,y5)<-oR text (W (y2+1)) 5
   let y6<-jZ (zJ.mk y1 y4)
   if (!(y6.l==text.l)) then
    pure ((zJ.mk (zG.mk (⟨[]⟩:Str) ([]:List zA)) (zH.mk 0 0 (zA.mk ([]:List Int) 0) (zG.mk (⟨[]⟩:Str) ([]:List zA)) ([]:List zH))),false)
   else
    pure ((zJ.mk y1 y4),true)
theorem zB8:∀ text r,jC text=some r->∀ {I:Imm} ,RT 168 [vT text.l] I [] (zDw  r):=by
 intro text r N I;unfold jC at N;refine yJ Tryz.func168 fun B=>?_;have H:=iS I;refine yC<|xU [vT ([]),z0,vI 0,vI 0,z0,vI 0,vT ([]),z0,z0] ?_;intro b hb;refine wU [] []<|zZ<|yH [11] rfl<|zK<|yG N ?_ ?_
 · intro hc N;refine yC<|yE 1 [] [12] rfl<|yZ 0 [vT ([]),z0,vI 0,vI 0,z0,vI 0,vT ([]),z0,z0] rfl<|wU [] [(3,vF)]<|xI<|zL ?_;obtain rfl:=zC N;exact xC ⟨_,_,(.cell 0 rfl rfl (by kernel_rfl) (.tmp rfl ResV.nil)),zQ,⟨_,_,rfl,rfl,⟨_,rfl,(wC ⟨_,_,_,_,rfl,(SL.nil _),(SL.nil _),(SL.nil _),(SL.nil _)⟩)⟩,rfl⟩⟩
 intro hc N;refine zS<|yX<|yE 1 [] [14] rfl ?_;obtain ⟨⟨y1,y2⟩,hy,N⟩:=zB N;refine xH (zAZ text 0 _ hy ) ?_;rintro I0 hs2 v2 k2 le - ⟨v0,v01,rfl,rfl,⟨cs,rfl,h⟩,rfl⟩ -;have H:=H.trans le;obtain ⟨p,c,rfl,h2⟩:=tD h;refine yE 5 [] [16,17] rfl<|xU [vT ([]),z0] ?_;intro b1 hb1;refine yZ 0 (cAccess y1 p c) rfl<|yM [] [5] rfl<|zZ<|yD ?_;refine uB N [hB b1 (cAccess y1 p c),hB b [vT ([]),z0,vI 0,vI 0,z0,vI 0,vT ([]),z0,z0]] (fun t25=>[(0,vT text.l),(2,vP b 0),(4,vP b1 0),(5,vI y2),(25,.bool t25)]) (fun o0 ho0=>?_) ?_
 · have H:=iS I0;refine zM<|yE 3 [] [20] rfl<|wO [20] ho0 ?_ ?_
   · intro hc1 N;exact wU [] [(25,vY)]<|yW<|zU (ct N H)
   intro hc1 N;exact yM [] [25] rfl<|yW<|zU (ct N H)
 intro t25 I01 le1 hMc;have h2:=h2.mono le1;refine zK<|yG hMc ?_ ?_
 · intro hc2 N;refine yC<|yE 1 [] [26] rfl<|yZ 1 [vT ([]),z0,vI 0,vI 0,z0,vI 0,vT ([]),z0,z0] rfl<|wU [] [(3,vF)]<|xI<|zL ?_;obtain rfl:=zC N;exact xC ⟨_,_,(.cell 1 rfl rfl (by kernel_rfl) (.tmp rfl ResV.nil)),zQ,⟨_,_,rfl,rfl,⟨_,rfl,(wC ⟨_,_,_,_,rfl,(SL.nil _),(SL.nil _),(SL.nil _),(SL.nil _)⟩)⟩,rfl⟩⟩
 intro hc2 N;refine zS<|yX<|yE 3 [] [28,30] rfl ?_;obtain ⟨⟨y4,y5⟩,hy1,N⟩:=zB N;refine xH (zGf text (W (y2+1)) 5 _ hy1 ) ?_;rintro I02 hs2 v2 k2 le2 - ⟨v03,v04,rfl,rfl,⟨cs1,rfl,h3⟩,rfl⟩ -;have h2:=h2.mono le2;obtain ⟨p1,c1,p2,c2,p3,c3,rfl,h5,h6,h7⟩:=wT h3;refine yE 7 [] [32,33] rfl<|xU zExpr ?_;intro b2 hb2;refine yZ 0 (cExpr y4 p1 c1 p2 c2 p3 c3) rfl<|wU [] []<|yX<|tZ 3 [1,0] [(36,vA [vT y1.Array.l,vS p y1.Subs c,vI y4.Kind,vI y4.Num,vS p1 y4.Index.Coefs c1,vI y4.Index.Const,vT y4.Read.Array.l,vS p2 y4.Read.Subs c2,vS p3 y4.Kids c3])]<|xU [vT ([]),z0,vI 0,vI 0,z0,vI 0,vT ([]),z0,z0] ?_;intro b3 hb3;refine yZ 0 [vT y1.Array.l,vS p y1.Subs c,vI y4.Kind,vI y4.Num,vS p1 y4.Index.Coefs c1,vI y4.Index.Const,vT y4.Read.Array.l,vS p2 y4.Read.Subs c2,vS p3 y4.Kids c3] rfl<|zX rfl<|zZ<|yC<|tZ 1 [0] [(37,vA [vT y1.Array.l,vS p y1.Subs c,vI y4.Kind,vI y4.Num,vS p1 y4.Index.Coefs c1,vI y4.Index.Const,vT y4.Read.Array.l,vS p2 y4.Read.Subs c2,vS p3 y4.Kids c3])]<|bE N fun y6 hy2 N=>xH (zE3 (zJ.mk y1 y4) _ hy2 h2 h5 h6 h7) ?_;rintro I03 hs2 v2 k2 le3 - ⟨v08,rfl,rfl,rfl⟩ -;have ⟨h2,h5,h6,h7⟩:=m4 le3 h2 h5 h6 h7;refine yM [] [40] rfl<|zK<|yG N ?_ ?_
 · intro hc3 N;refine yC<|yE 1 [] [41] rfl<|yZ 3 [vT ([]),z0,vI 0,vI 0,z0,vI 0,vT ([]),z0,z0] rfl<|wU [] [(3,vF)]<|xI<|zL ?_;obtain rfl:=zC N;exact xC ⟨_,_,(.cell 3 rfl rfl (by kernel_rfl) (.tmp rfl ResV.nil)),zQ,⟨_,_,rfl,rfl,⟨_,rfl,(wC ⟨_,_,_,_,rfl,(SL.nil _),(SL.nil _),(SL.nil _),(SL.nil _)⟩)⟩,rfl⟩⟩
 intro hc3 N;refine zS<|yX<|tZ 1 [0] [(42,vA [vT y1.Array.l,vS p y1.Subs c,vI y4.Kind,vI y4.Num,vS p1 y4.Index.Coefs c1,vI y4.Index.Const,vT y4.Read.Array.l,vS p2 y4.Read.Subs c2,vS p3 y4.Kids c3])]<|yZ 3 [vT y1.Array.l,vS p y1.Subs c,vI y4.Kind,vI y4.Num,vS p1 y4.Index.Coefs c1,vI y4.Index.Const,vT y4.Read.Array.l,vS p2 y4.Read.Subs c2,vS p3 y4.Kids c3] rfl<|wU [] [(3,vY)]<|zK<|xD ?_;obtain rfl:=zC N;exact xC ⟨_,_,(.cell 3 rfl rfl (by kernel_rfl) (.tmp rfl ResV.nil)),zQ,⟨_,_,rfl,rfl,⟨_,rfl,(wC ⟨_,_,_,_,rfl,h2,h5,h6,h7⟩)⟩,rfl⟩⟩
def zGG (r:zF):KT:=fun kk I' hs' v=>
  ∃ (a0:Option Addr) (c0:Nat) (s0:List Value) (a1:Option Addr) (c1:Nat) (s1:List Value) (raws:List Raw2) (vN vB:Value) (nl:List zE) (bl:List zJ) (csN csB:List Value),
    hs'=[hO zD (vS a0 r.Arrays c0) s0,hO Raw2 (vS a1 raws c1) s1,hO zE vN csN,hO zJ vB csB]/\v=tupV [vA [vS a0 r.Arrays c0,vS a1 raws c1]]/\L4 I' s0 r.Arrays s1 raws r.Parts vN nl vB bl csN csB
def zAA (p:zF) (line:Str):Option (zF):=do
 let y<-jQ line
 let t17<-(do
   if (decide ((y.length:Int)>0)) then
    let x<-idx y 0
    pure (x.l==([97,114,114,97,121]:List UInt8))
   else
    pure false
     : Option Bool)
 if t17 then
  let y1<-eX y
  let l<-app 40 p.Arrays ([y1]:List zD)
  pure (zF.mk l p.Parts)
 else
  if (line.l==([112,97,114,116]:List UInt8)) then
   let l1<-app 48 p.Parts ([(zI.mk ([]:List zE) ([]:List zJ))]:List zI)
   pure (zF.mk p.Arrays l1)
  else
   let t43<-(do
     if (decide ((W ((p.Parts.length:Int) - 1))>=0)) then
      if (decide ((y.length:Int)>0)) then
       let x1<-idx y 0
       pure (x1.l==([102,111,114]:List UInt8))
      else
       pure false
     else
      pure false
       : Option Bool)
   if t43 then
    let x2<-idx p.Parts (W ((p.Parts.length:Int) - 1))
    let y2<-dZ line
    let l2<-app 48 x2.Nest ([y2]:List zE)
    pure (zF.mk p.Arrays (p.Parts.set (W ((p.Parts.length:Int) - 1)).toNat (zI.mk l2 x2.Body)))
   else
    if (decide ((W ((p.Parts.length:Int) - 1))>=0)) then
     let x4<-idx p.Parts (W ((p.Parts.length:Int) - 1))
     let (y4,y5)<-jC line
     let l3<-app 152 x4.Body ([y4]:List zJ)
     pure (zF.mk p.Arrays (p.Parts.set (W ((p.Parts.length:Int) - 1)).toNat (zI.mk x4.Nest l3)))
    else
     pure (id p)
theorem zH7:∀ p line r,zAA p line=some r->∀ {I:Imm}{p1 c cs p2 c1 cs1}{raws:List Raw2}{vN vB:Value}{nl:List zE}{bl:List zJ}{csN csB:List Value},
    L4 I cs p.Arrays cs1 raws p.Parts vN nl vB bl csN csB->RT 134 [vA [vS p1 p.Arrays c,vS p2 raws c1],vT line.l] I [hO zD (vS p1 p.Arrays c) cs,hO Raw2 (vS p2 raws c1) cs1,hO zE vN csN,hO zJ vB csB] (zGG r):=by
 intro p line r N I p1 c cs p2 c1 cs1 raws vN vB nl bl csN csB hQ
 unfold zAA at N
 simp only [hQ.lp.len] at N
 refine yJ Tryz.func134 fun B=>yC<|vK [vS p1 p.Arrays c,vS p2 raws c1] ?_
 intro b hb
 refine xU zTwo ?_
 intro b1 hb1
 refine zX rfl<|yX<|yE 1 [] [11] rfl ?_
 obtain ⟨y,hy,N⟩:=zB N
 refine xH (zCB line _ hy ) ?_
 rintro I0 hs2 v2 k2 le - ⟨v0,rfl,rfl,h2⟩ -
 have hQ:=hQ.mono le
 obtain ⟨p3,c2,rfl⟩:=h2.form
 refine yM [] [5] rfl<|yX<|yM [1] [6] rfl<|zZ<|yF<|yD ?_
 obtain ⟨o0,ho0,N⟩:=zB N
 refine nN (K1 o0 I0 [hB b1 zTwo,hB b [vS p1 p.Arrays c,vS p2 raws c1],hO zD (vS p1 p.Arrays c) cs,hO Raw2 (vS p2 raws c1) cs1,hO zE vN csN,hO zJ vB csB] fun t17=>[(1,vT line.l),(2,vP b 0),(4,vP b1 0),(5,vS p3 y c2),(6,vI (W ((raws.length:Int) - 1))),(17,.bool t17)]) ?_ ?_
 · refine zM<|yE 4 [] [21] rfl ?_
   cases hc:(decide ((y.length:Int)>0)) with
   | true =>
    have hM0:=tC hc ho0
    refine yE 5 [] [22] rfl ?_
    obtain ⟨x,hy1,N⟩:=zB hM0
    refine xT rfl rfl h2 hy1 ?_
    intro ad ccs hat hrep
    obtain rfl:=hrep
    exact xO 0 hat [vT x.l] (vT x.l) rfl<|yM [] [17] rfl<|yW<|zU ⟨_,(zC N).symm,Imm.le.refl _,rfl,rfl⟩
   | false =>
    have hM01:=uL hc ho0
    exact wU [] [(17,vF)]<|yW<|zU ⟨_,(zC hM01).symm,Imm.le.refl _,rfl,rfl⟩
 rintro I01 hs2 m2 ⟨t17,heq,le1,rfl,rfl⟩
 subst o0
 have h2:=h2.mono le1
 have hQ:=hQ.mono le1
 refine zK<|yG N ?_ ?_
 · intro hc1 N
   obtain ⟨y1,hy2,N⟩:=zB N
   obtain ⟨l,hy3,N⟩:=zB N
   refine wP [.p (vP b 0) [],.p (vS p1 p.Arrays c) [1],.p (vS p3 y c2) [],.x (eVArr y1),.x (fun I' v hx=>∃ b2,v=vS (some ⟨b2,0,none⟩) ([y1]:List zD) 1/\hx=[]/\(SL I' (vS (some ⟨b2,0,none⟩) ([y1]:List zD) 1) ([y1]:List zD))),.x (fun I' v hx=>∃ p5 c4 cs3,v=vS p5 l c4/\hx=[hO zD (vS p5 l c4) cs3]/\(RL I' cs3 l))] [[],[(0,false)],[],[(2,false)],[(3,false)],[(1,false),(4,false),(8,true)]] [hB b1 zTwo,hB b [vS p1 p.Arrays c,vS p2 raws c1],hO Raw2 (vS p2 raws c1) cs1,hO zE vN csN,hO zJ vB csB] [[hO zD (vS p1 p.Arrays c) cs]] [(5,true)] (zY [0,1,3,4,5,2]) ?_ ?_
   · refine Op<|Op<|Op<|Ox ?_<|Ox ?_<|Ox ?_<|On
     · intro I1 hf le1
       refine yV [29] rfl<|xH (zGd y _ hy2 (h2.mono le1)) ?_
       rintro I02 hs2 v2 k2 le2 - ⟨v01,rfl,rfl,⟨cs2,rfl,h3⟩⟩ -
       obtain ⟨v02,rfl,h4⟩:=zCp h3
       obtain ⟨p4,c3,rfl⟩:=h4.form
       exact yL [] le2 ⟨_,_,rfl,rfl,h4⟩
     · intro I1 hf le1
       refine vL ?_
       rintro _ _ ⟨p4,c3,rfl,rfl,h4⟩
       refine yV [30] rfl<|tK (cArr y1 p4 c3) zD ?_
       intro b2 hb2
       have h5:RL I1 (cArr y1 p4 c3) ([y1]:List zD):=⟨(cArr y1 p4 c3),_,rfl,rfl,(uO ⟨_,rfl,h4⟩),rfl⟩
       refine xX 0 rfl ?_
       intro I03 le3 hl0
       exact yL [] le3 ⟨_,rfl,rfl,SL.of_frozen hl0 le3 h5⟩
     intro I1 hf le1
     refine vL ?_
     rintro _ _ ⟨rfl,rfl⟩
     refine vL ?_
     rintro _ _ ⟨b2,rfl,rfl,h6⟩
     refine vL ?_
     rintro _ _ rfl
     refine yV [28,31] rfl ?_
     obtain ⟨ccs1,k0,k01⟩:=h6
     refine qD 60 2 0 rfl rfl rfl (hQ.mono le1).arr (.inl k0) k01 hy3 ?_
     intro p5 c4 cs3 h7
     exact vH (hs':=(hO zD (vS p5 l c4) cs3::(hB b1 zTwo::hB b [vS p1 p.Arrays c,vS p2 raws c1]::hO Raw2 (vS p2 raws c1) cs1::hO zE vN csN::hO zJ vB csB::hf))) rfl<|yL [hO zD (vS p5 l c4) cs3] iR ⟨_,_,_,rfl,rfl,h7⟩
   intro I04 le4
   refine vL ?_
   rintro _ _ ⟨p5,c4,cs3,rfl,rfl,h7⟩
   refine yV [2,4,32] rfl ?_
   have hQ:=hQ.mono le4
   refine yE 7 [] [33] rfl<|yZ 2 [vS p5 l c4,vS p2 raws c1] rfl<|zX rfl<|zO<|yX<|tZ 1 [2] [(98,vA [vS p5 l c4,vS p2 raws c1])]<|yZ 1 [vS p5 l c4,vS p2 raws c1] rfl<|zX rfl<|zK<|xD ?_
   obtain rfl:=zC N
   exact xC ⟨_,_,(.cell 1 rfl rfl (by kernel_rfl) ResV.nil),(zW [0,3,4,5] rfl (by decide)),⟨_,_,_,_,_,_,_,_,_,_,_,_,_,rfl,rfl,⟨h7,hQ.raw,hQ.lp,hQ.n,hQ.b⟩⟩⟩
 intro hc1 N
 refine yH [34] rfl<|zK<|yG N ?_ ?_
 · intro hc2 N
   refine qX 4 rfl ?_
   intro I05 le5 hl5
   have kN:=SL.of_frozen hl5 le5 hQ.n
   have hQ:=hQ.mono le5
   refine qX 4 rfl ?_
   intro I06 le6 hl6
   have kB:=SL.of_frozen hl6 le6 hQ.b
   replace kN:=kN.mono le6
   have hQ:=hQ.mono le6
   obtain ⟨l1,hy4,N⟩:=zB N
   have hy5:=zFG (l':=raws) (m':=[(⟨z0,z0⟩:Raw2)]) hy4 hQ.lp.2.1 rfl
   have hLP:=hQ.lp.part kN kB hy4
   refine zM<|vH (hs':=[hB b1 zTwo,hB b [vS p1 p.Arrays c,vS p2 raws c1],hO zD (vS p1 p.Arrays c) cs,hO Raw2 (vS p2 raws c1) cs1]) rfl<|tZ 3 [1] [(38,vS p2 raws c1),(39,vA zTwo)]<|tK zTwo Raw2 ?_
   intro b3 hb3
   have h8:RL I06 zTwo [(⟨z0,z0⟩:Raw2)]:=⟨zTwo,[],rfl,rfl,⟨rfl,rfl,rfl⟩,rfl⟩
   refine qD 85 2 4 rfl rfl rfl hQ.raw (.inr ⟨0,rfl⟩) h8 hy5 ?_
   intro p6 c5 cs4 h9
   refine sW (zY [1,2,3,4] (hs':=[hB b1 zTwo,hB b [vS p1 p.Arrays c,vS p2 raws c1],hO zD (vS p1 p.Arrays c) cs,hO Raw2 (vS p6 (raws++[(⟨z0,z0⟩:Raw2)]) c5) cs4]))<|yE 6 [] [42] rfl<|yZ 1 [vS p1 p.Arrays c,vS p6 (raws++[(⟨z0,z0⟩:Raw2)]) c5] rfl<|zX rfl<|zO<|yX<|tZ 1 [1] [(98,vA [vS p1 p.Arrays c,vS p6 (raws++[(⟨z0,z0⟩:Raw2)]) c5])]<|yZ 0 [vS p1 p.Arrays c,vS p6 (raws++[(⟨z0,z0⟩:Raw2)]) c5] rfl<|zX rfl<|xI<|wG (gZ (Rp.sz zJ))<|wG (gZ (Rp.sz zE)) ?_
   obtain rfl:=zC N
   exact xC ⟨_,_,(.cell 2 rfl rfl (by kernel_rfl) ResV.nil),(zW [4,5,0,1] rfl (by decide)),⟨_,_,_,_,_,_,_,_,_,_,_,_,_,rfl,rfl,⟨hQ.arr,h9,hLP,RepL.nil,RepL.nil⟩⟩⟩
 intro hc2 N
 refine yD ?_
 obtain ⟨o01,ho01,N⟩:=zB N
 refine nN (K1 o01 I01 [hB b1 zTwo,hB b [vS p1 p.Arrays c,vS p2 raws c1],hO zD (vS p1 p.Arrays c) cs,hO Raw2 (vS p2 raws c1) cs1,hO zE vN csN,hO zJ vB csB] fun t43=>[(1,vT line.l),(2,vP b 0),(4,vP b1 0),(6,vI (W ((raws.length:Int) - 1))),(43,.bool t43)]) ?_ ?_
 · refine zM<|yE 3 [] [46] rfl ?_
   cases hc3:(decide ((W ((raws.length:Int) - 1))>=0)) with
   | true =>
    have hM02:=tC hc3 ho01
    refine yE 8 [] [51] rfl ?_
    cases hc4:(decide ((y.length:Int)>0)) with
    | true =>
     have hM03:=tC hc4 hM02
     refine yE 9 [] [52] rfl ?_
     obtain ⟨x1,hy5,N⟩:=zB hM03
     refine xT rfl rfl h2 hy5 ?_
     intro ad1 ccs2 hat1 hrep1
     obtain rfl:=hrep1
     exact xO 0 hat1 [vT x1.l] (vT x1.l) rfl<|yM [] [43] rfl<|yW<|zU ⟨_,(zC N).symm,Imm.le.refl _,rfl,rfl⟩
    | false =>
     have hM04:=uL hc4 hM02
     exact wU [] [(43,vF)]<|yW<|zU ⟨_,(zC hM04).symm,Imm.le.refl _,rfl,rfl⟩
   | false =>
    have hM05:=uL hc3 ho01
    exact wU [] [(43,vF)]<|yW<|zU ⟨_,(zC hM05).symm,Imm.le.refl _,rfl,rfl⟩
 rintro I05 hs2 m2 ⟨t43,heq1,le5,rfl,rfl⟩
 subst o01
 have hQ:=hQ.mono le5
 refine zK<|yG N ?_ ?_
 · intro hc5 N
   refine yC<|yE 3 [1] [58,59] rfl ?_
   obtain ⟨x2,hy6,N⟩:=zB N
   obtain ⟨rfl,hyr,hset⟩:=hQ.lp.last hy6
   refine nU 3 rfl rfl rfl hQ.raw hyr ?_
   intro ad2 ccs3 hat2 hcc hrep2
   obtain ⟨rfl,o1,o2⟩:=hrep2
   refine zBu 3 0 hat2 hcc [vN,vB] (vA [vN,vB]) rfl rfl<|xU zTwo ?_
   intro b4 hb4
   refine zNw 0 [vN,vB] (hB b4 [vN,vB]::[hB b1 zTwo,hB b [vS p1 p.Arrays c,vS p2 raws c1],hO zD (vS p1 p.Arrays c) cs,hO Raw2 (vS p2 raws c1) cs1,hO zE vN csN,hO zJ vB csB]) rfl rfl rfl rfl (by simp [Value.cells,o1,o2])<|zX rfl<|zK<|yD ?_
   obtain ⟨y2,hy7,N⟩:=zB N
   obtain ⟨l2,hy8,N⟩:=zB N
   refine wP [.p (vP b4 0) [],.p vN [0],.p (vT line.l) [],.x (eVLoop y2),.x (fun I' v hx=>∃ b5,v=vS (some ⟨b5,0,none⟩) ([y2]:List zE) 1/\hx=[]/\(SL I' (vS (some ⟨b5,0,none⟩) ([y2]:List zE) 1) ([y2]:List zE))),.x (fun I' v hx=>∃ p11 c10 cs3,v=vS p11 l2 c10/\hx=[hO zE (vS p11 l2 c10) cs3]/\(RL I' cs3 l2))] [[],[(0,false)],[],[(2,false)],[(3,false)],[(1,false),(4,false),(8,true)]] [hB b4 [vN,vB],hB b1 zTwo,hB b [vS p1 p.Arrays c,vS p2 raws c1],hO zD (vS p1 p.Arrays c) cs,hO Raw2 (vS p2 raws c1) cs1,hO zJ vB csB] [[hO zE vN csN]] [(5,true)] (zY [0,1,2,3,4,6,5]) ?_ ?_
   · refine Op<|Op<|Op<|Ox ?_<|Ox ?_<|Ox ?_<|On
     · intro I1 hf le1
       refine yV [64] rfl<|xH (zH6 line _ hy7 ) ?_
       rintro I06 hs2 v2 k2 le6 - ⟨v05,rfl,rfl,⟨cs5,rfl,h12⟩⟩ -
       obtain ⟨v06,v07,rfl,h13,h14⟩:=zDL h12
       obtain ⟨p9,c8,rfl⟩:=h13.form
       obtain ⟨p10,c9,rfl⟩:=h14.form
       exact yL [] le6 ⟨_,_,_,_,rfl,rfl,h13,h14⟩
     · intro I1 hf le1
       refine vL ?_
       rintro _ _ ⟨p9,c8,p10,c9,rfl,rfl,h13,h14⟩
       refine yV [65] rfl<|tK (cLoop y2 p9 c8 p10 c9) zE ?_
       intro b5 hb5
       have h15:RL I1 (cLoop y2 p9 c8 p10 c9) ([y2]:List zE):=⟨(cLoop y2 p9 c8 p10 c9),_,rfl,rfl,(uP ⟨_,_,rfl,h13,h14⟩),rfl⟩
       refine xX 0 rfl ?_
       intro I07 le7 hl01
       exact yL [] le7 ⟨_,rfl,rfl,SL.of_frozen hl01 le7 h15⟩
     intro I1 hf le1
     refine vL ?_
     rintro u _ ⟨hu,rfl⟩
     have hu:=hu.symm
     subst hu
     refine vL ?_
     rintro _ _ ⟨b5,rfl,rfl,h16⟩
     refine vL ?_
     rintro _ _ rfl
     refine yV [63,66] rfl ?_
     obtain ⟨ccs4,k0,k01⟩:=h16
     refine qD 130 2 0 rfl rfl rfl (hQ.mono le1).n (.inl k0) k01 hy8 ?_
     intro p11 c10 cs3 h17
     exact vH (hs':=(hO zE (vS p11 l2 c10) cs3::(hB b4 [vN,vB]::hB b1 zTwo::hB b [vS p1 p.Arrays c,vS p2 raws c1]::hO zD (vS p1 p.Arrays c) cs::hO Raw2 (vS p2 raws c1) cs1::hO zJ vB csB::hf))) rfl<|yL [hO zE (vS p11 l2 c10) cs3] iR ⟨_,_,_,rfl,rfl,h17⟩
   intro I08 le8
   refine vL ?_
   rintro _ _ ⟨p11,c10,cs3,rfl,rfl,h17⟩
   refine yV [2,4,6,7,67] rfl ?_
   have hQ:=hQ.mono le8
   refine yE 7 [] [68] rfl<|yZ 1 [vS p11 l2 c10,vB] rfl<|zX rfl<|zK<|zM<|tZ 4 [3,1] [(70,vS p2 raws c1),(71,vI (W ((raws.length:Int) - 1))),(72,vA [vS p11 l2 c10,vB])]<|nU 5 rfl rfl rfl hQ.raw hyr ?_
   intro ad3 ccs5 hat3 hcc1 hrep3
   obtain ⟨rfl,-⟩:=hrep3
   refine qE (α:=Raw2) (c:=[vS p11 l2 c10,vB]) (x':=⟨vS p11 l2 c10,vB⟩) 5 0 rfl rfl rfl hat3 rfl rfl hcc1 (by kernel_rfl) (by kernel_rfl) (by simp [Value.cells,o2]; rfl) hQ.raw hyr (by kernel_rfl) ⟨rfl,rfl,o2⟩ ?_
   intro cs6 h19 hl02
   refine vH (hs':=[hO zE (vS p11 l2 c10) cs3,hB b4 [vS p11 l2 c10,vB],hB b1 zTwo,hB b [vS p1 p.Arrays c,vS p2 raws c1],hO zD (vS p1 p.Arrays c) cs,hO Raw2 (vS p2 raws c1) cs6,hO zJ vB csB]) rfl<|zX rfl<|zO<|yX<|tZ 1 [3] [(98,vA [vS p1 p.Arrays c,vS p2 raws c1])]<|yZ 2 [vS p1 p.Arrays c,vS p2 raws c1] rfl<|zX rfl<|zK<|xD ?_
   obtain rfl:=zC N
   exact xC ⟨[vA [vS p1 p.Arrays c,vS p2 raws c1]],_,(.cell 2 rfl rfl (by kernel_rfl) ResV.nil),(zW [4,5,0,6] rfl (by decide)),⟨p1,c,cs,p2,c1,cs6,raws.set (W ((raws.length:Int) - 1)).toNat ⟨vS p11 l2 c10,vB⟩,vS p11 l2 c10,vB,l2,bl,cs3,csB,(by simp only [vS,hl02]),(by simp only [vS,hl02]),⟨hQ.arr,h19,(hset _ _ _ _).mono le8,h17,hQ.b⟩⟩⟩
 intro hc5 N
 refine yH [74] rfl<|zK<|yG N ?_ ?_
 · intro hc6 N
   refine yC<|yE 3 [1] [78,79] rfl ?_
   obtain ⟨x4,hy10,N⟩:=zB N
   obtain ⟨rfl,hyr,hset⟩:=hQ.lp.last hy10
   refine nU 3 rfl rfl rfl hQ.raw hyr ?_
   intro ad4 ccs5 hat4 hcc2 hrep4
   obtain ⟨rfl,o1,o2⟩:=hrep4
   refine zBu 3 0 hat4 hcc2 [vN,vB] (vA [vN,vB]) rfl rfl<|xU zTwo ?_
   intro b6 hb6
   refine zNw 0 [vN,vB] (hB b6 [vN,vB]::[hB b1 zTwo,hB b [vS p1 p.Arrays c,vS p2 raws c1],hO zD (vS p1 p.Arrays c) cs,hO Raw2 (vS p2 raws c1) cs1,hO zE vN csN,hO zJ vB csB]) rfl rfl rfl rfl (by simp [Value.cells,o1,o2])<|zX rfl<|yX<|tZ 1 [] [(83,vT line.l)] ?_
   obtain ⟨⟨y4,y5⟩,hy11,N⟩:=zB N
   refine xH (zB8 line _ hy11 ) ?_
   rintro I09 hs2 v2 k2 le9 - ⟨v012,v013,rfl,rfl,⟨cs7,rfl,h22⟩,rfl⟩ -
   have hQ:=hQ.mono le9
   obtain ⟨v014,v015,v016,v017,rfl,h24,h25,h26,h27⟩:=mY h22
   obtain ⟨p15,c14,rfl⟩:=h24.form
   obtain ⟨p16,c15,rfl⟩:=h25.form
   obtain ⟨p17,c16,rfl⟩:=h26.form
   obtain ⟨p18,c17,rfl⟩:=h27.form
   refine yE 5 [] [85,86] rfl<|xU [vT ([]),z0,vI 0,vI 0,z0,vI 0,vT ([]),z0,z0] ?_
   intro b7 hb7
   refine eQ 0 (cStmt y4 p15 c14 p16 c15 p17 c16 p18 c17) (hB b7 (cStmt y4 p15 c14 p16 c15 p17 c16 p18 c17)::hB b6 [vN,vB]::[hB b1 zTwo,hB b [vS p1 p.Arrays c,vS p2 raws c1],hO zD (vS p1 p.Arrays c) cs,hO Raw2 (vS p2 raws c1) cs1,hO zE vN csN,hO zJ vB csB]) rfl rfl rfl rfl<|wU [] []<|yX<|tZ 3 [1,0] [(88,vB),(89,vA (cStmt y4 p15 c14 p16 c15 p17 c16 p18 c17))]<|tK (cStmt y4 p15 c14 p16 c15 p17 c16 p18 c17) zJ ?_
   intro b8 hb8
   have h28:RL I09 (cStmt y4 p15 c14 p16 c15 p17 c16 p18 c17) ([y4]:List zJ):=⟨(cStmt y4 p15 c14 p16 c15 p17 c16 p18 c17),_,rfl,rfl,(wC ⟨_,_,_,_,rfl,h24,h25,h26,h27⟩),rfl⟩
   obtain ⟨l3,hy12,N⟩:=zB N
   refine qD 74 9 8 rfl rfl rfl hQ.b (.inr ⟨0,rfl⟩) h28 hy12 ?_
   intro p19 c18 cs9 h29
   refine sW (zY [2,3,4,5,6,7,8] (hs':=[hB b6 [vN,vB],hB b1 zTwo,hB b [vS p1 p.Arrays c,vS p2 raws c1],hO zD (vS p1 p.Arrays c) cs,hO Raw2 (vS p2 raws c1) cs1,hO zE vN csN,hO zJ (vS p19 l3 c18) cs9]))<|yE 6 [] [92] rfl<|yZ 0 [vN,vS p19 l3 c18] rfl<|zX rfl<|zK<|zM<|tZ 4 [2,0] [(94,vS p2 raws c1),(95,vI (W ((raws.length:Int) - 1))),(96,vA [vN,vS p19 l3 c18])]<|nU 4 rfl rfl rfl hQ.raw hyr ?_
   intro ad5 ccs6 hat5 hcc3 hrep5
   obtain ⟨rfl,-⟩:=hrep5
   refine qE (α:=Raw2) (c:=[vN,vS p19 l3 c18]) (x':=⟨vN,vS p19 l3 c18⟩) 4 0 rfl rfl rfl hat5 rfl rfl hcc3 (by kernel_rfl) (by kernel_rfl) (by simp [Value.cells,o1]; rfl) hQ.raw hyr (by kernel_rfl) ⟨rfl,o1,rfl⟩ ?_
   intro cs8 h31 hl03
   refine vH (hs':=[hB b6 [vN,vS p19 l3 c18],hB b1 zTwo,hB b [vS p1 p.Arrays c,vS p2 raws c1],hO zD (vS p1 p.Arrays c) cs,hO Raw2 (vS p2 raws c1) cs8,hO zE vN csN,hO zJ (vS p19 l3 c18) cs9]) rfl<|zX rfl<|zO<|yX<|tZ 1 [2] [(98,vA [vS p1 p.Arrays c,vS p2 raws c1])]<|yZ 1 [vS p1 p.Arrays c,vS p2 raws c1] rfl<|zX rfl<|zK<|xD ?_
   obtain rfl:=zC N
   exact xC ⟨[vA [vS p1 p.Arrays c,vS p2 raws c1]],_,(.cell 1 rfl rfl (by kernel_rfl) ResV.nil),(zW [3,4,5,6] rfl (by decide)),⟨p1,c,cs,p2,c1,cs8,raws.set (W ((raws.length:Int) - 1)).toNat ⟨vN,vS p19 l3 c18⟩,vN,vS p19 l3 c18,nl,l3,csN,cs9,(by simp only [vS,hl03]),(by simp only [vS,hl03]),⟨hQ.arr,h31,(hset _ _ _ _).mono le9,hQ.n,h29⟩⟩⟩
 intro hc6 N
 refine zS<|zO<|yX<|tZ 1 [1] [(98,vA [vS p1 p.Arrays c,vS p2 raws c1])]<|yZ 0 [vS p1 p.Arrays c,vS p2 raws c1] rfl<|zX rfl<|zK<|xD ?_
 obtain rfl:=zC N
 exact xC ⟨_,_,(.cell 0 rfl rfl (by kernel_rfl) ResV.nil),(zW [2,3,4,5] rfl (by decide)),⟨_,_,_,_,_,_,_,_,_,_,_,_,_,rfl,rfl,hQ⟩⟩
def uR (x:zD) (k0:Int):Option (Out Unit (Bool)):=do
 if (decide (k0<(x.Dims.length:Int))) then
  let t77<-(do
    let x2<-idx x.Dims k0
    if (decide (x2<1)) then
     pure true
    else
     let x3<-idx x.Dims k0
     pure (decide (x3>6))
      : Option Bool)
  if t77 then
   pure (.ret false)
  else
   uR x (W (k0+1))
 else
  pure (.done ())
 partial_fixpoint
theorem zDx (x:zD):∀ (k0:Int) (o:Out Unit (Bool)),uR x k0=some o->∀ {B}{I0 I:Imm}{Q}{list:(List zD)}{i:Int}{p c p1 c1}{b:Nat},I0.le I->(S4 I p list c)->(S4 I p1 x.Dims c1)->NG Q->NO Q->(∀ (I':Imm) ,o=(.done ())->I0.le I'->T 81 B Q (.exit 2) I' [] [(0,vS p list c),(3,vI i)])->(∀ r I' hs' m',o=(.ret r)->I0.le I'->RS Tryz.prog Tryz.f68 B (zT  r) I' hs' m'->T 81 B Q .ret I' hs' m')->J Tryz.prog 81 B (nav (bodyOf Tryz.f68) [1,0,1,0,0,1,0,0,1,1,1,0]) Q I [hB b (cArr x p1 c1)] [(0,vS p list c),(3,vI i),(4,vP b 0),(5,vI k0)]:=by
 refine uR.partial_correctness x _ fun self ih k0 o N B I0 I Q list i p c p1 c1 b H h h1 hg ho hx hr=>yU hg ho<|yD<|yC<|yM [0] [61] rfl<|zK<|yG N ?_ ?_
 · intro hc9 N;refine zS<|zZ<|yF<|yD ?_;refine uB N [hB b (cArr x p1 c1)] (fun t77=>[(0,vS p list c),(3,vI i),(4,vP b 0),(5,vI k0),(77,.bool t77)]) (fun o01 ho01=>?_) ?_
   · have H:=iS I;refine zM<|yE 3 [0] [65,66] rfl ?_;obtain ⟨x2,hy2,N⟩:=zB ho01;refine xT rfl rfl h1 hy2 ?_;intro ad2 ccs2 hat2 hrep2;obtain rfl:=hrep2;refine xO 0 hat2 [vI x2] (vI x2) rfl<|yE 7 [] [70] rfl<|wO [70] N ?_ ?_
     · intro hc10 N;exact wU [] [(77,vY)]<|yW<|zU (ct N H)
     intro hc10 N;refine yE 10 [0] [72,73] rfl<|bE N fun x3 hy3 N=>xT rfl rfl h1 hy3 ?_;intro ad3 ccs3 hat3 hrep3;obtain rfl:=hrep3;exact xO 0 hat3 [vI x3] (vI x3) rfl<|yM [] [77] rfl<|yW<|zU (ct N H)
   intro t77 I01 le1 hMc1;have ⟨h,h1,H⟩:=m3 le1 h h1 H;refine zK<|yG hMc1 ?_ ?_
   · intro hc11 N;exact vM [(2,vF)]<|xI<|zV<|zL<|zL<|hr _ _ _ _ (zC N).symm H ⟨_,_,(.tmp rfl ResV.nil),zQ,⟨_,rfl,rfl,rfl⟩⟩
   intro hc11 N;exact zS<|zO<|zK<|zM<|yM [] [5] rfl<|yT<|nT<|ih (W (k0+1)) _ N H h h1 hg ho hx hr
 intro hc9 N;exact wW<|wG zQ<|yW<|hx _  (zC N).symm H
def tQ (list:(List zD)) (i:Int):Option (Out Unit (Bool)):=do
 if (decide (i<(list.length:Int))) then
  let x<-idx list i
  let t56<-(do
    if ((x.Name.l.length:Int) != 1) then
     pure true
    else
     if (Op.bytesLess x.Name.l ([65]:List UInt8)) then
      pure true
     else
      if (!(Op.bytesLess x.Name.l ([68]:List UInt8)||x.Name.l==([68]:List UInt8))) then
       pure true
      else
       if (decide (i>0)) then
        let x1<-idx list (W (i - 1))
        if (!(Op.bytesLess x1.Name.l x.Name.l)) then
         pure true
        else
         if (decide ((x.Dims.length:Int)<1)) then
          pure true
         else
          pure (decide ((x.Dims.length:Int)>2))
       else
        if (decide ((x.Dims.length:Int)<1)) then
         pure true
        else
         pure (decide ((x.Dims.length:Int)>2))
      : Option Bool)
  if t56 then
   pure (.ret false)
  else
   match<-uR x 0 with
   | .ret r0=>pure (.ret r0)
   | .done _ =>
    tQ list (W (i+1))
 else
  pure (.done ())
 partial_fixpoint
theorem zDy (list:(List zD)):∀ (i:Int) (o:Out Unit (Bool)),tQ list i=some o->∀ {B}{I0 I:Imm}{Q p c},I0.le I->(S4 I p list c)->NG Q->NO Q->(∀ (I':Imm) ,o=(.done ())->I0.le I'->T 81 B Q (.exit 0) I' [] [(0,vS p list c)])->(∀ r I' hs' m',o=(.ret r)->I0.le I'->RS Tryz.prog Tryz.f68 B (zT  r) I' hs' m'->T 81 B Q .ret I' hs' m')->J Tryz.prog 81 B (nav (bodyOf Tryz.f68) [1,0,1,0]) Q I [] [(0,vS p list c),(3,vI i)]:=by
 refine tQ.partial_correctness list _ fun self ih i o N B I0 I Q p c H h hg ho hx hr=>yU hg ho<|yD<|yH [9] rfl<|zK<|yG N ?_ ?_
 · intro hc N;refine zS<|zZ<|yF<|yC<|yE 2 [] [12,13] rfl<|bE N fun x hy N=>xT rfl rfl h hy ?_;intro ad ccs hat hrep;obtain ⟨p1,c1,rfl,h1⟩:=xL hrep;refine xO 0 hat (cArr x p1 c1) (vA (cArr x p1 c1)) rfl<|xU [vT ([]),z0] ?_;intro b hb;refine yZ 0 (cArr x p1 c1) rfl<|zX rfl<|zZ<|yD ?_;refine uB N [hB b (cArr x p1 c1)] (fun t56=>[(0,vS p list c),(3,vI i),(4,vP b 0),(56,.bool t56)]) (fun o0 ho0=>?_) ?_
   · have H:=iS I;refine zA1 (by kernel_rfl) (by kernel_rfl)<|zBv 5 [0] [20] rfl<|zH0 [20] ho0 ?_ ?_
     · intro hc1 N;exact zKg [] [(56,vY)]<|yW<|zU (ct N H)
     intro hc1 N;refine zBv 10 [0] [25] rfl<|zH0 [25] N ?_ ?_
     · intro hc2 N;exact zKg [] [(56,vY)]<|yW<|zU (ct N H)
     intro hc2 N;refine zBv 15 [0] [30] rfl<|zH0 [30] N ?_ ?_
     · intro hc3 N;exact zKg [] [(56,vY)]<|yW<|zU (ct N H)
     intro hc3 N;refine zBv 18 [] [33] rfl<|zH0 [33] N ?_ ?_
     · intro hc4 N;refine zBv 21 [] [34,36] rfl<|bE N fun x1 hy1 N=>zFE rfl rfl h hy1 ?_;intro ad1 ccs1 hat1 hrep1;obtain ⟨p2,c2,rfl,h2⟩:=xL hrep1;refine zBv 23 [] [38] rfl<|zFD 0 hat1 [vT x1.Name.l] (vT x1.Name.l) rfl<|zBv 30 [0] [45] rfl<|zH0 [45] N ?_ ?_
       · intro hc5 N;exact zKg [] [(56,vY)]<|yW<|zU (ct N H)
       intro hc5 N;refine zBv 36 [0] [51] rfl<|zH0 [51] N ?_ ?_
       · intro hc6 N;exact zKg [] [(56,vY)]<|yW<|zU (ct N H)
       intro hc6 N;exact zKi [0] [56] rfl<|yW<|zU (ct N H)
     intro hc4 N;refine zBv 36 [0] [51] rfl<|zH0 [51] N ?_ ?_
     · intro hc7 N;exact zKg [] [(56,vY)]<|yW<|zU (ct N H)
     intro hc7 N;exact zKi [0] [56] rfl<|yW<|zU (ct N H)
   intro t56 I0 le hMc;have ⟨h,h1,H⟩:=m3 le h h1 H;refine zK<|yG hMc ?_ ?_
   · intro hc8 N;exact vM [(2,vF)]<|xI<|zL<|zV<|zL<|zL<|hr _ _ _ _ (zC N).symm H ⟨_,_,(.tmp rfl ResV.nil),zQ,⟨_,rfl,rfl,rfl⟩⟩
   intro hc8 N;refine zS<|uN [5] rfl<|wK<|pM [(0,vS p list c),(3,vI i),(4,vP b 0),(5,vI 0)] ?_;obtain ⟨o02,ho02,hMl⟩:=zB N;refine zDx x 0 o02 ho02 iR h h1 (fun _ _ _ h=>hg _ _ _ h) (fun _ _ h=>ho _ _ h) ?_ ?_
   · intro I02  heq2 le2;subst o02;have ⟨h,H⟩:=m2 le2 h H;exact zR<|zO<|zK<|zM<|yM [] [3] rfl<|yT<|nT<|ih (W (i+1)) _ hMl H h hg ho hx hr
   intro r0 I9 hs9 m9 heq9 le9 hrs9;subst heq9;exact zV<|zV<|zL<|zL<|hr _ _ _ _ (zC hMl).symm (H.trans le9) hrs9
 intro hc N;exact wW<|yW<|hx _  (zC N).symm H
def kQ (list:(List zD)):Option (Bool):=do
 match<-tQ list 0 with
 | .ret r0=>pure r0
 | .done _ =>
  pure (decide ((list.length:Int)<=4))
theorem zGH:∀ list r,kQ list=some r->∀ {I:Imm}{p c},(S4 I p list c)->RT 68 [vS p list c] I [] (zT  r):=by
 intro list r N I p c h;unfold kQ at N;refine yJ Tryz.func68 fun B=>vM []<|zZ<|yH [3] rfl<|wK<|pM [(0,vS p list c),(3,vI 0)] ?_;obtain ⟨o03,ho03,hMl1⟩:=zB N;refine zDy list 0 o03 ho03 iR h (fun _ _ _ h=>h) (fun _ _ h=>h) ?_ ?_
 · intro I03  heq3 le3;subst o03;refine zR<|uN [2] rfl<|zK<|xD ?_;obtain rfl:=zC hMl1;exact uE
 intro r0 I9 hs9 m9 heq9 le9 hrs9;subst heq9;refine zV<|zL ?_;obtain rfl:=zC hMl1;exact xC hrs9
def rM (a0:zA) (point:(List Int)) (n0:Int) (i:Int):Option (Int):=do
 let t19<-(do
   if (decide (i<(point.length:Int))) then
    pure (decide (i<(a0.Coefs.length:Int)))
   else
    pure false
     : Option Bool)
 if t19 then
  let x<-idx a0.Coefs i
  let x1<-idx point i
  rM a0 point (W (n0+(W (x*x1)))) (W (i+1))
 else
  pure (id n0)
 partial_fixpoint
theorem zFT (a0:zA) (point:(List Int)):∀ (n0:Int) (i:Int) (o:Int),rM a0 point n0 i=some o->∀ {B}{I0 I:Imm}{Q p c p1 c1}{b:Nat},I0.le I->(S4 I p1 point c1)->(S4 I p a0.Coefs c)->NG Q->NO Q->(∀ (I':Imm) (n01:Int),o=n01->I0.le I'->T 35 B Q (.exit 0) I' [] [(5,vI n01)])->J Tryz.prog 35 B (nav (bodyOf Tryz.f74) [1,1,0,1,0]) Q I [hB b (cAff a0 p c)] [(1,vS p1 point c1),(2,vP b 0),(5,vI n0),(6,vI i)]:=by
 refine rM.partial_correctness a0 point _ fun self ih n0 i o N B I0 I Q p c p1 c1 b H h1 h hg ho hx=>yU hg ho<|yD<|yD ?_;refine uB N [hB b (cAff a0 p c)] (fun t19=>[(1,vS p1 point c1),(2,vP b 0),(5,vI n0),(6,vI i),(19,.bool t19)]) (fun o0 ho0=>?_) ?_
 · have H:=iS I;refine zM<|yE 5 [] [13] rfl<|wO [13] ho0 ?_ ?_
   · intro hc N;exact yM [0] [19] rfl<|yW<|zU (ct N H)
   intro hc N;exact wU [] [(19,vF)]<|yW<|zU (ct N H)
 intro t19 I0 le hMc;have ⟨h1,h,H⟩:=m3 le h1 h H;refine zK<|yG hMc ?_ ?_
 · intro hc1 N;refine zS<|zZ<|yF<|zA1 (by kernel_rfl) (by kernel_rfl)<|zBv 4 [0] [22,24,25] rfl<|bE N fun x hy N=>zFE rfl rfl h hy ?_;intro ad ccs hat hrep;obtain rfl:=hrep;refine zFD 0 hat [vI x] (vI x) rfl<|zBv 8 [] [28,29] rfl<|bE N fun x1 hy1 N=>zFE rfl rfl h1 hy1 ?_;intro ad1 ccs1 hat1 hrep1;obtain rfl:=hrep1;exact zFD 0 hat1 [vI x1] (vI x1) rfl<|zKi [] [5] rfl<|zO<|zK<|zM<|yM [] [6] rfl<|yT<|nT<|ih (W (n0+(W (x*x1)))) (W (i+1)) _ N H h1 h hg ho hx
 intro hc1 N;exact wW<|wG zQ<|yW<|hx _ _ (zC N).symm H
def qM (a0:zA) (point:(List Int)):Option (Int):=do
 let n01<-rM a0 point a0.Const 0
 pure (id n01)
theorem fG:∀ a0 point r,qM a0 point=some r->∀ {I:Imm}{p c p1 c1},(S4 I p a0.Coefs c)->(S4 I p1 point c1)->RT 74 [vA (cAff a0 p c),vS p1 point c1] I [] (xQ  r):=by
 intro a0 point r N I p c p1 c1 h h1;unfold qM at N;refine yJ Tryz.func74 fun B=>yC<|vK (cAff a0 p c) ?_;intro b hb;refine wU [] []<|yX<|yM [0] [5] rfl<|zZ<|yH [6] rfl<|wK<|pM [(1,vS p1 point c1),(2,vP b 0),(5,vI a0.Const),(6,vI 0)] ?_;obtain ⟨o01,ho01,hMl⟩:=zB N;refine zFT a0 point a0.Const 0 o01 ho01 iR h1 h (fun _ _ _ h=>h) (fun _ _ h=>h) ?_;intro I01 n01 heq1 le1;subst o01;refine zR<|uN [4] rfl<|zK<|xD ?_;obtain rfl:=zC hMl;exact uE
def sP (loop:zE) (p2:(List Int)) (lo:Int) (i:Int):Option (Int):=do
 if (decide (i<(loop.Lo.length:Int))) then
  let x2<-idx loop.Lo i
  let y2<-qM x2 p2
  let lo2<-(do
    if (decide (y2>lo)) then
     pure (id y2)
    else
     pure (id lo)
      : Option Int)
  sP loop p2 lo2 (W (i+1))
 else
  pure (id lo)
 partial_fixpoint
theorem zE4 (loop:zE) (p2:(List Int)):∀ (lo:Int) (i:Int) (o:Int),sP loop p2 lo i=some o->∀ {B}{I0 I:Imm}{Q}{y1:Int}{p c p1 c1 p3 c2}{b:Nat},I0.le I->(S4 I p3 p2 c2)->(S4 I p loop.Lo c)->(S4 I p1 loop.Hi c1)->NG Q->NO Q->(∀ (I':Imm) (lo1:Int),o=lo1->I0.le I'->T 62 B Q (.exit 0) I' [hB b (cLoop loop p c p1 c1)] [(1,vS p3 p2 c2),(2,vP b 0),(6,vI lo1),(7,vI y1)])->J Tryz.prog 62 B (nav (bodyOf Tryz.f153) [1,1,1,0,1,0]) Q I [hB b (cLoop loop p c p1 c1)] [(1,vS p3 p2 c2),(2,vP b 0),(6,vI lo),(7,vI y1),(8,vI i)]:=by
 refine sP.partial_correctness loop p2 _ fun self ih lo i o N B I0 I Q y1 p c p1 c1 p3 c2 b H h2 h h1 hg ho hx=>yU hg ho<|yD<|yC<|yM [0] [28] rfl<|zK<|yG N ?_ ?_
 · intro hc N;refine zS<|zZ<|yF<|yC<|yE 3 [0] [32,33] rfl<|bE N fun x2 hy4 N=>xT rfl rfl h hy4 ?_;intro ad2 ccs2 hat2 hrep2;obtain ⟨p6,c5,rfl,h7⟩:=yB hrep2;refine xO 0 hat2 (cAff x2 p6 c5) (vA (cAff x2 p6 c5)) rfl<|yE 6 [] [36] rfl<|bE N fun y2 hy5 N=>fB (fG x2 p2 _ hy5 h7 h2) ?_;intro I02 le2;have ⟨h2,h,h1,H⟩:=m4 le2 h2 h h1 H;refine yM [] [9] rfl<|uN [40] rfl<|zK ?_;refine uB N [hB b (cLoop loop p c p1 c1)] (fun lo2=>[(1,vS p3 p2 c2),(2,vP b 0),(6,vI lo2),(7,vI y1),(8,vI i)]) (fun o0 ho0=>?_) ?_
   · have H:=iS I02;refine yG ho0 ?_ ?_
     · intro hc1 N;exact zM<|yM [] [6] rfl<|yW<|zU (ct N H)
     intro hc1 N;exact zS<|yW<|zU (ct N H)
   intro lo2 I03 le3 hMc;have ⟨h2,h,h1,H⟩:=m4 le3 h2 h h1 H;exact zO<|zK<|zM<|yM [] [8] rfl<|yT<|nT<|ih lo2 (W (i+1)) _ hMc H h2 h h1 hg ho hx
 intro hc N;exact wW<|yW<|hx _ _ (zC N).symm H
def sQ (loop:zE) (p2:(List Int)) (hi:Int) (i1:Int):Option (Int):=do
 if (decide (i1<(loop.Hi.length:Int))) then
  let x3<-idx loop.Hi i1
  let y3<-qM x3 p2
  let hi2<-(do
    if (decide (y3<hi)) then
     pure (id y3)
    else
     pure (id hi)
      : Option Int)
  sQ loop p2 hi2 (W (i1+1))
 else
  pure (id hi)
 partial_fixpoint
theorem zE5 (loop:zE) (p2:(List Int)):∀ (hi:Int) (i1:Int) (o:Int),sQ loop p2 hi i1=some o->∀ {B}{I0 I:Imm}{Q}{lo1:Int}{p c p1 c1 p3 c2}{b:Nat},I0.le I->(S4 I p3 p2 c2)->(S4 I p loop.Lo c)->(S4 I p1 loop.Hi c1)->NG Q->NO Q->(∀ (I':Imm) (hi1:Int),o=hi1->I0.le I'->T 62 B Q (.exit 2) I' [] [(6,vI lo1),(7,vI hi1)])->J Tryz.prog 62 B (nav (bodyOf Tryz.f153) [1,1,1,1,0,1,0]) Q I [hB b (cLoop loop p c p1 c1)] [(1,vS p3 p2 c2),(2,vP b 0),(6,vI lo1),(7,vI hi),(10,vI i1)]:=by
 refine sQ.partial_correctness loop p2 _ fun self ih hi i1 o N B I0 I Q lo1 p c p1 c1 p3 c2 b H h2 h h1 hg ho hx=>yU hg ho<|yD<|yC<|yM [0] [46] rfl<|zK<|yG N ?_ ?_
 · intro hc2 N;refine zS<|zZ<|yF<|yC<|yE 3 [0] [50,51] rfl<|bE N fun x3 hy6 N=>xT rfl rfl h1 hy6 ?_;intro ad3 ccs3 hat3 hrep3;obtain ⟨p7,c6,rfl,h9⟩:=yB hrep3;refine xO 0 hat3 (cAff x3 p7 c6) (vA (cAff x3 p7 c6)) rfl<|yE 6 [] [54] rfl<|bE N fun y3 hy7 N=>fB (fG x3 p2 _ hy7 h9 h2) ?_;intro I05 le5;have ⟨h2,h,h1,H⟩:=m4 le5 h2 h h1 H;refine yM [] [11] rfl<|uN [58] rfl<|zK ?_;refine uB N [hB b (cLoop loop p c p1 c1)] (fun hi2=>[(1,vS p3 p2 c2),(2,vP b 0),(6,vI lo1),(7,vI hi2),(10,vI i1)]) (fun o02 ho02=>?_) ?_
   · have H:=iS I05;refine yG ho02 ?_ ?_
     · intro hc3 N;exact zM<|yM [] [7] rfl<|yW<|zU (ct N H)
     intro hc3 N;exact zS<|yW<|zU (ct N H)
   intro hi2 I06 le6 hMc1;have ⟨h2,h,h1,H⟩:=m4 le6 h2 h h1 H;exact zO<|zK<|zM<|yM [] [10] rfl<|yT<|nT<|ih hi2 (W (i1+1)) _ hMc1 H h2 h h1 hg ho hx
 intro hc2 N;exact wW<|wG zQ<|yW<|hx _ _ (zC N).symm H
def mZ (loop:zE) (p2:(List Int)):Option (Int×Int):=do
 let x<-idx loop.Lo 0
 let y<-qM x p2
 let x1<-idx loop.Hi 0
 let y1<-qM x1 p2
 let lo1<-sP loop p2 y 1
 let hi1<-sQ loop p2 y1 1
 pure (lo1,hi1)
theorem zCr:∀ loop p2 r,mZ loop p2=some r->∀ {I:Imm}{p c p1 c1 p3 c2},(S4 I p loop.Lo c)->(S4 I p1 loop.Hi c1)->(S4 I p3 p2 c2)->RT 153 [vA (cLoop loop p c p1 c1),vS p3 p2 c2] I [] (zAL  r):=by
 intro loop p2 r N I p c p1 c1 p3 c2 h h1 h2;unfold mZ at N;refine yJ Tryz.func153 fun B=>yC<|vK (cLoop loop p c p1 c1) ?_;intro b hb;refine wU [] []<|yX<|yE 2 [0] [13] rfl<|bE N fun x hy N=>xT rfl rfl h hy ?_;intro ad ccs hat hrep;obtain ⟨p4,c3,rfl,h3⟩:=yB hrep;refine xO 0 hat (cAff x p4 c3) (vA (cAff x p4 c3)) rfl<|yE 5 [] [16] rfl<|bE N fun y hy1 N=>fB (fG x p2 _ hy1 h3 h2) ?_;intro I0 le;have ⟨h2,h,h1⟩:=m3 le h2 h h1;refine yM [] [6] rfl<|yX<|yE 2 [0] [19] rfl<|bE N fun x1 hy2 N=>xT rfl rfl h1 hy2 ?_;intro ad1 ccs1 hat1 hrep1;obtain ⟨p5,c4,rfl,h5⟩:=yB hrep1;refine xO 0 hat1 (cAff x1 p5 c4) (vA (cAff x1 p5 c4)) rfl<|yE 5 [] [22] rfl<|bE N fun y1 hy3 N=>fB (fG x1 p2 _ hy3 h5 h2) ?_;intro I01 le1;have ⟨h2,h,h1⟩:=m3 le1 h2 h h1;refine yM [] [7] rfl<|zZ<|yH [8] rfl<|wK<|pM [(1,vS p3 p2 c2),(2,vP b 0),(6,vI y),(7,vI y1),(8,vI 1)] ?_;obtain ⟨o01,ho01,hMl⟩:=zB N;refine zE4 loop p2 y 1 o01 ho01 iR h2 h h1 (fun _ _ _ h=>h) (fun _ _ h=>h) ?_;intro I04 lo1 heq1 le4;subst o01;have ⟨h2,h,h1⟩:=m3 le4 h2 h h1;refine zR<|zZ<|yH [10] rfl<|wK<|pM [(1,vS p3 p2 c2),(2,vP b 0),(6,vI lo1),(7,vI y1),(10,vI 1)] ?_;obtain ⟨o03,ho03,hMl1⟩:=zB hMl;refine zE5 loop p2 y1 1 o03 ho03 iR h2 h h1 (fun _ _ _ h=>h) (fun _ _ h=>h) ?_;intro I07 hi1 heq3 le7;subst o03;refine zR<|uN [4,5] rfl<|zK<|xD ?_;obtain rfl:=zC hMl1;exact xC ⟨_,_,(.tmp rfl (.tmp rfl ResV.nil)),zQ,⟨_,_,rfl,rfl,rfl,rfl⟩⟩
def zBJ (r:(List (List Int))):KT:=fun kk I' hs' v=>
  ∃ a0 c0 s0,hs'=[.osl (.slice a0 r.length c0) (Rp.sz (List Int)) s0]/\v=tupV [(.slice a0 r.length c0)]/\RepL (Rp.rep I') (Rp.sz (List Int)) s0 r
mutual
def tB (out:(List (List Int))) (nest:(List zE)) (p2:(List Int)):Option ((List (List Int))):=do
 if ((p2.length:Int)==(nest.length:Int)) then
  let l<-app 8 ([]:List Int) p2
  let t6<-app 24 out ([l]:List (List Int))
  pure (id t6)
 else
  let x<-idx nest (p2.length:Int)
  let (y1,y2)<-mZ x p2
  let out2<-rA (same nest) (same p2) (same y2) (same out) (same y1)
  pure (id out2)
 partial_fixpoint
def rA (nest:(List zE)) (p2:(List Int)) (y2:Int) (out1:List (List Int)) (v04:Int):Option (List (List Int)):=do
 let t39<-(do
   if (decide (v04<y2)) then
    pure (decide ((out1.length:Int)<=120))
   else
    pure false
     : Option Bool)
 if t39 then
  let l1<-app 8 ([]:List Int) p2
  let l2<-app 8 l1 ([v04]:List Int)
  let y3<-tB (same out1) (same nest) (same l2)
  rA (same nest) (same p2) (same y2) (same y3) (W (v04+1))
 else
  pure (id out1)
 partial_fixpoint
end
theorem zFU:(∀ (out:(List (List Int))) (nest:(List zE)) (p2:(List Int)) r,tB out nest p2=some r->∀ {I:Imm}{p c cs p1 c1 p3 c2},(RL I cs out)->(S4 I p1 nest c1)->(S4 I p3 p2 c2)->RT 113 [vS p out c,vS p1 nest c1,vS p3 p2 c2] I [hO (List Int) (vS p out c) cs] (zBJ  r))/\(∀ (nest:(List zE)) (p2:(List Int)) (y2:Int) (out1:List (List Int)) (v04:Int) o,rA nest p2 y2 out1 v04=some o->∀ {B}{I0 I:Imm}{Q p1 c1 p3 c2 p8 c7 cs3},I0.le I->(S4 I p1 nest c1)->(S4 I p3 p2 c2)->(RL I cs3 out1)->NG Q->NO Q->(∀ (I':Imm) (out2:List (List Int)) (p9:Option Addr) (c8:Nat) (cs4:List Value),o=out2->I0.le I'->(RL I' cs4 out2)->T 52 B Q (.exit 0) I' [hO (List Int) (vS p9 out2 c8) cs4] [(0,vS p9 out2 c8)])->J Tryz.prog 52 B (nav (bodyOf Tryz.f113) [1,1,1,0,1,0]) Q I [hO (List Int) (vS p8 out1 c7) cs3] [(0,vS p8 out1 c7),(1,vS p1 nest c1),(2,vS p3 p2 c2),(8,vI y2),(9,vI v04)]):=by
  refine tB.mutual_partial_correctness _ _ ?_ ?_
  · intro F_spec_l2Points_l1 ih_spec_l2Points_l1 out nest p2 r N I p c cs p1 c1 p3 c2 h h1 h2;refine yJ Tryz.func113 fun B=>vM []<|zZ<|yH [14] rfl<|zK<|yG N ?_ ?_
    · intro hc N;refine yC<|yE 1 [] [15] rfl<|tK [] Int ?_;intro b hb;have h3:RL I [] ([]:List Int):=rfl;refine yE 3 [] [17] rfl ?_;obtain ⟨ccs,k0,k01⟩:=h2;have h2:SL I (vS p3 p2 c2) p2:=⟨_,k0,k01⟩;obtain ⟨l,hy,N⟩:=zB N;refine qD 3 1 0 rfl rfl rfl h3 (.inl k0) k01 hy fun p4 c3 cs1 h4=>sW (zY [0,1] (hs':=[hO Int (vS p4 l c3) cs1,hO (List Int) (vS p out c) cs]))<|xX 0 rfl ?_;intro I0 le hl0;have h5:=SL.of_frozen hl0 le h4;have h:=iM le h;refine tK [vS p4 l c3] (List Int) ?_;intro b1 hb1;have h6:RL I0 [vS p4 l c3] ([l]:List (List Int)):=⟨[vS p4 l c3],_,rfl,rfl,⟨_,rfl,h5⟩,rfl⟩;obtain ⟨t6,hy1,N⟩:=zB N;refine qD 39 1 1 rfl rfl rfl h (.inr ⟨0,rfl⟩) h6 hy1 fun p5 c4 cs2 h7=>sW (zY [1] (hs':=[hO (List Int) (vS p5 t6 c4) cs2]))<|yM [] [6] rfl<|xI<|zL ?_;obtain rfl:=zC N;exact xC ⟨_,_,(.tmp rfl ResV.nil),(zW [0] rfl (by decide)),⟨_,_,_,rfl,rfl,h7⟩⟩
    intro hc N;refine zS<|yX<|yE 3 [] [22,24] rfl<|bE N fun x hy2 N=>xT rfl rfl h1 hy2 ?_;intro ad ccs1 hat hrep;obtain ⟨p6,c5,p7,c6,rfl,h8,h9⟩:=wZ hrep;refine xO 0 hat (cLoop x p6 c5 p7 c6) (vA (cLoop x p6 c5 p7 c6)) rfl<|yE 6 [] [27] rfl ?_;obtain ⟨⟨y1,y2⟩,hy3,N⟩:=zB N;refine xH (zCr x p2 _ hy3 h8 h9 h2) ?_;rintro I01 hs2 v2 k2 le1 - ⟨v02,v03,rfl,rfl,rfl,rfl⟩ -;have ⟨h,h1,h2⟩:=m3 le1 h h1 h2;refine yM [] [7,8] rfl<|zZ<|yH [9] rfl<|wK<|pM [(0,vS p out c),(1,vS p1 nest c1),(2,vS p3 p2 c2),(8,vI y2),(9,vI y1)] ?_;obtain ⟨o01,ho01,hMl⟩:=zB N;refine ih_spec_l2Points_l1 nest p2 y2 out y1 o01 ho01 iR h1 h2 h (fun _ _ _ h=>h) (fun _ _ h=>h) ?_;intro I05 out2 p9 c8 cs4 heq1 le5 h13;subst o01;refine zR<|uN [6] rfl<|zK<|xD ?_;obtain rfl:=zC hMl;exact xC ⟨_,_,(.tmp rfl ResV.nil),(zW [0] rfl (by decide)),⟨_,_,_,rfl,rfl,h13⟩⟩
  intro F_spec_l2Points F_spec_l2Points_l1 ih_spec_l2Points ih_spec_l2Points_l1 nest p2 y2 out1 v04 o N B I0 I Q p1 c1 p3 c2 p8 c7 cs3 H h1 h2 h12 hg ho hx;refine yU hg ho<|yD<|yD ?_;refine uB N [hO (List Int) (vS p8 out1 c7) cs3] (fun t39=>[(0,vS p8 out1 c7),(1,vS p1 nest c1),(2,vS p3 p2 c2),(8,vI y2),(9,vI v04),(39,.bool t39)]) (fun o0 ho0=>?_) ?_
  · have H:=iS I;refine zM<|yE 4 [] [35] rfl<|wO [35] ho0 ?_ ?_
    · intro hc1 N;exact yM [] [39] rfl<|yW<|zU (ct N H)
    intro hc1 N;exact wU [] [(39,vF)]<|yW<|zU (ct N H)
  intro t39 I02 le2 hMc;have ⟨h12,h1,h2,H⟩:=m4 le2 h12 h1 h2 H;refine zK<|yG hMc ?_ ?_
  · intro hc2 N;refine zS<|zZ<|yF<|zM<|yE 2 [] [42,43] rfl<|tK [] Int ?_;intro b2 hb2;have h14:RL I02 [] ([]:List Int):=rfl;refine yE 4 [] [45] rfl ?_;obtain ⟨ccs2,k02,k03⟩:=h2;have h2:SL I02 (vS p3 p2 c2) p2:=⟨_,k02,k03⟩;obtain ⟨l1,hy4,N⟩:=zB N;refine qD 3 1 0 rfl rfl rfl h14 (.inl k02) k03 hy4 fun p10 c9 cs5 h15=>sW (zY [0,1] (hs':=[hO Int (vS p10 l1 c9) cs5,hO (List Int) (vS p8 out1 c7) cs3]))<|yE 6 [] [47] rfl<|tK [vI v04] Int ?_;intro b3 hb3;have h16:RL I02 [vI v04] ([v04]:List Int):=rI [v04];obtain ⟨l2,hy5,N⟩:=zB N;refine qD 3 1 1 rfl rfl rfl h15 (.inr ⟨0,rfl⟩) h16 hy5 fun p11 c10 cs6 h17=>sW (zY [1,2] (hs':=[hO Int (vS p11 l2 c10) cs6,hO (List Int) (vS p8 out1 c7) cs3]))<|xX 0 rfl ?_;intro I03 le3 hl01;have h18:=SL.of_frozen hl01 le3 h17;have ⟨h1,h2,h12,H⟩:=m4 le3 h1 h2 h12 H;obtain ⟨y3,hy6,N⟩:=zB N;refine rS (ih_spec_l2Points out1 nest l2 _ hy6 h12 h1 h18) rfl ?_;rintro I04 hs2 v2 k2 le4 - ⟨p12,c11,cs7,rfl,rfl,h19⟩ -;have ⟨h1,h2,H⟩:=m3 le4 h1 h2 H;exact yM [] [0] rfl<|zO<|zK<|zM<|yM [] [9] rfl<|yT<|nT<|ih_spec_l2Points_l1 nest p2 y2 y3 (W (v04+1)) _ N H h1 h2 h19 hg ho hx
  intro hc2 N;exact wW<|yW<|hx _ _ _ _ _ (zC N).symm H h12
theorem zCG:∀ out nest p2 r,tB out nest p2=some r->∀ {I:Imm}{p c cs p1 c1 p3 c2},(RL I cs out)->(S4 I p1 nest c1)->(S4 I p3 p2 c2)->RT 113 [vS p out c,vS p1 nest c1,vS p3 p2 c2] I [hO (List Int) (vS p out c) cs] (zBJ  r):=zFU.1
def rO (list:(List zA)) (depth:Int) (i:Int):Option (Out Unit (Bool)):=do
 if (decide (i<(list.length:Int))) then
  let t26<-(do
    let x<-idx list i
    let y<-tO x
    if (!y) then
     pure true
    else
     let x1<-idx list i
     let y1<-oT x1
     pure (decide (y1>depth))
      : Option Bool)
  if t26 then
   pure (.ret false)
  else
   rO list depth (W (i+1))
 else
  pure (.done ())
 partial_fixpoint
theorem zFV (list:(List zA)) (depth:Int):∀ (i:Int) (o:Out Unit (Bool)),rO list depth i=some o->∀ {B}{I0 I:Imm}{Q p c},I0.le I->(S4 I p list c)->NG Q->NO Q->(∀ (I':Imm) ,o=(.done ())->I0.le I'->T 35 B Q (.exit 0) I' [] [(0,vS p list c)])->(∀ r I' hs' m',o=(.ret r)->I0.le I'->RS Tryz.prog Tryz.f180 B (zT  r) I' hs' m'->T 35 B Q .ret I' hs' m')->J Tryz.prog 35 B (nav (bodyOf Tryz.f180) [1,0,1,0]) Q I [] [(0,vS p list c),(1,vI depth),(5,vI i)]:=by
 refine rO.partial_correctness list depth _ fun self ih i o N B I0 I Q p c H h hg ho hx hr=>yU hg ho<|yD<|yH [9] rfl<|zK<|yG N ?_ ?_
 · intro hc N;refine zS<|zZ<|yF<|yD ?_;refine uB N [] (fun t26=>[(0,vS p list c),(1,vI depth),(5,vI i),(26,.bool t26)]) (fun o0 ho0=>?_) ?_
   · have H:=iS I;refine zM<|yE 2 [] [12,13] rfl ?_;obtain ⟨x,hy,N⟩:=zB ho0;refine xT rfl rfl h hy ?_;intro ad ccs hat hrep;obtain ⟨p1,c1,rfl,h1⟩:=yB hrep;refine xO 0 hat (cAff x p1 c1) (vA (cAff x p1 c1)) rfl<|bE N fun y hy1 N=>uZ (gX x _ hy1 h1) ?_;intro I01 le;have ⟨h,H⟩:=m2 le h H;refine yE 7 [] [18] rfl<|wO [18] N ?_ ?_
     · intro hc1 N;exact wU [] [(26,vY)]<|yW<|zU (ct N H)
     intro hc1 N;refine yE 9 [] [19,20] rfl<|bE N fun x1 hy2 N=>xT rfl rfl h hy2 ?_;intro ad1 ccs1 hat1 hrep1;obtain ⟨p2,c2,rfl,h3⟩:=yB hrep1;refine xO 0 hat1 (cAff x1 p2 c2) (vA (cAff x1 p2 c2)) rfl<|bE N fun y1 hy3 N=>fB (zAm x1 _ hy3 h3) ?_;intro I02 le1;have H:=H.trans le1;exact yM [] [26] rfl<|yW<|zU (ct N H)
   intro t26 I0 le2 hMc;have ⟨h,H⟩:=m2 le2 h H;refine zK<|yG hMc ?_ ?_
   · intro hc2 N;exact vM [(4,vF)]<|xI<|zV<|zL<|zL<|hr _ _ _ _ (zC N).symm H ⟨_,_,(.tmp rfl ResV.nil),zQ,⟨_,rfl,rfl,rfl⟩⟩
   intro hc2 N;exact zS<|zO<|zK<|zM<|yM [] [5] rfl<|yT<|nT<|ih (W (i+1)) _ N H h hg ho hx hr
 intro hc N;exact wW<|yW<|hx _  (zC N).symm H
def kZ (list:(List zA)) (depth:Int):Option (Bool):=do
 match<-rO list depth 0 with
 | .ret r0=>pure r0
 | .done _ =>
  let t4<-(do
    if (decide ((list.length:Int)>=1)) then
     pure (decide ((list.length:Int)<=2))
    else
     pure false
      : Option Bool)
  pure (id t4)
theorem zDV:∀ list depth r,kZ list depth=some r->∀ {I:Imm}{p c},(S4 I p list c)->RT 180 [vS p list c,vI depth] I [] (zT  r):=by
 intro list depth r N I p c h;unfold kZ at N;refine yJ Tryz.func180 fun B=>?_;have H:=iS I;refine vM []<|zZ<|yH [5] rfl<|wK<|pM [(0,vS p list c),(1,vI depth),(5,vI 0)] ?_;obtain ⟨o01,ho01,hMl⟩:=zB N;refine zFV list depth 0 o01 ho01 iR h (fun _ _ _ h=>h) (fun _ _ h=>h) ?_ ?_
 · intro I03  heq1 le3;subst o01;have H:=H.trans le3;refine zR<|zK<|yD ?_;refine uB hMl [] (fun t4=>[(4,.bool t4)]) (fun o02 ho02=>?_) ?_
   · have H:=iS I03;refine zM<|yE 4 [] [30] rfl<|wO [30] ho02 ?_ ?_
     · intro hc3 N;exact yM [] [4] rfl<|yW<|zU (ct N H)
     intro hc3 N;exact wU [] [(4,vF)]<|yW<|zU (ct N H)
   intro t4 I04 le4 hMc1;refine zK<|xD ?_;obtain rfl:=zC hMc1;exact uE
 intro r0 I9 hs9 m9 heq9 le9 hrs9;subst heq9;refine zV<|zL ?_;obtain rfl:=zC hMl;exact xC hrs9
def uD (nest:(List zE)) (i:Int):Option (Out Unit (Bool)):=do
 let t12<-(do
   if (decide (i<(nest.length:Int))) then
    pure (decide ((nest.length:Int)<=4))
   else
    pure false
     : Option Bool)
 if t12 then
  let t32<-(do
    let x<-idx nest i
    let y<-kZ x.Lo i
    if (!y) then
     pure true
    else
     let x1<-idx nest i
     let y1<-kZ x1.Hi i
     pure (!y1)
      : Option Bool)
  if t32 then
   pure (.ret false)
  else
   uD nest (W (i+1))
 else
  pure (.done ())
 partial_fixpoint
theorem zDW (nest:(List zE)):∀ (i:Int) (o:Out Unit (Bool)),uD nest i=some o->∀ {B}{I0 I:Imm}{Q p c},I0.le I->(S4 I p nest c)->NG Q->NO Q->(∀ (I':Imm) ,o=(.done ())->I0.le I'->T 36 B Q (.exit 0) I' [] [(0,vS p nest c)])->(∀ r I' hs' m',o=(.ret r)->I0.le I'->RS Tryz.prog Tryz.f149 B (zT  r) I' hs' m'->T 36 B Q .ret I' hs' m')->J Tryz.prog 36 B (nav (bodyOf Tryz.f149) [1,0,1,0]) Q I [] [(0,vS p nest c),(3,vI i)]:=by
 refine uD.partial_correctness nest _ fun self ih i o N B I0 I Q p c H h hg ho hx hr=>yU hg ho<|yD<|yD ?_;refine uB N [] (fun t12=>[(0,vS p nest c),(3,vI i),(12,.bool t12)]) (fun o0 ho0=>?_) ?_
 · have H:=iS I;refine zM<|yE 5 [] [8] rfl<|wO [8] ho0 ?_ ?_
   · intro hc N;exact yM [] [12] rfl<|yW<|zU (ct N H)
   intro hc N;exact wU [] [(12,vF)]<|yW<|zU (ct N H)
 intro t12 I0 le hMc;have ⟨h,H⟩:=m2 le h H;refine zK<|yG hMc ?_ ?_
 · intro hc1 N;refine zS<|zZ<|yF<|yD ?_;refine uB N [] (fun t32=>[(0,vS p nest c),(3,vI i),(32,.bool t32)]) (fun o01 ho01=>?_) ?_
   · have H:=iS I0;refine zM<|yE 2 [] [15,16] rfl ?_;obtain ⟨x,hy,N⟩:=zB ho01;refine xT rfl rfl h hy ?_;intro ad ccs hat hrep;obtain ⟨p1,c1,p2,c2,rfl,h1,h2⟩:=wZ hrep;refine yE 4 [] [18] rfl<|xO 0 hat [vS p1 x.Lo c1] (vS p1 x.Lo c1) rfl<|yE 6 [] [20] rfl<|bE N fun y hy1 N=>uZ (zDV x.Lo i _ hy1 h1) ?_;intro I02 le1;have ⟨h,H⟩:=m2 le1 h H;refine yE 9 [] [23] rfl<|wO [23] N ?_ ?_
     · intro hc2 N;exact wU [] [(32,vY)]<|yW<|zU (ct N H)
     intro hc2 N;refine yE 11 [] [24,25] rfl<|bE N fun x1 hy2 N=>xT rfl rfl h hy2 ?_;intro ad1 ccs1 hat1 hrep1;obtain ⟨p3,c3,p4,c4,rfl,h4,h5⟩:=wZ hrep1;refine yE 13 [] [27] rfl<|xO 1 hat1 [vS p4 x1.Hi c4] (vS p4 x1.Hi c4) rfl<|yE 15 [] [29] rfl<|bE N fun y1 hy3 N=>uZ (zDV x1.Hi i _ hy3 h5) ?_;intro I03 le2;have H:=H.trans le2;exact yM [] [32] rfl<|yW<|zU (ct N H)
   intro t32 I01 le3 hMc1;have ⟨h,H⟩:=m2 le3 h H;refine zK<|yG hMc1 ?_ ?_
   · intro hc3 N;exact vM [(2,vF)]<|xI<|zV<|zL<|zL<|hr _ _ _ _ (zC N).symm H ⟨_,_,(.tmp rfl ResV.nil),zQ,⟨_,rfl,rfl,rfl⟩⟩
   intro hc3 N;exact zS<|zO<|zK<|zM<|yM [] [3] rfl<|yT<|nT<|ih (W (i+1)) _ N H h hg ho hx hr
 intro hc1 N;exact wW<|yW<|hx _  (zC N).symm H
def mI (nest:(List zE)):Option (Bool):=do
 match<-uD nest 0 with
 | .ret r0=>pure r0
 | .done _ =>
  pure (decide ((nest.length:Int)<=4))
theorem zFW:∀ nest r,mI nest=some r->∀ {I:Imm}{p c},(S4 I p nest c)->RT 149 [vS p nest c] I [] (zT  r):=by
 intro nest r N I p c h;unfold mI at N;refine yJ Tryz.func149 fun B=>vM []<|zZ<|yH [3] rfl<|wK<|pM [(0,vS p nest c),(3,vI 0)] ?_;obtain ⟨o02,ho02,hMl⟩:=zB N;refine zDW nest 0 o02 ho02 iR h (fun _ _ _ h=>h) (fun _ _ h=>h) ?_ ?_
 · intro I04  heq2 le4;subst o02;refine zR<|uN [2] rfl<|zK<|xD ?_;obtain rfl:=zC hMl;exact uE
 intro r0 I9 hs9 m9 heq9 le9 hrs9;subst heq9;refine zV<|zL ?_;obtain rfl:=zC hMl;exact xC hrs9
mutual
def qN (nest:(List zE)) (p1:(List Int)) (most:Int):Option (Int):=do
 if ((p1.length:Int)==(nest.length:Int)) then
  pure (id 1)
 else
  let x<-idx nest (p1.length:Int)
  let (y1,y2)<-mZ x p1
  let n01<-qS (same nest) (same p1) (same most) (same y2) (same 1) (same y1)
  pure (id n01)
 partial_fixpoint
def qS (nest:(List zE)) (p1:(List Int)) (most:Int) (y2:Int) (n0:Int) (v04:Int):Option (Int):=do
 let t35<-(do
   if (decide (v04<y2)) then
    pure (decide (n0<=most))
   else
    pure false
     : Option Bool)
 if t35 then
  let l<-app 8 ([]:List Int) p1
  let l1<-app 8 l ([v04]:List Int)
  let y3<-qN (same nest) (same l1) (W (most - n0))
  qS (same nest) (same p1) (same most) (same y2) (W (n0+y3)) (W (v04+1))
 else
  pure (id n0)
 partial_fixpoint
end
theorem zGi:(∀ (nest:(List zE)) (p1:(List Int)) (most:Int) r,qN nest p1 most=some r->∀ {I:Imm}{p c p2 c1},(S4 I p nest c)->(S4 I p2 p1 c1)->RT 150 [vS p nest c,vS p2 p1 c1,vI most] I [] (xQ  r))/\(∀ (nest:(List zE)) (p1:(List Int)) (most:Int) (y2:Int) (n0:Int) (v04:Int) o,qS nest p1 most y2 n0 v04=some o->∀ {B}{I0 I:Imm}{Q p c p2 c1},I0.le I->(S4 I p nest c)->(S4 I p2 p1 c1)->NG Q->NO Q->(∀ (I':Imm) (n01:Int),o=n01->I0.le I'->T 52 B Q (.exit 0) I' [] [(7,vI n01)])->J Tryz.prog 52 B (nav (bodyOf Tryz.f150) [1,1,1,1,0,1,0]) Q I [] [(0,vS p nest c),(1,vS p2 p1 c1),(2,vI most),(7,vI n0),(9,vI y2),(10,vI v04)]):=by
  refine qN.mutual_partial_correctness _ _ ?_ ?_
  · intro F_spec_l2Work_l1 ih_spec_l2Work_l1 nest p1 most r N I p c p2 c1 h h1;refine yJ Tryz.func150 fun B=>vM []<|uN [7] rfl<|zZ<|yH [15] rfl<|zK<|yG N ?_ ?_
    · intro hc N;refine yH [6] rfl<|xI<|zL ?_;obtain rfl:=zC N;exact uE
    intro hc N;refine zS<|yX<|yE 3 [] [18,20] rfl<|bE N fun x hy N=>xT rfl rfl h hy ?_;intro ad ccs hat hrep;obtain ⟨p3,c2,p4,c3,rfl,h2,h3⟩:=wZ hrep;refine xO 0 hat (cLoop x p3 c2 p4 c3) (vA (cLoop x p3 c2 p4 c3)) rfl<|yE 6 [] [23] rfl ?_;obtain ⟨⟨y1,y2⟩,hy1,N⟩:=zB N;refine xH (zCr x p1 _ hy1 h2 h3 h1) ?_;rintro I0 hs2 v2 k2 le - ⟨v02,v03,rfl,rfl,rfl,rfl⟩ -;have ⟨h,h1⟩:=m2 le h h1;refine yM [] [8,9] rfl<|zZ<|yH [10] rfl<|wK<|pM [(0,vS p nest c),(1,vS p2 p1 c1),(2,vI most),(7,vI 1),(9,vI y2),(10,vI y1)] ?_;obtain ⟨o01,ho01,hMl⟩:=zB N;refine ih_spec_l2Work_l1 nest p1 most y2 1 y1 o01 ho01 iR h h1 (fun _ _ _ h=>h) (fun _ _ h=>h) ?_;intro I04 n01 heq1 le4;subst o01;refine zR<|uN [6] rfl<|zK<|xD ?_;obtain rfl:=zC hMl;exact uE
  intro F_spec_l2Work F_spec_l2Work_l1 ih_spec_l2Work ih_spec_l2Work_l1 nest p1 most y2 n0 v04 o N B I0 I Q p c p2 c1 H h h1 hg ho hx;refine yU hg ho<|yD<|yD ?_;refine uB N [] (fun t35=>[(0,vS p nest c),(1,vS p2 p1 c1),(2,vI most),(7,vI n0),(9,vI y2),(10,vI v04),(35,.bool t35)]) (fun o0 ho0=>?_) ?_
  · have H:=iS I;refine zM<|yE 4 [] [31] rfl<|wO [31] ho0 ?_ ?_
    · intro hc1 N;exact yM [] [35] rfl<|yW<|zU (ct N H)
    intro hc1 N;exact wU [] [(35,vF)]<|yW<|zU (ct N H)
  intro t35 I01 le1 hMc;have ⟨h,h1,H⟩:=m3 le1 h h1 H;refine zK<|yG hMc ?_ ?_
  · intro hc2 N;refine zS<|zZ<|yF<|zM<|yE 2 [] [38,39] rfl<|tK [] Int ?_;intro b hb;have h6:RL I01 [] ([]:List Int):=rfl;refine yE 4 [] [41] rfl ?_;obtain ⟨ccs1,k0,k01⟩:=h1;have h1:SL I01 (vS p2 p1 c1) p1:=⟨_,k0,k01⟩;obtain ⟨l,hy2,N⟩:=zB N;refine qD 3 1 0 rfl rfl rfl h6 (.inl k0) k01 hy2 fun p5 c4 cs h7=>sW (zY [0] (hs':=[hO Int (vS p5 l c4) cs]))<|yE 6 [] [43] rfl<|tK [vI v04] Int ?_;intro b1 hb1;have h8:RL I01 [vI v04] ([v04]:List Int):=rI [v04];obtain ⟨l1,hy3,N⟩:=zB N;refine qD 3 1 1 rfl rfl rfl h7 (.inr ⟨0,rfl⟩) h8 hy3 fun p6 c5 cs1 h9=>sW (zY [1] (hs':=[hO Int (vS p6 l1 c5) cs1]))<|yE 11 [] [48] rfl<|xX 0 rfl ?_;intro I02 le2 hl0;have h10:=SL.of_frozen hl0 le2 h9;have ⟨h,h1,H⟩:=m3 le2 h h1 H;obtain ⟨y3,hy4,N⟩:=zB N;refine xH (ih_spec_l2Work nest l1 (W (most - n0)) _ hy4 h h10) ?_;rintro I03 hs2 v2 k2 le3 - ⟨v05,rfl,rfl,rfl⟩ -;have ⟨h,h1,H⟩:=m3 le3 h h1 H;exact yM [] [7] rfl<|zO<|zK<|zM<|yM [] [10] rfl<|yT<|nT<|ih_spec_l2Work_l1 nest p1 most y2 (W (n0+y3)) (W (v04+1)) _ N H h h1 hg ho hx
  intro hc2 N;exact wW<|yW<|hx _ _ (zC N).symm H
theorem zH8:∀ nest p1 most r,qN nest p1 most=some r->∀ {I:Imm}{p c p2 c1},(S4 I p nest c)->(S4 I p2 p1 c1)->RT 150 [vS p nest c,vS p2 p1 c1,vI most] I [] (xQ  r):=zGi.1
def zAe (r:(List (List Int))×Bool):KT:=fun kk I' hs' v=>
  ∃ v0 v1,hs'=[]/\v=tupV [v0,v1]/\SL I' v0 r.1/\v1=.bool r.2
def oW (nest:(List zE)):Option ((List (List Int))×Bool):=do
 let t12<-(do
   let y<-mI nest
   if (!y) then
    pure true
   else
    let y1<-qN nest ([]:List Int) 1200
    pure (decide (y1>1200))
     : Option Bool)
 if t12 then
  pure (([]:List (List Int)),false)
 else
  let y2<-tB ([]:List (List Int)) nest ([]:List Int)
  if (decide ((y2.length:Int)>120)) then
   pure (([]:List (List Int)),false)
  else
   pure (y2,true)
theorem zE6:∀ nest r,oW nest=some r->∀ {I:Imm}{p c},(S4 I p nest c)->RT 109 [vS p nest c] I [] (zAe  r):=by
 intro nest r N I p c h;unfold oW at N;refine yJ Tryz.func109 fun B=>?_;have H:=iS I;refine vM []<|zZ<|yD ?_;refine uB N [] (fun t12=>[(0,vS p nest c),(12,.bool t12)]) (fun o0 ho0=>?_) ?_
 · have H:=iS I;refine zM<|yE 1 [] [5] rfl ?_;obtain ⟨y,hy,N⟩:=zB ho0;refine uZ (zFW nest _ hy h) ?_;intro I01 le;have ⟨h,H⟩:=m2 le h H;refine yE 4 [] [8] rfl<|wO [8] N ?_ ?_
   · intro hc N;exact wU [] [(12,vY)]<|yW<|zU (ct N H)
   intro hc N;refine yE 5 [] [9] rfl<|bE N fun y1 hy1 N=>fB (zH8 nest ([]:List Int) 1200 _ hy1 h (SL.nil _)) ?_;intro I02 le1;have H:=H.trans le1;exact yM [] [12] rfl<|yW<|zU (ct N H)
 intro t12 I0 le2 hMc;have h:=h.mono le2;refine zK<|yG hMc ?_ ?_
 · intro hc1 N;refine yC<|tK [] (List Int) ?_;intro b hb;have h3:RL I0 [] ([]:List (List Int)):=rfl;refine yM [] [2,3] rfl<|xI<|zL<|xE 0 rfl ?_;intro I03 le3 hl0;have h4:=SL.of_frozen hl0 le3 h3;obtain rfl:=zC N;exact xC ⟨_,_,(.tmp rfl (.tmp rfl ResV.nil)),zQ,⟨_,_,rfl,rfl,h4,rfl⟩⟩
 intro hc1 N;refine zS<|yX<|tK [] (List Int) ?_;intro b1 hb1;have h5:RL I0 [] ([]:List (List Int)):=rfl;refine yE 2 [] [15] rfl<|bE N fun y2 hy2 N=>rS (zCG ([]:List (List Int)) nest ([]:List Int) _ hy2 h5 h (SL.nil _)) rfl ?_;rintro I04 hs2 v2 k2 le4 - ⟨p1,c1,cs,rfl,rfl,h6⟩ -;refine yM [] [4] rfl<|zZ<|yH [19] rfl<|zK<|yG N ?_ ?_
 · intro hc2 N;refine yC<|tK [] (List Int) ?_;intro b2 hb2;have h7:RL I04 [] ([]:List (List Int)):=rfl;refine yM [] [2,3] rfl<|xI<|zL<|xE 0 rfl ?_;intro I05 le5 hl01;have h8:=SL.of_frozen hl01 le5 h7;obtain rfl:=zC N;exact xC ⟨_,_,(.tmp rfl (.tmp rfl ResV.nil)),zQ,⟨_,_,rfl,rfl,h8,rfl⟩⟩
 intro hc2 N;refine zS<|uN [2,3] rfl<|xI<|xE 0 rfl ?_;intro I06 le6 hl02;have h9:=SL.of_frozen hl02 le6 h6;obtain rfl:=zC N;exact xC ⟨_,_,(.tmp rfl (.tmp rfl ResV.nil)),zQ,⟨_,_,rfl,rfl,h9,rfl⟩⟩
def eM (r:(List zG)):KT:=fun kk I' hs' v=>
  ∃ a0 c0 s0,hs'=[.osl (.slice a0 r.length c0) (Rp.sz zG) s0]/\v=tupV [(.slice a0 r.length c0)]/\RepL (Rp.rep I') (Rp.sz zG) s0 r
mutual
def rH (out:(List zG)) (e0:zH):Option ((List zG)):=do
 let out1<-(do
   if (e0.Kind==3) then
    let y<-tU e0.Read
    let out2<-app 40 out ([y]:List zG)
    pure (id out2)
   else
    pure (id out)
     : Option (List zG))
 let out4<-vO (same e0) (same out1) (same 0)
 pure (id out4)
 partial_fixpoint
def vO (e0:zH) (out3:List zG) (i:Int):Option (List zG):=do
 if (decide (i<(e0.Kids.length:Int))) then
  let x<-idx e0.Kids i
  let y1<-rH (same out3) (same x)
  vO (same e0) (same y1) (W (i+1))
 else
  pure (id out3)
 partial_fixpoint
end
theorem zGI:(∀ (out:(List zG)) (e0:zH) r,rH out e0=some r->∀ {I:Imm}{p c cs p1 c1 p2 c2 p3 c3},(RL I cs out)->(S4 I p1 e0.Index.Coefs c1)->(S4 I p2 e0.Read.Subs c2)->(S4 I p3 e0.Kids c3)->RT 73 [vS p out c,vA (cExpr e0 p1 c1 p2 c2 p3 c3)] I [hO zG (vS p out c) cs] (eM  r))/\(∀ (e0:zH) (out3:List zG) (i:Int) o,vO e0 out3 i=some o->∀ {B}{I0 I:Imm}{Q p1 c1 p2 c2 p3 c3}{b:Nat}{p7 c7 cs4},I0.le I->(S4 I p1 e0.Index.Coefs c1)->(S4 I p2 e0.Read.Subs c2)->(S4 I p3 e0.Kids c3)->(RL I cs4 out3)->NG Q->NO Q->(∀ (I':Imm) (out4:List zG) (p8:Option Addr) (c8:Nat) (cs5:List Value),o=out4->I0.le I'->(RL I' cs5 out4)->T 30 B Q (.exit 0) I' [hO zG (vS p8 out4 c8) cs5] [(0,vS p8 out4 c8)])->J Tryz.prog 30 B (nav (bodyOf Tryz.f73) [1,1,0,1,0]) Q I [hB b (cExpr e0 p1 c1 p2 c2 p3 c3),hO zG (vS p7 out3 c7) cs4] [(0,vS p7 out3 c7),(3,vP b 0),(5,vI i)]):=by
  refine rH.mutual_partial_correctness _ _ ?_ ?_
  · intro F_spec_l3Reads_l1 ih_spec_l3Reads_l1 out e0 r N I p c cs p1 c1 p2 c2 p3 c3 h h1 h2 h3;refine yJ Tryz.func73 fun B=>?_;have H:=iS I;refine yC<|vK (cExpr e0 p1 c1 p2 c2 p3 c3) ?_;intro b hb;refine wU [] []<|zZ<|yC<|yM [0] [8] rfl<|zK ?_;obtain ⟨o0,ho0,hMc⟩:=zB N;refine nN (fun I' hs' m'=>∃ (out1:List zG) (p4:Option Addr) (c4:Nat) (cs1:List Value),o0=out1/\I.le I'/\(RL I' cs1 out1)/\hs'=[hB b (cExpr e0 p1 c1 p2 c2 p3 c3),hO zG (vS p4 out1 c4) cs1]/\m'=[(0,vS p4 out1 c4),(3,vP b 0)]) ?_ ?_
    · have H:=iS I;refine yG ho0 ?_ ?_
      · intro hc N;refine zM<|tZ 3 [0] [(9,vS p out c),(11,vA (cAccess e0.Read p2 c2))]<|bE N fun y hy N=>xH (eW e0.Read _ hy h2) ?_;rintro I01 hs2 v2 k2 le - ⟨p5,c5,cs2,rfl,rfl,h5⟩ -;have ⟨h,H⟩:=m2 le h H;refine xX 0 rfl ?_;intro I02 le1 hl0;have h6:=SL.of_frozen hl0 le1 h5;have ⟨h,H⟩:=m2 le1 h H;refine tK (cAccess y p5 c5) zG ?_;intro b1 hb1;have h7:RL I02 (cAccess y p5 c5) ([y]:List zG):=⟨(cAccess y p5 c5),_,rfl,rfl,(rJ ⟨_,rfl,h6⟩),rfl⟩;obtain ⟨out2,hy1,N⟩:=zB N;exact qD 67 2 2 rfl rfl rfl h (.inr ⟨0,rfl⟩) h7 hy1 fun p6 c6 cs3 h8=>sW (zY [1,2] (hs':=[hB b (cExpr e0 p1 c1 p2 c2 p3 c3),hO zG (vS p6 out2 c6) cs3]))<|yM [] [0] rfl<|yW<|zU ⟨_,_,_,_,(zC N).symm,H,h8,rfl,rfl⟩
      intro hc N;exact zS<|yW<|zU ⟨_,_,_,_,(zC N).symm,H,h,rfl,rfl⟩
    rintro I0 hs2 m2 ⟨out1,p4,c4,cs1,heq,le2,h4,rfl,rfl⟩;subst o0;have ⟨h1,h2,h3⟩:=m3 le2 h1 h2 h3;refine zZ<|yH [5] rfl<|wK<|pM [(0,vS p4 out1 c4),(3,vP b 0),(5,vI 0)] ?_;obtain ⟨o01,ho01,hMl⟩:=zB hMc;refine ih_spec_l3Reads_l1 e0 out1 0 o01 ho01 iR h1 h2 h3 h4 (fun _ _ _ h=>h) (fun _ _ h=>h) ?_;intro I04 out4 p8 c8 cs5 heq1 le4 h10;subst o01;refine zR<|uN [4] rfl<|zK<|xD ?_;obtain rfl:=zC hMl;exact xC ⟨_,_,(.tmp rfl ResV.nil),(zW [0] rfl (by decide)),⟨_,_,_,rfl,rfl,h10⟩⟩
  intro F_spec_l3Reads F_spec_l3Reads_l1 ih_spec_l3Reads ih_spec_l3Reads_l1 e0 out3 i o N B I0 I Q p1 c1 p2 c2 p3 c3 b p7 c7 cs4 H h1 h2 h3 h9 hg ho hx;refine yU hg ho<|yD<|yC<|yM [0] [19] rfl<|zK<|yG N ?_ ?_
  · intro hc1 N;refine zS<|zZ<|yF<|zM<|yE 4 [0] [22,24,25] rfl<|bE N fun x hy2 N=>xT rfl rfl h3 hy2 ?_;intro ad ccs hat hrep;obtain ⟨p9,c9,p10,c10,p11,c11,rfl,h11,h12,h13⟩:=wT hrep;refine xO 0 hat (cExpr x p9 c9 p10 c10 p11 c11) (vA (cExpr x p9 c9 p10 c10 p11 c11)) rfl<|sW (zY [1,0] (hs':=[hO zG (vS p7 out3 c7) cs4,hB b (cExpr e0 p1 c1 p2 c2 p3 c3)]))<|bE N fun y1 hy3 N=>rS (ih_spec_l3Reads out3 x _ hy3 h9 h11 h12 h13) rfl ?_;rintro I03 hs2 v2 k2 le3 - ⟨p12,c12,cs6,rfl,rfl,h14⟩ -;have ⟨h1,h2,h3,H⟩:=m4 le3 h1 h2 h3 H;exact yM [] [0] rfl<|zO<|zK<|zM<|yM [] [5] rfl<|yT<|pL (zW [1,0] rfl (by decide))<|nT<|ih_spec_l3Reads_l1 e0 y1 (W (i+1)) _ N H h1 h2 h3 h14 hg ho hx
  intro hc1 N;exact wW<|wG (zW [1] rfl (by decide))<|yW<|hx _ _ _ _ _ (zC N).symm H h9
theorem zCs:∀ out e0 r,rH out e0=some r->∀ {I:Imm}{p c cs p1 c1 p2 c2 p3 c3},(RL I cs out)->(S4 I p1 e0.Index.Coefs c1)->(S4 I p2 e0.Read.Subs c2)->(S4 I p3 e0.Kids c3)->RT 73 [vS p out c,vA (cExpr e0 p1 c1 p2 c2 p3 c3)] I [hO zG (vS p out c) cs] (eM  r):=zGI.1
def rP (a0:zD) (n0:Int) (i:Int):Option (Int):=do
 if (decide (i<(a0.Dims.length:Int))) then
  let x<-idx a0.Dims i
  rP a0 (W (n0*x)) (W (i+1))
 else
  pure (id n0)
 partial_fixpoint
theorem zFX (a0:zD):∀ (n0:Int) (i:Int) (o:Int),rP a0 n0 i=some o->∀ {B}{I0 I:Imm}{Q p c}{b:Nat},I0.le I->(S4 I p a0.Dims c)->NG Q->NO Q->(∀ (I':Imm) (n01:Int),o=n01->I0.le I'->T 20 B Q (.exit 0) I' [] [(3,vI n01)])->J Tryz.prog 20 B (nav (bodyOf Tryz.f181) [1,1,0,1,0]) Q I [hB b (cArr a0 p c)] [(1,vP b 0),(3,vI n0),(4,vI i)]:=by
 refine rP.partial_correctness a0 _ fun self ih n0 i o N B I0 I Q p c b H h hg ho hx=>yU hg ho<|yD<|yC<|yM [0] [9] rfl<|zK<|yG N ?_ ?_
 · intro hc N;refine zS<|zZ<|yF<|zM<|yE 4 [0] [12,14,15] rfl<|bE N fun x hy N=>xT rfl rfl h hy ?_;intro ad ccs hat hrep;obtain rfl:=hrep;exact xO 0 hat [vI x] (vI x) rfl<|yM [] [3] rfl<|zO<|zK<|zM<|yM [] [4] rfl<|yT<|nT<|ih (W (n0*x)) (W (i+1)) _ N H h hg ho hx
 intro hc N;exact wW<|wG zQ<|yW<|hx _ _ (zC N).symm H
def gO (a0:zD):Option (Int):=do
 let n01<-rP a0 1 0
 pure (id n01)
theorem zH9:∀ a0 r,gO a0=some r->∀ {I:Imm}{p c},(S4 I p a0.Dims c)->RT 181 [vA (cArr a0 p c)] I [] (xQ  r):=by
 intro a0 r N I p c h;unfold gO at N;refine yJ Tryz.func181 fun B=>yC<|vK (cArr a0 p c) ?_;intro b hb;refine wU [] []<|uN [3] rfl<|zZ<|yH [4] rfl<|wK<|pM [(1,vP b 0),(3,vI 1),(4,vI 0)] ?_;obtain ⟨o0,ho0,hMl⟩:=zB N;refine zFX a0 1 0 o0 ho0 iR h (fun _ _ _ h=>h) (fun _ _ h=>h) ?_;intro I0 n01 heq le;subst o0;refine zR<|uN [2] rfl<|zK<|xD ?_;obtain rfl:=zC hMl;exact uE
def sD (list:(List zD)) (a0:zG) (point:(List Int)) (i:Int) (n0:Int) (k0:Int):Option (Out Int (Int)):=do
 if (decide (k0<(a0.Subs.length:Int))) then
  let x2<-idx list i
  if ((a0.Subs.length:Int) != (x2.Dims.length:Int)) then
   pure (.ret (-1))
  else
   let x3<-idx a0.Subs k0
   let y1<-qM x3 point
   let t70<-(do
     if (decide (y1<0)) then
      pure true
     else
      let x4<-idx list i
      let x5<-idx x4.Dims k0
      pure (decide (y1>=x5))
       : Option Bool)
   if t70 then
    pure (.ret (-1))
   else
    let x6<-idx list i
    let x7<-idx x6.Dims k0
    sD list a0 point i (W ((W (n0*x7))+y1)) (W (k0+1))
 else
  pure (.done n0)
 partial_fixpoint
theorem zFY (list:(List zD)) (a0:zG) (point:(List Int)) (i:Int):∀ (n0:Int) (k0:Int) (o:Out Int (Int)),sD list a0 point i n0 k0=some o->∀ {B}{I0 I:Imm}{Q}{base:Int}{p c p1 c1 p2 c2}{b:Nat},I0.le I->(S4 I p list c)->(S4 I p2 point c2)->(S4 I p1 a0.Subs c1)->NG Q->NO Q->(∀ (I':Imm) (n01:Int),o=(.done n01)->I0.le I'->T 86 B Q (.exit 2) I' [] [(7,vI base),(9,vI n01)])->(∀ r I' hs' m',o=(.ret r)->I0.le I'->RS Tryz.prog Tryz.f151 B (xQ  r) I' hs' m'->T 86 B Q .ret I' hs' m')->J Tryz.prog 86 B (nav (bodyOf Tryz.f151) [1,1,0,1,0,0,1,0,0,1,1,0,1,0]) Q I [hB b (cAccess a0 p1 c1)] [(0,vS p list c),(2,vS p2 point c2),(4,vP b 0),(7,vI base),(8,vI i),(9,vI n0),(10,vI k0)]:=by
 refine sD.partial_correctness list a0 point i _ fun self ih n0 k0 o N B I0 I Q base p c p1 c1 p2 c2 b H h h2 h1 hg ho hx hr=>yU hg ho<|yD<|yC<|yM [0] [37] rfl<|zK<|yG N ?_ ?_
 · intro hc2 N;refine zS<|zZ<|yF<|yD<|yD<|zA1 (by kernel_rfl) (by kernel_rfl)<|zBv 5 [0] [42,43,44] rfl<|bE N fun x2 hy3 N=>zFE rfl rfl h hy3 ?_;intro ad2 ccs2 hat2 hrep2;obtain ⟨p5,c5,rfl,h6⟩:=xL hrep2;refine zBv 7 [] [46] rfl<|zFD 1 hat2 [vS p5 x2.Dims c5] (vS p5 x2.Dims c5) rfl<|zKi [] [49] rfl<|zK<|yG N ?_ ?_
   · intro hc3 N;exact yH [6] rfl<|xI<|zL<|zV<|zL<|zL<|hr _ _ _ _ (zC N).symm H ⟨_,_,(.tmp rfl ResV.nil),zQ,⟨_,rfl,rfl,rfl⟩⟩
   intro hc3 N;refine zS<|yX<|yE 3 [0] [51,52] rfl<|bE N fun x3 hy4 N=>xT rfl rfl h1 hy4 ?_;intro ad3 ccs3 hat3 hrep3;obtain ⟨p6,c6,rfl,h7⟩:=yB hrep3;refine xO 0 hat3 (cAff x3 p6 c6) (vA (cAff x3 p6 c6)) rfl<|yE 6 [] [55] rfl<|bE N fun y1 hy5 N=>fB (fG x3 point _ hy5 h7 h2) ?_;intro I01 le1;have ⟨h,h2,h1,H⟩:=m4 le1 h h2 h1 H;refine yM [] [11] rfl<|zZ<|yD ?_;refine uB N [hB b (cAccess a0 p1 c1)] (fun t70=>[(0,vS p list c),(2,vS p2 point c2),(4,vP b 0),(7,vI base),(8,vI i),(9,vI n0),(10,vI k0),(11,vI y1),(70,.bool t70)]) (fun o0 ho0=>?_) ?_
   · have H:=iS I01;refine zM<|yE 3 [] [59] rfl<|wO [59] ho0 ?_ ?_
     · intro hc4 N;exact wU [] [(70,vY)]<|yW<|zU (ct N H)
     intro hc4 N;refine yE 6 [] [60,61,62] rfl<|bE N fun x4 hy6 N=>xT rfl rfl h hy6 ?_;intro ad4 ccs4 hat4 hrep4;obtain ⟨p7,c7,rfl,h9⟩:=xL hrep4;refine yE 8 [] [64] rfl<|xO 1 hat4 [vS p7 x4.Dims c7] (vS p7 x4.Dims c7) rfl<|yE 10 [] [66] rfl<|bE N fun x5 hy7 N=>xT rfl rfl h9 hy7 ?_;intro ad5 ccs5 hat5 hrep5;obtain rfl:=hrep5;exact xO 0 hat5 [vI x5] (vI x5) rfl<|yM [] [70] rfl<|yW<|zU (ct N H)
   intro t70 I02 le2 hMc;have ⟨h,h2,h1,H⟩:=m4 le2 h h2 h1 H;refine zK<|yG hMc ?_ ?_
   · intro hc5 N;exact yH [6] rfl<|xI<|zL<|zV<|zL<|zL<|hr _ _ _ _ (zC N).symm H ⟨_,_,(.tmp rfl ResV.nil),zQ,⟨_,rfl,rfl,rfl⟩⟩
   intro hc5 N;refine zS<|zK<|zM<|yE 3 [] [71,72,73] rfl<|bE N fun x6 hy8 N=>xT rfl rfl h hy8 ?_;intro ad6 ccs6 hat6 hrep6;obtain ⟨p8,c8,rfl,h10⟩:=xL hrep6;refine yE 5 [] [75] rfl<|xO 1 hat6 [vS p8 x6.Dims c8] (vS p8 x6.Dims c8) rfl<|yE 7 [] [77] rfl<|bE N fun x7 hy9 N=>xT rfl rfl h10 hy9 ?_;intro ad7 ccs7 hat7 hrep7;obtain rfl:=hrep7;exact xO 0 hat7 [vI x7] (vI x7) rfl<|yM [] [9] rfl<|zO<|zK<|zM<|yM [] [10] rfl<|yT<|nT<|ih (W ((W (n0*x7))+y1)) (W (k0+1)) _ N H h h2 h1 hg ho hx hr
 intro hc2 N;exact wW<|wG zQ<|yW<|hx _ _ (zC N).symm H
def sE (list:(List zD)) (a0:zG) (point:(List Int)) (base:Int) (i:Int):Option (Out Unit (Int)):=do
 if (decide (i<(list.length:Int))) then
  let x<-idx list i
  if (!(x.Name.l==a0.Array.l)) then
   let x1<-idx list i
   let y<-gO x1
   sE list a0 point (W (base+y)) (W (i+1))
  else
   match<-sD list a0 point i 0 0 with
   | .ret r0=>pure (.ret r0)
   | .done n01 =>
    pure (.ret (W (base+n01)))
 else
  pure (.done ())
 partial_fixpoint
theorem zFZ (list:(List zD)) (a0:zG) (point:(List Int)):∀ (base:Int) (i:Int) (o:Out Unit (Int)),sE list a0 point base i=some o->∀ {B}{I0 I:Imm}{Q p c p1 c1 p2 c2}{b:Nat},I0.le I->(S4 I p list c)->(S4 I p2 point c2)->(S4 I p1 a0.Subs c1)->NG Q->NO Q->(∀ (I':Imm) ,o=(.done ())->I0.le I'->T 86 B Q (.exit 0) I' [] [])->(∀ r I' hs' m',o=(.ret r)->I0.le I'->RS Tryz.prog Tryz.f151 B (xQ  r) I' hs' m'->T 86 B Q .ret I' hs' m')->J Tryz.prog 86 B (nav (bodyOf Tryz.f151) [1,1,0,1,0]) Q I [hB b (cAccess a0 p1 c1)] [(0,vS p list c),(2,vS p2 point c2),(4,vP b 0),(7,vI base),(8,vI i)]:=by
 refine sE.partial_correctness list a0 point _ fun self ih base i o N B I0 I Q p c p1 c1 p2 c2 b H h h2 h1 hg ho hx hr=>yU hg ho<|yD<|yH [15] rfl<|zK<|yG N ?_ ?_
 · intro hc N;refine zS<|zZ<|yF<|yD<|yD<|zA1 (by kernel_rfl) (by kernel_rfl)<|zBv 2 [] [18,19] rfl<|bE N fun x hy N=>zFE rfl rfl h hy ?_;intro ad ccs hat hrep;obtain ⟨p3,c3,rfl,h3⟩:=xL hrep;refine zBv 4 [] [21] rfl<|zFD 0 hat [vT x.Name.l] (vT x.Name.l) rfl<|zKi [0] [25] rfl<|zK<|yG N ?_ ?_
   · intro hc1 N;refine yC<|yE 3 [] [26,27,28] rfl<|bE N fun x1 hy1 N=>xT rfl rfl h hy1 ?_;intro ad1 ccs1 hat1 hrep1;obtain ⟨p4,c4,rfl,h4⟩:=xL hrep1;refine xO 0 hat1 (cArr x1 p4 c4) (vA (cArr x1 p4 c4)) rfl<|bE N fun y hy2 N=>fB (zH9 x1 _ hy2 h4) ?_;intro I0 le;have ⟨h,h2,h1,H⟩:=m4 le h h2 h1 H;exact yM [] [7] rfl<|zK<|zEO<|jY<|zR<|zK<|zM<|yM [] [8] rfl<|yT<|nT<|ih (W (base+y)) (W (i+1)) _ N H h h2 h1 hg ho hx hr
   intro hc1 N;refine zS<|uN [9] rfl<|zZ<|yH [10] rfl<|wK<|pM [(0,vS p list c),(2,vS p2 point c2),(4,vP b 0),(7,vI base),(8,vI i),(9,vI 0),(10,vI 0)] ?_;obtain ⟨o01,ho01,hMl⟩:=zB N;refine zFY list a0 point i 0 0 o01 ho01 iR h h2 h1 (fun _ _ _ h=>hg _ _ _ h) (fun _ _ h=>ho _ _ h) ?_ ?_
   · intro I03 n01 heq1 le3;subst o01;have H:=H.trans le3;exact zR<|uN [6] rfl<|xI<|zV<|zL<|zL<|hr _ _ _ _ (zC hMl).symm H ⟨_,_,(.tmp rfl ResV.nil),zQ,⟨_,rfl,rfl,rfl⟩⟩
   intro r0 I9 hs9 m9 heq9 le9 hrs9;subst heq9;exact zV<|zL<|zV<|zL<|zL<|hr _ _ _ _ (zC hMl).symm (H.trans le9) hrs9
 intro hc N;exact wW<|wG zQ<|yW<|hx _  (zC N).symm H
def jA (list:(List zD)) (a0:zG) (point:(List Int)):Option (Int):=do
 match<-sE list a0 point 0 0 with
 | .ret r0=>pure r0
 | .done _ =>
  pure (-1)
theorem zDX:∀ list a0 point r,jA list a0 point=some r->∀ {I:Imm}{p c p1 c1 p2 c2},(S4 I p list c)->(S4 I p1 a0.Subs c1)->(S4 I p2 point c2)->RT 151 [vS p list c,vA (cAccess a0 p1 c1),vS p2 point c2] I [] (xQ  r):=by
 intro list a0 point r N I p c p1 c1 p2 c2 h h1 h2;unfold jA at N;refine yJ Tryz.func151 fun B=>yC<|vK (cAccess a0 p1 c1) ?_;intro b hb;refine wU [] []<|uN [7] rfl<|zZ<|yH [8] rfl<|wK<|pM [(0,vS p list c),(2,vS p2 point c2),(4,vP b 0),(7,vI 0),(8,vI 0)] ?_;obtain ⟨o02,ho02,hMl1⟩:=zB N;refine zFZ list a0 point 0 0 o02 ho02 iR h h2 h1 (fun _ _ _ h=>h) (fun _ _ h=>h) ?_ ?_
 · intro I04  heq2 le4;subst o02;refine zR<|uN [6] rfl<|zK<|xD ?_;obtain rfl:=zC hMl1;exact uE
 intro r0 I9 hs9 m9 heq9 le9 hrs9;subst heq9;refine zV<|zL ?_;obtain rfl:=zC hMl1;exact xC hrs9
def zB9 (r:(List Int)×Int×Bool):KT:=fun kk I' hs' v=>
  ∃ v0 v1 v2,hs'=[]/\v=tupV [v0,v1,v2]/\SL I' v0 r.1/\v1=.int .i64 r.2.1/\v2=.bool r.2.2
def sR (list:(List zD)) (point:(List Int)) (y:(List zG)) (out:List Int) (i:Int):Option (Out (List Int) ((List Int)×Int×Bool)):=do
 if (decide (i<(y.length:Int))) then
  let x<-idx y i
  let y1<-jA list x point
  if (decide (y1<0)) then
   pure (.ret (([]:List Int),0,false))
  else
   let out2<-app 8 out ([y1]:List Int)
   sR list point y out2 (W (i+1))
 else
  pure (.done out)
 partial_fixpoint
theorem zE7 (list:(List zD)) (point:(List Int)) (y:(List zG)):∀ (out:List Int) (i:Int) (o:Out (List Int) ((List Int)×Int×Bool)),sR list point y out i=some o->∀ {B}{I0 I:Imm}{Q}{s:zJ}{p c p1 c1 p2 c2 p3 c3 p4 c4 p5 c5}{b:Nat}{p6 c6 cs p7 c7 cs1},I0.le I->(S4 I p list c)->(S4 I p5 point c5)->(RL I cs y)->(S4 I p1 s.Write.Subs c1)->(S4 I p2 s.Value.Index.Coefs c2)->(S4 I p3 s.Value.Read.Subs c3)->(S4 I p4 s.Value.Kids c4)->(RL I cs1 out)->NG Q->NO Q->(∀ (I':Imm) (out1:List Int) (p8:Option Addr) (c8:Nat) (cs2:List Value),o=(.done out1)->I0.le I'->(RL I' cs2 out1)->T 49 B Q (.exit 0) I' [hO Int (vS p8 out1 c8) cs2,hB b (cStmt s p1 c1 p2 c2 p3 c3 p4 c4)] [(0,vS p list c),(2,vS p5 point c5),(4,vP b 0),(9,vS p8 out1 c8)])->(∀ r I' hs' m',o=(.ret r)->I0.le I'->RS Tryz.prog Tryz.f110 B (zB9  r) I' hs' m'->T 49 B Q .ret I' hs' m')->J Tryz.prog 49 B (nav (bodyOf Tryz.f110) [1,1,1,0,1,0]) Q I [hO zG (vS p6 y c6) cs,hO Int (vS p7 out c7) cs1,hB b (cStmt s p1 c1 p2 c2 p3 c3 p4 c4)] [(0,vS p list c),(2,vS p5 point c5),(4,vP b 0),(9,vS p7 out c7),(10,vS p6 y c6),(11,vI i)]:=by
 refine sR.partial_correctness list point y _ fun self ih out i o N B I0 I Q s p c p1 c1 p2 c2 p3 c3 p4 c4 p5 c5 b p6 c6 cs p7 c7 cs1 H h h5 h8 h1 h2 h3 h4 h9 hg ho hx hr=>yU hg ho<|yD<|yH [22] rfl<|zK<|yG N ?_ ?_
 · intro hc N;refine zS<|zZ<|yF<|yC<|yE 3 [] [25,26,27] rfl<|bE N fun x hy1 N=>nU 0 rfl rfl rfl h8 hy1 ?_;intro ad ccs hat hcc hrep;obtain ⟨p9,c9,rfl,h11⟩:=tD hrep;refine zBu 0 0 hat hcc (cAccess x p9 c9) (vA (cAccess x p9 c9)) rfl rfl<|yE 6 [] [30] rfl<|bE N fun y1 hy2 N=>fB (zDX list x point _ hy2 h h11 h5) ?_;intro I01 le1;have ⟨h,h5,h9,h8,h1,h2⟩:=m6 le1 h h5 h9 h8 h1 h2;have ⟨h3,h4,H⟩:=m3 le1 h3 h4 H;refine yM [] [12] rfl<|zZ<|yH [33] rfl<|zK<|yG N ?_ ?_
   · intro hc1 N;refine yC<|tK [] Int ?_;intro b3 hb3;have h13:RL I01 [] ([]:List Int):=rfl;refine yM [] [6,7,8] rfl<|xI<|zL<|zV<|zL<|zL<|xE 0 rfl ?_;intro I02 le2 hl0;have h14:=SL.of_frozen hl0 le2 h13;have H:=H.trans le2;exact hr _ _ _ _ (zC N).symm H ⟨_,_,(.tmp rfl (.tmp rfl (.tmp rfl ResV.nil))),zQ,⟨_,_,_,rfl,rfl,h14,rfl,rfl⟩⟩
   intro hc1 N;refine zS<|zK<|zM<|yE 2 [] [35,36] rfl<|tK [vI y1] Int ?_;intro b4 hb4;have h15:RL I01 [vI y1] ([y1]:List Int):=rI [y1];obtain ⟨out2,hy3,N⟩:=zB N;exact qD 3 1 2 rfl rfl rfl h9 (.inr ⟨0,rfl⟩) h15 hy3 fun p10 c10 cs3 h16=>sW (zY [1,2,3] (hs':=[hO zG (vS p6 y c6) cs,hO Int (vS p10 out2 c10) cs3,hB b (cStmt s p1 c1 p2 c2 p3 c3 p4 c4)]))<|yM [] [9] rfl<|zO<|zK<|zM<|yM [] [11] rfl<|yT<|nT<|ih out2 (W (i+1)) _ N H h h5 h8 h1 h2 h3 h4 h16 hg ho hx hr
 intro hc N;exact wW<|wG (zW [1,2] rfl (by decide))<|yW<|hx _ _ _ _ _ (zC N).symm H h9
def jF (list:(List zD)) (s:zJ) (point:(List Int)):Option ((List Int)×Int×Bool):=do
 let y<-rH ([]:List zG) s.Value
 match<-sR list point y ([]:List Int) 0 with
 | .ret r0=>pure r0
 | .done out1 =>
  let y2<-jA list s.Write point
  if (decide (y2<0)) then
   pure (([]:List Int),0,false)
  else
   pure (out1,y2,true)
theorem zGj:∀ list s point r,jF list s point=some r->∀ {I:Imm}{p c p1 c1 p2 c2 p3 c3 p4 c4 p5 c5},(S4 I p list c)->(S4 I p1 s.Write.Subs c1)->(S4 I p2 s.Value.Index.Coefs c2)->(S4 I p3 s.Value.Read.Subs c3)->(S4 I p4 s.Value.Kids c4)->(S4 I p5 point c5)->RT 110 [vS p list c,vA (cStmt s p1 c1 p2 c2 p3 c3 p4 c4),vS p5 point c5] I [] (zB9  r):=by
 intro list s point r N I p c p1 c1 p2 c2 p3 c3 p4 c4 p5 c5 h h1 h2 h3 h4 h5;unfold jF at N;refine yJ Tryz.func110 fun B=>yC<|vK (cStmt s p1 c1 p2 c2 p3 c3 p4 c4) ?_;intro b hb;refine wU [] []<|yX<|tK [] Int ?_;intro b1 hb1;have h6:RL I [] ([]:List Int):=rfl;refine yM [] [9] rfl<|yX<|tK [] zG ?_;intro b2 hb2;have h7:RL I [] ([]:List zG):=rfl;refine tZ 3 [2] [(17,vA (cExpr s.Value p2 c2 p3 c3 p4 c4))]<|bE N fun y hy N=>rS (zCs ([]:List zG) s.Value _ hy h7 h2 h3 h4) rfl ?_;rintro I0 hs2 v2 k2 le - ⟨p6,c6,cs,rfl,rfl,h8⟩ -;have ⟨h,h5,h6,h1,h2,h3⟩:=m6 le h h5 h6 h1 h2 h3;have h4:=h4.mono le;refine yM [] [10] rfl<|zZ<|yH [11] rfl<|wK<|pM [(0,vS p list c),(2,vS p5 point c5),(4,vP b 0),(9,vS (some ⟨b1,0,none⟩) ([]:List Int) 0),(10,vS p6 y c6),(11,vI 0)] ?_;obtain ⟨o0,ho0,hMl⟩:=zB N;refine zE7 list point y ([]:List Int) 0 o0 ho0 iR h h5 h8 h1 h2 h3 h4 h6 (fun _ _ _ h=>h) (fun _ _ h=>h) ?_ ?_
 · intro I03 out1 p8 c8 cs2 heq le3 h10;subst o0;have ⟨h,h5,h1⟩:=m3 le3 h h5 h1;refine zR<|yX<|tZ 4 [1] [(39,vS p list c),(41,vA (cAccess s.Write p1 c1)),(42,vS p5 point c5)] ?_;obtain ⟨y2,hy4,N⟩:=zB hMl;refine fB (zDX list s.Write point _ hy4 h h1 h5) ?_;intro I04 le4;have h10:=iM le4 h10;refine yM [] [13] rfl<|zZ<|yH [45] rfl<|zK<|yG N ?_ ?_
   · intro hc2 N;refine yC<|tK [] Int ?_;intro b5 hb5;have h18:RL I04 [] ([]:List Int):=rfl;refine yM [] [6,7,8] rfl<|xI<|zL<|xE 0 rfl ?_;intro I05 le5 hl01;have h19:=SL.of_frozen hl01 le5 h18;obtain rfl:=zC N;exact xC ⟨_,_,(.tmp rfl (.tmp rfl (.tmp rfl ResV.nil))),zQ,⟨_,_,_,rfl,rfl,h19,rfl,rfl⟩⟩
   intro hc2 N;refine zS<|uN [6,7,8] rfl<|xI<|xE 0 rfl ?_;intro I06 le6 hl02;have h20:=SL.of_frozen hl02 le6 h10;obtain rfl:=zC N;exact xC ⟨_,_,(.tmp rfl (.tmp rfl (.tmp rfl ResV.nil))),zQ,⟨_,_,_,rfl,rfl,h20,rfl,rfl⟩⟩
 intro r0 I9 hs9 m9 heq9 le9 hrs9;subst heq9;refine zV<|zL ?_;obtain rfl:=zC hMl;exact xC hrs9
def sS (p:(List Int)) (i:Int):Option (Out Unit (Bool)):=do
 if (decide (i<(p.length:Int))) then
  let x<-idx p i
  let y<-tA x 9999
  if (!y) then
   pure (.ret false)
  else
   sS p (W (i+1))
 else
  pure (.done ())
 partial_fixpoint
theorem zE8 (p:(List Int)):∀ (i:Int) (o:Out Unit (Bool)),sS p i=some o->∀ {B}{I0 I:Imm}{Q p1 c},I0.le I->(S4 I p1 p c)->NG Q->NO Q->(∀ (I':Imm) ,o=(.done ())->I0.le I'->T 19 B Q (.exit 0) I' [] [(0,vS p1 p c)])->(∀ r I' hs' m',o=(.ret r)->I0.le I'->RS Tryz.prog Tryz.f111 B (zT  r) I' hs' m'->T 19 B Q .ret I' hs' m')->J Tryz.prog 19 B (nav (bodyOf Tryz.f111) [1,0,1,0]) Q I [] [(0,vS p1 p c),(3,vI i)]:=by
 refine sS.partial_correctness p _ fun self ih i o N B I0 I Q p1 c H h hg ho hx hr=>yU hg ho<|yD<|yH [7] rfl<|zK<|yG N ?_ ?_
 · intro hc N;refine zS<|zZ<|yF<|yC<|yE 2 [] [10,11] rfl<|bE N fun x hy N=>xT rfl rfl h hy ?_;intro ad ccs hat hrep;obtain rfl:=hrep;refine xO 0 hat [vI x] (vI x) rfl<|bE N fun y hy1 N=>uZ (zA5 x 9999 _ hy1 ) ?_;intro I0 le;have ⟨h,H⟩:=m2 le h H;refine yM [] [15] rfl<|zK<|yG N ?_ ?_
   · intro hc1 N;exact vM [(2,vF)]<|xI<|zV<|zL<|zL<|hr _ _ _ _ (zC N).symm H ⟨_,_,(.tmp rfl ResV.nil),zQ,⟨_,rfl,rfl,rfl⟩⟩
   intro hc1 N;exact zS<|zO<|zK<|zM<|yM [] [3] rfl<|yT<|nT<|ih (W (i+1)) _ N H h hg ho hx hr
 intro hc N;exact wW<|yW<|hx _  (zC N).symm H
def jG (p:(List Int)):Option (Bool):=do
 match<-sS p 0 with
 | .ret r0=>pure r0
 | .done _ =>
  pure (decide ((p.length:Int)<=4))
theorem zGk:∀ p r,jG p=some r->∀ {I:Imm}{p1 c},(S4 I p1 p c)->RT 111 [vS p1 p c] I [] (zT  r):=by
 intro p r N I p1 c h;unfold jG at N;refine yJ Tryz.func111 fun B=>vM []<|zZ<|yH [3] rfl<|wK<|pM [(0,vS p1 p c),(3,vI 0)] ?_;obtain ⟨o0,ho0,hMl⟩:=zB N;refine zE8 p 0 o0 ho0 iR h (fun _ _ _ h=>h) (fun _ _ h=>h) ?_ ?_
 · intro I01  heq le1;subst o0;refine zR<|uN [2] rfl<|zK<|xD ?_;obtain rfl:=zC hMl;exact uE
 intro r0 I9 hs9 m9 heq9 le9 hrs9;subst heq9;refine zV<|zL ?_;obtain rfl:=zC hMl;exact xC hrs9
end Go.LN
