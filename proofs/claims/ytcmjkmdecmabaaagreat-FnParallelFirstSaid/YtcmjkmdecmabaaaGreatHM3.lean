/- Helper of the proof (see the last text). -/
import Derived.Test.YtcmjkmdecmabaaaGreatHM2
set_option linter.unusedVariables false
set_option linter.unusedSimpArgs false
namespace Go.LN
open Go.Proofs Go.Proofs.Tryz
set_option maxRecDepth 20000
def mV (kind:Int):Option (Int):=do
 let t4<-(do
   if (kind==1) then
    pure (kind==1)
   else
    let t41<-(do
      if (kind==2) then
       pure (kind==2)
      else
       pure (kind==3)
        : Option Bool)
    pure (id t41)
     : Option Bool)
 if t4 then
  pure (id 0)
 else
  let t8<-(do
    if (kind==4) then
     pure (kind==4)
    else
     let t81<-(do
       if (kind==5) then
        pure (kind==5)
       else
        pure (kind==6)
         : Option Bool)
     pure (id t81)
      : Option Bool)
  if t8 then
   pure (id 2)
  else
   pure (-1)
theorem zCB:∀ kind r,mV kind=some r->∀ {I:Imm} ,RT 227 [vI kind] I [] (xD  r):=by
 intro kind r N I;unfold mV at N;refine yJ func227 fun B=>?_;have H:=iS I;refine vR []<|yA<|yG [3] rfl<|xX<|yB<|yG [4] rfl<|zI ?_;refine wS N [] (fun t4=>[(3,vI kind),(4,.bool t4)]) (fun o0 aB=>?_) ?_
 · have H:=iS I;refine yF aB ?_ ?_
   · intro hc N;exact zT<|yL<|zU (ct N H)
   intro hc N;refine yG [4] rfl<|zI ?_;refine wS N [] (fun t41=>[(3,vI kind),(4,.bool t41)]) (fun aM az=>?_) ?_
   · have H:=iS I;refine yF az ?_ ?_
     · intro aE N;exact zT<|yL<|zU (ct N H)
     intro aE N;exact zM<|yI [] [4] rfl<|yL<|zU (ct N H)
   intro t41 aT le hMc1;have H:=H.trans le;exact yL<|zU (ct hMc1 H)
 intro t4 I0 af aS;have H:=H.trans af;refine zI<|yF aS ?_ ?_
 · intro aY N;refine yG [2] rfl<|xC<|zW<|zH ?_;obtain rfl:=zC N;exact vE
 intro aY N;refine yB<|yG [8] rfl<|zI ?_;refine wS N [] (fun t8=>[(8,.bool t8)]) (fun o02 ho02=>?_) ?_
 · have H:=iS I0;refine yF ho02 ?_ ?_
   · intro bG N;exact zT<|yL<|zU (ct N H)
   intro bG N;refine yG [8] rfl<|zI ?_;refine wS N [] (fun t81=>[(8,.bool t81)]) (fun o03 ho03=>?_) ?_
   · have H:=iS I0;refine yF ho03 ?_ ?_
     · intro bM N;exact zT<|yL<|zU (ct N H)
     intro bM N;exact zM<|yI [] [8] rfl<|yL<|zU (ct N H)
   intro t81 bC aC hMc3;have H:=H.trans aC;exact yL<|zU (ct hMc3 H)
 intro t8 aU aD hMc2;refine zI<|yF hMc2 ?_ ?_
 · intro hc5 N;refine yG [2] rfl<|xC<|zW<|zH ?_;obtain rfl:=zC N;exact vE
 intro hc5 N;refine zT<|zP<|vK [2] rfl<|zI<|xB ?_;obtain rfl:=zC N;exact vE
def qX (a0:zJ):Option (Bool):=do
 let t2<-(do
   if (a0.Array.l==([]:List UInt8)) then
    pure ((a0.Subs.length:Int)==0)
   else
    pure false
     : Option Bool)
 pure (id t2)
theorem dE:∀ a0 r,qX a0=some r->∀ {I:Imm}{p c},(S4 I p a0.Subs c)->RT 252 [vA (cAccess a0 p c)] I [] (zV  r):=by
 intro a0 r N I p c h;unfold qX at N;refine yJ func252 fun B=>?_;have H:=iS I;refine yE<|tW (cAccess a0 p c) ?_;intro b hb;refine wB [] []<|zI<|yB ?_;refine wS N [] (fun t2=>[(2,.bool t2)]) (fun o0 aB=>?_) ?_
 · have H:=iS I;refine zM<|yC 4 [0] [6] rfl<|xS [6] aB ?_ ?_
   · intro hc N;exact yI [0] [2] rfl<|xQ zQ<|yL<|zU (ct N H)
   intro hc N;exact wB [] [(2,vF)]<|xQ zQ<|yL<|zU (ct N H)
 intro t2 I0 le aS;refine zI<|xB ?_;obtain rfl:=zC aS;exact vE
def oQ (a0:zA):Option (Bool):=do
 let t2<-(do
   if ((a0.Coefs.length:Int)==0) then
    pure (a0.Const==0)
   else
    pure false
     : Option Bool)
 pure (id t2)
theorem zAF:∀ a0 r,oQ a0=some r->∀ {I:Imm}{p c},(S4 I p a0.Coefs c)->RT 253 [vA (cAff a0 p c)] I [] (zV  r):=by
 intro a0 r N I p c h;unfold oQ at N;refine yJ func253 fun B=>?_;have H:=iS I;refine yE<|tW (cAff a0 p c) ?_;intro b hb;refine wB [] []<|zI<|yB ?_;refine wS N [] (fun t2=>[(2,.bool t2)]) (fun o0 aB=>?_) ?_
 · have H:=iS I;refine zM<|yC 5 [0] [7] rfl<|xS [7] aB ?_ ?_
   · intro hc N;exact yI [0] [2] rfl<|xQ zQ<|yL<|zU (ct N H)
   intro hc N;exact wB [] [(2,vF)]<|xQ zQ<|yL<|zU (ct N H)
 intro t2 I0 le aS;refine zI<|xB ?_;obtain rfl:=zC aS;exact vE
def jH (e0:zG) (aa:Int):Option (Bool):=do
 if (e0.Kind==2) then
  let t4<-(do
    if (e0.Num==0) then
     let y<-qX e0.Read
     if y then
      let y1<-uE e0.Index
      if y1 then
       let y2<-qW e0.Index
       pure (decide (y2<=aa))
      else
       pure false
     else
      pure false
    else
     pure false
      : Option Bool)
  pure (id t4)
 else
  if (e0.Kind==3) then
   let t41<-(do
     if (e0.Num==0) then
      let y3<-oQ e0.Index
      if y3 then
       let y4<-pJ e0.Read aa
       pure (id y4)
      else
       pure false
     else
      pure false
       : Option Bool)
   pure (id t41)
  else
   if (e0.Kind==1) then
    let t42<-(do
      if (decide (e0.Num>=0)) then
       if (decide (e0.Num<=99)) then
        let y5<-oQ e0.Index
        if y5 then
         let y6<-qX e0.Read
         pure (id y6)
        else
         pure false
       else
        pure false
      else
       pure false
        : Option Bool)
    pure (id t42)
   else
    let t43<-(do
      if (e0.Num==0) then
       let y7<-oQ e0.Index
       if y7 then
        let y8<-qX e0.Read
        pure (id y8)
       else
        pure false
      else
       pure false
        : Option Bool)
    pure (id t43)
theorem zHM:∀ e0 aa r,jH e0 aa=some r->∀ {I:Imm}{p c p1 c1 p2 c2},(S4 I p e0.Index.Coefs c)->(S4 I p1 e0.Read.Subs c1)->(S4 I p2 e0.Kids c2)->RT 228 [vA (cExpr e0 p c p1 c1 p2 c2),vI aa] I [] (zV  r):=by
 intro e0 aa r N I p c p1 c1 p2 c2 h h1 h2;unfold jH at N;refine yJ func228 fun B=>?_;have H:=iS I;refine yE<|tW (cExpr e0 p c p1 c1 p2 c2) ?_;intro b hb;refine wB [] []<|yA<|yE<|yI [0] [7] rfl<|zI<|yF N ?_ ?_
 · intro hc N;refine yB ?_;refine wS N [] (fun t4=>[(4,.bool t4)]) (fun o0 aB=>?_) ?_
   · have H:=iS I;refine zM<|yC 4 [0] [11] rfl<|xS [11] aB ?_ ?_
     · intro aE N;refine rY 6 [0] [(13,vA (cAccess e0.Read p1 c1))]<|bE N fun y hy N=>uM (dE e0.Read _ hy h1) ?_;intro aT le;have ⟨h,H⟩:=m2 le h H;refine yC 9 [] [16] rfl<|xS [16] N ?_ ?_
       · intro aY N;refine rY 11 [0] [(18,vA (cAff e0.Index p c))]<|bE N fun y1 aA N=>uM (kE e0.Index _ aA h) ?_;intro aU af;have ⟨h,H⟩:=m2 af h H;refine yC 14 [] [21] rfl<|xS [21] N ?_ ?_
         · intro bG N;refine rY 16 [0] [(23,vA (cAff e0.Index p c))]<|bE N fun y2 aJ N=>gR (dD e0.Index _ aJ h) ?_;intro bC aC;have H:=H.trans aC;exact yI [] [4] rfl<|xQ zQ<|yL<|zU (ct N H)
         intro bG N;exact wB [] [(4,vF)]<|xQ zQ<|yL<|zU (ct N H)
       intro aY N;exact wB [] [(4,vF)]<|xQ zQ<|yL<|zU (ct N H)
     intro aE N;exact wB [] [(4,vF)]<|xQ zQ<|yL<|zU (ct N H)
   intro t4 I0 aD aS;refine xC<|zH ?_;obtain rfl:=zC aS;exact vE
 intro hc N;refine zT<|yA<|yE<|yI [0] [30] rfl<|zI<|yF N ?_ ?_
 · intro bM N;refine yB ?_;refine wS N [] (fun t41=>[(4,.bool t41)]) (fun aM az=>?_) ?_
   · have H:=iS I;refine zM<|yC 4 [0] [34] rfl<|xS [34] az ?_ ?_
     · intro hc5 N;refine rY 6 [0] [(36,vA (cAff e0.Index p c))]<|bE N fun y3 bf N=>uM (zAF e0.Index _ bf h) ?_;intro bN aW;have ⟨h1,H⟩:=m2 aW h1 H;refine yC 9 [] [39] rfl<|xS [39] N ?_ ?_
       · intro hc6 N;refine rY 12 [0] [(41,vA (cAccess e0.Read p1 c1)),(42,vI aa)]<|bE N fun y4 bw N=>uM (zAx e0.Read aa _ bw h1) ?_;intro I06 bt;have H:=H.trans bt;exact yI [] [4] rfl<|xQ zQ<|yL<|zU (ct N H)
       intro hc6 N;exact wB [] [(4,vF)]<|xQ zQ<|yL<|zU (ct N H)
     intro hc5 N;exact wB [] [(4,vF)]<|xQ zQ<|yL<|zU (ct N H)
   intro t41 bJ bv hMc1;refine xC<|zH ?_;obtain rfl:=zC hMc1;exact vE
 intro bM N;refine zT<|yA<|yE<|yI [0] [47] rfl<|zI<|yF N ?_ ?_
 · intro hc7 N;refine yB ?_;refine wS N [] (fun t42=>[(4,.bool t42)]) (fun o02 ho02=>?_) ?_
   · have H:=iS I;refine zM<|yC 4 [0] [51] rfl<|xS [51] ho02 ?_ ?_
     · intro hc8 N;refine yC 9 [0] [56] rfl<|xS [56] N ?_ ?_
       · intro hc9 N;refine rY 11 [0] [(58,vA (cAff e0.Index p c))]<|bE N fun y5 bH N=>uM (zAF e0.Index _ bH h) ?_;intro I08 le7;have ⟨h1,H⟩:=m2 le7 h1 H;refine yC 14 [] [61] rfl<|xS [61] N ?_ ?_
         · intro hc10 N;refine rY 16 [0] [(63,vA (cAccess e0.Read p1 c1))]<|bE N fun y6 hy6 N=>uM (dE e0.Read _ hy6 h1) ?_;intro I09 le8;have H:=H.trans le8;exact yI [] [4] rfl<|xQ zQ<|yL<|zU (ct N H)
         intro hc10 N;exact wB [] [(4,vF)]<|xQ zQ<|yL<|zU (ct N H)
       intro hc9 N;exact wB [] [(4,vF)]<|xQ zQ<|yL<|zU (ct N H)
     intro hc8 N;exact wB [] [(4,vF)]<|xQ zQ<|yL<|zU (ct N H)
   intro t42 I07 le9 hMc2;refine xC<|zH ?_;obtain rfl:=zC hMc2;exact vE
 intro hc7 N;refine zT<|zI<|yB ?_;refine wS N [] (fun t43=>[(4,.bool t43)]) (fun o03 ho03=>?_) ?_
 · have H:=iS I;refine zM<|yC 4 [0] [69] rfl<|xS [69] ho03 ?_ ?_
   · intro hc11 N;refine rY 6 [0] [(71,vA (cAff e0.Index p c))]<|bE N fun y7 hy7 N=>uM (zAF e0.Index _ hy7 h) ?_;intro bV le10;have ⟨h1,H⟩:=m2 le10 h1 H;refine yC 9 [] [74] rfl<|xS [74] N ?_ ?_
     · intro hc12 N;refine rY 11 [0] [(76,vA (cAccess e0.Read p1 c1))]<|bE N fun y8 hy8 N=>uM (dE e0.Read _ hy8 h1) ?_;intro bW le11;have H:=H.trans le11;exact yI [] [4] rfl<|xQ zQ<|yL<|zU (ct N H)
     intro hc12 N;exact wB [] [(4,vF)]<|xQ zQ<|yL<|zU (ct N H)
   intro hc11 N;exact wB [] [(4,vF)]<|xQ zQ<|yL<|zU (ct N H)
 intro t43 bP le12 hMc3;refine zI<|xB ?_;obtain rfl:=zC hMc3;exact vE
mutual
def tN (e0:zG) (aa:Int) (ai:Int):Option (Bool):=do
 let t24<-(do
   if (decide (ai<1)) then
    pure true
   else
    let y<-mV e0.Kind
    if (y != (e0.Kids.length:Int)) then
     pure true
    else
     let y1<-jH e0 aa
     pure (!y1)
     : Option Bool)
 if t24 then
  pure false
 else
  match<-vZ (same e0) (same aa) (same ai) (same 0) with
  | .ret r0=>pure r0
  | .done _ =>
   pure true
 partial_fixpoint
def vZ (e0:zG) (aa:Int) (ai:Int) (i:Int):Option (Out Unit (Bool)):=do
 if (decide (i<(e0.Kids.length:Int))) then
  let x<-idx e0.Kids i
  let y2<-tN (same x) (same aa) (W (ai - 1))
  if (!y2) then
   pure (.ret false)
  else
   vZ (same e0) (same aa) (same ai) (W (i+1))
 else
  pure (.done ())
 partial_fixpoint
end
theorem zEu:(∀ (e0:zG) (aa:Int) (ai:Int) r,tN e0 aa ai=some r->∀ {I:Imm}{p c p1 c1 p2 c2},(S4 I p e0.Index.Coefs c)->(S4 I p1 e0.Read.Subs c1)->(S4 I p2 e0.Kids c2)->RT 187 [vA (cExpr e0 p c p1 c1 p2 c2),vI aa,vI ai] I [] (zV  r))/\(∀ (e0:zG) (aa:Int) (ai:Int) (i:Int) o,vZ e0 aa ai i=some o->∀ {B}{I0 I:Imm}{Q p c p1 c1 p2 c2}{b:Nat},I0.le I->(S4 I p e0.Index.Coefs c)->(S4 I p1 e0.Read.Subs c1)->(S4 I p2 e0.Kids c2)->NG Q->NO Q->(∀ (I':Imm) ,o=(.done ())->I0.le I'->T 42 B Q (.exit 0) I' [] [])->(∀ r I' ah m',o=(.ret r)->I0.le I'->RS Tryz.prog f187 B (zV  r) I' ah m'->T 42 B Q .ret I' ah m')->J Tryz.prog 42 B (nav (bodyOf f187) [1,1,0,1,0]) Q I [hB b (cExpr e0 p c p1 c1 p2 c2)] [(1,vI aa),(2,vI ai),(3,vP b 0),(7,vI i)]):=by
  refine tN.mutual_partial_correctness _ _ ?_ ?_
  · intro F_spec_l3Shape_l1 ih_spec_l3Shape_l1 e0 aa ai r N I p c p1 c1 p2 c2 h h1 h2;refine yJ func187 fun B=>?_;have H:=iS I;refine yE<|tW (cExpr e0 p c p1 c1 p2 c2) ?_;intro b hb;refine wB [] []<|yA<|yB ?_;refine wS N [hB b (cExpr e0 p c p1 c1 p2 c2)] (fun t24=>[(1,vI aa),(2,vI ai),(3,vP b 0),(24,.bool t24)]) (fun o0 aB=>?_) ?_
    · have H:=iS I;cases hc:(decide (ai<1)) with
      | true =>
       have hM0:=tZ hc aB;refine vC [.p (vI ai) [],.q vY,.q vY,.p undef [],.p undef [],.p undef [],.p undef [],.p undef [],.p undef [],.p undef [],.p vY [],.p vY [],.p undef [],.p undef [],.p undef [],.p undef [],.p vY []] [[],[(0,false)],[(1,false)],[(2,false)],[(2,false),(3,false)],[(2,false),(4,false)],[(2,false)],[(2,false),(6,false)],[(2,false),(7,false)],[(2,false),(5,false),(8,false)],[(2,false),(9,false)],[(10,false)],[(11,false)],[(11,false)],[(11,false),(12,false),(13,false)],[(11,false),(14,false)],[(11,false),(15,false)]] [hB b (cExpr e0 p c p1 c1 p2 c2)] [] [(16,false)] (zY [0]) ?_ ?_
       · refine Op<|Oq ?_<|Oq ?_<|Op<|Op<|Op<|Op<|Op<|Op<|Op<|Op<|Op<|Op<|Op<|Op<|Op<|Op<|On
         · intro I1 hf af;refine yW [8] rfl<|oY 2 [(9,.bool (decide (ai<1)))] ?_;rw [hc];exact xE iR
         intro I1 hf af;exact dC [(9,vY)]<|oY 3 [(10,vY)]<|xE iR
       intro aT le;refine yW [1,2,3,24] rfl ?_;have H:=H.trans le;exact yD rfl<|yL<|zU (ct hM0 H)
      | false =>
       have hM01:=uZ hc aB;obtain ⟨y,hy,N⟩:=zB hM01;cases aE:(y != (e0.Kids.length:Int)) with
       | true =>
        have hM02:=tZ aE N;refine vC [.p (vI ai) [],.q vF,.q vF,.p (vP b 0) [],.p (vI e0.Kind) [0],.q (vI y),.p (vP b 6) [],.p (vS p2 e0.Kids c2) [0],.p (vI (e0.Kids.length:Int)) [],.q vY,.q vY,.q vY,.p undef [],.p undef [],.p undef [],.p undef [],.p vY []] [[],[(0,false)],[(1,false)],[(2,false)],[(2,false),(3,false)],[(2,false),(4,false)],[(2,false)],[(2,false),(6,false)],[(2,false),(7,false)],[(2,false),(5,false),(8,false)],[(2,false),(9,false)],[(10,false)],[(11,false)],[(11,false)],[(11,false),(12,false),(13,false)],[(11,false),(14,false)],[(11,false),(15,false)]] [hB b (cExpr e0 p c p1 c1 p2 c2)] [] [(16,false)] (zY [0]) ?_ ?_
        · refine Op<|Oq ?_<|Oq ?_<|Op<|Op<|Oq ?_<|Op<|Op<|Op<|Oq ?_<|Oq ?_<|Oq ?_<|Op<|Op<|Op<|Op<|Op<|On
          · intro I1 hf af;refine yW [8] rfl<|oY 2 [(9,.bool (decide (ai<1)))] ?_;rw [hc];exact xE iR
          · intro I1 hf af;exact dC [(9,vF)]<|oY 3 [(10,vF)]<|xE iR
          · intro I1 hf af;refine yW [10,12] rfl ?_;have H:=iS I1;refine gR (zCB e0.Kind _ hy ) ?_;intro aU af;have H:=H.trans af;exact xE H
          · intro I1 hf af;refine yW [10,13,16] rfl<|oY 10 [(17,.bool (y != (e0.Kids.length:Int)))] ?_;rw [aE];exact xE iR
          · intro I1 hf af;exact yW [10,17] rfl<|oY 11 [(18,vY)]<|xE iR
          intro I1 hf af;exact dC [(18,vY)]<|oY 12 [(19,vY)]<|xE iR
        intro bC aC;refine yW [1,2,3,24] rfl ?_;have H:=H.trans aC;exact yD rfl<|yL<|zU (ct hM02 H)
       | false =>
        have hM03:=uZ aE N;obtain ⟨y1,aA,N⟩:=zB hM03;refine vC [.p (vI ai) [],.q vF,.q vF,.p (vP b 0) [],.p (vI e0.Kind) [0],.q (vI y),.p (vP b 6) [],.p (vS p2 e0.Kids c2) [0],.p (vI (e0.Kids.length:Int)) [],.q vF,.q vF,.q vF,.p (vA (cExpr e0 p c p1 c1 p2 c2)) [0],.p (vI aa) [],.q (.bool y1),.p (.bool (!y1)) [],.p (.bool (!y1)) []] [[],[(0,false)],[(1,false)],[(2,false)],[(2,false),(3,false)],[(2,false),(4,false)],[(2,false)],[(2,false),(6,false)],[(2,false),(7,false)],[(2,false),(5,false),(8,false)],[(2,false),(9,false)],[(10,false)],[(11,false)],[(11,false)],[(11,false),(12,false),(13,false)],[(11,false),(14,false)],[(11,false),(15,false)]] [hB b (cExpr e0 p c p1 c1 p2 c2)] [] [(16,false)] (zY [0]) ?_ ?_
        · refine Op<|Oq ?_<|Oq ?_<|Op<|Op<|Oq ?_<|Op<|Op<|Op<|Oq ?_<|Oq ?_<|Oq ?_<|Op<|Op<|Oq ?_<|Op<|Op<|On
          · intro I1 hf af;refine yW [8] rfl<|oY 2 [(9,.bool (decide (ai<1)))] ?_;rw [hc];exact xE iR
          · intro I1 hf af;exact dC [(9,vF)]<|oY 3 [(10,vF)]<|xE iR
          · intro I1 hf af;refine yW [10,12] rfl ?_;have H:=iS I1;refine gR (zCB e0.Kind _ hy ) ?_;intro aU af;have H:=H.trans af;exact xE H
          · intro I1 hf af;refine yW [10,13,16] rfl<|oY 10 [(17,.bool (y != (e0.Kids.length:Int)))] ?_;rw [aE];exact xE iR
          · intro I1 hf af;exact yW [10,17] rfl<|oY 11 [(18,vF)]<|xE iR
          · intro I1 hf af;exact dC [(18,vF)]<|oY 12 [(19,vF)]<|xE iR
          intro I1 hf af;refine yW [19,20,21] rfl ?_;have H:=iS I1;have ⟨h,h1,h2⟩:=m3 af h h1 h2;refine uM (zHM e0 aa _ aA h h1 h2) ?_;intro bJ aD;have H:=H.trans aD;exact xE H
        intro bN aW;refine yW [1,2,3,24] rfl ?_;have H:=H.trans aW;exact yD rfl<|yL<|zU (ct N H)
    intro t24 I0 bt aS;have ⟨h,h1,h2⟩:=m3 bt h h1 h2;refine zI<|yF aS ?_ ?_
    · intro aY N;refine vR [(6,vF)]<|xC<|zH ?_;obtain rfl:=zC N;exact vE
    intro aY N;refine zT<|yA<|yG [7] rfl<|xX<|qP [(1,vI aa),(2,vI ai),(3,vP b 0),(7,vI 0)] ?_;obtain ⟨aM,az,aI⟩:=zB N;refine ih_spec_l3Shape_l1 e0 aa ai 0 aM az iR h h1 h2 (fun _ _ _ h=>h) (fun _ _ h=>h) ?_ ?_
    · intro I07  heq1 le7;subst aM;refine zS<|zGR [(6,vY)]<|zI<|xB ?_;obtain rfl:=zC aI;exact vE
    intro r0 I9 hs9 m9 aX le9 ba;subst aX;refine zW<|zH ?_;obtain rfl:=zC aI;exact xA ba
  intro F_spec_l3Shape F_spec_l3Shape_l1 ih_spec_l3Shape ih_spec_l3Shape_l1 e0 aa ai i o N B I0 I Q p c p1 c1 p2 c2 b H h h1 h2 hg ho hx hr;refine yR hg ho<|yB<|yE<|yI [0] [29] rfl<|zI<|yF N ?_ ?_
  · intro bG N;refine zT<|yA<|yH<|yE<|yC 3 [0] [33,34] rfl<|bE N fun x aJ N=>xO rfl rfl h2 aJ ?_;intro ad aK aq al;obtain ⟨p3,c3,p4,c4,p5,c5,rfl,h5,h6,h7⟩:=tH al;refine xJ 0 aq (cExpr x p3 c3 p4 c4 p5 c5) (vA (cExpr x p3 c3 p4 c4 p5 c5)) rfl<|yC 8 [] [37,39] rfl<|bE N fun y2 bf N=>xM (ih_spec_l3Shape x aa (W (ai - 1)) _ bf h5 h6 h7) ?_;rintro I06 aw v2 k2 bv - ⟨v05,rfl,rfl,rfl⟩ -;have ⟨h,h1,h2,H⟩:=m4 bv h h1 h2 H;refine yI [] [41] rfl<|zI<|yF N ?_ ?_
    · intro bM N;exact vR [(6,vF)]<|xC<|zW<|zH<|zH<|hr _ _ _ _ (zC N).symm H ⟨_,_,(.tmp rfl ResV.nil),zQ,⟨_,rfl,rfl,rfl⟩⟩
    intro bM N;exact zT<|zP<|zI<|zM<|yI [] [7] rfl<|yP<|nN<|ih_spec_l3Shape_l1 e0 aa ai (W (i+1)) _ N H h h1 h2 hg ho hx hr
  intro bG N;exact wR<|xQ zQ<|yL<|hx _  (zC N).symm H
theorem zFa:∀ e0 aa ai r,tN e0 aa ai=some r->∀ {I:Imm}{p c p1 c1 p2 c2},(S4 I p e0.Index.Coefs c)->(S4 I p1 e0.Read.Subs c1)->(S4 I p2 e0.Kids c2)->RT 187 [vA (cExpr e0 p c p1 c1 p2 c2),vI aa,vI ai] I [] (zV  r):=zEu.1
mutual
def sD (e0:zG) (ai:Int):Option (Int):=do
 let n01<-uA (same e0) (same ai) (same 1) (same 0)
 pure (id n01)
 partial_fixpoint
def uA (e0:zG) (ai:Int) (n0:Int) (i:Int):Option (Int):=do
 let t15<-(do
   if (decide (i<(e0.Kids.length:Int))) then
    pure (decide (ai>0))
   else
    pure false
     : Option Bool)
 if t15 then
  let x<-idx e0.Kids i
  let y<-sD (same x) (W (ai - 1))
  uA (same e0) (same ai) (W (n0+y)) (W (i+1))
 else
  pure (id n0)
 partial_fixpoint
end
theorem zEv:(∀ (e0:zG) (ai:Int) r,sD e0 ai=some r->∀ {I:Imm}{p c p1 c1 p2 c2},(S4 I p e0.Index.Coefs c)->(S4 I p1 e0.Read.Subs c1)->(S4 I p2 e0.Kids c2)->RT 188 [vA (cExpr e0 p c p1 c1 p2 c2),vI ai] I [] (xD  r))/\(∀ (e0:zG) (ai:Int) (n0:Int) (i:Int) o,uA e0 ai n0 i=some o->∀ {B}{I0 I:Imm}{Q p c p1 c1 p2 c2}{b:Nat},I0.le I->(S4 I p e0.Index.Coefs c)->(S4 I p1 e0.Read.Subs c1)->(S4 I p2 e0.Kids c2)->NG Q->NO Q->(∀ (I':Imm) (n01:Int),o=n01->I0.le I'->T 29 B Q (.exit 0) I' [] [(5,vI n01)])->J Tryz.prog 29 B (nav (bodyOf f188) [1,1,0,1,0]) Q I [hB b (cExpr e0 p c p1 c1 p2 c2)] [(1,vI ai),(2,vP b 0),(5,vI n0),(6,vI i)]):=by
  refine sD.mutual_partial_correctness _ _ ?_ ?_
  · intro F_spec_l3Count_l1 ih_spec_l3Count_l1 e0 ai r N I p c p1 c1 p2 c2 h h1 h2;refine yJ func188 fun B=>yE<|tW (cExpr e0 p c p1 c1 p2 c2) ?_;intro b hb;refine wB [] []<|vK [5] rfl<|yA<|yG [6] rfl<|xX<|qP [(1,vI ai),(2,vP b 0),(5,vI 1),(6,vI 0)] ?_;obtain ⟨aM,az,aI⟩:=zB N;refine ih_spec_l3Count_l1 e0 ai 1 0 aM az iR h h1 h2 (fun _ _ _ h=>h) (fun _ _ h=>h) ?_;intro aU n01 heq1 aC;subst aM;refine zS<|vK [4] rfl<|zI<|xB ?_;obtain rfl:=zC aI;exact vE
  intro F_spec_l3Count F_spec_l3Count_l1 ih_spec_l3Count ih_spec_l3Count_l1 e0 ai n0 i o N B I0 I Q p c p1 c1 p2 c2 b H h h1 h2 hg ho hx;refine yR hg ho<|yB<|yB ?_;refine wS N [hB b (cExpr e0 p c p1 c1 p2 c2)] (fun t15=>[(1,vI ai),(2,vP b 0),(5,vI n0),(6,vI i),(15,.bool t15)]) (fun o0 aB=>?_) ?_
  · have H:=iS I;refine zM<|yC 6 [0] [12] rfl<|xS [12] aB ?_ ?_
    · intro hc N;exact yI [] [15] rfl<|yL<|zU (ct N H)
    intro hc N;exact wB [] [(15,vF)]<|yL<|zU (ct N H)
  intro t15 I0 le aS;have ⟨h,h1,h2,H⟩:=m4 le h h1 h2 H;refine zI<|yF aS ?_ ?_
  · intro aE N;refine zT<|yA<|yH<|zM<|yC 4 [0] [18,20,21] rfl<|bE N fun x hy N=>xO rfl rfl h2 hy ?_;intro ad aK aq al;obtain ⟨p3,c3,p4,c4,p5,c5,rfl,h3,h4,h5⟩:=tH al;refine xJ 0 aq (cExpr x p3 c3 p4 c4 p5 c5) (vA (cExpr x p3 c3 p4 c4 p5 c5)) rfl<|yC 8 [] [25] rfl<|bE N fun y aA N=>xM (ih_spec_l3Count x (W (ai - 1)) _ aA h3 h4 h5) ?_;rintro aT aw v2 k2 af - ⟨v03,rfl,rfl,rfl⟩ -;have ⟨h,h1,h2,H⟩:=m4 af h h1 h2 H;exact yI [] [5] rfl<|zP<|zI<|zM<|yI [] [6] rfl<|yP<|nN<|ih_spec_l3Count_l1 e0 ai (W (n0+y)) (W (i+1)) _ N H h h1 h2 hg ho hx
  intro aE N;exact wR<|xQ zQ<|yL<|hx _ _ (zC N).symm H
theorem zFb:∀ e0 ai r,sD e0 ai=some r->∀ {I:Imm}{p c p1 c1 p2 c2},(S4 I p e0.Index.Coefs c)->(S4 I p1 e0.Read.Subs c1)->(S4 I p2 e0.Kids c2)->RT 188 [vA (cExpr e0 p c p1 c1 p2 c2),vI ai] I [] (xD  r):=zEv.1
def sQ (s:zO) (aa:Int):Option (Bool):=do
 let t24<-(do
   if (decide (aa<0)) then
    pure true
   else
    if (decide (aa>4)) then
     pure true
    else
     let y<-pJ s.Write aa
     if (!y) then
      pure true
     else
      let y1<-tN s.Value aa 5
      pure (!y1)
     : Option Bool)
 if t24 then
  pure false
 else
  let y2<-sD s.Value 5
  pure (decide (y2<=12))
theorem fW:∀ s aa r,sQ s aa=some r->∀ {I:Imm}{p c p1 c1 p2 c2 p3 c3},(S4 I p s.Write.Subs c)->(S4 I p1 s.Value.Index.Coefs c1)->(S4 I p2 s.Value.Read.Subs c2)->(S4 I p3 s.Value.Kids c3)->RT 146 [vA (cStmt s p c p1 c1 p2 c2 p3 c3),vI aa] I [] (zV  r):=by
 intro s aa r N I p c p1 c1 p2 c2 p3 c3 h h1 h2 h3;unfold sQ at N;refine yJ func146 fun B=>?_;have H:=iS I;refine yE<|tW (cStmt s p c p1 c1 p2 c2 p3 c3) ?_;intro b hb;refine wB [] []<|yA<|yB ?_;refine wS N [hB b (cStmt s p c p1 c1 p2 c2 p3 c3)] (fun t24=>[(2,vP b 0),(24,.bool t24)]) (fun o0 aB=>?_) ?_
 · have H:=iS I;refine zM<|yC 3 [] [7] rfl<|xS [7] aB ?_ ?_
   · intro hc N;exact wB [] [(24,vY)]<|yL<|zU (ct N H)
   intro hc N;refine yC 7 [] [11] rfl<|xS [11] N ?_ ?_
   · intro aE N;exact wB [] [(24,vY)]<|yL<|zU (ct N H)
   intro aE N;refine rY 10 [0] [(13,vA (cAccess s.Write p c)),(14,vI aa)]<|bE N fun y hy N=>uM (zAx s.Write aa _ hy h) ?_;intro aT le;have ⟨h1,h2,h3,H⟩:=m4 le h1 h2 h3 H;refine yC 14 [] [18] rfl<|xS [18] N ?_ ?_
   · intro aY N;exact wB [] [(24,vY)]<|yL<|zU (ct N H)
   intro aY N;refine rY 17 [0] [(20,vA (cExpr s.Value p1 c1 p2 c2 p3 c3)),(21,vI aa)]<|bE N fun y1 aA N=>uM (zFa s.Value aa 5 _ aA h1 h2 h3) ?_;intro aU af;have H:=H.trans af;exact yI [] [24] rfl<|yL<|zU (ct N H)
 intro t24 I0 aC aS;have ⟨h1,h2,h3⟩:=m3 aC h1 h2 h3;refine zI<|yF aS ?_ ?_
 · intro bG N;refine vR [(4,vF)]<|xC<|zH ?_;obtain rfl:=zC N;exact vE
 intro bG N;refine zT<|yV<|rY 2 [0] [(26,vA (cExpr s.Value p1 c1 p2 c2 p3 c3))]<|bE N fun y2 aJ N=>gR (zFb s.Value 5 _ aJ h1 h2 h3) fun bC aD=>wB [] [(4,.bool (decide (y2<=12)))]<|zI<|xB ?_;obtain rfl:=zC N;exact vE
def sE (list:(List zA)) (out:Str) (i:Int):Option (Str):=do
 if (decide (i<(list.length:Int))) then
  let ap<-(do
    if (decide (i>0)) then
     let s<-cat out (⟨[44]⟩:Str)
     pure (id s)
    else
     pure (id out)
      : Option Str)
  let x<-idx list i
  let y<-mU x
  let s1<-cat ap y
  sE list s1 (W (i+1))
 else
  pure (id out)
 partial_fixpoint
theorem zBi (list:(List zA)):∀ (out:Str) (i:Int) (o:Str),sE list out i=some o->∀ {B}{I0 I:Imm}{Q p c},I0.le I->(S4 I p list c)->NG Q->NO Q->(∀ (I':Imm) (aj:Str),o=aj->I0.le I'->T 23 B Q (.exit 0) I' [] [(3,vT aj.l)])->J Tryz.prog 23 B (nav (bodyOf f242) [1,1,0,1,0]) Q I [] [(0,vS p list c),(3,vT out.l),(4,vI i)]:=by
 refine sE.partial_correctness list _ fun aH ih out i o N B I0 I Q p c H h hg ho hx=>yR hg ho<|yB<|yG [8] rfl<|zI<|yF N ?_ ?_
 · intro hc N;refine zT<|yA<|yH<|yB<|yG [12] rfl<|zI ?_;refine wS N [] (fun ap=>[(0,vS p list c),(3,vT ap.l),(4,vI i)]) (fun o0 aB=>?_) ?_
   · have H:=iS I;refine yF aB ?_ ?_
     · intro aE N;exact zM<|yC 1 [] [13] rfl<|bE N fun s hy N=>kY rfl hy<|yI [] [3] rfl<|yL<|zU (ct N H)
     intro aE N;exact zT<|yL<|zU (ct N H)
   intro ap I0 le aS;have ⟨h,H⟩:=m2 le h H;refine zI<|zM<|yC 3 [] [15,16,17] rfl ?_;obtain ⟨x,aA,N⟩:=zB aS;refine xO rfl rfl h aA ?_;intro ad aK aq al;obtain ⟨p1,c1,rfl,h1⟩:=yM al;refine xJ 0 aq (cAff x p1 c1) (vA (cAff x p1 c1)) rfl<|bE N fun y aJ N=>xM (zAE x _ aJ h1) ?_;rintro aT aw v2 k2 af - ⟨v01,rfl,rfl,rfl⟩ -;have ⟨h,H⟩:=m2 af h H;obtain ⟨s1,bf,N⟩:=zB N;exact kY rfl bf<|yI [] [3] rfl<|zP<|zI<|zM<|yI [] [4] rfl<|yP<|nN<|ih s1 (W (i+1)) _ N H h hg ho hx
 intro hc N;exact wR<|yL<|hx _ _ (zC N).symm H
def qY (list:(List zA)):Option (Str):=do
 let aj<-sE list (⟨[]⟩:Str) 0
 pure (id aj)
theorem fN:∀ list r,qY list=some r->∀ {I:Imm}{p c},(S4 I p list c)->RT 242 [vS p list c] I [] (tP  r):=by
 intro list r N I p c h;unfold qY at N;refine yJ func242 fun B=>vR []<|vK [3] rfl<|yA<|yG [4] rfl<|xX<|qP [(0,vS p list c),(3,vT ([])),(4,vI 0)] ?_;obtain ⟨aM,az,aI⟩:=zB N;refine zBi list (⟨[]⟩:Str) 0 aM az iR h (fun _ _ _ h=>h) (fun _ _ h=>h) ?_;intro aU aj heq1 aC;subst aM;refine zS<|vK [2] rfl<|zI<|xB ?_;obtain rfl:=zC aI;exact vE
def sX (a0:zJ):Option (Str):=do
 let s<-cat a0.Array (⟨[91]⟩:Str)
 let y<-qY a0.Subs
 let s1<-cat s y
 let s2<-cat s1 (⟨[93]⟩:Str)
 pure (id s2)
theorem gG:∀ a0 r,sX a0=some r->∀ {I:Imm}{p c},(S4 I p a0.Subs c)->RT 216 [vA (cAccess a0 p c)] I [] (tP  r):=by
 intro a0 r N I p c h;unfold sX at N;refine yJ func216 fun B=>?_;have H:=iS I;refine yE<|tW (cAccess a0 p c) ?_;intro b hb;refine wB [] []<|zI<|yB ?_;obtain ⟨s,hy,N⟩:=zB N;obtain ⟨y,aA,N⟩:=zB N;obtain ⟨s1,aJ,N⟩:=zB N;obtain ⟨s2,bf,N⟩:=zB N;refine vC [.p (vP b 0) [],.p (vT a0.Array.l) [0],.q (vT s.l),.p (vP b 1) [],.p (vS p a0.Subs c) [0],.q (vT y.l),.q (vT s1.l),.q (vT s2.l)] [[],[(0,false)],[(1,false)],[],[(3,false)],[(4,false)],[(2,false),(5,false)],[(6,false)]] [hB b (cAccess a0 p c)] [] [(7,false)] (zY [0]) ?_ ?_
 · refine Op<|Op<|Oq ?_<|Op<|Op<|Oq ?_<|Oq ?_<|Oq ?_<|On
   · intro I1 hf af;exact yW [4] rfl<|kY rfl hy<|xE iR
   · intro I1 hf af;refine yW [7] rfl ?_;have H:=iS I1;have h:=h.mono af;refine xM (fN a0.Subs _ aA h) ?_;rintro I0 aw v2 k2 le - ⟨v0,rfl,rfl,rfl⟩ -;have H:=H.trans le;exact xE H
   · intro I1 hf af;exact yW [5,8] rfl<|kY rfl aJ<|xE iR
   intro I1 hf af;exact yW [9] rfl<|kY rfl bf<|xE iR
 intro aT af;refine yW [10] rfl ?_;refine yI [] [2] rfl<|zI<|xB ?_;obtain rfl:=zC N;exact vE
def rQ (e0:zG):Option (Str):=do
 if (e0.Kind==1) then
  let y<-rP e0.Num
  pure (id y)
 else
  if (e0.Kind==2) then
   let y1<-mU e0.Index
   let s<-cat (⟨[123]⟩:Str) y1
   let s1<-cat s (⟨[125]⟩:Str)
   pure (id s1)
  else
   if (e0.Kind==3) then
    let y2<-sX e0.Read
    pure (id y2)
   else
    let x<-idx e0.Kids 0
    let y3<-rQ (same x)
    let s2<-cat (⟨[40]⟩:Str) y3
    let s3<-sslc (⟨[43,45,42]⟩:Str) (W (e0.Kind - 4)) (W ((W (e0.Kind - 4))+1))
    let s4<-cat s2 s3
    let x1<-idx e0.Kids 1
    let y4<-rQ (same x1)
    let s5<-cat s4 y4
    let s6<-cat s5 (⟨[41]⟩:Str)
    pure (id s6)
 partial_fixpoint
theorem zCC:∀ e0 r,rQ e0=some r->∀ {I:Imm}{p c p1 c1 p2 c2},(S4 I p e0.Index.Coefs c)->(S4 I p1 e0.Read.Subs c1)->(S4 I p2 e0.Kids c2)->RT 217 [vA (cExpr e0 p c p1 c1 p2 c2)] I [] (tP  r):=by
 refine rQ.partial_correctness _ fun F_spec_l3Text ih_spec_l3Text e0 r N I p c p1 c1 p2 c2 h h1 h2=>yJ func217 fun B=>?_;have H:=iS I;refine yE<|tW (cExpr e0 p c p1 c1 p2 c2) ?_;intro b hb;refine wB [] []<|yA<|yE<|yI [0] [4] rfl<|xX<|yG [5] rfl<|zI<|yF N ?_ ?_
 · intro hc N;refine yE<|yC 2 [0] [8] rfl<|bE N fun y hy N=>xM (fU e0.Num _ hy ) ?_;rintro I0 aw v2 k2 le - ⟨v0,rfl,rfl,rfl⟩ -;refine yI [] [2] rfl<|xC<|zW<|zH ?_;obtain rfl:=zC N;exact vE
 intro hc N;refine yG [10] rfl<|zI<|yF N ?_ ?_
 · intro aE N;refine yE<|rY 2 [0] [(13,vA (cAff e0.Index p c))]<|bE N fun y1 aA N=>xM (zAE e0.Index _ aA h) ?_;rintro aT aw v2 k2 af - ⟨v01,rfl,rfl,rfl⟩ -;obtain ⟨s,aJ,N⟩:=zB N;refine kY rfl aJ<|bE N fun s1 bf N=>kY rfl bf<|yI [] [2] rfl<|xC<|zW<|zH ?_;obtain rfl:=zC N;exact vE
 intro aE N;refine yG [17] rfl<|zI<|yF N ?_ ?_
 · intro aY N;refine yE<|rY 2 [0] [(20,vA (cAccess e0.Read p1 c1))]<|bE N fun y2 bw N=>xM (gG e0.Read _ bw h1) ?_;rintro aU aw v2 k2 aC - ⟨v02,rfl,rfl,rfl⟩ -;refine yI [] [2] rfl<|xC<|zW<|zH ?_;obtain rfl:=zC N;exact vE
 intro aY N;refine zT<|zP<|zI<|yB ?_;obtain ⟨x,bH,N⟩:=zB N;obtain ⟨y3,hy6,N⟩:=zB N;obtain ⟨s2,hy7,N⟩:=zB N;obtain ⟨s3,hy8,N⟩:=zB N;obtain ⟨s4,hy9,N⟩:=zB N;obtain ⟨x1,hy10,N⟩:=zB N;obtain ⟨y4,hy11,N⟩:=zB N;obtain ⟨s5,hy12,N⟩:=zB N;obtain ⟨s6,hy13,N⟩:=zB N;refine vC [.p (vP b 6) [],.p (vS p2 e0.Kids c2) [0],.x (ePExpr x),.x (eVExpr x),.q (vT y3.l),.q (vT s2.l),.p (vP b 0) [],.p (vI e0.Kind) [0],.p (vI (W (e0.Kind - 4))) [],.p (vP b 0) [],.p (vI e0.Kind) [0],.p (vI (W (e0.Kind - 4))) [],.p (vI (W ((W (e0.Kind - 4))+1))) [],.q (vT s3.l),.q (vT s4.l),.p (vP b 6) [],.p (vS p2 e0.Kids c2) [0],.x (ePExpr x1),.x (eVExpr x1),.q (vT y4.l),.q (vT s5.l),.q (vT s6.l)] [[],[(0,false)],[(1,false)],[(2,false)],[(3,false)],[(4,false)],[],[(6,false)],[(7,false)],[],[(9,false)],[(10,false)],[(11,false)],[(8,false),(12,false)],[(5,false),(13,false)],[],[(15,false)],[(16,false)],[(17,false)],[(18,false)],[(14,false),(19,false)],[(20,false)]] [hB b (cExpr e0 p c p1 c1 p2 c2)] [] [(21,false)] (zY [0]) ?_ ?_
 · refine Op<|Op<|Ox ?_<|Ox ?_<|Oq ?_<|Oq ?_<|Op<|Op<|Op<|Op<|Op<|Op<|Op<|Oq ?_<|Oq ?_<|Op<|Op<|Ox ?_<|Ox ?_<|Oq ?_<|Oq ?_<|Oq ?_<|On
   · intro I1 hf af;refine yW [23] rfl ?_;have h2:=h2.mono af;refine xO rfl rfl h2 bH ?_;intro ad aK aq al;obtain ⟨p3,c3,p4,c4,p5,c5,rfl,h6,h7,h8⟩:=tH al;exact yQ [] iR ⟨_,_,_,_,_,_,_,rfl,rfl,aq,h6,h7,h8⟩
   · rintro I1 hf af _ _ ⟨ad,p3,c3,p4,c4,p5,c5,rfl,rfl,aq,h6,h7,h8⟩;exact yW [24] rfl<|xJ 0 aq (cExpr x p3 c3 p4 c4 p5 c5) (vA (cExpr x p3 c3 p4 c4 p5 c5)) rfl<|yQ [] iR ⟨_,_,_,_,_,_,rfl,rfl,h6,h7,h8⟩
   · rintro I1 hf af _ _ ⟨p31,c31,p41,c41,p51,c51,rfl,rfl,h61,h71,h81⟩;refine yW [25] rfl ?_;have H:=iS I1;refine xM (ih_spec_l3Text x _ hy6 h61 h71 h81) ?_;rintro bC aw v2 k2 aD - ⟨v06,rfl,rfl,rfl⟩ -;have H:=H.trans aD;exact xE H
   · intro I1 hf af;exact yW [26] rfl<|kY rfl hy7<|xE iR
   · intro I1 hf af;exact yW [30,34] rfl<|zHK rfl hy8<|xE iR
   · intro I1 hf af;exact yW [27,35] rfl<|kY rfl hy9<|xE iR
   · intro I1 hf af;refine yW [38] rfl ?_;have h2:=h2.mono af;refine xO rfl rfl h2 hy10 ?_;intro ad1 bx au ax;obtain ⟨p6,c6,p7,c7,p8,c8,rfl,h10,h11,h12⟩:=tH ax;exact yQ [] iR ⟨_,_,_,_,_,_,_,rfl,rfl,au,h10,h11,h12⟩
   · rintro I1 hf af _ _ ⟨ad1,p6,c6,p7,c7,p8,c8,rfl,rfl,au,h10,h11,h12⟩;exact yW [39] rfl<|xJ 0 au (cExpr x1 p6 c6 p7 c7 p8 c8) (vA (cExpr x1 p6 c6 p7 c7 p8 c8)) rfl<|yQ [] iR ⟨_,_,_,_,_,_,rfl,rfl,h10,h11,h12⟩
   · rintro I1 hf af _ _ ⟨p61,c61,p71,c71,p81,c81,rfl,rfl,h101,h111,h121⟩;refine yW [40] rfl ?_;have H:=iS I1;refine xM (ih_spec_l3Text x1 _ hy11 h101 h111 h121) ?_;rintro bJ aw v2 k2 aW - ⟨v010,rfl,rfl,rfl⟩ -;have H:=H.trans aW;exact xE H
   · intro I1 hf af;exact yW [36,41] rfl<|kY rfl hy12<|xE iR
   intro I1 hf af;exact yW [42] rfl<|kY rfl hy13<|xE iR
 intro bN bt;refine yW [43] rfl ?_;refine yI [] [2] rfl<|zI<|xB ?_;obtain rfl:=zC N;exact vE
def mL (s:zO):Option (Str):=do
 let y<-sQ s 4
 if (!y) then
  pure (⟨[]⟩:Str)
 else
  let y1<-sX s.Write
  let s1<-cat y1 (⟨[61]⟩:Str)
  let y2<-rQ s.Value
  let s2<-cat s1 y2
  pure (id s2)
theorem zDN:∀ s r,mL s=some r->∀ {I:Imm}{p c p1 c1 p2 c2 p3 c3},(S4 I p s.Write.Subs c)->(S4 I p1 s.Value.Index.Coefs c1)->(S4 I p2 s.Value.Read.Subs c2)->(S4 I p3 s.Value.Kids c3)->RT 241 [vA (cStmt s p c p1 c1 p2 c2 p3 c3)] I [] (tP  r):=by
 intro s r N I p c p1 c1 p2 c2 p3 c3 h h1 h2 h3;unfold mL at N;refine yJ func241 fun B=>?_;have H:=iS I;refine yE<|tW (cStmt s p c p1 c1 p2 c2 p3 c3) ?_;intro b hb;refine wB [] []<|yA<|yE<|rY 1 [0] [(3,vA (cStmt s p c p1 c1 p2 c2 p3 c3))]<|bE N fun y hy N=>uM (fW s 4 _ hy h h1 h2 h3) ?_;intro I0 le;have ⟨h,h1,h2,h3,H⟩:=m5 le h h1 h2 h3 H;refine yI [] [5] rfl<|zI<|yF N ?_ ?_
 · intro hc N;refine yG [2] rfl<|xC<|zH ?_;obtain rfl:=zC N;exact vE
 intro hc N;refine zT<|zI<|yB ?_;obtain ⟨y1,aA,N⟩:=zB N;obtain ⟨s1,aJ,N⟩:=zB N;obtain ⟨y2,bf,N⟩:=zB N;obtain ⟨s2,bw,N⟩:=zB N;refine vC [.p (vP b 0) [],.p (vA (cAccess s.Write p c)) [0],.q (vT y1.l),.q (vT s1.l),.p (vP b 2) [],.p (vA (cExpr s.Value p1 c1 p2 c2 p3 c3)) [0],.q (vT y2.l),.q (vT s2.l)] [[],[(0,false)],[(1,false)],[(2,false)],[],[(4,false)],[(5,false)],[(3,false),(6,false)]] [hB b (cStmt s p c p1 c1 p2 c2 p3 c3)] [] [(7,false)] (zY [0]) ?_ ?_
 · refine Op<|Op<|Oq ?_<|Oq ?_<|Op<|Op<|Oq ?_<|Oq ?_<|On
   · intro I1 hf af;refine yW [7] rfl ?_;have H:=iS I1;have h:=h.mono af;refine xM (gG s.Write _ aA h) ?_;rintro aT aw v2 k2 af - ⟨v01,rfl,rfl,rfl⟩ -;have H:=H.trans af;exact xE H
   · intro I1 hf af;exact yW [8] rfl<|kY rfl aJ<|xE iR
   · intro I1 hf af;refine yW [11] rfl ?_;have H:=iS I1;have ⟨h1,h2,h3⟩:=m3 af h1 h2 h3;refine xM (zCC s.Value _ bf h1 h2 h3) ?_;rintro aU aw v2 k2 aC - ⟨v02,rfl,rfl,rfl⟩ -;have H:=H.trans aC;exact xE H
   intro I1 hf af;exact yW [9,12] rfl<|kY rfl bw<|xE iR
 intro bC aD;refine yW [13] rfl ?_;refine yI [] [2] rfl<|zI<|xB ?_;obtain rfl:=zC N;exact vE
def zCj (r:zO×Bool):KT:=fun kk I' ah v=>
  ∃ v0 v1,ah=[]/\v=tupV [v0,v1]/\(∃ cs,v0=.agg ⟨cs⟩/\Rp.rep I' cs r.1)/\v1=.bool r.2
def nU (bi:Str):Option (zO×Bool):=do
 if (decide ((bi.l.length:Int)<4)) then
  pure ((zO.mk (zJ.mk (⟨[]⟩:Str) ([]:List zA)) (zG.mk 0 0 (zA.mk ([]:List Int) 0) (zJ.mk (⟨[]⟩:Str) ([]:List zA)) ([]:List zG))),false)
 else
  let (y1,y2)<-qJ bi 0
  let t25<-(do
    if (decide (y2<0)) then
     pure true
    else
     pure (decide (y2>=(bi.l.length:Int)))
      : Option Bool)
  if t25 then
   pure ((zO.mk (zJ.mk (⟨[]⟩:Str) ([]:List zA)) (zG.mk 0 0 (zA.mk ([]:List Int) 0) (zJ.mk (⟨[]⟩:Str) ([]:List zA)) ([]:List zG))),false)
  else
   let (y4,y5)<-qV bi (W (y2+1)) 5
   let y6<-mL (zO.mk y1 y4)
   if (!(y6.l==bi.l)) then
    pure ((zO.mk (zJ.mk (⟨[]⟩:Str) ([]:List zA)) (zG.mk 0 0 (zA.mk ([]:List Int) 0) (zJ.mk (⟨[]⟩:Str) ([]:List zA)) ([]:List zG))),false)
   else
    pure ((zO.mk y1 y4),true)
theorem zA3:∀ bi r,nU bi=some r->∀ {I:Imm} ,RT 213 [vT bi.l] I [] (zCj  r):=by
 intro bi r N I;unfold nU at N;refine yJ func213 fun B=>?_;have H:=iS I;refine yE<|wL [vT ([]),z0,vI 0,vI 0,z0,vI 0,vT ([]),z0,z0] ?_;intro b hb;refine wB [] []<|yA<|yG [11] rfl<|zI<|yF N ?_ ?_
 · intro hc N;refine yE<|yC 1 [] [12] rfl<|xH 0 [vT ([]),z0,vI 0,vI 0,z0,vI 0,vT ([]),z0,z0] rfl<|wB [] [(3,vF)]<|xC<|zH ?_;obtain rfl:=zC N;exact xA ⟨_,_,(.cell 0 rfl rfl (by kernel_rfl) (.tmp rfl ResV.nil)),zQ,⟨_,_,rfl,rfl,⟨_,rfl,(wM ⟨_,_,_,_,rfl,(SL.nil _),(SL.nil _),(SL.nil _),(SL.nil _)⟩)⟩,rfl⟩⟩
 intro hc N;refine zT<|yV<|yC 1 [] [14] rfl ?_;obtain ⟨⟨y1,y2⟩,hy,N⟩:=zB N;refine xM (eF bi 0 _ hy ) ?_;rintro I0 aw v2 k2 le - ⟨v0,v01,rfl,rfl,⟨cs,rfl,h⟩,rfl⟩ -;have H:=H.trans le;obtain ⟨p,c,rfl,h2⟩:=oT h;refine yC 5 [] [16,17] rfl<|wL [vT ([]),z0] ?_;intro b1 hb1;refine xH 0 (cAccess y1 p c) rfl<|yI [] [5] rfl<|yA<|yB ?_;refine wS N [hB b1 (cAccess y1 p c),hB b [vT ([]),z0,vI 0,vI 0,z0,vI 0,vT ([]),z0,z0]] (fun t25=>[(0,vT bi.l),(2,vP b 0),(4,vP b1 0),(5,vI y2),(25,.bool t25)]) (fun o0 aB=>?_) ?_
 · have H:=iS I0;refine zM<|yC 3 [] [20] rfl<|xS [20] aB ?_ ?_
   · intro aE N;exact wB [] [(25,vY)]<|yL<|zU (ct N H)
   intro aE N;exact yI [] [25] rfl<|yL<|zU (ct N H)
 intro t25 aT af aS;have h2:=h2.mono af;refine zI<|yF aS ?_ ?_
 · intro aY N;refine yE<|yC 1 [] [26] rfl<|xH 1 [vT ([]),z0,vI 0,vI 0,z0,vI 0,vT ([]),z0,z0] rfl<|wB [] [(3,vF)]<|xC<|zH ?_;obtain rfl:=zC N;exact xA ⟨_,_,(.cell 1 rfl rfl (by kernel_rfl) (.tmp rfl ResV.nil)),zQ,⟨_,_,rfl,rfl,⟨_,rfl,(wM ⟨_,_,_,_,rfl,(SL.nil _),(SL.nil _),(SL.nil _),(SL.nil _)⟩)⟩,rfl⟩⟩
 intro aY N;refine zT<|yV<|yC 3 [] [28,30] rfl ?_;obtain ⟨⟨y4,y5⟩,aA,N⟩:=zB N;refine xM (zF9 bi (W (y2+1)) 5 _ aA ) ?_;rintro aU aw v2 k2 aC - ⟨v03,v04,rfl,rfl,⟨ay,rfl,h3⟩,rfl⟩ -;have h2:=h2.mono aC;obtain ⟨p1,c1,p2,c2,p3,c3,rfl,h5,h6,h7⟩:=tH h3;refine yC 7 [] [32,33] rfl<|wL zExpr ?_;intro b2 hb2;refine xH 0 (cExpr y4 p1 c1 p2 c2 p3 c3) rfl<|wB [] []<|yV<|rY 3 [1,0] [(36,vA [vT y1.Array.l,vS p y1.Subs c,vI y4.Kind,vI y4.Num,vS p1 y4.Index.Coefs c1,vI y4.Index.Const,vT y4.Read.Array.l,vS p2 y4.Read.Subs c2,vS p3 y4.Kids c3])]<|wL [vT ([]),z0,vI 0,vI 0,z0,vI 0,vT ([]),z0,z0] ?_;intro b3 hb3;refine xH 0 [vT y1.Array.l,vS p y1.Subs c,vI y4.Kind,vI y4.Num,vS p1 y4.Index.Coefs c1,vI y4.Index.Const,vT y4.Read.Array.l,vS p2 y4.Read.Subs c2,vS p3 y4.Kids c3] rfl<|yD rfl<|yA<|yE<|rY 1 [0] [(37,vA [vT y1.Array.l,vS p y1.Subs c,vI y4.Kind,vI y4.Num,vS p1 y4.Index.Coefs c1,vI y4.Index.Const,vT y4.Read.Array.l,vS p2 y4.Read.Subs c2,vS p3 y4.Kids c3])]<|bE N fun y6 aJ N=>xM (zDN (zO.mk y1 y4) _ aJ h2 h5 h6 h7) ?_;rintro bC aw v2 k2 aD - ⟨v08,rfl,rfl,rfl⟩ -;have ⟨h2,h5,h6,h7⟩:=m4 aD h2 h5 h6 h7;refine yI [] [40] rfl<|zI<|yF N ?_ ?_
 · intro bG N;refine yE<|yC 1 [] [41] rfl<|xH 3 [vT ([]),z0,vI 0,vI 0,z0,vI 0,vT ([]),z0,z0] rfl<|wB [] [(3,vF)]<|xC<|zH ?_;obtain rfl:=zC N;exact xA ⟨_,_,(.cell 3 rfl rfl (by kernel_rfl) (.tmp rfl ResV.nil)),zQ,⟨_,_,rfl,rfl,⟨_,rfl,(wM ⟨_,_,_,_,rfl,(SL.nil _),(SL.nil _),(SL.nil _),(SL.nil _)⟩)⟩,rfl⟩⟩
 intro bG N;refine zT<|yV<|rY 1 [0] [(42,vA [vT y1.Array.l,vS p y1.Subs c,vI y4.Kind,vI y4.Num,vS p1 y4.Index.Coefs c1,vI y4.Index.Const,vT y4.Read.Array.l,vS p2 y4.Read.Subs c2,vS p3 y4.Kids c3])]<|xH 3 [vT y1.Array.l,vS p y1.Subs c,vI y4.Kind,vI y4.Num,vS p1 y4.Index.Coefs c1,vI y4.Index.Const,vT y4.Read.Array.l,vS p2 y4.Read.Subs c2,vS p3 y4.Kids c3] rfl<|wB [] [(3,vY)]<|zI<|xB ?_;obtain rfl:=zC N;exact xA ⟨_,_,(.cell 3 rfl rfl (by kernel_rfl) (.tmp rfl ResV.nil)),zQ,⟨_,_,rfl,rfl,⟨_,rfl,(wM ⟨_,_,_,_,rfl,h2,h5,h6,h7⟩)⟩,rfl⟩⟩
def zEw (r:zD):KT:=fun kk I' ah v=>
  ∃ (a0:Option Addr) (c0:Nat) (s0:List Value) (a1:Option Addr) (c1:Nat) (s1:List Value) (ak:List Raw2) (vN vB:Value) (nl:List zE) (bl:List zO) (csN csB:List Value),
    ah=[hO zF (vS a0 r.Arrays c0) s0,hO Raw2 (vS a1 ak c1) s1,hO zE vN csN,hO zO vB csB]/\v=tupV [vA [vS a0 r.Arrays c0,vS a1 ak c1]]/\L4 I' s0 r.Arrays s1 ak r.Parts vN nl vB bl csN csB
def gX (p:zD) (line:Str):Option (zD):=do
 let y<-mE line
 let t17<-(do
   if (decide ((y.length:Int)>0)) then
    let x<-idx y 0
    pure (x.l==([97,114,114,97,121]:List UInt8))
   else
    pure false
     : Option Bool)
 if t17 then
  let y1<-gD y
  let l<-app 40 p.Arrays ([y1]:List zF)
  pure (zD.mk l p.Parts)
 else
  if (line.l==([112,97,114,116]:List UInt8)) then
   let l1<-app 48 p.Parts ([(zN.mk ([]:List zE) ([]:List zO))]:List zN)
   pure (zD.mk p.Arrays l1)
  else
   let t43<-(do
     if (decide ((W ((p.Parts.length:Int) - 1))>=0)) then
      if (decide ((y.length:Int)>0)) then
       let x1<-idx y 0
       pure (x1.l==([102,111,114]:List UInt8))
      else
       pure false
     else
      pure false
       : Option Bool)
   if t43 then
    let x2<-idx p.Parts (W ((p.Parts.length:Int) - 1))
    let y2<-gW line
    let l2<-app 48 x2.Nest ([y2]:List zE)
    pure (zD.mk p.Arrays (p.Parts.set (W ((p.Parts.length:Int) - 1)).toNat (zN.mk l2 x2.Body)))
   else
    if (decide ((W ((p.Parts.length:Int) - 1))>=0)) then
     let x4<-idx p.Parts (W ((p.Parts.length:Int) - 1))
     let (y4,y5)<-nU line
     let l3<-app 152 x4.Body ([y4]:List zO)
     pure (zD.mk p.Arrays (p.Parts.set (W ((p.Parts.length:Int) - 1)).toNat (zN.mk x4.Nest l3)))
    else
     pure (id p)
theorem zGX:∀ p line r,gX p line=some r->∀ {I:Imm}{p1 c cs p2 c1 ay}{ak:List Raw2}{vN vB:Value}{nl:List zE}{bl:List zO}{csN csB:List Value},
    L4 I cs p.Arrays ay ak p.Parts vN nl vB bl csN csB->RT 175 [vA [vS p1 p.Arrays c,vS p2 ak c1],vT line.l] I [hO zF (vS p1 p.Arrays c) cs,hO Raw2 (vS p2 ak c1) ay,hO zE vN csN,hO zO vB csB] (zEw r):=by
 intro p line r N I p1 c cs p2 c1 ay ak vN vB nl bl csN csB hQ
 unfold gX at N
 simp only [hQ.lp.len] at N
 refine yJ func175 fun B=>yE<|tW [vS p1 p.Arrays c,vS p2 ak c1] ?_
 intro b hb
 refine wL zTwo ?_
 intro b1 hb1
 refine yD rfl<|yV<|yC 1 [] [11] rfl ?_
 obtain ⟨y,hy,N⟩:=zB N
 refine xM (zAu line _ hy ) ?_
 rintro I0 aw v2 k2 le - ⟨v0,rfl,rfl,h2⟩ -
 have hQ:=hQ.mono le
 obtain ⟨p3,c2,rfl⟩:=h2.form
 refine yI [] [5] rfl<|yV<|yI [1] [6] rfl<|yA<|yH<|yB ?_
 obtain ⟨o0,aB,N⟩:=zB N
 refine qR (K1 o0 I0 [hB b1 zTwo,hB b [vS p1 p.Arrays c,vS p2 ak c1],hO zF (vS p1 p.Arrays c) cs,hO Raw2 (vS p2 ak c1) ay,hO zE vN csN,hO zO vB csB] fun t17=>[(1,vT line.l),(2,vP b 0),(4,vP b1 0),(5,vS p3 y c2),(6,vI (W ((ak.length:Int) - 1))),(17,.bool t17)]) ?_ ?_
 · refine zM<|yC 4 [] [21] rfl ?_
   cases hc:(decide ((y.length:Int)>0)) with
   | true =>
    have hM0:=tZ hc aB
    refine yC 5 [] [22] rfl ?_
    obtain ⟨x,aA,N⟩:=zB hM0
    refine xO rfl rfl h2 aA ?_
    intro ad aK aq al
    obtain rfl:=al
    exact xJ 0 aq [vT x.l] (vT x.l) rfl<|yI [] [17] rfl<|yL<|zU ⟨_,(zC N).symm,Imm.le.refl _,rfl,rfl⟩
   | false =>
    have hM01:=uZ hc aB
    exact wB [] [(17,vF)]<|yL<|zU ⟨_,(zC hM01).symm,Imm.le.refl _,rfl,rfl⟩
 rintro aT aw m2 ⟨t17,heq,af,rfl,rfl⟩
 subst o0
 have h2:=h2.mono af
 have hQ:=hQ.mono af
 refine zI<|yF N ?_ ?_
 · intro aE N
   obtain ⟨y1,aJ,N⟩:=zB N
   obtain ⟨l,bf,N⟩:=zB N
   refine vC [.p (vP b 0) [],.p (vS p1 p.Arrays c) [1],.p (vS p3 y c2) [],.x (eVArr y1),.x (fun I' v hx=>∃ b2,v=vS (some ⟨b2,0,none⟩) ([y1]:List zF) 1/\hx=[]/\(SL I' (vS (some ⟨b2,0,none⟩) ([y1]:List zF) 1) ([y1]:List zF))),.x (fun I' v hx=>∃ p5 c4 aR,v=vS p5 l c4/\hx=[hO zF (vS p5 l c4) aR]/\(RL I' aR l))] [[],[(0,false)],[],[(2,false)],[(3,false)],[(1,false),(4,false),(8,true)]] [hB b1 zTwo,hB b [vS p1 p.Arrays c,vS p2 ak c1],hO Raw2 (vS p2 ak c1) ay,hO zE vN csN,hO zO vB csB] [[hO zF (vS p1 p.Arrays c) cs]] [(5,true)] (zY [0,1,3,4,5,2]) ?_ ?_
   · refine Op<|Op<|Op<|Ox ?_<|Ox ?_<|Ox ?_<|On
     · intro I1 hf af
       refine yW [29] rfl<|xM (zF7 y _ aJ (h2.mono af)) ?_
       rintro aU aw v2 k2 aC - ⟨v01,rfl,rfl,⟨aQ,rfl,h3⟩⟩ -
       obtain ⟨v02,rfl,h4⟩:=zBa h3
       obtain ⟨p4,c3,rfl⟩:=h4.form
       exact yQ [] aC ⟨_,_,rfl,rfl,h4⟩
     · intro I1 hf af
       refine xU ?_
       rintro _ _ ⟨p4,c3,rfl,rfl,h4⟩
       refine yW [30] rfl<|uD (cArr y1 p4 c3) zF ?_
       intro b2 hb2
       have h5:RL I1 (cArr y1 p4 c3) ([y1]:List zF):=⟨(cArr y1 p4 c3),_,rfl,rfl,(rX ⟨_,rfl,h4⟩),rfl⟩
       refine xF 0 rfl ?_
       intro bC aD hl0
       exact yQ [] aD ⟨_,rfl,rfl,SL.of_frozen hl0 aD h5⟩
     intro I1 hf af
     refine xU ?_
     rintro _ _ ⟨rfl,rfl⟩
     refine xU ?_
     rintro _ _ ⟨b2,rfl,rfl,h6⟩
     refine xU ?_
     rintro _ _ rfl
     refine yW [28,31] rfl ?_
     obtain ⟨bx,k0,k01⟩:=h6
     refine sC 107 2 0 rfl rfl rfl (hQ.mono af).arr (.inl k0) k01 bf ?_
     intro p5 c4 aR h7
     exact wE (ah:=(hO zF (vS p5 l c4) aR::(hB b1 zTwo::hB b [vS p1 p.Arrays c,vS p2 ak c1]::hO Raw2 (vS p2 ak c1) ay::hO zE vN csN::hO zO vB csB::hf))) rfl<|yQ [hO zF (vS p5 l c4) aR] iR ⟨_,_,_,rfl,rfl,h7⟩
   intro bJ aW
   refine xU ?_
   rintro _ _ ⟨p5,c4,aR,rfl,rfl,h7⟩
   refine yW [2,4,32] rfl ?_
   have hQ:=hQ.mono aW
   refine yC 7 [] [33] rfl<|xH 2 [vS p5 l c4,vS p2 ak c1] rfl<|yD rfl<|zP<|yV<|rY 1 [2] [(98,vA [vS p5 l c4,vS p2 ak c1])]<|xH 1 [vS p5 l c4,vS p2 ak c1] rfl<|yD rfl<|zI<|xB ?_
   obtain rfl:=zC N
   exact xA ⟨_,_,(.cell 1 rfl rfl (by kernel_rfl) ResV.nil),(zX [0,3,4,5] rfl (by decide)),⟨_,_,_,_,_,_,_,_,_,_,_,_,_,rfl,rfl,⟨h7,hQ.raw,hQ.lp,hQ.n,hQ.b⟩⟩⟩
 intro aE N
 refine yG [34] rfl<|zI<|yF N ?_ ?_
 · intro aY N
   refine rL 4 rfl ?_
   intro bN bt hl5
   have kN:=SL.of_frozen hl5 bt hQ.n
   have hQ:=hQ.mono bt
   refine rL 4 rfl ?_
   intro I06 bv hl6
   have kB:=SL.of_frozen hl6 bv hQ.b
   replace kN:=kN.mono bv
   have hQ:=hQ.mono bv
   obtain ⟨l1,bw,N⟩:=zB N
   have bH:=zIA (l':=ak) (m':=[(⟨z0,z0⟩:Raw2)]) bw hQ.lp.2.1 rfl
   have hLP:=hQ.lp.part kN kB bw
   refine zM<|wE (ah:=[hB b1 zTwo,hB b [vS p1 p.Arrays c,vS p2 ak c1],hO zF (vS p1 p.Arrays c) cs,hO Raw2 (vS p2 ak c1) ay]) rfl<|rY 3 [1] [(38,vS p2 ak c1),(39,vA zTwo)]<|uD zTwo Raw2 ?_
   intro b3 hb3
   have h8:RL I06 zTwo [(⟨z0,z0⟩:Raw2)]:=⟨zTwo,[],rfl,rfl,⟨rfl,rfl,rfl⟩,rfl⟩
   refine sC 47 2 4 rfl rfl rfl hQ.raw (.inr ⟨0,rfl⟩) h8 bH ?_
   intro p6 c5 bz h9
   refine tO (zY [1,2,3,4] (ah:=[hB b1 zTwo,hB b [vS p1 p.Arrays c,vS p2 ak c1],hO zF (vS p1 p.Arrays c) cs,hO Raw2 (vS p6 (ak++[(⟨z0,z0⟩:Raw2)]) c5) bz]))<|yC 6 [] [42] rfl<|xH 1 [vS p1 p.Arrays c,vS p6 (ak++[(⟨z0,z0⟩:Raw2)]) c5] rfl<|yD rfl<|zP<|yV<|rY 1 [1] [(98,vA [vS p1 p.Arrays c,vS p6 (ak++[(⟨z0,z0⟩:Raw2)]) c5])]<|xH 0 [vS p1 p.Arrays c,vS p6 (ak++[(⟨z0,z0⟩:Raw2)]) c5] rfl<|yD rfl<|xC<|xQ (pP (Rp.sz zO))<|xQ (pP (Rp.sz zE)) ?_
   obtain rfl:=zC N
   exact xA ⟨_,_,(.cell 2 rfl rfl (by kernel_rfl) ResV.nil),(zX [4,5,0,1] rfl (by decide)),⟨_,_,_,_,_,_,_,_,_,_,_,_,_,rfl,rfl,⟨hQ.arr,h9,hLP,RepL.nil,RepL.nil⟩⟩⟩
 intro aY N
 refine yB ?_
 obtain ⟨aM,az,N⟩:=zB N
 refine qR (K1 aM aT [hB b1 zTwo,hB b [vS p1 p.Arrays c,vS p2 ak c1],hO zF (vS p1 p.Arrays c) cs,hO Raw2 (vS p2 ak c1) ay,hO zE vN csN,hO zO vB csB] fun t43=>[(1,vT line.l),(2,vP b 0),(4,vP b1 0),(6,vI (W ((ak.length:Int) - 1))),(43,.bool t43)]) ?_ ?_
 · refine zM<|yC 3 [] [46] rfl ?_
   cases bG:(decide ((W ((ak.length:Int) - 1))>=0)) with
   | true =>
    have hM02:=tZ bG az
    refine yC 8 [] [51] rfl ?_
    cases bM:(decide ((y.length:Int)>0)) with
    | true =>
     have hM03:=tZ bM hM02
     refine yC 9 [] [52] rfl ?_
     obtain ⟨x1,bH,N⟩:=zB hM03
     refine xO rfl rfl h2 bH ?_
     intro ad1 bO au ax
     obtain rfl:=ax
     exact xJ 0 au [vT x1.l] (vT x1.l) rfl<|yI [] [43] rfl<|yL<|zU ⟨_,(zC N).symm,Imm.le.refl _,rfl,rfl⟩
    | false =>
     have hM04:=uZ bM hM02
     exact wB [] [(43,vF)]<|yL<|zU ⟨_,(zC hM04).symm,Imm.le.refl _,rfl,rfl⟩
   | false =>
    have hM05:=uZ bG az
    exact wB [] [(43,vF)]<|yL<|zU ⟨_,(zC hM05).symm,Imm.le.refl _,rfl,rfl⟩
 rintro bN aw m2 ⟨t43,heq1,bt,rfl,rfl⟩
 subst aM
 have hQ:=hQ.mono bt
 refine zI<|yF N ?_ ?_
 · intro hc5 N
   refine yE<|yC 3 [1] [58,59] rfl ?_
   obtain ⟨x2,hy6,N⟩:=zB N
   obtain ⟨rfl,hyr,hset⟩:=hQ.lp.last hy6
   refine nY 3 rfl rfl rfl hQ.raw hyr ?_
   intro ad2 ccs3 br bL bq
   obtain ⟨rfl,o1,o2⟩:=bq
   refine zAn 3 0 br bL [vN,vB] (vA [vN,vB]) rfl rfl<|wL zTwo ?_
   intro b4 hb4
   refine zMl 0 [vN,vB] (hB b4 [vN,vB]::[hB b1 zTwo,hB b [vS p1 p.Arrays c,vS p2 ak c1],hO zF (vS p1 p.Arrays c) cs,hO Raw2 (vS p2 ak c1) ay,hO zE vN csN,hO zO vB csB]) rfl rfl rfl rfl (by simp [Value.cells,o1,o2])<|yD rfl<|zI<|yB ?_
   obtain ⟨y2,hy7,N⟩:=zB N
   obtain ⟨l2,hy8,N⟩:=zB N
   refine vC [.p (vP b4 0) [],.p vN [0],.p (vT line.l) [],.x (eVLoop y2),.x (fun I' v hx=>∃ b5,v=vS (some ⟨b5,0,none⟩) ([y2]:List zE) 1/\hx=[]/\(SL I' (vS (some ⟨b5,0,none⟩) ([y2]:List zE) 1) ([y2]:List zE))),.x (fun I' v hx=>∃ aN bc aR,v=vS aN l2 bc/\hx=[hO zE (vS aN l2 bc) aR]/\(RL I' aR l2))] [[],[(0,false)],[],[(2,false)],[(3,false)],[(1,false),(4,false),(8,true)]] [hB b4 [vN,vB],hB b1 zTwo,hB b [vS p1 p.Arrays c,vS p2 ak c1],hO zF (vS p1 p.Arrays c) cs,hO Raw2 (vS p2 ak c1) ay,hO zO vB csB] [[hO zE vN csN]] [(5,true)] (zY [0,1,2,3,4,6,5]) ?_ ?_
   · refine Op<|Op<|Op<|Ox ?_<|Ox ?_<|Ox ?_<|On
     · intro I1 hf af
       refine yW [64] rfl<|xM (zGW line _ hy7 ) ?_
       rintro I06 aw v2 k2 bv - ⟨v05,rfl,rfl,⟨bD,rfl,h12⟩⟩ -
       obtain ⟨v06,v07,rfl,h13,h14⟩:=zBu h12
       obtain ⟨p9,c8,rfl⟩:=h13.form
       obtain ⟨aV,c9,rfl⟩:=h14.form
       exact yQ [] bv ⟨_,_,_,_,rfl,rfl,h13,h14⟩
     · intro I1 hf af
       refine xU ?_
       rintro _ _ ⟨p9,c8,aV,c9,rfl,rfl,h13,h14⟩
       refine yW [65] rfl<|uD (cLoop y2 p9 c8 aV c9) zE ?_
       intro b5 hb5
       have h15:RL I1 (cLoop y2 p9 c8 aV c9) ([y2]:List zE):=⟨(cLoop y2 p9 c8 aV c9),_,rfl,rfl,(rM ⟨_,_,rfl,h13,h14⟩),rfl⟩
       refine xF 0 rfl ?_
       intro I07 le7 hl01
       exact yQ [] le7 ⟨_,rfl,rfl,SL.of_frozen hl01 le7 h15⟩
     intro I1 hf af
     refine xU ?_
     rintro u _ ⟨hu,rfl⟩
     have hu:=hu.symm
     subst hu
     refine xU ?_
     rintro _ _ ⟨b5,rfl,rfl,h16⟩
     refine xU ?_
     rintro _ _ rfl
     refine yW [63,66] rfl ?_
     obtain ⟨ccs4,k0,k01⟩:=h16
     refine sC 141 2 0 rfl rfl rfl (hQ.mono af).n (.inl k0) k01 hy8 ?_
     intro aN bc aR h17
     exact wE (ah:=(hO zE (vS aN l2 bc) aR::(hB b4 [vN,vB]::hB b1 zTwo::hB b [vS p1 p.Arrays c,vS p2 ak c1]::hO zF (vS p1 p.Arrays c) cs::hO Raw2 (vS p2 ak c1) ay::hO zO vB csB::hf))) rfl<|yQ [hO zE (vS aN l2 bc) aR] iR ⟨_,_,_,rfl,rfl,h17⟩
   intro I08 le8
   refine xU ?_
   rintro _ _ ⟨aN,bc,aR,rfl,rfl,h17⟩
   refine yW [2,4,6,7,67] rfl ?_
   have hQ:=hQ.mono le8
   refine yC 7 [] [68] rfl<|xH 1 [vS aN l2 bc,vB] rfl<|yD rfl<|zI<|zM<|rY 4 [3,1] [(70,vS p2 ak c1),(71,vI (W ((ak.length:Int) - 1))),(72,vA [vS aN l2 bc,vB])]<|nY 5 rfl rfl rfl hQ.raw hyr ?_
   intro ad3 ccs5 hat3 hcc1 bI
   obtain ⟨rfl,-⟩:=bI
   refine qB (α:=Raw2) (c:=[vS aN l2 bc,vB]) (x':=⟨vS aN l2 bc,vB⟩) 5 0 rfl rfl rfl hat3 rfl rfl hcc1 (by kernel_rfl) (by kernel_rfl) (by simp [Value.cells,o2]; rfl) hQ.raw hyr (by kernel_rfl) ⟨rfl,rfl,o2⟩ ?_
   intro cs6 h19 hl02
   refine wE (ah:=[hO zE (vS aN l2 bc) aR,hB b4 [vS aN l2 bc,vB],hB b1 zTwo,hB b [vS p1 p.Arrays c,vS p2 ak c1],hO zF (vS p1 p.Arrays c) cs,hO Raw2 (vS p2 ak c1) cs6,hO zO vB csB]) rfl<|yD rfl<|zP<|yV<|rY 1 [3] [(98,vA [vS p1 p.Arrays c,vS p2 ak c1])]<|xH 2 [vS p1 p.Arrays c,vS p2 ak c1] rfl<|yD rfl<|zI<|xB ?_
   obtain rfl:=zC N
   exact xA ⟨[vA [vS p1 p.Arrays c,vS p2 ak c1]],_,(.cell 2 rfl rfl (by kernel_rfl) ResV.nil),(zX [4,5,0,6] rfl (by decide)),⟨p1,c,cs,p2,c1,cs6,ak.set (W ((ak.length:Int) - 1)).toNat ⟨vS aN l2 bc,vB⟩,vS aN l2 bc,vB,l2,bl,aR,csB,(by simp only [vS,hl02]),(by simp only [vS,hl02]),⟨hQ.arr,h19,(hset _ _ _ _).mono le8,h17,hQ.b⟩⟩⟩
 intro hc5 N
 refine yG [74] rfl<|zI<|yF N ?_ ?_
 · intro hc6 N
   refine yE<|yC 3 [1] [78,79] rfl ?_
   obtain ⟨x4,hy10,N⟩:=zB N
   obtain ⟨rfl,hyr,hset⟩:=hQ.lp.last hy10
   refine nY 3 rfl rfl rfl hQ.raw hyr ?_
   intro ad4 ccs5 hat4 hcc2 hrep4
   obtain ⟨rfl,o1,o2⟩:=hrep4
   refine zAn 3 0 hat4 hcc2 [vN,vB] (vA [vN,vB]) rfl rfl<|wL zTwo ?_
   intro b6 hb6
   refine zMl 0 [vN,vB] (hB b6 [vN,vB]::[hB b1 zTwo,hB b [vS p1 p.Arrays c,vS p2 ak c1],hO zF (vS p1 p.Arrays c) cs,hO Raw2 (vS p2 ak c1) ay,hO zE vN csN,hO zO vB csB]) rfl rfl rfl rfl (by simp [Value.cells,o1,o2])<|yD rfl<|yV<|rY 1 [] [(83,vT line.l)] ?_
   obtain ⟨⟨y4,y5⟩,hy11,N⟩:=zB N
   refine xM (zA3 line _ hy11 ) ?_
   rintro I09 aw v2 k2 le9 - ⟨v012,v013,rfl,rfl,⟨cs7,rfl,h22⟩,rfl⟩ -
   have hQ:=hQ.mono le9
   obtain ⟨v014,v015,v016,v017,rfl,h24,h25,h26,h27⟩:=oU h22
   obtain ⟨p15,c14,rfl⟩:=h24.form
   obtain ⟨p16,c15,rfl⟩:=h25.form
   obtain ⟨p17,c16,rfl⟩:=h26.form
   obtain ⟨p18,c17,rfl⟩:=h27.form
   refine yC 5 [] [85,86] rfl<|wL [vT ([]),z0,vI 0,vI 0,z0,vI 0,vT ([]),z0,z0] ?_
   intro b7 hb7
   refine zAo 0 (cStmt y4 p15 c14 p16 c15 p17 c16 p18 c17) (hB b7 (cStmt y4 p15 c14 p16 c15 p17 c16 p18 c17)::hB b6 [vN,vB]::[hB b1 zTwo,hB b [vS p1 p.Arrays c,vS p2 ak c1],hO zF (vS p1 p.Arrays c) cs,hO Raw2 (vS p2 ak c1) ay,hO zE vN csN,hO zO vB csB]) rfl rfl rfl rfl<|wB [] []<|yV<|rY 3 [1,0] [(88,vB),(89,vA (cStmt y4 p15 c14 p16 c15 p17 c16 p18 c17))]<|uD (cStmt y4 p15 c14 p16 c15 p17 c16 p18 c17) zO ?_
   intro b8 hb8
   have h28:RL I09 (cStmt y4 p15 c14 p16 c15 p17 c16 p18 c17) ([y4]:List zO):=⟨(cStmt y4 p15 c14 p16 c15 p17 c16 p18 c17),_,rfl,rfl,(wM ⟨_,_,_,_,rfl,h24,h25,h26,h27⟩),rfl⟩
   obtain ⟨l3,hy12,N⟩:=zB N
   refine sC 100 9 8 rfl rfl rfl hQ.b (.inr ⟨0,rfl⟩) h28 hy12 ?_
   intro p19 c18 cs9 h29
   refine tO (zY [2,3,4,5,6,7,8] (ah:=[hB b6 [vN,vB],hB b1 zTwo,hB b [vS p1 p.Arrays c,vS p2 ak c1],hO zF (vS p1 p.Arrays c) cs,hO Raw2 (vS p2 ak c1) ay,hO zE vN csN,hO zO (vS p19 l3 c18) cs9]))<|yC 6 [] [92] rfl<|xH 0 [vN,vS p19 l3 c18] rfl<|yD rfl<|zI<|zM<|rY 4 [2,0] [(94,vS p2 ak c1),(95,vI (W ((ak.length:Int) - 1))),(96,vA [vN,vS p19 l3 c18])]<|nY 4 rfl rfl rfl hQ.raw hyr ?_
   intro ad5 ccs6 hat5 hcc3 hrep5
   obtain ⟨rfl,-⟩:=hrep5
   refine qB (α:=Raw2) (c:=[vN,vS p19 l3 c18]) (x':=⟨vN,vS p19 l3 c18⟩) 4 0 rfl rfl rfl hat5 rfl rfl hcc3 (by kernel_rfl) (by kernel_rfl) (by simp [Value.cells,o1]; rfl) hQ.raw hyr (by kernel_rfl) ⟨rfl,o1,rfl⟩ ?_
   intro cs8 h31 hl03
   refine wE (ah:=[hB b6 [vN,vS p19 l3 c18],hB b1 zTwo,hB b [vS p1 p.Arrays c,vS p2 ak c1],hO zF (vS p1 p.Arrays c) cs,hO Raw2 (vS p2 ak c1) cs8,hO zE vN csN,hO zO (vS p19 l3 c18) cs9]) rfl<|yD rfl<|zP<|yV<|rY 1 [2] [(98,vA [vS p1 p.Arrays c,vS p2 ak c1])]<|xH 1 [vS p1 p.Arrays c,vS p2 ak c1] rfl<|yD rfl<|zI<|xB ?_
   obtain rfl:=zC N
   exact xA ⟨[vA [vS p1 p.Arrays c,vS p2 ak c1]],_,(.cell 1 rfl rfl (by kernel_rfl) ResV.nil),(zX [3,4,5,6] rfl (by decide)),⟨p1,c,cs,p2,c1,cs8,ak.set (W ((ak.length:Int) - 1)).toNat ⟨vN,vS p19 l3 c18⟩,vN,vS p19 l3 c18,nl,l3,csN,cs9,(by simp only [vS,hl03]),(by simp only [vS,hl03]),⟨hQ.arr,h31,(hset _ _ _ _).mono le9,hQ.n,h29⟩⟩⟩
 intro hc6 N
 refine zT<|zP<|yV<|rY 1 [1] [(98,vA [vS p1 p.Arrays c,vS p2 ak c1])]<|xH 0 [vS p1 p.Arrays c,vS p2 ak c1] rfl<|yD rfl<|zI<|xB ?_
 obtain rfl:=zC N
 exact xA ⟨_,_,(.cell 0 rfl rfl (by kernel_rfl) ResV.nil),(zX [2,3,4,5] rfl (by decide)),⟨_,_,_,_,_,_,_,_,_,_,_,_,_,rfl,rfl,hQ⟩⟩
def vG (x:zF) (k0:Int):Option (Out Unit (Bool)):=do
 if (decide (k0<(x.Dims.length:Int))) then
  let t77<-(do
    let x2<-idx x.Dims k0
    if (decide (x2<1)) then
     pure true
    else
     let x3<-idx x.Dims k0
     pure (decide (x3>6))
      : Option Bool)
  if t77 then
   pure (.ret false)
  else
   vG x (W (k0+1))
 else
  pure (.done ())
 partial_fixpoint
theorem zCk (x:zF):∀ (k0:Int) (o:Out Unit (Bool)),vG x k0=some o->∀ {B}{I0 I:Imm}{Q}{list:(List zF)}{i:Int}{p c p1 c1}{b:Nat},I0.le I->(S4 I p list c)->(S4 I p1 x.Dims c1)->NG Q->NO Q->(∀ (I':Imm) ,o=(.done ())->I0.le I'->T 81 B Q (.exit 2) I' [] [(0,vS p list c),(3,vI i)])->(∀ r I' ah m',o=(.ret r)->I0.le I'->RS Tryz.prog f100 B (zV  r) I' ah m'->T 81 B Q .ret I' ah m')->J Tryz.prog 81 B (nav (bodyOf f100) [1,0,1,0,0,1,0,0,1,1,1,0]) Q I [hB b (cArr x p1 c1)] [(0,vS p list c),(3,vI i),(4,vP b 0),(5,vI k0)]:=by
 refine vG.partial_correctness x _ fun aH ih k0 o N B I0 I Q list i p c p1 c1 b H h h1 hg ho hx hr=>yR hg ho<|yB<|yE<|yI [0] [61] rfl<|zI<|yF N ?_ ?_
 · intro hc9 N;refine zT<|yA<|yH<|yB ?_;refine wS N [hB b (cArr x p1 c1)] (fun t77=>[(0,vS p list c),(3,vI i),(4,vP b 0),(5,vI k0),(77,.bool t77)]) (fun aM az=>?_) ?_
   · have H:=iS I;refine zM<|yC 3 [0] [65,66] rfl ?_;obtain ⟨x2,aJ,N⟩:=zB az;refine xO rfl rfl h1 aJ ?_;intro ad2 bO br bq;obtain rfl:=bq;refine xJ 0 br [vI x2] (vI x2) rfl<|yC 7 [] [70] rfl<|xS [70] N ?_ ?_
     · intro hc10 N;exact wB [] [(77,vY)]<|yL<|zU (ct N H)
     intro hc10 N;refine yC 10 [0] [72,73] rfl<|bE N fun x3 bf N=>xO rfl rfl h1 bf ?_;intro ad3 ccs3 hat3 bI;obtain rfl:=bI;exact xJ 0 hat3 [vI x3] (vI x3) rfl<|yI [] [77] rfl<|yL<|zU (ct N H)
   intro t77 aT af hMc1;have ⟨h,h1,H⟩:=m3 af h h1 H;refine zI<|yF hMc1 ?_ ?_
   · intro hc11 N;exact vR [(2,vF)]<|xC<|zW<|zH<|zH<|hr _ _ _ _ (zC N).symm H ⟨_,_,(.tmp rfl ResV.nil),zQ,⟨_,rfl,rfl,rfl⟩⟩
   intro hc11 N;exact zT<|zP<|zI<|zM<|yI [] [5] rfl<|yP<|nN<|ih (W (k0+1)) _ N H h h1 hg ho hx hr
 intro hc9 N;exact wR<|xQ zQ<|yL<|hx _  (zC N).symm H
def uG (list:(List zF)) (i:Int):Option (Out Unit (Bool)):=do
 if (decide (i<(list.length:Int))) then
  let x<-idx list i
  let t56<-(do
    if ((x.Name.l.length:Int) != 1) then
     pure true
    else
     if (Op.bytesLess x.Name.l ([65]:List UInt8)) then
      pure true
     else
      if (!(Op.bytesLess x.Name.l ([68]:List UInt8)||x.Name.l==([68]:List UInt8))) then
       pure true
      else
       if (decide (i>0)) then
        let x1<-idx list (W (i - 1))
        if (!(Op.bytesLess x1.Name.l x.Name.l)) then
         pure true
        else
         if (decide ((x.Dims.length:Int)<1)) then
          pure true
         else
          pure (decide ((x.Dims.length:Int)>2))
       else
        if (decide ((x.Dims.length:Int)<1)) then
         pure true
        else
         pure (decide ((x.Dims.length:Int)>2))
      : Option Bool)
  if t56 then
   pure (.ret false)
  else
   match<-vG x 0 with
   | .ret r0=>pure (.ret r0)
   | .done _ =>
    uG list (W (i+1))
 else
  pure (.done ())
 partial_fixpoint
theorem zCl (list:(List zF)):∀ (i:Int) (o:Out Unit (Bool)),uG list i=some o->∀ {B}{I0 I:Imm}{Q p c},I0.le I->(S4 I p list c)->NG Q->NO Q->(∀ (I':Imm) ,o=(.done ())->I0.le I'->T 81 B Q (.exit 0) I' [] [(0,vS p list c)])->(∀ r I' ah m',o=(.ret r)->I0.le I'->RS Tryz.prog f100 B (zV  r) I' ah m'->T 81 B Q .ret I' ah m')->J Tryz.prog 81 B (nav (bodyOf f100) [1,0,1,0]) Q I [] [(0,vS p list c),(3,vI i)]:=by
 refine uG.partial_correctness list _ fun aH ih i o N B I0 I Q p c H h hg ho hx hr=>yR hg ho<|yB<|yG [9] rfl<|zI<|yF N ?_ ?_
 · intro hc N;refine zT<|yA<|yH<|yE<|yC 2 [] [12,13] rfl<|bE N fun x hy N=>xO rfl rfl h hy ?_;intro ad aK aq al;obtain ⟨p1,c1,rfl,h1⟩:=wG al;refine xJ 0 aq (cArr x p1 c1) (vA (cArr x p1 c1)) rfl<|wL [vT ([]),z0] ?_;intro b hb;refine xH 0 (cArr x p1 c1) rfl<|yD rfl<|yA<|yB ?_;refine wS N [hB b (cArr x p1 c1)] (fun t56=>[(0,vS p list c),(3,vI i),(4,vP b 0),(56,.bool t56)]) (fun o0 aB=>?_) ?_
   · have H:=iS I;refine jE (by kernel_rfl) (by kernel_rfl)<|fS 5 [0] [20] rfl<|zF0 [20] aB ?_ ?_
     · intro aE N;exact zIf [] [(56,vY)]<|yL<|zU (ct N H)
     intro aE N;refine fS 10 [0] [25] rfl<|zF0 [25] N ?_ ?_
     · intro aY N;exact zIf [] [(56,vY)]<|yL<|zU (ct N H)
     intro aY N;refine fS 15 [0] [30] rfl<|zF0 [30] N ?_ ?_
     · intro bG N;exact zIf [] [(56,vY)]<|yL<|zU (ct N H)
     intro bG N;refine fS 18 [] [33] rfl<|zF0 [33] N ?_ ?_
     · intro bM N;refine fS 21 [] [34,36] rfl<|bE N fun x1 aA N=>dM rfl rfl h aA ?_;intro ad1 bx au ax;obtain ⟨p2,c2,rfl,h2⟩:=wG ax;refine fS 23 [] [38] rfl<|eX 0 au [vT x1.Name.l] (vT x1.Name.l) rfl<|fS 30 [0] [45] rfl<|zF0 [45] N ?_ ?_
       · intro hc5 N;exact zIf [] [(56,vY)]<|yL<|zU (ct N H)
       intro hc5 N;refine fS 36 [0] [51] rfl<|zF0 [51] N ?_ ?_
       · intro hc6 N;exact zIf [] [(56,vY)]<|yL<|zU (ct N H)
       intro hc6 N;exact zHL [0] [56] rfl<|yL<|zU (ct N H)
     intro bM N;refine fS 36 [0] [51] rfl<|zF0 [51] N ?_ ?_
     · intro hc7 N;exact zIf [] [(56,vY)]<|yL<|zU (ct N H)
     intro hc7 N;exact zHL [0] [56] rfl<|yL<|zU (ct N H)
   intro t56 I0 le aS;have ⟨h,h1,H⟩:=m3 le h h1 H;refine zI<|yF aS ?_ ?_
   · intro hc8 N;exact vR [(2,vF)]<|xC<|zH<|zW<|zH<|zH<|hr _ _ _ _ (zC N).symm H ⟨_,_,(.tmp rfl ResV.nil),zQ,⟨_,rfl,rfl,rfl⟩⟩
   intro hc8 N;refine zT<|vK [5] rfl<|xX<|qP [(0,vS p list c),(3,vI i),(4,vP b 0),(5,vI 0)] ?_;obtain ⟨o02,ho02,aI⟩:=zB N;refine zCk x 0 o02 ho02 iR h h1 (fun _ _ _ h=>hg _ _ _ h) (fun _ _ h=>ho _ _ h) ?_ ?_
   · intro aU  heq2 aC;subst o02;have ⟨h,H⟩:=m2 aC h H;exact zS<|zP<|zI<|zM<|yI [] [3] rfl<|yP<|nN<|ih (W (i+1)) _ aI H h hg ho hx hr
   intro r0 I9 hs9 m9 aX le9 ba;subst aX;exact zW<|zW<|zH<|zH<|hr _ _ _ _ (zC aI).symm (H.trans le9) ba
 intro hc N;exact wR<|yL<|hx _  (zC N).symm H
def nE (list:(List zF)):Option (Bool):=do
 match<-uG list 0 with
 | .ret r0=>pure r0
 | .done _ =>
  pure (decide ((list.length:Int)<=4))
theorem zEx:∀ list r,nE list=some r->∀ {I:Imm}{p c},(S4 I p list c)->RT 100 [vS p list c] I [] (zV  r):=by
 intro list r N I p c h;unfold nE at N;refine yJ func100 fun B=>vR []<|yA<|yG [3] rfl<|xX<|qP [(0,vS p list c),(3,vI 0)] ?_;obtain ⟨o03,ho03,hMl1⟩:=zB N;refine zCl list 0 o03 ho03 iR h (fun _ _ _ h=>h) (fun _ _ h=>h) ?_ ?_
 · intro bC  heq3 aD;subst o03;refine zS<|vK [2] rfl<|zI<|xB ?_;obtain rfl:=zC hMl1;exact vE
 intro r0 I9 hs9 m9 aX le9 ba;subst aX;refine zW<|zH ?_;obtain rfl:=zC hMl1;exact xA ba
def tQ (a0:zA) (ag:(List Int)) (n0:Int) (i:Int):Option (Int):=do
 let t19<-(do
   if (decide (i<(ag.length:Int))) then
    pure (decide (i<(a0.Coefs.length:Int)))
   else
    pure false
     : Option Bool)
 if t19 then
  let x<-idx a0.Coefs i
  let x1<-idx ag i
  tQ a0 ag (W (n0+(W (x*x1)))) (W (i+1))
 else
  pure (id n0)
 partial_fixpoint
theorem zDw (a0:zA) (ag:(List Int)):∀ (n0:Int) (i:Int) (o:Int),tQ a0 ag n0 i=some o->∀ {B}{I0 I:Imm}{Q p c p1 c1}{b:Nat},I0.le I->(S4 I p1 ag c1)->(S4 I p a0.Coefs c)->NG Q->NO Q->(∀ (I':Imm) (n01:Int),o=n01->I0.le I'->T 35 B Q (.exit 0) I' [] [(5,vI n01)])->J Tryz.prog 35 B (nav (bodyOf f155) [1,1,0,1,0]) Q I [hB b (cAff a0 p c)] [(1,vS p1 ag c1),(2,vP b 0),(5,vI n0),(6,vI i)]:=by
 refine tQ.partial_correctness a0 ag _ fun aH ih n0 i o N B I0 I Q p c p1 c1 b H h1 h hg ho hx=>yR hg ho<|yB<|yB ?_;refine wS N [hB b (cAff a0 p c)] (fun t19=>[(1,vS p1 ag c1),(2,vP b 0),(5,vI n0),(6,vI i),(19,.bool t19)]) (fun o0 aB=>?_) ?_
 · have H:=iS I;refine zM<|yC 5 [] [13] rfl<|xS [13] aB ?_ ?_
   · intro hc N;exact yI [0] [19] rfl<|yL<|zU (ct N H)
   intro hc N;exact wB [] [(19,vF)]<|yL<|zU (ct N H)
 intro t19 I0 le aS;have ⟨h1,h,H⟩:=m3 le h1 h H;refine zI<|yF aS ?_ ?_
 · intro aE N;refine zT<|yA<|yH<|jE (by kernel_rfl) (by kernel_rfl)<|fS 4 [0] [22,24,25] rfl<|bE N fun x hy N=>dM rfl rfl h hy ?_;intro ad aK aq al;obtain rfl:=al;refine eX 0 aq [vI x] (vI x) rfl<|fS 8 [] [28,29] rfl<|bE N fun x1 aA N=>dM rfl rfl h1 aA ?_;intro ad1 bx au ax;obtain rfl:=ax;exact eX 0 au [vI x1] (vI x1) rfl<|zHL [] [5] rfl<|zP<|zI<|zM<|yI [] [6] rfl<|yP<|nN<|ih (W (n0+(W (x*x1)))) (W (i+1)) _ N H h1 h hg ho hx
 intro aE N;exact wR<|xQ zQ<|yL<|hx _ _ (zC N).symm H
def rR (a0:zA) (ag:(List Int)):Option (Int):=do
 let n01<-tQ a0 ag a0.Const 0
 pure (id n01)
theorem gH:∀ a0 ag r,rR a0 ag=some r->∀ {I:Imm}{p c p1 c1},(S4 I p a0.Coefs c)->(S4 I p1 ag c1)->RT 155 [vA (cAff a0 p c),vS p1 ag c1] I [] (xD  r):=by
 intro a0 ag r N I p c p1 c1 h h1;unfold rR at N;refine yJ func155 fun B=>yE<|tW (cAff a0 p c) ?_;intro b hb;refine wB [] []<|yV<|yI [0] [5] rfl<|yA<|yG [6] rfl<|xX<|qP [(1,vS p1 ag c1),(2,vP b 0),(5,vI a0.Const),(6,vI 0)] ?_;obtain ⟨aM,az,aI⟩:=zB N;refine zDw a0 ag a0.Const 0 aM az iR h1 h (fun _ _ _ h=>h) (fun _ _ h=>h) ?_;intro aT n01 heq1 af;subst aM;refine zS<|vK [4] rfl<|zI<|xB ?_;obtain rfl:=zC aI;exact vE
def tB (loop:zE) (p2:(List Int)) (lo:Int) (i:Int):Option (Int):=do
 if (decide (i<(loop.Lo.length:Int))) then
  let x2<-idx loop.Lo i
  let y2<-rR x2 p2
  let lo2<-(do
    if (decide (y2>lo)) then
     pure (id y2)
    else
     pure (id lo)
      : Option Int)
  tB loop p2 lo2 (W (i+1))
 else
  pure (id lo)
 partial_fixpoint
theorem zDO (loop:zE) (p2:(List Int)):∀ (lo:Int) (i:Int) (o:Int),tB loop p2 lo i=some o->∀ {B}{I0 I:Imm}{Q}{y1:Int}{p c p1 c1 p3 c2}{b:Nat},I0.le I->(S4 I p3 p2 c2)->(S4 I p loop.Lo c)->(S4 I p1 loop.Hi c1)->NG Q->NO Q->(∀ (I':Imm) (lo1:Int),o=lo1->I0.le I'->T 62 B Q (.exit 0) I' [hB b (cLoop loop p c p1 c1)] [(1,vS p3 p2 c2),(2,vP b 0),(6,vI lo1),(7,vI y1)])->J Tryz.prog 62 B (nav (bodyOf f113) [1,1,1,0,1,0]) Q I [hB b (cLoop loop p c p1 c1)] [(1,vS p3 p2 c2),(2,vP b 0),(6,vI lo),(7,vI y1),(8,vI i)]:=by
 refine tB.partial_correctness loop p2 _ fun aH ih lo i o N B I0 I Q y1 p c p1 c1 p3 c2 b H h2 h h1 hg ho hx=>yR hg ho<|yB<|yE<|yI [0] [28] rfl<|zI<|yF N ?_ ?_
 · intro hc N;refine zT<|yA<|yH<|yE<|yC 3 [0] [32,33] rfl<|bE N fun x2 bw N=>xO rfl rfl h bw ?_;intro ad2 bO br bq;obtain ⟨p6,c5,rfl,h7⟩:=yM bq;refine xJ 0 br (cAff x2 p6 c5) (vA (cAff x2 p6 c5)) rfl<|yC 6 [] [36] rfl<|bE N fun y2 bH N=>gR (gH x2 p2 _ bH h7 h2) ?_;intro aU aC;have ⟨h2,h,h1,H⟩:=m4 aC h2 h h1 H;refine yI [] [9] rfl<|vK [40] rfl<|zI ?_;refine wS N [hB b (cLoop loop p c p1 c1)] (fun lo2=>[(1,vS p3 p2 c2),(2,vP b 0),(6,vI lo2),(7,vI y1),(8,vI i)]) (fun o0 aB=>?_) ?_
   · have H:=iS aU;refine yF aB ?_ ?_
     · intro aE N;exact zM<|yI [] [6] rfl<|yL<|zU (ct N H)
     intro aE N;exact zT<|yL<|zU (ct N H)
   intro lo2 bC aD aS;have ⟨h2,h,h1,H⟩:=m4 aD h2 h h1 H;exact zP<|zI<|zM<|yI [] [8] rfl<|yP<|nN<|ih lo2 (W (i+1)) _ aS H h2 h h1 hg ho hx
 intro hc N;exact wR<|yL<|hx _ _ (zC N).symm H
def tC (loop:zE) (p2:(List Int)) (hi:Int) (i1:Int):Option (Int):=do
 if (decide (i1<(loop.Hi.length:Int))) then
  let x3<-idx loop.Hi i1
  let y3<-rR x3 p2
  let hi2<-(do
    if (decide (y3<hi)) then
     pure (id y3)
    else
     pure (id hi)
      : Option Int)
  tC loop p2 hi2 (W (i1+1))
 else
  pure (id hi)
 partial_fixpoint
theorem zDP (loop:zE) (p2:(List Int)):∀ (hi:Int) (i1:Int) (o:Int),tC loop p2 hi i1=some o->∀ {B}{I0 I:Imm}{Q}{lo1:Int}{p c p1 c1 p3 c2}{b:Nat},I0.le I->(S4 I p3 p2 c2)->(S4 I p loop.Lo c)->(S4 I p1 loop.Hi c1)->NG Q->NO Q->(∀ (I':Imm) (hi1:Int),o=hi1->I0.le I'->T 62 B Q (.exit 2) I' [] [(6,vI lo1),(7,vI hi1)])->J Tryz.prog 62 B (nav (bodyOf f113) [1,1,1,1,0,1,0]) Q I [hB b (cLoop loop p c p1 c1)] [(1,vS p3 p2 c2),(2,vP b 0),(6,vI lo1),(7,vI hi),(10,vI i1)]:=by
 refine tC.partial_correctness loop p2 _ fun aH ih hi i1 o N B I0 I Q lo1 p c p1 c1 p3 c2 b H h2 h h1 hg ho hx=>yR hg ho<|yB<|yE<|yI [0] [46] rfl<|zI<|yF N ?_ ?_
 · intro aY N;refine zT<|yA<|yH<|yE<|yC 3 [0] [50,51] rfl<|bE N fun x3 hy6 N=>xO rfl rfl h1 hy6 ?_;intro ad3 ccs3 hat3 bI;obtain ⟨p7,c6,rfl,h9⟩:=yM bI;refine xJ 0 hat3 (cAff x3 p7 c6) (vA (cAff x3 p7 c6)) rfl<|yC 6 [] [54] rfl<|bE N fun y3 hy7 N=>gR (gH x3 p2 _ hy7 h9 h2) ?_;intro bN bt;have ⟨h2,h,h1,H⟩:=m4 bt h2 h h1 H;refine yI [] [11] rfl<|vK [58] rfl<|zI ?_;refine wS N [hB b (cLoop loop p c p1 c1)] (fun hi2=>[(1,vS p3 p2 c2),(2,vP b 0),(6,vI lo1),(7,vI hi2),(10,vI i1)]) (fun o02 ho02=>?_) ?_
   · have H:=iS bN;refine yF ho02 ?_ ?_
     · intro bG N;exact zM<|yI [] [7] rfl<|yL<|zU (ct N H)
     intro bG N;exact zT<|yL<|zU (ct N H)
   intro hi2 I06 bv hMc1;have ⟨h2,h,h1,H⟩:=m4 bv h2 h h1 H;exact zP<|zI<|zM<|yI [] [10] rfl<|yP<|nN<|ih hi2 (W (i1+1)) _ hMc1 H h2 h h1 hg ho hx
 intro aY N;exact wR<|xQ zQ<|yL<|hx _ _ (zC N).symm H
def oV (loop:zE) (p2:(List Int)):Option (Int×Int):=do
 let x<-idx loop.Lo 0
 let y<-rR x p2
 let x1<-idx loop.Hi 0
 let y1<-rR x1 p2
 let lo1<-tB loop p2 y 1
 let hi1<-tC loop p2 y1 1
 pure (lo1,hi1)
theorem zBc:∀ loop p2 r,oV loop p2=some r->∀ {I:Imm}{p c p1 c1 p3 c2},(S4 I p loop.Lo c)->(S4 I p1 loop.Hi c1)->(S4 I p3 p2 c2)->RT 113 [vA (cLoop loop p c p1 c1),vS p3 p2 c2] I [] (fM  r):=by
 intro loop p2 r N I p c p1 c1 p3 c2 h h1 h2;unfold oV at N;refine yJ func113 fun B=>yE<|tW (cLoop loop p c p1 c1) ?_;intro b hb;refine wB [] []<|yV<|yC 2 [0] [13] rfl<|bE N fun x hy N=>xO rfl rfl h hy ?_;intro ad aK aq al;obtain ⟨p4,c3,rfl,h3⟩:=yM al;refine xJ 0 aq (cAff x p4 c3) (vA (cAff x p4 c3)) rfl<|yC 5 [] [16] rfl<|bE N fun y aA N=>gR (gH x p2 _ aA h3 h2) ?_;intro I0 le;have ⟨h2,h,h1⟩:=m3 le h2 h h1;refine yI [] [6] rfl<|yV<|yC 2 [0] [19] rfl<|bE N fun x1 aJ N=>xO rfl rfl h1 aJ ?_;intro ad1 bx au ax;obtain ⟨p5,c4,rfl,h5⟩:=yM ax;refine xJ 0 au (cAff x1 p5 c4) (vA (cAff x1 p5 c4)) rfl<|yC 5 [] [22] rfl<|bE N fun y1 bf N=>gR (gH x1 p2 _ bf h5 h2) ?_;intro aT af;have ⟨h2,h,h1⟩:=m3 af h2 h h1;refine yI [] [7] rfl<|yA<|yG [8] rfl<|xX<|qP [(1,vS p3 p2 c2),(2,vP b 0),(6,vI y),(7,vI y1),(8,vI 1)] ?_;obtain ⟨aM,az,aI⟩:=zB N;refine zDO loop p2 y 1 aM az iR h2 h h1 (fun _ _ _ h=>h) (fun _ _ h=>h) ?_;intro bJ lo1 heq1 aW;subst aM;have ⟨h2,h,h1⟩:=m3 aW h2 h h1;refine zS<|yA<|yG [10] rfl<|xX<|qP [(1,vS p3 p2 c2),(2,vP b 0),(6,vI lo1),(7,vI y1),(10,vI 1)] ?_;obtain ⟨o03,ho03,hMl1⟩:=zB aI;refine zDP loop p2 y1 1 o03 ho03 iR h2 h h1 (fun _ _ _ h=>h) (fun _ _ h=>h) ?_;intro I07 hi1 heq3 le7;subst o03;refine zS<|vK [4,5] rfl<|zI<|xB ?_;obtain rfl:=zC hMl1;exact xA ⟨_,_,(.tmp rfl (.tmp rfl ResV.nil)),zQ,⟨_,_,rfl,rfl,rfl,rfl⟩⟩
def zAG (r:(List (List Int))):KT:=fun kk I' ah v=>
  ∃ a0 c0 s0,ah=[.osl (.slice a0 r.length c0) (Rp.sz (List Int)) s0]/\v=tupV [(.slice a0 r.length c0)]/\RepL (Rp.rep I') (Rp.sz (List Int)) s0 r
mutual
def vV (out:(List (List Int))) (nest:(List zE)) (p2:(List Int)):Option ((List (List Int))):=do
 if ((p2.length:Int)==(nest.length:Int)) then
  let l<-app 8 ([]:List Int) p2
  let t6<-app 24 out ([l]:List (List Int))
  pure (id t6)
 else
  let x<-idx nest (p2.length:Int)
  let (y1,y2)<-oV x p2
  let ap<-tI (same nest) (same p2) (same y2) (same out) (same y1)
  pure (id ap)
 partial_fixpoint
def tI (nest:(List zE)) (p2:(List Int)) (y2:Int) (aj:List (List Int)) (v04:Int):Option (List (List Int)):=do
 let t39<-(do
   if (decide (v04<y2)) then
    pure (decide ((aj.length:Int)<=120))
   else
    pure false
     : Option Bool)
 if t39 then
  let l1<-app 8 ([]:List Int) p2
  let l2<-app 8 l1 ([v04]:List Int)
  let y3<-vV (same aj) (same nest) (same l2)
  tI (same nest) (same p2) (same y2) (same y3) (W (v04+1))
 else
  pure (id aj)
 partial_fixpoint
end
theorem zDx:(∀ (out:(List (List Int))) (nest:(List zE)) (p2:(List Int)) r,vV out nest p2=some r->∀ {I:Imm}{p c cs p1 c1 p3 c2},(RL I cs out)->(S4 I p1 nest c1)->(S4 I p3 p2 c2)->RT 75 [vS p out c,vS p1 nest c1,vS p3 p2 c2] I [hO (List Int) (vS p out c) cs] (zAG  r))/\(∀ (nest:(List zE)) (p2:(List Int)) (y2:Int) (aj:List (List Int)) (v04:Int) o,tI nest p2 y2 aj v04=some o->∀ {B}{I0 I:Imm}{Q p1 c1 p3 c2 p8 c7 aR},I0.le I->(S4 I p1 nest c1)->(S4 I p3 p2 c2)->(RL I aR aj)->NG Q->NO Q->(∀ (I':Imm) (ap:List (List Int)) (p9:Option Addr) (c8:Nat) (bz:List Value),o=ap->I0.le I'->(RL I' bz ap)->T 52 B Q (.exit 0) I' [hO (List Int) (vS p9 ap c8) bz] [(0,vS p9 ap c8)])->J Tryz.prog 52 B (nav (bodyOf f75) [1,1,1,0,1,0]) Q I [hO (List Int) (vS p8 aj c7) aR] [(0,vS p8 aj c7),(1,vS p1 nest c1),(2,vS p3 p2 c2),(8,vI y2),(9,vI v04)]):=by
  refine vV.mutual_partial_correctness _ _ ?_ ?_
  · intro F_spec_l2Points_l1 ih_spec_l2Points_l1 out nest p2 r N I p c cs p1 c1 p3 c2 h h1 h2;refine yJ func75 fun B=>vR []<|yA<|yG [14] rfl<|zI<|yF N ?_ ?_
    · intro hc N;refine yE<|yC 1 [] [15] rfl<|uD [] Int ?_;intro b hb;have h3:RL I [] ([]:List Int):=rfl;refine yC 3 [] [17] rfl ?_;obtain ⟨aK,k0,k01⟩:=h2;have h2:SL I (vS p3 p2 c2) p2:=⟨_,k0,k01⟩;obtain ⟨l,hy,N⟩:=zB N;refine sC 3 1 0 rfl rfl rfl h3 (.inl k0) k01 hy fun p4 c3 ay h4=>tO (zY [0,1] (ah:=[hO Int (vS p4 l c3) ay,hO (List Int) (vS p out c) cs]))<|xF 0 rfl ?_;intro I0 le hl0;have h5:=SL.of_frozen hl0 le h4;have h:=iM le h;refine uD [vS p4 l c3] (List Int) ?_;intro b1 hb1;have h6:RL I0 [vS p4 l c3] ([l]:List (List Int)):=⟨[vS p4 l c3],_,rfl,rfl,⟨_,rfl,h5⟩,rfl⟩;obtain ⟨t6,aA,N⟩:=zB N;refine sC 27 1 1 rfl rfl rfl h (.inr ⟨0,rfl⟩) h6 aA fun p5 c4 aQ h7=>tO (zY [1] (ah:=[hO (List Int) (vS p5 t6 c4) aQ]))<|yI [] [6] rfl<|xC<|zH ?_;obtain rfl:=zC N;exact xA ⟨_,_,(.tmp rfl ResV.nil),(zX [0] rfl (by decide)),⟨_,_,_,rfl,rfl,h7⟩⟩
    intro hc N;refine zT<|yV<|yC 3 [] [22,24] rfl<|bE N fun x aJ N=>xO rfl rfl h1 aJ ?_;intro ad bx aq al;obtain ⟨p6,c5,p7,c6,rfl,h8,h9⟩:=sA al;refine xJ 0 aq (cLoop x p6 c5 p7 c6) (vA (cLoop x p6 c5 p7 c6)) rfl<|yC 6 [] [27] rfl ?_;obtain ⟨⟨y1,y2⟩,bf,N⟩:=zB N;refine xM (zBc x p2 _ bf h8 h9 h2) ?_;rintro aT aw v2 k2 af - ⟨v02,v03,rfl,rfl,rfl,rfl⟩ -;have ⟨h,h1,h2⟩:=m3 af h h1 h2;refine yI [] [7,8] rfl<|yA<|yG [9] rfl<|xX<|qP [(0,vS p out c),(1,vS p1 nest c1),(2,vS p3 p2 c2),(8,vI y2),(9,vI y1)] ?_;obtain ⟨aM,az,aI⟩:=zB N;refine ih_spec_l2Points_l1 nest p2 y2 out y1 aM az iR h1 h2 h (fun _ _ _ h=>h) (fun _ _ h=>h) ?_;intro bN ap p9 c8 bz heq1 bt h13;subst aM;refine zS<|vK [6] rfl<|zI<|xB ?_;obtain rfl:=zC aI;exact xA ⟨_,_,(.tmp rfl ResV.nil),(zX [0] rfl (by decide)),⟨_,_,_,rfl,rfl,h13⟩⟩
  intro F_spec_l2Points F_spec_l2Points_l1 ih_spec_l2Points ih_spec_l2Points_l1 nest p2 y2 aj v04 o N B I0 I Q p1 c1 p3 c2 p8 c7 aR H h1 h2 h12 hg ho hx;refine yR hg ho<|yB<|yB ?_;refine wS N [hO (List Int) (vS p8 aj c7) aR] (fun t39=>[(0,vS p8 aj c7),(1,vS p1 nest c1),(2,vS p3 p2 c2),(8,vI y2),(9,vI v04),(39,.bool t39)]) (fun o0 aB=>?_) ?_
  · have H:=iS I;refine zM<|yC 4 [] [35] rfl<|xS [35] aB ?_ ?_
    · intro aE N;exact yI [] [39] rfl<|yL<|zU (ct N H)
    intro aE N;exact wB [] [(39,vF)]<|yL<|zU (ct N H)
  intro t39 aU aC aS;have ⟨h12,h1,h2,H⟩:=m4 aC h12 h1 h2 H;refine zI<|yF aS ?_ ?_
  · intro aY N;refine zT<|yA<|yH<|zM<|yC 2 [] [42,43] rfl<|uD [] Int ?_;intro b2 hb2;have h14:RL aU [] ([]:List Int):=rfl;refine yC 4 [] [45] rfl ?_;obtain ⟨bO,k02,k03⟩:=h2;have h2:SL aU (vS p3 p2 c2) p2:=⟨_,k02,k03⟩;obtain ⟨l1,bw,N⟩:=zB N;refine sC 3 1 0 rfl rfl rfl h14 (.inl k02) k03 bw fun aV c9 bD h15=>tO (zY [0,1] (ah:=[hO Int (vS aV l1 c9) bD,hO (List Int) (vS p8 aj c7) aR]))<|yC 6 [] [47] rfl<|uD [vI v04] Int ?_;intro b3 hb3;have h16:RL aU [vI v04] ([v04]:List Int):=rI [v04];obtain ⟨l2,bH,N⟩:=zB N;refine sC 3 1 1 rfl rfl rfl h15 (.inr ⟨0,rfl⟩) h16 bH fun aN bc cs6 h17=>tO (zY [1,2] (ah:=[hO Int (vS aN l2 bc) cs6,hO (List Int) (vS p8 aj c7) aR]))<|xF 0 rfl ?_;intro bC aD hl01;have h18:=SL.of_frozen hl01 aD h17;have ⟨h1,h2,h12,H⟩:=m4 aD h1 h2 h12 H;obtain ⟨y3,hy6,N⟩:=zB N;refine tM (ih_spec_l2Points aj nest l2 _ hy6 h12 h1 h18) rfl ?_;rintro bJ aw v2 k2 aW - ⟨bB,aZ,cs7,rfl,rfl,h19⟩ -;have ⟨h1,h2,H⟩:=m3 aW h1 h2 H;exact yI [] [0] rfl<|zP<|zI<|zM<|yI [] [9] rfl<|yP<|nN<|ih_spec_l2Points_l1 nest p2 y2 y3 (W (v04+1)) _ N H h1 h2 h19 hg ho hx
  intro aY N;exact wR<|yL<|hx _ _ _ _ _ (zC N).symm H h12
theorem zAy:∀ out nest p2 r,vV out nest p2=some r->∀ {I:Imm}{p c cs p1 c1 p3 c2},(RL I cs out)->(S4 I p1 nest c1)->(S4 I p3 p2 c2)->RT 75 [vS p out c,vS p1 nest c1,vS p3 p2 c2] I [hO (List Int) (vS p out c) cs] (zAG  r):=zDx.1
def tR (list:(List zA)) (aa:Int) (i:Int):Option (Out Unit (Bool)):=do
 if (decide (i<(list.length:Int))) then
  let t26<-(do
    let x<-idx list i
    let y<-uE x
    if (!y) then
     pure true
    else
     let x1<-idx list i
     let y1<-qW x1
     pure (decide (y1>aa))
      : Option Bool)
  if t26 then
   pure (.ret false)
  else
   tR list aa (W (i+1))
 else
  pure (.done ())
 partial_fixpoint
theorem zDy (list:(List zA)) (aa:Int):∀ (i:Int) (o:Out Unit (Bool)),tR list aa i=some o->∀ {B}{I0 I:Imm}{Q p c},I0.le I->(S4 I p list c)->NG Q->NO Q->(∀ (I':Imm) ,o=(.done ())->I0.le I'->T 35 B Q (.exit 0) I' [] [(0,vS p list c)])->(∀ r I' ah m',o=(.ret r)->I0.le I'->RS Tryz.prog f224 B (zV  r) I' ah m'->T 35 B Q .ret I' ah m')->J Tryz.prog 35 B (nav (bodyOf f224) [1,0,1,0]) Q I [] [(0,vS p list c),(1,vI aa),(5,vI i)]:=by
 refine tR.partial_correctness list aa _ fun aH ih i o N B I0 I Q p c H h hg ho hx hr=>yR hg ho<|yB<|yG [9] rfl<|zI<|yF N ?_ ?_
 · intro hc N;refine zT<|yA<|yH<|yB ?_;refine wS N [] (fun t26=>[(0,vS p list c),(1,vI aa),(5,vI i),(26,.bool t26)]) (fun o0 aB=>?_) ?_
   · have H:=iS I;refine zM<|yC 2 [] [12,13] rfl ?_;obtain ⟨x,hy,N⟩:=zB aB;refine xO rfl rfl h hy ?_;intro ad aK aq al;obtain ⟨p1,c1,rfl,h1⟩:=yM al;refine xJ 0 aq (cAff x p1 c1) (vA (cAff x p1 c1)) rfl<|bE N fun y aA N=>uM (kE x _ aA h1) ?_;intro aT le;have ⟨h,H⟩:=m2 le h H;refine yC 7 [] [18] rfl<|xS [18] N ?_ ?_
     · intro aE N;exact wB [] [(26,vY)]<|yL<|zU (ct N H)
     intro aE N;refine yC 9 [] [19,20] rfl<|bE N fun x1 aJ N=>xO rfl rfl h aJ ?_;intro ad1 bx au ax;obtain ⟨p2,c2,rfl,h3⟩:=yM ax;refine xJ 0 au (cAff x1 p2 c2) (vA (cAff x1 p2 c2)) rfl<|bE N fun y1 bf N=>gR (dD x1 _ bf h3) ?_;intro aU af;have H:=H.trans af;exact yI [] [26] rfl<|yL<|zU (ct N H)
   intro t26 I0 aC aS;have ⟨h,H⟩:=m2 aC h H;refine zI<|yF aS ?_ ?_
   · intro aY N;exact vR [(4,vF)]<|xC<|zW<|zH<|zH<|hr _ _ _ _ (zC N).symm H ⟨_,_,(.tmp rfl ResV.nil),zQ,⟨_,rfl,rfl,rfl⟩⟩
   intro aY N;exact zT<|zP<|zI<|zM<|yI [] [5] rfl<|yP<|nN<|ih (W (i+1)) _ N H h hg ho hx hr
 intro hc N;exact wR<|yL<|hx _  (zC N).symm H
def nR (list:(List zA)) (aa:Int):Option (Bool):=do
 match<-tR list aa 0 with
 | .ret r0=>pure r0
 | .done _ =>
  let t4<-(do
    if (decide ((list.length:Int)>=1)) then
     pure (decide ((list.length:Int)<=2))
    else
     pure false
      : Option Bool)
  pure (id t4)
theorem zCD:∀ list aa r,nR list aa=some r->∀ {I:Imm}{p c},(S4 I p list c)->RT 224 [vS p list c,vI aa] I [] (zV  r):=by
 intro list aa r N I p c h;unfold nR at N;refine yJ func224 fun B=>?_;have H:=iS I;refine vR []<|yA<|yG [5] rfl<|xX<|qP [(0,vS p list c),(1,vI aa),(5,vI 0)] ?_;obtain ⟨aM,az,aI⟩:=zB N;refine zDy list aa 0 aM az iR h (fun _ _ _ h=>h) (fun _ _ h=>h) ?_ ?_
 · intro bC  heq1 aD;subst aM;have H:=H.trans aD;refine zS<|zI<|yB ?_;refine wS aI [] (fun t4=>[(4,.bool t4)]) (fun o02 ho02=>?_) ?_
   · have H:=iS bC;refine zM<|yC 4 [] [30] rfl<|xS [30] ho02 ?_ ?_
     · intro bG N;exact yI [] [4] rfl<|yL<|zU (ct N H)
     intro bG N;exact wB [] [(4,vF)]<|yL<|zU (ct N H)
   intro t4 bJ aW hMc1;refine zI<|xB ?_;obtain rfl:=zC hMc1;exact vE
 intro r0 I9 hs9 m9 aX le9 ba;subst aX;refine zW<|zH ?_;obtain rfl:=zC aI;exact xA ba
def wO (nest:(List zE)) (i:Int):Option (Out Unit (Bool)):=do
 let t12<-(do
   if (decide (i<(nest.length:Int))) then
    pure (decide ((nest.length:Int)<=4))
   else
    pure false
     : Option Bool)
 if t12 then
  let t32<-(do
    let x<-idx nest i
    let y<-nR x.Lo i
    if (!y) then
     pure true
    else
     let x1<-idx nest i
     let y1<-nR x1.Hi i
     pure (!y1)
      : Option Bool)
  if t32 then
   pure (.ret false)
  else
   wO nest (W (i+1))
 else
  pure (.done ())
 partial_fixpoint
theorem zCE (nest:(List zE)):∀ (i:Int) (o:Out Unit (Bool)),wO nest i=some o->∀ {B}{I0 I:Imm}{Q p c},I0.le I->(S4 I p nest c)->NG Q->NO Q->(∀ (I':Imm) ,o=(.done ())->I0.le I'->T 36 B Q (.exit 0) I' [] [(0,vS p nest c)])->(∀ r I' ah m',o=(.ret r)->I0.le I'->RS Tryz.prog f184 B (zV  r) I' ah m'->T 36 B Q .ret I' ah m')->J Tryz.prog 36 B (nav (bodyOf f184) [1,0,1,0]) Q I [] [(0,vS p nest c),(3,vI i)]:=by
 refine wO.partial_correctness nest _ fun aH ih i o N B I0 I Q p c H h hg ho hx hr=>yR hg ho<|yB<|yB ?_;refine wS N [] (fun t12=>[(0,vS p nest c),(3,vI i),(12,.bool t12)]) (fun o0 aB=>?_) ?_
 · have H:=iS I;refine zM<|yC 5 [] [8] rfl<|xS [8] aB ?_ ?_
   · intro hc N;exact yI [] [12] rfl<|yL<|zU (ct N H)
   intro hc N;exact wB [] [(12,vF)]<|yL<|zU (ct N H)
 intro t12 I0 le aS;have ⟨h,H⟩:=m2 le h H;refine zI<|yF aS ?_ ?_
 · intro aE N;refine zT<|yA<|yH<|yB ?_;refine wS N [] (fun t32=>[(0,vS p nest c),(3,vI i),(32,.bool t32)]) (fun aM az=>?_) ?_
   · have H:=iS I0;refine zM<|yC 2 [] [15,16] rfl ?_;obtain ⟨x,hy,N⟩:=zB az;refine xO rfl rfl h hy ?_;intro ad aK aq al;obtain ⟨p1,c1,p2,c2,rfl,h1,h2⟩:=sA al;refine yC 4 [] [18] rfl<|xJ 0 aq [vS p1 x.Lo c1] (vS p1 x.Lo c1) rfl<|yC 6 [] [20] rfl<|bE N fun y aA N=>uM (zCD x.Lo i _ aA h1) ?_;intro aU af;have ⟨h,H⟩:=m2 af h H;refine yC 9 [] [23] rfl<|xS [23] N ?_ ?_
     · intro aY N;exact wB [] [(32,vY)]<|yL<|zU (ct N H)
     intro aY N;refine yC 11 [] [24,25] rfl<|bE N fun x1 aJ N=>xO rfl rfl h aJ ?_;intro ad1 bx au ax;obtain ⟨p3,c3,p4,c4,rfl,h4,h5⟩:=sA ax;refine yC 13 [] [27] rfl<|xJ 1 au [vS p4 x1.Hi c4] (vS p4 x1.Hi c4) rfl<|yC 15 [] [29] rfl<|bE N fun y1 bf N=>uM (zCD x1.Hi i _ bf h5) ?_;intro bC aC;have H:=H.trans aC;exact yI [] [32] rfl<|yL<|zU (ct N H)
   intro t32 aT aD hMc1;have ⟨h,H⟩:=m2 aD h H;refine zI<|yF hMc1 ?_ ?_
   · intro bG N;exact vR [(2,vF)]<|xC<|zW<|zH<|zH<|hr _ _ _ _ (zC N).symm H ⟨_,_,(.tmp rfl ResV.nil),zQ,⟨_,rfl,rfl,rfl⟩⟩
   intro bG N;exact zT<|zP<|zI<|zM<|yI [] [3] rfl<|yP<|nN<|ih (W (i+1)) _ N H h hg ho hx hr
 intro aE N;exact wR<|yL<|hx _  (zC N).symm H
def pZ (nest:(List zE)):Option (Bool):=do
 match<-wO nest 0 with
 | .ret r0=>pure r0
 | .done _ =>
  pure (decide ((nest.length:Int)<=4))
theorem zDz:∀ nest r,pZ nest=some r->∀ {I:Imm}{p c},(S4 I p nest c)->RT 184 [vS p nest c] I [] (zV  r):=by
 intro nest r N I p c h;unfold pZ at N;refine yJ func184 fun B=>vR []<|yA<|yG [3] rfl<|xX<|qP [(0,vS p nest c),(3,vI 0)] ?_;obtain ⟨o02,ho02,aI⟩:=zB N;refine zCE nest 0 o02 ho02 iR h (fun _ _ _ h=>h) (fun _ _ h=>h) ?_ ?_
 · intro bJ  heq2 aW;subst o02;refine zS<|vK [2] rfl<|zI<|xB ?_;obtain rfl:=zC aI;exact vE
 intro r0 I9 hs9 m9 aX le9 ba;subst aX;refine zW<|zH ?_;obtain rfl:=zC aI;exact xA ba
mutual
def sK (nest:(List zE)) (p1:(List Int)) (most:Int):Option (Int):=do
 if ((p1.length:Int)==(nest.length:Int)) then
  pure (id 1)
 else
  let x<-idx nest (p1.length:Int)
  let (y1,y2)<-oV x p1
  let n01<-sR (same nest) (same p1) (same most) (same y2) (same 1) (same y1)
  pure (id n01)
 partial_fixpoint
def sR (nest:(List zE)) (p1:(List Int)) (most:Int) (y2:Int) (n0:Int) (v04:Int):Option (Int):=do
 let t35<-(do
   if (decide (v04<y2)) then
    pure (decide (n0<=most))
   else
    pure false
     : Option Bool)
 if t35 then
  let l<-app 8 ([]:List Int) p1
  let l1<-app 8 l ([v04]:List Int)
  let y3<-sK (same nest) (same l1) (W (most - n0))
  sR (same nest) (same p1) (same most) (same y2) (W (n0+y3)) (W (v04+1))
 else
  pure (id n0)
 partial_fixpoint
end
theorem zFc:(∀ (nest:(List zE)) (p1:(List Int)) (most:Int) r,sK nest p1 most=some r->∀ {I:Imm}{p c p2 c1},(S4 I p nest c)->(S4 I p2 p1 c1)->RT 185 [vS p nest c,vS p2 p1 c1,vI most] I [] (xD  r))/\(∀ (nest:(List zE)) (p1:(List Int)) (most:Int) (y2:Int) (n0:Int) (v04:Int) o,sR nest p1 most y2 n0 v04=some o->∀ {B}{I0 I:Imm}{Q p c p2 c1},I0.le I->(S4 I p nest c)->(S4 I p2 p1 c1)->NG Q->NO Q->(∀ (I':Imm) (n01:Int),o=n01->I0.le I'->T 52 B Q (.exit 0) I' [] [(7,vI n01)])->J Tryz.prog 52 B (nav (bodyOf f185) [1,1,1,1,0,1,0]) Q I [] [(0,vS p nest c),(1,vS p2 p1 c1),(2,vI most),(7,vI n0),(9,vI y2),(10,vI v04)]):=by
  refine sK.mutual_partial_correctness _ _ ?_ ?_
  · intro F_spec_l2Work_l1 ih_spec_l2Work_l1 nest p1 most r N I p c p2 c1 h h1;refine yJ func185 fun B=>vR []<|vK [7] rfl<|yA<|yG [15] rfl<|zI<|yF N ?_ ?_
    · intro hc N;refine yG [6] rfl<|xC<|zH ?_;obtain rfl:=zC N;exact vE
    intro hc N;refine zT<|yV<|yC 3 [] [18,20] rfl<|bE N fun x hy N=>xO rfl rfl h hy ?_;intro ad aK aq al;obtain ⟨p3,c2,p4,c3,rfl,h2,h3⟩:=sA al;refine xJ 0 aq (cLoop x p3 c2 p4 c3) (vA (cLoop x p3 c2 p4 c3)) rfl<|yC 6 [] [23] rfl ?_;obtain ⟨⟨y1,y2⟩,aA,N⟩:=zB N;refine xM (zBc x p1 _ aA h2 h3 h1) ?_;rintro I0 aw v2 k2 le - ⟨v02,v03,rfl,rfl,rfl,rfl⟩ -;have ⟨h,h1⟩:=m2 le h h1;refine yI [] [8,9] rfl<|yA<|yG [10] rfl<|xX<|qP [(0,vS p nest c),(1,vS p2 p1 c1),(2,vI most),(7,vI 1),(9,vI y2),(10,vI y1)] ?_;obtain ⟨aM,az,aI⟩:=zB N;refine ih_spec_l2Work_l1 nest p1 most y2 1 y1 aM az iR h h1 (fun _ _ _ h=>h) (fun _ _ h=>h) ?_;intro bJ n01 heq1 aW;subst aM;refine zS<|vK [6] rfl<|zI<|xB ?_;obtain rfl:=zC aI;exact vE
  intro F_spec_l2Work F_spec_l2Work_l1 ih_spec_l2Work ih_spec_l2Work_l1 nest p1 most y2 n0 v04 o N B I0 I Q p c p2 c1 H h h1 hg ho hx;refine yR hg ho<|yB<|yB ?_;refine wS N [] (fun t35=>[(0,vS p nest c),(1,vS p2 p1 c1),(2,vI most),(7,vI n0),(9,vI y2),(10,vI v04),(35,.bool t35)]) (fun o0 aB=>?_) ?_
  · have H:=iS I;refine zM<|yC 4 [] [31] rfl<|xS [31] aB ?_ ?_
    · intro aE N;exact yI [] [35] rfl<|yL<|zU (ct N H)
    intro aE N;exact wB [] [(35,vF)]<|yL<|zU (ct N H)
  intro t35 aT af aS;have ⟨h,h1,H⟩:=m3 af h h1 H;refine zI<|yF aS ?_ ?_
  · intro aY N;refine zT<|yA<|yH<|zM<|yC 2 [] [38,39] rfl<|uD [] Int ?_;intro b hb;have h6:RL aT [] ([]:List Int):=rfl;refine yC 4 [] [41] rfl ?_;obtain ⟨bx,k0,k01⟩:=h1;have h1:SL aT (vS p2 p1 c1) p1:=⟨_,k0,k01⟩;obtain ⟨l,aJ,N⟩:=zB N;refine sC 3 1 0 rfl rfl rfl h6 (.inl k0) k01 aJ fun p5 c4 cs h7=>tO (zY [0] (ah:=[hO Int (vS p5 l c4) cs]))<|yC 6 [] [43] rfl<|uD [vI v04] Int ?_;intro b1 hb1;have h8:RL aT [vI v04] ([v04]:List Int):=rI [v04];obtain ⟨l1,bf,N⟩:=zB N;refine sC 3 1 1 rfl rfl rfl h7 (.inr ⟨0,rfl⟩) h8 bf fun p6 c5 ay h9=>tO (zY [1] (ah:=[hO Int (vS p6 l1 c5) ay]))<|yC 11 [] [48] rfl<|xF 0 rfl ?_;intro aU aC hl0;have h10:=SL.of_frozen hl0 aC h9;have ⟨h,h1,H⟩:=m3 aC h h1 H;obtain ⟨y3,bw,N⟩:=zB N;refine xM (ih_spec_l2Work nest l1 (W (most - n0)) _ bw h h10) ?_;rintro bC aw v2 k2 aD - ⟨v05,rfl,rfl,rfl⟩ -;have ⟨h,h1,H⟩:=m3 aD h h1 H;exact yI [] [7] rfl<|zP<|zI<|zM<|yI [] [10] rfl<|yP<|nN<|ih_spec_l2Work_l1 nest p1 most y2 (W (n0+y3)) (W (v04+1)) _ N H h h1 hg ho hx
  intro aY N;exact wR<|yL<|hx _ _ (zC N).symm H
theorem zGY:∀ nest p1 most r,sK nest p1 most=some r->∀ {I:Imm}{p c p2 c1},(S4 I p nest c)->(S4 I p2 p1 c1)->RT 185 [vS p nest c,vS p2 p1 c1,vI most] I [] (xD  r):=zFc.1
def dA (r:(List (List Int))×Bool):KT:=fun kk I' ah v=>
  ∃ v0 v1,ah=[]/\v=tupV [v0,v1]/\SL I' v0 r.1/\v1=.bool r.2
def qZ (nest:(List zE)):Option ((List (List Int))×Bool):=do
 let t12<-(do
   let y<-pZ nest
   if (!y) then
    pure true
   else
    let y1<-sK nest ([]:List Int) 1200
    pure (decide (y1>1200))
     : Option Bool)
 if t12 then
  pure (([]:List (List Int)),false)
 else
  let y2<-vV ([]:List (List Int)) nest ([]:List Int)
  if (decide ((y2.length:Int)>120)) then
   pure (([]:List (List Int)),false)
  else
   pure (y2,true)
theorem zDQ:∀ nest r,qZ nest=some r->∀ {I:Imm}{p c},(S4 I p nest c)->RT 145 [vS p nest c] I [] (dA  r):=by
 intro nest r N I p c h;unfold qZ at N;refine yJ func145 fun B=>?_;have H:=iS I;refine vR []<|yA<|yB ?_;refine wS N [] (fun t12=>[(0,vS p nest c),(12,.bool t12)]) (fun o0 aB=>?_) ?_
 · have H:=iS I;refine zM<|yC 1 [] [5] rfl ?_;obtain ⟨y,hy,N⟩:=zB aB;refine uM (zDz nest _ hy h) ?_;intro aT le;have ⟨h,H⟩:=m2 le h H;refine yC 4 [] [8] rfl<|xS [8] N ?_ ?_
   · intro hc N;exact wB [] [(12,vY)]<|yL<|zU (ct N H)
   intro hc N;refine yC 5 [] [9] rfl<|bE N fun y1 aA N=>gR (zGY nest ([]:List Int) 1200 _ aA h (SL.nil _)) ?_;intro aU af;have H:=H.trans af;exact yI [] [12] rfl<|yL<|zU (ct N H)
 intro t12 I0 aC aS;have h:=h.mono aC;refine zI<|yF aS ?_ ?_
 · intro aE N;refine yE<|uD [] (List Int) ?_;intro b hb;have h3:RL I0 [] ([]:List (List Int)):=rfl;refine yI [] [2,3] rfl<|xC<|zH<|yU 0 rfl ?_;intro bC aD hl0;have h4:=SL.of_frozen hl0 aD h3;obtain rfl:=zC N;exact xA ⟨_,_,(.tmp rfl (.tmp rfl ResV.nil)),zQ,⟨_,_,rfl,rfl,h4,rfl⟩⟩
 intro aE N;refine zT<|yV<|uD [] (List Int) ?_;intro b1 hb1;have h5:RL I0 [] ([]:List (List Int)):=rfl;refine yC 2 [] [15] rfl<|bE N fun y2 aJ N=>tM (zAy ([]:List (List Int)) nest ([]:List Int) _ aJ h5 h (SL.nil _)) rfl ?_;rintro bJ aw v2 k2 aW - ⟨p1,c1,cs,rfl,rfl,h6⟩ -;refine yI [] [4] rfl<|yA<|yG [19] rfl<|zI<|yF N ?_ ?_
 · intro aY N;refine yE<|uD [] (List Int) ?_;intro b2 hb2;have h7:RL bJ [] ([]:List (List Int)):=rfl;refine yI [] [2,3] rfl<|xC<|zH<|yU 0 rfl ?_;intro bN bt hl01;have h8:=SL.of_frozen hl01 bt h7;obtain rfl:=zC N;exact xA ⟨_,_,(.tmp rfl (.tmp rfl ResV.nil)),zQ,⟨_,_,rfl,rfl,h8,rfl⟩⟩
 intro aY N;refine zT<|vK [2,3] rfl<|xC<|yU 0 rfl ?_;intro I06 bv hl02;have h9:=SL.of_frozen hl02 bv h6;obtain rfl:=zC N;exact xA ⟨_,_,(.tmp rfl (.tmp rfl ResV.nil)),zQ,⟨_,_,rfl,rfl,h9,rfl⟩⟩
def zA4 (r:(List zJ)):KT:=fun kk I' ah v=>
  ∃ a0 c0 s0,ah=[.osl (.slice a0 r.length c0) (Rp.sz zJ) s0]/\v=tupV [(.slice a0 r.length c0)]/\RepL (Rp.rep I') (Rp.sz zJ) s0 r
mutual
def sF (out:(List zJ)) (e0:zG):Option ((List zJ)):=do
 let aj<-(do
   if (e0.Kind==3) then
    let y<-uH e0.Read
    let ap<-app 40 out ([y]:List zJ)
    pure (id ap)
   else
    pure (id out)
     : Option (List zJ))
 let bu<-wF (same e0) (same aj) (same 0)
 pure (id bu)
 partial_fixpoint
def wF (e0:zG) (aP:List zJ) (i:Int):Option (List zJ):=do
 if (decide (i<(e0.Kids.length:Int))) then
  let x<-idx e0.Kids i
  let y1<-sF (same aP) (same x)
  wF (same e0) (same y1) (W (i+1))
 else
  pure (id aP)
 partial_fixpoint
end
theorem zEy:(∀ (out:(List zJ)) (e0:zG) r,sF out e0=some r->∀ {I:Imm}{p c cs p1 c1 p2 c2 p3 c3},(RL I cs out)->(S4 I p1 e0.Index.Coefs c1)->(S4 I p2 e0.Read.Subs c2)->(S4 I p3 e0.Kids c3)->RT 189 [vS p out c,vA (cExpr e0 p1 c1 p2 c2 p3 c3)] I [hO zJ (vS p out c) cs] (zA4  r))/\(∀ (e0:zG) (aP:List zJ) (i:Int) o,wF e0 aP i=some o->∀ {B}{I0 I:Imm}{Q p1 c1 p2 c2 p3 c3}{b:Nat}{p7 c7 bz},I0.le I->(S4 I p1 e0.Index.Coefs c1)->(S4 I p2 e0.Read.Subs c2)->(S4 I p3 e0.Kids c3)->(RL I bz aP)->NG Q->NO Q->(∀ (I':Imm) (bu:List zJ) (p8:Option Addr) (c8:Nat) (bD:List Value),o=bu->I0.le I'->(RL I' bD bu)->T 30 B Q (.exit 0) I' [hO zJ (vS p8 bu c8) bD] [(0,vS p8 bu c8)])->J Tryz.prog 30 B (nav (bodyOf f189) [1,1,0,1,0]) Q I [hB b (cExpr e0 p1 c1 p2 c2 p3 c3),hO zJ (vS p7 aP c7) bz] [(0,vS p7 aP c7),(3,vP b 0),(5,vI i)]):=by
  refine sF.mutual_partial_correctness _ _ ?_ ?_
  · intro F_spec_l3Reads_l1 ih_spec_l3Reads_l1 out e0 r N I p c cs p1 c1 p2 c2 p3 c3 h h1 h2 h3;refine yJ func189 fun B=>?_;have H:=iS I;refine yE<|tW (cExpr e0 p1 c1 p2 c2 p3 c3) ?_;intro b hb;refine wB [] []<|yA<|yE<|yI [0] [8] rfl<|zI ?_;obtain ⟨o0,aB,aS⟩:=zB N;refine qR (fun I' ah m'=>∃ (aj:List zJ) (p4:Option Addr) (c4:Nat) (ay:List Value),o0=aj/\I.le I'/\(RL I' ay aj)/\ah=[hB b (cExpr e0 p1 c1 p2 c2 p3 c3),hO zJ (vS p4 aj c4) ay]/\m'=[(0,vS p4 aj c4),(3,vP b 0)]) ?_ ?_
    · have H:=iS I;refine yF aB ?_ ?_
      · intro hc N;refine zM<|rY 3 [0] [(9,vS p out c),(11,vA (cAccess e0.Read p2 c2))]<|bE N fun y hy N=>xM (gB e0.Read _ hy h2) ?_;rintro aT aw v2 k2 le - ⟨p5,c5,aQ,rfl,rfl,h5⟩ -;have ⟨h,H⟩:=m2 le h H;refine xF 0 rfl ?_;intro aU af hl0;have h6:=SL.of_frozen hl0 af h5;have ⟨h,H⟩:=m2 af h H;refine uD (cAccess y p5 c5) zJ ?_;intro b1 hb1;have h7:RL aU (cAccess y p5 c5) ([y]:List zJ):=⟨(cAccess y p5 c5),_,rfl,rfl,(nT ⟨_,rfl,h6⟩),rfl⟩;obtain ⟨ap,aA,N⟩:=zB N;exact sC 93 2 2 rfl rfl rfl h (.inr ⟨0,rfl⟩) h7 aA fun p6 c6 aR h8=>tO (zY [1,2] (ah:=[hB b (cExpr e0 p1 c1 p2 c2 p3 c3),hO zJ (vS p6 ap c6) aR]))<|yI [] [0] rfl<|yL<|zU ⟨_,_,_,_,(zC N).symm,H,h8,rfl,rfl⟩
      intro hc N;exact zT<|yL<|zU ⟨_,_,_,_,(zC N).symm,H,h,rfl,rfl⟩
    rintro I0 aw m2 ⟨aj,p4,c4,ay,heq,aC,h4,rfl,rfl⟩;subst o0;have ⟨h1,h2,h3⟩:=m3 aC h1 h2 h3;refine yA<|yG [5] rfl<|xX<|qP [(0,vS p4 aj c4),(3,vP b 0),(5,vI 0)] ?_;obtain ⟨aM,az,aI⟩:=zB aS;refine ih_spec_l3Reads_l1 e0 aj 0 aM az iR h1 h2 h3 h4 (fun _ _ _ h=>h) (fun _ _ h=>h) ?_;intro bJ bu p8 c8 bD heq1 aW h10;subst aM;refine zS<|vK [4] rfl<|zI<|xB ?_;obtain rfl:=zC aI;exact xA ⟨_,_,(.tmp rfl ResV.nil),(zX [0] rfl (by decide)),⟨_,_,_,rfl,rfl,h10⟩⟩
  intro F_spec_l3Reads F_spec_l3Reads_l1 ih_spec_l3Reads ih_spec_l3Reads_l1 e0 aP i o N B I0 I Q p1 c1 p2 c2 p3 c3 b p7 c7 bz H h1 h2 h3 h9 hg ho hx;refine yR hg ho<|yB<|yE<|yI [0] [19] rfl<|zI<|yF N ?_ ?_
  · intro aE N;refine zT<|yA<|yH<|zM<|yC 4 [0] [22,24,25] rfl<|bE N fun x aJ N=>xO rfl rfl h3 aJ ?_;intro ad aK aq al;obtain ⟨p9,c9,aV,bc,aN,aZ,rfl,h11,h12,h13⟩:=tH al;refine xJ 0 aq (cExpr x p9 c9 aV bc aN aZ) (vA (cExpr x p9 c9 aV bc aN aZ)) rfl<|tO (zY [1,0] (ah:=[hO zJ (vS p7 aP c7) bz,hB b (cExpr e0 p1 c1 p2 c2 p3 c3)]))<|bE N fun y1 bf N=>tM (ih_spec_l3Reads aP x _ bf h9 h11 h12 h13) rfl ?_;rintro bC aw v2 k2 aD - ⟨bB,bk,cs6,rfl,rfl,h14⟩ -;have ⟨h1,h2,h3,H⟩:=m4 aD h1 h2 h3 H;exact yI [] [0] rfl<|zP<|zI<|zM<|yI [] [5] rfl<|yP<|nX (zX [1,0] rfl (by decide))<|nN<|ih_spec_l3Reads_l1 e0 y1 (W (i+1)) _ N H h1 h2 h3 h14 hg ho hx
  intro aE N;exact wR<|xQ (zX [1] rfl (by decide))<|yL<|hx _ _ _ _ _ (zC N).symm H h9
theorem zFd:∀ out e0 r,sF out e0=some r->∀ {I:Imm}{p c cs p1 c1 p2 c2 p3 c3},(RL I cs out)->(S4 I p1 e0.Index.Coefs c1)->(S4 I p2 e0.Read.Subs c2)->(S4 I p3 e0.Kids c3)->RT 189 [vS p out c,vA (cExpr e0 p1 c1 p2 c2 p3 c3)] I [hO zJ (vS p out c) cs] (zA4  r):=zEy.1
def tS (a0:zF) (n0:Int) (i:Int):Option (Int):=do
 if (decide (i<(a0.Dims.length:Int))) then
  let x<-idx a0.Dims i
  tS a0 (W (n0*x)) (W (i+1))
 else
  pure (id n0)
 partial_fixpoint
theorem zEA (a0:zF):∀ (n0:Int) (i:Int) (o:Int),tS a0 n0 i=some o->∀ {B}{I0 I:Imm}{Q p c}{b:Nat},I0.le I->(S4 I p a0.Dims c)->NG Q->NO Q->(∀ (I':Imm) (n01:Int),o=n01->I0.le I'->T 20 B Q (.exit 0) I' [] [(3,vI n01)])->J Tryz.prog 20 B (nav (bodyOf f229) [1,1,0,1,0]) Q I [hB b (cArr a0 p c)] [(1,vP b 0),(3,vI n0),(4,vI i)]:=by
 refine tS.partial_correctness a0 _ fun aH ih n0 i o N B I0 I Q p c b H h hg ho hx=>yR hg ho<|yB<|yE<|yI [0] [9] rfl<|zI<|yF N ?_ ?_
 · intro hc N;refine zT<|yA<|yH<|zM<|yC 4 [0] [12,14,15] rfl<|bE N fun x hy N=>xO rfl rfl h hy ?_;intro ad aK aq al;obtain rfl:=al;exact xJ 0 aq [vI x] (vI x) rfl<|yI [] [3] rfl<|zP<|zI<|zM<|yI [] [4] rfl<|yP<|nN<|ih (W (n0*x)) (W (i+1)) _ N H h hg ho hx
 intro hc N;exact wR<|xQ zQ<|yL<|hx _ _ (zC N).symm H
def mW (a0:zF):Option (Int):=do
 let n01<-tS a0 1 0
 pure (id n01)
theorem zGZ:∀ a0 r,mW a0=some r->∀ {I:Imm}{p c},(S4 I p a0.Dims c)->RT 229 [vA (cArr a0 p c)] I [] (xD  r):=by
 intro a0 r N I p c h;unfold mW at N;refine yJ func229 fun B=>yE<|tW (cArr a0 p c) ?_;intro b hb;refine wB [] []<|vK [3] rfl<|yA<|yG [4] rfl<|xX<|qP [(1,vP b 0),(3,vI 1),(4,vI 0)] ?_;obtain ⟨o0,aB,aI⟩:=zB N;refine zEA a0 1 0 o0 aB iR h (fun _ _ _ h=>h) (fun _ _ h=>h) ?_;intro I0 n01 heq le;subst o0;refine zS<|vK [2] rfl<|zI<|xB ?_;obtain rfl:=zC aI;exact vE
def uP (list:(List zF)) (a0:zJ) (ag:(List Int)) (i:Int) (n0:Int) (k0:Int):Option (Out Int (Int)):=do
 if (decide (k0<(a0.Subs.length:Int))) then
  let x2<-idx list i
  if ((a0.Subs.length:Int) != (x2.Dims.length:Int)) then
   pure (.ret (-1))
  else
   let x3<-idx a0.Subs k0
   let y1<-rR x3 ag
   let t70<-(do
     if (decide (y1<0)) then
      pure true
     else
      let x4<-idx list i
      let x5<-idx x4.Dims k0
      pure (decide (y1>=x5))
       : Option Bool)
   if t70 then
    pure (.ret (-1))
   else
    let x6<-idx list i
    let x7<-idx x6.Dims k0
    uP list a0 ag i (W ((W (n0*x7))+y1)) (W (k0+1))
 else
  pure (.done n0)
 partial_fixpoint
theorem zEB (list:(List zF)) (a0:zJ) (ag:(List Int)) (i:Int):∀ (n0:Int) (k0:Int) (o:Out Int (Int)),uP list a0 ag i n0 k0=some o->∀ {B}{I0 I:Imm}{Q}{base:Int}{p c p1 c1 p2 c2}{b:Nat},I0.le I->(S4 I p list c)->(S4 I p2 ag c2)->(S4 I p1 a0.Subs c1)->NG Q->NO Q->(∀ (I':Imm) (n01:Int),o=(.done n01)->I0.le I'->T 86 B Q (.exit 2) I' [] [(7,vI base),(9,vI n01)])->(∀ r I' ah m',o=(.ret r)->I0.le I'->RS Tryz.prog f190 B (xD  r) I' ah m'->T 86 B Q .ret I' ah m')->J Tryz.prog 86 B (nav (bodyOf f190) [1,1,0,1,0,0,1,0,0,1,1,0,1,0]) Q I [hB b (cAccess a0 p1 c1)] [(0,vS p list c),(2,vS p2 ag c2),(4,vP b 0),(7,vI base),(8,vI i),(9,vI n0),(10,vI k0)]:=by
 refine uP.partial_correctness list a0 ag i _ fun aH ih n0 k0 o N B I0 I Q base p c p1 c1 p2 c2 b H h h2 h1 hg ho hx hr=>yR hg ho<|yB<|yE<|yI [0] [37] rfl<|zI<|yF N ?_ ?_
 · intro aY N;refine zT<|yA<|yH<|yB<|yB<|jE (by kernel_rfl) (by kernel_rfl)<|fS 5 [0] [42,43,44] rfl<|bE N fun x2 bf N=>dM rfl rfl h bf ?_;intro ad2 bO br bq;obtain ⟨p5,c5,rfl,h6⟩:=wG bq;refine fS 7 [] [46] rfl<|eX 1 br [vS p5 x2.Dims c5] (vS p5 x2.Dims c5) rfl<|zHL [] [49] rfl<|zI<|yF N ?_ ?_
   · intro bG N;exact yG [6] rfl<|xC<|zH<|zW<|zH<|zH<|hr _ _ _ _ (zC N).symm H ⟨_,_,(.tmp rfl ResV.nil),zQ,⟨_,rfl,rfl,rfl⟩⟩
   intro bG N;refine zT<|yV<|yC 3 [0] [51,52] rfl<|bE N fun x3 bw N=>xO rfl rfl h1 bw ?_;intro ad3 ccs3 hat3 bI;obtain ⟨p6,c6,rfl,h7⟩:=yM bI;refine xJ 0 hat3 (cAff x3 p6 c6) (vA (cAff x3 p6 c6)) rfl<|yC 6 [] [55] rfl<|bE N fun y1 bH N=>gR (gH x3 ag _ bH h7 h2) ?_;intro aT af;have ⟨h,h2,h1,H⟩:=m4 af h h2 h1 H;refine yI [] [11] rfl<|yA<|yB ?_;refine wS N [hB b (cAccess a0 p1 c1)] (fun t70=>[(0,vS p list c),(2,vS p2 ag c2),(4,vP b 0),(7,vI base),(8,vI i),(9,vI n0),(10,vI k0),(11,vI y1),(70,.bool t70)]) (fun o0 aB=>?_) ?_
   · have H:=iS aT;refine zM<|yC 3 [] [59] rfl<|xS [59] aB ?_ ?_
     · intro bM N;exact wB [] [(70,vY)]<|yL<|zU (ct N H)
     intro bM N;refine yC 6 [] [60,61,62] rfl<|bE N fun x4 hy6 N=>xO rfl rfl h hy6 ?_;intro ad4 ccs4 hat4 hrep4;obtain ⟨p7,c7,rfl,h9⟩:=wG hrep4;refine yC 8 [] [64] rfl<|xJ 1 hat4 [vS p7 x4.Dims c7] (vS p7 x4.Dims c7) rfl<|yC 10 [] [66] rfl<|bE N fun x5 hy7 N=>xO rfl rfl h9 hy7 ?_;intro ad5 ccs5 hat5 hrep5;obtain rfl:=hrep5;exact xJ 0 hat5 [vI x5] (vI x5) rfl<|yI [] [70] rfl<|yL<|zU (ct N H)
   intro t70 aU aC aS;have ⟨h,h2,h1,H⟩:=m4 aC h h2 h1 H;refine zI<|yF aS ?_ ?_
   · intro hc5 N;exact yG [6] rfl<|xC<|zH<|zW<|zH<|zH<|hr _ _ _ _ (zC N).symm H ⟨_,_,(.tmp rfl ResV.nil),zQ,⟨_,rfl,rfl,rfl⟩⟩
   intro hc5 N;refine zT<|zI<|zM<|yC 3 [] [71,72,73] rfl<|bE N fun x6 hy8 N=>xO rfl rfl h hy8 ?_;intro ad6 ccs6 hat6 hrep6;obtain ⟨p8,c8,rfl,h10⟩:=wG hrep6;refine yC 5 [] [75] rfl<|xJ 1 hat6 [vS p8 x6.Dims c8] (vS p8 x6.Dims c8) rfl<|yC 7 [] [77] rfl<|bE N fun x7 hy9 N=>xO rfl rfl h10 hy9 ?_;intro ad7 ccs7 hat7 hrep7;obtain rfl:=hrep7;exact xJ 0 hat7 [vI x7] (vI x7) rfl<|yI [] [9] rfl<|zP<|zI<|zM<|yI [] [10] rfl<|yP<|nN<|ih (W ((W (n0*x7))+y1)) (W (k0+1)) _ N H h h2 h1 hg ho hx hr
 intro aY N;exact wR<|xQ zQ<|yL<|hx _ _ (zC N).symm H
def uQ (list:(List zF)) (a0:zJ) (ag:(List Int)) (base:Int) (i:Int):Option (Out Unit (Int)):=do
 if (decide (i<(list.length:Int))) then
  let x<-idx list i
  if (!(x.Name.l==a0.Array.l)) then
   let x1<-idx list i
   let y<-mW x1
   uQ list a0 ag (W (base+y)) (W (i+1))
  else
   match<-uP list a0 ag i 0 0 with
   | .ret r0=>pure (.ret r0)
   | .done n01 =>
    pure (.ret (W (base+n01)))
 else
  pure (.done ())
 partial_fixpoint
theorem zEC (list:(List zF)) (a0:zJ) (ag:(List Int)):∀ (base:Int) (i:Int) (o:Out Unit (Int)),uQ list a0 ag base i=some o->∀ {B}{I0 I:Imm}{Q p c p1 c1 p2 c2}{b:Nat},I0.le I->(S4 I p list c)->(S4 I p2 ag c2)->(S4 I p1 a0.Subs c1)->NG Q->NO Q->(∀ (I':Imm) ,o=(.done ())->I0.le I'->T 86 B Q (.exit 0) I' [] [])->(∀ r I' ah m',o=(.ret r)->I0.le I'->RS Tryz.prog f190 B (xD  r) I' ah m'->T 86 B Q .ret I' ah m')->J Tryz.prog 86 B (nav (bodyOf f190) [1,1,0,1,0]) Q I [hB b (cAccess a0 p1 c1)] [(0,vS p list c),(2,vS p2 ag c2),(4,vP b 0),(7,vI base),(8,vI i)]:=by
 refine uQ.partial_correctness list a0 ag _ fun aH ih base i o N B I0 I Q p c p1 c1 p2 c2 b H h h2 h1 hg ho hx hr=>yR hg ho<|yB<|yG [15] rfl<|zI<|yF N ?_ ?_
 · intro hc N;refine zT<|yA<|yH<|yB<|yB<|jE (by kernel_rfl) (by kernel_rfl)<|fS 2 [] [18,19] rfl<|bE N fun x hy N=>dM rfl rfl h hy ?_;intro ad aK aq al;obtain ⟨p3,c3,rfl,h3⟩:=wG al;refine fS 4 [] [21] rfl<|eX 0 aq [vT x.Name.l] (vT x.Name.l) rfl<|zHL [0] [25] rfl<|zI<|yF N ?_ ?_
   · intro aE N;refine yE<|yC 3 [] [26,27,28] rfl<|bE N fun x1 aA N=>xO rfl rfl h aA ?_;intro ad1 bx au ax;obtain ⟨p4,c4,rfl,h4⟩:=wG ax;refine xJ 0 au (cArr x1 p4 c4) (vA (cArr x1 p4 c4)) rfl<|bE N fun y aJ N=>gR (zGZ x1 _ aJ h4) ?_;intro I0 le;have ⟨h,h2,h1,H⟩:=m4 le h h2 h1 H;exact yI [] [7] rfl<|zI<|zEb<|jB<|zS<|zI<|zM<|yI [] [8] rfl<|yP<|nN<|ih (W (base+y)) (W (i+1)) _ N H h h2 h1 hg ho hx hr
   intro aE N;refine zT<|vK [9] rfl<|yA<|yG [10] rfl<|xX<|qP [(0,vS p list c),(2,vS p2 ag c2),(4,vP b 0),(7,vI base),(8,vI i),(9,vI 0),(10,vI 0)] ?_;obtain ⟨aM,az,aI⟩:=zB N;refine zEB list a0 ag i 0 0 aM az iR h h2 h1 (fun _ _ _ h=>hg _ _ _ h) (fun _ _ h=>ho _ _ h) ?_ ?_
   · intro bC n01 heq1 aD;subst aM;have H:=H.trans aD;exact zS<|vK [6] rfl<|xC<|zW<|zH<|zH<|hr _ _ _ _ (zC aI).symm H ⟨_,_,(.tmp rfl ResV.nil),zQ,⟨_,rfl,rfl,rfl⟩⟩
   intro r0 I9 hs9 m9 aX le9 ba;subst aX;exact zW<|zH<|zW<|zH<|zH<|hr _ _ _ _ (zC aI).symm (H.trans le9) ba
 intro hc N;exact wR<|xQ zQ<|yL<|hx _  (zC N).symm H
def nS (list:(List zF)) (a0:zJ) (ag:(List Int)):Option (Int):=do
 match<-uQ list a0 ag 0 0 with
 | .ret r0=>pure r0
 | .done _ =>
  pure (-1)
theorem zCF:∀ list a0 ag r,nS list a0 ag=some r->∀ {I:Imm}{p c p1 c1 p2 c2},(S4 I p list c)->(S4 I p1 a0.Subs c1)->(S4 I p2 ag c2)->RT 190 [vS p list c,vA (cAccess a0 p1 c1),vS p2 ag c2] I [] (xD  r):=by
 intro list a0 ag r N I p c p1 c1 p2 c2 h h1 h2;unfold nS at N;refine yJ func190 fun B=>yE<|tW (cAccess a0 p1 c1) ?_;intro b hb;refine wB [] []<|vK [7] rfl<|yA<|yG [8] rfl<|xX<|qP [(0,vS p list c),(2,vS p2 ag c2),(4,vP b 0),(7,vI 0),(8,vI 0)] ?_;obtain ⟨o02,ho02,hMl1⟩:=zB N;refine zEC list a0 ag 0 0 o02 ho02 iR h h2 h1 (fun _ _ _ h=>h) (fun _ _ h=>h) ?_ ?_
 · intro bJ  heq2 aW;subst o02;refine zS<|vK [6] rfl<|zI<|xB ?_;obtain rfl:=zC hMl1;exact vE
 intro r0 I9 hs9 m9 aX le9 ba;subst aX;refine zW<|zH ?_;obtain rfl:=zC hMl1;exact xA ba
def zA5 (r:(List Int)×Int×Bool):KT:=fun kk I' ah v=>
  ∃ v0 v1 v2,ah=[]/\v=tupV [v0,v1,v2]/\SL I' v0 r.1/\v1=.int .i64 r.2.1/\v2=.bool r.2.2
def tD (list:(List zF)) (ag:(List Int)) (y:(List zJ)) (out:List Int) (i:Int):Option (Out (List Int) ((List Int)×Int×Bool)):=do
 if (decide (i<(y.length:Int))) then
  let x<-idx y i
  let y1<-nS list x ag
  if (decide (y1<0)) then
   pure (.ret (([]:List Int),0,false))
  else
   let ap<-app 8 out ([y1]:List Int)
   tD list ag y ap (W (i+1))
 else
  pure (.done out)
 partial_fixpoint
theorem zDR (list:(List zF)) (ag:(List Int)) (y:(List zJ)):∀ (out:List Int) (i:Int) (o:Out (List Int) ((List Int)×Int×Bool)),tD list ag y out i=some o->∀ {B}{I0 I:Imm}{Q}{s:zO}{p c p1 c1 p2 c2 p3 c3 p4 c4 p5 c5}{b:Nat}{p6 c6 cs p7 c7 ay},I0.le I->(S4 I p list c)->(S4 I p5 ag c5)->(RL I cs y)->(S4 I p1 s.Write.Subs c1)->(S4 I p2 s.Value.Index.Coefs c2)->(S4 I p3 s.Value.Read.Subs c3)->(S4 I p4 s.Value.Kids c4)->(RL I ay out)->NG Q->NO Q->(∀ (I':Imm) (aj:List Int) (p8:Option Addr) (c8:Nat) (aQ:List Value),o=(.done aj)->I0.le I'->(RL I' aQ aj)->T 49 B Q (.exit 0) I' [hO Int (vS p8 aj c8) aQ,hB b (cStmt s p1 c1 p2 c2 p3 c3 p4 c4)] [(0,vS p list c),(2,vS p5 ag c5),(4,vP b 0),(9,vS p8 aj c8)])->(∀ r I' ah m',o=(.ret r)->I0.le I'->RS Tryz.prog f147 B (zA5  r) I' ah m'->T 49 B Q .ret I' ah m')->J Tryz.prog 49 B (nav (bodyOf f147) [1,1,1,0,1,0]) Q I [hO zJ (vS p6 y c6) cs,hO Int (vS p7 out c7) ay,hB b (cStmt s p1 c1 p2 c2 p3 c3 p4 c4)] [(0,vS p list c),(2,vS p5 ag c5),(4,vP b 0),(9,vS p7 out c7),(10,vS p6 y c6),(11,vI i)]:=by
 refine tD.partial_correctness list ag y _ fun aH ih out i o N B I0 I Q s p c p1 c1 p2 c2 p3 c3 p4 c4 p5 c5 b p6 c6 cs p7 c7 ay H h h5 h8 h1 h2 h3 h4 h9 hg ho hx hr=>yR hg ho<|yB<|yG [22] rfl<|zI<|yF N ?_ ?_
 · intro hc N;refine zT<|yA<|yH<|yE<|yC 3 [] [25,26,27] rfl<|bE N fun x aA N=>nY 0 rfl rfl rfl h8 aA ?_;intro ad aK aq bL al;obtain ⟨p9,c9,rfl,h11⟩:=oT al;refine zAn 0 0 aq bL (cAccess x p9 c9) (vA (cAccess x p9 c9)) rfl rfl<|yC 6 [] [30] rfl<|bE N fun y1 aJ N=>gR (zCF list x ag _ aJ h h11 h5) ?_;intro aT af;have ⟨h,h5,h9,h8,h1,h2⟩:=m6 af h h5 h9 h8 h1 h2;have ⟨h3,h4,H⟩:=m3 af h3 h4 H;refine yI [] [12] rfl<|yA<|yG [33] rfl<|zI<|yF N ?_ ?_
   · intro aE N;refine yE<|uD [] Int ?_;intro b3 hb3;have h13:RL aT [] ([]:List Int):=rfl;refine yI [] [6,7,8] rfl<|xC<|zH<|zW<|zH<|zH<|yU 0 rfl ?_;intro aU aC hl0;have h14:=SL.of_frozen hl0 aC h13;have H:=H.trans aC;exact hr _ _ _ _ (zC N).symm H ⟨_,_,(.tmp rfl (.tmp rfl (.tmp rfl ResV.nil))),zQ,⟨_,_,_,rfl,rfl,h14,rfl,rfl⟩⟩
   intro aE N;refine zT<|zI<|zM<|yC 2 [] [35,36] rfl<|uD [vI y1] Int ?_;intro b4 hb4;have h15:RL aT [vI y1] ([y1]:List Int):=rI [y1];obtain ⟨ap,bf,N⟩:=zB N;exact sC 3 1 2 rfl rfl rfl h9 (.inr ⟨0,rfl⟩) h15 bf fun aV bc aR h16=>tO (zY [1,2,3] (ah:=[hO zJ (vS p6 y c6) cs,hO Int (vS aV ap bc) aR,hB b (cStmt s p1 c1 p2 c2 p3 c3 p4 c4)]))<|yI [] [9] rfl<|zP<|zI<|zM<|yI [] [11] rfl<|yP<|nN<|ih ap (W (i+1)) _ N H h h5 h8 h1 h2 h3 h4 h16 hg ho hx hr
 intro hc N;exact wR<|xQ (zX [1,2] rfl (by decide))<|yL<|hx _ _ _ _ _ (zC N).symm H h9
def mA (list:(List zF)) (s:zO) (ag:(List Int)):Option ((List Int)×Int×Bool):=do
 let y<-sF ([]:List zJ) s.Value
 match<-tD list ag y ([]:List Int) 0 with
 | .ret r0=>pure r0
 | .done aj =>
  let y2<-nS list s.Write ag
  if (decide (y2<0)) then
   pure (([]:List Int),0,false)
  else
   pure (aj,y2,true)
theorem zFe:∀ list s ag r,mA list s ag=some r->∀ {I:Imm}{p c p1 c1 p2 c2 p3 c3 p4 c4 p5 c5},(S4 I p list c)->(S4 I p1 s.Write.Subs c1)->(S4 I p2 s.Value.Index.Coefs c2)->(S4 I p3 s.Value.Read.Subs c3)->(S4 I p4 s.Value.Kids c4)->(S4 I p5 ag c5)->RT 147 [vS p list c,vA (cStmt s p1 c1 p2 c2 p3 c3 p4 c4),vS p5 ag c5] I [] (zA5  r):=by
 intro list s ag r N I p c p1 c1 p2 c2 p3 c3 p4 c4 p5 c5 h h1 h2 h3 h4 h5;unfold mA at N;refine yJ func147 fun B=>yE<|tW (cStmt s p1 c1 p2 c2 p3 c3 p4 c4) ?_;intro b hb;refine wB [] []<|yV<|uD [] Int ?_;intro b1 hb1;have h6:RL I [] ([]:List Int):=rfl;refine yI [] [9] rfl<|yV<|uD [] zJ ?_;intro b2 hb2;have h7:RL I [] ([]:List zJ):=rfl;refine rY 3 [2] [(17,vA (cExpr s.Value p2 c2 p3 c3 p4 c4))]<|bE N fun y hy N=>tM (zFd ([]:List zJ) s.Value _ hy h7 h2 h3 h4) rfl ?_;rintro I0 aw v2 k2 le - ⟨p6,c6,cs,rfl,rfl,h8⟩ -;have ⟨h,h5,h6,h1,h2,h3⟩:=m6 le h h5 h6 h1 h2 h3;have h4:=h4.mono le;refine yI [] [10] rfl<|yA<|yG [11] rfl<|xX<|qP [(0,vS p list c),(2,vS p5 ag c5),(4,vP b 0),(9,vS (some ⟨b1,0,none⟩) ([]:List Int) 0),(10,vS p6 y c6),(11,vI 0)] ?_;obtain ⟨o0,aB,aI⟩:=zB N;refine zDR list ag y ([]:List Int) 0 o0 aB iR h h5 h8 h1 h2 h3 h4 h6 (fun _ _ _ h=>h) (fun _ _ h=>h) ?_ ?_
 · intro bC aj p8 c8 aQ heq aD h10;subst o0;have ⟨h,h5,h1⟩:=m3 aD h h5 h1;refine zS<|yV<|rY 4 [1] [(39,vS p list c),(41,vA (cAccess s.Write p1 c1)),(42,vS p5 ag c5)] ?_;obtain ⟨y2,bw,N⟩:=zB aI;refine gR (zCF list s.Write ag _ bw h h1 h5) ?_;intro bJ aW;have h10:=iM aW h10;refine yI [] [13] rfl<|yA<|yG [45] rfl<|zI<|yF N ?_ ?_
   · intro aY N;refine yE<|uD [] Int ?_;intro b5 hb5;have h18:RL bJ [] ([]:List Int):=rfl;refine yI [] [6,7,8] rfl<|xC<|zH<|yU 0 rfl ?_;intro bN bt hl01;have h19:=SL.of_frozen hl01 bt h18;obtain rfl:=zC N;exact xA ⟨_,_,(.tmp rfl (.tmp rfl (.tmp rfl ResV.nil))),zQ,⟨_,_,_,rfl,rfl,h19,rfl,rfl⟩⟩
   intro aY N;refine zT<|vK [6,7,8] rfl<|xC<|yU 0 rfl ?_;intro I06 bv hl02;have h20:=SL.of_frozen hl02 bv h10;obtain rfl:=zC N;exact xA ⟨_,_,(.tmp rfl (.tmp rfl (.tmp rfl ResV.nil))),zQ,⟨_,_,_,rfl,rfl,h20,rfl,rfl⟩⟩
 intro r0 I9 hs9 m9 aX le9 ba;subst aX;refine zW<|zH ?_;obtain rfl:=zC aI;exact xA ba
def tE (p:(List Int)) (i:Int):Option (Out Unit (Bool)):=do
 if (decide (i<(p.length:Int))) then
  let x<-idx p i
  let y<-vU x 9999
  if (!y) then
   pure (.ret false)
  else
   tE p (W (i+1))
 else
  pure (.done ())
 partial_fixpoint
theorem zDS (p:(List Int)):∀ (i:Int) (o:Out Unit (Bool)),tE p i=some o->∀ {B}{I0 I:Imm}{Q p1 c},I0.le I->(S4 I p1 p c)->NG Q->NO Q->(∀ (I':Imm) ,o=(.done ())->I0.le I'->T 19 B Q (.exit 0) I' [] [(0,vS p1 p c)])->(∀ r I' ah m',o=(.ret r)->I0.le I'->RS Tryz.prog f148 B (zV  r) I' ah m'->T 19 B Q .ret I' ah m')->J Tryz.prog 19 B (nav (bodyOf f148) [1,0,1,0]) Q I [] [(0,vS p1 p c),(3,vI i)]:=by
 refine tE.partial_correctness p _ fun aH ih i o N B I0 I Q p1 c H h hg ho hx hr=>yR hg ho<|yB<|yG [7] rfl<|zI<|yF N ?_ ?_
 · intro hc N;refine zT<|yA<|yH<|yE<|yC 2 [] [10,11] rfl<|bE N fun x hy N=>xO rfl rfl h hy ?_;intro ad aK aq al;obtain rfl:=al;refine xJ 0 aq [vI x] (vI x) rfl<|bE N fun y aA N=>uM (eK x 9999 _ aA ) ?_;intro I0 le;have ⟨h,H⟩:=m2 le h H;refine yI [] [15] rfl<|zI<|yF N ?_ ?_
   · intro aE N;exact vR [(2,vF)]<|xC<|zW<|zH<|zH<|hr _ _ _ _ (zC N).symm H ⟨_,_,(.tmp rfl ResV.nil),zQ,⟨_,rfl,rfl,rfl⟩⟩
   intro aE N;exact zT<|zP<|zI<|zM<|yI [] [3] rfl<|yP<|nN<|ih (W (i+1)) _ N H h hg ho hx hr
 intro hc N;exact wR<|yL<|hx _  (zC N).symm H
def mB (p:(List Int)):Option (Bool):=do
 match<-tE p 0 with
 | .ret r0=>pure r0
 | .done _ =>
  pure (decide ((p.length:Int)<=4))
theorem zFf:∀ p r,mB p=some r->∀ {I:Imm}{p1 c},(S4 I p1 p c)->RT 148 [vS p1 p c] I [] (zV  r):=by
 intro p r N I p1 c h;unfold mB at N;refine yJ func148 fun B=>vR []<|yA<|yG [3] rfl<|xX<|qP [(0,vS p1 p c),(3,vI 0)] ?_;obtain ⟨o0,aB,aI⟩:=zB N;refine zDS p 0 o0 aB iR h (fun _ _ _ h=>h) (fun _ _ h=>h) ?_ ?_
 · intro aT  heq af;subst o0;refine zS<|vK [2] rfl<|zI<|xB ?_;obtain rfl:=zC aI;exact vE
 intro r0 I9 hs9 m9 aX le9 ba;subst aX;refine zW<|zH ?_;obtain rfl:=zC aI;exact xA ba
end Go.LN
