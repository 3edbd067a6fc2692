/- Helper of the proof (see the last text). -/
import Derived.Test.YtcmjkmdecmabaaaGreatHM2
set_option linter.unusedVariables false
set_option linter.unusedSimpArgs false
namespace Go.LN
open Go.Proofs Go.Proofs.Tryz
set_option maxRecDepth 20000
def jI (kind:Int):Option (Int):=do
 let t4<-(do
   if (kind==1) then
    pure (kind==1)
   else
    let t41<-(do
      if (kind==2) then
       pure (kind==2)
      else
       pure (kind==3)
        : Option Bool)
    pure (id t41)
     : Option Bool)
 if t4 then
  pure (id 0)
 else
  let t8<-(do
    if (kind==4) then
     pure (kind==4)
    else
     let t81<-(do
       if (kind==5) then
        pure (kind==5)
       else
        pure (kind==6)
         : Option Bool)
     pure (id t81)
      : Option Bool)
  if t8 then
   pure (id 2)
  else
   pure (-1)
theorem zDD:∀ kind r,jI kind=some r->∀ {I:Imm} ,RT 227 [vI kind] I [] (yS  r):=by
 intro kind r N I;unfold jI at N;refine yJ func227 fun B=>?_;have H:=iS I;refine wP []<|zX<|yF [3] rfl<|xX<|zZ<|yF [4] rfl<|zG ?_;refine wO N [] (fun t4=>[(3,vI kind),(4,.bool t4)]) (fun o0 aD=>?_) ?_
 · have H:=iS I;refine yC aD ?_ ?_
   · intro hc N;exact zS<|yL<|zU (ct N H)
   intro hc N;refine yF [4] rfl<|zG ?_;refine wO N [] (fun t41=>[(3,vI kind),(4,.bool t41)]) (fun aP aA=>?_) ?_
   · have H:=iS I;refine yC aA ?_ ?_
     · intro aI N;exact zS<|yL<|zU (ct N H)
     intro aI N;exact zJ<|yH [] [4] rfl<|yL<|zU (ct N H)
   intro t41 aW le hMc1;have H:=H.trans le;exact yL<|zU (ct hMc1 H)
 intro t4 I0 af aU;have H:=H.trans af;refine zG<|yC aU ?_ ?_
 · intro aX N;refine yF [2] rfl<|xD<|zV<|zH ?_;obtain rfl:=zC N;exact wI
 intro aX N;refine zZ<|yF [8] rfl<|zG ?_;refine wO N [] (fun t8=>[(8,.bool t8)]) (fun o02 ho02=>?_) ?_
 · have H:=iS I0;refine yC ho02 ?_ ?_
   · intro bK N;exact zS<|yL<|zU (ct N H)
   intro bK N;refine yF [8] rfl<|zG ?_;refine wO N [] (fun t81=>[(8,.bool t81)]) (fun o03 ho03=>?_) ?_
   · have H:=iS I0;refine yC ho03 ?_ ?_
     · intro bO N;exact zS<|yL<|zU (ct N H)
     intro bO N;exact zJ<|yH [] [8] rfl<|yL<|zU (ct N H)
   intro t81 bH aF hMc3;have H:=H.trans aF;exact yL<|zU (ct hMc3 H)
 intro t8 ba aK hMc2;refine zG<|yC hMc2 ?_ ?_
 · intro hc5 N;refine yF [2] rfl<|xD<|zV<|zH ?_;obtain rfl:=zC N;exact wI
 intro hc5 N;refine zS<|zM<|wM [2] rfl<|zG<|yW ?_;obtain rfl:=zC N;exact wI
def pW (a0:zL):Option (Bool):=do
 let t2<-(do
   if (a0.Array.l==([]:List UInt8)) then
    pure ((a0.Subs.length:Int)==0)
   else
    pure false
     : Option Bool)
 pure (id t2)
theorem zA3:∀ a0 r,pW a0=some r->∀ {I:Imm}{p c},(S4 I p a0.Subs c)->RT 252 [vA (cAccess a0 p c)] I [] (zT  r):=by
 intro a0 r N I p c h;unfold pW at N;refine yJ func252 fun B=>?_;have H:=iS I;refine yE<|tO (cAccess a0 p c) ?_;intro b hb;refine wG [] []<|zG<|zZ ?_;refine wO N [] (fun t2=>[(2,.bool t2)]) (fun o0 aD=>?_) ?_
 · have H:=iS I;refine zJ<|yB 4 [0] [6] rfl<|xV [6] aD ?_ ?_
   · intro hc N;exact yH [0] [2] rfl<|xQ zQ<|yL<|zU (ct N H)
   intro hc N;exact wG [] [(2,vF)]<|xQ zQ<|yL<|zU (ct N H)
 intro t2 I0 le aU;refine zG<|yW ?_;obtain rfl:=zC aU;exact wI
def nU (a0:zA):Option (Bool):=do
 let t2<-(do
   if ((a0.Coefs.length:Int)==0) then
    pure (a0.Const==0)
   else
    pure false
     : Option Bool)
 pure (id t2)
theorem zAt:∀ a0 r,nU a0=some r->∀ {I:Imm}{p c},(S4 I p a0.Coefs c)->RT 253 [vA (cAff a0 p c)] I [] (zT  r):=by
 intro a0 r N I p c h;unfold nU at N;refine yJ func253 fun B=>?_;have H:=iS I;refine yE<|tO (cAff a0 p c) ?_;intro b hb;refine wG [] []<|zG<|zZ ?_;refine wO N [] (fun t2=>[(2,.bool t2)]) (fun o0 aD=>?_) ?_
 · have H:=iS I;refine zJ<|yB 5 [0] [7] rfl<|xV [7] aD ?_ ?_
   · intro hc N;exact yH [0] [2] rfl<|xQ zQ<|yL<|zU (ct N H)
   intro hc N;exact wG [] [(2,vF)]<|xQ zQ<|yL<|zU (ct N H)
 intro t2 I0 le aU;refine zG<|yW ?_;obtain rfl:=zC aU;exact wI
def gO (e0:zI) (aa:Int):Option (Bool):=do
 if (e0.Kind==2) then
  let t4<-(do
    if (e0.Num==0) then
     let y<-pW e0.Read
     if y then
      let y1<-uL e0.Index
      if y1 then
       let y2<-pV e0.Index
       pure (decide (y2<=aa))
      else
       pure false
     else
      pure false
    else
     pure false
      : Option Bool)
  pure (id t4)
 else
  if (e0.Kind==3) then
   let t41<-(do
     if (e0.Num==0) then
      let y3<-nU e0.Index
      if y3 then
       let y4<-oK e0.Read aa
       pure (id y4)
      else
       pure false
     else
      pure false
       : Option Bool)
   pure (id t41)
  else
   if (e0.Kind==1) then
    let t42<-(do
      if (decide (e0.Num>=0)) then
       if (decide (e0.Num<=99)) then
        let y5<-nU e0.Index
        if y5 then
         let y6<-pW e0.Read
         pure (id y6)
        else
         pure false
       else
        pure false
      else
       pure false
        : Option Bool)
    pure (id t42)
   else
    let t43<-(do
      if (e0.Num==0) then
       let y7<-nU e0.Index
       if y7 then
        let y8<-pW e0.Read
        pure (id y8)
       else
        pure false
      else
       pure false
        : Option Bool)
    pure (id t43)
theorem zI9:∀ e0 aa r,gO e0 aa=some r->∀ {I:Imm}{p c p1 c1 p2 c2},(S4 I p e0.Index.Coefs c)->(S4 I p1 e0.Read.Subs c1)->(S4 I p2 e0.Kids c2)->RT 228 [vA (cExpr e0 p c p1 c1 p2 c2),vI aa] I [] (zT  r):=by
 intro e0 aa r N I p c p1 c1 p2 c2 h h1 h2;unfold gO at N;refine yJ func228 fun B=>?_;have H:=iS I;refine yE<|tO (cExpr e0 p c p1 c1 p2 c2) ?_;intro b hb;refine wG [] []<|zX<|yE<|yH [0] [7] rfl<|zG<|yC N ?_ ?_
 · intro hc N;refine zZ ?_;refine wO N [] (fun t4=>[(4,.bool t4)]) (fun o0 aD=>?_) ?_
   · have H:=iS I;refine zJ<|yB 4 [0] [11] rfl<|xV [11] aD ?_ ?_
     · intro aI N;refine rQ 6 [0] [(13,vA (cAccess e0.Read p1 c1))]<|bE N fun y hy N=>vQ (zA3 e0.Read _ hy h1) ?_;intro aW le;have ⟨h,H⟩:=m2 le h H;refine yB 9 [] [16] rfl<|xV [16] N ?_ ?_
       · intro aX N;refine rQ 11 [0] [(18,vA (cAff e0.Index p c))]<|bE N fun y1 aB N=>vQ (jP e0.Index _ aB h) ?_;intro ba af;have ⟨h,H⟩:=m2 af h H;refine yB 14 [] [21] rfl<|xV [21] N ?_ ?_
         · intro bK N;refine rQ 16 [0] [(23,vA (cAff e0.Index p c))]<|bE N fun y2 aN N=>fK (zA2 e0.Index _ aN h) ?_;intro bH aF;have H:=H.trans aF;exact yH [] [4] rfl<|xQ zQ<|yL<|zU (ct N H)
         intro bK N;exact wG [] [(4,vF)]<|xQ zQ<|yL<|zU (ct N H)
       intro aX N;exact wG [] [(4,vF)]<|xQ zQ<|yL<|zU (ct N H)
     intro aI N;exact wG [] [(4,vF)]<|xQ zQ<|yL<|zU (ct N H)
   intro t4 I0 aK aU;refine xD<|zH ?_;obtain rfl:=zC aU;exact wI
 intro hc N;refine zS<|zX<|yE<|yH [0] [30] rfl<|zG<|yC N ?_ ?_
 · intro bO N;refine zZ ?_;refine wO N [] (fun t41=>[(4,.bool t41)]) (fun aP aA=>?_) ?_
   · have H:=iS I;refine zJ<|yB 4 [0] [34] rfl<|xV [34] aA ?_ ?_
     · intro hc5 N;refine rQ 6 [0] [(36,vA (cAff e0.Index p c))]<|bE N fun y3 bm N=>vQ (zAt e0.Index _ bm h) ?_;intro bR bk;have ⟨h1,H⟩:=m2 bk h1 H;refine yB 9 [] [39] rfl<|xV [39] N ?_ ?_
       · intro hc6 N;refine rQ 12 [0] [(41,vA (cAccess e0.Read p1 c1)),(42,vI aa)]<|bE N fun y4 bw N=>vQ (zBr e0.Read aa _ bw h1) ?_;intro I06 bz;have H:=H.trans bz;exact yH [] [4] rfl<|xQ zQ<|yL<|zU (ct N H)
       intro hc6 N;exact wG [] [(4,vF)]<|xQ zQ<|yL<|zU (ct N H)
     intro hc5 N;exact wG [] [(4,vF)]<|xQ zQ<|yL<|zU (ct N H)
   intro t41 bL bC hMc1;refine xD<|zH ?_;obtain rfl:=zC hMc1;exact wI
 intro bO N;refine zS<|zX<|yE<|yH [0] [47] rfl<|zG<|yC N ?_ ?_
 · intro hc7 N;refine zZ ?_;refine wO N [] (fun t42=>[(4,.bool t42)]) (fun o02 ho02=>?_) ?_
   · have H:=iS I;refine zJ<|yB 4 [0] [51] rfl<|xV [51] ho02 ?_ ?_
     · intro hc8 N;refine yB 9 [0] [56] rfl<|xV [56] N ?_ ?_
       · intro hc9 N;refine rQ 11 [0] [(58,vA (cAff e0.Index p c))]<|bE N fun y5 bI N=>vQ (zAt e0.Index _ bI h) ?_;intro I08 le7;have ⟨h1,H⟩:=m2 le7 h1 H;refine yB 14 [] [61] rfl<|xV [61] N ?_ ?_
         · intro hc10 N;refine rQ 16 [0] [(63,vA (cAccess e0.Read p1 c1))]<|bE N fun y6 hy6 N=>vQ (zA3 e0.Read _ hy6 h1) ?_;intro I09 le8;have H:=H.trans le8;exact yH [] [4] rfl<|xQ zQ<|yL<|zU (ct N H)
         intro hc10 N;exact wG [] [(4,vF)]<|xQ zQ<|yL<|zU (ct N H)
       intro hc9 N;exact wG [] [(4,vF)]<|xQ zQ<|yL<|zU (ct N H)
     intro hc8 N;exact wG [] [(4,vF)]<|xQ zQ<|yL<|zU (ct N H)
   intro t42 I07 le9 hMc2;refine xD<|zH ?_;obtain rfl:=zC hMc2;exact wI
 intro hc7 N;refine zS<|zG<|zZ ?_;refine wO N [] (fun t43=>[(4,.bool t43)]) (fun o03 ho03=>?_) ?_
 · have H:=iS I;refine zJ<|yB 4 [0] [69] rfl<|xV [69] ho03 ?_ ?_
   · intro hc11 N;refine rQ 6 [0] [(71,vA (cAff e0.Index p c))]<|bE N fun y7 hy7 N=>vQ (zAt e0.Index _ hy7 h) ?_;intro bY le10;have ⟨h1,H⟩:=m2 le10 h1 H;refine yB 9 [] [74] rfl<|xV [74] N ?_ ?_
     · intro hc12 N;refine rQ 11 [0] [(76,vA (cAccess e0.Read p1 c1))]<|bE N fun y8 hy8 N=>vQ (zA3 e0.Read _ hy8 h1) ?_;intro bX le11;have H:=H.trans le11;exact yH [] [4] rfl<|xQ zQ<|yL<|zU (ct N H)
     intro hc12 N;exact wG [] [(4,vF)]<|xQ zQ<|yL<|zU (ct N H)
   intro hc11 N;exact wG [] [(4,vF)]<|xQ zQ<|yL<|zU (ct N H)
 intro t43 bS le12 hMc3;refine zG<|yW ?_;obtain rfl:=zC hMc3;exact wI
mutual
def tY (e0:zI) (aa:Int) (aj:Int):Option (Bool):=do
 let t24<-(do
   if (decide (aj<1)) then
    pure true
   else
    let y<-jI e0.Kind
    if (y != (e0.Kids.length:Int)) then
     pure true
    else
     let y1<-gO e0 aa
     pure (!y1)
     : Option Bool)
 if t24 then
  pure false
 else
  match<-uG (same e0) (same aa) (same aj) (same 0) with
  | .ret r0=>pure r0
  | .done _ =>
   pure true
 partial_fixpoint
def uG (e0:zI) (aa:Int) (aj:Int) (i:Int):Option (Out Unit (Bool)):=do
 if (decide (i<(e0.Kids.length:Int))) then
  let x<-idx e0.Kids i
  let y2<-tY (same x) (same aa) (W (aj - 1))
  if (!y2) then
   pure (.ret false)
  else
   uG (same e0) (same aa) (same aj) (W (i+1))
 else
  pure (.done ())
 partial_fixpoint
end
theorem zGL:(∀ (e0:zI) (aa:Int) (aj:Int) r,tY e0 aa aj=some r->∀ {I:Imm}{p c p1 c1 p2 c2},(S4 I p e0.Index.Coefs c)->(S4 I p1 e0.Read.Subs c1)->(S4 I p2 e0.Kids c2)->RT 187 [vA (cExpr e0 p c p1 c1 p2 c2),vI aa,vI aj] I [] (zT  r))/\(∀ (e0:zI) (aa:Int) (aj:Int) (i:Int) o,uG e0 aa aj i=some o->∀ {B}{I0 I:Imm}{Q p c p1 c1 p2 c2}{b:Nat},I0.le I->(S4 I p e0.Index.Coefs c)->(S4 I p1 e0.Read.Subs c1)->(S4 I p2 e0.Kids c2)->NG Q->NO Q->(∀ (I':Imm) ,o=(.done ())->I0.le I'->T 42 B Q (.exit 0) I' [] [])->(∀ r I' ah m',o=(.ret r)->I0.le I'->RS Tryz.prog f187 B (zT  r) I' ah m'->T 42 B Q .ret I' ah m')->J Tryz.prog 42 B (nav (bodyOf f187) [1,1,0,1,0]) Q I [hB b (cExpr e0 p c p1 c1 p2 c2)] [(1,vI aa),(2,vI aj),(3,vP b 0),(7,vI i)]):=by
  refine tY.mutual_partial_correctness _ _ ?_ ?_
  · intro F_spec_l3Shape_l1 ih_spec_l3Shape_l1 e0 aa aj r N I p c p1 c1 p2 c2 h h1 h2;refine yJ func187 fun B=>?_;have H:=iS I;refine yE<|tO (cExpr e0 p c p1 c1 p2 c2) ?_;intro b hb;refine wG [] []<|zX<|zZ ?_;refine wO N [hB b (cExpr e0 p c p1 c1 p2 c2)] (fun t24=>[(1,vI aa),(2,vI aj),(3,vP b 0),(24,.bool t24)]) (fun o0 aD=>?_) ?_
    · have H:=iS I;cases hc:(decide (aj<1)) with
      | true =>
       have hM0:=sQ hc aD;refine wQ [.p (vI aj) [],.q vY,.q vY,.p undef [],.p undef [],.p undef [],.p undef [],.p undef [],.p undef [],.p undef [],.p vY [],.p vY [],.p undef [],.p undef [],.p undef [],.p undef [],.p vY []] [[],[(0,false)],[(1,false)],[(2,false)],[(2,false),(3,false)],[(2,false),(4,false)],[(2,false)],[(2,false),(6,false)],[(2,false),(7,false)],[(2,false),(5,false),(8,false)],[(2,false),(9,false)],[(10,false)],[(11,false)],[(11,false)],[(11,false),(12,false),(13,false)],[(11,false),(14,false)],[(11,false),(15,false)]] [hB b (cExpr e0 p c p1 c1 p2 c2)] [] [(16,false)] (zY [0]) ?_ ?_
       · refine Op<|Oq ?_<|Oq ?_<|Op<|Op<|Op<|Op<|Op<|Op<|Op<|Op<|Op<|Op<|Op<|Op<|Op<|Op<|On
         · intro I1 hf af;refine yT [8] rfl<|mE 2 [(9,.bool (decide (aj<1)))] ?_;rw [hc];exact xC iR
         intro I1 hf af;exact I_h [(9,vY)]<|mE 3 [(10,vY)]<|xC iR
       intro aW le;refine yT [1,2,3,24] rfl ?_;have H:=H.trans le;exact yD rfl<|yL<|zU (ct hM0 H)
      | false =>
       have hM01:=tH hc aD;obtain ⟨y,hy,N⟩:=zB hM01;cases aI:(y != (e0.Kids.length:Int)) with
       | true =>
        have hM02:=sQ aI N;refine wQ [.p (vI aj) [],.q vF,.q vF,.p (vP b 0) [],.p (vI e0.Kind) [0],.q (vI y),.p (vP b 6) [],.p (vS p2 e0.Kids c2) [0],.p (vI (e0.Kids.length:Int)) [],.q vY,.q vY,.q vY,.p undef [],.p undef [],.p undef [],.p undef [],.p vY []] [[],[(0,false)],[(1,false)],[(2,false)],[(2,false),(3,false)],[(2,false),(4,false)],[(2,false)],[(2,false),(6,false)],[(2,false),(7,false)],[(2,false),(5,false),(8,false)],[(2,false),(9,false)],[(10,false)],[(11,false)],[(11,false)],[(11,false),(12,false),(13,false)],[(11,false),(14,false)],[(11,false),(15,false)]] [hB b (cExpr e0 p c p1 c1 p2 c2)] [] [(16,false)] (zY [0]) ?_ ?_
        · refine Op<|Oq ?_<|Oq ?_<|Op<|Op<|Oq ?_<|Op<|Op<|Op<|Oq ?_<|Oq ?_<|Oq ?_<|Op<|Op<|Op<|Op<|Op<|On
          · intro I1 hf af;refine yT [8] rfl<|mE 2 [(9,.bool (decide (aj<1)))] ?_;rw [hc];exact xC iR
          · intro I1 hf af;exact I_h [(9,vF)]<|mE 3 [(10,vF)]<|xC iR
          · intro I1 hf af;refine yT [10,12] rfl ?_;have H:=iS I1;refine fK (zDD e0.Kind _ hy ) ?_;intro ba af;have H:=H.trans af;exact xC H
          · intro I1 hf af;refine yT [10,13,16] rfl<|mE 10 [(17,.bool (y != (e0.Kids.length:Int)))] ?_;rw [aI];exact xC iR
          · intro I1 hf af;exact yT [10,17] rfl<|mE 11 [(18,vY)]<|xC iR
          intro I1 hf af;exact I_h [(18,vY)]<|mE 12 [(19,vY)]<|xC iR
        intro bH aF;refine yT [1,2,3,24] rfl ?_;have H:=H.trans aF;exact yD rfl<|yL<|zU (ct hM02 H)
       | false =>
        have hM03:=tH aI N;obtain ⟨y1,aB,N⟩:=zB hM03;refine wQ [.p (vI aj) [],.q vF,.q vF,.p (vP b 0) [],.p (vI e0.Kind) [0],.q (vI y),.p (vP b 6) [],.p (vS p2 e0.Kids c2) [0],.p (vI (e0.Kids.length:Int)) [],.q vF,.q vF,.q vF,.p (vA (cExpr e0 p c p1 c1 p2 c2)) [0],.p (vI aa) [],.q (.bool y1),.p (.bool (!y1)) [],.p (.bool (!y1)) []] [[],[(0,false)],[(1,false)],[(2,false)],[(2,false),(3,false)],[(2,false),(4,false)],[(2,false)],[(2,false),(6,false)],[(2,false),(7,false)],[(2,false),(5,false),(8,false)],[(2,false),(9,false)],[(10,false)],[(11,false)],[(11,false)],[(11,false),(12,false),(13,false)],[(11,false),(14,false)],[(11,false),(15,false)]] [hB b (cExpr e0 p c p1 c1 p2 c2)] [] [(16,false)] (zY [0]) ?_ ?_
        · refine Op<|Oq ?_<|Oq ?_<|Op<|Op<|Oq ?_<|Op<|Op<|Op<|Oq ?_<|Oq ?_<|Oq ?_<|Op<|Op<|Oq ?_<|Op<|Op<|On
          · intro I1 hf af;refine yT [8] rfl<|mE 2 [(9,.bool (decide (aj<1)))] ?_;rw [hc];exact xC iR
          · intro I1 hf af;exact I_h [(9,vF)]<|mE 3 [(10,vF)]<|xC iR
          · intro I1 hf af;refine yT [10,12] rfl ?_;have H:=iS I1;refine fK (zDD e0.Kind _ hy ) ?_;intro ba af;have H:=H.trans af;exact xC H
          · intro I1 hf af;refine yT [10,13,16] rfl<|mE 10 [(17,.bool (y != (e0.Kids.length:Int)))] ?_;rw [aI];exact xC iR
          · intro I1 hf af;exact yT [10,17] rfl<|mE 11 [(18,vF)]<|xC iR
          · intro I1 hf af;exact I_h [(18,vF)]<|mE 12 [(19,vF)]<|xC iR
          intro I1 hf af;refine yT [19,20,21] rfl ?_;have H:=iS I1;have ⟨h,h1,h2⟩:=m3 af h h1 h2;refine vQ (zI9 e0 aa _ aB h h1 h2) ?_;intro bL aK;have H:=H.trans aK;exact xC H
        intro bR bk;refine yT [1,2,3,24] rfl ?_;have H:=H.trans bk;exact yD rfl<|yL<|zU (ct N H)
    intro t24 I0 bz aU;have ⟨h,h1,h2⟩:=m3 bz h h1 h2;refine zG<|yC aU ?_ ?_
    · intro aX N;refine wP [(6,vF)]<|xD<|zH ?_;obtain rfl:=zC N;exact wI
    intro aX N;refine zS<|zX<|yF [7] rfl<|xX<|rU [(1,vI aa),(2,vI aj),(3,vP b 0),(7,vI 0)] ?_;obtain ⟨aP,aA,aM⟩:=zB N;refine ih_spec_l3Shape_l1 e0 aa aj 0 aP aA iR h h1 h2 (fun _ _ _ h=>h) (fun _ _ h=>h) ?_ ?_
    · intro I07  heq1 le7;subst aP;refine zR<|zEv [(6,vY)]<|zG<|yW ?_;obtain rfl:=zC aM;exact wI
    intro r0 I9 hs9 m9 aZ le9 bb;subst aZ;refine zV<|zH ?_;obtain rfl:=zC aM;exact yZ bb
  intro F_spec_l3Shape F_spec_l3Shape_l1 ih_spec_l3Shape ih_spec_l3Shape_l1 e0 aa aj i o N B I0 I Q p c p1 c1 p2 c2 b H h h1 h2 hg ho hx hr;refine yM hg ho<|zZ<|yE<|yH [0] [29] rfl<|zG<|yC N ?_ ?_
  · intro bK N;refine zS<|zX<|yG<|yE<|yB 3 [0] [33,34] rfl<|bE N fun x aN N=>xK rfl rfl h2 aN ?_;intro ad aQ ar ap;obtain ⟨p3,c3,p4,c4,p5,c5,rfl,h5,h6,h7⟩:=tS ap;refine xB 0 ar (cExpr x p3 c3 p4 c4 p5 c5) (vA (cExpr x p3 c3 p4 c4 p5 c5)) rfl<|yB 8 [] [37,39] rfl<|bE N fun y2 bm N=>xL (ih_spec_l3Shape x aa (W (aj - 1)) _ bm h5 h6 h7) ?_;rintro I06 ay v2 k2 bC - ⟨v05,rfl,rfl,rfl⟩ -;have ⟨h,h1,h2,H⟩:=m4 bC h h1 h2 H;refine yH [] [41] rfl<|zG<|yC N ?_ ?_
    · intro bO N;exact wP [(6,vF)]<|xD<|zV<|zH<|zH<|hr _ _ _ _ (zC N).symm H ⟨_,_,(.tmp rfl ResV.nil),zQ,⟨_,rfl,rfl,rfl⟩⟩
    intro bO N;exact zS<|zM<|zG<|zJ<|yH [] [7] rfl<|yK<|oY<|ih_spec_l3Shape_l1 e0 aa aj (W (i+1)) _ N H h h1 h2 hg ho hx hr
  intro bK N;exact wJ<|xQ zQ<|yL<|hx _  (zC N).symm H
theorem zGv:∀ e0 aa aj r,tY e0 aa aj=some r->∀ {I:Imm}{p c p1 c1 p2 c2},(S4 I p e0.Index.Coefs c)->(S4 I p1 e0.Read.Subs c1)->(S4 I p2 e0.Kids c2)->RT 187 [vA (cExpr e0 p c p1 c1 p2 c2),vI aa,vI aj] I [] (zT  r):=zGL.1
mutual
def sV (e0:zI) (aj:Int):Option (Int):=do
 let n01<-uH (same e0) (same aj) (same 1) (same 0)
 pure (id n01)
 partial_fixpoint
def uH (e0:zI) (aj:Int) (n0:Int) (i:Int):Option (Int):=do
 let t15<-(do
   if (decide (i<(e0.Kids.length:Int))) then
    pure (decide (aj>0))
   else
    pure false
     : Option Bool)
 if t15 then
  let x<-idx e0.Kids i
  let y<-sV (same x) (W (aj - 1))
  uH (same e0) (same aj) (W (n0+y)) (W (i+1))
 else
  pure (id n0)
 partial_fixpoint
end
theorem zGM:(∀ (e0:zI) (aj:Int) r,sV e0 aj=some r->∀ {I:Imm}{p c p1 c1 p2 c2},(S4 I p e0.Index.Coefs c)->(S4 I p1 e0.Read.Subs c1)->(S4 I p2 e0.Kids c2)->RT 188 [vA (cExpr e0 p c p1 c1 p2 c2),vI aj] I [] (yS  r))/\(∀ (e0:zI) (aj:Int) (n0:Int) (i:Int) o,uH e0 aj n0 i=some o->∀ {B}{I0 I:Imm}{Q p c p1 c1 p2 c2}{b:Nat},I0.le I->(S4 I p e0.Index.Coefs c)->(S4 I p1 e0.Read.Subs c1)->(S4 I p2 e0.Kids c2)->NG Q->NO Q->(∀ (I':Imm) (n01:Int),o=n01->I0.le I'->T 29 B Q (.exit 0) I' [] [(5,vI n01)])->J Tryz.prog 29 B (nav (bodyOf f188) [1,1,0,1,0]) Q I [hB b (cExpr e0 p c p1 c1 p2 c2)] [(1,vI aj),(2,vP b 0),(5,vI n0),(6,vI i)]):=by
  refine sV.mutual_partial_correctness _ _ ?_ ?_
  · intro F_spec_l3Count_l1 ih_spec_l3Count_l1 e0 aj r N I p c p1 c1 p2 c2 h h1 h2;refine yJ func188 fun B=>yE<|tO (cExpr e0 p c p1 c1 p2 c2) ?_;intro b hb;refine wG [] []<|wM [5] rfl<|zX<|yF [6] rfl<|xX<|rU [(1,vI aj),(2,vP b 0),(5,vI 1),(6,vI 0)] ?_;obtain ⟨aP,aA,aM⟩:=zB N;refine ih_spec_l3Count_l1 e0 aj 1 0 aP aA iR h h1 h2 (fun _ _ _ h=>h) (fun _ _ h=>h) ?_;intro ba n01 heq1 aF;subst aP;refine zR<|wM [4] rfl<|zG<|yW ?_;obtain rfl:=zC aM;exact wI
  intro F_spec_l3Count F_spec_l3Count_l1 ih_spec_l3Count ih_spec_l3Count_l1 e0 aj n0 i o N B I0 I Q p c p1 c1 p2 c2 b H h h1 h2 hg ho hx;refine yM hg ho<|zZ<|zZ ?_;refine wO N [hB b (cExpr e0 p c p1 c1 p2 c2)] (fun t15=>[(1,vI aj),(2,vP b 0),(5,vI n0),(6,vI i),(15,.bool t15)]) (fun o0 aD=>?_) ?_
  · have H:=iS I;refine zJ<|yB 6 [0] [12] rfl<|xV [12] aD ?_ ?_
    · intro hc N;exact yH [] [15] rfl<|yL<|zU (ct N H)
    intro hc N;exact wG [] [(15,vF)]<|yL<|zU (ct N H)
  intro t15 I0 le aU;have ⟨h,h1,h2,H⟩:=m4 le h h1 h2 H;refine zG<|yC aU ?_ ?_
  · intro aI N;refine zS<|zX<|yG<|zJ<|yB 4 [0] [18,20,21] rfl<|bE N fun x hy N=>xK rfl rfl h2 hy ?_;intro ad aQ ar ap;obtain ⟨p3,c3,p4,c4,p5,c5,rfl,h3,h4,h5⟩:=tS ap;refine xB 0 ar (cExpr x p3 c3 p4 c4 p5 c5) (vA (cExpr x p3 c3 p4 c4 p5 c5)) rfl<|yB 8 [] [25] rfl<|bE N fun y aB N=>xL (ih_spec_l3Count x (W (aj - 1)) _ aB h3 h4 h5) ?_;rintro aW ay v2 k2 af - ⟨v03,rfl,rfl,rfl⟩ -;have ⟨h,h1,h2,H⟩:=m4 af h h1 h2 H;exact yH [] [5] rfl<|zM<|zG<|zJ<|yH [] [6] rfl<|yK<|oY<|ih_spec_l3Count_l1 e0 aj (W (n0+y)) (W (i+1)) _ N H h h1 h2 hg ho hx
  intro aI N;exact wJ<|xQ zQ<|yL<|hx _ _ (zC N).symm H
theorem zGw:∀ e0 aj r,sV e0 aj=some r->∀ {I:Imm}{p c p1 c1 p2 c2},(S4 I p e0.Index.Coefs c)->(S4 I p1 e0.Read.Subs c1)->(S4 I p2 e0.Kids c2)->RT 188 [vA (cExpr e0 p c p1 c1 p2 c2),vI aj] I [] (yS  r):=zGM.1
def rJ (s:zP) (aa:Int):Option (Bool):=do
 let t24<-(do
   if (decide (aa<0)) then
    pure true
   else
    if (decide (aa>4)) then
     pure true
    else
     let y<-oK s.Write aa
     if (!y) then
      pure true
     else
      let y1<-tY s.Value aa 5
      pure (!y1)
     : Option Bool)
 if t24 then
  pure false
 else
  let y2<-sV s.Value 5
  pure (decide (y2<=12))
theorem dX:∀ s aa r,rJ s aa=some r->∀ {I:Imm}{p c p1 c1 p2 c2 p3 c3},(S4 I p s.Write.Subs c)->(S4 I p1 s.Value.Index.Coefs c1)->(S4 I p2 s.Value.Read.Subs c2)->(S4 I p3 s.Value.Kids c3)->RT 146 [vA (cStmt s p c p1 c1 p2 c2 p3 c3),vI aa] I [] (zT  r):=by
 intro s aa r N I p c p1 c1 p2 c2 p3 c3 h h1 h2 h3;unfold rJ at N;refine yJ func146 fun B=>?_;have H:=iS I;refine yE<|tO (cStmt s p c p1 c1 p2 c2 p3 c3) ?_;intro b hb;refine wG [] []<|zX<|zZ ?_;refine wO N [hB b (cStmt s p c p1 c1 p2 c2 p3 c3)] (fun t24=>[(2,vP b 0),(24,.bool t24)]) (fun o0 aD=>?_) ?_
 · have H:=iS I;refine zJ<|yB 3 [] [7] rfl<|xV [7] aD ?_ ?_
   · intro hc N;exact wG [] [(24,vY)]<|yL<|zU (ct N H)
   intro hc N;refine yB 7 [] [11] rfl<|xV [11] N ?_ ?_
   · intro aI N;exact wG [] [(24,vY)]<|yL<|zU (ct N H)
   intro aI N;refine rQ 10 [0] [(13,vA (cAccess s.Write p c)),(14,vI aa)]<|bE N fun y hy N=>vQ (zBr s.Write aa _ hy h) ?_;intro aW le;have ⟨h1,h2,h3,H⟩:=m4 le h1 h2 h3 H;refine yB 14 [] [18] rfl<|xV [18] N ?_ ?_
   · intro aX N;exact wG [] [(24,vY)]<|yL<|zU (ct N H)
   intro aX N;refine rQ 17 [0] [(20,vA (cExpr s.Value p1 c1 p2 c2 p3 c3)),(21,vI aa)]<|bE N fun y1 aB N=>vQ (zGv s.Value aa 5 _ aB h1 h2 h3) ?_;intro ba af;have H:=H.trans af;exact yH [] [24] rfl<|yL<|zU (ct N H)
 intro t24 I0 aF aU;have ⟨h1,h2,h3⟩:=m3 aF h1 h2 h3;refine zG<|yC aU ?_ ?_
 · intro bK N;refine wP [(4,vF)]<|xD<|zH ?_;obtain rfl:=zC N;exact wI
 intro bK N;refine zS<|yX<|rQ 2 [0] [(26,vA (cExpr s.Value p1 c1 p2 c2 p3 c3))]<|bE N fun y2 aN N=>fK (zGw s.Value 5 _ aN h1 h2 h3) fun bH aK=>wG [] [(4,.bool (decide (y2<=12)))]<|zG<|yW ?_;obtain rfl:=zC N;exact wI
def sW (list:(List zA)) (out:Str) (i:Int):Option (Str):=do
 if (decide (i<(list.length:Int))) then
  let au<-(do
    if (decide (i>0)) then
     let s<-cat out (⟨[44]⟩:Str)
     pure (id s)
    else
     pure (id out)
      : Option Str)
  let x<-idx list i
  let y<-jH x
  let s1<-cat au y
  sW list s1 (W (i+1))
 else
  pure (id out)
 partial_fixpoint
theorem zCl (list:(List zA)):∀ (out:Str) (i:Int) (o:Str),sW list out i=some o->∀ {B}{I0 I:Imm}{Q p c},I0.le I->(S4 I p list c)->NG Q->NO Q->(∀ (I':Imm) (al:Str),o=al->I0.le I'->T 23 B Q (.exit 0) I' [] [(3,vT al.l)])->J Tryz.prog 23 B (nav (bodyOf f242) [1,1,0,1,0]) Q I [] [(0,vS p list c),(3,vT out.l),(4,vI i)]:=by
 refine sW.partial_correctness list _ fun aJ ih out i o N B I0 I Q p c H h hg ho hx=>yM hg ho<|zZ<|yF [8] rfl<|zG<|yC N ?_ ?_
 · intro hc N;refine zS<|zX<|yG<|zZ<|yF [12] rfl<|zG ?_;refine wO N [] (fun au=>[(0,vS p list c),(3,vT au.l),(4,vI i)]) (fun o0 aD=>?_) ?_
   · have H:=iS I;refine yC aD ?_ ?_
     · intro aI N;exact zJ<|yB 1 [] [13] rfl<|bE N fun s hy N=>gH rfl hy<|yH [] [3] rfl<|yL<|zU (ct N H)
     intro aI N;exact zS<|yL<|zU (ct N H)
   intro au I0 le aU;have ⟨h,H⟩:=m2 le h H;refine zG<|zJ<|yB 3 [] [15,16,17] rfl ?_;obtain ⟨x,aB,N⟩:=zB aU;refine xK rfl rfl h aB ?_;intro ad aQ ar ap;obtain ⟨p1,c1,rfl,h1⟩:=yQ ap;refine xB 0 ar (cAff x p1 c1) (vA (cAff x p1 c1)) rfl<|bE N fun y aN N=>xL (zAs x _ aN h1) ?_;rintro aW ay v2 k2 af - ⟨v01,rfl,rfl,rfl⟩ -;have ⟨h,H⟩:=m2 af h H;obtain ⟨s1,bm,N⟩:=zB N;exact gH rfl bm<|yH [] [3] rfl<|zM<|zG<|zJ<|yH [] [4] rfl<|yK<|oY<|ih s1 (W (i+1)) _ N H h hg ho hx
 intro hc N;exact wJ<|yL<|hx _ _ (zC N).symm H
def pX (list:(List zA)):Option (Str):=do
 let al<-sW list (⟨[]⟩:Str) 0
 pure (id al)
theorem dM:∀ list r,pX list=some r->∀ {I:Imm}{p c},(S4 I p list c)->RT 242 [vS p list c] I [] (sA  r):=by
 intro list r N I p c h;unfold pX at N;refine yJ func242 fun B=>wP []<|wM [3] rfl<|zX<|yF [4] rfl<|xX<|rU [(0,vS p list c),(3,vT ([])),(4,vI 0)] ?_;obtain ⟨aP,aA,aM⟩:=zB N;refine zCl list (⟨[]⟩:Str) 0 aP aA iR h (fun _ _ _ h=>h) (fun _ _ h=>h) ?_;intro ba al heq1 aF;subst aP;refine zR<|wM [2] rfl<|zG<|yW ?_;obtain rfl:=zC aM;exact wI
def rV (a0:zL):Option (Str):=do
 let s<-cat a0.Array (⟨[91]⟩:Str)
 let y<-pX a0.Subs
 let s1<-cat s y
 let s2<-cat s1 (⟨[93]⟩:Str)
 pure (id s2)
theorem fU:∀ a0 r,rV a0=some r->∀ {I:Imm}{p c},(S4 I p a0.Subs c)->RT 216 [vA (cAccess a0 p c)] I [] (sA  r):=by
 intro a0 r N I p c h;unfold rV at N;refine yJ func216 fun B=>?_;have H:=iS I;refine yE<|tO (cAccess a0 p c) ?_;intro b hb;refine wG [] []<|zG<|zZ ?_;obtain ⟨s,hy,N⟩:=zB N;obtain ⟨y,aB,N⟩:=zB N;obtain ⟨s1,aN,N⟩:=zB N;obtain ⟨s2,bm,N⟩:=zB N;refine wQ [.p (vP b 0) [],.p (vT a0.Array.l) [0],.q (vT s.l),.p (vP b 1) [],.p (vS p a0.Subs c) [0],.q (vT y.l),.q (vT s1.l),.q (vT s2.l)] [[],[(0,false)],[(1,false)],[],[(3,false)],[(4,false)],[(2,false),(5,false)],[(6,false)]] [hB b (cAccess a0 p c)] [] [(7,false)] (zY [0]) ?_ ?_
 · refine Op<|Op<|Oq ?_<|Op<|Op<|Oq ?_<|Oq ?_<|Oq ?_<|On
   · intro I1 hf af;exact yT [4] rfl<|gH rfl hy<|xC iR
   · intro I1 hf af;refine yT [7] rfl ?_;have H:=iS I1;have h:=h.mono af;refine xL (dM a0.Subs _ aB h) ?_;rintro I0 ay v2 k2 le - ⟨v0,rfl,rfl,rfl⟩ -;have H:=H.trans le;exact xC H
   · intro I1 hf af;exact yT [5,8] rfl<|gH rfl aN<|xC iR
   intro I1 hf af;exact yT [9] rfl<|gH rfl bm<|xC iR
 intro aW af;refine yT [10] rfl ?_;refine yH [] [2] rfl<|zG<|yW ?_;obtain rfl:=zC N;exact wI
def qQ (e0:zI):Option (Str):=do
 if (e0.Kind==1) then
  let y<-qP e0.Num
  pure (id y)
 else
  if (e0.Kind==2) then
   let y1<-jH e0.Index
   let s<-cat (⟨[123]⟩:Str) y1
   let s1<-cat s (⟨[125]⟩:Str)
   pure (id s1)
  else
   if (e0.Kind==3) then
    let y2<-rV e0.Read
    pure (id y2)
   else
    let x<-idx e0.Kids 0
    let y3<-qQ (same x)
    let s2<-cat (⟨[40]⟩:Str) y3
    let s3<-sslc (⟨[43,45,42]⟩:Str) (W (e0.Kind - 4)) (W ((W (e0.Kind - 4))+1))
    let s4<-cat s2 s3
    let x1<-idx e0.Kids 1
    let y4<-qQ (same x1)
    let s5<-cat s4 y4
    let s6<-cat s5 (⟨[41]⟩:Str)
    pure (id s6)
 partial_fixpoint
theorem zDE:∀ e0 r,qQ e0=some r->∀ {I:Imm}{p c p1 c1 p2 c2},(S4 I p e0.Index.Coefs c)->(S4 I p1 e0.Read.Subs c1)->(S4 I p2 e0.Kids c2)->RT 217 [vA (cExpr e0 p c p1 c1 p2 c2)] I [] (sA  r):=by
 refine qQ.partial_correctness _ fun F_spec_l3Text ih_spec_l3Text e0 r N I p c p1 c1 p2 c2 h h1 h2=>yJ func217 fun B=>?_;have H:=iS I;refine yE<|tO (cExpr e0 p c p1 c1 p2 c2) ?_;intro b hb;refine wG [] []<|zX<|yE<|yH [0] [4] rfl<|xX<|yF [5] rfl<|zG<|yC N ?_ ?_
 · intro hc N;refine yE<|yB 2 [0] [8] rfl<|bE N fun y hy N=>xL (dV e0.Num _ hy ) ?_;rintro I0 ay v2 k2 le - ⟨v0,rfl,rfl,rfl⟩ -;refine yH [] [2] rfl<|xD<|zV<|zH ?_;obtain rfl:=zC N;exact wI
 intro hc N;refine yF [10] rfl<|zG<|yC N ?_ ?_
 · intro aI N;refine yE<|rQ 2 [0] [(13,vA (cAff e0.Index p c))]<|bE N fun y1 aB N=>xL (zAs e0.Index _ aB h) ?_;rintro aW ay v2 k2 af - ⟨v01,rfl,rfl,rfl⟩ -;obtain ⟨s,aN,N⟩:=zB N;refine gH rfl aN<|bE N fun s1 bm N=>gH rfl bm<|yH [] [2] rfl<|xD<|zV<|zH ?_;obtain rfl:=zC N;exact wI
 intro aI N;refine yF [17] rfl<|zG<|yC N ?_ ?_
 · intro aX N;refine yE<|rQ 2 [0] [(20,vA (cAccess e0.Read p1 c1))]<|bE N fun y2 bw N=>xL (fU e0.Read _ bw h1) ?_;rintro ba ay v2 k2 aF - ⟨v02,rfl,rfl,rfl⟩ -;refine yH [] [2] rfl<|xD<|zV<|zH ?_;obtain rfl:=zC N;exact wI
 intro aX N;refine zS<|zM<|zG<|zZ ?_;obtain ⟨x,bI,N⟩:=zB N;obtain ⟨y3,hy6,N⟩:=zB N;obtain ⟨s2,hy7,N⟩:=zB N;obtain ⟨s3,hy8,N⟩:=zB N;obtain ⟨s4,hy9,N⟩:=zB N;obtain ⟨x1,hy10,N⟩:=zB N;obtain ⟨y4,hy11,N⟩:=zB N;obtain ⟨s5,hy12,N⟩:=zB N;obtain ⟨s6,hy13,N⟩:=zB N;refine wQ [.p (vP b 6) [],.p (vS p2 e0.Kids c2) [0],.x (ePExpr x),.x (eVExpr x),.q (vT y3.l),.q (vT s2.l),.p (vP b 0) [],.p (vI e0.Kind) [0],.p (vI (W (e0.Kind - 4))) [],.p (vP b 0) [],.p (vI e0.Kind) [0],.p (vI (W (e0.Kind - 4))) [],.p (vI (W ((W (e0.Kind - 4))+1))) [],.q (vT s3.l),.q (vT s4.l),.p (vP b 6) [],.p (vS p2 e0.Kids c2) [0],.x (ePExpr x1),.x (eVExpr x1),.q (vT y4.l),.q (vT s5.l),.q (vT s6.l)] [[],[(0,false)],[(1,false)],[(2,false)],[(3,false)],[(4,false)],[],[(6,false)],[(7,false)],[],[(9,false)],[(10,false)],[(11,false)],[(8,false),(12,false)],[(5,false),(13,false)],[],[(15,false)],[(16,false)],[(17,false)],[(18,false)],[(14,false),(19,false)],[(20,false)]] [hB b (cExpr e0 p c p1 c1 p2 c2)] [] [(21,false)] (zY [0]) ?_ ?_
 · refine Op<|Op<|Ox ?_<|Ox ?_<|Oq ?_<|Oq ?_<|Op<|Op<|Op<|Op<|Op<|Op<|Op<|Oq ?_<|Oq ?_<|Op<|Op<|Ox ?_<|Ox ?_<|Oq ?_<|Oq ?_<|Oq ?_<|On
   · intro I1 hf af;refine yT [23] rfl ?_;have h2:=h2.mono af;refine xK rfl rfl h2 bI ?_;intro ad aQ ar ap;obtain ⟨p3,c3,p4,c4,p5,c5,rfl,h6,h7,h8⟩:=tS ap;exact yN [] iR ⟨_,_,_,_,_,_,_,rfl,rfl,ar,h6,h7,h8⟩
   · rintro I1 hf af _ _ ⟨ad,p3,c3,p4,c4,p5,c5,rfl,rfl,ar,h6,h7,h8⟩;exact yT [24] rfl<|xB 0 ar (cExpr x p3 c3 p4 c4 p5 c5) (vA (cExpr x p3 c3 p4 c4 p5 c5)) rfl<|yN [] iR ⟨_,_,_,_,_,_,rfl,rfl,h6,h7,h8⟩
   · rintro I1 hf af _ _ ⟨p31,c31,p41,c41,p51,c51,rfl,rfl,h61,h71,h81⟩;refine yT [25] rfl ?_;have H:=iS I1;refine xL (ih_spec_l3Text x _ hy6 h61 h71 h81) ?_;rintro bH ay v2 k2 aK - ⟨v06,rfl,rfl,rfl⟩ -;have H:=H.trans aK;exact xC H
   · intro I1 hf af;exact yT [26] rfl<|gH rfl hy7<|xC iR
   · intro I1 hf af;exact yT [30,34] rfl<|zI8 rfl hy8<|xC iR
   · intro I1 hf af;exact yT [27,35] rfl<|gH rfl hy9<|xC iR
   · intro I1 hf af;refine yT [38] rfl ?_;have h2:=h2.mono af;refine xK rfl rfl h2 hy10 ?_;intro ad1 bv av ax;obtain ⟨p6,c6,p7,c7,p8,c8,rfl,h10,h11,h12⟩:=tS ax;exact yN [] iR ⟨_,_,_,_,_,_,_,rfl,rfl,av,h10,h11,h12⟩
   · rintro I1 hf af _ _ ⟨ad1,p6,c6,p7,c7,p8,c8,rfl,rfl,av,h10,h11,h12⟩;exact yT [39] rfl<|xB 0 av (cExpr x1 p6 c6 p7 c7 p8 c8) (vA (cExpr x1 p6 c6 p7 c7 p8 c8)) rfl<|yN [] iR ⟨_,_,_,_,_,_,rfl,rfl,h10,h11,h12⟩
   · rintro I1 hf af _ _ ⟨p61,c61,p71,c71,p81,c81,rfl,rfl,h101,h111,h121⟩;refine yT [40] rfl ?_;have H:=iS I1;refine xL (ih_spec_l3Text x1 _ hy11 h101 h111 h121) ?_;rintro bL ay v2 k2 bk - ⟨v010,rfl,rfl,rfl⟩ -;have H:=H.trans bk;exact xC H
   · intro I1 hf af;exact yT [36,41] rfl<|gH rfl hy12<|xC iR
   intro I1 hf af;exact yT [42] rfl<|gH rfl hy13<|xC iR
 intro bR bz;refine yT [43] rfl ?_;refine yH [] [2] rfl<|zG<|yW ?_;obtain rfl:=zC N;exact wI
def kY (s:zP):Option (Str):=do
 let y<-rJ s 4
 if (!y) then
  pure (⟨[]⟩:Str)
 else
  let y1<-rV s.Write
  let s1<-cat y1 (⟨[61]⟩:Str)
  let y2<-qQ s.Value
  let s2<-cat s1 y2
  pure (id s2)
theorem zEW:∀ s r,kY s=some r->∀ {I:Imm}{p c p1 c1 p2 c2 p3 c3},(S4 I p s.Write.Subs c)->(S4 I p1 s.Value.Index.Coefs c1)->(S4 I p2 s.Value.Read.Subs c2)->(S4 I p3 s.Value.Kids c3)->RT 241 [vA (cStmt s p c p1 c1 p2 c2 p3 c3)] I [] (sA  r):=by
 intro s r N I p c p1 c1 p2 c2 p3 c3 h h1 h2 h3;unfold kY at N;refine yJ func241 fun B=>?_;have H:=iS I;refine yE<|tO (cStmt s p c p1 c1 p2 c2 p3 c3) ?_;intro b hb;refine wG [] []<|zX<|yE<|rQ 1 [0] [(3,vA (cStmt s p c p1 c1 p2 c2 p3 c3))]<|bE N fun y hy N=>vQ (dX s 4 _ hy h h1 h2 h3) ?_;intro I0 le;have ⟨h,h1,h2,h3,H⟩:=m5 le h h1 h2 h3 H;refine yH [] [5] rfl<|zG<|yC N ?_ ?_
 · intro hc N;refine yF [2] rfl<|xD<|zH ?_;obtain rfl:=zC N;exact wI
 intro hc N;refine zS<|zG<|zZ ?_;obtain ⟨y1,aB,N⟩:=zB N;obtain ⟨s1,aN,N⟩:=zB N;obtain ⟨y2,bm,N⟩:=zB N;obtain ⟨s2,bw,N⟩:=zB N;refine wQ [.p (vP b 0) [],.p (vA (cAccess s.Write p c)) [0],.q (vT y1.l),.q (vT s1.l),.p (vP b 2) [],.p (vA (cExpr s.Value p1 c1 p2 c2 p3 c3)) [0],.q (vT y2.l),.q (vT s2.l)] [[],[(0,false)],[(1,false)],[(2,false)],[],[(4,false)],[(5,false)],[(3,false),(6,false)]] [hB b (cStmt s p c p1 c1 p2 c2 p3 c3)] [] [(7,false)] (zY [0]) ?_ ?_
 · refine Op<|Op<|Oq ?_<|Oq ?_<|Op<|Op<|Oq ?_<|Oq ?_<|On
   · intro I1 hf af;refine yT [7] rfl ?_;have H:=iS I1;have h:=h.mono af;refine xL (fU s.Write _ aB h) ?_;rintro aW ay v2 k2 af - ⟨v01,rfl,rfl,rfl⟩ -;have H:=H.trans af;exact xC H
   · intro I1 hf af;exact yT [8] rfl<|gH rfl aN<|xC iR
   · intro I1 hf af;refine yT [11] rfl ?_;have H:=iS I1;have ⟨h1,h2,h3⟩:=m3 af h1 h2 h3;refine xL (zDE s.Value _ bm h1 h2 h3) ?_;rintro ba ay v2 k2 aF - ⟨v02,rfl,rfl,rfl⟩ -;have H:=H.trans aF;exact xC H
   intro I1 hf af;exact yT [9,12] rfl<|gH rfl bw<|xC iR
 intro bH aK;refine yT [13] rfl ?_;refine yH [] [2] rfl<|zG<|yW ?_;obtain rfl:=zC N;exact wI
def zDn (r:zP×Bool):KT:=fun kk I' ah v=>
  ∃ v0 v1,ah=[]/\v=tupV [v0,v1]/\(∃ cs,v0=.agg ⟨cs⟩/\Rp.rep I' cs r.1)/\v1=.bool r.2
def mZ (bu:Str):Option (zP×Bool):=do
 if (decide ((bu.l.length:Int)<4)) then
  pure ((zP.mk (zL.mk (⟨[]⟩:Str) ([]:List zA)) (zI.mk 0 0 (zA.mk ([]:List Int) 0) (zL.mk (⟨[]⟩:Str) ([]:List zA)) ([]:List zI))),false)
 else
  let (y1,y2)<-pI bu 0
  let t25<-(do
    if (decide (y2<0)) then
     pure true
    else
     pure (decide (y2>=(bu.l.length:Int)))
      : Option Bool)
  if t25 then
   pure ((zP.mk (zL.mk (⟨[]⟩:Str) ([]:List zA)) (zI.mk 0 0 (zA.mk ([]:List Int) 0) (zL.mk (⟨[]⟩:Str) ([]:List zA)) ([]:List zI))),false)
  else
   let (y4,y5)<-pU bu (W (y2+1)) 5
   let y6<-kY (zP.mk y1 y4)
   if (!(y6.l==bu.l)) then
    pure ((zP.mk (zL.mk (⟨[]⟩:Str) ([]:List zA)) (zI.mk 0 0 (zA.mk ([]:List Int) 0) (zL.mk (⟨[]⟩:Str) ([]:List zA)) ([]:List zI))),false)
   else
    pure ((zP.mk y1 y4),true)
theorem zBT:∀ bu r,mZ bu=some r->∀ {I:Imm} ,RT 213 [vT bu.l] I [] (zDn  r):=by
 intro bu r N I;unfold mZ at N;refine yJ func213 fun B=>?_;have H:=iS I;refine yE<|wS [vT ([]),z0,vI 0,vI 0,z0,vI 0,vT ([]),z0,z0] ?_;intro b hb;refine wG [] []<|zX<|yF [11] rfl<|zG<|yC N ?_ ?_
 · intro hc N;refine yE<|yB 1 [] [12] rfl<|xJ 0 [vT ([]),z0,vI 0,vI 0,z0,vI 0,vT ([]),z0,z0] rfl<|wG [] [(3,vF)]<|xD<|zH ?_;obtain rfl:=zC N;exact yZ ⟨_,_,(.cell 0 rfl rfl (by kernel_rfl) (.tmp rfl ResV.nil)),zQ,⟨_,_,rfl,rfl,⟨_,rfl,(vC ⟨_,_,_,_,rfl,(SL.nil _),(SL.nil _),(SL.nil _),(SL.nil _)⟩)⟩,rfl⟩⟩
 intro hc N;refine zS<|yX<|yB 1 [] [14] rfl ?_;obtain ⟨⟨y1,y2⟩,hy,N⟩:=zB N;refine xL (zAF bu 0 _ hy ) ?_;rintro I0 ay v2 k2 le - ⟨v0,v01,rfl,rfl,⟨cs,rfl,h⟩,rfl⟩ -;have H:=H.trans le;obtain ⟨p,c,rfl,h2⟩:=nY h;refine yB 5 [] [16,17] rfl<|wS [vT ([]),z0] ?_;intro b1 hb1;refine xJ 0 (cAccess y1 p c) rfl<|yH [] [5] rfl<|zX<|zZ ?_;refine wO N [hB b1 (cAccess y1 p c),hB b [vT ([]),z0,vI 0,vI 0,z0,vI 0,vT ([]),z0,z0]] (fun t25=>[(0,vT bu.l),(2,vP b 0),(4,vP b1 0),(5,vI y2),(25,.bool t25)]) (fun o0 aD=>?_) ?_
 · have H:=iS I0;refine zJ<|yB 3 [] [20] rfl<|xV [20] aD ?_ ?_
   · intro aI N;exact wG [] [(25,vY)]<|yL<|zU (ct N H)
   intro aI N;exact yH [] [25] rfl<|yL<|zU (ct N H)
 intro t25 aW af aU;have h2:=h2.mono af;refine zG<|yC aU ?_ ?_
 · intro aX N;refine yE<|yB 1 [] [26] rfl<|xJ 1 [vT ([]),z0,vI 0,vI 0,z0,vI 0,vT ([]),z0,z0] rfl<|wG [] [(3,vF)]<|xD<|zH ?_;obtain rfl:=zC N;exact yZ ⟨_,_,(.cell 1 rfl rfl (by kernel_rfl) (.tmp rfl ResV.nil)),zQ,⟨_,_,rfl,rfl,⟨_,rfl,(vC ⟨_,_,_,_,rfl,(SL.nil _),(SL.nil _),(SL.nil _),(SL.nil _)⟩)⟩,rfl⟩⟩
 intro aX N;refine zS<|yX<|yB 3 [] [28,30] rfl ?_;obtain ⟨⟨y4,y5⟩,aB,N⟩:=zB N;refine xL (zGu bu (W (y2+1)) 5 _ aB ) ?_;rintro ba ay v2 k2 aF - ⟨v03,v04,rfl,rfl,⟨az,rfl,h3⟩,rfl⟩ -;have h2:=h2.mono aF;obtain ⟨p1,c1,p2,c2,p3,c3,rfl,h5,h6,h7⟩:=tS h3;refine yB 7 [] [32,33] rfl<|wS zExpr ?_;intro b2 hb2;refine xJ 0 (cExpr y4 p1 c1 p2 c2 p3 c3) rfl<|wG [] []<|yX<|rQ 3 [1,0] [(36,vA [vT y1.Array.l,vS p y1.Subs c,vI y4.Kind,vI y4.Num,vS p1 y4.Index.Coefs c1,vI y4.Index.Const,vT y4.Read.Array.l,vS p2 y4.Read.Subs c2,vS p3 y4.Kids c3])]<|wS [vT ([]),z0,vI 0,vI 0,z0,vI 0,vT ([]),z0,z0] ?_;intro b3 hb3;refine xJ 0 [vT y1.Array.l,vS p y1.Subs c,vI y4.Kind,vI y4.Num,vS p1 y4.Index.Coefs c1,vI y4.Index.Const,vT y4.Read.Array.l,vS p2 y4.Read.Subs c2,vS p3 y4.Kids c3] rfl<|yD rfl<|zX<|yE<|rQ 1 [0] [(37,vA [vT y1.Array.l,vS p y1.Subs c,vI y4.Kind,vI y4.Num,vS p1 y4.Index.Coefs c1,vI y4.Index.Const,vT y4.Read.Array.l,vS p2 y4.Read.Subs c2,vS p3 y4.Kids c3])]<|bE N fun y6 aN N=>xL (zEW (zP.mk y1 y4) _ aN h2 h5 h6 h7) ?_;rintro bH ay v2 k2 aK - ⟨v08,rfl,rfl,rfl⟩ -;have ⟨h2,h5,h6,h7⟩:=m4 aK h2 h5 h6 h7;refine yH [] [40] rfl<|zG<|yC N ?_ ?_
 · intro bK N;refine yE<|yB 1 [] [41] rfl<|xJ 3 [vT ([]),z0,vI 0,vI 0,z0,vI 0,vT ([]),z0,z0] rfl<|wG [] [(3,vF)]<|xD<|zH ?_;obtain rfl:=zC N;exact yZ ⟨_,_,(.cell 3 rfl rfl (by kernel_rfl) (.tmp rfl ResV.nil)),zQ,⟨_,_,rfl,rfl,⟨_,rfl,(vC ⟨_,_,_,_,rfl,(SL.nil _),(SL.nil _),(SL.nil _),(SL.nil _)⟩)⟩,rfl⟩⟩
 intro bK N;refine zS<|yX<|rQ 1 [0] [(42,vA [vT y1.Array.l,vS p y1.Subs c,vI y4.Kind,vI y4.Num,vS p1 y4.Index.Coefs c1,vI y4.Index.Const,vT y4.Read.Array.l,vS p2 y4.Read.Subs c2,vS p3 y4.Kids c3])]<|xJ 3 [vT y1.Array.l,vS p y1.Subs c,vI y4.Kind,vI y4.Num,vS p1 y4.Index.Coefs c1,vI y4.Index.Const,vT y4.Read.Array.l,vS p2 y4.Read.Subs c2,vS p3 y4.Kids c3] rfl<|wG [] [(3,vY)]<|zG<|yW ?_;obtain rfl:=zC N;exact yZ ⟨_,_,(.cell 3 rfl rfl (by kernel_rfl) (.tmp rfl ResV.nil)),zQ,⟨_,_,rfl,rfl,⟨_,rfl,(vC ⟨_,_,_,_,rfl,h2,h5,h6,h7⟩)⟩,rfl⟩⟩
def zGN (r:zD):KT:=fun kk I' ah v=>
  ∃ (a0:Option Addr) (c0:Nat) (s0:List Value) (a1:Option Addr) (c1:Nat) (s1:List Value) (am:List Raw2) (vN vB:Value) (nl:List zE) (bl:List zP) (csN csB:List Value),
    ah=[hO zF (vS a0 r.Arrays c0) s0,hO Raw2 (vS a1 am c1) s1,hO zE vN csN,hO zP vB csB]/\v=tupV [vA [vS a0 r.Arrays c0,vS a1 am c1]]/\L4 I' s0 r.Arrays s1 am r.Parts vN nl vB bl csN csB
def eT (p:zD) (line:Str):Option (zD):=do
 let y<-kR line
 let t17<-(do
   if (decide ((y.length:Int)>0)) then
    let x<-idx y 0
    pure (x.l==([97,114,114,97,121]:List UInt8))
   else
    pure false
     : Option Bool)
 if t17 then
  let y1<-fR y
  let l<-app 40 p.Arrays ([y1]:List zF)
  pure (zD.mk l p.Parts)
 else
  if (line.l==([112,97,114,116]:List UInt8)) then
   let l1<-app 48 p.Parts ([(zO.mk ([]:List zE) ([]:List zP))]:List zO)
   pure (zD.mk p.Arrays l1)
  else
   let t43<-(do
     if (decide ((W ((p.Parts.length:Int) - 1))>=0)) then
      if (decide ((y.length:Int)>0)) then
       let x1<-idx y 0
       pure (x1.l==([102,111,114]:List UInt8))
      else
       pure false
     else
      pure false
       : Option Bool)
   if t43 then
    let x2<-idx p.Parts (W ((p.Parts.length:Int) - 1))
    let y2<-eQ line
    let l2<-app 48 x2.Nest ([y2]:List zE)
    pure (zD.mk p.Arrays (p.Parts.set (W ((p.Parts.length:Int) - 1)).toNat (zO.mk l2 x2.Body)))
   else
    if (decide ((W ((p.Parts.length:Int) - 1))>=0)) then
     let x4<-idx p.Parts (W ((p.Parts.length:Int) - 1))
     let (y4,y5)<-mZ line
     let l3<-app 152 x4.Body ([y4]:List zP)
     pure (zD.mk p.Arrays (p.Parts.set (W ((p.Parts.length:Int) - 1)).toNat (zO.mk x4.Nest l3)))
    else
     pure (id p)
theorem zHk:∀ p line r,eT p line=some r->∀ {I:Imm}{p1 c cs p2 c1 az}{am:List Raw2}{vN vB:Value}{nl:List zE}{bl:List zP}{csN csB:List Value},
    L4 I cs p.Arrays az am p.Parts vN nl vB bl csN csB->RT 175 [vA [vS p1 p.Arrays c,vS p2 am c1],vT line.l] I [hO zF (vS p1 p.Arrays c) cs,hO Raw2 (vS p2 am c1) az,hO zE vN csN,hO zP vB csB] (zGN r):=by
 intro p line r N I p1 c cs p2 c1 az am vN vB nl bl csN csB hQ
 unfold eT at N
 simp only [hQ.lp.len] at N
 refine yJ func175 fun B=>yE<|tO [vS p1 p.Arrays c,vS p2 am c1] ?_
 intro b hb
 refine wS zTwo ?_
 intro b1 hb1
 refine yD rfl<|yX<|yB 1 [] [11] rfl ?_
 obtain ⟨y,hy,N⟩:=zB N
 refine xL (zBo line _ hy ) ?_
 rintro I0 ay v2 k2 le - ⟨v0,rfl,rfl,h2⟩ -
 have hQ:=hQ.mono le
 obtain ⟨p3,c2,rfl⟩:=h2.form
 refine yH [] [5] rfl<|yX<|yH [1] [6] rfl<|zX<|yG<|zZ ?_
 obtain ⟨o0,aD,N⟩:=zB N
 refine qF (K1 o0 I0 [hB b1 zTwo,hB b [vS p1 p.Arrays c,vS p2 am c1],hO zF (vS p1 p.Arrays c) cs,hO Raw2 (vS p2 am c1) az,hO zE vN csN,hO zP vB csB] fun t17=>[(1,vT line.l),(2,vP b 0),(4,vP b1 0),(5,vS p3 y c2),(6,vI (W ((am.length:Int) - 1))),(17,.bool t17)]) ?_ ?_
 · refine zJ<|yB 4 [] [21] rfl ?_
   cases hc:(decide ((y.length:Int)>0)) with
   | true =>
    have hM0:=sQ hc aD
    refine yB 5 [] [22] rfl ?_
    obtain ⟨x,aB,N⟩:=zB hM0
    refine xK rfl rfl h2 aB ?_
    intro ad aQ ar ap
    obtain rfl:=ap
    exact xB 0 ar [vT x.l] (vT x.l) rfl<|yH [] [17] rfl<|yL<|zU ⟨_,(zC N).symm,Imm.le.refl _,rfl,rfl⟩
   | false =>
    have hM01:=tH hc aD
    exact wG [] [(17,vF)]<|yL<|zU ⟨_,(zC hM01).symm,Imm.le.refl _,rfl,rfl⟩
 rintro aW ay m2 ⟨t17,heq,af,rfl,rfl⟩
 subst o0
 have h2:=h2.mono af
 have hQ:=hQ.mono af
 refine zG<|yC N ?_ ?_
 · intro aI N
   obtain ⟨y1,aN,N⟩:=zB N
   obtain ⟨l,bm,N⟩:=zB N
   refine wQ [.p (vP b 0) [],.p (vS p1 p.Arrays c) [1],.p (vS p3 y c2) [],.x (eVArr y1),.x (fun I' v hx=>∃ b2,v=vS (some ⟨b2,0,none⟩) ([y1]:List zF) 1/\hx=[]/\(SL I' (vS (some ⟨b2,0,none⟩) ([y1]:List zF) 1) ([y1]:List zF))),.x (fun I' v hx=>∃ p5 c4 aT,v=vS p5 l c4/\hx=[hO zF (vS p5 l c4) aT]/\(RL I' aT l))] [[],[(0,false)],[],[(2,false)],[(3,false)],[(1,false),(4,false),(8,true)]] [hB b1 zTwo,hB b [vS p1 p.Arrays c,vS p2 am c1],hO Raw2 (vS p2 am c1) az,hO zE vN csN,hO zP vB csB] [[hO zF (vS p1 p.Arrays c) cs]] [(5,true)] (zY [0,1,3,4,5,2]) ?_ ?_
   · refine Op<|Op<|Op<|Ox ?_<|Ox ?_<|Ox ?_<|On
     · intro I1 hf af
       refine yT [29] rfl<|xL (zGs y _ aN (h2.mono af)) ?_
       rintro ba ay v2 k2 aF - ⟨v01,rfl,rfl,⟨aS,rfl,h3⟩⟩ -
       obtain ⟨v02,rfl,h4⟩:=zCc h3
       obtain ⟨p4,c3,rfl⟩:=h4.form
       exact yN [] aF ⟨_,_,rfl,rfl,h4⟩
     · intro I1 hf af
       refine wE ?_
       rintro _ _ ⟨p4,c3,rfl,rfl,h4⟩
       refine yT [30] rfl<|uK (cArr y1 p4 c3) zF ?_
       intro b2 hb2
       have h5:RL I1 (cArr y1 p4 c3) ([y1]:List zF):=⟨(cArr y1 p4 c3),_,rfl,rfl,(qU ⟨_,rfl,h4⟩),rfl⟩
       refine xH 0 rfl ?_
       intro bH aK hl0
       exact yN [] aK ⟨_,rfl,rfl,SL.of_frozen hl0 aK h5⟩
     intro I1 hf af
     refine wE ?_
     rintro _ _ ⟨rfl,rfl⟩
     refine wE ?_
     rintro _ _ ⟨b2,rfl,rfl,h6⟩
     refine wE ?_
     rintro _ _ rfl
     refine yT [28,31] rfl ?_
     obtain ⟨bv,k0,k01⟩:=h6
     refine sU 107 2 0 rfl rfl rfl (hQ.mono af).arr (.inl k0) k01 bm ?_
     intro p5 c4 aT h7
     exact wN (ah:=(hO zF (vS p5 l c4) aT::(hB b1 zTwo::hB b [vS p1 p.Arrays c,vS p2 am c1]::hO Raw2 (vS p2 am c1) az::hO zE vN csN::hO zP vB csB::hf))) rfl<|yN [hO zF (vS p5 l c4) aT] iR ⟨_,_,_,rfl,rfl,h7⟩
   intro bL bk
   refine wE ?_
   rintro _ _ ⟨p5,c4,aT,rfl,rfl,h7⟩
   refine yT [2,4,32] rfl ?_
   have hQ:=hQ.mono bk
   refine yB 7 [] [33] rfl<|xJ 2 [vS p5 l c4,vS p2 am c1] rfl<|yD rfl<|zM<|yX<|rQ 1 [2] [(98,vA [vS p5 l c4,vS p2 am c1])]<|xJ 1 [vS p5 l c4,vS p2 am c1] rfl<|yD rfl<|zG<|yW ?_
   obtain rfl:=zC N
   exact yZ ⟨_,_,(.cell 1 rfl rfl (by kernel_rfl) ResV.nil),(zW [0,3,4,5] rfl (by decide)),⟨_,_,_,_,_,_,_,_,_,_,_,_,_,rfl,rfl,⟨h7,hQ.raw,hQ.lp,hQ.n,hQ.b⟩⟩⟩
 intro aI N
 refine yF [34] rfl<|zG<|yC N ?_ ?_
 · intro aX N
   refine pH 4 rfl ?_
   intro bR bz hl5
   have kN:=SL.of_frozen hl5 bz hQ.n
   have hQ:=hQ.mono bz
   refine pH 4 rfl ?_
   intro I06 bC hl6
   have kB:=SL.of_frozen hl6 bC hQ.b
   replace kN:=kN.mono bC
   have hQ:=hQ.mono bC
   obtain ⟨l1,bw,N⟩:=zB N
   have bI:=zJ4 (l':=am) (m':=[(⟨z0,z0⟩:Raw2)]) bw hQ.lp.2.1 rfl
   have hLP:=hQ.lp.part kN kB bw
   refine zJ<|wN (ah:=[hB b1 zTwo,hB b [vS p1 p.Arrays c,vS p2 am c1],hO zF (vS p1 p.Arrays c) cs,hO Raw2 (vS p2 am c1) az]) rfl<|rQ 3 [1] [(38,vS p2 am c1),(39,vA zTwo)]<|uK zTwo Raw2 ?_
   intro b3 hb3
   have h8:RL I06 zTwo [(⟨z0,z0⟩:Raw2)]:=⟨zTwo,[],rfl,rfl,⟨rfl,rfl,rfl⟩,rfl⟩
   refine sU 47 2 4 rfl rfl rfl hQ.raw (.inr ⟨0,rfl⟩) h8 bI ?_
   intro p6 c5 bt h9
   refine tZ (zY [1,2,3,4] (ah:=[hB b1 zTwo,hB b [vS p1 p.Arrays c,vS p2 am c1],hO zF (vS p1 p.Arrays c) cs,hO Raw2 (vS p6 (am++[(⟨z0,z0⟩:Raw2)]) c5) bt]))<|yB 6 [] [42] rfl<|xJ 1 [vS p1 p.Arrays c,vS p6 (am++[(⟨z0,z0⟩:Raw2)]) c5] rfl<|yD rfl<|zM<|yX<|rQ 1 [1] [(98,vA [vS p1 p.Arrays c,vS p6 (am++[(⟨z0,z0⟩:Raw2)]) c5])]<|xJ 0 [vS p1 p.Arrays c,vS p6 (am++[(⟨z0,z0⟩:Raw2)]) c5] rfl<|yD rfl<|xD<|xQ (nX (Rp.sz zP))<|xQ (nX (Rp.sz zE)) ?_
   obtain rfl:=zC N
   exact yZ ⟨_,_,(.cell 2 rfl rfl (by kernel_rfl) ResV.nil),(zW [4,5,0,1] rfl (by decide)),⟨_,_,_,_,_,_,_,_,_,_,_,_,_,rfl,rfl,⟨hQ.arr,h9,hLP,RepL.nil,RepL.nil⟩⟩⟩
 intro aX N
 refine zZ ?_
 obtain ⟨aP,aA,N⟩:=zB N
 refine qF (K1 aP aW [hB b1 zTwo,hB b [vS p1 p.Arrays c,vS p2 am c1],hO zF (vS p1 p.Arrays c) cs,hO Raw2 (vS p2 am c1) az,hO zE vN csN,hO zP vB csB] fun t43=>[(1,vT line.l),(2,vP b 0),(4,vP b1 0),(6,vI (W ((am.length:Int) - 1))),(43,.bool t43)]) ?_ ?_
 · refine zJ<|yB 3 [] [46] rfl ?_
   cases bK:(decide ((W ((am.length:Int) - 1))>=0)) with
   | true =>
    have hM02:=sQ bK aA
    refine yB 8 [] [51] rfl ?_
    cases bO:(decide ((y.length:Int)>0)) with
    | true =>
     have hM03:=sQ bO hM02
     refine yB 9 [] [52] rfl ?_
     obtain ⟨x1,bI,N⟩:=zB hM03
     refine xK rfl rfl h2 bI ?_
     intro ad1 bP av ax
     obtain rfl:=ax
     exact xB 0 av [vT x1.l] (vT x1.l) rfl<|yH [] [43] rfl<|yL<|zU ⟨_,(zC N).symm,Imm.le.refl _,rfl,rfl⟩
    | false =>
     have hM04:=tH bO hM02
     exact wG [] [(43,vF)]<|yL<|zU ⟨_,(zC hM04).symm,Imm.le.refl _,rfl,rfl⟩
   | false =>
    have hM05:=tH bK aA
    exact wG [] [(43,vF)]<|yL<|zU ⟨_,(zC hM05).symm,Imm.le.refl _,rfl,rfl⟩
 rintro bR ay m2 ⟨t43,heq1,bz,rfl,rfl⟩
 subst aP
 have hQ:=hQ.mono bz
 refine zG<|yC N ?_ ?_
 · intro hc5 N
   refine yE<|yB 3 [1] [58,59] rfl ?_
   obtain ⟨x2,hy6,N⟩:=zB N
   obtain ⟨rfl,hyr,hset⟩:=hQ.lp.last hy6
   refine pQ 3 rfl rfl rfl hQ.raw hyr ?_
   intro ad2 ccs3 aY bM bd
   obtain ⟨rfl,o1,o2⟩:=bd
   refine zAH 3 0 aY bM [vN,vB] (vA [vN,vB]) rfl rfl<|wS zTwo ?_
   intro b4 hb4
   refine zPH 0 [vN,vB] (hB b4 [vN,vB]::[hB b1 zTwo,hB b [vS p1 p.Arrays c,vS p2 am c1],hO zF (vS p1 p.Arrays c) cs,hO Raw2 (vS p2 am c1) az,hO zE vN csN,hO zP vB csB]) rfl rfl rfl rfl (by simp [Value.cells,o1,o2])<|yD rfl<|zG<|zZ ?_
   obtain ⟨y2,hy7,N⟩:=zB N
   obtain ⟨l2,hy8,N⟩:=zB N
   refine wQ [.p (vP b4 0) [],.p vN [0],.p (vT line.l) [],.x (eVLoop y2),.x (fun I' v hx=>∃ b5,v=vS (some ⟨b5,0,none⟩) ([y2]:List zE) 1/\hx=[]/\(SL I' (vS (some ⟨b5,0,none⟩) ([y2]:List zE) 1) ([y2]:List zE))),.x (fun I' v hx=>∃ aR bh aT,v=vS aR l2 bh/\hx=[hO zE (vS aR l2 bh) aT]/\(RL I' aT l2))] [[],[(0,false)],[],[(2,false)],[(3,false)],[(1,false),(4,false),(8,true)]] [hB b4 [vN,vB],hB b1 zTwo,hB b [vS p1 p.Arrays c,vS p2 am c1],hO zF (vS p1 p.Arrays c) cs,hO Raw2 (vS p2 am c1) az,hO zP vB csB] [[hO zE vN csN]] [(5,true)] (zY [0,1,2,3,4,6,5]) ?_ ?_
   · refine Op<|Op<|Op<|Ox ?_<|Ox ?_<|Ox ?_<|On
     · intro I1 hf af
       refine yT [64] rfl<|xL (zHj line _ hy7 ) ?_
       rintro I06 ay v2 k2 bC - ⟨v05,rfl,rfl,⟨bJ,rfl,h12⟩⟩ -
       obtain ⟨v06,v07,rfl,h13,h14⟩:=zCw h12
       obtain ⟨p9,c8,rfl⟩:=h13.form
       obtain ⟨bi,c9,rfl⟩:=h14.form
       exact yN [] bC ⟨_,_,_,_,rfl,rfl,h13,h14⟩
     · intro I1 hf af
       refine wE ?_
       rintro _ _ ⟨p9,c8,bi,c9,rfl,rfl,h13,h14⟩
       refine yT [65] rfl<|uK (cLoop y2 p9 c8 bi c9) zE ?_
       intro b5 hb5
       have h15:RL I1 (cLoop y2 p9 c8 bi c9) ([y2]:List zE):=⟨(cLoop y2 p9 c8 bi c9),_,rfl,rfl,(qM ⟨_,_,rfl,h13,h14⟩),rfl⟩
       refine xH 0 rfl ?_
       intro I07 le7 hl01
       exact yN [] le7 ⟨_,rfl,rfl,SL.of_frozen hl01 le7 h15⟩
     intro I1 hf af
     refine wE ?_
     rintro u _ ⟨hu,rfl⟩
     have hu:=hu.symm
     subst hu
     refine wE ?_
     rintro _ _ ⟨b5,rfl,rfl,h16⟩
     refine wE ?_
     rintro _ _ rfl
     refine yT [63,66] rfl ?_
     obtain ⟨ccs4,k0,k01⟩:=h16
     refine sU 141 2 0 rfl rfl rfl (hQ.mono af).n (.inl k0) k01 hy8 ?_
     intro aR bh aT h17
     exact wN (ah:=(hO zE (vS aR l2 bh) aT::(hB b4 [vN,vB]::hB b1 zTwo::hB b [vS p1 p.Arrays c,vS p2 am c1]::hO zF (vS p1 p.Arrays c) cs::hO Raw2 (vS p2 am c1) az::hO zP vB csB::hf))) rfl<|yN [hO zE (vS aR l2 bh) aT] iR ⟨_,_,_,rfl,rfl,h17⟩
   intro I08 le8
   refine wE ?_
   rintro _ _ ⟨aR,bh,aT,rfl,rfl,h17⟩
   refine yT [2,4,6,7,67] rfl ?_
   have hQ:=hQ.mono le8
   refine yB 7 [] [68] rfl<|xJ 1 [vS aR l2 bh,vB] rfl<|yD rfl<|zG<|zJ<|rQ 4 [3,1] [(70,vS p2 am c1),(71,vI (W ((am.length:Int) - 1))),(72,vA [vS aR l2 bh,vB])]<|pQ 5 rfl rfl rfl hQ.raw hyr ?_
   intro ad3 ccs5 hat3 hcc1 bG
   obtain ⟨rfl,-⟩:=bG
   refine tR (α:=Raw2) (c:=[vS aR l2 bh,vB]) (x':=⟨vS aR l2 bh,vB⟩) 5 0 rfl rfl rfl hat3 rfl rfl hcc1 (by kernel_rfl) (by kernel_rfl) (by simp [Value.cells,o2]; rfl) hQ.raw hyr (by kernel_rfl) ⟨rfl,rfl,o2⟩ ?_
   intro cs6 h19 hl02
   refine wN (ah:=[hO zE (vS aR l2 bh) aT,hB b4 [vS aR l2 bh,vB],hB b1 zTwo,hB b [vS p1 p.Arrays c,vS p2 am c1],hO zF (vS p1 p.Arrays c) cs,hO Raw2 (vS p2 am c1) cs6,hO zP vB csB]) rfl<|yD rfl<|zM<|yX<|rQ 1 [3] [(98,vA [vS p1 p.Arrays c,vS p2 am c1])]<|xJ 2 [vS p1 p.Arrays c,vS p2 am c1] rfl<|yD rfl<|zG<|yW ?_
   obtain rfl:=zC N
   exact yZ ⟨[vA [vS p1 p.Arrays c,vS p2 am c1]],_,(.cell 2 rfl rfl (by kernel_rfl) ResV.nil),(zW [4,5,0,6] rfl (by decide)),⟨p1,c,cs,p2,c1,cs6,am.set (W ((am.length:Int) - 1)).toNat ⟨vS aR l2 bh,vB⟩,vS aR l2 bh,vB,l2,bl,aT,csB,(by simp only [vS,hl02]),(by simp only [vS,hl02]),⟨hQ.arr,h19,(hset _ _ _ _).mono le8,h17,hQ.b⟩⟩⟩
 intro hc5 N
 refine yF [74] rfl<|zG<|yC N ?_ ?_
 · intro hc6 N
   refine yE<|yB 3 [1] [78,79] rfl ?_
   obtain ⟨x4,hy10,N⟩:=zB N
   obtain ⟨rfl,hyr,hset⟩:=hQ.lp.last hy10
   refine pQ 3 rfl rfl rfl hQ.raw hyr ?_
   intro ad4 ccs5 hat4 hcc2 hrep4
   obtain ⟨rfl,o1,o2⟩:=hrep4
   refine zAH 3 0 hat4 hcc2 [vN,vB] (vA [vN,vB]) rfl rfl<|wS zTwo ?_
   intro b6 hb6
   refine zPH 0 [vN,vB] (hB b6 [vN,vB]::[hB b1 zTwo,hB b [vS p1 p.Arrays c,vS p2 am c1],hO zF (vS p1 p.Arrays c) cs,hO Raw2 (vS p2 am c1) az,hO zE vN csN,hO zP vB csB]) rfl rfl rfl rfl (by simp [Value.cells,o1,o2])<|yD rfl<|yX<|rQ 1 [] [(83,vT line.l)] ?_
   obtain ⟨⟨y4,y5⟩,hy11,N⟩:=zB N
   refine xL (zBT line _ hy11 ) ?_
   rintro I09 ay v2 k2 le9 - ⟨v012,v013,rfl,rfl,⟨cs7,rfl,h22⟩,rfl⟩ -
   have hQ:=hQ.mono le9
   obtain ⟨v014,v015,v016,v017,rfl,h24,h25,h26,h27⟩:=mA h22
   obtain ⟨p15,c14,rfl⟩:=h24.form
   obtain ⟨p16,c15,rfl⟩:=h25.form
   obtain ⟨p17,c16,rfl⟩:=h26.form
   obtain ⟨p18,c17,rfl⟩:=h27.form
   refine yB 5 [] [85,86] rfl<|wS [vT ([]),z0,vI 0,vI 0,z0,vI 0,vT ([]),z0,z0] ?_
   intro b7 hb7
   refine zB5 0 (cStmt y4 p15 c14 p16 c15 p17 c16 p18 c17) (hB b7 (cStmt y4 p15 c14 p16 c15 p17 c16 p18 c17)::hB b6 [vN,vB]::[hB b1 zTwo,hB b [vS p1 p.Arrays c,vS p2 am c1],hO zF (vS p1 p.Arrays c) cs,hO Raw2 (vS p2 am c1) az,hO zE vN csN,hO zP vB csB]) rfl rfl rfl rfl<|wG [] []<|yX<|rQ 3 [1,0] [(88,vB),(89,vA (cStmt y4 p15 c14 p16 c15 p17 c16 p18 c17))]<|uK (cStmt y4 p15 c14 p16 c15 p17 c16 p18 c17) zP ?_
   intro b8 hb8
   have h28:RL I09 (cStmt y4 p15 c14 p16 c15 p17 c16 p18 c17) ([y4]:List zP):=⟨(cStmt y4 p15 c14 p16 c15 p17 c16 p18 c17),_,rfl,rfl,(vC ⟨_,_,_,_,rfl,h24,h25,h26,h27⟩),rfl⟩
   obtain ⟨l3,hy12,N⟩:=zB N
   refine sU 100 9 8 rfl rfl rfl hQ.b (.inr ⟨0,rfl⟩) h28 hy12 ?_
   intro p19 c18 cs9 h29
   refine tZ (zY [2,3,4,5,6,7,8] (ah:=[hB b6 [vN,vB],hB b1 zTwo,hB b [vS p1 p.Arrays c,vS p2 am c1],hO zF (vS p1 p.Arrays c) cs,hO Raw2 (vS p2 am c1) az,hO zE vN csN,hO zP (vS p19 l3 c18) cs9]))<|yB 6 [] [92] rfl<|xJ 0 [vN,vS p19 l3 c18] rfl<|yD rfl<|zG<|zJ<|rQ 4 [2,0] [(94,vS p2 am c1),(95,vI (W ((am.length:Int) - 1))),(96,vA [vN,vS p19 l3 c18])]<|pQ 4 rfl rfl rfl hQ.raw hyr ?_
   intro ad5 ccs6 hat5 hcc3 hrep5
   obtain ⟨rfl,-⟩:=hrep5
   refine tR (α:=Raw2) (c:=[vN,vS p19 l3 c18]) (x':=⟨vN,vS p19 l3 c18⟩) 4 0 rfl rfl rfl hat5 rfl rfl hcc3 (by kernel_rfl) (by kernel_rfl) (by simp [Value.cells,o1]; rfl) hQ.raw hyr (by kernel_rfl) ⟨rfl,o1,rfl⟩ ?_
   intro cs8 h31 hl03
   refine wN (ah:=[hB b6 [vN,vS p19 l3 c18],hB b1 zTwo,hB b [vS p1 p.Arrays c,vS p2 am c1],hO zF (vS p1 p.Arrays c) cs,hO Raw2 (vS p2 am c1) cs8,hO zE vN csN,hO zP (vS p19 l3 c18) cs9]) rfl<|yD rfl<|zM<|yX<|rQ 1 [2] [(98,vA [vS p1 p.Arrays c,vS p2 am c1])]<|xJ 1 [vS p1 p.Arrays c,vS p2 am c1] rfl<|yD rfl<|zG<|yW ?_
   obtain rfl:=zC N
   exact yZ ⟨[vA [vS p1 p.Arrays c,vS p2 am c1]],_,(.cell 1 rfl rfl (by kernel_rfl) ResV.nil),(zW [3,4,5,6] rfl (by decide)),⟨p1,c,cs,p2,c1,cs8,am.set (W ((am.length:Int) - 1)).toNat ⟨vN,vS p19 l3 c18⟩,vN,vS p19 l3 c18,nl,l3,csN,cs9,(by simp only [vS,hl03]),(by simp only [vS,hl03]),⟨hQ.arr,h31,(hset _ _ _ _).mono le9,hQ.n,h29⟩⟩⟩
 intro hc6 N
 refine zS<|zM<|yX<|rQ 1 [1] [(98,vA [vS p1 p.Arrays c,vS p2 am c1])]<|xJ 0 [vS p1 p.Arrays c,vS p2 am c1] rfl<|yD rfl<|zG<|yW ?_
 obtain rfl:=zC N
 exact yZ ⟨_,_,(.cell 0 rfl rfl (by kernel_rfl) ResV.nil),(zW [2,3,4,5] rfl (by decide)),⟨_,_,_,_,_,_,_,_,_,_,_,_,_,rfl,rfl,hQ⟩⟩
def vV (x:zF) (k0:Int):Option (Out Unit (Bool)):=do
 if (decide (k0<(x.Dims.length:Int))) then
  let t77<-(do
    let x2<-idx x.Dims k0
    if (decide (x2<1)) then
     pure true
    else
     let x3<-idx x.Dims k0
     pure (decide (x3>6))
      : Option Bool)
  if t77 then
   pure (.ret false)
  else
   vV x (W (k0+1))
 else
  pure (.done ())
 partial_fixpoint
theorem zDo (x:zF):∀ (k0:Int) (o:Out Unit (Bool)),vV x k0=some o->∀ {B}{I0 I:Imm}{Q}{list:(List zF)}{i:Int}{p c p1 c1}{b:Nat},I0.le I->(S4 I p list c)->(S4 I p1 x.Dims c1)->NG Q->NO Q->(∀ (I':Imm) ,o=(.done ())->I0.le I'->T 81 B Q (.exit 2) I' [] [(0,vS p list c),(3,vI i)])->(∀ r I' ah m',o=(.ret r)->I0.le I'->RS Tryz.prog f100 B (zT  r) I' ah m'->T 81 B Q .ret I' ah m')->J Tryz.prog 81 B (nav (bodyOf f100) [1,0,1,0,0,1,0,0,1,1,1,0]) Q I [hB b (cArr x p1 c1)] [(0,vS p list c),(3,vI i),(4,vP b 0),(5,vI k0)]:=by
 refine vV.partial_correctness x _ fun aJ ih k0 o N B I0 I Q list i p c p1 c1 b H h h1 hg ho hx hr=>yM hg ho<|zZ<|yE<|yH [0] [61] rfl<|zG<|yC N ?_ ?_
 · intro hc9 N;refine zS<|zX<|yG<|zZ ?_;refine wO N [hB b (cArr x p1 c1)] (fun t77=>[(0,vS p list c),(3,vI i),(4,vP b 0),(5,vI k0),(77,.bool t77)]) (fun aP aA=>?_) ?_
   · have H:=iS I;refine zJ<|yB 3 [0] [65,66] rfl ?_;obtain ⟨x2,aN,N⟩:=zB aA;refine xK rfl rfl h1 aN ?_;intro ad2 bP aY bd;obtain rfl:=bd;refine xB 0 aY [vI x2] (vI x2) rfl<|yB 7 [] [70] rfl<|xV [70] N ?_ ?_
     · intro hc10 N;exact wG [] [(77,vY)]<|yL<|zU (ct N H)
     intro hc10 N;refine yB 10 [0] [72,73] rfl<|bE N fun x3 bm N=>xK rfl rfl h1 bm ?_;intro ad3 ccs3 hat3 bG;obtain rfl:=bG;exact xB 0 hat3 [vI x3] (vI x3) rfl<|yH [] [77] rfl<|yL<|zU (ct N H)
   intro t77 aW af hMc1;have ⟨h,h1,H⟩:=m3 af h h1 H;refine zG<|yC hMc1 ?_ ?_
   · intro hc11 N;exact wP [(2,vF)]<|xD<|zV<|zH<|zH<|hr _ _ _ _ (zC N).symm H ⟨_,_,(.tmp rfl ResV.nil),zQ,⟨_,rfl,rfl,rfl⟩⟩
   intro hc11 N;exact zS<|zM<|zG<|zJ<|yH [] [5] rfl<|yK<|oY<|ih (W (k0+1)) _ N H h h1 hg ho hx hr
 intro hc9 N;exact wJ<|xQ zQ<|yL<|hx _  (zC N).symm H
def uN (list:(List zF)) (i:Int):Option (Out Unit (Bool)):=do
 if (decide (i<(list.length:Int))) then
  let x<-idx list i
  let t56<-(do
    if ((x.Name.l.length:Int) != 1) then
     pure true
    else
     if (Op.bytesLess x.Name.l ([65]:List UInt8)) then
      pure true
     else
      if (!(Op.bytesLess x.Name.l ([68]:List UInt8)||x.Name.l==([68]:List UInt8))) then
       pure true
      else
       if (decide (i>0)) then
        let x1<-idx list (W (i - 1))
        if (!(Op.bytesLess x1.Name.l x.Name.l)) then
         pure true
        else
         if (decide ((x.Dims.length:Int)<1)) then
          pure true
         else
          pure (decide ((x.Dims.length:Int)>2))
       else
        if (decide ((x.Dims.length:Int)<1)) then
         pure true
        else
         pure (decide ((x.Dims.length:Int)>2))
      : Option Bool)
  if t56 then
   pure (.ret false)
  else
   match<-vV x 0 with
   | .ret r0=>pure (.ret r0)
   | .done _ =>
    uN list (W (i+1))
 else
  pure (.done ())
 partial_fixpoint
theorem zDp (list:(List zF)):∀ (i:Int) (o:Out Unit (Bool)),uN list i=some o->∀ {B}{I0 I:Imm}{Q p c},I0.le I->(S4 I p list c)->NG Q->NO Q->(∀ (I':Imm) ,o=(.done ())->I0.le I'->T 81 B Q (.exit 0) I' [] [(0,vS p list c)])->(∀ r I' ah m',o=(.ret r)->I0.le I'->RS Tryz.prog f100 B (zT  r) I' ah m'->T 81 B Q .ret I' ah m')->J Tryz.prog 81 B (nav (bodyOf f100) [1,0,1,0]) Q I [] [(0,vS p list c),(3,vI i)]:=by
 refine uN.partial_correctness list _ fun aJ ih i o N B I0 I Q p c H h hg ho hx hr=>yM hg ho<|zZ<|yF [9] rfl<|zG<|yC N ?_ ?_
 · intro hc N;refine zS<|zX<|yG<|yE<|yB 2 [] [12,13] rfl<|bE N fun x hy N=>xK rfl rfl h hy ?_;intro ad aQ ar ap;obtain ⟨p1,c1,rfl,h1⟩:=wU ap;refine xB 0 ar (cArr x p1 c1) (vA (cArr x p1 c1)) rfl<|wS [vT ([]),z0] ?_;intro b hb;refine xJ 0 (cArr x p1 c1) rfl<|yD rfl<|zX<|zZ ?_;refine wO N [hB b (cArr x p1 c1)] (fun t56=>[(0,vS p list c),(3,vI i),(4,vP b 0),(56,.bool t56)]) (fun o0 aD=>?_) ?_
   · have H:=iS I;refine kF (by kernel_rfl) (by kernel_rfl)<|fL 5 [0] [20] rfl<|zGl [20] aD ?_ ?_
     · intro aI N;exact zKR [] [(56,vY)]<|yL<|zU (ct N H)
     intro aI N;refine fL 10 [0] [25] rfl<|zGl [25] N ?_ ?_
     · intro aX N;exact zKR [] [(56,vY)]<|yL<|zU (ct N H)
     intro aX N;refine fL 15 [0] [30] rfl<|zGl [30] N ?_ ?_
     · intro bK N;exact zKR [] [(56,vY)]<|yL<|zU (ct N H)
     intro bK N;refine fL 18 [] [33] rfl<|zGl [33] N ?_ ?_
     · intro bO N;refine fL 21 [] [34,36] rfl<|bE N fun x1 aB N=>dQ rfl rfl h aB ?_;intro ad1 bv av ax;obtain ⟨p2,c2,rfl,h2⟩:=wU ax;refine fL 23 [] [38] rfl<|gX 0 av [vT x1.Name.l] (vT x1.Name.l) rfl<|fL 30 [0] [45] rfl<|zGl [45] N ?_ ?_
       · intro hc5 N;exact zKR [] [(56,vY)]<|yL<|zU (ct N H)
       intro hc5 N;refine fL 36 [0] [51] rfl<|zGl [51] N ?_ ?_
       · intro hc6 N;exact zKR [] [(56,vY)]<|yL<|zU (ct N H)
       intro hc6 N;exact zGo [0] [56] rfl<|yL<|zU (ct N H)
     intro bO N;refine fL 36 [0] [51] rfl<|zGl [51] N ?_ ?_
     · intro hc7 N;exact zKR [] [(56,vY)]<|yL<|zU (ct N H)
     intro hc7 N;exact zGo [0] [56] rfl<|yL<|zU (ct N H)
   intro t56 I0 le aU;have ⟨h,h1,H⟩:=m3 le h h1 H;refine zG<|yC aU ?_ ?_
   · intro hc8 N;exact wP [(2,vF)]<|xD<|zH<|zV<|zH<|zH<|hr _ _ _ _ (zC N).symm H ⟨_,_,(.tmp rfl ResV.nil),zQ,⟨_,rfl,rfl,rfl⟩⟩
   intro hc8 N;refine zS<|wM [5] rfl<|xX<|rU [(0,vS p list c),(3,vI i),(4,vP b 0),(5,vI 0)] ?_;obtain ⟨o02,ho02,aM⟩:=zB N;refine zDo x 0 o02 ho02 iR h h1 (fun _ _ _ h=>hg _ _ _ h) (fun _ _ h=>ho _ _ h) ?_ ?_
   · intro ba  heq2 aF;subst o02;have ⟨h,H⟩:=m2 aF h H;exact zR<|zM<|zG<|zJ<|yH [] [3] rfl<|yK<|oY<|ih (W (i+1)) _ aM H h hg ho hx hr
   intro r0 I9 hs9 m9 aZ le9 bb;subst aZ;exact zV<|zV<|zH<|zH<|hr _ _ _ _ (zC aM).symm (H.trans le9) bb
 intro hc N;exact wJ<|yL<|hx _  (zC N).symm H
def mJ (list:(List zF)):Option (Bool):=do
 match<-uN list 0 with
 | .ret r0=>pure r0
 | .done _ =>
  pure (decide ((list.length:Int)<=4))
theorem zGO:∀ list r,mJ list=some r->∀ {I:Imm}{p c},(S4 I p list c)->RT 100 [vS p list c] I [] (zT  r):=by
 intro list r N I p c h;unfold mJ at N;refine yJ func100 fun B=>wP []<|zX<|yF [3] rfl<|xX<|rU [(0,vS p list c),(3,vI 0)] ?_;obtain ⟨o03,ho03,hMl1⟩:=zB N;refine zDp list 0 o03 ho03 iR h (fun _ _ _ h=>h) (fun _ _ h=>h) ?_ ?_
 · intro bH  heq3 aK;subst o03;refine zR<|wM [2] rfl<|zG<|yW ?_;obtain rfl:=zC hMl1;exact wI
 intro r0 I9 hs9 m9 aZ le9 bb;subst aZ;refine zV<|zH ?_;obtain rfl:=zC hMl1;exact yZ bb
def sB (a0:zA) (ag:(List Int)) (n0:Int) (i:Int):Option (Int):=do
 let t19<-(do
   if (decide (i<(ag.length:Int))) then
    pure (decide (i<(a0.Coefs.length:Int)))
   else
    pure false
     : Option Bool)
 if t19 then
  let x<-idx a0.Coefs i
  let x1<-idx ag i
  sB a0 ag (W (n0+(W (x*x1)))) (W (i+1))
 else
  pure (id n0)
 partial_fixpoint
theorem zFK (a0:zA) (ag:(List Int)):∀ (n0:Int) (i:Int) (o:Int),sB a0 ag n0 i=some o->∀ {B}{I0 I:Imm}{Q p c p1 c1}{b:Nat},I0.le I->(S4 I p1 ag c1)->(S4 I p a0.Coefs c)->NG Q->NO Q->(∀ (I':Imm) (n01:Int),o=n01->I0.le I'->T 35 B Q (.exit 0) I' [] [(5,vI n01)])->J Tryz.prog 35 B (nav (bodyOf f155) [1,1,0,1,0]) Q I [hB b (cAff a0 p c)] [(1,vS p1 ag c1),(2,vP b 0),(5,vI n0),(6,vI i)]:=by
 refine sB.partial_correctness a0 ag _ fun aJ ih n0 i o N B I0 I Q p c p1 c1 b H h1 h hg ho hx=>yM hg ho<|zZ<|zZ ?_;refine wO N [hB b (cAff a0 p c)] (fun t19=>[(1,vS p1 ag c1),(2,vP b 0),(5,vI n0),(6,vI i),(19,.bool t19)]) (fun o0 aD=>?_) ?_
 · have H:=iS I;refine zJ<|yB 5 [] [13] rfl<|xV [13] aD ?_ ?_
   · intro hc N;exact yH [0] [19] rfl<|yL<|zU (ct N H)
   intro hc N;exact wG [] [(19,vF)]<|yL<|zU (ct N H)
 intro t19 I0 le aU;have ⟨h1,h,H⟩:=m3 le h1 h H;refine zG<|yC aU ?_ ?_
 · intro aI N;refine zS<|zX<|yG<|kF (by kernel_rfl) (by kernel_rfl)<|fL 4 [0] [22,24,25] rfl<|bE N fun x hy N=>dQ rfl rfl h hy ?_;intro ad aQ ar ap;obtain rfl:=ap;refine gX 0 ar [vI x] (vI x) rfl<|fL 8 [] [28,29] rfl<|bE N fun x1 aB N=>dQ rfl rfl h1 aB ?_;intro ad1 bv av ax;obtain rfl:=ax;exact gX 0 av [vI x1] (vI x1) rfl<|zGo [] [5] rfl<|zM<|zG<|zJ<|yH [] [6] rfl<|yK<|oY<|ih (W (n0+(W (x*x1)))) (W (i+1)) _ N H h1 h hg ho hx
 intro aI N;exact wJ<|xQ zQ<|yL<|hx _ _ (zC N).symm H
def qR (a0:zA) (ag:(List Int)):Option (Int):=do
 let n01<-sB a0 ag a0.Const 0
 pure (id n01)
theorem fV:∀ a0 ag r,qR a0 ag=some r->∀ {I:Imm}{p c p1 c1},(S4 I p a0.Coefs c)->(S4 I p1 ag c1)->RT 155 [vA (cAff a0 p c),vS p1 ag c1] I [] (yS  r):=by
 intro a0 ag r N I p c p1 c1 h h1;unfold qR at N;refine yJ func155 fun B=>yE<|tO (cAff a0 p c) ?_;intro b hb;refine wG [] []<|yX<|yH [0] [5] rfl<|zX<|yF [6] rfl<|xX<|rU [(1,vS p1 ag c1),(2,vP b 0),(5,vI a0.Const),(6,vI 0)] ?_;obtain ⟨aP,aA,aM⟩:=zB N;refine zFK a0 ag a0.Const 0 aP aA iR h1 h (fun _ _ _ h=>h) (fun _ _ h=>h) ?_;intro aW n01 heq1 af;subst aP;refine zR<|wM [4] rfl<|zG<|yW ?_;obtain rfl:=zC aM;exact wI
def tJ (loop:zE) (p2:(List Int)) (lo:Int) (i:Int):Option (Int):=do
 if (decide (i<(loop.Lo.length:Int))) then
  let x2<-idx loop.Lo i
  let y2<-qR x2 p2
  let lo2<-(do
    if (decide (y2>lo)) then
     pure (id y2)
    else
     pure (id lo)
      : Option Int)
  tJ loop p2 lo2 (W (i+1))
 else
  pure (id lo)
 partial_fixpoint
theorem zEX (loop:zE) (p2:(List Int)):∀ (lo:Int) (i:Int) (o:Int),tJ loop p2 lo i=some o->∀ {B}{I0 I:Imm}{Q}{y1:Int}{p c p1 c1 p3 c2}{b:Nat},I0.le I->(S4 I p3 p2 c2)->(S4 I p loop.Lo c)->(S4 I p1 loop.Hi c1)->NG Q->NO Q->(∀ (I':Imm) (lo1:Int),o=lo1->I0.le I'->T 62 B Q (.exit 0) I' [hB b (cLoop loop p c p1 c1)] [(1,vS p3 p2 c2),(2,vP b 0),(6,vI lo1),(7,vI y1)])->J Tryz.prog 62 B (nav (bodyOf f113) [1,1,1,0,1,0]) Q I [hB b (cLoop loop p c p1 c1)] [(1,vS p3 p2 c2),(2,vP b 0),(6,vI lo),(7,vI y1),(8,vI i)]:=by
 refine tJ.partial_correctness loop p2 _ fun aJ ih lo i o N B I0 I Q y1 p c p1 c1 p3 c2 b H h2 h h1 hg ho hx=>yM hg ho<|zZ<|yE<|yH [0] [28] rfl<|zG<|yC N ?_ ?_
 · intro hc N;refine zS<|zX<|yG<|yE<|yB 3 [0] [32,33] rfl<|bE N fun x2 bw N=>xK rfl rfl h bw ?_;intro ad2 bP aY bd;obtain ⟨p6,c5,rfl,h7⟩:=yQ bd;refine xB 0 aY (cAff x2 p6 c5) (vA (cAff x2 p6 c5)) rfl<|yB 6 [] [36] rfl<|bE N fun y2 bI N=>fK (fV x2 p2 _ bI h7 h2) ?_;intro ba aF;have ⟨h2,h,h1,H⟩:=m4 aF h2 h h1 H;refine yH [] [9] rfl<|wM [40] rfl<|zG ?_;refine wO N [hB b (cLoop loop p c p1 c1)] (fun lo2=>[(1,vS p3 p2 c2),(2,vP b 0),(6,vI lo2),(7,vI y1),(8,vI i)]) (fun o0 aD=>?_) ?_
   · have H:=iS ba;refine yC aD ?_ ?_
     · intro aI N;exact zJ<|yH [] [6] rfl<|yL<|zU (ct N H)
     intro aI N;exact zS<|yL<|zU (ct N H)
   intro lo2 bH aK aU;have ⟨h2,h,h1,H⟩:=m4 aK h2 h h1 H;exact zM<|zG<|zJ<|yH [] [8] rfl<|yK<|oY<|ih lo2 (W (i+1)) _ aU H h2 h h1 hg ho hx
 intro hc N;exact wJ<|yL<|hx _ _ (zC N).symm H
def tK (loop:zE) (p2:(List Int)) (hi:Int) (i1:Int):Option (Int):=do
 if (decide (i1<(loop.Hi.length:Int))) then
  let x3<-idx loop.Hi i1
  let y3<-qR x3 p2
  let hi2<-(do
    if (decide (y3<hi)) then
     pure (id y3)
    else
     pure (id hi)
      : Option Int)
  tK loop p2 hi2 (W (i1+1))
 else
  pure (id hi)
 partial_fixpoint
theorem zEY (loop:zE) (p2:(List Int)):∀ (hi:Int) (i1:Int) (o:Int),tK loop p2 hi i1=some o->∀ {B}{I0 I:Imm}{Q}{lo1:Int}{p c p1 c1 p3 c2}{b:Nat},I0.le I->(S4 I p3 p2 c2)->(S4 I p loop.Lo c)->(S4 I p1 loop.Hi c1)->NG Q->NO Q->(∀ (I':Imm) (hi1:Int),o=hi1->I0.le I'->T 62 B Q (.exit 2) I' [] [(6,vI lo1),(7,vI hi1)])->J Tryz.prog 62 B (nav (bodyOf f113) [1,1,1,1,0,1,0]) Q I [hB b (cLoop loop p c p1 c1)] [(1,vS p3 p2 c2),(2,vP b 0),(6,vI lo1),(7,vI hi),(10,vI i1)]:=by
 refine tK.partial_correctness loop p2 _ fun aJ ih hi i1 o N B I0 I Q lo1 p c p1 c1 p3 c2 b H h2 h h1 hg ho hx=>yM hg ho<|zZ<|yE<|yH [0] [46] rfl<|zG<|yC N ?_ ?_
 · intro aX N;refine zS<|zX<|yG<|yE<|yB 3 [0] [50,51] rfl<|bE N fun x3 hy6 N=>xK rfl rfl h1 hy6 ?_;intro ad3 ccs3 hat3 bG;obtain ⟨p7,c6,rfl,h9⟩:=yQ bG;refine xB 0 hat3 (cAff x3 p7 c6) (vA (cAff x3 p7 c6)) rfl<|yB 6 [] [54] rfl<|bE N fun y3 hy7 N=>fK (fV x3 p2 _ hy7 h9 h2) ?_;intro bR bz;have ⟨h2,h,h1,H⟩:=m4 bz h2 h h1 H;refine yH [] [11] rfl<|wM [58] rfl<|zG ?_;refine wO N [hB b (cLoop loop p c p1 c1)] (fun hi2=>[(1,vS p3 p2 c2),(2,vP b 0),(6,vI lo1),(7,vI hi2),(10,vI i1)]) (fun o02 ho02=>?_) ?_
   · have H:=iS bR;refine yC ho02 ?_ ?_
     · intro bK N;exact zJ<|yH [] [7] rfl<|yL<|zU (ct N H)
     intro bK N;exact zS<|yL<|zU (ct N H)
   intro hi2 I06 bC hMc1;have ⟨h2,h,h1,H⟩:=m4 bC h2 h h1 H;exact zM<|zG<|zJ<|yH [] [10] rfl<|yK<|oY<|ih hi2 (W (i1+1)) _ hMc1 H h2 h h1 hg ho hx
 intro aX N;exact wJ<|xQ zQ<|yL<|hx _ _ (zC N).symm H
def mB (loop:zE) (p2:(List Int)):Option (Int×Int):=do
 let x<-idx loop.Lo 0
 let y<-qR x p2
 let x1<-idx loop.Hi 0
 let y1<-qR x1 p2
 let lo1<-tJ loop p2 y 1
 let hi1<-tK loop p2 y1 1
 pure (lo1,hi1)
theorem zCe:∀ loop p2 r,mB loop p2=some r->∀ {I:Imm}{p c p1 c1 p3 c2},(S4 I p loop.Lo c)->(S4 I p1 loop.Hi c1)->(S4 I p3 p2 c2)->RT 113 [vA (cLoop loop p c p1 c1),vS p3 p2 c2] I [] (dL  r):=by
 intro loop p2 r N I p c p1 c1 p3 c2 h h1 h2;unfold mB at N;refine yJ func113 fun B=>yE<|tO (cLoop loop p c p1 c1) ?_;intro b hb;refine wG [] []<|yX<|yB 2 [0] [13] rfl<|bE N fun x hy N=>xK rfl rfl h hy ?_;intro ad aQ ar ap;obtain ⟨p4,c3,rfl,h3⟩:=yQ ap;refine xB 0 ar (cAff x p4 c3) (vA (cAff x p4 c3)) rfl<|yB 5 [] [16] rfl<|bE N fun y aB N=>fK (fV x p2 _ aB h3 h2) ?_;intro I0 le;have ⟨h2,h,h1⟩:=m3 le h2 h h1;refine yH [] [6] rfl<|yX<|yB 2 [0] [19] rfl<|bE N fun x1 aN N=>xK rfl rfl h1 aN ?_;intro ad1 bv av ax;obtain ⟨p5,c4,rfl,h5⟩:=yQ ax;refine xB 0 av (cAff x1 p5 c4) (vA (cAff x1 p5 c4)) rfl<|yB 5 [] [22] rfl<|bE N fun y1 bm N=>fK (fV x1 p2 _ bm h5 h2) ?_;intro aW af;have ⟨h2,h,h1⟩:=m3 af h2 h h1;refine yH [] [7] rfl<|zX<|yF [8] rfl<|xX<|rU [(1,vS p3 p2 c2),(2,vP b 0),(6,vI y),(7,vI y1),(8,vI 1)] ?_;obtain ⟨aP,aA,aM⟩:=zB N;refine zEX loop p2 y 1 aP aA iR h2 h h1 (fun _ _ _ h=>h) (fun _ _ h=>h) ?_;intro bL lo1 heq1 bk;subst aP;have ⟨h2,h,h1⟩:=m3 bk h2 h h1;refine zR<|zX<|yF [10] rfl<|xX<|rU [(1,vS p3 p2 c2),(2,vP b 0),(6,vI lo1),(7,vI y1),(10,vI 1)] ?_;obtain ⟨o03,ho03,hMl1⟩:=zB aM;refine zEY loop p2 y1 1 o03 ho03 iR h2 h h1 (fun _ _ _ h=>h) (fun _ _ h=>h) ?_;intro I07 hi1 heq3 le7;subst o03;refine zR<|wM [4,5] rfl<|zG<|yW ?_;obtain rfl:=zC hMl1;exact yZ ⟨_,_,(.tmp rfl (.tmp rfl ResV.nil)),zQ,⟨_,_,rfl,rfl,rfl,rfl⟩⟩
def zAu (r:(List (List Int))):KT:=fun kk I' ah v=>
  ∃ a0 c0 s0,ah=[.osl (.slice a0 r.length c0) (Rp.sz (List Int)) s0]/\v=tupV [(.slice a0 r.length c0)]/\RepL (Rp.rep I') (Rp.sz (List Int)) s0 r
mutual
def uD (out:(List (List Int))) (nest:(List zE)) (p2:(List Int)):Option ((List (List Int))):=do
 if ((p2.length:Int)==(nest.length:Int)) then
  let l<-app 8 ([]:List Int) p2
  let t6<-app 24 out ([l]:List (List Int))
  pure (id t6)
 else
  let x<-idx nest (p2.length:Int)
  let (y1,y2)<-mB x p2
  let au<-tT (same nest) (same p2) (same y2) (same out) (same y1)
  pure (id au)
 partial_fixpoint
def tT (nest:(List zE)) (p2:(List Int)) (y2:Int) (al:List (List Int)) (v04:Int):Option (List (List Int)):=do
 let t39<-(do
   if (decide (v04<y2)) then
    pure (decide ((al.length:Int)<=120))
   else
    pure false
     : Option Bool)
 if t39 then
  let l1<-app 8 ([]:List Int) p2
  let l2<-app 8 l1 ([v04]:List Int)
  let y3<-uD (same al) (same nest) (same l2)
  tT (same nest) (same p2) (same y2) (same y3) (W (v04+1))
 else
  pure (id al)
 partial_fixpoint
end
theorem zFL:(∀ (out:(List (List Int))) (nest:(List zE)) (p2:(List Int)) r,uD out nest p2=some r->∀ {I:Imm}{p c cs p1 c1 p3 c2},(RL I cs out)->(S4 I p1 nest c1)->(S4 I p3 p2 c2)->RT 75 [vS p out c,vS p1 nest c1,vS p3 p2 c2] I [hO (List Int) (vS p out c) cs] (zAu  r))/\(∀ (nest:(List zE)) (p2:(List Int)) (y2:Int) (al:List (List Int)) (v04:Int) o,tT nest p2 y2 al v04=some o->∀ {B}{I0 I:Imm}{Q p1 c1 p3 c2 p8 c7 aT},I0.le I->(S4 I p1 nest c1)->(S4 I p3 p2 c2)->(RL I aT al)->NG Q->NO Q->(∀ (I':Imm) (au:List (List Int)) (p9:Option Addr) (c8:Nat) (bt:List Value),o=au->I0.le I'->(RL I' bt au)->T 52 B Q (.exit 0) I' [hO (List Int) (vS p9 au c8) bt] [(0,vS p9 au c8)])->J Tryz.prog 52 B (nav (bodyOf f75) [1,1,1,0,1,0]) Q I [hO (List Int) (vS p8 al c7) aT] [(0,vS p8 al c7),(1,vS p1 nest c1),(2,vS p3 p2 c2),(8,vI y2),(9,vI v04)]):=by
  refine uD.mutual_partial_correctness _ _ ?_ ?_
  · intro F_spec_l2Points_l1 ih_spec_l2Points_l1 out nest p2 r N I p c cs p1 c1 p3 c2 h h1 h2;refine yJ func75 fun B=>wP []<|zX<|yF [14] rfl<|zG<|yC N ?_ ?_
    · intro hc N;refine yE<|yB 1 [] [15] rfl<|uK [] Int ?_;intro b hb;have h3:RL I [] ([]:List Int):=rfl;refine yB 3 [] [17] rfl ?_;obtain ⟨aQ,k0,k01⟩:=h2;have h2:SL I (vS p3 p2 c2) p2:=⟨_,k0,k01⟩;obtain ⟨l,hy,N⟩:=zB N;refine sU 3 1 0 rfl rfl rfl h3 (.inl k0) k01 hy fun p4 c3 az h4=>tZ (zY [0,1] (ah:=[hO Int (vS p4 l c3) az,hO (List Int) (vS p out c) cs]))<|xH 0 rfl ?_;intro I0 le hl0;have h5:=SL.of_frozen hl0 le h4;have h:=iM le h;refine uK [vS p4 l c3] (List Int) ?_;intro b1 hb1;have h6:RL I0 [vS p4 l c3] ([l]:List (List Int)):=⟨[vS p4 l c3],_,rfl,rfl,⟨_,rfl,h5⟩,rfl⟩;obtain ⟨t6,aB,N⟩:=zB N;refine sU 27 1 1 rfl rfl rfl h (.inr ⟨0,rfl⟩) h6 aB fun p5 c4 aS h7=>tZ (zY [1] (ah:=[hO (List Int) (vS p5 t6 c4) aS]))<|yH [] [6] rfl<|xD<|zH ?_;obtain rfl:=zC N;exact yZ ⟨_,_,(.tmp rfl ResV.nil),(zW [0] rfl (by decide)),⟨_,_,_,rfl,rfl,h7⟩⟩
    intro hc N;refine zS<|yX<|yB 3 [] [22,24] rfl<|bE N fun x aN N=>xK rfl rfl h1 aN ?_;intro ad bv ar ap;obtain ⟨p6,c5,p7,c6,rfl,h8,h9⟩:=sR ap;refine xB 0 ar (cLoop x p6 c5 p7 c6) (vA (cLoop x p6 c5 p7 c6)) rfl<|yB 6 [] [27] rfl ?_;obtain ⟨⟨y1,y2⟩,bm,N⟩:=zB N;refine xL (zCe x p2 _ bm h8 h9 h2) ?_;rintro aW ay v2 k2 af - ⟨v02,v03,rfl,rfl,rfl,rfl⟩ -;have ⟨h,h1,h2⟩:=m3 af h h1 h2;refine yH [] [7,8] rfl<|zX<|yF [9] rfl<|xX<|rU [(0,vS p out c),(1,vS p1 nest c1),(2,vS p3 p2 c2),(8,vI y2),(9,vI y1)] ?_;obtain ⟨aP,aA,aM⟩:=zB N;refine ih_spec_l2Points_l1 nest p2 y2 out y1 aP aA iR h1 h2 h (fun _ _ _ h=>h) (fun _ _ h=>h) ?_;intro bR au p9 c8 bt heq1 bz h13;subst aP;refine zR<|wM [6] rfl<|zG<|yW ?_;obtain rfl:=zC aM;exact yZ ⟨_,_,(.tmp rfl ResV.nil),(zW [0] rfl (by decide)),⟨_,_,_,rfl,rfl,h13⟩⟩
  intro F_spec_l2Points F_spec_l2Points_l1 ih_spec_l2Points ih_spec_l2Points_l1 nest p2 y2 al v04 o N B I0 I Q p1 c1 p3 c2 p8 c7 aT H h1 h2 h12 hg ho hx;refine yM hg ho<|zZ<|zZ ?_;refine wO N [hO (List Int) (vS p8 al c7) aT] (fun t39=>[(0,vS p8 al c7),(1,vS p1 nest c1),(2,vS p3 p2 c2),(8,vI y2),(9,vI v04),(39,.bool t39)]) (fun o0 aD=>?_) ?_
  · have H:=iS I;refine zJ<|yB 4 [] [35] rfl<|xV [35] aD ?_ ?_
    · intro aI N;exact yH [] [39] rfl<|yL<|zU (ct N H)
    intro aI N;exact wG [] [(39,vF)]<|yL<|zU (ct N H)
  intro t39 ba aF aU;have ⟨h12,h1,h2,H⟩:=m4 aF h12 h1 h2 H;refine zG<|yC aU ?_ ?_
  · intro aX N;refine zS<|zX<|yG<|zJ<|yB 2 [] [42,43] rfl<|uK [] Int ?_;intro b2 hb2;have h14:RL ba [] ([]:List Int):=rfl;refine yB 4 [] [45] rfl ?_;obtain ⟨bP,k02,k03⟩:=h2;have h2:SL ba (vS p3 p2 c2) p2:=⟨_,k02,k03⟩;obtain ⟨l1,bw,N⟩:=zB N;refine sU 3 1 0 rfl rfl rfl h14 (.inl k02) k03 bw fun bi c9 bJ h15=>tZ (zY [0,1] (ah:=[hO Int (vS bi l1 c9) bJ,hO (List Int) (vS p8 al c7) aT]))<|yB 6 [] [47] rfl<|uK [vI v04] Int ?_;intro b3 hb3;have h16:RL ba [vI v04] ([v04]:List Int):=rI [v04];obtain ⟨l2,bI,N⟩:=zB N;refine sU 3 1 1 rfl rfl rfl h15 (.inr ⟨0,rfl⟩) h16 bI fun aR bh cs6 h17=>tZ (zY [1,2] (ah:=[hO Int (vS aR l2 bh) cs6,hO (List Int) (vS p8 al c7) aT]))<|xH 0 rfl ?_;intro bH aK hl01;have h18:=SL.of_frozen hl01 aK h17;have ⟨h1,h2,h12,H⟩:=m4 aK h1 h2 h12 H;obtain ⟨y3,hy6,N⟩:=zB N;refine sJ (ih_spec_l2Points al nest l2 _ hy6 h12 h1 h18) rfl ?_;rintro bL ay v2 k2 bk - ⟨bD,bc,cs7,rfl,rfl,h19⟩ -;have ⟨h1,h2,H⟩:=m3 bk h1 h2 H;exact yH [] [0] rfl<|zM<|zG<|zJ<|yH [] [9] rfl<|yK<|oY<|ih_spec_l2Points_l1 nest p2 y2 y3 (W (v04+1)) _ N H h1 h2 h19 hg ho hx
  intro aX N;exact wJ<|yL<|hx _ _ _ _ _ (zC N).symm H h12
theorem zBs:∀ out nest p2 r,uD out nest p2=some r->∀ {I:Imm}{p c cs p1 c1 p3 c2},(RL I cs out)->(S4 I p1 nest c1)->(S4 I p3 p2 c2)->RT 75 [vS p out c,vS p1 nest c1,vS p3 p2 c2] I [hO (List Int) (vS p out c) cs] (zAu  r):=zFL.1
def sC (list:(List zA)) (aa:Int) (i:Int):Option (Out Unit (Bool)):=do
 if (decide (i<(list.length:Int))) then
  let t26<-(do
    let x<-idx list i
    let y<-uL x
    if (!y) then
     pure true
    else
     let x1<-idx list i
     let y1<-pV x1
     pure (decide (y1>aa))
      : Option Bool)
  if t26 then
   pure (.ret false)
  else
   sC list aa (W (i+1))
 else
  pure (.done ())
 partial_fixpoint
theorem zFM (list:(List zA)) (aa:Int):∀ (i:Int) (o:Out Unit (Bool)),sC list aa i=some o->∀ {B}{I0 I:Imm}{Q p c},I0.le I->(S4 I p list c)->NG Q->NO Q->(∀ (I':Imm) ,o=(.done ())->I0.le I'->T 35 B Q (.exit 0) I' [] [(0,vS p list c)])->(∀ r I' ah m',o=(.ret r)->I0.le I'->RS Tryz.prog f224 B (zT  r) I' ah m'->T 35 B Q .ret I' ah m')->J Tryz.prog 35 B (nav (bodyOf f224) [1,0,1,0]) Q I [] [(0,vS p list c),(1,vI aa),(5,vI i)]:=by
 refine sC.partial_correctness list aa _ fun aJ ih i o N B I0 I Q p c H h hg ho hx hr=>yM hg ho<|zZ<|yF [9] rfl<|zG<|yC N ?_ ?_
 · intro hc N;refine zS<|zX<|yG<|zZ ?_;refine wO N [] (fun t26=>[(0,vS p list c),(1,vI aa),(5,vI i),(26,.bool t26)]) (fun o0 aD=>?_) ?_
   · have H:=iS I;refine zJ<|yB 2 [] [12,13] rfl ?_;obtain ⟨x,hy,N⟩:=zB aD;refine xK rfl rfl h hy ?_;intro ad aQ ar ap;obtain ⟨p1,c1,rfl,h1⟩:=yQ ap;refine xB 0 ar (cAff x p1 c1) (vA (cAff x p1 c1)) rfl<|bE N fun y aB N=>vQ (jP x _ aB h1) ?_;intro aW le;have ⟨h,H⟩:=m2 le h H;refine yB 7 [] [18] rfl<|xV [18] N ?_ ?_
     · intro aI N;exact wG [] [(26,vY)]<|yL<|zU (ct N H)
     intro aI N;refine yB 9 [] [19,20] rfl<|bE N fun x1 aN N=>xK rfl rfl h aN ?_;intro ad1 bv av ax;obtain ⟨p2,c2,rfl,h3⟩:=yQ ax;refine xB 0 av (cAff x1 p2 c2) (vA (cAff x1 p2 c2)) rfl<|bE N fun y1 bm N=>fK (zA2 x1 _ bm h3) ?_;intro ba af;have H:=H.trans af;exact yH [] [26] rfl<|yL<|zU (ct N H)
   intro t26 I0 aF aU;have ⟨h,H⟩:=m2 aF h H;refine zG<|yC aU ?_ ?_
   · intro aX N;exact wP [(4,vF)]<|xD<|zV<|zH<|zH<|hr _ _ _ _ (zC N).symm H ⟨_,_,(.tmp rfl ResV.nil),zQ,⟨_,rfl,rfl,rfl⟩⟩
   intro aX N;exact zS<|zM<|zG<|zJ<|yH [] [5] rfl<|yK<|oY<|ih (W (i+1)) _ N H h hg ho hx hr
 intro hc N;exact wJ<|yL<|hx _  (zC N).symm H
def mW (list:(List zA)) (aa:Int):Option (Bool):=do
 match<-sC list aa 0 with
 | .ret r0=>pure r0
 | .done _ =>
  let t4<-(do
    if (decide ((list.length:Int)>=1)) then
     pure (decide ((list.length:Int)<=2))
    else
     pure false
      : Option Bool)
  pure (id t4)
theorem zDF:∀ list aa r,mW list aa=some r->∀ {I:Imm}{p c},(S4 I p list c)->RT 224 [vS p list c,vI aa] I [] (zT  r):=by
 intro list aa r N I p c h;unfold mW at N;refine yJ func224 fun B=>?_;have H:=iS I;refine wP []<|zX<|yF [5] rfl<|xX<|rU [(0,vS p list c),(1,vI aa),(5,vI 0)] ?_;obtain ⟨aP,aA,aM⟩:=zB N;refine zFM list aa 0 aP aA iR h (fun _ _ _ h=>h) (fun _ _ h=>h) ?_ ?_
 · intro bH  heq1 aK;subst aP;have H:=H.trans aK;refine zR<|zG<|zZ ?_;refine wO aM [] (fun t4=>[(4,.bool t4)]) (fun o02 ho02=>?_) ?_
   · have H:=iS bH;refine zJ<|yB 4 [] [30] rfl<|xV [30] ho02 ?_ ?_
     · intro bK N;exact yH [] [4] rfl<|yL<|zU (ct N H)
     intro bK N;exact wG [] [(4,vF)]<|yL<|zU (ct N H)
   intro t4 bL bk hMc1;refine zG<|yW ?_;obtain rfl:=zC hMc1;exact wI
 intro r0 I9 hs9 m9 aZ le9 bb;subst aZ;refine zV<|zH ?_;obtain rfl:=zC aM;exact yZ bb
def vE (nest:(List zE)) (i:Int):Option (Out Unit (Bool)):=do
 let t12<-(do
   if (decide (i<(nest.length:Int))) then
    pure (decide ((nest.length:Int)<=4))
   else
    pure false
     : Option Bool)
 if t12 then
  let t32<-(do
    let x<-idx nest i
    let y<-mW x.Lo i
    if (!y) then
     pure true
    else
     let x1<-idx nest i
     let y1<-mW x1.Hi i
     pure (!y1)
      : Option Bool)
  if t32 then
   pure (.ret false)
  else
   vE nest (W (i+1))
 else
  pure (.done ())
 partial_fixpoint
theorem zDG (nest:(List zE)):∀ (i:Int) (o:Out Unit (Bool)),vE nest i=some o->∀ {B}{I0 I:Imm}{Q p c},I0.le I->(S4 I p nest c)->NG Q->NO Q->(∀ (I':Imm) ,o=(.done ())->I0.le I'->T 36 B Q (.exit 0) I' [] [(0,vS p nest c)])->(∀ r I' ah m',o=(.ret r)->I0.le I'->RS Tryz.prog f184 B (zT  r) I' ah m'->T 36 B Q .ret I' ah m')->J Tryz.prog 36 B (nav (bodyOf f184) [1,0,1,0]) Q I [] [(0,vS p nest c),(3,vI i)]:=by
 refine vE.partial_correctness nest _ fun aJ ih i o N B I0 I Q p c H h hg ho hx hr=>yM hg ho<|zZ<|zZ ?_;refine wO N [] (fun t12=>[(0,vS p nest c),(3,vI i),(12,.bool t12)]) (fun o0 aD=>?_) ?_
 · have H:=iS I;refine zJ<|yB 5 [] [8] rfl<|xV [8] aD ?_ ?_
   · intro hc N;exact yH [] [12] rfl<|yL<|zU (ct N H)
   intro hc N;exact wG [] [(12,vF)]<|yL<|zU (ct N H)
 intro t12 I0 le aU;have ⟨h,H⟩:=m2 le h H;refine zG<|yC aU ?_ ?_
 · intro aI N;refine zS<|zX<|yG<|zZ ?_;refine wO N [] (fun t32=>[(0,vS p nest c),(3,vI i),(32,.bool t32)]) (fun aP aA=>?_) ?_
   · have H:=iS I0;refine zJ<|yB 2 [] [15,16] rfl ?_;obtain ⟨x,hy,N⟩:=zB aA;refine xK rfl rfl h hy ?_;intro ad aQ ar ap;obtain ⟨p1,c1,p2,c2,rfl,h1,h2⟩:=sR ap;refine yB 4 [] [18] rfl<|xB 0 ar [vS p1 x.Lo c1] (vS p1 x.Lo c1) rfl<|yB 6 [] [20] rfl<|bE N fun y aB N=>vQ (zDF x.Lo i _ aB h1) ?_;intro ba af;have ⟨h,H⟩:=m2 af h H;refine yB 9 [] [23] rfl<|xV [23] N ?_ ?_
     · intro aX N;exact wG [] [(32,vY)]<|yL<|zU (ct N H)
     intro aX N;refine yB 11 [] [24,25] rfl<|bE N fun x1 aN N=>xK rfl rfl h aN ?_;intro ad1 bv av ax;obtain ⟨p3,c3,p4,c4,rfl,h4,h5⟩:=sR ax;refine yB 13 [] [27] rfl<|xB 1 av [vS p4 x1.Hi c4] (vS p4 x1.Hi c4) rfl<|yB 15 [] [29] rfl<|bE N fun y1 bm N=>vQ (zDF x1.Hi i _ bm h5) ?_;intro bH aF;have H:=H.trans aF;exact yH [] [32] rfl<|yL<|zU (ct N H)
   intro t32 aW aK hMc1;have ⟨h,H⟩:=m2 aK h H;refine zG<|yC hMc1 ?_ ?_
   · intro bK N;exact wP [(2,vF)]<|xD<|zV<|zH<|zH<|hr _ _ _ _ (zC N).symm H ⟨_,_,(.tmp rfl ResV.nil),zQ,⟨_,rfl,rfl,rfl⟩⟩
   intro bK N;exact zS<|zM<|zG<|zJ<|yH [] [3] rfl<|yK<|oY<|ih (W (i+1)) _ N H h hg ho hx hr
 intro aI N;exact wJ<|yL<|hx _  (zC N).symm H
def nE (nest:(List zE)):Option (Bool):=do
 match<-vE nest 0 with
 | .ret r0=>pure r0
 | .done _ =>
  pure (decide ((nest.length:Int)<=4))
theorem zFN:∀ nest r,nE nest=some r->∀ {I:Imm}{p c},(S4 I p nest c)->RT 184 [vS p nest c] I [] (zT  r):=by
 intro nest r N I p c h;unfold nE at N;refine yJ func184 fun B=>wP []<|zX<|yF [3] rfl<|xX<|rU [(0,vS p nest c),(3,vI 0)] ?_;obtain ⟨o02,ho02,aM⟩:=zB N;refine zDG nest 0 o02 ho02 iR h (fun _ _ _ h=>h) (fun _ _ h=>h) ?_ ?_
 · intro bL  heq2 bk;subst o02;refine zR<|wM [2] rfl<|zG<|yW ?_;obtain rfl:=zC aM;exact wI
 intro r0 I9 hs9 m9 aZ le9 bb;subst aZ;refine zV<|zH ?_;obtain rfl:=zC aM;exact yZ bb
mutual
def rD (nest:(List zE)) (p1:(List Int)) (most:Int):Option (Int):=do
 if ((p1.length:Int)==(nest.length:Int)) then
  pure (id 1)
 else
  let x<-idx nest (p1.length:Int)
  let (y1,y2)<-mB x p1
  let n01<-rK (same nest) (same p1) (same most) (same y2) (same 1) (same y1)
  pure (id n01)
 partial_fixpoint
def rK (nest:(List zE)) (p1:(List Int)) (most:Int) (y2:Int) (n0:Int) (v04:Int):Option (Int):=do
 let t35<-(do
   if (decide (v04<y2)) then
    pure (decide (n0<=most))
   else
    pure false
     : Option Bool)
 if t35 then
  let l<-app 8 ([]:List Int) p1
  let l1<-app 8 l ([v04]:List Int)
  let y3<-rD (same nest) (same l1) (W (most - n0))
  rK (same nest) (same p1) (same most) (same y2) (W (n0+y3)) (W (v04+1))
 else
  pure (id n0)
 partial_fixpoint
end
theorem zGx:(∀ (nest:(List zE)) (p1:(List Int)) (most:Int) r,rD nest p1 most=some r->∀ {I:Imm}{p c p2 c1},(S4 I p nest c)->(S4 I p2 p1 c1)->RT 185 [vS p nest c,vS p2 p1 c1,vI most] I [] (yS  r))/\(∀ (nest:(List zE)) (p1:(List Int)) (most:Int) (y2:Int) (n0:Int) (v04:Int) o,rK nest p1 most y2 n0 v04=some o->∀ {B}{I0 I:Imm}{Q p c p2 c1},I0.le I->(S4 I p nest c)->(S4 I p2 p1 c1)->NG Q->NO Q->(∀ (I':Imm) (n01:Int),o=n01->I0.le I'->T 52 B Q (.exit 0) I' [] [(7,vI n01)])->J Tryz.prog 52 B (nav (bodyOf f185) [1,1,1,1,0,1,0]) Q I [] [(0,vS p nest c),(1,vS p2 p1 c1),(2,vI most),(7,vI n0),(9,vI y2),(10,vI v04)]):=by
  refine rD.mutual_partial_correctness _ _ ?_ ?_
  · intro F_spec_l2Work_l1 ih_spec_l2Work_l1 nest p1 most r N I p c p2 c1 h h1;refine yJ func185 fun B=>wP []<|wM [7] rfl<|zX<|yF [15] rfl<|zG<|yC N ?_ ?_
    · intro hc N;refine yF [6] rfl<|xD<|zH ?_;obtain rfl:=zC N;exact wI
    intro hc N;refine zS<|yX<|yB 3 [] [18,20] rfl<|bE N fun x hy N=>xK rfl rfl h hy ?_;intro ad aQ ar ap;obtain ⟨p3,c2,p4,c3,rfl,h2,h3⟩:=sR ap;refine xB 0 ar (cLoop x p3 c2 p4 c3) (vA (cLoop x p3 c2 p4 c3)) rfl<|yB 6 [] [23] rfl ?_;obtain ⟨⟨y1,y2⟩,aB,N⟩:=zB N;refine xL (zCe x p1 _ aB h2 h3 h1) ?_;rintro I0 ay v2 k2 le - ⟨v02,v03,rfl,rfl,rfl,rfl⟩ -;have ⟨h,h1⟩:=m2 le h h1;refine yH [] [8,9] rfl<|zX<|yF [10] rfl<|xX<|rU [(0,vS p nest c),(1,vS p2 p1 c1),(2,vI most),(7,vI 1),(9,vI y2),(10,vI y1)] ?_;obtain ⟨aP,aA,aM⟩:=zB N;refine ih_spec_l2Work_l1 nest p1 most y2 1 y1 aP aA iR h h1 (fun _ _ _ h=>h) (fun _ _ h=>h) ?_;intro bL n01 heq1 bk;subst aP;refine zR<|wM [6] rfl<|zG<|yW ?_;obtain rfl:=zC aM;exact wI
  intro F_spec_l2Work F_spec_l2Work_l1 ih_spec_l2Work ih_spec_l2Work_l1 nest p1 most y2 n0 v04 o N B I0 I Q p c p2 c1 H h h1 hg ho hx;refine yM hg ho<|zZ<|zZ ?_;refine wO N [] (fun t35=>[(0,vS p nest c),(1,vS p2 p1 c1),(2,vI most),(7,vI n0),(9,vI y2),(10,vI v04),(35,.bool t35)]) (fun o0 aD=>?_) ?_
  · have H:=iS I;refine zJ<|yB 4 [] [31] rfl<|xV [31] aD ?_ ?_
    · intro aI N;exact yH [] [35] rfl<|yL<|zU (ct N H)
    intro aI N;exact wG [] [(35,vF)]<|yL<|zU (ct N H)
  intro t35 aW af aU;have ⟨h,h1,H⟩:=m3 af h h1 H;refine zG<|yC aU ?_ ?_
  · intro aX N;refine zS<|zX<|yG<|zJ<|yB 2 [] [38,39] rfl<|uK [] Int ?_;intro b hb;have h6:RL aW [] ([]:List Int):=rfl;refine yB 4 [] [41] rfl ?_;obtain ⟨bv,k0,k01⟩:=h1;have h1:SL aW (vS p2 p1 c1) p1:=⟨_,k0,k01⟩;obtain ⟨l,aN,N⟩:=zB N;refine sU 3 1 0 rfl rfl rfl h6 (.inl k0) k01 aN fun p5 c4 cs h7=>tZ (zY [0] (ah:=[hO Int (vS p5 l c4) cs]))<|yB 6 [] [43] rfl<|uK [vI v04] Int ?_;intro b1 hb1;have h8:RL aW [vI v04] ([v04]:List Int):=rI [v04];obtain ⟨l1,bm,N⟩:=zB N;refine sU 3 1 1 rfl rfl rfl h7 (.inr ⟨0,rfl⟩) h8 bm fun p6 c5 az h9=>tZ (zY [1] (ah:=[hO Int (vS p6 l1 c5) az]))<|yB 11 [] [48] rfl<|xH 0 rfl ?_;intro ba aF hl0;have h10:=SL.of_frozen hl0 aF h9;have ⟨h,h1,H⟩:=m3 aF h h1 H;obtain ⟨y3,bw,N⟩:=zB N;refine xL (ih_spec_l2Work nest l1 (W (most - n0)) _ bw h h10) ?_;rintro bH ay v2 k2 aK - ⟨v05,rfl,rfl,rfl⟩ -;have ⟨h,h1,H⟩:=m3 aK h h1 H;exact yH [] [7] rfl<|zM<|zG<|zJ<|yH [] [10] rfl<|yK<|oY<|ih_spec_l2Work_l1 nest p1 most y2 (W (n0+y3)) (W (v04+1)) _ N H h h1 hg ho hx
  intro aX N;exact wJ<|yL<|hx _ _ (zC N).symm H
theorem zHl:∀ nest p1 most r,rD nest p1 most=some r->∀ {I:Imm}{p c p2 c1},(S4 I p nest c)->(S4 I p2 p1 c1)->RT 185 [vS p nest c,vS p2 p1 c1,vI most] I [] (yS  r):=zGx.1
def zAW (r:(List (List Int))×Bool):KT:=fun kk I' ah v=>
  ∃ v0 v1,ah=[]/\v=tupV [v0,v1]/\SL I' v0 r.1/\v1=.bool r.2
def pY (nest:(List zE)):Option ((List (List Int))×Bool):=do
 let t12<-(do
   let y<-nE nest
   if (!y) then
    pure true
   else
    let y1<-rD nest ([]:List Int) 1200
    pure (decide (y1>1200))
     : Option Bool)
 if t12 then
  pure (([]:List (List Int)),false)
 else
  let y2<-uD ([]:List (List Int)) nest ([]:List Int)
  if (decide ((y2.length:Int)>120)) then
   pure (([]:List (List Int)),false)
  else
   pure (y2,true)
theorem zEZ:∀ nest r,pY nest=some r->∀ {I:Imm}{p c},(S4 I p nest c)->RT 145 [vS p nest c] I [] (zAW  r):=by
 intro nest r N I p c h;unfold pY at N;refine yJ func145 fun B=>?_;have H:=iS I;refine wP []<|zX<|zZ ?_;refine wO N [] (fun t12=>[(0,vS p nest c),(12,.bool t12)]) (fun o0 aD=>?_) ?_
 · have H:=iS I;refine zJ<|yB 1 [] [5] rfl ?_;obtain ⟨y,hy,N⟩:=zB aD;refine vQ (zFN nest _ hy h) ?_;intro aW le;have ⟨h,H⟩:=m2 le h H;refine yB 4 [] [8] rfl<|xV [8] N ?_ ?_
   · intro hc N;exact wG [] [(12,vY)]<|yL<|zU (ct N H)
   intro hc N;refine yB 5 [] [9] rfl<|bE N fun y1 aB N=>fK (zHl nest ([]:List Int) 1200 _ aB h (SL.nil _)) ?_;intro ba af;have H:=H.trans af;exact yH [] [12] rfl<|yL<|zU (ct N H)
 intro t12 I0 aF aU;have h:=h.mono aF;refine zG<|yC aU ?_ ?_
 · intro aI N;refine yE<|uK [] (List Int) ?_;intro b hb;have h3:RL I0 [] ([]:List (List Int)):=rfl;refine yH [] [2,3] rfl<|xD<|zH<|yU 0 rfl ?_;intro bH aK hl0;have h4:=SL.of_frozen hl0 aK h3;obtain rfl:=zC N;exact yZ ⟨_,_,(.tmp rfl (.tmp rfl ResV.nil)),zQ,⟨_,_,rfl,rfl,h4,rfl⟩⟩
 intro aI N;refine zS<|yX<|uK [] (List Int) ?_;intro b1 hb1;have h5:RL I0 [] ([]:List (List Int)):=rfl;refine yB 2 [] [15] rfl<|bE N fun y2 aN N=>sJ (zBs ([]:List (List Int)) nest ([]:List Int) _ aN h5 h (SL.nil _)) rfl ?_;rintro bL ay v2 k2 bk - ⟨p1,c1,cs,rfl,rfl,h6⟩ -;refine yH [] [4] rfl<|zX<|yF [19] rfl<|zG<|yC N ?_ ?_
 · intro aX N;refine yE<|uK [] (List Int) ?_;intro b2 hb2;have h7:RL bL [] ([]:List (List Int)):=rfl;refine yH [] [2,3] rfl<|xD<|zH<|yU 0 rfl ?_;intro bR bz hl01;have h8:=SL.of_frozen hl01 bz h7;obtain rfl:=zC N;exact yZ ⟨_,_,(.tmp rfl (.tmp rfl ResV.nil)),zQ,⟨_,_,rfl,rfl,h8,rfl⟩⟩
 intro aX N;refine zS<|wM [2,3] rfl<|xD<|yU 0 rfl ?_;intro I06 bC hl02;have h9:=SL.of_frozen hl02 bC h6;obtain rfl:=zC N;exact yZ ⟨_,_,(.tmp rfl (.tmp rfl ResV.nil)),zQ,⟨_,_,rfl,rfl,h9,rfl⟩⟩
def zBU (r:(List zL)):KT:=fun kk I' ah v=>
  ∃ a0 c0 s0,ah=[.osl (.slice a0 r.length c0) (Rp.sz zL) s0]/\v=tupV [(.slice a0 r.length c0)]/\RepL (Rp.rep I') (Rp.sz zL) s0 r
mutual
def sX (out:(List zL)) (e0:zI):Option ((List zL)):=do
 let al<-(do
   if (e0.Kind==3) then
    let y<-uQ e0.Read
    let au<-app 40 out ([y]:List zL)
    pure (id au)
   else
    pure (id out)
     : Option (List zL))
 let bf<-wT (same e0) (same al) (same 0)
 pure (id bf)
 partial_fixpoint
def wT (e0:zI) (aH:List zL) (i:Int):Option (List zL):=do
 if (decide (i<(e0.Kids.length:Int))) then
  let x<-idx e0.Kids i
  let y1<-sX (same aH) (same x)
  wT (same e0) (same y1) (W (i+1))
 else
  pure (id aH)
 partial_fixpoint
end
theorem zGP:(∀ (out:(List zL)) (e0:zI) r,sX out e0=some r->∀ {I:Imm}{p c cs p1 c1 p2 c2 p3 c3},(RL I cs out)->(S4 I p1 e0.Index.Coefs c1)->(S4 I p2 e0.Read.Subs c2)->(S4 I p3 e0.Kids c3)->RT 189 [vS p out c,vA (cExpr e0 p1 c1 p2 c2 p3 c3)] I [hO zL (vS p out c) cs] (zBU  r))/\(∀ (e0:zI) (aH:List zL) (i:Int) o,wT e0 aH i=some o->∀ {B}{I0 I:Imm}{Q p1 c1 p2 c2 p3 c3}{b:Nat}{p7 c7 bt},I0.le I->(S4 I p1 e0.Index.Coefs c1)->(S4 I p2 e0.Read.Subs c2)->(S4 I p3 e0.Kids c3)->(RL I bt aH)->NG Q->NO Q->(∀ (I':Imm) (bf:List zL) (p8:Option Addr) (c8:Nat) (bJ:List Value),o=bf->I0.le I'->(RL I' bJ bf)->T 30 B Q (.exit 0) I' [hO zL (vS p8 bf c8) bJ] [(0,vS p8 bf c8)])->J Tryz.prog 30 B (nav (bodyOf f189) [1,1,0,1,0]) Q I [hB b (cExpr e0 p1 c1 p2 c2 p3 c3),hO zL (vS p7 aH c7) bt] [(0,vS p7 aH c7),(3,vP b 0),(5,vI i)]):=by
  refine sX.mutual_partial_correctness _ _ ?_ ?_
  · intro F_spec_l3Reads_l1 ih_spec_l3Reads_l1 out e0 r N I p c cs p1 c1 p2 c2 p3 c3 h h1 h2 h3;refine yJ func189 fun B=>?_;have H:=iS I;refine yE<|tO (cExpr e0 p1 c1 p2 c2 p3 c3) ?_;intro b hb;refine wG [] []<|zX<|yE<|yH [0] [8] rfl<|zG ?_;obtain ⟨o0,aD,aU⟩:=zB N;refine qF (fun I' ah m'=>∃ (al:List zL) (p4:Option Addr) (c4:Nat) (az:List Value),o0=al/\I.le I'/\(RL I' az al)/\ah=[hB b (cExpr e0 p1 c1 p2 c2 p3 c3),hO zL (vS p4 al c4) az]/\m'=[(0,vS p4 al c4),(3,vP b 0)]) ?_ ?_
    · have H:=iS I;refine yC aD ?_ ?_
      · intro hc N;refine zJ<|rQ 3 [0] [(9,vS p out c),(11,vA (cAccess e0.Read p2 c2))]<|bE N fun y hy N=>xL (fQ e0.Read _ hy h2) ?_;rintro aW ay v2 k2 le - ⟨p5,c5,aS,rfl,rfl,h5⟩ -;have ⟨h,H⟩:=m2 le h H;refine xH 0 rfl ?_;intro ba af hl0;have h6:=SL.of_frozen hl0 af h5;have ⟨h,H⟩:=m2 af h H;refine uK (cAccess y p5 c5) zL ?_;intro b1 hb1;have h7:RL ba (cAccess y p5 c5) ([y]:List zL):=⟨(cAccess y p5 c5),_,rfl,rfl,(mY ⟨_,rfl,h6⟩),rfl⟩;obtain ⟨au,aB,N⟩:=zB N;exact sU 93 2 2 rfl rfl rfl h (.inr ⟨0,rfl⟩) h7 aB fun p6 c6 aT h8=>tZ (zY [1,2] (ah:=[hB b (cExpr e0 p1 c1 p2 c2 p3 c3),hO zL (vS p6 au c6) aT]))<|yH [] [0] rfl<|yL<|zU ⟨_,_,_,_,(zC N).symm,H,h8,rfl,rfl⟩
      intro hc N;exact zS<|yL<|zU ⟨_,_,_,_,(zC N).symm,H,h,rfl,rfl⟩
    rintro I0 ay m2 ⟨al,p4,c4,az,heq,aF,h4,rfl,rfl⟩;subst o0;have ⟨h1,h2,h3⟩:=m3 aF h1 h2 h3;refine zX<|yF [5] rfl<|xX<|rU [(0,vS p4 al c4),(3,vP b 0),(5,vI 0)] ?_;obtain ⟨aP,aA,aM⟩:=zB aU;refine ih_spec_l3Reads_l1 e0 al 0 aP aA iR h1 h2 h3 h4 (fun _ _ _ h=>h) (fun _ _ h=>h) ?_;intro bL bf p8 c8 bJ heq1 bk h10;subst aP;refine zR<|wM [4] rfl<|zG<|yW ?_;obtain rfl:=zC aM;exact yZ ⟨_,_,(.tmp rfl ResV.nil),(zW [0] rfl (by decide)),⟨_,_,_,rfl,rfl,h10⟩⟩
  intro F_spec_l3Reads F_spec_l3Reads_l1 ih_spec_l3Reads ih_spec_l3Reads_l1 e0 aH i o N B I0 I Q p1 c1 p2 c2 p3 c3 b p7 c7 bt H h1 h2 h3 h9 hg ho hx;refine yM hg ho<|zZ<|yE<|yH [0] [19] rfl<|zG<|yC N ?_ ?_
  · intro aI N;refine zS<|zX<|yG<|zJ<|yB 4 [0] [22,24,25] rfl<|bE N fun x aN N=>xK rfl rfl h3 aN ?_;intro ad aQ ar ap;obtain ⟨p9,c9,bi,bh,aR,bc,rfl,h11,h12,h13⟩:=tS ap;refine xB 0 ar (cExpr x p9 c9 bi bh aR bc) (vA (cExpr x p9 c9 bi bh aR bc)) rfl<|tZ (zY [1,0] (ah:=[hO zL (vS p7 aH c7) bt,hB b (cExpr e0 p1 c1 p2 c2 p3 c3)]))<|bE N fun y1 bm N=>sJ (ih_spec_l3Reads aH x _ bm h9 h11 h12 h13) rfl ?_;rintro bH ay v2 k2 aK - ⟨bD,bo,cs6,rfl,rfl,h14⟩ -;have ⟨h1,h2,h3,H⟩:=m4 aK h1 h2 h3 H;exact yH [] [0] rfl<|zM<|zG<|zJ<|yH [] [5] rfl<|yK<|kE (zW [1,0] rfl (by decide))<|oY<|ih_spec_l3Reads_l1 e0 y1 (W (i+1)) _ N H h1 h2 h3 h14 hg ho hx
  intro aI N;exact wJ<|xQ (zW [1] rfl (by decide))<|yL<|hx _ _ _ _ _ (zC N).symm H h9
theorem zGy:∀ out e0 r,sX out e0=some r->∀ {I:Imm}{p c cs p1 c1 p2 c2 p3 c3},(RL I cs out)->(S4 I p1 e0.Index.Coefs c1)->(S4 I p2 e0.Read.Subs c2)->(S4 I p3 e0.Kids c3)->RT 189 [vS p out c,vA (cExpr e0 p1 c1 p2 c2 p3 c3)] I [hO zL (vS p out c) cs] (zBU  r):=zGP.1
def sD (a0:zF) (n0:Int) (i:Int):Option (Int):=do
 if (decide (i<(a0.Dims.length:Int))) then
  let x<-idx a0.Dims i
  sD a0 (W (n0*x)) (W (i+1))
 else
  pure (id n0)
 partial_fixpoint
theorem zFO (a0:zF):∀ (n0:Int) (i:Int) (o:Int),sD a0 n0 i=some o->∀ {B}{I0 I:Imm}{Q p c}{b:Nat},I0.le I->(S4 I p a0.Dims c)->NG Q->NO Q->(∀ (I':Imm) (n01:Int),o=n01->I0.le I'->T 20 B Q (.exit 0) I' [] [(3,vI n01)])->J Tryz.prog 20 B (nav (bodyOf f229) [1,1,0,1,0]) Q I [hB b (cArr a0 p c)] [(1,vP b 0),(3,vI n0),(4,vI i)]:=by
 refine sD.partial_correctness a0 _ fun aJ ih n0 i o N B I0 I Q p c b H h hg ho hx=>yM hg ho<|zZ<|yE<|yH [0] [9] rfl<|zG<|yC N ?_ ?_
 · intro hc N;refine zS<|zX<|yG<|zJ<|yB 4 [0] [12,14,15] rfl<|bE N fun x hy N=>xK rfl rfl h hy ?_;intro ad aQ ar ap;obtain rfl:=ap;exact xB 0 ar [vI x] (vI x) rfl<|yH [] [3] rfl<|zM<|zG<|zJ<|yH [] [4] rfl<|yK<|oY<|ih (W (n0*x)) (W (i+1)) _ N H h hg ho hx
 intro hc N;exact wJ<|xQ zQ<|yL<|hx _ _ (zC N).symm H
def jJ (a0:zF):Option (Int):=do
 let n01<-sD a0 1 0
 pure (id n01)
theorem zHm:∀ a0 r,jJ a0=some r->∀ {I:Imm}{p c},(S4 I p a0.Dims c)->RT 229 [vA (cArr a0 p c)] I [] (yS  r):=by
 intro a0 r N I p c h;unfold jJ at N;refine yJ func229 fun B=>yE<|tO (cArr a0 p c) ?_;intro b hb;refine wG [] []<|wM [3] rfl<|zX<|yF [4] rfl<|xX<|rU [(1,vP b 0),(3,vI 1),(4,vI 0)] ?_;obtain ⟨o0,aD,aM⟩:=zB N;refine zFO a0 1 0 o0 aD iR h (fun _ _ _ h=>h) (fun _ _ h=>h) ?_;intro I0 n01 heq le;subst o0;refine zR<|wM [2] rfl<|zG<|yW ?_;obtain rfl:=zC aM;exact wI
def uX (list:(List zF)) (a0:zL) (ag:(List Int)) (i:Int) (n0:Int) (k0:Int):Option (Out Int (Int)):=do
 if (decide (k0<(a0.Subs.length:Int))) then
  let x2<-idx list i
  if ((a0.Subs.length:Int) != (x2.Dims.length:Int)) then
   pure (.ret (-1))
  else
   let x3<-idx a0.Subs k0
   let y1<-qR x3 ag
   let t70<-(do
     if (decide (y1<0)) then
      pure true
     else
      let x4<-idx list i
      let x5<-idx x4.Dims k0
      pure (decide (y1>=x5))
       : Option Bool)
   if t70 then
    pure (.ret (-1))
   else
    let x6<-idx list i
    let x7<-idx x6.Dims k0
    uX list a0 ag i (W ((W (n0*x7))+y1)) (W (k0+1))
 else
  pure (.done n0)
 partial_fixpoint
theorem zFP (list:(List zF)) (a0:zL) (ag:(List Int)) (i:Int):∀ (n0:Int) (k0:Int) (o:Out Int (Int)),uX list a0 ag i n0 k0=some o->∀ {B}{I0 I:Imm}{Q}{base:Int}{p c p1 c1 p2 c2}{b:Nat},I0.le I->(S4 I p list c)->(S4 I p2 ag c2)->(S4 I p1 a0.Subs c1)->NG Q->NO Q->(∀ (I':Imm) (n01:Int),o=(.done n01)->I0.le I'->T 86 B Q (.exit 2) I' [] [(7,vI base),(9,vI n01)])->(∀ r I' ah m',o=(.ret r)->I0.le I'->RS Tryz.prog f190 B (yS  r) I' ah m'->T 86 B Q .ret I' ah m')->J Tryz.prog 86 B (nav (bodyOf f190) [1,1,0,1,0,0,1,0,0,1,1,0,1,0]) Q I [hB b (cAccess a0 p1 c1)] [(0,vS p list c),(2,vS p2 ag c2),(4,vP b 0),(7,vI base),(8,vI i),(9,vI n0),(10,vI k0)]:=by
 refine uX.partial_correctness list a0 ag i _ fun aJ ih n0 k0 o N B I0 I Q base p c p1 c1 p2 c2 b H h h2 h1 hg ho hx hr=>yM hg ho<|zZ<|yE<|yH [0] [37] rfl<|zG<|yC N ?_ ?_
 · intro aX N;refine zS<|zX<|yG<|zZ<|zZ<|kF (by kernel_rfl) (by kernel_rfl)<|fL 5 [0] [42,43,44] rfl<|bE N fun x2 bm N=>dQ rfl rfl h bm ?_;intro ad2 bP aY bd;obtain ⟨p5,c5,rfl,h6⟩:=wU bd;refine fL 7 [] [46] rfl<|gX 1 aY [vS p5 x2.Dims c5] (vS p5 x2.Dims c5) rfl<|zGo [] [49] rfl<|zG<|yC N ?_ ?_
   · intro bK N;exact yF [6] rfl<|xD<|zH<|zV<|zH<|zH<|hr _ _ _ _ (zC N).symm H ⟨_,_,(.tmp rfl ResV.nil),zQ,⟨_,rfl,rfl,rfl⟩⟩
   intro bK N;refine zS<|yX<|yB 3 [0] [51,52] rfl<|bE N fun x3 bw N=>xK rfl rfl h1 bw ?_;intro ad3 ccs3 hat3 bG;obtain ⟨p6,c6,rfl,h7⟩:=yQ bG;refine xB 0 hat3 (cAff x3 p6 c6) (vA (cAff x3 p6 c6)) rfl<|yB 6 [] [55] rfl<|bE N fun y1 bI N=>fK (fV x3 ag _ bI h7 h2) ?_;intro aW af;have ⟨h,h2,h1,H⟩:=m4 af h h2 h1 H;refine yH [] [11] rfl<|zX<|zZ ?_;refine wO N [hB b (cAccess a0 p1 c1)] (fun t70=>[(0,vS p list c),(2,vS p2 ag c2),(4,vP b 0),(7,vI base),(8,vI i),(9,vI n0),(10,vI k0),(11,vI y1),(70,.bool t70)]) (fun o0 aD=>?_) ?_
   · have H:=iS aW;refine zJ<|yB 3 [] [59] rfl<|xV [59] aD ?_ ?_
     · intro bO N;exact wG [] [(70,vY)]<|yL<|zU (ct N H)
     intro bO N;refine yB 6 [] [60,61,62] rfl<|bE N fun x4 hy6 N=>xK rfl rfl h hy6 ?_;intro ad4 ccs4 hat4 hrep4;obtain ⟨p7,c7,rfl,h9⟩:=wU hrep4;refine yB 8 [] [64] rfl<|xB 1 hat4 [vS p7 x4.Dims c7] (vS p7 x4.Dims c7) rfl<|yB 10 [] [66] rfl<|bE N fun x5 hy7 N=>xK rfl rfl h9 hy7 ?_;intro ad5 ccs5 hat5 hrep5;obtain rfl:=hrep5;exact xB 0 hat5 [vI x5] (vI x5) rfl<|yH [] [70] rfl<|yL<|zU (ct N H)
   intro t70 ba aF aU;have ⟨h,h2,h1,H⟩:=m4 aF h h2 h1 H;refine zG<|yC aU ?_ ?_
   · intro hc5 N;exact yF [6] rfl<|xD<|zH<|zV<|zH<|zH<|hr _ _ _ _ (zC N).symm H ⟨_,_,(.tmp rfl ResV.nil),zQ,⟨_,rfl,rfl,rfl⟩⟩
   intro hc5 N;refine zS<|zG<|zJ<|yB 3 [] [71,72,73] rfl<|bE N fun x6 hy8 N=>xK rfl rfl h hy8 ?_;intro ad6 ccs6 hat6 hrep6;obtain ⟨p8,c8,rfl,h10⟩:=wU hrep6;refine yB 5 [] [75] rfl<|xB 1 hat6 [vS p8 x6.Dims c8] (vS p8 x6.Dims c8) rfl<|yB 7 [] [77] rfl<|bE N fun x7 hy9 N=>xK rfl rfl h10 hy9 ?_;intro ad7 ccs7 hat7 hrep7;obtain rfl:=hrep7;exact xB 0 hat7 [vI x7] (vI x7) rfl<|yH [] [9] rfl<|zM<|zG<|zJ<|yH [] [10] rfl<|yK<|oY<|ih (W ((W (n0*x7))+y1)) (W (k0+1)) _ N H h h2 h1 hg ho hx hr
 intro aX N;exact wJ<|xQ zQ<|yL<|hx _ _ (zC N).symm H
def uY (list:(List zF)) (a0:zL) (ag:(List Int)) (base:Int) (i:Int):Option (Out Unit (Int)):=do
 if (decide (i<(list.length:Int))) then
  let x<-idx list i
  if (!(x.Name.l==a0.Array.l)) then
   let x1<-idx list i
   let y<-jJ x1
   uY list a0 ag (W (base+y)) (W (i+1))
  else
   match<-uX list a0 ag i 0 0 with
   | .ret r0=>pure (.ret r0)
   | .done n01 =>
    pure (.ret (W (base+n01)))
 else
  pure (.done ())
 partial_fixpoint
theorem zFQ (list:(List zF)) (a0:zL) (ag:(List Int)):∀ (base:Int) (i:Int) (o:Out Unit (Int)),uY list a0 ag base i=some o->∀ {B}{I0 I:Imm}{Q p c p1 c1 p2 c2}{b:Nat},I0.le I->(S4 I p list c)->(S4 I p2 ag c2)->(S4 I p1 a0.Subs c1)->NG Q->NO Q->(∀ (I':Imm) ,o=(.done ())->I0.le I'->T 86 B Q (.exit 0) I' [] [])->(∀ r I' ah m',o=(.ret r)->I0.le I'->RS Tryz.prog f190 B (yS  r) I' ah m'->T 86 B Q .ret I' ah m')->J Tryz.prog 86 B (nav (bodyOf f190) [1,1,0,1,0]) Q I [hB b (cAccess a0 p1 c1)] [(0,vS p list c),(2,vS p2 ag c2),(4,vP b 0),(7,vI base),(8,vI i)]:=by
 refine uY.partial_correctness list a0 ag _ fun aJ ih base i o N B I0 I Q p c p1 c1 p2 c2 b H h h2 h1 hg ho hx hr=>yM hg ho<|zZ<|yF [15] rfl<|zG<|yC N ?_ ?_
 · intro hc N;refine zS<|zX<|yG<|zZ<|zZ<|kF (by kernel_rfl) (by kernel_rfl)<|fL 2 [] [18,19] rfl<|bE N fun x hy N=>dQ rfl rfl h hy ?_;intro ad aQ ar ap;obtain ⟨p3,c3,rfl,h3⟩:=wU ap;refine fL 4 [] [21] rfl<|gX 0 ar [vT x.Name.l] (vT x.Name.l) rfl<|zGo [0] [25] rfl<|zG<|yC N ?_ ?_
   · intro aI N;refine yE<|yB 3 [] [26,27,28] rfl<|bE N fun x1 aB N=>xK rfl rfl h aB ?_;intro ad1 bv av ax;obtain ⟨p4,c4,rfl,h4⟩:=wU ax;refine xB 0 av (cArr x1 p4 c4) (vA (cArr x1 p4 c4)) rfl<|bE N fun y aN N=>fK (zHm x1 _ aN h4) ?_;intro I0 le;have ⟨h,h2,h1,H⟩:=m4 le h h2 h1 H;exact yH [] [7] rfl<|zG<|zEG<|kX<|zR<|zG<|zJ<|yH [] [8] rfl<|yK<|oY<|ih (W (base+y)) (W (i+1)) _ N H h h2 h1 hg ho hx hr
   intro aI N;refine zS<|wM [9] rfl<|zX<|yF [10] rfl<|xX<|rU [(0,vS p list c),(2,vS p2 ag c2),(4,vP b 0),(7,vI base),(8,vI i),(9,vI 0),(10,vI 0)] ?_;obtain ⟨aP,aA,aM⟩:=zB N;refine zFP list a0 ag i 0 0 aP aA iR h h2 h1 (fun _ _ _ h=>hg _ _ _ h) (fun _ _ h=>ho _ _ h) ?_ ?_
   · intro bH n01 heq1 aK;subst aP;have H:=H.trans aK;exact zR<|wM [6] rfl<|xD<|zV<|zH<|zH<|hr _ _ _ _ (zC aM).symm H ⟨_,_,(.tmp rfl ResV.nil),zQ,⟨_,rfl,rfl,rfl⟩⟩
   intro r0 I9 hs9 m9 aZ le9 bb;subst aZ;exact zV<|zH<|zV<|zH<|zH<|hr _ _ _ _ (zC aM).symm (H.trans le9) bb
 intro hc N;exact wJ<|xQ zQ<|yL<|hx _  (zC N).symm H
def mX (list:(List zF)) (a0:zL) (ag:(List Int)):Option (Int):=do
 match<-uY list a0 ag 0 0 with
 | .ret r0=>pure r0
 | .done _ =>
  pure (-1)
theorem zDH:∀ list a0 ag r,mX list a0 ag=some r->∀ {I:Imm}{p c p1 c1 p2 c2},(S4 I p list c)->(S4 I p1 a0.Subs c1)->(S4 I p2 ag c2)->RT 190 [vS p list c,vA (cAccess a0 p1 c1),vS p2 ag c2] I [] (yS  r):=by
 intro list a0 ag r N I p c p1 c1 p2 c2 h h1 h2;unfold mX at N;refine yJ func190 fun B=>yE<|tO (cAccess a0 p1 c1) ?_;intro b hb;refine wG [] []<|wM [7] rfl<|zX<|yF [8] rfl<|xX<|rU [(0,vS p list c),(2,vS p2 ag c2),(4,vP b 0),(7,vI 0),(8,vI 0)] ?_;obtain ⟨o02,ho02,hMl1⟩:=zB N;refine zFQ list a0 ag 0 0 o02 ho02 iR h h2 h1 (fun _ _ _ h=>h) (fun _ _ h=>h) ?_ ?_
 · intro bL  heq2 bk;subst o02;refine zR<|wM [6] rfl<|zG<|yW ?_;obtain rfl:=zC hMl1;exact wI
 intro r0 I9 hs9 m9 aZ le9 bb;subst aZ;refine zV<|zH ?_;obtain rfl:=zC hMl1;exact yZ bb
def zBV (r:(List Int)×Int×Bool):KT:=fun kk I' ah v=>
  ∃ v0 v1 v2,ah=[]/\v=tupV [v0,v1,v2]/\SL I' v0 r.1/\v1=.int .i64 r.2.1/\v2=.bool r.2.2
def tL (list:(List zF)) (ag:(List Int)) (y:(List zL)) (out:List Int) (i:Int):Option (Out (List Int) ((List Int)×Int×Bool)):=do
 if (decide (i<(y.length:Int))) then
  let x<-idx y i
  let y1<-mX list x ag
  if (decide (y1<0)) then
   pure (.ret (([]:List Int),0,false))
  else
   let au<-app 8 out ([y1]:List Int)
   tL list ag y au (W (i+1))
 else
  pure (.done out)
 partial_fixpoint
theorem zE0 (list:(List zF)) (ag:(List Int)) (y:(List zL)):∀ (out:List Int) (i:Int) (o:Out (List Int) ((List Int)×Int×Bool)),tL list ag y out i=some o->∀ {B}{I0 I:Imm}{Q}{s:zP}{p c p1 c1 p2 c2 p3 c3 p4 c4 p5 c5}{b:Nat}{p6 c6 cs p7 c7 az},I0.le I->(S4 I p list c)->(S4 I p5 ag c5)->(RL I cs y)->(S4 I p1 s.Write.Subs c1)->(S4 I p2 s.Value.Index.Coefs c2)->(S4 I p3 s.Value.Read.Subs c3)->(S4 I p4 s.Value.Kids c4)->(RL I az out)->NG Q->NO Q->(∀ (I':Imm) (al:List Int) (p8:Option Addr) (c8:Nat) (aS:List Value),o=(.done al)->I0.le I'->(RL I' aS al)->T 49 B Q (.exit 0) I' [hO Int (vS p8 al c8) aS,hB b (cStmt s p1 c1 p2 c2 p3 c3 p4 c4)] [(0,vS p list c),(2,vS p5 ag c5),(4,vP b 0),(9,vS p8 al c8)])->(∀ r I' ah m',o=(.ret r)->I0.le I'->RS Tryz.prog f147 B (zBV  r) I' ah m'->T 49 B Q .ret I' ah m')->J Tryz.prog 49 B (nav (bodyOf f147) [1,1,1,0,1,0]) Q I [hO zL (vS p6 y c6) cs,hO Int (vS p7 out c7) az,hB b (cStmt s p1 c1 p2 c2 p3 c3 p4 c4)] [(0,vS p list c),(2,vS p5 ag c5),(4,vP b 0),(9,vS p7 out c7),(10,vS p6 y c6),(11,vI i)]:=by
 refine tL.partial_correctness list ag y _ fun aJ ih out i o N B I0 I Q s p c p1 c1 p2 c2 p3 c3 p4 c4 p5 c5 b p6 c6 cs p7 c7 az H h h5 h8 h1 h2 h3 h4 h9 hg ho hx hr=>yM hg ho<|zZ<|yF [22] rfl<|zG<|yC N ?_ ?_
 · intro hc N;refine zS<|zX<|yG<|yE<|yB 3 [] [25,26,27] rfl<|bE N fun x aB N=>pQ 0 rfl rfl rfl h8 aB ?_;intro ad aQ ar bM ap;obtain ⟨p9,c9,rfl,h11⟩:=nY ap;refine zAH 0 0 ar bM (cAccess x p9 c9) (vA (cAccess x p9 c9)) rfl rfl<|yB 6 [] [30] rfl<|bE N fun y1 aN N=>fK (zDH list x ag _ aN h h11 h5) ?_;intro aW af;have ⟨h,h5,h9,h8,h1,h2⟩:=m6 af h h5 h9 h8 h1 h2;have ⟨h3,h4,H⟩:=m3 af h3 h4 H;refine yH [] [12] rfl<|zX<|yF [33] rfl<|zG<|yC N ?_ ?_
   · intro aI N;refine yE<|uK [] Int ?_;intro b3 hb3;have h13:RL aW [] ([]:List Int):=rfl;refine yH [] [6,7,8] rfl<|xD<|zH<|zV<|zH<|zH<|yU 0 rfl ?_;intro ba aF hl0;have h14:=SL.of_frozen hl0 aF h13;have H:=H.trans aF;exact hr _ _ _ _ (zC N).symm H ⟨_,_,(.tmp rfl (.tmp rfl (.tmp rfl ResV.nil))),zQ,⟨_,_,_,rfl,rfl,h14,rfl,rfl⟩⟩
   intro aI N;refine zS<|zG<|zJ<|yB 2 [] [35,36] rfl<|uK [vI y1] Int ?_;intro b4 hb4;have h15:RL aW [vI y1] ([y1]:List Int):=rI [y1];obtain ⟨au,bm,N⟩:=zB N;exact sU 3 1 2 rfl rfl rfl h9 (.inr ⟨0,rfl⟩) h15 bm fun bi bh aT h16=>tZ (zY [1,2,3] (ah:=[hO zL (vS p6 y c6) cs,hO Int (vS bi au bh) aT,hB b (cStmt s p1 c1 p2 c2 p3 c3 p4 c4)]))<|yH [] [9] rfl<|zM<|zG<|zJ<|yH [] [11] rfl<|yK<|oY<|ih au (W (i+1)) _ N H h h5 h8 h1 h2 h3 h4 h16 hg ho hx hr
 intro hc N;exact wJ<|xQ (zW [1,2] rfl (by decide))<|yL<|hx _ _ _ _ _ (zC N).symm H h9
def kH (list:(List zF)) (s:zP) (ag:(List Int)):Option ((List Int)×Int×Bool):=do
 let y<-sX ([]:List zL) s.Value
 match<-tL list ag y ([]:List Int) 0 with
 | .ret r0=>pure r0
 | .done al =>
  let y2<-mX list s.Write ag
  if (decide (y2<0)) then
   pure (([]:List Int),0,false)
  else
   pure (al,y2,true)
theorem zGz:∀ list s ag r,kH list s ag=some r->∀ {I:Imm}{p c p1 c1 p2 c2 p3 c3 p4 c4 p5 c5},(S4 I p list c)->(S4 I p1 s.Write.Subs c1)->(S4 I p2 s.Value.Index.Coefs c2)->(S4 I p3 s.Value.Read.Subs c3)->(S4 I p4 s.Value.Kids c4)->(S4 I p5 ag c5)->RT 147 [vS p list c,vA (cStmt s p1 c1 p2 c2 p3 c3 p4 c4),vS p5 ag c5] I [] (zBV  r):=by
 intro list s ag r N I p c p1 c1 p2 c2 p3 c3 p4 c4 p5 c5 h h1 h2 h3 h4 h5;unfold kH at N;refine yJ func147 fun B=>yE<|tO (cStmt s p1 c1 p2 c2 p3 c3 p4 c4) ?_;intro b hb;refine wG [] []<|yX<|uK [] Int ?_;intro b1 hb1;have h6:RL I [] ([]:List Int):=rfl;refine yH [] [9] rfl<|yX<|uK [] zL ?_;intro b2 hb2;have h7:RL I [] ([]:List zL):=rfl;refine rQ 3 [2] [(17,vA (cExpr s.Value p2 c2 p3 c3 p4 c4))]<|bE N fun y hy N=>sJ (zGy ([]:List zL) s.Value _ hy h7 h2 h3 h4) rfl ?_;rintro I0 ay v2 k2 le - ⟨p6,c6,cs,rfl,rfl,h8⟩ -;have ⟨h,h5,h6,h1,h2,h3⟩:=m6 le h h5 h6 h1 h2 h3;have h4:=h4.mono le;refine yH [] [10] rfl<|zX<|yF [11] rfl<|xX<|rU [(0,vS p list c),(2,vS p5 ag c5),(4,vP b 0),(9,vS (some ⟨b1,0,none⟩) ([]:List Int) 0),(10,vS p6 y c6),(11,vI 0)] ?_;obtain ⟨o0,aD,aM⟩:=zB N;refine zE0 list ag y ([]:List Int) 0 o0 aD iR h h5 h8 h1 h2 h3 h4 h6 (fun _ _ _ h=>h) (fun _ _ h=>h) ?_ ?_
 · intro bH al p8 c8 aS heq aK h10;subst o0;have ⟨h,h5,h1⟩:=m3 aK h h5 h1;refine zR<|yX<|rQ 4 [1] [(39,vS p list c),(41,vA (cAccess s.Write p1 c1)),(42,vS p5 ag c5)] ?_;obtain ⟨y2,bw,N⟩:=zB aM;refine fK (zDH list s.Write ag _ bw h h1 h5) ?_;intro bL bk;have h10:=iM bk h10;refine yH [] [13] rfl<|zX<|yF [45] rfl<|zG<|yC N ?_ ?_
   · intro aX N;refine yE<|uK [] Int ?_;intro b5 hb5;have h18:RL bL [] ([]:List Int):=rfl;refine yH [] [6,7,8] rfl<|xD<|zH<|yU 0 rfl ?_;intro bR bz hl01;have h19:=SL.of_frozen hl01 bz h18;obtain rfl:=zC N;exact yZ ⟨_,_,(.tmp rfl (.tmp rfl (.tmp rfl ResV.nil))),zQ,⟨_,_,_,rfl,rfl,h19,rfl,rfl⟩⟩
   intro aX N;refine zS<|wM [6,7,8] rfl<|xD<|yU 0 rfl ?_;intro I06 bC hl02;have h20:=SL.of_frozen hl02 bC h10;obtain rfl:=zC N;exact yZ ⟨_,_,(.tmp rfl (.tmp rfl (.tmp rfl ResV.nil))),zQ,⟨_,_,_,rfl,rfl,h20,rfl,rfl⟩⟩
 intro r0 I9 hs9 m9 aZ le9 bb;subst aZ;refine zV<|zH ?_;obtain rfl:=zC aM;exact yZ bb
def tM (p:(List Int)) (i:Int):Option (Out Unit (Bool)):=do
 if (decide (i<(p.length:Int))) then
  let x<-idx p i
  let y<-uC x 9999
  if (!y) then
   pure (.ret false)
  else
   tM p (W (i+1))
 else
  pure (.done ())
 partial_fixpoint
theorem zE1 (p:(List Int)):∀ (i:Int) (o:Out Unit (Bool)),tM p i=some o->∀ {B}{I0 I:Imm}{Q p1 c},I0.le I->(S4 I p1 p c)->NG Q->NO Q->(∀ (I':Imm) ,o=(.done ())->I0.le I'->T 19 B Q (.exit 0) I' [] [(0,vS p1 p c)])->(∀ r I' ah m',o=(.ret r)->I0.le I'->RS Tryz.prog f148 B (zT  r) I' ah m'->T 19 B Q .ret I' ah m')->J Tryz.prog 19 B (nav (bodyOf f148) [1,0,1,0]) Q I [] [(0,vS p1 p c),(3,vI i)]:=by
 refine tM.partial_correctness p _ fun aJ ih i o N B I0 I Q p1 c H h hg ho hx hr=>yM hg ho<|zZ<|yF [7] rfl<|zG<|yC N ?_ ?_
 · intro hc N;refine zS<|zX<|yG<|yE<|yB 2 [] [10,11] rfl<|bE N fun x hy N=>xK rfl rfl h hy ?_;intro ad aQ ar ap;obtain rfl:=ap;refine xB 0 ar [vI x] (vI x) rfl<|bE N fun y aB N=>vQ (zAL x 9999 _ aB ) ?_;intro I0 le;have ⟨h,H⟩:=m2 le h H;refine yH [] [15] rfl<|zG<|yC N ?_ ?_
   · intro aI N;exact wP [(2,vF)]<|xD<|zV<|zH<|zH<|hr _ _ _ _ (zC N).symm H ⟨_,_,(.tmp rfl ResV.nil),zQ,⟨_,rfl,rfl,rfl⟩⟩
   intro aI N;exact zS<|zM<|zG<|zJ<|yH [] [3] rfl<|yK<|oY<|ih (W (i+1)) _ N H h hg ho hx hr
 intro hc N;exact wJ<|yL<|hx _  (zC N).symm H
def kI (p:(List Int)):Option (Bool):=do
 match<-tM p 0 with
 | .ret r0=>pure r0
 | .done _ =>
  pure (decide ((p.length:Int)<=4))
theorem zHA:∀ p r,kI p=some r->∀ {I:Imm}{p1 c},(S4 I p1 p c)->RT 148 [vS p1 p c] I [] (zT  r):=by
 intro p r N I p1 c h;unfold kI at N;refine yJ func148 fun B=>wP []<|zX<|yF [3] rfl<|xX<|rU [(0,vS p1 p c),(3,vI 0)] ?_;obtain ⟨o0,aD,aM⟩:=zB N;refine zE1 p 0 o0 aD iR h (fun _ _ _ h=>h) (fun _ _ h=>h) ?_ ?_
 · intro aW  heq af;subst o0;refine zR<|wM [2] rfl<|zG<|yW ?_;obtain rfl:=zC aM;exact wI
 intro r0 I9 hs9 m9 aZ le9 bb;subst aZ;refine zV<|zH ?_;obtain rfl:=zC aM;exact yZ bb
end Go.LN
