/- Helper of the proof (see the last text). -/
import Derived.Test.YtcmjkmdecmabaaaGreatHM2
set_option linter.unusedVariables false
set_option linter.unusedSimpArgs false
namespace Go.LN
open Go.Proofs Go.Proofs.Tryz
set_option maxRecDepth 20000
def jM (kind:Int):Option (Int):=do
 let t4<-(do
   if (kind==1) then
    pure (kind==1)
   else
    let t41<-(do
      if (kind==2) then
       pure (kind==2)
      else
       pure (kind==3)
        : Option Bool)
    pure (id t41)
     : Option Bool)
 if t4 then
  pure (id 0)
 else
  let t8<-(do
    if (kind==4) then
     pure (kind==4)
    else
     let t81<-(do
       if (kind==5) then
        pure (kind==5)
       else
        pure (kind==6)
         : Option Bool)
     pure (id t81)
      : Option Bool)
  if t8 then
   pure (id 2)
  else
   pure (-1)
theorem zDM:∀ kind r,jM kind=some r->∀ {I:Imm} ,RT 227 [vI kind] I [] (yQ  r):=by
 intro kind r N I;unfold jM at N;refine yK func227 fun B=>?_;have H:=iS I;refine wQ []<|zZ<|yG [3] rfl<|xY<|yB<|yG [4] rfl<|zH ?_;refine wR N [] (fun t4=>[(3,vI kind),(4,.bool t4)]) (fun o0 aD=>?_) ?_
 · have H:=iS I;refine yE aD ?_ ?_
   · intro hc N;exact zT<|yN<|zV (ct N H)
   intro hc N;refine yG [4] rfl<|zH ?_;refine wR N [] (fun t41=>[(3,vI kind),(4,.bool t41)]) (fun aQ aB=>?_) ?_
   · have H:=iS I;refine yE aB ?_ ?_
     · intro aH N;exact zT<|yN<|zV (ct N H)
     intro aH N;exact zJ<|yI [] [4] rfl<|yN<|zV (ct N H)
   intro t41 aW le hMc1;have H:=H.trans le;exact yN<|zV (ct hMc1 H)
 intro t4 I0 ae aV;have H:=H.trans ae;refine zH<|yE aV ?_ ?_
 · intro aZ N;refine yG [2] rfl<|xD<|zW<|zG ?_;obtain rfl:=zC N;exact wF
 intro aZ N;refine yB<|yG [8] rfl<|zH ?_;refine wR N [] (fun t8=>[(8,.bool t8)]) (fun o02 ho02=>?_) ?_
 · have H:=iS I0;refine yE ho02 ?_ ?_
   · intro bK N;exact zT<|yN<|zV (ct N H)
   intro bK N;refine yG [8] rfl<|zH ?_;refine wR N [] (fun t81=>[(8,.bool t81)]) (fun o03 ho03=>?_) ?_
   · have H:=iS I0;refine yE ho03 ?_ ?_
     · intro bO N;exact zT<|yN<|zV (ct N H)
     intro bO N;exact zJ<|yI [] [8] rfl<|yN<|zV (ct N H)
   intro t81 bG aF hMc3;have H:=H.trans aF;exact yN<|zV (ct hMc3 H)
 intro t8 aX aJ hMc2;refine zH<|yE hMc2 ?_ ?_
 · intro hc5 N;refine yG [2] rfl<|xD<|zW<|zG ?_;obtain rfl:=zC N;exact wF
 intro hc5 N;refine zT<|zN<|wP [2] rfl<|zH<|yY ?_;obtain rfl:=zC N;exact wF
def pV (a0:zL):Option (Bool):=do
 let t2<-(do
   if (a0.Array.l==([]:List UInt8)) then
    pure ((a0.Subs.length:Int)==0)
   else
    pure false
     : Option Bool)
 pure (id t2)
theorem zA7:∀ a0 r,pV a0=some r->∀ {I:Imm}{p c},(S4 I p a0.Subs c)->RT 252 [vA (cAccess a0 p c)] I [] (zU  r):=by
 intro a0 r N I p c h;unfold pV at N;refine yK func252 fun B=>?_;have H:=iS I;refine yF<|tT (cAccess a0 p c) ?_;intro b hb;refine wI [] []<|zH<|yB ?_;refine wR N [] (fun t2=>[(2,.bool t2)]) (fun o0 aD=>?_) ?_
 · have H:=iS I;refine zJ<|yC 4 [0] [6] rfl<|xW [6] aD ?_ ?_
   · intro hc N;exact yI [0] [2] rfl<|xR zQ<|yN<|zV (ct N H)
   intro hc N;exact wI [] [(2,vF)]<|xR zQ<|yN<|zV (ct N H)
 intro t2 I0 le aV;refine zH<|yY ?_;obtain rfl:=zC aV;exact wF
def nV (a0:zA):Option (Bool):=do
 let t2<-(do
   if ((a0.Coefs.length:Int)==0) then
    pure (a0.Const==0)
   else
    pure false
     : Option Bool)
 pure (id t2)
theorem zAz:∀ a0 r,nV a0=some r->∀ {I:Imm}{p c},(S4 I p a0.Coefs c)->RT 253 [vA (cAff a0 p c)] I [] (zU  r):=by
 intro a0 r N I p c h;unfold nV at N;refine yK func253 fun B=>?_;have H:=iS I;refine yF<|tT (cAff a0 p c) ?_;intro b hb;refine wI [] []<|zH<|yB ?_;refine wR N [] (fun t2=>[(2,.bool t2)]) (fun o0 aD=>?_) ?_
 · have H:=iS I;refine zJ<|yC 5 [0] [7] rfl<|xW [7] aD ?_ ?_
   · intro hc N;exact yI [0] [2] rfl<|xR zQ<|yN<|zV (ct N H)
   intro hc N;exact wI [] [(2,vF)]<|xR zQ<|yN<|zV (ct N H)
 intro t2 I0 le aV;refine zH<|yY ?_;obtain rfl:=zC aV;exact wF
def gT (e0:zI) (aa:Int):Option (Bool):=do
 if (e0.Kind==2) then
  let t4<-(do
    if (e0.Num==0) then
     let y<-pV e0.Read
     if y then
      let y1<-uP e0.Index
      if y1 then
       let y2<-pU e0.Index
       pure (decide (y2<=aa))
      else
       pure false
     else
      pure false
    else
     pure false
      : Option Bool)
  pure (id t4)
 else
  if (e0.Kind==3) then
   let t41<-(do
     if (e0.Num==0) then
      let y3<-nV e0.Index
      if y3 then
       let y4<-oK e0.Read aa
       pure (id y4)
      else
       pure false
     else
      pure false
       : Option Bool)
   pure (id t41)
  else
   if (e0.Kind==1) then
    let t42<-(do
      if (decide (e0.Num>=0)) then
       if (decide (e0.Num<=99)) then
        let y5<-nV e0.Index
        if y5 then
         let y6<-pV e0.Read
         pure (id y6)
        else
         pure false
       else
        pure false
      else
       pure false
        : Option Bool)
    pure (id t42)
   else
    let t43<-(do
      if (e0.Num==0) then
       let y7<-nV e0.Index
       if y7 then
        let y8<-pV e0.Read
        pure (id y8)
       else
        pure false
      else
       pure false
        : Option Bool)
    pure (id t43)
theorem zIf:∀ e0 aa r,gT e0 aa=some r->∀ {I:Imm}{p c p1 c1 p2 c2},(S4 I p e0.Index.Coefs c)->(S4 I p1 e0.Read.Subs c1)->(S4 I p2 e0.Kids c2)->RT 228 [vA (cExpr e0 p c p1 c1 p2 c2),vI aa] I [] (zU  r):=by
 intro e0 aa r N I p c p1 c1 p2 c2 h h1 h2;unfold gT at N;refine yK func228 fun B=>?_;have H:=iS I;refine yF<|tT (cExpr e0 p c p1 c1 p2 c2) ?_;intro b hb;refine wI [] []<|zZ<|yF<|yI [0] [7] rfl<|zH<|yE N ?_ ?_
 · intro hc N;refine yB ?_;refine wR N [] (fun t4=>[(4,.bool t4)]) (fun o0 aD=>?_) ?_
   · have H:=iS I;refine zJ<|yC 4 [0] [11] rfl<|xW [11] aD ?_ ?_
     · intro aH N;refine rH 6 [0] [(13,vA (cAccess e0.Read p1 c1))]<|bE N fun y hy N=>vU (zA7 e0.Read _ hy h1) ?_;intro aW le;have ⟨h,H⟩:=m2 le h H;refine yC 9 [] [16] rfl<|xW [16] N ?_ ?_
       · intro aZ N;refine rH 11 [0] [(18,vA (cAff e0.Index p c))]<|bE N fun y1 aA N=>vU (jT e0.Index _ aA h) ?_;intro aX ae;have ⟨h,H⟩:=m2 ae h H;refine yC 14 [] [21] rfl<|xW [21] N ?_ ?_
         · intro bK N;refine rH 16 [0] [(23,vA (cAff e0.Index p c))]<|bE N fun y2 aK N=>fB (zA6 e0.Index _ aK h) ?_;intro bG aF;have H:=H.trans aF;exact yI [] [4] rfl<|xR zQ<|yN<|zV (ct N H)
         intro bK N;exact wI [] [(4,vF)]<|xR zQ<|yN<|zV (ct N H)
       intro aZ N;exact wI [] [(4,vF)]<|xR zQ<|yN<|zV (ct N H)
     intro aH N;exact wI [] [(4,vF)]<|xR zQ<|yN<|zV (ct N H)
   intro t4 I0 aJ aV;refine xD<|zG ?_;obtain rfl:=zC aV;exact wF
 intro hc N;refine zT<|zZ<|yF<|yI [0] [30] rfl<|zH<|yE N ?_ ?_
 · intro bO N;refine yB ?_;refine wR N [] (fun t41=>[(4,.bool t41)]) (fun aQ aB=>?_) ?_
   · have H:=iS I;refine zJ<|yC 4 [0] [34] rfl<|xW [34] aB ?_ ?_
     · intro hc5 N;refine rH 6 [0] [(36,vA (cAff e0.Index p c))]<|bE N fun y3 bi N=>vU (zAz e0.Index _ bi h) ?_;intro bR bd;have ⟨h1,H⟩:=m2 bd h1 H;refine yC 9 [] [39] rfl<|xW [39] N ?_ ?_
       · intro hc6 N;refine rH 12 [0] [(41,vA (cAccess e0.Read p1 c1)),(42,vI aa)]<|bE N fun y4 bu N=>vU (zCB e0.Read aa _ bu h1) ?_;intro I06 bw;have H:=H.trans bw;exact yI [] [4] rfl<|xR zQ<|yN<|zV (ct N H)
       intro hc6 N;exact wI [] [(4,vF)]<|xR zQ<|yN<|zV (ct N H)
     intro hc5 N;exact wI [] [(4,vF)]<|xR zQ<|yN<|zV (ct N H)
   intro t41 bL bC hMc1;refine xD<|zG ?_;obtain rfl:=zC hMc1;exact wF
 intro bO N;refine zT<|zZ<|yF<|yI [0] [47] rfl<|zH<|yE N ?_ ?_
 · intro hc7 N;refine yB ?_;refine wR N [] (fun t42=>[(4,.bool t42)]) (fun o02 ho02=>?_) ?_
   · have H:=iS I;refine zJ<|yC 4 [0] [51] rfl<|xW [51] ho02 ?_ ?_
     · intro hc8 N;refine yC 9 [0] [56] rfl<|xW [56] N ?_ ?_
       · intro hc9 N;refine rH 11 [0] [(58,vA (cAff e0.Index p c))]<|bE N fun y5 bJ N=>vU (zAz e0.Index _ bJ h) ?_;intro I08 le7;have ⟨h1,H⟩:=m2 le7 h1 H;refine yC 14 [] [61] rfl<|xW [61] N ?_ ?_
         · intro hc10 N;refine rH 16 [0] [(63,vA (cAccess e0.Read p1 c1))]<|bE N fun y6 hy6 N=>vU (zA7 e0.Read _ hy6 h1) ?_;intro I09 le8;have H:=H.trans le8;exact yI [] [4] rfl<|xR zQ<|yN<|zV (ct N H)
         intro hc10 N;exact wI [] [(4,vF)]<|xR zQ<|yN<|zV (ct N H)
       intro hc9 N;exact wI [] [(4,vF)]<|xR zQ<|yN<|zV (ct N H)
     intro hc8 N;exact wI [] [(4,vF)]<|xR zQ<|yN<|zV (ct N H)
   intro t42 I07 le9 hMc2;refine xD<|zG ?_;obtain rfl:=zC hMc2;exact wF
 intro hc7 N;refine zT<|zH<|yB ?_;refine wR N [] (fun t43=>[(4,.bool t43)]) (fun o03 ho03=>?_) ?_
 · have H:=iS I;refine zJ<|yC 4 [0] [69] rfl<|xW [69] ho03 ?_ ?_
   · intro hc11 N;refine rH 6 [0] [(71,vA (cAff e0.Index p c))]<|bE N fun y7 hy7 N=>vU (zAz e0.Index _ hy7 h) ?_;intro bY le10;have ⟨h1,H⟩:=m2 le10 h1 H;refine yC 9 [] [74] rfl<|xW [74] N ?_ ?_
     · intro hc12 N;refine rH 11 [0] [(76,vA (cAccess e0.Read p1 c1))]<|bE N fun y8 hy8 N=>vU (zA7 e0.Read _ hy8 h1) ?_;intro bX le11;have H:=H.trans le11;exact yI [] [4] rfl<|xR zQ<|yN<|zV (ct N H)
     intro hc12 N;exact wI [] [(4,vF)]<|xR zQ<|yN<|zV (ct N H)
   intro hc11 N;exact wI [] [(4,vF)]<|xR zQ<|yN<|zV (ct N H)
 intro t43 bS le12 hMc3;refine zH<|yY ?_;obtain rfl:=zC hMc3;exact wF
mutual
def sF (e0:zI) (aa:Int) (al:Int):Option (Bool):=do
 let t24<-(do
   if (decide (al<1)) then
    pure true
   else
    let y<-jM e0.Kind
    if (y != (e0.Kids.length:Int)) then
     pure true
    else
     let y1<-gT e0 aa
     pure (!y1)
     : Option Bool)
 if t24 then
  pure false
 else
  match<-uK (same e0) (same aa) (same al) (same 0) with
  | .ret r0=>pure r0
  | .done _ =>
   pure true
 partial_fixpoint
def uK (e0:zI) (aa:Int) (al:Int) (i:Int):Option (Out Unit (Bool)):=do
 if (decide (i<(e0.Kids.length:Int))) then
  let x<-idx e0.Kids i
  let y2<-sF (same x) (same aa) (W (al - 1))
  if (!y2) then
   pure (.ret false)
  else
   uK (same e0) (same aa) (same al) (W (i+1))
 else
  pure (.done ())
 partial_fixpoint
end
theorem zGN:(∀ (e0:zI) (aa:Int) (al:Int) r,sF e0 aa al=some r->∀ {I:Imm}{p c p1 c1 p2 c2},(S4 I p e0.Index.Coefs c)->(S4 I p1 e0.Read.Subs c1)->(S4 I p2 e0.Kids c2)->RT 187 [vA (cExpr e0 p c p1 c1 p2 c2),vI aa,vI al] I [] (zU  r))/\(∀ (e0:zI) (aa:Int) (al:Int) (i:Int) o,uK e0 aa al i=some o->∀ {B}{I0 I:Imm}{Q p c p1 c1 p2 c2}{b:Nat},I0.le I->(S4 I p e0.Index.Coefs c)->(S4 I p1 e0.Read.Subs c1)->(S4 I p2 e0.Kids c2)->NG Q->NO Q->(∀ (I':Imm) ,o=(.done ())->I0.le I'->T 42 B Q (.exit 0) I' [] [])->(∀ r I' ah m',o=(.ret r)->I0.le I'->RS Tryz.prog f187 B (zU  r) I' ah m'->T 42 B Q .ret I' ah m')->J Tryz.prog 42 B (nav (bodyOf f187) [1,1,0,1,0]) Q I [hB b (cExpr e0 p c p1 c1 p2 c2)] [(1,vI aa),(2,vI al),(3,vP b 0),(7,vI i)]):=by
  refine sF.mutual_partial_correctness _ _ ?_ ?_
  · intro F_spec_l3Shape_l1 ih_spec_l3Shape_l1 e0 aa al r N I p c p1 c1 p2 c2 h h1 h2;refine yK func187 fun B=>?_;have H:=iS I;refine yF<|tT (cExpr e0 p c p1 c1 p2 c2) ?_;intro b hb;refine wI [] []<|zZ<|yB ?_;refine wR N [hB b (cExpr e0 p c p1 c1 p2 c2)] (fun t24=>[(1,vI aa),(2,vI al),(3,vP b 0),(24,.bool t24)]) (fun o0 aD=>?_) ?_
    · have H:=iS I;cases hc:(decide (al<1)) with
      | true =>
       have hM0:=sV hc aD;refine wT [.p (vI al) [],.q vY,.q vY,.p undef [],.p undef [],.p undef [],.p undef [],.p undef [],.p undef [],.p undef [],.p vY [],.p vY [],.p undef [],.p undef [],.p undef [],.p undef [],.p vY []] [[],[(0,false)],[(1,false)],[(2,false)],[(2,false),(3,false)],[(2,false),(4,false)],[(2,false)],[(2,false),(6,false)],[(2,false),(7,false)],[(2,false),(5,false),(8,false)],[(2,false),(9,false)],[(10,false)],[(11,false)],[(11,false)],[(11,false),(12,false),(13,false)],[(11,false),(14,false)],[(11,false),(15,false)]] [hB b (cExpr e0 p c p1 c1 p2 c2)] [] [(16,false)] (zY [0]) ?_ ?_
       · refine Op<|Oq ?_<|Oq ?_<|Op<|Op<|Op<|Op<|Op<|Op<|Op<|Op<|Op<|Op<|Op<|Op<|Op<|Op<|On
         · intro I1 hf ae;refine yW [8] rfl<|mF 2 [(9,.bool (decide (al<1)))] ?_;rw [hc];exact xF iR
         intro I1 hf ae;exact I_h [(9,vY)]<|mF 3 [(10,vY)]<|xF iR
       intro aW le;refine yW [1,2,3,24] rfl ?_;have H:=H.trans le;exact yD rfl<|yN<|zV (ct hM0 H)
      | false =>
       have hM01:=tM hc aD;obtain ⟨y,hy,N⟩:=zB hM01;cases aH:(y != (e0.Kids.length:Int)) with
       | true =>
        have hM02:=sV aH N;refine wT [.p (vI al) [],.q vF,.q vF,.p (vP b 0) [],.p (vI e0.Kind) [0],.q (vI y),.p (vP b 6) [],.p (vS p2 e0.Kids c2) [0],.p (vI (e0.Kids.length:Int)) [],.q vY,.q vY,.q vY,.p undef [],.p undef [],.p undef [],.p undef [],.p vY []] [[],[(0,false)],[(1,false)],[(2,false)],[(2,false),(3,false)],[(2,false),(4,false)],[(2,false)],[(2,false),(6,false)],[(2,false),(7,false)],[(2,false),(5,false),(8,false)],[(2,false),(9,false)],[(10,false)],[(11,false)],[(11,false)],[(11,false),(12,false),(13,false)],[(11,false),(14,false)],[(11,false),(15,false)]] [hB b (cExpr e0 p c p1 c1 p2 c2)] [] [(16,false)] (zY [0]) ?_ ?_
        · refine Op<|Oq ?_<|Oq ?_<|Op<|Op<|Oq ?_<|Op<|Op<|Op<|Oq ?_<|Oq ?_<|Oq ?_<|Op<|Op<|Op<|Op<|Op<|On
          · intro I1 hf ae;refine yW [8] rfl<|mF 2 [(9,.bool (decide (al<1)))] ?_;rw [hc];exact xF iR
          · intro I1 hf ae;exact I_h [(9,vF)]<|mF 3 [(10,vF)]<|xF iR
          · intro I1 hf ae;refine yW [10,12] rfl ?_;have H:=iS I1;refine fB (zDM e0.Kind _ hy ) ?_;intro aX ae;have H:=H.trans ae;exact xF H
          · intro I1 hf ae;refine yW [10,13,16] rfl<|mF 10 [(17,.bool (y != (e0.Kids.length:Int)))] ?_;rw [aH];exact xF iR
          · intro I1 hf ae;exact yW [10,17] rfl<|mF 11 [(18,vY)]<|xF iR
          intro I1 hf ae;exact I_h [(18,vY)]<|mF 12 [(19,vY)]<|xF iR
        intro bG aF;refine yW [1,2,3,24] rfl ?_;have H:=H.trans aF;exact yD rfl<|yN<|zV (ct hM02 H)
       | false =>
        have hM03:=tM aH N;obtain ⟨y1,aA,N⟩:=zB hM03;refine wT [.p (vI al) [],.q vF,.q vF,.p (vP b 0) [],.p (vI e0.Kind) [0],.q (vI y),.p (vP b 6) [],.p (vS p2 e0.Kids c2) [0],.p (vI (e0.Kids.length:Int)) [],.q vF,.q vF,.q vF,.p (vA (cExpr e0 p c p1 c1 p2 c2)) [0],.p (vI aa) [],.q (.bool y1),.p (.bool (!y1)) [],.p (.bool (!y1)) []] [[],[(0,false)],[(1,false)],[(2,false)],[(2,false),(3,false)],[(2,false),(4,false)],[(2,false)],[(2,false),(6,false)],[(2,false),(7,false)],[(2,false),(5,false),(8,false)],[(2,false),(9,false)],[(10,false)],[(11,false)],[(11,false)],[(11,false),(12,false),(13,false)],[(11,false),(14,false)],[(11,false),(15,false)]] [hB b (cExpr e0 p c p1 c1 p2 c2)] [] [(16,false)] (zY [0]) ?_ ?_
        · refine Op<|Oq ?_<|Oq ?_<|Op<|Op<|Oq ?_<|Op<|Op<|Op<|Oq ?_<|Oq ?_<|Oq ?_<|Op<|Op<|Oq ?_<|Op<|Op<|On
          · intro I1 hf ae;refine yW [8] rfl<|mF 2 [(9,.bool (decide (al<1)))] ?_;rw [hc];exact xF iR
          · intro I1 hf ae;exact I_h [(9,vF)]<|mF 3 [(10,vF)]<|xF iR
          · intro I1 hf ae;refine yW [10,12] rfl ?_;have H:=iS I1;refine fB (zDM e0.Kind _ hy ) ?_;intro aX ae;have H:=H.trans ae;exact xF H
          · intro I1 hf ae;refine yW [10,13,16] rfl<|mF 10 [(17,.bool (y != (e0.Kids.length:Int)))] ?_;rw [aH];exact xF iR
          · intro I1 hf ae;exact yW [10,17] rfl<|mF 11 [(18,vF)]<|xF iR
          · intro I1 hf ae;exact I_h [(18,vF)]<|mF 12 [(19,vF)]<|xF iR
          intro I1 hf ae;refine yW [19,20,21] rfl ?_;have H:=iS I1;have ⟨h,h1,h2⟩:=m3 ae h h1 h2;refine vU (zIf e0 aa _ aA h h1 h2) ?_;intro bL aJ;have H:=H.trans aJ;exact xF H
        intro bR bd;refine yW [1,2,3,24] rfl ?_;have H:=H.trans bd;exact yD rfl<|yN<|zV (ct N H)
    intro t24 I0 bw aV;have ⟨h,h1,h2⟩:=m3 bw h h1 h2;refine zH<|yE aV ?_ ?_
    · intro aZ N;refine wQ [(6,vF)]<|xD<|zG ?_;obtain rfl:=zC N;exact wF
    intro aZ N;refine zT<|zZ<|yG [7] rfl<|xY<|qI [(1,vI aa),(2,vI al),(3,vP b 0),(7,vI 0)] ?_;obtain ⟨aQ,aB,aM⟩:=zB N;refine ih_spec_l3Shape_l1 e0 aa al 0 aQ aB iR h h1 h2 (fun _ _ _ h=>h) (fun _ _ h=>h) ?_ ?_
    · intro I07  heq1 le7;subst aQ;refine zS<|zFB [(6,vY)]<|zH<|yY ?_;obtain rfl:=zC aM;exact wF
    intro r0 I9 hs9 m9 aY le9 ba;subst aY;refine zW<|zG ?_;obtain rfl:=zC aM;exact xA ba
  intro F_spec_l3Shape F_spec_l3Shape_l1 ih_spec_l3Shape ih_spec_l3Shape_l1 e0 aa al i o N B I0 I Q p c p1 c1 p2 c2 b H h h1 h2 hg ho hx hr;refine yO hg ho<|yB<|yF<|yI [0] [29] rfl<|zH<|yE N ?_ ?_
  · intro bK N;refine zT<|zZ<|yH<|yF<|yC 3 [0] [33,34] rfl<|bE N fun x aK N=>xL rfl rfl h2 aK ?_;intro ad aP aq am;obtain ⟨p3,c3,p4,c4,p5,c5,rfl,h5,h6,h7⟩:=tX am;refine xE 0 aq (cExpr x p3 c3 p4 c4 p5 c5) (vA (cExpr x p3 c3 p4 c4 p5 c5)) rfl<|yC 8 [] [37,39] rfl<|bE N fun y2 bi N=>xM (ih_spec_l3Shape x aa (W (al - 1)) _ bi h5 h6 h7) ?_;rintro I06 ay v2 k2 bC - ⟨v05,rfl,rfl,rfl⟩ -;have ⟨h,h1,h2,H⟩:=m4 bC h h1 h2 H;refine yI [] [41] rfl<|zH<|yE N ?_ ?_
    · intro bO N;exact wQ [(6,vF)]<|xD<|zW<|zG<|zG<|hr _ _ _ _ (zC N).symm H ⟨_,_,(.tmp rfl ResV.nil),zQ,⟨_,rfl,rfl,rfl⟩⟩
    intro bO N;exact zT<|zN<|zH<|zJ<|yI [] [7] rfl<|yM<|nT<|ih_spec_l3Shape_l1 e0 aa al (W (i+1)) _ N H h h1 h2 hg ho hx hr
  intro bK N;exact wL<|xR zQ<|yN<|hx _  (zC N).symm H
theorem zGy:∀ e0 aa al r,sF e0 aa al=some r->∀ {I:Imm}{p c p1 c1 p2 c2},(S4 I p e0.Index.Coefs c)->(S4 I p1 e0.Read.Subs c1)->(S4 I p2 e0.Kids c2)->RT 187 [vA (cExpr e0 p c p1 c1 p2 c2),vI aa,vI al] I [] (zU  r):=zGN.1
mutual
def sY (e0:zI) (al:Int):Option (Int):=do
 let n01<-uL (same e0) (same al) (same 1) (same 0)
 pure (id n01)
 partial_fixpoint
def uL (e0:zI) (al:Int) (n0:Int) (i:Int):Option (Int):=do
 let t15<-(do
   if (decide (i<(e0.Kids.length:Int))) then
    pure (decide (al>0))
   else
    pure false
     : Option Bool)
 if t15 then
  let x<-idx e0.Kids i
  let y<-sY (same x) (W (al - 1))
  uL (same e0) (same al) (W (n0+y)) (W (i+1))
 else
  pure (id n0)
 partial_fixpoint
end
theorem zGO:(∀ (e0:zI) (al:Int) r,sY e0 al=some r->∀ {I:Imm}{p c p1 c1 p2 c2},(S4 I p e0.Index.Coefs c)->(S4 I p1 e0.Read.Subs c1)->(S4 I p2 e0.Kids c2)->RT 188 [vA (cExpr e0 p c p1 c1 p2 c2),vI al] I [] (yQ  r))/\(∀ (e0:zI) (al:Int) (n0:Int) (i:Int) o,uL e0 al n0 i=some o->∀ {B}{I0 I:Imm}{Q p c p1 c1 p2 c2}{b:Nat},I0.le I->(S4 I p e0.Index.Coefs c)->(S4 I p1 e0.Read.Subs c1)->(S4 I p2 e0.Kids c2)->NG Q->NO Q->(∀ (I':Imm) (n01:Int),o=n01->I0.le I'->T 29 B Q (.exit 0) I' [] [(5,vI n01)])->J Tryz.prog 29 B (nav (bodyOf f188) [1,1,0,1,0]) Q I [hB b (cExpr e0 p c p1 c1 p2 c2)] [(1,vI al),(2,vP b 0),(5,vI n0),(6,vI i)]):=by
  refine sY.mutual_partial_correctness _ _ ?_ ?_
  · intro F_spec_l3Count_l1 ih_spec_l3Count_l1 e0 al r N I p c p1 c1 p2 c2 h h1 h2;refine yK func188 fun B=>yF<|tT (cExpr e0 p c p1 c1 p2 c2) ?_;intro b hb;refine wI [] []<|wP [5] rfl<|zZ<|yG [6] rfl<|xY<|qI [(1,vI al),(2,vP b 0),(5,vI 1),(6,vI 0)] ?_;obtain ⟨aQ,aB,aM⟩:=zB N;refine ih_spec_l3Count_l1 e0 al 1 0 aQ aB iR h h1 h2 (fun _ _ _ h=>h) (fun _ _ h=>h) ?_;intro aX n01 heq1 aF;subst aQ;refine zS<|wP [4] rfl<|zH<|yY ?_;obtain rfl:=zC aM;exact wF
  intro F_spec_l3Count F_spec_l3Count_l1 ih_spec_l3Count ih_spec_l3Count_l1 e0 al n0 i o N B I0 I Q p c p1 c1 p2 c2 b H h h1 h2 hg ho hx;refine yO hg ho<|yB<|yB ?_;refine wR N [hB b (cExpr e0 p c p1 c1 p2 c2)] (fun t15=>[(1,vI al),(2,vP b 0),(5,vI n0),(6,vI i),(15,.bool t15)]) (fun o0 aD=>?_) ?_
  · have H:=iS I;refine zJ<|yC 6 [0] [12] rfl<|xW [12] aD ?_ ?_
    · intro hc N;exact yI [] [15] rfl<|yN<|zV (ct N H)
    intro hc N;exact wI [] [(15,vF)]<|yN<|zV (ct N H)
  intro t15 I0 le aV;have ⟨h,h1,h2,H⟩:=m4 le h h1 h2 H;refine zH<|yE aV ?_ ?_
  · intro aH N;refine zT<|zZ<|yH<|zJ<|yC 4 [0] [18,20,21] rfl<|bE N fun x hy N=>xL rfl rfl h2 hy ?_;intro ad aP aq am;obtain ⟨p3,c3,p4,c4,p5,c5,rfl,h3,h4,h5⟩:=tX am;refine xE 0 aq (cExpr x p3 c3 p4 c4 p5 c5) (vA (cExpr x p3 c3 p4 c4 p5 c5)) rfl<|yC 8 [] [25] rfl<|bE N fun y aA N=>xM (ih_spec_l3Count x (W (al - 1)) _ aA h3 h4 h5) ?_;rintro aW ay v2 k2 ae - ⟨v03,rfl,rfl,rfl⟩ -;have ⟨h,h1,h2,H⟩:=m4 ae h h1 h2 H;exact yI [] [5] rfl<|zN<|zH<|zJ<|yI [] [6] rfl<|yM<|nT<|ih_spec_l3Count_l1 e0 al (W (n0+y)) (W (i+1)) _ N H h h1 h2 hg ho hx
  intro aH N;exact wL<|xR zQ<|yN<|hx _ _ (zC N).symm H
theorem zGz:∀ e0 al r,sY e0 al=some r->∀ {I:Imm}{p c p1 c1 p2 c2},(S4 I p e0.Index.Coefs c)->(S4 I p1 e0.Read.Subs c1)->(S4 I p2 e0.Kids c2)->RT 188 [vA (cExpr e0 p c p1 c1 p2 c2),vI al] I [] (yQ  r):=zGO.1
def rO (s:zP) (aa:Int):Option (Bool):=do
 let t24<-(do
   if (decide (aa<0)) then
    pure true
   else
    if (decide (aa>4)) then
     pure true
    else
     let y<-oK s.Write aa
     if (!y) then
      pure true
     else
      let y1<-sF s.Value aa 5
      pure (!y1)
     : Option Bool)
 if t24 then
  pure false
 else
  let y2<-sY s.Value 5
  pure (decide (y2<=12))
theorem zAB:∀ s aa r,rO s aa=some r->∀ {I:Imm}{p c p1 c1 p2 c2 p3 c3},(S4 I p s.Write.Subs c)->(S4 I p1 s.Value.Index.Coefs c1)->(S4 I p2 s.Value.Read.Subs c2)->(S4 I p3 s.Value.Kids c3)->RT 146 [vA (cStmt s p c p1 c1 p2 c2 p3 c3),vI aa] I [] (zU  r):=by
 intro s aa r N I p c p1 c1 p2 c2 p3 c3 h h1 h2 h3;unfold rO at N;refine yK func146 fun B=>?_;have H:=iS I;refine yF<|tT (cStmt s p c p1 c1 p2 c2 p3 c3) ?_;intro b hb;refine wI [] []<|zZ<|yB ?_;refine wR N [hB b (cStmt s p c p1 c1 p2 c2 p3 c3)] (fun t24=>[(2,vP b 0),(24,.bool t24)]) (fun o0 aD=>?_) ?_
 · have H:=iS I;refine zJ<|yC 3 [] [7] rfl<|xW [7] aD ?_ ?_
   · intro hc N;exact wI [] [(24,vY)]<|yN<|zV (ct N H)
   intro hc N;refine yC 7 [] [11] rfl<|xW [11] N ?_ ?_
   · intro aH N;exact wI [] [(24,vY)]<|yN<|zV (ct N H)
   intro aH N;refine rH 10 [0] [(13,vA (cAccess s.Write p c)),(14,vI aa)]<|bE N fun y hy N=>vU (zCB s.Write aa _ hy h) ?_;intro aW le;have ⟨h1,h2,h3,H⟩:=m4 le h1 h2 h3 H;refine yC 14 [] [18] rfl<|xW [18] N ?_ ?_
   · intro aZ N;exact wI [] [(24,vY)]<|yN<|zV (ct N H)
   intro aZ N;refine rH 17 [0] [(20,vA (cExpr s.Value p1 c1 p2 c2 p3 c3)),(21,vI aa)]<|bE N fun y1 aA N=>vU (zGy s.Value aa 5 _ aA h1 h2 h3) ?_;intro aX ae;have H:=H.trans ae;exact yI [] [24] rfl<|yN<|zV (ct N H)
 intro t24 I0 aF aV;have ⟨h1,h2,h3⟩:=m3 aF h1 h2 h3;refine zH<|yE aV ?_ ?_
 · intro bK N;refine wQ [(4,vF)]<|xD<|zG ?_;obtain rfl:=zC N;exact wF
 intro bK N;refine zT<|yV<|rH 2 [0] [(26,vA (cExpr s.Value p1 c1 p2 c2 p3 c3))]<|bE N fun y2 aK N=>fB (zGz s.Value 5 _ aK h1 h2 h3) fun bG aJ=>wI [] [(4,.bool (decide (y2<=12)))]<|zH<|yY ?_;obtain rfl:=zC N;exact wF
def sZ (list:(List zA)) (out:Str) (i:Int):Option (Str):=do
 if (decide (i<(list.length:Int))) then
  let au<-(do
    if (decide (i>0)) then
     let s<-cat out (⟨[44]⟩:Str)
     pure (id s)
    else
     pure (id out)
      : Option Str)
  let x<-idx list i
  let y<-jL x
  let s1<-cat au y
  sZ list s1 (W (i+1))
 else
  pure (id out)
 partial_fixpoint
theorem zCs (list:(List zA)):∀ (out:Str) (i:Int) (o:Str),sZ list out i=some o->∀ {B}{I0 I:Imm}{Q p c},I0.le I->(S4 I p list c)->NG Q->NO Q->(∀ (I':Imm) (aj:Str),o=aj->I0.le I'->T 23 B Q (.exit 0) I' [] [(3,vT aj.l)])->J Tryz.prog 23 B (nav (bodyOf f242) [1,1,0,1,0]) Q I [] [(0,vS p list c),(3,vT out.l),(4,vI i)]:=by
 refine sZ.partial_correctness list _ fun aI ih out i o N B I0 I Q p c H h hg ho hx=>yO hg ho<|yB<|yG [8] rfl<|zH<|yE N ?_ ?_
 · intro hc N;refine zT<|zZ<|yH<|yB<|yG [12] rfl<|zH ?_;refine wR N [] (fun au=>[(0,vS p list c),(3,vT au.l),(4,vI i)]) (fun o0 aD=>?_) ?_
   · have H:=iS I;refine yE aD ?_ ?_
     · intro aH N;exact zJ<|yC 1 [] [13] rfl<|bE N fun s hy N=>gK rfl hy<|yI [] [3] rfl<|yN<|zV (ct N H)
     intro aH N;exact zT<|yN<|zV (ct N H)
   intro au I0 le aV;have ⟨h,H⟩:=m2 le h H;refine zH<|zJ<|yC 3 [] [15,16,17] rfl ?_;obtain ⟨x,aA,N⟩:=zB aV;refine xL rfl rfl h aA ?_;intro ad aP aq am;obtain ⟨p1,c1,rfl,h1⟩:=yS am;refine xE 0 aq (cAff x p1 c1) (vA (cAff x p1 c1)) rfl<|bE N fun y aK N=>xM (zAy x _ aK h1) ?_;rintro aW ay v2 k2 ae - ⟨v01,rfl,rfl,rfl⟩ -;have ⟨h,H⟩:=m2 ae h H;obtain ⟨s1,bi,N⟩:=zB N;exact gK rfl bi<|yI [] [3] rfl<|zN<|zH<|zJ<|yI [] [4] rfl<|yM<|nT<|ih s1 (W (i+1)) _ N H h hg ho hx
 intro hc N;exact wL<|yN<|hx _ _ (zC N).symm H
def pW (list:(List zA)):Option (Str):=do
 let aj<-sZ list (⟨[]⟩:Str) 0
 pure (id aj)
theorem dS:∀ list r,pW list=some r->∀ {I:Imm}{p c},(S4 I p list c)->RT 242 [vS p list c] I [] (sG  r):=by
 intro list r N I p c h;unfold pW at N;refine yK func242 fun B=>wQ []<|wP [3] rfl<|zZ<|yG [4] rfl<|xY<|qI [(0,vS p list c),(3,vT ([])),(4,vI 0)] ?_;obtain ⟨aQ,aB,aM⟩:=zB N;refine zCs list (⟨[]⟩:Str) 0 aQ aB iR h (fun _ _ _ h=>h) (fun _ _ h=>h) ?_;intro aX aj heq1 aF;subst aQ;refine zS<|wP [2] rfl<|zH<|yY ?_;obtain rfl:=zC aM;exact wF
def rW (a0:zL):Option (Str):=do
 let s<-cat a0.Array (⟨[91]⟩:Str)
 let y<-pW a0.Subs
 let s1<-cat s y
 let s2<-cat s1 (⟨[93]⟩:Str)
 pure (id s2)
theorem fZ:∀ a0 r,rW a0=some r->∀ {I:Imm}{p c},(S4 I p a0.Subs c)->RT 216 [vA (cAccess a0 p c)] I [] (sG  r):=by
 intro a0 r N I p c h;unfold rW at N;refine yK func216 fun B=>?_;have H:=iS I;refine yF<|tT (cAccess a0 p c) ?_;intro b hb;refine wI [] []<|zH<|yB ?_;obtain ⟨s,hy,N⟩:=zB N;obtain ⟨y,aA,N⟩:=zB N;obtain ⟨s1,aK,N⟩:=zB N;obtain ⟨s2,bi,N⟩:=zB N;refine wT [.p (vP b 0) [],.p (vT a0.Array.l) [0],.q (vT s.l),.p (vP b 1) [],.p (vS p a0.Subs c) [0],.q (vT y.l),.q (vT s1.l),.q (vT s2.l)] [[],[(0,false)],[(1,false)],[],[(3,false)],[(4,false)],[(2,false),(5,false)],[(6,false)]] [hB b (cAccess a0 p c)] [] [(7,false)] (zY [0]) ?_ ?_
 · refine Op<|Op<|Oq ?_<|Op<|Op<|Oq ?_<|Oq ?_<|Oq ?_<|On
   · intro I1 hf ae;exact yW [4] rfl<|gK rfl hy<|xF iR
   · intro I1 hf ae;refine yW [7] rfl ?_;have H:=iS I1;have h:=h.mono ae;refine xM (dS a0.Subs _ aA h) ?_;rintro I0 ay v2 k2 le - ⟨v0,rfl,rfl,rfl⟩ -;have H:=H.trans le;exact xF H
   · intro I1 hf ae;exact yW [5,8] rfl<|gK rfl aK<|xF iR
   intro I1 hf ae;exact yW [9] rfl<|gK rfl bi<|xF iR
 intro aW ae;refine yW [10] rfl ?_;refine yI [] [2] rfl<|zH<|yY ?_;obtain rfl:=zC N;exact wF
def qP (e0:zI):Option (Str):=do
 if (e0.Kind==1) then
  let y<-qN e0.Num
  pure (id y)
 else
  if (e0.Kind==2) then
   let y1<-jL e0.Index
   let s<-cat (⟨[123]⟩:Str) y1
   let s1<-cat s (⟨[125]⟩:Str)
   pure (id s1)
  else
   if (e0.Kind==3) then
    let y2<-rW e0.Read
    pure (id y2)
   else
    let x<-idx e0.Kids 0
    let y3<-qP (same x)
    let s2<-cat (⟨[40]⟩:Str) y3
    let s3<-sslc (⟨[43,45,42]⟩:Str) (W (e0.Kind - 4)) (W ((W (e0.Kind - 4))+1))
    let s4<-cat s2 s3
    let x1<-idx e0.Kids 1
    let y4<-qP (same x1)
    let s5<-cat s4 y4
    let s6<-cat s5 (⟨[41]⟩:Str)
    pure (id s6)
 partial_fixpoint
theorem zDN:∀ e0 r,qP e0=some r->∀ {I:Imm}{p c p1 c1 p2 c2},(S4 I p e0.Index.Coefs c)->(S4 I p1 e0.Read.Subs c1)->(S4 I p2 e0.Kids c2)->RT 217 [vA (cExpr e0 p c p1 c1 p2 c2)] I [] (sG  r):=by
 refine qP.partial_correctness _ fun F_spec_l3Text ih_spec_l3Text e0 r N I p c p1 c1 p2 c2 h h1 h2=>yK func217 fun B=>?_;have H:=iS I;refine yF<|tT (cExpr e0 p c p1 c1 p2 c2) ?_;intro b hb;refine wI [] []<|zZ<|yF<|yI [0] [4] rfl<|xY<|yG [5] rfl<|zH<|yE N ?_ ?_
 · intro hc N;refine yF<|yC 2 [0] [8] rfl<|bE N fun y hy N=>xM (dZ e0.Num _ hy ) ?_;rintro I0 ay v2 k2 le - ⟨v0,rfl,rfl,rfl⟩ -;refine yI [] [2] rfl<|xD<|zW<|zG ?_;obtain rfl:=zC N;exact wF
 intro hc N;refine yG [10] rfl<|zH<|yE N ?_ ?_
 · intro aH N;refine yF<|rH 2 [0] [(13,vA (cAff e0.Index p c))]<|bE N fun y1 aA N=>xM (zAy e0.Index _ aA h) ?_;rintro aW ay v2 k2 ae - ⟨v01,rfl,rfl,rfl⟩ -;obtain ⟨s,aK,N⟩:=zB N;refine gK rfl aK<|bE N fun s1 bi N=>gK rfl bi<|yI [] [2] rfl<|xD<|zW<|zG ?_;obtain rfl:=zC N;exact wF
 intro aH N;refine yG [17] rfl<|zH<|yE N ?_ ?_
 · intro aZ N;refine yF<|rH 2 [0] [(20,vA (cAccess e0.Read p1 c1))]<|bE N fun y2 bu N=>xM (fZ e0.Read _ bu h1) ?_;rintro aX ay v2 k2 aF - ⟨v02,rfl,rfl,rfl⟩ -;refine yI [] [2] rfl<|xD<|zW<|zG ?_;obtain rfl:=zC N;exact wF
 intro aZ N;refine zT<|zN<|zH<|yB ?_;obtain ⟨x,bJ,N⟩:=zB N;obtain ⟨y3,hy6,N⟩:=zB N;obtain ⟨s2,hy7,N⟩:=zB N;obtain ⟨s3,hy8,N⟩:=zB N;obtain ⟨s4,hy9,N⟩:=zB N;obtain ⟨x1,hy10,N⟩:=zB N;obtain ⟨y4,hy11,N⟩:=zB N;obtain ⟨s5,hy12,N⟩:=zB N;obtain ⟨s6,hy13,N⟩:=zB N;refine wT [.p (vP b 6) [],.p (vS p2 e0.Kids c2) [0],.x (ePExpr x),.x (eVExpr x),.q (vT y3.l),.q (vT s2.l),.p (vP b 0) [],.p (vI e0.Kind) [0],.p (vI (W (e0.Kind - 4))) [],.p (vP b 0) [],.p (vI e0.Kind) [0],.p (vI (W (e0.Kind - 4))) [],.p (vI (W ((W (e0.Kind - 4))+1))) [],.q (vT s3.l),.q (vT s4.l),.p (vP b 6) [],.p (vS p2 e0.Kids c2) [0],.x (ePExpr x1),.x (eVExpr x1),.q (vT y4.l),.q (vT s5.l),.q (vT s6.l)] [[],[(0,false)],[(1,false)],[(2,false)],[(3,false)],[(4,false)],[],[(6,false)],[(7,false)],[],[(9,false)],[(10,false)],[(11,false)],[(8,false),(12,false)],[(5,false),(13,false)],[],[(15,false)],[(16,false)],[(17,false)],[(18,false)],[(14,false),(19,false)],[(20,false)]] [hB b (cExpr e0 p c p1 c1 p2 c2)] [] [(21,false)] (zY [0]) ?_ ?_
 · refine Op<|Op<|Ox ?_<|Ox ?_<|Oq ?_<|Oq ?_<|Op<|Op<|Op<|Op<|Op<|Op<|Op<|Oq ?_<|Oq ?_<|Op<|Op<|Ox ?_<|Ox ?_<|Oq ?_<|Oq ?_<|Oq ?_<|On
   · intro I1 hf ae;refine yW [23] rfl ?_;have h2:=h2.mono ae;refine xL rfl rfl h2 bJ ?_;intro ad aP aq am;obtain ⟨p3,c3,p4,c4,p5,c5,rfl,h6,h7,h8⟩:=tX am;exact yL [] iR ⟨_,_,_,_,_,_,_,rfl,rfl,aq,h6,h7,h8⟩
   · rintro I1 hf ae _ _ ⟨ad,p3,c3,p4,c4,p5,c5,rfl,rfl,aq,h6,h7,h8⟩;exact yW [24] rfl<|xE 0 aq (cExpr x p3 c3 p4 c4 p5 c5) (vA (cExpr x p3 c3 p4 c4 p5 c5)) rfl<|yL [] iR ⟨_,_,_,_,_,_,rfl,rfl,h6,h7,h8⟩
   · rintro I1 hf ae _ _ ⟨p31,c31,p41,c41,p51,c51,rfl,rfl,h61,h71,h81⟩;refine yW [25] rfl ?_;have H:=iS I1;refine xM (ih_spec_l3Text x _ hy6 h61 h71 h81) ?_;rintro bG ay v2 k2 aJ - ⟨v06,rfl,rfl,rfl⟩ -;have H:=H.trans aJ;exact xF H
   · intro I1 hf ae;exact yW [26] rfl<|gK rfl hy7<|xF iR
   · intro I1 hf ae;exact yW [30,34] rfl<|zIe rfl hy8<|xF iR
   · intro I1 hf ae;exact yW [27,35] rfl<|gK rfl hy9<|xF iR
   · intro I1 hf ae;refine yW [38] rfl ?_;have h2:=h2.mono ae;refine xL rfl rfl h2 hy10 ?_;intro ad1 bv av ax;obtain ⟨p6,c6,p7,c7,p8,c8,rfl,h10,h11,h12⟩:=tX ax;exact yL [] iR ⟨_,_,_,_,_,_,_,rfl,rfl,av,h10,h11,h12⟩
   · rintro I1 hf ae _ _ ⟨ad1,p6,c6,p7,c7,p8,c8,rfl,rfl,av,h10,h11,h12⟩;exact yW [39] rfl<|xE 0 av (cExpr x1 p6 c6 p7 c7 p8 c8) (vA (cExpr x1 p6 c6 p7 c7 p8 c8)) rfl<|yL [] iR ⟨_,_,_,_,_,_,rfl,rfl,h10,h11,h12⟩
   · rintro I1 hf ae _ _ ⟨p61,c61,p71,c71,p81,c81,rfl,rfl,h101,h111,h121⟩;refine yW [40] rfl ?_;have H:=iS I1;refine xM (ih_spec_l3Text x1 _ hy11 h101 h111 h121) ?_;rintro bL ay v2 k2 bd - ⟨v010,rfl,rfl,rfl⟩ -;have H:=H.trans bd;exact xF H
   · intro I1 hf ae;exact yW [36,41] rfl<|gK rfl hy12<|xF iR
   intro I1 hf ae;exact yW [42] rfl<|gK rfl hy13<|xF iR
 intro bR bw;refine yW [43] rfl ?_;refine yI [] [2] rfl<|zH<|yY ?_;obtain rfl:=zC N;exact wF
def jB (s:zP):Option (Str):=do
 let y<-rO s 4
 if (!y) then
  pure (⟨[]⟩:Str)
 else
  let y1<-rW s.Write
  let s1<-cat y1 (⟨[61]⟩:Str)
  let y2<-qP s.Value
  let s2<-cat s1 y2
  pure (id s2)
theorem zE2:∀ s r,jB s=some r->∀ {I:Imm}{p c p1 c1 p2 c2 p3 c3},(S4 I p s.Write.Subs c)->(S4 I p1 s.Value.Index.Coefs c1)->(S4 I p2 s.Value.Read.Subs c2)->(S4 I p3 s.Value.Kids c3)->RT 241 [vA (cStmt s p c p1 c1 p2 c2 p3 c3)] I [] (sG  r):=by
 intro s r N I p c p1 c1 p2 c2 p3 c3 h h1 h2 h3;unfold jB at N;refine yK func241 fun B=>?_;have H:=iS I;refine yF<|tT (cStmt s p c p1 c1 p2 c2 p3 c3) ?_;intro b hb;refine wI [] []<|zZ<|yF<|rH 1 [0] [(3,vA (cStmt s p c p1 c1 p2 c2 p3 c3))]<|bE N fun y hy N=>vU (zAB s 4 _ hy h h1 h2 h3) ?_;intro I0 le;have ⟨h,h1,h2,h3,H⟩:=m5 le h h1 h2 h3 H;refine yI [] [5] rfl<|zH<|yE N ?_ ?_
 · intro hc N;refine yG [2] rfl<|xD<|zG ?_;obtain rfl:=zC N;exact wF
 intro hc N;refine zT<|zH<|yB ?_;obtain ⟨y1,aA,N⟩:=zB N;obtain ⟨s1,aK,N⟩:=zB N;obtain ⟨y2,bi,N⟩:=zB N;obtain ⟨s2,bu,N⟩:=zB N;refine wT [.p (vP b 0) [],.p (vA (cAccess s.Write p c)) [0],.q (vT y1.l),.q (vT s1.l),.p (vP b 2) [],.p (vA (cExpr s.Value p1 c1 p2 c2 p3 c3)) [0],.q (vT y2.l),.q (vT s2.l)] [[],[(0,false)],[(1,false)],[(2,false)],[],[(4,false)],[(5,false)],[(3,false),(6,false)]] [hB b (cStmt s p c p1 c1 p2 c2 p3 c3)] [] [(7,false)] (zY [0]) ?_ ?_
 · refine Op<|Op<|Oq ?_<|Oq ?_<|Op<|Op<|Oq ?_<|Oq ?_<|On
   · intro I1 hf ae;refine yW [7] rfl ?_;have H:=iS I1;have h:=h.mono ae;refine xM (fZ s.Write _ aA h) ?_;rintro aW ay v2 k2 ae - ⟨v01,rfl,rfl,rfl⟩ -;have H:=H.trans ae;exact xF H
   · intro I1 hf ae;exact yW [8] rfl<|gK rfl aK<|xF iR
   · intro I1 hf ae;refine yW [11] rfl ?_;have H:=iS I1;have ⟨h1,h2,h3⟩:=m3 ae h1 h2 h3;refine xM (zDN s.Value _ bi h1 h2 h3) ?_;rintro aX ay v2 k2 aF - ⟨v02,rfl,rfl,rfl⟩ -;have H:=H.trans aF;exact xF H
   intro I1 hf ae;exact yW [9,12] rfl<|gK rfl bu<|xF iR
 intro bG aJ;refine yW [13] rfl ?_;refine yI [] [2] rfl<|zH<|yY ?_;obtain rfl:=zC N;exact wF
def zDu (r:zP×Bool):KT:=fun kk I' ah v=>
  ∃ v0 v1,ah=[]/\v=tupV [v0,v1]/\(∃ cs,v0=.agg ⟨cs⟩/\Rp.rep I' cs r.1)/\v1=.bool r.2
def kE (bq:Str):Option (zP×Bool):=do
 if (decide ((bq.l.length:Int)<4)) then
  pure ((zP.mk (zL.mk (⟨[]⟩:Str) ([]:List zA)) (zI.mk 0 0 (zA.mk ([]:List Int) 0) (zL.mk (⟨[]⟩:Str) ([]:List zA)) ([]:List zI))),false)
 else
  let (y1,y2)<-pI bq 0
  let t25<-(do
    if (decide (y2<0)) then
     pure true
    else
     pure (decide (y2>=(bq.l.length:Int)))
      : Option Bool)
  if t25 then
   pure ((zP.mk (zL.mk (⟨[]⟩:Str) ([]:List zA)) (zI.mk 0 0 (zA.mk ([]:List Int) 0) (zL.mk (⟨[]⟩:Str) ([]:List zA)) ([]:List zI))),false)
  else
   let (y4,y5)<-pT bq (W (y2+1)) 5
   let y6<-jB (zP.mk y1 y4)
   if (!(y6.l==bq.l)) then
    pure ((zP.mk (zL.mk (⟨[]⟩:Str) ([]:List zA)) (zI.mk 0 0 (zA.mk ([]:List Int) 0) (zL.mk (⟨[]⟩:Str) ([]:List zA)) ([]:List zI))),false)
   else
    pure ((zP.mk y1 y4),true)
theorem zB2:∀ bq r,kE bq=some r->∀ {I:Imm} ,RT 213 [vT bq.l] I [] (zDu  r):=by
 intro bq r N I;unfold kE at N;refine yK func213 fun B=>?_;have H:=iS I;refine yF<|wS [vT ([]),z0,vI 0,vI 0,z0,vI 0,vT ([]),z0,z0] ?_;intro b hb;refine wI [] []<|zZ<|yG [11] rfl<|zH<|yE N ?_ ?_
 · intro hc N;refine yF<|yC 1 [] [12] rfl<|xJ 0 [vT ([]),z0,vI 0,vI 0,z0,vI 0,vT ([]),z0,z0] rfl<|wI [] [(3,vF)]<|xD<|zG ?_;obtain rfl:=zC N;exact xA ⟨_,_,(.cell 0 rfl rfl (by kernel_rfl) (.tmp rfl ResV.nil)),zQ,⟨_,_,rfl,rfl,⟨_,rfl,(vD ⟨_,_,_,_,rfl,(SL.nil _),(SL.nil _),(SL.nil _),(SL.nil _)⟩)⟩,rfl⟩⟩
 intro hc N;refine zT<|yV<|yC 1 [] [14] rfl ?_;obtain ⟨⟨y1,y2⟩,hy,N⟩:=zB N;refine xM (zAK bq 0 _ hy ) ?_;rintro I0 ay v2 k2 le - ⟨v0,v01,rfl,rfl,⟨cs,rfl,h⟩,rfl⟩ -;have H:=H.trans le;obtain ⟨p,c,rfl,h2⟩:=nY h;refine yC 5 [] [16,17] rfl<|wS [vT ([]),z0] ?_;intro b1 hb1;refine xJ 0 (cAccess y1 p c) rfl<|yI [] [5] rfl<|zZ<|yB ?_;refine wR N [hB b1 (cAccess y1 p c),hB b [vT ([]),z0,vI 0,vI 0,z0,vI 0,vT ([]),z0,z0]] (fun t25=>[(0,vT bq.l),(2,vP b 0),(4,vP b1 0),(5,vI y2),(25,.bool t25)]) (fun o0 aD=>?_) ?_
 · have H:=iS I0;refine zJ<|yC 3 [] [20] rfl<|xW [20] aD ?_ ?_
   · intro aH N;exact wI [] [(25,vY)]<|yN<|zV (ct N H)
   intro aH N;exact yI [] [25] rfl<|yN<|zV (ct N H)
 intro t25 aW ae aV;have h2:=h2.mono ae;refine zH<|yE aV ?_ ?_
 · intro aZ N;refine yF<|yC 1 [] [26] rfl<|xJ 1 [vT ([]),z0,vI 0,vI 0,z0,vI 0,vT ([]),z0,z0] rfl<|wI [] [(3,vF)]<|xD<|zG ?_;obtain rfl:=zC N;exact xA ⟨_,_,(.cell 1 rfl rfl (by kernel_rfl) (.tmp rfl ResV.nil)),zQ,⟨_,_,rfl,rfl,⟨_,rfl,(vD ⟨_,_,_,_,rfl,(SL.nil _),(SL.nil _),(SL.nil _),(SL.nil _)⟩)⟩,rfl⟩⟩
 intro aZ N;refine zT<|yV<|yC 3 [] [28,30] rfl ?_;obtain ⟨⟨y4,y5⟩,aA,N⟩:=zB N;refine xM (zGx bq (W (y2+1)) 5 _ aA ) ?_;rintro aX ay v2 k2 aF - ⟨v03,v04,rfl,rfl,⟨az,rfl,h3⟩,rfl⟩ -;have h2:=h2.mono aF;obtain ⟨p1,c1,p2,c2,p3,c3,rfl,h5,h6,h7⟩:=tX h3;refine yC 7 [] [32,33] rfl<|wS zExpr ?_;intro b2 hb2;refine xJ 0 (cExpr y4 p1 c1 p2 c2 p3 c3) rfl<|wI [] []<|yV<|rH 3 [1,0] [(36,vA [vT y1.Array.l,vS p y1.Subs c,vI y4.Kind,vI y4.Num,vS p1 y4.Index.Coefs c1,vI y4.Index.Const,vT y4.Read.Array.l,vS p2 y4.Read.Subs c2,vS p3 y4.Kids c3])]<|wS [vT ([]),z0,vI 0,vI 0,z0,vI 0,vT ([]),z0,z0] ?_;intro b3 hb3;refine xJ 0 [vT y1.Array.l,vS p y1.Subs c,vI y4.Kind,vI y4.Num,vS p1 y4.Index.Coefs c1,vI y4.Index.Const,vT y4.Read.Array.l,vS p2 y4.Read.Subs c2,vS p3 y4.Kids c3] rfl<|yD rfl<|zZ<|yF<|rH 1 [0] [(37,vA [vT y1.Array.l,vS p y1.Subs c,vI y4.Kind,vI y4.Num,vS p1 y4.Index.Coefs c1,vI y4.Index.Const,vT y4.Read.Array.l,vS p2 y4.Read.Subs c2,vS p3 y4.Kids c3])]<|bE N fun y6 aK N=>xM (zE2 (zP.mk y1 y4) _ aK h2 h5 h6 h7) ?_;rintro bG ay v2 k2 aJ - ⟨v08,rfl,rfl,rfl⟩ -;have ⟨h2,h5,h6,h7⟩:=m4 aJ h2 h5 h6 h7;refine yI [] [40] rfl<|zH<|yE N ?_ ?_
 · intro bK N;refine yF<|yC 1 [] [41] rfl<|xJ 3 [vT ([]),z0,vI 0,vI 0,z0,vI 0,vT ([]),z0,z0] rfl<|wI [] [(3,vF)]<|xD<|zG ?_;obtain rfl:=zC N;exact xA ⟨_,_,(.cell 3 rfl rfl (by kernel_rfl) (.tmp rfl ResV.nil)),zQ,⟨_,_,rfl,rfl,⟨_,rfl,(vD ⟨_,_,_,_,rfl,(SL.nil _),(SL.nil _),(SL.nil _),(SL.nil _)⟩)⟩,rfl⟩⟩
 intro bK N;refine zT<|yV<|rH 1 [0] [(42,vA [vT y1.Array.l,vS p y1.Subs c,vI y4.Kind,vI y4.Num,vS p1 y4.Index.Coefs c1,vI y4.Index.Const,vT y4.Read.Array.l,vS p2 y4.Read.Subs c2,vS p3 y4.Kids c3])]<|xJ 3 [vT y1.Array.l,vS p y1.Subs c,vI y4.Kind,vI y4.Num,vS p1 y4.Index.Coefs c1,vI y4.Index.Const,vT y4.Read.Array.l,vS p2 y4.Read.Subs c2,vS p3 y4.Kids c3] rfl<|wI [] [(3,vY)]<|zH<|yY ?_;obtain rfl:=zC N;exact xA ⟨_,_,(.cell 3 rfl rfl (by kernel_rfl) (.tmp rfl ResV.nil)),zQ,⟨_,_,rfl,rfl,⟨_,rfl,(vD ⟨_,_,_,_,rfl,h2,h5,h6,h7⟩)⟩,rfl⟩⟩
def zGP (r:zD):KT:=fun kk I' ah v=>
  ∃ (a0:Option Addr) (c0:Nat) (s0:List Value) (a1:Option Addr) (c1:Nat) (s1:List Value) (ap:List Raw2) (vN vB:Value) (nl:List zE) (bl:List zP) (csN csB:List Value),
    ah=[hO zF (vS a0 r.Arrays c0) s0,hO Raw2 (vS a1 ap c1) s1,hO zE vN csN,hO zP vB csB]/\v=tupV [vA [vS a0 r.Arrays c0,vS a1 ap c1]]/\L4 I' s0 r.Arrays s1 ap r.Parts vN nl vB bl csN csB
def eZ (p:zD) (line:Str):Option (zD):=do
 let y<-kT line
 let t17<-(do
   if (decide ((y.length:Int)>0)) then
    let x<-idx y 0
    pure (x.l==([97,114,114,97,121]:List UInt8))
   else
    pure false
     : Option Bool)
 if t17 then
  let y1<-fW y
  let l<-app 40 p.Arrays ([y1]:List zF)
  pure (zD.mk l p.Parts)
 else
  if (line.l==([112,97,114,116]:List UInt8)) then
   let l1<-app 48 p.Parts ([(zO.mk ([]:List zE) ([]:List zP))]:List zO)
   pure (zD.mk p.Arrays l1)
  else
   let t43<-(do
     if (decide ((W ((p.Parts.length:Int) - 1))>=0)) then
      if (decide ((y.length:Int)>0)) then
       let x1<-idx y 0
       pure (x1.l==([102,111,114]:List UInt8))
      else
       pure false
     else
      pure false
       : Option Bool)
   if t43 then
    let x2<-idx p.Parts (W ((p.Parts.length:Int) - 1))
    let y2<-eY line
    let l2<-app 48 x2.Nest ([y2]:List zE)
    pure (zD.mk p.Arrays (p.Parts.set (W ((p.Parts.length:Int) - 1)).toNat (zO.mk l2 x2.Body)))
   else
    if (decide ((W ((p.Parts.length:Int) - 1))>=0)) then
     let x4<-idx p.Parts (W ((p.Parts.length:Int) - 1))
     let (y4,y5)<-kE line
     let l3<-app 152 x4.Body ([y4]:List zP)
     pure (zD.mk p.Arrays (p.Parts.set (W ((p.Parts.length:Int) - 1)).toNat (zO.mk x4.Nest l3)))
    else
     pure (id p)
theorem zHn:∀ p line r,eZ p line=some r->∀ {I:Imm}{p1 c cs p2 c1 az}{ap:List Raw2}{vN vB:Value}{nl:List zE}{bl:List zP}{csN csB:List Value},
    L4 I cs p.Arrays az ap p.Parts vN nl vB bl csN csB->RT 175 [vA [vS p1 p.Arrays c,vS p2 ap c1],vT line.l] I [hO zF (vS p1 p.Arrays c) cs,hO Raw2 (vS p2 ap c1) az,hO zE vN csN,hO zP vB csB] (zGP r):=by
 intro p line r N I p1 c cs p2 c1 az ap vN vB nl bl csN csB hQ
 unfold eZ at N
 simp only [hQ.lp.len] at N
 refine yK func175 fun B=>yF<|tT [vS p1 p.Arrays c,vS p2 ap c1] ?_
 intro b hb
 refine wS zTwo ?_
 intro b1 hb1
 refine yD rfl<|yV<|yC 1 [] [11] rfl ?_
 obtain ⟨y,hy,N⟩:=zB N
 refine xM (zBy line _ hy ) ?_
 rintro I0 ay v2 k2 le - ⟨v0,rfl,rfl,h2⟩ -
 have hQ:=hQ.mono le
 obtain ⟨p3,c2,rfl⟩:=h2.form
 refine yI [] [5] rfl<|yV<|yI [1] [6] rfl<|zZ<|yH<|yB ?_
 obtain ⟨o0,aD,N⟩:=zB N
 refine qV (K1 o0 I0 [hB b1 zTwo,hB b [vS p1 p.Arrays c,vS p2 ap c1],hO zF (vS p1 p.Arrays c) cs,hO Raw2 (vS p2 ap c1) az,hO zE vN csN,hO zP vB csB] fun t17=>[(1,vT line.l),(2,vP b 0),(4,vP b1 0),(5,vS p3 y c2),(6,vI (W ((ap.length:Int) - 1))),(17,.bool t17)]) ?_ ?_
 · refine zJ<|yC 4 [] [21] rfl ?_
   cases hc:(decide ((y.length:Int)>0)) with
   | true =>
    have hM0:=sV hc aD
    refine yC 5 [] [22] rfl ?_
    obtain ⟨x,aA,N⟩:=zB hM0
    refine xL rfl rfl h2 aA ?_
    intro ad aP aq am
    obtain rfl:=am
    exact xE 0 aq [vT x.l] (vT x.l) rfl<|yI [] [17] rfl<|yN<|zV ⟨_,(zC N).symm,Imm.le.refl _,rfl,rfl⟩
   | false =>
    have hM01:=tM hc aD
    exact wI [] [(17,vF)]<|yN<|zV ⟨_,(zC hM01).symm,Imm.le.refl _,rfl,rfl⟩
 rintro aW ay m2 ⟨t17,heq,ae,rfl,rfl⟩
 subst o0
 have h2:=h2.mono ae
 have hQ:=hQ.mono ae
 refine zH<|yE N ?_ ?_
 · intro aH N
   obtain ⟨y1,aK,N⟩:=zB N
   obtain ⟨l,bi,N⟩:=zB N
   refine wT [.p (vP b 0) [],.p (vS p1 p.Arrays c) [1],.p (vS p3 y c2) [],.x (eVArr y1),.x (fun I' v hx=>∃ b2,v=vS (some ⟨b2,0,none⟩) ([y1]:List zF) 1/\hx=[]/\(SL I' (vS (some ⟨b2,0,none⟩) ([y1]:List zF) 1) ([y1]:List zF))),.x (fun I' v hx=>∃ p5 c4 aS,v=vS p5 l c4/\hx=[hO zF (vS p5 l c4) aS]/\(RL I' aS l))] [[],[(0,false)],[],[(2,false)],[(3,false)],[(1,false),(4,false),(8,true)]] [hB b1 zTwo,hB b [vS p1 p.Arrays c,vS p2 ap c1],hO Raw2 (vS p2 ap c1) az,hO zE vN csN,hO zP vB csB] [[hO zF (vS p1 p.Arrays c) cs]] [(5,true)] (zY [0,1,3,4,5,2]) ?_ ?_
   · refine Op<|Op<|Op<|Ox ?_<|Ox ?_<|Ox ?_<|On
     · intro I1 hf ae
       refine yW [29] rfl<|xM (zGv y _ aK (h2.mono ae)) ?_
       rintro aX ay v2 k2 aF - ⟨v01,rfl,rfl,⟨aR,rfl,h3⟩⟩ -
       obtain ⟨v02,rfl,h4⟩:=zCj h3
       obtain ⟨p4,c3,rfl⟩:=h4.form
       exact yL [] aF ⟨_,_,rfl,rfl,h4⟩
     · intro I1 hf ae
       refine wG ?_
       rintro _ _ ⟨p4,c3,rfl,rfl,h4⟩
       refine yW [30] rfl<|uO (cArr y1 p4 c3) zF ?_
       intro b2 hb2
       have h5:RL I1 (cArr y1 p4 c3) ([y1]:List zF):=⟨(cArr y1 p4 c3),_,rfl,rfl,(qU ⟨_,rfl,h4⟩),rfl⟩
       refine xI 0 rfl ?_
       intro bG aJ hl0
       exact yL [] aJ ⟨_,rfl,rfl,SL.of_frozen hl0 aJ h5⟩
     intro I1 hf ae
     refine wG ?_
     rintro _ _ ⟨rfl,rfl⟩
     refine wG ?_
     rintro _ _ ⟨b2,rfl,rfl,h6⟩
     refine wG ?_
     rintro _ _ rfl
     refine yW [28,31] rfl ?_
     obtain ⟨bv,k0,k01⟩:=h6
     refine sO 107 2 0 rfl rfl rfl (hQ.mono ae).arr (.inl k0) k01 bi ?_
     intro p5 c4 aS h7
     exact wK (ah:=(hO zF (vS p5 l c4) aS::(hB b1 zTwo::hB b [vS p1 p.Arrays c,vS p2 ap c1]::hO Raw2 (vS p2 ap c1) az::hO zE vN csN::hO zP vB csB::hf))) rfl<|yL [hO zF (vS p5 l c4) aS] iR ⟨_,_,_,rfl,rfl,h7⟩
   intro bL bd
   refine wG ?_
   rintro _ _ ⟨p5,c4,aS,rfl,rfl,h7⟩
   refine yW [2,4,32] rfl ?_
   have hQ:=hQ.mono bd
   refine yC 7 [] [33] rfl<|xJ 2 [vS p5 l c4,vS p2 ap c1] rfl<|yD rfl<|zN<|yV<|rH 1 [2] [(98,vA [vS p5 l c4,vS p2 ap c1])]<|xJ 1 [vS p5 l c4,vS p2 ap c1] rfl<|yD rfl<|zH<|yY ?_
   obtain rfl:=zC N
   exact xA ⟨_,_,(.cell 1 rfl rfl (by kernel_rfl) ResV.nil),(zX [0,3,4,5] rfl (by decide)),⟨_,_,_,_,_,_,_,_,_,_,_,_,_,rfl,rfl,⟨h7,hQ.raw,hQ.lp,hQ.n,hQ.b⟩⟩⟩
 intro aH N
 refine yG [34] rfl<|zH<|yE N ?_ ?_
 · intro aZ N
   refine qK 4 rfl ?_
   intro bR bw hl5
   have kN:=SL.of_frozen hl5 bw hQ.n
   have hQ:=hQ.mono bw
   refine qK 4 rfl ?_
   intro I06 bC hl6
   have kB:=SL.of_frozen hl6 bC hQ.b
   replace kN:=kN.mono bC
   have hQ:=hQ.mono bC
   obtain ⟨l1,bu,N⟩:=zB N
   have bJ:=zJa (l':=ap) (m':=[(⟨z0,z0⟩:Raw2)]) bu hQ.lp.2.1 rfl
   have hLP:=hQ.lp.part kN kB bu
   refine zJ<|wK (ah:=[hB b1 zTwo,hB b [vS p1 p.Arrays c,vS p2 ap c1],hO zF (vS p1 p.Arrays c) cs,hO Raw2 (vS p2 ap c1) az]) rfl<|rH 3 [1] [(38,vS p2 ap c1),(39,vA zTwo)]<|uO zTwo Raw2 ?_
   intro b3 hb3
   have h8:RL I06 zTwo [(⟨z0,z0⟩:Raw2)]:=⟨zTwo,[],rfl,rfl,⟨rfl,rfl,rfl⟩,rfl⟩
   refine sO 47 2 4 rfl rfl rfl hQ.raw (.inr ⟨0,rfl⟩) h8 bJ ?_
   intro p6 c5 bB h9
   refine sE (zY [1,2,3,4] (ah:=[hB b1 zTwo,hB b [vS p1 p.Arrays c,vS p2 ap c1],hO zF (vS p1 p.Arrays c) cs,hO Raw2 (vS p6 (ap++[(⟨z0,z0⟩:Raw2)]) c5) bB]))<|yC 6 [] [42] rfl<|xJ 1 [vS p1 p.Arrays c,vS p6 (ap++[(⟨z0,z0⟩:Raw2)]) c5] rfl<|yD rfl<|zN<|yV<|rH 1 [1] [(98,vA [vS p1 p.Arrays c,vS p6 (ap++[(⟨z0,z0⟩:Raw2)]) c5])]<|xJ 0 [vS p1 p.Arrays c,vS p6 (ap++[(⟨z0,z0⟩:Raw2)]) c5] rfl<|yD rfl<|xD<|xR (oT (Rp.sz zP))<|xR (oT (Rp.sz zE)) ?_
   obtain rfl:=zC N
   exact xA ⟨_,_,(.cell 2 rfl rfl (by kernel_rfl) ResV.nil),(zX [4,5,0,1] rfl (by decide)),⟨_,_,_,_,_,_,_,_,_,_,_,_,_,rfl,rfl,⟨hQ.arr,h9,hLP,RepL.nil,RepL.nil⟩⟩⟩
 intro aZ N
 refine yB ?_
 obtain ⟨aQ,aB,N⟩:=zB N
 refine qV (K1 aQ aW [hB b1 zTwo,hB b [vS p1 p.Arrays c,vS p2 ap c1],hO zF (vS p1 p.Arrays c) cs,hO Raw2 (vS p2 ap c1) az,hO zE vN csN,hO zP vB csB] fun t43=>[(1,vT line.l),(2,vP b 0),(4,vP b1 0),(6,vI (W ((ap.length:Int) - 1))),(43,.bool t43)]) ?_ ?_
 · refine zJ<|yC 3 [] [46] rfl ?_
   cases bK:(decide ((W ((ap.length:Int) - 1))>=0)) with
   | true =>
    have hM02:=sV bK aB
    refine yC 8 [] [51] rfl ?_
    cases bO:(decide ((y.length:Int)>0)) with
    | true =>
     have hM03:=sV bO hM02
     refine yC 9 [] [52] rfl ?_
     obtain ⟨x1,bJ,N⟩:=zB hM03
     refine xL rfl rfl h2 bJ ?_
     intro ad1 bP av ax
     obtain rfl:=ax
     exact xE 0 av [vT x1.l] (vT x1.l) rfl<|yI [] [43] rfl<|yN<|zV ⟨_,(zC N).symm,Imm.le.refl _,rfl,rfl⟩
    | false =>
     have hM04:=tM bO hM02
     exact wI [] [(43,vF)]<|yN<|zV ⟨_,(zC hM04).symm,Imm.le.refl _,rfl,rfl⟩
   | false =>
    have hM05:=tM bK aB
    exact wI [] [(43,vF)]<|yN<|zV ⟨_,(zC hM05).symm,Imm.le.refl _,rfl,rfl⟩
 rintro bR ay m2 ⟨t43,heq1,bw,rfl,rfl⟩
 subst aQ
 have hQ:=hQ.mono bw
 refine zH<|yE N ?_ ?_
 · intro hc5 N
   refine yF<|yC 3 [1] [58,59] rfl ?_
   obtain ⟨x2,hy6,N⟩:=zB N
   obtain ⟨rfl,hyr,hset⟩:=hQ.lp.last hy6
   refine oH 3 rfl rfl rfl hQ.raw hyr ?_
   intro ad2 ccs3 bb bM bk
   obtain ⟨rfl,o1,o2⟩:=bk
   refine zAX 3 0 bb bM [vN,vB] (vA [vN,vB]) rfl rfl<|wS zTwo ?_
   intro b4 hb4
   refine zPQ 0 [vN,vB] (hB b4 [vN,vB]::[hB b1 zTwo,hB b [vS p1 p.Arrays c,vS p2 ap c1],hO zF (vS p1 p.Arrays c) cs,hO Raw2 (vS p2 ap c1) az,hO zE vN csN,hO zP vB csB]) rfl rfl rfl rfl (by simp [Value.cells,o1,o2])<|yD rfl<|zH<|yB ?_
   obtain ⟨y2,hy7,N⟩:=zB N
   obtain ⟨l2,hy8,N⟩:=zB N
   refine wT [.p (vP b4 0) [],.p vN [0],.p (vT line.l) [],.x (eVLoop y2),.x (fun I' v hx=>∃ b5,v=vS (some ⟨b5,0,none⟩) ([y2]:List zE) 1/\hx=[]/\(SL I' (vS (some ⟨b5,0,none⟩) ([y2]:List zE) 1) ([y2]:List zE))),.x (fun I' v hx=>∃ aT bj aS,v=vS aT l2 bj/\hx=[hO zE (vS aT l2 bj) aS]/\(RL I' aS l2))] [[],[(0,false)],[],[(2,false)],[(3,false)],[(1,false),(4,false),(8,true)]] [hB b4 [vN,vB],hB b1 zTwo,hB b [vS p1 p.Arrays c,vS p2 ap c1],hO zF (vS p1 p.Arrays c) cs,hO Raw2 (vS p2 ap c1) az,hO zP vB csB] [[hO zE vN csN]] [(5,true)] (zY [0,1,2,3,4,6,5]) ?_ ?_
   · refine Op<|Op<|Op<|Ox ?_<|Ox ?_<|Ox ?_<|On
     · intro I1 hf ae
       refine yW [64] rfl<|xM (zHm line _ hy7 ) ?_
       rintro I06 ay v2 k2 bC - ⟨v05,rfl,rfl,⟨bI,rfl,h12⟩⟩ -
       obtain ⟨v06,v07,rfl,h13,h14⟩:=zDF h12
       obtain ⟨p9,c8,rfl⟩:=h13.form
       obtain ⟨bc,c9,rfl⟩:=h14.form
       exact yL [] bC ⟨_,_,_,_,rfl,rfl,h13,h14⟩
     · intro I1 hf ae
       refine wG ?_
       rintro _ _ ⟨p9,c8,bc,c9,rfl,rfl,h13,h14⟩
       refine yW [65] rfl<|uO (cLoop y2 p9 c8 bc c9) zE ?_
       intro b5 hb5
       have h15:RL I1 (cLoop y2 p9 c8 bc c9) ([y2]:List zE):=⟨(cLoop y2 p9 c8 bc c9),_,rfl,rfl,(qL ⟨_,_,rfl,h13,h14⟩),rfl⟩
       refine xI 0 rfl ?_
       intro I07 le7 hl01
       exact yL [] le7 ⟨_,rfl,rfl,SL.of_frozen hl01 le7 h15⟩
     intro I1 hf ae
     refine wG ?_
     rintro u _ ⟨hu,rfl⟩
     have hu:=hu.symm
     subst hu
     refine wG ?_
     rintro _ _ ⟨b5,rfl,rfl,h16⟩
     refine wG ?_
     rintro _ _ rfl
     refine yW [63,66] rfl ?_
     obtain ⟨ccs4,k0,k01⟩:=h16
     refine sO 141 2 0 rfl rfl rfl (hQ.mono ae).n (.inl k0) k01 hy8 ?_
     intro aT bj aS h17
     exact wK (ah:=(hO zE (vS aT l2 bj) aS::(hB b4 [vN,vB]::hB b1 zTwo::hB b [vS p1 p.Arrays c,vS p2 ap c1]::hO zF (vS p1 p.Arrays c) cs::hO Raw2 (vS p2 ap c1) az::hO zP vB csB::hf))) rfl<|yL [hO zE (vS aT l2 bj) aS] iR ⟨_,_,_,rfl,rfl,h17⟩
   intro I08 le8
   refine wG ?_
   rintro _ _ ⟨aT,bj,aS,rfl,rfl,h17⟩
   refine yW [2,4,6,7,67] rfl ?_
   have hQ:=hQ.mono le8
   refine yC 7 [] [68] rfl<|xJ 1 [vS aT l2 bj,vB] rfl<|yD rfl<|zH<|zJ<|rH 4 [3,1] [(70,vS p2 ap c1),(71,vI (W ((ap.length:Int) - 1))),(72,vA [vS aT l2 bj,vB])]<|oH 5 rfl rfl rfl hQ.raw hyr ?_
   intro ad3 ccs5 hat3 hcc1 bH
   obtain ⟨rfl,-⟩:=bH
   refine tW (α:=Raw2) (c:=[vS aT l2 bj,vB]) (x':=⟨vS aT l2 bj,vB⟩) 5 0 rfl rfl rfl hat3 rfl rfl hcc1 (by kernel_rfl) (by kernel_rfl) (by simp [Value.cells,o2]; rfl) hQ.raw hyr (by kernel_rfl) ⟨rfl,rfl,o2⟩ ?_
   intro cs6 h19 hl02
   refine wK (ah:=[hO zE (vS aT l2 bj) aS,hB b4 [vS aT l2 bj,vB],hB b1 zTwo,hB b [vS p1 p.Arrays c,vS p2 ap c1],hO zF (vS p1 p.Arrays c) cs,hO Raw2 (vS p2 ap c1) cs6,hO zP vB csB]) rfl<|yD rfl<|zN<|yV<|rH 1 [3] [(98,vA [vS p1 p.Arrays c,vS p2 ap c1])]<|xJ 2 [vS p1 p.Arrays c,vS p2 ap c1] rfl<|yD rfl<|zH<|yY ?_
   obtain rfl:=zC N
   exact xA ⟨[vA [vS p1 p.Arrays c,vS p2 ap c1]],_,(.cell 2 rfl rfl (by kernel_rfl) ResV.nil),(zX [4,5,0,6] rfl (by decide)),⟨p1,c,cs,p2,c1,cs6,ap.set (W ((ap.length:Int) - 1)).toNat ⟨vS aT l2 bj,vB⟩,vS aT l2 bj,vB,l2,bl,aS,csB,(by simp only [vS,hl02]),(by simp only [vS,hl02]),⟨hQ.arr,h19,(hset _ _ _ _).mono le8,h17,hQ.b⟩⟩⟩
 intro hc5 N
 refine yG [74] rfl<|zH<|yE N ?_ ?_
 · intro hc6 N
   refine yF<|yC 3 [1] [78,79] rfl ?_
   obtain ⟨x4,hy10,N⟩:=zB N
   obtain ⟨rfl,hyr,hset⟩:=hQ.lp.last hy10
   refine oH 3 rfl rfl rfl hQ.raw hyr ?_
   intro ad4 ccs5 hat4 hcc2 hrep4
   obtain ⟨rfl,o1,o2⟩:=hrep4
   refine zAX 3 0 hat4 hcc2 [vN,vB] (vA [vN,vB]) rfl rfl<|wS zTwo ?_
   intro b6 hb6
   refine zPQ 0 [vN,vB] (hB b6 [vN,vB]::[hB b1 zTwo,hB b [vS p1 p.Arrays c,vS p2 ap c1],hO zF (vS p1 p.Arrays c) cs,hO Raw2 (vS p2 ap c1) az,hO zE vN csN,hO zP vB csB]) rfl rfl rfl rfl (by simp [Value.cells,o1,o2])<|yD rfl<|yV<|rH 1 [] [(83,vT line.l)] ?_
   obtain ⟨⟨y4,y5⟩,hy11,N⟩:=zB N
   refine xM (zB2 line _ hy11 ) ?_
   rintro I09 ay v2 k2 le9 - ⟨v012,v013,rfl,rfl,⟨cs7,rfl,h22⟩,rfl⟩ -
   have hQ:=hQ.mono le9
   obtain ⟨v014,v015,v016,v017,rfl,h24,h25,h26,h27⟩:=mA h22
   obtain ⟨p15,c14,rfl⟩:=h24.form
   obtain ⟨p16,c15,rfl⟩:=h25.form
   obtain ⟨p17,c16,rfl⟩:=h26.form
   obtain ⟨p18,c17,rfl⟩:=h27.form
   refine yC 5 [] [85,86] rfl<|wS [vT ([]),z0,vI 0,vI 0,z0,vI 0,vT ([]),z0,z0] ?_
   intro b7 hb7
   refine zBd 0 (cStmt y4 p15 c14 p16 c15 p17 c16 p18 c17) (hB b7 (cStmt y4 p15 c14 p16 c15 p17 c16 p18 c17)::hB b6 [vN,vB]::[hB b1 zTwo,hB b [vS p1 p.Arrays c,vS p2 ap c1],hO zF (vS p1 p.Arrays c) cs,hO Raw2 (vS p2 ap c1) az,hO zE vN csN,hO zP vB csB]) rfl rfl rfl rfl<|wI [] []<|yV<|rH 3 [1,0] [(88,vB),(89,vA (cStmt y4 p15 c14 p16 c15 p17 c16 p18 c17))]<|uO (cStmt y4 p15 c14 p16 c15 p17 c16 p18 c17) zP ?_
   intro b8 hb8
   have h28:RL I09 (cStmt y4 p15 c14 p16 c15 p17 c16 p18 c17) ([y4]:List zP):=⟨(cStmt y4 p15 c14 p16 c15 p17 c16 p18 c17),_,rfl,rfl,(vD ⟨_,_,_,_,rfl,h24,h25,h26,h27⟩),rfl⟩
   obtain ⟨l3,hy12,N⟩:=zB N
   refine sO 100 9 8 rfl rfl rfl hQ.b (.inr ⟨0,rfl⟩) h28 hy12 ?_
   intro p19 c18 cs9 h29
   refine sE (zY [2,3,4,5,6,7,8] (ah:=[hB b6 [vN,vB],hB b1 zTwo,hB b [vS p1 p.Arrays c,vS p2 ap c1],hO zF (vS p1 p.Arrays c) cs,hO Raw2 (vS p2 ap c1) az,hO zE vN csN,hO zP (vS p19 l3 c18) cs9]))<|yC 6 [] [92] rfl<|xJ 0 [vN,vS p19 l3 c18] rfl<|yD rfl<|zH<|zJ<|rH 4 [2,0] [(94,vS p2 ap c1),(95,vI (W ((ap.length:Int) - 1))),(96,vA [vN,vS p19 l3 c18])]<|oH 4 rfl rfl rfl hQ.raw hyr ?_
   intro ad5 ccs6 hat5 hcc3 hrep5
   obtain ⟨rfl,-⟩:=hrep5
   refine tW (α:=Raw2) (c:=[vN,vS p19 l3 c18]) (x':=⟨vN,vS p19 l3 c18⟩) 4 0 rfl rfl rfl hat5 rfl rfl hcc3 (by kernel_rfl) (by kernel_rfl) (by simp [Value.cells,o1]; rfl) hQ.raw hyr (by kernel_rfl) ⟨rfl,o1,rfl⟩ ?_
   intro cs8 h31 hl03
   refine wK (ah:=[hB b6 [vN,vS p19 l3 c18],hB b1 zTwo,hB b [vS p1 p.Arrays c,vS p2 ap c1],hO zF (vS p1 p.Arrays c) cs,hO Raw2 (vS p2 ap c1) cs8,hO zE vN csN,hO zP (vS p19 l3 c18) cs9]) rfl<|yD rfl<|zN<|yV<|rH 1 [2] [(98,vA [vS p1 p.Arrays c,vS p2 ap c1])]<|xJ 1 [vS p1 p.Arrays c,vS p2 ap c1] rfl<|yD rfl<|zH<|yY ?_
   obtain rfl:=zC N
   exact xA ⟨[vA [vS p1 p.Arrays c,vS p2 ap c1]],_,(.cell 1 rfl rfl (by kernel_rfl) ResV.nil),(zX [3,4,5,6] rfl (by decide)),⟨p1,c,cs,p2,c1,cs8,ap.set (W ((ap.length:Int) - 1)).toNat ⟨vN,vS p19 l3 c18⟩,vN,vS p19 l3 c18,nl,l3,csN,cs9,(by simp only [vS,hl03]),(by simp only [vS,hl03]),⟨hQ.arr,h31,(hset _ _ _ _).mono le9,hQ.n,h29⟩⟩⟩
 intro hc6 N
 refine zT<|zN<|yV<|rH 1 [1] [(98,vA [vS p1 p.Arrays c,vS p2 ap c1])]<|xJ 0 [vS p1 p.Arrays c,vS p2 ap c1] rfl<|yD rfl<|zH<|yY ?_
 obtain rfl:=zC N
 exact xA ⟨_,_,(.cell 0 rfl rfl (by kernel_rfl) ResV.nil),(zX [2,3,4,5] rfl (by decide)),⟨_,_,_,_,_,_,_,_,_,_,_,_,_,rfl,rfl,hQ⟩⟩
def vX (x:zF) (k0:Int):Option (Out Unit (Bool)):=do
 if (decide (k0<(x.Dims.length:Int))) then
  let t77<-(do
    let x2<-idx x.Dims k0
    if (decide (x2<1)) then
     pure true
    else
     let x3<-idx x.Dims k0
     pure (decide (x3>6))
      : Option Bool)
  if t77 then
   pure (.ret false)
  else
   vX x (W (k0+1))
 else
  pure (.done ())
 partial_fixpoint
theorem zDv (x:zF):∀ (k0:Int) (o:Out Unit (Bool)),vX x k0=some o->∀ {B}{I0 I:Imm}{Q}{list:(List zF)}{i:Int}{p c p1 c1}{b:Nat},I0.le I->(S4 I p list c)->(S4 I p1 x.Dims c1)->NG Q->NO Q->(∀ (I':Imm) ,o=(.done ())->I0.le I'->T 81 B Q (.exit 2) I' [] [(0,vS p list c),(3,vI i)])->(∀ r I' ah m',o=(.ret r)->I0.le I'->RS Tryz.prog f100 B (zU  r) I' ah m'->T 81 B Q .ret I' ah m')->J Tryz.prog 81 B (nav (bodyOf f100) [1,0,1,0,0,1,0,0,1,1,1,0]) Q I [hB b (cArr x p1 c1)] [(0,vS p list c),(3,vI i),(4,vP b 0),(5,vI k0)]:=by
 refine vX.partial_correctness x _ fun aI ih k0 o N B I0 I Q list i p c p1 c1 b H h h1 hg ho hx hr=>yO hg ho<|yB<|yF<|yI [0] [61] rfl<|zH<|yE N ?_ ?_
 · intro hc9 N;refine zT<|zZ<|yH<|yB ?_;refine wR N [hB b (cArr x p1 c1)] (fun t77=>[(0,vS p list c),(3,vI i),(4,vP b 0),(5,vI k0),(77,.bool t77)]) (fun aQ aB=>?_) ?_
   · have H:=iS I;refine zJ<|yC 3 [0] [65,66] rfl ?_;obtain ⟨x2,aK,N⟩:=zB aB;refine xL rfl rfl h1 aK ?_;intro ad2 bP bb bk;obtain rfl:=bk;refine xE 0 bb [vI x2] (vI x2) rfl<|yC 7 [] [70] rfl<|xW [70] N ?_ ?_
     · intro hc10 N;exact wI [] [(77,vY)]<|yN<|zV (ct N H)
     intro hc10 N;refine yC 10 [0] [72,73] rfl<|bE N fun x3 bi N=>xL rfl rfl h1 bi ?_;intro ad3 ccs3 hat3 bH;obtain rfl:=bH;exact xE 0 hat3 [vI x3] (vI x3) rfl<|yI [] [77] rfl<|yN<|zV (ct N H)
   intro t77 aW ae hMc1;have ⟨h,h1,H⟩:=m3 ae h h1 H;refine zH<|yE hMc1 ?_ ?_
   · intro hc11 N;exact wQ [(2,vF)]<|xD<|zW<|zG<|zG<|hr _ _ _ _ (zC N).symm H ⟨_,_,(.tmp rfl ResV.nil),zQ,⟨_,rfl,rfl,rfl⟩⟩
   intro hc11 N;exact zT<|zN<|zH<|zJ<|yI [] [5] rfl<|yM<|nT<|ih (W (k0+1)) _ N H h h1 hg ho hx hr
 intro hc9 N;exact wL<|xR zQ<|yN<|hx _  (zC N).symm H
def uR (list:(List zF)) (i:Int):Option (Out Unit (Bool)):=do
 if (decide (i<(list.length:Int))) then
  let x<-idx list i
  let t56<-(do
    if ((x.Name.l.length:Int) != 1) then
     pure true
    else
     if (Op.bytesLess x.Name.l ([65]:List UInt8)) then
      pure true
     else
      if (!(Op.bytesLess x.Name.l ([68]:List UInt8)||x.Name.l==([68]:List UInt8))) then
       pure true
      else
       if (decide (i>0)) then
        let x1<-idx list (W (i - 1))
        if (!(Op.bytesLess x1.Name.l x.Name.l)) then
         pure true
        else
         if (decide ((x.Dims.length:Int)<1)) then
          pure true
         else
          pure (decide ((x.Dims.length:Int)>2))
       else
        if (decide ((x.Dims.length:Int)<1)) then
         pure true
        else
         pure (decide ((x.Dims.length:Int)>2))
      : Option Bool)
  if t56 then
   pure (.ret false)
  else
   match<-vX x 0 with
   | .ret r0=>pure (.ret r0)
   | .done _ =>
    uR list (W (i+1))
 else
  pure (.done ())
 partial_fixpoint
theorem zDw (list:(List zF)):∀ (i:Int) (o:Out Unit (Bool)),uR list i=some o->∀ {B}{I0 I:Imm}{Q p c},I0.le I->(S4 I p list c)->NG Q->NO Q->(∀ (I':Imm) ,o=(.done ())->I0.le I'->T 81 B Q (.exit 0) I' [] [(0,vS p list c)])->(∀ r I' ah m',o=(.ret r)->I0.le I'->RS Tryz.prog f100 B (zU  r) I' ah m'->T 81 B Q .ret I' ah m')->J Tryz.prog 81 B (nav (bodyOf f100) [1,0,1,0]) Q I [] [(0,vS p list c),(3,vI i)]:=by
 refine uR.partial_correctness list _ fun aI ih i o N B I0 I Q p c H h hg ho hx hr=>yO hg ho<|yB<|yG [9] rfl<|zH<|yE N ?_ ?_
 · intro hc N;refine zT<|zZ<|yH<|yF<|yC 2 [] [12,13] rfl<|bE N fun x hy N=>xL rfl rfl h hy ?_;intro ad aP aq am;obtain ⟨p1,c1,rfl,h1⟩:=wW am;refine xE 0 aq (cArr x p1 c1) (vA (cArr x p1 c1)) rfl<|wS [vT ([]),z0] ?_;intro b hb;refine xJ 0 (cArr x p1 c1) rfl<|yD rfl<|zZ<|yB ?_;refine wR N [hB b (cArr x p1 c1)] (fun t56=>[(0,vS p list c),(3,vI i),(4,vP b 0),(56,.bool t56)]) (fun o0 aD=>?_) ?_
   · have H:=iS I;refine kI (by kernel_rfl) (by kernel_rfl)<|fP 5 [0] [20] rfl<|zGo [20] aD ?_ ?_
     · intro aH N;exact zKV [] [(56,vY)]<|yN<|zV (ct N H)
     intro aH N;refine fP 10 [0] [25] rfl<|zGo [25] N ?_ ?_
     · intro aZ N;exact zKV [] [(56,vY)]<|yN<|zV (ct N H)
     intro aZ N;refine fP 15 [0] [30] rfl<|zGo [30] N ?_ ?_
     · intro bK N;exact zKV [] [(56,vY)]<|yN<|zV (ct N H)
     intro bK N;refine fP 18 [] [33] rfl<|zGo [33] N ?_ ?_
     · intro bO N;refine fP 21 [] [34,36] rfl<|bE N fun x1 aA N=>dW rfl rfl h aA ?_;intro ad1 bv av ax;obtain ⟨p2,c2,rfl,h2⟩:=wW ax;refine fP 23 [] [38] rfl<|fA 0 av [vT x1.Name.l] (vT x1.Name.l) rfl<|fP 30 [0] [45] rfl<|zGo [45] N ?_ ?_
       · intro hc5 N;exact zKV [] [(56,vY)]<|yN<|zV (ct N H)
       intro hc5 N;refine fP 36 [0] [51] rfl<|zGo [51] N ?_ ?_
       · intro hc6 N;exact zKV [] [(56,vY)]<|yN<|zV (ct N H)
       intro hc6 N;exact zGr [0] [56] rfl<|yN<|zV (ct N H)
     intro bO N;refine fP 36 [0] [51] rfl<|zGo [51] N ?_ ?_
     · intro hc7 N;exact zKV [] [(56,vY)]<|yN<|zV (ct N H)
     intro hc7 N;exact zGr [0] [56] rfl<|yN<|zV (ct N H)
   intro t56 I0 le aV;have ⟨h,h1,H⟩:=m3 le h h1 H;refine zH<|yE aV ?_ ?_
   · intro hc8 N;exact wQ [(2,vF)]<|xD<|zG<|zW<|zG<|zG<|hr _ _ _ _ (zC N).symm H ⟨_,_,(.tmp rfl ResV.nil),zQ,⟨_,rfl,rfl,rfl⟩⟩
   intro hc8 N;refine zT<|wP [5] rfl<|xY<|qI [(0,vS p list c),(3,vI i),(4,vP b 0),(5,vI 0)] ?_;obtain ⟨o02,ho02,aM⟩:=zB N;refine zDv x 0 o02 ho02 iR h h1 (fun _ _ _ h=>hg _ _ _ h) (fun _ _ h=>ho _ _ h) ?_ ?_
   · intro aX  heq2 aF;subst o02;have ⟨h,H⟩:=m2 aF h H;exact zS<|zN<|zH<|zJ<|yI [] [3] rfl<|yM<|nT<|ih (W (i+1)) _ aM H h hg ho hx hr
   intro r0 I9 hs9 m9 aY le9 ba;subst aY;exact zW<|zW<|zG<|zG<|hr _ _ _ _ (zC aM).symm (H.trans le9) ba
 intro hc N;exact wL<|yN<|hx _  (zC N).symm H
def mL (list:(List zF)):Option (Bool):=do
 match<-uR list 0 with
 | .ret r0=>pure r0
 | .done _ =>
  pure (decide ((list.length:Int)<=4))
theorem zGQ:∀ list r,mL list=some r->∀ {I:Imm}{p c},(S4 I p list c)->RT 100 [vS p list c] I [] (zU  r):=by
 intro list r N I p c h;unfold mL at N;refine yK func100 fun B=>wQ []<|zZ<|yG [3] rfl<|xY<|qI [(0,vS p list c),(3,vI 0)] ?_;obtain ⟨o03,ho03,hMl1⟩:=zB N;refine zDw list 0 o03 ho03 iR h (fun _ _ _ h=>h) (fun _ _ h=>h) ?_ ?_
 · intro bG  heq3 aJ;subst o03;refine zS<|wP [2] rfl<|zH<|yY ?_;obtain rfl:=zC hMl1;exact wF
 intro r0 I9 hs9 m9 aY le9 ba;subst aY;refine zW<|zG ?_;obtain rfl:=zC hMl1;exact xA ba
def sH (a0:zA) (ag:(List Int)) (n0:Int) (i:Int):Option (Int):=do
 let t19<-(do
   if (decide (i<(ag.length:Int))) then
    pure (decide (i<(a0.Coefs.length:Int)))
   else
    pure false
     : Option Bool)
 if t19 then
  let x<-idx a0.Coefs i
  let x1<-idx ag i
  sH a0 ag (W (n0+(W (x*x1)))) (W (i+1))
 else
  pure (id n0)
 partial_fixpoint
theorem zFQ (a0:zA) (ag:(List Int)):∀ (n0:Int) (i:Int) (o:Int),sH a0 ag n0 i=some o->∀ {B}{I0 I:Imm}{Q p c p1 c1}{b:Nat},I0.le I->(S4 I p1 ag c1)->(S4 I p a0.Coefs c)->NG Q->NO Q->(∀ (I':Imm) (n01:Int),o=n01->I0.le I'->T 35 B Q (.exit 0) I' [] [(5,vI n01)])->J Tryz.prog 35 B (nav (bodyOf f155) [1,1,0,1,0]) Q I [hB b (cAff a0 p c)] [(1,vS p1 ag c1),(2,vP b 0),(5,vI n0),(6,vI i)]:=by
 refine sH.partial_correctness a0 ag _ fun aI ih n0 i o N B I0 I Q p c p1 c1 b H h1 h hg ho hx=>yO hg ho<|yB<|yB ?_;refine wR N [hB b (cAff a0 p c)] (fun t19=>[(1,vS p1 ag c1),(2,vP b 0),(5,vI n0),(6,vI i),(19,.bool t19)]) (fun o0 aD=>?_) ?_
 · have H:=iS I;refine zJ<|yC 5 [] [13] rfl<|xW [13] aD ?_ ?_
   · intro hc N;exact yI [0] [19] rfl<|yN<|zV (ct N H)
   intro hc N;exact wI [] [(19,vF)]<|yN<|zV (ct N H)
 intro t19 I0 le aV;have ⟨h1,h,H⟩:=m3 le h1 h H;refine zH<|yE aV ?_ ?_
 · intro aH N;refine zT<|zZ<|yH<|kI (by kernel_rfl) (by kernel_rfl)<|fP 4 [0] [22,24,25] rfl<|bE N fun x hy N=>dW rfl rfl h hy ?_;intro ad aP aq am;obtain rfl:=am;refine fA 0 aq [vI x] (vI x) rfl<|fP 8 [] [28,29] rfl<|bE N fun x1 aA N=>dW rfl rfl h1 aA ?_;intro ad1 bv av ax;obtain rfl:=ax;exact fA 0 av [vI x1] (vI x1) rfl<|zGr [] [5] rfl<|zN<|zH<|zJ<|yI [] [6] rfl<|yM<|nT<|ih (W (n0+(W (x*x1)))) (W (i+1)) _ N H h1 h hg ho hx
 intro aH N;exact wL<|xR zQ<|yN<|hx _ _ (zC N).symm H
def qQ (a0:zA) (ag:(List Int)):Option (Int):=do
 let n01<-sH a0 ag a0.Const 0
 pure (id n01)
theorem eA:∀ a0 ag r,qQ a0 ag=some r->∀ {I:Imm}{p c p1 c1},(S4 I p a0.Coefs c)->(S4 I p1 ag c1)->RT 155 [vA (cAff a0 p c),vS p1 ag c1] I [] (yQ  r):=by
 intro a0 ag r N I p c p1 c1 h h1;unfold qQ at N;refine yK func155 fun B=>yF<|tT (cAff a0 p c) ?_;intro b hb;refine wI [] []<|yV<|yI [0] [5] rfl<|zZ<|yG [6] rfl<|xY<|qI [(1,vS p1 ag c1),(2,vP b 0),(5,vI a0.Const),(6,vI 0)] ?_;obtain ⟨aQ,aB,aM⟩:=zB N;refine zFQ a0 ag a0.Const 0 aQ aB iR h1 h (fun _ _ _ h=>h) (fun _ _ h=>h) ?_;intro aW n01 heq1 ae;subst aQ;refine zS<|wP [4] rfl<|zH<|yY ?_;obtain rfl:=zC aM;exact wF
def tO (loop:zE) (p2:(List Int)) (lo:Int) (i:Int):Option (Int):=do
 if (decide (i<(loop.Lo.length:Int))) then
  let x2<-idx loop.Lo i
  let y2<-qQ x2 p2
  let lo2<-(do
    if (decide (y2>lo)) then
     pure (id y2)
    else
     pure (id lo)
      : Option Int)
  tO loop p2 lo2 (W (i+1))
 else
  pure (id lo)
 partial_fixpoint
theorem zE3 (loop:zE) (p2:(List Int)):∀ (lo:Int) (i:Int) (o:Int),tO loop p2 lo i=some o->∀ {B}{I0 I:Imm}{Q}{y1:Int}{p c p1 c1 p3 c2}{b:Nat},I0.le I->(S4 I p3 p2 c2)->(S4 I p loop.Lo c)->(S4 I p1 loop.Hi c1)->NG Q->NO Q->(∀ (I':Imm) (lo1:Int),o=lo1->I0.le I'->T 62 B Q (.exit 0) I' [hB b (cLoop loop p c p1 c1)] [(1,vS p3 p2 c2),(2,vP b 0),(6,vI lo1),(7,vI y1)])->J Tryz.prog 62 B (nav (bodyOf f113) [1,1,1,0,1,0]) Q I [hB b (cLoop loop p c p1 c1)] [(1,vS p3 p2 c2),(2,vP b 0),(6,vI lo),(7,vI y1),(8,vI i)]:=by
 refine tO.partial_correctness loop p2 _ fun aI ih lo i o N B I0 I Q y1 p c p1 c1 p3 c2 b H h2 h h1 hg ho hx=>yO hg ho<|yB<|yF<|yI [0] [28] rfl<|zH<|yE N ?_ ?_
 · intro hc N;refine zT<|zZ<|yH<|yF<|yC 3 [0] [32,33] rfl<|bE N fun x2 bu N=>xL rfl rfl h bu ?_;intro ad2 bP bb bk;obtain ⟨p6,c5,rfl,h7⟩:=yS bk;refine xE 0 bb (cAff x2 p6 c5) (vA (cAff x2 p6 c5)) rfl<|yC 6 [] [36] rfl<|bE N fun y2 bJ N=>fB (eA x2 p2 _ bJ h7 h2) ?_;intro aX aF;have ⟨h2,h,h1,H⟩:=m4 aF h2 h h1 H;refine yI [] [9] rfl<|wP [40] rfl<|zH ?_;refine wR N [hB b (cLoop loop p c p1 c1)] (fun lo2=>[(1,vS p3 p2 c2),(2,vP b 0),(6,vI lo2),(7,vI y1),(8,vI i)]) (fun o0 aD=>?_) ?_
   · have H:=iS aX;refine yE aD ?_ ?_
     · intro aH N;exact zJ<|yI [] [6] rfl<|yN<|zV (ct N H)
     intro aH N;exact zT<|yN<|zV (ct N H)
   intro lo2 bG aJ aV;have ⟨h2,h,h1,H⟩:=m4 aJ h2 h h1 H;exact zN<|zH<|zJ<|yI [] [8] rfl<|yM<|nT<|ih lo2 (W (i+1)) _ aV H h2 h h1 hg ho hx
 intro hc N;exact wL<|yN<|hx _ _ (zC N).symm H
def tP (loop:zE) (p2:(List Int)) (hi:Int) (i1:Int):Option (Int):=do
 if (decide (i1<(loop.Hi.length:Int))) then
  let x3<-idx loop.Hi i1
  let y3<-qQ x3 p2
  let hi2<-(do
    if (decide (y3<hi)) then
     pure (id y3)
    else
     pure (id hi)
      : Option Int)
  tP loop p2 hi2 (W (i1+1))
 else
  pure (id hi)
 partial_fixpoint
theorem zE4 (loop:zE) (p2:(List Int)):∀ (hi:Int) (i1:Int) (o:Int),tP loop p2 hi i1=some o->∀ {B}{I0 I:Imm}{Q}{lo1:Int}{p c p1 c1 p3 c2}{b:Nat},I0.le I->(S4 I p3 p2 c2)->(S4 I p loop.Lo c)->(S4 I p1 loop.Hi c1)->NG Q->NO Q->(∀ (I':Imm) (hi1:Int),o=hi1->I0.le I'->T 62 B Q (.exit 2) I' [] [(6,vI lo1),(7,vI hi1)])->J Tryz.prog 62 B (nav (bodyOf f113) [1,1,1,1,0,1,0]) Q I [hB b (cLoop loop p c p1 c1)] [(1,vS p3 p2 c2),(2,vP b 0),(6,vI lo1),(7,vI hi),(10,vI i1)]:=by
 refine tP.partial_correctness loop p2 _ fun aI ih hi i1 o N B I0 I Q lo1 p c p1 c1 p3 c2 b H h2 h h1 hg ho hx=>yO hg ho<|yB<|yF<|yI [0] [46] rfl<|zH<|yE N ?_ ?_
 · intro aZ N;refine zT<|zZ<|yH<|yF<|yC 3 [0] [50,51] rfl<|bE N fun x3 hy6 N=>xL rfl rfl h1 hy6 ?_;intro ad3 ccs3 hat3 bH;obtain ⟨p7,c6,rfl,h9⟩:=yS bH;refine xE 0 hat3 (cAff x3 p7 c6) (vA (cAff x3 p7 c6)) rfl<|yC 6 [] [54] rfl<|bE N fun y3 hy7 N=>fB (eA x3 p2 _ hy7 h9 h2) ?_;intro bR bw;have ⟨h2,h,h1,H⟩:=m4 bw h2 h h1 H;refine yI [] [11] rfl<|wP [58] rfl<|zH ?_;refine wR N [hB b (cLoop loop p c p1 c1)] (fun hi2=>[(1,vS p3 p2 c2),(2,vP b 0),(6,vI lo1),(7,vI hi2),(10,vI i1)]) (fun o02 ho02=>?_) ?_
   · have H:=iS bR;refine yE ho02 ?_ ?_
     · intro bK N;exact zJ<|yI [] [7] rfl<|yN<|zV (ct N H)
     intro bK N;exact zT<|yN<|zV (ct N H)
   intro hi2 I06 bC hMc1;have ⟨h2,h,h1,H⟩:=m4 bC h2 h h1 H;exact zN<|zH<|zJ<|yI [] [10] rfl<|yM<|nT<|ih hi2 (W (i1+1)) _ hMc1 H h2 h h1 hg ho hx
 intro aZ N;exact wL<|xR zQ<|yN<|hx _ _ (zC N).symm H
def mB (loop:zE) (p2:(List Int)):Option (Int×Int):=do
 let x<-idx loop.Lo 0
 let y<-qQ x p2
 let x1<-idx loop.Hi 0
 let y1<-qQ x1 p2
 let lo1<-tO loop p2 y 1
 let hi1<-tP loop p2 y1 1
 pure (lo1,hi1)
theorem zCl:∀ loop p2 r,mB loop p2=some r->∀ {I:Imm}{p c p1 c1 p3 c2},(S4 I p loop.Lo c)->(S4 I p1 loop.Hi c1)->(S4 I p3 p2 c2)->RT 113 [vA (cLoop loop p c p1 c1),vS p3 p2 c2] I [] (dR  r):=by
 intro loop p2 r N I p c p1 c1 p3 c2 h h1 h2;unfold mB at N;refine yK func113 fun B=>yF<|tT (cLoop loop p c p1 c1) ?_;intro b hb;refine wI [] []<|yV<|yC 2 [0] [13] rfl<|bE N fun x hy N=>xL rfl rfl h hy ?_;intro ad aP aq am;obtain ⟨p4,c3,rfl,h3⟩:=yS am;refine xE 0 aq (cAff x p4 c3) (vA (cAff x p4 c3)) rfl<|yC 5 [] [16] rfl<|bE N fun y aA N=>fB (eA x p2 _ aA h3 h2) ?_;intro I0 le;have ⟨h2,h,h1⟩:=m3 le h2 h h1;refine yI [] [6] rfl<|yV<|yC 2 [0] [19] rfl<|bE N fun x1 aK N=>xL rfl rfl h1 aK ?_;intro ad1 bv av ax;obtain ⟨p5,c4,rfl,h5⟩:=yS ax;refine xE 0 av (cAff x1 p5 c4) (vA (cAff x1 p5 c4)) rfl<|yC 5 [] [22] rfl<|bE N fun y1 bi N=>fB (eA x1 p2 _ bi h5 h2) ?_;intro aW ae;have ⟨h2,h,h1⟩:=m3 ae h2 h h1;refine yI [] [7] rfl<|zZ<|yG [8] rfl<|xY<|qI [(1,vS p3 p2 c2),(2,vP b 0),(6,vI y),(7,vI y1),(8,vI 1)] ?_;obtain ⟨aQ,aB,aM⟩:=zB N;refine zE3 loop p2 y 1 aQ aB iR h2 h h1 (fun _ _ _ h=>h) (fun _ _ h=>h) ?_;intro bL lo1 heq1 bd;subst aQ;have ⟨h2,h,h1⟩:=m3 bd h2 h h1;refine zS<|zZ<|yG [10] rfl<|xY<|qI [(1,vS p3 p2 c2),(2,vP b 0),(6,vI lo1),(7,vI y1),(10,vI 1)] ?_;obtain ⟨o03,ho03,hMl1⟩:=zB aM;refine zE4 loop p2 y1 1 o03 ho03 iR h2 h h1 (fun _ _ _ h=>h) (fun _ _ h=>h) ?_;intro I07 hi1 heq3 le7;subst o03;refine zS<|wP [4,5] rfl<|zH<|yY ?_;obtain rfl:=zC hMl1;exact xA ⟨_,_,(.tmp rfl (.tmp rfl ResV.nil)),zQ,⟨_,_,rfl,rfl,rfl,rfl⟩⟩
def zBA (r:(List (List Int))):KT:=fun kk I' ah v=>
  ∃ a0 c0 s0,ah=[.osl (.slice a0 r.length c0) (Rp.sz (List Int)) s0]/\v=tupV [(.slice a0 r.length c0)]/\RepL (Rp.rep I') (Rp.sz (List Int)) s0 r
mutual
def uH (out:(List (List Int))) (nest:(List zE)) (p2:(List Int)):Option ((List (List Int))):=do
 if ((p2.length:Int)==(nest.length:Int)) then
  let l<-app 8 ([]:List Int) p2
  let t6<-app 24 out ([l]:List (List Int))
  pure (id t6)
 else
  let x<-idx nest (p2.length:Int)
  let (y1,y2)<-mB x p2
  let au<-tZ (same nest) (same p2) (same y2) (same out) (same y1)
  pure (id au)
 partial_fixpoint
def tZ (nest:(List zE)) (p2:(List Int)) (y2:Int) (aj:List (List Int)) (v04:Int):Option (List (List Int)):=do
 let t39<-(do
   if (decide (v04<y2)) then
    pure (decide ((aj.length:Int)<=120))
   else
    pure false
     : Option Bool)
 if t39 then
  let l1<-app 8 ([]:List Int) p2
  let l2<-app 8 l1 ([v04]:List Int)
  let y3<-uH (same aj) (same nest) (same l2)
  tZ (same nest) (same p2) (same y2) (same y3) (W (v04+1))
 else
  pure (id aj)
 partial_fixpoint
end
theorem zFR:(∀ (out:(List (List Int))) (nest:(List zE)) (p2:(List Int)) r,uH out nest p2=some r->∀ {I:Imm}{p c cs p1 c1 p3 c2},(RL I cs out)->(S4 I p1 nest c1)->(S4 I p3 p2 c2)->RT 75 [vS p out c,vS p1 nest c1,vS p3 p2 c2] I [hO (List Int) (vS p out c) cs] (zBA  r))/\(∀ (nest:(List zE)) (p2:(List Int)) (y2:Int) (aj:List (List Int)) (v04:Int) o,tZ nest p2 y2 aj v04=some o->∀ {B}{I0 I:Imm}{Q p1 c1 p3 c2 p8 c7 aS},I0.le I->(S4 I p1 nest c1)->(S4 I p3 p2 c2)->(RL I aS aj)->NG Q->NO Q->(∀ (I':Imm) (au:List (List Int)) (p9:Option Addr) (c8:Nat) (bB:List Value),o=au->I0.le I'->(RL I' bB au)->T 52 B Q (.exit 0) I' [hO (List Int) (vS p9 au c8) bB] [(0,vS p9 au c8)])->J Tryz.prog 52 B (nav (bodyOf f75) [1,1,1,0,1,0]) Q I [hO (List Int) (vS p8 aj c7) aS] [(0,vS p8 aj c7),(1,vS p1 nest c1),(2,vS p3 p2 c2),(8,vI y2),(9,vI v04)]):=by
  refine uH.mutual_partial_correctness _ _ ?_ ?_
  · intro F_spec_l2Points_l1 ih_spec_l2Points_l1 out nest p2 r N I p c cs p1 c1 p3 c2 h h1 h2;refine yK func75 fun B=>wQ []<|zZ<|yG [14] rfl<|zH<|yE N ?_ ?_
    · intro hc N;refine yF<|yC 1 [] [15] rfl<|uO [] Int ?_;intro b hb;have h3:RL I [] ([]:List Int):=rfl;refine yC 3 [] [17] rfl ?_;obtain ⟨aP,k0,k01⟩:=h2;have h2:SL I (vS p3 p2 c2) p2:=⟨_,k0,k01⟩;obtain ⟨l,hy,N⟩:=zB N;refine sO 3 1 0 rfl rfl rfl h3 (.inl k0) k01 hy fun p4 c3 az h4=>sE (zY [0,1] (ah:=[hO Int (vS p4 l c3) az,hO (List Int) (vS p out c) cs]))<|xI 0 rfl ?_;intro I0 le hl0;have h5:=SL.of_frozen hl0 le h4;have h:=iM le h;refine uO [vS p4 l c3] (List Int) ?_;intro b1 hb1;have h6:RL I0 [vS p4 l c3] ([l]:List (List Int)):=⟨[vS p4 l c3],_,rfl,rfl,⟨_,rfl,h5⟩,rfl⟩;obtain ⟨t6,aA,N⟩:=zB N;refine sO 27 1 1 rfl rfl rfl h (.inr ⟨0,rfl⟩) h6 aA fun p5 c4 aR h7=>sE (zY [1] (ah:=[hO (List Int) (vS p5 t6 c4) aR]))<|yI [] [6] rfl<|xD<|zG ?_;obtain rfl:=zC N;exact xA ⟨_,_,(.tmp rfl ResV.nil),(zX [0] rfl (by decide)),⟨_,_,_,rfl,rfl,h7⟩⟩
    intro hc N;refine zT<|yV<|yC 3 [] [22,24] rfl<|bE N fun x aK N=>xL rfl rfl h1 aK ?_;intro ad bv aq am;obtain ⟨p6,c5,p7,c6,rfl,h8,h9⟩:=sW am;refine xE 0 aq (cLoop x p6 c5 p7 c6) (vA (cLoop x p6 c5 p7 c6)) rfl<|yC 6 [] [27] rfl ?_;obtain ⟨⟨y1,y2⟩,bi,N⟩:=zB N;refine xM (zCl x p2 _ bi h8 h9 h2) ?_;rintro aW ay v2 k2 ae - ⟨v02,v03,rfl,rfl,rfl,rfl⟩ -;have ⟨h,h1,h2⟩:=m3 ae h h1 h2;refine yI [] [7,8] rfl<|zZ<|yG [9] rfl<|xY<|qI [(0,vS p out c),(1,vS p1 nest c1),(2,vS p3 p2 c2),(8,vI y2),(9,vI y1)] ?_;obtain ⟨aQ,aB,aM⟩:=zB N;refine ih_spec_l2Points_l1 nest p2 y2 out y1 aQ aB iR h1 h2 h (fun _ _ _ h=>h) (fun _ _ h=>h) ?_;intro bR au p9 c8 bB heq1 bw h13;subst aQ;refine zS<|wP [6] rfl<|zH<|yY ?_;obtain rfl:=zC aM;exact xA ⟨_,_,(.tmp rfl ResV.nil),(zX [0] rfl (by decide)),⟨_,_,_,rfl,rfl,h13⟩⟩
  intro F_spec_l2Points F_spec_l2Points_l1 ih_spec_l2Points ih_spec_l2Points_l1 nest p2 y2 aj v04 o N B I0 I Q p1 c1 p3 c2 p8 c7 aS H h1 h2 h12 hg ho hx;refine yO hg ho<|yB<|yB ?_;refine wR N [hO (List Int) (vS p8 aj c7) aS] (fun t39=>[(0,vS p8 aj c7),(1,vS p1 nest c1),(2,vS p3 p2 c2),(8,vI y2),(9,vI v04),(39,.bool t39)]) (fun o0 aD=>?_) ?_
  · have H:=iS I;refine zJ<|yC 4 [] [35] rfl<|xW [35] aD ?_ ?_
    · intro aH N;exact yI [] [39] rfl<|yN<|zV (ct N H)
    intro aH N;exact wI [] [(39,vF)]<|yN<|zV (ct N H)
  intro t39 aX aF aV;have ⟨h12,h1,h2,H⟩:=m4 aF h12 h1 h2 H;refine zH<|yE aV ?_ ?_
  · intro aZ N;refine zT<|zZ<|yH<|zJ<|yC 2 [] [42,43] rfl<|uO [] Int ?_;intro b2 hb2;have h14:RL aX [] ([]:List Int):=rfl;refine yC 4 [] [45] rfl ?_;obtain ⟨bP,k02,k03⟩:=h2;have h2:SL aX (vS p3 p2 c2) p2:=⟨_,k02,k03⟩;obtain ⟨l1,bu,N⟩:=zB N;refine sO 3 1 0 rfl rfl rfl h14 (.inl k02) k03 bu fun bc c9 bI h15=>sE (zY [0,1] (ah:=[hO Int (vS bc l1 c9) bI,hO (List Int) (vS p8 aj c7) aS]))<|yC 6 [] [47] rfl<|uO [vI v04] Int ?_;intro b3 hb3;have h16:RL aX [vI v04] ([v04]:List Int):=rI [v04];obtain ⟨l2,bJ,N⟩:=zB N;refine sO 3 1 1 rfl rfl rfl h15 (.inr ⟨0,rfl⟩) h16 bJ fun aT bj cs6 h17=>sE (zY [1,2] (ah:=[hO Int (vS aT l2 bj) cs6,hO (List Int) (vS p8 aj c7) aS]))<|xI 0 rfl ?_;intro bG aJ hl01;have h18:=SL.of_frozen hl01 aJ h17;have ⟨h1,h2,h12,H⟩:=m4 aJ h1 h2 h12 H;obtain ⟨y3,hy6,N⟩:=zB N;refine tY (ih_spec_l2Points aj nest l2 _ hy6 h12 h1 h18) rfl ?_;rintro bL ay v2 k2 bd - ⟨bD,bf,cs7,rfl,rfl,h19⟩ -;have ⟨h1,h2,H⟩:=m3 bd h1 h2 H;exact yI [] [0] rfl<|zN<|zH<|zJ<|yI [] [9] rfl<|yM<|nT<|ih_spec_l2Points_l1 nest p2 y2 y3 (W (v04+1)) _ N H h1 h2 h19 hg ho hx
  intro aZ N;exact wL<|yN<|hx _ _ _ _ _ (zC N).symm H h12
theorem zCC:∀ out nest p2 r,uH out nest p2=some r->∀ {I:Imm}{p c cs p1 c1 p3 c2},(RL I cs out)->(S4 I p1 nest c1)->(S4 I p3 p2 c2)->RT 75 [vS p out c,vS p1 nest c1,vS p3 p2 c2] I [hO (List Int) (vS p out c) cs] (zBA  r):=zFR.1
def sI (list:(List zA)) (aa:Int) (i:Int):Option (Out Unit (Bool)):=do
 if (decide (i<(list.length:Int))) then
  let t26<-(do
    let x<-idx list i
    let y<-uP x
    if (!y) then
     pure true
    else
     let x1<-idx list i
     let y1<-pU x1
     pure (decide (y1>aa))
      : Option Bool)
  if t26 then
   pure (.ret false)
  else
   sI list aa (W (i+1))
 else
  pure (.done ())
 partial_fixpoint
theorem zFS (list:(List zA)) (aa:Int):∀ (i:Int) (o:Out Unit (Bool)),sI list aa i=some o->∀ {B}{I0 I:Imm}{Q p c},I0.le I->(S4 I p list c)->NG Q->NO Q->(∀ (I':Imm) ,o=(.done ())->I0.le I'->T 35 B Q (.exit 0) I' [] [(0,vS p list c)])->(∀ r I' ah m',o=(.ret r)->I0.le I'->RS Tryz.prog f224 B (zU  r) I' ah m'->T 35 B Q .ret I' ah m')->J Tryz.prog 35 B (nav (bodyOf f224) [1,0,1,0]) Q I [] [(0,vS p list c),(1,vI aa),(5,vI i)]:=by
 refine sI.partial_correctness list aa _ fun aI ih i o N B I0 I Q p c H h hg ho hx hr=>yO hg ho<|yB<|yG [9] rfl<|zH<|yE N ?_ ?_
 · intro hc N;refine zT<|zZ<|yH<|yB ?_;refine wR N [] (fun t26=>[(0,vS p list c),(1,vI aa),(5,vI i),(26,.bool t26)]) (fun o0 aD=>?_) ?_
   · have H:=iS I;refine zJ<|yC 2 [] [12,13] rfl ?_;obtain ⟨x,hy,N⟩:=zB aD;refine xL rfl rfl h hy ?_;intro ad aP aq am;obtain ⟨p1,c1,rfl,h1⟩:=yS am;refine xE 0 aq (cAff x p1 c1) (vA (cAff x p1 c1)) rfl<|bE N fun y aA N=>vU (jT x _ aA h1) ?_;intro aW le;have ⟨h,H⟩:=m2 le h H;refine yC 7 [] [18] rfl<|xW [18] N ?_ ?_
     · intro aH N;exact wI [] [(26,vY)]<|yN<|zV (ct N H)
     intro aH N;refine yC 9 [] [19,20] rfl<|bE N fun x1 aK N=>xL rfl rfl h aK ?_;intro ad1 bv av ax;obtain ⟨p2,c2,rfl,h3⟩:=yS ax;refine xE 0 av (cAff x1 p2 c2) (vA (cAff x1 p2 c2)) rfl<|bE N fun y1 bi N=>fB (zA6 x1 _ bi h3) ?_;intro aX ae;have H:=H.trans ae;exact yI [] [26] rfl<|yN<|zV (ct N H)
   intro t26 I0 aF aV;have ⟨h,H⟩:=m2 aF h H;refine zH<|yE aV ?_ ?_
   · intro aZ N;exact wQ [(4,vF)]<|xD<|zW<|zG<|zG<|hr _ _ _ _ (zC N).symm H ⟨_,_,(.tmp rfl ResV.nil),zQ,⟨_,rfl,rfl,rfl⟩⟩
   intro aZ N;exact zT<|zN<|zH<|zJ<|yI [] [5] rfl<|yM<|nT<|ih (W (i+1)) _ N H h hg ho hx hr
 intro hc N;exact wL<|yN<|hx _  (zC N).symm H
def mY (list:(List zA)) (aa:Int):Option (Bool):=do
 match<-sI list aa 0 with
 | .ret r0=>pure r0
 | .done _ =>
  let t4<-(do
    if (decide ((list.length:Int)>=1)) then
     pure (decide ((list.length:Int)<=2))
    else
     pure false
      : Option Bool)
  pure (id t4)
theorem zDO:∀ list aa r,mY list aa=some r->∀ {I:Imm}{p c},(S4 I p list c)->RT 224 [vS p list c,vI aa] I [] (zU  r):=by
 intro list aa r N I p c h;unfold mY at N;refine yK func224 fun B=>?_;have H:=iS I;refine wQ []<|zZ<|yG [5] rfl<|xY<|qI [(0,vS p list c),(1,vI aa),(5,vI 0)] ?_;obtain ⟨aQ,aB,aM⟩:=zB N;refine zFS list aa 0 aQ aB iR h (fun _ _ _ h=>h) (fun _ _ h=>h) ?_ ?_
 · intro bG  heq1 aJ;subst aQ;have H:=H.trans aJ;refine zS<|zH<|yB ?_;refine wR aM [] (fun t4=>[(4,.bool t4)]) (fun o02 ho02=>?_) ?_
   · have H:=iS bG;refine zJ<|yC 4 [] [30] rfl<|xW [30] ho02 ?_ ?_
     · intro bK N;exact yI [] [4] rfl<|yN<|zV (ct N H)
     intro bK N;exact wI [] [(4,vF)]<|yN<|zV (ct N H)
   intro t4 bL bd hMc1;refine zH<|yY ?_;obtain rfl:=zC hMc1;exact wF
 intro r0 I9 hs9 m9 aY le9 ba;subst aY;refine zW<|zG ?_;obtain rfl:=zC aM;exact xA ba
def vG (nest:(List zE)) (i:Int):Option (Out Unit (Bool)):=do
 let t12<-(do
   if (decide (i<(nest.length:Int))) then
    pure (decide ((nest.length:Int)<=4))
   else
    pure false
     : Option Bool)
 if t12 then
  let t32<-(do
    let x<-idx nest i
    let y<-mY x.Lo i
    if (!y) then
     pure true
    else
     let x1<-idx nest i
     let y1<-mY x1.Hi i
     pure (!y1)
      : Option Bool)
  if t32 then
   pure (.ret false)
  else
   vG nest (W (i+1))
 else
  pure (.done ())
 partial_fixpoint
theorem zDP (nest:(List zE)):∀ (i:Int) (o:Out Unit (Bool)),vG nest i=some o->∀ {B}{I0 I:Imm}{Q p c},I0.le I->(S4 I p nest c)->NG Q->NO Q->(∀ (I':Imm) ,o=(.done ())->I0.le I'->T 36 B Q (.exit 0) I' [] [(0,vS p nest c)])->(∀ r I' ah m',o=(.ret r)->I0.le I'->RS Tryz.prog f184 B (zU  r) I' ah m'->T 36 B Q .ret I' ah m')->J Tryz.prog 36 B (nav (bodyOf f184) [1,0,1,0]) Q I [] [(0,vS p nest c),(3,vI i)]:=by
 refine vG.partial_correctness nest _ fun aI ih i o N B I0 I Q p c H h hg ho hx hr=>yO hg ho<|yB<|yB ?_;refine wR N [] (fun t12=>[(0,vS p nest c),(3,vI i),(12,.bool t12)]) (fun o0 aD=>?_) ?_
 · have H:=iS I;refine zJ<|yC 5 [] [8] rfl<|xW [8] aD ?_ ?_
   · intro hc N;exact yI [] [12] rfl<|yN<|zV (ct N H)
   intro hc N;exact wI [] [(12,vF)]<|yN<|zV (ct N H)
 intro t12 I0 le aV;have ⟨h,H⟩:=m2 le h H;refine zH<|yE aV ?_ ?_
 · intro aH N;refine zT<|zZ<|yH<|yB ?_;refine wR N [] (fun t32=>[(0,vS p nest c),(3,vI i),(32,.bool t32)]) (fun aQ aB=>?_) ?_
   · have H:=iS I0;refine zJ<|yC 2 [] [15,16] rfl ?_;obtain ⟨x,hy,N⟩:=zB aB;refine xL rfl rfl h hy ?_;intro ad aP aq am;obtain ⟨p1,c1,p2,c2,rfl,h1,h2⟩:=sW am;refine yC 4 [] [18] rfl<|xE 0 aq [vS p1 x.Lo c1] (vS p1 x.Lo c1) rfl<|yC 6 [] [20] rfl<|bE N fun y aA N=>vU (zDO x.Lo i _ aA h1) ?_;intro aX ae;have ⟨h,H⟩:=m2 ae h H;refine yC 9 [] [23] rfl<|xW [23] N ?_ ?_
     · intro aZ N;exact wI [] [(32,vY)]<|yN<|zV (ct N H)
     intro aZ N;refine yC 11 [] [24,25] rfl<|bE N fun x1 aK N=>xL rfl rfl h aK ?_;intro ad1 bv av ax;obtain ⟨p3,c3,p4,c4,rfl,h4,h5⟩:=sW ax;refine yC 13 [] [27] rfl<|xE 1 av [vS p4 x1.Hi c4] (vS p4 x1.Hi c4) rfl<|yC 15 [] [29] rfl<|bE N fun y1 bi N=>vU (zDO x1.Hi i _ bi h5) ?_;intro bG aF;have H:=H.trans aF;exact yI [] [32] rfl<|yN<|zV (ct N H)
   intro t32 aW aJ hMc1;have ⟨h,H⟩:=m2 aJ h H;refine zH<|yE hMc1 ?_ ?_
   · intro bK N;exact wQ [(2,vF)]<|xD<|zW<|zG<|zG<|hr _ _ _ _ (zC N).symm H ⟨_,_,(.tmp rfl ResV.nil),zQ,⟨_,rfl,rfl,rfl⟩⟩
   intro bK N;exact zT<|zN<|zH<|zJ<|yI [] [3] rfl<|yM<|nT<|ih (W (i+1)) _ N H h hg ho hx hr
 intro aH N;exact wL<|yN<|hx _  (zC N).symm H
def nE (nest:(List zE)):Option (Bool):=do
 match<-vG nest 0 with
 | .ret r0=>pure r0
 | .done _ =>
  pure (decide ((nest.length:Int)<=4))
theorem zFT:∀ nest r,nE nest=some r->∀ {I:Imm}{p c},(S4 I p nest c)->RT 184 [vS p nest c] I [] (zU  r):=by
 intro nest r N I p c h;unfold nE at N;refine yK func184 fun B=>wQ []<|zZ<|yG [3] rfl<|xY<|qI [(0,vS p nest c),(3,vI 0)] ?_;obtain ⟨o02,ho02,aM⟩:=zB N;refine zDP nest 0 o02 ho02 iR h (fun _ _ _ h=>h) (fun _ _ h=>h) ?_ ?_
 · intro bL  heq2 bd;subst o02;refine zS<|wP [2] rfl<|zH<|yY ?_;obtain rfl:=zC aM;exact wF
 intro r0 I9 hs9 m9 aY le9 ba;subst aY;refine zW<|zG ?_;obtain rfl:=zC aM;exact xA ba
mutual
def rG (nest:(List zE)) (p1:(List Int)) (most:Int):Option (Int):=do
 if ((p1.length:Int)==(nest.length:Int)) then
  pure (id 1)
 else
  let x<-idx nest (p1.length:Int)
  let (y1,y2)<-mB x p1
  let n01<-rP (same nest) (same p1) (same most) (same y2) (same 1) (same y1)
  pure (id n01)
 partial_fixpoint
def rP (nest:(List zE)) (p1:(List Int)) (most:Int) (y2:Int) (n0:Int) (v04:Int):Option (Int):=do
 let t35<-(do
   if (decide (v04<y2)) then
    pure (decide (n0<=most))
   else
    pure false
     : Option Bool)
 if t35 then
  let l<-app 8 ([]:List Int) p1
  let l1<-app 8 l ([v04]:List Int)
  let y3<-rG (same nest) (same l1) (W (most - n0))
  rP (same nest) (same p1) (same most) (same y2) (W (n0+y3)) (W (v04+1))
 else
  pure (id n0)
 partial_fixpoint
end
theorem zHA:(∀ (nest:(List zE)) (p1:(List Int)) (most:Int) r,rG nest p1 most=some r->∀ {I:Imm}{p c p2 c1},(S4 I p nest c)->(S4 I p2 p1 c1)->RT 185 [vS p nest c,vS p2 p1 c1,vI most] I [] (yQ  r))/\(∀ (nest:(List zE)) (p1:(List Int)) (most:Int) (y2:Int) (n0:Int) (v04:Int) o,rP nest p1 most y2 n0 v04=some o->∀ {B}{I0 I:Imm}{Q p c p2 c1},I0.le I->(S4 I p nest c)->(S4 I p2 p1 c1)->NG Q->NO Q->(∀ (I':Imm) (n01:Int),o=n01->I0.le I'->T 52 B Q (.exit 0) I' [] [(7,vI n01)])->J Tryz.prog 52 B (nav (bodyOf f185) [1,1,1,1,0,1,0]) Q I [] [(0,vS p nest c),(1,vS p2 p1 c1),(2,vI most),(7,vI n0),(9,vI y2),(10,vI v04)]):=by
  refine rG.mutual_partial_correctness _ _ ?_ ?_
  · intro F_spec_l2Work_l1 ih_spec_l2Work_l1 nest p1 most r N I p c p2 c1 h h1;refine yK func185 fun B=>wQ []<|wP [7] rfl<|zZ<|yG [15] rfl<|zH<|yE N ?_ ?_
    · intro hc N;refine yG [6] rfl<|xD<|zG ?_;obtain rfl:=zC N;exact wF
    intro hc N;refine zT<|yV<|yC 3 [] [18,20] rfl<|bE N fun x hy N=>xL rfl rfl h hy ?_;intro ad aP aq am;obtain ⟨p3,c2,p4,c3,rfl,h2,h3⟩:=sW am;refine xE 0 aq (cLoop x p3 c2 p4 c3) (vA (cLoop x p3 c2 p4 c3)) rfl<|yC 6 [] [23] rfl ?_;obtain ⟨⟨y1,y2⟩,aA,N⟩:=zB N;refine xM (zCl x p1 _ aA h2 h3 h1) ?_;rintro I0 ay v2 k2 le - ⟨v02,v03,rfl,rfl,rfl,rfl⟩ -;have ⟨h,h1⟩:=m2 le h h1;refine yI [] [8,9] rfl<|zZ<|yG [10] rfl<|xY<|qI [(0,vS p nest c),(1,vS p2 p1 c1),(2,vI most),(7,vI 1),(9,vI y2),(10,vI y1)] ?_;obtain ⟨aQ,aB,aM⟩:=zB N;refine ih_spec_l2Work_l1 nest p1 most y2 1 y1 aQ aB iR h h1 (fun _ _ _ h=>h) (fun _ _ h=>h) ?_;intro bL n01 heq1 bd;subst aQ;refine zS<|wP [6] rfl<|zH<|yY ?_;obtain rfl:=zC aM;exact wF
  intro F_spec_l2Work F_spec_l2Work_l1 ih_spec_l2Work ih_spec_l2Work_l1 nest p1 most y2 n0 v04 o N B I0 I Q p c p2 c1 H h h1 hg ho hx;refine yO hg ho<|yB<|yB ?_;refine wR N [] (fun t35=>[(0,vS p nest c),(1,vS p2 p1 c1),(2,vI most),(7,vI n0),(9,vI y2),(10,vI v04),(35,.bool t35)]) (fun o0 aD=>?_) ?_
  · have H:=iS I;refine zJ<|yC 4 [] [31] rfl<|xW [31] aD ?_ ?_
    · intro aH N;exact yI [] [35] rfl<|yN<|zV (ct N H)
    intro aH N;exact wI [] [(35,vF)]<|yN<|zV (ct N H)
  intro t35 aW ae aV;have ⟨h,h1,H⟩:=m3 ae h h1 H;refine zH<|yE aV ?_ ?_
  · intro aZ N;refine zT<|zZ<|yH<|zJ<|yC 2 [] [38,39] rfl<|uO [] Int ?_;intro b hb;have h6:RL aW [] ([]:List Int):=rfl;refine yC 4 [] [41] rfl ?_;obtain ⟨bv,k0,k01⟩:=h1;have h1:SL aW (vS p2 p1 c1) p1:=⟨_,k0,k01⟩;obtain ⟨l,aK,N⟩:=zB N;refine sO 3 1 0 rfl rfl rfl h6 (.inl k0) k01 aK fun p5 c4 cs h7=>sE (zY [0] (ah:=[hO Int (vS p5 l c4) cs]))<|yC 6 [] [43] rfl<|uO [vI v04] Int ?_;intro b1 hb1;have h8:RL aW [vI v04] ([v04]:List Int):=rI [v04];obtain ⟨l1,bi,N⟩:=zB N;refine sO 3 1 1 rfl rfl rfl h7 (.inr ⟨0,rfl⟩) h8 bi fun p6 c5 az h9=>sE (zY [1] (ah:=[hO Int (vS p6 l1 c5) az]))<|yC 11 [] [48] rfl<|xI 0 rfl ?_;intro aX aF hl0;have h10:=SL.of_frozen hl0 aF h9;have ⟨h,h1,H⟩:=m3 aF h h1 H;obtain ⟨y3,bu,N⟩:=zB N;refine xM (ih_spec_l2Work nest l1 (W (most - n0)) _ bu h h10) ?_;rintro bG ay v2 k2 aJ - ⟨v05,rfl,rfl,rfl⟩ -;have ⟨h,h1,H⟩:=m3 aJ h h1 H;exact yI [] [7] rfl<|zN<|zH<|zJ<|yI [] [10] rfl<|yM<|nT<|ih_spec_l2Work_l1 nest p1 most y2 (W (n0+y3)) (W (v04+1)) _ N H h h1 hg ho hx
  intro aZ N;exact wL<|yN<|hx _ _ (zC N).symm H
theorem zHo:∀ nest p1 most r,rG nest p1 most=some r->∀ {I:Imm}{p c p2 c1},(S4 I p nest c)->(S4 I p2 p1 c1)->RT 185 [vS p nest c,vS p2 p1 c1,vI most] I [] (yQ  r):=zHA.1
def zA1 (r:(List (List Int))×Bool):KT:=fun kk I' ah v=>
  ∃ v0 v1,ah=[]/\v=tupV [v0,v1]/\SL I' v0 r.1/\v1=.bool r.2
def pX (nest:(List zE)):Option ((List (List Int))×Bool):=do
 let t12<-(do
   let y<-nE nest
   if (!y) then
    pure true
   else
    let y1<-rG nest ([]:List Int) 1200
    pure (decide (y1>1200))
     : Option Bool)
 if t12 then
  pure (([]:List (List Int)),false)
 else
  let y2<-uH ([]:List (List Int)) nest ([]:List Int)
  if (decide ((y2.length:Int)>120)) then
   pure (([]:List (List Int)),false)
  else
   pure (y2,true)
theorem zE5:∀ nest r,pX nest=some r->∀ {I:Imm}{p c},(S4 I p nest c)->RT 145 [vS p nest c] I [] (zA1  r):=by
 intro nest r N I p c h;unfold pX at N;refine yK func145 fun B=>?_;have H:=iS I;refine wQ []<|zZ<|yB ?_;refine wR N [] (fun t12=>[(0,vS p nest c),(12,.bool t12)]) (fun o0 aD=>?_) ?_
 · have H:=iS I;refine zJ<|yC 1 [] [5] rfl ?_;obtain ⟨y,hy,N⟩:=zB aD;refine vU (zFT nest _ hy h) ?_;intro aW le;have ⟨h,H⟩:=m2 le h H;refine yC 4 [] [8] rfl<|xW [8] N ?_ ?_
   · intro hc N;exact wI [] [(12,vY)]<|yN<|zV (ct N H)
   intro hc N;refine yC 5 [] [9] rfl<|bE N fun y1 aA N=>fB (zHo nest ([]:List Int) 1200 _ aA h (SL.nil _)) ?_;intro aX ae;have H:=H.trans ae;exact yI [] [12] rfl<|yN<|zV (ct N H)
 intro t12 I0 aF aV;have h:=h.mono aF;refine zH<|yE aV ?_ ?_
 · intro aH N;refine yF<|uO [] (List Int) ?_;intro b hb;have h3:RL I0 [] ([]:List (List Int)):=rfl;refine yI [] [2,3] rfl<|xD<|zG<|yX 0 rfl ?_;intro bG aJ hl0;have h4:=SL.of_frozen hl0 aJ h3;obtain rfl:=zC N;exact xA ⟨_,_,(.tmp rfl (.tmp rfl ResV.nil)),zQ,⟨_,_,rfl,rfl,h4,rfl⟩⟩
 intro aH N;refine zT<|yV<|uO [] (List Int) ?_;intro b1 hb1;have h5:RL I0 [] ([]:List (List Int)):=rfl;refine yC 2 [] [15] rfl<|bE N fun y2 aK N=>tY (zCC ([]:List (List Int)) nest ([]:List Int) _ aK h5 h (SL.nil _)) rfl ?_;rintro bL ay v2 k2 bd - ⟨p1,c1,cs,rfl,rfl,h6⟩ -;refine yI [] [4] rfl<|zZ<|yG [19] rfl<|zH<|yE N ?_ ?_
 · intro aZ N;refine yF<|uO [] (List Int) ?_;intro b2 hb2;have h7:RL bL [] ([]:List (List Int)):=rfl;refine yI [] [2,3] rfl<|xD<|zG<|yX 0 rfl ?_;intro bR bw hl01;have h8:=SL.of_frozen hl01 bw h7;obtain rfl:=zC N;exact xA ⟨_,_,(.tmp rfl (.tmp rfl ResV.nil)),zQ,⟨_,_,rfl,rfl,h8,rfl⟩⟩
 intro aZ N;refine zT<|wP [2,3] rfl<|xD<|yX 0 rfl ?_;intro I06 bC hl02;have h9:=SL.of_frozen hl02 bC h6;obtain rfl:=zC N;exact xA ⟨_,_,(.tmp rfl (.tmp rfl ResV.nil)),zQ,⟨_,_,rfl,rfl,h9,rfl⟩⟩
def zB3 (r:(List zL)):KT:=fun kk I' ah v=>
  ∃ a0 c0 s0,ah=[.osl (.slice a0 r.length c0) (Rp.sz zL) s0]/\v=tupV [(.slice a0 r.length c0)]/\RepL (Rp.rep I') (Rp.sz zL) s0 r
mutual
def rA (out:(List zL)) (e0:zI):Option ((List zL)):=do
 let aj<-(do
   if (e0.Kind==3) then
    let y<-uU e0.Read
    let au<-app 40 out ([y]:List zL)
    pure (id au)
   else
    pure (id out)
     : Option (List zL))
 let bo<-wV (same e0) (same aj) (same 0)
 pure (id bo)
 partial_fixpoint
def wV (e0:zI) (aN:List zL) (i:Int):Option (List zL):=do
 if (decide (i<(e0.Kids.length:Int))) then
  let x<-idx e0.Kids i
  let y1<-rA (same aN) (same x)
  wV (same e0) (same y1) (W (i+1))
 else
  pure (id aN)
 partial_fixpoint
end
theorem zGR:(∀ (out:(List zL)) (e0:zI) r,rA out e0=some r->∀ {I:Imm}{p c cs p1 c1 p2 c2 p3 c3},(RL I cs out)->(S4 I p1 e0.Index.Coefs c1)->(S4 I p2 e0.Read.Subs c2)->(S4 I p3 e0.Kids c3)->RT 189 [vS p out c,vA (cExpr e0 p1 c1 p2 c2 p3 c3)] I [hO zL (vS p out c) cs] (zB3  r))/\(∀ (e0:zI) (aN:List zL) (i:Int) o,wV e0 aN i=some o->∀ {B}{I0 I:Imm}{Q p1 c1 p2 c2 p3 c3}{b:Nat}{p7 c7 bB},I0.le I->(S4 I p1 e0.Index.Coefs c1)->(S4 I p2 e0.Read.Subs c2)->(S4 I p3 e0.Kids c3)->(RL I bB aN)->NG Q->NO Q->(∀ (I':Imm) (bo:List zL) (p8:Option Addr) (c8:Nat) (bI:List Value),o=bo->I0.le I'->(RL I' bI bo)->T 30 B Q (.exit 0) I' [hO zL (vS p8 bo c8) bI] [(0,vS p8 bo c8)])->J Tryz.prog 30 B (nav (bodyOf f189) [1,1,0,1,0]) Q I [hB b (cExpr e0 p1 c1 p2 c2 p3 c3),hO zL (vS p7 aN c7) bB] [(0,vS p7 aN c7),(3,vP b 0),(5,vI i)]):=by
  refine rA.mutual_partial_correctness _ _ ?_ ?_
  · intro F_spec_l3Reads_l1 ih_spec_l3Reads_l1 out e0 r N I p c cs p1 c1 p2 c2 p3 c3 h h1 h2 h3;refine yK func189 fun B=>?_;have H:=iS I;refine yF<|tT (cExpr e0 p1 c1 p2 c2 p3 c3) ?_;intro b hb;refine wI [] []<|zZ<|yF<|yI [0] [8] rfl<|zH ?_;obtain ⟨o0,aD,aV⟩:=zB N;refine qV (fun I' ah m'=>∃ (aj:List zL) (p4:Option Addr) (c4:Nat) (az:List Value),o0=aj/\I.le I'/\(RL I' az aj)/\ah=[hB b (cExpr e0 p1 c1 p2 c2 p3 c3),hO zL (vS p4 aj c4) az]/\m'=[(0,vS p4 aj c4),(3,vP b 0)]) ?_ ?_
    · have H:=iS I;refine yE aD ?_ ?_
      · intro hc N;refine zJ<|rH 3 [0] [(9,vS p out c),(11,vA (cAccess e0.Read p2 c2))]<|bE N fun y hy N=>xM (fV e0.Read _ hy h2) ?_;rintro aW ay v2 k2 le - ⟨p5,c5,aR,rfl,rfl,h5⟩ -;have ⟨h,H⟩:=m2 le h H;refine xI 0 rfl ?_;intro aX ae hl0;have h6:=SL.of_frozen hl0 ae h5;have ⟨h,H⟩:=m2 ae h H;refine uO (cAccess y p5 c5) zL ?_;intro b1 hb1;have h7:RL aX (cAccess y p5 c5) ([y]:List zL):=⟨(cAccess y p5 c5),_,rfl,rfl,(kD ⟨_,rfl,h6⟩),rfl⟩;obtain ⟨au,aA,N⟩:=zB N;exact sO 93 2 2 rfl rfl rfl h (.inr ⟨0,rfl⟩) h7 aA fun p6 c6 aS h8=>sE (zY [1,2] (ah:=[hB b (cExpr e0 p1 c1 p2 c2 p3 c3),hO zL (vS p6 au c6) aS]))<|yI [] [0] rfl<|yN<|zV ⟨_,_,_,_,(zC N).symm,H,h8,rfl,rfl⟩
      intro hc N;exact zT<|yN<|zV ⟨_,_,_,_,(zC N).symm,H,h,rfl,rfl⟩
    rintro I0 ay m2 ⟨aj,p4,c4,az,heq,aF,h4,rfl,rfl⟩;subst o0;have ⟨h1,h2,h3⟩:=m3 aF h1 h2 h3;refine zZ<|yG [5] rfl<|xY<|qI [(0,vS p4 aj c4),(3,vP b 0),(5,vI 0)] ?_;obtain ⟨aQ,aB,aM⟩:=zB aV;refine ih_spec_l3Reads_l1 e0 aj 0 aQ aB iR h1 h2 h3 h4 (fun _ _ _ h=>h) (fun _ _ h=>h) ?_;intro bL bo p8 c8 bI heq1 bd h10;subst aQ;refine zS<|wP [4] rfl<|zH<|yY ?_;obtain rfl:=zC aM;exact xA ⟨_,_,(.tmp rfl ResV.nil),(zX [0] rfl (by decide)),⟨_,_,_,rfl,rfl,h10⟩⟩
  intro F_spec_l3Reads F_spec_l3Reads_l1 ih_spec_l3Reads ih_spec_l3Reads_l1 e0 aN i o N B I0 I Q p1 c1 p2 c2 p3 c3 b p7 c7 bB H h1 h2 h3 h9 hg ho hx;refine yO hg ho<|yB<|yF<|yI [0] [19] rfl<|zH<|yE N ?_ ?_
  · intro aH N;refine zT<|zZ<|yH<|zJ<|yC 4 [0] [22,24,25] rfl<|bE N fun x aK N=>xL rfl rfl h3 aK ?_;intro ad aP aq am;obtain ⟨p9,c9,bc,bj,aT,bf,rfl,h11,h12,h13⟩:=tX am;refine xE 0 aq (cExpr x p9 c9 bc bj aT bf) (vA (cExpr x p9 c9 bc bj aT bf)) rfl<|sE (zY [1,0] (ah:=[hO zL (vS p7 aN c7) bB,hB b (cExpr e0 p1 c1 p2 c2 p3 c3)]))<|bE N fun y1 bi N=>tY (ih_spec_l3Reads aN x _ bi h9 h11 h12 h13) rfl ?_;rintro bG ay v2 k2 aJ - ⟨bD,br,cs6,rfl,rfl,h14⟩ -;have ⟨h1,h2,h3,H⟩:=m4 aJ h1 h2 h3 H;exact yI [] [0] rfl<|zN<|zH<|zJ<|yI [] [5] rfl<|yM<|kC (zX [1,0] rfl (by decide))<|nT<|ih_spec_l3Reads_l1 e0 y1 (W (i+1)) _ N H h1 h2 h3 h14 hg ho hx
  intro aH N;exact wL<|xR (zX [1] rfl (by decide))<|yN<|hx _ _ _ _ _ (zC N).symm H h9
theorem zHB:∀ out e0 r,rA out e0=some r->∀ {I:Imm}{p c cs p1 c1 p2 c2 p3 c3},(RL I cs out)->(S4 I p1 e0.Index.Coefs c1)->(S4 I p2 e0.Read.Subs c2)->(S4 I p3 e0.Kids c3)->RT 189 [vS p out c,vA (cExpr e0 p1 c1 p2 c2 p3 c3)] I [hO zL (vS p out c) cs] (zB3  r):=zGR.1
def sJ (a0:zF) (n0:Int) (i:Int):Option (Int):=do
 if (decide (i<(a0.Dims.length:Int))) then
  let x<-idx a0.Dims i
  sJ a0 (W (n0*x)) (W (i+1))
 else
  pure (id n0)
 partial_fixpoint
theorem zFU (a0:zF):∀ (n0:Int) (i:Int) (o:Int),sJ a0 n0 i=some o->∀ {B}{I0 I:Imm}{Q p c}{b:Nat},I0.le I->(S4 I p a0.Dims c)->NG Q->NO Q->(∀ (I':Imm) (n01:Int),o=n01->I0.le I'->T 20 B Q (.exit 0) I' [] [(3,vI n01)])->J Tryz.prog 20 B (nav (bodyOf f229) [1,1,0,1,0]) Q I [hB b (cArr a0 p c)] [(1,vP b 0),(3,vI n0),(4,vI i)]:=by
 refine sJ.partial_correctness a0 _ fun aI ih n0 i o N B I0 I Q p c b H h hg ho hx=>yO hg ho<|yB<|yF<|yI [0] [9] rfl<|zH<|yE N ?_ ?_
 · intro hc N;refine zT<|zZ<|yH<|zJ<|yC 4 [0] [12,14,15] rfl<|bE N fun x hy N=>xL rfl rfl h hy ?_;intro ad aP aq am;obtain rfl:=am;exact xE 0 aq [vI x] (vI x) rfl<|yI [] [3] rfl<|zN<|zH<|zJ<|yI [] [4] rfl<|yM<|nT<|ih (W (n0*x)) (W (i+1)) _ N H h hg ho hx
 intro hc N;exact wL<|xR zQ<|yN<|hx _ _ (zC N).symm H
def jN (a0:zF):Option (Int):=do
 let n01<-sJ a0 1 0
 pure (id n01)
theorem zHp:∀ a0 r,jN a0=some r->∀ {I:Imm}{p c},(S4 I p a0.Dims c)->RT 229 [vA (cArr a0 p c)] I [] (yQ  r):=by
 intro a0 r N I p c h;unfold jN at N;refine yK func229 fun B=>yF<|tT (cArr a0 p c) ?_;intro b hb;refine wI [] []<|wP [3] rfl<|zZ<|yG [4] rfl<|xY<|qI [(1,vP b 0),(3,vI 1),(4,vI 0)] ?_;obtain ⟨o0,aD,aM⟩:=zB N;refine zFU a0 1 0 o0 aD iR h (fun _ _ _ h=>h) (fun _ _ h=>h) ?_;intro I0 n01 heq le;subst o0;refine zS<|wP [2] rfl<|zH<|yY ?_;obtain rfl:=zC aM;exact wF
def tB (list:(List zF)) (a0:zL) (ag:(List Int)) (i:Int) (n0:Int) (k0:Int):Option (Out Int (Int)):=do
 if (decide (k0<(a0.Subs.length:Int))) then
  let x2<-idx list i
  if ((a0.Subs.length:Int) != (x2.Dims.length:Int)) then
   pure (.ret (-1))
  else
   let x3<-idx a0.Subs k0
   let y1<-qQ x3 ag
   let t70<-(do
     if (decide (y1<0)) then
      pure true
     else
      let x4<-idx list i
      let x5<-idx x4.Dims k0
      pure (decide (y1>=x5))
       : Option Bool)
   if t70 then
    pure (.ret (-1))
   else
    let x6<-idx list i
    let x7<-idx x6.Dims k0
    tB list a0 ag i (W ((W (n0*x7))+y1)) (W (k0+1))
 else
  pure (.done n0)
 partial_fixpoint
theorem zFV (list:(List zF)) (a0:zL) (ag:(List Int)) (i:Int):∀ (n0:Int) (k0:Int) (o:Out Int (Int)),tB list a0 ag i n0 k0=some o->∀ {B}{I0 I:Imm}{Q}{base:Int}{p c p1 c1 p2 c2}{b:Nat},I0.le I->(S4 I p list c)->(S4 I p2 ag c2)->(S4 I p1 a0.Subs c1)->NG Q->NO Q->(∀ (I':Imm) (n01:Int),o=(.done n01)->I0.le I'->T 86 B Q (.exit 2) I' [] [(7,vI base),(9,vI n01)])->(∀ r I' ah m',o=(.ret r)->I0.le I'->RS Tryz.prog f190 B (yQ  r) I' ah m'->T 86 B Q .ret I' ah m')->J Tryz.prog 86 B (nav (bodyOf f190) [1,1,0,1,0,0,1,0,0,1,1,0,1,0]) Q I [hB b (cAccess a0 p1 c1)] [(0,vS p list c),(2,vS p2 ag c2),(4,vP b 0),(7,vI base),(8,vI i),(9,vI n0),(10,vI k0)]:=by
 refine tB.partial_correctness list a0 ag i _ fun aI ih n0 k0 o N B I0 I Q base p c p1 c1 p2 c2 b H h h2 h1 hg ho hx hr=>yO hg ho<|yB<|yF<|yI [0] [37] rfl<|zH<|yE N ?_ ?_
 · intro aZ N;refine zT<|zZ<|yH<|yB<|yB<|kI (by kernel_rfl) (by kernel_rfl)<|fP 5 [0] [42,43,44] rfl<|bE N fun x2 bi N=>dW rfl rfl h bi ?_;intro ad2 bP bb bk;obtain ⟨p5,c5,rfl,h6⟩:=wW bk;refine fP 7 [] [46] rfl<|fA 1 bb [vS p5 x2.Dims c5] (vS p5 x2.Dims c5) rfl<|zGr [] [49] rfl<|zH<|yE N ?_ ?_
   · intro bK N;exact yG [6] rfl<|xD<|zG<|zW<|zG<|zG<|hr _ _ _ _ (zC N).symm H ⟨_,_,(.tmp rfl ResV.nil),zQ,⟨_,rfl,rfl,rfl⟩⟩
   intro bK N;refine zT<|yV<|yC 3 [0] [51,52] rfl<|bE N fun x3 bu N=>xL rfl rfl h1 bu ?_;intro ad3 ccs3 hat3 bH;obtain ⟨p6,c6,rfl,h7⟩:=yS bH;refine xE 0 hat3 (cAff x3 p6 c6) (vA (cAff x3 p6 c6)) rfl<|yC 6 [] [55] rfl<|bE N fun y1 bJ N=>fB (eA x3 ag _ bJ h7 h2) ?_;intro aW ae;have ⟨h,h2,h1,H⟩:=m4 ae h h2 h1 H;refine yI [] [11] rfl<|zZ<|yB ?_;refine wR N [hB b (cAccess a0 p1 c1)] (fun t70=>[(0,vS p list c),(2,vS p2 ag c2),(4,vP b 0),(7,vI base),(8,vI i),(9,vI n0),(10,vI k0),(11,vI y1),(70,.bool t70)]) (fun o0 aD=>?_) ?_
   · have H:=iS aW;refine zJ<|yC 3 [] [59] rfl<|xW [59] aD ?_ ?_
     · intro bO N;exact wI [] [(70,vY)]<|yN<|zV (ct N H)
     intro bO N;refine yC 6 [] [60,61,62] rfl<|bE N fun x4 hy6 N=>xL rfl rfl h hy6 ?_;intro ad4 ccs4 hat4 hrep4;obtain ⟨p7,c7,rfl,h9⟩:=wW hrep4;refine yC 8 [] [64] rfl<|xE 1 hat4 [vS p7 x4.Dims c7] (vS p7 x4.Dims c7) rfl<|yC 10 [] [66] rfl<|bE N fun x5 hy7 N=>xL rfl rfl h9 hy7 ?_;intro ad5 ccs5 hat5 hrep5;obtain rfl:=hrep5;exact xE 0 hat5 [vI x5] (vI x5) rfl<|yI [] [70] rfl<|yN<|zV (ct N H)
   intro t70 aX aF aV;have ⟨h,h2,h1,H⟩:=m4 aF h h2 h1 H;refine zH<|yE aV ?_ ?_
   · intro hc5 N;exact yG [6] rfl<|xD<|zG<|zW<|zG<|zG<|hr _ _ _ _ (zC N).symm H ⟨_,_,(.tmp rfl ResV.nil),zQ,⟨_,rfl,rfl,rfl⟩⟩
   intro hc5 N;refine zT<|zH<|zJ<|yC 3 [] [71,72,73] rfl<|bE N fun x6 hy8 N=>xL rfl rfl h hy8 ?_;intro ad6 ccs6 hat6 hrep6;obtain ⟨p8,c8,rfl,h10⟩:=wW hrep6;refine yC 5 [] [75] rfl<|xE 1 hat6 [vS p8 x6.Dims c8] (vS p8 x6.Dims c8) rfl<|yC 7 [] [77] rfl<|bE N fun x7 hy9 N=>xL rfl rfl h10 hy9 ?_;intro ad7 ccs7 hat7 hrep7;obtain rfl:=hrep7;exact xE 0 hat7 [vI x7] (vI x7) rfl<|yI [] [9] rfl<|zN<|zH<|zJ<|yI [] [10] rfl<|yM<|nT<|ih (W ((W (n0*x7))+y1)) (W (k0+1)) _ N H h h2 h1 hg ho hx hr
 intro aZ N;exact wL<|xR zQ<|yN<|hx _ _ (zC N).symm H
def tC (list:(List zF)) (a0:zL) (ag:(List Int)) (base:Int) (i:Int):Option (Out Unit (Int)):=do
 if (decide (i<(list.length:Int))) then
  let x<-idx list i
  if (!(x.Name.l==a0.Array.l)) then
   let x1<-idx list i
   let y<-jN x1
   tC list a0 ag (W (base+y)) (W (i+1))
  else
   match<-tB list a0 ag i 0 0 with
   | .ret r0=>pure (.ret r0)
   | .done n01 =>
    pure (.ret (W (base+n01)))
 else
  pure (.done ())
 partial_fixpoint
theorem zFW (list:(List zF)) (a0:zL) (ag:(List Int)):∀ (base:Int) (i:Int) (o:Out Unit (Int)),tC list a0 ag base i=some o->∀ {B}{I0 I:Imm}{Q p c p1 c1 p2 c2}{b:Nat},I0.le I->(S4 I p list c)->(S4 I p2 ag c2)->(S4 I p1 a0.Subs c1)->NG Q->NO Q->(∀ (I':Imm) ,o=(.done ())->I0.le I'->T 86 B Q (.exit 0) I' [] [])->(∀ r I' ah m',o=(.ret r)->I0.le I'->RS Tryz.prog f190 B (yQ  r) I' ah m'->T 86 B Q .ret I' ah m')->J Tryz.prog 86 B (nav (bodyOf f190) [1,1,0,1,0]) Q I [hB b (cAccess a0 p1 c1)] [(0,vS p list c),(2,vS p2 ag c2),(4,vP b 0),(7,vI base),(8,vI i)]:=by
 refine tC.partial_correctness list a0 ag _ fun aI ih base i o N B I0 I Q p c p1 c1 p2 c2 b H h h2 h1 hg ho hx hr=>yO hg ho<|yB<|yG [15] rfl<|zH<|yE N ?_ ?_
 · intro hc N;refine zT<|zZ<|yH<|yB<|yB<|kI (by kernel_rfl) (by kernel_rfl)<|fP 2 [] [18,19] rfl<|bE N fun x hy N=>dW rfl rfl h hy ?_;intro ad aP aq am;obtain ⟨p3,c3,rfl,h3⟩:=wW am;refine fP 4 [] [21] rfl<|fA 0 aq [vT x.Name.l] (vT x.Name.l) rfl<|zGr [0] [25] rfl<|zH<|yE N ?_ ?_
   · intro aH N;refine yF<|yC 3 [] [26,27,28] rfl<|bE N fun x1 aA N=>xL rfl rfl h aA ?_;intro ad1 bv av ax;obtain ⟨p4,c4,rfl,h4⟩:=wW ax;refine xE 0 av (cArr x1 p4 c4) (vA (cArr x1 p4 c4)) rfl<|bE N fun y aK N=>fB (zHp x1 _ aK h4) ?_;intro I0 le;have ⟨h,h2,h1,H⟩:=m4 le h h2 h1 H;exact yI [] [7] rfl<|zH<|zEM<|jA<|zS<|zH<|zJ<|yI [] [8] rfl<|yM<|nT<|ih (W (base+y)) (W (i+1)) _ N H h h2 h1 hg ho hx hr
   intro aH N;refine zT<|wP [9] rfl<|zZ<|yG [10] rfl<|xY<|qI [(0,vS p list c),(2,vS p2 ag c2),(4,vP b 0),(7,vI base),(8,vI i),(9,vI 0),(10,vI 0)] ?_;obtain ⟨aQ,aB,aM⟩:=zB N;refine zFV list a0 ag i 0 0 aQ aB iR h h2 h1 (fun _ _ _ h=>hg _ _ _ h) (fun _ _ h=>ho _ _ h) ?_ ?_
   · intro bG n01 heq1 aJ;subst aQ;have H:=H.trans aJ;exact zS<|wP [6] rfl<|xD<|zW<|zG<|zG<|hr _ _ _ _ (zC aM).symm H ⟨_,_,(.tmp rfl ResV.nil),zQ,⟨_,rfl,rfl,rfl⟩⟩
   intro r0 I9 hs9 m9 aY le9 ba;subst aY;exact zW<|zG<|zW<|zG<|zG<|hr _ _ _ _ (zC aM).symm (H.trans le9) ba
 intro hc N;exact wL<|xR zQ<|yN<|hx _  (zC N).symm H
def mZ (list:(List zF)) (a0:zL) (ag:(List Int)):Option (Int):=do
 match<-tC list a0 ag 0 0 with
 | .ret r0=>pure r0
 | .done _ =>
  pure (-1)
theorem zDQ:∀ list a0 ag r,mZ list a0 ag=some r->∀ {I:Imm}{p c p1 c1 p2 c2},(S4 I p list c)->(S4 I p1 a0.Subs c1)->(S4 I p2 ag c2)->RT 190 [vS p list c,vA (cAccess a0 p1 c1),vS p2 ag c2] I [] (yQ  r):=by
 intro list a0 ag r N I p c p1 c1 p2 c2 h h1 h2;unfold mZ at N;refine yK func190 fun B=>yF<|tT (cAccess a0 p1 c1) ?_;intro b hb;refine wI [] []<|wP [7] rfl<|zZ<|yG [8] rfl<|xY<|qI [(0,vS p list c),(2,vS p2 ag c2),(4,vP b 0),(7,vI 0),(8,vI 0)] ?_;obtain ⟨o02,ho02,hMl1⟩:=zB N;refine zFW list a0 ag 0 0 o02 ho02 iR h h2 h1 (fun _ _ _ h=>h) (fun _ _ h=>h) ?_ ?_
 · intro bL  heq2 bd;subst o02;refine zS<|wP [6] rfl<|zH<|yY ?_;obtain rfl:=zC hMl1;exact wF
 intro r0 I9 hs9 m9 aY le9 ba;subst aY;refine zW<|zG ?_;obtain rfl:=zC hMl1;exact xA ba
def zB4 (r:(List Int)×Int×Bool):KT:=fun kk I' ah v=>
  ∃ v0 v1 v2,ah=[]/\v=tupV [v0,v1,v2]/\SL I' v0 r.1/\v1=.int .i64 r.2.1/\v2=.bool r.2.2
def tQ (list:(List zF)) (ag:(List Int)) (y:(List zL)) (out:List Int) (i:Int):Option (Out (List Int) ((List Int)×Int×Bool)):=do
 if (decide (i<(y.length:Int))) then
  let x<-idx y i
  let y1<-mZ list x ag
  if (decide (y1<0)) then
   pure (.ret (([]:List Int),0,false))
  else
   let au<-app 8 out ([y1]:List Int)
   tQ list ag y au (W (i+1))
 else
  pure (.done out)
 partial_fixpoint
theorem zE6 (list:(List zF)) (ag:(List Int)) (y:(List zL)):∀ (out:List Int) (i:Int) (o:Out (List Int) ((List Int)×Int×Bool)),tQ list ag y out i=some o->∀ {B}{I0 I:Imm}{Q}{s:zP}{p c p1 c1 p2 c2 p3 c3 p4 c4 p5 c5}{b:Nat}{p6 c6 cs p7 c7 az},I0.le I->(S4 I p list c)->(S4 I p5 ag c5)->(RL I cs y)->(S4 I p1 s.Write.Subs c1)->(S4 I p2 s.Value.Index.Coefs c2)->(S4 I p3 s.Value.Read.Subs c3)->(S4 I p4 s.Value.Kids c4)->(RL I az out)->NG Q->NO Q->(∀ (I':Imm) (aj:List Int) (p8:Option Addr) (c8:Nat) (aR:List Value),o=(.done aj)->I0.le I'->(RL I' aR aj)->T 49 B Q (.exit 0) I' [hO Int (vS p8 aj c8) aR,hB b (cStmt s p1 c1 p2 c2 p3 c3 p4 c4)] [(0,vS p list c),(2,vS p5 ag c5),(4,vP b 0),(9,vS p8 aj c8)])->(∀ r I' ah m',o=(.ret r)->I0.le I'->RS Tryz.prog f147 B (zB4  r) I' ah m'->T 49 B Q .ret I' ah m')->J Tryz.prog 49 B (nav (bodyOf f147) [1,1,1,0,1,0]) Q I [hO zL (vS p6 y c6) cs,hO Int (vS p7 out c7) az,hB b (cStmt s p1 c1 p2 c2 p3 c3 p4 c4)] [(0,vS p list c),(2,vS p5 ag c5),(4,vP b 0),(9,vS p7 out c7),(10,vS p6 y c6),(11,vI i)]:=by
 refine tQ.partial_correctness list ag y _ fun aI ih out i o N B I0 I Q s p c p1 c1 p2 c2 p3 c3 p4 c4 p5 c5 b p6 c6 cs p7 c7 az H h h5 h8 h1 h2 h3 h4 h9 hg ho hx hr=>yO hg ho<|yB<|yG [22] rfl<|zH<|yE N ?_ ?_
 · intro hc N;refine zT<|zZ<|yH<|yF<|yC 3 [] [25,26,27] rfl<|bE N fun x aA N=>oH 0 rfl rfl rfl h8 aA ?_;intro ad aP aq bM am;obtain ⟨p9,c9,rfl,h11⟩:=nY am;refine zAX 0 0 aq bM (cAccess x p9 c9) (vA (cAccess x p9 c9)) rfl rfl<|yC 6 [] [30] rfl<|bE N fun y1 aK N=>fB (zDQ list x ag _ aK h h11 h5) ?_;intro aW ae;have ⟨h,h5,h9,h8,h1,h2⟩:=m6 ae h h5 h9 h8 h1 h2;have ⟨h3,h4,H⟩:=m3 ae h3 h4 H;refine yI [] [12] rfl<|zZ<|yG [33] rfl<|zH<|yE N ?_ ?_
   · intro aH N;refine yF<|uO [] Int ?_;intro b3 hb3;have h13:RL aW [] ([]:List Int):=rfl;refine yI [] [6,7,8] rfl<|xD<|zG<|zW<|zG<|zG<|yX 0 rfl ?_;intro aX aF hl0;have h14:=SL.of_frozen hl0 aF h13;have H:=H.trans aF;exact hr _ _ _ _ (zC N).symm H ⟨_,_,(.tmp rfl (.tmp rfl (.tmp rfl ResV.nil))),zQ,⟨_,_,_,rfl,rfl,h14,rfl,rfl⟩⟩
   intro aH N;refine zT<|zH<|zJ<|yC 2 [] [35,36] rfl<|uO [vI y1] Int ?_;intro b4 hb4;have h15:RL aW [vI y1] ([y1]:List Int):=rI [y1];obtain ⟨au,bi,N⟩:=zB N;exact sO 3 1 2 rfl rfl rfl h9 (.inr ⟨0,rfl⟩) h15 bi fun bc bj aS h16=>sE (zY [1,2,3] (ah:=[hO zL (vS p6 y c6) cs,hO Int (vS bc au bj) aS,hB b (cStmt s p1 c1 p2 c2 p3 c3 p4 c4)]))<|yI [] [9] rfl<|zN<|zH<|zJ<|yI [] [11] rfl<|yM<|nT<|ih au (W (i+1)) _ N H h h5 h8 h1 h2 h3 h4 h16 hg ho hx hr
 intro hc N;exact wL<|xR (zX [1,2] rfl (by decide))<|yN<|hx _ _ _ _ _ (zC N).symm H h9
def kJ (list:(List zF)) (s:zP) (ag:(List Int)):Option ((List Int)×Int×Bool):=do
 let y<-rA ([]:List zL) s.Value
 match<-tQ list ag y ([]:List Int) 0 with
 | .ret r0=>pure r0
 | .done aj =>
  let y2<-mZ list s.Write ag
  if (decide (y2<0)) then
   pure (([]:List Int),0,false)
  else
   pure (aj,y2,true)
theorem zHC:∀ list s ag r,kJ list s ag=some r->∀ {I:Imm}{p c p1 c1 p2 c2 p3 c3 p4 c4 p5 c5},(S4 I p list c)->(S4 I p1 s.Write.Subs c1)->(S4 I p2 s.Value.Index.Coefs c2)->(S4 I p3 s.Value.Read.Subs c3)->(S4 I p4 s.Value.Kids c4)->(S4 I p5 ag c5)->RT 147 [vS p list c,vA (cStmt s p1 c1 p2 c2 p3 c3 p4 c4),vS p5 ag c5] I [] (zB4  r):=by
 intro list s ag r N I p c p1 c1 p2 c2 p3 c3 p4 c4 p5 c5 h h1 h2 h3 h4 h5;unfold kJ at N;refine yK func147 fun B=>yF<|tT (cStmt s p1 c1 p2 c2 p3 c3 p4 c4) ?_;intro b hb;refine wI [] []<|yV<|uO [] Int ?_;intro b1 hb1;have h6:RL I [] ([]:List Int):=rfl;refine yI [] [9] rfl<|yV<|uO [] zL ?_;intro b2 hb2;have h7:RL I [] ([]:List zL):=rfl;refine rH 3 [2] [(17,vA (cExpr s.Value p2 c2 p3 c3 p4 c4))]<|bE N fun y hy N=>tY (zHB ([]:List zL) s.Value _ hy h7 h2 h3 h4) rfl ?_;rintro I0 ay v2 k2 le - ⟨p6,c6,cs,rfl,rfl,h8⟩ -;have ⟨h,h5,h6,h1,h2,h3⟩:=m6 le h h5 h6 h1 h2 h3;have h4:=h4.mono le;refine yI [] [10] rfl<|zZ<|yG [11] rfl<|xY<|qI [(0,vS p list c),(2,vS p5 ag c5),(4,vP b 0),(9,vS (some ⟨b1,0,none⟩) ([]:List Int) 0),(10,vS p6 y c6),(11,vI 0)] ?_;obtain ⟨o0,aD,aM⟩:=zB N;refine zE6 list ag y ([]:List Int) 0 o0 aD iR h h5 h8 h1 h2 h3 h4 h6 (fun _ _ _ h=>h) (fun _ _ h=>h) ?_ ?_
 · intro bG aj p8 c8 aR heq aJ h10;subst o0;have ⟨h,h5,h1⟩:=m3 aJ h h5 h1;refine zS<|yV<|rH 4 [1] [(39,vS p list c),(41,vA (cAccess s.Write p1 c1)),(42,vS p5 ag c5)] ?_;obtain ⟨y2,bu,N⟩:=zB aM;refine fB (zDQ list s.Write ag _ bu h h1 h5) ?_;intro bL bd;have h10:=iM bd h10;refine yI [] [13] rfl<|zZ<|yG [45] rfl<|zH<|yE N ?_ ?_
   · intro aZ N;refine yF<|uO [] Int ?_;intro b5 hb5;have h18:RL bL [] ([]:List Int):=rfl;refine yI [] [6,7,8] rfl<|xD<|zG<|yX 0 rfl ?_;intro bR bw hl01;have h19:=SL.of_frozen hl01 bw h18;obtain rfl:=zC N;exact xA ⟨_,_,(.tmp rfl (.tmp rfl (.tmp rfl ResV.nil))),zQ,⟨_,_,_,rfl,rfl,h19,rfl,rfl⟩⟩
   intro aZ N;refine zT<|wP [6,7,8] rfl<|xD<|yX 0 rfl ?_;intro I06 bC hl02;have h20:=SL.of_frozen hl02 bC h10;obtain rfl:=zC N;exact xA ⟨_,_,(.tmp rfl (.tmp rfl (.tmp rfl ResV.nil))),zQ,⟨_,_,_,rfl,rfl,h20,rfl,rfl⟩⟩
 intro r0 I9 hs9 m9 aY le9 ba;subst aY;refine zW<|zG ?_;obtain rfl:=zC aM;exact xA ba
def tR (p:(List Int)) (i:Int):Option (Out Unit (Bool)):=do
 if (decide (i<(p.length:Int))) then
  let x<-idx p i
  let y<-uG x 9999
  if (!y) then
   pure (.ret false)
  else
   tR p (W (i+1))
 else
  pure (.done ())
 partial_fixpoint
theorem zE7 (p:(List Int)):∀ (i:Int) (o:Out Unit (Bool)),tR p i=some o->∀ {B}{I0 I:Imm}{Q p1 c},I0.le I->(S4 I p1 p c)->NG Q->NO Q->(∀ (I':Imm) ,o=(.done ())->I0.le I'->T 19 B Q (.exit 0) I' [] [(0,vS p1 p c)])->(∀ r I' ah m',o=(.ret r)->I0.le I'->RS Tryz.prog f148 B (zU  r) I' ah m'->T 19 B Q .ret I' ah m')->J Tryz.prog 19 B (nav (bodyOf f148) [1,0,1,0]) Q I [] [(0,vS p1 p c),(3,vI i)]:=by
 refine tR.partial_correctness p _ fun aI ih i o N B I0 I Q p1 c H h hg ho hx hr=>yO hg ho<|yB<|yG [7] rfl<|zH<|yE N ?_ ?_
 · intro hc N;refine zT<|zZ<|yH<|yF<|yC 2 [] [10,11] rfl<|bE N fun x hy N=>xL rfl rfl h hy ?_;intro ad aP aq am;obtain rfl:=am;refine xE 0 aq [vI x] (vI x) rfl<|bE N fun y aA N=>vU (zAP x 9999 _ aA ) ?_;intro I0 le;have ⟨h,H⟩:=m2 le h H;refine yI [] [15] rfl<|zH<|yE N ?_ ?_
   · intro aH N;exact wQ [(2,vF)]<|xD<|zW<|zG<|zG<|hr _ _ _ _ (zC N).symm H ⟨_,_,(.tmp rfl ResV.nil),zQ,⟨_,rfl,rfl,rfl⟩⟩
   intro aH N;exact zT<|zN<|zH<|zJ<|yI [] [3] rfl<|yM<|nT<|ih (W (i+1)) _ N H h hg ho hx hr
 intro hc N;exact wL<|yN<|hx _  (zC N).symm H
def kK (p:(List Int)):Option (Bool):=do
 match<-tR p 0 with
 | .ret r0=>pure r0
 | .done _ =>
  pure (decide ((p.length:Int)<=4))
theorem zHD:∀ p r,kK p=some r->∀ {I:Imm}{p1 c},(S4 I p1 p c)->RT 148 [vS p1 p c] I [] (zU  r):=by
 intro p r N I p1 c h;unfold kK at N;refine yK func148 fun B=>wQ []<|zZ<|yG [3] rfl<|xY<|qI [(0,vS p1 p c),(3,vI 0)] ?_;obtain ⟨o0,aD,aM⟩:=zB N;refine zE7 p 0 o0 aD iR h (fun _ _ _ h=>h) (fun _ _ h=>h) ?_ ?_
 · intro aW  heq ae;subst o0;refine zS<|wP [2] rfl<|zH<|yY ?_;obtain rfl:=zC aM;exact wF
 intro r0 I9 hs9 m9 aY le9 ba;subst aY;refine zW<|zG ?_;obtain rfl:=zC aM;exact xA ba
end Go.LN
