/- Helper of the proof (see the last text). -/
import Derived.Test.YtmlnffbepjijhaaGreatHM2
set_option linter.unusedVariables false
set_option linter.unusedSimpArgs false
namespace Go.LN
open Go.Proofs Go.Proofs.Tryz
set_option maxRecDepth 20000
def fD (kind:Int):Option (Int):=do
 let t4<-(do
   if (kind==1) then pure (kind==1)
   else
    let t41<-(do
      if (kind==2) then pure (kind==2)
      else
       pure (kind==3)
        : Option Bool)
    pure (id t41)
     : Option Bool)
 if t4 then pure (id 0)
 else
  let t8<-(do
    if (kind==4) then pure (kind==4)
    else
     let t81<-(do
       if (kind==5) then pure (kind==5)
       else
        pure (kind==6)
         : Option Bool)
     pure (id t81)
      : Option Bool)
  if t8 then pure (id 2)
  else pure (-1)
theorem zDy:∀ kind r,fD kind=some r->∀ {I:Imm} ,RT 161 [vI kind] I [] (xL  r):=by
 intro kind r N I;unfold fD at N;refine yI func161 fun B=>?_;have H:=iS I;refine wT []<|zZ<|yH [3] rfl<|wI<|yA<|yH [4] rfl<|zK ?_;refine wZ N [] (fun t4=>[(3,vI kind),(4,.bool t4)]) (fun o0 az=>?_) ?_
 · have H:=iS I;refine yG az ?_ ?_
   · intro hc N;exact zS<|yU<|zU (ct N H)
   intro hc N;refine yH [4] rfl<|zK ?_;refine wZ N [] (fun t41=>[(3,vI kind),(4,.bool t41)]) (fun aN aC=>?_) ?_
   · have H:=iS I;refine yG aC ?_ ?_
     · intro aH N;exact zS<|yU<|zU (ct N H)
     intro aH N;exact zM<|yK [] [4] rfl<|yU<|zU (ct N H)
   intro t41 aO le hMc1;have H:=H.trans le;exact yU<|zU (ct hMc1 H)
 intro t4 I0 aa aT;have H:=H.trans aa;refine zK<|yG aT ?_ ?_
 · intro aY N;refine yH [2] rfl<|xF<|zV<|zJ ?_;obtain rfl:=zD N;exact vV
 intro aY N;refine yA<|yH [8] rfl<|zK ?_;refine wZ N [] (fun t8=>[(8,.bool t8)]) (fun o02 ho02=>?_) ?_
 · have H:=iS I0;refine yG ho02 ?_ ?_
   · intro bC N;exact zS<|yU<|zU (ct N H)
   intro bC N;refine yH [8] rfl<|zK ?_;refine wZ N [] (fun t81=>[(8,.bool t81)]) (fun o03 ho03=>?_) ?_
   · have H:=iS I0;refine yG ho03 ?_ ?_
     · intro bJ N;exact zS<|yU<|zU (ct N H)
     intro bJ N;exact zM<|yK [] [8] rfl<|yU<|zU (ct N H)
   intro t81 bx aA hMc3;have H:=H.trans aA;exact yU<|zU (ct hMc3 H)
 intro t8 aV aK hMc2;refine zK<|yG hMc2 ?_ ?_
 · intro hc5 N;refine yH [2] rfl<|xF<|zV<|zJ ?_;obtain rfl:=zD N;exact vV
 intro hc5 N;refine zS<|zO<|vW [2] rfl<|zK<|xA ?_;obtain rfl:=zD N;exact vV
def nC (a0:zG):Option (Bool):=do
 let t2<-(do
   if (a0.Array.l==([]:List UInt8)) then pure ((a0.Subs.length:Int)==0)
   else
    pure false
     : Option Bool)
 pure (id t2)
theorem zBJ:∀ a0 r,nC a0=some r->∀ {I:Imm}{p c},(S4 I p a0.Subs c)->RT 185 [vA (cAccess a0 p c)] I [] (zT  r):=by
 intro a0 r N I p c h;unfold nC at N;refine yI func185 fun B=>?_;have H:=iS I;refine yB<|vJ (cAccess a0 p c) ?_;intro b hb;refine wR [] []<|zK<|yA ?_;refine wZ N [] (fun t2=>[(2,.bool t2)]) (fun o0 az=>?_) ?_
 · have H:=iS I;refine zM<|yE 4 [0] [6] rfl<|wL [6] az ?_ ?_
   · intro hc N;exact yK [0] [2] rfl<|wF zP<|yU<|zU (ct N H)
   intro hc N;exact wR [] [(2,vF)]<|wF zP<|yU<|zU (ct N H)
 intro t2 I0 le aT;refine zK<|xA ?_;obtain rfl:=zD aT;exact vV
def kO (a0:zA):Option (Bool):=do
 let t2<-(do
   if ((a0.Coefs.length:Int)==0) then pure (a0.Const==0)
   else
    pure false
     : Option Bool)
 pure (id t2)
theorem zBa:∀ a0 r,kO a0=some r->∀ {I:Imm}{p c},(S4 I p a0.Coefs c)->RT 186 [vA (cAff a0 p c)] I [] (zT  r):=by
 intro a0 r N I p c h;unfold kO at N;refine yI func186 fun B=>?_;have H:=iS I;refine yB<|vJ (cAff a0 p c) ?_;intro b hb;refine wR [] []<|zK<|yA ?_;refine wZ N [] (fun t2=>[(2,.bool t2)]) (fun o0 az=>?_) ?_
 · have H:=iS I;refine zM<|yE 5 [0] [7] rfl<|wL [7] az ?_ ?_
   · intro hc N;exact yK [0] [2] rfl<|wF zP<|yU<|zU (ct N H)
   intro hc N;exact wR [] [(2,vF)]<|wF zP<|yU<|zU (ct N H)
 intro t2 I0 le aT;refine zK<|xA ?_;obtain rfl:=zD aT;exact vV
def eK (e0:zH) (depth:Int):Option (Bool):=do
 if (e0.Kind==2) then
  let t4<-(do
    if (e0.Num==0) then
     let y<-nC e0.Read;if y then
      let y1<-tM e0.Index;if y1 then
       let y2<-nB e0.Index;pure (decide (y2<=depth))
      else pure false
     else pure false
    else
     pure false
      : Option Bool)
  pure (id t4)
 else
  if (e0.Kind==3) then
   let t41<-(do
     if (e0.Num==0) then
      let y3<-kO e0.Index;if y3 then
       let y4<-mC e0.Read depth;pure (id y4)
      else pure false
     else
      pure false
       : Option Bool)
   pure (id t41)
  else
   if (e0.Kind==1) then
    let t42<-(do
      if (decide (e0.Num>=0)) then
       if (decide (e0.Num<=99)) then
        let y5<-kO e0.Index;if y5 then
         let y6<-nC e0.Read;pure (id y6)
        else pure false
       else pure false
      else
       pure false
        : Option Bool)
    pure (id t42)
   else
    let t43<-(do
      if (e0.Num==0) then
       let y7<-kO e0.Index;if y7 then
        let y8<-nC e0.Read;pure (id y8)
       else pure false
      else
       pure false
        : Option Bool)
    pure (id t43)
theorem zJP:∀ e0 depth r,eK e0 depth=some r->∀ {I:Imm}{p c p1 c1 p2 c2},(S4 I p e0.Index.Coefs c)->(S4 I p1 e0.Read.Subs c1)->(S4 I p2 e0.Kids c2)->RT 162 [vA (cExpr e0 p c p1 c1 p2 c2),vI depth] I [] (zT  r):=by
 intro e0 depth r N I p c p1 c1 p2 c2 h h1 h2;unfold eK at N;refine yI func162 fun B=>?_;have H:=iS I;refine yB<|vJ (cExpr e0 p c p1 c1 p2 c2) ?_;intro b hb;refine wR [] []<|zZ<|yB<|yK [0] [7] rfl<|zK<|yG N ?_ ?_
 · intro hc N;refine yA ?_;refine wZ N [] (fun t4=>[(4,.bool t4)]) (fun o0 az=>?_) ?_
   · have H:=iS I;refine zM<|yE 4 [0] [11] rfl<|wL [11] az ?_ ?_
     · intro aH N;refine tL 6 [0] [(13,vA (cAccess e0.Read p1 c1))]<|bE N fun y hy N=>tH (zBJ e0.Read _ hy h1) ?_;intro aO le;have ⟨h,H⟩:=m2 le h H;refine yE 9 [] [16] rfl<|wL [16] N ?_ ?_
       · intro aY N;refine tL 11 [0] [(18,vA (cAff e0.Index p c))]<|bE N fun y1 ay N=>tH (fM e0.Index _ ay h) ?_;intro aV aa;have ⟨h,H⟩:=m2 aa h H;refine yE 14 [] [21] rfl<|wL [21] N ?_ ?_
         · intro bC N;refine tL 16 [0] [(23,vA (cAff e0.Index p c))]<|bE N fun y2 aG N=>dP (zBI e0.Index _ aG h) ?_;intro bx aA;have H:=H.trans aA;exact yK [] [4] rfl<|wF zP<|yU<|zU (ct N H)
         intro bC N;exact wR [] [(4,vF)]<|wF zP<|yU<|zU (ct N H)
       intro aY N;exact wR [] [(4,vF)]<|wF zP<|yU<|zU (ct N H)
     intro aH N;exact wR [] [(4,vF)]<|wF zP<|yU<|zU (ct N H)
   intro t4 I0 aK aT;refine xF<|zJ ?_;obtain rfl:=zD aT;exact vV
 intro hc N;refine zS<|zZ<|yB<|yK [0] [30] rfl<|zK<|yG N ?_ ?_
 · intro bJ N;refine yA ?_;refine wZ N [] (fun t41=>[(4,.bool t41)]) (fun aN aC=>?_) ?_
   · have H:=iS I;refine zM<|yE 4 [0] [34] rfl<|wL [34] aC ?_ ?_
     · intro hc5 N;refine tL 6 [0] [(36,vA (cAff e0.Index p c))]<|bE N fun y3 bc N=>tH (zBa e0.Index _ bc h) ?_;intro bI aX;have ⟨h1,H⟩:=m2 aX h1 H;refine yE 9 [] [39] rfl<|wL [39] N ?_ ?_
       · intro hc6 N;refine tL 12 [0] [(41,vA (cAccess e0.Read p1 c1)),(42,vI depth)]<|bE N fun y4 bu N=>tH (zCc e0.Read depth _ bu h1) ?_;intro I06 bf;have H:=H.trans bf;exact yK [] [4] rfl<|wF zP<|yU<|zU (ct N H)
       intro hc6 N;exact wR [] [(4,vF)]<|wF zP<|yU<|zU (ct N H)
     intro hc5 N;exact wR [] [(4,vF)]<|wF zP<|yU<|zU (ct N H)
   intro t41 bD bt hMc1;refine xF<|zJ ?_;obtain rfl:=zD hMc1;exact vV
 intro bJ N;refine zS<|zZ<|yB<|yK [0] [47] rfl<|zK<|yG N ?_ ?_
 · intro hc7 N;refine yA ?_;refine wZ N [] (fun t42=>[(4,.bool t42)]) (fun o02 ho02=>?_) ?_
   · have H:=iS I;refine zM<|yE 4 [0] [51] rfl<|wL [51] ho02 ?_ ?_
     · intro hc8 N;refine yE 9 [0] [56] rfl<|wL [56] N ?_ ?_
       · intro hc9 N;refine tL 11 [0] [(58,vA (cAff e0.Index p c))]<|bE N fun y5 bz N=>tH (zBa e0.Index _ bz h) ?_;intro I08 le7;have ⟨h1,H⟩:=m2 le7 h1 H;refine yE 14 [] [61] rfl<|wL [61] N ?_ ?_
         · intro hc10 N;refine tL 16 [0] [(63,vA (cAccess e0.Read p1 c1))]<|bE N fun y6 hy6 N=>tH (zBJ e0.Read _ hy6 h1) ?_;intro I09 le8;have H:=H.trans le8;exact yK [] [4] rfl<|wF zP<|yU<|zU (ct N H)
         intro hc10 N;exact wR [] [(4,vF)]<|wF zP<|yU<|zU (ct N H)
       intro hc9 N;exact wR [] [(4,vF)]<|wF zP<|yU<|zU (ct N H)
     intro hc8 N;exact wR [] [(4,vF)]<|wF zP<|yU<|zU (ct N H)
   intro t42 I07 le9 hMc2;refine xF<|zJ ?_;obtain rfl:=zD hMc2;exact vV
 intro hc7 N;refine zS<|zK<|yA ?_;refine wZ N [] (fun t43=>[(4,.bool t43)]) (fun o03 ho03=>?_) ?_
 · have H:=iS I;refine zM<|yE 4 [0] [69] rfl<|wL [69] ho03 ?_ ?_
   · intro hc11 N;refine tL 6 [0] [(71,vA (cAff e0.Index p c))]<|bE N fun y7 hy7 N=>tH (zBa e0.Index _ hy7 h) ?_;intro bR le10;have ⟨h1,H⟩:=m2 le10 h1 H;refine yE 9 [] [74] rfl<|wL [74] N ?_ ?_
     · intro hc12 N;refine tL 11 [0] [(76,vA (cAccess e0.Read p1 c1))]<|bE N fun y8 hy8 N=>tH (zBJ e0.Read _ hy8 h1) ?_;intro bO le11;have H:=H.trans le11;exact yK [] [4] rfl<|wF zP<|yU<|zU (ct N H)
     intro hc12 N;exact wR [] [(4,vF)]<|wF zP<|yU<|zU (ct N H)
   intro hc11 N;exact wR [] [(4,vF)]<|wF zP<|yU<|zU (ct N H)
 intro t43 bL le12 hMc3;refine zK<|xA ?_;obtain rfl:=zD hMc3;exact vV
mutual
def rH (e0:zH) (depth:Int) (ai:Int):Option (Bool):=do
 let t24<-(do
   if (decide (ai<1)) then pure true
   else
    let y<-fD e0.Kind;if (y != (e0.Kids.length:Int)) then pure true
    else
     let y1<-eK e0 depth;pure (!y1)
     : Option Bool)
 if t24 then pure false
 else
  match<-tD (same e0) (same depth) (same ai) (same 0) with
  | .ret r0=>pure r0
  | .done _ =>
   pure true
 partial_fixpoint
def tD (e0:zH) (depth:Int) (ai:Int) (i:Int):Option (Out Unit (Bool)):=do
 if (decide (i<(e0.Kids.length:Int))) then
  let x<-idx e0.Kids i;let y2<-rH (same x) (same depth) (W (ai - 1));if (!y2) then pure (.ret false)
  else tD (same e0) (same depth) (same ai) (W (i+1))
 else pure (.done ())
 partial_fixpoint
end
theorem zGt:(∀ (e0:zH) (depth:Int) (ai:Int) r,rH e0 depth ai=some r->∀ {I:Imm}{p c p1 c1 p2 c2},(S4 I p e0.Index.Coefs c)->(S4 I p1 e0.Read.Subs c1)->(S4 I p2 e0.Kids c2)->RT 128 [vA (cExpr e0 p c p1 c1 p2 c2),vI depth,vI ai] I [] (zT  r))/\(∀ (e0:zH) (depth:Int) (ai:Int) (i:Int) o,tD e0 depth ai i=some o->∀ {B}{I0 I:Imm}{Q p c p1 c1 p2 c2}{b},I0.le I->(S4 I p e0.Index.Coefs c)->(S4 I p1 e0.Read.Subs c1)->(S4 I p2 e0.Kids c2)->NG Q->NO Q->(∀ I',o=(.done ())->I0.le I'->T 42 B Q (.exit 0) I' [] [])->(∀ r I' af m',o=(.ret r)->I0.le I'->RS Tryz.prog f128 B (zT  r) I' af m'->T 42 B Q .ret I' af m')->J Tryz.prog 42 B (nav (bodyOf f128) [1,1,0,1,0]) Q I [hB b (cExpr e0 p c p1 c1 p2 c2)] [(1,vI depth),(2,vI ai),(3,vP b 0),(7,vI i)]):=by
  refine rH.mutual_partial_correctness _ _ ?_ ?_
  · intro F_spec_l3Shape_l1 ih_spec_l3Shape_l1 e0 depth ai r N I p c p1 c1 p2 c2 h h1 h2;refine yI func128 fun B=>?_;have H:=iS I;refine yB<|vJ (cExpr e0 p c p1 c1 p2 c2) ?_;intro b hb;refine wR [] []<|zZ<|yA ?_;refine wZ N [hB b (cExpr e0 p c p1 c1 p2 c2)] (fun t24=>[(1,vI depth),(2,vI ai),(3,vP b 0),(24,.bool t24)]) (fun o0 az=>?_) ?_
    · have H:=iS I;cases hc:(decide (ai<1)) with
      | true =>
       have hM0:=tY hc az;refine wO [.p (vI ai) [],.q vY,.q vY,.p undef [],.p undef [],.p undef [],.p undef [],.p undef [],.p undef [],.p undef [],.p vY [],.p vY [],.p undef [],.p undef [],.p undef [],.p undef [],.p vY []] [[],[(0,false)],[(1,false)],[(2,false)],[(2,false),(3,false)],[(2,false),(4,false)],[(2,false)],[(2,false),(6,false)],[(2,false),(7,false)],[(2,false),(5,false),(8,false)],[(2,false),(9,false)],[(10,false)],[(11,false)],[(11,false)],[(11,false),(12,false),(13,false)],[(11,false),(14,false)],[(11,false),(15,false)]] [hB b (cExpr e0 p c p1 c1 p2 c2)] [] [(16,false)] (zY [0]) ?_ ?_
       · refine Op<|Oq ?_<|Oq ?_<|O4<|O4<|O4<|O2<|On
         · intro I1 hf aa;refine yX [8] rfl<|pE 2 [(9,.bool (decide (ai<1)))] ?_;rw [hc];exact xD iR
         intro I1 hf aa;exact I_h [(9,vY)]<|pE 3 [(10,vY)]<|xD iR
       intro aO le;refine yX [1,2,3,24] rfl ?_;have H:=H.trans le;exact zX rfl<|yU<|zU (ct hM0 H)
      | false =>
       have hM01:=uU hc az;obtain ⟨y,hy,N⟩:=zB hM01;cases aH:(y != (e0.Kids.length:Int)) with
       | true =>
        have hM02:=tY aH N;refine wO [.p (vI ai) [],.q vF,.q vF,.p (vP b 0) [],.p (vI e0.Kind) [0],.q (vI y),.p (vP b 6) [],.p (vS p2 e0.Kids c2) [0],.p (vI (e0.Kids.length:Int)) [],.q vY,.q vY,.q vY,.p undef [],.p undef [],.p undef [],.p undef [],.p vY []] [[],[(0,false)],[(1,false)],[(2,false)],[(2,false),(3,false)],[(2,false),(4,false)],[(2,false)],[(2,false),(6,false)],[(2,false),(7,false)],[(2,false),(5,false),(8,false)],[(2,false),(9,false)],[(10,false)],[(11,false)],[(11,false)],[(11,false),(12,false),(13,false)],[(11,false),(14,false)],[(11,false),(15,false)]] [hB b (cExpr e0 p c p1 c1 p2 c2)] [] [(16,false)] (zY [0]) ?_ ?_
        · refine Op<|Oq ?_<|Oq ?_<|O2<|Oq ?_<|O3<|Oq ?_<|Oq ?_<|Oq ?_<|O4<|Op<|On
          · intro I1 hf aa;refine yX [8] rfl<|pE 2 [(9,.bool (decide (ai<1)))] ?_;rw [hc];exact xD iR
          · intro I1 hf aa;exact I_h [(9,vF)]<|pE 3 [(10,vF)]<|xD iR
          · intro I1 hf aa;refine yX [10,12] rfl ?_;have H:=iS I1;refine dP (zDy e0.Kind _ hy ) ?_;intro aV aa;have H:=H.trans aa;exact xD H
          · intro I1 hf aa;refine yX [10,13,16] rfl<|pE 10 [(17,.bool (y != (e0.Kids.length:Int)))] ?_;rw [aH];exact xD iR
          · intro I1 hf aa;exact yX [10,17] rfl<|pE 11 [(18,vY)]<|xD iR
          intro I1 hf aa;exact I_h [(18,vY)]<|pE 12 [(19,vY)]<|xD iR
        intro bx aA;refine yX [1,2,3,24] rfl ?_;have H:=H.trans aA;exact zX rfl<|yU<|zU (ct hM02 H)
       | false =>
        have hM03:=uU aH N;obtain ⟨y1,ay,N⟩:=zB hM03;refine wO [.p (vI ai) [],.q vF,.q vF,.p (vP b 0) [],.p (vI e0.Kind) [0],.q (vI y),.p (vP b 6) [],.p (vS p2 e0.Kids c2) [0],.p (vI (e0.Kids.length:Int)) [],.q vF,.q vF,.q vF,.p (vA (cExpr e0 p c p1 c1 p2 c2)) [0],.p (vI depth) [],.q (.bool y1),.p (.bool (!y1)) [],.p (.bool (!y1)) []] [[],[(0,false)],[(1,false)],[(2,false)],[(2,false),(3,false)],[(2,false),(4,false)],[(2,false)],[(2,false),(6,false)],[(2,false),(7,false)],[(2,false),(5,false),(8,false)],[(2,false),(9,false)],[(10,false)],[(11,false)],[(11,false)],[(11,false),(12,false),(13,false)],[(11,false),(14,false)],[(11,false),(15,false)]] [hB b (cExpr e0 p c p1 c1 p2 c2)] [] [(16,false)] (zY [0]) ?_ ?_
        · refine Op<|Oq ?_<|Oq ?_<|O2<|Oq ?_<|O3<|Oq ?_<|Oq ?_<|Oq ?_<|O2<|Oq ?_<|O2<|On
          · intro I1 hf aa;refine yX [8] rfl<|pE 2 [(9,.bool (decide (ai<1)))] ?_;rw [hc];exact xD iR
          · intro I1 hf aa;exact I_h [(9,vF)]<|pE 3 [(10,vF)]<|xD iR
          · intro I1 hf aa;refine yX [10,12] rfl ?_;have H:=iS I1;refine dP (zDy e0.Kind _ hy ) ?_;intro aV aa;have H:=H.trans aa;exact xD H
          · intro I1 hf aa;refine yX [10,13,16] rfl<|pE 10 [(17,.bool (y != (e0.Kids.length:Int)))] ?_;rw [aH];exact xD iR
          · intro I1 hf aa;exact yX [10,17] rfl<|pE 11 [(18,vF)]<|xD iR
          · intro I1 hf aa;exact I_h [(18,vF)]<|pE 12 [(19,vF)]<|xD iR
          intro I1 hf aa;refine yX [19,20,21] rfl ?_;have H:=iS I1;have ⟨h,h1,h2⟩:=m3 aa h h1 h2;refine tH (zJP e0 depth _ ay h h1 h2) ?_;intro bD aK;have H:=H.trans aK;exact xD H
        intro bI aX;refine yX [1,2,3,24] rfl ?_;have H:=H.trans aX;exact zX rfl<|yU<|zU (ct N H)
    intro t24 I0 bf aT;have ⟨h,h1,h2⟩:=m3 bf h h1 h2;refine zK<|yG aT ?_ ?_
    · intro aY N;refine wT [(6,vF)]<|xF<|zJ ?_;obtain rfl:=zD N;exact vV
    intro aY N;refine zS<|zZ<|yH [7] rfl<|wI<|qR [(1,vI depth),(2,vI ai),(3,vP b 0),(7,vI 0)] ?_;obtain ⟨aN,aC,aF⟩:=zB N;refine ih_spec_l3Shape_l1 e0 depth ai 0 aN aC iR h h1 h2 nG nO ?_ ?_
    · intro I07  heq1 le7;subst aN;refine zR<|zD7 [(6,vY)]<|zK<|xA ?_;obtain rfl:=zD aF;exact vV
    intro r0 I9 hs9 m9 aS le9 aU;subst aS;refine zV<|zJ ?_;obtain rfl:=zD aF;exact fO aU
  intro F_spec_l3Shape F_spec_l3Shape_l1 ih_spec_l3Shape ih_spec_l3Shape_l1 e0 depth ai i o N B I0 I Q p c p1 c1 p2 c2 b H h h1 h2 hg ho hx hr;refine yQ hg ho<|yA<|yB<|yK [0] [29] rfl<|zK<|yG N ?_ ?_
  · intro bC N;refine zS<|zZ<|yF<|yB<|yE 3 [0] [33,34] rfl<|bE N fun x aG N=>xR rfl rfl h2 aG ?_;intro ad aL al aj;obtain ⟨p3,c3,p4,c4,p5,c5,rfl,h5,h6,h7⟩:=wQ aj;refine xH 0 al (cExpr x p3 c3 p4 c4 p5 c5) (vA (cExpr x p3 c3 p4 c4 p5 c5)) rfl<|yE 8 [] [37,39] rfl<|bE N fun y2 bc N=>xE (ih_spec_l3Shape x depth (W (ai - 1)) _ bc h5 h6 h7) ?_;rintro I06 aw v2 k2 bt - ⟨v05,rfl,rfl,rfl⟩ -;have ⟨h,h1,h2,H⟩:=m4 bt h h1 h2 H;refine yK [] [41] rfl<|zK<|yG N ?_ ?_
    · intro bJ N;exact wT [(6,vF)]<|xF<|zV<|zJ<|zJ<|hr _ _ _ _ (zD N).symm H ⟨_,_,(resT rfl),zP,⟨_,rfl,rfl,rfl⟩⟩
    intro bJ N;exact zS<|zO<|zK<|zM<|yK [] [7] rfl<|yP<|oT<|ih_spec_l3Shape_l1 e0 depth ai (W (i+1)) _ N H h h1 h2 hg ho hx hr
  intro bC N;exact wP<|wF zP<|yU<|hx _  (zD N).symm H
theorem zHa:∀ e0 depth ai r,rH e0 depth ai=some r->∀ {I:Imm}{p c p1 c1 p2 c2},(S4 I p e0.Index.Coefs c)->(S4 I p1 e0.Read.Subs c1)->(S4 I p2 e0.Kids c2)->RT 128 [vA (cExpr e0 p c p1 c1 p2 c2),vI depth,vI ai] I [] (zT  r):=zGt.1
mutual
def qH (e0:zH) (ai:Int):Option (Int):=do
 let n01<-tE (same e0) (same ai) (same 1) (same 0);pure (id n01)
 partial_fixpoint
def tE (e0:zH) (ai:Int) (n0:Int) (i:Int):Option (Int):=do
 let t15<-(do
   if (decide (i<(e0.Kids.length:Int))) then pure (decide (ai>0))
   else
    pure false
     : Option Bool)
 if t15 then
  let x<-idx e0.Kids i;let y<-qH (same x) (W (ai - 1));tE (same e0) (same ai) (W (n0+y)) (W (i+1))
 else pure (id n0)
 partial_fixpoint
end
theorem zGu:(∀ (e0:zH) (ai:Int) r,qH e0 ai=some r->∀ {I:Imm}{p c p1 c1 p2 c2},(S4 I p e0.Index.Coefs c)->(S4 I p1 e0.Read.Subs c1)->(S4 I p2 e0.Kids c2)->RT 129 [vA (cExpr e0 p c p1 c1 p2 c2),vI ai] I [] (xL  r))/\(∀ (e0:zH) (ai:Int) (n0:Int) (i:Int) o,tE e0 ai n0 i=some o->∀ {B}{I0 I:Imm}{Q p c p1 c1 p2 c2}{b},I0.le I->(S4 I p e0.Index.Coefs c)->(S4 I p1 e0.Read.Subs c1)->(S4 I p2 e0.Kids c2)->NG Q->NO Q->(∀ I' n01,o=n01->I0.le I'->T 29 B Q (.exit 0) I' [] [(5,vI n01)])->J Tryz.prog 29 B (nav (bodyOf f129) [1,1,0,1,0]) Q I [hB b (cExpr e0 p c p1 c1 p2 c2)] [(1,vI ai),(2,vP b 0),(5,vI n0),(6,vI i)]):=by
  refine qH.mutual_partial_correctness _ _ ?_ ?_
  · intro F_spec_l3Count_l1 ih_spec_l3Count_l1 e0 ai r N I p c p1 c1 p2 c2 h h1 h2;refine yI func129 fun B=>yB<|vJ (cExpr e0 p c p1 c1 p2 c2) ?_;intro b hb;refine wR [] []<|vW [5] rfl<|zZ<|yH [6] rfl<|wI<|qR [(1,vI ai),(2,vP b 0),(5,vI 1),(6,vI 0)] ?_;obtain ⟨aN,aC,aF⟩:=zB N;refine ih_spec_l3Count_l1 e0 ai 1 0 aN aC iR h h1 h2 nG nO ?_;intro aV n01 heq1 aA;subst aN;refine zR<|vW [4] rfl<|zK<|xA ?_;obtain rfl:=zD aF;exact vV
  intro F_spec_l3Count F_spec_l3Count_l1 ih_spec_l3Count ih_spec_l3Count_l1 e0 ai n0 i o N B I0 I Q p c p1 c1 p2 c2 b H h h1 h2 hg ho hx;refine yQ hg ho<|yA<|yA ?_;refine wZ N [hB b (cExpr e0 p c p1 c1 p2 c2)] (fun t15=>[(1,vI ai),(2,vP b 0),(5,vI n0),(6,vI i),(15,.bool t15)]) (fun o0 az=>?_) ?_
  · have H:=iS I;refine zM<|yE 6 [0] [12] rfl<|wL [12] az ?_ ?_
    · intro hc N;exact yK [] [15] rfl<|yU<|zU (ct N H)
    intro hc N;exact wR [] [(15,vF)]<|yU<|zU (ct N H)
  intro t15 I0 le aT;have ⟨h,h1,h2,H⟩:=m4 le h h1 h2 H;refine zK<|yG aT ?_ ?_
  · intro aH N;refine zS<|zZ<|yF<|zM<|yE 4 [0] [18,20,21] rfl<|bE N fun x hy N=>xR rfl rfl h2 hy ?_;intro ad aL al aj;obtain ⟨p3,c3,p4,c4,p5,c5,rfl,h3,h4,h5⟩:=wQ aj;refine xH 0 al (cExpr x p3 c3 p4 c4 p5 c5) (vA (cExpr x p3 c3 p4 c4 p5 c5)) rfl<|yE 8 [] [25] rfl<|bE N fun y ay N=>xE (ih_spec_l3Count x (W (ai - 1)) _ ay h3 h4 h5) ?_;rintro aO aw v2 k2 aa - ⟨v03,rfl,rfl,rfl⟩ -;have ⟨h,h1,h2,H⟩:=m4 aa h h1 h2 H;exact yK [] [5] rfl<|zO<|zK<|zM<|yK [] [6] rfl<|yP<|oT<|ih_spec_l3Count_l1 e0 ai (W (n0+y)) (W (i+1)) _ N H h h1 h2 hg ho hx
  intro aH N;exact wP<|wF zP<|yU<|hx _ _ (zD N).symm H
theorem zHb:∀ e0 ai r,qH e0 ai=some r->∀ {I:Imm}{p c p1 c1 p2 c2},(S4 I p e0.Index.Coefs c)->(S4 I p1 e0.Read.Subs c1)->(S4 I p2 e0.Kids c2)->RT 129 [vA (cExpr e0 p c p1 c1 p2 c2),vI ai] I [] (xL  r):=zGu.1
def qW (s:zL) (depth:Int):Option (Bool):=do
 let t24<-(do
   if (decide (depth<0)) then pure true
   else
    if (decide (depth>4)) then pure true
    else
     let y<-mC s.Write depth;if (!y) then pure true
     else
      let y1<-rH s.Value depth 5;pure (!y1)
     : Option Bool)
 if t24 then pure false
 else
  let y2<-qH s.Value 5;pure (decide (y2<=12))
theorem zAg:∀ s depth r,qW s depth=some r->∀ {I:Imm}{p c p1 c1 p2 c2 p3 c3},(S4 I p s.Write.Subs c)->(S4 I p1 s.Value.Index.Coefs c1)->(S4 I p2 s.Value.Read.Subs c2)->(S4 I p3 s.Value.Kids c3)->RT 89 [vA (cStmt s p c p1 c1 p2 c2 p3 c3),vI depth] I [] (zT  r):=by
 intro s depth r N I p c p1 c1 p2 c2 p3 c3 h h1 h2 h3;unfold qW at N;refine yI func89 fun B=>?_;have H:=iS I;refine yB<|vJ (cStmt s p c p1 c1 p2 c2 p3 c3) ?_;intro b hb;refine wR [] []<|zZ<|yA ?_;refine wZ N [hB b (cStmt s p c p1 c1 p2 c2 p3 c3)] (fun t24=>[(2,vP b 0),(24,.bool t24)]) (fun o0 az=>?_) ?_
 · have H:=iS I;refine zM<|yE 3 [] [7] rfl<|wL [7] az ?_ ?_
   · intro hc N;exact wR [] [(24,vY)]<|yU<|zU (ct N H)
   intro hc N;refine yE 7 [] [11] rfl<|wL [11] N ?_ ?_
   · intro aH N;exact wR [] [(24,vY)]<|yU<|zU (ct N H)
   intro aH N;refine tL 10 [0] [(13,vA (cAccess s.Write p c)),(14,vI depth)]<|bE N fun y hy N=>tH (zCc s.Write depth _ hy h) ?_;intro aO le;have ⟨h1,h2,h3,H⟩:=m4 le h1 h2 h3 H;refine yE 14 [] [18] rfl<|wL [18] N ?_ ?_
   · intro aY N;exact wR [] [(24,vY)]<|yU<|zU (ct N H)
   intro aY N;refine tL 17 [0] [(20,vA (cExpr s.Value p1 c1 p2 c2 p3 c3)),(21,vI depth)]<|bE N fun y1 ay N=>tH (zHa s.Value depth 5 _ ay h1 h2 h3) ?_;intro aV aa;have H:=H.trans aa;exact yK [] [24] rfl<|yU<|zU (ct N H)
 intro t24 I0 aA aT;have ⟨h1,h2,h3⟩:=m3 aA h1 h2 h3;refine zK<|yG aT ?_ ?_
 · intro bC N;refine wT [(4,vF)]<|xF<|zJ ?_;obtain rfl:=zD N;exact vV
 intro bC N;refine zS<|yW<|tL 2 [0] [(26,vA (cExpr s.Value p1 c1 p2 c2 p3 c3))]<|bE N fun y2 aG N=>dP (zHb s.Value 5 _ aG h1 h2 h3) fun bx aK=>wR [] [(4,.bool (decide (y2<=12)))]<|zK<|xA ?_;obtain rfl:=zD N;exact vV
def qI (list:(List zA)) (out:Str) (i:Int):Option (Str):=do
 if (decide (i<(list.length:Int))) then
  let ap<-(do
    if (decide (i>0)) then
     let s<-cat out (⟨[44]⟩:Str);pure (id s)
    else
     pure (id out)
      : Option Str)
  let x<-idx list i;let y<-fC x;let s1<-cat ap y;qI list s1 (W (i+1))
 else pure (id out)
 partial_fixpoint
theorem zD9 (list:(List zA)):∀ (out:Str) (i:Int) (o:Str),qI list out i=some o->∀ {B}{I0 I:Imm}{Q p c},I0.le I->(S4 I p list c)->NG Q->NO Q->(∀ I' ah,o=ah->I0.le I'->T 23 B Q (.exit 0) I' [] [(3,vT ah.l)])->J Tryz.prog 23 B (nav (bodyOf f192) [1,1,0,1,0]) Q I [] [(0,vS p list c),(3,vT out.l),(4,vI i)]:=by
 refine qI.partial_correctness list _ fun aE ih out i o N B I0 I Q p c H h hg ho hx=>yQ hg ho<|yA<|yH [8] rfl<|zK<|yG N ?_ ?_
 · intro hc N;refine zS<|zZ<|yF<|yA<|yH [12] rfl<|zK ?_;refine wZ N [] (fun ap=>[(0,vS p list c),(3,vT ap.l),(4,vI i)]) (fun o0 az=>?_) ?_
   · have H:=iS I;refine yG az ?_ ?_
     · intro aH N;exact zM<|yE 1 [] [13] rfl<|bE N fun s hy N=>fP rfl hy<|yK [] [3] rfl<|yU<|zU (ct N H)
     intro aH N;exact zS<|yU<|zU (ct N H)
   intro ap I0 le aT;have ⟨h,H⟩:=m2 le h H;refine zK<|zM<|yE 3 [] [15,16,17] rfl ?_;obtain ⟨x,ay,N⟩:=zB aT;refine xR rfl rfl h ay ?_;intro ad aL al aj;obtain ⟨p1,c1,rfl,h1⟩:=yD aj;refine xH 0 al (cAff x p1 c1) (vA (cAff x p1 c1)) rfl<|bE N fun y aG N=>xE (zB9 x _ aG h1) ?_;rintro aO aw v2 k2 aa - ⟨v01,rfl,rfl,rfl⟩ -;have ⟨h,H⟩:=m2 aa h H;obtain ⟨s1,bc,N⟩:=zB N;exact fP rfl bc<|yK [] [3] rfl<|zO<|zK<|zM<|yK [] [4] rfl<|yP<|oT<|ih s1 (W (i+1)) _ N H h hg ho hx
 intro hc N;exact wP<|yU<|hx _ _ (zD N).symm H
def nD (list:(List zA)):Option (Str):=do
 let ah<-qI list (⟨[]⟩:Str) 0;pure (id ah)
theorem zA9:∀ list r,nD list=some r->∀ {I:Imm}{p c},(S4 I p list c)->RT 192 [vS p list c] I [] (rM  r):=by
 intro list r N I p c h;unfold nD at N;refine yI func192 fun B=>wT []<|vW [3] rfl<|zZ<|yH [4] rfl<|wI<|qR [(0,vS p list c),(3,vT ([])),(4,vI 0)] ?_;obtain ⟨aN,aC,aF⟩:=zB N;refine zD9 list (⟨[]⟩:Str) 0 aN aC iR h nG nO ?_;intro aV ah heq1 aA;subst aN;refine zR<|vW [2] rfl<|zK<|xA ?_;obtain rfl:=zD aF;exact vV
def pF (a0:zG):Option (Str):=do
 let s<-cat a0.Array (⟨[91]⟩:Str);let y<-nD a0.Subs;let s1<-cat s y;let s2<-cat s1 (⟨[93]⟩:Str);pure (id s2)
theorem dW:∀ a0 r,pF a0=some r->∀ {I:Imm}{p c},(S4 I p a0.Subs c)->RT 171 [vA (cAccess a0 p c)] I [] (rM  r):=by
 intro a0 r N I p c h;unfold pF at N;refine yI func171 fun B=>?_;have H:=iS I;refine yB<|vJ (cAccess a0 p c) ?_;intro b hb;refine wR [] []<|zK<|yA ?_;obtain ⟨s,hy,N⟩:=zB N;obtain ⟨y,ay,N⟩:=zB N;obtain ⟨s1,aG,N⟩:=zB N;obtain ⟨s2,bc,N⟩:=zB N;refine wO [.p (vP b 0) [],.p (vT a0.Array.l) [0],.q (vT s.l),.p (vP b 1) [],.p (vS p a0.Subs c) [0],.q (vT y.l),.q (vT s1.l),.q (vT s2.l)] [[],[(0,false)],[(1,false)],[],[(3,false)],[(4,false)],[(2,false),(5,false)],[(6,false)]] [hB b (cAccess a0 p c)] [] [(7,false)] (zY [0]) ?_ ?_
 · refine O2<|Oq ?_<|O2<|Oq ?_<|Oq ?_<|Oq ?_<|On
   · intro I1 hf aa;exact yX [4] rfl<|fP rfl hy<|xD iR
   · intro I1 hf aa;refine yX [7] rfl ?_;have H:=iS I1;have h:=h.mono aa;refine xE (zA9 a0.Subs _ ay h) ?_;rintro I0 aw v2 k2 le - ⟨v0,rfl,rfl,rfl⟩ -;have H:=H.trans le;exact xD H
   · intro I1 hf aa;exact yX [5,8] rfl<|fP rfl aG<|xD iR
   intro I1 hf aa;exact yX [9] rfl<|fP rfl bc<|xD iR
 intro aO aa;refine yX [10] rfl ?_;refine yK [] [2] rfl<|zK<|xA ?_;obtain rfl:=zD N;exact vV
def pX (e0:zH):Option (Str):=do
 if (e0.Kind==1) then
  let y<-pW e0.Num;pure (id y)
 else
  if (e0.Kind==2) then
   let y1<-fC e0.Index;let s<-cat (⟨[123]⟩:Str) y1;let s1<-cat s (⟨[125]⟩:Str);pure (id s1)
  else
   if (e0.Kind==3) then
    let y2<-pF e0.Read;pure (id y2)
   else
    let x<-idx e0.Kids 0;let y3<-pX (same x);let s2<-cat (⟨[40]⟩:Str) y3;let s3<-sslc (⟨[43,45,42]⟩:Str) (W (e0.Kind - 4)) (W ((W (e0.Kind - 4))+1));let s4<-cat s2 s3;let x1<-idx e0.Kids 1;let y4<-pX (same x1);let s5<-cat s4 y4;let s6<-cat s5 (⟨[41]⟩:Str);pure (id s6)
 partial_fixpoint
theorem zDz:∀ e0 r,pX e0=some r->∀ {I:Imm}{p c p1 c1 p2 c2},(S4 I p e0.Index.Coefs c)->(S4 I p1 e0.Read.Subs c1)->(S4 I p2 e0.Kids c2)->RT 172 [vA (cExpr e0 p c p1 c1 p2 c2)] I [] (rM  r):=by
 refine pX.partial_correctness _ fun F_spec_l3Text ih_spec_l3Text e0 r N I p c p1 c1 p2 c2 h h1 h2=>yI func172 fun B=>?_;have H:=iS I;refine yB<|vJ (cExpr e0 p c p1 c1 p2 c2) ?_;intro b hb;refine wR [] []<|zZ<|yB<|yK [0] [4] rfl<|wI<|yH [5] rfl<|zK<|yG N ?_ ?_
 · intro hc N;refine yB<|yE 2 [0] [8] rfl<|bE N fun y hy N=>xE (zAe e0.Num _ hy ) ?_;rintro I0 aw v2 k2 le - ⟨v0,rfl,rfl,rfl⟩ -;refine yK [] [2] rfl<|xF<|zV<|zJ ?_;obtain rfl:=zD N;exact vV
 intro hc N;refine yH [10] rfl<|zK<|yG N ?_ ?_
 · intro aH N;refine yB<|tL 2 [0] [(13,vA (cAff e0.Index p c))]<|bE N fun y1 ay N=>xE (zB9 e0.Index _ ay h) ?_;rintro aO aw v2 k2 aa - ⟨v01,rfl,rfl,rfl⟩ -;obtain ⟨s,aG,N⟩:=zB N;refine fP rfl aG<|bE N fun s1 bc N=>fP rfl bc<|yK [] [2] rfl<|xF<|zV<|zJ ?_;obtain rfl:=zD N;exact vV
 intro aH N;refine yH [17] rfl<|zK<|yG N ?_ ?_
 · intro aY N;refine yB<|tL 2 [0] [(20,vA (cAccess e0.Read p1 c1))]<|bE N fun y2 bu N=>xE (dW e0.Read _ bu h1) ?_;rintro aV aw v2 k2 aA - ⟨v02,rfl,rfl,rfl⟩ -;refine yK [] [2] rfl<|xF<|zV<|zJ ?_;obtain rfl:=zD N;exact vV
 intro aY N;refine zS<|zO<|zK<|yA ?_;obtain ⟨x,bz,N⟩:=zB N;obtain ⟨y3,hy6,N⟩:=zB N;obtain ⟨s2,hy7,N⟩:=zB N;obtain ⟨s3,hy8,N⟩:=zB N;obtain ⟨s4,hy9,N⟩:=zB N;obtain ⟨x1,hy10,N⟩:=zB N;obtain ⟨y4,hy11,N⟩:=zB N;obtain ⟨s5,hy12,N⟩:=zB N;obtain ⟨s6,hy13,N⟩:=zB N;refine wO [.p (vP b 6) [],.p (vS p2 e0.Kids c2) [0],.x (ePExpr x),.x (eVExpr x),.q (vT y3.l),.q (vT s2.l),.p (vP b 0) [],.p (vI e0.Kind) [0],.p (vI (W (e0.Kind - 4))) [],.p (vP b 0) [],.p (vI e0.Kind) [0],.p (vI (W (e0.Kind - 4))) [],.p (vI (W ((W (e0.Kind - 4))+1))) [],.q (vT s3.l),.q (vT s4.l),.p (vP b 6) [],.p (vS p2 e0.Kids c2) [0],.x (ePExpr x1),.x (eVExpr x1),.q (vT y4.l),.q (vT s5.l),.q (vT s6.l)] [[],[(0,false)],[(1,false)],[(2,false)],[(3,false)],[(4,false)],[],[(6,false)],[(7,false)],[],[(9,false)],[(10,false)],[(11,false)],[(8,false),(12,false)],[(5,false),(13,false)],[],[(15,false)],[(16,false)],[(17,false)],[(18,false)],[(14,false),(19,false)],[(20,false)]] [hB b (cExpr e0 p c p1 c1 p2 c2)] [] [(21,false)] (zY [0]) ?_ ?_
 · refine O2<|Ox ?_<|Ox ?_<|Oq ?_<|Oq ?_<|O4<|O3<|Oq ?_<|Oq ?_<|O2<|Ox ?_<|Ox ?_<|Oq ?_<|Oq ?_<|Oq ?_<|On
   · intro I1 hf aa;refine yX [23] rfl ?_;have h2:=h2.mono aa;refine xR rfl rfl h2 bz ?_;intro ad aL al aj;obtain ⟨p3,c3,p4,c4,p5,c5,rfl,h6,h7,h8⟩:=wQ aj;exact yL [] iR ⟨_,_,_,_,_,_,_,rfl,rfl,al,h6,h7,h8⟩
   · rintro I1 hf aa _ _ ⟨ad,p3,c3,p4,c4,p5,c5,rfl,rfl,al,h6,h7,h8⟩;exact yX [24] rfl<|xH 0 al (cExpr x p3 c3 p4 c4 p5 c5) (vA (cExpr x p3 c3 p4 c4 p5 c5)) rfl<|yL [] iR ⟨_,_,_,_,_,_,rfl,rfl,h6,h7,h8⟩
   · rintro I1 hf aa _ _ ⟨p31,c31,p41,c41,p51,c51,rfl,rfl,h61,h71,h81⟩;refine yX [25] rfl ?_;have H:=iS I1;refine xE (ih_spec_l3Text x _ hy6 h61 h71 h81) ?_;rintro bx aw v2 k2 aK - ⟨v06,rfl,rfl,rfl⟩ -;have H:=H.trans aK;exact xD H
   · intro I1 hf aa;exact yX [26] rfl<|fP rfl hy7<|xD iR
   · intro I1 hf aa;exact yX [30,34] rfl<|zJM rfl hy8<|xD iR
   · intro I1 hf aa;exact yX [27,35] rfl<|fP rfl hy9<|xD iR
   · intro I1 hf aa;refine yX [38] rfl ?_;have h2:=h2.mono aa;refine xR rfl rfl h2 hy10 ?_;intro ad1 bm au ax;obtain ⟨p6,c6,p7,c7,p8,c8,rfl,h10,h11,h12⟩:=wQ ax;exact yL [] iR ⟨_,_,_,_,_,_,_,rfl,rfl,au,h10,h11,h12⟩
   · rintro I1 hf aa _ _ ⟨ad1,p6,c6,p7,c7,p8,c8,rfl,rfl,au,h10,h11,h12⟩;exact yX [39] rfl<|xH 0 au (cExpr x1 p6 c6 p7 c7 p8 c8) (vA (cExpr x1 p6 c6 p7 c7 p8 c8)) rfl<|yL [] iR ⟨_,_,_,_,_,_,rfl,rfl,h10,h11,h12⟩
   · rintro I1 hf aa _ _ ⟨p61,c61,p71,c71,p81,c81,rfl,rfl,h101,h111,h121⟩;refine yX [40] rfl ?_;have H:=iS I1;refine xE (ih_spec_l3Text x1 _ hy11 h101 h111 h121) ?_;rintro bD aw v2 k2 aX - ⟨v010,rfl,rfl,rfl⟩ -;have H:=H.trans aX;exact xD H
   · intro I1 hf aa;exact yX [36,41] rfl<|fP rfl hy12<|xD iR
   intro I1 hf aa;exact yX [42] rfl<|fP rfl hy13<|xD iR
 intro bI bf;refine yX [43] rfl ?_;refine yK [] [2] rfl<|zK<|xA ?_;obtain rfl:=zD N;exact vV
def gR (s:zL):Option (Str):=do
 let y<-qW s 4;if (!y) then pure (⟨[]⟩:Str)
 else
  let y1<-pF s.Write;let s1<-cat y1 (⟨[61]⟩:Str);let y2<-pX s.Value;let s2<-cat s1 y2;pure (id s2)
theorem zFK:∀ s r,gR s=some r->∀ {I:Imm}{p c p1 c1 p2 c2 p3 c3},(S4 I p s.Write.Subs c)->(S4 I p1 s.Value.Index.Coefs c1)->(S4 I p2 s.Value.Read.Subs c2)->(S4 I p3 s.Value.Kids c3)->RT 191 [vA (cStmt s p c p1 c1 p2 c2 p3 c3)] I [] (rM  r):=by
 intro s r N I p c p1 c1 p2 c2 p3 c3 h h1 h2 h3;unfold gR at N;refine yI func191 fun B=>?_;have H:=iS I;refine yB<|vJ (cStmt s p c p1 c1 p2 c2 p3 c3) ?_;intro b hb;refine wR [] []<|zZ<|yB<|tL 1 [0] [(3,vA (cStmt s p c p1 c1 p2 c2 p3 c3))]<|bE N fun y hy N=>tH (zAg s 4 _ hy h h1 h2 h3) ?_;intro I0 le;have ⟨h,h1,h2,h3,H⟩:=m5 le h h1 h2 h3 H;refine yK [] [5] rfl<|zK<|yG N ?_ ?_
 · intro hc N;refine yH [2] rfl<|xF<|zJ ?_;obtain rfl:=zD N;exact vV
 intro hc N;refine zS<|zK<|yA ?_;obtain ⟨y1,ay,N⟩:=zB N;obtain ⟨s1,aG,N⟩:=zB N;obtain ⟨y2,bc,N⟩:=zB N;obtain ⟨s2,bu,N⟩:=zB N;refine wO [.p (vP b 0) [],.p (vA (cAccess s.Write p c)) [0],.q (vT y1.l),.q (vT s1.l),.p (vP b 2) [],.p (vA (cExpr s.Value p1 c1 p2 c2 p3 c3)) [0],.q (vT y2.l),.q (vT s2.l)] [[],[(0,false)],[(1,false)],[(2,false)],[],[(4,false)],[(5,false)],[(3,false),(6,false)]] [hB b (cStmt s p c p1 c1 p2 c2 p3 c3)] [] [(7,false)] (zY [0]) ?_ ?_
 · refine O2<|Oq ?_<|Oq ?_<|O2<|Oq ?_<|Oq ?_<|On
   · intro I1 hf aa;refine yX [7] rfl ?_;have H:=iS I1;have h:=h.mono aa;refine xE (dW s.Write _ ay h) ?_;rintro aO aw v2 k2 aa - ⟨v01,rfl,rfl,rfl⟩ -;have H:=H.trans aa;exact xD H
   · intro I1 hf aa;exact yX [8] rfl<|fP rfl aG<|xD iR
   · intro I1 hf aa;refine yX [11] rfl ?_;have H:=iS I1;have ⟨h1,h2,h3⟩:=m3 aa h1 h2 h3;refine xE (zDz s.Value _ bc h1 h2 h3) ?_;rintro aV aw v2 k2 aA - ⟨v02,rfl,rfl,rfl⟩ -;have H:=H.trans aA;exact xD H
   intro I1 hf aa;exact yX [9,12] rfl<|fP rfl bu<|xD iR
 intro bx aK;refine yX [13] rfl ?_;refine yK [] [2] rfl<|zK<|xA ?_;obtain rfl:=zD N;exact vV
def zE9 (r:zL×Bool):KT:=fun kk I' af v=>
  ∃ v0 v1,af=[]/\v=tupV [v0,v1]/\(∃ cs,v0=.agg ⟨cs⟩/\Rp.rep I' cs r.1)/\v1=.bool r.2
def jQ (bi:Str):Option (zL×Bool):=do
 if (decide ((bi.l.length:Int)<4)) then pure ((zL.mk (zG.mk (⟨[]⟩:Str) ([]:List zA)) (zH.mk 0 0 (zA.mk ([]:List Int) 0) (zG.mk (⟨[]⟩:Str) ([]:List zA)) ([]:List zH))),false)
 else
  let (y1,y2)<-oM bi 0;let t25<-(do
    if (decide (y2<0)) then pure true
    else
     pure (decide (y2>=(bi.l.length:Int)))
      : Option Bool)
  if t25 then pure ((zL.mk (zG.mk (⟨[]⟩:Str) ([]:List zA)) (zH.mk 0 0 (zA.mk ([]:List Int) 0) (zG.mk (⟨[]⟩:Str) ([]:List zA)) ([]:List zH))),false)
  else
   let (y4,y5)<-nA bi (W (y2+1)) 5;let y6<-gR (zL.mk y1 y4);if (!(y6.l==bi.l)) then pure ((zL.mk (zG.mk (⟨[]⟩:Str) ([]:List zA)) (zH.mk 0 0 (zA.mk ([]:List Int) 0) (zG.mk (⟨[]⟩:Str) ([]:List zA)) ([]:List zH))),false)
   else pure ((zL.mk y1 y4),true)
theorem zCF:∀ bi r,jQ bi=some r->∀ {I:Imm} ,RT 168 [vT bi.l] I [] (zE9  r):=by
 intro bi r N I;unfold jQ at N;refine yI func168 fun B=>?_;have H:=iS I;refine yB<|xU [vT ([]),z0,vI 0,vI 0,z0,vI 0,vT ([]),z0,z0] ?_;intro b hb;refine wR [] []<|zZ<|yH [11] rfl<|zK<|yG N ?_ ?_
 · intro hc N;refine yB<|yE 1 [] [12] rfl<|yY 0 [vT ([]),z0,vI 0,vI 0,z0,vI 0,vT ([]),z0,z0] rfl<|wR [] [(3,vF)]<|xF<|zJ ?_;exact xO N (resE 0 rfl rfl rfl) zP ⟨_,_,rfl,rfl,⟨_,rfl,(wC ⟨_,_,_,_,rfl,(SL.nil _),(SL.nil _),(SL.nil _),(SL.nil _)⟩)⟩,rfl⟩
 intro hc N;refine zS<|yW<|yE 1 [] [14] rfl ?_;obtain ⟨⟨y1,y2⟩,hy,N⟩:=zB N;refine xE (zAm bi 0 _ hy ) ?_;rintro I0 aw v2 k2 le - ⟨v0,v01,rfl,rfl,⟨cs,rfl,h⟩,rfl⟩ -;have H:=H.trans le;obtain ⟨p,c,rfl,h2⟩:=uK h;refine yE 5 [] [16,17] rfl<|xU [vT ([]),z0] ?_;intro b1 hb1;refine yY 0 (cAccess y1 p c) rfl<|yK [] [5] rfl<|zZ<|yA ?_;refine wZ N [hB b1 (cAccess y1 p c),hB b [vT ([]),z0,vI 0,vI 0,z0,vI 0,vT ([]),z0,z0]] (fun t25=>[(0,vT bi.l),(2,vP b 0),(4,vP b1 0),(5,vI y2),(25,.bool t25)]) (fun o0 az=>?_) ?_
 · have H:=iS I0;refine zM<|yE 3 [] [20] rfl<|wL [20] az ?_ ?_
   · intro aH N;exact wR [] [(25,vY)]<|yU<|zU (ct N H)
   intro aH N;exact yK [] [25] rfl<|yU<|zU (ct N H)
 intro t25 aO aa aT;have h2:=h2.mono aa;refine zK<|yG aT ?_ ?_
 · intro aY N;refine yB<|yE 1 [] [26] rfl<|yY 1 [vT ([]),z0,vI 0,vI 0,z0,vI 0,vT ([]),z0,z0] rfl<|wR [] [(3,vF)]<|xF<|zJ ?_;exact xO N (resE 1 rfl rfl rfl) zP ⟨_,_,rfl,rfl,⟨_,rfl,(wC ⟨_,_,_,_,rfl,(SL.nil _),(SL.nil _),(SL.nil _),(SL.nil _)⟩)⟩,rfl⟩
 intro aY N;refine zS<|yW<|yE 3 [] [28,30] rfl ?_;obtain ⟨⟨y4,y5⟩,ay,N⟩:=zB N;refine xE (zH9 bi (W (y2+1)) 5 _ ay ) ?_;rintro aV aw v2 k2 aA - ⟨v03,v04,rfl,rfl,⟨av,rfl,h3⟩,rfl⟩ -;have h2:=h2.mono aA;obtain ⟨p1,c1,p2,c2,p3,c3,rfl,h5,h6,h7⟩:=wQ h3;refine yE 7 [] [32,33] rfl<|xU zExpr ?_;intro b2 hb2;refine yY 0 (cExpr y4 p1 c1 p2 c2 p3 c3) rfl<|wR [] []<|yW<|tL 3 [1,0] [(36,vA [vT y1.Array.l,vS p y1.Subs c,vI y4.Kind,vI y4.Num,vS p1 y4.Index.Coefs c1,vI y4.Index.Const,vT y4.Read.Array.l,vS p2 y4.Read.Subs c2,vS p3 y4.Kids c3])]<|xU [vT ([]),z0,vI 0,vI 0,z0,vI 0,vT ([]),z0,z0] ?_;intro b3 hb3;refine yY 0 [vT y1.Array.l,vS p y1.Subs c,vI y4.Kind,vI y4.Num,vS p1 y4.Index.Coefs c1,vI y4.Index.Const,vT y4.Read.Array.l,vS p2 y4.Read.Subs c2,vS p3 y4.Kids c3] rfl<|zX rfl<|zZ<|yB<|tL 1 [0] [(37,vA [vT y1.Array.l,vS p y1.Subs c,vI y4.Kind,vI y4.Num,vS p1 y4.Index.Coefs c1,vI y4.Index.Const,vT y4.Read.Array.l,vS p2 y4.Read.Subs c2,vS p3 y4.Kids c3])]<|bE N fun y6 aG N=>xE (zFK (zL.mk y1 y4) _ aG h2 h5 h6 h7) ?_;rintro bx aw v2 k2 aK - ⟨v08,rfl,rfl,rfl⟩ -;have ⟨h2,h5,h6,h7⟩:=m4 aK h2 h5 h6 h7;refine yK [] [40] rfl<|zK<|yG N ?_ ?_
 · intro bC N;refine yB<|yE 1 [] [41] rfl<|yY 3 [vT ([]),z0,vI 0,vI 0,z0,vI 0,vT ([]),z0,z0] rfl<|wR [] [(3,vF)]<|xF<|zJ ?_;exact xO N (resE 3 rfl rfl rfl) zP ⟨_,_,rfl,rfl,⟨_,rfl,(wC ⟨_,_,_,_,rfl,(SL.nil _),(SL.nil _),(SL.nil _),(SL.nil _)⟩)⟩,rfl⟩
 intro bC N;refine zS<|yW<|tL 1 [0] [(42,vA [vT y1.Array.l,vS p y1.Subs c,vI y4.Kind,vI y4.Num,vS p1 y4.Index.Coefs c1,vI y4.Index.Const,vT y4.Read.Array.l,vS p2 y4.Read.Subs c2,vS p3 y4.Kids c3])]<|yY 3 [vT y1.Array.l,vS p y1.Subs c,vI y4.Kind,vI y4.Num,vS p1 y4.Index.Coefs c1,vI y4.Index.Const,vT y4.Read.Array.l,vS p2 y4.Read.Subs c2,vS p3 y4.Kids c3] rfl<|wR [] [(3,vY)]<|zK<|xA ?_;exact xO N (resE 3 rfl rfl rfl) zP ⟨_,_,rfl,rfl,⟨_,rfl,(wC ⟨_,_,_,_,rfl,h2,h5,h6,h7⟩)⟩,rfl⟩
def zGv (r:zC):KT:=fun kk I' af v=>
  ∃ (a0:Option Addr) (c0:Nat) (s0:List Value) (a1:Option Addr) (c1:Nat) (s1:List Value) (ak:List Raw2) (vN vB:Value) (nl:List zF) (bl:List zL) (csN csB:List Value),
    af=[hO zE (vS a0 r.Arrays c0) s0,hO Raw2 (vS a1 ak c1) s1,hO zF vN csN,hO zL vB csB]/\v=tupV [vA [vS a0 r.Arrays c0,vS a1 ak c1]]/\L4 I' s0 r.Arrays s1 ak r.Parts vN nl vB bl csN csB
def zAV (p:zC) (line:Str):Option (zC):=do
 let y<-gH line;let t17<-(do
   if (decide ((y.length:Int)>0)) then
    let x<-idx y 0;pure (x.l==([97,114,114,97,121]:List UInt8))
   else
    pure false
     : Option Bool)
 if t17 then
  let y1<-dS y;let l<-app 40 p.Arrays ([y1]:List zE);pure (zC.mk l p.Parts)
 else
  if (line.l==([112,97,114,116]:List UInt8)) then
   let l1<-app 48 p.Parts ([(zI.mk ([]:List zF) ([]:List zL))]:List zI);pure (zC.mk p.Arrays l1)
  else
   let t43<-(do
     if (decide ((W ((p.Parts.length:Int) - 1))>=0)) then
      if (decide ((y.length:Int)>0)) then
       let x1<-idx y 0;pure (x1.l==([102,111,114]:List UInt8))
      else pure false
     else
      pure false
       : Option Bool)
   if t43 then
    let x2<-idx p.Parts (W ((p.Parts.length:Int) - 1));let y2<-zAU line;let l2<-app 48 x2.Nest ([y2]:List zF);pure (zC.mk p.Arrays (p.Parts.set (W ((p.Parts.length:Int) - 1)).toNat (zI.mk l2 x2.Body)))
   else
    if (decide ((W ((p.Parts.length:Int) - 1))>=0)) then
     let x4<-idx p.Parts (W ((p.Parts.length:Int) - 1));let (y4,y5)<-jQ line;let l3<-app 152 x4.Body ([y4]:List zL);pure (zC.mk p.Arrays (p.Parts.set (W ((p.Parts.length:Int) - 1)).toNat (zI.mk x4.Nest l3)))
    else pure (id p)
theorem zI1:∀ p line r,zAV p line=some r->∀ {I:Imm}{p1 c cs p2 c1 av}{ak:List Raw2}{vN vB:Value}{nl:List zF}{bl:List zL}{csN csB:List Value},
    L4 I cs p.Arrays av ak p.Parts vN nl vB bl csN csB->RT 134 [vA [vS p1 p.Arrays c,vS p2 ak c1],vT line.l] I [hO zE (vS p1 p.Arrays c) cs,hO Raw2 (vS p2 ak c1) av,hO zF vN csN,hO zL vB csB] (zGv r):=by
 intro p line r N I p1 c cs p2 c1 av ak vN vB nl bl csN csB hQ
 unfold zAV at N
 simp only [hQ.lp.len] at N
 refine yI func134 fun B=>yB<|vJ [vS p1 p.Arrays c,vS p2 ak c1] ?_
 intro b hb
 refine xU zTwo ?_
 intro b1 hb1
 refine zX rfl<|yW<|yE 1 [] [11] rfl ?_
 obtain ⟨y,hy,N⟩:=zB N
 refine xE (zC8 line _ hy ) ?_
 rintro I0 aw v2 k2 le - ⟨v0,rfl,rfl,h2⟩ -
 have hQ:=hQ.mono le
 obtain ⟨p3,c2,rfl⟩:=h2.form
 refine yK [] [5] rfl<|yW<|yK [1] [6] rfl<|zZ<|yF<|yA ?_
 obtain ⟨o0,az,N⟩:=zB N
 refine oW (K1 o0 I0 [hB b1 zTwo,hB b [vS p1 p.Arrays c,vS p2 ak c1],hO zE (vS p1 p.Arrays c) cs,hO Raw2 (vS p2 ak c1) av,hO zF vN csN,hO zL vB csB] fun t17=>[(1,vT line.l),(2,vP b 0),(4,vP b1 0),(5,vS p3 y c2),(6,vI (W ((ak.length:Int) - 1))),(17,.bool t17)]) ?_ ?_
 · refine zM<|yE 4 [] [21] rfl ?_
   cases hc:(decide ((y.length:Int)>0)) with
   | true =>
    have hM0:=tY hc az
    refine yE 5 [] [22] rfl ?_
    obtain ⟨x,ay,N⟩:=zB hM0
    refine xR rfl rfl h2 ay ?_
    intro ad aL al aj
    obtain rfl:=aj
    exact xH 0 al [vT x.l] (vT x.l) rfl<|yK [] [17] rfl<|yU<|zU ⟨_,(zD N).symm,Imm.le.refl _,rfl,rfl⟩
   | false =>
    have hM01:=uU hc az
    exact wR [] [(17,vF)]<|yU<|zU ⟨_,(zD hM01).symm,Imm.le.refl _,rfl,rfl⟩
 rintro aO aw m2 ⟨t17,heq,aa,rfl,rfl⟩
 subst o0
 have h2:=h2.mono aa
 have hQ:=hQ.mono aa
 refine zK<|yG N ?_ ?_
 · intro aH N
   obtain ⟨y1,aG,N⟩:=zB N
   obtain ⟨l,bc,N⟩:=zB N
   refine wO [.p (vP b 0) [],.p (vS p1 p.Arrays c) [1],.p (vS p3 y c2) [],.x (eVArr y1),.x (fun I' v hx=>∃ b2,v=vS (some ⟨b2,0,none⟩) ([y1]:List zE) 1/\hx=[]/\(SL I' (vS (some ⟨b2,0,none⟩) ([y1]:List zE) 1) ([y1]:List zE))),.x (fun I' v hx=>∃ p5 c4 aI,v=vS p5 l c4/\hx=[hO zE (vS p5 l c4) aI]/\(RL I' aI l))] [[],[(0,false)],[],[(2,false)],[(3,false)],[(1,false),(4,false),(8,true)]] [hB b1 zTwo,hB b [vS p1 p.Arrays c,vS p2 ak c1],hO Raw2 (vS p2 ak c1) av,hO zF vN csN,hO zL vB csB] [[hO zE (vS p1 p.Arrays c) cs]] [(5,true)] (zY [0,1,3,4,5,2]) ?_ ?_
   · refine O3<|Ox ?_<|Ox ?_<|Ox ?_<|On
     · intro I1 hf aa
       refine yX [29] rfl<|xE (zH7 y _ aG (h2.mono aa)) ?_
       rintro aV aw v2 k2 aA - ⟨v01,rfl,rfl,⟨aP,rfl,h3⟩⟩ -
       obtain ⟨v02,rfl,h4⟩:=zD3 h3
       obtain ⟨p4,c3,rfl⟩:=h4.form
       exact yL [] aA ⟨_,_,rfl,rfl,h4⟩
     · intro I1 hf aa
       refine wS ?_
       rintro _ _ ⟨p4,c3,rfl,rfl,h4⟩
       refine yX [30] rfl<|uV (cArr y1 p4 c3) zE ?_
       intro b2 hb2
       have h5:RL I1 (cArr y1 p4 c3) ([y1]:List zE):=⟨(cArr y1 p4 c3),_,rfl,rfl,(uI ⟨_,rfl,h4⟩),rfl⟩
       refine xX 0 rfl ?_
       intro bx aK hl0
       exact yL [] aK ⟨_,rfl,rfl,SL.of_frozen hl0 aK h5⟩
     intro I1 hf aa
     refine wS ?_
     rintro _ _ ⟨rfl,rfl⟩
     refine wS ?_
     rintro _ _ ⟨b2,rfl,rfl,h6⟩
     refine wS ?_
     rintro _ _ rfl
     refine yX [28,31] rfl ?_
     obtain ⟨bm,k0,k01⟩:=h6
     refine rF 60 2 0 rfl rfl rfl (hQ.mono aa).arr (.inl k0) k01 bc ?_
     intro p5 c4 aI h7
     exact wX (af:=(hO zE (vS p5 l c4) aI::(hB b1 zTwo::hB b [vS p1 p.Arrays c,vS p2 ak c1]::hO Raw2 (vS p2 ak c1) av::hO zF vN csN::hO zL vB csB::hf))) rfl<|yL [hO zE (vS p5 l c4) aI] iR ⟨_,_,_,rfl,rfl,h7⟩
   intro bD aX
   refine wS ?_
   rintro _ _ ⟨p5,c4,aI,rfl,rfl,h7⟩
   refine yX [2,4,32] rfl ?_
   have hQ:=hQ.mono aX
   refine yE 7 [] [33] rfl<|yY 2 [vS p5 l c4,vS p2 ak c1] rfl<|zX rfl<|zO<|yW<|tL 1 [2] [(98,vA [vS p5 l c4,vS p2 ak c1])]<|yY 1 [vS p5 l c4,vS p2 ak c1] rfl<|zX rfl<|zK<|xA ?_
   obtain rfl:=zD N
   exact zJO (resC 1 rfl rfl) (zW [0,3,4,5] rfl (by decide)) ⟨_,_,_,_,_,_,_,_,_,_,_,_,_,rfl,rfl,⟨h7,hQ.raw,hQ.lp,hQ.n,hQ.b⟩⟩
 intro aH N
 refine yH [34] rfl<|zK<|yG N ?_ ?_
 · intro aY N
   refine pD 4 rfl ?_
   intro bI bf hl5
   have kN:=SL.of_frozen hl5 bf hQ.n
   have hQ:=hQ.mono bf
   refine pD 4 rfl ?_
   intro I06 bt hl6
   have kB:=SL.of_frozen hl6 bt hQ.b
   replace kN:=kN.mono bt
   have hQ:=hQ.mono bt
   obtain ⟨l1,bu,N⟩:=zB N
   have bz:=zFq (l':=ak) (m':=[(⟨z0,z0⟩:Raw2)]) bu hQ.lp.2.1 rfl
   have hLP:=hQ.lp.part kN kB bu
   refine zM<|wX (af:=[hB b1 zTwo,hB b [vS p1 p.Arrays c,vS p2 ak c1],hO zE (vS p1 p.Arrays c) cs,hO Raw2 (vS p2 ak c1) av]) rfl<|tL 3 [1] [(38,vS p2 ak c1),(39,vA zTwo)]<|uV zTwo Raw2 ?_
   intro b3 hb3
   have h8:RL I06 zTwo [(⟨z0,z0⟩:Raw2)]:=⟨zTwo,[],rfl,rfl,⟨rfl,rfl,rfl⟩,rfl⟩
   refine rF 85 2 4 rfl rfl rfl hQ.raw (.inr ⟨0,rfl⟩) h8 bz ?_
   intro p6 c5 bo h9
   refine tX (zY [1,2,3,4] (af:=[hB b1 zTwo,hB b [vS p1 p.Arrays c,vS p2 ak c1],hO zE (vS p1 p.Arrays c) cs,hO Raw2 (vS p6 (ak++[(⟨z0,z0⟩:Raw2)]) c5) bo]))<|yE 6 [] [42] rfl<|yY 1 [vS p1 p.Arrays c,vS p6 (ak++[(⟨z0,z0⟩:Raw2)]) c5] rfl<|zX rfl<|zO<|yW<|tL 1 [1] [(98,vA [vS p1 p.Arrays c,vS p6 (ak++[(⟨z0,z0⟩:Raw2)]) c5])]<|yY 0 [vS p1 p.Arrays c,vS p6 (ak++[(⟨z0,z0⟩:Raw2)]) c5] rfl<|zX rfl<|xF<|wF (fN (Rp.sz zL))<|wF (fN (Rp.sz zF)) ?_
   obtain rfl:=zD N
   exact zJO (resC 2 rfl rfl) (zW [4,5,0,1] rfl (by decide)) ⟨_,_,_,_,_,_,_,_,_,_,_,_,_,rfl,rfl,⟨hQ.arr,h9,hLP,RepL.nil,RepL.nil⟩⟩
 intro aY N
 refine yA ?_
 obtain ⟨aN,aC,N⟩:=zB N
 refine oW (K1 aN aO [hB b1 zTwo,hB b [vS p1 p.Arrays c,vS p2 ak c1],hO zE (vS p1 p.Arrays c) cs,hO Raw2 (vS p2 ak c1) av,hO zF vN csN,hO zL vB csB] fun t43=>[(1,vT line.l),(2,vP b 0),(4,vP b1 0),(6,vI (W ((ak.length:Int) - 1))),(43,.bool t43)]) ?_ ?_
 · refine zM<|yE 3 [] [46] rfl ?_
   cases bC:(decide ((W ((ak.length:Int) - 1))>=0)) with
   | true =>
    have hM02:=tY bC aC
    refine yE 8 [] [51] rfl ?_
    cases bJ:(decide ((y.length:Int)>0)) with
    | true =>
     have hM03:=tY bJ hM02
     refine yE 9 [] [52] rfl ?_
     obtain ⟨x1,bz,N⟩:=zB hM03
     refine xR rfl rfl h2 bz ?_
     intro ad1 bK au ax
     obtain rfl:=ax
     exact xH 0 au [vT x1.l] (vT x1.l) rfl<|yK [] [43] rfl<|yU<|zU ⟨_,(zD N).symm,Imm.le.refl _,rfl,rfl⟩
    | false =>
     have hM04:=uU bJ hM02
     exact wR [] [(43,vF)]<|yU<|zU ⟨_,(zD hM04).symm,Imm.le.refl _,rfl,rfl⟩
   | false =>
    have hM05:=uU bC aC
    exact wR [] [(43,vF)]<|yU<|zU ⟨_,(zD hM05).symm,Imm.le.refl _,rfl,rfl⟩
 rintro bI aw m2 ⟨t43,heq1,bf,rfl,rfl⟩
 subst aN
 have hQ:=hQ.mono bf
 refine zK<|yG N ?_ ?_
 · intro hc5 N
   refine yB<|yE 3 [1] [58,59] rfl ?_
   obtain ⟨x2,hy6,N⟩:=zB N
   obtain ⟨rfl,hyr,hset⟩:=hQ.lp.last hy6
   refine mA 3 rfl rfl rfl hQ.raw hyr ?_
   intro ad2 ccs3 bk bG bq
   obtain ⟨rfl,o1,o2⟩:=bq
   refine zCR 3 0 bk bG [vN,vB] (vA [vN,vB]) rfl rfl<|xU zTwo ?_
   intro b4 hb4
   refine zPZ 0 [vN,vB] (hB b4 [vN,vB]::[hB b1 zTwo,hB b [vS p1 p.Arrays c,vS p2 ak c1],hO zE (vS p1 p.Arrays c) cs,hO Raw2 (vS p2 ak c1) av,hO zF vN csN,hO zL vB csB]) rfl rfl rfl rfl (by simp [Value.cells,o1,o2])<|zX rfl<|zK<|yA ?_
   obtain ⟨y2,hy7,N⟩:=zB N
   obtain ⟨l2,hy8,N⟩:=zB N
   refine wO [.p (vP b4 0) [],.p vN [0],.p (vT line.l) [],.x (eVLoop y2),.x (fun I' v hx=>∃ b5,v=vS (some ⟨b5,0,none⟩) ([y2]:List zF) 1/\hx=[]/\(SL I' (vS (some ⟨b5,0,none⟩) ([y2]:List zF) 1) ([y2]:List zF))),.x (fun I' v hx=>∃ aJ aM aI,v=vS aJ l2 aM/\hx=[hO zF (vS aJ l2 aM) aI]/\(RL I' aI l2))] [[],[(0,false)],[],[(2,false)],[(3,false)],[(1,false),(4,false),(8,true)]] [hB b4 [vN,vB],hB b1 zTwo,hB b [vS p1 p.Arrays c,vS p2 ak c1],hO zE (vS p1 p.Arrays c) cs,hO Raw2 (vS p2 ak c1) av,hO zL vB csB] [[hO zF vN csN]] [(5,true)] (zY [0,1,2,3,4,6,5]) ?_ ?_
   · refine O3<|Ox ?_<|Ox ?_<|Ox ?_<|On
     · intro I1 hf aa
       refine yX [64] rfl<|xE (zI0 line _ hy7 ) ?_
       rintro I06 aw v2 k2 bt - ⟨v05,rfl,rfl,⟨bv,rfl,h12⟩⟩ -
       obtain ⟨v06,v07,rfl,h13,h14⟩:=zDq h12
       obtain ⟨p9,c8,rfl⟩:=h13.form
       obtain ⟨aQ,c9,rfl⟩:=h14.form
       exact yL [] bt ⟨_,_,_,_,rfl,rfl,h13,h14⟩
     · intro I1 hf aa
       refine wS ?_
       rintro _ _ ⟨p9,c8,aQ,c9,rfl,rfl,h13,h14⟩
       refine yX [65] rfl<|uV (cLoop y2 p9 c8 aQ c9) zF ?_
       intro b5 hb5
       have h15:RL I1 (cLoop y2 p9 c8 aQ c9) ([y2]:List zF):=⟨(cLoop y2 p9 c8 aQ c9),_,rfl,rfl,(uJ ⟨_,_,rfl,h13,h14⟩),rfl⟩
       refine xX 0 rfl ?_
       intro I07 le7 hl01
       exact yL [] le7 ⟨_,rfl,rfl,SL.of_frozen hl01 le7 h15⟩
     intro I1 hf aa
     refine wS ?_
     rintro u _ ⟨hu,rfl⟩
     have hu:=hu.symm
     subst hu
     refine wS ?_
     rintro _ _ ⟨b5,rfl,rfl,h16⟩
     refine wS ?_
     rintro _ _ rfl
     refine yX [63,66] rfl ?_
     obtain ⟨ccs4,k0,k01⟩:=h16
     refine rF 130 2 0 rfl rfl rfl (hQ.mono aa).n (.inl k0) k01 hy8 ?_
     intro aJ aM aI h17
     exact wX (af:=(hO zF (vS aJ l2 aM) aI::(hB b4 [vN,vB]::hB b1 zTwo::hB b [vS p1 p.Arrays c,vS p2 ak c1]::hO zE (vS p1 p.Arrays c) cs::hO Raw2 (vS p2 ak c1) av::hO zL vB csB::hf))) rfl<|yL [hO zF (vS aJ l2 aM) aI] iR ⟨_,_,_,rfl,rfl,h17⟩
   intro I08 le8
   refine wS ?_
   rintro _ _ ⟨aJ,aM,aI,rfl,rfl,h17⟩
   refine yX [2,4,6,7,67] rfl ?_
   have hQ:=hQ.mono le8
   refine yE 7 [] [68] rfl<|yY 1 [vS aJ l2 aM,vB] rfl<|zX rfl<|zK<|zM<|tL 4 [3,1] [(70,vS p2 ak c1),(71,vI (W ((ak.length:Int) - 1))),(72,vA [vS aJ l2 aM,vB])]<|mA 5 rfl rfl rfl hQ.raw hyr ?_
   intro ad3 ccs5 hat3 hcc1 bB
   obtain ⟨rfl,-⟩:=bB
   refine fA (α:=Raw2) (c:=[vS aJ l2 aM,vB]) (x':=⟨vS aJ l2 aM,vB⟩) 5 0 rfl rfl rfl hat3 rfl rfl hcc1 (by kernel_rfl) (by kernel_rfl) (by simp [Value.cells,o2]; rfl) hQ.raw hyr (by kernel_rfl) ⟨rfl,rfl,o2⟩ ?_
   intro cs6 h19 hl02
   refine wX (af:=[hO zF (vS aJ l2 aM) aI,hB b4 [vS aJ l2 aM,vB],hB b1 zTwo,hB b [vS p1 p.Arrays c,vS p2 ak c1],hO zE (vS p1 p.Arrays c) cs,hO Raw2 (vS p2 ak c1) cs6,hO zL vB csB]) rfl<|zX rfl<|zO<|yW<|tL 1 [3] [(98,vA [vS p1 p.Arrays c,vS p2 ak c1])]<|yY 2 [vS p1 p.Arrays c,vS p2 ak c1] rfl<|zX rfl<|zK<|xA ?_
   obtain rfl:=zD N
   exact fO ⟨[vA [vS p1 p.Arrays c,vS p2 ak c1]],_,(resC 2 rfl rfl),(zW [4,5,0,6] rfl (by decide)),⟨p1,c,cs,p2,c1,cs6,ak.set (W ((ak.length:Int) - 1)).toNat ⟨vS aJ l2 aM,vB⟩,vS aJ l2 aM,vB,l2,bl,aI,csB,(by simp only [vS,hl02]),(by simp only [vS,hl02]),⟨hQ.arr,h19,(hset _ _ _ _).mono le8,h17,hQ.b⟩⟩⟩
 intro hc5 N
 refine yH [74] rfl<|zK<|yG N ?_ ?_
 · intro hc6 N
   refine yB<|yE 3 [1] [78,79] rfl ?_
   obtain ⟨x4,hy10,N⟩:=zB N
   obtain ⟨rfl,hyr,hset⟩:=hQ.lp.last hy10
   refine mA 3 rfl rfl rfl hQ.raw hyr ?_
   intro ad4 ccs5 hat4 hcc2 hrep4
   obtain ⟨rfl,o1,o2⟩:=hrep4
   refine zCR 3 0 hat4 hcc2 [vN,vB] (vA [vN,vB]) rfl rfl<|xU zTwo ?_
   intro b6 hb6
   refine zPZ 0 [vN,vB] (hB b6 [vN,vB]::[hB b1 zTwo,hB b [vS p1 p.Arrays c,vS p2 ak c1],hO zE (vS p1 p.Arrays c) cs,hO Raw2 (vS p2 ak c1) av,hO zF vN csN,hO zL vB csB]) rfl rfl rfl rfl (by simp [Value.cells,o1,o2])<|zX rfl<|yW<|tL 1 [] [(83,vT line.l)] ?_
   obtain ⟨⟨y4,y5⟩,hy11,N⟩:=zB N
   refine xE (zCF line _ hy11 ) ?_
   rintro I09 aw v2 k2 le9 - ⟨v012,v013,rfl,rfl,⟨cs7,rfl,h22⟩,rfl⟩ -
   have hQ:=hQ.mono le9
   obtain ⟨v014,v015,v016,v017,rfl,h24,h25,h26,h27⟩:=kR h22
   obtain ⟨p15,c14,rfl⟩:=h24.form
   obtain ⟨p16,c15,rfl⟩:=h25.form
   obtain ⟨p17,c16,rfl⟩:=h26.form
   obtain ⟨p18,c17,rfl⟩:=h27.form
   refine yE 5 [] [85,86] rfl<|xU [vT ([]),z0,vI 0,vI 0,z0,vI 0,vT ([]),z0,z0] ?_
   intro b7 hb7
   refine dE 0 (cStmt y4 p15 c14 p16 c15 p17 c16 p18 c17) (hB b7 (cStmt y4 p15 c14 p16 c15 p17 c16 p18 c17)::hB b6 [vN,vB]::[hB b1 zTwo,hB b [vS p1 p.Arrays c,vS p2 ak c1],hO zE (vS p1 p.Arrays c) cs,hO Raw2 (vS p2 ak c1) av,hO zF vN csN,hO zL vB csB]) rfl rfl rfl rfl<|wR [] []<|yW<|tL 3 [1,0] [(88,vB),(89,vA (cStmt y4 p15 c14 p16 c15 p17 c16 p18 c17))]<|uV (cStmt y4 p15 c14 p16 c15 p17 c16 p18 c17) zL ?_
   intro b8 hb8
   have h28:RL I09 (cStmt y4 p15 c14 p16 c15 p17 c16 p18 c17) ([y4]:List zL):=⟨(cStmt y4 p15 c14 p16 c15 p17 c16 p18 c17),_,rfl,rfl,(wC ⟨_,_,_,_,rfl,h24,h25,h26,h27⟩),rfl⟩
   obtain ⟨l3,hy12,N⟩:=zB N
   refine rF 74 9 8 rfl rfl rfl hQ.b (.inr ⟨0,rfl⟩) h28 hy12 ?_
   intro p19 c18 cs9 h29
   refine tX (zY [2,3,4,5,6,7,8] (af:=[hB b6 [vN,vB],hB b1 zTwo,hB b [vS p1 p.Arrays c,vS p2 ak c1],hO zE (vS p1 p.Arrays c) cs,hO Raw2 (vS p2 ak c1) av,hO zF vN csN,hO zL (vS p19 l3 c18) cs9]))<|yE 6 [] [92] rfl<|yY 0 [vN,vS p19 l3 c18] rfl<|zX rfl<|zK<|zM<|tL 4 [2,0] [(94,vS p2 ak c1),(95,vI (W ((ak.length:Int) - 1))),(96,vA [vN,vS p19 l3 c18])]<|mA 4 rfl rfl rfl hQ.raw hyr ?_
   intro ad5 ccs6 hat5 hcc3 hrep5
   obtain ⟨rfl,-⟩:=hrep5
   refine fA (α:=Raw2) (c:=[vN,vS p19 l3 c18]) (x':=⟨vN,vS p19 l3 c18⟩) 4 0 rfl rfl rfl hat5 rfl rfl hcc3 (by kernel_rfl) (by kernel_rfl) (by simp [Value.cells,o1]; rfl) hQ.raw hyr (by kernel_rfl) ⟨rfl,o1,rfl⟩ ?_
   intro cs8 h31 hl03
   refine wX (af:=[hB b6 [vN,vS p19 l3 c18],hB b1 zTwo,hB b [vS p1 p.Arrays c,vS p2 ak c1],hO zE (vS p1 p.Arrays c) cs,hO Raw2 (vS p2 ak c1) cs8,hO zF vN csN,hO zL (vS p19 l3 c18) cs9]) rfl<|zX rfl<|zO<|yW<|tL 1 [2] [(98,vA [vS p1 p.Arrays c,vS p2 ak c1])]<|yY 1 [vS p1 p.Arrays c,vS p2 ak c1] rfl<|zX rfl<|zK<|xA ?_
   obtain rfl:=zD N
   exact fO ⟨[vA [vS p1 p.Arrays c,vS p2 ak c1]],_,(resC 1 rfl rfl),(zW [3,4,5,6] rfl (by decide)),⟨p1,c,cs,p2,c1,cs8,ak.set (W ((ak.length:Int) - 1)).toNat ⟨vN,vS p19 l3 c18⟩,vN,vS p19 l3 c18,nl,l3,csN,cs9,(by simp only [vS,hl03]),(by simp only [vS,hl03]),⟨hQ.arr,h31,(hset _ _ _ _).mono le9,hQ.n,h29⟩⟩⟩
 intro hc6 N
 refine zS<|zO<|yW<|tL 1 [1] [(98,vA [vS p1 p.Arrays c,vS p2 ak c1])]<|yY 0 [vS p1 p.Arrays c,vS p2 ak c1] rfl<|zX rfl<|zK<|xA ?_
 obtain rfl:=zD N
 exact zJO (resC 0 rfl rfl) (zW [2,3,4,5] rfl (by decide)) ⟨_,_,_,_,_,_,_,_,_,_,_,_,_,rfl,rfl,hQ⟩
def uM (x:zE) (k0:Int):Option (Out Unit (Bool)):=do
 if (decide (k0<(x.Dims.length:Int))) then
  let t77<-(do
    let x2<-idx x.Dims k0;if (decide (x2<1)) then pure true
    else
     let x3<-idx x.Dims k0;pure (decide (x3>6))
      : Option Bool)
  if t77 then pure (.ret false)
  else uM x (W (k0+1))
 else pure (.done ())
 partial_fixpoint
theorem zEa (x:zE):∀ (k0:Int) (o:Out Unit (Bool)),uM x k0=some o->∀ {B}{I0 I:Imm}{Q}{list:(List zE)}{i:Int}{p c p1 c1}{b},I0.le I->(S4 I p list c)->(S4 I p1 x.Dims c1)->NG Q->NO Q->(∀ I',o=(.done ())->I0.le I'->T 81 B Q (.exit 2) I' [] [(0,vS p list c),(3,vI i)])->(∀ r I' af m',o=(.ret r)->I0.le I'->RS Tryz.prog f68 B (zT  r) I' af m'->T 81 B Q .ret I' af m')->J Tryz.prog 81 B (nav (bodyOf f68) [1,0,1,0,0,1,0,0,1,1,1,0]) Q I [hB b (cArr x p1 c1)] [(0,vS p list c),(3,vI i),(4,vP b 0),(5,vI k0)]:=by
 refine uM.partial_correctness x _ fun aE ih k0 o N B I0 I Q list i p c p1 c1 b H h h1 hg ho hx hr=>yQ hg ho<|yA<|yB<|yK [0] [61] rfl<|zK<|yG N ?_ ?_
 · intro hc9 N;refine zS<|zZ<|yF<|yA ?_;refine wZ N [hB b (cArr x p1 c1)] (fun t77=>[(0,vS p list c),(3,vI i),(4,vP b 0),(5,vI k0),(77,.bool t77)]) (fun aN aC=>?_) ?_
   · have H:=iS I;refine zM<|yE 3 [0] [65,66] rfl ?_;obtain ⟨x2,aG,N⟩:=zB aC;refine xR rfl rfl h1 aG ?_;intro ad2 bK bk bq;obtain rfl:=bq;refine xH 0 bk [vI x2] (vI x2) rfl<|yE 7 [] [70] rfl<|wL [70] N ?_ ?_
     · intro hc10 N;exact wR [] [(77,vY)]<|yU<|zU (ct N H)
     intro hc10 N;refine yE 10 [0] [72,73] rfl<|bE N fun x3 bc N=>xR rfl rfl h1 bc ?_;intro ad3 ccs3 hat3 bB;obtain rfl:=bB;exact xH 0 hat3 [vI x3] (vI x3) rfl<|yK [] [77] rfl<|yU<|zU (ct N H)
   intro t77 aO aa hMc1;have ⟨h,h1,H⟩:=m3 aa h h1 H;refine zK<|yG hMc1 ?_ ?_
   · intro hc11 N;exact wT [(2,vF)]<|xF<|zV<|zJ<|zJ<|hr _ _ _ _ (zD N).symm H ⟨_,_,(resT rfl),zP,⟨_,rfl,rfl,rfl⟩⟩
   intro hc11 N;exact zS<|zO<|zK<|zM<|yK [] [5] rfl<|yP<|oT<|ih (W (k0+1)) _ N H h h1 hg ho hx hr
 intro hc9 N;exact wP<|wF zP<|yU<|hx _  (zD N).symm H
def tO (list:(List zE)) (i:Int):Option (Out Unit (Bool)):=do
 if (decide (i<(list.length:Int))) then
  let x<-idx list i;let t56<-(do
    if ((x.Name.l.length:Int) != 1) then pure true
    else
     if (Op.bytesLess x.Name.l ([65]:List UInt8)) then pure true
     else
      if (!(Op.bytesLess x.Name.l ([68]:List UInt8)||x.Name.l==([68]:List UInt8))) then pure true
      else
       if (decide (i>0)) then
        let x1<-idx list (W (i - 1));if (!(Op.bytesLess x1.Name.l x.Name.l)) then pure true
        else
         if (decide ((x.Dims.length:Int)<1)) then pure true
         else pure (decide ((x.Dims.length:Int)>2))
       else
        if (decide ((x.Dims.length:Int)<1)) then pure true
        else pure (decide ((x.Dims.length:Int)>2))
      : Option Bool)
  if t56 then pure (.ret false)
  else
   match<-uM x 0 with
   | .ret r0=>pure (.ret r0)
   | .done _ =>
    tO list (W (i+1))
 else pure (.done ())
 partial_fixpoint
theorem zEb (list:(List zE)):∀ (i:Int) (o:Out Unit (Bool)),tO list i=some o->∀ {B}{I0 I:Imm}{Q p c},I0.le I->(S4 I p list c)->NG Q->NO Q->(∀ I',o=(.done ())->I0.le I'->T 81 B Q (.exit 0) I' [] [(0,vS p list c)])->(∀ r I' af m',o=(.ret r)->I0.le I'->RS Tryz.prog f68 B (zT  r) I' af m'->T 81 B Q .ret I' af m')->J Tryz.prog 81 B (nav (bodyOf f68) [1,0,1,0]) Q I [] [(0,vS p list c),(3,vI i)]:=by
 refine tO.partial_correctness list _ fun aE ih i o N B I0 I Q p c H h hg ho hx hr=>yQ hg ho<|yA<|yH [9] rfl<|zK<|yG N ?_ ?_
 · intro hc N;refine zS<|zZ<|yF<|yB<|yE 2 [] [12,13] rfl<|bE N fun x hy N=>xR rfl rfl h hy ?_;intro ad aL al aj;obtain ⟨p1,c1,rfl,h1⟩:=xP aj;refine xH 0 al (cArr x p1 c1) (vA (cArr x p1 c1)) rfl<|xU [vT ([]),z0] ?_;intro b hb;refine yY 0 (cArr x p1 c1) rfl<|zX rfl<|zZ<|yA ?_;refine wZ N [hB b (cArr x p1 c1)] (fun t56=>[(0,vS p list c),(3,vI i),(4,vP b 0),(56,.bool t56)]) (fun o0 az=>?_) ?_
   · have H:=iS I;refine eI (by kernel_rfl) (by kernel_rfl)<|zAl 5 [0] [20] rfl<|zIU [20] az ?_ ?_
     · intro aH N;exact zLw [] [(56,vY)]<|yU<|zU (ct N H)
     intro aH N;refine zAl 10 [0] [25] rfl<|zIU [25] N ?_ ?_
     · intro aY N;exact zLw [] [(56,vY)]<|yU<|zU (ct N H)
     intro aY N;refine zAl 15 [0] [30] rfl<|zIU [30] N ?_ ?_
     · intro bC N;exact zLw [] [(56,vY)]<|yU<|zU (ct N H)
     intro bC N;refine zAl 18 [] [33] rfl<|zIU [33] N ?_ ?_
     · intro bJ N;refine zAl 21 [] [34,36] rfl<|bE N fun x1 ay N=>zB3 rfl rfl h ay ?_;intro ad1 bm au ax;obtain ⟨p2,c2,rfl,h2⟩:=xP ax;refine zAl 23 [] [38] rfl<|zAz 0 au [vT x1.Name.l] (vT x1.Name.l) rfl<|zAl 30 [0] [45] rfl<|zIU [45] N ?_ ?_
       · intro hc5 N;exact zLw [] [(56,vY)]<|yU<|zU (ct N H)
       intro hc5 N;refine zAl 36 [0] [51] rfl<|zIU [51] N ?_ ?_
       · intro hc6 N;exact zLw [] [(56,vY)]<|yU<|zU (ct N H)
       intro hc6 N;exact zKK [0] [56] rfl<|yU<|zU (ct N H)
     intro bJ N;refine zAl 36 [0] [51] rfl<|zIU [51] N ?_ ?_
     · intro hc7 N;exact zLw [] [(56,vY)]<|yU<|zU (ct N H)
     intro hc7 N;exact zKK [0] [56] rfl<|yU<|zU (ct N H)
   intro t56 I0 le aT;have ⟨h,h1,H⟩:=m3 le h h1 H;refine zK<|yG aT ?_ ?_
   · intro hc8 N;exact wT [(2,vF)]<|xF<|zJ<|zV<|zJ<|zJ<|hr _ _ _ _ (zD N).symm H ⟨_,_,(resT rfl),zP,⟨_,rfl,rfl,rfl⟩⟩
   intro hc8 N;refine zS<|vW [5] rfl<|wI<|qR [(0,vS p list c),(3,vI i),(4,vP b 0),(5,vI 0)] ?_;obtain ⟨o02,ho02,aF⟩:=zB N;refine zEa x 0 o02 ho02 iR h h1 (fun _ _ _ h=>hg _ _ _ h) (fun _ _ h=>ho _ _ h) ?_ ?_
   · intro aV  heq2 aA;subst o02;have ⟨h,H⟩:=m2 aA h H;exact zR<|zO<|zK<|zM<|yK [] [3] rfl<|yP<|oT<|ih (W (i+1)) _ aF H h hg ho hx hr
   intro r0 I9 hs9 m9 aS le9 aU;subst aS;exact zV<|zV<|zJ<|zJ<|hr _ _ _ _ (zD aF).symm (H.trans le9) aU
 intro hc N;exact wP<|yU<|hx _  (zD N).symm H
def jA (list:(List zE)):Option (Bool):=do
 match<-tO list 0 with
 | .ret r0=>pure r0
 | .done _ =>
  pure (decide ((list.length:Int)<=4))
theorem zGw:∀ list r,jA list=some r->∀ {I:Imm}{p c},(S4 I p list c)->RT 68 [vS p list c] I [] (zT  r):=by
 intro list r N I p c h;unfold jA at N;refine yI func68 fun B=>wT []<|zZ<|yH [3] rfl<|wI<|qR [(0,vS p list c),(3,vI 0)] ?_;obtain ⟨o03,ho03,hMl1⟩:=zB N;refine zEb list 0 o03 ho03 iR h nG nO ?_ ?_
 · intro bx  heq3 aK;subst o03;refine zR<|vW [2] rfl<|zK<|xA ?_;obtain rfl:=zD hMl1;exact vV
 intro r0 I9 hs9 m9 aS le9 aU;subst aS;refine zV<|zJ ?_;obtain rfl:=zD hMl1;exact fO aU
def rO (a0:zA) (ag:(List Int)) (n0:Int) (i:Int):Option (Int):=do
 let t19<-(do
   if (decide (i<(ag.length:Int))) then pure (decide (i<(a0.Coefs.length:Int)))
   else
    pure false
     : Option Bool)
 if t19 then
  let x<-idx a0.Coefs i;let x1<-idx ag i;rO a0 ag (W (n0+(W (x*x1)))) (W (i+1))
 else pure (id n0)
 partial_fixpoint
theorem zGE (a0:zA) (ag:(List Int)):∀ (n0:Int) (i:Int) (o:Int),rO a0 ag n0 i=some o->∀ {B}{I0 I:Imm}{Q p c p1 c1}{b},I0.le I->(S4 I p1 ag c1)->(S4 I p a0.Coefs c)->NG Q->NO Q->(∀ I' n01,o=n01->I0.le I'->T 35 B Q (.exit 0) I' [] [(5,vI n01)])->J Tryz.prog 35 B (nav (bodyOf f74) [1,1,0,1,0]) Q I [hB b (cAff a0 p c)] [(1,vS p1 ag c1),(2,vP b 0),(5,vI n0),(6,vI i)]:=by
 refine rO.partial_correctness a0 ag _ fun aE ih n0 i o N B I0 I Q p c p1 c1 b H h1 h hg ho hx=>yQ hg ho<|yA<|yA ?_;refine wZ N [hB b (cAff a0 p c)] (fun t19=>[(1,vS p1 ag c1),(2,vP b 0),(5,vI n0),(6,vI i),(19,.bool t19)]) (fun o0 az=>?_) ?_
 · have H:=iS I;refine zM<|yE 5 [] [13] rfl<|wL [13] az ?_ ?_
   · intro hc N;exact yK [0] [19] rfl<|yU<|zU (ct N H)
   intro hc N;exact wR [] [(19,vF)]<|yU<|zU (ct N H)
 intro t19 I0 le aT;have ⟨h1,h,H⟩:=m3 le h1 h H;refine zK<|yG aT ?_ ?_
 · intro aH N;refine zS<|zZ<|yF<|eI (by kernel_rfl) (by kernel_rfl)<|zAl 4 [0] [22,24,25] rfl<|bE N fun x hy N=>zB3 rfl rfl h hy ?_;intro ad aL al aj;obtain rfl:=aj;refine zAz 0 al [vI x] (vI x) rfl<|zAl 8 [] [28,29] rfl<|bE N fun x1 ay N=>zB3 rfl rfl h1 ay ?_;intro ad1 bm au ax;obtain rfl:=ax;exact zAz 0 au [vI x1] (vI x1) rfl<|zKK [] [5] rfl<|zO<|zK<|zM<|yK [] [6] rfl<|yP<|oT<|ih (W (n0+(W (x*x1)))) (W (i+1)) _ N H h1 h hg ho hx
 intro aH N;exact wP<|wF zP<|yU<|hx _ _ (zD N).symm H
def qP (a0:zA) (ag:(List Int)):Option (Int):=do
 let n01<-rO a0 ag a0.Const 0;pure (id n01)
theorem fV:∀ a0 ag r,qP a0 ag=some r->∀ {I:Imm}{p c p1 c1},(S4 I p a0.Coefs c)->(S4 I p1 ag c1)->RT 74 [vA (cAff a0 p c),vS p1 ag c1] I [] (xL  r):=by
 intro a0 ag r N I p c p1 c1 h h1;unfold qP at N;refine yI func74 fun B=>yB<|vJ (cAff a0 p c) ?_;intro b hb;refine wR [] []<|yW<|yK [0] [5] rfl<|zZ<|yH [6] rfl<|wI<|qR [(1,vS p1 ag c1),(2,vP b 0),(5,vI a0.Const),(6,vI 0)] ?_;obtain ⟨aN,aC,aF⟩:=zB N;refine zGE a0 ag a0.Const 0 aN aC iR h1 h nG nO ?_;intro aO n01 heq1 aa;subst aN;refine zR<|vW [4] rfl<|zK<|xA ?_;obtain rfl:=zD aF;exact vV
def sR (loop:zF) (p2:(List Int)) (lo:Int) (i:Int):Option (Int):=do
 if (decide (i<(loop.Lo.length:Int))) then
  let x2<-idx loop.Lo i;let y2<-qP x2 p2;let lo2<-(do
    if (decide (y2>lo)) then pure (id y2)
    else
     pure (id lo)
      : Option Int)
  sR loop p2 lo2 (W (i+1))
 else pure (id lo)
 partial_fixpoint
theorem zFL (loop:zF) (p2:(List Int)):∀ (lo:Int) (i:Int) (o:Int),sR loop p2 lo i=some o->∀ {B}{I0 I:Imm}{Q}{y1:Int}{p c p1 c1 p3 c2}{b},I0.le I->(S4 I p3 p2 c2)->(S4 I p loop.Lo c)->(S4 I p1 loop.Hi c1)->NG Q->NO Q->(∀ I' lo1,o=lo1->I0.le I'->T 62 B Q (.exit 0) I' [hB b (cLoop loop p c p1 c1)] [(1,vS p3 p2 c2),(2,vP b 0),(6,vI lo1),(7,vI y1)])->J Tryz.prog 62 B (nav (bodyOf f153) [1,1,1,0,1,0]) Q I [hB b (cLoop loop p c p1 c1)] [(1,vS p3 p2 c2),(2,vP b 0),(6,vI lo),(7,vI y1),(8,vI i)]:=by
 refine sR.partial_correctness loop p2 _ fun aE ih lo i o N B I0 I Q y1 p c p1 c1 p3 c2 b H h2 h h1 hg ho hx=>yQ hg ho<|yA<|yB<|yK [0] [28] rfl<|zK<|yG N ?_ ?_
 · intro hc N;refine zS<|zZ<|yF<|yB<|yE 3 [0] [32,33] rfl<|bE N fun x2 bu N=>xR rfl rfl h bu ?_;intro ad2 bK bk bq;obtain ⟨p6,c5,rfl,h7⟩:=yD bq;refine xH 0 bk (cAff x2 p6 c5) (vA (cAff x2 p6 c5)) rfl<|yE 6 [] [36] rfl<|bE N fun y2 bz N=>dP (fV x2 p2 _ bz h7 h2) ?_;intro aV aA;have ⟨h2,h,h1,H⟩:=m4 aA h2 h h1 H;refine yK [] [9] rfl<|vW [40] rfl<|zK ?_;refine wZ N [hB b (cLoop loop p c p1 c1)] (fun lo2=>[(1,vS p3 p2 c2),(2,vP b 0),(6,vI lo2),(7,vI y1),(8,vI i)]) (fun o0 az=>?_) ?_
   · have H:=iS aV;refine yG az ?_ ?_
     · intro aH N;exact zM<|yK [] [6] rfl<|yU<|zU (ct N H)
     intro aH N;exact zS<|yU<|zU (ct N H)
   intro lo2 bx aK aT;have ⟨h2,h,h1,H⟩:=m4 aK h2 h h1 H;exact zO<|zK<|zM<|yK [] [8] rfl<|yP<|oT<|ih lo2 (W (i+1)) _ aT H h2 h h1 hg ho hx
 intro hc N;exact wP<|yU<|hx _ _ (zD N).symm H
def sS (loop:zF) (p2:(List Int)) (hi:Int) (i1:Int):Option (Int):=do
 if (decide (i1<(loop.Hi.length:Int))) then
  let x3<-idx loop.Hi i1;let y3<-qP x3 p2;let hi2<-(do
    if (decide (y3<hi)) then pure (id y3)
    else
     pure (id hi)
      : Option Int)
  sS loop p2 hi2 (W (i1+1))
 else pure (id hi)
 partial_fixpoint
theorem zFM (loop:zF) (p2:(List Int)):∀ (hi:Int) (i1:Int) (o:Int),sS loop p2 hi i1=some o->∀ {B}{I0 I:Imm}{Q}{lo1:Int}{p c p1 c1 p3 c2}{b},I0.le I->(S4 I p3 p2 c2)->(S4 I p loop.Lo c)->(S4 I p1 loop.Hi c1)->NG Q->NO Q->(∀ I' hi1,o=hi1->I0.le I'->T 62 B Q (.exit 2) I' [] [(6,vI lo1),(7,vI hi1)])->J Tryz.prog 62 B (nav (bodyOf f153) [1,1,1,1,0,1,0]) Q I [hB b (cLoop loop p c p1 c1)] [(1,vS p3 p2 c2),(2,vP b 0),(6,vI lo1),(7,vI hi),(10,vI i1)]:=by
 refine sS.partial_correctness loop p2 _ fun aE ih hi i1 o N B I0 I Q lo1 p c p1 c1 p3 c2 b H h2 h h1 hg ho hx=>yQ hg ho<|yA<|yB<|yK [0] [46] rfl<|zK<|yG N ?_ ?_
 · intro aY N;refine zS<|zZ<|yF<|yB<|yE 3 [0] [50,51] rfl<|bE N fun x3 hy6 N=>xR rfl rfl h1 hy6 ?_;intro ad3 ccs3 hat3 bB;obtain ⟨p7,c6,rfl,h9⟩:=yD bB;refine xH 0 hat3 (cAff x3 p7 c6) (vA (cAff x3 p7 c6)) rfl<|yE 6 [] [54] rfl<|bE N fun y3 hy7 N=>dP (fV x3 p2 _ hy7 h9 h2) ?_;intro bI bf;have ⟨h2,h,h1,H⟩:=m4 bf h2 h h1 H;refine yK [] [11] rfl<|vW [58] rfl<|zK ?_;refine wZ N [hB b (cLoop loop p c p1 c1)] (fun hi2=>[(1,vS p3 p2 c2),(2,vP b 0),(6,vI lo1),(7,vI hi2),(10,vI i1)]) (fun o02 ho02=>?_) ?_
   · have H:=iS bI;refine yG ho02 ?_ ?_
     · intro bC N;exact zM<|yK [] [7] rfl<|yU<|zU (ct N H)
     intro bC N;exact zS<|yU<|zU (ct N H)
   intro hi2 I06 bt hMc1;have ⟨h2,h,h1,H⟩:=m4 bt h2 h h1 H;exact zO<|zK<|zM<|yK [] [10] rfl<|yP<|oT<|ih hi2 (W (i1+1)) _ hMc1 H h2 h h1 hg ho hx
 intro aY N;exact wP<|wF zP<|yU<|hx _ _ (zD N).symm H
def kS (loop:zF) (p2:(List Int)):Option (Int×Int):=do
 let x<-idx loop.Lo 0;let y<-qP x p2;let x1<-idx loop.Hi 0;let y1<-qP x1 p2;let lo1<-sR loop p2 y 1;let hi1<-sS loop p2 y1 1;pure (lo1,hi1)
theorem zD5:∀ loop p2 r,kS loop p2=some r->∀ {I:Imm}{p c p1 c1 p3 c2},(S4 I p loop.Lo c)->(S4 I p1 loop.Hi c1)->(S4 I p3 p2 c2)->RT 153 [vA (cLoop loop p c p1 c1),vS p3 p2 c2] I [] (zA8  r):=by
 intro loop p2 r N I p c p1 c1 p3 c2 h h1 h2;unfold kS at N;refine yI func153 fun B=>yB<|vJ (cLoop loop p c p1 c1) ?_;intro b hb;refine wR [] []<|yW<|yE 2 [0] [13] rfl<|bE N fun x hy N=>xR rfl rfl h hy ?_;intro ad aL al aj;obtain ⟨p4,c3,rfl,h3⟩:=yD aj;refine xH 0 al (cAff x p4 c3) (vA (cAff x p4 c3)) rfl<|yE 5 [] [16] rfl<|bE N fun y ay N=>dP (fV x p2 _ ay h3 h2) ?_;intro I0 le;have ⟨h2,h,h1⟩:=m3 le h2 h h1;refine yK [] [6] rfl<|yW<|yE 2 [0] [19] rfl<|bE N fun x1 aG N=>xR rfl rfl h1 aG ?_;intro ad1 bm au ax;obtain ⟨p5,c4,rfl,h5⟩:=yD ax;refine xH 0 au (cAff x1 p5 c4) (vA (cAff x1 p5 c4)) rfl<|yE 5 [] [22] rfl<|bE N fun y1 bc N=>dP (fV x1 p2 _ bc h5 h2) ?_;intro aO aa;have ⟨h2,h,h1⟩:=m3 aa h2 h h1;refine yK [] [7] rfl<|zZ<|yH [8] rfl<|wI<|qR [(1,vS p3 p2 c2),(2,vP b 0),(6,vI y),(7,vI y1),(8,vI 1)] ?_;obtain ⟨aN,aC,aF⟩:=zB N;refine zFL loop p2 y 1 aN aC iR h2 h h1 nG nO ?_;intro bD lo1 heq1 aX;subst aN;have ⟨h2,h,h1⟩:=m3 aX h2 h h1;refine zR<|zZ<|yH [10] rfl<|wI<|qR [(1,vS p3 p2 c2),(2,vP b 0),(6,vI lo1),(7,vI y1),(10,vI 1)] ?_;obtain ⟨o03,ho03,hMl1⟩:=zB aF;refine zFM loop p2 y1 1 o03 ho03 iR h2 h h1 nG nO ?_;intro I07 hi1 heq3 le7;subst o03;refine zR<|vW [4,5] rfl<|zK<|xA ?_;exact xO hMl1 (resU rfl rfl) zP ⟨_,_,rfl,rfl,rfl,rfl⟩
def zBb (r:(List (List Int))):KT:=fun kk I' af v=>
  ∃ a0 c0 s0,af=[.osl (.slice a0 r.length c0) (Rp.sz (List Int)) s0]/\v=tupV [(.slice a0 r.length c0)]/\RepL (Rp.rep I') (Rp.sz (List Int)) s0 r
mutual
def tB (out:(List (List Int))) (nest:(List zF)) (p2:(List Int)):Option ((List (List Int))):=do
 if ((p2.length:Int)==(nest.length:Int)) then
  let l<-app 8 ([]:List Int) p2;let t6<-app 24 out ([l]:List (List Int));pure (id t6)
 else
  let x<-idx nest (p2.length:Int);let (y1,y2)<-kS x p2;let ap<-rB (same nest) (same p2) (same y2) (same out) (same y1);pure (id ap)
 partial_fixpoint
def rB (nest:(List zF)) (p2:(List Int)) (y2:Int) (ah:List (List Int)) (v04:Int):Option (List (List Int)):=do
 let t39<-(do
   if (decide (v04<y2)) then pure (decide ((ah.length:Int)<=120))
   else
    pure false
     : Option Bool)
 if t39 then
  let l1<-app 8 ([]:List Int) p2;let l2<-app 8 l1 ([v04]:List Int);let y3<-tB (same ah) (same nest) (same l2);rB (same nest) (same p2) (same y2) (same y3) (W (v04+1))
 else pure (id ah)
 partial_fixpoint
end
theorem zGF:(∀ (out:(List (List Int))) (nest:(List zF)) (p2:(List Int)) r,tB out nest p2=some r->∀ {I:Imm}{p c cs p1 c1 p3 c2},(RL I cs out)->(S4 I p1 nest c1)->(S4 I p3 p2 c2)->RT 113 [vS p out c,vS p1 nest c1,vS p3 p2 c2] I [hO (List Int) (vS p out c) cs] (zBb  r))/\(∀ (nest:(List zF)) (p2:(List Int)) (y2:Int) (ah:List (List Int)) (v04:Int) o,rB nest p2 y2 ah v04=some o->∀ {B}{I0 I:Imm}{Q p1 c1 p3 c2 p8 c7 aI},I0.le I->(S4 I p1 nest c1)->(S4 I p3 p2 c2)->(RL I aI ah)->NG Q->NO Q->(∀ I' ap p9 c8 bo,o=ap->I0.le I'->(RL I' bo ap)->T 52 B Q (.exit 0) I' [hO (List Int) (vS p9 ap c8) bo] [(0,vS p9 ap c8)])->J Tryz.prog 52 B (nav (bodyOf f113) [1,1,1,0,1,0]) Q I [hO (List Int) (vS p8 ah c7) aI] [(0,vS p8 ah c7),(1,vS p1 nest c1),(2,vS p3 p2 c2),(8,vI y2),(9,vI v04)]):=by
  refine tB.mutual_partial_correctness _ _ ?_ ?_
  · intro F_spec_l2Points_l1 ih_spec_l2Points_l1 out nest p2 r N I p c cs p1 c1 p3 c2 h h1 h2;refine yI func113 fun B=>wT []<|zZ<|yH [14] rfl<|zK<|yG N ?_ ?_
    · intro hc N;refine yB<|yE 1 [] [15] rfl<|uV [] Int ?_;intro b hb;have h3:RL I [] ([]:List Int):=rfl;refine yE 3 [] [17] rfl ?_;obtain ⟨aL,k0,k01⟩:=h2;have h2:SL I (vS p3 p2 c2) p2:=⟨_,k0,k01⟩;obtain ⟨l,hy,N⟩:=zB N;refine rF 3 1 0 rfl rfl rfl h3 (.inl k0) k01 hy fun p4 c3 av h4=>tX (zY [0,1] (af:=[hO Int (vS p4 l c3) av,hO (List Int) (vS p out c) cs]))<|xX 0 rfl ?_;intro I0 le hl0;have h5:=SL.of_frozen hl0 le h4;have h:=iM le h;refine uV [vS p4 l c3] (List Int) ?_;intro b1 hb1;have h6:RL I0 [vS p4 l c3] ([l]:List (List Int)):=⟨[vS p4 l c3],_,rfl,rfl,⟨_,rfl,h5⟩,rfl⟩;obtain ⟨t6,ay,N⟩:=zB N;refine rF 39 1 1 rfl rfl rfl h (.inr ⟨0,rfl⟩) h6 ay fun p5 c4 aP h7=>tX (zY [1] (af:=[hO (List Int) (vS p5 t6 c4) aP]))<|yK [] [6] rfl<|xF<|zJ ?_;exact xO N (resT rfl) (zW [0] rfl (by decide)) ⟨_,_,_,rfl,rfl,h7⟩
    intro hc N;refine zS<|yW<|yE 3 [] [22,24] rfl<|bE N fun x aG N=>xR rfl rfl h1 aG ?_;intro ad bm al aj;obtain ⟨p6,c5,p7,c6,rfl,h8,h9⟩:=wY aj;refine xH 0 al (cLoop x p6 c5 p7 c6) (vA (cLoop x p6 c5 p7 c6)) rfl<|yE 6 [] [27] rfl ?_;obtain ⟨⟨y1,y2⟩,bc,N⟩:=zB N;refine xE (zD5 x p2 _ bc h8 h9 h2) ?_;rintro aO aw v2 k2 aa - ⟨v02,v03,rfl,rfl,rfl,rfl⟩ -;have ⟨h,h1,h2⟩:=m3 aa h h1 h2;refine yK [] [7,8] rfl<|zZ<|yH [9] rfl<|wI<|qR [(0,vS p out c),(1,vS p1 nest c1),(2,vS p3 p2 c2),(8,vI y2),(9,vI y1)] ?_;obtain ⟨aN,aC,aF⟩:=zB N;refine ih_spec_l2Points_l1 nest p2 y2 out y1 aN aC iR h1 h2 h nG nO ?_;intro bI ap p9 c8 bo heq1 bf h13;subst aN;refine zR<|vW [6] rfl<|zK<|xA ?_;exact xO aF (resT rfl) (zW [0] rfl (by decide)) ⟨_,_,_,rfl,rfl,h13⟩
  intro F_spec_l2Points F_spec_l2Points_l1 ih_spec_l2Points ih_spec_l2Points_l1 nest p2 y2 ah v04 o N B I0 I Q p1 c1 p3 c2 p8 c7 aI H h1 h2 h12 hg ho hx;refine yQ hg ho<|yA<|yA ?_;refine wZ N [hO (List Int) (vS p8 ah c7) aI] (fun t39=>[(0,vS p8 ah c7),(1,vS p1 nest c1),(2,vS p3 p2 c2),(8,vI y2),(9,vI v04),(39,.bool t39)]) (fun o0 az=>?_) ?_
  · have H:=iS I;refine zM<|yE 4 [] [35] rfl<|wL [35] az ?_ ?_
    · intro aH N;exact yK [] [39] rfl<|yU<|zU (ct N H)
    intro aH N;exact wR [] [(39,vF)]<|yU<|zU (ct N H)
  intro t39 aV aA aT;have ⟨h12,h1,h2,H⟩:=m4 aA h12 h1 h2 H;refine zK<|yG aT ?_ ?_
  · intro aY N;refine zS<|zZ<|yF<|zM<|yE 2 [] [42,43] rfl<|uV [] Int ?_;intro b2 hb2;have h14:RL aV [] ([]:List Int):=rfl;refine yE 4 [] [45] rfl ?_;obtain ⟨bK,k02,k03⟩:=h2;have h2:SL aV (vS p3 p2 c2) p2:=⟨_,k02,k03⟩;obtain ⟨l1,bu,N⟩:=zB N;refine rF 3 1 0 rfl rfl rfl h14 (.inl k02) k03 bu fun aQ c9 bv h15=>tX (zY [0,1] (af:=[hO Int (vS aQ l1 c9) bv,hO (List Int) (vS p8 ah c7) aI]))<|yE 6 [] [47] rfl<|uV [vI v04] Int ?_;intro b3 hb3;have h16:RL aV [vI v04] ([v04]:List Int):=rI [v04];obtain ⟨l2,bz,N⟩:=zB N;refine rF 3 1 1 rfl rfl rfl h15 (.inr ⟨0,rfl⟩) h16 bz fun aJ aM cs6 h17=>tX (zY [1,2] (af:=[hO Int (vS aJ l2 aM) cs6,hO (List Int) (vS p8 ah c7) aI]))<|xX 0 rfl ?_;intro bx aK hl01;have h18:=SL.of_frozen hl01 aK h17;have ⟨h1,h2,h12,H⟩:=m4 aK h1 h2 h12 H;obtain ⟨y3,hy6,N⟩:=zB N;refine rW (ih_spec_l2Points ah nest l2 _ hy6 h12 h1 h18) rfl ?_;rintro bD aw v2 k2 aX - ⟨br,aW,cs7,rfl,rfl,h19⟩ -;have ⟨h1,h2,H⟩:=m3 aX h1 h2 H;exact yK [] [0] rfl<|zO<|zK<|zM<|yK [] [9] rfl<|yP<|oT<|ih_spec_l2Points_l1 nest p2 y2 y3 (W (v04+1)) _ N H h1 h2 h19 hg ho hx
  intro aY N;exact wP<|yU<|hx _ _ _ _ _ (zD N).symm H h12
theorem zCd:∀ out nest p2 r,tB out nest p2=some r->∀ {I:Imm}{p c cs p1 c1 p3 c2},(RL I cs out)->(S4 I p1 nest c1)->(S4 I p3 p2 c2)->RT 113 [vS p out c,vS p1 nest c1,vS p3 p2 c2] I [hO (List Int) (vS p out c) cs] (zBb  r):=zGF.1
def rP (list:(List zA)) (depth:Int) (i:Int):Option (Out Unit (Bool)):=do
 if (decide (i<(list.length:Int))) then
  let t26<-(do
    let x<-idx list i;let y<-tM x;if (!y) then pure true
    else
     let x1<-idx list i;let y1<-nB x1;pure (decide (y1>depth))
      : Option Bool)
  if t26 then pure (.ret false)
  else rP list depth (W (i+1))
 else pure (.done ())
 partial_fixpoint
theorem zGG (list:(List zA)) (depth:Int):∀ (i:Int) (o:Out Unit (Bool)),rP list depth i=some o->∀ {B}{I0 I:Imm}{Q p c},I0.le I->(S4 I p list c)->NG Q->NO Q->(∀ I',o=(.done ())->I0.le I'->T 35 B Q (.exit 0) I' [] [(0,vS p list c)])->(∀ r I' af m',o=(.ret r)->I0.le I'->RS Tryz.prog f180 B (zT  r) I' af m'->T 35 B Q .ret I' af m')->J Tryz.prog 35 B (nav (bodyOf f180) [1,0,1,0]) Q I [] [(0,vS p list c),(1,vI depth),(5,vI i)]:=by
 refine rP.partial_correctness list depth _ fun aE ih i o N B I0 I Q p c H h hg ho hx hr=>yQ hg ho<|yA<|yH [9] rfl<|zK<|yG N ?_ ?_
 · intro hc N;refine zS<|zZ<|yF<|yA ?_;refine wZ N [] (fun t26=>[(0,vS p list c),(1,vI depth),(5,vI i),(26,.bool t26)]) (fun o0 az=>?_) ?_
   · have H:=iS I;refine zM<|yE 2 [] [12,13] rfl ?_;obtain ⟨x,hy,N⟩:=zB az;refine xR rfl rfl h hy ?_;intro ad aL al aj;obtain ⟨p1,c1,rfl,h1⟩:=yD aj;refine xH 0 al (cAff x p1 c1) (vA (cAff x p1 c1)) rfl<|bE N fun y ay N=>tH (fM x _ ay h1) ?_;intro aO le;have ⟨h,H⟩:=m2 le h H;refine yE 7 [] [18] rfl<|wL [18] N ?_ ?_
     · intro aH N;exact wR [] [(26,vY)]<|yU<|zU (ct N H)
     intro aH N;refine yE 9 [] [19,20] rfl<|bE N fun x1 aG N=>xR rfl rfl h aG ?_;intro ad1 bm au ax;obtain ⟨p2,c2,rfl,h3⟩:=yD ax;refine xH 0 au (cAff x1 p2 c2) (vA (cAff x1 p2 c2)) rfl<|bE N fun y1 bc N=>dP (zBI x1 _ bc h3) ?_;intro aV aa;have H:=H.trans aa;exact yK [] [26] rfl<|yU<|zU (ct N H)
   intro t26 I0 aA aT;have ⟨h,H⟩:=m2 aA h H;refine zK<|yG aT ?_ ?_
   · intro aY N;exact wT [(4,vF)]<|xF<|zV<|zJ<|zJ<|hr _ _ _ _ (zD N).symm H ⟨_,_,(resT rfl),zP,⟨_,rfl,rfl,rfl⟩⟩
   intro aY N;exact zS<|zO<|zK<|zM<|yK [] [5] rfl<|yP<|oT<|ih (W (i+1)) _ N H h hg ho hx hr
 intro hc N;exact wP<|yU<|hx _  (zD N).symm H
def jM (list:(List zA)) (depth:Int):Option (Bool):=do
 match<-rP list depth 0 with
 | .ret r0=>pure r0
 | .done _ =>
  let t4<-(do
    if (decide ((list.length:Int)>=1)) then pure (decide ((list.length:Int)<=2))
    else
     pure false
      : Option Bool)
  pure (id t4)
theorem zEA:∀ list depth r,jM list depth=some r->∀ {I:Imm}{p c},(S4 I p list c)->RT 180 [vS p list c,vI depth] I [] (zT  r):=by
 intro list depth r N I p c h;unfold jM at N;refine yI func180 fun B=>?_;have H:=iS I;refine wT []<|zZ<|yH [5] rfl<|wI<|qR [(0,vS p list c),(1,vI depth),(5,vI 0)] ?_;obtain ⟨aN,aC,aF⟩:=zB N;refine zGG list depth 0 aN aC iR h nG nO ?_ ?_
 · intro bx  heq1 aK;subst aN;have H:=H.trans aK;refine zR<|zK<|yA ?_;refine wZ aF [] (fun t4=>[(4,.bool t4)]) (fun o02 ho02=>?_) ?_
   · have H:=iS bx;refine zM<|yE 4 [] [30] rfl<|wL [30] ho02 ?_ ?_
     · intro bC N;exact yK [] [4] rfl<|yU<|zU (ct N H)
     intro bC N;exact wR [] [(4,vF)]<|yU<|zU (ct N H)
   intro t4 bD aX hMc1;refine zK<|xA ?_;obtain rfl:=zD hMc1;exact vV
 intro r0 I9 hs9 m9 aS le9 aU;subst aS;refine zV<|zJ ?_;obtain rfl:=zD aF;exact fO aU
def vZ (nest:(List zF)) (i:Int):Option (Out Unit (Bool)):=do
 let t12<-(do
   if (decide (i<(nest.length:Int))) then pure (decide ((nest.length:Int)<=4))
   else
    pure false
     : Option Bool)
 if t12 then
  let t32<-(do
    let x<-idx nest i;let y<-jM x.Lo i;if (!y) then pure true
    else
     let x1<-idx nest i;let y1<-jM x1.Hi i;pure (!y1)
      : Option Bool)
  if t32 then pure (.ret false)
  else vZ nest (W (i+1))
 else pure (.done ())
 partial_fixpoint
theorem zEB (nest:(List zF)):∀ (i:Int) (o:Out Unit (Bool)),vZ nest i=some o->∀ {B}{I0 I:Imm}{Q p c},I0.le I->(S4 I p nest c)->NG Q->NO Q->(∀ I',o=(.done ())->I0.le I'->T 36 B Q (.exit 0) I' [] [(0,vS p nest c)])->(∀ r I' af m',o=(.ret r)->I0.le I'->RS Tryz.prog f149 B (zT  r) I' af m'->T 36 B Q .ret I' af m')->J Tryz.prog 36 B (nav (bodyOf f149) [1,0,1,0]) Q I [] [(0,vS p nest c),(3,vI i)]:=by
 refine vZ.partial_correctness nest _ fun aE ih i o N B I0 I Q p c H h hg ho hx hr=>yQ hg ho<|yA<|yA ?_;refine wZ N [] (fun t12=>[(0,vS p nest c),(3,vI i),(12,.bool t12)]) (fun o0 az=>?_) ?_
 · have H:=iS I;refine zM<|yE 5 [] [8] rfl<|wL [8] az ?_ ?_
   · intro hc N;exact yK [] [12] rfl<|yU<|zU (ct N H)
   intro hc N;exact wR [] [(12,vF)]<|yU<|zU (ct N H)
 intro t12 I0 le aT;have ⟨h,H⟩:=m2 le h H;refine zK<|yG aT ?_ ?_
 · intro aH N;refine zS<|zZ<|yF<|yA ?_;refine wZ N [] (fun t32=>[(0,vS p nest c),(3,vI i),(32,.bool t32)]) (fun aN aC=>?_) ?_
   · have H:=iS I0;refine zM<|yE 2 [] [15,16] rfl ?_;obtain ⟨x,hy,N⟩:=zB aC;refine xR rfl rfl h hy ?_;intro ad aL al aj;obtain ⟨p1,c1,p2,c2,rfl,h1,h2⟩:=wY aj;refine yE 4 [] [18] rfl<|xH 0 al [vS p1 x.Lo c1] (vS p1 x.Lo c1) rfl<|yE 6 [] [20] rfl<|bE N fun y ay N=>tH (zEA x.Lo i _ ay h1) ?_;intro aV aa;have ⟨h,H⟩:=m2 aa h H;refine yE 9 [] [23] rfl<|wL [23] N ?_ ?_
     · intro aY N;exact wR [] [(32,vY)]<|yU<|zU (ct N H)
     intro aY N;refine yE 11 [] [24,25] rfl<|bE N fun x1 aG N=>xR rfl rfl h aG ?_;intro ad1 bm au ax;obtain ⟨p3,c3,p4,c4,rfl,h4,h5⟩:=wY ax;refine yE 13 [] [27] rfl<|xH 1 au [vS p4 x1.Hi c4] (vS p4 x1.Hi c4) rfl<|yE 15 [] [29] rfl<|bE N fun y1 bc N=>tH (zEA x1.Hi i _ bc h5) ?_;intro bx aA;have H:=H.trans aA;exact yK [] [32] rfl<|yU<|zU (ct N H)
   intro t32 aO aK hMc1;have ⟨h,H⟩:=m2 aK h H;refine zK<|yG hMc1 ?_ ?_
   · intro bC N;exact wT [(2,vF)]<|xF<|zV<|zJ<|zJ<|hr _ _ _ _ (zD N).symm H ⟨_,_,(resT rfl),zP,⟨_,rfl,rfl,rfl⟩⟩
   intro bC N;exact zS<|zO<|zK<|zM<|yK [] [3] rfl<|yP<|oT<|ih (W (i+1)) _ N H h hg ho hx hr
 intro aH N;exact wP<|yU<|hx _  (zD N).symm H
def mV (nest:(List zF)):Option (Bool):=do
 match<-vZ nest 0 with
 | .ret r0=>pure r0
 | .done _ =>
  pure (decide ((nest.length:Int)<=4))
theorem zGH:∀ nest r,mV nest=some r->∀ {I:Imm}{p c},(S4 I p nest c)->RT 149 [vS p nest c] I [] (zT  r):=by
 intro nest r N I p c h;unfold mV at N;refine yI func149 fun B=>wT []<|zZ<|yH [3] rfl<|wI<|qR [(0,vS p nest c),(3,vI 0)] ?_;obtain ⟨o02,ho02,aF⟩:=zB N;refine zEB nest 0 o02 ho02 iR h nG nO ?_ ?_
 · intro bD  heq2 aX;subst o02;refine zR<|vW [2] rfl<|zK<|xA ?_;obtain rfl:=zD aF;exact vV
 intro r0 I9 hs9 m9 aS le9 aU;subst aS;refine zV<|zJ ?_;obtain rfl:=zD aF;exact fO aU
mutual
def qQ (nest:(List zF)) (p1:(List Int)) (most:Int):Option (Int):=do
 if ((p1.length:Int)==(nest.length:Int)) then pure (id 1)
 else
  let x<-idx nest (p1.length:Int);let (y1,y2)<-kS x p1;let n01<-qX (same nest) (same p1) (same most) (same y2) (same 1) (same y1);pure (id n01)
 partial_fixpoint
def qX (nest:(List zF)) (p1:(List Int)) (most:Int) (y2:Int) (n0:Int) (v04:Int):Option (Int):=do
 let t35<-(do
   if (decide (v04<y2)) then pure (decide (n0<=most))
   else
    pure false
     : Option Bool)
 if t35 then
  let l<-app 8 ([]:List Int) p1;let l1<-app 8 l ([v04]:List Int);let y3<-qQ (same nest) (same l1) (W (most - n0));qX (same nest) (same p1) (same most) (same y2) (W (n0+y3)) (W (v04+1))
 else pure (id n0)
 partial_fixpoint
end
theorem zHc:(∀ (nest:(List zF)) (p1:(List Int)) (most:Int) r,qQ nest p1 most=some r->∀ {I:Imm}{p c p2 c1},(S4 I p nest c)->(S4 I p2 p1 c1)->RT 150 [vS p nest c,vS p2 p1 c1,vI most] I [] (xL  r))/\(∀ (nest:(List zF)) (p1:(List Int)) (most:Int) (y2:Int) (n0:Int) (v04:Int) o,qX nest p1 most y2 n0 v04=some o->∀ {B}{I0 I:Imm}{Q p c p2 c1},I0.le I->(S4 I p nest c)->(S4 I p2 p1 c1)->NG Q->NO Q->(∀ I' n01,o=n01->I0.le I'->T 52 B Q (.exit 0) I' [] [(7,vI n01)])->J Tryz.prog 52 B (nav (bodyOf f150) [1,1,1,1,0,1,0]) Q I [] [(0,vS p nest c),(1,vS p2 p1 c1),(2,vI most),(7,vI n0),(9,vI y2),(10,vI v04)]):=by
  refine qQ.mutual_partial_correctness _ _ ?_ ?_
  · intro F_spec_l2Work_l1 ih_spec_l2Work_l1 nest p1 most r N I p c p2 c1 h h1;refine yI func150 fun B=>wT []<|vW [7] rfl<|zZ<|yH [15] rfl<|zK<|yG N ?_ ?_
    · intro hc N;refine yH [6] rfl<|xF<|zJ ?_;obtain rfl:=zD N;exact vV
    intro hc N;refine zS<|yW<|yE 3 [] [18,20] rfl<|bE N fun x hy N=>xR rfl rfl h hy ?_;intro ad aL al aj;obtain ⟨p3,c2,p4,c3,rfl,h2,h3⟩:=wY aj;refine xH 0 al (cLoop x p3 c2 p4 c3) (vA (cLoop x p3 c2 p4 c3)) rfl<|yE 6 [] [23] rfl ?_;obtain ⟨⟨y1,y2⟩,ay,N⟩:=zB N;refine xE (zD5 x p1 _ ay h2 h3 h1) ?_;rintro I0 aw v2 k2 le - ⟨v02,v03,rfl,rfl,rfl,rfl⟩ -;have ⟨h,h1⟩:=m2 le h h1;refine yK [] [8,9] rfl<|zZ<|yH [10] rfl<|wI<|qR [(0,vS p nest c),(1,vS p2 p1 c1),(2,vI most),(7,vI 1),(9,vI y2),(10,vI y1)] ?_;obtain ⟨aN,aC,aF⟩:=zB N;refine ih_spec_l2Work_l1 nest p1 most y2 1 y1 aN aC iR h h1 nG nO ?_;intro bD n01 heq1 aX;subst aN;refine zR<|vW [6] rfl<|zK<|xA ?_;obtain rfl:=zD aF;exact vV
  intro F_spec_l2Work F_spec_l2Work_l1 ih_spec_l2Work ih_spec_l2Work_l1 nest p1 most y2 n0 v04 o N B I0 I Q p c p2 c1 H h h1 hg ho hx;refine yQ hg ho<|yA<|yA ?_;refine wZ N [] (fun t35=>[(0,vS p nest c),(1,vS p2 p1 c1),(2,vI most),(7,vI n0),(9,vI y2),(10,vI v04),(35,.bool t35)]) (fun o0 az=>?_) ?_
  · have H:=iS I;refine zM<|yE 4 [] [31] rfl<|wL [31] az ?_ ?_
    · intro aH N;exact yK [] [35] rfl<|yU<|zU (ct N H)
    intro aH N;exact wR [] [(35,vF)]<|yU<|zU (ct N H)
  intro t35 aO aa aT;have ⟨h,h1,H⟩:=m3 aa h h1 H;refine zK<|yG aT ?_ ?_
  · intro aY N;refine zS<|zZ<|yF<|zM<|yE 2 [] [38,39] rfl<|uV [] Int ?_;intro b hb;have h6:RL aO [] ([]:List Int):=rfl;refine yE 4 [] [41] rfl ?_;obtain ⟨bm,k0,k01⟩:=h1;have h1:SL aO (vS p2 p1 c1) p1:=⟨_,k0,k01⟩;obtain ⟨l,aG,N⟩:=zB N;refine rF 3 1 0 rfl rfl rfl h6 (.inl k0) k01 aG fun p5 c4 cs h7=>tX (zY [0] (af:=[hO Int (vS p5 l c4) cs]))<|yE 6 [] [43] rfl<|uV [vI v04] Int ?_;intro b1 hb1;have h8:RL aO [vI v04] ([v04]:List Int):=rI [v04];obtain ⟨l1,bc,N⟩:=zB N;refine rF 3 1 1 rfl rfl rfl h7 (.inr ⟨0,rfl⟩) h8 bc fun p6 c5 av h9=>tX (zY [1] (af:=[hO Int (vS p6 l1 c5) av]))<|yE 11 [] [48] rfl<|xX 0 rfl ?_;intro aV aA hl0;have h10:=SL.of_frozen hl0 aA h9;have ⟨h,h1,H⟩:=m3 aA h h1 H;obtain ⟨y3,bu,N⟩:=zB N;refine xE (ih_spec_l2Work nest l1 (W (most - n0)) _ bu h h10) ?_;rintro bx aw v2 k2 aK - ⟨v05,rfl,rfl,rfl⟩ -;have ⟨h,h1,H⟩:=m3 aK h h1 H;exact yK [] [7] rfl<|zO<|zK<|zM<|yK [] [10] rfl<|yP<|oT<|ih_spec_l2Work_l1 nest p1 most y2 (W (n0+y3)) (W (v04+1)) _ N H h h1 hg ho hx
  intro aY N;exact wP<|yU<|hx _ _ (zD N).symm H
theorem zI2:∀ nest p1 most r,qQ nest p1 most=some r->∀ {I:Imm}{p c p2 c1},(S4 I p nest c)->(S4 I p2 p1 c1)->RT 150 [vS p nest c,vS p2 p1 c1,vI most] I [] (xL  r):=zHc.1
def zBC (r:(List (List Int))×Bool):KT:=fun kk I' af v=>
  ∃ v0 v1,af=[]/\v=tupV [v0,v1]/\SL I' v0 r.1/\v1=.bool r.2
def nE (nest:(List zF)):Option ((List (List Int))×Bool):=do
 let t12<-(do
   let y<-mV nest;if (!y) then pure true
   else
    let y1<-qQ nest ([]:List Int) 1200;pure (decide (y1>1200))
     : Option Bool)
 if t12 then pure (([]:List (List Int)),false)
 else
  let y2<-tB ([]:List (List Int)) nest ([]:List Int);if (decide ((y2.length:Int)>120)) then pure (([]:List (List Int)),false)
  else pure (y2,true)
theorem zFN:∀ nest r,nE nest=some r->∀ {I:Imm}{p c},(S4 I p nest c)->RT 109 [vS p nest c] I [] (zBC  r):=by
 intro nest r N I p c h;unfold nE at N;refine yI func109 fun B=>?_;have H:=iS I;refine wT []<|zZ<|yA ?_;refine wZ N [] (fun t12=>[(0,vS p nest c),(12,.bool t12)]) (fun o0 az=>?_) ?_
 · have H:=iS I;refine zM<|yE 1 [] [5] rfl ?_;obtain ⟨y,hy,N⟩:=zB az;refine tH (zGH nest _ hy h) ?_;intro aO le;have ⟨h,H⟩:=m2 le h H;refine yE 4 [] [8] rfl<|wL [8] N ?_ ?_
   · intro hc N;exact wR [] [(12,vY)]<|yU<|zU (ct N H)
   intro hc N;refine yE 5 [] [9] rfl<|bE N fun y1 ay N=>dP (zI2 nest ([]:List Int) 1200 _ ay h (SL.nil _)) ?_;intro aV aa;have H:=H.trans aa;exact yK [] [12] rfl<|yU<|zU (ct N H)
 intro t12 I0 aA aT;have h:=h.mono aA;refine zK<|yG aT ?_ ?_
 · intro aH N;refine yB<|uV [] (List Int) ?_;intro b hb;have h3:RL I0 [] ([]:List (List Int)):=rfl;refine yK [] [2,3] rfl<|xF<|zJ<|xB 0 rfl ?_;intro bx aK hl0;have h4:=SL.of_frozen hl0 aK h3;exact xO N (resU rfl rfl) zP ⟨_,_,rfl,rfl,h4,rfl⟩
 intro aH N;refine zS<|yW<|uV [] (List Int) ?_;intro b1 hb1;have h5:RL I0 [] ([]:List (List Int)):=rfl;refine yE 2 [] [15] rfl<|bE N fun y2 aG N=>rW (zCd ([]:List (List Int)) nest ([]:List Int) _ aG h5 h (SL.nil _)) rfl ?_;rintro bD aw v2 k2 aX - ⟨p1,c1,cs,rfl,rfl,h6⟩ -;refine yK [] [4] rfl<|zZ<|yH [19] rfl<|zK<|yG N ?_ ?_
 · intro aY N;refine yB<|uV [] (List Int) ?_;intro b2 hb2;have h7:RL bD [] ([]:List (List Int)):=rfl;refine yK [] [2,3] rfl<|xF<|zJ<|xB 0 rfl ?_;intro bI bf hl01;have h8:=SL.of_frozen hl01 bf h7;exact xO N (resU rfl rfl) zP ⟨_,_,rfl,rfl,h8,rfl⟩
 intro aY N;refine zS<|vW [2,3] rfl<|xF<|xB 0 rfl ?_;intro I06 bt hl02;have h9:=SL.of_frozen hl02 bt h6;exact xO N (resU rfl rfl) zP ⟨_,_,rfl,rfl,h9,rfl⟩
def dI (r:(List zG)):KT:=fun kk I' af v=>
  ∃ a0 c0 s0,af=[.osl (.slice a0 r.length c0) (Rp.sz zG) s0]/\v=tupV [(.slice a0 r.length c0)]/\RepL (Rp.rep I') (Rp.sz zG) s0 r
mutual
def rJ (out:(List zG)) (e0:zH):Option ((List zG)):=do
 let ah<-(do
   if (e0.Kind==3) then
    let y<-tZ e0.Read;let ap<-app 40 out ([y]:List zG);pure (id ap)
   else
    pure (id out)
     : Option (List zG))
 let bw<-vL (same e0) (same ah) (same 0);pure (id bw)
 partial_fixpoint
def vL (e0:zH) (bb:List zG) (i:Int):Option (List zG):=do
 if (decide (i<(e0.Kids.length:Int))) then
  let x<-idx e0.Kids i;let y1<-rJ (same bb) (same x);vL (same e0) (same y1) (W (i+1))
 else pure (id bb)
 partial_fixpoint
end
theorem zGx:(∀ (out:(List zG)) (e0:zH) r,rJ out e0=some r->∀ {I:Imm}{p c cs p1 c1 p2 c2 p3 c3},(RL I cs out)->(S4 I p1 e0.Index.Coefs c1)->(S4 I p2 e0.Read.Subs c2)->(S4 I p3 e0.Kids c3)->RT 73 [vS p out c,vA (cExpr e0 p1 c1 p2 c2 p3 c3)] I [hO zG (vS p out c) cs] (dI  r))/\(∀ (e0:zH) (bb:List zG) (i:Int) o,vL e0 bb i=some o->∀ {B}{I0 I:Imm}{Q p1 c1 p2 c2 p3 c3}{b}{p7 c7 bo},I0.le I->(S4 I p1 e0.Index.Coefs c1)->(S4 I p2 e0.Read.Subs c2)->(S4 I p3 e0.Kids c3)->(RL I bo bb)->NG Q->NO Q->(∀ I' bw p8 c8 bv,o=bw->I0.le I'->(RL I' bv bw)->T 30 B Q (.exit 0) I' [hO zG (vS p8 bw c8) bv] [(0,vS p8 bw c8)])->J Tryz.prog 30 B (nav (bodyOf f73) [1,1,0,1,0]) Q I [hB b (cExpr e0 p1 c1 p2 c2 p3 c3),hO zG (vS p7 bb c7) bo] [(0,vS p7 bb c7),(3,vP b 0),(5,vI i)]):=by
  refine rJ.mutual_partial_correctness _ _ ?_ ?_
  · intro F_spec_l3Reads_l1 ih_spec_l3Reads_l1 out e0 r N I p c cs p1 c1 p2 c2 p3 c3 h h1 h2 h3;refine yI func73 fun B=>?_;have H:=iS I;refine yB<|vJ (cExpr e0 p1 c1 p2 c2 p3 c3) ?_;intro b hb;refine wR [] []<|zZ<|yB<|yK [0] [8] rfl<|zK ?_;obtain ⟨o0,az,aT⟩:=zB N;refine oW (fun I' af m'=>∃ (ah:List zG) (p4:Option Addr) (c4:Nat) (av:List Value),o0=ah/\I.le I'/\(RL I' av ah)/\af=[hB b (cExpr e0 p1 c1 p2 c2 p3 c3),hO zG (vS p4 ah c4) av]/\m'=[(0,vS p4 ah c4),(3,vP b 0)]) ?_ ?_
    · have H:=iS I;refine yG az ?_ ?_
      · intro hc N;refine zM<|tL 3 [0] [(9,vS p out c),(11,vA (cAccess e0.Read p2 c2))]<|bE N fun y hy N=>xE (dR e0.Read _ hy h2) ?_;rintro aO aw v2 k2 le - ⟨p5,c5,aP,rfl,rfl,h5⟩ -;have ⟨h,H⟩:=m2 le h H;refine xX 0 rfl ?_;intro aV aa hl0;have h6:=SL.of_frozen hl0 aa h5;have ⟨h,H⟩:=m2 aa h H;refine uV (cAccess y p5 c5) zG ?_;intro b1 hb1;have h7:RL aV (cAccess y p5 c5) ([y]:List zG):=⟨(cAccess y p5 c5),_,rfl,rfl,(rK ⟨_,rfl,h6⟩),rfl⟩;obtain ⟨ap,ay,N⟩:=zB N;exact rF 67 2 2 rfl rfl rfl h (.inr ⟨0,rfl⟩) h7 ay fun p6 c6 aI h8=>tX (zY [1,2] (af:=[hB b (cExpr e0 p1 c1 p2 c2 p3 c3),hO zG (vS p6 ap c6) aI]))<|yK [] [0] rfl<|yU<|zU ⟨_,_,_,_,(zD N).symm,H,h8,rfl,rfl⟩
      intro hc N;exact zS<|yU<|zU ⟨_,_,_,_,(zD N).symm,H,h,rfl,rfl⟩
    rintro I0 aw m2 ⟨ah,p4,c4,av,heq,aA,h4,rfl,rfl⟩;subst o0;have ⟨h1,h2,h3⟩:=m3 aA h1 h2 h3;refine zZ<|yH [5] rfl<|wI<|qR [(0,vS p4 ah c4),(3,vP b 0),(5,vI 0)] ?_;obtain ⟨aN,aC,aF⟩:=zB aT;refine ih_spec_l3Reads_l1 e0 ah 0 aN aC iR h1 h2 h3 h4 nG nO ?_;intro bD bw p8 c8 bv heq1 aX h10;subst aN;refine zR<|vW [4] rfl<|zK<|xA ?_;exact xO aF (resT rfl) (zW [0] rfl (by decide)) ⟨_,_,_,rfl,rfl,h10⟩
  intro F_spec_l3Reads F_spec_l3Reads_l1 ih_spec_l3Reads ih_spec_l3Reads_l1 e0 bb i o N B I0 I Q p1 c1 p2 c2 p3 c3 b p7 c7 bo H h1 h2 h3 h9 hg ho hx;refine yQ hg ho<|yA<|yB<|yK [0] [19] rfl<|zK<|yG N ?_ ?_
  · intro aH N;refine zS<|zZ<|yF<|zM<|yE 4 [0] [22,24,25] rfl<|bE N fun x aG N=>xR rfl rfl h3 aG ?_;intro ad aL al aj;obtain ⟨p9,c9,aQ,aM,aJ,aW,rfl,h11,h12,h13⟩:=wQ aj;refine xH 0 al (cExpr x p9 c9 aQ aM aJ aW) (vA (cExpr x p9 c9 aQ aM aJ aW)) rfl<|tX (zY [1,0] (af:=[hO zG (vS p7 bb c7) bo,hB b (cExpr e0 p1 c1 p2 c2 p3 c3)]))<|bE N fun y1 bc N=>rW (ih_spec_l3Reads bb x _ bc h9 h11 h12 h13) rfl ?_;rintro bx aw v2 k2 aK - ⟨br,bd,cs6,rfl,rfl,h14⟩ -;have ⟨h1,h2,h3,H⟩:=m4 aK h1 h2 h3 H;exact yK [] [0] rfl<|zO<|zK<|zM<|yK [] [5] rfl<|yP<|pU (zW [1,0] rfl (by decide))<|oT<|ih_spec_l3Reads_l1 e0 y1 (W (i+1)) _ N H h1 h2 h3 h14 hg ho hx
  intro aH N;exact wP<|wF (zW [1] rfl (by decide))<|yU<|hx _ _ _ _ _ (zD N).symm H h9
theorem zD6:∀ out e0 r,rJ out e0=some r->∀ {I:Imm}{p c cs p1 c1 p2 c2 p3 c3},(RL I cs out)->(S4 I p1 e0.Index.Coefs c1)->(S4 I p2 e0.Read.Subs c2)->(S4 I p3 e0.Kids c3)->RT 73 [vS p out c,vA (cExpr e0 p1 c1 p2 c2 p3 c3)] I [hO zG (vS p out c) cs] (dI  r):=zGx.1
def rQ (a0:zE) (n0:Int) (i:Int):Option (Int):=do
 if (decide (i<(a0.Dims.length:Int))) then
  let x<-idx a0.Dims i;rQ a0 (W (n0*x)) (W (i+1))
 else pure (id n0)
 partial_fixpoint
theorem zGI (a0:zE):∀ (n0:Int) (i:Int) (o:Int),rQ a0 n0 i=some o->∀ {B}{I0 I:Imm}{Q p c}{b},I0.le I->(S4 I p a0.Dims c)->NG Q->NO Q->(∀ I' n01,o=n01->I0.le I'->T 20 B Q (.exit 0) I' [] [(3,vI n01)])->J Tryz.prog 20 B (nav (bodyOf f181) [1,1,0,1,0]) Q I [hB b (cArr a0 p c)] [(1,vP b 0),(3,vI n0),(4,vI i)]:=by
 refine rQ.partial_correctness a0 _ fun aE ih n0 i o N B I0 I Q p c b H h hg ho hx=>yQ hg ho<|yA<|yB<|yK [0] [9] rfl<|zK<|yG N ?_ ?_
 · intro hc N;refine zS<|zZ<|yF<|zM<|yE 4 [0] [12,14,15] rfl<|bE N fun x hy N=>xR rfl rfl h hy ?_;intro ad aL al aj;obtain rfl:=aj;exact xH 0 al [vI x] (vI x) rfl<|yK [] [3] rfl<|zO<|zK<|zM<|yK [] [4] rfl<|yP<|oT<|ih (W (n0*x)) (W (i+1)) _ N H h hg ho hx
 intro hc N;exact wP<|wF zP<|yU<|hx _ _ (zD N).symm H
def fE (a0:zE):Option (Int):=do
 let n01<-rQ a0 1 0;pure (id n01)
theorem zI3:∀ a0 r,fE a0=some r->∀ {I:Imm}{p c},(S4 I p a0.Dims c)->RT 181 [vA (cArr a0 p c)] I [] (xL  r):=by
 intro a0 r N I p c h;unfold fE at N;refine yI func181 fun B=>yB<|vJ (cArr a0 p c) ?_;intro b hb;refine wR [] []<|vW [3] rfl<|zZ<|yH [4] rfl<|wI<|qR [(1,vP b 0),(3,vI 1),(4,vI 0)] ?_;obtain ⟨o0,az,aF⟩:=zB N;refine zGI a0 1 0 o0 az iR h nG nO ?_;intro I0 n01 heq le;subst o0;refine zR<|vW [2] rfl<|zK<|xA ?_;obtain rfl:=zD aF;exact vV
def sG (list:(List zE)) (a0:zG) (ag:(List Int)) (i:Int) (n0:Int) (k0:Int):Option (Out Int (Int)):=do
 if (decide (k0<(a0.Subs.length:Int))) then
  let x2<-idx list i;if ((a0.Subs.length:Int) != (x2.Dims.length:Int)) then pure (.ret (-1))
  else
   let x3<-idx a0.Subs k0;let y1<-qP x3 ag;let t70<-(do
     if (decide (y1<0)) then pure true
     else
      let x4<-idx list i;let x5<-idx x4.Dims k0;pure (decide (y1>=x5))
       : Option Bool)
   if t70 then pure (.ret (-1))
   else
    let x6<-idx list i;let x7<-idx x6.Dims k0;sG list a0 ag i (W ((W (n0*x7))+y1)) (W (k0+1))
 else pure (.done n0)
 partial_fixpoint
theorem zGJ (list:(List zE)) (a0:zG) (ag:(List Int)) (i:Int):∀ (n0:Int) (k0:Int) (o:Out Int (Int)),sG list a0 ag i n0 k0=some o->∀ {B}{I0 I:Imm}{Q}{base:Int}{p c p1 c1 p2 c2}{b},I0.le I->(S4 I p list c)->(S4 I p2 ag c2)->(S4 I p1 a0.Subs c1)->NG Q->NO Q->(∀ I' n01,o=(.done n01)->I0.le I'->T 86 B Q (.exit 2) I' [] [(7,vI base),(9,vI n01)])->(∀ r I' af m',o=(.ret r)->I0.le I'->RS Tryz.prog f151 B (xL  r) I' af m'->T 86 B Q .ret I' af m')->J Tryz.prog 86 B (nav (bodyOf f151) [1,1,0,1,0,0,1,0,0,1,1,0,1,0]) Q I [hB b (cAccess a0 p1 c1)] [(0,vS p list c),(2,vS p2 ag c2),(4,vP b 0),(7,vI base),(8,vI i),(9,vI n0),(10,vI k0)]:=by
 refine sG.partial_correctness list a0 ag i _ fun aE ih n0 k0 o N B I0 I Q base p c p1 c1 p2 c2 b H h h2 h1 hg ho hx hr=>yQ hg ho<|yA<|yB<|yK [0] [37] rfl<|zK<|yG N ?_ ?_
 · intro aY N;refine zS<|zZ<|yF<|yA<|yA<|eI (by kernel_rfl) (by kernel_rfl)<|zAl 5 [0] [42,43,44] rfl<|bE N fun x2 bc N=>zB3 rfl rfl h bc ?_;intro ad2 bK bk bq;obtain ⟨p5,c5,rfl,h6⟩:=xP bq;refine zAl 7 [] [46] rfl<|zAz 1 bk [vS p5 x2.Dims c5] (vS p5 x2.Dims c5) rfl<|zKK [] [49] rfl<|zK<|yG N ?_ ?_
   · intro bC N;exact yH [6] rfl<|xF<|zJ<|zV<|zJ<|zJ<|hr _ _ _ _ (zD N).symm H ⟨_,_,(resT rfl),zP,⟨_,rfl,rfl,rfl⟩⟩
   intro bC N;refine zS<|yW<|yE 3 [0] [51,52] rfl<|bE N fun x3 bu N=>xR rfl rfl h1 bu ?_;intro ad3 ccs3 hat3 bB;obtain ⟨p6,c6,rfl,h7⟩:=yD bB;refine xH 0 hat3 (cAff x3 p6 c6) (vA (cAff x3 p6 c6)) rfl<|yE 6 [] [55] rfl<|bE N fun y1 bz N=>dP (fV x3 ag _ bz h7 h2) ?_;intro aO aa;have ⟨h,h2,h1,H⟩:=m4 aa h h2 h1 H;refine yK [] [11] rfl<|zZ<|yA ?_;refine wZ N [hB b (cAccess a0 p1 c1)] (fun t70=>[(0,vS p list c),(2,vS p2 ag c2),(4,vP b 0),(7,vI base),(8,vI i),(9,vI n0),(10,vI k0),(11,vI y1),(70,.bool t70)]) (fun o0 az=>?_) ?_
   · have H:=iS aO;refine zM<|yE 3 [] [59] rfl<|wL [59] az ?_ ?_
     · intro bJ N;exact wR [] [(70,vY)]<|yU<|zU (ct N H)
     intro bJ N;refine yE 6 [] [60,61,62] rfl<|bE N fun x4 hy6 N=>xR rfl rfl h hy6 ?_;intro ad4 ccs4 hat4 hrep4;obtain ⟨p7,c7,rfl,h9⟩:=xP hrep4;refine yE 8 [] [64] rfl<|xH 1 hat4 [vS p7 x4.Dims c7] (vS p7 x4.Dims c7) rfl<|yE 10 [] [66] rfl<|bE N fun x5 hy7 N=>xR rfl rfl h9 hy7 ?_;intro ad5 ccs5 hat5 hrep5;obtain rfl:=hrep5;exact xH 0 hat5 [vI x5] (vI x5) rfl<|yK [] [70] rfl<|yU<|zU (ct N H)
   intro t70 aV aA aT;have ⟨h,h2,h1,H⟩:=m4 aA h h2 h1 H;refine zK<|yG aT ?_ ?_
   · intro hc5 N;exact yH [6] rfl<|xF<|zJ<|zV<|zJ<|zJ<|hr _ _ _ _ (zD N).symm H ⟨_,_,(resT rfl),zP,⟨_,rfl,rfl,rfl⟩⟩
   intro hc5 N;refine zS<|zK<|zM<|yE 3 [] [71,72,73] rfl<|bE N fun x6 hy8 N=>xR rfl rfl h hy8 ?_;intro ad6 ccs6 hat6 hrep6;obtain ⟨p8,c8,rfl,h10⟩:=xP hrep6;refine yE 5 [] [75] rfl<|xH 1 hat6 [vS p8 x6.Dims c8] (vS p8 x6.Dims c8) rfl<|yE 7 [] [77] rfl<|bE N fun x7 hy9 N=>xR rfl rfl h10 hy9 ?_;intro ad7 ccs7 hat7 hrep7;obtain rfl:=hrep7;exact xH 0 hat7 [vI x7] (vI x7) rfl<|yK [] [9] rfl<|zO<|zK<|zM<|yK [] [10] rfl<|yP<|oT<|ih (W ((W (n0*x7))+y1)) (W (k0+1)) _ N H h h2 h1 hg ho hx hr
 intro aY N;exact wP<|wF zP<|yU<|hx _ _ (zD N).symm H
def sH (list:(List zE)) (a0:zG) (ag:(List Int)) (base:Int) (i:Int):Option (Out Unit (Int)):=do
 if (decide (i<(list.length:Int))) then
  let x<-idx list i;if (!(x.Name.l==a0.Array.l)) then
   let x1<-idx list i;let y<-fE x1;sH list a0 ag (W (base+y)) (W (i+1))
  else
   match<-sG list a0 ag i 0 0 with
   | .ret r0=>pure (.ret r0)
   | .done n01 =>
    pure (.ret (W (base+n01)))
 else pure (.done ())
 partial_fixpoint
theorem zGK (list:(List zE)) (a0:zG) (ag:(List Int)):∀ (base:Int) (i:Int) (o:Out Unit (Int)),sH list a0 ag base i=some o->∀ {B}{I0 I:Imm}{Q p c p1 c1 p2 c2}{b},I0.le I->(S4 I p list c)->(S4 I p2 ag c2)->(S4 I p1 a0.Subs c1)->NG Q->NO Q->(∀ I',o=(.done ())->I0.le I'->T 86 B Q (.exit 0) I' [] [])->(∀ r I' af m',o=(.ret r)->I0.le I'->RS Tryz.prog f151 B (xL  r) I' af m'->T 86 B Q .ret I' af m')->J Tryz.prog 86 B (nav (bodyOf f151) [1,1,0,1,0]) Q I [hB b (cAccess a0 p1 c1)] [(0,vS p list c),(2,vS p2 ag c2),(4,vP b 0),(7,vI base),(8,vI i)]:=by
 refine sH.partial_correctness list a0 ag _ fun aE ih base i o N B I0 I Q p c p1 c1 p2 c2 b H h h2 h1 hg ho hx hr=>yQ hg ho<|yA<|yH [15] rfl<|zK<|yG N ?_ ?_
 · intro hc N;refine zS<|zZ<|yF<|yA<|yA<|eI (by kernel_rfl) (by kernel_rfl)<|zAl 2 [] [18,19] rfl<|bE N fun x hy N=>zB3 rfl rfl h hy ?_;intro ad aL al aj;obtain ⟨p3,c3,rfl,h3⟩:=xP aj;refine zAl 4 [] [21] rfl<|zAz 0 al [vT x.Name.l] (vT x.Name.l) rfl<|zKK [0] [25] rfl<|zK<|yG N ?_ ?_
   · intro aH N;refine yB<|yE 3 [] [26,27,28] rfl<|bE N fun x1 ay N=>xR rfl rfl h ay ?_;intro ad1 bm au ax;obtain ⟨p4,c4,rfl,h4⟩:=xP ax;refine xH 0 au (cArr x1 p4 c4) (vA (cArr x1 p4 c4)) rfl<|bE N fun y aG N=>dP (zI3 x1 _ aG h4) ?_;intro I0 le;have ⟨h,h2,h1,H⟩:=m4 le h h2 h1 H;exact yK [] [7] rfl<|zK<|zEu<|gQ<|zR<|zK<|zM<|yK [] [8] rfl<|yP<|oT<|ih (W (base+y)) (W (i+1)) _ N H h h2 h1 hg ho hx hr
   intro aH N;refine zS<|vW [9] rfl<|zZ<|yH [10] rfl<|wI<|qR [(0,vS p list c),(2,vS p2 ag c2),(4,vP b 0),(7,vI base),(8,vI i),(9,vI 0),(10,vI 0)] ?_;obtain ⟨aN,aC,aF⟩:=zB N;refine zGJ list a0 ag i 0 0 aN aC iR h h2 h1 (fun _ _ _ h=>hg _ _ _ h) (fun _ _ h=>ho _ _ h) ?_ ?_
   · intro bx n01 heq1 aK;subst aN;have H:=H.trans aK;exact zR<|vW [6] rfl<|xF<|zV<|zJ<|zJ<|hr _ _ _ _ (zD aF).symm H ⟨_,_,(resT rfl),zP,⟨_,rfl,rfl,rfl⟩⟩
   intro r0 I9 hs9 m9 aS le9 aU;subst aS;exact zV<|zJ<|zV<|zJ<|zJ<|hr _ _ _ _ (zD aF).symm (H.trans le9) aU
 intro hc N;exact wP<|wF zP<|yU<|hx _  (zD N).symm H
def jN (list:(List zE)) (a0:zG) (ag:(List Int)):Option (Int):=do
 match<-sH list a0 ag 0 0 with
 | .ret r0=>pure r0
 | .done _ =>
  pure (-1)
theorem zEC:∀ list a0 ag r,jN list a0 ag=some r->∀ {I:Imm}{p c p1 c1 p2 c2},(S4 I p list c)->(S4 I p1 a0.Subs c1)->(S4 I p2 ag c2)->RT 151 [vS p list c,vA (cAccess a0 p1 c1),vS p2 ag c2] I [] (xL  r):=by
 intro list a0 ag r N I p c p1 c1 p2 c2 h h1 h2;unfold jN at N;refine yI func151 fun B=>yB<|vJ (cAccess a0 p1 c1) ?_;intro b hb;refine wR [] []<|vW [7] rfl<|zZ<|yH [8] rfl<|wI<|qR [(0,vS p list c),(2,vS p2 ag c2),(4,vP b 0),(7,vI 0),(8,vI 0)] ?_;obtain ⟨o02,ho02,hMl1⟩:=zB N;refine zGK list a0 ag 0 0 o02 ho02 iR h h2 h1 nG nO ?_ ?_
 · intro bD  heq2 aX;subst o02;refine zR<|vW [6] rfl<|zK<|xA ?_;obtain rfl:=zD hMl1;exact vV
 intro r0 I9 hs9 m9 aS le9 aU;subst aS;refine zV<|zJ ?_;obtain rfl:=zD hMl1;exact fO aU
def zCG (r:(List Int)×Int×Bool):KT:=fun kk I' af v=>
  ∃ v0 v1 v2,af=[]/\v=tupV [v0,v1,v2]/\SL I' v0 r.1/\v1=.int .i64 r.2.1/\v2=.bool r.2.2
def sT (list:(List zE)) (ag:(List Int)) (y:(List zG)) (out:List Int) (i:Int):Option (Out (List Int) ((List Int)×Int×Bool)):=do
 if (decide (i<(y.length:Int))) then
  let x<-idx y i;let y1<-jN list x ag;if (decide (y1<0)) then pure (.ret (([]:List Int),0,false))
  else
   let ap<-app 8 out ([y1]:List Int);sT list ag y ap (W (i+1))
 else pure (.done out)
 partial_fixpoint
theorem zFO (list:(List zE)) (ag:(List Int)) (y:(List zG)):∀ (out:List Int) (i:Int) (o:Out (List Int) ((List Int)×Int×Bool)),sT list ag y out i=some o->∀ {B}{I0 I:Imm}{Q}{s:zL}{p c p1 c1 p2 c2 p3 c3 p4 c4 p5 c5}{b}{p6 c6 cs p7 c7 av},I0.le I->(S4 I p list c)->(S4 I p5 ag c5)->(RL I cs y)->(S4 I p1 s.Write.Subs c1)->(S4 I p2 s.Value.Index.Coefs c2)->(S4 I p3 s.Value.Read.Subs c3)->(S4 I p4 s.Value.Kids c4)->(RL I av out)->NG Q->NO Q->(∀ I' ah p8 c8 aP,o=(.done ah)->I0.le I'->(RL I' aP ah)->T 49 B Q (.exit 0) I' [hO Int (vS p8 ah c8) aP,hB b (cStmt s p1 c1 p2 c2 p3 c3 p4 c4)] [(0,vS p list c),(2,vS p5 ag c5),(4,vP b 0),(9,vS p8 ah c8)])->(∀ r I' af m',o=(.ret r)->I0.le I'->RS Tryz.prog f110 B (zCG  r) I' af m'->T 49 B Q .ret I' af m')->J Tryz.prog 49 B (nav (bodyOf f110) [1,1,1,0,1,0]) Q I [hO zG (vS p6 y c6) cs,hO Int (vS p7 out c7) av,hB b (cStmt s p1 c1 p2 c2 p3 c3 p4 c4)] [(0,vS p list c),(2,vS p5 ag c5),(4,vP b 0),(9,vS p7 out c7),(10,vS p6 y c6),(11,vI i)]:=by
 refine sT.partial_correctness list ag y _ fun aE ih out i o N B I0 I Q s p c p1 c1 p2 c2 p3 c3 p4 c4 p5 c5 b p6 c6 cs p7 c7 av H h h5 h8 h1 h2 h3 h4 h9 hg ho hx hr=>yQ hg ho<|yA<|yH [22] rfl<|zK<|yG N ?_ ?_
 · intro hc N;refine zS<|zZ<|yF<|yB<|yE 3 [] [25,26,27] rfl<|bE N fun x ay N=>mA 0 rfl rfl rfl h8 ay ?_;intro ad aL al bG aj;obtain ⟨p9,c9,rfl,h11⟩:=uK aj;refine zCR 0 0 al bG (cAccess x p9 c9) (vA (cAccess x p9 c9)) rfl rfl<|yE 6 [] [30] rfl<|bE N fun y1 aG N=>dP (zEC list x ag _ aG h h11 h5) ?_;intro aO aa;have ⟨h,h5,h9,h8,h1,h2⟩:=m6 aa h h5 h9 h8 h1 h2;have ⟨h3,h4,H⟩:=m3 aa h3 h4 H;refine yK [] [12] rfl<|zZ<|yH [33] rfl<|zK<|yG N ?_ ?_
   · intro aH N;refine yB<|uV [] Int ?_;intro b3 hb3;have h13:RL aO [] ([]:List Int):=rfl;refine yK [] [6,7,8] rfl<|xF<|zJ<|zV<|zJ<|zJ<|xB 0 rfl ?_;intro aV aA hl0;have h14:=SL.of_frozen hl0 aA h13;have H:=H.trans aA;exact hr _ _ _ _ (zD N).symm H ⟨_,_,(.tmp rfl (resU rfl rfl)),zP,⟨_,_,_,rfl,rfl,h14,rfl,rfl⟩⟩
   intro aH N;refine zS<|zK<|zM<|yE 2 [] [35,36] rfl<|uV [vI y1] Int ?_;intro b4 hb4;have h15:RL aO [vI y1] ([y1]:List Int):=rI [y1];obtain ⟨ap,bc,N⟩:=zB N;exact rF 3 1 2 rfl rfl rfl h9 (.inr ⟨0,rfl⟩) h15 bc fun aQ aM aI h16=>tX (zY [1,2,3] (af:=[hO zG (vS p6 y c6) cs,hO Int (vS aQ ap aM) aI,hB b (cStmt s p1 c1 p2 c2 p3 c3 p4 c4)]))<|yK [] [9] rfl<|zO<|zK<|zM<|yK [] [11] rfl<|yP<|oT<|ih ap (W (i+1)) _ N H h h5 h8 h1 h2 h3 h4 h16 hg ho hx hr
 intro hc N;exact wP<|wF (zW [1,2] rfl (by decide))<|yU<|hx _ _ _ _ _ (zD N).symm H h9
def jU (list:(List zE)) (s:zL) (ag:(List Int)):Option ((List Int)×Int×Bool):=do
 let y<-rJ ([]:List zG) s.Value
 match<-sT list ag y ([]:List Int) 0 with
 | .ret r0=>pure r0
 | .done ah =>
  let y2<-jN list s.Write ag;if (decide (y2<0)) then pure (([]:List Int),0,false)
  else pure (ah,y2,true)
theorem zHd:∀ list s ag r,jU list s ag=some r->∀ {I:Imm}{p c p1 c1 p2 c2 p3 c3 p4 c4 p5 c5},(S4 I p list c)->(S4 I p1 s.Write.Subs c1)->(S4 I p2 s.Value.Index.Coefs c2)->(S4 I p3 s.Value.Read.Subs c3)->(S4 I p4 s.Value.Kids c4)->(S4 I p5 ag c5)->RT 110 [vS p list c,vA (cStmt s p1 c1 p2 c2 p3 c3 p4 c4),vS p5 ag c5] I [] (zCG  r):=by
 intro list s ag r N I p c p1 c1 p2 c2 p3 c3 p4 c4 p5 c5 h h1 h2 h3 h4 h5;unfold jU at N;refine yI func110 fun B=>yB<|vJ (cStmt s p1 c1 p2 c2 p3 c3 p4 c4) ?_;intro b hb;refine wR [] []<|yW<|uV [] Int ?_;intro b1 hb1;have h6:RL I [] ([]:List Int):=rfl;refine yK [] [9] rfl<|yW<|uV [] zG ?_;intro b2 hb2;have h7:RL I [] ([]:List zG):=rfl;refine tL 3 [2] [(17,vA (cExpr s.Value p2 c2 p3 c3 p4 c4))]<|bE N fun y hy N=>rW (zD6 ([]:List zG) s.Value _ hy h7 h2 h3 h4) rfl ?_;rintro I0 aw v2 k2 le - ⟨p6,c6,cs,rfl,rfl,h8⟩ -;have ⟨h,h5,h6,h1,h2,h3⟩:=m6 le h h5 h6 h1 h2 h3;have h4:=h4.mono le;refine yK [] [10] rfl<|zZ<|yH [11] rfl<|wI<|qR [(0,vS p list c),(2,vS p5 ag c5),(4,vP b 0),(9,vS (some ⟨b1,0,none⟩) ([]:List Int) 0),(10,vS p6 y c6),(11,vI 0)] ?_;obtain ⟨o0,az,aF⟩:=zB N;refine zFO list ag y ([]:List Int) 0 o0 az iR h h5 h8 h1 h2 h3 h4 h6 nG nO ?_ ?_
 · intro bx ah p8 c8 aP heq aK h10;subst o0;have ⟨h,h5,h1⟩:=m3 aK h h5 h1;refine zR<|yW<|tL 4 [1] [(39,vS p list c),(41,vA (cAccess s.Write p1 c1)),(42,vS p5 ag c5)] ?_;obtain ⟨y2,bu,N⟩:=zB aF;refine dP (zEC list s.Write ag _ bu h h1 h5) ?_;intro bD aX;have h10:=iM aX h10;refine yK [] [13] rfl<|zZ<|yH [45] rfl<|zK<|yG N ?_ ?_
   · intro aY N;refine yB<|uV [] Int ?_;intro b5 hb5;have h18:RL bD [] ([]:List Int):=rfl;refine yK [] [6,7,8] rfl<|xF<|zJ<|xB 0 rfl ?_;intro bI bf hl01;have h19:=SL.of_frozen hl01 bf h18;exact xO N (.tmp rfl (resU rfl rfl)) zP ⟨_,_,_,rfl,rfl,h19,rfl,rfl⟩
   intro aY N;refine zS<|vW [6,7,8] rfl<|xF<|xB 0 rfl ?_;intro I06 bt hl02;have h20:=SL.of_frozen hl02 bt h10;exact xO N (.tmp rfl (resU rfl rfl)) zP ⟨_,_,_,rfl,rfl,h20,rfl,rfl⟩
 intro r0 I9 hs9 m9 aS le9 aU;subst aS;refine zV<|zJ ?_;obtain rfl:=zD aF;exact fO aU
def sU (p:(List Int)) (i:Int):Option (Out Unit (Bool)):=do
 if (decide (i<(p.length:Int))) then
  let x<-idx p i;let y<-tA x 9999;if (!y) then pure (.ret false)
  else sU p (W (i+1))
 else pure (.done ())
 partial_fixpoint
theorem zFP (p:(List Int)):∀ (i:Int) (o:Out Unit (Bool)),sU p i=some o->∀ {B}{I0 I:Imm}{Q p1 c},I0.le I->(S4 I p1 p c)->NG Q->NO Q->(∀ I',o=(.done ())->I0.le I'->T 19 B Q (.exit 0) I' [] [(0,vS p1 p c)])->(∀ r I' af m',o=(.ret r)->I0.le I'->RS Tryz.prog f111 B (zT  r) I' af m'->T 19 B Q .ret I' af m')->J Tryz.prog 19 B (nav (bodyOf f111) [1,0,1,0]) Q I [] [(0,vS p1 p c),(3,vI i)]:=by
 refine sU.partial_correctness p _ fun aE ih i o N B I0 I Q p1 c H h hg ho hx hr=>yQ hg ho<|yA<|yH [7] rfl<|zK<|yG N ?_ ?_
 · intro hc N;refine zS<|zZ<|yF<|yB<|yE 2 [] [10,11] rfl<|bE N fun x hy N=>xR rfl rfl h hy ?_;intro ad aL al aj;obtain rfl:=aj;refine xH 0 al [vI x] (vI x) rfl<|bE N fun y ay N=>tH (zAt x 9999 _ ay ) ?_;intro I0 le;have ⟨h,H⟩:=m2 le h H;refine yK [] [15] rfl<|zK<|yG N ?_ ?_
   · intro aH N;exact wT [(2,vF)]<|xF<|zV<|zJ<|zJ<|hr _ _ _ _ (zD N).symm H ⟨_,_,(resT rfl),zP,⟨_,rfl,rfl,rfl⟩⟩
   intro aH N;exact zS<|zO<|zK<|zM<|yK [] [3] rfl<|yP<|oT<|ih (W (i+1)) _ N H h hg ho hx hr
 intro hc N;exact wP<|yU<|hx _  (zD N).symm H
def jV (p:(List Int)):Option (Bool):=do
 match<-sU p 0 with
 | .ret r0=>pure r0
 | .done _ =>
  pure (decide ((p.length:Int)<=4))
theorem zHe:∀ p r,jV p=some r->∀ {I:Imm}{p1 c},(S4 I p1 p c)->RT 111 [vS p1 p c] I [] (zT  r):=by
 intro p r N I p1 c h;unfold jV at N;refine yI func111 fun B=>wT []<|zZ<|yH [3] rfl<|wI<|qR [(0,vS p1 p c),(3,vI 0)] ?_;obtain ⟨o0,az,aF⟩:=zB N;refine zFP p 0 o0 az iR h nG nO ?_ ?_
 · intro aO  heq aa;subst o0;refine zR<|vW [2] rfl<|zK<|xA ?_;obtain rfl:=zD aF;exact vV
 intro r0 I9 hs9 m9 aS le9 aU;subst aS;refine zV<|zJ ?_;obtain rfl:=zD aF;exact fO aU
end Go.LN
