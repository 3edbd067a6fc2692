/- Helper of the proof (see the last text). -/
import Derived.Test.YtmlnffbepjijhaaGreatHM5
set_option linter.unusedVariables false
set_option linter.unusedSimpArgs false
namespace Go.LN
open Go.Proofs
set_option maxRecDepth 20000
def jL (a0:zA):Option (Bool):=do
 let t2←(do
   if ((a0.Coefs.length:Int) == 0) then
    pure (a0.Const == 0)
   else
    pure false
     : Option Bool)
 pure (id t2)
theorem zCE:∀ a0 r,jL a0=some r→∀ {I:Imm}{p c},(S4 I p a0.Coefs c)→RT 143 [vA (cAff a0 p c)] I [] (zT  r):=by
 intro a0 r N I p c h;unfold jL at N;refine yK Tryz.func143 fun B=>?_;have H:=iS I;refine yC<|uB (cAff a0 p c) ?_;intro b hb;refine wU [] []<|zK<|yD ?_;refine vL N [] (fun t2=>[(2,.bool t2)]) (fun o0 ho0=>?_) ?_
 · have H:=iS I;refine zM<|yE 5 [0] [7] rfl<|wJ [7] ho0 ?_ ?_
   · intro hc N;exact yL [0] [2] rfl<|wG zQ<|yV<|zU (ct N H)
   intro hc N;exact wU [] [(2,vF)]<|wG zQ<|yV<|zU (ct N H)
 intro t2 I0 le hMc;refine zK<|xC ?_;obtain rfl:=zC hMc;exact uN
def nN (a0:zF):Option (Bool):=do
 let t2←(do
   if (a0.Array.l == ([]:List UInt8)) then
    pure ((a0.Subs.length:Int) == 0)
   else
    pure false
     : Option Bool)
 pure (id t2)
theorem dJ:∀ a0 r,nN a0=some r→∀ {I:Imm}{p c},(S4 I p a0.Subs c)→RT 144 [vA (cAccess a0 p c)] I [] (zT  r):=by
 intro a0 r N I p c h;unfold nN at N;refine yK Tryz.func144 fun B=>?_;have H:=iS I;refine yC<|uB (cAccess a0 p c) ?_;intro b hb;refine wU [] []<|zK<|yD ?_;refine vL N [] (fun t2=>[(2,.bool t2)]) (fun o0 ho0=>?_) ?_
 · have H:=iS I;refine zM<|yE 4 [0] [6] rfl<|wJ [6] ho0 ?_ ?_
   · intro hc N;exact yL [0] [2] rfl<|wG zQ<|yV<|zU (ct N H)
   intro hc N;exact wU [] [(2,vF)]<|wG zQ<|yV<|zU (ct N H)
 intro t2 I0 le hMc;refine zK<|xC ?_;obtain rfl:=zC hMc;exact uN
def zE1 (b0:Nat) (r:Bool×Int):KT:=fun kk I' hs' v=>
  ∃ v0 k0,hs'=[.blk b0 ⟨k0⟩]∧v=tupV [v0]∧v0=.bool r.1∧Rp.rep I' k0 r.2
def tW (e0:zH) (depth:Int) (deep:Int) (count:Int):Option (Bool×Int):=do
 let t21←(do
   if (decide ((W (count + 1)) > 12)) then
    pure true
   else
    pure (decide (deep > 5))
     : Option Bool)
 if t21 then
  pure (false,(W (count + 1)))
 else
  let t51←(do
    if (e0.Kind != 1) then
     if (e0.Num != 0) then
      pure true
     else
      if (e0.Kind != 2) then
       let y←jL e0.Index
       if (!y) then
        pure true
       else
        if (e0.Kind != 3) then
         let y1←nN e0.Read
         pure (!y1)
        else
         pure false
      else
       if (e0.Kind != 3) then
        let y2←nN e0.Read
        pure (!y2)
       else
        pure false
    else
     if (e0.Kind != 2) then
      let y3←jL e0.Index
      if (!y3) then
       pure true
      else
       if (e0.Kind != 3) then
        let y4←nN e0.Read
        pure (!y4)
       else
        pure false
     else
      if (e0.Kind != 3) then
       let y5←nN e0.Read
       pure (!y5)
      else
       pure false
      : Option Bool)
  if t51 then
   pure (false,(W (count + 1)))
  else
   if (e0.Kind == 1) then
    let t8←(do
      let y6←vQ e0.Num 0 99
      if y6 then
       pure ((e0.Kids.length:Int) == 0)
      else
       pure false
        : Option Bool)
    pure (t8,(W (count + 1)))
   else
    if (e0.Kind == 2) then
     let t81←(do
       let y7←pZ e0.Index
       if y7 then
        let y8←qW e0.Index
        if (decide (y8 ≤ depth)) then
         pure ((e0.Kids.length:Int) == 0)
        else
         pure false
       else
        pure false
         : Option Bool)
     pure (t81,(W (count + 1)))
    else
     if (e0.Kind == 3) then
      let t82←(do
        let y9←jK e0.Read depth
        if y9 then
         pure ((e0.Kids.length:Int) == 0)
        else
         pure false
          : Option Bool)
      pure (t82,(W (count + 1)))
     else
      let t99←(do
        let y10←zA6 e0.Kind
        if (!y10) then
         pure true
        else
         pure ((e0.Kids.length:Int) != 2)
          : Option Bool)
      if t99 then
       pure (false,(W (count + 1)))
      else
       let (t83,x)←(do
         let x1←idx e0.Kids 0
         let (y12,y13)←tW (same x1) (same depth) (W (deep + 1)) (W (count + 1))
         if y12 then
          let x2←idx e0.Kids 1
          let (y15,y16)←tW (same x2) (same depth) (W (deep + 1)) (same y13)
          pure (y15,y16)
         else
          pure (false,y13)
           : Option (Bool×Int))
       pure (t83,x)
 partial_fixpoint
theorem zGH:∀ e0 depth deep count r,tW e0 depth deep count=some r→∀ {I:Imm}{p c p1 c1 p2 c2}{r0:Nat},(S4 I p e0.Index.Coefs c)→(S4 I p1 e0.Read.Subs c1)→(S4 I p2 e0.Kids c2)→RT 101 [vA (cExpr e0 p c p1 c1 p2 c2),vI depth,vI deep,vP r0 0] I [hB r0 [vI count]] (zE1 r0 r):=by
 refine tW.partial_correctness _ fun F_impl_exprScan ih_impl_exprScan e0 depth deep count r N I p c p1 c1 p2 c2 r0 h h1 h2=>yK Tryz.func101 fun B=>?_;have H:=iS I;refine yC<|uB (cExpr e0 p c p1 c1 p2 c2) ?_;intro b hb;refine wU [] []<|yW<|yE 5 [1] [12,13] rfl<|yY 1 [vI (W (count + 1))] rfl<|zX rfl<|zZ<|yD ?_;refine vL N [hB b (cExpr e0 p c p1 c1 p2 c2),hB r0 [vI (W (count + 1))]] (fun t21=>[(1,vI depth),(2,vI deep),(3,vP r0 0),(4,vP b 0),(21,.bool t21)]) (fun o0 ho0=>?_) ?_
 · have H:=iS I;refine zM<|yE 5 [1] [18] rfl<|wJ [18] ho0 ?_ ?_
   · intro hc N;exact wU [] [(21,vY)]<|yV<|zU (ct N H)
   intro hc N;exact yL [] [21] rfl<|yV<|zU (ct N H)
 intro t21 I0 le hMc;have ⟨h,h1,h2,H⟩:=m4 le h h1 h2 H;refine zK<|yG hMc ?_ ?_
 · intro hc1 N;refine uA [(8,vF)]<|xH<|zL ?_;obtain rfl:=zC N;exact xB ⟨_,_,(.tmp rfl ResV.nil),(zW [1] rfl (by decide)),⟨_,_,rfl,rfl,rfl,rfl⟩⟩
 intro hc1 N;refine zS<|zZ<|yD ?_;refine vL N [hB b (cExpr e0 p c p1 c1 p2 c2),hB r0 [vI (W (count + 1))]] (fun t51=>[(1,vI depth),(2,vI deep),(3,vP r0 0),(4,vP b 0),(51,.bool t51)]) (fun o01 ho01=>?_) ?_
 · have H:=iS I0;refine zM<|yE 4 [0] [25] rfl<|wJ [25] ho01 ?_ ?_
   · intro hc2 N;refine yE 9 [0] [30] rfl<|wJ [30] N ?_ ?_
     · intro hc3 N;exact wU [] [(51,vY)]<|yV<|zU (ct N H)
     intro hc3 N;refine yE 13 [0] [34] rfl<|wJ [34] N ?_ ?_
     · intro hc4 N;refine sK 15 [0] [(36,vA (cAff e0.Index p c))]<|bE N fun y hy N=>tS (zCE e0.Index _ hy h) ?_;intro I02 le1;have ⟨h1,H⟩:=m2 le1 h1 H;refine yE 20 [] [41] rfl<|wJ [41] N ?_ ?_
       · intro hc5 N;exact wU [] [(51,vY)]<|yV<|zU (ct N H)
       intro hc5 N;refine yE 24 [0] [45] rfl<|wJ [45] N ?_ ?_
       · intro hc6 N;refine sK 26 [0] [(47,vA (cAccess e0.Read p1 c1))]<|bE N fun y1 hy1 N=>tS (dJ e0.Read _ hy1 h1) ?_;intro I03 le2;have H:=H.trans le2;exact yL [] [51] rfl<|yV<|zU (ct N H)
       intro hc6 N;exact wU [] [(51,vF)]<|yV<|zU (ct N H)
     intro hc4 N;refine yE 24 [0] [41,45] rfl<|wJ [45] N ?_ ?_
     · intro hc7 N;refine sK 26 [0] [(47,vA (cAccess e0.Read p1 c1))]<|bE N fun y2 hy2 N=>tS (dJ e0.Read _ hy2 h1) ?_;intro I04 le3;have H:=H.trans le3;exact yL [] [51] rfl<|yV<|zU (ct N H)
     intro hc7 N;exact wU [] [(51,vF)]<|yV<|zU (ct N H)
   intro hc2 N;refine yE 13 [0] [30,34] rfl<|wJ [34] N ?_ ?_
   · intro hc8 N;refine sK 15 [0] [(36,vA (cAff e0.Index p c))]<|bE N fun y3 hy3 N=>tS (zCE e0.Index _ hy3 h) ?_;intro I05 le4;have ⟨h1,H⟩:=m2 le4 h1 H;refine yE 20 [] [41] rfl<|wJ [41] N ?_ ?_
     · intro hc9 N;exact wU [] [(51,vY)]<|yV<|zU (ct N H)
     intro hc9 N;refine yE 24 [0] [45] rfl<|wJ [45] N ?_ ?_
     · intro hc10 N;refine sK 26 [0] [(47,vA (cAccess e0.Read p1 c1))]<|bE N fun y4 hy4 N=>tS (dJ e0.Read _ hy4 h1) ?_;intro I06 le5;have H:=H.trans le5;exact yL [] [51] rfl<|yV<|zU (ct N H)
     intro hc10 N;exact wU [] [(51,vF)]<|yV<|zU (ct N H)
   intro hc8 N;refine yE 24 [0] [41,45] rfl<|wJ [45] N ?_ ?_
   · intro hc11 N;refine sK 26 [0] [(47,vA (cAccess e0.Read p1 c1))]<|bE N fun y5 hy5 N=>tS (dJ e0.Read _ hy5 h1) ?_;intro I07 le6;have H:=H.trans le6;exact yL [] [51] rfl<|yV<|zU (ct N H)
   intro hc11 N;exact wU [] [(51,vF)]<|yV<|zU (ct N H)
 intro t51 I01 le7 hMc1;have ⟨h,h1,h2,H⟩:=m4 le7 h h1 h2 H;refine zK<|yG hMc1 ?_ ?_
 · intro hc12 N;refine uA [(8,vF)]<|xH<|zL ?_;obtain rfl:=zC N;exact xB ⟨_,_,(.tmp rfl ResV.nil),(zW [1] rfl (by decide)),⟨_,_,rfl,rfl,rfl,rfl⟩⟩
 intro hc12 N;refine zS<|zZ<|yF<|yC<|yL [0] [52] rfl<|zK<|yG N ?_ ?_
 · intro hc13 N;refine yD ?_;refine vL N [hB r0 [vI (W (count + 1))]] (fun t8=>[(8,.bool t8)]) (fun o02 ho02=>?_) ?_
   · have H:=iS I01;refine zM<|yE 2 [0] [57] rfl ?_;obtain ⟨y6,hy6,N⟩:=zB ho02;refine tS (uR e0.Num 0 99 _ hy6 ) ?_;intro I09 le8;have H:=H.trans le8;refine yE 4 [] [59] rfl<|wJ [59] N ?_ ?_
     · intro hc14 N;exact yL [0] [8] rfl<|wG (zW [1] rfl (by decide))<|yV<|zU (ct N H)
     intro hc14 N;exact wU [] [(8,vF)]<|wG (zW [1] rfl (by decide))<|yV<|zU (ct N H)
   intro t8 I08 le9 hMc2;refine xH<|zV<|zL ?_;obtain rfl:=zC hMc2;exact xB ⟨_,_,(.tmp rfl ResV.nil),(zW [0] rfl (by decide)),⟨_,_,rfl,rfl,rfl,rfl⟩⟩
 intro hc13 N;refine yC<|yL [0] [65] rfl<|zK<|yG N ?_ ?_
 · intro hc15 N;refine yD ?_;refine vL N [hB r0 [vI (W (count + 1))]] (fun t81=>[(8,.bool t81)]) (fun o03 ho03=>?_) ?_
   · have H:=iS I01;refine zM<|sK 2 [0] [(70,vA (cAff e0.Index p c))] ?_;obtain ⟨y7,hy7,N⟩:=zB ho03;refine tS (kK e0.Index _ hy7 h) ?_;intro I011 le10;have ⟨h,H⟩:=m2 le10 h H;refine yE 4 [] [72] rfl<|wJ [72] N ?_ ?_
     · intro hc16 N;refine sK 6 [0] [(74,vA (cAff e0.Index p c))]<|bE N fun y8 hy8 N=>zAA (eX e0.Index _ hy8 h) ?_;intro I012 le11;have H:=H.trans le11;refine yE 11 [] [79] rfl<|wJ [79] N ?_ ?_
       · intro hc17 N;exact yL [0] [8] rfl<|wG (zW [1] rfl (by decide))<|yV<|zU (ct N H)
       intro hc17 N;exact wU [] [(8,vF)]<|wG (zW [1] rfl (by decide))<|yV<|zU (ct N H)
     intro hc16 N;exact wU [] [(8,vF)]<|wG (zW [1] rfl (by decide))<|yV<|zU (ct N H)
   intro t81 I010 le12 hMc3;refine xH<|zV<|zL ?_;obtain rfl:=zC hMc3;exact xB ⟨_,_,(.tmp rfl ResV.nil),(zW [0] rfl (by decide)),⟨_,_,rfl,rfl,rfl,rfl⟩⟩
 intro hc15 N;refine yC<|yL [0] [85] rfl<|zK<|yG N ?_ ?_
 · intro hc18 N;refine yD ?_;refine vL N [hB r0 [vI (W (count + 1))]] (fun t82=>[(8,.bool t82)]) (fun o04 ho04=>?_) ?_
   · have H:=iS I01;refine zM<|sK 3 [0] [(90,vA (cAccess e0.Read p1 c1)),(91,vI depth)] ?_;obtain ⟨y9,hy9,N⟩:=zB ho04;refine tS (zCD e0.Read depth _ hy9 h1) ?_;intro I014 le13;have H:=H.trans le13;refine yE 5 [] [93] rfl<|wJ [93] N ?_ ?_
     · intro hc19 N;exact yL [0] [8] rfl<|wG (zW [1] rfl (by decide))<|yV<|zU (ct N H)
     intro hc19 N;exact wU [] [(8,vF)]<|wG (zW [1] rfl (by decide))<|yV<|zU (ct N H)
   intro t82 I013 le14 hMc4;refine xH<|zV<|zL ?_;obtain rfl:=zC hMc4;exact xB ⟨_,_,(.tmp rfl ResV.nil),(zW [0] rfl (by decide)),⟨_,_,rfl,rfl,rfl,rfl⟩⟩
 intro hc18 N;refine yD ?_;refine vL N [hB b (cExpr e0 p c p1 c1 p2 c2),hB r0 [vI (W (count + 1))]] (fun t99=>[(1,vI depth),(2,vI deep),(3,vP r0 0),(4,vP b 0),(99,.bool t99)]) (fun o05 ho05=>?_) ?_
 · have H:=iS I01;refine zM<|yE 2 [0] [101] rfl ?_;obtain ⟨y10,hy10,N⟩:=zB ho05;refine tS (zIr e0.Kind _ hy10 ) ?_;intro I016 le15;have H:=H.trans le15;refine yE 5 [] [104] rfl<|wJ [104] N ?_ ?_
   · intro hc20 N;exact wU [] [(99,vY)]<|yV<|zU (ct N H)
   intro hc20 N;exact yL [0] [99] rfl<|yV<|zU (ct N H)
 intro t99 I015 le16 hMc5;have ⟨h2,H⟩:=m2 le16 h2 H;refine zK<|yG hMc5 ?_ ?_
 · intro hc21 N;refine uA [(8,vF)]<|xH<|zV<|zL ?_;obtain rfl:=zC N;exact xB ⟨_,_,(.tmp rfl ResV.nil),(zW [1] rfl (by decide)),⟨_,_,rfl,rfl,rfl,rfl⟩⟩
 intro hc21 N;refine zS<|zO<|zK<|yD ?_;obtain ⟨o06,ho06,hMc6⟩:=zB N;refine nI (fun I' hs' m'=>∃ (t83:Bool) (x:Int),o06=(t83,x)∧I015.le I'∧hs'=[hB r0 [vI x]]∧m'=[(8,.bool t83)]) ?_ ?_
 · have H:=iS I015;refine zM<|yE 2 [0] [111] rfl ?_;obtain ⟨x1,hy11,N⟩:=zB ho06;refine xT rfl rfl h2 hy11 ?_;intro ad ccs hat hrep;obtain ⟨p3,c3,p4,c4,p5,c5,rfl,h14,h15,h16⟩:=wS hrep;refine xM 0 hat (cExpr x1 p3 c3 p4 c4 p5 c5) (vA (cExpr x1 p3 c3 p4 c4 p5 c5)) rfl<|yE 8 [] [114,116,117] rfl<|sT (zY [1,0] (hs':=[hB r0 [vI (W (count + 1))],hB b (cExpr e0 p c p1 c1 p2 c2)])) ?_;obtain ⟨⟨y12,y13⟩,hy12,N⟩:=zB N;refine rP (ih_impl_exprScan x1 depth (W (deep + 1)) (W (count + 1)) _ hy12 h14 h15 h16) rfl ?_;rintro I018 hs2 v2 k2 le17 - ⟨v014,kk,rfl,rfl,rfl,h18⟩ -;have ⟨h2,H⟩:=m2 le17 h2 H;obtain rfl:=h18;refine yE 10 [] [119] rfl<|wJ [119] N ?_ ?_
   · intro hc22 N;refine yE 12 [1] [121] rfl<|bE N fun x2 hy13 N=>xT rfl rfl h2 hy13 ?_;intro ad1 ccs1 hat1 hrep1;obtain ⟨p6,c6,p7,c7,p8,c8,rfl,h19,h20,h21⟩:=wS hrep1;refine xM 0 hat1 (cExpr x2 p6 c6 p7 c7 p8 c8) (vA (cExpr x2 p6 c6 p7 c7 p8 c8)) rfl<|yE 18 [] [124,126,127] rfl ?_;obtain ⟨⟨y15,y16⟩,hy14,N⟩:=zB N;refine rP (ih_impl_exprScan x2 depth (W (deep + 1)) y13 _ hy14 h19 h20 h21) rfl ?_;rintro I019 hs2 v2 k2 le18 - ⟨v018,kk1,rfl,rfl,rfl,h23⟩ -;have H:=H.trans le18;obtain rfl:=h23;exact yL [] [8] rfl<|wG (zW [0] rfl (by decide))<|yV<|zU ⟨_,_,(zC N).symm,H,rfl,rfl⟩
   intro hc22 N;exact wU [] [(8,vF)]<|wG (zW [0] rfl (by decide))<|yV<|zU ⟨_,_,(zC N).symm,H,rfl,rfl⟩
 rintro I017 hs2 m2 ⟨t83,x,heq6,le19,rfl,rfl⟩;subst o06;refine zK<|xC ?_;obtain rfl:=zC hMc6;exact xB ⟨_,_,(.tmp rfl ResV.nil),(zW [0] rfl (by decide)),⟨_,_,rfl,rfl,rfl,rfl⟩⟩
def fD (s:zJ) (depth:Int):Option (Bool):=do
 let t4←(do
   let y←vQ depth 0 4
   if y then
    let y1←jK s.Write depth
    if y1 then
     let (y3,y4)←tW s.Value depth 1 0
     pure (id y3)
    else
     pure false
   else
    pure false
     : Option Bool)
 pure (id t4)
theorem zF3:∀ s depth r,fD s depth=some r→∀ {I:Imm}{p c p1 c1 p2 c2 p3 c3},(S4 I p s.Write.Subs c)→(S4 I p1 s.Value.Index.Coefs c1)→(S4 I p2 s.Value.Read.Subs c2)→(S4 I p3 s.Value.Kids c3)→RT 61 [vA (cStmt s p c p1 c1 p2 c2 p3 c3),vI depth] I [] (zT  r):=by
 intro s depth r N I p c p1 c1 p2 c2 p3 c3 h h1 h2 h3;unfold fD at N;refine yK Tryz.func61 fun B=>?_;have H:=iS I;refine yC<|uB (cStmt s p c p1 c1 p2 c2 p3 c3) ?_;intro b hb;refine wU [] []<|yW<|xR [vI 0] ?_;intro b1 hb1;refine yY 0 [vI 0] rfl<|zX rfl<|zK<|yD ?_;refine vL N [] (fun t4=>[(4,.bool t4)]) (fun o0 ho0=>?_) ?_
 · have H:=iS I;refine zM<|yE 1 [] [6] rfl ?_;obtain ⟨y,hy,N⟩:=zB ho0;refine tS (uR depth 0 4 _ hy ) ?_;intro I01 le;have ⟨h,h1,h2,h3,H⟩:=m5 le h h1 h2 h3 H;refine yE 3 [] [8] rfl<|wJ [8] N ?_ ?_
   · intro hc N;refine sK 6 [1] [(10,vA (cAccess s.Write p c)),(11,vI depth)]<|bE N fun y1 hy1 N=>tS (zCD s.Write depth _ hy1 h) ?_;intro I02 le1;have ⟨h1,h2,h3,H⟩:=m4 le1 h1 h2 h3 H;refine yE 9 [] [14] rfl<|wJ [14] N ?_ ?_
     · intro hc1 N;refine sK 12 [1] [(16,vA (cExpr s.Value p1 c1 p2 c2 p3 c3)),(17,vI depth)] ?_;obtain ⟨⟨y3,y4⟩,hy2,N⟩:=zB N;refine rP (zGH s.Value depth 1 0 _ hy2 h1 h2 h3) rfl ?_;rintro I03 hs2 v2 k2 le2 - ⟨v02,kk,rfl,rfl,rfl,h7⟩ -;have H:=H.trans le2;obtain rfl:=h7;exact yL [] [4] rfl<|wG zQ<|yV<|zU (ct N H)
     intro hc1 N;exact wU [] [(4,vF)]<|wG zQ<|yV<|zU (ct N H)
   intro hc N;exact wU [] [(4,vF)]<|wG zQ<|yV<|zU (ct N H)
 intro t4 I0 le3 hMc;refine zK<|xC ?_;obtain rfl:=zC hMc;exact uN
def uS (s:zJ) (x:zI):Option (Bool):=do
 let y←fD s (x.Nest.length:Int)
 pure (!y)
theorem zAo:∀ s x r,uS s x=some r→∀ {I:Imm}{p c p1 c1 p2 c2 p3 c3}{ad:Addr}{p4 c4 p5 c5},(S4 I p s.Write.Subs c)→(S4 I p1 s.Value.Index.Coefs c1)→(S4 I p2 s.Value.Read.Subs c2)→(S4 I p3 s.Value.Kids c3)→(S4 I p4 x.Nest c4)→(S4 I p5 x.Body c5)→(At I ad (cPart x p4 c4 p5 c5))→RT 60 [vA (cStmt s p c p1 c1 p2 c2 p3 c3),.pointer (some ad)] I [] (zT  r):=by
 intro s x r N I p c p1 c1 p2 c2 p3 c3 ad p4 c4 p5 c5 h h1 h2 h3 h4 h5 hat;unfold uS at N;refine yK Tryz.func60 fun B=>yC<|uB (cStmt s p c p1 c1 p2 c2 p3 c3) ?_;intro b hb;refine wU [] []<|yW<|sK 2 [0] [(4,vA (cStmt s p c p1 c1 p2 c2 p3 c3)),(5,.pointer (some ad))]<|xM 0 hat [vS p4 x.Nest c4] (vS p4 x.Nest c4) rfl<|yE 4 [] [7] rfl<|bE N fun y hy N=>tS (zF3 s (x.Nest.length:Int) _ hy h h1 h2 h3) fun I0 le=>wU [] [(3,.bool (!y))]<|zK<|xC ?_;obtain rfl:=zC N;exact uN
def mN (n0:Int):Option (Bool):=do
 let y←vQ n0 (-9999) 9999
 pure (!y)
theorem zF4:∀ n0 r,mN n0=some r→∀ {I:Imm} ,RT 102 [vI n0] I [] (zT  r):=by
 intro n0 r N I;unfold mN at N;refine yK Tryz.func102 fun B=>uA []<|yW<|yE 1 [] [3] rfl<|bE N fun y hy N=>tS (uR n0 (-9999) 9999 _ hy ) fun I0 le=>wU [] [(2,.bool (!y))]<|zK<|xC ?_;obtain rfl:=zC N;exact uN
def eY (point:(List Int)):Option (Bool):=do
 let t2←(do
   if (decide ((point.length:Int) ≤ 4)) then
    let y←xZ point mN
    pure (!y)
   else
    pure false
     : Option Bool)
 pure (id t2)
theorem zGf:∀ point r,eY point=some r→∀ {I:Imm}{p c},(S4 I p point c)→RT 62 [vS p point c] I [] (zT  r):=by
 intro point r N I p c h;unfold eY at N;refine yK Tryz.func62 fun B=>?_;have H:=iS I;refine uA []<|zK<|yD ?_;refine vL N [] (fun t2=>[(2,.bool t2)]) (fun o0 ho0=>?_) ?_
 · have H:=iS I;refine zM<|yE 4 [] [6] rfl<|wJ [6] ho0 ?_ ?_
   · intro hc N;refine yE 5 [] [7] rfl ?_;have hf0:FV1 Tryz.prog I [] (.func (.func 102) ⟨[]⟩ ⟨[]⟩) mN:=by
       refine FV1.intro ?_;intro I1 le1 x0 r u0 hF k0;obtain rfl:=k0;exact (zF4 x0 r hF ).mono (by rintro k i hs u ⟨v0,rfl,rfl,h⟩; exact ⟨rfl,h⟩)
     obtain ⟨y,hy,N⟩:=zB N;refine xG (qQ point mN _ hy h hf0) ?_;rintro I01 hs2 v2 k2 le - ⟨v0,rfl,rfl,rfl⟩ -;have H:=H.trans le;exact yL [] [2] rfl<|yV<|zU (ct N H)
   intro hc N;exact wU [] [(2,vF)]<|yV<|zU (ct N H)
 intro t2 I0 le1 hMc;refine zK<|xC ?_;obtain rfl:=zC hMc;exact uN
mutual
def jS (e0:zH):Option ((List zF)):=do
 if (e0.Kind == 3) then
  pure ([e0.Read]:List zF)
 else
  let out1←kI (same e0) ([]:List zF) (same 0)
  pure (id out1)
 partial_fixpoint
def kI (e0:zH) (out:List zF) (t15:Int):Option (List zF):=do
 if (decide (t15 < (e0.Kids.length:Int))) then
  let x←idx e0.Kids t15
  let y←jS (same x)
  let out2←app 40 out y
  kI (same e0) (same out2) (W (t15 + 1))
 else
  pure (id out)
 partial_fixpoint
end
theorem zH6:(∀ (e0:zH) r,jS e0=some r→∀ {I:Imm}{p c p1 c1 p2 c2},(S4 I p e0.Index.Coefs c)→(S4 I p1 e0.Read.Subs c1)→(S4 I p2 e0.Kids c2)→RT 30 [vA (cExpr e0 p c p1 c1 p2 c2)] I [] (eC  r))∧(∀ (e0:zH) (out:List zF) (t15:Int) o,kI e0 out t15=some o→∀ {B}{I0 I:Imm}{Q p2 c2 p3 c3 cs},I0.le I→(S4 I p2 e0.Kids c2)→(RL I cs out)→NG Q→NO Q→(∀ (I':Imm) (out1:List zF) (p4:Option Addr) (c4:Nat) (cs1:List Value),o=out1→I0.le I'→(RL I' cs1 out1)→T 25 B Q (.exit 0) I' [hO zF (vS p4 out1 c4) cs1] [(3,vS p4 out1 c4)])→J Tryz.prog 25 B (nav (bodyOf Tryz.f30) [1,1,1,0,1,0]) Q I [hO zF (vS p3 out c3) cs] [(3,vS p3 out c3),(13,vS p2 e0.Kids c2),(14,vI (e0.Kids.length:Int)),(15,vI t15)]):=by
  refine jS.mutual_partial_correctness _ _ ?_ ?_
  · intro F_impl_reads_l1 ih_impl_reads_l1 e0 r N I p c p1 c1 p2 c2 h h1 h2;refine yK Tryz.func30 fun B=>yC<|uB (cExpr e0 p c p1 c1 p2 c2) ?_;intro b hb;refine wU [] []<|zZ<|yC<|yL [0] [8] rfl<|zK<|yG N ?_ ?_
    · intro hc N;refine yC<|sK 2 [0] [(10,vA (cAccess e0.Read p1 c1))]<|tC (cAccess e0.Read p1 c1) zF ?_;intro b1 hb1;have h3:RL I (cAccess e0.Read p1 c1) ([e0.Read]:List zF):=⟨(cAccess e0.Read p1 c1),_,rfl,rfl,(rE ⟨_,rfl,h1⟩),rfl⟩;refine yL [] [2] rfl<|xH<|zL ?_;obtain rfl:=zC N;exact xB ⟨_,_,(.tmp rfl ResV.nil),(zW [0] rfl (by decide)),⟨_,_,_,rfl,rfl,h3⟩⟩
    intro hc N;refine zS<|zFn [(3,z0)]<|zZ<|yC<|yL [0] [13,14,15] rfl<|wM<|pP (zY [] (hs':=[]))<|pJ [(3,z0),(13,vS p2 e0.Kids c2),(14,vI (e0.Kids.length:Int)),(15,vI 0)]<|zA1 zF fun h4=>?_;obtain ⟨o0,ho0,hMl⟩:=zB N;refine ih_impl_reads_l1 e0 ([]:List zF) 0 o0 ho0 iR h2 h4 (fun _ _ _ h=>h) (fun _ _ h=>h) ?_;intro I01 out1 p4 c4 cs1 heq le1 h6;subst o0;refine zR<|uX [2] rfl<|zK<|xC ?_;obtain rfl:=zC hMl;exact xB ⟨_,_,(.tmp rfl ResV.nil),(zW [0] rfl (by decide)),⟨_,_,_,rfl,rfl,h6⟩⟩
  intro F_impl_reads F_impl_reads_l1 ih_impl_reads ih_impl_reads_l1 e0 out t15 o N B I0 I Q p2 c2 p3 c3 cs H h2 h5 hg ho hx;refine yU hg ho<|yH [16] rfl<|zZ<|yG N ?_ ?_
  · intro hc1 N;refine zS<|zZ<|yF<|yC<|bE N fun x hy N=>xT rfl rfl h2 hy ?_;intro ad ccs hat hrep;obtain ⟨p5,c5,p6,c6,p7,c7,rfl,h7,h8,h9⟩:=wS hrep;refine xM 0 hat (cExpr x p5 c5 p6 c6 p7 c7) (vA (cExpr x p5 c5 p6 c6 p7 c7)) rfl<|xR zExpr ?_;intro b2 hb2;refine yY 0 (cExpr x p5 c5 p6 c6 p7 c7) rfl<|zX rfl<|zK<|zM<|sK 2 [0] [(19,vS p3 out c3),(20,vA (cExpr x p5 c5 p6 c6 p7 c7))]<|bE N fun y hy1 N=>xG (ih_impl_reads x _ hy1 h7 h8 h9) ?_;rintro I0 hs2 v2 k2 le - ⟨p8,c8,cs2,rfl,rfl,h10⟩ -;have ⟨h2,h5,H⟩:=m3 le h2 h5 H;obtain ⟨out2,hy2,N⟩:=zB N;exact rY 67 2 2 rfl rfl rfl h5 (.inr ⟨0,rfl⟩) h10 hy2 fun p9 c9 cs3 h11=>sT (zY [1,2] (hs':=[hB b2 (cExpr x p5 c5 p6 c6 p7 c7),hO zF (vS p9 out2 c9) cs3]))<|yL [] [3] rfl<|zO<|zK<|zM<|yL [] [15] rfl<|yT<|pP (zW [1] rfl (by decide))<|nQ<|ih_impl_reads_l1 e0 out2 (W (t15 + 1)) _ N H h2 h11 hg ho hx
  intro hc1 N;exact wW<|yV<|hx _ _ _ _ _ (zC N).symm H h5
theorem zDz:∀ e0 r,jS e0=some r→∀ {I:Imm}{p c p1 c1 p2 c2},(S4 I p e0.Index.Coefs c)→(S4 I p1 e0.Read.Subs c1)→(S4 I p2 e0.Kids c2)→RT 30 [vA (cExpr e0 p c p1 c1 p2 c2)] I [] (eC  r):=zH6.1
def qD (a0:zD) (n0:Int) (t9:Int):Option (Int):=do
 if (decide (t9 < (a0.Dims.length:Int))) then
  let x←idx a0.Dims t9
  qD a0 (W (n0 * x)) (W (t9 + 1))
 else
  pure (id n0)
 partial_fixpoint
theorem zCn (a0:zD):∀ (n0:Int) (t9:Int) (o:Int),qD a0 n0 t9=some o→∀ {B}{I0 I:Imm}{Q p c},I0.le I→(S4 I p a0.Dims c)→NG Q→NO Q→(∀ (I':Imm) (n01:Int),o=n01→I0.le I'→T 18 B Q (.exit 0) I' [] [(3,vI n01)])→J Tryz.prog 18 B (nav (bodyOf Tryz.f81) [1,1,0,1,0]) Q I [] [(3,vI n0),(7,vS p a0.Dims c),(8,vI (a0.Dims.length:Int)),(9,vI t9)]:=by
 refine qD.partial_correctness a0 _ fun self ih n0 t9 o N B I0 I Q p c H h hg ho hx=>yU hg ho<|yH [10] rfl<|zZ<|yG N ?_ ?_
 · intro hc N;refine zS<|zZ<|yF<|yC<|bE N fun x hy N=>xT rfl rfl h hy ?_;intro ad ccs hat hrep;obtain rfl:=hrep;exact xM 0 hat [vI x] (vI x) rfl<|yL [] [5] rfl<|zK<|zM<|yL [] [3] rfl<|zO<|zK<|zM<|yL [] [9] rfl<|yT<|nQ<|ih (W (n0 * x)) (W (t9 + 1)) _ N H h hg ho hx
 intro hc N;exact wW<|yV<|hx _ _ (zC N).symm H
def jT (a0:zD):Option (Int):=do
 let n01←qD a0 1 0
 pure (id n01)
theorem zE2:∀ a0 r,jT a0=some r→∀ {I:Imm}{p c},(S4 I p a0.Dims c)→RT 81 [vA (cArr a0 p c)] I [] (wA  r):=by
 intro a0 r N I p c h;unfold jT at N;refine yK Tryz.func81 fun B=>yC<|uB (cArr a0 p c) ?_;intro b hb;refine wU [] []<|uX [3] rfl<|zZ<|yC<|yL [0] [7,8,9] rfl<|wM<|pP (zY [] (hs':=[]))<|pJ [(3,vI 1),(7,vS p a0.Dims c),(8,vI (a0.Dims.length:Int)),(9,vI 0)] ?_;obtain ⟨o0,ho0,hMl⟩:=zB N;refine zCn a0 1 0 o0 ho0 iR h (fun _ _ _ h=>h) (fun _ _ h=>h) ?_;intro I0 n01 heq le;subst o0;refine zR<|uX [2] rfl<|zK<|xC ?_;obtain rfl:=zC hMl;exact uN
def sZ (a0:zF) (point:(List Int)) (x:zD) (at0:Int) (t40:Int):Option (Out Int (Int)):=do
 if (decide (t40 < (a0.Subs.length:Int))) then
  let x1←idx a0.Subs t40
  let y1←tP x1 point
  let x2←idx x.Dims t40
  let y2←vQ y1 0 (W (x2 - 1))
  if (!y2) then
   pure (.ret (-1))
  else
   let x3←idx x.Dims t40
   sZ a0 point x (W ((W (at0 * x3)) + y1)) (W (t40 + 1))
 else
  pure (.done at0)
 partial_fixpoint
theorem zCF (a0:zF) (point:(List Int)) (x:zD):∀ (at0:Int) (t40:Int) (o:Out Int (Int)),sZ a0 point x at0 t40=some o→∀ {B}{I0 I:Imm}{Q}{first:Int}{p3 c2 p4 c3 p5 c4}{b2:Nat},I0.le I→(S4 I p4 point c3)→(S4 I p3 a0.Subs c2)→(S4 I p5 x.Dims c4)→NG Q→NO Q→(∀ (I':Imm) (at01:Int),o=(.done at01)→I0.le I'→T 71 B Q (.exit 2) I' [] [(7,vI first),(10,vI at01)])→(∀ r I' hs' m',o=(.ret r)→I0.le I'→RS Tryz.prog Tryz.f103 B (wA  r) I' hs' m'→T 71 B Q .ret I' hs' m')→J Tryz.prog 71 B (nav (bodyOf Tryz.f103) [1,1,0,1,0,0,1,1,0,0,1,1,1,1,0,1,0]) Q I [hB b2 (cArr x p5 c4)] [(2,vS p4 point c3),(7,vI first),(9,vP b2 0),(10,vI at0),(38,vS p3 a0.Subs c2),(39,vI (a0.Subs.length:Int)),(40,vI t40)]:=by
 refine sZ.partial_correctness a0 point x _ fun self ih at0 t40 o N B I0 I Q first p3 c2 p4 c3 p5 c4 b2 H h3 h2 h4 hg ho hx hr=>yU hg ho<|yH [41] rfl<|zZ<|yG N ?_ ?_
 · intro hc3 N;refine zS<|zZ<|yF<|yC<|yE 1 [] [42] rfl<|bE N fun x1 hy2 N=>xT rfl rfl h2 hy2 ?_;intro ad1 ccs1 hat1 hrep1;obtain ⟨p6,c5,rfl,h6⟩:=yB hrep1;refine xM 0 hat1 (cAff x1 p6 c5) (vA (cAff x1 p6 c5)) rfl<|xR [z0,vI 0] ?_;intro b3 hb3;refine yE 5 [] [11] rfl<|yY 0 (cAff x1 p6 c5) rfl<|zX rfl<|yW<|sK 2 [0] [(45,vA (cAff x1 p6 c5)),(46,vS p4 point c3)]<|bE N fun y1 hy3 N=>zAA (nE x1 point _ hy3 h6 h3) ?_;intro I01 le1;have ⟨h3,h2,h4,H⟩:=m4 le1 h3 h2 h4 H;refine yL [] [13] rfl<|zZ<|yC<|yE 4 [1] [48,50,51] rfl<|bE N fun x2 hy4 N=>xT rfl rfl h4 hy4 ?_;intro ad2 ccs2 hat2 hrep2;obtain rfl:=hrep2;refine xM 0 hat2 [vI x2] (vI x2) rfl<|yE 7 [] [54] rfl<|bE N fun y2 hy5 N=>tS (uR y1 0 (W (x2 - 1)) _ hy5 ) ?_;intro I02 le2;have ⟨h3,h2,h4,H⟩:=m4 le2 h3 h2 h4 H;refine yL [] [56] rfl<|zK<|yG N ?_ ?_
   · intro hc4 N;exact yH [6] rfl<|xH<|zL<|zV<|zL<|zL<|hr _ _ _ _ (zC N).symm H ⟨_,_,(.tmp rfl ResV.nil),zQ,⟨_,rfl,rfl,rfl⟩⟩
   intro hc4 N;refine zS<|zK<|zM<|yE 4 [1] [57,59,60] rfl<|bE N fun x3 hy6 N=>xT rfl rfl h4 hy6 ?_;intro ad3 ccs3 hat3 hrep3;obtain rfl:=hrep3;exact xM 0 hat3 [vI x3] (vI x3) rfl<|yL [] [10] rfl<|zO<|zK<|zM<|yL [] [40] rfl<|yT<|pP (zW [1] rfl (by decide))<|nQ<|ih (W ((W (at0 * x3)) + y1)) (W (t40 + 1)) _ N H h3 h2 h4 hg ho hx hr
 intro hc3 N;exact wW<|wG zQ<|yV<|hx _ _ (zC N).symm H
def tI (p:zG) (a0:zF) (point:(List Int)) (first:Int) (t17:Int):Option (Out Unit (Int)):=do
 if (decide (t17 < (p.Arrays.length:Int))) then
  let x←idx p.Arrays t17
  if (!(x.Name.l == a0.Array.l)) then
   let y←jT x
   tI p a0 point (W (first + y)) (W (t17 + 1))
  else
   if ((a0.Subs.length:Int) != (x.Dims.length:Int)) then
    pure (.ret (-1))
   else
    match←sZ a0 point x 0 0 with
    | .ret r0=>pure (.ret r0)
    | .done at01 =>
     pure (.ret (W (first + at01)))
 else
  pure (.done ())
 partial_fixpoint
theorem zCG (p:zG) (a0:zF) (point:(List Int)):∀ (first:Int) (t17:Int) (o:Out Unit (Int)),tI p a0 point first t17=some o→∀ {B}{I0 I:Imm}{Q p1 c p3 c2 p4 c3}{b1:Nat},I0.le I→(S4 I p4 point c3)→(S4 I p1 p.Arrays c)→(S4 I p3 a0.Subs c2)→NG Q→NO Q→(∀ (I':Imm) ,o=(.done ())→I0.le I'→T 71 B Q (.exit 0) I' [] [])→(∀ r I' hs' m',o=(.ret r)→I0.le I'→RS Tryz.prog Tryz.f103 B (wA  r) I' hs' m'→T 71 B Q .ret I' hs' m')→J Tryz.prog 71 B (nav (bodyOf Tryz.f103) [1,1,0,1,0]) Q I [hB b1 (cAccess a0 p3 c2)] [(2,vS p4 point c3),(4,vP b1 0),(7,vI first),(15,vS p1 p.Arrays c),(16,vI (p.Arrays.length:Int)),(17,vI t17)]:=by
 refine tI.partial_correctness p a0 point _ fun self ih first t17 o N B I0 I Q p1 c p3 c2 p4 c3 b1 H h3 h h2 hg ho hx hr=>yU hg ho<|yH [18] rfl<|zZ<|yG N ?_ ?_
 · intro hc N;refine zS<|zZ<|yF<|yC<|bE N fun x hy N=>xT rfl rfl h hy ?_;intro ad ccs hat hrep;obtain ⟨p5,c4,rfl,h4⟩:=xN hrep;refine xM 0 hat (cArr x p5 c4) (vA (cArr x p5 c4)) rfl<|xR [vT ([]),z0] ?_;intro b2 hb2;refine yY 0 (cArr x p5 c4) rfl<|zX rfl<|zZ<|yC<|yL [0,1] [25] rfl<|zK<|yG N ?_ ?_
   · intro hc1 N;refine yC<|sK 2 [0] [(26,vI first),(27,vA (cArr x p5 c4))]<|bE N fun y hy1 N=>zAA (zE2 x _ hy1 h4) ?_;intro I0 le;have ⟨h3,h,h2,H⟩:=m4 le h3 h h2 H;exact yL [] [7] rfl<|zK<|zEC<|jP<|zR<|zK<|zM<|yL [] [17] rfl<|yT<|pP (zW [1] rfl (by decide))<|nQ<|ih (W (first + y)) (W (t17 + 1)) _ N H h3 h h2 hg ho hx hr
   intro hc1 N;refine zS<|zZ<|yC<|yL [1,0] [36] rfl<|zK<|yG N ?_ ?_
   · intro hc2 N;exact yH [6] rfl<|xH<|zL<|zV<|zL<|zL<|hr _ _ _ _ (zC N).symm H ⟨_,_,(.tmp rfl ResV.nil),zQ,⟨_,rfl,rfl,rfl⟩⟩
   intro hc2 N;refine zS<|uX [10] rfl<|zZ<|yC<|yL [1] [38,39,40] rfl<|wM<|pP (zY [0] (hs':=[hB b2 (cArr x p5 c4)]))<|pJ [(2,vS p4 point c3),(7,vI first),(9,vP b2 0),(10,vI 0),(38,vS p3 a0.Subs c2),(39,vI (a0.Subs.length:Int)),(40,vI 0)] ?_;obtain ⟨o0,ho0,hMl⟩:=zB N;refine zCF a0 point x 0 0 o0 ho0 iR h3 h2 h4 (fun _ _ _ h=>hg _ _ _ h) (fun _ _ h=>ho _ _ h) ?_ ?_
   · intro I03 at01 heq le3;subst o0;have H:=H.trans le3;exact zR<|uX [6] rfl<|xH<|zV<|zL<|zL<|hr _ _ _ _ (zC hMl).symm H ⟨_,_,(.tmp rfl ResV.nil),zQ,⟨_,rfl,rfl,rfl⟩⟩
   intro r0 I9 hs9 m9 heq9 le9 hrs9;subst heq9;exact zV<|zL<|zV<|zL<|zL<|hr _ _ _ _ (zC hMl).symm (H.trans le9) hrs9
 intro hc N;exact wW<|wG zQ<|yV<|hx _  (zC N).symm H
def nF (p:zG) (a0:zF) (point:(List Int)):Option (Int):=do
 match←tI p a0 point 0 0 with
 | .ret r0=>pure r0
 | .done _ =>
  pure (-1)
theorem zA7:∀ p a0 point r,nF p a0 point=some r→∀ {I:Imm}{p1 c p2 c1 p3 c2 p4 c3},(S4 I p1 p.Arrays c)→(S4 I p2 p.Parts c1)→(S4 I p3 a0.Subs c2)→(S4 I p4 point c3)→RT 103 [vA (cProg p p1 c p2 c1),vA (cAccess a0 p3 c2),vS p4 point c3] I [] (wA  r):=by
 intro p a0 point r N I p1 c p2 c1 p3 c2 p4 c3 h h1 h2 h3;unfold nF at N;refine yK Tryz.func103 fun B=>yC<|uB (cProg p p1 c p2 c1) ?_;intro b hb;refine uB (cAccess a0 p3 c2) ?_;intro b1 hb1;refine wU [] []<|uX [7] rfl<|zZ<|yC<|yL [1] [15,16,17] rfl<|wM<|pP (zY [0] (hs':=[hB b1 (cAccess a0 p3 c2)]))<|pJ [(2,vS p4 point c3),(4,vP b1 0),(7,vI 0),(15,vS p1 p.Arrays c),(16,vI (p.Arrays.length:Int)),(17,vI 0)] ?_;obtain ⟨o01,ho01,hMl1⟩:=zB N;refine zCG p a0 point 0 0 o01 ho01 iR h3 h h2 (fun _ _ _ h=>h) (fun _ _ h=>h) ?_ ?_
 · intro I04  heq1 le4;subst o01;refine zR<|uX [6] rfl<|zK<|xC ?_;obtain rfl:=zC hMl1;exact uN
 intro r0 I9 hs9 m9 heq9 le9 hrs9;subst heq9;refine zV<|zL ?_;obtain rfl:=zC hMl1;exact xB hrs9
def pT (hsF:List HA) (r:Int):KT:=fun kk I' hs' v=>
  ∃ v0,hsF=hs'∧v=tupV [v0]∧v0=.int .i64 r
def xJ (s:(List zF)) (f0:(zF→Option Bool)) (t8:Int):Option (Out Unit (Int)):=do
 if (decide (t8 < (s.length:Int))) then
  let x←idx s t8
  let y←f0 x
  if y then
   pure (.ret t8)
  else
   xJ s f0 (W (t8 + 1))
 else
  pure (.done ())
 partial_fixpoint
theorem gJ (s:(List zF)) (f0:(zF→Option Bool)):∀ (t8:Int) (o:Out Unit (Int)),xJ s f0 t8=some o→∀ {B}{I0 I:Imm}{Q p c}{fv:Value}{hsF:List HA},I0.le I→(S4 I p s c)→(FV1 Tryz.prog I hsF fv f0)→NG Q→NO Q→(∀ (I':Imm) ,o=(.done ())→I0.le I'→T 19 B Q (.exit 0) I' hsF [])→(∀ r I' hs' m',o=(.ret r)→I0.le I'→RS Tryz.prog Tryz.f145 B (pT hsF r) I' hs' m'→T 19 B Q .ret I' hs' m')→J Tryz.prog 19 B (nav (bodyOf Tryz.f145) [1,0,1,0]) Q I hsF [(0,vS p s c),(1,fv),(7,vI (s.length:Int)),(8,vI t8)]:=by
 refine xJ.partial_correctness s f0 _ fun self ih t8 o N B I0 I Q p c fv hsF H h h1 hg ho hx hr=>yU hg ho<|yH [9] rfl<|zZ<|yG N ?_ ?_
 · intro hc N;refine zS<|zZ<|yF<|yH [5] rfl<|yW<|yE 3 [] [11,12,13] rfl<|bE N fun x hy N=>xT rfl rfl h hy ?_;intro ad ccs hat hrep;obtain ⟨p1,c1,rfl,h2⟩:=tB hrep;refine xM 0 hat (cAccess x p1 c1) (vA (cAccess x p1 c1)) rfl<|bE N fun y hy1 N=>zIa rfl rfl h1 hy1 ⟨_,rfl,(rE ⟨_,rfl,h2⟩)⟩ (List.append_nil _).symm ?_;rintro I0 v01 le rfl;refine vH (hs':=hsF) (List.append_nil _) ?_;have ⟨h,h1,H⟩:=m3 le h h1 H;refine zX rfl<|zK<|yG N ?_ ?_
   · intro hc1 N;exact yH [4] rfl<|xH<|zV<|zL<|zL<|hr _ _ _ _ (zC N).symm H ⟨_,_,(.tmp rfl ResV.nil),(fun _ h=>h),⟨_,rfl,rfl,rfl⟩⟩
   intro hc1 N;exact zS<|zO<|zK<|zM<|yL [] [8] rfl<|yT<|nQ<|ih (W (t8 + 1)) _ N H h h1 hg ho hx hr
 intro hc N;exact wW<|yV<|hx _  (zC N).symm H
def uG (s:(List zF)) (f0:(zF→Option Bool)):Option (Int):=do
 match←xJ s f0 0 with
 | .ret r0=>pure r0
 | .done _ =>
  pure (-1)
theorem fG:∀ s f0 r,uG s f0=some r→∀ {I:Imm}{p c}{fv:Value}{hsF:List HA},(S4 I p s c)→(FV1 Tryz.prog I hsF fv f0)→RT 145 [vS p s c,fv] I hsF (pT hsF r):=by
 intro s f0 r N I p c fv hsF h h1;unfold uG at N;refine yK Tryz.func145 fun B=>uA []<|zZ<|yH [7,8] rfl<|wM<|pJ [(0,vS p s c),(1,fv),(7,vI (s.length:Int)),(8,vI 0)] ?_;obtain ⟨o0,ho0,hMl⟩:=zB N;refine gJ s f0 0 o0 ho0 iR h h1 (fun _ _ _ h=>h) (fun _ _ h=>h) ?_ ?_
 · intro I01  heq le1;subst o0;refine zR<|uX [4] rfl<|zK<|xC ?_;obtain rfl:=zC hMl;exact xB ⟨_,_,(.tmp rfl ResV.nil),(fun _ h=>h),⟨_,rfl,rfl,rfl⟩⟩
 intro r0 I9 hs9 m9 heq9 le9 hrs9;subst heq9;refine zV<|zL ?_;obtain rfl:=zC hMl;exact xB hrs9
def jG (hsF:List HA) (r:Bool):KT:=fun kk I' hs' v=>
  ∃ v0,hsF=hs'∧v=tupV [v0]∧v0=.bool r
def wN (s:(List zF)) (f0:(zF→Option Bool)):Option (Bool):=do
 let y←uG s f0
 pure (decide (y ≥ 0))
theorem gK:∀ s f0 r,wN s f0=some r→∀ {I:Imm}{p c}{fv:Value}{hsF:List HA},(S4 I p s c)→(FV1 Tryz.prog I hsF fv f0)→RT 104 [vS p s c,fv] I hsF (jG hsF r):=by
 intro s f0 r N I p c fv hsF h h1;unfold wN at N;refine yK Tryz.func104 fun B=>uA []<|yW<|yE 2 [] [5,6] rfl<|bE N fun y hy N=>zFg (hs1:=hsF) (rest:=[]) rfl rfl rfl rfl (by kernel_rfl) rfl (List.append_nil _).symm (fG s f0 _ hy h h1) ?_;rintro I0 hs2 v2 k2 le - ⟨v0,rfl,rfl,rfl⟩ -;refine vH (hs':=hsF) (List.append_nil _) ?_;refine yL [] [4] rfl<|zK<|xC ?_;obtain rfl:=zC N;exact xB ⟨_,_,(.tmp rfl ResV.nil),(fun _ h=>h),⟨_,rfl,rfl,rfl⟩⟩
def sI (a0:zF) (x:zG) (x1:(List Int)):Option (Bool):=do
 let y←nF x a0 x1
 pure (decide (y < 0))
theorem zBe:∀ a0 x x1 r,sI a0 x x1=some r→∀ {I:Imm}{p c}{ad:Addr}{p1 c1 p2 c2}{ad1:Addr}{p3 c3},(S4 I p a0.Subs c)→(S4 I p1 x.Arrays c1)→(S4 I p2 x.Parts c2)→(At I ad (cProg x p1 c1 p2 c2))→(S4 I p3 x1 c3)→(At I ad1 [vS p3 x1 c3])→RT 105 [vA (cAccess a0 p c),.pointer (some ad),.pointer (some ad1)] I [] (zT  r):=by
 intro a0 x x1 r N I p c ad p1 c1 p2 c2 ad1 p3 c3 h h1 h2 hat h3 hat1;unfold sI at N;refine yK Tryz.func105 fun B=>yC<|uB (cAccess a0 p c) ?_;intro b hb;refine wU [] []<|yW<|xM 0 hat (cProg x p1 c1 p2 c2) (vA (cProg x p1 c1 p2 c2)) rfl<|sK 2 [0] [(6,vA (cAccess a0 p c))]<|xM 0 hat1 [vS p3 x1 c3] (vS p3 x1 c3) rfl<|bE N fun y hy N=>zAA (zA7 x a0 x1 _ hy h1 h2 h h3) fun I0 le=>wU [] [(4,.bool (decide (y < 0)))]<|zK<|xC ?_;obtain rfl:=zC N;exact uN
def nR (p:zG) (s:zJ) (point:(List Int)):Option (Bool):=do
 let t6←(do
   let y←nF p s.Write point
   if (decide (y ≥ 0)) then
    let y1←jS s.Value
    let y2←wN y1 (fun x0=>sI x0 p point)
    pure (!y2)
   else
    pure false
     : Option Bool)
 pure (id t6)
theorem zCV:∀ p s point r,nR p s point=some r→∀ {I:Imm}{p1 c p2 c1 p3 c2 p4 c3 p5 c4 p6 c5 p7 c6},(S4 I p1 p.Arrays c)→(S4 I p2 p.Parts c1)→(S4 I p3 s.Write.Subs c2)→(S4 I p4 s.Value.Index.Coefs c3)→(S4 I p5 s.Value.Read.Subs c4)→(S4 I p6 s.Value.Kids c5)→(S4 I p7 point c6)→RT 63 [vA (cProg p p1 c p2 c1),vA (cStmt s p3 c2 p4 c3 p5 c4 p6 c5),vS p7 point c6] I [] (zT  r):=by
 intro p s point r N I p1 c p2 c1 p3 c2 p4 c3 p5 c4 p6 c5 p7 c6 h h1 h2 h3 h4 h5 h6;unfold nR at N;refine yK Tryz.func63 fun B=>?_;have H:=iS I;refine yC<|uB (cProg p p1 c p2 c1) ?_;intro b hb;refine xW 0 rfl ?_;intro I0 le hl0;have hat:At I0 ⟨b,0,none⟩ (cProg p p1 c p2 c1):=At.of_blk hl0;have ⟨h,h1,h2,h3,h4,h5⟩:=m6 le h h1 h2 h3 h4 h5;have ⟨h6,H⟩:=m2 le h6 H;refine uB (cStmt s p3 c2 p4 c3 p5 c4 p6 c5) ?_;intro b1 hb1;refine uB [vS p7 point c6] ?_;intro b2 hb2;refine xW 0 rfl ?_;intro I01 le1 hl01;have hat1:At I01 ⟨b2,0,none⟩ [vS p7 point c6]:=At.of_blk hl01;have ⟨h,h1,h2,h3,h4,h5⟩:=m6 le1 h h1 h2 h3 h4 h5;have ⟨h6,hat,H⟩:=m3 le1 h6 hat H;refine wU [] []<|zK<|yD ?_;refine vL N [] (fun t6=>[(6,.bool t6)]) (fun o0 ho0=>?_) ?_
 · have H:=iS I01;refine zM<|xM 0 hat (cProg p p1 c p2 c1) (vA (cProg p p1 c p2 c1)) rfl<|sK 3 [0] [(9,vA (cAccess s.Write p3 c2))]<|xM 0 hat1 [vS p7 point c6] (vS p7 point c6) rfl ?_;obtain ⟨y,hy,N⟩:=zB ho0;refine zAA (zA7 p s.Write point _ hy h h1 h2 h6) ?_;intro I03 le2;have ⟨h,h1,hat,h6,hat1,h3⟩:=m6 le2 h h1 hat h6 hat1 h3;have ⟨h4,h5,H⟩:=m3 le2 h4 h5 H;refine yE 7 [] [13] rfl<|wJ [13] N ?_ ?_
   · intro hc N;refine sK 9 [0] [(15,vA (cExpr s.Value p4 c3 p5 c4 p6 c5))]<|bE N fun y1 hy1 N=>xG (zDz s.Value _ hy1 h3 h4 h5) ?_;rintro I04 hs2 v2 k2 le3 - ⟨p8,c7,cs,rfl,rfl,h8⟩ -;have ⟨h,h1,hat,h6,hat1,H⟩:=m6 le3 h h1 hat h6 hat1 H;refine yE 11 [] [17] rfl<|xW 0 rfl ?_;intro I05 le4 hl02;have h9:=SL.of_frozen hl02 le4 h8;have ⟨h,h1,hat,h6,hat1,H⟩:=m6 le4 h h1 hat h6 hat1 H;have hf0:FV1 Tryz.prog I05 [] (.func (.func 105) ⟨[]⟩ ⟨[vP b 0,vP b2 0]⟩) (fun x0=>sI x0 p point):=by
       refine FV1.intro ?_;intro I1 le1 x0 r u0 hF k0;obtain ⟨_,rfl,k0⟩:=k0;obtain ⟨p9,c8,rfl,h10⟩:=tB k0;exact (zBe x0 p point r hF h10 (h.mono le1) (h1.mono le1) (hat.mono le1) (h6.mono le1) (hat1.mono le1)).mono (by rintro k i hs u ⟨v0,rfl,rfl,h⟩; exact ⟨rfl,h⟩)
     obtain ⟨y2,hy2,N⟩:=zB N;refine xG (gK y1 (fun x0=>sI x0 p point) _ hy2 h9 hf0) ?_;rintro I06 hs2 v2 k2 le5 - ⟨v02,rfl,rfl,rfl⟩ -;have H:=H.trans le5;exact yL [] [6] rfl<|wG zQ<|yV<|zU (ct N H)
   intro hc N;exact wU [] [(6,vF)]<|wG zQ<|yV<|zU (ct N H)
 intro t6 I02 le6 hMc;refine zK<|xC ?_;obtain rfl:=zC hMc;exact uN
def oG (r:(List zN)×Bool):KT:=fun kk I' hs' v=>
  ∃ v0 v1,hs'=[]∧v=tupV [v0,v1]∧SL I' v0 r.1∧v1=.bool r.2
def uH (p:zG) (t26:Int) (x:zI) (x1:(List Int)) (out4:List zN) (t64:Int):Option (Out (List zN) ((List zN)×Bool)):=do
 if (decide (t64 < (x.Body.length:Int))) then
  let x2←idx x.Body t64
  let y7←nR p x2 x1
  if (!y7) then
   pure (.ret (([]:List zN),false))
  else
   let y8←tG x1
   let out6←app 40 out4 ([(zN.mk t26 t64 y8)]:List zN)
   uH p t26 x x1 out6 (W (t64 + 1))
 else
  pure (.done out4)
 partial_fixpoint
theorem zAf (p:zG) (t26:Int) (x:zI) (x1:(List Int)):∀ (out4:List zN) (t64:Int) (o:Out (List zN) ((List zN)×Bool)),uH p t26 x x1 out4 t64=some o→∀ {B}{I0 I:Imm}{Q}{y2:(List (List Int))}{t54:Int}{p1 c p2 c1}{b:Nat}{p5 c4 p6 c5}{b1:Nat}{p7 c6 p14 c13 p15 c14 cs4},I0.le I→(S4 I p5 x.Nest c4)→(S4 I p6 x.Body c5)→(At I ⟨b1,0,none⟩ (cPart x p5 c4 p6 c5))→(S4 I p14 x1 c13)→(S4 I p2 p.Parts c1)→(S4 I p7 y2 c6)→(S4 I p1 p.Arrays c)→(RL I cs4 out4)→NG Q→NO Q→(∀ (I':Imm) (out5:List zN) (p16:Option Addr) (c15:Nat) (cs5:List Value),o=(.done out5)→I0.le I'→(RL I' cs5 out5)→T 89 B Q (.exit 4) I' [hO zN (vS p16 out5 c15) cs5,hB b (cProg p p1 c p2 c1)] [(1,vP b 0),(4,vS p16 out5 c15),(5,vI t26),(6,vP b1 0),(24,vS p2 p.Parts c1),(25,vI (p.Parts.length:Int)),(26,vI t26),(52,vS p7 y2 c6),(53,vI (y2.length:Int)),(54,vI t54)])→(∀ r I' hs' m',o=(.ret r)→I0.le I'→RS Tryz.prog Tryz.f25 B (oG  r) I' hs' m'→T 89 B Q .ret I' hs' m')→J Tryz.prog 89 B (nav (bodyOf Tryz.f25) [1,1,1,0,1,0,0,1,1,0,0,1,1,1,1,0,0,1,1,0,0,1,1,1,0]) Q I [hO zN (vS p15 out4 c14) cs4,hB b (cProg p p1 c p2 c1)] [(1,vP b 0),(4,vS p15 out4 c14),(5,vI t26),(6,vP b1 0),(10,vS p14 x1 c13),(24,vS p2 p.Parts c1),(25,vI (p.Parts.length:Int)),(26,vI t26),(52,vS p7 y2 c6),(53,vI (y2.length:Int)),(54,vI t54),(62,vS p6 x.Body c5),(63,vI (x.Body.length:Int)),(64,vI t64)]:=by
 refine uH.partial_correctness p t26 x x1 _ fun self ih out4 t64 o N B I0 I Q y2 t54 p1 c p2 c1 b p5 c4 p6 c5 b1 p7 c6 p14 c13 p15 c14 cs4 H h6 h7 hat1 h18 h1 h8 h h20 hg ho hx hr=>yU hg ho<|yH [65] rfl<|zZ<|yG N ?_ ?_
 · intro hc8 N;refine zS<|zZ<|yF<|yC<|yE 1 [] [66] rfl<|bE N fun x2 hy7 N=>xT rfl rfl h7 hy7 ?_;intro ad2 ccs2 hat3 hrep2;obtain ⟨p17,c16,p18,c17,p19,c18,p20,c19,rfl,h22,h23,h24,h25⟩:=vC hrep2;refine xM 0 hat3 (cStmt x2 p17 c16 p18 c17 p19 c18 p20 c19) (vA (cStmt x2 p17 c16 p18 c17 p19 c18 p20 c19)) rfl<|xR [vT ([]),z0,vI 0,vI 0,z0,vI 0,vT ([]),z0,z0] ?_;intro b2 hb2;refine yE 5 [] [11] rfl<|yY 0 (cStmt x2 p17 c16 p18 c17 p19 c18 p20 c19) rfl<|zX rfl<|zZ<|yC<|sK 3 [2,0] [(69,vA (cProg p p1 c p2 c1)),(70,vA (cStmt x2 p17 c16 p18 c17 p19 c18 p20 c19)),(71,vS p14 x1 c13)]<|bE N fun y7 hy8 N=>tS (zCV p x2 x1 _ hy8 h h1 h22 h23 h24 h25 h18) ?_;intro I08 le8;have ⟨h20,h6,h7,hat1,h18,h1⟩:=m6 le8 h20 h6 h7 hat1 h18 h1;have ⟨h8,h,H⟩:=m3 le8 h8 h H;refine yL [] [73] rfl<|zK<|yG N ?_ ?_
   · intro hc9 N;exact yH [2,3] rfl<|xH<|zL<|zV<|zL<|zL<|hr _ _ _ _ (zC N).symm H ⟨_,_,(.tmp rfl (.tmp rfl ResV.nil)),zQ,⟨_,_,rfl,rfl,(SL.nil _),rfl⟩⟩
   intro hc9 N;refine zS<|zK<|zM<|yE 4 [] [74,75,76,77] rfl<|bE N fun y8 hy9 N=>xG (oE x1 _ hy9 h18) ?_;rintro I09 hs2 v2 k2 le9 - ⟨p21,c20,cs6,rfl,rfl,h27⟩ -;have ⟨h6,h7,hat1,h18,h1,h8⟩:=m6 le9 h6 h7 hat1 h18 h1 h8;have ⟨h20,h,H⟩:=m3 le9 h20 h H;refine yE 6 [] [79] rfl<|xW 0 rfl ?_;intro I010 le10 hl01;have h28:=SL.of_frozen hl01 le10 h27;have ⟨h6,h7,hat1,h18,h1,h8⟩:=m6 le10 h6 h7 hat1 h18 h1 h8;have ⟨h20,h,H⟩:=m3 le10 h20 h H;refine tC [vI t26,vI t64,vS p21 y8 c20] zN ?_;intro b3 hb3;have h29:RL I010 [vI t26,vI t64,vS p21 y8 c20] ([(zN.mk t26 t64 y8)]:List zN):=⟨[vI t26,vI t64,vS p21 y8 c20],_,rfl,rfl,(zAt ⟨_,rfl,h28⟩),rfl⟩;obtain ⟨out6,hy10,N⟩:=zB N;exact rY 64 3 2 rfl rfl rfl h20 (.inr ⟨0,rfl⟩) h29 hy10 fun p22 c21 cs7 h30=>sT (zY [1,2,3] (hs':=[hB b2 (cStmt x2 p17 c16 p18 c17 p19 c18 p20 c19),hO zN (vS p22 out6 c21) cs7,hB b (cProg p p1 c p2 c1)]))<|yL [] [4] rfl<|zO<|zK<|zM<|yL [] [64] rfl<|yT<|pP (zW [1,2] rfl (by decide))<|nQ<|ih out6 (W (t64 + 1)) _ N H h6 h7 hat1 h18 h1 h8 h h30 hg ho hx hr
 intro hc8 N;exact wW<|yV<|hx _ _ _ _ _ (zC N).symm H h20
def uI (p:zG) (t26:Int) (x:zI) (y2:(List (List Int))) (out2:List zN) (t54:Int):Option (Out (List zN) ((List zN)×Bool)):=do
 if (decide (t54 < (y2.length:Int))) then
  let x1←idx y2 t54
  let y6←eY x1
  if (!y6) then
   pure (.ret (([]:List zN),false))
  else
   match←uH p t26 x x1 out2 0 with
   | .ret r0=>pure (.ret r0)
   | .done out5 =>
    uI p t26 x y2 out5 (W (t54 + 1))
 else
  pure (.done out2)
 partial_fixpoint
theorem zAg (p:zG) (t26:Int) (x:zI) (y2:(List (List Int))):∀ (out2:List zN) (t54:Int) (o:Out (List zN) ((List zN)×Bool)),uI p t26 x y2 out2 t54=some o→∀ {B}{I0 I:Imm}{Q p1 c p2 c1}{b:Nat}{p5 c4 p6 c5}{b1:Nat}{p7 c6 p12 c11 cs2},I0.le I→(S4 I p5 x.Nest c4)→(S4 I p6 x.Body c5)→(At I ⟨b1,0,none⟩ (cPart x p5 c4 p6 c5))→(S4 I p2 p.Parts c1)→(S4 I p7 y2 c6)→(S4 I p1 p.Arrays c)→(RL I cs2 out2)→NG Q→NO Q→(∀ (I':Imm) (out3:List zN) (p13:Option Addr) (c12:Nat) (cs3:List Value),o=(.done out3)→I0.le I'→(RL I' cs3 out3)→T 89 B Q (.exit 2) I' [hO zN (vS p13 out3 c12) cs3,hB b (cProg p p1 c p2 c1)] [(1,vP b 0),(4,vS p13 out3 c12),(24,vS p2 p.Parts c1),(25,vI (p.Parts.length:Int)),(26,vI t26)])→(∀ r I' hs' m',o=(.ret r)→I0.le I'→RS Tryz.prog Tryz.f25 B (oG  r) I' hs' m'→T 89 B Q .ret I' hs' m')→J Tryz.prog 89 B (nav (bodyOf Tryz.f25) [1,1,1,0,1,0,0,1,1,0,0,1,1,1,1,0]) Q I [hO zN (vS p12 out2 c11) cs2,hB b (cProg p p1 c p2 c1)] [(1,vP b 0),(4,vS p12 out2 c11),(5,vI t26),(6,vP b1 0),(24,vS p2 p.Parts c1),(25,vI (p.Parts.length:Int)),(26,vI t26),(52,vS p7 y2 c6),(53,vI (y2.length:Int)),(54,vI t54)]:=by
 refine uI.partial_correctness p t26 x y2 _ fun self ih out2 t54 o N B I0 I Q p1 c p2 c1 b p5 c4 p6 c5 b1 p7 c6 p12 c11 cs2 H h6 h7 hat1 h1 h8 h h16 hg ho hx hr=>yU hg ho<|yH [55] rfl<|zZ<|yG N ?_ ?_
 · intro hc6 N;refine zS<|zZ<|yF<|yC<|bE N fun x1 hy5 N=>xT rfl rfl h8 hy5 ?_;intro ad1 ccs1 hat2 hrep1;obtain ⟨v011,rfl,h18⟩:=hrep1;obtain ⟨p14,c13,rfl⟩:=h18.form;refine xM 0 hat2 [vS p14 x1 c13] (vS p14 x1 c13) rfl<|yL [] [10] rfl<|zZ<|yC<|yE 1 [] [58] rfl<|bE N fun y6 hy6 N=>tS (zGf x1 _ hy6 h18) ?_;intro I07 le7;have ⟨h16,h6,h7,hat1,h18,h1⟩:=m6 le7 h16 h6 h7 hat1 h18 h1;have ⟨h8,h,H⟩:=m3 le7 h8 h H;refine yL [] [60] rfl<|zK<|yG N ?_ ?_
   · intro hc7 N;exact yH [2,3] rfl<|xH<|zL<|zV<|zL<|zL<|hr _ _ _ _ (zC N).symm H ⟨_,_,(.tmp rfl (.tmp rfl ResV.nil)),zQ,⟨_,_,rfl,rfl,(SL.nil _),rfl⟩⟩
   intro hc7 N;refine zS<|yW<|yE 1 [] [61] rfl<|xM 1 hat1 [vS p6 x.Body c5] (vS p6 x.Body c5) rfl<|yL [] [63,64] rfl<|wM<|pJ [(1,vP b 0),(4,vS p12 out2 c11),(5,vI t26),(6,vP b1 0),(10,vS p14 x1 c13),(24,vS p2 p.Parts c1),(25,vI (p.Parts.length:Int)),(26,vI t26),(52,vS p7 y2 c6),(53,vI (y2.length:Int)),(54,vI t54),(62,vS p6 x.Body c5),(63,vI (x.Body.length:Int)),(64,vI 0)] ?_;obtain ⟨o02,ho02,hMl⟩:=zB N;refine zAf p t26 x x1 out2 0 o02 ho02 iR h6 h7 hat1 h18 h1 h8 h h16 (fun _ _ _ h=>hg _ _ _ h) (fun _ _ h=>ho _ _ h) ?_ ?_
   · intro I011 out5 p16 c15 cs5 heq2 le11 h21;subst o02;have ⟨h6,h7,hat1,h1,h8,h⟩:=m6 le11 h6 h7 hat1 h1 h8 h;have H:=H.trans le11;exact zR<|zO<|zK<|zM<|yL [] [54] rfl<|yT<|nQ<|ih out5 (W (t54 + 1)) _ hMl H h6 h7 hat1 h1 h8 h h21 hg ho hx hr
   intro r0 I9 hs9 m9 heq9 le9 hrs9;subst heq9;exact zV<|zV<|zL<|zL<|hr _ _ _ _ (zC hMl).symm (H.trans le9) hrs9
 intro hc6 N;exact wW<|yV<|hx _ _ _ _ _ (zC N).symm H h16
def uJ (p:zG) (out:List zN) (t26:Int):Option (Out (List zN) ((List zN)×Bool)):=do
 if (decide (t26 < (p.Parts.length:Int))) then
  let x←idx p.Parts t26
  let (y2,y3)←jR x.Nest
  let t51←(do
    if (!y3) then
     pure true
    else
     let y4←vQ (x.Body.length:Int) 1 4
     if (!y4) then
      pure true
     else
      let y5←wT x.Body (fun x0=>uS x0 x)
      pure (id y5)
      : Option Bool)
  if t51 then
   pure (.ret (([]:List zN),false))
  else
   match←uI p t26 x y2 out 0 with
   | .ret r0=>pure (.ret r0)
   | .done out3 =>
    uJ p out3 (W (t26 + 1))
 else
  pure (.done out)
 partial_fixpoint
theorem zAh (p:zG):∀ (out:List zN) (t26:Int) (o:Out (List zN) ((List zN)×Bool)),uJ p out t26=some o→∀ {B}{I0 I:Imm}{Q p1 c p2 c1}{b:Nat}{p3 c2 cs},I0.le I→(S4 I p2 p.Parts c1)→(S4 I p1 p.Arrays c)→(RL I cs out)→NG Q→NO Q→(∀ (I':Imm) (out1:List zN) (p4:Option Addr) (c3:Nat) (cs1:List Value),o=(.done out1)→I0.le I'→(RL I' cs1 out1)→T 89 B Q (.exit 0) I' [hO zN (vS p4 out1 c3) cs1] [(4,vS p4 out1 c3)])→(∀ r I' hs' m',o=(.ret r)→I0.le I'→RS Tryz.prog Tryz.f25 B (oG  r) I' hs' m'→T 89 B Q .ret I' hs' m')→J Tryz.prog 89 B (nav (bodyOf Tryz.f25) [1,1,1,0,1,0]) Q I [hO zN (vS p3 out c2) cs,hB b (cProg p p1 c p2 c1)] [(1,vP b 0),(4,vS p3 out c2),(24,vS p2 p.Parts c1),(25,vI (p.Parts.length:Int)),(26,vI t26)]:=by
 refine uJ.partial_correctness p _ fun self ih out t26 o N B I0 I Q p1 c p2 c1 b p3 c2 cs H h1 h h4 hg ho hx hr=>yU hg ho<|yH [27] rfl<|zZ<|yG N ?_ ?_
 · intro hc2 N;refine zS<|zZ<|yF<|yC<|yE 1 [] [28] rfl<|bE N fun x hy1 N=>xT rfl rfl h1 hy1 ?_;intro ad ccs hat hrep;obtain ⟨p5,c4,p6,c5,rfl,h6,h7⟩:=wH hrep;refine xM 0 hat (cPart x p5 c4 p6 c5) (vA (cPart x p5 c4 p6 c5)) rfl<|xR zTwo ?_;intro b1 hb1;refine yE 5 [] [5] rfl<|yY 0 (cPart x p5 c4 p6 c5) rfl<|zX rfl<|yW<|yE 2 [0] [33] rfl ?_;obtain ⟨⟨y2,y3⟩,hy2,N⟩:=zB N;refine xG (zEZ x.Nest _ hy2 h6) ?_;rintro I02 hs2 v2 k2 le2 - ⟨v03,v04,rfl,rfl,h8,rfl⟩ -;have ⟨h4,h1,h6,h7,h,H⟩:=m6 le2 h4 h1 h6 h7 h H;obtain ⟨p7,c6,rfl⟩:=h8.form;refine yL [] [7,8] rfl<|zZ<|yD<|qT 0 rfl ?_;intro I03 le3 hl0;have hat1:At I03 ⟨b1,0,none⟩ (cPart x p5 c4 p6 c5):=At.of_blk hl0;have ⟨h4,h6,h7,h8,h1,h⟩:=m6 le3 h4 h6 h7 h8 h1 h;have H:=H.trans le3;refine vL N [hO zN (vS p3 out c2) cs,hB b (cProg p p1 c p2 c1)] (fun t51=>[(1,vP b 0),(4,vS p3 out c2),(5,vI t26),(6,vP b1 0),(7,vS p7 y2 c6),(24,vS p2 p.Parts c1),(25,vI (p.Parts.length:Int)),(26,vI t26),(51,.bool t51)]) (fun o01 ho01=>?_) ?_
   · have H:=iS I03;refine zM<|yE 3 [] [39] rfl<|wJ [39] ho01 ?_ ?_
     · intro hc3 N;exact wU [] [(51,vY)]<|yV<|zU (ct N H)
     intro hc3 N;refine yE 4 [] [40] rfl<|xM 1 hat1 [vS p6 x.Body c5] (vS p6 x.Body c5) rfl<|yE 6 [] [42] rfl<|bE N fun y4 hy3 N=>tS (uR (x.Body.length:Int) 1 4 _ hy3 ) ?_;intro I05 le4;have ⟨h6,h7,hat1,h,H⟩:=m5 le4 h6 h7 hat1 h H;refine yE 10 [] [46] rfl<|wJ [46] N ?_ ?_
     · intro hc4 N;exact wU [] [(51,vY)]<|yV<|zU (ct N H)
     intro hc4 N;refine yE 11 [] [47] rfl<|xM 1 hat1 [vS p6 x.Body c5] (vS p6 x.Body c5) rfl<|yE 13 [] [49] rfl ?_;have hf0:FV1 Tryz.prog I05 [] (.func (.func 60) ⟨[]⟩ ⟨[vP b1 0]⟩) (fun x0=>uS x0 x):=by
       refine FV1.intro ?_;intro I1 le1 x0 r u0 hF k0;obtain ⟨_,rfl,k0⟩:=k0;obtain ⟨p8,c7,p9,c8,p10,c9,p11,c10,rfl,h11,h12,h13,h14⟩:=vC k0;exact (zAo x0 x r hF h11 h12 h13 h14 (h6.mono le1) (h7.mono le1) (hat1.mono le1)).mono (by rintro k i hs u ⟨v0,rfl,rfl,h⟩; exact ⟨rfl,h⟩)
     obtain ⟨y5,hy4,N⟩:=zB N;refine xG (fO x.Body (fun x0=>uS x0 x) _ hy4 h7 hf0) ?_;rintro I06 hs2 v2 k2 le5 - ⟨v010,rfl,rfl,rfl⟩ -;have H:=H.trans le5;exact yL [] [51] rfl<|yV<|zU (ct N H)
   intro t51 I04 le6 hMc1;have ⟨h4,h6,h7,hat1,h8,h1⟩:=m6 le6 h4 h6 h7 hat1 h8 h1;have ⟨h,H⟩:=m2 le6 h H;refine zK<|yG hMc1 ?_ ?_
   · intro hc5 N;exact yH [2,3] rfl<|xH<|zL<|zV<|zL<|zL<|hr _ _ _ _ (zC N).symm H ⟨_,_,(.tmp rfl (.tmp rfl ResV.nil)),zQ,⟨_,_,rfl,rfl,(SL.nil _),rfl⟩⟩
   intro hc5 N;refine zS<|uX [52,53,54] rfl<|wM<|pJ [(1,vP b 0),(4,vS p3 out c2),(5,vI t26),(6,vP b1 0),(24,vS p2 p.Parts c1),(25,vI (p.Parts.length:Int)),(26,vI t26),(52,vS p7 y2 c6),(53,vI (y2.length:Int)),(54,vI 0)] ?_;obtain ⟨o03,ho03,hMl1⟩:=zB N;refine zAg p t26 x y2 out 0 o03 ho03 iR h6 h7 hat1 h1 h8 h h4 (fun _ _ _ h=>hg _ _ _ h) (fun _ _ h=>ho _ _ h) ?_ ?_
   · intro I012 out3 p13 c12 cs3 heq3 le12 h17;subst o03;have ⟨h1,h,H⟩:=m3 le12 h1 h H;exact zR<|zO<|zK<|zM<|yL [] [26] rfl<|yT<|nQ<|ih out3 (W (t26 + 1)) _ hMl1 H h1 h h17 hg ho hx hr
   intro r0 I9 hs9 m9 heq9 le9 hrs9;subst heq9;exact zV<|zV<|zL<|zL<|hr _ _ _ _ (zC hMl1).symm (H.trans le9) hrs9
 intro hc2 N;exact wW<|wG (zW [0] rfl (by decide))<|yV<|hx _ _ _ _ _ (zC N).symm H h4
def pO (p:zG):Option ((List zN)×Bool):=do
 let t22←(do
   let y←fR p.Arrays
   if (!y) then
    pure true
   else
    pure (decide ((p.Parts.length:Int) > 4))
     : Option Bool)
 if t22 then
  pure (([]:List zN),false)
 else
  match←uJ p ([]:List zN) 0 with
  | .ret r0=>pure r0
  | .done out1 =>
   pure (out1,(decide ((out1.length:Int) ≤ 120)))
theorem zBK:∀ p r,pO p=some r→∀ {I:Imm}{p1 c p2 c1},(S4 I p1 p.Arrays c)→(S4 I p2 p.Parts c1)→RT 25 [vA (cProg p p1 c p2 c1)] I [] (oG  r):=by
 intro p r N I p1 c p2 c1 h h1;unfold pO at N;refine yK Tryz.func25 fun B=>?_;have H:=iS I;refine yC<|uB (cProg p p1 c p2 c1) ?_;intro b hb;refine wU [] []<|zZ<|yD ?_;refine vL N [hB b (cProg p p1 c p2 c1)] (fun t22=>[(1,vP b 0),(22,.bool t22)]) (fun o0 ho0=>?_) ?_
 · have H:=iS I;refine zM<|yE 2 [0] [14] rfl ?_;obtain ⟨y,hy,N⟩:=zB ho0;refine tS (zGG p.Arrays _ hy h) ?_;intro I01 le;have H:=H.trans le;refine yE 5 [] [17] rfl<|wJ [17] N ?_ ?_
   · intro hc N;exact wU [] [(22,vY)]<|yV<|zU (ct N H)
   intro hc N;exact yL [0] [22] rfl<|yV<|zU (ct N H)
 intro t22 I0 le1 hMc;have ⟨h,h1⟩:=m2 le1 h h1;refine zK<|yG hMc ?_ ?_
 · intro hc1 N;refine yH [2,3] rfl<|xH<|zL ?_;obtain rfl:=zC N;exact xB ⟨_,_,(.tmp rfl (.tmp rfl ResV.nil)),zQ,⟨_,_,rfl,rfl,(SL.nil _),rfl⟩⟩
 intro hc1 N;refine zS<|zFn [(4,z0)]<|zZ<|yC<|yL [0] [24,25,26] rfl<|wM<|pJ [(1,vP b 0),(4,z0),(24,vS p2 p.Parts c1),(25,vI (p.Parts.length:Int)),(26,vI 0)]<|zA1 zN fun h3=>?_;obtain ⟨o04,ho04,hMl2⟩:=zB N;refine zAh p ([]:List zN) 0 o04 ho04 iR h1 h h3 (fun _ _ _ h=>h) (fun _ _ h=>h) ?_ ?_
 · intro I013 out1 p4 c3 cs1 heq4 le13 h5;subst o04;refine zR<|uX [2,3] rfl<|xH<|xD 0 rfl ?_;intro I014 le14 hl02;have h31:=SL.of_frozen hl02 le14 h5;obtain rfl:=zC hMl2;exact xB ⟨_,_,(.tmp rfl (.tmp rfl ResV.nil)),zQ,⟨_,_,rfl,rfl,h31,rfl⟩⟩
 intro r0 I9 hs9 m9 heq9 le9 hrs9;subst heq9;refine zV<|zL ?_;obtain rfl:=zC hMl2;exact xB hrs9
def oH (hsF:List HA) (r:Int):KT:=fun kk I' hs' v=>
  ∃ v0,hsF=hs'∧v=tupV [v0]∧v0=.int .i64 r
def xO (s:(List zD)) (f0:(zD→Option Bool)) (t8:Int):Option (Out Unit (Int)):=do
 if (decide (t8 < (s.length:Int))) then
  let x←idx s t8
  let y←f0 x
  if y then
   pure (.ret t8)
  else
   xO s f0 (W (t8 + 1))
 else
  pure (.done ())
 partial_fixpoint
theorem fE (s:(List zD)) (f0:(zD→Option Bool)):∀ (t8:Int) (o:Out Unit (Int)),xO s f0 t8=some o→∀ {B}{I0 I:Imm}{Q p c}{fv:Value}{hsF:List HA},I0.le I→(S4 I p s c)→(FV1 Tryz.prog I hsF fv f0)→NG Q→NO Q→(∀ (I':Imm) ,o=(.done ())→I0.le I'→T 19 B Q (.exit 0) I' hsF [])→(∀ r I' hs' m',o=(.ret r)→I0.le I'→RS Tryz.prog Tryz.f26 B (oH hsF r) I' hs' m'→T 19 B Q .ret I' hs' m')→J Tryz.prog 19 B (nav (bodyOf Tryz.f26) [1,0,1,0]) Q I hsF [(0,vS p s c),(1,fv),(7,vI (s.length:Int)),(8,vI t8)]:=by
 refine xO.partial_correctness s f0 _ fun self ih t8 o N B I0 I Q p c fv hsF H h h1 hg ho hx hr=>yU hg ho<|yH [9] rfl<|zZ<|yG N ?_ ?_
 · intro hc N;refine zS<|zZ<|yF<|yH [5] rfl<|yW<|yE 3 [] [11,12,13] rfl<|bE N fun x hy N=>xT rfl rfl h hy ?_;intro ad ccs hat hrep;obtain ⟨p1,c1,rfl,h2⟩:=xN hrep;refine xM 0 hat (cArr x p1 c1) (vA (cArr x p1 c1)) rfl<|bE N fun y hy1 N=>zIa rfl rfl h1 hy1 ⟨_,rfl,(uL ⟨_,rfl,h2⟩)⟩ (List.append_nil _).symm ?_;rintro I0 v01 le rfl;refine vH (hs':=hsF) (List.append_nil _) ?_;have ⟨h,h1,H⟩:=m3 le h h1 H;refine zX rfl<|zK<|yG N ?_ ?_
   · intro hc1 N;exact yH [4] rfl<|xH<|zV<|zL<|zL<|hr _ _ _ _ (zC N).symm H ⟨_,_,(.tmp rfl ResV.nil),(fun _ h=>h),⟨_,rfl,rfl,rfl⟩⟩
   intro hc1 N;exact zS<|zO<|zK<|zM<|yL [] [8] rfl<|yT<|nQ<|ih (W (t8 + 1)) _ N H h h1 hg ho hx hr
 intro hc N;exact wW<|yV<|hx _  (zC N).symm H
def wX (s:(List zD)) (f0:(zD→Option Bool)):Option (Int):=do
 match←xO s f0 0 with
 | .ret r0=>pure r0
 | .done _ =>
  pure (-1)
theorem fS:∀ s f0 r,wX s f0=some r→∀ {I:Imm}{p c}{fv:Value}{hsF:List HA},(S4 I p s c)→(FV1 Tryz.prog I hsF fv f0)→RT 26 [vS p s c,fv] I hsF (oH hsF r):=by
 intro s f0 r N I p c fv hsF h h1;unfold wX at N;refine yK Tryz.func26 fun B=>uA []<|zZ<|yH [7,8] rfl<|wM<|pJ [(0,vS p s c),(1,fv),(7,vI (s.length:Int)),(8,vI 0)] ?_;obtain ⟨o0,ho0,hMl⟩:=zB N;refine fE s f0 0 o0 ho0 iR h h1 (fun _ _ _ h=>h) (fun _ _ h=>h) ?_ ?_
 · intro I01  heq le1;subst o0;refine zR<|uX [4] rfl<|zK<|xC ?_;obtain rfl:=zC hMl;exact xB ⟨_,_,(.tmp rfl ResV.nil),(fun _ h=>h),⟨_,rfl,rfl,rfl⟩⟩
 intro r0 I9 hs9 m9 heq9 le9 hrs9;subst heq9;refine zV<|zL ?_;obtain rfl:=zC hMl;exact xB hrs9
def sU (a0:zD) (x:Str):Option (Bool):=do
 pure (a0.Name.l == x.l)
theorem zCo:∀ a0 x r,sU a0 x=some r→∀ {I:Imm}{p c}{ad:Addr},(S4 I p a0.Dims c)→(At I ad [vT x.l])→RT 27 [vA (cArr a0 p c),.pointer (some ad)] I [] (zT  r):=by
 intro a0 x r N I p c ad h hat;unfold sU at N;refine yK Tryz.func27 fun B=>yC<|uB (cArr a0 p c) ?_;intro b hb;refine wU [] []<|yW<|yE 2 [0] [5] rfl<|xM 0 hat [vT x.l] (vT x.l) rfl<|yL [] [3] rfl<|zK<|xC ?_;obtain rfl:=zC N;exact uN
def zAl (r:zF):KT:=fun kk I' hs' v=>
  ∃ v0,hs'=[]∧v=tupV [v0]∧(∃ cs,v0=.agg ⟨cs⟩∧Rp.rep I' cs r)
def pA (a0:zF) (change:(zA→Option zA)) (t14:Int) (Subs:List zA):Option (List zA):=do
 if (decide (t14 < (a0.Subs.length:Int))) then
  let x←idx a0.Subs t14
  let y←change x
  let l←app 32 Subs ([y]:List zA)
  pA a0 change (W (t14 + 1)) l
 else
  pure (id Subs)
 partial_fixpoint
theorem zDT (a0:zF) (change:(zA→Option zA)):∀ (t14:Int) (Subs:List zA) (o:List zA),pA a0 change t14 Subs=some o→∀ {B}{I0 I:Imm}{Q p c}{fv:Value}{b1:Nat}{b2:Nat}{p1 c1 cs},I0.le I→(FV1 Tryz.prog I [] fv change)→(S4 I p a0.Subs c)→(RL I cs Subs)→NG Q→NO Q→(∀ (I':Imm) (Subs1:List zA) (p2:Option Addr) (c2:Nat) (cs1:List Value),o=Subs1→I0.le I'→(RL I' cs1 Subs1)→T 28 B Q (.exit 0) I' [hO zA (vS p2 Subs1 c2) cs1,hB b2 [vT a0.Array.l,vS p2 Subs1 c2],hB b1 [vT ([]),z0]] [(4,vP b1 0),(5,vP b2 0)])→J Tryz.prog 28 B (nav (bodyOf Tryz.f157) [1,1,0,1,0]) Q I [hO zA (vS p1 Subs c1) cs,hB b2 [vT a0.Array.l,vS p1 Subs c1],hB b1 [vT ([]),z0]] [(1,fv),(4,vP b1 0),(5,vP b2 0),(12,vS p a0.Subs c),(13,vI (a0.Subs.length:Int)),(14,vI t14)]:=by
 refine pA.partial_correctness a0 change _ fun self ih t14 Subs o N B I0 I Q p c fv b1 b2 p1 c1 cs H h1 h h3 hg ho hx=>yU hg ho<|yH [15] rfl<|zZ<|yG N ?_ ?_
 · intro hc N;refine zS<|zZ<|yF<|yC<|bE N fun x hy N=>xT rfl rfl h hy ?_;intro ad ccs hat hrep;obtain ⟨p3,c3,rfl,h5⟩:=yB hrep;refine xM 0 hat (cAff x p3 c3) (vA (cAff x p3 c3)) rfl<|xR [z0,vI 0] ?_;intro b3 hb3;refine yY 0 (cAff x p3 c3) rfl<|zX rfl<|zK ?_;obtain ⟨y,hy1,N⟩:=zB N;obtain ⟨l,hy2,N⟩:=zB N;refine wV [.p (vP b2 1) [],.p (vS p1 Subs c1) [1],.p fv [],.p (vA (cAff x p3 c3)) [0],.x (eVAff y),.x (fun I' v hx=>∃ b4,v=vS (some ⟨b4,0,none⟩) ([y]:List zA) 1∧hx=[]∧(SL I' (vS (some ⟨b4,0,none⟩) ([y]:List zA) 1) ([y]:List zA))),.x (fun I' v hx=>∃ p5 c5 cs3,v=vS p5 l c5∧hx=[hO zA (vS p5 l c5) cs3]∧(RL I' cs3 l))] [[],[(0,false)],[],[],[(2,false),(3,false)],[(4,false)],[(1,false),(5,false),(9,true)]] [hB b3 (cAff x p3 c3),hB b2 [vT a0.Array.l,vS p1 Subs c1],hB b1 [vT ([]),z0]] [[hO zA (vS p1 Subs c1) cs]] [(6,true)] (zY [0,2,3,1]) ?_ ?_
   · refine Op<|Op<|Op<|Op<|Ox ?_<|Ox ?_<|Ox ?_<|On
     · intro I1 hf le1;refine yZ [20,21] rfl ?_;have H:=iS I1;have ⟨h1,h5⟩:=m2 le1 h1 h5;refine zNl rfl rfl h1 hy1 ⟨_,rfl,(yI ⟨_,rfl,h5⟩)⟩  ?_;rintro I0 v01 le ⟨cs2,rfl,h6⟩;have H:=H.trans le;obtain ⟨p4,c4,rfl,h7⟩:=yB h6;exact yM [] H ⟨_,_,rfl,rfl,h7⟩
     · rintro I1 hf le1 _ _ ⟨p4,c4,rfl,rfl,h7⟩;refine yZ [22] rfl ?_;have H:=iS I1;refine mP (rc y (yI ⟨_,rfl,h7⟩) rN) ?_;intro b4 I01 le1 h9;have H:=H.trans le1;exact yM [] H ⟨_,rfl,rfl,h9⟩
     rintro I1 hf le1 _ _ ⟨rfl,rfl⟩ _ _ ⟨b4,rfl,rfl,h9⟩ _ _ rfl;refine yZ [19,23] rfl ?_;have h3:=iM le1 h3;obtain ⟨ccs1,k0,k01⟩:=h9;have h9:SL I1 (vS (some ⟨b4,0,none⟩) ([y]:List zA) 1) ([y]:List zA):=⟨_,k0,k01⟩;exact rY 69 2 0 rfl rfl rfl h3 (.inl k0) k01 hy2 fun p5 c5 cs3 h10=>vH (hs':=(hO zA (vS p5 l c5) cs3::hB b3 (cAff x p3 c3)::hB b2 [vT a0.Array.l,vS p1 Subs c1]::hB b1 [vT ([]),z0]::hf)) rfl<|yM [hO zA (vS p5 l c5) cs3] iR ⟨_,_,_,rfl,rfl,h10⟩
   rintro I02 le2 _ _ ⟨p5,c5,cs3,rfl,rfl,h10⟩;refine yZ [1,4,5,12,13,14,24] rfl ?_;have ⟨h1,h,H⟩:=m3 le2 h1 h H;exact yE 8 [] [25] rfl<|yY 2 [vT a0.Array.l,vS p5 l c5] rfl<|zX rfl<|zO<|zK<|zM<|yL [] [14] rfl<|yT<|pP (zW [0,2,3] rfl (by decide))<|nQ<|ih (W (t14 + 1)) l _ N H h1 h h10 hg ho hx
 intro hc N;exact wW<|yV<|hx _ _ _ _ _ (zC N).symm H h3
def kW (a0:zF) (change:(zA→Option zA)):Option (zF):=do
 let Subs1←pA a0 change 0 ([]:List zA)
 pure (zF.mk a0.Array Subs1)
theorem zB3:∀ a0 change r,kW a0 change=some r→∀ {I:Imm}{p c}{fv:Value},(S4 I p a0.Subs c)→(FV1 Tryz.prog I [] fv change)→RT 157 [vA (cAccess a0 p c),fv] I [] (zAl  r):=by
 intro a0 change r N I p c fv h h1;unfold kW at N;refine yK Tryz.func157 fun B=>yC<|uB (cAccess a0 p c) ?_;intro b hb;refine xR [vT ([]),z0] ?_;intro b1 hb1;refine zX rfl<|yW<|sK 3 [1] [(10,vA [vT a0.Array.l,z0])]<|xR [vT ([]),z0] ?_;intro b2 hb2;refine yY 0 [vT a0.Array.l,z0] rfl<|zX rfl<|zZ<|yC<|yL [2] [12,13,14] rfl<|wM<|pP (zY [0,1] (hs':=[hB b2 [vT a0.Array.l,z0],hB b1 [vT ([]),z0]]))<|pJ [(1,fv),(4,vP b1 0),(5,vP b2 0),(12,vS p a0.Subs c),(13,vI (a0.Subs.length:Int)),(14,vI 0)]<|zA1 zA fun h2=>?_;obtain ⟨o0,ho0,hMl⟩:=zB N;refine zDT a0 change 0 ([]:List zA) o0 ho0 iR h1 h h2 (fun _ _ _ h=>h) (fun _ _ h=>h) ?_;intro I03 Subs1 p2 c2 cs1 heq le3 h4;subst o0;refine zR<|yW<|sK 1 [1] [(27,vA [vT a0.Array.l,vS p2 Subs1 c2])]<|yY 2 [vT a0.Array.l,vS p2 Subs1 c2] rfl<|zX rfl<|xH<|xD 0 rfl ?_;intro I04 le4 hl01;have h11:=SL.of_frozen hl01 le4 h4;obtain rfl:=zC hMl;exact xB ⟨_,_,(.cell 1 rfl rfl (by kernel_rfl) ResV.nil),zQ,⟨_,rfl,rfl,⟨_,rfl,(rE ⟨_,rfl,h11⟩)⟩⟩⟩
def eE (r:zH):KT:=fun kk I' hs' v=>
  ∃ v0,hs'=[]∧v=tupV [v0]∧(∃ cs,v0=.agg ⟨cs⟩∧Rp.rep I' cs r)
mutual
def kZ (e0:zH) (change:(zA→Option zA)):Option (zH):=do
 let (IndexCoefs,IndexConst,ReadArray,ReadSubs)←(do
   if (e0.Kind == 2) then
    let y←change e0.Index
    pure (y.Coefs,y.Const,(⟨[]⟩:Str),([]:List zA))
   else
    let (ReadArray1,ReadSubs1)←(do
      if (e0.Kind == 3) then
       let y1←kW e0.Read change
       pure (y1.Array,y1.Subs)
      else
       pure ((⟨[]⟩:Str),([]:List zA))
        : Option (Str×List zA))
    pure (([]:List Int),0,ReadArray1,ReadSubs1)
     : Option (List Int×Int×Str×List zA))
 let Kids1←pF (same e0) (same change) (same 0) ([]:List zH)
 pure (zH.mk e0.Kind e0.Num (zA.mk IndexCoefs IndexConst) (zF.mk ReadArray ReadSubs) Kids1)
 partial_fixpoint
def pF (e0:zH) (change:(zA→Option zA)) (t32:Int) (Kids:List zH):Option (List zH):=do
 if (decide (t32 < (e0.Kids.length:Int))) then
  let x←idx e0.Kids t32
  let y2←kZ (same x) (same change)
  let l←app 112 Kids ([y2]:List zH)
  pF (same e0) (same change) (W (t32 + 1)) (same l)
 else
  pure (id Kids)
 partial_fixpoint
end
theorem zGI:(∀ (e0:zH) (change:(zA→Option zA)) r,kZ e0 change=some r→∀ {I:Imm}{p c p1 c1 p2 c2}{fv:Value},(S4 I p e0.Index.Coefs c)→(S4 I p1 e0.Read.Subs c1)→(S4 I p2 e0.Kids c2)→(FV1 Tryz.prog I [] fv change)→RT 158 [vA (cExpr e0 p c p1 c1 p2 c2),fv] I [] (eE  r))∧(∀ (e0:zH) (change:(zA→Option zA)) (t32:Int) (Kids:List zH) o,pF e0 change t32 Kids=some o→∀ {B}{I0 I:Imm}{Q}{IndexCoefs:List Int}{IndexConst:Int}{ReadArray:Str}{ReadSubs:List zA}{p2 c2}{fv:Value}{b1:Nat}{b2:Nat}{p3 c3 p4 c4 p8 c8 cs2},I0.le I→(FV1 Tryz.prog I [] fv change)→(S4 I p2 e0.Kids c2)→(S4 I p3 IndexCoefs c3)→(S4 I p4 ReadSubs c4)→(RL I cs2 Kids)→NG Q→NO Q→(∀ (I':Imm) (Kids1:List zH) (p9:Option Addr) (c9:Nat) (cs3:List Value),o=Kids1→I0.le I'→(RL I' cs3 Kids1)→T 46 B Q (.exit 1) I' [hO zH (vS p9 Kids1 c9) cs3,hB b2 [vI e0.Kind,vI e0.Num,vS p3 IndexCoefs c3,vI IndexConst,vT ReadArray.l,vS p4 ReadSubs c4,vS p9 Kids1 c9],hB b1 zExpr] [(4,vP b1 0),(5,vP b2 0)])→J Tryz.prog 46 B (nav (bodyOf Tryz.f158) [1,1,1,0,1,0]) Q I [hO zH (vS p8 Kids c8) cs2,hB b2 [vI e0.Kind,vI e0.Num,vS p3 IndexCoefs c3,vI IndexConst,vT ReadArray.l,vS p4 ReadSubs c4,vS p8 Kids c8],hB b1 zExpr] [(1,fv),(4,vP b1 0),(5,vP b2 0),(30,vS p2 e0.Kids c2),(31,vI (e0.Kids.length:Int)),(32,vI t32)]):=by
  refine kZ.mutual_partial_correctness _ _ ?_ ?_
  · intro F_impl_exprMap_l1 ih_impl_exprMap_l1 e0 change r N I p c p1 c1 p2 c2 fv h h1 h2 h3;refine yK Tryz.func158 fun B=>?_;have H:=iS I;refine yC<|uB (cExpr e0 p c p1 c1 p2 c2) ?_;intro b hb;refine xR zExpr ?_;intro b1 hb1;refine zX rfl<|yW<|sK 5 [1,1] [(12,vA [vI e0.Kind,vI e0.Num,z0,vI 0,vT ([]),z0,z0])]<|xR zExpr ?_;intro b2 hb2;refine yY 0 [vI e0.Kind,vI e0.Num,z0,vI 0,vT ([]),z0,z0] rfl<|zX rfl<|zZ<|yC<|yL [2] [14] rfl<|wM<|yH [15] rfl<|zK ?_;obtain ⟨o0,ho0,hMc⟩:=zB N;refine nI (fun I' hs' m'=>∃ (IndexCoefs:List Int) (IndexConst:Int) (ReadArray:Str) (ReadSubs:List zA) (p3:Option Addr) (c3:Nat) (p4:Option Addr) (c4:Nat),o0=(IndexCoefs,IndexConst,ReadArray,ReadSubs)∧I.le I'∧(S4 I' p3 IndexCoefs c3)∧(S4 I' p4 ReadSubs c4)∧hs'=[hB b2 [vI e0.Kind,vI e0.Num,vS p3 IndexCoefs c3,vI IndexConst,vT ReadArray.l,vS p4 ReadSubs c4,z0],hB b1 zExpr,hB b (cExpr e0 p c p1 c1 p2 c2)]∧m'=[(1,fv),(2,vP b 0),(4,vP b1 0),(5,vP b2 0)]) ?_ ?_
    · have H:=iS I;refine yG ho0 ?_ ?_
      · intro hc N;refine zM<|sK 3 [2] [(17,fv),(19,vA (cAff e0.Index p c))]<|bE N fun y hy N=>zNl rfl rfl h3 hy ⟨_,rfl,(yI ⟨_,rfl,h⟩)⟩  ?_;rintro I01 v0 le ⟨cs,rfl,h6⟩;have H:=H.trans le;obtain ⟨p5,c5,rfl,h7⟩:=yB h6;exact yE 5 [] [21] rfl<|yY 0 [vI e0.Kind,vI e0.Num,vS p5 y.Coefs c5,vI y.Const,vT ([]),z0,z0] rfl<|zX rfl<|yV<|zU ⟨_,_,_,_,_,_,_,_,(zC N).symm,H,h7,(SL.nil _),rfl,rfl⟩
      intro hc N;refine yH [22] rfl<|zK ?_;obtain ⟨o01,ho01,hMc1⟩:=zB N;refine nI (fun I' hs' m'=>∃ (ReadArray1:Str) (ReadSubs1:List zA) (p6:Option Addr) (c6:Nat),o01=(ReadArray1,ReadSubs1)∧I.le I'∧(S4 I' p6 ReadSubs1 c6)∧hs'=[hB b2 [vI e0.Kind,vI e0.Num,z0,vI 0,vT ReadArray1.l,vS p6 ReadSubs1 c6,z0],hB b1 zExpr,hB b (cExpr e0 p c p1 c1 p2 c2)]∧m'=[(1,fv),(2,vP b 0),(4,vP b1 0),(5,vP b2 0)]) ?_ ?_
      · have H:=iS I;refine yG ho01 ?_ ?_
        · intro hc1 N;refine zM<|sK 3 [2] [(25,vA (cAccess e0.Read p1 c1)),(26,fv)]<|bE N fun y1 hy1 N=>xG (zB3 e0.Read change _ hy1 h1 h3) ?_;rintro I03 hs2 v2 k2 le1 - ⟨v02,rfl,rfl,⟨cs1,rfl,h9⟩⟩ -;have H:=H.trans le1;obtain ⟨p7,c7,rfl,h10⟩:=tB h9;exact yE 5 [] [28] rfl<|yY 0 [vI e0.Kind,vI e0.Num,z0,vI 0,vT y1.Array.l,vS p7 y1.Subs c7,z0] rfl<|zX rfl<|yV<|zU ⟨_,_,_,_,(zC N).symm,H,h10,rfl,rfl⟩
        intro hc1 N;exact zS<|yV<|zU ⟨_,_,_,_,(zC N).symm,H,(SL.nil _),rfl,rfl⟩
      rintro I02 hs2 m2 ⟨ReadArray1,ReadSubs1,p6,c6,heq,le2,h8,rfl,rfl⟩;subst o01;have H:=H.trans le2;exact yV<|zU ⟨_,_,_,_,_,_,_,_,(zC hMc1).symm,H,(SL.nil _),h8,rfl,rfl⟩
    rintro I0 hs2 m2 ⟨IndexCoefs,IndexConst,ReadArray,ReadSubs,p3,c3,p4,c4,heq1,le3,h4,h5,rfl,rfl⟩;subst o0;have ⟨h3,h,h2⟩:=m3 le3 h3 h h2;refine zO<|zZ<|yC<|yL [2] [30,31,32] rfl<|wM<|pP (zY [0,1] (hs':=[hB b2 [vI e0.Kind,vI e0.Num,vS p3 IndexCoefs c3,vI IndexConst,vT ReadArray.l,vS p4 ReadSubs c4,z0],hB b1 zExpr]))<|pJ [(1,fv),(4,vP b1 0),(5,vP b2 0),(30,vS p2 e0.Kids c2),(31,vI (e0.Kids.length:Int)),(32,vI 0)]<|zA1 zH fun h11=>?_;obtain ⟨o02,ho02,hMl⟩:=zB hMc;refine ih_impl_exprMap_l1 e0 change 0 ([]:List zH) o02 ho02 iR h3 h2 h4 h5 h11 (fun _ _ _ h=>h) (fun _ _ h=>h) ?_;intro I07 Kids1 p9 c9 cs3 heq2 le7 h13;subst o02;have ⟨h4,h5⟩:=m2 le7 h4 h5;refine zR<|yW<|sK 1 [1] [(45,vA [vI e0.Kind,vI e0.Num,vS p3 IndexCoefs c3,vI IndexConst,vT ReadArray.l,vS p4 ReadSubs c4,vS p9 Kids1 c9])]<|yY 2 [vI e0.Kind,vI e0.Num,vS p3 IndexCoefs c3,vI IndexConst,vT ReadArray.l,vS p4 ReadSubs c4,vS p9 Kids1 c9] rfl<|zX rfl<|xH<|xD 0 rfl ?_;intro I08 le8 hl01;have h24:=SL.of_frozen hl01 le8 h13;have ⟨h4,h5⟩:=m2 le8 h4 h5;obtain rfl:=zC hMl;exact xB ⟨_,_,(.cell 1 rfl rfl (by kernel_rfl) ResV.nil),zQ,⟨_,rfl,rfl,⟨_,rfl,(wB ⟨_,_,_,rfl,h4,h5,h24⟩)⟩⟩⟩
  intro F_impl_exprMap F_impl_exprMap_l1 ih_impl_exprMap ih_impl_exprMap_l1 e0 change t32 Kids o N B I0 I Q IndexCoefs IndexConst ReadArray ReadSubs p2 c2 fv b1 b2 p3 c3 p4 c4 p8 c8 cs2 H h3 h2 h4 h5 h12 hg ho hx;refine yU hg ho<|yH [33] rfl<|zZ<|yG N ?_ ?_
  · intro hc2 N;refine zS<|zZ<|yF<|yC<|bE N fun x hy2 N=>xT rfl rfl h2 hy2 ?_;intro ad ccs hat hrep;obtain ⟨p10,c10,p11,c11,p12,c12,rfl,h14,h15,h16⟩:=wS hrep;refine xM 0 hat (cExpr x p10 c10 p11 c11 p12 c12) (vA (cExpr x p10 c10 p11 c11 p12 c12)) rfl<|xR zExpr ?_;intro b3 hb3;refine yY 0 (cExpr x p10 c10 p11 c11 p12 c12) rfl<|zX rfl<|zK ?_;obtain ⟨y2,hy3,N⟩:=zB N;obtain ⟨l,hy4,N⟩:=zB N;refine wV [.p (vP b2 6) [],.p (vS p8 Kids c8) [1],.p (vA (cExpr x p10 c10 p11 c11 p12 c12)) [0],.p fv [],.x (eVExpr y2),.x (fun I' v hx=>∃ b4,v=vS (some ⟨b4,0,none⟩) ([y2]:List zH) 1∧hx=[]∧(SL I' (vS (some ⟨b4,0,none⟩) ([y2]:List zH) 1) ([y2]:List zH))),.x (fun I' v hx=>∃ p16 c16 cs5,v=vS p16 l c16∧hx=[hO zH (vS p16 l c16) cs5]∧(RL I' cs5 l))] [[],[(0,false)],[],[],[(2,false),(3,false)],[(4,false)],[(1,false),(5,false),(9,true)]] [hB b3 (cExpr x p10 c10 p11 c11 p12 c12),hB b2 [vI e0.Kind,vI e0.Num,vS p3 IndexCoefs c3,vI IndexConst,vT ReadArray.l,vS p4 ReadSubs c4,vS p8 Kids c8],hB b1 zExpr] [[hO zH (vS p8 Kids c8) cs2]] [(6,true)] (zY [0,2,3,1]) ?_ ?_
    · refine Op<|Op<|Op<|Op<|Ox ?_<|Ox ?_<|Ox ?_<|On
      · intro I1 hf le1;refine yZ [38,39] rfl ?_;have H:=iS I1;have ⟨h3,h14,h15,h16⟩:=m4 le1 h3 h14 h15 h16;refine xG (ih_impl_exprMap x change _ hy3 h14 h15 h16 h3) ?_;rintro I04 hs2 v2 k2 le4 - ⟨v07,rfl,rfl,⟨cs4,rfl,h17⟩⟩ -;have H:=H.trans le4;obtain ⟨p13,c13,p14,c14,p15,c15,rfl,h18,h19,h20⟩:=wS h17;exact yM [] H ⟨_,_,_,_,_,_,rfl,rfl,h18,h19,h20⟩
      · rintro I1 hf le1 _ _ ⟨p13,c13,p14,c14,p15,c15,rfl,rfl,h18,h19,h20⟩;refine yZ [40] rfl ?_;have H:=iS I1;refine mP (rc y2 (wB ⟨_,_,_,rfl,h18,h19,h20⟩) rN) ?_;intro b4 I05 le5 h22;have H:=H.trans le5;exact yM [] H ⟨_,rfl,rfl,h22⟩
      rintro I1 hf le1 _ _ ⟨rfl,rfl⟩ _ _ ⟨b4,rfl,rfl,h22⟩ _ _ rfl;refine yZ [37,41] rfl ?_;have h12:=iM le1 h12;obtain ⟨ccs1,k0,k01⟩:=h22;have h22:SL I1 (vS (some ⟨b4,0,none⟩) ([y2]:List zH) 1) ([y2]:List zH):=⟨_,k0,k01⟩;exact rY 72 7 0 rfl rfl rfl h12 (.inl k0) k01 hy4 fun p16 c16 cs5 h23=>vH (hs':=(hO zH (vS p16 l c16) cs5::hB b3 (cExpr x p10 c10 p11 c11 p12 c12)::hB b2 [vI e0.Kind,vI e0.Num,vS p3 IndexCoefs c3,vI IndexConst,vT ReadArray.l,vS p4 ReadSubs c4,vS p8 Kids c8]::hB b1 zExpr::hf)) rfl<|yM [hO zH (vS p16 l c16) cs5] iR ⟨_,_,_,rfl,rfl,h23⟩
    rintro I06 le6 _ _ ⟨p16,c16,cs5,rfl,rfl,h23⟩;refine yZ [1,4,5,30,31,32,42] rfl ?_;have ⟨h3,h2,h4,h5,H⟩:=m5 le6 h3 h2 h4 h5 H;exact yE 8 [] [43] rfl<|yY 2 [vI e0.Kind,vI e0.Num,vS p3 IndexCoefs c3,vI IndexConst,vT ReadArray.l,vS p4 ReadSubs c4,vS p16 l c16] rfl<|zX rfl<|zO<|zK<|zM<|yL [] [32] rfl<|yT<|pP (zW [0,2,3] rfl (by decide))<|nQ<|ih_impl_exprMap_l1 e0 change (W (t32 + 1)) l _ N H h3 h2 h4 h5 h23 hg ho hx
  intro hc2 N;exact wW<|yV<|hx _ _ _ _ _ (zC N).symm H h12
theorem zGg:∀ e0 change r,kZ e0 change=some r→∀ {I:Imm}{p c p1 c1 p2 c2}{fv:Value},(S4 I p e0.Index.Coefs c)→(S4 I p1 e0.Read.Subs c1)→(S4 I p2 e0.Kids c2)→(FV1 Tryz.prog I [] fv change)→RT 158 [vA (cExpr e0 p c p1 c1 p2 c2),fv] I [] (eE  r):=zGI.1
def eF (r:zJ):KT:=fun kk I' hs' v=>
  ∃ v0,hs'=[]∧v=tupV [v0]∧(∃ cs,v0=.agg ⟨cs⟩∧Rp.rep I' cs r)
def eZ (s:zJ) (change:(zA→Option zA)):Option (zJ):=do
 let y←kW s.Write change
 let y1←kZ s.Value change
 pure (zJ.mk y y1)
theorem zGh:∀ s change r,eZ s change=some r→∀ {I:Imm}{p c p1 c1 p2 c2 p3 c3}{fv:Value},(S4 I p s.Write.Subs c)→(S4 I p1 s.Value.Index.Coefs c1)→(S4 I p2 s.Value.Read.Subs c2)→(S4 I p3 s.Value.Kids c3)→(FV1 Tryz.prog I [] fv change)→RT 121 [vA (cStmt s p c p1 c1 p2 c2 p3 c3),fv] I [] (eF  r):=by
 intro s change r N I p c p1 c1 p2 c2 p3 c3 fv h h1 h2 h3 h4;unfold eZ at N;refine yK Tryz.func121 fun B=>?_;have H:=iS I;refine yC<|uB (cStmt s p c p1 c1 p2 c2 p3 c3) ?_;intro b hb;refine xR [vT ([]),z0,vI 0,vI 0,z0,vI 0,vT ([]),z0,z0] ?_;intro b1 hb1;refine zX rfl<|zK<|yD ?_;obtain ⟨y,hy,N⟩:=zB N;obtain ⟨y1,hy1,N⟩:=zB N;refine wV [.p (vP b 0) [],.p (vA (cAccess s.Write p c)) [1],.p fv [],.x (eVAccess y),.p (vP b 2) [],.p (vA (cExpr s.Value p1 c1 p2 c2 p3 c3)) [1],.p fv [],.x (eVExpr y1),.x (fun I' v hx=>∃ p41 c41 p51 c51 p61 c61 p71 c71,v=vA [vT y.Array.l,vS p41 y.Subs c41,vI y1.Kind,vI y1.Num,vS p51 y1.Index.Coefs c51,vI y1.Index.Const,vT y1.Read.Array.l,vS p61 y1.Read.Subs c61,vS p71 y1.Kids c71]∧hx=[]∧(S4 I' p41 y.Subs c41)∧(S4 I' p51 y1.Index.Coefs c51)∧(S4 I' p61 y1.Read.Subs c61)∧(S4 I' p71 y1.Kids c71))] [[],[(0,false)],[],[(1,false),(2,false)],[],[(4,false)],[],[(5,false),(6,false)],[(3,false),(7,false)]] [hB b1 [vT ([]),z0,vI 0,vI 0,z0,vI 0,vT ([]),z0,z0],hB b (cStmt s p c p1 c1 p2 c2 p3 c3)] [] [(8,false)] (zY [0,1]) ?_ ?_
 · refine Op<|Op<|Op<|Ox ?_<|Op<|Op<|Op<|Ox ?_<|Ox ?_<|On
   · intro I1 hf le1;refine yZ [6,7] rfl ?_;have H:=iS I1;have ⟨h4,h⟩:=m2 le1 h4 h;refine xG (zB3 s.Write change _ hy h h4) ?_;rintro I0 hs2 v2 k2 le - ⟨v0,rfl,rfl,⟨cs,rfl,h5⟩⟩ -;have H:=H.trans le;obtain ⟨p4,c4,rfl,h6⟩:=tB h5;exact yM [] H ⟨_,_,rfl,rfl,h6⟩
   · intro I1 hf le1;refine yZ [10,11] rfl ?_;have H:=iS I1;have ⟨h4,h1,h2,h3⟩:=m4 le1 h4 h1 h2 h3;refine xG (zGg s.Value change _ hy1 h1 h2 h3 h4) ?_;rintro I01 hs2 v2 k2 le1 - ⟨v02,rfl,rfl,⟨cs1,rfl,h7⟩⟩ -;have H:=H.trans le1;obtain ⟨p5,c5,p6,c6,p7,c7,rfl,h8,h9,h10⟩:=wS h7;exact yM [] H ⟨_,_,_,_,_,_,rfl,rfl,h8,h9,h10⟩
   rintro I1 hf le1 _ _ ⟨p4,c4,rfl,rfl,h6⟩ _ _ ⟨p5,c5,p6,c6,p7,c7,rfl,rfl,h8,h9,h10⟩;exact yZ [8,12] rfl<|nO 9 [(13,vA [vT y.Array.l,vS p4 y.Subs c4,vI y1.Kind,vI y1.Num,vS p5 y1.Index.Coefs c5,vI y1.Index.Const,vT y1.Read.Array.l,vS p6 y1.Read.Subs c6,vS p7 y1.Kids c7])]<|yM [] iR ⟨_,_,_,_,_,_,_,_,rfl,rfl,h6,h8,h9,h10⟩
 rintro I02 le2 _ _ ⟨p41,c41,p51,c51,p61,c61,p71,c71,rfl,rfl,h61,h81,h91,h101⟩;refine yZ [4,13] rfl ?_;refine yY 0 [vT y.Array.l,vS p41 y.Subs c41,vI y1.Kind,vI y1.Num,vS p51 y1.Index.Coefs c51,vI y1.Index.Const,vT y1.Read.Array.l,vS p61 y1.Read.Subs c61,vS p71 y1.Kids c71] rfl<|zX rfl<|zK<|xC ?_;obtain rfl:=zC N;exact xB ⟨_,_,(.cell 0 rfl rfl (by kernel_rfl) ResV.nil),zQ,⟨_,rfl,rfl,⟨_,rfl,(wC ⟨_,_,_,_,rfl,h61,h81,h91,h101⟩)⟩⟩⟩
def oF (a0:zA):Option (zA):=do
 let y←tG a0.Coefs
 pure (zA.mk y a0.Const)
theorem zB4:∀ a0 r,oF a0=some r→∀ {I:Imm}{p c},(S4 I p a0.Coefs c)→RT 122 [vA (cAff a0 p c)] I [] (oJ  r):=by
 intro a0 r N I p c h;unfold oF at N;refine yK Tryz.func122 fun B=>?_;have H:=iS I;refine yC<|uB (cAff a0 p c) ?_;intro b hb;refine xR [z0,vI 0] ?_;intro b1 hb1;refine zX rfl<|zZ<|bE N fun y hy N=>wV [.p (vP b 0) [],.p (vS p a0.Coefs c) [1],.x (fun I' v hx=>∃ p1 c1 cs,v=vS p1 y c1∧hx=[hO Int (vS p1 y c1) cs]∧(RL I' cs y)),.p (vP b 1) [],.p (vI a0.Const) [1],.x (fun I' v hx=>∃ p11 c11 cs1,v=vA [vS p11 y c11,vI a0.Const]∧hx=[hO Int (vS p11 y c11) cs1]∧(RL I' cs1 y))] [[],[(0,false)],[(1,false)],[],[(3,false)],[(2,true),(4,false)]] [hB b1 [z0,vI 0],hB b (cAff a0 p c)] [] [(5,true)] (zY [0,1]) ?_ ?_
 · refine Op<|Op<|Ox ?_<|Op<|Op<|Ox ?_<|On
   · intro I1 hf le1;refine yZ [4] rfl ?_;have H:=iS I1;have h:=h.mono le1;refine xG (oE a0.Coefs _ hy h) ?_;rintro I0 hs2 v2 k2 le - ⟨p1,c1,cs,rfl,rfl,h1⟩ -;have H:=H.trans le;exact yM [hO Int (vS p1 y c1) cs] H ⟨_,_,_,rfl,rfl,h1⟩
   rintro I1 hf le1 _ _ ⟨p1,c1,cs,rfl,rfl,h1⟩;exact yZ [5,7] rfl<|nO 6 [(8,vA [vS p1 y c1,vI a0.Const])]<|yM [hO Int (vS p1 y c1) cs] iR ⟨_,_,_,rfl,rfl,h1⟩
 rintro I01 le1 _ _ ⟨p11,c11,cs1,rfl,rfl,h11⟩;refine yZ [2,8] rfl ?_;refine yY 1 [vS p11 y c11,vI a0.Const] rfl<|zX rfl<|xH<|xD 0 rfl ?_;intro I02 le2 hl0;have h2:=SL.of_frozen hl0 le2 h11;obtain rfl:=zC N;exact xB ⟨_,_,(.cell 0 rfl rfl (by kernel_rfl) ResV.nil),zQ,⟨_,rfl,rfl,⟨_,rfl,(yI ⟨_,rfl,h2⟩)⟩⟩⟩
def dA (s:zJ):Option (zJ):=do
 let y←eZ s oF
 pure (id y)
theorem zGi:∀ s r,dA s=some r→∀ {I:Imm}{p c p1 c1 p2 c2 p3 c3},(S4 I p s.Write.Subs c)→(S4 I p1 s.Value.Index.Coefs c1)→(S4 I p2 s.Value.Read.Subs c2)→(S4 I p3 s.Value.Kids c3)→RT 87 [vA (cStmt s p c p1 c1 p2 c2 p3 c3)] I [] (eF  r):=by
 intro s r N I p c p1 c1 p2 c2 p3 c3 h h1 h2 h3;unfold dA at N;refine yK Tryz.func87 fun B=>yC<|uB (cStmt s p c p1 c1 p2 c2 p3 c3) ?_;intro b hb;refine xR [vT ([]),z0,vI 0,vI 0,z0,vI 0,vT ([]),z0,z0] ?_;intro b1 hb1;refine zX rfl<|yW<|sK 1 [1] [(3,vA (cStmt s p c p1 c1 p2 c2 p3 c3))] ?_;have hf0:FV1 Tryz.prog I [] (.func (.func 122) ⟨[]⟩ ⟨[]⟩) oF:=by
   refine FV1.intro ?_;intro I1 le1 x0 r u0 hF k0;obtain ⟨_,rfl,k0⟩:=k0;obtain ⟨p4,c4,rfl,h4⟩:=yB k0;exact (zB4 x0 r hF h4).mono (by rintro k i hs u ⟨v0,rfl,rfl,h⟩; exact ⟨rfl,h⟩)
 obtain ⟨y,hy,N⟩:=zB N;refine xG (zGh s oF _ hy h h1 h2 h3 hf0) ?_;rintro I0 hs2 v2 k2 le - ⟨v01,rfl,rfl,⟨cs,rfl,h5⟩⟩ -;obtain ⟨p5,c5,p6,c6,p7,c7,p8,c8,rfl,h6,h7,h8,h9⟩:=vC h5;refine yY 0 (cStmt y p5 c5 p6 c6 p7 c7 p8 c8) rfl<|zX rfl<|zK<|xC ?_;obtain rfl:=zC N;exact xB ⟨_,_,(.cell 0 rfl rfl (by kernel_rfl) ResV.nil),zQ,⟨_,rfl,rfl,⟨_,rfl,(wC ⟨_,_,_,_,rfl,h6,h7,h8,h9⟩)⟩⟩⟩
def uK (list:(List zA)) (out:List zA) (t8:Int):Option (List zA):=do
 if (decide (t8 < (list.length:Int))) then
  let x←idx list t8
  let y←oF x
  let out2←app 32 out ([y]:List zA)
  uK list out2 (W (t8 + 1))
 else
  pure (id out)
 partial_fixpoint
theorem zCp (list:(List zA)):∀ (out:List zA) (t8:Int) (o:List zA),uK list out t8=some o→∀ {B}{I0 I:Imm}{Q p c p1 c1 cs},I0.le I→(S4 I p list c)→(RL I cs out)→NG Q→NO Q→(∀ (I':Imm) (out1:List zA) (p2:Option Addr) (c2:Nat) (cs1:List Value),o=out1→I0.le I'→(RL I' cs1 out1)→T 19 B Q (.exit 0) I' [hO zA (vS p2 out1 c2) cs1] [(3,vS p2 out1 c2)])→J Tryz.prog 19 B (nav (bodyOf Tryz.f146) [1,1,0,1,0]) Q I [hO zA (vS p1 out c1) cs] [(3,vS p1 out c1),(6,vS p list c),(7,vI (list.length:Int)),(8,vI t8)]:=by
 refine uK.partial_correctness list _ fun self ih out t8 o N B I0 I Q p c p1 c1 cs H h h2 hg ho hx=>yU hg ho<|yH [9] rfl<|zZ<|yG N ?_ ?_
 · intro hc N;refine zS<|zZ<|yF<|yC<|bE N fun x hy N=>xT rfl rfl h hy ?_;intro ad ccs hat hrep;obtain ⟨p3,c3,rfl,h4⟩:=yB hrep;refine xM 0 hat (cAff x p3 c3) (vA (cAff x p3 c3)) rfl<|xR [z0,vI 0] ?_;intro b hb;refine yY 0 (cAff x p3 c3) rfl<|zX rfl<|zK<|zM<|sK 2 [0] [(12,vS p1 out c1),(13,vA (cAff x p3 c3))]<|bE N fun y hy1 N=>xG (zB4 x _ hy1 h4) ?_;rintro I0 hs2 v2 k2 le - ⟨v01,rfl,rfl,⟨cs2,rfl,h5⟩⟩ -;have ⟨h,h2,H⟩:=m3 le h h2 H;obtain ⟨p4,c4,rfl,h6⟩:=yB h5;refine tC (cAff y p4 c4) zA ?_;intro b1 hb1;have h7:RL I0 (cAff y p4 c4) ([y]:List zA):=⟨(cAff y p4 c4),_,rfl,rfl,(yI ⟨_,rfl,h6⟩),rfl⟩;obtain ⟨out2,hy2,N⟩:=zB N;exact rY 69 2 2 rfl rfl rfl h2 (.inr ⟨0,rfl⟩) h7 hy2 fun p5 c5 cs3 h8=>sT (zY [1,2] (hs':=[hB b (cAff x p3 c3),hO zA (vS p5 out2 c5) cs3]))<|yL [] [3] rfl<|zO<|zK<|zM<|yL [] [8] rfl<|yT<|pP (zW [1] rfl (by decide))<|nQ<|ih out2 (W (t8 + 1)) _ N H h h8 hg ho hx
 intro hc N;exact wW<|yV<|hx _ _ _ _ _ (zC N).symm H h2
def mY (list:(List zA)):Option ((List zA)):=do
 let out1←uK list ([]:List zA) 0
 pure (id out1)
theorem zBC:∀ list r,mY list=some r→∀ {I:Imm}{p c},(S4 I p list c)→RT 146 [vS p list c] I [] (fZ  r):=by
 intro list r N I p c h;unfold mY at N;refine yK Tryz.func146 fun B=>uA []<|zFn [(3,z0)]<|zZ<|yH [6,7,8] rfl<|wM<|pJ [(3,z0),(6,vS p list c),(7,vI (list.length:Int)),(8,vI 0)]<|zA1 zA fun h1=>?_;obtain ⟨o0,ho0,hMl⟩:=zB N;refine zCp list ([]:List zA) 0 o0 ho0 iR h h1 (fun _ _ _ h=>h) (fun _ _ h=>h) ?_;intro I01 out1 p2 c2 cs1 heq le1 h3;subst o0;refine zR<|uX [2] rfl<|xH<|xD 0 rfl ?_;intro I02 le2 hl0;have h9:=SL.of_frozen hl0 le2 h3;obtain rfl:=zC hMl;exact xB ⟨_,_,(.tmp rfl ResV.nil),zQ,⟨_,rfl,rfl,h9⟩⟩
def sR (nest:(List zE)) (out:List zE) (t8:Int):Option (List zE):=do
 if (decide (t8 < (nest.length:Int))) then
  let x←idx nest t8
  let y←mY x.Lo
  let y1←mY x.Hi
  let out2←app 48 out ([(zE.mk y y1)]:List zE)
  sR nest out2 (W (t8 + 1))
 else
  pure (id out)
 partial_fixpoint
theorem zE3 (nest:(List zE)):∀ (out:List zE) (t8:Int) (o:List zE),sR nest out t8=some o→∀ {B}{I0 I:Imm}{Q p c p1 c1 cs},I0.le I→(S4 I p nest c)→(RL I cs out)→NG Q→NO Q→(∀ (I':Imm) (out1:List zE) (p2:Option Addr) (c2:Nat) (cs1:List Value),o=out1→I0.le I'→(RL I' cs1 out1)→T 24 B Q (.exit 0) I' [hO zE (vS p2 out1 c2) cs1] [(3,vS p2 out1 c2)])→J Tryz.prog 24 B (nav (bodyOf Tryz.f106) [1,1,0,1,0]) Q I [hO zE (vS p1 out c1) cs] [(3,vS p1 out c1),(6,vS p nest c),(7,vI (nest.length:Int)),(8,vI t8)]:=by
 refine sR.partial_correctness nest _ fun self ih out t8 o N B I0 I Q p c p1 c1 cs H h h2 hg ho hx=>yU hg ho<|yH [9] rfl<|zZ<|yG N ?_ ?_
 · intro hc N;refine zS<|zZ<|yF<|yC<|bE N fun x hy N=>xT rfl rfl h hy ?_;intro ad ccs hat hrep;obtain ⟨p3,c3,p4,c4,rfl,h4,h5⟩:=wZ hrep;refine xM 0 hat (cLoop x p3 c3 p4 c4) (vA (cLoop x p3 c3 p4 c4)) rfl<|xR zTwo ?_;intro b hb;refine yY 0 (cLoop x p3 c3 p4 c4) rfl<|zX rfl<|zK ?_;obtain ⟨y,hy1,N⟩:=zB N;obtain ⟨y1,hy2,N⟩:=zB N;obtain ⟨out2,hy3,N⟩:=zB N;refine wV [.p (vS p1 out c1) [],.p (vP b 0) [],.p (vS p3 x.Lo c3) [0],.x (eS y),.p (vP b 1) [],.p (vS p4 x.Hi c4) [0],.x (eS y1),.x (fun I' v hx=>∃ p51 c51 p61 c61,v=vA [vS p51 y c51,vS p61 y1 c61]∧hx=[]∧(S4 I' p51 y c51)∧(S4 I' p61 y1 c61)),.x (fun I' v hx=>∃ b1,v=vS (some ⟨b1,0,none⟩) ([(zE.mk y y1)]:List zE) 1∧hx=[]∧(SL I' (vS (some ⟨b1,0,none⟩) ([(zE.mk y y1)]:List zE) 1) ([(zE.mk y y1)]:List zE))),.x (fun I' v hx=>∃ p7 c7 cs2,v=vS p7 out2 c7∧hx=[hO zE (vS p7 out2 c7) cs2]∧(RL I' cs2 out2))] [[],[],[(1,false)],[(2,false)],[],[(4,false)],[(5,false)],[(3,false),(6,false)],[(7,false)],[(0,false),(8,false),(11,true)]] [hB b (cLoop x p3 c3 p4 c4)] [[hO zE (vS p1 out c1) cs]] [(9,true)] (zY [0,1]) ?_ ?_
   · refine Op<|Op<|Op<|Ox ?_<|Op<|Op<|Ox ?_<|Ox ?_<|Ox ?_<|Ox ?_<|On
     · intro I1 hf le1;refine yZ [14] rfl ?_;have H:=iS I1;have h4:=h4.mono le1;refine xG (zBC x.Lo _ hy1 h4) ?_;rintro I0 hs2 v2 k2 le - ⟨v02,rfl,rfl,h6⟩ -;have H:=H.trans le;obtain ⟨p5,c5,rfl⟩:=h6.form;exact yM [] H ⟨_,_,rfl,rfl,h6⟩
     · intro I1 hf le1;refine yZ [17] rfl ?_;have H:=iS I1;have h5:=h5.mono le1;refine xG (zBC x.Hi _ hy2 h5) ?_;rintro I01 hs2 v2 k2 le1 - ⟨v03,rfl,rfl,h7⟩ -;have H:=H.trans le1;obtain ⟨p6,c6,rfl⟩:=h7.form;exact yM [] H ⟨_,_,rfl,rfl,h7⟩
     · rintro I1 hf le1 _ _ ⟨p5,c5,rfl,rfl,h6⟩ _ _ ⟨p6,c6,rfl,rfl,h7⟩;exact yZ [15,18] rfl<|nO 8 [(19,vA [vS p5 y c5,vS p6 y1 c6])]<|yM [] iR ⟨_,_,_,_,rfl,rfl,h6,h7⟩
     · rintro I1 hf le1 _ _ ⟨p51,c51,p61,c61,rfl,rfl,h61,h71⟩;refine yZ [19] rfl ?_;have H:=iS I1;refine mP (rc (zE.mk y y1) (uO ⟨_,_,rfl,h61,h71⟩) rN) ?_;intro b1 I02 le2 h9;have H:=H.trans le2;exact yM [] H ⟨_,rfl,rfl,h9⟩
     rintro I1 hf le1 _ _ ⟨rfl,rfl⟩ _ _ ⟨b1,rfl,rfl,h9⟩ _ _ rfl;refine yZ [12,20] rfl ?_;have h2:=iM le1 h2;obtain ⟨ccs1,k0,k01⟩:=h9;have h9:SL I1 (vS (some ⟨b1,0,none⟩) ([(zE.mk y y1)]:List zE) 1) ([(zE.mk y y1)]:List zE):=⟨_,k0,k01⟩;exact rY 130 2 0 rfl rfl rfl h2 (.inl k0) k01 hy3 fun p7 c7 cs2 h10=>vH (hs':=(hO zE (vS p7 out2 c7) cs2::hB b (cLoop x p3 c3 p4 c4)::hf)) rfl<|yM [hO zE (vS p7 out2 c7) cs2] iR ⟨_,_,_,rfl,rfl,h10⟩
   rintro I03 le3 _ _ ⟨p7,c7,cs2,rfl,rfl,h10⟩;refine yZ [6,7,8,21] rfl ?_;have ⟨h,H⟩:=m2 le3 h H;exact yL [] [3] rfl<|zO<|zK<|zM<|yL [] [8] rfl<|yT<|pP (zW [0] rfl (by decide))<|nQ<|ih out2 (W (t8 + 1)) _ N H h h10 hg ho hx
 intro hc N;exact wW<|yV<|hx _ _ _ _ _ (zC N).symm H h2
def dB (nest:(List zE)):Option ((List zE)):=do
 let out1←sR nest ([]:List zE) 0
 pure (id out1)
theorem zGj:∀ nest r,dB nest=some r→∀ {I:Imm}{p c},(S4 I p nest c)→RT 106 [vS p nest c] I [] (zAR  r):=by
 intro nest r N I p c h;unfold dB at N;refine yK Tryz.func106 fun B=>uA []<|zFn [(3,z0)]<|zZ<|yH [6,7,8] rfl<|wM<|pJ [(3,z0),(6,vS p nest c),(7,vI (nest.length:Int)),(8,vI 0)]<|zA1 zE fun h1=>?_;obtain ⟨o0,ho0,hMl⟩:=zB N;refine zE3 nest ([]:List zE) 0 o0 ho0 iR h h1 (fun _ _ _ h=>h) (fun _ _ h=>h) ?_;intro I04 out1 p2 c2 cs1 heq le4 h3;subst o0;refine zR<|uX [2] rfl<|xH<|xD 0 rfl ?_;intro I05 le5 hl01;have h11:=SL.of_frozen hl01 le5 h3;obtain rfl:=zC hMl;exact xB ⟨_,_,(.tmp rfl ResV.nil),zQ,⟨_,rfl,rfl,h11⟩⟩
def zB5 (r:zI):KT:=fun kk I' hs' v=>
  ∃ v0,hs'=[]∧v=tupV [v0]∧(∃ cs,v0=.agg ⟨cs⟩∧Rp.rep I' cs r)
def sS (p:zI) (t13:Int) (Body:List zJ):Option (List zJ):=do
 if (decide (t13 < (p.Body.length:Int))) then
  let x←idx p.Body t13
  let y1←dA x
  let l←app 152 Body ([y1]:List zJ)
  sS p (W (t13 + 1)) l
 else
  pure (id Body)
 partial_fixpoint
theorem zE4 (p:zI):∀ (t13:Int) (Body:List zJ) (o:List zJ),sS p t13 Body=some o→∀ {B}{I0 I:Imm}{Q}{y:(List zE)}{p2 c1}{b1:Nat}{p3 c2}{b2:Nat}{p4 c3 cs},I0.le I→(S4 I p2 p.Body c1)→(S4 I p3 y c2)→(RL I cs Body)→NG Q→NO Q→(∀ (I':Imm) (Body1:List zJ) (p5:Option Addr) (c4:Nat) (cs1:List Value),o=Body1→I0.le I'→(RL I' cs1 Body1)→T 26 B Q (.exit 0) I' [hO zJ (vS p5 Body1 c4) cs1,hB b2 [vS p3 y c2,vS p5 Body1 c4],hB b1 zTwo] [(2,vP b1 0),(3,vP b2 0)])→J Tryz.prog 26 B (nav (bodyOf Tryz.f65) [1,1,0,1,0]) Q I [hO zJ (vS p4 Body c3) cs,hB b2 [vS p3 y c2,vS p4 Body c3],hB b1 zTwo] [(2,vP b1 0),(3,vP b2 0),(11,vS p2 p.Body c1),(12,vI (p.Body.length:Int)),(13,vI t13)]:=by
 refine sS.partial_correctness p _ fun self ih t13 Body o N B I0 I Q y p2 c1 b1 p3 c2 b2 p4 c3 cs H h1 h2 h4 hg ho hx=>yU hg ho<|yH [14] rfl<|zZ<|yG N ?_ ?_
 · intro hc N;refine zS<|zZ<|yF<|yC<|bE N fun x hy1 N=>xT rfl rfl h1 hy1 ?_;intro ad ccs hat hrep;obtain ⟨p6,c5,p7,c6,p8,c7,p9,c8,rfl,h6,h7,h8,h9⟩:=vC hrep;refine xM 0 hat (cStmt x p6 c5 p7 c6 p8 c7 p9 c8) (vA (cStmt x p6 c5 p7 c6 p8 c7 p9 c8)) rfl<|xR [vT ([]),z0,vI 0,vI 0,z0,vI 0,vT ([]),z0,z0] ?_;intro b3 hb3;refine yY 0 (cStmt x p6 c5 p7 c6 p8 c7 p9 c8) rfl<|zX rfl<|zK ?_;obtain ⟨y1,hy2,N⟩:=zB N;obtain ⟨l,hy3,N⟩:=zB N;refine wV [.p (vP b2 1) [],.p (vS p4 Body c3) [1],.p (vA (cStmt x p6 c5 p7 c6 p8 c7 p9 c8)) [0],.x (eVStmt y1),.x (fun I' v hx=>∃ b4,v=vS (some ⟨b4,0,none⟩) ([y1]:List zJ) 1∧hx=[]∧(SL I' (vS (some ⟨b4,0,none⟩) ([y1]:List zJ) 1) ([y1]:List zJ))),.x (fun I' v hx=>∃ p14 c13 cs3,v=vS p14 l c13∧hx=[hO zJ (vS p14 l c13) cs3]∧(RL I' cs3 l))] [[],[(0,false)],[],[(2,false)],[(3,false)],[(1,false),(4,false),(8,true)]] [hB b3 (cStmt x p6 c5 p7 c6 p8 c7 p9 c8),hB b2 [vS p3 y c2,vS p4 Body c3],hB b1 zTwo] [[hO zJ (vS p4 Body c3) cs]] [(5,true)] (zY [0,2,3,1]) ?_ ?_
   · refine Op<|Op<|Op<|Ox ?_<|Ox ?_<|Ox ?_<|On
     · intro I1 hf le1;refine yZ [19] rfl ?_;have H:=iS I1;have ⟨h6,h7,h8,h9⟩:=m4 le1 h6 h7 h8 h9;refine xG (zGi x _ hy2 h6 h7 h8 h9) ?_;rintro I01 hs2 v2 k2 le1 - ⟨v05,rfl,rfl,⟨cs2,rfl,h10⟩⟩ -;have H:=H.trans le1;obtain ⟨p10,c9,p11,c10,p12,c11,p13,c12,rfl,h11,h12,h13,h14⟩:=vC h10;exact yM [] H ⟨_,_,_,_,_,_,_,_,rfl,rfl,h11,h12,h13,h14⟩
     · rintro I1 hf le1 _ _ ⟨p10,c9,p11,c10,p12,c11,p13,c12,rfl,rfl,h11,h12,h13,h14⟩;refine yZ [20] rfl ?_;have H:=iS I1;refine mP (rc y1 (wC ⟨_,_,_,_,rfl,h11,h12,h13,h14⟩) rN) ?_;intro b4 I02 le2 h16;have H:=H.trans le2;exact yM [] H ⟨_,rfl,rfl,h16⟩
     rintro I1 hf le1 _ _ ⟨rfl,rfl⟩ _ _ ⟨b4,rfl,rfl,h16⟩ _ _ rfl;refine yZ [18,21] rfl ?_;have h4:=iM le1 h4;obtain ⟨ccs1,k0,k01⟩:=h16;have h16:SL I1 (vS (some ⟨b4,0,none⟩) ([y1]:List zJ) 1) ([y1]:List zJ):=⟨_,k0,k01⟩;exact rY 74 9 0 rfl rfl rfl h4 (.inl k0) k01 hy3 fun p14 c13 cs3 h17=>vH (hs':=(hO zJ (vS p14 l c13) cs3::hB b3 (cStmt x p6 c5 p7 c6 p8 c7 p9 c8)::hB b2 [vS p3 y c2,vS p4 Body c3]::hB b1 zTwo::hf)) rfl<|yM [hO zJ (vS p14 l c13) cs3] iR ⟨_,_,_,rfl,rfl,h17⟩
   rintro I03 le3 _ _ ⟨p14,c13,cs3,rfl,rfl,h17⟩;refine yZ [2,3,11,12,13,22] rfl ?_;have ⟨h1,h2,H⟩:=m3 le3 h1 h2 H;exact yE 7 [] [23] rfl<|yY 2 [vS p3 y c2,vS p14 l c13] rfl<|zX rfl<|zO<|zK<|zM<|yL [] [13] rfl<|yT<|pP (zW [0,2,3] rfl (by decide))<|nQ<|ih (W (t13 + 1)) l _ N H h1 h2 h17 hg ho hx
 intro hc N;exact wW<|yV<|hx _ _ _ _ _ (zC N).symm H h4
def dC (p:zI):Option (zI):=do
 let y←dB p.Nest
 let Body1←sS p 0 ([]:List zJ)
 pure (zI.mk y Body1)
theorem zGk:∀ p r,dC p=some r→∀ {I:Imm}{p1 c p2 c1},(S4 I p1 p.Nest c)→(S4 I p2 p.Body c1)→RT 65 [vA (cPart p p1 c p2 c1)] I [] (zB5  r):=by
 intro p r N I p1 c p2 c1 h h1;unfold dC at N;refine yK Tryz.func65 fun B=>yC<|uB (cPart p p1 c p2 c1) ?_;intro b hb;refine xR zTwo ?_;intro b1 hb1;refine zX rfl<|yW<|yE 2 [1] [7] rfl<|bE N fun y hy N=>xG (zGj p.Nest _ hy h) ?_;rintro I0 hs2 v2 k2 le - ⟨v0,rfl,rfl,h2⟩ -;have ⟨h,h1⟩:=m2 le h h1;obtain ⟨p3,c2,rfl⟩:=h2.form;refine yE 4 [] [9] rfl<|xR zTwo ?_;intro b2 hb2;refine yY 0 [vS p3 y c2,z0] rfl<|zX rfl<|zZ<|yC<|yL [2] [11,12,13] rfl<|wM<|pP (zY [0,1] (hs':=[hB b2 [vS p3 y c2,z0],hB b1 zTwo]))<|pJ [(2,vP b1 0),(3,vP b2 0),(11,vS p2 p.Body c1),(12,vI (p.Body.length:Int)),(13,vI 0)]<|zA1 zJ fun h3=>?_;obtain ⟨o0,ho0,hMl⟩:=zB N;refine zE4 p 0 ([]:List zJ) o0 ho0 iR h1 h2 h3 (fun _ _ _ h=>h) (fun _ _ h=>h) ?_;intro I04 Body1 p5 c4 cs1 heq le4 h5;subst o0;have h2:=h2.mono le4;refine zR<|yW<|sK 1 [1] [(25,vA [vS p3 y c2,vS p5 Body1 c4])]<|yY 2 [vS p3 y c2,vS p5 Body1 c4] rfl<|zX rfl<|xH<|xD 0 rfl ?_;intro I05 le5 hl01;have h18:=SL.of_frozen hl01 le5 h5;have h2:=h2.mono le5;obtain rfl:=zC hMl;exact xB ⟨_,_,(.cell 1 rfl rfl (by kernel_rfl) ResV.nil),zQ,⟨_,rfl,rfl,⟨_,rfl,(uP ⟨_,_,rfl,h2,h18⟩)⟩⟩⟩
def zCq (r:zG):KT:=fun kk I' hs' v=>
  ∃ v0,hs'=[]∧v=tupV [v0]∧(∃ cs,v0=.agg ⟨cs⟩∧Rp.rep I' cs r)
def vR (p:zG) (t11:Int) (Arrays:List zD):Option (List zD):=do
 if (decide (t11 < (p.Arrays.length:Int))) then
  let x←idx p.Arrays t11
  let y←tG x.Dims
  let l←app 40 Arrays ([(zD.mk x.Name y)]:List zD)
  vR p (W (t11 + 1)) l
 else
  pure (id Arrays)
 partial_fixpoint
def vU (p:zG) (t30:Int) (Parts:List zI):Option (List zI):=do
 if (decide (t30 < (p.Parts.length:Int))) then
  let x1←idx p.Parts t30
  let y1←dC x1
  let l1←app 48 Parts ([y1]:List zI)
  vU p (W (t30 + 1)) l1
 else
  pure (id Parts)
 partial_fixpoint
theorem zCW (p:zG):∀ (t30:Int) (Parts:List zI) (o:List zI),vU p t30 Parts=some o→∀ {B}{I0 I:Imm}{Q}{τ:Type} [Rp τ] {Arrays1:List τ}{p2 c1}{b1:Nat}{b2:Nat}{p4 c3 cs1 p8 c7 cs4},I0.le I→(S4 I p2 p.Parts c1)→(RL I cs1 Arrays1)→(RL I cs4 Parts)→NG Q→NO Q→(∀ (I':Imm) (Parts1:List zI) (p9:Option Addr) (c8:Nat) (cs5:List Value),o=Parts1→I0.le I'→(RL I' cs5 Parts1)→T 43 B Q (.exit 2) I' [hO zI (vS p9 Parts1 c8) cs5,hO τ (vS p4 Arrays1 c3) cs1,hB b2 [vS p4 Arrays1 c3,vS p9 Parts1 c8],hB b1 zTwo] [(2,vP b1 0),(3,vP b2 0)])→J Tryz.prog 43 B (nav (bodyOf Tryz.f28) [1,1,1,0,1,0]) Q I [hO zI (vS p8 Parts c7) cs4,hO τ (vS p4 Arrays1 c3) cs1,hB b2 [vS p4 Arrays1 c3,vS p8 Parts c7],hB b1 zTwo] [(2,vP b1 0),(3,vP b2 0),(28,vS p2 p.Parts c1),(29,vI (p.Parts.length:Int)),(30,vI t30)]:=by
 refine vU.partial_correctness p _ fun self ih t30 Parts o N B I0 I Q τ _ Arrays1 p2 c1 b1 b2 p4 c3 cs1 p8 c7 cs4 H h1 h4 h12 hg ho hx=>yU hg ho<|yH [31] rfl<|zZ<|yG N ?_ ?_
 · intro hc1 N;refine zS<|zZ<|yF<|yC<|bE N fun x1 hy3 N=>xT rfl rfl h1 hy3 ?_;intro ad1 ccs2 hat1 hrep1;obtain ⟨p10,c9,p11,c10,rfl,h14,h15⟩:=wH hrep1;refine xM 0 hat1 (cPart x1 p10 c9 p11 c10) (vA (cPart x1 p10 c9 p11 c10)) rfl<|xR zTwo ?_;intro b5 hb5;refine yY 0 (cPart x1 p10 c9 p11 c10) rfl<|zX rfl<|zK ?_;obtain ⟨y1,hy4,N⟩:=zB N;obtain ⟨l1,hy5,N⟩:=zB N;refine wV [.p (vP b2 1) [],.p (vS p8 Parts c7) [2],.p (vA (cPart x1 p10 c9 p11 c10)) [0],.x (eVPart y1),.x (fun I' v hx=>∃ b6,v=vS (some ⟨b6,0,none⟩) ([y1]:List zI) 1∧hx=[]∧(SL I' (vS (some ⟨b6,0,none⟩) ([y1]:List zI) 1) ([y1]:List zI))),.x (fun I' v hx=>∃ p14 c13 cs7,v=vS p14 l1 c13∧hx=[hO zI (vS p14 l1 c13) cs7]∧(RL I' cs7 l1))] [[],[(0,false)],[],[(2,false)],[(3,false)],[(1,false),(4,false),(8,true)]] [hB b5 (cPart x1 p10 c9 p11 c10),hO τ (vS p4 Arrays1 c3) cs1,hB b2 [vS p4 Arrays1 c3,vS p8 Parts c7],hB b1 zTwo] [[hO zI (vS p8 Parts c7) cs4]] [(5,true)] (zY [0,2,3,4,1]) ?_ ?_
   · refine Op<|Op<|Op<|Ox ?_<|Ox ?_<|Ox ?_<|On
     · intro I1 hf le1;refine yZ [36] rfl ?_;have H:=iS I1;have ⟨h14,h15⟩:=m2 le1 h14 h15;refine xG (zGk x1 _ hy4 h14 h15) ?_;rintro I05 hs2 v2 k2 le5 - ⟨v03,rfl,rfl,⟨cs6,rfl,h16⟩⟩ -;have H:=H.trans le5;obtain ⟨p12,c11,p13,c12,rfl,h17,h18⟩:=wH h16;exact yM [] H ⟨_,_,_,_,rfl,rfl,h17,h18⟩
     · rintro I1 hf le1 _ _ ⟨p12,c11,p13,c12,rfl,rfl,h17,h18⟩;refine yZ [37] rfl ?_;have H:=iS I1;refine mP (rc y1 (uP ⟨_,_,rfl,h17,h18⟩) rN) ?_;intro b6 I06 le6 h20;have H:=H.trans le6;exact yM [] H ⟨_,rfl,rfl,h20⟩
     rintro I1 hf le1 _ _ ⟨rfl,rfl⟩ _ _ ⟨b6,rfl,rfl,h20⟩ _ _ rfl;refine yZ [35,38] rfl ?_;have h12:=iM le1 h12;obtain ⟨ccs3,k02,k03⟩:=h20;have h20:SL I1 (vS (some ⟨b6,0,none⟩) ([y1]:List zI) 1) ([y1]:List zI):=⟨_,k02,k03⟩;exact rY 85 2 0 rfl rfl rfl h12 (.inl k02) k03 hy5 fun p14 c13 cs7 h21=>vH (hs':=(hO zI (vS p14 l1 c13) cs7::hB b5 (cPart x1 p10 c9 p11 c10)::hO τ (vS p4 Arrays1 c3) cs1::hB b2 [vS p4 Arrays1 c3,vS p8 Parts c7]::hB b1 zTwo::hf)) rfl<|yM [hO zI (vS p14 l1 c13) cs7] iR ⟨_,_,_,rfl,rfl,h21⟩
   rintro I07 le7 _ _ ⟨p14,c13,cs7,rfl,rfl,h21⟩;refine yZ [2,3,28,29,30,39] rfl ?_;have ⟨h1,h4,H⟩:=m3 le7 h1 h4 H;exact yE 7 [] [40] rfl<|yY 3 [vS p4 Arrays1 c3,vS p14 l1 c13] rfl<|zX rfl<|zO<|zK<|zM<|yL [] [30] rfl<|yT<|pP (zW [0,2,3,4] rfl (by decide))<|nQ<|ih (W (t30 + 1)) l1 _ N H h1 h4 h21 hg ho hx
 intro hc1 N;exact wW<|yV<|hx _ _ _ _ _ (zC N).symm H h12
def jA (p:zG):Option (zG):=do
 let Arrays1←vR p 0 ([]:List zD)
 let Parts1←vU p 0 ([]:List zI)
 pure (zG.mk Arrays1 Parts1)
theorem zCH (p:zG):∀ (t11:Int) (Arrays:List zD) (o:List zD),vR p t11 Arrays=some o→∀ {B}{I0 I:Imm}{Q p1 c p2 c1}{b:Nat}{b1:Nat}{b2:Nat}{p3 c2 cs}{xs:List ND},I0.le I→(S4 I p1 p.Arrays c)→(S4 I p2 p.Parts c1)→Arrays=xs.map ND.a→(∀ x ∈ xs,x.ok I)→(RL I cs (xs.map ND.raw))→NG Q→NO Q→(∀ (I':Imm) (xs1:List ND) (p4:Option Addr) (c3:Nat) (cs1:List Value),o=xs1.map ND.a→I0.le I'→(∀ x ∈ xs1,x.ok I')→RL I' cs1 (xs1.map ND.raw)→T 43 B Q (.exit 0) I' (hO Raw2 (vS p4 (xs1.map ND.raw) c3) cs1::hB b2 [vS p4 (xs1.map ND.raw) c3,z0]::hB b1 zTwo::hB b (cProg p p1 c p2 c1)::NDs xs1) [(1,vP b 0),(2,vP b1 0),(3,vP b2 0)])→J Tryz.prog 43 B (nav (bodyOf Tryz.f28) [1,1,0,1,0]) Q I (hO Raw2 (vS p3 (xs.map ND.raw) c2) cs::hB b2 [vS p3 (xs.map ND.raw) c2,z0]::hB b1 zTwo::hB b (cProg p p1 c p2 c1)::NDs xs) [(1,vP b 0),(2,vP b1 0),(3,vP b2 0),(9,vS p1 p.Arrays c),(10,vI (p.Arrays.length:Int)),(11,vI t11)]:=by
 refine vR.partial_correctness p _ fun self ih t11 Arrays o N B I0 I Q p1 c p2 c1 b b1 b2 p3 c2 cs xs H h h1 hA hxs h3 hg ho hx=>yU hg ho<|yH [12] rfl<|zZ<|yG N ?_ ?_
 · intro hc N;refine zS<|zZ<|yF<|yC<|bE N fun x hy N=>xT rfl rfl h hy ?_;intro ad ccs hat hrep;obtain ⟨p5,c4,rfl,h5⟩:=xN hrep;refine xM 0 hat (cArr x p5 c4) (vA (cArr x p5 c4)) rfl<|xR [vT ([]),z0] ?_;intro b3 hb3;refine yY 0 (cArr x p5 c4) rfl<|zX rfl<|zK ?_;obtain ⟨y,hy1,N⟩:=zB N;obtain ⟨l,hy2,N⟩:=zB N;refine zLb (hs:=[hB b3 (cArr x p5 c4),hO Raw2 (vS p3 (xs.map ND.raw) c2) cs,hB b2 [vS p3 (xs.map ND.raw) c2,z0],hB b1 zTwo,hB b (cProg p p1 c p2 c1)]) (L:=NDs xs) .normal (fun I' hs' m'=>∃ p7 c6 cs3 pq cq csq,hs'=[hO Int (vS pq y cq) csq,hO Raw2 (vS p7 (xs.map ND.raw ++ [(⟨vT x.Name.l,vS pq y cq⟩:Raw2)]) c6) cs3,hB b2 [vS p7 (xs.map ND.raw ++ [(⟨vT x.Name.l,vS pq y cq⟩:Raw2)]) c6,z0],hB b1 zTwo,hB b (cProg p p1 c p2 c1)]∧m'=[(1,vP b 0),(2,vP b1 0),(3,vP b2 0),(9,vS p1 p.Arrays c),(10,vI (p.Arrays.length:Int)),(11,vI t11)]∧RL I' cs3 (xs.map ND.raw ++ [(⟨vT x.Name.l,vS pq y cq⟩:Raw2)])∧RL I' csq y) (fun B0=>?_) ?_
   · refine wV [.p (vP b2 0) [],.p (vS p3 (xs.map ND.raw) c2) [1],.p (vP b3 0) [],.p (vT x.Name.l) [0],.p (vP b3 1) [],.p (vS p5 x.Dims c4) [0],.x (fun I' v hx=>∃ p6 c5 cs2,v=vS p6 y c5∧hx=[hO Int (vS p6 y c5) cs2]∧(RL I' cs2 y)),.x (fun I' v hx=>∃ p61 c51 cs21,v=vA [vT x.Name.l,vS p61 y c51]∧hx=[hO Int (vS p61 y c51) cs21]∧(RL I' cs21 y)),.x (fun I' v hx=>∃ b4 pq cq csq,v=vS (some ⟨b4,0,none⟩) [(⟨vT x.Name.l,vS pq y cq⟩:Raw2)] 1∧hx=[hO Int (vS pq y cq) csq]∧RL I' csq y∧SL I' (vS (some ⟨b4,0,none⟩) [(⟨vT x.Name.l,vS pq y cq⟩:Raw2)] 1) [(⟨vT x.Name.l,vS pq y cq⟩:Raw2)]),.x (fun I' v hx=>∃ p7 c6 cs3 pq cq csq,v=vS p7 (xs.map ND.raw ++ [(⟨vT x.Name.l,vS pq y cq⟩:Raw2)]) c6∧hx=[hO Raw2 (vS p7 (xs.map ND.raw ++ [(⟨vT x.Name.l,vS pq y cq⟩:Raw2)]) c6) cs3,hO Int (vS pq y cq) csq]∧RL I' cs3 (xs.map ND.raw ++ [(⟨vT x.Name.l,vS pq y cq⟩:Raw2)])∧RL I' csq y)] [[],[(0,false)],[],[(2,false)],[],[(4,false)],[(5,false)],[(3,false),(6,true)],[(7,true)],[(1,false),(8,true),(12,true)]] [hB b3 (cArr x p5 c4),hB b2 [vS p3 (xs.map ND.raw) c2,z0],hB b1 zTwo,hB b (cProg p p1 c p2 c1)] [[hO Raw2 (vS p3 (xs.map ND.raw) c2) cs]] [(9,true)] (zY [0,2,3,4,1]) ?_ ?_
     · refine Op<|Op<|Op<|Op<|Op<|Op<|Ox ?_<|Ox ?_<|Ox ?_<|Ox ?_<|On
       · intro I1 hf le1;refine yZ [20] rfl ?_;have H:=iS I1;have h5:=h5.mono le1;refine xG (oE x.Dims _ hy1 h5) ?_;rintro I0 hs2 v2 k2 le - ⟨p6,c5,cs2,rfl,rfl,h6⟩ -;have H:=H.trans le;exact yM [hO Int (vS p6 y c5) cs2] H ⟨_,_,_,rfl,rfl,h6⟩
       · rintro I1 hf le1 _ _ ⟨rfl,rfl⟩ _ _ ⟨p6,c5,cs2,rfl,rfl,h6⟩;exact yZ [18,21] rfl<|nO 8 [(22,vA [vT x.Name.l,vS p6 y c5])]<|yM [hO Int (vS p6 y c5) cs2] iR ⟨_,_,_,rfl,rfl,h6⟩
       · rintro I1 hf le1 _ _ ⟨p61,c51,cs21,rfl,rfl,h61⟩;refine yZ [22] rfl<|tC [vT x.Name.l,vS p61 y c51] Raw2 ?_;intro b4 hb4;have h8:RL I1 [vT x.Name.l,vS p61 y c51] [(⟨vT x.Name.l,vS p61 y c51⟩:Raw2)]:=⟨[vT x.Name.l,vS p61 y c51],[],rfl,rfl,⟨rfl,rfl,rfl⟩,rfl⟩;refine xW 0 rfl ?_;intro I02 le2 hl01;have h9:SL I02 (vS (some ⟨b4,0,none⟩) [(⟨vT x.Name.l,vS p61 y c51⟩:Raw2)] 1) [(⟨vT x.Name.l,vS p61 y c51⟩:Raw2)]:=SL.of_frozen hl01 le2 h8;exact yM [hO Int (vS p61 y c51) cs21] le2 ⟨_,_,_,_,rfl,rfl,iM le2 h61,h9⟩
       rintro I1 hf le1 _ _ ⟨rfl,rfl⟩ _ _ ⟨b4,pq,cq,csq,rfl,rfl,hq,h9⟩ _ _ rfl;refine yZ [16,23] rfl ?_;have h3:=iM le1 h3;obtain ⟨ccs1,k0,k01⟩:=h9;refine rY (α:=Raw2) 60 2 0 rfl rfl rfl h3 (.inl k0) k01 (zEv (l':=xs.map ND.raw) (m':=[(⟨vT x.Name.l,vS pq y cq⟩:Raw2)]) hy2 (by rw [hA]; simp) rfl) ?_;intro p7 c6 cs3 h10;exact vH (hs':=(hO Raw2 (vS p7 (xs.map ND.raw ++ [(⟨vT x.Name.l,vS pq y cq⟩:Raw2)]) c6) cs3::hO Int (vS pq y cq) csq::hB b3 (cArr x p5 c4)::hB b2 [vS p3 (xs.map ND.raw) c2,z0]::hB b1 zTwo::hB b (cProg p p1 c p2 c1)::hf)) rfl<|yM [hO Raw2 (vS p7 (xs.map ND.raw ++ [(⟨vT x.Name.l,vS pq y cq⟩:Raw2)]) c6) cs3,hO Int (vS pq y cq) csq] iR ⟨_,_,_,_,_,_,rfl,rfl,h10,hq⟩
     rintro I03 le3 _ _ ⟨p7,c6,cs3,pq,cq,csq,rfl,rfl,h10,hq⟩;exact pQ<|zAb [(1,vP b 0),(2,vP b1 0),(3,vP b2 0),(9,vS p1 p.Arrays c),(10,vI (p.Arrays.length:Int)),(11,vI t11),(24,vS p7 (xs.map ND.raw ++ [(⟨vT x.Name.l,vS pq y cq⟩:Raw2)]) c6)]<|yE 11 [] [25] rfl<|yY 3 [vS p7 (xs.map ND.raw ++ [(⟨vT x.Name.l,vS pq y cq⟩:Raw2)]) c6,z0] rfl<|zX rfl<|wG (zY [1,0,3,4,5] (hs':=[hO Int (vS pq y cq) csq,hO Raw2 (vS p7 (xs.map ND.raw ++ [(⟨vT x.Name.l,vS pq y cq⟩:Raw2)]) c6) cs3,hB b2 [vS p7 (xs.map ND.raw ++ [(⟨vT x.Name.l,vS pq y cq⟩:Raw2)]) c6,z0],hB b1 zTwo,hB b (cProg p p1 c p2 c1)]))<|T_w [(1,vP b 0),(2,vP b1 0),(3,vP b2 0),(9,vS p1 p.Arrays c),(10,vI (p.Arrays.length:Int)),(11,vI t11)]<|zLc ⟨_,_,_,_,_,_,rfl,rfl,h10,hq⟩
   rintro I5 hs5 m5 ⟨p7,c6,cs3,pq,cq,csq,rfl,rfl,h10,hq⟩ le5;have e1:(xs ++ [(⟨x.Name,pq,y,cq,csq⟩:ND)]).map ND.raw=xs.map ND.raw ++ [(⟨vT x.Name.l,vS pq y cq⟩:Raw2)]:=by rw [List.map_append]; rfl
   have e2:l=(xs ++ [(⟨x.Name,pq,y,cq,csq⟩:ND)]).map ND.a:=by rw [List.map_append,← hA]; exact (zA0 hy2).2.symm
   have e3:NDs (xs ++ [(⟨x.Name,pq,y,cq,csq⟩:ND)])=NDs xs ++ [hO Int (vS pq y cq) csq]:=List.map_append ..;rw [← e1] at h10 ⊢;refine zMS ([hO Raw2 (vS p7 ((xs ++ [(⟨x.Name,pq,y,cq,csq⟩:ND)]).map ND.raw) c6) cs3,hB b2 [vS p7 ((xs ++ [(⟨x.Name,pq,y,cq,csq⟩:ND)]).map ND.raw) c6,z0],hB b1 zTwo,hB b (cProg p p1 c p2 c1)] ++ (NDs xs ++ [hO Int (vS pq y cq) csq])) (zIb _ _ _) ?_;rw [← e3];exact zO<|zK<|zM<|yL [] [11] rfl<|yT<|nQ<|ih (W (t11 + 1)) l _ N (H.trans le5) (h.mono le5) (h1.mono le5) e2 (zLH (fun x hx=>(hxs x hx).mono le5) hq) h10 hg ho hx
 intro hc N;exact wW<|yV<|hx _ xs _ _ _ ((zC N).symm.trans hA) H hxs h3
def zCX (r:zG):KT:=fun kk I' hs' v=>
  ∃ (xs:List ND) (pa:Option Addr) (ca:Nat) (csa:List Value) (pp:Option Addr) (cp:Nat),hs'=hO Raw2 (vS pa (xs.map ND.raw) ca) csa::NDs xs∧v=tupV [vA [vS pa (xs.map ND.raw) ca,vS pp r.Parts cp]]∧r.Arrays=xs.map ND.a∧(∀ x ∈ xs,x.ok I')∧RL I' csa (xs.map ND.raw)∧SL I' (vS pp r.Parts cp) r.Parts
theorem zDU:∀ (p:zG) r,jA p=some r→∀ {I:Imm}{p1 c p2 c1},(S4 I p1 p.Arrays c)→(S4 I p2 p.Parts c1)→RT 28 [vA (cProg p p1 c p2 c1)] I [] (zCX r):=by
 intro p r N I p1 c p2 c1 h h1;unfold jA at N;refine yK Tryz.func28 fun B=>yC<|uB (cProg p p1 c p2 c1) ?_;intro b hb;refine xR zTwo ?_;intro b1 hb1;refine zX rfl<|yW<|xR zTwo ?_;intro b2 hb2;refine zX rfl<|zZ<|yC<|yL [2] [9,10,11] rfl<|wM<|pJ [(1,vP b 0),(2,vP b1 0),(3,vP b2 0),(9,vS p1 p.Arrays c),(10,vI (p.Arrays.length:Int)),(11,vI 0)]<|pP (gS (Rp.sz Raw2)) ?_;obtain ⟨o0,ho0,hMl⟩:=zB N;refine zCH p 0 ([]:List zD) o0 ho0 (xs:=[]) iR h h1 rfl (fun _ h=>by cases h) RepL.nil (fun _ _ _ h=>h) (fun _ _ h=>h) ?_;intro I04 xs p4 c3 cs1 heq le4 hxs h4;subst o0;have ⟨h,h1⟩:=m2 le4 h h1;obtain ⟨o01,ho01,hMl1⟩:=zB hMl;refine zR<|zZ<|zLb (hs:=[hO Raw2 (vS p4 (xs.map ND.raw) c3) cs1,hB b2 [vS p4 (xs.map ND.raw) c3,z0],hB b1 zTwo,hB b (cProg p p1 c p2 c1)]) (L:=NDs xs) .normal (fun I' hs' m'=>∃ p9 c8 cs5,hs'=[hO zI (vS p9 o01 c8) cs5,hO Raw2 (vS p4 (xs.map ND.raw) c3) cs1,hB b2 [vS p4 (xs.map ND.raw) c3,vS p9 o01 c8],hB b1 zTwo]∧m'=[(2,vP b1 0),(3,vP b2 0)]∧RL I' cs5 o01∧RL I' cs1 (xs.map ND.raw)) (fun B0=>?_) ?_
 · refine yC<|yL [3] [28,29,30] rfl<|wM<|pP (zY [0,1,2] (hs':=[hO Raw2 (vS p4 (xs.map ND.raw) c3) cs1,hB b2 [vS p4 (xs.map ND.raw) c3,z0],hB b1 zTwo]))<|pJ [(2,vP b1 0),(3,vP b2 0),(28,vS p2 p.Parts c1),(29,vI (p.Parts.length:Int)),(30,vI 0)]<|zA1 zI fun h11=>?_;refine zCW p 0 ([]:List zI) o01 ho01 iR h1 h4 h11 (fun _ _ _ h=>by cases h.1) (fun _ _ h=>by cases h.1) ?_;intro I08 Parts1 p9 c8 cs5 heq1 le8 h13;subst o01;exact zR<|zLc ⟨_,_,_,rfl,rfl,h13,iM le8 h4⟩
 rintro I5 hs5 m5 ⟨p9,c8,cs5,rfl,rfl,h13,h5⟩ le5;refine yW<|sK 1 [2] [(42,vA [vS p4 (xs.map ND.raw) c3,vS p9 o01 c8])]<|eG 3 [vS p4 (xs.map ND.raw) c3,vS p9 o01 c8] (hO zI (vS p9 o01 c8) cs5::hO Raw2 (vS p4 (xs.map ND.raw) c3) cs1::hB b2 [vS p4 (xs.map ND.raw) c3,vS p9 o01 c8]::hB b1 [vS p4 (xs.map ND.raw) c3,vS p9 o01 c8]::NDs xs) rfl rfl rfl rfl<|zX rfl<|xH<|xD 0 rfl ?_;intro I6 le6 hl6;have h22:=SL.of_frozen hl6 le6 h13;obtain rfl:=zC hMl1;exact xB ⟨_,_,(.cell 2 rfl rfl (by kernel_rfl) ResV.nil),(kE [hO Raw2 (vS p4 (xs.map ND.raw) c3) cs1,hB b2 [vS p4 (xs.map ND.raw) c3,vS p9 o01 c8],hB b1 [vS p4 (xs.map ND.raw) c3,vS p9 o01 c8]] (NDs xs) [0] rfl (by decide)),⟨xs,_,_,_,_,_,rfl,rfl,rfl,(fun x hx=>(hxs x hx).mono (le5.trans le6)),iM le6 h5,h22⟩⟩
def kL (p:zG) (x:zN):Option (zJ):=do
 let x1←idx p.Parts x.Part
 let x2←idx x1.Body x.Stmt
 pure (id x2)
theorem zDV:∀ p x r,kL p x=some r→∀ {I:Imm}{p1 c p2 c1 p3 c2},(S4 I p1 p.Arrays c)→(S4 I p2 p.Parts c1)→(S4 I p3 x.Point c2)→RT 29 [vA (cProg p p1 c p2 c1),vA (cInst x p3 c2)] I [] (eF  r):=by
 intro p x r N I p1 c p2 c1 p3 c2 h h1 h2;unfold kL at N;refine yK Tryz.func29 fun B=>yC<|uB (cProg p p1 c p2 c1) ?_;intro b hb;refine uB (cInst x p3 c2) ?_;intro b1 hb1;refine xR [vT ([]),z0,vI 0,vI 0,z0,vI 0,vT ([]),z0,z0] ?_;intro b2 hb2;refine zX rfl<|zK<|yD ?_;obtain ⟨x1,hy,N⟩:=zB N;obtain ⟨x2,hy1,N⟩:=zB N;refine wV [.p (vP b 1) [],.p (vS p2 p.Parts c1) [2],.p (vP b1 0) [],.p (vI x.Part) [1],.x (ePPart x1),.x (eQPart 1 x1),.x (eS x1.Body),.p (vP b1 1) [],.p (vI x.Stmt) [1],.x (ePStmt x2),.x (eVStmt x2)] [[],[(0,false)],[],[(2,false)],[(1,false),(3,false)],[(4,false)],[(5,false)],[],[(7,false)],[(6,false),(8,false)],[(9,false)]] [hB b2 [vT ([]),z0,vI 0,vI 0,z0,vI 0,vT ([]),z0,z0],hB b1 (cInst x p3 c2),hB b (cProg p p1 c p2 c1)] [] [(10,false)] (zY [0,1,2]) ?_ ?_
 · refine Op<|Op<|Op<|Op<|Ox ?_<|Ox ?_<|Ox ?_<|Op<|Op<|Ox ?_<|Ox ?_<|On
   · intro I1 hf le1;refine yZ [6,8] rfl ?_;have h1:=h1.mono le1;refine xT rfl rfl h1 hy ?_;intro ad ccs hat hrep;obtain ⟨p4,c3,p5,c4,rfl,h3,h4⟩:=wH hrep;exact yM [] iR ⟨_,_,_,_,_,rfl,rfl,hat,h3,h4⟩
   · rintro I1 hf le1 _ _ ⟨ad,p4,c3,p5,c4,rfl,rfl,hat,h3,h4⟩;exact yZ [9] rfl<|nO 6 [(10,.pointer (some (ad.add 1)))]<|yM [] iR ⟨_,_,_,_,_,rfl,rfl,hat,h3,h4⟩
   · rintro I1 hf le1 _ _ ⟨ad1,p41,c31,p51,c41,rfl,rfl,hat1,h31,h41⟩;exact yZ [10] rfl<|xM 1 hat1 [vS p51 x1.Body c41] (vS p51 x1.Body c41) rfl<|yM [] iR ⟨_,_,rfl,rfl,h41⟩
   · rintro I1 hf le1 _ _ ⟨p511,c411,rfl,rfl,h411⟩;refine yZ [11,13] rfl<|xT rfl rfl h411 hy1 ?_;intro ad2 ccs1 hat2 hrep1;obtain ⟨p6,c5,p7,c6,p8,c7,p9,c8,rfl,h5,h6,h7,h8⟩:=vC hrep1;exact yM [] iR ⟨_,_,_,_,_,_,_,_,_,rfl,rfl,hat2,h5,h6,h7,h8⟩
   rintro I1 hf le1 _ _ ⟨ad2,p6,c5,p7,c6,p8,c7,p9,c8,rfl,rfl,hat2,h5,h6,h7,h8⟩;exact yZ [14] rfl<|xM 0 hat2 (cStmt x2 p6 c5 p7 c6 p8 c7 p9 c8) (vA (cStmt x2 p6 c5 p7 c6 p8 c7 p9 c8)) rfl<|yM [] iR ⟨_,_,_,_,_,_,_,_,rfl,rfl,h5,h6,h7,h8⟩
 rintro I0 le _ _ ⟨p61,c51,p71,c61,p81,c71,p91,c81,rfl,rfl,h51,h61,h71,h81⟩;refine yZ [4,15] rfl ?_;refine yY 0 (cStmt x2 p61 c51 p71 c61 p81 c71 p91 c81) rfl<|zX rfl<|zK<|xC ?_;obtain rfl:=zC N;exact xB ⟨_,_,(.cell 0 rfl rfl (by kernel_rfl) ResV.nil),zQ,⟨_,rfl,rfl,⟨_,rfl,(wC ⟨_,_,_,_,rfl,h51,h61,h71,h81⟩)⟩⟩⟩
end Go.LN
