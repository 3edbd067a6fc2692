/- Helper of the proof (see the last text). -/
import Derived.Test.YtpacccdphbhfbaaGreatHM5
set_option linter.unusedVariables false
set_option linter.unusedSimpArgs false
namespace Go.LN
open Go.Proofs
set_option maxRecDepth 20000
def zDd (b0:Nat) (r:Bool×Int):KT:=fun kk I' hs' v=>
  ∃ v0 k0,hs'=[.blk b0 ⟨k0⟩]∧v=tupV [v0]∧v0=.bool r.1∧Rp.rep I' k0 r.2
def uR (e0:zH) (depth:Int) (deep:Int) (count:Int):Option (Bool×Int):=do
 let t21←(do
   if (decide ((W (count + 1)) > 12)) then
    pure true
   else
    pure (decide (deep > 5))
     : Option Bool)
 if t21 then
  pure (false,(W (count + 1)))
 else
  let t51←(do
    if (e0.Kind != 1) then
     if (e0.Num != 0) then
      pure true
     else
      if (e0.Kind != 2) then
       let y←mQ e0.Index
       if (!y) then
        pure true
       else
        if (e0.Kind != 3) then
         let y1←pS e0.Read
         pure (!y1)
        else
         pure false
      else
       if (e0.Kind != 3) then
        let y2←pS e0.Read
        pure (!y2)
       else
        pure false
    else
     if (e0.Kind != 2) then
      let y3←mQ e0.Index
      if (!y3) then
       pure true
      else
       if (e0.Kind != 3) then
        let y4←pS e0.Read
        pure (!y4)
       else
        pure false
     else
      if (e0.Kind != 3) then
       let y5←pS e0.Read
       pure (!y5)
      else
       pure false
      : Option Bool)
  if t51 then
   pure (false,(W (count + 1)))
  else
   if (e0.Kind == 1) then
    let t8←(do
      let y6←wG e0.Num 0 99
      if y6 then
       pure ((e0.Kids.length:Int) == 0)
      else
       pure false
        : Option Bool)
    pure (t8,(W (count + 1)))
   else
    if (e0.Kind == 2) then
     let t81←(do
       let y7←qR e0.Index
       if y7 then
        let y8←rL e0.Index
        if (decide (y8 ≤ depth)) then
         pure ((e0.Kids.length:Int) == 0)
        else
         pure false
       else
        pure false
         : Option Bool)
     pure (t81,(W (count + 1)))
    else
     if (e0.Kind == 3) then
      let t82←(do
        let y9←mP e0.Read depth
        if y9 then
         pure ((e0.Kids.length:Int) == 0)
        else
         pure false
          : Option Bool)
      pure (t82,(W (count + 1)))
     else
      let t99←(do
        let y10←dP e0.Kind
        if (!y10) then
         pure true
        else
         pure ((e0.Kids.length:Int) != 2)
          : Option Bool)
      if t99 then
       pure (false,(W (count + 1)))
      else
       let (t83,x)←(do
         let x1←idx e0.Kids 0
         let (y12,y13)←uR (same x1) (same depth) (W (deep + 1)) (W (count + 1))
         if y12 then
          let x2←idx e0.Kids 1
          let (y15,y16)←uR (same x2) (same depth) (W (deep + 1)) (same y13)
          pure (y15,y16)
         else
          pure (false,y13)
           : Option (Bool×Int))
       pure (t83,x)
 partial_fixpoint
theorem zF1:∀ e0 depth deep count r,uR e0 depth deep count=some r→∀ {I:Imm}{p c p1 c1 p2 c2}{r0:Nat},(S4 I p e0.Index.Coefs c)→(S4 I p1 e0.Read.Subs c1)→(S4 I p2 e0.Kids c2)→RT 135 [vA (cExpr e0 p c p1 c1 p2 c2),vI depth,vI deep,vP r0 0] I [hB r0 [vI count]] (zDd r0 r):=by
 refine uR.partial_correctness _ fun F_impl_exprScan ih_impl_exprScan e0 depth deep count r N I p c p1 c1 p2 c2 r0 h h1 h2=>yL Tryz.func135 fun B=>?_;have H:=iS I;refine yD<|tS (cExpr e0 p c p1 c1 p2 c2) ?_;intro b hb;refine wI [] []<|yX<|yE 5 [1] [12,13] rfl<|xJ 1 [vI (W (count + 1))] rfl<|yB rfl<|zY<|zZ ?_;refine wT N [hB b (cExpr e0 p c p1 c1 p2 c2),hB r0 [vI (W (count + 1))]] (fun t21=>[(1,vI depth),(2,vI deep),(3,vP r0 0),(4,vP b 0),(21,.bool t21)]) (fun o0 ho0=>?_) ?_
 · have H:=iS I;refine zK<|yE 5 [1] [18] rfl<|xZ [18] ho0 ?_ ?_
   · intro hc N;exact wI [] [(21,vY)]<|yN<|zT (ct N H)
   intro hc N;exact yI [] [21] rfl<|yN<|zT (ct N H)
 intro t21 I0 le hMc;have ⟨h,h1,h2,H⟩:=m4 le h h1 h2 H;refine zI<|yC hMc ?_ ?_
 · intro hc1 N;refine vJ [(8,vF)]<|xG<|zG ?_;obtain rfl:=zC N;exact xA ⟨_,_,(.tmp rfl ResV.nil),(zW [1] rfl (by decide)),⟨_,_,rfl,rfl,rfl,rfl⟩⟩
 intro hc1 N;refine zS<|zY<|zZ ?_;refine wT N [hB b (cExpr e0 p c p1 c1 p2 c2),hB r0 [vI (W (count + 1))]] (fun t51=>[(1,vI depth),(2,vI deep),(3,vP r0 0),(4,vP b 0),(51,.bool t51)]) (fun o01 ho01=>?_) ?_
 · have H:=iS I0;refine zK<|yE 4 [0] [25] rfl<|xZ [25] ho01 ?_ ?_
   · intro hc2 N;refine yE 9 [0] [30] rfl<|xZ [30] N ?_ ?_
     · intro hc3 N;exact wI [] [(51,vY)]<|yN<|zT (ct N H)
     intro hc3 N;refine yE 13 [0] [34] rfl<|xZ [34] N ?_ ?_
     · intro hc4 N;refine qL 15 [0] [(36,vA (cAff e0.Index p c))]<|bE N fun y hy N=>uH (zBT e0.Index _ hy h) ?_;intro I02 le1;have ⟨h1,H⟩:=m2 le1 h1 H;refine yE 20 [] [41] rfl<|xZ [41] N ?_ ?_
       · intro hc5 N;exact wI [] [(51,vY)]<|yN<|zT (ct N H)
       intro hc5 N;refine yE 24 [0] [45] rfl<|xZ [45] N ?_ ?_
       · intro hc6 N;refine qL 26 [0] [(47,vA (cAccess e0.Read p1 c1))]<|bE N fun y1 hy1 N=>uH (fA e0.Read _ hy1 h1) ?_;intro I03 le2;have H:=H.trans le2;exact yI [] [51] rfl<|yN<|zT (ct N H)
       intro hc6 N;exact wI [] [(51,vF)]<|yN<|zT (ct N H)
     intro hc4 N;refine yE 24 [0] [41,45] rfl<|xZ [45] N ?_ ?_
     · intro hc7 N;refine qL 26 [0] [(47,vA (cAccess e0.Read p1 c1))]<|bE N fun y2 hy2 N=>uH (fA e0.Read _ hy2 h1) ?_;intro I04 le3;have H:=H.trans le3;exact yI [] [51] rfl<|yN<|zT (ct N H)
     intro hc7 N;exact wI [] [(51,vF)]<|yN<|zT (ct N H)
   intro hc2 N;refine yE 13 [0] [30,34] rfl<|xZ [34] N ?_ ?_
   · intro hc8 N;refine qL 15 [0] [(36,vA (cAff e0.Index p c))]<|bE N fun y3 hy3 N=>uH (zBT e0.Index _ hy3 h) ?_;intro I05 le4;have ⟨h1,H⟩:=m2 le4 h1 H;refine yE 20 [] [41] rfl<|xZ [41] N ?_ ?_
     · intro hc9 N;exact wI [] [(51,vY)]<|yN<|zT (ct N H)
     intro hc9 N;refine yE 24 [0] [45] rfl<|xZ [45] N ?_ ?_
     · intro hc10 N;refine qL 26 [0] [(47,vA (cAccess e0.Read p1 c1))]<|bE N fun y4 hy4 N=>uH (fA e0.Read _ hy4 h1) ?_;intro I06 le5;have H:=H.trans le5;exact yI [] [51] rfl<|yN<|zT (ct N H)
     intro hc10 N;exact wI [] [(51,vF)]<|yN<|zT (ct N H)
   intro hc8 N;refine yE 24 [0] [41,45] rfl<|xZ [45] N ?_ ?_
   · intro hc11 N;refine qL 26 [0] [(47,vA (cAccess e0.Read p1 c1))]<|bE N fun y5 hy5 N=>uH (fA e0.Read _ hy5 h1) ?_;intro I07 le6;have H:=H.trans le6;exact yI [] [51] rfl<|yN<|zT (ct N H)
   intro hc11 N;exact wI [] [(51,vF)]<|yN<|zT (ct N H)
 intro t51 I01 le7 hMc1;have ⟨h,h1,h2,H⟩:=m4 le7 h h1 h2 H;refine zI<|yC hMc1 ?_ ?_
 · intro hc12 N;refine vJ [(8,vF)]<|xG<|zG ?_;obtain rfl:=zC N;exact xA ⟨_,_,(.tmp rfl ResV.nil),(zW [1] rfl (by decide)),⟨_,_,rfl,rfl,rfl,rfl⟩⟩
 intro hc12 N;refine zS<|zY<|yG<|yD<|yI [0] [52] rfl<|zI<|yC N ?_ ?_
 · intro hc13 N;refine zZ ?_;refine wT N [hB r0 [vI (W (count + 1))]] (fun t8=>[(8,.bool t8)]) (fun o02 ho02=>?_) ?_
   · have H:=iS I01;refine zK<|yE 2 [0] [57] rfl ?_;obtain ⟨y6,hy6,N⟩:=zB ho02;refine uH (wX e0.Num 0 99 _ hy6 ) ?_;intro I09 le8;have H:=H.trans le8;refine yE 4 [] [59] rfl<|xZ [59] N ?_ ?_
     · intro hc14 N;exact yI [0] [8] rfl<|xY (zW [1] rfl (by decide))<|yN<|zT (ct N H)
     intro hc14 N;exact wI [] [(8,vF)]<|xY (zW [1] rfl (by decide))<|yN<|zT (ct N H)
   intro t8 I08 le9 hMc2;refine xG<|zV<|zG ?_;obtain rfl:=zC hMc2;exact xA ⟨_,_,(.tmp rfl ResV.nil),(zW [0] rfl (by decide)),⟨_,_,rfl,rfl,rfl,rfl⟩⟩
 intro hc13 N;refine yD<|yI [0] [65] rfl<|zI<|yC N ?_ ?_
 · intro hc15 N;refine zZ ?_;refine wT N [hB r0 [vI (W (count + 1))]] (fun t81=>[(8,.bool t81)]) (fun o03 ho03=>?_) ?_
   · have H:=iS I01;refine zK<|qL 2 [0] [(70,vA (cAff e0.Index p c))] ?_;obtain ⟨y7,hy7,N⟩:=zB ho03;refine uH (nQ e0.Index _ hy7 h) ?_;intro I011 le10;have ⟨h,H⟩:=m2 le10 h H;refine yE 4 [] [72] rfl<|xZ [72] N ?_ ?_
     · intro hc16 N;refine qL 6 [0] [(74,vA (cAff e0.Index p c))]<|bE N fun y8 hy8 N=>gF (gT e0.Index _ hy8 h) ?_;intro I012 le11;have H:=H.trans le11;refine yE 11 [] [79] rfl<|xZ [79] N ?_ ?_
       · intro hc17 N;exact yI [0] [8] rfl<|xY (zW [1] rfl (by decide))<|yN<|zT (ct N H)
       intro hc17 N;exact wI [] [(8,vF)]<|xY (zW [1] rfl (by decide))<|yN<|zT (ct N H)
     intro hc16 N;exact wI [] [(8,vF)]<|xY (zW [1] rfl (by decide))<|yN<|zT (ct N H)
   intro t81 I010 le12 hMc3;refine xG<|zV<|zG ?_;obtain rfl:=zC hMc3;exact xA ⟨_,_,(.tmp rfl ResV.nil),(zW [0] rfl (by decide)),⟨_,_,rfl,rfl,rfl,rfl⟩⟩
 intro hc15 N;refine yD<|yI [0] [85] rfl<|zI<|yC N ?_ ?_
 · intro hc18 N;refine zZ ?_;refine wT N [hB r0 [vI (W (count + 1))]] (fun t82=>[(8,.bool t82)]) (fun o04 ho04=>?_) ?_
   · have H:=iS I01;refine zK<|qL 3 [0] [(90,vA (cAccess e0.Read p1 c1)),(91,vI depth)] ?_;obtain ⟨y9,hy9,N⟩:=zB ho04;refine uH (zBS e0.Read depth _ hy9 h1) ?_;intro I014 le13;have H:=H.trans le13;refine yE 5 [] [93] rfl<|xZ [93] N ?_ ?_
     · intro hc19 N;exact yI [0] [8] rfl<|xY (zW [1] rfl (by decide))<|yN<|zT (ct N H)
     intro hc19 N;exact wI [] [(8,vF)]<|xY (zW [1] rfl (by decide))<|yN<|zT (ct N H)
   intro t82 I013 le14 hMc4;refine xG<|zV<|zG ?_;obtain rfl:=zC hMc4;exact xA ⟨_,_,(.tmp rfl ResV.nil),(zW [0] rfl (by decide)),⟨_,_,rfl,rfl,rfl,rfl⟩⟩
 intro hc18 N;refine zZ ?_;refine wT N [hB b (cExpr e0 p c p1 c1 p2 c2),hB r0 [vI (W (count + 1))]] (fun t99=>[(1,vI depth),(2,vI deep),(3,vP r0 0),(4,vP b 0),(99,.bool t99)]) (fun o05 ho05=>?_) ?_
 · have H:=iS I01;refine zK<|yE 2 [0] [101] rfl ?_;obtain ⟨y10,hy10,N⟩:=zB ho05;refine uH (zI2 e0.Kind _ hy10 ) ?_;intro I016 le15;have H:=H.trans le15;refine yE 5 [] [104] rfl<|xZ [104] N ?_ ?_
   · intro hc20 N;exact wI [] [(99,vY)]<|yN<|zT (ct N H)
   intro hc20 N;exact yI [0] [99] rfl<|yN<|zT (ct N H)
 intro t99 I015 le16 hMc5;have ⟨h2,H⟩:=m2 le16 h2 H;refine zI<|yC hMc5 ?_ ?_
 · intro hc21 N;refine vJ [(8,vF)]<|xG<|zV<|zG ?_;obtain rfl:=zC N;exact xA ⟨_,_,(.tmp rfl ResV.nil),(zW [1] rfl (by decide)),⟨_,_,rfl,rfl,rfl,rfl⟩⟩
 intro hc21 N;refine zS<|zO<|zI<|zZ ?_;obtain ⟨o06,ho06,hMc6⟩:=zB N;refine qA (fun I' hs' m'=>∃ (t83:Bool) (x:Int),o06=(t83,x)∧I015.le I'∧hs'=[hB r0 [vI x]]∧m'=[(8,.bool t83)]) ?_ ?_
 · have H:=iS I015;refine zK<|yE 2 [0] [111] rfl ?_;obtain ⟨x1,hy11,N⟩:=zB ho06;refine xK rfl rfl h2 hy11 ?_;intro ad ccs hat hrep;obtain ⟨p3,c3,p4,c4,p5,c5,rfl,h14,h15,h16⟩:=tN hrep;refine xF 0 hat (cExpr x1 p3 c3 p4 c4 p5 c5) (vA (cExpr x1 p3 c3 p4 c4 p5 c5)) rfl<|yE 8 [] [114,116,117] rfl<|sK (zX [1,0] (hs':=[hB r0 [vI (W (count + 1))],hB b (cExpr e0 p c p1 c1 p2 c2)])) ?_;obtain ⟨⟨y12,y13⟩,hy12,N⟩:=zB N;refine sJ (ih_impl_exprScan x1 depth (W (deep + 1)) (W (count + 1)) _ hy12 h14 h15 h16) rfl ?_;rintro I018 hs2 v2 k2 le17 - ⟨v014,kk,rfl,rfl,rfl,h18⟩ -;have ⟨h2,H⟩:=m2 le17 h2 H;obtain rfl:=h18;refine yE 10 [] [119] rfl<|xZ [119] N ?_ ?_
   · intro hc22 N;refine yE 12 [1] [121] rfl<|bE N fun x2 hy13 N=>xK rfl rfl h2 hy13 ?_;intro ad1 ccs1 hat1 hrep1;obtain ⟨p6,c6,p7,c7,p8,c8,rfl,h19,h20,h21⟩:=tN hrep1;refine xF 0 hat1 (cExpr x2 p6 c6 p7 c7 p8 c8) (vA (cExpr x2 p6 c6 p7 c7 p8 c8)) rfl<|yE 18 [] [124,126,127] rfl ?_;obtain ⟨⟨y15,y16⟩,hy14,N⟩:=zB N;refine sJ (ih_impl_exprScan x2 depth (W (deep + 1)) y13 _ hy14 h19 h20 h21) rfl ?_;rintro I019 hs2 v2 k2 le18 - ⟨v018,kk1,rfl,rfl,rfl,h23⟩ -;have H:=H.trans le18;obtain rfl:=h23;exact yI [] [8] rfl<|xY (zW [0] rfl (by decide))<|yN<|zT ⟨_,_,(zC N).symm,H,rfl,rfl⟩
   intro hc22 N;exact wI [] [(8,vF)]<|xY (zW [0] rfl (by decide))<|yN<|zT ⟨_,_,(zC N).symm,H,rfl,rfl⟩
 rintro I017 hs2 m2 ⟨t83,x,heq6,le19,rfl,rfl⟩;subst o06;refine zI<|yW ?_;obtain rfl:=zC hMc6;exact xA ⟨_,_,(.tmp rfl ResV.nil),(zW [0] rfl (by decide)),⟨_,_,rfl,rfl,rfl,rfl⟩⟩
def jD (s:zP) (depth:Int):Option (Bool):=do
 let t4←(do
   let y←wG depth 0 4
   if y then
    let y1←mP s.Write depth
    if y1 then
     let (y3,y4)←uR s.Value depth 1 0
     pure (id y3)
    else
     pure false
   else
    pure false
     : Option Bool)
 pure (id t4)
theorem zE6:∀ s depth r,jD s depth=some r→∀ {I:Imm}{p c p1 c1 p2 c2 p3 c3},(S4 I p s.Write.Subs c)→(S4 I p1 s.Value.Index.Coefs c1)→(S4 I p2 s.Value.Read.Subs c2)→(S4 I p3 s.Value.Kids c3)→RT 70 [vA (cStmt s p c p1 c1 p2 c2 p3 c3),vI depth] I [] (zU  r):=by
 intro s depth r N I p c p1 c1 p2 c2 p3 c3 h h1 h2 h3;unfold jD at N;refine yL Tryz.func70 fun B=>?_;have H:=iS I;refine yD<|tS (cStmt s p c p1 c1 p2 c2 p3 c3) ?_;intro b hb;refine wI [] []<|yX<|wY [vI 0] ?_;intro b1 hb1;refine xJ 0 [vI 0] rfl<|yB rfl<|zI<|zZ ?_;refine wT N [] (fun t4=>[(4,.bool t4)]) (fun o0 ho0=>?_) ?_
 · have H:=iS I;refine zK<|yE 1 [] [6] rfl ?_;obtain ⟨y,hy,N⟩:=zB ho0;refine uH (wX depth 0 4 _ hy ) ?_;intro I01 le;have ⟨h,h1,h2,h3,H⟩:=m5 le h h1 h2 h3 H;refine yE 3 [] [8] rfl<|xZ [8] N ?_ ?_
   · intro hc N;refine qL 6 [1] [(10,vA (cAccess s.Write p c)),(11,vI depth)]<|bE N fun y1 hy1 N=>uH (zBS s.Write depth _ hy1 h) ?_;intro I02 le1;have ⟨h1,h2,h3,H⟩:=m4 le1 h1 h2 h3 H;refine yE 9 [] [14] rfl<|xZ [14] N ?_ ?_
     · intro hc1 N;refine qL 12 [1] [(16,vA (cExpr s.Value p1 c1 p2 c2 p3 c3)),(17,vI depth)] ?_;obtain ⟨⟨y3,y4⟩,hy2,N⟩:=zB N;refine sJ (zF1 s.Value depth 1 0 _ hy2 h1 h2 h3) rfl ?_;rintro I03 hs2 v2 k2 le2 - ⟨v02,kk,rfl,rfl,rfl,h7⟩ -;have H:=H.trans le2;obtain rfl:=h7;exact yI [] [4] rfl<|xY zQ<|yN<|zT (ct N H)
     intro hc1 N;exact wI [] [(4,vF)]<|xY zQ<|yN<|zT (ct N H)
   intro hc N;exact wI [] [(4,vF)]<|xY zQ<|yN<|zT (ct N H)
 intro t4 I0 le3 hMc;refine zI<|yW ?_;obtain rfl:=zC hMc;exact wM
def vM (s:zP) (x:zN):Option (Bool):=do
 let y←jD s (x.Nest.length:Int)
 pure (!y)
theorem zAG:∀ s x r,vM s x=some r→∀ {I:Imm}{p c p1 c1 p2 c2 p3 c3}{ad:Addr}{p4 c4 p5 c5},(S4 I p s.Write.Subs c)→(S4 I p1 s.Value.Index.Coefs c1)→(S4 I p2 s.Value.Read.Subs c2)→(S4 I p3 s.Value.Kids c3)→(S4 I p4 x.Nest c4)→(S4 I p5 x.Body c5)→(At I ad (cPart x p4 c4 p5 c5))→RT 91 [vA (cStmt s p c p1 c1 p2 c2 p3 c3),.pointer (some ad)] I [] (zU  r):=by
 intro s x r N I p c p1 c1 p2 c2 p3 c3 ad p4 c4 p5 c5 h h1 h2 h3 h4 h5 hat;unfold vM at N;refine yL Tryz.func91 fun B=>yD<|tS (cStmt s p c p1 c1 p2 c2 p3 c3) ?_;intro b hb;refine wI [] []<|yX<|qL 2 [0] [(4,vA (cStmt s p c p1 c1 p2 c2 p3 c3)),(5,.pointer (some ad))]<|xF 0 hat [vS p4 x.Nest c4] (vS p4 x.Nest c4) rfl<|yE 4 [] [7] rfl<|bE N fun y hy N=>uH (zE6 s (x.Nest.length:Int) _ hy h h1 h2 h3) fun I0 le=>wI [] [(3,.bool (!y))]<|zI<|yW ?_;obtain rfl:=zC N;exact wM
def oN (n0:Int):Option (Bool):=do
 let y←wG n0 (-9999) 9999
 pure (!y)
theorem zE7:∀ n0 r,oN n0=some r→∀ {I:Imm} ,RT 155 [vI n0] I [] (zU  r):=by
 intro n0 r N I;unfold oN at N;refine yL Tryz.func155 fun B=>vJ []<|yX<|yE 1 [] [3] rfl<|bE N fun y hy N=>uH (wX n0 (-9999) 9999 _ hy ) fun I0 le=>wI [] [(2,.bool (!y))]<|zI<|yW ?_;obtain rfl:=zC N;exact wM
def gU (point:(List Int)):Option (Bool):=do
 let t2←(do
   if (decide ((point.length:Int) ≤ 4)) then
    let y←xN point oN
    pure (!y)
   else
    pure false
     : Option Bool)
 pure (id t2)
theorem zGF:∀ point r,gU point=some r→∀ {I:Imm}{p c},(S4 I p point c)→RT 92 [vS p point c] I [] (zU  r):=by
 intro point r N I p c h;unfold gU at N;refine yL Tryz.func92 fun B=>?_;have H:=iS I;refine vJ []<|zI<|zZ ?_;refine wT N [] (fun t2=>[(2,.bool t2)]) (fun o0 ho0=>?_) ?_
 · have H:=iS I;refine zK<|yE 4 [] [6] rfl<|xZ [6] ho0 ?_ ?_
   · intro hc N;refine yE 5 [] [7] rfl ?_;have hf0:FV1 Tryz.prog I [] (.func (.func 155) ⟨[]⟩ ⟨[]⟩) oN:=by
       refine FV1.intro ?_;intro I1 le1 x0 r u0 hF k0;obtain rfl:=k0;exact (zE7 x0 r hF ).mono (by rintro k i hs u ⟨v0,rfl,rfl,h⟩; exact ⟨rfl,h⟩)
     obtain ⟨y,hy,N⟩:=zB N;refine xP (rB point oN _ hy h hf0) ?_;rintro I01 hs2 v2 k2 le - ⟨v0,rfl,rfl,rfl⟩ -;have H:=H.trans le;exact yI [] [2] rfl<|yN<|zT (ct N H)
   intro hc N;exact wI [] [(2,vF)]<|yN<|zT (ct N H)
 intro t2 I0 le1 hMc;refine zI<|yW ?_;obtain rfl:=zC hMc;exact wM
def zBv (r:(List zJ)):KT:=fun kk I' hs' v=>
  ∃ v0,hs'=[]∧v=tupV [v0]∧SL I' v0 r
mutual
def mW (e0:zH):Option ((List zJ)):=do
 if (e0.Kind == 3) then
  pure ([e0.Read]:List zJ)
 else
  let out1←nL (same e0) ([]:List zJ) (same 0)
  pure (id out1)
 partial_fixpoint
def nL (e0:zH) (out:List zJ) (t15:Int):Option (List zJ):=do
 if (decide (t15 < (e0.Kids.length:Int))) then
  let x←idx e0.Kids t15
  let y←mW (same x)
  let out2←app 40 out y
  nL (same e0) (same out2) (W (t15 + 1))
 else
  pure (id out)
 partial_fixpoint
end
theorem zGz:(∀ (e0:zH) r,mW e0=some r→∀ {I:Imm}{p c p1 c1 p2 c2},(S4 I p e0.Index.Coefs c)→(S4 I p1 e0.Read.Subs c1)→(S4 I p2 e0.Kids c2)→RT 49 [vA (cExpr e0 p c p1 c1 p2 c2)] I [] (zBv  r))∧(∀ (e0:zH) (out:List zJ) (t15:Int) o,nL e0 out t15=some o→∀ {B}{I0 I:Imm}{Q p2 c2 p3 c3 cs},I0.le I→(S4 I p2 e0.Kids c2)→(RL I cs out)→NG Q→NO Q→(∀ (I':Imm) (out1:List zJ) (p4:Option Addr) (c4:Nat) (cs1:List Value),o=out1→I0.le I'→(RL I' cs1 out1)→T 25 B Q (.exit 0) I' [hO zJ (vS p4 out1 c4) cs1] [(3,vS p4 out1 c4)])→J Tryz.prog 25 B (nav (bodyOf Tryz.f49) [1,1,1,0,1,0]) Q I [hO zJ (vS p3 out c3) cs] [(3,vS p3 out c3),(13,vS p2 e0.Kids c2),(14,vI (e0.Kids.length:Int)),(15,vI t15)]):=by
  refine mW.mutual_partial_correctness _ _ ?_ ?_
  · intro F_impl_reads_l1 ih_impl_reads_l1 e0 r N I p c p1 c1 p2 c2 h h1 h2;refine yL Tryz.func49 fun B=>yD<|tS (cExpr e0 p c p1 c1 p2 c2) ?_;intro b hb;refine wI [] []<|zY<|yD<|yI [0] [8] rfl<|zI<|yC N ?_ ?_
    · intro hc N;refine yD<|qL 2 [0] [(10,vA (cAccess e0.Read p1 c1))]<|uN (cAccess e0.Read p1 c1) zJ ?_;intro b1 hb1;have h3:RL I (cAccess e0.Read p1 c1) ([e0.Read]:List zJ):=⟨(cAccess e0.Read p1 c1),_,rfl,rfl,(mA ⟨_,rfl,h1⟩),rfl⟩;refine yI [] [2] rfl<|xG<|zG<|yV 0 rfl ?_;intro I0 le hl0;have h4:=SL.of_frozen hl0 le h3;obtain rfl:=zC N;exact xA ⟨_,_,(.tmp rfl ResV.nil),zQ,⟨_,rfl,rfl,h4⟩⟩
    intro hc N;refine zS<|zFr [(3,z0)]<|zY<|yD<|yI [0] [13,14,15] rfl<|xW<|jG (zX [] (hs':=[]))<|qW [(3,z0),(13,vS p2 e0.Kids c2),(14,vI (e0.Kids.length:Int)),(15,vI 0)]<|dR zJ fun h5=>?_;obtain ⟨o0,ho0,hMl⟩:=zB N;refine ih_impl_reads_l1 e0 ([]:List zJ) 0 o0 ho0 iR h2 h5 (fun _ _ _ h=>h) (fun _ _ h=>h) ?_;intro I02 out1 p4 c4 cs1 heq le2 h7;subst o0;refine zR<|wH [2] rfl<|xG<|yV 0 rfl ?_;intro I03 le3 hl01;have h13:=SL.of_frozen hl01 le3 h7;obtain rfl:=zC hMl;exact xA ⟨_,_,(.tmp rfl ResV.nil),zQ,⟨_,rfl,rfl,h13⟩⟩
  intro F_impl_reads F_impl_reads_l1 ih_impl_reads ih_impl_reads_l1 e0 out t15 o N B I0 I Q p2 c2 p3 c3 cs H h2 h6 hg ho hx;refine yQ hg ho<|yF [16] rfl<|zY<|yC N ?_ ?_
  · intro hc1 N;refine zS<|zY<|yG<|yD<|bE N fun x hy N=>xK rfl rfl h2 hy ?_;intro ad ccs hat hrep;obtain ⟨p5,c5,p6,c6,p7,c7,rfl,h8,h9,h10⟩:=tN hrep;refine xF 0 hat (cExpr x p5 c5 p6 c6 p7 c7) (vA (cExpr x p5 c5 p6 c6 p7 c7)) rfl<|wY zExpr ?_;intro b2 hb2;refine xJ 0 (cExpr x p5 c5 p6 c6 p7 c7) rfl<|yB rfl<|zI<|zK<|qL 2 [0] [(19,vS p3 out c3),(20,vA (cExpr x p5 c5 p6 c6 p7 c7))]<|bE N fun y hy1 N=>xP (ih_impl_reads x _ hy1 h8 h9 h10) ?_;rintro I01 hs2 v2 k2 le1 - ⟨v03,rfl,rfl,h11⟩ -;have ⟨h2,h6,H⟩:=m3 le1 h2 h6 H;obtain ⟨p8,c8,rfl⟩:=h11.form;obtain ⟨ccs1,k0,k01⟩:=h11;have h11:SL I01 (vS p8 y c8) y:=⟨_,k0,k01⟩;obtain ⟨out2,hy2,N⟩:=zB N;exact rX 41 2 1 rfl rfl rfl h6 (.inl k0) k01 hy2 fun p9 c9 cs2 h12=>sK (zX [0,1] (hs':=[hB b2 (cExpr x p5 c5 p6 c6 p7 c7),hO zJ (vS p9 out2 c9) cs2]))<|yI [] [3] rfl<|zO<|zI<|zK<|yI [] [15] rfl<|yO<|jG (zW [1] rfl (by decide))<|nF<|ih_impl_reads_l1 e0 out2 (W (t15 + 1)) _ N H h2 h12 hg ho hx
  intro hc1 N;exact wJ<|yN<|hx _ _ _ _ _ (zC N).symm H h6
theorem zDM:∀ e0 r,mW e0=some r→∀ {I:Imm}{p c p1 c1 p2 c2},(S4 I p e0.Index.Coefs c)→(S4 I p1 e0.Read.Subs c1)→(S4 I p2 e0.Kids c2)→RT 49 [vA (cExpr e0 p c p1 c1 p2 c2)] I [] (zBv  r):=zGz.1
def qJ (hsF:List HA) (r:Int):KT:=fun kk I' hs' v=>
  ∃ v0,hsF=hs'∧v=tupV [v0]∧v0=.int .i64 r
def xD (s:(List zJ)) (f0:(zJ→Option Bool)) (t8:Int):Option (Out Unit (Int)):=do
 if (decide (t8 < (s.length:Int))) then
  let x←idx s t8
  let y←f0 x
  if y then
   pure (.ret t8)
  else
   xD s f0 (W (t8 + 1))
 else
  pure (.done ())
 partial_fixpoint
theorem kO (s:(List zJ)) (f0:(zJ→Option Bool)):∀ (t8:Int) (o:Out Unit (Int)),xD s f0 t8=some o→∀ {B}{I0 I:Imm}{Q p c}{fv:Value}{hsF:List HA},I0.le I→(S4 I p s c)→(FV1 Tryz.prog I hsF fv f0)→NG Q→NO Q→(∀ (I':Imm) ,o=(.done ())→I0.le I'→T 19 B Q (.exit 0) I' hsF [])→(∀ r I' hs' m',o=(.ret r)→I0.le I'→RS Tryz.prog Tryz.f162 B (qJ hsF r) I' hs' m'→T 19 B Q .ret I' hs' m')→J Tryz.prog 19 B (nav (bodyOf Tryz.f162) [1,0,1,0]) Q I hsF [(0,vS p s c),(1,fv),(7,vI (s.length:Int)),(8,vI t8)]:=by
 refine xD.partial_correctness s f0 _ fun self ih t8 o N B I0 I Q p c fv hsF H h h1 hg ho hx hr=>yQ hg ho<|yF [9] rfl<|zY<|yC N ?_ ?_
 · intro hc N;refine zS<|zY<|yG<|yF [5] rfl<|yX<|yE 3 [] [11,12,13] rfl<|bE N fun x hy N=>xK rfl rfl h hy ?_;intro ad ccs hat hrep;obtain ⟨p1,c1,rfl,h2⟩:=oZ hrep;refine xF 0 hat (cAccess x p1 c1) (vA (cAccess x p1 c1)) rfl<|bE N fun y hy1 N=>zK2 rfl rfl h1 hy1 ⟨_,rfl,(mA ⟨_,rfl,h2⟩)⟩ (List.append_nil _).symm ?_;rintro I0 v01 le rfl;refine vK (hs':=hsF) (List.append_nil _) ?_;have ⟨h,h1,H⟩:=m3 le h h1 H;refine yB rfl<|zI<|yC N ?_ ?_
   · intro hc1 N;exact yF [4] rfl<|xG<|zV<|zG<|zG<|hr _ _ _ _ (zC N).symm H ⟨_,_,(.tmp rfl ResV.nil),(fun _ h=>h),⟨_,rfl,rfl,rfl⟩⟩
   intro hc1 N;exact zS<|zO<|zI<|zK<|yI [] [8] rfl<|yO<|nF<|ih (W (t8 + 1)) _ N H h h1 hg ho hx hr
 intro hc N;exact wJ<|yN<|hx _  (zC N).symm H
def vC (s:(List zJ)) (f0:(zJ→Option Bool)):Option (Int):=do
 match←xD s f0 0 with
 | .ret r0=>pure r0
 | .done _ =>
  pure (-1)
theorem jJ:∀ s f0 r,vC s f0=some r→∀ {I:Imm}{p c}{fv:Value}{hsF:List HA},(S4 I p s c)→(FV1 Tryz.prog I hsF fv f0)→RT 162 [vS p s c,fv] I hsF (qJ hsF r):=by
 intro s f0 r N I p c fv hsF h h1;unfold vC at N;refine yL Tryz.func162 fun B=>vJ []<|zY<|yF [7,8] rfl<|xW<|qW [(0,vS p s c),(1,fv),(7,vI (s.length:Int)),(8,vI 0)] ?_;obtain ⟨o0,ho0,hMl⟩:=zB N;refine kO s f0 0 o0 ho0 iR h h1 (fun _ _ _ h=>h) (fun _ _ h=>h) ?_ ?_
 · intro I01  heq le1;subst o0;refine zR<|wH [4] rfl<|zI<|yW ?_;obtain rfl:=zC hMl;exact xA ⟨_,_,(.tmp rfl ResV.nil),(fun _ h=>h),⟨_,rfl,rfl,rfl⟩⟩
 intro r0 I9 hs9 m9 heq9 le9 hrs9;subst heq9;refine zV<|zG ?_;obtain rfl:=zC hMl;exact xA hrs9
def mK (hsF:List HA) (r:Bool):KT:=fun kk I' hs' v=>
  ∃ v0,hsF=hs'∧v=tupV [v0]∧v0=.bool r
def xT (s:(List zJ)) (f0:(zJ→Option Bool)):Option (Bool):=do
 let y←vC s f0
 pure (decide (y ≥ 0))
theorem kQ:∀ s f0 r,xT s f0=some r→∀ {I:Imm}{p c}{fv:Value}{hsF:List HA},(S4 I p s c)→(FV1 Tryz.prog I hsF fv f0)→RT 102 [vS p s c,fv] I hsF (mK hsF r):=by
 intro s f0 r N I p c fv hsF h h1;unfold xT at N;refine yL Tryz.func102 fun B=>vJ []<|yX<|yE 2 [] [5,6] rfl<|bE N fun y hy N=>zEu (hs1:=hsF) (rest:=[]) rfl rfl rfl rfl (by kernel_rfl) rfl (List.append_nil _).symm (jJ s f0 _ hy h h1) ?_;rintro I0 hs2 v2 k2 le - ⟨v0,rfl,rfl,rfl⟩ -;refine vK (hs':=hsF) (List.append_nil _) ?_;refine yI [] [4] rfl<|zI<|yW ?_;obtain rfl:=zC N;exact xA ⟨_,_,(.tmp rfl ResV.nil),(fun _ h=>h),⟨_,rfl,rfl,rfl⟩⟩
def sP (a0:zF) (n0:Int) (t9:Int):Option (Int):=do
 if (decide (t9 < (a0.Dims.length:Int))) then
  let x←idx a0.Dims t9
  sP a0 (W (n0 * x)) (W (t9 + 1))
 else
  pure (id n0)
 partial_fixpoint
theorem zCD (a0:zF):∀ (n0:Int) (t9:Int) (o:Int),sP a0 n0 t9=some o→∀ {B}{I0 I:Imm}{Q p c},I0.le I→(S4 I p a0.Dims c)→NG Q→NO Q→(∀ (I':Imm) (n01:Int),o=n01→I0.le I'→T 18 B Q (.exit 0) I' [] [(3,vI n01)])→J Tryz.prog 18 B (nav (bodyOf Tryz.f174) [1,1,0,1,0]) Q I [] [(3,vI n0),(7,vS p a0.Dims c),(8,vI (a0.Dims.length:Int)),(9,vI t9)]:=by
 refine sP.partial_correctness a0 _ fun self ih n0 t9 o N B I0 I Q p c H h hg ho hx=>yQ hg ho<|yF [10] rfl<|zY<|yC N ?_ ?_
 · intro hc N;refine zS<|zY<|yG<|yD<|bE N fun x hy N=>xK rfl rfl h hy ?_;intro ad ccs hat hrep;obtain rfl:=hrep;exact xF 0 hat [vI x] (vI x) rfl<|yI [] [5] rfl<|zI<|zK<|yI [] [3] rfl<|zO<|zI<|zK<|yI [] [9] rfl<|yO<|nF<|ih (W (n0 * x)) (W (t9 + 1)) _ N H h hg ho hx
 intro hc N;exact wJ<|yN<|hx _ _ (zC N).symm H
def mX (a0:zF):Option (Int):=do
 let n01←sP a0 1 0
 pure (id n01)
theorem zDe:∀ a0 r,mX a0=some r→∀ {I:Imm}{p c},(S4 I p a0.Dims c)→RT 174 [vA (cArr a0 p c)] I [] (yM  r):=by
 intro a0 r N I p c h;unfold mX at N;refine yL Tryz.func174 fun B=>yD<|tS (cArr a0 p c) ?_;intro b hb;refine wI [] []<|wH [3] rfl<|zY<|yD<|yI [0] [7,8,9] rfl<|xW<|jG (zX [] (hs':=[]))<|qW [(3,vI 1),(7,vS p a0.Dims c),(8,vI (a0.Dims.length:Int)),(9,vI 0)] ?_;obtain ⟨o0,ho0,hMl⟩:=zB N;refine zCD a0 1 0 o0 ho0 iR h (fun _ _ _ h=>h) (fun _ _ h=>h) ?_;intro I0 n01 heq le;subst o0;refine zR<|wH [2] rfl<|zI<|yW ?_;obtain rfl:=zC hMl;exact wM
def tR (a0:zJ) (point:(List Int)) (x:zF) (at0:Int) (t40:Int):Option (Out Int (Int)):=do
 if (decide (t40 < (a0.Subs.length:Int))) then
  let x1←idx a0.Subs t40
  let y1←tQ x1 point
  let x2←idx x.Dims t40
  let y2←wG y1 0 (W (x2 - 1))
  if (!y2) then
   pure (.ret (-1))
  else
   let x3←idx x.Dims t40
   tR a0 point x (W ((W (at0 * x3)) + y1)) (W (t40 + 1))
 else
  pure (.done at0)
 partial_fixpoint
theorem zBU (a0:zJ) (point:(List Int)) (x:zF):∀ (at0:Int) (t40:Int) (o:Out Int (Int)),tR a0 point x at0 t40=some o→∀ {B}{I0 I:Imm}{Q}{first:Int}{p3 c2 p4 c3 p5 c4}{b2:Nat},I0.le I→(S4 I p4 point c3)→(S4 I p3 a0.Subs c2)→(S4 I p5 x.Dims c4)→NG Q→NO Q→(∀ (I':Imm) (at01:Int),o=(.done at01)→I0.le I'→T 71 B Q (.exit 2) I' [] [(7,vI first),(10,vI at01)])→(∀ r I' hs' m',o=(.ret r)→I0.le I'→RS Tryz.prog Tryz.f128 B (yM  r) I' hs' m'→T 71 B Q .ret I' hs' m')→J Tryz.prog 71 B (nav (bodyOf Tryz.f128) [1,1,0,1,0,0,1,1,0,0,1,1,1,1,0,1,0]) Q I [hB b2 (cArr x p5 c4)] [(2,vS p4 point c3),(7,vI first),(9,vP b2 0),(10,vI at0),(38,vS p3 a0.Subs c2),(39,vI (a0.Subs.length:Int)),(40,vI t40)]:=by
 refine tR.partial_correctness a0 point x _ fun self ih at0 t40 o N B I0 I Q first p3 c2 p4 c3 p5 c4 b2 H h3 h2 h4 hg ho hx hr=>yQ hg ho<|yF [41] rfl<|zY<|yC N ?_ ?_
 · intro hc3 N;refine zS<|zY<|yG<|yD<|yE 1 [] [42] rfl<|bE N fun x1 hy2 N=>xK rfl rfl h2 hy2 ?_;intro ad1 ccs1 hat1 hrep1;obtain ⟨p6,c5,rfl,h6⟩:=yS hrep1;refine xF 0 hat1 (cAff x1 p6 c5) (vA (cAff x1 p6 c5)) rfl<|wY [z0,vI 0] ?_;intro b3 hb3;refine yE 5 [] [11] rfl<|xJ 0 (cAff x1 p6 c5) rfl<|yB rfl<|yX<|qL 2 [0] [(45,vA (cAff x1 p6 c5)),(46,vS p4 point c3)]<|bE N fun y1 hy3 N=>gF (nR x1 point _ hy3 h6 h3) ?_;intro I01 le1;have ⟨h3,h2,h4,H⟩:=m4 le1 h3 h2 h4 H;refine yI [] [13] rfl<|zY<|yD<|yE 4 [1] [48,50,51] rfl<|bE N fun x2 hy4 N=>xK rfl rfl h4 hy4 ?_;intro ad2 ccs2 hat2 hrep2;obtain rfl:=hrep2;refine xF 0 hat2 [vI x2] (vI x2) rfl<|yE 7 [] [54] rfl<|bE N fun y2 hy5 N=>uH (wX y1 0 (W (x2 - 1)) _ hy5 ) ?_;intro I02 le2;have ⟨h3,h2,h4,H⟩:=m4 le2 h3 h2 h4 H;refine yI [] [56] rfl<|zI<|yC N ?_ ?_
   · intro hc4 N;exact yF [6] rfl<|xG<|zG<|zV<|zG<|zG<|hr _ _ _ _ (zC N).symm H ⟨_,_,(.tmp rfl ResV.nil),zQ,⟨_,rfl,rfl,rfl⟩⟩
   intro hc4 N;refine zS<|zI<|zK<|yE 4 [1] [57,59,60] rfl<|bE N fun x3 hy6 N=>xK rfl rfl h4 hy6 ?_;intro ad3 ccs3 hat3 hrep3;obtain rfl:=hrep3;exact xF 0 hat3 [vI x3] (vI x3) rfl<|yI [] [10] rfl<|zO<|zI<|zK<|yI [] [40] rfl<|yO<|jG (zW [1] rfl (by decide))<|nF<|ih (W ((W (at0 * x3)) + y1)) (W (t40 + 1)) _ N H h3 h2 h4 hg ho hx hr
 intro hc3 N;exact wJ<|xY zQ<|yN<|hx _ _ (zC N).symm H
def uG (p:zD) (a0:zJ) (point:(List Int)) (first:Int) (t17:Int):Option (Out Unit (Int)):=do
 if (decide (t17 < (p.Arrays.length:Int))) then
  let x←idx p.Arrays t17
  if (!(x.Name.l == a0.Array.l)) then
   let y←mX x
   uG p a0 point (W (first + y)) (W (t17 + 1))
  else
   if ((a0.Subs.length:Int) != (x.Dims.length:Int)) then
    pure (.ret (-1))
   else
    match←tR a0 point x 0 0 with
    | .ret r0=>pure (.ret r0)
    | .done at01 =>
     pure (.ret (W (first + at01)))
 else
  pure (.done ())
 partial_fixpoint
theorem zBV (p:zD) (a0:zJ) (point:(List Int)):∀ (first:Int) (t17:Int) (o:Out Unit (Int)),uG p a0 point first t17=some o→∀ {B}{I0 I:Imm}{Q p1 c p3 c2 p4 c3}{b1:Nat},I0.le I→(S4 I p4 point c3)→(S4 I p1 p.Arrays c)→(S4 I p3 a0.Subs c2)→NG Q→NO Q→(∀ (I':Imm) ,o=(.done ())→I0.le I'→T 71 B Q (.exit 0) I' [] [])→(∀ r I' hs' m',o=(.ret r)→I0.le I'→RS Tryz.prog Tryz.f128 B (yM  r) I' hs' m'→T 71 B Q .ret I' hs' m')→J Tryz.prog 71 B (nav (bodyOf Tryz.f128) [1,1,0,1,0]) Q I [hB b1 (cAccess a0 p3 c2)] [(2,vS p4 point c3),(4,vP b1 0),(7,vI first),(15,vS p1 p.Arrays c),(16,vI (p.Arrays.length:Int)),(17,vI t17)]:=by
 refine uG.partial_correctness p a0 point _ fun self ih first t17 o N B I0 I Q p1 c p3 c2 p4 c3 b1 H h3 h h2 hg ho hx hr=>yQ hg ho<|yF [18] rfl<|zY<|yC N ?_ ?_
 · intro hc N;refine zS<|zY<|yG<|yD<|bE N fun x hy N=>xK rfl rfl h hy ?_;intro ad ccs hat hrep;obtain ⟨p5,c4,rfl,h4⟩:=wO hrep;refine xF 0 hat (cArr x p5 c4) (vA (cArr x p5 c4)) rfl<|wY [vT ([]),z0] ?_;intro b2 hb2;refine xJ 0 (cArr x p5 c4) rfl<|yB rfl<|zY<|yD<|yI [0,1] [25] rfl<|zI<|yC N ?_ ?_
   · intro hc1 N;refine yD<|qL 2 [0] [(26,vI first),(27,vA (cArr x p5 c4))]<|bE N fun y hy1 N=>gF (zDe x _ hy1 h4) ?_;intro I0 le;have ⟨h3,h,h2,H⟩:=m4 le h3 h h2 H;exact yI [] [7] rfl<|zI<|zEr<|jK<|zR<|zI<|zK<|yI [] [17] rfl<|yO<|jG (zW [1] rfl (by decide))<|nF<|ih (W (first + y)) (W (t17 + 1)) _ N H h3 h h2 hg ho hx hr
   intro hc1 N;refine zS<|zY<|yD<|yI [1,0] [36] rfl<|zI<|yC N ?_ ?_
   · intro hc2 N;exact yF [6] rfl<|xG<|zG<|zV<|zG<|zG<|hr _ _ _ _ (zC N).symm H ⟨_,_,(.tmp rfl ResV.nil),zQ,⟨_,rfl,rfl,rfl⟩⟩
   intro hc2 N;refine zS<|wH [10] rfl<|zY<|yD<|yI [1] [38,39,40] rfl<|xW<|jG (zX [0] (hs':=[hB b2 (cArr x p5 c4)]))<|qW [(2,vS p4 point c3),(7,vI first),(9,vP b2 0),(10,vI 0),(38,vS p3 a0.Subs c2),(39,vI (a0.Subs.length:Int)),(40,vI 0)] ?_;obtain ⟨o0,ho0,hMl⟩:=zB N;refine zBU a0 point x 0 0 o0 ho0 iR h3 h2 h4 (fun _ _ _ h=>hg _ _ _ h) (fun _ _ h=>ho _ _ h) ?_ ?_
   · intro I03 at01 heq le3;subst o0;have H:=H.trans le3;exact zR<|wH [6] rfl<|xG<|zV<|zG<|zG<|hr _ _ _ _ (zC hMl).symm H ⟨_,_,(.tmp rfl ResV.nil),zQ,⟨_,rfl,rfl,rfl⟩⟩
   intro r0 I9 hs9 m9 heq9 le9 hrs9;subst heq9;exact zV<|zG<|zV<|zG<|zG<|hr _ _ _ _ (zC hMl).symm (H.trans le9) hrs9
 intro hc N;exact wJ<|xY zQ<|yN<|hx _  (zC N).symm H
def sC (p:zD) (a0:zJ) (point:(List Int)):Option (Int):=do
 match←uG p a0 point 0 0 with
 | .ret r0=>pure r0
 | .done _ =>
  pure (-1)
theorem mY:∀ p a0 point r,sC p a0 point=some r→∀ {I:Imm}{p1 c p2 c1 p3 c2 p4 c3},(S4 I p1 p.Arrays c)→(S4 I p2 p.Parts c1)→(S4 I p3 a0.Subs c2)→(S4 I p4 point c3)→RT 128 [vA (cProg p p1 c p2 c1),vA (cAccess a0 p3 c2),vS p4 point c3] I [] (yM  r):=by
 intro p a0 point r N I p1 c p2 c1 p3 c2 p4 c3 h h1 h2 h3;unfold sC at N;refine yL Tryz.func128 fun B=>yD<|tS (cProg p p1 c p2 c1) ?_;intro b hb;refine tS (cAccess a0 p3 c2) ?_;intro b1 hb1;refine wI [] []<|wH [7] rfl<|zY<|yD<|yI [1] [15,16,17] rfl<|xW<|jG (zX [0] (hs':=[hB b1 (cAccess a0 p3 c2)]))<|qW [(2,vS p4 point c3),(4,vP b1 0),(7,vI 0),(15,vS p1 p.Arrays c),(16,vI (p.Arrays.length:Int)),(17,vI 0)] ?_;obtain ⟨o01,ho01,hMl1⟩:=zB N;refine zBV p a0 point 0 0 o01 ho01 iR h3 h h2 (fun _ _ _ h=>h) (fun _ _ h=>h) ?_ ?_
 · intro I04  heq1 le4;subst o01;refine zR<|wH [6] rfl<|zI<|yW ?_;obtain rfl:=zC hMl1;exact wM
 intro r0 I9 hs9 m9 heq9 le9 hrs9;subst heq9;refine zV<|zG ?_;obtain rfl:=zC hMl1;exact xA hrs9
def tD (a0:zJ) (x:zD) (x1:(List Int)):Option (Bool):=do
 let y←sC x a0 x1
 pure (decide (y < 0))
theorem zAt:∀ a0 x x1 r,tD a0 x x1=some r→∀ {I:Imm}{p c}{ad:Addr}{p1 c1 p2 c2}{ad1:Addr}{p3 c3},(S4 I p a0.Subs c)→(S4 I p1 x.Arrays c1)→(S4 I p2 x.Parts c2)→(At I ad (cProg x p1 c1 p2 c2))→(S4 I p3 x1 c3)→(At I ad1 [vS p3 x1 c3])→RT 156 [vA (cAccess a0 p c),.pointer (some ad),.pointer (some ad1)] I [] (zU  r):=by
 intro a0 x x1 r N I p c ad p1 c1 p2 c2 ad1 p3 c3 h h1 h2 hat h3 hat1;unfold tD at N;refine yL Tryz.func156 fun B=>yD<|tS (cAccess a0 p c) ?_;intro b hb;refine wI [] []<|yX<|xF 0 hat (cProg x p1 c1 p2 c2) (vA (cProg x p1 c1 p2 c2)) rfl<|qL 2 [0] [(6,vA (cAccess a0 p c))]<|xF 0 hat1 [vS p3 x1 c3] (vS p3 x1 c3) rfl<|bE N fun y hy N=>gF (mY x a0 x1 _ hy h1 h2 h h3) fun I0 le=>wI [] [(4,.bool (decide (y < 0)))]<|zI<|yW ?_;obtain rfl:=zC N;exact wM
def pV (p:zD) (s:zP) (point:(List Int)):Option (Bool):=do
 let t6←(do
   let y←sC p s.Write point
   if (decide (y ≥ 0)) then
    let y1←mW s.Value
    let y2←xT y1 (fun x0=>tD x0 p point)
    pure (!y2)
   else
    pure false
     : Option Bool)
 pure (id t6)
theorem zBc:∀ p s point r,pV p s point=some r→∀ {I:Imm}{p1 c p2 c1 p3 c2 p4 c3 p5 c4 p6 c5 p7 c6},(S4 I p1 p.Arrays c)→(S4 I p2 p.Parts c1)→(S4 I p3 s.Write.Subs c2)→(S4 I p4 s.Value.Index.Coefs c3)→(S4 I p5 s.Value.Read.Subs c4)→(S4 I p6 s.Value.Kids c5)→(S4 I p7 point c6)→RT 93 [vA (cProg p p1 c p2 c1),vA (cStmt s p3 c2 p4 c3 p5 c4 p6 c5),vS p7 point c6] I [] (zU  r):=by
 intro p s point r N I p1 c p2 c1 p3 c2 p4 c3 p5 c4 p6 c5 p7 c6 h h1 h2 h3 h4 h5 h6;unfold pV at N;refine yL Tryz.func93 fun B=>?_;have H:=iS I;refine yD<|tS (cProg p p1 c p2 c1) ?_;intro b hb;refine xO 0 rfl ?_;intro I0 le hl0;have hat:At I0 ⟨b,0,none⟩ (cProg p p1 c p2 c1):=At.of_blk hl0;have ⟨h,h1,h2,h3,h4,h5⟩:=m6 le h h1 h2 h3 h4 h5;have ⟨h6,H⟩:=m2 le h6 H;refine tS (cStmt s p3 c2 p4 c3 p5 c4 p6 c5) ?_;intro b1 hb1;refine tS [vS p7 point c6] ?_;intro b2 hb2;refine xO 0 rfl ?_;intro I01 le1 hl01;have hat1:At I01 ⟨b2,0,none⟩ [vS p7 point c6]:=At.of_blk hl01;have ⟨h,h1,h2,h3,h4,h5⟩:=m6 le1 h h1 h2 h3 h4 h5;have ⟨h6,hat,H⟩:=m3 le1 h6 hat H;refine wI [] []<|zI<|zZ ?_;refine wT N [] (fun t6=>[(6,.bool t6)]) (fun o0 ho0=>?_) ?_
 · have H:=iS I01;refine zK<|xF 0 hat (cProg p p1 c p2 c1) (vA (cProg p p1 c p2 c1)) rfl<|qL 3 [0] [(9,vA (cAccess s.Write p3 c2))]<|xF 0 hat1 [vS p7 point c6] (vS p7 point c6) rfl ?_;obtain ⟨y,hy,N⟩:=zB ho0;refine gF (mY p s.Write point _ hy h h1 h2 h6) ?_;intro I03 le2;have ⟨h,h1,hat,h6,hat1,h3⟩:=m6 le2 h h1 hat h6 hat1 h3;have ⟨h4,h5,H⟩:=m3 le2 h4 h5 H;refine yE 7 [] [13] rfl<|xZ [13] N ?_ ?_
   · intro hc N;refine qL 9 [0] [(15,vA (cExpr s.Value p4 c3 p5 c4 p6 c5))]<|bE N fun y1 hy1 N=>xP (zDM s.Value _ hy1 h3 h4 h5) ?_;rintro I04 hs2 v2 k2 le3 - ⟨v01,rfl,rfl,h8⟩ -;have ⟨h,h1,hat,h6,hat1,H⟩:=m6 le3 h h1 hat h6 hat1 H;obtain ⟨p8,c7,rfl⟩:=h8.form;refine yE 11 [] [17] rfl ?_;have hf0:FV1 Tryz.prog I04 [] (.func (.func 156) ⟨[]⟩ ⟨[vP b 0,vP b2 0]⟩) (fun x0=>tD x0 p point):=by
       refine FV1.intro ?_;intro I1 le1 x0 r u0 hF k0;obtain ⟨_,rfl,k0⟩:=k0;obtain ⟨p9,c8,rfl,h9⟩:=oZ k0;exact (zAt x0 p point r hF h9 (h.mono le1) (h1.mono le1) (hat.mono le1) (h6.mono le1) (hat1.mono le1)).mono (by rintro k i hs u ⟨v0,rfl,rfl,h⟩; exact ⟨rfl,h⟩)
     obtain ⟨y2,hy2,N⟩:=zB N;refine xP (kQ y1 (fun x0=>tD x0 p point) _ hy2 h8 hf0) ?_;rintro I05 hs2 v2 k2 le4 - ⟨v03,rfl,rfl,rfl⟩ -;have H:=H.trans le4;exact yI [] [6] rfl<|xY zQ<|yN<|zT (ct N H)
   intro hc N;exact wI [] [(6,vF)]<|xY zQ<|yN<|zT (ct N H)
 intro t6 I02 le5 hMc;refine zI<|yW ?_;obtain rfl:=zC hMc;exact wM
def qV (r:(List zL)×Bool):KT:=fun kk I' hs' v=>
  ∃ v0 v1,hs'=[]∧v=tupV [v0,v1]∧SL I' v0 r.1∧v1=.bool r.2
def vD (p:zD) (t26:Int) (x:zN) (x1:(List Int)) (out4:List zL) (t64:Int):Option (Out (List zL) ((List zL)×Bool)):=do
 if (decide (t64 < (x.Body.length:Int))) then
  let x2←idx x.Body t64
  let y7←pV p x2 x1
  if (!y7) then
   pure (.ret (([]:List zL),false))
  else
   let y8←rC x1
   let out6←app 40 out4 ([(zL.mk t26 t64 y8)]:List zL)
   vD p t26 x x1 out6 (W (t64 + 1))
 else
  pure (.done out4)
 partial_fixpoint
theorem dV (p:zD) (t26:Int) (x:zN) (x1:(List Int)):∀ (out4:List zL) (t64:Int) (o:Out (List zL) ((List zL)×Bool)),vD p t26 x x1 out4 t64=some o→∀ {B}{I0 I:Imm}{Q}{y2:(List (List Int))}{t54:Int}{p1 c p2 c1}{b:Nat}{p5 c4 p6 c5}{b1:Nat}{p7 c6 p14 c13 p15 c14 cs4},I0.le I→(S4 I p5 x.Nest c4)→(S4 I p6 x.Body c5)→(At I ⟨b1,0,none⟩ (cPart x p5 c4 p6 c5))→(S4 I p14 x1 c13)→(S4 I p2 p.Parts c1)→(S4 I p7 y2 c6)→(S4 I p1 p.Arrays c)→(RL I cs4 out4)→NG Q→NO Q→(∀ (I':Imm) (out5:List zL) (p16:Option Addr) (c15:Nat) (cs5:List Value),o=(.done out5)→I0.le I'→(RL I' cs5 out5)→T 89 B Q (.exit 4) I' [hO zL (vS p16 out5 c15) cs5,hB b (cProg p p1 c p2 c1)] [(1,vP b 0),(4,vS p16 out5 c15),(5,vI t26),(6,vP b1 0),(24,vS p2 p.Parts c1),(25,vI (p.Parts.length:Int)),(26,vI t26),(52,vS p7 y2 c6),(53,vI (y2.length:Int)),(54,vI t54)])→(∀ r I' hs' m',o=(.ret r)→I0.le I'→RS Tryz.prog Tryz.f40 B (qV  r) I' hs' m'→T 89 B Q .ret I' hs' m')→J Tryz.prog 89 B (nav (bodyOf Tryz.f40) [1,1,1,0,1,0,0,1,1,0,0,1,1,1,1,0,0,1,1,0,0,1,1,1,0]) Q I [hO zL (vS p15 out4 c14) cs4,hB b (cProg p p1 c p2 c1)] [(1,vP b 0),(4,vS p15 out4 c14),(5,vI t26),(6,vP b1 0),(10,vS p14 x1 c13),(24,vS p2 p.Parts c1),(25,vI (p.Parts.length:Int)),(26,vI t26),(52,vS p7 y2 c6),(53,vI (y2.length:Int)),(54,vI t54),(62,vS p6 x.Body c5),(63,vI (x.Body.length:Int)),(64,vI t64)]:=by
 refine vD.partial_correctness p t26 x x1 _ fun self ih out4 t64 o N B I0 I Q y2 t54 p1 c p2 c1 b p5 c4 p6 c5 b1 p7 c6 p14 c13 p15 c14 cs4 H h6 h7 hat1 h18 h1 h8 h h20 hg ho hx hr=>yQ hg ho<|yF [65] rfl<|zY<|yC N ?_ ?_
 · intro hc8 N;refine zS<|zY<|yG<|yD<|yE 1 [] [66] rfl<|bE N fun x2 hy7 N=>xK rfl rfl h7 hy7 ?_;intro ad2 ccs2 hat3 hrep2;obtain ⟨p17,c16,p18,c17,p19,c18,p20,c19,rfl,h22,h23,h24,h25⟩:=qH hrep2;refine xF 0 hat3 (cStmt x2 p17 c16 p18 c17 p19 c18 p20 c19) (vA (cStmt x2 p17 c16 p18 c17 p19 c18 p20 c19)) rfl<|wY [vT ([]),z0,vI 0,vI 0,z0,vI 0,vT ([]),z0,z0] ?_;intro b2 hb2;refine yE 5 [] [11] rfl<|xJ 0 (cStmt x2 p17 c16 p18 c17 p19 c18 p20 c19) rfl<|yB rfl<|zY<|yD<|qL 3 [2,0] [(69,vA (cProg p p1 c p2 c1)),(70,vA (cStmt x2 p17 c16 p18 c17 p19 c18 p20 c19)),(71,vS p14 x1 c13)]<|bE N fun y7 hy8 N=>uH (zBc p x2 x1 _ hy8 h h1 h22 h23 h24 h25 h18) ?_;intro I08 le8;have ⟨h20,h6,h7,hat1,h18,h1⟩:=m6 le8 h20 h6 h7 hat1 h18 h1;have ⟨h8,h,H⟩:=m3 le8 h8 h H;refine yI [] [73] rfl<|zI<|yC N ?_ ?_
   · intro hc9 N;exact yF [2,3] rfl<|xG<|zG<|zV<|zG<|zG<|hr _ _ _ _ (zC N).symm H ⟨_,_,(.tmp rfl (.tmp rfl ResV.nil)),zQ,⟨_,_,rfl,rfl,(SL.nil _),rfl⟩⟩
   intro hc9 N;refine zS<|zI<|zK<|yE 4 [] [74,75,76,77] rfl<|bE N fun y8 hy9 N=>xP (jA x1 _ hy9 h18) ?_;rintro I09 hs2 v2 k2 le9 - ⟨p21,c20,cs6,rfl,rfl,h27⟩ -;have ⟨h6,h7,hat1,h18,h1,h8⟩:=m6 le9 h6 h7 hat1 h18 h1 h8;have ⟨h20,h,H⟩:=m3 le9 h20 h H;refine yE 6 [] [79] rfl<|xO 0 rfl ?_;intro I010 le10 hl01;have h28:=SL.of_frozen hl01 le10 h27;have ⟨h6,h7,hat1,h18,h1,h8⟩:=m6 le10 h6 h7 hat1 h18 h1 h8;have ⟨h20,h,H⟩:=m3 le10 h20 h H;refine uN [vI t26,vI t64,vS p21 y8 c20] zL ?_;intro b3 hb3;have h29:RL I010 [vI t26,vI t64,vS p21 y8 c20] ([(zL.mk t26 t64 y8)]:List zL):=⟨[vI t26,vI t64,vS p21 y8 c20],_,rfl,rfl,(zAO ⟨_,rfl,h28⟩),rfl⟩;obtain ⟨out6,hy10,N⟩:=zB N;exact rX 58 3 2 rfl rfl rfl h20 (.inr ⟨0,rfl⟩) h29 hy10 fun p22 c21 cs7 h30=>sK (zX [1,2,3] (hs':=[hB b2 (cStmt x2 p17 c16 p18 c17 p19 c18 p20 c19),hO zL (vS p22 out6 c21) cs7,hB b (cProg p p1 c p2 c1)]))<|yI [] [4] rfl<|zO<|zI<|zK<|yI [] [64] rfl<|yO<|jG (zW [1,2] rfl (by decide))<|nF<|ih out6 (W (t64 + 1)) _ N H h6 h7 hat1 h18 h1 h8 h h30 hg ho hx hr
 intro hc8 N;exact wJ<|yN<|hx _ _ _ _ _ (zC N).symm H h20
def vE (p:zD) (t26:Int) (x:zN) (y2:(List (List Int))) (out2:List zL) (t54:Int):Option (Out (List zL) ((List zL)×Bool)):=do
 if (decide (t54 < (y2.length:Int))) then
  let x1←idx y2 t54
  let y6←gU x1
  if (!y6) then
   pure (.ret (([]:List zL),false))
  else
   match←vD p t26 x x1 out2 0 with
   | .ret r0=>pure (.ret r0)
   | .done out5 =>
    vE p t26 x y2 out5 (W (t54 + 1))
 else
  pure (.done out2)
 partial_fixpoint
theorem dW (p:zD) (t26:Int) (x:zN) (y2:(List (List Int))):∀ (out2:List zL) (t54:Int) (o:Out (List zL) ((List zL)×Bool)),vE p t26 x y2 out2 t54=some o→∀ {B}{I0 I:Imm}{Q p1 c p2 c1}{b:Nat}{p5 c4 p6 c5}{b1:Nat}{p7 c6 p12 c11 cs2},I0.le I→(S4 I p5 x.Nest c4)→(S4 I p6 x.Body c5)→(At I ⟨b1,0,none⟩ (cPart x p5 c4 p6 c5))→(S4 I p2 p.Parts c1)→(S4 I p7 y2 c6)→(S4 I p1 p.Arrays c)→(RL I cs2 out2)→NG Q→NO Q→(∀ (I':Imm) (out3:List zL) (p13:Option Addr) (c12:Nat) (cs3:List Value),o=(.done out3)→I0.le I'→(RL I' cs3 out3)→T 89 B Q (.exit 2) I' [hO zL (vS p13 out3 c12) cs3,hB b (cProg p p1 c p2 c1)] [(1,vP b 0),(4,vS p13 out3 c12),(24,vS p2 p.Parts c1),(25,vI (p.Parts.length:Int)),(26,vI t26)])→(∀ r I' hs' m',o=(.ret r)→I0.le I'→RS Tryz.prog Tryz.f40 B (qV  r) I' hs' m'→T 89 B Q .ret I' hs' m')→J Tryz.prog 89 B (nav (bodyOf Tryz.f40) [1,1,1,0,1,0,0,1,1,0,0,1,1,1,1,0]) Q I [hO zL (vS p12 out2 c11) cs2,hB b (cProg p p1 c p2 c1)] [(1,vP b 0),(4,vS p12 out2 c11),(5,vI t26),(6,vP b1 0),(24,vS p2 p.Parts c1),(25,vI (p.Parts.length:Int)),(26,vI t26),(52,vS p7 y2 c6),(53,vI (y2.length:Int)),(54,vI t54)]:=by
 refine vE.partial_correctness p t26 x y2 _ fun self ih out2 t54 o N B I0 I Q p1 c p2 c1 b p5 c4 p6 c5 b1 p7 c6 p12 c11 cs2 H h6 h7 hat1 h1 h8 h h16 hg ho hx hr=>yQ hg ho<|yF [55] rfl<|zY<|yC N ?_ ?_
 · intro hc6 N;refine zS<|zY<|yG<|yD<|bE N fun x1 hy5 N=>xK rfl rfl h8 hy5 ?_;intro ad1 ccs1 hat2 hrep1;obtain ⟨v011,rfl,h18⟩:=hrep1;obtain ⟨p14,c13,rfl⟩:=h18.form;refine xF 0 hat2 [vS p14 x1 c13] (vS p14 x1 c13) rfl<|yI [] [10] rfl<|zY<|yD<|yE 1 [] [58] rfl<|bE N fun y6 hy6 N=>uH (zGF x1 _ hy6 h18) ?_;intro I07 le7;have ⟨h16,h6,h7,hat1,h18,h1⟩:=m6 le7 h16 h6 h7 hat1 h18 h1;have ⟨h8,h,H⟩:=m3 le7 h8 h H;refine yI [] [60] rfl<|zI<|yC N ?_ ?_
   · intro hc7 N;exact yF [2,3] rfl<|xG<|zG<|zV<|zG<|zG<|hr _ _ _ _ (zC N).symm H ⟨_,_,(.tmp rfl (.tmp rfl ResV.nil)),zQ,⟨_,_,rfl,rfl,(SL.nil _),rfl⟩⟩
   intro hc7 N;refine zS<|yX<|yE 1 [] [61] rfl<|xF 1 hat1 [vS p6 x.Body c5] (vS p6 x.Body c5) rfl<|yI [] [63,64] rfl<|xW<|qW [(1,vP b 0),(4,vS p12 out2 c11),(5,vI t26),(6,vP b1 0),(10,vS p14 x1 c13),(24,vS p2 p.Parts c1),(25,vI (p.Parts.length:Int)),(26,vI t26),(52,vS p7 y2 c6),(53,vI (y2.length:Int)),(54,vI t54),(62,vS p6 x.Body c5),(63,vI (x.Body.length:Int)),(64,vI 0)] ?_;obtain ⟨o02,ho02,hMl⟩:=zB N;refine dV p t26 x x1 out2 0 o02 ho02 iR h6 h7 hat1 h18 h1 h8 h h16 (fun _ _ _ h=>hg _ _ _ h) (fun _ _ h=>ho _ _ h) ?_ ?_
   · intro I011 out5 p16 c15 cs5 heq2 le11 h21;subst o02;have ⟨h6,h7,hat1,h1,h8,h⟩:=m6 le11 h6 h7 hat1 h1 h8 h;have H:=H.trans le11;exact zR<|zO<|zI<|zK<|yI [] [54] rfl<|yO<|nF<|ih out5 (W (t54 + 1)) _ hMl H h6 h7 hat1 h1 h8 h h21 hg ho hx hr
   intro r0 I9 hs9 m9 heq9 le9 hrs9;subst heq9;exact zV<|zV<|zG<|zG<|hr _ _ _ _ (zC hMl).symm (H.trans le9) hrs9
 intro hc6 N;exact wJ<|yN<|hx _ _ _ _ _ (zC N).symm H h16
def vG (p:zD) (out:List zL) (t26:Int):Option (Out (List zL) ((List zL)×Bool)):=do
 if (decide (t26 < (p.Parts.length:Int))) then
  let x←idx p.Parts t26
  let (y2,y3)←mV x.Nest
  let t51←(do
    if (!y3) then
     pure true
    else
     let y4←wG (x.Body.length:Int) 1 4
     if (!y4) then
      pure true
     else
      let y5←wB x.Body (fun x0=>vM x0 x)
      pure (id y5)
      : Option Bool)
  if t51 then
   pure (.ret (([]:List zL),false))
  else
   match←vE p t26 x y2 out 0 with
   | .ret r0=>pure (.ret r0)
   | .done out3 =>
    vG p out3 (W (t26 + 1))
 else
  pure (.done out)
 partial_fixpoint
theorem dX (p:zD):∀ (out:List zL) (t26:Int) (o:Out (List zL) ((List zL)×Bool)),vG p out t26=some o→∀ {B}{I0 I:Imm}{Q p1 c p2 c1}{b:Nat}{p3 c2 cs},I0.le I→(S4 I p2 p.Parts c1)→(S4 I p1 p.Arrays c)→(RL I cs out)→NG Q→NO Q→(∀ (I':Imm) (out1:List zL) (p4:Option Addr) (c3:Nat) (cs1:List Value),o=(.done out1)→I0.le I'→(RL I' cs1 out1)→T 89 B Q (.exit 0) I' [hO zL (vS p4 out1 c3) cs1] [(4,vS p4 out1 c3)])→(∀ r I' hs' m',o=(.ret r)→I0.le I'→RS Tryz.prog Tryz.f40 B (qV  r) I' hs' m'→T 89 B Q .ret I' hs' m')→J Tryz.prog 89 B (nav (bodyOf Tryz.f40) [1,1,1,0,1,0]) Q I [hO zL (vS p3 out c2) cs,hB b (cProg p p1 c p2 c1)] [(1,vP b 0),(4,vS p3 out c2),(24,vS p2 p.Parts c1),(25,vI (p.Parts.length:Int)),(26,vI t26)]:=by
 refine vG.partial_correctness p _ fun self ih out t26 o N B I0 I Q p1 c p2 c1 b p3 c2 cs H h1 h h4 hg ho hx hr=>yQ hg ho<|yF [27] rfl<|zY<|yC N ?_ ?_
 · intro hc2 N;refine zS<|zY<|yG<|yD<|yE 1 [] [28] rfl<|bE N fun x hy1 N=>xK rfl rfl h1 hy1 ?_;intro ad ccs hat hrep;obtain ⟨p5,c4,p6,c5,rfl,h6,h7⟩:=wL hrep;refine xF 0 hat (cPart x p5 c4 p6 c5) (vA (cPart x p5 c4 p6 c5)) rfl<|wY zTwo ?_;intro b1 hb1;refine yE 5 [] [5] rfl<|xJ 0 (cPart x p5 c4 p6 c5) rfl<|yB rfl<|yX<|yE 2 [0] [33] rfl ?_;obtain ⟨⟨y2,y3⟩,hy2,N⟩:=zB N;refine xP (zDb x.Nest _ hy2 h6) ?_;rintro I02 hs2 v2 k2 le2 - ⟨v03,v04,rfl,rfl,h8,rfl⟩ -;have ⟨h4,h1,h6,h7,h,H⟩:=m6 le2 h4 h1 h6 h7 h H;obtain ⟨p7,c6,rfl⟩:=h8.form;refine yI [] [7,8] rfl<|zY<|zZ<|pU 0 rfl ?_;intro I03 le3 hl0;have hat1:At I03 ⟨b1,0,none⟩ (cPart x p5 c4 p6 c5):=At.of_blk hl0;have ⟨h4,h6,h7,h8,h1,h⟩:=m6 le3 h4 h6 h7 h8 h1 h;have H:=H.trans le3;refine wT N [hO zL (vS p3 out c2) cs,hB b (cProg p p1 c p2 c1)] (fun t51=>[(1,vP b 0),(4,vS p3 out c2),(5,vI t26),(6,vP b1 0),(7,vS p7 y2 c6),(24,vS p2 p.Parts c1),(25,vI (p.Parts.length:Int)),(26,vI t26),(51,.bool t51)]) (fun o01 ho01=>?_) ?_
   · have H:=iS I03;refine zK<|yE 3 [] [39] rfl<|xZ [39] ho01 ?_ ?_
     · intro hc3 N;exact wI [] [(51,vY)]<|yN<|zT (ct N H)
     intro hc3 N;refine yE 4 [] [40] rfl<|xF 1 hat1 [vS p6 x.Body c5] (vS p6 x.Body c5) rfl<|yE 6 [] [42] rfl<|bE N fun y4 hy3 N=>uH (wX (x.Body.length:Int) 1 4 _ hy3 ) ?_;intro I05 le4;have ⟨h6,h7,hat1,h,H⟩:=m5 le4 h6 h7 hat1 h H;refine yE 10 [] [46] rfl<|xZ [46] N ?_ ?_
     · intro hc4 N;exact wI [] [(51,vY)]<|yN<|zT (ct N H)
     intro hc4 N;refine yE 11 [] [47] rfl<|xF 1 hat1 [vS p6 x.Body c5] (vS p6 x.Body c5) rfl<|yE 13 [] [49] rfl ?_;have hf0:FV1 Tryz.prog I05 [] (.func (.func 91) ⟨[]⟩ ⟨[vP b1 0]⟩) (fun x0=>vM x0 x):=by
       refine FV1.intro ?_;intro I1 le1 x0 r u0 hF k0;obtain ⟨_,rfl,k0⟩:=k0;obtain ⟨p8,c7,p9,c8,p10,c9,p11,c10,rfl,h11,h12,h13,h14⟩:=qH k0;exact (zAG x0 x r hF h11 h12 h13 h14 (h6.mono le1) (h7.mono le1) (hat1.mono le1)).mono (by rintro k i hs u ⟨v0,rfl,rfl,h⟩; exact ⟨rfl,h⟩)
     obtain ⟨y5,hy4,N⟩:=zB N;refine xP (jT x.Body (fun x0=>vM x0 x) _ hy4 h7 hf0) ?_;rintro I06 hs2 v2 k2 le5 - ⟨v010,rfl,rfl,rfl⟩ -;have H:=H.trans le5;exact yI [] [51] rfl<|yN<|zT (ct N H)
   intro t51 I04 le6 hMc1;have ⟨h4,h6,h7,hat1,h8,h1⟩:=m6 le6 h4 h6 h7 hat1 h8 h1;have ⟨h,H⟩:=m2 le6 h H;refine zI<|yC hMc1 ?_ ?_
   · intro hc5 N;exact yF [2,3] rfl<|xG<|zG<|zV<|zG<|zG<|hr _ _ _ _ (zC N).symm H ⟨_,_,(.tmp rfl (.tmp rfl ResV.nil)),zQ,⟨_,_,rfl,rfl,(SL.nil _),rfl⟩⟩
   intro hc5 N;refine zS<|wH [52,53,54] rfl<|xW<|qW [(1,vP b 0),(4,vS p3 out c2),(5,vI t26),(6,vP b1 0),(24,vS p2 p.Parts c1),(25,vI (p.Parts.length:Int)),(26,vI t26),(52,vS p7 y2 c6),(53,vI (y2.length:Int)),(54,vI 0)] ?_;obtain ⟨o03,ho03,hMl1⟩:=zB N;refine dW p t26 x y2 out 0 o03 ho03 iR h6 h7 hat1 h1 h8 h h4 (fun _ _ _ h=>hg _ _ _ h) (fun _ _ h=>ho _ _ h) ?_ ?_
   · intro I012 out3 p13 c12 cs3 heq3 le12 h17;subst o03;have ⟨h1,h,H⟩:=m3 le12 h1 h H;exact zR<|zO<|zI<|zK<|yI [] [26] rfl<|yO<|nF<|ih out3 (W (t26 + 1)) _ hMl1 H h1 h h17 hg ho hx hr
   intro r0 I9 hs9 m9 heq9 le9 hrs9;subst heq9;exact zV<|zV<|zG<|zG<|hr _ _ _ _ (zC hMl1).symm (H.trans le9) hrs9
 intro hc2 N;exact wJ<|xY (zW [0] rfl (by decide))<|yN<|hx _ _ _ _ _ (zC N).symm H h4
def qG (p:zD):Option ((List zL)×Bool):=do
 let t22←(do
   let y←jY p.Arrays
   if (!y) then
    pure true
   else
    pure (decide ((p.Parts.length:Int) > 4))
     : Option Bool)
 if t22 then
  pure (([]:List zL),false)
 else
  match←vG p ([]:List zL) 0 with
  | .ret r0=>pure r0
  | .done out1 =>
   pure (out1,(decide ((out1.length:Int) ≤ 120)))
theorem zA2:∀ p r,qG p=some r→∀ {I:Imm}{p1 c p2 c1},(S4 I p1 p.Arrays c)→(S4 I p2 p.Parts c1)→RT 40 [vA (cProg p p1 c p2 c1)] I [] (qV  r):=by
 intro p r N I p1 c p2 c1 h h1;unfold qG at N;refine yL Tryz.func40 fun B=>?_;have H:=iS I;refine yD<|tS (cProg p p1 c p2 c1) ?_;intro b hb;refine wI [] []<|zY<|zZ ?_;refine wT N [hB b (cProg p p1 c p2 c1)] (fun t22=>[(1,vP b 0),(22,.bool t22)]) (fun o0 ho0=>?_) ?_
 · have H:=iS I;refine zK<|yE 2 [0] [14] rfl ?_;obtain ⟨y,hy,N⟩:=zB ho0;refine uH (zF0 p.Arrays _ hy h) ?_;intro I01 le;have H:=H.trans le;refine yE 5 [] [17] rfl<|xZ [17] N ?_ ?_
   · intro hc N;exact wI [] [(22,vY)]<|yN<|zT (ct N H)
   intro hc N;exact yI [0] [22] rfl<|yN<|zT (ct N H)
 intro t22 I0 le1 hMc;have ⟨h,h1⟩:=m2 le1 h h1;refine zI<|yC hMc ?_ ?_
 · intro hc1 N;refine yF [2,3] rfl<|xG<|zG ?_;obtain rfl:=zC N;exact xA ⟨_,_,(.tmp rfl (.tmp rfl ResV.nil)),zQ,⟨_,_,rfl,rfl,(SL.nil _),rfl⟩⟩
 intro hc1 N;refine zS<|zFr [(4,z0)]<|zY<|yD<|yI [0] [24,25,26] rfl<|xW<|qW [(1,vP b 0),(4,z0),(24,vS p2 p.Parts c1),(25,vI (p.Parts.length:Int)),(26,vI 0)]<|dR zL fun h3=>?_;obtain ⟨o04,ho04,hMl2⟩:=zB N;refine dX p ([]:List zL) 0 o04 ho04 iR h1 h h3 (fun _ _ _ h=>h) (fun _ _ h=>h) ?_ ?_
 · intro I013 out1 p4 c3 cs1 heq4 le13 h5;subst o04;refine zR<|wH [2,3] rfl<|xG<|yV 0 rfl ?_;intro I014 le14 hl02;have h31:=SL.of_frozen hl02 le14 h5;obtain rfl:=zC hMl2;exact xA ⟨_,_,(.tmp rfl (.tmp rfl ResV.nil)),zQ,⟨_,_,rfl,rfl,h31,rfl⟩⟩
 intro r0 I9 hs9 m9 heq9 le9 hrs9;subst heq9;refine zV<|zG ?_;obtain rfl:=zC hMl2;exact xA hrs9
def zBd (r:zP):KT:=fun kk I' hs' v=>
  ∃ v0,hs'=[]∧v=tupV [v0]∧(∃ cs,v0=.agg ⟨cs⟩∧Rp.rep I' cs r)
def kT (p:zD) (x:zL):Option (zP):=do
 let x1←idx p.Parts x.Part
 let x2←idx x1.Body x.Stmt
 pure (id x2)
theorem zC5:∀ p x r,kT p x=some r→∀ {I:Imm}{p1 c p2 c1 p3 c2},(S4 I p1 p.Arrays c)→(S4 I p2 p.Parts c1)→(S4 I p3 x.Point c2)→RT 66 [vA (cProg p p1 c p2 c1),vA (cInst x p3 c2)] I [] (zBd  r):=by
 intro p x r N I p1 c p2 c1 p3 c2 h h1 h2;unfold kT at N;refine yL Tryz.func66 fun B=>yD<|tS (cProg p p1 c p2 c1) ?_;intro b hb;refine tS (cInst x p3 c2) ?_;intro b1 hb1;refine wY [vT ([]),z0,vI 0,vI 0,z0,vI 0,vT ([]),z0,z0] ?_;intro b2 hb2;refine yB rfl<|zI<|zZ ?_;obtain ⟨x1,hy,N⟩:=zB N;obtain ⟨x2,hy1,N⟩:=zB N;refine wK [.p (vP b 1) [],.p (vS p2 p.Parts c1) [2],.p (vP b1 0) [],.p (vI x.Part) [1],.x (ePPart x1),.x (eQPart 1 x1),.x (eS x1.Body),.p (vP b1 1) [],.p (vI x.Stmt) [1],.x (ePStmt x2),.x (eVStmt x2)] [[],[(0,false)],[],[(2,false)],[(1,false),(3,false)],[(4,false)],[(5,false)],[],[(7,false)],[(6,false),(8,false)],[(9,false)]] [hB b2 [vT ([]),z0,vI 0,vI 0,z0,vI 0,vT ([]),z0,z0],hB b1 (cInst x p3 c2),hB b (cProg p p1 c p2 c1)] [] [(10,false)] (zX [0,1,2]) ?_ ?_
 · refine Op<|Op<|Op<|Op<|Ox ?_<|Ox ?_<|Ox ?_<|Op<|Op<|Ox ?_<|Ox ?_<|On
   · intro I1 hf le1;refine yR [6,8] rfl ?_;have h1:=h1.mono le1;refine xK rfl rfl h1 hy ?_;intro ad ccs hat hrep;obtain ⟨p4,c3,p5,c4,rfl,h3,h4⟩:=wL hrep;exact yK [] iR ⟨_,_,_,_,_,rfl,rfl,hat,h3,h4⟩
   · rintro I1 hf le1 _ _ ⟨ad,p4,c3,p5,c4,rfl,rfl,hat,h3,h4⟩;exact yR [9] rfl<|oY 6 [(10,.pointer (some (ad.add 1)))]<|yK [] iR ⟨_,_,_,_,_,rfl,rfl,hat,h3,h4⟩
   · rintro I1 hf le1 _ _ ⟨ad1,p41,c31,p51,c41,rfl,rfl,hat1,h31,h41⟩;exact yR [10] rfl<|xF 1 hat1 [vS p51 x1.Body c41] (vS p51 x1.Body c41) rfl<|yK [] iR ⟨_,_,rfl,rfl,h41⟩
   · rintro I1 hf le1 _ _ ⟨p511,c411,rfl,rfl,h411⟩;refine yR [11,13] rfl<|xK rfl rfl h411 hy1 ?_;intro ad2 ccs1 hat2 hrep1;obtain ⟨p6,c5,p7,c6,p8,c7,p9,c8,rfl,h5,h6,h7,h8⟩:=qH hrep1;exact yK [] iR ⟨_,_,_,_,_,_,_,_,_,rfl,rfl,hat2,h5,h6,h7,h8⟩
   rintro I1 hf le1 _ _ ⟨ad2,p6,c5,p7,c6,p8,c7,p9,c8,rfl,rfl,hat2,h5,h6,h7,h8⟩;exact yR [14] rfl<|xF 0 hat2 (cStmt x2 p6 c5 p7 c6 p8 c7 p9 c8) (vA (cStmt x2 p6 c5 p7 c6 p8 c7 p9 c8)) rfl<|yK [] iR ⟨_,_,_,_,_,_,_,_,rfl,rfl,h5,h6,h7,h8⟩
 rintro I0 le _ _ ⟨p61,c51,p71,c61,p81,c71,p91,c81,rfl,rfl,h51,h61,h71,h81⟩;refine yR [4,15] rfl ?_;refine xJ 0 (cStmt x2 p61 c51 p71 c61 p81 c71 p91 c81) rfl<|yB rfl<|zI<|yW ?_;obtain rfl:=zC N;exact xA ⟨_,_,(.cell 0 rfl rfl (by kernel_rfl) ResV.nil),zQ,⟨_,rfl,rfl,⟨_,rfl,(wU ⟨_,_,_,_,rfl,h51,h61,h71,h81⟩)⟩⟩⟩
def zA3 (r:(List Int)×Int):KT:=fun kk I' hs' v=>
  ∃ v0 v1,hs'=[]∧v=tupV [v0,v1]∧SL I' v0 r.1∧v1=.int .i64 r.2
def vU (p:zD) (x:zL) (y1:(List zJ)) (out:List Int) (t17:Int):Option (List Int):=do
 if (decide (t17 < (y1.length:Int))) then
  let x1←idx y1 t17
  let y2←sC p x1 x.Point
  let out2←app 8 out ([y2]:List Int)
  vU p x y1 out2 (W (t17 + 1))
 else
  pure (id out)
 partial_fixpoint
theorem zAW (p:zD) (x:zL) (y1:(List zJ)):∀ (out:List Int) (t17:Int) (o:List Int),vU p x y1 out t17=some o→∀ {B}{I0 I:Imm}{Q}{y:zP}{p1 c p2 c1 p3 c2}{b:Nat}{b1:Nat}{p4 c3 p5 c4 p6 c5 p7 c6}{b2:Nat}{p8 c7 p9 c8 cs1},I0.le I→(S4 I p8 y1 c7)→(S4 I p4 y.Write.Subs c3)→(S4 I p5 y.Value.Index.Coefs c4)→(S4 I p6 y.Value.Read.Subs c5)→(S4 I p7 y.Value.Kids c6)→(S4 I p3 x.Point c2)→(S4 I p1 p.Arrays c)→(S4 I p2 p.Parts c1)→(RL I cs1 out)→NG Q→NO Q→(∀ (I':Imm) (out1:List Int) (p10:Option Addr) (c9:Nat) (cs2:List Value),o=out1→I0.le I'→(RL I' cs2 out1)→T 37 B Q (.exit 0) I' [hO Int (vS p10 out1 c9) cs2,hB b2 (cStmt y p4 c3 p5 c4 p6 c5 p7 c6),hB b1 (cInst x p3 c2),hB b (cProg p p1 c p2 c1)] [(2,vP b 0),(3,vP b1 0),(6,vP b2 0),(7,vS p10 out1 c9)])→J Tryz.prog 37 B (nav (bodyOf Tryz.f83) [1,1,1,0,1,0]) Q I [hO Int (vS p9 out c8) cs1,hB b2 (cStmt y p4 c3 p5 c4 p6 c5 p7 c6),hB b1 (cInst x p3 c2),hB b (cProg p p1 c p2 c1)] [(2,vP b 0),(3,vP b1 0),(6,vP b2 0),(7,vS p9 out c8),(15,vS p8 y1 c7),(16,vI (y1.length:Int)),(17,vI t17)]:=by
 refine vU.partial_correctness p x y1 _ fun self ih out t17 o N B I0 I Q y p1 c p2 c1 p3 c2 b b1 p4 c3 p5 c4 p6 c5 p7 c6 b2 p8 c7 p9 c8 cs1 H h8 h4 h5 h6 h7 h2 h h1 h10 hg ho hx=>yQ hg ho<|yF [18] rfl<|zY<|yC N ?_ ?_
 · intro hc N;refine zS<|zY<|yG<|yD<|bE N fun x1 hy2 N=>xK rfl rfl h8 hy2 ?_;intro ad ccs hat hrep;obtain ⟨p11,c10,rfl,h12⟩:=oZ hrep;refine xF 0 hat (cAccess x1 p11 c10) (vA (cAccess x1 p11 c10)) rfl<|wY [vT ([]),z0] ?_;intro b3 hb3;refine xJ 0 (cAccess x1 p11 c10) rfl<|yB rfl<|zI<|zK<|qL 5 [4,0,3] [(21,vS p9 out c8),(22,vA (cProg p p1 c p2 c1)),(23,vA (cAccess x1 p11 c10)),(25,vS p3 x.Point c2)]<|bE N fun y2 hy3 N=>gF (mY p x1 x.Point _ hy3 h h1 h12 h2) ?_;intro I02 le2;have ⟨h8,h10,h4,h5,h6,h7⟩:=m6 le2 h8 h10 h4 h5 h6 h7;have ⟨h2,h,h1,H⟩:=m4 le2 h2 h h1 H;refine uN [vI y2] Int ?_;intro b4 hb4;have h14:RL I02 [vI y2] ([y2]:List Int):=rI [y2];obtain ⟨out2,hy4,N⟩:=zB N;exact rX 3 1 2 rfl rfl rfl h10 (.inr ⟨0,rfl⟩) h14 hy4 fun p12 c11 cs3 h15=>sK (zX [1,2,3,4,5] (hs':=[hB b3 (cAccess x1 p11 c10),hO Int (vS p12 out2 c11) cs3,hB b2 (cStmt y p4 c3 p5 c4 p6 c5 p7 c6),hB b1 (cInst x p3 c2),hB b (cProg p p1 c p2 c1)]))<|yI [] [7] rfl<|zO<|zI<|zK<|yI [] [17] rfl<|yO<|jG (zW [1,2,3,4] rfl (by decide))<|nF<|ih out2 (W (t17 + 1)) _ N H h8 h4 h5 h6 h7 h2 h h1 h15 hg ho hx
 intro hc N;exact wJ<|yN<|hx _ _ _ _ _ (zC N).symm H h10
def pK (p:zD) (x:zL):Option ((List Int)×Int):=do
 let y←kT p x
 let y1←mW y.Value
 let out1←vU p x y1 ([]:List Int) 0
 let y3←sC p y.Write x.Point
 pure (out1,y3)
theorem zBW:∀ p x r,pK p x=some r→∀ {I:Imm}{p1 c p2 c1 p3 c2},(S4 I p1 p.Arrays c)→(S4 I p2 p.Parts c1)→(S4 I p3 x.Point c2)→RT 83 [vA (cProg p p1 c p2 c1),vA (cInst x p3 c2)] I [] (zA3  r):=by
 intro p x r N I p1 c p2 c1 p3 c2 h h1 h2;unfold pK at N;refine yL Tryz.func83 fun B=>yD<|tS (cProg p p1 c p2 c1) ?_;intro b hb;refine tS (cInst x p3 c2) ?_;intro b1 hb1;refine wI [] []<|yX<|qL 2 [1,0] [(10,vA (cProg p p1 c p2 c1)),(11,vA (cInst x p3 c2))]<|bE N fun y hy N=>xP (zC5 p x _ hy h h1 h2) ?_;rintro I0 hs2 v2 k2 le - ⟨v0,rfl,rfl,⟨cs,rfl,h3⟩⟩ -;have ⟨h2,h,h1⟩:=m3 le h2 h h1;obtain ⟨p4,c3,p5,c4,p6,c5,p7,c6,rfl,h4,h5,h6,h7⟩:=qH h3;refine wY [vT ([]),z0,vI 0,vI 0,z0,vI 0,vT ([]),z0,z0] ?_;intro b2 hb2;refine xJ 0 (cStmt y p4 c3 p5 c4 p6 c5 p7 c6) rfl<|yB rfl<|zFr [(7,z0)]<|zY<|yD<|qL 2 [0] [(14,vA (cExpr y.Value p5 c4 p6 c5 p7 c6))]<|bE N fun y1 hy1 N=>xP (zDM y.Value _ hy1 h5 h6 h7) ?_;rintro I01 hs2 v2 k2 le1 - ⟨v05,rfl,rfl,h8⟩ -;have ⟨h4,h5,h6,h7,h2,h⟩:=m6 le1 h4 h5 h6 h7 h2 h;have h1:=h1.mono le1;obtain ⟨p8,c7,rfl⟩:=h8.form;refine yI [] [16,17] rfl<|xW<|qW [(2,vP b 0),(3,vP b1 0),(6,vP b2 0),(7,z0),(15,vS p8 y1 c7),(16,vI (y1.length:Int)),(17,vI 0)]<|dR Int fun h9=>?_;obtain ⟨o0,ho0,hMl⟩:=zB N;refine zAW p x y1 ([]:List Int) 0 o0 ho0 iR h8 h4 h5 h6 h7 h2 h h1 h9 (fun _ _ _ h=>h) (fun _ _ h=>h) ?_;intro I03 out1 p10 c9 cs2 heq le3 h11;subst o0;have ⟨h4,h2,h,h1⟩:=m4 le3 h4 h2 h h1;refine zR<|yX<|qL 6 [3,1,2] [(30,vS p10 out1 c9),(31,vA (cProg p p1 c p2 c1)),(33,vA (cAccess y.Write p4 c3)),(35,vS p3 x.Point c2)] ?_;obtain ⟨y3,hy5,N⟩:=zB hMl;refine gF (mY p y.Write x.Point _ hy5 h h1 h4 h2) ?_;intro I04 le4;have h11:=iM le4 h11;refine yI [] [4,5] rfl<|xG<|yV 0 rfl ?_;intro I05 le5 hl0;have h17:=SL.of_frozen hl0 le5 h11;obtain rfl:=zC N;exact xA ⟨_,_,(.tmp rfl (.tmp rfl ResV.nil)),zQ,⟨_,_,rfl,rfl,h17,rfl⟩⟩
def zGG (r:(Option vQ)×Bool):KT:=fun kk I' hs' v=>
  ∃ v0 v1,hs'=[]∧v=tupV [v0,v1]∧FP I' v0 r.1∧v1=.bool r.2
def nM (p:zD) (y1:(List zL)) (t24:Int) (reads:List (List Int)) (writes:List Int):Option ((List (List Int)×List Int)):=do
 if (decide (t24 < (y1.length:Int))) then
  let x←idx y1 t24
  let (y4,y5)←pK p x
  let l←app 24 reads ([y4]:List (List Int))
  let l1←app 8 writes ([y5]:List Int)
  nM p y1 (W (t24 + 1)) l l1
 else
  pure (reads,writes)
 partial_fixpoint
theorem zF2 (p:zD) (y1:(List zL)):∀ (t24:Int) (reads:List (List Int)) (writes:List Int) (o:(List (List Int)×List Int)),nM p y1 t24 reads writes=some o→∀ {B}{I0 I:Imm}{Q p1 c p2 c1}{b:Nat}{p3 c2}{b1:Nat}{p4 c3 cs p5 c4 cs1},I0.le I→(S4 I p3 y1 c2)→(S4 I p1 p.Arrays c)→(S4 I p2 p.Parts c1)→(RL I cs reads)→(RL I cs1 writes)→NG Q→NO Q→(∀ (I':Imm) (reads1:List (List Int)) (writes1:List Int) (p6:Option Addr) (c5:Nat) (cs2:List Value) (p7:Option Addr) (c6:Nat) (cs3:List Value),o=(reads1,writes1)→I0.le I'→(RL I' cs2 reads1)→(RL I' cs3 writes1)→T 56 B Q (.exit 0) I' [hO Int (vS p7 writes1 c6) cs3,hO (List Int) (vS p6 reads1 c5) cs2,hB b1 [vS p1 p.Arrays c,vS p2 p.Parts c1,vS p3 y1 c2,vS p6 reads1 c5,vS p7 writes1 c6]] [(6,vP b1 0)])→J Tryz.prog 56 B (nav (bodyOf Tryz.f33) [1,1,1,1,0,1,0]) Q I [hO Int (vS p5 writes c4) cs1,hO (List Int) (vS p4 reads c3) cs,hB b1 [vS p1 p.Arrays c,vS p2 p.Parts c1,vS p3 y1 c2,vS p4 reads c3,vS p5 writes c4],hB b (cProg p p1 c p2 c1)] [(1,vP b 0),(6,vP b1 0),(22,vS p3 y1 c2),(23,vI (y1.length:Int)),(24,vI t24)]:=by
 refine nM.partial_correctness p y1 _ fun self ih t24 reads writes o N B I0 I Q p1 c p2 c1 b p3 c2 b1 p4 c3 cs p5 c4 cs1 H h2 h h1 h6 h7 hg ho hx=>yQ hg ho<|yF [25] rfl<|zY<|yC N ?_ ?_
 · intro hc1 N;refine zS<|zY<|yG<|yD<|bE N fun x hy1 N=>xK rfl rfl h2 hy1 ?_;intro ad ccs hat hrep;obtain ⟨p8,c7,rfl,h10⟩:=qS hrep;refine xF 0 hat (cInst x p8 c7) (vA (cInst x p8 c7)) rfl<|wY [vI 0,vI 0,z0] ?_;intro b2 hb2;refine xJ 0 (cInst x p8 c7) rfl<|yB rfl<|yX<|qL 2 [4,0] [(29,vA (cProg p p1 c p2 c1)),(30,vA (cInst x p8 c7))] ?_;obtain ⟨⟨y4,y5⟩,hy2,N⟩:=zB N;refine xP (zBW p x _ hy2 h h1 h10) ?_;rintro I01 hs2 v2 k2 le1 - ⟨v03,v04,rfl,rfl,h11,rfl⟩ -;have ⟨h2,h7,h6,h,h1,H⟩:=m6 le1 h2 h7 h6 h h1 H;obtain ⟨p9,c8,rfl⟩:=h11.form;refine yI [] [9,10] rfl<|zI ?_;obtain ⟨l,hy3,N⟩:=zB N;obtain ⟨l1,hy4,N⟩:=zB N;refine wK [.p (vP b1 0) [],.p (vP b1 0) [],.p (vP b1 0) [],.p (vP b1 0) [],.p (vP b1 3) [],.q (vS p4 reads c3),.p (vS p9 y4 c8) [],.x (fun I' v hx=>∃ b3,v=vS (some ⟨b3,0,none⟩) ([y4]:List (List Int)) 1∧hx=[]∧(SL I' (vS (some ⟨b3,0,none⟩) ([y4]:List (List Int)) 1) ([y4]:List (List Int)))),.x (fun I' v hx=>∃ p10 c9 cs4,v=vS p10 l c9∧hx=[hO (List Int) (vS p10 l c9) cs4]∧(RL I' cs4 l)),.p (vP b1 0) [],.p (vP b1 0) [],.p (vP b1 4) [],.q (vS p5 writes c4),.p (vI y5) [],.x (fun I' v hx=>∃ b4,v=vS (some ⟨b4,0,none⟩) ([y5]:List Int) 1∧hx=[]∧(SL I' (vS (some ⟨b4,0,none⟩) ([y5]:List Int) 1) ([y5]:List Int))),.x (fun I' v hx=>∃ p11 c10 cs5,v=vS p11 l1 c10∧hx=[hO Int (vS p11 l1 c10) cs5]∧(RL I' cs5 l1)),.p (vP b1 0) [],.p (vP b1 3) [],.x (fun I' v hx=>∃ p101 c91 cs41,hx=[hB b1 [vS p1 p.Arrays c,vS p2 p.Parts c1,vS p3 y1 c2,vS p101 l c91,vS p5 writes c4],hO (List Int) (vS p101 l c91) cs41]∧(RL I' cs41 l))] [[],[],[],[(2,false)],[(3,false)],[(4,false),(24,false)],[],[(6,false)],[(5,false),(7,false),(22,true)],[],[(9,false)],[(10,false)],[(11,false),(24,false)],[],[(13,false)],[(12,false),(14,false),(23,true)],[(0,false)],[(16,false)],[(8,true),(17,false),(24,true)]] [hB b2 (cInst x p8 c7),hB b (cProg p p1 c p2 c1)] [[hO (List Int) (vS p4 reads c3) cs],[hO Int (vS p5 writes c4) cs1],[hB b1 [vS p1 p.Arrays c,vS p2 p.Parts c1,vS p3 y1 c2,vS p4 reads c3,vS p5 writes c4]]] [(1,false),(15,true),(18,true)] (zX [0,4,2,1,3]) ?_ ?_
   · refine Op<|Op<|Op<|Op<|Op<|Ob ?_<|Op<|Ox ?_<|Ox ?_<|Op<|Op<|Op<|Ob ?_<|Op<|Ox ?_<|Ox ?_<|Op<|Op<|Ox ?_<|On
     · intro I1 hf le1 hbo;obtain ⟨hf2,hbp⟩:=hbo.at (j:=24) (g:=[hB b1 [vS p1 p.Arrays c,vS p2 p.Parts c1,vS p3 y1 c2,vS p4 reads c3,vS p5 writes c4]]) (by decide) (by kernel_rfl) rfl;refine wA ?_;rintro _ _ ⟨rfl,rfl⟩;refine wA ?_;rintro _ _ rfl;refine mG<|zNT hbp<|zBw [(38,vP b1 3)] ?_;exact zDP (cs:=[vS p4 reads c3]) (v:=vS p4 reads c3) 2 rfl rfl rfl rfl rfl (by kernel_rfl) (by kernel_rfl) (by kernel_rfl)<|xE iR
     · intro I1 hf le1;refine yR [40] rfl ?_;have H:=iS I1;have h11:=h11.mono le1;refine nH (rc y4 ⟨_,rfl,h11⟩ rN) ?_;intro b3 I02 le2 h14;have H:=H.trans le2;exact yK [] H ⟨_,rfl,rfl,h14⟩
     · rintro I1 hf le1 _ _ ⟨rfl,rfl⟩ _ _ ⟨b3,rfl,rfl,h14⟩ _ _ rfl;refine yR [39,41] rfl ?_;have h6:=iM le1 h6;obtain ⟨ccs1,k0,k01⟩:=h14;have h14:SL I1 (vS (some ⟨b3,0,none⟩) ([y4]:List (List Int)) 1) ([y4]:List (List Int)):=⟨_,k0,k01⟩;exact rX 29 1 0 rfl rfl rfl h6 (.inl k0) k01 hy3 fun p10 c9 cs4 h15=>vK (hs':=(hO (List Int) (vS p10 l c9) cs4::hB b2 (cInst x p8 c7)::hB b (cProg p p1 c p2 c1)::hf)) rfl<|yK [hO (List Int) (vS p10 l c9) cs4] iR ⟨_,_,_,rfl,rfl,h15⟩
     · intro I1 hf le1 hbo;obtain ⟨hf2,hbp⟩:=hbo.at (j:=24) (g:=[hB b1 [vS p1 p.Arrays c,vS p2 p.Parts c1,vS p3 y1 c2,vS p4 reads c3,vS p5 writes c4]]) (by decide) (by kernel_rfl) rfl;refine wA ?_;rintro _ _ ⟨rfl,rfl⟩;refine wA ?_;rintro _ _ rfl;refine mG<|zNT hbp<|zBw [(45,vP b1 4)] ?_;exact zDP (cs:=[vS p5 writes c4]) (v:=vS p5 writes c4) 2 rfl rfl rfl rfl rfl (by kernel_rfl) (by kernel_rfl) (by kernel_rfl)<|xE iR
     · intro I1 hf le1;refine yR [47] rfl ?_;have H:=iS I1;refine nH (rI [y5]) ?_;intro b4 I03 le3 h17;have H:=H.trans le3;exact yK [] H ⟨_,rfl,rfl,h17⟩
     · rintro I1 hf le1 _ _ ⟨rfl,rfl⟩ _ _ ⟨b4,rfl,rfl,h17⟩ _ _ rfl;refine yR [46,48] rfl ?_;have h7:=iM le1 h7;obtain ⟨ccs2,k02,k03⟩:=h17;have h17:SL I1 (vS (some ⟨b4,0,none⟩) ([y5]:List Int) 1) ([y5]:List Int):=⟨_,k02,k03⟩;exact rX 3 1 0 rfl rfl rfl h7 (.inl k02) k03 hy4 fun p11 c10 cs5 h18=>vK (hs':=(hO Int (vS p11 l1 c10) cs5::hB b2 (cInst x p8 c7)::hB b (cProg p p1 c p2 c1)::hf)) rfl<|yK [hO Int (vS p11 l1 c10) cs5] iR ⟨_,_,_,rfl,rfl,h18⟩
     rintro I1 hf le1 _ _ ⟨p10,c9,cs4,rfl,rfl,h15⟩ _ _ ⟨rfl,rfl⟩ _ _ rfl;refine yR [42,51] rfl ?_;have H:=iS I1;exact zB4 0 [vS p1 p.Arrays c,vS p2 p.Parts c1,vS p3 y1 c2,vS p10 l c9,vS p5 writes c4] (hB b1 [vS p1 p.Arrays c,vS p2 p.Parts c1,vS p3 y1 c2,vS p10 l c9,vS p5 writes c4]::hO (List Int) (vS p10 l c9) cs4::hB b2 (cInst x p8 c7)::hB b (cProg p p1 c p2 c1)::hf) rfl rfl rfl rfl<|zFh (hx:=[hB b1 [vS p1 p.Arrays c,vS p2 p.Parts c1,vS p3 y1 c2,vS p10 l c9,vS p5 writes c4],hO (List Int) (vS p10 l c9) cs4]) rfl H rfl (zG9 (v:=undef)) ⟨_,_,_,rfl,h15⟩
   rintro I04 le4 _ _ ⟨rfl,rfl⟩ _ _ ⟨p11,c10,cs5,rfl,rfl,h18⟩ _ _ ⟨p101,c91,cs41,rfl,h151⟩;refine yR [1,6,22,23,24,35,49] rfl ?_;have ⟨h2,h,h1,H⟩:=m4 le4 h2 h h1 H;exact yE 21 [] [53] rfl<|xJ 0 [vS p1 p.Arrays c,vS p2 p.Parts c1,vS p3 y1 c2,vS p101 l c91,vS p11 l1 c10] rfl<|yB rfl<|zO<|zI<|zK<|yI [] [24] rfl<|yO<|jG (zW [2,1,0,4] rfl (by decide))<|nF<|ih (W (t24 + 1)) l l1 _ N H h2 h h1 h151 h18 hg ho hx
 intro hc1 N;exact wJ<|xY (zW [0,1,2] rfl (by decide))<|yN<|hx _ _ _ _ _ _ _ _ _ (zC N).symm H h6 h7
def zAH (p:zD):Option ((Option vQ)×Bool):=do
 let (y1,y2)←qG p
 if (!y2) then
  pure (none,false)
 else
  let (reads1,writes1)←nM p y1 0 ([]:List (List Int)) ([]:List Int)
  pure ((some (vQ.mk p y1 reads1 writes1)),true)
theorem zM4:∀ p r,zAH p=some r→∀ {I:Imm}{p1 c p2 c1},(S4 I p1 p.Arrays c)→(S4 I p2 p.Parts c1)→RT 33 [vA (cProg p p1 c p2 c1)] I [] (zGG  r):=by
 intro p r N I p1 c p2 c1 h h1;unfold zAH at N;refine yL Tryz.func33 fun B=>yD<|tS (cProg p p1 c p2 c1) ?_;intro b hb;refine wI [] []<|yX<|qL 1 [0] [(12,vA (cProg p p1 c p2 c1))] ?_;obtain ⟨⟨y1,y2⟩,hy,N⟩:=zB N;refine xP (zA2 p _ hy h h1) ?_;rintro I0 hs2 v2 k2 le - ⟨v0,v01,rfl,rfl,h2,rfl⟩ -;have ⟨h,h1⟩:=m2 le h h1;obtain ⟨p3,c2,rfl⟩:=h2.form;refine yI [] [4,5] rfl<|zY<|yF [17] rfl<|zI<|yC N ?_ ?_
 · intro hc N;refine yF [2,3] rfl<|xG<|zG ?_;obtain rfl:=zC N;exact xA ⟨_,_,(.tmp rfl (.tmp rfl ResV.nil)),zQ,⟨_,_,rfl,rfl,zNe,rfl⟩⟩
 intro hc N;refine zS<|yX<|qL 3 [0] [(20,vA [vS p1 p.Arrays c,vS p2 p.Parts c1,vS p3 y1 c2,z0,z0])]<|tS [vS p1 p.Arrays c,vS p2 p.Parts c1,vS p3 y1 c2,z0,z0] ?_;intro b1 hb1;refine yI [] [6] rfl<|zY<|yF [22,23,24] rfl<|xW<|qW [(1,vP b 0),(6,vP b1 0),(22,vS p3 y1 c2),(23,vI (y1.length:Int)),(24,vI 0)]<|dR (List Int) fun h4=>?_;refine dR Int fun h5=>?_;obtain ⟨o0,ho0,hMl⟩:=zB N;refine zF2 p y1 0 ([]:List (List Int)) ([]:List Int) o0 ho0 iR h2 h h1 h4 h5 (fun _ _ _ h=>h) (fun _ _ h=>h) ?_;intro I05 reads1 writes1 p6 c5 cs2 p7 c6 cs3 heq le5 h8 h9;subst o0;have ⟨h,h1,h2⟩:=m3 le5 h h1 h2;refine zR<|wH [2,3] rfl<|xG<|yV 1 rfl ?_;intro I06 le6 hl02;have h19:=SL.of_frozen hl02 le6 h8;have ⟨h9,h,h1,h2⟩:=m4 le6 h9 h h1 h2;refine yV 0 rfl ?_;intro I07 le7 hl03;have h20:=SL.of_frozen hl03 le7 h9;have ⟨h,h1,h2,h19⟩:=m4 le7 h h1 h2 h19;refine yV 0 rfl ?_;intro I08 le8 hl04;have hat1:At I08 ⟨b1,0,none⟩ [vS p1 p.Arrays c,vS p2 p.Parts c1,vS p3 y1 c2,vS p6 reads1 c5,vS p7 writes1 c6]:=At.of_blk hl04;have ⟨h,h1,h2,h19,h20⟩:=m5 le8 h h1 h2 h19 h20;obtain rfl:=zC hMl;exact xA ⟨_,_,(.tmp rfl (.tmp rfl ResV.nil)),zQ,⟨_,_,rfl,rfl,(zOO hat1 (zFC ⟨_,_,_,_,_,rfl,h,h1,h2,h19,h20⟩)),rfl⟩⟩
def mH (p:zD) (part:Int):Option (Bool):=do
 let y←wG part 0 (W ((p.Parts.length:Int) - 1))
 pure (id y)
theorem zI3:∀ p part r,mH p part=some r→∀ {I:Imm}{p1 c p2 c1},(S4 I p1 p.Arrays c)→(S4 I p2 p.Parts c1)→RT 34 [vA (cProg p p1 c p2 c1),vI part] I [] (zU  r):=by
 intro p part r N I p1 c p2 c1 h h1;unfold mH at N;refine yL Tryz.func34 fun B=>yD<|tS (cProg p p1 c p2 c1) ?_;intro b hb;refine wI [] []<|yX<|yE 5 [0] [5,9] rfl<|bE N fun y hy N=>uH (wX part 0 (W ((p.Parts.length:Int) - 1)) _ hy ) fun I0 le=>wI [] [(4,.bool y)]<|zI<|yW ?_;obtain rfl:=zC N;exact wM
def vV (s:(List Int)) (v0:Int) (t8:Int):Option (Out Unit (Int)):=do
 if (decide (t8 < (s.length:Int))) then
  let x←idx s t8
  if (v0 == x) then
   pure (.ret t8)
  else
   vV s v0 (W (t8 + 1))
 else
  pure (.done ())
 partial_fixpoint
theorem zAX (s:(List Int)) (v0:Int):∀ (t8:Int) (o:Out Unit (Int)),vV s v0 t8=some o→∀ {B}{I0 I:Imm}{Q p c},I0.le I→(S4 I p s c)→NG Q→NO Q→(∀ (I':Imm) ,o=(.done ())→I0.le I'→T 19 B Q (.exit 0) I' [] [])→(∀ r I' hs' m',o=(.ret r)→I0.le I'→RS Tryz.prog Tryz.f230 B (yM  r) I' hs' m'→T 19 B Q .ret I' hs' m')→J Tryz.prog 19 B (nav (bodyOf Tryz.f230) [1,0,1,0]) Q I [] [(0,vS p s c),(1,vI v0),(7,vI (s.length:Int)),(8,vI t8)]:=by
 refine vV.partial_correctness s v0 _ fun self ih t8 o N B I0 I Q p c H h hg ho hx hr=>yQ hg ho<|yF [9] rfl<|zY<|yC N ?_ ?_
 · intro hc N;refine zS<|zY<|yG<|yF [5] rfl<|yX<|yE 3 [] [11,12,13] rfl<|bE N fun x hy N=>xK rfl rfl h hy ?_;intro ad ccs hat hrep;obtain rfl:=hrep;refine xF 0 hat [vI x] (vI x) rfl<|yI [] [16] rfl<|zI<|yC N ?_ ?_
   · intro hc1 N;exact yF [4] rfl<|xG<|zV<|zG<|zG<|hr _ _ _ _ (zC N).symm H ⟨_,_,(.tmp rfl ResV.nil),zQ,⟨_,rfl,rfl,rfl⟩⟩
   intro hc1 N;exact zS<|zO<|zI<|zK<|yI [] [8] rfl<|yO<|nF<|ih (W (t8 + 1)) _ N H h hg ho hx hr
 intro hc N;exact wJ<|yN<|hx _  (zC N).symm H
def nU (s:(List Int)) (v0:Int):Option (Int):=do
 match←vV s v0 0 with
 | .ret r0=>pure r0
 | .done _ =>
  pure (-1)
theorem zBX:∀ s v0 r,nU s v0=some r→∀ {I:Imm}{p c},(S4 I p s c)→RT 230 [vS p s c,vI v0] I [] (yM  r):=by
 intro s v0 r N I p c h;unfold nU at N;refine yL Tryz.func230 fun B=>vJ []<|zY<|yF [7,8] rfl<|xW<|qW [(0,vS p s c),(1,vI v0),(7,vI (s.length:Int)),(8,vI 0)] ?_;obtain ⟨o0,ho0,hMl⟩:=zB N;refine zAX s v0 0 o0 ho0 iR h (fun _ _ _ h=>h) (fun _ _ h=>h) ?_ ?_
 · intro I0  heq le;subst o0;refine zR<|wH [4] rfl<|zI<|yW ?_;obtain rfl:=zC hMl;exact wM
 intro r0 I9 hs9 m9 heq9 le9 hrs9;subst heq9;refine zV<|zG ?_;obtain rfl:=zC hMl;exact xA hrs9
def tL (s:(List Int)) (v0:Int):Option (Bool):=do
 let y←nU s v0
 pure (decide (y ≥ 0))
theorem gV:∀ s v0 r,tL s v0=some r→∀ {I:Imm}{p c},(S4 I p s c)→RT 189 [vS p s c,vI v0] I [] (zU  r):=by
 intro s v0 r N I p c h;unfold tL at N;refine yL Tryz.func189 fun B=>vJ []<|yX<|yE 2 [] [5,6] rfl<|bE N fun y hy N=>gF (zBX s v0 _ hy h) fun I0 le=>wI [] [(4,.bool (decide (y ≥ 0)))]<|zI<|yW ?_;obtain rfl:=zC N;exact wM
def pW (t:vQ) (from0:Int) (to0:Int):Option (Int):=do
 let x←idx t.reads to0
 let x1←idx t.writes from0
 let y←tL x x1
 let kinds←(do
   if y then
    pure (W (0 + 1))
   else
    pure (id 0)
     : Option Int)
 let x2←idx t.reads from0
 let x3←idx t.writes to0
 let y1←tL x2 x3
 let kinds1←(do
   if y1 then
    pure (W (kinds + 2))
   else
    pure (id kinds)
     : Option Int)
 let x4←idx t.writes from0
 let x5←idx t.writes to0
 let kinds2←(do
   if (x4 == x5) then
    pure (W (kinds1 + 4))
   else
    pure (id kinds1)
     : Option Int)
 pure (id kinds2)
theorem zBe:∀ t from0 to0 r,pW t from0 to0=some r→∀ {I:Imm}{ad:Addr}{p c p1 c1 p2 c2 p3 c3 p4 c4},(S4 I p t.Program.Arrays c)→(S4 I p1 t.Program.Parts c1)→(S4 I p2 t.list c2)→(S4 I p3 t.reads c3)→(S4 I p4 t.writes c4)→(At I ad [vS p t.Program.Arrays c,vS p1 t.Program.Parts c1,vS p2 t.list c2,vS p3 t.reads c3,vS p4 t.writes c4])→RT 142 [.pointer (some ad),vI from0,vI to0] I [] (yM  r):=by
 intro t from0 to0 r N I ad p c p1 c1 p2 c2 p3 c3 p4 c4 h h1 h2 h3 h4 hat;unfold pW at N;refine yL Tryz.func142 fun B=>?_;have H:=iS I;refine vJ []<|wH [7] rfl<|zY<|zZ ?_;obtain ⟨x,hy,N⟩:=zB N;obtain ⟨x1,hy1,N⟩:=zB N;obtain ⟨y,hy2,N⟩:=zB N;refine wK [.p (.pointer (some ad)) [],.p (.pointer (some ad)) [],.p (.pointer (some (ad.add 3))) [],.q (vS p3 t.reads c3),.p (vI to0) [],.x (fun I' v hx=>∃ ad1 p5 c5,v=.pointer (some ad1)∧hx=[]∧(At I' ad1 [vS p5 x c5])∧(S4 I' p5 x c5)),.x (eS x),.p (.pointer (some ad)) [],.p (.pointer (some ad)) [],.p (.pointer (some (ad.add 4))) [],.q (vS p4 t.writes c4),.p (vI from0) [],.x (fun I' v hx=>∃ ad2,v=.pointer (some ad2)∧hx=[]∧(At I' ad2 [vI x1])),.q (vI x1),.q (.bool y)] [[],[(0,false)],[(1,false)],[(2,false)],[],[(3,false),(4,false)],[(5,false)],[],[(7,false)],[(8,false)],[(9,false)],[],[(10,false),(11,false)],[(12,false)],[(6,false),(13,false)]] [] [] [(14,false)] zQ ?_ ?_
 · refine Op<|Op<|Op<|Oq ?_<|Op<|Ox ?_<|Ox ?_<|Op<|Op<|Op<|Oq ?_<|Op<|Ox ?_<|Oq ?_<|Oq ?_<|On
   · intro I1 hf le1;refine yR [10] rfl ?_;have hat:=hat.mono le1;exact xF 3 hat [vS p3 t.reads c3] (vS p3 t.reads c3) rfl<|xE iR
   · intro I1 hf le1;refine yR [11,12] rfl ?_;have h3:=h3.mono le1;refine xK rfl rfl h3 hy ?_;intro ad1 ccs hat1 hrep;obtain ⟨v0,rfl,h5⟩:=hrep;obtain ⟨p5,c5,rfl⟩:=h5.form;exact yK [] iR ⟨_,_,_,rfl,rfl,hat1,h5⟩
   · rintro I1 hf le1 _ _ ⟨ad1,p5,c5,rfl,rfl,hat1,h5⟩;exact yR [13] rfl<|xF 0 hat1 [vS p5 x c5] (vS p5 x c5) rfl<|yK [] iR ⟨_,_,rfl,rfl,h5⟩
   · intro I1 hf le1;refine yR [17] rfl ?_;have hat:=hat.mono le1;exact xF 4 hat [vS p4 t.writes c4] (vS p4 t.writes c4) rfl<|xE iR
   · intro I1 hf le1;refine yR [18,19] rfl ?_;have h4:=h4.mono le1;refine xK rfl rfl h4 hy1 ?_;intro ad2 ccs1 hat2 hrep1;obtain rfl:=hrep1;exact yK [] iR ⟨_,rfl,rfl,hat2⟩
   · rintro I1 hf le1 _ _ ⟨ad2,rfl,rfl,hat2⟩;exact yR [20] rfl<|xF 0 hat2 [vI x1] (vI x1) rfl<|xE iR
   rintro I1 hf le1 _ _ ⟨p51,c51,rfl,rfl,h51⟩;refine yR [14,21] rfl ?_;have H:=iS I1;refine uH (gV x x1 _ hy2 h51) ?_;intro I0 le;have H:=H.trans le;exact xE H
 intro I01 le1;refine yR [0,1,2,7,22] rfl ?_;have ⟨h3,h4,hat,H⟩:=m4 le1 h3 h4 hat H;refine yB rfl<|zI ?_;refine wT N [] (fun kinds=>[(0,.pointer (some ad)),(1,vI from0),(2,vI to0),(7,vI kinds)]) (fun o0 ho0=>?_) ?_
 · have H:=iS I01;refine yC ho0 ?_ ?_
   · intro hc N;exact zK<|yI [] [7] rfl<|yN<|zT (ct N H)
   intro hc N;exact zS<|yN<|zT (ct N H)
 intro kinds I02 le2 hMc;have ⟨h3,h4,hat,H⟩:=m4 le2 h3 h4 hat H;refine zY<|zZ ?_;obtain ⟨x2,hy3,N⟩:=zB hMc;obtain ⟨x3,hy4,N⟩:=zB N;obtain ⟨y1,hy5,N⟩:=zB N;refine wK [.p (.pointer (some ad)) [],.p (.pointer (some ad)) [],.p (.pointer (some (ad.add 3))) [],.q (vS p3 t.reads c3),.p (vI from0) [],.x (fun I' v hx=>∃ ad3 p6 c6,v=.pointer (some ad3)∧hx=[]∧(At I' ad3 [vS p6 x2 c6])∧(S4 I' p6 x2 c6)),.x (eS x2),.p (.pointer (some ad)) [],.p (.pointer (some ad)) [],.p (.pointer (some (ad.add 4))) [],.q (vS p4 t.writes c4),.p (vI to0) [],.x (fun I' v hx=>∃ ad4,v=.pointer (some ad4)∧hx=[]∧(At I' ad4 [vI x3])),.q (vI x3),.q (.bool y1)] [[],[(0,false)],[(1,false)],[(2,false)],[],[(3,false),(4,false)],[(5,false)],[],[(7,false)],[(8,false)],[(9,false)],[],[(10,false),(11,false)],[(12,false)],[(6,false),(13,false)]] [] [] [(14,false)] zQ ?_ ?_
 · refine Op<|Op<|Op<|Oq ?_<|Op<|Ox ?_<|Ox ?_<|Op<|Op<|Op<|Oq ?_<|Op<|Ox ?_<|Oq ?_<|Oq ?_<|On
   · intro I1 hf le1;refine yR [27] rfl ?_;have hat:=hat.mono le1;exact xF 3 hat [vS p3 t.reads c3] (vS p3 t.reads c3) rfl<|xE iR
   · intro I1 hf le1;refine yR [28,29] rfl ?_;have h3:=h3.mono le1;refine xK rfl rfl h3 hy3 ?_;intro ad3 ccs2 hat3 hrep2;obtain ⟨v02,rfl,h7⟩:=hrep2;obtain ⟨p6,c6,rfl⟩:=h7.form;exact yK [] iR ⟨_,_,_,rfl,rfl,hat3,h7⟩
   · rintro I1 hf le1 _ _ ⟨ad3,p6,c6,rfl,rfl,hat3,h7⟩;exact yR [30] rfl<|xF 0 hat3 [vS p6 x2 c6] (vS p6 x2 c6) rfl<|yK [] iR ⟨_,_,rfl,rfl,h7⟩
   · intro I1 hf le1;refine yR [34] rfl ?_;have hat:=hat.mono le1;exact xF 4 hat [vS p4 t.writes c4] (vS p4 t.writes c4) rfl<|xE iR
   · intro I1 hf le1;refine yR [35,36] rfl ?_;have h4:=h4.mono le1;refine xK rfl rfl h4 hy4 ?_;intro ad4 ccs3 hat4 hrep3;obtain rfl:=hrep3;exact yK [] iR ⟨_,rfl,rfl,hat4⟩
   · rintro I1 hf le1 _ _ ⟨ad4,rfl,rfl,hat4⟩;exact yR [37] rfl<|xF 0 hat4 [vI x3] (vI x3) rfl<|xE iR
   rintro I1 hf le1 _ _ ⟨p61,c61,rfl,rfl,h71⟩;refine yR [31,38] rfl ?_;have H:=iS I1;refine uH (gV x2 x3 _ hy5 h71) ?_;intro I03 le3;have H:=H.trans le3;exact xE H
 intro I04 le4;refine yR [0,1,2,7,39] rfl ?_;have ⟨h4,hat,H⟩:=m3 le4 h4 hat H;refine yB rfl<|zI ?_;refine wT N [] (fun kinds1=>[(0,.pointer (some ad)),(1,vI from0),(2,vI to0),(7,vI kinds1)]) (fun o01 ho01=>?_) ?_
 · have H:=iS I04;refine yC ho01 ?_ ?_
   · intro hc1 N;exact zK<|yI [] [7] rfl<|yN<|zT (ct N H)
   intro hc1 N;exact zS<|yN<|zT (ct N H)
 intro kinds1 I05 le5 hMc1;have ⟨h4,hat,H⟩:=m3 le5 h4 hat H;refine zY<|zZ<|kF (by kernel_rfl) (by kernel_rfl)<|fX 3 [] [44] rfl<|fZ 4 hat [vS p4 t.writes c4] (vS p4 t.writes c4) rfl<|fX 5 [] [46] rfl ?_;obtain ⟨x4,hy6,N⟩:=zB hMc1;refine dK rfl rfl h4 hy6 ?_;intro ad5 ccs4 hat5 hrep4;obtain rfl:=hrep4;refine fZ 0 hat5 [vI x4] (vI x4) rfl<|fX 10 [] [51] rfl<|fZ 4 hat [vS p4 t.writes c4] (vS p4 t.writes c4) rfl<|fX 12 [] [53] rfl<|bE N fun x5 hy7 N=>dK rfl rfl h4 hy7 ?_;intro ad6 ccs5 hat6 hrep5;obtain rfl:=hrep5;refine fZ 0 hat6 [vI x5] (vI x5) rfl<|zGg [] [56] rfl<|zI ?_;refine wT N [] (fun kinds2=>[(7,vI kinds2)]) (fun o02 ho02=>?_) ?_
 · have H:=iS I05;refine yC ho02 ?_ ?_
   · intro hc2 N;exact zK<|yI [] [7] rfl<|yN<|zT (ct N H)
   intro hc2 N;exact zS<|yN<|zT (ct N H)
 intro kinds2 I06 le6 hMc2;refine wH [6] rfl<|zI<|yW ?_;obtain rfl:=zC hMc2;exact wM
def eU (r:(List yH)):KT:=fun kk I' hs' v=>
  ∃ v0,hs'=[]∧v=tupV [v0]∧SL I' v0 r
def sF (t:vQ) (t12:Int) (out2:List yH) (to0:Int):Option (List yH):=do
 if (decide (to0 < (t.list.length:Int))) then
  let y←pW t t12 to0
  let out4←(do
    if (decide (y > 0)) then
     let out5←app 24 out2 ([(yH.mk t12 to0 y)]:List yH)
     pure (id out5)
    else
     pure (id out2)
      : Option (List yH))
  sF t t12 out4 (W (to0 + 1))
 else
  pure (id out2)
 partial_fixpoint
theorem zBf (t:vQ) (t12:Int):∀ (out2:List yH) (to0:Int) (o:List yH),sF t t12 out2 to0=some o→∀ {B}{I0 I:Imm}{Q}  {ad:Addr}{p c p1 c1 p2 c2 p3 c3 p4 c4 p7 c7 cs2},I0.le I→(S4 I p t.Program.Arrays c)→(S4 I p1 t.Program.Parts c1)→(S4 I p2 t.list c2)→(S4 I p3 t.reads c3)→(S4 I p4 t.writes c4)→(At I ad [vS p t.Program.Arrays c,vS p1 t.Program.Parts c1,vS p2 t.list c2,vS p3 t.reads c3,vS p4 t.writes c4])→(RL I cs2 out2)→NG Q→NO Q→(∀ (I':Imm) (out3:List yH) (p8:Option Addr) (c8:Nat) (cs3:List Value),o=out3→I0.le I'→(RL I' cs3 out3)→T 41 B Q (.exit 2) I' [hO yH (vS p8 out3 c8) cs3] [(0,.pointer (some ad)),(3,vS p8 out3 c8),(11,vI (t.list.length:Int)),(12,vI t12)])→J Tryz.prog 41 B (nav (bodyOf Tryz.f82) [1,1,0,1,0,0,1,1,0,0,1,1,0]) Q I [hO yH (vS p7 out2 c7) cs2] [(0,.pointer (some ad)),(3,vS p7 out2 c7),(4,vI t12),(5,vI to0),(11,vI (t.list.length:Int)),(12,vI t12)]:=by
 refine sF.partial_correctness t t12 _ fun self ih out2 to0 o N B I0 I Q ad p c p1 c1 p2 c2 p3 c3 p4 c4 p7 c7 cs2 H h h1 h2 h3 h4 hat h8 hg ho hx=>yQ hg ho<|zZ<|yD<|yE 4 [] [17,20] rfl<|xF 2 hat [vS p2 t.list c2] (vS p2 t.list c2) rfl<|yI [] [23] rfl<|zI<|yC N ?_ ?_
 · intro hc1 N;refine zS<|zY<|yG<|yD<|yE 3 [] [26,27,28] rfl<|bE N fun y hy N=>gF (zBe t t12 to0 _ hy h h1 h2 h3 h4 hat) ?_;intro I0 le;have ⟨h,h1,h2,h3,h4,hat⟩:=m6 le h h1 h2 h3 h4 hat;have ⟨h8,H⟩:=m2 le h8 H;refine yI [] [6] rfl<|wH [31] rfl<|zI ?_;obtain ⟨o0,ho0,hMc⟩:=zB N;refine qA (fun I' hs' m'=>∃ (out4:List yH) (p9:Option Addr) (c9:Nat) (cs4:List Value),o0=out4∧I0.le I'∧(RL I' cs4 out4)∧hs'=[hO yH (vS p9 out4 c9) cs4]∧m'=[(0,.pointer (some ad)),(3,vS p9 out4 c9),(4,vI t12),(5,vI to0),(11,vI (t.list.length:Int)),(12,vI t12)]) ?_ ?_
   · have H:=iS I0;refine yC ho0 ?_ ?_
     · intro hc2 N;refine zK<|yE 5 [] [32,36] rfl<|uN [vI t12,vI to0,vI y] yH ?_;intro b hb;have h12:RL I0 [vI t12,vI to0,vI y] ([(yH.mk t12 to0 y)]:List yH):=⟨[vI t12,vI to0,vI y],_,rfl,rfl,(zDK rfl),rfl⟩;obtain ⟨out5,hy1,N⟩:=zB N;exact rX 74 3 1 rfl rfl rfl h8 (.inr ⟨0,rfl⟩) h12 hy1 fun p10 c10 cs5 h13=>sK (zX [1] (hs':=[hO yH (vS p10 out5 c10) cs5]))<|yI [] [3] rfl<|yN<|zT ⟨_,_,_,_,(zC N).symm,H,h13,rfl,rfl⟩
     intro hc2 N;exact zS<|yN<|zT ⟨_,_,_,_,(zC N).symm,H,h8,rfl,rfl⟩
   rintro I01 hs2 m2 ⟨out4,p9,c9,cs4,heq,le1,h11,rfl,rfl⟩;subst o0;have ⟨h,h1,h2,h3,h4,hat⟩:=m6 le1 h h1 h2 h3 h4 hat;have H:=H.trans le1;exact zO<|zI<|zK<|yI [] [5] rfl<|yO<|nF<|ih out4 (W (to0 + 1)) _ hMc H h h1 h2 h3 h4 hat h11 hg ho hx
 intro hc1 N;exact wJ<|yN<|hx _ _ _ _ _ (zC N).symm H h8
def sG (t:vQ) (out:List yH) (t12:Int):Option (List yH):=do
 if (decide (t12 < (t.list.length:Int))) then
  let out3←sF t t12 out (W (t12 + 1))
  sG t out3 (W (t12 + 1))
 else
  pure (id out)
 partial_fixpoint
theorem zBg (t:vQ):∀ (out:List yH) (t12:Int) (o:List yH),sG t out t12=some o→∀ {B}{I0 I:Imm}{Q}  {ad:Addr}{p c p1 c1 p2 c2 p3 c3 p4 c4 p5 c5 cs},I0.le I→(S4 I p t.Program.Arrays c)→(S4 I p1 t.Program.Parts c1)→(S4 I p2 t.list c2)→(S4 I p3 t.reads c3)→(S4 I p4 t.writes c4)→(At I ad [vS p t.Program.Arrays c,vS p1 t.Program.Parts c1,vS p2 t.list c2,vS p3 t.reads c3,vS p4 t.writes c4])→(RL I cs out)→NG Q→NO Q→(∀ (I':Imm) (out1:List yH) (p6:Option Addr) (c6:Nat) (cs1:List Value),o=out1→I0.le I'→(RL I' cs1 out1)→T 41 B Q (.exit 0) I' [hO yH (vS p6 out1 c6) cs1] [(3,vS p6 out1 c6)])→J Tryz.prog 41 B (nav (bodyOf Tryz.f82) [1,1,0,1,0]) Q I [hO yH (vS p5 out c5) cs] [(0,.pointer (some ad)),(3,vS p5 out c5),(11,vI (t.list.length:Int)),(12,vI t12)]:=by
 refine sG.partial_correctness t _ fun self ih out t12 o N B I0 I Q ad p c p1 c1 p2 c2 p3 c3 p4 c4 p5 c5 cs H h h1 h2 h3 h4 hat h6 hg ho hx=>yQ hg ho<|yF [13] rfl<|zY<|yC N ?_ ?_
 · intro hc N;refine zS<|zY<|yG<|yF [4] rfl<|wH [5] rfl<|xW<|qW [(0,.pointer (some ad)),(3,vS p5 out c5),(4,vI t12),(5,vI (W (t12 + 1))),(11,vI (t.list.length:Int)),(12,vI t12)] ?_;obtain ⟨o01,ho01,hMl⟩:=zB N;refine zBf t t12 out (W (t12 + 1)) o01 ho01 iR h h1 h2 h3 h4 hat h6 (fun _ _ _ h=>hg _ _ _ h) (fun _ _ h=>ho _ _ h) ?_;intro I02 out3 p8 c8 cs3 heq1 le2 h9;subst o01;have ⟨h,h1,h2,h3,h4,hat⟩:=m6 le2 h h1 h2 h3 h4 hat;have H:=H.trans le2;exact zR<|zO<|zI<|zK<|yI [] [12] rfl<|yO<|nF<|ih out3 (W (t12 + 1)) _ hMl H h h1 h2 h3 h4 hat h9 hg ho hx
 intro hc N;exact wJ<|yN<|hx _ _ _ _ _ (zC N).symm H h6
def mF (t:vQ):Option ((List yH)):=do
 let out1←sG t ([]:List yH) 0
 pure (id out1)
theorem zDB:∀ t r,mF t=some r→∀ {I:Imm}{ad:Addr}{p c p1 c1 p2 c2 p3 c3 p4 c4},(S4 I p t.Program.Arrays c)→(S4 I p1 t.Program.Parts c1)→(S4 I p2 t.list c2)→(S4 I p3 t.reads c3)→(S4 I p4 t.writes c4)→(At I ad [vS p t.Program.Arrays c,vS p1 t.Program.Parts c1,vS p2 t.list c2,vS p3 t.reads c3,vS p4 t.writes c4])→RT 82 [.pointer (some ad)] I [] (eU  r):=by
 intro t r N I ad p c p1 c1 p2 c2 p3 c3 p4 c4 h h1 h2 h3 h4 hat;unfold mF at N;refine yL Tryz.func82 fun B=>vJ []<|zFr [(3,z0)]<|zY<|yD<|yE 3 [] [9] rfl<|xF 2 hat [vS p2 t.list c2] (vS p2 t.list c2) rfl<|yI [] [11,12] rfl<|xW<|qW [(0,.pointer (some ad)),(3,z0),(11,vI (t.list.length:Int)),(12,vI 0)]<|dR yH fun h5=>?_;obtain ⟨o02,ho02,hMl1⟩:=zB N;refine zBg t ([]:List yH) 0 o02 ho02 iR h h1 h2 h3 h4 hat h5 (fun _ _ _ h=>h) (fun _ _ h=>h) ?_;intro I03 out1 p6 c6 cs1 heq2 le3 h7;subst o02;refine zR<|wH [2] rfl<|xG<|yV 0 rfl ?_;intro I04 le4 hl0;have h14:=SL.of_frozen hl0 le4 h7;obtain rfl:=zC hMl1;exact xA ⟨_,_,(.tmp rfl ResV.nil),zQ,⟨_,rfl,rfl,h14⟩⟩
def M.cmp_isNaN_int (x:Int):Option (Bool):=do
 pure (x != x)
theorem zBY:∀ x r,M.cmp_isNaN_int x=some r→∀ {I:Imm} ,RT 229 [vI x] I [] (zU  r):=by
 intro x r N I;unfold M.cmp_isNaN_int at N;refine yL Tryz.func229 fun B=>vJ []<|wH [2] rfl<|zI<|yW ?_;obtain rfl:=zC N;exact wM
def M.cmp_Compare_int (x:Int) (y:Int):Option (Int):=do
 let y1←M.cmp_isNaN_int x
 let y2←M.cmp_isNaN_int y
 if y1 then
  if y2 then
   pure (id 0)
  else
   pure (-1)
 else
  if y2 then
   pure (id 1)
  else
   if (decide (x < y)) then
    pure (-1)
   else
    if (decide (x > y)) then
     pure (id 1)
    else
     pure (id 0)
theorem zDf:∀ x y r,M.cmp_Compare_int x y=some r→∀ {I:Imm} ,RT 188 [vI x,vI y] I [] (yM  r):=by
 intro x y r N I;unfold M.cmp_Compare_int at N;refine yL Tryz.func188 fun B=>vJ []<|yX<|yE 1 [] [7] rfl<|bE N fun y1 hy N=>uH (zBY x _ hy ) fun I0 le=>wI [] [(5,.bool y1)]<|yX<|qL 1 [] [(9,vI y)]<|bE N fun y2 hy1 N=>uH (zBY y _ hy1 ) fun I01 le1=>wI [] [(6,.bool y2)]<|zY<|vJ [(11,.bool y1)]<|zI<|yC N ?_ ?_
 · intro hc N;refine zZ<|yF [12] rfl<|zI<|yC N ?_ ?_
   · intro hc1 N;refine yF [4] rfl<|xG<|zG<|zG ?_;obtain rfl:=zC N;exact wM
   intro hc1 N;refine zS<|wH [4] rfl<|xG<|zG ?_;obtain rfl:=zC N;exact wM
 intro hc N;refine zS<|zY<|yF [13] rfl<|zI<|yC N ?_ ?_
 · intro hc2 N;refine yF [4] rfl<|xG<|zG ?_;obtain rfl:=zC N;exact wM
 intro hc2 N;refine zS<|zY<|yF [16] rfl<|zI<|yC N ?_ ?_
 · intro hc3 N;refine yF [4] rfl<|xG<|zG ?_;obtain rfl:=zC N;exact wM
 intro hc3 N;refine zS<|zY<|yF [19] rfl<|zI<|yC N ?_ ?_
 · intro hc4 N;refine yF [4] rfl<|xG<|zG ?_;obtain rfl:=zC N;exact wM
 intro hc4 N;refine zS<|wH [4] rfl<|zI<|yW ?_;obtain rfl:=zC N;exact wM
def xU (s1:(List Int)) (s2:(List Int)) (t11:Int):Option (Out Unit (Int)):=do
 if (decide (t11 < (s1.length:Int))) then
  let x←idx s1 t11
  if (decide (t11 ≥ (s2.length:Int))) then
   pure (.ret 1)
  else
   let x1←idx s2 t11
   let y←M.cmp_Compare_int x x1
   if (y != 0) then
    pure (.ret y)
   else
    xU s1 s2 (W (t11 + 1))
 else
  pure (.done ())
 partial_fixpoint
theorem dY (s1:(List Int)) (s2:(List Int)):∀ (t11:Int) (o:Out Unit (Int)),xU s1 s2 t11=some o→∀ {B}{I0 I:Imm}{Q p c p1 c1},I0.le I→(S4 I p s1 c)→(S4 I p1 s2 c1)→NG Q→NO Q→(∀ (I':Imm) ,o=(.done ())→I0.le I'→T 36 B Q (.exit 0) I' [] [(0,vS p s1 c),(1,vS p1 s2 c1)])→(∀ r I' hs' m',o=(.ret r)→I0.le I'→RS Tryz.prog Tryz.f138 B (yM  r) I' hs' m'→T 36 B Q .ret I' hs' m')→J Tryz.prog 36 B (nav (bodyOf Tryz.f138) [1,0,1,0]) Q I [] [(0,vS p s1 c),(1,vS p1 s2 c1),(9,vS p s1 c),(10,vI (s1.length:Int)),(11,vI t11)]:=by
 refine xU.partial_correctness s1 s2 _ fun self ih t11 o N B I0 I Q p c p1 c1 H h h1 hg ho hx hr=>yQ hg ho<|yF [12] rfl<|zY<|yC N ?_ ?_
 · intro hc N;refine zS<|zY<|yG<|yD<|yE 1 [] [13] rfl<|bE N fun x hy N=>xK rfl rfl h hy ?_;intro ad ccs hat hrep;obtain rfl:=hrep;refine xF 0 hat [vI x] (vI x) rfl<|yI [] [5,6] rfl<|zY<|yF [19] rfl<|zI<|yC N ?_ ?_
   · intro hc1 N;exact yF [4] rfl<|xG<|zG<|zV<|zG<|zG<|hr _ _ _ _ (zC N).symm H ⟨_,_,(.tmp rfl ResV.nil),zQ,⟨_,rfl,rfl,rfl⟩⟩
   intro hc1 N;refine zS<|yX<|yE 2 [] [20,21] rfl<|bE N fun x1 hy1 N=>xK rfl rfl h1 hy1 ?_;intro ad1 ccs1 hat1 hrep1;obtain rfl:=hrep1;refine xF 0 hat1 [vI x1] (vI x1) rfl<|yI [] [7] rfl<|yX<|yE 2 [] [24,25] rfl<|bE N fun y hy2 N=>gF (zDf x x1 _ hy2 ) ?_;intro I0 le;have ⟨h,h1,H⟩:=m3 le h h1 H;refine yI [] [8] rfl<|wH [28] rfl<|zI<|yC N ?_ ?_
   · intro hc2 N;exact yF [4] rfl<|xG<|zV<|zG<|zG<|hr _ _ _ _ (zC N).symm H ⟨_,_,(.tmp rfl ResV.nil),zQ,⟨_,rfl,rfl,rfl⟩⟩
   intro hc2 N;exact zS<|zO<|zI<|zK<|yI [] [11] rfl<|yO<|nF<|ih (W (t11 + 1)) _ N H h h1 hg ho hx hr
 intro hc N;exact wJ<|yN<|hx _  (zC N).symm H
def oX (s1:(List Int)) (s2:(List Int)):Option (Int):=do
 match←xU s1 s2 0 with
 | .ret r0=>pure r0
 | .done _ =>
  if (decide ((s1.length:Int) < (s2.length:Int))) then
   pure (-1)
  else
   pure (id 0)
theorem zA4:∀ s1 s2 r,oX s1 s2=some r→∀ {I:Imm}{p c p1 c1},(S4 I p s1 c)→(S4 I p1 s2 c1)→RT 138 [vS p s1 c,vS p1 s2 c1] I [] (yM  r):=by
 intro s1 s2 r N I p c p1 c1 h h1;unfold oX at N;refine yL Tryz.func138 fun B=>vJ []<|zY<|yF [9,10,11] rfl<|xW<|qW [(0,vS p s1 c),(1,vS p1 s2 c1),(9,vS p s1 c),(10,vI (s1.length:Int)),(11,vI 0)] ?_;obtain ⟨o0,ho0,hMl⟩:=zB N;refine dY s1 s2 0 o0 ho0 iR h h1 (fun _ _ _ h=>h) (fun _ _ h=>h) ?_ ?_
 · intro I01  heq le1;subst o0;refine zR<|zY<|yF [35] rfl<|zI<|yC hMl ?_ ?_
   · intro hc3 N;refine yF [4] rfl<|xG<|zG ?_;obtain rfl:=zC N;exact wM
   intro hc3 N;refine zS<|wH [4] rfl<|zI<|yW ?_;obtain rfl:=zC N;exact wM
 intro r0 I9 hs9 m9 heq9 le9 hrs9;subst heq9;refine zV<|zG ?_;obtain rfl:=zC hMl;exact xA hrs9
theorem zO0 (x y:Int):M.cmp_Compare_int x y=some (if x < y then -1 else if y < x then 1 else 0):=by
 have h1:(x != x)=false:=by simp
 have h2:(y != y)=false:=by simp
 simp only [M.cmp_Compare_int,M.cmp_isNaN_int,h1,h2,Option.pure_def,Option.bind_eq_bind,Option.bind_some,Bool.false_eq_true,if_false,id,decide_eq_true_eq];by_cases h:x < y
 · simp [h]
 by_cases h':y < x
 · simp [h,h']
 simp [h,h']
theorem zNg {a b:List Int} (ha:a.length < 4611686018427387904):∀ (j q:Nat),q + j=a.length→q ≤ b.length→∃ o,xU a b (q:Int)=some o∧(match o with | .ret r=>r=cmpL (a.drop q) (b.drop q) | .done _=>a.length ≤ b.length∧cmpL (a.drop q) (b.drop q)=if a.length < b.length then -1 else 0):=by
 intro j
 induction j with
 | zero =>
  intro q hq hb;refine ⟨.done (),?_,by omega,?_⟩
  · rw [xU];have:¬((q:Int) < (a.length:Int)):=by omega
    simp only [this,decide_false,Bool.false_eq_true,if_false,Option.pure_def]
  rw [List.drop_eq_nil_iff.2 (show a.length ≤ q by omega)];by_cases h:a.length < b.length
  · rw [if_pos h,List.drop_eq_getElem_cons (show q < b.length by omega),cmpL]
  rw [if_neg h,List.drop_eq_nil_iff.2 (show b.length ≤ q by omega),cmpL]
 | succ j ih =>
  intro q hq hb;have hlt:q < a.length:=by omega
  have hc:((q:Int) < (a.length:Int)):=by omega
  have ei:idx a (q:Int)=some a[q]:=by rw [show idx a (q:Int)=a[q]? by unfold idx; simp,List.getElem?_eq_getElem hlt]
  by_cases hq2:q < b.length
  · have ej:idx b (q:Int)=some b[q]:=by rw [show idx b (q:Int)=b[q]? by unfold idx; simp,List.getElem?_eq_getElem hq2]
    have hg:¬((q:Int) ≥ (b.length:Int)):=by omega
    have eW:W ((q:Int) + 1)=((q + 1:Nat):Int):=by show IntKind.i64.wrap _=_; rw [IntKind.wrap_i64]; omega
    rw [xU,List.drop_eq_getElem_cons hlt,List.drop_eq_getElem_cons hq2,cmpL];simp only [hc,decide_true,if_true,ei,ej,hg,decide_false,Bool.false_eq_true,if_false,zO0,Option.bind_eq_bind,Option.bind_some,Option.pure_def,eW];by_cases h1:a[q] < b[q]
    · refine ⟨.ret (-1),?_,?_⟩
      · simp [h1]
      simp [h1]
    by_cases h2:b[q] < a[q]
    · refine ⟨.ret 1,?_,?_⟩
      · simp [h1,h2]
      simp [h1,h2]
    obtain ⟨o,e1,e2⟩:=ih (q + 1) (by omega) (by omega);refine ⟨o,?_,?_⟩
    · simp only [h1,h2,if_false,bne_self_eq_false,Bool.false_eq_true]; exact e1
    rw [if_neg h1,if_neg h2]; exact e2
  refine ⟨.ret 1,?_,?_⟩
  · rw [xU];have hg:((q:Int) ≥ (b.length:Int)):=by omega
    simp only [hc,decide_true,if_true,ei,hg,Option.bind_eq_bind,Option.bind_some,Option.pure_def]
  show 1=cmpL _ _;rw [List.drop_eq_getElem_cons hlt,List.drop_eq_nil_iff.2 (show b.length ≤ q by omega),cmpL]
theorem zMu {a b:List Int} (ha:a.length < 4611686018427387904):oX a b=some (cmpL a b):=by
 obtain ⟨o,h1,h2⟩:=zNg (b:=b) ha a.length 0 (Nat.zero_add _) (Nat.zero_le _);rw [List.drop_zero,List.drop_zero] at h2;have h1:xU a b 0=some o:=h1;unfold oX;rw [h1];cases o with
 | ret r=>show some r=_; rw [h2]
 | done u =>
  rw [h2.2];by_cases h:a.length < b.length
  · simp [h]
  simp [h]
def dZ (p:Option Addr) (c:Nat) (s r:List (List Int)):KT:=fun kk I' hs' v=>
  ∃ cs',hs'=[hO (List Int) (vS p r c) cs']∧v=tupV []∧r.length=s.length∧RL I' cs' r
def rF (x:List (List Int)):Option (List (List Int)):=if x.length < 4611686018427387904∧∀ l ∈ x,l.length < 4611686018427387904 then some (srtL x) else none
theorem zAY:∀ x r,rF x=some r→∀ {I:Imm}{p c cs},RL I cs x→RT 137 [vS p x c,.func (.func 138) ⟨[]⟩ ⟨[]⟩] I [hO (List Int) (vS p x c) cs] (dZ p c x r):=by
 intro x r N I p c cs h;unfold rF at N;split at N
 · rename_i hb;cases N
   refine zLq (fun blk off cap d w h1 h2 h3 h4=>Any.slices_SortFunc Tryz.laysSort _ oneR cfR swoR 138 #[] blk off cap d w (Go.Proofs.enters_of Tryz.func138 (by kernel_rfl) rfl) h1 h2 h3 h4) (fun w=>?_) (fun x y=>?_) hb.1 hb.2 h fun k cs' h'=>⟨cs',rfl,rfl,List.length_mergeSort _,h'⟩
   · exact (AnyF.slices_SortFunc_none ({ Tryz.laysSort with }:Go.Proofs.SlLaysF0.n6 Tryz.prog _) none 0 _ w).mono fun e w' ⟨h1,h2⟩=>⟨h1,0,#[],by rw [h2]; simp [Sort.grow,World.drewN]⟩
   obtain ⟨xv,xl,xh,xb⟩:=x;obtain ⟨yv,yl,yh,yb⟩:=y;obtain ⟨p1,c1,rfl⟩:=xh.form;obtain ⟨p2,c2,rfl⟩:=yh.form;exact (zA4 xl yl _ (zMu xb) xh yh).mono (by rintro k i hs u ⟨v0,rfl,rfl,rfl⟩; exact ⟨rfl,rfl⟩)
 cases N
def vW (s1:(List Int)) (s2:(List Int)) (t13:Int):Option (Out Unit (Bool)):=do
 if (decide (t13 < (s1.length:Int))) then
  let x←idx s1 t13
  let x1←idx s2 t13
  if (x != x1) then
   pure (.ret false)
  else
   vW s1 s2 (W (t13 + 1))
 else
  pure (.done ())
 partial_fixpoint
theorem zAZ (s1:(List Int)) (s2:(List Int)):∀ (t13:Int) (o:Out Unit (Bool)),vW s1 s2 t13=some o→∀ {B}{I0 I:Imm}{Q p c p1 c1},I0.le I→(S4 I p s1 c)→(S4 I p1 s2 c1)→NG Q→NO Q→(∀ (I':Imm) ,o=(.done ())→I0.le I'→T 26 B Q (.exit 0) I' [] [])→(∀ r I' hs' m',o=(.ret r)→I0.le I'→RS Tryz.prog Tryz.f140 B (zU  r) I' hs' m'→T 26 B Q .ret I' hs' m')→J Tryz.prog 26 B (nav (bodyOf Tryz.f140) [1,1,0,1,0]) Q I [] [(0,vS p s1 c),(1,vS p1 s2 c1),(12,vI (s1.length:Int)),(13,vI t13)]:=by
 refine vW.partial_correctness s1 s2 _ fun self ih t13 o N B I0 I Q p c p1 c1 H h h1 hg ho hx hr=>yQ hg ho<|yF [14] rfl<|zY<|yC N ?_ ?_
 · intro hc1 N;refine zS<|zY<|yG<|yF [5] rfl<|zY<|kF (by kernel_rfl) (by kernel_rfl)<|fX 2 [] [16,17] rfl<|bE N fun x hy N=>dK rfl rfl h hy ?_;intro ad ccs hat hrep;obtain rfl:=hrep;refine fZ 0 hat [vI x] (vI x) rfl<|fX 6 [] [20,21] rfl<|bE N fun x1 hy1 N=>dK rfl rfl h1 hy1 ?_;intro ad1 ccs1 hat1 hrep1;obtain rfl:=hrep1;refine fZ 0 hat1 [vI x1] (vI x1) rfl<|zGg [] [24] rfl<|zI<|yC N ?_ ?_
   · intro hc2 N;exact vJ [(4,vF)]<|xG<|zV<|zG<|zG<|hr _ _ _ _ (zC N).symm H ⟨_,_,(.tmp rfl ResV.nil),zQ,⟨_,rfl,rfl,rfl⟩⟩
   intro hc2 N;exact zS<|zO<|zI<|zK<|yI [] [13] rfl<|yO<|nF<|ih (W (t13 + 1)) _ N H h h1 hg ho hx hr
 intro hc1 N;exact wJ<|yN<|hx _  (zC N).symm H
def rE (s1:(List Int)) (s2:(List Int)):Option (Bool):=do
 if ((s1.length:Int) != (s2.length:Int)) then
  pure false
 else
  match←vW s1 s2 0 with
  | .ret r0=>pure r0
  | .done _ =>
   pure true
theorem fW:∀ s1 s2 r,rE s1 s2=some r→∀ {I:Imm}{p c p1 c1},(S4 I p s1 c)→(S4 I p1 s2 c1)→RT 140 [vS p s1 c,vS p1 s2 c1] I [] (zU  r):=by
 intro s1 s2 r N I p c p1 c1 h h1;unfold rE at N;refine yL Tryz.func140 fun B=>vJ []<|zY<|yF [10] rfl<|zI<|yC N ?_ ?_
 · intro hc N;refine vJ [(4,vF)]<|xG<|zG ?_;obtain rfl:=zC N;exact wM
 intro hc N;refine zS<|zY<|yF [12,13] rfl<|xW<|qW [(0,vS p s1 c),(1,vS p1 s2 c1),(12,vI (s1.length:Int)),(13,vI 0)] ?_;obtain ⟨o0,ho0,hMl⟩:=zB N;refine zAZ s1 s2 0 o0 ho0 iR h h1 (fun _ _ _ h=>h) (fun _ _ h=>h) ?_ ?_
 · intro I0  heq le;subst o0;refine zR<|zFr [(4,vY)]<|zI<|yW ?_;obtain rfl:=zC hMl;exact wM
 intro r0 I9 hs9 m9 heq9 le9 hrs9;subst heq9;refine zV<|zG ?_;obtain rfl:=zC hMl;exact xA hrs9
def wC (r:(List (List Int))):KT:=fun kk I' hs' v=>
  ∃ v0,hs'=[]∧v=tupV [v0]∧SL I' v0 r
def xR (k0:Int) (l:List (List Int)) (s3:List (List Int)) (k01:Int) (k2:Int):Option ((List (List Int)×Int)):=do
 if (decide (k2 < (l.length:Int))) then
  let x2←idx l k2
  let x3←idx s3 (k0 + k2)
  let x4←idx l (W (k2 - 1))
  let x5←idx s3 (k0 + (W (k2 - 1)))
  let y1←rE x3 x5
  let (s5,k03)←(do
    if (!y1) then
     let x6←idx l k2
     let x7←idx s3 (k0 + k2)
     let x8←idx s3 k01
     let l1←pure (s3.set k01.toNat x7)
     pure (l1,(W (k01 + 1)))
    else
     pure (s3,k01)
      : Option (List (List Int)×Int))
  xR k0 l s5 k03 (W (k2 + 1))
 else
  pure (s3,k01)
 partial_fixpoint
theorem eK (k0:Int) (l:List (List Int)):∀ (s3:List (List Int)) (k01:Int) (k2:Int) (o:(List (List Int)×Int)),xR k0 l s3 k01 k2=some o→∀ {B}{I0 I:Imm}{Q p c p3 c3 cs3},I0.le I→(Win p (Rp.sz (List Int)) k0 p3 l.length)→(RL I cs3 s3)→NG Q→NO Q→(∀ (I':Imm) (s4:List (List Int)) (k02:Int) (cs4:List Value),o=(s4,k02)→I0.le I'→(RL I' cs4 s4)→T 66 B Q (.exit 2) I' [hO (List Int) (vS p s4 c) cs4] [(0,vS p s4 c),(5,vI k02)])→J Tryz.prog 66 B (nav (bodyOf Tryz.f139) [1,1,0,1,0,0,1,0,0,1,0,1,0,1,0]) Q I [hO (List Int) (vS p s3 c) cs3] [(0,vS p s3 c),(1,.func (.func 140) ⟨[]⟩ ⟨[]⟩),(5,vI k01),(6,vS p3 l c3),(7,vI k2)]:=by
 refine xR.partial_correctness k0 l _ fun self ih s3 k01 k2 o N B I0 I Q p c p3 c3 cs3 H h7 h8 hg ho hx=>yQ hg ho<|zZ<|yF [35] rfl<|zI<|yC N ?_ ?_
 · intro hc3 N;refine zS<|zY<|yG<|zZ ?_;obtain ⟨x2,hy4,N⟩:=zB N;obtain ⟨x3,hy5,N⟩:=zB N;obtain ⟨x4,hy6,N⟩:=zB N;obtain ⟨x5,hy7,N⟩:=zB N;obtain ⟨y1,hy8,N⟩:=zB N;refine wK [.p (.func (.func 140) ⟨[]⟩ ⟨[]⟩) [],.p (vS p3 l c3) [],.p (vI k2) [],.x (fun I' v hx=>∃ ad2 p4 c4,v=.pointer (some ad2)∧hx=[]∧(AtO (vS p s3 c) (Rp.sz (List Int)) (k0 + k2).toNat ad2)∧((cs3.drop ((k0 + k2).toNat * Rp.sz (List Int))).take (Rp.sz (List Int))=[vS p4 x3 c4])∧(S4 I' p4 x3 c4)),.x (eS x3),.p (vS p3 l c3) [],.p (vI k2) [],.p (vI (W (k2 - 1))) [],.x (fun I' v hx=>∃ ad3 p5 c5,v=.pointer (some ad3)∧hx=[]∧(AtO (vS p s3 c) (Rp.sz (List Int)) (k0 + (W (k2 - 1))).toNat ad3)∧((cs3.drop ((k0 + (W (k2 - 1))).toNat * Rp.sz (List Int))).take (Rp.sz (List Int))=[vS p5 x5 c5])∧(S4 I' p5 x5 c5)),.x (eS x5),.q (.bool y1),.p (.bool (!y1)) []] [[],[],[],[(1,false),(2,false)],[(3,false)],[],[],[(6,false)],[(5,false),(7,false)],[(8,false)],[(0,false),(4,false),(9,false)],[(10,false)]] [hO (List Int) (vS p s3 c) cs3] [] [(11,false)] (zX [0]) ?_ ?_
   · refine Op<|Op<|Op<|Ox ?_<|Ox ?_<|Op<|Op<|Op<|Ox ?_<|Ox ?_<|Oq ?_<|Op<|On
     · intro I1 hf le1;refine yR [39,40] rfl ?_;have ⟨h8,h7⟩:=m2 le1 h8 h7;refine zLr (wc:=c3) 0 rfl rfl h7 rfl h8 hy4 hy5 ?_;intro ad2 ccs2 hat2 hcc2 hrep2;obtain ⟨v03,rfl,h10⟩:=hrep2;obtain ⟨p4,c4,rfl⟩:=h10.form;exact yK [] iR ⟨_,_,_,rfl,rfl,hat2,hcc2,h10⟩
     · rintro I1 hf le1 _ _ ⟨ad2,p4,c4,rfl,rfl,hat2,hcc2,h10⟩;exact yR [41] rfl<|zB3 0 0 hat2 hcc2 [vS p4 x3 c4] (vS p4 x3 c4) rfl rfl<|yK [] iR ⟨_,_,rfl,rfl,h10⟩
     · intro I1 hf le1;refine yR [43,45] rfl ?_;have ⟨h8,h7⟩:=m2 le1 h8 h7;refine zLr (wc:=c3) 0 rfl rfl h7 rfl h8 hy6 hy7 ?_;intro ad3 ccs3 hat3 hcc3 hrep3;obtain ⟨v04,rfl,h11⟩:=hrep3;obtain ⟨p5,c5,rfl⟩:=h11.form;exact yK [] iR ⟨_,_,_,rfl,rfl,hat3,hcc3,h11⟩
     · rintro I1 hf le1 _ _ ⟨ad3,p5,c5,rfl,rfl,hat3,hcc3,h11⟩;exact yR [46] rfl<|zB3 0 0 hat3 hcc3 [vS p5 x5 c5] (vS p5 x5 c5) rfl rfl<|yK [] iR ⟨_,_,rfl,rfl,h11⟩
     rintro I1 hf le1 _ _ ⟨rfl,rfl⟩ _ _ ⟨p41,c41,rfl,rfl,h101⟩ _ _ ⟨p51,c51,rfl,rfl,h111⟩;refine yR [38,42,47] rfl ?_;have H:=iS I1;refine uH (fW x3 x5 _ hy8 h101 h111) ?_;intro I03 le3;have H:=H.trans le3;exact xE H
   intro I04 le4;refine yR [0,1,5,6,7,49] rfl ?_;have ⟨h8,h7,H⟩:=m3 le4 h8 h7 H;refine yB rfl<|zI ?_;obtain ⟨o0,ho0,hMc⟩:=zB N;refine qA (fun I' hs' m'=>∃ (s5:List (List Int)) (k03:Int) (cs5:List Value),o0=(s5,k03)∧I04.le I'∧(RL I' cs5 s5)∧hs'=[hO (List Int) (vS p s5 c) cs5]∧m'=[(0,vS p s5 c),(1,.func (.func 140) ⟨[]⟩ ⟨[]⟩),(5,vI k03),(6,vS p3 l c3),(7,vI k2)]) ?_ ?_
   · have H:=iS I04;refine yC ho0 ?_ ?_
     · intro hc4 N;refine yD<|yE 4 [] [50,51,52,53] rfl ?_;obtain ⟨x6,hy9,N⟩:=zB N;obtain ⟨x7,hy10,N⟩:=zB N;refine zLr (wc:=c3) 0 rfl rfl h7 rfl h8 hy9 hy10 ?_;intro ad4 ccs4 hat4 hcc4 hrep4;obtain ⟨v06,rfl,h14⟩:=hrep4;obtain ⟨p6,c6,rfl⟩:=h14.form;refine zB3 0 0 hat4 hcc4 [vS p6 x7 c6] (vS p6 x7 c6) rfl rfl<|bE N fun x8 hy11 N=>nV 0 rfl rfl rfl h8 hy11 ?_;intro ad5 ccs5 hat5 hcc5 hrep5;obtain ⟨v07,rfl,h15⟩:=hrep5;obtain ⟨p7,c7,rfl⟩:=h15.form;obtain ⟨l1,hy12,N⟩:=zB N;refine rG (c:=[vS p6 x7 c6]) (x':=x7) 0 0 rfl rfl rfl hat5 rfl rfl hcc5 (by kernel_rfl) (by kernel_rfl) (by kernel_rfl) h8 hy11 (by kernel_rfl) ⟨_,rfl,h14⟩ ?_;rw [show s3.set k01.toNat x7=l1 from zC hy12];intro cs6 h16 hl01;exact mS (m':=[(0,vS p s3 c),(1,.func (.func 140) ⟨[]⟩ ⟨[]⟩),(5,vI k01),(6,vS p3 l c3),(7,vI k2),(50,vS p s3 c),(51,vI k01),(52,vS p3 l c3),(53,vI k2),(55,vS p6 x7 c6)]) ⟨rfl,rfl,rfl,rfl,rfl,rfl,rfl,rfl,rfl,rfl,trivial⟩<|zAN (hs':=[hO (List Int) (vS p l1 c) cs6]) (m':=[(0,vS p l1 c),(1,.func (.func 140) ⟨[]⟩ ⟨[]⟩),(5,vI k01),(6,vS p3 l c3),(7,vI k2),(50,vS p l1 c),(51,vI k01),(52,vS p3 l c3),(53,vI k2),(55,vS p6 x7 c6)]) (by first | rfl | simp only [vS,hl01,List.nil_append,List.cons_append,List.set_cons_zero,List.set_cons_succ,List.eraseIdx_cons_zero,List.eraseIdx_cons_succ]) (by first | rfl | simp only [vS,hl01])<|yB rfl<|zI<|zK<|yI [] [5] rfl<|T_w [(0,vS p l1 c),(1,.func (.func 140) ⟨[]⟩ ⟨[]⟩),(5,vI (W (k01 + 1))),(6,vS p3 l c3),(7,vI k2)]<|zT ⟨_,_,_,(zC N).symm,H,h16,rfl,rfl⟩
     intro hc4 N;exact zS<|T_w [(0,vS p s3 c),(1,.func (.func 140) ⟨[]⟩ ⟨[]⟩),(5,vI k01),(6,vS p3 l c3),(7,vI k2)]<|zT ⟨_,_,_,(zC N).symm,H,h8,rfl,rfl⟩
   rintro I05 hs2 m2 ⟨s5,k03,cs5,heq,le5,h13,rfl,rfl⟩;subst o0;have ⟨h7,H⟩:=m2 le5 h7 H;exact zO<|zI<|zK<|yI [] [7] rfl<|yO<|qW [(0,vS p s5 c),(1,.func (.func 140) ⟨[]⟩ ⟨[]⟩),(5,vI k03),(6,vS p3 l c3),(7,vI (W (k2 + 1)))]<|ih s5 k03 (W (k2 + 1)) _ hMc H h7 h13 hg ho hx
 intro hc3 N;exact wJ<|T_w [(0,vS p s3 c),(5,vI k01)]<|hx _ _ _ _ (zC N).symm H h8
def xS (s1:List (List Int)) (k0:Int):Option (Out (List (List Int)) ((List (List Int)))):=do
 if (decide (k0 < (s1.length:Int))) then
  let x←idx s1 k0
  let x1←idx s1 (W (k0 - 1))
  let y←rE x x1
  if y then
   let l←slc s1 k0 (s1.length:Int)
   let (s4,k02)←xR k0 l s1 k0 1
   let l2←clrL s4 k02 ([]:List Int)
   let l3←slc l2 0 k02
   pure (.ret l3)
  else
   xS s1 (W (k0 + 1))
 else
  pure (.done s1)
 partial_fixpoint
theorem eM (s1:List (List Int)):∀ (k0:Int) (o:Out (List (List Int)) ((List (List Int)))),xS s1 k0=some o→∀ {B}{I0 I:Imm}{Q p c cs1},I0.le I→(RL I cs1 s1)→NG Q→NO Q→(∀ (I':Imm) (s2:List (List Int)) (cs2:List Value),o=(.done s2)→I0.le I'→(RL I' cs2 s2)→T 66 B Q (.exit 0) I' [hO (List Int) (vS p s2 c) cs2] [(0,vS p s2 c)])→(∀ r I' hs' m',o=(.ret r)→I0.le I'→RS Tryz.prog Tryz.f139 B (wC  r) I' hs' m'→T 66 B Q .ret I' hs' m')→J Tryz.prog 66 B (nav (bodyOf Tryz.f139) [1,1,0,1,0]) Q I [hO (List Int) (vS p s1 c) cs1] [(0,vS p s1 c),(1,.func (.func 140) ⟨[]⟩ ⟨[]⟩),(5,vI k0)]:=by
 refine xS.partial_correctness s1 _ fun self ih k0 o N B I0 I Q p c cs1 H h2 hg ho hx hr=>yQ hg ho<|zZ<|yF [15] rfl<|zI<|yC N ?_ ?_
 · intro hc1 N;refine zS<|zY<|yG<|zZ ?_;obtain ⟨x,hy,N⟩:=zB N;obtain ⟨x1,hy1,N⟩:=zB N;obtain ⟨y,hy2,N⟩:=zB N;refine wK [.p (.func (.func 140) ⟨[]⟩ ⟨[]⟩) [],.p (vS p s1 c) [],.p (vI k0) [],.x (fun I' v hx=>∃ ad p1 c1,v=.pointer (some ad)∧hx=[]∧(AtO (vS p s1 c) (Rp.sz (List Int)) k0.toNat ad)∧((cs1.drop (k0.toNat * Rp.sz (List Int))).take (Rp.sz (List Int))=[vS p1 x c1])∧(S4 I' p1 x c1)),.x (eS x),.p (vS p s1 c) [],.p (vI k0) [],.p (vI (W (k0 - 1))) [],.x (fun I' v hx=>∃ ad1 p2 c2,v=.pointer (some ad1)∧hx=[]∧(AtO (vS p s1 c) (Rp.sz (List Int)) (W (k0 - 1)).toNat ad1)∧((cs1.drop ((W (k0 - 1)).toNat * Rp.sz (List Int))).take (Rp.sz (List Int))=[vS p2 x1 c2])∧(S4 I' p2 x1 c2)),.x (eS x1),.q (.bool y)] [[],[],[],[(1,false),(2,false)],[(3,false)],[],[],[(6,false)],[(5,false),(7,false)],[(8,false)],[(0,false),(4,false),(9,false)]] [hO (List Int) (vS p s1 c) cs1] [] [(10,false)] (zX [0]) ?_ ?_
   · refine Op<|Op<|Op<|Ox ?_<|Ox ?_<|Op<|Op<|Op<|Ox ?_<|Ox ?_<|Oq ?_<|On
     · intro I1 hf le1;refine yR [19,20] rfl ?_;have h2:=iM le1 h2;refine nV 0 rfl rfl rfl h2 hy ?_;intro ad ccs hat hcc hrep;obtain ⟨v0,rfl,h4⟩:=hrep;obtain ⟨p1,c1,rfl⟩:=h4.form;exact yK [] iR ⟨_,_,_,rfl,rfl,hat,hcc,h4⟩
     · rintro I1 hf le1 _ _ ⟨ad,p1,c1,rfl,rfl,hat,hcc,h4⟩;exact yR [21] rfl<|zB3 0 0 hat hcc [vS p1 x c1] (vS p1 x c1) rfl rfl<|yK [] iR ⟨_,_,rfl,rfl,h4⟩
     · intro I1 hf le1;refine yR [23,25] rfl ?_;have h2:=iM le1 h2;refine nV 0 rfl rfl rfl h2 hy1 ?_;intro ad1 ccs1 hat1 hcc1 hrep1;obtain ⟨v01,rfl,h5⟩:=hrep1;obtain ⟨p2,c2,rfl⟩:=h5.form;exact yK [] iR ⟨_,_,_,rfl,rfl,hat1,hcc1,h5⟩
     · rintro I1 hf le1 _ _ ⟨ad1,p2,c2,rfl,rfl,hat1,hcc1,h5⟩;exact yR [26] rfl<|zB3 0 0 hat1 hcc1 [vS p2 x1 c2] (vS p2 x1 c2) rfl rfl<|yK [] iR ⟨_,_,rfl,rfl,h5⟩
     rintro I1 hf le1 _ _ ⟨rfl,rfl⟩ _ _ ⟨p11,c11,rfl,rfl,h41⟩ _ _ ⟨p21,c21,rfl,rfl,h51⟩;refine yR [18,22,27] rfl ?_;have H:=iS I1;refine uH (fW x x1 _ hy2 h41 h51) ?_;intro I01 le1;have H:=H.trans le1;exact xE H
   intro I02 le2;refine yR [0,1,5,28] rfl ?_;have ⟨h2,H⟩:=m2 le2 h2 H;refine yB rfl<|zI<|yC N ?_ ?_
   · intro hc2 N;refine yD<|yE 2 [] [29,30] rfl<|bE N fun l hy3 N=>zOZ 0 rfl rfl h2 hy3 fun p3 c3 h7=>yI [] [6] rfl<|zY<|yF [7] rfl<|xW<|qW [(0,vS p s1 c),(1,.func (.func 140) ⟨[]⟩ ⟨[]⟩),(5,vI k0),(6,vS p3 l c3),(7,vI 1)] ?_;obtain ⟨o01,ho01,hMl⟩:=zB N;refine eK k0 l s1 k0 1 o01 ho01 iR h7 h2 (fun _ _ _ h=>hg _ _ _ h) (fun _ _ h=>ho _ _ h) ?_;intro I06 s4 k02 cs4 heq1 le6 h9;subst o01;have H:=H.trans le6;refine zR<|yX<|yE 2 [] [59,60] rfl ?_;obtain ⟨l2,hy13,N⟩:=zB hMl;refine zOY ([]:List Int) [z0] 0 rfl rfl rfl rfl h9 hy13 ⟨_,rfl,(SL.nil _)⟩ fun cs7 v08 h17 hl02=>mS (m':=[(0,vS p s4 c),(5,vI k02),(59,vS p s4 c),(60,vI k02)]) ⟨rfl,rfl,rfl,rfl,trivial⟩<|zAN (hs':=[hO (List Int) (vS p l2 c) cs7]) (m':=[(0,vS p l2 c),(5,vI k02),(59,vS p l2 c),(60,vI k02)]) (by first | rfl | simp only [vS,hl02,List.nil_append,List.cons_append,List.set_cons_zero,List.set_cons_succ,List.eraseIdx_cons_zero,List.eraseIdx_cons_succ]) (by first | rfl | simp only [vS,hl02])<|yB rfl<|yX<|yE 2 [] [62,63] rfl<|bE N fun l3 hy14 N=>zKw 0 rfl rfl rfl rfl rfl (by kernel_rfl) rfl rfl h17 hy14 ?_;rintro p8 c8 cs8 - h18;refine vK (hs':=[hO (List Int) (vS p8 l3 c8) cs8]) rfl<|yI [] [4] rfl<|xG<|zV<|zG<|zG<|yV 0 rfl ?_;intro I07 le7 hl03;have h19:=SL.of_frozen hl03 le7 h18;have H:=H.trans le7;exact hr _ _ _ _ (zC N).symm H ⟨_,_,(.tmp rfl ResV.nil),zQ,⟨_,rfl,rfl,h19⟩⟩
   intro hc2 N;exact zS<|zO<|zI<|zK<|yI [] [5] rfl<|yO<|qW [(0,vS p s1 c),(1,.func (.func 140) ⟨[]⟩ ⟨[]⟩),(5,vI (W (k0 + 1)))]<|ih (W (k0 + 1)) _ N H h2 hg ho hx hr
 intro hc1 N;exact wJ<|T_w [(0,vS p s1 c)]<|hx _ _ _ (zC N).symm H h2
def uA (s:(List (List Int))):Option ((List (List Int))):=do
 if (decide ((s.length:Int) < 2)) then
  pure (id s)
 else
  match←xS s 1 with
  | .ret r0=>pure r0
  | .done s2 =>
   pure (id s2)
theorem dQ:∀ s r,uA s=some r→∀ {I:Imm}{p c cs},(RL I cs s)→RT 139 [vS p s c,.func (.func 140) ⟨[]⟩ ⟨[]⟩] I [hO (List Int) (vS p s c) cs] (wC  r):=by
 intro s r N I p c cs h;unfold uA at N;refine yL Tryz.func139 fun B=>vJ []<|zY<|yF [10] rfl<|zI<|yC N ?_ ?_
 · intro hc N;refine yF [4] rfl<|xG<|zG<|yV 0 rfl ?_;intro I0 le hl0;have h1:=SL.of_frozen hl0 le h;obtain rfl:=zC N;exact xA ⟨_,_,(.tmp rfl ResV.nil),zQ,⟨_,rfl,rfl,h1⟩⟩
 intro hc N;refine zS<|zY<|yF [5] rfl<|xW<|qW [(0,vS p s c),(1,.func (.func 140) ⟨[]⟩ ⟨[]⟩),(5,vI 1)] ?_;obtain ⟨o02,ho02,hMl1⟩:=zB N;refine eM s 1 o02 ho02 iR h (fun _ _ _ h=>h) (fun _ _ h=>h) ?_ ?_
 · intro I08 s2 cs2 heq2 le8 h3;subst o02;refine zR<|wH [4] rfl<|xG<|yV 0 rfl ?_;intro I09 le9 hl04;have h20:=SL.of_frozen hl04 le9 h3;obtain rfl:=zC hMl1;exact xA ⟨_,_,(.tmp rfl ResV.nil),zQ,⟨_,rfl,rfl,h20⟩⟩
 intro r0 I9 hs9 m9 heq9 le9 hrs9;subst heq9;refine zV<|zG ?_;obtain rfl:=zC hMl1;exact xA hrs9
def vO (x1:zL) (x2:zL) (by0:List Int) (t48:Int):Option (List Int):=do
 if (decide (t48 < (x2.Point.length:Int))) then
  let x3←idx x2.Point t48
  let x4←idx x1.Point t48
  let by02←app 8 by0 ([(W (x3 - x4))]:List Int)
  vO x1 x2 by02 (W (t48 + 1))
 else
  pure (id by0)
 partial_fixpoint
theorem zAI (x1:zL) (x2:zL):∀ (by0:List Int) (t48:Int) (o:List Int),vO x1 x2 by0 t48=some o→∀ {B}{I0 I:Imm}{Q}{t:vQ}{part:Int}{y:(List yH)}{out:List (List Int)}{t15:Int}{ad:Addr}{p c p1 c1 p2 c2 p3 c3 p4 c4 p5 c5 p6 c6 cs p91 c91}{b2:Nat}{b11:Nat}{p811 c811 p10 c10 cs2},I0.le I→(S4 I p t.Program.Arrays c)→(S4 I p1 t.Program.Parts c1)→(S4 I p2 t.list c2)→(S4 I p3 t.reads c3)→(S4 I p4 t.writes c4)→(At I ad [vS p t.Program.Arrays c,vS p1 t.Program.Parts c1,vS p2 t.list c2,vS p3 t.reads c3,vS p4 t.writes c4])→(RL I cs out)→(S4 I p5 y c5)→(S4 I p811 x1.Point c811)→(S4 I p91 x2.Point c91)→(RL I cs2 by0)→NG Q→NO Q→(∀ (I':Imm) (by01:List Int) (p11:Option Addr) (c11:Nat) (cs3:List Value),o=by01→I0.le I'→(RL I' cs3 by01)→T 75 B Q (.exit 2) I' [hO Int (vS p11 by01 c11) cs3,hO (List Int) (vS p6 out c6) cs] [(0,.pointer (some ad)),(1,vI part),(5,vS p6 out c6),(10,vS p11 by01 c11),(13,vS p5 y c5),(14,vI (y.length:Int)),(15,vI t15)])→J Tryz.prog 75 B (nav (bodyOf Tryz.f80) [1,1,0,1,0,0,1,1,0,0,1,1,1,1,0,1,0]) Q I [hO Int (vS p10 by0 c10) cs2,hB b11 (cInst x1 p811 c811),hB b2 (cInst x2 p91 c91),hO (List Int) (vS p6 out c6) cs] [(0,.pointer (some ad)),(1,vI part),(5,vS p6 out c6),(8,vP b11 0),(9,vP b2 0),(10,vS p10 by0 c10),(13,vS p5 y c5),(14,vI (y.length:Int)),(15,vI t15),(47,vI (x2.Point.length:Int)),(48,vI t48)]:=by
 refine vO.partial_correctness x1 x2 _ fun self ih by0 t48 o N B I0 I Q t part y out t15 ad p c p1 c1 p2 c2 p3 c3 p4 c4 p5 c5 p6 c6 cs p91 c91 b2 b11 p811 c811 p10 c10 cs2 H h h1 h2 h3 h4 hat h7 h5 h911 h101 h12 hg ho hx=>yQ hg ho<|yF [49] rfl<|zY<|yC N ?_ ?_
 · intro hc3 N;refine zS<|zY<|yG<|yF [11] rfl<|zI ?_;obtain ⟨x3,hy4,N⟩:=zB N;obtain ⟨x4,hy5,N⟩:=zB N;obtain ⟨by02,hy6,N⟩:=zB N;refine wK [.p (vS p10 by0 c10) [],.p (vP b2 2) [],.p (vS p91 x2.Point c91) [1],.p (vI t48) [],.x (fun I' v hx=>∃ ad4,v=.pointer (some ad4)∧hx=[]∧(At I' ad4 [vI x3])),.q (vI x3),.p (vP b11 2) [],.p (vS p811 x1.Point c811) [0],.p (vI t48) [],.x (fun I' v hx=>∃ ad5,v=.pointer (some ad5)∧hx=[]∧(At I' ad5 [vI x4])),.q (vI x4),.p (vI (W (x3 - x4))) [],.x (fun I' v hx=>∃ b3,v=vS (some ⟨b3,0,none⟩) ([(W (x3 - x4))]:List Int) 1∧hx=[]∧(SL I' (vS (some ⟨b3,0,none⟩) ([(W (x3 - x4))]:List Int) 1) ([(W (x3 - x4))]:List Int))),.x (fun I' v hx=>∃ p12 c12 cs4,v=vS p12 by02 c12∧hx=[hO Int (vS p12 by02 c12) cs4]∧(RL I' cs4 by02))] [[],[],[(1,false)],[],[(2,false),(3,false)],[(4,false)],[],[(6,false)],[],[(7,false),(8,false)],[(9,false)],[(5,false),(10,false)],[(11,false)],[(0,false),(12,false),(15,true)]] [hB b11 (cInst x1 p811 c811),hB b2 (cInst x2 p91 c91),hO (List Int) (vS p6 out c6) cs] [[hO Int (vS p10 by0 c10) cs2]] [(13,true)] (zX [1,2,3,0]) ?_ ?_
   · refine Op<|Op<|Op<|Op<|Ox ?_<|Oq ?_<|Op<|Op<|Op<|Ox ?_<|Oq ?_<|Op<|Ox ?_<|Ox ?_<|On
     · intro I1 hf le1;refine yR [53,54] rfl ?_;have h101:=h101.mono le1;refine xK rfl rfl h101 hy4 ?_;intro ad4 ccs3 hat4 hrep3;obtain rfl:=hrep3;exact yK [] iR ⟨_,rfl,rfl,hat4⟩
     · rintro I1 hf le1 _ _ ⟨ad4,rfl,rfl,hat4⟩;exact yR [55] rfl<|xF 0 hat4 [vI x3] (vI x3) rfl<|xE iR
     · intro I1 hf le1;refine yR [58,59] rfl ?_;have h911:=h911.mono le1;refine xK rfl rfl h911 hy5 ?_;intro ad5 ccs4 hat5 hrep4;obtain rfl:=hrep4;exact yK [] iR ⟨_,rfl,rfl,hat5⟩
     · rintro I1 hf le1 _ _ ⟨ad5,rfl,rfl,hat5⟩;exact yR [60] rfl<|xF 0 hat5 [vI x4] (vI x4) rfl<|xE iR
     · intro I1 hf le1;refine yR [62] rfl ?_;have H:=iS I1;refine nH (rI [(W (x3 - x4))]) ?_;intro b3 I03 le3 h15;have H:=H.trans le3;exact yK [] H ⟨_,rfl,rfl,h15⟩
     rintro I1 hf le1 _ _ ⟨rfl,rfl⟩ _ _ ⟨b3,rfl,rfl,h15⟩ _ _ rfl;refine yR [51,63] rfl ?_;have h12:=iM le1 h12;obtain ⟨ccs5,k0,k01⟩:=h15;have h15:SL I1 (vS (some ⟨b3,0,none⟩) ([(W (x3 - x4))]:List Int) 1) ([(W (x3 - x4))]:List Int):=⟨_,k0,k01⟩;exact rX 3 1 0 rfl rfl rfl h12 (.inl k0) k01 hy6 fun p12 c12 cs4 h16=>vK (hs':=(hO Int (vS p12 by02 c12) cs4::hB b11 (cInst x1 p811 c811)::hB b2 (cInst x2 p91 c91)::hO (List Int) (vS p6 out c6) cs::hf)) rfl<|yK [hO Int (vS p12 by02 c12) cs4] iR ⟨_,_,_,rfl,rfl,h16⟩
   rintro I04 le4 _ _ ⟨p12,c12,cs4,rfl,rfl,h16⟩;refine yR [0,1,5,8,9,13,14,15,47,48,64] rfl ?_;have ⟨h,h1,h2,h3,h4,hat⟩:=m6 le4 h h1 h2 h3 h4 hat;have ⟨h7,h5,h911,h101,H⟩:=m5 le4 h7 h5 h911 h101 H;exact yI [] [10] rfl<|zO<|zI<|zK<|yI [] [48] rfl<|yO<|nF<|ih by02 (W (t48 + 1)) _ N H h h1 h2 h3 h4 hat h7 h5 h911 h101 h16 hg ho hx
 intro hc3 N;exact wJ<|xY (zW [0,3] rfl (by decide))<|yN<|hx _ _ _ _ _ (zC N).symm H h12
def xX (t:vQ) (part:Int) (y:(List yH)) (out:List (List Int)) (t15:Int):Option (List (List Int)):=do
 if (decide (t15 < (y.length:Int))) then
  let x←idx y t15
  let x1←idx t.list x.From
  let x2←idx t.list x.To
  let t44←(do
    if (x1.Part != part) then
     pure true
    else
     pure (x2.Part != part)
      : Option Bool)
  if t44 then
   xX t part y out (W (t15 + 1))
  else
   let by01←vO x1 x2 ([]:List Int) 0
   let out2←app 24 out ([by01]:List (List Int))
   xX t part y out2 (W (t15 + 1))
 else
  pure (id out)
 partial_fixpoint
theorem zAJ (t:vQ) (part:Int) (y:(List yH)):∀ (out:List (List Int)) (t15:Int) (o:List (List Int)),xX t part y out t15=some o→∀ {B}{I0 I:Imm}{Q}  {ad:Addr}{p c p1 c1 p2 c2 p3 c3 p4 c4 p5 c5 p6 c6 cs},I0.le I→(S4 I p t.Program.Arrays c)→(S4 I p1 t.Program.Parts c1)→(S4 I p2 t.list c2)→(S4 I p3 t.reads c3)→(S4 I p4 t.writes c4)→(At I ad [vS p t.Program.Arrays c,vS p1 t.Program.Parts c1,vS p2 t.list c2,vS p3 t.reads c3,vS p4 t.writes c4])→(S4 I p5 y c5)→(RL I cs out)→NG Q→NO Q→(∀ (I':Imm) (out1:List (List Int)) (p7:Option Addr) (c7:Nat) (cs1:List Value),o=out1→I0.le I'→(RL I' cs1 out1)→T 75 B Q (.exit 0) I' [hO (List Int) (vS p7 out1 c7) cs1] [(5,vS p7 out1 c7)])→J Tryz.prog 75 B (nav (bodyOf Tryz.f80) [1,1,0,1,0]) Q I [hO (List Int) (vS p6 out c6) cs] [(0,.pointer (some ad)),(1,vI part),(5,vS p6 out c6),(13,vS p5 y c5),(14,vI (y.length:Int)),(15,vI t15)]:=by
 refine xX.partial_correctness t part y _ fun self ih out t15 o N B I0 I Q ad p c p1 c1 p2 c2 p3 c3 p4 c4 p5 c5 p6 c6 cs H h h1 h2 h3 h4 hat h5 h7 hg ho hx=>yQ hg ho<|yF [16] rfl<|zY<|yC N ?_ ?_
 · intro hc N;refine zS<|zY<|yG<|yD<|bE N fun x hy1 N=>xK rfl rfl h5 hy1 ?_;intro ad1 ccs hat1 hrep;obtain rfl:=zAo hrep;refine xF 0 hat1 [vI x.From,vI x.To,vI x.Kinds] (vA [vI x.From,vI x.To,vI x.Kinds]) rfl<|wY [vI 0,vI 0,vI 0] ?_;intro b hb;refine xJ 0 [vI x.From,vI x.To,vI x.Kinds] rfl<|yB rfl<|zI<|zZ ?_;obtain ⟨x1,hy2,N⟩:=zB N;obtain ⟨x2,hy3,N⟩:=zB N;refine wK [.p (.pointer (some ad)) [],.p (.pointer (some ad)) [],.p (.pointer (some (ad.add 2))) [],.q (vS p2 t.list c2),.p (vP b 0) [],.p (vI x.From) [0],.x (ePInst x1),.x (eVInst x1),.p (.pointer (some ad)) [],.p (.pointer (some ad)) [],.p (.pointer (some (ad.add 2))) [],.q (vS p2 t.list c2),.p (vP b 1) [],.p (vI x.To) [0],.x (ePInst x2),.x (eVInst x2),.x (fun I' v hx=>∃ b1,v=vP b1 0∧hx=[hB b1 [vI 0,vI 0,z0]]),.x (fun I' v hx=>∃ b2,v=vP b2 0∧hx=[hB b2 [vI 0,vI 0,z0]]),.x (fun I' v hx=>∃ b11 p811 c811,v=vP b11 0∧hx=[hB b11 (cInst x1 p811 c811)]∧(S4 I' p811 x1.Point c811))] [[],[(0,false)],[(1,false)],[(2,false)],[],[(4,false)],[(3,false),(5,false)],[(6,false)],[],[(8,false)],[(9,false)],[(10,false)],[],[(12,false)],[(11,false),(13,false)],[(14,false)],[],[],[(7,false),(16,true)]] [hB b [vI x.From,vI x.To,vI x.Kinds],hO (List Int) (vS p6 out c6) cs] [] [(15,false),(17,true),(18,true)] (zX [0,1]) ?_ ?_
   · refine Op<|Op<|Op<|Oq ?_<|Op<|Op<|Ox ?_<|Ox ?_<|Op<|Op<|Op<|Oq ?_<|Op<|Op<|Ox ?_<|Ox ?_<|Ox ?_<|Ox ?_<|Ox ?_<|On
     · intro I1 hf le1;refine yR [21] rfl ?_;have hat:=hat.mono le1;exact xF 2 hat [vS p2 t.list c2] (vS p2 t.list c2) rfl<|xE iR
     · intro I1 hf le1;refine yR [22,24] rfl ?_;have h2:=h2.mono le1;refine xK rfl rfl h2 hy2 ?_;intro ad2 ccs1 hat2 hrep1;obtain ⟨p8,c8,rfl,h9⟩:=qS hrep1;exact yK [] iR ⟨_,_,_,rfl,rfl,hat2,h9⟩
     · rintro I1 hf le1 _ _ ⟨ad2,p8,c8,rfl,rfl,hat2,h9⟩;exact yR [25] rfl<|xF 0 hat2 (cInst x1 p8 c8) (vA (cInst x1 p8 c8)) rfl<|yK [] iR ⟨_,_,rfl,rfl,h9⟩
     · intro I1 hf le1;refine yR [29] rfl ?_;have hat:=hat.mono le1;exact xF 2 hat [vS p2 t.list c2] (vS p2 t.list c2) rfl<|xE iR
     · intro I1 hf le1;refine yR [30,32] rfl ?_;have h2:=h2.mono le1;refine xK rfl rfl h2 hy3 ?_;intro ad3 ccs2 hat3 hrep2;obtain ⟨p9,c9,rfl,h10⟩:=qS hrep2;exact yK [] iR ⟨_,_,_,rfl,rfl,hat3,h10⟩
     · rintro I1 hf le1 _ _ ⟨ad3,p9,c9,rfl,rfl,hat3,h10⟩;exact yR [33] rfl<|xF 0 hat3 (cInst x2 p9 c9) (vA (cInst x2 p9 c9)) rfl<|yK [] iR ⟨_,_,rfl,rfl,h10⟩
     · intro I1 hf le1;refine I_h []<|wY [vI 0,vI 0,z0] ?_;intro b1 hb1;exact yK [hB b1 [vI 0,vI 0,z0]] iR ⟨_,rfl,rfl⟩
     · intro I1 hf le1;refine I_h []<|wY [vI 0,vI 0,z0] ?_;intro b2 hb2;exact yK [hB b2 [vI 0,vI 0,z0]] iR ⟨_,rfl,rfl⟩
     rintro I1 hf le1 _ _ ⟨p81,c81,rfl,rfl,h91⟩ _ _ ⟨b1,rfl,rfl⟩;exact yR [8,26] rfl<|zB4 0 (cInst x1 p81 c81) (hB b1 (cInst x1 p81 c81)::hB b [vI x.From,vI x.To,vI x.Kinds]::hO (List Int) (vS p6 out c6) cs::hf) rfl rfl rfl rfl<|yK [hB b1 (cInst x1 p81 c81)] iR ⟨_,_,_,rfl,rfl,h91⟩
   rintro I01 le1 _ _ ⟨p91,c91,rfl,rfl,h101⟩ _ _ ⟨b2,rfl,rfl⟩ _ _ ⟨b11,p811,c811,rfl,rfl,h911⟩;refine yR [0,1,5,8,9,13,14,15,34] rfl ?_;have ⟨h,h1,h2,h3,h4,hat⟩:=m6 le1 h h1 h2 h3 h4 hat;have ⟨h7,h5,H⟩:=m3 le1 h7 h5 H;refine xJ 1 (cInst x2 p91 c91) rfl<|yB rfl<|zY<|zZ ?_;refine wT N [hB b11 (cInst x1 p811 c811),hB b2 (cInst x2 p91 c91),hO (List Int) (vS p6 out c6) cs] (fun t44=>[(0,.pointer (some ad)),(1,vI part),(5,vS p6 out c6),(8,vP b11 0),(9,vP b2 0),(13,vS p5 y c5),(14,vI (y.length:Int)),(15,vI t15),(44,.bool t44)]) (fun o0 ho0=>?_) ?_
   · have H:=iS I01;refine zK<|yE 5 [0] [39] rfl<|xZ [39] ho0 ?_ ?_
     · intro hc1 N;exact wI [] [(44,vY)]<|xY (zW [0,1,3] rfl (by decide))<|yN<|zT (ct N H)
     intro hc1 N;exact yI [1] [44] rfl<|xY (zW [0,1,3] rfl (by decide))<|yN<|zT (ct N H)
   intro t44 I02 le2 hMc;have ⟨h,h1,h2,h3,h4,hat⟩:=m6 le2 h h1 h2 h3 h4 hat;have ⟨h7,h5,h911,h101,H⟩:=m5 le2 h7 h5 h911 h101 H;refine zI<|yC hMc ?_ ?_
   · intro hc2 N;exact zEr<|jK<|zR<|zI<|zK<|yI [] [15] rfl<|yO<|jG (zW [2] rfl (by decide))<|nF<|ih out (W (t15 + 1)) _ N H h h1 h2 h3 h4 hat h5 h7 hg ho hx
   intro hc2 N;refine zS<|zFr [(10,z0)]<|zY<|yD<|yI [1] [47,48] rfl<|xW<|qW [(0,.pointer (some ad)),(1,vI part),(5,vS p6 out c6),(8,vP b11 0),(9,vP b2 0),(10,z0),(13,vS p5 y c5),(14,vI (y.length:Int)),(15,vI t15),(47,vI (x2.Point.length:Int)),(48,vI 0)]<|dR Int fun h11=>?_;obtain ⟨o01,ho01,hMl⟩:=zB N;refine zAI x1 x2 ([]:List Int) 0 o01 ho01 iR h h1 h2 h3 h4 hat h7 h5 h911 h101 h11 (fun _ _ _ h=>hg _ _ _ h) (fun _ _ h=>ho _ _ h) ?_;intro I05 by01 p11 c11 cs3 heq1 le5 h13;subst o01;have ⟨h,h1,h2,h3,h4,hat⟩:=m6 le5 h h1 h2 h3 h4 hat;have ⟨h7,h5,H⟩:=m3 le5 h7 h5 H;refine zR<|zI<|zK<|yE 2 [] [66,67] rfl<|xO 0 rfl ?_;intro I06 le6 hl01;have h17:=SL.of_frozen hl01 le6 h13;have ⟨h,h1,h2,h3,h4,hat⟩:=m6 le6 h h1 h2 h3 h4 hat;have ⟨h5,h7,H⟩:=m3 le6 h5 h7 H;refine uN [vS p11 by01 c11] (List Int) ?_;intro b4 hb4;have h18:RL I06 [vS p11 by01 c11] ([by01]:List (List Int)):=⟨[vS p11 by01 c11],_,rfl,rfl,⟨_,rfl,h17⟩,rfl⟩;obtain ⟨out2,hy7,N⟩:=zB hMl;exact rX 29 1 1 rfl rfl rfl h7 (.inr ⟨0,rfl⟩) h18 hy7 fun p13 c13 cs5 h19=>sK (zX [1] (hs':=[hO (List Int) (vS p13 out2 c13) cs5]))<|yI [] [5] rfl<|zO<|zI<|zK<|yI [] [15] rfl<|yO<|nF<|ih out2 (W (t15 + 1)) _ N H h h1 h2 h3 h4 hat h5 h19 hg ho hx
 intro hc N;exact wJ<|yN<|hx _ _ _ _ _ (zC N).symm H h7
def qU (t:vQ) (part:Int):Option ((List (List Int))):=do
 let y←mF t
 let out1←xX t part y ([]:List (List Int)) 0
 let y1←rF out1
 let y2←uA y1
 pure (id y2)
theorem zAu:∀ t part r,qU t part=some r→∀ {I:Imm}{ad:Addr}{p c p1 c1 p2 c2 p3 c3 p4 c4},(S4 I p t.Program.Arrays c)→(S4 I p1 t.Program.Parts c1)→(S4 I p2 t.list c2)→(S4 I p3 t.reads c3)→(S4 I p4 t.writes c4)→(At I ad [vS p t.Program.Arrays c,vS p1 t.Program.Parts c1,vS p2 t.list c2,vS p3 t.reads c3,vS p4 t.writes c4])→RT 80 [.pointer (some ad),vI part] I [] (wC  r):=by
 intro t part r N I ad p c p1 c1 p2 c2 p3 c3 p4 c4 h h1 h2 h3 h4 hat;unfold qU at N;refine yL Tryz.func80 fun B=>vJ []<|zFr [(5,z0)]<|zY<|yD<|yE 1 [] [12] rfl<|bE N fun y hy N=>xP (zDB t _ hy h h1 h2 h3 h4 hat) ?_;rintro I0 hs2 v2 k2 le - ⟨v0,rfl,rfl,h5⟩ -;have ⟨h,h1,h2,h3,h4,hat⟩:=m6 le h h1 h2 h3 h4 hat;obtain ⟨p5,c5,rfl⟩:=h5.form;refine yI [] [14,15] rfl<|xW<|qW [(0,.pointer (some ad)),(1,vI part),(5,z0),(13,vS p5 y c5),(14,vI (y.length:Int)),(15,vI 0)]<|dR (List Int) fun h6=>?_;obtain ⟨o02,ho02,hMl1⟩:=zB N;refine zAJ t part y ([]:List (List Int)) 0 o02 ho02 iR h h1 h2 h3 h4 hat h5 h6 (fun _ _ _ h=>h) (fun _ _ h=>h) ?_;intro I07 out1 p7 c7 cs1 heq2 le7 h8;subst o02;refine zR<|yX<|yE 1 [] [71] rfl ?_;obtain ⟨y1,hy8,N⟩:=zB hMl1;refine sJ (zAY out1 _ hy8 h8) rfl ?_;rintro I08 hs2 v2 k2 le8 - ⟨cs6,rfl,rfl,hl02,h20⟩ -;refine mS (m':=[(5,vS p7 out1 c7),(72,.tuple ⟨[]⟩)]) ⟨rfl,rfl,trivial⟩<|zAN (hs':=[hO (List Int) (vS p7 y1 c7) cs6]) (m':=[(5,vS p7 y1 c7),(72,.tuple ⟨[]⟩)]) rfl (by first | rfl | simp only [vS,hl02])<|yB rfl<|yX<|yE 1 [] [73] rfl<|bE N fun y2 hy9 N=>sJ (dQ y1 _ hy9 h20) rfl ?_;rintro I09 hs2 v2 k2 le9 - ⟨v03,rfl,rfl,h21⟩ -;obtain ⟨p14,c14,rfl⟩:=h21.form;refine yI [] [4] rfl<|zI<|yW ?_;obtain rfl:=zC N;exact xA ⟨_,_,(.tmp rfl ResV.nil),zQ,⟨_,rfl,rfl,h21⟩⟩
def rQ (n0:Int):Option (Bool):=do
 pure (n0 != 0)
theorem zC6:∀ n0 r,rQ n0=some r→∀ {I:Imm} ,RT 143 [vI n0] I [] (zU  r):=by
 intro n0 r N I;unfold rQ at N;refine yL Tryz.func143 fun B=>vJ []<|wH [2] rfl<|zI<|yW ?_;obtain rfl:=zC N;exact wM
def mZ (d0:(List Int)):Option (Int):=do
 let y←tC d0 rQ
 pure (id y)
theorem zDg:∀ d0 r,mZ d0=some r→∀ {I:Imm}{p c},(S4 I p d0 c)→RT 85 [vS p d0 c] I [] (yM  r):=by
 intro d0 r N I p c h;unfold mZ at N;refine yL Tryz.func85 fun B=>vJ []<|yX<|yE 1 [] [3] rfl ?_;have hf0:FV1 Tryz.prog I [] (.func (.func 143) ⟨[]⟩ ⟨[]⟩) rQ:=by
   refine FV1.intro ?_;intro I1 le1 x0 r u0 hF k0;obtain rfl:=k0;exact (zC6 x0 r hF ).mono (by rintro k i hs u ⟨v0,rfl,rfl,h⟩; exact ⟨rfl,h⟩)
 obtain ⟨y,hy,N⟩:=zB N;refine xP (gG d0 rQ _ hy h hf0) ?_;rintro I0 hs2 v2 k2 le - ⟨v0,rfl,rfl,rfl⟩ -;refine yI [] [2] rfl<|zI<|yW ?_;obtain rfl:=zC N;exact wM
end Go.LN
