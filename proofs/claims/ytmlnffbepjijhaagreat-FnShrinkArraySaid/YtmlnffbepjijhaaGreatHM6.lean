/- Helper of the proof (see the last text). -/
import Derived.Test.YtmlnffbepjijhaaGreatHM5
set_option linter.unusedVariables false
set_option linter.unusedSimpArgs false
namespace Go.LN
open Go.Proofs
set_option maxRecDepth 20000
def jU (a0:zA):Option (Bool):=do
 let t2<-(do
   if ((a0.Coefs.length:Int)==0) then
    pure (a0.Const==0)
   else
    pure false
     : Option Bool)
 pure (id t2)
theorem zCP:∀ a0 r,jU a0=some r->∀ {I:Imm}{p c},(S4 I p a0.Coefs c)->RT 143 [vA (cAff a0 p c)] I [] (zT  r):=by
 intro a0 r N I p c h;unfold jU at N;refine yJ Tryz.func143 fun B=>?_;have H:=iS I;refine yC<|vK (cAff a0 p c) ?_;intro b hb;refine wU [] []<|zK<|yD ?_;refine uB N [] (fun t2=>[(2,.bool t2)]) (fun o0 ho0=>?_) ?_
 · have H:=iS I;refine zM<|yE 5 [0] [7] rfl<|wO [7] ho0 ?_ ?_
   · intro hc N;exact yM [0] [2] rfl<|wG zQ<|yW<|zU (ct N H)
   intro hc N;exact wU [] [(2,vF)]<|wG zQ<|yW<|zU (ct N H)
 intro t2 I0 le hMc;refine zK<|xD ?_;obtain rfl:=zC hMc;exact uE
def nR (a0:zG):Option (Bool):=do
 let t2<-(do
   if (a0.Array.l==([]:List UInt8)) then
    pure ((a0.Subs.length:Int)==0)
   else
    pure false
     : Option Bool)
 pure (id t2)
theorem dU:∀ a0 r,nR a0=some r->∀ {I:Imm}{p c},(S4 I p a0.Subs c)->RT 144 [vA (cAccess a0 p c)] I [] (zT  r):=by
 intro a0 r N I p c h;unfold nR at N;refine yJ Tryz.func144 fun B=>?_;have H:=iS I;refine yC<|vK (cAccess a0 p c) ?_;intro b hb;refine wU [] []<|zK<|yD ?_;refine uB N [] (fun t2=>[(2,.bool t2)]) (fun o0 ho0=>?_) ?_
 · have H:=iS I;refine zM<|yE 4 [0] [6] rfl<|wO [6] ho0 ?_ ?_
   · intro hc N;exact yM [0] [2] rfl<|wG zQ<|yW<|zU (ct N H)
   intro hc N;exact wU [] [(2,vF)]<|wG zQ<|yW<|zU (ct N H)
 intro t2 I0 le hMc;refine zK<|xD ?_;obtain rfl:=zC hMc;exact uE
def zEd (b0:Nat) (r:Bool×Int):KT:=fun kk I' hs' v=>
  ∃ v0 k0,hs'=[.blk b0 ⟨k0⟩]/\v=tupV [v0]/\v0=.bool r.1/\Rp.rep I' k0 r.2
def tY (e0:zH) (depth:Int) (deep:Int) (count:Int):Option (Bool×Int):=do
 let t21<-(do
   if (decide ((W (count+1))>12)) then
    pure true
   else
    pure (decide (deep>5))
     : Option Bool)
 if t21 then
  pure (false,(W (count+1)))
 else
  let t51<-(do
    if (e0.Kind != 1) then
     if (e0.Num != 0) then
      pure true
     else
      if (e0.Kind != 2) then
       let y<-jU e0.Index
       if (!y) then
        pure true
       else
        if (e0.Kind != 3) then
         let y1<-nR e0.Read
         pure (!y1)
        else
         pure false
      else
       if (e0.Kind != 3) then
        let y2<-nR e0.Read
        pure (!y2)
       else
        pure false
    else
     if (e0.Kind != 2) then
      let y3<-jU e0.Index
      if (!y3) then
       pure true
      else
       if (e0.Kind != 3) then
        let y4<-nR e0.Read
        pure (!y4)
       else
        pure false
     else
      if (e0.Kind != 3) then
       let y5<-nR e0.Read
       pure (!y5)
      else
       pure false
      : Option Bool)
  if t51 then
   pure (false,(W (count+1)))
  else
   if (e0.Kind==1) then
    let t8<-(do
      let y6<-vR e0.Num 0 99
      if y6 then
       pure ((e0.Kids.length:Int)==0)
      else
       pure false
        : Option Bool)
    pure (t8,(W (count+1)))
   else
    if (e0.Kind==2) then
     let t81<-(do
       let y7<-oD e0.Index
       if y7 then
        let y8<-pA e0.Index
        if (decide (y8<=depth)) then
         pure ((e0.Kids.length:Int)==0)
        else
         pure false
       else
        pure false
         : Option Bool)
     pure (t81,(W (count+1)))
    else
     if (e0.Kind==3) then
      let t82<-(do
        let y9<-jT e0.Read depth
        if y9 then
         pure ((e0.Kids.length:Int)==0)
        else
         pure false
          : Option Bool)
      pure (t82,(W (count+1)))
     else
      let t99<-(do
        let y10<-zAg e0.Kind
        if (!y10) then
         pure true
        else
         pure ((e0.Kids.length:Int) != 2)
          : Option Bool)
      if t99 then
       pure (false,(W (count+1)))
      else
       let (t83,x)<-(do
         let x1<-idx e0.Kids 0
         let (y12,y13)<-tY (same x1) (same depth) (W (deep+1)) (W (count+1))
         if y12 then
          let x2<-idx e0.Kids 1
          let (y15,y16)<-tY (same x2) (same depth) (W (deep+1)) (same y13)
          pure (y15,y16)
         else
          pure (false,y13)
           : Option (Bool×Int))
       pure (t83,x)
 partial_fixpoint
theorem zGS:∀ e0 depth deep count r,tY e0 depth deep count=some r->∀ {I:Imm}{p c p1 c1 p2 c2}{r0:Nat},(S4 I p e0.Index.Coefs c)->(S4 I p1 e0.Read.Subs c1)->(S4 I p2 e0.Kids c2)->RT 101 [vA (cExpr e0 p c p1 c1 p2 c2),vI depth,vI deep,vP r0 0] I [hB r0 [vI count]] (zEd r0 r):=by
 refine tY.partial_correctness _ fun F_impl_exprScan ih_impl_exprScan e0 depth deep count r N I p c p1 c1 p2 c2 r0 h h1 h2=>yJ Tryz.func101 fun B=>?_;have H:=iS I;refine yC<|vK (cExpr e0 p c p1 c1 p2 c2) ?_;intro b hb;refine wU [] []<|yX<|yE 5 [1] [12,13] rfl<|yZ 1 [vI (W (count+1))] rfl<|zX rfl<|zZ<|yD ?_;refine uB N [hB b (cExpr e0 p c p1 c1 p2 c2),hB r0 [vI (W (count+1))]] (fun t21=>[(1,vI depth),(2,vI deep),(3,vP r0 0),(4,vP b 0),(21,.bool t21)]) (fun o0 ho0=>?_) ?_
 · have H:=iS I;refine zM<|yE 5 [1] [18] rfl<|wO [18] ho0 ?_ ?_
   · intro hc N;exact wU [] [(21,vY)]<|yW<|zU (ct N H)
   intro hc N;exact yM [] [21] rfl<|yW<|zU (ct N H)
 intro t21 I0 le hMc;have ⟨h,h1,h2,H⟩:=m4 le h h1 h2 H;refine zK<|yG hMc ?_ ?_
 · intro hc1 N;refine vM [(8,vF)]<|xI<|zL ?_;obtain rfl:=zC N;exact xC ⟨_,_,(.tmp rfl ResV.nil),(zW [1] rfl (by decide)),⟨_,_,rfl,rfl,rfl,rfl⟩⟩
 intro hc1 N;refine zS<|zZ<|yD ?_;refine uB N [hB b (cExpr e0 p c p1 c1 p2 c2),hB r0 [vI (W (count+1))]] (fun t51=>[(1,vI depth),(2,vI deep),(3,vP r0 0),(4,vP b 0),(51,.bool t51)]) (fun o01 ho01=>?_) ?_
 · have H:=iS I0;refine zM<|yE 4 [0] [25] rfl<|wO [25] ho01 ?_ ?_
   · intro hc2 N;refine yE 9 [0] [30] rfl<|wO [30] N ?_ ?_
     · intro hc3 N;exact wU [] [(51,vY)]<|yW<|zU (ct N H)
     intro hc3 N;refine yE 13 [0] [34] rfl<|wO [34] N ?_ ?_
     · intro hc4 N;refine tZ 15 [0] [(36,vA (cAff e0.Index p c))]<|bE N fun y hy N=>uZ (zCP e0.Index _ hy h) ?_;intro I02 le1;have ⟨h1,H⟩:=m2 le1 h1 H;refine yE 20 [] [41] rfl<|wO [41] N ?_ ?_
       · intro hc5 N;exact wU [] [(51,vY)]<|yW<|zU (ct N H)
       intro hc5 N;refine yE 24 [0] [45] rfl<|wO [45] N ?_ ?_
       · intro hc6 N;refine tZ 26 [0] [(47,vA (cAccess e0.Read p1 c1))]<|bE N fun y1 hy1 N=>uZ (dU e0.Read _ hy1 h1) ?_;intro I03 le2;have H:=H.trans le2;exact yM [] [51] rfl<|yW<|zU (ct N H)
       intro hc6 N;exact wU [] [(51,vF)]<|yW<|zU (ct N H)
     intro hc4 N;refine yE 24 [0] [41,45] rfl<|wO [45] N ?_ ?_
     · intro hc7 N;refine tZ 26 [0] [(47,vA (cAccess e0.Read p1 c1))]<|bE N fun y2 hy2 N=>uZ (dU e0.Read _ hy2 h1) ?_;intro I04 le3;have H:=H.trans le3;exact yM [] [51] rfl<|yW<|zU (ct N H)
     intro hc7 N;exact wU [] [(51,vF)]<|yW<|zU (ct N H)
   intro hc2 N;refine yE 13 [0] [30,34] rfl<|wO [34] N ?_ ?_
   · intro hc8 N;refine tZ 15 [0] [(36,vA (cAff e0.Index p c))]<|bE N fun y3 hy3 N=>uZ (zCP e0.Index _ hy3 h) ?_;intro I05 le4;have ⟨h1,H⟩:=m2 le4 h1 H;refine yE 20 [] [41] rfl<|wO [41] N ?_ ?_
     · intro hc9 N;exact wU [] [(51,vY)]<|yW<|zU (ct N H)
     intro hc9 N;refine yE 24 [0] [45] rfl<|wO [45] N ?_ ?_
     · intro hc10 N;refine tZ 26 [0] [(47,vA (cAccess e0.Read p1 c1))]<|bE N fun y4 hy4 N=>uZ (dU e0.Read _ hy4 h1) ?_;intro I06 le5;have H:=H.trans le5;exact yM [] [51] rfl<|yW<|zU (ct N H)
     intro hc10 N;exact wU [] [(51,vF)]<|yW<|zU (ct N H)
   intro hc8 N;refine yE 24 [0] [41,45] rfl<|wO [45] N ?_ ?_
   · intro hc11 N;refine tZ 26 [0] [(47,vA (cAccess e0.Read p1 c1))]<|bE N fun y5 hy5 N=>uZ (dU e0.Read _ hy5 h1) ?_;intro I07 le6;have H:=H.trans le6;exact yM [] [51] rfl<|yW<|zU (ct N H)
   intro hc11 N;exact wU [] [(51,vF)]<|yW<|zU (ct N H)
 intro t51 I01 le7 hMc1;have ⟨h,h1,h2,H⟩:=m4 le7 h h1 h2 H;refine zK<|yG hMc1 ?_ ?_
 · intro hc12 N;refine vM [(8,vF)]<|xI<|zL ?_;obtain rfl:=zC N;exact xC ⟨_,_,(.tmp rfl ResV.nil),(zW [1] rfl (by decide)),⟨_,_,rfl,rfl,rfl,rfl⟩⟩
 intro hc12 N;refine zS<|zZ<|yF<|yC<|yM [0] [52] rfl<|zK<|yG N ?_ ?_
 · intro hc13 N;refine yD ?_;refine uB N [hB r0 [vI (W (count+1))]] (fun t8=>[(8,.bool t8)]) (fun o02 ho02=>?_) ?_
   · have H:=iS I01;refine zM<|yE 2 [0] [57] rfl ?_;obtain ⟨y6,hy6,N⟩:=zB ho02;refine uZ (uS e0.Num 0 99 _ hy6 ) ?_;intro I09 le8;have H:=H.trans le8;refine yE 4 [] [59] rfl<|wO [59] N ?_ ?_
     · intro hc14 N;exact yM [0] [8] rfl<|wG (zW [1] rfl (by decide))<|yW<|zU (ct N H)
     intro hc14 N;exact wU [] [(8,vF)]<|wG (zW [1] rfl (by decide))<|yW<|zU (ct N H)
   intro t8 I08 le9 hMc2;refine xI<|zV<|zL ?_;obtain rfl:=zC hMc2;exact xC ⟨_,_,(.tmp rfl ResV.nil),(zW [0] rfl (by decide)),⟨_,_,rfl,rfl,rfl,rfl⟩⟩
 intro hc13 N;refine yC<|yM [0] [65] rfl<|zK<|yG N ?_ ?_
 · intro hc15 N;refine yD ?_;refine uB N [hB r0 [vI (W (count+1))]] (fun t81=>[(8,.bool t81)]) (fun o03 ho03=>?_) ?_
   · have H:=iS I01;refine zM<|tZ 2 [0] [(70,vA (cAff e0.Index p c))] ?_;obtain ⟨y7,hy7,N⟩:=zB ho03;refine uZ (kU e0.Index _ hy7 h) ?_;intro I011 le10;have ⟨h,H⟩:=m2 le10 h H;refine yE 4 [] [72] rfl<|wO [72] N ?_ ?_
     · intro hc16 N;refine tZ 6 [0] [(74,vA (cAff e0.Index p c))]<|bE N fun y8 hy8 N=>fB (dG e0.Index _ hy8 h) ?_;intro I012 le11;have H:=H.trans le11;refine yE 11 [] [79] rfl<|wO [79] N ?_ ?_
       · intro hc17 N;exact yM [0] [8] rfl<|wG (zW [1] rfl (by decide))<|yW<|zU (ct N H)
       intro hc17 N;exact wU [] [(8,vF)]<|wG (zW [1] rfl (by decide))<|yW<|zU (ct N H)
     intro hc16 N;exact wU [] [(8,vF)]<|wG (zW [1] rfl (by decide))<|yW<|zU (ct N H)
   intro t81 I010 le12 hMc3;refine xI<|zV<|zL ?_;obtain rfl:=zC hMc3;exact xC ⟨_,_,(.tmp rfl ResV.nil),(zW [0] rfl (by decide)),⟨_,_,rfl,rfl,rfl,rfl⟩⟩
 intro hc15 N;refine yC<|yM [0] [85] rfl<|zK<|yG N ?_ ?_
 · intro hc18 N;refine yD ?_;refine uB N [hB r0 [vI (W (count+1))]] (fun t82=>[(8,.bool t82)]) (fun o04 ho04=>?_) ?_
   · have H:=iS I01;refine zM<|tZ 3 [0] [(90,vA (cAccess e0.Read p1 c1)),(91,vI depth)] ?_;obtain ⟨y9,hy9,N⟩:=zB ho04;refine uZ (zCO e0.Read depth _ hy9 h1) ?_;intro I014 le13;have H:=H.trans le13;refine yE 5 [] [93] rfl<|wO [93] N ?_ ?_
     · intro hc19 N;exact yM [0] [8] rfl<|wG (zW [1] rfl (by decide))<|yW<|zU (ct N H)
     intro hc19 N;exact wU [] [(8,vF)]<|wG (zW [1] rfl (by decide))<|yW<|zU (ct N H)
   intro t82 I013 le14 hMc4;refine xI<|zV<|zL ?_;obtain rfl:=zC hMc4;exact xC ⟨_,_,(.tmp rfl ResV.nil),(zW [0] rfl (by decide)),⟨_,_,rfl,rfl,rfl,rfl⟩⟩
 intro hc18 N;refine yD ?_;refine uB N [hB b (cExpr e0 p c p1 c1 p2 c2),hB r0 [vI (W (count+1))]] (fun t99=>[(1,vI depth),(2,vI deep),(3,vP r0 0),(4,vP b 0),(99,.bool t99)]) (fun o05 ho05=>?_) ?_
 · have H:=iS I01;refine zM<|yE 2 [0] [101] rfl ?_;obtain ⟨y10,hy10,N⟩:=zB ho05;refine uZ (zJF e0.Kind _ hy10 ) ?_;intro I016 le15;have H:=H.trans le15;refine yE 5 [] [104] rfl<|wO [104] N ?_ ?_
   · intro hc20 N;exact wU [] [(99,vY)]<|yW<|zU (ct N H)
   intro hc20 N;exact yM [0] [99] rfl<|yW<|zU (ct N H)
 intro t99 I015 le16 hMc5;have ⟨h2,H⟩:=m2 le16 h2 H;refine zK<|yG hMc5 ?_ ?_
 · intro hc21 N;refine vM [(8,vF)]<|xI<|zV<|zL ?_;obtain rfl:=zC N;exact xC ⟨_,_,(.tmp rfl ResV.nil),(zW [1] rfl (by decide)),⟨_,_,rfl,rfl,rfl,rfl⟩⟩
 intro hc21 N;refine zS<|zO<|zK<|yD ?_;obtain ⟨o06,ho06,hMc6⟩:=zB N;refine nN (fun I' hs' m'=>∃ (t83:Bool) (x:Int),o06=(t83,x)/\I015.le I'/\hs'=[hB r0 [vI x]]/\m'=[(8,.bool t83)]) ?_ ?_
 · have H:=iS I015;refine zM<|yE 2 [0] [111] rfl ?_;obtain ⟨x1,hy11,N⟩:=zB ho06;refine xT rfl rfl h2 hy11 ?_;intro ad ccs hat hrep;obtain ⟨p3,c3,p4,c4,p5,c5,rfl,h14,h15,h16⟩:=wT hrep;refine xO 0 hat (cExpr x1 p3 c3 p4 c4 p5 c5) (vA (cExpr x1 p3 c3 p4 c4 p5 c5)) rfl<|yE 8 [] [114,116,117] rfl<|sW (zY [1,0] (hs':=[hB r0 [vI (W (count+1))],hB b (cExpr e0 p c p1 c1 p2 c2)])) ?_;obtain ⟨⟨y12,y13⟩,hy12,N⟩:=zB N;refine rS (ih_impl_exprScan x1 depth (W (deep+1)) (W (count+1)) _ hy12 h14 h15 h16) rfl ?_;rintro I018 hs2 v2 k2 le17 - ⟨v014,kk,rfl,rfl,rfl,h18⟩ -;have ⟨h2,H⟩:=m2 le17 h2 H;obtain rfl:=h18;refine yE 10 [] [119] rfl<|wO [119] N ?_ ?_
   · intro hc22 N;refine yE 12 [1] [121] rfl<|bE N fun x2 hy13 N=>xT rfl rfl h2 hy13 ?_;intro ad1 ccs1 hat1 hrep1;obtain ⟨p6,c6,p7,c7,p8,c8,rfl,h19,h20,h21⟩:=wT hrep1;refine xO 0 hat1 (cExpr x2 p6 c6 p7 c7 p8 c8) (vA (cExpr x2 p6 c6 p7 c7 p8 c8)) rfl<|yE 18 [] [124,126,127] rfl ?_;obtain ⟨⟨y15,y16⟩,hy14,N⟩:=zB N;refine rS (ih_impl_exprScan x2 depth (W (deep+1)) y13 _ hy14 h19 h20 h21) rfl ?_;rintro I019 hs2 v2 k2 le18 - ⟨v018,kk1,rfl,rfl,rfl,h23⟩ -;have H:=H.trans le18;obtain rfl:=h23;exact yM [] [8] rfl<|wG (zW [0] rfl (by decide))<|yW<|zU ⟨_,_,(zC N).symm,H,rfl,rfl⟩
   intro hc22 N;exact wU [] [(8,vF)]<|wG (zW [0] rfl (by decide))<|yW<|zU ⟨_,_,(zC N).symm,H,rfl,rfl⟩
 rintro I017 hs2 m2 ⟨t83,x,heq6,le19,rfl,rfl⟩;subst o06;refine zK<|xD ?_;obtain rfl:=zC hMc6;exact xC ⟨_,_,(.tmp rfl ResV.nil),(zW [0] rfl (by decide)),⟨_,_,rfl,rfl,rfl,rfl⟩⟩
def fL (s:zJ) (depth:Int):Option (Bool):=do
 let t4<-(do
   let y<-vR depth 0 4
   if y then
    let y1<-jT s.Write depth
    if y1 then
     let (y3,y4)<-tY s.Value depth 1 0
     pure (id y3)
    else
     pure false
   else
    pure false
     : Option Bool)
 pure (id t4)
theorem zFe:∀ s depth r,fL s depth=some r->∀ {I:Imm}{p c p1 c1 p2 c2 p3 c3},(S4 I p s.Write.Subs c)->(S4 I p1 s.Value.Index.Coefs c1)->(S4 I p2 s.Value.Read.Subs c2)->(S4 I p3 s.Value.Kids c3)->RT 61 [vA (cStmt s p c p1 c1 p2 c2 p3 c3),vI depth] I [] (zT  r):=by
 intro s depth r N I p c p1 c1 p2 c2 p3 c3 h h1 h2 h3;unfold fL at N;refine yJ Tryz.func61 fun B=>?_;have H:=iS I;refine yC<|vK (cStmt s p c p1 c1 p2 c2 p3 c3) ?_;intro b hb;refine wU [] []<|yX<|xU [vI 0] ?_;intro b1 hb1;refine yZ 0 [vI 0] rfl<|zX rfl<|zK<|yD ?_;refine uB N [] (fun t4=>[(4,.bool t4)]) (fun o0 ho0=>?_) ?_
 · have H:=iS I;refine zM<|yE 1 [] [6] rfl ?_;obtain ⟨y,hy,N⟩:=zB ho0;refine uZ (uS depth 0 4 _ hy ) ?_;intro I01 le;have ⟨h,h1,h2,h3,H⟩:=m5 le h h1 h2 h3 H;refine yE 3 [] [8] rfl<|wO [8] N ?_ ?_
   · intro hc N;refine tZ 6 [1] [(10,vA (cAccess s.Write p c)),(11,vI depth)]<|bE N fun y1 hy1 N=>uZ (zCO s.Write depth _ hy1 h) ?_;intro I02 le1;have ⟨h1,h2,h3,H⟩:=m4 le1 h1 h2 h3 H;refine yE 9 [] [14] rfl<|wO [14] N ?_ ?_
     · intro hc1 N;refine tZ 12 [1] [(16,vA (cExpr s.Value p1 c1 p2 c2 p3 c3)),(17,vI depth)] ?_;obtain ⟨⟨y3,y4⟩,hy2,N⟩:=zB N;refine rS (zGS s.Value depth 1 0 _ hy2 h1 h2 h3) rfl ?_;rintro I03 hs2 v2 k2 le2 - ⟨v02,kk,rfl,rfl,rfl,h7⟩ -;have H:=H.trans le2;obtain rfl:=h7;exact yM [] [4] rfl<|wG zQ<|yW<|zU (ct N H)
     intro hc1 N;exact wU [] [(4,vF)]<|wG zQ<|yW<|zU (ct N H)
   intro hc N;exact wU [] [(4,vF)]<|wG zQ<|yW<|zU (ct N H)
 intro t4 I0 le3 hMc;refine zK<|xD ?_;obtain rfl:=zC hMc;exact uE
def uT (s:zJ) (x:zI):Option (Bool):=do
 let y<-fL s (x.Nest.length:Int)
 pure (!y)
theorem zAy:∀ s x r,uT s x=some r->∀ {I:Imm}{p c p1 c1 p2 c2 p3 c3}{ad:Addr}{p4 c4 p5 c5},(S4 I p s.Write.Subs c)->(S4 I p1 s.Value.Index.Coefs c1)->(S4 I p2 s.Value.Read.Subs c2)->(S4 I p3 s.Value.Kids c3)->(S4 I p4 x.Nest c4)->(S4 I p5 x.Body c5)->(At I ad (cPart x p4 c4 p5 c5))->RT 60 [vA (cStmt s p c p1 c1 p2 c2 p3 c3),.pointer (some ad)] I [] (zT  r):=by
 intro s x r N I p c p1 c1 p2 c2 p3 c3 ad p4 c4 p5 c5 h h1 h2 h3 h4 h5 hat;unfold uT at N;refine yJ Tryz.func60 fun B=>yC<|vK (cStmt s p c p1 c1 p2 c2 p3 c3) ?_;intro b hb;refine wU [] []<|yX<|tZ 2 [0] [(4,vA (cStmt s p c p1 c1 p2 c2 p3 c3)),(5,.pointer (some ad))]<|xO 0 hat [vS p4 x.Nest c4] (vS p4 x.Nest c4) rfl<|yE 4 [] [7] rfl<|bE N fun y hy N=>uZ (zFe s (x.Nest.length:Int) _ hy h h1 h2 h3) fun I0 le=>wU [] [(3,.bool (!y))]<|zK<|xD ?_;obtain rfl:=zC N;exact uE
def mR (n0:Int):Option (Bool):=do
 let y<-vR n0 (-9999) 9999
 pure (!y)
theorem zFf:∀ n0 r,mR n0=some r->∀ {I:Imm} ,RT 102 [vI n0] I [] (zT  r):=by
 intro n0 r N I;unfold mR at N;refine yJ Tryz.func102 fun B=>vM []<|yX<|yE 1 [] [3] rfl<|bE N fun y hy N=>uZ (uS n0 (-9999) 9999 _ hy ) fun I0 le=>wU [] [(2,.bool (!y))]<|zK<|xD ?_;obtain rfl:=zC N;exact uE
def dH (point:(List Int)):Option (Bool):=do
 let t2<-(do
   if (decide ((point.length:Int)<=4)) then
    let y<-wA point mR
    pure (!y)
   else
    pure false
     : Option Bool)
 pure (id t2)
theorem zGq:∀ point r,dH point=some r->∀ {I:Imm}{p c},(S4 I p point c)->RT 62 [vS p point c] I [] (zT  r):=by
 intro point r N I p c h;unfold dH at N;refine yJ Tryz.func62 fun B=>?_;have H:=iS I;refine vM []<|zK<|yD ?_;refine uB N [] (fun t2=>[(2,.bool t2)]) (fun o0 ho0=>?_) ?_
 · have H:=iS I;refine zM<|yE 4 [] [6] rfl<|wO [6] ho0 ?_ ?_
   · intro hc N;refine yE 5 [] [7] rfl ?_;have hf0:FV1 Tryz.prog I [] (.func (.func 102) ⟨[]⟩ ⟨[]⟩) mR:=by
       refine FV1.intro ?_;intro I1 le1 x0 r u0 hF k0;obtain rfl:=k0;exact (zFf x0 r hF ).mono (by rintro k i hs u ⟨v0,rfl,rfl,h⟩; exact ⟨rfl,h⟩)
     obtain ⟨y,hy,N⟩:=zB N;refine xH (qU point mR _ hy h hf0) ?_;rintro I01 hs2 v2 k2 le - ⟨v0,rfl,rfl,rfl⟩ -;have H:=H.trans le;exact yM [] [2] rfl<|yW<|zU (ct N H)
   intro hc N;exact wU [] [(2,vF)]<|yW<|zU (ct N H)
 intro t2 I0 le1 hMc;refine zK<|xD ?_;obtain rfl:=zC hMc;exact uE
mutual
def gB (e0:zH):Option ((List zG)):=do
 if (e0.Kind==3) then
  pure ([e0.Read]:List zG)
 else
  let out1<-kS (same e0) ([]:List zG) (same 0)
  pure (id out1)
 partial_fixpoint
def kS (e0:zH) (out:List zG) (t15:Int):Option (List zG):=do
 if (decide (t15<(e0.Kids.length:Int))) then
  let x<-idx e0.Kids t15
  let y<-gB (same x)
  let out2<-app 40 out y
  kS (same e0) (same out2) (W (t15+1))
 else
  pure (id out)
 partial_fixpoint
end
theorem zHi:(∀ (e0:zH) r,gB e0=some r->∀ {I:Imm}{p c p1 c1 p2 c2},(S4 I p e0.Index.Coefs c)->(S4 I p1 e0.Read.Subs c1)->(S4 I p2 e0.Kids c2)->RT 30 [vA (cExpr e0 p c p1 c1 p2 c2)] I [] (eM  r))/\(∀ (e0:zH) (out:List zG) (t15:Int) o,kS e0 out t15=some o->∀ {B}{I0 I:Imm}{Q p2 c2 p3 c3 cs},I0.le I->(S4 I p2 e0.Kids c2)->(RL I cs out)->NG Q->NO Q->(∀ (I':Imm) (out1:List zG) (p4:Option Addr) (c4:Nat) (cs1:List Value),o=out1->I0.le I'->(RL I' cs1 out1)->T 25 B Q (.exit 0) I' [hO zG (vS p4 out1 c4) cs1] [(3,vS p4 out1 c4)])->J Tryz.prog 25 B (nav (bodyOf Tryz.f30) [1,1,1,0,1,0]) Q I [hO zG (vS p3 out c3) cs] [(3,vS p3 out c3),(13,vS p2 e0.Kids c2),(14,vI (e0.Kids.length:Int)),(15,vI t15)]):=by
  refine gB.mutual_partial_correctness _ _ ?_ ?_
  · intro F_impl_reads_l1 ih_impl_reads_l1 e0 r N I p c p1 c1 p2 c2 h h1 h2;refine yJ Tryz.func30 fun B=>yC<|vK (cExpr e0 p c p1 c1 p2 c2) ?_;intro b hb;refine wU [] []<|zZ<|yC<|yM [0] [8] rfl<|zK<|yG N ?_ ?_
    · intro hc N;refine yC<|tZ 2 [0] [(10,vA (cAccess e0.Read p1 c1))]<|tK (cAccess e0.Read p1 c1) zG ?_;intro b1 hb1;have h3:RL I (cAccess e0.Read p1 c1) ([e0.Read]:List zG):=⟨(cAccess e0.Read p1 c1),_,rfl,rfl,(rJ ⟨_,rfl,h1⟩),rfl⟩;refine yM [] [2] rfl<|xI<|zL ?_;obtain rfl:=zC N;exact xC ⟨_,_,(.tmp rfl ResV.nil),(zW [0] rfl (by decide)),⟨_,_,_,rfl,rfl,h3⟩⟩
    intro hc N;refine zS<|zFy [(3,z0)]<|zZ<|yC<|yM [0] [13,14,15] rfl<|wK<|pL (zY [] (hs':=[]))<|pM [(3,z0),(13,vS p2 e0.Kids c2),(14,vI (e0.Kids.length:Int)),(15,vI 0)]<|zAb zG fun h4=>?_;obtain ⟨o0,ho0,hMl⟩:=zB N;refine ih_impl_reads_l1 e0 ([]:List zG) 0 o0 ho0 iR h2 h4 (fun _ _ _ h=>h) (fun _ _ h=>h) ?_;intro I01 out1 p4 c4 cs1 heq le1 h6;subst o0;refine zR<|uN [2] rfl<|zK<|xD ?_;obtain rfl:=zC hMl;exact xC ⟨_,_,(.tmp rfl ResV.nil),(zW [0] rfl (by decide)),⟨_,_,_,rfl,rfl,h6⟩⟩
  intro F_impl_reads F_impl_reads_l1 ih_impl_reads ih_impl_reads_l1 e0 out t15 o N B I0 I Q p2 c2 p3 c3 cs H h2 h5 hg ho hx;refine yU hg ho<|yH [16] rfl<|zZ<|yG N ?_ ?_
  · intro hc1 N;refine zS<|zZ<|yF<|yC<|bE N fun x hy N=>xT rfl rfl h2 hy ?_;intro ad ccs hat hrep;obtain ⟨p5,c5,p6,c6,p7,c7,rfl,h7,h8,h9⟩:=wT hrep;refine xO 0 hat (cExpr x p5 c5 p6 c6 p7 c7) (vA (cExpr x p5 c5 p6 c6 p7 c7)) rfl<|xU zExpr ?_;intro b2 hb2;refine yZ 0 (cExpr x p5 c5 p6 c6 p7 c7) rfl<|zX rfl<|zK<|zM<|tZ 2 [0] [(19,vS p3 out c3),(20,vA (cExpr x p5 c5 p6 c6 p7 c7))]<|bE N fun y hy1 N=>xH (ih_impl_reads x _ hy1 h7 h8 h9) ?_;rintro I0 hs2 v2 k2 le - ⟨p8,c8,cs2,rfl,rfl,h10⟩ -;have ⟨h2,h5,H⟩:=m3 le h2 h5 H;obtain ⟨out2,hy2,N⟩:=zB N;exact qD 67 2 2 rfl rfl rfl h5 (.inr ⟨0,rfl⟩) h10 hy2 fun p9 c9 cs3 h11=>sW (zY [1,2] (hs':=[hB b2 (cExpr x p5 c5 p6 c6 p7 c7),hO zG (vS p9 out2 c9) cs3]))<|yM [] [3] rfl<|zO<|zK<|zM<|yM [] [15] rfl<|yT<|pL (zW [1] rfl (by decide))<|nT<|ih_impl_reads_l1 e0 out2 (W (t15+1)) _ N H h2 h11 hg ho hx
  intro hc1 N;exact wW<|yW<|hx _ _ _ _ _ (zC N).symm H h5
theorem zEL:∀ e0 r,gB e0=some r->∀ {I:Imm}{p c p1 c1 p2 c2},(S4 I p e0.Index.Coefs c)->(S4 I p1 e0.Read.Subs c1)->(S4 I p2 e0.Kids c2)->RT 30 [vA (cExpr e0 p c p1 c1 p2 c2)] I [] (eM  r):=zHi.1
def qI (a0:zD) (n0:Int) (t9:Int):Option (Int):=do
 if (decide (t9<(a0.Dims.length:Int))) then
  let x<-idx a0.Dims t9
  qI a0 (W (n0*x)) (W (t9+1))
 else
  pure (id n0)
 partial_fixpoint
theorem zCy (a0:zD):∀ (n0:Int) (t9:Int) (o:Int),qI a0 n0 t9=some o->∀ {B}{I0 I:Imm}{Q p c},I0.le I->(S4 I p a0.Dims c)->NG Q->NO Q->(∀ (I':Imm) (n01:Int),o=n01->I0.le I'->T 18 B Q (.exit 0) I' [] [(3,vI n01)])->J Tryz.prog 18 B (nav (bodyOf Tryz.f81) [1,1,0,1,0]) Q I [] [(3,vI n0),(7,vS p a0.Dims c),(8,vI (a0.Dims.length:Int)),(9,vI t9)]:=by
 refine qI.partial_correctness a0 _ fun self ih n0 t9 o N B I0 I Q p c H h hg ho hx=>yU hg ho<|yH [10] rfl<|zZ<|yG N ?_ ?_
 · intro hc N;refine zS<|zZ<|yF<|yC<|bE N fun x hy N=>xT rfl rfl h hy ?_;intro ad ccs hat hrep;obtain rfl:=hrep;exact xO 0 hat [vI x] (vI x) rfl<|yM [] [5] rfl<|zK<|zM<|yM [] [3] rfl<|zO<|zK<|zM<|yM [] [9] rfl<|yT<|nT<|ih (W (n0*x)) (W (t9+1)) _ N H h hg ho hx
 intro hc N;exact wW<|yW<|hx _ _ (zC N).symm H
def kG (a0:zD):Option (Int):=do
 let n01<-qI a0 1 0
 pure (id n01)
theorem zBM:∀ a0 r,kG a0=some r->∀ {I:Imm}{p c},(S4 I p a0.Dims c)->RT 81 [vA (cArr a0 p c)] I [] (xQ  r):=by
 intro a0 r N I p c h;unfold kG at N;refine yJ Tryz.func81 fun B=>yC<|vK (cArr a0 p c) ?_;intro b hb;refine wU [] []<|uN [3] rfl<|zZ<|yC<|yM [0] [7,8,9] rfl<|wK<|pL (zY [] (hs':=[]))<|pM [(3,vI 1),(7,vS p a0.Dims c),(8,vI (a0.Dims.length:Int)),(9,vI 0)] ?_;obtain ⟨o0,ho0,hMl⟩:=zB N;refine zCy a0 1 0 o0 ho0 iR h (fun _ _ _ h=>h) (fun _ _ h=>h) ?_;intro I0 n01 heq le;subst o0;refine zR<|uN [2] rfl<|zK<|xD ?_;obtain rfl:=zC hMl;exact uE
def rC (a0:zG) (point:(List Int)) (x:zD) (at0:Int) (t40:Int):Option (Out Int (Int)):=do
 if (decide (t40<(a0.Subs.length:Int))) then
  let x1<-idx a0.Subs t40
  let y1<-tR x1 point
  let x2<-idx x.Dims t40
  let y2<-vR y1 0 (W (x2 - 1))
  if (!y2) then
   pure (.ret (-1))
  else
   let x3<-idx x.Dims t40
   rC a0 point x (W ((W (at0*x3))+y1)) (W (t40+1))
 else
  pure (.done at0)
 partial_fixpoint
theorem zCQ (a0:zG) (point:(List Int)) (x:zD):∀ (at0:Int) (t40:Int) (o:Out Int (Int)),rC a0 point x at0 t40=some o->∀ {B}{I0 I:Imm}{Q}{first:Int}{p3 c2 p4 c3 p5 c4}{b2:Nat},I0.le I->(S4 I p4 point c3)->(S4 I p3 a0.Subs c2)->(S4 I p5 x.Dims c4)->NG Q->NO Q->(∀ (I':Imm) (at01:Int),o=(.done at01)->I0.le I'->T 71 B Q (.exit 2) I' [] [(7,vI first),(10,vI at01)])->(∀ r I' hs' m',o=(.ret r)->I0.le I'->RS Tryz.prog Tryz.f103 B (xQ  r) I' hs' m'->T 71 B Q .ret I' hs' m')->J Tryz.prog 71 B (nav (bodyOf Tryz.f103) [1,1,0,1,0,0,1,1,0,0,1,1,1,1,0,1,0]) Q I [hB b2 (cArr x p5 c4)] [(2,vS p4 point c3),(7,vI first),(9,vP b2 0),(10,vI at0),(38,vS p3 a0.Subs c2),(39,vI (a0.Subs.length:Int)),(40,vI t40)]:=by
 refine rC.partial_correctness a0 point x _ fun self ih at0 t40 o N B I0 I Q first p3 c2 p4 c3 p5 c4 b2 H h3 h2 h4 hg ho hx hr=>yU hg ho<|yH [41] rfl<|zZ<|yG N ?_ ?_
 · intro hc3 N;refine zS<|zZ<|yF<|yC<|yE 1 [] [42] rfl<|bE N fun x1 hy2 N=>xT rfl rfl h2 hy2 ?_;intro ad1 ccs1 hat1 hrep1;obtain ⟨p6,c5,rfl,h6⟩:=yB hrep1;refine xO 0 hat1 (cAff x1 p6 c5) (vA (cAff x1 p6 c5)) rfl<|xU [z0,vI 0] ?_;intro b3 hb3;refine yE 5 [] [11] rfl<|yZ 0 (cAff x1 p6 c5) rfl<|zX rfl<|yX<|tZ 2 [0] [(45,vA (cAff x1 p6 c5)),(46,vS p4 point c3)]<|bE N fun y1 hy3 N=>fB (nI x1 point _ hy3 h6 h3) ?_;intro I01 le1;have ⟨h3,h2,h4,H⟩:=m4 le1 h3 h2 h4 H;refine yM [] [13] rfl<|zZ<|yC<|yE 4 [1] [48,50,51] rfl<|bE N fun x2 hy4 N=>xT rfl rfl h4 hy4 ?_;intro ad2 ccs2 hat2 hrep2;obtain rfl:=hrep2;refine xO 0 hat2 [vI x2] (vI x2) rfl<|yE 7 [] [54] rfl<|bE N fun y2 hy5 N=>uZ (uS y1 0 (W (x2 - 1)) _ hy5 ) ?_;intro I02 le2;have ⟨h3,h2,h4,H⟩:=m4 le2 h3 h2 h4 H;refine yM [] [56] rfl<|zK<|yG N ?_ ?_
   · intro hc4 N;exact yH [6] rfl<|xI<|zL<|zV<|zL<|zL<|hr _ _ _ _ (zC N).symm H ⟨_,_,(.tmp rfl ResV.nil),zQ,⟨_,rfl,rfl,rfl⟩⟩
   intro hc4 N;refine zS<|zK<|zM<|yE 4 [1] [57,59,60] rfl<|bE N fun x3 hy6 N=>xT rfl rfl h4 hy6 ?_;intro ad3 ccs3 hat3 hrep3;obtain rfl:=hrep3;exact xO 0 hat3 [vI x3] (vI x3) rfl<|yM [] [10] rfl<|zO<|zK<|zM<|yM [] [40] rfl<|yT<|pL (zW [1] rfl (by decide))<|nT<|ih (W ((W (at0*x3))+y1)) (W (t40+1)) _ N H h3 h2 h4 hg ho hx hr
 intro hc3 N;exact wW<|wG zQ<|yW<|hx _ _ (zC N).symm H
def tJ (p:zF) (a0:zG) (point:(List Int)) (first:Int) (t17:Int):Option (Out Unit (Int)):=do
 if (decide (t17<(p.Arrays.length:Int))) then
  let x<-idx p.Arrays t17
  if (!(x.Name.l==a0.Array.l)) then
   let y<-kG x
   tJ p a0 point (W (first+y)) (W (t17+1))
  else
   if ((a0.Subs.length:Int) != (x.Dims.length:Int)) then
    pure (.ret (-1))
   else
    match<-rC a0 point x 0 0 with
    | .ret r0=>pure (.ret r0)
    | .done at01 =>
     pure (.ret (W (first+at01)))
 else
  pure (.done ())
 partial_fixpoint
theorem zCR (p:zF) (a0:zG) (point:(List Int)):∀ (first:Int) (t17:Int) (o:Out Unit (Int)),tJ p a0 point first t17=some o->∀ {B}{I0 I:Imm}{Q p1 c p3 c2 p4 c3}{b1:Nat},I0.le I->(S4 I p4 point c3)->(S4 I p1 p.Arrays c)->(S4 I p3 a0.Subs c2)->NG Q->NO Q->(∀ (I':Imm) ,o=(.done ())->I0.le I'->T 71 B Q (.exit 0) I' [] [])->(∀ r I' hs' m',o=(.ret r)->I0.le I'->RS Tryz.prog Tryz.f103 B (xQ  r) I' hs' m'->T 71 B Q .ret I' hs' m')->J Tryz.prog 71 B (nav (bodyOf Tryz.f103) [1,1,0,1,0]) Q I [hB b1 (cAccess a0 p3 c2)] [(2,vS p4 point c3),(4,vP b1 0),(7,vI first),(15,vS p1 p.Arrays c),(16,vI (p.Arrays.length:Int)),(17,vI t17)]:=by
 refine tJ.partial_correctness p a0 point _ fun self ih first t17 o N B I0 I Q p1 c p3 c2 p4 c3 b1 H h3 h h2 hg ho hx hr=>yU hg ho<|yH [18] rfl<|zZ<|yG N ?_ ?_
 · intro hc N;refine zS<|zZ<|yF<|yC<|bE N fun x hy N=>xT rfl rfl h hy ?_;intro ad ccs hat hrep;obtain ⟨p5,c4,rfl,h4⟩:=xL hrep;refine xO 0 hat (cArr x p5 c4) (vA (cArr x p5 c4)) rfl<|xU [vT ([]),z0] ?_;intro b2 hb2;refine yZ 0 (cArr x p5 c4) rfl<|zX rfl<|zZ<|yC<|yM [0,1] [25] rfl<|zK<|yG N ?_ ?_
   · intro hc1 N;refine yC<|tZ 2 [0] [(26,vI first),(27,vA (cArr x p5 c4))]<|bE N fun y hy1 N=>fB (zBM x _ hy1 h4) ?_;intro I0 le;have ⟨h3,h,h2,H⟩:=m4 le h3 h h2 H;exact yM [] [7] rfl<|zK<|zEO<|jY<|zR<|zK<|zM<|yM [] [17] rfl<|yT<|pL (zW [1] rfl (by decide))<|nT<|ih (W (first+y)) (W (t17+1)) _ N H h3 h h2 hg ho hx hr
   intro hc1 N;refine zS<|zZ<|yC<|yM [1,0] [36] rfl<|zK<|yG N ?_ ?_
   · intro hc2 N;exact yH [6] rfl<|xI<|zL<|zV<|zL<|zL<|hr _ _ _ _ (zC N).symm H ⟨_,_,(.tmp rfl ResV.nil),zQ,⟨_,rfl,rfl,rfl⟩⟩
   intro hc2 N;refine zS<|uN [10] rfl<|zZ<|yC<|yM [1] [38,39,40] rfl<|wK<|pL (zY [0] (hs':=[hB b2 (cArr x p5 c4)]))<|pM [(2,vS p4 point c3),(7,vI first),(9,vP b2 0),(10,vI 0),(38,vS p3 a0.Subs c2),(39,vI (a0.Subs.length:Int)),(40,vI 0)] ?_;obtain ⟨o0,ho0,hMl⟩:=zB N;refine zCQ a0 point x 0 0 o0 ho0 iR h3 h2 h4 (fun _ _ _ h=>hg _ _ _ h) (fun _ _ h=>ho _ _ h) ?_ ?_
   · intro I03 at01 heq le3;subst o0;have H:=H.trans le3;exact zR<|uN [6] rfl<|xI<|zV<|zL<|zL<|hr _ _ _ _ (zC hMl).symm H ⟨_,_,(.tmp rfl ResV.nil),zQ,⟨_,rfl,rfl,rfl⟩⟩
   intro r0 I9 hs9 m9 heq9 le9 hrs9;subst heq9;exact zV<|zL<|zV<|zL<|zL<|hr _ _ _ _ (zC hMl).symm (H.trans le9) hrs9
 intro hc N;exact wW<|wG zQ<|yW<|hx _  (zC N).symm H
def nJ (p:zF) (a0:zG) (point:(List Int)):Option (Int):=do
 match<-tJ p a0 point 0 0 with
 | .ret r0=>pure r0
 | .done _ =>
  pure (-1)
theorem zAh:∀ p a0 point r,nJ p a0 point=some r->∀ {I:Imm}{p1 c p2 c1 p3 c2 p4 c3},(S4 I p1 p.Arrays c)->(S4 I p2 p.Parts c1)->(S4 I p3 a0.Subs c2)->(S4 I p4 point c3)->RT 103 [vA (cProg p p1 c p2 c1),vA (cAccess a0 p3 c2),vS p4 point c3] I [] (xQ  r):=by
 intro p a0 point r N I p1 c p2 c1 p3 c2 p4 c3 h h1 h2 h3;unfold nJ at N;refine yJ Tryz.func103 fun B=>yC<|vK (cProg p p1 c p2 c1) ?_;intro b hb;refine vK (cAccess a0 p3 c2) ?_;intro b1 hb1;refine wU [] []<|uN [7] rfl<|zZ<|yC<|yM [1] [15,16,17] rfl<|wK<|pL (zY [0] (hs':=[hB b1 (cAccess a0 p3 c2)]))<|pM [(2,vS p4 point c3),(4,vP b1 0),(7,vI 0),(15,vS p1 p.Arrays c),(16,vI (p.Arrays.length:Int)),(17,vI 0)] ?_;obtain ⟨o01,ho01,hMl1⟩:=zB N;refine zCR p a0 point 0 0 o01 ho01 iR h3 h h2 (fun _ _ _ h=>h) (fun _ _ h=>h) ?_ ?_
 · intro I04  heq1 le4;subst o01;refine zR<|uN [6] rfl<|zK<|xD ?_;obtain rfl:=zC hMl1;exact uE
 intro r0 I9 hs9 m9 heq9 le9 hrs9;subst heq9;refine zV<|zL ?_;obtain rfl:=zC hMl1;exact xC hrs9
def pW (hsF:List HA) (r:Int):KT:=fun kk I' hs' v=>
  ∃ v0,hsF=hs'/\v=tupV [v0]/\v0=.int .i64 r
def xK (s:(List zG)) (f0:(zG->Option Bool)) (t8:Int):Option (Out Unit (Int)):=do
 if (decide (t8<(s.length:Int))) then
  let x<-idx s t8
  let y<-f0 x
  if y then
   pure (.ret t8)
  else
   xK s f0 (W (t8+1))
 else
  pure (.done ())
 partial_fixpoint
theorem gT (s:(List zG)) (f0:(zG->Option Bool)):∀ (t8:Int) (o:Out Unit (Int)),xK s f0 t8=some o->∀ {B}{I0 I:Imm}{Q p c}{fv:Value}{hsF:List HA},I0.le I->(S4 I p s c)->(FV1 Tryz.prog I hsF fv f0)->NG Q->NO Q->(∀ (I':Imm) ,o=(.done ())->I0.le I'->T 19 B Q (.exit 0) I' hsF [])->(∀ r I' hs' m',o=(.ret r)->I0.le I'->RS Tryz.prog Tryz.f145 B (pW hsF r) I' hs' m'->T 19 B Q .ret I' hs' m')->J Tryz.prog 19 B (nav (bodyOf Tryz.f145) [1,0,1,0]) Q I hsF [(0,vS p s c),(1,fv),(7,vI (s.length:Int)),(8,vI t8)]:=by
 refine xK.partial_correctness s f0 _ fun self ih t8 o N B I0 I Q p c fv hsF H h h1 hg ho hx hr=>yU hg ho<|yH [9] rfl<|zZ<|yG N ?_ ?_
 · intro hc N;refine zS<|zZ<|yF<|yH [5] rfl<|yX<|yE 3 [] [11,12,13] rfl<|bE N fun x hy N=>xT rfl rfl h hy ?_;intro ad ccs hat hrep;obtain ⟨p1,c1,rfl,h2⟩:=tD hrep;refine xO 0 hat (cAccess x p1 c1) (vA (cAccess x p1 c1)) rfl<|bE N fun y hy1 N=>zIo rfl rfl h1 hy1 ⟨_,rfl,(rJ ⟨_,rfl,h2⟩)⟩ (List.append_nil _).symm ?_;rintro I0 v01 le rfl;refine vH (hs':=hsF) (List.append_nil _) ?_;have ⟨h,h1,H⟩:=m3 le h h1 H;refine zX rfl<|zK<|yG N ?_ ?_
   · intro hc1 N;exact yH [4] rfl<|xI<|zV<|zL<|zL<|hr _ _ _ _ (zC N).symm H ⟨_,_,(.tmp rfl ResV.nil),(fun _ h=>h),⟨_,rfl,rfl,rfl⟩⟩
   intro hc1 N;exact zS<|zO<|zK<|zM<|yM [] [8] rfl<|yT<|nT<|ih (W (t8+1)) _ N H h h1 hg ho hx hr
 intro hc N;exact wW<|yW<|hx _  (zC N).symm H
def uH (s:(List zG)) (f0:(zG->Option Bool)):Option (Int):=do
 match<-xK s f0 0 with
 | .ret r0=>pure r0
 | .done _ =>
  pure (-1)
theorem fO:∀ s f0 r,uH s f0=some r->∀ {I:Imm}{p c}{fv:Value}{hsF:List HA},(S4 I p s c)->(FV1 Tryz.prog I hsF fv f0)->RT 145 [vS p s c,fv] I hsF (pW hsF r):=by
 intro s f0 r N I p c fv hsF h h1;unfold uH at N;refine yJ Tryz.func145 fun B=>vM []<|zZ<|yH [7,8] rfl<|wK<|pM [(0,vS p s c),(1,fv),(7,vI (s.length:Int)),(8,vI 0)] ?_;obtain ⟨o0,ho0,hMl⟩:=zB N;refine gT s f0 0 o0 ho0 iR h h1 (fun _ _ _ h=>h) (fun _ _ h=>h) ?_ ?_
 · intro I01  heq le1;subst o0;refine zR<|uN [4] rfl<|zK<|xD ?_;obtain rfl:=zC hMl;exact xC ⟨_,_,(.tmp rfl ResV.nil),(fun _ h=>h),⟨_,rfl,rfl,rfl⟩⟩
 intro r0 I9 hs9 m9 heq9 le9 hrs9;subst heq9;refine zV<|zL ?_;obtain rfl:=zC hMl;exact xC hrs9
def jO (hsF:List HA) (r:Bool):KT:=fun kk I' hs' v=>
  ∃ v0,hsF=hs'/\v=tupV [v0]/\v0=.bool r
def wM (s:(List zG)) (f0:(zG->Option Bool)):Option (Bool):=do
 let y<-uH s f0
 pure (decide (y>=0))
theorem gU:∀ s f0 r,wM s f0=some r->∀ {I:Imm}{p c}{fv:Value}{hsF:List HA},(S4 I p s c)->(FV1 Tryz.prog I hsF fv f0)->RT 104 [vS p s c,fv] I hsF (jO hsF r):=by
 intro s f0 r N I p c fv hsF h h1;unfold wM at N;refine yJ Tryz.func104 fun B=>vM []<|yX<|yE 2 [] [5,6] rfl<|bE N fun y hy N=>zFr (hs1:=hsF) (rest:=[]) rfl rfl rfl rfl (by kernel_rfl) rfl (List.append_nil _).symm (fO s f0 _ hy h h1) ?_;rintro I0 hs2 v2 k2 le - ⟨v0,rfl,rfl,rfl⟩ -;refine vH (hs':=hsF) (List.append_nil _) ?_;refine yM [] [4] rfl<|zK<|xD ?_;obtain rfl:=zC N;exact xC ⟨_,_,(.tmp rfl ResV.nil),(fun _ h=>h),⟨_,rfl,rfl,rfl⟩⟩
def sL (a0:zG) (x:zF) (x1:(List Int)):Option (Bool):=do
 let y<-nJ x a0 x1
 pure (decide (y<0))
theorem zBn:∀ a0 x x1 r,sL a0 x x1=some r->∀ {I:Imm}{p c}{ad:Addr}{p1 c1 p2 c2}{ad1:Addr}{p3 c3},(S4 I p a0.Subs c)->(S4 I p1 x.Arrays c1)->(S4 I p2 x.Parts c2)->(At I ad (cProg x p1 c1 p2 c2))->(S4 I p3 x1 c3)->(At I ad1 [vS p3 x1 c3])->RT 105 [vA (cAccess a0 p c),.pointer (some ad),.pointer (some ad1)] I [] (zT  r):=by
 intro a0 x x1 r N I p c ad p1 c1 p2 c2 ad1 p3 c3 h h1 h2 hat h3 hat1;unfold sL at N;refine yJ Tryz.func105 fun B=>yC<|vK (cAccess a0 p c) ?_;intro b hb;refine wU [] []<|yX<|xO 0 hat (cProg x p1 c1 p2 c2) (vA (cProg x p1 c1 p2 c2)) rfl<|tZ 2 [0] [(6,vA (cAccess a0 p c))]<|xO 0 hat1 [vS p3 x1 c3] (vS p3 x1 c3) rfl<|bE N fun y hy N=>fB (zAh x a0 x1 _ hy h1 h2 h h3) fun I0 le=>wU [] [(4,.bool (decide (y<0)))]<|zK<|xD ?_;obtain rfl:=zC N;exact uE
def nV (p:zF) (s:zJ) (point:(List Int)):Option (Bool):=do
 let t6<-(do
   let y<-nJ p s.Write point
   if (decide (y>=0)) then
    let y1<-gB s.Value
    let y2<-wM y1 (fun x0=>sL x0 p point)
    pure (!y2)
   else
    pure false
     : Option Bool)
 pure (id t6)
theorem zC6:∀ p s point r,nV p s point=some r->∀ {I:Imm}{p1 c p2 c1 p3 c2 p4 c3 p5 c4 p6 c5 p7 c6},(S4 I p1 p.Arrays c)->(S4 I p2 p.Parts c1)->(S4 I p3 s.Write.Subs c2)->(S4 I p4 s.Value.Index.Coefs c3)->(S4 I p5 s.Value.Read.Subs c4)->(S4 I p6 s.Value.Kids c5)->(S4 I p7 point c6)->RT 63 [vA (cProg p p1 c p2 c1),vA (cStmt s p3 c2 p4 c3 p5 c4 p6 c5),vS p7 point c6] I [] (zT  r):=by
 intro p s point r N I p1 c p2 c1 p3 c2 p4 c3 p5 c4 p6 c5 p7 c6 h h1 h2 h3 h4 h5 h6;unfold nV at N;refine yJ Tryz.func63 fun B=>?_;have H:=iS I;refine yC<|vK (cProg p p1 c p2 c1) ?_;intro b hb;refine xX 0 rfl ?_;intro I0 le hl0;have hat:At I0 ⟨b,0,none⟩ (cProg p p1 c p2 c1):=At.of_blk hl0;have ⟨h,h1,h2,h3,h4,h5⟩:=m6 le h h1 h2 h3 h4 h5;have ⟨h6,H⟩:=m2 le h6 H;refine vK (cStmt s p3 c2 p4 c3 p5 c4 p6 c5) ?_;intro b1 hb1;refine vK [vS p7 point c6] ?_;intro b2 hb2;refine xX 0 rfl ?_;intro I01 le1 hl01;have hat1:At I01 ⟨b2,0,none⟩ [vS p7 point c6]:=At.of_blk hl01;have ⟨h,h1,h2,h3,h4,h5⟩:=m6 le1 h h1 h2 h3 h4 h5;have ⟨h6,hat,H⟩:=m3 le1 h6 hat H;refine wU [] []<|zK<|yD ?_;refine uB N [] (fun t6=>[(6,.bool t6)]) (fun o0 ho0=>?_) ?_
 · have H:=iS I01;refine zM<|xO 0 hat (cProg p p1 c p2 c1) (vA (cProg p p1 c p2 c1)) rfl<|tZ 3 [0] [(9,vA (cAccess s.Write p3 c2))]<|xO 0 hat1 [vS p7 point c6] (vS p7 point c6) rfl ?_;obtain ⟨y,hy,N⟩:=zB ho0;refine fB (zAh p s.Write point _ hy h h1 h2 h6) ?_;intro I03 le2;have ⟨h,h1,hat,h6,hat1,h3⟩:=m6 le2 h h1 hat h6 hat1 h3;have ⟨h4,h5,H⟩:=m3 le2 h4 h5 H;refine yE 7 [] [13] rfl<|wO [13] N ?_ ?_
   · intro hc N;refine tZ 9 [0] [(15,vA (cExpr s.Value p4 c3 p5 c4 p6 c5))]<|bE N fun y1 hy1 N=>xH (zEL s.Value _ hy1 h3 h4 h5) ?_;rintro I04 hs2 v2 k2 le3 - ⟨p8,c7,cs,rfl,rfl,h8⟩ -;have ⟨h,h1,hat,h6,hat1,H⟩:=m6 le3 h h1 hat h6 hat1 H;refine yE 11 [] [17] rfl<|xX 0 rfl ?_;intro I05 le4 hl02;have h9:=SL.of_frozen hl02 le4 h8;have ⟨h,h1,hat,h6,hat1,H⟩:=m6 le4 h h1 hat h6 hat1 H;have hf0:FV1 Tryz.prog I05 [] (.func (.func 105) ⟨[]⟩ ⟨[vP b 0,vP b2 0]⟩) (fun x0=>sL x0 p point):=by
       refine FV1.intro ?_;intro I1 le1 x0 r u0 hF k0;obtain ⟨_,rfl,k0⟩:=k0;obtain ⟨p9,c8,rfl,h10⟩:=tD k0;exact (zBn x0 p point r hF h10 (h.mono le1) (h1.mono le1) (hat.mono le1) (h6.mono le1) (hat1.mono le1)).mono (by rintro k i hs u ⟨v0,rfl,rfl,h⟩; exact ⟨rfl,h⟩)
     obtain ⟨y2,hy2,N⟩:=zB N;refine xH (gU y1 (fun x0=>sL x0 p point) _ hy2 h9 hf0) ?_;rintro I06 hs2 v2 k2 le5 - ⟨v02,rfl,rfl,rfl⟩ -;have H:=H.trans le5;exact yM [] [6] rfl<|wG zQ<|yW<|zU (ct N H)
   intro hc N;exact wU [] [(6,vF)]<|wG zQ<|yW<|zU (ct N H)
 intro t6 I02 le6 hMc;refine zK<|xD ?_;obtain rfl:=zC hMc;exact uE
def oK (r:(List zN)×Bool):KT:=fun kk I' hs' v=>
  ∃ v0 v1,hs'=[]/\v=tupV [v0,v1]/\SL I' v0 r.1/\v1=.bool r.2
def uI (p:zF) (t26:Int) (x:zI) (x1:(List Int)) (out4:List zN) (t64:Int):Option (Out (List zN) ((List zN)×Bool)):=do
 if (decide (t64<(x.Body.length:Int))) then
  let x2<-idx x.Body t64
  let y7<-nV p x2 x1
  if (!y7) then
   pure (.ret (([]:List zN),false))
  else
   let y8<-tH x1
   let out6<-app 40 out4 ([(zN.mk t26 t64 y8)]:List zN)
   uI p t26 x x1 out6 (W (t64+1))
 else
  pure (.done out4)
 partial_fixpoint
theorem zAo (p:zF) (t26:Int) (x:zI) (x1:(List Int)):∀ (out4:List zN) (t64:Int) (o:Out (List zN) ((List zN)×Bool)),uI p t26 x x1 out4 t64=some o->∀ {B}{I0 I:Imm}{Q}{y2:(List (List Int))}{t54:Int}{p1 c p2 c1}{b:Nat}{p5 c4 p6 c5}{b1:Nat}{p7 c6 p14 c13 p15 c14 cs4},I0.le I->(S4 I p5 x.Nest c4)->(S4 I p6 x.Body c5)->(At I ⟨b1,0,none⟩ (cPart x p5 c4 p6 c5))->(S4 I p14 x1 c13)->(S4 I p2 p.Parts c1)->(S4 I p7 y2 c6)->(S4 I p1 p.Arrays c)->(RL I cs4 out4)->NG Q->NO Q->(∀ (I':Imm) (out5:List zN) (p16:Option Addr) (c15:Nat) (cs5:List Value),o=(.done out5)->I0.le I'->(RL I' cs5 out5)->T 89 B Q (.exit 4) I' [hO zN (vS p16 out5 c15) cs5,hB b (cProg p p1 c p2 c1)] [(1,vP b 0),(4,vS p16 out5 c15),(5,vI t26),(6,vP b1 0),(24,vS p2 p.Parts c1),(25,vI (p.Parts.length:Int)),(26,vI t26),(52,vS p7 y2 c6),(53,vI (y2.length:Int)),(54,vI t54)])->(∀ r I' hs' m',o=(.ret r)->I0.le I'->RS Tryz.prog Tryz.f25 B (oK  r) I' hs' m'->T 89 B Q .ret I' hs' m')->J Tryz.prog 89 B (nav (bodyOf Tryz.f25) [1,1,1,0,1,0,0,1,1,0,0,1,1,1,1,0,0,1,1,0,0,1,1,1,0]) Q I [hO zN (vS p15 out4 c14) cs4,hB b (cProg p p1 c p2 c1)] [(1,vP b 0),(4,vS p15 out4 c14),(5,vI t26),(6,vP b1 0),(10,vS p14 x1 c13),(24,vS p2 p.Parts c1),(25,vI (p.Parts.length:Int)),(26,vI t26),(52,vS p7 y2 c6),(53,vI (y2.length:Int)),(54,vI t54),(62,vS p6 x.Body c5),(63,vI (x.Body.length:Int)),(64,vI t64)]:=by
 refine uI.partial_correctness p t26 x x1 _ fun self ih out4 t64 o N B I0 I Q y2 t54 p1 c p2 c1 b p5 c4 p6 c5 b1 p7 c6 p14 c13 p15 c14 cs4 H h6 h7 hat1 h18 h1 h8 h h20 hg ho hx hr=>yU hg ho<|yH [65] rfl<|zZ<|yG N ?_ ?_
 · intro hc8 N;refine zS<|zZ<|yF<|yC<|yE 1 [] [66] rfl<|bE N fun x2 hy7 N=>xT rfl rfl h7 hy7 ?_;intro ad2 ccs2 hat3 hrep2;obtain ⟨p17,c16,p18,c17,p19,c18,p20,c19,rfl,h22,h23,h24,h25⟩:=vC hrep2;refine xO 0 hat3 (cStmt x2 p17 c16 p18 c17 p19 c18 p20 c19) (vA (cStmt x2 p17 c16 p18 c17 p19 c18 p20 c19)) rfl<|xU [vT ([]),z0,vI 0,vI 0,z0,vI 0,vT ([]),z0,z0] ?_;intro b2 hb2;refine yE 5 [] [11] rfl<|yZ 0 (cStmt x2 p17 c16 p18 c17 p19 c18 p20 c19) rfl<|zX rfl<|zZ<|yC<|tZ 3 [2,0] [(69,vA (cProg p p1 c p2 c1)),(70,vA (cStmt x2 p17 c16 p18 c17 p19 c18 p20 c19)),(71,vS p14 x1 c13)]<|bE N fun y7 hy8 N=>uZ (zC6 p x2 x1 _ hy8 h h1 h22 h23 h24 h25 h18) ?_;intro I08 le8;have ⟨h20,h6,h7,hat1,h18,h1⟩:=m6 le8 h20 h6 h7 hat1 h18 h1;have ⟨h8,h,H⟩:=m3 le8 h8 h H;refine yM [] [73] rfl<|zK<|yG N ?_ ?_
   · intro hc9 N;exact yH [2,3] rfl<|xI<|zL<|zV<|zL<|zL<|hr _ _ _ _ (zC N).symm H ⟨_,_,(.tmp rfl (.tmp rfl ResV.nil)),zQ,⟨_,_,rfl,rfl,(SL.nil _),rfl⟩⟩
   intro hc9 N;refine zS<|zK<|zM<|yE 4 [] [74,75,76,77] rfl<|bE N fun y8 hy9 N=>xH (oH x1 _ hy9 h18) ?_;rintro I09 hs2 v2 k2 le9 - ⟨p21,c20,cs6,rfl,rfl,h27⟩ -;have ⟨h6,h7,hat1,h18,h1,h8⟩:=m6 le9 h6 h7 hat1 h18 h1 h8;have ⟨h20,h,H⟩:=m3 le9 h20 h H;refine yE 6 [] [79] rfl<|xX 0 rfl ?_;intro I010 le10 hl01;have h28:=SL.of_frozen hl01 le10 h27;have ⟨h6,h7,hat1,h18,h1,h8⟩:=m6 le10 h6 h7 hat1 h18 h1 h8;have ⟨h20,h,H⟩:=m3 le10 h20 h H;refine tK [vI t26,vI t64,vS p21 y8 c20] zN ?_;intro b3 hb3;have h29:RL I010 [vI t26,vI t64,vS p21 y8 c20] ([(zN.mk t26 t64 y8)]:List zN):=⟨[vI t26,vI t64,vS p21 y8 c20],_,rfl,rfl,(zBD ⟨_,rfl,h28⟩),rfl⟩;obtain ⟨out6,hy10,N⟩:=zB N;exact qD 64 3 2 rfl rfl rfl h20 (.inr ⟨0,rfl⟩) h29 hy10 fun p22 c21 cs7 h30=>sW (zY [1,2,3] (hs':=[hB b2 (cStmt x2 p17 c16 p18 c17 p19 c18 p20 c19),hO zN (vS p22 out6 c21) cs7,hB b (cProg p p1 c p2 c1)]))<|yM [] [4] rfl<|zO<|zK<|zM<|yM [] [64] rfl<|yT<|pL (zW [1,2] rfl (by decide))<|nT<|ih out6 (W (t64+1)) _ N H h6 h7 hat1 h18 h1 h8 h h30 hg ho hx hr
 intro hc8 N;exact wW<|yW<|hx _ _ _ _ _ (zC N).symm H h20
def uJ (p:zF) (t26:Int) (x:zI) (y2:(List (List Int))) (out2:List zN) (t54:Int):Option (Out (List zN) ((List zN)×Bool)):=do
 if (decide (t54<(y2.length:Int))) then
  let x1<-idx y2 t54
  let y6<-dH x1
  if (!y6) then
   pure (.ret (([]:List zN),false))
  else
   match<-uI p t26 x x1 out2 0 with
   | .ret r0=>pure (.ret r0)
   | .done out5 =>
    uJ p t26 x y2 out5 (W (t54+1))
 else
  pure (.done out2)
 partial_fixpoint
theorem zAp (p:zF) (t26:Int) (x:zI) (y2:(List (List Int))):∀ (out2:List zN) (t54:Int) (o:Out (List zN) ((List zN)×Bool)),uJ p t26 x y2 out2 t54=some o->∀ {B}{I0 I:Imm}{Q p1 c p2 c1}{b:Nat}{p5 c4 p6 c5}{b1:Nat}{p7 c6 p12 c11 cs2},I0.le I->(S4 I p5 x.Nest c4)->(S4 I p6 x.Body c5)->(At I ⟨b1,0,none⟩ (cPart x p5 c4 p6 c5))->(S4 I p2 p.Parts c1)->(S4 I p7 y2 c6)->(S4 I p1 p.Arrays c)->(RL I cs2 out2)->NG Q->NO Q->(∀ (I':Imm) (out3:List zN) (p13:Option Addr) (c12:Nat) (cs3:List Value),o=(.done out3)->I0.le I'->(RL I' cs3 out3)->T 89 B Q (.exit 2) I' [hO zN (vS p13 out3 c12) cs3,hB b (cProg p p1 c p2 c1)] [(1,vP b 0),(4,vS p13 out3 c12),(24,vS p2 p.Parts c1),(25,vI (p.Parts.length:Int)),(26,vI t26)])->(∀ r I' hs' m',o=(.ret r)->I0.le I'->RS Tryz.prog Tryz.f25 B (oK  r) I' hs' m'->T 89 B Q .ret I' hs' m')->J Tryz.prog 89 B (nav (bodyOf Tryz.f25) [1,1,1,0,1,0,0,1,1,0,0,1,1,1,1,0]) Q I [hO zN (vS p12 out2 c11) cs2,hB b (cProg p p1 c p2 c1)] [(1,vP b 0),(4,vS p12 out2 c11),(5,vI t26),(6,vP b1 0),(24,vS p2 p.Parts c1),(25,vI (p.Parts.length:Int)),(26,vI t26),(52,vS p7 y2 c6),(53,vI (y2.length:Int)),(54,vI t54)]:=by
 refine uJ.partial_correctness p t26 x y2 _ fun self ih out2 t54 o N B I0 I Q p1 c p2 c1 b p5 c4 p6 c5 b1 p7 c6 p12 c11 cs2 H h6 h7 hat1 h1 h8 h h16 hg ho hx hr=>yU hg ho<|yH [55] rfl<|zZ<|yG N ?_ ?_
 · intro hc6 N;refine zS<|zZ<|yF<|yC<|bE N fun x1 hy5 N=>xT rfl rfl h8 hy5 ?_;intro ad1 ccs1 hat2 hrep1;obtain ⟨v011,rfl,h18⟩:=hrep1;obtain ⟨p14,c13,rfl⟩:=h18.form;refine xO 0 hat2 [vS p14 x1 c13] (vS p14 x1 c13) rfl<|yM [] [10] rfl<|zZ<|yC<|yE 1 [] [58] rfl<|bE N fun y6 hy6 N=>uZ (zGq x1 _ hy6 h18) ?_;intro I07 le7;have ⟨h16,h6,h7,hat1,h18,h1⟩:=m6 le7 h16 h6 h7 hat1 h18 h1;have ⟨h8,h,H⟩:=m3 le7 h8 h H;refine yM [] [60] rfl<|zK<|yG N ?_ ?_
   · intro hc7 N;exact yH [2,3] rfl<|xI<|zL<|zV<|zL<|zL<|hr _ _ _ _ (zC N).symm H ⟨_,_,(.tmp rfl (.tmp rfl ResV.nil)),zQ,⟨_,_,rfl,rfl,(SL.nil _),rfl⟩⟩
   intro hc7 N;refine zS<|yX<|yE 1 [] [61] rfl<|xO 1 hat1 [vS p6 x.Body c5] (vS p6 x.Body c5) rfl<|yM [] [63,64] rfl<|wK<|pM [(1,vP b 0),(4,vS p12 out2 c11),(5,vI t26),(6,vP b1 0),(10,vS p14 x1 c13),(24,vS p2 p.Parts c1),(25,vI (p.Parts.length:Int)),(26,vI t26),(52,vS p7 y2 c6),(53,vI (y2.length:Int)),(54,vI t54),(62,vS p6 x.Body c5),(63,vI (x.Body.length:Int)),(64,vI 0)] ?_;obtain ⟨o02,ho02,hMl⟩:=zB N;refine zAo p t26 x x1 out2 0 o02 ho02 iR h6 h7 hat1 h18 h1 h8 h h16 (fun _ _ _ h=>hg _ _ _ h) (fun _ _ h=>ho _ _ h) ?_ ?_
   · intro I011 out5 p16 c15 cs5 heq2 le11 h21;subst o02;have ⟨h6,h7,hat1,h1,h8,h⟩:=m6 le11 h6 h7 hat1 h1 h8 h;have H:=H.trans le11;exact zR<|zO<|zK<|zM<|yM [] [54] rfl<|yT<|nT<|ih out5 (W (t54+1)) _ hMl H h6 h7 hat1 h1 h8 h h21 hg ho hx hr
   intro r0 I9 hs9 m9 heq9 le9 hrs9;subst heq9;exact zV<|zV<|zL<|zL<|hr _ _ _ _ (zC hMl).symm (H.trans le9) hrs9
 intro hc6 N;exact wW<|yW<|hx _ _ _ _ _ (zC N).symm H h16
def uK (p:zF) (out:List zN) (t26:Int):Option (Out (List zN) ((List zN)×Bool)):=do
 if (decide (t26<(p.Parts.length:Int))) then
  let x<-idx p.Parts t26
  let (y2,y3)<-gA x.Nest
  let t51<-(do
    if (!y3) then
     pure true
    else
     let y4<-vR (x.Body.length:Int) 1 4
     if (!y4) then
      pure true
     else
      let y5<-wV x.Body (fun x0=>uT x0 x)
      pure (id y5)
      : Option Bool)
  if t51 then
   pure (.ret (([]:List zN),false))
  else
   match<-uJ p t26 x y2 out 0 with
   | .ret r0=>pure (.ret r0)
   | .done out3 =>
    uK p out3 (W (t26+1))
 else
  pure (.done out)
 partial_fixpoint
theorem zAq (p:zF):∀ (out:List zN) (t26:Int) (o:Out (List zN) ((List zN)×Bool)),uK p out t26=some o->∀ {B}{I0 I:Imm}{Q p1 c p2 c1}{b:Nat}{p3 c2 cs},I0.le I->(S4 I p2 p.Parts c1)->(S4 I p1 p.Arrays c)->(RL I cs out)->NG Q->NO Q->(∀ (I':Imm) (out1:List zN) (p4:Option Addr) (c3:Nat) (cs1:List Value),o=(.done out1)->I0.le I'->(RL I' cs1 out1)->T 89 B Q (.exit 0) I' [hO zN (vS p4 out1 c3) cs1] [(4,vS p4 out1 c3)])->(∀ r I' hs' m',o=(.ret r)->I0.le I'->RS Tryz.prog Tryz.f25 B (oK  r) I' hs' m'->T 89 B Q .ret I' hs' m')->J Tryz.prog 89 B (nav (bodyOf Tryz.f25) [1,1,1,0,1,0]) Q I [hO zN (vS p3 out c2) cs,hB b (cProg p p1 c p2 c1)] [(1,vP b 0),(4,vS p3 out c2),(24,vS p2 p.Parts c1),(25,vI (p.Parts.length:Int)),(26,vI t26)]:=by
 refine uK.partial_correctness p _ fun self ih out t26 o N B I0 I Q p1 c p2 c1 b p3 c2 cs H h1 h h4 hg ho hx hr=>yU hg ho<|yH [27] rfl<|zZ<|yG N ?_ ?_
 · intro hc2 N;refine zS<|zZ<|yF<|yC<|yE 1 [] [28] rfl<|bE N fun x hy1 N=>xT rfl rfl h1 hy1 ?_;intro ad ccs hat hrep;obtain ⟨p5,c4,p6,c5,rfl,h6,h7⟩:=wH hrep;refine xO 0 hat (cPart x p5 c4 p6 c5) (vA (cPart x p5 c4 p6 c5)) rfl<|xU zTwo ?_;intro b1 hb1;refine yE 5 [] [5] rfl<|yZ 0 (cPart x p5 c4 p6 c5) rfl<|zX rfl<|yX<|yE 2 [0] [33] rfl ?_;obtain ⟨⟨y2,y3⟩,hy2,N⟩:=zB N;refine xH (zEb x.Nest _ hy2 h6) ?_;rintro I02 hs2 v2 k2 le2 - ⟨v03,v04,rfl,rfl,h8,rfl⟩ -;have ⟨h4,h1,h6,h7,h,H⟩:=m6 le2 h4 h1 h6 h7 h H;obtain ⟨p7,c6,rfl⟩:=h8.form;refine yM [] [7,8] rfl<|zZ<|yD<|qX 0 rfl ?_;intro I03 le3 hl0;have hat1:At I03 ⟨b1,0,none⟩ (cPart x p5 c4 p6 c5):=At.of_blk hl0;have ⟨h4,h6,h7,h8,h1,h⟩:=m6 le3 h4 h6 h7 h8 h1 h;have H:=H.trans le3;refine uB N [hO zN (vS p3 out c2) cs,hB b (cProg p p1 c p2 c1)] (fun t51=>[(1,vP b 0),(4,vS p3 out c2),(5,vI t26),(6,vP b1 0),(7,vS p7 y2 c6),(24,vS p2 p.Parts c1),(25,vI (p.Parts.length:Int)),(26,vI t26),(51,.bool t51)]) (fun o01 ho01=>?_) ?_
   · have H:=iS I03;refine zM<|yE 3 [] [39] rfl<|wO [39] ho01 ?_ ?_
     · intro hc3 N;exact wU [] [(51,vY)]<|yW<|zU (ct N H)
     intro hc3 N;refine yE 4 [] [40] rfl<|xO 1 hat1 [vS p6 x.Body c5] (vS p6 x.Body c5) rfl<|yE 6 [] [42] rfl<|bE N fun y4 hy3 N=>uZ (uS (x.Body.length:Int) 1 4 _ hy3 ) ?_;intro I05 le4;have ⟨h6,h7,hat1,h,H⟩:=m5 le4 h6 h7 hat1 h H;refine yE 10 [] [46] rfl<|wO [46] N ?_ ?_
     · intro hc4 N;exact wU [] [(51,vY)]<|yW<|zU (ct N H)
     intro hc4 N;refine yE 11 [] [47] rfl<|xO 1 hat1 [vS p6 x.Body c5] (vS p6 x.Body c5) rfl<|yE 13 [] [49] rfl ?_;have hf0:FV1 Tryz.prog I05 [] (.func (.func 60) ⟨[]⟩ ⟨[vP b1 0]⟩) (fun x0=>uT x0 x):=by
       refine FV1.intro ?_;intro I1 le1 x0 r u0 hF k0;obtain ⟨_,rfl,k0⟩:=k0;obtain ⟨p8,c7,p9,c8,p10,c9,p11,c10,rfl,h11,h12,h13,h14⟩:=vC k0;exact (zAy x0 x r hF h11 h12 h13 h14 (h6.mono le1) (h7.mono le1) (hat1.mono le1)).mono (by rintro k i hs u ⟨v0,rfl,rfl,h⟩; exact ⟨rfl,h⟩)
     obtain ⟨y5,hy4,N⟩:=zB N;refine xH (fW x.Body (fun x0=>uT x0 x) _ hy4 h7 hf0) ?_;rintro I06 hs2 v2 k2 le5 - ⟨v010,rfl,rfl,rfl⟩ -;have H:=H.trans le5;exact yM [] [51] rfl<|yW<|zU (ct N H)
   intro t51 I04 le6 hMc1;have ⟨h4,h6,h7,hat1,h8,h1⟩:=m6 le6 h4 h6 h7 hat1 h8 h1;have ⟨h,H⟩:=m2 le6 h H;refine zK<|yG hMc1 ?_ ?_
   · intro hc5 N;exact yH [2,3] rfl<|xI<|zL<|zV<|zL<|zL<|hr _ _ _ _ (zC N).symm H ⟨_,_,(.tmp rfl (.tmp rfl ResV.nil)),zQ,⟨_,_,rfl,rfl,(SL.nil _),rfl⟩⟩
   intro hc5 N;refine zS<|uN [52,53,54] rfl<|wK<|pM [(1,vP b 0),(4,vS p3 out c2),(5,vI t26),(6,vP b1 0),(24,vS p2 p.Parts c1),(25,vI (p.Parts.length:Int)),(26,vI t26),(52,vS p7 y2 c6),(53,vI (y2.length:Int)),(54,vI 0)] ?_;obtain ⟨o03,ho03,hMl1⟩:=zB N;refine zAp p t26 x y2 out 0 o03 ho03 iR h6 h7 hat1 h1 h8 h h4 (fun _ _ _ h=>hg _ _ _ h) (fun _ _ h=>ho _ _ h) ?_ ?_
   · intro I012 out3 p13 c12 cs3 heq3 le12 h17;subst o03;have ⟨h1,h,H⟩:=m3 le12 h1 h H;exact zR<|zO<|zK<|zM<|yM [] [26] rfl<|yT<|nT<|ih out3 (W (t26+1)) _ hMl1 H h1 h h17 hg ho hx hr
   intro r0 I9 hs9 m9 heq9 le9 hrs9;subst heq9;exact zV<|zV<|zL<|zL<|hr _ _ _ _ (zC hMl1).symm (H.trans le9) hrs9
 intro hc2 N;exact wW<|wG (zW [0] rfl (by decide))<|yW<|hx _ _ _ _ _ (zC N).symm H h4
def tS (p:zF):Option ((List zN)×Bool):=do
 let t22<-(do
   let y<-fZ p.Arrays
   if (!y) then
    pure true
   else
    pure (decide ((p.Parts.length:Int)>4))
     : Option Bool)
 if t22 then
  pure (([]:List zN),false)
 else
  match<-uK p ([]:List zN) 0 with
  | .ret r0=>pure r0
  | .done out1 =>
   pure (out1,(decide ((out1.length:Int)<=120)))
theorem jP:∀ p r,tS p=some r->∀ {I:Imm}{p1 c p2 c1},(S4 I p1 p.Arrays c)->(S4 I p2 p.Parts c1)->RT 25 [vA (cProg p p1 c p2 c1)] I [] (oK  r):=by
 intro p r N I p1 c p2 c1 h h1;unfold tS at N;refine yJ Tryz.func25 fun B=>?_;have H:=iS I;refine yC<|vK (cProg p p1 c p2 c1) ?_;intro b hb;refine wU [] []<|zZ<|yD ?_;refine uB N [hB b (cProg p p1 c p2 c1)] (fun t22=>[(1,vP b 0),(22,.bool t22)]) (fun o0 ho0=>?_) ?_
 · have H:=iS I;refine zM<|yE 2 [0] [14] rfl ?_;obtain ⟨y,hy,N⟩:=zB ho0;refine uZ (zGR p.Arrays _ hy h) ?_;intro I01 le;have H:=H.trans le;refine yE 5 [] [17] rfl<|wO [17] N ?_ ?_
   · intro hc N;exact wU [] [(22,vY)]<|yW<|zU (ct N H)
   intro hc N;exact yM [0] [22] rfl<|yW<|zU (ct N H)
 intro t22 I0 le1 hMc;have ⟨h,h1⟩:=m2 le1 h h1;refine zK<|yG hMc ?_ ?_
 · intro hc1 N;refine yH [2,3] rfl<|xI<|zL ?_;obtain rfl:=zC N;exact xC ⟨_,_,(.tmp rfl (.tmp rfl ResV.nil)),zQ,⟨_,_,rfl,rfl,(SL.nil _),rfl⟩⟩
 intro hc1 N;refine zS<|zFy [(4,z0)]<|zZ<|yC<|yM [0] [24,25,26] rfl<|wK<|pM [(1,vP b 0),(4,z0),(24,vS p2 p.Parts c1),(25,vI (p.Parts.length:Int)),(26,vI 0)]<|zAb zN fun h3=>?_;obtain ⟨o04,ho04,hMl2⟩:=zB N;refine zAq p ([]:List zN) 0 o04 ho04 iR h1 h h3 (fun _ _ _ h=>h) (fun _ _ h=>h) ?_ ?_
 · intro I013 out1 p4 c3 cs1 heq4 le13 h5;subst o04;refine zR<|uN [2,3] rfl<|xI<|xE 0 rfl ?_;intro I014 le14 hl02;have h31:=SL.of_frozen hl02 le14 h5;obtain rfl:=zC hMl2;exact xC ⟨_,_,(.tmp rfl (.tmp rfl ResV.nil)),zQ,⟨_,_,rfl,rfl,h31,rfl⟩⟩
 intro r0 I9 hs9 m9 heq9 le9 hrs9;subst heq9;refine zV<|zL ?_;obtain rfl:=zC hMl2;exact xC hrs9
def oL (hsF:List HA) (r:Int):KT:=fun kk I' hs' v=>
  ∃ v0,hsF=hs'/\v=tupV [v0]/\v0=.int .i64 r
def xP (s:(List zD)) (f0:(zD->Option Bool)) (t8:Int):Option (Out Unit (Int)):=do
 if (decide (t8<(s.length:Int))) then
  let x<-idx s t8
  let y<-f0 x
  if y then
   pure (.ret t8)
  else
   xP s f0 (W (t8+1))
 else
  pure (.done ())
 partial_fixpoint
theorem fM (s:(List zD)) (f0:(zD->Option Bool)):∀ (t8:Int) (o:Out Unit (Int)),xP s f0 t8=some o->∀ {B}{I0 I:Imm}{Q p c}{fv:Value}{hsF:List HA},I0.le I->(S4 I p s c)->(FV1 Tryz.prog I hsF fv f0)->NG Q->NO Q->(∀ (I':Imm) ,o=(.done ())->I0.le I'->T 19 B Q (.exit 0) I' hsF [])->(∀ r I' hs' m',o=(.ret r)->I0.le I'->RS Tryz.prog Tryz.f26 B (oL hsF r) I' hs' m'->T 19 B Q .ret I' hs' m')->J Tryz.prog 19 B (nav (bodyOf Tryz.f26) [1,0,1,0]) Q I hsF [(0,vS p s c),(1,fv),(7,vI (s.length:Int)),(8,vI t8)]:=by
 refine xP.partial_correctness s f0 _ fun self ih t8 o N B I0 I Q p c fv hsF H h h1 hg ho hx hr=>yU hg ho<|yH [9] rfl<|zZ<|yG N ?_ ?_
 · intro hc N;refine zS<|zZ<|yF<|yH [5] rfl<|yX<|yE 3 [] [11,12,13] rfl<|bE N fun x hy N=>xT rfl rfl h hy ?_;intro ad ccs hat hrep;obtain ⟨p1,c1,rfl,h2⟩:=xL hrep;refine xO 0 hat (cArr x p1 c1) (vA (cArr x p1 c1)) rfl<|bE N fun y hy1 N=>zIo rfl rfl h1 hy1 ⟨_,rfl,(uO ⟨_,rfl,h2⟩)⟩ (List.append_nil _).symm ?_;rintro I0 v01 le rfl;refine vH (hs':=hsF) (List.append_nil _) ?_;have ⟨h,h1,H⟩:=m3 le h h1 H;refine zX rfl<|zK<|yG N ?_ ?_
   · intro hc1 N;exact yH [4] rfl<|xI<|zV<|zL<|zL<|hr _ _ _ _ (zC N).symm H ⟨_,_,(.tmp rfl ResV.nil),(fun _ h=>h),⟨_,rfl,rfl,rfl⟩⟩
   intro hc1 N;exact zS<|zO<|zK<|zM<|yM [] [8] rfl<|yT<|nT<|ih (W (t8+1)) _ N H h h1 hg ho hx hr
 intro hc N;exact wW<|yW<|hx _  (zC N).symm H
def wX (s:(List zD)) (f0:(zD->Option Bool)):Option (Int):=do
 match<-xP s f0 0 with
 | .ret r0=>pure r0
 | .done _ =>
  pure (-1)
theorem eA:∀ s f0 r,wX s f0=some r->∀ {I:Imm}{p c}{fv:Value}{hsF:List HA},(S4 I p s c)->(FV1 Tryz.prog I hsF fv f0)->RT 26 [vS p s c,fv] I hsF (oL hsF r):=by
 intro s f0 r N I p c fv hsF h h1;unfold wX at N;refine yJ Tryz.func26 fun B=>vM []<|zZ<|yH [7,8] rfl<|wK<|pM [(0,vS p s c),(1,fv),(7,vI (s.length:Int)),(8,vI 0)] ?_;obtain ⟨o0,ho0,hMl⟩:=zB N;refine fM s f0 0 o0 ho0 iR h h1 (fun _ _ _ h=>h) (fun _ _ h=>h) ?_ ?_
 · intro I01  heq le1;subst o0;refine zR<|uN [4] rfl<|zK<|xD ?_;obtain rfl:=zC hMl;exact xC ⟨_,_,(.tmp rfl ResV.nil),(fun _ h=>h),⟨_,rfl,rfl,rfl⟩⟩
 intro r0 I9 hs9 m9 heq9 le9 hrs9;subst heq9;refine zV<|zL ?_;obtain rfl:=zC hMl;exact xC hrs9
def sX (a0:zD) (x:Str):Option (Bool):=do
 pure (a0.Name.l==x.l)
theorem zCz:∀ a0 x r,sX a0 x=some r->∀ {I:Imm}{p c}{ad:Addr},(S4 I p a0.Dims c)->(At I ad [vT x.l])->RT 27 [vA (cArr a0 p c),.pointer (some ad)] I [] (zT  r):=by
 intro a0 x r N I p c ad h hat;unfold sX at N;refine yJ Tryz.func27 fun B=>yC<|vK (cArr a0 p c) ?_;intro b hb;refine wU [] []<|yX<|yE 2 [0] [5] rfl<|xO 0 hat [vT x.l] (vT x.l) rfl<|yM [] [3] rfl<|zK<|xD ?_;obtain rfl:=zC N;exact uE
def zAu (r:zG):KT:=fun kk I' hs' v=>
  ∃ v0,hs'=[]/\v=tupV [v0]/\(∃ cs,v0=.agg ⟨cs⟩/\Rp.rep I' cs r)
def pF (a0:zG) (change:(zA->Option zA)) (t14:Int) (Subs:List zA):Option (List zA):=do
 if (decide (t14<(a0.Subs.length:Int))) then
  let x<-idx a0.Subs t14
  let y<-change x
  let l<-app 32 Subs ([y]:List zA)
  pF a0 change (W (t14+1)) l
 else
  pure (id Subs)
 partial_fixpoint
theorem zD4 (a0:zG) (change:(zA->Option zA)):∀ (t14:Int) (Subs:List zA) (o:List zA),pF a0 change t14 Subs=some o->∀ {B}{I0 I:Imm}{Q p c}{fv:Value}{b1:Nat}{b2:Nat}{p1 c1 cs},I0.le I->(FV1 Tryz.prog I [] fv change)->(S4 I p a0.Subs c)->(RL I cs Subs)->NG Q->NO Q->(∀ (I':Imm) (Subs1:List zA) (p2:Option Addr) (c2:Nat) (cs1:List Value),o=Subs1->I0.le I'->(RL I' cs1 Subs1)->T 28 B Q (.exit 0) I' [hO zA (vS p2 Subs1 c2) cs1,hB b2 [vT a0.Array.l,vS p2 Subs1 c2],hB b1 [vT ([]),z0]] [(4,vP b1 0),(5,vP b2 0)])->J Tryz.prog 28 B (nav (bodyOf Tryz.f157) [1,1,0,1,0]) Q I [hO zA (vS p1 Subs c1) cs,hB b2 [vT a0.Array.l,vS p1 Subs c1],hB b1 [vT ([]),z0]] [(1,fv),(4,vP b1 0),(5,vP b2 0),(12,vS p a0.Subs c),(13,vI (a0.Subs.length:Int)),(14,vI t14)]:=by
 refine pF.partial_correctness a0 change _ fun self ih t14 Subs o N B I0 I Q p c fv b1 b2 p1 c1 cs H h1 h h3 hg ho hx=>yU hg ho<|yH [15] rfl<|zZ<|yG N ?_ ?_
 · intro hc N;refine zS<|zZ<|yF<|yC<|bE N fun x hy N=>xT rfl rfl h hy ?_;intro ad ccs hat hrep;obtain ⟨p3,c3,rfl,h5⟩:=yB hrep;refine xO 0 hat (cAff x p3 c3) (vA (cAff x p3 c3)) rfl<|xU [z0,vI 0] ?_;intro b3 hb3;refine yZ 0 (cAff x p3 c3) rfl<|zX rfl<|zK ?_;obtain ⟨y,hy1,N⟩:=zB N;obtain ⟨l,hy2,N⟩:=zB N;refine wP [.p (vP b2 1) [],.p (vS p1 Subs c1) [1],.p fv [],.p (vA (cAff x p3 c3)) [0],.x (eVAff y),.x (fun I' v hx=>∃ b4,v=vS (some ⟨b4,0,none⟩) ([y]:List zA) 1/\hx=[]/\(SL I' (vS (some ⟨b4,0,none⟩) ([y]:List zA) 1) ([y]:List zA))),.x (fun I' v hx=>∃ p5 c5 cs3,v=vS p5 l c5/\hx=[hO zA (vS p5 l c5) cs3]/\(RL I' cs3 l))] [[],[(0,false)],[],[],[(2,false),(3,false)],[(4,false)],[(1,false),(5,false),(9,true)]] [hB b3 (cAff x p3 c3),hB b2 [vT a0.Array.l,vS p1 Subs c1],hB b1 [vT ([]),z0]] [[hO zA (vS p1 Subs c1) cs]] [(6,true)] (zY [0,2,3,1]) ?_ ?_
   · refine Op<|Op<|Op<|Op<|Ox ?_<|Ox ?_<|Ox ?_<|On
     · intro I1 hf le1;refine yV [20,21] rfl ?_;have H:=iS I1;have ⟨h1,h5⟩:=m2 le1 h1 h5;refine zNv rfl rfl h1 hy1 ⟨_,rfl,(yI ⟨_,rfl,h5⟩)⟩  ?_;rintro I0 v01 le ⟨cs2,rfl,h6⟩;have H:=H.trans le;obtain ⟨p4,c4,rfl,h7⟩:=yB h6;exact yL [] H ⟨_,_,rfl,rfl,h7⟩
     · rintro I1 hf le1 _ _ ⟨p4,c4,rfl,rfl,h7⟩;refine yV [22] rfl ?_;have H:=iS I1;refine mU (rc y (yI ⟨_,rfl,h7⟩) rN) ?_;intro b4 I01 le1 h9;have H:=H.trans le1;exact yL [] H ⟨_,rfl,rfl,h9⟩
     rintro I1 hf le1 _ _ ⟨rfl,rfl⟩ _ _ ⟨b4,rfl,rfl,h9⟩ _ _ rfl;refine yV [19,23] rfl ?_;have h3:=iM le1 h3;obtain ⟨ccs1,k0,k01⟩:=h9;have h9:SL I1 (vS (some ⟨b4,0,none⟩) ([y]:List zA) 1) ([y]:List zA):=⟨_,k0,k01⟩;exact qD 69 2 0 rfl rfl rfl h3 (.inl k0) k01 hy2 fun p5 c5 cs3 h10=>vH (hs':=(hO zA (vS p5 l c5) cs3::hB b3 (cAff x p3 c3)::hB b2 [vT a0.Array.l,vS p1 Subs c1]::hB b1 [vT ([]),z0]::hf)) rfl<|yL [hO zA (vS p5 l c5) cs3] iR ⟨_,_,_,rfl,rfl,h10⟩
   rintro I02 le2 _ _ ⟨p5,c5,cs3,rfl,rfl,h10⟩;refine yV [1,4,5,12,13,14,24] rfl ?_;have ⟨h1,h,H⟩:=m3 le2 h1 h H;exact yE 8 [] [25] rfl<|yZ 2 [vT a0.Array.l,vS p5 l c5] rfl<|zX rfl<|zO<|zK<|zM<|yM [] [14] rfl<|yT<|pL (zW [0,2,3] rfl (by decide))<|nT<|ih (W (t14+1)) l _ N H h1 h h10 hg ho hx
 intro hc N;exact wW<|yW<|hx _ _ _ _ _ (zC N).symm H h3
def jE (a0:zG) (change:(zA->Option zA)):Option (zG):=do
 let Subs1<-pF a0 change 0 ([]:List zA)
 pure (zG.mk a0.Array Subs1)
theorem zBd:∀ a0 change r,jE a0 change=some r->∀ {I:Imm}{p c}{fv:Value},(S4 I p a0.Subs c)->(FV1 Tryz.prog I [] fv change)->RT 157 [vA (cAccess a0 p c),fv] I [] (zAu  r):=by
 intro a0 change r N I p c fv h h1;unfold jE at N;refine yJ Tryz.func157 fun B=>yC<|vK (cAccess a0 p c) ?_;intro b hb;refine xU [vT ([]),z0] ?_;intro b1 hb1;refine zX rfl<|yX<|tZ 3 [1] [(10,vA [vT a0.Array.l,z0])]<|xU [vT ([]),z0] ?_;intro b2 hb2;refine yZ 0 [vT a0.Array.l,z0] rfl<|zX rfl<|zZ<|yC<|yM [2] [12,13,14] rfl<|wK<|pL (zY [0,1] (hs':=[hB b2 [vT a0.Array.l,z0],hB b1 [vT ([]),z0]]))<|pM [(1,fv),(4,vP b1 0),(5,vP b2 0),(12,vS p a0.Subs c),(13,vI (a0.Subs.length:Int)),(14,vI 0)]<|zAb zA fun h2=>?_;obtain ⟨o0,ho0,hMl⟩:=zB N;refine zD4 a0 change 0 ([]:List zA) o0 ho0 iR h1 h h2 (fun _ _ _ h=>h) (fun _ _ h=>h) ?_;intro I03 Subs1 p2 c2 cs1 heq le3 h4;subst o0;refine zR<|yX<|tZ 1 [1] [(27,vA [vT a0.Array.l,vS p2 Subs1 c2])]<|yZ 2 [vT a0.Array.l,vS p2 Subs1 c2] rfl<|zX rfl<|xI<|xE 0 rfl ?_;intro I04 le4 hl01;have h11:=SL.of_frozen hl01 le4 h4;obtain rfl:=zC hMl;exact xC ⟨_,_,(.cell 1 rfl rfl (by kernel_rfl) ResV.nil),zQ,⟨_,rfl,rfl,⟨_,rfl,(rJ ⟨_,rfl,h11⟩)⟩⟩⟩
def eN (r:zH):KT:=fun kk I' hs' v=>
  ∃ v0,hs'=[]/\v=tupV [v0]/\(∃ cs,v0=.agg ⟨cs⟩/\Rp.rep I' cs r)
mutual
def jH (e0:zH) (change:(zA->Option zA)):Option (zH):=do
 let (IndexCoefs,IndexConst,ReadArray,ReadSubs)<-(do
   if (e0.Kind==2) then
    let y<-change e0.Index
    pure (y.Coefs,y.Const,(⟨[]⟩:Str),([]:List zA))
   else
    let (ReadArray1,ReadSubs1)<-(do
      if (e0.Kind==3) then
       let y1<-jE e0.Read change
       pure (y1.Array,y1.Subs)
      else
       pure ((⟨[]⟩:Str),([]:List zA))
        : Option (Str×List zA))
    pure (([]:List Int),0,ReadArray1,ReadSubs1)
     : Option (List Int×Int×Str×List zA))
 let Kids1<-pJ (same e0) (same change) (same 0) ([]:List zH)
 pure (zH.mk e0.Kind e0.Num (zA.mk IndexCoefs IndexConst) (zG.mk ReadArray ReadSubs) Kids1)
 partial_fixpoint
def pJ (e0:zH) (change:(zA->Option zA)) (t32:Int) (Kids:List zH):Option (List zH):=do
 if (decide (t32<(e0.Kids.length:Int))) then
  let x<-idx e0.Kids t32
  let y2<-jH (same x) (same change)
  let l<-app 112 Kids ([y2]:List zH)
  pJ (same e0) (same change) (W (t32+1)) (same l)
 else
  pure (id Kids)
 partial_fixpoint
end
theorem zGT:(∀ (e0:zH) (change:(zA->Option zA)) r,jH e0 change=some r->∀ {I:Imm}{p c p1 c1 p2 c2}{fv:Value},(S4 I p e0.Index.Coefs c)->(S4 I p1 e0.Read.Subs c1)->(S4 I p2 e0.Kids c2)->(FV1 Tryz.prog I [] fv change)->RT 158 [vA (cExpr e0 p c p1 c1 p2 c2),fv] I [] (eN  r))/\(∀ (e0:zH) (change:(zA->Option zA)) (t32:Int) (Kids:List zH) o,pJ e0 change t32 Kids=some o->∀ {B}{I0 I:Imm}{Q}{IndexCoefs:List Int}{IndexConst:Int}{ReadArray:Str}{ReadSubs:List zA}{p2 c2}{fv:Value}{b1:Nat}{b2:Nat}{p3 c3 p4 c4 p8 c8 cs2},I0.le I->(FV1 Tryz.prog I [] fv change)->(S4 I p2 e0.Kids c2)->(S4 I p3 IndexCoefs c3)->(S4 I p4 ReadSubs c4)->(RL I cs2 Kids)->NG Q->NO Q->(∀ (I':Imm) (Kids1:List zH) (p9:Option Addr) (c9:Nat) (cs3:List Value),o=Kids1->I0.le I'->(RL I' cs3 Kids1)->T 46 B Q (.exit 1) I' [hO zH (vS p9 Kids1 c9) cs3,hB b2 [vI e0.Kind,vI e0.Num,vS p3 IndexCoefs c3,vI IndexConst,vT ReadArray.l,vS p4 ReadSubs c4,vS p9 Kids1 c9],hB b1 zExpr] [(4,vP b1 0),(5,vP b2 0)])->J Tryz.prog 46 B (nav (bodyOf Tryz.f158) [1,1,1,0,1,0]) Q I [hO zH (vS p8 Kids c8) cs2,hB b2 [vI e0.Kind,vI e0.Num,vS p3 IndexCoefs c3,vI IndexConst,vT ReadArray.l,vS p4 ReadSubs c4,vS p8 Kids c8],hB b1 zExpr] [(1,fv),(4,vP b1 0),(5,vP b2 0),(30,vS p2 e0.Kids c2),(31,vI (e0.Kids.length:Int)),(32,vI t32)]):=by
  refine jH.mutual_partial_correctness _ _ ?_ ?_
  · intro F_impl_exprMap_l1 ih_impl_exprMap_l1 e0 change r N I p c p1 c1 p2 c2 fv h h1 h2 h3;refine yJ Tryz.func158 fun B=>?_;have H:=iS I;refine yC<|vK (cExpr e0 p c p1 c1 p2 c2) ?_;intro b hb;refine xU zExpr ?_;intro b1 hb1;refine zX rfl<|yX<|tZ 5 [1,1] [(12,vA [vI e0.Kind,vI e0.Num,z0,vI 0,vT ([]),z0,z0])]<|xU zExpr ?_;intro b2 hb2;refine yZ 0 [vI e0.Kind,vI e0.Num,z0,vI 0,vT ([]),z0,z0] rfl<|zX rfl<|zZ<|yC<|yM [2] [14] rfl<|wK<|yH [15] rfl<|zK ?_;obtain ⟨o0,ho0,hMc⟩:=zB N;refine nN (fun I' hs' m'=>∃ (IndexCoefs:List Int) (IndexConst:Int) (ReadArray:Str) (ReadSubs:List zA) (p3:Option Addr) (c3:Nat) (p4:Option Addr) (c4:Nat),o0=(IndexCoefs,IndexConst,ReadArray,ReadSubs)/\I.le I'/\(S4 I' p3 IndexCoefs c3)/\(S4 I' p4 ReadSubs c4)/\hs'=[hB b2 [vI e0.Kind,vI e0.Num,vS p3 IndexCoefs c3,vI IndexConst,vT ReadArray.l,vS p4 ReadSubs c4,z0],hB b1 zExpr,hB b (cExpr e0 p c p1 c1 p2 c2)]/\m'=[(1,fv),(2,vP b 0),(4,vP b1 0),(5,vP b2 0)]) ?_ ?_
    · have H:=iS I;refine yG ho0 ?_ ?_
      · intro hc N;refine zM<|tZ 3 [2] [(17,fv),(19,vA (cAff e0.Index p c))]<|bE N fun y hy N=>zNv rfl rfl h3 hy ⟨_,rfl,(yI ⟨_,rfl,h⟩)⟩  ?_;rintro I01 v0 le ⟨cs,rfl,h6⟩;have H:=H.trans le;obtain ⟨p5,c5,rfl,h7⟩:=yB h6;exact yE 5 [] [21] rfl<|yZ 0 [vI e0.Kind,vI e0.Num,vS p5 y.Coefs c5,vI y.Const,vT ([]),z0,z0] rfl<|zX rfl<|yW<|zU ⟨_,_,_,_,_,_,_,_,(zC N).symm,H,h7,(SL.nil _),rfl,rfl⟩
      intro hc N;refine yH [22] rfl<|zK ?_;obtain ⟨o01,ho01,hMc1⟩:=zB N;refine nN (fun I' hs' m'=>∃ (ReadArray1:Str) (ReadSubs1:List zA) (p6:Option Addr) (c6:Nat),o01=(ReadArray1,ReadSubs1)/\I.le I'/\(S4 I' p6 ReadSubs1 c6)/\hs'=[hB b2 [vI e0.Kind,vI e0.Num,z0,vI 0,vT ReadArray1.l,vS p6 ReadSubs1 c6,z0],hB b1 zExpr,hB b (cExpr e0 p c p1 c1 p2 c2)]/\m'=[(1,fv),(2,vP b 0),(4,vP b1 0),(5,vP b2 0)]) ?_ ?_
      · have H:=iS I;refine yG ho01 ?_ ?_
        · intro hc1 N;refine zM<|tZ 3 [2] [(25,vA (cAccess e0.Read p1 c1)),(26,fv)]<|bE N fun y1 hy1 N=>xH (zBd e0.Read change _ hy1 h1 h3) ?_;rintro I03 hs2 v2 k2 le1 - ⟨v02,rfl,rfl,⟨cs1,rfl,h9⟩⟩ -;have H:=H.trans le1;obtain ⟨p7,c7,rfl,h10⟩:=tD h9;exact yE 5 [] [28] rfl<|yZ 0 [vI e0.Kind,vI e0.Num,z0,vI 0,vT y1.Array.l,vS p7 y1.Subs c7,z0] rfl<|zX rfl<|yW<|zU ⟨_,_,_,_,(zC N).symm,H,h10,rfl,rfl⟩
        intro hc1 N;exact zS<|yW<|zU ⟨_,_,_,_,(zC N).symm,H,(SL.nil _),rfl,rfl⟩
      rintro I02 hs2 m2 ⟨ReadArray1,ReadSubs1,p6,c6,heq,le2,h8,rfl,rfl⟩;subst o01;have H:=H.trans le2;exact yW<|zU ⟨_,_,_,_,_,_,_,_,(zC hMc1).symm,H,(SL.nil _),h8,rfl,rfl⟩
    rintro I0 hs2 m2 ⟨IndexCoefs,IndexConst,ReadArray,ReadSubs,p3,c3,p4,c4,heq1,le3,h4,h5,rfl,rfl⟩;subst o0;have ⟨h3,h,h2⟩:=m3 le3 h3 h h2;refine zO<|zZ<|yC<|yM [2] [30,31,32] rfl<|wK<|pL (zY [0,1] (hs':=[hB b2 [vI e0.Kind,vI e0.Num,vS p3 IndexCoefs c3,vI IndexConst,vT ReadArray.l,vS p4 ReadSubs c4,z0],hB b1 zExpr]))<|pM [(1,fv),(4,vP b1 0),(5,vP b2 0),(30,vS p2 e0.Kids c2),(31,vI (e0.Kids.length:Int)),(32,vI 0)]<|zAb zH fun h11=>?_;obtain ⟨o02,ho02,hMl⟩:=zB hMc;refine ih_impl_exprMap_l1 e0 change 0 ([]:List zH) o02 ho02 iR h3 h2 h4 h5 h11 (fun _ _ _ h=>h) (fun _ _ h=>h) ?_;intro I07 Kids1 p9 c9 cs3 heq2 le7 h13;subst o02;have ⟨h4,h5⟩:=m2 le7 h4 h5;refine zR<|yX<|tZ 1 [1] [(45,vA [vI e0.Kind,vI e0.Num,vS p3 IndexCoefs c3,vI IndexConst,vT ReadArray.l,vS p4 ReadSubs c4,vS p9 Kids1 c9])]<|yZ 2 [vI e0.Kind,vI e0.Num,vS p3 IndexCoefs c3,vI IndexConst,vT ReadArray.l,vS p4 ReadSubs c4,vS p9 Kids1 c9] rfl<|zX rfl<|xI<|xE 0 rfl ?_;intro I08 le8 hl01;have h24:=SL.of_frozen hl01 le8 h13;have ⟨h4,h5⟩:=m2 le8 h4 h5;obtain rfl:=zC hMl;exact xC ⟨_,_,(.cell 1 rfl rfl (by kernel_rfl) ResV.nil),zQ,⟨_,rfl,rfl,⟨_,rfl,(wB ⟨_,_,_,rfl,h4,h5,h24⟩)⟩⟩⟩
  intro F_impl_exprMap F_impl_exprMap_l1 ih_impl_exprMap ih_impl_exprMap_l1 e0 change t32 Kids o N B I0 I Q IndexCoefs IndexConst ReadArray ReadSubs p2 c2 fv b1 b2 p3 c3 p4 c4 p8 c8 cs2 H h3 h2 h4 h5 h12 hg ho hx;refine yU hg ho<|yH [33] rfl<|zZ<|yG N ?_ ?_
  · intro hc2 N;refine zS<|zZ<|yF<|yC<|bE N fun x hy2 N=>xT rfl rfl h2 hy2 ?_;intro ad ccs hat hrep;obtain ⟨p10,c10,p11,c11,p12,c12,rfl,h14,h15,h16⟩:=wT hrep;refine xO 0 hat (cExpr x p10 c10 p11 c11 p12 c12) (vA (cExpr x p10 c10 p11 c11 p12 c12)) rfl<|xU zExpr ?_;intro b3 hb3;refine yZ 0 (cExpr x p10 c10 p11 c11 p12 c12) rfl<|zX rfl<|zK ?_;obtain ⟨y2,hy3,N⟩:=zB N;obtain ⟨l,hy4,N⟩:=zB N;refine wP [.p (vP b2 6) [],.p (vS p8 Kids c8) [1],.p (vA (cExpr x p10 c10 p11 c11 p12 c12)) [0],.p fv [],.x (eVExpr y2),.x (fun I' v hx=>∃ b4,v=vS (some ⟨b4,0,none⟩) ([y2]:List zH) 1/\hx=[]/\(SL I' (vS (some ⟨b4,0,none⟩) ([y2]:List zH) 1) ([y2]:List zH))),.x (fun I' v hx=>∃ p16 c16 cs5,v=vS p16 l c16/\hx=[hO zH (vS p16 l c16) cs5]/\(RL I' cs5 l))] [[],[(0,false)],[],[],[(2,false),(3,false)],[(4,false)],[(1,false),(5,false),(9,true)]] [hB b3 (cExpr x p10 c10 p11 c11 p12 c12),hB b2 [vI e0.Kind,vI e0.Num,vS p3 IndexCoefs c3,vI IndexConst,vT ReadArray.l,vS p4 ReadSubs c4,vS p8 Kids c8],hB b1 zExpr] [[hO zH (vS p8 Kids c8) cs2]] [(6,true)] (zY [0,2,3,1]) ?_ ?_
    · refine Op<|Op<|Op<|Op<|Ox ?_<|Ox ?_<|Ox ?_<|On
      · intro I1 hf le1;refine yV [38,39] rfl ?_;have H:=iS I1;have ⟨h3,h14,h15,h16⟩:=m4 le1 h3 h14 h15 h16;refine xH (ih_impl_exprMap x change _ hy3 h14 h15 h16 h3) ?_;rintro I04 hs2 v2 k2 le4 - ⟨v07,rfl,rfl,⟨cs4,rfl,h17⟩⟩ -;have H:=H.trans le4;obtain ⟨p13,c13,p14,c14,p15,c15,rfl,h18,h19,h20⟩:=wT h17;exact yL [] H ⟨_,_,_,_,_,_,rfl,rfl,h18,h19,h20⟩
      · rintro I1 hf le1 _ _ ⟨p13,c13,p14,c14,p15,c15,rfl,rfl,h18,h19,h20⟩;refine yV [40] rfl ?_;have H:=iS I1;refine mU (rc y2 (wB ⟨_,_,_,rfl,h18,h19,h20⟩) rN) ?_;intro b4 I05 le5 h22;have H:=H.trans le5;exact yL [] H ⟨_,rfl,rfl,h22⟩
      rintro I1 hf le1 _ _ ⟨rfl,rfl⟩ _ _ ⟨b4,rfl,rfl,h22⟩ _ _ rfl;refine yV [37,41] rfl ?_;have h12:=iM le1 h12;obtain ⟨ccs1,k0,k01⟩:=h22;have h22:SL I1 (vS (some ⟨b4,0,none⟩) ([y2]:List zH) 1) ([y2]:List zH):=⟨_,k0,k01⟩;exact qD 72 7 0 rfl rfl rfl h12 (.inl k0) k01 hy4 fun p16 c16 cs5 h23=>vH (hs':=(hO zH (vS p16 l c16) cs5::hB b3 (cExpr x p10 c10 p11 c11 p12 c12)::hB b2 [vI e0.Kind,vI e0.Num,vS p3 IndexCoefs c3,vI IndexConst,vT ReadArray.l,vS p4 ReadSubs c4,vS p8 Kids c8]::hB b1 zExpr::hf)) rfl<|yL [hO zH (vS p16 l c16) cs5] iR ⟨_,_,_,rfl,rfl,h23⟩
    rintro I06 le6 _ _ ⟨p16,c16,cs5,rfl,rfl,h23⟩;refine yV [1,4,5,30,31,32,42] rfl ?_;have ⟨h3,h2,h4,h5,H⟩:=m5 le6 h3 h2 h4 h5 H;exact yE 8 [] [43] rfl<|yZ 2 [vI e0.Kind,vI e0.Num,vS p3 IndexCoefs c3,vI IndexConst,vT ReadArray.l,vS p4 ReadSubs c4,vS p16 l c16] rfl<|zX rfl<|zO<|zK<|zM<|yM [] [32] rfl<|yT<|pL (zW [0,2,3] rfl (by decide))<|nT<|ih_impl_exprMap_l1 e0 change (W (t32+1)) l _ N H h3 h2 h4 h5 h23 hg ho hx
  intro hc2 N;exact wW<|yW<|hx _ _ _ _ _ (zC N).symm H h12
theorem zGr:∀ e0 change r,jH e0 change=some r->∀ {I:Imm}{p c p1 c1 p2 c2}{fv:Value},(S4 I p e0.Index.Coefs c)->(S4 I p1 e0.Read.Subs c1)->(S4 I p2 e0.Kids c2)->(FV1 Tryz.prog I [] fv change)->RT 158 [vA (cExpr e0 p c p1 c1 p2 c2),fv] I [] (eN  r):=zGT.1
def eO (r:zJ):KT:=fun kk I' hs' v=>
  ∃ v0,hs'=[]/\v=tupV [v0]/\(∃ cs,v0=.agg ⟨cs⟩/\Rp.rep I' cs r)
def dI (s:zJ) (change:(zA->Option zA)):Option (zJ):=do
 let y<-jE s.Write change
 let y1<-jH s.Value change
 pure (zJ.mk y y1)
theorem zGs:∀ s change r,dI s change=some r->∀ {I:Imm}{p c p1 c1 p2 c2 p3 c3}{fv:Value},(S4 I p s.Write.Subs c)->(S4 I p1 s.Value.Index.Coefs c1)->(S4 I p2 s.Value.Read.Subs c2)->(S4 I p3 s.Value.Kids c3)->(FV1 Tryz.prog I [] fv change)->RT 121 [vA (cStmt s p c p1 c1 p2 c2 p3 c3),fv] I [] (eO  r):=by
 intro s change r N I p c p1 c1 p2 c2 p3 c3 fv h h1 h2 h3 h4;unfold dI at N;refine yJ Tryz.func121 fun B=>?_;have H:=iS I;refine yC<|vK (cStmt s p c p1 c1 p2 c2 p3 c3) ?_;intro b hb;refine xU [vT ([]),z0,vI 0,vI 0,z0,vI 0,vT ([]),z0,z0] ?_;intro b1 hb1;refine zX rfl<|zK<|yD ?_;obtain ⟨y,hy,N⟩:=zB N;obtain ⟨y1,hy1,N⟩:=zB N;refine wP [.p (vP b 0) [],.p (vA (cAccess s.Write p c)) [1],.p fv [],.x (eVAccess y),.p (vP b 2) [],.p (vA (cExpr s.Value p1 c1 p2 c2 p3 c3)) [1],.p fv [],.x (eVExpr y1),.x (fun I' v hx=>∃ p41 c41 p51 c51 p61 c61 p71 c71,v=vA [vT y.Array.l,vS p41 y.Subs c41,vI y1.Kind,vI y1.Num,vS p51 y1.Index.Coefs c51,vI y1.Index.Const,vT y1.Read.Array.l,vS p61 y1.Read.Subs c61,vS p71 y1.Kids c71]/\hx=[]/\(S4 I' p41 y.Subs c41)/\(S4 I' p51 y1.Index.Coefs c51)/\(S4 I' p61 y1.Read.Subs c61)/\(S4 I' p71 y1.Kids c71))] [[],[(0,false)],[],[(1,false),(2,false)],[],[(4,false)],[],[(5,false),(6,false)],[(3,false),(7,false)]] [hB b1 [vT ([]),z0,vI 0,vI 0,z0,vI 0,vT ([]),z0,z0],hB b (cStmt s p c p1 c1 p2 c2 p3 c3)] [] [(8,false)] (zY [0,1]) ?_ ?_
 · refine Op<|Op<|Op<|Ox ?_<|Op<|Op<|Op<|Ox ?_<|Ox ?_<|On
   · intro I1 hf le1;refine yV [6,7] rfl ?_;have H:=iS I1;have ⟨h4,h⟩:=m2 le1 h4 h;refine xH (zBd s.Write change _ hy h h4) ?_;rintro I0 hs2 v2 k2 le - ⟨v0,rfl,rfl,⟨cs,rfl,h5⟩⟩ -;have H:=H.trans le;obtain ⟨p4,c4,rfl,h6⟩:=tD h5;exact yL [] H ⟨_,_,rfl,rfl,h6⟩
   · intro I1 hf le1;refine yV [10,11] rfl ?_;have H:=iS I1;have ⟨h4,h1,h2,h3⟩:=m4 le1 h4 h1 h2 h3;refine xH (zGr s.Value change _ hy1 h1 h2 h3 h4) ?_;rintro I01 hs2 v2 k2 le1 - ⟨v02,rfl,rfl,⟨cs1,rfl,h7⟩⟩ -;have H:=H.trans le1;obtain ⟨p5,c5,p6,c6,p7,c7,rfl,h8,h9,h10⟩:=wT h7;exact yL [] H ⟨_,_,_,_,_,_,rfl,rfl,h8,h9,h10⟩
   rintro I1 hf le1 _ _ ⟨p4,c4,rfl,rfl,h6⟩ _ _ ⟨p5,c5,p6,c6,p7,c7,rfl,rfl,h8,h9,h10⟩;exact yV [8,12] rfl<|qA 9 [(13,vA [vT y.Array.l,vS p4 y.Subs c4,vI y1.Kind,vI y1.Num,vS p5 y1.Index.Coefs c5,vI y1.Index.Const,vT y1.Read.Array.l,vS p6 y1.Read.Subs c6,vS p7 y1.Kids c7])]<|yL [] iR ⟨_,_,_,_,_,_,_,_,rfl,rfl,h6,h8,h9,h10⟩
 rintro I02 le2 _ _ ⟨p41,c41,p51,c51,p61,c61,p71,c71,rfl,rfl,h61,h81,h91,h101⟩;refine yV [4,13] rfl ?_;refine yZ 0 [vT y.Array.l,vS p41 y.Subs c41,vI y1.Kind,vI y1.Num,vS p51 y1.Index.Coefs c51,vI y1.Index.Const,vT y1.Read.Array.l,vS p61 y1.Read.Subs c61,vS p71 y1.Kids c71] rfl<|zX rfl<|zK<|xD ?_;obtain rfl:=zC N;exact xC ⟨_,_,(.cell 0 rfl rfl (by kernel_rfl) ResV.nil),zQ,⟨_,rfl,rfl,⟨_,rfl,(wC ⟨_,_,_,_,rfl,h61,h81,h91,h101⟩)⟩⟩⟩
def oI (a0:zA):Option (zA):=do
 let y<-tH a0.Coefs
 pure (zA.mk y a0.Const)
theorem zBe:∀ a0 r,oI a0=some r->∀ {I:Imm}{p c},(S4 I p a0.Coefs c)->RT 122 [vA (cAff a0 p c)] I [] (oN  r):=by
 intro a0 r N I p c h;unfold oI at N;refine yJ Tryz.func122 fun B=>?_;have H:=iS I;refine yC<|vK (cAff a0 p c) ?_;intro b hb;refine xU [z0,vI 0] ?_;intro b1 hb1;refine zX rfl<|zZ<|bE N fun y hy N=>wP [.p (vP b 0) [],.p (vS p a0.Coefs c) [1],.x (fun I' v hx=>∃ p1 c1 cs,v=vS p1 y c1/\hx=[hO Int (vS p1 y c1) cs]/\(RL I' cs y)),.p (vP b 1) [],.p (vI a0.Const) [1],.x (fun I' v hx=>∃ p11 c11 cs1,v=vA [vS p11 y c11,vI a0.Const]/\hx=[hO Int (vS p11 y c11) cs1]/\(RL I' cs1 y))] [[],[(0,false)],[(1,false)],[],[(3,false)],[(2,true),(4,false)]] [hB b1 [z0,vI 0],hB b (cAff a0 p c)] [] [(5,true)] (zY [0,1]) ?_ ?_
 · refine Op<|Op<|Ox ?_<|Op<|Op<|Ox ?_<|On
   · intro I1 hf le1;refine yV [4] rfl ?_;have H:=iS I1;have h:=h.mono le1;refine xH (oH a0.Coefs _ hy h) ?_;rintro I0 hs2 v2 k2 le - ⟨p1,c1,cs,rfl,rfl,h1⟩ -;have H:=H.trans le;exact yL [hO Int (vS p1 y c1) cs] H ⟨_,_,_,rfl,rfl,h1⟩
   rintro I1 hf le1 _ _ ⟨p1,c1,cs,rfl,rfl,h1⟩;exact yV [5,7] rfl<|qA 6 [(8,vA [vS p1 y c1,vI a0.Const])]<|yL [hO Int (vS p1 y c1) cs] iR ⟨_,_,_,rfl,rfl,h1⟩
 rintro I01 le1 _ _ ⟨p11,c11,cs1,rfl,rfl,h11⟩;refine yV [2,8] rfl ?_;refine yZ 1 [vS p11 y c11,vI a0.Const] rfl<|zX rfl<|xI<|xE 0 rfl ?_;intro I02 le2 hl0;have h2:=SL.of_frozen hl0 le2 h11;obtain rfl:=zC N;exact xC ⟨_,_,(.cell 0 rfl rfl (by kernel_rfl) ResV.nil),zQ,⟨_,rfl,rfl,⟨_,rfl,(yI ⟨_,rfl,h2⟩)⟩⟩⟩
def dJ (s:zJ):Option (zJ):=do
 let y<-dI s oI
 pure (id y)
theorem zGt:∀ s r,dJ s=some r->∀ {I:Imm}{p c p1 c1 p2 c2 p3 c3},(S4 I p s.Write.Subs c)->(S4 I p1 s.Value.Index.Coefs c1)->(S4 I p2 s.Value.Read.Subs c2)->(S4 I p3 s.Value.Kids c3)->RT 87 [vA (cStmt s p c p1 c1 p2 c2 p3 c3)] I [] (eO  r):=by
 intro s r N I p c p1 c1 p2 c2 p3 c3 h h1 h2 h3;unfold dJ at N;refine yJ Tryz.func87 fun B=>yC<|vK (cStmt s p c p1 c1 p2 c2 p3 c3) ?_;intro b hb;refine xU [vT ([]),z0,vI 0,vI 0,z0,vI 0,vT ([]),z0,z0] ?_;intro b1 hb1;refine zX rfl<|yX<|tZ 1 [1] [(3,vA (cStmt s p c p1 c1 p2 c2 p3 c3))] ?_;have hf0:FV1 Tryz.prog I [] (.func (.func 122) ⟨[]⟩ ⟨[]⟩) oI:=by
   refine FV1.intro ?_;intro I1 le1 x0 r u0 hF k0;obtain ⟨_,rfl,k0⟩:=k0;obtain ⟨p4,c4,rfl,h4⟩:=yB k0;exact (zBe x0 r hF h4).mono (by rintro k i hs u ⟨v0,rfl,rfl,h⟩; exact ⟨rfl,h⟩)
 obtain ⟨y,hy,N⟩:=zB N;refine xH (zGs s oI _ hy h h1 h2 h3 hf0) ?_;rintro I0 hs2 v2 k2 le - ⟨v01,rfl,rfl,⟨cs,rfl,h5⟩⟩ -;obtain ⟨p5,c5,p6,c6,p7,c7,p8,c8,rfl,h6,h7,h8,h9⟩:=vC h5;refine yZ 0 (cStmt y p5 c5 p6 c6 p7 c7 p8 c8) rfl<|zX rfl<|zK<|xD ?_;obtain rfl:=zC N;exact xC ⟨_,_,(.cell 0 rfl rfl (by kernel_rfl) ResV.nil),zQ,⟨_,rfl,rfl,⟨_,rfl,(wC ⟨_,_,_,_,rfl,h6,h7,h8,h9⟩)⟩⟩⟩
def uM (list:(List zA)) (out:List zA) (t8:Int):Option (List zA):=do
 if (decide (t8<(list.length:Int))) then
  let x<-idx list t8
  let y<-oI x
  let out2<-app 32 out ([y]:List zA)
  uM list out2 (W (t8+1))
 else
  pure (id out)
 partial_fixpoint
theorem zDA (list:(List zA)):∀ (out:List zA) (t8:Int) (o:List zA),uM list out t8=some o->∀ {B}{I0 I:Imm}{Q p c p1 c1 cs},I0.le I->(S4 I p list c)->(RL I cs out)->NG Q->NO Q->(∀ (I':Imm) (out1:List zA) (p2:Option Addr) (c2:Nat) (cs1:List Value),o=out1->I0.le I'->(RL I' cs1 out1)->T 19 B Q (.exit 0) I' [hO zA (vS p2 out1 c2) cs1] [(3,vS p2 out1 c2)])->J Tryz.prog 19 B (nav (bodyOf Tryz.f146) [1,1,0,1,0]) Q I [hO zA (vS p1 out c1) cs] [(3,vS p1 out c1),(6,vS p list c),(7,vI (list.length:Int)),(8,vI t8)]:=by
 refine uM.partial_correctness list _ fun self ih out t8 o N B I0 I Q p c p1 c1 cs H h h2 hg ho hx=>yU hg ho<|yH [9] rfl<|zZ<|yG N ?_ ?_
 · intro hc N;refine zS<|zZ<|yF<|yC<|bE N fun x hy N=>xT rfl rfl h hy ?_;intro ad ccs hat hrep;obtain ⟨p3,c3,rfl,h4⟩:=yB hrep;refine xO 0 hat (cAff x p3 c3) (vA (cAff x p3 c3)) rfl<|xU [z0,vI 0] ?_;intro b hb;refine yZ 0 (cAff x p3 c3) rfl<|zX rfl<|zK<|zM<|tZ 2 [0] [(12,vS p1 out c1),(13,vA (cAff x p3 c3))]<|bE N fun y hy1 N=>xH (zBe x _ hy1 h4) ?_;rintro I0 hs2 v2 k2 le - ⟨v01,rfl,rfl,⟨cs2,rfl,h5⟩⟩ -;have ⟨h,h2,H⟩:=m3 le h h2 H;obtain ⟨p4,c4,rfl,h6⟩:=yB h5;refine tK (cAff y p4 c4) zA ?_;intro b1 hb1;have h7:RL I0 (cAff y p4 c4) ([y]:List zA):=⟨(cAff y p4 c4),_,rfl,rfl,(yI ⟨_,rfl,h6⟩),rfl⟩;obtain ⟨out2,hy2,N⟩:=zB N;exact qD 69 2 2 rfl rfl rfl h2 (.inr ⟨0,rfl⟩) h7 hy2 fun p5 c5 cs3 h8=>sW (zY [1,2] (hs':=[hB b (cAff x p3 c3),hO zA (vS p5 out2 c5) cs3]))<|yM [] [3] rfl<|zO<|zK<|zM<|yM [] [8] rfl<|yT<|pL (zW [1] rfl (by decide))<|nT<|ih out2 (W (t8+1)) _ N H h h8 hg ho hx
 intro hc N;exact wW<|yW<|hx _ _ _ _ _ (zC N).symm H h2
def kH (list:(List zA)):Option ((List zA)):=do
 let out1<-uM list ([]:List zA) 0
 pure (id out1)
theorem zBN:∀ list r,kH list=some r->∀ {I:Imm}{p c},(S4 I p list c)->RT 146 [vS p list c] I [] (eJ  r):=by
 intro list r N I p c h;unfold kH at N;refine yJ Tryz.func146 fun B=>vM []<|zFy [(3,z0)]<|zZ<|yH [6,7,8] rfl<|wK<|pM [(3,z0),(6,vS p list c),(7,vI (list.length:Int)),(8,vI 0)]<|zAb zA fun h1=>?_;obtain ⟨o0,ho0,hMl⟩:=zB N;refine zDA list ([]:List zA) 0 o0 ho0 iR h h1 (fun _ _ _ h=>h) (fun _ _ h=>h) ?_;intro I01 out1 p2 c2 cs1 heq le1 h3;subst o0;refine zR<|uN [2] rfl<|xI<|xE 0 rfl ?_;intro I02 le2 hl0;have h9:=SL.of_frozen hl0 le2 h3;obtain rfl:=zC hMl;exact xC ⟨_,_,(.tmp rfl ResV.nil),zQ,⟨_,rfl,rfl,h9⟩⟩
def sU (nest:(List zE)) (out:List zE) (t8:Int):Option (List zE):=do
 if (decide (t8<(nest.length:Int))) then
  let x<-idx nest t8
  let y<-kH x.Lo
  let y1<-kH x.Hi
  let out2<-app 48 out ([(zE.mk y y1)]:List zE)
  sU nest out2 (W (t8+1))
 else
  pure (id out)
 partial_fixpoint
theorem zEe (nest:(List zE)):∀ (out:List zE) (t8:Int) (o:List zE),sU nest out t8=some o->∀ {B}{I0 I:Imm}{Q p c p1 c1 cs},I0.le I->(S4 I p nest c)->(RL I cs out)->NG Q->NO Q->(∀ (I':Imm) (out1:List zE) (p2:Option Addr) (c2:Nat) (cs1:List Value),o=out1->I0.le I'->(RL I' cs1 out1)->T 24 B Q (.exit 0) I' [hO zE (vS p2 out1 c2) cs1] [(3,vS p2 out1 c2)])->J Tryz.prog 24 B (nav (bodyOf Tryz.f106) [1,1,0,1,0]) Q I [hO zE (vS p1 out c1) cs] [(3,vS p1 out c1),(6,vS p nest c),(7,vI (nest.length:Int)),(8,vI t8)]:=by
 refine sU.partial_correctness nest _ fun self ih out t8 o N B I0 I Q p c p1 c1 cs H h h2 hg ho hx=>yU hg ho<|yH [9] rfl<|zZ<|yG N ?_ ?_
 · intro hc N;refine zS<|zZ<|yF<|yC<|bE N fun x hy N=>xT rfl rfl h hy ?_;intro ad ccs hat hrep;obtain ⟨p3,c3,p4,c4,rfl,h4,h5⟩:=wZ hrep;refine xO 0 hat (cLoop x p3 c3 p4 c4) (vA (cLoop x p3 c3 p4 c4)) rfl<|xU zTwo ?_;intro b hb;refine yZ 0 (cLoop x p3 c3 p4 c4) rfl<|zX rfl<|zK ?_;obtain ⟨y,hy1,N⟩:=zB N;obtain ⟨y1,hy2,N⟩:=zB N;obtain ⟨out2,hy3,N⟩:=zB N;refine wP [.p (vS p1 out c1) [],.p (vP b 0) [],.p (vS p3 x.Lo c3) [0],.x (eS y),.p (vP b 1) [],.p (vS p4 x.Hi c4) [0],.x (eS y1),.x (fun I' v hx=>∃ p51 c51 p61 c61,v=vA [vS p51 y c51,vS p61 y1 c61]/\hx=[]/\(S4 I' p51 y c51)/\(S4 I' p61 y1 c61)),.x (fun I' v hx=>∃ b1,v=vS (some ⟨b1,0,none⟩) ([(zE.mk y y1)]:List zE) 1/\hx=[]/\(SL I' (vS (some ⟨b1,0,none⟩) ([(zE.mk y y1)]:List zE) 1) ([(zE.mk y y1)]:List zE))),.x (fun I' v hx=>∃ p7 c7 cs2,v=vS p7 out2 c7/\hx=[hO zE (vS p7 out2 c7) cs2]/\(RL I' cs2 out2))] [[],[],[(1,false)],[(2,false)],[],[(4,false)],[(5,false)],[(3,false),(6,false)],[(7,false)],[(0,false),(8,false),(11,true)]] [hB b (cLoop x p3 c3 p4 c4)] [[hO zE (vS p1 out c1) cs]] [(9,true)] (zY [0,1]) ?_ ?_
   · refine Op<|Op<|Op<|Ox ?_<|Op<|Op<|Ox ?_<|Ox ?_<|Ox ?_<|Ox ?_<|On
     · intro I1 hf le1;refine yV [14] rfl ?_;have H:=iS I1;have h4:=h4.mono le1;refine xH (zBN x.Lo _ hy1 h4) ?_;rintro I0 hs2 v2 k2 le - ⟨v02,rfl,rfl,h6⟩ -;have H:=H.trans le;obtain ⟨p5,c5,rfl⟩:=h6.form;exact yL [] H ⟨_,_,rfl,rfl,h6⟩
     · intro I1 hf le1;refine yV [17] rfl ?_;have H:=iS I1;have h5:=h5.mono le1;refine xH (zBN x.Hi _ hy2 h5) ?_;rintro I01 hs2 v2 k2 le1 - ⟨v03,rfl,rfl,h7⟩ -;have H:=H.trans le1;obtain ⟨p6,c6,rfl⟩:=h7.form;exact yL [] H ⟨_,_,rfl,rfl,h7⟩
     · rintro I1 hf le1 _ _ ⟨p5,c5,rfl,rfl,h6⟩ _ _ ⟨p6,c6,rfl,rfl,h7⟩;exact yV [15,18] rfl<|qA 8 [(19,vA [vS p5 y c5,vS p6 y1 c6])]<|yL [] iR ⟨_,_,_,_,rfl,rfl,h6,h7⟩
     · rintro I1 hf le1 _ _ ⟨p51,c51,p61,c61,rfl,rfl,h61,h71⟩;refine yV [19] rfl ?_;have H:=iS I1;refine mU (rc (zE.mk y y1) (uP ⟨_,_,rfl,h61,h71⟩) rN) ?_;intro b1 I02 le2 h9;have H:=H.trans le2;exact yL [] H ⟨_,rfl,rfl,h9⟩
     rintro I1 hf le1 _ _ ⟨rfl,rfl⟩ _ _ ⟨b1,rfl,rfl,h9⟩ _ _ rfl;refine yV [12,20] rfl ?_;have h2:=iM le1 h2;obtain ⟨ccs1,k0,k01⟩:=h9;have h9:SL I1 (vS (some ⟨b1,0,none⟩) ([(zE.mk y y1)]:List zE) 1) ([(zE.mk y y1)]:List zE):=⟨_,k0,k01⟩;exact qD 130 2 0 rfl rfl rfl h2 (.inl k0) k01 hy3 fun p7 c7 cs2 h10=>vH (hs':=(hO zE (vS p7 out2 c7) cs2::hB b (cLoop x p3 c3 p4 c4)::hf)) rfl<|yL [hO zE (vS p7 out2 c7) cs2] iR ⟨_,_,_,rfl,rfl,h10⟩
   rintro I03 le3 _ _ ⟨p7,c7,cs2,rfl,rfl,h10⟩;refine yV [6,7,8,21] rfl ?_;have ⟨h,H⟩:=m2 le3 h H;exact yM [] [3] rfl<|zO<|zK<|zM<|yM [] [8] rfl<|yT<|pL (zW [0] rfl (by decide))<|nT<|ih out2 (W (t8+1)) _ N H h h10 hg ho hx
 intro hc N;exact wW<|yW<|hx _ _ _ _ _ (zC N).symm H h2
def dK (nest:(List zE)):Option ((List zE)):=do
 let out1<-sU nest ([]:List zE) 0
 pure (id out1)
theorem zGu:∀ nest r,dK nest=some r->∀ {I:Imm}{p c},(S4 I p nest c)->RT 106 [vS p nest c] I [] (zA2  r):=by
 intro nest r N I p c h;unfold dK at N;refine yJ Tryz.func106 fun B=>vM []<|zFy [(3,z0)]<|zZ<|yH [6,7,8] rfl<|wK<|pM [(3,z0),(6,vS p nest c),(7,vI (nest.length:Int)),(8,vI 0)]<|zAb zE fun h1=>?_;obtain ⟨o0,ho0,hMl⟩:=zB N;refine zEe nest ([]:List zE) 0 o0 ho0 iR h h1 (fun _ _ _ h=>h) (fun _ _ h=>h) ?_;intro I04 out1 p2 c2 cs1 heq le4 h3;subst o0;refine zR<|uN [2] rfl<|xI<|xE 0 rfl ?_;intro I05 le5 hl01;have h11:=SL.of_frozen hl01 le5 h3;obtain rfl:=zC hMl;exact xC ⟨_,_,(.tmp rfl ResV.nil),zQ,⟨_,rfl,rfl,h11⟩⟩
def zBf (r:zI):KT:=fun kk I' hs' v=>
  ∃ v0,hs'=[]/\v=tupV [v0]/\(∃ cs,v0=.agg ⟨cs⟩/\Rp.rep I' cs r)
def sV (p:zI) (t13:Int) (Body:List zJ):Option (List zJ):=do
 if (decide (t13<(p.Body.length:Int))) then
  let x<-idx p.Body t13
  let y1<-dJ x
  let l<-app 152 Body ([y1]:List zJ)
  sV p (W (t13+1)) l
 else
  pure (id Body)
 partial_fixpoint
theorem zEf (p:zI):∀ (t13:Int) (Body:List zJ) (o:List zJ),sV p t13 Body=some o->∀ {B}{I0 I:Imm}{Q}{y:(List zE)}{p2 c1}{b1:Nat}{p3 c2}{b2:Nat}{p4 c3 cs},I0.le I->(S4 I p2 p.Body c1)->(S4 I p3 y c2)->(RL I cs Body)->NG Q->NO Q->(∀ (I':Imm) (Body1:List zJ) (p5:Option Addr) (c4:Nat) (cs1:List Value),o=Body1->I0.le I'->(RL I' cs1 Body1)->T 26 B Q (.exit 0) I' [hO zJ (vS p5 Body1 c4) cs1,hB b2 [vS p3 y c2,vS p5 Body1 c4],hB b1 zTwo] [(2,vP b1 0),(3,vP b2 0)])->J Tryz.prog 26 B (nav (bodyOf Tryz.f65) [1,1,0,1,0]) Q I [hO zJ (vS p4 Body c3) cs,hB b2 [vS p3 y c2,vS p4 Body c3],hB b1 zTwo] [(2,vP b1 0),(3,vP b2 0),(11,vS p2 p.Body c1),(12,vI (p.Body.length:Int)),(13,vI t13)]:=by
 refine sV.partial_correctness p _ fun self ih t13 Body o N B I0 I Q y p2 c1 b1 p3 c2 b2 p4 c3 cs H h1 h2 h4 hg ho hx=>yU hg ho<|yH [14] rfl<|zZ<|yG N ?_ ?_
 · intro hc N;refine zS<|zZ<|yF<|yC<|bE N fun x hy1 N=>xT rfl rfl h1 hy1 ?_;intro ad ccs hat hrep;obtain ⟨p6,c5,p7,c6,p8,c7,p9,c8,rfl,h6,h7,h8,h9⟩:=vC hrep;refine xO 0 hat (cStmt x p6 c5 p7 c6 p8 c7 p9 c8) (vA (cStmt x p6 c5 p7 c6 p8 c7 p9 c8)) rfl<|xU [vT ([]),z0,vI 0,vI 0,z0,vI 0,vT ([]),z0,z0] ?_;intro b3 hb3;refine yZ 0 (cStmt x p6 c5 p7 c6 p8 c7 p9 c8) rfl<|zX rfl<|zK ?_;obtain ⟨y1,hy2,N⟩:=zB N;obtain ⟨l,hy3,N⟩:=zB N;refine wP [.p (vP b2 1) [],.p (vS p4 Body c3) [1],.p (vA (cStmt x p6 c5 p7 c6 p8 c7 p9 c8)) [0],.x (eVStmt y1),.x (fun I' v hx=>∃ b4,v=vS (some ⟨b4,0,none⟩) ([y1]:List zJ) 1/\hx=[]/\(SL I' (vS (some ⟨b4,0,none⟩) ([y1]:List zJ) 1) ([y1]:List zJ))),.x (fun I' v hx=>∃ p14 c13 cs3,v=vS p14 l c13/\hx=[hO zJ (vS p14 l c13) cs3]/\(RL I' cs3 l))] [[],[(0,false)],[],[(2,false)],[(3,false)],[(1,false),(4,false),(8,true)]] [hB b3 (cStmt x p6 c5 p7 c6 p8 c7 p9 c8),hB b2 [vS p3 y c2,vS p4 Body c3],hB b1 zTwo] [[hO zJ (vS p4 Body c3) cs]] [(5,true)] (zY [0,2,3,1]) ?_ ?_
   · refine Op<|Op<|Op<|Ox ?_<|Ox ?_<|Ox ?_<|On
     · intro I1 hf le1;refine yV [19] rfl ?_;have H:=iS I1;have ⟨h6,h7,h8,h9⟩:=m4 le1 h6 h7 h8 h9;refine xH (zGt x _ hy2 h6 h7 h8 h9) ?_;rintro I01 hs2 v2 k2 le1 - ⟨v05,rfl,rfl,⟨cs2,rfl,h10⟩⟩ -;have H:=H.trans le1;obtain ⟨p10,c9,p11,c10,p12,c11,p13,c12,rfl,h11,h12,h13,h14⟩:=vC h10;exact yL [] H ⟨_,_,_,_,_,_,_,_,rfl,rfl,h11,h12,h13,h14⟩
     · rintro I1 hf le1 _ _ ⟨p10,c9,p11,c10,p12,c11,p13,c12,rfl,rfl,h11,h12,h13,h14⟩;refine yV [20] rfl ?_;have H:=iS I1;refine mU (rc y1 (wC ⟨_,_,_,_,rfl,h11,h12,h13,h14⟩) rN) ?_;intro b4 I02 le2 h16;have H:=H.trans le2;exact yL [] H ⟨_,rfl,rfl,h16⟩
     rintro I1 hf le1 _ _ ⟨rfl,rfl⟩ _ _ ⟨b4,rfl,rfl,h16⟩ _ _ rfl;refine yV [18,21] rfl ?_;have h4:=iM le1 h4;obtain ⟨ccs1,k0,k01⟩:=h16;have h16:SL I1 (vS (some ⟨b4,0,none⟩) ([y1]:List zJ) 1) ([y1]:List zJ):=⟨_,k0,k01⟩;exact qD 74 9 0 rfl rfl rfl h4 (.inl k0) k01 hy3 fun p14 c13 cs3 h17=>vH (hs':=(hO zJ (vS p14 l c13) cs3::hB b3 (cStmt x p6 c5 p7 c6 p8 c7 p9 c8)::hB b2 [vS p3 y c2,vS p4 Body c3]::hB b1 zTwo::hf)) rfl<|yL [hO zJ (vS p14 l c13) cs3] iR ⟨_,_,_,rfl,rfl,h17⟩
   rintro I03 le3 _ _ ⟨p14,c13,cs3,rfl,rfl,h17⟩;refine yV [2,3,11,12,13,22] rfl ?_;have ⟨h1,h2,H⟩:=m3 le3 h1 h2 H;exact yE 7 [] [23] rfl<|yZ 2 [vS p3 y c2,vS p14 l c13] rfl<|zX rfl<|zO<|zK<|zM<|yM [] [13] rfl<|yT<|pL (zW [0,2,3] rfl (by decide))<|nT<|ih (W (t13+1)) l _ N H h1 h2 h17 hg ho hx
 intro hc N;exact wW<|yW<|hx _ _ _ _ _ (zC N).symm H h4
def dL (p:zI):Option (zI):=do
 let y<-dK p.Nest
 let Body1<-sV p 0 ([]:List zJ)
 pure (zI.mk y Body1)
theorem zGv:∀ p r,dL p=some r->∀ {I:Imm}{p1 c p2 c1},(S4 I p1 p.Nest c)->(S4 I p2 p.Body c1)->RT 65 [vA (cPart p p1 c p2 c1)] I [] (zBf  r):=by
 intro p r N I p1 c p2 c1 h h1;unfold dL at N;refine yJ Tryz.func65 fun B=>yC<|vK (cPart p p1 c p2 c1) ?_;intro b hb;refine xU zTwo ?_;intro b1 hb1;refine zX rfl<|yX<|yE 2 [1] [7] rfl<|bE N fun y hy N=>xH (zGu p.Nest _ hy h) ?_;rintro I0 hs2 v2 k2 le - ⟨v0,rfl,rfl,h2⟩ -;have ⟨h,h1⟩:=m2 le h h1;obtain ⟨p3,c2,rfl⟩:=h2.form;refine yE 4 [] [9] rfl<|xU zTwo ?_;intro b2 hb2;refine yZ 0 [vS p3 y c2,z0] rfl<|zX rfl<|zZ<|yC<|yM [2] [11,12,13] rfl<|wK<|pL (zY [0,1] (hs':=[hB b2 [vS p3 y c2,z0],hB b1 zTwo]))<|pM [(2,vP b1 0),(3,vP b2 0),(11,vS p2 p.Body c1),(12,vI (p.Body.length:Int)),(13,vI 0)]<|zAb zJ fun h3=>?_;obtain ⟨o0,ho0,hMl⟩:=zB N;refine zEf p 0 ([]:List zJ) o0 ho0 iR h1 h2 h3 (fun _ _ _ h=>h) (fun _ _ h=>h) ?_;intro I04 Body1 p5 c4 cs1 heq le4 h5;subst o0;have h2:=h2.mono le4;refine zR<|yX<|tZ 1 [1] [(25,vA [vS p3 y c2,vS p5 Body1 c4])]<|yZ 2 [vS p3 y c2,vS p5 Body1 c4] rfl<|zX rfl<|xI<|xE 0 rfl ?_;intro I05 le5 hl01;have h18:=SL.of_frozen hl01 le5 h5;have h2:=h2.mono le5;obtain rfl:=zC hMl;exact xC ⟨_,_,(.cell 1 rfl rfl (by kernel_rfl) ResV.nil),zQ,⟨_,rfl,rfl,⟨_,rfl,(uQ ⟨_,_,rfl,h2,h18⟩)⟩⟩⟩
def zDB (r:zF):KT:=fun kk I' hs' v=>
  ∃ v0,hs'=[]/\v=tupV [v0]/\(∃ cs,v0=.agg ⟨cs⟩/\Rp.rep I' cs r)
def vU (p:zF) (t11:Int) (Arrays:List zD):Option (List zD):=do
 if (decide (t11<(p.Arrays.length:Int))) then
  let x<-idx p.Arrays t11
  let y<-tH x.Dims
  let l<-app 40 Arrays ([(zD.mk x.Name y)]:List zD)
  vU p (W (t11+1)) l
 else
  pure (id Arrays)
 partial_fixpoint
def vV (p:zF) (t30:Int) (Parts:List zI):Option (List zI):=do
 if (decide (t30<(p.Parts.length:Int))) then
  let x1<-idx p.Parts t30
  let y1<-dL x1
  let l1<-app 48 Parts ([y1]:List zI)
  vV p (W (t30+1)) l1
 else
  pure (id Parts)
 partial_fixpoint
theorem zC7 (p:zF):∀ (t30:Int) (Parts:List zI) (o:List zI),vV p t30 Parts=some o->∀ {B}{I0 I:Imm}{Q}{τ:Type} [Rp τ] {Arrays1:List τ}{p2 c1}{b1:Nat}{b2:Nat}{p4 c3 cs1 p8 c7 cs4},I0.le I->(S4 I p2 p.Parts c1)->(RL I cs1 Arrays1)->(RL I cs4 Parts)->NG Q->NO Q->(∀ (I':Imm) (Parts1:List zI) (p9:Option Addr) (c8:Nat) (cs5:List Value),o=Parts1->I0.le I'->(RL I' cs5 Parts1)->T 43 B Q (.exit 2) I' [hO zI (vS p9 Parts1 c8) cs5,hO τ (vS p4 Arrays1 c3) cs1,hB b2 [vS p4 Arrays1 c3,vS p9 Parts1 c8],hB b1 zTwo] [(2,vP b1 0),(3,vP b2 0)])->J Tryz.prog 43 B (nav (bodyOf Tryz.f28) [1,1,1,0,1,0]) Q I [hO zI (vS p8 Parts c7) cs4,hO τ (vS p4 Arrays1 c3) cs1,hB b2 [vS p4 Arrays1 c3,vS p8 Parts c7],hB b1 zTwo] [(2,vP b1 0),(3,vP b2 0),(28,vS p2 p.Parts c1),(29,vI (p.Parts.length:Int)),(30,vI t30)]:=by
 refine vV.partial_correctness p _ fun self ih t30 Parts o N B I0 I Q τ _ Arrays1 p2 c1 b1 b2 p4 c3 cs1 p8 c7 cs4 H h1 h4 h12 hg ho hx=>yU hg ho<|yH [31] rfl<|zZ<|yG N ?_ ?_
 · intro hc1 N;refine zS<|zZ<|yF<|yC<|bE N fun x1 hy3 N=>xT rfl rfl h1 hy3 ?_;intro ad1 ccs2 hat1 hrep1;obtain ⟨p10,c9,p11,c10,rfl,h14,h15⟩:=wH hrep1;refine xO 0 hat1 (cPart x1 p10 c9 p11 c10) (vA (cPart x1 p10 c9 p11 c10)) rfl<|xU zTwo ?_;intro b5 hb5;refine yZ 0 (cPart x1 p10 c9 p11 c10) rfl<|zX rfl<|zK ?_;obtain ⟨y1,hy4,N⟩:=zB N;obtain ⟨l1,hy5,N⟩:=zB N;refine wP [.p (vP b2 1) [],.p (vS p8 Parts c7) [2],.p (vA (cPart x1 p10 c9 p11 c10)) [0],.x (eVPart y1),.x (fun I' v hx=>∃ b6,v=vS (some ⟨b6,0,none⟩) ([y1]:List zI) 1/\hx=[]/\(SL I' (vS (some ⟨b6,0,none⟩) ([y1]:List zI) 1) ([y1]:List zI))),.x (fun I' v hx=>∃ p14 c13 cs7,v=vS p14 l1 c13/\hx=[hO zI (vS p14 l1 c13) cs7]/\(RL I' cs7 l1))] [[],[(0,false)],[],[(2,false)],[(3,false)],[(1,false),(4,false),(8,true)]] [hB b5 (cPart x1 p10 c9 p11 c10),hO τ (vS p4 Arrays1 c3) cs1,hB b2 [vS p4 Arrays1 c3,vS p8 Parts c7],hB b1 zTwo] [[hO zI (vS p8 Parts c7) cs4]] [(5,true)] (zY [0,2,3,4,1]) ?_ ?_
   · refine Op<|Op<|Op<|Ox ?_<|Ox ?_<|Ox ?_<|On
     · intro I1 hf le1;refine yV [36] rfl ?_;have H:=iS I1;have ⟨h14,h15⟩:=m2 le1 h14 h15;refine xH (zGv x1 _ hy4 h14 h15) ?_;rintro I05 hs2 v2 k2 le5 - ⟨v03,rfl,rfl,⟨cs6,rfl,h16⟩⟩ -;have H:=H.trans le5;obtain ⟨p12,c11,p13,c12,rfl,h17,h18⟩:=wH h16;exact yL [] H ⟨_,_,_,_,rfl,rfl,h17,h18⟩
     · rintro I1 hf le1 _ _ ⟨p12,c11,p13,c12,rfl,rfl,h17,h18⟩;refine yV [37] rfl ?_;have H:=iS I1;refine mU (rc y1 (uQ ⟨_,_,rfl,h17,h18⟩) rN) ?_;intro b6 I06 le6 h20;have H:=H.trans le6;exact yL [] H ⟨_,rfl,rfl,h20⟩
     rintro I1 hf le1 _ _ ⟨rfl,rfl⟩ _ _ ⟨b6,rfl,rfl,h20⟩ _ _ rfl;refine yV [35,38] rfl ?_;have h12:=iM le1 h12;obtain ⟨ccs3,k02,k03⟩:=h20;have h20:SL I1 (vS (some ⟨b6,0,none⟩) ([y1]:List zI) 1) ([y1]:List zI):=⟨_,k02,k03⟩;exact qD 85 2 0 rfl rfl rfl h12 (.inl k02) k03 hy5 fun p14 c13 cs7 h21=>vH (hs':=(hO zI (vS p14 l1 c13) cs7::hB b5 (cPart x1 p10 c9 p11 c10)::hO τ (vS p4 Arrays1 c3) cs1::hB b2 [vS p4 Arrays1 c3,vS p8 Parts c7]::hB b1 zTwo::hf)) rfl<|yL [hO zI (vS p14 l1 c13) cs7] iR ⟨_,_,_,rfl,rfl,h21⟩
   rintro I07 le7 _ _ ⟨p14,c13,cs7,rfl,rfl,h21⟩;refine yV [2,3,28,29,30,39] rfl ?_;have ⟨h1,h4,H⟩:=m3 le7 h1 h4 H;exact yE 7 [] [40] rfl<|yZ 3 [vS p4 Arrays1 c3,vS p14 l1 c13] rfl<|zX rfl<|zO<|zK<|zM<|yM [] [30] rfl<|yT<|pL (zW [0,2,3,4] rfl (by decide))<|nT<|ih (W (t30+1)) l1 _ N H h1 h4 h21 hg ho hx
 intro hc1 N;exact wW<|yW<|hx _ _ _ _ _ (zC N).symm H h12
def jI (p:zF):Option (zF):=do
 let Arrays1<-vU p 0 ([]:List zD)
 let Parts1<-vV p 0 ([]:List zI)
 pure (zF.mk Arrays1 Parts1)
theorem zCS (p:zF):∀ (t11:Int) (Arrays:List zD) (o:List zD),vU p t11 Arrays=some o->∀ {B}{I0 I:Imm}{Q p1 c p2 c1}{b:Nat}{b1:Nat}{b2:Nat}{p3 c2 cs}{xs:List ND},I0.le I->(S4 I p1 p.Arrays c)->(S4 I p2 p.Parts c1)->Arrays=xs.map ND.a->(∀ x∈xs,x.ok I)->(RL I cs (xs.map ND.raw))->NG Q->NO Q->(∀ (I':Imm) (xs1:List ND) (p4:Option Addr) (c3:Nat) (cs1:List Value),o=xs1.map ND.a->I0.le I'->(∀ x∈xs1,x.ok I')->RL I' cs1 (xs1.map ND.raw)->T 43 B Q (.exit 0) I' (hO Raw2 (vS p4 (xs1.map ND.raw) c3) cs1::hB b2 [vS p4 (xs1.map ND.raw) c3,z0]::hB b1 zTwo::hB b (cProg p p1 c p2 c1)::NDs xs1) [(1,vP b 0),(2,vP b1 0),(3,vP b2 0)])->J Tryz.prog 43 B (nav (bodyOf Tryz.f28) [1,1,0,1,0]) Q I (hO Raw2 (vS p3 (xs.map ND.raw) c2) cs::hB b2 [vS p3 (xs.map ND.raw) c2,z0]::hB b1 zTwo::hB b (cProg p p1 c p2 c1)::NDs xs) [(1,vP b 0),(2,vP b1 0),(3,vP b2 0),(9,vS p1 p.Arrays c),(10,vI (p.Arrays.length:Int)),(11,vI t11)]:=by
 refine vU.partial_correctness p _ fun self ih t11 Arrays o N B I0 I Q p1 c p2 c1 b b1 b2 p3 c2 cs xs H h h1 hA hxs h3 hg ho hx=>yU hg ho<|yH [12] rfl<|zZ<|yG N ?_ ?_
 · intro hc N;refine zS<|zZ<|yF<|yC<|bE N fun x hy N=>xT rfl rfl h hy ?_;intro ad ccs hat hrep;obtain ⟨p5,c4,rfl,h5⟩:=xL hrep;refine xO 0 hat (cArr x p5 c4) (vA (cArr x p5 c4)) rfl<|xU [vT ([]),z0] ?_;intro b3 hb3;refine yZ 0 (cArr x p5 c4) rfl<|zX rfl<|zK ?_;obtain ⟨y,hy1,N⟩:=zB N;obtain ⟨l,hy2,N⟩:=zB N;refine zLj (hs:=[hB b3 (cArr x p5 c4),hO Raw2 (vS p3 (xs.map ND.raw) c2) cs,hB b2 [vS p3 (xs.map ND.raw) c2,z0],hB b1 zTwo,hB b (cProg p p1 c p2 c1)]) (L:=NDs xs) .normal (fun I' hs' m'=>∃ p7 c6 cs3 pq cq csq,hs'=[hO Int (vS pq y cq) csq,hO Raw2 (vS p7 (xs.map ND.raw++[(⟨vT x.Name.l,vS pq y cq⟩:Raw2)]) c6) cs3,hB b2 [vS p7 (xs.map ND.raw++[(⟨vT x.Name.l,vS pq y cq⟩:Raw2)]) c6,z0],hB b1 zTwo,hB b (cProg p p1 c p2 c1)]/\m'=[(1,vP b 0),(2,vP b1 0),(3,vP b2 0),(9,vS p1 p.Arrays c),(10,vI (p.Arrays.length:Int)),(11,vI t11)]/\RL I' cs3 (xs.map ND.raw++[(⟨vT x.Name.l,vS pq y cq⟩:Raw2)])/\RL I' csq y) (fun B0=>?_) ?_
   · refine wP [.p (vP b2 0) [],.p (vS p3 (xs.map ND.raw) c2) [1],.p (vP b3 0) [],.p (vT x.Name.l) [0],.p (vP b3 1) [],.p (vS p5 x.Dims c4) [0],.x (fun I' v hx=>∃ p6 c5 cs2,v=vS p6 y c5/\hx=[hO Int (vS p6 y c5) cs2]/\(RL I' cs2 y)),.x (fun I' v hx=>∃ p61 c51 cs21,v=vA [vT x.Name.l,vS p61 y c51]/\hx=[hO Int (vS p61 y c51) cs21]/\(RL I' cs21 y)),.x (fun I' v hx=>∃ b4 pq cq csq,v=vS (some ⟨b4,0,none⟩) [(⟨vT x.Name.l,vS pq y cq⟩:Raw2)] 1/\hx=[hO Int (vS pq y cq) csq]/\RL I' csq y/\SL I' (vS (some ⟨b4,0,none⟩) [(⟨vT x.Name.l,vS pq y cq⟩:Raw2)] 1) [(⟨vT x.Name.l,vS pq y cq⟩:Raw2)]),.x (fun I' v hx=>∃ p7 c6 cs3 pq cq csq,v=vS p7 (xs.map ND.raw++[(⟨vT x.Name.l,vS pq y cq⟩:Raw2)]) c6/\hx=[hO Raw2 (vS p7 (xs.map ND.raw++[(⟨vT x.Name.l,vS pq y cq⟩:Raw2)]) c6) cs3,hO Int (vS pq y cq) csq]/\RL I' cs3 (xs.map ND.raw++[(⟨vT x.Name.l,vS pq y cq⟩:Raw2)])/\RL I' csq y)] [[],[(0,false)],[],[(2,false)],[],[(4,false)],[(5,false)],[(3,false),(6,true)],[(7,true)],[(1,false),(8,true),(12,true)]] [hB b3 (cArr x p5 c4),hB b2 [vS p3 (xs.map ND.raw) c2,z0],hB b1 zTwo,hB b (cProg p p1 c p2 c1)] [[hO Raw2 (vS p3 (xs.map ND.raw) c2) cs]] [(9,true)] (zY [0,2,3,4,1]) ?_ ?_
     · refine Op<|Op<|Op<|Op<|Op<|Op<|Ox ?_<|Ox ?_<|Ox ?_<|Ox ?_<|On
       · intro I1 hf le1;refine yV [20] rfl ?_;have H:=iS I1;have h5:=h5.mono le1;refine xH (oH x.Dims _ hy1 h5) ?_;rintro I0 hs2 v2 k2 le - ⟨p6,c5,cs2,rfl,rfl,h6⟩ -;have H:=H.trans le;exact yL [hO Int (vS p6 y c5) cs2] H ⟨_,_,_,rfl,rfl,h6⟩
       · rintro I1 hf le1 _ _ ⟨rfl,rfl⟩ _ _ ⟨p6,c5,cs2,rfl,rfl,h6⟩;exact yV [18,21] rfl<|qA 8 [(22,vA [vT x.Name.l,vS p6 y c5])]<|yL [hO Int (vS p6 y c5) cs2] iR ⟨_,_,_,rfl,rfl,h6⟩
       · rintro I1 hf le1 _ _ ⟨p61,c51,cs21,rfl,rfl,h61⟩;refine yV [22] rfl<|tK [vT x.Name.l,vS p61 y c51] Raw2 ?_;intro b4 hb4;have h8:RL I1 [vT x.Name.l,vS p61 y c51] [(⟨vT x.Name.l,vS p61 y c51⟩:Raw2)]:=⟨[vT x.Name.l,vS p61 y c51],[],rfl,rfl,⟨rfl,rfl,rfl⟩,rfl⟩;refine xX 0 rfl ?_;intro I02 le2 hl01;have h9:SL I02 (vS (some ⟨b4,0,none⟩) [(⟨vT x.Name.l,vS p61 y c51⟩:Raw2)] 1) [(⟨vT x.Name.l,vS p61 y c51⟩:Raw2)]:=SL.of_frozen hl01 le2 h8;exact yL [hO Int (vS p61 y c51) cs21] le2 ⟨_,_,_,_,rfl,rfl,iM le2 h61,h9⟩
       rintro I1 hf le1 _ _ ⟨rfl,rfl⟩ _ _ ⟨b4,pq,cq,csq,rfl,rfl,hq,h9⟩ _ _ rfl;refine yV [16,23] rfl ?_;have h3:=iM le1 h3;obtain ⟨ccs1,k0,k01⟩:=h9;refine qD (α:=Raw2) 60 2 0 rfl rfl rfl h3 (.inl k0) k01 (zFG (l':=xs.map ND.raw) (m':=[(⟨vT x.Name.l,vS pq y cq⟩:Raw2)]) hy2 (by rw [hA]; simp) rfl) ?_;intro p7 c6 cs3 h10;exact vH (hs':=(hO Raw2 (vS p7 (xs.map ND.raw++[(⟨vT x.Name.l,vS pq y cq⟩:Raw2)]) c6) cs3::hO Int (vS pq y cq) csq::hB b3 (cArr x p5 c4)::hB b2 [vS p3 (xs.map ND.raw) c2,z0]::hB b1 zTwo::hB b (cProg p p1 c p2 c1)::hf)) rfl<|yL [hO Raw2 (vS p7 (xs.map ND.raw++[(⟨vT x.Name.l,vS pq y cq⟩:Raw2)]) c6) cs3,hO Int (vS pq y cq) csq] iR ⟨_,_,_,_,_,_,rfl,rfl,h10,hq⟩
     rintro I03 le3 _ _ ⟨p7,c6,cs3,pq,cq,csq,rfl,rfl,h10,hq⟩;exact pT<|zAl [(1,vP b 0),(2,vP b1 0),(3,vP b2 0),(9,vS p1 p.Arrays c),(10,vI (p.Arrays.length:Int)),(11,vI t11),(24,vS p7 (xs.map ND.raw++[(⟨vT x.Name.l,vS pq y cq⟩:Raw2)]) c6)]<|yE 11 [] [25] rfl<|yZ 3 [vS p7 (xs.map ND.raw++[(⟨vT x.Name.l,vS pq y cq⟩:Raw2)]) c6,z0] rfl<|zX rfl<|wG (zY [1,0,3,4,5] (hs':=[hO Int (vS pq y cq) csq,hO Raw2 (vS p7 (xs.map ND.raw++[(⟨vT x.Name.l,vS pq y cq⟩:Raw2)]) c6) cs3,hB b2 [vS p7 (xs.map ND.raw++[(⟨vT x.Name.l,vS pq y cq⟩:Raw2)]) c6,z0],hB b1 zTwo,hB b (cProg p p1 c p2 c1)]))<|T_w [(1,vP b 0),(2,vP b1 0),(3,vP b2 0),(9,vS p1 p.Arrays c),(10,vI (p.Arrays.length:Int)),(11,vI t11)]<|zLk ⟨_,_,_,_,_,_,rfl,rfl,h10,hq⟩
   rintro I5 hs5 m5 ⟨p7,c6,cs3,pq,cq,csq,rfl,rfl,h10,hq⟩ le5;have e1:(xs++[(⟨x.Name,pq,y,cq,csq⟩:ND)]).map ND.raw=xs.map ND.raw++[(⟨vT x.Name.l,vS pq y cq⟩:Raw2)]:=by rw [List.map_append]; rfl
   have e2:l=(xs++[(⟨x.Name,pq,y,cq,csq⟩:ND)]).map ND.a:=by rw [List.map_append,<- hA]; exact (zAa hy2).2.symm
   have e3:NDs (xs++[(⟨x.Name,pq,y,cq,csq⟩:ND)])=NDs xs++[hO Int (vS pq y cq) csq]:=List.map_append ..;rw [<- e1] at h10 ⊢;refine zM0 ([hO Raw2 (vS p7 ((xs++[(⟨x.Name,pq,y,cq,csq⟩:ND)]).map ND.raw) c6) cs3,hB b2 [vS p7 ((xs++[(⟨x.Name,pq,y,cq,csq⟩:ND)]).map ND.raw) c6,z0],hB b1 zTwo,hB b (cProg p p1 c p2 c1)]++(NDs xs++[hO Int (vS pq y cq) csq])) (zIp _ _ _) ?_;rw [<- e3];exact zO<|zK<|zM<|yM [] [11] rfl<|yT<|nT<|ih (W (t11+1)) l _ N (H.trans le5) (h.mono le5) (h1.mono le5) e2 (zLO (fun x hx=>(hxs x hx).mono le5) hq) h10 hg ho hx
 intro hc N;exact wW<|yW<|hx _ xs _ _ _ ((zC N).symm.trans hA) H hxs h3
def zC8 (r:zF):KT:=fun kk I' hs' v=>
  ∃ (xs:List ND) (pa:Option Addr) (ca:Nat) (csa:List Value) (pp:Option Addr) (cp:Nat),hs'=hO Raw2 (vS pa (xs.map ND.raw) ca) csa::NDs xs/\v=tupV [vA [vS pa (xs.map ND.raw) ca,vS pp r.Parts cp]]/\r.Arrays=xs.map ND.a/\(∀ x∈xs,x.ok I')/\RL I' csa (xs.map ND.raw)/\SL I' (vS pp r.Parts cp) r.Parts
theorem zD5:∀ (p:zF) r,jI p=some r->∀ {I:Imm}{p1 c p2 c1},(S4 I p1 p.Arrays c)->(S4 I p2 p.Parts c1)->RT 28 [vA (cProg p p1 c p2 c1)] I [] (zC8 r):=by
 intro p r N I p1 c p2 c1 h h1;unfold jI at N;refine yJ Tryz.func28 fun B=>yC<|vK (cProg p p1 c p2 c1) ?_;intro b hb;refine xU zTwo ?_;intro b1 hb1;refine zX rfl<|yX<|xU zTwo ?_;intro b2 hb2;refine zX rfl<|zZ<|yC<|yM [2] [9,10,11] rfl<|wK<|pM [(1,vP b 0),(2,vP b1 0),(3,vP b2 0),(9,vS p1 p.Arrays c),(10,vI (p.Arrays.length:Int)),(11,vI 0)]<|pL (gZ (Rp.sz Raw2)) ?_;obtain ⟨o0,ho0,hMl⟩:=zB N;refine zCS p 0 ([]:List zD) o0 ho0 (xs:=[]) iR h h1 rfl (fun _ h=>by cases h) RepL.nil (fun _ _ _ h=>h) (fun _ _ h=>h) ?_;intro I04 xs p4 c3 cs1 heq le4 hxs h4;subst o0;have ⟨h,h1⟩:=m2 le4 h h1;obtain ⟨o01,ho01,hMl1⟩:=zB hMl;refine zR<|zZ<|zLj (hs:=[hO Raw2 (vS p4 (xs.map ND.raw) c3) cs1,hB b2 [vS p4 (xs.map ND.raw) c3,z0],hB b1 zTwo,hB b (cProg p p1 c p2 c1)]) (L:=NDs xs) .normal (fun I' hs' m'=>∃ p9 c8 cs5,hs'=[hO zI (vS p9 o01 c8) cs5,hO Raw2 (vS p4 (xs.map ND.raw) c3) cs1,hB b2 [vS p4 (xs.map ND.raw) c3,vS p9 o01 c8],hB b1 zTwo]/\m'=[(2,vP b1 0),(3,vP b2 0)]/\RL I' cs5 o01/\RL I' cs1 (xs.map ND.raw)) (fun B0=>?_) ?_
 · refine yC<|yM [3] [28,29,30] rfl<|wK<|pL (zY [0,1,2] (hs':=[hO Raw2 (vS p4 (xs.map ND.raw) c3) cs1,hB b2 [vS p4 (xs.map ND.raw) c3,z0],hB b1 zTwo]))<|pM [(2,vP b1 0),(3,vP b2 0),(28,vS p2 p.Parts c1),(29,vI (p.Parts.length:Int)),(30,vI 0)]<|zAb zI fun h11=>?_;refine zC7 p 0 ([]:List zI) o01 ho01 iR h1 h4 h11 (fun _ _ _ h=>by cases h.1) (fun _ _ h=>by cases h.1) ?_;intro I08 Parts1 p9 c8 cs5 heq1 le8 h13;subst o01;exact zR<|zLk ⟨_,_,_,rfl,rfl,h13,iM le8 h4⟩
 rintro I5 hs5 m5 ⟨p9,c8,cs5,rfl,rfl,h13,h5⟩ le5;refine yX<|tZ 1 [2] [(42,vA [vS p4 (xs.map ND.raw) c3,vS p9 o01 c8])]<|eQ 3 [vS p4 (xs.map ND.raw) c3,vS p9 o01 c8] (hO zI (vS p9 o01 c8) cs5::hO Raw2 (vS p4 (xs.map ND.raw) c3) cs1::hB b2 [vS p4 (xs.map ND.raw) c3,vS p9 o01 c8]::hB b1 [vS p4 (xs.map ND.raw) c3,vS p9 o01 c8]::NDs xs) rfl rfl rfl rfl<|zX rfl<|xI<|xE 0 rfl ?_;intro I6 le6 hl6;have h22:=SL.of_frozen hl6 le6 h13;obtain rfl:=zC hMl1;exact xC ⟨_,_,(.cell 2 rfl rfl (by kernel_rfl) ResV.nil),(kM [hO Raw2 (vS p4 (xs.map ND.raw) c3) cs1,hB b2 [vS p4 (xs.map ND.raw) c3,vS p9 o01 c8],hB b1 [vS p4 (xs.map ND.raw) c3,vS p9 o01 c8]] (NDs xs) [0] rfl (by decide)),⟨xs,_,_,_,_,_,rfl,rfl,rfl,(fun x hx=>(hxs x hx).mono (le5.trans le6)),iM le6 h5,h22⟩⟩
def kV (p:zF) (x:zN):Option (zJ):=do
 let x1<-idx p.Parts x.Part
 let x2<-idx x1.Body x.Stmt
 pure (id x2)
theorem zD6:∀ p x r,kV p x=some r->∀ {I:Imm}{p1 c p2 c1 p3 c2},(S4 I p1 p.Arrays c)->(S4 I p2 p.Parts c1)->(S4 I p3 x.Point c2)->RT 29 [vA (cProg p p1 c p2 c1),vA (cInst x p3 c2)] I [] (eO  r):=by
 intro p x r N I p1 c p2 c1 p3 c2 h h1 h2;unfold kV at N;refine yJ Tryz.func29 fun B=>yC<|vK (cProg p p1 c p2 c1) ?_;intro b hb;refine vK (cInst x p3 c2) ?_;intro b1 hb1;refine xU [vT ([]),z0,vI 0,vI 0,z0,vI 0,vT ([]),z0,z0] ?_;intro b2 hb2;refine zX rfl<|zK<|yD ?_;obtain ⟨x1,hy,N⟩:=zB N;obtain ⟨x2,hy1,N⟩:=zB N;refine wP [.p (vP b 1) [],.p (vS p2 p.Parts c1) [2],.p (vP b1 0) [],.p (vI x.Part) [1],.x (ePPart x1),.x (eQPart 1 x1),.x (eS x1.Body),.p (vP b1 1) [],.p (vI x.Stmt) [1],.x (ePStmt x2),.x (eVStmt x2)] [[],[(0,false)],[],[(2,false)],[(1,false),(3,false)],[(4,false)],[(5,false)],[],[(7,false)],[(6,false),(8,false)],[(9,false)]] [hB b2 [vT ([]),z0,vI 0,vI 0,z0,vI 0,vT ([]),z0,z0],hB b1 (cInst x p3 c2),hB b (cProg p p1 c p2 c1)] [] [(10,false)] (zY [0,1,2]) ?_ ?_
 · refine Op<|Op<|Op<|Op<|Ox ?_<|Ox ?_<|Ox ?_<|Op<|Op<|Ox ?_<|Ox ?_<|On
   · intro I1 hf le1;refine yV [6,8] rfl ?_;have h1:=h1.mono le1;refine xT rfl rfl h1 hy ?_;intro ad ccs hat hrep;obtain ⟨p4,c3,p5,c4,rfl,h3,h4⟩:=wH hrep;exact yL [] iR ⟨_,_,_,_,_,rfl,rfl,hat,h3,h4⟩
   · rintro I1 hf le1 _ _ ⟨ad,p4,c3,p5,c4,rfl,rfl,hat,h3,h4⟩;exact yV [9] rfl<|qA 6 [(10,.pointer (some (ad.add 1)))]<|yL [] iR ⟨_,_,_,_,_,rfl,rfl,hat,h3,h4⟩
   · rintro I1 hf le1 _ _ ⟨ad1,p41,c31,p51,c41,rfl,rfl,hat1,h31,h41⟩;exact yV [10] rfl<|xO 1 hat1 [vS p51 x1.Body c41] (vS p51 x1.Body c41) rfl<|yL [] iR ⟨_,_,rfl,rfl,h41⟩
   · rintro I1 hf le1 _ _ ⟨p511,c411,rfl,rfl,h411⟩;refine yV [11,13] rfl<|xT rfl rfl h411 hy1 ?_;intro ad2 ccs1 hat2 hrep1;obtain ⟨p6,c5,p7,c6,p8,c7,p9,c8,rfl,h5,h6,h7,h8⟩:=vC hrep1;exact yL [] iR ⟨_,_,_,_,_,_,_,_,_,rfl,rfl,hat2,h5,h6,h7,h8⟩
   rintro I1 hf le1 _ _ ⟨ad2,p6,c5,p7,c6,p8,c7,p9,c8,rfl,rfl,hat2,h5,h6,h7,h8⟩;exact yV [14] rfl<|xO 0 hat2 (cStmt x2 p6 c5 p7 c6 p8 c7 p9 c8) (vA (cStmt x2 p6 c5 p7 c6 p8 c7 p9 c8)) rfl<|yL [] iR ⟨_,_,_,_,_,_,_,_,rfl,rfl,h5,h6,h7,h8⟩
 rintro I0 le _ _ ⟨p61,c51,p71,c61,p81,c71,p91,c81,rfl,rfl,h51,h61,h71,h81⟩;refine yV [4,15] rfl ?_;refine yZ 0 (cStmt x2 p61 c51 p71 c61 p81 c71 p91 c81) rfl<|zX rfl<|zK<|xD ?_;obtain rfl:=zC N;exact xC ⟨_,_,(.cell 0 rfl rfl (by kernel_rfl) ResV.nil),zQ,⟨_,rfl,rfl,⟨_,rfl,(wC ⟨_,_,_,_,rfl,h51,h61,h71,h81⟩)⟩⟩⟩
end Go.LN
