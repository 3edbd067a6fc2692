/- Helper of the proof (see the last text). -/
import Derived.Test.YtcmjkmdecmabaaaGreatHM5
set_option linter.unusedVariables false
set_option linter.unusedSimpArgs false
namespace Go.LN
open Go.Proofs Go.Proofs.Tryz
set_option maxRecDepth 20000
def oM (a0:zL):Option (Bool):=do
 let t2<-(do
   if (a0.Array.l==([]:List UInt8)) then
    pure ((a0.Subs.length:Int)==0)
   else
    pure false
     : Option Bool)
 pure (id t2)
theorem eG:∀ a0 r,oM a0=some r->∀ {I:Imm}{p c},(S4 I p a0.Subs c)->RT 164 [vA (cAccess a0 p c)] I [] (zT  r):=by
 intro a0 r N I p c h;unfold oM at N;refine yJ func164 fun B=>?_;have H:=iS I;refine yE<|tO (cAccess a0 p c) ?_;intro b hb;refine wG [] []<|zG<|zZ ?_;refine wO N [] (fun t2=>[(2,.bool t2)]) (fun o0 aD=>?_) ?_
 · have H:=iS I;refine zJ<|yB 4 [0] [6] rfl<|xV [6] aD ?_ ?_
   · intro hc N;exact yH [0] [2] rfl<|xQ zQ<|yL<|zU (ct N H)
   intro hc N;exact wG [] [(2,vF)]<|xQ zQ<|yL<|zU (ct N H)
 intro t2 I0 le aU;refine zG<|yW ?_;obtain rfl:=zC aU;exact wI
def zAX (kind:Int):Option (Bool):=do
 let y<-wB kind 4 6
 pure (id y)
theorem zJ9:∀ kind r,zAX kind=some r->∀ {I:Imm} ,RT 165 [vI kind] I [] (zT  r):=by
 intro kind r N I;unfold zAX at N;refine yJ func165 fun B=>wP []<|yX<|yB 1 [] [3] rfl<|bE N fun y hy N=>vQ (wH kind 4 6 _ hy ) fun I0 le=>wG [] [(2,.bool y)]<|zG<|yW ?_;obtain rfl:=zC N;exact wI
def zE6 (b0:Nat) (r:Bool×Int):KT:=fun kk I' ah v=>
  ∃ v0 k0,ah=[.blk b0 ⟨k0⟩]/\v=tupV [v0]/\v0=.bool r.1/\Rp.rep I' k0 r.2
def uU (e0:zI) (aa:Int) (deep:Int) (count:Int):Option (Bool×Int):=do
 let t21<-(do
   if (decide ((W (count+1))>12)) then
    pure true
   else
    pure (decide (deep>5))
     : Option Bool)
 if t21 then
  pure (false,(W (count+1)))
 else
  let t51<-(do
    if (e0.Kind != 1) then
     if (e0.Num != 0) then
      pure true
     else
      if (e0.Kind != 2) then
       let y<-kV e0.Index
       if (!y) then
        pure true
       else
        if (e0.Kind != 3) then
         let y1<-oM e0.Read
         pure (!y1)
        else
         pure false
      else
       if (e0.Kind != 3) then
        let y2<-oM e0.Read
        pure (!y2)
       else
        pure false
    else
     if (e0.Kind != 2) then
      let y3<-kV e0.Index
      if (!y3) then
       pure true
      else
       if (e0.Kind != 3) then
        let y4<-oM e0.Read
        pure (!y4)
       else
        pure false
     else
      if (e0.Kind != 3) then
       let y5<-oM e0.Read
       pure (!y5)
      else
       pure false
      : Option Bool)
  if t51 then
   pure (false,(W (count+1)))
  else
   if (e0.Kind==1) then
    let t8<-(do
      let y6<-wB e0.Num 0 99
      if y6 then
       pure ((e0.Kids.length:Int)==0)
      else
       pure false
        : Option Bool)
    pure (t8,(W (count+1)))
   else
    if (e0.Kind==2) then
     let t81<-(do
       let y7<-pE e0.Index
       if y7 then
        let y8<-rX e0.Index
        if (decide (y8<=aa)) then
         pure ((e0.Kids.length:Int)==0)
        else
         pure false
       else
        pure false
         : Option Bool)
     pure (t81,(W (count+1)))
    else
     if (e0.Kind==3) then
      let t82<-(do
        let y9<-kU e0.Read aa
        if y9 then
         pure ((e0.Kids.length:Int)==0)
        else
         pure false
          : Option Bool)
      pure (t82,(W (count+1)))
     else
      let t99<-(do
        let y10<-zAX e0.Kind
        if (!y10) then
         pure true
        else
         pure ((e0.Kids.length:Int) != 2)
          : Option Bool)
      if t99 then
       pure (false,(W (count+1)))
      else
       let (t83,x)<-(do
         let x1<-idx e0.Kids 0
         let (y12,y13)<-uU (same x1) (same aa) (W (deep+1)) (W (count+1))
         if y12 then
          let x2<-idx e0.Kids 1
          let (y15,y16)<-uU (same x2) (same aa) (W (deep+1)) (same y13)
          pure (y15,y16)
         else
          pure (false,y13)
           : Option (Bool×Int))
       pure (t83,x)
 partial_fixpoint
theorem zG2:∀ e0 aa deep count r,uU e0 aa deep count=some r->∀ {I:Imm}{p c p1 c1 p2 c2}{r0:Nat},(S4 I p e0.Index.Coefs c)->(S4 I p1 e0.Read.Subs c1)->(S4 I p2 e0.Kids c2)->RT 121 [vA (cExpr e0 p c p1 c1 p2 c2),vI aa,vI deep,vP r0 0] I [hB r0 [vI count]] (zE6 r0 r):=by
 refine uU.partial_correctness _ fun F_impl_exprScan ih_impl_exprScan e0 aa deep count r N I p c p1 c1 p2 c2 r0 h h1 h2=>yJ func121 fun B=>?_;have H:=iS I;refine yE<|tO (cExpr e0 p c p1 c1 p2 c2) ?_;intro b hb;refine wG [] []<|yX<|yB 5 [1] [12,13] rfl<|xJ 1 [vI (W (count+1))] rfl<|yD rfl<|zX<|zZ ?_;refine wO N [hB b (cExpr e0 p c p1 c1 p2 c2),hB r0 [vI (W (count+1))]] (fun t21=>[(1,vI aa),(2,vI deep),(3,vP r0 0),(4,vP b 0),(21,.bool t21)]) (fun o0 aD=>?_) ?_
 · have H:=iS I;refine zJ<|yB 5 [1] [18] rfl<|xV [18] aD ?_ ?_
   · intro hc N;exact wG [] [(21,vY)]<|yL<|zU (ct N H)
   intro hc N;exact yH [] [21] rfl<|yL<|zU (ct N H)
 intro t21 I0 le aU;have ⟨h,h1,h2,H⟩:=m4 le h h1 h2 H;refine zG<|yC aU ?_ ?_
 · intro aI N;refine wP [(8,vF)]<|xD<|zH ?_;obtain rfl:=zC N;exact yZ ⟨_,_,(.tmp rfl ResV.nil),(zW [1] rfl (by decide)),⟨_,_,rfl,rfl,rfl,rfl⟩⟩
 intro aI N;refine zS<|zX<|zZ ?_;refine wO N [hB b (cExpr e0 p c p1 c1 p2 c2),hB r0 [vI (W (count+1))]] (fun t51=>[(1,vI aa),(2,vI deep),(3,vP r0 0),(4,vP b 0),(51,.bool t51)]) (fun aP aA=>?_) ?_
 · have H:=iS I0;refine zJ<|yB 4 [0] [25] rfl<|xV [25] aA ?_ ?_
   · intro aX N;refine yB 9 [0] [30] rfl<|xV [30] N ?_ ?_
     · intro bK N;exact wG [] [(51,vY)]<|yL<|zU (ct N H)
     intro bK N;refine yB 13 [0] [34] rfl<|xV [34] N ?_ ?_
     · intro bO N;refine rQ 15 [0] [(36,vA (cAff e0.Index p c))]<|bE N fun y hy N=>vQ (zBz e0.Index _ hy h) ?_;intro ba af;have ⟨h1,H⟩:=m2 af h1 H;refine yB 20 [] [41] rfl<|xV [41] N ?_ ?_
       · intro hc5 N;exact wG [] [(51,vY)]<|yL<|zU (ct N H)
       intro hc5 N;refine yB 24 [0] [45] rfl<|xV [45] N ?_ ?_
       · intro hc6 N;refine rQ 26 [0] [(47,vA (cAccess e0.Read p1 c1))]<|bE N fun y1 aB N=>vQ (eG e0.Read _ aB h1) ?_;intro bH aF;have H:=H.trans aF;exact yH [] [51] rfl<|yL<|zU (ct N H)
       intro hc6 N;exact wG [] [(51,vF)]<|yL<|zU (ct N H)
     intro bO N;refine yB 24 [0] [41,45] rfl<|xV [45] N ?_ ?_
     · intro hc7 N;refine rQ 26 [0] [(47,vA (cAccess e0.Read p1 c1))]<|bE N fun y2 aN N=>vQ (eG e0.Read _ aN h1) ?_;intro bL aK;have H:=H.trans aK;exact yH [] [51] rfl<|yL<|zU (ct N H)
     intro hc7 N;exact wG [] [(51,vF)]<|yL<|zU (ct N H)
   intro aX N;refine yB 13 [0] [30,34] rfl<|xV [34] N ?_ ?_
   · intro hc8 N;refine rQ 15 [0] [(36,vA (cAff e0.Index p c))]<|bE N fun y3 bm N=>vQ (zBz e0.Index _ bm h) ?_;intro bR bk;have ⟨h1,H⟩:=m2 bk h1 H;refine yB 20 [] [41] rfl<|xV [41] N ?_ ?_
     · intro hc9 N;exact wG [] [(51,vY)]<|yL<|zU (ct N H)
     intro hc9 N;refine yB 24 [0] [45] rfl<|xV [45] N ?_ ?_
     · intro hc10 N;refine rQ 26 [0] [(47,vA (cAccess e0.Read p1 c1))]<|bE N fun y4 bw N=>vQ (eG e0.Read _ bw h1) ?_;intro I06 bz;have H:=H.trans bz;exact yH [] [51] rfl<|yL<|zU (ct N H)
     intro hc10 N;exact wG [] [(51,vF)]<|yL<|zU (ct N H)
   intro hc8 N;refine yB 24 [0] [41,45] rfl<|xV [45] N ?_ ?_
   · intro hc11 N;refine rQ 26 [0] [(47,vA (cAccess e0.Read p1 c1))]<|bE N fun y5 bI N=>vQ (eG e0.Read _ bI h1) ?_;intro I07 bC;have H:=H.trans bC;exact yH [] [51] rfl<|yL<|zU (ct N H)
   intro hc11 N;exact wG [] [(51,vF)]<|yL<|zU (ct N H)
 intro t51 aW le7 hMc1;have ⟨h,h1,h2,H⟩:=m4 le7 h h1 h2 H;refine zG<|yC hMc1 ?_ ?_
 · intro hc12 N;refine wP [(8,vF)]<|xD<|zH ?_;obtain rfl:=zC N;exact yZ ⟨_,_,(.tmp rfl ResV.nil),(zW [1] rfl (by decide)),⟨_,_,rfl,rfl,rfl,rfl⟩⟩
 intro hc12 N;refine zS<|zX<|yG<|yE<|yH [0] [52] rfl<|zG<|yC N ?_ ?_
 · intro hc13 N;refine zZ ?_;refine wO N [hB r0 [vI (W (count+1))]] (fun t8=>[(8,.bool t8)]) (fun o02 ho02=>?_) ?_
   · have H:=iS aW;refine zJ<|yB 2 [0] [57] rfl ?_;obtain ⟨y6,hy6,N⟩:=zB ho02;refine vQ (wH e0.Num 0 99 _ hy6 ) ?_;intro I09 le8;have H:=H.trans le8;refine yB 4 [] [59] rfl<|xV [59] N ?_ ?_
     · intro hc14 N;exact yH [0] [8] rfl<|xQ (zW [1] rfl (by decide))<|yL<|zU (ct N H)
     intro hc14 N;exact wG [] [(8,vF)]<|xQ (zW [1] rfl (by decide))<|yL<|zU (ct N H)
   intro t8 I08 le9 hMc2;refine xD<|zV<|zH ?_;obtain rfl:=zC hMc2;exact yZ ⟨_,_,(.tmp rfl ResV.nil),(zW [0] rfl (by decide)),⟨_,_,rfl,rfl,rfl,rfl⟩⟩
 intro hc13 N;refine yE<|yH [0] [65] rfl<|zG<|yC N ?_ ?_
 · intro hc15 N;refine zZ ?_;refine wO N [hB r0 [vI (W (count+1))]] (fun t81=>[(8,.bool t81)]) (fun o03 ho03=>?_) ?_
   · have H:=iS aW;refine zJ<|rQ 2 [0] [(70,vA (cAff e0.Index p c))] ?_;obtain ⟨y7,hy7,N⟩:=zB ho03;refine vQ (mQ e0.Index _ hy7 h) ?_;intro bY le10;have ⟨h,H⟩:=m2 le10 h H;refine yB 4 [] [72] rfl<|xV [72] N ?_ ?_
     · intro hc16 N;refine rQ 6 [0] [(74,vA (cAff e0.Index p c))]<|bE N fun y8 hy8 N=>fK (fY e0.Index _ hy8 h) ?_;intro bX le11;have H:=H.trans le11;refine yB 11 [] [79] rfl<|xV [79] N ?_ ?_
       · intro hc17 N;exact yH [0] [8] rfl<|xQ (zW [1] rfl (by decide))<|yL<|zU (ct N H)
       intro hc17 N;exact wG [] [(8,vF)]<|xQ (zW [1] rfl (by decide))<|yL<|zU (ct N H)
     intro hc16 N;exact wG [] [(8,vF)]<|xQ (zW [1] rfl (by decide))<|yL<|zU (ct N H)
   intro t81 bS le12 hMc3;refine xD<|zV<|zH ?_;obtain rfl:=zC hMc3;exact yZ ⟨_,_,(.tmp rfl ResV.nil),(zW [0] rfl (by decide)),⟨_,_,rfl,rfl,rfl,rfl⟩⟩
 intro hc15 N;refine yE<|yH [0] [85] rfl<|zG<|yC N ?_ ?_
 · intro hc18 N;refine zZ ?_;refine wO N [hB r0 [vI (W (count+1))]] (fun t82=>[(8,.bool t82)]) (fun o04 ho04=>?_) ?_
   · have H:=iS aW;refine zJ<|rQ 3 [0] [(90,vA (cAccess e0.Read p1 c1)),(91,vI aa)] ?_;obtain ⟨y9,hy9,N⟩:=zB ho04;refine vQ (zBy e0.Read aa _ hy9 h1) ?_;intro I014 le13;have H:=H.trans le13;refine yB 5 [] [93] rfl<|xV [93] N ?_ ?_
     · intro hc19 N;exact yH [0] [8] rfl<|xQ (zW [1] rfl (by decide))<|yL<|zU (ct N H)
     intro hc19 N;exact wG [] [(8,vF)]<|xQ (zW [1] rfl (by decide))<|yL<|zU (ct N H)
   intro t82 I013 le14 hMc4;refine xD<|zV<|zH ?_;obtain rfl:=zC hMc4;exact yZ ⟨_,_,(.tmp rfl ResV.nil),(zW [0] rfl (by decide)),⟨_,_,rfl,rfl,rfl,rfl⟩⟩
 intro hc18 N;refine zZ ?_;refine wO N [hB b (cExpr e0 p c p1 c1 p2 c2),hB r0 [vI (W (count+1))]] (fun t99=>[(1,vI aa),(2,vI deep),(3,vP r0 0),(4,vP b 0),(99,.bool t99)]) (fun o05 ho05=>?_) ?_
 · have H:=iS aW;refine zJ<|yB 2 [0] [101] rfl ?_;obtain ⟨y10,hy10,N⟩:=zB ho05;refine vQ (zJ9 e0.Kind _ hy10 ) ?_;intro I016 le15;have H:=H.trans le15;refine yB 5 [] [104] rfl<|xV [104] N ?_ ?_
   · intro hc20 N;exact wG [] [(99,vY)]<|yL<|zU (ct N H)
   intro hc20 N;exact yH [0] [99] rfl<|yL<|zU (ct N H)
 intro t99 I015 le16 hMc5;have ⟨h2,H⟩:=m2 le16 h2 H;refine zG<|yC hMc5 ?_ ?_
 · intro hc21 N;refine wP [(8,vF)]<|xD<|zV<|zH ?_;obtain rfl:=zC N;exact yZ ⟨_,_,(.tmp rfl ResV.nil),(zW [1] rfl (by decide)),⟨_,_,rfl,rfl,rfl,rfl⟩⟩
 intro hc21 N;refine zS<|zM<|zG<|zZ ?_;obtain ⟨o06,ho06,hMc6⟩:=zB N;refine qF (fun I' ah m'=>∃ (t83:Bool) (x:Int),o06=(t83,x)/\I015.le I'/\ah=[hB r0 [vI x]]/\m'=[(8,.bool t83)]) ?_ ?_
 · have H:=iS I015;refine zJ<|yB 2 [0] [111] rfl ?_;obtain ⟨x1,hy11,N⟩:=zB ho06;refine xK rfl rfl h2 hy11 ?_;intro ad aQ ar ap;obtain ⟨p3,c3,p4,c4,p5,c5,rfl,h14,h15,h16⟩:=tS ap;refine xB 0 ar (cExpr x1 p3 c3 p4 c4 p5 c5) (vA (cExpr x1 p3 c3 p4 c4 p5 c5)) rfl<|yB 8 [] [114,116,117] rfl<|tZ (zY [1,0] (ah:=[hB r0 [vI (W (count+1))],hB b (cExpr e0 p c p1 c1 p2 c2)])) ?_;obtain ⟨⟨y12,y13⟩,hy12,N⟩:=zB N;refine sJ (ih_impl_exprScan x1 aa (W (deep+1)) (W (count+1)) _ hy12 h14 h15 h16) rfl ?_;rintro I018 ay v2 k2 le17 - ⟨v014,kk,rfl,rfl,rfl,h18⟩ -;have ⟨h2,H⟩:=m2 le17 h2 H;obtain rfl:=h18;refine yB 10 [] [119] rfl<|xV [119] N ?_ ?_
   · intro hc22 N;refine yB 12 [1] [121] rfl<|bE N fun x2 hy13 N=>xK rfl rfl h2 hy13 ?_;intro ad1 bv av ax;obtain ⟨p6,c6,p7,c7,p8,c8,rfl,h19,h20,h21⟩:=tS ax;refine xB 0 av (cExpr x2 p6 c6 p7 c7 p8 c8) (vA (cExpr x2 p6 c6 p7 c7 p8 c8)) rfl<|yB 18 [] [124,126,127] rfl ?_;obtain ⟨⟨y15,y16⟩,hy14,N⟩:=zB N;refine sJ (ih_impl_exprScan x2 aa (W (deep+1)) y13 _ hy14 h19 h20 h21) rfl ?_;rintro I019 ay v2 k2 le18 - ⟨v018,kk1,rfl,rfl,rfl,h23⟩ -;have H:=H.trans le18;obtain rfl:=h23;exact yH [] [8] rfl<|xQ (zW [0] rfl (by decide))<|yL<|zU ⟨_,_,(zC N).symm,H,rfl,rfl⟩
   intro hc22 N;exact wG [] [(8,vF)]<|xQ (zW [0] rfl (by decide))<|yL<|zU ⟨_,_,(zC N).symm,H,rfl,rfl⟩
 rintro I017 ay m2 ⟨t83,x,heq6,le19,rfl,rfl⟩;subst o06;refine zG<|yW ?_;obtain rfl:=zC hMc6;exact yZ ⟨_,_,(.tmp rfl ResV.nil),(zW [0] rfl (by decide)),⟨_,_,rfl,rfl,rfl,rfl⟩⟩
def gA (s:zP) (aa:Int):Option (Bool):=do
 let t4<-(do
   let y<-wB aa 0 4
   if y then
    let y1<-kU s.Write aa
    if y1 then
     let (y3,y4)<-uU s.Value aa 1 0
     pure (id y3)
    else
     pure false
   else
    pure false
     : Option Bool)
 pure (id t4)
theorem zF3:∀ s aa r,gA s aa=some r->∀ {I:Imm}{p c p1 c1 p2 c2 p3 c3},(S4 I p s.Write.Subs c)->(S4 I p1 s.Value.Index.Coefs c1)->(S4 I p2 s.Value.Read.Subs c2)->(S4 I p3 s.Value.Kids c3)->RT 81 [vA (cStmt s p c p1 c1 p2 c2 p3 c3),vI aa] I [] (zT  r):=by
 intro s aa r N I p c p1 c1 p2 c2 p3 c3 h h1 h2 h3;unfold gA at N;refine yJ func81 fun B=>?_;have H:=iS I;refine yE<|tO (cStmt s p c p1 c1 p2 c2 p3 c3) ?_;intro b hb;refine wG [] []<|yX<|wS [vI 0] ?_;intro b1 hb1;refine xJ 0 [vI 0] rfl<|yD rfl<|zG<|zZ ?_;refine wO N [] (fun t4=>[(4,.bool t4)]) (fun o0 aD=>?_) ?_
 · have H:=iS I;refine zJ<|yB 1 [] [6] rfl ?_;obtain ⟨y,hy,N⟩:=zB aD;refine vQ (wH aa 0 4 _ hy ) ?_;intro aW le;have ⟨h,h1,h2,h3,H⟩:=m5 le h h1 h2 h3 H;refine yB 3 [] [8] rfl<|xV [8] N ?_ ?_
   · intro hc N;refine rQ 6 [1] [(10,vA (cAccess s.Write p c)),(11,vI aa)]<|bE N fun y1 aB N=>vQ (zBy s.Write aa _ aB h) ?_;intro ba af;have ⟨h1,h2,h3,H⟩:=m4 af h1 h2 h3 H;refine yB 9 [] [14] rfl<|xV [14] N ?_ ?_
     · intro aI N;refine rQ 12 [1] [(16,vA (cExpr s.Value p1 c1 p2 c2 p3 c3)),(17,vI aa)] ?_;obtain ⟨⟨y3,y4⟩,aN,N⟩:=zB N;refine sJ (zG2 s.Value aa 1 0 _ aN h1 h2 h3) rfl ?_;rintro bH ay v2 k2 aF - ⟨v02,kk,rfl,rfl,rfl,h7⟩ -;have H:=H.trans aF;obtain rfl:=h7;exact yH [] [4] rfl<|xQ zQ<|yL<|zU (ct N H)
     intro aI N;exact wG [] [(4,vF)]<|xQ zQ<|yL<|zU (ct N H)
   intro hc N;exact wG [] [(4,vF)]<|xQ zQ<|yL<|zU (ct N H)
 intro t4 I0 aK aU;refine zG<|yW ?_;obtain rfl:=zC aU;exact wI
def vW (s:zP) (x:zO):Option (Bool):=do
 let y<-gA s (x.Nest.length:Int)
 pure (!y)
theorem zAg:∀ s x r,vW s x=some r->∀ {I:Imm}{p c p1 c1 p2 c2 p3 c3}{ad:Addr}{p4 c4 p5 c5},(S4 I p s.Write.Subs c)->(S4 I p1 s.Value.Index.Coefs c1)->(S4 I p2 s.Value.Read.Subs c2)->(S4 I p3 s.Value.Kids c3)->(S4 I p4 x.Nest c4)->(S4 I p5 x.Body c5)->(At I ad (cPart x p4 c4 p5 c5))->RT 80 [vA (cStmt s p c p1 c1 p2 c2 p3 c3),.pointer (some ad)] I [] (zT  r):=by
 intro s x r N I p c p1 c1 p2 c2 p3 c3 ad p4 c4 p5 c5 h h1 h2 h3 h4 h5 ar;unfold vW at N;refine yJ func80 fun B=>yE<|tO (cStmt s p c p1 c1 p2 c2 p3 c3) ?_;intro b hb;refine wG [] []<|yX<|rQ 2 [0] [(4,vA (cStmt s p c p1 c1 p2 c2 p3 c3)),(5,.pointer (some ad))]<|xB 0 ar [vS p4 x.Nest c4] (vS p4 x.Nest c4) rfl<|yB 4 [] [7] rfl<|bE N fun y hy N=>vQ (zF3 s (x.Nest.length:Int) _ hy h h1 h2 h3) fun I0 le=>wG [] [(3,.bool (!y))]<|zG<|yW ?_;obtain rfl:=zC N;exact wI
def nN (n0:Int):Option (Bool):=do
 let y<-wB n0 (-9999) 9999
 pure (!y)
theorem zF4:∀ n0 r,nN n0=some r->∀ {I:Imm} ,RT 122 [vI n0] I [] (zT  r):=by
 intro n0 r N I;unfold nN at N;refine yJ func122 fun B=>wP []<|yX<|yB 1 [] [3] rfl<|bE N fun y hy N=>vQ (wH n0 (-9999) 9999 _ hy ) fun I0 le=>wG [] [(2,.bool (!y))]<|zG<|yW ?_;obtain rfl:=zC N;exact wI
def fZ (ag:(List Int)):Option (Bool):=do
 let t2<-(do
   if (decide ((ag.length:Int)<=4)) then
    let y<-xO ag nN
    pure (!y)
   else
    pure false
     : Option Bool)
 pure (id t2)
theorem zHE:∀ ag r,fZ ag=some r->∀ {I:Imm}{p c},(S4 I p ag c)->RT 82 [vS p ag c] I [] (zT  r):=by
 intro ag r N I p c h;unfold fZ at N;refine yJ func82 fun B=>?_;have H:=iS I;refine wP []<|zG<|zZ ?_;refine wO N [] (fun t2=>[(2,.bool t2)]) (fun o0 aD=>?_) ?_
 · have H:=iS I;refine zJ<|yB 4 [] [6] rfl<|xV [6] aD ?_ ?_
   · intro hc N;refine yB 5 [] [7] rfl ?_;have hf0:FV1 Tryz.prog I [] (.func (.func 122) ⟨[]⟩ ⟨[]⟩) nN:=by
       refine FV1.intro ?_;intro I1 af x0 r u0 hF k0;obtain rfl:=k0;exact (zF4 x0 r hF ).mono (by rintro k i hs u ⟨v0,rfl,rfl,h⟩; exact ⟨rfl,h⟩)
     obtain ⟨y,hy,N⟩:=zB N;refine xL (rM ag nN _ hy h hf0) ?_;rintro aW ay v2 k2 le - ⟨v0,rfl,rfl,rfl⟩ -;have H:=H.trans le;exact yH [] [2] rfl<|yL<|zU (ct N H)
   intro hc N;exact wG [] [(2,vF)]<|yL<|zU (ct N H)
 intro t2 I0 af aU;refine zG<|yW ?_;obtain rfl:=zC aU;exact wI
def sZ (a0:zF) (n0:Int) (t9:Int):Option (Int):=do
 if (decide (t9<(a0.Dims.length:Int))) then
  let x<-idx a0.Dims t9
  sZ a0 (W (n0*x)) (W (t9+1))
 else
  pure (id n0)
 partial_fixpoint
theorem zCp (a0:zF):∀ (n0:Int) (t9:Int) (o:Int),sZ a0 n0 t9=some o->∀ {B}{I0 I:Imm}{Q p c},I0.le I->(S4 I p a0.Dims c)->NG Q->NO Q->(∀ (I':Imm) (n01:Int),o=n01->I0.le I'->T 18 B Q (.exit 0) I' [] [(3,vI n01)])->J Tryz.prog 18 B (nav (bodyOf f166) [1,1,0,1,0]) Q I [] [(3,vI n0),(7,vS p a0.Dims c),(8,vI (a0.Dims.length:Int)),(9,vI t9)]:=by
 refine sZ.partial_correctness a0 _ fun aJ ih n0 t9 o N B I0 I Q p c H h hg ho hx=>yM hg ho<|yF [10] rfl<|zX<|yC N ?_ ?_
 · intro hc N;refine zS<|zX<|yG<|yE<|bE N fun x hy N=>xK rfl rfl h hy ?_;intro ad aQ ar ap;obtain rfl:=ap;exact xB 0 ar [vI x] (vI x) rfl<|yH [] [5] rfl<|zG<|zJ<|yH [] [3] rfl<|zM<|zG<|zJ<|yH [] [9] rfl<|yK<|oY<|ih (W (n0*x)) (W (t9+1)) _ N H h hg ho hx
 intro hc N;exact wJ<|yL<|hx _ _ (zC N).symm H
def jA (a0:zF):Option (Int):=do
 let n01<-sZ a0 1 0
 pure (id n01)
theorem zE7:∀ a0 r,jA a0=some r->∀ {I:Imm}{p c},(S4 I p a0.Dims c)->RT 166 [vA (cArr a0 p c)] I [] (yS  r):=by
 intro a0 r N I p c h;unfold jA at N;refine yJ func166 fun B=>yE<|tO (cArr a0 p c) ?_;intro b hb;refine wG [] []<|wM [3] rfl<|zX<|yE<|yH [0] [7,8,9] rfl<|xX<|kE (zY [] (ah:=[]))<|rU [(3,vI 1),(7,vS p a0.Dims c),(8,vI (a0.Dims.length:Int)),(9,vI 0)] ?_;obtain ⟨o0,aD,aM⟩:=zB N;refine zCp a0 1 0 o0 aD iR h (fun _ _ _ h=>h) (fun _ _ h=>h) ?_;intro I0 n01 heq le;subst o0;refine zR<|wM [2] rfl<|zG<|yW ?_;obtain rfl:=zC aM;exact wI
def tW (a0:zL) (ag:(List Int)) (x:zF) (at0:Int) (t40:Int):Option (Out Int (Int)):=do
 if (decide (t40<(a0.Subs.length:Int))) then
  let x1<-idx a0.Subs t40
  let y1<-tV x1 ag
  let x2<-idx x.Dims t40
  let y2<-wB y1 0 (W (x2 - 1))
  if (!y2) then
   pure (.ret (-1))
  else
   let x3<-idx x.Dims t40
   tW a0 ag x (W ((W (at0*x3))+y1)) (W (t40+1))
 else
  pure (.done at0)
 partial_fixpoint
theorem zCA (a0:zL) (ag:(List Int)) (x:zF):∀ (at0:Int) (t40:Int) (o:Out Int (Int)),tW a0 ag x at0 t40=some o->∀ {B}{I0 I:Imm}{Q}{first:Int}{p3 c2 p4 c3 p5 c4}{b2:Nat},I0.le I->(S4 I p4 ag c3)->(S4 I p3 a0.Subs c2)->(S4 I p5 x.Dims c4)->NG Q->NO Q->(∀ (I':Imm) (at01:Int),o=(.done at01)->I0.le I'->T 71 B Q (.exit 2) I' [] [(7,vI first),(10,vI at01)])->(∀ r I' ah m',o=(.ret r)->I0.le I'->RS Tryz.prog f123 B (yS  r) I' ah m'->T 71 B Q .ret I' ah m')->J Tryz.prog 71 B (nav (bodyOf f123) [1,1,0,1,0,0,1,1,0,0,1,1,1,1,0,1,0]) Q I [hB b2 (cArr x p5 c4)] [(2,vS p4 ag c3),(7,vI first),(9,vP b2 0),(10,vI at0),(38,vS p3 a0.Subs c2),(39,vI (a0.Subs.length:Int)),(40,vI t40)]:=by
 refine tW.partial_correctness a0 ag x _ fun aJ ih at0 t40 o N B I0 I Q first p3 c2 p4 c3 p5 c4 b2 H h3 h2 h4 hg ho hx hr=>yM hg ho<|yF [41] rfl<|zX<|yC N ?_ ?_
 · intro bK N;refine zS<|zX<|yG<|yE<|yB 1 [] [42] rfl<|bE N fun x1 aN N=>xK rfl rfl h2 aN ?_;intro ad1 bv av ax;obtain ⟨p6,c5,rfl,h6⟩:=yQ ax;refine xB 0 av (cAff x1 p6 c5) (vA (cAff x1 p6 c5)) rfl<|wS [z0,vI 0] ?_;intro b3 hb3;refine yB 5 [] [11] rfl<|xJ 0 (cAff x1 p6 c5) rfl<|yD rfl<|yX<|rQ 2 [0] [(45,vA (cAff x1 p6 c5)),(46,vS p4 ag c3)]<|bE N fun y1 bm N=>fK (mR x1 ag _ bm h6 h3) ?_;intro aW af;have ⟨h3,h2,h4,H⟩:=m4 af h3 h2 h4 H;refine yH [] [13] rfl<|zX<|yE<|yB 4 [1] [48,50,51] rfl<|bE N fun x2 bw N=>xK rfl rfl h4 bw ?_;intro ad2 bP aY bd;obtain rfl:=bd;refine xB 0 aY [vI x2] (vI x2) rfl<|yB 7 [] [54] rfl<|bE N fun y2 bI N=>vQ (wH y1 0 (W (x2 - 1)) _ bI ) ?_;intro ba aF;have ⟨h3,h2,h4,H⟩:=m4 aF h3 h2 h4 H;refine yH [] [56] rfl<|zG<|yC N ?_ ?_
   · intro bO N;exact yF [6] rfl<|xD<|zH<|zV<|zH<|zH<|hr _ _ _ _ (zC N).symm H ⟨_,_,(.tmp rfl ResV.nil),zQ,⟨_,rfl,rfl,rfl⟩⟩
   intro bO N;refine zS<|zG<|zJ<|yB 4 [1] [57,59,60] rfl<|bE N fun x3 hy6 N=>xK rfl rfl h4 hy6 ?_;intro ad3 ccs3 hat3 bG;obtain rfl:=bG;exact xB 0 hat3 [vI x3] (vI x3) rfl<|yH [] [10] rfl<|zM<|zG<|zJ<|yH [] [40] rfl<|yK<|kE (zW [1] rfl (by decide))<|oY<|ih (W ((W (at0*x3))+y1)) (W (t40+1)) _ N H h3 h2 h4 hg ho hx hr
 intro bK N;exact wJ<|xQ zQ<|yL<|hx _ _ (zC N).symm H
def uJ (p:zD) (a0:zL) (ag:(List Int)) (first:Int) (t17:Int):Option (Out Unit (Int)):=do
 if (decide (t17<(p.Arrays.length:Int))) then
  let x<-idx p.Arrays t17
  if (!(x.Name.l==a0.Array.l)) then
   let y<-jA x
   uJ p a0 ag (W (first+y)) (W (t17+1))
  else
   if ((a0.Subs.length:Int) != (x.Dims.length:Int)) then
    pure (.ret (-1))
   else
    match<-tW a0 ag x 0 0 with
    | .ret r0=>pure (.ret r0)
    | .done at01 =>
     pure (.ret (W (first+at01)))
 else
  pure (.done ())
 partial_fixpoint
theorem zCB (p:zD) (a0:zL) (ag:(List Int)):∀ (first:Int) (t17:Int) (o:Out Unit (Int)),uJ p a0 ag first t17=some o->∀ {B}{I0 I:Imm}{Q p1 c p3 c2 p4 c3}{b1:Nat},I0.le I->(S4 I p4 ag c3)->(S4 I p1 p.Arrays c)->(S4 I p3 a0.Subs c2)->NG Q->NO Q->(∀ (I':Imm) ,o=(.done ())->I0.le I'->T 71 B Q (.exit 0) I' [] [])->(∀ r I' ah m',o=(.ret r)->I0.le I'->RS Tryz.prog f123 B (yS  r) I' ah m'->T 71 B Q .ret I' ah m')->J Tryz.prog 71 B (nav (bodyOf f123) [1,1,0,1,0]) Q I [hB b1 (cAccess a0 p3 c2)] [(2,vS p4 ag c3),(4,vP b1 0),(7,vI first),(15,vS p1 p.Arrays c),(16,vI (p.Arrays.length:Int)),(17,vI t17)]:=by
 refine uJ.partial_correctness p a0 ag _ fun aJ ih first t17 o N B I0 I Q p1 c p3 c2 p4 c3 b1 H h3 h h2 hg ho hx hr=>yM hg ho<|yF [18] rfl<|zX<|yC N ?_ ?_
 · intro hc N;refine zS<|zX<|yG<|yE<|bE N fun x hy N=>xK rfl rfl h hy ?_;intro ad aQ ar ap;obtain ⟨p5,c4,rfl,h4⟩:=wU ap;refine xB 0 ar (cArr x p5 c4) (vA (cArr x p5 c4)) rfl<|wS [vT ([]),z0] ?_;intro b2 hb2;refine xJ 0 (cArr x p5 c4) rfl<|yD rfl<|zX<|yE<|yH [0,1] [25] rfl<|zG<|yC N ?_ ?_
   · intro aI N;refine yE<|rQ 2 [0] [(26,vI first),(27,vA (cArr x p5 c4))]<|bE N fun y aB N=>fK (zE7 x _ aB h4) ?_;intro I0 le;have ⟨h3,h,h2,H⟩:=m4 le h3 h h2 H;exact yH [] [7] rfl<|zG<|zEG<|kX<|zR<|zG<|zJ<|yH [] [17] rfl<|yK<|kE (zW [1] rfl (by decide))<|oY<|ih (W (first+y)) (W (t17+1)) _ N H h3 h h2 hg ho hx hr
   intro aI N;refine zS<|zX<|yE<|yH [1,0] [36] rfl<|zG<|yC N ?_ ?_
   · intro aX N;exact yF [6] rfl<|xD<|zH<|zV<|zH<|zH<|hr _ _ _ _ (zC N).symm H ⟨_,_,(.tmp rfl ResV.nil),zQ,⟨_,rfl,rfl,rfl⟩⟩
   intro aX N;refine zS<|wM [10] rfl<|zX<|yE<|yH [1] [38,39,40] rfl<|xX<|kE (zY [0] (ah:=[hB b2 (cArr x p5 c4)]))<|rU [(2,vS p4 ag c3),(7,vI first),(9,vP b2 0),(10,vI 0),(38,vS p3 a0.Subs c2),(39,vI (a0.Subs.length:Int)),(40,vI 0)] ?_;obtain ⟨o0,aD,aM⟩:=zB N;refine zCA a0 ag x 0 0 o0 aD iR h3 h2 h4 (fun _ _ _ h=>hg _ _ _ h) (fun _ _ h=>ho _ _ h) ?_ ?_
   · intro bH at01 heq aK;subst o0;have H:=H.trans aK;exact zR<|wM [6] rfl<|xD<|zV<|zH<|zH<|hr _ _ _ _ (zC aM).symm H ⟨_,_,(.tmp rfl ResV.nil),zQ,⟨_,rfl,rfl,rfl⟩⟩
   intro r0 I9 hs9 m9 aZ le9 bb;subst aZ;exact zV<|zH<|zV<|zH<|zH<|hr _ _ _ _ (zC aM).symm (H.trans le9) bb
 intro hc N;exact wJ<|xQ zQ<|yL<|hx _  (zC N).symm H
def sH (p:zD) (a0:zL) (ag:(List Int)):Option (Int):=do
 match<-uJ p a0 ag 0 0 with
 | .ret r0=>pure r0
 | .done _ =>
  pure (-1)
theorem jB:∀ p a0 ag r,sH p a0 ag=some r->∀ {I:Imm}{p1 c p2 c1 p3 c2 p4 c3},(S4 I p1 p.Arrays c)->(S4 I p2 p.Parts c1)->(S4 I p3 a0.Subs c2)->(S4 I p4 ag c3)->RT 123 [vA (cProg p p1 c p2 c1),vA (cAccess a0 p3 c2),vS p4 ag c3] I [] (yS  r):=by
 intro p a0 ag r N I p1 c p2 c1 p3 c2 p4 c3 h h1 h2 h3;unfold sH at N;refine yJ func123 fun B=>yE<|tO (cProg p p1 c p2 c1) ?_;intro b hb;refine tO (cAccess a0 p3 c2) ?_;intro b1 hb1;refine wG [] []<|wM [7] rfl<|zX<|yE<|yH [1] [15,16,17] rfl<|xX<|kE (zY [0] (ah:=[hB b1 (cAccess a0 p3 c2)]))<|rU [(2,vS p4 ag c3),(4,vP b1 0),(7,vI 0),(15,vS p1 p.Arrays c),(16,vI (p.Arrays.length:Int)),(17,vI 0)] ?_;obtain ⟨aP,aA,hMl1⟩:=zB N;refine zCB p a0 ag 0 0 aP aA iR h3 h h2 (fun _ _ _ h=>h) (fun _ _ h=>h) ?_ ?_
 · intro bL  heq1 bk;subst aP;refine zR<|wM [6] rfl<|zG<|yW ?_;obtain rfl:=zC hMl1;exact wI
 intro r0 I9 hs9 m9 aZ le9 bb;subst aZ;refine zV<|zH ?_;obtain rfl:=zC hMl1;exact yZ bb
def qW (bj:List HA) (r:Int):KT:=fun kk I' ah v=>
  ∃ v0,bj=ah/\v=tupV [v0]/\v0=.int .i64 r
def xG (s:(List zL)) (f0:(zL->Option Bool)) (t8:Int):Option (Out Unit (Int)):=do
 if (decide (t8<(s.length:Int))) then
  let x<-idx s t8
  let y<-f0 x
  if y then
   pure (.ret t8)
  else
   xG s f0 (W (t8+1))
 else
  pure (.done ())
 partial_fixpoint
theorem jN (s:(List zL)) (f0:(zL->Option Bool)):∀ (t8:Int) (o:Out Unit (Int)),xG s f0 t8=some o->∀ {B}{I0 I:Imm}{Q p c}{fv:Value}{bj:List HA},I0.le I->(S4 I p s c)->(FV1 Tryz.prog I bj fv f0)->NG Q->NO Q->(∀ (I':Imm) ,o=(.done ())->I0.le I'->T 19 B Q (.exit 0) I' bj [])->(∀ r I' ah m',o=(.ret r)->I0.le I'->RS Tryz.prog f168 B (qW bj r) I' ah m'->T 19 B Q .ret I' ah m')->J Tryz.prog 19 B (nav (bodyOf f168) [1,0,1,0]) Q I bj [(0,vS p s c),(1,fv),(7,vI (s.length:Int)),(8,vI t8)]:=by
 refine xG.partial_correctness s f0 _ fun aJ ih t8 o N B I0 I Q p c fv bj H h h1 hg ho hx hr=>yM hg ho<|yF [9] rfl<|zX<|yC N ?_ ?_
 · intro hc N;refine zS<|zX<|yG<|yF [5] rfl<|yX<|yB 3 [] [11,12,13] rfl<|bE N fun x hy N=>xK rfl rfl h hy ?_;intro ad aQ ar ap;obtain ⟨p1,c1,rfl,h2⟩:=nY ap;refine xB 0 ar (cAccess x p1 c1) (vA (cAccess x p1 c1)) rfl<|bE N fun y aB N=>zKW rfl rfl h1 aB ⟨_,rfl,(mY ⟨_,rfl,h2⟩)⟩ (cy _).symm ?_;rintro I0 v01 le rfl;refine wN (ah:=bj) (cy _) ?_;have ⟨h,h1,H⟩:=m3 le h h1 H;refine yD rfl<|zG<|yC N ?_ ?_
   · intro aI N;exact yF [4] rfl<|xD<|zV<|zH<|zH<|hr _ _ _ _ (zC N).symm H ⟨_,_,(.tmp rfl ResV.nil),(fun _ h=>h),⟨_,rfl,rfl,rfl⟩⟩
   intro aI N;exact zS<|zM<|zG<|zJ<|yH [] [8] rfl<|yK<|oY<|ih (W (t8+1)) _ N H h h1 hg ho hx hr
 intro hc N;exact wJ<|yL<|hx _  (zC N).symm H
def vH (s:(List zL)) (f0:(zL->Option Bool)):Option (Int):=do
 match<-xG s f0 0 with
 | .ret r0=>pure r0
 | .done _ =>
  pure (-1)
theorem gJ:∀ s f0 r,vH s f0=some r->∀ {I:Imm}{p c}{fv:Value}{bj:List HA},(S4 I p s c)->(FV1 Tryz.prog I bj fv f0)->RT 168 [vS p s c,fv] I bj (qW bj r):=by
 intro s f0 r N I p c fv bj h h1;unfold vH at N;refine yJ func168 fun B=>wP []<|zX<|yF [7,8] rfl<|xX<|rU [(0,vS p s c),(1,fv),(7,vI (s.length:Int)),(8,vI 0)] ?_;obtain ⟨o0,aD,aM⟩:=zB N;refine jN s f0 0 o0 aD iR h h1 (fun _ _ _ h=>h) (fun _ _ h=>h) ?_ ?_
 · intro aW  heq af;subst o0;refine zR<|wM [4] rfl<|zG<|yW ?_;obtain rfl:=zC aM;exact yZ ⟨_,_,(.tmp rfl ResV.nil),(fun _ h=>h),⟨_,rfl,rfl,rfl⟩⟩
 intro r0 I9 hs9 m9 aZ le9 bb;subst aZ;refine zV<|zH ?_;obtain rfl:=zC aM;exact yZ bb
def kM (bj:List HA) (r:Bool):KT:=fun kk I' ah v=>
  ∃ v0,bj=ah/\v=tupV [v0]/\v0=.bool r
def xW (s:(List zL)) (f0:(zL->Option Bool)):Option (Bool):=do
 let y<-vH s f0
 pure (decide (y>=0))
theorem jO:∀ s f0 r,xW s f0=some r->∀ {I:Imm}{p c}{fv:Value}{bj:List HA},(S4 I p s c)->(FV1 Tryz.prog I bj fv f0)->RT 124 [vS p s c,fv] I bj (kM bj r):=by
 intro s f0 r N I p c fv bj h h1;unfold xW at N;refine yJ func124 fun B=>wP []<|yX<|yB 2 [] [5,6] rfl<|bE N fun y hy N=>zFv (hs1:=bj) (rest:=[]) rfl rfl rfl rfl (by kernel_rfl) rfl (cy _).symm (gJ s f0 _ hy h h1) ?_;rintro I0 ay v2 k2 le - ⟨v0,rfl,rfl,rfl⟩ -;refine wN (ah:=bj) (cy _) ?_;refine yH [] [4] rfl<|zG<|yW ?_;obtain rfl:=zC N;exact yZ ⟨_,_,(.tmp rfl ResV.nil),(fun _ h=>h),⟨_,rfl,rfl,rfl⟩⟩
def zCf (r:(List zL)):KT:=fun kk I' ah v=>
  ∃ v0,ah=[]/\v=tupV [v0]/\SL I' v0 r
mutual
def jC (e0:zI):Option ((List zL)):=do
 if (e0.Kind==3) then
  pure ([e0.Read]:List zL)
 else
  let al<-mL (same e0) ([]:List zL) (same 0)
  pure (id al)
 partial_fixpoint
def mL (e0:zI) (out:List zL) (t15:Int):Option (List zL):=do
 if (decide (t15<(e0.Kids.length:Int))) then
  let x<-idx e0.Kids t15
  let y<-jC (same x)
  let au<-app 40 out y
  mL (same e0) (same au) (W (t15+1))
 else
  pure (id out)
 partial_fixpoint
end
theorem zHx:(∀ (e0:zI) r,jC e0=some r->∀ {I:Imm}{p c p1 c1 p2 c2},(S4 I p e0.Index.Coefs c)->(S4 I p1 e0.Read.Subs c1)->(S4 I p2 e0.Kids c2)->RT 125 [vA (cExpr e0 p c p1 c1 p2 c2)] I [] (zCf  r))/\(∀ (e0:zI) (out:List zL) (t15:Int) o,mL e0 out t15=some o->∀ {B}{I0 I:Imm}{Q p2 c2 p3 c3 cs},I0.le I->(S4 I p2 e0.Kids c2)->(RL I cs out)->NG Q->NO Q->(∀ (I':Imm) (al:List zL) (p4:Option Addr) (c4:Nat) (az:List Value),o=al->I0.le I'->(RL I' az al)->T 25 B Q (.exit 0) I' [hO zL (vS p4 al c4) az] [(3,vS p4 al c4)])->J Tryz.prog 25 B (nav (bodyOf f125) [1,1,1,0,1,0]) Q I [hO zL (vS p3 out c3) cs] [(3,vS p3 out c3),(13,vS p2 e0.Kids c2),(14,vI (e0.Kids.length:Int)),(15,vI t15)]):=by
  refine jC.mutual_partial_correctness _ _ ?_ ?_
  · intro F_impl_reads_l1 ih_impl_reads_l1 e0 r N I p c p1 c1 p2 c2 h h1 h2;refine yJ func125 fun B=>yE<|tO (cExpr e0 p c p1 c1 p2 c2) ?_;intro b hb;refine wG [] []<|zX<|yE<|yH [0] [8] rfl<|zG<|yC N ?_ ?_
    · intro hc N;refine yE<|rQ 2 [0] [(10,vA (cAccess e0.Read p1 c1))]<|uK (cAccess e0.Read p1 c1) zL ?_;intro b1 hb1;have h3:RL I (cAccess e0.Read p1 c1) ([e0.Read]:List zL):=⟨(cAccess e0.Read p1 c1),_,rfl,rfl,(mY ⟨_,rfl,h1⟩),rfl⟩;refine yH [] [2] rfl<|xD<|zH<|yU 0 rfl ?_;intro I0 le hl0;have h4:=SL.of_frozen hl0 le h3;obtain rfl:=zC N;exact yZ ⟨_,_,(.tmp rfl ResV.nil),zQ,⟨_,rfl,rfl,h4⟩⟩
    intro hc N;refine zS<|zEv [(3,z0)]<|zX<|yE<|yH [0] [13,14,15] rfl<|xX<|kE (zY [] (ah:=[]))<|rU [(3,z0),(13,vS p2 e0.Kids c2),(14,vI (e0.Kids.length:Int)),(15,vI 0)]<|zAI zL fun h5=>?_;obtain ⟨o0,aD,aM⟩:=zB N;refine ih_impl_reads_l1 e0 ([]:List zL) 0 o0 aD iR h2 h5 (fun _ _ _ h=>h) (fun _ _ h=>h) ?_;intro ba al p4 c4 az heq aF h7;subst o0;refine zR<|wM [2] rfl<|xD<|yU 0 rfl ?_;intro bH aK hl01;have h13:=SL.of_frozen hl01 aK h7;obtain rfl:=zC aM;exact yZ ⟨_,_,(.tmp rfl ResV.nil),zQ,⟨_,rfl,rfl,h13⟩⟩
  intro F_impl_reads F_impl_reads_l1 ih_impl_reads ih_impl_reads_l1 e0 out t15 o N B I0 I Q p2 c2 p3 c3 cs H h2 h6 hg ho hx;refine yM hg ho<|yF [16] rfl<|zX<|yC N ?_ ?_
  · intro aI N;refine zS<|zX<|yG<|yE<|bE N fun x hy N=>xK rfl rfl h2 hy ?_;intro ad aQ ar ap;obtain ⟨p5,c5,p6,c6,p7,c7,rfl,h8,h9,h10⟩:=tS ap;refine xB 0 ar (cExpr x p5 c5 p6 c6 p7 c7) (vA (cExpr x p5 c5 p6 c6 p7 c7)) rfl<|wS zExpr ?_;intro b2 hb2;refine xJ 0 (cExpr x p5 c5 p6 c6 p7 c7) rfl<|yD rfl<|zG<|zJ<|rQ 2 [0] [(19,vS p3 out c3),(20,vA (cExpr x p5 c5 p6 c6 p7 c7))]<|bE N fun y aB N=>xL (ih_impl_reads x _ aB h8 h9 h10) ?_;rintro aW ay v2 k2 af - ⟨v03,rfl,rfl,h11⟩ -;have ⟨h2,h6,H⟩:=m3 af h2 h6 H;obtain ⟨p8,c8,rfl⟩:=h11.form;obtain ⟨bv,k0,k01⟩:=h11;have h11:SL aW (vS p8 y c8) y:=⟨_,k0,k01⟩;obtain ⟨au,aN,N⟩:=zB N;exact sU 93 2 1 rfl rfl rfl h6 (.inl k0) k01 aN fun p9 c9 aS h12=>tZ (zY [0,1] (ah:=[hB b2 (cExpr x p5 c5 p6 c6 p7 c7),hO zL (vS p9 au c9) aS]))<|yH [] [3] rfl<|zM<|zG<|zJ<|yH [] [15] rfl<|yK<|kE (zW [1] rfl (by decide))<|oY<|ih_impl_reads_l1 e0 au (W (t15+1)) _ N H h2 h12 hg ho hx
  intro aI N;exact wJ<|yL<|hx _ _ _ _ _ (zC N).symm H h6
theorem zED:∀ e0 r,jC e0=some r->∀ {I:Imm}{p c p1 c1 p2 c2},(S4 I p e0.Index.Coefs c)->(S4 I p1 e0.Read.Subs c1)->(S4 I p2 e0.Kids c2)->RT 125 [vA (cExpr e0 p c p1 c1 p2 c2)] I [] (zCf  r):=zHx.1
def tG (a0:zL) (x:zD) (x1:(List Int)):Option (Bool):=do
 let y<-sH x a0 x1
 pure (decide (y<0))
theorem zBb:∀ a0 x x1 r,tG a0 x x1=some r->∀ {I:Imm}{p c}{ad:Addr}{p1 c1 p2 c2}{ad1:Addr}{p3 c3},(S4 I p a0.Subs c)->(S4 I p1 x.Arrays c1)->(S4 I p2 x.Parts c2)->(At I ad (cProg x p1 c1 p2 c2))->(S4 I p3 x1 c3)->(At I ad1 [vS p3 x1 c3])->RT 126 [vA (cAccess a0 p c),.pointer (some ad),.pointer (some ad1)] I [] (zT  r):=by
 intro a0 x x1 r N I p c ad p1 c1 p2 c2 ad1 p3 c3 h h1 h2 ar h3 av;unfold tG at N;refine yJ func126 fun B=>yE<|tO (cAccess a0 p c) ?_;intro b hb;refine wG [] []<|yX<|xB 0 ar (cProg x p1 c1 p2 c2) (vA (cProg x p1 c1 p2 c2)) rfl<|rQ 2 [0] [(6,vA (cAccess a0 p c))]<|xB 0 av [vS p3 x1 c3] (vS p3 x1 c3) rfl<|bE N fun y hy N=>fK (jB x a0 x1 _ hy h1 h2 h h3) fun I0 le=>wG [] [(4,.bool (decide (y<0)))]<|zG<|yW ?_;obtain rfl:=zC N;exact wI
def oT (p:zD) (s:zP) (ag:(List Int)):Option (Bool):=do
 let t6<-(do
   let y<-sH p s.Write ag
   if (decide (y>=0)) then
    let y1<-jC s.Value
    let y2<-xW y1 (fun x0=>tG x0 p ag)
    pure (!y2)
   else
    pure false
     : Option Bool)
 pure (id t6)
theorem zCU:∀ p s ag r,oT p s ag=some r->∀ {I:Imm}{p1 c p2 c1 p3 c2 p4 c3 p5 c4 p6 c5 p7 c6},(S4 I p1 p.Arrays c)->(S4 I p2 p.Parts c1)->(S4 I p3 s.Write.Subs c2)->(S4 I p4 s.Value.Index.Coefs c3)->(S4 I p5 s.Value.Read.Subs c4)->(S4 I p6 s.Value.Kids c5)->(S4 I p7 ag c6)->RT 83 [vA (cProg p p1 c p2 c1),vA (cStmt s p3 c2 p4 c3 p5 c4 p6 c5),vS p7 ag c6] I [] (zT  r):=by
 intro p s ag r N I p1 c p2 c1 p3 c2 p4 c3 p5 c4 p6 c5 p7 c6 h h1 h2 h3 h4 h5 h6;unfold oT at N;refine yJ func83 fun B=>?_;have H:=iS I;refine yE<|tO (cProg p p1 c p2 c1) ?_;intro b hb;refine xH 0 rfl ?_;intro I0 le hl0;have ar:At I0 ⟨b,0,none⟩ (cProg p p1 c p2 c1):=At.of_blk hl0;have ⟨h,h1,h2,h3,h4,h5⟩:=m6 le h h1 h2 h3 h4 h5;have ⟨h6,H⟩:=m2 le h6 H;refine tO (cStmt s p3 c2 p4 c3 p5 c4 p6 c5) ?_;intro b1 hb1;refine tO [vS p7 ag c6] ?_;intro b2 hb2;refine xH 0 rfl ?_;intro aW af hl01;have av:At aW ⟨b2,0,none⟩ [vS p7 ag c6]:=At.of_blk hl01;have ⟨h,h1,h2,h3,h4,h5⟩:=m6 af h h1 h2 h3 h4 h5;have ⟨h6,ar,H⟩:=m3 af h6 ar H;refine wG [] []<|zG<|zZ ?_;refine wO N [] (fun t6=>[(6,.bool t6)]) (fun o0 aD=>?_) ?_
 · have H:=iS aW;refine zJ<|xB 0 ar (cProg p p1 c p2 c1) (vA (cProg p p1 c p2 c1)) rfl<|rQ 3 [0] [(9,vA (cAccess s.Write p3 c2))]<|xB 0 av [vS p7 ag c6] (vS p7 ag c6) rfl ?_;obtain ⟨y,hy,N⟩:=zB aD;refine fK (jB p s.Write ag _ hy h h1 h2 h6) ?_;intro bH aF;have ⟨h,h1,ar,h6,av,h3⟩:=m6 aF h h1 ar h6 av h3;have ⟨h4,h5,H⟩:=m3 aF h4 h5 H;refine yB 7 [] [13] rfl<|xV [13] N ?_ ?_
   · intro hc N;refine rQ 9 [0] [(15,vA (cExpr s.Value p4 c3 p5 c4 p6 c5))]<|bE N fun y1 aB N=>xL (zED s.Value _ aB h3 h4 h5) ?_;rintro bL ay v2 k2 aK - ⟨v01,rfl,rfl,h8⟩ -;have ⟨h,h1,ar,h6,av,H⟩:=m6 aK h h1 ar h6 av H;obtain ⟨p8,c7,rfl⟩:=h8.form;refine yB 11 [] [17] rfl ?_;have hf0:FV1 Tryz.prog bL [] (.func (.func 126) ⟨[]⟩ ⟨[vP b 0,vP b2 0]⟩) (fun x0=>tG x0 p ag):=by
       refine FV1.intro ?_;intro I1 af x0 r u0 hF k0;obtain ⟨_,rfl,k0⟩:=k0;obtain ⟨p9,c8,rfl,h9⟩:=nY k0;exact (zBb x0 p ag r hF h9 (h.mono af) (h1.mono af) (ar.mono af) (h6.mono af) (av.mono af)).mono (by rintro k i hs u ⟨v0,rfl,rfl,h⟩; exact ⟨rfl,h⟩)
     obtain ⟨y2,aN,N⟩:=zB N;refine xL (jO y1 (fun x0=>tG x0 p ag) _ aN h8 hf0) ?_;rintro bR ay v2 k2 bk - ⟨v03,rfl,rfl,rfl⟩ -;have H:=H.trans bk;exact yH [] [6] rfl<|xQ zQ<|yL<|zU (ct N H)
   intro hc N;exact wG [] [(6,vF)]<|xQ zQ<|yL<|zU (ct N H)
 intro t6 ba bz aU;refine zG<|yW ?_;obtain rfl:=zC aU;exact wI
def pO (r:(List zK)×Bool):KT:=fun kk I' ah v=>
  ∃ v0 v1,ah=[]/\v=tupV [v0,v1]/\SL I' v0 r.1/\v1=.bool r.2
def vJ (p:zD) (t26:Int) (x:zO) (x1:(List Int)) (bf:List zK) (t64:Int):Option (Out (List zK) ((List zK)×Bool)):=do
 if (decide (t64<(x.Body.length:Int))) then
  let x2<-idx x.Body t64
  let y7<-oT p x2 x1
  if (!y7) then
   pure (.ret (([]:List zK),false))
  else
   let y8<-rO x1
   let out6<-app 40 bf ([(zK.mk t26 t64 y8)]:List zK)
   vJ p t26 x x1 out6 (W (t64+1))
 else
  pure (.done bf)
 partial_fixpoint
theorem zA4 (p:zD) (t26:Int) (x:zO) (x1:(List Int)):∀ (bf:List zK) (t64:Int) (o:Out (List zK) ((List zK)×Bool)),vJ p t26 x x1 bf t64=some o->∀ {B}{I0 I:Imm}{Q}{y2:(List (List Int))}{t54:Int}{p1 c p2 c1}{b:Nat}{p5 c4 p6 c5}{b1:Nat}{p7 c6 p14 bB p15 c14 bt},I0.le I->(S4 I p5 x.Nest c4)->(S4 I p6 x.Body c5)->(At I ⟨b1,0,none⟩ (cPart x p5 c4 p6 c5))->(S4 I p14 x1 bB)->(S4 I p2 p.Parts c1)->(S4 I p7 y2 c6)->(S4 I p1 p.Arrays c)->(RL I bt bf)->NG Q->NO Q->(∀ (I':Imm) (out5:List zK) (p16:Option Addr) (c15:Nat) (bJ:List Value),o=(.done out5)->I0.le I'->(RL I' bJ out5)->T 89 B Q (.exit 4) I' [hO zK (vS p16 out5 c15) bJ,hB b (cProg p p1 c p2 c1)] [(1,vP b 0),(4,vS p16 out5 c15),(5,vI t26),(6,vP b1 0),(24,vS p2 p.Parts c1),(25,vI (p.Parts.length:Int)),(26,vI t26),(52,vS p7 y2 c6),(53,vI (y2.length:Int)),(54,vI t54)])->(∀ r I' ah m',o=(.ret r)->I0.le I'->RS Tryz.prog f41 B (pO  r) I' ah m'->T 89 B Q .ret I' ah m')->J Tryz.prog 89 B (nav (bodyOf f41) [1,1,1,0,1,0,0,1,1,0,0,1,1,1,1,0,0,1,1,0,0,1,1,1,0]) Q I [hO zK (vS p15 bf c14) bt,hB b (cProg p p1 c p2 c1)] [(1,vP b 0),(4,vS p15 bf c14),(5,vI t26),(6,vP b1 0),(10,vS p14 x1 bB),(24,vS p2 p.Parts c1),(25,vI (p.Parts.length:Int)),(26,vI t26),(52,vS p7 y2 c6),(53,vI (y2.length:Int)),(54,vI t54),(62,vS p6 x.Body c5),(63,vI (x.Body.length:Int)),(64,vI t64)]:=by
 refine vJ.partial_correctness p t26 x x1 _ fun aJ ih bf t64 o N B I0 I Q y2 t54 p1 c p2 c1 b p5 c4 p6 c5 b1 p7 c6 p14 bB p15 c14 bt H h6 h7 av h18 h1 h8 h h20 hg ho hx hr=>yM hg ho<|yF [65] rfl<|zX<|yC N ?_ ?_
 · intro hc8 N;refine zS<|zX<|yG<|yE<|yB 1 [] [66] rfl<|bE N fun x2 hy7 N=>xK rfl rfl h7 hy7 ?_;intro ad2 bP hat3 bd;obtain ⟨p17,c16,p18,c17,p19,c18,p20,c19,rfl,h22,h23,h24,h25⟩:=pR bd;refine xB 0 hat3 (cStmt x2 p17 c16 p18 c17 p19 c18 p20 c19) (vA (cStmt x2 p17 c16 p18 c17 p19 c18 p20 c19)) rfl<|wS [vT ([]),z0,vI 0,vI 0,z0,vI 0,vT ([]),z0,z0] ?_;intro b2 hb2;refine yB 5 [] [11] rfl<|xJ 0 (cStmt x2 p17 c16 p18 c17 p19 c18 p20 c19) rfl<|yD rfl<|zX<|yE<|rQ 3 [2,0] [(69,vA (cProg p p1 c p2 c1)),(70,vA (cStmt x2 p17 c16 p18 c17 p19 c18 p20 c19)),(71,vS p14 x1 bB)]<|bE N fun y7 hy8 N=>vQ (zCU p x2 x1 _ hy8 h h1 h22 h23 h24 h25 h18) ?_;intro I08 le8;have ⟨h20,h6,h7,av,h18,h1⟩:=m6 le8 h20 h6 h7 av h18 h1;have ⟨h8,h,H⟩:=m3 le8 h8 h H;refine yH [] [73] rfl<|zG<|yC N ?_ ?_
   · intro hc9 N;exact yF [2,3] rfl<|xD<|zH<|zV<|zH<|zH<|hr _ _ _ _ (zC N).symm H ⟨_,_,(.tmp rfl (.tmp rfl ResV.nil)),zQ,⟨_,_,rfl,rfl,(SL.nil _),rfl⟩⟩
   intro hc9 N;refine zS<|zG<|zJ<|yB 4 [] [74,75,76,77] rfl<|bE N fun y8 hy9 N=>xL (jX x1 _ hy9 h18) ?_;rintro I09 ay v2 k2 le9 - ⟨p21,c20,cs6,rfl,rfl,h27⟩ -;have ⟨h6,h7,av,h18,h1,h8⟩:=m6 le9 h6 h7 av h18 h1 h8;have ⟨h20,h,H⟩:=m3 le9 h20 h H;refine yB 6 [] [79] rfl<|xH 0 rfl ?_;intro bS le10 hl01;have h28:=SL.of_frozen hl01 le10 h27;have ⟨h6,h7,av,h18,h1,h8⟩:=m6 le10 h6 h7 av h18 h1 h8;have ⟨h20,h,H⟩:=m3 le10 h20 h H;refine uK [vI t26,vI t64,vS p21 y8 c20] zK ?_;intro b3 hb3;have h29:RL bS [vI t26,vI t64,vS p21 y8 c20] ([(zK.mk t26 t64 y8)]:List zK):=⟨[vI t26,vI t64,vS p21 y8 c20],_,rfl,rfl,(zAo ⟨_,rfl,h28⟩),rfl⟩;obtain ⟨out6,hy10,N⟩:=zB N;exact sU 86 3 2 rfl rfl rfl h20 (.inr ⟨0,rfl⟩) h29 hy10 fun p22 c21 cs7 h30=>tZ (zY [1,2,3] (ah:=[hB b2 (cStmt x2 p17 c16 p18 c17 p19 c18 p20 c19),hO zK (vS p22 out6 c21) cs7,hB b (cProg p p1 c p2 c1)]))<|yH [] [4] rfl<|zM<|zG<|zJ<|yH [] [64] rfl<|yK<|kE (zW [1,2] rfl (by decide))<|oY<|ih out6 (W (t64+1)) _ N H h6 h7 av h18 h1 h8 h h30 hg ho hx hr
 intro hc8 N;exact wJ<|yL<|hx _ _ _ _ _ (zC N).symm H h20
def vK (p:zD) (t26:Int) (x:zO) (y2:(List (List Int))) (au:List zK) (t54:Int):Option (Out (List zK) ((List zK)×Bool)):=do
 if (decide (t54<(y2.length:Int))) then
  let x1<-idx y2 t54
  let y6<-fZ x1
  if (!y6) then
   pure (.ret (([]:List zK),false))
  else
   match<-vJ p t26 x x1 au 0 with
   | .ret r0=>pure (.ret r0)
   | .done out5 =>
    vK p t26 x y2 out5 (W (t54+1))
 else
  pure (.done au)
 partial_fixpoint
theorem zA5 (p:zD) (t26:Int) (x:zO) (y2:(List (List Int))):∀ (au:List zK) (t54:Int) (o:Out (List zK) ((List zK)×Bool)),vK p t26 x y2 au t54=some o->∀ {B}{I0 I:Imm}{Q p1 c p2 c1}{b:Nat}{p5 c4 p6 c5}{b1:Nat}{p7 c6 bD bc aS},I0.le I->(S4 I p5 x.Nest c4)->(S4 I p6 x.Body c5)->(At I ⟨b1,0,none⟩ (cPart x p5 c4 p6 c5))->(S4 I p2 p.Parts c1)->(S4 I p7 y2 c6)->(S4 I p1 p.Arrays c)->(RL I aS au)->NG Q->NO Q->(∀ (I':Imm) (aH:List zK) (bq:Option Addr) (bo:Nat) (aT:List Value),o=(.done aH)->I0.le I'->(RL I' aT aH)->T 89 B Q (.exit 2) I' [hO zK (vS bq aH bo) aT,hB b (cProg p p1 c p2 c1)] [(1,vP b 0),(4,vS bq aH bo),(24,vS p2 p.Parts c1),(25,vI (p.Parts.length:Int)),(26,vI t26)])->(∀ r I' ah m',o=(.ret r)->I0.le I'->RS Tryz.prog f41 B (pO  r) I' ah m'->T 89 B Q .ret I' ah m')->J Tryz.prog 89 B (nav (bodyOf f41) [1,1,1,0,1,0,0,1,1,0,0,1,1,1,1,0]) Q I [hO zK (vS bD au bc) aS,hB b (cProg p p1 c p2 c1)] [(1,vP b 0),(4,vS bD au bc),(5,vI t26),(6,vP b1 0),(24,vS p2 p.Parts c1),(25,vI (p.Parts.length:Int)),(26,vI t26),(52,vS p7 y2 c6),(53,vI (y2.length:Int)),(54,vI t54)]:=by
 refine vK.partial_correctness p t26 x y2 _ fun aJ ih au t54 o N B I0 I Q p1 c p2 c1 b p5 c4 p6 c5 b1 p7 c6 bD bc aS H h6 h7 av h1 h8 h h16 hg ho hx hr=>yM hg ho<|yF [55] rfl<|zX<|yC N ?_ ?_
 · intro hc6 N;refine zS<|zX<|yG<|yE<|bE N fun x1 bI N=>xK rfl rfl h8 bI ?_;intro ad1 bv aY ax;obtain ⟨v011,rfl,h18⟩:=ax;obtain ⟨p14,bB,rfl⟩:=h18.form;refine xB 0 aY [vS p14 x1 bB] (vS p14 x1 bB) rfl<|yH [] [10] rfl<|zX<|yE<|yB 1 [] [58] rfl<|bE N fun y6 hy6 N=>vQ (zHE x1 _ hy6 h18) ?_;intro I07 le7;have ⟨h16,h6,h7,av,h18,h1⟩:=m6 le7 h16 h6 h7 av h18 h1;have ⟨h8,h,H⟩:=m3 le7 h8 h H;refine yH [] [60] rfl<|zG<|yC N ?_ ?_
   · intro hc7 N;exact yF [2,3] rfl<|xD<|zH<|zV<|zH<|zH<|hr _ _ _ _ (zC N).symm H ⟨_,_,(.tmp rfl (.tmp rfl ResV.nil)),zQ,⟨_,_,rfl,rfl,(SL.nil _),rfl⟩⟩
   intro hc7 N;refine zS<|yX<|yB 1 [] [61] rfl<|xB 1 av [vS p6 x.Body c5] (vS p6 x.Body c5) rfl<|yH [] [63,64] rfl<|xX<|rU [(1,vP b 0),(4,vS bD au bc),(5,vI t26),(6,vP b1 0),(10,vS p14 x1 bB),(24,vS p2 p.Parts c1),(25,vI (p.Parts.length:Int)),(26,vI t26),(52,vS p7 y2 c6),(53,vI (y2.length:Int)),(54,vI t54),(62,vS p6 x.Body c5),(63,vI (x.Body.length:Int)),(64,vI 0)] ?_;obtain ⟨o02,ho02,aM⟩:=zB N;refine zA4 p t26 x x1 au 0 o02 ho02 iR h6 h7 av h18 h1 h8 h h16 (fun _ _ _ h=>hg _ _ _ h) (fun _ _ h=>ho _ _ h) ?_ ?_
   · intro bY out5 p16 c15 bJ heq2 le11 h21;subst o02;have ⟨h6,h7,av,h1,h8,h⟩:=m6 le11 h6 h7 av h1 h8 h;have H:=H.trans le11;exact zR<|zM<|zG<|zJ<|yH [] [54] rfl<|yK<|oY<|ih out5 (W (t54+1)) _ aM H h6 h7 av h1 h8 h h21 hg ho hx hr
   intro r0 I9 hs9 m9 aZ le9 bb;subst aZ;exact zV<|zV<|zH<|zH<|hr _ _ _ _ (zC aM).symm (H.trans le9) bb
 intro hc6 N;exact wJ<|yL<|hx _ _ _ _ _ (zC N).symm H h16
def vL (p:zD) (out:List zK) (t26:Int):Option (Out (List zK) ((List zK)×Bool)):=do
 if (decide (t26<(p.Parts.length:Int))) then
  let x<-idx p.Parts t26
  let (y2,y3)<-kZ x.Nest
  let t51<-(do
    if (!y3) then
     pure true
    else
     let y4<-wB (x.Body.length:Int) 1 4
     if (!y4) then
      pure true
     else
      let y5<-wF x.Body (fun x0=>vW x0 x)
      pure (id y5)
      : Option Bool)
  if t51 then
   pure (.ret (([]:List zK),false))
  else
   match<-vK p t26 x y2 out 0 with
   | .ret r0=>pure (.ret r0)
   | .done aH =>
    vL p aH (W (t26+1))
 else
  pure (.done out)
 partial_fixpoint
theorem zA6 (p:zD):∀ (out:List zK) (t26:Int) (o:Out (List zK) ((List zK)×Bool)),vL p out t26=some o->∀ {B}{I0 I:Imm}{Q p1 c p2 c1}{b:Nat}{p3 c2 cs},I0.le I->(S4 I p2 p.Parts c1)->(S4 I p1 p.Arrays c)->(RL I cs out)->NG Q->NO Q->(∀ (I':Imm) (al:List zK) (p4:Option Addr) (c3:Nat) (az:List Value),o=(.done al)->I0.le I'->(RL I' az al)->T 89 B Q (.exit 0) I' [hO zK (vS p4 al c3) az] [(4,vS p4 al c3)])->(∀ r I' ah m',o=(.ret r)->I0.le I'->RS Tryz.prog f41 B (pO  r) I' ah m'->T 89 B Q .ret I' ah m')->J Tryz.prog 89 B (nav (bodyOf f41) [1,1,1,0,1,0]) Q I [hO zK (vS p3 out c2) cs,hB b (cProg p p1 c p2 c1)] [(1,vP b 0),(4,vS p3 out c2),(24,vS p2 p.Parts c1),(25,vI (p.Parts.length:Int)),(26,vI t26)]:=by
 refine vL.partial_correctness p _ fun aJ ih out t26 o N B I0 I Q p1 c p2 c1 b p3 c2 cs H h1 h h4 hg ho hx hr=>yM hg ho<|yF [27] rfl<|zX<|yC N ?_ ?_
 · intro aX N;refine zS<|zX<|yG<|yE<|yB 1 [] [28] rfl<|bE N fun x aB N=>xK rfl rfl h1 aB ?_;intro ad aQ ar ap;obtain ⟨p5,c4,p6,c5,rfl,h6,h7⟩:=wR ap;refine xB 0 ar (cPart x p5 c4 p6 c5) (vA (cPart x p5 c4 p6 c5)) rfl<|wS zTwo ?_;intro b1 hb1;refine yB 5 [] [5] rfl<|xJ 0 (cPart x p5 c4 p6 c5) rfl<|yD rfl<|yX<|yB 2 [0] [33] rfl ?_;obtain ⟨⟨y2,y3⟩,aN,N⟩:=zB N;refine xL (zE4 x.Nest _ aN h6) ?_;rintro ba ay v2 k2 aF - ⟨v03,v04,rfl,rfl,h8,rfl⟩ -;have ⟨h4,h1,h6,h7,h,H⟩:=m6 aF h4 h1 h6 h7 h H;obtain ⟨p7,c6,rfl⟩:=h8.form;refine yH [] [7,8] rfl<|zX<|zZ<|pH 0 rfl ?_;intro bH aK hl0;have av:At bH ⟨b1,0,none⟩ (cPart x p5 c4 p6 c5):=At.of_blk hl0;have ⟨h4,h6,h7,h8,h1,h⟩:=m6 aK h4 h6 h7 h8 h1 h;have H:=H.trans aK;refine wO N [hO zK (vS p3 out c2) cs,hB b (cProg p p1 c p2 c1)] (fun t51=>[(1,vP b 0),(4,vS p3 out c2),(5,vI t26),(6,vP b1 0),(7,vS p7 y2 c6),(24,vS p2 p.Parts c1),(25,vI (p.Parts.length:Int)),(26,vI t26),(51,.bool t51)]) (fun aP aA=>?_) ?_
   · have H:=iS bH;refine zJ<|yB 3 [] [39] rfl<|xV [39] aA ?_ ?_
     · intro bK N;exact wG [] [(51,vY)]<|yL<|zU (ct N H)
     intro bK N;refine yB 4 [] [40] rfl<|xB 1 av [vS p6 x.Body c5] (vS p6 x.Body c5) rfl<|yB 6 [] [42] rfl<|bE N fun y4 bm N=>vQ (wH (x.Body.length:Int) 1 4 _ bm ) ?_;intro bR bk;have ⟨h6,h7,av,h,H⟩:=m5 bk h6 h7 av h H;refine yB 10 [] [46] rfl<|xV [46] N ?_ ?_
     · intro bO N;exact wG [] [(51,vY)]<|yL<|zU (ct N H)
     intro bO N;refine yB 11 [] [47] rfl<|xB 1 av [vS p6 x.Body c5] (vS p6 x.Body c5) rfl<|yB 13 [] [49] rfl ?_;have hf0:FV1 Tryz.prog bR [] (.func (.func 80) ⟨[]⟩ ⟨[vP b1 0]⟩) (fun x0=>vW x0 x):=by
       refine FV1.intro ?_;intro I1 af x0 r u0 hF k0;obtain ⟨_,rfl,k0⟩:=k0;obtain ⟨p8,c7,p9,c8,bi,c9,aR,bh,rfl,h11,h12,h13,h14⟩:=pR k0;exact (zAg x0 x r hF h11 h12 h13 h14 (h6.mono af) (h7.mono af) (av.mono af)).mono (by rintro k i hs u ⟨v0,rfl,rfl,h⟩; exact ⟨rfl,h⟩)
     obtain ⟨y5,bw,N⟩:=zB N;refine xL (gT x.Body (fun x0=>vW x0 x) _ bw h7 hf0) ?_;rintro I06 ay v2 k2 bz - ⟨v010,rfl,rfl,rfl⟩ -;have H:=H.trans bz;exact yH [] [51] rfl<|yL<|zU (ct N H)
   intro t51 bL bC hMc1;have ⟨h4,h6,h7,av,h8,h1⟩:=m6 bC h4 h6 h7 av h8 h1;have ⟨h,H⟩:=m2 bC h H;refine zG<|yC hMc1 ?_ ?_
   · intro hc5 N;exact yF [2,3] rfl<|xD<|zH<|zV<|zH<|zH<|hr _ _ _ _ (zC N).symm H ⟨_,_,(.tmp rfl (.tmp rfl ResV.nil)),zQ,⟨_,_,rfl,rfl,(SL.nil _),rfl⟩⟩
   intro hc5 N;refine zS<|wM [52,53,54] rfl<|xX<|rU [(1,vP b 0),(4,vS p3 out c2),(5,vI t26),(6,vP b1 0),(24,vS p2 p.Parts c1),(25,vI (p.Parts.length:Int)),(26,vI t26),(52,vS p7 y2 c6),(53,vI (y2.length:Int)),(54,vI 0)] ?_;obtain ⟨o03,ho03,hMl1⟩:=zB N;refine zA5 p t26 x y2 out 0 o03 ho03 iR h6 h7 av h1 h8 h h4 (fun _ _ _ h=>hg _ _ _ h) (fun _ _ h=>ho _ _ h) ?_ ?_
   · intro bX aH bq bo aT heq3 le12 h17;subst o03;have ⟨h1,h,H⟩:=m3 le12 h1 h H;exact zR<|zM<|zG<|zJ<|yH [] [26] rfl<|yK<|oY<|ih aH (W (t26+1)) _ hMl1 H h1 h h17 hg ho hx hr
   intro r0 I9 hs9 m9 aZ le9 bb;subst aZ;exact zV<|zV<|zH<|zH<|hr _ _ _ _ (zC hMl1).symm (H.trans le9) bb
 intro aX N;exact wJ<|xQ (zW [0] rfl (by decide))<|yL<|hx _ _ _ _ _ (zC N).symm H h4
def sE (p:zD):Option ((List zK)×Bool):=do
 let t22<-(do
   let y<-gY p.Arrays
   if (!y) then
    pure true
   else
    pure (decide ((p.Parts.length:Int)>4))
     : Option Bool)
 if t22 then
  pure (([]:List zK),false)
 else
  match<-vL p ([]:List zK) 0 with
  | .ret r0=>pure r0
  | .done al =>
   pure (al,(decide ((al.length:Int)<=120)))
theorem eJ:∀ p r,sE p=some r->∀ {I:Imm}{p1 c p2 c1},(S4 I p1 p.Arrays c)->(S4 I p2 p.Parts c1)->RT 41 [vA (cProg p p1 c p2 c1)] I [] (pO  r):=by
 intro p r N I p1 c p2 c1 h h1;unfold sE at N;refine yJ func41 fun B=>?_;have H:=iS I;refine yE<|tO (cProg p p1 c p2 c1) ?_;intro b hb;refine wG [] []<|zX<|zZ ?_;refine wO N [hB b (cProg p p1 c p2 c1)] (fun t22=>[(1,vP b 0),(22,.bool t22)]) (fun o0 aD=>?_) ?_
 · have H:=iS I;refine zJ<|yB 2 [0] [14] rfl ?_;obtain ⟨y,hy,N⟩:=zB aD;refine vQ (zG1 p.Arrays _ hy h) ?_;intro aW le;have H:=H.trans le;refine yB 5 [] [17] rfl<|xV [17] N ?_ ?_
   · intro hc N;exact wG [] [(22,vY)]<|yL<|zU (ct N H)
   intro hc N;exact yH [0] [22] rfl<|yL<|zU (ct N H)
 intro t22 I0 af aU;have ⟨h,h1⟩:=m2 af h h1;refine zG<|yC aU ?_ ?_
 · intro aI N;refine yF [2,3] rfl<|xD<|zH ?_;obtain rfl:=zC N;exact yZ ⟨_,_,(.tmp rfl (.tmp rfl ResV.nil)),zQ,⟨_,_,rfl,rfl,(SL.nil _),rfl⟩⟩
 intro aI N;refine zS<|zEv [(4,z0)]<|zX<|yE<|yH [0] [24,25,26] rfl<|xX<|rU [(1,vP b 0),(4,z0),(24,vS p2 p.Parts c1),(25,vI (p.Parts.length:Int)),(26,vI 0)]<|zAI zK fun h3=>?_;obtain ⟨o04,ho04,hMl2⟩:=zB N;refine zA6 p ([]:List zK) 0 o04 ho04 iR h1 h h3 (fun _ _ _ h=>h) (fun _ _ h=>h) ?_ ?_
 · intro I013 al p4 c3 az heq4 le13 h5;subst o04;refine zR<|wM [2,3] rfl<|xD<|yU 0 rfl ?_;intro I014 le14 hl02;have h31:=SL.of_frozen hl02 le14 h5;obtain rfl:=zC hMl2;exact yZ ⟨_,_,(.tmp rfl (.tmp rfl ResV.nil)),zQ,⟨_,_,rfl,rfl,h31,rfl⟩⟩
 intro r0 I9 hs9 m9 aZ le9 bb;subst aZ;refine zV<|zH ?_;obtain rfl:=zC hMl2;exact yZ bb
def zCV (r:zP):KT:=fun kk I' ah v=>
  ∃ v0,ah=[]/\v=tupV [v0]/\(∃ cs,v0=.agg ⟨cs⟩/\Rp.rep I' cs r)
def jQ (p:zD) (x:zK):Option (zP):=do
 let x1<-idx p.Parts x.Part
 let x2<-idx x1.Body x.Stmt
 pure (id x2)
theorem zDP:∀ p x r,jQ p x=some r->∀ {I:Imm}{p1 c p2 c1 p3 c2},(S4 I p1 p.Arrays c)->(S4 I p2 p.Parts c1)->(S4 I p3 x.Point c2)->RT 127 [vA (cProg p p1 c p2 c1),vA (cInst x p3 c2)] I [] (zCV  r):=by
 intro p x r N I p1 c p2 c1 p3 c2 h h1 h2;unfold jQ at N;refine yJ func127 fun B=>yE<|tO (cProg p p1 c p2 c1) ?_;intro b hb;refine tO (cInst x p3 c2) ?_;intro b1 hb1;refine wS [vT ([]),z0,vI 0,vI 0,z0,vI 0,vT ([]),z0,z0] ?_;intro b2 hb2;refine yD rfl<|zG<|zZ ?_;obtain ⟨x1,hy,N⟩:=zB N;obtain ⟨x2,aB,N⟩:=zB N;refine wQ [.p (vP b 1) [],.p (vS p2 p.Parts c1) [2],.p (vP b1 0) [],.p (vI x.Part) [1],.x (ePPart x1),.x (eQPart 1 x1),.x (eS x1.Body),.p (vP b1 1) [],.p (vI x.Stmt) [1],.x (ePStmt x2),.x (eVStmt x2)] [[],[(0,false)],[],[(2,false)],[(1,false),(3,false)],[(4,false)],[(5,false)],[],[(7,false)],[(6,false),(8,false)],[(9,false)]] [hB b2 [vT ([]),z0,vI 0,vI 0,z0,vI 0,vT ([]),z0,z0],hB b1 (cInst x p3 c2),hB b (cProg p p1 c p2 c1)] [] [(10,false)] (zY [0,1,2]) ?_ ?_
 · refine Op<|Op<|Op<|Op<|Ox ?_<|Ox ?_<|Ox ?_<|Op<|Op<|Ox ?_<|Ox ?_<|On
   · intro I1 hf af;refine yT [6,8] rfl ?_;have h1:=h1.mono af;refine xK rfl rfl h1 hy ?_;intro ad aQ ar ap;obtain ⟨p4,c3,p5,c4,rfl,h3,h4⟩:=wR ap;exact yN [] iR ⟨_,_,_,_,_,rfl,rfl,ar,h3,h4⟩
   · rintro I1 hf af _ _ ⟨ad,p4,c3,p5,c4,rfl,rfl,ar,h3,h4⟩;exact yT [9] rfl<|mE 6 [(10,.pointer (some (ad.add 1)))]<|yN [] iR ⟨_,_,_,_,_,rfl,rfl,ar,h3,h4⟩
   · rintro I1 hf af _ _ ⟨ad1,p41,c31,p51,c41,rfl,rfl,av,h31,h41⟩;exact yT [10] rfl<|xB 1 av [vS p51 x1.Body c41] (vS p51 x1.Body c41) rfl<|yN [] iR ⟨_,_,rfl,rfl,h41⟩
   · rintro I1 hf af _ _ ⟨p511,c411,rfl,rfl,h411⟩;refine yT [11,13] rfl<|xK rfl rfl h411 aB ?_;intro ad2 bv aY ax;obtain ⟨p6,c5,p7,c6,p8,c7,p9,c8,rfl,h5,h6,h7,h8⟩:=pR ax;exact yN [] iR ⟨_,_,_,_,_,_,_,_,_,rfl,rfl,aY,h5,h6,h7,h8⟩
   rintro I1 hf af _ _ ⟨ad2,p6,c5,p7,c6,p8,c7,p9,c8,rfl,rfl,aY,h5,h6,h7,h8⟩;exact yT [14] rfl<|xB 0 aY (cStmt x2 p6 c5 p7 c6 p8 c7 p9 c8) (vA (cStmt x2 p6 c5 p7 c6 p8 c7 p9 c8)) rfl<|yN [] iR ⟨_,_,_,_,_,_,_,_,rfl,rfl,h5,h6,h7,h8⟩
 rintro I0 le _ _ ⟨p61,c51,p71,c61,p81,c71,p91,c81,rfl,rfl,h51,h61,h71,h81⟩;refine yT [4,15] rfl ?_;refine xJ 0 (cStmt x2 p61 c51 p71 c61 p81 c71 p91 c81) rfl<|yD rfl<|zG<|yW ?_;obtain rfl:=zC N;exact yZ ⟨_,_,(.cell 0 rfl rfl (by kernel_rfl) ResV.nil),zQ,⟨_,rfl,rfl,⟨_,rfl,(vC ⟨_,_,_,_,rfl,h51,h61,h71,h81⟩)⟩⟩⟩
def zBH (r:(List Int)×Int):KT:=fun kk I' ah v=>
  ∃ v0 v1,ah=[]/\v=tupV [v0,v1]/\SL I' v0 r.1/\v1=.int .i64 r.2
def vZ (p:zD) (x:zK) (y1:(List zL)) (out:List Int) (t17:Int):Option (List Int):=do
 if (decide (t17<(y1.length:Int))) then
  let x1<-idx y1 t17
  let y2<-sH p x1 x.Point
  let au<-app 8 out ([y2]:List Int)
  vZ p x y1 au (W (t17+1))
 else
  pure (id out)
 partial_fixpoint
theorem zAx (p:zD) (x:zK) (y1:(List zL)):∀ (out:List Int) (t17:Int) (o:List Int),vZ p x y1 out t17=some o->∀ {B}{I0 I:Imm}{Q}{y:zP}{p1 c p2 c1 p3 c2}{b:Nat}{b1:Nat}{p4 c3 p5 c4 p6 c5 p7 c6}{b2:Nat}{p8 c7 p9 c8 az},I0.le I->(S4 I p8 y1 c7)->(S4 I p4 y.Write.Subs c3)->(S4 I p5 y.Value.Index.Coefs c4)->(S4 I p6 y.Value.Read.Subs c5)->(S4 I p7 y.Value.Kids c6)->(S4 I p3 x.Point c2)->(S4 I p1 p.Arrays c)->(S4 I p2 p.Parts c1)->(RL I az out)->NG Q->NO Q->(∀ (I':Imm) (al:List Int) (bi:Option Addr) (c9:Nat) (aS:List Value),o=al->I0.le I'->(RL I' aS al)->T 37 B Q (.exit 0) I' [hO Int (vS bi al c9) aS,hB b2 (cStmt y p4 c3 p5 c4 p6 c5 p7 c6),hB b1 (cInst x p3 c2),hB b (cProg p p1 c p2 c1)] [(2,vP b 0),(3,vP b1 0),(6,vP b2 0),(7,vS bi al c9)])->J Tryz.prog 37 B (nav (bodyOf f85) [1,1,1,0,1,0]) Q I [hO Int (vS p9 out c8) az,hB b2 (cStmt y p4 c3 p5 c4 p6 c5 p7 c6),hB b1 (cInst x p3 c2),hB b (cProg p p1 c p2 c1)] [(2,vP b 0),(3,vP b1 0),(6,vP b2 0),(7,vS p9 out c8),(15,vS p8 y1 c7),(16,vI (y1.length:Int)),(17,vI t17)]:=by
 refine vZ.partial_correctness p x y1 _ fun aJ ih out t17 o N B I0 I Q y p1 c p2 c1 p3 c2 b b1 p4 c3 p5 c4 p6 c5 p7 c6 b2 p8 c7 p9 c8 az H h8 h4 h5 h6 h7 h2 h h1 h10 hg ho hx=>yM hg ho<|yF [18] rfl<|zX<|yC N ?_ ?_
 · intro hc N;refine zS<|zX<|yG<|yE<|bE N fun x1 aN N=>xK rfl rfl h8 aN ?_;intro ad aQ ar ap;obtain ⟨aR,bh,rfl,h12⟩:=nY ap;refine xB 0 ar (cAccess x1 aR bh) (vA (cAccess x1 aR bh)) rfl<|wS [vT ([]),z0] ?_;intro b3 hb3;refine xJ 0 (cAccess x1 aR bh) rfl<|yD rfl<|zG<|zJ<|rQ 5 [4,0,3] [(21,vS p9 out c8),(22,vA (cProg p p1 c p2 c1)),(23,vA (cAccess x1 aR bh)),(25,vS p3 x.Point c2)]<|bE N fun y2 bm N=>fK (jB p x1 x.Point _ bm h h1 h12 h2) ?_;intro ba aF;have ⟨h8,h10,h4,h5,h6,h7⟩:=m6 aF h8 h10 h4 h5 h6 h7;have ⟨h2,h,h1,H⟩:=m4 aF h2 h h1 H;refine uK [vI y2] Int ?_;intro b4 hb4;have h14:RL ba [vI y2] ([y2]:List Int):=rI [y2];obtain ⟨au,bw,N⟩:=zB N;exact sU 3 1 2 rfl rfl rfl h10 (.inr ⟨0,rfl⟩) h14 bw fun bD bc aT h15=>tZ (zY [1,2,3,4,5] (ah:=[hB b3 (cAccess x1 aR bh),hO Int (vS bD au bc) aT,hB b2 (cStmt y p4 c3 p5 c4 p6 c5 p7 c6),hB b1 (cInst x p3 c2),hB b (cProg p p1 c p2 c1)]))<|yH [] [7] rfl<|zM<|zG<|zJ<|yH [] [17] rfl<|yK<|kE (zW [1,2,3,4] rfl (by decide))<|oY<|ih au (W (t17+1)) _ N H h8 h4 h5 h6 h7 h2 h h1 h15 hg ho hx
 intro hc N;exact wJ<|yL<|hx _ _ _ _ _ (zC N).symm H h10
def oD (p:zD) (x:zK):Option ((List Int)×Int):=do
 let y<-jQ p x
 let y1<-jC y.Value
 let al<-vZ p x y1 ([]:List Int) 0
 let y3<-sH p y.Write x.Point
 pure (al,y3)
theorem zCC:∀ p x r,oD p x=some r->∀ {I:Imm}{p1 c p2 c1 p3 c2},(S4 I p1 p.Arrays c)->(S4 I p2 p.Parts c1)->(S4 I p3 x.Point c2)->RT 85 [vA (cProg p p1 c p2 c1),vA (cInst x p3 c2)] I [] (zBH  r):=by
 intro p x r N I p1 c p2 c1 p3 c2 h h1 h2;unfold oD at N;refine yJ func85 fun B=>yE<|tO (cProg p p1 c p2 c1) ?_;intro b hb;refine tO (cInst x p3 c2) ?_;intro b1 hb1;refine wG [] []<|yX<|rQ 2 [1,0] [(10,vA (cProg p p1 c p2 c1)),(11,vA (cInst x p3 c2))]<|bE N fun y hy N=>xL (zDP p x _ hy h h1 h2) ?_;rintro I0 ay v2 k2 le - ⟨v0,rfl,rfl,⟨cs,rfl,h3⟩⟩ -;have ⟨h2,h,h1⟩:=m3 le h2 h h1;obtain ⟨p4,c3,p5,c4,p6,c5,p7,c6,rfl,h4,h5,h6,h7⟩:=pR h3;refine wS [vT ([]),z0,vI 0,vI 0,z0,vI 0,vT ([]),z0,z0] ?_;intro b2 hb2;refine xJ 0 (cStmt y p4 c3 p5 c4 p6 c5 p7 c6) rfl<|yD rfl<|zEv [(7,z0)]<|zX<|yE<|rQ 2 [0] [(14,vA (cExpr y.Value p5 c4 p6 c5 p7 c6))]<|bE N fun y1 aB N=>xL (zED y.Value _ aB h5 h6 h7) ?_;rintro aW ay v2 k2 af - ⟨v05,rfl,rfl,h8⟩ -;have ⟨h4,h5,h6,h7,h2,h⟩:=m6 af h4 h5 h6 h7 h2 h;have h1:=h1.mono af;obtain ⟨p8,c7,rfl⟩:=h8.form;refine yH [] [16,17] rfl<|xX<|rU [(2,vP b 0),(3,vP b1 0),(6,vP b2 0),(7,z0),(15,vS p8 y1 c7),(16,vI (y1.length:Int)),(17,vI 0)]<|zAI Int fun h9=>?_;obtain ⟨o0,aD,aM⟩:=zB N;refine zAx p x y1 ([]:List Int) 0 o0 aD iR h8 h4 h5 h6 h7 h2 h h1 h9 (fun _ _ _ h=>h) (fun _ _ h=>h) ?_;intro bH al bi c9 aS heq aK h11;subst o0;have ⟨h4,h2,h,h1⟩:=m4 aK h4 h2 h h1;refine zR<|yX<|rQ 6 [3,1,2] [(30,vS bi al c9),(31,vA (cProg p p1 c p2 c1)),(33,vA (cAccess y.Write p4 c3)),(35,vS p3 x.Point c2)] ?_;obtain ⟨y3,bI,N⟩:=zB aM;refine fK (jB p y.Write x.Point _ bI h h1 h4 h2) ?_;intro bL bk;have h11:=iM bk h11;refine yH [] [4,5] rfl<|xD<|yU 0 rfl ?_;intro bR bz hl0;have h17:=SL.of_frozen hl0 bz h11;obtain rfl:=zC N;exact yZ ⟨_,_,(.tmp rfl (.tmp rfl ResV.nil)),zQ,⟨_,_,rfl,rfl,h17,rfl⟩⟩
def zHF (r:(Option xS)×Bool):KT:=fun kk I' ah v=>
  ∃ v0 v1,ah=[]/\v=tupV [v0,v1]/\FP I' v0 r.1/\v1=.bool r.2
def mM (p:zD) (y1:(List zK)) (t24:Int) (reads:List (List Int)) (writes:List Int):Option ((List (List Int)×List Int)):=do
 if (decide (t24<(y1.length:Int))) then
  let x<-idx y1 t24
  let (y4,y5)<-oD p x
  let l<-app 24 reads ([y4]:List (List Int))
  let l1<-app 8 writes ([y5]:List Int)
  mM p y1 (W (t24+1)) l l1
 else
  pure (reads,writes)
 partial_fixpoint
theorem zG3 (p:zD) (y1:(List zK)):∀ (t24:Int) (reads:List (List Int)) (writes:List Int) (o:(List (List Int)×List Int)),mM p y1 t24 reads writes=some o->∀ {B}{I0 I:Imm}{Q p1 c p2 c1}{b:Nat}{p3 c2}{b1:Nat}{p4 c3 cs p5 c4 az},I0.le I->(S4 I p3 y1 c2)->(S4 I p1 p.Arrays c)->(S4 I p2 p.Parts c1)->(RL I cs reads)->(RL I az writes)->NG Q->NO Q->(∀ (I':Imm) (reads1:List (List Int)) (writes1:List Int) (p6:Option Addr) (c5:Nat) (aS:List Value) (p7:Option Addr) (c6:Nat) (aT:List Value),o=(reads1,writes1)->I0.le I'->(RL I' aS reads1)->(RL I' aT writes1)->T 56 B Q (.exit 0) I' [hO Int (vS p7 writes1 c6) aT,hO (List Int) (vS p6 reads1 c5) aS,hB b1 [vS p1 p.Arrays c,vS p2 p.Parts c1,vS p3 y1 c2,vS p6 reads1 c5,vS p7 writes1 c6]] [(6,vP b1 0)])->J Tryz.prog 56 B (nav (bodyOf f43) [1,1,1,1,0,1,0]) Q I [hO Int (vS p5 writes c4) az,hO (List Int) (vS p4 reads c3) cs,hB b1 [vS p1 p.Arrays c,vS p2 p.Parts c1,vS p3 y1 c2,vS p4 reads c3,vS p5 writes c4],hB b (cProg p p1 c p2 c1)] [(1,vP b 0),(6,vP b1 0),(22,vS p3 y1 c2),(23,vI (y1.length:Int)),(24,vI t24)]:=by
 refine mM.partial_correctness p y1 _ fun aJ ih t24 reads writes o N B I0 I Q p1 c p2 c1 b p3 c2 b1 p4 c3 cs p5 c4 az H h2 h h1 h6 h7 hg ho hx=>yM hg ho<|yF [25] rfl<|zX<|yC N ?_ ?_
 · intro aI N;refine zS<|zX<|yG<|yE<|bE N fun x aB N=>xK rfl rfl h2 aB ?_;intro ad aQ ar ap;obtain ⟨p8,c7,rfl,h10⟩:=vO ap;refine xB 0 ar (cInst x p8 c7) (vA (cInst x p8 c7)) rfl<|wS [vI 0,vI 0,z0] ?_;intro b2 hb2;refine xJ 0 (cInst x p8 c7) rfl<|yD rfl<|yX<|rQ 2 [4,0] [(29,vA (cProg p p1 c p2 c1)),(30,vA (cInst x p8 c7))] ?_;obtain ⟨⟨y4,y5⟩,aN,N⟩:=zB N;refine xL (zCC p x _ aN h h1 h10) ?_;rintro aW ay v2 k2 af - ⟨v03,v04,rfl,rfl,h11,rfl⟩ -;have ⟨h2,h7,h6,h,h1,H⟩:=m6 af h2 h7 h6 h h1 H;obtain ⟨p9,c8,rfl⟩:=h11.form;refine yH [] [9,10] rfl<|zG ?_;obtain ⟨l,bm,N⟩:=zB N;obtain ⟨l1,bw,N⟩:=zB N;refine wQ [.p (vP b1 0) [],.p (vP b1 0) [],.p (vP b1 0) [],.p (vP b1 0) [],.p (vP b1 3) [],.q (vS p4 reads c3),.p (vS p9 y4 c8) [],.x (fun I' v hx=>∃ b3,v=vS (some ⟨b3,0,none⟩) ([y4]:List (List Int)) 1/\hx=[]/\(SL I' (vS (some ⟨b3,0,none⟩) ([y4]:List (List Int)) 1) ([y4]:List (List Int)))),.x (fun I' v hx=>∃ bi c9 bt,v=vS bi l c9/\hx=[hO (List Int) (vS bi l c9) bt]/\(RL I' bt l)),.p (vP b1 0) [],.p (vP b1 0) [],.p (vP b1 4) [],.q (vS p5 writes c4),.p (vI y5) [],.x (fun I' v hx=>∃ b4,v=vS (some ⟨b4,0,none⟩) ([y5]:List Int) 1/\hx=[]/\(SL I' (vS (some ⟨b4,0,none⟩) ([y5]:List Int) 1) ([y5]:List Int))),.x (fun I' v hx=>∃ aR bh bJ,v=vS aR l1 bh/\hx=[hO Int (vS aR l1 bh) bJ]/\(RL I' bJ l1)),.p (vP b1 0) [],.p (vP b1 3) [],.x (fun I' v hx=>∃ p101 c91 cs41,hx=[hB b1 [vS p1 p.Arrays c,vS p2 p.Parts c1,vS p3 y1 c2,vS p101 l c91,vS p5 writes c4],hO (List Int) (vS p101 l c91) cs41]/\(RL I' cs41 l))] [[],[],[],[(2,false)],[(3,false)],[(4,false),(24,false)],[],[(6,false)],[(5,false),(7,false),(22,true)],[],[(9,false)],[(10,false)],[(11,false),(24,false)],[],[(13,false)],[(12,false),(14,false),(23,true)],[(0,false)],[(16,false)],[(8,true),(17,false),(24,true)]] [hB b2 (cInst x p8 c7),hB b (cProg p p1 c p2 c1)] [[hO (List Int) (vS p4 reads c3) cs],[hO Int (vS p5 writes c4) az],[hB b1 [vS p1 p.Arrays c,vS p2 p.Parts c1,vS p3 y1 c2,vS p4 reads c3,vS p5 writes c4]]] [(1,false),(15,true),(18,true)] (zY [0,4,2,1,3]) ?_ ?_
   · refine Op<|Op<|Op<|Op<|Op<|Ob ?_<|Op<|Ox ?_<|Ox ?_<|Op<|Op<|Op<|Ob ?_<|Op<|Ox ?_<|Ox ?_<|Op<|Op<|Ox ?_<|On
     · intro I1 hf af hbo;obtain ⟨hf2,hbp⟩:=hbo.at (j:=24) (g:=[hB b1 [vS p1 p.Arrays c,vS p2 p.Parts c1,vS p3 y1 c2,vS p4 reads c3,vS p5 writes c4]]) (by decide) (by kernel_rfl) rfl;refine wE ?_;rintro _ _ ⟨rfl,rfl⟩;refine wE ?_;rintro _ _ rfl;refine oQ<|zPF hbp<|zBF [(38,vP b1 3)] ?_;exact zEH (cs:=[vS p4 reads c3]) (v:=vS p4 reads c3) 2 rfl rfl rfl rfl rfl (by kernel_rfl) (by kernel_rfl) (by kernel_rfl)<|xC iR
     · intro I1 hf af;refine yT [40] rfl ?_;have H:=iS I1;have h11:=h11.mono af;refine mN (rc y4 ⟨_,rfl,h11⟩ rN) ?_;intro b3 ba aF h14;have H:=H.trans aF;exact yN [] H ⟨_,rfl,rfl,h14⟩
     · rintro I1 hf af _ _ ⟨rfl,rfl⟩ _ _ ⟨b3,rfl,rfl,h14⟩ _ _ rfl;refine yT [39,41] rfl ?_;have h6:=iM af h6;obtain ⟨bv,k0,k01⟩:=h14;have h14:SL I1 (vS (some ⟨b3,0,none⟩) ([y4]:List (List Int)) 1) ([y4]:List (List Int)):=⟨_,k0,k01⟩;exact sU 27 1 0 rfl rfl rfl h6 (.inl k0) k01 bm fun bi c9 bt h15=>wN (ah:=(hO (List Int) (vS bi l c9) bt::hB b2 (cInst x p8 c7)::hB b (cProg p p1 c p2 c1)::hf)) rfl<|yN [hO (List Int) (vS bi l c9) bt] iR ⟨_,_,_,rfl,rfl,h15⟩
     · intro I1 hf af hbo;obtain ⟨hf2,hbp⟩:=hbo.at (j:=24) (g:=[hB b1 [vS p1 p.Arrays c,vS p2 p.Parts c1,vS p3 y1 c2,vS p4 reads c3,vS p5 writes c4]]) (by decide) (by kernel_rfl) rfl;refine wE ?_;rintro _ _ ⟨rfl,rfl⟩;refine wE ?_;rintro _ _ rfl;refine oQ<|zPF hbp<|zBF [(45,vP b1 4)] ?_;exact zEH (cs:=[vS p5 writes c4]) (v:=vS p5 writes c4) 2 rfl rfl rfl rfl rfl (by kernel_rfl) (by kernel_rfl) (by kernel_rfl)<|xC iR
     · intro I1 hf af;refine yT [47] rfl ?_;have H:=iS I1;refine mN (rI [y5]) ?_;intro b4 bH aK h17;have H:=H.trans aK;exact yN [] H ⟨_,rfl,rfl,h17⟩
     · rintro I1 hf af _ _ ⟨rfl,rfl⟩ _ _ ⟨b4,rfl,rfl,h17⟩ _ _ rfl;refine yT [46,48] rfl ?_;have h7:=iM af h7;obtain ⟨bP,k02,k03⟩:=h17;have h17:SL I1 (vS (some ⟨b4,0,none⟩) ([y5]:List Int) 1) ([y5]:List Int):=⟨_,k02,k03⟩;exact sU 3 1 0 rfl rfl rfl h7 (.inl k02) k03 bw fun aR bh bJ h18=>wN (ah:=(hO Int (vS aR l1 bh) bJ::hB b2 (cInst x p8 c7)::hB b (cProg p p1 c p2 c1)::hf)) rfl<|yN [hO Int (vS aR l1 bh) bJ] iR ⟨_,_,_,rfl,rfl,h18⟩
     rintro I1 hf af _ _ ⟨bi,c9,bt,rfl,rfl,h15⟩ _ _ ⟨rfl,rfl⟩ _ _ rfl;refine yT [42,51] rfl ?_;have H:=iS I1;exact zB5 0 [vS p1 p.Arrays c,vS p2 p.Parts c1,vS p3 y1 c2,vS bi l c9,vS p5 writes c4] (hB b1 [vS p1 p.Arrays c,vS p2 p.Parts c1,vS p3 y1 c2,vS bi l c9,vS p5 writes c4]::hO (List Int) (vS bi l c9) bt::hB b2 (cInst x p8 c7)::hB b (cProg p p1 c p2 c1)::hf) rfl rfl rfl rfl<|zGi (hx:=[hB b1 [vS p1 p.Arrays c,vS p2 p.Parts c1,vS p3 y1 c2,vS bi l c9,vS p5 writes c4],hO (List Int) (vS bi l c9) bt]) rfl H rfl (zH8 (v:=undef)) ⟨_,_,_,rfl,h15⟩
   rintro bL bk _ _ ⟨rfl,rfl⟩ _ _ ⟨aR,bh,bJ,rfl,rfl,h18⟩ _ _ ⟨p101,c91,cs41,rfl,h151⟩;refine yT [1,6,22,23,24,35,49] rfl ?_;have ⟨h2,h,h1,H⟩:=m4 bk h2 h h1 H;exact yB 21 [] [53] rfl<|xJ 0 [vS p1 p.Arrays c,vS p2 p.Parts c1,vS p3 y1 c2,vS p101 l c91,vS aR l1 bh] rfl<|yD rfl<|zM<|zG<|zJ<|yH [] [24] rfl<|yK<|kE (zW [2,1,0,4] rfl (by decide))<|oY<|ih (W (t24+1)) l l1 _ N H h2 h h1 h151 h18 hg ho hx
 intro aI N;exact wJ<|xQ (zW [0,1,2] rfl (by decide))<|yL<|hx _ _ _ _ _ _ _ _ _ (zC N).symm H h6 h7
def gU (p:zD):Option ((Option xS)×Bool):=do
 let (y1,y2)<-sE p
 if (!y2) then
  pure (none,false)
 else
  let (reads1,writes1)<-mM p y1 0 ([]:List (List Int)) ([]:List Int)
  pure ((some (xS.mk p y1 reads1 writes1)),true)
theorem zBc:∀ p r,gU p=some r->∀ {I:Imm}{p1 c p2 c1},(S4 I p1 p.Arrays c)->(S4 I p2 p.Parts c1)->RT 43 [vA (cProg p p1 c p2 c1)] I [] (zHF  r):=by
 intro p r N I p1 c p2 c1 h h1;unfold gU at N;refine yJ func43 fun B=>yE<|tO (cProg p p1 c p2 c1) ?_;intro b hb;refine wG [] []<|yX<|rQ 1 [0] [(12,vA (cProg p p1 c p2 c1))] ?_;obtain ⟨⟨y1,y2⟩,hy,N⟩:=zB N;refine xL (eJ p _ hy h h1) ?_;rintro I0 ay v2 k2 le - ⟨v0,v01,rfl,rfl,h2,rfl⟩ -;have ⟨h,h1⟩:=m2 le h h1;obtain ⟨p3,c2,rfl⟩:=h2.form;refine yH [] [4,5] rfl<|zX<|yF [17] rfl<|zG<|yC N ?_ ?_
 · intro hc N;refine yF [2,3] rfl<|xD<|zH ?_;obtain rfl:=zC N;exact yZ ⟨_,_,(.tmp rfl (.tmp rfl ResV.nil)),zQ,⟨_,_,rfl,rfl,zPY,rfl⟩⟩
 intro hc N;refine zS<|yX<|rQ 3 [0] [(20,vA [vS p1 p.Arrays c,vS p2 p.Parts c1,vS p3 y1 c2,z0,z0])]<|tO [vS p1 p.Arrays c,vS p2 p.Parts c1,vS p3 y1 c2,z0,z0] ?_;intro b1 hb1;refine yH [] [6] rfl<|zX<|yF [22,23,24] rfl<|xX<|rU [(1,vP b 0),(6,vP b1 0),(22,vS p3 y1 c2),(23,vI (y1.length:Int)),(24,vI 0)]<|zAI (List Int) fun h4=>?_;refine zAI Int fun h5=>?_;obtain ⟨o0,aD,aM⟩:=zB N;refine zG3 p y1 0 ([]:List (List Int)) ([]:List Int) o0 aD iR h2 h h1 h4 h5 (fun _ _ _ h=>h) (fun _ _ h=>h) ?_;intro bR reads1 writes1 p6 c5 aS p7 c6 aT heq bz h8 h9;subst o0;have ⟨h,h1,h2⟩:=m3 bz h h1 h2;refine zR<|wM [2,3] rfl<|xD<|yU 1 rfl ?_;intro I06 bC hl02;have h19:=SL.of_frozen hl02 bC h8;have ⟨h9,h,h1,h2⟩:=m4 bC h9 h h1 h2;refine yU 0 rfl ?_;intro I07 le7 hl03;have h20:=SL.of_frozen hl03 le7 h9;have ⟨h,h1,h2,h19⟩:=m4 le7 h h1 h2 h19;refine yU 0 rfl ?_;intro I08 le8 hl04;have av:At I08 ⟨b1,0,none⟩ [vS p1 p.Arrays c,vS p2 p.Parts c1,vS p3 y1 c2,vS p6 reads1 c5,vS p7 writes1 c6]:=At.of_blk hl04;have ⟨h,h1,h2,h19,h20⟩:=m5 le8 h h1 h2 h19 h20;obtain rfl:=zC aM;exact yZ ⟨_,_,(.tmp rfl (.tmp rfl ResV.nil)),zQ,⟨_,_,rfl,rfl,(zQK av (zGD ⟨_,_,_,_,_,rfl,h,h1,h2,h19,h20⟩)),rfl⟩⟩
def oU (p:zD) (part:Int):Option (Bool):=do
 let y<-wB part 0 (W ((p.Parts.length:Int) - 1))
 pure (id y)
theorem zCW:∀ p part r,oU p part=some r->∀ {I:Imm}{p1 c p2 c1},(S4 I p1 p.Arrays c)->(S4 I p2 p.Parts c1)->RT 86 [vA (cProg p p1 c p2 c1),vI part] I [] (zT  r):=by
 intro p part r N I p1 c p2 c1 h h1;unfold oU at N;refine yJ func86 fun B=>yE<|tO (cProg p p1 c p2 c1) ?_;intro b hb;refine wG [] []<|yX<|yB 5 [0] [5,9] rfl<|bE N fun y hy N=>vQ (wH part 0 (W ((p.Parts.length:Int) - 1)) _ hy ) fun I0 le=>wG [] [(4,.bool y)]<|zG<|yW ?_;obtain rfl:=zC N;exact wI
def sM (p:zD) (part:Int) (loop:Int):Option (Bool):=do
 let t6<-(do
   let y<-oU p part
   if y then
    let x<-idx p.Parts part
    let y1<-wB loop 0 (W ((x.Nest.length:Int) - 1))
    pure (id y1)
   else
    pure false
     : Option Bool)
 pure (id t6)
theorem zAB:∀ p part loop r,sM p part loop=some r->∀ {I:Imm}{p1 c p2 c1},(S4 I p1 p.Arrays c)->(S4 I p2 p.Parts c1)->RT 44 [vA (cProg p p1 c p2 c1),vI part,vI loop] I [] (zT  r):=by
 intro p part loop r N I p1 c p2 c1 h h1;unfold sM at N;refine yJ func44 fun B=>?_;have H:=iS I;refine yE<|tO (cProg p p1 c p2 c1) ?_;intro b hb;refine wG [] []<|zG<|zZ ?_;refine wO N [] (fun t6=>[(6,.bool t6)]) (fun o0 aD=>?_) ?_
 · have H:=iS I;refine zJ<|rQ 2 [0] [(7,vA (cProg p p1 c p2 c1)),(8,vI part)] ?_;obtain ⟨y,hy,N⟩:=zB aD;refine vQ (zCW p part _ hy h h1) ?_;intro aW le;have ⟨h1,H⟩:=m2 le h1 H;refine yB 4 [] [10] rfl<|xV [10] N ?_ ?_
   · intro hc N;refine yB 8 [0] [11,13,14] rfl<|bE N fun x aB N=>xK rfl rfl h1 aB ?_;intro ad aQ ar ap;obtain ⟨p3,c2,p4,c3,rfl,h3,h4⟩:=wR ap;refine yB 10 [] [16] rfl<|xB 0 ar [vS p3 x.Nest c2] (vS p3 x.Nest c2) rfl<|yB 13 [] [19] rfl<|bE N fun y1 aN N=>vQ (wH loop 0 (W ((x.Nest.length:Int) - 1)) _ aN ) ?_;intro ba af;have H:=H.trans af;exact yH [] [6] rfl<|xQ zQ<|yL<|zU (ct N H)
   intro hc N;exact wG [] [(6,vF)]<|xQ zQ<|yL<|zU (ct N H)
 intro t6 I0 aF aU;refine zG<|yW ?_;obtain rfl:=zC aU;exact wI
def uA (s1:(List Int)) (s2:(List Int)) (t13:Int):Option (Out Unit (Bool)):=do
 if (decide (t13<(s1.length:Int))) then
  let x<-idx s1 t13
  let x1<-idx s2 t13
  if (x != x1) then
   pure (.ret false)
  else
   uA s1 s2 (W (t13+1))
 else
  pure (.done ())
 partial_fixpoint
theorem zAy (s1:(List Int)) (s2:(List Int)):∀ (t13:Int) (o:Out Unit (Bool)),uA s1 s2 t13=some o->∀ {B}{I0 I:Imm}{Q p c p1 c1},I0.le I->(S4 I p s1 c)->(S4 I p1 s2 c1)->NG Q->NO Q->(∀ (I':Imm) ,o=(.done ())->I0.le I'->T 26 B Q (.exit 0) I' [] [])->(∀ r I' ah m',o=(.ret r)->I0.le I'->RS Tryz.prog f61 B (zT  r) I' ah m'->T 26 B Q .ret I' ah m')->J Tryz.prog 26 B (nav (bodyOf f61) [1,1,0,1,0]) Q I [] [(0,vS p s1 c),(1,vS p1 s2 c1),(12,vI (s1.length:Int)),(13,vI t13)]:=by
 refine uA.partial_correctness s1 s2 _ fun aJ ih t13 o N B I0 I Q p c p1 c1 H h h1 hg ho hx hr=>yM hg ho<|yF [14] rfl<|zX<|yC N ?_ ?_
 · intro aI N;refine zS<|zX<|yG<|yF [5] rfl<|zX<|kF (by kernel_rfl) (by kernel_rfl)<|fL 2 [] [16,17] rfl<|bE N fun x hy N=>dQ rfl rfl h hy ?_;intro ad aQ ar ap;obtain rfl:=ap;refine gX 0 ar [vI x] (vI x) rfl<|fL 6 [] [20,21] rfl<|bE N fun x1 aB N=>dQ rfl rfl h1 aB ?_;intro ad1 bv av ax;obtain rfl:=ax;refine gX 0 av [vI x1] (vI x1) rfl<|zGo [] [24] rfl<|zG<|yC N ?_ ?_
   · intro aX N;exact wP [(4,vF)]<|xD<|zV<|zH<|zH<|hr _ _ _ _ (zC N).symm H ⟨_,_,(.tmp rfl ResV.nil),zQ,⟨_,rfl,rfl,rfl⟩⟩
   intro aX N;exact zS<|zM<|zG<|zJ<|yH [] [13] rfl<|yK<|oY<|ih (W (t13+1)) _ N H h h1 hg ho hx hr
 intro aI N;exact wJ<|yL<|hx _  (zC N).symm H
def tX (s1:(List Int)) (s2:(List Int)):Option (Bool):=do
 if ((s1.length:Int) != (s2.length:Int)) then
  pure false
 else
  match<-uA s1 s2 0 with
  | .ret r0=>pure r0
  | .done _ =>
   pure true
theorem gB:∀ s1 s2 r,tX s1 s2=some r->∀ {I:Imm}{p c p1 c1},(S4 I p s1 c)->(S4 I p1 s2 c1)->RT 61 [vS p s1 c,vS p1 s2 c1] I [] (zT  r):=by
 intro s1 s2 r N I p c p1 c1 h h1;unfold tX at N;refine yJ func61 fun B=>wP []<|zX<|yF [10] rfl<|zG<|yC N ?_ ?_
 · intro hc N;refine wP [(4,vF)]<|xD<|zH ?_;obtain rfl:=zC N;exact wI
 intro hc N;refine zS<|zX<|yF [12,13] rfl<|xX<|rU [(0,vS p s1 c),(1,vS p1 s2 c1),(12,vI (s1.length:Int)),(13,vI 0)] ?_;obtain ⟨o0,aD,aM⟩:=zB N;refine zAy s1 s2 0 o0 aD iR h h1 (fun _ _ _ h=>h) (fun _ _ h=>h) ?_ ?_
 · intro I0  heq le;subst o0;refine zR<|zEv [(4,vY)]<|zG<|yW ?_;obtain rfl:=zC aM;exact wI
 intro r0 I9 hs9 m9 aZ le9 bb;subst aZ;refine zV<|zH ?_;obtain rfl:=zC aM;exact yZ bb
instance {β:Type} [Rp β] {i j:Imm}{xs:List (List β)}{X:List Raw1}{y:List β}{v:Value}:Mo (GN i xs X y v) i j (GN j xs X y v):=⟨fun h x=>x.mono h⟩
instance {σ α β:Type} [Vr α] [Vr β] {P:Program}{i j:Imm}{hsS:σ->List HA}{v:Value}{φ:α->σ->Option (β×σ)}:Mo (FS1 P i hsS v φ) i j (FS1 P j hsS v φ):=⟨fun h x=>x.mono h⟩
theorem zQS {B:Base}{I:Imm}{Q:Exit->Act->World->Prop}{v0 vl:Value}{part loop i n t20:Int}{O G:List Raw1}{l l1:List Int}{aO aG aL:Option Addr}{kO kG kL:Nat}{cO cG cL:List Value}{adG:Addr}{iO:Int} (qO:RL I cO O) (hG:RL I cG G) (hL:RL I cL l) (ar:AtO (vS aO O kO) (Rp.sz Raw1) iO.toNat adG) (hyO:idx O iO=some ⟨vS aG G kG⟩) (hyG:idx G (W ((G.length:Int) - 1))=some ⟨vS aL l kL⟩) (hap:app 8 l [i]=some l1) (hx:∀ (I':Imm) (cG':List Value) (aL':Option Addr) (kL':Nat) (cL':List Value),I.le I'->RL I' cG' (G.set (W ((G.length:Int) - 1)).toNat ⟨vS aL' l1 kL'⟩)->RL I' cL' l1->T 107 B Q .normal I' [hO Raw1 (vS aO O kO) cO,hO Raw1 (vS aG G kG) cG',hO Int (vS aL' l1 kL') cL'] [(0,v0),(1,vI part),(2,vI loop),(7,vS aO O kO),(8,vI i),(18,vl),(19,vI n),(20,vI t20)]):J Tryz.prog 107 B (nav (bodyOf f74) [1,1,1,0,1,0,0,1,1,0,0,1,1,1,1,1,1,1]) Q I [hO Raw1 (vS aO O kO) cO,hO Raw1 (vS aG G kG) cG,hO Int (vS aL l kL) cL] [(0,v0),(1,vI part),(2,vI loop),(7,vS aO O kO),(9,vI i),(13,.pointer (some adG)),(18,vl),(19,vI n),(20,vI t20)]:=by
 have hccO:(cO.drop (iO.toNat*Rp.sz Raw1)).take (Rp.sz Raw1)=[vS aG G kG]:=(qO.at (vU hyO).2.2).1.1;refine zZ<|wQ [.p (.pointer (some adG)) [],.p (.pointer (some adG)) [],.q (vS aG G kG),.p (.pointer (some adG)) [],.p (.pointer (some adG)) [],.q (vS aG G kG),.q (vI (G.length:Int)),.q (vI (W ((G.length:Int) - 1))),.x (fun I' v hx=>∃ ad,v=.pointer (some ad)/\hx=[]/\AtO (vS aG G kG) (Rp.sz Raw1) (W ((G.length:Int) - 1)).toNat ad)] [[],[(0,false)],[(1,false)],[],[(3,false)],[(4,false)],[(5,false)],[(6,false)],[(2,false),(7,false)]] [hO Raw1 (vS aO O kO) cO,hO Raw1 (vS aG G kG) cG,hO Int (vS aL l kL) cL] [] [(8,false)] (zY [0,1,2]) ?_ ?_
 · refine Op<|Op<|Oq ?_<|Op<|Op<|Oq ?_<|Oq ?_<|Oq ?_<|Ox ?_<|On
   · rintro I1 hf af _ _ ⟨rfl,rfl⟩;exact oQ<|zBF [(88,.pointer (some adG))]<|zAH 0 0 ar hccO [vS aG G kG] (vS aG G kG) rfl rfl<|xC iR
   · rintro I1 hf af _ _ ⟨rfl,rfl⟩;exact oQ<|zBF [(91,.pointer (some adG))]<|zAH 0 0 ar hccO [vS aG G kG] (vS aG G kG) rfl rfl<|xC iR
   · rintro I1 hf af _ _ ⟨rfl,rfl⟩;exact oQ<|zBF [(92,vS aG G kG)]<|mE 7 [(93,vI (G.length:Int))]<|xC iR
   · rintro I1 hf af _ _ ⟨rfl,rfl⟩;exact oQ<|zBF [(93,vI (G.length:Int))]<|mE 8 [(94,vI (W ((G.length:Int) - 1)))]<|xC iR
   intro I1 hf af;exact yT [89,94] rfl<|pQ (α:=Raw1) 1 rfl rfl rfl (iM af hG) hyG fun ad aQ aY _ _=>yN [] iR ⟨_,rfl,rfl,aY⟩
 rintro I2 aF _ _ ⟨adL,rfl,rfl,hatL⟩;refine yT [0,1,2,7,9,95,18,19,20] rfl ?_;replace qO:RL I2 cO O:=iM aF qO;have hG:RL I2 cG G:=iM aF hG;have hL:RL I2 cL l:=iM aF hL;have hccG:(cG.drop ((W ((G.length:Int) - 1)).toNat*Rp.sz Raw1)).take (Rp.sz Raw1)=[vS aL l kL]:=(hG.at (vU hyG).2.2).1.1;refine yH [] [14] rfl<|yX<|yB 3 [] [96,98] rfl<|zAH 1 0 hatL hccG [vS aL l kL] (vS aL l kL) rfl rfl<|yB 5 [] [100] rfl<|uK [vI i] Int ?_;intro b9 hb9;have k1:RL I2 [vI i] ([i]:List Int):=⟨[vI i],_,rfl,rfl,rfl,rfl⟩;refine xH 0 rfl ?_;intro I3 aK hl3;obtain ⟨aQ,k0,k01⟩:=SL.of_frozen hl3 aK k1;have hG:RL I3 cG G:=iM aK hG;have hL:RL I3 cL l:=iM aK hL;refine sU (α:=Int) 3 1 2 rfl rfl rfl hL (.inl k0) k01 hap ?_;intro aL9 kL9 cL9 hL9;exact wN (ah:=[hO Raw1 (vS aO O kO) cO,hO Raw1 (vS aG G kG) cG,hO Int (vS aL9 l1 kL9) cL9]) rfl<|yB 8 [] [103] rfl<|tR (α:=Raw1) (c:=[vS aL9 l1 kL9]) (x':=⟨vS aL9 l1 kL9⟩) 1 0 rfl rfl rfl hatL rfl rfl hccG (by kernel_rfl) (by kernel_rfl) (by kernel_rfl) hG hyG rfl ⟨rfl,rfl⟩ fun cG9 hG9 hl9=>yD rfl<|zG<|zJ<|yH [] [8] rfl<|yL<|hx _ _ _ _ _ (aF.trans aK) hG9 hL9
theorem zQT {B:Base}{I:Imm}{Q:Exit->Act->World->Prop}{v0 vl:Value}{part loop i n t20:Int}{O G:List Raw1}{g g1:List (List Int)}{l l0 l1:List Int}{aO aG aL:Option Addr}{kO kG kL:Nat}{cO cG cL:List Value} (inner:Bool) (qO:RL I cO O) (hG:RL I cG G) (hL:RL I cL l) (hyO:idx O (W ((O.length:Int) - 1))=some ⟨vS aG G kG⟩) (hN:GN I g G l (vS aL l kL)) (hg1:(if inner then some g else app 24 g [[]])=some g1) (hl0:idx g1 (W ((g1.length:Int) - 1))=some l0) (hap:app 8 l0 [i]=some l1) (hx:∀ (I':Imm) (cO':List Value) (aG':Option Addr) (G':List Raw1) (kG':Nat) (cG':List Value) (aL':Option Addr) (kL':Nat) (cL':List Value),I.le I'->RL I' cO' (O.set (W ((O.length:Int) - 1)).toNat ⟨vS aG' G' kG'⟩)->RL I' cG' G'->RL I' cL' l1->GN I' (g1.set (W ((g1.length:Int) - 1)).toNat l1) G' l1 (vS aL' l1 kL')->T 107 B Q .normal I' [hO Raw1 (vS aO O kO) cO',hO Raw1 (vS aG' G' kG') cG',hO Int (vS aL' l1 kL') cL'] [(0,v0),(1,vI part),(2,vI loop),(7,vS aO O kO),(8,vI i),(18,vl),(19,vI n),(20,vI t20)]):J Tryz.prog 107 B (nav (bodyOf f74) [1,1,1,0,1,0,0,1,1,0,0,1,1,1,1,1]) Q I [hO Raw1 (vS aO O kO) cO,hO Raw1 (vS aG G kG) cG,hO Int (vS aL l kL) cL] [(0,v0),(1,vI part),(2,vI loop),(7,vS aO O kO),(9,vI i),(12,.bool inner),(18,vl),(19,vI n),(20,vI t20)]:=by
 refine yE<|yB 4 [] [73,76] rfl<|pQ (α:=Raw1) 0 rfl rfl rfl qO hyO ?_;intro adG aQ ar hccO _;obtain rfl:[vS aG G kG]=aQ:=((qO.at (vU hyO).2.2).1.1).symm.trans hccO;refine yH [] [13] rfl<|zX<|yF [79] rfl<|zG ?_;cases inner with
 | true =>
  simp only [if_true,Option.some.injEq] at hg1;subst g1;obtain ⟨rfl,hyG,he,hu⟩:=hN.last hl0;refine eE rfl<|zS<|zG<|rU [(0,v0),(1,vI part),(2,vI loop),(7,vS aO O kO),(9,vI i),(13,.pointer (some adG)),(18,vl),(19,vI n),(20,vI t20)]<|zQS qO hG hL ar hyO hyG hap ?_;intro I' cG' aL' kL' cL' le' hG' hL';have aV:(G.set (W ((G.length:Int) - 1)).toNat ⟨vS aL' l1 kL'⟩).length=G.length:=cM;have e:vS aG (G.set (W ((G.length:Int) - 1)).toNat ⟨vS aL' l1 kL'⟩) kG=vS aG G kG:=by simp only [vS,aV]
  have hs:O.set (W ((O.length:Int) - 1)).toNat ⟨vS aG G kG⟩=O:=by
   obtain ⟨aE,e9⟩:=cm.1 (vU hyO).2.2;rw [<- e9,gj]
  have:=hx I' cO aG (G.set (W ((G.length:Int) - 1)).toNat ⟨vS aL' l1 kL'⟩) kG cG' aL' kL' cL' le' (by rw [e,hs]; exact RepL.mono (fun _ _=>Rp.mono le') qO) hG' hL' (by have:=(hu l1 (vS aL' l1 kL')).mono le'; exact this);rw [e] at this;exact this
 | false =>
  simp only [cJ,if_false] at hg1;refine zAT rfl<|pH 2 rfl ?_;intro I1 af hl1;have kL0:SL I1 (vS aL l kL) l:=SL.of_frozen hl1 af hL;replace qO:RL I1 cO O:=iM af qO;have hG:RL I1 cG G:=iM af hG;obtain ⟨hbd,rfl⟩:=dU hg1;have hN2:=(hN.mono af).push kL0 hbd;refine zJ<|yB 3 [] [80,82] rfl<|zAH 0 0 ar hccO [vS aG G kG] (vS aG G kG) rfl rfl<|uK [z0] Raw1 ?_;intro b9 hb9;have k1:RL I1 [z0] ([⟨z0⟩]:List Raw1):=⟨[z0],[],rfl,rfl,⟨rfl,rfl⟩,rfl⟩;refine xH 0 rfl ?_;intro I2 aF hl2;obtain ⟨bP,k0,k01⟩:=(SL.of_frozen hl2 aF k1:SL I2 (vS (some ⟨b9,0,none⟩) ([⟨z0⟩]:List Raw1) 1) [⟨z0⟩]);replace qO:RL I2 cO O:=iM aF qO;have hG:RL I2 cG G:=iM aF hG;have hN2:=hN2.mono aF;refine sU (α:=Raw1) 27 1 1 rfl rfl rfl hG (.inl k0) k01 (app1 hg1 hN.len) ?_;intro aG9 kG9 cG9 hG9;refine wN (ah:=[hO Raw1 (vS aO O kO) cO,hO Raw1 (vS aG9 (G++[⟨z0⟩]) kG9) cG9]) rfl<|yB 7 [] [86] rfl<|tR (α:=Raw1) (c:=[vS aG9 (G++[⟨z0⟩]) kG9]) (x':=⟨vS aG9 (G++[⟨z0⟩]) kG9⟩) 0 0 rfl rfl rfl ar rfl rfl hccO (by kernel_rfl) (by kernel_rfl) (by kernel_rfl) qO hyO rfl ⟨rfl,rfl⟩ ?_;intro cO9 hO9 hl9;have eO:vS aO (O.set (W ((O.length:Int) - 1)).toNat ⟨vS aG9 (G++[⟨z0⟩]) kG9⟩) kO=vS aO O kO:=by simp only [vS,hl9]
  refine yD rfl<|zG<|kE (nX (Rp.sz Int))<|kE (zY [1,2,0] (ah:=[hO Raw1 (vS aO O kO) cO9,hO Raw1 (vS aG9 (G++[⟨z0⟩]) kG9) cG9,hO Int (vS none ([]:List Int) 0) []]))<|rU [(0,v0),(1,vI part),(2,vI loop),(7,vS aO O kO),(9,vI i),(13,.pointer (some adG)),(18,vl),(19,vI n),(20,vI t20)] ?_;obtain ⟨rfl,hyG,he,hu⟩:=hN2.last hl0;have hyO2:idx (O.set (W ((O.length:Int) - 1)).toNat ⟨vS aG9 (G++[⟨z0⟩]) kG9⟩) (W ((O.length:Int) - 1))=some (⟨vS aG9 (G++[⟨z0⟩]) kG9⟩:Raw1):=zNY hyO;rw [<- eO];refine zQS hO9 hG9 RepL.nil (by rw [eO]; exact ar) hyO2 hyG hap ?_;intro I' cG' aL' kL' cL' le' hG' hL';have aV:((G++[⟨z0⟩]:List Raw1).set (W (((G++[⟨z0⟩]:List Raw1).length:Int) - 1)).toNat ⟨vS aL' l1 kL'⟩).length=(G++[⟨z0⟩]:List Raw1).length:=cM;have e:vS aG9 ((G++[⟨z0⟩]:List Raw1).set (W (((G++[⟨z0⟩]:List Raw1).length:Int) - 1)).toNat ⟨vS aL' l1 kL'⟩) kG9=vS aG9 (G++[⟨z0⟩]) kG9:=by simp only [vS,aV]
  have hO10:RL I' cO9 (O.set (W ((O.length:Int) - 1)).toNat ⟨vS aG9 (G++[⟨z0⟩]) kG9⟩):=RepL.mono (fun _ _=>Rp.mono le') hO9;have hN5:=(hu l1 (vS aL' l1 kL')).mono le';rw [<- e] at hO10;have:=hx I' cO9 aG9 _ kG9 cG' aL' kL' cL' ((af.trans aF).trans le') hO10 hG' hL' hN5;rw [e] at this;rw [eO];exact this
def zAh (r:(List (List (List Int)))):KT:=fun kk I' ah v=>
  ∃ v0,ah=[]/\v=tupV [v0]/\SL I' v0 r
def xZ (t:xS) (part:Int) (loop:Int) (out:List (List (List Int))) (before:Int) (t20:Int):Option (List (List (List Int))):=do
 if (decide (t20<(t.list.length:Int))) then
  let x<-idx t.list t20
  if (x.Part != part) then
   xZ t part loop out before (W (t20+1))
  else
   let outer<-(do
     if (decide (before>=0)) then
      let x1<-idx t.list before
      let l<-slc x1.Point 0 loop
      let l1<-slc x.Point 0 loop
      let y<-tX l l1
      pure (id y)
     else
      pure false
       : Option Bool)
   let inner<-(do
     if outer then
      let x2<-idx t.list before
      let x3<-idx x2.Point loop
      let x4<-idx x.Point loop
      pure (x3==x4)
     else
      pure false
       : Option Bool)
   let al<-(if outer then some out else app 24 out ([[]]:List (List (List Int))))
   let g<-idx al (W ((al.length:Int) - 1))
   let g1<-(if inner then some g else app 24 g ([[]]:List (List Int)))
   let l<-idx g1 (W ((g1.length:Int) - 1))
   let l1<-app 8 l ([t20]:List Int)
   xZ t part loop (al.set (W ((al.length:Int) - 1)).toNat (g1.set (W ((g1.length:Int) - 1)).toNat l1)) t20 (W (t20+1))
 else
  pure (id out)
 partial_fixpoint
theorem zA7 (t:xS) (part:Int) (loop:Int):∀ (out:List (List (List Int))) (before:Int) (t20:Int) (o:List (List (List Int))),xZ t part loop out before t20=some o->∀ {B}{I0 I:Imm}{Q}{ad:Addr}{p c p1 c1 p2 c2 p3 c3 p4 c4}{O G:List Raw1}{g:List (List Int)}{l:List Int}{aO aG aL:Option Addr}{kO kG kL:Nat}{cO cG cL:List Value},I0.le I->(S4 I p t.Program.Arrays c)->(S4 I p1 t.Program.Parts c1)->(S4 I p2 t.list c2)->(S4 I p3 t.reads c3)->(S4 I p4 t.writes c4)->(At I ad [vS p t.Program.Arrays c,vS p1 t.Program.Parts c1,vS p2 t.list c2,vS p3 t.reads c3,vS p4 t.writes c4])->GN I out O g (vS aG G kG)->GN I g G l (vS aL l kL)->RL I cO O->RL I cG G->RL I cL l->NG Q->NO Q->(∀ (I':Imm) (aO':Option Addr) (O':List Raw1) (kO':Nat),I0.le I'->SL I' (vS aO' O' kO') o->T 107 B Q (.exit 0) I' [] [(7,vS aO' O' kO')])->J Tryz.prog 107 B (nav (bodyOf f74) [1,1,1,0,1,0]) Q I [hO Raw1 (vS aO O kO) cO,hO Raw1 (vS aG G kG) cG,hO Int (vS aL l kL) cL] [(0,.pointer (some ad)),(1,vI part),(2,vI loop),(7,vS aO O kO),(8,vI before),(18,vS p2 t.list c2),(19,vI (t.list.length:Int)),(20,vI t20)]:=by
 refine xZ.partial_correctness t part loop _ fun aJ ih out before t20 o N B I0 I Q ad p c p1 c1 p2 c2 p3 c3 p4 c4 O G g l aO aG aL kO kG kL cO cG cL H h h1 h2 h3 h4 ar hN3 hN2 qO hG hL hg ho hx=>yM hg ho<|yF [21] rfl<|zX<|yC N ?_ ?_
 · intro hc N;refine zS<|zX<|yG<|yE<|yB 1 [] [22] rfl<|bE N fun x hy N=>xK rfl rfl h2 hy ?_;intro ad1 aQ av ap;obtain ⟨p5,c5,rfl,h5⟩:=vO ap;refine xB 0 av (cInst x p5 c5) (vA (cInst x p5 c5)) rfl<|wS [vI 0,vI 0,z0] ?_;intro b hb;refine yB 5 [] [9] rfl<|xJ 0 (cInst x p5 c5) rfl<|yD rfl<|zX<|yE<|yH [0] [28] rfl<|zG<|yC N ?_ ?_
   · intro aI N;exact zEG<|kX<|zR<|zG<|zJ<|yH [] [20] rfl<|yK<|kE (zY [1,2,3] (ah:=[hO Raw1 (vS aO O kO) cO,hO Raw1 (vS aG G kG) cG,hO Int (vS aL l kL) cL]))<|oY<|ih out before (W (t20+1)) _ N H h h1 h2 h3 h4 ar hN3 hN2 qO hG hL hg ho hx
   intro aI N;refine zS<|zG<|zZ ?_;obtain ⟨o0,aD,aU⟩:=zB N;refine zO4 (hs:=[hB b (cInst x p5 c5)]) (L:=[hO Raw1 (vS aO O kO) cO,hO Raw1 (vS aG G kG) cG,hO Int (vS aL l kL) cL]) .normal (fun I' ah m'=>∃ (outer:Bool),o0=outer/\I.le I'/\ah=[hB b (cInst x p5 c5)]/\m'=[(0,.pointer (some ad)),(1,vI part),(2,vI loop),(7,vS aO O kO),(8,vI before),(9,vI t20),(10,vP b 0),(11,.bool outer),(18,vS p2 t.list c2),(19,vI (t.list.length:Int)),(20,vI t20)]) (fun B0=>?_) ?_
   · have H:=iS I;cases aX:(decide (before>=0)) with
     | true =>
      have hM0:=sQ aX aD;obtain ⟨x1,aB,N⟩:=zB hM0;obtain ⟨l,aN,N⟩:=zB N;obtain ⟨l1,bm,N⟩:=zB N;obtain ⟨y,bw,N⟩:=zB N;refine wQ [.p (vI before) [],.q vY,.q vY,.p (.pointer (some ad)) [],.p (.pointer (some ad)) [],.p (.pointer (some (ad.add 2))) [],.q (vS p2 t.list c2),.p (vI before) [],.x (ePInst x1),.x (eQInst 2 x1),.x (eS x1.Point),.p (vI loop) [],.x (eS l),.p (vP b 2) [],.p (vS p5 x.Point c5) [0],.p (vI loop) [],.x (eS l1),.q (.bool y),.p (.bool y) []] [[],[(0,false)],[(1,false)],[(2,false)],[(2,false),(3,false)],[(2,false),(4,false)],[(2,false),(5,false)],[(2,false)],[(2,false),(6,false),(7,false)],[(2,false),(8,false)],[(2,false),(9,false)],[(2,false)],[(2,false),(10,false),(11,false)],[(2,false)],[(2,false),(13,false)],[(2,false)],[(2,false),(14,false),(15,false)],[(2,false),(12,false),(16,false)],[(2,false),(17,false)]] [hB b (cInst x p5 c5)] [] [(18,false)] (zY [0]) ?_ ?_
      · refine Op<|Oq ?_<|Oq ?_<|Op<|Op<|Op<|Oq ?_<|Op<|Ox ?_<|Ox ?_<|Ox ?_<|Op<|Ox ?_<|Op<|Op<|Op<|Ox ?_<|Oq ?_<|Op<|On
        · intro I1 hf af;refine yT [29] rfl<|mE 2 [(30,.bool (decide (before>=0)))] ?_;rw [aX];exact xC iR
        · intro I1 hf af;exact I_h [(30,vY)]<|mE 3 [(31,vY)]<|xC iR
        · intro I1 hf af;refine yT [31,34] rfl ?_;have ar:=ar.mono af;exact xB 2 ar [vS p2 t.list c2] (vS p2 t.list c2) rfl<|xC iR
        · intro I1 hf af;refine yT [31,35,36] rfl ?_;have h2:=h2.mono af;refine xK rfl rfl h2 aB ?_;intro ad2 bv aY ax;obtain ⟨p6,c6,rfl,h6⟩:=vO ax;exact yN [] iR ⟨_,_,_,rfl,rfl,aY,h6⟩
        · rintro I1 hf af _ _ ⟨rfl,rfl⟩ _ _ ⟨ad2,p6,c6,rfl,rfl,aY,h6⟩;exact yT [31,37] rfl<|mE 10 [(38,.pointer (some (ad2.add 2)))]<|yN [] iR ⟨_,_,_,rfl,rfl,aY,h6⟩
        · rintro I1 hf af _ _ ⟨rfl,rfl⟩ _ _ ⟨ad21,p61,c61,rfl,rfl,hat21,h61⟩;exact yT [31,38] rfl<|xB 2 hat21 [vS p61 x1.Point c61] (vS p61 x1.Point c61) rfl<|yN [] iR ⟨_,_,rfl,rfl,h61⟩
        · rintro I1 hf af _ _ ⟨rfl,rfl⟩ _ _ ⟨p611,c611,rfl,rfl,h611⟩;refine yT [31,39,40] rfl<|zMa rfl h611 aN ?_;intro v02 h7;obtain ⟨p7,c7,rfl⟩:=h7.form;exact yN [] iR ⟨_,_,rfl,rfl,h7⟩
        · intro I1 hf af;refine yT [31,43,44] rfl ?_;have h5:=h5.mono af;refine zMa rfl h5 bm ?_;intro v03 h8;obtain ⟨p8,c8,rfl⟩:=h8.form;exact yN [] iR ⟨_,_,rfl,rfl,h8⟩
        rintro I1 hf af _ _ ⟨rfl,rfl⟩ _ _ ⟨p7,c7,rfl,rfl,h7⟩ _ _ ⟨p8,c8,rfl,rfl,h8⟩;refine yT [31,41,45] rfl ?_;have H:=iS I1;refine vQ (gB l l1 _ bw h7 h8) ?_;intro aW le;have H:=H.trans le;exact xC H
      intro ba af;refine yT [0,1,2,7,8,9,10,18,19,20,47] rfl ?_;have H:=H.trans af;exact yH [] [11] rfl<|T_w [(0,.pointer (some ad)),(1,vI part),(2,vI loop),(7,vS aO O kO),(8,vI before),(9,vI t20),(10,vP b 0),(11,.bool y),(18,vS p2 t.list c2),(19,vI (t.list.length:Int)),(20,vI t20)]<|zMc ⟨_,(zC N).symm,H,rfl,rfl⟩
     | false =>
      have hM01:=tH aX aD;refine wQ [.p (vI before) [],.q vF,.q vF,.p undef [],.p undef [],.p undef [],.p undef [],.p undef [],.p undef [],.p undef [],.p undef [],.p undef [],.p undef [],.p undef [],.p undef [],.p undef [],.p undef [],.p undef [],.p vF []] [[],[(0,false)],[(1,false)],[(2,false)],[(2,false),(3,false)],[(2,false),(4,false)],[(2,false),(5,false)],[(2,false)],[(2,false),(6,false),(7,false)],[(2,false),(8,false)],[(2,false),(9,false)],[(2,false)],[(2,false),(10,false),(11,false)],[(2,false)],[(2,false),(13,false)],[(2,false)],[(2,false),(14,false),(15,false)],[(2,false),(12,false),(16,false)],[(2,false),(17,false)]] [hB b (cInst x p5 c5)] [] [(18,false)] (zY [0]) ?_ ?_
      · refine Op<|Oq ?_<|Oq ?_<|Op<|Op<|Op<|Op<|Op<|Op<|Op<|Op<|Op<|Op<|Op<|Op<|Op<|Op<|Op<|Op<|On
        · intro I1 hf af;refine yT [29] rfl<|mE 2 [(30,.bool (decide (before>=0)))] ?_;rw [aX];exact xC iR
        intro I1 hf af;exact I_h [(30,vF)]<|mE 3 [(31,vF)]<|xC iR
      intro bH aF;refine yT [0,1,2,7,8,9,10,18,19,20,47] rfl ?_;have H:=H.trans aF;exact wG [] [(11,vF)]<|T_w [(0,.pointer (some ad)),(1,vI part),(2,vI loop),(7,vS aO O kO),(8,vI before),(9,vI t20),(10,vP b 0),(11,vF),(18,vS p2 t.list c2),(19,vI (t.list.length:Int)),(20,vI t20)]<|zMc ⟨_,(zC hM01).symm,H,rfl,rfl⟩
   rintro I0 ay m2 ⟨outer,heq,aK,rfl,rfl⟩ -;subst o0;have ⟨h,h1,h2,h3,h4,ar⟩:=m6 aK h h1 h2 h3 h4 ar;have ⟨h5,H⟩:=m2 aK h5 H;refine zG<|zZ ?_;obtain ⟨aP,aA,hMc1⟩:=zB aU;refine zO4 (hs:=[hB b (cInst x p5 c5)]) (L:=[hO Raw1 (vS aO O kO) cO,hO Raw1 (vS aG G kG) cG,hO Int (vS aL l kL) cL]) .normal (fun I' ah m'=>∃ (inner:Bool),aP=inner/\I0.le I'/\ah=[]/\m'=[(0,.pointer (some ad)),(1,vI part),(2,vI loop),(7,vS aO O kO),(9,vI t20),(11,.bool outer),(12,.bool inner),(18,vS p2 t.list c2),(19,vI (t.list.length:Int)),(20,vI t20)]) (fun B0=>?_) ?_
   · have H:=iS I0;refine kF (by kernel_rfl) (by kernel_rfl)<|fL 2 [] [49] rfl<|zGl [49] aA ?_ ?_
     · intro bK N;refine fL 5 [] [52] rfl<|gX 2 ar [vS p2 t.list c2] (vS p2 t.list c2) rfl<|fL 7 [] [54] rfl<|bE N fun x2 bI N=>dQ rfl rfl h2 bI ?_;intro ad3 bP hat3 bd;obtain ⟨p9,c9,rfl,h10⟩:=vO bd;refine fL 9 [] [56] rfl<|gX 2 hat3 [vS p9 x2.Point c9] (vS p9 x2.Point c9) rfl<|fL 11 [] [58] rfl<|bE N fun x3 hy6 N=>dQ rfl rfl h10 hy6 ?_;intro ad4 ccs3 hat4 bG;obtain rfl:=bG;refine gX 0 hat4 [vI x3] (vI x3) rfl<|fL 16 [0] [62,63] rfl<|bE N fun x4 hy7 N=>dQ rfl rfl h5 hy7 ?_;intro ad5 ccs4 hat5 hrep4;obtain rfl:=hrep4;exact gX 0 hat5 [vI x4] (vI x4) rfl<|zGo [] [12] rfl<|xQ zQ<|T_w [(0,.pointer (some ad)),(1,vI part),(2,vI loop),(7,vS aO O kO),(9,vI t20),(11,.bool outer),(12,.bool (x3==x4)),(18,vS p2 t.list c2),(19,vI (t.list.length:Int)),(20,vI t20)]<|zMc ⟨_,(zC N).symm,H,rfl,rfl⟩
     intro bK N;exact zKR [] [(12,vF)]<|xQ zQ<|T_w [(0,.pointer (some ad)),(1,vI part),(2,vI loop),(7,vS aO O kO),(9,vI t20),(11,.bool outer),(12,vF),(18,vS p2 t.list c2),(19,vI (t.list.length:Int)),(20,vI t20)]<|zMc ⟨_,(zC N).symm,H,rfl,rfl⟩
   rintro bL ay m2 ⟨inner,heq1,bk,rfl,rfl⟩ -;subst aP;have ⟨h,h1,h2,h3,h4,ar⟩:=m6 bk h h1 h2 h3 h4 ar;have H:=H.trans bk;have bz:=aK.trans bk;have ⟨hN3,hN2⟩:=m2 bz hN3 hN2;replace qO:RL bL cO O:=iM bz qO;have hG:RL bL cG G:=iM bz hG;have hL:RL bL cL l:=iM bz hL;obtain ⟨al,ho1,hMa⟩:=zB hMc1;obtain ⟨g0,hyg,hMb⟩:=zB hMa;obtain ⟨g1,hg1,hMd⟩:=zB hMb;obtain ⟨l0,hyl,hMe⟩:=zB hMd;obtain ⟨l1,hap,hM9⟩:=zB hMe;clear hMa hMb hMd hMe;refine zX<|yF [69] rfl<|zG ?_;cases outer with
   | true =>
    simp only [if_true,Option.some.injEq] at ho1;subst al;obtain ⟨rfl,hyO,he,hu⟩:=hN3.last hyg;refine eE rfl<|zS<|zG<|rU [(0,.pointer (some ad)),(1,vI part),(2,vI loop),(7,vS aO O kO),(9,vI t20),(12,.bool inner),(18,vS p2 t.list c2),(19,vI (t.list.length:Int)),(20,vI t20)]<|zQT inner qO hG hL hyO hN2 hg1 hyl hap ?_;intro I9 cO9 aG9 G9 kG9 cG9 aL9 kL9 cL9 le9 hO9 hG9 hL9 hN9;have eO:vS aO (O.set (W ((O.length:Int) - 1)).toNat ⟨vS aG9 G9 kG9⟩) kO=vS aO O kO:=by simp only [vS,cM]
    rw [<- eO];refine zM<|zG<|zJ<|yH [] [20] rfl<|yK<|rU [(0,.pointer (some ad)),(1,vI part),(2,vI loop),(7,vS aO (O.set (W ((O.length:Int) - 1)).toNat ⟨vS aG9 G9 kG9⟩) kO),(8,vI t20),(18,vS p2 t.list c2),(19,vI (t.list.length:Int)),(20,vI (W (t20+1)))] ?_;have hN10:=(hu (g1.set (W ((g1.length:Int) - 1)).toNat l1) (vS aG9 G9 kG9)).mono le9;have le11:bL.le I9:=le9;exact ih _ t20 (W (t20+1)) _ hM9 (H.trans le11) (h.mono le11) (h1.mono le11) (h2.mono le11) (h3.mono le11) (h4.mono le11) (ar.mono le11) hN10 hN9 hO9 hG9 hL9 hg ho hx
   | false =>
    simp only [cJ,if_false] at ho1;obtain ⟨hbd,rfl⟩:=dU ho1;refine zAT rfl<|pH 2 rfl ?_;intro I5 bC hl6;have kL0:SL I5 (vS aL l kL) l:=SL.of_frozen hl6 bC hL;refine pH 1 rfl ?_;intro I6 le7 hl7;have kG0:SL I6 (vS aG G kG) g:=SL.of_frozen (α:=List Int) hl7 le7 (by rw [zCN hG]; exact (hN2.mono bC).all kL0);have le8:=bC.trans le7;replace qO:RL I6 cO O:=iM le8 qO;have hN4:=(hN3.mono le8).push kG0 hbd;refine zJ<|yB 1 [] [70] rfl<|uK [z0] Raw1 ?_;intro b9 hb9;have k1:RL I6 [z0] ([⟨z0⟩]:List Raw1):=⟨[z0],[],rfl,rfl,⟨rfl,rfl⟩,rfl⟩;refine xH 0 rfl ?_;intro I7 le10 hl10;obtain ⟨bP,k0,k01⟩:=(SL.of_frozen hl10 le10 k1:SL I7 (vS (some ⟨b9,0,none⟩) ([⟨z0⟩]:List Raw1) 1) [⟨z0⟩]);replace qO:RL I7 cO O:=iM le10 qO;have hN4:=hN4.mono le10;refine sU (α:=Raw1) 56 1 0 rfl rfl rfl qO (.inl k0) k01 (app1 ho1 hN3.len) fun aO9 kO9 cO8 hO8=>wN (ah:=[hO Raw1 (vS aO9 (O++[⟨z0⟩]) kO9) cO8]) rfl<|yH [] [7] rfl<|zG<|kE (nX (Rp.sz Raw1))<|kE (nX (Rp.sz Int))<|kE (zY [2,1,0] (ah:=[hO Raw1 (vS aO9 (O++[⟨z0⟩]) kO9) cO8,hO Raw1 (vS none ([]:List Raw1) 0) [],hO Int (vS none ([]:List Int) 0) []]))<|rU [(0,.pointer (some ad)),(1,vI part),(2,vI loop),(7,vS aO9 (O++[⟨z0⟩]) kO9),(9,vI t20),(12,.bool inner),(18,vS p2 t.list c2),(19,vI (t.list.length:Int)),(20,vI t20)] ?_;obtain ⟨rfl,hyO,he,hu⟩:=hN4.last hyg;refine zQT inner hO8 RepL.nil RepL.nil hyO (.inl ⟨rfl,rfl,rfl,rfl⟩) hg1 hyl hap ?_;intro I9 cO9 aG9 G9 kG9 cG9 aL9 kL9 cL9 le9 hO9 hG9 hL9 hN9;have eO:vS aO9 ((O++[⟨z0⟩]:List Raw1).set (W (((O++[⟨z0⟩]:List Raw1).length:Int) - 1)).toNat ⟨vS aG9 G9 kG9⟩) kO9=vS aO9 (O++[⟨z0⟩]:List Raw1) kO9:=by simp only [vS,cM]
    rw [<- eO];refine zM<|zG<|zJ<|yH [] [20] rfl<|yK<|rU [(0,.pointer (some ad)),(1,vI part),(2,vI loop),(7,vS aO9 ((O++[⟨z0⟩]:List Raw1).set (W (((O++[⟨z0⟩]:List Raw1).length:Int) - 1)).toNat ⟨vS aG9 G9 kG9⟩) kO9),(8,vI t20),(18,vS p2 t.list c2),(19,vI (t.list.length:Int)),(20,vI (W (t20+1)))] ?_;have hN10:=(hu (g1.set (W ((g1.length:Int) - 1)).toNat l1) (vS aG9 G9 kG9)).mono le9;have le11:bL.le I9:=(le8.trans le10).trans le9;exact ih _ t20 (W (t20+1)) _ hM9 (H.trans le11) (h.mono le11) (h1.mono le11) (h2.mono le11) (h3.mono le11) (h4.mono le11) (ar.mono le11) hN10 hN9 hO9 hG9 hL9 hg ho hx
 intro hc N;have:=zC N;simp only [id] at this;subst this;refine wJ<|T_w [(7,vS aO O kO)]<|yU 2 rfl ?_;intro I5 bC hl6;have kL0:SL I5 (vS aL l kL) l:=SL.of_frozen hl6 bC hL;refine yU 1 rfl ?_;intro I6 le7 hl7;have kG0:SL I6 (vS aG G kG) g:=SL.of_frozen (α:=List Int) hl7 le7 (by rw [zCN hG]; exact (hN2.mono bC).all kL0);refine yU 0 rfl ?_;intro I7 le8 hl8;have kO0:SL I7 (vS aO O kO) out:=SL.of_frozen (α:=List (List Int)) hl8 le8 (by rw [zCN qO]; exact (hN3.mono (bC.trans le7)).all kG0);exact hx _ _ _ _ (H.trans ((bC.trans le7).trans le8)) kO0
def qT (t:xS) (part:Int) (loop:Int):Option ((List (List (List Int)))):=do
 let out<-xZ t part loop ([]:List (List (List Int))) (-1) 0
 pure (id out)
theorem zBI:∀ t part loop r,qT t part loop=some r->∀ {I:Imm}{ad:Addr}{p c p1 c1 p2 c2 p3 c3 p4 c4},(S4 I p t.Program.Arrays c)->(S4 I p1 t.Program.Parts c1)->(S4 I p2 t.list c2)->(S4 I p3 t.reads c3)->(S4 I p4 t.writes c4)->(At I ad [vS p t.Program.Arrays c,vS p1 t.Program.Parts c1,vS p2 t.list c2,vS p3 t.reads c3,vS p4 t.writes c4])->RT 74 [.pointer (some ad),vI part,vI loop] I [] (zAh  r):=by
 intro t part loop r N I ad p c p1 c1 p2 c2 p3 c3 p4 c4 h h1 h2 h3 h4 ar;unfold qT at N;refine yJ func74 fun B=>wP []<|zEv [(7,z0)]<|wM [8] rfl<|zX<|yE<|yB 3 [] [17] rfl<|xB 2 ar [vS p2 t.list c2] (vS p2 t.list c2) rfl<|yH [] [19,20] rfl<|xX<|rU [(0,.pointer (some ad)),(1,vI part),(2,vI loop),(7,z0),(8,vI (-1)),(18,vS p2 t.list c2),(19,vI (t.list.length:Int)),(20,vI 0)]<|kE (nX (Rp.sz Raw1))<|kE (nX (Rp.sz Raw1))<|kE (nX (Rp.sz Int))<|kE (zY [2,1,0] (ah:=[hO Raw1 (vS none ([]:List Raw1) 0) [],hO Raw1 (vS none ([]:List Raw1) 0) [],hO Int (vS none ([]:List Int) 0) []])) ?_;obtain ⟨o02,ho02,aM⟩:=zB N;refine zA7 t part loop [] (-1) 0 o02 ho02 (O:=[]) (G:=[]) (g:=[]) (l:=[]) (aO:=none) (kO:=0) iR h h1 h2 h3 h4 ar (.inl ⟨rfl,rfl,rfl,rfl⟩) (.inl ⟨rfl,rfl,rfl,rfl⟩) RepL.nil RepL.nil RepL.nil (fun _ _ _ h=>h) (fun _ _ h=>h) fun bR aO9 O9 kO9 bz hSL=>zR<|wM [6] rfl<|zG<|yW ?_;have:=zC aM;simp only [id] at this;subst this;exact yZ ⟨_,_,(.tmp rfl ResV.nil),zQ,⟨_,rfl,rfl,hSL⟩⟩
def zG4 {σ:Type} (hsS:σ->List HA) (r:((List Int)×Bool)×σ):KT:=fun kk I' ah v=>
  ∃ v0 v1,hsS r.2=ah/\v=tupV [v0,v1]/\SL I' v0 r.1.1/\v1=.bool r.1.2
def pJ (part:Int) (t:xS) (out:List Int) (t38:Int):Option (List Int):=do
 if (decide (t38<(t.list.length:Int))) then
  let x<-idx t.list t38
  let au<-(do
    if (decide (x.Part<part)) then
     let aH<-app 8 out ([t38]:List Int)
     pure (id aH)
    else
     pure (id out)
      : Option (List Int))
  pJ part t au (W (t38+1))
 else
  pure (id out)
 partial_fixpoint
theorem zF5 (part:Int) (t:xS):∀ (out:List Int) (t38:Int) (o:List Int),pJ part t out t38=some o->∀ {B}{I0 I:Imm}{Q}{loop:Int}{σ:Type}{taken:((List (List Int))->σ->Option ((List Int)×σ))}{fv:Value}{hsS:σ->List HA}{s:σ}{ad:Addr}{p3 c2 p4 c3 p5 c4 p6 c5 p7 c6 p8 c7 cs},I0.le I->(FS1 Tryz.prog I hsS fv taken)->(S4 I p3 t.Program.Arrays c2)->(S4 I p4 t.Program.Parts c3)->(S4 I p5 t.list c4)->(S4 I p6 t.reads c5)->(S4 I p7 t.writes c6)->(At I ad [vS p3 t.Program.Arrays c2,vS p4 t.Program.Parts c3,vS p5 t.list c4,vS p6 t.reads c5,vS p7 t.writes c6])->(RL I cs out)->NG Q->NO Q->(∀ (I':Imm) (al:List Int) (p9:Option Addr) (c8:Nat) (az:List Value),o=al->I0.le I'->(RL I' az al)->T 87 B Q (.exit 0) I' (hO Int (vS p9 al c8) az::(hsS s)) [(1,vI part),(2,vI loop),(3,fv),(10,.pointer (some ad)),(12,vS p9 al c8)])->J Tryz.prog 87 B (nav (bodyOf f30) [1,1,1,1,0,1,0]) Q I (hO Int (vS p8 out c7) cs::(hsS s)) [(1,vI part),(2,vI loop),(3,fv),(10,.pointer (some ad)),(12,vS p8 out c7),(36,vS p5 t.list c4),(37,vI (t.list.length:Int)),(38,vI t38)]:=by
 refine pJ.partial_correctness part t _ fun aJ ih out t38 o N B I0 I Q loop σ taken fv hsS s ad p3 c2 p4 c3 p5 c4 p6 c5 p7 c6 p8 c7 cs H h2 h6 h7 h8 h9 h10 ar h12 hg ho hx=>yM hg ho<|yF [39] rfl<|zX<|yC N ?_ ?_
 · intro aX N;refine zS<|zX<|yG<|yE<|yB 1 [] [40] rfl<|bE N fun x bm N=>xK rfl rfl h8 bm ?_;intro ad1 bv av ax;obtain ⟨bi,c9,rfl,h14⟩:=vO ax;refine xB 0 av (cInst x bi c9) (vA (cInst x bi c9)) rfl<|wS [vI 0,vI 0,z0] ?_;intro b1 hb1;refine yB 5 [] [13] rfl<|zB5 0 (cInst x bi c9) (hB b1 (cInst x bi c9)::hO Int (vS p8 out c7) cs::(hsS s)) rfl rfl rfl rfl<|yD rfl<|yX<|yH [0] [46] rfl<|zG ?_;obtain ⟨aP,aA,hMc1⟩:=zB N;refine qF (fun I' ah m'=>∃ (au:List Int) (aR:Option Addr) (bh:Nat) (aS:List Value),aP=au/\I.le I'/\(RL I' aS au)/\ah=(hO Int (vS aR au bh) aS::(hsS s))/\m'=[(1,vI part),(2,vI loop),(3,fv),(10,.pointer (some ad)),(12,vS aR au bh),(36,vS p5 t.list c4),(37,vI (t.list.length:Int)),(38,vI t38)]) ?_ ?_
   · have H:=iS I;refine yC aA ?_ ?_
     · intro bK N;refine zJ<|yB 2 [] [47,48] rfl<|uK [vI t38] Int ?_;intro b2 hb2;have h16:RL I [vI t38] ([t38]:List Int):=rI [t38];obtain ⟨aH,bw,N⟩:=zB N;exact sU 3 1 2 rfl rfl rfl h12 (.inr ⟨0,rfl⟩) h16 bw fun bD bc aT h17=>tZ (fO [hO Int (vS (some ⟨b2,0,none⟩) ([t38]:List Int) 1) [vI t38],hB b1 (cInst x bi c9),hO Int (vS bD aH bc) aT] (hsS s) [1,2] (ah:=[hB b1 (cInst x bi c9),hO Int (vS bD aH bc) aT]) rfl (by decide))<|wN (ah:=(hB b1 (cInst x bi c9)::hO Int (vS bD aH bc) aT::(hsS s))) rfl<|yH [] [12] rfl<|xQ (fO [hB b1 (cInst x bi c9),hO Int (vS bD aH bc) aT] (hsS s) [1] rfl (by decide))<|yL<|zU ⟨_,_,_,_,(zC N).symm,H,h17,rfl,rfl⟩
     intro bK N;exact zS<|xQ (fO [hB b1 (cInst x bi c9),hO Int (vS p8 out c7) cs] (hsS s) [1] rfl (by decide))<|yL<|zU ⟨_,_,_,_,(zC N).symm,H,h12,rfl,rfl⟩
   rintro bH ay m2 ⟨au,aR,bh,aS,heq1,aK,h15,rfl,rfl⟩;subst aP;have ⟨h2,h6,h7,h8,h9,h10⟩:=m6 aK h2 h6 h7 h8 h9 h10;have ⟨ar,H⟩:=m2 aK ar H;exact zM<|zG<|zJ<|yH [] [38] rfl<|yK<|oY<|ih au (W (t38+1)) _ hMc1 H h2 h6 h7 h8 h9 h10 ar h15 hg ho hx
 intro aX N;exact wJ<|yL<|hx _ _ _ _ _ (zC N).symm H h12
def nO {σ:Type} (taken:((List (List Int))->σ->Option ((List Int)×σ))) (y4:(List (List (List Int)))) (bf:List Int) (s:σ) (t57:Int):Option (List Int×σ):=do
 if (decide (t57<(y4.length:Int))) then
  let x1<-idx y4 t57
  let (y5,s1)<-taken x1 s
  let out6<-app 8 bf y5
  nO taken y4 out6 s1 (W (t57+1))
 else
  pure (bf,s)
 partial_fixpoint
theorem zF6 {σ:Type} (taken:((List (List Int))->σ->Option ((List Int)×σ))) (y4:(List (List (List Int)))):∀ (bf:List Int) (s:σ) (t57:Int) (o:List Int×σ),nO taken y4 bf s t57=some o->∀ {B}{I0 I:Imm}{Q}{part:Int}{t:xS}{fv:Value}{hsS:σ->List HA}{ad:Addr}{p3 c2 p4 c3 p5 c4 p6 c5 p7 c6 bq bo p14 bB bt},I0.le I->(FS1 Tryz.prog I hsS fv taken)->(S4 I p3 t.Program.Arrays c2)->(S4 I p4 t.Program.Parts c3)->(S4 I p5 t.list c4)->(S4 I p6 t.reads c5)->(S4 I p7 t.writes c6)->(At I ad [vS p3 t.Program.Arrays c2,vS p4 t.Program.Parts c3,vS p5 t.list c4,vS p6 t.reads c5,vS p7 t.writes c6])->(S4 I bq y4 bo)->(RL I bt bf)->NG Q->NO Q->(∀ (I':Imm) (out5:List Int) (s5:σ) (p15:Option Addr) (c14:Nat) (bJ:List Value),o=(out5,s5)->I0.le I'->(RL I' bJ out5)->T 87 B Q (.exit 2) I' (hO Int (vS p15 out5 c14) bJ::hsS s5) [(1,vI part),(10,.pointer (some ad)),(12,vS p15 out5 c14)])->J Tryz.prog 87 B (nav (bodyOf f30) [1,1,1,1,1,0,1,0]) Q I (hO Int (vS p14 bf bB) bt::(hsS s)) [(1,vI part),(3,fv),(10,.pointer (some ad)),(12,vS p14 bf bB),(55,vS bq y4 bo),(56,vI (y4.length:Int)),(57,vI t57)]:=by
 refine nO.partial_correctness taken y4 _ fun aJ ih bf s t57 o N B I0 I Q part t fv hsS ad p3 c2 p4 c3 p5 c4 p6 c5 p7 c6 bq bo p14 bB bt H h2 h6 h7 h8 h9 h10 ar h18 h19 hg ho hx=>yM hg ho<|yF [58] rfl<|zX<|yC N ?_ ?_
 · intro bO N;refine zS<|zX<|yG<|yE<|bE N fun x1 hy6 N=>xK rfl rfl h18 hy6 ?_;intro ad2 bP aY bd;obtain ⟨v010,rfl,h21⟩:=bd;obtain ⟨p16,c15,rfl⟩:=h21.form;refine xB 0 aY [vS p16 x1 c15] (vS p16 x1 c15) rfl<|yH [] [16] rfl<|zG<|zJ<|yB 3 [] [61,62,63] rfl ?_;obtain ⟨⟨y5,s1⟩,hy7,N⟩:=zB N;refine tZ (ah:=(hsS s)++[hO Int (vS p14 bf bB) bt]) (zJH [hO Int (vS p14 bf bB) bt] (hsS s))<|zQO rfl rfl h2 hy7 h21 rfl ?_;rintro I06 v011 bC h22;refine tZ (ah:=(hO Int (vS p14 bf bB) bt::(hsS s1))) (zJH (hsS s1) [hO Int (vS p14 bf bB) bt]) ?_;have ⟨h2,h6,h7,h8,h9,h10⟩:=m6 bC h2 h6 h7 h8 h9 h10;have ⟨ar,h18,h19,H⟩:=m4 bC ar h18 h19 H;obtain ⟨p17,c16,rfl⟩:=h22.form;obtain ⟨ccs3,k0,k01⟩:=h22;have h22:SL I06 (vS p17 y5 c16) y5:=⟨_,k0,k01⟩;obtain ⟨out6,hy8,N⟩:=zB N;exact sU 3 1 0 rfl rfl rfl h19 (.inl k0) k01 hy8 fun p18 c17 cs6 h23=>wN (ah:=(hO Int (vS p18 out6 c17) cs6::(hsS s1))) rfl<|yH [] [12] rfl<|zM<|zG<|zJ<|yH [] [57] rfl<|yK<|oY<|ih out6 s1 (W (t57+1)) _ N H h2 h6 h7 h8 h9 h10 ar h18 h23 hg ho hx
 intro bO N;exact wJ<|yL<|hx _ _ _ _ _ _ (zC N).symm H h19
def pK (part:Int) (t:xS) (out7:List Int) (t72:Int):Option (List Int):=do
 if (decide (t72<(t.list.length:Int))) then
  let x2<-idx t.list t72
  let out9<-(do
    if (decide (x2.Part>part)) then
     let out10<-app 8 out7 ([t72]:List Int)
     pure (id out10)
    else
     pure (id out7)
      : Option (List Int))
  pK part t out9 (W (t72+1))
 else
  pure (id out7)
 partial_fixpoint
theorem zF7 (part:Int) (t:xS):∀ (out7:List Int) (t72:Int) (o:List Int),pK part t out7 t72=some o->∀ {B}{I0 I:Imm}{Q}  {bj:List HA}{p5 c4 p19 c18 cs7},I0.le I->(S4 I p5 t.list c4)->(RL I cs7 out7)->NG Q->NO Q->(∀ (I':Imm) (out8:List Int) (p20:Option Addr) (c19:Nat) (cs8:List Value),o=out8->I0.le I'->(RL I' cs8 out8)->T 87 B Q (.exit 4) I' (hO Int (vS p20 out8 c19) cs8::bj) [(12,vS p20 out8 c19)])->J Tryz.prog 87 B (nav (bodyOf f30) [1,1,1,1,1,1,0,1,0]) Q I (hO Int (vS p19 out7 c18) cs7::bj) [(1,vI part),(12,vS p19 out7 c18),(70,vS p5 t.list c4),(71,vI (t.list.length:Int)),(72,vI t72)]:=by
 refine pK.partial_correctness part t _ fun aJ ih out7 t72 o N B I0 I Q bj p5 c4 p19 c18 cs7 H h8 h24 hg ho hx=>yM hg ho<|yF [73] rfl<|zX<|yC N ?_ ?_
 · intro hc5 N;refine zS<|zX<|yG<|yE<|yB 1 [] [74] rfl<|bE N fun x2 hy9 N=>xK rfl rfl h8 hy9 ?_;intro ad3 ccs4 hat3 bG;obtain ⟨p21,c20,rfl,h26⟩:=vO bG;refine xB 0 hat3 (cInst x2 p21 c20) (vA (cInst x2 p21 c20)) rfl<|wS [vI 0,vI 0,z0] ?_;intro b3 hb3;refine yB 5 [] [17] rfl<|zB5 0 (cInst x2 p21 c20) (hB b3 (cInst x2 p21 c20)::hO Int (vS p19 out7 c18) cs7::bj) rfl rfl rfl rfl<|yD rfl<|yX<|yH [0] [80] rfl<|zG ?_;obtain ⟨o04,ho04,hMc2⟩:=zB N;refine qF (fun I' ah m'=>∃ (out9:List Int) (p22:Option Addr) (c21:Nat) (cs9:List Value),o04=out9/\I.le I'/\(RL I' cs9 out9)/\ah=(hO Int (vS p22 out9 c21) cs9::bj)/\m'=[(1,vI part),(12,vS p22 out9 c21),(70,vS p5 t.list c4),(71,vI (t.list.length:Int)),(72,vI t72)]) ?_ ?_
   · have H:=iS I;refine yC ho04 ?_ ?_
     · intro hc6 N;refine zJ<|yB 2 [] [81,82] rfl<|uK [vI t72] Int ?_;intro b4 hb4;have h28:RL I [vI t72] ([t72]:List Int):=rI [t72];obtain ⟨out10,hy10,N⟩:=zB N;exact sU 3 1 2 rfl rfl rfl h24 (.inr ⟨0,rfl⟩) h28 hy10 fun p23 c22 cs10 h29=>tZ (fO [hO Int (vS (some ⟨b4,0,none⟩) ([t72]:List Int) 1) [vI t72],hB b3 (cInst x2 p21 c20),hO Int (vS p23 out10 c22) cs10] bj [1,2] (ah:=[hB b3 (cInst x2 p21 c20),hO Int (vS p23 out10 c22) cs10]) rfl (by decide))<|wN (ah:=(hB b3 (cInst x2 p21 c20)::hO Int (vS p23 out10 c22) cs10::bj)) rfl<|yH [] [12] rfl<|xQ (fO [hB b3 (cInst x2 p21 c20),hO Int (vS p23 out10 c22) cs10] bj [1] rfl (by decide))<|yL<|zU ⟨_,_,_,_,(zC N).symm,H,h29,rfl,rfl⟩
     intro hc6 N;exact zS<|xQ (fO [hB b3 (cInst x2 p21 c20),hO Int (vS p19 out7 c18) cs7] bj [1] rfl (by decide))<|yL<|zU ⟨_,_,_,_,(zC N).symm,H,h24,rfl,rfl⟩
   rintro I08 ay m2 ⟨out9,p22,c21,cs9,heq4,le8,h27,rfl,rfl⟩;subst o04;have ⟨h8,H⟩:=m2 le8 h8 H;exact zM<|zG<|zJ<|yH [] [72] rfl<|yK<|oY<|ih out9 (W (t72+1)) _ hMc2 H h8 h27 hg ho hx
 intro hc5 N;exact wJ<|yL<|hx _ _ _ _ _ (zC N).symm H h24
def dD {σ:Type} (p:zD) (part:Int) (loop:Int) (taken:((List (List Int))->σ->Option ((List Int)×σ))) (s:σ):Option (((List Int)×Bool)×σ):=do
 let (y1,y2)<-gU p
 let t32<-(do
   if (!y2) then
    pure true
   else
    let y3<-sM p part loop
    pure (!y3)
     : Option Bool)
 if t32 then
  pure ((([]:List Int),false),s)
 else
  let t<-y1
  let al<-pJ part t ([]:List Int) 0
  let y4<-qT t part loop
  let (out5,s1)<-nO taken y4 al s 0
  let out8<-pK part t out5 0
  pure ((out8,true),s1)
theorem zHy:∀ {σ:Type} (p:zD) (part:Int) (loop:Int) (taken:((List (List Int))->σ->Option ((List Int)×σ))) (s:σ) r,dD p part loop taken s=some r->∀ {I:Imm}{p1 c p2 c1}{fv:Value}{hsS:σ->List HA},(S4 I p1 p.Arrays c)->(S4 I p2 p.Parts c1)->(FS1 Tryz.prog I hsS fv taken)->RT 30 [vA (cProg p p1 c p2 c1),vI part,vI loop,fv] I (hsS s) (zG4 hsS r):=by
 intro σ p part loop taken s r N I p1 c p2 c1 fv hsS h h1 h2;unfold dD at N;refine yJ func30 fun B=>?_;have H:=iS I;refine yE<|tO (cProg p p1 c p2 c1) ?_;intro b hb;refine wG [] []<|yX<|rQ 1 [0] [(20,vA (cProg p p1 c p2 c1))] ?_;obtain ⟨⟨y1,y2⟩,hy,N⟩:=zB N;refine xL (zBc p _ hy h h1) ?_;rintro I0 ay v2 k2 le - ⟨v0,v01,rfl,rfl,h3,rfl⟩ -;have ⟨h2,h,h1,H⟩:=m4 le h2 h h1 H;refine yH [] [10,11] rfl<|zX<|zZ ?_;refine wO N ((hsS s)) (fun t32=>[(1,vI part),(2,vI loop),(3,fv),(10,v0),(32,.bool t32)]) (fun o0 aD=>?_) ?_
 · have H:=iS I0;refine zJ<|yB 3 [] [26] rfl<|xV [26] aD ?_ ?_
   · intro hc N;exact wG [] [(32,vY)]<|xQ (fO [hB b (cProg p p1 c p2 c1)] (hsS s) [] rfl (by decide))<|yL<|zU (ct N H)
   intro hc N;refine rQ 6 [0] [(27,vA (cProg p p1 c p2 c1)),(28,vI part),(29,vI loop)]<|bE N fun y3 aB N=>vQ (zAB p part loop _ aB h h1) ?_;intro ba af;have H:=H.trans af;exact yH [] [32] rfl<|xQ (fO [hB b (cProg p p1 c p2 c1)] (hsS s) [] rfl (by decide))<|yL<|zU (ct N H)
 intro t32 aW aF aU;have ⟨h2,h3⟩:=m2 aF h2 h3;refine zG<|yC aU ?_ ?_
 · intro aI N;refine yF [8,9] rfl<|xD<|zH ?_;obtain rfl:=zC N;exact yZ ⟨_,_,(.tmp rfl (.tmp rfl ResV.nil)),(fun _ h=>h),⟨_,_,rfl,rfl,(SL.nil _),rfl⟩⟩
 intro aI N;refine zS<|zEv [(12,z0)]<|zX<|yE<|rQ 1 [] [(33,v0)] ?_;obtain ⟨t,aN,N⟩:=zB N;obtain ⟨ad,aQ,rfl,ar,ap⟩:=zJ3 h3 aN;obtain ⟨p3,c2,p4,c3,p5,c4,p6,c5,p7,c6,rfl,h6,h7,h8,h9,h10⟩:=zAp ap;refine yB 3 [] [35] rfl<|xB 2 ar [vS p5 t.list c4] (vS p5 t.list c4) rfl<|yH [] [37,38] rfl<|xX<|rU [(1,vI part),(2,vI loop),(3,fv),(10,.pointer (some ad)),(12,z0),(36,vS p5 t.list c4),(37,vI (t.list.length:Int)),(38,vI 0)]<|zAI Int fun h11=>?_;obtain ⟨o02,ho02,aM⟩:=zB N;refine zF5 part t ([]:List Int) 0 o02 ho02 iR h2 h6 h7 h8 h9 h10 ar h11 (fun _ _ _ h=>h) (fun _ _ h=>h) ?_;intro bL al p9 c8 az heq2 bk h13;subst o02;have ⟨h2,h6,h7,h8,h9,h10⟩:=m6 bk h2 h6 h7 h8 h9 h10;have ar:=ar.mono bk;refine zR<|zX<|yE<|yB 3 [] [52,53,54] rfl ?_;obtain ⟨y4,bI,N⟩:=zB aM;refine xL (zBI t part loop _ bI h6 h7 h8 h9 h10 ar) ?_;rintro bR ay v2 k2 bz - ⟨v09,rfl,rfl,h18⟩ -;have ⟨h2,h6,h7,h8,h9,h10⟩:=m6 bz h2 h6 h7 h8 h9 h10;have ⟨ar,h13⟩:=m2 bz ar h13;obtain ⟨bq,bo,rfl⟩:=h18.form;refine yH [] [56,57] rfl<|xX<|rU [(1,vI part),(3,fv),(10,.pointer (some ad)),(12,vS p9 al c8),(55,vS bq y4 bo),(56,vI (y4.length:Int)),(57,vI 0)] ?_;obtain ⟨⟨o03,s1⟩,ho03,hMl1⟩:=zB N;refine zF6 taken y4 al s 0 (o03,s1) ho03 iR h2 h6 h7 h8 h9 h10 ar h18 h13 (fun _ _ _ h=>h) (fun _ _ h=>h) ?_;intro I07 out5 s5 p15 c14 bJ heq3 le7 h20;obtain ⟨rfl,rfl⟩:=Prod.mk.inj heq3;have ⟨h8,ar⟩:=m2 le7 h8 ar;refine zR<|zX<|yE<|yB 3 [] [69] rfl<|xB 2 ar [vS p5 t.list c4] (vS p5 t.list c4) rfl<|yH [] [71,72] rfl<|xX<|rU [(1,vI part),(12,vS p15 o03 c14),(70,vS p5 t.list c4),(71,vI (t.list.length:Int)),(72,vI 0)] ?_;obtain ⟨o05,ho05,hMl2⟩:=zB hMl1;refine zF7 part t o03 0 o05 ho05 iR h8 h20 (fun _ _ _ h=>h) (fun _ _ h=>h) ?_;intro I09 out8 p20 c19 cs8 heq5 le9 h25;subst o05;refine zR<|wM [8,9] rfl<|xD<|yU 0 rfl ?_;intro bS le10 hl0;have h30:=SL.of_frozen hl0 le10 h25;obtain rfl:=zC hMl2;exact yZ ⟨_,_,(.tmp rfl (.tmp rfl ResV.nil)),(fun _ h=>h),⟨_,_,rfl,rfl,h30,rfl⟩⟩
def dR (r:(List Int)×Bool):KT:=fun kk I' ah v=>
  ∃ v0 v1,ah=[]/\v=tupV [v0,v1]/\SL I' v0 r.1/\v1=.bool r.2
def zAC (p:zD) (part:Int) (loop:Int):Option (Bool):=do
 let t6<-(do
   let y<-uR p
   if y then
    if (decide (part>=0)) then
     if (decide (part<(p.Parts.length:Int))) then
      if (decide (loop>=0)) then
       let x<-idx p.Parts part
       pure (decide (loop<(x.Nest.length:Int)))
      else
       pure false
     else
      pure false
    else
     pure false
   else
    pure false
     : Option Bool)
 pure (id t6)
theorem zIa:∀ p part loop r,zAC p part loop=some r->∀ {I:Imm}{p1 c p2 c1},(S4 I p1 p.Arrays c)->(S4 I p2 p.Parts c1)->RT 35 [vA (cProg p p1 c p2 c1),vI part,vI loop] I [] (zT  r):=by
 intro p part loop r N I p1 c p2 c1 h h1;unfold zAC at N;refine yJ func35 fun B=>?_;have H:=iS I;refine yE<|tO (cProg p p1 c p2 c1) ?_;intro b hb;refine wG [] []<|zG<|zZ ?_;refine wO N [] (fun t6=>[(6,.bool t6)]) (fun o0 aD=>?_) ?_
 · have H:=iS I;refine zJ<|rQ 1 [0] [(7,vA (cProg p p1 c p2 c1))] ?_;obtain ⟨y,hy,N⟩:=zB aD;refine vQ (fW p _ hy h h1) ?_;intro aW le;have ⟨h1,H⟩:=m2 le h1 H;refine yB 3 [] [9] rfl<|xV [9] N ?_ ?_
   · intro hc N;refine yB 7 [] [13] rfl<|xV [13] N ?_ ?_
     · intro aI N;refine yB 14 [0] [20] rfl<|xV [20] N ?_ ?_
       · intro aX N;refine yB 18 [] [24] rfl<|xV [24] N ?_ ?_
         · intro bK N;refine yB 22 [0] [25,27,28] rfl<|bE N fun x aB N=>xK rfl rfl h1 aB ?_;intro ad aQ ar ap;obtain ⟨p3,c2,p4,c3,rfl,h3,h4⟩:=wR ap;exact yB 24 [] [30] rfl<|xB 0 ar [vS p3 x.Nest c2] (vS p3 x.Nest c2) rfl<|yH [] [6] rfl<|xQ zQ<|yL<|zU (ct N H)
         intro bK N;exact wG [] [(6,vF)]<|xQ zQ<|yL<|zU (ct N H)
       intro aX N;exact wG [] [(6,vF)]<|xQ zQ<|yL<|zU (ct N H)
     intro aI N;exact wG [] [(6,vF)]<|xQ zQ<|yL<|zU (ct N H)
   intro hc N;exact wG [] [(6,vF)]<|xQ zQ<|yL<|zU (ct N H)
 intro t6 I0 af aU;refine zG<|yW ?_;obtain rfl:=zC aU;exact wI
end Go.LN
