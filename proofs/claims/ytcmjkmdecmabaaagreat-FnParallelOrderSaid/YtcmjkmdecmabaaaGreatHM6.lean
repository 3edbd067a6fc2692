/- Helper of the proof (see the last text). -/
import Derived.Test.YtcmjkmdecmabaaaGreatHM5
set_option linter.unusedVariables false
set_option linter.unusedSimpArgs false
namespace Go.LN
open Go.Proofs Go.Proofs.Tryz
set_option maxRecDepth 20000
def oM (a0:zL):Option (Bool):=do
 let t2<-(do
   if (a0.Array.l==([]:List UInt8)) then
    pure ((a0.Subs.length:Int)==0)
   else
    pure false
     : Option Bool)
 pure (id t2)
theorem eM:∀ a0 r,oM a0=some r->∀ {I:Imm}{p c},(S4 I p a0.Subs c)->RT 164 [vA (cAccess a0 p c)] I [] (zU  r):=by
 intro a0 r N I p c h;unfold oM at N;refine yK func164 fun B=>?_;have H:=iS I;refine yF<|tT (cAccess a0 p c) ?_;intro b hb;refine wI [] []<|zH<|yB ?_;refine wR N [] (fun t2=>[(2,.bool t2)]) (fun o0 aD=>?_) ?_
 · have H:=iS I;refine zJ<|yC 4 [0] [6] rfl<|xW [6] aD ?_ ?_
   · intro hc N;exact yI [0] [2] rfl<|xR zQ<|yN<|zV (ct N H)
   intro hc N;exact wI [] [(2,vF)]<|xR zQ<|yN<|zV (ct N H)
 intro t2 I0 le aV;refine zH<|yY ?_;obtain rfl:=zC aV;exact wF
def zA2 (kind:Int):Option (Bool):=do
 let y<-wC kind 4 6
 pure (id y)
theorem zJf:∀ kind r,zA2 kind=some r->∀ {I:Imm} ,RT 165 [vI kind] I [] (zU  r):=by
 intro kind r N I;unfold zA2 at N;refine yK func165 fun B=>wQ []<|yV<|yC 1 [] [3] rfl<|bE N fun y hy N=>vU (wJ kind 4 6 _ hy ) fun I0 le=>wI [] [(2,.bool y)]<|zH<|yY ?_;obtain rfl:=zC N;exact wF
def zEc (b0:Nat) (r:Bool×Int):KT:=fun kk I' ah v=>
  ∃ v0 k0,ah=[.blk b0 ⟨k0⟩]/\v=tupV [v0]/\v0=.bool r.1/\Rp.rep I' k0 r.2
def uY (e0:zI) (aa:Int) (deep:Int) (count:Int):Option (Bool×Int):=do
 let t21<-(do
   if (decide ((W (count+1))>12)) then
    pure true
   else
    pure (decide (deep>5))
     : Option Bool)
 if t21 then
  pure (false,(W (count+1)))
 else
  let t51<-(do
    if (e0.Kind != 1) then
     if (e0.Num != 0) then
      pure true
     else
      if (e0.Kind != 2) then
       let y<-kX e0.Index
       if (!y) then
        pure true
       else
        if (e0.Kind != 3) then
         let y1<-oM e0.Read
         pure (!y1)
        else
         pure false
      else
       if (e0.Kind != 3) then
        let y2<-oM e0.Read
        pure (!y2)
       else
        pure false
    else
     if (e0.Kind != 2) then
      let y3<-kX e0.Index
      if (!y3) then
       pure true
      else
       if (e0.Kind != 3) then
        let y4<-oM e0.Read
        pure (!y4)
       else
        pure false
     else
      if (e0.Kind != 3) then
       let y5<-oM e0.Read
       pure (!y5)
      else
       pure false
      : Option Bool)
  if t51 then
   pure (false,(W (count+1)))
  else
   if (e0.Kind==1) then
    let t8<-(do
      let y6<-wC e0.Num 0 99
      if y6 then
       pure ((e0.Kids.length:Int)==0)
      else
       pure false
        : Option Bool)
    pure (t8,(W (count+1)))
   else
    if (e0.Kind==2) then
     let t81<-(do
       let y7<-pF e0.Index
       if y7 then
        let y8<-rY e0.Index
        if (decide (y8<=aa)) then
         pure ((e0.Kids.length:Int)==0)
        else
         pure false
       else
        pure false
         : Option Bool)
     pure (t81,(W (count+1)))
    else
     if (e0.Kind==3) then
      let t82<-(do
        let y9<-kW e0.Read aa
        if y9 then
         pure ((e0.Kids.length:Int)==0)
        else
         pure false
          : Option Bool)
      pure (t82,(W (count+1)))
     else
      let t99<-(do
        let y10<-zA2 e0.Kind
        if (!y10) then
         pure true
        else
         pure ((e0.Kids.length:Int) != 2)
          : Option Bool)
      if t99 then
       pure (false,(W (count+1)))
      else
       let (t83,x)<-(do
         let x1<-idx e0.Kids 0
         let (y12,y13)<-uY (same x1) (same aa) (W (deep+1)) (W (count+1))
         if y12 then
          let x2<-idx e0.Kids 1
          let (y15,y16)<-uY (same x2) (same aa) (W (deep+1)) (same y13)
          pure (y15,y16)
         else
          pure (false,y13)
           : Option (Bool×Int))
       pure (t83,x)
 partial_fixpoint
theorem zG4:∀ e0 aa deep count r,uY e0 aa deep count=some r->∀ {I:Imm}{p c p1 c1 p2 c2}{r0:Nat},(S4 I p e0.Index.Coefs c)->(S4 I p1 e0.Read.Subs c1)->(S4 I p2 e0.Kids c2)->RT 121 [vA (cExpr e0 p c p1 c1 p2 c2),vI aa,vI deep,vP r0 0] I [hB r0 [vI count]] (zEc r0 r):=by
 refine uY.partial_correctness _ fun F_impl_exprScan ih_impl_exprScan e0 aa deep count r N I p c p1 c1 p2 c2 r0 h h1 h2=>yK func121 fun B=>?_;have H:=iS I;refine yF<|tT (cExpr e0 p c p1 c1 p2 c2) ?_;intro b hb;refine wI [] []<|yV<|yC 5 [1] [12,13] rfl<|xJ 1 [vI (W (count+1))] rfl<|yD rfl<|zZ<|yB ?_;refine wR N [hB b (cExpr e0 p c p1 c1 p2 c2),hB r0 [vI (W (count+1))]] (fun t21=>[(1,vI aa),(2,vI deep),(3,vP r0 0),(4,vP b 0),(21,.bool t21)]) (fun o0 aD=>?_) ?_
 · have H:=iS I;refine zJ<|yC 5 [1] [18] rfl<|xW [18] aD ?_ ?_
   · intro hc N;exact wI [] [(21,vY)]<|yN<|zV (ct N H)
   intro hc N;exact yI [] [21] rfl<|yN<|zV (ct N H)
 intro t21 I0 le aV;have ⟨h,h1,h2,H⟩:=m4 le h h1 h2 H;refine zH<|yE aV ?_ ?_
 · intro aH N;refine wQ [(8,vF)]<|xD<|zG ?_;obtain rfl:=zC N;exact xA ⟨_,_,(.tmp rfl ResV.nil),(zX [1] rfl (by decide)),⟨_,_,rfl,rfl,rfl,rfl⟩⟩
 intro aH N;refine zT<|zZ<|yB ?_;refine wR N [hB b (cExpr e0 p c p1 c1 p2 c2),hB r0 [vI (W (count+1))]] (fun t51=>[(1,vI aa),(2,vI deep),(3,vP r0 0),(4,vP b 0),(51,.bool t51)]) (fun aQ aB=>?_) ?_
 · have H:=iS I0;refine zJ<|yC 4 [0] [25] rfl<|xW [25] aB ?_ ?_
   · intro aZ N;refine yC 9 [0] [30] rfl<|xW [30] N ?_ ?_
     · intro bK N;exact wI [] [(51,vY)]<|yN<|zV (ct N H)
     intro bK N;refine yC 13 [0] [34] rfl<|xW [34] N ?_ ?_
     · intro bO N;refine rH 15 [0] [(36,vA (cAff e0.Index p c))]<|bE N fun y hy N=>vU (zCJ e0.Index _ hy h) ?_;intro aX ae;have ⟨h1,H⟩:=m2 ae h1 H;refine yC 20 [] [41] rfl<|xW [41] N ?_ ?_
       · intro hc5 N;exact wI [] [(51,vY)]<|yN<|zV (ct N H)
       intro hc5 N;refine yC 24 [0] [45] rfl<|xW [45] N ?_ ?_
       · intro hc6 N;refine rH 26 [0] [(47,vA (cAccess e0.Read p1 c1))]<|bE N fun y1 aA N=>vU (eM e0.Read _ aA h1) ?_;intro bG aF;have H:=H.trans aF;exact yI [] [51] rfl<|yN<|zV (ct N H)
       intro hc6 N;exact wI [] [(51,vF)]<|yN<|zV (ct N H)
     intro bO N;refine yC 24 [0] [41,45] rfl<|xW [45] N ?_ ?_
     · intro hc7 N;refine rH 26 [0] [(47,vA (cAccess e0.Read p1 c1))]<|bE N fun y2 aK N=>vU (eM e0.Read _ aK h1) ?_;intro bL aJ;have H:=H.trans aJ;exact yI [] [51] rfl<|yN<|zV (ct N H)
     intro hc7 N;exact wI [] [(51,vF)]<|yN<|zV (ct N H)
   intro aZ N;refine yC 13 [0] [30,34] rfl<|xW [34] N ?_ ?_
   · intro hc8 N;refine rH 15 [0] [(36,vA (cAff e0.Index p c))]<|bE N fun y3 bi N=>vU (zCJ e0.Index _ bi h) ?_;intro bR bd;have ⟨h1,H⟩:=m2 bd h1 H;refine yC 20 [] [41] rfl<|xW [41] N ?_ ?_
     · intro hc9 N;exact wI [] [(51,vY)]<|yN<|zV (ct N H)
     intro hc9 N;refine yC 24 [0] [45] rfl<|xW [45] N ?_ ?_
     · intro hc10 N;refine rH 26 [0] [(47,vA (cAccess e0.Read p1 c1))]<|bE N fun y4 bu N=>vU (eM e0.Read _ bu h1) ?_;intro I06 bw;have H:=H.trans bw;exact yI [] [51] rfl<|yN<|zV (ct N H)
     intro hc10 N;exact wI [] [(51,vF)]<|yN<|zV (ct N H)
   intro hc8 N;refine yC 24 [0] [41,45] rfl<|xW [45] N ?_ ?_
   · intro hc11 N;refine rH 26 [0] [(47,vA (cAccess e0.Read p1 c1))]<|bE N fun y5 bJ N=>vU (eM e0.Read _ bJ h1) ?_;intro I07 bC;have H:=H.trans bC;exact yI [] [51] rfl<|yN<|zV (ct N H)
   intro hc11 N;exact wI [] [(51,vF)]<|yN<|zV (ct N H)
 intro t51 aW le7 hMc1;have ⟨h,h1,h2,H⟩:=m4 le7 h h1 h2 H;refine zH<|yE hMc1 ?_ ?_
 · intro hc12 N;refine wQ [(8,vF)]<|xD<|zG ?_;obtain rfl:=zC N;exact xA ⟨_,_,(.tmp rfl ResV.nil),(zX [1] rfl (by decide)),⟨_,_,rfl,rfl,rfl,rfl⟩⟩
 intro hc12 N;refine zT<|zZ<|yH<|yF<|yI [0] [52] rfl<|zH<|yE N ?_ ?_
 · intro hc13 N;refine yB ?_;refine wR N [hB r0 [vI (W (count+1))]] (fun t8=>[(8,.bool t8)]) (fun o02 ho02=>?_) ?_
   · have H:=iS aW;refine zJ<|yC 2 [0] [57] rfl ?_;obtain ⟨y6,hy6,N⟩:=zB ho02;refine vU (wJ e0.Num 0 99 _ hy6 ) ?_;intro I09 le8;have H:=H.trans le8;refine yC 4 [] [59] rfl<|xW [59] N ?_ ?_
     · intro hc14 N;exact yI [0] [8] rfl<|xR (zX [1] rfl (by decide))<|yN<|zV (ct N H)
     intro hc14 N;exact wI [] [(8,vF)]<|xR (zX [1] rfl (by decide))<|yN<|zV (ct N H)
   intro t8 I08 le9 hMc2;refine xD<|zW<|zG ?_;obtain rfl:=zC hMc2;exact xA ⟨_,_,(.tmp rfl ResV.nil),(zX [0] rfl (by decide)),⟨_,_,rfl,rfl,rfl,rfl⟩⟩
 intro hc13 N;refine yF<|yI [0] [65] rfl<|zH<|yE N ?_ ?_
 · intro hc15 N;refine yB ?_;refine wR N [hB r0 [vI (W (count+1))]] (fun t81=>[(8,.bool t81)]) (fun o03 ho03=>?_) ?_
   · have H:=iS aW;refine zJ<|rH 2 [0] [(70,vA (cAff e0.Index p c))] ?_;obtain ⟨y7,hy7,N⟩:=zB ho03;refine vU (mR e0.Index _ hy7 h) ?_;intro bY le10;have ⟨h,H⟩:=m2 le10 h H;refine yC 4 [] [72] rfl<|xW [72] N ?_ ?_
     · intro hc16 N;refine rH 6 [0] [(74,vA (cAff e0.Index p c))]<|bE N fun y8 hy8 N=>fB (eF e0.Index _ hy8 h) ?_;intro bX le11;have H:=H.trans le11;refine yC 11 [] [79] rfl<|xW [79] N ?_ ?_
       · intro hc17 N;exact yI [0] [8] rfl<|xR (zX [1] rfl (by decide))<|yN<|zV (ct N H)
       intro hc17 N;exact wI [] [(8,vF)]<|xR (zX [1] rfl (by decide))<|yN<|zV (ct N H)
     intro hc16 N;exact wI [] [(8,vF)]<|xR (zX [1] rfl (by decide))<|yN<|zV (ct N H)
   intro t81 bS le12 hMc3;refine xD<|zW<|zG ?_;obtain rfl:=zC hMc3;exact xA ⟨_,_,(.tmp rfl ResV.nil),(zX [0] rfl (by decide)),⟨_,_,rfl,rfl,rfl,rfl⟩⟩
 intro hc15 N;refine yF<|yI [0] [85] rfl<|zH<|yE N ?_ ?_
 · intro hc18 N;refine yB ?_;refine wR N [hB r0 [vI (W (count+1))]] (fun t82=>[(8,.bool t82)]) (fun o04 ho04=>?_) ?_
   · have H:=iS aW;refine zJ<|rH 3 [0] [(90,vA (cAccess e0.Read p1 c1)),(91,vI aa)] ?_;obtain ⟨y9,hy9,N⟩:=zB ho04;refine vU (zCI e0.Read aa _ hy9 h1) ?_;intro I014 le13;have H:=H.trans le13;refine yC 5 [] [93] rfl<|xW [93] N ?_ ?_
     · intro hc19 N;exact yI [0] [8] rfl<|xR (zX [1] rfl (by decide))<|yN<|zV (ct N H)
     intro hc19 N;exact wI [] [(8,vF)]<|xR (zX [1] rfl (by decide))<|yN<|zV (ct N H)
   intro t82 I013 le14 hMc4;refine xD<|zW<|zG ?_;obtain rfl:=zC hMc4;exact xA ⟨_,_,(.tmp rfl ResV.nil),(zX [0] rfl (by decide)),⟨_,_,rfl,rfl,rfl,rfl⟩⟩
 intro hc18 N;refine yB ?_;refine wR N [hB b (cExpr e0 p c p1 c1 p2 c2),hB r0 [vI (W (count+1))]] (fun t99=>[(1,vI aa),(2,vI deep),(3,vP r0 0),(4,vP b 0),(99,.bool t99)]) (fun o05 ho05=>?_) ?_
 · have H:=iS aW;refine zJ<|yC 2 [0] [101] rfl ?_;obtain ⟨y10,hy10,N⟩:=zB ho05;refine vU (zJf e0.Kind _ hy10 ) ?_;intro I016 le15;have H:=H.trans le15;refine yC 5 [] [104] rfl<|xW [104] N ?_ ?_
   · intro hc20 N;exact wI [] [(99,vY)]<|yN<|zV (ct N H)
   intro hc20 N;exact yI [0] [99] rfl<|yN<|zV (ct N H)
 intro t99 I015 le16 hMc5;have ⟨h2,H⟩:=m2 le16 h2 H;refine zH<|yE hMc5 ?_ ?_
 · intro hc21 N;refine wQ [(8,vF)]<|xD<|zW<|zG ?_;obtain rfl:=zC N;exact xA ⟨_,_,(.tmp rfl ResV.nil),(zX [1] rfl (by decide)),⟨_,_,rfl,rfl,rfl,rfl⟩⟩
 intro hc21 N;refine zT<|zN<|zH<|yB ?_;obtain ⟨o06,ho06,hMc6⟩:=zB N;refine qV (fun I' ah m'=>∃ (t83:Bool) (x:Int),o06=(t83,x)/\I015.le I'/\ah=[hB r0 [vI x]]/\m'=[(8,.bool t83)]) ?_ ?_
 · have H:=iS I015;refine zJ<|yC 2 [0] [111] rfl ?_;obtain ⟨x1,hy11,N⟩:=zB ho06;refine xL rfl rfl h2 hy11 ?_;intro ad aP aq am;obtain ⟨p3,c3,p4,c4,p5,c5,rfl,h14,h15,h16⟩:=tX am;refine xE 0 aq (cExpr x1 p3 c3 p4 c4 p5 c5) (vA (cExpr x1 p3 c3 p4 c4 p5 c5)) rfl<|yC 8 [] [114,116,117] rfl<|sE (zY [1,0] (ah:=[hB r0 [vI (W (count+1))],hB b (cExpr e0 p c p1 c1 p2 c2)])) ?_;obtain ⟨⟨y12,y13⟩,hy12,N⟩:=zB N;refine tY (ih_impl_exprScan x1 aa (W (deep+1)) (W (count+1)) _ hy12 h14 h15 h16) rfl ?_;rintro I018 ay v2 k2 le17 - ⟨v014,kk,rfl,rfl,rfl,h18⟩ -;have ⟨h2,H⟩:=m2 le17 h2 H;obtain rfl:=h18;refine yC 10 [] [119] rfl<|xW [119] N ?_ ?_
   · intro hc22 N;refine yC 12 [1] [121] rfl<|bE N fun x2 hy13 N=>xL rfl rfl h2 hy13 ?_;intro ad1 bv av ax;obtain ⟨p6,c6,p7,c7,p8,c8,rfl,h19,h20,h21⟩:=tX ax;refine xE 0 av (cExpr x2 p6 c6 p7 c7 p8 c8) (vA (cExpr x2 p6 c6 p7 c7 p8 c8)) rfl<|yC 18 [] [124,126,127] rfl ?_;obtain ⟨⟨y15,y16⟩,hy14,N⟩:=zB N;refine tY (ih_impl_exprScan x2 aa (W (deep+1)) y13 _ hy14 h19 h20 h21) rfl ?_;rintro I019 ay v2 k2 le18 - ⟨v018,kk1,rfl,rfl,rfl,h23⟩ -;have H:=H.trans le18;obtain rfl:=h23;exact yI [] [8] rfl<|xR (zX [0] rfl (by decide))<|yN<|zV ⟨_,_,(zC N).symm,H,rfl,rfl⟩
   intro hc22 N;exact wI [] [(8,vF)]<|xR (zX [0] rfl (by decide))<|yN<|zV ⟨_,_,(zC N).symm,H,rfl,rfl⟩
 rintro I017 ay m2 ⟨t83,x,heq6,le19,rfl,rfl⟩;subst o06;refine zH<|yY ?_;obtain rfl:=zC hMc6;exact xA ⟨_,_,(.tmp rfl ResV.nil),(zX [0] rfl (by decide)),⟨_,_,rfl,rfl,rfl,rfl⟩⟩
def gG (s:zP) (aa:Int):Option (Bool):=do
 let t4<-(do
   let y<-wC aa 0 4
   if y then
    let y1<-kW s.Write aa
    if y1 then
     let (y3,y4)<-uY s.Value aa 1 0
     pure (id y3)
    else
     pure false
   else
    pure false
     : Option Bool)
 pure (id t4)
theorem zF9:∀ s aa r,gG s aa=some r->∀ {I:Imm}{p c p1 c1 p2 c2 p3 c3},(S4 I p s.Write.Subs c)->(S4 I p1 s.Value.Index.Coefs c1)->(S4 I p2 s.Value.Read.Subs c2)->(S4 I p3 s.Value.Kids c3)->RT 81 [vA (cStmt s p c p1 c1 p2 c2 p3 c3),vI aa] I [] (zU  r):=by
 intro s aa r N I p c p1 c1 p2 c2 p3 c3 h h1 h2 h3;unfold gG at N;refine yK func81 fun B=>?_;have H:=iS I;refine yF<|tT (cStmt s p c p1 c1 p2 c2 p3 c3) ?_;intro b hb;refine wI [] []<|yV<|wS [vI 0] ?_;intro b1 hb1;refine xJ 0 [vI 0] rfl<|yD rfl<|zH<|yB ?_;refine wR N [] (fun t4=>[(4,.bool t4)]) (fun o0 aD=>?_) ?_
 · have H:=iS I;refine zJ<|yC 1 [] [6] rfl ?_;obtain ⟨y,hy,N⟩:=zB aD;refine vU (wJ aa 0 4 _ hy ) ?_;intro aW le;have ⟨h,h1,h2,h3,H⟩:=m5 le h h1 h2 h3 H;refine yC 3 [] [8] rfl<|xW [8] N ?_ ?_
   · intro hc N;refine rH 6 [1] [(10,vA (cAccess s.Write p c)),(11,vI aa)]<|bE N fun y1 aA N=>vU (zCI s.Write aa _ aA h) ?_;intro aX ae;have ⟨h1,h2,h3,H⟩:=m4 ae h1 h2 h3 H;refine yC 9 [] [14] rfl<|xW [14] N ?_ ?_
     · intro aH N;refine rH 12 [1] [(16,vA (cExpr s.Value p1 c1 p2 c2 p3 c3)),(17,vI aa)] ?_;obtain ⟨⟨y3,y4⟩,aK,N⟩:=zB N;refine tY (zG4 s.Value aa 1 0 _ aK h1 h2 h3) rfl ?_;rintro bG ay v2 k2 aF - ⟨v02,kk,rfl,rfl,rfl,h7⟩ -;have H:=H.trans aF;obtain rfl:=h7;exact yI [] [4] rfl<|xR zQ<|yN<|zV (ct N H)
     intro aH N;exact wI [] [(4,vF)]<|xR zQ<|yN<|zV (ct N H)
   intro hc N;exact wI [] [(4,vF)]<|xR zQ<|yN<|zV (ct N H)
 intro t4 I0 aJ aV;refine zH<|yY ?_;obtain rfl:=zC aV;exact wF
def vZ (s:zP) (x:zO):Option (Bool):=do
 let y<-gG s (x.Nest.length:Int)
 pure (!y)
theorem zAm:∀ s x r,vZ s x=some r->∀ {I:Imm}{p c p1 c1 p2 c2 p3 c3}{ad:Addr}{p4 c4 p5 c5},(S4 I p s.Write.Subs c)->(S4 I p1 s.Value.Index.Coefs c1)->(S4 I p2 s.Value.Read.Subs c2)->(S4 I p3 s.Value.Kids c3)->(S4 I p4 x.Nest c4)->(S4 I p5 x.Body c5)->(At I ad (cPart x p4 c4 p5 c5))->RT 80 [vA (cStmt s p c p1 c1 p2 c2 p3 c3),.pointer (some ad)] I [] (zU  r):=by
 intro s x r N I p c p1 c1 p2 c2 p3 c3 ad p4 c4 p5 c5 h h1 h2 h3 h4 h5 aq;unfold vZ at N;refine yK func80 fun B=>yF<|tT (cStmt s p c p1 c1 p2 c2 p3 c3) ?_;intro b hb;refine wI [] []<|yV<|rH 2 [0] [(4,vA (cStmt s p c p1 c1 p2 c2 p3 c3)),(5,.pointer (some ad))]<|xE 0 aq [vS p4 x.Nest c4] (vS p4 x.Nest c4) rfl<|yC 4 [] [7] rfl<|bE N fun y hy N=>vU (zF9 s (x.Nest.length:Int) _ hy h h1 h2 h3) fun I0 le=>wI [] [(3,.bool (!y))]<|zH<|yY ?_;obtain rfl:=zC N;exact wF
def nN (n0:Int):Option (Bool):=do
 let y<-wC n0 (-9999) 9999
 pure (!y)
theorem zFa:∀ n0 r,nN n0=some r->∀ {I:Imm} ,RT 122 [vI n0] I [] (zU  r):=by
 intro n0 r N I;unfold nN at N;refine yK func122 fun B=>wQ []<|yV<|yC 1 [] [3] rfl<|bE N fun y hy N=>vU (wJ n0 (-9999) 9999 _ hy ) fun I0 le=>wI [] [(2,.bool (!y))]<|zH<|yY ?_;obtain rfl:=zC N;exact wF
def eG (ag:(List Int)):Option (Bool):=do
 let t2<-(do
   if (decide ((ag.length:Int)<=4)) then
    let y<-xP ag nN
    pure (!y)
   else
    pure false
     : Option Bool)
 pure (id t2)
theorem zHH:∀ ag r,eG ag=some r->∀ {I:Imm}{p c},(S4 I p ag c)->RT 82 [vS p ag c] I [] (zU  r):=by
 intro ag r N I p c h;unfold eG at N;refine yK func82 fun B=>?_;have H:=iS I;refine wQ []<|zH<|yB ?_;refine wR N [] (fun t2=>[(2,.bool t2)]) (fun o0 aD=>?_) ?_
 · have H:=iS I;refine zJ<|yC 4 [] [6] rfl<|xW [6] aD ?_ ?_
   · intro hc N;refine yC 5 [] [7] rfl ?_;have hf0:FV1 Tryz.prog I [] (.func (.func 122) ⟨[]⟩ ⟨[]⟩) nN:=by
       refine FV1.intro ?_;intro I1 ae x0 r u0 hF k0;obtain rfl:=k0;exact (zFa x0 r hF ).mono (by rintro k i hs u ⟨v0,rfl,rfl,h⟩; exact ⟨rfl,h⟩)
     obtain ⟨y,hy,N⟩:=zB N;refine xM (rR ag nN _ hy h hf0) ?_;rintro aW ay v2 k2 le - ⟨v0,rfl,rfl,rfl⟩ -;have H:=H.trans le;exact yI [] [2] rfl<|yN<|zV (ct N H)
   intro hc N;exact wI [] [(2,vF)]<|yN<|zV (ct N H)
 intro t2 I0 ae aV;refine zH<|yY ?_;obtain rfl:=zC aV;exact wF
def rC (a0:zF) (n0:Int) (t9:Int):Option (Int):=do
 if (decide (t9<(a0.Dims.length:Int))) then
  let x<-idx a0.Dims t9
  rC a0 (W (n0*x)) (W (t9+1))
 else
  pure (id n0)
 partial_fixpoint
theorem zCw (a0:zF):∀ (n0:Int) (t9:Int) (o:Int),rC a0 n0 t9=some o->∀ {B}{I0 I:Imm}{Q p c},I0.le I->(S4 I p a0.Dims c)->NG Q->NO Q->(∀ (I':Imm) (n01:Int),o=n01->I0.le I'->T 18 B Q (.exit 0) I' [] [(3,vI n01)])->J Tryz.prog 18 B (nav (bodyOf f166) [1,1,0,1,0]) Q I [] [(3,vI n0),(7,vS p a0.Dims c),(8,vI (a0.Dims.length:Int)),(9,vI t9)]:=by
 refine rC.partial_correctness a0 _ fun aI ih n0 t9 o N B I0 I Q p c H h hg ho hx=>yO hg ho<|yG [10] rfl<|zZ<|yE N ?_ ?_
 · intro hc N;refine zT<|zZ<|yH<|yF<|bE N fun x hy N=>xL rfl rfl h hy ?_;intro ad aP aq am;obtain rfl:=am;exact xE 0 aq [vI x] (vI x) rfl<|yI [] [5] rfl<|zH<|zJ<|yI [] [3] rfl<|zN<|zH<|zJ<|yI [] [9] rfl<|yM<|nT<|ih (W (n0*x)) (W (t9+1)) _ N H h hg ho hx
 intro hc N;exact wL<|yN<|hx _ _ (zC N).symm H
def jD (a0:zF):Option (Int):=do
 let n01<-rC a0 1 0
 pure (id n01)
theorem zEd:∀ a0 r,jD a0=some r->∀ {I:Imm}{p c},(S4 I p a0.Dims c)->RT 166 [vA (cArr a0 p c)] I [] (yQ  r):=by
 intro a0 r N I p c h;unfold jD at N;refine yK func166 fun B=>yF<|tT (cArr a0 p c) ?_;intro b hb;refine wI [] []<|wP [3] rfl<|zZ<|yF<|yI [0] [7,8,9] rfl<|xY<|kC (zY [] (ah:=[]))<|qI [(3,vI 1),(7,vS p a0.Dims c),(8,vI (a0.Dims.length:Int)),(9,vI 0)] ?_;obtain ⟨o0,aD,aM⟩:=zB N;refine zCw a0 1 0 o0 aD iR h (fun _ _ _ h=>h) (fun _ _ h=>h) ?_;intro I0 n01 heq le;subst o0;refine zS<|wP [2] rfl<|zH<|yY ?_;obtain rfl:=zC aM;exact wF
def sC (a0:zL) (ag:(List Int)) (x:zF) (at0:Int) (t40:Int):Option (Out Int (Int)):=do
 if (decide (t40<(a0.Subs.length:Int))) then
  let x1<-idx a0.Subs t40
  let y1<-sB x1 ag
  let x2<-idx x.Dims t40
  let y2<-wC y1 0 (W (x2 - 1))
  if (!y2) then
   pure (.ret (-1))
  else
   let x3<-idx x.Dims t40
   sC a0 ag x (W ((W (at0*x3))+y1)) (W (t40+1))
 else
  pure (.done at0)
 partial_fixpoint
theorem zCK (a0:zL) (ag:(List Int)) (x:zF):∀ (at0:Int) (t40:Int) (o:Out Int (Int)),sC a0 ag x at0 t40=some o->∀ {B}{I0 I:Imm}{Q}{first:Int}{p3 c2 p4 c3 p5 c4}{b2:Nat},I0.le I->(S4 I p4 ag c3)->(S4 I p3 a0.Subs c2)->(S4 I p5 x.Dims c4)->NG Q->NO Q->(∀ (I':Imm) (at01:Int),o=(.done at01)->I0.le I'->T 71 B Q (.exit 2) I' [] [(7,vI first),(10,vI at01)])->(∀ r I' ah m',o=(.ret r)->I0.le I'->RS Tryz.prog f123 B (yQ  r) I' ah m'->T 71 B Q .ret I' ah m')->J Tryz.prog 71 B (nav (bodyOf f123) [1,1,0,1,0,0,1,1,0,0,1,1,1,1,0,1,0]) Q I [hB b2 (cArr x p5 c4)] [(2,vS p4 ag c3),(7,vI first),(9,vP b2 0),(10,vI at0),(38,vS p3 a0.Subs c2),(39,vI (a0.Subs.length:Int)),(40,vI t40)]:=by
 refine sC.partial_correctness a0 ag x _ fun aI ih at0 t40 o N B I0 I Q first p3 c2 p4 c3 p5 c4 b2 H h3 h2 h4 hg ho hx hr=>yO hg ho<|yG [41] rfl<|zZ<|yE N ?_ ?_
 · intro bK N;refine zT<|zZ<|yH<|yF<|yC 1 [] [42] rfl<|bE N fun x1 aK N=>xL rfl rfl h2 aK ?_;intro ad1 bv av ax;obtain ⟨p6,c5,rfl,h6⟩:=yS ax;refine xE 0 av (cAff x1 p6 c5) (vA (cAff x1 p6 c5)) rfl<|wS [z0,vI 0] ?_;intro b3 hb3;refine yC 5 [] [11] rfl<|xJ 0 (cAff x1 p6 c5) rfl<|yD rfl<|yV<|rH 2 [0] [(45,vA (cAff x1 p6 c5)),(46,vS p4 ag c3)]<|bE N fun y1 bi N=>fB (mS x1 ag _ bi h6 h3) ?_;intro aW ae;have ⟨h3,h2,h4,H⟩:=m4 ae h3 h2 h4 H;refine yI [] [13] rfl<|zZ<|yF<|yC 4 [1] [48,50,51] rfl<|bE N fun x2 bu N=>xL rfl rfl h4 bu ?_;intro ad2 bP bb bk;obtain rfl:=bk;refine xE 0 bb [vI x2] (vI x2) rfl<|yC 7 [] [54] rfl<|bE N fun y2 bJ N=>vU (wJ y1 0 (W (x2 - 1)) _ bJ ) ?_;intro aX aF;have ⟨h3,h2,h4,H⟩:=m4 aF h3 h2 h4 H;refine yI [] [56] rfl<|zH<|yE N ?_ ?_
   · intro bO N;exact yG [6] rfl<|xD<|zG<|zW<|zG<|zG<|hr _ _ _ _ (zC N).symm H ⟨_,_,(.tmp rfl ResV.nil),zQ,⟨_,rfl,rfl,rfl⟩⟩
   intro bO N;refine zT<|zH<|zJ<|yC 4 [1] [57,59,60] rfl<|bE N fun x3 hy6 N=>xL rfl rfl h4 hy6 ?_;intro ad3 ccs3 hat3 bH;obtain rfl:=bH;exact xE 0 hat3 [vI x3] (vI x3) rfl<|yI [] [10] rfl<|zN<|zH<|zJ<|yI [] [40] rfl<|yM<|kC (zX [1] rfl (by decide))<|nT<|ih (W ((W (at0*x3))+y1)) (W (t40+1)) _ N H h3 h2 h4 hg ho hx hr
 intro bK N;exact wL<|xR zQ<|yN<|hx _ _ (zC N).symm H
def uN (p:zD) (a0:zL) (ag:(List Int)) (first:Int) (t17:Int):Option (Out Unit (Int)):=do
 if (decide (t17<(p.Arrays.length:Int))) then
  let x<-idx p.Arrays t17
  if (!(x.Name.l==a0.Array.l)) then
   let y<-jD x
   uN p a0 ag (W (first+y)) (W (t17+1))
  else
   if ((a0.Subs.length:Int) != (x.Dims.length:Int)) then
    pure (.ret (-1))
   else
    match<-sC a0 ag x 0 0 with
    | .ret r0=>pure (.ret r0)
    | .done at01 =>
     pure (.ret (W (first+at01)))
 else
  pure (.done ())
 partial_fixpoint
theorem zCL (p:zD) (a0:zL) (ag:(List Int)):∀ (first:Int) (t17:Int) (o:Out Unit (Int)),uN p a0 ag first t17=some o->∀ {B}{I0 I:Imm}{Q p1 c p3 c2 p4 c3}{b1:Nat},I0.le I->(S4 I p4 ag c3)->(S4 I p1 p.Arrays c)->(S4 I p3 a0.Subs c2)->NG Q->NO Q->(∀ (I':Imm) ,o=(.done ())->I0.le I'->T 71 B Q (.exit 0) I' [] [])->(∀ r I' ah m',o=(.ret r)->I0.le I'->RS Tryz.prog f123 B (yQ  r) I' ah m'->T 71 B Q .ret I' ah m')->J Tryz.prog 71 B (nav (bodyOf f123) [1,1,0,1,0]) Q I [hB b1 (cAccess a0 p3 c2)] [(2,vS p4 ag c3),(4,vP b1 0),(7,vI first),(15,vS p1 p.Arrays c),(16,vI (p.Arrays.length:Int)),(17,vI t17)]:=by
 refine uN.partial_correctness p a0 ag _ fun aI ih first t17 o N B I0 I Q p1 c p3 c2 p4 c3 b1 H h3 h h2 hg ho hx hr=>yO hg ho<|yG [18] rfl<|zZ<|yE N ?_ ?_
 · intro hc N;refine zT<|zZ<|yH<|yF<|bE N fun x hy N=>xL rfl rfl h hy ?_;intro ad aP aq am;obtain ⟨p5,c4,rfl,h4⟩:=wW am;refine xE 0 aq (cArr x p5 c4) (vA (cArr x p5 c4)) rfl<|wS [vT ([]),z0] ?_;intro b2 hb2;refine xJ 0 (cArr x p5 c4) rfl<|yD rfl<|zZ<|yF<|yI [0,1] [25] rfl<|zH<|yE N ?_ ?_
   · intro aH N;refine yF<|rH 2 [0] [(26,vI first),(27,vA (cArr x p5 c4))]<|bE N fun y aA N=>fB (zEd x _ aA h4) ?_;intro I0 le;have ⟨h3,h,h2,H⟩:=m4 le h3 h h2 H;exact yI [] [7] rfl<|zH<|zEM<|jA<|zS<|zH<|zJ<|yI [] [17] rfl<|yM<|kC (zX [1] rfl (by decide))<|nT<|ih (W (first+y)) (W (t17+1)) _ N H h3 h h2 hg ho hx hr
   intro aH N;refine zT<|zZ<|yF<|yI [1,0] [36] rfl<|zH<|yE N ?_ ?_
   · intro aZ N;exact yG [6] rfl<|xD<|zG<|zW<|zG<|zG<|hr _ _ _ _ (zC N).symm H ⟨_,_,(.tmp rfl ResV.nil),zQ,⟨_,rfl,rfl,rfl⟩⟩
   intro aZ N;refine zT<|wP [10] rfl<|zZ<|yF<|yI [1] [38,39,40] rfl<|xY<|kC (zY [0] (ah:=[hB b2 (cArr x p5 c4)]))<|qI [(2,vS p4 ag c3),(7,vI first),(9,vP b2 0),(10,vI 0),(38,vS p3 a0.Subs c2),(39,vI (a0.Subs.length:Int)),(40,vI 0)] ?_;obtain ⟨o0,aD,aM⟩:=zB N;refine zCK a0 ag x 0 0 o0 aD iR h3 h2 h4 (fun _ _ _ h=>hg _ _ _ h) (fun _ _ h=>ho _ _ h) ?_ ?_
   · intro bG at01 heq aJ;subst o0;have H:=H.trans aJ;exact zS<|wP [6] rfl<|xD<|zW<|zG<|zG<|hr _ _ _ _ (zC aM).symm H ⟨_,_,(.tmp rfl ResV.nil),zQ,⟨_,rfl,rfl,rfl⟩⟩
   intro r0 I9 hs9 m9 aY le9 ba;subst aY;exact zW<|zG<|zW<|zG<|zG<|hr _ _ _ _ (zC aM).symm (H.trans le9) ba
 intro hc N;exact wL<|xR zQ<|yN<|hx _  (zC N).symm H
def sN (p:zD) (a0:zL) (ag:(List Int)):Option (Int):=do
 match<-uN p a0 ag 0 0 with
 | .ret r0=>pure r0
 | .done _ =>
  pure (-1)
theorem jE:∀ p a0 ag r,sN p a0 ag=some r->∀ {I:Imm}{p1 c p2 c1 p3 c2 p4 c3},(S4 I p1 p.Arrays c)->(S4 I p2 p.Parts c1)->(S4 I p3 a0.Subs c2)->(S4 I p4 ag c3)->RT 123 [vA (cProg p p1 c p2 c1),vA (cAccess a0 p3 c2),vS p4 ag c3] I [] (yQ  r):=by
 intro p a0 ag r N I p1 c p2 c1 p3 c2 p4 c3 h h1 h2 h3;unfold sN at N;refine yK func123 fun B=>yF<|tT (cProg p p1 c p2 c1) ?_;intro b hb;refine tT (cAccess a0 p3 c2) ?_;intro b1 hb1;refine wI [] []<|wP [7] rfl<|zZ<|yF<|yI [1] [15,16,17] rfl<|xY<|kC (zY [0] (ah:=[hB b1 (cAccess a0 p3 c2)]))<|qI [(2,vS p4 ag c3),(4,vP b1 0),(7,vI 0),(15,vS p1 p.Arrays c),(16,vI (p.Arrays.length:Int)),(17,vI 0)] ?_;obtain ⟨aQ,aB,hMl1⟩:=zB N;refine zCL p a0 ag 0 0 aQ aB iR h3 h h2 (fun _ _ _ h=>h) (fun _ _ h=>h) ?_ ?_
 · intro bL  heq1 bd;subst aQ;refine zS<|wP [6] rfl<|zH<|yY ?_;obtain rfl:=zC hMl1;exact wF
 intro r0 I9 hs9 m9 aY le9 ba;subst aY;refine zW<|zG ?_;obtain rfl:=zC hMl1;exact xA ba
def qX (bh:List HA) (r:Int):KT:=fun kk I' ah v=>
  ∃ v0,bh=ah/\v=tupV [v0]/\v0=.int .i64 r
def xH (s:(List zL)) (f0:(zL->Option Bool)) (t8:Int):Option (Out Unit (Int)):=do
 if (decide (t8<(s.length:Int))) then
  let x<-idx s t8
  let y<-f0 x
  if y then
   pure (.ret t8)
  else
   xH s f0 (W (t8+1))
 else
  pure (.done ())
 partial_fixpoint
theorem jR (s:(List zL)) (f0:(zL->Option Bool)):∀ (t8:Int) (o:Out Unit (Int)),xH s f0 t8=some o->∀ {B}{I0 I:Imm}{Q p c}{fv:Value}{bh:List HA},I0.le I->(S4 I p s c)->(FV1 Tryz.prog I bh fv f0)->NG Q->NO Q->(∀ (I':Imm) ,o=(.done ())->I0.le I'->T 19 B Q (.exit 0) I' bh [])->(∀ r I' ah m',o=(.ret r)->I0.le I'->RS Tryz.prog f168 B (qX bh r) I' ah m'->T 19 B Q .ret I' ah m')->J Tryz.prog 19 B (nav (bodyOf f168) [1,0,1,0]) Q I bh [(0,vS p s c),(1,fv),(7,vI (s.length:Int)),(8,vI t8)]:=by
 refine xH.partial_correctness s f0 _ fun aI ih t8 o N B I0 I Q p c fv bh H h h1 hg ho hx hr=>yO hg ho<|yG [9] rfl<|zZ<|yE N ?_ ?_
 · intro hc N;refine zT<|zZ<|yH<|yG [5] rfl<|yV<|yC 3 [] [11,12,13] rfl<|bE N fun x hy N=>xL rfl rfl h hy ?_;intro ad aP aq am;obtain ⟨p1,c1,rfl,h2⟩:=nY am;refine xE 0 aq (cAccess x p1 c1) (vA (cAccess x p1 c1)) rfl<|bE N fun y aA N=>zK1 rfl rfl h1 aA ⟨_,rfl,(kD ⟨_,rfl,h2⟩)⟩ (cy _).symm ?_;rintro I0 v01 le rfl;refine wK (ah:=bh) (cy _) ?_;have ⟨h,h1,H⟩:=m3 le h h1 H;refine yD rfl<|zH<|yE N ?_ ?_
   · intro aH N;exact yG [4] rfl<|xD<|zW<|zG<|zG<|hr _ _ _ _ (zC N).symm H ⟨_,_,(.tmp rfl ResV.nil),(fun _ h=>h),⟨_,rfl,rfl,rfl⟩⟩
   intro aH N;exact zT<|zN<|zH<|zJ<|yI [] [8] rfl<|yM<|nT<|ih (W (t8+1)) _ N H h h1 hg ho hx hr
 intro hc N;exact wL<|yN<|hx _  (zC N).symm H
def vK (s:(List zL)) (f0:(zL->Option Bool)):Option (Int):=do
 match<-xH s f0 0 with
 | .ret r0=>pure r0
 | .done _ =>
  pure (-1)
theorem gN:∀ s f0 r,vK s f0=some r->∀ {I:Imm}{p c}{fv:Value}{bh:List HA},(S4 I p s c)->(FV1 Tryz.prog I bh fv f0)->RT 168 [vS p s c,fv] I bh (qX bh r):=by
 intro s f0 r N I p c fv bh h h1;unfold vK at N;refine yK func168 fun B=>wQ []<|zZ<|yG [7,8] rfl<|xY<|qI [(0,vS p s c),(1,fv),(7,vI (s.length:Int)),(8,vI 0)] ?_;obtain ⟨o0,aD,aM⟩:=zB N;refine jR s f0 0 o0 aD iR h h1 (fun _ _ _ h=>h) (fun _ _ h=>h) ?_ ?_
 · intro aW  heq ae;subst o0;refine zS<|wP [4] rfl<|zH<|yY ?_;obtain rfl:=zC aM;exact xA ⟨_,_,(.tmp rfl ResV.nil),(fun _ h=>h),⟨_,rfl,rfl,rfl⟩⟩
 intro r0 I9 hs9 m9 aY le9 ba;subst aY;refine zW<|zG ?_;obtain rfl:=zC aM;exact xA ba
def kR (bh:List HA) (r:Bool):KT:=fun kk I' ah v=>
  ∃ v0,bh=ah/\v=tupV [v0]/\v0=.bool r
def xX (s:(List zL)) (f0:(zL->Option Bool)):Option (Bool):=do
 let y<-vK s f0
 pure (decide (y>=0))
theorem jS:∀ s f0 r,xX s f0=some r->∀ {I:Imm}{p c}{fv:Value}{bh:List HA},(S4 I p s c)->(FV1 Tryz.prog I bh fv f0)->RT 124 [vS p s c,fv] I bh (kR bh r):=by
 intro s f0 r N I p c fv bh h h1;unfold xX at N;refine yK func124 fun B=>wQ []<|yV<|yC 2 [] [5,6] rfl<|bE N fun y hy N=>zFx (hs1:=bh) (rest:=[]) rfl rfl rfl rfl (by kernel_rfl) rfl (cy _).symm (gN s f0 _ hy h h1) ?_;rintro I0 ay v2 k2 le - ⟨v0,rfl,rfl,rfl⟩ -;refine wK (ah:=bh) (cy _) ?_;refine yI [] [4] rfl<|zH<|yY ?_;obtain rfl:=zC N;exact xA ⟨_,_,(.tmp rfl ResV.nil),(fun _ h=>h),⟨_,rfl,rfl,rfl⟩⟩
def zCm (r:(List zL)):KT:=fun kk I' ah v=>
  ∃ v0,ah=[]/\v=tupV [v0]/\SL I' v0 r
mutual
def jF (e0:zI):Option ((List zL)):=do
 if (e0.Kind==3) then
  pure ([e0.Read]:List zL)
 else
  let aj<-mN (same e0) ([]:List zL) (same 0)
  pure (id aj)
 partial_fixpoint
def mN (e0:zI) (out:List zL) (t15:Int):Option (List zL):=do
 if (decide (t15<(e0.Kids.length:Int))) then
  let x<-idx e0.Kids t15
  let y<-jF (same x)
  let au<-app 40 out y
  mN (same e0) (same au) (W (t15+1))
 else
  pure (id out)
 partial_fixpoint
end
theorem zIA:(∀ (e0:zI) r,jF e0=some r->∀ {I:Imm}{p c p1 c1 p2 c2},(S4 I p e0.Index.Coefs c)->(S4 I p1 e0.Read.Subs c1)->(S4 I p2 e0.Kids c2)->RT 125 [vA (cExpr e0 p c p1 c1 p2 c2)] I [] (zCm  r))/\(∀ (e0:zI) (out:List zL) (t15:Int) o,mN e0 out t15=some o->∀ {B}{I0 I:Imm}{Q p2 c2 p3 c3 cs},I0.le I->(S4 I p2 e0.Kids c2)->(RL I cs out)->NG Q->NO Q->(∀ (I':Imm) (aj:List zL) (p4:Option Addr) (c4:Nat) (az:List Value),o=aj->I0.le I'->(RL I' az aj)->T 25 B Q (.exit 0) I' [hO zL (vS p4 aj c4) az] [(3,vS p4 aj c4)])->J Tryz.prog 25 B (nav (bodyOf f125) [1,1,1,0,1,0]) Q I [hO zL (vS p3 out c3) cs] [(3,vS p3 out c3),(13,vS p2 e0.Kids c2),(14,vI (e0.Kids.length:Int)),(15,vI t15)]):=by
  refine jF.mutual_partial_correctness _ _ ?_ ?_
  · intro F_impl_reads_l1 ih_impl_reads_l1 e0 r N I p c p1 c1 p2 c2 h h1 h2;refine yK func125 fun B=>yF<|tT (cExpr e0 p c p1 c1 p2 c2) ?_;intro b hb;refine wI [] []<|zZ<|yF<|yI [0] [8] rfl<|zH<|yE N ?_ ?_
    · intro hc N;refine yF<|rH 2 [0] [(10,vA (cAccess e0.Read p1 c1))]<|uO (cAccess e0.Read p1 c1) zL ?_;intro b1 hb1;have h3:RL I (cAccess e0.Read p1 c1) ([e0.Read]:List zL):=⟨(cAccess e0.Read p1 c1),_,rfl,rfl,(kD ⟨_,rfl,h1⟩),rfl⟩;refine yI [] [2] rfl<|xD<|zG<|yX 0 rfl ?_;intro I0 le hl0;have h4:=SL.of_frozen hl0 le h3;obtain rfl:=zC N;exact xA ⟨_,_,(.tmp rfl ResV.nil),zQ,⟨_,rfl,rfl,h4⟩⟩
    intro hc N;refine zT<|zFB [(3,z0)]<|zZ<|yF<|yI [0] [13,14,15] rfl<|xY<|kC (zY [] (ah:=[]))<|qI [(3,z0),(13,vS p2 e0.Kids c2),(14,vI (e0.Kids.length:Int)),(15,vI 0)]<|zAM zL fun h5=>?_;obtain ⟨o0,aD,aM⟩:=zB N;refine ih_impl_reads_l1 e0 ([]:List zL) 0 o0 aD iR h2 h5 (fun _ _ _ h=>h) (fun _ _ h=>h) ?_;intro aX aj p4 c4 az heq aF h7;subst o0;refine zS<|wP [2] rfl<|xD<|yX 0 rfl ?_;intro bG aJ hl01;have h13:=SL.of_frozen hl01 aJ h7;obtain rfl:=zC aM;exact xA ⟨_,_,(.tmp rfl ResV.nil),zQ,⟨_,rfl,rfl,h13⟩⟩
  intro F_impl_reads F_impl_reads_l1 ih_impl_reads ih_impl_reads_l1 e0 out t15 o N B I0 I Q p2 c2 p3 c3 cs H h2 h6 hg ho hx;refine yO hg ho<|yG [16] rfl<|zZ<|yE N ?_ ?_
  · intro aH N;refine zT<|zZ<|yH<|yF<|bE N fun x hy N=>xL rfl rfl h2 hy ?_;intro ad aP aq am;obtain ⟨p5,c5,p6,c6,p7,c7,rfl,h8,h9,h10⟩:=tX am;refine xE 0 aq (cExpr x p5 c5 p6 c6 p7 c7) (vA (cExpr x p5 c5 p6 c6 p7 c7)) rfl<|wS zExpr ?_;intro b2 hb2;refine xJ 0 (cExpr x p5 c5 p6 c6 p7 c7) rfl<|yD rfl<|zH<|zJ<|rH 2 [0] [(19,vS p3 out c3),(20,vA (cExpr x p5 c5 p6 c6 p7 c7))]<|bE N fun y aA N=>xM (ih_impl_reads x _ aA h8 h9 h10) ?_;rintro aW ay v2 k2 ae - ⟨v03,rfl,rfl,h11⟩ -;have ⟨h2,h6,H⟩:=m3 ae h2 h6 H;obtain ⟨p8,c8,rfl⟩:=h11.form;obtain ⟨bv,k0,k01⟩:=h11;have h11:SL aW (vS p8 y c8) y:=⟨_,k0,k01⟩;obtain ⟨au,aK,N⟩:=zB N;exact sO 93 2 1 rfl rfl rfl h6 (.inl k0) k01 aK fun p9 c9 aR h12=>sE (zY [0,1] (ah:=[hB b2 (cExpr x p5 c5 p6 c6 p7 c7),hO zL (vS p9 au c9) aR]))<|yI [] [3] rfl<|zN<|zH<|zJ<|yI [] [15] rfl<|yM<|kC (zX [1] rfl (by decide))<|nT<|ih_impl_reads_l1 e0 au (W (t15+1)) _ N H h2 h12 hg ho hx
  intro aH N;exact wL<|yN<|hx _ _ _ _ _ (zC N).symm H h6
theorem zEJ:∀ e0 r,jF e0=some r->∀ {I:Imm}{p c p1 c1 p2 c2},(S4 I p e0.Index.Coefs c)->(S4 I p1 e0.Read.Subs c1)->(S4 I p2 e0.Kids c2)->RT 125 [vA (cExpr e0 p c p1 c1 p2 c2)] I [] (zCm  r):=zIA.1
def tK (a0:zL) (x:zD) (x1:(List Int)):Option (Bool):=do
 let y<-sN x a0 x1
 pure (decide (y<0))
theorem zBj:∀ a0 x x1 r,tK a0 x x1=some r->∀ {I:Imm}{p c}{ad:Addr}{p1 c1 p2 c2}{ad1:Addr}{p3 c3},(S4 I p a0.Subs c)->(S4 I p1 x.Arrays c1)->(S4 I p2 x.Parts c2)->(At I ad (cProg x p1 c1 p2 c2))->(S4 I p3 x1 c3)->(At I ad1 [vS p3 x1 c3])->RT 126 [vA (cAccess a0 p c),.pointer (some ad),.pointer (some ad1)] I [] (zU  r):=by
 intro a0 x x1 r N I p c ad p1 c1 p2 c2 ad1 p3 c3 h h1 h2 aq h3 av;unfold tK at N;refine yK func126 fun B=>yF<|tT (cAccess a0 p c) ?_;intro b hb;refine wI [] []<|yV<|xE 0 aq (cProg x p1 c1 p2 c2) (vA (cProg x p1 c1 p2 c2)) rfl<|rH 2 [0] [(6,vA (cAccess a0 p c))]<|xE 0 av [vS p3 x1 c3] (vS p3 x1 c3) rfl<|bE N fun y hy N=>fB (jE x a0 x1 _ hy h1 h2 h h3) fun I0 le=>wI [] [(4,.bool (decide (y<0)))]<|zH<|yY ?_;obtain rfl:=zC N;exact wF
def oU (p:zD) (s:zP) (ag:(List Int)):Option (Bool):=do
 let t6<-(do
   let y<-sN p s.Write ag
   if (decide (y>=0)) then
    let y1<-jF s.Value
    let y2<-xX y1 (fun x0=>tK x0 p ag)
    pure (!y2)
   else
    pure false
     : Option Bool)
 pure (id t6)
theorem zC3:∀ p s ag r,oU p s ag=some r->∀ {I:Imm}{p1 c p2 c1 p3 c2 p4 c3 p5 c4 p6 c5 p7 c6},(S4 I p1 p.Arrays c)->(S4 I p2 p.Parts c1)->(S4 I p3 s.Write.Subs c2)->(S4 I p4 s.Value.Index.Coefs c3)->(S4 I p5 s.Value.Read.Subs c4)->(S4 I p6 s.Value.Kids c5)->(S4 I p7 ag c6)->RT 83 [vA (cProg p p1 c p2 c1),vA (cStmt s p3 c2 p4 c3 p5 c4 p6 c5),vS p7 ag c6] I [] (zU  r):=by
 intro p s ag r N I p1 c p2 c1 p3 c2 p4 c3 p5 c4 p6 c5 p7 c6 h h1 h2 h3 h4 h5 h6;unfold oU at N;refine yK func83 fun B=>?_;have H:=iS I;refine yF<|tT (cProg p p1 c p2 c1) ?_;intro b hb;refine xI 0 rfl ?_;intro I0 le hl0;have aq:At I0 ⟨b,0,none⟩ (cProg p p1 c p2 c1):=At.of_blk hl0;have ⟨h,h1,h2,h3,h4,h5⟩:=m6 le h h1 h2 h3 h4 h5;have ⟨h6,H⟩:=m2 le h6 H;refine tT (cStmt s p3 c2 p4 c3 p5 c4 p6 c5) ?_;intro b1 hb1;refine tT [vS p7 ag c6] ?_;intro b2 hb2;refine xI 0 rfl ?_;intro aW ae hl01;have av:At aW ⟨b2,0,none⟩ [vS p7 ag c6]:=At.of_blk hl01;have ⟨h,h1,h2,h3,h4,h5⟩:=m6 ae h h1 h2 h3 h4 h5;have ⟨h6,aq,H⟩:=m3 ae h6 aq H;refine wI [] []<|zH<|yB ?_;refine wR N [] (fun t6=>[(6,.bool t6)]) (fun o0 aD=>?_) ?_
 · have H:=iS aW;refine zJ<|xE 0 aq (cProg p p1 c p2 c1) (vA (cProg p p1 c p2 c1)) rfl<|rH 3 [0] [(9,vA (cAccess s.Write p3 c2))]<|xE 0 av [vS p7 ag c6] (vS p7 ag c6) rfl ?_;obtain ⟨y,hy,N⟩:=zB aD;refine fB (jE p s.Write ag _ hy h h1 h2 h6) ?_;intro bG aF;have ⟨h,h1,aq,h6,av,h3⟩:=m6 aF h h1 aq h6 av h3;have ⟨h4,h5,H⟩:=m3 aF h4 h5 H;refine yC 7 [] [13] rfl<|xW [13] N ?_ ?_
   · intro hc N;refine rH 9 [0] [(15,vA (cExpr s.Value p4 c3 p5 c4 p6 c5))]<|bE N fun y1 aA N=>xM (zEJ s.Value _ aA h3 h4 h5) ?_;rintro bL ay v2 k2 aJ - ⟨v01,rfl,rfl,h8⟩ -;have ⟨h,h1,aq,h6,av,H⟩:=m6 aJ h h1 aq h6 av H;obtain ⟨p8,c7,rfl⟩:=h8.form;refine yC 11 [] [17] rfl ?_;have hf0:FV1 Tryz.prog bL [] (.func (.func 126) ⟨[]⟩ ⟨[vP b 0,vP b2 0]⟩) (fun x0=>tK x0 p ag):=by
       refine FV1.intro ?_;intro I1 ae x0 r u0 hF k0;obtain ⟨_,rfl,k0⟩:=k0;obtain ⟨p9,c8,rfl,h9⟩:=nY k0;exact (zBj x0 p ag r hF h9 (h.mono ae) (h1.mono ae) (aq.mono ae) (h6.mono ae) (av.mono ae)).mono (by rintro k i hs u ⟨v0,rfl,rfl,h⟩; exact ⟨rfl,h⟩)
     obtain ⟨y2,aK,N⟩:=zB N;refine xM (jS y1 (fun x0=>tK x0 p ag) _ aK h8 hf0) ?_;rintro bR ay v2 k2 bd - ⟨v03,rfl,rfl,rfl⟩ -;have H:=H.trans bd;exact yI [] [6] rfl<|xR zQ<|yN<|zV (ct N H)
   intro hc N;exact wI [] [(6,vF)]<|xR zQ<|yN<|zV (ct N H)
 intro t6 aX bw aV;refine zH<|yY ?_;obtain rfl:=zC aV;exact wF
def pO (r:(List zK)×Bool):KT:=fun kk I' ah v=>
  ∃ v0 v1,ah=[]/\v=tupV [v0,v1]/\SL I' v0 r.1/\v1=.bool r.2
def vL (p:zD) (t26:Int) (x:zO) (x1:(List Int)) (bo:List zK) (t64:Int):Option (Out (List zK) ((List zK)×Bool)):=do
 if (decide (t64<(x.Body.length:Int))) then
  let x2<-idx x.Body t64
  let y7<-oU p x2 x1
  if (!y7) then
   pure (.ret (([]:List zK),false))
  else
   let y8<-rS x1
   let out6<-app 40 bo ([(zK.mk t26 t64 y8)]:List zK)
   vL p t26 x x1 out6 (W (t64+1))
 else
  pure (.done bo)
 partial_fixpoint
theorem zA9 (p:zD) (t26:Int) (x:zO) (x1:(List Int)):∀ (bo:List zK) (t64:Int) (o:Out (List zK) ((List zK)×Bool)),vL p t26 x x1 bo t64=some o->∀ {B}{I0 I:Imm}{Q}{y2:(List (List Int))}{t54:Int}{p1 c p2 c1}{b:Nat}{p5 c4 p6 c5}{b1:Nat}{p7 c6 p14 bz p15 c14 bB},I0.le I->(S4 I p5 x.Nest c4)->(S4 I p6 x.Body c5)->(At I ⟨b1,0,none⟩ (cPart x p5 c4 p6 c5))->(S4 I p14 x1 bz)->(S4 I p2 p.Parts c1)->(S4 I p7 y2 c6)->(S4 I p1 p.Arrays c)->(RL I bB bo)->NG Q->NO Q->(∀ (I':Imm) (out5:List zK) (p16:Option Addr) (c15:Nat) (bI:List Value),o=(.done out5)->I0.le I'->(RL I' bI out5)->T 89 B Q (.exit 4) I' [hO zK (vS p16 out5 c15) bI,hB b (cProg p p1 c p2 c1)] [(1,vP b 0),(4,vS p16 out5 c15),(5,vI t26),(6,vP b1 0),(24,vS p2 p.Parts c1),(25,vI (p.Parts.length:Int)),(26,vI t26),(52,vS p7 y2 c6),(53,vI (y2.length:Int)),(54,vI t54)])->(∀ r I' ah m',o=(.ret r)->I0.le I'->RS Tryz.prog f41 B (pO  r) I' ah m'->T 89 B Q .ret I' ah m')->J Tryz.prog 89 B (nav (bodyOf f41) [1,1,1,0,1,0,0,1,1,0,0,1,1,1,1,0,0,1,1,0,0,1,1,1,0]) Q I [hO zK (vS p15 bo c14) bB,hB b (cProg p p1 c p2 c1)] [(1,vP b 0),(4,vS p15 bo c14),(5,vI t26),(6,vP b1 0),(10,vS p14 x1 bz),(24,vS p2 p.Parts c1),(25,vI (p.Parts.length:Int)),(26,vI t26),(52,vS p7 y2 c6),(53,vI (y2.length:Int)),(54,vI t54),(62,vS p6 x.Body c5),(63,vI (x.Body.length:Int)),(64,vI t64)]:=by
 refine vL.partial_correctness p t26 x x1 _ fun aI ih bo t64 o N B I0 I Q y2 t54 p1 c p2 c1 b p5 c4 p6 c5 b1 p7 c6 p14 bz p15 c14 bB H h6 h7 av h18 h1 h8 h h20 hg ho hx hr=>yO hg ho<|yG [65] rfl<|zZ<|yE N ?_ ?_
 · intro hc8 N;refine zT<|zZ<|yH<|yF<|yC 1 [] [66] rfl<|bE N fun x2 hy7 N=>xL rfl rfl h7 hy7 ?_;intro ad2 bP hat3 bk;obtain ⟨p17,c16,p18,c17,p19,c18,p20,c19,rfl,h22,h23,h24,h25⟩:=pQ bk;refine xE 0 hat3 (cStmt x2 p17 c16 p18 c17 p19 c18 p20 c19) (vA (cStmt x2 p17 c16 p18 c17 p19 c18 p20 c19)) rfl<|wS [vT ([]),z0,vI 0,vI 0,z0,vI 0,vT ([]),z0,z0] ?_;intro b2 hb2;refine yC 5 [] [11] rfl<|xJ 0 (cStmt x2 p17 c16 p18 c17 p19 c18 p20 c19) rfl<|yD rfl<|zZ<|yF<|rH 3 [2,0] [(69,vA (cProg p p1 c p2 c1)),(70,vA (cStmt x2 p17 c16 p18 c17 p19 c18 p20 c19)),(71,vS p14 x1 bz)]<|bE N fun y7 hy8 N=>vU (zC3 p x2 x1 _ hy8 h h1 h22 h23 h24 h25 h18) ?_;intro I08 le8;have ⟨h20,h6,h7,av,h18,h1⟩:=m6 le8 h20 h6 h7 av h18 h1;have ⟨h8,h,H⟩:=m3 le8 h8 h H;refine yI [] [73] rfl<|zH<|yE N ?_ ?_
   · intro hc9 N;exact yG [2,3] rfl<|xD<|zG<|zW<|zG<|zG<|hr _ _ _ _ (zC N).symm H ⟨_,_,(.tmp rfl (.tmp rfl ResV.nil)),zQ,⟨_,_,rfl,rfl,(SL.nil _),rfl⟩⟩
   intro hc9 N;refine zT<|zH<|zJ<|yC 4 [] [74,75,76,77] rfl<|bE N fun y8 hy9 N=>xM (gD x1 _ hy9 h18) ?_;rintro I09 ay v2 k2 le9 - ⟨p21,c20,cs6,rfl,rfl,h27⟩ -;have ⟨h6,h7,av,h18,h1,h8⟩:=m6 le9 h6 h7 av h18 h1 h8;have ⟨h20,h,H⟩:=m3 le9 h20 h H;refine yC 6 [] [79] rfl<|xI 0 rfl ?_;intro bS le10 hl01;have h28:=SL.of_frozen hl01 le10 h27;have ⟨h6,h7,av,h18,h1,h8⟩:=m6 le10 h6 h7 av h18 h1 h8;have ⟨h20,h,H⟩:=m3 le10 h20 h H;refine uO [vI t26,vI t64,vS p21 y8 c20] zK ?_;intro b3 hb3;have h29:RL bS [vI t26,vI t64,vS p21 y8 c20] ([(zK.mk t26 t64 y8)]:List zK):=⟨[vI t26,vI t64,vS p21 y8 c20],_,rfl,rfl,(zAu ⟨_,rfl,h28⟩),rfl⟩;obtain ⟨out6,hy10,N⟩:=zB N;exact sO 86 3 2 rfl rfl rfl h20 (.inr ⟨0,rfl⟩) h29 hy10 fun p22 c21 cs7 h30=>sE (zY [1,2,3] (ah:=[hB b2 (cStmt x2 p17 c16 p18 c17 p19 c18 p20 c19),hO zK (vS p22 out6 c21) cs7,hB b (cProg p p1 c p2 c1)]))<|yI [] [4] rfl<|zN<|zH<|zJ<|yI [] [64] rfl<|yM<|kC (zX [1,2] rfl (by decide))<|nT<|ih out6 (W (t64+1)) _ N H h6 h7 av h18 h1 h8 h h30 hg ho hx hr
 intro hc8 N;exact wL<|yN<|hx _ _ _ _ _ (zC N).symm H h20
def vM (p:zD) (t26:Int) (x:zO) (y2:(List (List Int))) (au:List zK) (t54:Int):Option (Out (List zK) ((List zK)×Bool)):=do
 if (decide (t54<(y2.length:Int))) then
  let x1<-idx y2 t54
  let y6<-eG x1
  if (!y6) then
   pure (.ret (([]:List zK),false))
  else
   match<-vL p t26 x x1 au 0 with
   | .ret r0=>pure (.ret r0)
   | .done out5 =>
    vM p t26 x y2 out5 (W (t54+1))
 else
  pure (.done au)
 partial_fixpoint
theorem zAa (p:zD) (t26:Int) (x:zO) (y2:(List (List Int))):∀ (au:List zK) (t54:Int) (o:Out (List zK) ((List zK)×Bool)),vM p t26 x y2 au t54=some o->∀ {B}{I0 I:Imm}{Q p1 c p2 c1}{b:Nat}{p5 c4 p6 c5}{b1:Nat}{p7 c6 bD bf aR},I0.le I->(S4 I p5 x.Nest c4)->(S4 I p6 x.Body c5)->(At I ⟨b1,0,none⟩ (cPart x p5 c4 p6 c5))->(S4 I p2 p.Parts c1)->(S4 I p7 y2 c6)->(S4 I p1 p.Arrays c)->(RL I aR au)->NG Q->NO Q->(∀ (I':Imm) (aN:List zK) (bt:Option Addr) (br:Nat) (aS:List Value),o=(.done aN)->I0.le I'->(RL I' aS aN)->T 89 B Q (.exit 2) I' [hO zK (vS bt aN br) aS,hB b (cProg p p1 c p2 c1)] [(1,vP b 0),(4,vS bt aN br),(24,vS p2 p.Parts c1),(25,vI (p.Parts.length:Int)),(26,vI t26)])->(∀ r I' ah m',o=(.ret r)->I0.le I'->RS Tryz.prog f41 B (pO  r) I' ah m'->T 89 B Q .ret I' ah m')->J Tryz.prog 89 B (nav (bodyOf f41) [1,1,1,0,1,0,0,1,1,0,0,1,1,1,1,0]) Q I [hO zK (vS bD au bf) aR,hB b (cProg p p1 c p2 c1)] [(1,vP b 0),(4,vS bD au bf),(5,vI t26),(6,vP b1 0),(24,vS p2 p.Parts c1),(25,vI (p.Parts.length:Int)),(26,vI t26),(52,vS p7 y2 c6),(53,vI (y2.length:Int)),(54,vI t54)]:=by
 refine vM.partial_correctness p t26 x y2 _ fun aI ih au t54 o N B I0 I Q p1 c p2 c1 b p5 c4 p6 c5 b1 p7 c6 bD bf aR H h6 h7 av h1 h8 h h16 hg ho hx hr=>yO hg ho<|yG [55] rfl<|zZ<|yE N ?_ ?_
 · intro hc6 N;refine zT<|zZ<|yH<|yF<|bE N fun x1 bJ N=>xL rfl rfl h8 bJ ?_;intro ad1 bv bb ax;obtain ⟨v011,rfl,h18⟩:=ax;obtain ⟨p14,bz,rfl⟩:=h18.form;refine xE 0 bb [vS p14 x1 bz] (vS p14 x1 bz) rfl<|yI [] [10] rfl<|zZ<|yF<|yC 1 [] [58] rfl<|bE N fun y6 hy6 N=>vU (zHH x1 _ hy6 h18) ?_;intro I07 le7;have ⟨h16,h6,h7,av,h18,h1⟩:=m6 le7 h16 h6 h7 av h18 h1;have ⟨h8,h,H⟩:=m3 le7 h8 h H;refine yI [] [60] rfl<|zH<|yE N ?_ ?_
   · intro hc7 N;exact yG [2,3] rfl<|xD<|zG<|zW<|zG<|zG<|hr _ _ _ _ (zC N).symm H ⟨_,_,(.tmp rfl (.tmp rfl ResV.nil)),zQ,⟨_,_,rfl,rfl,(SL.nil _),rfl⟩⟩
   intro hc7 N;refine zT<|yV<|yC 1 [] [61] rfl<|xE 1 av [vS p6 x.Body c5] (vS p6 x.Body c5) rfl<|yI [] [63,64] rfl<|xY<|qI [(1,vP b 0),(4,vS bD au bf),(5,vI t26),(6,vP b1 0),(10,vS p14 x1 bz),(24,vS p2 p.Parts c1),(25,vI (p.Parts.length:Int)),(26,vI t26),(52,vS p7 y2 c6),(53,vI (y2.length:Int)),(54,vI t54),(62,vS p6 x.Body c5),(63,vI (x.Body.length:Int)),(64,vI 0)] ?_;obtain ⟨o02,ho02,aM⟩:=zB N;refine zA9 p t26 x x1 au 0 o02 ho02 iR h6 h7 av h18 h1 h8 h h16 (fun _ _ _ h=>hg _ _ _ h) (fun _ _ h=>ho _ _ h) ?_ ?_
   · intro bY out5 p16 c15 bI heq2 le11 h21;subst o02;have ⟨h6,h7,av,h1,h8,h⟩:=m6 le11 h6 h7 av h1 h8 h;have H:=H.trans le11;exact zS<|zN<|zH<|zJ<|yI [] [54] rfl<|yM<|nT<|ih out5 (W (t54+1)) _ aM H h6 h7 av h1 h8 h h21 hg ho hx hr
   intro r0 I9 hs9 m9 aY le9 ba;subst aY;exact zW<|zW<|zG<|zG<|hr _ _ _ _ (zC aM).symm (H.trans le9) ba
 intro hc6 N;exact wL<|yN<|hx _ _ _ _ _ (zC N).symm H h16
def vO (p:zD) (out:List zK) (t26:Int):Option (Out (List zK) ((List zK)×Bool)):=do
 if (decide (t26<(p.Parts.length:Int))) then
  let x<-idx p.Parts t26
  let (y2,y3)<-jC x.Nest
  let t51<-(do
    if (!y3) then
     pure true
    else
     let y4<-wC (x.Body.length:Int) 1 4
     if (!y4) then
      pure true
     else
      let y5<-wH x.Body (fun x0=>vZ x0 x)
      pure (id y5)
      : Option Bool)
  if t51 then
   pure (.ret (([]:List zK),false))
  else
   match<-vM p t26 x y2 out 0 with
   | .ret r0=>pure (.ret r0)
   | .done aN =>
    vO p aN (W (t26+1))
 else
  pure (.done out)
 partial_fixpoint
theorem zAb (p:zD):∀ (out:List zK) (t26:Int) (o:Out (List zK) ((List zK)×Bool)),vO p out t26=some o->∀ {B}{I0 I:Imm}{Q p1 c p2 c1}{b:Nat}{p3 c2 cs},I0.le I->(S4 I p2 p.Parts c1)->(S4 I p1 p.Arrays c)->(RL I cs out)->NG Q->NO Q->(∀ (I':Imm) (aj:List zK) (p4:Option Addr) (c3:Nat) (az:List Value),o=(.done aj)->I0.le I'->(RL I' az aj)->T 89 B Q (.exit 0) I' [hO zK (vS p4 aj c3) az] [(4,vS p4 aj c3)])->(∀ r I' ah m',o=(.ret r)->I0.le I'->RS Tryz.prog f41 B (pO  r) I' ah m'->T 89 B Q .ret I' ah m')->J Tryz.prog 89 B (nav (bodyOf f41) [1,1,1,0,1,0]) Q I [hO zK (vS p3 out c2) cs,hB b (cProg p p1 c p2 c1)] [(1,vP b 0),(4,vS p3 out c2),(24,vS p2 p.Parts c1),(25,vI (p.Parts.length:Int)),(26,vI t26)]:=by
 refine vO.partial_correctness p _ fun aI ih out t26 o N B I0 I Q p1 c p2 c1 b p3 c2 cs H h1 h h4 hg ho hx hr=>yO hg ho<|yG [27] rfl<|zZ<|yE N ?_ ?_
 · intro aZ N;refine zT<|zZ<|yH<|yF<|yC 1 [] [28] rfl<|bE N fun x aA N=>xL rfl rfl h1 aA ?_;intro ad aP aq am;obtain ⟨p5,c4,p6,c5,rfl,h6,h7⟩:=wU am;refine xE 0 aq (cPart x p5 c4 p6 c5) (vA (cPart x p5 c4 p6 c5)) rfl<|wS zTwo ?_;intro b1 hb1;refine yC 5 [] [5] rfl<|xJ 0 (cPart x p5 c4 p6 c5) rfl<|yD rfl<|yV<|yC 2 [0] [33] rfl ?_;obtain ⟨⟨y2,y3⟩,aK,N⟩:=zB N;refine xM (zEa x.Nest _ aK h6) ?_;rintro aX ay v2 k2 aF - ⟨v03,v04,rfl,rfl,h8,rfl⟩ -;have ⟨h4,h1,h6,h7,h,H⟩:=m6 aF h4 h1 h6 h7 h H;obtain ⟨p7,c6,rfl⟩:=h8.form;refine yI [] [7,8] rfl<|zZ<|yB<|qK 0 rfl ?_;intro bG aJ hl0;have av:At bG ⟨b1,0,none⟩ (cPart x p5 c4 p6 c5):=At.of_blk hl0;have ⟨h4,h6,h7,h8,h1,h⟩:=m6 aJ h4 h6 h7 h8 h1 h;have H:=H.trans aJ;refine wR N [hO zK (vS p3 out c2) cs,hB b (cProg p p1 c p2 c1)] (fun t51=>[(1,vP b 0),(4,vS p3 out c2),(5,vI t26),(6,vP b1 0),(7,vS p7 y2 c6),(24,vS p2 p.Parts c1),(25,vI (p.Parts.length:Int)),(26,vI t26),(51,.bool t51)]) (fun aQ aB=>?_) ?_
   · have H:=iS bG;refine zJ<|yC 3 [] [39] rfl<|xW [39] aB ?_ ?_
     · intro bK N;exact wI [] [(51,vY)]<|yN<|zV (ct N H)
     intro bK N;refine yC 4 [] [40] rfl<|xE 1 av [vS p6 x.Body c5] (vS p6 x.Body c5) rfl<|yC 6 [] [42] rfl<|bE N fun y4 bi N=>vU (wJ (x.Body.length:Int) 1 4 _ bi ) ?_;intro bR bd;have ⟨h6,h7,av,h,H⟩:=m5 bd h6 h7 av h H;refine yC 10 [] [46] rfl<|xW [46] N ?_ ?_
     · intro bO N;exact wI [] [(51,vY)]<|yN<|zV (ct N H)
     intro bO N;refine yC 11 [] [47] rfl<|xE 1 av [vS p6 x.Body c5] (vS p6 x.Body c5) rfl<|yC 13 [] [49] rfl ?_;have hf0:FV1 Tryz.prog bR [] (.func (.func 80) ⟨[]⟩ ⟨[vP b1 0]⟩) (fun x0=>vZ x0 x):=by
       refine FV1.intro ?_;intro I1 ae x0 r u0 hF k0;obtain ⟨_,rfl,k0⟩:=k0;obtain ⟨p8,c7,p9,c8,bc,c9,aT,bj,rfl,h11,h12,h13,h14⟩:=pQ k0;exact (zAm x0 x r hF h11 h12 h13 h14 (h6.mono ae) (h7.mono ae) (av.mono ae)).mono (by rintro k i hs u ⟨v0,rfl,rfl,h⟩; exact ⟨rfl,h⟩)
     obtain ⟨y5,bu,N⟩:=zB N;refine xM (gX x.Body (fun x0=>vZ x0 x) _ bu h7 hf0) ?_;rintro I06 ay v2 k2 bw - ⟨v010,rfl,rfl,rfl⟩ -;have H:=H.trans bw;exact yI [] [51] rfl<|yN<|zV (ct N H)
   intro t51 bL bC hMc1;have ⟨h4,h6,h7,av,h8,h1⟩:=m6 bC h4 h6 h7 av h8 h1;have ⟨h,H⟩:=m2 bC h H;refine zH<|yE hMc1 ?_ ?_
   · intro hc5 N;exact yG [2,3] rfl<|xD<|zG<|zW<|zG<|zG<|hr _ _ _ _ (zC N).symm H ⟨_,_,(.tmp rfl (.tmp rfl ResV.nil)),zQ,⟨_,_,rfl,rfl,(SL.nil _),rfl⟩⟩
   intro hc5 N;refine zT<|wP [52,53,54] rfl<|xY<|qI [(1,vP b 0),(4,vS p3 out c2),(5,vI t26),(6,vP b1 0),(24,vS p2 p.Parts c1),(25,vI (p.Parts.length:Int)),(26,vI t26),(52,vS p7 y2 c6),(53,vI (y2.length:Int)),(54,vI 0)] ?_;obtain ⟨o03,ho03,hMl1⟩:=zB N;refine zAa p t26 x y2 out 0 o03 ho03 iR h6 h7 av h1 h8 h h4 (fun _ _ _ h=>hg _ _ _ h) (fun _ _ h=>ho _ _ h) ?_ ?_
   · intro bX aN bt br aS heq3 le12 h17;subst o03;have ⟨h1,h,H⟩:=m3 le12 h1 h H;exact zS<|zN<|zH<|zJ<|yI [] [26] rfl<|yM<|nT<|ih aN (W (t26+1)) _ hMl1 H h1 h h17 hg ho hx hr
   intro r0 I9 hs9 m9 aY le9 ba;subst aY;exact zW<|zW<|zG<|zG<|hr _ _ _ _ (zC hMl1).symm (H.trans le9) ba
 intro aZ N;exact wL<|xR (zX [0] rfl (by decide))<|yN<|hx _ _ _ _ _ (zC N).symm H h4
def sK (p:zD):Option ((List zK)×Bool):=do
 let t22<-(do
   let y<-fC p.Arrays
   if (!y) then
    pure true
   else
    pure (decide ((p.Parts.length:Int)>4))
     : Option Bool)
 if t22 then
  pure (([]:List zK),false)
 else
  match<-vO p ([]:List zK) 0 with
  | .ret r0=>pure r0
  | .done aj =>
   pure (aj,(decide ((aj.length:Int)<=120)))
theorem eQ:∀ p r,sK p=some r->∀ {I:Imm}{p1 c p2 c1},(S4 I p1 p.Arrays c)->(S4 I p2 p.Parts c1)->RT 41 [vA (cProg p p1 c p2 c1)] I [] (pO  r):=by
 intro p r N I p1 c p2 c1 h h1;unfold sK at N;refine yK func41 fun B=>?_;have H:=iS I;refine yF<|tT (cProg p p1 c p2 c1) ?_;intro b hb;refine wI [] []<|zZ<|yB ?_;refine wR N [hB b (cProg p p1 c p2 c1)] (fun t22=>[(1,vP b 0),(22,.bool t22)]) (fun o0 aD=>?_) ?_
 · have H:=iS I;refine zJ<|yC 2 [0] [14] rfl ?_;obtain ⟨y,hy,N⟩:=zB aD;refine vU (zG3 p.Arrays _ hy h) ?_;intro aW le;have H:=H.trans le;refine yC 5 [] [17] rfl<|xW [17] N ?_ ?_
   · intro hc N;exact wI [] [(22,vY)]<|yN<|zV (ct N H)
   intro hc N;exact yI [0] [22] rfl<|yN<|zV (ct N H)
 intro t22 I0 ae aV;have ⟨h,h1⟩:=m2 ae h h1;refine zH<|yE aV ?_ ?_
 · intro aH N;refine yG [2,3] rfl<|xD<|zG ?_;obtain rfl:=zC N;exact xA ⟨_,_,(.tmp rfl (.tmp rfl ResV.nil)),zQ,⟨_,_,rfl,rfl,(SL.nil _),rfl⟩⟩
 intro aH N;refine zT<|zFB [(4,z0)]<|zZ<|yF<|yI [0] [24,25,26] rfl<|xY<|qI [(1,vP b 0),(4,z0),(24,vS p2 p.Parts c1),(25,vI (p.Parts.length:Int)),(26,vI 0)]<|zAM zK fun h3=>?_;obtain ⟨o04,ho04,hMl2⟩:=zB N;refine zAb p ([]:List zK) 0 o04 ho04 iR h1 h h3 (fun _ _ _ h=>h) (fun _ _ h=>h) ?_ ?_
 · intro I013 aj p4 c3 az heq4 le13 h5;subst o04;refine zS<|wP [2,3] rfl<|xD<|yX 0 rfl ?_;intro I014 le14 hl02;have h31:=SL.of_frozen hl02 le14 h5;obtain rfl:=zC hMl2;exact xA ⟨_,_,(.tmp rfl (.tmp rfl ResV.nil)),zQ,⟨_,_,rfl,rfl,h31,rfl⟩⟩
 intro r0 I9 hs9 m9 aY le9 ba;subst aY;refine zW<|zG ?_;obtain rfl:=zC hMl2;exact xA ba
def zC4 (r:zP):KT:=fun kk I' ah v=>
  ∃ v0,ah=[]/\v=tupV [v0]/\(∃ cs,v0=.agg ⟨cs⟩/\Rp.rep I' cs r)
def jU (p:zD) (x:zK):Option (zP):=do
 let x1<-idx p.Parts x.Part
 let x2<-idx x1.Body x.Stmt
 pure (id x2)
theorem zDY:∀ p x r,jU p x=some r->∀ {I:Imm}{p1 c p2 c1 p3 c2},(S4 I p1 p.Arrays c)->(S4 I p2 p.Parts c1)->(S4 I p3 x.Point c2)->RT 127 [vA (cProg p p1 c p2 c1),vA (cInst x p3 c2)] I [] (zC4  r):=by
 intro p x r N I p1 c p2 c1 p3 c2 h h1 h2;unfold jU at N;refine yK func127 fun B=>yF<|tT (cProg p p1 c p2 c1) ?_;intro b hb;refine tT (cInst x p3 c2) ?_;intro b1 hb1;refine wS [vT ([]),z0,vI 0,vI 0,z0,vI 0,vT ([]),z0,z0] ?_;intro b2 hb2;refine yD rfl<|zH<|yB ?_;obtain ⟨x1,hy,N⟩:=zB N;obtain ⟨x2,aA,N⟩:=zB N;refine wT [.p (vP b 1) [],.p (vS p2 p.Parts c1) [2],.p (vP b1 0) [],.p (vI x.Part) [1],.x (ePPart x1),.x (eQPart 1 x1),.x (eS x1.Body),.p (vP b1 1) [],.p (vI x.Stmt) [1],.x (ePStmt x2),.x (eVStmt x2)] [[],[(0,false)],[],[(2,false)],[(1,false),(3,false)],[(4,false)],[(5,false)],[],[(7,false)],[(6,false),(8,false)],[(9,false)]] [hB b2 [vT ([]),z0,vI 0,vI 0,z0,vI 0,vT ([]),z0,z0],hB b1 (cInst x p3 c2),hB b (cProg p p1 c p2 c1)] [] [(10,false)] (zY [0,1,2]) ?_ ?_
 · refine Op<|Op<|Op<|Op<|Ox ?_<|Ox ?_<|Ox ?_<|Op<|Op<|Ox ?_<|Ox ?_<|On
   · intro I1 hf ae;refine yW [6,8] rfl ?_;have h1:=h1.mono ae;refine xL rfl rfl h1 hy ?_;intro ad aP aq am;obtain ⟨p4,c3,p5,c4,rfl,h3,h4⟩:=wU am;exact yL [] iR ⟨_,_,_,_,_,rfl,rfl,aq,h3,h4⟩
   · rintro I1 hf ae _ _ ⟨ad,p4,c3,p5,c4,rfl,rfl,aq,h3,h4⟩;exact yW [9] rfl<|mF 6 [(10,.pointer (some (ad.add 1)))]<|yL [] iR ⟨_,_,_,_,_,rfl,rfl,aq,h3,h4⟩
   · rintro I1 hf ae _ _ ⟨ad1,p41,c31,p51,c41,rfl,rfl,av,h31,h41⟩;exact yW [10] rfl<|xE 1 av [vS p51 x1.Body c41] (vS p51 x1.Body c41) rfl<|yL [] iR ⟨_,_,rfl,rfl,h41⟩
   · rintro I1 hf ae _ _ ⟨p511,c411,rfl,rfl,h411⟩;refine yW [11,13] rfl<|xL rfl rfl h411 aA ?_;intro ad2 bv bb ax;obtain ⟨p6,c5,p7,c6,p8,c7,p9,c8,rfl,h5,h6,h7,h8⟩:=pQ ax;exact yL [] iR ⟨_,_,_,_,_,_,_,_,_,rfl,rfl,bb,h5,h6,h7,h8⟩
   rintro I1 hf ae _ _ ⟨ad2,p6,c5,p7,c6,p8,c7,p9,c8,rfl,rfl,bb,h5,h6,h7,h8⟩;exact yW [14] rfl<|xE 0 bb (cStmt x2 p6 c5 p7 c6 p8 c7 p9 c8) (vA (cStmt x2 p6 c5 p7 c6 p8 c7 p9 c8)) rfl<|yL [] iR ⟨_,_,_,_,_,_,_,_,rfl,rfl,h5,h6,h7,h8⟩
 rintro I0 le _ _ ⟨p61,c51,p71,c61,p81,c71,p91,c81,rfl,rfl,h51,h61,h71,h81⟩;refine yW [4,15] rfl ?_;refine xJ 0 (cStmt x2 p61 c51 p71 c61 p81 c71 p91 c81) rfl<|yD rfl<|zH<|yY ?_;obtain rfl:=zC N;exact xA ⟨_,_,(.cell 0 rfl rfl (by kernel_rfl) ResV.nil),zQ,⟨_,rfl,rfl,⟨_,rfl,(vD ⟨_,_,_,_,rfl,h51,h61,h71,h81⟩)⟩⟩⟩
def zBP (r:(List Int)×Int):KT:=fun kk I' ah v=>
  ∃ v0 v1,ah=[]/\v=tupV [v0,v1]/\SL I' v0 r.1/\v1=.int .i64 r.2
def uC (p:zD) (x:zK) (y1:(List zL)) (out:List Int) (t17:Int):Option (List Int):=do
 if (decide (t17<(y1.length:Int))) then
  let x1<-idx y1 t17
  let y2<-sN p x1 x.Point
  let au<-app 8 out ([y2]:List Int)
  uC p x y1 au (W (t17+1))
 else
  pure (id out)
 partial_fixpoint
theorem zBD (p:zD) (x:zK) (y1:(List zL)):∀ (out:List Int) (t17:Int) (o:List Int),uC p x y1 out t17=some o->∀ {B}{I0 I:Imm}{Q}{y:zP}{p1 c p2 c1 p3 c2}{b:Nat}{b1:Nat}{p4 c3 p5 c4 p6 c5 p7 c6}{b2:Nat}{p8 c7 p9 c8 az},I0.le I->(S4 I p8 y1 c7)->(S4 I p4 y.Write.Subs c3)->(S4 I p5 y.Value.Index.Coefs c4)->(S4 I p6 y.Value.Read.Subs c5)->(S4 I p7 y.Value.Kids c6)->(S4 I p3 x.Point c2)->(S4 I p1 p.Arrays c)->(S4 I p2 p.Parts c1)->(RL I az out)->NG Q->NO Q->(∀ (I':Imm) (aj:List Int) (bc:Option Addr) (c9:Nat) (aR:List Value),o=aj->I0.le I'->(RL I' aR aj)->T 37 B Q (.exit 0) I' [hO Int (vS bc aj c9) aR,hB b2 (cStmt y p4 c3 p5 c4 p6 c5 p7 c6),hB b1 (cInst x p3 c2),hB b (cProg p p1 c p2 c1)] [(2,vP b 0),(3,vP b1 0),(6,vP b2 0),(7,vS bc aj c9)])->J Tryz.prog 37 B (nav (bodyOf f85) [1,1,1,0,1,0]) Q I [hO Int (vS p9 out c8) az,hB b2 (cStmt y p4 c3 p5 c4 p6 c5 p7 c6),hB b1 (cInst x p3 c2),hB b (cProg p p1 c p2 c1)] [(2,vP b 0),(3,vP b1 0),(6,vP b2 0),(7,vS p9 out c8),(15,vS p8 y1 c7),(16,vI (y1.length:Int)),(17,vI t17)]:=by
 refine uC.partial_correctness p x y1 _ fun aI ih out t17 o N B I0 I Q y p1 c p2 c1 p3 c2 b b1 p4 c3 p5 c4 p6 c5 p7 c6 b2 p8 c7 p9 c8 az H h8 h4 h5 h6 h7 h2 h h1 h10 hg ho hx=>yO hg ho<|yG [18] rfl<|zZ<|yE N ?_ ?_
 · intro hc N;refine zT<|zZ<|yH<|yF<|bE N fun x1 aK N=>xL rfl rfl h8 aK ?_;intro ad aP aq am;obtain ⟨aT,bj,rfl,h12⟩:=nY am;refine xE 0 aq (cAccess x1 aT bj) (vA (cAccess x1 aT bj)) rfl<|wS [vT ([]),z0] ?_;intro b3 hb3;refine xJ 0 (cAccess x1 aT bj) rfl<|yD rfl<|zH<|zJ<|rH 5 [4,0,3] [(21,vS p9 out c8),(22,vA (cProg p p1 c p2 c1)),(23,vA (cAccess x1 aT bj)),(25,vS p3 x.Point c2)]<|bE N fun y2 bi N=>fB (jE p x1 x.Point _ bi h h1 h12 h2) ?_;intro aX aF;have ⟨h8,h10,h4,h5,h6,h7⟩:=m6 aF h8 h10 h4 h5 h6 h7;have ⟨h2,h,h1,H⟩:=m4 aF h2 h h1 H;refine uO [vI y2] Int ?_;intro b4 hb4;have h14:RL aX [vI y2] ([y2]:List Int):=rI [y2];obtain ⟨au,bu,N⟩:=zB N;exact sO 3 1 2 rfl rfl rfl h10 (.inr ⟨0,rfl⟩) h14 bu fun bD bf aS h15=>sE (zY [1,2,3,4,5] (ah:=[hB b3 (cAccess x1 aT bj),hO Int (vS bD au bf) aS,hB b2 (cStmt y p4 c3 p5 c4 p6 c5 p7 c6),hB b1 (cInst x p3 c2),hB b (cProg p p1 c p2 c1)]))<|yI [] [7] rfl<|zN<|zH<|zJ<|yI [] [17] rfl<|yM<|kC (zX [1,2,3,4] rfl (by decide))<|nT<|ih au (W (t17+1)) _ N H h8 h4 h5 h6 h7 h2 h h1 h15 hg ho hx
 intro hc N;exact wL<|yN<|hx _ _ _ _ _ (zC N).symm H h10
def oC (p:zD) (x:zK):Option ((List Int)×Int):=do
 let y<-jU p x
 let y1<-jF y.Value
 let aj<-uC p x y1 ([]:List Int) 0
 let y3<-sN p y.Write x.Point
 pure (aj,y3)
theorem zCM:∀ p x r,oC p x=some r->∀ {I:Imm}{p1 c p2 c1 p3 c2},(S4 I p1 p.Arrays c)->(S4 I p2 p.Parts c1)->(S4 I p3 x.Point c2)->RT 85 [vA (cProg p p1 c p2 c1),vA (cInst x p3 c2)] I [] (zBP  r):=by
 intro p x r N I p1 c p2 c1 p3 c2 h h1 h2;unfold oC at N;refine yK func85 fun B=>yF<|tT (cProg p p1 c p2 c1) ?_;intro b hb;refine tT (cInst x p3 c2) ?_;intro b1 hb1;refine wI [] []<|yV<|rH 2 [1,0] [(10,vA (cProg p p1 c p2 c1)),(11,vA (cInst x p3 c2))]<|bE N fun y hy N=>xM (zDY p x _ hy h h1 h2) ?_;rintro I0 ay v2 k2 le - ⟨v0,rfl,rfl,⟨cs,rfl,h3⟩⟩ -;have ⟨h2,h,h1⟩:=m3 le h2 h h1;obtain ⟨p4,c3,p5,c4,p6,c5,p7,c6,rfl,h4,h5,h6,h7⟩:=pQ h3;refine wS [vT ([]),z0,vI 0,vI 0,z0,vI 0,vT ([]),z0,z0] ?_;intro b2 hb2;refine xJ 0 (cStmt y p4 c3 p5 c4 p6 c5 p7 c6) rfl<|yD rfl<|zFB [(7,z0)]<|zZ<|yF<|rH 2 [0] [(14,vA (cExpr y.Value p5 c4 p6 c5 p7 c6))]<|bE N fun y1 aA N=>xM (zEJ y.Value _ aA h5 h6 h7) ?_;rintro aW ay v2 k2 ae - ⟨v05,rfl,rfl,h8⟩ -;have ⟨h4,h5,h6,h7,h2,h⟩:=m6 ae h4 h5 h6 h7 h2 h;have h1:=h1.mono ae;obtain ⟨p8,c7,rfl⟩:=h8.form;refine yI [] [16,17] rfl<|xY<|qI [(2,vP b 0),(3,vP b1 0),(6,vP b2 0),(7,z0),(15,vS p8 y1 c7),(16,vI (y1.length:Int)),(17,vI 0)]<|zAM Int fun h9=>?_;obtain ⟨o0,aD,aM⟩:=zB N;refine zBD p x y1 ([]:List Int) 0 o0 aD iR h8 h4 h5 h6 h7 h2 h h1 h9 (fun _ _ _ h=>h) (fun _ _ h=>h) ?_;intro bG aj bc c9 aR heq aJ h11;subst o0;have ⟨h4,h2,h,h1⟩:=m4 aJ h4 h2 h h1;refine zS<|yV<|rH 6 [3,1,2] [(30,vS bc aj c9),(31,vA (cProg p p1 c p2 c1)),(33,vA (cAccess y.Write p4 c3)),(35,vS p3 x.Point c2)] ?_;obtain ⟨y3,bJ,N⟩:=zB aM;refine fB (jE p y.Write x.Point _ bJ h h1 h4 h2) ?_;intro bL bd;have h11:=iM bd h11;refine yI [] [4,5] rfl<|xD<|yX 0 rfl ?_;intro bR bw hl0;have h17:=SL.of_frozen hl0 bw h11;obtain rfl:=zC N;exact xA ⟨_,_,(.tmp rfl (.tmp rfl ResV.nil)),zQ,⟨_,_,rfl,rfl,h17,rfl⟩⟩
def zHI (r:(Option xT)×Bool):KT:=fun kk I' ah v=>
  ∃ v0 v1,ah=[]/\v=tupV [v0,v1]/\FP I' v0 r.1/\v1=.bool r.2
def mO (p:zD) (y1:(List zK)) (t24:Int) (reads:List (List Int)) (writes:List Int):Option ((List (List Int)×List Int)):=do
 if (decide (t24<(y1.length:Int))) then
  let x<-idx y1 t24
  let (y4,y5)<-oC p x
  let l<-app 24 reads ([y4]:List (List Int))
  let l1<-app 8 writes ([y5]:List Int)
  mO p y1 (W (t24+1)) l l1
 else
  pure (reads,writes)
 partial_fixpoint
theorem zG5 (p:zD) (y1:(List zK)):∀ (t24:Int) (reads:List (List Int)) (writes:List Int) (o:(List (List Int)×List Int)),mO p y1 t24 reads writes=some o->∀ {B}{I0 I:Imm}{Q p1 c p2 c1}{b:Nat}{p3 c2}{b1:Nat}{p4 c3 cs p5 c4 az},I0.le I->(S4 I p3 y1 c2)->(S4 I p1 p.Arrays c)->(S4 I p2 p.Parts c1)->(RL I cs reads)->(RL I az writes)->NG Q->NO Q->(∀ (I':Imm) (reads1:List (List Int)) (writes1:List Int) (p6:Option Addr) (c5:Nat) (aR:List Value) (p7:Option Addr) (c6:Nat) (aS:List Value),o=(reads1,writes1)->I0.le I'->(RL I' aR reads1)->(RL I' aS writes1)->T 56 B Q (.exit 0) I' [hO Int (vS p7 writes1 c6) aS,hO (List Int) (vS p6 reads1 c5) aR,hB b1 [vS p1 p.Arrays c,vS p2 p.Parts c1,vS p3 y1 c2,vS p6 reads1 c5,vS p7 writes1 c6]] [(6,vP b1 0)])->J Tryz.prog 56 B (nav (bodyOf f43) [1,1,1,1,0,1,0]) Q I [hO Int (vS p5 writes c4) az,hO (List Int) (vS p4 reads c3) cs,hB b1 [vS p1 p.Arrays c,vS p2 p.Parts c1,vS p3 y1 c2,vS p4 reads c3,vS p5 writes c4],hB b (cProg p p1 c p2 c1)] [(1,vP b 0),(6,vP b1 0),(22,vS p3 y1 c2),(23,vI (y1.length:Int)),(24,vI t24)]:=by
 refine mO.partial_correctness p y1 _ fun aI ih t24 reads writes o N B I0 I Q p1 c p2 c1 b p3 c2 b1 p4 c3 cs p5 c4 az H h2 h h1 h6 h7 hg ho hx=>yO hg ho<|yG [25] rfl<|zZ<|yE N ?_ ?_
 · intro aH N;refine zT<|zZ<|yH<|yF<|bE N fun x aA N=>xL rfl rfl h2 aA ?_;intro ad aP aq am;obtain ⟨p8,c7,rfl,h10⟩:=vR am;refine xE 0 aq (cInst x p8 c7) (vA (cInst x p8 c7)) rfl<|wS [vI 0,vI 0,z0] ?_;intro b2 hb2;refine xJ 0 (cInst x p8 c7) rfl<|yD rfl<|yV<|rH 2 [4,0] [(29,vA (cProg p p1 c p2 c1)),(30,vA (cInst x p8 c7))] ?_;obtain ⟨⟨y4,y5⟩,aK,N⟩:=zB N;refine xM (zCM p x _ aK h h1 h10) ?_;rintro aW ay v2 k2 ae - ⟨v03,v04,rfl,rfl,h11,rfl⟩ -;have ⟨h2,h7,h6,h,h1,H⟩:=m6 ae h2 h7 h6 h h1 H;obtain ⟨p9,c8,rfl⟩:=h11.form;refine yI [] [9,10] rfl<|zH ?_;obtain ⟨l,bi,N⟩:=zB N;obtain ⟨l1,bu,N⟩:=zB N;refine wT [.p (vP b1 0) [],.p (vP b1 0) [],.p (vP b1 0) [],.p (vP b1 0) [],.p (vP b1 3) [],.q (vS p4 reads c3),.p (vS p9 y4 c8) [],.x (fun I' v hx=>∃ b3,v=vS (some ⟨b3,0,none⟩) ([y4]:List (List Int)) 1/\hx=[]/\(SL I' (vS (some ⟨b3,0,none⟩) ([y4]:List (List Int)) 1) ([y4]:List (List Int)))),.x (fun I' v hx=>∃ bc c9 bB,v=vS bc l c9/\hx=[hO (List Int) (vS bc l c9) bB]/\(RL I' bB l)),.p (vP b1 0) [],.p (vP b1 0) [],.p (vP b1 4) [],.q (vS p5 writes c4),.p (vI y5) [],.x (fun I' v hx=>∃ b4,v=vS (some ⟨b4,0,none⟩) ([y5]:List Int) 1/\hx=[]/\(SL I' (vS (some ⟨b4,0,none⟩) ([y5]:List Int) 1) ([y5]:List Int))),.x (fun I' v hx=>∃ aT bj bI,v=vS aT l1 bj/\hx=[hO Int (vS aT l1 bj) bI]/\(RL I' bI l1)),.p (vP b1 0) [],.p (vP b1 3) [],.x (fun I' v hx=>∃ p101 c91 cs41,hx=[hB b1 [vS p1 p.Arrays c,vS p2 p.Parts c1,vS p3 y1 c2,vS p101 l c91,vS p5 writes c4],hO (List Int) (vS p101 l c91) cs41]/\(RL I' cs41 l))] [[],[],[],[(2,false)],[(3,false)],[(4,false),(24,false)],[],[(6,false)],[(5,false),(7,false),(22,true)],[],[(9,false)],[(10,false)],[(11,false),(24,false)],[],[(13,false)],[(12,false),(14,false),(23,true)],[(0,false)],[(16,false)],[(8,true),(17,false),(24,true)]] [hB b2 (cInst x p8 c7),hB b (cProg p p1 c p2 c1)] [[hO (List Int) (vS p4 reads c3) cs],[hO Int (vS p5 writes c4) az],[hB b1 [vS p1 p.Arrays c,vS p2 p.Parts c1,vS p3 y1 c2,vS p4 reads c3,vS p5 writes c4]]] [(1,false),(15,true),(18,true)] (zY [0,4,2,1,3]) ?_ ?_
   · refine Op<|Op<|Op<|Op<|Op<|Ob ?_<|Op<|Ox ?_<|Ox ?_<|Op<|Op<|Op<|Ob ?_<|Op<|Ox ?_<|Ox ?_<|Op<|Op<|Ox ?_<|On
     · intro I1 hf ae hbo;obtain ⟨hf2,hbp⟩:=hbo.at (j:=24) (g:=[hB b1 [vS p1 p.Arrays c,vS p2 p.Parts c1,vS p3 y1 c2,vS p4 reads c3,vS p5 writes c4]]) (by decide) (by kernel_rfl) rfl;refine wG ?_;rintro _ _ ⟨rfl,rfl⟩;refine wG ?_;rintro _ _ rfl;refine oQ<|zPO hbp<|zBM [(38,vP b1 3)] ?_;exact zEN (cs:=[vS p4 reads c3]) (v:=vS p4 reads c3) 2 rfl rfl rfl rfl rfl (by kernel_rfl) (by kernel_rfl) (by kernel_rfl)<|xF iR
     · intro I1 hf ae;refine yW [40] rfl ?_;have H:=iS I1;have h11:=h11.mono ae;refine mG (rc y4 ⟨_,rfl,h11⟩ rN) ?_;intro b3 aX aF h14;have H:=H.trans aF;exact yL [] H ⟨_,rfl,rfl,h14⟩
     · rintro I1 hf ae _ _ ⟨rfl,rfl⟩ _ _ ⟨b3,rfl,rfl,h14⟩ _ _ rfl;refine yW [39,41] rfl ?_;have h6:=iM ae h6;obtain ⟨bv,k0,k01⟩:=h14;have h14:SL I1 (vS (some ⟨b3,0,none⟩) ([y4]:List (List Int)) 1) ([y4]:List (List Int)):=⟨_,k0,k01⟩;exact sO 27 1 0 rfl rfl rfl h6 (.inl k0) k01 bi fun bc c9 bB h15=>wK (ah:=(hO (List Int) (vS bc l c9) bB::hB b2 (cInst x p8 c7)::hB b (cProg p p1 c p2 c1)::hf)) rfl<|yL [hO (List Int) (vS bc l c9) bB] iR ⟨_,_,_,rfl,rfl,h15⟩
     · intro I1 hf ae hbo;obtain ⟨hf2,hbp⟩:=hbo.at (j:=24) (g:=[hB b1 [vS p1 p.Arrays c,vS p2 p.Parts c1,vS p3 y1 c2,vS p4 reads c3,vS p5 writes c4]]) (by decide) (by kernel_rfl) rfl;refine wG ?_;rintro _ _ ⟨rfl,rfl⟩;refine wG ?_;rintro _ _ rfl;refine oQ<|zPO hbp<|zBM [(45,vP b1 4)] ?_;exact zEN (cs:=[vS p5 writes c4]) (v:=vS p5 writes c4) 2 rfl rfl rfl rfl rfl (by kernel_rfl) (by kernel_rfl) (by kernel_rfl)<|xF iR
     · intro I1 hf ae;refine yW [47] rfl ?_;have H:=iS I1;refine mG (rI [y5]) ?_;intro b4 bG aJ h17;have H:=H.trans aJ;exact yL [] H ⟨_,rfl,rfl,h17⟩
     · rintro I1 hf ae _ _ ⟨rfl,rfl⟩ _ _ ⟨b4,rfl,rfl,h17⟩ _ _ rfl;refine yW [46,48] rfl ?_;have h7:=iM ae h7;obtain ⟨bP,k02,k03⟩:=h17;have h17:SL I1 (vS (some ⟨b4,0,none⟩) ([y5]:List Int) 1) ([y5]:List Int):=⟨_,k02,k03⟩;exact sO 3 1 0 rfl rfl rfl h7 (.inl k02) k03 bu fun aT bj bI h18=>wK (ah:=(hO Int (vS aT l1 bj) bI::hB b2 (cInst x p8 c7)::hB b (cProg p p1 c p2 c1)::hf)) rfl<|yL [hO Int (vS aT l1 bj) bI] iR ⟨_,_,_,rfl,rfl,h18⟩
     rintro I1 hf ae _ _ ⟨bc,c9,bB,rfl,rfl,h15⟩ _ _ ⟨rfl,rfl⟩ _ _ rfl;refine yW [42,51] rfl ?_;have H:=iS I1;exact zBd 0 [vS p1 p.Arrays c,vS p2 p.Parts c1,vS p3 y1 c2,vS bc l c9,vS p5 writes c4] (hB b1 [vS p1 p.Arrays c,vS p2 p.Parts c1,vS p3 y1 c2,vS bc l c9,vS p5 writes c4]::hO (List Int) (vS bc l c9) bB::hB b2 (cInst x p8 c7)::hB b (cProg p p1 c p2 c1)::hf) rfl rfl rfl rfl<|zGl (hx:=[hB b1 [vS p1 p.Arrays c,vS p2 p.Parts c1,vS p3 y1 c2,vS bc l c9,vS p5 writes c4],hO (List Int) (vS bc l c9) bB]) rfl H rfl (zHb (v:=undef)) ⟨_,_,_,rfl,h15⟩
   rintro bL bd _ _ ⟨rfl,rfl⟩ _ _ ⟨aT,bj,bI,rfl,rfl,h18⟩ _ _ ⟨p101,c91,cs41,rfl,h151⟩;refine yW [1,6,22,23,24,35,49] rfl ?_;have ⟨h2,h,h1,H⟩:=m4 bd h2 h h1 H;exact yC 21 [] [53] rfl<|xJ 0 [vS p1 p.Arrays c,vS p2 p.Parts c1,vS p3 y1 c2,vS p101 l c91,vS aT l1 bj] rfl<|yD rfl<|zN<|zH<|zJ<|yI [] [24] rfl<|yM<|kC (zX [2,1,0,4] rfl (by decide))<|nT<|ih (W (t24+1)) l l1 _ N H h2 h h1 h151 h18 hg ho hx
 intro aH N;exact wL<|xR (zX [0,1,2] rfl (by decide))<|yN<|hx _ _ _ _ _ _ _ _ _ (zC N).symm H h6 h7
def gY (p:zD):Option ((Option xT)×Bool):=do
 let (y1,y2)<-sK p
 if (!y2) then
  pure (none,false)
 else
  let (reads1,writes1)<-mO p y1 0 ([]:List (List Int)) ([]:List Int)
  pure ((some (xT.mk p y1 reads1 writes1)),true)
theorem zBk:∀ p r,gY p=some r->∀ {I:Imm}{p1 c p2 c1},(S4 I p1 p.Arrays c)->(S4 I p2 p.Parts c1)->RT 43 [vA (cProg p p1 c p2 c1)] I [] (zHI  r):=by
 intro p r N I p1 c p2 c1 h h1;unfold gY at N;refine yK func43 fun B=>yF<|tT (cProg p p1 c p2 c1) ?_;intro b hb;refine wI [] []<|yV<|rH 1 [0] [(12,vA (cProg p p1 c p2 c1))] ?_;obtain ⟨⟨y1,y2⟩,hy,N⟩:=zB N;refine xM (eQ p _ hy h h1) ?_;rintro I0 ay v2 k2 le - ⟨v0,v01,rfl,rfl,h2,rfl⟩ -;have ⟨h,h1⟩:=m2 le h h1;obtain ⟨p3,c2,rfl⟩:=h2.form;refine yI [] [4,5] rfl<|zZ<|yG [17] rfl<|zH<|yE N ?_ ?_
 · intro hc N;refine yG [2,3] rfl<|xD<|zG ?_;obtain rfl:=zC N;exact xA ⟨_,_,(.tmp rfl (.tmp rfl ResV.nil)),zQ,⟨_,_,rfl,rfl,zP8,rfl⟩⟩
 intro hc N;refine zT<|yV<|rH 3 [0] [(20,vA [vS p1 p.Arrays c,vS p2 p.Parts c1,vS p3 y1 c2,z0,z0])]<|tT [vS p1 p.Arrays c,vS p2 p.Parts c1,vS p3 y1 c2,z0,z0] ?_;intro b1 hb1;refine yI [] [6] rfl<|zZ<|yG [22,23,24] rfl<|xY<|qI [(1,vP b 0),(6,vP b1 0),(22,vS p3 y1 c2),(23,vI (y1.length:Int)),(24,vI 0)]<|zAM (List Int) fun h4=>?_;refine zAM Int fun h5=>?_;obtain ⟨o0,aD,aM⟩:=zB N;refine zG5 p y1 0 ([]:List (List Int)) ([]:List Int) o0 aD iR h2 h h1 h4 h5 (fun _ _ _ h=>h) (fun _ _ h=>h) ?_;intro bR reads1 writes1 p6 c5 aR p7 c6 aS heq bw h8 h9;subst o0;have ⟨h,h1,h2⟩:=m3 bw h h1 h2;refine zS<|wP [2,3] rfl<|xD<|yX 1 rfl ?_;intro I06 bC hl02;have h19:=SL.of_frozen hl02 bC h8;have ⟨h9,h,h1,h2⟩:=m4 bC h9 h h1 h2;refine yX 0 rfl ?_;intro I07 le7 hl03;have h20:=SL.of_frozen hl03 le7 h9;have ⟨h,h1,h2,h19⟩:=m4 le7 h h1 h2 h19;refine yX 0 rfl ?_;intro I08 le8 hl04;have av:At I08 ⟨b1,0,none⟩ [vS p1 p.Arrays c,vS p2 p.Parts c1,vS p3 y1 c2,vS p6 reads1 c5,vS p7 writes1 c6]:=At.of_blk hl04;have ⟨h,h1,h2,h19,h20⟩:=m5 le8 h h1 h2 h19 h20;obtain rfl:=zC aM;exact xA ⟨_,_,(.tmp rfl (.tmp rfl ResV.nil)),zQ,⟨_,_,rfl,rfl,(zQP av (zGF ⟨_,_,_,_,_,rfl,h,h1,h2,h19,h20⟩)),rfl⟩⟩
def oV (p:zD) (part:Int):Option (Bool):=do
 let y<-wC part 0 (W ((p.Parts.length:Int) - 1))
 pure (id y)
theorem zC5:∀ p part r,oV p part=some r->∀ {I:Imm}{p1 c p2 c1},(S4 I p1 p.Arrays c)->(S4 I p2 p.Parts c1)->RT 86 [vA (cProg p p1 c p2 c1),vI part] I [] (zU  r):=by
 intro p part r N I p1 c p2 c1 h h1;unfold oV at N;refine yK func86 fun B=>yF<|tT (cProg p p1 c p2 c1) ?_;intro b hb;refine wI [] []<|yV<|yC 5 [0] [5,9] rfl<|bE N fun y hy N=>vU (wJ part 0 (W ((p.Parts.length:Int) - 1)) _ hy ) fun I0 le=>wI [] [(4,.bool y)]<|zH<|yY ?_;obtain rfl:=zC N;exact wF
def sS (p:zD) (part:Int) (loop:Int):Option (Bool):=do
 let t6<-(do
   let y<-oV p part
   if y then
    let x<-idx p.Parts part
    let y1<-wC loop 0 (W ((x.Nest.length:Int) - 1))
    pure (id y1)
   else
    pure false
     : Option Bool)
 pure (id t6)
theorem zAF:∀ p part loop r,sS p part loop=some r->∀ {I:Imm}{p1 c p2 c1},(S4 I p1 p.Arrays c)->(S4 I p2 p.Parts c1)->RT 44 [vA (cProg p p1 c p2 c1),vI part,vI loop] I [] (zU  r):=by
 intro p part loop r N I p1 c p2 c1 h h1;unfold sS at N;refine yK func44 fun B=>?_;have H:=iS I;refine yF<|tT (cProg p p1 c p2 c1) ?_;intro b hb;refine wI [] []<|zH<|yB ?_;refine wR N [] (fun t6=>[(6,.bool t6)]) (fun o0 aD=>?_) ?_
 · have H:=iS I;refine zJ<|rH 2 [0] [(7,vA (cProg p p1 c p2 c1)),(8,vI part)] ?_;obtain ⟨y,hy,N⟩:=zB aD;refine vU (zC5 p part _ hy h h1) ?_;intro aW le;have ⟨h1,H⟩:=m2 le h1 H;refine yC 4 [] [10] rfl<|xW [10] N ?_ ?_
   · intro hc N;refine yC 8 [0] [11,13,14] rfl<|bE N fun x aA N=>xL rfl rfl h1 aA ?_;intro ad aP aq am;obtain ⟨p3,c2,p4,c3,rfl,h3,h4⟩:=wU am;refine yC 10 [] [16] rfl<|xE 0 aq [vS p3 x.Nest c2] (vS p3 x.Nest c2) rfl<|yC 13 [] [19] rfl<|bE N fun y1 aK N=>vU (wJ loop 0 (W ((x.Nest.length:Int) - 1)) _ aK ) ?_;intro aX ae;have H:=H.trans ae;exact yI [] [6] rfl<|xR zQ<|yN<|zV (ct N H)
   intro hc N;exact wI [] [(6,vF)]<|xR zQ<|yN<|zV (ct N H)
 intro t6 I0 aF aV;refine zH<|yY ?_;obtain rfl:=zC aV;exact wF
def uD (s1:(List Int)) (s2:(List Int)) (t13:Int):Option (Out Unit (Bool)):=do
 if (decide (t13<(s1.length:Int))) then
  let x<-idx s1 t13
  let x1<-idx s2 t13
  if (x != x1) then
   pure (.ret false)
  else
   uD s1 s2 (W (t13+1))
 else
  pure (.done ())
 partial_fixpoint
theorem zBE (s1:(List Int)) (s2:(List Int)):∀ (t13:Int) (o:Out Unit (Bool)),uD s1 s2 t13=some o->∀ {B}{I0 I:Imm}{Q p c p1 c1},I0.le I->(S4 I p s1 c)->(S4 I p1 s2 c1)->NG Q->NO Q->(∀ (I':Imm) ,o=(.done ())->I0.le I'->T 26 B Q (.exit 0) I' [] [])->(∀ r I' ah m',o=(.ret r)->I0.le I'->RS Tryz.prog f61 B (zU  r) I' ah m'->T 26 B Q .ret I' ah m')->J Tryz.prog 26 B (nav (bodyOf f61) [1,1,0,1,0]) Q I [] [(0,vS p s1 c),(1,vS p1 s2 c1),(12,vI (s1.length:Int)),(13,vI t13)]:=by
 refine uD.partial_correctness s1 s2 _ fun aI ih t13 o N B I0 I Q p c p1 c1 H h h1 hg ho hx hr=>yO hg ho<|yG [14] rfl<|zZ<|yE N ?_ ?_
 · intro aH N;refine zT<|zZ<|yH<|yG [5] rfl<|zZ<|kI (by kernel_rfl) (by kernel_rfl)<|fP 2 [] [16,17] rfl<|bE N fun x hy N=>dW rfl rfl h hy ?_;intro ad aP aq am;obtain rfl:=am;refine fA 0 aq [vI x] (vI x) rfl<|fP 6 [] [20,21] rfl<|bE N fun x1 aA N=>dW rfl rfl h1 aA ?_;intro ad1 bv av ax;obtain rfl:=ax;refine fA 0 av [vI x1] (vI x1) rfl<|zGr [] [24] rfl<|zH<|yE N ?_ ?_
   · intro aZ N;exact wQ [(4,vF)]<|xD<|zW<|zG<|zG<|hr _ _ _ _ (zC N).symm H ⟨_,_,(.tmp rfl ResV.nil),zQ,⟨_,rfl,rfl,rfl⟩⟩
   intro aZ N;exact zT<|zN<|zH<|zJ<|yI [] [13] rfl<|yM<|nT<|ih (W (t13+1)) _ N H h h1 hg ho hx hr
 intro aH N;exact wL<|yN<|hx _  (zC N).symm H
def sD (s1:(List Int)) (s2:(List Int)):Option (Bool):=do
 if ((s1.length:Int) != (s2.length:Int)) then
  pure false
 else
  match<-uD s1 s2 0 with
  | .ret r0=>pure r0
  | .done _ =>
   pure true
theorem gH:∀ s1 s2 r,sD s1 s2=some r->∀ {I:Imm}{p c p1 c1},(S4 I p s1 c)->(S4 I p1 s2 c1)->RT 61 [vS p s1 c,vS p1 s2 c1] I [] (zU  r):=by
 intro s1 s2 r N I p c p1 c1 h h1;unfold sD at N;refine yK func61 fun B=>wQ []<|zZ<|yG [10] rfl<|zH<|yE N ?_ ?_
 · intro hc N;refine wQ [(4,vF)]<|xD<|zG ?_;obtain rfl:=zC N;exact wF
 intro hc N;refine zT<|zZ<|yG [12,13] rfl<|xY<|qI [(0,vS p s1 c),(1,vS p1 s2 c1),(12,vI (s1.length:Int)),(13,vI 0)] ?_;obtain ⟨o0,aD,aM⟩:=zB N;refine zBE s1 s2 0 o0 aD iR h h1 (fun _ _ _ h=>h) (fun _ _ h=>h) ?_ ?_
 · intro I0  heq le;subst o0;refine zS<|zFB [(4,vY)]<|zH<|yY ?_;obtain rfl:=zC aM;exact wF
 intro r0 I9 hs9 m9 aY le9 ba;subst aY;refine zW<|zG ?_;obtain rfl:=zC aM;exact xA ba
instance {β:Type} [Rp β] {i j:Imm}{xs:List (List β)}{X:List Raw1}{y:List β}{v:Value}:Mo (GN i xs X y v) i j (GN j xs X y v):=⟨fun h x=>x.mono h⟩
instance {σ α β:Type} [Vr α] [Vr β] {P:Program}{i j:Imm}{hsS:σ->List HA}{v:Value}{φ:α->σ->Option (β×σ)}:Mo (FS1 P i hsS v φ) i j (FS1 P j hsS v φ):=⟨fun h x=>x.mono h⟩
theorem zQV {B:Base}{I:Imm}{Q:Exit->Act->World->Prop}{v0 vl:Value}{part loop i n t20:Int}{O G:List Raw1}{l l1:List Int}{aO aG aL:Option Addr}{kO kG kL:Nat}{cO cG cL:List Value}{adG:Addr}{iO:Int} (qO:RL I cO O) (hG:RL I cG G) (hL:RL I cL l) (aq:AtO (vS aO O kO) (Rp.sz Raw1) iO.toNat adG) (hyO:idx O iO=some ⟨vS aG G kG⟩) (hyG:idx G (W ((G.length:Int) - 1))=some ⟨vS aL l kL⟩) (hap:app 8 l [i]=some l1) (hx:∀ (I':Imm) (cG':List Value) (aL':Option Addr) (kL':Nat) (cL':List Value),I.le I'->RL I' cG' (G.set (W ((G.length:Int) - 1)).toNat ⟨vS aL' l1 kL'⟩)->RL I' cL' l1->T 107 B Q .normal I' [hO Raw1 (vS aO O kO) cO,hO Raw1 (vS aG G kG) cG',hO Int (vS aL' l1 kL') cL'] [(0,v0),(1,vI part),(2,vI loop),(7,vS aO O kO),(8,vI i),(18,vl),(19,vI n),(20,vI t20)]):J Tryz.prog 107 B (nav (bodyOf f74) [1,1,1,0,1,0,0,1,1,0,0,1,1,1,1,1,1,1]) Q I [hO Raw1 (vS aO O kO) cO,hO Raw1 (vS aG G kG) cG,hO Int (vS aL l kL) cL] [(0,v0),(1,vI part),(2,vI loop),(7,vS aO O kO),(9,vI i),(13,.pointer (some adG)),(18,vl),(19,vI n),(20,vI t20)]:=by
 have hccO:(cO.drop (iO.toNat*Rp.sz Raw1)).take (Rp.sz Raw1)=[vS aG G kG]:=(qO.at (vW hyO).2.2).1.1;refine yB<|wT [.p (.pointer (some adG)) [],.p (.pointer (some adG)) [],.q (vS aG G kG),.p (.pointer (some adG)) [],.p (.pointer (some adG)) [],.q (vS aG G kG),.q (vI (G.length:Int)),.q (vI (W ((G.length:Int) - 1))),.x (fun I' v hx=>∃ ad,v=.pointer (some ad)/\hx=[]/\AtO (vS aG G kG) (Rp.sz Raw1) (W ((G.length:Int) - 1)).toNat ad)] [[],[(0,false)],[(1,false)],[],[(3,false)],[(4,false)],[(5,false)],[(6,false)],[(2,false),(7,false)]] [hO Raw1 (vS aO O kO) cO,hO Raw1 (vS aG G kG) cG,hO Int (vS aL l kL) cL] [] [(8,false)] (zY [0,1,2]) ?_ ?_
 · refine Op<|Op<|Oq ?_<|Op<|Op<|Oq ?_<|Oq ?_<|Oq ?_<|Ox ?_<|On
   · rintro I1 hf ae _ _ ⟨rfl,rfl⟩;exact oQ<|zBM [(88,.pointer (some adG))]<|zAX 0 0 aq hccO [vS aG G kG] (vS aG G kG) rfl rfl<|xF iR
   · rintro I1 hf ae _ _ ⟨rfl,rfl⟩;exact oQ<|zBM [(91,.pointer (some adG))]<|zAX 0 0 aq hccO [vS aG G kG] (vS aG G kG) rfl rfl<|xF iR
   · rintro I1 hf ae _ _ ⟨rfl,rfl⟩;exact oQ<|zBM [(92,vS aG G kG)]<|mF 7 [(93,vI (G.length:Int))]<|xF iR
   · rintro I1 hf ae _ _ ⟨rfl,rfl⟩;exact oQ<|zBM [(93,vI (G.length:Int))]<|mF 8 [(94,vI (W ((G.length:Int) - 1)))]<|xF iR
   intro I1 hf ae;exact yW [89,94] rfl<|oH (α:=Raw1) 1 rfl rfl rfl (iM ae hG) hyG fun ad aP bb _ _=>yL [] iR ⟨_,rfl,rfl,bb⟩
 rintro I2 aF _ _ ⟨adL,rfl,rfl,hatL⟩;refine yW [0,1,2,7,9,95,18,19,20] rfl ?_;replace qO:RL I2 cO O:=iM aF qO;have hG:RL I2 cG G:=iM aF hG;have hL:RL I2 cL l:=iM aF hL;have hccG:(cG.drop ((W ((G.length:Int) - 1)).toNat*Rp.sz Raw1)).take (Rp.sz Raw1)=[vS aL l kL]:=(hG.at (vW hyG).2.2).1.1;refine yI [] [14] rfl<|yV<|yC 3 [] [96,98] rfl<|zAX 1 0 hatL hccG [vS aL l kL] (vS aL l kL) rfl rfl<|yC 5 [] [100] rfl<|uO [vI i] Int ?_;intro b9 hb9;have k1:RL I2 [vI i] ([i]:List Int):=⟨[vI i],_,rfl,rfl,rfl,rfl⟩;refine xI 0 rfl ?_;intro I3 aJ hl3;obtain ⟨aP,k0,k01⟩:=SL.of_frozen hl3 aJ k1;have hG:RL I3 cG G:=iM aJ hG;have hL:RL I3 cL l:=iM aJ hL;refine sO (α:=Int) 3 1 2 rfl rfl rfl hL (.inl k0) k01 hap ?_;intro aL9 kL9 cL9 hL9;exact wK (ah:=[hO Raw1 (vS aO O kO) cO,hO Raw1 (vS aG G kG) cG,hO Int (vS aL9 l1 kL9) cL9]) rfl<|yC 8 [] [103] rfl<|tW (α:=Raw1) (c:=[vS aL9 l1 kL9]) (x':=⟨vS aL9 l1 kL9⟩) 1 0 rfl rfl rfl hatL rfl rfl hccG (by kernel_rfl) (by kernel_rfl) (by kernel_rfl) hG hyG rfl ⟨rfl,rfl⟩ fun cG9 hG9 hl9=>yD rfl<|zH<|zJ<|yI [] [8] rfl<|yN<|hx _ _ _ _ _ (aF.trans aJ) hG9 hL9
theorem zQW {B:Base}{I:Imm}{Q:Exit->Act->World->Prop}{v0 vl:Value}{part loop i n t20:Int}{O G:List Raw1}{g g1:List (List Int)}{l l0 l1:List Int}{aO aG aL:Option Addr}{kO kG kL:Nat}{cO cG cL:List Value} (inner:Bool) (qO:RL I cO O) (hG:RL I cG G) (hL:RL I cL l) (hyO:idx O (W ((O.length:Int) - 1))=some ⟨vS aG G kG⟩) (hN:GN I g G l (vS aL l kL)) (hg1:(if inner then some g else app 24 g [[]])=some g1) (hl0:idx g1 (W ((g1.length:Int) - 1))=some l0) (hap:app 8 l0 [i]=some l1) (hx:∀ (I':Imm) (cO':List Value) (aG':Option Addr) (G':List Raw1) (kG':Nat) (cG':List Value) (aL':Option Addr) (kL':Nat) (cL':List Value),I.le I'->RL I' cO' (O.set (W ((O.length:Int) - 1)).toNat ⟨vS aG' G' kG'⟩)->RL I' cG' G'->RL I' cL' l1->GN I' (g1.set (W ((g1.length:Int) - 1)).toNat l1) G' l1 (vS aL' l1 kL')->T 107 B Q .normal I' [hO Raw1 (vS aO O kO) cO',hO Raw1 (vS aG' G' kG') cG',hO Int (vS aL' l1 kL') cL'] [(0,v0),(1,vI part),(2,vI loop),(7,vS aO O kO),(8,vI i),(18,vl),(19,vI n),(20,vI t20)]):J Tryz.prog 107 B (nav (bodyOf f74) [1,1,1,0,1,0,0,1,1,0,0,1,1,1,1,1]) Q I [hO Raw1 (vS aO O kO) cO,hO Raw1 (vS aG G kG) cG,hO Int (vS aL l kL) cL] [(0,v0),(1,vI part),(2,vI loop),(7,vS aO O kO),(9,vI i),(12,.bool inner),(18,vl),(19,vI n),(20,vI t20)]:=by
 refine yF<|yC 4 [] [73,76] rfl<|oH (α:=Raw1) 0 rfl rfl rfl qO hyO ?_;intro adG aP aq hccO _;obtain rfl:[vS aG G kG]=aP:=((qO.at (vW hyO).2.2).1.1).symm.trans hccO;refine yI [] [13] rfl<|zZ<|yG [79] rfl<|zH ?_;cases inner with
 | true =>
  simp only [if_true,Option.some.injEq] at hg1;subst g1;obtain ⟨rfl,hyG,he,hu⟩:=hN.last hl0;refine gQ rfl<|zT<|zH<|qI [(0,v0),(1,vI part),(2,vI loop),(7,vS aO O kO),(9,vI i),(13,.pointer (some adG)),(18,vl),(19,vI n),(20,vI t20)]<|zQV qO hG hL aq hyO hyG hap ?_;intro I' cG' aL' kL' cL' le' hG' hL';have aU:(G.set (W ((G.length:Int) - 1)).toNat ⟨vS aL' l1 kL'⟩).length=G.length:=cK;have e:vS aG (G.set (W ((G.length:Int) - 1)).toNat ⟨vS aL' l1 kL'⟩) kG=vS aG G kG:=by simp only [vS,aU]
  have hs:O.set (W ((O.length:Int) - 1)).toNat ⟨vS aG G kG⟩=O:=by
   obtain ⟨aE,e9⟩:=ck.1 (vW hyO).2.2;rw [<- e9,gv]
  have:=hx I' cO aG (G.set (W ((G.length:Int) - 1)).toNat ⟨vS aL' l1 kL'⟩) kG cG' aL' kL' cL' le' (by rw [e,hs]; exact RepL.mono (fun _ _=>Rp.mono le') qO) hG' hL' (by have:=(hu l1 (vS aL' l1 kL')).mono le'; exact this);rw [e] at this;exact this
 | false =>
  simp only [cI,if_false] at hg1;refine dU rfl<|qK 2 rfl ?_;intro I1 ae hl1;have kL0:SL I1 (vS aL l kL) l:=SL.of_frozen hl1 ae hL;replace qO:RL I1 cO O:=iM ae qO;have hG:RL I1 cG G:=iM ae hG;obtain ⟨hbd,rfl⟩:=eU hg1;have hN2:=(hN.mono ae).push kL0 hbd;refine zJ<|yC 3 [] [80,82] rfl<|zAX 0 0 aq hccO [vS aG G kG] (vS aG G kG) rfl rfl<|uO [z0] Raw1 ?_;intro b9 hb9;have k1:RL I1 [z0] ([⟨z0⟩]:List Raw1):=⟨[z0],[],rfl,rfl,⟨rfl,rfl⟩,rfl⟩;refine xI 0 rfl ?_;intro I2 aF hl2;obtain ⟨bP,k0,k01⟩:=(SL.of_frozen hl2 aF k1:SL I2 (vS (some ⟨b9,0,none⟩) ([⟨z0⟩]:List Raw1) 1) [⟨z0⟩]);replace qO:RL I2 cO O:=iM aF qO;have hG:RL I2 cG G:=iM aF hG;have hN2:=hN2.mono aF;refine sO (α:=Raw1) 27 1 1 rfl rfl rfl hG (.inl k0) k01 (app1 hg1 hN.len) ?_;intro aG9 kG9 cG9 hG9;refine wK (ah:=[hO Raw1 (vS aO O kO) cO,hO Raw1 (vS aG9 (G++[⟨z0⟩]) kG9) cG9]) rfl<|yC 7 [] [86] rfl<|tW (α:=Raw1) (c:=[vS aG9 (G++[⟨z0⟩]) kG9]) (x':=⟨vS aG9 (G++[⟨z0⟩]) kG9⟩) 0 0 rfl rfl rfl aq rfl rfl hccO (by kernel_rfl) (by kernel_rfl) (by kernel_rfl) qO hyO rfl ⟨rfl,rfl⟩ ?_;intro cO9 hO9 hl9;have eO:vS aO (O.set (W ((O.length:Int) - 1)).toNat ⟨vS aG9 (G++[⟨z0⟩]) kG9⟩) kO=vS aO O kO:=by simp only [vS,hl9]
  refine yD rfl<|zH<|kC (oT (Rp.sz Int))<|kC (zY [1,2,0] (ah:=[hO Raw1 (vS aO O kO) cO9,hO Raw1 (vS aG9 (G++[⟨z0⟩]) kG9) cG9,hO Int (vS none ([]:List Int) 0) []]))<|qI [(0,v0),(1,vI part),(2,vI loop),(7,vS aO O kO),(9,vI i),(13,.pointer (some adG)),(18,vl),(19,vI n),(20,vI t20)] ?_;obtain ⟨rfl,hyG,he,hu⟩:=hN2.last hl0;have hyO2:idx (O.set (W ((O.length:Int) - 1)).toNat ⟨vS aG9 (G++[⟨z0⟩]) kG9⟩) (W ((O.length:Int) - 1))=some (⟨vS aG9 (G++[⟨z0⟩]) kG9⟩:Raw1):=zN5 hyO;rw [<- eO];refine zQV hO9 hG9 RepL.nil (by rw [eO]; exact aq) hyO2 hyG hap ?_;intro I' cG' aL' kL' cL' le' hG' hL';have aU:((G++[⟨z0⟩]:List Raw1).set (W (((G++[⟨z0⟩]:List Raw1).length:Int) - 1)).toNat ⟨vS aL' l1 kL'⟩).length=(G++[⟨z0⟩]:List Raw1).length:=cK;have e:vS aG9 ((G++[⟨z0⟩]:List Raw1).set (W (((G++[⟨z0⟩]:List Raw1).length:Int) - 1)).toNat ⟨vS aL' l1 kL'⟩) kG9=vS aG9 (G++[⟨z0⟩]) kG9:=by simp only [vS,aU]
  have hO10:RL I' cO9 (O.set (W ((O.length:Int) - 1)).toNat ⟨vS aG9 (G++[⟨z0⟩]) kG9⟩):=RepL.mono (fun _ _=>Rp.mono le') hO9;have hN5:=(hu l1 (vS aL' l1 kL')).mono le';rw [<- e] at hO10;have:=hx I' cO9 aG9 _ kG9 cG' aL' kL' cL' ((ae.trans aF).trans le') hO10 hG' hL' hN5;rw [e] at this;rw [eO];exact this
def zAn (r:(List (List (List Int)))):KT:=fun kk I' ah v=>
  ∃ v0,ah=[]/\v=tupV [v0]/\SL I' v0 r
def xZ (t:xT) (part:Int) (loop:Int) (out:List (List (List Int))) (before:Int) (t20:Int):Option (List (List (List Int))):=do
 if (decide (t20<(t.list.length:Int))) then
  let x<-idx t.list t20
  if (x.Part != part) then
   xZ t part loop out before (W (t20+1))
  else
   let outer<-(do
     if (decide (before>=0)) then
      let x1<-idx t.list before
      let l<-slc x1.Point 0 loop
      let l1<-slc x.Point 0 loop
      let y<-sD l l1
      pure (id y)
     else
      pure false
       : Option Bool)
   let inner<-(do
     if outer then
      let x2<-idx t.list before
      let x3<-idx x2.Point loop
      let x4<-idx x.Point loop
      pure (x3==x4)
     else
      pure false
       : Option Bool)
   let aj<-(if outer then some out else app 24 out ([[]]:List (List (List Int))))
   let g<-idx aj (W ((aj.length:Int) - 1))
   let g1<-(if inner then some g else app 24 g ([[]]:List (List Int)))
   let l<-idx g1 (W ((g1.length:Int) - 1))
   let l1<-app 8 l ([t20]:List Int)
   xZ t part loop (aj.set (W ((aj.length:Int) - 1)).toNat (g1.set (W ((g1.length:Int) - 1)).toNat l1)) t20 (W (t20+1))
 else
  pure (id out)
 partial_fixpoint
theorem zAc (t:xT) (part:Int) (loop:Int):∀ (out:List (List (List Int))) (before:Int) (t20:Int) (o:List (List (List Int))),xZ t part loop out before t20=some o->∀ {B}{I0 I:Imm}{Q}{ad:Addr}{p c p1 c1 p2 c2 p3 c3 p4 c4}{O G:List Raw1}{g:List (List Int)}{l:List Int}{aO aG aL:Option Addr}{kO kG kL:Nat}{cO cG cL:List Value},I0.le I->(S4 I p t.Program.Arrays c)->(S4 I p1 t.Program.Parts c1)->(S4 I p2 t.list c2)->(S4 I p3 t.reads c3)->(S4 I p4 t.writes c4)->(At I ad [vS p t.Program.Arrays c,vS p1 t.Program.Parts c1,vS p2 t.list c2,vS p3 t.reads c3,vS p4 t.writes c4])->GN I out O g (vS aG G kG)->GN I g G l (vS aL l kL)->RL I cO O->RL I cG G->RL I cL l->NG Q->NO Q->(∀ (I':Imm) (aO':Option Addr) (O':List Raw1) (kO':Nat),I0.le I'->SL I' (vS aO' O' kO') o->T 107 B Q (.exit 0) I' [] [(7,vS aO' O' kO')])->J Tryz.prog 107 B (nav (bodyOf f74) [1,1,1,0,1,0]) Q I [hO Raw1 (vS aO O kO) cO,hO Raw1 (vS aG G kG) cG,hO Int (vS aL l kL) cL] [(0,.pointer (some ad)),(1,vI part),(2,vI loop),(7,vS aO O kO),(8,vI before),(18,vS p2 t.list c2),(19,vI (t.list.length:Int)),(20,vI t20)]:=by
 refine xZ.partial_correctness t part loop _ fun aI ih out before t20 o N B I0 I Q ad p c p1 c1 p2 c2 p3 c3 p4 c4 O G g l aO aG aL kO kG kL cO cG cL H h h1 h2 h3 h4 aq hN3 hN2 qO hG hL hg ho hx=>yO hg ho<|yG [21] rfl<|zZ<|yE N ?_ ?_
 · intro hc N;refine zT<|zZ<|yH<|yF<|yC 1 [] [22] rfl<|bE N fun x hy N=>xL rfl rfl h2 hy ?_;intro ad1 aP av am;obtain ⟨p5,c5,rfl,h5⟩:=vR am;refine xE 0 av (cInst x p5 c5) (vA (cInst x p5 c5)) rfl<|wS [vI 0,vI 0,z0] ?_;intro b hb;refine yC 5 [] [9] rfl<|xJ 0 (cInst x p5 c5) rfl<|yD rfl<|zZ<|yF<|yI [0] [28] rfl<|zH<|yE N ?_ ?_
   · intro aH N;exact zEM<|jA<|zS<|zH<|zJ<|yI [] [20] rfl<|yM<|kC (zY [1,2,3] (ah:=[hO Raw1 (vS aO O kO) cO,hO Raw1 (vS aG G kG) cG,hO Int (vS aL l kL) cL]))<|nT<|ih out before (W (t20+1)) _ N H h h1 h2 h3 h4 aq hN3 hN2 qO hG hL hg ho hx
   intro aH N;refine zT<|zH<|yB ?_;obtain ⟨o0,aD,aV⟩:=zB N;refine zOc (hs:=[hB b (cInst x p5 c5)]) (L:=[hO Raw1 (vS aO O kO) cO,hO Raw1 (vS aG G kG) cG,hO Int (vS aL l kL) cL]) .normal (fun I' ah m'=>∃ (outer:Bool),o0=outer/\I.le I'/\ah=[hB b (cInst x p5 c5)]/\m'=[(0,.pointer (some ad)),(1,vI part),(2,vI loop),(7,vS aO O kO),(8,vI before),(9,vI t20),(10,vP b 0),(11,.bool outer),(18,vS p2 t.list c2),(19,vI (t.list.length:Int)),(20,vI t20)]) (fun B0=>?_) ?_
   · have H:=iS I;cases aZ:(decide (before>=0)) with
     | true =>
      have hM0:=sV aZ aD;obtain ⟨x1,aA,N⟩:=zB hM0;obtain ⟨l,aK,N⟩:=zB N;obtain ⟨l1,bi,N⟩:=zB N;obtain ⟨y,bu,N⟩:=zB N;refine wT [.p (vI before) [],.q vY,.q vY,.p (.pointer (some ad)) [],.p (.pointer (some ad)) [],.p (.pointer (some (ad.add 2))) [],.q (vS p2 t.list c2),.p (vI before) [],.x (ePInst x1),.x (eQInst 2 x1),.x (eS x1.Point),.p (vI loop) [],.x (eS l),.p (vP b 2) [],.p (vS p5 x.Point c5) [0],.p (vI loop) [],.x (eS l1),.q (.bool y),.p (.bool y) []] [[],[(0,false)],[(1,false)],[(2,false)],[(2,false),(3,false)],[(2,false),(4,false)],[(2,false),(5,false)],[(2,false)],[(2,false),(6,false),(7,false)],[(2,false),(8,false)],[(2,false),(9,false)],[(2,false)],[(2,false),(10,false),(11,false)],[(2,false)],[(2,false),(13,false)],[(2,false)],[(2,false),(14,false),(15,false)],[(2,false),(12,false),(16,false)],[(2,false),(17,false)]] [hB b (cInst x p5 c5)] [] [(18,false)] (zY [0]) ?_ ?_
      · refine Op<|Oq ?_<|Oq ?_<|Op<|Op<|Op<|Oq ?_<|Op<|Ox ?_<|Ox ?_<|Ox ?_<|Op<|Ox ?_<|Op<|Op<|Op<|Ox ?_<|Oq ?_<|Op<|On
        · intro I1 hf ae;refine yW [29] rfl<|mF 2 [(30,.bool (decide (before>=0)))] ?_;rw [aZ];exact xF iR
        · intro I1 hf ae;exact I_h [(30,vY)]<|mF 3 [(31,vY)]<|xF iR
        · intro I1 hf ae;refine yW [31,34] rfl ?_;have aq:=aq.mono ae;exact xE 2 aq [vS p2 t.list c2] (vS p2 t.list c2) rfl<|xF iR
        · intro I1 hf ae;refine yW [31,35,36] rfl ?_;have h2:=h2.mono ae;refine xL rfl rfl h2 aA ?_;intro ad2 bv bb ax;obtain ⟨p6,c6,rfl,h6⟩:=vR ax;exact yL [] iR ⟨_,_,_,rfl,rfl,bb,h6⟩
        · rintro I1 hf ae _ _ ⟨rfl,rfl⟩ _ _ ⟨ad2,p6,c6,rfl,rfl,bb,h6⟩;exact yW [31,37] rfl<|mF 10 [(38,.pointer (some (ad2.add 2)))]<|yL [] iR ⟨_,_,_,rfl,rfl,bb,h6⟩
        · rintro I1 hf ae _ _ ⟨rfl,rfl⟩ _ _ ⟨ad21,p61,c61,rfl,rfl,hat21,h61⟩;exact yW [31,38] rfl<|xE 2 hat21 [vS p61 x1.Point c61] (vS p61 x1.Point c61) rfl<|yL [] iR ⟨_,_,rfl,rfl,h61⟩
        · rintro I1 hf ae _ _ ⟨rfl,rfl⟩ _ _ ⟨p611,c611,rfl,rfl,h611⟩;refine yW [31,39,40] rfl<|zKZ rfl h611 aK ?_;intro v02 h7;obtain ⟨p7,c7,rfl⟩:=h7.form;exact yL [] iR ⟨_,_,rfl,rfl,h7⟩
        · intro I1 hf ae;refine yW [31,43,44] rfl ?_;have h5:=h5.mono ae;refine zKZ rfl h5 bi ?_;intro v03 h8;obtain ⟨p8,c8,rfl⟩:=h8.form;exact yL [] iR ⟨_,_,rfl,rfl,h8⟩
        rintro I1 hf ae _ _ ⟨rfl,rfl⟩ _ _ ⟨p7,c7,rfl,rfl,h7⟩ _ _ ⟨p8,c8,rfl,rfl,h8⟩;refine yW [31,41,45] rfl ?_;have H:=iS I1;refine vU (gH l l1 _ bu h7 h8) ?_;intro aW le;have H:=H.trans le;exact xF H
      intro aX ae;refine yW [0,1,2,7,8,9,10,18,19,20,47] rfl ?_;have H:=H.trans ae;exact yI [] [11] rfl<|T_w [(0,.pointer (some ad)),(1,vI part),(2,vI loop),(7,vS aO O kO),(8,vI before),(9,vI t20),(10,vP b 0),(11,.bool y),(18,vS p2 t.list c2),(19,vI (t.list.length:Int)),(20,vI t20)]<|zMk ⟨_,(zC N).symm,H,rfl,rfl⟩
     | false =>
      have hM01:=tM aZ aD;refine wT [.p (vI before) [],.q vF,.q vF,.p undef [],.p undef [],.p undef [],.p undef [],.p undef [],.p undef [],.p undef [],.p undef [],.p undef [],.p undef [],.p undef [],.p undef [],.p undef [],.p undef [],.p undef [],.p vF []] [[],[(0,false)],[(1,false)],[(2,false)],[(2,false),(3,false)],[(2,false),(4,false)],[(2,false),(5,false)],[(2,false)],[(2,false),(6,false),(7,false)],[(2,false),(8,false)],[(2,false),(9,false)],[(2,false)],[(2,false),(10,false),(11,false)],[(2,false)],[(2,false),(13,false)],[(2,false)],[(2,false),(14,false),(15,false)],[(2,false),(12,false),(16,false)],[(2,false),(17,false)]] [hB b (cInst x p5 c5)] [] [(18,false)] (zY [0]) ?_ ?_
      · refine Op<|Oq ?_<|Oq ?_<|Op<|Op<|Op<|Op<|Op<|Op<|Op<|Op<|Op<|Op<|Op<|Op<|Op<|Op<|Op<|Op<|On
        · intro I1 hf ae;refine yW [29] rfl<|mF 2 [(30,.bool (decide (before>=0)))] ?_;rw [aZ];exact xF iR
        intro I1 hf ae;exact I_h [(30,vF)]<|mF 3 [(31,vF)]<|xF iR
      intro bG aF;refine yW [0,1,2,7,8,9,10,18,19,20,47] rfl ?_;have H:=H.trans aF;exact wI [] [(11,vF)]<|T_w [(0,.pointer (some ad)),(1,vI part),(2,vI loop),(7,vS aO O kO),(8,vI before),(9,vI t20),(10,vP b 0),(11,vF),(18,vS p2 t.list c2),(19,vI (t.list.length:Int)),(20,vI t20)]<|zMk ⟨_,(zC hM01).symm,H,rfl,rfl⟩
   rintro I0 ay m2 ⟨outer,heq,aJ,rfl,rfl⟩ -;subst o0;have ⟨h,h1,h2,h3,h4,aq⟩:=m6 aJ h h1 h2 h3 h4 aq;have ⟨h5,H⟩:=m2 aJ h5 H;refine zH<|yB ?_;obtain ⟨aQ,aB,hMc1⟩:=zB aV;refine zOc (hs:=[hB b (cInst x p5 c5)]) (L:=[hO Raw1 (vS aO O kO) cO,hO Raw1 (vS aG G kG) cG,hO Int (vS aL l kL) cL]) .normal (fun I' ah m'=>∃ (inner:Bool),aQ=inner/\I0.le I'/\ah=[]/\m'=[(0,.pointer (some ad)),(1,vI part),(2,vI loop),(7,vS aO O kO),(9,vI t20),(11,.bool outer),(12,.bool inner),(18,vS p2 t.list c2),(19,vI (t.list.length:Int)),(20,vI t20)]) (fun B0=>?_) ?_
   · have H:=iS I0;refine kI (by kernel_rfl) (by kernel_rfl)<|fP 2 [] [49] rfl<|zGo [49] aB ?_ ?_
     · intro bK N;refine fP 5 [] [52] rfl<|fA 2 aq [vS p2 t.list c2] (vS p2 t.list c2) rfl<|fP 7 [] [54] rfl<|bE N fun x2 bJ N=>dW rfl rfl h2 bJ ?_;intro ad3 bP hat3 bk;obtain ⟨p9,c9,rfl,h10⟩:=vR bk;refine fP 9 [] [56] rfl<|fA 2 hat3 [vS p9 x2.Point c9] (vS p9 x2.Point c9) rfl<|fP 11 [] [58] rfl<|bE N fun x3 hy6 N=>dW rfl rfl h10 hy6 ?_;intro ad4 ccs3 hat4 bH;obtain rfl:=bH;refine fA 0 hat4 [vI x3] (vI x3) rfl<|fP 16 [0] [62,63] rfl<|bE N fun x4 hy7 N=>dW rfl rfl h5 hy7 ?_;intro ad5 ccs4 hat5 hrep4;obtain rfl:=hrep4;exact fA 0 hat5 [vI x4] (vI x4) rfl<|zGr [] [12] rfl<|xR zQ<|T_w [(0,.pointer (some ad)),(1,vI part),(2,vI loop),(7,vS aO O kO),(9,vI t20),(11,.bool outer),(12,.bool (x3==x4)),(18,vS p2 t.list c2),(19,vI (t.list.length:Int)),(20,vI t20)]<|zMk ⟨_,(zC N).symm,H,rfl,rfl⟩
     intro bK N;exact zKV [] [(12,vF)]<|xR zQ<|T_w [(0,.pointer (some ad)),(1,vI part),(2,vI loop),(7,vS aO O kO),(9,vI t20),(11,.bool outer),(12,vF),(18,vS p2 t.list c2),(19,vI (t.list.length:Int)),(20,vI t20)]<|zMk ⟨_,(zC N).symm,H,rfl,rfl⟩
   rintro bL ay m2 ⟨inner,heq1,bd,rfl,rfl⟩ -;subst aQ;have ⟨h,h1,h2,h3,h4,aq⟩:=m6 bd h h1 h2 h3 h4 aq;have H:=H.trans bd;have bw:=aJ.trans bd;have ⟨hN3,hN2⟩:=m2 bw hN3 hN2;replace qO:RL bL cO O:=iM bw qO;have hG:RL bL cG G:=iM bw hG;have hL:RL bL cL l:=iM bw hL;obtain ⟨aj,ho1,hMa⟩:=zB hMc1;obtain ⟨g0,hyg,hMb⟩:=zB hMa;obtain ⟨g1,hg1,hMd⟩:=zB hMb;obtain ⟨l0,hyl,hMe⟩:=zB hMd;obtain ⟨l1,hap,hM9⟩:=zB hMe;clear hMa hMb hMd hMe;refine zZ<|yG [69] rfl<|zH ?_;cases outer with
   | true =>
    simp only [if_true,Option.some.injEq] at ho1;subst aj;obtain ⟨rfl,hyO,he,hu⟩:=hN3.last hyg;refine gQ rfl<|zT<|zH<|qI [(0,.pointer (some ad)),(1,vI part),(2,vI loop),(7,vS aO O kO),(9,vI t20),(12,.bool inner),(18,vS p2 t.list c2),(19,vI (t.list.length:Int)),(20,vI t20)]<|zQW inner qO hG hL hyO hN2 hg1 hyl hap ?_;intro I9 cO9 aG9 G9 kG9 cG9 aL9 kL9 cL9 le9 hO9 hG9 hL9 hN9;have eO:vS aO (O.set (W ((O.length:Int) - 1)).toNat ⟨vS aG9 G9 kG9⟩) kO=vS aO O kO:=by simp only [vS,cK]
    rw [<- eO];refine zN<|zH<|zJ<|yI [] [20] rfl<|yM<|qI [(0,.pointer (some ad)),(1,vI part),(2,vI loop),(7,vS aO (O.set (W ((O.length:Int) - 1)).toNat ⟨vS aG9 G9 kG9⟩) kO),(8,vI t20),(18,vS p2 t.list c2),(19,vI (t.list.length:Int)),(20,vI (W (t20+1)))] ?_;have hN10:=(hu (g1.set (W ((g1.length:Int) - 1)).toNat l1) (vS aG9 G9 kG9)).mono le9;have le11:bL.le I9:=le9;exact ih _ t20 (W (t20+1)) _ hM9 (H.trans le11) (h.mono le11) (h1.mono le11) (h2.mono le11) (h3.mono le11) (h4.mono le11) (aq.mono le11) hN10 hN9 hO9 hG9 hL9 hg ho hx
   | false =>
    simp only [cI,if_false] at ho1;obtain ⟨hbd,rfl⟩:=eU ho1;refine dU rfl<|qK 2 rfl ?_;intro I5 bC hl6;have kL0:SL I5 (vS aL l kL) l:=SL.of_frozen hl6 bC hL;refine qK 1 rfl ?_;intro I6 le7 hl7;have kG0:SL I6 (vS aG G kG) g:=SL.of_frozen (α:=List Int) hl7 le7 (by rw [zCW hG]; exact (hN2.mono bC).all kL0);have le8:=bC.trans le7;replace qO:RL I6 cO O:=iM le8 qO;have hN4:=(hN3.mono le8).push kG0 hbd;refine zJ<|yC 1 [] [70] rfl<|uO [z0] Raw1 ?_;intro b9 hb9;have k1:RL I6 [z0] ([⟨z0⟩]:List Raw1):=⟨[z0],[],rfl,rfl,⟨rfl,rfl⟩,rfl⟩;refine xI 0 rfl ?_;intro I7 le10 hl10;obtain ⟨bP,k0,k01⟩:=(SL.of_frozen hl10 le10 k1:SL I7 (vS (some ⟨b9,0,none⟩) ([⟨z0⟩]:List Raw1) 1) [⟨z0⟩]);replace qO:RL I7 cO O:=iM le10 qO;have hN4:=hN4.mono le10;refine sO (α:=Raw1) 56 1 0 rfl rfl rfl qO (.inl k0) k01 (app1 ho1 hN3.len) fun aO9 kO9 cO8 hO8=>wK (ah:=[hO Raw1 (vS aO9 (O++[⟨z0⟩]) kO9) cO8]) rfl<|yI [] [7] rfl<|zH<|kC (oT (Rp.sz Raw1))<|kC (oT (Rp.sz Int))<|kC (zY [2,1,0] (ah:=[hO Raw1 (vS aO9 (O++[⟨z0⟩]) kO9) cO8,hO Raw1 (vS none ([]:List Raw1) 0) [],hO Int (vS none ([]:List Int) 0) []]))<|qI [(0,.pointer (some ad)),(1,vI part),(2,vI loop),(7,vS aO9 (O++[⟨z0⟩]) kO9),(9,vI t20),(12,.bool inner),(18,vS p2 t.list c2),(19,vI (t.list.length:Int)),(20,vI t20)] ?_;obtain ⟨rfl,hyO,he,hu⟩:=hN4.last hyg;refine zQW inner hO8 RepL.nil RepL.nil hyO (.inl ⟨rfl,rfl,rfl,rfl⟩) hg1 hyl hap ?_;intro I9 cO9 aG9 G9 kG9 cG9 aL9 kL9 cL9 le9 hO9 hG9 hL9 hN9;have eO:vS aO9 ((O++[⟨z0⟩]:List Raw1).set (W (((O++[⟨z0⟩]:List Raw1).length:Int) - 1)).toNat ⟨vS aG9 G9 kG9⟩) kO9=vS aO9 (O++[⟨z0⟩]:List Raw1) kO9:=by simp only [vS,cK]
    rw [<- eO];refine zN<|zH<|zJ<|yI [] [20] rfl<|yM<|qI [(0,.pointer (some ad)),(1,vI part),(2,vI loop),(7,vS aO9 ((O++[⟨z0⟩]:List Raw1).set (W (((O++[⟨z0⟩]:List Raw1).length:Int) - 1)).toNat ⟨vS aG9 G9 kG9⟩) kO9),(8,vI t20),(18,vS p2 t.list c2),(19,vI (t.list.length:Int)),(20,vI (W (t20+1)))] ?_;have hN10:=(hu (g1.set (W ((g1.length:Int) - 1)).toNat l1) (vS aG9 G9 kG9)).mono le9;have le11:bL.le I9:=(le8.trans le10).trans le9;exact ih _ t20 (W (t20+1)) _ hM9 (H.trans le11) (h.mono le11) (h1.mono le11) (h2.mono le11) (h3.mono le11) (h4.mono le11) (aq.mono le11) hN10 hN9 hO9 hG9 hL9 hg ho hx
 intro hc N;have:=zC N;simp only [id] at this;subst this;refine wL<|T_w [(7,vS aO O kO)]<|yX 2 rfl ?_;intro I5 bC hl6;have kL0:SL I5 (vS aL l kL) l:=SL.of_frozen hl6 bC hL;refine yX 1 rfl ?_;intro I6 le7 hl7;have kG0:SL I6 (vS aG G kG) g:=SL.of_frozen (α:=List Int) hl7 le7 (by rw [zCW hG]; exact (hN2.mono bC).all kL0);refine yX 0 rfl ?_;intro I7 le8 hl8;have kO0:SL I7 (vS aO O kO) out:=SL.of_frozen (α:=List (List Int)) hl8 le8 (by rw [zCW qO]; exact (hN3.mono (bC.trans le7)).all kG0);exact hx _ _ _ _ (H.trans ((bC.trans le7).trans le8)) kO0
def qT (t:xT) (part:Int) (loop:Int):Option ((List (List (List Int)))):=do
 let out<-xZ t part loop ([]:List (List (List Int))) (-1) 0
 pure (id out)
theorem zBQ:∀ t part loop r,qT t part loop=some r->∀ {I:Imm}{ad:Addr}{p c p1 c1 p2 c2 p3 c3 p4 c4},(S4 I p t.Program.Arrays c)->(S4 I p1 t.Program.Parts c1)->(S4 I p2 t.list c2)->(S4 I p3 t.reads c3)->(S4 I p4 t.writes c4)->(At I ad [vS p t.Program.Arrays c,vS p1 t.Program.Parts c1,vS p2 t.list c2,vS p3 t.reads c3,vS p4 t.writes c4])->RT 74 [.pointer (some ad),vI part,vI loop] I [] (zAn  r):=by
 intro t part loop r N I ad p c p1 c1 p2 c2 p3 c3 p4 c4 h h1 h2 h3 h4 aq;unfold qT at N;refine yK func74 fun B=>wQ []<|zFB [(7,z0)]<|wP [8] rfl<|zZ<|yF<|yC 3 [] [17] rfl<|xE 2 aq [vS p2 t.list c2] (vS p2 t.list c2) rfl<|yI [] [19,20] rfl<|xY<|qI [(0,.pointer (some ad)),(1,vI part),(2,vI loop),(7,z0),(8,vI (-1)),(18,vS p2 t.list c2),(19,vI (t.list.length:Int)),(20,vI 0)]<|kC (oT (Rp.sz Raw1))<|kC (oT (Rp.sz Raw1))<|kC (oT (Rp.sz Int))<|kC (zY [2,1,0] (ah:=[hO Raw1 (vS none ([]:List Raw1) 0) [],hO Raw1 (vS none ([]:List Raw1) 0) [],hO Int (vS none ([]:List Int) 0) []])) ?_;obtain ⟨o02,ho02,aM⟩:=zB N;refine zAc t part loop [] (-1) 0 o02 ho02 (O:=[]) (G:=[]) (g:=[]) (l:=[]) (aO:=none) (kO:=0) iR h h1 h2 h3 h4 aq (.inl ⟨rfl,rfl,rfl,rfl⟩) (.inl ⟨rfl,rfl,rfl,rfl⟩) RepL.nil RepL.nil RepL.nil (fun _ _ _ h=>h) (fun _ _ h=>h) fun bR aO9 O9 kO9 bw hSL=>zS<|wP [6] rfl<|zH<|yY ?_;have:=zC aM;simp only [id] at this;subst this;exact xA ⟨_,_,(.tmp rfl ResV.nil),zQ,⟨_,rfl,rfl,hSL⟩⟩
def zG6 {σ:Type} (hsS:σ->List HA) (r:((List Int)×Bool)×σ):KT:=fun kk I' ah v=>
  ∃ v0 v1,hsS r.2=ah/\v=tupV [v0,v1]/\SL I' v0 r.1.1/\v1=.bool r.1.2
def pJ (part:Int) (t:xT) (out:List Int) (t38:Int):Option (List Int):=do
 if (decide (t38<(t.list.length:Int))) then
  let x<-idx t.list t38
  let au<-(do
    if (decide (x.Part<part)) then
     let aN<-app 8 out ([t38]:List Int)
     pure (id aN)
    else
     pure (id out)
      : Option (List Int))
  pJ part t au (W (t38+1))
 else
  pure (id out)
 partial_fixpoint
theorem zFb (part:Int) (t:xT):∀ (out:List Int) (t38:Int) (o:List Int),pJ part t out t38=some o->∀ {B}{I0 I:Imm}{Q}{loop:Int}{σ:Type}{taken:((List (List Int))->σ->Option ((List Int)×σ))}{fv:Value}{hsS:σ->List HA}{s:σ}{ad:Addr}{p3 c2 p4 c3 p5 c4 p6 c5 p7 c6 p8 c7 cs},I0.le I->(FS1 Tryz.prog I hsS fv taken)->(S4 I p3 t.Program.Arrays c2)->(S4 I p4 t.Program.Parts c3)->(S4 I p5 t.list c4)->(S4 I p6 t.reads c5)->(S4 I p7 t.writes c6)->(At I ad [vS p3 t.Program.Arrays c2,vS p4 t.Program.Parts c3,vS p5 t.list c4,vS p6 t.reads c5,vS p7 t.writes c6])->(RL I cs out)->NG Q->NO Q->(∀ (I':Imm) (aj:List Int) (p9:Option Addr) (c8:Nat) (az:List Value),o=aj->I0.le I'->(RL I' az aj)->T 87 B Q (.exit 0) I' (hO Int (vS p9 aj c8) az::(hsS s)) [(1,vI part),(2,vI loop),(3,fv),(10,.pointer (some ad)),(12,vS p9 aj c8)])->J Tryz.prog 87 B (nav (bodyOf f30) [1,1,1,1,0,1,0]) Q I (hO Int (vS p8 out c7) cs::(hsS s)) [(1,vI part),(2,vI loop),(3,fv),(10,.pointer (some ad)),(12,vS p8 out c7),(36,vS p5 t.list c4),(37,vI (t.list.length:Int)),(38,vI t38)]:=by
 refine pJ.partial_correctness part t _ fun aI ih out t38 o N B I0 I Q loop σ taken fv hsS s ad p3 c2 p4 c3 p5 c4 p6 c5 p7 c6 p8 c7 cs H h2 h6 h7 h8 h9 h10 aq h12 hg ho hx=>yO hg ho<|yG [39] rfl<|zZ<|yE N ?_ ?_
 · intro aZ N;refine zT<|zZ<|yH<|yF<|yC 1 [] [40] rfl<|bE N fun x bi N=>xL rfl rfl h8 bi ?_;intro ad1 bv av ax;obtain ⟨bc,c9,rfl,h14⟩:=vR ax;refine xE 0 av (cInst x bc c9) (vA (cInst x bc c9)) rfl<|wS [vI 0,vI 0,z0] ?_;intro b1 hb1;refine yC 5 [] [13] rfl<|zBd 0 (cInst x bc c9) (hB b1 (cInst x bc c9)::hO Int (vS p8 out c7) cs::(hsS s)) rfl rfl rfl rfl<|yD rfl<|yV<|yI [0] [46] rfl<|zH ?_;obtain ⟨aQ,aB,hMc1⟩:=zB N;refine qV (fun I' ah m'=>∃ (au:List Int) (aT:Option Addr) (bj:Nat) (aR:List Value),aQ=au/\I.le I'/\(RL I' aR au)/\ah=(hO Int (vS aT au bj) aR::(hsS s))/\m'=[(1,vI part),(2,vI loop),(3,fv),(10,.pointer (some ad)),(12,vS aT au bj),(36,vS p5 t.list c4),(37,vI (t.list.length:Int)),(38,vI t38)]) ?_ ?_
   · have H:=iS I;refine yE aB ?_ ?_
     · intro bK N;refine zJ<|yC 2 [] [47,48] rfl<|uO [vI t38] Int ?_;intro b2 hb2;have h16:RL I [vI t38] ([t38]:List Int):=rI [t38];obtain ⟨aN,bu,N⟩:=zB N;exact sO 3 1 2 rfl rfl rfl h12 (.inr ⟨0,rfl⟩) h16 bu fun bD bf aS h17=>sE (fT [hO Int (vS (some ⟨b2,0,none⟩) ([t38]:List Int) 1) [vI t38],hB b1 (cInst x bc c9),hO Int (vS bD aN bf) aS] (hsS s) [1,2] (ah:=[hB b1 (cInst x bc c9),hO Int (vS bD aN bf) aS]) rfl (by decide))<|wK (ah:=(hB b1 (cInst x bc c9)::hO Int (vS bD aN bf) aS::(hsS s))) rfl<|yI [] [12] rfl<|xR (fT [hB b1 (cInst x bc c9),hO Int (vS bD aN bf) aS] (hsS s) [1] rfl (by decide))<|yN<|zV ⟨_,_,_,_,(zC N).symm,H,h17,rfl,rfl⟩
     intro bK N;exact zT<|xR (fT [hB b1 (cInst x bc c9),hO Int (vS p8 out c7) cs] (hsS s) [1] rfl (by decide))<|yN<|zV ⟨_,_,_,_,(zC N).symm,H,h12,rfl,rfl⟩
   rintro bG ay m2 ⟨au,aT,bj,aR,heq1,aJ,h15,rfl,rfl⟩;subst aQ;have ⟨h2,h6,h7,h8,h9,h10⟩:=m6 aJ h2 h6 h7 h8 h9 h10;have ⟨aq,H⟩:=m2 aJ aq H;exact zN<|zH<|zJ<|yI [] [38] rfl<|yM<|nT<|ih au (W (t38+1)) _ hMc1 H h2 h6 h7 h8 h9 h10 aq h15 hg ho hx
 intro aZ N;exact wL<|yN<|hx _ _ _ _ _ (zC N).symm H h12
def nO {σ:Type} (taken:((List (List Int))->σ->Option ((List Int)×σ))) (y4:(List (List (List Int)))) (bo:List Int) (s:σ) (t57:Int):Option (List Int×σ):=do
 if (decide (t57<(y4.length:Int))) then
  let x1<-idx y4 t57
  let (y5,s1)<-taken x1 s
  let out6<-app 8 bo y5
  nO taken y4 out6 s1 (W (t57+1))
 else
  pure (bo,s)
 partial_fixpoint
theorem zFc {σ:Type} (taken:((List (List Int))->σ->Option ((List Int)×σ))) (y4:(List (List (List Int)))):∀ (bo:List Int) (s:σ) (t57:Int) (o:List Int×σ),nO taken y4 bo s t57=some o->∀ {B}{I0 I:Imm}{Q}{part:Int}{t:xT}{fv:Value}{hsS:σ->List HA}{ad:Addr}{p3 c2 p4 c3 p5 c4 p6 c5 p7 c6 bt br p14 bz bB},I0.le I->(FS1 Tryz.prog I hsS fv taken)->(S4 I p3 t.Program.Arrays c2)->(S4 I p4 t.Program.Parts c3)->(S4 I p5 t.list c4)->(S4 I p6 t.reads c5)->(S4 I p7 t.writes c6)->(At I ad [vS p3 t.Program.Arrays c2,vS p4 t.Program.Parts c3,vS p5 t.list c4,vS p6 t.reads c5,vS p7 t.writes c6])->(S4 I bt y4 br)->(RL I bB bo)->NG Q->NO Q->(∀ (I':Imm) (out5:List Int) (s5:σ) (p15:Option Addr) (c14:Nat) (bI:List Value),o=(out5,s5)->I0.le I'->(RL I' bI out5)->T 87 B Q (.exit 2) I' (hO Int (vS p15 out5 c14) bI::hsS s5) [(1,vI part),(10,.pointer (some ad)),(12,vS p15 out5 c14)])->J Tryz.prog 87 B (nav (bodyOf f30) [1,1,1,1,1,0,1,0]) Q I (hO Int (vS p14 bo bz) bB::(hsS s)) [(1,vI part),(3,fv),(10,.pointer (some ad)),(12,vS p14 bo bz),(55,vS bt y4 br),(56,vI (y4.length:Int)),(57,vI t57)]:=by
 refine nO.partial_correctness taken y4 _ fun aI ih bo s t57 o N B I0 I Q part t fv hsS ad p3 c2 p4 c3 p5 c4 p6 c5 p7 c6 bt br p14 bz bB H h2 h6 h7 h8 h9 h10 aq h18 h19 hg ho hx=>yO hg ho<|yG [58] rfl<|zZ<|yE N ?_ ?_
 · intro bO N;refine zT<|zZ<|yH<|yF<|bE N fun x1 hy6 N=>xL rfl rfl h18 hy6 ?_;intro ad2 bP bb bk;obtain ⟨v010,rfl,h21⟩:=bk;obtain ⟨p16,c15,rfl⟩:=h21.form;refine xE 0 bb [vS p16 x1 c15] (vS p16 x1 c15) rfl<|yI [] [16] rfl<|zH<|zJ<|yC 3 [] [61,62,63] rfl ?_;obtain ⟨⟨y5,s1⟩,hy7,N⟩:=zB N;refine sE (ah:=(hsS s)++[hO Int (vS p14 bo bz) bB]) (zJN [hO Int (vS p14 bo bz) bB] (hsS s))<|zQR rfl rfl h2 hy7 h21 rfl ?_;rintro I06 v011 bC h22;refine sE (ah:=(hO Int (vS p14 bo bz) bB::(hsS s1))) (zJN (hsS s1) [hO Int (vS p14 bo bz) bB]) ?_;have ⟨h2,h6,h7,h8,h9,h10⟩:=m6 bC h2 h6 h7 h8 h9 h10;have ⟨aq,h18,h19,H⟩:=m4 bC aq h18 h19 H;obtain ⟨p17,c16,rfl⟩:=h22.form;obtain ⟨ccs3,k0,k01⟩:=h22;have h22:SL I06 (vS p17 y5 c16) y5:=⟨_,k0,k01⟩;obtain ⟨out6,hy8,N⟩:=zB N;exact sO 3 1 0 rfl rfl rfl h19 (.inl k0) k01 hy8 fun p18 c17 cs6 h23=>wK (ah:=(hO Int (vS p18 out6 c17) cs6::(hsS s1))) rfl<|yI [] [12] rfl<|zN<|zH<|zJ<|yI [] [57] rfl<|yM<|nT<|ih out6 s1 (W (t57+1)) _ N H h2 h6 h7 h8 h9 h10 aq h18 h23 hg ho hx
 intro bO N;exact wL<|yN<|hx _ _ _ _ _ _ (zC N).symm H h19
def pK (part:Int) (t:xT) (out7:List Int) (t72:Int):Option (List Int):=do
 if (decide (t72<(t.list.length:Int))) then
  let x2<-idx t.list t72
  let out9<-(do
    if (decide (x2.Part>part)) then
     let out10<-app 8 out7 ([t72]:List Int)
     pure (id out10)
    else
     pure (id out7)
      : Option (List Int))
  pK part t out9 (W (t72+1))
 else
  pure (id out7)
 partial_fixpoint
theorem zFd (part:Int) (t:xT):∀ (out7:List Int) (t72:Int) (o:List Int),pK part t out7 t72=some o->∀ {B}{I0 I:Imm}{Q}  {bh:List HA}{p5 c4 p19 c18 cs7},I0.le I->(S4 I p5 t.list c4)->(RL I cs7 out7)->NG Q->NO Q->(∀ (I':Imm) (out8:List Int) (p20:Option Addr) (c19:Nat) (cs8:List Value),o=out8->I0.le I'->(RL I' cs8 out8)->T 87 B Q (.exit 4) I' (hO Int (vS p20 out8 c19) cs8::bh) [(12,vS p20 out8 c19)])->J Tryz.prog 87 B (nav (bodyOf f30) [1,1,1,1,1,1,0,1,0]) Q I (hO Int (vS p19 out7 c18) cs7::bh) [(1,vI part),(12,vS p19 out7 c18),(70,vS p5 t.list c4),(71,vI (t.list.length:Int)),(72,vI t72)]:=by
 refine pK.partial_correctness part t _ fun aI ih out7 t72 o N B I0 I Q bh p5 c4 p19 c18 cs7 H h8 h24 hg ho hx=>yO hg ho<|yG [73] rfl<|zZ<|yE N ?_ ?_
 · intro hc5 N;refine zT<|zZ<|yH<|yF<|yC 1 [] [74] rfl<|bE N fun x2 hy9 N=>xL rfl rfl h8 hy9 ?_;intro ad3 ccs4 hat3 bH;obtain ⟨p21,c20,rfl,h26⟩:=vR bH;refine xE 0 hat3 (cInst x2 p21 c20) (vA (cInst x2 p21 c20)) rfl<|wS [vI 0,vI 0,z0] ?_;intro b3 hb3;refine yC 5 [] [17] rfl<|zBd 0 (cInst x2 p21 c20) (hB b3 (cInst x2 p21 c20)::hO Int (vS p19 out7 c18) cs7::bh) rfl rfl rfl rfl<|yD rfl<|yV<|yI [0] [80] rfl<|zH ?_;obtain ⟨o04,ho04,hMc2⟩:=zB N;refine qV (fun I' ah m'=>∃ (out9:List Int) (p22:Option Addr) (c21:Nat) (cs9:List Value),o04=out9/\I.le I'/\(RL I' cs9 out9)/\ah=(hO Int (vS p22 out9 c21) cs9::bh)/\m'=[(1,vI part),(12,vS p22 out9 c21),(70,vS p5 t.list c4),(71,vI (t.list.length:Int)),(72,vI t72)]) ?_ ?_
   · have H:=iS I;refine yE ho04 ?_ ?_
     · intro hc6 N;refine zJ<|yC 2 [] [81,82] rfl<|uO [vI t72] Int ?_;intro b4 hb4;have h28:RL I [vI t72] ([t72]:List Int):=rI [t72];obtain ⟨out10,hy10,N⟩:=zB N;exact sO 3 1 2 rfl rfl rfl h24 (.inr ⟨0,rfl⟩) h28 hy10 fun p23 c22 cs10 h29=>sE (fT [hO Int (vS (some ⟨b4,0,none⟩) ([t72]:List Int) 1) [vI t72],hB b3 (cInst x2 p21 c20),hO Int (vS p23 out10 c22) cs10] bh [1,2] (ah:=[hB b3 (cInst x2 p21 c20),hO Int (vS p23 out10 c22) cs10]) rfl (by decide))<|wK (ah:=(hB b3 (cInst x2 p21 c20)::hO Int (vS p23 out10 c22) cs10::bh)) rfl<|yI [] [12] rfl<|xR (fT [hB b3 (cInst x2 p21 c20),hO Int (vS p23 out10 c22) cs10] bh [1] rfl (by decide))<|yN<|zV ⟨_,_,_,_,(zC N).symm,H,h29,rfl,rfl⟩
     intro hc6 N;exact zT<|xR (fT [hB b3 (cInst x2 p21 c20),hO Int (vS p19 out7 c18) cs7] bh [1] rfl (by decide))<|yN<|zV ⟨_,_,_,_,(zC N).symm,H,h24,rfl,rfl⟩
   rintro I08 ay m2 ⟨out9,p22,c21,cs9,heq4,le8,h27,rfl,rfl⟩;subst o04;have ⟨h8,H⟩:=m2 le8 h8 H;exact zN<|zH<|zJ<|yI [] [72] rfl<|yM<|nT<|ih out9 (W (t72+1)) _ hMc2 H h8 h27 hg ho hx
 intro hc5 N;exact wL<|yN<|hx _ _ _ _ _ (zC N).symm H h24
def fH {σ:Type} (p:zD) (part:Int) (loop:Int) (taken:((List (List Int))->σ->Option ((List Int)×σ))) (s:σ):Option (((List Int)×Bool)×σ):=do
 let (y1,y2)<-gY p
 let t32<-(do
   if (!y2) then
    pure true
   else
    let y3<-sS p part loop
    pure (!y3)
     : Option Bool)
 if t32 then
  pure ((([]:List Int),false),s)
 else
  let t<-y1
  let aj<-pJ part t ([]:List Int) 0
  let y4<-qT t part loop
  let (out5,s1)<-nO taken y4 aj s 0
  let out8<-pK part t out5 0
  pure ((out8,true),s1)
theorem zIB:∀ {σ:Type} (p:zD) (part:Int) (loop:Int) (taken:((List (List Int))->σ->Option ((List Int)×σ))) (s:σ) r,fH p part loop taken s=some r->∀ {I:Imm}{p1 c p2 c1}{fv:Value}{hsS:σ->List HA},(S4 I p1 p.Arrays c)->(S4 I p2 p.Parts c1)->(FS1 Tryz.prog I hsS fv taken)->RT 30 [vA (cProg p p1 c p2 c1),vI part,vI loop,fv] I (hsS s) (zG6 hsS r):=by
 intro σ p part loop taken s r N I p1 c p2 c1 fv hsS h h1 h2;unfold fH at N;refine yK func30 fun B=>?_;have H:=iS I;refine yF<|tT (cProg p p1 c p2 c1) ?_;intro b hb;refine wI [] []<|yV<|rH 1 [0] [(20,vA (cProg p p1 c p2 c1))] ?_;obtain ⟨⟨y1,y2⟩,hy,N⟩:=zB N;refine xM (zBk p _ hy h h1) ?_;rintro I0 ay v2 k2 le - ⟨v0,v01,rfl,rfl,h3,rfl⟩ -;have ⟨h2,h,h1,H⟩:=m4 le h2 h h1 H;refine yI [] [10,11] rfl<|zZ<|yB ?_;refine wR N ((hsS s)) (fun t32=>[(1,vI part),(2,vI loop),(3,fv),(10,v0),(32,.bool t32)]) (fun o0 aD=>?_) ?_
 · have H:=iS I0;refine zJ<|yC 3 [] [26] rfl<|xW [26] aD ?_ ?_
   · intro hc N;exact wI [] [(32,vY)]<|xR (fT [hB b (cProg p p1 c p2 c1)] (hsS s) [] rfl (by decide))<|yN<|zV (ct N H)
   intro hc N;refine rH 6 [0] [(27,vA (cProg p p1 c p2 c1)),(28,vI part),(29,vI loop)]<|bE N fun y3 aA N=>vU (zAF p part loop _ aA h h1) ?_;intro aX ae;have H:=H.trans ae;exact yI [] [32] rfl<|xR (fT [hB b (cProg p p1 c p2 c1)] (hsS s) [] rfl (by decide))<|yN<|zV (ct N H)
 intro t32 aW aF aV;have ⟨h2,h3⟩:=m2 aF h2 h3;refine zH<|yE aV ?_ ?_
 · intro aH N;refine yG [8,9] rfl<|xD<|zG ?_;obtain rfl:=zC N;exact xA ⟨_,_,(.tmp rfl (.tmp rfl ResV.nil)),(fun _ h=>h),⟨_,_,rfl,rfl,(SL.nil _),rfl⟩⟩
 intro aH N;refine zT<|zFB [(12,z0)]<|zZ<|yF<|rH 1 [] [(33,v0)] ?_;obtain ⟨t,aK,N⟩:=zB N;obtain ⟨ad,aP,rfl,aq,am⟩:=zJ9 h3 aK;obtain ⟨p3,c2,p4,c3,p5,c4,p6,c5,p7,c6,rfl,h6,h7,h8,h9,h10⟩:=zAv am;refine yC 3 [] [35] rfl<|xE 2 aq [vS p5 t.list c4] (vS p5 t.list c4) rfl<|yI [] [37,38] rfl<|xY<|qI [(1,vI part),(2,vI loop),(3,fv),(10,.pointer (some ad)),(12,z0),(36,vS p5 t.list c4),(37,vI (t.list.length:Int)),(38,vI 0)]<|zAM Int fun h11=>?_;obtain ⟨o02,ho02,aM⟩:=zB N;refine zFb part t ([]:List Int) 0 o02 ho02 iR h2 h6 h7 h8 h9 h10 aq h11 (fun _ _ _ h=>h) (fun _ _ h=>h) ?_;intro bL aj p9 c8 az heq2 bd h13;subst o02;have ⟨h2,h6,h7,h8,h9,h10⟩:=m6 bd h2 h6 h7 h8 h9 h10;have aq:=aq.mono bd;refine zS<|zZ<|yF<|yC 3 [] [52,53,54] rfl ?_;obtain ⟨y4,bJ,N⟩:=zB aM;refine xM (zBQ t part loop _ bJ h6 h7 h8 h9 h10 aq) ?_;rintro bR ay v2 k2 bw - ⟨v09,rfl,rfl,h18⟩ -;have ⟨h2,h6,h7,h8,h9,h10⟩:=m6 bw h2 h6 h7 h8 h9 h10;have ⟨aq,h13⟩:=m2 bw aq h13;obtain ⟨bt,br,rfl⟩:=h18.form;refine yI [] [56,57] rfl<|xY<|qI [(1,vI part),(3,fv),(10,.pointer (some ad)),(12,vS p9 aj c8),(55,vS bt y4 br),(56,vI (y4.length:Int)),(57,vI 0)] ?_;obtain ⟨⟨o03,s1⟩,ho03,hMl1⟩:=zB N;refine zFc taken y4 aj s 0 (o03,s1) ho03 iR h2 h6 h7 h8 h9 h10 aq h18 h13 (fun _ _ _ h=>h) (fun _ _ h=>h) ?_;intro I07 out5 s5 p15 c14 bI heq3 le7 h20;obtain ⟨rfl,rfl⟩:=Prod.mk.inj heq3;have ⟨h8,aq⟩:=m2 le7 h8 aq;refine zS<|zZ<|yF<|yC 3 [] [69] rfl<|xE 2 aq [vS p5 t.list c4] (vS p5 t.list c4) rfl<|yI [] [71,72] rfl<|xY<|qI [(1,vI part),(12,vS p15 o03 c14),(70,vS p5 t.list c4),(71,vI (t.list.length:Int)),(72,vI 0)] ?_;obtain ⟨o05,ho05,hMl2⟩:=zB hMl1;refine zFd part t o03 0 o05 ho05 iR h8 h20 (fun _ _ _ h=>h) (fun _ _ h=>h) ?_;intro I09 out8 p20 c19 cs8 heq5 le9 h25;subst o05;refine zS<|wP [8,9] rfl<|xD<|yX 0 rfl ?_;intro bS le10 hl0;have h30:=SL.of_frozen hl0 le10 h25;obtain rfl:=zC hMl2;exact xA ⟨_,_,(.tmp rfl (.tmp rfl ResV.nil)),(fun _ h=>h),⟨_,_,rfl,rfl,h30,rfl⟩⟩
def zAG (r:List (List Int)):KT:=fun kk I' ah v=>
  ∃ a0 c0 s0,ah=[.osl (.slice a0 r.length c0) (Rp.sz (List Int)) s0]/\v=tupV [(.slice a0 r.length c0)]/\RepL (Rp.rep I') (Rp.sz (List Int)) s0 r
def jV (s:List (List Int)):Option (List (List Int)):=app 24 ([]:List (List Int)) s
theorem zDZ:∀ s r,jV s=some r->∀ {I:Imm}{p c},SL I (vS p s c) s->RT 32 [vS p s c] I [] (zAG r):=by
 intro s r N I p c h;unfold jV at N;obtain ⟨aP,k0,k01⟩:=h;refine yK func32 fun B=>?_;cases p with
 | none =>
  have hs:s=[]:=by
    rcases k0 with ⟨hv,rfl⟩ | ⟨b0,off,len,cap,cc,hv,k2⟩
    · cases s with
      | nil=>rfl
      | cons _ _=>simp at hv
    simp at hv
  subst hs;obtain ⟨_,rfl⟩:=eU N;refine yG [0,2] rfl<|zZ<|yF<|yC 1 [] [3] rfl<|zOb true rfl rfl ?_ rfl;exact wI [] [(4,vY)]<|zH<|dU rfl<|wQ [(2,z0)]<|xD<|zG<|xR (oT (Rp.sz (List Int)))<|xA ⟨_,_,(.tmp rfl ResV.nil),(zX [0] rfl (by decide)),⟨none,0,[],rfl,rfl,rfl⟩⟩
 | some ad =>
  refine yG [0,2] rfl<|zZ<|yF<|yC 1 [] [3] rfl<|zOb false rfl rfl ?_ rfl;refine yI [] [0,4] rfl<|zH<|gQ rfl<|zT<|yV<|uO [] (List Int) ?_;intro b2 hb2;have h1:RL I [] ([]:List (List Int)):=rfl;exact yC 2 [] [6] rfl<|sO 27 1 0 rfl rfl rfl h1 (.inl k0) k01 N fun p1 c1 cs h2=>yI [] [2] rfl<|xD<|xA ⟨_,_,(.tmp rfl ResV.nil),(zX [0] rfl (by decide)),⟨_,_,_,rfl,rfl,h2⟩⟩
def dJ (choices:(List Int)) (n0:Int) (many:Int):Option (Int):=do
 if ((choices.length:Int)==0) then
  pure (id 0)
 else
  let q<-rem n0 (choices.length:Int)
  let x<-idx choices q
  let q1<-rem x many
  pure (if q1>0 then q1 else 0)
theorem zIC:∀ choices n0 many r,dJ choices n0 many=some r->∀ {I:Imm}{p c},(S4 I p choices c)->RT 33 [vS p choices c,vI n0,vI many] I [] (yQ  r):=by
 intro choices n0 many r N I p c h;unfold dJ at N;refine yK func33 fun B=>wQ []<|zZ<|yG [9] rfl<|zH<|yE N ?_ ?_
 · intro hc N;refine yG [6] rfl<|xD<|zG ?_;obtain rfl:=zC N;exact wF
 intro hc N;refine zT<|yV<|yC 4 [] [10,11,13] rfl<|bE N fun q hy N=>zMi rfl hy<|bE N fun x aA N=>xL rfl rfl h aA ?_;intro ad aP aq am;obtain rfl:=am;refine xE 0 aq [vI x] (vI x) rfl<|yC 8 [] [17] rfl<|bE N fun q1 aK N=>zMi rfl aK<|yI [] [6] rfl<|zH<|yY ?_;obtain rfl:=zC N;exact wF
def jG (s:List (List Int)) (i:Int) (j:Int):Option (List (List Int)):=delG s i j
theorem zCx:∀ (s:List (List Int)) (i j:Int) r,jG s i j=some r->∀ {I:Imm}{p c cs},RL I cs s->RT 34 [vS p s c,vI i,vI j] I [hO (List Int) (vS p s c) cs] (zAG r):=by
 intro s i j r N I p c cs h;obtain ⟨i0,hi0,hz1⟩:∃ i0,Tryz.prog.info? 27=some i0/\i0.size=1:=by
  have h9:(Tryz.prog.info? 27).map (fun x=>x.size)=some 1:=by kernel_rfl
  cases hq:Tryz.prog.info? 27 with
  | none=>rw [hq] at h9; cases h9
  | some i0=>rw [hq] at h9; exact ⟨i0,rfl,Option.some.inj h9⟩
 refine zK2 (fun blk off cap i j zs w h1 h2 h3 h4 h5=>?_) N h (fun k a' c' cs' h1 h2=>⟨a',c',cs',rfl,rfl,h1⟩);have h9:=Go.Proofs.AnyE.slices_Delete Tryz.laysDel encR oneV zR Tryz.zeroValue27 i0 hi0 hz1 blk off cap i j zs.toArray w h1 (by simpa using h2) h3 h4 (by simpa using h5);have h10:=(show Calls Tryz.prog 34 _ w _ from h9);simpa using h10
def zBR (b0:Nat) (r:(List Int)×Int):KT:=fun kk I' ah v=>
  ∃ v0 k0,ah=[.blk b0 ⟨k0⟩]/\v=tupV [v0]/\SL I' v0 r.1/\Rp.rep I' k0 r.2
def uE (x:(List Int)) (out:List Int) (left:List (List Int)) (x2:Int):Option ((List Int×Int)):=do
 if (decide ((left.length:Int)>0)) then
  let y1<-dJ x x2 (left.length:Int)
  let x4<-idx left y1
  let au<-app 8 out x4
  let y2<-jG left y1 (W (y1+1))
  uE x au y2 (W (x2+1))
 else
  pure (out,x2)
 partial_fixpoint
theorem zBF (x:(List Int)):∀ (out:List Int) (left:List (List Int)) (x2:Int) (o:(List Int×Int)),uE x out left x2=some o->∀ {B}{I0 I:Imm}{Q}  {ad:Addr}{p1 c1}{r0:Nat}{p3 c3 az p4 c4 aR},I0.le I->(S4 I p1 x c1)->(At I ad [vS p1 x c1])->(RL I az out)->(RL I aR left)->NG Q->NO Q->(∀ (I':Imm) (aj:List Int) (x3:Int) (p5:Option Addr) (c5:Nat) (aS:List Value),o=(aj,x3)->I0.le I'->(RL I' aS aj)->T 32 B Q (.exit 0) I' [hO Int (vS p5 aj c5) aS,hB r0 [vI x3]] [(5,vS p5 aj c5)])->J Tryz.prog 32 B (nav (bodyOf f31) [1,1,1,0,0]) Q I [hO Int (vS p3 out c3) az,hO (List Int) (vS p4 left c4) aR,hB r0 [vI x2]] [(1,.pointer (some ad)),(2,vP r0 0),(5,vS p3 out c3),(6,vS p4 left c4)]:=by
 refine uE.partial_correctness x _ fun aI ih out left x2 o N B I0 I Q ad p1 c1 r0 p3 c3 az p4 c4 aR H h1 aq h4 h5 hg ho hx=>yO hg ho<|yB<|yG [12] rfl<|zH<|yE N ?_ ?_
 · intro hc N;refine zT<|xY<|yF<|xE 0 aq [vS p1 x c1] (vS p1 x c1) rfl<|yC 4 [2] [14,16] rfl<|bE N fun y1 aA N=>fB (zIC x x2 (left.length:Int) _ aA h1) ?_;intro aW ae;have ⟨h1,aq,h4,h5,H⟩:=m5 ae h1 aq h4 h5 H;refine yI [] [7] rfl<|yV<|yC 2 [2] [19] rfl<|xJ 2 [vI (W (x2+1))] rfl<|yD rfl<|yV<|yC 3 [] [20,21,22] rfl<|bE N fun x4 aK N=>oH 1 rfl rfl rfl h5 aK ?_;intro ad1 aP av bM am;obtain ⟨v01,rfl,h8⟩:=am;obtain ⟨p6,c6,rfl⟩:=h8.form;refine zAX 1 0 av bM [vS p6 x4 c6] (vS p6 x4 c6) rfl rfl ?_;obtain ⟨bv,k0,k01⟩:=h8;have h8:SL aW (vS p6 x4 c6) x4:=⟨_,k0,k01⟩;obtain ⟨au,bi,N⟩:=zB N;refine sO 3 1 0 rfl rfl rfl h4 (.inl k0) k01 bi fun p7 c7 bB h9=>sE (zY [0,1,2] (ah:=[hO Int (vS p7 au c7) bB,hO (List Int) (vS p4 left c4) aR,hB r0 [vI (W (x2+1))]]))<|yI [] [5] rfl<|zH<|zJ<|yC 4 [] [26,27,29] rfl<|sE (zY [1,0,2] (ah:=[hO (List Int) (vS p4 left c4) aR,hO Int (vS p7 au c7) bB,hB r0 [vI (W (x2+1))]]))<|bE N fun y2 bu N=>tY (zCx left y1 (W (y1+1)) _ bu h5) rfl ?_;rintro aX ay v2 k2 aF - ⟨p8,c8,bI,rfl,rfl,h10⟩ -;have ⟨h1,aq,h9,H⟩:=m4 aF h1 aq h9 H;exact yI [] [6] rfl<|zN<|yM<|kC (zX [1,0,2] rfl (by decide))<|nT<|ih au y2 (W (x2+1)) _ N H h1 aq h9 h10 hg ho hx
 intro hc N;exact wL<|xR (zX [0,2] rfl (by decide))<|yN<|hx _ _ _ _ _ _ (zC N).symm H h4
def vQ (group:(List (List Int))) (x:(List Int)) (x1:Int):Option ((List Int)×Int):=do
 let y<-jV group
 let (aj,x3)<-uE x ([]:List Int) y x1
 pure (aj,x3)
theorem zCN:∀ group x x1 r,vQ group x x1=some r->∀ {I:Imm}{p c}{ad:Addr}{p1 c1}{r0:Nat},(S4 I p group c)->(S4 I p1 x c1)->(At I ad [vS p1 x c1])->RT 31 [vS p group c,.pointer (some ad),vP r0 0] I [hB r0 [vI x1]] (zBR r0 r):=by
 intro group x x1 r N I p c ad p1 c1 r0 h h1 aq;unfold vQ at N;refine yK func31 fun B=>wQ []<|zFB [(5,z0)]<|yV<|yC 1 [] [8] rfl<|bE N fun y hy N=>xM (zDZ group _ hy h) ?_;rintro I0 ay v2 k2 le - ⟨p2,c2,cs,rfl,rfl,h2⟩ -;have ⟨h1,aq⟩:=m2 le h1 aq;refine yI [] [6] rfl<|zZ<|yH<|qI [(1,.pointer (some ad)),(2,vP r0 0),(5,z0),(6,vS p2 y c2)]<|zAM Int fun h3=>?_;obtain ⟨o0,aD,aM⟩:=zB N;refine zBF x ([]:List Int) y x1 o0 aD iR h1 aq h3 h2 (fun _ _ _ h=>h) (fun _ _ h=>h) ?_;intro bG aj x3 p5 c5 aS heq aJ h6;subst o0;refine zS<|wP [4] rfl<|xD<|yX 0 rfl ?_;intro bL bd hl0;have h11:=SL.of_frozen hl0 bd h6;obtain rfl:=zC aM;exact xA ⟨_,_,(.tmp rfl ResV.nil),(zX [0] rfl (by decide)),⟨_,_,rfl,rfl,h11,rfl⟩⟩
def dX (r:(List Int)×Bool):KT:=fun kk I' ah v=>
  ∃ v0 v1,ah=[]/\v=tupV [v0,v1]/\SL I' v0 r.1/\v1=.bool r.2
def mD (p:zD) (part:Int) (loop:Int) (choices:(List Int)):Option ((List Int)×Bool):=do
 let ((y1,y2),_)<-fH p part loop (fun x0 n=>vQ x0 choices n) (0:Int)
 pure (y1,y2)
theorem zCy:∀ p part loop choices r,mD p part loop choices=some r->∀ {I:Imm}{p1 c p2 c1 p3 c2},(S4 I p1 p.Arrays c)->(S4 I p2 p.Parts c1)->(S4 I p3 choices c2)->RT 10 [vA (cProg p p1 c p2 c1),vI part,vI loop,vS p3 choices c2] I [] (dX  r):=by
 intro p part loop choices r N I p1 c p2 c1 p3 c2 h h1 h2;unfold mD at N;refine yK func10 fun B=>yF<|tT (cProg p p1 c p2 c1) ?_;intro b hb;refine tT [vS p3 choices c2] ?_;intro b1 hb1;refine xI 0 rfl ?_;intro I0 le hl0;have aq:At I0 ⟨b1,0,none⟩ [vS p3 choices c2]:=At.of_blk hl0;have ⟨h,h1,h2⟩:=m3 le h h1 h2;refine wI [] []<|yV<|wS [vI 0] ?_;intro b2 hb2;refine xJ 0 [vI 0] rfl<|yD rfl<|yV<|rH 4 [1] [(11,vA (cProg p p1 c p2 c1)),(12,vI part),(13,vI loop),(14,.func (.func 31) ⟨[]⟩ ⟨[vP b1 0,vP b2 0]⟩)] ?_;have hf0:FS1 Tryz.prog I0 (fun n=>[hB b2 [vI n]]) (.func (.func 31) ⟨[]⟩ ⟨[vP b1 0,vP b2 0]⟩) (fun x0 n=>vQ x0 choices n):=by
   refine FS1.intro ?_;intro I1 ae x0 n r u0 hF k0;obtain ⟨_,_,rfl⟩:=k0.form;exact (zCN x0 choices n r hF k0 (h2.mono ae) (aq.mono ae)).mono (by rintro k i hs u ⟨v0,kk,rfl,rfl,h,h9⟩; obtain rfl:kk=[vI r.2]:=h9; exact ⟨rfl,h⟩)
 obtain ⟨⟨⟨y1,y2⟩,n9⟩,hy,N⟩:=zB N;refine tY (zIB p part loop (fun x0 n=>vQ x0 choices n) (0:Int) _ hy h h1 hf0) rfl ?_;rintro aX ay v2 k2 aF - ⟨v0,v01,rfl,rfl,h3,rfl⟩ -;obtain ⟨p4,c3,rfl⟩:=h3.form;refine yI [] [8,9] rfl<|zH<|yY ?_;obtain rfl:=zC N;exact xA ⟨_,_,(.tmp rfl (.tmp rfl ResV.nil)),zQ,⟨_,_,rfl,rfl,h3,rfl⟩⟩
def zAH (p:zD) (part:Int) (loop:Int):Option (Bool):=do
 let t6<-(do
   let y<-uV p
   if y then
    if (decide (part>=0)) then
     if (decide (part<(p.Parts.length:Int))) then
      if (decide (loop>=0)) then
       let x<-idx p.Parts part
       pure (decide (loop<(x.Nest.length:Int)))
      else
       pure false
     else
      pure false
    else
     pure false
   else
    pure false
     : Option Bool)
 pure (id t6)
theorem zIg:∀ p part loop r,zAH p part loop=some r->∀ {I:Imm}{p1 c p2 c1},(S4 I p1 p.Arrays c)->(S4 I p2 p.Parts c1)->RT 35 [vA (cProg p p1 c p2 c1),vI part,vI loop] I [] (zU  r):=by
 intro p part loop r N I p1 c p2 c1 h h1;unfold zAH at N;refine yK func35 fun B=>?_;have H:=iS I;refine yF<|tT (cProg p p1 c p2 c1) ?_;intro b hb;refine wI [] []<|zH<|yB ?_;refine wR N [] (fun t6=>[(6,.bool t6)]) (fun o0 aD=>?_) ?_
 · have H:=iS I;refine zJ<|rH 1 [0] [(7,vA (cProg p p1 c p2 c1))] ?_;obtain ⟨y,hy,N⟩:=zB aD;refine vU (eC p _ hy h h1) ?_;intro aW le;have ⟨h1,H⟩:=m2 le h1 H;refine yC 3 [] [9] rfl<|xW [9] N ?_ ?_
   · intro hc N;refine yC 7 [] [13] rfl<|xW [13] N ?_ ?_
     · intro aH N;refine yC 14 [0] [20] rfl<|xW [20] N ?_ ?_
       · intro aZ N;refine yC 18 [] [24] rfl<|xW [24] N ?_ ?_
         · intro bK N;refine yC 22 [0] [25,27,28] rfl<|bE N fun x aA N=>xL rfl rfl h1 aA ?_;intro ad aP aq am;obtain ⟨p3,c2,p4,c3,rfl,h3,h4⟩:=wU am;exact yC 24 [] [30] rfl<|xE 0 aq [vS p3 x.Nest c2] (vS p3 x.Nest c2) rfl<|yI [] [6] rfl<|xR zQ<|yN<|zV (ct N H)
         intro bK N;exact wI [] [(6,vF)]<|xR zQ<|yN<|zV (ct N H)
       intro aZ N;exact wI [] [(6,vF)]<|xR zQ<|yN<|zV (ct N H)
     intro aH N;exact wI [] [(6,vF)]<|xR zQ<|yN<|zV (ct N H)
   intro hc N;exact wI [] [(6,vF)]<|xR zQ<|yN<|zV (ct N H)
 intro t6 I0 ae aV;refine zH<|yY ?_;obtain rfl:=zC aV;exact wF
end Go.LN
