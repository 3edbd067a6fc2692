/- Helper of the proof (see the last text). -/
import Derived.Test.YtcmjkmdecmabaaaGreatHM5
set_option linter.unusedVariables false
set_option linter.unusedSimpArgs false
namespace Go.LN
open Go.Proofs Go.Proofs.Tryz
set_option maxRecDepth 20000
def pL (a0:zJ):Option (Bool):=do
 let t2<-(do
   if (a0.Array.l==([]:List UInt8)) then
    pure ((a0.Subs.length:Int)==0)
   else
    pure false
     : Option Bool)
 pure (id t2)
theorem gQ:∀ a0 r,pL a0=some r->∀ {I:Imm}{p c},(S4 I p a0.Subs c)->RT 164 [vA (cAccess a0 p c)] I [] (zV  r):=by
 intro a0 r N I p c h;unfold pL at N;refine yJ func164 fun B=>?_;have H:=iS I;refine yE<|tW (cAccess a0 p c) ?_;intro b hb;refine wB [] []<|zI<|yB ?_;refine wS N [] (fun t2=>[(2,.bool t2)]) (fun o0 aB=>?_) ?_
 · have H:=iS I;refine zM<|yC 4 [0] [6] rfl<|xS [6] aB ?_ ?_
   · intro hc N;exact yI [0] [2] rfl<|xQ zQ<|yL<|zU (ct N H)
   intro hc N;exact wB [] [(2,vF)]<|xQ zQ<|yL<|zU (ct N H)
 intro t2 I0 le aS;refine zI<|xB ?_;obtain rfl:=zC aS;exact vE
def dB (kind:Int):Option (Bool):=do
 let y<-xW kind 4 6
 pure (id y)
theorem zIE:∀ kind r,dB kind=some r->∀ {I:Imm} ,RT 165 [vI kind] I [] (zV  r):=by
 intro kind r N I;unfold dB at N;refine yJ func165 fun B=>vR []<|yV<|yC 1 [] [3] rfl<|bE N fun y hy N=>uM (wC kind 4 6 _ hy ) fun I0 le=>wB [] [(2,.bool y)]<|zI<|xB ?_;obtain rfl:=zC N;exact vE
def zDX (b0:Nat) (r:Bool×Int):KT:=fun kk I' ah v=>
  ∃ v0 k0,ah=[.blk b0 ⟨k0⟩]/\v=tupV [v0]/\v0=.bool r.1/\Rp.rep I' k0 r.2
def uK (e0:zG) (aa:Int) (deep:Int) (count:Int):Option (Bool×Int):=do
 let t21<-(do
   if (decide ((W (count+1))>12)) then
    pure true
   else
    pure (decide (deep>5))
     : Option Bool)
 if t21 then
  pure (false,(W (count+1)))
 else
  let t51<-(do
    if (e0.Kind != 1) then
     if (e0.Num != 0) then
      pure true
     else
      if (e0.Kind != 2) then
       let y<-mI e0.Index
       if (!y) then
        pure true
       else
        if (e0.Kind != 3) then
         let y1<-pL e0.Read
         pure (!y1)
        else
         pure false
      else
       if (e0.Kind != 3) then
        let y2<-pL e0.Read
        pure (!y2)
       else
        pure false
    else
     if (e0.Kind != 2) then
      let y3<-mI e0.Index
      if (!y3) then
       pure true
      else
       if (e0.Kind != 3) then
        let y4<-pL e0.Read
        pure (!y4)
       else
        pure false
     else
      if (e0.Kind != 3) then
       let y5<-pL e0.Read
       pure (!y5)
      else
       pure false
      : Option Bool)
  if t51 then
   pure (false,(W (count+1)))
  else
   if (e0.Kind==1) then
    let t8<-(do
      let y6<-xW e0.Num 0 99
      if y6 then
       pure ((e0.Kids.length:Int)==0)
      else
       pure false
        : Option Bool)
    pure (t8,(W (count+1)))
   else
    if (e0.Kind==2) then
     let t81<-(do
       let y7<-qH e0.Index
       if y7 then
        let y8<-sZ e0.Index
        if (decide (y8<=aa)) then
         pure ((e0.Kids.length:Int)==0)
        else
         pure false
       else
        pure false
         : Option Bool)
     pure (t81,(W (count+1)))
    else
     if (e0.Kind==3) then
      let t82<-(do
        let y9<-mH e0.Read aa
        if y9 then
         pure ((e0.Kids.length:Int)==0)
        else
         pure false
          : Option Bool)
      pure (t82,(W (count+1)))
     else
      let t99<-(do
        let y10<-dB e0.Kind
        if (!y10) then
         pure true
        else
         pure ((e0.Kids.length:Int) != 2)
          : Option Bool)
      if t99 then
       pure (false,(W (count+1)))
      else
       let (t83,x)<-(do
         let x1<-idx e0.Kids 0
         let (y12,y13)<-uK (same x1) (same aa) (W (deep+1)) (W (count+1))
         if y12 then
          let x2<-idx e0.Kids 1
          let (y15,y16)<-uK (same x2) (same aa) (W (deep+1)) (same y13)
          pure (y15,y16)
         else
          pure (false,y13)
           : Option (Bool×Int))
       pure (t83,x)
 partial_fixpoint
theorem zFL:∀ e0 aa deep count r,uK e0 aa deep count=some r->∀ {I:Imm}{p c p1 c1 p2 c2}{r0:Nat},(S4 I p e0.Index.Coefs c)->(S4 I p1 e0.Read.Subs c1)->(S4 I p2 e0.Kids c2)->RT 121 [vA (cExpr e0 p c p1 c1 p2 c2),vI aa,vI deep,vP r0 0] I [hB r0 [vI count]] (zDX r0 r):=by
 refine uK.partial_correctness _ fun F_impl_exprScan ih_impl_exprScan e0 aa deep count r N I p c p1 c1 p2 c2 r0 h h1 h2=>yJ func121 fun B=>?_;have H:=iS I;refine yE<|tW (cExpr e0 p c p1 c1 p2 c2) ?_;intro b hb;refine wB [] []<|yV<|yC 5 [1] [12,13] rfl<|xH 1 [vI (W (count+1))] rfl<|yD rfl<|yA<|yB ?_;refine wS N [hB b (cExpr e0 p c p1 c1 p2 c2),hB r0 [vI (W (count+1))]] (fun t21=>[(1,vI aa),(2,vI deep),(3,vP r0 0),(4,vP b 0),(21,.bool t21)]) (fun o0 aB=>?_) ?_
 · have H:=iS I;refine zM<|yC 5 [1] [18] rfl<|xS [18] aB ?_ ?_
   · intro hc N;exact wB [] [(21,vY)]<|yL<|zU (ct N H)
   intro hc N;exact yI [] [21] rfl<|yL<|zU (ct N H)
 intro t21 I0 le aS;have ⟨h,h1,h2,H⟩:=m4 le h h1 h2 H;refine zI<|yF aS ?_ ?_
 · intro aE N;refine vR [(8,vF)]<|xC<|zH ?_;obtain rfl:=zC N;exact xA ⟨_,_,(.tmp rfl ResV.nil),(zX [1] rfl (by decide)),⟨_,_,rfl,rfl,rfl,rfl⟩⟩
 intro aE N;refine zT<|yA<|yB ?_;refine wS N [hB b (cExpr e0 p c p1 c1 p2 c2),hB r0 [vI (W (count+1))]] (fun t51=>[(1,vI aa),(2,vI deep),(3,vP r0 0),(4,vP b 0),(51,.bool t51)]) (fun aM az=>?_) ?_
 · have H:=iS I0;refine zM<|yC 4 [0] [25] rfl<|xS [25] az ?_ ?_
   · intro aY N;refine yC 9 [0] [30] rfl<|xS [30] N ?_ ?_
     · intro bG N;exact wB [] [(51,vY)]<|yL<|zU (ct N H)
     intro bG N;refine yC 13 [0] [34] rfl<|xS [34] N ?_ ?_
     · intro bM N;refine rY 15 [0] [(36,vA (cAff e0.Index p c))]<|bE N fun y hy N=>uM (zBF e0.Index _ hy h) ?_;intro aU af;have ⟨h1,H⟩:=m2 af h1 H;refine yC 20 [] [41] rfl<|xS [41] N ?_ ?_
       · intro hc5 N;exact wB [] [(51,vY)]<|yL<|zU (ct N H)
       intro hc5 N;refine yC 24 [0] [45] rfl<|xS [45] N ?_ ?_
       · intro hc6 N;refine rY 26 [0] [(47,vA (cAccess e0.Read p1 c1))]<|bE N fun y1 aA N=>uM (gQ e0.Read _ aA h1) ?_;intro bC aC;have H:=H.trans aC;exact yI [] [51] rfl<|yL<|zU (ct N H)
       intro hc6 N;exact wB [] [(51,vF)]<|yL<|zU (ct N H)
     intro bM N;refine yC 24 [0] [41,45] rfl<|xS [45] N ?_ ?_
     · intro hc7 N;refine rY 26 [0] [(47,vA (cAccess e0.Read p1 c1))]<|bE N fun y2 aJ N=>uM (gQ e0.Read _ aJ h1) ?_;intro bJ aD;have H:=H.trans aD;exact yI [] [51] rfl<|yL<|zU (ct N H)
     intro hc7 N;exact wB [] [(51,vF)]<|yL<|zU (ct N H)
   intro aY N;refine yC 13 [0] [30,34] rfl<|xS [34] N ?_ ?_
   · intro hc8 N;refine rY 15 [0] [(36,vA (cAff e0.Index p c))]<|bE N fun y3 bf N=>uM (zBF e0.Index _ bf h) ?_;intro bN aW;have ⟨h1,H⟩:=m2 aW h1 H;refine yC 20 [] [41] rfl<|xS [41] N ?_ ?_
     · intro hc9 N;exact wB [] [(51,vY)]<|yL<|zU (ct N H)
     intro hc9 N;refine yC 24 [0] [45] rfl<|xS [45] N ?_ ?_
     · intro hc10 N;refine rY 26 [0] [(47,vA (cAccess e0.Read p1 c1))]<|bE N fun y4 bw N=>uM (gQ e0.Read _ bw h1) ?_;intro I06 bt;have H:=H.trans bt;exact yI [] [51] rfl<|yL<|zU (ct N H)
     intro hc10 N;exact wB [] [(51,vF)]<|yL<|zU (ct N H)
   intro hc8 N;refine yC 24 [0] [41,45] rfl<|xS [45] N ?_ ?_
   · intro hc11 N;refine rY 26 [0] [(47,vA (cAccess e0.Read p1 c1))]<|bE N fun y5 bH N=>uM (gQ e0.Read _ bH h1) ?_;intro I07 bv;have H:=H.trans bv;exact yI [] [51] rfl<|yL<|zU (ct N H)
   intro hc11 N;exact wB [] [(51,vF)]<|yL<|zU (ct N H)
 intro t51 aT le7 hMc1;have ⟨h,h1,h2,H⟩:=m4 le7 h h1 h2 H;refine zI<|yF hMc1 ?_ ?_
 · intro hc12 N;refine vR [(8,vF)]<|xC<|zH ?_;obtain rfl:=zC N;exact xA ⟨_,_,(.tmp rfl ResV.nil),(zX [1] rfl (by decide)),⟨_,_,rfl,rfl,rfl,rfl⟩⟩
 intro hc12 N;refine zT<|yA<|yH<|yE<|yI [0] [52] rfl<|zI<|yF N ?_ ?_
 · intro hc13 N;refine yB ?_;refine wS N [hB r0 [vI (W (count+1))]] (fun t8=>[(8,.bool t8)]) (fun o02 ho02=>?_) ?_
   · have H:=iS aT;refine zM<|yC 2 [0] [57] rfl ?_;obtain ⟨y6,hy6,N⟩:=zB ho02;refine uM (wC e0.Num 0 99 _ hy6 ) ?_;intro I09 le8;have H:=H.trans le8;refine yC 4 [] [59] rfl<|xS [59] N ?_ ?_
     · intro hc14 N;exact yI [0] [8] rfl<|xQ (zX [1] rfl (by decide))<|yL<|zU (ct N H)
     intro hc14 N;exact wB [] [(8,vF)]<|xQ (zX [1] rfl (by decide))<|yL<|zU (ct N H)
   intro t8 I08 le9 hMc2;refine xC<|zW<|zH ?_;obtain rfl:=zC hMc2;exact xA ⟨_,_,(.tmp rfl ResV.nil),(zX [0] rfl (by decide)),⟨_,_,rfl,rfl,rfl,rfl⟩⟩
 intro hc13 N;refine yE<|yI [0] [65] rfl<|zI<|yF N ?_ ?_
 · intro hc15 N;refine yB ?_;refine wS N [hB r0 [vI (W (count+1))]] (fun t81=>[(8,.bool t81)]) (fun o03 ho03=>?_) ?_
   · have H:=iS aT;refine zM<|rY 2 [0] [(70,vA (cAff e0.Index p c))] ?_;obtain ⟨y7,hy7,N⟩:=zB ho03;refine uM (nL e0.Index _ hy7 h) ?_;intro bV le10;have ⟨h,H⟩:=m2 le10 h H;refine yC 4 [] [72] rfl<|xS [72] N ?_ ?_
     · intro hc16 N;refine rY 6 [0] [(74,vA (cAff e0.Index p c))]<|bE N fun y8 hy8 N=>gR (gK e0.Index _ hy8 h) ?_;intro bW le11;have H:=H.trans le11;refine yC 11 [] [79] rfl<|xS [79] N ?_ ?_
       · intro hc17 N;exact yI [0] [8] rfl<|xQ (zX [1] rfl (by decide))<|yL<|zU (ct N H)
       intro hc17 N;exact wB [] [(8,vF)]<|xQ (zX [1] rfl (by decide))<|yL<|zU (ct N H)
     intro hc16 N;exact wB [] [(8,vF)]<|xQ (zX [1] rfl (by decide))<|yL<|zU (ct N H)
   intro t81 bP le12 hMc3;refine xC<|zW<|zH ?_;obtain rfl:=zC hMc3;exact xA ⟨_,_,(.tmp rfl ResV.nil),(zX [0] rfl (by decide)),⟨_,_,rfl,rfl,rfl,rfl⟩⟩
 intro hc15 N;refine yE<|yI [0] [85] rfl<|zI<|yF N ?_ ?_
 · intro hc18 N;refine yB ?_;refine wS N [hB r0 [vI (W (count+1))]] (fun t82=>[(8,.bool t82)]) (fun o04 ho04=>?_) ?_
   · have H:=iS aT;refine zM<|rY 3 [0] [(90,vA (cAccess e0.Read p1 c1)),(91,vI aa)] ?_;obtain ⟨y9,hy9,N⟩:=zB ho04;refine uM (zBE e0.Read aa _ hy9 h1) ?_;intro I014 le13;have H:=H.trans le13;refine yC 5 [] [93] rfl<|xS [93] N ?_ ?_
     · intro hc19 N;exact yI [0] [8] rfl<|xQ (zX [1] rfl (by decide))<|yL<|zU (ct N H)
     intro hc19 N;exact wB [] [(8,vF)]<|xQ (zX [1] rfl (by decide))<|yL<|zU (ct N H)
   intro t82 I013 le14 hMc4;refine xC<|zW<|zH ?_;obtain rfl:=zC hMc4;exact xA ⟨_,_,(.tmp rfl ResV.nil),(zX [0] rfl (by decide)),⟨_,_,rfl,rfl,rfl,rfl⟩⟩
 intro hc18 N;refine yB ?_;refine wS N [hB b (cExpr e0 p c p1 c1 p2 c2),hB r0 [vI (W (count+1))]] (fun t99=>[(1,vI aa),(2,vI deep),(3,vP r0 0),(4,vP b 0),(99,.bool t99)]) (fun o05 ho05=>?_) ?_
 · have H:=iS aT;refine zM<|yC 2 [0] [101] rfl ?_;obtain ⟨y10,hy10,N⟩:=zB ho05;refine uM (zIE e0.Kind _ hy10 ) ?_;intro I016 le15;have H:=H.trans le15;refine yC 5 [] [104] rfl<|xS [104] N ?_ ?_
   · intro hc20 N;exact wB [] [(99,vY)]<|yL<|zU (ct N H)
   intro hc20 N;exact yI [0] [99] rfl<|yL<|zU (ct N H)
 intro t99 I015 le16 hMc5;have ⟨h2,H⟩:=m2 le16 h2 H;refine zI<|yF hMc5 ?_ ?_
 · intro hc21 N;refine vR [(8,vF)]<|xC<|zW<|zH ?_;obtain rfl:=zC N;exact xA ⟨_,_,(.tmp rfl ResV.nil),(zX [1] rfl (by decide)),⟨_,_,rfl,rfl,rfl,rfl⟩⟩
 intro hc21 N;refine zT<|zP<|zI<|yB ?_;obtain ⟨o06,ho06,hMc6⟩:=zB N;refine qR (fun I' ah m'=>∃ (t83:Bool) (x:Int),o06=(t83,x)/\I015.le I'/\ah=[hB r0 [vI x]]/\m'=[(8,.bool t83)]) ?_ ?_
 · have H:=iS I015;refine zM<|yC 2 [0] [111] rfl ?_;obtain ⟨x1,hy11,N⟩:=zB ho06;refine xO rfl rfl h2 hy11 ?_;intro ad aK aq al;obtain ⟨p3,c3,p4,c4,p5,c5,rfl,h14,h15,h16⟩:=tH al;refine xJ 0 aq (cExpr x1 p3 c3 p4 c4 p5 c5) (vA (cExpr x1 p3 c3 p4 c4 p5 c5)) rfl<|yC 8 [] [114,116,117] rfl<|tO (zY [1,0] (ah:=[hB r0 [vI (W (count+1))],hB b (cExpr e0 p c p1 c1 p2 c2)])) ?_;obtain ⟨⟨y12,y13⟩,hy12,N⟩:=zB N;refine tM (ih_impl_exprScan x1 aa (W (deep+1)) (W (count+1)) _ hy12 h14 h15 h16) rfl ?_;rintro I018 aw v2 k2 le17 - ⟨v014,kk,rfl,rfl,rfl,h18⟩ -;have ⟨h2,H⟩:=m2 le17 h2 H;obtain rfl:=h18;refine yC 10 [] [119] rfl<|xS [119] N ?_ ?_
   · intro hc22 N;refine yC 12 [1] [121] rfl<|bE N fun x2 hy13 N=>xO rfl rfl h2 hy13 ?_;intro ad1 bx au ax;obtain ⟨p6,c6,p7,c7,p8,c8,rfl,h19,h20,h21⟩:=tH ax;refine xJ 0 au (cExpr x2 p6 c6 p7 c7 p8 c8) (vA (cExpr x2 p6 c6 p7 c7 p8 c8)) rfl<|yC 18 [] [124,126,127] rfl ?_;obtain ⟨⟨y15,y16⟩,hy14,N⟩:=zB N;refine tM (ih_impl_exprScan x2 aa (W (deep+1)) y13 _ hy14 h19 h20 h21) rfl ?_;rintro I019 aw v2 k2 le18 - ⟨v018,kk1,rfl,rfl,rfl,h23⟩ -;have H:=H.trans le18;obtain rfl:=h23;exact yI [] [8] rfl<|xQ (zX [0] rfl (by decide))<|yL<|zU ⟨_,_,(zC N).symm,H,rfl,rfl⟩
   intro hc22 N;exact wB [] [(8,vF)]<|xQ (zX [0] rfl (by decide))<|yL<|zU ⟨_,_,(zC N).symm,H,rfl,rfl⟩
 rintro I017 aw m2 ⟨t83,x,heq6,le19,rfl,rfl⟩;subst o06;refine zI<|xB ?_;obtain rfl:=zC hMc6;exact xA ⟨_,_,(.tmp rfl ResV.nil),(zX [0] rfl (by decide)),⟨_,_,rfl,rfl,rfl,rfl⟩⟩
def kV (s:zO) (aa:Int):Option (Bool):=do
 let t4<-(do
   let y<-xW aa 0 4
   if y then
    let y1<-mH s.Write aa
    if y1 then
     let (y3,y4)<-uK s.Value aa 1 0
     pure (id y3)
    else
     pure false
   else
    pure false
     : Option Bool)
 pure (id t4)
theorem zEP:∀ s aa r,kV s aa=some r->∀ {I:Imm}{p c p1 c1 p2 c2 p3 c3},(S4 I p s.Write.Subs c)->(S4 I p1 s.Value.Index.Coefs c1)->(S4 I p2 s.Value.Read.Subs c2)->(S4 I p3 s.Value.Kids c3)->RT 81 [vA (cStmt s p c p1 c1 p2 c2 p3 c3),vI aa] I [] (zV  r):=by
 intro s aa r N I p c p1 c1 p2 c2 p3 c3 h h1 h2 h3;unfold kV at N;refine yJ func81 fun B=>?_;have H:=iS I;refine yE<|tW (cStmt s p c p1 c1 p2 c2 p3 c3) ?_;intro b hb;refine wB [] []<|yV<|wL [vI 0] ?_;intro b1 hb1;refine xH 0 [vI 0] rfl<|yD rfl<|zI<|yB ?_;refine wS N [] (fun t4=>[(4,.bool t4)]) (fun o0 aB=>?_) ?_
 · have H:=iS I;refine zM<|yC 1 [] [6] rfl ?_;obtain ⟨y,hy,N⟩:=zB aB;refine uM (wC aa 0 4 _ hy ) ?_;intro aT le;have ⟨h,h1,h2,h3,H⟩:=m5 le h h1 h2 h3 H;refine yC 3 [] [8] rfl<|xS [8] N ?_ ?_
   · intro hc N;refine rY 6 [1] [(10,vA (cAccess s.Write p c)),(11,vI aa)]<|bE N fun y1 aA N=>uM (zBE s.Write aa _ aA h) ?_;intro aU af;have ⟨h1,h2,h3,H⟩:=m4 af h1 h2 h3 H;refine yC 9 [] [14] rfl<|xS [14] N ?_ ?_
     · intro aE N;refine rY 12 [1] [(16,vA (cExpr s.Value p1 c1 p2 c2 p3 c3)),(17,vI aa)] ?_;obtain ⟨⟨y3,y4⟩,aJ,N⟩:=zB N;refine tM (zFL s.Value aa 1 0 _ aJ h1 h2 h3) rfl ?_;rintro bC aw v2 k2 aC - ⟨v02,kk,rfl,rfl,rfl,h7⟩ -;have H:=H.trans aC;obtain rfl:=h7;exact yI [] [4] rfl<|xQ zQ<|yL<|zU (ct N H)
     intro aE N;exact wB [] [(4,vF)]<|xQ zQ<|yL<|zU (ct N H)
   intro hc N;exact wB [] [(4,vF)]<|xQ zQ<|yL<|zU (ct N H)
 intro t4 I0 aD aS;refine zI<|xB ?_;obtain rfl:=zC aS;exact vE
def vH (s:zO) (x:zN):Option (Bool):=do
 let y<-kV s (x.Nest.length:Int)
 pure (!y)
theorem dV:∀ s x r,vH s x=some r->∀ {I:Imm}{p c p1 c1 p2 c2 p3 c3}{ad:Addr}{p4 c4 p5 c5},(S4 I p s.Write.Subs c)->(S4 I p1 s.Value.Index.Coefs c1)->(S4 I p2 s.Value.Read.Subs c2)->(S4 I p3 s.Value.Kids c3)->(S4 I p4 x.Nest c4)->(S4 I p5 x.Body c5)->(At I ad (cPart x p4 c4 p5 c5))->RT 80 [vA (cStmt s p c p1 c1 p2 c2 p3 c3),.pointer (some ad)] I [] (zV  r):=by
 intro s x r N I p c p1 c1 p2 c2 p3 c3 ad p4 c4 p5 c5 h h1 h2 h3 h4 h5 aq;unfold vH at N;refine yJ func80 fun B=>yE<|tW (cStmt s p c p1 c1 p2 c2 p3 c3) ?_;intro b hb;refine wB [] []<|yV<|rY 2 [0] [(4,vA (cStmt s p c p1 c1 p2 c2 p3 c3)),(5,.pointer (some ad))]<|xJ 0 aq [vS p4 x.Nest c4] (vS p4 x.Nest c4) rfl<|yC 4 [] [7] rfl<|bE N fun y hy N=>uM (zEP s (x.Nest.length:Int) _ hy h h1 h2 h3) fun I0 le=>wB [] [(3,.bool (!y))]<|zI<|xB ?_;obtain rfl:=zC N;exact vE
def oJ (n0:Int):Option (Bool):=do
 let y<-xW n0 (-9999) 9999
 pure (!y)
theorem zEQ:∀ n0 r,oJ n0=some r->∀ {I:Imm} ,RT 122 [vI n0] I [] (zV  r):=by
 intro n0 r N I;unfold oJ at N;refine yJ func122 fun B=>vR []<|yV<|yC 1 [] [3] rfl<|bE N fun y hy N=>uM (wC n0 (-9999) 9999 _ hy ) fun I0 le=>wB [] [(2,.bool (!y))]<|zI<|xB ?_;obtain rfl:=zC N;exact vE
def gL (ag:(List Int)):Option (Bool):=do
 let t2<-(do
   if (decide ((ag.length:Int)<=4)) then
    let y<-xK ag oJ
    pure (!y)
   else
    pure false
     : Option Bool)
 pure (id t2)
theorem zFj:∀ ag r,gL ag=some r->∀ {I:Imm}{p c},(S4 I p ag c)->RT 82 [vS p ag c] I [] (zV  r):=by
 intro ag r N I p c h;unfold gL at N;refine yJ func82 fun B=>?_;have H:=iS I;refine vR []<|zI<|yB ?_;refine wS N [] (fun t2=>[(2,.bool t2)]) (fun o0 aB=>?_) ?_
 · have H:=iS I;refine zM<|yC 4 [] [6] rfl<|xS [6] aB ?_ ?_
   · intro hc N;refine yC 5 [] [7] rfl ?_;have hf0:FV1 Tryz.prog I [] (.func (.func 122) ⟨[]⟩ ⟨[]⟩) oJ:=by
       refine FV1.intro ?_;intro I1 af x0 r u0 hF k0;obtain rfl:=k0;exact (zEQ x0 r hF ).mono (by rintro k i hs u ⟨v0,rfl,rfl,h⟩; exact ⟨rfl,h⟩)
     obtain ⟨y,hy,N⟩:=zB N;refine xM (sT ag oJ _ hy h hf0) ?_;rintro aT aw v2 k2 le - ⟨v0,rfl,rfl,rfl⟩ -;have H:=H.trans le;exact yI [] [2] rfl<|yL<|zU (ct N H)
   intro hc N;exact wB [] [(2,vF)]<|yL<|zU (ct N H)
 intro t2 I0 af aS;refine zI<|xB ?_;obtain rfl:=zC aS;exact vE
def sH (a0:zF) (n0:Int) (t9:Int):Option (Int):=do
 if (decide (t9<(a0.Dims.length:Int))) then
  let x<-idx a0.Dims t9
  sH a0 (W (n0*x)) (W (t9+1))
 else
  pure (id n0)
 partial_fixpoint
theorem zBm (a0:zF):∀ (n0:Int) (t9:Int) (o:Int),sH a0 n0 t9=some o->∀ {B}{I0 I:Imm}{Q p c},I0.le I->(S4 I p a0.Dims c)->NG Q->NO Q->(∀ (I':Imm) (n01:Int),o=n01->I0.le I'->T 18 B Q (.exit 0) I' [] [(3,vI n01)])->J Tryz.prog 18 B (nav (bodyOf f166) [1,1,0,1,0]) Q I [] [(3,vI n0),(7,vS p a0.Dims c),(8,vI (a0.Dims.length:Int)),(9,vI t9)]:=by
 refine sH.partial_correctness a0 _ fun aH ih n0 t9 o N B I0 I Q p c H h hg ho hx=>yR hg ho<|yG [10] rfl<|yA<|yF N ?_ ?_
 · intro hc N;refine zT<|yA<|yH<|yE<|bE N fun x hy N=>xO rfl rfl h hy ?_;intro ad aK aq al;obtain rfl:=al;exact xJ 0 aq [vI x] (vI x) rfl<|yI [] [5] rfl<|zI<|zM<|yI [] [3] rfl<|zP<|zI<|zM<|yI [] [9] rfl<|yP<|nN<|ih (W (n0*x)) (W (t9+1)) _ N H h hg ho hx
 intro hc N;exact wR<|yL<|hx _ _ (zC N).symm H
def mN (a0:zF):Option (Int):=do
 let n01<-sH a0 1 0
 pure (id n01)
theorem zDY:∀ a0 r,mN a0=some r->∀ {I:Imm}{p c},(S4 I p a0.Dims c)->RT 166 [vA (cArr a0 p c)] I [] (xD  r):=by
 intro a0 r N I p c h;unfold mN at N;refine yJ func166 fun B=>yE<|tW (cArr a0 p c) ?_;intro b hb;refine wB [] []<|vK [3] rfl<|yA<|yE<|yI [0] [7,8,9] rfl<|xX<|nX (zY [] (ah:=[]))<|qP [(3,vI 1),(7,vS p a0.Dims c),(8,vI (a0.Dims.length:Int)),(9,vI 0)] ?_;obtain ⟨o0,aB,aI⟩:=zB N;refine zBm a0 1 0 o0 aB iR h (fun _ _ _ h=>h) (fun _ _ h=>h) ?_;intro I0 n01 heq le;subst o0;refine zS<|vK [2] rfl<|zI<|xB ?_;obtain rfl:=zC aI;exact vE
def tL (a0:zJ) (ag:(List Int)) (x:zF) (at0:Int) (t40:Int):Option (Out Int (Int)):=do
 if (decide (t40<(a0.Subs.length:Int))) then
  let x1<-idx a0.Subs t40
  let y1<-tK x1 ag
  let x2<-idx x.Dims t40
  let y2<-xW y1 0 (W (x2 - 1))
  if (!y2) then
   pure (.ret (-1))
  else
   let x3<-idx x.Dims t40
   tL a0 ag x (W ((W (at0*x3))+y1)) (W (t40+1))
 else
  pure (.done at0)
 partial_fixpoint
theorem zBG (a0:zJ) (ag:(List Int)) (x:zF):∀ (at0:Int) (t40:Int) (o:Out Int (Int)),tL a0 ag x at0 t40=some o->∀ {B}{I0 I:Imm}{Q}{first:Int}{p3 c2 p4 c3 p5 c4}{b2:Nat},I0.le I->(S4 I p4 ag c3)->(S4 I p3 a0.Subs c2)->(S4 I p5 x.Dims c4)->NG Q->NO Q->(∀ (I':Imm) (at01:Int),o=(.done at01)->I0.le I'->T 71 B Q (.exit 2) I' [] [(7,vI first),(10,vI at01)])->(∀ r I' ah m',o=(.ret r)->I0.le I'->RS Tryz.prog f123 B (xD  r) I' ah m'->T 71 B Q .ret I' ah m')->J Tryz.prog 71 B (nav (bodyOf f123) [1,1,0,1,0,0,1,1,0,0,1,1,1,1,0,1,0]) Q I [hB b2 (cArr x p5 c4)] [(2,vS p4 ag c3),(7,vI first),(9,vP b2 0),(10,vI at0),(38,vS p3 a0.Subs c2),(39,vI (a0.Subs.length:Int)),(40,vI t40)]:=by
 refine tL.partial_correctness a0 ag x _ fun aH ih at0 t40 o N B I0 I Q first p3 c2 p4 c3 p5 c4 b2 H h3 h2 h4 hg ho hx hr=>yR hg ho<|yG [41] rfl<|yA<|yF N ?_ ?_
 · intro bG N;refine zT<|yA<|yH<|yE<|yC 1 [] [42] rfl<|bE N fun x1 aJ N=>xO rfl rfl h2 aJ ?_;intro ad1 bx au ax;obtain ⟨p6,c5,rfl,h6⟩:=yM ax;refine xJ 0 au (cAff x1 p6 c5) (vA (cAff x1 p6 c5)) rfl<|wL [z0,vI 0] ?_;intro b3 hb3;refine yC 5 [] [11] rfl<|xH 0 (cAff x1 p6 c5) rfl<|yD rfl<|yV<|rY 2 [0] [(45,vA (cAff x1 p6 c5)),(46,vS p4 ag c3)]<|bE N fun y1 bf N=>gR (nM x1 ag _ bf h6 h3) ?_;intro aT af;have ⟨h3,h2,h4,H⟩:=m4 af h3 h2 h4 H;refine yI [] [13] rfl<|yA<|yE<|yC 4 [1] [48,50,51] rfl<|bE N fun x2 bw N=>xO rfl rfl h4 bw ?_;intro ad2 bO br bq;obtain rfl:=bq;refine xJ 0 br [vI x2] (vI x2) rfl<|yC 7 [] [54] rfl<|bE N fun y2 bH N=>uM (wC y1 0 (W (x2 - 1)) _ bH ) ?_;intro aU aC;have ⟨h3,h2,h4,H⟩:=m4 aC h3 h2 h4 H;refine yI [] [56] rfl<|zI<|yF N ?_ ?_
   · intro bM N;exact yG [6] rfl<|xC<|zH<|zW<|zH<|zH<|hr _ _ _ _ (zC N).symm H ⟨_,_,(.tmp rfl ResV.nil),zQ,⟨_,rfl,rfl,rfl⟩⟩
   intro bM N;refine zT<|zI<|zM<|yC 4 [1] [57,59,60] rfl<|bE N fun x3 hy6 N=>xO rfl rfl h4 hy6 ?_;intro ad3 ccs3 hat3 bI;obtain rfl:=bI;exact xJ 0 hat3 [vI x3] (vI x3) rfl<|yI [] [10] rfl<|zP<|zI<|zM<|yI [] [40] rfl<|yP<|nX (zX [1] rfl (by decide))<|nN<|ih (W ((W (at0*x3))+y1)) (W (t40+1)) _ N H h3 h2 h4 hg ho hx hr
 intro bG N;exact wR<|xQ zQ<|yL<|hx _ _ (zC N).symm H
def uC (p:zD) (a0:zJ) (ag:(List Int)) (first:Int) (t17:Int):Option (Out Unit (Int)):=do
 if (decide (t17<(p.Arrays.length:Int))) then
  let x<-idx p.Arrays t17
  if (!(x.Name.l==a0.Array.l)) then
   let y<-mN x
   uC p a0 ag (W (first+y)) (W (t17+1))
  else
   if ((a0.Subs.length:Int) != (x.Dims.length:Int)) then
    pure (.ret (-1))
   else
    match<-tL a0 ag x 0 0 with
    | .ret r0=>pure (.ret r0)
    | .done at01 =>
     pure (.ret (W (first+at01)))
 else
  pure (.done ())
 partial_fixpoint
theorem zBH (p:zD) (a0:zJ) (ag:(List Int)):∀ (first:Int) (t17:Int) (o:Out Unit (Int)),uC p a0 ag first t17=some o->∀ {B}{I0 I:Imm}{Q p1 c p3 c2 p4 c3}{b1:Nat},I0.le I->(S4 I p4 ag c3)->(S4 I p1 p.Arrays c)->(S4 I p3 a0.Subs c2)->NG Q->NO Q->(∀ (I':Imm) ,o=(.done ())->I0.le I'->T 71 B Q (.exit 0) I' [] [])->(∀ r I' ah m',o=(.ret r)->I0.le I'->RS Tryz.prog f123 B (xD  r) I' ah m'->T 71 B Q .ret I' ah m')->J Tryz.prog 71 B (nav (bodyOf f123) [1,1,0,1,0]) Q I [hB b1 (cAccess a0 p3 c2)] [(2,vS p4 ag c3),(4,vP b1 0),(7,vI first),(15,vS p1 p.Arrays c),(16,vI (p.Arrays.length:Int)),(17,vI t17)]:=by
 refine uC.partial_correctness p a0 ag _ fun aH ih first t17 o N B I0 I Q p1 c p3 c2 p4 c3 b1 H h3 h h2 hg ho hx hr=>yR hg ho<|yG [18] rfl<|yA<|yF N ?_ ?_
 · intro hc N;refine zT<|yA<|yH<|yE<|bE N fun x hy N=>xO rfl rfl h hy ?_;intro ad aK aq al;obtain ⟨p5,c4,rfl,h4⟩:=wG al;refine xJ 0 aq (cArr x p5 c4) (vA (cArr x p5 c4)) rfl<|wL [vT ([]),z0] ?_;intro b2 hb2;refine xH 0 (cArr x p5 c4) rfl<|yD rfl<|yA<|yE<|yI [0,1] [25] rfl<|zI<|yF N ?_ ?_
   · intro aE N;refine yE<|rY 2 [0] [(26,vI first),(27,vA (cArr x p5 c4))]<|bE N fun y aA N=>gR (zDY x _ aA h4) ?_;intro I0 le;have ⟨h3,h,h2,H⟩:=m4 le h3 h h2 H;exact yI [] [7] rfl<|zI<|zEb<|jB<|zS<|zI<|zM<|yI [] [17] rfl<|yP<|nX (zX [1] rfl (by decide))<|nN<|ih (W (first+y)) (W (t17+1)) _ N H h3 h h2 hg ho hx hr
   intro aE N;refine zT<|yA<|yE<|yI [1,0] [36] rfl<|zI<|yF N ?_ ?_
   · intro aY N;exact yG [6] rfl<|xC<|zH<|zW<|zH<|zH<|hr _ _ _ _ (zC N).symm H ⟨_,_,(.tmp rfl ResV.nil),zQ,⟨_,rfl,rfl,rfl⟩⟩
   intro aY N;refine zT<|vK [10] rfl<|yA<|yE<|yI [1] [38,39,40] rfl<|xX<|nX (zY [0] (ah:=[hB b2 (cArr x p5 c4)]))<|qP [(2,vS p4 ag c3),(7,vI first),(9,vP b2 0),(10,vI 0),(38,vS p3 a0.Subs c2),(39,vI (a0.Subs.length:Int)),(40,vI 0)] ?_;obtain ⟨o0,aB,aI⟩:=zB N;refine zBG a0 ag x 0 0 o0 aB iR h3 h2 h4 (fun _ _ _ h=>hg _ _ _ h) (fun _ _ h=>ho _ _ h) ?_ ?_
   · intro bC at01 heq aD;subst o0;have H:=H.trans aD;exact zS<|vK [6] rfl<|xC<|zW<|zH<|zH<|hr _ _ _ _ (zC aI).symm H ⟨_,_,(.tmp rfl ResV.nil),zQ,⟨_,rfl,rfl,rfl⟩⟩
   intro r0 I9 hs9 m9 aX le9 ba;subst aX;exact zW<|zH<|zW<|zH<|zH<|hr _ _ _ _ (zC aI).symm (H.trans le9) ba
 intro hc N;exact wR<|xQ zQ<|yL<|hx _  (zC N).symm H
def tV (p:zD) (a0:zJ) (ag:(List Int)):Option (Int):=do
 match<-uC p a0 ag 0 0 with
 | .ret r0=>pure r0
 | .done _ =>
  pure (-1)
theorem mO:∀ p a0 ag r,tV p a0 ag=some r->∀ {I:Imm}{p1 c p2 c1 p3 c2 p4 c3},(S4 I p1 p.Arrays c)->(S4 I p2 p.Parts c1)->(S4 I p3 a0.Subs c2)->(S4 I p4 ag c3)->RT 123 [vA (cProg p p1 c p2 c1),vA (cAccess a0 p3 c2),vS p4 ag c3] I [] (xD  r):=by
 intro p a0 ag r N I p1 c p2 c1 p3 c2 p4 c3 h h1 h2 h3;unfold tV at N;refine yJ func123 fun B=>yE<|tW (cProg p p1 c p2 c1) ?_;intro b hb;refine tW (cAccess a0 p3 c2) ?_;intro b1 hb1;refine wB [] []<|vK [7] rfl<|yA<|yE<|yI [1] [15,16,17] rfl<|xX<|nX (zY [0] (ah:=[hB b1 (cAccess a0 p3 c2)]))<|qP [(2,vS p4 ag c3),(4,vP b1 0),(7,vI 0),(15,vS p1 p.Arrays c),(16,vI (p.Arrays.length:Int)),(17,vI 0)] ?_;obtain ⟨aM,az,hMl1⟩:=zB N;refine zBH p a0 ag 0 0 aM az iR h3 h h2 (fun _ _ _ h=>h) (fun _ _ h=>h) ?_ ?_
 · intro bJ  heq1 aW;subst aM;refine zS<|vK [6] rfl<|zI<|xB ?_;obtain rfl:=zC hMl1;exact vE
 intro r0 I9 hs9 m9 aX le9 ba;subst aX;refine zW<|zH ?_;obtain rfl:=zC hMl1;exact xA ba
def qA (bd:List HA) (r:Int):KT:=fun kk I' ah v=>
  ∃ v0,bd=ah/\v=tupV [v0]/\v0=.int .i64 r
def yZ (s:(List zJ)) (f0:(zJ->Option Bool)) (t8:Int):Option (Out Unit (Int)):=do
 if (decide (t8<(s.length:Int))) then
  let x<-idx s t8
  let y<-f0 x
  if y then
   pure (.ret t8)
  else
   yZ s f0 (W (t8+1))
 else
  pure (.done ())
 partial_fixpoint
theorem kC (s:(List zJ)) (f0:(zJ->Option Bool)):∀ (t8:Int) (o:Out Unit (Int)),yZ s f0 t8=some o->∀ {B}{I0 I:Imm}{Q p c}{fv:Value}{bd:List HA},I0.le I->(S4 I p s c)->(FV1 Tryz.prog I bd fv f0)->NG Q->NO Q->(∀ (I':Imm) ,o=(.done ())->I0.le I'->T 19 B Q (.exit 0) I' bd [])->(∀ r I' ah m',o=(.ret r)->I0.le I'->RS Tryz.prog f168 B (qA bd r) I' ah m'->T 19 B Q .ret I' ah m')->J Tryz.prog 19 B (nav (bodyOf f168) [1,0,1,0]) Q I bd [(0,vS p s c),(1,fv),(7,vI (s.length:Int)),(8,vI t8)]:=by
 refine yZ.partial_correctness s f0 _ fun aH ih t8 o N B I0 I Q p c fv bd H h h1 hg ho hx hr=>yR hg ho<|yG [9] rfl<|yA<|yF N ?_ ?_
 · intro hc N;refine zT<|yA<|yH<|yG [5] rfl<|yV<|yC 3 [] [11,12,13] rfl<|bE N fun x hy N=>xO rfl rfl h hy ?_;intro ad aK aq al;obtain ⟨p1,c1,rfl,h2⟩:=oT al;refine xJ 0 aq (cAccess x p1 c1) (vA (cAccess x p1 c1)) rfl<|bE N fun y aA N=>zKN rfl rfl h1 aA ⟨_,rfl,(nT ⟨_,rfl,h2⟩)⟩ (cu _).symm ?_;rintro I0 v01 le rfl;refine wE (ah:=bd) (cu _) ?_;have ⟨h,h1,H⟩:=m3 le h h1 H;refine yD rfl<|zI<|yF N ?_ ?_
   · intro aE N;exact yG [4] rfl<|xC<|zW<|zH<|zH<|hr _ _ _ _ (zC N).symm H ⟨_,_,(.tmp rfl ResV.nil),(fun _ h=>h),⟨_,rfl,rfl,rfl⟩⟩
   intro aE N;exact zT<|zP<|zI<|zM<|yI [] [8] rfl<|yP<|nN<|ih (W (t8+1)) _ N H h h1 hg ho hx hr
 intro hc N;exact wR<|yL<|hx _  (zC N).symm H
def wV (s:(List zJ)) (f0:(zJ->Option Bool)):Option (Int):=do
 match<-yZ s f0 0 with
 | .ret r0=>pure r0
 | .done _ =>
  pure (-1)
theorem jA:∀ s f0 r,wV s f0=some r->∀ {I:Imm}{p c}{fv:Value}{bd:List HA},(S4 I p s c)->(FV1 Tryz.prog I bd fv f0)->RT 168 [vS p s c,fv] I bd (qA bd r):=by
 intro s f0 r N I p c fv bd h h1;unfold wV at N;refine yJ func168 fun B=>vR []<|yA<|yG [7,8] rfl<|xX<|qP [(0,vS p s c),(1,fv),(7,vI (s.length:Int)),(8,vI 0)] ?_;obtain ⟨o0,aB,aI⟩:=zB N;refine kC s f0 0 o0 aB iR h h1 (fun _ _ _ h=>h) (fun _ _ h=>h) ?_ ?_
 · intro aT  heq af;subst o0;refine zS<|vK [4] rfl<|zI<|xB ?_;obtain rfl:=zC aI;exact xA ⟨_,_,(.tmp rfl ResV.nil),(fun _ h=>h),⟨_,rfl,rfl,rfl⟩⟩
 intro r0 I9 hs9 m9 aX le9 ba;subst aX;refine zW<|zH ?_;obtain rfl:=zC aI;exact xA ba
def mD (bd:List HA) (r:Bool):KT:=fun kk I' ah v=>
  ∃ v0,bd=ah/\v=tupV [v0]/\v0=.bool r
def xP (s:(List zJ)) (f0:(zJ->Option Bool)):Option (Bool):=do
 let y<-wV s f0
 pure (decide (y>=0))
theorem kD:∀ s f0 r,xP s f0=some r->∀ {I:Imm}{p c}{fv:Value}{bd:List HA},(S4 I p s c)->(FV1 Tryz.prog I bd fv f0)->RT 124 [vS p s c,fv] I bd (mD bd r):=by
 intro s f0 r N I p c fv bd h h1;unfold xP at N;refine yJ func124 fun B=>vR []<|yV<|yC 2 [] [5,6] rfl<|bE N fun y hy N=>zEd (hs1:=bd) (rest:=[]) rfl rfl rfl rfl (by kernel_rfl) rfl (cu _).symm (jA s f0 _ hy h h1) ?_;rintro I0 aw v2 k2 le - ⟨v0,rfl,rfl,rfl⟩ -;refine wE (ah:=bd) (cu _) ?_;refine yI [] [4] rfl<|zI<|xB ?_;obtain rfl:=zC N;exact xA ⟨_,_,(.tmp rfl ResV.nil),(fun _ h=>h),⟨_,rfl,rfl,rfl⟩⟩
def zBd (r:(List zJ)):KT:=fun kk I' ah v=>
  ∃ v0,ah=[]/\v=tupV [v0]/\SL I' v0 r
mutual
def mP (e0:zG):Option ((List zJ)):=do
 if (e0.Kind==3) then
  pure ([e0.Read]:List zJ)
 else
  let aj<-nG (same e0) ([]:List zJ) (same 0)
  pure (id aj)
 partial_fixpoint
def nG (e0:zG) (out:List zJ) (t15:Int):Option (List zJ):=do
 if (decide (t15<(e0.Kids.length:Int))) then
  let x<-idx e0.Kids t15
  let y<-mP (same x)
  let ap<-app 40 out y
  nG (same e0) (same ap) (W (t15+1))
 else
  pure (id out)
 partial_fixpoint
end
theorem zGa:(∀ (e0:zG) r,mP e0=some r->∀ {I:Imm}{p c p1 c1 p2 c2},(S4 I p e0.Index.Coefs c)->(S4 I p1 e0.Read.Subs c1)->(S4 I p2 e0.Kids c2)->RT 125 [vA (cExpr e0 p c p1 c1 p2 c2)] I [] (zBd  r))/\(∀ (e0:zG) (out:List zJ) (t15:Int) o,nG e0 out t15=some o->∀ {B}{I0 I:Imm}{Q p2 c2 p3 c3 cs},I0.le I->(S4 I p2 e0.Kids c2)->(RL I cs out)->NG Q->NO Q->(∀ (I':Imm) (aj:List zJ) (p4:Option Addr) (c4:Nat) (ay:List Value),o=aj->I0.le I'->(RL I' ay aj)->T 25 B Q (.exit 0) I' [hO zJ (vS p4 aj c4) ay] [(3,vS p4 aj c4)])->J Tryz.prog 25 B (nav (bodyOf f125) [1,1,1,0,1,0]) Q I [hO zJ (vS p3 out c3) cs] [(3,vS p3 out c3),(13,vS p2 e0.Kids c2),(14,vI (e0.Kids.length:Int)),(15,vI t15)]):=by
  refine mP.mutual_partial_correctness _ _ ?_ ?_
  · intro F_impl_reads_l1 ih_impl_reads_l1 e0 r N I p c p1 c1 p2 c2 h h1 h2;refine yJ func125 fun B=>yE<|tW (cExpr e0 p c p1 c1 p2 c2) ?_;intro b hb;refine wB [] []<|yA<|yE<|yI [0] [8] rfl<|zI<|yF N ?_ ?_
    · intro hc N;refine yE<|rY 2 [0] [(10,vA (cAccess e0.Read p1 c1))]<|uD (cAccess e0.Read p1 c1) zJ ?_;intro b1 hb1;have h3:RL I (cAccess e0.Read p1 c1) ([e0.Read]:List zJ):=⟨(cAccess e0.Read p1 c1),_,rfl,rfl,(nT ⟨_,rfl,h1⟩),rfl⟩;refine yI [] [2] rfl<|xC<|zH<|yU 0 rfl ?_;intro I0 le hl0;have h4:=SL.of_frozen hl0 le h3;obtain rfl:=zC N;exact xA ⟨_,_,(.tmp rfl ResV.nil),zQ,⟨_,rfl,rfl,h4⟩⟩
    intro hc N;refine zT<|zGR [(3,z0)]<|yA<|yE<|yI [0] [13,14,15] rfl<|xX<|nX (zY [] (ah:=[]))<|qP [(3,z0),(13,vS p2 e0.Kids c2),(14,vI (e0.Kids.length:Int)),(15,vI 0)]<|dR zJ fun h5=>?_;obtain ⟨o0,aB,aI⟩:=zB N;refine ih_impl_reads_l1 e0 ([]:List zJ) 0 o0 aB iR h2 h5 (fun _ _ _ h=>h) (fun _ _ h=>h) ?_;intro aU aj p4 c4 ay heq aC h7;subst o0;refine zS<|vK [2] rfl<|xC<|yU 0 rfl ?_;intro bC aD hl01;have h13:=SL.of_frozen hl01 aD h7;obtain rfl:=zC aI;exact xA ⟨_,_,(.tmp rfl ResV.nil),zQ,⟨_,rfl,rfl,h13⟩⟩
  intro F_impl_reads F_impl_reads_l1 ih_impl_reads ih_impl_reads_l1 e0 out t15 o N B I0 I Q p2 c2 p3 c3 cs H h2 h6 hg ho hx;refine yR hg ho<|yG [16] rfl<|yA<|yF N ?_ ?_
  · intro aE N;refine zT<|yA<|yH<|yE<|bE N fun x hy N=>xO rfl rfl h2 hy ?_;intro ad aK aq al;obtain ⟨p5,c5,p6,c6,p7,c7,rfl,h8,h9,h10⟩:=tH al;refine xJ 0 aq (cExpr x p5 c5 p6 c6 p7 c7) (vA (cExpr x p5 c5 p6 c6 p7 c7)) rfl<|wL zExpr ?_;intro b2 hb2;refine xH 0 (cExpr x p5 c5 p6 c6 p7 c7) rfl<|yD rfl<|zI<|zM<|rY 2 [0] [(19,vS p3 out c3),(20,vA (cExpr x p5 c5 p6 c6 p7 c7))]<|bE N fun y aA N=>xM (ih_impl_reads x _ aA h8 h9 h10) ?_;rintro aT aw v2 k2 af - ⟨v03,rfl,rfl,h11⟩ -;have ⟨h2,h6,H⟩:=m3 af h2 h6 H;obtain ⟨p8,c8,rfl⟩:=h11.form;obtain ⟨bx,k0,k01⟩:=h11;have h11:SL aT (vS p8 y c8) y:=⟨_,k0,k01⟩;obtain ⟨ap,aJ,N⟩:=zB N;exact sC 93 2 1 rfl rfl rfl h6 (.inl k0) k01 aJ fun p9 c9 aQ h12=>tO (zY [0,1] (ah:=[hB b2 (cExpr x p5 c5 p6 c6 p7 c7),hO zJ (vS p9 ap c9) aQ]))<|yI [] [3] rfl<|zP<|zI<|zM<|yI [] [15] rfl<|yP<|nX (zX [1] rfl (by decide))<|nN<|ih_impl_reads_l1 e0 ap (W (t15+1)) _ N H h2 h12 hg ho hx
  intro aE N;exact wR<|yL<|hx _ _ _ _ _ (zC N).symm H h6
theorem zCw:∀ e0 r,mP e0=some r->∀ {I:Imm}{p c p1 c1 p2 c2},(S4 I p e0.Index.Coefs c)->(S4 I p1 e0.Read.Subs c1)->(S4 I p2 e0.Kids c2)->RT 125 [vA (cExpr e0 p c p1 c1 p2 c2)] I [] (zBd  r):=zGa.1
def uX (a0:zJ) (x:zD) (x1:(List Int)):Option (Bool):=do
 let y<-tV x a0 x1
 pure (decide (y<0))
theorem zAi:∀ a0 x x1 r,uX a0 x x1=some r->∀ {I:Imm}{p c}{ad:Addr}{p1 c1 p2 c2}{ad1:Addr}{p3 c3},(S4 I p a0.Subs c)->(S4 I p1 x.Arrays c1)->(S4 I p2 x.Parts c2)->(At I ad (cProg x p1 c1 p2 c2))->(S4 I p3 x1 c3)->(At I ad1 [vS p3 x1 c3])->RT 126 [vA (cAccess a0 p c),.pointer (some ad),.pointer (some ad1)] I [] (zV  r):=by
 intro a0 x x1 r N I p c ad p1 c1 p2 c2 ad1 p3 c3 h h1 h2 aq h3 au;unfold uX at N;refine yJ func126 fun B=>yE<|tW (cAccess a0 p c) ?_;intro b hb;refine wB [] []<|yV<|xJ 0 aq (cProg x p1 c1 p2 c2) (vA (cProg x p1 c1 p2 c2)) rfl<|rY 2 [0] [(6,vA (cAccess a0 p c))]<|xJ 0 au [vS p3 x1 c3] (vS p3 x1 c3) rfl<|bE N fun y hy N=>gR (mO x a0 x1 _ hy h1 h2 h h3) fun I0 le=>wB [] [(4,.bool (decide (y<0)))]<|zI<|xB ?_;obtain rfl:=zC N;exact vE
def pQ (p:zD) (s:zO) (ag:(List Int)):Option (Bool):=do
 let t6<-(do
   let y<-tV p s.Write ag
   if (decide (y>=0)) then
    let y1<-mP s.Value
    let y2<-xP y1 (fun x0=>uX x0 p ag)
    pure (!y2)
   else
    pure false
     : Option Bool)
 pure (id t6)
theorem zBY:∀ p s ag r,pQ p s ag=some r->∀ {I:Imm}{p1 c p2 c1 p3 c2 p4 c3 p5 c4 p6 c5 p7 c6},(S4 I p1 p.Arrays c)->(S4 I p2 p.Parts c1)->(S4 I p3 s.Write.Subs c2)->(S4 I p4 s.Value.Index.Coefs c3)->(S4 I p5 s.Value.Read.Subs c4)->(S4 I p6 s.Value.Kids c5)->(S4 I p7 ag c6)->RT 83 [vA (cProg p p1 c p2 c1),vA (cStmt s p3 c2 p4 c3 p5 c4 p6 c5),vS p7 ag c6] I [] (zV  r):=by
 intro p s ag r N I p1 c p2 c1 p3 c2 p4 c3 p5 c4 p6 c5 p7 c6 h h1 h2 h3 h4 h5 h6;unfold pQ at N;refine yJ func83 fun B=>?_;have H:=iS I;refine yE<|tW (cProg p p1 c p2 c1) ?_;intro b hb;refine xF 0 rfl ?_;intro I0 le hl0;have aq:At I0 ⟨b,0,none⟩ (cProg p p1 c p2 c1):=At.of_blk hl0;have ⟨h,h1,h2,h3,h4,h5⟩:=m6 le h h1 h2 h3 h4 h5;have ⟨h6,H⟩:=m2 le h6 H;refine tW (cStmt s p3 c2 p4 c3 p5 c4 p6 c5) ?_;intro b1 hb1;refine tW [vS p7 ag c6] ?_;intro b2 hb2;refine xF 0 rfl ?_;intro aT af hl01;have au:At aT ⟨b2,0,none⟩ [vS p7 ag c6]:=At.of_blk hl01;have ⟨h,h1,h2,h3,h4,h5⟩:=m6 af h h1 h2 h3 h4 h5;have ⟨h6,aq,H⟩:=m3 af h6 aq H;refine wB [] []<|zI<|yB ?_;refine wS N [] (fun t6=>[(6,.bool t6)]) (fun o0 aB=>?_) ?_
 · have H:=iS aT;refine zM<|xJ 0 aq (cProg p p1 c p2 c1) (vA (cProg p p1 c p2 c1)) rfl<|rY 3 [0] [(9,vA (cAccess s.Write p3 c2))]<|xJ 0 au [vS p7 ag c6] (vS p7 ag c6) rfl ?_;obtain ⟨y,hy,N⟩:=zB aB;refine gR (mO p s.Write ag _ hy h h1 h2 h6) ?_;intro bC aC;have ⟨h,h1,aq,h6,au,h3⟩:=m6 aC h h1 aq h6 au h3;have ⟨h4,h5,H⟩:=m3 aC h4 h5 H;refine yC 7 [] [13] rfl<|xS [13] N ?_ ?_
   · intro hc N;refine rY 9 [0] [(15,vA (cExpr s.Value p4 c3 p5 c4 p6 c5))]<|bE N fun y1 aA N=>xM (zCw s.Value _ aA h3 h4 h5) ?_;rintro bJ aw v2 k2 aD - ⟨v01,rfl,rfl,h8⟩ -;have ⟨h,h1,aq,h6,au,H⟩:=m6 aD h h1 aq h6 au H;obtain ⟨p8,c7,rfl⟩:=h8.form;refine yC 11 [] [17] rfl ?_;have hf0:FV1 Tryz.prog bJ [] (.func (.func 126) ⟨[]⟩ ⟨[vP b 0,vP b2 0]⟩) (fun x0=>uX x0 p ag):=by
       refine FV1.intro ?_;intro I1 af x0 r u0 hF k0;obtain ⟨_,rfl,k0⟩:=k0;obtain ⟨p9,c8,rfl,h9⟩:=oT k0;exact (zAi x0 p ag r hF h9 (h.mono af) (h1.mono af) (aq.mono af) (h6.mono af) (au.mono af)).mono (by rintro k i hs u ⟨v0,rfl,rfl,h⟩; exact ⟨rfl,h⟩)
     obtain ⟨y2,aJ,N⟩:=zB N;refine xM (kD y1 (fun x0=>uX x0 p ag) _ aJ h8 hf0) ?_;rintro bN aw v2 k2 aW - ⟨v03,rfl,rfl,rfl⟩ -;have H:=H.trans aW;exact yI [] [6] rfl<|xQ zQ<|yL<|zU (ct N H)
   intro hc N;exact wB [] [(6,vF)]<|xQ zQ<|yL<|zU (ct N H)
 intro t6 aU bt aS;refine zI<|xB ?_;obtain rfl:=zC aS;exact vE
def qN (r:(List zL)×Bool):KT:=fun kk I' ah v=>
  ∃ v0 v1,ah=[]/\v=tupV [v0,v1]/\SL I' v0 r.1/\v1=.bool r.2
def wW (p:zD) (t26:Int) (x:zN) (x1:(List Int)) (bu:List zL) (t64:Int):Option (Out (List zL) ((List zL)×Bool)):=do
 if (decide (t64<(x.Body.length:Int))) then
  let x2<-idx x.Body t64
  let y7<-pQ p x2 x1
  if (!y7) then
   pure (.ret (([]:List zL),false))
  else
   let y8<-sU x1
   let out6<-app 40 bu ([(zL.mk t26 t64 y8)]:List zL)
   wW p t26 x x1 out6 (W (t64+1))
 else
  pure (.done bu)
 partial_fixpoint
theorem dH (p:zD) (t26:Int) (x:zN) (x1:(List Int)):∀ (bu:List zL) (t64:Int) (o:Out (List zL) ((List zL)×Bool)),wW p t26 x x1 bu t64=some o->∀ {B}{I0 I:Imm}{Q}{y2:(List (List Int))}{t54:Int}{p1 c p2 c1}{b:Nat}{p5 c4 p6 c5}{b1:Nat}{p7 c6 p14 bo p15 c14 bz},I0.le I->(S4 I p5 x.Nest c4)->(S4 I p6 x.Body c5)->(At I ⟨b1,0,none⟩ (cPart x p5 c4 p6 c5))->(S4 I p14 x1 bo)->(S4 I p2 p.Parts c1)->(S4 I p7 y2 c6)->(S4 I p1 p.Arrays c)->(RL I bz bu)->NG Q->NO Q->(∀ (I':Imm) (out5:List zL) (p16:Option Addr) (c15:Nat) (bD:List Value),o=(.done out5)->I0.le I'->(RL I' bD out5)->T 89 B Q (.exit 4) I' [hO zL (vS p16 out5 c15) bD,hB b (cProg p p1 c p2 c1)] [(1,vP b 0),(4,vS p16 out5 c15),(5,vI t26),(6,vP b1 0),(24,vS p2 p.Parts c1),(25,vI (p.Parts.length:Int)),(26,vI t26),(52,vS p7 y2 c6),(53,vI (y2.length:Int)),(54,vI t54)])->(∀ r I' ah m',o=(.ret r)->I0.le I'->RS Tryz.prog f41 B (qN  r) I' ah m'->T 89 B Q .ret I' ah m')->J Tryz.prog 89 B (nav (bodyOf f41) [1,1,1,0,1,0,0,1,1,0,0,1,1,1,1,0,0,1,1,0,0,1,1,1,0]) Q I [hO zL (vS p15 bu c14) bz,hB b (cProg p p1 c p2 c1)] [(1,vP b 0),(4,vS p15 bu c14),(5,vI t26),(6,vP b1 0),(10,vS p14 x1 bo),(24,vS p2 p.Parts c1),(25,vI (p.Parts.length:Int)),(26,vI t26),(52,vS p7 y2 c6),(53,vI (y2.length:Int)),(54,vI t54),(62,vS p6 x.Body c5),(63,vI (x.Body.length:Int)),(64,vI t64)]:=by
 refine wW.partial_correctness p t26 x x1 _ fun aH ih bu t64 o N B I0 I Q y2 t54 p1 c p2 c1 b p5 c4 p6 c5 b1 p7 c6 p14 bo p15 c14 bz H h6 h7 au h18 h1 h8 h h20 hg ho hx hr=>yR hg ho<|yG [65] rfl<|yA<|yF N ?_ ?_
 · intro hc8 N;refine zT<|yA<|yH<|yE<|yC 1 [] [66] rfl<|bE N fun x2 hy7 N=>xO rfl rfl h7 hy7 ?_;intro ad2 bO hat3 bq;obtain ⟨p17,c16,p18,c17,p19,c18,p20,c19,rfl,h22,h23,h24,h25⟩:=qS bq;refine xJ 0 hat3 (cStmt x2 p17 c16 p18 c17 p19 c18 p20 c19) (vA (cStmt x2 p17 c16 p18 c17 p19 c18 p20 c19)) rfl<|wL [vT ([]),z0,vI 0,vI 0,z0,vI 0,vT ([]),z0,z0] ?_;intro b2 hb2;refine yC 5 [] [11] rfl<|xH 0 (cStmt x2 p17 c16 p18 c17 p19 c18 p20 c19) rfl<|yD rfl<|yA<|yE<|rY 3 [2,0] [(69,vA (cProg p p1 c p2 c1)),(70,vA (cStmt x2 p17 c16 p18 c17 p19 c18 p20 c19)),(71,vS p14 x1 bo)]<|bE N fun y7 hy8 N=>uM (zBY p x2 x1 _ hy8 h h1 h22 h23 h24 h25 h18) ?_;intro I08 le8;have ⟨h20,h6,h7,au,h18,h1⟩:=m6 le8 h20 h6 h7 au h18 h1;have ⟨h8,h,H⟩:=m3 le8 h8 h H;refine yI [] [73] rfl<|zI<|yF N ?_ ?_
   · intro hc9 N;exact yG [2,3] rfl<|xC<|zH<|zW<|zH<|zH<|hr _ _ _ _ (zC N).symm H ⟨_,_,(.tmp rfl (.tmp rfl ResV.nil)),zQ,⟨_,_,rfl,rfl,(SL.nil _),rfl⟩⟩
   intro hc9 N;refine zT<|zI<|zM<|yC 4 [] [74,75,76,77] rfl<|bE N fun y8 hy9 N=>xM (kS x1 _ hy9 h18) ?_;rintro I09 aw v2 k2 le9 - ⟨p21,c20,cs6,rfl,rfl,h27⟩ -;have ⟨h6,h7,au,h18,h1,h8⟩:=m6 le9 h6 h7 au h18 h1 h8;have ⟨h20,h,H⟩:=m3 le9 h20 h H;refine yC 6 [] [79] rfl<|xF 0 rfl ?_;intro bP le10 hl01;have h28:=SL.of_frozen hl01 le10 h27;have ⟨h6,h7,au,h18,h1,h8⟩:=m6 le10 h6 h7 au h18 h1 h8;have ⟨h20,h,H⟩:=m3 le10 h20 h H;refine uD [vI t26,vI t64,vS p21 y8 c20] zL ?_;intro b3 hb3;have h29:RL bP [vI t26,vI t64,vS p21 y8 c20] ([(zL.mk t26 t64 y8)]:List zL):=⟨[vI t26,vI t64,vS p21 y8 c20],_,rfl,rfl,(zAB ⟨_,rfl,h28⟩),rfl⟩;obtain ⟨out6,hy10,N⟩:=zB N;exact sC 86 3 2 rfl rfl rfl h20 (.inr ⟨0,rfl⟩) h29 hy10 fun p22 c21 cs7 h30=>tO (zY [1,2,3] (ah:=[hB b2 (cStmt x2 p17 c16 p18 c17 p19 c18 p20 c19),hO zL (vS p22 out6 c21) cs7,hB b (cProg p p1 c p2 c1)]))<|yI [] [4] rfl<|zP<|zI<|zM<|yI [] [64] rfl<|yP<|nX (zX [1,2] rfl (by decide))<|nN<|ih out6 (W (t64+1)) _ N H h6 h7 au h18 h1 h8 h h30 hg ho hx hr
 intro hc8 N;exact wR<|yL<|hx _ _ _ _ _ (zC N).symm H h20
def wX (p:zD) (t26:Int) (x:zN) (y2:(List (List Int))) (ap:List zL) (t54:Int):Option (Out (List zL) ((List zL)×Bool)):=do
 if (decide (t54<(y2.length:Int))) then
  let x1<-idx y2 t54
  let y6<-gL x1
  if (!y6) then
   pure (.ret (([]:List zL),false))
  else
   match<-wW p t26 x x1 ap 0 with
   | .ret r0=>pure (.ret r0)
   | .done out5 =>
    wX p t26 x y2 out5 (W (t54+1))
 else
  pure (.done ap)
 partial_fixpoint
theorem dI (p:zD) (t26:Int) (x:zN) (y2:(List (List Int))):∀ (ap:List zL) (t54:Int) (o:Out (List zL) ((List zL)×Bool)),wX p t26 x y2 ap t54=some o->∀ {B}{I0 I:Imm}{Q p1 c p2 c1}{b:Nat}{p5 c4 p6 c5}{b1:Nat}{p7 c6 bB aZ aQ},I0.le I->(S4 I p5 x.Nest c4)->(S4 I p6 x.Body c5)->(At I ⟨b1,0,none⟩ (cPart x p5 c4 p6 c5))->(S4 I p2 p.Parts c1)->(S4 I p7 y2 c6)->(S4 I p1 p.Arrays c)->(RL I aQ ap)->NG Q->NO Q->(∀ (I':Imm) (aP:List zL) (bj:Option Addr) (bk:Nat) (aR:List Value),o=(.done aP)->I0.le I'->(RL I' aR aP)->T 89 B Q (.exit 2) I' [hO zL (vS bj aP bk) aR,hB b (cProg p p1 c p2 c1)] [(1,vP b 0),(4,vS bj aP bk),(24,vS p2 p.Parts c1),(25,vI (p.Parts.length:Int)),(26,vI t26)])->(∀ r I' ah m',o=(.ret r)->I0.le I'->RS Tryz.prog f41 B (qN  r) I' ah m'->T 89 B Q .ret I' ah m')->J Tryz.prog 89 B (nav (bodyOf f41) [1,1,1,0,1,0,0,1,1,0,0,1,1,1,1,0]) Q I [hO zL (vS bB ap aZ) aQ,hB b (cProg p p1 c p2 c1)] [(1,vP b 0),(4,vS bB ap aZ),(5,vI t26),(6,vP b1 0),(24,vS p2 p.Parts c1),(25,vI (p.Parts.length:Int)),(26,vI t26),(52,vS p7 y2 c6),(53,vI (y2.length:Int)),(54,vI t54)]:=by
 refine wX.partial_correctness p t26 x y2 _ fun aH ih ap t54 o N B I0 I Q p1 c p2 c1 b p5 c4 p6 c5 b1 p7 c6 bB aZ aQ H h6 h7 au h1 h8 h h16 hg ho hx hr=>yR hg ho<|yG [55] rfl<|yA<|yF N ?_ ?_
 · intro hc6 N;refine zT<|yA<|yH<|yE<|bE N fun x1 bH N=>xO rfl rfl h8 bH ?_;intro ad1 bx br ax;obtain ⟨v011,rfl,h18⟩:=ax;obtain ⟨p14,bo,rfl⟩:=h18.form;refine xJ 0 br [vS p14 x1 bo] (vS p14 x1 bo) rfl<|yI [] [10] rfl<|yA<|yE<|yC 1 [] [58] rfl<|bE N fun y6 hy6 N=>uM (zFj x1 _ hy6 h18) ?_;intro I07 le7;have ⟨h16,h6,h7,au,h18,h1⟩:=m6 le7 h16 h6 h7 au h18 h1;have ⟨h8,h,H⟩:=m3 le7 h8 h H;refine yI [] [60] rfl<|zI<|yF N ?_ ?_
   · intro hc7 N;exact yG [2,3] rfl<|xC<|zH<|zW<|zH<|zH<|hr _ _ _ _ (zC N).symm H ⟨_,_,(.tmp rfl (.tmp rfl ResV.nil)),zQ,⟨_,_,rfl,rfl,(SL.nil _),rfl⟩⟩
   intro hc7 N;refine zT<|yV<|yC 1 [] [61] rfl<|xJ 1 au [vS p6 x.Body c5] (vS p6 x.Body c5) rfl<|yI [] [63,64] rfl<|xX<|qP [(1,vP b 0),(4,vS bB ap aZ),(5,vI t26),(6,vP b1 0),(10,vS p14 x1 bo),(24,vS p2 p.Parts c1),(25,vI (p.Parts.length:Int)),(26,vI t26),(52,vS p7 y2 c6),(53,vI (y2.length:Int)),(54,vI t54),(62,vS p6 x.Body c5),(63,vI (x.Body.length:Int)),(64,vI 0)] ?_;obtain ⟨o02,ho02,aI⟩:=zB N;refine dH p t26 x x1 ap 0 o02 ho02 iR h6 h7 au h18 h1 h8 h h16 (fun _ _ _ h=>hg _ _ _ h) (fun _ _ h=>ho _ _ h) ?_ ?_
   · intro bV out5 p16 c15 bD heq2 le11 h21;subst o02;have ⟨h6,h7,au,h1,h8,h⟩:=m6 le11 h6 h7 au h1 h8 h;have H:=H.trans le11;exact zS<|zP<|zI<|zM<|yI [] [54] rfl<|yP<|nN<|ih out5 (W (t54+1)) _ aI H h6 h7 au h1 h8 h h21 hg ho hx hr
   intro r0 I9 hs9 m9 aX le9 ba;subst aX;exact zW<|zW<|zH<|zH<|hr _ _ _ _ (zC aI).symm (H.trans le9) ba
 intro hc6 N;exact wR<|yL<|hx _ _ _ _ _ (zC N).symm H h16
def wY (p:zD) (out:List zL) (t26:Int):Option (Out (List zL) ((List zL)×Bool)):=do
 if (decide (t26<(p.Parts.length:Int))) then
  let x<-idx p.Parts t26
  let (y2,y3)<-mM x.Nest
  let t51<-(do
    if (!y3) then
     pure true
    else
     let y4<-xW (x.Body.length:Int) 1 4
     if (!y4) then
      pure true
     else
      let y5<-xV x.Body (fun x0=>vH x0 x)
      pure (id y5)
      : Option Bool)
  if t51 then
   pure (.ret (([]:List zL),false))
  else
   match<-wX p t26 x y2 out 0 with
   | .ret r0=>pure (.ret r0)
   | .done aP =>
    wY p aP (W (t26+1))
 else
  pure (.done out)
 partial_fixpoint
theorem dJ (p:zD):∀ (out:List zL) (t26:Int) (o:Out (List zL) ((List zL)×Bool)),wY p out t26=some o->∀ {B}{I0 I:Imm}{Q p1 c p2 c1}{b:Nat}{p3 c2 cs},I0.le I->(S4 I p2 p.Parts c1)->(S4 I p1 p.Arrays c)->(RL I cs out)->NG Q->NO Q->(∀ (I':Imm) (aj:List zL) (p4:Option Addr) (c3:Nat) (ay:List Value),o=(.done aj)->I0.le I'->(RL I' ay aj)->T 89 B Q (.exit 0) I' [hO zL (vS p4 aj c3) ay] [(4,vS p4 aj c3)])->(∀ r I' ah m',o=(.ret r)->I0.le I'->RS Tryz.prog f41 B (qN  r) I' ah m'->T 89 B Q .ret I' ah m')->J Tryz.prog 89 B (nav (bodyOf f41) [1,1,1,0,1,0]) Q I [hO zL (vS p3 out c2) cs,hB b (cProg p p1 c p2 c1)] [(1,vP b 0),(4,vS p3 out c2),(24,vS p2 p.Parts c1),(25,vI (p.Parts.length:Int)),(26,vI t26)]:=by
 refine wY.partial_correctness p _ fun aH ih out t26 o N B I0 I Q p1 c p2 c1 b p3 c2 cs H h1 h h4 hg ho hx hr=>yR hg ho<|yG [27] rfl<|yA<|yF N ?_ ?_
 · intro aY N;refine zT<|yA<|yH<|yE<|yC 1 [] [28] rfl<|bE N fun x aA N=>xO rfl rfl h1 aA ?_;intro ad aK aq al;obtain ⟨p5,c4,p6,c5,rfl,h6,h7⟩:=wQ al;refine xJ 0 aq (cPart x p5 c4 p6 c5) (vA (cPart x p5 c4 p6 c5)) rfl<|wL zTwo ?_;intro b1 hb1;refine yC 5 [] [5] rfl<|xH 0 (cPart x p5 c4 p6 c5) rfl<|yD rfl<|yV<|yC 2 [0] [33] rfl ?_;obtain ⟨⟨y2,y3⟩,aJ,N⟩:=zB N;refine xM (zDV x.Nest _ aJ h6) ?_;rintro aU aw v2 k2 aC - ⟨v03,v04,rfl,rfl,h8,rfl⟩ -;have ⟨h4,h1,h6,h7,h,H⟩:=m6 aC h4 h1 h6 h7 h H;obtain ⟨p7,c6,rfl⟩:=h8.form;refine yI [] [7,8] rfl<|yA<|yB<|rL 0 rfl ?_;intro bC aD hl0;have au:At bC ⟨b1,0,none⟩ (cPart x p5 c4 p6 c5):=At.of_blk hl0;have ⟨h4,h6,h7,h8,h1,h⟩:=m6 aD h4 h6 h7 h8 h1 h;have H:=H.trans aD;refine wS N [hO zL (vS p3 out c2) cs,hB b (cProg p p1 c p2 c1)] (fun t51=>[(1,vP b 0),(4,vS p3 out c2),(5,vI t26),(6,vP b1 0),(7,vS p7 y2 c6),(24,vS p2 p.Parts c1),(25,vI (p.Parts.length:Int)),(26,vI t26),(51,.bool t51)]) (fun aM az=>?_) ?_
   · have H:=iS bC;refine zM<|yC 3 [] [39] rfl<|xS [39] az ?_ ?_
     · intro bG N;exact wB [] [(51,vY)]<|yL<|zU (ct N H)
     intro bG N;refine yC 4 [] [40] rfl<|xJ 1 au [vS p6 x.Body c5] (vS p6 x.Body c5) rfl<|yC 6 [] [42] rfl<|bE N fun y4 bf N=>uM (wC (x.Body.length:Int) 1 4 _ bf ) ?_;intro bN aW;have ⟨h6,h7,au,h,H⟩:=m5 aW h6 h7 au h H;refine yC 10 [] [46] rfl<|xS [46] N ?_ ?_
     · intro bM N;exact wB [] [(51,vY)]<|yL<|zU (ct N H)
     intro bM N;refine yC 11 [] [47] rfl<|xJ 1 au [vS p6 x.Body c5] (vS p6 x.Body c5) rfl<|yC 13 [] [49] rfl ?_;have hf0:FV1 Tryz.prog bN [] (.func (.func 80) ⟨[]⟩ ⟨[vP b1 0]⟩) (fun x0=>vH x0 x):=by
       refine FV1.intro ?_;intro I1 af x0 r u0 hF k0;obtain ⟨_,rfl,k0⟩:=k0;obtain ⟨p8,c7,p9,c8,aV,c9,aN,bc,rfl,h11,h12,h13,h14⟩:=qS k0;exact (dV x0 x r hF h11 h12 h13 h14 (h6.mono af) (h7.mono af) (au.mono af)).mono (by rintro k i hs u ⟨v0,rfl,rfl,h⟩; exact ⟨rfl,h⟩)
     obtain ⟨y5,bw,N⟩:=zB N;refine xM (jL x.Body (fun x0=>vH x0 x) _ bw h7 hf0) ?_;rintro I06 aw v2 k2 bt - ⟨v010,rfl,rfl,rfl⟩ -;have H:=H.trans bt;exact yI [] [51] rfl<|yL<|zU (ct N H)
   intro t51 bJ bv hMc1;have ⟨h4,h6,h7,au,h8,h1⟩:=m6 bv h4 h6 h7 au h8 h1;have ⟨h,H⟩:=m2 bv h H;refine zI<|yF hMc1 ?_ ?_
   · intro hc5 N;exact yG [2,3] rfl<|xC<|zH<|zW<|zH<|zH<|hr _ _ _ _ (zC N).symm H ⟨_,_,(.tmp rfl (.tmp rfl ResV.nil)),zQ,⟨_,_,rfl,rfl,(SL.nil _),rfl⟩⟩
   intro hc5 N;refine zT<|vK [52,53,54] rfl<|xX<|qP [(1,vP b 0),(4,vS p3 out c2),(5,vI t26),(6,vP b1 0),(24,vS p2 p.Parts c1),(25,vI (p.Parts.length:Int)),(26,vI t26),(52,vS p7 y2 c6),(53,vI (y2.length:Int)),(54,vI 0)] ?_;obtain ⟨o03,ho03,hMl1⟩:=zB N;refine dI p t26 x y2 out 0 o03 ho03 iR h6 h7 au h1 h8 h h4 (fun _ _ _ h=>hg _ _ _ h) (fun _ _ h=>ho _ _ h) ?_ ?_
   · intro bW aP bj bk aR heq3 le12 h17;subst o03;have ⟨h1,h,H⟩:=m3 le12 h1 h H;exact zS<|zP<|zI<|zM<|yI [] [26] rfl<|yP<|nN<|ih aP (W (t26+1)) _ hMl1 H h1 h h17 hg ho hx hr
   intro r0 I9 hs9 m9 aX le9 ba;subst aX;exact zW<|zW<|zH<|zH<|hr _ _ _ _ (zC hMl1).symm (H.trans le9) ba
 intro aY N;exact wR<|xQ (zX [0] rfl (by decide))<|yL<|hx _ _ _ _ _ (zC N).symm H h4
def rV (p:zD):Option ((List zL)×Bool):=do
 let t22<-(do
   let y<-jM p.Arrays
   if (!y) then
    pure true
   else
    pure (decide ((p.Parts.length:Int)>4))
     : Option Bool)
 if t22 then
  pure (([]:List zL),false)
 else
  match<-wY p ([]:List zL) 0 with
  | .ret r0=>pure r0
  | .done aj =>
   pure (aj,(decide ((aj.length:Int)<=120)))
theorem zAS:∀ p r,rV p=some r->∀ {I:Imm}{p1 c p2 c1},(S4 I p1 p.Arrays c)->(S4 I p2 p.Parts c1)->RT 41 [vA (cProg p p1 c p2 c1)] I [] (qN  r):=by
 intro p r N I p1 c p2 c1 h h1;unfold rV at N;refine yJ func41 fun B=>?_;have H:=iS I;refine yE<|tW (cProg p p1 c p2 c1) ?_;intro b hb;refine wB [] []<|yA<|yB ?_;refine wS N [hB b (cProg p p1 c p2 c1)] (fun t22=>[(1,vP b 0),(22,.bool t22)]) (fun o0 aB=>?_) ?_
 · have H:=iS I;refine zM<|yC 2 [0] [14] rfl ?_;obtain ⟨y,hy,N⟩:=zB aB;refine uM (zFK p.Arrays _ hy h) ?_;intro aT le;have H:=H.trans le;refine yC 5 [] [17] rfl<|xS [17] N ?_ ?_
   · intro hc N;exact wB [] [(22,vY)]<|yL<|zU (ct N H)
   intro hc N;exact yI [0] [22] rfl<|yL<|zU (ct N H)
 intro t22 I0 af aS;have ⟨h,h1⟩:=m2 af h h1;refine zI<|yF aS ?_ ?_
 · intro aE N;refine yG [2,3] rfl<|xC<|zH ?_;obtain rfl:=zC N;exact xA ⟨_,_,(.tmp rfl (.tmp rfl ResV.nil)),zQ,⟨_,_,rfl,rfl,(SL.nil _),rfl⟩⟩
 intro aE N;refine zT<|zGR [(4,z0)]<|yA<|yE<|yI [0] [24,25,26] rfl<|xX<|qP [(1,vP b 0),(4,z0),(24,vS p2 p.Parts c1),(25,vI (p.Parts.length:Int)),(26,vI 0)]<|dR zL fun h3=>?_;obtain ⟨o04,ho04,hMl2⟩:=zB N;refine dJ p ([]:List zL) 0 o04 ho04 iR h1 h h3 (fun _ _ _ h=>h) (fun _ _ h=>h) ?_ ?_
 · intro I013 aj p4 c3 ay heq4 le13 h5;subst o04;refine zS<|vK [2,3] rfl<|xC<|yU 0 rfl ?_;intro I014 le14 hl02;have h31:=SL.of_frozen hl02 le14 h5;obtain rfl:=zC hMl2;exact xA ⟨_,_,(.tmp rfl (.tmp rfl ResV.nil)),zQ,⟨_,_,rfl,rfl,h31,rfl⟩⟩
 intro r0 I9 hs9 m9 aX le9 ba;subst aX;refine zW<|zH ?_;obtain rfl:=zC hMl2;exact xA ba
def zBZ (r:zO):KT:=fun kk I' ah v=>
  ∃ v0,ah=[]/\v=tupV [v0]/\(∃ cs,v0=.agg ⟨cs⟩/\Rp.rep I' cs r)
def kF (p:zD) (x:zL):Option (zO):=do
 let x1<-idx p.Parts x.Part
 let x2<-idx x1.Body x.Stmt
 pure (id x2)
theorem zCN:∀ p x r,kF p x=some r->∀ {I:Imm}{p1 c p2 c1 p3 c2},(S4 I p1 p.Arrays c)->(S4 I p2 p.Parts c1)->(S4 I p3 x.Point c2)->RT 127 [vA (cProg p p1 c p2 c1),vA (cInst x p3 c2)] I [] (zBZ  r):=by
 intro p x r N I p1 c p2 c1 p3 c2 h h1 h2;unfold kF at N;refine yJ func127 fun B=>yE<|tW (cProg p p1 c p2 c1) ?_;intro b hb;refine tW (cInst x p3 c2) ?_;intro b1 hb1;refine wL [vT ([]),z0,vI 0,vI 0,z0,vI 0,vT ([]),z0,z0] ?_;intro b2 hb2;refine yD rfl<|zI<|yB ?_;obtain ⟨x1,hy,N⟩:=zB N;obtain ⟨x2,aA,N⟩:=zB N;refine vC [.p (vP b 1) [],.p (vS p2 p.Parts c1) [2],.p (vP b1 0) [],.p (vI x.Part) [1],.x (ePPart x1),.x (eQPart 1 x1),.x (eS x1.Body),.p (vP b1 1) [],.p (vI x.Stmt) [1],.x (ePStmt x2),.x (eVStmt x2)] [[],[(0,false)],[],[(2,false)],[(1,false),(3,false)],[(4,false)],[(5,false)],[],[(7,false)],[(6,false),(8,false)],[(9,false)]] [hB b2 [vT ([]),z0,vI 0,vI 0,z0,vI 0,vT ([]),z0,z0],hB b1 (cInst x p3 c2),hB b (cProg p p1 c p2 c1)] [] [(10,false)] (zY [0,1,2]) ?_ ?_
 · refine Op<|Op<|Op<|Op<|Ox ?_<|Ox ?_<|Ox ?_<|Op<|Op<|Ox ?_<|Ox ?_<|On
   · intro I1 hf af;refine yW [6,8] rfl ?_;have h1:=h1.mono af;refine xO rfl rfl h1 hy ?_;intro ad aK aq al;obtain ⟨p4,c3,p5,c4,rfl,h3,h4⟩:=wQ al;exact yQ [] iR ⟨_,_,_,_,_,rfl,rfl,aq,h3,h4⟩
   · rintro I1 hf af _ _ ⟨ad,p4,c3,p5,c4,rfl,rfl,aq,h3,h4⟩;exact yW [9] rfl<|oY 6 [(10,.pointer (some (ad.add 1)))]<|yQ [] iR ⟨_,_,_,_,_,rfl,rfl,aq,h3,h4⟩
   · rintro I1 hf af _ _ ⟨ad1,p41,c31,p51,c41,rfl,rfl,au,h31,h41⟩;exact yW [10] rfl<|xJ 1 au [vS p51 x1.Body c41] (vS p51 x1.Body c41) rfl<|yQ [] iR ⟨_,_,rfl,rfl,h41⟩
   · rintro I1 hf af _ _ ⟨p511,c411,rfl,rfl,h411⟩;refine yW [11,13] rfl<|xO rfl rfl h411 aA ?_;intro ad2 bx br ax;obtain ⟨p6,c5,p7,c6,p8,c7,p9,c8,rfl,h5,h6,h7,h8⟩:=qS ax;exact yQ [] iR ⟨_,_,_,_,_,_,_,_,_,rfl,rfl,br,h5,h6,h7,h8⟩
   rintro I1 hf af _ _ ⟨ad2,p6,c5,p7,c6,p8,c7,p9,c8,rfl,rfl,br,h5,h6,h7,h8⟩;exact yW [14] rfl<|xJ 0 br (cStmt x2 p6 c5 p7 c6 p8 c7 p9 c8) (vA (cStmt x2 p6 c5 p7 c6 p8 c7 p9 c8)) rfl<|yQ [] iR ⟨_,_,_,_,_,_,_,_,rfl,rfl,h5,h6,h7,h8⟩
 rintro I0 le _ _ ⟨p61,c51,p71,c61,p81,c71,p91,c81,rfl,rfl,h51,h61,h71,h81⟩;refine yW [4,15] rfl ?_;refine xH 0 (cStmt x2 p61 c51 p71 c61 p81 c71 p91 c81) rfl<|yD rfl<|zI<|xB ?_;obtain rfl:=zC N;exact xA ⟨_,_,(.cell 0 rfl rfl (by kernel_rfl) ResV.nil),zQ,⟨_,rfl,rfl,⟨_,rfl,(wM ⟨_,_,_,_,rfl,h51,h61,h71,h81⟩)⟩⟩⟩
def zAT (r:(List Int)×Int):KT:=fun kk I' ah v=>
  ∃ v0 v1,ah=[]/\v=tupV [v0,v1]/\SL I' v0 r.1/\v1=.int .i64 r.2
def vL (p:zD) (x:zL) (y1:(List zJ)) (out:List Int) (t17:Int):Option (List Int):=do
 if (decide (t17<(y1.length:Int))) then
  let x1<-idx y1 t17
  let y2<-tV p x1 x.Point
  let ap<-app 8 out ([y2]:List Int)
  vL p x y1 ap (W (t17+1))
 else
  pure (id out)
 partial_fixpoint
theorem zAJ (p:zD) (x:zL) (y1:(List zJ)):∀ (out:List Int) (t17:Int) (o:List Int),vL p x y1 out t17=some o->∀ {B}{I0 I:Imm}{Q}{y:zO}{p1 c p2 c1 p3 c2}{b:Nat}{b1:Nat}{p4 c3 p5 c4 p6 c5 p7 c6}{b2:Nat}{p8 c7 p9 c8 ay},I0.le I->(S4 I p8 y1 c7)->(S4 I p4 y.Write.Subs c3)->(S4 I p5 y.Value.Index.Coefs c4)->(S4 I p6 y.Value.Read.Subs c5)->(S4 I p7 y.Value.Kids c6)->(S4 I p3 x.Point c2)->(S4 I p1 p.Arrays c)->(S4 I p2 p.Parts c1)->(RL I ay out)->NG Q->NO Q->(∀ (I':Imm) (aj:List Int) (aV:Option Addr) (c9:Nat) (aQ:List Value),o=aj->I0.le I'->(RL I' aQ aj)->T 37 B Q (.exit 0) I' [hO Int (vS aV aj c9) aQ,hB b2 (cStmt y p4 c3 p5 c4 p6 c5 p7 c6),hB b1 (cInst x p3 c2),hB b (cProg p p1 c p2 c1)] [(2,vP b 0),(3,vP b1 0),(6,vP b2 0),(7,vS aV aj c9)])->J Tryz.prog 37 B (nav (bodyOf f85) [1,1,1,0,1,0]) Q I [hO Int (vS p9 out c8) ay,hB b2 (cStmt y p4 c3 p5 c4 p6 c5 p7 c6),hB b1 (cInst x p3 c2),hB b (cProg p p1 c p2 c1)] [(2,vP b 0),(3,vP b1 0),(6,vP b2 0),(7,vS p9 out c8),(15,vS p8 y1 c7),(16,vI (y1.length:Int)),(17,vI t17)]:=by
 refine vL.partial_correctness p x y1 _ fun aH ih out t17 o N B I0 I Q y p1 c p2 c1 p3 c2 b b1 p4 c3 p5 c4 p6 c5 p7 c6 b2 p8 c7 p9 c8 ay H h8 h4 h5 h6 h7 h2 h h1 h10 hg ho hx=>yR hg ho<|yG [18] rfl<|yA<|yF N ?_ ?_
 · intro hc N;refine zT<|yA<|yH<|yE<|bE N fun x1 aJ N=>xO rfl rfl h8 aJ ?_;intro ad aK aq al;obtain ⟨aN,bc,rfl,h12⟩:=oT al;refine xJ 0 aq (cAccess x1 aN bc) (vA (cAccess x1 aN bc)) rfl<|wL [vT ([]),z0] ?_;intro b3 hb3;refine xH 0 (cAccess x1 aN bc) rfl<|yD rfl<|zI<|zM<|rY 5 [4,0,3] [(21,vS p9 out c8),(22,vA (cProg p p1 c p2 c1)),(23,vA (cAccess x1 aN bc)),(25,vS p3 x.Point c2)]<|bE N fun y2 bf N=>gR (mO p x1 x.Point _ bf h h1 h12 h2) ?_;intro aU aC;have ⟨h8,h10,h4,h5,h6,h7⟩:=m6 aC h8 h10 h4 h5 h6 h7;have ⟨h2,h,h1,H⟩:=m4 aC h2 h h1 H;refine uD [vI y2] Int ?_;intro b4 hb4;have h14:RL aU [vI y2] ([y2]:List Int):=rI [y2];obtain ⟨ap,bw,N⟩:=zB N;exact sC 3 1 2 rfl rfl rfl h10 (.inr ⟨0,rfl⟩) h14 bw fun bB aZ aR h15=>tO (zY [1,2,3,4,5] (ah:=[hB b3 (cAccess x1 aN bc),hO Int (vS bB ap aZ) aR,hB b2 (cStmt y p4 c3 p5 c4 p6 c5 p7 c6),hB b1 (cInst x p3 c2),hB b (cProg p p1 c p2 c1)]))<|yI [] [7] rfl<|zP<|zI<|zM<|yI [] [17] rfl<|yP<|nX (zX [1,2,3,4] rfl (by decide))<|nN<|ih ap (W (t17+1)) _ N H h8 h4 h5 h6 h7 h2 h h1 h15 hg ho hx
 intro hc N;exact wR<|yL<|hx _ _ _ _ _ (zC N).symm H h10
def pF (p:zD) (x:zL):Option ((List Int)×Int):=do
 let y<-kF p x
 let y1<-mP y.Value
 let aj<-vL p x y1 ([]:List Int) 0
 let y3<-tV p y.Write x.Point
 pure (aj,y3)
theorem zBI:∀ p x r,pF p x=some r->∀ {I:Imm}{p1 c p2 c1 p3 c2},(S4 I p1 p.Arrays c)->(S4 I p2 p.Parts c1)->(S4 I p3 x.Point c2)->RT 85 [vA (cProg p p1 c p2 c1),vA (cInst x p3 c2)] I [] (zAT  r):=by
 intro p x r N I p1 c p2 c1 p3 c2 h h1 h2;unfold pF at N;refine yJ func85 fun B=>yE<|tW (cProg p p1 c p2 c1) ?_;intro b hb;refine tW (cInst x p3 c2) ?_;intro b1 hb1;refine wB [] []<|yV<|rY 2 [1,0] [(10,vA (cProg p p1 c p2 c1)),(11,vA (cInst x p3 c2))]<|bE N fun y hy N=>xM (zCN p x _ hy h h1 h2) ?_;rintro I0 aw v2 k2 le - ⟨v0,rfl,rfl,⟨cs,rfl,h3⟩⟩ -;have ⟨h2,h,h1⟩:=m3 le h2 h h1;obtain ⟨p4,c3,p5,c4,p6,c5,p7,c6,rfl,h4,h5,h6,h7⟩:=qS h3;refine wL [vT ([]),z0,vI 0,vI 0,z0,vI 0,vT ([]),z0,z0] ?_;intro b2 hb2;refine xH 0 (cStmt y p4 c3 p5 c4 p6 c5 p7 c6) rfl<|yD rfl<|zGR [(7,z0)]<|yA<|yE<|rY 2 [0] [(14,vA (cExpr y.Value p5 c4 p6 c5 p7 c6))]<|bE N fun y1 aA N=>xM (zCw y.Value _ aA h5 h6 h7) ?_;rintro aT aw v2 k2 af - ⟨v05,rfl,rfl,h8⟩ -;have ⟨h4,h5,h6,h7,h2,h⟩:=m6 af h4 h5 h6 h7 h2 h;have h1:=h1.mono af;obtain ⟨p8,c7,rfl⟩:=h8.form;refine yI [] [16,17] rfl<|xX<|qP [(2,vP b 0),(3,vP b1 0),(6,vP b2 0),(7,z0),(15,vS p8 y1 c7),(16,vI (y1.length:Int)),(17,vI 0)]<|dR Int fun h9=>?_;obtain ⟨o0,aB,aI⟩:=zB N;refine zAJ p x y1 ([]:List Int) 0 o0 aB iR h8 h4 h5 h6 h7 h2 h h1 h9 (fun _ _ _ h=>h) (fun _ _ h=>h) ?_;intro bC aj aV c9 aQ heq aD h11;subst o0;have ⟨h4,h2,h,h1⟩:=m4 aD h4 h2 h h1;refine zS<|yV<|rY 6 [3,1,2] [(30,vS aV aj c9),(31,vA (cProg p p1 c p2 c1)),(33,vA (cAccess y.Write p4 c3)),(35,vS p3 x.Point c2)] ?_;obtain ⟨y3,bH,N⟩:=zB aI;refine gR (mO p y.Write x.Point _ bH h h1 h4 h2) ?_;intro bJ aW;have h11:=iM aW h11;refine yI [] [4,5] rfl<|xC<|yU 0 rfl ?_;intro bN bt hl0;have h17:=SL.of_frozen hl0 bt h11;obtain rfl:=zC N;exact xA ⟨_,_,(.tmp rfl (.tmp rfl ResV.nil)),zQ,⟨_,_,rfl,rfl,h17,rfl⟩⟩
def zFk (r:(Option tG)×Bool):KT:=fun kk I' ah v=>
  ∃ v0 v1,ah=[]/\v=tupV [v0,v1]/\FP I' v0 r.1/\v1=.bool r.2
def nH (p:zD) (y1:(List zL)) (t24:Int) (reads:List (List Int)) (writes:List Int):Option ((List (List Int)×List Int)):=do
 if (decide (t24<(y1.length:Int))) then
  let x<-idx y1 t24
  let (y4,y5)<-pF p x
  let l<-app 24 reads ([y4]:List (List Int))
  let l1<-app 8 writes ([y5]:List Int)
  nH p y1 (W (t24+1)) l l1
 else
  pure (reads,writes)
 partial_fixpoint
theorem zFM (p:zD) (y1:(List zL)):∀ (t24:Int) (reads:List (List Int)) (writes:List Int) (o:(List (List Int)×List Int)),nH p y1 t24 reads writes=some o->∀ {B}{I0 I:Imm}{Q p1 c p2 c1}{b:Nat}{p3 c2}{b1:Nat}{p4 c3 cs p5 c4 ay},I0.le I->(S4 I p3 y1 c2)->(S4 I p1 p.Arrays c)->(S4 I p2 p.Parts c1)->(RL I cs reads)->(RL I ay writes)->NG Q->NO Q->(∀ (I':Imm) (reads1:List (List Int)) (writes1:List Int) (p6:Option Addr) (c5:Nat) (aQ:List Value) (p7:Option Addr) (c6:Nat) (aR:List Value),o=(reads1,writes1)->I0.le I'->(RL I' aQ reads1)->(RL I' aR writes1)->T 56 B Q (.exit 0) I' [hO Int (vS p7 writes1 c6) aR,hO (List Int) (vS p6 reads1 c5) aQ,hB b1 [vS p1 p.Arrays c,vS p2 p.Parts c1,vS p3 y1 c2,vS p6 reads1 c5,vS p7 writes1 c6]] [(6,vP b1 0)])->J Tryz.prog 56 B (nav (bodyOf f43) [1,1,1,1,0,1,0]) Q I [hO Int (vS p5 writes c4) ay,hO (List Int) (vS p4 reads c3) cs,hB b1 [vS p1 p.Arrays c,vS p2 p.Parts c1,vS p3 y1 c2,vS p4 reads c3,vS p5 writes c4],hB b (cProg p p1 c p2 c1)] [(1,vP b 0),(6,vP b1 0),(22,vS p3 y1 c2),(23,vI (y1.length:Int)),(24,vI t24)]:=by
 refine nH.partial_correctness p y1 _ fun aH ih t24 reads writes o N B I0 I Q p1 c p2 c1 b p3 c2 b1 p4 c3 cs p5 c4 ay H h2 h h1 h6 h7 hg ho hx=>yR hg ho<|yG [25] rfl<|yA<|yF N ?_ ?_
 · intro aE N;refine zT<|yA<|yH<|yE<|bE N fun x aA N=>xO rfl rfl h2 aA ?_;intro ad aK aq al;obtain ⟨p8,c7,rfl,h10⟩:=uL al;refine xJ 0 aq (cInst x p8 c7) (vA (cInst x p8 c7)) rfl<|wL [vI 0,vI 0,z0] ?_;intro b2 hb2;refine xH 0 (cInst x p8 c7) rfl<|yD rfl<|yV<|rY 2 [4,0] [(29,vA (cProg p p1 c p2 c1)),(30,vA (cInst x p8 c7))] ?_;obtain ⟨⟨y4,y5⟩,aJ,N⟩:=zB N;refine xM (zBI p x _ aJ h h1 h10) ?_;rintro aT aw v2 k2 af - ⟨v03,v04,rfl,rfl,h11,rfl⟩ -;have ⟨h2,h7,h6,h,h1,H⟩:=m6 af h2 h7 h6 h h1 H;obtain ⟨p9,c8,rfl⟩:=h11.form;refine yI [] [9,10] rfl<|zI ?_;obtain ⟨l,bf,N⟩:=zB N;obtain ⟨l1,bw,N⟩:=zB N;refine vC [.p (vP b1 0) [],.p (vP b1 0) [],.p (vP b1 0) [],.p (vP b1 0) [],.p (vP b1 3) [],.q (vS p4 reads c3),.p (vS p9 y4 c8) [],.x (fun I' v hx=>∃ b3,v=vS (some ⟨b3,0,none⟩) ([y4]:List (List Int)) 1/\hx=[]/\(SL I' (vS (some ⟨b3,0,none⟩) ([y4]:List (List Int)) 1) ([y4]:List (List Int)))),.x (fun I' v hx=>∃ aV c9 bz,v=vS aV l c9/\hx=[hO (List Int) (vS aV l c9) bz]/\(RL I' bz l)),.p (vP b1 0) [],.p (vP b1 0) [],.p (vP b1 4) [],.q (vS p5 writes c4),.p (vI y5) [],.x (fun I' v hx=>∃ b4,v=vS (some ⟨b4,0,none⟩) ([y5]:List Int) 1/\hx=[]/\(SL I' (vS (some ⟨b4,0,none⟩) ([y5]:List Int) 1) ([y5]:List Int))),.x (fun I' v hx=>∃ aN bc bD,v=vS aN l1 bc/\hx=[hO Int (vS aN l1 bc) bD]/\(RL I' bD l1)),.p (vP b1 0) [],.p (vP b1 3) [],.x (fun I' v hx=>∃ p101 c91 cs41,hx=[hB b1 [vS p1 p.Arrays c,vS p2 p.Parts c1,vS p3 y1 c2,vS p101 l c91,vS p5 writes c4],hO (List Int) (vS p101 l c91) cs41]/\(RL I' cs41 l))] [[],[],[],[(2,false)],[(3,false)],[(4,false),(24,false)],[],[(6,false)],[(5,false),(7,false),(22,true)],[],[(9,false)],[(10,false)],[(11,false),(24,false)],[],[(13,false)],[(12,false),(14,false),(23,true)],[(0,false)],[(16,false)],[(8,true),(17,false),(24,true)]] [hB b2 (cInst x p8 c7),hB b (cProg p p1 c p2 c1)] [[hO (List Int) (vS p4 reads c3) cs],[hO Int (vS p5 writes c4) ay],[hB b1 [vS p1 p.Arrays c,vS p2 p.Parts c1,vS p3 y1 c2,vS p4 reads c3,vS p5 writes c4]]] [(1,false),(15,true),(18,true)] (zY [0,4,2,1,3]) ?_ ?_
   · refine Op<|Op<|Op<|Op<|Op<|Ob ?_<|Op<|Ox ?_<|Ox ?_<|Op<|Op<|Op<|Ob ?_<|Op<|Ox ?_<|Ox ?_<|Op<|Op<|Ox ?_<|On
     · intro I1 hf af hbo;obtain ⟨hf2,hbp⟩:=hbo.at (j:=24) (g:=[hB b1 [vS p1 p.Arrays c,vS p2 p.Parts c1,vS p3 y1 c2,vS p4 reads c3,vS p5 writes c4]]) (by decide) (by kernel_rfl) rfl;refine xU ?_;rintro _ _ ⟨rfl,rfl⟩;refine xU ?_;rintro _ _ rfl;refine pM<|zMj hbp<|zAP [(38,vP b1 3)] ?_;exact zCz (cs:=[vS p4 reads c3]) (v:=vS p4 reads c3) 2 rfl rfl rfl rfl rfl (by kernel_rfl) (by kernel_rfl) (by kernel_rfl)<|xE iR
     · intro I1 hf af;refine yW [40] rfl ?_;have H:=iS I1;have h11:=h11.mono af;refine nC (rc y4 ⟨_,rfl,h11⟩ rN) ?_;intro b3 aU aC h14;have H:=H.trans aC;exact yQ [] H ⟨_,rfl,rfl,h14⟩
     · rintro I1 hf af _ _ ⟨rfl,rfl⟩ _ _ ⟨b3,rfl,rfl,h14⟩ _ _ rfl;refine yW [39,41] rfl ?_;have h6:=iM af h6;obtain ⟨bx,k0,k01⟩:=h14;have h14:SL I1 (vS (some ⟨b3,0,none⟩) ([y4]:List (List Int)) 1) ([y4]:List (List Int)):=⟨_,k0,k01⟩;exact sC 27 1 0 rfl rfl rfl h6 (.inl k0) k01 bf fun aV c9 bz h15=>wE (ah:=(hO (List Int) (vS aV l c9) bz::hB b2 (cInst x p8 c7)::hB b (cProg p p1 c p2 c1)::hf)) rfl<|yQ [hO (List Int) (vS aV l c9) bz] iR ⟨_,_,_,rfl,rfl,h15⟩
     · intro I1 hf af hbo;obtain ⟨hf2,hbp⟩:=hbo.at (j:=24) (g:=[hB b1 [vS p1 p.Arrays c,vS p2 p.Parts c1,vS p3 y1 c2,vS p4 reads c3,vS p5 writes c4]]) (by decide) (by kernel_rfl) rfl;refine xU ?_;rintro _ _ ⟨rfl,rfl⟩;refine xU ?_;rintro _ _ rfl;refine pM<|zMj hbp<|zAP [(45,vP b1 4)] ?_;exact zCz (cs:=[vS p5 writes c4]) (v:=vS p5 writes c4) 2 rfl rfl rfl rfl rfl (by kernel_rfl) (by kernel_rfl) (by kernel_rfl)<|xE iR
     · intro I1 hf af;refine yW [47] rfl ?_;have H:=iS I1;refine nC (rI [y5]) ?_;intro b4 bC aD h17;have H:=H.trans aD;exact yQ [] H ⟨_,rfl,rfl,h17⟩
     · rintro I1 hf af _ _ ⟨rfl,rfl⟩ _ _ ⟨b4,rfl,rfl,h17⟩ _ _ rfl;refine yW [46,48] rfl ?_;have h7:=iM af h7;obtain ⟨bO,k02,k03⟩:=h17;have h17:SL I1 (vS (some ⟨b4,0,none⟩) ([y5]:List Int) 1) ([y5]:List Int):=⟨_,k02,k03⟩;exact sC 3 1 0 rfl rfl rfl h7 (.inl k02) k03 bw fun aN bc bD h18=>wE (ah:=(hO Int (vS aN l1 bc) bD::hB b2 (cInst x p8 c7)::hB b (cProg p p1 c p2 c1)::hf)) rfl<|yQ [hO Int (vS aN l1 bc) bD] iR ⟨_,_,_,rfl,rfl,h18⟩
     rintro I1 hf af _ _ ⟨aV,c9,bz,rfl,rfl,h15⟩ _ _ ⟨rfl,rfl⟩ _ _ rfl;refine yW [42,51] rfl ?_;have H:=iS I1;exact zAo 0 [vS p1 p.Arrays c,vS p2 p.Parts c1,vS p3 y1 c2,vS aV l c9,vS p5 writes c4] (hB b1 [vS p1 p.Arrays c,vS p2 p.Parts c1,vS p3 y1 c2,vS aV l c9,vS p5 writes c4]::hO (List Int) (vS aV l c9) bz::hB b2 (cInst x p8 c7)::hB b (cProg p p1 c p2 c1)::hf) rfl rfl rfl rfl<|zFX (hx:=[hB b1 [vS p1 p.Arrays c,vS p2 p.Parts c1,vS p3 y1 c2,vS aV l c9,vS p5 writes c4],hO (List Int) (vS aV l c9) bz]) rfl H rfl (zGJ (v:=undef)) ⟨_,_,_,rfl,h15⟩
   rintro bJ aW _ _ ⟨rfl,rfl⟩ _ _ ⟨aN,bc,bD,rfl,rfl,h18⟩ _ _ ⟨p101,c91,cs41,rfl,h151⟩;refine yW [1,6,22,23,24,35,49] rfl ?_;have ⟨h2,h,h1,H⟩:=m4 aW h2 h h1 H;exact yC 21 [] [53] rfl<|xH 0 [vS p1 p.Arrays c,vS p2 p.Parts c1,vS p3 y1 c2,vS p101 l c91,vS aN l1 bc] rfl<|yD rfl<|zP<|zI<|zM<|yI [] [24] rfl<|yP<|nX (zX [2,1,0,4] rfl (by decide))<|nN<|ih (W (t24+1)) l l1 _ N H h2 h h1 h151 h18 hg ho hx
 intro aE N;exact wR<|xQ (zX [0,1,2] rfl (by decide))<|yL<|hx _ _ _ _ _ _ _ _ _ (zC N).symm H h6 h7
def eA (p:zD):Option ((Option tG)×Bool):=do
 let (y1,y2)<-rV p
 if (!y2) then
  pure (none,false)
 else
  let (reads1,writes1)<-nH p y1 0 ([]:List (List Int)) ([]:List Int)
  pure ((some (tG.mk p y1 reads1 writes1)),true)
theorem zHN:∀ p r,eA p=some r->∀ {I:Imm}{p1 c p2 c1},(S4 I p1 p.Arrays c)->(S4 I p2 p.Parts c1)->RT 43 [vA (cProg p p1 c p2 c1)] I [] (zFk  r):=by
 intro p r N I p1 c p2 c1 h h1;unfold eA at N;refine yJ func43 fun B=>yE<|tW (cProg p p1 c p2 c1) ?_;intro b hb;refine wB [] []<|yV<|rY 1 [0] [(12,vA (cProg p p1 c p2 c1))] ?_;obtain ⟨⟨y1,y2⟩,hy,N⟩:=zB N;refine xM (zAS p _ hy h h1) ?_;rintro I0 aw v2 k2 le - ⟨v0,v01,rfl,rfl,h2,rfl⟩ -;have ⟨h,h1⟩:=m2 le h h1;obtain ⟨p3,c2,rfl⟩:=h2.form;refine yI [] [4,5] rfl<|yA<|yG [17] rfl<|zI<|yF N ?_ ?_
 · intro hc N;refine yG [2,3] rfl<|xC<|zH ?_;obtain rfl:=zC N;exact xA ⟨_,_,(.tmp rfl (.tmp rfl ResV.nil)),zQ,⟨_,_,rfl,rfl,zND,rfl⟩⟩
 intro hc N;refine zT<|yV<|rY 3 [0] [(20,vA [vS p1 p.Arrays c,vS p2 p.Parts c1,vS p3 y1 c2,z0,z0])]<|tW [vS p1 p.Arrays c,vS p2 p.Parts c1,vS p3 y1 c2,z0,z0] ?_;intro b1 hb1;refine yI [] [6] rfl<|yA<|yG [22,23,24] rfl<|xX<|qP [(1,vP b 0),(6,vP b1 0),(22,vS p3 y1 c2),(23,vI (y1.length:Int)),(24,vI 0)]<|dR (List Int) fun h4=>?_;refine dR Int fun h5=>?_;obtain ⟨o0,aB,aI⟩:=zB N;refine zFM p y1 0 ([]:List (List Int)) ([]:List Int) o0 aB iR h2 h h1 h4 h5 (fun _ _ _ h=>h) (fun _ _ h=>h) ?_;intro bN reads1 writes1 p6 c5 aQ p7 c6 aR heq bt h8 h9;subst o0;have ⟨h,h1,h2⟩:=m3 bt h h1 h2;refine zS<|vK [2,3] rfl<|xC<|yU 1 rfl ?_;intro I06 bv hl02;have h19:=SL.of_frozen hl02 bv h8;have ⟨h9,h,h1,h2⟩:=m4 bv h9 h h1 h2;refine yU 0 rfl ?_;intro I07 le7 hl03;have h20:=SL.of_frozen hl03 le7 h9;have ⟨h,h1,h2,h19⟩:=m4 le7 h h1 h2 h19;refine yU 0 rfl ?_;intro I08 le8 hl04;have au:At I08 ⟨b1,0,none⟩ [vS p1 p.Arrays c,vS p2 p.Parts c1,vS p3 y1 c2,vS p6 reads1 c5,vS p7 writes1 c6]:=At.of_blk hl04;have ⟨h,h1,h2,h19,h20⟩:=m5 le8 h h1 h2 h19 h20;obtain rfl:=zC aI;exact xA ⟨_,_,(.tmp rfl (.tmp rfl ResV.nil)),zQ,⟨_,_,rfl,rfl,(zN6 au (zEm ⟨_,_,_,_,_,rfl,h,h1,h2,h19,h20⟩)),rfl⟩⟩
def pR (p:zD) (part:Int):Option (Bool):=do
 let y<-xW part 0 (W ((p.Parts.length:Int) - 1))
 pure (id y)
theorem zB0:∀ p part r,pR p part=some r->∀ {I:Imm}{p1 c p2 c1},(S4 I p1 p.Arrays c)->(S4 I p2 p.Parts c1)->RT 86 [vA (cProg p p1 c p2 c1),vI part] I [] (zV  r):=by
 intro p part r N I p1 c p2 c1 h h1;unfold pR at N;refine yJ func86 fun B=>yE<|tW (cProg p p1 c p2 c1) ?_;intro b hb;refine wB [] []<|yV<|yC 5 [0] [5,9] rfl<|bE N fun y hy N=>uM (wC part 0 (W ((p.Parts.length:Int) - 1)) _ hy ) fun I0 le=>wB [] [(4,.bool y)]<|zI<|xB ?_;obtain rfl:=zC N;exact vE
def pS (p:zD) (part:Int) (loop:Int):Option (Bool):=do
 let t6<-(do
   let y<-pR p part
   if y then
    let x<-idx p.Parts part
    let y1<-xW loop 0 (W ((x.Nest.length:Int) - 1))
    pure (id y1)
   else
    pure false
     : Option Bool)
 pure (id t6)
theorem zB1:∀ p part loop r,pS p part loop=some r->∀ {I:Imm}{p1 c p2 c1},(S4 I p1 p.Arrays c)->(S4 I p2 p.Parts c1)->RT 44 [vA (cProg p p1 c p2 c1),vI part,vI loop] I [] (zV  r):=by
 intro p part loop r N I p1 c p2 c1 h h1;unfold pS at N;refine yJ func44 fun B=>?_;have H:=iS I;refine yE<|tW (cProg p p1 c p2 c1) ?_;intro b hb;refine wB [] []<|zI<|yB ?_;refine wS N [] (fun t6=>[(6,.bool t6)]) (fun o0 aB=>?_) ?_
 · have H:=iS I;refine zM<|rY 2 [0] [(7,vA (cProg p p1 c p2 c1)),(8,vI part)] ?_;obtain ⟨y,hy,N⟩:=zB aB;refine uM (zB0 p part _ hy h h1) ?_;intro aT le;have ⟨h1,H⟩:=m2 le h1 H;refine yC 4 [] [10] rfl<|xS [10] N ?_ ?_
   · intro hc N;refine yC 8 [0] [11,13,14] rfl<|bE N fun x aA N=>xO rfl rfl h1 aA ?_;intro ad aK aq al;obtain ⟨p3,c2,p4,c3,rfl,h3,h4⟩:=wQ al;refine yC 10 [] [16] rfl<|xJ 0 aq [vS p3 x.Nest c2] (vS p3 x.Nest c2) rfl<|yC 13 [] [19] rfl<|bE N fun y1 aJ N=>uM (wC loop 0 (W ((x.Nest.length:Int) - 1)) _ aJ ) ?_;intro aU af;have H:=H.trans af;exact yI [] [6] rfl<|xQ zQ<|yL<|zU (ct N H)
   intro hc N;exact wB [] [(6,vF)]<|xQ zQ<|yL<|zU (ct N H)
 intro t6 I0 aC aS;refine zI<|xB ?_;obtain rfl:=zC aS;exact vE
def vM (s1:(List Int)) (s2:(List Int)) (t13:Int):Option (Out Unit (Bool)):=do
 if (decide (t13<(s1.length:Int))) then
  let x<-idx s1 t13
  let x1<-idx s2 t13
  if (x != x1) then
   pure (.ret false)
  else
   vM s1 s2 (W (t13+1))
 else
  pure (.done ())
 partial_fixpoint
theorem zAK (s1:(List Int)) (s2:(List Int)):∀ (t13:Int) (o:Out Unit (Bool)),vM s1 s2 t13=some o->∀ {B}{I0 I:Imm}{Q p c p1 c1},I0.le I->(S4 I p s1 c)->(S4 I p1 s2 c1)->NG Q->NO Q->(∀ (I':Imm) ,o=(.done ())->I0.le I'->T 26 B Q (.exit 0) I' [] [])->(∀ r I' ah m',o=(.ret r)->I0.le I'->RS Tryz.prog f61 B (zV  r) I' ah m'->T 26 B Q .ret I' ah m')->J Tryz.prog 26 B (nav (bodyOf f61) [1,1,0,1,0]) Q I [] [(0,vS p s1 c),(1,vS p1 s2 c1),(12,vI (s1.length:Int)),(13,vI t13)]:=by
 refine vM.partial_correctness s1 s2 _ fun aH ih t13 o N B I0 I Q p c p1 c1 H h h1 hg ho hx hr=>yR hg ho<|yG [14] rfl<|yA<|yF N ?_ ?_
 · intro aE N;refine zT<|yA<|yH<|yG [5] rfl<|yA<|jE (by kernel_rfl) (by kernel_rfl)<|fS 2 [] [16,17] rfl<|bE N fun x hy N=>dM rfl rfl h hy ?_;intro ad aK aq al;obtain rfl:=al;refine eX 0 aq [vI x] (vI x) rfl<|fS 6 [] [20,21] rfl<|bE N fun x1 aA N=>dM rfl rfl h1 aA ?_;intro ad1 bx au ax;obtain rfl:=ax;refine eX 0 au [vI x1] (vI x1) rfl<|zHL [] [24] rfl<|zI<|yF N ?_ ?_
   · intro aY N;exact vR [(4,vF)]<|xC<|zW<|zH<|zH<|hr _ _ _ _ (zC N).symm H ⟨_,_,(.tmp rfl ResV.nil),zQ,⟨_,rfl,rfl,rfl⟩⟩
   intro aY N;exact zT<|zP<|zI<|zM<|yI [] [13] rfl<|yP<|nN<|ih (W (t13+1)) _ N H h h1 hg ho hx hr
 intro aE N;exact wR<|yL<|hx _  (zC N).symm H
def pG (s1:(List Int)) (s2:(List Int)):Option (Bool):=do
 if ((s1.length:Int) != (s2.length:Int)) then
  pure false
 else
  match<-vM s1 s2 0 with
  | .ret r0=>pure r0
  | .done _ =>
   pure true
theorem zBJ:∀ s1 s2 r,pG s1 s2=some r->∀ {I:Imm}{p c p1 c1},(S4 I p s1 c)->(S4 I p1 s2 c1)->RT 61 [vS p s1 c,vS p1 s2 c1] I [] (zV  r):=by
 intro s1 s2 r N I p c p1 c1 h h1;unfold pG at N;refine yJ func61 fun B=>vR []<|yA<|yG [10] rfl<|zI<|yF N ?_ ?_
 · intro hc N;refine vR [(4,vF)]<|xC<|zH ?_;obtain rfl:=zC N;exact vE
 intro hc N;refine zT<|yA<|yG [12,13] rfl<|xX<|qP [(0,vS p s1 c),(1,vS p1 s2 c1),(12,vI (s1.length:Int)),(13,vI 0)] ?_;obtain ⟨o0,aB,aI⟩:=zB N;refine zAK s1 s2 0 o0 aB iR h h1 (fun _ _ _ h=>h) (fun _ _ h=>h) ?_ ?_
 · intro I0  heq le;subst o0;refine zS<|zGR [(4,vY)]<|zI<|xB ?_;obtain rfl:=zC aI;exact vE
 intro r0 I9 hs9 m9 aX le9 ba;subst aX;refine zW<|zH ?_;obtain rfl:=zC aI;exact xA ba
instance {β:Type} [Rp β] {i j:Imm}{xs:List (List β)}{X:List Raw1}{y:List β}{v:Value}:Mo (GN i xs X y v) i j (GN j xs X y v):=⟨fun h x=>x.mono h⟩
instance {σ α β:Type} [Vr α] [Vr β] {P:Program}{i j:Imm}{hsS:σ->List HA}{v:Value}{φ:α->σ->Option (β×σ)}:Mo (FS1 P i hsS v φ) i j (FS1 P j hsS v φ):=⟨fun h x=>x.mono h⟩
theorem zN9 {B:Base}{I:Imm}{Q:Exit->Act->World->Prop}{v0 vl:Value}{part loop i n t20:Int}{O G:List Raw1}{l l1:List Int}{aO aG aL:Option Addr}{kO kG kL:Nat}{cO cG cL:List Value}{adG:Addr}{iO:Int} (qO:RL I cO O) (hG:RL I cG G) (hL:RL I cL l) (aq:AtO (vS aO O kO) (Rp.sz Raw1) iO.toNat adG) (hyO:idx O iO=some ⟨vS aG G kG⟩) (hyG:idx G (W ((G.length:Int) - 1))=some ⟨vS aL l kL⟩) (hap:app 8 l [i]=some l1) (hx:∀ (I':Imm) (cG':List Value) (aL':Option Addr) (kL':Nat) (cL':List Value),I.le I'->RL I' cG' (G.set (W ((G.length:Int) - 1)).toNat ⟨vS aL' l1 kL'⟩)->RL I' cL' l1->T 107 B Q .normal I' [hO Raw1 (vS aO O kO) cO,hO Raw1 (vS aG G kG) cG',hO Int (vS aL' l1 kL') cL'] [(0,v0),(1,vI part),(2,vI loop),(7,vS aO O kO),(8,vI i),(18,vl),(19,vI n),(20,vI t20)]):J Tryz.prog 107 B (nav (bodyOf f74) [1,1,1,0,1,0,0,1,1,0,0,1,1,1,1,1,1,1]) Q I [hO Raw1 (vS aO O kO) cO,hO Raw1 (vS aG G kG) cG,hO Int (vS aL l kL) cL] [(0,v0),(1,vI part),(2,vI loop),(7,vS aO O kO),(9,vI i),(13,.pointer (some adG)),(18,vl),(19,vI n),(20,vI t20)]:=by
 have hccO:(cO.drop (iO.toNat*Rp.sz Raw1)).take (Rp.sz Raw1)=[vS aG G kG]:=(qO.at (vW hyO).2.2).1.1;refine yB<|vC [.p (.pointer (some adG)) [],.p (.pointer (some adG)) [],.q (vS aG G kG),.p (.pointer (some adG)) [],.p (.pointer (some adG)) [],.q (vS aG G kG),.q (vI (G.length:Int)),.q (vI (W ((G.length:Int) - 1))),.x (fun I' v hx=>∃ ad,v=.pointer (some ad)/\hx=[]/\AtO (vS aG G kG) (Rp.sz Raw1) (W ((G.length:Int) - 1)).toNat ad)] [[],[(0,false)],[(1,false)],[],[(3,false)],[(4,false)],[(5,false)],[(6,false)],[(2,false),(7,false)]] [hO Raw1 (vS aO O kO) cO,hO Raw1 (vS aG G kG) cG,hO Int (vS aL l kL) cL] [] [(8,false)] (zY [0,1,2]) ?_ ?_
 · refine Op<|Op<|Oq ?_<|Op<|Op<|Oq ?_<|Oq ?_<|Oq ?_<|Ox ?_<|On
   · rintro I1 hf af _ _ ⟨rfl,rfl⟩;exact pM<|zAP [(88,.pointer (some adG))]<|zAn 0 0 aq hccO [vS aG G kG] (vS aG G kG) rfl rfl<|xE iR
   · rintro I1 hf af _ _ ⟨rfl,rfl⟩;exact pM<|zAP [(91,.pointer (some adG))]<|zAn 0 0 aq hccO [vS aG G kG] (vS aG G kG) rfl rfl<|xE iR
   · rintro I1 hf af _ _ ⟨rfl,rfl⟩;exact pM<|zAP [(92,vS aG G kG)]<|oY 7 [(93,vI (G.length:Int))]<|xE iR
   · rintro I1 hf af _ _ ⟨rfl,rfl⟩;exact pM<|zAP [(93,vI (G.length:Int))]<|oY 8 [(94,vI (W ((G.length:Int) - 1)))]<|xE iR
   intro I1 hf af;exact yW [89,94] rfl<|nY (α:=Raw1) 1 rfl rfl rfl (iM af hG) hyG fun ad aK br _ _=>yQ [] iR ⟨_,rfl,rfl,br⟩
 rintro I2 aC _ _ ⟨adL,rfl,rfl,hatL⟩;refine yW [0,1,2,7,9,95,18,19,20] rfl ?_;replace qO:RL I2 cO O:=iM aC qO;have hG:RL I2 cG G:=iM aC hG;have hL:RL I2 cL l:=iM aC hL;have hccG:(cG.drop ((W ((G.length:Int) - 1)).toNat*Rp.sz Raw1)).take (Rp.sz Raw1)=[vS aL l kL]:=(hG.at (vW hyG).2.2).1.1;refine yI [] [14] rfl<|yV<|yC 3 [] [96,98] rfl<|zAn 1 0 hatL hccG [vS aL l kL] (vS aL l kL) rfl rfl<|yC 5 [] [100] rfl<|uD [vI i] Int ?_;intro b9 hb9;have k1:RL I2 [vI i] ([i]:List Int):=⟨[vI i],_,rfl,rfl,rfl,rfl⟩;refine xF 0 rfl ?_;intro I3 aD hl3;obtain ⟨aK,k0,k01⟩:=SL.of_frozen hl3 aD k1;have hG:RL I3 cG G:=iM aD hG;have hL:RL I3 cL l:=iM aD hL;refine sC (α:=Int) 3 1 2 rfl rfl rfl hL (.inl k0) k01 hap ?_;intro aL9 kL9 cL9 hL9;exact wE (ah:=[hO Raw1 (vS aO O kO) cO,hO Raw1 (vS aG G kG) cG,hO Int (vS aL9 l1 kL9) cL9]) rfl<|yC 8 [] [103] rfl<|qB (α:=Raw1) (c:=[vS aL9 l1 kL9]) (x':=⟨vS aL9 l1 kL9⟩) 1 0 rfl rfl rfl hatL rfl rfl hccG (by kernel_rfl) (by kernel_rfl) (by kernel_rfl) hG hyG rfl ⟨rfl,rfl⟩ fun cG9 hG9 hl9=>yD rfl<|zI<|zM<|yI [] [8] rfl<|yL<|hx _ _ _ _ _ (aC.trans aD) hG9 hL9
theorem zNa {B:Base}{I:Imm}{Q:Exit->Act->World->Prop}{v0 vl:Value}{part loop i n t20:Int}{O G:List Raw1}{g g1:List (List Int)}{l l0 l1:List Int}{aO aG aL:Option Addr}{kO kG kL:Nat}{cO cG cL:List Value} (inner:Bool) (qO:RL I cO O) (hG:RL I cG G) (hL:RL I cL l) (hyO:idx O (W ((O.length:Int) - 1))=some ⟨vS aG G kG⟩) (hN:GN I g G l (vS aL l kL)) (hg1:(if inner then some g else app 24 g [[]])=some g1) (hl0:idx g1 (W ((g1.length:Int) - 1))=some l0) (hap:app 8 l0 [i]=some l1) (hx:∀ (I':Imm) (cO':List Value) (aG':Option Addr) (G':List Raw1) (kG':Nat) (cG':List Value) (aL':Option Addr) (kL':Nat) (cL':List Value),I.le I'->RL I' cO' (O.set (W ((O.length:Int) - 1)).toNat ⟨vS aG' G' kG'⟩)->RL I' cG' G'->RL I' cL' l1->GN I' (g1.set (W ((g1.length:Int) - 1)).toNat l1) G' l1 (vS aL' l1 kL')->T 107 B Q .normal I' [hO Raw1 (vS aO O kO) cO',hO Raw1 (vS aG' G' kG') cG',hO Int (vS aL' l1 kL') cL'] [(0,v0),(1,vI part),(2,vI loop),(7,vS aO O kO),(8,vI i),(18,vl),(19,vI n),(20,vI t20)]):J Tryz.prog 107 B (nav (bodyOf f74) [1,1,1,0,1,0,0,1,1,0,0,1,1,1,1,1]) Q I [hO Raw1 (vS aO O kO) cO,hO Raw1 (vS aG G kG) cG,hO Int (vS aL l kL) cL] [(0,v0),(1,vI part),(2,vI loop),(7,vS aO O kO),(9,vI i),(12,.bool inner),(18,vl),(19,vI n),(20,vI t20)]:=by
 refine yE<|yC 4 [] [73,76] rfl<|nY (α:=Raw1) 0 rfl rfl rfl qO hyO ?_;intro adG aK aq hccO _;obtain rfl:[vS aG G kG]=aK:=((qO.at (vW hyO).2.2).1.1).symm.trans hccO;refine yI [] [13] rfl<|yA<|yG [79] rfl<|zI ?_;cases inner with
 | true =>
  simp only [if_true,Option.some.injEq] at hg1;subst g1;obtain ⟨rfl,hyG,he,hu⟩:=hN.last hl0;refine jD rfl<|zT<|zI<|qP [(0,v0),(1,vI part),(2,vI loop),(7,vS aO O kO),(9,vI i),(13,.pointer (some adG)),(18,vl),(19,vI n),(20,vI t20)]<|zN9 qO hG hL aq hyO hyG hap ?_;intro I' cG' aL' kL' cL' le' hG' hL';have bh:(G.set (W ((G.length:Int) - 1)).toNat ⟨vS aL' l1 kL'⟩).length=G.length:=cR;have e:vS aG (G.set (W ((G.length:Int) - 1)).toNat ⟨vS aL' l1 kL'⟩) kG=vS aG G kG:=by simp only [vS,bh]
  have hs:O.set (W ((O.length:Int) - 1)).toNat ⟨vS aG G kG⟩=O:=by
   obtain ⟨aF,e9⟩:=cj.1 (vW hyO).2.2;rw [<- e9,List.set_getElem_self]
  have:=hx I' cO aG (G.set (W ((G.length:Int) - 1)).toNat ⟨vS aL' l1 kL'⟩) kG cG' aL' kL' cL' le' (by rw [e,hs]; exact RepL.mono (fun _ _=>Rp.mono le') qO) hG' hL' (by have:=(hu l1 (vS aL' l1 kL')).mono le'; exact this);rw [e] at this;exact this
 | false =>
  simp only [cU,if_false] at hg1;refine fO rfl<|rL 2 rfl ?_;intro I1 af hl1;have kL0:SL I1 (vS aL l kL) l:=SL.of_frozen hl1 af hL;replace qO:RL I1 cO O:=iM af qO;have hG:RL I1 cG G:=iM af hG;obtain ⟨hbd,rfl⟩:=gT hg1;have hN2:=(hN.mono af).push kL0 hbd;refine zM<|yC 3 [] [80,82] rfl<|zAn 0 0 aq hccO [vS aG G kG] (vS aG G kG) rfl rfl<|uD [z0] Raw1 ?_;intro b9 hb9;have k1:RL I1 [z0] ([⟨z0⟩]:List Raw1):=⟨[z0],[],rfl,rfl,⟨rfl,rfl⟩,rfl⟩;refine xF 0 rfl ?_;intro I2 aC hl2;obtain ⟨bO,k0,k01⟩:=(SL.of_frozen hl2 aC k1:SL I2 (vS (some ⟨b9,0,none⟩) ([⟨z0⟩]:List Raw1) 1) [⟨z0⟩]);replace qO:RL I2 cO O:=iM aC qO;have hG:RL I2 cG G:=iM aC hG;have hN2:=hN2.mono aC;refine sC (α:=Raw1) 27 1 1 rfl rfl rfl hG (.inl k0) k01 (app1 hg1 hN.len) ?_;intro aG9 kG9 cG9 hG9;refine wE (ah:=[hO Raw1 (vS aO O kO) cO,hO Raw1 (vS aG9 (G++[⟨z0⟩]) kG9) cG9]) rfl<|yC 7 [] [86] rfl<|qB (α:=Raw1) (c:=[vS aG9 (G++[⟨z0⟩]) kG9]) (x':=⟨vS aG9 (G++[⟨z0⟩]) kG9⟩) 0 0 rfl rfl rfl aq rfl rfl hccO (by kernel_rfl) (by kernel_rfl) (by kernel_rfl) qO hyO rfl ⟨rfl,rfl⟩ ?_;intro cO9 hO9 hl9;have eO:vS aO (O.set (W ((O.length:Int) - 1)).toNat ⟨vS aG9 (G++[⟨z0⟩]) kG9⟩) kO=vS aO O kO:=by simp only [vS,hl9]
  refine yD rfl<|zI<|nX (pP (Rp.sz Int))<|nX (zY [1,2,0] (ah:=[hO Raw1 (vS aO O kO) cO9,hO Raw1 (vS aG9 (G++[⟨z0⟩]) kG9) cG9,hO Int (vS none ([]:List Int) 0) []]))<|qP [(0,v0),(1,vI part),(2,vI loop),(7,vS aO O kO),(9,vI i),(13,.pointer (some adG)),(18,vl),(19,vI n),(20,vI t20)] ?_;obtain ⟨rfl,hyG,he,hu⟩:=hN2.last hl0;have hyO2:idx (O.set (W ((O.length:Int) - 1)).toNat ⟨vS aG9 (G++[⟨z0⟩]) kG9⟩) (W ((O.length:Int) - 1))=some (⟨vS aG9 (G++[⟨z0⟩]) kG9⟩:Raw1):=zLW hyO;rw [<- eO];refine zN9 hO9 hG9 RepL.nil (by rw [eO]; exact aq) hyO2 hyG hap ?_;intro I' cG' aL' kL' cL' le' hG' hL';have bh:((G++[⟨z0⟩]:List Raw1).set (W (((G++[⟨z0⟩]:List Raw1).length:Int) - 1)).toNat ⟨vS aL' l1 kL'⟩).length=(G++[⟨z0⟩]:List Raw1).length:=cR;have e:vS aG9 ((G++[⟨z0⟩]:List Raw1).set (W (((G++[⟨z0⟩]:List Raw1).length:Int) - 1)).toNat ⟨vS aL' l1 kL'⟩) kG9=vS aG9 (G++[⟨z0⟩]) kG9:=by simp only [vS,bh]
  have hO10:RL I' cO9 (O.set (W ((O.length:Int) - 1)).toNat ⟨vS aG9 (G++[⟨z0⟩]) kG9⟩):=RepL.mono (fun _ _=>Rp.mono le') hO9;have hN5:=(hu l1 (vS aL' l1 kL')).mono le';rw [<- e] at hO10;have:=hx I' cO9 aG9 _ kG9 cG' aL' kL' cL' ((af.trans aC).trans le') hO10 hG' hL' hN5;rw [e] at this;rw [eO];exact this
def dW (r:(List (List (List Int)))):KT:=fun kk I' ah v=>
  ∃ v0,ah=[]/\v=tupV [v0]/\SL I' v0 r
def xR (t:tG) (part:Int) (loop:Int) (out:List (List (List Int))) (before:Int) (t20:Int):Option (List (List (List Int))):=do
 if (decide (t20<(t.list.length:Int))) then
  let x<-idx t.list t20
  if (x.Part != part) then
   xR t part loop out before (W (t20+1))
  else
   let outer<-(do
     if (decide (before>=0)) then
      let x1<-idx t.list before
      let l<-slc x1.Point 0 loop
      let l1<-slc x.Point 0 loop
      let y<-pG l l1
      pure (id y)
     else
      pure false
       : Option Bool)
   let inner<-(do
     if outer then
      let x2<-idx t.list before
      let x3<-idx x2.Point loop
      let x4<-idx x.Point loop
      pure (x3==x4)
     else
      pure false
       : Option Bool)
   let aj<-(if outer then some out else app 24 out ([[]]:List (List (List Int))))
   let g<-idx aj (W ((aj.length:Int) - 1))
   let g1<-(if inner then some g else app 24 g ([[]]:List (List Int)))
   let l<-idx g1 (W ((g1.length:Int) - 1))
   let l1<-app 8 l ([t20]:List Int)
   xR t part loop (aj.set (W ((aj.length:Int) - 1)).toNat (g1.set (W ((g1.length:Int) - 1)).toNat l1)) t20 (W (t20+1))
 else
  pure (id out)
 partial_fixpoint
theorem dK (t:tG) (part:Int) (loop:Int):∀ (out:List (List (List Int))) (before:Int) (t20:Int) (o:List (List (List Int))),xR t part loop out before t20=some o->∀ {B}{I0 I:Imm}{Q}{ad:Addr}{p c p1 c1 p2 c2 p3 c3 p4 c4}{O G:List Raw1}{g:List (List Int)}{l:List Int}{aO aG aL:Option Addr}{kO kG kL:Nat}{cO cG cL:List Value},I0.le I->(S4 I p t.Program.Arrays c)->(S4 I p1 t.Program.Parts c1)->(S4 I p2 t.list c2)->(S4 I p3 t.reads c3)->(S4 I p4 t.writes c4)->(At I ad [vS p t.Program.Arrays c,vS p1 t.Program.Parts c1,vS p2 t.list c2,vS p3 t.reads c3,vS p4 t.writes c4])->GN I out O g (vS aG G kG)->GN I g G l (vS aL l kL)->RL I cO O->RL I cG G->RL I cL l->NG Q->NO Q->(∀ (I':Imm) (aO':Option Addr) (O':List Raw1) (kO':Nat),I0.le I'->SL I' (vS aO' O' kO') o->T 107 B Q (.exit 0) I' [] [(7,vS aO' O' kO')])->J Tryz.prog 107 B (nav (bodyOf f74) [1,1,1,0,1,0]) Q I [hO Raw1 (vS aO O kO) cO,hO Raw1 (vS aG G kG) cG,hO Int (vS aL l kL) cL] [(0,.pointer (some ad)),(1,vI part),(2,vI loop),(7,vS aO O kO),(8,vI before),(18,vS p2 t.list c2),(19,vI (t.list.length:Int)),(20,vI t20)]:=by
 refine xR.partial_correctness t part loop _ fun aH ih out before t20 o N B I0 I Q ad p c p1 c1 p2 c2 p3 c3 p4 c4 O G g l aO aG aL kO kG kL cO cG cL H h h1 h2 h3 h4 aq hN3 hN2 qO hG hL hg ho hx=>yR hg ho<|yG [21] rfl<|yA<|yF N ?_ ?_
 · intro hc N;refine zT<|yA<|yH<|yE<|yC 1 [] [22] rfl<|bE N fun x hy N=>xO rfl rfl h2 hy ?_;intro ad1 aK au al;obtain ⟨p5,c5,rfl,h5⟩:=uL al;refine xJ 0 au (cInst x p5 c5) (vA (cInst x p5 c5)) rfl<|wL [vI 0,vI 0,z0] ?_;intro b hb;refine yC 5 [] [9] rfl<|xH 0 (cInst x p5 c5) rfl<|yD rfl<|yA<|yE<|yI [0] [28] rfl<|zI<|yF N ?_ ?_
   · intro aE N;exact zEb<|jB<|zS<|zI<|zM<|yI [] [20] rfl<|yP<|nX (zY [1,2,3] (ah:=[hO Raw1 (vS aO O kO) cO,hO Raw1 (vS aG G kG) cG,hO Int (vS aL l kL) cL]))<|nN<|ih out before (W (t20+1)) _ N H h h1 h2 h3 h4 aq hN3 hN2 qO hG hL hg ho hx
   intro aE N;refine zT<|zI<|yB ?_;obtain ⟨o0,aB,aS⟩:=zB N;refine zMS (hs:=[hB b (cInst x p5 c5)]) (L:=[hO Raw1 (vS aO O kO) cO,hO Raw1 (vS aG G kG) cG,hO Int (vS aL l kL) cL]) .normal (fun I' ah m'=>∃ (outer:Bool),o0=outer/\I.le I'/\ah=[hB b (cInst x p5 c5)]/\m'=[(0,.pointer (some ad)),(1,vI part),(2,vI loop),(7,vS aO O kO),(8,vI before),(9,vI t20),(10,vP b 0),(11,.bool outer),(18,vS p2 t.list c2),(19,vI (t.list.length:Int)),(20,vI t20)]) (fun B0=>?_) ?_
   · have H:=iS I;cases aY:(decide (before>=0)) with
     | true =>
      have hM0:=tZ aY aB;obtain ⟨x1,aA,N⟩:=zB hM0;obtain ⟨l,aJ,N⟩:=zB N;obtain ⟨l1,bf,N⟩:=zB N;obtain ⟨y,bw,N⟩:=zB N;refine vC [.p (vI before) [],.q vY,.q vY,.p (.pointer (some ad)) [],.p (.pointer (some ad)) [],.p (.pointer (some (ad.add 2))) [],.q (vS p2 t.list c2),.p (vI before) [],.x (ePInst x1),.x (eQInst 2 x1),.x (eS x1.Point),.p (vI loop) [],.x (eS l),.p (vP b 2) [],.p (vS p5 x.Point c5) [0],.p (vI loop) [],.x (eS l1),.q (.bool y),.p (.bool y) []] [[],[(0,false)],[(1,false)],[(2,false)],[(2,false),(3,false)],[(2,false),(4,false)],[(2,false),(5,false)],[(2,false)],[(2,false),(6,false),(7,false)],[(2,false),(8,false)],[(2,false),(9,false)],[(2,false)],[(2,false),(10,false),(11,false)],[(2,false)],[(2,false),(13,false)],[(2,false)],[(2,false),(14,false),(15,false)],[(2,false),(12,false),(16,false)],[(2,false),(17,false)]] [hB b (cInst x p5 c5)] [] [(18,false)] (zY [0]) ?_ ?_
      · refine Op<|Oq ?_<|Oq ?_<|Op<|Op<|Op<|Oq ?_<|Op<|Ox ?_<|Ox ?_<|Ox ?_<|Op<|Ox ?_<|Op<|Op<|Op<|Ox ?_<|Oq ?_<|Op<|On
        · intro I1 hf af;refine yW [29] rfl<|oY 2 [(30,.bool (decide (before>=0)))] ?_;rw [aY];exact xE iR
        · intro I1 hf af;exact dC [(30,vY)]<|oY 3 [(31,vY)]<|xE iR
        · intro I1 hf af;refine yW [31,34] rfl ?_;have aq:=aq.mono af;exact xJ 2 aq [vS p2 t.list c2] (vS p2 t.list c2) rfl<|xE iR
        · intro I1 hf af;refine yW [31,35,36] rfl ?_;have h2:=h2.mono af;refine xO rfl rfl h2 aA ?_;intro ad2 bx br ax;obtain ⟨p6,c6,rfl,h6⟩:=uL ax;exact yQ [] iR ⟨_,_,_,rfl,rfl,br,h6⟩
        · rintro I1 hf af _ _ ⟨rfl,rfl⟩ _ _ ⟨ad2,p6,c6,rfl,rfl,br,h6⟩;exact yW [31,37] rfl<|oY 10 [(38,.pointer (some (ad2.add 2)))]<|yQ [] iR ⟨_,_,_,rfl,rfl,br,h6⟩
        · rintro I1 hf af _ _ ⟨rfl,rfl⟩ _ _ ⟨ad21,p61,c61,rfl,rfl,hat21,h61⟩;exact yW [31,38] rfl<|xJ 2 hat21 [vS p61 x1.Point c61] (vS p61 x1.Point c61) rfl<|yQ [] iR ⟨_,_,rfl,rfl,h61⟩
        · rintro I1 hf af _ _ ⟨rfl,rfl⟩ _ _ ⟨p611,c611,rfl,rfl,h611⟩;refine yW [31,39,40] rfl<|zIj rfl h611 aJ ?_;intro v02 h7;obtain ⟨p7,c7,rfl⟩:=h7.form;exact yQ [] iR ⟨_,_,rfl,rfl,h7⟩
        · intro I1 hf af;refine yW [31,43,44] rfl ?_;have h5:=h5.mono af;refine zIj rfl h5 bf ?_;intro v03 h8;obtain ⟨p8,c8,rfl⟩:=h8.form;exact yQ [] iR ⟨_,_,rfl,rfl,h8⟩
        rintro I1 hf af _ _ ⟨rfl,rfl⟩ _ _ ⟨p7,c7,rfl,rfl,h7⟩ _ _ ⟨p8,c8,rfl,rfl,h8⟩;refine yW [31,41,45] rfl ?_;have H:=iS I1;refine uM (zBJ l l1 _ bw h7 h8) ?_;intro aT le;have H:=H.trans le;exact xE H
      intro aU af;refine yW [0,1,2,7,8,9,10,18,19,20,47] rfl ?_;have H:=H.trans af;exact yI [] [11] rfl<|T_w [(0,.pointer (some ad)),(1,vI part),(2,vI loop),(7,vS aO O kO),(8,vI before),(9,vI t20),(10,vP b 0),(11,.bool y),(18,vS p2 t.list c2),(19,vI (t.list.length:Int)),(20,vI t20)]<|zKh ⟨_,(zC N).symm,H,rfl,rfl⟩
     | false =>
      have hM01:=uZ aY aB;refine vC [.p (vI before) [],.q vF,.q vF,.p undef [],.p undef [],.p undef [],.p undef [],.p undef [],.p undef [],.p undef [],.p undef [],.p undef [],.p undef [],.p undef [],.p undef [],.p undef [],.p undef [],.p undef [],.p vF []] [[],[(0,false)],[(1,false)],[(2,false)],[(2,false),(3,false)],[(2,false),(4,false)],[(2,false),(5,false)],[(2,false)],[(2,false),(6,false),(7,false)],[(2,false),(8,false)],[(2,false),(9,false)],[(2,false)],[(2,false),(10,false),(11,false)],[(2,false)],[(2,false),(13,false)],[(2,false)],[(2,false),(14,false),(15,false)],[(2,false),(12,false),(16,false)],[(2,false),(17,false)]] [hB b (cInst x p5 c5)] [] [(18,false)] (zY [0]) ?_ ?_
      · refine Op<|Oq ?_<|Oq ?_<|Op<|Op<|Op<|Op<|Op<|Op<|Op<|Op<|Op<|Op<|Op<|Op<|Op<|Op<|Op<|Op<|On
        · intro I1 hf af;refine yW [29] rfl<|oY 2 [(30,.bool (decide (before>=0)))] ?_;rw [aY];exact xE iR
        intro I1 hf af;exact dC [(30,vF)]<|oY 3 [(31,vF)]<|xE iR
      intro bC aC;refine yW [0,1,2,7,8,9,10,18,19,20,47] rfl ?_;have H:=H.trans aC;exact wB [] [(11,vF)]<|T_w [(0,.pointer (some ad)),(1,vI part),(2,vI loop),(7,vS aO O kO),(8,vI before),(9,vI t20),(10,vP b 0),(11,vF),(18,vS p2 t.list c2),(19,vI (t.list.length:Int)),(20,vI t20)]<|zKh ⟨_,(zC hM01).symm,H,rfl,rfl⟩
   rintro I0 aw m2 ⟨outer,heq,aD,rfl,rfl⟩ -;subst o0;have ⟨h,h1,h2,h3,h4,aq⟩:=m6 aD h h1 h2 h3 h4 aq;have ⟨h5,H⟩:=m2 aD h5 H;refine zI<|yB ?_;obtain ⟨aM,az,hMc1⟩:=zB aS;refine zMS (hs:=[hB b (cInst x p5 c5)]) (L:=[hO Raw1 (vS aO O kO) cO,hO Raw1 (vS aG G kG) cG,hO Int (vS aL l kL) cL]) .normal (fun I' ah m'=>∃ (inner:Bool),aM=inner/\I0.le I'/\ah=[]/\m'=[(0,.pointer (some ad)),(1,vI part),(2,vI loop),(7,vS aO O kO),(9,vI t20),(11,.bool outer),(12,.bool inner),(18,vS p2 t.list c2),(19,vI (t.list.length:Int)),(20,vI t20)]) (fun B0=>?_) ?_
   · have H:=iS I0;refine jE (by kernel_rfl) (by kernel_rfl)<|fS 2 [] [49] rfl<|zF0 [49] az ?_ ?_
     · intro bG N;refine fS 5 [] [52] rfl<|eX 2 aq [vS p2 t.list c2] (vS p2 t.list c2) rfl<|fS 7 [] [54] rfl<|bE N fun x2 bH N=>dM rfl rfl h2 bH ?_;intro ad3 bO hat3 bq;obtain ⟨p9,c9,rfl,h10⟩:=uL bq;refine fS 9 [] [56] rfl<|eX 2 hat3 [vS p9 x2.Point c9] (vS p9 x2.Point c9) rfl<|fS 11 [] [58] rfl<|bE N fun x3 hy6 N=>dM rfl rfl h10 hy6 ?_;intro ad4 ccs3 hat4 bI;obtain rfl:=bI;refine eX 0 hat4 [vI x3] (vI x3) rfl<|fS 16 [0] [62,63] rfl<|bE N fun x4 hy7 N=>dM rfl rfl h5 hy7 ?_;intro ad5 ccs4 hat5 hrep4;obtain rfl:=hrep4;exact eX 0 hat5 [vI x4] (vI x4) rfl<|zHL [] [12] rfl<|xQ zQ<|T_w [(0,.pointer (some ad)),(1,vI part),(2,vI loop),(7,vS aO O kO),(9,vI t20),(11,.bool outer),(12,.bool (x3==x4)),(18,vS p2 t.list c2),(19,vI (t.list.length:Int)),(20,vI t20)]<|zKh ⟨_,(zC N).symm,H,rfl,rfl⟩
     intro bG N;exact zIf [] [(12,vF)]<|xQ zQ<|T_w [(0,.pointer (some ad)),(1,vI part),(2,vI loop),(7,vS aO O kO),(9,vI t20),(11,.bool outer),(12,vF),(18,vS p2 t.list c2),(19,vI (t.list.length:Int)),(20,vI t20)]<|zKh ⟨_,(zC N).symm,H,rfl,rfl⟩
   rintro bJ aw m2 ⟨inner,heq1,aW,rfl,rfl⟩ -;subst aM;have ⟨h,h1,h2,h3,h4,aq⟩:=m6 aW h h1 h2 h3 h4 aq;have H:=H.trans aW;have bt:=aD.trans aW;have ⟨hN3,hN2⟩:=m2 bt hN3 hN2;replace qO:RL bJ cO O:=iM bt qO;have hG:RL bJ cG G:=iM bt hG;have hL:RL bJ cL l:=iM bt hL;obtain ⟨aj,ho1,hMa⟩:=zB hMc1;obtain ⟨g0,hyg,hMb⟩:=zB hMa;obtain ⟨g1,hg1,hMd⟩:=zB hMb;obtain ⟨l0,hyl,hMe⟩:=zB hMd;obtain ⟨l1,hap,hM9⟩:=zB hMe;clear hMa hMb hMd hMe;refine yA<|yG [69] rfl<|zI ?_;cases outer with
   | true =>
    simp only [if_true,Option.some.injEq] at ho1;subst aj;obtain ⟨rfl,hyO,he,hu⟩:=hN3.last hyg;refine jD rfl<|zT<|zI<|qP [(0,.pointer (some ad)),(1,vI part),(2,vI loop),(7,vS aO O kO),(9,vI t20),(12,.bool inner),(18,vS p2 t.list c2),(19,vI (t.list.length:Int)),(20,vI t20)]<|zNa inner qO hG hL hyO hN2 hg1 hyl hap ?_;intro I9 cO9 aG9 G9 kG9 cG9 aL9 kL9 cL9 le9 hO9 hG9 hL9 hN9;have eO:vS aO (O.set (W ((O.length:Int) - 1)).toNat ⟨vS aG9 G9 kG9⟩) kO=vS aO O kO:=by simp only [vS,cR]
    rw [<- eO];refine zP<|zI<|zM<|yI [] [20] rfl<|yP<|qP [(0,.pointer (some ad)),(1,vI part),(2,vI loop),(7,vS aO (O.set (W ((O.length:Int) - 1)).toNat ⟨vS aG9 G9 kG9⟩) kO),(8,vI t20),(18,vS p2 t.list c2),(19,vI (t.list.length:Int)),(20,vI (W (t20+1)))] ?_;have hN10:=(hu (g1.set (W ((g1.length:Int) - 1)).toNat l1) (vS aG9 G9 kG9)).mono le9;have le11:bJ.le I9:=le9;exact ih _ t20 (W (t20+1)) _ hM9 (H.trans le11) (h.mono le11) (h1.mono le11) (h2.mono le11) (h3.mono le11) (h4.mono le11) (aq.mono le11) hN10 hN9 hO9 hG9 hL9 hg ho hx
   | false =>
    simp only [cU,if_false] at ho1;obtain ⟨hbd,rfl⟩:=gT ho1;refine fO rfl<|rL 2 rfl ?_;intro I5 bv hl6;have kL0:SL I5 (vS aL l kL) l:=SL.of_frozen hl6 bv hL;refine rL 1 rfl ?_;intro I6 le7 hl7;have kG0:SL I6 (vS aG G kG) g:=SL.of_frozen (α:=List Int) hl7 le7 (by rw [zBR hG]; exact (hN2.mono bv).all kL0);have le8:=bv.trans le7;replace qO:RL I6 cO O:=iM le8 qO;have hN4:=(hN3.mono le8).push kG0 hbd;refine zM<|yC 1 [] [70] rfl<|uD [z0] Raw1 ?_;intro b9 hb9;have k1:RL I6 [z0] ([⟨z0⟩]:List Raw1):=⟨[z0],[],rfl,rfl,⟨rfl,rfl⟩,rfl⟩;refine xF 0 rfl ?_;intro I7 le10 hl10;obtain ⟨bO,k0,k01⟩:=(SL.of_frozen hl10 le10 k1:SL I7 (vS (some ⟨b9,0,none⟩) ([⟨z0⟩]:List Raw1) 1) [⟨z0⟩]);replace qO:RL I7 cO O:=iM le10 qO;have hN4:=hN4.mono le10;refine sC (α:=Raw1) 56 1 0 rfl rfl rfl qO (.inl k0) k01 (app1 ho1 hN3.len) fun aO9 kO9 cO8 hO8=>wE (ah:=[hO Raw1 (vS aO9 (O++[⟨z0⟩]) kO9) cO8]) rfl<|yI [] [7] rfl<|zI<|nX (pP (Rp.sz Raw1))<|nX (pP (Rp.sz Int))<|nX (zY [2,1,0] (ah:=[hO Raw1 (vS aO9 (O++[⟨z0⟩]) kO9) cO8,hO Raw1 (vS none ([]:List Raw1) 0) [],hO Int (vS none ([]:List Int) 0) []]))<|qP [(0,.pointer (some ad)),(1,vI part),(2,vI loop),(7,vS aO9 (O++[⟨z0⟩]) kO9),(9,vI t20),(12,.bool inner),(18,vS p2 t.list c2),(19,vI (t.list.length:Int)),(20,vI t20)] ?_;obtain ⟨rfl,hyO,he,hu⟩:=hN4.last hyg;refine zNa inner hO8 RepL.nil RepL.nil hyO (.inl ⟨rfl,rfl,rfl,rfl⟩) hg1 hyl hap ?_;intro I9 cO9 aG9 G9 kG9 cG9 aL9 kL9 cL9 le9 hO9 hG9 hL9 hN9;have eO:vS aO9 ((O++[⟨z0⟩]:List Raw1).set (W (((O++[⟨z0⟩]:List Raw1).length:Int) - 1)).toNat ⟨vS aG9 G9 kG9⟩) kO9=vS aO9 (O++[⟨z0⟩]:List Raw1) kO9:=by simp only [vS,cR]
    rw [<- eO];refine zP<|zI<|zM<|yI [] [20] rfl<|yP<|qP [(0,.pointer (some ad)),(1,vI part),(2,vI loop),(7,vS aO9 ((O++[⟨z0⟩]:List Raw1).set (W (((O++[⟨z0⟩]:List Raw1).length:Int) - 1)).toNat ⟨vS aG9 G9 kG9⟩) kO9),(8,vI t20),(18,vS p2 t.list c2),(19,vI (t.list.length:Int)),(20,vI (W (t20+1)))] ?_;have hN10:=(hu (g1.set (W ((g1.length:Int) - 1)).toNat l1) (vS aG9 G9 kG9)).mono le9;have le11:bJ.le I9:=(le8.trans le10).trans le9;exact ih _ t20 (W (t20+1)) _ hM9 (H.trans le11) (h.mono le11) (h1.mono le11) (h2.mono le11) (h3.mono le11) (h4.mono le11) (aq.mono le11) hN10 hN9 hO9 hG9 hL9 hg ho hx
 intro hc N;have:=zC N;simp only [id] at this;subst this;refine wR<|T_w [(7,vS aO O kO)]<|yU 2 rfl ?_;intro I5 bv hl6;have kL0:SL I5 (vS aL l kL) l:=SL.of_frozen hl6 bv hL;refine yU 1 rfl ?_;intro I6 le7 hl7;have kG0:SL I6 (vS aG G kG) g:=SL.of_frozen (α:=List Int) hl7 le7 (by rw [zBR hG]; exact (hN2.mono bv).all kL0);refine yU 0 rfl ?_;intro I7 le8 hl8;have kO0:SL I7 (vS aO O kO) out:=SL.of_frozen (α:=List (List Int)) hl8 le8 (by rw [zBR qO]; exact (hN3.mono (bv.trans le7)).all kG0);exact hx _ _ _ _ (H.trans ((bv.trans le7).trans le8)) kO0
def rW (t:tG) (part:Int) (loop:Int):Option ((List (List (List Int)))):=do
 let out<-xR t part loop ([]:List (List (List Int))) (-1) 0
 pure (id out)
theorem zAU:∀ t part loop r,rW t part loop=some r->∀ {I:Imm}{ad:Addr}{p c p1 c1 p2 c2 p3 c3 p4 c4},(S4 I p t.Program.Arrays c)->(S4 I p1 t.Program.Parts c1)->(S4 I p2 t.list c2)->(S4 I p3 t.reads c3)->(S4 I p4 t.writes c4)->(At I ad [vS p t.Program.Arrays c,vS p1 t.Program.Parts c1,vS p2 t.list c2,vS p3 t.reads c3,vS p4 t.writes c4])->RT 74 [.pointer (some ad),vI part,vI loop] I [] (dW  r):=by
 intro t part loop r N I ad p c p1 c1 p2 c2 p3 c3 p4 c4 h h1 h2 h3 h4 aq;unfold rW at N;refine yJ func74 fun B=>vR []<|zGR [(7,z0)]<|vK [8] rfl<|yA<|yE<|yC 3 [] [17] rfl<|xJ 2 aq [vS p2 t.list c2] (vS p2 t.list c2) rfl<|yI [] [19,20] rfl<|xX<|qP [(0,.pointer (some ad)),(1,vI part),(2,vI loop),(7,z0),(8,vI (-1)),(18,vS p2 t.list c2),(19,vI (t.list.length:Int)),(20,vI 0)]<|nX (pP (Rp.sz Raw1))<|nX (pP (Rp.sz Raw1))<|nX (pP (Rp.sz Int))<|nX (zY [2,1,0] (ah:=[hO Raw1 (vS none ([]:List Raw1) 0) [],hO Raw1 (vS none ([]:List Raw1) 0) [],hO Int (vS none ([]:List Int) 0) []])) ?_;obtain ⟨o02,ho02,aI⟩:=zB N;refine dK t part loop [] (-1) 0 o02 ho02 (O:=[]) (G:=[]) (g:=[]) (l:=[]) (aO:=none) (kO:=0) iR h h1 h2 h3 h4 aq (.inl ⟨rfl,rfl,rfl,rfl⟩) (.inl ⟨rfl,rfl,rfl,rfl⟩) RepL.nil RepL.nil RepL.nil (fun _ _ _ h=>h) (fun _ _ h=>h) fun bN aO9 O9 kO9 bt hSL=>zS<|vK [6] rfl<|zI<|xB ?_;have:=zC aI;simp only [id] at this;subst this;exact xA ⟨_,_,(.tmp rfl ResV.nil),zQ,⟨_,rfl,rfl,hSL⟩⟩
def zFN {σ:Type} (hsS:σ->List HA) (r:((List Int)×Bool)×σ):KT:=fun kk I' ah v=>
  ∃ v0 v1,hsS r.2=ah/\v=tupV [v0,v1]/\SL I' v0 r.1.1/\v1=.bool r.1.2
def qK (part:Int) (t:tG) (out:List Int) (t38:Int):Option (List Int):=do
 if (decide (t38<(t.list.length:Int))) then
  let x<-idx t.list t38
  let ap<-(do
    if (decide (x.Part<part)) then
     let aP<-app 8 out ([t38]:List Int)
     pure (id aP)
    else
     pure (id out)
      : Option (List Int))
  qK part t ap (W (t38+1))
 else
  pure (id out)
 partial_fixpoint
theorem zER (part:Int) (t:tG):∀ (out:List Int) (t38:Int) (o:List Int),qK part t out t38=some o->∀ {B}{I0 I:Imm}{Q}{loop:Int}{σ:Type}{taken:((List (List Int))->σ->Option ((List Int)×σ))}{fv:Value}{hsS:σ->List HA}{s:σ}{ad:Addr}{p3 c2 p4 c3 p5 c4 p6 c5 p7 c6 p8 c7 cs},I0.le I->(FS1 Tryz.prog I hsS fv taken)->(S4 I p3 t.Program.Arrays c2)->(S4 I p4 t.Program.Parts c3)->(S4 I p5 t.list c4)->(S4 I p6 t.reads c5)->(S4 I p7 t.writes c6)->(At I ad [vS p3 t.Program.Arrays c2,vS p4 t.Program.Parts c3,vS p5 t.list c4,vS p6 t.reads c5,vS p7 t.writes c6])->(RL I cs out)->NG Q->NO Q->(∀ (I':Imm) (aj:List Int) (p9:Option Addr) (c8:Nat) (ay:List Value),o=aj->I0.le I'->(RL I' ay aj)->T 87 B Q (.exit 0) I' (hO Int (vS p9 aj c8) ay::(hsS s)) [(1,vI part),(2,vI loop),(3,fv),(10,.pointer (some ad)),(12,vS p9 aj c8)])->J Tryz.prog 87 B (nav (bodyOf f30) [1,1,1,1,0,1,0]) Q I (hO Int (vS p8 out c7) cs::(hsS s)) [(1,vI part),(2,vI loop),(3,fv),(10,.pointer (some ad)),(12,vS p8 out c7),(36,vS p5 t.list c4),(37,vI (t.list.length:Int)),(38,vI t38)]:=by
 refine qK.partial_correctness part t _ fun aH ih out t38 o N B I0 I Q loop σ taken fv hsS s ad p3 c2 p4 c3 p5 c4 p6 c5 p7 c6 p8 c7 cs H h2 h6 h7 h8 h9 h10 aq h12 hg ho hx=>yR hg ho<|yG [39] rfl<|yA<|yF N ?_ ?_
 · intro aY N;refine zT<|yA<|yH<|yE<|yC 1 [] [40] rfl<|bE N fun x bf N=>xO rfl rfl h8 bf ?_;intro ad1 bx au ax;obtain ⟨aV,c9,rfl,h14⟩:=uL ax;refine xJ 0 au (cInst x aV c9) (vA (cInst x aV c9)) rfl<|wL [vI 0,vI 0,z0] ?_;intro b1 hb1;refine yC 5 [] [13] rfl<|zAo 0 (cInst x aV c9) (hB b1 (cInst x aV c9)::hO Int (vS p8 out c7) cs::(hsS s)) rfl rfl rfl rfl<|yD rfl<|yV<|yI [0] [46] rfl<|zI ?_;obtain ⟨aM,az,hMc1⟩:=zB N;refine qR (fun I' ah m'=>∃ (ap:List Int) (aN:Option Addr) (bc:Nat) (aQ:List Value),aM=ap/\I.le I'/\(RL I' aQ ap)/\ah=(hO Int (vS aN ap bc) aQ::(hsS s))/\m'=[(1,vI part),(2,vI loop),(3,fv),(10,.pointer (some ad)),(12,vS aN ap bc),(36,vS p5 t.list c4),(37,vI (t.list.length:Int)),(38,vI t38)]) ?_ ?_
   · have H:=iS I;refine yF az ?_ ?_
     · intro bG N;refine zM<|yC 2 [] [47,48] rfl<|uD [vI t38] Int ?_;intro b2 hb2;have h16:RL I [vI t38] ([t38]:List Int):=rI [t38];obtain ⟨aP,bw,N⟩:=zB N;exact sC 3 1 2 rfl rfl rfl h12 (.inr ⟨0,rfl⟩) h16 bw fun bB aZ aR h17=>tO (jZ [hO Int (vS (some ⟨b2,0,none⟩) ([t38]:List Int) 1) [vI t38],hB b1 (cInst x aV c9),hO Int (vS bB aP aZ) aR] (hsS s) [1,2] (ah:=[hB b1 (cInst x aV c9),hO Int (vS bB aP aZ) aR]) rfl (by decide))<|wE (ah:=(hB b1 (cInst x aV c9)::hO Int (vS bB aP aZ) aR::(hsS s))) rfl<|yI [] [12] rfl<|xQ (jZ [hB b1 (cInst x aV c9),hO Int (vS bB aP aZ) aR] (hsS s) [1] rfl (by decide))<|yL<|zU ⟨_,_,_,_,(zC N).symm,H,h17,rfl,rfl⟩
     intro bG N;exact zT<|xQ (jZ [hB b1 (cInst x aV c9),hO Int (vS p8 out c7) cs] (hsS s) [1] rfl (by decide))<|yL<|zU ⟨_,_,_,_,(zC N).symm,H,h12,rfl,rfl⟩
   rintro bC aw m2 ⟨ap,aN,bc,aQ,heq1,aD,h15,rfl,rfl⟩;subst aM;have ⟨h2,h6,h7,h8,h9,h10⟩:=m6 aD h2 h6 h7 h8 h9 h10;have ⟨aq,H⟩:=m2 aD aq H;exact zP<|zI<|zM<|yI [] [38] rfl<|yP<|nN<|ih ap (W (t38+1)) _ hMc1 H h2 h6 h7 h8 h9 h10 aq h15 hg ho hx
 intro aY N;exact wR<|yL<|hx _ _ _ _ _ (zC N).symm H h12
def oK {σ:Type} (taken:((List (List Int))->σ->Option ((List Int)×σ))) (y4:(List (List (List Int)))) (bu:List Int) (s:σ) (t57:Int):Option (List Int×σ):=do
 if (decide (t57<(y4.length:Int))) then
  let x1<-idx y4 t57
  let (y5,s1)<-taken x1 s
  let out6<-app 8 bu y5
  oK taken y4 out6 s1 (W (t57+1))
 else
  pure (bu,s)
 partial_fixpoint
theorem zES {σ:Type} (taken:((List (List Int))->σ->Option ((List Int)×σ))) (y4:(List (List (List Int)))):∀ (bu:List Int) (s:σ) (t57:Int) (o:List Int×σ),oK taken y4 bu s t57=some o->∀ {B}{I0 I:Imm}{Q}{part:Int}{t:tG}{fv:Value}{hsS:σ->List HA}{ad:Addr}{p3 c2 p4 c3 p5 c4 p6 c5 p7 c6 bj bk p14 bo bz},I0.le I->(FS1 Tryz.prog I hsS fv taken)->(S4 I p3 t.Program.Arrays c2)->(S4 I p4 t.Program.Parts c3)->(S4 I p5 t.list c4)->(S4 I p6 t.reads c5)->(S4 I p7 t.writes c6)->(At I ad [vS p3 t.Program.Arrays c2,vS p4 t.Program.Parts c3,vS p5 t.list c4,vS p6 t.reads c5,vS p7 t.writes c6])->(S4 I bj y4 bk)->(RL I bz bu)->NG Q->NO Q->(∀ (I':Imm) (out5:List Int) (s5:σ) (p15:Option Addr) (c14:Nat) (bD:List Value),o=(out5,s5)->I0.le I'->(RL I' bD out5)->T 87 B Q (.exit 2) I' (hO Int (vS p15 out5 c14) bD::hsS s5) [(1,vI part),(10,.pointer (some ad)),(12,vS p15 out5 c14)])->J Tryz.prog 87 B (nav (bodyOf f30) [1,1,1,1,1,0,1,0]) Q I (hO Int (vS p14 bu bo) bz::(hsS s)) [(1,vI part),(3,fv),(10,.pointer (some ad)),(12,vS p14 bu bo),(55,vS bj y4 bk),(56,vI (y4.length:Int)),(57,vI t57)]:=by
 refine oK.partial_correctness taken y4 _ fun aH ih bu s t57 o N B I0 I Q part t fv hsS ad p3 c2 p4 c3 p5 c4 p6 c5 p7 c6 bj bk p14 bo bz H h2 h6 h7 h8 h9 h10 aq h18 h19 hg ho hx=>yR hg ho<|yG [58] rfl<|yA<|yF N ?_ ?_
 · intro bM N;refine zT<|yA<|yH<|yE<|bE N fun x1 hy6 N=>xO rfl rfl h18 hy6 ?_;intro ad2 bO br bq;obtain ⟨v010,rfl,h21⟩:=bq;obtain ⟨p16,c15,rfl⟩:=h21.form;refine xJ 0 br [vS p16 x1 c15] (vS p16 x1 c15) rfl<|yI [] [16] rfl<|zI<|zM<|yC 3 [] [61,62,63] rfl ?_;obtain ⟨⟨y5,s1⟩,hy7,N⟩:=zB N;refine tO (ah:=(hsS s)++[hO Int (vS p14 bu bo) bz]) (zHl [hO Int (vS p14 bu bo) bz] (hsS s))<|zN8 rfl rfl h2 hy7 h21 rfl ?_;rintro I06 v011 bv h22;refine tO (ah:=(hO Int (vS p14 bu bo) bz::(hsS s1))) (zHl (hsS s1) [hO Int (vS p14 bu bo) bz]) ?_;have ⟨h2,h6,h7,h8,h9,h10⟩:=m6 bv h2 h6 h7 h8 h9 h10;have ⟨aq,h18,h19,H⟩:=m4 bv aq h18 h19 H;obtain ⟨p17,c16,rfl⟩:=h22.form;obtain ⟨ccs3,k0,k01⟩:=h22;have h22:SL I06 (vS p17 y5 c16) y5:=⟨_,k0,k01⟩;obtain ⟨out6,hy8,N⟩:=zB N;exact sC 3 1 0 rfl rfl rfl h19 (.inl k0) k01 hy8 fun p18 c17 cs6 h23=>wE (ah:=(hO Int (vS p18 out6 c17) cs6::(hsS s1))) rfl<|yI [] [12] rfl<|zP<|zI<|zM<|yI [] [57] rfl<|yP<|nN<|ih out6 s1 (W (t57+1)) _ N H h2 h6 h7 h8 h9 h10 aq h18 h23 hg ho hx
 intro bM N;exact wR<|yL<|hx _ _ _ _ _ _ (zC N).symm H h19
def qL (part:Int) (t:tG) (out7:List Int) (t72:Int):Option (List Int):=do
 if (decide (t72<(t.list.length:Int))) then
  let x2<-idx t.list t72
  let out9<-(do
    if (decide (x2.Part>part)) then
     let out10<-app 8 out7 ([t72]:List Int)
     pure (id out10)
    else
     pure (id out7)
      : Option (List Int))
  qL part t out9 (W (t72+1))
 else
  pure (id out7)
 partial_fixpoint
theorem zET (part:Int) (t:tG):∀ (out7:List Int) (t72:Int) (o:List Int),qL part t out7 t72=some o->∀ {B}{I0 I:Imm}{Q}  {bd:List HA}{p5 c4 p19 c18 cs7},I0.le I->(S4 I p5 t.list c4)->(RL I cs7 out7)->NG Q->NO Q->(∀ (I':Imm) (out8:List Int) (p20:Option Addr) (c19:Nat) (cs8:List Value),o=out8->I0.le I'->(RL I' cs8 out8)->T 87 B Q (.exit 4) I' (hO Int (vS p20 out8 c19) cs8::bd) [(12,vS p20 out8 c19)])->J Tryz.prog 87 B (nav (bodyOf f30) [1,1,1,1,1,1,0,1,0]) Q I (hO Int (vS p19 out7 c18) cs7::bd) [(1,vI part),(12,vS p19 out7 c18),(70,vS p5 t.list c4),(71,vI (t.list.length:Int)),(72,vI t72)]:=by
 refine qL.partial_correctness part t _ fun aH ih out7 t72 o N B I0 I Q bd p5 c4 p19 c18 cs7 H h8 h24 hg ho hx=>yR hg ho<|yG [73] rfl<|yA<|yF N ?_ ?_
 · intro hc5 N;refine zT<|yA<|yH<|yE<|yC 1 [] [74] rfl<|bE N fun x2 hy9 N=>xO rfl rfl h8 hy9 ?_;intro ad3 ccs4 hat3 bI;obtain ⟨p21,c20,rfl,h26⟩:=uL bI;refine xJ 0 hat3 (cInst x2 p21 c20) (vA (cInst x2 p21 c20)) rfl<|wL [vI 0,vI 0,z0] ?_;intro b3 hb3;refine yC 5 [] [17] rfl<|zAo 0 (cInst x2 p21 c20) (hB b3 (cInst x2 p21 c20)::hO Int (vS p19 out7 c18) cs7::bd) rfl rfl rfl rfl<|yD rfl<|yV<|yI [0] [80] rfl<|zI ?_;obtain ⟨o04,ho04,hMc2⟩:=zB N;refine qR (fun I' ah m'=>∃ (out9:List Int) (p22:Option Addr) (c21:Nat) (cs9:List Value),o04=out9/\I.le I'/\(RL I' cs9 out9)/\ah=(hO Int (vS p22 out9 c21) cs9::bd)/\m'=[(1,vI part),(12,vS p22 out9 c21),(70,vS p5 t.list c4),(71,vI (t.list.length:Int)),(72,vI t72)]) ?_ ?_
   · have H:=iS I;refine yF ho04 ?_ ?_
     · intro hc6 N;refine zM<|yC 2 [] [81,82] rfl<|uD [vI t72] Int ?_;intro b4 hb4;have h28:RL I [vI t72] ([t72]:List Int):=rI [t72];obtain ⟨out10,hy10,N⟩:=zB N;exact sC 3 1 2 rfl rfl rfl h24 (.inr ⟨0,rfl⟩) h28 hy10 fun p23 c22 cs10 h29=>tO (jZ [hO Int (vS (some ⟨b4,0,none⟩) ([t72]:List Int) 1) [vI t72],hB b3 (cInst x2 p21 c20),hO Int (vS p23 out10 c22) cs10] bd [1,2] (ah:=[hB b3 (cInst x2 p21 c20),hO Int (vS p23 out10 c22) cs10]) rfl (by decide))<|wE (ah:=(hB b3 (cInst x2 p21 c20)::hO Int (vS p23 out10 c22) cs10::bd)) rfl<|yI [] [12] rfl<|xQ (jZ [hB b3 (cInst x2 p21 c20),hO Int (vS p23 out10 c22) cs10] bd [1] rfl (by decide))<|yL<|zU ⟨_,_,_,_,(zC N).symm,H,h29,rfl,rfl⟩
     intro hc6 N;exact zT<|xQ (jZ [hB b3 (cInst x2 p21 c20),hO Int (vS p19 out7 c18) cs7] bd [1] rfl (by decide))<|yL<|zU ⟨_,_,_,_,(zC N).symm,H,h24,rfl,rfl⟩
   rintro I08 aw m2 ⟨out9,p22,c21,cs9,heq4,le8,h27,rfl,rfl⟩;subst o04;have ⟨h8,H⟩:=m2 le8 h8 H;exact zP<|zI<|zM<|yI [] [72] rfl<|yP<|nN<|ih out9 (W (t72+1)) _ hMc2 H h8 h27 hg ho hx
 intro hc5 N;exact wR<|yL<|hx _ _ _ _ _ (zC N).symm H h24
def jS {σ:Type} (p:zD) (part:Int) (loop:Int) (taken:((List (List Int))->σ->Option ((List Int)×σ))) (s:σ):Option (((List Int)×Bool)×σ):=do
 let (y1,y2)<-eA p
 let t32<-(do
   if (!y2) then
    pure true
   else
    let y3<-pS p part loop
    pure (!y3)
     : Option Bool)
 if t32 then
  pure ((([]:List Int),false),s)
 else
  let t<-y1
  let aj<-qK part t ([]:List Int) 0
  let y4<-rW t part loop
  let (out5,s1)<-oK taken y4 aj s 0
  let out8<-qL part t out5 0
  pure ((out8,true),s1)
theorem zGb:∀ {σ:Type} (p:zD) (part:Int) (loop:Int) (taken:((List (List Int))->σ->Option ((List Int)×σ))) (s:σ) r,jS p part loop taken s=some r->∀ {I:Imm}{p1 c p2 c1}{fv:Value}{hsS:σ->List HA},(S4 I p1 p.Arrays c)->(S4 I p2 p.Parts c1)->(FS1 Tryz.prog I hsS fv taken)->RT 30 [vA (cProg p p1 c p2 c1),vI part,vI loop,fv] I (hsS s) (zFN hsS r):=by
 intro σ p part loop taken s r N I p1 c p2 c1 fv hsS h h1 h2;unfold jS at N;refine yJ func30 fun B=>?_;have H:=iS I;refine yE<|tW (cProg p p1 c p2 c1) ?_;intro b hb;refine wB [] []<|yV<|rY 1 [0] [(20,vA (cProg p p1 c p2 c1))] ?_;obtain ⟨⟨y1,y2⟩,hy,N⟩:=zB N;refine xM (zHN p _ hy h h1) ?_;rintro I0 aw v2 k2 le - ⟨v0,v01,rfl,rfl,h3,rfl⟩ -;have ⟨h2,h,h1,H⟩:=m4 le h2 h h1 H;refine yI [] [10,11] rfl<|yA<|yB ?_;refine wS N ((hsS s)) (fun t32=>[(1,vI part),(2,vI loop),(3,fv),(10,v0),(32,.bool t32)]) (fun o0 aB=>?_) ?_
 · have H:=iS I0;refine zM<|yC 3 [] [26] rfl<|xS [26] aB ?_ ?_
   · intro hc N;exact wB [] [(32,vY)]<|xQ (jZ [hB b (cProg p p1 c p2 c1)] (hsS s) [] rfl (by decide))<|yL<|zU (ct N H)
   intro hc N;refine rY 6 [0] [(27,vA (cProg p p1 c p2 c1)),(28,vI part),(29,vI loop)]<|bE N fun y3 aA N=>uM (zB1 p part loop _ aA h h1) ?_;intro aU af;have H:=H.trans af;exact yI [] [32] rfl<|xQ (jZ [hB b (cProg p p1 c p2 c1)] (hsS s) [] rfl (by decide))<|yL<|zU (ct N H)
 intro t32 aT aC aS;have ⟨h2,h3⟩:=m2 aC h2 h3;refine zI<|yF aS ?_ ?_
 · intro aE N;refine yG [8,9] rfl<|xC<|zH ?_;obtain rfl:=zC N;exact xA ⟨_,_,(.tmp rfl (.tmp rfl ResV.nil)),(fun _ h=>h),⟨_,_,rfl,rfl,(SL.nil _),rfl⟩⟩
 intro aE N;refine zT<|zGR [(12,z0)]<|yA<|yE<|rY 1 [] [(33,v0)] ?_;obtain ⟨t,aJ,N⟩:=zB N;obtain ⟨ad,aK,rfl,aq,al⟩:=zMQ h3 aJ;obtain ⟨p3,c2,p4,c3,p5,c4,p6,c5,p7,c6,rfl,h6,h7,h8,h9,h10⟩:=zGQ al;refine yC 3 [] [35] rfl<|xJ 2 aq [vS p5 t.list c4] (vS p5 t.list c4) rfl<|yI [] [37,38] rfl<|xX<|qP [(1,vI part),(2,vI loop),(3,fv),(10,.pointer (some ad)),(12,z0),(36,vS p5 t.list c4),(37,vI (t.list.length:Int)),(38,vI 0)]<|dR Int fun h11=>?_;obtain ⟨o02,ho02,aI⟩:=zB N;refine zER part t ([]:List Int) 0 o02 ho02 iR h2 h6 h7 h8 h9 h10 aq h11 (fun _ _ _ h=>h) (fun _ _ h=>h) ?_;intro bJ aj p9 c8 ay heq2 aW h13;subst o02;have ⟨h2,h6,h7,h8,h9,h10⟩:=m6 aW h2 h6 h7 h8 h9 h10;have aq:=aq.mono aW;refine zS<|yA<|yE<|yC 3 [] [52,53,54] rfl ?_;obtain ⟨y4,bH,N⟩:=zB aI;refine xM (zAU t part loop _ bH h6 h7 h8 h9 h10 aq) ?_;rintro bN aw v2 k2 bt - ⟨v09,rfl,rfl,h18⟩ -;have ⟨h2,h6,h7,h8,h9,h10⟩:=m6 bt h2 h6 h7 h8 h9 h10;have ⟨aq,h13⟩:=m2 bt aq h13;obtain ⟨bj,bk,rfl⟩:=h18.form;refine yI [] [56,57] rfl<|xX<|qP [(1,vI part),(3,fv),(10,.pointer (some ad)),(12,vS p9 aj c8),(55,vS bj y4 bk),(56,vI (y4.length:Int)),(57,vI 0)] ?_;obtain ⟨⟨o03,s1⟩,ho03,hMl1⟩:=zB N;refine zES taken y4 aj s 0 (o03,s1) ho03 iR h2 h6 h7 h8 h9 h10 aq h18 h13 (fun _ _ _ h=>h) (fun _ _ h=>h) ?_;intro I07 out5 s5 p15 c14 bD heq3 le7 h20;obtain ⟨rfl,rfl⟩:=Prod.mk.inj heq3;have ⟨h8,aq⟩:=m2 le7 h8 aq;refine zS<|yA<|yE<|yC 3 [] [69] rfl<|xJ 2 aq [vS p5 t.list c4] (vS p5 t.list c4) rfl<|yI [] [71,72] rfl<|xX<|qP [(1,vI part),(12,vS p15 o03 c14),(70,vS p5 t.list c4),(71,vI (t.list.length:Int)),(72,vI 0)] ?_;obtain ⟨o05,ho05,hMl2⟩:=zB hMl1;refine zET part t o03 0 o05 ho05 iR h8 h20 (fun _ _ _ h=>h) (fun _ _ h=>h) ?_;intro I09 out8 p20 c19 cs8 heq5 le9 h25;subst o05;refine zS<|vK [8,9] rfl<|xC<|yU 0 rfl ?_;intro bP le10 hl0;have h30:=SL.of_frozen hl0 le10 h25;obtain rfl:=zC hMl2;exact xA ⟨_,_,(.tmp rfl (.tmp rfl ResV.nil)),(fun _ h=>h),⟨_,_,rfl,rfl,h30,rfl⟩⟩
def eC (r:List (List Int)):KT:=fun kk I' ah v=>
  ∃ a0 c0 s0,ah=[.osl (.slice a0 r.length c0) (Rp.sz (List Int)) s0]/\v=tupV [(.slice a0 r.length c0)]/\RepL (Rp.rep I') (Rp.sz (List Int)) s0 r
def kH (s:List (List Int)):Option (List (List Int)):=app 24 ([]:List (List Int)) s
theorem zCO:∀ s r,kH s=some r->∀ {I:Imm}{p c},SL I (vS p s c) s->RT 32 [vS p s c] I [] (eC r):=by
 intro s r N I p c h;unfold kH at N;obtain ⟨aK,k0,k01⟩:=h;refine yJ func32 fun B=>?_;cases p with
 | none =>
  have hs:s=[]:=by
    rcases k0 with ⟨hv,rfl⟩ | ⟨b0,off,len,cap,cc,hv,k2⟩
    · cases s with
      | nil=>rfl
      | cons _ _=>simp at hv
    simp at hv
  subst hs;obtain ⟨_,rfl⟩:=gT N;refine yG [0,2] rfl<|yA<|yE<|yC 1 [] [3] rfl<|zMR true rfl rfl ?_ rfl;exact wB [] [(4,vY)]<|zI<|fO rfl<|vR [(2,z0)]<|xC<|zH<|xQ (pP (Rp.sz (List Int)))<|xA ⟨_,_,(.tmp rfl ResV.nil),(zX [0] rfl (by decide)),⟨none,0,[],rfl,rfl,rfl⟩⟩
 | some ad =>
  refine yG [0,2] rfl<|yA<|yE<|yC 1 [] [3] rfl<|zMR false rfl rfl ?_ rfl;refine yI [] [0,4] rfl<|zI<|jD rfl<|zT<|yV<|uD [] (List Int) ?_;intro b2 hb2;have h1:RL I [] ([]:List (List Int)):=rfl;exact yC 2 [] [6] rfl<|sC 27 1 0 rfl rfl rfl h1 (.inl k0) k01 N fun p1 c1 cs h2=>yI [] [2] rfl<|xC<|xA ⟨_,_,(.tmp rfl ResV.nil),(zX [0] rfl (by decide)),⟨_,_,_,rfl,rfl,h2⟩⟩
def fG (choices:(List Int)) (n0:Int) (many:Int):Option (Int):=do
 if ((choices.length:Int)==0) then
  pure (id 0)
 else
  let q<-rem n0 (choices.length:Int)
  let x<-idx choices q
  let q1<-rem x many
  pure (if q1>0 then q1 else 0)
theorem zGc:∀ choices n0 many r,fG choices n0 many=some r->∀ {I:Imm}{p c},(S4 I p choices c)->RT 33 [vS p choices c,vI n0,vI many] I [] (xD  r):=by
 intro choices n0 many r N I p c h;unfold fG at N;refine yJ func33 fun B=>vR []<|yA<|yG [9] rfl<|zI<|yF N ?_ ?_
 · intro hc N;refine yG [6] rfl<|xC<|zH ?_;obtain rfl:=zC N;exact vE
 intro hc N;refine zT<|yV<|yC 4 [] [10,11,13] rfl<|bE N fun q hy N=>zKf rfl hy<|bE N fun x aA N=>xO rfl rfl h aA ?_;intro ad aK aq al;obtain rfl:=al;refine xJ 0 aq [vI x] (vI x) rfl<|yC 8 [] [17] rfl<|bE N fun q1 aJ N=>zKf rfl aJ<|yI [] [6] rfl<|zI<|xB ?_;obtain rfl:=zC N;exact vE
def mQ (s:List (List Int)) (i:Int) (j:Int):Option (List (List Int)):=delG s i j
theorem zBn:∀ (s:List (List Int)) (i j:Int) r,mQ s i j=some r->∀ {I:Imm}{p c cs},RL I cs s->RT 34 [vS p s c,vI i,vI j] I [hO (List Int) (vS p s c) cs] (eC r):=by
 intro s i j r N I p c cs h;obtain ⟨i0,hi0,hz1⟩:∃ i0,Tryz.prog.info? 27=some i0/\i0.size=1:=by
  have h9:(Tryz.prog.info? 27).map (fun x=>x.size)=some 1:=by kernel_rfl
  cases hq:Tryz.prog.info? 27 with
  | none=>rw [hq] at h9; cases h9
  | some i0=>rw [hq] at h9; exact ⟨i0,rfl,Option.some.inj h9⟩
 refine zIk (fun blk off cap i j zs w h1 h2 h3 h4 h5=>?_) N h (fun k a' c' cs' h1 h2=>⟨a',c',cs',rfl,rfl,h1⟩);have h9:=Go.Proofs.AnyE.slices_Delete Tryz.laysDel encR oneV zR Tryz.zeroValue27 i0 hi0 hz1 blk off cap i j zs.toArray w h1 (by simpa using h2) h3 h4 (by simpa using h5);have h10:=(show Calls Tryz.prog 34 _ w _ from h9);simpa using h10
def zAV (b0:Nat) (r:(List Int)×Int):KT:=fun kk I' ah v=>
  ∃ v0 k0,ah=[.blk b0 ⟨k0⟩]/\v=tupV [v0]/\SL I' v0 r.1/\Rp.rep I' k0 r.2
def vO (x:(List Int)) (out:List Int) (left:List (List Int)) (x2:Int):Option ((List Int×Int)):=do
 if (decide ((left.length:Int)>0)) then
  let y1<-fG x x2 (left.length:Int)
  let x4<-idx left y1
  let ap<-app 8 out x4
  let y2<-mQ left y1 (W (y1+1))
  vO x ap y2 (W (x2+1))
 else
  pure (out,x2)
 partial_fixpoint
theorem zAL (x:(List Int)):∀ (out:List Int) (left:List (List Int)) (x2:Int) (o:(List Int×Int)),vO x out left x2=some o->∀ {B}{I0 I:Imm}{Q}  {ad:Addr}{p1 c1}{r0:Nat}{p3 c3 ay p4 c4 aQ},I0.le I->(S4 I p1 x c1)->(At I ad [vS p1 x c1])->(RL I ay out)->(RL I aQ left)->NG Q->NO Q->(∀ (I':Imm) (aj:List Int) (x3:Int) (p5:Option Addr) (c5:Nat) (aR:List Value),o=(aj,x3)->I0.le I'->(RL I' aR aj)->T 32 B Q (.exit 0) I' [hO Int (vS p5 aj c5) aR,hB r0 [vI x3]] [(5,vS p5 aj c5)])->J Tryz.prog 32 B (nav (bodyOf f31) [1,1,1,0,0]) Q I [hO Int (vS p3 out c3) ay,hO (List Int) (vS p4 left c4) aQ,hB r0 [vI x2]] [(1,.pointer (some ad)),(2,vP r0 0),(5,vS p3 out c3),(6,vS p4 left c4)]:=by
 refine vO.partial_correctness x _ fun aH ih out left x2 o N B I0 I Q ad p1 c1 r0 p3 c3 ay p4 c4 aQ H h1 aq h4 h5 hg ho hx=>yR hg ho<|yB<|yG [12] rfl<|zI<|yF N ?_ ?_
 · intro hc N;refine zT<|xX<|yE<|xJ 0 aq [vS p1 x c1] (vS p1 x c1) rfl<|yC 4 [2] [14,16] rfl<|bE N fun y1 aA N=>gR (zGc x x2 (left.length:Int) _ aA h1) ?_;intro aT af;have ⟨h1,aq,h4,h5,H⟩:=m5 af h1 aq h4 h5 H;refine yI [] [7] rfl<|yV<|yC 2 [2] [19] rfl<|xH 2 [vI (W (x2+1))] rfl<|yD rfl<|yV<|yC 3 [] [20,21,22] rfl<|bE N fun x4 aJ N=>nY 1 rfl rfl rfl h5 aJ ?_;intro ad1 aK au bL al;obtain ⟨v01,rfl,h8⟩:=al;obtain ⟨p6,c6,rfl⟩:=h8.form;refine zAn 1 0 au bL [vS p6 x4 c6] (vS p6 x4 c6) rfl rfl ?_;obtain ⟨bx,k0,k01⟩:=h8;have h8:SL aT (vS p6 x4 c6) x4:=⟨_,k0,k01⟩;obtain ⟨ap,bf,N⟩:=zB N;refine sC 3 1 0 rfl rfl rfl h4 (.inl k0) k01 bf fun p7 c7 bz h9=>tO (zY [0,1,2] (ah:=[hO Int (vS p7 ap c7) bz,hO (List Int) (vS p4 left c4) aQ,hB r0 [vI (W (x2+1))]]))<|yI [] [5] rfl<|zI<|zM<|yC 4 [] [26,27,29] rfl<|tO (zY [1,0,2] (ah:=[hO (List Int) (vS p4 left c4) aQ,hO Int (vS p7 ap c7) bz,hB r0 [vI (W (x2+1))]]))<|bE N fun y2 bw N=>tM (zBn left y1 (W (y1+1)) _ bw h5) rfl ?_;rintro aU aw v2 k2 aC - ⟨p8,c8,bD,rfl,rfl,h10⟩ -;have ⟨h1,aq,h9,H⟩:=m4 aC h1 aq h9 H;exact yI [] [6] rfl<|zP<|yP<|nX (zX [1,0,2] rfl (by decide))<|nN<|ih ap y2 (W (x2+1)) _ N H h1 aq h9 h10 hg ho hx
 intro hc N;exact wR<|xQ (zX [0,2] rfl (by decide))<|yL<|hx _ _ _ _ _ _ (zC N).symm H h4
def wZ (group:(List (List Int))) (x:(List Int)) (x1:Int):Option ((List Int)×Int):=do
 let y<-kH group
 let (aj,x3)<-vO x ([]:List Int) y x1
 pure (aj,x3)
theorem zBK:∀ group x x1 r,wZ group x x1=some r->∀ {I:Imm}{p c}{ad:Addr}{p1 c1}{r0:Nat},(S4 I p group c)->(S4 I p1 x c1)->(At I ad [vS p1 x c1])->RT 31 [vS p group c,.pointer (some ad),vP r0 0] I [hB r0 [vI x1]] (zAV r0 r):=by
 intro group x x1 r N I p c ad p1 c1 r0 h h1 aq;unfold wZ at N;refine yJ func31 fun B=>vR []<|zGR [(5,z0)]<|yV<|yC 1 [] [8] rfl<|bE N fun y hy N=>xM (zCO group _ hy h) ?_;rintro I0 aw v2 k2 le - ⟨p2,c2,cs,rfl,rfl,h2⟩ -;have ⟨h1,aq⟩:=m2 le h1 aq;refine yI [] [6] rfl<|yA<|yH<|qP [(1,.pointer (some ad)),(2,vP r0 0),(5,z0),(6,vS p2 y c2)]<|dR Int fun h3=>?_;obtain ⟨o0,aB,aI⟩:=zB N;refine zAL x ([]:List Int) y x1 o0 aB iR h1 aq h3 h2 (fun _ _ _ h=>h) (fun _ _ h=>h) ?_;intro bC aj x3 p5 c5 aR heq aD h6;subst o0;refine zS<|vK [4] rfl<|xC<|yU 0 rfl ?_;intro bJ aW hl0;have h11:=SL.of_frozen hl0 aW h6;obtain rfl:=zC aI;exact xA ⟨_,_,(.tmp rfl ResV.nil),(zX [0] rfl (by decide)),⟨_,_,rfl,rfl,h11,rfl⟩⟩
def fR (r:(List Int)×Bool):KT:=fun kk I' ah v=>
  ∃ v0 v1,ah=[]/\v=tupV [v0,v1]/\SL I' v0 r.1/\v1=.bool r.2
def qM (p:zD) (part:Int) (loop:Int) (choices:(List Int)):Option ((List Int)×Bool):=do
 let ((y1,y2),_)<-jS p part loop (fun x0 n=>wZ x0 choices n) (0:Int)
 pure (y1,y2)
theorem eG:∀ p part loop choices r,qM p part loop choices=some r->∀ {I:Imm}{p1 c p2 c1 p3 c2},(S4 I p1 p.Arrays c)->(S4 I p2 p.Parts c1)->(S4 I p3 choices c2)->RT 10 [vA (cProg p p1 c p2 c1),vI part,vI loop,vS p3 choices c2] I [] (fR  r):=by
 intro p part loop choices r N I p1 c p2 c1 p3 c2 h h1 h2;unfold qM at N;refine yJ func10 fun B=>yE<|tW (cProg p p1 c p2 c1) ?_;intro b hb;refine tW [vS p3 choices c2] ?_;intro b1 hb1;refine xF 0 rfl ?_;intro I0 le hl0;have aq:At I0 ⟨b1,0,none⟩ [vS p3 choices c2]:=At.of_blk hl0;have ⟨h,h1,h2⟩:=m3 le h h1 h2;refine wB [] []<|yV<|wL [vI 0] ?_;intro b2 hb2;refine xH 0 [vI 0] rfl<|yD rfl<|yV<|rY 4 [1] [(11,vA (cProg p p1 c p2 c1)),(12,vI part),(13,vI loop),(14,.func (.func 31) ⟨[]⟩ ⟨[vP b1 0,vP b2 0]⟩)] ?_;have hf0:FS1 Tryz.prog I0 (fun n=>[hB b2 [vI n]]) (.func (.func 31) ⟨[]⟩ ⟨[vP b1 0,vP b2 0]⟩) (fun x0 n=>wZ x0 choices n):=by
   refine FS1.intro ?_;intro I1 af x0 n r u0 hF k0;obtain ⟨_,_,rfl⟩:=k0.form;exact (zBK x0 choices n r hF k0 (h2.mono af) (aq.mono af)).mono (by rintro k i hs u ⟨v0,kk,rfl,rfl,h,h9⟩; obtain rfl:kk=[vI r.2]:=h9; exact ⟨rfl,h⟩)
 obtain ⟨⟨⟨y1,y2⟩,n9⟩,hy,N⟩:=zB N;refine tM (zGb p part loop (fun x0 n=>wZ x0 choices n) (0:Int) _ hy h h1 hf0) rfl ?_;rintro aU aw v2 k2 aC - ⟨v0,v01,rfl,rfl,h3,rfl⟩ -;obtain ⟨p4,c3,rfl⟩:=h3.form;refine yI [] [8,9] rfl<|zI<|xB ?_;obtain rfl:=zC N;exact xA ⟨_,_,(.tmp rfl (.tmp rfl ResV.nil)),zQ,⟨_,_,rfl,rfl,h3,rfl⟩⟩
def eE (p:zD) (part:Int) (loop:Int):Option (Bool):=do
 let t6<-(do
   let y<-uI p
   if y then
    if (decide (part>=0)) then
     if (decide (part<(p.Parts.length:Int))) then
      if (decide (loop>=0)) then
       let x<-idx p.Parts part
       pure (decide (loop<(x.Nest.length:Int)))
      else
       pure false
     else
      pure false
    else
     pure false
   else
    pure false
     : Option Bool)
 pure (id t6)
theorem zHO:∀ p part loop r,eE p part loop=some r->∀ {I:Imm}{p1 c p2 c1},(S4 I p1 p.Arrays c)->(S4 I p2 p.Parts c1)->RT 35 [vA (cProg p p1 c p2 c1),vI part,vI loop] I [] (zV  r):=by
 intro p part loop r N I p1 c p2 c1 h h1;unfold eE at N;refine yJ func35 fun B=>?_;have H:=iS I;refine yE<|tW (cProg p p1 c p2 c1) ?_;intro b hb;refine wB [] []<|zI<|yB ?_;refine wS N [] (fun t6=>[(6,.bool t6)]) (fun o0 aB=>?_) ?_
 · have H:=iS I;refine zM<|rY 1 [0] [(7,vA (cProg p p1 c p2 c1))] ?_;obtain ⟨y,hy,N⟩:=zB aB;refine uM (gI p _ hy h h1) ?_;intro aT le;have ⟨h1,H⟩:=m2 le h1 H;refine yC 3 [] [9] rfl<|xS [9] N ?_ ?_
   · intro hc N;refine yC 7 [] [13] rfl<|xS [13] N ?_ ?_
     · intro aE N;refine yC 14 [0] [20] rfl<|xS [20] N ?_ ?_
       · intro aY N;refine yC 18 [] [24] rfl<|xS [24] N ?_ ?_
         · intro bG N;refine yC 22 [0] [25,27,28] rfl<|bE N fun x aA N=>xO rfl rfl h1 aA ?_;intro ad aK aq al;obtain ⟨p3,c2,p4,c3,rfl,h3,h4⟩:=wQ al;exact yC 24 [] [30] rfl<|xJ 0 aq [vS p3 x.Nest c2] (vS p3 x.Nest c2) rfl<|yI [] [6] rfl<|xQ zQ<|yL<|zU (ct N H)
         intro bG N;exact wB [] [(6,vF)]<|xQ zQ<|yL<|zU (ct N H)
       intro aY N;exact wB [] [(6,vF)]<|xQ zQ<|yL<|zU (ct N H)
     intro aE N;exact wB [] [(6,vF)]<|xQ zQ<|yL<|zU (ct N H)
   intro hc N;exact wB [] [(6,vF)]<|xQ zQ<|yL<|zU (ct N H)
 intro t6 I0 af aS;refine zI<|xB ?_;obtain rfl:=zC aS;exact vE
end Go.LN
