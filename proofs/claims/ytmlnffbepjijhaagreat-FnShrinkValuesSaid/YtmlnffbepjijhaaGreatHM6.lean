/- Helper of the proof (see the last text). -/
import Derived.Test.YtmlnffbepjijhaaGreatHM5
set_option linter.unusedVariables false
set_option linter.unusedSimpArgs false
namespace Go.LN
open Go.Proofs Go.Proofs.Tryz
set_option maxRecDepth 20000
def gL (a0:zA):Option (Bool):=do
 let t2<-(do
   if ((a0.Coefs.length:Int)==0) then pure (a0.Const==0)
   else
    pure false
     : Option Bool)
 pure (id t2)
theorem zCm:∀ a0 r,gL a0=some r->∀ {I:Imm}{p c},(S4 I p a0.Coefs c)->RT 143 [vA (cAff a0 p c)] I [] (zT  r):=by
 intro a0 r N I p c h;unfold gL at N;refine yI func143 fun B=>?_;have H:=iS I;refine yB<|vJ (cAff a0 p c) ?_;intro b hb;refine wR [] []<|zK<|yA ?_;refine wZ N [] (fun t2=>[(2,.bool t2)]) (fun o0 az=>?_) ?_
 · have H:=iS I;refine zM<|yE 5 [0] [7] rfl<|wL [7] az ?_ ?_
   · intro hc N;exact yK [0] [2] rfl<|wF zP<|yU<|zU (ct N H)
   intro hc N;exact wR [] [(2,vF)]<|wF zP<|yU<|zU (ct N H)
 intro t2 I0 le aT;refine zK<|xA ?_;obtain rfl:=zD aT;exact vV
def mE (a0:zG):Option (Bool):=do
 let t2<-(do
   if (a0.Array.l==([]:List UInt8)) then pure ((a0.Subs.length:Int)==0)
   else
    pure false
     : Option Bool)
 pure (id t2)
theorem zAN:∀ a0 r,mE a0=some r->∀ {I:Imm}{p c},(S4 I p a0.Subs c)->RT 144 [vA (cAccess a0 p c)] I [] (zT  r):=by
 intro a0 r N I p c h;unfold mE at N;refine yI func144 fun B=>?_;have H:=iS I;refine yB<|vJ (cAccess a0 p c) ?_;intro b hb;refine wR [] []<|zK<|yA ?_;refine wZ N [] (fun t2=>[(2,.bool t2)]) (fun o0 az=>?_) ?_
 · have H:=iS I;refine zM<|yE 4 [0] [6] rfl<|wL [6] az ?_ ?_
   · intro hc N;exact yK [0] [2] rfl<|wF zP<|yU<|zU (ct N H)
   intro hc N;exact wR [] [(2,vF)]<|wF zP<|yU<|zU (ct N H)
 intro t2 I0 le aT;refine zK<|xA ?_;obtain rfl:=zD aT;exact vV
def zFU (b0:Nat) (r:Bool×Int):KT:=fun kk I' af v=>
  ∃ v0 k0,af=[.blk b0 ⟨k0⟩]/\v=tupV [v0]/\v0=.bool r.1/\Rp.rep I' k0 r.2
def sC (e0:zH) (depth:Int) (deep:Int) (count:Int):Option (Bool×Int):=do
 let t21<-(do
   if (decide ((W (count+1))>12)) then pure true
   else
    pure (decide (deep>5))
     : Option Bool)
 if t21 then pure (false,(W (count+1)))
 else
  let t51<-(do
    if (e0.Kind != 1) then
     if (e0.Num != 0) then pure true
     else
      if (e0.Kind != 2) then
       let y<-gL e0.Index;if (!y) then pure true
       else
        if (e0.Kind != 3) then
         let y1<-mE e0.Read;pure (!y1)
        else pure false
      else
       if (e0.Kind != 3) then
        let y2<-mE e0.Read;pure (!y2)
       else pure false
    else
     if (e0.Kind != 2) then
      let y3<-gL e0.Index;if (!y3) then pure true
      else
       if (e0.Kind != 3) then
        let y4<-mE e0.Read;pure (!y4)
       else pure false
     else
      if (e0.Kind != 3) then
       let y5<-mE e0.Read;pure (!y5)
      else pure false
      : Option Bool)
  if t51 then pure (false,(W (count+1)))
  else
   if (e0.Kind==1) then
    let t8<-(do
      let y6<-vG e0.Num 0 99;if y6 then pure ((e0.Kids.length:Int)==0)
      else
       pure false
        : Option Bool)
    pure (t8,(W (count+1)))
   else
    if (e0.Kind==2) then
     let t81<-(do
       let y7<-oI e0.Index;if y7 then
        let y8<-pH e0.Index;if (decide (y8<=depth)) then pure ((e0.Kids.length:Int)==0)
        else pure false
       else
        pure false
         : Option Bool)
     pure (t81,(W (count+1)))
    else
     if (e0.Kind==3) then
      let t82<-(do
        let y9<-gK e0.Read depth;if y9 then pure ((e0.Kids.length:Int)==0)
        else
         pure false
          : Option Bool)
      pure (t82,(W (count+1)))
     else
      let t99<-(do
        let y10<-zBE e0.Kind;if (!y10) then pure true
        else
         pure ((e0.Kids.length:Int) != 2)
          : Option Bool)
      if t99 then pure (false,(W (count+1)))
      else
       let (t83,x)<-(do
         let x1<-idx e0.Kids 0;let (y12,y13)<-sC (same x1) (same depth) (W (deep+1)) (W (count+1));if y12 then
          let x2<-idx e0.Kids 1;let (y15,y16)<-sC (same x2) (same depth) (W (deep+1)) (same y13);pure (y15,y16)
         else
          pure (false,y13)
           : Option (Bool×Int))
       pure (t83,x)
 partial_fixpoint
theorem zHH:∀ e0 depth deep count r,sC e0 depth deep count=some r->∀ {I:Imm}{p c p1 c1 p2 c2}{r0},(S4 I p e0.Index.Coefs c)->(S4 I p1 e0.Read.Subs c1)->(S4 I p2 e0.Kids c2)->RT 101 [vA (cExpr e0 p c p1 c1 p2 c2),vI depth,vI deep,vP r0 0] I [hB r0 [vI count]] (zFU r0 r):=by
 refine sC.partial_correctness _ fun F_impl_exprScan ih_impl_exprScan e0 depth deep count r N I p c p1 c1 p2 c2 r0 h h1 h2=>yI func101 fun B=>?_;have H:=iS I;refine yB<|vJ (cExpr e0 p c p1 c1 p2 c2) ?_;intro b hb;refine wR [] []<|yW<|yE 5 [1] [12,13] rfl<|yY 1 [vI (W (count+1))] rfl<|zX rfl<|zZ<|yA ?_;refine wZ N [hB b (cExpr e0 p c p1 c1 p2 c2),hB r0 [vI (W (count+1))]] (fun t21=>[(1,vI depth),(2,vI deep),(3,vP r0 0),(4,vP b 0),(21,.bool t21)]) (fun o0 az=>?_) ?_
 · have H:=iS I;refine zM<|yE 5 [1] [18] rfl<|wL [18] az ?_ ?_
   · intro hc N;exact wR [] [(21,vY)]<|yU<|zU (ct N H)
   intro hc N;exact yK [] [21] rfl<|yU<|zU (ct N H)
 intro t21 I0 le aT;have ⟨h,h1,h2,H⟩:=m4 le h h1 h2 H;refine zK<|yG aT ?_ ?_
 · intro aH N;refine wT [(8,vF)]<|xF<|zJ ?_;exact xO N (resT rfl) (zW [1] rfl (by decide)) ⟨_,_,rfl,rfl,rfl,rfl⟩
 intro aH N;refine zS<|zZ<|yA ?_;refine wZ N [hB b (cExpr e0 p c p1 c1 p2 c2),hB r0 [vI (W (count+1))]] (fun t51=>[(1,vI depth),(2,vI deep),(3,vP r0 0),(4,vP b 0),(51,.bool t51)]) (fun aN aC=>?_) ?_
 · have H:=iS I0;refine zM<|yE 4 [0] [25] rfl<|wL [25] aC ?_ ?_
   · intro aY N;refine yE 9 [0] [30] rfl<|wL [30] N ?_ ?_
     · intro bC N;exact wR [] [(51,vY)]<|yU<|zU (ct N H)
     intro bC N;refine yE 13 [0] [34] rfl<|wL [34] N ?_ ?_
     · intro bJ N;refine tL 15 [0] [(36,vA (cAff e0.Index p c))]<|bE N fun y hy N=>tH (zCm e0.Index _ hy h) ?_;intro aV aa;have ⟨h1,H⟩:=m2 aa h1 H;refine yE 20 [] [41] rfl<|wL [41] N ?_ ?_
       · intro hc5 N;exact wR [] [(51,vY)]<|yU<|zU (ct N H)
       intro hc5 N;refine yE 24 [0] [45] rfl<|wL [45] N ?_ ?_
       · intro hc6 N;refine tL 26 [0] [(47,vA (cAccess e0.Read p1 c1))]<|bE N fun y1 ay N=>tH (zAN e0.Read _ ay h1) ?_;intro bx aA;have H:=H.trans aA;exact yK [] [51] rfl<|yU<|zU (ct N H)
       intro hc6 N;exact wR [] [(51,vF)]<|yU<|zU (ct N H)
     intro bJ N;refine yE 24 [0] [41,45] rfl<|wL [45] N ?_ ?_
     · intro hc7 N;refine tL 26 [0] [(47,vA (cAccess e0.Read p1 c1))]<|bE N fun y2 aG N=>tH (zAN e0.Read _ aG h1) ?_;intro bD aK;have H:=H.trans aK;exact yK [] [51] rfl<|yU<|zU (ct N H)
     intro hc7 N;exact wR [] [(51,vF)]<|yU<|zU (ct N H)
   intro aY N;refine yE 13 [0] [30,34] rfl<|wL [34] N ?_ ?_
   · intro hc8 N;refine tL 15 [0] [(36,vA (cAff e0.Index p c))]<|bE N fun y3 bc N=>tH (zCm e0.Index _ bc h) ?_;intro bI aX;have ⟨h1,H⟩:=m2 aX h1 H;refine yE 20 [] [41] rfl<|wL [41] N ?_ ?_
     · intro hc9 N;exact wR [] [(51,vY)]<|yU<|zU (ct N H)
     intro hc9 N;refine yE 24 [0] [45] rfl<|wL [45] N ?_ ?_
     · intro hc10 N;refine tL 26 [0] [(47,vA (cAccess e0.Read p1 c1))]<|bE N fun y4 bu N=>tH (zAN e0.Read _ bu h1) ?_;intro I06 bf;have H:=H.trans bf;exact yK [] [51] rfl<|yU<|zU (ct N H)
     intro hc10 N;exact wR [] [(51,vF)]<|yU<|zU (ct N H)
   intro hc8 N;refine yE 24 [0] [41,45] rfl<|wL [45] N ?_ ?_
   · intro hc11 N;refine tL 26 [0] [(47,vA (cAccess e0.Read p1 c1))]<|bE N fun y5 bz N=>tH (zAN e0.Read _ bz h1) ?_;intro I07 bt;have H:=H.trans bt;exact yK [] [51] rfl<|yU<|zU (ct N H)
   intro hc11 N;exact wR [] [(51,vF)]<|yU<|zU (ct N H)
 intro t51 aO le7 hMc1;have ⟨h,h1,h2,H⟩:=m4 le7 h h1 h2 H;refine zK<|yG hMc1 ?_ ?_
 · intro hc12 N;refine wT [(8,vF)]<|xF<|zJ ?_;exact xO N (resT rfl) (zW [1] rfl (by decide)) ⟨_,_,rfl,rfl,rfl,rfl⟩
 intro hc12 N;refine zS<|zZ<|yF<|yB<|yK [0] [52] rfl<|zK<|yG N ?_ ?_
 · intro hc13 N;refine yA ?_;refine wZ N [hB r0 [vI (W (count+1))]] (fun t8=>[(8,.bool t8)]) (fun o02 ho02=>?_) ?_
   · have H:=iS aO;refine zM<|yE 2 [0] [57] rfl ?_;obtain ⟨y6,hy6,N⟩:=zB ho02;refine tH (uA e0.Num 0 99 _ hy6 ) ?_;intro I09 le8;have H:=H.trans le8;refine yE 4 [] [59] rfl<|wL [59] N ?_ ?_
     · intro hc14 N;exact yK [0] [8] rfl<|wF (zW [1] rfl (by decide))<|yU<|zU (ct N H)
     intro hc14 N;exact wR [] [(8,vF)]<|wF (zW [1] rfl (by decide))<|yU<|zU (ct N H)
   intro t8 I08 le9 hMc2;refine xF<|zV<|zJ ?_;exact xO hMc2 (resT rfl) (zW [0] rfl (by decide)) ⟨_,_,rfl,rfl,rfl,rfl⟩
 intro hc13 N;refine yB<|yK [0] [65] rfl<|zK<|yG N ?_ ?_
 · intro hc15 N;refine yA ?_;refine wZ N [hB r0 [vI (W (count+1))]] (fun t81=>[(8,.bool t81)]) (fun o03 ho03=>?_) ?_
   · have H:=iS aO;refine zM<|tL 2 [0] [(70,vA (cAff e0.Index p c))] ?_;obtain ⟨y7,hy7,N⟩:=zB ho03;refine tH (jG e0.Index _ hy7 h) ?_;intro bR le10;have ⟨h,H⟩:=m2 le10 h H;refine yE 4 [] [72] rfl<|wL [72] N ?_ ?_
     · intro hc16 N;refine tL 6 [0] [(74,vA (cAff e0.Index p c))]<|bE N fun y8 hy8 N=>dP (zAB e0.Index _ hy8 h) ?_;intro bO le11;have H:=H.trans le11;refine yE 11 [] [79] rfl<|wL [79] N ?_ ?_
       · intro hc17 N;exact yK [0] [8] rfl<|wF (zW [1] rfl (by decide))<|yU<|zU (ct N H)
       intro hc17 N;exact wR [] [(8,vF)]<|wF (zW [1] rfl (by decide))<|yU<|zU (ct N H)
     intro hc16 N;exact wR [] [(8,vF)]<|wF (zW [1] rfl (by decide))<|yU<|zU (ct N H)
   intro t81 bL le12 hMc3;refine xF<|zV<|zJ ?_;exact xO hMc3 (resT rfl) (zW [0] rfl (by decide)) ⟨_,_,rfl,rfl,rfl,rfl⟩
 intro hc15 N;refine yB<|yK [0] [85] rfl<|zK<|yG N ?_ ?_
 · intro hc18 N;refine yA ?_;refine wZ N [hB r0 [vI (W (count+1))]] (fun t82=>[(8,.bool t82)]) (fun o04 ho04=>?_) ?_
   · have H:=iS aO;refine zM<|tL 3 [0] [(90,vA (cAccess e0.Read p1 c1)),(91,vI depth)] ?_;obtain ⟨y9,hy9,N⟩:=zB ho04;refine tH (zCl e0.Read depth _ hy9 h1) ?_;intro I014 le13;have H:=H.trans le13;refine yE 5 [] [93] rfl<|wL [93] N ?_ ?_
     · intro hc19 N;exact yK [0] [8] rfl<|wF (zW [1] rfl (by decide))<|yU<|zU (ct N H)
     intro hc19 N;exact wR [] [(8,vF)]<|wF (zW [1] rfl (by decide))<|yU<|zU (ct N H)
   intro t82 I013 le14 hMc4;refine xF<|zV<|zJ ?_;exact xO hMc4 (resT rfl) (zW [0] rfl (by decide)) ⟨_,_,rfl,rfl,rfl,rfl⟩
 intro hc18 N;refine yA ?_;refine wZ N [hB b (cExpr e0 p c p1 c1 p2 c2),hB r0 [vI (W (count+1))]] (fun t99=>[(1,vI depth),(2,vI deep),(3,vP r0 0),(4,vP b 0),(99,.bool t99)]) (fun o05 ho05=>?_) ?_
 · have H:=iS aO;refine zM<|yE 2 [0] [101] rfl ?_;obtain ⟨y10,hy10,N⟩:=zB ho05;refine tH (zKN e0.Kind _ hy10 ) ?_;intro I016 le15;have H:=H.trans le15;refine yE 5 [] [104] rfl<|wL [104] N ?_ ?_
   · intro hc20 N;exact wR [] [(99,vY)]<|yU<|zU (ct N H)
   intro hc20 N;exact yK [0] [99] rfl<|yU<|zU (ct N H)
 intro t99 I015 le16 hMc5;have ⟨h2,H⟩:=m2 le16 h2 H;refine zK<|yG hMc5 ?_ ?_
 · intro hc21 N;refine wT [(8,vF)]<|xF<|zV<|zJ ?_;exact xO N (resT rfl) (zW [1] rfl (by decide)) ⟨_,_,rfl,rfl,rfl,rfl⟩
 intro hc21 N;refine zS<|zO<|zK<|yA ?_;obtain ⟨o06,ho06,hMc6⟩:=zB N;refine oW (fun I' af m'=>∃ (t83:Bool) (x:Int),o06=(t83,x)/\I015.le I'/\af=[hB r0 [vI x]]/\m'=[(8,.bool t83)]) ?_ ?_
 · have H:=iS I015;refine zM<|yE 2 [0] [111] rfl ?_;obtain ⟨x1,hy11,N⟩:=zB ho06;refine xR rfl rfl h2 hy11 ?_;intro ad aL al aj;obtain ⟨p3,c3,p4,c4,p5,c5,rfl,h14,h15,h16⟩:=wQ aj;refine xH 0 al (cExpr x1 p3 c3 p4 c4 p5 c5) (vA (cExpr x1 p3 c3 p4 c4 p5 c5)) rfl<|yE 8 [] [114,116,117] rfl<|tX (zY [1,0] (af:=[hB r0 [vI (W (count+1))],hB b (cExpr e0 p c p1 c1 p2 c2)])) ?_;obtain ⟨⟨y12,y13⟩,hy12,N⟩:=zB N;refine rW (ih_impl_exprScan x1 depth (W (deep+1)) (W (count+1)) _ hy12 h14 h15 h16) rfl ?_;rintro I018 aw v2 k2 le17 - ⟨v014,kk,rfl,rfl,rfl,h18⟩ -;have ⟨h2,H⟩:=m2 le17 h2 H;obtain rfl:=h18;refine yE 10 [] [119] rfl<|wL [119] N ?_ ?_
   · intro hc22 N;refine yE 12 [1] [121] rfl<|bE N fun x2 hy13 N=>xR rfl rfl h2 hy13 ?_;intro ad1 bm au ax;obtain ⟨p6,c6,p7,c7,p8,c8,rfl,h19,h20,h21⟩:=wQ ax;refine xH 0 au (cExpr x2 p6 c6 p7 c7 p8 c8) (vA (cExpr x2 p6 c6 p7 c7 p8 c8)) rfl<|yE 18 [] [124,126,127] rfl ?_;obtain ⟨⟨y15,y16⟩,hy14,N⟩:=zB N;refine rW (ih_impl_exprScan x2 depth (W (deep+1)) y13 _ hy14 h19 h20 h21) rfl ?_;rintro I019 aw v2 k2 le18 - ⟨v018,kk1,rfl,rfl,rfl,h23⟩ -;have H:=H.trans le18;obtain rfl:=h23;exact yK [] [8] rfl<|wF (zW [0] rfl (by decide))<|yU<|zU ⟨_,_,(zD N).symm,H,rfl,rfl⟩
   intro hc22 N;exact wR [] [(8,vF)]<|wF (zW [0] rfl (by decide))<|yU<|zU ⟨_,_,(zD N).symm,H,rfl,rfl⟩
 rintro I017 aw m2 ⟨t83,x,heq6,le19,rfl,rfl⟩;subst o06;refine zK<|xA ?_;exact xO hMc6 (resT rfl) (zW [0] rfl (by decide)) ⟨_,_,rfl,rfl,rfl,rfl⟩
def eA (s:zL) (depth:Int):Option (Bool):=do
 let t4<-(do
   let y<-vG depth 0 4;if y then
    let y1<-gK s.Write depth;if y1 then
     let (y3,y4)<-sC s.Value depth 1 0;pure (id y3)
    else pure false
   else
    pure false
     : Option Bool)
 pure (id t4)
theorem zGZ:∀ s depth r,eA s depth=some r->∀ {I:Imm}{p c p1 c1 p2 c2 p3 c3},(S4 I p s.Write.Subs c)->(S4 I p1 s.Value.Index.Coefs c1)->(S4 I p2 s.Value.Read.Subs c2)->(S4 I p3 s.Value.Kids c3)->RT 61 [vA (cStmt s p c p1 c1 p2 c2 p3 c3),vI depth] I [] (zT  r):=by
 intro s depth r N I p c p1 c1 p2 c2 p3 c3 h h1 h2 h3;unfold eA at N;refine yI func61 fun B=>?_;have H:=iS I;refine yB<|vJ (cStmt s p c p1 c1 p2 c2 p3 c3) ?_;intro b hb;refine wR [] []<|yW<|xU [vI 0] ?_;intro b1 hb1;refine yY 0 [vI 0] rfl<|zX rfl<|zK<|yA ?_;refine wZ N [] (fun t4=>[(4,.bool t4)]) (fun o0 az=>?_) ?_
 · have H:=iS I;refine zM<|yE 1 [] [6] rfl ?_;obtain ⟨y,hy,N⟩:=zB az;refine tH (uA depth 0 4 _ hy ) ?_;intro aO le;have ⟨h,h1,h2,h3,H⟩:=m5 le h h1 h2 h3 H;refine yE 3 [] [8] rfl<|wL [8] N ?_ ?_
   · intro hc N;refine tL 6 [1] [(10,vA (cAccess s.Write p c)),(11,vI depth)]<|bE N fun y1 ay N=>tH (zCl s.Write depth _ ay h) ?_;intro aV aa;have ⟨h1,h2,h3,H⟩:=m4 aa h1 h2 h3 H;refine yE 9 [] [14] rfl<|wL [14] N ?_ ?_
     · intro aH N;refine tL 12 [1] [(16,vA (cExpr s.Value p1 c1 p2 c2 p3 c3)),(17,vI depth)] ?_;obtain ⟨⟨y3,y4⟩,aG,N⟩:=zB N;refine rW (zHH s.Value depth 1 0 _ aG h1 h2 h3) rfl ?_;rintro bx aw v2 k2 aA - ⟨v02,kk,rfl,rfl,rfl,h7⟩ -;have H:=H.trans aA;obtain rfl:=h7;exact yK [] [4] rfl<|wF zP<|yU<|zU (ct N H)
     intro aH N;exact wR [] [(4,vF)]<|wF zP<|yU<|zU (ct N H)
   intro hc N;exact wR [] [(4,vF)]<|wF zP<|yU<|zU (ct N H)
 intro t4 I0 aK aT;refine zK<|xA ?_;obtain rfl:=zD aT;exact vV
def uN (s:zL) (x:zI):Option (Bool):=do
 let y<-eA s (x.Nest.length:Int);pure (!y)
theorem zBW:∀ s x r,uN s x=some r->∀ {I:Imm}{p c p1 c1 p2 c2 p3 c3}{ad:Addr}{p4 c4 p5 c5},(S4 I p s.Write.Subs c)->(S4 I p1 s.Value.Index.Coefs c1)->(S4 I p2 s.Value.Read.Subs c2)->(S4 I p3 s.Value.Kids c3)->(S4 I p4 x.Nest c4)->(S4 I p5 x.Body c5)->(At I ad (cPart x p4 c4 p5 c5))->RT 60 [vA (cStmt s p c p1 c1 p2 c2 p3 c3),.pointer (some ad)] I [] (zT  r):=by
 intro s x r N I p c p1 c1 p2 c2 p3 c3 ad p4 c4 p5 c5 h h1 h2 h3 h4 h5 al;unfold uN at N;refine yI func60 fun B=>yB<|vJ (cStmt s p c p1 c1 p2 c2 p3 c3) ?_;intro b hb;refine wR [] []<|yW<|tL 2 [0] [(4,vA (cStmt s p c p1 c1 p2 c2 p3 c3)),(5,.pointer (some ad))]<|xH 0 al [vS p4 x.Nest c4] (vS p4 x.Nest c4) rfl<|yE 4 [] [7] rfl<|bE N fun y hy N=>tH (zGZ s (x.Nest.length:Int) _ hy h h1 h2 h3) fun I0 le=>wR [] [(3,.bool (!y))]<|zK<|xA ?_;obtain rfl:=zD N;exact vV
def kG (n0:Int):Option (Bool):=do
 let y<-vG n0 (-9999) 9999;pure (!y)
theorem zG0:∀ n0 r,kG n0=some r->∀ {I:Imm} ,RT 102 [vI n0] I [] (zT  r):=by
 intro n0 r N I;unfold kG at N;refine yI func102 fun B=>wT []<|yW<|yE 1 [] [3] rfl<|bE N fun y hy N=>tH (uA n0 (-9999) 9999 _ hy ) fun I0 le=>wR [] [(2,.bool (!y))]<|zK<|xA ?_;obtain rfl:=zD N;exact vV
def zAC (ag:(List Int)):Option (Bool):=do
 let t2<-(do
   if (decide ((ag.length:Int)<=4)) then
    let y<-wA ag kG;pure (!y)
   else
    pure false
     : Option Bool)
 pure (id t2)
theorem zHk:∀ ag r,zAC ag=some r->∀ {I:Imm}{p c},(S4 I p ag c)->RT 62 [vS p ag c] I [] (zT  r):=by
 intro ag r N I p c h;unfold zAC at N;refine yI func62 fun B=>?_;have H:=iS I;refine wT []<|zK<|yA ?_;refine wZ N [] (fun t2=>[(2,.bool t2)]) (fun o0 az=>?_) ?_
 · have H:=iS I;refine zM<|yE 4 [] [6] rfl<|wL [6] az ?_ ?_
   · intro hc N;refine yE 5 [] [7] rfl ?_;have hf0:FV1 Tryz.prog I [] (.func (.func 102) ⟨[]⟩ ⟨[]⟩) kG:=by
       refine FV1.intro ?_;intro I1 aa x0 r u0 hF k0;obtain rfl:=k0;exact (zG0 x0 r hF ).mono (by rintro k i hs u ⟨v0,rfl,rfl,h⟩; exact ⟨rfl,h⟩)
     obtain ⟨y,hy,N⟩:=zB N;refine xE (qZ ag kG _ hy h hf0) ?_;rintro aO aw v2 k2 le - ⟨v0,rfl,rfl,rfl⟩ -;have H:=H.trans le;exact yK [] [2] rfl<|yU<|zU (ct N H)
   intro hc N;exact wR [] [(2,vF)]<|yU<|zU (ct N H)
 intro t2 I0 aa aT;refine zK<|xA ?_;obtain rfl:=zD aT;exact vV
mutual
def jI (e0:zH):Option ((List zG)):=do
 if (e0.Kind==3) then pure ([e0.Read]:List zG)
 else
  let ah<-jC (same e0) ([]:List zG) (same 0);pure (id ah)
 partial_fixpoint
def jC (e0:zH) (out:List zG) (t15:Int):Option (List zG):=do
 if (decide (t15<(e0.Kids.length:Int))) then
  let x<-idx e0.Kids t15;let y<-jI (same x);let ap<-app 40 out y;jC (same e0) (same ap) (W (t15+1))
 else pure (id out)
 partial_fixpoint
end
theorem zIc:(∀ (e0:zH) r,jI e0=some r->∀ {I:Imm}{p c p1 c1 p2 c2},(S4 I p e0.Index.Coefs c)->(S4 I p1 e0.Read.Subs c1)->(S4 I p2 e0.Kids c2)->RT 30 [vA (cExpr e0 p c p1 c1 p2 c2)] I [] (dI  r))/\(∀ (e0:zH) (out:List zG) (t15:Int) o,jC e0 out t15=some o->∀ {B}{I0 I:Imm}{Q p2 c2 p3 c3 cs},I0.le I->(S4 I p2 e0.Kids c2)->(RL I cs out)->NG Q->NO Q->(∀ I' ah p4 c4 av,o=ah->I0.le I'->(RL I' av ah)->T 25 B Q (.exit 0) I' [hO zG (vS p4 ah c4) av] [(3,vS p4 ah c4)])->J Tryz.prog 25 B (nav (bodyOf f30) [1,1,1,0,1,0]) Q I [hO zG (vS p3 out c3) cs] [(3,vS p3 out c3),(13,vS p2 e0.Kids c2),(14,vI (e0.Kids.length:Int)),(15,vI t15)]):=by
  refine jI.mutual_partial_correctness _ _ ?_ ?_
  · intro F_impl_reads_l1 ih_impl_reads_l1 e0 r N I p c p1 c1 p2 c2 h h1 h2;refine yI func30 fun B=>yB<|vJ (cExpr e0 p c p1 c1 p2 c2) ?_;intro b hb;refine wR [] []<|zZ<|yB<|yK [0] [8] rfl<|zK<|yG N ?_ ?_
    · intro hc N;refine yB<|tL 2 [0] [(10,vA (cAccess e0.Read p1 c1))]<|uV (cAccess e0.Read p1 c1) zG ?_;intro b1 hb1;have h3:RL I (cAccess e0.Read p1 c1) ([e0.Read]:List zG):=⟨(cAccess e0.Read p1 c1),_,rfl,rfl,(rK ⟨_,rfl,h1⟩),rfl⟩;refine yK [] [2] rfl<|xF<|zJ ?_;exact xO N (resT rfl) (zW [0] rfl (by decide)) ⟨_,_,_,rfl,rfl,h3⟩
    intro hc N;refine zS<|zD7 [(3,z0)]<|zZ<|yB<|yK [0] [13,14,15] rfl<|wI<|pU (zY [] (af:=[]))<|qR [(3,z0),(13,vS p2 e0.Kids c2),(14,vI (e0.Kids.length:Int)),(15,vI 0)]<|zA6 zG fun h4=>?_;obtain ⟨o0,az,aF⟩:=zB N;refine ih_impl_reads_l1 e0 ([]:List zG) 0 o0 az iR h2 h4 nG nO ?_;intro aO ah p4 c4 av heq aa h6;subst o0;refine zR<|vW [2] rfl<|zK<|xA ?_;exact xO aF (resT rfl) (zW [0] rfl (by decide)) ⟨_,_,_,rfl,rfl,h6⟩
  intro F_impl_reads F_impl_reads_l1 ih_impl_reads ih_impl_reads_l1 e0 out t15 o N B I0 I Q p2 c2 p3 c3 cs H h2 h5 hg ho hx;refine yQ hg ho<|yH [16] rfl<|zZ<|yG N ?_ ?_
  · intro aH N;refine zS<|zZ<|yF<|yB<|bE N fun x hy N=>xR rfl rfl h2 hy ?_;intro ad aL al aj;obtain ⟨p5,c5,p6,c6,p7,c7,rfl,h7,h8,h9⟩:=wQ aj;refine xH 0 al (cExpr x p5 c5 p6 c6 p7 c7) (vA (cExpr x p5 c5 p6 c6 p7 c7)) rfl<|xU zExpr ?_;intro b2 hb2;refine yY 0 (cExpr x p5 c5 p6 c6 p7 c7) rfl<|zX rfl<|zK<|zM<|tL 2 [0] [(19,vS p3 out c3),(20,vA (cExpr x p5 c5 p6 c6 p7 c7))]<|bE N fun y ay N=>xE (ih_impl_reads x _ ay h7 h8 h9) ?_;rintro I0 aw v2 k2 le - ⟨p8,c8,aP,rfl,rfl,h10⟩ -;have ⟨h2,h5,H⟩:=m3 le h2 h5 H;obtain ⟨ap,aG,N⟩:=zB N;exact rF 67 2 2 rfl rfl rfl h5 (.inr ⟨0,rfl⟩) h10 aG fun p9 c9 aI h11=>tX (zY [1,2] (af:=[hB b2 (cExpr x p5 c5 p6 c6 p7 c7),hO zG (vS p9 ap c9) aI]))<|yK [] [3] rfl<|zO<|zK<|zM<|yK [] [15] rfl<|yP<|pU (zW [1] rfl (by decide))<|oT<|ih_impl_reads_l1 e0 ap (W (t15+1)) _ N H h2 h11 hg ho hx
  intro aH N;exact wP<|yU<|hx _ _ _ _ _ (zD N).symm H h5
theorem zCW:∀ e0 r,jI e0=some r->∀ {I:Imm}{p c p1 c1 p2 c2},(S4 I p e0.Index.Coefs c)->(S4 I p1 e0.Read.Subs c1)->(S4 I p2 e0.Kids c2)->RT 30 [vA (cExpr e0 p c p1 c1 p2 c2)] I [] (dI  r):=zIc.1
def qK (a0:zE) (n0:Int) (t9:Int):Option (Int):=do
 if (decide (t9<(a0.Dims.length:Int))) then
  let x<-idx a0.Dims t9;qK a0 (W (n0*x)) (W (t9+1))
 else pure (id n0)
 partial_fixpoint
theorem zDd (a0:zE):∀ (n0:Int) (t9:Int) (o:Int),qK a0 n0 t9=some o->∀ {B}{I0 I:Imm}{Q p c},I0.le I->(S4 I p a0.Dims c)->NG Q->NO Q->(∀ I' n01,o=n01->I0.le I'->T 18 B Q (.exit 0) I' [] [(3,vI n01)])->J Tryz.prog 18 B (nav (bodyOf f81) [1,1,0,1,0]) Q I [] [(3,vI n0),(7,vS p a0.Dims c),(8,vI (a0.Dims.length:Int)),(9,vI t9)]:=by
 refine qK.partial_correctness a0 _ fun aE ih n0 t9 o N B I0 I Q p c H h hg ho hx=>yQ hg ho<|yH [10] rfl<|zZ<|yG N ?_ ?_
 · intro hc N;refine zS<|zZ<|yF<|yB<|bE N fun x hy N=>xR rfl rfl h hy ?_;intro ad aL al aj;obtain rfl:=aj;exact xH 0 al [vI x] (vI x) rfl<|yK [] [5] rfl<|zK<|zM<|yK [] [3] rfl<|zO<|zK<|zM<|yK [] [9] rfl<|yP<|oT<|ih (W (n0*x)) (W (t9+1)) _ N H h hg ho hx
 intro hc N;exact wP<|yU<|hx _ _ (zD N).symm H
def gT (a0:zE):Option (Int):=do
 let n01<-qK a0 1 0;pure (id n01)
theorem zFV:∀ a0 r,gT a0=some r->∀ {I:Imm}{p c},(S4 I p a0.Dims c)->RT 81 [vA (cArr a0 p c)] I [] (xL  r):=by
 intro a0 r N I p c h;unfold gT at N;refine yI func81 fun B=>yB<|vJ (cArr a0 p c) ?_;intro b hb;refine wR [] []<|vW [3] rfl<|zZ<|yB<|yK [0] [7,8,9] rfl<|wI<|pU (zY [] (af:=[]))<|qR [(3,vI 1),(7,vS p a0.Dims c),(8,vI (a0.Dims.length:Int)),(9,vI 0)] ?_;obtain ⟨o0,az,aF⟩:=zB N;refine zDd a0 1 0 o0 az iR h nG nO ?_;intro I0 n01 heq le;subst o0;refine zR<|vW [2] rfl<|zK<|xA ?_;obtain rfl:=zD aF;exact vV
def rD (a0:zG) (ag:(List Int)) (x:zE) (at0:Int) (t40:Int):Option (Out Int (Int)):=do
 if (decide (t40<(a0.Subs.length:Int))) then
  let x1<-idx a0.Subs t40;let y1<-tP x1 ag;let x2<-idx x.Dims t40;let y2<-vG y1 0 (W (x2 - 1));if (!y2) then pure (.ret (-1))
  else
   let x3<-idx x.Dims t40;rD a0 ag x (W ((W (at0*x3))+y1)) (W (t40+1))
 else pure (.done at0)
 partial_fixpoint
theorem zCn (a0:zG) (ag:(List Int)) (x:zE):∀ (at0:Int) (t40:Int) (o:Out Int (Int)),rD a0 ag x at0 t40=some o->∀ {B}{I0 I:Imm}{Q}{first:Int}{p3 c2 p4 c3 p5 c4}{b2},I0.le I->(S4 I p4 ag c3)->(S4 I p3 a0.Subs c2)->(S4 I p5 x.Dims c4)->NG Q->NO Q->(∀ I' at01,o=(.done at01)->I0.le I'->T 71 B Q (.exit 2) I' [] [(7,vI first),(10,vI at01)])->(∀ r I' af m',o=(.ret r)->I0.le I'->RS Tryz.prog f103 B (xL  r) I' af m'->T 71 B Q .ret I' af m')->J Tryz.prog 71 B (nav (bodyOf f103) [1,1,0,1,0,0,1,1,0,0,1,1,1,1,0,1,0]) Q I [hB b2 (cArr x p5 c4)] [(2,vS p4 ag c3),(7,vI first),(9,vP b2 0),(10,vI at0),(38,vS p3 a0.Subs c2),(39,vI (a0.Subs.length:Int)),(40,vI t40)]:=by
 refine rD.partial_correctness a0 ag x _ fun aE ih at0 t40 o N B I0 I Q first p3 c2 p4 c3 p5 c4 b2 H h3 h2 h4 hg ho hx hr=>yQ hg ho<|yH [41] rfl<|zZ<|yG N ?_ ?_
 · intro bC N;refine zS<|zZ<|yF<|yB<|yE 1 [] [42] rfl<|bE N fun x1 aG N=>xR rfl rfl h2 aG ?_;intro ad1 bm au ax;obtain ⟨p6,c5,rfl,h6⟩:=yD ax;refine xH 0 au (cAff x1 p6 c5) (vA (cAff x1 p6 c5)) rfl<|xU [z0,vI 0] ?_;intro b3 hb3;refine yE 5 [] [11] rfl<|yY 0 (cAff x1 p6 c5) rfl<|zX rfl<|yW<|tL 2 [0] [(45,vA (cAff x1 p6 c5)),(46,vS p4 ag c3)]<|bE N fun y1 bc N=>dP (nW x1 ag _ bc h6 h3) ?_;intro aO aa;have ⟨h3,h2,h4,H⟩:=m4 aa h3 h2 h4 H;refine yK [] [13] rfl<|zZ<|yB<|yE 4 [1] [48,50,51] rfl<|bE N fun x2 bu N=>xR rfl rfl h4 bu ?_;intro ad2 bK bk bq;obtain rfl:=bq;refine xH 0 bk [vI x2] (vI x2) rfl<|yE 7 [] [54] rfl<|bE N fun y2 bz N=>tH (uA y1 0 (W (x2 - 1)) _ bz ) ?_;intro aV aA;have ⟨h3,h2,h4,H⟩:=m4 aA h3 h2 h4 H;refine yK [] [56] rfl<|zK<|yG N ?_ ?_
   · intro bJ N;exact yH [6] rfl<|xF<|zJ<|zV<|zJ<|zJ<|hr _ _ _ _ (zD N).symm H ⟨_,_,(resT rfl),zP,⟨_,rfl,rfl,rfl⟩⟩
   intro bJ N;refine zS<|zK<|zM<|yE 4 [1] [57,59,60] rfl<|bE N fun x3 hy6 N=>xR rfl rfl h4 hy6 ?_;intro ad3 ccs3 hat3 bB;obtain rfl:=bB;exact xH 0 hat3 [vI x3] (vI x3) rfl<|yK [] [10] rfl<|zO<|zK<|zM<|yK [] [40] rfl<|yP<|pU (zW [1] rfl (by decide))<|oT<|ih (W ((W (at0*x3))+y1)) (W (t40+1)) _ N H h3 h2 h4 hg ho hx hr
 intro bC N;exact wP<|wF zP<|yU<|hx _ _ (zD N).symm H
def tG (p:zC) (a0:zG) (ag:(List Int)) (first:Int) (t17:Int):Option (Out Unit (Int)):=do
 if (decide (t17<(p.Arrays.length:Int))) then
  let x<-idx p.Arrays t17;if (!(x.Name.l==a0.Array.l)) then
   let y<-gT x;tG p a0 ag (W (first+y)) (W (t17+1))
  else
   if ((a0.Subs.length:Int) != (x.Dims.length:Int)) then pure (.ret (-1))
   else
    match<-rD a0 ag x 0 0 with
    | .ret r0=>pure (.ret r0)
    | .done at01 =>
     pure (.ret (W (first+at01)))
 else pure (.done ())
 partial_fixpoint
theorem zCo (p:zC) (a0:zG) (ag:(List Int)):∀ (first:Int) (t17:Int) (o:Out Unit (Int)),tG p a0 ag first t17=some o->∀ {B}{I0 I:Imm}{Q p1 c p3 c2 p4 c3}{b1},I0.le I->(S4 I p4 ag c3)->(S4 I p1 p.Arrays c)->(S4 I p3 a0.Subs c2)->NG Q->NO Q->(∀ I',o=(.done ())->I0.le I'->T 71 B Q (.exit 0) I' [] [])->(∀ r I' af m',o=(.ret r)->I0.le I'->RS Tryz.prog f103 B (xL  r) I' af m'->T 71 B Q .ret I' af m')->J Tryz.prog 71 B (nav (bodyOf f103) [1,1,0,1,0]) Q I [hB b1 (cAccess a0 p3 c2)] [(2,vS p4 ag c3),(4,vP b1 0),(7,vI first),(15,vS p1 p.Arrays c),(16,vI (p.Arrays.length:Int)),(17,vI t17)]:=by
 refine tG.partial_correctness p a0 ag _ fun aE ih first t17 o N B I0 I Q p1 c p3 c2 p4 c3 b1 H h3 h h2 hg ho hx hr=>yQ hg ho<|yH [18] rfl<|zZ<|yG N ?_ ?_
 · intro hc N;refine zS<|zZ<|yF<|yB<|bE N fun x hy N=>xR rfl rfl h hy ?_;intro ad aL al aj;obtain ⟨p5,c4,rfl,h4⟩:=xP aj;refine xH 0 al (cArr x p5 c4) (vA (cArr x p5 c4)) rfl<|xU [vT ([]),z0] ?_;intro b2 hb2;refine yY 0 (cArr x p5 c4) rfl<|zX rfl<|zZ<|yB<|yK [0,1] [25] rfl<|zK<|yG N ?_ ?_
   · intro aH N;refine yB<|tL 2 [0] [(26,vI first),(27,vA (cArr x p5 c4))]<|bE N fun y ay N=>dP (zFV x _ ay h4) ?_;intro I0 le;have ⟨h3,h,h2,H⟩:=m4 le h3 h h2 H;exact yK [] [7] rfl<|zK<|zEu<|gQ<|zR<|zK<|zM<|yK [] [17] rfl<|yP<|pU (zW [1] rfl (by decide))<|oT<|ih (W (first+y)) (W (t17+1)) _ N H h3 h h2 hg ho hx hr
   intro aH N;refine zS<|zZ<|yB<|yK [1,0] [36] rfl<|zK<|yG N ?_ ?_
   · intro aY N;exact yH [6] rfl<|xF<|zJ<|zV<|zJ<|zJ<|hr _ _ _ _ (zD N).symm H ⟨_,_,(resT rfl),zP,⟨_,rfl,rfl,rfl⟩⟩
   intro aY N;refine zS<|vW [10] rfl<|zZ<|yB<|yK [1] [38,39,40] rfl<|wI<|pU (zY [0] (af:=[hB b2 (cArr x p5 c4)]))<|qR [(2,vS p4 ag c3),(7,vI first),(9,vP b2 0),(10,vI 0),(38,vS p3 a0.Subs c2),(39,vI (a0.Subs.length:Int)),(40,vI 0)] ?_;obtain ⟨o0,az,aF⟩:=zB N;refine zCn a0 ag x 0 0 o0 az iR h3 h2 h4 (fun _ _ _ h=>hg _ _ _ h) (fun _ _ h=>ho _ _ h) ?_ ?_
   · intro bx at01 heq aK;subst o0;have H:=H.trans aK;exact zR<|vW [6] rfl<|xF<|zV<|zJ<|zJ<|hr _ _ _ _ (zD aF).symm H ⟨_,_,(resT rfl),zP,⟨_,rfl,rfl,rfl⟩⟩
   intro r0 I9 hs9 m9 aS le9 aU;subst aS;exact zV<|zJ<|zV<|zJ<|zJ<|hr _ _ _ _ (zD aF).symm (H.trans le9) aU
 intro hc N;exact wP<|wF zP<|yU<|hx _  (zD N).symm H
def rV (p:zC) (a0:zG) (ag:(List Int)):Option (Int):=do
 match<-tG p a0 ag 0 0 with
 | .ret r0=>pure r0
 | .done _ =>
  pure (-1)
theorem gU:∀ p a0 ag r,rV p a0 ag=some r->∀ {I:Imm}{p1 c p2 c1 p3 c2 p4 c3},(S4 I p1 p.Arrays c)->(S4 I p2 p.Parts c1)->(S4 I p3 a0.Subs c2)->(S4 I p4 ag c3)->RT 103 [vA (cProg p p1 c p2 c1),vA (cAccess a0 p3 c2),vS p4 ag c3] I [] (xL  r):=by
 intro p a0 ag r N I p1 c p2 c1 p3 c2 p4 c3 h h1 h2 h3;unfold rV at N;refine yI func103 fun B=>yB<|vJ (cProg p p1 c p2 c1) ?_;intro b hb;refine vJ (cAccess a0 p3 c2) ?_;intro b1 hb1;refine wR [] []<|vW [7] rfl<|zZ<|yB<|yK [1] [15,16,17] rfl<|wI<|pU (zY [0] (af:=[hB b1 (cAccess a0 p3 c2)]))<|qR [(2,vS p4 ag c3),(4,vP b1 0),(7,vI 0),(15,vS p1 p.Arrays c),(16,vI (p.Arrays.length:Int)),(17,vI 0)] ?_;obtain ⟨aN,aC,hMl1⟩:=zB N;refine zCo p a0 ag 0 0 aN aC iR h3 h h2 nG nO ?_ ?_
 · intro bD  heq1 aX;subst aN;refine zR<|vW [6] rfl<|zK<|xA ?_;obtain rfl:=zD hMl1;exact vV
 intro r0 I9 hs9 m9 aS le9 aU;subst aS;refine zV<|zJ ?_;obtain rfl:=zD hMl1;exact fO aU
def oC (aB:List HA) (r:Int):KT:=fun kk I' af v=>
  ∃ v0,aB=af/\v=tupV [v0]/\v0=.int .i64 r
def xK (s:(List zG)) (f0:(zG->Option Bool)) (t8:Int):Option (Out Unit (Int)):=do
 if (decide (t8<(s.length:Int))) then
  let x<-idx s t8;let y<-f0 x;if y then pure (.ret t8)
  else xK s f0 (W (t8+1))
 else pure (.done ())
 partial_fixpoint
theorem fI (s:(List zG)) (f0:(zG->Option Bool)):∀ (t8:Int) (o:Out Unit (Int)),xK s f0 t8=some o->∀ {B}{I0 I:Imm}{Q p c}{fv:Value}{aB:List HA},I0.le I->(S4 I p s c)->(FV1 Tryz.prog I aB fv f0)->NG Q->NO Q->(∀ I',o=(.done ())->I0.le I'->T 19 B Q (.exit 0) I' aB [])->(∀ r I' af m',o=(.ret r)->I0.le I'->RS Tryz.prog f145 B (oC aB r) I' af m'->T 19 B Q .ret I' af m')->J Tryz.prog 19 B (nav (bodyOf f145) [1,0,1,0]) Q I aB [(0,vS p s c),(1,fv),(7,vI (s.length:Int)),(8,vI t8)]:=by
 refine xK.partial_correctness s f0 _ fun aE ih t8 o N B I0 I Q p c fv aB H h h1 hg ho hx hr=>yQ hg ho<|yH [9] rfl<|zZ<|yG N ?_ ?_
 · intro hc N;refine zS<|zZ<|yF<|yH [5] rfl<|yW<|yE 3 [] [11,12,13] rfl<|bE N fun x hy N=>xR rfl rfl h hy ?_;intro ad aL al aj;obtain ⟨p1,c1,rfl,h2⟩:=uK aj;refine xH 0 al (cAccess x p1 c1) (vA (cAccess x p1 c1)) rfl<|bE N fun y ay N=>zJq rfl rfl h1 ay ⟨_,rfl,(rK ⟨_,rfl,h2⟩)⟩ (cu _).symm ?_;rintro I0 v01 le rfl;refine wX (af:=aB) (cu _) ?_;have ⟨h,h1,H⟩:=m3 le h h1 H;refine zX rfl<|zK<|yG N ?_ ?_
   · intro aH N;exact yH [4] rfl<|xF<|zV<|zJ<|zJ<|hr _ _ _ _ (zD N).symm H ⟨_,_,(resT rfl),(fun _ h=>h),⟨_,rfl,rfl,rfl⟩⟩
   intro aH N;exact zS<|zO<|zK<|zM<|yK [] [8] rfl<|yP<|oT<|ih (W (t8+1)) _ N H h h1 hg ho hx hr
 intro hc N;exact wP<|yU<|hx _  (zD N).symm H
def uE (s:(List zG)) (f0:(zG->Option Bool)):Option (Int):=do
 match<-xK s f0 0 with
 | .ret r0=>pure r0
 | .done _ =>
  pure (-1)
theorem eF:∀ s f0 r,uE s f0=some r->∀ {I:Imm}{p c}{fv:Value}{aB:List HA},(S4 I p s c)->(FV1 Tryz.prog I aB fv f0)->RT 145 [vS p s c,fv] I aB (oC aB r):=by
 intro s f0 r N I p c fv aB h h1;unfold uE at N;refine yI func145 fun B=>wT []<|zZ<|yH [7,8] rfl<|wI<|qR [(0,vS p s c),(1,fv),(7,vI (s.length:Int)),(8,vI 0)] ?_;obtain ⟨o0,az,aF⟩:=zB N;refine fI s f0 0 o0 az iR h h1 nG nO ?_ ?_
 · intro aO  heq aa;subst o0;refine zR<|vW [4] rfl<|zK<|xA ?_;exact xO aF (resT rfl) (fun _ h=>h) ⟨_,rfl,rfl,rfl⟩
 intro r0 I9 hs9 m9 aS le9 aU;subst aS;refine zV<|zJ ?_;obtain rfl:=zD aF;exact fO aU
def gF (aB:List HA) (r:Bool):KT:=fun kk I' af v=>
  ∃ v0,aB=af/\v=tupV [v0]/\v0=.bool r
def wN (s:(List zG)) (f0:(zG->Option Bool)):Option (Bool):=do
 let y<-uE s f0;pure (decide (y>=0))
theorem fJ:∀ s f0 r,wN s f0=some r->∀ {I:Imm}{p c}{fv:Value}{aB:List HA},(S4 I p s c)->(FV1 Tryz.prog I aB fv f0)->RT 104 [vS p s c,fv] I aB (gF aB r):=by
 intro s f0 r N I p c fv aB h h1;unfold wN at N;refine yI func104 fun B=>wT []<|yW<|yE 2 [] [5,6] rfl<|bE N fun y hy N=>zGe (hs1:=aB) (rest:=[]) rfl rfl rfl rfl (by kernel_rfl) rfl (cu _).symm (eF s f0 _ hy h h1) ?_;rintro I0 aw v2 k2 le - ⟨v0,rfl,rfl,rfl⟩ -;refine wX (af:=aB) (cu _) ?_;refine yK [] [4] rfl<|zK<|xA ?_;exact xO N (resT rfl) (fun _ h=>h) ⟨_,rfl,rfl,rfl⟩
def sO (a0:zG) (x:zC) (x1:(List Int)):Option (Bool):=do
 let y<-rV x a0 x1;pure (decide (y<0))
theorem zCX:∀ a0 x x1 r,sO a0 x x1=some r->∀ {I:Imm}{p c}{ad:Addr}{p1 c1 p2 c2}{ad1:Addr}{p3 c3},(S4 I p a0.Subs c)->(S4 I p1 x.Arrays c1)->(S4 I p2 x.Parts c2)->(At I ad (cProg x p1 c1 p2 c2))->(S4 I p3 x1 c3)->(At I ad1 [vS p3 x1 c3])->RT 105 [vA (cAccess a0 p c),.pointer (some ad),.pointer (some ad1)] I [] (zT  r):=by
 intro a0 x x1 r N I p c ad p1 c1 p2 c2 ad1 p3 c3 h h1 h2 al h3 au;unfold sO at N;refine yI func105 fun B=>yB<|vJ (cAccess a0 p c) ?_;intro b hb;refine wR [] []<|yW<|xH 0 al (cProg x p1 c1 p2 c2) (vA (cProg x p1 c1 p2 c2)) rfl<|tL 2 [0] [(6,vA (cAccess a0 p c))]<|xH 0 au [vS p3 x1 c3] (vS p3 x1 c3) rfl<|bE N fun y hy N=>dP (gU x a0 x1 _ hy h1 h2 h h3) fun I0 le=>wR [] [(4,.bool (decide (y<0)))]<|zK<|xA ?_;obtain rfl:=zD N;exact vV
def mH (p:zC) (s:zL) (ag:(List Int)):Option (Bool):=do
 let t6<-(do
   let y<-rV p s.Write ag;if (decide (y>=0)) then
    let y1<-jI s.Value;let y2<-wN y1 (fun x0=>sO x0 p ag);pure (!y2)
   else
    pure false
     : Option Bool)
 pure (id t6)
theorem zDG:∀ p s ag r,mH p s ag=some r->∀ {I:Imm}{p1 c p2 c1 p3 c2 p4 c3 p5 c4 p6 c5 p7 c6},(S4 I p1 p.Arrays c)->(S4 I p2 p.Parts c1)->(S4 I p3 s.Write.Subs c2)->(S4 I p4 s.Value.Index.Coefs c3)->(S4 I p5 s.Value.Read.Subs c4)->(S4 I p6 s.Value.Kids c5)->(S4 I p7 ag c6)->RT 63 [vA (cProg p p1 c p2 c1),vA (cStmt s p3 c2 p4 c3 p5 c4 p6 c5),vS p7 ag c6] I [] (zT  r):=by
 intro p s ag r N I p1 c p2 c1 p3 c2 p4 c3 p5 c4 p6 c5 p7 c6 h h1 h2 h3 h4 h5 h6;unfold mH at N;refine yI func63 fun B=>?_;have H:=iS I;refine yB<|vJ (cProg p p1 c p2 c1) ?_;intro b hb;refine xX 0 rfl ?_;intro I0 le hl0;have al:At I0 ⟨b,0,none⟩ (cProg p p1 c p2 c1):=At.of_blk hl0;have ⟨h,h1,h2,h3,h4,h5⟩:=m6 le h h1 h2 h3 h4 h5;have ⟨h6,H⟩:=m2 le h6 H;refine vJ (cStmt s p3 c2 p4 c3 p5 c4 p6 c5) ?_;intro b1 hb1;refine vJ [vS p7 ag c6] ?_;intro b2 hb2;refine xX 0 rfl ?_;intro aO aa hl01;have au:At aO ⟨b2,0,none⟩ [vS p7 ag c6]:=At.of_blk hl01;have ⟨h,h1,h2,h3,h4,h5⟩:=m6 aa h h1 h2 h3 h4 h5;have ⟨h6,al,H⟩:=m3 aa h6 al H;refine wR [] []<|zK<|yA ?_;refine wZ N [] (fun t6=>[(6,.bool t6)]) (fun o0 az=>?_) ?_
 · have H:=iS aO;refine zM<|xH 0 al (cProg p p1 c p2 c1) (vA (cProg p p1 c p2 c1)) rfl<|tL 3 [0] [(9,vA (cAccess s.Write p3 c2))]<|xH 0 au [vS p7 ag c6] (vS p7 ag c6) rfl ?_;obtain ⟨y,hy,N⟩:=zB az;refine dP (gU p s.Write ag _ hy h h1 h2 h6) ?_;intro bx aA;have ⟨h,h1,al,h6,au,h3⟩:=m6 aA h h1 al h6 au h3;have ⟨h4,h5,H⟩:=m3 aA h4 h5 H;refine yE 7 [] [13] rfl<|wL [13] N ?_ ?_
   · intro hc N;refine tL 9 [0] [(15,vA (cExpr s.Value p4 c3 p5 c4 p6 c5))]<|bE N fun y1 ay N=>xE (zCW s.Value _ ay h3 h4 h5) ?_;rintro bD aw v2 k2 aK - ⟨p8,c7,cs,rfl,rfl,h8⟩ -;have ⟨h,h1,al,h6,au,H⟩:=m6 aK h h1 al h6 au H;refine yE 11 [] [17] rfl<|xX 0 rfl ?_;intro bI aX hl02;have h9:=SL.of_frozen hl02 aX h8;have ⟨h,h1,al,h6,au,H⟩:=m6 aX h h1 al h6 au H;have hf0:FV1 Tryz.prog bI [] (.func (.func 105) ⟨[]⟩ ⟨[vP b 0,vP b2 0]⟩) (fun x0=>sO x0 p ag):=by
       refine FV1.intro ?_;intro I1 aa x0 r u0 hF k0;obtain ⟨_,rfl,k0⟩:=k0;obtain ⟨p9,c8,rfl,h10⟩:=uK k0;exact (zCX x0 p ag r hF h10 (h.mono aa) (h1.mono aa) (al.mono aa) (h6.mono aa) (au.mono aa)).mono (by rintro k i hs u ⟨v0,rfl,rfl,h⟩; exact ⟨rfl,h⟩)
     obtain ⟨y2,aG,N⟩:=zB N;refine xE (fJ y1 (fun x0=>sO x0 p ag) _ aG h9 hf0) ?_;rintro I06 aw v2 k2 bf - ⟨v02,rfl,rfl,rfl⟩ -;have H:=H.trans bf;exact yK [] [6] rfl<|wF zP<|yU<|zU (ct N H)
   intro hc N;exact wR [] [(6,vF)]<|wF zP<|yU<|zU (ct N H)
 intro t6 aV bt aT;refine zK<|xA ?_;obtain rfl:=zD aT;exact vV
def oR (r:(List zN)×Bool):KT:=fun kk I' af v=>
  ∃ v0 v1,af=[]/\v=tupV [v0,v1]/\SL I' v0 r.1/\v1=.bool r.2
def uF (p:zC) (t26:Int) (x:zI) (x1:(List Int)) (bw:List zN) (t64:Int):Option (Out (List zN) ((List zN)×Bool)):=do
 if (decide (t64<(x.Body.length:Int))) then
  let x2<-idx x.Body t64;let y7<-mH p x2 x1;if (!y7) then pure (.ret (([]:List zN),false))
  else
   let y8<-uD x1;let out6<-app 40 bw ([(zN.mk t26 t64 y8)]:List zN);uF p t26 x x1 out6 (W (t64+1))
 else pure (.done bw)
 partial_fixpoint
theorem zBK (p:zC) (t26:Int) (x:zI) (x1:(List Int)):∀ (bw:List zN) (t64:Int) (o:Out (List zN) ((List zN)×Bool)),uF p t26 x x1 bw t64=some o->∀ {B}{I0 I:Imm}{Q}{y2:(List (List Int))}{t54:Int}{p1 c p2 c1}{b}{p5 c4 p6 c5}{b1}{p7 c6 p14 bj p15 c14 bo},I0.le I->(S4 I p5 x.Nest c4)->(S4 I p6 x.Body c5)->(At I ⟨b1,0,none⟩ (cPart x p5 c4 p6 c5))->(S4 I p14 x1 bj)->(S4 I p2 p.Parts c1)->(S4 I p7 y2 c6)->(S4 I p1 p.Arrays c)->(RL I bo bw)->NG Q->NO Q->(∀ I' out5 p16 c15 bv,o=(.done out5)->I0.le I'->(RL I' bv out5)->T 89 B Q (.exit 4) I' [hO zN (vS p16 out5 c15) bv,hB b (cProg p p1 c p2 c1)] [(1,vP b 0),(4,vS p16 out5 c15),(5,vI t26),(6,vP b1 0),(24,vS p2 p.Parts c1),(25,vI (p.Parts.length:Int)),(26,vI t26),(52,vS p7 y2 c6),(53,vI (y2.length:Int)),(54,vI t54)])->(∀ r I' af m',o=(.ret r)->I0.le I'->RS Tryz.prog f25 B (oR  r) I' af m'->T 89 B Q .ret I' af m')->J Tryz.prog 89 B (nav (bodyOf f25) [1,1,1,0,1,0,0,1,1,0,0,1,1,1,1,0,0,1,1,0,0,1,1,1,0]) Q I [hO zN (vS p15 bw c14) bo,hB b (cProg p p1 c p2 c1)] [(1,vP b 0),(4,vS p15 bw c14),(5,vI t26),(6,vP b1 0),(10,vS p14 x1 bj),(24,vS p2 p.Parts c1),(25,vI (p.Parts.length:Int)),(26,vI t26),(52,vS p7 y2 c6),(53,vI (y2.length:Int)),(54,vI t54),(62,vS p6 x.Body c5),(63,vI (x.Body.length:Int)),(64,vI t64)]:=by
 refine uF.partial_correctness p t26 x x1 _ fun aE ih bw t64 o N B I0 I Q y2 t54 p1 c p2 c1 b p5 c4 p6 c5 b1 p7 c6 p14 bj p15 c14 bo H h6 h7 au h18 h1 h8 h h20 hg ho hx hr=>yQ hg ho<|yH [65] rfl<|zZ<|yG N ?_ ?_
 · intro hc8 N;refine zS<|zZ<|yF<|yB<|yE 1 [] [66] rfl<|bE N fun x2 hy7 N=>xR rfl rfl h7 hy7 ?_;intro ad2 bK hat3 bq;obtain ⟨p17,c16,p18,c17,p19,c18,p20,c19,rfl,h22,h23,h24,h25⟩:=wV bq;refine xH 0 hat3 (cStmt x2 p17 c16 p18 c17 p19 c18 p20 c19) (vA (cStmt x2 p17 c16 p18 c17 p19 c18 p20 c19)) rfl<|xU [vT ([]),z0,vI 0,vI 0,z0,vI 0,vT ([]),z0,z0] ?_;intro b2 hb2;refine yE 5 [] [11] rfl<|yY 0 (cStmt x2 p17 c16 p18 c17 p19 c18 p20 c19) rfl<|zX rfl<|zZ<|yB<|tL 3 [2,0] [(69,vA (cProg p p1 c p2 c1)),(70,vA (cStmt x2 p17 c16 p18 c17 p19 c18 p20 c19)),(71,vS p14 x1 bj)]<|bE N fun y7 hy8 N=>tH (zDG p x2 x1 _ hy8 h h1 h22 h23 h24 h25 h18) ?_;intro I08 le8;have ⟨h20,h6,h7,au,h18,h1⟩:=m6 le8 h20 h6 h7 au h18 h1;have ⟨h8,h,H⟩:=m3 le8 h8 h H;refine yK [] [73] rfl<|zK<|yG N ?_ ?_
   · intro hc9 N;exact yH [2,3] rfl<|xF<|zJ<|zV<|zJ<|zJ<|hr _ _ _ _ (zD N).symm H ⟨_,_,(resU rfl rfl),zP,⟨_,_,rfl,rfl,(SL.nil _),rfl⟩⟩
   intro hc9 N;refine zS<|zK<|zM<|yE 4 [] [74,75,76,77] rfl<|bE N fun y8 hy9 N=>xE (oN x1 _ hy9 h18) ?_;rintro I09 aw v2 k2 le9 - ⟨p21,c20,cs6,rfl,rfl,h27⟩ -;have ⟨h6,h7,au,h18,h1,h8⟩:=m6 le9 h6 h7 au h18 h1 h8;have ⟨h20,h,H⟩:=m3 le9 h20 h H;refine yE 6 [] [79] rfl<|xX 0 rfl ?_;intro bL le10 hl01;have h28:=SL.of_frozen hl01 le10 h27;have ⟨h6,h7,au,h18,h1,h8⟩:=m6 le10 h6 h7 au h18 h1 h8;have ⟨h20,h,H⟩:=m3 le10 h20 h H;refine uV [vI t26,vI t64,vS p21 y8 c20] zN ?_;intro b3 hb3;have h29:RL bL [vI t26,vI t64,vS p21 y8 c20] ([(zN.mk t26 t64 y8)]:List zN):=⟨[vI t26,vI t64,vS p21 y8 c20],_,rfl,rfl,(zB4 ⟨_,rfl,h28⟩),rfl⟩;obtain ⟨out6,hy10,N⟩:=zB N;exact rF 64 3 2 rfl rfl rfl h20 (.inr ⟨0,rfl⟩) h29 hy10 fun p22 c21 cs7 h30=>tX (zY [1,2,3] (af:=[hB b2 (cStmt x2 p17 c16 p18 c17 p19 c18 p20 c19),hO zN (vS p22 out6 c21) cs7,hB b (cProg p p1 c p2 c1)]))<|yK [] [4] rfl<|zO<|zK<|zM<|yK [] [64] rfl<|yP<|pU (zW [1,2] rfl (by decide))<|oT<|ih out6 (W (t64+1)) _ N H h6 h7 au h18 h1 h8 h h30 hg ho hx hr
 intro hc8 N;exact wP<|yU<|hx _ _ _ _ _ (zD N).symm H h20
def uG (p:zC) (t26:Int) (x:zI) (y2:(List (List Int))) (ap:List zN) (t54:Int):Option (Out (List zN) ((List zN)×Bool)):=do
 if (decide (t54<(y2.length:Int))) then
  let x1<-idx y2 t54;let y6<-zAC x1;if (!y6) then pure (.ret (([]:List zN),false))
  else
   match<-uF p t26 x x1 ap 0 with
   | .ret r0=>pure (.ret r0)
   | .done out5 =>
    uG p t26 x y2 out5 (W (t54+1))
 else pure (.done ap)
 partial_fixpoint
theorem zBL (p:zC) (t26:Int) (x:zI) (y2:(List (List Int))):∀ (ap:List zN) (t54:Int) (o:Out (List zN) ((List zN)×Bool)),uG p t26 x y2 ap t54=some o->∀ {B}{I0 I:Imm}{Q p1 c p2 c1}{b}{p5 c4 p6 c5}{b1}{p7 c6 br aW aP},I0.le I->(S4 I p5 x.Nest c4)->(S4 I p6 x.Body c5)->(At I ⟨b1,0,none⟩ (cPart x p5 c4 p6 c5))->(S4 I p2 p.Parts c1)->(S4 I p7 y2 c6)->(S4 I p1 p.Arrays c)->(RL I aP ap)->NG Q->NO Q->(∀ I' bb bh bd aI,o=(.done bb)->I0.le I'->(RL I' aI bb)->T 89 B Q (.exit 2) I' [hO zN (vS bh bb bd) aI,hB b (cProg p p1 c p2 c1)] [(1,vP b 0),(4,vS bh bb bd),(24,vS p2 p.Parts c1),(25,vI (p.Parts.length:Int)),(26,vI t26)])->(∀ r I' af m',o=(.ret r)->I0.le I'->RS Tryz.prog f25 B (oR  r) I' af m'->T 89 B Q .ret I' af m')->J Tryz.prog 89 B (nav (bodyOf f25) [1,1,1,0,1,0,0,1,1,0,0,1,1,1,1,0]) Q I [hO zN (vS br ap aW) aP,hB b (cProg p p1 c p2 c1)] [(1,vP b 0),(4,vS br ap aW),(5,vI t26),(6,vP b1 0),(24,vS p2 p.Parts c1),(25,vI (p.Parts.length:Int)),(26,vI t26),(52,vS p7 y2 c6),(53,vI (y2.length:Int)),(54,vI t54)]:=by
 refine uG.partial_correctness p t26 x y2 _ fun aE ih ap t54 o N B I0 I Q p1 c p2 c1 b p5 c4 p6 c5 b1 p7 c6 br aW aP H h6 h7 au h1 h8 h h16 hg ho hx hr=>yQ hg ho<|yH [55] rfl<|zZ<|yG N ?_ ?_
 · intro hc6 N;refine zS<|zZ<|yF<|yB<|bE N fun x1 bz N=>xR rfl rfl h8 bz ?_;intro ad1 bm bk ax;obtain ⟨v011,rfl,h18⟩:=ax;obtain ⟨p14,bj,rfl⟩:=h18.form;refine xH 0 bk [vS p14 x1 bj] (vS p14 x1 bj) rfl<|yK [] [10] rfl<|zZ<|yB<|yE 1 [] [58] rfl<|bE N fun y6 hy6 N=>tH (zHk x1 _ hy6 h18) ?_;intro I07 le7;have ⟨h16,h6,h7,au,h18,h1⟩:=m6 le7 h16 h6 h7 au h18 h1;have ⟨h8,h,H⟩:=m3 le7 h8 h H;refine yK [] [60] rfl<|zK<|yG N ?_ ?_
   · intro hc7 N;exact yH [2,3] rfl<|xF<|zJ<|zV<|zJ<|zJ<|hr _ _ _ _ (zD N).symm H ⟨_,_,(resU rfl rfl),zP,⟨_,_,rfl,rfl,(SL.nil _),rfl⟩⟩
   intro hc7 N;refine zS<|yW<|yE 1 [] [61] rfl<|xH 1 au [vS p6 x.Body c5] (vS p6 x.Body c5) rfl<|yK [] [63,64] rfl<|wI<|qR [(1,vP b 0),(4,vS br ap aW),(5,vI t26),(6,vP b1 0),(10,vS p14 x1 bj),(24,vS p2 p.Parts c1),(25,vI (p.Parts.length:Int)),(26,vI t26),(52,vS p7 y2 c6),(53,vI (y2.length:Int)),(54,vI t54),(62,vS p6 x.Body c5),(63,vI (x.Body.length:Int)),(64,vI 0)] ?_;obtain ⟨o02,ho02,aF⟩:=zB N;refine zBK p t26 x x1 ap 0 o02 ho02 iR h6 h7 au h18 h1 h8 h h16 (fun _ _ _ h=>hg _ _ _ h) (fun _ _ h=>ho _ _ h) ?_ ?_
   · intro bR out5 p16 c15 bv heq2 le11 h21;subst o02;have ⟨h6,h7,au,h1,h8,h⟩:=m6 le11 h6 h7 au h1 h8 h;have H:=H.trans le11;exact zR<|zO<|zK<|zM<|yK [] [54] rfl<|yP<|oT<|ih out5 (W (t54+1)) _ aF H h6 h7 au h1 h8 h h21 hg ho hx hr
   intro r0 I9 hs9 m9 aS le9 aU;subst aS;exact zV<|zV<|zJ<|zJ<|hr _ _ _ _ (zD aF).symm (H.trans le9) aU
 intro hc6 N;exact wP<|yU<|hx _ _ _ _ _ (zD N).symm H h16
def uH (p:zC) (out:List zN) (t26:Int):Option (Out (List zN) ((List zN)×Bool)):=do
 if (decide (t26<(p.Parts.length:Int))) then
  let x<-idx p.Parts t26;let (y2,y3)<-gS x.Nest;let t51<-(do
    if (!y3) then pure true
    else
     let y4<-vG (x.Body.length:Int) 1 4;if (!y4) then pure true
     else
      let y5<-wU x.Body (fun x0=>uN x0 x);pure (id y5)
      : Option Bool)
  if t51 then pure (.ret (([]:List zN),false))
  else
   match<-uG p t26 x y2 out 0 with
   | .ret r0=>pure (.ret r0)
   | .done bb =>
    uH p bb (W (t26+1))
 else pure (.done out)
 partial_fixpoint
theorem zBM (p:zC):∀ (out:List zN) (t26:Int) (o:Out (List zN) ((List zN)×Bool)),uH p out t26=some o->∀ {B}{I0 I:Imm}{Q p1 c p2 c1}{b}{p3 c2 cs},I0.le I->(S4 I p2 p.Parts c1)->(S4 I p1 p.Arrays c)->(RL I cs out)->NG Q->NO Q->(∀ I' ah p4 c3 av,o=(.done ah)->I0.le I'->(RL I' av ah)->T 89 B Q (.exit 0) I' [hO zN (vS p4 ah c3) av] [(4,vS p4 ah c3)])->(∀ r I' af m',o=(.ret r)->I0.le I'->RS Tryz.prog f25 B (oR  r) I' af m'->T 89 B Q .ret I' af m')->J Tryz.prog 89 B (nav (bodyOf f25) [1,1,1,0,1,0]) Q I [hO zN (vS p3 out c2) cs,hB b (cProg p p1 c p2 c1)] [(1,vP b 0),(4,vS p3 out c2),(24,vS p2 p.Parts c1),(25,vI (p.Parts.length:Int)),(26,vI t26)]:=by
 refine uH.partial_correctness p _ fun aE ih out t26 o N B I0 I Q p1 c p2 c1 b p3 c2 cs H h1 h h4 hg ho hx hr=>yQ hg ho<|yH [27] rfl<|zZ<|yG N ?_ ?_
 · intro aY N;refine zS<|zZ<|yF<|yB<|yE 1 [] [28] rfl<|bE N fun x ay N=>xR rfl rfl h1 ay ?_;intro ad aL al aj;obtain ⟨p5,c4,p6,c5,rfl,h6,h7⟩:=wJ aj;refine xH 0 al (cPart x p5 c4 p6 c5) (vA (cPart x p5 c4 p6 c5)) rfl<|xU zTwo ?_;intro b1 hb1;refine yE 5 [] [5] rfl<|yY 0 (cPart x p5 c4 p6 c5) rfl<|zX rfl<|yW<|yE 2 [0] [33] rfl ?_;obtain ⟨⟨y2,y3⟩,aG,N⟩:=zB N;refine xE (zFS x.Nest _ aG h6) ?_;rintro aV aw v2 k2 aA - ⟨v03,v04,rfl,rfl,h8,rfl⟩ -;have ⟨h4,h1,h6,h7,h,H⟩:=m6 aA h4 h1 h6 h7 h H;obtain ⟨p7,c6,rfl⟩:=h8.form;refine yK [] [7,8] rfl<|zZ<|yA<|pD 0 rfl ?_;intro bx aK hl0;have au:At bx ⟨b1,0,none⟩ (cPart x p5 c4 p6 c5):=At.of_blk hl0;have ⟨h4,h6,h7,h8,h1,h⟩:=m6 aK h4 h6 h7 h8 h1 h;have H:=H.trans aK;refine wZ N [hO zN (vS p3 out c2) cs,hB b (cProg p p1 c p2 c1)] (fun t51=>[(1,vP b 0),(4,vS p3 out c2),(5,vI t26),(6,vP b1 0),(7,vS p7 y2 c6),(24,vS p2 p.Parts c1),(25,vI (p.Parts.length:Int)),(26,vI t26),(51,.bool t51)]) (fun aN aC=>?_) ?_
   · have H:=iS bx;refine zM<|yE 3 [] [39] rfl<|wL [39] aC ?_ ?_
     · intro bC N;exact wR [] [(51,vY)]<|yU<|zU (ct N H)
     intro bC N;refine yE 4 [] [40] rfl<|xH 1 au [vS p6 x.Body c5] (vS p6 x.Body c5) rfl<|yE 6 [] [42] rfl<|bE N fun y4 bc N=>tH (uA (x.Body.length:Int) 1 4 _ bc ) ?_;intro bI aX;have ⟨h6,h7,au,h,H⟩:=m5 aX h6 h7 au h H;refine yE 10 [] [46] rfl<|wL [46] N ?_ ?_
     · intro bJ N;exact wR [] [(51,vY)]<|yU<|zU (ct N H)
     intro bJ N;refine yE 11 [] [47] rfl<|xH 1 au [vS p6 x.Body c5] (vS p6 x.Body c5) rfl<|yE 13 [] [49] rfl ?_;have hf0:FV1 Tryz.prog bI [] (.func (.func 60) ⟨[]⟩ ⟨[vP b1 0]⟩) (fun x0=>uN x0 x):=by
       refine FV1.intro ?_;intro I1 aa x0 r u0 hF k0;obtain ⟨_,rfl,k0⟩:=k0;obtain ⟨p8,c7,p9,c8,aQ,c9,aJ,aM,rfl,h11,h12,h13,h14⟩:=wV k0;exact (zBW x0 x r hF h11 h12 h13 h14 (h6.mono aa) (h7.mono aa) (au.mono aa)).mono (by rintro k i hs u ⟨v0,rfl,rfl,h⟩; exact ⟨rfl,h⟩)
     obtain ⟨y5,bu,N⟩:=zB N;refine xE (eQ x.Body (fun x0=>uN x0 x) _ bu h7 hf0) ?_;rintro I06 aw v2 k2 bf - ⟨v010,rfl,rfl,rfl⟩ -;have H:=H.trans bf;exact yK [] [51] rfl<|yU<|zU (ct N H)
   intro t51 bD bt hMc1;have ⟨h4,h6,h7,au,h8,h1⟩:=m6 bt h4 h6 h7 au h8 h1;have ⟨h,H⟩:=m2 bt h H;refine zK<|yG hMc1 ?_ ?_
   · intro hc5 N;exact yH [2,3] rfl<|xF<|zJ<|zV<|zJ<|zJ<|hr _ _ _ _ (zD N).symm H ⟨_,_,(resU rfl rfl),zP,⟨_,_,rfl,rfl,(SL.nil _),rfl⟩⟩
   intro hc5 N;refine zS<|vW [52,53,54] rfl<|wI<|qR [(1,vP b 0),(4,vS p3 out c2),(5,vI t26),(6,vP b1 0),(24,vS p2 p.Parts c1),(25,vI (p.Parts.length:Int)),(26,vI t26),(52,vS p7 y2 c6),(53,vI (y2.length:Int)),(54,vI 0)] ?_;obtain ⟨o03,ho03,hMl1⟩:=zB N;refine zBL p t26 x y2 out 0 o03 ho03 iR h6 h7 au h1 h8 h h4 (fun _ _ _ h=>hg _ _ _ h) (fun _ _ h=>ho _ _ h) ?_ ?_
   · intro bO bb bh bd aI heq3 le12 h17;subst o03;have ⟨h1,h,H⟩:=m3 le12 h1 h H;exact zR<|zO<|zK<|zM<|yK [] [26] rfl<|yP<|oT<|ih bb (W (t26+1)) _ hMl1 H h1 h h17 hg ho hx hr
   intro r0 I9 hs9 m9 aS le9 aU;subst aS;exact zV<|zV<|zJ<|zJ<|hr _ _ _ _ (zD hMl1).symm (H.trans le9) aU
 intro aY N;exact wP<|wF (zW [0] rfl (by decide))<|yU<|hx _ _ _ _ _ (zD N).symm H h4
def tQ (p:zC):Option ((List zN)×Bool):=do
 let t22<-(do
   let y<-eW p.Arrays;if (!y) then pure true
   else
    pure (decide ((p.Parts.length:Int)>4))
     : Option Bool)
 if t22 then pure (([]:List zN),false)
 else
  match<-uH p ([]:List zN) 0 with
  | .ret r0=>pure r0
  | .done ah =>
   pure (ah,(decide ((ah.length:Int)<=120)))
theorem gG:∀ p r,tQ p=some r->∀ {I:Imm}{p1 c p2 c1},(S4 I p1 p.Arrays c)->(S4 I p2 p.Parts c1)->RT 25 [vA (cProg p p1 c p2 c1)] I [] (oR  r):=by
 intro p r N I p1 c p2 c1 h h1;unfold tQ at N;refine yI func25 fun B=>?_;have H:=iS I;refine yB<|vJ (cProg p p1 c p2 c1) ?_;intro b hb;refine wR [] []<|zZ<|yA ?_;refine wZ N [hB b (cProg p p1 c p2 c1)] (fun t22=>[(1,vP b 0),(22,.bool t22)]) (fun o0 az=>?_) ?_
 · have H:=iS I;refine zM<|yE 2 [0] [14] rfl ?_;obtain ⟨y,hy,N⟩:=zB az;refine tH (zHG p.Arrays _ hy h) ?_;intro aO le;have H:=H.trans le;refine yE 5 [] [17] rfl<|wL [17] N ?_ ?_
   · intro hc N;exact wR [] [(22,vY)]<|yU<|zU (ct N H)
   intro hc N;exact yK [0] [22] rfl<|yU<|zU (ct N H)
 intro t22 I0 aa aT;have ⟨h,h1⟩:=m2 aa h h1;refine zK<|yG aT ?_ ?_
 · intro aH N;refine yH [2,3] rfl<|xF<|zJ ?_;exact xO N (resU rfl rfl) zP ⟨_,_,rfl,rfl,(SL.nil _),rfl⟩
 intro aH N;refine zS<|zD7 [(4,z0)]<|zZ<|yB<|yK [0] [24,25,26] rfl<|wI<|qR [(1,vP b 0),(4,z0),(24,vS p2 p.Parts c1),(25,vI (p.Parts.length:Int)),(26,vI 0)]<|zA6 zN fun h3=>?_;obtain ⟨o04,ho04,hMl2⟩:=zB N;refine zBM p ([]:List zN) 0 o04 ho04 iR h1 h h3 nG nO ?_ ?_
 · intro I013 ah p4 c3 av heq4 le13 h5;subst o04;refine zR<|vW [2,3] rfl<|xF<|xB 0 rfl ?_;intro I014 le14 hl02;have h31:=SL.of_frozen hl02 le14 h5;exact xO hMl2 (resU rfl rfl) zP ⟨_,_,rfl,rfl,h31,rfl⟩
 intro r0 I9 hs9 m9 aS le9 aU;subst aS;refine zV<|zJ ?_;obtain rfl:=zD hMl2;exact fO aU
def oU (aB:List HA) (r:Int):KT:=fun kk I' af v=>
  ∃ v0,aB=af/\v=tupV [v0]/\v0=.int .i64 r
def xQ (s:(List zE)) (f0:(zE->Option Bool)) (t8:Int):Option (Out Unit (Int)):=do
 if (decide (t8<(s.length:Int))) then
  let x<-idx s t8;let y<-f0 x;if y then pure (.ret t8)
  else xQ s f0 (W (t8+1))
 else pure (.done ())
 partial_fixpoint
theorem eC (s:(List zE)) (f0:(zE->Option Bool)):∀ (t8:Int) (o:Out Unit (Int)),xQ s f0 t8=some o->∀ {B}{I0 I:Imm}{Q p c}{fv:Value}{aB:List HA},I0.le I->(S4 I p s c)->(FV1 Tryz.prog I aB fv f0)->NG Q->NO Q->(∀ I',o=(.done ())->I0.le I'->T 19 B Q (.exit 0) I' aB [])->(∀ r I' af m',o=(.ret r)->I0.le I'->RS Tryz.prog f26 B (oU aB r) I' af m'->T 19 B Q .ret I' af m')->J Tryz.prog 19 B (nav (bodyOf f26) [1,0,1,0]) Q I aB [(0,vS p s c),(1,fv),(7,vI (s.length:Int)),(8,vI t8)]:=by
 refine xQ.partial_correctness s f0 _ fun aE ih t8 o N B I0 I Q p c fv aB H h h1 hg ho hx hr=>yQ hg ho<|yH [9] rfl<|zZ<|yG N ?_ ?_
 · intro hc N;refine zS<|zZ<|yF<|yH [5] rfl<|yW<|yE 3 [] [11,12,13] rfl<|bE N fun x hy N=>xR rfl rfl h hy ?_;intro ad aL al aj;obtain ⟨p1,c1,rfl,h2⟩:=xP aj;refine xH 0 al (cArr x p1 c1) (vA (cArr x p1 c1)) rfl<|bE N fun y ay N=>zJq rfl rfl h1 ay ⟨_,rfl,(uI ⟨_,rfl,h2⟩)⟩ (cu _).symm ?_;rintro I0 v01 le rfl;refine wX (af:=aB) (cu _) ?_;have ⟨h,h1,H⟩:=m3 le h h1 H;refine zX rfl<|zK<|yG N ?_ ?_
   · intro aH N;exact yH [4] rfl<|xF<|zV<|zJ<|zJ<|hr _ _ _ _ (zD N).symm H ⟨_,_,(resT rfl),(fun _ h=>h),⟨_,rfl,rfl,rfl⟩⟩
   intro aH N;exact zS<|zO<|zK<|zM<|yK [] [8] rfl<|yP<|oT<|ih (W (t8+1)) _ N H h h1 hg ho hx hr
 intro hc N;exact wP<|yU<|hx _  (zD N).symm H
def wW (s:(List zE)) (f0:(zE->Option Bool)):Option (Int):=do
 match<-xQ s f0 0 with
 | .ret r0=>pure r0
 | .done _ =>
  pure (-1)
theorem eX:∀ s f0 r,wW s f0=some r->∀ {I:Imm}{p c}{fv:Value}{aB:List HA},(S4 I p s c)->(FV1 Tryz.prog I aB fv f0)->RT 26 [vS p s c,fv] I aB (oU aB r):=by
 intro s f0 r N I p c fv aB h h1;unfold wW at N;refine yI func26 fun B=>wT []<|zZ<|yH [7,8] rfl<|wI<|qR [(0,vS p s c),(1,fv),(7,vI (s.length:Int)),(8,vI 0)] ?_;obtain ⟨o0,az,aF⟩:=zB N;refine eC s f0 0 o0 az iR h h1 nG nO ?_ ?_
 · intro aO  heq aa;subst o0;refine zR<|vW [4] rfl<|zK<|xA ?_;exact xO aF (resT rfl) (fun _ h=>h) ⟨_,rfl,rfl,rfl⟩
 intro r0 I9 hs9 m9 aS le9 aU;subst aS;refine zV<|zJ ?_;obtain rfl:=zD aF;exact fO aU
def sW (a0:zE) (x:Str):Option (Bool):=do
 pure (a0.Name.l==x.l)
theorem zDe:∀ a0 x r,sW a0 x=some r->∀ {I:Imm}{p c}{ad:Addr},(S4 I p a0.Dims c)->(At I ad [vT x.l])->RT 27 [vA (cArr a0 p c),.pointer (some ad)] I [] (zT  r):=by
 intro a0 x r N I p c ad h al;unfold sW at N;refine yI func27 fun B=>yB<|vJ (cArr a0 p c) ?_;intro b hb;refine wR [] []<|yW<|yE 2 [0] [5] rfl<|xH 0 al [vT x.l] (vT x.l) rfl<|yK [] [3] rfl<|zK<|xA ?_;obtain rfl:=zD N;exact vV
def zBQ (r:zG):KT:=fun kk I' af v=>
  ∃ v0,af=[]/\v=tupV [v0]/\(∃ cs,v0=.agg ⟨cs⟩/\Rp.rep I' cs r)
def pL (a0:zG) (change:(zA->Option zA)) (t14:Int) (Subs:List zA):Option (List zA):=do
 if (decide (t14<(a0.Subs.length:Int))) then
  let x<-idx a0.Subs t14;let y<-change x;let l<-app 32 Subs ([y]:List zA);pL a0 change (W (t14+1)) l
 else pure (id Subs)
 partial_fixpoint
theorem zEJ (a0:zG) (change:(zA->Option zA)):∀ (t14:Int) (Subs:List zA) (o:List zA),pL a0 change t14 Subs=some o->∀ {B}{I0 I:Imm}{Q p c}{fv:Value}{b1 b2}{p1 c1 cs},I0.le I->(FV1 Tryz.prog I [] fv change)->(S4 I p a0.Subs c)->(RL I cs Subs)->NG Q->NO Q->(∀ I' Subs1 p2 c2 av,o=Subs1->I0.le I'->(RL I' av Subs1)->T 28 B Q (.exit 0) I' [hO zA (vS p2 Subs1 c2) av,hB b2 [vT a0.Array.l,vS p2 Subs1 c2],hB b1 [vT ([]),z0]] [(4,vP b1 0),(5,vP b2 0)])->J Tryz.prog 28 B (nav (bodyOf f157) [1,1,0,1,0]) Q I [hO zA (vS p1 Subs c1) cs,hB b2 [vT a0.Array.l,vS p1 Subs c1],hB b1 [vT ([]),z0]] [(1,fv),(4,vP b1 0),(5,vP b2 0),(12,vS p a0.Subs c),(13,vI (a0.Subs.length:Int)),(14,vI t14)]:=by
 refine pL.partial_correctness a0 change _ fun aE ih t14 Subs o N B I0 I Q p c fv b1 b2 p1 c1 cs H h1 h h3 hg ho hx=>yQ hg ho<|yH [15] rfl<|zZ<|yG N ?_ ?_
 · intro hc N;refine zS<|zZ<|yF<|yB<|bE N fun x hy N=>xR rfl rfl h hy ?_;intro ad aL al aj;obtain ⟨p3,c3,rfl,h5⟩:=yD aj;refine xH 0 al (cAff x p3 c3) (vA (cAff x p3 c3)) rfl<|xU [z0,vI 0] ?_;intro b3 hb3;refine yY 0 (cAff x p3 c3) rfl<|zX rfl<|zK ?_;obtain ⟨y,ay,N⟩:=zB N;obtain ⟨l,aG,N⟩:=zB N;refine wO [.p (vP b2 1) [],.p (vS p1 Subs c1) [1],.p fv [],.p (vA (cAff x p3 c3)) [0],.x (eVAff y),.x (fun I' v hx=>∃ b4,v=vS (some ⟨b4,0,none⟩) ([y]:List zA) 1/\hx=[]/\(SL I' (vS (some ⟨b4,0,none⟩) ([y]:List zA) 1) ([y]:List zA))),.x (fun I' v hx=>∃ p5 c5 aI,v=vS p5 l c5/\hx=[hO zA (vS p5 l c5) aI]/\(RL I' aI l))] [[],[(0,false)],[],[],[(2,false),(3,false)],[(4,false)],[(1,false),(5,false),(9,true)]] [hB b3 (cAff x p3 c3),hB b2 [vT a0.Array.l,vS p1 Subs c1],hB b1 [vT ([]),z0]] [[hO zA (vS p1 Subs c1) cs]] [(6,true)] (zY [0,2,3,1]) ?_ ?_
   · refine O4<|Ox ?_<|Ox ?_<|Ox ?_<|On
     · intro I1 hf aa;refine yX [20,21] rfl ?_;have H:=iS I1;have ⟨h1,h5⟩:=m2 aa h1 h5;refine zPY rfl rfl h1 ay ⟨_,rfl,(yJ ⟨_,rfl,h5⟩)⟩  ?_;rintro I0 v01 le ⟨aP,rfl,h6⟩;have H:=H.trans le;obtain ⟨p4,c4,rfl,h7⟩:=yD h6;exact yL [] H ⟨_,_,rfl,rfl,h7⟩
     · rintro I1 hf aa _ _ ⟨p4,c4,rfl,rfl,h7⟩;refine yX [22] rfl ?_;have H:=iS I1;refine mG (rc y (yJ ⟨_,rfl,h7⟩) rN) ?_;intro b4 aO aa h9;have H:=H.trans aa;exact yL [] H ⟨_,rfl,rfl,h9⟩
     rintro I1 hf aa _ _ ⟨rfl,rfl⟩ _ _ ⟨b4,rfl,rfl,h9⟩ _ _ rfl;refine yX [19,23] rfl ?_;have h3:=iM aa h3;obtain ⟨bm,k0,k01⟩:=h9;have h9:SL I1 (vS (some ⟨b4,0,none⟩) ([y]:List zA) 1) ([y]:List zA):=⟨_,k0,k01⟩;exact rF 69 2 0 rfl rfl rfl h3 (.inl k0) k01 aG fun p5 c5 aI h10=>wX (af:=(hO zA (vS p5 l c5) aI::hB b3 (cAff x p3 c3)::hB b2 [vT a0.Array.l,vS p1 Subs c1]::hB b1 [vT ([]),z0]::hf)) rfl<|yL [hO zA (vS p5 l c5) aI] iR ⟨_,_,_,rfl,rfl,h10⟩
   rintro aV aA _ _ ⟨p5,c5,aI,rfl,rfl,h10⟩;refine yX [1,4,5,12,13,14,24] rfl ?_;have ⟨h1,h,H⟩:=m3 aA h1 h H;exact yE 8 [] [25] rfl<|yY 2 [vT a0.Array.l,vS p5 l c5] rfl<|zX rfl<|zO<|zK<|zM<|yK [] [14] rfl<|yP<|pU (zW [0,2,3] rfl (by decide))<|oT<|ih (W (t14+1)) l _ N H h1 h h10 hg ho hx
 intro hc N;exact wP<|yU<|hx _ _ _ _ _ (zD N).symm H h3
def jS (a0:zG) (change:(zA->Option zA)):Option (zG):=do
 let Subs1<-pL a0 change 0 ([]:List zA);pure (zG.mk a0.Array Subs1)
theorem zCK:∀ a0 change r,jS a0 change=some r->∀ {I:Imm}{p c}{fv:Value},(S4 I p a0.Subs c)->(FV1 Tryz.prog I [] fv change)->RT 157 [vA (cAccess a0 p c),fv] I [] (zBQ  r):=by
 intro a0 change r N I p c fv h h1;unfold jS at N;refine yI func157 fun B=>yB<|vJ (cAccess a0 p c) ?_;intro b hb;refine xU [vT ([]),z0] ?_;intro b1 hb1;refine zX rfl<|yW<|tL 3 [1] [(10,vA [vT a0.Array.l,z0])]<|xU [vT ([]),z0] ?_;intro b2 hb2;refine yY 0 [vT a0.Array.l,z0] rfl<|zX rfl<|zZ<|yB<|yK [2] [12,13,14] rfl<|wI<|pU (zY [0,1] (af:=[hB b2 [vT a0.Array.l,z0],hB b1 [vT ([]),z0]]))<|qR [(1,fv),(4,vP b1 0),(5,vP b2 0),(12,vS p a0.Subs c),(13,vI (a0.Subs.length:Int)),(14,vI 0)]<|zA6 zA fun h2=>?_;obtain ⟨o0,az,aF⟩:=zB N;refine zEJ a0 change 0 ([]:List zA) o0 az iR h1 h h2 nG nO ?_;intro bx Subs1 p2 c2 av heq aK h4;subst o0;refine zR<|yW<|tL 1 [1] [(27,vA [vT a0.Array.l,vS p2 Subs1 c2])]<|yY 2 [vT a0.Array.l,vS p2 Subs1 c2] rfl<|zX rfl<|xF<|xB 0 rfl ?_;intro bD aX hl01;have h11:=SL.of_frozen hl01 aX h4;exact xO aF (resC 1 rfl rfl) zP ⟨_,rfl,rfl,⟨_,rfl,(rK ⟨_,rfl,h11⟩)⟩⟩
def dJ (r:zH):KT:=fun kk I' af v=>
  ∃ v0,af=[]/\v=tupV [v0]/\(∃ cs,v0=.agg ⟨cs⟩/\Rp.rep I' cs r)
mutual
def jW (e0:zH) (change:(zA->Option zA)):Option (zH):=do
 let (IndexCoefs,IndexConst,ReadArray,ReadSubs)<-(do
   if (e0.Kind==2) then
    let y<-change e0.Index;pure (y.Coefs,y.Const,(⟨[]⟩:Str),([]:List zA))
   else
    let (ReadArray1,ReadSubs1)<-(do
      if (e0.Kind==3) then
       let y1<-jS e0.Read change;pure (y1.Array,y1.Subs)
      else
       pure ((⟨[]⟩:Str),([]:List zA))
        : Option (Str×List zA))
    pure (([]:List Int),0,ReadArray1,ReadSubs1)
     : Option (List Int×Int×Str×List zA))
 let Kids1<-pR (same e0) (same change) (same 0) ([]:List zH);pure (zH.mk e0.Kind e0.Num (zA.mk IndexCoefs IndexConst) (zG.mk ReadArray ReadSubs) Kids1)
 partial_fixpoint
def pR (e0:zH) (change:(zA->Option zA)) (t32:Int) (Kids:List zH):Option (List zH):=do
 if (decide (t32<(e0.Kids.length:Int))) then
  let x<-idx e0.Kids t32;let y2<-jW (same x) (same change);let l<-app 112 Kids ([y2]:List zH);pR (same e0) (same change) (W (t32+1)) (same l)
 else pure (id Kids)
 partial_fixpoint
end
theorem zHI:(∀ (e0:zH) (change:(zA->Option zA)) r,jW e0 change=some r->∀ {I:Imm}{p c p1 c1 p2 c2}{fv:Value},(S4 I p e0.Index.Coefs c)->(S4 I p1 e0.Read.Subs c1)->(S4 I p2 e0.Kids c2)->(FV1 Tryz.prog I [] fv change)->RT 158 [vA (cExpr e0 p c p1 c1 p2 c2),fv] I [] (dJ  r))/\(∀ (e0:zH) (change:(zA->Option zA)) (t32:Int) (Kids:List zH) o,pR e0 change t32 Kids=some o->∀ {B}{I0 I:Imm}{Q}{IndexCoefs:List Int}{IndexConst:Int}{ReadArray:Str}{ReadSubs:List zA}{p2 c2}{fv:Value}{b1 b2}{p3 c3 p4 c4 p8 c8 aP},I0.le I->(FV1 Tryz.prog I [] fv change)->(S4 I p2 e0.Kids c2)->(S4 I p3 IndexCoefs c3)->(S4 I p4 ReadSubs c4)->(RL I aP Kids)->NG Q->NO Q->(∀ I' Kids1 p9 c9 aI,o=Kids1->I0.le I'->(RL I' aI Kids1)->T 46 B Q (.exit 1) I' [hO zH (vS p9 Kids1 c9) aI,hB b2 [vI e0.Kind,vI e0.Num,vS p3 IndexCoefs c3,vI IndexConst,vT ReadArray.l,vS p4 ReadSubs c4,vS p9 Kids1 c9],hB b1 zExpr] [(4,vP b1 0),(5,vP b2 0)])->J Tryz.prog 46 B (nav (bodyOf f158) [1,1,1,0,1,0]) Q I [hO zH (vS p8 Kids c8) aP,hB b2 [vI e0.Kind,vI e0.Num,vS p3 IndexCoefs c3,vI IndexConst,vT ReadArray.l,vS p4 ReadSubs c4,vS p8 Kids c8],hB b1 zExpr] [(1,fv),(4,vP b1 0),(5,vP b2 0),(30,vS p2 e0.Kids c2),(31,vI (e0.Kids.length:Int)),(32,vI t32)]):=by
  refine jW.mutual_partial_correctness _ _ ?_ ?_
  · intro F_impl_exprMap_l1 ih_impl_exprMap_l1 e0 change r N I p c p1 c1 p2 c2 fv h h1 h2 h3;refine yI func158 fun B=>?_;have H:=iS I;refine yB<|vJ (cExpr e0 p c p1 c1 p2 c2) ?_;intro b hb;refine xU zExpr ?_;intro b1 hb1;refine zX rfl<|yW<|tL 5 [1,1] [(12,vA [vI e0.Kind,vI e0.Num,z0,vI 0,vT ([]),z0,z0])]<|xU zExpr ?_;intro b2 hb2;refine yY 0 [vI e0.Kind,vI e0.Num,z0,vI 0,vT ([]),z0,z0] rfl<|zX rfl<|zZ<|yB<|yK [2] [14] rfl<|wI<|yH [15] rfl<|zK ?_;obtain ⟨o0,az,aT⟩:=zB N;refine oW (fun I' af m'=>∃ (IndexCoefs:List Int) (IndexConst:Int) (ReadArray:Str) (ReadSubs:List zA) (p3:Option Addr) (c3:Nat) (p4:Option Addr) (c4:Nat),o0=(IndexCoefs,IndexConst,ReadArray,ReadSubs)/\I.le I'/\(S4 I' p3 IndexCoefs c3)/\(S4 I' p4 ReadSubs c4)/\af=[hB b2 [vI e0.Kind,vI e0.Num,vS p3 IndexCoefs c3,vI IndexConst,vT ReadArray.l,vS p4 ReadSubs c4,z0],hB b1 zExpr,hB b (cExpr e0 p c p1 c1 p2 c2)]/\m'=[(1,fv),(2,vP b 0),(4,vP b1 0),(5,vP b2 0)]) ?_ ?_
    · have H:=iS I;refine yG az ?_ ?_
      · intro hc N;refine zM<|tL 3 [2] [(17,fv),(19,vA (cAff e0.Index p c))]<|bE N fun y hy N=>zPY rfl rfl h3 hy ⟨_,rfl,(yJ ⟨_,rfl,h⟩)⟩  ?_;rintro aO v0 le ⟨cs,rfl,h6⟩;have H:=H.trans le;obtain ⟨p5,c5,rfl,h7⟩:=yD h6;exact yE 5 [] [21] rfl<|yY 0 [vI e0.Kind,vI e0.Num,vS p5 y.Coefs c5,vI y.Const,vT ([]),z0,z0] rfl<|zX rfl<|yU<|zU ⟨_,_,_,_,_,_,_,_,(zD N).symm,H,h7,(SL.nil _),rfl,rfl⟩
      intro hc N;refine yH [22] rfl<|zK ?_;obtain ⟨aN,aC,hMc1⟩:=zB N;refine oW (fun I' af m'=>∃ (ReadArray1:Str) (ReadSubs1:List zA) (p6:Option Addr) (c6:Nat),aN=(ReadArray1,ReadSubs1)/\I.le I'/\(S4 I' p6 ReadSubs1 c6)/\af=[hB b2 [vI e0.Kind,vI e0.Num,z0,vI 0,vT ReadArray1.l,vS p6 ReadSubs1 c6,z0],hB b1 zExpr,hB b (cExpr e0 p c p1 c1 p2 c2)]/\m'=[(1,fv),(2,vP b 0),(4,vP b1 0),(5,vP b2 0)]) ?_ ?_
      · have H:=iS I;refine yG aC ?_ ?_
        · intro aH N;refine zM<|tL 3 [2] [(25,vA (cAccess e0.Read p1 c1)),(26,fv)]<|bE N fun y1 ay N=>xE (zCK e0.Read change _ ay h1 h3) ?_;rintro bx aw v2 k2 aa - ⟨v02,rfl,rfl,⟨av,rfl,h9⟩⟩ -;have H:=H.trans aa;obtain ⟨p7,c7,rfl,h10⟩:=uK h9;exact yE 5 [] [28] rfl<|yY 0 [vI e0.Kind,vI e0.Num,z0,vI 0,vT y1.Array.l,vS p7 y1.Subs c7,z0] rfl<|zX rfl<|yU<|zU ⟨_,_,_,_,(zD N).symm,H,h10,rfl,rfl⟩
        intro aH N;exact zS<|yU<|zU ⟨_,_,_,_,(zD N).symm,H,(SL.nil _),rfl,rfl⟩
      rintro aV aw m2 ⟨ReadArray1,ReadSubs1,p6,c6,heq,aA,h8,rfl,rfl⟩;subst aN;have H:=H.trans aA;exact yU<|zU ⟨_,_,_,_,_,_,_,_,(zD hMc1).symm,H,(SL.nil _),h8,rfl,rfl⟩
    rintro I0 aw m2 ⟨IndexCoefs,IndexConst,ReadArray,ReadSubs,p3,c3,p4,c4,heq1,aK,h4,h5,rfl,rfl⟩;subst o0;have ⟨h3,h,h2⟩:=m3 aK h3 h h2;refine zO<|zZ<|yB<|yK [2] [30,31,32] rfl<|wI<|pU (zY [0,1] (af:=[hB b2 [vI e0.Kind,vI e0.Num,vS p3 IndexCoefs c3,vI IndexConst,vT ReadArray.l,vS p4 ReadSubs c4,z0],hB b1 zExpr]))<|qR [(1,fv),(4,vP b1 0),(5,vP b2 0),(30,vS p2 e0.Kids c2),(31,vI (e0.Kids.length:Int)),(32,vI 0)]<|zA6 zH fun h11=>?_;obtain ⟨o02,ho02,aF⟩:=zB aT;refine ih_impl_exprMap_l1 e0 change 0 ([]:List zH) o02 ho02 iR h3 h2 h4 h5 h11 nG nO ?_;intro I07 Kids1 p9 c9 aI heq2 le7 h13;subst o02;have ⟨h4,h5⟩:=m2 le7 h4 h5;refine zR<|yW<|tL 1 [1] [(45,vA [vI e0.Kind,vI e0.Num,vS p3 IndexCoefs c3,vI IndexConst,vT ReadArray.l,vS p4 ReadSubs c4,vS p9 Kids1 c9])]<|yY 2 [vI e0.Kind,vI e0.Num,vS p3 IndexCoefs c3,vI IndexConst,vT ReadArray.l,vS p4 ReadSubs c4,vS p9 Kids1 c9] rfl<|zX rfl<|xF<|xB 0 rfl ?_;intro I08 le8 hl01;have h24:=SL.of_frozen hl01 le8 h13;have ⟨h4,h5⟩:=m2 le8 h4 h5;exact xO aF (resC 1 rfl rfl) zP ⟨_,rfl,rfl,⟨_,rfl,(wB ⟨_,_,_,rfl,h4,h5,h24⟩)⟩⟩
  intro F_impl_exprMap F_impl_exprMap_l1 ih_impl_exprMap ih_impl_exprMap_l1 e0 change t32 Kids o N B I0 I Q IndexCoefs IndexConst ReadArray ReadSubs p2 c2 fv b1 b2 p3 c3 p4 c4 p8 c8 aP H h3 h2 h4 h5 h12 hg ho hx;refine yQ hg ho<|yH [33] rfl<|zZ<|yG N ?_ ?_
  · intro aY N;refine zS<|zZ<|yF<|yB<|bE N fun x aG N=>xR rfl rfl h2 aG ?_;intro ad aL al aj;obtain ⟨aQ,aM,aJ,aW,br,bd,rfl,h14,h15,h16⟩:=wQ aj;refine xH 0 al (cExpr x aQ aM aJ aW br bd) (vA (cExpr x aQ aM aJ aW br bd)) rfl<|xU zExpr ?_;intro b3 hb3;refine yY 0 (cExpr x aQ aM aJ aW br bd) rfl<|zX rfl<|zK ?_;obtain ⟨y2,bc,N⟩:=zB N;obtain ⟨l,bu,N⟩:=zB N;refine wO [.p (vP b2 6) [],.p (vS p8 Kids c8) [1],.p (vA (cExpr x aQ aM aJ aW br bd)) [0],.p fv [],.x (eVExpr y2),.x (fun I' v hx=>∃ b4,v=vS (some ⟨b4,0,none⟩) ([y2]:List zH) 1/\hx=[]/\(SL I' (vS (some ⟨b4,0,none⟩) ([y2]:List zH) 1) ([y2]:List zH))),.x (fun I' v hx=>∃ p16 c16 bv,v=vS p16 l c16/\hx=[hO zH (vS p16 l c16) bv]/\(RL I' bv l))] [[],[(0,false)],[],[],[(2,false),(3,false)],[(4,false)],[(1,false),(5,false),(9,true)]] [hB b3 (cExpr x aQ aM aJ aW br bd),hB b2 [vI e0.Kind,vI e0.Num,vS p3 IndexCoefs c3,vI IndexConst,vT ReadArray.l,vS p4 ReadSubs c4,vS p8 Kids c8],hB b1 zExpr] [[hO zH (vS p8 Kids c8) aP]] [(6,true)] (zY [0,2,3,1]) ?_ ?_
    · refine O4<|Ox ?_<|Ox ?_<|Ox ?_<|On
      · intro I1 hf aa;refine yX [38,39] rfl ?_;have H:=iS I1;have ⟨h3,h14,h15,h16⟩:=m4 aa h3 h14 h15 h16;refine xE (ih_impl_exprMap x change _ bc h14 h15 h16 h3) ?_;rintro bD aw v2 k2 aX - ⟨v07,rfl,rfl,⟨bo,rfl,h17⟩⟩ -;have H:=H.trans aX;obtain ⟨bh,bj,p14,c14,p15,c15,rfl,h18,h19,h20⟩:=wQ h17;exact yL [] H ⟨_,_,_,_,_,_,rfl,rfl,h18,h19,h20⟩
      · rintro I1 hf aa _ _ ⟨bh,bj,p14,c14,p15,c15,rfl,rfl,h18,h19,h20⟩;refine yX [40] rfl ?_;have H:=iS I1;refine mG (rc y2 (wB ⟨_,_,_,rfl,h18,h19,h20⟩) rN) ?_;intro b4 bI bf h22;have H:=H.trans bf;exact yL [] H ⟨_,rfl,rfl,h22⟩
      rintro I1 hf aa _ _ ⟨rfl,rfl⟩ _ _ ⟨b4,rfl,rfl,h22⟩ _ _ rfl;refine yX [37,41] rfl ?_;have h12:=iM aa h12;obtain ⟨bm,k0,k01⟩:=h22;have h22:SL I1 (vS (some ⟨b4,0,none⟩) ([y2]:List zH) 1) ([y2]:List zH):=⟨_,k0,k01⟩;exact rF 72 7 0 rfl rfl rfl h12 (.inl k0) k01 bu fun p16 c16 bv h23=>wX (af:=(hO zH (vS p16 l c16) bv::hB b3 (cExpr x aQ aM aJ aW br bd)::hB b2 [vI e0.Kind,vI e0.Num,vS p3 IndexCoefs c3,vI IndexConst,vT ReadArray.l,vS p4 ReadSubs c4,vS p8 Kids c8]::hB b1 zExpr::hf)) rfl<|yL [hO zH (vS p16 l c16) bv] iR ⟨_,_,_,rfl,rfl,h23⟩
    rintro I06 bt _ _ ⟨p16,c16,bv,rfl,rfl,h23⟩;refine yX [1,4,5,30,31,32,42] rfl ?_;have ⟨h3,h2,h4,h5,H⟩:=m5 bt h3 h2 h4 h5 H;exact yE 8 [] [43] rfl<|yY 2 [vI e0.Kind,vI e0.Num,vS p3 IndexCoefs c3,vI IndexConst,vT ReadArray.l,vS p4 ReadSubs c4,vS p16 l c16] rfl<|zX rfl<|zO<|zK<|zM<|yK [] [32] rfl<|yP<|pU (zW [0,2,3] rfl (by decide))<|oT<|ih_impl_exprMap_l1 e0 change (W (t32+1)) l _ N H h3 h2 h4 h5 h23 hg ho hx
  intro aY N;exact wP<|yU<|hx _ _ _ _ _ (zD N).symm H h12
theorem zHl:∀ e0 change r,jW e0 change=some r->∀ {I:Imm}{p c p1 c1 p2 c2}{fv:Value},(S4 I p e0.Index.Coefs c)->(S4 I p1 e0.Read.Subs c1)->(S4 I p2 e0.Kids c2)->(FV1 Tryz.prog I [] fv change)->RT 158 [vA (cExpr e0 p c p1 c1 p2 c2),fv] I [] (dJ  r):=zHI.1
def dK (r:zL):KT:=fun kk I' af v=>
  ∃ v0,af=[]/\v=tupV [v0]/\(∃ cs,v0=.agg ⟨cs⟩/\Rp.rep I' cs r)
def zAD (s:zL) (change:(zA->Option zA)):Option (zL):=do
 let y<-jS s.Write change;let y1<-jW s.Value change;pure (zL.mk y y1)
theorem zHm:∀ s change r,zAD s change=some r->∀ {I:Imm}{p c p1 c1 p2 c2 p3 c3}{fv:Value},(S4 I p s.Write.Subs c)->(S4 I p1 s.Value.Index.Coefs c1)->(S4 I p2 s.Value.Read.Subs c2)->(S4 I p3 s.Value.Kids c3)->(FV1 Tryz.prog I [] fv change)->RT 121 [vA (cStmt s p c p1 c1 p2 c2 p3 c3),fv] I [] (dK  r):=by
 intro s change r N I p c p1 c1 p2 c2 p3 c3 fv h h1 h2 h3 h4;unfold zAD at N;refine yI func121 fun B=>?_;have H:=iS I;refine yB<|vJ (cStmt s p c p1 c1 p2 c2 p3 c3) ?_;intro b hb;refine xU [vT ([]),z0,vI 0,vI 0,z0,vI 0,vT ([]),z0,z0] ?_;intro b1 hb1;refine zX rfl<|zK<|yA ?_;obtain ⟨y,hy,N⟩:=zB N;obtain ⟨y1,ay,N⟩:=zB N;refine wO [.p (vP b 0) [],.p (vA (cAccess s.Write p c)) [1],.p fv [],.x (eVAccess y),.p (vP b 2) [],.p (vA (cExpr s.Value p1 c1 p2 c2 p3 c3)) [1],.p fv [],.x (eVExpr y1),.x (fun I' v hx=>∃ p41 c41 p51 c51 p61 c61 p71 c71,v=vA [vT y.Array.l,vS p41 y.Subs c41,vI y1.Kind,vI y1.Num,vS p51 y1.Index.Coefs c51,vI y1.Index.Const,vT y1.Read.Array.l,vS p61 y1.Read.Subs c61,vS p71 y1.Kids c71]/\hx=[]/\(S4 I' p41 y.Subs c41)/\(S4 I' p51 y1.Index.Coefs c51)/\(S4 I' p61 y1.Read.Subs c61)/\(S4 I' p71 y1.Kids c71))] [[],[(0,false)],[],[(1,false),(2,false)],[],[(4,false)],[],[(5,false),(6,false)],[(3,false),(7,false)]] [hB b1 [vT ([]),z0,vI 0,vI 0,z0,vI 0,vT ([]),z0,z0],hB b (cStmt s p c p1 c1 p2 c2 p3 c3)] [] [(8,false)] (zY [0,1]) ?_ ?_
 · refine O3<|Ox ?_<|O3<|Ox ?_<|Ox ?_<|On
   · intro I1 hf aa;refine yX [6,7] rfl ?_;have H:=iS I1;have ⟨h4,h⟩:=m2 aa h4 h;refine xE (zCK s.Write change _ hy h h4) ?_;rintro I0 aw v2 k2 le - ⟨v0,rfl,rfl,⟨cs,rfl,h5⟩⟩ -;have H:=H.trans le;obtain ⟨p4,c4,rfl,h6⟩:=uK h5;exact yL [] H ⟨_,_,rfl,rfl,h6⟩
   · intro I1 hf aa;refine yX [10,11] rfl ?_;have H:=iS I1;have ⟨h4,h1,h2,h3⟩:=m4 aa h4 h1 h2 h3;refine xE (zHl s.Value change _ ay h1 h2 h3 h4) ?_;rintro aO aw v2 k2 aa - ⟨v02,rfl,rfl,⟨av,rfl,h7⟩⟩ -;have H:=H.trans aa;obtain ⟨p5,c5,p6,c6,p7,c7,rfl,h8,h9,h10⟩:=wQ h7;exact yL [] H ⟨_,_,_,_,_,_,rfl,rfl,h8,h9,h10⟩
   rintro I1 hf aa _ _ ⟨p4,c4,rfl,rfl,h6⟩ _ _ ⟨p5,c5,p6,c6,p7,c7,rfl,rfl,h8,h9,h10⟩;exact yX [8,12] rfl<|pE 9 [(13,vA [vT y.Array.l,vS p4 y.Subs c4,vI y1.Kind,vI y1.Num,vS p5 y1.Index.Coefs c5,vI y1.Index.Const,vT y1.Read.Array.l,vS p6 y1.Read.Subs c6,vS p7 y1.Kids c7])]<|yL [] iR ⟨_,_,_,_,_,_,_,_,rfl,rfl,h6,h8,h9,h10⟩
 rintro aV aA _ _ ⟨p41,c41,p51,c51,p61,c61,p71,c71,rfl,rfl,h61,h81,h91,h101⟩;refine yX [4,13] rfl ?_;refine yY 0 [vT y.Array.l,vS p41 y.Subs c41,vI y1.Kind,vI y1.Num,vS p51 y1.Index.Coefs c51,vI y1.Index.Const,vT y1.Read.Array.l,vS p61 y1.Read.Subs c61,vS p71 y1.Kids c71] rfl<|zX rfl<|zK<|xA ?_;exact xO N (resC 0 rfl rfl) zP ⟨_,rfl,rfl,⟨_,rfl,(wC ⟨_,_,_,_,rfl,h61,h81,h91,h101⟩)⟩⟩
def oO (a0:zA):Option (zA):=do
 let y<-uD a0.Coefs;pure (zA.mk y a0.Const)
theorem zCL:∀ a0 r,oO a0=some r->∀ {I:Imm}{p c},(S4 I p a0.Coefs c)->RT 122 [vA (cAff a0 p c)] I [] (oX  r):=by
 intro a0 r N I p c h;unfold oO at N;refine yI func122 fun B=>?_;have H:=iS I;refine yB<|vJ (cAff a0 p c) ?_;intro b hb;refine xU [z0,vI 0] ?_;intro b1 hb1;refine zX rfl<|zZ<|bE N fun y hy N=>wO [.p (vP b 0) [],.p (vS p a0.Coefs c) [1],.x (fun I' v hx=>∃ p1 c1 cs,v=vS p1 y c1/\hx=[hO Int (vS p1 y c1) cs]/\(RL I' cs y)),.p (vP b 1) [],.p (vI a0.Const) [1],.x (fun I' v hx=>∃ aJ aW av,v=vA [vS aJ y aW,vI a0.Const]/\hx=[hO Int (vS aJ y aW) av]/\(RL I' av y))] [[],[(0,false)],[(1,false)],[],[(3,false)],[(2,true),(4,false)]] [hB b1 [z0,vI 0],hB b (cAff a0 p c)] [] [(5,true)] (zY [0,1]) ?_ ?_
 · refine O2<|Ox ?_<|O2<|Ox ?_<|On
   · intro I1 hf aa;refine yX [4] rfl ?_;have H:=iS I1;have h:=h.mono aa;refine xE (oN a0.Coefs _ hy h) ?_;rintro I0 aw v2 k2 le - ⟨p1,c1,cs,rfl,rfl,h1⟩ -;have H:=H.trans le;exact yL [hO Int (vS p1 y c1) cs] H ⟨_,_,_,rfl,rfl,h1⟩
   rintro I1 hf aa _ _ ⟨p1,c1,cs,rfl,rfl,h1⟩;exact yX [5,7] rfl<|pE 6 [(8,vA [vS p1 y c1,vI a0.Const])]<|yL [hO Int (vS p1 y c1) cs] iR ⟨_,_,_,rfl,rfl,h1⟩
 rintro aO aa _ _ ⟨aJ,aW,av,rfl,rfl,h11⟩;refine yX [2,8] rfl ?_;refine yY 1 [vS aJ y aW,vI a0.Const] rfl<|zX rfl<|xF<|xB 0 rfl ?_;intro aV aA hl0;have h2:=SL.of_frozen hl0 aA h11;exact xO N (resC 0 rfl rfl) zP ⟨_,rfl,rfl,⟨_,rfl,(yJ ⟨_,rfl,h2⟩)⟩⟩
def zAE (s:zL):Option (zL):=do
 let y<-zAD s oO;pure (id y)
theorem zHn:∀ s r,zAE s=some r->∀ {I:Imm}{p c p1 c1 p2 c2 p3 c3},(S4 I p s.Write.Subs c)->(S4 I p1 s.Value.Index.Coefs c1)->(S4 I p2 s.Value.Read.Subs c2)->(S4 I p3 s.Value.Kids c3)->RT 87 [vA (cStmt s p c p1 c1 p2 c2 p3 c3)] I [] (dK  r):=by
 intro s r N I p c p1 c1 p2 c2 p3 c3 h h1 h2 h3;unfold zAE at N;refine yI func87 fun B=>yB<|vJ (cStmt s p c p1 c1 p2 c2 p3 c3) ?_;intro b hb;refine xU [vT ([]),z0,vI 0,vI 0,z0,vI 0,vT ([]),z0,z0] ?_;intro b1 hb1;refine zX rfl<|yW<|tL 1 [1] [(3,vA (cStmt s p c p1 c1 p2 c2 p3 c3))] ?_;have hf0:FV1 Tryz.prog I [] (.func (.func 122) ⟨[]⟩ ⟨[]⟩) oO:=by
   refine FV1.intro ?_;intro I1 aa x0 r u0 hF k0;obtain ⟨_,rfl,k0⟩:=k0;obtain ⟨p4,c4,rfl,h4⟩:=yD k0;exact (zCL x0 r hF h4).mono (by rintro k i hs u ⟨v0,rfl,rfl,h⟩; exact ⟨rfl,h⟩)
 obtain ⟨y,hy,N⟩:=zB N;refine xE (zHm s oO _ hy h h1 h2 h3 hf0) ?_;rintro I0 aw v2 k2 le - ⟨v01,rfl,rfl,⟨cs,rfl,h5⟩⟩ -;obtain ⟨p5,c5,p6,c6,p7,c7,p8,c8,rfl,h6,h7,h8,h9⟩:=wV h5;refine yY 0 (cStmt y p5 c5 p6 c6 p7 c7 p8 c8) rfl<|zX rfl<|zK<|xA ?_;exact xO N (resC 0 rfl rfl) zP ⟨_,rfl,rfl,⟨_,rfl,(wC ⟨_,_,_,_,rfl,h6,h7,h8,h9⟩)⟩⟩
def qL (list:(List zA)) (out:List zA) (t8:Int):Option (List zA):=do
 if (decide (t8<(list.length:Int))) then
  let x<-idx list t8;let y<-oO x;let ap<-app 32 out ([y]:List zA);qL list ap (W (t8+1))
 else pure (id out)
 partial_fixpoint
theorem zDf (list:(List zA)):∀ (out:List zA) (t8:Int) (o:List zA),qL list out t8=some o->∀ {B}{I0 I:Imm}{Q p c p1 c1 cs},I0.le I->(S4 I p list c)->(RL I cs out)->NG Q->NO Q->(∀ I' ah p2 c2 av,o=ah->I0.le I'->(RL I' av ah)->T 19 B Q (.exit 0) I' [hO zA (vS p2 ah c2) av] [(3,vS p2 ah c2)])->J Tryz.prog 19 B (nav (bodyOf f146) [1,1,0,1,0]) Q I [hO zA (vS p1 out c1) cs] [(3,vS p1 out c1),(6,vS p list c),(7,vI (list.length:Int)),(8,vI t8)]:=by
 refine qL.partial_correctness list _ fun aE ih out t8 o N B I0 I Q p c p1 c1 cs H h h2 hg ho hx=>yQ hg ho<|yH [9] rfl<|zZ<|yG N ?_ ?_
 · intro hc N;refine zS<|zZ<|yF<|yB<|bE N fun x hy N=>xR rfl rfl h hy ?_;intro ad aL al aj;obtain ⟨p3,c3,rfl,h4⟩:=yD aj;refine xH 0 al (cAff x p3 c3) (vA (cAff x p3 c3)) rfl<|xU [z0,vI 0] ?_;intro b hb;refine yY 0 (cAff x p3 c3) rfl<|zX rfl<|zK<|zM<|tL 2 [0] [(12,vS p1 out c1),(13,vA (cAff x p3 c3))]<|bE N fun y ay N=>xE (zCL x _ ay h4) ?_;rintro I0 aw v2 k2 le - ⟨v01,rfl,rfl,⟨aP,rfl,h5⟩⟩ -;have ⟨h,h2,H⟩:=m3 le h h2 H;obtain ⟨p4,c4,rfl,h6⟩:=yD h5;refine uV (cAff y p4 c4) zA ?_;intro b1 hb1;have h7:RL I0 (cAff y p4 c4) ([y]:List zA):=⟨(cAff y p4 c4),_,rfl,rfl,(yJ ⟨_,rfl,h6⟩),rfl⟩;obtain ⟨ap,aG,N⟩:=zB N;exact rF 69 2 2 rfl rfl rfl h2 (.inr ⟨0,rfl⟩) h7 aG fun p5 c5 aI h8=>tX (zY [1,2] (af:=[hB b (cAff x p3 c3),hO zA (vS p5 ap c5) aI]))<|yK [] [3] rfl<|zO<|zK<|zM<|yK [] [8] rfl<|yP<|pU (zW [1] rfl (by decide))<|oT<|ih ap (W (t8+1)) _ N H h h8 hg ho hx
 intro hc N;exact wP<|yU<|hx _ _ _ _ _ (zD N).symm H h2
def pS (list:(List zA)):Option ((List zA)):=do
 let ah<-qL list ([]:List zA) 0;pure (id ah)
theorem zBe:∀ list r,pS list=some r->∀ {I:Imm}{p c},(S4 I p list c)->RT 146 [vS p list c] I [] (dG  r):=by
 intro list r N I p c h;unfold pS at N;refine yI func146 fun B=>wT []<|zD7 [(3,z0)]<|zZ<|yH [6,7,8] rfl<|wI<|qR [(3,z0),(6,vS p list c),(7,vI (list.length:Int)),(8,vI 0)]<|zA6 zA fun h1=>?_;obtain ⟨o0,az,aF⟩:=zB N;refine zDf list ([]:List zA) 0 o0 az iR h h1 nG nO ?_;intro aO ah p2 c2 av heq aa h3;subst o0;refine zR<|vW [2] rfl<|xF<|xB 0 rfl ?_;intro aV aA hl0;have h9:=SL.of_frozen hl0 aA h3;exact xO aF (resT rfl) zP ⟨_,rfl,rfl,h9⟩
def nL (nest:(List zF)) (out:List zF) (t8:Int):Option (List zF):=do
 if (decide (t8<(nest.length:Int))) then
  let x<-idx nest t8;let y<-pS x.Lo;let y1<-pS x.Hi;let ap<-app 48 out ([(zF.mk y y1)]:List zF);nL nest ap (W (t8+1))
 else pure (id out)
 partial_fixpoint
theorem zFW (nest:(List zF)):∀ (out:List zF) (t8:Int) (o:List zF),nL nest out t8=some o->∀ {B}{I0 I:Imm}{Q p c p1 c1 cs},I0.le I->(S4 I p nest c)->(RL I cs out)->NG Q->NO Q->(∀ I' ah p2 c2 av,o=ah->I0.le I'->(RL I' av ah)->T 24 B Q (.exit 0) I' [hO zF (vS p2 ah c2) av] [(3,vS p2 ah c2)])->J Tryz.prog 24 B (nav (bodyOf f106) [1,1,0,1,0]) Q I [hO zF (vS p1 out c1) cs] [(3,vS p1 out c1),(6,vS p nest c),(7,vI (nest.length:Int)),(8,vI t8)]:=by
 refine nL.partial_correctness nest _ fun aE ih out t8 o N B I0 I Q p c p1 c1 cs H h h2 hg ho hx=>yQ hg ho<|yH [9] rfl<|zZ<|yG N ?_ ?_
 · intro hc N;refine zS<|zZ<|yF<|yB<|bE N fun x hy N=>xR rfl rfl h hy ?_;intro ad aL al aj;obtain ⟨p3,c3,p4,c4,rfl,h4,h5⟩:=wY aj;refine xH 0 al (cLoop x p3 c3 p4 c4) (vA (cLoop x p3 c3 p4 c4)) rfl<|xU zTwo ?_;intro b hb;refine yY 0 (cLoop x p3 c3 p4 c4) rfl<|zX rfl<|zK ?_;obtain ⟨y,ay,N⟩:=zB N;obtain ⟨y1,aG,N⟩:=zB N;obtain ⟨ap,bc,N⟩:=zB N;refine wO [.p (vS p1 out c1) [],.p (vP b 0) [],.p (vS p3 x.Lo c3) [0],.x (eS y),.p (vP b 1) [],.p (vS p4 x.Hi c4) [0],.x (eS y1),.x (fun I' v hx=>∃ p51 c51 p61 c61,v=vA [vS p51 y c51,vS p61 y1 c61]/\hx=[]/\(S4 I' p51 y c51)/\(S4 I' p61 y1 c61)),.x (fun I' v hx=>∃ b1,v=vS (some ⟨b1,0,none⟩) ([(zF.mk y y1)]:List zF) 1/\hx=[]/\(SL I' (vS (some ⟨b1,0,none⟩) ([(zF.mk y y1)]:List zF) 1) ([(zF.mk y y1)]:List zF))),.x (fun I' v hx=>∃ p7 c7 aP,v=vS p7 ap c7/\hx=[hO zF (vS p7 ap c7) aP]/\(RL I' aP ap))] [[],[],[(1,false)],[(2,false)],[],[(4,false)],[(5,false)],[(3,false),(6,false)],[(7,false)],[(0,false),(8,false),(11,true)]] [hB b (cLoop x p3 c3 p4 c4)] [[hO zF (vS p1 out c1) cs]] [(9,true)] (zY [0,1]) ?_ ?_
   · refine O3<|Ox ?_<|O2<|Ox ?_<|Ox ?_<|Ox ?_<|Ox ?_<|On
     · intro I1 hf aa;refine yX [14] rfl ?_;have H:=iS I1;have h4:=h4.mono aa;refine xE (zBe x.Lo _ ay h4) ?_;rintro I0 aw v2 k2 le - ⟨v02,rfl,rfl,h6⟩ -;have H:=H.trans le;obtain ⟨p5,c5,rfl⟩:=h6.form;exact yL [] H ⟨_,_,rfl,rfl,h6⟩
     · intro I1 hf aa;refine yX [17] rfl ?_;have H:=iS I1;have h5:=h5.mono aa;refine xE (zBe x.Hi _ aG h5) ?_;rintro aO aw v2 k2 aa - ⟨v03,rfl,rfl,h7⟩ -;have H:=H.trans aa;obtain ⟨p6,c6,rfl⟩:=h7.form;exact yL [] H ⟨_,_,rfl,rfl,h7⟩
     · rintro I1 hf aa _ _ ⟨p5,c5,rfl,rfl,h6⟩ _ _ ⟨p6,c6,rfl,rfl,h7⟩;exact yX [15,18] rfl<|pE 8 [(19,vA [vS p5 y c5,vS p6 y1 c6])]<|yL [] iR ⟨_,_,_,_,rfl,rfl,h6,h7⟩
     · rintro I1 hf aa _ _ ⟨p51,c51,p61,c61,rfl,rfl,h61,h71⟩;refine yX [19] rfl ?_;have H:=iS I1;refine mG (rc (zF.mk y y1) (uJ ⟨_,_,rfl,h61,h71⟩) rN) ?_;intro b1 aV aA h9;have H:=H.trans aA;exact yL [] H ⟨_,rfl,rfl,h9⟩
     rintro I1 hf aa _ _ ⟨rfl,rfl⟩ _ _ ⟨b1,rfl,rfl,h9⟩ _ _ rfl;refine yX [12,20] rfl ?_;have h2:=iM aa h2;obtain ⟨bm,k0,k01⟩:=h9;have h9:SL I1 (vS (some ⟨b1,0,none⟩) ([(zF.mk y y1)]:List zF) 1) ([(zF.mk y y1)]:List zF):=⟨_,k0,k01⟩;exact rF 130 2 0 rfl rfl rfl h2 (.inl k0) k01 bc fun p7 c7 aP h10=>wX (af:=(hO zF (vS p7 ap c7) aP::hB b (cLoop x p3 c3 p4 c4)::hf)) rfl<|yL [hO zF (vS p7 ap c7) aP] iR ⟨_,_,_,rfl,rfl,h10⟩
   rintro bx aK _ _ ⟨p7,c7,aP,rfl,rfl,h10⟩;refine yX [6,7,8,21] rfl ?_;have ⟨h,H⟩:=m2 aK h H;exact yK [] [3] rfl<|zO<|zK<|zM<|yK [] [8] rfl<|yP<|pU (zW [0] rfl (by decide))<|oT<|ih ap (W (t8+1)) _ N H h h10 hg ho hx
 intro hc N;exact wP<|yU<|hx _ _ _ _ _ (zD N).symm H h2
def zAF (nest:(List zF)):Option ((List zF)):=do
 let ah<-nL nest ([]:List zF) 0;pure (id ah)
theorem zHo:∀ nest r,zAF nest=some r->∀ {I:Imm}{p c},(S4 I p nest c)->RT 106 [vS p nest c] I [] (zAq  r):=by
 intro nest r N I p c h;unfold zAF at N;refine yI func106 fun B=>wT []<|zD7 [(3,z0)]<|zZ<|yH [6,7,8] rfl<|wI<|qR [(3,z0),(6,vS p nest c),(7,vI (nest.length:Int)),(8,vI 0)]<|zA6 zF fun h1=>?_;obtain ⟨o0,az,aF⟩:=zB N;refine zFW nest ([]:List zF) 0 o0 az iR h h1 nG nO ?_;intro bD ah p2 c2 av heq aX h3;subst o0;refine zR<|vW [2] rfl<|xF<|xB 0 rfl ?_;intro bI bf hl01;have h11:=SL.of_frozen hl01 bf h3;exact xO aF (resT rfl) zP ⟨_,rfl,rfl,h11⟩
def zCM (r:zI):KT:=fun kk I' af v=>
  ∃ v0,af=[]/\v=tupV [v0]/\(∃ cs,v0=.agg ⟨cs⟩/\Rp.rep I' cs r)
def nM (p:zI) (t13:Int) (Body:List zL):Option (List zL):=do
 if (decide (t13<(p.Body.length:Int))) then
  let x<-idx p.Body t13;let y1<-zAE x;let l<-app 152 Body ([y1]:List zL);nM p (W (t13+1)) l
 else pure (id Body)
 partial_fixpoint
theorem zFX (p:zI):∀ (t13:Int) (Body:List zL) (o:List zL),nM p t13 Body=some o->∀ {B}{I0 I:Imm}{Q}{y:(List zF)}{p2 c1}{b1}{p3 c2}{b2}{p4 c3 cs},I0.le I->(S4 I p2 p.Body c1)->(S4 I p3 y c2)->(RL I cs Body)->NG Q->NO Q->(∀ I' aZ p5 c4 av,o=aZ->I0.le I'->(RL I' av aZ)->T 26 B Q (.exit 0) I' [hO zL (vS p5 aZ c4) av,hB b2 [vS p3 y c2,vS p5 aZ c4],hB b1 zTwo] [(2,vP b1 0),(3,vP b2 0)])->J Tryz.prog 26 B (nav (bodyOf f65) [1,1,0,1,0]) Q I [hO zL (vS p4 Body c3) cs,hB b2 [vS p3 y c2,vS p4 Body c3],hB b1 zTwo] [(2,vP b1 0),(3,vP b2 0),(11,vS p2 p.Body c1),(12,vI (p.Body.length:Int)),(13,vI t13)]:=by
 refine nM.partial_correctness p _ fun aE ih t13 Body o N B I0 I Q y p2 c1 b1 p3 c2 b2 p4 c3 cs H h1 h2 h4 hg ho hx=>yQ hg ho<|yH [14] rfl<|zZ<|yG N ?_ ?_
 · intro hc N;refine zS<|zZ<|yF<|yB<|bE N fun x ay N=>xR rfl rfl h1 ay ?_;intro ad aL al aj;obtain ⟨p6,c5,p7,c6,p8,c7,p9,c8,rfl,h6,h7,h8,h9⟩:=wV aj;refine xH 0 al (cStmt x p6 c5 p7 c6 p8 c7 p9 c8) (vA (cStmt x p6 c5 p7 c6 p8 c7 p9 c8)) rfl<|xU [vT ([]),z0,vI 0,vI 0,z0,vI 0,vT ([]),z0,z0] ?_;intro b3 hb3;refine yY 0 (cStmt x p6 c5 p7 c6 p8 c7 p9 c8) rfl<|zX rfl<|zK ?_;obtain ⟨y1,aG,N⟩:=zB N;obtain ⟨l,bc,N⟩:=zB N;refine wO [.p (vP b2 1) [],.p (vS p4 Body c3) [1],.p (vA (cStmt x p6 c5 p7 c6 p8 c7 p9 c8)) [0],.x (eVStmt y1),.x (fun I' v hx=>∃ b4,v=vS (some ⟨b4,0,none⟩) ([y1]:List zL) 1/\hx=[]/\(SL I' (vS (some ⟨b4,0,none⟩) ([y1]:List zL) 1) ([y1]:List zL))),.x (fun I' v hx=>∃ p14 bj aI,v=vS p14 l bj/\hx=[hO zL (vS p14 l bj) aI]/\(RL I' aI l))] [[],[(0,false)],[],[(2,false)],[(3,false)],[(1,false),(4,false),(8,true)]] [hB b3 (cStmt x p6 c5 p7 c6 p8 c7 p9 c8),hB b2 [vS p3 y c2,vS p4 Body c3],hB b1 zTwo] [[hO zL (vS p4 Body c3) cs]] [(5,true)] (zY [0,2,3,1]) ?_ ?_
   · refine O3<|Ox ?_<|Ox ?_<|Ox ?_<|On
     · intro I1 hf aa;refine yX [19] rfl ?_;have H:=iS I1;have ⟨h6,h7,h8,h9⟩:=m4 aa h6 h7 h8 h9;refine xE (zHn x _ aG h6 h7 h8 h9) ?_;rintro aO aw v2 k2 aa - ⟨v05,rfl,rfl,⟨aP,rfl,h10⟩⟩ -;have H:=H.trans aa;obtain ⟨aQ,c9,aJ,aM,br,aW,bh,bd,rfl,h11,h12,h13,h14⟩:=wV h10;exact yL [] H ⟨_,_,_,_,_,_,_,_,rfl,rfl,h11,h12,h13,h14⟩
     · rintro I1 hf aa _ _ ⟨aQ,c9,aJ,aM,br,aW,bh,bd,rfl,rfl,h11,h12,h13,h14⟩;refine yX [20] rfl ?_;have H:=iS I1;refine mG (rc y1 (wC ⟨_,_,_,_,rfl,h11,h12,h13,h14⟩) rN) ?_;intro b4 aV aA h16;have H:=H.trans aA;exact yL [] H ⟨_,rfl,rfl,h16⟩
     rintro I1 hf aa _ _ ⟨rfl,rfl⟩ _ _ ⟨b4,rfl,rfl,h16⟩ _ _ rfl;refine yX [18,21] rfl ?_;have h4:=iM aa h4;obtain ⟨bm,k0,k01⟩:=h16;have h16:SL I1 (vS (some ⟨b4,0,none⟩) ([y1]:List zL) 1) ([y1]:List zL):=⟨_,k0,k01⟩;exact rF 74 9 0 rfl rfl rfl h4 (.inl k0) k01 bc fun p14 bj aI h17=>wX (af:=(hO zL (vS p14 l bj) aI::hB b3 (cStmt x p6 c5 p7 c6 p8 c7 p9 c8)::hB b2 [vS p3 y c2,vS p4 Body c3]::hB b1 zTwo::hf)) rfl<|yL [hO zL (vS p14 l bj) aI] iR ⟨_,_,_,rfl,rfl,h17⟩
   rintro bx aK _ _ ⟨p14,bj,aI,rfl,rfl,h17⟩;refine yX [2,3,11,12,13,22] rfl ?_;have ⟨h1,h2,H⟩:=m3 aK h1 h2 H;exact yE 7 [] [23] rfl<|yY 2 [vS p3 y c2,vS p14 l bj] rfl<|zX rfl<|zO<|zK<|zM<|yK [] [13] rfl<|yP<|pU (zW [0,2,3] rfl (by decide))<|oT<|ih (W (t13+1)) l _ N H h1 h2 h17 hg ho hx
 intro hc N;exact wP<|yU<|hx _ _ _ _ _ (zD N).symm H h4
def zAG (p:zI):Option (zI):=do
 let y<-zAF p.Nest;let aZ<-nM p 0 ([]:List zL);pure (zI.mk y aZ)
theorem zHp:∀ p r,zAG p=some r->∀ {I:Imm}{p1 c p2 c1},(S4 I p1 p.Nest c)->(S4 I p2 p.Body c1)->RT 65 [vA (cPart p p1 c p2 c1)] I [] (zCM  r):=by
 intro p r N I p1 c p2 c1 h h1;unfold zAG at N;refine yI func65 fun B=>yB<|vJ (cPart p p1 c p2 c1) ?_;intro b hb;refine xU zTwo ?_;intro b1 hb1;refine zX rfl<|yW<|yE 2 [1] [7] rfl<|bE N fun y hy N=>xE (zHo p.Nest _ hy h) ?_;rintro I0 aw v2 k2 le - ⟨v0,rfl,rfl,h2⟩ -;have ⟨h,h1⟩:=m2 le h h1;obtain ⟨p3,c2,rfl⟩:=h2.form;refine yE 4 [] [9] rfl<|xU zTwo ?_;intro b2 hb2;refine yY 0 [vS p3 y c2,z0] rfl<|zX rfl<|zZ<|yB<|yK [2] [11,12,13] rfl<|wI<|pU (zY [0,1] (af:=[hB b2 [vS p3 y c2,z0],hB b1 zTwo]))<|qR [(2,vP b1 0),(3,vP b2 0),(11,vS p2 p.Body c1),(12,vI (p.Body.length:Int)),(13,vI 0)]<|zA6 zL fun h3=>?_;obtain ⟨o0,az,aF⟩:=zB N;refine zFX p 0 ([]:List zL) o0 az iR h1 h2 h3 nG nO ?_;intro bD aZ p5 c4 av heq aX h5;subst o0;have h2:=h2.mono aX;refine zR<|yW<|tL 1 [1] [(25,vA [vS p3 y c2,vS p5 aZ c4])]<|yY 2 [vS p3 y c2,vS p5 aZ c4] rfl<|zX rfl<|xF<|xB 0 rfl ?_;intro bI bf hl01;have h18:=SL.of_frozen hl01 bf h5;have h2:=h2.mono bf;exact xO aF (resC 1 rfl rfl) zP ⟨_,rfl,rfl,⟨_,rfl,(uL ⟨_,_,rfl,h2,h18⟩)⟩⟩
def zDg (r:zC):KT:=fun kk I' af v=>
  ∃ v0,af=[]/\v=tupV [v0]/\(∃ cs,v0=.agg ⟨cs⟩/\Rp.rep I' cs r)
def rZ (p:zC) (t11:Int) (Arrays:List zE):Option (List zE):=do
 if (decide (t11<(p.Arrays.length:Int))) then
  let x<-idx p.Arrays t11;let y<-uD x.Dims;let l<-app 40 Arrays ([(zE.mk x.Name y)]:List zE);rZ p (W (t11+1)) l
 else pure (id Arrays)
 partial_fixpoint
def qA (p:zC) (t30:Int) (Parts:List zI):Option (List zI):=do
 if (decide (t30<(p.Parts.length:Int))) then
  let x1<-idx p.Parts t30;let y1<-zAG x1;let l1<-app 48 Parts ([y1]:List zI);qA p (W (t30+1)) l1
 else pure (id Parts)
 partial_fixpoint
theorem zDH (p:zC):∀ (t30:Int) (Parts:List zI) (o:List zI),qA p t30 Parts=some o->∀ {B}{I0 I:Imm}{Q}{τ:Type} [Rp τ] {aq:List τ}{p2 c1}{b1 b2}{p4 c3 av p8 c7 bo},I0.le I->(S4 I p2 p.Parts c1)->(RL I av aq)->(RL I bo Parts)->NG Q->NO Q->(∀ I' aR p9 c8 bv,o=aR->I0.le I'->(RL I' bv aR)->T 43 B Q (.exit 2) I' [hO zI (vS p9 aR c8) bv,hO τ (vS p4 aq c3) av,hB b2 [vS p4 aq c3,vS p9 aR c8],hB b1 zTwo] [(2,vP b1 0),(3,vP b2 0)])->J Tryz.prog 43 B (nav (bodyOf f28) [1,1,1,0,1,0]) Q I [hO zI (vS p8 Parts c7) bo,hO τ (vS p4 aq c3) av,hB b2 [vS p4 aq c3,vS p8 Parts c7],hB b1 zTwo] [(2,vP b1 0),(3,vP b2 0),(28,vS p2 p.Parts c1),(29,vI (p.Parts.length:Int)),(30,vI t30)]:=by
 refine qA.partial_correctness p _ fun aE ih t30 Parts o N B I0 I Q τ _ aq p2 c1 b1 b2 p4 c3 av p8 c7 bo H h1 h4 h12 hg ho hx=>yQ hg ho<|yH [31] rfl<|zZ<|yG N ?_ ?_
 · intro aH N;refine zS<|zZ<|yF<|yB<|bE N fun x1 bc N=>xR rfl rfl h1 bc ?_;intro ad1 bK au ax;obtain ⟨aQ,c9,aJ,aM,rfl,h14,h15⟩:=wJ ax;refine xH 0 au (cPart x1 aQ c9 aJ aM) (vA (cPart x1 aQ c9 aJ aM)) rfl<|xU zTwo ?_;intro b5 hb5;refine yY 0 (cPart x1 aQ c9 aJ aM) rfl<|zX rfl<|zK ?_;obtain ⟨y1,bu,N⟩:=zB N;obtain ⟨l1,bz,N⟩:=zB N;refine wO [.p (vP b2 1) [],.p (vS p8 Parts c7) [2],.p (vA (cPart x1 aQ c9 aJ aM)) [0],.x (eVPart y1),.x (fun I' v hx=>∃ b6,v=vS (some ⟨b6,0,none⟩) ([y1]:List zI) 1/\hx=[]/\(SL I' (vS (some ⟨b6,0,none⟩) ([y1]:List zI) 1) ([y1]:List zI))),.x (fun I' v hx=>∃ p14 bj cs7,v=vS p14 l1 bj/\hx=[hO zI (vS p14 l1 bj) cs7]/\(RL I' cs7 l1))] [[],[(0,false)],[],[(2,false)],[(3,false)],[(1,false),(4,false),(8,true)]] [hB b5 (cPart x1 aQ c9 aJ aM),hO τ (vS p4 aq c3) av,hB b2 [vS p4 aq c3,vS p8 Parts c7],hB b1 zTwo] [[hO zI (vS p8 Parts c7) bo]] [(5,true)] (zY [0,2,3,4,1]) ?_ ?_
   · refine O3<|Ox ?_<|Ox ?_<|Ox ?_<|On
     · intro I1 hf aa;refine yX [36] rfl ?_;have H:=iS I1;have ⟨h14,h15⟩:=m2 aa h14 h15;refine xE (zHp x1 _ bu h14 h15) ?_;rintro bI aw v2 k2 bf - ⟨v03,rfl,rfl,⟨cs6,rfl,h16⟩⟩ -;have H:=H.trans bf;obtain ⟨br,aW,bh,bd,rfl,h17,h18⟩:=wJ h16;exact yL [] H ⟨_,_,_,_,rfl,rfl,h17,h18⟩
     · rintro I1 hf aa _ _ ⟨br,aW,bh,bd,rfl,rfl,h17,h18⟩;refine yX [37] rfl ?_;have H:=iS I1;refine mG (rc y1 (uL ⟨_,_,rfl,h17,h18⟩) rN) ?_;intro b6 I06 bt h20;have H:=H.trans bt;exact yL [] H ⟨_,rfl,rfl,h20⟩
     rintro I1 hf aa _ _ ⟨rfl,rfl⟩ _ _ ⟨b6,rfl,rfl,h20⟩ _ _ rfl;refine yX [35,38] rfl ?_;have h12:=iM aa h12;obtain ⟨ccs3,k02,k03⟩:=h20;have h20:SL I1 (vS (some ⟨b6,0,none⟩) ([y1]:List zI) 1) ([y1]:List zI):=⟨_,k02,k03⟩;exact rF 85 2 0 rfl rfl rfl h12 (.inl k02) k03 bz fun p14 bj cs7 h21=>wX (af:=(hO zI (vS p14 l1 bj) cs7::hB b5 (cPart x1 aQ c9 aJ aM)::hO τ (vS p4 aq c3) av::hB b2 [vS p4 aq c3,vS p8 Parts c7]::hB b1 zTwo::hf)) rfl<|yL [hO zI (vS p14 l1 bj) cs7] iR ⟨_,_,_,rfl,rfl,h21⟩
   rintro I07 le7 _ _ ⟨p14,bj,cs7,rfl,rfl,h21⟩;refine yX [2,3,28,29,30,39] rfl ?_;have ⟨h1,h4,H⟩:=m3 le7 h1 h4 H;exact yE 7 [] [40] rfl<|yY 3 [vS p4 aq c3,vS p14 l1 bj] rfl<|zX rfl<|zO<|zK<|zM<|yK [] [30] rfl<|yP<|pU (zW [0,2,3,4] rfl (by decide))<|oT<|ih (W (t30+1)) l1 _ N H h1 h4 h21 hg ho hx
 intro aH N;exact wP<|yU<|hx _ _ _ _ _ (zD N).symm H h12
def jX (p:zC):Option (zC):=do
 let aq<-rZ p 0 ([]:List zE);let aR<-qA p 0 ([]:List zI);pure (zC.mk aq aR)
theorem zCp (p:zC):∀ (t11:Int) (Arrays:List zE) (o:List zE),rZ p t11 Arrays=some o->∀ {B}{I0 I:Imm}{Q p1 c p2 c1}{b b1 b2}{p3 c2 cs}{xs:List ND},I0.le I->(S4 I p1 p.Arrays c)->(S4 I p2 p.Parts c1)->Arrays=xs.map ND.a->(∀ x∈xs,x.ok I)->(RL I cs (xs.map ND.raw))->NG Q->NO Q->(∀ I' xs1 p4 c3 av,o=xs1.map ND.a->I0.le I'->(∀ x∈xs1,x.ok I')->RL I' av (xs1.map ND.raw)->T 43 B Q (.exit 0) I' (hO Raw2 (vS p4 (xs1.map ND.raw) c3) av::hB b2 [vS p4 (xs1.map ND.raw) c3,z0]::hB b1 zTwo::hB b (cProg p p1 c p2 c1)::NDs xs1) [(1,vP b 0),(2,vP b1 0),(3,vP b2 0)])->J Tryz.prog 43 B (nav (bodyOf f28) [1,1,0,1,0]) Q I (hO Raw2 (vS p3 (xs.map ND.raw) c2) cs::hB b2 [vS p3 (xs.map ND.raw) c2,z0]::hB b1 zTwo::hB b (cProg p p1 c p2 c1)::NDs xs) [(1,vP b 0),(2,vP b1 0),(3,vP b2 0),(9,vS p1 p.Arrays c),(10,vI (p.Arrays.length:Int)),(11,vI t11)]:=by
 refine rZ.partial_correctness p _ fun aE ih t11 Arrays o N B I0 I Q p1 c p2 c1 b b1 b2 p3 c2 cs xs H h h1 hA bP h3 hg ho hx=>yQ hg ho<|yH [12] rfl<|zZ<|yG N ?_ ?_
 · intro hc N;refine zS<|zZ<|yF<|yB<|bE N fun x hy N=>xR rfl rfl h hy ?_;intro ad aL al aj;obtain ⟨p5,c4,rfl,h5⟩:=xP aj;refine xH 0 al (cArr x p5 c4) (vA (cArr x p5 c4)) rfl<|xU [vT ([]),z0] ?_;intro b3 hb3;refine yY 0 (cArr x p5 c4) rfl<|zX rfl<|zK ?_;obtain ⟨y,ay,N⟩:=zB N;obtain ⟨l,aG,N⟩:=zB N;refine zNA (hs:=[hB b3 (cArr x p5 c4),hO Raw2 (vS p3 (xs.map ND.raw) c2) cs,hB b2 [vS p3 (xs.map ND.raw) c2,z0],hB b1 zTwo,hB b (cProg p p1 c p2 c1)]) (L:=NDs xs) .normal (fun I' af m'=>∃ p7 c6 aI pq cq csq,af=[hO Int (vS pq y cq) csq,hO Raw2 (vS p7 (xs.map ND.raw++[(⟨vT x.Name.l,vS pq y cq⟩:Raw2)]) c6) aI,hB b2 [vS p7 (xs.map ND.raw++[(⟨vT x.Name.l,vS pq y cq⟩:Raw2)]) c6,z0],hB b1 zTwo,hB b (cProg p p1 c p2 c1)]/\m'=[(1,vP b 0),(2,vP b1 0),(3,vP b2 0),(9,vS p1 p.Arrays c),(10,vI (p.Arrays.length:Int)),(11,vI t11)]/\RL I' aI (xs.map ND.raw++[(⟨vT x.Name.l,vS pq y cq⟩:Raw2)])/\RL I' csq y) (fun B0=>?_) ?_
   · refine wO [.p (vP b2 0) [],.p (vS p3 (xs.map ND.raw) c2) [1],.p (vP b3 0) [],.p (vT x.Name.l) [0],.p (vP b3 1) [],.p (vS p5 x.Dims c4) [0],.x (fun I' v hx=>∃ p6 c5 aP,v=vS p6 y c5/\hx=[hO Int (vS p6 y c5) aP]/\(RL I' aP y)),.x (fun I' v hx=>∃ p61 c51 cs21,v=vA [vT x.Name.l,vS p61 y c51]/\hx=[hO Int (vS p61 y c51) cs21]/\(RL I' cs21 y)),.x (fun I' v hx=>∃ b4 pq cq csq,v=vS (some ⟨b4,0,none⟩) [(⟨vT x.Name.l,vS pq y cq⟩:Raw2)] 1/\hx=[hO Int (vS pq y cq) csq]/\RL I' csq y/\SL I' (vS (some ⟨b4,0,none⟩) [(⟨vT x.Name.l,vS pq y cq⟩:Raw2)] 1) [(⟨vT x.Name.l,vS pq y cq⟩:Raw2)]),.x (fun I' v hx=>∃ p7 c6 aI pq cq csq,v=vS p7 (xs.map ND.raw++[(⟨vT x.Name.l,vS pq y cq⟩:Raw2)]) c6/\hx=[hO Raw2 (vS p7 (xs.map ND.raw++[(⟨vT x.Name.l,vS pq y cq⟩:Raw2)]) c6) aI,hO Int (vS pq y cq) csq]/\RL I' aI (xs.map ND.raw++[(⟨vT x.Name.l,vS pq y cq⟩:Raw2)])/\RL I' csq y)] [[],[(0,false)],[],[(2,false)],[],[(4,false)],[(5,false)],[(3,false),(6,true)],[(7,true)],[(1,false),(8,true),(12,true)]] [hB b3 (cArr x p5 c4),hB b2 [vS p3 (xs.map ND.raw) c2,z0],hB b1 zTwo,hB b (cProg p p1 c p2 c1)] [[hO Raw2 (vS p3 (xs.map ND.raw) c2) cs]] [(9,true)] (zY [0,2,3,4,1]) ?_ ?_
     · refine O4<|O2<|Ox ?_<|Ox ?_<|Ox ?_<|Ox ?_<|On
       · intro I1 hf aa;refine yX [20] rfl ?_;have H:=iS I1;have h5:=h5.mono aa;refine xE (oN x.Dims _ ay h5) ?_;rintro I0 aw v2 k2 le - ⟨p6,c5,aP,rfl,rfl,h6⟩ -;have H:=H.trans le;exact yL [hO Int (vS p6 y c5) aP] H ⟨_,_,_,rfl,rfl,h6⟩
       · rintro I1 hf aa _ _ ⟨rfl,rfl⟩ _ _ ⟨p6,c5,aP,rfl,rfl,h6⟩;exact yX [18,21] rfl<|pE 8 [(22,vA [vT x.Name.l,vS p6 y c5])]<|yL [hO Int (vS p6 y c5) aP] iR ⟨_,_,_,rfl,rfl,h6⟩
       · rintro I1 hf aa _ _ ⟨p61,c51,cs21,rfl,rfl,h61⟩;refine yX [22] rfl<|uV [vT x.Name.l,vS p61 y c51] Raw2 ?_;intro b4 hb4;have h8:RL I1 [vT x.Name.l,vS p61 y c51] [(⟨vT x.Name.l,vS p61 y c51⟩:Raw2)]:=⟨[vT x.Name.l,vS p61 y c51],[],rfl,rfl,⟨rfl,rfl,rfl⟩,rfl⟩;refine xX 0 rfl ?_;intro aV aA hl01;have h9:SL aV (vS (some ⟨b4,0,none⟩) [(⟨vT x.Name.l,vS p61 y c51⟩:Raw2)] 1) [(⟨vT x.Name.l,vS p61 y c51⟩:Raw2)]:=SL.of_frozen hl01 aA h8;exact yL [hO Int (vS p61 y c51) cs21] aA ⟨_,_,_,_,rfl,rfl,iM aA h61,h9⟩
       rintro I1 hf aa _ _ ⟨rfl,rfl⟩ _ _ ⟨b4,pq,cq,csq,rfl,rfl,hq,h9⟩ _ _ rfl;refine yX [16,23] rfl ?_;have h3:=iM aa h3;obtain ⟨bm,k0,k01⟩:=h9;refine rF (α:=Raw2) 60 2 0 rfl rfl rfl h3 (.inl k0) k01 (zFq (l':=xs.map ND.raw) (m':=[(⟨vT x.Name.l,vS pq y cq⟩:Raw2)]) aG (by rw [hA]; simp) rfl) ?_;intro p7 c6 aI h10;exact wX (af:=(hO Raw2 (vS p7 (xs.map ND.raw++[(⟨vT x.Name.l,vS pq y cq⟩:Raw2)]) c6) aI::hO Int (vS pq y cq) csq::hB b3 (cArr x p5 c4)::hB b2 [vS p3 (xs.map ND.raw) c2,z0]::hB b1 zTwo::hB b (cProg p p1 c p2 c1)::hf)) rfl<|yL [hO Raw2 (vS p7 (xs.map ND.raw++[(⟨vT x.Name.l,vS pq y cq⟩:Raw2)]) c6) aI,hO Int (vS pq y cq) csq] iR ⟨_,_,_,_,_,_,rfl,rfl,h10,hq⟩
     rintro bx aK _ _ ⟨p7,c6,aI,pq,cq,csq,rfl,rfl,h10,hq⟩;exact qS<|zAp [(1,vP b 0),(2,vP b1 0),(3,vP b2 0),(9,vS p1 p.Arrays c),(10,vI (p.Arrays.length:Int)),(11,vI t11),(24,vS p7 (xs.map ND.raw++[(⟨vT x.Name.l,vS pq y cq⟩:Raw2)]) c6)]<|yE 11 [] [25] rfl<|yY 3 [vS p7 (xs.map ND.raw++[(⟨vT x.Name.l,vS pq y cq⟩:Raw2)]) c6,z0] rfl<|zX rfl<|wF (zY [1,0,3,4,5] (af:=[hO Int (vS pq y cq) csq,hO Raw2 (vS p7 (xs.map ND.raw++[(⟨vT x.Name.l,vS pq y cq⟩:Raw2)]) c6) aI,hB b2 [vS p7 (xs.map ND.raw++[(⟨vT x.Name.l,vS pq y cq⟩:Raw2)]) c6,z0],hB b1 zTwo,hB b (cProg p p1 c p2 c1)]))<|T_w [(1,vP b 0),(2,vP b1 0),(3,vP b2 0),(9,vS p1 p.Arrays c),(10,vI (p.Arrays.length:Int)),(11,vI t11)]<|zNB ⟨_,_,_,_,_,_,rfl,rfl,h10,hq⟩
   rintro I5 hs5 m5 ⟨p7,c6,aI,pq,cq,csq,rfl,rfl,h10,hq⟩ bf;have e1:(xs++[(⟨x.Name,pq,y,cq,csq⟩:ND)]).map ND.raw=xs.map ND.raw++[(⟨vT x.Name.l,vS pq y cq⟩:Raw2)]:=by rw [eb]; rfl
   have e2:l=(xs++[(⟨x.Name,pq,y,cq,csq⟩:ND)]).map ND.a:=by rw [eb,<- hA]; exact (zAy aG).2.symm
   have e3:NDs (xs++[(⟨x.Name,pq,y,cq,csq⟩:ND)])=NDs xs++[hO Int (vS pq y cq) csq]:=eb ..;rw [<- e1] at h10 ⊢;refine zNm ([hO Raw2 (vS p7 ((xs++[(⟨x.Name,pq,y,cq,csq⟩:ND)]).map ND.raw) c6) aI,hB b2 [vS p7 ((xs++[(⟨x.Name,pq,y,cq,csq⟩:ND)]).map ND.raw) c6,z0],hB b1 zTwo,hB b (cProg p p1 c p2 c1)]++(NDs xs++[hO Int (vS pq y cq) csq])) (zJr _ _ _) ?_;rw [<- e3];exact zO<|zK<|zM<|yK [] [11] rfl<|yP<|oT<|ih (W (t11+1)) l _ N (H.trans bf) (h.mono bf) (h1.mono bf) e2 (zM5 (fun x hx=>(bP x hx).mono bf) hq) h10 hg ho hx
 intro hc N;exact wP<|yU<|hx _ xs _ _ _ ((zD N).symm.trans hA) H bP h3
def zDI (r:zC):KT:=fun kk I' af v=>
  ∃ (xs:List ND) (pa:Option Addr) (ca:Nat) (csa:List Value) (pp:Option Addr) (cp:Nat),af=hO Raw2 (vS pa (xs.map ND.raw) ca) csa::NDs xs/\v=tupV [vA [vS pa (xs.map ND.raw) ca,vS pp r.Parts cp]]/\r.Arrays=xs.map ND.a/\(∀ x∈xs,x.ok I')/\RL I' csa (xs.map ND.raw)/\SL I' (vS pp r.Parts cp) r.Parts
theorem zEK:∀ (p:zC) r,jX p=some r->∀ {I:Imm}{p1 c p2 c1},(S4 I p1 p.Arrays c)->(S4 I p2 p.Parts c1)->RT 28 [vA (cProg p p1 c p2 c1)] I [] (zDI r):=by
 intro p r N I p1 c p2 c1 h h1;unfold jX at N;refine yI func28 fun B=>yB<|vJ (cProg p p1 c p2 c1) ?_;intro b hb;refine xU zTwo ?_;intro b1 hb1;refine zX rfl<|yW<|xU zTwo ?_;intro b2 hb2;refine zX rfl<|zZ<|yB<|yK [2] [9,10,11] rfl<|wI<|qR [(1,vP b 0),(2,vP b1 0),(3,vP b2 0),(9,vS p1 p.Arrays c),(10,vI (p.Arrays.length:Int)),(11,vI 0)]<|pU (fN (Rp.sz Raw2)) ?_;obtain ⟨o0,az,aF⟩:=zB N;refine zCp p 0 ([]:List zE) o0 az (xs:=[]) iR h h1 rfl (fun _ h=>by cases h) RepL.nil nG nO ?_;intro bD xs p4 c3 av heq aX bP h4;subst o0;have ⟨h,h1⟩:=m2 aX h h1;obtain ⟨aN,aC,hMl1⟩:=zB aF;refine zR<|zZ<|zNA (hs:=[hO Raw2 (vS p4 (xs.map ND.raw) c3) av,hB b2 [vS p4 (xs.map ND.raw) c3,z0],hB b1 zTwo,hB b (cProg p p1 c p2 c1)]) (L:=NDs xs) .normal (fun I' af m'=>∃ p9 c8 bv,af=[hO zI (vS p9 aN c8) bv,hO Raw2 (vS p4 (xs.map ND.raw) c3) av,hB b2 [vS p4 (xs.map ND.raw) c3,vS p9 aN c8],hB b1 zTwo]/\m'=[(2,vP b1 0),(3,vP b2 0)]/\RL I' bv aN/\RL I' av (xs.map ND.raw)) (fun B0=>?_) ?_
 · refine yB<|yK [3] [28,29,30] rfl<|wI<|pU (zY [0,1,2] (af:=[hO Raw2 (vS p4 (xs.map ND.raw) c3) av,hB b2 [vS p4 (xs.map ND.raw) c3,z0],hB b1 zTwo]))<|qR [(2,vP b1 0),(3,vP b2 0),(28,vS p2 p.Parts c1),(29,vI (p.Parts.length:Int)),(30,vI 0)]<|zA6 zI fun h11=>?_;refine zDH p 0 ([]:List zI) aN aC iR h1 h4 h11 (fun _ _ _ h=>by cases h.1) (fun _ _ h=>by cases h.1) ?_;intro I08 aR p9 c8 bv heq1 le8 h13;subst aN;exact zR<|zNB ⟨_,_,_,rfl,rfl,h13,iM le8 h4⟩
 rintro I5 hs5 m5 ⟨p9,c8,bv,rfl,rfl,h13,h5⟩ bf;refine yW<|tL 1 [2] [(42,vA [vS p4 (xs.map ND.raw) c3,vS p9 aN c8])]<|dE 3 [vS p4 (xs.map ND.raw) c3,vS p9 aN c8] (hO zI (vS p9 aN c8) bv::hO Raw2 (vS p4 (xs.map ND.raw) c3) av::hB b2 [vS p4 (xs.map ND.raw) c3,vS p9 aN c8]::hB b1 [vS p4 (xs.map ND.raw) c3,vS p9 aN c8]::NDs xs) rfl rfl rfl rfl<|zX rfl<|xF<|xB 0 rfl ?_;intro I6 bt hl6;have h22:=SL.of_frozen hl6 bt h13;exact xO hMl1 (resC 2 rfl rfl) (kY [hO Raw2 (vS p4 (xs.map ND.raw) c3) av,hB b2 [vS p4 (xs.map ND.raw) c3,vS p9 aN c8],hB b1 [vS p4 (xs.map ND.raw) c3,vS p9 aN c8]] (NDs xs) [0] rfl (by decide)) ⟨xs,_,_,_,_,_,rfl,rfl,rfl,(fun x hx=>(bP x hx).mono (bf.trans bt)),iM bt h5,h22⟩
def pM (p:zC) (x:zN):Option (zL):=do
 let x1<-idx p.Parts x.Part;let x2<-idx x1.Body x.Stmt;pure (id x2)
theorem zBF:∀ p x r,pM p x=some r->∀ {I:Imm}{p1 c p2 c1 p3 c2},(S4 I p1 p.Arrays c)->(S4 I p2 p.Parts c1)->(S4 I p3 x.Point c2)->RT 29 [vA (cProg p p1 c p2 c1),vA (cInst x p3 c2)] I [] (dK  r):=by
 intro p x r N I p1 c p2 c1 p3 c2 h h1 h2;unfold pM at N;refine yI func29 fun B=>yB<|vJ (cProg p p1 c p2 c1) ?_;intro b hb;refine vJ (cInst x p3 c2) ?_;intro b1 hb1;refine xU [vT ([]),z0,vI 0,vI 0,z0,vI 0,vT ([]),z0,z0] ?_;intro b2 hb2;refine zX rfl<|zK<|yA ?_;obtain ⟨x1,hy,N⟩:=zB N;obtain ⟨x2,ay,N⟩:=zB N;refine wO [.p (vP b 1) [],.p (vS p2 p.Parts c1) [2],.p (vP b1 0) [],.p (vI x.Part) [1],.x (ePPart x1),.x (eQPart 1 x1),.x (eS x1.Body),.p (vP b1 1) [],.p (vI x.Stmt) [1],.x (ePStmt x2),.x (eVStmt x2)] [[],[(0,false)],[],[(2,false)],[(1,false),(3,false)],[(4,false)],[(5,false)],[],[(7,false)],[(6,false),(8,false)],[(9,false)]] [hB b2 [vT ([]),z0,vI 0,vI 0,z0,vI 0,vT ([]),z0,z0],hB b1 (cInst x p3 c2),hB b (cProg p p1 c p2 c1)] [] [(10,false)] (zY [0,1,2]) ?_ ?_
 · refine O4<|Ox ?_<|Ox ?_<|Ox ?_<|O2<|Ox ?_<|Ox ?_<|On
   · intro I1 hf aa;refine yX [6,8] rfl ?_;have h1:=h1.mono aa;refine xR rfl rfl h1 hy ?_;intro ad aL al aj;obtain ⟨p4,c3,p5,c4,rfl,h3,h4⟩:=wJ aj;exact yL [] iR ⟨_,_,_,_,_,rfl,rfl,al,h3,h4⟩
   · rintro I1 hf aa _ _ ⟨ad,p4,c3,p5,c4,rfl,rfl,al,h3,h4⟩;exact yX [9] rfl<|pE 6 [(10,.pointer (some (ad.add 1)))]<|yL [] iR ⟨_,_,_,_,_,rfl,rfl,al,h3,h4⟩
   · rintro I1 hf aa _ _ ⟨ad1,p41,c31,p51,c41,rfl,rfl,au,h31,h41⟩;exact yX [10] rfl<|xH 1 au [vS p51 x1.Body c41] (vS p51 x1.Body c41) rfl<|yL [] iR ⟨_,_,rfl,rfl,h41⟩
   · rintro I1 hf aa _ _ ⟨p511,c411,rfl,rfl,h411⟩;refine yX [11,13] rfl<|xR rfl rfl h411 ay ?_;intro ad2 bm bk ax;obtain ⟨p6,c5,p7,c6,p8,c7,p9,c8,rfl,h5,h6,h7,h8⟩:=wV ax;exact yL [] iR ⟨_,_,_,_,_,_,_,_,_,rfl,rfl,bk,h5,h6,h7,h8⟩
   rintro I1 hf aa _ _ ⟨ad2,p6,c5,p7,c6,p8,c7,p9,c8,rfl,rfl,bk,h5,h6,h7,h8⟩;exact yX [14] rfl<|xH 0 bk (cStmt x2 p6 c5 p7 c6 p8 c7 p9 c8) (vA (cStmt x2 p6 c5 p7 c6 p8 c7 p9 c8)) rfl<|yL [] iR ⟨_,_,_,_,_,_,_,_,rfl,rfl,h5,h6,h7,h8⟩
 rintro I0 le _ _ ⟨p61,c51,p71,c61,p81,c71,p91,c81,rfl,rfl,h51,h61,h71,h81⟩;refine yX [4,15] rfl ?_;refine yY 0 (cStmt x2 p61 c51 p71 c61 p81 c71 p91 c81) rfl<|zX rfl<|zK<|xA ?_;exact xO N (resC 0 rfl rfl) zP ⟨_,rfl,rfl,⟨_,rfl,(wC ⟨_,_,_,_,rfl,h51,h61,h71,h81⟩)⟩⟩
end Go.LN
