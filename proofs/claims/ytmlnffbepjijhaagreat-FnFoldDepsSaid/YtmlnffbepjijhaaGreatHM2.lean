/- Helper of the proof (see the last text). -/
import Derived.Test.YtmlnffbepjijhaaGreatHM1
set_option linter.unusedVariables false
set_option linter.unusedSimpArgs false
namespace Go.LN
open Go.Proofs Go.Proofs.Tryz
set_option maxRecDepth 20000
def zEz (b0:Nat) (r:Bool×Int):KT:=fun kk I' ah v=>
  ∃ v0 k0,ah=[.blk b0 ⟨k0⟩]/\v=tupV [v0]/\v0=.bool r.1/\Rp.rep I' k0 r.2
def tW (e0:zC) (aa:Int) (deep:Int) (count:Int):Option (Bool×Int):=do
 let t21<-(do
   if (decide ((W (count+1))>12)) then pure true
   else
    pure (decide (deep>5))
     : Option Bool)
 if t21 then pure (false,(W (count+1)))
 else
  let t51<-(do
    if (e0.Kind != 1) then
     if (e0.Num != 0) then pure true
     else
      if (e0.Kind != 2) then
       let y<-gN e0.Index;if (!y) then pure true
       else
        if (e0.Kind != 3) then
         let y1<-nV e0.Read;pure (!y1)
        else pure false
      else
       if (e0.Kind != 3) then
        let y2<-nV e0.Read;pure (!y2)
       else pure false
    else
     if (e0.Kind != 2) then
      let y3<-gN e0.Index;if (!y3) then pure true
      else
       if (e0.Kind != 3) then
        let y4<-nV e0.Read;pure (!y4)
       else pure false
     else
      if (e0.Kind != 3) then
       let y5<-nV e0.Read;pure (!y5)
      else pure false
      : Option Bool)
  if t51 then pure (false,(W (count+1)))
  else
   if (e0.Kind==1) then
    let t8<-(do
      let y6<-wW e0.Num 0 99;if y6 then pure ((e0.Kids.length:Int)==0)
      else
       pure false
        : Option Bool)
    pure (t8,(W (count+1)))
   else
    if (e0.Kind==2) then
     let t81<-(do
       let y7<-oE e0.Index;if y7 then
        let y8<-rM e0.Index;if (decide (y8<=aa)) then pure ((e0.Kids.length:Int)==0)
        else pure false
       else
        pure false
         : Option Bool)
     pure (t81,(W (count+1)))
    else
     if (e0.Kind==3) then
      let t82<-(do
        let y9<-gL e0.Read aa;if y9 then pure ((e0.Kids.length:Int)==0)
        else
         pure false
          : Option Bool)
      pure (t82,(W (count+1)))
     else
      let t99<-(do
        let y10<-jI e0.Kind;if (!y10) then pure true
        else
         pure ((e0.Kids.length:Int) != 2)
          : Option Bool)
      if t99 then pure (false,(W (count+1)))
      else
       let (t83,x)<-(do
         let x1<-idx e0.Kids 0;let (y12,y13)<-tW (same x1) (same aa) (W (deep+1)) (W (count+1));if y12 then
          let x2<-idx e0.Kids 1;let (y15,y16)<-tW (same x2) (same aa) (W (deep+1)) (same y13);pure (y15,y16)
         else
          pure (false,y13)
           : Option (Bool×Int))
       pure (t83,x)
 partial_fixpoint
theorem zGg:∀ e0 aa deep count r,tW e0 aa deep count=some r->∀ {I:Imm}{p c p1 c1 p2 c2}{r0},(S4 I p e0.Index.Coefs c)->(S4 I p1 e0.Read.Subs c1)->(S4 I p2 e0.Kids c2)->RT 101 [vA (cExpr e0 p c p1 c1 p2 c2),vI aa,vI deep,vP r0 0] I [hB r0 [vI count]] (zEz r0 r):=by
 refine tW.partial_correctness _ fun F_impl_exprScan ih_impl_exprScan e0 aa deep count r N I p c p1 c1 p2 c2 r0 h h1 h2=>yJ func101 fun B=>?_;have H:=iS I;refine yA<|vD (cExpr e0 p c p1 c1 p2 c2) ?_;intro b hb;refine wT [] []<|yT<|yD 5 [1] [12,13] rfl<|yS 1 [vI (W (count+1))] rfl<|zU rfl<|zZ<|yC ?_;refine wU N [hB b (cExpr e0 p c p1 c1 p2 c2),hB r0 [vI (W (count+1))]] (fun t21=>[(1,vI aa),(2,vI deep),(3,vP r0 0),(4,vP b 0),(21,.bool t21)]) (fun o0 az=>?_) ?_
 · have H:=iS I;refine zM<|yD 5 [1] [18] rfl<|wD [18] az ?_ ?_
   · intro hc N;exact wT [] [(21,vY)]<|yQ<|zT (ct N H)
   intro hc N;exact yL [] [21] rfl<|yQ<|zT (ct N H)
 intro t21 I0 le aT;have ⟨h,h1,h2,H⟩:=m4 le h h1 h2 H;refine zK<|yE aT ?_ ?_
 · intro aH N;refine vK [(8,vF)]<|xL<|zI ?_;exact xO N (resT rfl) (zW [1] rfl (by decide)) ⟨_,_,rfl,rfl,rfl,rfl⟩
 intro aH N;refine zS<|zZ<|yC ?_;refine wU N [hB b (cExpr e0 p c p1 c1 p2 c2),hB r0 [vI (W (count+1))]] (fun t51=>[(1,vI aa),(2,vI deep),(3,vP r0 0),(4,vP b 0),(51,.bool t51)]) (fun aL aC=>?_) ?_
 · have H:=iS I0;refine zM<|yD 4 [0] [25] rfl<|wD [25] aC ?_ ?_
   · intro bf N;refine yD 9 [0] [30] rfl<|wD [30] N ?_ ?_
     · intro bG N;exact wT [] [(51,vY)]<|yQ<|zT (ct N H)
     intro bG N;refine yD 13 [0] [34] rfl<|wD [34] N ?_ ?_
     · intro bN N;refine vU 15 [0] [(36,vA (cAff e0.Index p c))]<|bE N fun y hy N=>vR (zC3 e0.Index _ hy h) ?_;intro aV ae;have ⟨h1,H⟩:=m2 ae h1 H;refine yD 20 [] [41] rfl<|wD [41] N ?_ ?_
       · intro hc5 N;exact wT [] [(51,vY)]<|yQ<|zT (ct N H)
       intro hc5 N;refine yD 24 [0] [45] rfl<|wD [45] N ?_ ?_
       · intro hc6 N;refine vU 26 [0] [(47,vA (cAccess e0.Read p1 c1))]<|bE N fun y1 ax N=>vR (zAL e0.Read _ ax h1) ?_;intro bv aB;have H:=H.trans aB;exact yL [] [51] rfl<|yQ<|zT (ct N H)
       intro hc6 N;exact wT [] [(51,vF)]<|yQ<|zT (ct N H)
     intro bN N;refine yD 24 [0] [41,45] rfl<|wD [45] N ?_ ?_
     · intro hc7 N;refine vU 26 [0] [(47,vA (cAccess e0.Read p1 c1))]<|bE N fun y2 aE N=>vR (zAL e0.Read _ aE h1) ?_;intro bH aF;have H:=H.trans aF;exact yL [] [51] rfl<|yQ<|zT (ct N H)
     intro hc7 N;exact wT [] [(51,vF)]<|yQ<|zT (ct N H)
   intro bf N;refine yD 13 [0] [30,34] rfl<|wD [34] N ?_ ?_
   · intro hc8 N;refine vU 15 [0] [(36,vA (cAff e0.Index p c))]<|bE N fun y3 bj N=>vR (zC3 e0.Index _ bj h) ?_;intro bO aX;have ⟨h1,H⟩:=m2 aX h1 H;refine yD 20 [] [41] rfl<|wD [41] N ?_ ?_
     · intro hc9 N;exact wT [] [(51,vY)]<|yQ<|zT (ct N H)
     intro hc9 N;refine yD 24 [0] [45] rfl<|wD [45] N ?_ ?_
     · intro hc10 N;refine vU 26 [0] [(47,vA (cAccess e0.Read p1 c1))]<|bE N fun y4 bt N=>vR (zAL e0.Read _ bt h1) ?_;intro I06 bi;have H:=H.trans bi;exact yL [] [51] rfl<|yQ<|zT (ct N H)
     intro hc10 N;exact wT [] [(51,vF)]<|yQ<|zT (ct N H)
   intro hc8 N;refine yD 24 [0] [41,45] rfl<|wD [45] N ?_ ?_
   · intro hc11 N;refine vU 26 [0] [(47,vA (cAccess e0.Read p1 c1))]<|bE N fun y5 bD N=>vR (zAL e0.Read _ bD h1) ?_;intro I07 bB;have H:=H.trans bB;exact yL [] [51] rfl<|yQ<|zT (ct N H)
   intro hc11 N;exact wT [] [(51,vF)]<|yQ<|zT (ct N H)
 intro t51 aR le7 hMc1;have ⟨h,h1,h2,H⟩:=m4 le7 h h1 h2 H;refine zK<|yE hMc1 ?_ ?_
 · intro hc12 N;refine vK [(8,vF)]<|xL<|zI ?_;exact xO N (resT rfl) (zW [1] rfl (by decide)) ⟨_,_,rfl,rfl,rfl,rfl⟩
 intro hc12 N;refine zS<|zZ<|yH<|yA<|yL [0] [52] rfl<|zK<|yE N ?_ ?_
 · intro hc13 N;refine yC ?_;refine wU N [hB r0 [vI (W (count+1))]] (fun t8=>[(8,.bool t8)]) (fun o02 ho02=>?_) ?_
   · have H:=iS aR;refine zM<|yD 2 [0] [57] rfl ?_;obtain ⟨y6,hy6,N⟩:=zB ho02;refine vR (vG e0.Num 0 99 _ hy6 ) ?_;intro I09 le8;have H:=H.trans le8;refine yD 4 [] [59] rfl<|wD [59] N ?_ ?_
     · intro hc14 N;exact yL [0] [8] rfl<|wH (zW [1] rfl (by decide))<|yQ<|zT (ct N H)
     intro hc14 N;exact wT [] [(8,vF)]<|wH (zW [1] rfl (by decide))<|yQ<|zT (ct N H)
   intro t8 I08 le9 hMc2;refine xL<|zV<|zI ?_;exact xO hMc2 (resT rfl) (zW [0] rfl (by decide)) ⟨_,_,rfl,rfl,rfl,rfl⟩
 intro hc13 N;refine yA<|yL [0] [65] rfl<|zK<|yE N ?_ ?_
 · intro hc15 N;refine yC ?_;refine wU N [hB r0 [vI (W (count+1))]] (fun t81=>[(8,.bool t81)]) (fun o03 ho03=>?_) ?_
   · have H:=iS aR;refine zM<|vU 2 [0] [(70,vA (cAff e0.Index p c))] ?_;obtain ⟨y7,hy7,N⟩:=zB ho03;refine vR (kZ e0.Index _ hy7 h) ?_;intro bW le10;have ⟨h,H⟩:=m2 le10 h H;refine yD 4 [] [72] rfl<|wD [72] N ?_ ?_
     · intro hc16 N;refine vU 6 [0] [(74,vA (cAff e0.Index p c))]<|bE N fun y8 hy8 N=>dL (gT e0.Index _ hy8 h) ?_;intro bS le11;have H:=H.trans le11;refine yD 11 [] [79] rfl<|wD [79] N ?_ ?_
       · intro hc17 N;exact yL [0] [8] rfl<|wH (zW [1] rfl (by decide))<|yQ<|zT (ct N H)
       intro hc17 N;exact wT [] [(8,vF)]<|wH (zW [1] rfl (by decide))<|yQ<|zT (ct N H)
     intro hc16 N;exact wT [] [(8,vF)]<|wH (zW [1] rfl (by decide))<|yQ<|zT (ct N H)
   intro t81 bL le12 hMc3;refine xL<|zV<|zI ?_;exact xO hMc3 (resT rfl) (zW [0] rfl (by decide)) ⟨_,_,rfl,rfl,rfl,rfl⟩
 intro hc15 N;refine yA<|yL [0] [85] rfl<|zK<|yE N ?_ ?_
 · intro hc18 N;refine yC ?_;refine wU N [hB r0 [vI (W (count+1))]] (fun t82=>[(8,.bool t82)]) (fun o04 ho04=>?_) ?_
   · have H:=iS aR;refine zM<|vU 3 [0] [(90,vA (cAccess e0.Read p1 c1)),(91,vI aa)] ?_;obtain ⟨y9,hy9,N⟩:=zB ho04;refine vR (zC2 e0.Read aa _ hy9 h1) ?_;intro I014 le13;have H:=H.trans le13;refine yD 5 [] [93] rfl<|wD [93] N ?_ ?_
     · intro hc19 N;exact yL [0] [8] rfl<|wH (zW [1] rfl (by decide))<|yQ<|zT (ct N H)
     intro hc19 N;exact wT [] [(8,vF)]<|wH (zW [1] rfl (by decide))<|yQ<|zT (ct N H)
   intro t82 I013 le14 hMc4;refine xL<|zV<|zI ?_;exact xO hMc4 (resT rfl) (zW [0] rfl (by decide)) ⟨_,_,rfl,rfl,rfl,rfl⟩
 intro hc18 N;refine yC ?_;refine wU N [hB b (cExpr e0 p c p1 c1 p2 c2),hB r0 [vI (W (count+1))]] (fun t99=>[(1,vI aa),(2,vI deep),(3,vP r0 0),(4,vP b 0),(99,.bool t99)]) (fun o05 ho05=>?_) ?_
 · have H:=iS aR;refine zM<|yD 2 [0] [101] rfl ?_;obtain ⟨y10,hy10,N⟩:=zB ho05;refine vR (zFg e0.Kind _ hy10 ) ?_;intro I016 le15;have H:=H.trans le15;refine yD 5 [] [104] rfl<|wD [104] N ?_ ?_
   · intro hc20 N;exact wT [] [(99,vY)]<|yQ<|zT (ct N H)
   intro hc20 N;exact yL [0] [99] rfl<|yQ<|zT (ct N H)
 intro t99 I015 le16 hMc5;have ⟨h2,H⟩:=m2 le16 h2 H;refine zK<|yE hMc5 ?_ ?_
 · intro hc21 N;refine vK [(8,vF)]<|xL<|zV<|zI ?_;exact xO N (resT rfl) (zW [1] rfl (by decide)) ⟨_,_,rfl,rfl,rfl,rfl⟩
 intro hc21 N;refine zS<|zP<|zK<|yC ?_;obtain ⟨o06,ho06,hMc6⟩:=zB N;refine nT (fun I' ah m'=>∃ (t83:Bool) (x:Int),o06=(t83,x)/\I015.le I'/\ah=[hB r0 [vI x]]/\m'=[(8,.bool t83)]) ?_ ?_
 · have H:=iS I015;refine zM<|yD 2 [0] [111] rfl ?_;obtain ⟨x1,hy11,N⟩:=zB ho06;refine wA rfl rfl h2 hy11 ?_;intro ad aK ap al;obtain ⟨p3,c3,p4,c4,p5,c5,rfl,h14,h15,h16⟩:=xB al;refine xP 0 ap (cExpr x1 p3 c3 p4 c4 p5 c5) (vA (cExpr x1 p3 c3 p4 c4 p5 c5)) rfl<|yD 8 [] [114,116,117] rfl<|tU (zY [1,0] (ah:=[hB r0 [vI (W (count+1))],hB b (cExpr e0 p c p1 c1 p2 c2)])) ?_;obtain ⟨⟨y12,y13⟩,hy12,N⟩:=zB N;refine rC (ih_impl_exprScan x1 aa (W (deep+1)) (W (count+1)) _ hy12 h14 h15 h16) rfl ?_;rintro I018 av v2 k2 le17 - ⟨v014,kk,rfl,rfl,rfl,h18⟩ -;have ⟨h2,H⟩:=m2 le17 h2 H;obtain rfl:=h18;refine yD 10 [] [119] rfl<|wD [119] N ?_ ?_
   · intro hc22 N;refine yD 12 [1] [121] rfl<|bE N fun x2 hy13 N=>wA rfl rfl h2 hy13 ?_;intro ad1 bo ay aA;obtain ⟨p6,c6,p7,c7,p8,c8,rfl,h19,h20,h21⟩:=xB aA;refine xP 0 ay (cExpr x2 p6 c6 p7 c7 p8 c8) (vA (cExpr x2 p6 c6 p7 c7 p8 c8)) rfl<|yD 18 [] [124,126,127] rfl ?_;obtain ⟨⟨y15,y16⟩,hy14,N⟩:=zB N;refine rC (ih_impl_exprScan x2 aa (W (deep+1)) y13 _ hy14 h19 h20 h21) rfl ?_;rintro I019 av v2 k2 le18 - ⟨v018,kk1,rfl,rfl,rfl,h23⟩ -;have H:=H.trans le18;obtain rfl:=h23;exact yL [] [8] rfl<|wH (zW [0] rfl (by decide))<|yQ<|zT ⟨_,_,(zE N).symm,H,rfl,rfl⟩
   intro hc22 N;exact wT [] [(8,vF)]<|wH (zW [0] rfl (by decide))<|yQ<|zT ⟨_,_,(zE N).symm,H,rfl,rfl⟩
 rintro I017 av m2 ⟨t83,x,heq6,le19,rfl,rfl⟩;subst o06;refine zK<|xF ?_;exact xO hMc6 (resT rfl) (zW [0] rfl (by decide)) ⟨_,_,rfl,rfl,rfl,rfl⟩
def fX (s:zG) (aa:Int):Option (Bool):=do
 let t4<-(do
   let y<-wW aa 0 4;if y then
    let y1<-gL s.Write aa;if y1 then
     let (y3,y4)<-tW s.Value aa 1 0;pure (id y3)
    else pure false
   else
    pure false
     : Option Bool)
 pure (id t4)
theorem zFh:∀ s aa r,fX s aa=some r->∀ {I:Imm}{p c p1 c1 p2 c2 p3 c3},(S4 I p s.Write.Subs c)->(S4 I p1 s.Value.Index.Coefs c1)->(S4 I p2 s.Value.Read.Subs c2)->(S4 I p3 s.Value.Kids c3)->RT 61 [vA (cStmt s p c p1 c1 p2 c2 p3 c3),vI aa] I [] (zQ  r):=by
 intro s aa r N I p c p1 c1 p2 c2 p3 c3 h h1 h2 h3;unfold fX at N;refine yJ func61 fun B=>?_;have H:=iS I;refine yA<|vD (cStmt s p c p1 c1 p2 c2 p3 c3) ?_;intro b hb;refine wT [] []<|yT<|xU [vI 0] ?_;intro b1 hb1;refine yS 0 [vI 0] rfl<|zU rfl<|zK<|yC ?_;refine wU N [] (fun t4=>[(4,.bool t4)]) (fun o0 az=>?_) ?_
 · have H:=iS I;refine zM<|yD 1 [] [6] rfl ?_;obtain ⟨y,hy,N⟩:=zB az;refine vR (vG aa 0 4 _ hy ) ?_;intro aR le;have ⟨h,h1,h2,h3,H⟩:=m5 le h h1 h2 h3 H;refine yD 3 [] [8] rfl<|wD [8] N ?_ ?_
   · intro hc N;refine vU 6 [1] [(10,vA (cAccess s.Write p c)),(11,vI aa)]<|bE N fun y1 ax N=>vR (zC2 s.Write aa _ ax h) ?_;intro aV ae;have ⟨h1,h2,h3,H⟩:=m4 ae h1 h2 h3 H;refine yD 9 [] [14] rfl<|wD [14] N ?_ ?_
     · intro aH N;refine vU 12 [1] [(16,vA (cExpr s.Value p1 c1 p2 c2 p3 c3)),(17,vI aa)] ?_;obtain ⟨⟨y3,y4⟩,aE,N⟩:=zB N;refine rC (zGg s.Value aa 1 0 _ aE h1 h2 h3) rfl ?_;rintro bv av v2 k2 aB - ⟨v02,kk,rfl,rfl,rfl,h7⟩ -;have H:=H.trans aB;obtain rfl:=h7;exact yL [] [4] rfl<|wH zN<|yQ<|zT (ct N H)
     intro aH N;exact wT [] [(4,vF)]<|wH zN<|yQ<|zT (ct N H)
   intro hc N;exact wT [] [(4,vF)]<|wH zN<|yQ<|zT (ct N H)
 intro t4 I0 aF aT;refine zK<|xF ?_;obtain rfl:=zE aT;exact vZ
def uN (s:zG) (x:zL):Option (Bool):=do
 let y<-fX s (x.Nest.length:Int);pure (!y)
theorem zBX:∀ s x r,uN s x=some r->∀ {I:Imm}{p c p1 c1 p2 c2 p3 c3}{ad:Addr}{p4 c4 p5 c5},(S4 I p s.Write.Subs c)->(S4 I p1 s.Value.Index.Coefs c1)->(S4 I p2 s.Value.Read.Subs c2)->(S4 I p3 s.Value.Kids c3)->(S4 I p4 x.Nest c4)->(S4 I p5 x.Body c5)->(At I ad (cPart x p4 c4 p5 c5))->RT 60 [vA (cStmt s p c p1 c1 p2 c2 p3 c3),.pointer (some ad)] I [] (zQ  r):=by
 intro s x r N I p c p1 c1 p2 c2 p3 c3 ad p4 c4 p5 c5 h h1 h2 h3 h4 h5 ap;unfold uN at N;refine yJ func60 fun B=>yA<|vD (cStmt s p c p1 c1 p2 c2 p3 c3) ?_;intro b hb;refine wT [] []<|yT<|vU 2 [0] [(4,vA (cStmt s p c p1 c1 p2 c2 p3 c3)),(5,.pointer (some ad))]<|xP 0 ap [vS p4 x.Nest c4] (vS p4 x.Nest c4) rfl<|yD 4 [] [7] rfl<|bE N fun y hy N=>vR (zFh s (x.Nest.length:Int) _ hy h h1 h2 h3) fun I0 le=>wT [] [(3,.bool (!y))]<|zK<|xF ?_;obtain rfl:=zE N;exact vZ
def mM (n0:Int):Option (Bool):=do
 let y<-wW n0 (-9999) 9999;pure (!y)
theorem zFi:∀ n0 r,mM n0=some r->∀ {I:Imm} ,RT 102 [vI n0] I [] (zQ  r):=by
 intro n0 r N I;unfold mM at N;refine yJ func102 fun B=>vK []<|yT<|yD 1 [] [3] rfl<|bE N fun y hy N=>vR (vG n0 (-9999) 9999 _ hy ) fun I0 le=>wT [] [(2,.bool (!y))]<|zK<|xF ?_;obtain rfl:=zE N;exact vZ
def dX (ag:(List Int)):Option (Bool):=do
 let t2<-(do
   if (decide ((ag.length:Int)<=4)) then
    let y<-wG ag mM;pure (!y)
   else
    pure false
     : Option Bool)
 pure (id t2)
theorem zHQ:∀ ag r,dX ag=some r->∀ {I:Imm}{p c},(S4 I p ag c)->RT 62 [vS p ag c] I [] (zQ  r):=by
 intro ag r N I p c h;unfold dX at N;refine yJ func62 fun B=>?_;have H:=iS I;refine vK []<|zK<|yC ?_;refine wU N [] (fun t2=>[(2,.bool t2)]) (fun o0 az=>?_) ?_
 · have H:=iS I;refine zM<|yD 4 [] [6] rfl<|wD [6] az ?_ ?_
   · intro hc N;refine yD 5 [] [7] rfl ?_;have hf0:FV1 Tryz.prog I [] (.func (.func 102) ⟨[]⟩ ⟨[]⟩) mM:=by
       refine FV1.intro ?_;intro I1 ae x0 r u0 hF k0;obtain rfl:=k0;exact (zFi x0 r hF ).mono (by rintro k i hs u ⟨v0,rfl,rfl,h⟩; exact ⟨rfl,h⟩)
     obtain ⟨y,hy,N⟩:=zB N;refine xJ (qQ ag mM _ hy h hf0) ?_;rintro aR av v2 k2 le - ⟨v0,rfl,rfl,rfl⟩ -;have H:=H.trans le;exact yL [] [2] rfl<|yQ<|zT (ct N H)
   intro hc N;exact wT [] [(2,vF)]<|yQ<|zT (ct N H)
 intro t2 I0 ae aT;refine zK<|xF ?_;obtain rfl:=zE aT;exact vZ
def zDS (r:(List zJ)):KT:=fun kk I' ah v=>
  ∃ v0,ah=[]/\v=tupV [v0]/\SL I' v0 r
mutual
def gV (e0:zC):Option ((List zJ)):=do
 if (e0.Kind==3) then pure ([e0.Read]:List zJ)
 else
  let am<-kU (same e0) ([]:List zJ) (same 0);pure (id am)
 partial_fixpoint
def kU (e0:zC) (out:List zJ) (t15:Int):Option (List zJ):=do
 if (decide (t15<(e0.Kids.length:Int))) then
  let x<-idx e0.Kids t15;let y<-gV (same x);let au<-app 40 out y;kU (same e0) (same au) (W (t15+1))
 else pure (id out)
 partial_fixpoint
end
theorem zIJ:(∀ (e0:zC) r,gV e0=some r->∀ {I:Imm}{p c p1 c1 p2 c2},(S4 I p e0.Index.Coefs c)->(S4 I p1 e0.Read.Subs c1)->(S4 I p2 e0.Kids c2)->RT 30 [vA (cExpr e0 p c p1 c1 p2 c2)] I [] (zDS  r))/\(∀ (e0:zC) (out:List zJ) (t15:Int) o,kU e0 out t15=some o->∀ {B}{I0 I:Imm}{Q p2 c2 p3 c3 cs},I0.le I->(S4 I p2 e0.Kids c2)->(RL I cs out)->NG Q->NO Q->(∀ I' am p4 c4 aw,o=am->I0.le I'->(RL I' aw am)->T 25 B Q (.exit 0) I' [hO zJ (vS p4 am c4) aw] [(3,vS p4 am c4)])->J Tryz.prog 25 B (nav (bodyOf f30) [1,1,1,0,1,0]) Q I [hO zJ (vS p3 out c3) cs] [(3,vS p3 out c3),(13,vS p2 e0.Kids c2),(14,vI (e0.Kids.length:Int)),(15,vI t15)]):=by
  refine gV.mutual_partial_correctness _ _ ?_ ?_
  · intro F_impl_reads_l1 ih_impl_reads_l1 e0 r N I p c p1 c1 p2 c2 h h1 h2;refine yJ func30 fun B=>yA<|vD (cExpr e0 p c p1 c1 p2 c2) ?_;intro b hb;refine wT [] []<|zZ<|yA<|yL [0] [8] rfl<|zK<|yE N ?_ ?_
    · intro hc N;refine yA<|vU 2 [0] [(10,vA (cAccess e0.Read p1 c1))]<|tK (cAccess e0.Read p1 c1) zJ ?_;intro b1 hb1;have h3:RL I (cAccess e0.Read p1 c1) ([e0.Read]:List zJ):=⟨(cAccess e0.Read p1 c1),_,rfl,rfl,(oK ⟨_,rfl,h1⟩),rfl⟩;refine yL [] [2] rfl<|xL<|zI<|xA 0 rfl ?_;intro I0 le hl0;have h4:=SL.of_frozen hl0 le h3;exact xO N (resT rfl) zN ⟨_,rfl,rfl,h4⟩
    intro hc N;refine zS<|zEt [(3,z0)]<|zZ<|yA<|yL [0] [13,14,15] rfl<|wQ<|qY (zY [] (ah:=[]))<|pM [(3,z0),(13,vS p2 e0.Kids c2),(14,vI (e0.Kids.length:Int)),(15,vI 0)]<|zAP zJ fun h5=>?_;obtain ⟨o0,az,aG⟩:=zB N;refine ih_impl_reads_l1 e0 ([]:List zJ) 0 o0 az iR h2 h5 nG nO ?_;intro aV am p4 c4 aw heq aB h7;subst o0;refine zR<|uJ [2] rfl<|xL<|xA 0 rfl ?_;intro bv aF hl01;have h13:=SL.of_frozen hl01 aF h7;exact xO aG (resT rfl) zN ⟨_,rfl,rfl,h13⟩
  intro F_impl_reads F_impl_reads_l1 ih_impl_reads ih_impl_reads_l1 e0 out t15 o N B I0 I Q p2 c2 p3 c3 cs H h2 h6 hg ho hx;refine yZ hg ho<|yI [16] rfl<|zZ<|yE N ?_ ?_
  · intro aH N;refine zS<|zZ<|yH<|yA<|bE N fun x hy N=>wA rfl rfl h2 hy ?_;intro ad aK ap al;obtain ⟨p5,c5,p6,c6,p7,c7,rfl,h8,h9,h10⟩:=xB al;refine xP 0 ap (cExpr x p5 c5 p6 c6 p7 c7) (vA (cExpr x p5 c5 p6 c6 p7 c7)) rfl<|xU zExpr ?_;intro b2 hb2;refine yS 0 (cExpr x p5 c5 p6 c6 p7 c7) rfl<|zU rfl<|zK<|zM<|vU 2 [0] [(19,vS p3 out c3),(20,vA (cExpr x p5 c5 p6 c6 p7 c7))]<|bE N fun y ax N=>xJ (ih_impl_reads x _ ax h8 h9 h10) ?_;rintro aR av v2 k2 ae - ⟨v03,rfl,rfl,h11⟩ -;have ⟨h2,h6,H⟩:=m3 ae h2 h6 H;obtain ⟨p8,c8,rfl⟩:=h11.form;obtain ⟨bo,k0,k01⟩:=h11;have h11:SL aR (vS p8 y c8) y:=⟨_,k0,k01⟩;obtain ⟨au,aE,N⟩:=zB N;exact qA 67 2 1 rfl rfl rfl h6 (.inl k0) k01 aE fun p9 c9 aU h12=>tU (zY [0,1] (ah:=[hB b2 (cExpr x p5 c5 p6 c6 p7 c7),hO zJ (vS p9 au c9) aU]))<|yL [] [3] rfl<|zP<|zK<|zM<|yL [] [15] rfl<|yX<|qY (zW [1] rfl (by decide))<|mC<|ih_impl_reads_l1 e0 au (W (t15+1)) _ N H h2 h12 hg ho hx
  intro aH N;exact vC<|yQ<|hx _ _ _ _ _ (zE N).symm H h6
theorem zEi:∀ e0 r,gV e0=some r->∀ {I:Imm}{p c p1 c1 p2 c2},(S4 I p e0.Index.Coefs c)->(S4 I p1 e0.Read.Subs c1)->(S4 I p2 e0.Kids c2)->RT 30 [vA (cExpr e0 p c p1 c1 p2 c2)] I [] (zDS  r):=zIJ.1
def qF (a0:zD) (n0:Int) (t9:Int):Option (Int):=do
 if (decide (t9<(a0.Dims.length:Int))) then
  let x<-idx a0.Dims t9;qF a0 (W (n0*x)) (W (t9+1))
 else pure (id n0)
 partial_fixpoint
theorem zD1 (a0:zD):∀ (n0:Int) (t9:Int) (o:Int),qF a0 n0 t9=some o->∀ {B}{I0 I:Imm}{Q p c},I0.le I->(S4 I p a0.Dims c)->NG Q->NO Q->(∀ I' n01,o=n01->I0.le I'->T 18 B Q (.exit 0) I' [] [(3,vI n01)])->J Tryz.prog 18 B (nav (bodyOf f81) [1,1,0,1,0]) Q I [] [(3,vI n0),(7,vS p a0.Dims c),(8,vI (a0.Dims.length:Int)),(9,vI t9)]:=by
 refine qF.partial_correctness a0 _ fun aJ ih n0 t9 o N B I0 I Q p c H h hg ho hx=>yZ hg ho<|yI [10] rfl<|zZ<|yE N ?_ ?_
 · intro hc N;refine zS<|zZ<|yH<|yA<|bE N fun x hy N=>wA rfl rfl h hy ?_;intro ad aK ap al;obtain rfl:=al;exact xP 0 ap [vI x] (vI x) rfl<|yL [] [5] rfl<|zK<|zM<|yL [] [3] rfl<|zP<|zK<|zM<|yL [] [9] rfl<|yX<|mC<|ih (W (n0*x)) (W (t9+1)) _ N H h hg ho hx
 intro hc N;exact vC<|yQ<|hx _ _ (zE N).symm H
def gW (a0:zD):Option (Int):=do
 let n01<-qF a0 1 0;pure (id n01)
theorem zFA:∀ a0 r,gW a0=some r->∀ {I:Imm}{p c},(S4 I p a0.Dims c)->RT 81 [vA (cArr a0 p c)] I [] (yR  r):=by
 intro a0 r N I p c h;unfold gW at N;refine yJ func81 fun B=>yA<|vD (cArr a0 p c) ?_;intro b hb;refine wT [] []<|uJ [3] rfl<|zZ<|yA<|yL [0] [7,8,9] rfl<|wQ<|qY (zY [] (ah:=[]))<|pM [(3,vI 1),(7,vS p a0.Dims c),(8,vI (a0.Dims.length:Int)),(9,vI 0)] ?_;obtain ⟨o0,az,aG⟩:=zB N;refine zD1 a0 1 0 o0 az iR h nG nO ?_;intro I0 n01 heq le;subst o0;refine zR<|uJ [2] rfl<|zK<|xF ?_;obtain rfl:=zE aG;exact vZ
def sZ (a0:zJ) (ag:(List Int)) (x:zD) (at0:Int) (t40:Int):Option (Out Int (Int)):=do
 if (decide (t40<(a0.Subs.length:Int))) then
  let x1<-idx a0.Subs t40;let y1<-sY x1 ag;let x2<-idx x.Dims t40;let y2<-wW y1 0 (W (x2 - 1));if (!y2) then pure (.ret (-1))
  else
   let x3<-idx x.Dims t40;sZ a0 ag x (W ((W (at0*x3))+y1)) (W (t40+1))
 else pure (.done at0)
 partial_fixpoint
theorem zC4 (a0:zJ) (ag:(List Int)) (x:zD):∀ (at0:Int) (t40:Int) (o:Out Int (Int)),sZ a0 ag x at0 t40=some o->∀ {B}{I0 I:Imm}{Q}{first:Int}{p3 c2 p4 c3 p5 c4}{b2},I0.le I->(S4 I p4 ag c3)->(S4 I p3 a0.Subs c2)->(S4 I p5 x.Dims c4)->NG Q->NO Q->(∀ I' at01,o=(.done at01)->I0.le I'->T 71 B Q (.exit 2) I' [] [(7,vI first),(10,vI at01)])->(∀ r I' ah m',o=(.ret r)->I0.le I'->RS Tryz.prog f103 B (yR  r) I' ah m'->T 71 B Q .ret I' ah m')->J Tryz.prog 71 B (nav (bodyOf f103) [1,1,0,1,0,0,1,1,0,0,1,1,1,1,0,1,0]) Q I [hB b2 (cArr x p5 c4)] [(2,vS p4 ag c3),(7,vI first),(9,vP b2 0),(10,vI at0),(38,vS p3 a0.Subs c2),(39,vI (a0.Subs.length:Int)),(40,vI t40)]:=by
 refine sZ.partial_correctness a0 ag x _ fun aJ ih at0 t40 o N B I0 I Q first p3 c2 p4 c3 p5 c4 b2 H h3 h2 h4 hg ho hx hr=>yZ hg ho<|yI [41] rfl<|zZ<|yE N ?_ ?_
 · intro bG N;refine zS<|zZ<|yH<|yA<|yD 1 [] [42] rfl<|bE N fun x1 aE N=>wA rfl rfl h2 aE ?_;intro ad1 bo ay aA;obtain ⟨p6,c5,rfl,h6⟩:=yG aA;refine xP 0 ay (cAff x1 p6 c5) (vA (cAff x1 p6 c5)) rfl<|xU [z0,vI 0] ?_;intro b3 hb3;refine yD 5 [] [11] rfl<|yS 0 (cAff x1 p6 c5) rfl<|zU rfl<|yT<|vU 2 [0] [(45,vA (cAff x1 p6 c5)),(46,vS p4 ag c3)]<|bE N fun y1 bj N=>dL (jA x1 ag _ bj h6 h3) ?_;intro aR ae;have ⟨h3,h2,h4,H⟩:=m4 ae h3 h2 h4 H;refine yL [] [13] rfl<|zZ<|yA<|yD 4 [1] [48,50,51] rfl<|bE N fun x2 bt N=>wA rfl rfl h4 bt ?_;intro ad2 bR bq bu;obtain rfl:=bu;refine xP 0 bq [vI x2] (vI x2) rfl<|yD 7 [] [54] rfl<|bE N fun y2 bD N=>vR (vG y1 0 (W (x2 - 1)) _ bD ) ?_;intro aV aB;have ⟨h3,h2,h4,H⟩:=m4 aB h3 h2 h4 H;refine yL [] [56] rfl<|zK<|yE N ?_ ?_
   · intro bN N;exact yI [6] rfl<|xL<|zI<|zV<|zI<|zI<|hr _ _ _ _ (zE N).symm H ⟨_,_,(resT rfl),zN,⟨_,rfl,rfl,rfl⟩⟩
   intro bN N;refine zS<|zK<|zM<|yD 4 [1] [57,59,60] rfl<|bE N fun x3 hy6 N=>wA rfl rfl h4 hy6 ?_;intro ad3 ccs3 hat3 bI;obtain rfl:=bI;exact xP 0 hat3 [vI x3] (vI x3) rfl<|yL [] [10] rfl<|zP<|zK<|zM<|yL [] [40] rfl<|yX<|qY (zW [1] rfl (by decide))<|mC<|ih (W ((W (at0*x3))+y1)) (W (t40+1)) _ N H h3 h2 h4 hg ho hx hr
 intro bG N;exact vC<|wH zN<|yQ<|hx _ _ (zE N).symm H
def tA (p:zH) (a0:zJ) (ag:(List Int)) (first:Int) (t17:Int):Option (Out Unit (Int)):=do
 if (decide (t17<(p.Arrays.length:Int))) then
  let x<-idx p.Arrays t17;if (!(x.Name.l==a0.Array.l)) then
   let y<-gW x;tA p a0 ag (W (first+y)) (W (t17+1))
  else
   if ((a0.Subs.length:Int) != (x.Dims.length:Int)) then pure (.ret (-1))
   else
    match<-sZ a0 ag x 0 0 with
    | .ret r0=>pure (.ret r0)
    | .done at01 =>
     pure (.ret (W (first+at01)))
 else pure (.done ())
 partial_fixpoint
theorem zC5 (p:zH) (a0:zJ) (ag:(List Int)):∀ (first:Int) (t17:Int) (o:Out Unit (Int)),tA p a0 ag first t17=some o->∀ {B}{I0 I:Imm}{Q p1 c p3 c2 p4 c3}{b1},I0.le I->(S4 I p4 ag c3)->(S4 I p1 p.Arrays c)->(S4 I p3 a0.Subs c2)->NG Q->NO Q->(∀ I',o=(.done ())->I0.le I'->T 71 B Q (.exit 0) I' [] [])->(∀ r I' ah m',o=(.ret r)->I0.le I'->RS Tryz.prog f103 B (yR  r) I' ah m'->T 71 B Q .ret I' ah m')->J Tryz.prog 71 B (nav (bodyOf f103) [1,1,0,1,0]) Q I [hB b1 (cAccess a0 p3 c2)] [(2,vS p4 ag c3),(4,vP b1 0),(7,vI first),(15,vS p1 p.Arrays c),(16,vI (p.Arrays.length:Int)),(17,vI t17)]:=by
 refine tA.partial_correctness p a0 ag _ fun aJ ih first t17 o N B I0 I Q p1 c p3 c2 p4 c3 b1 H h3 h h2 hg ho hx hr=>yZ hg ho<|yI [18] rfl<|zZ<|yE N ?_ ?_
 · intro hc N;refine zS<|zZ<|yH<|yA<|bE N fun x hy N=>wA rfl rfl h hy ?_;intro ad aK ap al;obtain ⟨p5,c4,rfl,h4⟩:=wK al;refine xP 0 ap (cArr x p5 c4) (vA (cArr x p5 c4)) rfl<|xU [vT ([]),z0] ?_;intro b2 hb2;refine yS 0 (cArr x p5 c4) rfl<|zU rfl<|zZ<|yA<|yL [0,1] [25] rfl<|zK<|yE N ?_ ?_
   · intro aH N;refine yA<|vU 2 [0] [(26,vI first),(27,vA (cArr x p5 c4))]<|bE N fun y ax N=>dL (zFA x _ ax h4) ?_;intro I0 le;have ⟨h3,h,h2,H⟩:=m4 le h3 h h2 H;exact yL [] [7] rfl<|zK<|zHq<|dU<|zR<|zK<|zM<|yL [] [17] rfl<|yX<|qY (zW [1] rfl (by decide))<|mC<|ih (W (first+y)) (W (t17+1)) _ N H h3 h h2 hg ho hx hr
   intro aH N;refine zS<|zZ<|yA<|yL [1,0] [36] rfl<|zK<|yE N ?_ ?_
   · intro bf N;exact yI [6] rfl<|xL<|zI<|zV<|zI<|zI<|hr _ _ _ _ (zE N).symm H ⟨_,_,(resT rfl),zN,⟨_,rfl,rfl,rfl⟩⟩
   intro bf N;refine zS<|uJ [10] rfl<|zZ<|yA<|yL [1] [38,39,40] rfl<|wQ<|qY (zY [0] (ah:=[hB b2 (cArr x p5 c4)]))<|pM [(2,vS p4 ag c3),(7,vI first),(9,vP b2 0),(10,vI 0),(38,vS p3 a0.Subs c2),(39,vI (a0.Subs.length:Int)),(40,vI 0)] ?_;obtain ⟨o0,az,aG⟩:=zB N;refine zC4 a0 ag x 0 0 o0 az iR h3 h2 h4 (fun _ _ _ h=>hg _ _ _ h) (fun _ _ h=>ho _ _ h) ?_ ?_
   · intro bv at01 heq aF;subst o0;have H:=H.trans aF;exact zR<|uJ [6] rfl<|xL<|zV<|zI<|zI<|hr _ _ _ _ (zE aG).symm H ⟨_,_,(resT rfl),zN,⟨_,rfl,rfl,rfl⟩⟩
   intro r0 I9 hs9 m9 aY le9 aZ;subst aY;exact zV<|zI<|zV<|zI<|zI<|hr _ _ _ _ (zE aG).symm (H.trans le9) aZ
 intro hc N;exact vC<|wH zN<|yQ<|hx _  (zE N).symm H
def rP (p:zH) (a0:zJ) (ag:(List Int)):Option (Int):=do
 match<-tA p a0 ag 0 0 with
 | .ret r0=>pure r0
 | .done _ =>
  pure (-1)
theorem gX:∀ p a0 ag r,rP p a0 ag=some r->∀ {I:Imm}{p1 c p2 c1 p3 c2 p4 c3},(S4 I p1 p.Arrays c)->(S4 I p2 p.Parts c1)->(S4 I p3 a0.Subs c2)->(S4 I p4 ag c3)->RT 103 [vA (cProg p p1 c p2 c1),vA (cAccess a0 p3 c2),vS p4 ag c3] I [] (yR  r):=by
 intro p a0 ag r N I p1 c p2 c1 p3 c2 p4 c3 h h1 h2 h3;unfold rP at N;refine yJ func103 fun B=>yA<|vD (cProg p p1 c p2 c1) ?_;intro b hb;refine vD (cAccess a0 p3 c2) ?_;intro b1 hb1;refine wT [] []<|uJ [7] rfl<|zZ<|yA<|yL [1] [15,16,17] rfl<|wQ<|qY (zY [0] (ah:=[hB b1 (cAccess a0 p3 c2)]))<|pM [(2,vS p4 ag c3),(4,vP b1 0),(7,vI 0),(15,vS p1 p.Arrays c),(16,vI (p.Arrays.length:Int)),(17,vI 0)] ?_;obtain ⟨aL,aC,hMl1⟩:=zB N;refine zC5 p a0 ag 0 0 aL aC iR h3 h h2 nG nO ?_ ?_
 · intro bH  heq1 aX;subst aL;refine zR<|uJ [6] rfl<|zK<|xF ?_;obtain rfl:=zE hMl1;exact vZ
 intro r0 I9 hs9 m9 aY le9 aZ;subst aY;refine zV<|zI ?_;obtain rfl:=zE hMl1;exact dB aZ
def pZ (aD:List HA) (r:Int):KT:=fun kk I' ah v=>
  ∃ v0,aD=ah/\v=tupV [v0]/\v0=.int .i64 r
def xT (s:(List zJ)) (f0:(zJ->Option Bool)) (t8:Int):Option (Out Unit (Int)):=do
 if (decide (t8<(s.length:Int))) then
  let x<-idx s t8;let y<-f0 x;if y then pure (.ret t8)
  else xT s f0 (W (t8+1))
 else pure (.done ())
 partial_fixpoint
theorem fH (s:(List zJ)) (f0:(zJ->Option Bool)):∀ (t8:Int) (o:Out Unit (Int)),xT s f0 t8=some o->∀ {B}{I0 I:Imm}{Q p c}{fv:Value}{aD:List HA},I0.le I->(S4 I p s c)->(FV1 Tryz.prog I aD fv f0)->NG Q->NO Q->(∀ I',o=(.done ())->I0.le I'->T 19 B Q (.exit 0) I' aD [])->(∀ r I' ah m',o=(.ret r)->I0.le I'->RS Tryz.prog f145 B (pZ aD r) I' ah m'->T 19 B Q .ret I' ah m')->J Tryz.prog 19 B (nav (bodyOf f145) [1,0,1,0]) Q I aD [(0,vS p s c),(1,fv),(7,vI (s.length:Int)),(8,vI t8)]:=by
 refine xT.partial_correctness s f0 _ fun aJ ih t8 o N B I0 I Q p c fv aD H h h1 hg ho hx hr=>yZ hg ho<|yI [9] rfl<|zZ<|yE N ?_ ?_
 · intro hc N;refine zS<|zZ<|yH<|yI [5] rfl<|yT<|yD 3 [] [11,12,13] rfl<|bE N fun x hy N=>wA rfl rfl h hy ?_;intro ad aK ap al;obtain ⟨p1,c1,rfl,h2⟩:=tY al;refine xP 0 ap (cAccess x p1 c1) (vA (cAccess x p1 c1)) rfl<|bE N fun y ax N=>zKT rfl rfl h1 ax ⟨_,rfl,(oK ⟨_,rfl,h2⟩)⟩ (co _).symm ?_;rintro I0 v01 le rfl;refine vQ (ah:=aD) (co _) ?_;have ⟨h,h1,H⟩:=m3 le h h1 H;refine zU rfl<|zK<|yE N ?_ ?_
   · intro aH N;exact yI [4] rfl<|xL<|zV<|zI<|zI<|hr _ _ _ _ (zE N).symm H ⟨_,_,(resT rfl),(fun _ h=>h),⟨_,rfl,rfl,rfl⟩⟩
   intro aH N;exact zS<|zP<|zK<|zM<|yL [] [8] rfl<|yX<|mC<|ih (W (t8+1)) _ N H h h1 hg ho hx hr
 intro hc N;exact vC<|yQ<|hx _  (zE N).symm H
def uF (s:(List zJ)) (f0:(zJ->Option Bool)):Option (Int):=do
 match<-xT s f0 0 with
 | .ret r0=>pure r0
 | .done _ =>
  pure (-1)
theorem eH:∀ s f0 r,uF s f0=some r->∀ {I:Imm}{p c}{fv:Value}{aD:List HA},(S4 I p s c)->(FV1 Tryz.prog I aD fv f0)->RT 145 [vS p s c,fv] I aD (pZ aD r):=by
 intro s f0 r N I p c fv aD h h1;unfold uF at N;refine yJ func145 fun B=>vK []<|zZ<|yI [7,8] rfl<|wQ<|pM [(0,vS p s c),(1,fv),(7,vI (s.length:Int)),(8,vI 0)] ?_;obtain ⟨o0,az,aG⟩:=zB N;refine fH s f0 0 o0 az iR h h1 nG nO ?_ ?_
 · intro aR  heq ae;subst o0;refine zR<|uJ [4] rfl<|zK<|xF ?_;exact xO aG (resT rfl) (fun _ h=>h) ⟨_,rfl,rfl,rfl⟩
 intro r0 I9 hs9 m9 aY le9 aZ;subst aY;refine zV<|zI ?_;obtain rfl:=zE aG;exact dB aZ
def gG (aD:List HA) (r:Bool):KT:=fun kk I' ah v=>
  ∃ v0,aD=ah/\v=tupV [v0]/\v0=.bool r
def wS (s:(List zJ)) (f0:(zJ->Option Bool)):Option (Bool):=do
 let y<-uF s f0;pure (decide (y>=0))
theorem fI:∀ s f0 r,wS s f0=some r->∀ {I:Imm}{p c}{fv:Value}{aD:List HA},(S4 I p s c)->(FV1 Tryz.prog I aD fv f0)->RT 104 [vS p s c,fv] I aD (gG aD r):=by
 intro s f0 r N I p c fv aD h h1;unfold wS at N;refine yJ func104 fun B=>vK []<|yT<|yD 2 [] [5,6] rfl<|bE N fun y hy N=>zG1 (hs1:=aD) (rest:=[]) rfl rfl rfl rfl (by kernel_rfl) rfl (co _).symm (eH s f0 _ hy h h1) ?_;rintro I0 av v2 k2 le - ⟨v0,rfl,rfl,rfl⟩ -;refine vQ (ah:=aD) (co _) ?_;refine yL [] [4] rfl<|zK<|xF ?_;exact xO N (resT rfl) (fun _ h=>h) ⟨_,rfl,rfl,rfl⟩
def tZ (a0:zJ) (x:zH) (x1:(List Int)):Option (Bool):=do
 let y<-rP x a0 x1;pure (decide (y<0))
theorem zCO:∀ a0 x x1 r,tZ a0 x x1=some r->∀ {I:Imm}{p c}{ad:Addr}{p1 c1 p2 c2}{ad1:Addr}{p3 c3},(S4 I p a0.Subs c)->(S4 I p1 x.Arrays c1)->(S4 I p2 x.Parts c2)->(At I ad (cProg x p1 c1 p2 c2))->(S4 I p3 x1 c3)->(At I ad1 [vS p3 x1 c3])->RT 105 [vA (cAccess a0 p c),.pointer (some ad),.pointer (some ad1)] I [] (zQ  r):=by
 intro a0 x x1 r N I p c ad p1 c1 p2 c2 ad1 p3 c3 h h1 h2 ap h3 ay;unfold tZ at N;refine yJ func105 fun B=>yA<|vD (cAccess a0 p c) ?_;intro b hb;refine wT [] []<|yT<|xP 0 ap (cProg x p1 c1 p2 c2) (vA (cProg x p1 c1 p2 c2)) rfl<|vU 2 [0] [(6,vA (cAccess a0 p c))]<|xP 0 ay [vS p3 x1 c3] (vS p3 x1 c3) rfl<|bE N fun y hy N=>dL (gX x a0 x1 _ hy h1 h2 h h3) fun I0 le=>wT [] [(4,.bool (decide (y<0)))]<|zK<|xF ?_;obtain rfl:=zE N;exact vZ
def mI (p:zH) (s:zG) (ag:(List Int)):Option (Bool):=do
 let t6<-(do
   let y<-rP p s.Write ag;if (decide (y>=0)) then
    let y1<-gV s.Value;let y2<-wS y1 (fun x0=>tZ x0 p ag);pure (!y2)
   else
    pure false
     : Option Bool)
 pure (id t6)
theorem zCv:∀ p s ag r,mI p s ag=some r->∀ {I:Imm}{p1 c p2 c1 p3 c2 p4 c3 p5 c4 p6 c5 p7 c6},(S4 I p1 p.Arrays c)->(S4 I p2 p.Parts c1)->(S4 I p3 s.Write.Subs c2)->(S4 I p4 s.Value.Index.Coefs c3)->(S4 I p5 s.Value.Read.Subs c4)->(S4 I p6 s.Value.Kids c5)->(S4 I p7 ag c6)->RT 63 [vA (cProg p p1 c p2 c1),vA (cStmt s p3 c2 p4 c3 p5 c4 p6 c5),vS p7 ag c6] I [] (zQ  r):=by
 intro p s ag r N I p1 c p2 c1 p3 c2 p4 c3 p5 c4 p6 c5 p7 c6 h h1 h2 h3 h4 h5 h6;unfold mI at N;refine yJ func63 fun B=>?_;have H:=iS I;refine yA<|vD (cProg p p1 c p2 c1) ?_;intro b hb;refine wC 0 rfl ?_;intro I0 le hl0;have ap:At I0 ⟨b,0,none⟩ (cProg p p1 c p2 c1):=At.of_blk hl0;have ⟨h,h1,h2,h3,h4,h5⟩:=m6 le h h1 h2 h3 h4 h5;have ⟨h6,H⟩:=m2 le h6 H;refine vD (cStmt s p3 c2 p4 c3 p5 c4 p6 c5) ?_;intro b1 hb1;refine vD [vS p7 ag c6] ?_;intro b2 hb2;refine wC 0 rfl ?_;intro aR ae hl01;have ay:At aR ⟨b2,0,none⟩ [vS p7 ag c6]:=At.of_blk hl01;have ⟨h,h1,h2,h3,h4,h5⟩:=m6 ae h h1 h2 h3 h4 h5;have ⟨h6,ap,H⟩:=m3 ae h6 ap H;refine wT [] []<|zK<|yC ?_;refine wU N [] (fun t6=>[(6,.bool t6)]) (fun o0 az=>?_) ?_
 · have H:=iS aR;refine zM<|xP 0 ap (cProg p p1 c p2 c1) (vA (cProg p p1 c p2 c1)) rfl<|vU 3 [0] [(9,vA (cAccess s.Write p3 c2))]<|xP 0 ay [vS p7 ag c6] (vS p7 ag c6) rfl ?_;obtain ⟨y,hy,N⟩:=zB az;refine dL (gX p s.Write ag _ hy h h1 h2 h6) ?_;intro bv aB;have ⟨h,h1,ap,h6,ay,h3⟩:=m6 aB h h1 ap h6 ay h3;have ⟨h4,h5,H⟩:=m3 aB h4 h5 H;refine yD 7 [] [13] rfl<|wD [13] N ?_ ?_
   · intro hc N;refine vU 9 [0] [(15,vA (cExpr s.Value p4 c3 p5 c4 p6 c5))]<|bE N fun y1 ax N=>xJ (zEi s.Value _ ax h3 h4 h5) ?_;rintro bH av v2 k2 aF - ⟨v01,rfl,rfl,h8⟩ -;have ⟨h,h1,ap,h6,ay,H⟩:=m6 aF h h1 ap h6 ay H;obtain ⟨p8,c7,rfl⟩:=h8.form;refine yD 11 [] [17] rfl ?_;have hf0:FV1 Tryz.prog bH [] (.func (.func 105) ⟨[]⟩ ⟨[vP b 0,vP b2 0]⟩) (fun x0=>tZ x0 p ag):=by
       refine FV1.intro ?_;intro I1 ae x0 r u0 hF k0;obtain ⟨_,rfl,k0⟩:=k0;obtain ⟨p9,c8,rfl,h9⟩:=tY k0;exact (zCO x0 p ag r hF h9 (h.mono ae) (h1.mono ae) (ap.mono ae) (h6.mono ae) (ay.mono ae)).mono (by rintro k i hs u ⟨v0,rfl,rfl,h⟩; exact ⟨rfl,h⟩)
     obtain ⟨y2,aE,N⟩:=zB N;refine xJ (fI y1 (fun x0=>tZ x0 p ag) _ aE h8 hf0) ?_;rintro bO av v2 k2 aX - ⟨v03,rfl,rfl,rfl⟩ -;have H:=H.trans aX;exact yL [] [6] rfl<|wH zN<|yQ<|zT (ct N H)
   intro hc N;exact wT [] [(6,vF)]<|wH zN<|yQ<|zT (ct N H)
 intro t6 aV bi aT;refine zK<|xF ?_;obtain rfl:=zE aT;exact vZ
def oO (r:(List zX)×Bool):KT:=fun kk I' ah v=>
  ∃ v0 v1,ah=[]/\v=tupV [v0,v1]/\SL I' v0 r.1/\v1=.bool r.2
def uG (p:zH) (t26:Int) (x:zL) (x1:(List Int)) (bM:List zX) (t64:Int):Option (Out (List zX) ((List zX)×Bool)):=do
 if (decide (t64<(x.Body.length:Int))) then
  let x2<-idx x.Body t64;let y7<-mI p x2 x1;if (!y7) then pure (.ret (([]:List zX),false))
  else
   let y8<-uE x1;let out6<-app 40 bM ([(zX.mk t26 t64 y8)]:List zX);uG p t26 x x1 out6 (W (t64+1))
 else pure (.done bM)
 partial_fixpoint
theorem zBL (p:zH) (t26:Int) (x:zL) (x1:(List Int)):∀ (bM:List zX) (t64:Int) (o:Out (List zX) ((List zX)×Bool)),uG p t26 x x1 bM t64=some o->∀ {B}{I0 I:Imm}{Q}{y2:(List (List Int))}{t54:Int}{p1 c p2 c1}{b}{p5 c4 p6 c5}{b1}{p7 c6 p14 bc p15 c14 bw},I0.le I->(S4 I p5 x.Nest c4)->(S4 I p6 x.Body c5)->(At I ⟨b1,0,none⟩ (cPart x p5 c4 p6 c5))->(S4 I p14 x1 bc)->(S4 I p2 p.Parts c1)->(S4 I p7 y2 c6)->(S4 I p1 p.Arrays c)->(RL I bw bM)->NG Q->NO Q->(∀ I' out5 p16 c15 bC,o=(.done out5)->I0.le I'->(RL I' bC out5)->T 89 B Q (.exit 4) I' [hO zX (vS p16 out5 c15) bC,hB b (cProg p p1 c p2 c1)] [(1,vP b 0),(4,vS p16 out5 c15),(5,vI t26),(6,vP b1 0),(24,vS p2 p.Parts c1),(25,vI (p.Parts.length:Int)),(26,vI t26),(52,vS p7 y2 c6),(53,vI (y2.length:Int)),(54,vI t54)])->(∀ r I' ah m',o=(.ret r)->I0.le I'->RS Tryz.prog f25 B (oO  r) I' ah m'->T 89 B Q .ret I' ah m')->J Tryz.prog 89 B (nav (bodyOf f25) [1,1,1,0,1,0,0,1,1,0,0,1,1,1,1,0,0,1,1,0,0,1,1,1,0]) Q I [hO zX (vS p15 bM c14) bw,hB b (cProg p p1 c p2 c1)] [(1,vP b 0),(4,vS p15 bM c14),(5,vI t26),(6,vP b1 0),(10,vS p14 x1 bc),(24,vS p2 p.Parts c1),(25,vI (p.Parts.length:Int)),(26,vI t26),(52,vS p7 y2 c6),(53,vI (y2.length:Int)),(54,vI t54),(62,vS p6 x.Body c5),(63,vI (x.Body.length:Int)),(64,vI t64)]:=by
 refine uG.partial_correctness p t26 x x1 _ fun aJ ih bM t64 o N B I0 I Q y2 t54 p1 c p2 c1 b p5 c4 p6 c5 b1 p7 c6 p14 bc p15 c14 bw H h6 h7 ay h18 h1 h8 h h20 hg ho hx hr=>yZ hg ho<|yI [65] rfl<|zZ<|yE N ?_ ?_
 · intro hc8 N;refine zS<|zZ<|yH<|yA<|yD 1 [] [66] rfl<|bE N fun x2 hy7 N=>wA rfl rfl h7 hy7 ?_;intro ad2 bR hat3 bu;obtain ⟨p17,c16,p18,c17,p19,c18,p20,c19,rfl,h22,h23,h24,h25⟩:=wI bu;refine xP 0 hat3 (cStmt x2 p17 c16 p18 c17 p19 c18 p20 c19) (vA (cStmt x2 p17 c16 p18 c17 p19 c18 p20 c19)) rfl<|xU [vT ([]),z0,vI 0,vI 0,z0,vI 0,vT ([]),z0,z0] ?_;intro b2 hb2;refine yD 5 [] [11] rfl<|yS 0 (cStmt x2 p17 c16 p18 c17 p19 c18 p20 c19) rfl<|zU rfl<|zZ<|yA<|vU 3 [2,0] [(69,vA (cProg p p1 c p2 c1)),(70,vA (cStmt x2 p17 c16 p18 c17 p19 c18 p20 c19)),(71,vS p14 x1 bc)]<|bE N fun y7 hy8 N=>vR (zCv p x2 x1 _ hy8 h h1 h22 h23 h24 h25 h18) ?_;intro I08 le8;have ⟨h20,h6,h7,ay,h18,h1⟩:=m6 le8 h20 h6 h7 ay h18 h1;have ⟨h8,h,H⟩:=m3 le8 h8 h H;refine yL [] [73] rfl<|zK<|yE N ?_ ?_
   · intro hc9 N;exact yI [2,3] rfl<|xL<|zI<|zV<|zI<|zI<|hr _ _ _ _ (zE N).symm H ⟨_,_,(resU rfl rfl),zN,⟨_,_,rfl,rfl,(SL.nil _),rfl⟩⟩
   intro hc9 N;refine zS<|zK<|zM<|yD 4 [] [74,75,76,77] rfl<|bE N fun y8 hy9 N=>xJ (oL x1 _ hy9 h18) ?_;rintro I09 av v2 k2 le9 - ⟨p21,c20,cs6,rfl,rfl,h27⟩ -;have ⟨h6,h7,ay,h18,h1,h8⟩:=m6 le9 h6 h7 ay h18 h1 h8;have ⟨h20,h,H⟩:=m3 le9 h20 h H;refine yD 6 [] [79] rfl<|wC 0 rfl ?_;intro bL le10 hl01;have h28:=SL.of_frozen hl01 le10 h27;have ⟨h6,h7,ay,h18,h1,h8⟩:=m6 le10 h6 h7 ay h18 h1 h8;have ⟨h20,h,H⟩:=m3 le10 h20 h H;refine tK [vI t26,vI t64,vS p21 y8 c20] zX ?_;intro b3 hb3;have h29:RL bL [vI t26,vI t64,vS p21 y8 c20] ([(zX.mk t26 t64 y8)]:List zX):=⟨[vI t26,vI t64,vS p21 y8 c20],_,rfl,rfl,(zEs ⟨_,rfl,h28⟩),rfl⟩;obtain ⟨out6,hy10,N⟩:=zB N;exact qA 64 3 2 rfl rfl rfl h20 (.inr ⟨0,rfl⟩) h29 hy10 fun p22 c21 cs7 h30=>tU (zY [1,2,3] (ah:=[hB b2 (cStmt x2 p17 c16 p18 c17 p19 c18 p20 c19),hO zX (vS p22 out6 c21) cs7,hB b (cProg p p1 c p2 c1)]))<|yL [] [4] rfl<|zP<|zK<|zM<|yL [] [64] rfl<|yX<|qY (zW [1,2] rfl (by decide))<|mC<|ih out6 (W (t64+1)) _ N H h6 h7 ay h18 h1 h8 h h30 hg ho hx hr
 intro hc8 N;exact vC<|yQ<|hx _ _ _ _ _ (zE N).symm H h20
def uH (p:zH) (t26:Int) (x:zL) (y2:(List (List Int))) (au:List zX) (t54:Int):Option (Out (List zX) ((List zX)×Bool)):=do
 if (decide (t54<(y2.length:Int))) then
  let x1<-idx y2 t54;let y6<-dX x1;if (!y6) then pure (.ret (([]:List zX),false))
  else
   match<-uG p t26 x x1 au 0 with
   | .ret r0=>pure (.ret r0)
   | .done out5 =>
    uH p t26 x y2 out5 (W (t54+1))
 else pure (.done au)
 partial_fixpoint
theorem zBM (p:zH) (t26:Int) (x:zL) (y2:(List (List Int))):∀ (au:List zX) (t54:Int) (o:Out (List zX) ((List zX)×Bool)),uH p t26 x y2 au t54=some o->∀ {B}{I0 I:Imm}{Q p1 c p2 c1}{b}{p5 c4 p6 c5}{b1}{p7 c6 bm aQ aU},I0.le I->(S4 I p5 x.Nest c4)->(S4 I p6 x.Body c5)->(At I ⟨b1,0,none⟩ (cPart x p5 c4 p6 c5))->(S4 I p2 p.Parts c1)->(S4 I p7 y2 c6)->(S4 I p1 p.Arrays c)->(RL I aU au)->NG Q->NO Q->(∀ I' bx aS aW aO,o=(.done bx)->I0.le I'->(RL I' aO bx)->T 89 B Q (.exit 2) I' [hO zX (vS aS bx aW) aO,hB b (cProg p p1 c p2 c1)] [(1,vP b 0),(4,vS aS bx aW),(24,vS p2 p.Parts c1),(25,vI (p.Parts.length:Int)),(26,vI t26)])->(∀ r I' ah m',o=(.ret r)->I0.le I'->RS Tryz.prog f25 B (oO  r) I' ah m'->T 89 B Q .ret I' ah m')->J Tryz.prog 89 B (nav (bodyOf f25) [1,1,1,0,1,0,0,1,1,0,0,1,1,1,1,0]) Q I [hO zX (vS bm au aQ) aU,hB b (cProg p p1 c p2 c1)] [(1,vP b 0),(4,vS bm au aQ),(5,vI t26),(6,vP b1 0),(24,vS p2 p.Parts c1),(25,vI (p.Parts.length:Int)),(26,vI t26),(52,vS p7 y2 c6),(53,vI (y2.length:Int)),(54,vI t54)]:=by
 refine uH.partial_correctness p t26 x y2 _ fun aJ ih au t54 o N B I0 I Q p1 c p2 c1 b p5 c4 p6 c5 b1 p7 c6 bm aQ aU H h6 h7 ay h1 h8 h h16 hg ho hx hr=>yZ hg ho<|yI [55] rfl<|zZ<|yE N ?_ ?_
 · intro hc6 N;refine zS<|zZ<|yH<|yA<|bE N fun x1 bD N=>wA rfl rfl h8 bD ?_;intro ad1 bo bq aA;obtain ⟨v011,rfl,h18⟩:=aA;obtain ⟨p14,bc,rfl⟩:=h18.form;refine xP 0 bq [vS p14 x1 bc] (vS p14 x1 bc) rfl<|yL [] [10] rfl<|zZ<|yA<|yD 1 [] [58] rfl<|bE N fun y6 hy6 N=>vR (zHQ x1 _ hy6 h18) ?_;intro I07 le7;have ⟨h16,h6,h7,ay,h18,h1⟩:=m6 le7 h16 h6 h7 ay h18 h1;have ⟨h8,h,H⟩:=m3 le7 h8 h H;refine yL [] [60] rfl<|zK<|yE N ?_ ?_
   · intro hc7 N;exact yI [2,3] rfl<|xL<|zI<|zV<|zI<|zI<|hr _ _ _ _ (zE N).symm H ⟨_,_,(resU rfl rfl),zN,⟨_,_,rfl,rfl,(SL.nil _),rfl⟩⟩
   intro hc7 N;refine zS<|yT<|yD 1 [] [61] rfl<|xP 1 ay [vS p6 x.Body c5] (vS p6 x.Body c5) rfl<|yL [] [63,64] rfl<|wQ<|pM [(1,vP b 0),(4,vS bm au aQ),(5,vI t26),(6,vP b1 0),(10,vS p14 x1 bc),(24,vS p2 p.Parts c1),(25,vI (p.Parts.length:Int)),(26,vI t26),(52,vS p7 y2 c6),(53,vI (y2.length:Int)),(54,vI t54),(62,vS p6 x.Body c5),(63,vI (x.Body.length:Int)),(64,vI 0)] ?_;obtain ⟨o02,ho02,aG⟩:=zB N;refine zBL p t26 x x1 au 0 o02 ho02 iR h6 h7 ay h18 h1 h8 h h16 (fun _ _ _ h=>hg _ _ _ h) (fun _ _ h=>ho _ _ h) ?_ ?_
   · intro bW out5 p16 c15 bC heq2 le11 h21;subst o02;have ⟨h6,h7,ay,h1,h8,h⟩:=m6 le11 h6 h7 ay h1 h8 h;have H:=H.trans le11;exact zR<|zP<|zK<|zM<|yL [] [54] rfl<|yX<|mC<|ih out5 (W (t54+1)) _ aG H h6 h7 ay h1 h8 h h21 hg ho hx hr
   intro r0 I9 hs9 m9 aY le9 aZ;subst aY;exact zV<|zV<|zI<|zI<|hr _ _ _ _ (zE aG).symm (H.trans le9) aZ
 intro hc6 N;exact vC<|yQ<|hx _ _ _ _ _ (zE N).symm H h16
def uI (p:zH) (out:List zX) (t26:Int):Option (Out (List zX) ((List zX)×Bool)):=do
 if (decide (t26<(p.Parts.length:Int))) then
  let x<-idx p.Parts t26;let (y2,y3)<-gU x.Nest;let t51<-(do
    if (!y3) then pure true
    else
     let y4<-wW (x.Body.length:Int) 1 4;if (!y4) then pure true
     else
      let y5<-wZ x.Body (fun x0=>uN x0 x);pure (id y5)
      : Option Bool)
  if t51 then pure (.ret (([]:List zX),false))
  else
   match<-uH p t26 x y2 out 0 with
   | .ret r0=>pure (.ret r0)
   | .done bx =>
    uI p bx (W (t26+1))
 else pure (.done out)
 partial_fixpoint
theorem zBN (p:zH):∀ (out:List zX) (t26:Int) (o:Out (List zX) ((List zX)×Bool)),uI p out t26=some o->∀ {B}{I0 I:Imm}{Q p1 c p2 c1}{b}{p3 c2 cs},I0.le I->(S4 I p2 p.Parts c1)->(S4 I p1 p.Arrays c)->(RL I cs out)->NG Q->NO Q->(∀ I' am p4 c3 aw,o=(.done am)->I0.le I'->(RL I' aw am)->T 89 B Q (.exit 0) I' [hO zX (vS p4 am c3) aw] [(4,vS p4 am c3)])->(∀ r I' ah m',o=(.ret r)->I0.le I'->RS Tryz.prog f25 B (oO  r) I' ah m'->T 89 B Q .ret I' ah m')->J Tryz.prog 89 B (nav (bodyOf f25) [1,1,1,0,1,0]) Q I [hO zX (vS p3 out c2) cs,hB b (cProg p p1 c p2 c1)] [(1,vP b 0),(4,vS p3 out c2),(24,vS p2 p.Parts c1),(25,vI (p.Parts.length:Int)),(26,vI t26)]:=by
 refine uI.partial_correctness p _ fun aJ ih out t26 o N B I0 I Q p1 c p2 c1 b p3 c2 cs H h1 h h4 hg ho hx hr=>yZ hg ho<|yI [27] rfl<|zZ<|yE N ?_ ?_
 · intro bf N;refine zS<|zZ<|yH<|yA<|yD 1 [] [28] rfl<|bE N fun x ax N=>wA rfl rfl h1 ax ?_;intro ad aK ap al;obtain ⟨p5,c4,p6,c5,rfl,h6,h7⟩:=wX al;refine xP 0 ap (cPart x p5 c4 p6 c5) (vA (cPart x p5 c4 p6 c5)) rfl<|xU zTwo ?_;intro b1 hb1;refine yD 5 [] [5] rfl<|yS 0 (cPart x p5 c4 p6 c5) rfl<|zU rfl<|yT<|yD 2 [0] [33] rfl ?_;obtain ⟨⟨y2,y3⟩,aE,N⟩:=zB N;refine xJ (zEx x.Nest _ aE h6) ?_;rintro aV av v2 k2 aB - ⟨v03,v04,rfl,rfl,h8,rfl⟩ -;have ⟨h4,h1,h6,h7,h,H⟩:=m6 aB h4 h1 h6 h7 h H;obtain ⟨p7,c6,rfl⟩:=h8.form;refine yL [] [7,8] rfl<|zZ<|yC<|oJ 0 rfl ?_;intro bv aF hl0;have ay:At bv ⟨b1,0,none⟩ (cPart x p5 c4 p6 c5):=At.of_blk hl0;have ⟨h4,h6,h7,h8,h1,h⟩:=m6 aF h4 h6 h7 h8 h1 h;have H:=H.trans aF;refine wU N [hO zX (vS p3 out c2) cs,hB b (cProg p p1 c p2 c1)] (fun t51=>[(1,vP b 0),(4,vS p3 out c2),(5,vI t26),(6,vP b1 0),(7,vS p7 y2 c6),(24,vS p2 p.Parts c1),(25,vI (p.Parts.length:Int)),(26,vI t26),(51,.bool t51)]) (fun aL aC=>?_) ?_
   · have H:=iS bv;refine zM<|yD 3 [] [39] rfl<|wD [39] aC ?_ ?_
     · intro bG N;exact wT [] [(51,vY)]<|yQ<|zT (ct N H)
     intro bG N;refine yD 4 [] [40] rfl<|xP 1 ay [vS p6 x.Body c5] (vS p6 x.Body c5) rfl<|yD 6 [] [42] rfl<|bE N fun y4 bj N=>vR (vG (x.Body.length:Int) 1 4 _ bj ) ?_;intro bO aX;have ⟨h6,h7,ay,h,H⟩:=m5 aX h6 h7 ay h H;refine yD 10 [] [46] rfl<|wD [46] N ?_ ?_
     · intro bN N;exact wT [] [(51,vY)]<|yQ<|zT (ct N H)
     intro bN N;refine yD 11 [] [47] rfl<|xP 1 ay [vS p6 x.Body c5] (vS p6 x.Body c5) rfl<|yD 13 [] [49] rfl ?_;have hf0:FV1 Tryz.prog bO [] (.func (.func 60) ⟨[]⟩ ⟨[vP b1 0]⟩) (fun x0=>uN x0 x):=by
       refine FV1.intro ?_;intro I1 ae x0 r u0 hF k0;obtain ⟨_,rfl,k0⟩:=k0;obtain ⟨p8,c7,p9,c8,aM,c9,aI,aP,rfl,h11,h12,h13,h14⟩:=wI k0;exact (zBX x0 x r hF h11 h12 h13 h14 (h6.mono ae) (h7.mono ae) (ay.mono ae)).mono (by rintro k i hs u ⟨v0,rfl,rfl,h⟩; exact ⟨rfl,h⟩)
     obtain ⟨y5,bt,N⟩:=zB N;refine xJ (eV x.Body (fun x0=>uN x0 x) _ bt h7 hf0) ?_;rintro I06 av v2 k2 bi - ⟨v010,rfl,rfl,rfl⟩ -;have H:=H.trans bi;exact yL [] [51] rfl<|yQ<|zT (ct N H)
   intro t51 bH bB hMc1;have ⟨h4,h6,h7,ay,h8,h1⟩:=m6 bB h4 h6 h7 ay h8 h1;have ⟨h,H⟩:=m2 bB h H;refine zK<|yE hMc1 ?_ ?_
   · intro hc5 N;exact yI [2,3] rfl<|xL<|zI<|zV<|zI<|zI<|hr _ _ _ _ (zE N).symm H ⟨_,_,(resU rfl rfl),zN,⟨_,_,rfl,rfl,(SL.nil _),rfl⟩⟩
   intro hc5 N;refine zS<|uJ [52,53,54] rfl<|wQ<|pM [(1,vP b 0),(4,vS p3 out c2),(5,vI t26),(6,vP b1 0),(24,vS p2 p.Parts c1),(25,vI (p.Parts.length:Int)),(26,vI t26),(52,vS p7 y2 c6),(53,vI (y2.length:Int)),(54,vI 0)] ?_;obtain ⟨o03,ho03,hMl1⟩:=zB N;refine zBM p t26 x y2 out 0 o03 ho03 iR h6 h7 ay h1 h8 h h4 (fun _ _ _ h=>hg _ _ _ h) (fun _ _ h=>ho _ _ h) ?_ ?_
   · intro bS bx aS aW aO heq3 le12 h17;subst o03;have ⟨h1,h,H⟩:=m3 le12 h1 h H;exact zR<|zP<|zK<|zM<|yL [] [26] rfl<|yX<|mC<|ih bx (W (t26+1)) _ hMl1 H h1 h h17 hg ho hx hr
   intro r0 I9 hs9 m9 aY le9 aZ;subst aY;exact zV<|zV<|zI<|zI<|hr _ _ _ _ (zE hMl1).symm (H.trans le9) aZ
 intro bf N;exact vC<|wH (zW [0] rfl (by decide))<|yQ<|hx _ _ _ _ _ (zE N).symm H h4
def tL (p:zH):Option ((List zX)×Bool):=do
 let t22<-(do
   let y<-dD p.Arrays;if (!y) then pure true
   else
    pure (decide ((p.Parts.length:Int)>4))
     : Option Bool)
 if t22 then pure (([]:List zX),false)
 else
  match<-uI p ([]:List zX) 0 with
  | .ret r0=>pure r0
  | .done am =>
   pure (am,(decide ((am.length:Int)<=120)))
theorem gH:∀ p r,tL p=some r->∀ {I:Imm}{p1 c p2 c1},(S4 I p1 p.Arrays c)->(S4 I p2 p.Parts c1)->RT 25 [vA (cProg p p1 c p2 c1)] I [] (oO  r):=by
 intro p r N I p1 c p2 c1 h h1;unfold tL at N;refine yJ func25 fun B=>?_;have H:=iS I;refine yA<|vD (cProg p p1 c p2 c1) ?_;intro b hb;refine wT [] []<|zZ<|yC ?_;refine wU N [hB b (cProg p p1 c p2 c1)] (fun t22=>[(1,vP b 0),(22,.bool t22)]) (fun o0 az=>?_) ?_
 · have H:=iS I;refine zM<|yD 2 [0] [14] rfl ?_;obtain ⟨y,hy,N⟩:=zB az;refine vR (zGf p.Arrays _ hy h) ?_;intro aR le;have H:=H.trans le;refine yD 5 [] [17] rfl<|wD [17] N ?_ ?_
   · intro hc N;exact wT [] [(22,vY)]<|yQ<|zT (ct N H)
   intro hc N;exact yL [0] [22] rfl<|yQ<|zT (ct N H)
 intro t22 I0 ae aT;have ⟨h,h1⟩:=m2 ae h h1;refine zK<|yE aT ?_ ?_
 · intro aH N;refine yI [2,3] rfl<|xL<|zI ?_;exact xO N (resU rfl rfl) zN ⟨_,_,rfl,rfl,(SL.nil _),rfl⟩
 intro aH N;refine zS<|zEt [(4,z0)]<|zZ<|yA<|yL [0] [24,25,26] rfl<|wQ<|pM [(1,vP b 0),(4,z0),(24,vS p2 p.Parts c1),(25,vI (p.Parts.length:Int)),(26,vI 0)]<|zAP zX fun h3=>?_;obtain ⟨o04,ho04,hMl2⟩:=zB N;refine zBN p ([]:List zX) 0 o04 ho04 iR h1 h h3 nG nO ?_ ?_
 · intro I013 am p4 c3 aw heq4 le13 h5;subst o04;refine zR<|uJ [2,3] rfl<|xL<|xA 0 rfl ?_;intro I014 le14 hl02;have h31:=SL.of_frozen hl02 le14 h5;exact xO hMl2 (resU rfl rfl) zN ⟨_,_,rfl,rfl,h31,rfl⟩
 intro r0 I9 hs9 m9 aY le9 aZ;subst aY;refine zV<|zI ?_;obtain rfl:=zE hMl2;exact dB aZ
def zB8 (r:(List zX)):KT:=fun kk I' ah v=>
  ∃ v0,ah=[]/\v=tupV [v0]/\SL I' v0 r
def qB (p:zH):Option ((List zX)):=do
 let (y1,y2)<-tL p;if (!y2) then pure ([]:List zX)
 else pure (id y1)
theorem zAS:∀ p r,qB p=some r->∀ {I:Imm}{p1 c p2 c1},(S4 I p1 p.Arrays c)->(S4 I p2 p.Parts c1)->RT 13 [vA (cProg p p1 c p2 c1)] I [] (zB8  r):=by
 intro p r N I p1 c p2 c1 h h1;unfold qB at N;refine yJ func13 fun B=>yA<|vD (cProg p p1 c p2 c1) ?_;intro b hb;refine wT [] []<|yT<|vU 1 [0] [(6,vA (cProg p p1 c p2 c1))] ?_;obtain ⟨⟨y1,y2⟩,hy,N⟩:=zB N;refine xJ (gH p _ hy h h1) ?_;rintro I0 av v2 k2 le - ⟨v0,v01,rfl,rfl,h2,rfl⟩ -;obtain ⟨p3,c2,rfl⟩:=h2.form;refine yL [] [3,4] rfl<|zZ<|yI [11] rfl<|zK<|yE N ?_ ?_
 · intro hc N;refine vK [(2,z0)]<|xL<|zI ?_;exact xO N (resT rfl) zN ⟨_,rfl,rfl,(SL.nil _)⟩
 intro hc N;refine zS<|uJ [2] rfl<|zK<|xF ?_;exact xO N (resT rfl) zN ⟨_,rfl,rfl,h2⟩
def oY (r:zG):KT:=fun kk I' ah v=>
  ∃ v0,ah=[]/\v=tupV [v0]/\(∃ cs,v0=.agg ⟨cs⟩/\Rp.rep I' cs r)
def fQ (p:zH) (x:zX):Option (zG):=do
 let x1<-idx p.Parts x.Part;let x2<-idx x1.Body x.Stmt;pure (id x2)
theorem zDk:∀ p x r,fQ p x=some r->∀ {I:Imm}{p1 c p2 c1 p3 c2},(S4 I p1 p.Arrays c)->(S4 I p2 p.Parts c1)->(S4 I p3 x.Point c2)->RT 29 [vA (cProg p p1 c p2 c1),vA (cInst x p3 c2)] I [] (oY  r):=by
 intro p x r N I p1 c p2 c1 p3 c2 h h1 h2;unfold fQ at N;refine yJ func29 fun B=>yA<|vD (cProg p p1 c p2 c1) ?_;intro b hb;refine vD (cInst x p3 c2) ?_;intro b1 hb1;refine xU [vT ([]),z0,vI 0,vI 0,z0,vI 0,vT ([]),z0,z0] ?_;intro b2 hb2;refine zU rfl<|zK<|yC ?_;obtain ⟨x1,hy,N⟩:=zB N;obtain ⟨x2,ax,N⟩:=zB N;refine wV [.p (vP b 1) [],.p (vS p2 p.Parts c1) [2],.p (vP b1 0) [],.p (vI x.Part) [1],.x (ePPart x1),.x (eQPart 1 x1),.x (eS x1.Body),.p (vP b1 1) [],.p (vI x.Stmt) [1],.x (ePStmt x2),.x (eVStmt x2)] [[],[(0,false)],[],[(2,false)],[(1,false),(3,false)],[(4,false)],[(5,false)],[],[(7,false)],[(6,false),(8,false)],[(9,false)]] [hB b2 [vT ([]),z0,vI 0,vI 0,z0,vI 0,vT ([]),z0,z0],hB b1 (cInst x p3 c2),hB b (cProg p p1 c p2 c1)] [] [(10,false)] (zY [0,1,2]) ?_ ?_
 · refine O4<|Ox ?_<|Ox ?_<|Ox ?_<|O2<|Ox ?_<|Ox ?_<|On
   · intro I1 hf ae;refine xD [6,8] rfl ?_;have h1:=h1.mono ae;refine wA rfl rfl h1 hy ?_;intro ad aK ap al;obtain ⟨p4,c3,p5,c4,rfl,h3,h4⟩:=wX al;exact yM [] iR ⟨_,_,_,_,_,rfl,rfl,ap,h3,h4⟩
   · rintro I1 hf ae _ _ ⟨ad,p4,c3,p5,c4,rfl,rfl,ap,h3,h4⟩;exact xD [9] rfl<|mD 6 [(10,.pointer (some (ad.add 1)))]<|yM [] iR ⟨_,_,_,_,_,rfl,rfl,ap,h3,h4⟩
   · rintro I1 hf ae _ _ ⟨ad1,p41,c31,p51,c41,rfl,rfl,ay,h31,h41⟩;exact xD [10] rfl<|xP 1 ay [vS p51 x1.Body c41] (vS p51 x1.Body c41) rfl<|yM [] iR ⟨_,_,rfl,rfl,h41⟩
   · rintro I1 hf ae _ _ ⟨p511,c411,rfl,rfl,h411⟩;refine xD [11,13] rfl<|wA rfl rfl h411 ax ?_;intro ad2 bo bq aA;obtain ⟨p6,c5,p7,c6,p8,c7,p9,c8,rfl,h5,h6,h7,h8⟩:=wI aA;exact yM [] iR ⟨_,_,_,_,_,_,_,_,_,rfl,rfl,bq,h5,h6,h7,h8⟩
   rintro I1 hf ae _ _ ⟨ad2,p6,c5,p7,c6,p8,c7,p9,c8,rfl,rfl,bq,h5,h6,h7,h8⟩;exact xD [14] rfl<|xP 0 bq (cStmt x2 p6 c5 p7 c6 p8 c7 p9 c8) (vA (cStmt x2 p6 c5 p7 c6 p8 c7 p9 c8)) rfl<|yM [] iR ⟨_,_,_,_,_,_,_,_,rfl,rfl,h5,h6,h7,h8⟩
 rintro I0 le _ _ ⟨p61,c51,p71,c61,p81,c71,p91,c81,rfl,rfl,h51,h61,h71,h81⟩;refine xD [4,15] rfl ?_;refine yS 0 (cStmt x2 p61 c51 p71 c61 p81 c71 p91 c81) rfl<|zU rfl<|zK<|xF ?_;exact xO N (resC 0 rfl rfl) zN ⟨_,rfl,rfl,⟨_,rfl,(xV ⟨_,_,_,_,rfl,h51,h61,h71,h81⟩)⟩⟩
def zBq (r:(List Int)×Int):KT:=fun kk I' ah v=>
  ∃ v0 v1,ah=[]/\v=tupV [v0,v1]/\SL I' v0 r.1/\v1=.int .i64 r.2
def uT (p:zH) (x:zX) (y1:(List zJ)) (out:List Int) (t17:Int):Option (List Int):=do
 if (decide (t17<(y1.length:Int))) then
  let x1<-idx y1 t17;let y2<-rP p x1 x.Point;let au<-app 8 out ([y2]:List Int);uT p x y1 au (W (t17+1))
 else pure (id out)
 partial_fixpoint
theorem zB9 (p:zH) (x:zX) (y1:(List zJ)):∀ (out:List Int) (t17:Int) (o:List Int),uT p x y1 out t17=some o->∀ {B}{I0 I:Imm}{Q}{y:zG}{p1 c p2 c1 p3 c2}{b b1}{p4 c3 p5 c4 p6 c5 p7 c6}{b2}{p8 c7 p9 c8 aw},I0.le I->(S4 I p8 y1 c7)->(S4 I p4 y.Write.Subs c3)->(S4 I p5 y.Value.Index.Coefs c4)->(S4 I p6 y.Value.Read.Subs c5)->(S4 I p7 y.Value.Kids c6)->(S4 I p3 x.Point c2)->(S4 I p1 p.Arrays c)->(S4 I p2 p.Parts c1)->(RL I aw out)->NG Q->NO Q->(∀ I' am aM c9 aU,o=am->I0.le I'->(RL I' aU am)->T 37 B Q (.exit 0) I' [hO Int (vS aM am c9) aU,hB b2 (cStmt y p4 c3 p5 c4 p6 c5 p7 c6),hB b1 (cInst x p3 c2),hB b (cProg p p1 c p2 c1)] [(2,vP b 0),(3,vP b1 0),(6,vP b2 0),(7,vS aM am c9)])->J Tryz.prog 37 B (nav (bodyOf f82) [1,1,1,0,1,0]) Q I [hO Int (vS p9 out c8) aw,hB b2 (cStmt y p4 c3 p5 c4 p6 c5 p7 c6),hB b1 (cInst x p3 c2),hB b (cProg p p1 c p2 c1)] [(2,vP b 0),(3,vP b1 0),(6,vP b2 0),(7,vS p9 out c8),(15,vS p8 y1 c7),(16,vI (y1.length:Int)),(17,vI t17)]:=by
 refine uT.partial_correctness p x y1 _ fun aJ ih out t17 o N B I0 I Q y p1 c p2 c1 p3 c2 b b1 p4 c3 p5 c4 p6 c5 p7 c6 b2 p8 c7 p9 c8 aw H h8 h4 h5 h6 h7 h2 h h1 h10 hg ho hx=>yZ hg ho<|yI [18] rfl<|zZ<|yE N ?_ ?_
 · intro hc N;refine zS<|zZ<|yH<|yA<|bE N fun x1 aE N=>wA rfl rfl h8 aE ?_;intro ad aK ap al;obtain ⟨aI,aP,rfl,h12⟩:=tY al;refine xP 0 ap (cAccess x1 aI aP) (vA (cAccess x1 aI aP)) rfl<|xU [vT ([]),z0] ?_;intro b3 hb3;refine yS 0 (cAccess x1 aI aP) rfl<|zU rfl<|zK<|zM<|vU 5 [4,0,3] [(21,vS p9 out c8),(22,vA (cProg p p1 c p2 c1)),(23,vA (cAccess x1 aI aP)),(25,vS p3 x.Point c2)]<|bE N fun y2 bj N=>dL (gX p x1 x.Point _ bj h h1 h12 h2) ?_;intro aV aB;have ⟨h8,h10,h4,h5,h6,h7⟩:=m6 aB h8 h10 h4 h5 h6 h7;have ⟨h2,h,h1,H⟩:=m4 aB h2 h h1 H;refine tK [vI y2] Int ?_;intro b4 hb4;have h14:RL aV [vI y2] ([y2]:List Int):=rI [y2];obtain ⟨au,bt,N⟩:=zB N;exact qA 3 1 2 rfl rfl rfl h10 (.inr ⟨0,rfl⟩) h14 bt fun bm aQ aO h15=>tU (zY [1,2,3,4,5] (ah:=[hB b3 (cAccess x1 aI aP),hO Int (vS bm au aQ) aO,hB b2 (cStmt y p4 c3 p5 c4 p6 c5 p7 c6),hB b1 (cInst x p3 c2),hB b (cProg p p1 c p2 c1)]))<|yL [] [7] rfl<|zP<|zK<|zM<|yL [] [17] rfl<|yX<|qY (zW [1,2,3,4] rfl (by decide))<|mC<|ih au (W (t17+1)) _ N H h8 h4 h5 h6 h7 h2 h h1 h15 hg ho hx
 intro hc N;exact vC<|yQ<|hx _ _ _ _ _ (zE N).symm H h10
def oZ (p:zH) (x:zX):Option ((List Int)×Int):=do
 let y<-fQ p x;let y1<-gV y.Value;let am<-uT p x y1 ([]:List Int) 0;let y3<-rP p y.Write x.Point;pure (am,y3)
theorem zC6:∀ p x r,oZ p x=some r->∀ {I:Imm}{p1 c p2 c1 p3 c2},(S4 I p1 p.Arrays c)->(S4 I p2 p.Parts c1)->(S4 I p3 x.Point c2)->RT 82 [vA (cProg p p1 c p2 c1),vA (cInst x p3 c2)] I [] (zBq  r):=by
 intro p x r N I p1 c p2 c1 p3 c2 h h1 h2;unfold oZ at N;refine yJ func82 fun B=>yA<|vD (cProg p p1 c p2 c1) ?_;intro b hb;refine vD (cInst x p3 c2) ?_;intro b1 hb1;refine wT [] []<|yT<|vU 2 [1,0] [(10,vA (cProg p p1 c p2 c1)),(11,vA (cInst x p3 c2))]<|bE N fun y hy N=>xJ (zDk p x _ hy h h1 h2) ?_;rintro I0 av v2 k2 le - ⟨v0,rfl,rfl,⟨cs,rfl,h3⟩⟩ -;have ⟨h2,h,h1⟩:=m3 le h2 h h1;obtain ⟨p4,c3,p5,c4,p6,c5,p7,c6,rfl,h4,h5,h6,h7⟩:=wI h3;refine xU [vT ([]),z0,vI 0,vI 0,z0,vI 0,vT ([]),z0,z0] ?_;intro b2 hb2;refine yS 0 (cStmt y p4 c3 p5 c4 p6 c5 p7 c6) rfl<|zU rfl<|zEt [(7,z0)]<|zZ<|yA<|vU 2 [0] [(14,vA (cExpr y.Value p5 c4 p6 c5 p7 c6))]<|bE N fun y1 ax N=>xJ (zEi y.Value _ ax h5 h6 h7) ?_;rintro aR av v2 k2 ae - ⟨v05,rfl,rfl,h8⟩ -;have ⟨h4,h5,h6,h7,h2,h⟩:=m6 ae h4 h5 h6 h7 h2 h;have h1:=h1.mono ae;obtain ⟨p8,c7,rfl⟩:=h8.form;refine yL [] [16,17] rfl<|wQ<|pM [(2,vP b 0),(3,vP b1 0),(6,vP b2 0),(7,z0),(15,vS p8 y1 c7),(16,vI (y1.length:Int)),(17,vI 0)]<|zAP Int fun h9=>?_;obtain ⟨o0,az,aG⟩:=zB N;refine zB9 p x y1 ([]:List Int) 0 o0 az iR h8 h4 h5 h6 h7 h2 h h1 h9 nG nO ?_;intro bv am aM c9 aU heq aF h11;subst o0;have ⟨h4,h2,h,h1⟩:=m4 aF h4 h2 h h1;refine zR<|yT<|vU 6 [3,1,2] [(30,vS aM am c9),(31,vA (cProg p p1 c p2 c1)),(33,vA (cAccess y.Write p4 c3)),(35,vS p3 x.Point c2)] ?_;obtain ⟨y3,bD,N⟩:=zB aG;refine dL (gX p y.Write x.Point _ bD h h1 h4 h2) ?_;intro bH aX;have h11:=iM aX h11;refine yL [] [4,5] rfl<|xL<|xA 0 rfl ?_;intro bO bi hl0;have h17:=SL.of_frozen hl0 bi h11;exact xO N (resU rfl rfl) zN ⟨_,_,rfl,rfl,h17,rfl⟩
def zHR (r:(Option qD)×Bool):KT:=fun kk I' ah v=>
  ∃ v0 v1,ah=[]/\v=tupV [v0,v1]/\FP I' v0 r.1/\v1=.bool r.2
def kV (p:zH) (y1:(List zX)) (t24:Int) (reads:List (List Int)) (writes:List Int):Option ((List (List Int)×List Int)):=do
 if (decide (t24<(y1.length:Int))) then
  let x<-idx y1 t24;let (y4,y5)<-oZ p x;let l<-app 24 reads ([y4]:List (List Int));let l1<-app 8 writes ([y5]:List Int);kV p y1 (W (t24+1)) l l1
 else pure (reads,writes)
 partial_fixpoint
theorem zGh (p:zH) (y1:(List zX)):∀ (t24:Int) (reads:List (List Int)) (writes:List Int) (o:(List (List Int)×List Int)),kV p y1 t24 reads writes=some o->∀ {B}{I0 I:Imm}{Q p1 c p2 c1}{b}{p3 c2}{b1}{p4 c3 cs p5 c4 aw},I0.le I->(S4 I p3 y1 c2)->(S4 I p1 p.Arrays c)->(S4 I p2 p.Parts c1)->(RL I cs reads)->(RL I aw writes)->NG Q->NO Q->(∀ I' reads1 writes1 p6 c5 aU p7 c6 aO,o=(reads1,writes1)->I0.le I'->(RL I' aU reads1)->(RL I' aO writes1)->T 56 B Q (.exit 0) I' [hO Int (vS p7 writes1 c6) aO,hO (List Int) (vS p6 reads1 c5) aU,hB b1 [vS p1 p.Arrays c,vS p2 p.Parts c1,vS p3 y1 c2,vS p6 reads1 c5,vS p7 writes1 c6]] [(6,vP b1 0)])->J Tryz.prog 56 B (nav (bodyOf f45) [1,1,1,1,0,1,0]) Q I [hO Int (vS p5 writes c4) aw,hO (List Int) (vS p4 reads c3) cs,hB b1 [vS p1 p.Arrays c,vS p2 p.Parts c1,vS p3 y1 c2,vS p4 reads c3,vS p5 writes c4],hB b (cProg p p1 c p2 c1)] [(1,vP b 0),(6,vP b1 0),(22,vS p3 y1 c2),(23,vI (y1.length:Int)),(24,vI t24)]:=by
 refine kV.partial_correctness p y1 _ fun aJ ih t24 reads writes o N B I0 I Q p1 c p2 c1 b p3 c2 b1 p4 c3 cs p5 c4 aw H h2 h h1 h6 h7 hg ho hx=>yZ hg ho<|yI [25] rfl<|zZ<|yE N ?_ ?_
 · intro aH N;refine zS<|zZ<|yH<|yA<|bE N fun x ax N=>wA rfl rfl h2 ax ?_;intro ad aK ap al;obtain ⟨p8,c7,rfl,h10⟩:=zG8 al;refine xP 0 ap (cInst x p8 c7) (vA (cInst x p8 c7)) rfl<|xU [vI 0,vI 0,z0] ?_;intro b2 hb2;refine yS 0 (cInst x p8 c7) rfl<|zU rfl<|yT<|vU 2 [4,0] [(29,vA (cProg p p1 c p2 c1)),(30,vA (cInst x p8 c7))] ?_;obtain ⟨⟨y4,y5⟩,aE,N⟩:=zB N;refine xJ (zC6 p x _ aE h h1 h10) ?_;rintro aR av v2 k2 ae - ⟨v03,v04,rfl,rfl,h11,rfl⟩ -;have ⟨h2,h7,h6,h,h1,H⟩:=m6 ae h2 h7 h6 h h1 H;obtain ⟨p9,c8,rfl⟩:=h11.form;refine yL [] [9,10] rfl<|zK ?_;obtain ⟨l,bj,N⟩:=zB N;obtain ⟨l1,bt,N⟩:=zB N;refine wV [.p (vP b1 0) [],.p (vP b1 0) [],.p (vP b1 0) [],.p (vP b1 0) [],.p (vP b1 3) [],.q (vS p4 reads c3),.p (vS p9 y4 c8) [],.x (fun I' v hx=>∃ b3,v=vS (some ⟨b3,0,none⟩) ([y4]:List (List Int)) 1/\hx=[]/\(SL I' (vS (some ⟨b3,0,none⟩) ([y4]:List (List Int)) 1) ([y4]:List (List Int)))),.x (fun I' v hx=>∃ aM c9 bw,v=vS aM l c9/\hx=[hO (List Int) (vS aM l c9) bw]/\(RL I' bw l)),.p (vP b1 0) [],.p (vP b1 0) [],.p (vP b1 4) [],.q (vS p5 writes c4),.p (vI y5) [],.x (fun I' v hx=>∃ b4,v=vS (some ⟨b4,0,none⟩) ([y5]:List Int) 1/\hx=[]/\(SL I' (vS (some ⟨b4,0,none⟩) ([y5]:List Int) 1) ([y5]:List Int))),.x (fun I' v hx=>∃ aI aP bC,v=vS aI l1 aP/\hx=[hO Int (vS aI l1 aP) bC]/\(RL I' bC l1)),.p (vP b1 0) [],.p (vP b1 3) [],.x (fun I' v hx=>∃ p101 c91 cs41,hx=[hB b1 [vS p1 p.Arrays c,vS p2 p.Parts c1,vS p3 y1 c2,vS p101 l c91,vS p5 writes c4],hO (List Int) (vS p101 l c91) cs41]/\(RL I' cs41 l))] [[],[],[],[(2,false)],[(3,false)],[(4,false),(24,false)],[],[(6,false)],[(5,false),(7,false),(22,true)],[],[(9,false)],[(10,false)],[(11,false),(24,false)],[],[(13,false)],[(12,false),(14,false),(23,true)],[(0,false)],[(16,false)],[(8,true),(17,false),(24,true)]] [hB b2 (cInst x p8 c7),hB b (cProg p p1 c p2 c1)] [[hO (List Int) (vS p4 reads c3) cs],[hO Int (vS p5 writes c4) aw],[hB b1 [vS p1 p.Arrays c,vS p2 p.Parts c1,vS p3 y1 c2,vS p4 reads c3,vS p5 writes c4]]] [(1,false),(15,true),(18,true)] (zY [0,4,2,1,3]) ?_ ?_
   · refine O4<|Op<|Ob ?_<|Op<|Ox ?_<|Ox ?_<|O3<|Ob ?_<|Op<|Ox ?_<|Ox ?_<|O2<|Ox ?_<|On
     · intro I1 hf ae hbo;obtain ⟨hf2,hbp⟩:=hbo.at (j:=24) (g:=[hB b1 [vS p1 p.Arrays c,vS p2 p.Parts c1,vS p3 y1 c2,vS p4 reads c3,vS p5 writes c4]]) (by decide) (by kernel_rfl) rfl;refine wY ?_;rintro _ _ ⟨rfl,rfl⟩;refine wY ?_;rintro _ _ rfl;refine qC<|zOL hbp<|zAo [(38,vP b1 3)] ?_;exact zEm (cs:=[vS p4 reads c3]) (v:=vS p4 reads c3) 2 rfl rfl rfl rfl rfl (by kernel_rfl) (by kernel_rfl) (by kernel_rfl)<|xY iR
     · intro I1 hf ae;refine xD [40] rfl ?_;have H:=iS I1;have h11:=h11.mono ae;refine mE (rc y4 ⟨_,rfl,h11⟩ rN) ?_;intro b3 aV aB h14;have H:=H.trans aB;exact yM [] H ⟨_,rfl,rfl,h14⟩
     · rintro I1 hf ae _ _ ⟨rfl,rfl⟩ _ _ ⟨b3,rfl,rfl,h14⟩ _ _ rfl;refine xD [39,41] rfl ?_;have h6:=iM ae h6;obtain ⟨bo,k0,k01⟩:=h14;have h14:SL I1 (vS (some ⟨b3,0,none⟩) ([y4]:List (List Int)) 1) ([y4]:List (List Int)):=⟨_,k0,k01⟩;exact qA 39 1 0 rfl rfl rfl h6 (.inl k0) k01 bj fun aM c9 bw h15=>vQ (ah:=(hO (List Int) (vS aM l c9) bw::hB b2 (cInst x p8 c7)::hB b (cProg p p1 c p2 c1)::hf)) rfl<|yM [hO (List Int) (vS aM l c9) bw] iR ⟨_,_,_,rfl,rfl,h15⟩
     · intro I1 hf ae hbo;obtain ⟨hf2,hbp⟩:=hbo.at (j:=24) (g:=[hB b1 [vS p1 p.Arrays c,vS p2 p.Parts c1,vS p3 y1 c2,vS p4 reads c3,vS p5 writes c4]]) (by decide) (by kernel_rfl) rfl;refine wY ?_;rintro _ _ ⟨rfl,rfl⟩;refine wY ?_;rintro _ _ rfl;refine qC<|zOL hbp<|zAo [(45,vP b1 4)] ?_;exact zEm (cs:=[vS p5 writes c4]) (v:=vS p5 writes c4) 2 rfl rfl rfl rfl rfl (by kernel_rfl) (by kernel_rfl) (by kernel_rfl)<|xY iR
     · intro I1 hf ae;refine xD [47] rfl ?_;have H:=iS I1;refine mE (rI [y5]) ?_;intro b4 bv aF h17;have H:=H.trans aF;exact yM [] H ⟨_,rfl,rfl,h17⟩
     · rintro I1 hf ae _ _ ⟨rfl,rfl⟩ _ _ ⟨b4,rfl,rfl,h17⟩ _ _ rfl;refine xD [46,48] rfl ?_;have h7:=iM ae h7;obtain ⟨bR,k02,k03⟩:=h17;have h17:SL I1 (vS (some ⟨b4,0,none⟩) ([y5]:List Int) 1) ([y5]:List Int):=⟨_,k02,k03⟩;exact qA 3 1 0 rfl rfl rfl h7 (.inl k02) k03 bt fun aI aP bC h18=>vQ (ah:=(hO Int (vS aI l1 aP) bC::hB b2 (cInst x p8 c7)::hB b (cProg p p1 c p2 c1)::hf)) rfl<|yM [hO Int (vS aI l1 aP) bC] iR ⟨_,_,_,rfl,rfl,h18⟩
     rintro I1 hf ae _ _ ⟨aM,c9,bw,rfl,rfl,h15⟩ _ _ ⟨rfl,rfl⟩ _ _ rfl;refine xD [42,51] rfl ?_;have H:=iS I1;exact eK 0 [vS p1 p.Arrays c,vS p2 p.Parts c1,vS p3 y1 c2,vS aM l c9,vS p5 writes c4] (hB b1 [vS p1 p.Arrays c,vS p2 p.Parts c1,vS p3 y1 c2,vS aM l c9,vS p5 writes c4]::hO (List Int) (vS aM l c9) bw::hB b2 (cInst x p8 c7)::hB b (cProg p p1 c p2 c1)::hf) rfl rfl rfl rfl<|zHw (hx:=[hB b1 [vS p1 p.Arrays c,vS p2 p.Parts c1,vS p3 y1 c2,vS aM l c9,vS p5 writes c4],hO (List Int) (vS aM l c9) bw]) rfl H rfl (zKO (v:=undef)) ⟨_,_,_,rfl,h15⟩
   rintro bH aX _ _ ⟨rfl,rfl⟩ _ _ ⟨aI,aP,bC,rfl,rfl,h18⟩ _ _ ⟨p101,c91,cs41,rfl,h151⟩;refine xD [1,6,22,23,24,35,49] rfl ?_;have ⟨h2,h,h1,H⟩:=m4 aX h2 h h1 H;exact yD 21 [] [53] rfl<|yS 0 [vS p1 p.Arrays c,vS p2 p.Parts c1,vS p3 y1 c2,vS p101 l c91,vS aI l1 aP] rfl<|zU rfl<|zP<|zK<|zM<|yL [] [24] rfl<|yX<|qY (zW [2,1,0,4] rfl (by decide))<|mC<|ih (W (t24+1)) l l1 _ N H h2 h h1 h151 h18 hg ho hx
 intro aH N;exact vC<|wH (zW [0,1,2] rfl (by decide))<|yQ<|hx _ _ _ _ _ _ _ _ _ (zE N).symm H h6 h7
def zAM (p:zH):Option ((Option qD)×Bool):=do
 let (y1,y2)<-tL p;if (!y2) then pure (none,false)
 else
  let (reads1,writes1)<-kV p y1 0 ([]:List (List Int)) ([]:List Int);pure ((some (qD.mk p y1 reads1 writes1)),true)
theorem zEj:∀ p r,zAM p=some r->∀ {I:Imm}{p1 c p2 c1},(S4 I p1 p.Arrays c)->(S4 I p2 p.Parts c1)->RT 45 [vA (cProg p p1 c p2 c1)] I [] (zHR  r):=by
 intro p r N I p1 c p2 c1 h h1;unfold zAM at N;refine yJ func45 fun B=>yA<|vD (cProg p p1 c p2 c1) ?_;intro b hb;refine wT [] []<|yT<|vU 1 [0] [(12,vA (cProg p p1 c p2 c1))] ?_;obtain ⟨⟨y1,y2⟩,hy,N⟩:=zB N;refine xJ (gH p _ hy h h1) ?_;rintro I0 av v2 k2 le - ⟨v0,v01,rfl,rfl,h2,rfl⟩ -;have ⟨h,h1⟩:=m2 le h h1;obtain ⟨p3,c2,rfl⟩:=h2.form;refine yL [] [4,5] rfl<|zZ<|yI [17] rfl<|zK<|yE N ?_ ?_
 · intro hc N;refine yI [2,3] rfl<|xL<|zI ?_;exact xO N (resU rfl rfl) zN ⟨_,_,rfl,rfl,zO6,rfl⟩
 intro hc N;refine zS<|yT<|vU 3 [0] [(20,vA [vS p1 p.Arrays c,vS p2 p.Parts c1,vS p3 y1 c2,z0,z0])]<|vD [vS p1 p.Arrays c,vS p2 p.Parts c1,vS p3 y1 c2,z0,z0] ?_;intro b1 hb1;refine yL [] [6] rfl<|zZ<|yI [22,23,24] rfl<|wQ<|pM [(1,vP b 0),(6,vP b1 0),(22,vS p3 y1 c2),(23,vI (y1.length:Int)),(24,vI 0)]<|zAP (List Int) fun h4=>?_;refine zAP Int fun h5=>?_;obtain ⟨o0,az,aG⟩:=zB N;refine zGh p y1 0 ([]:List (List Int)) ([]:List Int) o0 az iR h2 h h1 h4 h5 nG nO ?_;intro bO reads1 writes1 p6 c5 aU p7 c6 aO heq bi h8 h9;subst o0;have ⟨h,h1,h2⟩:=m3 bi h h1 h2;refine zR<|uJ [2,3] rfl<|xL<|xA 1 rfl ?_;intro I06 bB hl02;have h19:=SL.of_frozen hl02 bB h8;have ⟨h9,h,h1,h2⟩:=m4 bB h9 h h1 h2;refine xA 0 rfl ?_;intro I07 le7 hl03;have h20:=SL.of_frozen hl03 le7 h9;have ⟨h,h1,h2,h19⟩:=m4 le7 h h1 h2 h19;refine xA 0 rfl ?_;intro I08 le8 hl04;have ay:At I08 ⟨b1,0,none⟩ [vS p1 p.Arrays c,vS p2 p.Parts c1,vS p3 y1 c2,vS p6 reads1 c5,vS p7 writes1 c6]:=At.of_blk hl04;have ⟨h,h1,h2,h19,h20⟩:=m5 le8 h h1 h2 h19 h20;exact xO aG (resU rfl rfl) zN ⟨_,_,rfl,rfl,(zPA ay (zGa ⟨_,_,_,_,_,rfl,h,h1,h2,h19,h20⟩)),rfl⟩
def uU (s:(List Int)) (v0:Int) (t8:Int):Option (Out Unit (Int)):=do
 if (decide (t8<(s.length:Int))) then
  let x<-idx s t8;if (v0==x) then pure (.ret t8)
  else uU s v0 (W (t8+1))
 else pure (.done ())
 partial_fixpoint
theorem zBa (s:(List Int)) (v0:Int):∀ (t8:Int) (o:Out Unit (Int)),uU s v0 t8=some o->∀ {B}{I0 I:Imm}{Q p c},I0.le I->(S4 I p s c)->NG Q->NO Q->(∀ I',o=(.done ())->I0.le I'->T 19 B Q (.exit 0) I' [] [])->(∀ r I' ah m',o=(.ret r)->I0.le I'->RS Tryz.prog f132 B (yR  r) I' ah m'->T 19 B Q .ret I' ah m')->J Tryz.prog 19 B (nav (bodyOf f132) [1,0,1,0]) Q I [] [(0,vS p s c),(1,vI v0),(7,vI (s.length:Int)),(8,vI t8)]:=by
 refine uU.partial_correctness s v0 _ fun aJ ih t8 o N B I0 I Q p c H h hg ho hx hr=>yZ hg ho<|yI [9] rfl<|zZ<|yE N ?_ ?_
 · intro hc N;refine zS<|zZ<|yH<|yI [5] rfl<|yT<|yD 3 [] [11,12,13] rfl<|bE N fun x hy N=>wA rfl rfl h hy ?_;intro ad aK ap al;obtain rfl:=al;refine xP 0 ap [vI x] (vI x) rfl<|yL [] [16] rfl<|zK<|yE N ?_ ?_
   · intro aH N;exact yI [4] rfl<|xL<|zV<|zI<|zI<|hr _ _ _ _ (zE N).symm H ⟨_,_,(resT rfl),zN,⟨_,rfl,rfl,rfl⟩⟩
   intro aH N;exact zS<|zP<|zK<|zM<|yL [] [8] rfl<|yX<|mC<|ih (W (t8+1)) _ N H h hg ho hx hr
 intro hc N;exact vC<|yQ<|hx _  (zE N).symm H
def jE (s:(List Int)) (v0:Int):Option (Int):=do
 match<-uU s v0 0 with
 | .ret r0=>pure r0
 | .done _ =>
  pure (-1)
theorem zC7:∀ s v0 r,jE s v0=some r->∀ {I:Imm}{p c},(S4 I p s c)->RT 132 [vS p s c,vI v0] I [] (yR  r):=by
 intro s v0 r N I p c h;unfold jE at N;refine yJ func132 fun B=>vK []<|zZ<|yI [7,8] rfl<|wQ<|pM [(0,vS p s c),(1,vI v0),(7,vI (s.length:Int)),(8,vI 0)] ?_;obtain ⟨o0,az,aG⟩:=zB N;refine zBa s v0 0 o0 az iR h nG nO ?_ ?_
 · intro I0  heq le;subst o0;refine zR<|uJ [4] rfl<|zK<|xF ?_;obtain rfl:=zE aG;exact vZ
 intro r0 I9 hs9 m9 aY le9 aZ;subst aY;refine zV<|zI ?_;obtain rfl:=zE aG;exact dB aZ
def sW (s:(List Int)) (v0:Int):Option (Bool):=do
 let y<-jE s v0;pure (decide (y>=0))
theorem dY:∀ s v0 r,sW s v0=some r->∀ {I:Imm}{p c},(S4 I p s c)->RT 92 [vS p s c,vI v0] I [] (zQ  r):=by
 intro s v0 r N I p c h;unfold sW at N;refine yJ func92 fun B=>vK []<|yT<|yD 2 [] [5,6] rfl<|bE N fun y hy N=>dL (zC7 s v0 _ hy h) fun I0 le=>wT [] [(4,.bool (decide (y>=0)))]<|zK<|xF ?_;obtain rfl:=zE N;exact vZ
def pO (t:qD) (from0:Int) (to0:Int):Option (Int):=do
 let x<-idx t.reads to0;let x1<-idx t.writes from0;let y<-sW x x1;let kinds<-(do
   if y then pure (W (0+1))
   else
    pure (id 0)
     : Option Int)
 let x2<-idx t.reads from0;let x3<-idx t.writes to0;let y1<-sW x2 x3;let kinds1<-(do
   if y1 then pure (W (kinds+2))
   else
    pure (id kinds)
     : Option Int)
 let x4<-idx t.writes from0;let x5<-idx t.writes to0;let kinds2<-(do
   if (x4==x5) then pure (W (kinds1+4))
   else
    pure (id kinds1)
     : Option Int)
 pure (id kinds2)
theorem zAg:∀ t from0 to0 r,pO t from0 to0=some r->∀ {I:Imm}{ad:Addr}{p c p1 c1 p2 c2 p3 c3 p4 c4},(S4 I p t.Program.Arrays c)->(S4 I p1 t.Program.Parts c1)->(S4 I p2 t.list c2)->(S4 I p3 t.reads c3)->(S4 I p4 t.writes c4)->(At I ad [vS p t.Program.Arrays c,vS p1 t.Program.Parts c1,vS p2 t.list c2,vS p3 t.reads c3,vS p4 t.writes c4])->RT 53 [.pointer (some ad),vI from0,vI to0] I [] (yR  r):=by
 intro t from0 to0 r N I ad p c p1 c1 p2 c2 p3 c3 p4 c4 h h1 h2 h3 h4 ap;unfold pO at N;refine yJ func53 fun B=>?_;have H:=iS I;refine vK []<|uJ [7] rfl<|zZ<|yC ?_;obtain ⟨x,hy,N⟩:=zB N;obtain ⟨x1,ax,N⟩:=zB N;obtain ⟨y,aE,N⟩:=zB N;refine wV [.p (.pointer (some ad)) [],.p (.pointer (some ad)) [],.p (.pointer (some (ad.add 3))) [],.q (vS p3 t.reads c3),.p (vI to0) [],.x (fun I' v hx=>∃ ad1 p5 c5,v=.pointer (some ad1)/\hx=[]/\(At I' ad1 [vS p5 x c5])/\(S4 I' p5 x c5)),.x (eS x),.p (.pointer (some ad)) [],.p (.pointer (some ad)) [],.p (.pointer (some (ad.add 4))) [],.q (vS p4 t.writes c4),.p (vI from0) [],.x (fun I' v hx=>∃ ad2,v=.pointer (some ad2)/\hx=[]/\(At I' ad2 [vI x1])),.q (vI x1),.q (.bool y)] [[],[(0,false)],[(1,false)],[(2,false)],[],[(3,false),(4,false)],[(5,false)],[],[(7,false)],[(8,false)],[(9,false)],[],[(10,false),(11,false)],[(12,false)],[(6,false),(13,false)]] [] [] [(14,false)] zN ?_ ?_
 · refine O3<|Oq ?_<|Op<|Ox ?_<|Ox ?_<|O3<|Oq ?_<|Op<|Ox ?_<|Oq ?_<|Oq ?_<|On
   · intro I1 hf ae;refine xD [10] rfl ?_;have ap:=ap.mono ae;exact xP 3 ap [vS p3 t.reads c3] (vS p3 t.reads c3) rfl<|xY iR
   · intro I1 hf ae;refine xD [11,12] rfl ?_;have h3:=h3.mono ae;refine wA rfl rfl h3 hy ?_;intro ad1 aK ay al;obtain ⟨v0,rfl,h5⟩:=al;obtain ⟨p5,c5,rfl⟩:=h5.form;exact yM [] iR ⟨_,_,_,rfl,rfl,ay,h5⟩
   · rintro I1 hf ae _ _ ⟨ad1,p5,c5,rfl,rfl,ay,h5⟩;exact xD [13] rfl<|xP 0 ay [vS p5 x c5] (vS p5 x c5) rfl<|yM [] iR ⟨_,_,rfl,rfl,h5⟩
   · intro I1 hf ae;refine xD [17] rfl ?_;have ap:=ap.mono ae;exact xP 4 ap [vS p4 t.writes c4] (vS p4 t.writes c4) rfl<|xY iR
   · intro I1 hf ae;refine xD [18,19] rfl ?_;have h4:=h4.mono ae;refine wA rfl rfl h4 ax ?_;intro ad2 bo bq aA;obtain rfl:=aA;exact yM [] iR ⟨_,rfl,rfl,bq⟩
   · rintro I1 hf ae _ _ ⟨ad2,rfl,rfl,bq⟩;exact xD [20] rfl<|xP 0 bq [vI x1] (vI x1) rfl<|xY iR
   rintro I1 hf ae _ _ ⟨p51,c51,rfl,rfl,h51⟩;refine xD [14,21] rfl ?_;have H:=iS I1;refine vR (dY x x1 _ aE h51) ?_;intro I0 le;have H:=H.trans le;exact xY H
 intro aR ae;refine xD [0,1,2,7,22] rfl ?_;have ⟨h3,h4,ap,H⟩:=m4 ae h3 h4 ap H;refine zU rfl<|zK ?_;refine wU N [] (fun kinds=>[(0,.pointer (some ad)),(1,vI from0),(2,vI to0),(7,vI kinds)]) (fun o0 az=>?_) ?_
 · have H:=iS aR;refine yE az ?_ ?_
   · intro hc N;exact zM<|yL [] [7] rfl<|yQ<|zT (ct N H)
   intro hc N;exact zS<|yQ<|zT (ct N H)
 intro kinds aV aB aT;have ⟨h3,h4,ap,H⟩:=m4 aB h3 h4 ap H;refine zZ<|yC ?_;obtain ⟨x2,bj,N⟩:=zB aT;obtain ⟨x3,bt,N⟩:=zB N;obtain ⟨y1,bD,N⟩:=zB N;refine wV [.p (.pointer (some ad)) [],.p (.pointer (some ad)) [],.p (.pointer (some (ad.add 3))) [],.q (vS p3 t.reads c3),.p (vI from0) [],.x (fun I' v hx=>∃ ad3 p6 c6,v=.pointer (some ad3)/\hx=[]/\(At I' ad3 [vS p6 x2 c6])/\(S4 I' p6 x2 c6)),.x (eS x2),.p (.pointer (some ad)) [],.p (.pointer (some ad)) [],.p (.pointer (some (ad.add 4))) [],.q (vS p4 t.writes c4),.p (vI to0) [],.x (fun I' v hx=>∃ ad4,v=.pointer (some ad4)/\hx=[]/\(At I' ad4 [vI x3])),.q (vI x3),.q (.bool y1)] [[],[(0,false)],[(1,false)],[(2,false)],[],[(3,false),(4,false)],[(5,false)],[],[(7,false)],[(8,false)],[(9,false)],[],[(10,false),(11,false)],[(12,false)],[(6,false),(13,false)]] [] [] [(14,false)] zN ?_ ?_
 · refine O3<|Oq ?_<|Op<|Ox ?_<|Ox ?_<|O3<|Oq ?_<|Op<|Ox ?_<|Oq ?_<|Oq ?_<|On
   · intro I1 hf ae;refine xD [27] rfl ?_;have ap:=ap.mono ae;exact xP 3 ap [vS p3 t.reads c3] (vS p3 t.reads c3) rfl<|xY iR
   · intro I1 hf ae;refine xD [28,29] rfl ?_;have h3:=h3.mono ae;refine wA rfl rfl h3 bj ?_;intro ad3 bR hat3 bu;obtain ⟨v02,rfl,h7⟩:=bu;obtain ⟨p6,c6,rfl⟩:=h7.form;exact yM [] iR ⟨_,_,_,rfl,rfl,hat3,h7⟩
   · rintro I1 hf ae _ _ ⟨ad3,p6,c6,rfl,rfl,hat3,h7⟩;exact xD [30] rfl<|xP 0 hat3 [vS p6 x2 c6] (vS p6 x2 c6) rfl<|yM [] iR ⟨_,_,rfl,rfl,h7⟩
   · intro I1 hf ae;refine xD [34] rfl ?_;have ap:=ap.mono ae;exact xP 4 ap [vS p4 t.writes c4] (vS p4 t.writes c4) rfl<|xY iR
   · intro I1 hf ae;refine xD [35,36] rfl ?_;have h4:=h4.mono ae;refine wA rfl rfl h4 bt ?_;intro ad4 ccs3 hat4 bI;obtain rfl:=bI;exact yM [] iR ⟨_,rfl,rfl,hat4⟩
   · rintro I1 hf ae _ _ ⟨ad4,rfl,rfl,hat4⟩;exact xD [37] rfl<|xP 0 hat4 [vI x3] (vI x3) rfl<|xY iR
   rintro I1 hf ae _ _ ⟨p61,c61,rfl,rfl,h71⟩;refine xD [31,38] rfl ?_;have H:=iS I1;refine vR (dY x2 x3 _ bD h71) ?_;intro bv aF;have H:=H.trans aF;exact xY H
 intro bH aX;refine xD [0,1,2,7,39] rfl ?_;have ⟨h4,ap,H⟩:=m3 aX h4 ap H;refine zU rfl<|zK ?_;refine wU N [] (fun kinds1=>[(0,.pointer (some ad)),(1,vI from0),(2,vI to0),(7,vI kinds1)]) (fun aL aC=>?_) ?_
 · have H:=iS bH;refine yE aC ?_ ?_
   · intro aH N;exact zM<|yL [] [7] rfl<|yQ<|zT (ct N H)
   intro aH N;exact zS<|yQ<|zT (ct N H)
 intro kinds1 bO bi hMc1;have ⟨h4,ap,H⟩:=m3 bi h4 ap H;refine zZ<|yC<|dV (by kernel_rfl) (by kernel_rfl)<|zAp 3 [] [44] rfl<|zB3 4 ap [vS p4 t.writes c4] (vS p4 t.writes c4) rfl<|zAp 5 [] [46] rfl ?_;obtain ⟨x4,hy6,N⟩:=zB hMc1;refine zCY rfl rfl h4 hy6 ?_;intro ad5 ccs4 hat5 hrep4;obtain rfl:=hrep4;refine zB3 0 hat5 [vI x4] (vI x4) rfl<|zAp 10 [] [51] rfl<|zB3 4 ap [vS p4 t.writes c4] (vS p4 t.writes c4) rfl<|zAp 12 [] [53] rfl<|bE N fun x5 hy7 N=>zCY rfl rfl h4 hy7 ?_;intro ad6 ccs5 hat6 hrep5;obtain rfl:=hrep5;refine zB3 0 hat6 [vI x5] (vI x5) rfl<|zJk [] [56] rfl<|zK ?_;refine wU N [] (fun kinds2=>[(7,vI kinds2)]) (fun o02 ho02=>?_) ?_
 · have H:=iS bO;refine yE ho02 ?_ ?_
   · intro bf N;exact zM<|yL [] [7] rfl<|yQ<|zT (ct N H)
   intro bf N;exact zS<|yQ<|zT (ct N H)
 intro kinds2 I06 bB hMc2;refine uJ [6] rfl<|zK<|xF ?_;obtain rfl:=zE hMc2;exact vZ
def zAq (r:(List wL)):KT:=fun kk I' ah v=>
  ∃ v0,ah=[]/\v=tupV [v0]/\SL I' v0 r
def rR (t:qD) (t12:Int) (au:List wL) (to0:Int):Option (List wL):=do
 if (decide (to0<(t.list.length:Int))) then
  let y<-pO t t12 to0;let bM<-(do
    if (decide (y>0)) then
     let out5<-app 24 au ([(wL.mk t12 to0 y)]:List wL);pure (id out5)
    else
     pure (id au)
      : Option (List wL))
  rR t t12 bM (W (to0+1))
 else pure (id au)
 partial_fixpoint
theorem zCw (t:qD) (t12:Int):∀ (au:List wL) (to0:Int) (o:List wL),rR t t12 au to0=some o->∀ {B}{I0 I:Imm}{Q}  {ad:Addr}{p c p1 c1 p2 c2 p3 c3 p4 c4 p7 c7 aU},I0.le I->(S4 I p t.Program.Arrays c)->(S4 I p1 t.Program.Parts c1)->(S4 I p2 t.list c2)->(S4 I p3 t.reads c3)->(S4 I p4 t.writes c4)->(At I ad [vS p t.Program.Arrays c,vS p1 t.Program.Parts c1,vS p2 t.list c2,vS p3 t.reads c3,vS p4 t.writes c4])->(RL I aU au)->NG Q->NO Q->(∀ I' bx p8 c8 aO,o=bx->I0.le I'->(RL I' aO bx)->T 41 B Q (.exit 2) I' [hO wL (vS p8 bx c8) aO] [(0,.pointer (some ad)),(3,vS p8 bx c8),(11,vI (t.list.length:Int)),(12,vI t12)])->J Tryz.prog 41 B (nav (bodyOf f48) [1,1,0,1,0,0,1,1,0,0,1,1,0]) Q I [hO wL (vS p7 au c7) aU] [(0,.pointer (some ad)),(3,vS p7 au c7),(4,vI t12),(5,vI to0),(11,vI (t.list.length:Int)),(12,vI t12)]:=by
 refine rR.partial_correctness t t12 _ fun aJ ih au to0 o N B I0 I Q ad p c p1 c1 p2 c2 p3 c3 p4 c4 p7 c7 aU H h h1 h2 h3 h4 ap h8 hg ho hx=>yZ hg ho<|yC<|yA<|yD 4 [] [17,20] rfl<|xP 2 ap [vS p2 t.list c2] (vS p2 t.list c2) rfl<|yL [] [23] rfl<|zK<|yE N ?_ ?_
 · intro aH N;refine zS<|zZ<|yH<|yA<|yD 3 [] [26,27,28] rfl<|bE N fun y hy N=>dL (zAg t t12 to0 _ hy h h1 h2 h3 h4 ap) ?_;intro I0 le;have ⟨h,h1,h2,h3,h4,ap⟩:=m6 le h h1 h2 h3 h4 ap;have ⟨h8,H⟩:=m2 le h8 H;refine yL [] [6] rfl<|uJ [31] rfl<|zK ?_;obtain ⟨o0,az,aT⟩:=zB N;refine nT (fun I' ah m'=>∃ (bM:List wL) (p9:Option Addr) (c9:Nat) (bw:List Value),o0=bM/\I0.le I'/\(RL I' bw bM)/\ah=[hO wL (vS p9 bM c9) bw]/\m'=[(0,.pointer (some ad)),(3,vS p9 bM c9),(4,vI t12),(5,vI to0),(11,vI (t.list.length:Int)),(12,vI t12)]) ?_ ?_
   · have H:=iS I0;refine yE az ?_ ?_
     · intro bf N;refine zM<|yD 5 [] [32,36] rfl<|tK [vI t12,vI to0,vI y] wL ?_;intro b hb;have h12:RL I0 [vI t12,vI to0,vI y] ([(wL.mk t12 to0 y)]:List wL):=⟨[vI t12,vI to0,vI y],_,rfl,rfl,(zIr rfl),rfl⟩;obtain ⟨out5,ax,N⟩:=zB N;exact qA 50 3 1 rfl rfl rfl h8 (.inr ⟨0,rfl⟩) h12 ax fun aM aP bC h13=>tU (zY [1] (ah:=[hO wL (vS aM out5 aP) bC]))<|yL [] [3] rfl<|yQ<|zT ⟨_,_,_,_,(zE N).symm,H,h13,rfl,rfl⟩
     intro bf N;exact zS<|yQ<|zT ⟨_,_,_,_,(zE N).symm,H,h8,rfl,rfl⟩
   rintro aR av m2 ⟨bM,p9,c9,bw,heq,ae,h11,rfl,rfl⟩;subst o0;have ⟨h,h1,h2,h3,h4,ap⟩:=m6 ae h h1 h2 h3 h4 ap;have H:=H.trans ae;exact zP<|zK<|zM<|yL [] [5] rfl<|yX<|mC<|ih bM (W (to0+1)) _ aT H h h1 h2 h3 h4 ap h11 hg ho hx
 intro aH N;exact vC<|yQ<|hx _ _ _ _ _ (zE N).symm H h8
def rS (t:qD) (out:List wL) (t12:Int):Option (List wL):=do
 if (decide (t12<(t.list.length:Int))) then
  let bx<-rR t t12 out (W (t12+1));rS t bx (W (t12+1))
 else pure (id out)
 partial_fixpoint
theorem zCx (t:qD):∀ (out:List wL) (t12:Int) (o:List wL),rS t out t12=some o->∀ {B}{I0 I:Imm}{Q}  {ad:Addr}{p c p1 c1 p2 c2 p3 c3 p4 c4 p5 c5 cs},I0.le I->(S4 I p t.Program.Arrays c)->(S4 I p1 t.Program.Parts c1)->(S4 I p2 t.list c2)->(S4 I p3 t.reads c3)->(S4 I p4 t.writes c4)->(At I ad [vS p t.Program.Arrays c,vS p1 t.Program.Parts c1,vS p2 t.list c2,vS p3 t.reads c3,vS p4 t.writes c4])->(RL I cs out)->NG Q->NO Q->(∀ I' am p6 c6 aw,o=am->I0.le I'->(RL I' aw am)->T 41 B Q (.exit 0) I' [hO wL (vS p6 am c6) aw] [(3,vS p6 am c6)])->J Tryz.prog 41 B (nav (bodyOf f48) [1,1,0,1,0]) Q I [hO wL (vS p5 out c5) cs] [(0,.pointer (some ad)),(3,vS p5 out c5),(11,vI (t.list.length:Int)),(12,vI t12)]:=by
 refine rS.partial_correctness t _ fun aJ ih out t12 o N B I0 I Q ad p c p1 c1 p2 c2 p3 c3 p4 c4 p5 c5 cs H h h1 h2 h3 h4 ap h6 hg ho hx=>yZ hg ho<|yI [13] rfl<|zZ<|yE N ?_ ?_
 · intro hc N;refine zS<|zZ<|yH<|yI [4] rfl<|uJ [5] rfl<|wQ<|pM [(0,.pointer (some ad)),(3,vS p5 out c5),(4,vI t12),(5,vI (W (t12+1))),(11,vI (t.list.length:Int)),(12,vI t12)] ?_;obtain ⟨aL,aC,aG⟩:=zB N;refine zCw t t12 out (W (t12+1)) aL aC iR h h1 h2 h3 h4 ap h6 (fun _ _ _ h=>hg _ _ _ h) (fun _ _ h=>ho _ _ h) ?_;intro aV bx p8 c8 aO heq1 aB h9;subst aL;have ⟨h,h1,h2,h3,h4,ap⟩:=m6 aB h h1 h2 h3 h4 ap;have H:=H.trans aB;exact zR<|zP<|zK<|zM<|yL [] [12] rfl<|yX<|mC<|ih bx (W (t12+1)) _ aG H h h1 h2 h3 h4 ap h9 hg ho hx
 intro hc N;exact vC<|yQ<|hx _ _ _ _ _ (zE N).symm H h6
def eW (t:qD):Option ((List wL)):=do
 let am<-rS t ([]:List wL) 0;pure (id am)
theorem zEY:∀ t r,eW t=some r->∀ {I:Imm}{ad:Addr}{p c p1 c1 p2 c2 p3 c3 p4 c4},(S4 I p t.Program.Arrays c)->(S4 I p1 t.Program.Parts c1)->(S4 I p2 t.list c2)->(S4 I p3 t.reads c3)->(S4 I p4 t.writes c4)->(At I ad [vS p t.Program.Arrays c,vS p1 t.Program.Parts c1,vS p2 t.list c2,vS p3 t.reads c3,vS p4 t.writes c4])->RT 48 [.pointer (some ad)] I [] (zAq  r):=by
 intro t r N I ad p c p1 c1 p2 c2 p3 c3 p4 c4 h h1 h2 h3 h4 ap;unfold eW at N;refine yJ func48 fun B=>vK []<|zEt [(3,z0)]<|zZ<|yA<|yD 3 [] [9] rfl<|xP 2 ap [vS p2 t.list c2] (vS p2 t.list c2) rfl<|yL [] [11,12] rfl<|wQ<|pM [(0,.pointer (some ad)),(3,z0),(11,vI (t.list.length:Int)),(12,vI 0)]<|zAP wL fun h5=>?_;obtain ⟨o02,ho02,hMl1⟩:=zB N;refine zCx t ([]:List wL) 0 o02 ho02 iR h h1 h2 h3 h4 ap h5 nG nO ?_;intro bv am p6 c6 aw heq2 aF h7;subst o02;refine zR<|uJ [2] rfl<|xL<|xA 0 rfl ?_;intro bH aX hl0;have h14:=SL.of_frozen hl0 aX h7;exact xO hMl1 (resT rfl) zN ⟨_,rfl,rfl,h14⟩
def jT (p:zH):Option ((List wL)):=do
 let (y1,y2)<-zAM p;if (!y2) then pure ([]:List wL)
 else
  let t<-y1;let y3<-eW t;pure (id y3)
theorem zEZ:∀ p r,jT p=some r->∀ {I:Imm}{p1 c p2 c1},(S4 I p1 p.Arrays c)->(S4 I p2 p.Parts c1)->RT 17 [vA (cProg p p1 c p2 c1)] I [] (zAq  r):=by
 intro p r N I p1 c p2 c1 h h1;unfold jT at N;refine yJ func17 fun B=>yA<|vD (cProg p p1 c p2 c1) ?_;intro b hb;refine wT [] []<|yT<|vU 1 [0] [(6,vA (cProg p p1 c p2 c1))] ?_;obtain ⟨⟨y1,y2⟩,hy,N⟩:=zB N;refine xJ (zEj p _ hy h h1) ?_;rintro I0 av v2 k2 le - ⟨v0,v01,rfl,rfl,h2,rfl⟩ -;refine yL [] [3,4] rfl<|zZ<|yI [11] rfl<|zK<|yE N ?_ ?_
 · intro hc N;refine vK [(2,z0)]<|xL<|zI ?_;exact xO N (resT rfl) zN ⟨_,rfl,rfl,(SL.nil _)⟩
 intro hc N;refine zS<|yT<|vU 1 [] [(12,v0)] ?_;obtain ⟨t,ax,N⟩:=zB N;obtain ⟨ad,aK,rfl,ap,al⟩:=zJj h2 ax;obtain ⟨p3,c2,p4,c3,p5,c4,p6,c5,p7,c6,rfl,h4,h5,h6,h7,h8⟩:=zB4 al;obtain ⟨y3,aE,N⟩:=zB N;refine xJ (zEY t _ aE h4 h5 h6 h7 h8 ap) ?_;rintro aR av v2 k2 ae - ⟨v07,rfl,rfl,h9⟩ -;obtain ⟨p8,c7,rfl⟩:=h9.form;refine yL [] [2] rfl<|zK<|xF ?_;exact xO N (resT rfl) zN ⟨_,rfl,rfl,h9⟩
def zFj (r:zO):KT:=fun kk I' ah v=>
  ∃ b_0 a0_0 c0_0,ah=[.blk b_0 ⟨[.slice a0_0 r.b.length c0_0,.int .i64 r.p]⟩]/\v=tupV [(.pointer (some ⟨b_0,0,none⟩))]/\SL I' (.slice a0_0 r.b.length c0_0) r.b
def dZ (code:(List UInt8)):Option (zO):=do
 let code1<-(do
   if (decide ((code.length:Int)>2000)) then
    let l<-slc code 0 2000;pure (id l)
   else
    pure (id code)
     : Option (List UInt8))
 pure (zO.mk code1 0)
theorem zHS:∀ code r,dZ code=some r->∀ {I:Imm}{p c},(S4 I p code c)->RT 22 [vS p code c] I [] (zFj  r):=by
 intro code r N I p c h;unfold dZ at N;refine yJ func22 fun B=>?_;have H:=iS I;refine vK []<|zZ<|yI [5] rfl<|zK ?_;obtain ⟨o0,az,aT⟩:=zB N;refine nT (fun I' ah m'=>∃ (code1:List UInt8) (p1:Option Addr) (c1:Nat),o0=code1/\I.le I'/\(S4 I' p1 code1 c1)/\ah=[]/\m'=[(0,vS p1 code1 c1)]) ?_ ?_
 · have H:=iS I;refine yE az ?_ ?_
   · intro hc N;refine zM<|yD 1 [] [6] rfl<|bE N fun l hy N=>zPB rfl h hy ?_;intro v0 h2;obtain ⟨p2,c2,rfl⟩:=h2.form;exact yL [] [0] rfl<|yQ<|zT ⟨_,_,_,(zE N).symm,H,h2,rfl,rfl⟩
   intro hc N;exact zS<|yQ<|zT ⟨_,_,_,(zE N).symm,H,h,rfl,rfl⟩
 rintro I0 av m2 ⟨code1,p1,c1,heq,le,h1,rfl,rfl⟩;subst o0;refine yT<|yD 2 [] [9] rfl<|vD [vS p1 code1 c1,vI 0] ?_;intro b hb;refine yL [] [2] rfl<|zK<|xF ?_;exact xO aT (resT rfl) (zW [0] rfl (by decide)) ⟨_,_,_,rfl,rfl,h1⟩
def zDl (b0:Nat) (r:Int×zO):KT:=fun kk I' ah v=>
  ∃ v0 k0,ah=[.blk b0 ⟨k0⟩]/\v=tupV [v0]/\v0=.int .i64 r.1/\Rp.rep I' k0 r.2
def xG (r0:zO) (n0:Int):Option (Int×zO):=do
 let t24<-(do
   if (decide (n0<1)) then pure true
   else
    pure ((r0.b.length:Int)==0)
     : Option Bool)
 if t24 then pure (0,(zO.mk r0.b (W (r0.p+1))))
 else
  if (decide ((W ((W (r0.p+1)) - 1))<(r0.b.length:Int))) then
   let x<-idx r0.b (W ((W (r0.p+1)) - 1));let q<-rem (W (x.toNat:Int)) n0;pure (q,(zO.mk r0.b (W (r0.p+1))))
  else
   let q1<-rem (W ((W (r0.p+1)) - 1)) (r0.b.length:Int);let x1<-idx r0.b q1;let q2<-rem (W ((W ((W ((W (r0.p+1)) - 1))*7))+3)) (r0.b.length:Int);let x2<-idx r0.b q2;let q3<-quo (W ((W (r0.p+1)) - 1)) (r0.b.length:Int);let q4<-rem (W (BitVec.ofInt IntKind.i64.bits (W ((W ((W ((W ((W (x1.toNat:Int))*131))+(W ((W (x2.toNat:Int))*1117))))+(W ((W ((W (r0.p+1)) - 1))*29))))+(W (q3*53)))) ^^^ BitVec.ofInt IntKind.i64.bits (W ((W ((W ((W ((W ((W (x1.toNat:Int))*131))+(W ((W (x2.toNat:Int))*1117))))+(W ((W ((W (r0.p+1)) - 1))*29))))+(W (q3*53)))).tdiv 64))).toNat) n0;pure (q4,(zO.mk r0.b (W (r0.p+1))))
theorem xZ:∀ r0 n0 r,xG r0 n0=some r->∀ {I:Imm}{ar}{p c},(S4 I p r0.b c)->RT 56 [vP ar 0,vI n0] I [hB ar (cRd r0 p c)] (zDl ar r):=by
 intro r0 n0 r N I ar p c h;unfold xG at N;refine yJ func56 fun B=>?_;have H:=iS I;refine vK []<|yT<|yD 8 [0] [12,14] rfl<|yS 0 [vS p r0.b c,vI (W (r0.p+1))] rfl<|zU rfl<|zZ<|yC ?_;refine wU N [hB ar [vS p r0.b c,vI (W (r0.p+1))]] (fun t24=>[(0,vP ar 0),(1,vI n0),(24,.bool t24)]) (fun o0 az=>?_) ?_
 · have H:=iS I;refine zM<|yD 3 [] [17] rfl<|wD [17] az ?_ ?_
   · intro hc N;exact wT [] [(24,vY)]<|yQ<|zT (ct N H)
   intro hc N;exact yL [0] [24] rfl<|yQ<|zT (ct N H)
 intro t24 I0 le aT;have h:=h.mono le;refine zK<|yE aT ?_ ?_
 · intro aH N;refine yI [4] rfl<|xL<|zI ?_;exact xO N (resT rfl) (zW [0] rfl (by decide)) ⟨_,_,rfl,rfl,rfl,(yY ⟨_,rfl,h⟩)⟩
 intro aH N;refine zS<|yT<|yL [0] [5] rfl<|zZ<|yA<|yL [0] [36] rfl<|zK<|yE N ?_ ?_
 · intro bf N;refine yA<|yD 5 [0] [40,41] rfl<|bE N fun x hy N=>wA rfl rfl h hy ?_;intro ad aK ap al;obtain rfl:=al;refine xP 0 ap [.int .u8 (x.toNat:Int)] (.int .u8 (x.toNat:Int)) rfl<|yD 9 [] [44,45] rfl<|bE N fun q ax N=>zPD rfl ax<|yL [] [4] rfl<|xL<|zI ?_;exact xO N (resT rfl) (zW [0] rfl (by decide)) ⟨_,_,rfl,rfl,rfl,(yY ⟨_,rfl,h⟩)⟩
 intro bf N;refine zS<|zZ<|dV (by kernel_rfl) (by kernel_rfl)<|zAp 10 [0,0] [50,51,56] rfl<|bE N fun q1 aE N=>zOM rfl aE<|bE N fun x1 bj N=>zCY rfl rfl h bj ?_;intro ad1 bo ay aA;obtain rfl:=aA;refine zB3 0 ay [.int .u8 (x1.toNat:Int)] (.int .u8 (x1.toNat:Int)) rfl<|zAp 27 [0,0] [61,65,68,73] rfl<|bE N fun q2 bt N=>zOM rfl bt<|bE N fun x2 bD N=>zCY rfl rfl h bD ?_;intro ad2 bR bq bu;obtain rfl:=bu;refine zB3 0 bq [.int .u8 (x2.toNat:Int)] (.int .u8 (x2.toNat:Int)) rfl<|zAp 42 [0] [82,83,88] rfl<|bE N fun q3 hy6 N=>zPC rfl hy6<|zJk [] [6] rfl<|uJ [6] rfl<|yT<|yD 2 [] [96,97] rfl<|bE N fun q4 hy7 N=>zPD rfl hy7<|yL [] [4] rfl<|zK<|xF ?_;exact xO N (resT rfl) (zW [0] rfl (by decide)) ⟨_,_,rfl,rfl,rfl,(yY ⟨_,rfl,h⟩)⟩
def zFB (b0:Nat) (r:Str×zO):KT:=fun kk I' ah v=>
  ∃ v0 k0,ah=[.blk b0 ⟨k0⟩]/\v=tupV [v0]/\v0=.string ⟨⟨r.1.l⟩⟩/\Rp.rep I' k0 r.2
def nW (r0:zO) (list:(List Str)):Option (Str×zO):=do
 let (y1,y2)<-xG r0 (list.length:Int);let x<-idx list y1;pure (x,y2)
theorem zAN:∀ r0 list r,nW r0 list=some r->∀ {I:Imm}{ar}{p c p1 c1},(S4 I p r0.b c)->(S4 I p1 list c1)->RT 24 [vP ar 0,vS p1 list c1] I [hB ar (cRd r0 p c)] (zFB ar r):=by
 intro r0 list r N I ar p c p1 c1 h h1;unfold nW at N;refine yJ func24 fun B=>vK []<|yT<|yD 4 [] [5,6,8] rfl ?_;obtain ⟨⟨y1,y2⟩,hy,N⟩:=zB N;refine rC (xZ r0 (list.length:Int) _ hy h) rfl ?_;rintro I0 av v2 k2 le - ⟨v0,kk,rfl,rfl,rfl,h3⟩ -;have h1:=h1.mono le;obtain ⟨p2,c2,rfl,h4⟩:=yB h3;obtain ⟨x,ax,N⟩:=zB N;refine wA rfl rfl h1 ax ?_;intro ad aK ap al;obtain rfl:=al;refine xP 0 ap [vT x.l] (vT x.l) rfl<|yL [] [4] rfl<|zK<|xF ?_;exact xO N (resT rfl) (zW [0] rfl (by decide)) ⟨_,_,rfl,rfl,rfl,(yY ⟨_,rfl,h4⟩)⟩
def zAu (r:(List zF)):KT:=fun kk I' ah v=>
  ∃ v0,ah=[]/\v=tupV [v0]/\SL I' v0 r
def qS (nest:(List zF)) (i:Int) (k0:Int) (Lo:List zA):Option (List zA):=do
 let x<-idx nest i;if (decide (k0<(x.Lo.length:Int))) then
  let x1<-idx nest i;let x2<-idx x1.Lo k0;let l<-app 8 ([]:List Int) x2.Coefs;let l1<-app 32 Lo ([(zA.mk l x2.Const)]:List zA);qS nest i (W (k0+1)) l1
 else pure (id Lo)
 partial_fixpoint
theorem zBy (nest:(List zF)) (i:Int):∀ (k0:Int) (Lo:List zA) (o:List zA),qS nest i k0 Lo=some o->∀ {B}{I0 I:Imm}{Q}{τ:Type} [Rp τ] {out:List τ}{p c p1 c1 cs}{b1}{p3 c3 aU},I0.le I->(S4 I p nest c)->(RL I cs out)->(RL I aU Lo)->NG Q->NO Q->(∀ I' Lo1 p4 c4 aO,o=Lo1->I0.le I'->(RL I' aO Lo1)->T 83 B Q (.exit 2) I' [hO zA (vS p4 Lo1 c4) aO,hB b1 [vS p4 Lo1 c4,z0],hO τ (vS p1 out c1) cs] [(0,vS p nest c),(3,vS p1 out c1),(4,vI i),(5,vP b1 0)])->J Tryz.prog 83 B (nav (bodyOf f70) [1,1,0,1,0,0,1,0,0,1,0,1,0]) Q I [hO zA (vS p3 Lo c3) aU,hB b1 [vS p3 Lo c3,z0],hO τ (vS p1 out c1) cs] [(0,vS p nest c),(3,vS p1 out c1),(4,vI i),(5,vP b1 0),(6,vI k0)]:=by
 refine qS.partial_correctness nest i _ fun aJ ih k0 Lo o N B I0 I Q τ _ out p c p1 c1 cs b1 p3 c3 aU H h h2 h5 hg ho hx=>yZ hg ho<|yC<|yA<|yD 3 [] [18,19,20] rfl<|bE N fun x hy N=>wA rfl rfl h hy ?_;intro ad aK ap al;obtain ⟨p5,c5,p6,c6,rfl,h7,h8⟩:=vJ al;refine yD 5 [] [22] rfl<|xP 0 ap [vS p5 x.Lo c5] (vS p5 x.Lo c5) rfl<|yL [] [25] rfl<|zK<|yE N ?_ ?_
 · intro aH N;refine zS<|zZ<|yH<|yA<|yD 2 [] [28,29] rfl<|bE N fun x1 ax N=>wA rfl rfl h ax ?_;intro ad1 bo ay aA;obtain ⟨p7,c7,p8,c8,rfl,h9,h10⟩:=vJ aA;refine yD 4 [] [31] rfl<|xP 0 ay [vS p7 x1.Lo c7] (vS p7 x1.Lo c7) rfl<|yD 6 [] [33] rfl<|bE N fun x2 aE N=>wA rfl rfl h9 aE ?_;intro ad2 bR bq bu;obtain ⟨p9,c9,rfl,h11⟩:=yG bu;refine xP 0 bq (cAff x2 p9 c9) (vA (cAff x2 p9 c9)) rfl<|xU [z0,vI 0] ?_;intro b2 hb2;refine yS 0 (cAff x2 p9 c9) rfl<|zU rfl<|zK ?_;obtain ⟨l,bj,N⟩:=zB N;obtain ⟨l1,bt,N⟩:=zB N;refine wV [.p (vP b1 0) [],.p (vS p3 Lo c3) [1],.x (fun I' v hx=>∃ b3,v=vS (some ⟨b3,0,none⟩) ([]:List Int) 0/\hx=[hO Int (vS (some ⟨b3,0,none⟩) ([]:List Int) 0) []]/\(RL I' [] ([]:List Int))),.p (vP b2 0) [],.p (vS p9 x2.Coefs c9) [0],.x (fun I' v hx=>∃ aM aP bw,v=vS aM l aP/\hx=[hO Int (vS aM l aP) bw]/\(RL I' bw l)),.p (vP b2 1) [],.p (vI x2.Const) [0],.x (fun I' v hx=>∃ p101 c101 cs41,v=vA [vS p101 l c101,vI x2.Const]/\hx=[hO Int (vS p101 l c101) cs41]/\(RL I' cs41 l)),.x (fun I' v hx=>∃ b4,v=vS (some ⟨b4,0,none⟩) ([(zA.mk l x2.Const)]:List zA) 1/\hx=[]/\(SL I' (vS (some ⟨b4,0,none⟩) ([(zA.mk l x2.Const)]:List zA) 1) ([(zA.mk l x2.Const)]:List zA))),.x (fun I' v hx=>∃ aI aQ bC,v=vS aI l1 aQ/\hx=[hO zA (vS aI l1 aQ) bC]/\(RL I' bC l1))] [[],[(0,false)],[],[],[(3,false)],[(2,true),(4,false)],[],[(6,false)],[(5,true),(7,false)],[(8,true)],[(1,false),(9,false),(13,true)]] [hB b2 (cAff x2 p9 c9),hB b1 [vS p3 Lo c3,z0],hO τ (vS p1 out c1) cs] [[hO zA (vS p3 Lo c3) aU]] [(10,true)] (zY [0,2,3,1]) ?_ ?_
   · refine O2<|Ox ?_<|O2<|Ox ?_<|O2<|Ox ?_<|Ox ?_<|Ox ?_<|On
     · intro I1 hf ae;refine I_h []<|tK [] Int ?_;intro b3 hb3;have h12:RL I1 [] ([]:List Int):=rfl;exact yM [hO Int (vS (some ⟨b3,0,none⟩) ([]:List Int) 0) []] iR ⟨_,rfl,rfl,h12⟩
     · rintro I1 hf ae _ _ ⟨b3,rfl,rfl,h12⟩;refine xD [38,40] rfl ?_;have h11:=h11.mono ae;obtain ⟨ccs3,k01,k02⟩:=h11;have h11:SL I1 (vS p9 x2.Coefs c9) x2.Coefs:=⟨_,k01,k02⟩;exact qA 3 1 0 rfl rfl rfl h12 (.inl k01) k02 bj fun aM aP bw h13=>vQ (ah:=(hO Int (vS aM l aP) bw::hB b2 (cAff x2 p9 c9)::hB b1 [vS p3 Lo c3,z0]::hO τ (vS p1 out c1) cs::hf)) rfl<|yM [hO Int (vS aM l aP) bw] iR ⟨_,_,_,rfl,rfl,h13⟩
     · rintro I1 hf ae _ _ ⟨aM,aP,bw,rfl,rfl,h13⟩;exact xD [41,43] rfl<|mD 9 [(44,vA [vS aM l aP,vI x2.Const])]<|yM [hO Int (vS aM l aP) bw] iR ⟨_,_,_,rfl,rfl,h13⟩
     · rintro I1 hf ae _ _ ⟨p101,c101,cs41,rfl,rfl,h131⟩;refine xD [44] rfl ?_;have H:=iS I1;refine wC 0 rfl ?_;intro I0 le hl0;have h14:=SL.of_frozen hl0 le h131;have H:=H.trans le;refine mE (rc (zA.mk l x2.Const) (yK ⟨_,rfl,h14⟩) rN) ?_;intro b4 aR ae h16;have H:=H.trans ae;exact yM [] H ⟨_,rfl,rfl,h16⟩
     rintro I1 hf ae _ _ ⟨rfl,rfl⟩ _ _ ⟨b4,rfl,rfl,h16⟩ _ _ rfl;refine xD [37,45] rfl ?_;have h5:=iM ae h5;obtain ⟨ccs4,k03,k04⟩:=h16;have h16:SL I1 (vS (some ⟨b4,0,none⟩) ([(zA.mk l x2.Const)]:List zA) 1) ([(zA.mk l x2.Const)]:List zA):=⟨_,k03,k04⟩;exact qA 69 2 0 rfl rfl rfl h5 (.inl k03) k04 bt fun aI aQ bC h17=>vQ (ah:=(hO zA (vS aI l1 aQ) bC::hB b2 (cAff x2 p9 c9)::hB b1 [vS p3 Lo c3,z0]::hO τ (vS p1 out c1) cs::hf)) rfl<|yM [hO zA (vS aI l1 aQ) bC] iR ⟨_,_,_,rfl,rfl,h17⟩
   rintro aV aB _ _ ⟨aI,aQ,bC,rfl,rfl,h17⟩;refine xD [0,3,4,5,6,46] rfl ?_;have ⟨h,h2,H⟩:=m3 aB h h2 H;exact yD 12 [] [47] rfl<|yS 2 [vS aI l1 aQ,z0] rfl<|zU rfl<|zP<|zK<|zM<|yL [] [6] rfl<|yX<|qY (zW [0,2,3] rfl (by decide))<|mC<|ih (W (k0+1)) l1 _ N H h h2 h17 hg ho hx
 intro aH N;exact vC<|yQ<|hx _ _ _ _ _ (zE N).symm H h5
def qT (nest:(List zF)) (i:Int) (k05:Int) (Hi:List zA):Option (List zA):=do
 let x3<-idx nest i;if (decide (k05<(x3.Hi.length:Int))) then
  let x4<-idx nest i;let x5<-idx x4.Hi k05;let l2<-app 8 ([]:List Int) x5.Coefs;let l3<-app 32 Hi ([(zA.mk l2 x5.Const)]:List zA);qT nest i (W (k05+1)) l3
 else pure (id Hi)
 partial_fixpoint
theorem zBz (nest:(List zF)) (i:Int):∀ (k05:Int) (Hi:List zA) (o:List zA),qT nest i k05 Hi=some o->∀ {B}{I0 I:Imm}{Q}{τ:Type} [Rp τ] {out:List τ}{Lo1:List zA}{p c p1 c1 cs}{b1}{p4 c4 aO bm aW cs6},I0.le I->(S4 I p nest c)->(RL I cs out)->(RL I aO Lo1)->(RL I cs6 Hi)->NG Q->NO Q->(∀ I' Hi1 aS bc cs7,o=Hi1->I0.le I'->(RL I' cs7 Hi1)->T 83 B Q (.exit 4) I' [hO zA (vS aS Hi1 bc) cs7,hO zA (vS p4 Lo1 c4) aO,hB b1 [vS p4 Lo1 c4,vS aS Hi1 bc],hO τ (vS p1 out c1) cs] [(0,vS p nest c),(3,vS p1 out c1),(4,vI i),(5,vP b1 0)])->J Tryz.prog 83 B (nav (bodyOf f70) [1,1,0,1,0,0,1,0,0,1,1,0,1,0]) Q I [hO zA (vS bm Hi aW) cs6,hO zA (vS p4 Lo1 c4) aO,hB b1 [vS p4 Lo1 c4,vS bm Hi aW],hO τ (vS p1 out c1) cs] [(0,vS p nest c),(3,vS p1 out c1),(4,vI i),(5,vP b1 0),(8,vI k05)]:=by
 refine qT.partial_correctness nest i _ fun aJ ih k05 Hi o N B I0 I Q τ _ out Lo1 p c p1 c1 cs b1 p4 c4 aO bm aW cs6 H h h2 h6 h19 hg ho hx=>yZ hg ho<|yC<|yA<|yD 3 [] [48,49,50] rfl<|bE N fun x3 bD N=>wA rfl rfl h bD ?_;intro ad3 ccs5 hat3 bI;obtain ⟨p14,c14,p15,c15,rfl,h21,h22⟩:=vJ bI;refine yD 5 [] [52] rfl<|xP 1 hat3 [vS p15 x3.Hi c15] (vS p15 x3.Hi c15) rfl<|yL [] [55] rfl<|zK<|yE N ?_ ?_
 · intro bf N;refine zS<|zZ<|yH<|yA<|yD 2 [] [58,59] rfl<|bE N fun x4 hy6 N=>wA rfl rfl h hy6 ?_;intro ad4 ccs6 hat4 hrep4;obtain ⟨p16,c16,p17,c17,rfl,h23,h24⟩:=vJ hrep4;refine yD 4 [] [61] rfl<|xP 1 hat4 [vS p17 x4.Hi c17] (vS p17 x4.Hi c17) rfl<|yD 6 [] [63] rfl<|bE N fun x5 hy7 N=>wA rfl rfl h24 hy7 ?_;intro ad5 ccs7 hat5 hrep5;obtain ⟨p18,c18,rfl,h25⟩:=yG hrep5;refine xP 0 hat5 (cAff x5 p18 c18) (vA (cAff x5 p18 c18)) rfl<|xU [z0,vI 0] ?_;intro b5 hb5;refine yS 0 (cAff x5 p18 c18) rfl<|zU rfl<|zK ?_;obtain ⟨l2,hy8,N⟩:=zB N;obtain ⟨l3,hy9,N⟩:=zB N;refine wV [.p (vP b1 1) [],.p (vS bm Hi aW) [2],.x (fun I' v hx=>∃ b6,v=vS (some ⟨b6,0,none⟩) ([]:List Int) 0/\hx=[hO Int (vS (some ⟨b6,0,none⟩) ([]:List Int) 0) []]/\(RL I' [] ([]:List Int))),.p (vP b5 0) [],.p (vS p18 x5.Coefs c18) [0],.x (fun I' v hx=>∃ p19 c19 cs8,v=vS p19 l2 c19/\hx=[hO Int (vS p19 l2 c19) cs8]/\(RL I' cs8 l2)),.p (vP b5 1) [],.p (vI x5.Const) [0],.x (fun I' v hx=>∃ p191 c191 cs81,v=vA [vS p191 l2 c191,vI x5.Const]/\hx=[hO Int (vS p191 l2 c191) cs81]/\(RL I' cs81 l2)),.x (fun I' v hx=>∃ b7,v=vS (some ⟨b7,0,none⟩) ([(zA.mk l2 x5.Const)]:List zA) 1/\hx=[]/\(SL I' (vS (some ⟨b7,0,none⟩) ([(zA.mk l2 x5.Const)]:List zA) 1) ([(zA.mk l2 x5.Const)]:List zA))),.x (fun I' v hx=>∃ p20 c20 cs9,v=vS p20 l3 c20/\hx=[hO zA (vS p20 l3 c20) cs9]/\(RL I' cs9 l3))] [[],[(0,false)],[],[],[(3,false)],[(2,true),(4,false)],[],[(6,false)],[(5,true),(7,false)],[(8,true)],[(1,false),(9,false),(13,true)]] [hB b5 (cAff x5 p18 c18),hO zA (vS p4 Lo1 c4) aO,hB b1 [vS p4 Lo1 c4,vS bm Hi aW],hO τ (vS p1 out c1) cs] [[hO zA (vS bm Hi aW) cs6]] [(10,true)] (zY [0,2,3,4,1]) ?_ ?_
   · refine O2<|Ox ?_<|O2<|Ox ?_<|O2<|Ox ?_<|Ox ?_<|Ox ?_<|On
     · intro I1 hf ae;refine I_h []<|tK [] Int ?_;intro b6 hb6;have h26:RL I1 [] ([]:List Int):=rfl;exact yM [hO Int (vS (some ⟨b6,0,none⟩) ([]:List Int) 0) []] iR ⟨_,rfl,rfl,h26⟩
     · rintro I1 hf ae _ _ ⟨b6,rfl,rfl,h26⟩;refine xD [68,70] rfl ?_;have h25:=h25.mono ae;obtain ⟨ccs8,k06,k07⟩:=h25;have h25:SL I1 (vS p18 x5.Coefs c18) x5.Coefs:=⟨_,k06,k07⟩;exact qA 3 1 0 rfl rfl rfl h26 (.inl k06) k07 hy8 fun p19 c19 cs8 h27=>vQ (ah:=(hO Int (vS p19 l2 c19) cs8::hB b5 (cAff x5 p18 c18)::hO zA (vS p4 Lo1 c4) aO::hB b1 [vS p4 Lo1 c4,vS bm Hi aW]::hO τ (vS p1 out c1) cs::hf)) rfl<|yM [hO Int (vS p19 l2 c19) cs8] iR ⟨_,_,_,rfl,rfl,h27⟩
     · rintro I1 hf ae _ _ ⟨p19,c19,cs8,rfl,rfl,h27⟩;exact xD [71,73] rfl<|mD 9 [(74,vA [vS p19 l2 c19,vI x5.Const])]<|yM [hO Int (vS p19 l2 c19) cs8] iR ⟨_,_,_,rfl,rfl,h27⟩
     · rintro I1 hf ae _ _ ⟨p191,c191,cs81,rfl,rfl,h271⟩;refine xD [74] rfl ?_;have H:=iS I1;refine wC 0 rfl ?_;intro bH aX hl02;have h28:=SL.of_frozen hl02 aX h271;have H:=H.trans aX;refine mE (rc (zA.mk l2 x5.Const) (yK ⟨_,rfl,h28⟩) rN) ?_;intro b7 bO bi h30;have H:=H.trans bi;exact yM [] H ⟨_,rfl,rfl,h30⟩
     rintro I1 hf ae _ _ ⟨rfl,rfl⟩ _ _ ⟨b7,rfl,rfl,h30⟩ _ _ rfl;refine xD [67,75] rfl ?_;have h19:=iM ae h19;obtain ⟨ccs9,k08,k09⟩:=h30;have h30:SL I1 (vS (some ⟨b7,0,none⟩) ([(zA.mk l2 x5.Const)]:List zA) 1) ([(zA.mk l2 x5.Const)]:List zA):=⟨_,k08,k09⟩;exact qA 69 2 0 rfl rfl rfl h19 (.inl k08) k09 hy9 fun p20 c20 cs9 h31=>vQ (ah:=(hO zA (vS p20 l3 c20) cs9::hB b5 (cAff x5 p18 c18)::hO zA (vS p4 Lo1 c4) aO::hB b1 [vS p4 Lo1 c4,vS bm Hi aW]::hO τ (vS p1 out c1) cs::hf)) rfl<|yM [hO zA (vS p20 l3 c20) cs9] iR ⟨_,_,_,rfl,rfl,h31⟩
   rintro I06 bB _ _ ⟨p20,c20,cs9,rfl,rfl,h31⟩;refine xD [0,3,4,5,8,76] rfl ?_;have ⟨h,h2,h6,H⟩:=m4 bB h h2 h6 H;exact yD 12 [] [77] rfl<|yS 3 [vS p4 Lo1 c4,vS p20 l3 c20] rfl<|zU rfl<|zP<|zK<|zM<|yL [] [8] rfl<|yX<|qY (zW [0,2,3,4] rfl (by decide))<|mC<|ih (W (k05+1)) l3 _ N H h h2 h6 h31 hg ho hx
 intro bf N;exact vC<|yQ<|hx _ _ _ _ _ (zE N).symm H h19
def sA (nest:(List zF)) (out:List zF) (i:Int):Option (List zF):=do
 if (decide (i<(nest.length:Int))) then
  let Lo1<-qS nest i 0 ([]:List zA);let Hi1<-qT nest i 0 ([]:List zA);let au<-app 48 out ([(zF.mk Lo1 Hi1)]:List zF);sA nest au (W (i+1))
 else pure (id out)
 partial_fixpoint
theorem zFk (nest:(List zF)):∀ (out:List zF) (i:Int) (o:List zF),sA nest out i=some o->∀ {B}{I0 I:Imm}{Q p c p1 c1 cs},I0.le I->(S4 I p nest c)->(RL I cs out)->NG Q->NO Q->(∀ I' am p2 c2 aw,o=am->I0.le I'->(RL I' aw am)->T 83 B Q (.exit 0) I' [hO zF (vS p2 am c2) aw] [(3,vS p2 am c2)])->J Tryz.prog 83 B (nav (bodyOf f70) [1,1,0,1,0]) Q I [hO zF (vS p1 out c1) cs] [(0,vS p nest c),(3,vS p1 out c1),(4,vI i)]:=by
 refine sA.partial_correctness nest _ fun aJ ih out i o N B I0 I Q p c p1 c1 cs H h h2 hg ho hx=>yZ hg ho<|yC<|yI [14] rfl<|zK<|yE N ?_ ?_
 · intro hc N;refine zS<|zZ<|yH<|yA<|yD 1 [] [17] rfl<|xU zTwo ?_;intro b1 hb1;refine eK 0 zTwo [hB b1 zTwo,hO zF (vS p1 out c1) cs] rfl rfl rfl rfl<|zU rfl<|zZ<|yI [6] rfl<|wQ<|pM [(0,vS p nest c),(3,vS p1 out c1),(4,vI i),(5,vP b1 0),(6,vI 0)]<|zAP zA fun h4=>?_;obtain ⟨o0,az,aG⟩:=zB N;refine zBy nest i 0 ([]:List zA) o0 az iR h h2 h4 (fun _ _ _ h=>hg _ _ _ h) (fun _ _ h=>ho _ _ h) ?_;intro bv Lo1 p4 c4 aO heq aF h6;subst o0;have ⟨h,h2,H⟩:=m3 aF h h2 H;refine zR<|zZ<|yI [8] rfl<|wQ<|pM [(0,vS p nest c),(3,vS p1 out c1),(4,vI i),(5,vP b1 0),(8,vI 0)]<|zAP zA fun h18=>?_;obtain ⟨aL,aC,hMl1⟩:=zB aG;refine zBz nest i 0 ([]:List zA) aL aC iR h h2 h6 h18 (fun _ _ _ h=>hg _ _ _ h) (fun _ _ h=>ho _ _ h) ?_;intro I07 Hi1 aS bc cs7 heq1 le7 h20;subst aL;have ⟨h,h2,h6,H⟩:=m4 le7 h h2 h6 H;refine zR<|zK<|zM<|vU 2 [2] [(78,vS p1 out c1),(79,vA [vS p4 Lo1 c4,vS aS Hi1 bc])]<|wC 1 rfl ?_;intro I08 le8 hl04;have h32:=SL.of_frozen hl04 le8 h6;have ⟨h,h2,h20,H⟩:=m4 le8 h h2 h20 H;refine wC 0 rfl ?_;intro I09 le9 hl05;have h33:=SL.of_frozen hl05 le9 h20;have ⟨h,h2,h32,H⟩:=m4 le9 h h2 h32 H;refine tK [vS p4 Lo1 c4,vS aS Hi1 bc] zF ?_;intro b8 hb8;have h34:RL I09 [vS p4 Lo1 c4,vS aS Hi1 bc] ([(zF.mk Lo1 Hi1)]:List zF):=⟨[vS p4 Lo1 c4,vS aS Hi1 bc],_,rfl,rfl,(uM ⟨_,_,rfl,h32,h33⟩),rfl⟩;obtain ⟨au,hy10,N⟩:=zB hMl1;exact qA 130 2 2 rfl rfl rfl h2 (.inr ⟨0,rfl⟩) h34 hy10 fun p21 c21 cs10 h35=>tU (zY [1,2] (ah:=[hB b1 [vS p4 Lo1 c4,vS aS Hi1 bc],hO zF (vS p21 au c21) cs10]))<|yL [] [3] rfl<|zP<|zK<|zM<|yL [] [4] rfl<|yX<|qY (zW [1] rfl (by decide))<|mC<|ih au (W (i+1)) _ N H h h35 hg ho hx
 intro hc N;exact vC<|yQ<|hx _ _ _ _ _ (zE N).symm H h2
def jJ (nest:(List zF)):Option ((List zF)):=do
 let am<-sA nest ([]:List zF) 0;pure (id am)
theorem zBb:∀ nest r,jJ nest=some r->∀ {I:Imm}{p c},(S4 I p nest c)->RT 70 [vS p nest c] I [] (zAu  r):=by
 intro nest r N I p c h;unfold jJ at N;refine yJ func70 fun B=>vK []<|yT<|tK [] zF ?_;intro b hb;have h1:RL I [] ([]:List zF):=rfl;refine yL [] [3] rfl<|zZ<|yI [4] rfl<|wQ<|pM [(0,vS p nest c),(3,vS (some ⟨b,0,none⟩) ([]:List zF) 0),(4,vI 0)] ?_;obtain ⟨o02,ho02,hMl2⟩:=zB N;refine zFk nest ([]:List zF) 0 o02 ho02 iR h h1 nG nO ?_;intro bL am p2 c2 aw heq2 le10 h3;subst o02;refine zR<|uJ [2] rfl<|xL<|xA 0 rfl ?_;intro bW le11 hl06;have h36:=SL.of_frozen hl06 le11 h3;exact xO hMl2 (resT rfl) zN ⟨_,rfl,rfl,h36⟩
def nA (r:zA):KT:=fun kk I' ah v=>
  ∃ v0,ah=[]/\v=tupV [v0]/\(∃ cs,v0=.agg ⟨cs⟩/\Rp.rep I' cs r)
def tV (a0:zA):Option (zA):=do
 if ((a0.Coefs.length:Int)==0) then pure (zA.mk ([]:List Int) a0.Const)
 else
  let l<-app 8 ([]:List Int) a0.Coefs;pure (zA.mk l a0.Const)
theorem zAA:∀ a0 r,tV a0=some r->∀ {I:Imm}{p c},(S4 I p a0.Coefs c)->RT 130 [vA (cAff a0 p c)] I [] (nA  r):=by
 intro a0 r N I p c h;unfold tV at N;refine yJ func130 fun B=>yA<|vD (cAff a0 p c) ?_;intro b hb;refine xU [z0,vI 0] ?_;intro b1 hb1;refine zU rfl<|zZ<|yA<|yL [1] [6] rfl<|zK<|yE N ?_ ?_
 · intro hc N;refine yA<|vU 3 [1] [(9,vA [z0,vI a0.Const])]<|yS 0 [z0,vI a0.Const] rfl<|zU rfl<|xL<|zI ?_;exact xO N (resC 0 rfl rfl) zN ⟨_,rfl,rfl,⟨_,rfl,(yK ⟨_,rfl,(SL.nil _)⟩)⟩⟩
 intro hc N;refine zS<|zZ<|bE N fun l hy N=>wV [.x (fun I' v hx=>∃ b2,v=vS (some ⟨b2,0,none⟩) ([]:List Int) 0/\hx=[hO Int (vS (some ⟨b2,0,none⟩) ([]:List Int) 0) []]/\(RL I' [] ([]:List Int))),.p (vP b 0) [],.p (vS p a0.Coefs c) [1],.x (fun I' v hx=>∃ p1 c1 cs,v=vS p1 l c1/\hx=[hO Int (vS p1 l c1) cs]/\(RL I' cs l)),.p (vP b 1) [],.p (vI a0.Const) [1],.x (fun I' v hx=>∃ aI aQ aw,v=vA [vS aI l aQ,vI a0.Const]/\hx=[hO Int (vS aI l aQ) aw]/\(RL I' aw l))] [[],[],[(1,false)],[(0,true),(2,false)],[],[(4,false)],[(3,true),(5,false)]] [hB b1 [z0,vI 0],hB b (cAff a0 p c)] [] [(6,true)] (zY [0,1]) ?_ ?_
 · refine Ox ?_<|O2<|Ox ?_<|O2<|Ox ?_<|On
   · intro I1 hf ae;refine I_h []<|tK [] Int ?_;intro b2 hb2;have h1:RL I1 [] ([]:List Int):=rfl;exact yM [hO Int (vS (some ⟨b2,0,none⟩) ([]:List Int) 0) []] iR ⟨_,rfl,rfl,h1⟩
   · rintro I1 hf ae _ _ ⟨b2,rfl,rfl,h1⟩;refine xD [10,12] rfl ?_;have h:=h.mono ae;obtain ⟨aK,k0,k01⟩:=h;have h:SL I1 (vS p a0.Coefs c) a0.Coefs:=⟨_,k0,k01⟩;exact qA 3 1 0 rfl rfl rfl h1 (.inl k0) k01 hy fun p1 c1 cs h2=>vQ (ah:=(hO Int (vS p1 l c1) cs::hB b1 [z0,vI 0]::hB b (cAff a0 p c)::hf)) rfl<|yM [hO Int (vS p1 l c1) cs] iR ⟨_,_,_,rfl,rfl,h2⟩
   rintro I1 hf ae _ _ ⟨p1,c1,cs,rfl,rfl,h2⟩;exact xD [13,15] rfl<|mD 7 [(16,vA [vS p1 l c1,vI a0.Const])]<|yM [hO Int (vS p1 l c1) cs] iR ⟨_,_,_,rfl,rfl,h2⟩
 rintro I0 le _ _ ⟨aI,aQ,aw,rfl,rfl,h21⟩;refine xD [2,16] rfl ?_;refine yS 1 [vS aI l aQ,vI a0.Const] rfl<|zU rfl<|xL<|xA 0 rfl ?_;intro aR ae hl0;have h3:=SL.of_frozen hl0 ae h21;exact xO N (resC 0 rfl rfl) zN ⟨_,rfl,rfl,⟨_,rfl,(yK ⟨_,rfl,h3⟩)⟩⟩
def zCy (r:zJ):KT:=fun kk I' ah v=>
  ∃ a0_1 c0_1 s0_1,ah=[.osl (.slice a0_1 r.Subs.length c0_1) (Rp.sz zA) s0_1]/\v=tupV [(.agg ⟨[.string ⟨⟨r.Array.l⟩⟩,.slice a0_1 r.Subs.length c0_1]⟩)]/\RepL (Rp.rep I') (Rp.sz zA) s0_1 r.Subs
def vL (a0:zJ) (i:Int) (Subs:List zA):Option (List zA):=do
 if (decide (i<(a0.Subs.length:Int))) then
  let x<-idx a0.Subs i;let y<-tV x;let l<-app 32 Subs ([y]:List zA);vL a0 (W (i+1)) l
 else pure (id Subs)
 partial_fixpoint
theorem zC8 (a0:zJ):∀ (i:Int) (Subs:List zA) (o:List zA),vL a0 i Subs=some o->∀ {B}{I0 I:Imm}{Q p c}{b b1 b2}{p1 c1 cs},I0.le I->(S4 I p a0.Subs c)->(RL I cs Subs)->NG Q->NO Q->(∀ I' Subs1 p2 c2 aw,o=Subs1->I0.le I'->(RL I' aw Subs1)->T 27 B Q (.exit 0) I' [hO zA (vS p2 Subs1 c2) aw,hB b2 [vT a0.Array.l,vS p2 Subs1 c2],hB b1 [vT ([]),z0]] [(2,vP b1 0),(3,vP b2 0)])->J Tryz.prog 27 B (nav (bodyOf f90) [1,1,0,1,0]) Q I [hO zA (vS p1 Subs c1) cs,hB b2 [vT a0.Array.l,vS p1 Subs c1],hB b1 [vT ([]),z0],hB b (cAccess a0 p c)] [(1,vP b 0),(2,vP b1 0),(3,vP b2 0),(4,vI i)]:=by
 refine vL.partial_correctness a0 _ fun aJ ih i Subs o N B I0 I Q p c b b1 b2 p1 c1 cs H h h2 hg ho hx=>yZ hg ho<|yC<|yA<|yL [3] [12] rfl<|zK<|yE N ?_ ?_
 · intro hc N;refine zS<|zZ<|yH ?_;obtain ⟨x,hy,N⟩:=zB N;obtain ⟨y,ax,N⟩:=zB N;obtain ⟨l,aE,N⟩:=zB N;refine wV [.p (vP b2 1) [],.p (vS p1 Subs c1) [0],.p (vP b 1) [],.p (vS p a0.Subs c) [2],.p (vI i) [],.x (ePAff x),.x (eVAff x),.x (eVAff y),.x (fun I' v hx=>∃ b3,v=vS (some ⟨b3,0,none⟩) ([y]:List zA) 1/\hx=[]/\(SL I' (vS (some ⟨b3,0,none⟩) ([y]:List zA) 1) ([y]:List zA))),.x (fun I' v hx=>∃ p5 c5 aO,v=vS p5 l c5/\hx=[hO zA (vS p5 l c5) aO]/\(RL I' aO l))] [[],[(0,false)],[],[(2,false)],[],[(3,false),(4,false)],[(5,false)],[(6,false)],[(7,false)],[(1,false),(8,false),(12,true)]] [hB b2 [vT a0.Array.l,vS p1 Subs c1],hB b1 [vT ([]),z0],hB b (cAccess a0 p c)] [[hO zA (vS p1 Subs c1) cs]] [(9,true)] (zY [1,2,3,0]) ?_ ?_
   · refine O4<|Op<|Ox ?_<|Ox ?_<|Ox ?_<|Ox ?_<|Ox ?_<|On
     · intro I1 hf ae;refine xD [18,19] rfl ?_;have h:=h.mono ae;refine wA rfl rfl h hy ?_;intro ad aK ap al;obtain ⟨p3,c3,rfl,h4⟩:=yG al;exact yM [] iR ⟨_,_,_,rfl,rfl,ap,h4⟩
     · rintro I1 hf ae _ _ ⟨ad,p3,c3,rfl,rfl,ap,h4⟩;exact xD [20] rfl<|xP 0 ap (cAff x p3 c3) (vA (cAff x p3 c3)) rfl<|yM [] iR ⟨_,_,rfl,rfl,h4⟩
     · rintro I1 hf ae _ _ ⟨p31,c31,rfl,rfl,h41⟩;refine xD [21] rfl ?_;have H:=iS I1;refine xJ (zAA x _ ax h41) ?_;rintro I0 av v2 k2 le - ⟨v01,rfl,rfl,⟨aU,rfl,h5⟩⟩ -;have H:=H.trans le;obtain ⟨p4,c4,rfl,h6⟩:=yG h5;exact yM [] H ⟨_,_,rfl,rfl,h6⟩
     · rintro I1 hf ae _ _ ⟨p4,c4,rfl,rfl,h6⟩;refine xD [22] rfl ?_;have H:=iS I1;refine mE (rc y (yK ⟨_,rfl,h6⟩) rN) ?_;intro b3 aR ae h8;have H:=H.trans ae;exact yM [] H ⟨_,rfl,rfl,h8⟩
     rintro I1 hf ae _ _ ⟨rfl,rfl⟩ _ _ ⟨b3,rfl,rfl,h8⟩ _ _ rfl;refine xD [16,23] rfl ?_;have h2:=iM ae h2;obtain ⟨bo,k0,k01⟩:=h8;have h8:SL I1 (vS (some ⟨b3,0,none⟩) ([y]:List zA) 1) ([y]:List zA):=⟨_,k0,k01⟩;exact qA 69 2 0 rfl rfl rfl h2 (.inl k0) k01 aE fun p5 c5 aO h9=>vQ (ah:=(hO zA (vS p5 l c5) aO::hB b2 [vT a0.Array.l,vS p1 Subs c1]::hB b1 [vT ([]),z0]::hB b (cAccess a0 p c)::hf)) rfl<|yM [hO zA (vS p5 l c5) aO] iR ⟨_,_,_,rfl,rfl,h9⟩
   rintro aV aB _ _ ⟨p5,c5,aO,rfl,rfl,h9⟩;refine xD [1,2,3,4,24] rfl ?_;have ⟨h,H⟩:=m2 aB h H;exact yD 11 [] [25] rfl<|yS 1 [vT a0.Array.l,vS p5 l c5] rfl<|zU rfl<|zP<|zK<|zM<|yL [] [4] rfl<|yX<|mC<|ih (W (i+1)) l _ N H h h9 hg ho hx
 intro hc N;exact vC<|wH (zW [0,1,2] rfl (by decide))<|yQ<|hx _ _ _ _ _ (zE N).symm H h2
def uA (a0:zJ):Option (zJ):=do
 let Subs1<-vL a0 0 ([]:List zA);pure (zJ.mk a0.Array Subs1)
theorem kK:∀ a0 r,uA a0=some r->∀ {I:Imm}{p c},(S4 I p a0.Subs c)->RT 90 [vA (cAccess a0 p c)] I [] (zCy  r):=by
 intro a0 r N I p c h;unfold uA at N;refine yJ func90 fun B=>yA<|vD (cAccess a0 p c) ?_;intro b hb;refine xU [vT ([]),z0] ?_;intro b1 hb1;refine zU rfl<|yT<|vU 3 [1] [(7,vA [vT a0.Array.l,z0])]<|xU [vT ([]),z0] ?_;intro b2 hb2;refine yS 0 [vT a0.Array.l,z0] rfl<|zU rfl<|zZ<|yI [4] rfl<|wQ<|pM [(1,vP b 0),(2,vP b1 0),(3,vP b2 0),(4,vI 0)]<|zAP zA fun h1=>?_;obtain ⟨o0,az,aG⟩:=zB N;refine zC8 a0 0 ([]:List zA) o0 az iR h h1 nG nO ?_;intro bv Subs1 p2 c2 aw heq aF h3;subst o0;refine zR<|yT<|vU 1 [1] [(26,vA [vT a0.Array.l,vS p2 Subs1 c2])]<|yS 2 [vT a0.Array.l,vS p2 Subs1 c2] rfl<|zU rfl<|zK<|xF ?_;exact xO aG (resC 2 rfl rfl) (zW [0] rfl (by decide)) ⟨_,_,_,rfl,rfl,h3⟩
end Go.LN
