/- Helper of the proof (see the last text). -/
import Derived.Test.YtkipogionmkncaaGreatDoorHM2
set_option linter.unusedVariables false
set_option linter.unusedSimpArgs false
namespace Go.LN
open Go.Proofs Go.Proofs.Tryz
set_option maxRecDepth 20000
def xV(ai:(List zA))(ap:Int)(i:Int):Option (Out Unit (Bool)):=do
 if(decide (i<(ai.length:Int))) then
  let t26<-(do
   let x<-idx ai i
   let y<-wF x
   if(!y) then
    pure true
   else
    let x1<-idx ai i
    let y1<-tJ x1
    pure (decide (y1>ap))
     : Option Bool)
  if t26 then
   pure (.ret false)
  else
   xV ai ap (W (i+1))
 else
  pure (.done ())
 partial_fixpoint
theorem jY(ai:(List zA))(ap:Int):∀(i:Int) (o:Out Unit (Bool)),xV ai ap i=some o->∀{B}{I0 I:Imm}{Q p c},I0.le I->(S4 I p ai c)->NG Q->NO Q->(∀(I':Imm) ,o=(.done ())->I0.le I'->T 35 B Q (.exit 0) I' [] [(0,vS p ai c)])->(∀r I' af m',o=(.ret r)->I0.le I'->RS Tryz.prog f61 B (zU  r) I' af m'->T 35 B Q .ret I' af m')->J Tryz.prog 35 B (nav (bodyOf f61) [1,0,1,0]) Q I [] [(0,vS p ai c),(1,vI ap),(5,vI i)]:=by
 refine xV.partial_correctness ai ap _ λaO ih i o N B I0 I Q p c H h hg ho hx hr=>wI hg ho<|yK<|yL [9] rfl<|zE<|yI N ?_ ?_
 ·intro hc N;refine zO<|yC<|xK<|yK ?_;refine tA N [] (λt26=>[(0,vS p ai c),(1,vI ap),(5,vI i),(26,.bool t26)]) (λo0 aC=>?_) ?_
  ·have H:=iS I;refine zF<|yE 2 [] [12,13] rfl ?_;obtain⟨x,hy,N⟩:=zC aC;refine tO rfl rfl h hy ?_;intro ad az au al;obtain⟨p1,c1,rfl,h1⟩:=yB al;refine tN 0 au (cAff x p1 c1) (vA (cAff x p1 c1)) rfl<|bE N λy aA N=>pE (pA x _ aA h1) ?_;intro aQ le;have ⟨h,H⟩:=m2 le h H;refine yE 7 [] [18] rfl<|uF [18] N ?_ ?_
   ·intro aG N;exact sG [] [(26,vY)]<|xC<|zL (ct N H)
   intro aG N;refine yE 9 [] [19,20] rfl<|bE N λx1 aL N=>tO rfl rfl h aL ?_;intro ad1 bh aJ aD;obtain⟨p2,c2,rfl,h3⟩:=yB aD;refine tN 0 aJ (cAff x1 p2 c2) (vA (cAff x1 p2 c2)) rfl<|bE N λy1 aS N=>zDb (eK x1 _ aS h3) ?_;intro aW ah;have H:=H.trans ah;exact yO [] [26] rfl<|xC<|zL (ct N H)
  intro t26 I0 aH aN;have ⟨h,H⟩:=m2 aH h H;refine zE<|yI aN ?_ ?_
  ·intro aR N;exact vO [(4,vF)]<|vG<|yD<|zG<|zG<|hr _ _ _ _ (zD N).symm H ⟨_,_,(.tmp rfl ResV.nil),zN,⟨_,rfl,rfl,rfl⟩⟩
  intro aR N;exact zO<|zJ<|zE<|zF<|yO [] [5] rfl<|wD<|kK<|ih (W (i+1)) _ N H h hg ho hx hr
 intro hc N;exact rG<|xC<|hx _  (zD N).symm H
def sX(ai:(List zA))(ap:Int):Option (Bool):=do
 match<-xV ai ap 0 with
 | .ret r0=>pure r0
 | .done _=>
  let t4<-(do
   if(decide ((ai.length:Int)>=1)) then
    pure (decide ((ai.length:Int)<=2))
   else
    pure false
     : Option Bool)
  pure (id t4)
theorem mQ:∀ai ap r,sX ai ap=some r->∀{I:Imm}{p c},(S4 I p ai c)->RT 61 [vS p ai c,vI ap] I [] (zU  r):=by
 intro ai ap r N I p c h;unfold sX at N;refine yN func61 λB=>?_;have H:=iS I;refine vO []<|yC<|yL [5] rfl<|sR<|pY [(0,vS p ai c),(1,vI ap),(5,vI 0)] ?_;obtain⟨aI,aB,aM⟩:=zC N;refine jY ai ap 0 aI aB iR h (λ_ _ _ h=>h) (λ_ _ h=>h) ?_ ?_
 ·intro a6  heq1 aK;subst aI;have H:=H.trans aK;refine zR<|zE<|yK ?_;refine tA aM [] (λt4=>[(4,.bool t4)]) (λo02 ho02=>?_) ?_
  ·have H:=iS a6;refine zF<|yE 4 [] [30] rfl<|uF [30] ho02 ?_ ?_
   ·intro bq N;exact yO [] [4] rfl<|xC<|zL (ct N H)
   intro bq N;exact sG [] [(4,vF)]<|xC<|zL (ct N H)
  intro t4 bu aV hMc1;refine zE<|xL ?_;obtain rfl:=zD hMc1;exact tD
 intro r0 I9 hs9 m9 aT le9 aU;subst aT;refine yD<|zG ?_;obtain rfl:=zD aM;exact wJ aU
def wA(ae:(List zB))(i:Int):Option (Out Unit (Bool)):=do
 let t12<-(do
  if(decide (i<(ae.length:Int))) then
   pure (decide ((ae.length:Int)<=4))
  else
   pure false
    : Option Bool)
 if t12 then
  let t32<-(do
   let x<-idx ae i
   let y<-sX x.Lo i
   if(!y) then
    pure true
   else
    let x1<-idx ae i
    let y1<-sX x1.Hi i
    pure (!y1)
     : Option Bool)
  if t32 then
   pure (.ret false)
  else
   wA ae (W (i+1))
 else
  pure (.done ())
 partial_fixpoint
theorem mR(ae:(List zB)):∀(i:Int) (o:Out Unit (Bool)),wA ae i=some o->∀{B}{I0 I:Imm}{Q p c},I0.le I->(S4 I p ae c)->NG Q->NO Q->(∀(I':Imm) ,o=(.done ())->I0.le I'->T 36 B Q (.exit 0) I' [] [(0,vS p ae c)])->(∀r I' af m',o=(.ret r)->I0.le I'->RS Tryz.prog f21 B (zU  r) I' af m'->T 36 B Q .ret I' af m')->J Tryz.prog 36 B (nav (bodyOf f21) [1,0,1,0]) Q I [] [(0,vS p ae c),(3,vI i)]:=by
 refine wA.partial_correctness ae _ λaO ih i o N B I0 I Q p c H h hg ho hx hr=>wI hg ho<|yK<|yK ?_;refine tA N [] (λt12=>[(0,vS p ae c),(3,vI i),(12,.bool t12)]) (λo0 aC=>?_) ?_
 ·have H:=iS I;refine zF<|yE 5 [] [8] rfl<|uF [8] aC ?_ ?_
  ·intro hc N;exact yO [] [12] rfl<|xC<|zL (ct N H)
  intro hc N;exact sG [] [(12,vF)]<|xC<|zL (ct N H)
 intro t12 I0 le aN;have ⟨h,H⟩:=m2 le h H;refine zE<|yI aN ?_ ?_
 ·intro aG N;refine zO<|yC<|xK<|yK ?_;refine tA N [] (λt32=>[(0,vS p ae c),(3,vI i),(32,.bool t32)]) (λaI aB=>?_) ?_
  ·have H:=iS I0;refine zF<|yE 2 [] [15,16] rfl ?_;obtain⟨x,hy,N⟩:=zC aB;refine tO rfl rfl h hy ?_;intro ad az au al;obtain⟨p1,c1,p2,c2,rfl,h1,h2⟩:=yZ al;refine yE 4 [] [18] rfl<|tN 0 au [vS p1 x.Lo c1] (vS p1 x.Lo c1) rfl<|yE 6 [] [20] rfl<|bE N λy aA N=>pE (mQ x.Lo i _ aA h1) ?_;intro aW ah;have ⟨h,H⟩:=m2 ah h H;refine yE 9 [] [23] rfl<|uF [23] N ?_ ?_
   ·intro aR N;exact sG [] [(32,vY)]<|xC<|zL (ct N H)
   intro aR N;refine yE 11 [] [24,25] rfl<|bE N λx1 aL N=>tO rfl rfl h aL ?_;intro ad1 bh aJ aD;obtain⟨p3,c3,p4,c4,rfl,h4,h5⟩:=yZ aD;refine yE 13 [] [27] rfl<|tN 1 aJ [vS p4 x1.Hi c4] (vS p4 x1.Hi c4) rfl<|yE 15 [] [29] rfl<|bE N λy1 aS N=>pE (mQ x1.Hi i _ aS h5) ?_;intro a6 aH;have H:=H.trans aH;exact yO [] [32] rfl<|xC<|zL (ct N H)
  intro t32 aQ aK hMc1;have ⟨h,H⟩:=m2 aK h H;refine zE<|yI hMc1 ?_ ?_
  ·intro bq N;exact vO [(2,vF)]<|vG<|yD<|zG<|zG<|hr _ _ _ _ (zD N).symm H ⟨_,_,(.tmp rfl ResV.nil),zN,⟨_,rfl,rfl,rfl⟩⟩
  intro bq N;exact zO<|zJ<|zE<|zF<|yO [] [3] rfl<|wD<|kK<|ih (W (i+1)) _ N H h hg ho hx hr
 intro aG N;exact rG<|xC<|hx _  (zD N).symm H
def uI(ae:(List zB)):Option (Bool):=do
 match<-wA ae 0 with
 | .ret r0=>pure r0
 | .done _=>
  pure (decide ((ae.length:Int)<=4))
theorem qG:∀ae r,uI ae=some r->∀{I:Imm}{p c},(S4 I p ae c)->RT 21 [vS p ae c] I [] (zU  r):=by
 intro ae r N I p c h;unfold uI at N;refine yN func21 λB=>vO []<|yC<|yL [3] rfl<|sR<|pY [(0,vS p ae c),(3,vI 0)] ?_;obtain⟨o02,ho02,aM⟩:=zC N;refine mR ae 0 o02 ho02 iR h (λ_ _ _ h=>h) (λ_ _ h=>h) ?_ ?_
 ·intro bu  heq2 aV;subst o02;refine zR<|sH [2] rfl<|zE<|xL ?_;obtain rfl:=zD aM;exact tD
 intro r0 I9 hs9 m9 aT le9 aU;subst aT;refine yD<|zG ?_;obtain rfl:=zD aM;exact wJ aU
def qH(r:zA):KT:=λkk I' af v=>
 ∃v0,af=[]/\v=tupV [v0]/\(∃cs,v0=.agg ⟨cs⟩/\Rp.rep I' cs r)
def oY(r:Int×Bool):KT:=λkk I' af v=>
 ∃v0 v1,af=[]/\v=tupV [v0,v1]/\v0=.int .i64 r.1/\v1=.bool r.2
def mS(b0:Nat)(r:Int×zH):KT:=λkk I' af v=>
 ∃v0 k0,af=[.blk b0 ⟨k0⟩]/\v=tupV [v0]/\v0=.int .i64 r.1/\Rp.rep I' k0 r.2
def yH(r0:zH)(n0:Int):Option (Int×zH):=do
 let t24<-(do
  if(decide (n0<1)) then
   pure true
  else
   pure ((r0.b.length:Int)==0)
    : Option Bool)
 if t24 then
  pure (0,(zH.mk r0.b (W (r0.p+1))))
 else
  if(decide ((W ((W (r0.p+1)) - 1))<(r0.b.length:Int))) then
   let x<-idx r0.b (W ((W (r0.p+1)) - 1))
   let q<-rem (W (x.toNat:Int)) n0
   pure (q,(zH.mk r0.b (W (r0.p+1))))
  else
   let q1<-rem (W ((W (r0.p+1)) - 1)) (r0.b.length:Int)
   let x1<-idx r0.b q1
   let q2<-rem (W ((W ((W ((W (r0.p+1)) - 1))*7))+3)) (r0.b.length:Int)
   let x2<-idx r0.b q2
   let q3<-quo (W ((W (r0.p+1)) - 1)) (r0.b.length:Int)
   let q4<-rem (W (BitVec.ofInt IntKind.i64.bits (W ((W ((W ((W ((W (x1.toNat:Int))*131))+(W ((W (x2.toNat:Int))*1117))))+(W ((W ((W (r0.p+1)) - 1))*29))))+(W (q3*53)))) ^^^ BitVec.ofInt IntKind.i64.bits (W ((W ((W ((W ((W ((W (x1.toNat:Int))*131))+(W ((W (x2.toNat:Int))*1117))))+(W ((W ((W (r0.p+1)) - 1))*29))))+(W (q3*53)))).tdiv 64))).toNat) n0
   pure (q4,(zH.mk r0.b (W (r0.p+1))))
theorem yY:∀r0 n0 r,yH r0 n0=some r->∀{I:Imm}{aE:Nat}{p c},(S4 I p r0.b c)->RT 68 [vP aE 0,vI n0] I [hB aE (cRd r0 p c)] (mS aE r):=by
 intro r0 n0 r N I aE p c h;unfold yH at N;refine yN func68 λB=>?_;have H:=iS I;refine vO []<|xF<|yE 8 [0] [12,14] rfl<|uE 0 [vS p r0.b c,vI (W (r0.p+1))] rfl<|xA rfl<|yC<|yK ?_;refine tA N [hB aE [vS p r0.b c,vI (W (r0.p+1))]] (λt24=>[(0,vP aE 0),(1,vI n0),(24,.bool t24)]) (λo0 aC=>?_) ?_
 ·have H:=iS I;refine zF<|yE 3 [] [17] rfl<|uF [17] aC ?_ ?_
  ·intro hc N;exact sG [] [(24,vY)]<|xC<|zL (ct N H)
  intro hc N;exact yO [0] [24] rfl<|xC<|zL (ct N H)
 intro t24 I0 le aN;have h:=h.mono le;refine zE<|yI aN ?_ ?_
 ·intro aG N;refine yL [4] rfl<|vG<|zG ?_;obtain rfl:=zD N;exact wJ ⟨_,_,(.tmp rfl ResV.nil),(yS [0] rfl (by decide)),⟨_,_,rfl,rfl,rfl,(yR ⟨_,rfl,h⟩)⟩⟩
 intro aG N;refine zO<|xF<|yO [0] [5] rfl<|yC<|xH<|yO [0] [36] rfl<|zE<|yI N ?_ ?_
 ·intro aR N;refine xH<|yE 5 [0] [40,41] rfl<|bE N λx hy N=>tO rfl rfl h hy ?_;intro ad az au al;obtain rfl:=al;refine tN 0 au [.int .u8 (x.toNat:Int)] (.int .u8 (x.toNat:Int)) rfl<|yE 9 [] [44,45] rfl<|bE N λq aA N=>zFO rfl aA<|yO [] [4] rfl<|vG<|zG ?_;obtain rfl:=zD N;exact wJ ⟨_,_,(.tmp rfl ResV.nil),(yS [0] rfl (by decide)),⟨_,_,rfl,rfl,rfl,(yR ⟨_,rfl,h⟩)⟩⟩
 intro aR N;refine zO<|yC<|dO (by kernel_rfl) (by kernel_rfl)<|zDc 10 [0,0] [50,51,56] rfl<|bE N λq1 aL N=>zEd rfl aL<|bE N λx1 aS N=>zC2 rfl rfl h aS ?_;intro ad1 bh aJ aD;obtain rfl:=aD;refine zC1 0 aJ [.int .u8 (x1.toNat:Int)] (.int .u8 (x1.toNat:Int)) rfl<|zDc 27 [0,0] [61,65,68,73] rfl<|bE N λq2 bg N=>zEd rfl bg<|bE N λx2 bj N=>zC2 rfl rfl h bj ?_;intro ad2 bO bw bB;obtain rfl:=bB;refine zC1 0 bw [.int .u8 (x2.toNat:Int)] (.int .u8 (x2.toNat:Int)) rfl<|zDc 42 [0] [82,83,88] rfl<|bE N λq3 hy6 N=>zFN rfl hy6<|zFQ [] [6] rfl<|sH [6] rfl<|xF<|yE 2 [] [96,97] rfl<|bE N λq4 hy7 N=>zFO rfl hy7<|yO [] [4] rfl<|zE<|xL ?_;obtain rfl:=zD N;exact wJ ⟨_,_,(.tmp rfl ResV.nil),(yS [0] rfl (by decide)),⟨_,_,rfl,rfl,rfl,(yR ⟨_,rfl,h⟩)⟩⟩
def kP(b0:Nat)(r:Int×zH):KT:=λkk I' af v=>
 ∃v0 k0,af=[.blk b0 ⟨k0⟩]/\v=tupV [v0]/\v0=.int .i64 r.1/\Rp.rep I' k0 r.2
def wK(r0:zH)(ai:(List Int)):Option (Int×zH):=do
 let (y1,y2)<-yH r0 (ai.length:Int)
 let x<-idx ai y1
 pure (x,y2)
theorem tX:∀r0 ai r,wK r0 ai=some r->∀{I:Imm}{aE:Nat}{p c p1 c1},(S4 I p r0.b c)->(S4 I p1 ai c1)->RT 105 [vP aE 0,vS p1 ai c1] I [hB aE (cRd r0 p c)] (kP aE r):=by
 intro r0 ai r N I aE p c p1 c1 h h1;unfold wK at N;refine yN func105 λB=>vO []<|xF<|yE 4 [] [5,6,8] rfl ?_;obtain⟨⟨y1,y2⟩,hy,N⟩:=zC N;refine pT (yY r0 (ai.length:Int) _ hy h) rfl ?_;rintro I0 aw v2 k2 le - ⟨v0,kk,rfl,rfl,rfl,h3⟩ -;have h1:=h1.mono le;obtain⟨p2,c2,rfl,h4⟩:=yG h3;obtain⟨x,aA,N⟩:=zC N;refine tO rfl rfl h1 aA ?_;intro ad az au al;obtain rfl:=al;refine tN 0 au [vI x] (vI x) rfl<|yO [] [4] rfl<|zE<|xL ?_;obtain rfl:=zD N;exact wJ ⟨_,_,(.tmp rfl ResV.nil),(yS [0] rfl (by decide)),⟨_,_,rfl,rfl,rfl,(yR ⟨_,rfl,h4⟩)⟩⟩
def wL(n01:Int)(ak:Str):Option ((Int×Str)):=do
 if(decide (n01>9)) then
  let s1<-cat (⟨([(u8 (W (48+(n01.tmod 10))))]:List UInt8)⟩:Str) ak
  wL (W (n01.tdiv 10)) s1
 else
  pure (n01,ak)
 partial_fixpoint
theorem jZ :∀(n01:Int) (ak:Str) (o:(Int×Str)),wL n01 ak=some o->∀{B}{I0 I:Imm}{Q}  ,I0.le I->NG Q->NO Q->(∀(I':Imm) (n02:Int) (aj:Str),o=(n02,aj)->I0.le I'->T 31 B Q (.exit 0) I' [] [(0,vI n02),(3,vT aj.l)])->J Tryz.prog 31 B (nav (bodyOf f39) [1,1,1,1,0,0]) Q I [] [(0,vI n01),(3,vT ak.l)]:=by
 refine wL.partial_correctness  _ λaO ih n01 ak o N B I0 I Q H hg ho hx=>wI hg ho<|yK<|yL [13] rfl<|zE<|yI N ?_ ?_
 ·intro aR N;refine zO<|sR<|xH<|yE 3 [] [16] rfl<|zFL (d:=17) (i:=(W (48+(n01.tmod 10)))) rfl (by kernel_rfl)<|qC [.int .u8 ((u8 (W (48+(n01.tmod 10)))).toNat:Int)] UInt8 ?_;intro b hb;have h1:RL I [.int .u8 ((u8 (W (48+(n01.tmod 10)))).toNat:Int)] ([(u8 (W (48+(n01.tmod 10))))]:List UInt8):=⟨[.int .u8 ((u8 (W (48+(n01.tmod 10)))).toNat:Int)],_,rfl,rfl,rfl,rfl⟩;exact zCZ (l:=([(u8 (W (48+(n01.tmod 10))))]:List UInt8)) rfl rfl rfl rfl (by kernel_rfl) (by kernel_rfl) (.inr ⟨0,rfl⟩) h1<|yE 7 [] [20] rfl<|bE N λs1 aL N=>rX rfl aL<|yO [] [3] rfl<|zE<|zF<|yO [] [0] rfl<|zJ<|wD<|jR zN<|kK<|ih (W (n01.tdiv 10)) s1 _ N H  hg ho hx
 intro aR N;exact rG<|xC<|hx _ _ _ (zD N).symm H
def xW(n0:Int):Option (Str):=do
 if(decide (n0<(-9223372036854775807))) then
  pure (⟨[45,57,50,50,51,51,55,50,48,51,54,56,53,52,55,55,53,56,48,56]⟩:Str)
 else
  if(decide (n0<0)) then
   let y<-xW (W (0 - n0))
   let s<-cat (⟨[45]⟩:Str) y
   pure (id s)
  else
   let (n02,aj)<-wL n0 (⟨[]⟩:Str)
   let s2<-cat (⟨([(u8 (W (48+n02)))]:List UInt8)⟩:Str) aj
   pure (id s2)
 partial_fixpoint
theorem mT:∀n0 r,xW n0=some r->∀{I:Imm} ,RT 39 [vI n0] I [] (yA  r):=by
 refine xW.partial_correctness _ λF_spec_l16Dec ih_spec_l16Dec n0 r N I=>yN func39 λB=>vO []<|yC<|yL [5] rfl<|zE<|yI N ?_ ?_
 ·intro hc N;refine yL [2] rfl<|vG<|zG ?_;obtain rfl:=zD N;exact tD
 intro hc N;refine zO<|yC<|yL [7] rfl<|zE<|yI N ?_ ?_
 ·intro aG N;refine xH<|yE 2 [] [9] rfl<|bE N λy hy N=>xT (ih_spec_l16Dec (W (0 - n0)) _ hy ) ?_;rintro I0 aw v2 k2 le - ⟨v0,rfl,rfl,rfl⟩ -;obtain⟨s,aA,N⟩:=zC N;refine rX rfl aA<|yO [] [2] rfl<|vG<|zG ?_;obtain rfl:=zD N;exact tD
 intro aG N;refine zO<|sH [3] rfl<|yC<|xK<|pY [(0,vI n0),(3,vT ([]))] ?_;obtain⟨o0,aC,aM⟩:=zC N;refine jZ n0 (⟨[]⟩:Str) o0 aC iR  (λ_ _ _ h=>h) (λ_ _ h=>h) ?_;intro aQ n02 aj heq ah;subst o0;refine zR<|xF<|yE 2 [] [25] rfl<|zFL (d:=26) (i:=(W (48+n02))) rfl (by kernel_rfl)<|qC [.int .u8 ((u8 (W (48+n02))).toNat:Int)] UInt8 ?_;intro b1 hb1;have h2:RL aQ [.int .u8 ((u8 (W (48+n02))).toNat:Int)] ([(u8 (W (48+n02)))]:List UInt8):=⟨[.int .u8 ((u8 (W (48+n02))).toNat:Int)],_,rfl,rfl,rfl,rfl⟩;refine zCZ (l:=([(u8 (W (48+n02)))]:List UInt8)) rfl rfl rfl rfl (by kernel_rfl) (by kernel_rfl) (.inr ⟨0,rfl⟩) h2<|yE 6 [] [29] rfl ?_;obtain⟨s2,aS,N⟩:=zC aM;refine rX rfl aS<|yO [] [2] rfl<|zE<|xL ?_;obtain rfl:=zD N;exact tD
def wX(n0:Int)(name:Str):Option (Str):=do
 let (n01,sign)<-(do
  if(decide (n0<0)) then
   pure ((W (0 - n0)),(⟨[45]⟩:Str))
  else
   pure (n0,(⟨[43]⟩:Str))
    : Option (Int×Str))
 if(name.l==([]:List UInt8)) then
  let y<-xW n01
  let s<-cat sign y
  pure (id s)
 else
  if(n01==1) then
   let s1<-cat sign name
   pure (id s1)
  else
   let y1<-xW n01
   let s2<-cat sign y1
   let s3<-cat s2 (⟨[42]⟩:Str)
   let s4<-cat s3 name
   pure (id s4)
theorem mU:∀n0 name r,wX n0 name=some r->∀{I:Imm} ,RT 154 [vI n0,vT name.l] I [] (yA  r):=by
 intro n0 name r N I;unfold wX at N;refine yN func154 λB=>?_;have H:=iS I;refine vO []<|sH [5] rfl<|yC<|yL [7] rfl<|zE ?_;obtain⟨o0,aC,aN⟩:=zC N;refine rZ (λI' af m'=>∃(n01:Int) (sign:Str),o0=(n01,sign)/\I.le I'/\af=[]/\m'=[(0,vI n01),(1,vT name.l),(5,vT sign.l)]) ?_ ?_
 ·have H:=iS I;refine yI aC ?_ ?_
  ·intro hc N;exact yL [5] rfl<|zE<|zF<|yO [] [0] rfl<|xC<|zL ⟨_,_,(zD N).symm,H,rfl,rfl⟩
  intro hc N;exact zO<|xC<|zL ⟨_,_,(zD N).symm,H,rfl,rfl⟩
 rintro I0 aw m2 ⟨n01,sign,heq,le,rfl,rfl⟩;subst o0;refine yC<|yL [11] rfl<|zE<|yI aN ?_ ?_
 ·intro aG N;refine xH<|yE 2 [] [12,13] rfl<|bE N λy hy N=>xT (mT n01 _ hy ) ?_;rintro aQ aw v2 k2 ah - ⟨v0,rfl,rfl,rfl⟩ -;obtain⟨s,aA,N⟩:=zC N;refine rX rfl aA<|yO [] [4] rfl<|vG<|zG ?_;obtain rfl:=zD N;exact tD
 intro aG N;refine zO<|yC<|yL [17] rfl<|zE<|yI N ?_ ?_
 ·intro aR N;refine xH<|yE 2 [] [18,19] rfl<|bE N λs1 aL N=>rX rfl aL<|yO [] [4] rfl<|vG<|zG ?_;obtain rfl:=zD N;exact tD
 intro aR N;refine zO<|xF<|yE 2 [] [21,22] rfl<|bE N λy1 aS N=>xT (mT n01 _ aS ) ?_;rintro aW aw v2 k2 aH - ⟨v01,rfl,rfl,rfl⟩ -;obtain⟨s2,bg,N⟩:=zC N;refine rX rfl bg<|bE N λs3 bj N=>rX rfl bj<|yE 6 [] [26] rfl<|bE N λs4 hy6 N=>rX rfl hy6<|yO [] [4] rfl<|zE<|xL ?_;obtain rfl:=zD N;exact tD
def xX(a0:zA)(ak:Str)(i:Int):Option (Str):=do
 if(decide (i<(a0.Coefs.length:Int))) then
  let x<-idx a0.Coefs i
  let ax<-(do
   if(x != 0) then
    let x1<-idx a0.Coefs i
    let s<-sslc (⟨[105,106,107,108]⟩:Str) i (W (i+1))
    let y<-wX x1 s
    let s1<-cat ak y
    pure (id s1)
   else
    pure (id ak)
     : Option Str)
  xX a0 ax (W (i+1))
 else
  pure (id ak)
 partial_fixpoint
theorem gA(a0:zA):∀(ak:Str) (i:Int) (o:Str),xX a0 ak i=some o->∀{B}{I0 I:Imm}{Q p c}{b:Nat},I0.le I->(S4 I p a0.Coefs c)->NG Q->NO Q->(∀(I':Imm) (aj:Str),o=aj->I0.le I'->T 46 B Q (.exit 0) I' [hB b (cAff a0 p c)] [(1,vP b 0),(3,vT aj.l)])->J Tryz.prog 46 B (nav (bodyOf f92) [1,1,0,1,0]) Q I [hB b (cAff a0 p c)] [(1,vP b 0),(3,vT ak.l),(4,vI i)]:=by
 refine xX.partial_correctness a0 _ λaO ih ak i o N B I0 I Q p c b H h hg ho hx=>wI hg ho<|yK<|xH<|yO [0] [9] rfl<|zE<|yI N ?_ ?_
 ·intro hc N;refine zO<|yC<|xK<|xH<|yE 3 [0] [13,14] rfl<|bE N λx hy N=>tO rfl rfl h hy ?_;intro ad az au al;obtain rfl:=al;refine tN 0 au [vI x] (vI x) rfl<|yO [] [17] rfl<|zE ?_;refine tA N [hB b (cAff a0 p c)] (λax=>[(1,vP b 0),(3,vT ax.l),(4,vI i)]) (λo0 aC=>?_) ?_
  ·have H:=iS I;refine yI aC ?_ ?_
   ·intro aG N;obtain⟨x1,aA,N⟩:=zC N;obtain⟨s,aL,N⟩:=zC N;obtain⟨y,aS,N⟩:=zC N;obtain⟨s1,bg,N⟩:=zC N;refine qA [.p (vT ak.l) [],.p (vP b 0) [],.p (vS p a0.Coefs c) [0],.p (vI i) [],.x (λI' v hx=>∃ad1,v=.pointer (some ad1)/\hx=[]/\(At I' ad1 [vI x1])),.q (vI x1),.p (vI i) [],.p (vI i) [],.p (vI (W (i+1))) [],.q (vT s.l),.q (vT y.l),.q (vT s1.l)] [[],[],[(1,false)],[],[(2,false),(3,false)],[(4,false)],[],[],[(7,false)],[(6,false),(8,false)],[(5,false),(9,false)],[(0,false),(10,false)]] [hB b (cAff a0 p c)] [] [(11,false)] (xN [0]) ?_ ?_
    ·refine Op<|Op<|Op<|Op<|Ox ?_<|Oq ?_<|Op<|Op<|Op<|Oq ?_<|Oq ?_<|Oq ?_<|On
     ·intro I1 hf ah;refine uS [20,21] rfl ?_;have h:=h.mono ah;refine tO rfl rfl h aA ?_;intro ad1 bh aJ aD;obtain rfl:=aD;exact uP [] iR ⟨_,rfl,rfl,aJ⟩
     ·rintro I1 hf ah _ _ ⟨ad1,rfl,rfl,aJ⟩;exact uS [22] rfl<|tN 0 aJ [vI x1] (vI x1) rfl<|tP iR
     ·intro I1 hf ah;exact uS [24,26] rfl<|jV rfl aL<|tP iR
     ·intro I1 hf ah;refine uS [23,27] rfl ?_;have H:=iS I1;refine xT (mU x1 s _ aS ) ?_;rintro aQ aw v2 k2 le - ⟨v0,rfl,rfl,rfl⟩ -;have H:=H.trans le;exact tP H
     intro I1 hf ah;exact uS [18,28] rfl<|rX rfl bg<|tP iR
    intro aW ah;refine uS [1,4,29] rfl ?_;have H:=H.trans ah;exact yO [] [3] rfl<|xC<|zL (ct N H)
   intro aG N;exact zO<|xC<|zL (ct N H)
  intro ax I0 aH aN;have ⟨h,H⟩:=m2 aH h H;exact zJ<|zE<|zF<|yO [] [4] rfl<|wD<|kK<|ih ax (W (i+1)) _ aN H h hg ho hx
 intro hc N;exact rG<|xC<|hx _ _ (zD N).symm H
def tF(a0:zA):Option (Str):=do
 let aj<-xX a0 (⟨[]⟩:Str) 0
 let bi<-(do
  if(a0.Const != 0) then
   let y1<-wX a0.Const (⟨[]⟩:Str)
   let s2<-cat aj y1
   pure (id s2)
  else
   pure (id aj)
    : Option Str)
 if(bi.l==([]:List UInt8)) then
  pure (⟨[48]⟩:Str)
 else
  let s3<-sslc bi 0 1
  if(s3.l==([43]:List UInt8)) then
   let s4<-sslc bi 1 (bi.l.length:Int)
   pure (id s4)
  else
   pure (id bi)
theorem mV:∀a0 r,tF a0=some r->∀{I:Imm}{p c},(S4 I p a0.Coefs c)->RT 92 [vA (cAff a0 p c)] I [] (yA  r):=by
 intro a0 r N I p c h;unfold tF at N;refine yN func92 λB=>?_;have H:=iS I;refine xH<|mN (cAff a0 p c) ?_;intro b hb;refine sG [] []<|sH [3] rfl<|yC<|yL [4] rfl<|sR<|pY [(1,vP b 0),(3,vT ([])),(4,vI 0)] ?_;obtain⟨aI,aB,aM⟩:=zC N;refine gA a0 (⟨[]⟩:Str) 0 aI aB iR h (λ_ _ _ h=>h) (λ_ _ h=>h) ?_;intro a6 aj heq1 aK;subst aI;have H:=H.trans aK;refine zR<|yC<|xH<|yO [0] [32] rfl<|zE ?_;refine tA aM [] (λbi=>[(3,vT bi.l)]) (λo02 ho02=>?_) ?_
 ·have H:=iS a6;refine yI ho02 ?_ ?_
  ·intro aR N;refine zF<|yE 3 [0] [33,35] rfl<|bE N λy1 bj N=>xT (mU a0.Const (⟨[]⟩:Str) _ bj ) ?_;rintro bG aw v2 k2 aV - ⟨v01,rfl,rfl,rfl⟩ -;have H:=H.trans aV;obtain⟨s2,hy6,N⟩:=zC N;exact rX rfl hy6<|yO [] [3] rfl<|pD zN<|xC<|zL (ct N H)
  intro aR N;exact zO<|pD zN<|xC<|zL (ct N H)
 intro bi bu bm hMc1;refine yC<|yL [39] rfl<|zE<|yI hMc1 ?_ ?_
 ·intro bq N;refine yL [2] rfl<|vG<|zG ?_;obtain rfl:=zD N;exact tD
 intro bq N;refine zO<|yC<|xH<|yE 1 [] [40] rfl<|bE N λs3 hy7 N=>jV rfl hy7<|yO [] [42] rfl<|zE<|yI N ?_ ?_
 ·intro bx N;refine xH<|yE 1 [] [43] rfl<|bE N λs4 hy8 N=>jV rfl hy8<|yO [] [2] rfl<|vG<|zG ?_;obtain rfl:=zD N;exact tD
 intro bx N;refine zO<|sH [2] rfl<|zE<|xL ?_;obtain rfl:=zD N;exact tD
def yV(ai:(List zA))(ak:Str)(i:Int):Option (Str):=do
 if(decide (i<(ai.length:Int))) then
  let ax<-(do
   if(decide (i>0)) then
    let s<-cat ak (⟨[44]⟩:Str)
    pure (id s)
   else
    pure (id ak)
     : Option Str)
  let x<-idx ai i
  let y<-tF x
  let s1<-cat ax y
  yV ai s1 (W (i+1))
 else
  pure (id ak)
 partial_fixpoint
theorem mD(ai:(List zA)):∀(ak:Str) (i:Int) (o:Str),yV ai ak i=some o->∀{B}{I0 I:Imm}{Q p c},I0.le I->(S4 I p ai c)->NG Q->NO Q->(∀(I':Imm) (aj:Str),o=aj->I0.le I'->T 23 B Q (.exit 0) I' [] [(3,vT aj.l)])->J Tryz.prog 23 B (nav (bodyOf f91) [1,1,0,1,0]) Q I [] [(0,vS p ai c),(3,vT ak.l),(4,vI i)]:=by
 refine yV.partial_correctness ai _ λaO ih ak i o N B I0 I Q p c H h hg ho hx=>wI hg ho<|yK<|yL [8] rfl<|zE<|yI N ?_ ?_
 ·intro hc N;refine zO<|yC<|xK<|yK<|yL [12] rfl<|zE ?_;refine tA N [] (λax=>[(0,vS p ai c),(3,vT ax.l),(4,vI i)]) (λo0 aC=>?_) ?_
  ·have H:=iS I;refine yI aC ?_ ?_
   ·intro aG N;exact zF<|yE 1 [] [13] rfl<|bE N λs hy N=>rX rfl hy<|yO [] [3] rfl<|xC<|zL (ct N H)
   intro aG N;exact zO<|xC<|zL (ct N H)
  intro ax I0 le aN;have ⟨h,H⟩:=m2 le h H;refine zE<|zF<|yE 3 [] [15,16,17] rfl ?_;obtain⟨x,aA,N⟩:=zC aN;refine tO rfl rfl h aA ?_;intro ad az au al;obtain⟨p1,c1,rfl,h1⟩:=yB al;refine tN 0 au (cAff x p1 c1) (vA (cAff x p1 c1)) rfl<|bE N λy aL N=>xT (mV x _ aL h1) ?_;rintro aQ aw v2 k2 ah - ⟨v01,rfl,rfl,rfl⟩ -;have ⟨h,H⟩:=m2 ah h H;obtain⟨s1,aS,N⟩:=zC N;exact rX rfl aS<|yO [] [3] rfl<|zJ<|zE<|zF<|yO [] [4] rfl<|wD<|kK<|ih s1 (W (i+1)) _ N H h hg ho hx
 intro hc N;exact rG<|xC<|hx _ _ (zD N).symm H
def wV(ai:(List zA)):Option (Str):=do
 let aj<-yV ai (⟨[]⟩:Str) 0
 pure (id aj)
theorem pM:∀ai r,wV ai=some r->∀{I:Imm}{p c},(S4 I p ai c)->RT 91 [vS p ai c] I [] (yA  r):=by
 intro ai r N I p c h;unfold wV at N;refine yN func91 λB=>vO []<|sH [3] rfl<|yC<|yL [4] rfl<|sR<|pY [(0,vS p ai c),(3,vT ([])),(4,vI 0)] ?_;obtain⟨aI,aB,aM⟩:=zC N;refine mD ai (⟨[]⟩:Str) 0 aI aB iR h (λ_ _ _ h=>h) (λ_ _ h=>h) ?_;intro aW aj heq1 aH;subst aI;refine zR<|sH [2] rfl<|zE<|xL ?_;obtain rfl:=zD aM;exact tD
end Go.LN
