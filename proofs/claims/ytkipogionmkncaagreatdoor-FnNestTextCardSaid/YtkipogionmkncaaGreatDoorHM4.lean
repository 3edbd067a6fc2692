/- Helper of the proof (see the last text). -/
import Derived.Test.YtkipogionmkncaaGreatDoorHM3
set_option linter.unusedVariables false
set_option linter.unusedSimpArgs false
namespace Go.LN
open Go.Proofs Go.Proofs.Tryz
set_option maxRecDepth 20000
def oZ(r:(List Str)):KT:=λkk I' af v=>
 ∃v0,af=[]/\v=tupV [v0]/\SL I' v0 r
def xP(s:Str)(c:UInt8)(ak:List Str)(from0:Int)(i:Int):Option (List Str):=do
 if(decide (i<=(s.l.length:Int))) then
  let t25<-(do
   if(i==(s.l.length:Int)) then
    pure true
   else
    let b1<-sidx s i
    pure ((b1.toNat:Int)==(c.toNat:Int))
     : Option Bool)
  let (ax,from01)<-(do
   if t25 then
    let s1<-sslc s from0 i
    let bi<-app 16 ak ([s1]:List Str)
    pure (bi,(W (i+1)))
   else
    pure (ak,from0)
     : Option (List Str×Int))
  xP s c ax from01 (W (i+1))
 else
  pure (id ak)
 partial_fixpoint
theorem gB(s:Str)(c:UInt8):∀(ak:List Str) (from0:Int) (i:Int) (o:List Str),xP s c ak from0 i=some o->∀{B}{I0 I:Imm}{Q p c1 cs},I0.le I->(RL I cs ak)->NG Q->NO Q->(∀(I':Imm) (aj:List Str) (p1:Option Addr) (c2:Nat) (aF:List Value),o=aj->I0.le I'->(RL I' aF aj)->T 36 B Q (.exit 0) I' [hO Str (vS p1 aj c2) aF] [(5,vS p1 aj c2)])->J Tryz.prog 36 B (nav (bodyOf f55) [1,1,1,0,1,0]) Q I [hO Str (vS p ak c1) cs] [(0,vT s.l),(1,.int .u8 (c.toNat:Int)),(5,vS p ak c1),(6,vI from0),(7,vI i)]:=by
 refine xP.partial_correctness s c _ λaO ih ak from0 i o N B I0 I Q p c1 cs H h1 hg ho hx=>wI hg ho<|yK<|yL [12] rfl<|zE<|yI N ?_ ?_
 ·intro hc N;refine zO<|yC<|xK<|yK ?_;refine tA N [hO Str (vS p ak c1) cs] (λt25=>[(0,vT s.l),(1,.int .u8 (c.toNat:Int)),(5,vS p ak c1),(6,vI from0),(7,vI i),(25,.bool t25)]) (λo0 aC=>?_) ?_
  ·have H:=iS I;refine zF<|yE 5 [] [19] rfl<|uF [19] aC ?_ ?_
   ·intro aG N;exact sG [] [(25,vY)]<|xC<|zL (ct N H)
   intro aG N;exact yE 7 [] [20,21] rfl<|bE N λb1 hy N=>mA rfl rfl hy<|yO [] [25] rfl<|xC<|zL (ct N H)
  intro t25 I0 le aN;have ⟨h1,H⟩:=m2 le h1 H;refine zE ?_;obtain⟨aI,aB,hMc1⟩:=zC aN;refine rZ (λI' af m'=>∃(ax:List Str) (from01:Int) (p2:Option Addr) (c3:Nat) (bf:List Value),aI=(ax,from01)/\I0.le I'/\(RL I' bf ax)/\af=[hO Str (vS p2 ax c3) bf]/\m'=[(0,vT s.l),(1,.int .u8 (c.toNat:Int)),(5,vS p2 ax c3),(6,vI from01),(7,vI i)]) ?_ ?_
  ·have H:=iS I0;refine yI aB ?_ ?_
   ·intro aR N;refine xH<|yE 4 [] [26,27,28,29] rfl<|bE N λs1 aA N=>jV rfl aA<|qC [vT s1.l] Str ?_;intro b2 hb1;have h4:RL I0 [vT s1.l] ([s1]:List Str):=rT [s1];obtain⟨bi,aL,N⟩:=zC N;exact oO 9 1 1 rfl rfl rfl h1 (.inr ⟨0,rfl⟩) h4 aL λp3 c4 aZ h5=>oI (xN [1] (af:=[hO Str (vS p3 bi c4) aZ]))<|yO [] [5] rfl<|zE<|zF<|yO [] [6] rfl<|xC<|zL ⟨_,_,_,_,_,(zD N).symm,H,h5,rfl,rfl⟩
   intro aR N;exact zO<|xC<|zL ⟨_,_,_,_,_,(zD N).symm,H,h1,rfl,rfl⟩
  rintro aQ aw m2 ⟨ax,from01,p2,c3,bf,heq1,ah,h3,rfl,rfl⟩;subst aI;have H:=H.trans ah;exact zJ<|zE<|zF<|yO [] [7] rfl<|wD<|kK<|ih ax from01 (W (i+1)) _ hMc1 H h3 hg ho hx
 intro hc N;exact rG<|xC<|hx _ _ _ _ _ (zD N).symm H h1
def uM(s:Str)(c:UInt8):Option ((List Str)):=do
 let aj<-xP s c ([]:List Str) 0 0
 pure (id aj)
theorem pN:∀s c r,uM s c=some r->∀{I:Imm} ,RT 55 [vT s.l,.int .u8 (c.toNat:Int)] I [] (oZ  r):=by
 intro s c r N I;unfold uM at N;refine yN func55 λB=>vO []<|xF<|qC [] Str ?_;intro b hb;have h:RL I [] ([]:List Str):=rfl;refine yO [] [5] rfl<|sH [6] rfl<|yC<|yL [7] rfl<|sR<|pY [(0,vT s.l),(1,.int .u8 (c.toNat:Int)),(5,vS (some ⟨b,0,none⟩) ([]:List Str) 0),(6,vI 0),(7,vI 0)] ?_;obtain⟨o02,ho02,aM⟩:=zC N;refine gB s c ([]:List Str) 0 0 o02 ho02 iR h (λ_ _ _ h=>h) (λ_ _ h=>h) ?_;intro aW aj p1 c2 aF heq2 aH h2;subst o02;refine zR<|sH [4] rfl<|vG<|uN 0 rfl ?_;intro a6 aK hl0;have h6:=SL.of_frozen hl0 aK h2;obtain rfl:=zD aM;exact wJ ⟨_,_,(.tmp rfl ResV.nil),zN,⟨_,rfl,rfl,h6⟩⟩
def qP(r:zA):KT:=λkk I' af v=>
 ∃a0_0 c0_0 s0_0,af=[.osl (.slice a0_0 r.Coefs.length c0_0) (Rp.sz Int) s0_0]/\v=tupV [(.agg ⟨[.slice a0_0 r.Coefs.length c0_0,.int .i64 r.Const]⟩)]/\RepL (Rp.rep I') (Rp.sz Int) s0_0 r.Coefs
def sC :Option (zA):=do
 pure (zA.mk ([0,0,0,0]:List Int) 0)
theorem pO:∀r,sC =some r->∀{I:Imm} ,RT 142 [] I [] (qP  r):=by
 intro  r N I;unfold sC at N;refine yN func142 λB=>xH<|rF [z0,vI 0] ?_;intro b hb;refine xA rfl<|xF<|qC [vI 0,vI 0,vI 0,vI 0] Int ?_;intro b1 hb1;have h:RL I [vI 0,vI 0,vI 0,vI 0] ([0,0,0,0]:List Int):=rI [0,0,0,0];refine yE 2 [] [2] rfl<|uE 1 [vS (some ⟨b1,0,none⟩) ([0,0,0,0]:List Int) 4,vI 0] rfl<|xA rfl<|zE<|xL ?_;obtain rfl:=zD N;exact wJ ⟨_,_,(.cell 1 rfl rfl (by kernel_rfl) ResV.nil),(yS [0] rfl (by decide)),⟨_,_,_,rfl,rfl,h⟩⟩
def xY(s1:Str)(n0:Int)(i:Int):Option (Out Int (Int×Bool)):=do
 if(decide (i<(s1.l.length:Int))) then
  let t54<-(do
   let b2<-sidx s1 i
   if(decide ((b2.toNat:Int)<48)) then
    pure true
   else
    let b3<-sidx s1 i
    pure (decide ((b3.toNat:Int)>57))
     : Option Bool)
  if t54 then
   pure (.ret (0,false))
  else
   let b4<-sidx s1 i
   xY s1 (W ((W (n0*10))+(W (IntKind.u8.wrap ((b4.toNat:Int) - 48))))) (W (i+1))
 else
  pure (.done n0)
 partial_fixpoint
theorem gD(s1:Str):∀(n0:Int) (i:Int) (o:Out Int (Int×Bool)),xY s1 n0 i=some o->∀{B}{I0 I:Imm}{Q}{neg:Bool} ,I0.le I->NG Q->NO Q->(∀(I':Imm) (n01:Int),o=(.done n01)->I0.le I'->T 67 B Q (.exit 0) I' [] [(4,.bool neg),(5,vI n01)])->(∀r I' af m',o=(.ret r)->I0.le I'->RS Tryz.prog f170 B (oY  r) I' af m'->T 67 B Q .ret I' af m')->J Tryz.prog 67 B (nav (bodyOf f170) [1,1,1,1,1,0,1,0]) Q I [] [(0,vT s1.l),(4,.bool neg),(5,vI n0),(6,vI i)]:=by
 refine xY.partial_correctness s1 _ λaO ih n0 i o N B I0 I Q neg H hg ho hx hr=>wI hg ho<|yK<|yL [42] rfl<|zE<|yI N ?_ ?_
 ·intro hc7 N;refine zO<|yC<|xK<|yK<|yK ?_;refine tA N [] (λt54=>[(0,vT s1.l),(4,.bool neg),(5,vI n0),(6,vI i),(54,.bool t54)]) (λo03 ho03=>?_) ?_
  ·have H:=iS I;refine zF<|yE 2 [] [45,46] rfl ?_;obtain⟨b2,aS,N⟩:=zC ho03;refine mA rfl rfl aS<|yE 5 [] [49] rfl<|uF [49] N ?_ ?_
   ·intro hc8 N;exact sG [] [(54,vY)]<|xC<|zL (ct N H)
   intro hc8 N;exact yE 7 [] [50,51] rfl<|bE N λb3 bg N=>mA rfl rfl bg<|yO [] [54] rfl<|xC<|zL (ct N H)
  intro t54 a6 aK hMc3;have H:=H.trans aK;refine zE<|yI hMc3 ?_ ?_
  ·intro hc9 N;exact yL [2,3] rfl<|vG<|zG<|yD<|zG<|zG<|hr _ _ _ _ (zD N).symm H ⟨_,_,(.tmp rfl (.tmp rfl ResV.nil)),zN,⟨_,_,rfl,rfl,rfl,rfl⟩⟩
  intro hc9 N;exact zO<|zE<|zF<|yE 4 [] [56,57,58] rfl<|bE N λb4 bj N=>mA rfl rfl bj<|yO [] [5] rfl<|zJ<|zE<|zF<|yO [] [6] rfl<|wD<|kK<|ih (W ((W (n0*10))+(W (IntKind.u8.wrap ((b4.toNat:Int) - 48))))) (W (i+1)) _ N H  hg ho hx hr
 intro hc7 N;exact rG<|xC<|hx _ _ (zD N).symm H
def sD(s:Str):Option (Int×Bool):=do
 let neg<-(do
  if(decide ((s.l.length:Int)>0)) then
   let b<-sidx s 0
   pure ((b.toNat:Int)==45)
  else
   pure false
    : Option Bool)
 let s1<-(do
  if neg then
   let s2<-sslc s 1 (s.l.length:Int)
   pure (id s2)
  else
   pure (id s)
    : Option Str)
 let t38<-(do
  if((s1.l.length:Int)==0) then
   pure true
  else
   if(decide ((s1.l.length:Int)>17)) then
    pure true
   else
    let b1<-sidx s1 0
    if((b1.toNat:Int)==48) then
     if(decide ((s1.l.length:Int)>1)) then
      pure true
     else
      pure (id neg)
    else
     pure false
    : Option Bool)
 if t38 then
  pure (0,false)
 else
  match<-xY s1 0 0 with
  | .ret r0=>pure r0
  | .done n01=>
   let n02<-(do
    if neg then
     pure (W (0 - n01))
    else
     pure (id n01)
      : Option Int)
   pure (n02,true)
theorem dY:∀s r,sD s=some r->∀{I:Imm} ,RT 170 [vT s.l] I [] (oY  r):=by
 intro s r N I;unfold sD at N;refine yN func170 λB=>?_;have H:=iS I;refine vO []<|zE<|yK ?_;refine tA N [] (λneg=>[(0,vT s.l),(4,.bool neg)]) (λo0 aC=>?_) ?_
 ·have H:=iS I;refine zF<|yE 4 [] [10] rfl<|uF [10] aC ?_ ?_
  ·intro hc N;exact yE 5 [] [11] rfl<|bE N λb hy N=>mA rfl rfl hy<|yO [] [4] rfl<|xC<|zL (ct N H)
  intro hc N;exact sG [] [(4,vF)]<|xC<|zL (ct N H)
 intro neg I0 le aN;have H:=H.trans le;refine yC<|yL [15] rfl<|zE ?_;refine tA aN [] (λs1=>[(0,vT s1.l),(4,.bool neg)]) (λaI aB=>?_) ?_
 ·have H:=iS I0;refine yI aB ?_ ?_
  ·intro aG N;exact zF<|yE 1 [] [16] rfl<|bE N λs2 aA N=>jV rfl aA<|yO [] [0] rfl<|xC<|zL (ct N H)
  intro aG N;exact zO<|xC<|zL (ct N H)
 intro s1 aQ ah hMc1;have H:=H.trans ah;refine yC<|yK ?_;refine tA hMc1 [] (λt38=>[(0,vT s1.l),(4,.bool neg),(38,.bool t38)]) (λo02 ho02=>?_) ?_
 ·have H:=iS aQ;refine zF<|yE 4 [] [21] rfl<|uF [21] ho02 ?_ ?_
  ·intro aR N;exact sG [] [(38,vY)]<|xC<|zL (ct N H)
  intro aR N;refine yE 9 [] [26] rfl<|uF [26] N ?_ ?_
  ·intro bq N;exact sG [] [(38,vY)]<|xC<|zL (ct N H)
  intro bq N;refine yE 10 [] [27] rfl<|bE N λb1 aL N=>mA rfl rfl aL<|yE 13 [] [30] rfl<|uF [30] N ?_ ?_
  ·intro bx N;refine yE 17 [] [34] rfl<|uF [34] N ?_ ?_
   ·intro hc5 N;exact sG [] [(38,vY)]<|xC<|zL (ct N H)
   intro hc5 N;exact yO [] [38] rfl<|xC<|zL (ct N H)
  intro bx N;exact sG [] [(38,vF)]<|xC<|zL (ct N H)
 intro t38 aW aH hMc2;have H:=H.trans aH;refine zE<|yI hMc2 ?_ ?_
 ·intro hc6 N;refine yL [2,3] rfl<|vG<|zG ?_;obtain rfl:=zD N;exact wJ ⟨_,_,(.tmp rfl (.tmp rfl ResV.nil)),zN,⟨_,_,rfl,rfl,rfl,rfl⟩⟩
 intro hc6 N;refine zO<|sH [5] rfl<|yC<|yL [6] rfl<|sR<|pY [(0,vT s1.l),(4,.bool neg),(5,vI 0),(6,vI 0)] ?_;obtain⟨o04,ho04,aM⟩:=zC N;refine gD s1 0 0 o04 ho04 iR  (λ_ _ _ h=>h) (λ_ _ h=>h) ?_ ?_
 ·intro bu n01 heq4 aV;subst o04;have H:=H.trans aV;refine zR<|yC<|yL [63] rfl<|zE ?_;refine tA aM [] (λn02=>[(5,vI n02)]) (λo05 ho05=>?_) ?_
  ·have H:=iS bu;refine yI ho05 ?_ ?_
   ·intro hc10 N;exact zF<|yO [] [5] rfl<|xC<|zL (ct N H)
   intro hc10 N;exact zO<|xC<|zL (ct N H)
  intro n02 bG bm hMc4;refine sH [2,3] rfl<|zE<|xL ?_;obtain rfl:=zD hMc4;exact wJ ⟨_,_,(.tmp rfl (.tmp rfl ResV.nil)),zN,⟨_,_,rfl,rfl,rfl,rfl⟩⟩
 intro r0 I9 hs9 m9 aT le9 aU;subst aT;refine yD<|zG ?_;obtain rfl:=zD aM;exact wJ aU
def xI(s:Str)(at0:Int)(end0:Int):Option (Int):=do
 let t31<-(do
  if(decide (end0<(s.l.length:Int))) then
   if(decide (end0<(W (at0+2)))) then
    let b<-sidx s end0
    if(decide ((b.toNat:Int)>=48)) then
     let b1<-sidx s end0
     pure (decide ((b1.toNat:Int)<=57))
    else
     pure false
   else
    pure false
  else
   pure false
    : Option Bool)
 if t31 then
  xI s at0 (W (end0+1))
 else
  pure (id end0)
 partial_fixpoint
theorem kQ(s:Str)(at0:Int):∀(end0:Int) (o:Int),xI s at0 end0=some o->∀{B}{I0 I:Imm}{Q}  ,I0.le I->NG Q->NO Q->(∀(I':Imm) (end01:Int),o=end01->I0.le I'->T 47 B Q (.exit 0) I' [] [(0,vT s.l),(1,vI at0),(6,vI end01)])->J Tryz.prog 47 B (nav (bodyOf f146) [1,1,0,0]) Q I [] [(0,vT s.l),(1,vI at0),(6,vI end0)]:=by
 refine xI.partial_correctness s at0 _ λaO ih end0 o N B I0 I Q H hg ho hx=>wI hg ho<|yK<|yK ?_;refine tA N [] (λt31=>[(0,vT s.l),(1,vI at0),(6,vI end0),(31,.bool t31)]) (λo0 aC=>?_) ?_
 ·have H:=iS I;refine zF<|yE 5 [] [14] rfl<|uF [14] aC ?_ ?_
  ·intro hc N;refine yE 11 [] [20] rfl<|uF [20] N ?_ ?_
   ·intro aG N;refine yE 13 [] [21,22] rfl<|bE N λb hy N=>mA rfl rfl hy<|yE 17 [] [26] rfl<|uF [26] N ?_ ?_
    ·intro aR N;exact yE 19 [] [27,28] rfl<|bE N λb1 aA N=>mA rfl rfl aA<|yO [] [31] rfl<|xC<|zL (ct N H)
    intro aR N;exact sG [] [(31,vF)]<|xC<|zL (ct N H)
   intro aG N;exact sG [] [(31,vF)]<|xC<|zL (ct N H)
  intro hc N;exact sG [] [(31,vF)]<|xC<|zL (ct N H)
 intro t31 I0 le aN;have H:=H.trans le;refine zE<|yI aN ?_ ?_
 ·intro bq N;exact zO<|sR<|zF<|yO [] [6] rfl<|zJ<|wD<|kK<|ih (W (end0+1)) _ N H  hg ho hx
 intro bq N;exact rG<|xC<|hx _ _ (zD N).symm H
def vX(s:Str)(at0:Int):Option (Int×Int):=do
 let end01<-xI s at0 at0
 let s1<-sslc s at0 end01
 let (y1,y2)<-sD s1
 if(!y2) then
  pure (1,at0)
 else
  pure (y1,end01)
theorem fG:∀s at0 r,vX s at0=some r->∀{I:Imm} ,RT 146 [vT s.l,vI at0] I [] (kN  r):=by
 intro s at0 r N I;unfold vX at N;refine yN func146 λB=>vO []<|sH [6] rfl<|yC<|xK<|pY [(0,vT s.l),(1,vI at0),(6,vI at0)] ?_;obtain⟨aI,aB,aM⟩:=zC N;refine kQ s at0 at0 aI aB iR  (λ_ _ _ h=>h) (λ_ _ h=>h) ?_;intro aQ end01 heq1 ah;subst aI;refine zR<|xF<|yE 3 [] [35,36,37] rfl ?_;obtain⟨s1,aL,N⟩:=zC aM;refine jV rfl aL ?_;obtain⟨⟨y1,y2⟩,aS,N⟩:=zC N;refine xT (dY s1 _ aS ) ?_;rintro aW aw v2 k2 aH - ⟨v0,v01,rfl,rfl,rfl,rfl⟩ -;refine yO [] [7,8] rfl<|yC<|yL [43] rfl<|zE<|yI N ?_ ?_
 ·intro bx N;refine yL [4,5] rfl<|vG<|zG ?_;obtain rfl:=zD N;exact wJ ⟨_,_,(.tmp rfl (.tmp rfl ResV.nil)),zN,⟨_,_,rfl,rfl,rfl,rfl⟩⟩
 intro bx N;refine zO<|sH [4,5] rfl<|zE<|xL ?_;obtain rfl:=zD N;exact wJ ⟨_,_,(.tmp rfl (.tmp rfl ResV.nil)),zN,⟨_,_,rfl,rfl,rfl,rfl⟩⟩
def tG(s:Str)(at0:Int):Option (Int):=do
 let t20<-(do
  if(decide (at0>=(s.l.length:Int))) then
   pure true
  else
   let b<-sidx s at0
   if(decide ((b.toNat:Int)<105)) then
    pure true
   else
    let b1<-sidx s at0
    pure (decide ((b1.toNat:Int)>108))
    : Option Bool)
 if t20 then
  pure (-1)
 else
  let b2<-sidx s at0
  pure (W ((W (b2.toNat:Int)) - 105))
theorem dZ:∀s at0 r,tG s at0=some r->∀{I:Imm} ,RT 231 [vT s.l,vI at0] I [] (vR  r):=by
 intro s at0 r N I;unfold tG at N;refine yN func231 λB=>?_;have H:=iS I;refine vO []<|yC<|yK ?_;refine tA N [] (λt20=>[(0,vT s.l),(1,vI at0),(20,.bool t20)]) (λo0 aC=>?_) ?_
 ·have H:=iS I;refine zF<|yE 5 [] [9] rfl<|uF [9] aC ?_ ?_
  ·intro hc N;exact sG [] [(20,vY)]<|xC<|zL (ct N H)
  intro hc N;refine yE 7 [] [10,11] rfl<|bE N λb hy N=>mA rfl rfl hy<|yE 11 [] [15] rfl<|uF [15] N ?_ ?_
  ·intro aG N;exact sG [] [(20,vY)]<|xC<|zL (ct N H)
  intro aG N;exact yE 13 [] [16,17] rfl<|bE N λb1 aA N=>mA rfl rfl aA<|yO [] [20] rfl<|xC<|zL (ct N H)
 intro t20 I0 le aN;refine zE<|yI aN ?_ ?_
 ·intro aR N;refine yL [4] rfl<|vG<|zG ?_;obtain rfl:=zD N;exact tD
 intro aR N;refine zO<|xF<|yE 2 [] [21,22] rfl<|bE N λb2 aL N=>mA rfl rfl aL<|yO [] [4] rfl<|zE<|xL ?_;obtain rfl:=zD N;exact tD
def gE(r:zA×Int):KT:=λkk I' af v=>
 ∃v0 v1,af=[]/\v=tupV [v0,v1]/\(∃cs,v0=.agg ⟨cs⟩/\Rp.rep I' cs r.1)/\v1=.int .i64 r.2
def wY(a0:zA)(s:Str)(at0:Int):Option (zA×Int):=do
 let b2<-sidx s at0
 let sign<-(do
  if((b2.toNat:Int)==45) then
   pure (-1)
  else
   pure (id 1)
    : Option Int)
 let t27<-(do
  let b3<-sidx s at0
  if((b3.toNat:Int)==45) then
   pure true
  else
   let b4<-sidx s at0
   pure ((b4.toNat:Int)==43)
    : Option Bool)
 let at01<-(do
  if t27 then
   pure (W (at0+1))
  else
   pure (id at0)
    : Option Int)
 let (y1,y2)<-vX s at01
 let t51<-(do
  if(decide (y2>at01)) then
   if(decide (y2<(s.l.length:Int))) then
    let b5<-sidx s y2
    pure ((b5.toNat:Int)==42)
   else
    pure false
  else
   pure false
    : Option Bool)
 let star<-(do
  if t51 then
   pure (W (y2+1))
  else
   pure (id y2)
    : Option Int)
 let y3<-tG s star
 let l<-app 8 ([]:List Int) a0.Coefs
 let t75<-(do
  if(decide (y3>=0)) then
   if(decide (star>y2)) then
    pure true
   else
    pure (y2==at01)
  else
   pure false
    : Option Bool)
 if t75 then
  let x<-idx l y3
  let x1<-idx l y3
  let l1<-pure (l.set y3.toNat (W (x+(W (sign*y1)))))
  pure ((zA.mk l1 a0.Const),(W (star+1)))
 else
  if(y2==at01) then
   pure (a0,(-1))
  else
   pure ((zA.mk l (W (a0.Const+(W (sign*y1))))),y2)
theorem eM:∀a0 s at0 r,wY a0 s at0=some r->∀{I:Imm}{p c},(S4 I p a0.Coefs c)->RT 193 [vA (cAff a0 p c),vT s.l,vI at0] I [] (gE  r):=by
 intro a0 s at0 r N I p c h;unfold wY at N;refine yN func193 λB=>?_;have H:=iS I;refine xH<|mN (cAff a0 p c) ?_;intro b hb;refine rF [z0,vI 0] ?_;intro b1 hb1;refine sG [] []<|sH [8] rfl<|yC<|xH<|yE 2 [] [14,15] rfl<|bE N λb2 hy N=>mA rfl rfl hy<|yO [] [17] rfl<|zE ?_;refine tA N [hB b1 [z0,vI 0],hB b (cAff a0 p c)] (λsign=>[(1,vT s.l),(2,vI at0),(3,vP b 0),(6,vP b1 0),(8,vI sign)]) (λo0 aC=>?_) ?_
 ·have H:=iS I;refine yI aC ?_ ?_
  ·intro hc N;exact zF<|yO [] [8] rfl<|xC<|zL (ct N H)
  intro hc N;exact zO<|xC<|zL (ct N H)
 intro sign I0 le aN;have ⟨h,H⟩:=m2 le h H;refine yC<|yK ?_;refine tA aN [hB b1 [z0,vI 0],hB b (cAff a0 p c)] (λt27=>[(1,vT s.l),(2,vI at0),(3,vP b 0),(6,vP b1 0),(8,vI sign),(27,.bool t27)]) (λaI aB=>?_) ?_
 ·have H:=iS I0;refine zF<|yE 2 [] [18,19] rfl ?_;obtain⟨b3,aA,N⟩:=zC aB;refine mA rfl rfl aA<|yE 5 [] [22] rfl<|uF [22] N ?_ ?_
  ·intro aG N;exact sG [] [(27,vY)]<|xC<|zL (ct N H)
  intro aG N;exact yE 7 [] [23,24] rfl<|bE N λb4 aL N=>mA rfl rfl aL<|yO [] [27] rfl<|xC<|zL (ct N H)
 intro t27 aQ ah hMc1;have ⟨h,H⟩:=m2 ah h H;refine zE ?_;refine tA hMc1 [hB b1 [z0,vI 0],hB b (cAff a0 p c)] (λat01=>[(1,vT s.l),(2,vI at01),(3,vP b 0),(6,vP b1 0),(8,vI sign)]) (λo02 ho02=>?_) ?_
 ·have H:=iS aQ;refine yI ho02 ?_ ?_
  ·intro aR N;exact zF<|yO [] [2] rfl<|xC<|zL (ct N H)
  intro aR N;exact zO<|xC<|zL (ct N H)
 intro at01 aW aH hMc2;have ⟨h,H⟩:=m2 aH h H;refine xF<|yE 2 [] [31,32] rfl ?_;obtain⟨⟨y1,y2⟩,aS,N⟩:=zC hMc2;refine xT (fG s at01 _ aS ) ?_;rintro a6 aw v2 k2 aK - ⟨v0,v01,rfl,rfl,rfl,rfl⟩ -;have ⟨h,H⟩:=m2 aK h H;refine yO [] [9,10] rfl<|sH [11] rfl<|yC<|yK ?_;refine tA N [hB b1 [z0,vI 0],hB b (cAff a0 p c)] (λt51=>[(1,vT s.l),(2,vI at01),(3,vP b 0),(6,vP b1 0),(8,vI sign),(9,vI y1),(10,vI y2),(11,vI y2),(51,.bool t51)]) (λo03 ho03=>?_) ?_
 ·have H:=iS a6;refine zF<|yE 4 [] [40] rfl<|uF [40] ho03 ?_ ?_
  ·intro bq N;refine yE 10 [] [46] rfl<|uF [46] N ?_ ?_
   ·intro bx N;exact yE 12 [] [47,48] rfl<|bE N λb5 bg N=>mA rfl rfl bg<|yO [] [51] rfl<|xC<|zL (ct N H)
   intro bx N;exact sG [] [(51,vF)]<|xC<|zL (ct N H)
  intro bq N;exact sG [] [(51,vF)]<|xC<|zL (ct N H)
 intro t51 bu aV hMc3;have ⟨h,H⟩:=m2 aV h H;refine zE ?_;refine tA hMc3 [hB b1 [z0,vI 0],hB b (cAff a0 p c)] (λstar=>[(1,vT s.l),(2,vI at01),(3,vP b 0),(6,vP b1 0),(8,vI sign),(9,vI y1),(10,vI y2),(11,vI star)]) (λo04 ho04=>?_) ?_
 ·have H:=iS bu;refine yI ho04 ?_ ?_
  ·intro hc5 N;exact zF<|yO [] [11] rfl<|xC<|zL (ct N H)
  intro hc5 N;exact zO<|xC<|zL (ct N H)
 intro star bG bm hMc4;have ⟨h,H⟩:=m2 bm h H;refine xF<|yE 2 [] [54,55] rfl ?_;obtain⟨y3,bj,N⟩:=zC hMc4;refine zDb (dZ s star _ bj ) ?_;intro I06 bp;have ⟨h,H⟩:=m2 bp h H;refine yO [] [12] rfl<|yC<|bE N λl hy6 N=>qA [.x (λI' v hx=>∃b6,v=vS (some ⟨b6,0,none⟩) ([]:List Int) 0/\hx=[hO Int (vS (some ⟨b6,0,none⟩) ([]:List Int) 0) []]/\(RL I' [] ([]:List Int))),.p (vP b 0) [],.p (vS p a0.Coefs c) [1],.x (λI' v hx=>∃p1 c1 cs,v=vS p1 l c1/\hx=[hO Int (vS p1 l c1) cs]/\(RL I' cs l)),.p (vP b 1) [],.p (vI a0.Const) [1],.x (λI' v hx=>∃aX aY aF,v=vA [vS aX l aY,vI a0.Const]/\hx=[hO Int (vS aX l aY) aF]/\(RL I' aF l)),.x (λI' v hx=>∃b7,v=vP b7 0/\hx=[hB b7 [z0,vI 0]])] [[],[],[(1,false)],[(0,true),(2,false)],[],[(4,false)],[(3,true),(5,false)],[]] [hB b1 [z0,vI 0],hB b (cAff a0 p c)] [] [(6,true),(7,true)] (xN [0,1]) ?_ ?_
 ·refine Ox ?_<|Op<|Op<|Ox ?_<|Op<|Op<|Ox ?_<|Ox ?_<|On
  ·intro I1 hf ah;refine I_h []<|qC [] Int ?_;intro b6 hb2;have h4:RL I1 [] ([]:List Int):=rfl;exact uP [hO Int (vS (some ⟨b6,0,none⟩) ([]:List Int) 0) []] iR ⟨_,rfl,rfl,h4⟩
  ·rintro I1 hf ah _ _ ⟨b6,rfl,rfl,h4⟩;refine uS [57,59] rfl ?_;have h:=h.mono ah;obtain⟨az,k0,k01⟩:=h;have h:SL I1 (vS p a0.Coefs c) a0.Coefs:=⟨_,k0,k01⟩;exact oO 3 1 0 rfl rfl rfl h4 (.inl k0) k01 hy6 λp1 c1 cs h5=>sO (af:=(hO Int (vS p1 l c1) cs::hB b1 [z0,vI 0]::hB b (cAff a0 p c)::hf)) rfl<|uP [hO Int (vS p1 l c1) cs] iR ⟨_,_,_,rfl,rfl,h5⟩
  ·rintro I1 hf ah _ _ ⟨p1,c1,cs,rfl,rfl,h5⟩;exact uS [60,62] rfl<|R_p 7 [(63,vA [vS p1 l c1,vI a0.Const])]<|uP [hO Int (vS p1 l c1) cs] iR ⟨_,_,_,rfl,rfl,h5⟩
  intro I1 hf ah;refine I_h []<|rF [z0,vI 0] ?_;intro b7 hb3;exact uP [hB b7 [z0,vI 0]] iR ⟨_,rfl,rfl⟩
 rintro I07 le7 _ _ ⟨aX,aY,aF,rfl,rfl,h51⟩ _ _ ⟨b7,rfl,rfl⟩;refine uS [2,3,6,8,9,10,11,12,13,63] rfl ?_;have ⟨h,H⟩:=m2 le7 h H;refine uE 0 [vS aX l aY,vI a0.Const] rfl<|xA rfl<|yC<|yK ?_;refine tA N [hB b7 [vS aX l aY,vI a0.Const],hO Int (vS aX l aY) aF,hB b1 [z0,vI 0],hB b (cAff a0 p c)] (λt75=>[(2,vI at01),(3,vP b 0),(6,vP b1 0),(8,vI sign),(9,vI y1),(10,vI y2),(11,vI star),(12,vI y3),(13,vP b7 0),(75,.bool t75)]) (λo05 ho05=>?_) ?_
 ·have H:=iS I07;refine zF<|yE 3 [] [66] rfl<|uF [66] ho05 ?_ ?_
  ·intro hc6 N;refine yE 7 [] [70] rfl<|uF [70] N ?_ ?_
   ·intro hc7 N;exact sG [] [(75,vY)]<|xC<|zL (ct N H)
   intro hc7 N;exact yO [] [75] rfl<|xC<|zL (ct N H)
  intro hc6 N;exact sG [] [(75,vF)]<|xC<|zL (ct N H)
 intro t75 I08 le8 hMc5;have ⟨h51,h⟩:=m2 le8 h51 h;refine zE<|yI hMc5 ?_ ?_
 ·intro hc8 N;refine yK<|bE N λx hy7 N=>qA [.p (vP b7 0) [],.p (vS aX l aY) [0],.p (vI y3) [],.p (vP b7 0) [],.p (vS aX l aY) [0],.p (vI y3) [],.x (λI' v hx=>∃ad,v=.pointer (some ad)/\hx=[]/\(AtO (vS aX l aY) (Rp.sz Int) y3.toNat ad)/\((aF.drop (y3.toNat*Rp.sz Int)).take (Rp.sz Int)=[vI x])),.q (vI x),.p (vI sign) [],.p (vI y1) [],.p (vI (W (sign*y1))) [],.p (vI (W (x+(W (sign*y1))))) []] [[],[(0,false)],[],[],[(3,false)],[],[(4,false),(5,false)],[(6,false)],[],[],[(8,false),(9,false)],[(7,false),(10,false)]] [hB b7 [vS aX l aY,vI a0.Const],hO Int (vS aX l aY) aF,hB b1 [z0,vI 0],hB b (cAff a0 p c)] [] [(1,false),(2,false),(11,false)] (xN [0,1,2,3]) ?_ ?_
  ·refine Op<|Op<|Op<|Op<|Op<|Op<|Ox ?_<|Oq ?_<|Op<|Op<|Op<|Op<|On
   ·intro I1 hf ah;refine uS [80,81] rfl ?_;have h51:=iM ah h51;refine nW 1 rfl rfl rfl h51 hy7 ?_;intro ad bh au bo al;obtain rfl:=al;exact uP [] iR ⟨_,rfl,rfl,au,bo⟩
   rintro I1 hf ah _ _ ⟨ad,rfl,rfl,au,bo⟩;exact uS [82] rfl<|zD9 1 0 au bo [vI x] (vI x) rfl rfl<|tP iR
  intro I09 le9;refine uS [6,11,13,77,78,87] rfl ?_;have h51:=iM le9 h51;obtain⟨x1,hy8,N⟩:=zC N;refine nW 1 rfl rfl rfl h51 hy8 ?_;intro ad1 bO aJ hcc1 aD;obtain rfl:=aD;obtain⟨l1,hy9,N⟩:=zC N;refine rP (c:=[vI (W (x+(W (sign*y1))))]) (x':=(W (x+(W (sign*y1))))) 1 0 rfl rfl rfl aJ rfl rfl hcc1 (by kernel_rfl) (by kernel_rfl) (by kernel_rfl) h51 hy8 (by kernel_rfl) rfl ?_;rw[show l.set y3.toNat (W (x+(W (sign*y1))))=l1 from zD hy9];intro bf h6 hl0;refine oM (m':=[(6,vP b1 0),(11,vI star),(13,vP b7 0),(77,vS aX l aY),(78,vI y3),(87,vI (W (x+(W (sign*y1)))))]) ⟨rfl,rfl,rfl,rfl,rfl,rfl,trivial⟩<|zCG (af:=[hB b7 [vS aX l1 aY,vI a0.Const],hO Int (vS aX l1 aY) bf,hB b1 [z0,vI 0],hB b (cAff a0 p c)]) (m':=[(6,vP b1 0),(11,vI star),(13,vP b7 0),(77,vS aX l1 aY),(78,vI y3),(87,vI (W (x+(W (sign*y1)))))]) (by first|rfl|simp only[vS,hl0,cx,cO,List.set_cons_zero,ee,List.eraseIdx_cons_zero,List.eraseIdx_cons_succ]) (by first|rfl|simp only[vS,hl0])<|xA rfl<|xF<|gX 3 [0] [(89,vA [vS aX l1 aY,vI a0.Const]),(91,vI (W (star+1)))]<|uE 2 [vS aX l1 aY,vI a0.Const] rfl<|yO [] [7] rfl<|vG<|zG<|uN 1 rfl ?_;intro bI le10 hl01;have h7:=SL.of_frozen hl01 le10 h6;obtain rfl:=zD N;exact wJ ⟨_,_,(.cell 1 rfl rfl (by kernel_rfl) (.tmp rfl ResV.nil)),zN,⟨_,_,rfl,rfl,⟨_,rfl,(zQ ⟨_,rfl,h7⟩)⟩,rfl⟩⟩
 intro hc8 N;refine zO<|yC<|yL [94] rfl<|zE<|yI N ?_ ?_
 ·intro hc9 N;refine xH<|gX 1 [3] [(95,vA (cAff a0 p c))]<|uE 2 (cAff a0 p c) rfl<|yO [] [7] rfl<|vG<|zG ?_;obtain rfl:=zD N;exact wJ ⟨_,_,(.cell 2 rfl rfl (by kernel_rfl) (.tmp rfl ResV.nil)),zN,⟨_,_,rfl,rfl,⟨_,rfl,(zQ ⟨_,rfl,h⟩)⟩,rfl⟩⟩
 intro hc9 N;refine zO<|xF<|yE 7 [0] [101,102] rfl<|uE 0 [vS aX l aY,vI (W (a0.Const+(W (sign*y1))))] rfl<|xA rfl<|xF<|gX 2 [0] [(103,vA [vS aX l aY,vI (W (a0.Const+(W (sign*y1))))]),(104,vI y2)]<|uE 2 [vS aX l aY,vI (W (a0.Const+(W (sign*y1))))] rfl<|yO [] [7] rfl<|vG<|uN 1 rfl ?_;intro bP le11 hl02;have h8:=SL.of_frozen hl02 le11 h51;obtain rfl:=zD N;exact wJ ⟨_,_,(.cell 1 rfl rfl (by kernel_rfl) (.tmp rfl ResV.nil)),zN,⟨_,_,rfl,rfl,⟨_,rfl,(zQ ⟨_,rfl,h8⟩)⟩,rfl⟩⟩
def wR(a0:zA):Option (Str):=do
 let y<-wF a0
 if(!y) then
  pure (⟨[]⟩:Str)
 else
  let y1<-tF a0
  pure (id y1)
theorem mW:∀a0 r,wR a0=some r->∀{I:Imm}{p c},(S4 I p a0.Coefs c)->RT 194 [vA (cAff a0 p c)] I [] (yA  r):=by
 intro a0 r N I p c h;unfold wR at N;refine yN func194 λB=>xH<|mN (cAff a0 p c) ?_;intro b hb;refine sG [] []<|yC<|xH<|gX 1 [0] [(3,vA (cAff a0 p c))]<|bE N λy hy N=>pE (pA a0 _ hy h) ?_;intro I0 le;have h:=h.mono le;refine yO [] [5] rfl<|zE<|yI N ?_ ?_
 ·intro hc N;refine yL [2] rfl<|vG<|zG ?_;obtain rfl:=zD N;exact tD
 intro hc N;refine zO<|xF<|gX 1 [0] [(6,vA (cAff a0 p c))]<|bE N λy1 aA N=>xT (mV a0 _ aA h) ?_;rintro aQ aw v2 k2 ah - ⟨v01,rfl,rfl,rfl⟩ -;refine yO [] [2] rfl<|zE<|xL ?_;obtain rfl:=zD N;exact tD
def sZ(r:zA×Bool):KT:=λkk I' af v=>
 ∃v0 v1,af=[]/\v=tupV [v0,v1]/\(∃cs,v0=.agg ⟨cs⟩/\Rp.rep I' cs r.1)/\v1=.bool r.2
def zX(am:Str)(at0:Int)(x:zA):Option (zA):=do
 let t18<-(do
  if(decide (at0>=0)) then
   pure (decide (at0<(am.l.length:Int)))
  else
   pure false
    : Option Bool)
 if t18 then
  let (y2,y3)<-wY x am at0
  zX am y3 y2
 else
  pure (id x)
 partial_fixpoint
theorem nM(am:Str):∀(at0:Int) (x:zA) (o:zA),zX am at0 x=some o->∀{B}{I0 I:Imm}{Q}  {b:Nat}{b1:Nat}{p1 c1},I0.le I->(S4 I p1 x.Coefs c1)->NG Q->NO Q->(∀(I':Imm) (x1:zA) (p2:Option Addr) (c2:Nat),o=x1->I0.le I'->(S4 I' p2 x1.Coefs c2)->T 32 B Q (.exit 0) I' [hB b1 (cAff x1 p2 c2),hB b [z0,vI 0]] [(0,vT am.l),(2,vP b 0),(4,vP b1 0)])->J Tryz.prog 32 B (nav (bodyOf f144) [1,1,1,1,0,0]) Q I [hB b1 (cAff x p1 c1),hB b [z0,vI 0]] [(0,vT am.l),(2,vP b 0),(4,vP b1 0),(5,vI at0)]:=by
 refine zX.partial_correctness am _ λaO ih at0 x o N B I0 I Q b b1 p1 c1 H h2 hg ho hx=>wI hg ho<|yK<|yK ?_;refine tA N [hB b1 (cAff x p1 c1),hB b [z0,vI 0]] (λt18=>[(0,vT am.l),(2,vP b 0),(4,vP b1 0),(5,vI at0),(18,.bool t18)]) (λo0 aC=>?_) ?_
 ·have H:=iS I;refine zF<|yE 3 [] [13] rfl<|uF [13] aC ?_ ?_
  ·intro aG N;exact yO [] [18] rfl<|xC<|zL (ct N H)
  intro aG N;exact sG [] [(18,vF)]<|xC<|zL (ct N H)
 intro t18 aW aH aN;have ⟨h2,H⟩:=m2 aH h2 H;refine zE<|yI aN ?_ ?_
 ·intro aR N;refine zO<|sR<|zF<|gX 3 [0] [(20,vA (cAff x p1 c1)),(21,vT am.l),(22,vI at0)] ?_;obtain⟨⟨y2,y3⟩,aA,N⟩:=zC N;refine xT (eM x am at0 _ aA h2) ?_;rintro a6 aw v2 k2 aK - ⟨v0,v01,rfl,rfl,⟨aF,rfl,h4⟩,rfl⟩ -;have H:=H.trans aK;obtain⟨p3,c3,rfl,h6⟩:=yB h4;exact yE 7 [] [24,25] rfl<|uE 0 (cAff y2 p3 c3) rfl<|yO [] [5] rfl<|zJ<|wD<|kK<|ih y3 y2 _ N H h6 hg ho hx
 intro aR N;exact rG<|xC<|hx _ _ _ _ (zD N).symm H h2
def vD(am:Str):Option (zA×Bool):=do
 let y<-sC
 if(decide ((am.l.length:Int)>40)) then
  pure ((zA.mk ([]:List Int) 0),false)
 else
  let x1<-zX am 0 (zA.mk y.Coefs y.Const)
  let y4<-wR x1
  if(!(y4.l==am.l)) then
   pure ((zA.mk ([]:List Int) 0),false)
  else
   pure (x1,true)
theorem kR:∀am r,vD am=some r->∀{I:Imm} ,RT 144 [vT am.l] I [] (sZ  r):=by
 intro am r N I;unfold vD at N;refine yN func144 λB=>xH<|rF [z0,vI 0] ?_;intro b hb;refine sG [] []<|xF<|bE N λy hy N=>xT (pO  _ hy ) ?_;rintro I0 aw v2 k2 le - ⟨p,c,cs,rfl,rfl,h⟩ -;refine rF [z0,vI 0] ?_;intro b1 hb1;refine uE 0 (cAff y p c) rfl<|xA rfl<|yC<|yL [9] rfl<|zE<|yI N ?_ ?_
 ·intro hc N;refine xH<|yE 1 [] [10] rfl<|uE 2 [z0,vI 0] rfl<|sG [] [(3,vF)]<|vG<|zG ?_;obtain rfl:=zD N;exact wJ ⟨_,_,(.cell 2 rfl rfl (by kernel_rfl) (.tmp rfl ResV.nil)),zN,⟨_,_,rfl,rfl,⟨_,rfl,(zQ ⟨_,rfl,(SL.nil _)⟩)⟩,rfl⟩⟩
 intro hc N;refine zO<|sH [5] rfl<|yC<|xK<|rK 1 rfl ?_;intro aQ ah hl0;have h1:=SL.of_frozen hl0 ah h;refine pY [(0,vT am.l),(2,vP b 0),(4,vP b1 0),(5,vI 0)] ?_;obtain⟨aI,aB,aM⟩:=zC N;refine nM am 0 (zA.mk y.Coefs y.Const) aI aB iR h1 (λ_ _ _ h=>h) (λ_ _ h=>h) ?_;intro bu x1 p2 c2 heq1 aV h3;subst aI;refine zR<|yC<|xH<|gX 1 [0] [(26,vA (cAff x1 p2 c2))] ?_;obtain⟨y4,aL,N⟩:=zC aM;refine xT (mW x1 _ aL h3) ?_;rintro bG aw v2 k2 bm - ⟨v03,rfl,rfl,rfl⟩ -;have h3:=h3.mono bm;refine yO [] [29] rfl<|zE<|yI N ?_ ?_
 ·intro bq N;refine xH<|yE 1 [] [30] rfl<|uE 1 [z0,vI 0] rfl<|sG [] [(3,vF)]<|vG<|zG ?_;obtain rfl:=zD N;exact wJ ⟨_,_,(.cell 1 rfl rfl (by kernel_rfl) (.tmp rfl ResV.nil)),zN,⟨_,_,rfl,rfl,⟨_,rfl,(zQ ⟨_,rfl,(SL.nil _)⟩)⟩,rfl⟩⟩
 intro bq N;refine zO<|xF<|gX 1 [0] [(31,vA (cAff x1 p2 c2))]<|uE 1 (cAff x1 p2 c2) rfl<|sG [] [(3,vY)]<|zE<|xL ?_;obtain rfl:=zD N;exact wJ ⟨_,_,(.cell 1 rfl rfl (by kernel_rfl) (.tmp rfl ResV.nil)),zN,⟨_,_,rfl,rfl,⟨_,rfl,(zQ ⟨_,rfl,h3⟩)⟩,rfl⟩⟩
def mE(r:(List zA)):KT:=λkk I' af v=>
 ∃v0,af=[]/\v=tupV [v0]/\SL I' v0 r
def yQ(y:(List Str))(ak:List zA)(i:Int):Option (List zA):=do
 let t18<-(do
  if(decide (i<(y.length:Int))) then
   pure (decide (i<=2))
  else
   pure false
    : Option Bool)
 if t18 then
  let x<-idx y i
  let (y2,y3)<-vD x
  let ax<-app 32 ak ([y2]:List zA)
  yQ y ax (W (i+1))
 else
  pure (id ak)
 partial_fixpoint
theorem nN(y:(List Str)):∀(ak:List zA) (i:Int) (o:List zA),yQ y ak i=some o->∀{B}{I0 I:Imm}{Q p c p1 c1 cs},I0.le I->(S4 I p y c)->(RL I cs ak)->NG Q->NO Q->(∀(I':Imm) (aj:List zA) (p2:Option Addr) (c2:Nat) (aF:List Value),o=aj->I0.le I'->(RL I' aF aj)->T 34 B Q (.exit 0) I' [hO zA (vS p2 aj c2) aF] [(3,vS p2 aj c2)])->J Tryz.prog 34 B (nav (bodyOf f119) [1,1,1,0,1,0]) Q I [hO zA (vS p1 ak c1) cs] [(3,vS p1 ak c1),(4,vS p y c),(5,vI i)]:=by
 refine yQ.partial_correctness y _ λaO ih ak i o N B I0 I Q p c p1 c1 cs H h1 h2 hg ho hx=>wI hg ho<|yK<|yK ?_;refine tA N [hO zA (vS p1 ak c1) cs] (λt18=>[(3,vS p1 ak c1),(4,vS p y c),(5,vI i),(18,.bool t18)]) (λo0 aC=>?_) ?_
 ·have H:=iS I;refine zF<|yE 5 [] [15] rfl<|uF [15] aC ?_ ?_
  ·intro hc N;exact yO [] [18] rfl<|xC<|zL (ct N H)
  intro hc N;exact sG [] [(18,vF)]<|xC<|zL (ct N H)
 intro t18 aQ ah aN;have ⟨h2,h1,H⟩:=m3 ah h2 h1 H;refine zE<|yI aN ?_ ?_
 ·intro aG N;refine zO<|yC<|xK<|xH<|yE 2 [] [22,23] rfl<|bE N λx aA N=>tO rfl rfl h1 aA ?_;intro ad az au al;obtain rfl:=al;refine tN 0 au [vT x.l] (vT x.l) rfl ?_;obtain⟨⟨y2,y3⟩,aL,N⟩:=zC N;refine xT (kR x _ aL ) ?_;rintro aW aw v2 k2 aH - ⟨v01,v02,rfl,rfl,⟨bf,rfl,h4⟩,rfl⟩ -;have ⟨h2,h1,H⟩:=m3 aH h2 h1 H;obtain⟨p3,c3,rfl,h6⟩:=yB h4;refine yE 8 [] [27,28] rfl<|rF [z0,vI 0] ?_;intro b1 hb1;refine uE 0 (cAff y2 p3 c3) rfl<|sG [] []<|zE<|zF<|gX 2 [0] [(29,vS p1 ak c1),(30,vA (cAff y2 p3 c3))]<|qC (cAff y2 p3 c3) zA ?_;intro b2 hb2;have h7:RL aW (cAff y2 p3 c3) ([y2]:List zA):=⟨(cAff y2 p3 c3),_,rfl,rfl,(zQ ⟨_,rfl,h6⟩),rfl⟩;obtain⟨ax,aS,N⟩:=zC N;exact oO 50 2 2 rfl rfl rfl h2 (.inr ⟨0,rfl⟩) h7 aS λp4 c4 aZ h8=>oI (xN [1,2] (af:=[hB b1 (cAff y2 p3 c3),hO zA (vS p4 ax c4) aZ]))<|yO [] [3] rfl<|zJ<|zE<|zF<|yO [] [5] rfl<|wD<|jR (yS [1] rfl (by decide))<|kK<|ih ax (W (i+1)) _ N H h1 h8 hg ho hx
 intro aG N;exact rG<|xC<|hx _ _ _ _ _ (zD N).symm H h2
def wG(am:Str):Option ((List zA)):=do
 let y<-uM am (44:UInt8)
 let aj<-yQ y ([]:List zA) 0
 pure (id aj)
theorem pB:∀am r,wG am=some r->∀{I:Imm} ,RT 119 [vT am.l] I [] (mE  r):=by
 intro am r N I;unfold wG at N;refine yN func119 λB=>vO []<|xF<|qC [] zA ?_;intro b hb;have h:RL I [] ([]:List zA):=rfl;refine yO [] [3] rfl<|xF<|yE 1 [] [9] rfl<|bE N λy hy N=>xT (pN am (44:UInt8) _ hy ) ?_;rintro I0 aw v2 k2 le - ⟨v0,rfl,rfl,h1⟩ -;have h:=iM le h;obtain⟨p,c,rfl⟩:=h1.form;refine yO [] [4] rfl<|yC<|yL [5] rfl<|sR<|pY [(3,vS (some ⟨b,0,none⟩) ([]:List zA) 0),(4,vS p y c),(5,vI 0)] ?_;obtain⟨aI,aB,aM⟩:=zC N;refine nN y ([]:List zA) 0 aI aB iR h1 h (λ_ _ _ h=>h) (λ_ _ h=>h) ?_;intro a6 aj p2 c2 aF heq1 aK h3;subst aI;refine zR<|sH [2] rfl<|vG<|uN 0 rfl ?_;intro bu aV hl0;have h9:=SL.of_frozen hl0 aV h3;obtain rfl:=zD aM;exact wJ ⟨_,_,(.tmp rfl ResV.nil),zN,⟨_,rfl,rfl,h9⟩⟩
def tE(v0:Int):Option (zA):=do
 let y<-sC
 let x<-idx y.Coefs v0
 let l<-pure (y.Coefs.set v0.toNat 1)
 pure (zA.mk l y.Const)
theorem oJ:∀v0 r,tE v0=some r->∀{I:Imm} ,RT 172 [vI v0] I [] (qH  r):=by
 intro v0 r N I;unfold tE at N;refine yN func172 λB=>xH<|rF [z0,vI 0] ?_;intro b hb;refine xA rfl<|xF<|bE N λy hy N=>xT (pO  _ hy ) ?_;rintro I0 aw v2 k2 le - ⟨p,c,cs,rfl,rfl,h⟩ -;refine rF [z0,vI 0] ?_;intro b1 hb1;refine uE 0 (cAff y p c) rfl<|xA rfl<|xF<|yE 3 [0] [6,7] rfl<|bE N λx aA N=>nW 1 rfl rfl rfl h aA ?_;intro ad az au bo al;obtain rfl:=al;obtain⟨l,aL,N⟩:=zC N;refine rP (c:=[vI 1]) (x':=1) 1 0 rfl rfl rfl au rfl rfl bo (by kernel_rfl) (by kernel_rfl) (by kernel_rfl) h aA (by kernel_rfl) rfl ?_;rw[show y.Coefs.set v0.toNat 1=l from zD aL];intro aF h1 hl0;refine oM (m':=[(2,vP b 0),(3,vP b1 0),(6,vS p y.Coefs c),(7,vI v0)]) ⟨rfl,rfl,rfl,rfl,trivial⟩<|zCG (af:=[hB b1 [vS p l c,vI y.Const],hO Int (vS p l c) aF,hB b [z0,vI 0]]) (m':=[(2,vP b 0),(3,vP b1 0),(6,vS p l c),(7,vI v0)]) (by first|rfl|simp only[vS,hl0,cx,cO,List.set_cons_zero,ee,List.eraseIdx_cons_zero,List.eraseIdx_cons_succ]) (by first|rfl|simp only[vS,hl0])<|xA rfl<|xF<|gX 1 [0] [(9,vA [vS p l c,vI y.Const])]<|uE 2 [vS p l c,vI y.Const] rfl<|xA rfl<|vG<|uN 1 rfl ?_;intro aQ ah hl01;have h2:=SL.of_frozen hl01 ah h1;obtain rfl:=zD N;exact wJ ⟨_,_,(.cell 1 rfl rfl (by kernel_rfl) ResV.nil),zN,⟨_,rfl,rfl,⟨_,rfl,(zQ ⟨_,rfl,h2⟩)⟩⟩⟩
def xU(n0:Int):Option (zA):=do
 let y<-sC
 pure (zA.mk y.Coefs n0)
theorem vZ:∀n0 r,xU n0=some r->∀{I:Imm} ,RT 173 [vI n0] I [] (qP  r):=by
 intro n0 r N I;unfold xU at N;refine yN func173 λB=>xH<|rF [z0,vI 0] ?_;intro b hb;refine xA rfl<|xF<|bE N λy hy N=>xT (pO  _ hy ) ?_;rintro I0 aw v2 k2 le - ⟨p,c,cs,rfl,rfl,h⟩ -;refine rF [z0,vI 0] ?_;intro b1 hb1;refine uE 0 (cAff y p c) rfl<|xA rfl<|xF<|yE 2 [] [5,6] rfl<|uE 0 [vS p y.Coefs c,vI n0] rfl<|xA rfl<|xF<|gX 1 [0] [(7,vA [vS p y.Coefs c,vI n0])]<|uE 2 [vS p y.Coefs c,vI n0] rfl<|xA rfl<|zE<|xL ?_;obtain rfl:=zD N;exact wJ ⟨_,_,(.cell 2 rfl rfl (by kernel_rfl) ResV.nil),(yS [1] rfl (by decide)),⟨_,_,_,rfl,rfl,h⟩⟩
def zV(a0:zA)(x:Int)(b:zA)(y:Int)(i:Int)(Coefs:List Int):Option (List Int):=do
 if(decide (i<4)) then
  let x1<-idx a0.Coefs i
  let x2<-idx b.Coefs i
  let l<-app 8 Coefs ([(W ((W (x*x1))+(W (y*x2))))]:List Int)
  zV a0 x b y (W (i+1)) l
 else
  pure (id Coefs)
 partial_fixpoint
theorem mX(a0:zA)(x:Int)(b:zA)(y:Int):∀(i:Int) (Coefs:List Int) (o:List Int),zV a0 x b y i Coefs=some o->∀{B}{I0 I:Imm}{Q p c p1 c1}{b1:Nat}{b2:Nat}{b3:Nat}{b4:Nat}{p2 c2 cs},I0.le I->(S4 I p1 b.Coefs c1)->(S4 I p a0.Coefs c)->(RL I cs Coefs)->NG Q->NO Q->(∀(I':Imm) (Coefs1:List Int) (p3:Option Addr) (c3:Nat) (aF:List Value),o=Coefs1->I0.le I'->(RL I' aF Coefs1)->T 46 B Q (.exit 0) I' [hO Int (vS p3 Coefs1 c3) aF,hB b4 [vS p3 Coefs1 c3,vI (W ((W (x*a0.Const))+(W (y*b.Const))))],hB b3 [z0,vI 0]] [(8,vP b3 0),(9,vP b4 0)])->J Tryz.prog 46 B (nav (bodyOf f179) [1,1,0,1,0]) Q I [hO Int (vS p2 Coefs c2) cs,hB b4 [vS p2 Coefs c2,vI (W ((W (x*a0.Const))+(W (y*b.Const))))],hB b3 [z0,vI 0],hB b2 (cAff b p1 c1),hB b1 (cAff a0 p c)] [(1,vI x),(3,vI y),(4,vP b1 0),(6,vP b2 0),(8,vP b3 0),(9,vP b4 0),(10,vI i)]:=by
 refine zV.partial_correctness a0 x b y _ λaO ih i Coefs o N B I0 I Q p c p1 c1 b1 b2 b3 b4 p2 c2 cs H h1 h h3 hg ho hx=>wI hg ho<|yK<|yL [22] rfl<|zE<|yI N ?_ ?_
 ·intro hc N;refine zO<|yC<|xK ?_;obtain⟨x1,hy,N⟩:=zC N;obtain⟨x2,aA,N⟩:=zC N;obtain⟨l,aL,N⟩:=zC N;refine qA [.p (vP b4 0) [],.p (vS p2 Coefs c2) [0],.p (vI x) [],.p (vP b1 0) [],.p (vS p a0.Coefs c) [3],.p (vI i) [],.x (λI' v hx=>∃ad,v=.pointer (some ad)/\hx=[]/\(At I' ad [vI x1])),.q (vI x1),.p (vI (W (x*x1))) [],.p (vI y) [],.p (vP b2 0) [],.p (vS p1 b.Coefs c1) [2],.p (vI i) [],.x (λI' v hx=>∃ad1,v=.pointer (some ad1)/\hx=[]/\(At I' ad1 [vI x2])),.q (vI x2),.p (vI (W (y*x2))) [],.p (vI (W ((W (x*x1))+(W (y*x2))))) [],.x (λI' v hx=>∃b5,v=vS (some ⟨b5,0,none⟩) ([(W ((W (x*x1))+(W (y*x2))))]:List Int) 1/\hx=[]/\(SL I' (vS (some ⟨b5,0,none⟩) ([(W ((W (x*x1))+(W (y*x2))))]:List Int) 1) ([(W ((W (x*x1))+(W (y*x2))))]:List Int))),.x (λI' v hx=>∃p4 c4 bf,v=vS p4 l c4/\hx=[hO Int (vS p4 l c4) bf]/\(RL I' bf l))] [[],[(0,false)],[],[],[(3,false)],[],[(4,false),(5,false)],[(6,false)],[(2,false),(7,false)],[],[],[(10,false)],[],[(11,false),(12,false)],[(13,false)],[(9,false),(14,false)],[(8,false),(15,false)],[(16,false)],[(1,false),(17,false),(21,true)]] [hB b4 [vS p2 Coefs c2,vI (W ((W (x*a0.Const))+(W (y*b.Const))))],hB b3 [z0,vI 0],hB b2 (cAff b p1 c1),hB b1 (cAff a0 p c)] [[hO Int (vS p2 Coefs c2) cs]] [(18,true)] (xN [1,2,3,4,0]) ?_ ?_
  ·refine Op<|Op<|Op<|Op<|Op<|Op<|Ox ?_<|Oq ?_<|Op<|Op<|Op<|Op<|Op<|Ox ?_<|Oq ?_<|Op<|Op<|Ox ?_<|Ox ?_<|On
   ·intro I1 hf ah;refine uS [29,30] rfl ?_;have h:=h.mono ah;refine tO rfl rfl h hy ?_;intro ad az au al;obtain rfl:=al;exact uP [] iR ⟨_,rfl,rfl,au⟩
   ·rintro I1 hf ah _ _ ⟨ad,rfl,rfl,au⟩;exact uS [31] rfl<|tN 0 au [vI x1] (vI x1) rfl<|tP iR
   ·intro I1 hf ah;refine uS [36,37] rfl ?_;have h1:=h1.mono ah;refine tO rfl rfl h1 aA ?_;intro ad1 bh aJ aD;obtain rfl:=aD;exact uP [] iR ⟨_,rfl,rfl,aJ⟩
   ·rintro I1 hf ah _ _ ⟨ad1,rfl,rfl,aJ⟩;exact uS [38] rfl<|tN 0 aJ [vI x2] (vI x2) rfl<|tP iR
   ·intro I1 hf ah;refine uS [41] rfl ?_;have H:=iS I1;refine dW (rI [(W ((W (x*x1))+(W (y*x2))))]) ?_;intro b5 I0 le h6;have H:=H.trans le;exact uP [] H ⟨_,rfl,rfl,h6⟩
   rintro I1 hf ah _ _ ⟨rfl,rfl⟩ _ _ ⟨b5,rfl,rfl,h6⟩ _ _ rfl;refine uS [26,42] rfl ?_;have h3:=iM ah h3;obtain⟨bO,k0,k01⟩:=h6;have h6:SL I1 (vS (some ⟨b5,0,none⟩) ([(W ((W (x*x1))+(W (y*x2))))]:List Int) 1) ([(W ((W (x*x1))+(W (y*x2))))]:List Int):=⟨_,k0,k01⟩;exact oO 3 1 0 rfl rfl rfl h3 (.inl k0) k01 aL λp4 c4 bf h7=>sO (af:=(hO Int (vS p4 l c4) bf::hB b4 [vS p2 Coefs c2,vI (W ((W (x*a0.Const))+(W (y*b.Const))))]::hB b3 [z0,vI 0]::hB b2 (cAff b p1 c1)::hB b1 (cAff a0 p c)::hf)) rfl<|uP [hO Int (vS p4 l c4) bf] iR ⟨_,_,_,rfl,rfl,h7⟩
  rintro aQ ah _ _ ⟨p4,c4,bf,rfl,rfl,h7⟩;refine uS [1,3,4,6,8,9,10,43] rfl ?_;have ⟨h1,h,H⟩:=m3 ah h1 h H;exact yE 20 [] [44] rfl<|uE 1 [vS p4 l c4,vI (W ((W (x*a0.Const))+(W (y*b.Const))))] rfl<|xA rfl<|zJ<|zE<|zF<|yO [] [10] rfl<|wD<|kK<|ih (W (i+1)) l _ N H h1 h h7 hg ho hx
 intro hc N;exact rG<|pD (yS [0,1,2] rfl (by decide))<|xC<|hx _ _ _ _ _ (zD N).symm H h3
def vJ(a0:zA)(x:Int)(b:zA)(y:Int):Option (zA):=do
 let Coefs1<-zV a0 x b y 0 ([]:List Int)
 pure (zA.mk Coefs1 (W ((W (x*a0.Const))+(W (y*b.Const)))))
theorem gF:∀a0 x b y r,vJ a0 x b y=some r->∀{I:Imm}{p c p1 c1},(S4 I p a0.Coefs c)->(S4 I p1 b.Coefs c1)->RT 179 [vA (cAff a0 p c),vI x,vA (cAff b p1 c1),vI y] I [] (qH  r):=by
 intro a0 x b y r N I p c p1 c1 h h1;unfold vJ at N;refine yN func179 λB=>xH<|mN (cAff a0 p c) ?_;intro b1 hb;refine mN (cAff b p1 c1) ?_;intro b2 hb1;refine rF [z0,vI 0] ?_;intro b3 hb2;refine xA rfl<|xF<|gX 10 [2,1] [(20,vA [z0,vI (W ((W (x*a0.Const))+(W (y*b.Const))))])]<|rF [z0,vI 0] ?_;intro b4 hb3;refine uE 0 [z0,vI (W ((W (x*a0.Const))+(W (y*b.Const))))] rfl<|xA rfl<|yC<|yL [10] rfl<|sR<|pY [(1,vI x),(3,vI y),(4,vP b1 0),(6,vP b2 0),(8,vP b3 0),(9,vP b4 0),(10,vI 0)]<|zCv Int λh2=>?_;obtain⟨o0,aC,aM⟩:=zC N;refine mX a0 x b y 0 ([]:List Int) o0 aC iR h1 h h2 (λ_ _ _ h=>h) (λ_ _ h=>h) ?_;intro aW Coefs1 p3 c3 aF heq aH h4;subst o0;refine zR<|xF<|gX 1 [1] [(45,vA [vS p3 Coefs1 c3,vI (W ((W (x*a0.Const))+(W (y*b.Const))))])]<|uE 2 [vS p3 Coefs1 c3,vI (W ((W (x*a0.Const))+(W (y*b.Const))))] rfl<|xA rfl<|vG<|uN 0 rfl ?_;intro a6 aK hl01;have h8:=SL.of_frozen hl01 aK h4;obtain rfl:=zD aM;exact wJ ⟨_,_,(.cell 1 rfl rfl (by kernel_rfl) ResV.nil),zN,⟨_,rfl,rfl,⟨_,rfl,(zQ ⟨_,rfl,h8⟩)⟩⟩⟩
def fH(b0:Nat)(r:zB×zH):KT:=λkk I' af v=>
 ∃v0 k0,af=[.blk b0 ⟨k0⟩]/\v=tupV [v0]/\(∃cs,v0=.agg ⟨cs⟩/\Rp.rep I' cs r.1)/\Rp.rep I' k0 r.2
def sE(r0:zH)(ap:Int):Option (zB×zH):=do
 let (y1,y2)<-wK r0 ([0,0,1,0,(-1)]:List Int)
 let y3<-xU y1
 let (y5,y6)<-wK y2 ([3,4,2,3,1]:List Int)
 let y7<-xU y5
 let (t23,x)<-(do
  if(decide (ap>0)) then
   let (y9,y10)<-yH y6 4
   pure ((y9==0),y10)
  else
   pure (false,y6)
    : Option (Bool×zH))
 let (x1,x2,x3)<-(do
  if t23 then
   let (y12,y13)<-yH x ap
   let (y15,y16)<-yH y13 2
   let (x4,x5)<-(do
    if(y15==0) then
     let y17<-tE y12
     pure (y17,(zA.mk y7.Coefs y7.Const))
    else
     let y18<-tE y12
     let y19<-xU 1
     let y20<-vJ y18 1 y19 1
     pure ((zA.mk y3.Coefs y3.Const),y20)
      : Option (zA×zA))
   pure (x4,x5,y16)
  else
   pure ((zA.mk y3.Coefs y3.Const),(zA.mk y7.Coefs y7.Const),x)
    : Option (zA×zA×zH))
 let (y22,y23)<-yH x3 12
 let (Lo,Hi,x6)<-(do
  if(y22==0) then
   let (y25,y26)<-wK y23 ([3,2,4]:List Int)
   let y27<-xU y25
   let l<-app 32 ([x2]:List zA) ([y27]:List zA)
   pure (([x1]:List zA),l,y26)
  else
   let (Lo1,x7)<-(do
    if(y22==1) then
     let (y29,y30)<-wK y23 ([0,1]:List Int)
     let y31<-xU y29
     let l1<-app 32 ([x1]:List zA) ([y31]:List zA)
     pure (l1,y30)
    else
     pure (([x1]:List zA),y23)
      : Option (List zA×zH))
   pure (Lo1,([x2]:List zA),x7)
    : Option (List zA×List zA×zH))
 pure ((zB.mk Lo Hi),x6)
theorem zAA:∀r0 ap r,sE r0 ap=some r->∀{I:Imm}{aE:Nat}{p c},(S4 I p r0.b c)->RT 118 [vP aE 0,vI ap] I [hB aE (cRd r0 p c)] (fH aE r):=by
 intro r0 ap r N I aE p c h;unfold sE at N;refine yN func118 λB=>?_;have H:=iS I;refine xH<|rF zTwo ?_;intro b hb;refine xA rfl<|xF<|yE 1 [] [9] rfl<|dW (rI [0,0,1,0,(-1)]) ?_;intro b1 I0 le h2;have ⟨h,H⟩:=m2 le h H;refine oI (xN [1,0] (af:=[hB aE (cRd r0 p c),hB b zTwo])) ?_;obtain⟨⟨y1,y2⟩,hy,N⟩:=zC N;refine pT (tX r0 ([0,0,1,0,(-1)]:List Int) _ hy h h2) rfl ?_;rintro aQ aw v2 k2 ah - ⟨v0,kk,rfl,rfl,rfl,h4⟩ -;have H:=H.trans ah;obtain⟨p1,c1,rfl,h5⟩:=yG h4;obtain⟨y3,aA,N⟩:=zC N;refine xT (vZ y1 _ aA ) ?_;rintro aW aw v2 k2 aH - ⟨p2,c2,cs,rfl,rfl,h6⟩ -;have ⟨h5,H⟩:=m2 aH h5 H;refine rF [z0,vI 0] ?_;intro b2 hb2;refine uE 0 (cAff y3 p2 c2) rfl<|xA rfl<|xF<|yE 1 [] [13] rfl<|dW (rI [3,4,2,3,1]) ?_;intro b3 a6 aK h8;have ⟨h6,h5,H⟩:=m3 aK h6 h5 H;refine oI (xN [2,0,1,3] (af:=[hB aE (cRd y2 p1 c1),hB b2 (cAff y3 p2 c2),hO Int (vS p2 y3.Coefs c2) cs,hB b zTwo])) ?_;obtain⟨⟨y5,y6⟩,aL,N⟩:=zC N;refine pT (tX y2 ([3,4,2,3,1]:List Int) _ aL h5 h8) rfl ?_;rintro bu aw v2 k2 aV - ⟨v02,kk1,rfl,rfl,rfl,h10⟩ -;have ⟨h6,H⟩:=m2 aV h6 H;obtain⟨p3,c3,rfl,h11⟩:=yG h10;obtain⟨y7,aS,N⟩:=zC N;refine xT (vZ y5 _ aS ) ?_;rintro bG aw v2 k2 bm - ⟨p4,c4,aF,rfl,rfl,h12⟩ -;have ⟨h11,h6,H⟩:=m3 bm h11 h6 H;refine rF [z0,vI 0] ?_;intro b4 hb4;refine uE 0 (cAff y7 p4 c4) rfl<|xA rfl<|yC<|yK ?_;obtain⟨o0,aC,aN⟩:=zC N;refine rZ (λI' af m'=>∃(t23:Bool) (x:zH) (p5:Option Addr) (c5:Nat),o0=(t23,x)/\bG.le I'/\(S4 I' p5 x.b c5)/\af=[hB b4 (cAff y7 p4 c4),hO Int (vS p4 y7.Coefs c4) aF,hB aE (cRd x p5 c5),hB b2 (cAff y3 p2 c2),hO Int (vS p2 y3.Coefs c2) cs,hB b zTwo]/\m'=[(0,vP aE 0),(1,vI ap),(4,vP b 0),(5,vP b2 0),(6,vP b4 0),(23,.bool t23)]) ?_ ?_
 ·have H:=iS bG;refine zF<|yE 3 [] [19] rfl<|uF [19] aC ?_ ?_
  ·intro hc N;refine yE 4 [] [20] rfl<|oI (xN [2,0,1,3,4,5] (af:=[hB aE (cRd y6 p3 c3),hB b4 (cAff y7 p4 c4),hO Int (vS p4 y7.Coefs c4) aF,hB b2 (cAff y3 p2 c2),hO Int (vS p2 y3.Coefs c2) cs,hB b zTwo])) ?_;obtain⟨⟨y9,y10⟩,bg,N⟩:=zC N;refine pT (yY y6 4 _ bg h11) rfl ?_;rintro I07 aw v2 k2 bp - ⟨v04,kk2,rfl,rfl,rfl,h15⟩ -;have H:=H.trans bp;obtain⟨p6,c6,rfl,h16⟩:=yG h15;exact yO [] [23] rfl<|pD (yS [1,2,0,3,4,5] rfl (by decide))<|xC<|zL ⟨_,_,_,_,(zD N).symm,H,h16,rfl,rfl⟩
  intro hc N;exact sG [] [(23,vF)]<|xC<|zL ⟨_,_,_,_,(zD N).symm,H,h11,rfl,rfl⟩
 rintro I06 aw m2 ⟨t23,x,p5,c5,heq,le7,h13,rfl,rfl⟩;subst o0;have ⟨h12,h6,H⟩:=m3 le7 h12 h6 H;refine zE<|rK 4 rfl ?_;intro I08 le8 hl02;have h17:=SL.of_frozen hl02 le8 h6;have ⟨h12,h13,H⟩:=m3 le8 h12 h13 H;refine rK 1 rfl ?_;intro I09 le9 hl03;have h18:=SL.of_frozen hl03 le9 h12;have ⟨h13,h17,H⟩:=m3 le9 h13 h17 H;obtain⟨aI,aB,hMc1⟩:=zC aN;refine rZ (λI' af m'=>∃(x1:zA) (x2:zA) (x3:zH) (p7:Option Addr) (c7:Nat) (p8:Option Addr) (c8:Nat) (p9:Option Addr) (c9:Nat),aI=(x1,x2,x3)/\I09.le I'/\(S4 I' p7 x1.Coefs c7)/\(S4 I' p8 x2.Coefs c8)/\(S4 I' p9 x3.b c9)/\af=[hB b4 (cAff x2 p8 c8),hB aE (cRd x3 p9 c9),hB b2 (cAff x1 p7 c7),hB b zTwo]/\m'=[(0,vP aE 0),(4,vP b 0),(5,vP b2 0),(6,vP b4 0)]) ?_ ?_
 ·have H:=iS I09;refine yI aB ?_ ?_
  ·intro aG N;refine xH<|yE 2 [] [24,25] rfl<|oI (xN [1,0,2,3] (af:=[hB aE (cRd x p5 c5),hB b4 (cAff y7 p4 c4),hB b2 (cAff y3 p2 c2),hB b zTwo])) ?_;obtain⟨⟨y12,y13⟩,bj,N⟩:=zC N;refine pT (yY x ap _ bj h13) rfl ?_;rintro bP aw v2 k2 le10 - ⟨v06,kk3,rfl,rfl,rfl,h23⟩ -;have ⟨h18,h17,H⟩:=m3 le10 h18 h17 H;obtain⟨bN,bM,rfl,h24⟩:=yG h23;refine yO [] [7] rfl<|xF<|yE 1 [] [27] rfl ?_;obtain⟨⟨y15,y16⟩,hy6,N⟩:=zC N;refine pT (yY y13 2 _ hy6 h24) rfl ?_;rintro bD aw v2 k2 le11 - ⟨v08,kk4,rfl,rfl,rfl,h26⟩ -;have ⟨h18,h17,H⟩:=m3 le11 h18 h17 H;obtain⟨aX,aY,rfl,h27⟩:=yG h26;refine yO [] [29] rfl<|zE ?_;obtain⟨o02,ho02,hMc2⟩:=zC N;refine rZ (λI' af m'=>∃(x4:zA) (x5:zA) (bK:Option Addr) (bJ:Nat) (bt:Option Addr) (br:Nat),o02=(x4,x5)/\bD.le I'/\(S4 I' bK x4.Coefs bJ)/\(S4 I' bt x5.Coefs br)/\af=[hB aE (cRd y16 aX aY),hB b4 (cAff x5 bt br),hB b2 (cAff x4 bK bJ),hB b zTwo]/\m'=[(0,vP aE 0),(4,vP b 0),(5,vP b2 0),(6,vP b4 0)]) ?_ ?_
   ·have H:=iS bD;refine yI ho02 ?_ ?_
    ·intro aR N;refine zF<|yE 1 [] [30] rfl<|bE N λy17 hy7 N=>xT (oJ y12 _ hy7 ) ?_;rintro I014 aw v2 k2 le12 - ⟨v010,rfl,rfl,⟨bf,rfl,h30⟩⟩ -;have ⟨h18,H⟩:=m2 le12 h18 H;obtain⟨p14,c14,rfl,h31⟩:=yB h30;exact uE 2 (cAff y17 p14 c14) rfl<|xA rfl<|xC<|zL ⟨_,_,_,_,_,_,(zD N).symm,H,h31,h18,rfl,rfl⟩
    intro aR N;refine zF<|yE 1 [] [32] rfl<|bE N λy18 hy8 N=>xT (oJ y12 _ hy8 ) ?_;rintro I015 aw v2 k2 le13 - ⟨v012,rfl,rfl,⟨aZ,rfl,h32⟩⟩ -;have ⟨h17,H⟩:=m2 le13 h17 H;obtain⟨p15,c15,rfl,h33⟩:=yB h32;obtain⟨y19,hy9,N⟩:=zC N;refine xT (vZ 1 _ hy9 ) ?_;rintro I016 aw v2 k2 le14 - ⟨p16,c16,bL,rfl,rfl,h34⟩ -;have ⟨h33,h17,H⟩:=m3 le14 h33 h17 H;refine uZ 0 rfl ?_;intro I017 le15 hl04;have h35:=SL.of_frozen hl04 le15 h34;have ⟨h33,h17,H⟩:=m3 le15 h33 h17 H;obtain⟨y20,hy10,N⟩:=zC N;refine xT (gF y18 1 y19 1 _ hy10 h33 h35) ?_;rintro I018 aw v2 k2 le16 - ⟨v014,rfl,rfl,⟨bC,rfl,h36⟩⟩ -;have ⟨h17,H⟩:=m2 le16 h17 H;obtain⟨p17,c17,rfl,h37⟩:=yB h36;exact uE 1 (cAff y20 p17 c17) rfl<|xA rfl<|xC<|zL ⟨_,_,_,_,_,_,(zD N).symm,H,h17,h37,rfl,rfl⟩
   rintro I013 aw m2 ⟨x4,x5,bK,bJ,bt,br,heq1,le17,h28,h29,rfl,rfl⟩;subst o02;have ⟨h27,H⟩:=m2 le17 h27 H;exact pD (yS [1,0,2,3] rfl (by decide))<|xC<|zL ⟨_,_,_,_,_,_,_,_,_,(zD hMc2).symm,H,h28,h29,h27,rfl,rfl⟩
  intro aG N;exact zO<|xC<|zL ⟨_,_,_,_,_,_,_,_,_,(zD N).symm,H,h17,h18,h13,rfl,rfl⟩
 rintro bI aw m2 ⟨x1,x2,x3,p7,c7,p8,c8,p9,c9,heq2,le18,h19,h20,h21,rfl,rfl⟩;subst aI;have H:=H.trans le18;refine xF<|gX 1 [2] [(36,vA (cAff x1 p7 c7))]<|qC (cAff x1 p7 c7) zA ?_;intro b5 hb5;have h38:RL bI (cAff x1 p7 c7) ([x1]:List zA):=⟨(cAff x1 p7 c7),_,rfl,rfl,(zQ ⟨_,rfl,h19⟩),rfl⟩;refine gX 3 [1] [(38,vA (cAff x2 p8 c8))]<|qC (cAff x2 p8 c8) zA ?_;intro b6 hb6;have h39:RL bI (cAff x2 p8 c8) ([x2]:List zA):=⟨(cAff x2 p8 c8),_,rfl,rfl,(zQ ⟨_,rfl,h20⟩),rfl⟩;refine yE 5 [] [40] rfl<|rF zTwo ?_;intro b7 hb7;refine uE 0 [vS (some ⟨b5,0,none⟩) ([x1]:List zA) 1,vS (some ⟨b6,0,none⟩) ([x2]:List zA) 1] rfl<|xA rfl<|yC<|xH<|yE 1 [] [41] rfl<|oI (xN [4,0,1,2,3,5,6] (af:=[hB aE (cRd x3 p9 c9),hB b7 [vS (some ⟨b5,0,none⟩) ([x1]:List zA) 1,vS (some ⟨b6,0,none⟩) ([x2]:List zA) 1],hO zA (vS (some ⟨b6,0,none⟩) ([x2]:List zA) 1) (cAff x2 p8 c8),hO zA (vS (some ⟨b5,0,none⟩) ([x1]:List zA) 1) (cAff x1 p7 c7),hB b4 (cAff x2 p8 c8),hB b2 (cAff x1 p7 c7),hB b zTwo])) ?_;obtain⟨⟨y22,y23⟩,hy11,N⟩:=zC hMc1;refine pT (yY x3 12 _ hy11 h21) rfl ?_;rintro I019 aw v2 k2 le19 - ⟨v016,kk5,rfl,rfl,rfl,h41⟩ -;have ⟨h38,h39,H⟩:=m3 le19 h38 h39 H;obtain⟨p18,c18,rfl,h42⟩:=yG h41;refine xA rfl<|sR<|yL [43] rfl<|zE<|rK 4 rfl ?_;intro I020 le20 hl05;have au:At I020 ⟨b4,0,none⟩ (cAff x2 p8 c8):=At.of_blk hl05;have ⟨h42,h38,h39,H⟩:=m4 le20 h42 h38 h39 H;refine rK 4 rfl ?_;intro I021 le21 hl06;have aJ:At I021 ⟨b2,0,none⟩ (cAff x1 p7 c7):=At.of_blk hl06;have ⟨h42,h38,h39,H⟩:=m4 le21 h42 h38 h39 H;obtain⟨o03,ho03,hMc3⟩:=zC N;refine rZ (λI' af m'=>∃(Lo:List zA) (Hi:List zA) (x6:zH) (p19:Option Addr) (c19:Nat) (cs6:List Value) (p20:Option Addr) (c20:Nat) (cs7:List Value) (p21:Option Addr) (c21:Nat),o03=(Lo,Hi,x6)/\I021.le I'/\(RL I' cs6 Lo)/\(RL I' cs7 Hi)/\(S4 I' p21 x6.b c21)/\af=[hB aE (cRd x6 p21 c21),hB b7 [vS p19 Lo c19,vS p20 Hi c20],hO zA (vS p20 Hi c20) cs7,hO zA (vS p19 Lo c19) cs6,hB b zTwo]/\m'=[(4,vP b 0),(8,vP b7 0)]) ?_ ?_
 ·have H:=iS I021;refine yI ho03 ?_ ?_
  ·intro bq N;obtain⟨⟨y25,y26⟩,hy12,N⟩:=zC N;obtain⟨y27,hy13,N⟩:=zC N;obtain⟨l,hy14,N⟩:=zC N;refine qA [.p (vP b7 1) [],.p (vS (some ⟨b6,0,none⟩) ([x2]:List zA) 1) [0],.p (vP aE 0) [],.x (λI' v hx=>∃b8,v=vS (some ⟨b8,0,none⟩) ([3,2,4]:List Int) 3/\hx=[]/\(SL I' (vS (some ⟨b8,0,none⟩) ([3,2,4]:List Int) 3) ([3,2,4]:List Int))),.x (λI' v hx=>∃p22 c22,v=vI y25/\hx=[hB aE (cRd y26 p22 c22)]/\(S4 I' p22 y26.b c22)),.x (λI' v hx=>∃p23 c23 cs8,v=vA (cAff y27 p23 c23)/\hx=[hO Int (vS p23 y27.Coefs c23) cs8]/\(RL I' cs8 y27.Coefs)),.x (λI' v hx=>∃b9,v=vS (some ⟨b9,0,none⟩) ([y27]:List zA) 1/\hx=[]/\(SL I' (vS (some ⟨b9,0,none⟩) ([y27]:List zA) 1) ([y27]:List zA))),.x (λI' v hx=>∃p24 c24 cs9,v=vS p24 l c24/\hx=[hO zA (vS p24 l c24) cs9]/\(RL I' cs9 l))] [[],[(0,false)],[],[],[(2,false),(3,false),(10,true)],[(4,false)],[(5,true)],[(1,false),(6,false),(11,true)]] [hB b7 [vS (some ⟨b5,0,none⟩) ([x1]:List zA) 1,vS (some ⟨b6,0,none⟩) ([x2]:List zA) 1],hO zA (vS (some ⟨b5,0,none⟩) ([x1]:List zA) 1) (cAff x1 p7 c7),hB b zTwo] [[hB aE (cRd y23 p18 c18)],[hO zA (vS (some ⟨b6,0,none⟩) ([x2]:List zA) 1) (cAff x2 p8 c8)]] [(4,true),(7,true)] (xN [1,3,4,0,2]) ?_ ?_
   ·refine Op<|Op<|Op<|Ox ?_<|Ox ?_<|Ox ?_<|Ox ?_<|Ox ?_<|On
    ·intro I1 hf ah;refine I_h [] ?_;have H:=iS I1;refine dW (rI [3,2,4]) ?_;intro b8 I023 le22 h47;have H:=H.trans le22;exact uP [] H ⟨_,rfl,rfl,h47⟩
    ·rintro I1 hf ah _ _ ⟨rfl,rfl⟩ _ _ ⟨b8,rfl,rfl,h47⟩ _ _ rfl;refine uS [47,48] rfl ?_;have H:=iS I1;have h42:=h42.mono ah;refine pT (tX y23 ([3,2,4]:List Int) _ hy12 h42 h47) rfl ?_;rintro I024 aw v2 k2 le23 - ⟨v018,kk6,rfl,rfl,rfl,h49⟩ -;have H:=H.trans le23;obtain⟨p22,c22,rfl,h50⟩:=yG h49;exact uP [hB aE (cRd y26 p22 c22)] H ⟨_,_,rfl,rfl,h50⟩
    ·rintro I1 hf ah _ _ ⟨p22,c22,rfl,rfl,h50⟩;refine uS [49] rfl ?_;have H:=iS I1;refine xT (vZ y25 _ hy13 ) ?_;rintro I025 aw v2 k2 le24 - ⟨p23,c23,cs8,rfl,rfl,h51⟩ -;have H:=H.trans le24;exact uP [hO Int (vS p23 y27.Coefs c23) cs8] H ⟨_,_,_,rfl,rfl,h51⟩
    ·rintro I1 hf ah _ _ ⟨p23,c23,cs8,rfl,rfl,h51⟩;refine uS [50] rfl ?_;have H:=iS I1;refine uZ 0 rfl ?_;intro I026 le25 hl08;have h52:=SL.of_frozen hl08 le25 h51;have H:=H.trans le25;refine dW (rc y27 (zQ ⟨_,rfl,h52⟩) rN) ?_;intro b9 I027 le26 h54;have H:=H.trans le26;exact uP [] H ⟨_,rfl,rfl,h54⟩
    rintro I1 hf ah _ _ ⟨rfl,rfl⟩ _ _ ⟨b9,rfl,rfl,h54⟩ _ _ rfl;refine uS [46,51] rfl ?_;have h39:=iM ah h39;obtain⟨az,k0,k01⟩:=h54;have h54:SL I1 (vS (some ⟨b9,0,none⟩) ([y27]:List zA) 1) ([y27]:List zA):=⟨_,k0,k01⟩;exact oO 50 2 0 rfl rfl rfl h39 (.inl k0) k01 hy14 λp24 c24 cs9 h55=>sO (af:=(hO zA (vS p24 l c24) cs9::hB b7 [vS (some ⟨b5,0,none⟩) ([x1]:List zA) 1,vS (some ⟨b6,0,none⟩) ([x2]:List zA) 1]::hO zA (vS (some ⟨b5,0,none⟩) ([x1]:List zA) 1) (cAff x1 p7 c7)::hB b zTwo::hf)) rfl<|uP [hO zA (vS p24 l c24) cs9] iR ⟨_,_,_,rfl,rfl,h55⟩
   rintro I028 le27 _ _ ⟨p22,c22,rfl,rfl,h50⟩ _ _ ⟨p24,c24,cs9,rfl,rfl,h55⟩;refine uS [4,8,52] rfl ?_;have ⟨h38,H⟩:=m2 le27 h38 H;exact yE 9 [] [53] rfl<|uE 2 [vS (some ⟨b5,0,none⟩) ([x1]:List zA) 1,vS p24 l c24] rfl<|xA rfl<|pD (yS [1,2,0,3,4] rfl (by decide))<|xC<|zL ⟨_,_,_,_,_,_,_,_,_,_,_,(zD N).symm,H,h38,h55,h50,rfl,rfl⟩
  intro bq N;refine yL [54] rfl<|zE ?_;obtain⟨o04,ho04,hMc4⟩:=zC N;refine rZ (λI' af m'=>∃(Lo1:List zA) (x7:zH) (p25:Option Addr) (c25:Nat) (cs10:List Value) (p26:Option Addr) (c26:Nat),o04=(Lo1,x7)/\I021.le I'/\(RL I' cs10 Lo1)/\(S4 I' p26 x7.b c26)/\af=[hB aE (cRd x7 p26 c26),hB b7 [vS p25 Lo1 c25,vS (some ⟨b6,0,none⟩) ([x2]:List zA) 1],hO zA (vS (some ⟨b6,0,none⟩) ([x2]:List zA) 1) (cAff x2 p8 c8),hO zA (vS p25 Lo1 c25) cs10,hB b zTwo]/\m'=[(4,vP b 0),(8,vP b7 0)]) ?_ ?_
  ·have H:=iS I021;refine yI ho04 ?_ ?_
   ·intro bx N;obtain⟨⟨y29,y30⟩,hy15,N⟩:=zC N;obtain⟨y31,hy16,N⟩:=zC N;obtain⟨l1,hy17,N⟩:=zC N;refine qA [.p (vP b7 0) [],.p (vS (some ⟨b5,0,none⟩) ([x1]:List zA) 1) [0],.p (vP aE 0) [],.x (λI' v hx=>∃b10,v=vS (some ⟨b10,0,none⟩) ([0,1]:List Int) 2/\hx=[]/\(SL I' (vS (some ⟨b10,0,none⟩) ([0,1]:List Int) 2) ([0,1]:List Int))),.x (λI' v hx=>∃p27 c27,v=vI y29/\hx=[hB aE (cRd y30 p27 c27)]/\(S4 I' p27 y30.b c27)),.x (λI' v hx=>∃p28 c28 cs11,v=vA (cAff y31 p28 c28)/\hx=[hO Int (vS p28 y31.Coefs c28) cs11]/\(RL I' cs11 y31.Coefs)),.x (λI' v hx=>∃b11,v=vS (some ⟨b11,0,none⟩) ([y31]:List zA) 1/\hx=[]/\(SL I' (vS (some ⟨b11,0,none⟩) ([y31]:List zA) 1) ([y31]:List zA))),.x (λI' v hx=>∃p29 c29 cs12,v=vS p29 l1 c29/\hx=[hO zA (vS p29 l1 c29) cs12]/\(RL I' cs12 l1))] [[],[(0,false)],[],[],[(2,false),(3,false),(10,true)],[(4,false)],[(5,true)],[(1,false),(6,false),(11,true)]] [hB b7 [vS (some ⟨b5,0,none⟩) ([x1]:List zA) 1,vS (some ⟨b6,0,none⟩) ([x2]:List zA) 1],hO zA (vS (some ⟨b6,0,none⟩) ([x2]:List zA) 1) (cAff x2 p8 c8),hB b zTwo] [[hB aE (cRd y23 p18 c18)],[hO zA (vS (some ⟨b5,0,none⟩) ([x1]:List zA) 1) (cAff x1 p7 c7)]] [(4,true),(7,true)] (xN [1,2,4,0,3]) ?_ ?_
    ·refine Op<|Op<|Op<|Ox ?_<|Ox ?_<|Ox ?_<|Ox ?_<|Ox ?_<|On
     ·intro I1 hf ah;refine I_h [] ?_;have H:=iS I1;refine dW (rI [0,1]) ?_;intro b10 I030 le28 h59;have H:=H.trans le28;exact uP [] H ⟨_,rfl,rfl,h59⟩
     ·rintro I1 hf ah _ _ ⟨rfl,rfl⟩ _ _ ⟨b10,rfl,rfl,h59⟩ _ _ rfl;refine uS [58,59] rfl ?_;have H:=iS I1;have h42:=h42.mono ah;refine pT (tX y23 ([0,1]:List Int) _ hy15 h42 h59) rfl ?_;rintro I031 aw v2 k2 le29 - ⟨v020,kk7,rfl,rfl,rfl,h61⟩ -;have H:=H.trans le29;obtain⟨p27,c27,rfl,h62⟩:=yG h61;exact uP [hB aE (cRd y30 p27 c27)] H ⟨_,_,rfl,rfl,h62⟩
     ·rintro I1 hf ah _ _ ⟨p27,c27,rfl,rfl,h62⟩;refine uS [60] rfl ?_;have H:=iS I1;refine xT (vZ y29 _ hy16 ) ?_;rintro I032 aw v2 k2 le30 - ⟨p28,c28,cs11,rfl,rfl,h63⟩ -;have H:=H.trans le30;exact uP [hO Int (vS p28 y31.Coefs c28) cs11] H ⟨_,_,_,rfl,rfl,h63⟩
     ·rintro I1 hf ah _ _ ⟨p28,c28,cs11,rfl,rfl,h63⟩;refine uS [61] rfl ?_;have H:=iS I1;refine uZ 0 rfl ?_;intro I033 le31 hl011;have h64:=SL.of_frozen hl011 le31 h63;have H:=H.trans le31;refine dW (rc y31 (zQ ⟨_,rfl,h64⟩) rN) ?_;intro b11 I034 le32 h66;have H:=H.trans le32;exact uP [] H ⟨_,rfl,rfl,h66⟩
     rintro I1 hf ah _ _ ⟨rfl,rfl⟩ _ _ ⟨b11,rfl,rfl,h66⟩ _ _ rfl;refine uS [57,62] rfl ?_;have h38:=iM ah h38;obtain⟨bh,k02,k03⟩:=h66;have h66:SL I1 (vS (some ⟨b11,0,none⟩) ([y31]:List zA) 1) ([y31]:List zA):=⟨_,k02,k03⟩;exact oO 50 2 0 rfl rfl rfl h38 (.inl k02) k03 hy17 λp29 c29 cs12 h67=>sO (af:=(hO zA (vS p29 l1 c29) cs12::hB b7 [vS (some ⟨b5,0,none⟩) ([x1]:List zA) 1,vS (some ⟨b6,0,none⟩) ([x2]:List zA) 1]::hO zA (vS (some ⟨b6,0,none⟩) ([x2]:List zA) 1) (cAff x2 p8 c8)::hB b zTwo::hf)) rfl<|uP [hO zA (vS p29 l1 c29) cs12] iR ⟨_,_,_,rfl,rfl,h67⟩
    rintro I035 le33 _ _ ⟨p27,c27,rfl,rfl,h62⟩ _ _ ⟨p29,c29,cs12,rfl,rfl,h67⟩;refine uS [4,8,63] rfl ?_;have H:=H.trans le33;exact yE 9 [] [64] rfl<|uE 2 [vS p29 l1 c29,vS (some ⟨b6,0,none⟩) ([x2]:List zA) 1] rfl<|xA rfl<|pD (yS [1,2,3,0,4] rfl (by decide))<|xC<|zL ⟨_,_,_,_,_,_,_,(zD N).symm,H,h67,h62,rfl,rfl⟩
   intro bx N;exact zO<|xC<|zL ⟨_,_,_,_,_,_,_,(zD N).symm,H,h38,h42,rfl,rfl⟩
  rintro I029 aw m2 ⟨Lo1,x7,p25,c25,cs10,p26,c26,heq3,le34,h56,h57,rfl,rfl⟩;subst o04;have ⟨h39,H⟩:=m2 le34 h39 H;exact xC<|zL ⟨_,_,_,_,_,_,_,_,_,_,_,(zD hMc4).symm,H,h56,h39,h57,rfl,rfl⟩
 rintro I022 aw m2 ⟨Lo,Hi,x6,p19,c19,cs6,p20,c20,cs7,p21,c21,heq4,le35,h43,h44,h45,rfl,rfl⟩;subst o03;refine zJ<|xF<|gX 1 [1] [(65,vA [vS p19 Lo c19,vS p20 Hi c20])]<|uE 4 [vS p19 Lo c19,vS p20 Hi c20] rfl<|xA rfl<|vG<|uN 3 rfl ?_;intro I036 le36 hl013;have h68:=SL.of_frozen hl013 le36 h43;have ⟨h45,h44⟩:=m2 le36 h45 h44;refine uN 2 rfl ?_;intro I037 le37 hl014;have h69:=SL.of_frozen hl014 le37 h44;have ⟨h45,h68⟩:=m2 le37 h45 h68;obtain rfl:=zD hMc3;exact wJ ⟨_,_,(.cell 2 rfl rfl (by kernel_rfl) ResV.nil),(yS [0] rfl (by decide)),⟨_,_,rfl,rfl,⟨_,rfl,(xO ⟨_,_,rfl,h68,h69⟩)⟩,(yR ⟨_,rfl,h45⟩)⟩⟩
def fI(b0:Nat)(r:(List zB)×zH):KT:=λkk I' af v=>
 ∃v0 k0,af=[.blk b0 ⟨k0⟩]/\v=tupV [v0]/\SL I' v0 r.1/\Rp.rep I' k0 r.2
def xZ(ak:List zB)(i:Int)(x:zH):Option ((List zB×zH)):=do
 if(decide (i>0)) then
  let (y4,y5)<-sE x (ak.length:Int)
  let ax<-app 48 ak ([y4]:List zB)
  xZ ax (W (i - 1)) y5
 else
  pure (ak,x)
 partial_fixpoint
theorem gG :∀(ak:List zB) (i:Int) (x:zH) (o:(List zB×zH)),xZ ak i x=some o->∀{B}{I0 I:Imm}{Q}  {aE:Nat}{p2 c2 cs p3 c3},I0.le I->(RL I cs ak)->(S4 I p3 x.b c3)->NG Q->NO Q->(∀(I':Imm) (aj:List zB) (x1:zH) (p4:Option Addr) (c4:Nat) (aF:List Value) (p5:Option Addr) (c5:Nat),o=(aj,x1)->I0.le I'->(RL I' aF aj)->(S4 I' p5 x1.b c5)->T 21 B Q (.exit 0) I' [hB aE (cRd x1 p5 c5),hO zB (vS p4 aj c4) aF] [(3,vS p4 aj c4)])->J Tryz.prog 21 B (nav (bodyOf f66) [1,1,0,1,0]) Q I [hB aE (cRd x p3 c3),hO zB (vS p2 ak c2) cs] [(0,vP aE 0),(3,vS p2 ak c2),(4,vI i)]:=by
 refine xZ.partial_correctness  _ λaO ih ak i x o N B I0 I Q aE p2 c2 cs p3 c3 H h7 h8 hg ho hx=>wI hg ho<|yK<|yL [10] rfl<|zE<|yI N ?_ ?_
 ·intro hc N;refine zO<|yC<|xK<|zF<|yE 4 [] [13,14,16] rfl ?_;obtain⟨⟨y4,y5⟩,aA,N⟩:=zC N;refine pT (zAA x (ak.length:Int) _ aA h8) rfl ?_;rintro aW aw v2 k2 aH - ⟨v02,kk1,rfl,rfl,⟨bf,rfl,h11⟩,h12⟩ -;have ⟨h7,H⟩:=m2 aH h7 H;obtain⟨p6,c6,p7,c7,rfl,h13,h14⟩:=yZ h11;obtain⟨p8,c8,rfl,h15⟩:=yG h12;refine qC (cLoop y4 p6 c6 p7 c7) zB ?_;intro b2 hb2;have h16:RL aW (cLoop y4 p6 c6 p7 c7) ([y4]:List zB):=⟨(cLoop y4 p6 c6 p7 c7),_,rfl,rfl,(xO ⟨_,_,rfl,h13,h14⟩),rfl⟩;obtain⟨ax,aL,N⟩:=zC N;exact oO 92 2 2 rfl rfl rfl h7 (.inr ⟨0,rfl⟩) h16 aL λp9 c9 aZ h17=>oI (xN [1,2] (af:=[hB aE (cRd y5 p8 c8),hO zB (vS p9 ax c9) aZ]))<|yO [] [3] rfl<|zJ<|zE<|zF<|yO [] [4] rfl<|wD<|kK<|ih ax (W (i - 1)) y5 _ N H h17 h15 hg ho hx
 intro hc N;exact rG<|xC<|hx _ _ _ _ _ _ _ _ (zD N).symm H h7 h8
def tH(r0:zH):Option ((List zB)×zH):=do
 let (y1,y2)<-wK r0 ([2,1,2,3]:List Int)
 let (aj,x1)<-xZ ([]:List zB) y1 y2
 pure (aj,x1)
theorem mY:∀r0 r,tH r0=some r->∀{I:Imm}{aE:Nat}{p c},(S4 I p r0.b c)->RT 66 [vP aE 0] I [hB aE (cRd r0 p c)] (fI aE r):=by
 intro r0 r N I aE p c h;unfold tH at N;refine yN func66 λB=>vO []<|xF<|qC [] zB ?_;intro b hb;have h1:RL I [] ([]:List zB):=rfl;refine yO [] [3] rfl<|yC<|xH<|yE 1 [] [6] rfl<|dW (rI [2,1,2,3]) ?_;intro b1 I0 le h3;have ⟨h1,h⟩:=m2 le h1 h;refine oI (xN [1,0] (af:=[hB aE (cRd r0 p c),hO zB (vS (some ⟨b,0,none⟩) ([]:List zB) 0) []])) ?_;obtain⟨⟨y1,y2⟩,hy,N⟩:=zC N;refine pT (tX r0 ([2,1,2,3]:List Int) _ hy h h3) rfl ?_;rintro aQ aw v2 k2 ah - ⟨v0,kk,rfl,rfl,rfl,h5⟩ -;have h1:=iM ah h1;obtain⟨p1,c1,rfl,h6⟩:=yG h5;refine yO [] [4] rfl<|sR<|pY [(0,vP aE 0),(3,vS (some ⟨b,0,none⟩) ([]:List zB) 0),(4,vI y1)] ?_;obtain⟨o0,aC,aM⟩:=zC N;refine gG ([]:List zB) y1 y2 o0 aC iR h1 h6 (λ_ _ _ h=>h) (λ_ _ h=>h) ?_;intro a6 aj x1 p4 c4 aF p5 c5 heq aK h9 h10;subst o0;refine zR<|sH [2] rfl<|vG<|uN 1 rfl ?_;intro bu aV hl01;have h18:=SL.of_frozen hl01 aV h9;have h10:=h10.mono aV;obtain rfl:=zD aM;exact wJ ⟨_,_,(.tmp rfl ResV.nil),(yS [0] rfl (by decide)),⟨_,_,rfl,rfl,h18,(yR ⟨_,rfl,h10⟩)⟩⟩
def jI(b0:Nat)(r:Str×zH):KT:=λkk I' af v=>
 ∃v0 k0,af=[.blk b0 ⟨k0⟩]/\v=tupV [v0]/\v0=.string ⟨⟨r.1.l⟩⟩/\Rp.rep I' k0 r.2
def sS(r0:zH)(ai:(List Str)):Option (Str×zH):=do
 let (y1,y2)<-yH r0 (ai.length:Int)
 let x<-idx ai y1
 pure (x,y2)
theorem fJ:∀r0 ai r,sS r0 ai=some r->∀{I:Imm}{aE:Nat}{p c p1 c1},(S4 I p r0.b c)->(S4 I p1 ai c1)->RT 103 [vP aE 0,vS p1 ai c1] I [hB aE (cRd r0 p c)] (jI aE r):=by
 intro r0 ai r N I aE p c p1 c1 h h1;unfold sS at N;refine yN func103 λB=>vO []<|xF<|yE 4 [] [5,6,8] rfl ?_;obtain⟨⟨y1,y2⟩,hy,N⟩:=zC N;refine pT (yY r0 (ai.length:Int) _ hy h) rfl ?_;rintro I0 aw v2 k2 le - ⟨v0,kk,rfl,rfl,rfl,h3⟩ -;have h1:=h1.mono le;obtain⟨p2,c2,rfl,h4⟩:=yG h3;obtain⟨x,aA,N⟩:=zC N;refine tO rfl rfl h1 aA ?_;intro ad az au al;obtain rfl:=al;refine tN 0 au [vT x.l] (vT x.l) rfl<|yO [] [4] rfl<|zE<|xL ?_;obtain rfl:=zD N;exact wJ ⟨_,_,(.tmp rfl ResV.nil),(yS [0] rfl (by decide)),⟨_,_,rfl,rfl,rfl,(yR ⟨_,rfl,h4⟩)⟩⟩
end Go.LN
