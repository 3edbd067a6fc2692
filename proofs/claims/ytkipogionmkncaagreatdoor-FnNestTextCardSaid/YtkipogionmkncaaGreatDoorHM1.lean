/- Helper of the proof (see the last text). -/
import Derived.Test.YtkipogionmkncaaGreatDoorLnO
import Derived.Test.YtkipogionmkncaaGreatDoorTryzShelf
set_option linter.unusedVariables false
set_option linter.unusedSimpArgs false
namespace Go.LN
open Go.Proofs Go.Proofs.Tryz
set_option maxRecDepth 20000
abbrev eS{α:Type}[Rp α](l:List α):Imm->Value->List HA->Prop:=λI' v hx=>∃p c,v=vS p l c/\hx=[]/\S4 I' p l c
abbrev ePLoop(x:zB):Imm->Value->List HA->Prop:=λI' v hx=>∃ad p0 c0 p1 c1,v=.pointer (some ad)/\hx=[]/\At I' ad (cLoop x p0 c0 p1 c1)/\S4 I' p0 x.Lo c0/\S4 I' p1 x.Hi c1
abbrev eQLoop(k:Nat)(x:zB):Imm->Value->List HA->Prop:=λI' v hx=>∃ad p0 c0 p1 c1,v=.pointer (some (ad.add k))/\hx=[]/\At I' ad (cLoop x p0 c0 p1 c1)/\S4 I' p0 x.Lo c0/\S4 I' p1 x.Hi c1
instance {i j:Imm}{aq:List Raw2}{parts:List yJ}{vN vB:Value}{nl:List zB}{bl:List xE}:Mo (LP i aq parts vN nl vB bl) i j (LP j aq parts vN nl vB bl):=⟨λh x=>x.mono h⟩
abbrev RT:=Ret Tryz.prog
def zU(r:Bool):KT:=λkk I' af v=>
 ∃v0,af=[]/\v=tupV [v0]/\v0=.bool r
def tZ(n0:Int)(low:Int)(high:Int):Option (Bool):=do
 let t6<-(do
  if(decide (low<=n0)) then
   pure (decide (n0<=high))
  else
   pure false
    : Option Bool)
 pure (id t6)
theorem pI:∀n0 low high r,tZ n0 low high=some r->∀{I:Imm} ,RT 81 [vI n0,vI low,vI high] I [] (zU  r):=by
 intro n0 low high r N I;unfold tZ at N;refine yN func81 λB=>?_;have H:=iS I;refine vO []<|zE<|yK ?_;refine tA N [] (λt6=>[(6,.bool t6)]) (λo0 aC=>?_) ?_
 ·have H:=iS I;refine zF<|yE 4 [] [10] rfl<|uF [10] aC ?_ ?_
  ·intro hc N;exact yO [] [6] rfl<|xC<|zL (ct N H)
  intro hc N;exact sG [] [(6,vF)]<|xC<|zL (ct N H)
 intro t6 I0 le aN;refine zE<|xL ?_;obtain rfl:=zD aN;exact tD
def sM(ay:List HA)(r:Int):KT:=λkk I' af v=>
 ∃v0,ay=af/\v=tupV [v0]/\v0=.int .i64 r
def yM(s:(List Int))(f0:(Int->Option Bool))(t8:Int):Option (Out Unit (Int)):=do
 if(decide (t8<(s.length:Int))) then
  let x<-idx s t8
  let y<-f0 x
  if y then
   pure (.ret t8)
  else
   yM s f0 (W (t8+1))
 else
  pure (.done ())
 partial_fixpoint
theorem qN(s:(List Int))(f0:(Int->Option Bool)):∀(t8:Int) (o:Out Unit (Int)),yM s f0 t8=some o->∀{B}{I0 I:Imm}{Q p c}{fv:Value}{ay:List HA},I0.le I->(S4 I p s c)->(FV1 Tryz.prog I ay fv f0)->NG Q->NO Q->(∀(I':Imm) ,o=(.done ())->I0.le I'->T 19 B Q (.exit 0) I' ay [])->(∀r I' af m',o=(.ret r)->I0.le I'->RS Tryz.prog f205 B (sM ay r) I' af m'->T 19 B Q .ret I' af m')->J Tryz.prog 19 B (nav (bodyOf f205) [1,0,1,0]) Q I ay [(0,vS p s c),(1,fv),(7,vI (s.length:Int)),(8,vI t8)]:=by
 refine yM.partial_correctness s f0 _ λaO ih t8 o N B I0 I Q p c fv ay H h h1 hg ho hx hr=>wI hg ho<|yL [9] rfl<|yC<|yI N ?_ ?_
 ·intro hc N;refine zO<|yC<|xK<|yL [5] rfl<|xF<|yE 3 [] [11,12,13] rfl<|bE N λx hy N=>tO rfl rfl h hy ?_;intro ad az au al;obtain rfl:=al;refine tN 0 au [vI x] (vI x) rfl<|bE N λy aA N=>zEe rfl rfl h1 aA rfl (cG _).symm ?_;rintro I0 v0 le rfl;refine sO (af:=ay) (cG _) ?_;have ⟨h,h1,H⟩:=m3 le h h1 H;refine xA rfl<|zE<|yI N ?_ ?_
  ·intro aG N;exact yL [4] rfl<|vG<|yD<|zG<|zG<|hr _ _ _ _ (zD N).symm H ⟨_,_,(.tmp rfl ResV.nil),(λ_ h=>h),⟨_,rfl,rfl,rfl⟩⟩
  intro aG N;exact zO<|zJ<|zE<|zF<|yO [] [8] rfl<|wD<|kK<|ih (W (t8+1)) _ N H h h1 hg ho hx hr
 intro hc N;exact rG<|xC<|hx _  (zD N).symm H
def vQ(s:(List Int))(f0:(Int->Option Bool)):Option (Int):=do
 match<-yM s f0 0 with
 | .ret r0=>pure r0
 | .done _=>
  pure (-1)
theorem pF:∀s f0 r,vQ s f0=some r->∀{I:Imm}{p c}{fv:Value}{ay:List HA},(S4 I p s c)->(FV1 Tryz.prog I ay fv f0)->RT 205 [vS p s c,fv] I ay (sM ay r):=by
 intro s f0 r N I p c fv ay h h1;unfold vQ at N;refine yN func205 λB=>vO []<|yC<|yL [7,8] rfl<|sR<|pY [(0,vS p s c),(1,fv),(7,vI (s.length:Int)),(8,vI 0)] ?_;obtain⟨o0,aC,aM⟩:=zC N;refine qN s f0 0 o0 aC iR h h1 (λ_ _ _ h=>h) (λ_ _ h=>h) ?_ ?_
 ·intro aQ  heq ah;subst o0;refine zR<|sH [4] rfl<|zE<|xL ?_;obtain rfl:=zD aM;exact wJ ⟨_,_,(.tmp rfl ResV.nil),(λ_ h=>h),⟨_,rfl,rfl,rfl⟩⟩
 intro r0 I9 hs9 m9 aT le9 aU;subst aT;refine yD<|zG ?_;obtain rfl:=zD aM;exact wJ aU
def qD(ay:List HA)(r:Bool):KT:=λkk I' af v=>
 ∃v0,ay=af/\v=tupV [v0]/\v0=.bool r
def xB(s:(List Int))(f0:(Int->Option Bool)):Option (Bool):=do
 let y<-vQ s f0
 pure (decide (y>=0))
theorem qO:∀s f0 r,xB s f0=some r->∀{I:Imm}{p c}{fv:Value}{ay:List HA},(S4 I p s c)->(FV1 Tryz.prog I ay fv f0)->RT 155 [vS p s c,fv] I ay (qD ay r):=by
 intro s f0 r N I p c fv ay h h1;unfold xB at N;refine yN func155 λB=>vO []<|xF<|yE 2 [] [5,6] rfl<|bE N λy hy N=>zAq (hs1:=ay) (rest:=[]) rfl rfl rfl rfl (by kernel_rfl) rfl (cG _).symm (pF s f0 _ hy h h1) ?_;rintro I0 aw v2 k2 le - ⟨v0,rfl,rfl,rfl⟩ -;refine sO (af:=ay) (cG _) ?_;refine yO [] [4] rfl<|zE<|xL ?_;obtain rfl:=zD N;exact wJ ⟨_,_,(.tmp rfl ResV.nil),(λ_ h=>h),⟨_,rfl,rfl,rfl⟩⟩
def wZ(ay:List HA)(r:Int):KT:=λkk I' af v=>
 ∃v0,ay=af/\v=tupV [v0]/\v0=.int .i64 r
def zS(s:(List zA))(f0:(zA->Option Bool))(t8:Int):Option (Out Unit (Int)):=do
 if(decide (t8<(s.length:Int))) then
  let x<-idx s t8
  let y<-f0 x
  if y then
   pure (.ret t8)
  else
   zS s f0 (W (t8+1))
 else
  pure (.done ())
 partial_fixpoint
theorem sA(s:(List zA))(f0:(zA->Option Bool)):∀(t8:Int) (o:Out Unit (Int)),zS s f0 t8=some o->∀{B}{I0 I:Imm}{Q p c}{fv:Value}{ay:List HA},I0.le I->(S4 I p s c)->(FV1 Tryz.prog I ay fv f0)->NG Q->NO Q->(∀(I':Imm) ,o=(.done ())->I0.le I'->T 19 B Q (.exit 0) I' ay [])->(∀r I' af m',o=(.ret r)->I0.le I'->RS Tryz.prog f176 B (wZ ay r) I' af m'->T 19 B Q .ret I' af m')->J Tryz.prog 19 B (nav (bodyOf f176) [1,0,1,0]) Q I ay [(0,vS p s c),(1,fv),(7,vI (s.length:Int)),(8,vI t8)]:=by
 refine zS.partial_correctness s f0 _ λaO ih t8 o N B I0 I Q p c fv ay H h h1 hg ho hx hr=>wI hg ho<|yL [9] rfl<|yC<|yI N ?_ ?_
 ·intro hc N;refine zO<|yC<|xK<|yL [5] rfl<|xF<|yE 3 [] [11,12,13] rfl<|bE N λx hy N=>tO rfl rfl h hy ?_;intro ad az au al;obtain⟨p1,c1,rfl,h2⟩:=yB al;refine tN 0 au (cAff x p1 c1) (vA (cAff x p1 c1)) rfl<|bE N λy aA N=>zEe rfl rfl h1 aA ⟨_,rfl,(zQ ⟨_,rfl,h2⟩)⟩ (cG _).symm ?_;rintro I0 v01 le rfl;refine sO (af:=ay) (cG _) ?_;have ⟨h,h1,H⟩:=m3 le h h1 H;refine xA rfl<|zE<|yI N ?_ ?_
  ·intro aG N;exact yL [4] rfl<|vG<|yD<|zG<|zG<|hr _ _ _ _ (zD N).symm H ⟨_,_,(.tmp rfl ResV.nil),(λ_ h=>h),⟨_,rfl,rfl,rfl⟩⟩
  intro aG N;exact zO<|zJ<|zE<|zF<|yO [] [8] rfl<|wD<|kK<|ih (W (t8+1)) _ N H h h1 hg ho hx hr
 intro hc N;exact rG<|xC<|hx _  (zD N).symm H
def yU(s:(List zA))(f0:(zA->Option Bool)):Option (Int):=do
 match<-zS s f0 0 with
 | .ret r0=>pure r0
 | .done _=>
  pure (-1)
theorem sL:∀s f0 r,yU s f0=some r->∀{I:Imm}{p c}{fv:Value}{ay:List HA},(S4 I p s c)->(FV1 Tryz.prog I ay fv f0)->RT 176 [vS p s c,fv] I ay (wZ ay r):=by
 intro s f0 r N I p c fv ay h h1;unfold yU at N;refine yN func176 λB=>vO []<|yC<|yL [7,8] rfl<|sR<|pY [(0,vS p s c),(1,fv),(7,vI (s.length:Int)),(8,vI 0)] ?_;obtain⟨o0,aC,aM⟩:=zC N;refine sA s f0 0 o0 aC iR h h1 (λ_ _ _ h=>h) (λ_ _ h=>h) ?_ ?_
 ·intro aQ  heq ah;subst o0;refine zR<|sH [4] rfl<|zE<|xL ?_;obtain rfl:=zD aM;exact wJ ⟨_,_,(.tmp rfl ResV.nil),(λ_ h=>h),⟨_,rfl,rfl,rfl⟩⟩
 intro r0 I9 hs9 m9 aT le9 aU;subst aT;refine yD<|zG ?_;obtain rfl:=zD aM;exact wJ aU
def tQ(ay:List HA)(r:Bool):KT:=λkk I' af v=>
 ∃v0,ay=af/\v=tupV [v0]/\v0=.bool r
def yF(s:(List zA))(f0:(zA->Option Bool)):Option (Bool):=do
 let y<-yU s f0
 pure (decide (y>=0))
theorem sB:∀s f0 r,yF s f0=some r->∀{I:Imm}{p c}{fv:Value}{ay:List HA},(S4 I p s c)->(FV1 Tryz.prog I ay fv f0)->RT 112 [vS p s c,fv] I ay (tQ ay r):=by
 intro s f0 r N I p c fv ay h h1;unfold yF at N;refine yN func112 λB=>vO []<|xF<|yE 2 [] [5,6] rfl<|bE N λy hy N=>zAq (hs1:=ay) (rest:=[]) rfl rfl rfl rfl (by kernel_rfl) rfl (cG _).symm (sL s f0 _ hy h h1) ?_;rintro I0 aw v2 k2 le - ⟨v0,rfl,rfl,rfl⟩ -;refine sO (af:=ay) (cG _) ?_;refine yO [] [4] rfl<|zE<|xL ?_;obtain rfl:=zD N;exact wJ ⟨_,_,(.tmp rfl ResV.nil),(λ_ h=>h),⟨_,rfl,rfl,rfl⟩⟩
def qE(n0:Int):Option (Bool):=do
 let y<-tZ n0 (-99) 99
 pure (id y)
theorem eI:∀n0 r,qE n0=some r->∀{I:Imm} ,RT 177 [vI n0] I [] (zU  r):=by
 intro n0 r N I;unfold qE at N;refine yN func177 λB=>vO []<|xF<|yE 1 [] [3] rfl<|bE N λy hy N=>pE (pI n0 (-99) 99 _ hy ) λI0 le=>sG [] [(2,.bool y)]<|zE<|xL ?_;obtain rfl:=zD N;exact tD
def wE(c:Int):Option (Bool):=do
 let y<-tZ c (-9) 9
 pure (!y)
theorem mB:∀c r,wE c=some r->∀{I:Imm} ,RT 178 [vI c] I [] (zU  r):=by
 intro c r N I;unfold wE at N;refine yN func178 λB=>vO []<|xF<|yE 1 [] [3] rfl<|bE N λy hy N=>pE (pI c (-9) 9 _ hy ) λI0 le=>sG [] [(2,.bool (!y))]<|zE<|xL ?_;obtain rfl:=zD N;exact tD
def uG(a0:zA):Option (Bool):=do
 let t2<-(do
  if((a0.Coefs.length:Int)==4) then
   let y<-qE a0.Const
   if y then
    let y1<-xB a0.Coefs wE
    pure (!y1)
   else
    pure false
  else
   pure false
    : Option Bool)
 pure (id t2)
theorem rJ:∀a0 r,uG a0=some r->∀{I:Imm}{p c},(S4 I p a0.Coefs c)->RT 114 [vA (cAff a0 p c)] I [] (zU  r):=by
 intro a0 r N I p c h;unfold uG at N;refine yN func114 λB=>?_;have H:=iS I;refine xH<|mN (cAff a0 p c) ?_;intro b hb;refine sG [] []<|zE<|yK ?_;refine tA N [] (λt2=>[(2,.bool t2)]) (λo0 aC=>?_) ?_
 ·have H:=iS I;refine zF<|yE 5 [0] [7] rfl<|uF [7] aC ?_ ?_
  ·intro hc N;refine yE 7 [0] [9] rfl<|bE N λy hy N=>pE (eI a0.Const _ hy ) ?_;intro aQ le;have ⟨h,H⟩:=m2 le h H;refine yE 10 [] [12] rfl<|uF [12] N ?_ ?_
   ·intro aG N;refine yE 12 [0] [14] rfl ?_;have hf0:FV1 Tryz.prog aQ [] (.func (.func 178) ⟨[]⟩ ⟨[]⟩) wE:=by
     refine FV1.intro ?_;intro I1 ah x0 r u0 hF k0;obtain rfl:=k0;exact(mB x0 r hF ).mono (by rintro k i hs u ⟨v0,rfl,rfl,h⟩;exact⟨rfl,h⟩)
    obtain⟨y1,aA,N⟩:=zC N;refine xT (qO a0.Coefs wE _ aA h hf0) ?_;rintro aW aw v2 k2 ah - ⟨v01,rfl,rfl,rfl⟩ -;have H:=H.trans ah;exact yO [] [2] rfl<|pD zN<|xC<|zL (ct N H)
   intro aG N;exact sG [] [(2,vF)]<|pD zN<|xC<|zL (ct N H)
  intro hc N;exact sG [] [(2,vF)]<|pD zN<|xC<|zL (ct N H)
 intro t2 I0 aH aN;refine zE<|xL ?_;obtain rfl:=zD aN;exact tD
def vR(r:Int):KT:=λkk I' af v=>
 ∃v0,af=[]/\v=tupV [v0]/\v0=.int .i64 r
def xS(a0:zA)(n0:Int):Option (Int):=do
 let t17<-(do
  if(decide (n0>0)) then
   let x<-idx a0.Coefs (W (n0 - 1))
   pure (x==0)
  else
   pure false
    : Option Bool)
 if t17 then
  xS a0 (W (n0 - 1))
 else
  pure (id n0)
 partial_fixpoint
theorem oR(a0:zA):∀(n0:Int) (o:Int),xS a0 n0=some o->∀{B}{I0 I:Imm}{Q p c}{b:Nat},I0.le I->(S4 I p a0.Coefs c)->NG Q->NO Q->(∀(I':Imm) (n01:Int),o=n01->I0.le I'->T 21 B Q (.exit 0) I' [] [(3,vI n01)])->J Tryz.prog 21 B (nav (bodyOf f115) [1,1,0,0]) Q I [hB b (cAff a0 p c)] [(1,vP b 0),(3,vI n0)]:=by
 refine xS.partial_correctness a0 _ λaO ih n0 o N B I0 I Q p c b H h hg ho hx=>wI hg ho<|yK<|yK ?_;refine tA N [hB b (cAff a0 p c)] (λt17=>[(1,vP b 0),(3,vI n0),(17,.bool t17)]) (λo0 aC=>?_) ?_
 ·have H:=iS I;refine zF<|yE 3 [] [9] rfl<|uF [9] aC ?_ ?_
  ·intro hc N;refine yE 7 [0] [11,13] rfl<|bE N λx hy N=>tO rfl rfl h hy ?_;intro ad az au al;obtain rfl:=al;exact tN 0 au [vI x] (vI x) rfl<|yO [] [17] rfl<|xC<|zL (ct N H)
  intro hc N;exact sG [] [(17,vF)]<|xC<|zL (ct N H)
 intro t17 I0 le aN;have ⟨h,H⟩:=m2 le h H;refine zE<|yI aN ?_ ?_
 ·intro aG N;exact zO<|sR<|zF<|yO [] [3] rfl<|zJ<|wD<|kK<|ih (W (n0 - 1)) _ N H h hg ho hx
 intro aG N;exact rG<|pD zN<|xC<|hx _ _ (zD N).symm H
def tB(a0:zA):Option (Int):=do
 let n01<-xS a0 (a0.Coefs.length:Int)
 pure (id n01)
theorem mO:∀a0 r,tB a0=some r->∀{I:Imm}{p c},(S4 I p a0.Coefs c)->RT 115 [vA (cAff a0 p c)] I [] (vR  r):=by
 intro a0 r N I p c h;unfold tB at N;refine yN func115 λB=>xH<|mN (cAff a0 p c) ?_;intro b hb;refine sG [] []<|xF<|yO [0] [3] rfl<|yC<|xK<|pY [(1,vP b 0),(3,vI (a0.Coefs.length:Int))] ?_;obtain⟨aI,aB,aM⟩:=zC N;refine oR a0 (a0.Coefs.length:Int) aI aB iR h (λ_ _ _ h=>h) (λ_ _ h=>h) ?_;intro aQ n01 heq1 ah;subst aI;refine zR<|sH [2] rfl<|zE<|xL ?_;obtain rfl:=zD aM;exact tD
def wT(a0:zA)(x:Int):Option (Bool):=do
 let t3<-(do
  let y<-uG a0
  if(!y) then
   pure true
  else
   let y1<-tB a0
   pure (decide (y1>x))
    : Option Bool)
 pure (id t3)
theorem jF:∀a0 x r,wT a0 x=some r->∀{I:Imm}{p c}{ad:Addr},(S4 I p a0.Coefs c)->(At I ad [vI x])->RT 113 [vA (cAff a0 p c),.pointer (some ad)] I [] (zU  r):=by
 intro a0 x r N I p c ad h au;unfold wT at N;refine yN func113 λB=>?_;have H:=iS I;refine xH<|mN (cAff a0 p c) ?_;intro b hb;refine sG [] []<|zE<|yK ?_;refine tA N [] (λt3=>[(3,.bool t3)]) (λo0 aC=>?_) ?_
 ·have H:=iS I;obtain⟨y,hy,N⟩:=zC aC;cases hc:(!y) with
  | true=>
   have hM0:=zAs hc N;refine qA [.p (vA (cAff a0 p c)) [0],.q (.bool y),.q vY,.q vY,.p undef [],.p undef [],.p undef [],.p undef [],.p vY []] [[],[(0,false)],[(1,false)],[(2,false)],[(3,false)],[(3,false),(4,false)],[(3,false)],[(3,false),(5,false),(6,false)],[(3,false),(7,false)]] [hB b (cAff a0 p c)] [] [(8,false)] (xN [0]) ?_ ?_
   ·refine Op<|Oq ?_<|Oq ?_<|Oq ?_<|Op<|Op<|Op<|Op<|Op<|On
    ·intro I1 hf ah;refine uS [4] rfl ?_;have H:=iS I1;have h:=h.mono ah;refine pE (rJ a0 _ hy h) ?_;intro aQ le;have H:=H.trans le;exact tP H
    ·intro I1 hf ah;refine uS [5] rfl<|R_p 3 [(6,.bool (!y))] ?_;rw[hc];exact tP iR
    intro I1 hf ah;exact I_h [(6,vY)]<|R_p 4 [(7,vY)]<|tP iR
   intro aW ah;refine I_h [(12,vY)] ?_;have H:=H.trans ah;exact sG [] [(3,vY)]<|pD zN<|xC<|zL (ct hM0 H)
  | false=>
   have hM01:=zAW hc N;obtain⟨y1,aA,N⟩:=zC hM01;refine qA [.p (vA (cAff a0 p c)) [0],.q (.bool y),.q vF,.q vF,.p (vA (cAff a0 p c)) [0],.q (vI y1),.q (vI x),.p (.bool (decide (y1>x))) [],.p (.bool (decide (y1>x))) []] [[],[(0,false)],[(1,false)],[(2,false)],[(3,false)],[(3,false),(4,false)],[(3,false)],[(3,false),(5,false),(6,false)],[(3,false),(7,false)]] [hB b (cAff a0 p c)] [] [(8,false)] (xN [0]) ?_ ?_
   ·refine Op<|Oq ?_<|Oq ?_<|Oq ?_<|Op<|Oq ?_<|Oq ?_<|Op<|Op<|On
    ·intro I1 hf ah;refine uS [4] rfl ?_;have H:=iS I1;have h:=h.mono ah;refine pE (rJ a0 _ hy h) ?_;intro aQ le;have H:=H.trans le;exact tP H
    ·intro I1 hf ah;refine uS [5] rfl<|R_p 3 [(6,.bool (!y))] ?_;rw[hc];exact tP iR
    ·intro I1 hf ah;exact I_h [(6,vF)]<|R_p 4 [(7,vF)]<|tP iR
    ·intro I1 hf ah;refine uS [7,8] rfl ?_;have H:=iS I1;have h:=h.mono ah;refine zDb (mO a0 _ aA h) ?_;intro a6 aH;have H:=H.trans aH;exact tP H
    intro I1 hf ah;refine uS [1,7] rfl ?_;have au:=au.mono ah;exact tN 0 au [vI x] (vI x) rfl<|tP iR
   intro bu aK;refine uS [12] rfl ?_;have H:=H.trans aK;exact yO [] [3] rfl<|pD zN<|xC<|zL (ct N H)
 intro t3 I0 aV aN;refine zE<|xL ?_;obtain rfl:=zD aN;exact tD
def tR(ai:(List zA))(ap:Int):Option (Bool):=do
 let t4<-(do
  let y<-tZ (ai.length:Int) 1 2
  if y then
   let y1<-yF ai (λx0=>wT x0 ap)
   pure (!y1)
  else
   pure false
    : Option Bool)
 pure (id t4)
theorem oT:∀ai ap r,tR ai ap=some r->∀{I:Imm}{p c},(S4 I p ai c)->RT 60 [vS p ai c,vI ap] I [] (zU  r):=by
 intro ai ap r N I p c h;unfold tR at N;refine yN func60 λB=>?_;have H:=iS I;refine xH<|mN [vI ap] ?_;intro b hb;refine uZ 0 rfl ?_;intro I0 le hl0;have au:At I0 ⟨b,0,none⟩ [vI ap]:=At.of_blk hl0;have ⟨h,H⟩:=m2 le h H;refine sG [] []<|zE<|yK ?_;refine tA N [] (λt4=>[(4,.bool t4)]) (λo0 aC=>?_) ?_
 ·have H:=iS I0;refine zF<|yE 2 [] [6] rfl ?_;obtain⟨y,hy,N⟩:=zC aC;refine pE (pI (ai.length:Int) 1 2 _ hy ) ?_;intro aW ah;have ⟨h,au,H⟩:=m3 ah h au H;refine yE 4 [] [8] rfl<|uF [8] N ?_ ?_
  ·intro hc N;refine yE 6 [] [9,10] rfl ?_;have hf0:FV1 Tryz.prog aW [] (.func (.func 113) ⟨[]⟩ ⟨[vP b 0]⟩) (λx0=>wT x0 ap):=by
    refine FV1.intro ?_;intro I1 ah x0 r u0 hF k0;obtain⟨_,rfl,k0⟩:=k0;obtain⟨p1,c1,rfl,h2⟩:=yB k0;exact(jF x0 ap r hF h2 (au.mono ah)).mono (by rintro k i hs u ⟨v0,rfl,rfl,h⟩;exact⟨rfl,h⟩)
   obtain⟨y1,aA,N⟩:=zC N;refine xT (sB ai (λx0=>wT x0 ap) _ aA h hf0) ?_;rintro a6 aw v2 k2 aH - ⟨v02,rfl,rfl,rfl⟩ -;have H:=H.trans aH;exact yO [] [4] rfl<|xC<|zL (ct N H)
  intro hc N;exact sG [] [(4,vF)]<|xC<|zL (ct N H)
 intro t4 aQ aK aN;refine zE<|xL ?_;obtain rfl:=zD aN;exact tD
def wP(ae:(List zB))(t7:Int):Option (Out Unit (Bool)):=do
 if(decide (t7<(ae.length:Int))) then
  let x<-idx ae t7
  let t23<-(do
   let y<-tR x.Lo t7
   if(!y) then
    pure true
   else
    let y1<-tR x.Hi t7
    pure (!y1)
     : Option Bool)
  if t23 then
   pure (.ret false)
  else
   wP ae (W (t7+1))
 else
  pure (.done ())
 partial_fixpoint
theorem mP(ae:(List zB)):∀(t7:Int) (o:Out Unit (Bool)),wP ae t7=some o->∀{B}{I0 I:Imm}{Q p c},I0.le I->(S4 I p ae c)->NG Q->NO Q->(∀(I':Imm) ,o=(.done ())->I0.le I'->T 28 B Q (.exit 0) I' [] [(0,vS p ae c)])->(∀r I' af m',o=(.ret r)->I0.le I'->RS Tryz.prog f20 B (zU  r) I' af m'->T 28 B Q .ret I' af m')->J Tryz.prog 28 B (nav (bodyOf f20) [1,0,1,0]) Q I [] [(0,vS p ae c),(5,vS p ae c),(6,vI (ae.length:Int)),(7,vI t7)]:=by
 refine wP.partial_correctness ae _ λaO ih t7 o N B I0 I Q p c H h hg ho hx hr=>wI hg ho<|yL [8] rfl<|yC<|yI N ?_ ?_
 ·intro hc N;refine zO<|yC<|xK<|xH<|yE 1 [] [9] rfl<|bE N λx hy N=>tO rfl rfl h hy ?_;intro ad az au al;obtain⟨p1,c1,p2,c2,rfl,h1,h2⟩:=yZ al;refine tN 0 au (cLoop x p1 c1 p2 c2) (vA (cLoop x p1 c1 p2 c2)) rfl<|rF zTwo ?_;intro b hb;refine yE 5 [] [3] rfl<|uE 0 (cLoop x p1 c1 p2 c2) rfl<|xA rfl<|zE<|yK ?_;refine tA N [] (λt23=>[(0,vS p ae c),(5,vS p ae c),(6,vI (ae.length:Int)),(7,vI t7),(23,.bool t23)]) (λo0 aC=>?_) ?_
  ·have H:=iS I;refine zF<|yE 3 [0] [13,14] rfl ?_;obtain⟨y,aA,N⟩:=zC aC;refine pE (oT x.Lo t7 _ aA h1) ?_;intro aQ le;have ⟨h2,H⟩:=m2 le h2 H;refine yE 6 [] [17] rfl<|uF [17] N ?_ ?_
   ·intro aG N;exact sG [] [(23,vY)]<|pD zN<|xC<|zL (ct N H)
   intro aG N;refine yE 9 [0] [19,20] rfl<|bE N λy1 aL N=>pE (oT x.Hi t7 _ aL h2) ?_;intro aW ah;have H:=H.trans ah;exact yO [] [23] rfl<|pD zN<|xC<|zL (ct N H)
  intro t23 I0 aH aN;have ⟨h,H⟩:=m2 aH h H;refine zE<|yI aN ?_ ?_
  ·intro aR N;exact vO [(2,vF)]<|vG<|yD<|zG<|zG<|hr _ _ _ _ (zD N).symm H ⟨_,_,(.tmp rfl ResV.nil),zN,⟨_,rfl,rfl,rfl⟩⟩
  intro aR N;exact zO<|zJ<|zE<|zF<|yO [] [7] rfl<|wD<|kK<|ih (W (t7+1)) _ N H h hg ho hx hr
 intro hc N;exact rG<|xC<|hx _  (zD N).symm H
def vH(ae:(List zB)):Option (Bool):=do
 match<-wP ae 0 with
 | .ret r0=>pure r0
 | .done _=>
  pure (decide ((ae.length:Int)<=4))
theorem rA:∀ae r,vH ae=some r->∀{I:Imm}{p c},(S4 I p ae c)->RT 20 [vS p ae c] I [] (zU  r):=by
 intro ae r N I p c h;unfold vH at N;refine yN func20 λB=>vO []<|yC<|yL [5,6,7] rfl<|sR<|pY [(0,vS p ae c),(5,vS p ae c),(6,vI (ae.length:Int)),(7,vI 0)] ?_;obtain⟨aI,aB,aM⟩:=zC N;refine mP ae 0 aI aB iR h (λ_ _ _ h=>h) (λ_ _ h=>h) ?_ ?_
 ·intro a6  heq1 aK;subst aI;refine zR<|sH [2] rfl<|zE<|xL ?_;obtain rfl:=zD aM;exact tD
 intro r0 I9 hs9 m9 aT le9 aU;subst aT;refine yD<|zG ?_;obtain rfl:=zD aM;exact wJ aU
def kN(r:Int×Int):KT:=λkk I' af v=>
 ∃v0 v1,af=[]/\v=tupV [v0,v1]/\v0=.int .i64 r.1/\v1=.int .i64 r.2
end Go.LN
