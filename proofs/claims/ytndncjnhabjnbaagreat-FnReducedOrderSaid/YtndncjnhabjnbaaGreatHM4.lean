/- Helper of the proof (see the last text). -/
import Derived.Test.YtndncjnhabjnbaaGreatHM3
set_option linter.unusedVariables false
set_option linter.unusedSimpArgs false
namespace Go.LN
open Go.Proofs Go.Proofs.Tryz
set_option maxRecDepth 20000
def zFm(r:zA×Int):KT:=λkk I' ag v=>
 ∃v0 v1,ag=[]/\v=tupV [v0,v1]/\(∃cs,v0=.agg ⟨cs⟩/\Rp.rep I' cs r.1)/\v1=.int .i64 r.2
def dI(a0:zA)(s:Str)(at0:Int):Option (zA×Int):=do
 let b2<-sidx s at0;let sign<-(do
  if((b2.toNat:Int)==45) then pure (-1)
  else
   pure (id 1)
    : Option Int)
 let t27<-(do
  let b3<-sidx s at0;if((b3.toNat:Int)==45) then pure true
  else
   let b4<-sidx s at0;pure ((b4.toNat:Int)==43)
    : Option Bool)
 let at01<-(do
  if t27 then pure (W (at0+1))
  else
   pure (id at0)
    : Option Int)
 let (y1,y2)<-jO s at01;let t51<-(do
  if(decide (y2>at01)) then
   if(decide (y2<(s.l.length:Int))) then
    let b5<-sidx s y2;pure ((b5.toNat:Int)==42)
   else pure false
  else
   pure false
    : Option Bool)
 let star<-(do
  if t51 then pure (W (y2+1))
  else
   pure (id y2)
    : Option Int)
 let y3<-zAG s star;let l<-app 8 ([]:List Int) a0.Coefs;let t75<-(do
  if(decide (y3>=0)) then
   if(decide (star>y2)) then pure true
   else pure (y2==at01)
  else
   pure false
    : Option Bool)
 if t75 then
  let x<-idx l y3;let x1<-idx l y3;let l1<-pure (l.set y3.toNat (W (x+(W (sign*y1)))));pure ((zA.mk l1 a0.Const),(W (star+1)))
 else
  if(y2==at01) then pure (a0,(-1))
  else pure ((zA.mk l (W (a0.Const+(W (sign*y1))))),y2)
theorem zHe:∀a0 s at0 r,dI a0 s at0=some r->∀{I:Imm}{p c},(S4 I p a0.Coefs c)->RT 195 [vA (cAff a0 p c),vT s.l,vI at0] I [] (zFm  r):=by
 intro a0 s at0 r N I p c h;unfold dI at N;refine yL func195 λB=>?_;have H:=iS I;refine yF<|vK (cAff a0 p c) ?_;intro b hb;refine wI [z0,vI 0] ?_;intro b1 hb1;refine wB [] []<|wV [8] rfl<|zZ<|yF<|yG 2 [] [14,15] rfl<|bE N λb2 hy N=>zB9 rfl rfl hy<|yK [] [17] rfl<|zG ?_;refine wK N [hB b1 [z0,vI 0],hB b (cAff a0 p c)] (λsign=>[(1,vT s.l),(2,vI at0),(3,vP b 0),(6,vP b1 0),(8,vI sign)]) (λo0 aA=>?_) ?_
 ·have H:=iS I;refine yE aA ?_ ?_
  ·intro hc N;exact zJ<|yK [] [8] rfl<|yS<|zV (ct N H)
  intro hc N;exact zT<|yS<|zV (ct N H)
 intro sign I0 le aQ;have ⟨h,H⟩:=m2 le h H;refine zZ<|yB ?_;refine wK aQ [hB b1 [z0,vI 0],hB b (cAff a0 p c)] (λt27=>[(1,vT s.l),(2,vI at0),(3,vP b 0),(6,vP b1 0),(8,vI sign),(27,.bool t27)]) (λaO aB=>?_) ?_
 ·have H:=iS I0;refine zJ<|yG 2 [] [18,19] rfl ?_;obtain⟨b3,ay,N⟩:=zB aB;refine zB9 rfl rfl ay<|yG 5 [] [22] rfl<|xZ [22] N ?_ ?_
  ·intro aE N;exact wB [] [(27,vY)]<|yS<|zV (ct N H)
  intro aE N;exact yG 7 [] [23,24] rfl<|bE N λb4 aF N=>zB9 rfl rfl aF<|yK [] [27] rfl<|yS<|zV (ct N H)
 intro t27 aT aa hMc1;have ⟨h,H⟩:=m2 aa h H;refine zG ?_;refine wK hMc1 [hB b1 [z0,vI 0],hB b (cAff a0 p c)] (λat01=>[(1,vT s.l),(2,vI at01),(3,vP b 0),(6,vP b1 0),(8,vI sign)]) (λo02 ho02=>?_) ?_
 ·have H:=iS aT;refine yE ho02 ?_ ?_
  ·intro aV N;exact zJ<|yK [] [2] rfl<|yS<|zV (ct N H)
  intro aV N;exact zT<|yS<|zV (ct N H)
 intro at01 aP aD hMc2;have ⟨h,H⟩:=m2 aD h H;refine yW<|yG 2 [] [31,32] rfl ?_;obtain⟨⟨y1,y2⟩,aX,N⟩:=zB hMc2;refine xF (zCV s at01 _ aX ) ?_;rintro bx av v2 k2 aH - ⟨v0,v01,rfl,rfl,rfl,rfl⟩ -;have ⟨h,H⟩:=m2 aH h H;refine yK [] [9,10] rfl<|wV [11] rfl<|zZ<|yB ?_;refine wK N [hB b1 [z0,vI 0],hB b (cAff a0 p c)] (λt51=>[(1,vT s.l),(2,vI at01),(3,vP b 0),(6,vP b1 0),(8,vI sign),(9,vI y1),(10,vI y2),(11,vI y2),(51,.bool t51)]) (λo03 ho03=>?_) ?_
 ·have H:=iS bx;refine zJ<|yG 4 [] [40] rfl<|xZ [40] ho03 ?_ ?_
  ·intro bD N;refine yG 10 [] [46] rfl<|xZ [46] N ?_ ?_
   ·intro bM N;exact yG 12 [] [47,48] rfl<|bE N λb5 bk N=>zB9 rfl rfl bk<|yK [] [51] rfl<|yS<|zV (ct N H)
   intro bM N;exact wB [] [(51,vF)]<|yS<|zV (ct N H)
  intro bD N;exact wB [] [(51,vF)]<|yS<|zV (ct N H)
 intro t51 bI bf hMc3;have ⟨h,H⟩:=m2 bf h H;refine zG ?_;refine wK hMc3 [hB b1 [z0,vI 0],hB b (cAff a0 p c)] (λstar=>[(1,vT s.l),(2,vI at01),(3,vP b 0),(6,vP b1 0),(8,vI sign),(9,vI y1),(10,vI y2),(11,vI star)]) (λo04 ho04=>?_) ?_
 ·have H:=iS bI;refine yE ho04 ?_ ?_
  ·intro hc5 N;exact zJ<|yK [] [11] rfl<|yS<|zV (ct N H)
  intro hc5 N;exact zT<|yS<|zV (ct N H)
 intro star bL bu hMc4;have ⟨h,H⟩:=m2 bu h H;refine yW<|yG 2 [] [54,55] rfl ?_;obtain⟨y3,bC,N⟩:=zB hMc4;refine eO (zI9 s star _ bC ) ?_;intro I06 bG;have ⟨h,H⟩:=m2 bG h H;refine yK [] [12] rfl<|zZ<|bE N λl hy6 N=>wA [.x (λI' v hx=>∃b6,v=vS (some ⟨b6,0,none⟩) ([]:List Int) 0/\hx=[hO Int (vS (some ⟨b6,0,none⟩) ([]:List Int) 0) []]/\(RL I' [] ([]:List Int))),.p (vP b 0) [],.p (vS p a0.Coefs c) [1],.x (λI' v hx=>∃p1 c1 cs,v=vS p1 l c1/\hx=[hO Int (vS p1 l c1) cs]/\(RL I' cs l)),.p (vP b 1) [],.p (vI a0.Const) [1],.x (λI' v hx=>∃aR bh az,v=vA [vS aR l bh,vI a0.Const]/\hx=[hO Int (vS aR l bh) az]/\(RL I' az l)),.x (λI' v hx=>∃b7,v=vP b7 0/\hx=[hB b7 [z0,vI 0]])] [[],[],[(1,false)],[(0,true),(2,false)],[],[(4,false)],[(3,true),(5,false)],[]] [hB b1 [z0,vI 0],hB b (cAff a0 p c)] [] [(6,true),(7,true)] (zY [0,1]) ?_ ?_
 ·refine Ox ?_<|O2<|Ox ?_<|O2<|Ox ?_<|Ox ?_<|On
  ·intro I1 hf aa;refine eN []<|uP [] Int ?_;intro b6 hb2;have h4:RL I1 [] ([]:List Int):=rfl;exact yM [hO Int (vS (some ⟨b6,0,none⟩) ([]:List Int) 0) []] iR ⟨_,rfl,rfl,h4⟩
  ·rintro I1 hf aa _ _ ⟨b6,rfl,rfl,h4⟩;refine yP [57,59] rfl ?_;have h:=h.mono aa;obtain⟨aN,k0,k01⟩:=h;have h:SL I1 (vS p a0.Coefs c) a0.Coefs:=⟨_,k0,k01⟩;exact qA 3 1 0 rfl rfl rfl h4 (.inl k0) k01 hy6 λp1 c1 cs h5=>uD (ag:=(hO Int (vS p1 l c1) cs::hB b1 [z0,vI 0]::hB b (cAff a0 p c)::hf)) rfl<|yM [hO Int (vS p1 l c1) cs] iR ⟨_,_,_,rfl,rfl,h5⟩
  ·rintro I1 hf aa _ _ ⟨p1,c1,cs,rfl,rfl,h5⟩;exact yP [60,62] rfl<|tD 7 [(63,vA [vS p1 l c1,vI a0.Const])]<|yM [hO Int (vS p1 l c1) cs] iR ⟨_,_,_,rfl,rfl,h5⟩
  intro I1 hf aa;refine eN []<|wI [z0,vI 0] ?_;intro b7 hb3;exact yM [hB b7 [z0,vI 0]] iR ⟨_,rfl,rfl⟩
 rintro I07 le7 _ _ ⟨aR,bh,az,rfl,rfl,h51⟩ _ _ ⟨b7,rfl,rfl⟩;refine yP [2,3,6,8,9,10,11,12,13,63] rfl ?_;have ⟨h,H⟩:=m2 le7 h H;refine xI 0 [vS aR l bh,vI a0.Const] rfl<|yA rfl<|zZ<|yB ?_;refine wK N [hB b7 [vS aR l bh,vI a0.Const],hO Int (vS aR l bh) az,hB b1 [z0,vI 0],hB b (cAff a0 p c)] (λt75=>[(2,vI at01),(3,vP b 0),(6,vP b1 0),(8,vI sign),(9,vI y1),(10,vI y2),(11,vI star),(12,vI y3),(13,vP b7 0),(75,.bool t75)]) (λo05 ho05=>?_) ?_
 ·have H:=iS I07;refine zJ<|yG 3 [] [66] rfl<|xZ [66] ho05 ?_ ?_
  ·intro hc6 N;refine yG 7 [] [70] rfl<|xZ [70] N ?_ ?_
   ·intro hc7 N;exact wB [] [(75,vY)]<|yS<|zV (ct N H)
   intro hc7 N;exact yK [] [75] rfl<|yS<|zV (ct N H)
  intro hc6 N;exact wB [] [(75,vF)]<|yS<|zV (ct N H)
 intro t75 I08 le8 hMc5;have ⟨h51,h⟩:=m2 le8 h51 h;refine zG<|yE hMc5 ?_ ?_
 ·intro hc8 N;refine yB<|bE N λx hy7 N=>wA [.p (vP b7 0) [],.p (vS aR l bh) [0],.p (vI y3) [],.p (vP b7 0) [],.p (vS aR l bh) [0],.p (vI y3) [],.x (λI' v hx=>∃ad,v=.pointer (some ad)/\hx=[]/\(AtO (vS aR l bh) (Rp.sz Int) y3.toNat ad)/\((az.drop (y3.toNat*Rp.sz Int)).take (Rp.sz Int)=[vI x])),.q (vI x),.p (vI sign) [],.p (vI y1) [],.p (vI (W (sign*y1))) [],.p (vI (W (x+(W (sign*y1))))) []] [[],[(0,false)],[],[],[(3,false)],[],[(4,false),(5,false)],[(6,false)],[],[],[(8,false),(9,false)],[(7,false),(10,false)]] [hB b7 [vS aR l bh,vI a0.Const],hO Int (vS aR l bh) az,hB b1 [z0,vI 0],hB b (cAff a0 p c)] [] [(1,false),(2,false),(11,false)] (zY [0,1,2,3]) ?_ ?_
  ·refine O4<|O2<|Ox ?_<|Oq ?_<|O4<|On
   ·intro I1 hf aa;refine yP [80,81] rfl ?_;have h51:=iM aa h51;refine pF 1 rfl rfl rfl h51 hy7 ?_;intro ad bm ap bJ ak;obtain rfl:=ak;exact yM [] iR ⟨_,rfl,rfl,ap,bJ⟩
   rintro I1 hf aa _ _ ⟨ad,rfl,rfl,ap,bJ⟩;exact yP [82] rfl<|zBt 1 0 ap bJ [vI x] (vI x) rfl rfl<|yR iR
  intro I09 le9;refine yP [6,11,13,77,78,87] rfl ?_;have h51:=iM le9 h51;obtain⟨x1,hy8,N⟩:=zB N;refine pF 1 rfl rfl rfl h51 hy8 ?_;intro ad1 bO ar hcc1 au;obtain rfl:=au;obtain⟨l1,hy9,N⟩:=zB N;refine fP (c:=[vI (W (x+(W (sign*y1))))]) (x':=(W (x+(W (sign*y1))))) 1 0 rfl rfl rfl ar rfl rfl hcc1 (by kernel_rfl) (by kernel_rfl) (by kernel_rfl) h51 hy8 (by kernel_rfl) rfl ?_;rw[show l.set y3.toNat (W (x+(W (sign*y1))))=l1 from zD hy9];intro aM h6 hl0;rw[vE hl0];refine yA rfl<|yW<|sW 3 [0] [(89,vA [vS aR l1 bh,vI a0.Const]),(91,vI (W (star+1)))]<|xI 2 [vS aR l1 bh,vI a0.Const] rfl<|yK [] [7] rfl<|xD<|zH<|yZ 1 rfl ?_;intro bP le10 hl01;have h7:=SL.of_frozen hl01 le10 h6;exact xU N (resE 1 rfl rfl rfl) zM ⟨_,_,rfl,rfl,⟨_,rfl,(yT ⟨_,rfl,h7⟩)⟩,rfl⟩
 intro hc8 N;refine zT<|zZ<|yH [94] rfl<|zG<|yE N ?_ ?_
 ·intro hc9 N;refine yF<|sW 1 [3] [(95,vA (cAff a0 p c))]<|xI 2 (cAff a0 p c) rfl<|yK [] [7] rfl<|xD<|zH ?_;exact xU N (resE 2 rfl rfl rfl) zM ⟨_,_,rfl,rfl,⟨_,rfl,(yT ⟨_,rfl,h⟩)⟩,rfl⟩
 intro hc9 N;refine zT<|yW<|yG 7 [0] [101,102] rfl<|xI 0 [vS aR l bh,vI (W (a0.Const+(W (sign*y1))))] rfl<|yA rfl<|yW<|sW 2 [0] [(103,vA [vS aR l bh,vI (W (a0.Const+(W (sign*y1))))]),(104,vI y2)]<|xI 2 [vS aR l bh,vI (W (a0.Const+(W (sign*y1))))] rfl<|yK [] [7] rfl<|xD<|yZ 1 rfl ?_;intro bV le11 hl02;have h8:=SL.of_frozen hl02 le11 h51;exact xU N (resE 1 rfl rfl rfl) zM ⟨_,_,rfl,rfl,⟨_,rfl,(yT ⟨_,rfl,h8⟩)⟩,rfl⟩
def uN(n0:Int)(most:Int):Option (Bool):=do
 let t4<-(do
  if(decide (n0>=(W (0 - most)))) then pure (decide (n0<=most))
  else
   pure false
    : Option Bool)
 pure (id t4)
theorem zAe:∀n0 most r,uN n0 most=some r->∀{I:Imm} ,RT 160 [vI n0,vI most] I [] (zU  r):=by
 intro n0 most r N I;unfold uN at N;refine yL func160 λB=>?_;have H:=iS I;refine wL []<|zG<|yB ?_;refine wK N [] (λt4=>[(4,.bool t4)]) (λo0 aA=>?_) ?_
 ·have H:=iS I;refine zJ<|yG 5 [] [9] rfl<|xZ [9] aA ?_ ?_
  ·intro hc N;exact yK [] [4] rfl<|yS<|zV (ct N H)
  intro hc N;exact wB [] [(4,vF)]<|yS<|zV (ct N H)
 intro t4 I0 le aQ;refine zG<|yX ?_;obtain rfl:=zD aQ;exact wC
def vC(a0:zA)(i:Int):Option (Out Unit (Bool)):=do
 if(decide (i<(a0.Coefs.length:Int))) then
  let x<-idx a0.Coefs i;let y<-uN x 9;if(!y) then pure (.ret false)
  else vC a0 (W (i+1))
 else pure (.done ())
 partial_fixpoint
theorem zCj(a0:zA):∀(i:Int) (o:Out Unit (Bool)),vC a0 i=some o->∀{B}{I0 I:Imm}{Q p c}{b},I0.le I->(S4 I p a0.Coefs c)->NG Q->NO Q->(∀I',o=(.done ())->I0.le I'->T 27 B Q (.exit 0) I' [hB b (cAff a0 p c)] [(1,vP b 0)])->(∀r I' ag m',o=(.ret r)->I0.le I'->RS Tryz.prog f185 B (zU  r) I' ag m'->T 27 B Q .ret I' ag m')->J Tryz.prog 27 B (nav (bodyOf f185) [1,0,1,0]) Q I [hB b (cAff a0 p c)] [(1,vP b 0),(3,vI i)]:=by
 refine vC.partial_correctness a0 _ λaI ih i o N B I0 I Q p c b H h hg ho hx hr=>yV hg ho<|yB<|yF<|yK [0] [8] rfl<|zG<|yE N ?_ ?_
 ·intro hc N;refine zT<|zZ<|yI<|yF<|yG 3 [0] [12,13] rfl<|bE N λx hy N=>xK rfl rfl h hy ?_;intro ad aN ap ak;obtain rfl:=ak;refine xA 0 ap [vI x] (vI x) rfl<|bE N λy ay N=>vJ (zAe x 9 _ ay ) ?_;intro I0 le;have ⟨h,H⟩:=m2 le h H;refine yK [] [17] rfl<|zG<|yE N ?_ ?_
  ·intro aE N;exact wL [(2,vF)]<|xD<|zW<|zH<|zH<|hr _ _ _ _ (zD N).symm H ⟨_,_,(resT rfl),zM,⟨_,rfl,rfl,rfl⟩⟩
  intro aE N;exact zT<|zL<|zG<|zJ<|yK [] [3] rfl<|yU<|nD<|ih (W (i+1)) _ N H h hg ho hx hr
 intro hc N;exact wM<|yS<|hx _  (zD N).symm H
def uW(a0:zA):Option (Bool):=do
 match<-vC a0 0 with
 | .ret r0=>pure r0
 | .done _=>
  let t2<-(do
   if((a0.Coefs.length:Int)==4) then
    let y1<-uN a0.Const 99;pure (id y1)
   else
    pure false
     : Option Bool)
  pure (id t2)
theorem gU:∀a0 r,uW a0=some r->∀{I:Imm}{p c},(S4 I p a0.Coefs c)->RT 185 [vA (cAff a0 p c)] I [] (zU  r):=by
 intro a0 r N I p c h;unfold uW at N;refine yL func185 λB=>?_;have H:=iS I;refine yF<|vK (cAff a0 p c) ?_;intro b hb;refine wB [] []<|zZ<|yH [3] rfl<|xY<|pE [(1,vP b 0),(3,vI 0)] ?_;obtain⟨o0,aA,aG⟩:=zB N;refine zCj a0 0 o0 aA iR h nG nO ?_ ?_
 ·intro aT  heq aa;subst o0;have H:=H.trans aa;refine zS<|zG<|yB ?_;refine wK aG [] (λt2=>[(2,.bool t2)]) (λaO aB=>?_) ?_
  ·have H:=iS aT;refine zJ<|yG 5 [0] [22] rfl<|xZ [22] aB ?_ ?_
   ·intro aV N;refine yG 7 [0] [24] rfl<|bE N λy1 aF N=>vJ (zAe a0.Const 99 _ aF ) ?_;intro bx aD;have H:=H.trans aD;exact yK [] [2] rfl<|xW zM<|yS<|zV (ct N H)
   intro aV N;exact wB [] [(2,vF)]<|xW zM<|yS<|zV (ct N H)
  intro t2 aP aH aQ;refine zG<|yX ?_;obtain rfl:=zD aQ;exact wC
 intro r0 I9 hs9 m9 aW le9 aY;subst aW;refine zW<|zH ?_;obtain rfl:=zD aG;exact fO aY
def sI(r:Str):KT:=λkk I' ag v=>
 ∃v0,ag=[]/\v=tupV [v0]/\v0=.string ⟨⟨r.l⟩⟩
def nQ(n01:Int)(out:Str):Option ((Int×Str)):=do
 if(decide (n01>9)) then
  let s1<-cat (⟨([(u8 (W (48+(n01.tmod 10))))]:List UInt8)⟩:Str) out;nQ (W (n01.tdiv 10)) s1
 else pure (n01,out)
 partial_fixpoint
theorem zFn :∀(n01:Int) (out:Str) (o:(Int×Str)),nQ n01 out=some o->∀{B}{I0 I:Imm}{Q}  ,I0.le I->NG Q->NO Q->(∀I' n02 aj,o=(n02,aj)->I0.le I'->T 31 B Q (.exit 0) I' [] [(0,vI n02),(3,vT aj.l)])->J Tryz.prog 31 B (nav (bodyOf f169) [1,1,1,1,0,0]) Q I [] [(0,vI n01),(3,vT out.l)]:=by
 refine nQ.partial_correctness  _ λaI ih n01 out o N B I0 I Q H hg ho hx=>yV hg ho<|yB<|yH [13] rfl<|zG<|yE N ?_ ?_
 ·intro aV N;refine zT<|xY<|yF<|yG 3 [] [16] rfl<|zQm (d:=17) (i:=(W (48+(n01.tmod 10)))) rfl (by kernel_rfl)<|uP [.int .u8 ((u8 (W (48+(n01.tmod 10)))).toNat:Int)] UInt8 ?_;intro b hb;have h1:RL I [.int .u8 ((u8 (W (48+(n01.tmod 10)))).toNat:Int)] ([(u8 (W (48+(n01.tmod 10))))]:List UInt8):=⟨[.int .u8 ((u8 (W (48+(n01.tmod 10)))).toNat:Int)],_,rfl,rfl,rfl,rfl⟩;exact zM8 (l:=([(u8 (W (48+(n01.tmod 10))))]:List UInt8)) rfl rfl rfl rfl (by kernel_rfl) (by kernel_rfl) (.inr ⟨0,rfl⟩) h1<|yG 7 [] [20] rfl<|bE N λs1 aF N=>gW rfl aF<|yK [] [3] rfl<|zG<|zJ<|yK [] [0] rfl<|zL<|yU<|jS zM<|nD<|ih (W (n01.tdiv 10)) s1 _ N H  hg ho hx
 intro aV N;exact wM<|yS<|hx _ _ _ (zD N).symm H
def qV(n0:Int):Option (Str):=do
 if(decide (n0<(-9223372036854775807))) then pure (⟨[45,57,50,50,51,51,55,50,48,51,54,56,53,52,55,55,53,56,48,56]⟩:Str)
 else
  if(decide (n0<0)) then
   let y<-qV (W (0 - n0));let s<-cat (⟨[45]⟩:Str) y;pure (id s)
  else
   let (n02,aj)<-nQ n0 (⟨[]⟩:Str);let s2<-cat (⟨([(u8 (W (48+n02)))]:List UInt8)⟩:Str) aj;pure (id s2)
 partial_fixpoint
theorem zA3:∀n0 r,qV n0=some r->∀{I:Imm} ,RT 169 [vI n0] I [] (sI  r):=by
 refine qV.partial_correctness _ λF_spec_l16Dec ih_spec_l16Dec n0 r N I=>yL func169 λB=>wL []<|zZ<|yH [5] rfl<|zG<|yE N ?_ ?_
 ·intro hc N;refine yH [2] rfl<|xD<|zH ?_;obtain rfl:=zD N;exact wC
 intro hc N;refine zT<|zZ<|yH [7] rfl<|zG<|yE N ?_ ?_
 ·intro aE N;refine yF<|yG 2 [] [9] rfl<|bE N λy hy N=>xF (ih_spec_l16Dec (W (0 - n0)) _ hy ) ?_;rintro I0 av v2 k2 le - ⟨v0,rfl,rfl,rfl⟩ -;obtain⟨s,ay,N⟩:=zB N;refine gW rfl ay<|yK [] [2] rfl<|xD<|zH ?_;obtain rfl:=zD N;exact wC
 intro aE N;refine zT<|wV [3] rfl<|zZ<|yI<|pE [(0,vI n0),(3,vT ([]))] ?_;obtain⟨o0,aA,aG⟩:=zB N;refine zFn n0 (⟨[]⟩:Str) o0 aA iR  nG nO ?_;intro aT n02 aj heq aa;subst o0;refine zS<|yW<|yG 2 [] [25] rfl<|zQm (d:=26) (i:=(W (48+n02))) rfl (by kernel_rfl)<|uP [.int .u8 ((u8 (W (48+n02))).toNat:Int)] UInt8 ?_;intro b1 hb1;have h2:RL aT [.int .u8 ((u8 (W (48+n02))).toNat:Int)] ([(u8 (W (48+n02)))]:List UInt8):=⟨[.int .u8 ((u8 (W (48+n02))).toNat:Int)],_,rfl,rfl,rfl,rfl⟩;refine zM8 (l:=([(u8 (W (48+n02)))]:List UInt8)) rfl rfl rfl rfl (by kernel_rfl) (by kernel_rfl) (.inr ⟨0,rfl⟩) h2<|yG 6 [] [29] rfl ?_;obtain⟨s2,aX,N⟩:=zB aG;refine gW rfl aX<|yK [] [2] rfl<|zG<|yX ?_;obtain rfl:=zD N;exact wC
def eH(n0:Int)(name:Str):Option (Str):=do
 let (n01,sign)<-(do
  if(decide (n0<0)) then pure ((W (0 - n0)),(⟨[45]⟩:Str))
  else
   pure (n0,(⟨[43]⟩:Str))
    : Option (Int×Str))
 if(name.l==([]:List UInt8)) then
  let y<-qV n01;let s<-cat sign y;pure (id s)
 else
  if(n01==1) then
   let s1<-cat sign name;pure (id s1)
  else
   let y1<-qV n01;let s2<-cat sign y1;let s3<-cat s2 (⟨[42]⟩:Str);let s4<-cat s3 name;pure (id s4)
theorem zDd:∀n0 name r,eH n0 name=some r->∀{I:Imm} ,RT 203 [vI n0,vT name.l] I [] (sI  r):=by
 intro n0 name r N I;unfold eH at N;refine yL func203 λB=>?_;have H:=iS I;refine wL []<|wV [5] rfl<|zZ<|yH [7] rfl<|zG ?_;obtain⟨o0,aA,aQ⟩:=zB N;refine qQ (λI' ag m'=>∃(n01:Int) (sign:Str),o0=(n01,sign)/\I.le I'/\ag=[]/\m'=[(0,vI n01),(1,vT name.l),(5,vT sign.l)]) ?_ ?_
 ·have H:=iS I;refine yE aA ?_ ?_
  ·intro hc N;exact yH [5] rfl<|zG<|zJ<|yK [] [0] rfl<|yS<|zV ⟨_,_,(zD N).symm,H,rfl,rfl⟩
  intro hc N;exact zT<|yS<|zV ⟨_,_,(zD N).symm,H,rfl,rfl⟩
 rintro I0 av m2 ⟨n01,sign,heq,le,rfl,rfl⟩;subst o0;refine zZ<|yH [11] rfl<|zG<|yE aQ ?_ ?_
 ·intro aE N;refine yF<|yG 2 [] [12,13] rfl<|bE N λy hy N=>xF (zA3 n01 _ hy ) ?_;rintro aT av v2 k2 aa - ⟨v0,rfl,rfl,rfl⟩ -;obtain⟨s,ay,N⟩:=zB N;refine gW rfl ay<|yK [] [4] rfl<|xD<|zH ?_;obtain rfl:=zD N;exact wC
 intro aE N;refine zT<|zZ<|yH [17] rfl<|zG<|yE N ?_ ?_
 ·intro aV N;refine yF<|yG 2 [] [18,19] rfl<|bE N λs1 aF N=>gW rfl aF<|yK [] [4] rfl<|xD<|zH ?_;obtain rfl:=zD N;exact wC
 intro aV N;refine zT<|yW<|yG 2 [] [21,22] rfl<|bE N λy1 aX N=>xF (zA3 n01 _ aX ) ?_;rintro aP av v2 k2 aD - ⟨v01,rfl,rfl,rfl⟩ -;obtain⟨s2,bk,N⟩:=zB N;refine gW rfl bk<|bE N λs3 bC N=>gW rfl bC<|yG 6 [] [26] rfl<|bE N λs4 hy6 N=>gW rfl hy6<|yK [] [4] rfl<|zG<|yX ?_;obtain rfl:=zD N;exact wC
def nR(a0:zA)(out:Str)(i:Int):Option (Str):=do
 if(decide (i<(a0.Coefs.length:Int))) then
  let x<-idx a0.Coefs i;let aq<-(do
   if(x != 0) then
    let x1<-idx a0.Coefs i;let s<-sslc (⟨[105,106,107,108]⟩:Str) i (W (i+1));let y<-eH x1 s;let s1<-cat out y;pure (id s1)
   else
    pure (id out)
     : Option Str)
  nR a0 aq (W (i+1))
 else pure (id out)
 partial_fixpoint
theorem zFo(a0:zA):∀(out:Str) (i:Int) (o:Str),nR a0 out i=some o->∀{B}{I0 I:Imm}{Q p c}{b},I0.le I->(S4 I p a0.Coefs c)->NG Q->NO Q->(∀I' aj,o=aj->I0.le I'->T 46 B Q (.exit 0) I' [hB b (cAff a0 p c)] [(1,vP b 0),(3,vT aj.l)])->J Tryz.prog 46 B (nav (bodyOf f193) [1,1,0,1,0]) Q I [hB b (cAff a0 p c)] [(1,vP b 0),(3,vT out.l),(4,vI i)]:=by
 refine nR.partial_correctness a0 _ λaI ih out i o N B I0 I Q p c b H h hg ho hx=>yV hg ho<|yB<|yF<|yK [0] [9] rfl<|zG<|yE N ?_ ?_
 ·intro hc N;refine zT<|zZ<|yI<|yF<|yG 3 [0] [13,14] rfl<|bE N λx hy N=>xK rfl rfl h hy ?_;intro ad aN ap ak;obtain rfl:=ak;refine xA 0 ap [vI x] (vI x) rfl<|yK [] [17] rfl<|zG ?_;refine wK N [hB b (cAff a0 p c)] (λaq=>[(1,vP b 0),(3,vT aq.l),(4,vI i)]) (λo0 aA=>?_) ?_
  ·have H:=iS I;refine yE aA ?_ ?_
   ·intro aE N;obtain⟨x1,ay,N⟩:=zB N;obtain⟨s,aF,N⟩:=zB N;obtain⟨y,aX,N⟩:=zB N;obtain⟨s1,bk,N⟩:=zB N;refine wA [.p (vT out.l) [],.p (vP b 0) [],.p (vS p a0.Coefs c) [0],.p (vI i) [],.x (λI' v hx=>∃ad1,v=.pointer (some ad1)/\hx=[]/\(At I' ad1 [vI x1])),.q (vI x1),.p (vI i) [],.p (vI i) [],.p (vI (W (i+1))) [],.q (vT s.l),.q (vT y.l),.q (vT s1.l)] [[],[],[(1,false)],[],[(2,false),(3,false)],[(4,false)],[],[],[(7,false)],[(6,false),(8,false)],[(5,false),(9,false)],[(0,false),(10,false)]] [hB b (cAff a0 p c)] [] [(11,false)] (zY [0]) ?_ ?_
    ·refine O4<|Ox ?_<|Oq ?_<|O3<|Oq ?_<|Oq ?_<|Oq ?_<|On
     ·intro I1 hf aa;refine yP [20,21] rfl ?_;have h:=h.mono aa;refine xK rfl rfl h ay ?_;intro ad1 bm ar au;obtain rfl:=au;exact yM [] iR ⟨_,rfl,rfl,ar⟩
     ·rintro I1 hf aa _ _ ⟨ad1,rfl,rfl,ar⟩;exact yP [22] rfl<|xA 0 ar [vI x1] (vI x1) rfl<|yR iR
     ·intro I1 hf aa;exact yP [24,26] rfl<|zJ2 rfl aF<|yR iR
     ·intro I1 hf aa;refine yP [23,27] rfl ?_;have H:=iS I1;refine xF (zDd x1 s _ aX ) ?_;rintro aT av v2 k2 le - ⟨v0,rfl,rfl,rfl⟩ -;have H:=H.trans le;exact yR H
     intro I1 hf aa;exact yP [18,28] rfl<|gW rfl bk<|yR iR
    intro aP aa;refine yP [1,4,29] rfl ?_;have H:=H.trans aa;exact yK [] [3] rfl<|yS<|zV (ct N H)
   intro aE N;exact zT<|yS<|zV (ct N H)
  intro aq I0 aD aQ;have ⟨h,H⟩:=m2 aD h H;exact zL<|zG<|zJ<|yK [] [4] rfl<|yU<|nD<|ih aq (W (i+1)) _ aQ H h hg ho hx
 intro hc N;exact wM<|yS<|hx _ _ (zD N).symm H
def gK(a0:zA):Option (Str):=do
 let aj<-nR a0 (⟨[]⟩:Str) 0;let aL<-(do
  if(a0.Const != 0) then
   let y1<-eH a0.Const (⟨[]⟩:Str);let s2<-cat aj y1;pure (id s2)
  else
   pure (id aj)
    : Option Str)
 if(aL.l==([]:List UInt8)) then pure (⟨[48]⟩:Str)
 else
  let s3<-sslc aL 0 1;if(s3.l==([43]:List UInt8)) then
   let s4<-sslc aL 1 (aL.l.length:Int);pure (id s4)
  else pure (id aL)
theorem zBX:∀a0 r,gK a0=some r->∀{I:Imm}{p c},(S4 I p a0.Coefs c)->RT 193 [vA (cAff a0 p c)] I [] (sI  r):=by
 intro a0 r N I p c h;unfold gK at N;refine yL func193 λB=>?_;have H:=iS I;refine yF<|vK (cAff a0 p c) ?_;intro b hb;refine wB [] []<|wV [3] rfl<|zZ<|yH [4] rfl<|xY<|pE [(1,vP b 0),(3,vT ([])),(4,vI 0)] ?_;obtain⟨aO,aB,aG⟩:=zB N;refine zFo a0 (⟨[]⟩:Str) 0 aO aB iR h nG nO ?_;intro bx aj heq1 aH;subst aO;have H:=H.trans aH;refine zS<|zZ<|yF<|yK [0] [32] rfl<|zG ?_;refine wK aG [] (λaL=>[(3,vT aL.l)]) (λo02 ho02=>?_) ?_
 ·have H:=iS bx;refine yE ho02 ?_ ?_
  ·intro aV N;refine zJ<|yG 3 [0] [33,35] rfl<|bE N λy1 bC N=>xF (zDd a0.Const (⟨[]⟩:Str) _ bC ) ?_;rintro bL av v2 k2 bf - ⟨v01,rfl,rfl,rfl⟩ -;have H:=H.trans bf;obtain⟨s2,hy6,N⟩:=zB N;exact gW rfl hy6<|yK [] [3] rfl<|xW zM<|yS<|zV (ct N H)
  intro aV N;exact zT<|xW zM<|yS<|zV (ct N H)
 intro aL bI bu hMc1;refine zZ<|yH [39] rfl<|zG<|yE hMc1 ?_ ?_
 ·intro bD N;refine yH [2] rfl<|xD<|zH ?_;obtain rfl:=zD N;exact wC
 intro bD N;refine zT<|zZ<|yF<|yG 1 [] [40] rfl<|bE N λs3 hy7 N=>zJ2 rfl hy7<|yK [] [42] rfl<|zG<|yE N ?_ ?_
 ·intro bM N;refine yF<|yG 1 [] [43] rfl<|bE N λs4 hy8 N=>zJ2 rfl hy8<|yK [] [2] rfl<|xD<|zH ?_;obtain rfl:=zD N;exact wC
 intro bM N;refine zT<|wV [2] rfl<|zG<|yX ?_;obtain rfl:=zD N;exact wC
def kI(a0:zA):Option (Str):=do
 let y<-uW a0;if(!y) then pure (⟨[]⟩:Str)
 else
  let y1<-gK a0;pure (id y1)
theorem zDe:∀a0 r,kI a0=some r->∀{I:Imm}{p c},(S4 I p a0.Coefs c)->RT 196 [vA (cAff a0 p c)] I [] (sI  r):=by
 intro a0 r N I p c h;unfold kI at N;refine yL func196 λB=>yF<|vK (cAff a0 p c) ?_;intro b hb;refine wB [] []<|zZ<|yF<|sW 1 [0] [(3,vA (cAff a0 p c))]<|bE N λy hy N=>vJ (gU a0 _ hy h) ?_;intro I0 le;have h:=h.mono le;refine yK [] [5] rfl<|zG<|yE N ?_ ?_
 ·intro hc N;refine yH [2] rfl<|xD<|zH ?_;obtain rfl:=zD N;exact wC
 intro hc N;refine zT<|yW<|sW 1 [0] [(6,vA (cAff a0 p c))]<|bE N λy1 ay N=>xF (zBX a0 _ ay h) ?_;rintro aT av v2 k2 aa - ⟨v01,rfl,rfl,rfl⟩ -;refine yK [] [2] rfl<|zG<|yX ?_;obtain rfl:=zD N;exact wC
def zDL(r:zA×Bool):KT:=λkk I' ag v=>
 ∃v0 v1,ag=[]/\v=tupV [v0,v1]/\(∃cs,v0=.agg ⟨cs⟩/\Rp.rep I' cs r.1)/\v1=.bool r.2
def qP(bq:Str)(at0:Int)(x:zA):Option (zA):=do
 let t18<-(do
  if(decide (at0>=0)) then pure (decide (at0<(bq.l.length:Int)))
  else
   pure false
    : Option Bool)
 if t18 then
  let (y2,y3)<-dI x bq at0;qP bq y3 y2
 else pure (id x)
 partial_fixpoint
theorem zCk(bq:Str):∀(at0:Int) (x:zA) (o:zA),qP bq at0 x=some o->∀{B}{I0 I:Imm}{Q}  {b b1}{p1 c1},I0.le I->(S4 I p1 x.Coefs c1)->NG Q->NO Q->(∀I' x1 p2 c2,o=x1->I0.le I'->(S4 I' p2 x1.Coefs c2)->T 32 B Q (.exit 0) I' [hB b1 (cAff x1 p2 c2),hB b [z0,vI 0]] [(0,vT bq.l),(2,vP b 0),(4,vP b1 0)])->J Tryz.prog 32 B (nav (bodyOf f181) [1,1,1,1,0,0]) Q I [hB b1 (cAff x p1 c1),hB b [z0,vI 0]] [(0,vT bq.l),(2,vP b 0),(4,vP b1 0),(5,vI at0)]:=by
 refine qP.partial_correctness bq _ λaI ih at0 x o N B I0 I Q b b1 p1 c1 H h2 hg ho hx=>yV hg ho<|yB<|yB ?_;refine wK N [hB b1 (cAff x p1 c1),hB b [z0,vI 0]] (λt18=>[(0,vT bq.l),(2,vP b 0),(4,vP b1 0),(5,vI at0),(18,.bool t18)]) (λo0 aA=>?_) ?_
 ·have H:=iS I;refine zJ<|yG 3 [] [13] rfl<|xZ [13] aA ?_ ?_
  ·intro aE N;exact yK [] [18] rfl<|yS<|zV (ct N H)
  intro aE N;exact wB [] [(18,vF)]<|yS<|zV (ct N H)
 intro t18 aP aD aQ;have ⟨h2,H⟩:=m2 aD h2 H;refine zG<|yE aQ ?_ ?_
 ·intro aV N;refine zT<|xY<|zJ<|sW 3 [0] [(20,vA (cAff x p1 c1)),(21,vT bq.l),(22,vI at0)] ?_;obtain⟨⟨y2,y3⟩,ay,N⟩:=zB N;refine xF (zHe x bq at0 _ ay h2) ?_;rintro bx av v2 k2 aH - ⟨v0,v01,rfl,rfl,⟨az,rfl,h4⟩,rfl⟩ -;have H:=H.trans aH;obtain⟨p3,c3,rfl,h6⟩:=yQ h4;exact yG 7 [] [24,25] rfl<|xI 0 (cAff y2 p3 c3) rfl<|yK [] [5] rfl<|zL<|yU<|nD<|ih y3 y2 _ N H h6 hg ho hx
 intro aV N;exact wM<|yS<|hx _ _ _ _ (zD N).symm H h2
def nS(bq:Str):Option (zA×Bool):=do
 let y<-mJ;if(decide ((bq.l.length:Int)>40)) then pure ((zA.mk ([]:List Int) 0),false)
 else
  let x1<-qP bq 0 (zA.mk y.Coefs y.Const);let y4<-kI x1;if(!(y4.l==bq.l)) then pure ((zA.mk ([]:List Int) 0),false)
  else pure (x1,true)
theorem zBE:∀bq r,nS bq=some r->∀{I:Imm} ,RT 181 [vT bq.l] I [] (zDL  r):=by
 intro bq r N I;unfold nS at N;refine yL func181 λB=>yF<|wI [z0,vI 0] ?_;intro b hb;refine wB [] []<|yW<|bE N λy hy N=>xF (fG  _ hy ) ?_;rintro I0 av v2 k2 le - ⟨p,c,cs,rfl,rfl,h⟩ -;refine wI [z0,vI 0] ?_;intro b1 hb1;refine xI 0 (cAff y p c) rfl<|yA rfl<|zZ<|yH [9] rfl<|zG<|yE N ?_ ?_
 ·intro hc N;refine yF<|yG 1 [] [10] rfl<|xI 2 [z0,vI 0] rfl<|wB [] [(3,vF)]<|xD<|zH ?_;exact xU N (resE 2 rfl rfl rfl) zM ⟨_,_,rfl,rfl,⟨_,rfl,(yT ⟨_,rfl,(SL.nil _)⟩)⟩,rfl⟩
 intro hc N;refine zT<|wV [5] rfl<|zZ<|yI<|mM 1 rfl ?_;intro aT aa hl0;have h1:=SL.of_frozen hl0 aa h;refine pE [(0,vT bq.l),(2,vP b 0),(4,vP b1 0),(5,vI 0)] ?_;obtain⟨aO,aB,aG⟩:=zB N;refine zCk bq 0 (zA.mk y.Coefs y.Const) aO aB iR h1 nG nO ?_;intro bI x1 p2 c2 heq1 bf h3;subst aO;refine zS<|zZ<|yF<|sW 1 [0] [(26,vA (cAff x1 p2 c2))] ?_;obtain⟨y4,aF,N⟩:=zB aG;refine xF (zDe x1 _ aF h3) ?_;rintro bL av v2 k2 bu - ⟨v03,rfl,rfl,rfl⟩ -;have h3:=h3.mono bu;refine yK [] [29] rfl<|zG<|yE N ?_ ?_
 ·intro bD N;refine yF<|yG 1 [] [30] rfl<|xI 1 [z0,vI 0] rfl<|wB [] [(3,vF)]<|xD<|zH ?_;exact xU N (resE 1 rfl rfl rfl) zM ⟨_,_,rfl,rfl,⟨_,rfl,(yT ⟨_,rfl,(SL.nil _)⟩)⟩,rfl⟩
 intro bD N;refine zT<|yW<|sW 1 [0] [(31,vA (cAff x1 p2 c2))]<|xI 1 (cAff x1 p2 c2) rfl<|wB [] [(3,vY)]<|zG<|yX ?_;exact xU N (resE 1 rfl rfl rfl) zM ⟨_,_,rfl,rfl,⟨_,rfl,(yT ⟨_,rfl,h3⟩)⟩,rfl⟩
def zDM(r:(List zA)):KT:=λkk I' ag v=>
 ∃v0,ag=[]/\v=tupV [v0]/\SL I' v0 r
def sU(y:(List Str))(out:List zA)(i:Int):Option (List zA):=do
 let t18<-(do
  if(decide (i<(y.length:Int))) then pure (decide (i<=2))
  else
   pure false
    : Option Bool)
 if t18 then
  let x<-idx y i;let (y2,y3)<-nS x;let aq<-app 32 out ([y2]:List zA);sU y aq (W (i+1))
 else pure (id out)
 partial_fixpoint
theorem zCl(y:(List Str)):∀(out:List zA) (i:Int) (o:List zA),sU y out i=some o->∀{B}{I0 I:Imm}{Q p c p1 c1 cs},I0.le I->(S4 I p y c)->(RL I cs out)->NG Q->NO Q->(∀I' aj p2 c2 az,o=aj->I0.le I'->(RL I' az aj)->T 34 B Q (.exit 0) I' [hO zA (vS p2 aj c2) az] [(3,vS p2 aj c2)])->J Tryz.prog 34 B (nav (bodyOf f180) [1,1,1,0,1,0]) Q I [hO zA (vS p1 out c1) cs] [(3,vS p1 out c1),(4,vS p y c),(5,vI i)]:=by
 refine sU.partial_correctness y _ λaI ih out i o N B I0 I Q p c p1 c1 cs H h1 h2 hg ho hx=>yV hg ho<|yB<|yB ?_;refine wK N [hO zA (vS p1 out c1) cs] (λt18=>[(3,vS p1 out c1),(4,vS p y c),(5,vI i),(18,.bool t18)]) (λo0 aA=>?_) ?_
 ·have H:=iS I;refine zJ<|yG 5 [] [15] rfl<|xZ [15] aA ?_ ?_
  ·intro hc N;exact yK [] [18] rfl<|yS<|zV (ct N H)
  intro hc N;exact wB [] [(18,vF)]<|yS<|zV (ct N H)
 intro t18 aT aa aQ;have ⟨h2,h1,H⟩:=m3 aa h2 h1 H;refine zG<|yE aQ ?_ ?_
 ·intro aE N;refine zT<|zZ<|yI<|yF<|yG 2 [] [22,23] rfl<|bE N λx ay N=>xK rfl rfl h1 ay ?_;intro ad aN ap ak;obtain rfl:=ak;refine xA 0 ap [vT x.l] (vT x.l) rfl ?_;obtain⟨⟨y2,y3⟩,aF,N⟩:=zB N;refine xF (zBE x _ aF ) ?_;rintro aP av v2 k2 aD - ⟨v01,v02,rfl,rfl,⟨aM,rfl,h4⟩,rfl⟩ -;have ⟨h2,h1,H⟩:=m3 aD h2 h1 H;obtain⟨p3,c3,rfl,h6⟩:=yQ h4;refine yG 8 [] [27,28] rfl<|wI [z0,vI 0] ?_;intro b1 hb1;refine xI 0 (cAff y2 p3 c3) rfl<|wB [] []<|zG<|zJ<|sW 2 [0] [(29,vS p1 out c1),(30,vA (cAff y2 p3 c3))]<|uP (cAff y2 p3 c3) zA ?_;intro b2 hb2;have h7:RL aP (cAff y2 p3 c3) ([y2]:List zA):=⟨(cAff y2 p3 c3),_,rfl,rfl,(yT ⟨_,rfl,h6⟩),rfl⟩;obtain⟨aq,aX,N⟩:=zB N;exact qA 78 2 2 rfl rfl rfl h2 (.inr ⟨0,rfl⟩) h7 aX λp4 c4 aU h8=>tX (zY [1,2] (ag:=[hB b1 (cAff y2 p3 c3),hO zA (vS p4 aq c4) aU]))<|yK [] [3] rfl<|zL<|zG<|zJ<|yK [] [5] rfl<|yU<|jS (zX [1] rfl (by decide))<|nD<|ih aq (W (i+1)) _ N H h1 h8 hg ho hx
 intro aE N;exact wM<|yS<|hx _ _ _ _ _ (zD N).symm H h2
def pO(bq:Str):Option ((List zA)):=do
 let y<-gJ bq (44:UInt8);let aj<-sU y ([]:List zA) 0;pure (id aj)
theorem zAC:∀bq r,pO bq=some r->∀{I:Imm} ,RT 180 [vT bq.l] I [] (zDM  r):=by
 intro bq r N I;unfold pO at N;refine yL func180 λB=>wL []<|yW<|uP [] zA ?_;intro b hb;have h:RL I [] ([]:List zA):=rfl;refine yK [] [3] rfl<|yW<|yG 1 [] [9] rfl<|bE N λy hy N=>xF (zBW bq (44:UInt8) _ hy ) ?_;rintro I0 av v2 k2 le - ⟨v0,rfl,rfl,h1⟩ -;have h:=iM le h;obtain⟨p,c,rfl⟩:=h1.form;refine yK [] [4] rfl<|zZ<|yH [5] rfl<|xY<|pE [(3,vS (some ⟨b,0,none⟩) ([]:List zA) 0),(4,vS p y c),(5,vI 0)] ?_;obtain⟨aO,aB,aG⟩:=zB N;refine zCl y ([]:List zA) 0 aO aB iR h1 h nG nO ?_;intro bx aj p2 c2 az heq1 aH h3;subst aO;refine zS<|wV [2] rfl<|xD<|yZ 0 rfl ?_;intro bI bf hl0;have h9:=SL.of_frozen hl0 bf h3;exact xU aG (resT rfl) zM ⟨_,rfl,rfl,h9⟩
def zCW(r:zK×Int):KT:=λkk I' ag v=>
 ∃v0 v1,ag=[]/\v=tupV [v0,v1]/\(∃cs,v0=.agg ⟨cs⟩/\Rp.rep I' cs r.1)/\v1=.int .i64 r.2
def pS(s:Str)(at0:Int):Option (zK×Int):=do
 let y<-fH s at0 (93:UInt8);let t20<-(do
  if(decide (y<(W (at0+2)))) then pure true
  else
   let b1<-sidx s (W (at0+1));pure ((b1.toNat:Int) != 91)
    : Option Bool)
 if t20 then pure ((zK.mk (⟨[]⟩:Str) ([]:List zA)),(-1))
 else
  let s1<-sslc s at0 (W (at0+1));let s2<-sslc s (W (at0+2)) y;let y1<-pO s2;pure ((zK.mk s1 y1),(W (y+1)))
theorem zA9:∀s at0 r,pS s at0=some r->∀{I:Imm} ,RT 149 [vT s.l,vI at0] I [] (zCW  r):=by
 intro s at0 r N I;unfold pS at N;refine yL func149 λB=>?_;have H:=iS I;refine yF<|wI [vT ([]),z0] ?_;intro b hb;refine wB [] []<|yW<|yG 2 [] [7,8] rfl<|bE N λy hy N=>eO (zDB s at0 (93:UInt8) _ hy ) ?_;intro I0 le;have H:=H.trans le;refine yK [] [6] rfl<|zZ<|yB ?_;refine wK N [hB b [vT ([]),z0]] (λt20=>[(0,vT s.l),(1,vI at0),(4,vP b 0),(6,vI y),(20,.bool t20)]) (λo0 aA=>?_) ?_
 ·have H:=iS I0;refine zJ<|yG 5 [] [14] rfl<|xZ [14] aA ?_ ?_
  ·intro hc N;exact wB [] [(20,vY)]<|yS<|zV (ct N H)
  intro hc N;exact yG 8 [] [15,17] rfl<|bE N λb1 ay N=>zB9 rfl rfl ay<|yK [] [20] rfl<|yS<|zV (ct N H)
 intro t20 aT aa aQ;have H:=H.trans aa;refine zG<|yE aQ ?_ ?_
 ·intro aE N;refine yF<|yG 1 [] [21] rfl<|xI 0 [vT ([]),z0] rfl<|yK [] [5] rfl<|xD<|zH ?_;exact xU N (resE 0 rfl rfl rfl) zM ⟨_,_,rfl,rfl,⟨_,rfl,(kV ⟨_,rfl,(SL.nil _)⟩)⟩,rfl⟩
 intro aE N;refine zT<|zG<|yB ?_;obtain⟨s1,aF,N⟩:=zB N;obtain⟨s2,aX,N⟩:=zB N;obtain⟨y1,bk,N⟩:=zB N;refine wA [.p (vT s.l) [],.p (vI at0) [],.p (vI at0) [],.p (vI (W (at0+1))) [],.q (vT s1.l),.p (vT s.l) [],.p (vI at0) [],.p (vI (W (at0+2))) [],.p (vI y) [],.q (vT s2.l),.x (eS y1),.x (λI' v hx=>∃p1 c1,v=vA [vT s1.l,vS p1 y1 c1]/\hx=[]/\(S4 I' p1 y1 c1)),.p (vI y) [],.p (vI (W (y+1))) [],.x (λI' v hx=>∃aR bh,hx=[hB b [vT s1.l,vS aR y1 bh]]/\(S4 I' aR y1 bh))] [[],[],[],[(2,false)],[(0,false),(1,false),(3,false)],[],[],[(6,false)],[],[(5,false),(7,false),(8,false)],[(9,false)],[(4,false),(10,false)],[],[(12,false)],[(11,false),(16,true)]] [] [[hB b [vT ([]),z0]]] [(13,false),(14,true)] (zY [0]) ?_ ?_
 ·refine O4<|Oq ?_<|O4<|Oq ?_<|Ox ?_<|Ox ?_<|O2<|Ox ?_<|On
  ·intro I1 hf aa;exact yP [22,23,25] rfl<|zJ2 rfl aF<|yR iR
  ·intro I1 hf aa;exact yP [27,29,30] rfl<|zJ2 rfl aX<|yR iR
  ·intro I1 hf aa;refine yP [31] rfl ?_;have H:=iS I1;refine xF (zAC s2 _ bk ) ?_;rintro aP av v2 k2 aD - ⟨v01,rfl,rfl,h1⟩ -;have H:=H.trans aD;obtain⟨p,c,rfl⟩:=h1.form;exact yM [] H ⟨_,_,rfl,rfl,h1⟩
  ·rintro I1 hf aa _ _ ⟨rfl,rfl⟩ _ _ ⟨p,c,rfl,rfl,h1⟩;exact yP [26,32] rfl<|tD 12 [(33,vA [vT s1.l,vS p y1 c])]<|yM [] iR ⟨_,_,rfl,rfl,h1⟩
  rintro I1 hf aa _ _ ⟨p1,c1,rfl,rfl,h11⟩ _ _ rfl;refine yP [4,33] rfl ?_;have H:=iS I1;exact zBu 0 [vT s1.l,vS p1 y1 c1] (hB b [vT s1.l,vS p1 y1 c1]::hf) rfl rfl rfl rfl<|zIR (hx:=[hB b [vT s1.l,vS p1 y1 c1]]) rfl H rfl (zLB (v:=undef)) ⟨_,_,rfl,h11⟩
 rintro bx aH _ _ ⟨rfl,rfl⟩ _ _ ⟨aR,bh,rfl,h111⟩;refine yP [4,35] rfl ?_;refine yK [] [5] rfl<|zG<|yX ?_;exact xU N (resE 0 rfl rfl rfl) zM ⟨_,_,rfl,rfl,⟨_,rfl,(kV ⟨_,rfl,h111⟩)⟩,rfl⟩
def zA4(r:zI×Int):KT:=λkk I' ag v=>
 ∃v0 v1,ag=[]/\v=tupV [v0,v1]/\(∃cs,v0=.agg ⟨cs⟩/\Rp.rep I' cs r.1)/\v1=.int .i64 r.2
mutual
def dJ(s:Str)(at0:Int)(ai:Int):Option (zI×Int):=do
 let (y1,y2)<-oH (same s) (same at0) (same ai);let t27<-(do
  if(decide (y2<0)) then pure true
  else
   pure (decide (y2>=(s.l.length:Int)))
    : Option Bool)
 if t27 then pure ((zI.mk 0 0 (zA.mk ([]:List Int) 0) (zK.mk (⟨[]⟩:Str) ([]:List zA)) ([]:List zI)),(-1))
 else
  let b2<-sidx s y2;let kind<-(do
   if((b2.toNat:Int)==45) then pure (id 5)
   else
    let kind1<-(do
     if((b2.toNat:Int)==42) then pure (id 6)
     else
      pure (id 4)
       : Option Int)
    pure (id kind1)
     : Option Int)
  let (y4,y5)<-oH (same s) (W (y2+1)) (same ai);let t51<-(do
   if(decide (y5<0)) then pure true
   else
    pure (decide (y5>=(s.l.length:Int)))
     : Option Bool)
  if t51 then pure ((zI.mk 0 0 (zA.mk ([]:List Int) 0) (zK.mk (⟨[]⟩:Str) ([]:List zA)) ([]:List zI)),(-1))
  else pure ((zI.mk kind 0 (zA.mk ([]:List Int) 0) (zK.mk (⟨[]⟩:Str) ([]:List zA)) ([y1,y4]:List zI)),(W (y5+1)))
 partial_fixpoint
def oH(s:Str)(at0:Int)(ai:Int):Option (zI×Int):=do
 let t26<-(do
  if(decide (ai<1)) then pure true
  else
   if(decide (at0<0)) then pure true
   else
    pure (decide (at0>=(s.l.length:Int)))
    : Option Bool)
 if t26 then pure ((zI.mk 0 0 (zA.mk ([]:List Int) 0) (zK.mk (⟨[]⟩:Str) ([]:List zA)) ([]:List zI)),(-1))
 else
  let b1<-sidx s at0;if((b1.toNat:Int)==123) then
   let y<-fH s at0 (125:UInt8);if(decide (y<0)) then pure ((zI.mk 0 0 (zA.mk ([]:List Int) 0) (zK.mk (⟨[]⟩:Str) ([]:List zA)) ([]:List zI)),(-1))
   else
    let s1<-sslc s (W (at0+1)) y;let (y2,y3)<-nS s1;pure ((zI.mk 2 0 y2 (zK.mk (⟨[]⟩:Str) ([]:List zA)) ([]:List zI)),(W (y+1)))
  else
   let t52<-(do
    let b3<-sidx s at0;if(decide ((b3.toNat:Int)>=65)) then
     let b4<-sidx s at0;pure (decide ((b4.toNat:Int)<=68))
    else
     pure false
      : Option Bool)
   if t52 then
    let (y5,y6)<-pS s at0;pure ((zI.mk 3 0 (zA.mk ([]:List Int) 0) y5 ([]:List zI)),y6)
   else
    let b6<-sidx s at0;if((b6.toNat:Int)==40) then
     let (y8,y9)<-dJ (same s) (W (at0+1)) (W (ai - 1));pure (y8,y9)
    else
     let (y11,y12)<-jO s at0;if(y12==at0) then pure ((zI.mk 0 0 (zA.mk ([]:List Int) 0) (zK.mk (⟨[]⟩:Str) ([]:List zA)) ([]:List zI)),(-1))
     else pure ((zI.mk 1 y11 (zA.mk ([]:List Int) 0) (zK.mk (⟨[]⟩:Str) ([]:List zA)) ([]:List zI)),y12)
 partial_fixpoint
end
theorem zGu:(∀(s:Str) (at0:Int) (ai:Int) r,dJ s at0 ai=some r->∀{I:Imm} ,RT 182 [vT s.l,vI at0,vI ai] I [] (zA4  r))/\(∀(s:Str) (at0:Int) (ai:Int) r,oH s at0 ai=some r->∀{I:Imm} ,RT 150 [vT s.l,vI at0,vI ai] I [] (zA4  r)):=by
 refine dJ.mutual_partial_correctness _ _ ?_ ?_
 ·intro F_spec_l3Parse ih_spec_l3Parse s at0 ai r N I;refine yL func182 λB=>?_;have H:=iS I;refine yF<|wI zExpr ?_;intro b hb;refine wB [] []<|yW<|yG 3 [] [14,15,16] rfl ?_;obtain⟨⟨y1,y2⟩,hy,N⟩:=zB N;refine xF (ih_spec_l3Parse s at0 ai _ hy ) ?_;rintro I0 av v2 k2 le - ⟨v0,v01,rfl,rfl,⟨cs,rfl,h⟩,rfl⟩ -;have H:=H.trans le;obtain⟨p,c,p1,c1,p2,c2,rfl,h2,h3,h4⟩:=xX h;refine yG 7 [] [18,19] rfl<|wI zExpr ?_;intro b1 hb1;refine xI 0 (cExpr y1 p c p1 c1 p2 c2) rfl<|yK [] [9] rfl<|zZ<|yB ?_;refine wK N [hB b1 (cExpr y1 p c p1 c1 p2 c2),hB b zExpr] (λt27=>[(0,vT s.l),(2,vI ai),(6,vP b 0),(8,vP b1 0),(9,vI y2),(27,.bool t27)]) (λo0 aA=>?_) ?_
  ·have H:=iS I0;refine zJ<|yG 3 [] [22] rfl<|xZ [22] aA ?_ ?_
   ·intro hc N;exact wB [] [(27,vY)]<|yS<|zV (ct N H)
   intro hc N;exact yK [] [27] rfl<|yS<|zV (ct N H)
  intro t27 aT aa aQ;have ⟨h2,h3,h4,H⟩:=m4 aa h2 h3 h4 H;refine zG<|yE aQ ?_ ?_
  ·intro aE N;refine yF<|yG 1 [] [28] rfl<|zBu 1 zExpr [hB b1 (cExpr y1 p c p1 c1 p2 c2),hB b zExpr] rfl rfl rfl rfl<|yK [] [7] rfl<|xD<|zH ?_;exact xU N (resE 1 rfl rfl rfl) zM ⟨_,_,rfl,rfl,⟨_,rfl,(wF ⟨_,_,_,rfl,(SL.nil _),(SL.nil _),(SL.nil _)⟩)⟩,rfl⟩
  intro aE N;refine zT<|wV [10] rfl<|zZ<|yF<|yG 2 [] [29,30] rfl<|bE N λb2 ay N=>zB9 rfl rfl ay<|yA rfl<|xY<|yH [32] rfl<|zG ?_;refine wK N [hB b1 (cExpr y1 p c p1 c1 p2 c2),hB b zExpr] (λkind=>[(0,vT s.l),(2,vI ai),(6,vP b 0),(8,vP b1 0),(9,vI y2),(10,vI kind)]) (λaO aB=>?_) ?_
  ·have H:=iS aT;refine yE aB ?_ ?_
   ·intro aV N;exact zJ<|yK [] [10] rfl<|yS<|zV (ct N H)
   intro aV N;refine yH [34] rfl<|zG ?_;refine wK N [hB b1 (cExpr y1 p c p1 c1 p2 c2),hB b zExpr] (λkind1=>[(0,vT s.l),(2,vI ai),(6,vP b 0),(8,vP b1 0),(9,vI y2),(10,vI kind1)]) (λo02 ho02=>?_) ?_
   ·have H:=iS aT;refine yE ho02 ?_ ?_
    ·intro bD N;exact zJ<|yK [] [10] rfl<|yS<|zV (ct N H)
    intro bD N;exact zT<|yS<|zV (ct N H)
   intro kind1 bx aD hMc2;have H:=H.trans aD;exact yS<|zV (ct hMc2 H)
  intro kind aP aH hMc1;have ⟨h2,h3,h4,H⟩:=m4 aH h2 h3 h4 H;refine zL<|yW<|yG 4 [] [37,39,40] rfl ?_;obtain⟨⟨y4,y5⟩,aF,N⟩:=zB hMc1;refine xF (ih_spec_l3Parse s (W (y2+1)) ai _ aF ) ?_;rintro bI av v2 k2 bf - ⟨v05,v06,rfl,rfl,⟨az,rfl,h5⟩,rfl⟩ -;have ⟨h2,h3,h4,H⟩:=m4 bf h2 h3 h4 H;obtain⟨p3,c3,p4,c4,p5,c5,rfl,h7,h8,h9⟩:=xX h5;refine yG 8 [] [42,43] rfl<|wI zExpr ?_;intro b3 hb2;refine xI 0 (cExpr y4 p3 c3 p4 c4 p5 c5) rfl<|yK [] [12] rfl<|zZ<|yB ?_;refine wK N [hB b3 (cExpr y4 p3 c3 p4 c4 p5 c5),hB b1 (cExpr y1 p c p1 c1 p2 c2),hB b zExpr] (λt51=>[(6,vP b 0),(8,vP b1 0),(10,vI kind),(11,vP b3 0),(12,vI y5),(51,.bool t51)]) (λo03 ho03=>?_) ?_
  ·have H:=iS bI;refine zJ<|yG 3 [] [46] rfl<|xZ [46] ho03 ?_ ?_
   ·intro bM N;exact wB [] [(51,vY)]<|yS<|zV (ct N H)
   intro bM N;exact yK [] [51] rfl<|yS<|zV (ct N H)
  intro t51 bL bu hMc3;have ⟨h7,h8,h9,h2,h3,h4⟩:=m6 bu h7 h8 h9 h2 h3 h4;refine zG<|yE hMc3 ?_ ?_
  ·intro hc5 N;refine yF<|yG 1 [] [52] rfl<|zBu 2 zExpr [hB b3 (cExpr y4 p3 c3 p4 c4 p5 c5),hB b1 (cExpr y1 p c p1 c1 p2 c2),hB b zExpr] rfl rfl rfl rfl<|yK [] [7] rfl<|xD<|zH ?_;exact xU N (resE 2 rfl rfl rfl) zM ⟨_,_,rfl,rfl,⟨_,rfl,(wF ⟨_,_,_,rfl,(SL.nil _),(SL.nil _),(SL.nil _)⟩)⟩,rfl⟩
  intro hc5 N;refine zT<|yW<|sW 3 [1,0] [(53,vI kind),(54,vA (cExpr y1 p c p1 c1 p2 c2)),(55,vA (cExpr y4 p3 c3 p4 c4 p5 c5))]<|uP [vI y1.Kind,vI y1.Num,vS p y1.Index.Coefs c,vI y1.Index.Const,vT y1.Read.Array.l,vS p1 y1.Read.Subs c1,vS p2 y1.Kids c2,vI y4.Kind,vI y4.Num,vS p3 y4.Index.Coefs c3,vI y4.Index.Const,vT y4.Read.Array.l,vS p4 y4.Read.Subs c4,vS p5 y4.Kids c5] zI ?_;intro b4 hb3;have h10:RL bL [vI y1.Kind,vI y1.Num,vS p y1.Index.Coefs c,vI y1.Index.Const,vT y1.Read.Array.l,vS p1 y1.Read.Subs c1,vS p2 y1.Kids c2,vI y4.Kind,vI y4.Num,vS p3 y4.Index.Coefs c3,vI y4.Index.Const,vT y4.Read.Array.l,vS p4 y4.Read.Subs c4,vS p5 y4.Kids c5] ([y1,y4]:List zI):=⟨(cExpr y1 p c p1 c1 p2 c2),_,rfl,rfl,(wF ⟨_,_,_,rfl,h2,h3,h4⟩),⟨(cExpr y4 p3 c3 p4 c4 p5 c5),_,rfl,rfl,(wF ⟨_,_,_,rfl,h7,h8,h9⟩),rfl⟩⟩;refine yG 7 [] [57,59] rfl<|xI 3 [vI kind,vI 0,z0,vI 0,vT ([]),z0,vS (some ⟨b4,0,none⟩) ([y1,y4]:List zI) 2] rfl<|yK [] [7] rfl<|xD<|yZ 0 rfl ?_;intro I06 bG hl0;have h11:=SL.of_frozen hl0 bG h10;exact xU N (resE 2 rfl rfl rfl) zM ⟨_,_,rfl,rfl,⟨_,rfl,(wF ⟨_,_,_,rfl,(SL.nil _),(SL.nil _),h11⟩)⟩,rfl⟩
 intro F_spec_l3Round ih_spec_l3Round s at0 ai r N I;refine yL func150 λB=>?_;have H:=iS I;refine yF<|wI zExpr ?_;intro b hb;refine wB [] []<|zZ<|yB ?_;refine wK N [hB b zExpr] (λt26=>[(0,vT s.l),(1,vI at0),(2,vI ai),(6,vP b 0),(26,.bool t26)]) (λo0 aA=>?_) ?_
 ·have H:=iS I;refine zJ<|yG 3 [] [17] rfl<|xZ [17] aA ?_ ?_
  ·intro hc N;exact wB [] [(26,vY)]<|yS<|zV (ct N H)
  intro hc N;refine yG 7 [] [21] rfl<|xZ [21] N ?_ ?_
  ·intro aE N;exact wB [] [(26,vY)]<|yS<|zV (ct N H)
  intro aE N;exact yK [] [26] rfl<|yS<|zV (ct N H)
 intro t26 I0 le aQ;have H:=H.trans le;refine zG<|yE aQ ?_ ?_
 ·intro aV N;refine yF<|yG 1 [] [27] rfl<|zBu 0 zExpr [hB b zExpr] rfl rfl rfl rfl<|yK [] [7] rfl<|xD<|zH ?_;exact xU N (resE 0 rfl rfl rfl) zM ⟨_,_,rfl,rfl,⟨_,rfl,(wF ⟨_,_,_,rfl,(SL.nil _),(SL.nil _),(SL.nil _)⟩)⟩,rfl⟩
 intro aV N;refine zT<|zZ<|yI<|yF<|yG 2 [] [29,30] rfl<|bE N λb1 hy N=>zB9 rfl rfl hy<|yK [] [28] rfl<|zG<|yE N ?_ ?_
 ·intro bD N;refine yF<|yG 2 [] [33,34] rfl<|bE N λy ay N=>eO (zDB s at0 (125:UInt8) _ ay ) λaT aa=>wB [] [(8,vI y)]<|zZ<|wL [(37,.bool (decide (y<0)))]<|zG<|yE N ?_ ?_
  ·intro bM N;refine yF<|yG 1 [] [38] rfl<|zBu 0 zExpr [hB b zExpr] rfl rfl rfl rfl<|yK [] [7] rfl<|xD<|zH<|zW<|zH ?_;exact xU N (resE 0 rfl rfl rfl) zM ⟨_,_,rfl,rfl,⟨_,rfl,(wF ⟨_,_,_,rfl,(SL.nil _),(SL.nil _),(SL.nil _)⟩)⟩,rfl⟩
  intro bM N;refine zT<|yW<|yG 4 [] [40,42,43] rfl<|bE N λs1 aF N=>zJ2 rfl aF ?_;obtain⟨⟨y2,y3⟩,aX,N⟩:=zB N;refine xF (zBE s1 _ aX ) ?_;rintro aP av v2 k2 aD - ⟨v01,v02,rfl,rfl,⟨cs,rfl,h1⟩,rfl⟩ -;obtain⟨p,c,rfl,h3⟩:=yQ h1;refine yG 9 [] [46,47] rfl<|wI [z0,vI 0] ?_;intro b2 hb1;refine xI 0 (cAff y2 p c) rfl<|wB [] []<|yW<|sW 4 [0] [(49,vA [vI 2,vI 0,vS p y2.Coefs c,vI y2.Const,vT ([]),z0,z0]),(51,vI (W (y+1)))]<|xI 1 [vI 2,vI 0,vS p y2.Coefs c,vI y2.Const,vT ([]),z0,z0] rfl<|yK [] [7] rfl<|xD<|zW<|zH ?_;exact xU N (resE 1 rfl rfl rfl) zM ⟨_,_,rfl,rfl,⟨_,rfl,(wF ⟨_,_,_,rfl,h3,(SL.nil _),(SL.nil _)⟩)⟩,rfl⟩
 intro bD N;refine yB ?_;refine wK N [hB b zExpr] (λt52=>[(0,vT s.l),(1,vI at0),(2,vI ai),(6,vP b 0),(52,.bool t52)]) (λaO aB=>?_) ?_
 ·have H:=iS I0;refine zJ<|yG 2 [] [53,54] rfl ?_;obtain⟨b3,bk,N⟩:=zB aB;refine zB9 rfl rfl bk<|yG 5 [] [57] rfl<|xZ [57] N ?_ ?_
  ·intro hc5 N;exact yG 7 [] [58,59] rfl<|bE N λb4 bC N=>zB9 rfl rfl bC<|yK [] [52] rfl<|yS<|zV (ct N H)
  intro hc5 N;exact wB [] [(52,vF)]<|yS<|zV (ct N H)
 intro t52 bx aH hMc1;refine zG<|yE hMc1 ?_ ?_
 ·intro hc6 N;refine yF<|yG 2 [] [64,65] rfl ?_;obtain⟨⟨y5,y6⟩,hy6,N⟩:=zB N;refine xF (zA9 s at0 _ hy6 ) ?_;rintro bI av v2 k2 bf - ⟨v04,v05,rfl,rfl,⟨az,rfl,h4⟩,rfl⟩ -;obtain⟨p1,c1,rfl,h6⟩:=oA h4;refine yG 6 [] [67,68] rfl<|wI [vT ([]),z0] ?_;intro b5 hb2;refine xI 0 (cAccess y5 p1 c1) rfl<|yK [] [12] rfl<|yW<|sW 3 [0] [(70,vA [vI 3,vI 0,z0,vI 0,vT y5.Array.l,vS p1 y5.Subs c1,z0]),(71,vI y6)]<|xI 1 [vI 3,vI 0,z0,vI 0,vT y5.Array.l,vS p1 y5.Subs c1,z0] rfl<|yK [] [7] rfl<|xD<|zW<|zH ?_;exact xU N (resE 1 rfl rfl rfl) zM ⟨_,_,rfl,rfl,⟨_,rfl,(wF ⟨_,_,_,rfl,(SL.nil _),h6,(SL.nil _)⟩)⟩,rfl⟩
 intro hc6 N;refine yF<|yG 2 [] [73,74] rfl<|bE N λb6 hy7 N=>zB9 rfl rfl hy7<|yK [] [72] rfl<|zG<|yE N ?_ ?_
 ·intro hc7 N;refine yF<|yG 5 [] [77,79,81] rfl ?_;obtain⟨⟨y8,y9⟩,hy8,N⟩:=zB N;refine xF (ih_spec_l3Round s (W (at0+1)) (W (ai - 1)) _ hy8 ) ?_;rintro bL av v2 k2 bu - ⟨v07,v08,rfl,rfl,⟨aM,rfl,h7⟩,rfl⟩ -;obtain⟨p2,c2,p3,c3,p4,c4,rfl,h9,h10,h11⟩:=xX h7;refine yG 8 [] [83,84] rfl<|xI 0 (cExpr y8 p2 c2 p3 c3 p4 c4) rfl<|yK [] [7] rfl<|xD<|zW<|zH ?_;exact xU N (resE 0 rfl rfl rfl) zM ⟨_,_,rfl,rfl,⟨_,rfl,(wF ⟨_,_,_,rfl,h9,h10,h11⟩)⟩,rfl⟩
 intro hc7 N;refine zT<|zL<|yW<|yG 2 [] [86,87] rfl ?_;obtain⟨⟨y11,y12⟩,hy9,N⟩:=zB N;refine xF (zCV s at0 _ hy9 ) ?_;rintro I06 av v2 k2 bG - ⟨v012,v013,rfl,rfl,rfl,rfl⟩ -;refine yK [] [13,14] rfl<|zZ<|yH [93] rfl<|zG<|yE N ?_ ?_
 ·intro hc8 N;refine yF<|yG 1 [] [94] rfl<|zBu 0 zExpr [hB b zExpr] rfl rfl rfl rfl<|yK [] [7] rfl<|xD<|zH ?_;exact xU N (resE 0 rfl rfl rfl) zM ⟨_,_,rfl,rfl,⟨_,rfl,(wF ⟨_,_,_,rfl,(SL.nil _),(SL.nil _),(SL.nil _)⟩)⟩,rfl⟩
 intro hc8 N;refine zT<|yW<|yG 3 [] [96,97] rfl<|xI 0 [vI 1,vI y11,z0,vI 0,vT ([]),z0,z0] rfl<|yK [] [7] rfl<|zG<|yX ?_;exact xU N (resE 0 rfl rfl rfl) zM ⟨_,_,rfl,rfl,⟨_,rfl,(wF ⟨_,_,_,rfl,(SL.nil _),(SL.nil _),(SL.nil _)⟩)⟩,rfl⟩
theorem zHf:∀s at0 ai r,oH s at0 ai=some r->∀{I:Imm} ,RT 150 [vT s.l,vI at0,vI ai] I [] (zA4  r):=zGu.2
def tS(a0:zA)(n0:Int)(i:Int):Option (Int):=do
 if(decide (i<(a0.Coefs.length:Int))) then
  let x<-idx a0.Coefs i;let n02<-(do
   if(x != 0) then pure (W (i+1))
   else
    pure (id n0)
     : Option Int)
  tS a0 n02 (W (i+1))
 else pure (id n0)
 partial_fixpoint
theorem zEy(a0:zA):∀(n0:Int) (i:Int) (o:Int),tS a0 n0 i=some o->∀{B}{I0 I:Imm}{Q p c}{b},I0.le I->(S4 I p a0.Coefs c)->NG Q->NO Q->(∀I' n01,o=n01->I0.le I'->T 21 B Q (.exit 0) I' [] [(3,vI n01)])->J Tryz.prog 21 B (nav (bodyOf f186) [1,1,0,1,0]) Q I [hB b (cAff a0 p c)] [(1,vP b 0),(3,vI n0),(4,vI i)]:=by
 refine tS.partial_correctness a0 _ λaI ih n0 i o N B I0 I Q p c b H h hg ho hx=>yV hg ho<|yB<|yF<|yK [0] [9] rfl<|zG<|yE N ?_ ?_
 ·intro hc N;refine zT<|zZ<|yI<|yF<|yG 3 [0] [13,14] rfl<|bE N λx hy N=>xK rfl rfl h hy ?_;intro ad aN ap ak;obtain rfl:=ak;refine xA 0 ap [vI x] (vI x) rfl<|yK [] [17] rfl<|zG ?_;refine wK N [hB b (cAff a0 p c)] (λn02=>[(1,vP b 0),(3,vI n02),(4,vI i)]) (λo0 aA=>?_) ?_
  ·have H:=iS I;refine yE aA ?_ ?_
   ·intro aE N;exact zJ<|yK [] [3] rfl<|yS<|zV (ct N H)
   intro aE N;exact zT<|yS<|zV (ct N H)
  intro n02 I0 le aQ;have ⟨h,H⟩:=m2 le h H;exact zL<|zG<|zJ<|yK [] [4] rfl<|yU<|nD<|ih n02 (W (i+1)) _ aQ H h hg ho hx
 intro hc N;exact wM<|xW zM<|yS<|hx _ _ (zD N).symm H
def oI(a0:zA):Option (Int):=do
 let n01<-tS a0 0 0;pure (id n01)
theorem zAy:∀a0 r,oI a0=some r->∀{I:Imm}{p c},(S4 I p a0.Coefs c)->RT 186 [vA (cAff a0 p c)] I [] (yJ  r):=by
 intro a0 r N I p c h;unfold oI at N;refine yL func186 λB=>yF<|vK (cAff a0 p c) ?_;intro b hb;refine wB [] []<|wV [3] rfl<|zZ<|yH [4] rfl<|xY<|pE [(1,vP b 0),(3,vI 0),(4,vI 0)] ?_;obtain⟨aO,aB,aG⟩:=zB N;refine zEy a0 0 0 aO aB iR h nG nO ?_;intro aT n01 heq1 aa;subst aO;refine zS<|wV [2] rfl<|zG<|yX ?_;obtain rfl:=zD aG;exact wC
def uX(a0:zK)(ae:Int)(i:Int):Option (Out Unit (Bool)):=do
 if(decide (i<(a0.Subs.length:Int))) then
  let t29<-(do
   let x<-idx a0.Subs i;let y<-uW x;if(!y) then pure true
   else
    let x1<-idx a0.Subs i;let y1<-oI x1;pure (decide (y1>ae))
     : Option Bool)
  if t29 then pure (.ret false)
  else uX a0 ae (W (i+1))
 else pure (.done ())
 partial_fixpoint
theorem zEW(a0:zK)(ae:Int):∀(i:Int) (o:Out Unit (Bool)),uX a0 ae i=some o->∀{B}{I0 I:Imm}{Q p c}{b},I0.le I->(S4 I p a0.Subs c)->NG Q->NO Q->(∀I',o=(.done ())->I0.le I'->T 56 B Q (.exit 0) I' [hB b (cAccess a0 p c)] [(2,vP b 0)])->(∀r I' ag m',o=(.ret r)->I0.le I'->RS Tryz.prog f155 B (zU  r) I' ag m'->T 56 B Q .ret I' ag m')->J Tryz.prog 56 B (nav (bodyOf f155) [1,0,1,0]) Q I [hB b (cAccess a0 p c)] [(1,vI ae),(2,vP b 0),(5,vI i)]:=by
 refine uX.partial_correctness a0 ae _ λaI ih i o N B I0 I Q p c b H h hg ho hx hr=>yV hg ho<|yB<|yF<|yK [0] [10] rfl<|zG<|yE N ?_ ?_
 ·intro hc N;refine zT<|zZ<|yI<|yB ?_;refine wK N [hB b (cAccess a0 p c)] (λt29=>[(1,vI ae),(2,vP b 0),(5,vI i),(29,.bool t29)]) (λo0 aA=>?_) ?_
  ·have H:=iS I;refine zJ<|yG 3 [0] [14,15] rfl ?_;obtain⟨x,hy,N⟩:=zB aA;refine xK rfl rfl h hy ?_;intro ad aN ap ak;obtain⟨p1,c1,rfl,h1⟩:=yQ ak;refine xA 0 ap (cAff x p1 c1) (vA (cAff x p1 c1)) rfl<|bE N λy ay N=>vJ (gU x _ ay h1) ?_;intro aT le;have ⟨h,H⟩:=m2 le h H;refine yG 8 [] [20] rfl<|xZ [20] N ?_ ?_
   ·intro aE N;exact wB [] [(29,vY)]<|yS<|zV (ct N H)
   intro aE N;refine yG 11 [0] [22,23] rfl<|bE N λx1 aF N=>xK rfl rfl h aF ?_;intro ad1 bm ar au;obtain⟨p2,c2,rfl,h3⟩:=yQ au;refine xA 0 ar (cAff x1 p2 c2) (vA (cAff x1 p2 c2)) rfl<|bE N λy1 aX N=>eO (zAy x1 _ aX h3) ?_;intro aP aa;have H:=H.trans aa;exact yK [] [29] rfl<|yS<|zV (ct N H)
  intro t29 I0 aD aQ;have ⟨h,H⟩:=m2 aD h H;refine zG<|yE aQ ?_ ?_
  ·intro aV N;exact wL [(4,vF)]<|xD<|zW<|zH<|zH<|hr _ _ _ _ (zD N).symm H ⟨_,_,(resT rfl),zM,⟨_,rfl,rfl,rfl⟩⟩
  intro aV N;exact zT<|zL<|zG<|zJ<|yK [] [5] rfl<|yU<|nD<|ih (W (i+1)) _ N H h hg ho hx hr
 intro hc N;exact wM<|yS<|hx _  (zD N).symm H
def nA(a0:zK)(ae:Int):Option (Bool):=do
 match<-uX a0 ae 0 with
 | .ret r0=>pure r0
 | .done _=>
  let t4<-(do
   if((a0.Array.l.length:Int)==1) then
    if(!(Op.bytesLess a0.Array.l ([65]:List UInt8))) then
     if(Op.bytesLess a0.Array.l ([68]:List UInt8)||a0.Array.l==([68]:List UInt8)) then
      if(decide ((a0.Subs.length:Int)>=1)) then pure (decide ((a0.Subs.length:Int)<=2))
      else pure false
     else pure false
    else pure false
   else
    pure false
     : Option Bool)
  pure (id t4)
theorem zCX:∀a0 ae r,nA a0 ae=some r->∀{I:Imm}{p c},(S4 I p a0.Subs c)->RT 155 [vA (cAccess a0 p c),vI ae] I [] (zU  r):=by
 intro a0 ae r N I p c h;unfold nA at N;refine yL func155 λB=>?_;have H:=iS I;refine yF<|vK (cAccess a0 p c) ?_;intro b hb;refine wB [] []<|zZ<|yH [5] rfl<|xY<|pE [(1,vI ae),(2,vP b 0),(5,vI 0)] ?_;obtain⟨aO,aB,aG⟩:=zB N;refine zEW a0 ae 0 aO aB iR h nG nO ?_ ?_
 ·intro bx  heq1 aH;subst aO;have H:=H.trans aH;refine zS<|zG<|yB ?_;refine wK aG [] (λt4=>[(4,.bool t4)]) (λo02 ho02=>?_) ?_
  ·have H:=iS bx;refine zJ<|yG 5 [0] [34] rfl<|xZ [34] ho02 ?_ ?_
   ·intro bD N;refine yG 10 [0] [39] rfl<|xZ [39] N ?_ ?_
    ·intro bM N;refine yG 15 [0] [44] rfl<|xZ [44] N ?_ ?_
     ·intro hc5 N;refine yG 21 [0] [50] rfl<|xZ [50] N ?_ ?_
      ·intro hc6 N;exact yK [0] [4] rfl<|xW zM<|yS<|zV (ct N H)
      intro hc6 N;exact wB [] [(4,vF)]<|xW zM<|yS<|zV (ct N H)
     intro hc5 N;exact wB [] [(4,vF)]<|xW zM<|yS<|zV (ct N H)
    intro bM N;exact wB [] [(4,vF)]<|xW zM<|yS<|zV (ct N H)
   intro bD N;exact wB [] [(4,vF)]<|xW zM<|yS<|zV (ct N H)
  intro t4 bI bf hMc1;refine zG<|yX ?_;obtain rfl:=zD hMc1;exact wC
 intro r0 I9 hs9 m9 aW le9 aY;subst aW;refine zW<|zH ?_;obtain rfl:=zD aG;exact fO aY
def gL(kind:Int):Option (Int):=do
 let t4<-(do
  if(kind==1) then pure (kind==1)
  else
   let t41<-(do
    if(kind==2) then pure (kind==2)
    else
     pure (kind==3)
      : Option Bool)
   pure (id t41)
    : Option Bool)
 if t4 then pure (id 0)
 else
  let t8<-(do
   if(kind==4) then pure (kind==4)
   else
    let t81<-(do
     if(kind==5) then pure (kind==5)
     else
      pure (kind==6)
       : Option Bool)
    pure (id t81)
     : Option Bool)
  if t8 then pure (id 2)
  else pure (-1)
theorem zDf:∀kind r,gL kind=some r->∀{I:Imm} ,RT 187 [vI kind] I [] (yJ  r):=by
 intro kind r N I;unfold gL at N;refine yL func187 λB=>?_;have H:=iS I;refine wL []<|zZ<|yH [3] rfl<|xY<|yB<|yH [4] rfl<|zG ?_;refine wK N [] (λt4=>[(3,vI kind),(4,.bool t4)]) (λo0 aA=>?_) ?_
 ·have H:=iS I;refine yE aA ?_ ?_
  ·intro hc N;exact zT<|yS<|zV (ct N H)
  intro hc N;refine yH [4] rfl<|zG ?_;refine wK N [] (λt41=>[(3,vI kind),(4,.bool t41)]) (λaO aB=>?_) ?_
  ·have H:=iS I;refine yE aB ?_ ?_
   ·intro aE N;exact zT<|yS<|zV (ct N H)
   intro aE N;exact zJ<|yK [] [4] rfl<|yS<|zV (ct N H)
  intro t41 aT le hMc1;have H:=H.trans le;exact yS<|zV (ct hMc1 H)
 intro t4 I0 aa aQ;have H:=H.trans aa;refine zG<|yE aQ ?_ ?_
 ·intro aV N;refine yH [2] rfl<|xD<|zW<|zH ?_;obtain rfl:=zD N;exact wC
 intro aV N;refine yB<|yH [8] rfl<|zG ?_;refine wK N [] (λt8=>[(8,.bool t8)]) (λo02 ho02=>?_) ?_
 ·have H:=iS I0;refine yE ho02 ?_ ?_
  ·intro bD N;exact zT<|yS<|zV (ct N H)
  intro bD N;refine yH [8] rfl<|zG ?_;refine wK N [] (λt81=>[(8,.bool t81)]) (λo03 ho03=>?_) ?_
  ·have H:=iS I0;refine yE ho03 ?_ ?_
   ·intro bM N;exact zT<|yS<|zV (ct N H)
   intro bM N;exact zJ<|yK [] [8] rfl<|yS<|zV (ct N H)
  intro t81 bx aD hMc3;have H:=H.trans aD;exact yS<|zV (ct hMc3 H)
 intro t8 aP aH hMc2;refine zG<|yE hMc2 ?_ ?_
 ·intro hc5 N;refine yH [2] rfl<|xD<|zW<|zH ?_;obtain rfl:=zD N;exact wC
 intro hc5 N;refine zT<|zL<|wV [2] rfl<|zG<|yX ?_;obtain rfl:=zD N;exact wC
def oJ(a0:zK):Option (Bool):=do
 let t2<-(do
  if(a0.Array.l==([]:List UInt8)) then pure ((a0.Subs.length:Int)==0)
  else
   pure false
    : Option Bool)
 pure (id t2)
theorem zAz:∀a0 r,oJ a0=some r->∀{I:Imm}{p c},(S4 I p a0.Subs c)->RT 197 [vA (cAccess a0 p c)] I [] (zU  r):=by
 intro a0 r N I p c h;unfold oJ at N;refine yL func197 λB=>?_;have H:=iS I;refine yF<|vK (cAccess a0 p c) ?_;intro b hb;refine wB [] []<|zG<|yB ?_;refine wK N [] (λt2=>[(2,.bool t2)]) (λo0 aA=>?_) ?_
 ·have H:=iS I;refine zJ<|yG 4 [0] [6] rfl<|xZ [6] aA ?_ ?_
  ·intro hc N;exact yK [0] [2] rfl<|xW zM<|yS<|zV (ct N H)
  intro hc N;exact wB [] [(2,vF)]<|xW zM<|yS<|zV (ct N H)
 intro t2 I0 le aQ;refine zG<|yX ?_;obtain rfl:=zD aQ;exact wC
def mK(a0:zA):Option (Bool):=do
 let t2<-(do
  if((a0.Coefs.length:Int)==0) then pure (a0.Const==0)
  else
   pure false
    : Option Bool)
 pure (id t2)
theorem zBY:∀a0 r,mK a0=some r->∀{I:Imm}{p c},(S4 I p a0.Coefs c)->RT 198 [vA (cAff a0 p c)] I [] (zU  r):=by
 intro a0 r N I p c h;unfold mK at N;refine yL func198 λB=>?_;have H:=iS I;refine yF<|vK (cAff a0 p c) ?_;intro b hb;refine wB [] []<|zG<|yB ?_;refine wK N [] (λt2=>[(2,.bool t2)]) (λo0 aA=>?_) ?_
 ·have H:=iS I;refine zJ<|yG 5 [0] [7] rfl<|xZ [7] aA ?_ ?_
  ·intro hc N;exact yK [0] [2] rfl<|xW zM<|yS<|zV (ct N H)
  intro hc N;exact wB [] [(2,vF)]<|xW zM<|yS<|zV (ct N H)
 intro t2 I0 le aQ;refine zG<|yX ?_;obtain rfl:=zD aQ;exact wC
def fW(e0:zI)(ae:Int):Option (Bool):=do
 if(e0.Kind==2) then
  let t4<-(do
   if(e0.Num==0) then
    let y<-oJ e0.Read;if y then
     let y1<-uW e0.Index;if y1 then
      let y2<-oI e0.Index;pure (decide (y2<=ae))
     else pure false
    else pure false
   else
    pure false
     : Option Bool)
  pure (id t4)
 else
  if(e0.Kind==3) then
   let t41<-(do
    if(e0.Num==0) then
     let y3<-mK e0.Index;if y3 then
      let y4<-nA e0.Read ae;pure (id y4)
     else pure false
    else
     pure false
      : Option Bool)
   pure (id t41)
  else
   if(e0.Kind==1) then
    let t42<-(do
     if(decide (e0.Num>=0)) then
      if(decide (e0.Num<=99)) then
       let y5<-mK e0.Index;if y5 then
        let y6<-oJ e0.Read;pure (id y6)
       else pure false
      else pure false
     else
      pure false
       : Option Bool)
    pure (id t42)
   else
    let t43<-(do
     if(e0.Num==0) then
      let y7<-mK e0.Index;if y7 then
       let y8<-oJ e0.Read;pure (id y8)
      else pure false
     else
      pure false
       : Option Bool)
    pure (id t43)
theorem zJ4:∀e0 ae r,fW e0 ae=some r->∀{I:Imm}{p c p1 c1 p2 c2},(S4 I p e0.Index.Coefs c)->(S4 I p1 e0.Read.Subs c1)->(S4 I p2 e0.Kids c2)->RT 188 [vA (cExpr e0 p c p1 c1 p2 c2),vI ae] I [] (zU  r):=by
 intro e0 ae r N I p c p1 c1 p2 c2 h h1 h2;unfold fW at N;refine yL func188 λB=>?_;have H:=iS I;refine yF<|vK (cExpr e0 p c p1 c1 p2 c2) ?_;intro b hb;refine wB [] []<|zZ<|yF<|yK [0] [7] rfl<|zG<|yE N ?_ ?_
 ·intro hc N;refine yB ?_;refine wK N [] (λt4=>[(4,.bool t4)]) (λo0 aA=>?_) ?_
  ·have H:=iS I;refine zJ<|yG 4 [0] [11] rfl<|xZ [11] aA ?_ ?_
   ·intro aE N;refine sW 6 [0] [(13,vA (cAccess e0.Read p1 c1))]<|bE N λy hy N=>vJ (zAz e0.Read _ hy h1) ?_;intro aT le;have ⟨h,H⟩:=m2 le h H;refine yG 9 [] [16] rfl<|xZ [16] N ?_ ?_
    ·intro aV N;refine sW 11 [0] [(18,vA (cAff e0.Index p c))]<|bE N λy1 ay N=>vJ (gU e0.Index _ ay h) ?_;intro aP aa;have ⟨h,H⟩:=m2 aa h H;refine yG 14 [] [21] rfl<|xZ [21] N ?_ ?_
     ·intro bD N;refine sW 16 [0] [(23,vA (cAff e0.Index p c))]<|bE N λy2 aF N=>eO (zAy e0.Index _ aF h) ?_;intro bx aD;have H:=H.trans aD;exact yK [] [4] rfl<|xW zM<|yS<|zV (ct N H)
     intro bD N;exact wB [] [(4,vF)]<|xW zM<|yS<|zV (ct N H)
    intro aV N;exact wB [] [(4,vF)]<|xW zM<|yS<|zV (ct N H)
   intro aE N;exact wB [] [(4,vF)]<|xW zM<|yS<|zV (ct N H)
  intro t4 I0 aH aQ;refine xD<|zH ?_;obtain rfl:=zD aQ;exact wC
 intro hc N;refine zT<|zZ<|yF<|yK [0] [30] rfl<|zG<|yE N ?_ ?_
 ·intro bM N;refine yB ?_;refine wK N [] (λt41=>[(4,.bool t41)]) (λaO aB=>?_) ?_
  ·have H:=iS I;refine zJ<|yG 4 [0] [34] rfl<|xZ [34] aB ?_ ?_
   ·intro hc5 N;refine sW 6 [0] [(36,vA (cAff e0.Index p c))]<|bE N λy3 aX N=>vJ (zBY e0.Index _ aX h) ?_;intro bL bf;have ⟨h1,H⟩:=m2 bf h1 H;refine yG 9 [] [39] rfl<|xZ [39] N ?_ ?_
    ·intro hc6 N;refine sW 12 [0] [(41,vA (cAccess e0.Read p1 c1)),(42,vI ae)]<|bE N λy4 bk N=>vJ (zCX e0.Read ae _ bk h1) ?_;intro I06 bu;have H:=H.trans bu;exact yK [] [4] rfl<|xW zM<|yS<|zV (ct N H)
    intro hc6 N;exact wB [] [(4,vF)]<|xW zM<|yS<|zV (ct N H)
   intro hc5 N;exact wB [] [(4,vF)]<|xW zM<|yS<|zV (ct N H)
  intro t41 bI bG hMc1;refine xD<|zH ?_;obtain rfl:=zD hMc1;exact wC
 intro bM N;refine zT<|zZ<|yF<|yK [0] [47] rfl<|zG<|yE N ?_ ?_
 ·intro hc7 N;refine yB ?_;refine wK N [] (λt42=>[(4,.bool t42)]) (λo02 ho02=>?_) ?_
  ·have H:=iS I;refine zJ<|yG 4 [0] [51] rfl<|xZ [51] ho02 ?_ ?_
   ·intro hc8 N;refine yG 9 [0] [56] rfl<|xZ [56] N ?_ ?_
    ·intro hc9 N;refine sW 11 [0] [(58,vA (cAff e0.Index p c))]<|bE N λy5 bC N=>vJ (zBY e0.Index _ bC h) ?_;intro I08 le7;have ⟨h1,H⟩:=m2 le7 h1 H;refine yG 14 [] [61] rfl<|xZ [61] N ?_ ?_
     ·intro hc10 N;refine sW 16 [0] [(63,vA (cAccess e0.Read p1 c1))]<|bE N λy6 hy6 N=>vJ (zAz e0.Read _ hy6 h1) ?_;intro I09 le8;have H:=H.trans le8;exact yK [] [4] rfl<|xW zM<|yS<|zV (ct N H)
     intro hc10 N;exact wB [] [(4,vF)]<|xW zM<|yS<|zV (ct N H)
    intro hc9 N;exact wB [] [(4,vF)]<|xW zM<|yS<|zV (ct N H)
   intro hc8 N;exact wB [] [(4,vF)]<|xW zM<|yS<|zV (ct N H)
  intro t42 I07 le9 hMc2;refine xD<|zH ?_;obtain rfl:=zD hMc2;exact wC
 intro hc7 N;refine zT<|zG<|yB ?_;refine wK N [] (λt43=>[(4,.bool t43)]) (λo03 ho03=>?_) ?_
 ·have H:=iS I;refine zJ<|yG 4 [0] [69] rfl<|xZ [69] ho03 ?_ ?_
  ·intro hc11 N;refine sW 6 [0] [(71,vA (cAff e0.Index p c))]<|bE N λy7 hy7 N=>vJ (zBY e0.Index _ hy7 h) ?_;intro bV le10;have ⟨h1,H⟩:=m2 le10 h1 H;refine yG 9 [] [74] rfl<|xZ [74] N ?_ ?_
   ·intro hc12 N;refine sW 11 [0] [(76,vA (cAccess e0.Read p1 c1))]<|bE N λy8 hy8 N=>vJ (zAz e0.Read _ hy8 h1) ?_;intro bW le11;have H:=H.trans le11;exact yK [] [4] rfl<|xW zM<|yS<|zV (ct N H)
   intro hc12 N;exact wB [] [(4,vF)]<|xW zM<|yS<|zV (ct N H)
  intro hc11 N;exact wB [] [(4,vF)]<|xW zM<|yS<|zV (ct N H)
 intro t43 bP le12 hMc3;refine zG<|yX ?_;obtain rfl:=zD hMc3;exact wC
mutual
def sH(e0:zI)(ae:Int)(ai:Int):Option (Bool):=do
 let t24<-(do
  if(decide (ai<1)) then pure true
  else
   let y<-gL e0.Kind;if(y != (e0.Kids.length:Int)) then pure true
   else
    let y1<-fW e0 ae;pure (!y1)
    : Option Bool)
 if t24 then pure false
 else
  match<-uT (same e0) (same ae) (same ai) (same 0) with
  | .ret r0=>pure r0
  | .done _=>
   pure true
 partial_fixpoint
def uT(e0:zI)(ae:Int)(ai:Int)(i:Int):Option (Out Unit (Bool)):=do
 if(decide (i<(e0.Kids.length:Int))) then
  let x<-idx e0.Kids i;let y2<-sH (same x) (same ae) (W (ai - 1));if(!y2) then pure (.ret false)
  else uT (same e0) (same ae) (same ai) (W (i+1))
 else pure (.done ())
 partial_fixpoint
end
theorem zGv:(∀(e0:zI) (ae:Int) (ai:Int) r,sH e0 ae ai=some r->∀{I:Imm}{p c p1 c1 p2 c2},(S4 I p e0.Index.Coefs c)->(S4 I p1 e0.Read.Subs c1)->(S4 I p2 e0.Kids c2)->RT 156 [vA (cExpr e0 p c p1 c1 p2 c2),vI ae,vI ai] I [] (zU  r))/\(∀(e0:zI) (ae:Int) (ai:Int) (i:Int) o,uT e0 ae ai i=some o->∀{B}{I0 I:Imm}{Q p c p1 c1 p2 c2}{b},I0.le I->(S4 I p e0.Index.Coefs c)->(S4 I p1 e0.Read.Subs c1)->(S4 I p2 e0.Kids c2)->NG Q->NO Q->(∀I',o=(.done ())->I0.le I'->T 42 B Q (.exit 0) I' [] [])->(∀r I' ag m',o=(.ret r)->I0.le I'->RS Tryz.prog f156 B (zU  r) I' ag m'->T 42 B Q .ret I' ag m')->J Tryz.prog 42 B (nav (bodyOf f156) [1,1,0,1,0]) Q I [hB b (cExpr e0 p c p1 c1 p2 c2)] [(1,vI ae),(2,vI ai),(3,vP b 0),(7,vI i)]):=by
 refine sH.mutual_partial_correctness _ _ ?_ ?_
 ·intro F_spec_l3Shape_l1 ih_spec_l3Shape_l1 e0 ae ai r N I p c p1 c1 p2 c2 h h1 h2;refine yL func156 λB=>?_;have H:=iS I;refine yF<|vK (cExpr e0 p c p1 c1 p2 c2) ?_;intro b hb;refine wB [] []<|zZ<|yB ?_;refine wK N [hB b (cExpr e0 p c p1 c1 p2 c2)] (λt24=>[(1,vI ae),(2,vI ai),(3,vP b 0),(24,.bool t24)]) (λo0 aA=>?_) ?_
  ·have H:=iS I;cases hc:(decide (ai<1)) with
   | true=>
    have hM0:=wQ hc aA;refine wA [.p (vI ai) [],.q vY,.q vY,.p undef [],.p undef [],.p undef [],.p undef [],.p undef [],.p undef [],.p undef [],.p vY [],.p vY [],.p undef [],.p undef [],.p undef [],.p undef [],.p vY []] [[],[(0,false)],[(1,false)],[(2,false)],[(2,false),(3,false)],[(2,false),(4,false)],[(2,false)],[(2,false),(6,false)],[(2,false),(7,false)],[(2,false),(5,false),(8,false)],[(2,false),(9,false)],[(10,false)],[(11,false)],[(11,false)],[(11,false),(12,false),(13,false)],[(11,false),(14,false)],[(11,false),(15,false)]] [hB b (cExpr e0 p c p1 c1 p2 c2)] [] [(16,false)] (zY [0]) ?_ ?_
    ·refine Op<|Oq ?_<|Oq ?_<|O4<|O4<|O4<|O2<|On
     ·intro I1 hf aa;refine yP [8] rfl<|tD 2 [(9,.bool (decide (ai<1)))] ?_;rw[hc];exact yR iR
     intro I1 hf aa;exact eN [(9,vY)]<|tD 3 [(10,vY)]<|yR iR
    intro aT le;refine yP [1,2,3,24] rfl ?_;have H:=H.trans le;exact yA rfl<|yS<|zV (ct hM0 H)
   | false=>
    have hM01:=wE hc aA;obtain⟨y,hy,N⟩:=zB hM01;cases aE:(y != (e0.Kids.length:Int)) with
    | true=>
     have hM02:=wQ aE N;refine wA [.p (vI ai) [],.q vF,.q vF,.p (vP b 0) [],.p (vI e0.Kind) [0],.q (vI y),.p (vP b 6) [],.p (vS p2 e0.Kids c2) [0],.p (vI (e0.Kids.length:Int)) [],.q vY,.q vY,.q vY,.p undef [],.p undef [],.p undef [],.p undef [],.p vY []] [[],[(0,false)],[(1,false)],[(2,false)],[(2,false),(3,false)],[(2,false),(4,false)],[(2,false)],[(2,false),(6,false)],[(2,false),(7,false)],[(2,false),(5,false),(8,false)],[(2,false),(9,false)],[(10,false)],[(11,false)],[(11,false)],[(11,false),(12,false),(13,false)],[(11,false),(14,false)],[(11,false),(15,false)]] [hB b (cExpr e0 p c p1 c1 p2 c2)] [] [(16,false)] (zY [0]) ?_ ?_
     ·refine Op<|Oq ?_<|Oq ?_<|O2<|Oq ?_<|O3<|Oq ?_<|Oq ?_<|Oq ?_<|O4<|Op<|On
      ·intro I1 hf aa;refine yP [8] rfl<|tD 2 [(9,.bool (decide (ai<1)))] ?_;rw[hc];exact yR iR
      ·intro I1 hf aa;exact eN [(9,vF)]<|tD 3 [(10,vF)]<|yR iR
      ·intro I1 hf aa;refine yP [10,12] rfl ?_;have H:=iS I1;refine eO (zDf e0.Kind _ hy ) ?_;intro aP aa;have H:=H.trans aa;exact yR H
      ·intro I1 hf aa;refine yP [10,13,16] rfl<|tD 10 [(17,.bool (y != (e0.Kids.length:Int)))] ?_;rw[aE];exact yR iR
      ·intro I1 hf aa;exact yP [10,17] rfl<|tD 11 [(18,vY)]<|yR iR
      intro I1 hf aa;exact eN [(18,vY)]<|tD 12 [(19,vY)]<|yR iR
     intro bx aD;refine yP [1,2,3,24] rfl ?_;have H:=H.trans aD;exact yA rfl<|yS<|zV (ct hM02 H)
    | false=>
     have hM03:=wE aE N;obtain⟨y1,ay,N⟩:=zB hM03;refine wA [.p (vI ai) [],.q vF,.q vF,.p (vP b 0) [],.p (vI e0.Kind) [0],.q (vI y),.p (vP b 6) [],.p (vS p2 e0.Kids c2) [0],.p (vI (e0.Kids.length:Int)) [],.q vF,.q vF,.q vF,.p (vA (cExpr e0 p c p1 c1 p2 c2)) [0],.p (vI ae) [],.q (.bool y1),.p (.bool (!y1)) [],.p (.bool (!y1)) []] [[],[(0,false)],[(1,false)],[(2,false)],[(2,false),(3,false)],[(2,false),(4,false)],[(2,false)],[(2,false),(6,false)],[(2,false),(7,false)],[(2,false),(5,false),(8,false)],[(2,false),(9,false)],[(10,false)],[(11,false)],[(11,false)],[(11,false),(12,false),(13,false)],[(11,false),(14,false)],[(11,false),(15,false)]] [hB b (cExpr e0 p c p1 c1 p2 c2)] [] [(16,false)] (zY [0]) ?_ ?_
     ·refine Op<|Oq ?_<|Oq ?_<|O2<|Oq ?_<|O3<|Oq ?_<|Oq ?_<|Oq ?_<|O2<|Oq ?_<|O2<|On
      ·intro I1 hf aa;refine yP [8] rfl<|tD 2 [(9,.bool (decide (ai<1)))] ?_;rw[hc];exact yR iR
      ·intro I1 hf aa;exact eN [(9,vF)]<|tD 3 [(10,vF)]<|yR iR
      ·intro I1 hf aa;refine yP [10,12] rfl ?_;have H:=iS I1;refine eO (zDf e0.Kind _ hy ) ?_;intro aP aa;have H:=H.trans aa;exact yR H
      ·intro I1 hf aa;refine yP [10,13,16] rfl<|tD 10 [(17,.bool (y != (e0.Kids.length:Int)))] ?_;rw[aE];exact yR iR
      ·intro I1 hf aa;exact yP [10,17] rfl<|tD 11 [(18,vF)]<|yR iR
      ·intro I1 hf aa;exact eN [(18,vF)]<|tD 12 [(19,vF)]<|yR iR
      intro I1 hf aa;refine yP [19,20,21] rfl ?_;have H:=iS I1;have ⟨h,h1,h2⟩:=m3 aa h h1 h2;refine vJ (zJ4 e0 ae _ ay h h1 h2) ?_;intro bI aH;have H:=H.trans aH;exact yR H
     intro bL bf;refine yP [1,2,3,24] rfl ?_;have H:=H.trans bf;exact yA rfl<|yS<|zV (ct N H)
  intro t24 I0 bu aQ;have ⟨h,h1,h2⟩:=m3 bu h h1 h2;refine zG<|yE aQ ?_ ?_
  ·intro aV N;refine wL [(6,vF)]<|xD<|zH ?_;obtain rfl:=zD N;exact wC
  intro aV N;refine zT<|zZ<|yH [7] rfl<|xY<|pE [(1,vI ae),(2,vI ai),(3,vP b 0),(7,vI 0)] ?_;obtain⟨aO,aB,aG⟩:=zB N;refine ih_spec_l3Shape_l1 e0 ae ai 0 aO aB iR h h1 h2 nG nO ?_ ?_
  ·intro I07  heq1 le7;subst aO;refine zS<|zEP [(6,vY)]<|zG<|yX ?_;obtain rfl:=zD aG;exact wC
  intro r0 I9 hs9 m9 aW le9 aY;subst aW;refine zW<|zH ?_;obtain rfl:=zD aG;exact fO aY
 intro F_spec_l3Shape F_spec_l3Shape_l1 ih_spec_l3Shape ih_spec_l3Shape_l1 e0 ae ai i o N B I0 I Q p c p1 c1 p2 c2 b H h h1 h2 hg ho hx hr;refine yV hg ho<|yB<|yF<|yK [0] [29] rfl<|zG<|yE N ?_ ?_
 ·intro bD N;refine zT<|zZ<|yI<|yF<|yG 3 [0] [33,34] rfl<|bE N λx aF N=>xK rfl rfl h2 aF ?_;intro ad aN ap ak;obtain⟨p3,c3,p4,c4,p5,c5,rfl,h5,h6,h7⟩:=xX ak;refine xA 0 ap (cExpr x p3 c3 p4 c4 p5 c5) (vA (cExpr x p3 c3 p4 c4 p5 c5)) rfl<|yG 8 [] [37,39] rfl<|bE N λy2 aX N=>xF (ih_spec_l3Shape x ae (W (ai - 1)) _ aX h5 h6 h7) ?_;rintro I06 av v2 k2 bG - ⟨v05,rfl,rfl,rfl⟩ -;have ⟨h,h1,h2,H⟩:=m4 bG h h1 h2 H;refine yK [] [41] rfl<|zG<|yE N ?_ ?_
  ·intro bM N;exact wL [(6,vF)]<|xD<|zW<|zH<|zH<|hr _ _ _ _ (zD N).symm H ⟨_,_,(resT rfl),zM,⟨_,rfl,rfl,rfl⟩⟩
  intro bM N;exact zT<|zL<|zG<|zJ<|yK [] [7] rfl<|yU<|nD<|ih_spec_l3Shape_l1 e0 ae ai (W (i+1)) _ N H h h1 h2 hg ho hx hr
 intro bD N;exact wM<|xW zM<|yS<|hx _  (zD N).symm H
theorem zHg:∀e0 ae ai r,sH e0 ae ai=some r->∀{I:Imm}{p c p1 c1 p2 c2},(S4 I p e0.Index.Coefs c)->(S4 I p1 e0.Read.Subs c1)->(S4 I p2 e0.Kids c2)->RT 156 [vA (cExpr e0 p c p1 c1 p2 c2),vI ae,vI ai] I [] (zU  r):=zGv.1
mutual
def rD(e0:zI)(ai:Int):Option (Int):=do
 let n01<-uU (same e0) (same ai) (same 1) (same 0);pure (id n01)
 partial_fixpoint
def uU(e0:zI)(ai:Int)(n0:Int)(i:Int):Option (Int):=do
 let t15<-(do
  if(decide (i<(e0.Kids.length:Int))) then pure (decide (ai>0))
  else
   pure false
    : Option Bool)
 if t15 then
  let x<-idx e0.Kids i;let y<-rD (same x) (W (ai - 1));uU (same e0) (same ai) (W (n0+y)) (W (i+1))
 else pure (id n0)
 partial_fixpoint
end
theorem zGw:(∀(e0:zI) (ai:Int) r,rD e0 ai=some r->∀{I:Imm}{p c p1 c1 p2 c2},(S4 I p e0.Index.Coefs c)->(S4 I p1 e0.Read.Subs c1)->(S4 I p2 e0.Kids c2)->RT 157 [vA (cExpr e0 p c p1 c1 p2 c2),vI ai] I [] (yJ  r))/\(∀(e0:zI) (ai:Int) (n0:Int) (i:Int) o,uU e0 ai n0 i=some o->∀{B}{I0 I:Imm}{Q p c p1 c1 p2 c2}{b},I0.le I->(S4 I p e0.Index.Coefs c)->(S4 I p1 e0.Read.Subs c1)->(S4 I p2 e0.Kids c2)->NG Q->NO Q->(∀I' n01,o=n01->I0.le I'->T 29 B Q (.exit 0) I' [] [(5,vI n01)])->J Tryz.prog 29 B (nav (bodyOf f157) [1,1,0,1,0]) Q I [hB b (cExpr e0 p c p1 c1 p2 c2)] [(1,vI ai),(2,vP b 0),(5,vI n0),(6,vI i)]):=by
 refine rD.mutual_partial_correctness _ _ ?_ ?_
 ·intro F_spec_l3Count_l1 ih_spec_l3Count_l1 e0 ai r N I p c p1 c1 p2 c2 h h1 h2;refine yL func157 λB=>yF<|vK (cExpr e0 p c p1 c1 p2 c2) ?_;intro b hb;refine wB [] []<|wV [5] rfl<|zZ<|yH [6] rfl<|xY<|pE [(1,vI ai),(2,vP b 0),(5,vI 1),(6,vI 0)] ?_;obtain⟨aO,aB,aG⟩:=zB N;refine ih_spec_l3Count_l1 e0 ai 1 0 aO aB iR h h1 h2 nG nO ?_;intro aP n01 heq1 aD;subst aO;refine zS<|wV [4] rfl<|zG<|yX ?_;obtain rfl:=zD aG;exact wC
 intro F_spec_l3Count F_spec_l3Count_l1 ih_spec_l3Count ih_spec_l3Count_l1 e0 ai n0 i o N B I0 I Q p c p1 c1 p2 c2 b H h h1 h2 hg ho hx;refine yV hg ho<|yB<|yB ?_;refine wK N [hB b (cExpr e0 p c p1 c1 p2 c2)] (λt15=>[(1,vI ai),(2,vP b 0),(5,vI n0),(6,vI i),(15,.bool t15)]) (λo0 aA=>?_) ?_
 ·have H:=iS I;refine zJ<|yG 6 [0] [12] rfl<|xZ [12] aA ?_ ?_
  ·intro hc N;exact yK [] [15] rfl<|yS<|zV (ct N H)
  intro hc N;exact wB [] [(15,vF)]<|yS<|zV (ct N H)
 intro t15 I0 le aQ;have ⟨h,h1,h2,H⟩:=m4 le h h1 h2 H;refine zG<|yE aQ ?_ ?_
 ·intro aE N;refine zT<|zZ<|yI<|zJ<|yG 4 [0] [18,20,21] rfl<|bE N λx hy N=>xK rfl rfl h2 hy ?_;intro ad aN ap ak;obtain⟨p3,c3,p4,c4,p5,c5,rfl,h3,h4,h5⟩:=xX ak;refine xA 0 ap (cExpr x p3 c3 p4 c4 p5 c5) (vA (cExpr x p3 c3 p4 c4 p5 c5)) rfl<|yG 8 [] [25] rfl<|bE N λy ay N=>xF (ih_spec_l3Count x (W (ai - 1)) _ ay h3 h4 h5) ?_;rintro aT av v2 k2 aa - ⟨v03,rfl,rfl,rfl⟩ -;have ⟨h,h1,h2,H⟩:=m4 aa h h1 h2 H;exact yK [] [5] rfl<|zL<|zG<|zJ<|yK [] [6] rfl<|yU<|nD<|ih_spec_l3Count_l1 e0 ai (W (n0+y)) (W (i+1)) _ N H h h1 h2 hg ho hx
 intro aE N;exact wM<|xW zM<|yS<|hx _ _ (zD N).symm H
theorem zHh:∀e0 ai r,rD e0 ai=some r->∀{I:Imm}{p c p1 c1 p2 c2},(S4 I p e0.Index.Coefs c)->(S4 I p1 e0.Read.Subs c1)->(S4 I p2 e0.Kids c2)->RT 157 [vA (cExpr e0 p c p1 c1 p2 c2),vI ai] I [] (yJ  r):=zGw.1
def rW(s:zP)(ae:Int):Option (Bool):=do
 let t24<-(do
  if(decide (ae<0)) then pure true
  else
   if(decide (ae>4)) then pure true
   else
    let y<-nA s.Write ae;if(!y) then pure true
    else
     let y1<-sH s.Value ae 5;pure (!y1)
    : Option Bool)
 if t24 then pure false
 else
  let y2<-rD s.Value 5;pure (decide (y2<=12))
theorem zA5:∀s ae r,rW s ae=some r->∀{I:Imm}{p c p1 c1 p2 c2 p3 c3},(S4 I p s.Write.Subs c)->(S4 I p1 s.Value.Index.Coefs c1)->(S4 I p2 s.Value.Read.Subs c2)->(S4 I p3 s.Value.Kids c3)->RT 118 [vA (cStmt s p c p1 c1 p2 c2 p3 c3),vI ae] I [] (zU  r):=by
 intro s ae r N I p c p1 c1 p2 c2 p3 c3 h h1 h2 h3;unfold rW at N;refine yL func118 λB=>?_;have H:=iS I;refine yF<|vK (cStmt s p c p1 c1 p2 c2 p3 c3) ?_;intro b hb;refine wB [] []<|zZ<|yB ?_;refine wK N [hB b (cStmt s p c p1 c1 p2 c2 p3 c3)] (λt24=>[(2,vP b 0),(24,.bool t24)]) (λo0 aA=>?_) ?_
 ·have H:=iS I;refine zJ<|yG 3 [] [7] rfl<|xZ [7] aA ?_ ?_
  ·intro hc N;exact wB [] [(24,vY)]<|yS<|zV (ct N H)
  intro hc N;refine yG 7 [] [11] rfl<|xZ [11] N ?_ ?_
  ·intro aE N;exact wB [] [(24,vY)]<|yS<|zV (ct N H)
  intro aE N;refine sW 10 [0] [(13,vA (cAccess s.Write p c)),(14,vI ae)]<|bE N λy hy N=>vJ (zCX s.Write ae _ hy h) ?_;intro aT le;have ⟨h1,h2,h3,H⟩:=m4 le h1 h2 h3 H;refine yG 14 [] [18] rfl<|xZ [18] N ?_ ?_
  ·intro aV N;exact wB [] [(24,vY)]<|yS<|zV (ct N H)
  intro aV N;refine sW 17 [0] [(20,vA (cExpr s.Value p1 c1 p2 c2 p3 c3)),(21,vI ae)]<|bE N λy1 ay N=>vJ (zHg s.Value ae 5 _ ay h1 h2 h3) ?_;intro aP aa;have H:=H.trans aa;exact yK [] [24] rfl<|yS<|zV (ct N H)
 intro t24 I0 aD aQ;have ⟨h1,h2,h3⟩:=m3 aD h1 h2 h3;refine zG<|yE aQ ?_ ?_
 ·intro bD N;refine wL [(4,vF)]<|xD<|zH ?_;obtain rfl:=zD N;exact wC
 intro bD N;refine zT<|yW<|sW 2 [0] [(26,vA (cExpr s.Value p1 c1 p2 c2 p3 c3))]<|bE N λy2 aF N=>eO (zHh s.Value 5 _ aF h1 h2 h3) λbx aH=>wB [] [(4,.bool (decide (y2<=12)))]<|zG<|yX ?_;obtain rfl:=zD N;exact wC
def rE(list:(List zA))(out:Str)(i:Int):Option (Str):=do
 if(decide (i<(list.length:Int))) then
  let aq<-(do
   if(decide (i>0)) then
    let s<-cat out (⟨[44]⟩:Str);pure (id s)
   else
    pure (id out)
     : Option Str)
  let x<-idx list i;let y<-gK x;let s1<-cat aq y;rE list s1 (W (i+1))
 else pure (id out)
 partial_fixpoint
theorem zDN(list:(List zA)):∀(out:Str) (i:Int) (o:Str),rE list out i=some o->∀{B}{I0 I:Imm}{Q p c},I0.le I->(S4 I p list c)->NG Q->NO Q->(∀I' aj,o=aj->I0.le I'->T 23 B Q (.exit 0) I' [] [(3,vT aj.l)])->J Tryz.prog 23 B (nav (bodyOf f192) [1,1,0,1,0]) Q I [] [(0,vS p list c),(3,vT out.l),(4,vI i)]:=by
 refine rE.partial_correctness list _ λaI ih out i o N B I0 I Q p c H h hg ho hx=>yV hg ho<|yB<|yH [8] rfl<|zG<|yE N ?_ ?_
 ·intro hc N;refine zT<|zZ<|yI<|yB<|yH [12] rfl<|zG ?_;refine wK N [] (λaq=>[(0,vS p list c),(3,vT aq.l),(4,vI i)]) (λo0 aA=>?_) ?_
  ·have H:=iS I;refine yE aA ?_ ?_
   ·intro aE N;exact zJ<|yG 1 [] [13] rfl<|bE N λs hy N=>gW rfl hy<|yK [] [3] rfl<|yS<|zV (ct N H)
   intro aE N;exact zT<|yS<|zV (ct N H)
  intro aq I0 le aQ;have ⟨h,H⟩:=m2 le h H;refine zG<|zJ<|yG 3 [] [15,16,17] rfl ?_;obtain⟨x,ay,N⟩:=zB aQ;refine xK rfl rfl h ay ?_;intro ad aN ap ak;obtain⟨p1,c1,rfl,h1⟩:=yQ ak;refine xA 0 ap (cAff x p1 c1) (vA (cAff x p1 c1)) rfl<|bE N λy aF N=>xF (zBX x _ aF h1) ?_;rintro aT av v2 k2 aa - ⟨v01,rfl,rfl,rfl⟩ -;have ⟨h,H⟩:=m2 aa h H;obtain⟨s1,aX,N⟩:=zB N;exact gW rfl aX<|yK [] [3] rfl<|zL<|zG<|zJ<|yK [] [4] rfl<|yU<|nD<|ih s1 (W (i+1)) _ N H h hg ho hx
 intro hc N;exact wM<|yS<|hx _ _ (zD N).symm H
def oK(list:(List zA)):Option (Str):=do
 let aj<-rE list (⟨[]⟩:Str) 0;pure (id aj)
theorem zAW:∀list r,oK list=some r->∀{I:Imm}{p c},(S4 I p list c)->RT 192 [vS p list c] I [] (sI  r):=by
 intro list r N I p c h;unfold oK at N;refine yL func192 λB=>wL []<|wV [3] rfl<|zZ<|yH [4] rfl<|xY<|pE [(0,vS p list c),(3,vT ([])),(4,vI 0)] ?_;obtain⟨aO,aB,aG⟩:=zB N;refine zDN list (⟨[]⟩:Str) 0 aO aB iR h nG nO ?_;intro aP aj heq1 aD;subst aO;refine zS<|wV [2] rfl<|zG<|yX ?_;obtain rfl:=zD aG;exact wC
def qG(a0:zK):Option (Str):=do
 let s<-cat a0.Array (⟨[91]⟩:Str);let y<-oK a0.Subs;let s1<-cat s y;let s2<-cat s1 (⟨[93]⟩:Str);pure (id s2)
theorem dK:∀a0 r,qG a0=some r->∀{I:Imm}{p c},(S4 I p a0.Subs c)->RT 171 [vA (cAccess a0 p c)] I [] (sI  r):=by
 intro a0 r N I p c h;unfold qG at N;refine yL func171 λB=>?_;have H:=iS I;refine yF<|vK (cAccess a0 p c) ?_;intro b hb;refine wB [] []<|zG<|yB ?_;obtain⟨s,hy,N⟩:=zB N;obtain⟨y,ay,N⟩:=zB N;obtain⟨s1,aF,N⟩:=zB N;obtain⟨s2,aX,N⟩:=zB N;refine wA [.p (vP b 0) [],.p (vT a0.Array.l) [0],.q (vT s.l),.p (vP b 1) [],.p (vS p a0.Subs c) [0],.q (vT y.l),.q (vT s1.l),.q (vT s2.l)] [[],[(0,false)],[(1,false)],[],[(3,false)],[(4,false)],[(2,false),(5,false)],[(6,false)]] [hB b (cAccess a0 p c)] [] [(7,false)] (zY [0]) ?_ ?_
 ·refine O2<|Oq ?_<|O2<|Oq ?_<|Oq ?_<|Oq ?_<|On
  ·intro I1 hf aa;exact yP [4] rfl<|gW rfl hy<|yR iR
  ·intro I1 hf aa;refine yP [7] rfl ?_;have H:=iS I1;have h:=h.mono aa;refine xF (zAW a0.Subs _ ay h) ?_;rintro I0 av v2 k2 le - ⟨v0,rfl,rfl,rfl⟩ -;have H:=H.trans le;exact yR H
  ·intro I1 hf aa;exact yP [5,8] rfl<|gW rfl aF<|yR iR
  intro I1 hf aa;exact yP [9] rfl<|gW rfl aX<|yR iR
 intro aT aa;refine yP [10] rfl ?_;refine yK [] [2] rfl<|zG<|yX ?_;obtain rfl:=zD N;exact wC
def qW(e0:zI):Option (Str):=do
 if(e0.Kind==1) then
  let y<-qV e0.Num;pure (id y)
 else
  if(e0.Kind==2) then
   let y1<-gK e0.Index;let s<-cat (⟨[123]⟩:Str) y1;let s1<-cat s (⟨[125]⟩:Str);pure (id s1)
  else
   if(e0.Kind==3) then
    let y2<-qG e0.Read;pure (id y2)
   else
    let x<-idx e0.Kids 0;let y3<-qW (same x);let s2<-cat (⟨[40]⟩:Str) y3;let s3<-sslc (⟨[43,45,42]⟩:Str) (W (e0.Kind - 4)) (W ((W (e0.Kind - 4))+1));let s4<-cat s2 s3;let x1<-idx e0.Kids 1;let y4<-qW (same x1);let s5<-cat s4 y4;let s6<-cat s5 (⟨[41]⟩:Str);pure (id s6)
 partial_fixpoint
theorem zDg:∀e0 r,qW e0=some r->∀{I:Imm}{p c p1 c1 p2 c2},(S4 I p e0.Index.Coefs c)->(S4 I p1 e0.Read.Subs c1)->(S4 I p2 e0.Kids c2)->RT 172 [vA (cExpr e0 p c p1 c1 p2 c2)] I [] (sI  r):=by
 refine qW.partial_correctness _ λF_spec_l3Text ih_spec_l3Text e0 r N I p c p1 c1 p2 c2 h h1 h2=>yL func172 λB=>?_;have H:=iS I;refine yF<|vK (cExpr e0 p c p1 c1 p2 c2) ?_;intro b hb;refine wB [] []<|zZ<|yF<|yK [0] [4] rfl<|xY<|yH [5] rfl<|zG<|yE N ?_ ?_
 ·intro hc N;refine yF<|yG 2 [0] [8] rfl<|bE N λy hy N=>xF (zA3 e0.Num _ hy ) ?_;rintro I0 av v2 k2 le - ⟨v0,rfl,rfl,rfl⟩ -;refine yK [] [2] rfl<|xD<|zW<|zH ?_;obtain rfl:=zD N;exact wC
 intro hc N;refine yH [10] rfl<|zG<|yE N ?_ ?_
 ·intro aE N;refine yF<|sW 2 [0] [(13,vA (cAff e0.Index p c))]<|bE N λy1 ay N=>xF (zBX e0.Index _ ay h) ?_;rintro aT av v2 k2 aa - ⟨v01,rfl,rfl,rfl⟩ -;obtain⟨s,aF,N⟩:=zB N;refine gW rfl aF<|bE N λs1 aX N=>gW rfl aX<|yK [] [2] rfl<|xD<|zW<|zH ?_;obtain rfl:=zD N;exact wC
 intro aE N;refine yH [17] rfl<|zG<|yE N ?_ ?_
 ·intro aV N;refine yF<|sW 2 [0] [(20,vA (cAccess e0.Read p1 c1))]<|bE N λy2 bk N=>xF (dK e0.Read _ bk h1) ?_;rintro aP av v2 k2 aD - ⟨v02,rfl,rfl,rfl⟩ -;refine yK [] [2] rfl<|xD<|zW<|zH ?_;obtain rfl:=zD N;exact wC
 intro aV N;refine zT<|zL<|zG<|yB ?_;obtain⟨x,bC,N⟩:=zB N;obtain⟨y3,hy6,N⟩:=zB N;obtain⟨s2,hy7,N⟩:=zB N;obtain⟨s3,hy8,N⟩:=zB N;obtain⟨s4,hy9,N⟩:=zB N;obtain⟨x1,hy10,N⟩:=zB N;obtain⟨y4,hy11,N⟩:=zB N;obtain⟨s5,hy12,N⟩:=zB N;obtain⟨s6,hy13,N⟩:=zB N;refine wA [.p (vP b 6) [],.p (vS p2 e0.Kids c2) [0],.x (ePExpr x),.x (eVExpr x),.q (vT y3.l),.q (vT s2.l),.p (vP b 0) [],.p (vI e0.Kind) [0],.p (vI (W (e0.Kind - 4))) [],.p (vP b 0) [],.p (vI e0.Kind) [0],.p (vI (W (e0.Kind - 4))) [],.p (vI (W ((W (e0.Kind - 4))+1))) [],.q (vT s3.l),.q (vT s4.l),.p (vP b 6) [],.p (vS p2 e0.Kids c2) [0],.x (ePExpr x1),.x (eVExpr x1),.q (vT y4.l),.q (vT s5.l),.q (vT s6.l)] [[],[(0,false)],[(1,false)],[(2,false)],[(3,false)],[(4,false)],[],[(6,false)],[(7,false)],[],[(9,false)],[(10,false)],[(11,false)],[(8,false),(12,false)],[(5,false),(13,false)],[],[(15,false)],[(16,false)],[(17,false)],[(18,false)],[(14,false),(19,false)],[(20,false)]] [hB b (cExpr e0 p c p1 c1 p2 c2)] [] [(21,false)] (zY [0]) ?_ ?_
 ·refine O2<|Ox ?_<|Ox ?_<|Oq ?_<|Oq ?_<|O4<|O3<|Oq ?_<|Oq ?_<|O2<|Ox ?_<|Ox ?_<|Oq ?_<|Oq ?_<|Oq ?_<|On
  ·intro I1 hf aa;refine yP [23] rfl ?_;have h2:=h2.mono aa;refine xK rfl rfl h2 bC ?_;intro ad aN ap ak;obtain⟨p3,c3,p4,c4,p5,c5,rfl,h6,h7,h8⟩:=xX ak;exact yM [] iR ⟨_,_,_,_,_,_,_,rfl,rfl,ap,h6,h7,h8⟩
  ·rintro I1 hf aa _ _ ⟨ad,p3,c3,p4,c4,p5,c5,rfl,rfl,ap,h6,h7,h8⟩;exact yP [24] rfl<|xA 0 ap (cExpr x p3 c3 p4 c4 p5 c5) (vA (cExpr x p3 c3 p4 c4 p5 c5)) rfl<|yM [] iR ⟨_,_,_,_,_,_,rfl,rfl,h6,h7,h8⟩
  ·rintro I1 hf aa _ _ ⟨p31,c31,p41,c41,p51,c51,rfl,rfl,h61,h71,h81⟩;refine yP [25] rfl ?_;have H:=iS I1;refine xF (ih_spec_l3Text x _ hy6 h61 h71 h81) ?_;rintro bx av v2 k2 aH - ⟨v06,rfl,rfl,rfl⟩ -;have H:=H.trans aH;exact yR H
  ·intro I1 hf aa;exact yP [26] rfl<|gW rfl hy7<|yR iR
  ·intro I1 hf aa;exact yP [30,34] rfl<|zJ2 rfl hy8<|yR iR
  ·intro I1 hf aa;exact yP [27,35] rfl<|gW rfl hy9<|yR iR
  ·intro I1 hf aa;refine yP [38] rfl ?_;have h2:=h2.mono aa;refine xK rfl rfl h2 hy10 ?_;intro ad1 bm ar au;obtain⟨p6,c6,p7,c7,p8,c8,rfl,h10,h11,h12⟩:=xX au;exact yM [] iR ⟨_,_,_,_,_,_,_,rfl,rfl,ar,h10,h11,h12⟩
  ·rintro I1 hf aa _ _ ⟨ad1,p6,c6,p7,c7,p8,c8,rfl,rfl,ar,h10,h11,h12⟩;exact yP [39] rfl<|xA 0 ar (cExpr x1 p6 c6 p7 c7 p8 c8) (vA (cExpr x1 p6 c6 p7 c7 p8 c8)) rfl<|yM [] iR ⟨_,_,_,_,_,_,rfl,rfl,h10,h11,h12⟩
  ·rintro I1 hf aa _ _ ⟨p61,c61,p71,c71,p81,c81,rfl,rfl,h101,h111,h121⟩;refine yP [40] rfl ?_;have H:=iS I1;refine xF (ih_spec_l3Text x1 _ hy11 h101 h111 h121) ?_;rintro bI av v2 k2 bf - ⟨v010,rfl,rfl,rfl⟩ -;have H:=H.trans bf;exact yR H
  ·intro I1 hf aa;exact yP [36,41] rfl<|gW rfl hy12<|yR iR
  intro I1 hf aa;exact yP [42] rfl<|gW rfl hy13<|yR iR
 intro bL bu;refine yP [43] rfl ?_;refine yK [] [2] rfl<|zG<|yX ?_;obtain rfl:=zD N;exact wC
def jX(s:zP):Option (Str):=do
 let y<-rW s 4;if(!y) then pure (⟨[]⟩:Str)
 else
  let y1<-qG s.Write;let s1<-cat y1 (⟨[61]⟩:Str);let y2<-qW s.Value;let s2<-cat s1 y2;pure (id s2)
theorem zEz:∀s r,jX s=some r->∀{I:Imm}{p c p1 c1 p2 c2 p3 c3},(S4 I p s.Write.Subs c)->(S4 I p1 s.Value.Index.Coefs c1)->(S4 I p2 s.Value.Read.Subs c2)->(S4 I p3 s.Value.Kids c3)->RT 151 [vA (cStmt s p c p1 c1 p2 c2 p3 c3)] I [] (sI  r):=by
 intro s r N I p c p1 c1 p2 c2 p3 c3 h h1 h2 h3;unfold jX at N;refine yL func151 λB=>?_;have H:=iS I;refine yF<|vK (cStmt s p c p1 c1 p2 c2 p3 c3) ?_;intro b hb;refine wB [] []<|zZ<|yF<|sW 1 [0] [(3,vA (cStmt s p c p1 c1 p2 c2 p3 c3))]<|bE N λy hy N=>vJ (zA5 s 4 _ hy h h1 h2 h3) ?_;intro I0 le;have ⟨h,h1,h2,h3,H⟩:=m5 le h h1 h2 h3 H;refine yK [] [5] rfl<|zG<|yE N ?_ ?_
 ·intro hc N;refine yH [2] rfl<|xD<|zH ?_;obtain rfl:=zD N;exact wC
 intro hc N;refine zT<|zG<|yB ?_;obtain⟨y1,ay,N⟩:=zB N;obtain⟨s1,aF,N⟩:=zB N;obtain⟨y2,aX,N⟩:=zB N;obtain⟨s2,bk,N⟩:=zB N;refine wA [.p (vP b 0) [],.p (vA (cAccess s.Write p c)) [0],.q (vT y1.l),.q (vT s1.l),.p (vP b 2) [],.p (vA (cExpr s.Value p1 c1 p2 c2 p3 c3)) [0],.q (vT y2.l),.q (vT s2.l)] [[],[(0,false)],[(1,false)],[(2,false)],[],[(4,false)],[(5,false)],[(3,false),(6,false)]] [hB b (cStmt s p c p1 c1 p2 c2 p3 c3)] [] [(7,false)] (zY [0]) ?_ ?_
 ·refine O2<|Oq ?_<|Oq ?_<|O2<|Oq ?_<|Oq ?_<|On
  ·intro I1 hf aa;refine yP [7] rfl ?_;have H:=iS I1;have h:=h.mono aa;refine xF (dK s.Write _ ay h) ?_;rintro aT av v2 k2 aa - ⟨v01,rfl,rfl,rfl⟩ -;have H:=H.trans aa;exact yR H
  ·intro I1 hf aa;exact yP [8] rfl<|gW rfl aF<|yR iR
  ·intro I1 hf aa;refine yP [11] rfl ?_;have H:=iS I1;have ⟨h1,h2,h3⟩:=m3 aa h1 h2 h3;refine xF (zDg s.Value _ aX h1 h2 h3) ?_;rintro aP av v2 k2 aD - ⟨v02,rfl,rfl,rfl⟩ -;have H:=H.trans aD;exact yR H
  intro I1 hf aa;exact yP [9,12] rfl<|gW rfl bk<|yR iR
 intro bx aH;refine yP [13] rfl ?_;refine yK [] [2] rfl<|zG<|yX ?_;obtain rfl:=zD N;exact wC
def zEX(r:zP×Bool):KT:=λkk I' ag v=>
 ∃v0 v1,ag=[]/\v=tupV [v0,v1]/\(∃cs,v0=.agg ⟨cs⟩/\Rp.rep I' cs r.1)/\v1=.bool r.2
def kW(bq:Str):Option (zP×Bool):=do
 if(decide ((bq.l.length:Int)<4)) then pure ((zP.mk (zK.mk (⟨[]⟩:Str) ([]:List zA)) (zI.mk 0 0 (zA.mk ([]:List Int) 0) (zK.mk (⟨[]⟩:Str) ([]:List zA)) ([]:List zI))),false)
 else
  let (y1,y2)<-pS bq 0;let t25<-(do
   if(decide (y2<0)) then pure true
   else
    pure (decide (y2>=(bq.l.length:Int)))
     : Option Bool)
  if t25 then pure ((zP.mk (zK.mk (⟨[]⟩:Str) ([]:List zA)) (zI.mk 0 0 (zA.mk ([]:List Int) 0) (zK.mk (⟨[]⟩:Str) ([]:List zA)) ([]:List zI))),false)
  else
   let (y4,y5)<-oH bq (W (y2+1)) 5;let y6<-jX (zP.mk y1 y4);if(!(y6.l==bq.l)) then pure ((zP.mk (zK.mk (⟨[]⟩:Str) ([]:List zA)) (zI.mk 0 0 (zA.mk ([]:List Int) 0) (zK.mk (⟨[]⟩:Str) ([]:List zA)) ([]:List zI))),false)
   else pure ((zP.mk y1 y4),true)
theorem zBk:∀bq r,kW bq=some r->∀{I:Imm} ,RT 114 [vT bq.l] I [] (zEX  r):=by
 intro bq r N I;unfold kW at N;refine yL func114 λB=>?_;have H:=iS I;refine yF<|wI [vT ([]),z0,vI 0,vI 0,z0,vI 0,vT ([]),z0,z0] ?_;intro b hb;refine wB [] []<|zZ<|yH [11] rfl<|zG<|yE N ?_ ?_
 ·intro hc N;refine yF<|yG 1 [] [12] rfl<|xI 0 [vT ([]),z0,vI 0,vI 0,z0,vI 0,vT ([]),z0,z0] rfl<|wB [] [(3,vF)]<|xD<|zH ?_;exact xU N (resE 0 rfl rfl rfl) zM ⟨_,_,rfl,rfl,⟨_,rfl,(vL ⟨_,_,_,_,rfl,(SL.nil _),(SL.nil _),(SL.nil _),(SL.nil _)⟩)⟩,rfl⟩
 intro hc N;refine zT<|yW<|yG 1 [] [14] rfl ?_;obtain⟨⟨y1,y2⟩,hy,N⟩:=zB N;refine xF (zA9 bq 0 _ hy ) ?_;rintro I0 av v2 k2 le - ⟨v0,v01,rfl,rfl,⟨cs,rfl,h⟩,rfl⟩ -;have H:=H.trans le;obtain⟨p,c,rfl,h2⟩:=oA h;refine yG 5 [] [16,17] rfl<|wI [vT ([]),z0] ?_;intro b1 hb1;refine xI 0 (cAccess y1 p c) rfl<|yK [] [5] rfl<|zZ<|yB ?_;refine wK N [hB b1 (cAccess y1 p c),hB b [vT ([]),z0,vI 0,vI 0,z0,vI 0,vT ([]),z0,z0]] (λt25=>[(0,vT bq.l),(2,vP b 0),(4,vP b1 0),(5,vI y2),(25,.bool t25)]) (λo0 aA=>?_) ?_
 ·have H:=iS I0;refine zJ<|yG 3 [] [20] rfl<|xZ [20] aA ?_ ?_
  ·intro aE N;exact wB [] [(25,vY)]<|yS<|zV (ct N H)
  intro aE N;exact yK [] [25] rfl<|yS<|zV (ct N H)
 intro t25 aT aa aQ;have h2:=h2.mono aa;refine zG<|yE aQ ?_ ?_
 ·intro aV N;refine yF<|yG 1 [] [26] rfl<|xI 1 [vT ([]),z0,vI 0,vI 0,z0,vI 0,vT ([]),z0,z0] rfl<|wB [] [(3,vF)]<|xD<|zH ?_;exact xU N (resE 1 rfl rfl rfl) zM ⟨_,_,rfl,rfl,⟨_,rfl,(vL ⟨_,_,_,_,rfl,(SL.nil _),(SL.nil _),(SL.nil _),(SL.nil _)⟩)⟩,rfl⟩
 intro aV N;refine zT<|yW<|yG 3 [] [28,30] rfl ?_;obtain⟨⟨y4,y5⟩,ay,N⟩:=zB N;refine xF (zHf bq (W (y2+1)) 5 _ ay ) ?_;rintro aP av v2 k2 aD - ⟨v03,v04,rfl,rfl,⟨az,rfl,h3⟩,rfl⟩ -;have h2:=h2.mono aD;obtain⟨p1,c1,p2,c2,p3,c3,rfl,h5,h6,h7⟩:=xX h3;refine yG 7 [] [32,33] rfl<|wI zExpr ?_;intro b2 hb2;refine xI 0 (cExpr y4 p1 c1 p2 c2 p3 c3) rfl<|wB [] []<|yW<|sW 3 [1,0] [(36,vA [vT y1.Array.l,vS p y1.Subs c,vI y4.Kind,vI y4.Num,vS p1 y4.Index.Coefs c1,vI y4.Index.Const,vT y4.Read.Array.l,vS p2 y4.Read.Subs c2,vS p3 y4.Kids c3])]<|wI [vT ([]),z0,vI 0,vI 0,z0,vI 0,vT ([]),z0,z0] ?_;intro b3 hb3;refine xI 0 [vT y1.Array.l,vS p y1.Subs c,vI y4.Kind,vI y4.Num,vS p1 y4.Index.Coefs c1,vI y4.Index.Const,vT y4.Read.Array.l,vS p2 y4.Read.Subs c2,vS p3 y4.Kids c3] rfl<|yA rfl<|zZ<|yF<|sW 1 [0] [(37,vA [vT y1.Array.l,vS p y1.Subs c,vI y4.Kind,vI y4.Num,vS p1 y4.Index.Coefs c1,vI y4.Index.Const,vT y4.Read.Array.l,vS p2 y4.Read.Subs c2,vS p3 y4.Kids c3])]<|bE N λy6 aF N=>xF (zEz (zP.mk y1 y4) _ aF h2 h5 h6 h7) ?_;rintro bx av v2 k2 aH - ⟨v08,rfl,rfl,rfl⟩ -;have ⟨h2,h5,h6,h7⟩:=m4 aH h2 h5 h6 h7;refine yK [] [40] rfl<|zG<|yE N ?_ ?_
 ·intro bD N;refine yF<|yG 1 [] [41] rfl<|xI 3 [vT ([]),z0,vI 0,vI 0,z0,vI 0,vT ([]),z0,z0] rfl<|wB [] [(3,vF)]<|xD<|zH ?_;exact xU N (resE 3 rfl rfl rfl) zM ⟨_,_,rfl,rfl,⟨_,rfl,(vL ⟨_,_,_,_,rfl,(SL.nil _),(SL.nil _),(SL.nil _),(SL.nil _)⟩)⟩,rfl⟩
 intro bD N;refine zT<|yW<|sW 1 [0] [(42,vA [vT y1.Array.l,vS p y1.Subs c,vI y4.Kind,vI y4.Num,vS p1 y4.Index.Coefs c1,vI y4.Index.Const,vT y4.Read.Array.l,vS p2 y4.Read.Subs c2,vS p3 y4.Kids c3])]<|xI 3 [vT y1.Array.l,vS p y1.Subs c,vI y4.Kind,vI y4.Num,vS p1 y4.Index.Coefs c1,vI y4.Index.Const,vT y4.Read.Array.l,vS p2 y4.Read.Subs c2,vS p3 y4.Kids c3] rfl<|wB [] [(3,vY)]<|zG<|yX ?_;exact xU N (resE 3 rfl rfl rfl) zM ⟨_,_,rfl,rfl,⟨_,rfl,(vL ⟨_,_,_,_,rfl,h2,h5,h6,h7⟩)⟩,rfl⟩
def pP(y:(List Str))(out:List Str)(i:Int):Option (List Str):=do
 if(decide (i<(y.length:Int))) then
  let x<-idx y i;let aq<-(do
   if(!(x.l==([]:List UInt8))) then
    let x1<-idx y i;let aL<-app 16 out ([x1]:List Str);pure (id aL)
   else
    pure (id out)
     : Option (List Str))
  pP y aq (W (i+1))
 else pure (id out)
 partial_fixpoint
theorem zEY(y:(List Str)):∀(out:List Str) (i:Int) (o:List Str),pP y out i=some o->∀{B}{I0 I:Imm}{Q p c p1 c1 cs},I0.le I->(S4 I p y c)->(RL I cs out)->NG Q->NO Q->(∀I' aj p2 c2 az,o=aj->I0.le I'->(RL I' az aj)->T 28 B Q (.exit 0) I' [hO Str (vS p2 aj c2) az] [(4,vS p2 aj c2)])->J Tryz.prog 28 B (nav (bodyOf f166) [1,1,1,0,1,0]) Q I [hO Str (vS p1 out c1) cs] [(3,vS p y c),(4,vS p1 out c1),(5,vI i)]:=by
 refine pP.partial_correctness y _ λaI ih out i o N B I0 I Q p c p1 c1 cs H h h2 hg ho hx=>yV hg ho<|yB<|yH [12] rfl<|zG<|yE N ?_ ?_
 ·intro hc N;refine zT<|zZ<|yI<|yF<|yG 2 [] [15,16] rfl<|bE N λx ay N=>xK rfl rfl h ay ?_;intro ad aN ap ak;obtain rfl:=ak;refine xA 0 ap [vT x.l] (vT x.l) rfl<|yK [] [19] rfl<|zG ?_;obtain⟨o0,aA,aQ⟩:=zB N;refine qQ (λI' ag m'=>∃(aq:List Str) (p3:Option Addr) (c3:Nat) (aM:List Value),o0=aq/\I.le I'/\(RL I' aM aq)/\ag=[hO Str (vS p3 aq c3) aM]/\m'=[(3,vS p y c),(4,vS p3 aq c3),(5,vI i)]) ?_ ?_
  ·have H:=iS I;refine yE aA ?_ ?_
   ·intro aE N;refine zJ<|yG 3 [] [20,21,22] rfl<|bE N λx1 aF N=>xK rfl rfl h aF ?_;intro ad1 bm ar au;obtain rfl:=au;refine xA 0 ar [vT x1.l] (vT x1.l) rfl<|uP [vT x1.l] Str ?_;intro b1 hb1;have h5:RL I [vT x1.l] ([x1]:List Str):=rT [x1];obtain⟨aL,aX,N⟩:=zB N;exact qA 9 1 1 rfl rfl rfl h2 (.inr ⟨0,rfl⟩) h5 aX λp4 c4 aU h6=>tX (zY [1] (ag:=[hO Str (vS p4 aL c4) aU]))<|yK [] [4] rfl<|yS<|zV ⟨_,_,_,_,(zD N).symm,H,h6,rfl,rfl⟩
   intro aE N;exact zT<|yS<|zV ⟨_,_,_,_,(zD N).symm,H,h2,rfl,rfl⟩
  rintro aT av m2 ⟨aq,p3,c3,aM,heq,aa,h4,rfl,rfl⟩;subst o0;have ⟨h,H⟩:=m2 aa h H;exact zL<|zG<|zJ<|yK [] [5] rfl<|yU<|nD<|ih aq (W (i+1)) _ aQ H h h4 hg ho hx
 intro hc N;exact wM<|yS<|hx _ _ _ _ _ (zD N).symm H h2
def jP(s:Str):Option ((List Str)):=do
 let y<-gJ s (32:UInt8);let aj<-pP y ([]:List Str) 0;pure (id aj)
theorem zCY:∀s r,jP s=some r->∀{I:Imm} ,RT 166 [vT s.l] I [] (zAd  r):=by
 intro s r N I;unfold jP at N;refine yL func166 λB=>wL []<|yW<|yG 1 [] [6] rfl<|bE N λy hy N=>xF (zBW s (32:UInt8) _ hy ) ?_;rintro I0 av v2 k2 le - ⟨v0,rfl,rfl,h⟩ -;obtain⟨p,c,rfl⟩:=h.form;refine yK [] [3] rfl<|yW<|uP [] Str ?_;intro b hb;have h1:RL I0 [] ([]:List Str):=rfl;refine yK [] [4] rfl<|zZ<|yH [5] rfl<|xY<|pE [(3,vS p y c),(4,vS (some ⟨b,0,none⟩) ([]:List Str) 0),(5,vI 0)] ?_;obtain⟨aO,aB,aG⟩:=zB N;refine zEY y ([]:List Str) 0 aO aB iR h h1 nG nO ?_;intro aP aj p2 c2 az heq1 aD h3;subst aO;refine zS<|wV [2] rfl<|xD<|yZ 0 rfl ?_;intro bx aH hl0;have h7:=SL.of_frozen hl0 aH h3;exact xU aG (resT rfl) zM ⟨_,rfl,rfl,h7⟩
def zFp(r:zF):KT:=λkk I' ag v=>
 ∃v0,ag=[]/\v=tupV [v0]/\(∃cs,v0=.agg ⟨cs⟩/\Rp.rep I' cs r)
def qN(w0:(List Str))(i:Int)(Name:Str)(Dims:List Int):Option ((Str×List Int)):=do
 let t15<-(do
  if(decide (i<(w0.length:Int))) then pure (decide (i<=4))
  else
   pure false
    : Option Bool)
 if t15 then
  if(i==1) then
   let x<-idx w0 1;qN w0 (W (i+1)) x Dims
  else
   let x1<-idx w0 i;let (y1,y2)<-eG x1;let l<-app 8 Dims ([y1]:List Int);qN w0 (W (i+1)) Name l
 else pure (Name,Dims)
 partial_fixpoint
theorem zFA(w0:(List Str)):∀(i:Int) (Name:Str) (Dims:List Int) (o:(Str×List Int)),qN w0 i Name Dims=some o->∀{B}{I0 I:Imm}{Q p c}{b b1}{p1 c1 cs},I0.le I->(S4 I p w0 c)->(RL I cs Dims)->NG Q->NO Q->(∀I' Name1 Dims1 p2 c2 az,o=(Name1,Dims1)->I0.le I'->(RL I' az Dims1)->T 39 B Q (.exit 0) I' [hO Int (vS p2 Dims1 c2) az,hB b1 [vT Name1.l,vS p2 Dims1 c2],hB b [vT ([]),z0]] [(2,vP b 0),(3,vP b1 0)])->J Tryz.prog 39 B (nav (bodyOf f167) [1,1,0,1,0]) Q I [hO Int (vS p1 Dims c1) cs,hB b1 [vT Name.l,vS p1 Dims c1],hB b [vT ([]),z0]] [(0,vS p w0 c),(2,vP b 0),(3,vP b1 0),(4,vI i)]:=by
 refine qN.partial_correctness w0 _ λaI ih i Name Dims o N B I0 I Q p c b b1 p1 c1 cs H h h2 hg ho hx=>yV hg ho<|yB<|yB ?_;refine wK N [hO Int (vS p1 Dims c1) cs,hB b1 [vT Name.l,vS p1 Dims c1],hB b [vT ([]),z0]] (λt15=>[(0,vS p w0 c),(2,vP b 0),(3,vP b1 0),(4,vI i),(15,.bool t15)]) (λo0 aA=>?_) ?_
 ·have H:=iS I;refine zJ<|yG 5 [] [12] rfl<|xZ [12] aA ?_ ?_
  ·intro hc N;exact yK [] [15] rfl<|yS<|zV (ct N H)
  intro hc N;exact wB [] [(15,vF)]<|yS<|zV (ct N H)
 intro t15 I0 le aQ;have ⟨h,h2,H⟩:=m3 le h h2 H;refine zG<|yE aQ ?_ ?_
 ·intro aE N;refine zT<|zZ<|yI<|yB<|yH [19] rfl<|zG<|yE N ?_ ?_
  ·intro aV N;refine yF<|yG 1 [] [20] rfl<|bE N λx hy N=>xK rfl rfl h hy ?_;intro ad aN ap ak;obtain rfl:=ak;exact xA 0 ap [vT x.l] (vT x.l) rfl<|yG 4 [] [23] rfl<|xI 1 [vT x.l,vS p1 Dims c1] rfl<|yA rfl<|zG<|zIN<|eZ<|zS<|zG<|zJ<|yK [] [4] rfl<|yU<|nD<|ih (W (i+1)) x Dims _ N H h h2 hg ho hx
  intro aV N;refine zT<|yW<|yG 2 [] [25,26] rfl<|bE N λx1 ay N=>xK rfl rfl h ay ?_;intro ad1 bm ar au;obtain rfl:=au;refine xA 0 ar [vT x1.l] (vT x1.l) rfl ?_;obtain⟨⟨y1,y2⟩,aF,N⟩:=zB N;refine xF (zDc x1 _ aF ) ?_;rintro aT av v2 k2 aa - ⟨v0,v01,rfl,rfl,rfl,rfl⟩ -;have ⟨h,h2,H⟩:=m3 aa h h2 H;refine yK [] [5] rfl<|zG<|zJ<|yG 3 [1] [33,34] rfl<|uP [vI y1] Int ?_;intro b2 hb2;have h6:RL aT [vI y1] ([y1]:List Int):=rI [y1];obtain⟨l,aX,N⟩:=zB N;refine qA 3 1 1 rfl rfl rfl h2 (.inr ⟨0,rfl⟩) h6 aX ?_;intro p3 c3 aM h7;exact tX (zY [1,2,3] (ag:=[hO Int (vS p3 l c3) aM,hB b1 [vT Name.l,vS p1 Dims c1],hB b [vT ([]),z0]]))<|yG 6 [] [37] rfl<|xI 1 [vT Name.l,vS p3 l c3] rfl<|yA rfl<|zL<|zG<|zJ<|yK [] [4] rfl<|yU<|nD<|ih (W (i+1)) Name l _ N H h h7 hg ho hx
 intro aE N;exact wM<|yS<|hx _ _ _ _ _ _ (zD N).symm H h2
def dL(w0:(List Str)):Option (zF):=do
 let (Name1,Dims1)<-qN w0 1 (⟨[]⟩:Str) ([]:List Int);pure (zF.mk Name1 Dims1)
theorem zHi:∀w0 r,dL w0=some r->∀{I:Imm}{p c},(S4 I p w0 c)->RT 167 [vS p w0 c] I [] (zFp  r):=by
 intro w0 r N I p c h;unfold dL at N;refine yL func167 λB=>yF<|wI [vT ([]),z0] ?_;intro b hb;refine yA rfl<|yW<|yG 1 [] [7] rfl<|wI [vT ([]),z0] ?_;intro b1 hb1;refine xI 0 [vT ([]),z0] rfl<|yA rfl<|zZ<|yH [4] rfl<|xY<|pE [(0,vS p w0 c),(2,vP b 0),(3,vP b1 0),(4,vI 1)]<|zAm Int λh1=>?_;obtain⟨aO,aB,aG⟩:=zB N;refine zFA w0 1 (⟨[]⟩:Str) ([]:List Int) aO aB iR h h1 nG nO ?_;intro aP Name1 Dims1 p2 c2 az heq1 aD h3;subst aO;refine zS<|yW<|sW 1 [1] [(38,vA [vT Name1.l,vS p2 Dims1 c2])]<|xI 2 [vT Name1.l,vS p2 Dims1 c2] rfl<|yA rfl<|xD<|yZ 0 rfl ?_;intro bx aH hl0;have h8:=SL.of_frozen hl0 aH h3;exact xU aG (resC 1 rfl rfl) zM ⟨_,rfl,rfl,⟨_,rfl,(qY ⟨_,rfl,h8⟩)⟩⟩
def zGx(r:zE):KT:=λkk I' ag v=>
 ∃v0,ag=[]/\v=tupV [v0]/\(∃cs,v0=.agg ⟨cs⟩/\Rp.rep I' cs r)
def zAH(line:Str):Option (zE):=do
 let y<-jP line;if((y.length:Int) != 3) then pure (zE.mk ([]:List zA) ([]:List zA))
 else
  let x<-idx y 1;let y1<-pO x;let x1<-idx y 2;let y2<-pO x1;pure (zE.mk y1 y2)
theorem zIa:∀line r,zAH line=some r->∀{I:Imm} ,RT 168 [vT line.l] I [] (zGx  r):=by
 intro line r N I;unfold zAH at N;refine yL func168 λB=>?_;have H:=iS I;refine yF<|wI zTwo ?_;intro b hb;refine yA rfl<|yW<|yG 1 [] [4] rfl<|bE N λy hy N=>xF (zCY line _ hy ) ?_;rintro I0 av v2 k2 le - ⟨v0,rfl,rfl,h⟩ -;have H:=H.trans le;obtain⟨p,c,rfl⟩:=h.form;refine yK [] [3] rfl<|zZ<|yH [8] rfl<|zG<|yE N ?_ ?_
 ·intro hc N;refine yF<|yG 1 [] [9] rfl<|zBu 0 zTwo [hB b zTwo] rfl rfl rfl rfl<|yA rfl<|xD<|zH ?_;exact xU N (resC 0 rfl rfl) zM ⟨_,rfl,rfl,⟨_,rfl,(qR ⟨_,_,rfl,(SL.nil _),(SL.nil _)⟩)⟩⟩
 intro hc N;refine zT<|zG<|yB ?_;obtain⟨x,ay,N⟩:=zB N;obtain⟨y1,aF,N⟩:=zB N;obtain⟨x1,aX,N⟩:=zB N;obtain⟨y2,bk,N⟩:=zB N;refine wA [.p (vS p y c) [],.x (λI' v hx=>∃ad,v=.pointer (some ad)/\hx=[]/\(At I' ad [vT x.l])),.q (vT x.l),.x (eS y1),.p (vS p y c) [],.x (λI' v hx=>∃ad1,v=.pointer (some ad1)/\hx=[]/\(At I' ad1 [vT x1.l])),.q (vT x1.l),.x (eS y2),.x (λI' v hx=>∃aR bh p21 c21,v=vA [vS aR y1 bh,vS p21 y2 c21]/\hx=[]/\(S4 I' aR y1 bh)/\(S4 I' p21 y2 c21))] [[],[(0,false)],[(1,false)],[(2,false)],[],[(4,false)],[(5,false)],[(6,false)],[(3,false),(7,false)]] [hB b zTwo] [] [(8,false)] (zY [0]) ?_ ?_
 ·refine Op<|Ox ?_<|Oq ?_<|Ox ?_<|Op<|Ox ?_<|Oq ?_<|Ox ?_<|Ox ?_<|On
  ·intro I1 hf aa;refine yP [10] rfl ?_;have h:=h.mono aa;refine xK rfl rfl h ay ?_;intro ad aN ap ak;obtain rfl:=ak;exact yM [] iR ⟨_,rfl,rfl,ap⟩
  ·rintro I1 hf aa _ _ ⟨ad,rfl,rfl,ap⟩;exact yP [11] rfl<|xA 0 ap [vT x.l] (vT x.l) rfl<|yR iR
  ·intro I1 hf aa;refine yP [12] rfl ?_;have H:=iS I1;refine xF (zAC x _ aF ) ?_;rintro aT av v2 k2 aa - ⟨v01,rfl,rfl,h1⟩ -;have H:=H.trans aa;obtain⟨p1,c1,rfl⟩:=h1.form;exact yM [] H ⟨_,_,rfl,rfl,h1⟩
  ·intro I1 hf aa;refine yP [14] rfl ?_;have h:=h.mono aa;refine xK rfl rfl h aX ?_;intro ad1 bm ar au;obtain rfl:=au;exact yM [] iR ⟨_,rfl,rfl,ar⟩
  ·rintro I1 hf aa _ _ ⟨ad1,rfl,rfl,ar⟩;exact yP [15] rfl<|xA 0 ar [vT x1.l] (vT x1.l) rfl<|yR iR
  ·intro I1 hf aa;refine yP [16] rfl ?_;have H:=iS I1;refine xF (zAC x1 _ bk ) ?_;rintro aP av v2 k2 aD - ⟨v02,rfl,rfl,h2⟩ -;have H:=H.trans aD;obtain⟨p2,c2,rfl⟩:=h2.form;exact yM [] H ⟨_,_,rfl,rfl,h2⟩
  rintro I1 hf aa _ _ ⟨p1,c1,rfl,rfl,h1⟩ _ _ ⟨p2,c2,rfl,rfl,h2⟩;exact yP [13,17] rfl<|tD 9 [(18,vA [vS p1 y1 c1,vS p2 y2 c2])]<|yM [] iR ⟨_,_,_,_,rfl,rfl,h1,h2⟩
 rintro bx aH _ _ ⟨aR,bh,p21,c21,rfl,rfl,h11,h21⟩;refine yP [2,18] rfl ?_;refine xI 0 [vS aR y1 bh,vS p21 y2 c21] rfl<|yA rfl<|zG<|yX ?_;exact xU N (resC 0 rfl rfl) zM ⟨_,rfl,rfl,⟨_,rfl,(qR ⟨_,_,rfl,h11,h21⟩)⟩⟩
end Go.LN
