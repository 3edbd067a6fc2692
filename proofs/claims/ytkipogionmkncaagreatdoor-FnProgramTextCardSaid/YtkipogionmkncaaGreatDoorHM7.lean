/- Helper of the proof (see the last text). -/
import Derived.Test.YtkipogionmkncaaGreatDoorHM6
set_option linter.unusedVariables false
set_option linter.unusedSimpArgs false
namespace Go.LN
open Go.Proofs Go.Proofs.Tryz
set_option maxRecDepth 20000
def tW(aH:List HA)(r:Bool):KT:=λkk I' ah v=>
 ∃v0,aH=ah/\v=tupV [v0]/\v0=.bool r
def yR(s1:(List zD))(s2:(List zD))(eq:(zD->zD->Option Bool))(cw:Int):Option (Out Unit (Bool)):=do
 if(decide (cw<(s1.length:Int))) then
  let x<-idx s1 cw;let x1<-idx s2 cw;let y<-eq x x1;if(!y) then pure (.ret false)
  else yR s1 s2 eq (W (cw+1))
 else pure (.done ())
 partial_fixpoint
theorem nW(s1:(List zD))(s2:(List zD))(eq:(zD->zD->Option Bool)):∀(cw:Int) (o:Out Unit (Bool)),yR s1 s2 eq cw=some o->∀{B}{I0 I:Imm}{Q p c p1 c1}{fv:Value}{aH:List HA},I0.le I->(S4 I p1 s2 c1)->(FV2 Tryz.prog I aH fv eq)->(S4 I p s1 c)->NG Q->NO Q->(∀I',o=(.done ())->I0.le I'->T 32 B Q (.exit 0) I' aH [])->(∀r I' ah m',o=(.ret r)->I0.le I'->RS Tryz.prog f62 B (tW aH r) I' ah m'->T 32 B Q .ret I' ah m')->J Tryz.prog 32 B (nav (bodyOf f62) [1,1,0,1,0]) Q I aH [(1,vS p1 s2 c1),(2,fv),(15,vS p s1 c),(16,vI (s1.length:Int)),(17,vI cw)]:=by
 refine yR.partial_correctness s1 s2 eq _ λaQ ih cw o N B I0 I Q p c p1 c1 fv aH H h1 h2 h hg ho hx hr=>xD hg ho<|yG [18] rfl<|zY<|yC N ?_ ?_
 ·intro aI N;refine zR<|zY<|yM<|yB<|zZ 1 [] [19] rfl<|bE N λx hy N=>wJ rfl rfl h hy ?_;intro ad aR av al;obtain⟨p2,c2,p3,c3,rfl,h3,h4⟩:=vZ al;refine wC 0 av (cLoop x p2 c2 p3 c3) (vA (cLoop x p2 c2 p3 c3)) rfl<|wT zTwo ?_;intro b hb;refine zZ 5 [] [7] rfl<|zAF 0 (cLoop x p2 c2 p3 c3) (hB b (cLoop x p2 c2 p3 c3)::aH) rfl rfl rfl rfl<|zW rfl<|yV<|zZ 2 [] [22,23] rfl<|bE N λx1 ay N=>wJ rfl rfl h1 ay ?_;intro cD bN aw ax;obtain⟨p4,c4,p5,c5,rfl,h5,h6⟩:=vZ ax;refine wC 0 aw (cLoop x1 p4 c4 p5 c5) (vA (cLoop x1 p4 c4 p5 c5)) rfl<|wT zTwo ?_;intro b1 cp;refine zAF 0 (cLoop x1 p4 c4 p5 c5) (hB b1 (cLoop x1 p4 c4 p5 c5)::hB b (cLoop x p2 c2 p3 c3)::aH) rfl rfl rfl rfl<|zW rfl<|yV<|qO 3 [1,0] [(26,fv),(27,vA (cLoop x p2 c2 p3 c3)),(28,vA (cLoop x1 p4 c4 p5 c5))]<|bE N λy aK N=>qM (ah:=aH++[hB b1 (cLoop x1 p4 c4 p5 c5),hB b (cLoop x p2 c2 p3 c3)]) (eQ [hB b1 (cLoop x1 p4 c4 p5 c5),hB b (cLoop x p2 c2 p3 c3)] aH)<|zKw rfl rfl rfl h2 aK ⟨_,rfl,(uW ⟨_,_,rfl,h3,h4⟩)⟩ ⟨_,rfl,(uW ⟨_,_,rfl,h5,h6⟩)⟩ rfl ?_;rintro I0 ee le rfl;refine qM (ah:=(hB b1 (cLoop x1 p4 c4 p5 c5)::hB b (cLoop x p2 c2 p3 c3)::aH)) (eQ aH [hB b1 (cLoop x1 p4 c4 p5 c5),hB b (cLoop x p2 c2 p3 c3)]) ?_;have ⟨h1,h2,h,H⟩:=m4 le h1 h2 h H;refine yI [] [30] rfl<|zK<|yC N ?_ ?_
  ·intro aU N;exact vO [(6,vF)]<|xH<|zS<|zG<|zG<|hr _ _ _ _ (zC N).symm H ⟨_,_,(resT rfl),(gS [hB b1 (cLoop x1 p4 c4 p5 c5),hB b (cLoop x p2 c2 p3 c3)] aH [] rfl (by decide)),⟨_,rfl,rfl,rfl⟩⟩
  intro aU N;exact zR<|zO<|zK<|zM<|yI [] [17] rfl<|xB<|kT (gS [hB b1 (cLoop x1 p4 c4 p5 c5),hB b (cLoop x p2 c2 p3 c3)] aH [] rfl (by decide))<|jH<|ih (W (cw+1)) _ N H h1 h2 h hg ho hx hr
 intro aI N;exact uR<|yP<|hx _  (zC N).symm H
def wK(s1:(List zD))(s2:(List zD))(eq:(zD->zD->Option Bool)):Option (Bool):=do
 if((s1.length:Int) != (s2.length:Int)) then pure false
 else
  match<-yR s1 s2 eq 0 with
  | .ret r0=>pure r0
  | .done _=>
   pure true
theorem mO:∀s1 s2 eq r,wK s1 s2 eq=some r->∀{I:Imm}{p c p1 c1}{fv:Value}{aH:List HA},(S4 I p s1 c)->(S4 I p1 s2 c1)->(FV2 Tryz.prog I aH fv eq)->RT 62 [vS p s1 c,vS p1 s2 c1,fv] I aH (tW aH r):=by
 intro s1 s2 eq r N I p c p1 c1 fv aH h h1 h2;unfold wK at N;refine yK func62 λB=>vO []<|zY<|yG [14] rfl<|zK<|yC N ?_ ?_
 ·intro hc N;refine vO [(6,vF)]<|xH<|zG ?_;exact wD N (resT rfl) (λ_ h=>h) ⟨_,rfl,rfl,rfl⟩
 intro hc N;refine zR<|zY<|yG [15,16,17] rfl<|vC<|mM [(1,vS p1 s2 c1),(2,fv),(15,vS p s1 c),(16,vI (s1.length:Int)),(17,vI 0)] ?_;obtain⟨o0,aC,aM⟩:=zB N;refine nW s1 s2 eq 0 o0 aC iR h1 h2 h nG nO ?_ ?_
 ·intro aT  ec ae;subst o0;refine zT<|zFT [(6,vY)]<|zK<|yX ?_;exact wD aM (resT rfl) (λ_ h=>h) ⟨_,rfl,rfl,rfl⟩
 intro r0 I9 gm m9 aV bS aW;subst aV;refine zS<|zG ?_;obtain rfl:=zC aM;exact fO aW
def uJ(aH:List HA)(r:Bool):KT:=λkk I' ah v=>
 ∃v0,aH=ah/\v=tupV [v0]/\v0=.bool r
def yJ(s1:(List zA))(s2:(List zA))(eq:(zA->zA->Option Bool))(cw:Int):Option (Out Unit (Bool)):=do
 if(decide (cw<(s1.length:Int))) then
  let x<-idx s1 cw;let x1<-idx s2 cw;let y<-eq x x1;if(!y) then pure (.ret false)
  else yJ s1 s2 eq (W (cw+1))
 else pure (.done ())
 partial_fixpoint
theorem pZ(s1:(List zA))(s2:(List zA))(eq:(zA->zA->Option Bool)):∀(cw:Int) (o:Out Unit (Bool)),yJ s1 s2 eq cw=some o->∀{B}{I0 I:Imm}{Q p c p1 c1}{fv:Value}{aH:List HA},I0.le I->(S4 I p1 s2 c1)->(FV2 Tryz.prog I aH fv eq)->(S4 I p s1 c)->NG Q->NO Q->(∀I',o=(.done ())->I0.le I'->T 32 B Q (.exit 0) I' aH [])->(∀r I' ah m',o=(.ret r)->I0.le I'->RS Tryz.prog f64 B (uJ aH r) I' ah m'->T 32 B Q .ret I' ah m')->J Tryz.prog 32 B (nav (bodyOf f64) [1,1,0,1,0]) Q I aH [(1,vS p1 s2 c1),(2,fv),(15,vS p s1 c),(16,vI (s1.length:Int)),(17,vI cw)]:=by
 refine yJ.partial_correctness s1 s2 eq _ λaQ ih cw o N B I0 I Q p c p1 c1 fv aH H h1 h2 h hg ho hx hr=>xD hg ho<|yG [18] rfl<|zY<|yC N ?_ ?_
 ·intro aI N;refine zR<|zY<|yM<|yB<|zZ 1 [] [19] rfl<|bE N λx hy N=>wJ rfl rfl h hy ?_;intro ad aR av al;obtain⟨p2,c2,rfl,h3⟩:=yF al;refine wC 0 av (cAff x p2 c2) (vA (cAff x p2 c2)) rfl<|wT [z0,vI 0] ?_;intro b hb;refine zZ 5 [] [7] rfl<|zAF 0 (cAff x p2 c2) (hB b (cAff x p2 c2)::aH) rfl rfl rfl rfl<|zW rfl<|yV<|zZ 2 [] [22,23] rfl<|bE N λx1 ay N=>wJ rfl rfl h1 ay ?_;intro cD bN aw ax;obtain⟨p3,c3,rfl,h4⟩:=yF ax;refine wC 0 aw (cAff x1 p3 c3) (vA (cAff x1 p3 c3)) rfl<|wT [z0,vI 0] ?_;intro b1 cp;refine zAF 0 (cAff x1 p3 c3) (hB b1 (cAff x1 p3 c3)::hB b (cAff x p2 c2)::aH) rfl rfl rfl rfl<|zW rfl<|yV<|qO 3 [1,0] [(26,fv),(27,vA (cAff x p2 c2)),(28,vA (cAff x1 p3 c3))]<|bE N λy aK N=>qM (ah:=aH++[hB b1 (cAff x1 p3 c3),hB b (cAff x p2 c2)]) (eQ [hB b1 (cAff x1 p3 c3),hB b (cAff x p2 c2)] aH)<|zKw rfl rfl rfl h2 aK ⟨_,rfl,(yH ⟨_,rfl,h3⟩)⟩ ⟨_,rfl,(yH ⟨_,rfl,h4⟩)⟩ rfl ?_;rintro I0 ig le rfl;refine qM (ah:=(hB b1 (cAff x1 p3 c3)::hB b (cAff x p2 c2)::aH)) (eQ aH [hB b1 (cAff x1 p3 c3),hB b (cAff x p2 c2)]) ?_;have ⟨h1,h2,h,H⟩:=m4 le h1 h2 h H;refine yI [] [30] rfl<|zK<|yC N ?_ ?_
  ·intro aU N;exact vO [(6,vF)]<|xH<|zS<|zG<|zG<|hr _ _ _ _ (zC N).symm H ⟨_,_,(resT rfl),(gS [hB b1 (cAff x1 p3 c3),hB b (cAff x p2 c2)] aH [] rfl (by decide)),⟨_,rfl,rfl,rfl⟩⟩
  intro aU N;exact zR<|zO<|zK<|zM<|yI [] [17] rfl<|xB<|kT (gS [hB b1 (cAff x1 p3 c3),hB b (cAff x p2 c2)] aH [] rfl (by decide))<|jH<|ih (W (cw+1)) _ N H h1 h2 h hg ho hx hr
 intro aI N;exact uR<|yP<|hx _  (zC N).symm H
def yL(s1:(List zA))(s2:(List zA))(eq:(zA->zA->Option Bool)):Option (Bool):=do
 if((s1.length:Int) != (s2.length:Int)) then pure false
 else
  match<-yJ s1 s2 eq 0 with
  | .ret r0=>pure r0
  | .done _=>
   pure true
theorem wR:∀s1 s2 eq r,yL s1 s2 eq=some r->∀{I:Imm}{p c p1 c1}{fv:Value}{aH:List HA},(S4 I p s1 c)->(S4 I p1 s2 c1)->(FV2 Tryz.prog I aH fv eq)->RT 64 [vS p s1 c,vS p1 s2 c1,fv] I aH (uJ aH r):=by
 intro s1 s2 eq r N I p c p1 c1 fv aH h h1 h2;unfold yL at N;refine yK func64 λB=>vO []<|zY<|yG [14] rfl<|zK<|yC N ?_ ?_
 ·intro hc N;refine vO [(6,vF)]<|xH<|zG ?_;exact wD N (resT rfl) (λ_ h=>h) ⟨_,rfl,rfl,rfl⟩
 intro hc N;refine zR<|zY<|yG [15,16,17] rfl<|vC<|mM [(1,vS p1 s2 c1),(2,fv),(15,vS p s1 c),(16,vI (s1.length:Int)),(17,vI 0)] ?_;obtain⟨o0,aC,aM⟩:=zB N;refine pZ s1 s2 eq 0 o0 aC iR h1 h2 h nG nO ?_ ?_
 ·intro aT  ec ae;subst o0;refine zT<|zFT [(6,vY)]<|zK<|yX ?_;exact wD aM (resT rfl) (λ_ h=>h) ⟨_,rfl,rfl,rfl⟩
 intro r0 I9 gm m9 aV bS aW;subst aV;refine zS<|zG ?_;obtain rfl:=zC aM;exact fO aW
def wU(a0:zA)(b:zA):Option (Bool):=do
 let t4<-(do
  let y<-pP a0.Coefs b.Coefs;if y then pure (a0.Const==b.Const)
  else
   pure false
    : Option Bool)
 pure (id t4)
theorem eG:∀a0 b r,wU a0 b=some r->∀{I:Imm}{p c p1 c1},(S4 I p a0.Coefs c)->(S4 I p1 b.Coefs c1)->RT 65 [vA (cAff a0 p c),vA (cAff b p1 c1)] I [] (zU  r):=by
 intro a0 b r N I p c p1 c1 h h1;unfold wU at N;refine yK func65 λB=>?_;have H:=iS I;refine yB<|sF (cAff a0 p c) ?_;intro b1 hb;refine sF (cAff b p1 c1) ?_;intro b2 cp;refine wP [] []<|zK<|yA ?_;refine wZ N [] (λt4=>[(4,.bool t4)]) (λo0 aC=>?_) ?_
 ·have H:=iS I;refine zM<|zZ 4 [1,0] [6,8] rfl ?_;obtain⟨y,hy,N⟩:=zB aC;refine uU (zAO a0.Coefs b.Coefs _ hy h h1) ?_;intro aT le;have H:=H.trans le;refine zZ 6 [] [10] rfl<|xW [10] N ?_ ?_
  ·intro hc N;exact yI [1,0] [4] rfl<|wI zN<|yP<|zQ (ct N H)
  intro hc N;exact wP [] [(4,vF)]<|wI zN<|yP<|zQ (ct N H)
 intro t4 I0 ae aO;refine zK<|yX ?_;obtain rfl:=zC aO;exact vG
def oC(x:zD)(y:zD):Option (Bool):=do
 let t4<-(do
  let y1<-yL x.Lo y.Lo wU;if y1 then
   let y2<-yL x.Hi y.Hi wU;pure (id y2)
  else
   pure false
    : Option Bool)
 pure (id t4)
theorem zFB:∀x y r,oC x y=some r->∀{I:Imm}{p c p1 c1 p2 c2 p3 c3},(S4 I p x.Lo c)->(S4 I p1 x.Hi c1)->(S4 I p2 y.Lo c2)->(S4 I p3 y.Hi c3)->RT 63 [vA (cLoop x p c p1 c1),vA (cLoop y p2 c2 p3 c3)] I [] (zU  r):=by
 intro x y r N I p c p1 c1 p2 c2 p3 c3 h h1 h2 h3;unfold oC at N;refine yK func63 λB=>?_;have H:=iS I;refine yB<|sF (cLoop x p c p1 c1) ?_;intro b hb;refine sF (cLoop y p2 c2 p3 c3) ?_;intro b1 cp;refine wP [] []<|zK<|yA ?_;refine wZ N [] (λt4=>[(4,.bool t4)]) (λo0 aC=>?_) ?_
 ·have H:=iS I;refine zM<|zZ 4 [1,0] [6,8] rfl ?_;have lJ:FV2 Tryz.prog I [] (.func (.func 65) ⟨[]⟩ ⟨[]⟩) wU:=by
   refine FV2.intro ?_;intro I1 ae x0 x1 r u0 u1 hF k0 k1;obtain⟨_,rfl,k0⟩:=k0;obtain⟨p4,c4,rfl,h4⟩:=yF k0;obtain⟨_,rfl,k1⟩:=k1;obtain⟨p5,c5,rfl,h5⟩:=yF k1;exact(eG x0 x1 r hF h4 h5).mono (by rintro k i hs u ⟨v0,rfl,rfl,h⟩;exact⟨rfl,h⟩)
  obtain⟨y1,hy,N⟩:=zB aC;refine xG (wR x.Lo y.Lo wU _ hy h h2 lJ) ?_;rintro aT au v2 k2 le - ⟨ig,rfl,rfl,rfl⟩ -;have ⟨h3,h,h1,H⟩:=m4 le h3 h h1 H;refine zZ 6 [] [10] rfl<|xW [10] N ?_ ?_
  ·intro hc N;refine zZ 10 [1,0] [12,14] rfl ?_;have tz:FV2 Tryz.prog aT [] (.func (.func 65) ⟨[]⟩ ⟨[]⟩) wU:=by
    refine FV2.intro ?_;intro I1 ae x0 x1 r u0 u1 hF k0 k1;obtain⟨_,rfl,k0⟩:=k0;obtain⟨p6,c6,rfl,h7⟩:=yF k0;obtain⟨_,rfl,k1⟩:=k1;obtain⟨p7,c7,rfl,h8⟩:=yF k1;exact(eG x0 x1 r hF h7 h8).mono (by rintro k i hs u ⟨v0,rfl,rfl,h⟩;exact⟨rfl,h⟩)
   obtain⟨y2,ay,N⟩:=zB N;refine xG (wR x.Hi y.Hi wU _ ay h1 h3 tz) ?_;rintro aY au v2 k2 ae - ⟨sk,rfl,rfl,rfl⟩ -;have H:=H.trans ae;exact yI [] [4] rfl<|wI zN<|yP<|zQ (ct N H)
  intro hc N;exact wP [] [(4,vF)]<|wI zN<|yP<|zQ (ct N H)
 intro t4 I0 aJ aO;refine zK<|yX ?_;obtain rfl:=zC aO;exact vG
def eJ(a0:(List zD))(b:(List zD)):Option (Bool):=do
 let y<-wK a0 b oC;pure (id y)
theorem zGo:∀a0 b r,eJ a0 b=some r->∀{I:Imm}{p c p1 c1},(S4 I p a0 c)->(S4 I p1 b c1)->RT 22 [vS p a0 c,vS p1 b c1] I [] (zU  r):=by
 intro a0 b r N I p c p1 c1 h h1;unfold eJ at N;refine yK func22 λB=>vO []<|yV<|zZ 2 [] [5,6] rfl ?_;have lJ:FV2 Tryz.prog I [] (.func (.func 63) ⟨[]⟩ ⟨[]⟩) oC:=by
  refine FV2.intro ?_;intro I1 ae x0 x1 r u0 u1 hF k0 k1;obtain⟨_,rfl,k0⟩:=k0;obtain⟨p2,c2,p3,c3,rfl,h2,h3⟩:=vZ k0;obtain⟨_,rfl,k1⟩:=k1;obtain⟨p4,c4,p5,c5,rfl,h4,h5⟩:=vZ k1;exact(zFB x0 x1 r hF h2 h3 h4 h5).mono (by rintro k i hs u ⟨v0,rfl,rfl,h⟩;exact⟨rfl,h⟩)
 obtain⟨y,hy,N⟩:=zB N;refine xG (mO a0 b oC _ hy h h1 lJ) ?_;rintro I0 au v2 k2 le - ⟨ee,rfl,rfl,rfl⟩ -;refine yI [] [4] rfl<|zK<|yX ?_;obtain rfl:=zC N;exact vG
def kY(a0:zJ)(b:zJ):Option (Bool):=do
 let t4<-(do
  if(a0.Array.l==b.Array.l) then
   let y<-yL a0.Subs b.Subs wU;pure (id y)
  else
   pure false
    : Option Bool)
 pure (id t4)
theorem zB5:∀a0 b r,kY a0 b=some r->∀{I:Imm}{p c p1 c1},(S4 I p a0.Subs c)->(S4 I p1 b.Subs c1)->RT 79 [vA (cAccess a0 p c),vA (cAccess b p1 c1)] I [] (zU  r):=by
 intro a0 b r N I p c p1 c1 h h1;unfold kY at N;refine yK func79 λB=>?_;have H:=iS I;refine yB<|sF (cAccess a0 p c) ?_;intro b1 hb;refine sF (cAccess b p1 c1) ?_;intro b2 cp;refine wP [] []<|zK<|yA ?_;refine wZ N [] (λt4=>[(4,.bool t4)]) (λo0 aC=>?_) ?_
 ·have H:=iS I;refine zM<|zZ 6 [1,0] [10] rfl<|xW [10] aC ?_ ?_
  ·intro hc N;refine zZ 10 [1,0] [12,14] rfl ?_;have lJ:FV2 Tryz.prog I [] (.func (.func 65) ⟨[]⟩ ⟨[]⟩) wU:=by
    refine FV2.intro ?_;intro I1 ae x0 x1 r u0 u1 hF k0 k1;obtain⟨_,rfl,k0⟩:=k0;obtain⟨p2,c2,rfl,h2⟩:=yF k0;obtain⟨_,rfl,k1⟩:=k1;obtain⟨p3,c3,rfl,h3⟩:=yF k1;exact(eG x0 x1 r hF h2 h3).mono (by rintro k i hs u ⟨v0,rfl,rfl,h⟩;exact⟨rfl,h⟩)
   obtain⟨y,hy,N⟩:=zB N;refine xG (wR a0.Subs b.Subs wU _ hy h h1 lJ) ?_;rintro aT au v2 k2 le - ⟨ig,rfl,rfl,rfl⟩ -;have H:=H.trans le;exact yI [] [4] rfl<|wI zN<|yP<|zQ (ct N H)
  intro hc N;exact wP [] [(4,vF)]<|wI zN<|yP<|zQ (ct N H)
 intro t4 I0 ae aO;refine zK<|yX ?_;obtain rfl:=zC aO;exact vG
mutual
def xP(s1:(List zF))(s2:(List zF)):Option (Bool):=do
 if((s1.length:Int) != (s2.length:Int)) then pure false
 else
  match<-xA (same s1) (same s2) (same 0) with
  | .ret r0=>pure r0
  | .done _=>
   pure true
 partial_fixpoint
def xA(s1:(List zF))(s2:(List zF))(cw:Int):Option (Out Unit (Bool)):=do
 if(decide (cw<(s1.length:Int))) then
  let x<-idx s1 cw;let x1<-idx s2 cw;let y<-gH (same x) (same x1);if(!y) then pure (.ret false)
  else xA (same s1) (same s2) (W (cw+1))
 else pure (.done ())
 partial_fixpoint
def gH(a0:zF)(b:zF):Option (Bool):=do
 let t4<-(do
  if(a0.Kind==b.Kind) then
   if(a0.Num==b.Num) then
    let y<-wU a0.Index b.Index;if y then
     let y1<-kY a0.Read b.Read;if y1 then
      let y2<-xP a0.Kids b.Kids;pure (id y2)
     else pure false
    else pure false
   else pure false
  else
   pure false
    : Option Bool)
 pure (id t4)
 partial_fixpoint
end
theorem mL:(∀(s1:(List zF)) (s2:(List zF)) r,xP s1 s2=some r->∀{I:Imm}{p c p1 c1},(S4 I p s1 c)->(S4 I p1 s2 c1)->RT 134 [vS p s1 c,vS p1 s2 c1,.func (.func 80) ⟨[]⟩ ⟨[]⟩] I [] (zU  r))/\(∀(s1:(List zF)) (s2:(List zF)) (cw:Int) o,xA s1 s2 cw=some o->∀{B}{I0 I:Imm}{Q p c p1 c1},I0.le I->(S4 I p1 s2 c1)->(S4 I p s1 c)->NG Q->NO Q->(∀I',o=(.done ())->I0.le I'->T 32 B Q (.exit 0) I' [] [])->(∀r I' ah m',o=(.ret r)->I0.le I'->RS Tryz.prog f134 B (zU  r) I' ah m'->T 32 B Q .ret I' ah m')->J Tryz.prog 32 B (nav (bodyOf f134) [1,1,0,1,0]) Q I [] [(1,vS p1 s2 c1),(2,.func (.func 80) ⟨[]⟩ ⟨[]⟩),(15,vS p s1 c),(16,vI (s1.length:Int)),(17,vI cw)])/\(∀(a0:zF) (b:zF) r,gH a0 b=some r->∀{I:Imm}{p c p1 c1 p2 c2 p3 c3 p4 c4 p5 c5},(S4 I p a0.Index.Coefs c)->(S4 I p1 a0.Read.Subs c1)->(S4 I p2 a0.Kids c2)->(S4 I p3 b.Index.Coefs c3)->(S4 I p4 b.Read.Subs c4)->(S4 I p5 b.Kids c5)->RT 80 [vA (cExpr a0 p c p1 c1 p2 c2),vA (cExpr b p3 c3 p4 c4 p5 c5)] I [] (zU  r)):=by
 refine xP.mutual_partial_correctness _ _ _ ?_ ?_ ?_
 ·intro bt ih_slices_EqualFunc_impl_Expr_impl_Expr_impl_Expr_impl_Expr_l1 s1 s2 r N I p c p1 c1 h h1;refine yK func134 λB=>vO []<|zY<|yG [14] rfl<|zK<|yC N ?_ ?_
  ·intro hc N;refine vO [(6,vF)]<|xH<|zG ?_;obtain rfl:=zC N;exact vG
  intro hc N;refine zR<|zY<|yG [15,16,17] rfl<|vC<|mM [(1,vS p1 s2 c1),(2,.func (.func 80) ⟨[]⟩ ⟨[]⟩),(15,vS p s1 c),(16,vI (s1.length:Int)),(17,vI 0)] ?_;obtain⟨o0,aC,aM⟩:=zB N;refine ih_slices_EqualFunc_impl_Expr_impl_Expr_impl_Expr_impl_Expr_l1 s1 s2 0 o0 aC iR h1 h nG nO ?_ ?_
  ·intro aT  ec ae;subst o0;refine zT<|zFT [(6,vY)]<|zK<|yX ?_;obtain rfl:=zC aM;exact vG
  intro r0 I9 gm m9 aV bS aW;subst aV;refine zS<|zG ?_;obtain rfl:=zC aM;exact fO aW
 ·intro bt sl ih_slices_EqualFunc_impl_Expr_impl_Expr_impl_Expr_impl_Expr_l1 kh s1 s2 cw o N B I0 I Q p c p1 c1 H h1 h hg ho hx hr;refine xD hg ho<|yG [18] rfl<|zY<|yC N ?_ ?_
  ·intro aI N;refine zR<|zY<|yM<|yB<|zZ 1 [] [19] rfl<|bE N λx hy N=>wJ rfl rfl h hy ?_;intro ad aR av al;obtain⟨p2,c2,p3,c3,p4,c4,rfl,h2,h3,h4⟩:=vJ al;refine wC 0 av (cExpr x p2 c2 p3 c3 p4 c4) (vA (cExpr x p2 c2 p3 c3 p4 c4)) rfl<|wT zExpr ?_;intro b hb;refine zZ 5 [] [7] rfl<|yZ 0 (cExpr x p2 c2 p3 c3 p4 c4) rfl<|zW rfl<|yV<|zZ 2 [] [22,23] rfl<|bE N λx1 ay N=>wJ rfl rfl h1 ay ?_;intro cD bN aw ax;obtain⟨p5,c5,p6,c6,p7,c7,rfl,h5,h6,h7⟩:=vJ ax;refine wC 0 aw (cExpr x1 p5 c5 p6 c6 p7 c7) (vA (cExpr x1 p5 c5 p6 c6 p7 c7)) rfl<|wT zExpr ?_;intro b1 cp;refine yZ 0 (cExpr x1 p5 c5 p6 c6 p7 c7) rfl<|zW rfl<|yV<|qO 3 [1,0] [(26,.func (.func 80) ⟨[]⟩ ⟨[]⟩),(27,vA (cExpr x p2 c2 p3 c3 p4 c4)),(28,vA (cExpr x1 p5 c5 p6 c6 p7 c7))]<|bE N λy aK N=>xG (kh x x1 _ aK h2 h3 h4 h5 h6 h7) ?_;rintro I0 au v2 k2 le - ⟨q8,rfl,rfl,rfl⟩ -;have ⟨h1,h,H⟩:=m3 le h1 h H;refine yI [] [30] rfl<|zK<|yC N ?_ ?_
   ·intro aU N;exact vO [(6,vF)]<|xH<|zS<|zG<|zG<|hr _ _ _ _ (zC N).symm H ⟨_,_,(resT rfl),zN,⟨_,rfl,rfl,rfl⟩⟩
   intro aU N;exact zR<|zO<|zK<|zM<|yI [] [17] rfl<|xB<|kT zN<|mM [(1,vS p1 s2 c1),(2,.func (.func 80) ⟨[]⟩ ⟨[]⟩),(15,vS p s1 c),(16,vI (s1.length:Int)),(17,vI (W (cw+1)))]<|ih_slices_EqualFunc_impl_Expr_impl_Expr_impl_Expr_impl_Expr_l1 s1 s2 (W (cw+1)) _ N H h1 h hg ho hx hr
  intro aI N;exact uR<|yP<|hx _  (zC N).symm H
 intro eh bD a0 b r N I p c p1 c1 p2 c2 p3 c3 p4 c4 p5 c5 h h1 h2 h3 h4 h5;refine yK func80 λB=>?_;have H:=iS I;refine yB<|sF (cExpr a0 p c p1 c1 p2 c2) ?_;intro b1 hb;refine sF (cExpr b p3 c3 p4 c4 p5 c5) ?_;intro b2 cp;refine wP [] []<|zK<|yA ?_;refine wZ N [] (λt4=>[(4,.bool t4)]) (λo0 aC=>?_) ?_
 ·have H:=iS I;refine zM<|zZ 6 [1,0] [10] rfl<|xW [10] aC ?_ ?_
  ·intro hc N;refine zZ 13 [1,0] [17] rfl<|xW [17] N ?_ ?_
   ·intro aI N;refine qO 17 [1,0] [(19,vA (cAff a0.Index p c)),(21,vA (cAff b.Index p3 c3))]<|bE N λy hy N=>uU (eG a0.Index b.Index _ hy h h3) ?_;intro aT le;have ⟨h4,h5,h1,h2,H⟩:=m5 le h4 h5 h1 h2 H;refine zZ 20 [] [24] rfl<|xW [24] N ?_ ?_
    ·intro aU N;refine qO 24 [1,0] [(26,vA (cAccess a0.Read p1 c1)),(28,vA (cAccess b.Read p4 c4))]<|bE N λy1 ay N=>uU (zB5 a0.Read b.Read _ ay h1 h4) ?_;intro aY ae;have ⟨h5,h2,H⟩:=m3 ae h5 h2 H;refine zZ 27 [] [31] rfl<|xW [31] N ?_ ?_
     ·intro bU N;refine zZ 31 [1,0] [33,35] rfl<|bE N λy2 aK N=>xG (bD a0.Kids b.Kids _ aK h2 h5) ?_;rintro bP au v2 k2 aJ - ⟨ig,rfl,rfl,rfl⟩ -;have H:=H.trans aJ;exact yI [] [4] rfl<|wI zN<|yP<|zQ (ct N H)
     intro bU N;exact wP [] [(4,vF)]<|wI zN<|yP<|zQ (ct N H)
    intro aU N;exact wP [] [(4,vF)]<|wI zN<|yP<|zQ (ct N H)
   intro aI N;exact wP [] [(4,vF)]<|wI zN<|yP<|zQ (ct N H)
  intro hc N;exact wP [] [(4,vF)]<|wI zN<|yP<|zQ (ct N H)
 intro t4 I0 aL aO;refine zK<|yX ?_;obtain rfl:=zC aO;exact vG
theorem zGp:∀a0 b r,gH a0 b=some r->∀{I:Imm}{p c p1 c1 p2 c2 p3 c3 p4 c4 p5 c5},(S4 I p a0.Index.Coefs c)->(S4 I p1 a0.Read.Subs c1)->(S4 I p2 a0.Kids c2)->(S4 I p3 b.Index.Coefs c3)->(S4 I p4 b.Read.Subs c4)->(S4 I p5 b.Kids c5)->RT 80 [vA (cExpr a0 p c p1 c1 p2 c2),vA (cExpr b p3 c3 p4 c4 p5 c5)] I [] (zU  r):=mL.2.2
def oM(a0:zI)(b:zI):Option (Bool):=do
 let t4<-(do
  let y<-kY a0.Write b.Write;if y then
   let y1<-gH a0.Value b.Value;pure (id y1)
  else
   pure false
    : Option Bool)
 pure (id t4)
theorem zGq:∀a0 b r,oM a0 b=some r->∀{I:Imm}{p c p1 c1 p2 c2 p3 c3 p4 c4 p5 c5 p6 c6 p7 c7},(S4 I p a0.Write.Subs c)->(S4 I p1 a0.Value.Index.Coefs c1)->(S4 I p2 a0.Value.Read.Subs c2)->(S4 I p3 a0.Value.Kids c3)->(S4 I p4 b.Write.Subs c4)->(S4 I p5 b.Value.Index.Coefs c5)->(S4 I p6 b.Value.Read.Subs c6)->(S4 I p7 b.Value.Kids c7)->RT 31 [vA (cStmt a0 p c p1 c1 p2 c2 p3 c3),vA (cStmt b p4 c4 p5 c5 p6 c6 p7 c7)] I [] (zU  r):=by
 intro a0 b r N I p c p1 c1 p2 c2 p3 c3 p4 c4 p5 c5 p6 c6 p7 c7 h h1 h2 h3 h4 h5 h6 h7;unfold oM at N;refine yK func31 λB=>?_;have H:=iS I;refine yB<|sF (cStmt a0 p c p1 c1 p2 c2 p3 c3) ?_;intro b1 hb;refine sF (cStmt b p4 c4 p5 c5 p6 c6 p7 c7) ?_;intro b2 cp;refine wP [] []<|zK<|yA ?_;refine wZ N [] (λt4=>[(4,.bool t4)]) (λo0 aC=>?_) ?_
 ·have H:=iS I;refine zM<|qO 4 [1,0] [(6,vA (cAccess a0.Write p c)),(8,vA (cAccess b.Write p4 c4))] ?_;obtain⟨y,hy,N⟩:=zB aC;refine uU (zB5 a0.Write b.Write _ hy h h4) ?_;intro aT le;have ⟨h5,h6,h7,h1,h2,h3⟩:=m6 le h5 h6 h7 h1 h2 h3;have H:=H.trans le;refine zZ 6 [] [10] rfl<|xW [10] N ?_ ?_
  ·intro hc N;refine qO 10 [1,0] [(12,vA (cExpr a0.Value p1 c1 p2 c2 p3 c3)),(14,vA (cExpr b.Value p5 c5 p6 c6 p7 c7))]<|bE N λy1 ay N=>uU (zGp a0.Value b.Value _ ay h1 h2 h3 h5 h6 h7) ?_;intro aY ae;have H:=H.trans ae;exact yI [] [4] rfl<|wI zN<|yP<|zQ (ct N H)
  intro hc N;exact wP [] [(4,vF)]<|wI zN<|yP<|zQ (ct N H)
 intro t4 I0 aJ aO;refine zK<|yX ?_;obtain rfl:=zC aO;exact vG
def tX(aH:List HA)(r:Bool):KT:=λkk I' ah v=>
 ∃v0,aH=ah/\v=tupV [v0]/\v0=.bool r
def yS(s1:(List zI))(s2:(List zI))(eq:(zI->zI->Option Bool))(cw:Int):Option (Out Unit (Bool)):=do
 if(decide (cw<(s1.length:Int))) then
  let x<-idx s1 cw;let x1<-idx s2 cw;let y<-eq x x1;if(!y) then pure (.ret false)
  else yS s1 s2 eq (W (cw+1))
 else pure (.done ())
 partial_fixpoint
theorem nX(s1:(List zI))(s2:(List zI))(eq:(zI->zI->Option Bool)):∀(cw:Int) (o:Out Unit (Bool)),yS s1 s2 eq cw=some o->∀{B}{I0 I:Imm}{Q p c p1 c1}{fv:Value}{aH:List HA},I0.le I->(S4 I p1 s2 c1)->(FV2 Tryz.prog I aH fv eq)->(S4 I p s1 c)->NG Q->NO Q->(∀I',o=(.done ())->I0.le I'->T 32 B Q (.exit 0) I' aH [])->(∀r I' ah m',o=(.ret r)->I0.le I'->RS Tryz.prog f49 B (tX aH r) I' ah m'->T 32 B Q .ret I' ah m')->J Tryz.prog 32 B (nav (bodyOf f49) [1,1,0,1,0]) Q I aH [(1,vS p1 s2 c1),(2,fv),(15,vS p s1 c),(16,vI (s1.length:Int)),(17,vI cw)]:=by
 refine yS.partial_correctness s1 s2 eq _ λaQ ih cw o N B I0 I Q p c p1 c1 fv aH H h1 h2 h hg ho hx hr=>xD hg ho<|yG [18] rfl<|zY<|yC N ?_ ?_
 ·intro aI N;refine zR<|zY<|yM<|yB<|zZ 1 [] [19] rfl<|bE N λx hy N=>wJ rfl rfl h hy ?_;intro ad aR av al;obtain⟨p2,c2,p3,c3,p4,c4,p5,c5,rfl,h3,h4,h5,h6⟩:=rJ al;refine wC 0 av (cStmt x p2 c2 p3 c3 p4 c4 p5 c5) (vA (cStmt x p2 c2 p3 c3 p4 c4 p5 c5)) rfl<|wT [vT ([]),z0,vI 0,vI 0,z0,vI 0,vT ([]),z0,z0] ?_;intro b hb;refine zZ 5 [] [7] rfl<|zAF 0 (cStmt x p2 c2 p3 c3 p4 c4 p5 c5) (hB b (cStmt x p2 c2 p3 c3 p4 c4 p5 c5)::aH) rfl rfl rfl rfl<|zW rfl<|yV<|zZ 2 [] [22,23] rfl<|bE N λx1 ay N=>wJ rfl rfl h1 ay ?_;intro cD bN aw ax;obtain⟨p6,c6,p7,c7,p8,c8,p9,c9,rfl,h7,h8,h9,bQ⟩:=rJ ax;refine wC 0 aw (cStmt x1 p6 c6 p7 c7 p8 c8 p9 c9) (vA (cStmt x1 p6 c6 p7 c7 p8 c8 p9 c9)) rfl<|wT [vT ([]),z0,vI 0,vI 0,z0,vI 0,vT ([]),z0,z0] ?_;intro b1 cp;refine zAF 0 (cStmt x1 p6 c6 p7 c7 p8 c8 p9 c9) (hB b1 (cStmt x1 p6 c6 p7 c7 p8 c8 p9 c9)::hB b (cStmt x p2 c2 p3 c3 p4 c4 p5 c5)::aH) rfl rfl rfl rfl<|zW rfl<|yV<|qO 3 [1,0] [(26,fv),(27,vA (cStmt x p2 c2 p3 c3 p4 c4 p5 c5)),(28,vA (cStmt x1 p6 c6 p7 c7 p8 c8 p9 c9))]<|bE N λy aK N=>qM (ah:=aH++[hB b1 (cStmt x1 p6 c6 p7 c7 p8 c8 p9 c9),hB b (cStmt x p2 c2 p3 c3 p4 c4 p5 c5)]) (eQ [hB b1 (cStmt x1 p6 c6 p7 c7 p8 c8 p9 c9),hB b (cStmt x p2 c2 p3 c3 p4 c4 p5 c5)] aH)<|zKw rfl rfl rfl h2 aK ⟨_,rfl,(wO ⟨_,_,_,_,rfl,h3,h4,h5,h6⟩)⟩ ⟨_,rfl,(wO ⟨_,_,_,_,rfl,h7,h8,h9,bQ⟩)⟩ rfl ?_;rintro I0 q9 le rfl;refine qM (ah:=(hB b1 (cStmt x1 p6 c6 p7 c7 p8 c8 p9 c9)::hB b (cStmt x p2 c2 p3 c3 p4 c4 p5 c5)::aH)) (eQ aH [hB b1 (cStmt x1 p6 c6 p7 c7 p8 c8 p9 c9),hB b (cStmt x p2 c2 p3 c3 p4 c4 p5 c5)]) ?_;have ⟨h1,h2,h,H⟩:=m4 le h1 h2 h H;refine yI [] [30] rfl<|zK<|yC N ?_ ?_
  ·intro aU N;exact vO [(6,vF)]<|xH<|zS<|zG<|zG<|hr _ _ _ _ (zC N).symm H ⟨_,_,(resT rfl),(gS [hB b1 (cStmt x1 p6 c6 p7 c7 p8 c8 p9 c9),hB b (cStmt x p2 c2 p3 c3 p4 c4 p5 c5)] aH [] rfl (by decide)),⟨_,rfl,rfl,rfl⟩⟩
  intro aU N;exact zR<|zO<|zK<|zM<|yI [] [17] rfl<|xB<|kT (gS [hB b1 (cStmt x1 p6 c6 p7 c7 p8 c8 p9 c9),hB b (cStmt x p2 c2 p3 c3 p4 c4 p5 c5)] aH [] rfl (by decide))<|jH<|ih (W (cw+1)) _ N H h1 h2 h hg ho hx hr
 intro aI N;exact uR<|yP<|hx _  (zC N).symm H
def xQ(s1:(List zI))(s2:(List zI))(eq:(zI->zI->Option Bool)):Option (Bool):=do
 if((s1.length:Int) != (s2.length:Int)) then pure false
 else
  match<-yS s1 s2 eq 0 with
  | .ret r0=>pure r0
  | .done _=>
   pure true
theorem mP:∀s1 s2 eq r,xQ s1 s2 eq=some r->∀{I:Imm}{p c p1 c1}{fv:Value}{aH:List HA},(S4 I p s1 c)->(S4 I p1 s2 c1)->(FV2 Tryz.prog I aH fv eq)->RT 49 [vS p s1 c,vS p1 s2 c1,fv] I aH (tX aH r):=by
 intro s1 s2 eq r N I p c p1 c1 fv aH h h1 h2;unfold xQ at N;refine yK func49 λB=>vO []<|zY<|yG [14] rfl<|zK<|yC N ?_ ?_
 ·intro hc N;refine vO [(6,vF)]<|xH<|zG ?_;exact wD N (resT rfl) (λ_ h=>h) ⟨_,rfl,rfl,rfl⟩
 intro hc N;refine zR<|zY<|yG [15,16,17] rfl<|vC<|mM [(1,vS p1 s2 c1),(2,fv),(15,vS p s1 c),(16,vI (s1.length:Int)),(17,vI 0)] ?_;obtain⟨o0,aC,aM⟩:=zB N;refine nX s1 s2 eq 0 o0 aC iR h1 h2 h nG nO ?_ ?_
 ·intro aT  ec ae;subst o0;refine zT<|zFT [(6,vY)]<|zK<|yX ?_;exact wD aM (resT rfl) (λ_ h=>h) ⟨_,rfl,rfl,rfl⟩
 intro r0 I9 gm m9 aV bS aW;subst aV;refine zS<|zG ?_;obtain rfl:=zC aM;exact fO aW
def tT(x:zL)(y:zL):Option (Bool):=do
 let t4<-(do
  let y1<-eJ x.Nest y.Nest;if y1 then
   let y2<-xQ x.Body y.Body oM;pure (id y2)
  else
   pure false
    : Option Bool)
 pure (id t4)
theorem zDW:∀x y r,tT x y=some r->∀{I:Imm}{p c p1 c1 p2 c2 p3 c3},(S4 I p x.Nest c)->(S4 I p1 x.Body c1)->(S4 I p2 y.Nest c2)->(S4 I p3 y.Body c3)->RT 48 [vA (cPart x p c p1 c1),vA (cPart y p2 c2 p3 c3)] I [] (zU  r):=by
 intro x y r N I p c p1 c1 p2 c2 p3 c3 h h1 h2 h3;unfold tT at N;refine yK func48 λB=>?_;have H:=iS I;refine yB<|sF (cPart x p c p1 c1) ?_;intro b hb;refine sF (cPart y p2 c2 p3 c3) ?_;intro b1 cp;refine wP [] []<|zK<|yA ?_;refine wZ N [] (λt4=>[(4,.bool t4)]) (λo0 aC=>?_) ?_
 ·have H:=iS I;refine zM<|zZ 4 [1,0] [6,8] rfl ?_;obtain⟨y1,hy,N⟩:=zB aC;refine uU (zGo x.Nest y.Nest _ hy h h2) ?_;intro aT le;have ⟨h3,h,h1,H⟩:=m4 le h3 h h1 H;refine zZ 6 [] [10] rfl<|xW [10] N ?_ ?_
  ·intro hc N;refine zZ 10 [1,0] [12,14] rfl ?_;have lJ:FV2 Tryz.prog aT [] (.func (.func 31) ⟨[]⟩ ⟨[]⟩) oM:=by
    refine FV2.intro ?_;intro I1 ae x0 x1 r u0 u1 hF k0 k1;obtain⟨_,rfl,k0⟩:=k0;obtain⟨p4,c4,p5,c5,p6,c6,p7,c7,rfl,h5,h6,h7,h8⟩:=rJ k0;obtain⟨_,rfl,k1⟩:=k1;obtain⟨p8,c8,p9,c9,bH,bG,bd,bj,rfl,h9,bQ,bB,bW⟩:=rJ k1;exact(zGq x0 x1 r hF h5 h6 h7 h8 h9 bQ bB bW).mono (by rintro k i hs u ⟨v0,rfl,rfl,h⟩;exact⟨rfl,h⟩)
   obtain⟨y2,ay,N⟩:=zB N;refine xG (mP x.Body y.Body oM _ ay h1 h3 lJ) ?_;rintro aY au v2 k2 ae - ⟨v09,rfl,rfl,rfl⟩ -;have H:=H.trans ae;exact yI [] [4] rfl<|wI zN<|yP<|zQ (ct N H)
  intro hc N;exact wP [] [(4,vF)]<|wI zN<|yP<|zQ (ct N H)
 intro t4 I0 aJ aO;refine zK<|yX ?_;obtain rfl:=zC aO;exact vG
def tD(aH:List HA)(r:Bool):KT:=λkk I' ah v=>
 ∃v0,aH=ah/\v=tupV [v0]/\v0=.bool r
def yO(s1:(List zE))(s2:(List zE))(eq:(zE->zE->Option Bool))(cw:Int):Option (Out Unit (Bool)):=do
 if(decide (cw<(s1.length:Int))) then
  let x<-idx s1 cw;let x1<-idx s2 cw;let y<-eq x x1;if(!y) then pure (.ret false)
  else yO s1 s2 eq (W (cw+1))
 else pure (.done ())
 partial_fixpoint
theorem oW(s1:(List zE))(s2:(List zE))(eq:(zE->zE->Option Bool)):∀(cw:Int) (o:Out Unit (Bool)),yO s1 s2 eq cw=some o->∀{B}{I0 I:Imm}{Q p c p1 c1}{fv:Value}{aH:List HA},I0.le I->(S4 I p1 s2 c1)->(FV2 Tryz.prog I aH fv eq)->(S4 I p s1 c)->NG Q->NO Q->(∀I',o=(.done ())->I0.le I'->T 32 B Q (.exit 0) I' aH [])->(∀r I' ah m',o=(.ret r)->I0.le I'->RS Tryz.prog f50 B (tD aH r) I' ah m'->T 32 B Q .ret I' ah m')->J Tryz.prog 32 B (nav (bodyOf f50) [1,1,0,1,0]) Q I aH [(1,vS p1 s2 c1),(2,fv),(15,vS p s1 c),(16,vI (s1.length:Int)),(17,vI cw)]:=by
 refine yO.partial_correctness s1 s2 eq _ λaQ ih cw o N B I0 I Q p c p1 c1 fv aH H h1 h2 h hg ho hx hr=>xD hg ho<|yG [18] rfl<|zY<|yC N ?_ ?_
 ·intro aI N;refine zR<|zY<|yM<|yB<|zZ 1 [] [19] rfl<|bE N λx hy N=>wJ rfl rfl h hy ?_;intro ad aR av al;obtain⟨p2,c2,rfl,h3⟩:=wN al;refine wC 0 av (cArr x p2 c2) (vA (cArr x p2 c2)) rfl<|wT [vT ([]),z0] ?_;intro b hb;refine zZ 5 [] [7] rfl<|zAF 0 (cArr x p2 c2) (hB b (cArr x p2 c2)::aH) rfl rfl rfl rfl<|zW rfl<|yV<|zZ 2 [] [22,23] rfl<|bE N λx1 ay N=>wJ rfl rfl h1 ay ?_;intro cD bN aw ax;obtain⟨p3,c3,rfl,h4⟩:=wN ax;refine wC 0 aw (cArr x1 p3 c3) (vA (cArr x1 p3 c3)) rfl<|wT [vT ([]),z0] ?_;intro b1 cp;refine zAF 0 (cArr x1 p3 c3) (hB b1 (cArr x1 p3 c3)::hB b (cArr x p2 c2)::aH) rfl rfl rfl rfl<|zW rfl<|yV<|qO 3 [1,0] [(26,fv),(27,vA (cArr x p2 c2)),(28,vA (cArr x1 p3 c3))]<|bE N λy aK N=>qM (ah:=aH++[hB b1 (cArr x1 p3 c3),hB b (cArr x p2 c2)]) (eQ [hB b1 (cArr x1 p3 c3),hB b (cArr x p2 c2)] aH)<|zKw rfl rfl rfl h2 aK ⟨_,rfl,(sL ⟨_,rfl,h3⟩)⟩ ⟨_,rfl,(sL ⟨_,rfl,h4⟩)⟩ rfl ?_;rintro I0 ig le rfl;refine qM (ah:=(hB b1 (cArr x1 p3 c3)::hB b (cArr x p2 c2)::aH)) (eQ aH [hB b1 (cArr x1 p3 c3),hB b (cArr x p2 c2)]) ?_;have ⟨h1,h2,h,H⟩:=m4 le h1 h2 h H;refine yI [] [30] rfl<|zK<|yC N ?_ ?_
  ·intro aU N;exact vO [(6,vF)]<|xH<|zS<|zG<|zG<|hr _ _ _ _ (zC N).symm H ⟨_,_,(resT rfl),(gS [hB b1 (cArr x1 p3 c3),hB b (cArr x p2 c2)] aH [] rfl (by decide)),⟨_,rfl,rfl,rfl⟩⟩
  intro aU N;exact zR<|zO<|zK<|zM<|yI [] [17] rfl<|xB<|kT (gS [hB b1 (cArr x1 p3 c3),hB b (cArr x p2 c2)] aH [] rfl (by decide))<|jH<|ih (W (cw+1)) _ N H h1 h2 h hg ho hx hr
 intro aI N;exact uR<|yP<|hx _  (zC N).symm H
def xJ(s1:(List zE))(s2:(List zE))(eq:(zE->zE->Option Bool)):Option (Bool):=do
 if((s1.length:Int) != (s2.length:Int)) then pure false
 else
  match<-yO s1 s2 eq 0 with
  | .ret r0=>pure r0
  | .done _=>
   pure true
theorem nF:∀s1 s2 eq r,xJ s1 s2 eq=some r->∀{I:Imm}{p c p1 c1}{fv:Value}{aH:List HA},(S4 I p s1 c)->(S4 I p1 s2 c1)->(FV2 Tryz.prog I aH fv eq)->RT 50 [vS p s1 c,vS p1 s2 c1,fv] I aH (tD aH r):=by
 intro s1 s2 eq r N I p c p1 c1 fv aH h h1 h2;unfold xJ at N;refine yK func50 λB=>vO []<|zY<|yG [14] rfl<|zK<|yC N ?_ ?_
 ·intro hc N;refine vO [(6,vF)]<|xH<|zG ?_;exact wD N (resT rfl) (λ_ h=>h) ⟨_,rfl,rfl,rfl⟩
 intro hc N;refine zR<|zY<|yG [15,16,17] rfl<|vC<|mM [(1,vS p1 s2 c1),(2,fv),(15,vS p s1 c),(16,vI (s1.length:Int)),(17,vI 0)] ?_;obtain⟨o0,aC,aM⟩:=zB N;refine oW s1 s2 eq 0 o0 aC iR h1 h2 h nG nO ?_ ?_
 ·intro aT  ec ae;subst o0;refine zT<|zFT [(6,vY)]<|zK<|yX ?_;exact wD aM (resT rfl) (λ_ h=>h) ⟨_,rfl,rfl,rfl⟩
 intro r0 I9 gm m9 aV bS aW;subst aV;refine zS<|zG ?_;obtain rfl:=zC aM;exact fO aW
def tY(aH:List HA)(r:Bool):KT:=λkk I' ah v=>
 ∃v0,aH=ah/\v=tupV [v0]/\v0=.bool r
def yT(s1:(List zL))(s2:(List zL))(eq:(zL->zL->Option Bool))(cw:Int):Option (Out Unit (Bool)):=do
 if(decide (cw<(s1.length:Int))) then
  let x<-idx s1 cw;let x1<-idx s2 cw;let y<-eq x x1;if(!y) then pure (.ret false)
  else yT s1 s2 eq (W (cw+1))
 else pure (.done ())
 partial_fixpoint
theorem nY(s1:(List zL))(s2:(List zL))(eq:(zL->zL->Option Bool)):∀(cw:Int) (o:Out Unit (Bool)),yT s1 s2 eq cw=some o->∀{B}{I0 I:Imm}{Q p c p1 c1}{fv:Value}{aH:List HA},I0.le I->(S4 I p1 s2 c1)->(FV2 Tryz.prog I aH fv eq)->(S4 I p s1 c)->NG Q->NO Q->(∀I',o=(.done ())->I0.le I'->T 32 B Q (.exit 0) I' aH [])->(∀r I' ah m',o=(.ret r)->I0.le I'->RS Tryz.prog f51 B (tY aH r) I' ah m'->T 32 B Q .ret I' ah m')->J Tryz.prog 32 B (nav (bodyOf f51) [1,1,0,1,0]) Q I aH [(1,vS p1 s2 c1),(2,fv),(15,vS p s1 c),(16,vI (s1.length:Int)),(17,vI cw)]:=by
 refine yT.partial_correctness s1 s2 eq _ λaQ ih cw o N B I0 I Q p c p1 c1 fv aH H h1 h2 h hg ho hx hr=>xD hg ho<|yG [18] rfl<|zY<|yC N ?_ ?_
 ·intro aI N;refine zR<|zY<|yM<|yB<|zZ 1 [] [19] rfl<|bE N λx hy N=>wJ rfl rfl h hy ?_;intro ad aR av al;obtain⟨p2,c2,p3,c3,rfl,h3,h4⟩:=uK al;refine wC 0 av (cPart x p2 c2 p3 c3) (vA (cPart x p2 c2 p3 c3)) rfl<|wT zTwo ?_;intro b hb;refine zZ 5 [] [7] rfl<|zAF 0 (cPart x p2 c2 p3 c3) (hB b (cPart x p2 c2 p3 c3)::aH) rfl rfl rfl rfl<|zW rfl<|yV<|zZ 2 [] [22,23] rfl<|bE N λx1 ay N=>wJ rfl rfl h1 ay ?_;intro cD bN aw ax;obtain⟨p4,c4,p5,c5,rfl,h5,h6⟩:=uK ax;refine wC 0 aw (cPart x1 p4 c4 p5 c5) (vA (cPart x1 p4 c4 p5 c5)) rfl<|wT zTwo ?_;intro b1 cp;refine zAF 0 (cPart x1 p4 c4 p5 c5) (hB b1 (cPart x1 p4 c4 p5 c5)::hB b (cPart x p2 c2 p3 c3)::aH) rfl rfl rfl rfl<|zW rfl<|yV<|qO 3 [1,0] [(26,fv),(27,vA (cPart x p2 c2 p3 c3)),(28,vA (cPart x1 p4 c4 p5 c5))]<|bE N λy aK N=>qM (ah:=aH++[hB b1 (cPart x1 p4 c4 p5 c5),hB b (cPart x p2 c2 p3 c3)]) (eQ [hB b1 (cPart x1 p4 c4 p5 c5),hB b (cPart x p2 c2 p3 c3)] aH)<|zKw rfl rfl rfl h2 aK ⟨_,rfl,(rS ⟨_,_,rfl,h3,h4⟩)⟩ ⟨_,rfl,(rS ⟨_,_,rfl,h5,h6⟩)⟩ rfl ?_;rintro I0 ee le rfl;refine qM (ah:=(hB b1 (cPart x1 p4 c4 p5 c5)::hB b (cPart x p2 c2 p3 c3)::aH)) (eQ aH [hB b1 (cPart x1 p4 c4 p5 c5),hB b (cPart x p2 c2 p3 c3)]) ?_;have ⟨h1,h2,h,H⟩:=m4 le h1 h2 h H;refine yI [] [30] rfl<|zK<|yC N ?_ ?_
  ·intro aU N;exact vO [(6,vF)]<|xH<|zS<|zG<|zG<|hr _ _ _ _ (zC N).symm H ⟨_,_,(resT rfl),(gS [hB b1 (cPart x1 p4 c4 p5 c5),hB b (cPart x p2 c2 p3 c3)] aH [] rfl (by decide)),⟨_,rfl,rfl,rfl⟩⟩
  intro aU N;exact zR<|zO<|zK<|zM<|yI [] [17] rfl<|xB<|kT (gS [hB b1 (cPart x1 p4 c4 p5 c5),hB b (cPart x p2 c2 p3 c3)] aH [] rfl (by decide))<|jH<|ih (W (cw+1)) _ N H h1 h2 h hg ho hx hr
 intro aI N;exact uR<|yP<|hx _  (zC N).symm H
def xR(s1:(List zL))(s2:(List zL))(eq:(zL->zL->Option Bool)):Option (Bool):=do
 if((s1.length:Int) != (s2.length:Int)) then pure false
 else
  match<-yT s1 s2 eq 0 with
  | .ret r0=>pure r0
  | .done _=>
   pure true
theorem mQ:∀s1 s2 eq r,xR s1 s2 eq=some r->∀{I:Imm}{p c p1 c1}{fv:Value}{aH:List HA},(S4 I p s1 c)->(S4 I p1 s2 c1)->(FV2 Tryz.prog I aH fv eq)->RT 51 [vS p s1 c,vS p1 s2 c1,fv] I aH (tY aH r):=by
 intro s1 s2 eq r N I p c p1 c1 fv aH h h1 h2;unfold xR at N;refine yK func51 λB=>vO []<|zY<|yG [14] rfl<|zK<|yC N ?_ ?_
 ·intro hc N;refine vO [(6,vF)]<|xH<|zG ?_;exact wD N (resT rfl) (λ_ h=>h) ⟨_,rfl,rfl,rfl⟩
 intro hc N;refine zR<|zY<|yG [15,16,17] rfl<|vC<|mM [(1,vS p1 s2 c1),(2,fv),(15,vS p s1 c),(16,vI (s1.length:Int)),(17,vI 0)] ?_;obtain⟨o0,aC,aM⟩:=zB N;refine nY s1 s2 eq 0 o0 aC iR h1 h2 h nG nO ?_ ?_
 ·intro aT  ec ae;subst o0;refine zT<|zFT [(6,vY)]<|zK<|yX ?_;exact wD aM (resT rfl) (λ_ h=>h) ⟨_,rfl,rfl,rfl⟩
 intro r0 I9 gm m9 aV bS aW;subst aV;refine zS<|zG ?_;obtain rfl:=zC aM;exact fO aW
def qY(a0:zH)(b:zH):Option (Bool):=do
 let t4<-(do
  let y<-xJ a0.Arrays b.Arrays tS;if y then
   let y1<-xR a0.Parts b.Parts tT;pure (id y1)
  else
   pure false
    : Option Bool)
 pure (id t4)
theorem zBJ:∀a0 b r,qY a0 b=some r->∀{I:Imm}{p c p1 c1 p2 c2 p3 c3},(S4 I p a0.Arrays c)->(S4 I p1 a0.Parts c1)->(S4 I p2 b.Arrays c2)->(S4 I p3 b.Parts c3)->RT 13 [vA (cProg a0 p c p1 c1),vA (cProg b p2 c2 p3 c3)] I [] (zU  r):=by
 intro a0 b r N I p c p1 c1 p2 c2 p3 c3 h h1 h2 h3;unfold qY at N;refine yK func13 λB=>?_;have H:=iS I;refine yB<|sF (cProg a0 p c p1 c1) ?_;intro b1 hb;refine sF (cProg b p2 c2 p3 c3) ?_;intro b2 cp;refine wP [] []<|uX [5] rfl<|uX [6] rfl<|zK<|yA ?_;refine wZ N [] (λt4=>[(4,.bool t4)]) (λo0 aC=>?_) ?_
 ·have H:=iS I;refine zM<|zZ 5 [1,0] [8,10,11] rfl ?_;have lJ:FV2 Tryz.prog I [] (.func (.func 46) ⟨[]⟩ ⟨[]⟩) tS:=by
   refine FV2.intro ?_;intro I1 ae x0 x1 r u0 u1 hF k0 k1;obtain⟨_,rfl,k0⟩:=k0;obtain⟨p4,c4,rfl,h4⟩:=wN k0;obtain⟨_,rfl,k1⟩:=k1;obtain⟨p5,c5,rfl,h5⟩:=wN k1;exact(zDV x0 x1 r hF h4 h5).mono (by rintro k i hs u ⟨v0,rfl,rfl,h⟩;exact⟨rfl,h⟩)
  obtain⟨y,hy,N⟩:=zB aC;refine xG (nF a0.Arrays b.Arrays tS _ hy h h2 lJ) ?_;rintro aT au v2 k2 le - ⟨ig,rfl,rfl,rfl⟩ -;have ⟨h3,h,h1,H⟩:=m4 le h3 h h1 H;refine zZ 7 [] [13] rfl<|xW [13] N ?_ ?_
  ·intro hc N;refine zZ 12 [1,0] [15,17,18] rfl ?_;have tz:FV2 Tryz.prog aT [] (.func (.func 48) ⟨[]⟩ ⟨[]⟩) tT:=by
    refine FV2.intro ?_;intro I1 ae x0 x1 r u0 u1 hF k0 k1;obtain⟨_,rfl,k0⟩:=k0;obtain⟨p6,c6,p7,c7,rfl,h7,h8⟩:=uK k0;obtain⟨_,rfl,k1⟩:=k1;obtain⟨p8,c8,p9,c9,rfl,h9,bQ⟩:=uK k1;exact(zDW x0 x1 r hF h7 h8 h9 bQ).mono (by rintro k i hs u ⟨v0,rfl,rfl,h⟩;exact⟨rfl,h⟩)
   obtain⟨y1,ay,N⟩:=zB N;refine xG (mQ a0.Parts b.Parts tT _ ay h1 h3 tz) ?_;rintro aY au v2 k2 ae - ⟨v07,rfl,rfl,rfl⟩ -;have H:=H.trans ae;exact yI [] [4] rfl<|wI zN<|yP<|zQ (ct N H)
  intro hc N;exact wP [] [(4,vF)]<|wI zN<|yP<|zQ (ct N H)
 intro t4 I0 aJ aO;refine zK<|yX ?_;obtain rfl:=zC aO;exact vG
def zGr(b0:Nat)(r:Str×zP):KT:=λkk I' ah v=>
 ∃v0 k0,ah=[.blk b0 ⟨k0⟩]/\v=tupV [v0]/\v0=.string ⟨⟨r.1.l⟩⟩/\Rp.rep I' k0 r.2
def zAB(r0:zP)(s:Str)(bits:(List Str)):Option (Str×zP):=do
 let (f7,x)<-(do
  if((s.l.length:Int)==0) then pure (true,r0)
  else
   let (y1,y2)<-xF r0 2;pure ((y1==0),y2)
    : Option (Bool×zP))
 if f7 then pure (s,x)
 else
  let (y4,y5)<-xF x (s.l.length:Int);let s1<-sslc s 0 y4;let (y7,y8)<-mG y5 bits;let s2<-cat s1 y7;let (y10,fm)<-xF y8 2;let s3<-sslc s (W (y4+y10)) (s.l.length:Int);let s4<-cat s2 s3;pure (s4,fm)
theorem zIR:∀r0 s bits r,zAB r0 s bits=some r->∀{I:Imm}{ap}{p c p1 c1},(S4 I p r0.b c)->(S4 I p1 bits c1)->RT 53 [vP ap 0,vT s.l,vS p1 bits c1] I [hB ap (cRd r0 p c)] (zGr ap r):=by
 intro r0 s bits r N I ap p c p1 c1 h h1;unfold zAB at N;refine yK func53 λB=>?_;have H:=iS I;refine vO []<|zY<|yA ?_;obtain⟨o0,aC,aO⟩:=zB N;refine rR (λI' ah m'=>∃(f7:Bool) (x:zP) (p2:Option Addr) (c2:Nat),o0=(f7,x)/\I.le I'/\(S4 I' p2 x.b c2)/\ah=[hB ap (cRd x p2 c2)]/\m'=[(0,vP ap 0),(1,vT s.l),(2,vS p1 bits c1),(15,.bool f7)]) ?_ ?_
 ·have H:=iS I;refine zM<|zZ 4 [] [11] rfl<|xW [11] aC ?_ ?_
  ·intro hc N;exact wP [] [(15,vY)]<|yP<|zQ ⟨_,_,_,_,(zC N).symm,H,h,rfl,rfl⟩
  intro hc N;refine zZ 5 [] [12] rfl ?_;obtain⟨⟨y1,y2⟩,hy,N⟩:=zB N;refine tU (xX r0 2 _ hy h) rfl ?_;rintro aT au v2 k2 le - ⟨v0,kk,rfl,rfl,rfl,h4⟩ -;have H:=H.trans le;obtain⟨p3,c3,rfl,h5⟩:=yD h4;exact yI [] [15] rfl<|yP<|zQ ⟨_,_,_,_,(zC N).symm,H,h5,rfl,rfl⟩
 rintro I0 au m2 ⟨f7,x,p2,c2,ec,ae,h2,rfl,rfl⟩;subst o0;have ⟨h1,H⟩:=m2 ae h1 H;refine zK<|yC aO ?_ ?_
 ·intro aI N;refine yG [6] rfl<|xH<|zG ?_;exact wD N (resT rfl) (zV [0] rfl (by decide)) ⟨_,_,rfl,rfl,rfl,(xE ⟨_,rfl,h2⟩)⟩
 intro aI N;refine zR<|yV<|zZ 3 [] [17,19] rfl ?_;obtain⟨⟨y4,y5⟩,ay,N⟩:=zB N;refine tU (xX x (s.l.length:Int) _ ay h2) rfl ?_;rintro aY au v2 k2 aJ - ⟨ig,oe,rfl,rfl,rfl,h7⟩ -;have ⟨h1,H⟩:=m2 aJ h1 H;obtain⟨p4,c4,rfl,h8⟩:=yD h7;refine yI [] [7] rfl<|zK<|yA ?_;obtain⟨s1,aK,N⟩:=zB N;obtain⟨⟨y7,y8⟩,bc,N⟩:=zB N;obtain⟨s2,bL,N⟩:=zB N;obtain⟨⟨y10,fm⟩,bX,N⟩:=zB N;obtain⟨s3,cx,N⟩:=zB N;obtain⟨s4,cV,N⟩:=zB N;refine vK [.p (vT s.l) [],.p (vI y4) [],.q (vT s1.l),.p (vP ap 0) [],.p (vS p1 bits c1) [],.x (λI' v hx=>∃p5 c5,v=vT y7.l/\hx=[hB ap (cRd y8 p5 c5)]/\(S4 I' p5 y8.b c5)),.q (vT s2.l),.p (vT s.l) [],.p (vI y4) [],.p (vP ap 0) [],.x (λI' v hx=>∃p6 c6,v=vI y10/\hx=[hB ap (cRd fm p6 c6)]/\(S4 I' p6 fm.b c6)),.q (vI (W (y4+y10))),.q (vT s3.l),.q (vT s4.l)] [[],[],[(0,F9),(1,F9)],[],[],[(3,F9),(4,F9),(15,true)],[(2,F9),(5,F9)],[],[],[],[(9,F9),(5,true)],[(8,F9),(10,F9)],[(7,F9),(11,F9)],[(6,F9),(12,F9)]] [] [[hB ap (cRd y5 p4 c4)]] [(10,true),(13,F9)] (zX [0]) ?_ ?_
 ·refine O2<|Oq ?_<|O2<|Ox ?_<|Oq ?_<|O3<|Ox ?_<|Oq ?_<|Oq ?_<|Oq ?_<|On
  ·intro I1 hf ae;exact yW [21,22] rfl<|zB8 rfl aK<|yQ iR
  ·rintro I1 hf ae _ _ ⟨rfl,rfl⟩ _ _ ⟨rfl,rfl⟩ _ _ rfl;refine yW [24,25] rfl ?_;have H:=iS I1;have ⟨h1,h8⟩:=m2 ae h1 h8;refine tU (dK y5 bits _ bc h8 h1) rfl ?_;rintro bP au v2 k2 aL - ⟨ee,oy,rfl,rfl,rfl,bQ⟩ -;have H:=H.trans aL;obtain⟨p5,c5,rfl,bB⟩:=yD bQ;exact xC [hB ap (cRd y8 p5 c5)] H ⟨_,_,rfl,rfl,bB⟩
  ·rintro I1 hf ae _ _ ⟨rfl,rfl⟩ _ _ ⟨p5,c5,rfl,rfl,bB⟩;exact yW [23,26] rfl<|qP rfl bL<|yQ iR
  ·rintro I1 hf ae _ _ ⟨rfl,rfl⟩ _ _ ⟨p5,c5,rfl,rfl,bB⟩;refine yW [30] rfl ?_;have H:=iS I1;refine tU (xX y8 2 _ bX bB) rfl ?_;rintro cI au v2 k2 bb - ⟨q8,kk3,rfl,rfl,rfl,cy⟩ -;have H:=H.trans bb;obtain⟨p6,c6,rfl,bV⟩:=yD cy;exact xC [hB ap (cRd fm p6 c6)] H ⟨_,_,rfl,rfl,bV⟩
  ·rintro I1 hf ae _ _ ⟨rfl,rfl⟩ _ _ ⟨p6,c6,rfl,rfl,bV⟩;exact yW [29,31] rfl<|pQ 12 [(32,vI (W (y4+y10)))]<|yQ iR
  ·intro I1 hf ae;exact yW [28,32] rfl<|zB8 rfl cx<|yQ iR
  intro I1 hf ae;exact yW [27,33] rfl<|qP rfl cV<|yQ iR
 rintro dw bI _ _ ⟨p6,c6,rfl,rfl,bV⟩;refine yW [34] rfl ?_;refine yI [] [6] rfl<|zK<|yX ?_;exact wD N (resT rfl) (zV [0] rfl (by decide)) ⟨_,_,rfl,rfl,rfl,(xE ⟨_,rfl,bV⟩)⟩
def nD(bo:(List UInt8)):Option (Str):=do
 let y<-fF bo;let (y2,y3)<-eV y;let y4<-vW y2;let (y6,y7)<-zAB y3 y4 ([(⟨[]⟩:Str),(⟨[32]⟩:Str),(⟨[10]⟩:Str),(⟨[105]⟩:Str),(⟨[48]⟩:Str),(⟨[91]⟩:Str),(⟨[112,97,114,116]⟩:Str),(⟨[57]⟩:Str)]:List Str);pure (id y6)
theorem zCK:∀bo r,nD bo=some r->∀{I:Imm}{p c},(S4 I p bo c)->RT 14 [vS p bo c] I [] (xM  r):=by
 intro bo r N I p c h;unfold nD at N;refine yK func14 λB=>vO []<|yV<|zZ 1 [] [4] rfl<|bE N λy hy N=>xG (zDG bo _ hy h) ?_;rintro I0 au v2 k2 le - ⟨b,p1,c1,rfl,rfl,h1⟩ -;refine yI [] [3] rfl<|yV<|zZ 2 [] [6,7] rfl ?_;obtain⟨⟨y2,y3⟩,ay,N⟩:=zB N;refine tU (zDe y _ ay h1) rfl ?_;rintro aT au v2 k2 ae - ⟨v0,kk,rfl,rfl,⟨cs,rfl,h2⟩,h3⟩ -;obtain⟨p2,c2,p3,c3,rfl,h4,h5⟩:=mE h2;obtain⟨p4,c4,rfl,h6⟩:=yD h3;obtain⟨y4,aK,N⟩:=zB N;refine xG (qJ y2 _ aK h4 h5) ?_;rintro aY au v2 k2 aJ - ⟨ee,rfl,rfl,rfl⟩ -;have h6:=h6.mono aJ;refine jW (rT [(⟨[]⟩:Str),(⟨[32]⟩:Str),(⟨[10]⟩:Str),(⟨[105]⟩:Str),(⟨[48]⟩:Str),(⟨[91]⟩:Str),(⟨[112,97,114,116]⟩:Str),(⟨[57]⟩:Str)]) ?_;intro b1 bP aL h9;have h6:=h6.mono aL;obtain⟨⟨y6,y7⟩,bc,N⟩:=zB N;refine tU (zIR y3 y4 ([(⟨[]⟩:Str),(⟨[32]⟩:Str),(⟨[10]⟩:Str),(⟨[105]⟩:Str),(⟨[48]⟩:Str),(⟨[91]⟩:Str),(⟨[112,97,114,116]⟩:Str),(⟨[57]⟩:Str)]:List Str) _ bc h6 h9) rfl ?_;rintro cI au v2 k2 bb - ⟨sk,oe,rfl,rfl,rfl,bB⟩ -;obtain⟨p5,c5,rfl,bW⟩:=yD bB;refine yI [] [2] rfl<|zK<|yX ?_;obtain rfl:=zC N;exact vG
def sE(y:(List Str))(out:List Str)(i:Int):Option (List Str):=do
 if(decide (i<(y.length:Int))) then
  let x<-idx y i;let aD<-(do
   if(!(x.l==([]:List UInt8))) then
    let x1<-idx y i;let bR<-app 16 out ([x1]:List Str);pure (id bR)
   else
    pure (id out)
     : Option (List Str))
  sE y aD (W (i+1))
 else pure (id out)
 partial_fixpoint
theorem zE1(y:(List Str)):∀(out:List Str) (i:Int) (o:List Str),sE y out i=some o->∀{B}{I0 I:Imm}{Q p c p1 c1 cs},I0.le I->(S4 I p y c)->(RL I cs out)->NG Q->NO Q->(∀I' aq p2 c2 aA,o=aq->I0.le I'->(RL I' aA aq)->T 28 B Q (.exit 0) I' [hO Str (vS p2 aq c2) aA] [(4,vS p2 aq c2)])->J Tryz.prog 28 B (nav (bodyOf f107) [1,1,1,0,1,0]) Q I [hO Str (vS p1 out c1) cs] [(3,vS p y c),(4,vS p1 out c1),(5,vI i)]:=by
 refine sE.partial_correctness y _ λaQ ih out i o N B I0 I Q p c p1 c1 cs H h h2 hg ho hx=>xD hg ho<|yA<|yG [12] rfl<|zK<|yC N ?_ ?_
 ·intro hc N;refine zR<|zY<|yM<|yB<|zZ 2 [] [15,16] rfl<|bE N λx ay N=>wJ rfl rfl h ay ?_;intro ad aR av al;obtain rfl:=al;refine wC 0 av [vT x.l] (vT x.l) rfl<|yI [] [19] rfl<|zK ?_;obtain⟨o0,aC,aO⟩:=zB N;refine rR (λI' ah m'=>∃(aD:List Str) (p3:Option Addr) (c3:Nat) (bv:List Value),o0=aD/\I.le I'/\(RL I' bv aD)/\ah=[hO Str (vS p3 aD c3) bv]/\m'=[(3,vS p y c),(4,vS p3 aD c3),(5,vI i)]) ?_ ?_
  ·have H:=iS I;refine yC aC ?_ ?_
   ·intro aI N;refine zM<|zZ 3 [] [20,21,22] rfl<|bE N λx1 aK N=>wJ rfl rfl h aK ?_;intro cD bN aw ax;obtain rfl:=ax;refine wC 0 aw [vT x1.l] (vT x1.l) rfl<|qN [vT x1.l] Str ?_;intro b1 cp;have h5:RL I [vT x1.l] ([x1]:List Str):=rT [x1];obtain⟨bR,bc,N⟩:=zB N;exact mD 9 1 1 rfl rfl rfl h2 (.inr ⟨0,rfl⟩) h5 bc λp4 c4 bf h6=>qM (zX [1] (ah:=[hO Str (vS p4 bR c4) bf]))<|yI [] [4] rfl<|yP<|zQ ⟨_,_,_,_,(zC N).symm,H,h6,rfl,rfl⟩
   intro aI N;exact zR<|yP<|zQ ⟨_,_,_,_,(zC N).symm,H,h2,rfl,rfl⟩
  rintro aT au m2 ⟨aD,p3,c3,bv,ec,ae,h4,rfl,rfl⟩;subst o0;have ⟨h,H⟩:=m2 ae h H;exact zO<|zK<|zM<|yI [] [5] rfl<|xB<|jH<|ih aD (W (i+1)) _ aO H h h4 hg ho hx
 intro hc N;exact uR<|yP<|hx _ _ _ _ _ (zC N).symm H h2
def mK(s:Str):Option ((List Str)):=do
 let y<-kL s (32:UInt8);let aq<-sE y ([]:List Str) 0;pure (id aq)
theorem zC9:∀s r,mK s=some r->∀{I:Imm} ,RT 107 [vT s.l] I [] (zCV  r):=by
 intro s r N I;unfold mK at N;refine yK func107 λB=>vO []<|yV<|zZ 1 [] [6] rfl<|bE N λy hy N=>xG (zB0 s (32:UInt8) _ hy ) ?_;rintro I0 au v2 k2 le - ⟨v0,rfl,rfl,h⟩ -;obtain⟨p,c,rfl⟩:=h.form;refine yI [] [3] rfl<|yV<|qN [] Str ?_;intro b hb;have h1:RL I0 [] ([]:List Str):=rfl;refine yI [] [4] rfl<|zY<|yG [5] rfl<|vC<|mM [(3,vS p y c),(4,vS (some ⟨b,0,none⟩) ([]:List Str) 0),(5,vI 0)] ?_;obtain⟨aS,aE,aM⟩:=zB N;refine zE1 y ([]:List Str) 0 aS aE iR h h1 nG nO ?_;intro aY aq p2 c2 aA ca aJ h3;subst aS;refine zT<|uX [2] rfl<|xH<|xT 0 rfl ?_;intro bP aL cH;have h7:=SL.of_frozen cH aL h3;exact wD aM (resT rfl) zN ⟨_,rfl,rfl,h7⟩
def zGs(r:zD):KT:=λkk I' ah v=>
 ∃v0,ah=[]/\v=tupV [v0]/\(∃cs,v0=.agg ⟨cs⟩/\Rp.rep I' cs r)
def fB(cg:Str):Option (zD):=do
 let y<-mK cg;if((y.length:Int) != 3) then pure (zD.mk ([]:List zA) ([]:List zA))
 else
  let x<-idx y 1;let y1<-rL x;let x1<-idx y 2;let y2<-rL x1;pure (zD.mk y1 y2)
theorem zIS:∀cg r,fB cg=some r->∀{I:Imm} ,RT 67 [vT cg.l] I [] (zGs  r):=by
 intro cg r N I;unfold fB at N;refine yK func67 λB=>?_;have H:=iS I;refine yB<|wT zTwo ?_;intro b hb;refine zW rfl<|yV<|zZ 1 [] [4] rfl<|bE N λy hy N=>xG (zC9 cg _ hy ) ?_;rintro I0 au v2 k2 le - ⟨v0,rfl,rfl,h⟩ -;have H:=H.trans le;obtain⟨p,c,rfl⟩:=h.form;refine yI [] [3] rfl<|zY<|yG [8] rfl<|zK<|yC N ?_ ?_
 ·intro hc N;refine yB<|zZ 1 [] [9] rfl<|zAF 0 zTwo [hB b zTwo] rfl rfl rfl rfl<|zW rfl<|xH<|zG ?_;exact wD N (resC 0 rfl rfl) zN ⟨_,rfl,rfl,⟨_,rfl,(uW ⟨_,_,rfl,(SL.nil _),(SL.nil _)⟩)⟩⟩
 intro hc N;refine zR<|zK<|yA ?_;obtain⟨x,ay,N⟩:=zB N;obtain⟨y1,aK,N⟩:=zB N;obtain⟨x1,bc,N⟩:=zB N;obtain⟨y2,bL,N⟩:=zB N;refine vK [.p (vS p y c) [],.x (λI' v hx=>∃ad,v=.pointer (some ad)/\hx=[]/\(At I' ad [vT x.l])),.q (vT x.l),.x (eS y1),.p (vS p y c) [],.x (λI' v hx=>∃cD,v=.pointer (some cD)/\hx=[]/\(At I' cD [vT x1.l])),.q (vT x1.l),.x (eS y2),.x (λI' v hx=>∃bd bj ga c21,v=vA [vS bd y1 bj,vS ga y2 c21]/\hx=[]/\(S4 I' bd y1 bj)/\(S4 I' ga y2 c21))] [[],[(0,F9)],[(1,F9)],[(2,F9)],[],[(4,F9)],[(5,F9)],[(6,F9)],[(3,F9),(7,F9)]] [hB b zTwo] [] [(8,F9)] (zX [0]) ?_ ?_
 ·refine Op<|Ox ?_<|Oq ?_<|Ox ?_<|Op<|Ox ?_<|Oq ?_<|Ox ?_<|Ox ?_<|On
  ·intro I1 hf ae;refine yW [10] rfl ?_;have h:=h.mono ae;refine wJ rfl rfl h ay ?_;intro ad aR av al;obtain rfl:=al;exact xC [] iR ⟨_,rfl,rfl,av⟩
  ·rintro I1 hf ae _ _ ⟨ad,rfl,rfl,av⟩;exact yW [11] rfl<|wC 0 av [vT x.l] (vT x.l) rfl<|yQ iR
  ·intro I1 hf ae;refine yW [12] rfl ?_;have H:=iS I1;refine xG (dP x _ aK ) ?_;rintro aT au v2 k2 ae - ⟨gx,rfl,rfl,h1⟩ -;have H:=H.trans ae;obtain⟨p1,c1,rfl⟩:=h1.form;exact xC [] H ⟨_,_,rfl,rfl,h1⟩
  ·intro I1 hf ae;refine yW [14] rfl ?_;have h:=h.mono ae;refine wJ rfl rfl h bc ?_;intro cD bN aw ax;obtain rfl:=ax;exact xC [] iR ⟨_,rfl,rfl,aw⟩
  ·rintro I1 hf ae _ _ ⟨cD,rfl,rfl,aw⟩;exact yW [15] rfl<|wC 0 aw [vT x1.l] (vT x1.l) rfl<|yQ iR
  ·intro I1 hf ae;refine yW [16] rfl ?_;have H:=iS I1;refine xG (dP x1 _ bL ) ?_;rintro aY au v2 k2 aJ - ⟨ig,rfl,rfl,h2⟩ -;have H:=H.trans aJ;obtain⟨p2,c2,rfl⟩:=h2.form;exact xC [] H ⟨_,_,rfl,rfl,h2⟩
  rintro I1 hf ae _ _ ⟨p1,c1,rfl,rfl,h1⟩ _ _ ⟨p2,c2,rfl,rfl,h2⟩;exact yW [13,17] rfl<|pQ 9 [(18,vA [vS p1 y1 c1,vS p2 y2 c2])]<|xC [] iR ⟨_,_,_,_,rfl,rfl,h1,h2⟩
 rintro bP aL _ _ ⟨bd,bj,ga,c21,rfl,rfl,bB,jz⟩;refine yW [2,18] rfl ?_;refine yZ 0 [vS bd y1 bj,vS ga y2 c21] rfl<|zW rfl<|zK<|yX ?_;exact wD N (resC 0 rfl rfl) zN ⟨_,rfl,rfl,⟨_,rfl,(uW ⟨_,_,rfl,bB,jz⟩)⟩⟩
def zFs(r:zE):KT:=λkk I' ah v=>
 ∃v0,ah=[]/\v=tupV [v0]/\(∃cs,v0=.agg ⟨cs⟩/\Rp.rep I' cs r)
def uC(w0:(List Str))(i:Int)(Name:Str)(Dims:List Int):Option ((Str×List Int)):=do
 let f7<-(do
  if(decide (i<(w0.length:Int))) then pure (decide (i<=4))
  else
   pure false
    : Option Bool)
 if f7 then
  if(i==1) then
   let x<-idx w0 1;uC w0 (W (i+1)) x Dims
  else
   let x1<-idx w0 i;let (y1,y2)<-oG x1;let l<-app 8 Dims ([y1]:List Int);uC w0 (W (i+1)) Name l
 else pure (Name,Dims)
 partial_fixpoint
theorem zFC(w0:(List Str)):∀(i:Int) (Name:Str) (Dims:List Int) (o:(Str×List Int)),uC w0 i Name Dims=some o->∀{B}{I0 I:Imm}{Q p c}{b b1}{p1 c1 cs},I0.le I->(S4 I p w0 c)->(RL I cs Dims)->NG Q->NO Q->(∀I' ly cr p2 c2 aA,o=(ly,cr)->I0.le I'->(RL I' aA cr)->T 39 B Q (.exit 0) I' [hO Int (vS p2 cr c2) aA,hB b1 [vT ly.l,vS p2 cr c2],hB b [vT ([]),z0]] [(2,vP b 0),(3,vP b1 0)])->J Tryz.prog 39 B (nav (bodyOf f108) [1,1,0,1,0]) Q I [hO Int (vS p1 Dims c1) cs,hB b1 [vT Name.l,vS p1 Dims c1],hB b [vT ([]),z0]] [(0,vS p w0 c),(2,vP b 0),(3,vP b1 0),(4,vI i)]:=by
 refine uC.partial_correctness w0 _ λaQ ih i Name Dims o N B I0 I Q p c b b1 p1 c1 cs H h h2 hg ho hx=>xD hg ho<|yA<|yA ?_;refine wZ N [hO Int (vS p1 Dims c1) cs,hB b1 [vT Name.l,vS p1 Dims c1],hB b [vT ([]),z0]] (λf7=>[(0,vS p w0 c),(2,vP b 0),(3,vP b1 0),(4,vI i),(15,.bool f7)]) (λo0 aC=>?_) ?_
 ·have H:=iS I;refine zM<|zZ 5 [] [12] rfl<|xW [12] aC ?_ ?_
  ·intro hc N;exact yI [] [15] rfl<|yP<|zQ (ct N H)
  intro hc N;exact wP [] [(15,vF)]<|yP<|zQ (ct N H)
 intro f7 I0 le aO;have ⟨h,h2,H⟩:=m3 le h h2 H;refine zK<|yC aO ?_ ?_
 ·intro aI N;refine zR<|zY<|yM<|yA<|yG [19] rfl<|zK<|yC N ?_ ?_
  ·intro aU N;refine yB<|zZ 1 [] [20] rfl<|bE N λx hy N=>wJ rfl rfl h hy ?_;intro ad aR av al;obtain rfl:=al;exact wC 0 av [vT x.l] (vT x.l) rfl<|zZ 4 [] [23] rfl<|yZ 1 [vT x.l,vS p1 Dims c1] rfl<|zW rfl<|zK<|zGO<|fR<|zT<|zK<|zM<|yI [] [4] rfl<|xB<|jH<|ih (W (i+1)) x Dims _ N H h h2 hg ho hx
  intro aU N;refine zR<|yV<|zZ 2 [] [25,26] rfl<|bE N λx1 ay N=>wJ rfl rfl h ay ?_;intro cD bN aw ax;obtain rfl:=ax;refine wC 0 aw [vT x1.l] (vT x1.l) rfl ?_;obtain⟨⟨y1,y2⟩,aK,N⟩:=zB N;refine xG (zDa x1 _ aK ) ?_;rintro aT au v2 k2 ae - ⟨v0,gx,rfl,rfl,rfl,rfl⟩ -;have ⟨h,h2,H⟩:=m3 ae h h2 H;refine yI [] [5] rfl<|zK<|zM<|zZ 3 [1] [33,34] rfl<|qN [vI y1] Int ?_;intro b2 fl;have h6:RL aT [vI y1] ([y1]:List Int):=rI [y1];obtain⟨l,bc,N⟩:=zB N;refine mD 3 1 1 rfl rfl rfl h2 (.inr ⟨0,rfl⟩) h6 bc ?_;intro p3 c3 bv h7;exact qM (zX [1,2,3] (ah:=[hO Int (vS p3 l c3) bv,hB b1 [vT Name.l,vS p1 Dims c1],hB b [vT ([]),z0]]))<|zZ 6 [] [37] rfl<|yZ 1 [vT Name.l,vS p3 l c3] rfl<|zW rfl<|zO<|zK<|zM<|yI [] [4] rfl<|xB<|jH<|ih (W (i+1)) Name l _ N H h h7 hg ho hx
 intro aI N;exact uR<|yP<|hx _ _ _ _ _ _ (zC N).symm H h2
def jV(w0:(List Str)):Option (zE):=do
 let (ly,cr)<-uC w0 1 (⟨[]⟩:Str) ([]:List Int);pure (zE.mk ly cr)
theorem zH2:∀w0 r,jV w0=some r->∀{I:Imm}{p c},(S4 I p w0 c)->RT 108 [vS p w0 c] I [] (zFs  r):=by
 intro w0 r N I p c h;unfold jV at N;refine yK func108 λB=>yB<|wT [vT ([]),z0] ?_;intro b hb;refine zW rfl<|yV<|zZ 1 [] [7] rfl<|wT [vT ([]),z0] ?_;intro b1 cp;refine yZ 0 [vT ([]),z0] rfl<|zW rfl<|zY<|yG [4] rfl<|vC<|mM [(0,vS p w0 c),(2,vP b 0),(3,vP b1 0),(4,vI 1)]<|zB9 Int λh1=>?_;obtain⟨aS,aE,aM⟩:=zB N;refine zFC w0 1 (⟨[]⟩:Str) ([]:List Int) aS aE iR h h1 nG nO ?_;intro aY ly cr p2 c2 aA ca aJ h3;subst aS;refine zT<|yV<|qO 1 [1] [(38,vA [vT ly.l,vS p2 cr c2])]<|yZ 2 [vT ly.l,vS p2 cr c2] rfl<|zW rfl<|xH<|xT 0 rfl ?_;intro bP aL cH;have h8:=SL.of_frozen cH aL h3;exact wD aM (resC 1 rfl rfl) zN ⟨_,rfl,rfl,⟨_,rfl,(sL ⟨_,rfl,h8⟩)⟩⟩
def zGt(r:zH):KT:=λkk I' ah v=>
 ∃(a0:Option Addr) (c0:Nat) (s0:List Value) (a1:Option Addr) (c1:Nat) (s1:List Value) (aj:List Raw2) (vN vB:Value) (nl:List zD) (bl:List zI) (cK cj:List Value),
   ah=[hO zE (vS a0 r.Arrays c0) s0,hO Raw2 (vS a1 aj c1) s1,hO zD vN cK,hO zI vB cj]/\v=tupV [vA [vS a0 r.Arrays c0,vS a1 aj c1]]/\L4 I' s0 r.Arrays s1 aj r.Parts vN nl vB bl cK cj
def qA(p:zH)(cg:Str):Option (zH):=do
 let y<-mK cg;let cw<-(do
  if(decide ((y.length:Int)>0)) then
   let x<-idx y 0;pure (x.l==([97,114,114,97,121]:List UInt8))
  else
   pure false
    : Option Bool)
 if cw then
  let y1<-jV y;let l<-app 40 p.Arrays ([y1]:List zE);pure (zH.mk l p.Parts)
 else
  if(cg.l==([112,97,114,116]:List UInt8)) then
   let l1<-app 48 p.Parts ([(zL.mk ([]:List zD) ([]:List zI))]:List zL);pure (zH.mk p.Arrays l1)
  else
   let lQ<-(do
    if(decide ((W ((p.Parts.length:Int) - 1))>=0)) then
     if(decide ((y.length:Int)>0)) then
      let x1<-idx y 0;pure (x1.l==([102,111,114]:List UInt8))
     else pure false
    else
     pure false
      : Option Bool)
   if lQ then
    let x2<-idx p.Parts (W ((p.Parts.length:Int) - 1));let y2<-fB cg;let l2<-app 48 x2.Nest ([y2]:List zD);pure (zH.mk p.Arrays (p.Parts.set (W ((p.Parts.length:Int) - 1)).toNat (zL.mk l2 x2.Body)))
   else
    if(decide ((W ((p.Parts.length:Int) - 1))>=0)) then
     let x4<-idx p.Parts (W ((p.Parts.length:Int) - 1));let (y4,y5)<-oX cg;let l3<-app 152 x4.Body ([y4]:List zI);pure (zH.mk p.Arrays (p.Parts.set (W ((p.Parts.length:Int) - 1)).toNat (zL.mk x4.Nest l3)))
    else pure (id p)
theorem zIT:∀p cg r,qA p cg=some r->∀{I:Imm}{p1 c cs p2 c1 aA}{aj:List Raw2}{vN vB:Value}{nl:List zD}{bl:List zI}{cK cj:List Value},
 L4 I cs p.Arrays aA aj p.Parts vN nl vB bl cK cj->RT 56 [vA [vS p1 p.Arrays c,vS p2 aj c1],vT cg.l] I [hO zE (vS p1 p.Arrays c) cs,hO Raw2 (vS p2 aj c1) aA,hO zD vN cK,hO zI vB cj] (zGt r):=by
 intro p cg r N I p1 c cs p2 c1 aA aj vN vB nl bl cK cj hQ
 unfold qA at N
 simp only[hQ.lp.len] at N
 refine yK func56 λB=>yB<|sF [vS p1 p.Arrays c,vS p2 aj c1] ?_
 intro b hb
 refine wT zTwo ?_
 intro b1 cp
 refine zW rfl<|yV<|zZ 1 [] [11] rfl ?_
 obtain⟨y,hy,N⟩:=zB N
 refine xG (zC9 cg _ hy ) ?_
 rintro I0 au v2 k2 le - ⟨v0,rfl,rfl,h2⟩ -
 have hQ:=hQ.mono le
 obtain⟨p3,c2,rfl⟩:=h2.form
 refine yI [] [5] rfl<|yV<|yI [1] [6] rfl<|zY<|yM<|yA ?_
 obtain⟨o0,aC,N⟩:=zB N
 refine rR (K1 o0 I0 [hB b1 zTwo,hB b [vS p1 p.Arrays c,vS p2 aj c1],hO zE (vS p1 p.Arrays c) cs,hO Raw2 (vS p2 aj c1) aA,hO zD vN cK,hO zI vB cj] λcw=>[(1,vT cg.l),(2,vP b 0),(4,vP b1 0),(5,vS p3 y c2),(6,vI (W ((aj.length:Int) - 1))),(17,.bool cw)]) ?_ ?_
 ·refine zM<|zZ 4 [] [21] rfl ?_
  cases hc:(decide ((y.length:Int)>0)) with
  | true=>
   have nw:=tI hc aC
   refine zZ 5 [] [22] rfl ?_
   obtain⟨x,ay,N⟩:=zB nw
   refine wJ rfl rfl h2 ay ?_
   intro ad aR av al
   obtain rfl:=al
   exact wC 0 av [vT x.l] (vT x.l) rfl<|yI [] [17] rfl<|yP<|zQ ⟨_,(zC N).symm,Imm.le.refl _,rfl,rfl⟩
  | false=>
   have lc:=uQ hc aC
   exact wP [] [(17,vF)]<|yP<|zQ ⟨_,(zC lc).symm,Imm.le.refl _,rfl,rfl⟩
 rintro aT au m2 ⟨cw,ec,ae,rfl,rfl⟩
 subst o0
 have h2:=h2.mono ae
 have hQ:=hQ.mono ae
 refine zK<|yC N ?_ ?_
 ·intro aI N
  obtain⟨y1,aK,N⟩:=zB N
  obtain⟨l,bc,N⟩:=zB N
  refine vK [.p (vP b 0) [],.p (vS p1 p.Arrays c) [1],.p (vS p3 y c2) [],.x (eVArr y1),.x (λI' v hx=>∃b2,v=vS (some ⟨b2,0,none⟩) ([y1]:List zE) 1/\hx=[]/\(SL I' (vS (some ⟨b2,0,none⟩) ([y1]:List zE) 1) ([y1]:List zE))),.x (λI' v hx=>∃p5 c4 bf,v=vS p5 l c4/\hx=[hO zE (vS p5 l c4) bf]/\(RL I' bf l))] [[],[(0,F9)],[],[(2,F9)],[(3,F9)],[(1,F9),(4,F9),(8,true)]] [hB b1 zTwo,hB b [vS p1 p.Arrays c,vS p2 aj c1],hO Raw2 (vS p2 aj c1) aA,hO zD vN cK,hO zI vB cj] [[hO zE (vS p1 p.Arrays c) cs]] [(5,true)] (zX [0,1,3,4,5,2]) ?_ ?_
  ·refine O3<|Ox ?_<|Ox ?_<|Ox ?_<|On
   ·intro I1 hf ae
    refine yW [29] rfl<|xG (zH2 y _ aK (h2.mono ae)) ?_
    rintro aY au v2 k2 aJ - ⟨gx,rfl,rfl,⟨bv,rfl,h3⟩⟩ -
    obtain⟨ig,rfl,h4⟩:=zDF h3
    obtain⟨p4,c3,rfl⟩:=h4.form
    exact xC [] aJ ⟨_,_,rfl,rfl,h4⟩
   ·intro I1 hf ae
    refine vX ?_
    rintro _ _ ⟨p4,c3,rfl,rfl,h4⟩
    refine yW [30] rfl<|qN (cArr y1 p4 c3) zE ?_
    intro b2 fl
    have h5:RL I1 (cArr y1 p4 c3) ([y1]:List zE):=⟨(cArr y1 p4 c3),_,rfl,rfl,(sL ⟨_,rfl,h4⟩),rfl⟩
    refine wG 0 rfl ?_
    intro bP aL cH
    exact xC [] aL ⟨_,rfl,rfl,SL.of_frozen cH aL h5⟩
   intro I1 hf ae
   refine vX ?_
   rintro _ _ ⟨rfl,rfl⟩
   refine vX ?_
   rintro _ _ ⟨b2,rfl,rfl,h6⟩
   refine vX ?_
   rintro _ _ rfl
   refine yW [28,31] rfl ?_
   obtain⟨bN,k0,cE⟩:=h6
   refine mD 66 2 0 rfl rfl rfl (hQ.mono ae).arr (.inl k0) cE bc ?_
   intro p5 c4 bf h7
   exact uT (ah:=(hO zE (vS p5 l c4) bf::(hB b1 zTwo::hB b [vS p1 p.Arrays c,vS p2 aj c1]::hO Raw2 (vS p2 aj c1) aA::hO zD vN cK::hO zI vB cj::hf))) rfl<|xC [hO zE (vS p5 l c4) bf] iR ⟨_,_,_,rfl,rfl,h7⟩
  intro cI bb
  refine vX ?_
  rintro _ _ ⟨p5,c4,bf,rfl,rfl,h7⟩
  refine yW [2,4,32] rfl ?_
  have hQ:=hQ.mono bb
  refine zZ 7 [] [33] rfl<|yZ 2 [vS p5 l c4,vS p2 aj c1] rfl<|zW rfl<|zO<|yV<|qO 1 [2] [(98,vA [vS p5 l c4,vS p2 aj c1])]<|yZ 1 [vS p5 l c4,vS p2 aj c1] rfl<|zW rfl<|zK<|yX ?_
  obtain rfl:=zC N
  exact zJG (resC 1 rfl rfl) (zV [0,3,4,5] rfl (by decide)) ⟨_,_,_,_,_,_,_,_,_,_,_,_,_,rfl,rfl,⟨h7,hQ.raw,hQ.lp,hQ.n,hQ.b⟩⟩
 intro aI N
 refine yG [34] rfl<|zK<|yC N ?_ ?_
 ·intro aU N
  refine oD 4 rfl ?_
  intro dw bI r4
  have kN:=SL.of_frozen r4 bI hQ.n
  have hQ:=hQ.mono bI
  refine oD 4 rfl ?_
  intro gk bJ qw
  have kB:=SL.of_frozen qw bJ hQ.b
  replace kN:=kN.mono bJ
  have hQ:=hQ.mono bJ
  obtain⟨l1,bL,N⟩:=zB N
  have bX:=zHg (l':=aj) (m':=[(⟨z0,z0⟩:Raw2)]) bL hQ.lp.2.1 rfl
  have lF:=hQ.lp.part kN kB bL
  refine zM<|uT (ah:=[hB b1 zTwo,hB b [vS p1 p.Arrays c,vS p2 aj c1],hO zE (vS p1 p.Arrays c) cs,hO Raw2 (vS p2 aj c1) aA]) rfl<|qO 3 [1] [(38,vS p2 aj c1),(39,vA zTwo)]<|qN zTwo Raw2 ?_
  intro b3 ni
  have h8:RL gk zTwo [(⟨z0,z0⟩:Raw2)]:=⟨zTwo,[],rfl,rfl,⟨rfl,rfl,rfl⟩,rfl⟩
  refine mD 70 2 4 rfl rfl rfl hQ.raw (.inr ⟨0,rfl⟩) h8 bX ?_
  intro p6 c5 cC h9
  refine qM (zX [1,2,3,4] (ah:=[hB b1 zTwo,hB b [vS p1 p.Arrays c,vS p2 aj c1],hO zE (vS p1 p.Arrays c) cs,hO Raw2 (vS p6 (aj++[(⟨z0,z0⟩:Raw2)]) c5) cC]))<|zZ 6 [] [42] rfl<|yZ 1 [vS p1 p.Arrays c,vS p6 (aj++[(⟨z0,z0⟩:Raw2)]) c5] rfl<|zW rfl<|zO<|yV<|qO 1 [1] [(98,vA [vS p1 p.Arrays c,vS p6 (aj++[(⟨z0,z0⟩:Raw2)]) c5])]<|yZ 0 [vS p1 p.Arrays c,vS p6 (aj++[(⟨z0,z0⟩:Raw2)]) c5] rfl<|zW rfl<|xH<|wI (kO (Rp.sz zI))<|wI (kO (Rp.sz zD)) ?_
  obtain rfl:=zC N
  exact zJG (resC 2 rfl rfl) (zV [4,5,0,1] rfl (by decide)) ⟨_,_,_,_,_,_,_,_,_,_,_,_,_,rfl,rfl,⟨hQ.arr,h9,lF,RepL.nil,RepL.nil⟩⟩
 intro aU N
 refine yA ?_
 obtain⟨aS,aE,N⟩:=zB N
 refine rR (K1 aS aT [hB b1 zTwo,hB b [vS p1 p.Arrays c,vS p2 aj c1],hO zE (vS p1 p.Arrays c) cs,hO Raw2 (vS p2 aj c1) aA,hO zD vN cK,hO zI vB cj] λlQ=>[(1,vT cg.l),(2,vP b 0),(4,vP b1 0),(6,vI (W ((aj.length:Int) - 1))),(43,.bool lQ)]) ?_ ?_
 ·refine zM<|zZ 3 [] [46] rfl ?_
  cases bU:(decide ((W ((aj.length:Int) - 1))>=0)) with
  | true=>
   have nx:=tI bU aE
   refine zZ 8 [] [51] rfl ?_
   cases cO:(decide ((y.length:Int)>0)) with
   | true=>
    have pf:=tI cO nx
    refine zZ 9 [] [52] rfl ?_
    obtain⟨x1,bX,N⟩:=zB pf
    refine wJ rfl rfl h2 bX ?_
    intro cD gn aw ax
    obtain rfl:=ax
    exact wC 0 aw [vT x1.l] (vT x1.l) rfl<|yI [] [43] rfl<|yP<|zQ ⟨_,(zC N).symm,Imm.le.refl _,rfl,rfl⟩
   | false=>
    have tq:=uQ cO nx
    exact wP [] [(43,vF)]<|yP<|zQ ⟨_,(zC tq).symm,Imm.le.refl _,rfl,rfl⟩
  | false=>
   have rt:=uQ bU aE
   exact wP [] [(43,vF)]<|yP<|zQ ⟨_,(zC rt).symm,Imm.le.refl _,rfl,rfl⟩
 rintro dw au m2 ⟨lQ,ca,bI,rfl,rfl⟩
 subst aS
 have hQ:=hQ.mono bI
 refine zK<|yC N ?_ ?_
 ·intro ft N
  refine yB<|zZ 3 [1] [58,59] rfl ?_
  obtain⟨x2,cx,N⟩:=zB N
  obtain⟨rfl,ma,fg⟩:=hQ.lp.last cx
  refine kV 3 rfl rfl rfl hQ.raw ma ?_
  intro jm kx cd cQ bO
  obtain⟨rfl,o1,o2⟩:=bO
  refine zDK 3 0 cd cQ [vN,vB] (vA [vN,vB]) rfl rfl<|wT zTwo ?_
  intro b4 tr
  refine zQJ 0 [vN,vB] (hB b4 [vN,vB]::[hB b1 zTwo,hB b [vS p1 p.Arrays c,vS p2 aj c1],hO zE (vS p1 p.Arrays c) cs,hO Raw2 (vS p2 aj c1) aA,hO zD vN cK,hO zI vB cj]) rfl rfl rfl rfl (by simp[Value.cells,o1,o2])<|zW rfl<|zK<|yA ?_
  obtain⟨y2,cV,N⟩:=zB N
  obtain⟨l2,eo,N⟩:=zB N
  refine vK [.p (vP b4 0) [],.p vN [0],.p (vT cg.l) [],.x (eVLoop y2),.x (λI' v hx=>∃b5,v=vS (some ⟨b5,0,none⟩) ([y2]:List zD) 1/\hx=[]/\(SL I' (vS (some ⟨b5,0,none⟩) ([y2]:List zD) 1) ([y2]:List zD))),.x (λI' v hx=>∃bd bG bf,v=vS bd l2 bG/\hx=[hO zD (vS bd l2 bG) bf]/\(RL I' bf l2))] [[],[(0,F9)],[],[(2,F9)],[(3,F9)],[(1,F9),(4,F9),(8,true)]] [hB b4 [vN,vB],hB b1 zTwo,hB b [vS p1 p.Arrays c,vS p2 aj c1],hO zE (vS p1 p.Arrays c) cs,hO Raw2 (vS p2 aj c1) aA,hO zI vB cj] [[hO zD vN cK]] [(5,true)] (zX [0,1,2,3,4,6,5]) ?_ ?_
  ·refine O3<|Ox ?_<|Ox ?_<|Ox ?_<|On
   ·intro I1 hf ae
    refine yW [64] rfl<|xG (zIS cg _ cV ) ?_
    rintro gk au v2 k2 bJ - ⟨sk,rfl,rfl,⟨cP,rfl,bW⟩⟩ -
    obtain⟨q8,v07,rfl,cy,bV⟩:=zD2 bW
    obtain⟨p9,c8,rfl⟩:=cy.form
    obtain⟨bH,c9,rfl⟩:=bV.form
    exact xC [] bJ ⟨_,_,_,_,rfl,rfl,cy,bV⟩
   ·intro I1 hf ae
    refine vX ?_
    rintro _ _ ⟨p9,c8,bH,c9,rfl,rfl,cy,bV⟩
    refine yW [65] rfl<|qN (cLoop y2 p9 c8 bH c9) zD ?_
    intro b5 hb5
    have co:RL I1 (cLoop y2 p9 c8 bH c9) ([y2]:List zD):=⟨(cLoop y2 p9 c8 bH c9),_,rfl,rfl,(uW ⟨_,_,rfl,cy,bV⟩),rfl⟩
    refine wG 0 rfl ?_
    intro ij bZ cZ
    exact xC [] bZ ⟨_,rfl,rfl,SL.of_frozen cZ bZ co⟩
   intro I1 hf ae
   refine vX ?_
   rintro u _ ⟨hu,rfl⟩
   have hu:=hu.symm
   subst hu
   refine vX ?_
   rintro _ _ ⟨b5,rfl,rfl,ck⟩
   refine vX ?_
   rintro _ _ rfl
   refine yW [63,66] rfl ?_
   obtain⟨nu,k0,cE⟩:=ck
   refine mD 92 2 0 rfl rfl rfl (hQ.mono ae).n (.inl k0) cE eo ?_
   intro bd bG bf cm
   exact uT (ah:=(hO zD (vS bd l2 bG) bf::(hB b4 [vN,vB]::hB b1 zTwo::hB b [vS p1 p.Arrays c,vS p2 aj c1]::hO zE (vS p1 p.Arrays c) cs::hO Raw2 (vS p2 aj c1) aA::hO zI vB cj::hf))) rfl<|xC [hO zD (vS bd l2 bG) bf] iR ⟨_,_,_,rfl,rfl,cm⟩
  intro iE dt
  refine vX ?_
  rintro _ _ ⟨bd,bG,bf,rfl,rfl,cm⟩
  refine yW [2,4,6,7,67] rfl ?_
  have hQ:=hQ.mono dt
  refine zZ 7 [] [68] rfl<|yZ 1 [vS bd l2 bG,vB] rfl<|zW rfl<|zK<|zM<|qO 4 [3,1] [(70,vS p2 aj c1),(71,vI (W ((aj.length:Int) - 1))),(72,vA [vS bd l2 bG,vB])]<|kV 5 rfl rfl rfl hQ.raw ma ?_
  intro ri ro ek mw cJ
  obtain⟨rfl,-⟩:=cJ
  refine jA (α:=Raw2) (c:=[vS bd l2 bG,vB]) (x':=⟨vS bd l2 bG,vB⟩) 5 0 rfl rfl rfl ek rfl rfl mw (by kernel_rfl) (by kernel_rfl) (by simp[Value.cells,o2];rfl) hQ.raw ma (by kernel_rfl) ⟨rfl,rfl,o2⟩ ?_
  intro gb d9 cF
  refine uT (ah:=[hO zD (vS bd l2 bG) bf,hB b4 [vS bd l2 bG,vB],hB b1 zTwo,hB b [vS p1 p.Arrays c,vS p2 aj c1],hO zE (vS p1 p.Arrays c) cs,hO Raw2 (vS p2 aj c1) gb,hO zI vB cj]) rfl<|zW rfl<|zO<|yV<|qO 1 [3] [(98,vA [vS p1 p.Arrays c,vS p2 aj c1])]<|yZ 2 [vS p1 p.Arrays c,vS p2 aj c1] rfl<|zW rfl<|zK<|yX ?_
  obtain rfl:=zC N
  exact fO ⟨[vA [vS p1 p.Arrays c,vS p2 aj c1]],_,(resC 2 rfl rfl),(zV [4,5,0,6] rfl (by decide)),⟨p1,c,cs,p2,c1,gb,aj.set (W ((aj.length:Int) - 1)).toNat ⟨vS bd l2 bG,vB⟩,vS bd l2 bG,vB,l2,bl,bf,cj,(by simp only[vS,cF]),(by simp only[vS,cF]),⟨hQ.arr,d9,(fg _ _ _ _).mono dt,cm,hQ.b⟩⟩⟩
 intro ft N
 refine yG [74] rfl<|zK<|yC N ?_ ?_
 ·intro iU N
  refine yB<|zZ 3 [1] [78,79] rfl ?_
  obtain⟨x4,cU,N⟩:=zB N
  obtain⟨rfl,ma,fg⟩:=hQ.lp.last cU
  refine kV 3 rfl rfl rfl hQ.raw ma ?_
  intro ad4 ro lG hcc2 iz
  obtain⟨rfl,o1,o2⟩:=iz
  refine zDK 3 0 lG hcc2 [vN,vB] (vA [vN,vB]) rfl rfl<|wT zTwo ?_
  intro b6 hb6
  refine zQJ 0 [vN,vB] (hB b6 [vN,vB]::[hB b1 zTwo,hB b [vS p1 p.Arrays c,vS p2 aj c1],hO zE (vS p1 p.Arrays c) cs,hO Raw2 (vS p2 aj c1) aA,hO zD vN cK,hO zI vB cj]) rfl rfl rfl rfl (by simp[Value.cells,o1,o2])<|zW rfl<|yV<|qO 1 [] [(83,vT cg.l)] ?_
  obtain⟨⟨y4,y5⟩,dr,N⟩:=zB N
  refine xG (zBj cg _ dr ) ?_
  rintro jx au v2 k2 bS - ⟨sj,qe,rfl,rfl,⟨d5,rfl,j3⟩,rfl⟩ -
  have hQ:=hQ.mono bS
  obtain⟨om,uu,v016,v017,rfl,iu,hV,hZ,iH⟩:=kQ j3
  obtain⟨du,cW,rfl⟩:=iu.form
  obtain⟨iP,im,rfl⟩:=hV.form
  obtain⟨ey,fb,rfl⟩:=hZ.form
  obtain⟨cL,ep,rfl⟩:=iH.form
  refine zZ 5 [] [85,86] rfl<|wT [vT ([]),z0,vI 0,vI 0,z0,vI 0,vT ([]),z0,z0] ?_
  intro b7 hb7
  refine zAF 0 (cStmt y4 du cW iP im ey fb cL ep) (hB b7 (cStmt y4 du cW iP im ey fb cL ep)::hB b6 [vN,vB]::[hB b1 zTwo,hB b [vS p1 p.Arrays c,vS p2 aj c1],hO zE (vS p1 p.Arrays c) cs,hO Raw2 (vS p2 aj c1) aA,hO zD vN cK,hO zI vB cj]) rfl rfl rfl rfl<|wP [] []<|yV<|qO 3 [1,0] [(88,vB),(89,vA (cStmt y4 du cW iP im ey fb cL ep))]<|qN (cStmt y4 du cW iP im ey fb cL ep) zI ?_
  intro b8 hb8
  have fk:RL jx (cStmt y4 du cW iP im ey fb cL ep) ([y4]:List zI):=⟨(cStmt y4 du cW iP im ey fb cL ep),_,rfl,rfl,(wO ⟨_,_,_,_,rfl,iu,hV,hZ,iH⟩),rfl⟩
  obtain⟨l3,en,N⟩:=zB N
  refine mD 55 9 8 rfl rfl rfl hQ.b (.inr ⟨0,rfl⟩) fk en ?_
  intro dv da fe j4
  refine qM (zX [2,3,4,5,6,7,8] (ah:=[hB b6 [vN,vB],hB b1 zTwo,hB b [vS p1 p.Arrays c,vS p2 aj c1],hO zE (vS p1 p.Arrays c) cs,hO Raw2 (vS p2 aj c1) aA,hO zD vN cK,hO zI (vS dv l3 da) fe]))<|zZ 6 [] [92] rfl<|yZ 0 [vN,vS dv l3 da] rfl<|zW rfl<|zK<|zM<|qO 4 [2,0] [(94,vS p2 aj c1),(95,vI (W ((aj.length:Int) - 1))),(96,vA [vN,vS dv l3 da])]<|kV 4 rfl rfl rfl hQ.raw ma ?_
  intro ad5 vp kb hcc3 jr
  obtain⟨rfl,-⟩:=jr
  refine jA (α:=Raw2) (c:=[vN,vS dv l3 da]) (x':=⟨vN,vS dv l3 da⟩) 4 0 rfl rfl rfl kb rfl rfl hcc3 (by kernel_rfl) (by kernel_rfl) (by simp[Value.cells,o1];rfl) hQ.raw ma (by kernel_rfl) ⟨rfl,o1,rfl⟩ ?_
  intro iG gt lg
  refine uT (ah:=[hB b6 [vN,vS dv l3 da],hB b1 zTwo,hB b [vS p1 p.Arrays c,vS p2 aj c1],hO zE (vS p1 p.Arrays c) cs,hO Raw2 (vS p2 aj c1) iG,hO zD vN cK,hO zI (vS dv l3 da) fe]) rfl<|zW rfl<|zO<|yV<|qO 1 [2] [(98,vA [vS p1 p.Arrays c,vS p2 aj c1])]<|yZ 1 [vS p1 p.Arrays c,vS p2 aj c1] rfl<|zW rfl<|zK<|yX ?_
  obtain rfl:=zC N
  exact fO ⟨[vA [vS p1 p.Arrays c,vS p2 aj c1]],_,(resC 1 rfl rfl),(zV [3,4,5,6] rfl (by decide)),⟨p1,c,cs,p2,c1,iG,aj.set (W ((aj.length:Int) - 1)).toNat ⟨vN,vS dv l3 da⟩,vN,vS dv l3 da,nl,l3,cK,fe,(by simp only[vS,lg]),(by simp only[vS,lg]),⟨hQ.arr,gt,(fg _ _ _ _).mono bS,hQ.n,j4⟩⟩⟩
 intro iU N
 refine zR<|zO<|yV<|qO 1 [1] [(98,vA [vS p1 p.Arrays c,vS p2 aj c1])]<|yZ 0 [vS p1 p.Arrays c,vS p2 aj c1] rfl<|zW rfl<|zK<|yX ?_
 obtain rfl:=zC N
 exact zJG (resC 0 rfl rfl) (zV [2,3,4,5] rfl (by decide)) ⟨_,_,_,_,_,_,_,_,_,_,_,_,_,rfl,rfl,hQ⟩
instance zOU{cs}{arr:List zE}{aA}{aj:List Raw2}{parts:List zL}{vN:Value}{nl:List zD}{vB:Value}{bl:List zI}{cK cj:List Value}:MonoI (λi=>L4 i cs arr aA aj parts vN nl vB bl cK cj):=⟨λ_ _ hl h=>h.mono hl⟩
def vU(y:List Str)(p:zH)(i:Int):Option zH:=do
 if(decide ((W (i+1))<(y.length:Int))) then
  let x<-idx y i;let p1<-qA p x;vU y p1 (W (i+1))
 else pure p
 partial_fixpoint
theorem zCa(y:List Str):∀(p:zH) (i:Int) (o:zH),vU y p i=some o->∀{B}{I0 I:Imm}{Q}{aF:Str}{pl cl}{b b1:Nat}{p1 c cs p2 c1 aA}{aj:List Raw2}{vN vB:Value}{nl:List zD}{bl:List zI}{cK cj:List Value},I0.le I->(S4 I pl y cl)->L4 I cs p.Arrays aA aj p.Parts vN nl vB bl cK cj->(∀l a w,¬Q (.goto l) a w)->(∀a w,¬Q .outgrown a w) ->
 (∀(I':Imm) (p1:Option Addr) (c:Nat) (cs:List Value) (p2:Option Addr) (c1:Nat) (aA:List Value) (aj:List Raw2) (vN vB:Value) (nl:List zD) (bl:List zI) (cK cj:List Value),I0.le I'->L4 I' cs o.Arrays aA aj o.Parts vN nl vB bl cK cj->T 37 B Q (.exit 0) I' [hO zE (vS p1 o.Arrays c) cs,hO Raw2 (vS p2 aj c1) aA,hO zD vN cK,hO zI vB cj,hB b1 [vS p1 o.Arrays c,vS p2 aj c1],hB b zTwo] [(0,vT aF.l),(2,vP b 0),(5,vP b1 0)]) ->
 J Tryz.prog 37 B (nav (bodyOf f15) [1,1,1,1,0,1,0]) Q I [hO zE (vS p1 p.Arrays c) cs,hO Raw2 (vS p2 aj c1) aA,hO zD vN cK,hO zI vB cj,hB b1 [vS p1 p.Arrays c,vS p2 aj c1],hB b zTwo] [(0,vT aF.l),(2,vP b 0),(4,vS pl y cl),(5,vP b1 0),(6,vI i)]:=by
 refine vU.partial_correctness y _ ?_
 intro aQ ih p i o N B I0 I Q aF pl cl b b1 p1 c cs p2 c1 aA aj vN vB nl bl cK cj H h hQ hg ho hx
 refine xD hg ho<|yA<|yG [18] rfl<|zK<|yC N ?_ ?_
 ·intro aI N
  refine zR<|zY<|yM ?_
  obtain⟨x,hy,N⟩:=zB N
  obtain⟨q,ay,N⟩:=zB N
  refine vK [.p (vA [vS p1 p.Arrays c,vS p2 aj c1]) [0],.p (vS pl y cl) [],.p (vI i) [],.x (λI' v hx=>∃ad,v=.pointer (some ad)/\hx=[]/\(At I' ad [vT x.l])),.x (λI' v hx=>v=vT x.l/\hx=[]),.x (λI' v hx=>∃(p1:Option Addr) (c:Nat) (cs:List Value) (p2:Option Addr) (c1:Nat) (aA:List Value) (aj:List Raw2) (vN vB:Value) (nl:List zD) (bl:List zI) (cK cj:List Value),v=vA [vS p1 q.Arrays c,vS p2 aj c1]/\hx=[hO zE (vS p1 q.Arrays c) cs,hO Raw2 (vS p2 aj c1) aA,hO zD vN cK,hO zI vB cj]/\L4 I' cs q.Arrays aA aj q.Parts vN nl vB bl cK cj)] [[],[],[],[(1,F9),(2,F9)],[(3,F9)],[(0,F9),(4,F9),(7,true)]] [hB b1 [vS p1 p.Arrays c,vS p2 aj c1],hB b zTwo] [[hO zE (vS p1 p.Arrays c) cs,hO Raw2 (vS p2 aj c1) aA,hO zD vN cK,hO zI vB cj]] [(5,true)] (zX [4,5,0,1,2,3]) ?_ ?_
  ·refine O3<|Ox ?_<|Ox ?_<|Ox (hm:=λv hx=>by repeat' (first|exact zHI|exact zOU|refine @zKs _ _ (λ_=>?_)|refine @zJg _ _ ?_ ?_)) ?_<|On
   ·intro I1 hf ae
    refine yW [22,23] rfl<|wJ rfl rfl (h.mono ae) hy ?_
    intro ad aR av al
    obtain rfl:=al
    exact xC [] iR ⟨_,rfl,rfl,av⟩
   ·intro I1 hf ae
    refine vX ?_
    rintro _ _ ⟨ad,rfl,rfl,av⟩
    exact kU<|zCP [(24,.pointer (some ad))]<|wC 0 av [vT x.l] (vT x.l) rfl<|yQ iR
   intro I1 hf ae
   refine vX ?_
   rintro _ _ ⟨rfl,rfl⟩
   refine vX ?_
   rintro _ _ ⟨rfl,rfl⟩
   refine vX ?_
   rintro _ _ rfl
   refine yW [21,25] rfl<|tU (zIT p x _ ay (hQ.mono ae)) rfl ?_
   rintro aY au v2 k2 aJ - ⟨p3,c2,bv,p4,c3,bf,hH,vN1,vB1,nl1,bl1,csN1,csB1,rfl,rfl,hq⟩ -
   exact xC [hO zE (vS p3 q.Arrays c2) bv,hO Raw2 (vS p4 hH c3) bf,hO zD vN1 csN1,hO zI vB1 csB1] aJ ⟨_,_,_,_,_,_,_,_,_,_,_,_,_,rfl,rfl,hq⟩
  intro cI bb
  refine vX ?_
  rintro _ _ ⟨p3,c2,bv,p4,c3,bf,hH,vN1,vB1,nl1,bl1,csN1,csB1,rfl,rfl,hq⟩
  exact kU<|zCP [(0,vT aF.l),(2,vP b 0),(4,vS pl y cl),(5,vP b1 0),(6,vI i),(26,vA [vS p3 q.Arrays c2,vS p4 hH c3])]<|yZ 4 [vS p3 q.Arrays c2,vS p4 hH c3] rfl<|zW rfl<|zO<|zK<|zM<|yI [] [6] rfl<|xB<|jH<|ih _ _ _ N (H.trans bb) (h.mono bb) hq hg ho hx
 intro aI N
 obtain rfl:=zC N
 exact uR<|yP<|hx _ _ _ _ _ _ _ _ _ _ _ _ _ _ H hQ
def qD(aF:Str):Option (zH×Bool):=do
 let y<-kL aF (10:UInt8);if(decide ((y.length:Int)>42)) then pure ((zH.mk [] []),F9)
 else
  let p<-vU y (zH.mk [] []) 1;let uq<-(do
   if(aF.l==([]:List UInt8)) then pure true
   else
    let z<-vW p;pure (!(z.l==aF.l))
     : Option Bool)
  if uq then pure ((zH.mk [] []),F9)
  else pure (p,true)
theorem zDo:∀aF r,qD aF=some r->∀{I:Imm},RT 15 [vT aF.l] I [] (eF r):=by
 intro aF r N I;unfold qD at N;refine yK func15 λB=>yB<|wT zTwo ?_;intro b hb;refine wP [] []<|yV<|zZ 1 [] [7] rfl<|bE N λy hy N=>xG (zB0 aF (10:UInt8) _ hy) ?_;rintro I0 au v2 k2 le - ⟨v0,rfl,rfl,h⟩ -;obtain⟨pl,cl,rfl⟩:=h.form;refine yI [] [4] rfl<|yV<|zZ 1 [] [9] rfl<|wT zTwo ?_;intro b1 cp;refine zAF 0 zTwo [hB b1 zTwo,hB b zTwo] rfl rfl rfl rfl<|zW rfl<|zY<|yG [12] rfl<|zK<|yC N ?_ ?_
 ·intro hc N;refine yB<|qO 1 [0] [(13,vA zTwo)]<|zAF 1 zTwo [hB b1 zTwo,hB b zTwo] rfl rfl rfl rfl<|wP [] [(3,vF)]<|xH<|zG ?_;exact wD N (resE 1 rfl rfl rfl) zN ⟨_,_,rfl,rfl,⟨_,rfl,(uA ⟨_,_,rfl,(SL.nil _),(SL.nil _)⟩)⟩,rfl⟩
 intro hc N;refine zR<|zY<|yG [6] rfl<|vC<|mM [(0,vT aF.l),(2,vP b 0),(4,vS pl y cl),(5,vP b1 0),(6,vI 1)]<|kT (kO (Rp.sz zI))<|kT (kO (Rp.sz zD))<|kT (kO (Rp.sz Raw2))<|kT (kO (Rp.sz zE))<|bE N λp ay N=>zCa (aj:=[]) (vN:=z0) (vB:=z0) (nl:=[]) (bl:=[]) y (zH.mk [] []) 1 p ay iR h ⟨RepL.nil,RepL.nil,⟨by decide,rfl,.inl ⟨rfl,rfl⟩⟩,RepL.nil,RepL.nil⟩ nG nO λI1 p1 c cs p2 c1 aA aj vN vB nl bl cK cj ae hQ=>xT 2 rfl ?_;intro I2 aJ r3;have kN:=SL.of_frozen r3 aJ hQ.n;have hQ:=hQ.mono aJ;refine xT 2 rfl ?_;intro I3 aL vu;have kB:=SL.of_frozen vu aL hQ.b;replace kN:=kN.mono aL;have hQ:=hQ.mono aL;refine xT 0 rfl ?_;intro I4 bb u7;have kA:=SL.of_frozen u7 bb hQ.arr;replace kN:=kN.mono bb;replace kB:=kB.mono bb;have hQ:=hQ.mono bb;refine xT 0 rfl ?_;intro I5 bI r4;have kP:SL I5 (vS p2 aj c1) p.Parts:=⟨aA,r4,by
  rw[jZ hQ.raw];exact(hQ.lp.done kN kB).mono λ_ _=>Rp.mono bI⟩
 have e0:vS p2 aj c1=vS p2 p.Parts c1:=by simp only[vS,hQ.lp.2.1]
 rw[e0] at kP ⊢;clear e0 r4 u7 vu r3 hQ;replace kA:=kA.mono bI;refine zT<|zY<|yA<|bE N λuq ht N=>rR (K1 uq I5 [hB b1 (cProg p p1 c p2 c1),hB b zTwo] λo=>[(2,vP b 0),(5,vP b1 0),(34,.bool o)]) ?_ ?_
 ·refine zM<|qO 3 [] [(29,.bool (aF.l==([]:List UInt8)))] ?_;cases aU:(aF.l==([]:List UInt8)) with
  | true=>
   have nw:=tI aU ht;exact wP [] [(34,vY)]<|yP<|zQ ⟨_,(zC nw).symm,Imm.le.refl _,rfl,rfl⟩
  | false=>
   have nw:=uQ aU ht;obtain⟨z,hz,nw⟩:=zB nw;refine qO 4 [0] [(30,vA (cProg p p1 c p2 c1))]<|xG (qJ p _ hz kA kP) ?_;rintro I6 au v2 k2 bJ - ⟨v0,rfl,rfl,rfl⟩ -;exact yI [] [34] rfl<|yP<|zQ (ct nw bJ)
 rintro I6 au m2 ⟨o,rfl,bJ,rfl,rfl⟩;replace kA:=kA.mono bJ;replace kP:=kP.mono bJ;refine zK<|yC N ?_ ?_
 ·intro aU N;refine yB<|zZ 1 [] [35] rfl<|zAF 1 zTwo [hB b1 (cProg p p1 c p2 c1),hB b zTwo] rfl rfl rfl rfl<|wP [] [(3,vF)]<|xH<|zG ?_;exact wD N (resE 1 rfl rfl rfl) zN ⟨_,_,rfl,rfl,⟨_,rfl,(uA ⟨_,_,rfl,(SL.nil _),(SL.nil _)⟩)⟩,rfl⟩
 intro aU N;refine zR<|yV<|qO 1 [0] [(36,vA (cProg p p1 c p2 c1))]<|yZ 1 (cProg p p1 c p2 c1) rfl<|wP [] [(3,vY)]<|zK<|yX ?_;exact wD N (resE 1 rfl rfl rfl) zN ⟨_,_,rfl,rfl,⟨_,rfl,(uA ⟨_,_,rfl,kA,kP⟩)⟩,rfl⟩
def gO(bo:(List UInt8))(ju:(List UInt8)):Option (Bool):=do
 let t21<-(do
  if(decide ((bo.length:Int)>1048576)) then pure true
  else
   pure (decide ((ju.length:Int)>1048576))
    : Option Bool)
 if t21 then pure true
 else
  let y<-oI bo;let y1<-qW y;let (y3,y4)<-pY y1;let nj<-(do
   let y5<-vW y;if(!(y1.l==y5.l)) then pure true
   else
    let y6<-pX y;let y7<-uH y;if(!(y6==y7)) then pure true
    else
     let y8<-uH y;if(!(y4==y8)) then pure true
     else
      if y4 then
       let y9<-qY y3 y;pure (!y9)
      else pure false
     : Option Bool)
  if nj then pure false
  else
   let y10<-nD ju;let (ef,y13)<-pY y10;let (je,ii)<-qD y10;let t4<-(do
    if(y13==ii) then
     let lx<-qY ef je;if lx then
      if(!y13) then pure true
      else
       let jw<-qW ef;pure (jw.l==y10.l)
     else pure false
    else
     pure false
      : Option Bool)
   pure (id t4)
theorem zKg:∀bo ju r,gO bo ju=some r->∀{I:Imm}{p c p1 c1},(S4 I p bo c)->(S4 I p1 ju c1)->(GH Tryz.prog I)->RT 3 [vS p bo c,vS p1 ju c1] I [] (zU  r):=by
 intro bo ju r N I p c p1 c1 h h1 hG;unfold gO at N;refine yK func3 λB=>?_;have H:=iS I;refine vO []<|zY<|yA ?_;refine wZ N [] (λt21=>[(0,vS p bo c),(1,vS p1 ju c1),(21,.bool t21)]) (λo0 aC=>?_) ?_
 ·have H:=iS I;refine zM<|zZ 4 [] [17] rfl<|xW [17] aC ?_ ?_
  ·intro hc N;exact wP [] [(21,vY)]<|yP<|zQ (ct N H)
  intro hc N;exact yI [] [21] rfl<|yP<|zQ (ct N H)
 intro t21 I0 le aO;have ⟨h,h1,hG,H⟩:=m4 le h h1 hG H;refine zK<|yC aO ?_ ?_
 ·intro aI N;refine vO [(4,vY)]<|xH<|zG ?_;obtain rfl:=zC N;exact vG
 intro aI N;refine zR<|yV<|zZ 1 [] [22] rfl<|bE N λy hy N=>xG (zBa bo _ hy h) ?_;rintro aT au v2 k2 ae - ⟨v0,rfl,rfl,⟨cs,rfl,h2⟩⟩ -;have ⟨h1,hG,H⟩:=m3 ae h1 hG H;obtain⟨p2,c2,p3,c3,rfl,h3,h4⟩:=mE h2;refine wT zTwo ?_;intro b hb;refine yZ 0 (cProg y p2 c2 p3 c3) rfl<|zW rfl<|yV<|qO 1 [0] [(24,vA (cProg y p2 c2 p3 c3))]<|bE N λy1 ay N=>xG (zA5 y _ ay h3 h4 hG) ?_;rintro aY au v2 k2 aJ - ⟨ng,rfl,rfl,rfl⟩ -;have ⟨h1,h3,h4,hG,H⟩:=m5 aJ h1 h3 h4 hG H;refine yI [] [6] rfl<|yV<|zZ 1 [] [27] rfl ?_;obtain⟨⟨y3,y4⟩,aK,N⟩:=zB N;refine xG (zAr y1 _ aK hG) ?_;rintro bP au v2 k2 aL - ⟨ee,sk,rfl,rfl,⟨aA,rfl,h6⟩,rfl⟩ -;have ⟨h1,h3,h4,hG,H⟩:=m5 aL h1 h3 h4 hG H;obtain⟨p4,c4,p5,c5,rfl,h8,h9⟩:=mE h6;refine zZ 5 [] [29,30] rfl<|wT zTwo ?_;intro b1 cp;refine yZ 0 (cProg y3 p4 c4 p5 c5) rfl<|yI [] [8] rfl<|zY<|yA ?_;refine wZ N [] (λnj=>[(1,vS p1 ju c1),(56,.bool nj)]) (λaS aE=>?_) ?_
 ·have H:=iS bP;obtain⟨y5,bc,N⟩:=zB aE;cases aU:(!(y1.l==y5.l)) with
  | true=>
   have nw:=tI aU N;refine vK [.p (vT y1.l) [],.p (vA (cProg y p2 c2 p3 c3)) [1],.q (vT y5.l),.q vY,.q vY,u9,u9,u9,u9,u9,.p vY [],.p vY [],u9,u9,u9,u9,.p vY [],.p vY [],u9,u9,u9,u9,u9,u9,u9,.p vY []] [[],[],[(1,F9)],[(0,F9),(2,F9)],[(3,F9)],[(4,F9)],[(4,F9),(5,F9)],[(4,F9)],[(4,F9),(7,F9)],[(4,F9),(6,F9),(8,F9)],[(4,F9),(9,F9)],[(10,F9)],[(11,F9)],[(11,F9)],[(11,F9),(13,F9)],[(11,F9),(12,F9),(14,F9)],[(11,F9),(15,F9)],[(16,F9)],[(17,F9)],[(17,F9),(18,F9)],[(19,F9)],[(19,F9)],[(19,F9),(20,F9),(21,F9)],[(19,F9),(22,F9)],[(17,F9),(19,F9),(23,F9)],[(17,F9),(24,F9)]] [hB b1 (cProg y3 p4 c4 p5 c5),hB b (cProg y p2 c2 p3 c3)] [] [(25,F9)] (zX [0,1]) ?_ ?_
   ·refine O2<|Oq ?_<|Oq ?_<|Oq ?_<|O4<|O4<|O4<|O4<|O4<|Op<|On
    ·intro I1 hf ae;refine yW [32] rfl ?_;have H:=iS I1;have ⟨h3,h4⟩:=m2 ae h3 h4;refine xG (qJ y _ bc h3 h4) ?_;rintro dw au v2 k2 bb - ⟨q9,rfl,rfl,rfl⟩ -;have H:=H.trans bb;exact yQ H
    ·intro I1 hf ae;refine yW [31,33] rfl<|pQ 4 [(34,.bool (!(y1.l==y5.l)))] ?_;rw[aU];exact yQ iR
    intro I1 hf ae;exact I_h [(34,vY)]<|pQ 5 [(35,vY)]<|yQ iR
   intro gk bI;refine yW [1,56] rfl ?_;have H:=H.trans bI;exact zW rfl<|wI zN<|yP<|zQ (ct nw H)
  | false=>
   have lc:=uQ aU N;obtain⟨y6,bL,N⟩:=zB lc;obtain⟨y7,bX,N⟩:=zB N;cases bU:(!(y6==y7)) with
   | true=>
    have nx:=tI bU N;refine vK [.p (vT y1.l) [],.p (vA (cProg y p2 c2 p3 c3)) [1],.q (vT y5.l),.q vF,.q vF,.p (vA (cProg y p2 c2 p3 c3)) [1],.q (.bool y6),.p (vA (cProg y p2 c2 p3 c3)) [1],.q (.bool y7),.q vY,.q vY,.q vY,u9,u9,u9,u9,.p vY [],.p vY [],u9,u9,u9,u9,u9,u9,u9,.p vY []] [[],[],[(1,F9)],[(0,F9),(2,F9)],[(3,F9)],[(4,F9)],[(4,F9),(5,F9)],[(4,F9)],[(4,F9),(7,F9)],[(4,F9),(6,F9),(8,F9)],[(4,F9),(9,F9)],[(10,F9)],[(11,F9)],[(11,F9)],[(11,F9),(13,F9)],[(11,F9),(12,F9),(14,F9)],[(11,F9),(15,F9)],[(16,F9)],[(17,F9)],[(17,F9),(18,F9)],[(19,F9)],[(19,F9)],[(19,F9),(20,F9),(21,F9)],[(19,F9),(22,F9)],[(17,F9),(19,F9),(23,F9)],[(17,F9),(24,F9)]] [hB b1 (cProg y3 p4 c4 p5 c5),hB b (cProg y p2 c2 p3 c3)] [] [(25,F9)] (zX [0,1]) ?_ ?_
    ·refine O2<|Oq ?_<|Oq ?_<|Oq ?_<|Op<|Oq ?_<|Op<|Oq ?_<|Oq ?_<|Oq ?_<|Oq ?_<|O4<|O4<|O4<|O2<|On
     ·intro I1 hf ae;refine yW [32] rfl ?_;have H:=iS I1;have ⟨h3,h4⟩:=m2 ae h3 h4;refine xG (qJ y _ bc h3 h4) ?_;rintro dw au v2 k2 bb - ⟨q9,rfl,rfl,rfl⟩ -;have H:=H.trans bb;exact yQ H
     ·intro I1 hf ae;refine yW [31,33] rfl<|pQ 4 [(34,.bool (!(y1.l==y5.l)))] ?_;rw[aU];exact yQ iR
     ·intro I1 hf ae;exact I_h [(34,vF)]<|pQ 5 [(35,vF)]<|yQ iR
     ·intro I1 hf ae;refine yW [35,36] rfl ?_;have H:=iS I1;have ⟨h3,h4⟩:=m2 ae h3 h4;refine uU (oZ y _ bL h3 h4) ?_;intro ij bJ;have H:=H.trans bJ;exact yQ H
     ·intro I1 hf ae;refine yW [35,38] rfl ?_;have H:=iS I1;have ⟨h3,h4⟩:=m2 ae h3 h4;refine uU (tL y _ bX h3 h4) ?_;intro iE bZ;have H:=H.trans bZ;exact yQ H
     ·intro I1 hf ae;refine yW [35,37,39] rfl<|pQ 10 [(40,.bool (!(y6==y7)))] ?_;rw[bU];exact yQ iR
     ·intro I1 hf ae;exact yW [35,40] rfl<|pQ 11 [(41,vY)]<|yQ iR
     intro I1 hf ae;exact I_h [(41,vY)]<|pQ 12 [(42,vY)]<|yQ iR
    intro jx dt;refine yW [1,56] rfl ?_;have H:=H.trans dt;exact zW rfl<|wI zN<|yP<|zQ (ct nx H)
   | false=>
    have pf:=uQ bU N;obtain⟨y8,cx,N⟩:=zB pf;cases cO:(!(y4==y8)) with
    | true=>
     have tq:=tI cO N;refine vK [.p (vT y1.l) [],.p (vA (cProg y p2 c2 p3 c3)) [1],.q (vT y5.l),.q vF,.q vF,.p (vA (cProg y p2 c2 p3 c3)) [1],.q (.bool y6),.p (vA (cProg y p2 c2 p3 c3)) [1],.q (.bool y7),.q vF,.q vF,.q vF,.p (.bool y4) [],.p (vA (cProg y p2 c2 p3 c3)) [1],.q (.bool y8),.q vY,.q vY,.q vY,u9,u9,u9,u9,u9,u9,u9,.p vY []] [[],[],[(1,F9)],[(0,F9),(2,F9)],[(3,F9)],[(4,F9)],[(4,F9),(5,F9)],[(4,F9)],[(4,F9),(7,F9)],[(4,F9),(6,F9),(8,F9)],[(4,F9),(9,F9)],[(10,F9)],[(11,F9)],[(11,F9)],[(11,F9),(13,F9)],[(11,F9),(12,F9),(14,F9)],[(11,F9),(15,F9)],[(16,F9)],[(17,F9)],[(17,F9),(18,F9)],[(19,F9)],[(19,F9)],[(19,F9),(20,F9),(21,F9)],[(19,F9),(22,F9)],[(17,F9),(19,F9),(23,F9)],[(17,F9),(24,F9)]] [hB b1 (cProg y3 p4 c4 p5 c5),hB b (cProg y p2 c2 p3 c3)] [] [(25,F9)] (zX [0,1]) ?_ ?_
     ·refine O2<|Oq ?_<|Oq ?_<|Oq ?_<|Op<|Oq ?_<|Op<|Oq ?_<|Oq ?_<|Oq ?_<|Oq ?_<|O2<|Oq ?_<|Oq ?_<|Oq ?_<|Oq ?_<|O4<|O4<|On
      ·intro I1 hf ae;refine yW [32] rfl ?_;have H:=iS I1;have ⟨h3,h4⟩:=m2 ae h3 h4;refine xG (qJ y _ bc h3 h4) ?_;rintro dw au v2 k2 bb - ⟨q9,rfl,rfl,rfl⟩ -;have H:=H.trans bb;exact yQ H
      ·intro I1 hf ae;refine yW [31,33] rfl<|pQ 4 [(34,.bool (!(y1.l==y5.l)))] ?_;rw[aU];exact yQ iR
      ·intro I1 hf ae;exact I_h [(34,vF)]<|pQ 5 [(35,vF)]<|yQ iR
      ·intro I1 hf ae;refine yW [35,36] rfl ?_;have H:=iS I1;have ⟨h3,h4⟩:=m2 ae h3 h4;refine uU (oZ y _ bL h3 h4) ?_;intro ij bJ;have H:=H.trans bJ;exact yQ H
      ·intro I1 hf ae;refine yW [35,38] rfl ?_;have H:=iS I1;have ⟨h3,h4⟩:=m2 ae h3 h4;refine uU (tL y _ bX h3 h4) ?_;intro iE bZ;have H:=H.trans bZ;exact yQ H
      ·intro I1 hf ae;refine yW [35,37,39] rfl<|pQ 10 [(40,.bool (!(y6==y7)))] ?_;rw[bU];exact yQ iR
      ·intro I1 hf ae;exact yW [35,40] rfl<|pQ 11 [(41,vF)]<|yQ iR
      ·intro I1 hf ae;exact I_h [(41,vF)]<|pQ 12 [(42,vF)]<|yQ iR
      ·intro I1 hf ae;refine yW [42,44] rfl ?_;have H:=iS I1;have ⟨h3,h4⟩:=m2 ae h3 h4;refine uU (tL y _ cx h3 h4) ?_;intro eg bS;have H:=H.trans bS;exact yQ H
      ·intro I1 hf ae;refine yW [42,43,45] rfl<|pQ 16 [(46,.bool (!(y4==y8)))] ?_;rw[cO];exact yQ iR
      ·intro I1 hf ae;exact yW [42,46] rfl<|pQ 17 [(47,vY)]<|yQ iR
      intro I1 hf ae;exact I_h [(47,vY)]<|pQ 18 [(48,vY)]<|yQ iR
     intro hJ cb;refine yW [1,56] rfl ?_;have H:=H.trans cb;exact zW rfl<|wI zN<|yP<|zQ (ct tq H)
    | false=>
     have rt:=uQ cO N;cases ft:y4 with
     | true=>
      have iU:=cO;rw[ft] at iU;have hM06:=tI ft rt;obtain⟨y9,cV,N⟩:=zB hM06;refine vK [.p (vT y1.l) [],.p (vA (cProg y p2 c2 p3 c3)) [1],.q (vT y5.l),.q vF,.q vF,.p (vA (cProg y p2 c2 p3 c3)) [1],.q (.bool y6),.p (vA (cProg y p2 c2 p3 c3)) [1],.q (.bool y7),.q vF,.q vF,.q vF,.q vY,.p (vA (cProg y p2 c2 p3 c3)) [1],.q (.bool y8),.q vF,.q vF,.q vF,.q vY,.q vY,.p (vA (cProg y3 p4 c4 p5 c5)) [0],.p (vA (cProg y p2 c2 p3 c3)) [1],.q (.bool y9),.p (.bool (!y9)) [],.p (.bool (!y9)) [],.p (.bool (!y9)) []] [[],[],[(1,F9)],[(0,F9),(2,F9)],[(3,F9)],[(4,F9)],[(4,F9),(5,F9)],[(4,F9)],[(4,F9),(7,F9)],[(4,F9),(6,F9),(8,F9)],[(4,F9),(9,F9)],[(10,F9)],[(11,F9)],[(11,F9)],[(11,F9),(13,F9)],[(11,F9),(12,F9),(14,F9)],[(11,F9),(15,F9)],[(16,F9)],[(17,F9)],[(17,F9),(18,F9)],[(19,F9)],[(19,F9)],[(19,F9),(20,F9),(21,F9)],[(19,F9),(22,F9)],[(17,F9),(19,F9),(23,F9)],[(17,F9),(24,F9)]] [hB b1 (cProg y3 p4 c4 p5 c5),hB b (cProg y p2 c2 p3 c3)] [] [(25,F9)] (zX [0,1]) ?_ ?_
      ·refine O2<|Oq ?_<|Oq ?_<|Oq ?_<|Op<|Oq ?_<|Op<|Oq ?_<|Oq ?_<|Oq ?_<|Oq ?_<|Oq ?_<|Op<|Oq ?_<|Oq ?_<|Oq ?_<|Oq ?_<|Oq ?_<|Oq ?_<|O2<|Oq ?_<|O3<|On
       ·intro I1 hf ae;refine yW [32] rfl ?_;have H:=iS I1;have ⟨h3,h4⟩:=m2 ae h3 h4;refine xG (qJ y _ bc h3 h4) ?_;rintro dw au v2 k2 bb - ⟨q9,rfl,rfl,rfl⟩ -;have H:=H.trans bb;exact yQ H
       ·intro I1 hf ae;refine yW [31,33] rfl<|pQ 4 [(34,.bool (!(y1.l==y5.l)))] ?_;rw[aU];exact yQ iR
       ·intro I1 hf ae;exact I_h [(34,vF)]<|pQ 5 [(35,vF)]<|yQ iR
       ·intro I1 hf ae;refine yW [35,36] rfl ?_;have H:=iS I1;have ⟨h3,h4⟩:=m2 ae h3 h4;refine uU (oZ y _ bL h3 h4) ?_;intro ij bJ;have H:=H.trans bJ;exact yQ H
       ·intro I1 hf ae;refine yW [35,38] rfl ?_;have H:=iS I1;have ⟨h3,h4⟩:=m2 ae h3 h4;refine uU (tL y _ bX h3 h4) ?_;intro iE bZ;have H:=H.trans bZ;exact yQ H
       ·intro I1 hf ae;refine yW [35,37,39] rfl<|pQ 10 [(40,.bool (!(y6==y7)))] ?_;rw[bU];exact yQ iR
       ·intro I1 hf ae;exact yW [35,40] rfl<|pQ 11 [(41,vF)]<|yQ iR
       ·intro I1 hf ae;exact I_h [(41,vF)]<|pQ 12 [(42,vF)]<|yQ iR
       ·intro I1 hf ae;exact yW [8,42] rfl<|pQ 13 [(43,vY)]<|yQ iR
       ·intro I1 hf ae;refine yW [42,44] rfl ?_;have H:=iS I1;have ⟨h3,h4⟩:=m2 ae h3 h4;refine uU (tL y _ cx h3 h4) ?_;intro eg bS;have H:=H.trans bS;exact yQ H
       ·intro I1 hf ae;refine yW [42,43,45] rfl<|pQ 16 [(46,.bool (!(true==y8)))] ?_;rw[iU];exact yQ iR
       ·intro I1 hf ae;exact yW [42,46] rfl<|pQ 17 [(47,vF)]<|yQ iR
       ·intro I1 hf ae;exact I_h [(47,vF)]<|pQ 18 [(48,vF)]<|yQ iR
       ·intro I1 hf ae;exact yW [8,48] rfl<|pQ 19 [(49,vY)]<|yQ iR
       ·intro I1 hf ae;exact yW [48,49] rfl<|pQ 20 [(50,vY)]<|yQ iR
       intro I1 hf ae;refine yW [50,51,52] rfl ?_;have H:=iS I1;have ⟨h8,h9,h3,h4⟩:=m4 ae h8 h9 h3 h4;refine uU (zBJ y3 y _ cV h8 h9 h3 h4) ?_;intro fq cA;have H:=H.trans cA;exact yQ H
      intro ku d7;refine yW [1,56] rfl ?_;have H:=H.trans d7;exact zW rfl<|wI zN<|yP<|zQ (ct N H)
     | false=>
      have kq:=cO;rw[ft] at kq;have hM07:=uQ ft rt;refine vK [.p (vT y1.l) [],.p (vA (cProg y p2 c2 p3 c3)) [1],.q (vT y5.l),.q vF,.q vF,.p (vA (cProg y p2 c2 p3 c3)) [1],.q (.bool y6),.p (vA (cProg y p2 c2 p3 c3)) [1],.q (.bool y7),.q vF,.q vF,.q vF,.q vF,.p (vA (cProg y p2 c2 p3 c3)) [1],.q (.bool y8),.q vF,.q vF,.q vF,.q vF,.q vF,u9,u9,u9,u9,.p vF [],.p vF []] [[],[],[(1,F9)],[(0,F9),(2,F9)],[(3,F9)],[(4,F9)],[(4,F9),(5,F9)],[(4,F9)],[(4,F9),(7,F9)],[(4,F9),(6,F9),(8,F9)],[(4,F9),(9,F9)],[(10,F9)],[(11,F9)],[(11,F9)],[(11,F9),(13,F9)],[(11,F9),(12,F9),(14,F9)],[(11,F9),(15,F9)],[(16,F9)],[(17,F9)],[(17,F9),(18,F9)],[(19,F9)],[(19,F9)],[(19,F9),(20,F9),(21,F9)],[(19,F9),(22,F9)],[(17,F9),(19,F9),(23,F9)],[(17,F9),(24,F9)]] [hB b1 (cProg y3 p4 c4 p5 c5),hB b (cProg y p2 c2 p3 c3)] [] [(25,F9)] (zX [0,1]) ?_ ?_
      ·refine O2<|Oq ?_<|Oq ?_<|Oq ?_<|Op<|Oq ?_<|Op<|Oq ?_<|Oq ?_<|Oq ?_<|Oq ?_<|Oq ?_<|Op<|Oq ?_<|Oq ?_<|Oq ?_<|Oq ?_<|Oq ?_<|Oq ?_<|O4<|O2<|On
       ·intro I1 hf ae;refine yW [32] rfl ?_;have H:=iS I1;have ⟨h3,h4⟩:=m2 ae h3 h4;refine xG (qJ y _ bc h3 h4) ?_;rintro dw au v2 k2 bb - ⟨q9,rfl,rfl,rfl⟩ -;have H:=H.trans bb;exact yQ H
       ·intro I1 hf ae;refine yW [31,33] rfl<|pQ 4 [(34,.bool (!(y1.l==y5.l)))] ?_;rw[aU];exact yQ iR
       ·intro I1 hf ae;exact I_h [(34,vF)]<|pQ 5 [(35,vF)]<|yQ iR
       ·intro I1 hf ae;refine yW [35,36] rfl ?_;have H:=iS I1;have ⟨h3,h4⟩:=m2 ae h3 h4;refine uU (oZ y _ bL h3 h4) ?_;intro ij bJ;have H:=H.trans bJ;exact yQ H
       ·intro I1 hf ae;refine yW [35,38] rfl ?_;have H:=iS I1;have ⟨h3,h4⟩:=m2 ae h3 h4;refine uU (tL y _ bX h3 h4) ?_;intro iE bZ;have H:=H.trans bZ;exact yQ H
       ·intro I1 hf ae;refine yW [35,37,39] rfl<|pQ 10 [(40,.bool (!(y6==y7)))] ?_;rw[bU];exact yQ iR
       ·intro I1 hf ae;exact yW [35,40] rfl<|pQ 11 [(41,vF)]<|yQ iR
       ·intro I1 hf ae;exact I_h [(41,vF)]<|pQ 12 [(42,vF)]<|yQ iR
       ·intro I1 hf ae;exact yW [8,42] rfl<|pQ 13 [(43,vF)]<|yQ iR
       ·intro I1 hf ae;refine yW [42,44] rfl ?_;have H:=iS I1;have ⟨h3,h4⟩:=m2 ae h3 h4;refine uU (tL y _ cx h3 h4) ?_;intro eg bS;have H:=H.trans bS;exact yQ H
       ·intro I1 hf ae;refine yW [42,43,45] rfl<|pQ 16 [(46,.bool (!(false==y8)))] ?_;rw[kq];exact yQ iR
       ·intro I1 hf ae;exact yW [42,46] rfl<|pQ 17 [(47,vF)]<|yQ iR
       ·intro I1 hf ae;exact I_h [(47,vF)]<|pQ 18 [(48,vF)]<|yQ iR
       ·intro I1 hf ae;exact yW [8,48] rfl<|pQ 19 [(49,vF)]<|yQ iR
       intro I1 hf ae;exact yW [48,49] rfl<|pQ 20 [(50,vF)]<|yQ iR
      intro mm fu;refine yW [1,56] rfl ?_;have H:=H.trans fu;exact zW rfl<|wI zN<|yP<|zQ (ct hM07 H)
 intro nj cI ib bK;have ⟨h1,hG,H⟩:=m3 ib h1 hG H;refine zK<|yC bK ?_ ?_
 ·intro lH N;refine vO [(4,vF)]<|xH<|zG ?_;obtain rfl:=zC N;exact vG
 intro lH N;refine zR<|yV<|zZ 1 [] [57] rfl<|bE N λy10 eo N=>xG (zCK ju _ eo h1) ?_;rintro kv au v2 k2 ic - ⟨qe,rfl,rfl,rfl⟩ -;have ⟨hG,H⟩:=m2 ic hG H;refine yI [] [9] rfl<|yV<|zZ 1 [] [60] rfl ?_;obtain⟨⟨ef,y13⟩,gi,N⟩:=zB N;refine xG (zAr y10 _ gi hG) ?_;rintro lZ au v2 k2 gw - ⟨om,uu,rfl,rfl,⟨bv,rfl,ck⟩,rfl⟩ -;have ⟨hG,H⟩:=m2 gw hG H;obtain⟨p6,c6,p7,c7,rfl,bY,d9⟩:=mE ck;refine zZ 5 [] [62,63] rfl<|wT zTwo ?_;intro b2 fl;refine yZ 0 (cProg ef p6 c6 p7 c7) rfl<|yI [] [11] rfl<|yV<|zZ 1 [] [65] rfl ?_;obtain⟨⟨je,ii⟩,cU,N⟩:=zB N;refine xG (zDo y10 _ cU ) ?_;rintro mn au v2 k2 iC - ⟨v018,v019,rfl,rfl,⟨bf,rfl,dm⟩,rfl⟩ -;have ⟨bY,d9,hG,H⟩:=m4 iC bY d9 hG H;obtain⟨p8,c8,p9,c9,rfl,j3,jg⟩:=mE dm;refine zZ 5 [] [67,68] rfl<|wT zTwo ?_;intro b3 ni;refine yZ 0 (cProg je p8 c8 p9 c9) rfl<|yI [] [13] rfl<|zK<|yA ?_;refine wZ N [] (λt4=>[(4,.bool t4)]) (λdd bh=>?_) ?_
 ·have H:=iS mn;refine zM<|zZ 4 [] [72] rfl<|xW [72] bh ?_ ?_
  ·intro l9 N;refine qO 6 [1,0] [(73,vA (cProg ef p6 c6 p7 c7)),(74,vA (cProg je p8 c8 p9 c9))]<|bE N λlx dr N=>uU (zBJ ef je _ dr bY d9 j3 jg) ?_;intro o8 iO;have ⟨bY,d9,hG,H⟩:=m4 iO bY d9 hG H;refine zZ 9 [] [77] rfl<|xW [77] N ?_ ?_
   ·intro ja N;refine zZ 12 [] [80] rfl<|xW [80] N ?_ ?_
    ·intro kc N;exact wP [] [(4,vY)]<|wI zN<|yP<|zQ (ct N H)
    intro kc N;refine qO 13 [1] [(81,vA (cProg ef p6 c6 p7 c7))]<|bE N λjw en N=>xG (zA5 ef _ en bY d9 hG) ?_;rintro tb au v2 k2 jc - ⟨v023,rfl,rfl,rfl⟩ -;have H:=H.trans jc;exact yI [] [4] rfl<|wI zN<|yP<|zQ (ct N H)
   intro ja N;exact wP [] [(4,vF)]<|wI zN<|yP<|zQ (ct N H)
  intro l9 N;exact wP [] [(4,vF)]<|wI zN<|yP<|zQ (ct N H)
 intro t4 mq mc d6;refine zK<|yX ?_;obtain rfl:=zC d6;exact vG
end Go.LN
