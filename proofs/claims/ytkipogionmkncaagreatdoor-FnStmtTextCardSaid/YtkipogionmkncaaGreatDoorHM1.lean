/- Helper of the proof (see the last text). -/
import Derived.Test.YtkipogionmkncaaGreatDoorLnP
import Derived.Test.YtkipogionmkncaaGreatDoorTryzShelf
set_option linter.unusedVariables false
set_option linter.unusedSimpArgs false
namespace Go.LN
open Go.Proofs Go.Proofs.Tryz
set_option maxRecDepth 20000
abbrev eS{α:Type}[Rp α](l:List α):Imm->Value->List HA->Prop:=λI' v hx=>∃p c,v=vS p l c/\hx=[]/\S4 I' p l c
abbrev ePExpr(x:zB):Imm->Value->List HA->Prop:=λI' v hx=>∃ad p0 c0 p1 c1 p2 c2,v=.pointer (some ad)/\hx=[]/\At I' ad (cExpr x p0 c0 p1 c1 p2 c2)/\S4 I' p0 x.Index.Coefs c0/\S4 I' p1 x.Read.Subs c1/\S4 I' p2 x.Kids c2
abbrev eVExpr(x:zB):Imm->Value->List HA->Prop:=λI' v hx=>∃p0 c0 p1 c1 p2 c2,v=vA (cExpr x p0 c0 p1 c1 p2 c2)/\hx=[]/\S4 I' p0 x.Index.Coefs c0/\S4 I' p1 x.Read.Subs c1/\S4 I' p2 x.Kids c2
abbrev ePAff(x:zA):Imm->Value->List HA->Prop:=λI' v hx=>∃ad p0 c0,v=.pointer (some ad)/\hx=[]/\At I' ad (cAff x p0 c0)/\S4 I' p0 x.Coefs c0
abbrev eVAff(x:zA):Imm->Value->List HA->Prop:=λI' v hx=>∃p0 c0,v=vA (cAff x p0 c0)/\hx=[]/\S4 I' p0 x.Coefs c0
instance {i j:Imm}{am:List Raw2}{parts:List xF}{vN vB:Value}{nl:List yD}{bl:List zL}:Mo (LP i am parts vN nl vB bl) i j (LP j am parts vN nl vB bl):=⟨λh x=>x.mono h⟩
abbrev RT:=Ret Tryz.prog
def zP(r:Bool):KT:=λkk I' ag v=>
 ∃v0,ag=[]/\v=tupV [v0]/\v0=.bool r
def uV(n0:Int)(low:Int)(high:Int):Option (Bool):=do
 let t6<-(do
  if(decide (low<=n0)) then
   pure (decide (n0<=high))
  else
   pure false
    : Option Bool)
 pure (id t6)
theorem rU:∀n0 low high r,uV n0 low high=some r->∀{I:Imm} ,RT 81 [vI n0,vI low,vI high] I [] (zP  r):=by
 intro n0 low high r N I;unfold uV at N;refine yK func81 λB=>?_;have H:=iS I;refine tK []<|zG<|yB ?_;refine wT N [] (λt6=>[(6,.bool t6)]) (λo0 ar=>?_) ?_
 ·have H:=iS I;refine zI<|zX 4 [] [10] rfl<|xE [10] ar ?_ ?_
  ·intro hc N;exact yS [] [6] rfl<|yM<|zJ (ct N H)
  intro hc N;exact wG [] [(6,vF)]<|yM<|zJ (ct N H)
 intro t6 I0 le aw;refine zG<|yX ?_;obtain rfl:=zD aw;exact wU
def qD(s:Str)(substr:Str):Option Bool:=match substr.l with|[c]=>some (decide (0<=Lib.indexByte s.l c))|_=>none
theorem gZ:∀(s substr:Str) r,qD s substr=some r->∀{I:Imm},RT 191 [vT s.l,vT substr.l] I [] (zP r):=by
 intro s substr r N I;unfold qD at N;split at N
 ·rename_i c hc;cases N
  rw[hc];exact oC (λw g=>(Tryz.strings_Contains_one ⟨⟨s.l⟩⟩ c w).mono λe w' ⟨h1,h2⟩=>⟨h1,h2 ▸ RowKit.Below.refl _ _⟩) λk=>⟨_,rfl,rfl,rfl⟩
 cases N
def qR(s:Str):Option (Bool):=do
 let t2<-(do
  if((s.l.length:Int)==1) then
   let y<-qD (⟨[65,66,67,68]⟩:Str) s
   pure (id y)
  else
   pure false
    : Option Bool)
 pure (id t2)
theorem zAi:∀s r,qR s=some r->∀{I:Imm} ,RT 135 [vT s.l] I [] (zP  r):=by
 intro s r N I;unfold qR at N;refine yK func135 λB=>?_;have H:=iS I;refine tK []<|zG<|yB ?_;refine wT N [] (λt2=>[(2,.bool t2)]) (λo0 ar=>?_) ?_
 ·have H:=iS I;refine zI<|zX 4 [] [6] rfl<|xE [6] ar ?_ ?_
  ·intro hc N;refine zX 5 [] [7] rfl<|bE N λy hy N=>sD (gZ (⟨[65,66,67,68]⟩:Str) s _ hy ) ?_;intro aI le;have H:=H.trans le;exact yS [] [2] rfl<|yM<|zJ (ct N H)
  intro hc N;exact wG [] [(2,vF)]<|yM<|zJ (ct N H)
 intro t2 I0 ai aw;refine zG<|yX ?_;obtain rfl:=zD aw;exact wU
def rZ(aD:List HA)(r:Int):KT:=λkk I' ag v=>
 ∃v0,aD=ag/\v=tupV [v0]/\v0=.int .i64 r
def xJ(s:(List Int))(f0:(Int->Option Bool))(t8:Int):Option (Out Unit (Int)):=do
 if(decide (t8<(s.length:Int))) then
  let x<-idx s t8
  let y<-f0 x
  if y then
   pure (.ret t8)
  else
   xJ s f0 (W (t8+1))
 else
  pure (.done ())
 partial_fixpoint
theorem oD(s:(List Int))(f0:(Int->Option Bool)):∀(t8:Int) (o:Out Unit (Int)),xJ s f0 t8=some o->∀{B}{I0 I:Imm}{Q p c}{fv:Value}{aD:List HA},I0.le I->(S4 I p s c)->(FV1 Tryz.prog I aD fv f0)->NG Q->NO Q->(∀(I':Imm) ,o=(.done ())->I0.le I'->T 19 B Q (.exit 0) I' aD [])->(∀r I' ag m',o=(.ret r)->I0.le I'->RS Tryz.prog f205 B (rZ aD r) I' ag m'->T 19 B Q .ret I' ag m')->J Tryz.prog 19 B (nav (bodyOf f205) [1,0,1,0]) Q I aD [(0,vS p s c),(1,fv),(7,vI (s.length:Int)),(8,vI t8)]:=by
 refine xJ.partial_correctness s f0 _ λaW ih t8 o N B I0 I Q p c fv aD H h h1 hg ho hx hr=>uQ hg ho<|xB [9] rfl<|yL<|yJ N ?_ ?_
 ·intro hc N;refine zO<|yL<|wM<|xB [5] rfl<|yW<|zX 3 [] [11,12,13] rfl<|bE N λx hy N=>qY rfl rfl h hy ?_;intro ad aA az ap;obtain rfl:=ap;refine qU 0 az [vI x] (vI x) rfl<|bE N λy au N=>zHF rfl rfl h1 au rfl (cr _).symm ?_;rintro I0 v0 le rfl;refine nP (ag:=aD) (cr _) ?_;have ⟨h,h1,H⟩:=m3 le h h1 H;refine zV rfl<|zG<|yJ N ?_ ?_
  ·intro ay N;exact xB [4] rfl<|xP<|zS<|zF<|zF<|hr _ _ _ _ (zD N).symm H ⟨_,_,(.tmp rfl ResV.nil),(λ_ h=>h),⟨_,rfl,rfl,rfl⟩⟩
  intro ay N;exact zO<|zQ<|zG<|zI<|yS [] [8] rfl<|uK<|fW<|ih (W (t8+1)) _ N H h h1 hg ho hx hr
 intro hc N;exact pG<|yM<|hx _  (zD N).symm H
def uW(s:(List Int))(f0:(Int->Option Bool)):Option (Int):=do
 match<-xJ s f0 0 with
 | .ret r0=>pure r0
 | .done _=>
  pure (-1)
theorem nJ:∀s f0 r,uW s f0=some r->∀{I:Imm}{p c}{fv:Value}{aD:List HA},(S4 I p s c)->(FV1 Tryz.prog I aD fv f0)->RT 205 [vS p s c,fv] I aD (rZ aD r):=by
 intro s f0 r N I p c fv aD h h1;unfold uW at N;refine yK func205 λB=>tK []<|yL<|xB [7,8] rfl<|rX<|gY [(0,vS p s c),(1,fv),(7,vI (s.length:Int)),(8,vI 0)] ?_;obtain⟨o0,ar,aM⟩:=zC N;refine oD s f0 0 o0 ar iR h h1 (λ_ _ _ h=>h) (λ_ _ h=>h) ?_ ?_
 ·intro aI  heq ai;subst o0;refine yF<|qN [4] rfl<|zG<|yX ?_;obtain rfl:=zD aM;exact xN ⟨_,_,(.tmp rfl ResV.nil),(λ_ h=>h),⟨_,rfl,rfl,rfl⟩⟩
 intro r0 I9 hs9 m9 bb le9 bc;subst bb;refine zS<|zF ?_;obtain rfl:=zD aM;exact xN bc
def pQ(aD:List HA)(r:Bool):KT:=λkk I' ag v=>
 ∃v0,aD=ag/\v=tupV [v0]/\v0=.bool r
def xU(s:(List Int))(f0:(Int->Option Bool)):Option (Bool):=do
 let y<-uW s f0
 pure (decide (y>=0))
theorem oE:∀s f0 r,xU s f0=some r->∀{I:Imm}{p c}{fv:Value}{aD:List HA},(S4 I p s c)->(FV1 Tryz.prog I aD fv f0)->RT 155 [vS p s c,fv] I aD (pQ aD r):=by
 intro s f0 r N I p c fv aD h h1;unfold xU at N;refine yK func155 λB=>tK []<|yW<|zX 2 [] [5,6] rfl<|bE N λy hy N=>zC6 (hs1:=aD) (rest:=[]) rfl rfl rfl rfl (by kernel_rfl) rfl (cr _).symm (nJ s f0 _ hy h h1) ?_;rintro I0 aj v2 k2 le - ⟨v0,rfl,rfl,rfl⟩ -;refine nP (ag:=aD) (cr _) ?_;refine yS [] [4] rfl<|zG<|yX ?_;obtain rfl:=zD N;exact xN ⟨_,_,(.tmp rfl ResV.nil),(λ_ h=>h),⟨_,rfl,rfl,rfl⟩⟩
def uP(aD:List HA)(r:Int):KT:=λkk I' ag v=>
 ∃v0,aD=ag/\v=tupV [v0]/\v0=.int .i64 r
def yC(s:(List zA))(f0:(zA->Option Bool))(t8:Int):Option (Out Unit (Int)):=do
 if(decide (t8<(s.length:Int))) then
  let x<-idx s t8
  let y<-f0 x
  if y then
   pure (.ret t8)
  else
   yC s f0 (W (t8+1))
 else
  pure (.done ())
 partial_fixpoint
theorem rF(s:(List zA))(f0:(zA->Option Bool)):∀(t8:Int) (o:Out Unit (Int)),yC s f0 t8=some o->∀{B}{I0 I:Imm}{Q p c}{fv:Value}{aD:List HA},I0.le I->(S4 I p s c)->(FV1 Tryz.prog I aD fv f0)->NG Q->NO Q->(∀(I':Imm) ,o=(.done ())->I0.le I'->T 19 B Q (.exit 0) I' aD [])->(∀r I' ag m',o=(.ret r)->I0.le I'->RS Tryz.prog f176 B (uP aD r) I' ag m'->T 19 B Q .ret I' ag m')->J Tryz.prog 19 B (nav (bodyOf f176) [1,0,1,0]) Q I aD [(0,vS p s c),(1,fv),(7,vI (s.length:Int)),(8,vI t8)]:=by
 refine yC.partial_correctness s f0 _ λaW ih t8 o N B I0 I Q p c fv aD H h h1 hg ho hx hr=>uQ hg ho<|xB [9] rfl<|yL<|yJ N ?_ ?_
 ·intro hc N;refine zO<|yL<|wM<|xB [5] rfl<|yW<|zX 3 [] [11,12,13] rfl<|bE N λx hy N=>qY rfl rfl h hy ?_;intro ad aA az ap;obtain⟨p1,c1,rfl,h2⟩:=yP ap;refine qU 0 az (cAff x p1 c1) (vA (cAff x p1 c1)) rfl<|bE N λy au N=>zHF rfl rfl h1 au ⟨_,rfl,(zZ ⟨_,rfl,h2⟩)⟩ (cr _).symm ?_;rintro I0 v01 le rfl;refine nP (ag:=aD) (cr _) ?_;have ⟨h,h1,H⟩:=m3 le h h1 H;refine zV rfl<|zG<|yJ N ?_ ?_
  ·intro ay N;exact xB [4] rfl<|xP<|zS<|zF<|zF<|hr _ _ _ _ (zD N).symm H ⟨_,_,(.tmp rfl ResV.nil),(λ_ h=>h),⟨_,rfl,rfl,rfl⟩⟩
  intro ay N;exact zO<|zQ<|zG<|zI<|yS [] [8] rfl<|uK<|fW<|ih (W (t8+1)) _ N H h h1 hg ho hx hr
 intro hc N;exact pG<|yM<|hx _  (zD N).symm H
def xQ(s:(List zA))(f0:(zA->Option Bool)):Option (Int):=do
 match<-yC s f0 0 with
 | .ret r0=>pure r0
 | .done _=>
  pure (-1)
theorem rY:∀s f0 r,xQ s f0=some r->∀{I:Imm}{p c}{fv:Value}{aD:List HA},(S4 I p s c)->(FV1 Tryz.prog I aD fv f0)->RT 176 [vS p s c,fv] I aD (uP aD r):=by
 intro s f0 r N I p c fv aD h h1;unfold xQ at N;refine yK func176 λB=>tK []<|yL<|xB [7,8] rfl<|rX<|gY [(0,vS p s c),(1,fv),(7,vI (s.length:Int)),(8,vI 0)] ?_;obtain⟨o0,ar,aM⟩:=zC N;refine rF s f0 0 o0 ar iR h h1 (λ_ _ _ h=>h) (λ_ _ h=>h) ?_ ?_
 ·intro aI  heq ai;subst o0;refine yF<|qN [4] rfl<|zG<|yX ?_;obtain rfl:=zD aM;exact xN ⟨_,_,(.tmp rfl ResV.nil),(λ_ h=>h),⟨_,rfl,rfl,rfl⟩⟩
 intro r0 I9 hs9 m9 bb le9 bc;subst bb;refine zS<|zF ?_;obtain rfl:=zD aM;exact xN bc
def sV(aD:List HA)(r:Bool):KT:=λkk I' ag v=>
 ∃v0,aD=ag/\v=tupV [v0]/\v0=.bool r
def yU(s:(List zA))(f0:(zA->Option Bool)):Option (Bool):=do
 let y<-xQ s f0
 pure (decide (y>=0))
theorem rG:∀s f0 r,yU s f0=some r->∀{I:Imm}{p c}{fv:Value}{aD:List HA},(S4 I p s c)->(FV1 Tryz.prog I aD fv f0)->RT 112 [vS p s c,fv] I aD (sV aD r):=by
 intro s f0 r N I p c fv aD h h1;unfold yU at N;refine yK func112 λB=>tK []<|yW<|zX 2 [] [5,6] rfl<|bE N λy hy N=>zC6 (hs1:=aD) (rest:=[]) rfl rfl rfl rfl (by kernel_rfl) rfl (cr _).symm (rY s f0 _ hy h h1) ?_;rintro I0 aj v2 k2 le - ⟨v0,rfl,rfl,rfl⟩ -;refine nP (ag:=aD) (cr _) ?_;refine yS [] [4] rfl<|zG<|yX ?_;obtain rfl:=zD N;exact xN ⟨_,_,(.tmp rfl ResV.nil),(λ_ h=>h),⟨_,rfl,rfl,rfl⟩⟩
def pR(n0:Int):Option (Bool):=do
 let y<-uV n0 (-99) 99
 pure (id y)
theorem zAj:∀n0 r,pR n0=some r->∀{I:Imm} ,RT 177 [vI n0] I [] (zP  r):=by
 intro n0 r N I;unfold pR at N;refine yK func177 λB=>tK []<|yW<|zX 1 [] [3] rfl<|bE N λy hy N=>sD (rU n0 (-99) 99 _ hy ) λI0 le=>wG [] [(2,.bool y)]<|zG<|yX ?_;obtain rfl:=zD N;exact wU
def vR(c:Int):Option (Bool):=do
 let y<-uV c (-9) 9
 pure (!y)
theorem jM:∀c r,vR c=some r->∀{I:Imm} ,RT 178 [vI c] I [] (zP  r):=by
 intro c r N I;unfold vR at N;refine yK func178 λB=>tK []<|yW<|zX 1 [] [3] rfl<|bE N λy hy N=>sD (rU c (-9) 9 _ hy ) λI0 le=>wG [] [(2,.bool (!y))]<|zG<|yX ?_;obtain rfl:=zD N;exact wU
def vU(a0:zA):Option (Bool):=do
 let t2<-(do
  if((a0.Coefs.length:Int)==4) then
   let y<-pR a0.Const
   if y then
    let y1<-xU a0.Coefs vR
    pure (!y1)
   else
    pure false
  else
   pure false
    : Option Bool)
 pure (id t2)
theorem rO:∀a0 r,vU a0=some r->∀{I:Imm}{p c},(S4 I p a0.Coefs c)->RT 114 [vA (cAff a0 p c)] I [] (zP  r):=by
 intro a0 r N I p c h;unfold vU at N;refine yK func114 λB=>?_;have H:=iS I;refine yH<|sM (cAff a0 p c) ?_;intro b hb;refine wG [] []<|zG<|yB ?_;refine wT N [] (λt2=>[(2,.bool t2)]) (λo0 ar=>?_) ?_
 ·have H:=iS I;refine zI<|zX 5 [0] [7] rfl<|xE [7] ar ?_ ?_
  ·intro hc N;refine zX 7 [0] [9] rfl<|bE N λy hy N=>sD (zAj a0.Const _ hy ) ?_;intro aI le;have ⟨h,H⟩:=m2 le h H;refine zX 10 [] [12] rfl<|xE [12] N ?_ ?_
   ·intro ay N;refine zX 12 [0] [14] rfl ?_;have hf0:FV1 Tryz.prog aI [] (.func (.func 178) ⟨[]⟩ ⟨[]⟩) vR:=by
     refine FV1.intro ?_;intro I1 ai x0 r u0 hF k0;obtain rfl:=k0;exact(jM x0 r hF ).mono (by rintro k i hs u ⟨v0,rfl,rfl,h⟩;exact⟨rfl,h⟩)
    obtain⟨y1,au,N⟩:=zC N;refine xS (oE a0.Coefs vR _ au h hf0) ?_;rintro aP aj v2 k2 ai - ⟨v01,rfl,rfl,rfl⟩ -;have H:=H.trans ai;exact yS [] [2] rfl<|xW zH<|yM<|zJ (ct N H)
   intro ay N;exact wG [] [(2,vF)]<|xW zH<|yM<|zJ (ct N H)
  intro hc N;exact wG [] [(2,vF)]<|xW zH<|yM<|zJ (ct N H)
 intro t2 I0 aG aw;refine zG<|yX ?_;obtain rfl:=zD aw;exact wU
def yZ(r:Int):KT:=λkk I' ag v=>
 ∃v0,ag=[]/\v=tupV [v0]/\v0=.int .i64 r
def wW(a0:zA)(n0:Int):Option (Int):=do
 let t17<-(do
  if(decide (n0>0)) then
   let x<-idx a0.Coefs (W (n0 - 1))
   pure (x==0)
  else
   pure false
    : Option Bool)
 if t17 then
  wW a0 (W (n0 - 1))
 else
  pure (id n0)
 partial_fixpoint
theorem mZ(a0:zA):∀(n0:Int) (o:Int),wW a0 n0=some o->∀{B}{I0 I:Imm}{Q p c}{b:Nat},I0.le I->(S4 I p a0.Coefs c)->NG Q->NO Q->(∀(I':Imm) (n01:Int),o=n01->I0.le I'->T 21 B Q (.exit 0) I' [] [(3,vI n01)])->J Tryz.prog 21 B (nav (bodyOf f115) [1,1,0,0]) Q I [hB b (cAff a0 p c)] [(1,vP b 0),(3,vI n0)]:=by
 refine wW.partial_correctness a0 _ λaW ih n0 o N B I0 I Q p c b H h hg ho hx=>uQ hg ho<|yB<|yB ?_;refine wT N [hB b (cAff a0 p c)] (λt17=>[(1,vP b 0),(3,vI n0),(17,.bool t17)]) (λo0 ar=>?_) ?_
 ·have H:=iS I;refine zI<|zX 3 [] [9] rfl<|xE [9] ar ?_ ?_
  ·intro hc N;refine zX 7 [0] [11,13] rfl<|bE N λx hy N=>qY rfl rfl h hy ?_;intro ad aA az ap;obtain rfl:=ap;exact qU 0 az [vI x] (vI x) rfl<|yS [] [17] rfl<|yM<|zJ (ct N H)
  intro hc N;exact wG [] [(17,vF)]<|yM<|zJ (ct N H)
 intro t17 I0 le aw;have ⟨h,H⟩:=m2 le h H;refine zG<|yJ aw ?_ ?_
 ·intro ay N;exact zO<|rX<|zI<|yS [] [3] rfl<|zQ<|uK<|fW<|ih (W (n0 - 1)) _ N H h hg ho hx
 intro ay N;exact pG<|xW zH<|yM<|hx _ _ (zD N).symm H
def uG(a0:zA):Option (Int):=do
 let n01<-wW a0 (a0.Coefs.length:Int)
 pure (id n01)
theorem oL:∀a0 r,uG a0=some r->∀{I:Imm}{p c},(S4 I p a0.Coefs c)->RT 115 [vA (cAff a0 p c)] I [] (yZ  r):=by
 intro a0 r N I p c h;unfold uG at N;refine yK func115 λB=>yH<|sM (cAff a0 p c) ?_;intro b hb;refine wG [] []<|yW<|yS [0] [3] rfl<|yL<|wM<|gY [(1,vP b 0),(3,vI (a0.Coefs.length:Int))] ?_;obtain⟨aS,ax,aM⟩:=zC N;refine mZ a0 (a0.Coefs.length:Int) aS ax iR h (λ_ _ _ h=>h) (λ_ _ h=>h) ?_;intro aI n01 heq1 ai;subst aS;refine yF<|qN [2] rfl<|zG<|yX ?_;obtain rfl:=zD aM;exact wU
def mI(a0:zA)(x:Int):Option (Bool):=do
 let t3<-(do
  let y<-vU a0
  if(!y) then
   pure true
  else
   let y1<-uG a0
   pure (decide (y1>x))
    : Option Bool)
 pure (id t3)
def fA(r:Int×Int):KT:=λkk I' ag v=>
 ∃v0 v1,ag=[]/\v=tupV [v0,v1]/\v0=.int .i64 r.1/\v1=.int .i64 r.2
def uX(s:zA)(x:Int):Option (Bool):=do
 let t3<-(do
  let y<-vU s
  if(!y) then
   pure true
  else
   let y1<-uG s
   pure (decide (y1>x))
    : Option Bool)
 pure (id t3)
theorem fX:∀s x r,uX s x=some r->∀{I:Imm}{p c}{ad:Addr},(S4 I p s.Coefs c)->(At I ad [vI x])->RT 136 [vA (cAff s p c),.pointer (some ad)] I [] (zP  r):=by
 intro s x r N I p c ad h az;unfold uX at N;refine yK func136 λB=>?_;have H:=iS I;refine yH<|sM (cAff s p c) ?_;intro b hb;refine wG [] []<|zG<|yB ?_;refine wT N [] (λt3=>[(3,.bool t3)]) (λo0 ar=>?_) ?_
 ·have H:=iS I;obtain⟨y,hy,N⟩:=zC ar;cases hc:(!y) with
  | true=>
   have hM0:=kP hc N;refine sU [.p (vA (cAff s p c)) [0],.q (.bool y),.q vY,.q vY,.p undef [],.p undef [],.p undef [],.p undef [],.p vY []] [[],[(0,false)],[(1,false)],[(2,false)],[(3,false)],[(3,false),(4,false)],[(3,false)],[(3,false),(5,false),(6,false)],[(3,false),(7,false)]] [hB b (cAff s p c)] [] [(8,false)] (yR [0]) ?_ ?_
   ·refine Op<|Oq ?_<|Oq ?_<|Oq ?_<|Op<|Op<|Op<|Op<|Op<|On
    ·intro I1 hf ai;refine vQ [4] rfl ?_;have H:=iS I1;have h:=h.mono ai;refine sD (rO s _ hy h) ?_;intro aI le;have H:=H.trans le;exact vD H
    ·intro I1 hf ai;refine vQ [5] rfl<|R_p 3 [(6,.bool (!y))] ?_;rw[hc];exact vD iR
    intro I1 hf ai;exact I_h [(6,vY)]<|R_p 4 [(7,vY)]<|vD iR
   intro aP ai;refine I_h [(12,vY)] ?_;have H:=H.trans ai;exact wG [] [(3,vY)]<|xW zH<|yM<|zJ (ct hM0 H)
  | false=>
   have hM01:=mT hc N;obtain⟨y1,au,N⟩:=zC hM01;refine sU [.p (vA (cAff s p c)) [0],.q (.bool y),.q vF,.q vF,.p (vA (cAff s p c)) [0],.q (vI y1),.q (vI x),.p (.bool (decide (y1>x))) [],.p (.bool (decide (y1>x))) []] [[],[(0,false)],[(1,false)],[(2,false)],[(3,false)],[(3,false),(4,false)],[(3,false)],[(3,false),(5,false),(6,false)],[(3,false),(7,false)]] [hB b (cAff s p c)] [] [(8,false)] (yR [0]) ?_ ?_
   ·refine Op<|Oq ?_<|Oq ?_<|Oq ?_<|Op<|Oq ?_<|Oq ?_<|Op<|Op<|On
    ·intro I1 hf ai;refine vQ [4] rfl ?_;have H:=iS I1;have h:=h.mono ai;refine sD (rO s _ hy h) ?_;intro aI le;have H:=H.trans le;exact vD H
    ·intro I1 hf ai;refine vQ [5] rfl<|R_p 3 [(6,.bool (!y))] ?_;rw[hc];exact vD iR
    ·intro I1 hf ai;exact I_h [(6,vF)]<|R_p 4 [(7,vF)]<|vD iR
    ·intro I1 hf ai;refine vQ [7,8] rfl ?_;have H:=iS I1;have h:=h.mono ai;refine zAD (oL s _ au h) ?_;intro aZ aG;have H:=H.trans aG;exact vD H
    intro I1 hf ai;refine vQ [1,7] rfl ?_;have az:=az.mono ai;exact qU 0 az [vI x] (vI x) rfl<|vD iR
   intro bq aL;refine vQ [12] rfl ?_;have H:=H.trans aL;exact yS [] [3] rfl<|xW zH<|yM<|zJ (ct N H)
 intro t3 I0 aV aw;refine zG<|yX ?_;obtain rfl:=zD aw;exact wU
def sX(a0:zE)(ae:Int):Option (Bool):=do
 let t4<-(do
  let y<-qR a0.Array
  if y then
   let y1<-uV (a0.Subs.length:Int) 1 2
   if y1 then
    let y2<-yU a0.Subs (λx0=>uX x0 ae)
    pure (!y2)
   else
    pure false
  else
   pure false
    : Option Bool)
 pure (id t4)
theorem kA:∀a0 ae r,sX a0 ae=some r->∀{I:Imm}{p c},(S4 I p a0.Subs c)->RT 82 [vA (cAccess a0 p c),vI ae] I [] (zP  r):=by
 intro a0 ae r N I p c h;unfold sX at N;refine yK func82 λB=>?_;have H:=iS I;refine yH<|sM (cAccess a0 p c) ?_;intro b hb;refine sM [vI ae] ?_;intro b1 hb1;refine nN 0 rfl ?_;intro I0 le hl0;have az:At I0 ⟨b1,0,none⟩ [vI ae]:=At.of_blk hl0;have ⟨h,H⟩:=m2 le h H;refine wG [] []<|zG<|yB ?_;refine wT N [] (λt4=>[(4,.bool t4)]) (λo0 ar=>?_) ?_
 ·have H:=iS I0;refine zI<|zX 2 [0] [6] rfl ?_;obtain⟨y,hy,N⟩:=zC ar;refine sD (zAi a0.Array _ hy ) ?_;intro aP ai;have ⟨az,h,H⟩:=m3 ai az h H;refine zX 4 [] [8] rfl<|xE [8] N ?_ ?_
  ·intro hc N;refine zX 7 [0] [11] rfl<|bE N λy1 au N=>sD (rU (a0.Subs.length:Int) 1 2 _ au ) ?_;intro aZ aG;have ⟨az,h,H⟩:=m3 aG az h H;refine zX 10 [] [14] rfl<|xE [14] N ?_ ?_
   ·intro ay N;refine zX 13 [0] [16,17] rfl ?_;have hf0:FV1 Tryz.prog aZ [] (.func (.func 136) ⟨[]⟩ ⟨[vP b1 0]⟩) (λx0=>uX x0 ae):=by
     refine FV1.intro ?_;intro I1 ai x0 r u0 hF k0;obtain⟨_,rfl,k0⟩:=k0;obtain⟨p1,c1,rfl,h3⟩:=yP k0;exact(fX x0 ae r hF h3 (az.mono ai)).mono (by rintro k i hs u ⟨v0,rfl,rfl,h⟩;exact⟨rfl,h⟩)
    obtain⟨y2,aB,N⟩:=zC N;refine xS (rG a0.Subs (λx0=>uX x0 ae) _ aB h hf0) ?_;rintro bq aj v2 k2 aL - ⟨v03,rfl,rfl,rfl⟩ -;have H:=H.trans aL;exact yS [] [4] rfl<|xW zH<|yM<|zJ (ct N H)
   intro ay N;exact wG [] [(4,vF)]<|xW zH<|yM<|zJ (ct N H)
  intro hc N;exact wG [] [(4,vF)]<|xW zH<|yM<|zJ (ct N H)
 intro t4 aI aV aw;refine zG<|yX ?_;obtain rfl:=zD aw;exact wU
def sY(a0:zA):Option (Bool):=do
 let t2<-(do
  if((a0.Coefs.length:Int)==0) then
   pure (a0.Const==0)
  else
   pure false
    : Option Bool)
 pure (id t2)
theorem kB:∀a0 r,sY a0=some r->∀{I:Imm}{p c},(S4 I p a0.Coefs c)->RT 137 [vA (cAff a0 p c)] I [] (zP  r):=by
 intro a0 r N I p c h;unfold sY at N;refine yK func137 λB=>?_;have H:=iS I;refine yH<|sM (cAff a0 p c) ?_;intro b hb;refine wG [] []<|zG<|yB ?_;refine wT N [] (λt2=>[(2,.bool t2)]) (λo0 ar=>?_) ?_
 ·have H:=iS I;refine zI<|zX 5 [0] [7] rfl<|xE [7] ar ?_ ?_
  ·intro hc N;exact yS [0] [2] rfl<|xW zH<|yM<|zJ (ct N H)
  intro hc N;exact wG [] [(2,vF)]<|xW zH<|yM<|zJ (ct N H)
 intro t2 I0 le aw;refine zG<|yX ?_;obtain rfl:=zD aw;exact wU
def tG(a0:zE):Option (Bool):=do
 let t2<-(do
  if(a0.Array.l==([]:List UInt8)) then
   pure ((a0.Subs.length:Int)==0)
  else
   pure false
    : Option Bool)
 pure (id t2)
theorem qW:∀a0 r,tG a0=some r->∀{I:Imm}{p c},(S4 I p a0.Subs c)->RT 138 [vA (cAccess a0 p c)] I [] (zP  r):=by
 intro a0 r N I p c h;unfold tG at N;refine yK func138 λB=>?_;have H:=iS I;refine yH<|sM (cAccess a0 p c) ?_;intro b hb;refine wG [] []<|zG<|yB ?_;refine wT N [] (λt2=>[(2,.bool t2)]) (λo0 ar=>?_) ?_
 ·have H:=iS I;refine zI<|zX 4 [0] [6] rfl<|xE [6] ar ?_ ?_
  ·intro hc N;exact yS [0] [2] rfl<|xW zH<|yM<|zJ (ct N H)
  intro hc N;exact wG [] [(2,vF)]<|xW zH<|yM<|zJ (ct N H)
 intro t2 I0 le aw;refine zG<|yX ?_;obtain rfl:=zD aw;exact wU
def oM(kind:Int):Option (Bool):=do
 let y<-uV kind 4 6
 pure (id y)
theorem zCb:∀kind r,oM kind=some r->∀{I:Imm} ,RT 139 [vI kind] I [] (zP  r):=by
 intro kind r N I;unfold oM at N;refine yK func139 λB=>tK []<|yW<|zX 1 [] [3] rfl<|bE N λy hy N=>sD (rU kind 4 6 _ hy ) λI0 le=>wG [] [(2,.bool y)]<|zG<|yX ?_;obtain rfl:=zD N;exact wU
def fY(b0:Nat)(r:Bool×Int):KT:=λkk I' ag v=>
 ∃v0 k0,ag=[.blk b0 ⟨k0⟩]/\v=tupV [v0]/\v0=.bool r.1/\Rp.rep I' k0 r.2
def wN(e0:zB)(ae:Int)(deep:Int)(count:Int):Option (Bool×Int):=do
 let t21<-(do
  if(decide ((W (count+1))>12)) then
   pure true
  else
   pure (decide (deep>5))
    : Option Bool)
 if t21 then
  pure (false,(W (count+1)))
 else
  let t51<-(do
   if(e0.Kind != 1) then
    if(e0.Num != 0) then
     pure true
    else
     if(e0.Kind != 2) then
      let y<-sY e0.Index
      if(!y) then
       pure true
      else
       if(e0.Kind != 3) then
        let y1<-tG e0.Read
        pure (!y1)
       else
        pure false
     else
      if(e0.Kind != 3) then
       let y2<-tG e0.Read
       pure (!y2)
      else
       pure false
   else
    if(e0.Kind != 2) then
     let y3<-sY e0.Index
     if(!y3) then
      pure true
     else
      if(e0.Kind != 3) then
       let y4<-tG e0.Read
       pure (!y4)
      else
       pure false
    else
     if(e0.Kind != 3) then
      let y5<-tG e0.Read
      pure (!y5)
     else
      pure false
     : Option Bool)
  if t51 then
   pure (false,(W (count+1)))
  else
   if(e0.Kind==1) then
    let t8<-(do
     let y6<-uV e0.Num 0 99
     if y6 then
      pure ((e0.Kids.length:Int)==0)
     else
      pure false
       : Option Bool)
    pure (t8,(W (count+1)))
   else
    if(e0.Kind==2) then
     let t81<-(do
      let y7<-vU e0.Index
      if y7 then
       let y8<-uG e0.Index
       if(decide (y8<=ae)) then
        pure ((e0.Kids.length:Int)==0)
       else
        pure false
      else
       pure false
        : Option Bool)
     pure (t81,(W (count+1)))
    else
     if(e0.Kind==3) then
      let t82<-(do
       let y9<-sX e0.Read ae
       if y9 then
        pure ((e0.Kids.length:Int)==0)
       else
        pure false
         : Option Bool)
      pure (t82,(W (count+1)))
     else
      let t99<-(do
       let y10<-oM e0.Kind
       if(!y10) then
        pure true
       else
        pure ((e0.Kids.length:Int) != 2)
         : Option Bool)
      if t99 then
       pure (false,(W (count+1)))
      else
       let (t83,x)<-(do
        let x1<-idx e0.Kids 0
        let (y12,y13)<-wN (same x1) (same ae) (W (deep+1)) (W (count+1))
        if y12 then
         let x2<-idx e0.Kids 1
         let (y15,y16)<-wN (same x2) (same ae) (W (deep+1)) (same y13)
         pure (y15,y16)
        else
         pure (false,y13)
          : Option (Bool×Int))
       pure (t83,x)
 partial_fixpoint
theorem zAF:∀e0 ae deep count r,wN e0 ae deep count=some r->∀{I:Imm}{p c p1 c1 p2 c2}{r0:Nat},(S4 I p e0.Index.Coefs c)->(S4 I p1 e0.Read.Subs c1)->(S4 I p2 e0.Kids c2)->RT 83 [vA (cExpr e0 p c p1 c1 p2 c2),vI ae,vI deep,vP r0 0] I [hB r0 [vI count]] (fY r0 r):=by
 refine wN.partial_correctness _ λF_impl_exprScan ih_impl_exprScan e0 ae deep count r N I p c p1 c1 p2 c2 r0 h h1 h2=>yK func83 λB=>?_;have H:=iS I;refine yH<|sM (cExpr e0 p c p1 c1 p2 c2) ?_;intro b hb;refine wG [] []<|yW<|zX 5 [1] [12,13] rfl<|yT 1 [vI (W (count+1))] rfl<|zV rfl<|yL<|yB ?_;refine wT N [hB b (cExpr e0 p c p1 c1 p2 c2),hB r0 [vI (W (count+1))]] (λt21=>[(1,vI ae),(2,vI deep),(3,vP r0 0),(4,vP b 0),(21,.bool t21)]) (λo0 ar=>?_) ?_
 ·have H:=iS I;refine zI<|zX 5 [1] [18] rfl<|xE [18] ar ?_ ?_
  ·intro hc N;exact wG [] [(21,vY)]<|yM<|zJ (ct N H)
  intro hc N;exact yS [] [21] rfl<|yM<|zJ (ct N H)
 intro t21 I0 le aw;have ⟨h,h1,h2,H⟩:=m4 le h h1 h2 H;refine zG<|yJ aw ?_ ?_
 ·intro ay N;refine tK [(8,vF)]<|xP<|zF ?_;obtain rfl:=zD N;exact xN ⟨_,_,(.tmp rfl ResV.nil),(zN [1] rfl (by decide)),⟨_,_,rfl,rfl,rfl,rfl⟩⟩
 intro ay N;refine zO<|yL<|yB ?_;refine wT N [hB b (cExpr e0 p c p1 c1 p2 c2),hB r0 [vI (W (count+1))]] (λt51=>[(1,vI ae),(2,vI deep),(3,vP r0 0),(4,vP b 0),(51,.bool t51)]) (λaS ax=>?_) ?_
 ·have H:=iS I0;refine zI<|zX 4 [0] [25] rfl<|xE [25] ax ?_ ?_
  ·intro aJ N;refine zX 9 [0] [30] rfl<|xE [30] N ?_ ?_
   ·intro bd N;exact wG [] [(51,vY)]<|yM<|zJ (ct N H)
   intro bd N;refine zX 13 [0] [34] rfl<|xE [34] N ?_ ?_
   ·intro bn N;refine sW 15 [0] [(36,vA (cAff e0.Index p c))]<|bE N λy hy N=>sD (kB e0.Index _ hy h) ?_;intro aP ai;have ⟨h1,H⟩:=m2 ai h1 H;refine zX 20 [] [41] rfl<|xE [41] N ?_ ?_
    ·intro hc5 N;exact wG [] [(51,vY)]<|yM<|zJ (ct N H)
    intro hc5 N;refine zX 24 [0] [45] rfl<|xE [45] N ?_ ?_
    ·intro hc6 N;refine sW 26 [0] [(47,vA (cAccess e0.Read p1 c1))]<|bE N λy1 au N=>sD (qW e0.Read _ au h1) ?_;intro aZ aG;have H:=H.trans aG;exact yS [] [51] rfl<|yM<|zJ (ct N H)
    intro hc6 N;exact wG [] [(51,vF)]<|yM<|zJ (ct N H)
   intro bn N;refine zX 24 [0] [41,45] rfl<|xE [45] N ?_ ?_
   ·intro hc7 N;refine sW 26 [0] [(47,vA (cAccess e0.Read p1 c1))]<|bE N λy2 aB N=>sD (qW e0.Read _ aB h1) ?_;intro bq aL;have H:=H.trans aL;exact yS [] [51] rfl<|yM<|zJ (ct N H)
   intro hc7 N;exact wG [] [(51,vF)]<|yM<|zJ (ct N H)
  intro aJ N;refine zX 13 [0] [30,34] rfl<|xE [34] N ?_ ?_
  ·intro hc8 N;refine sW 15 [0] [(36,vA (cAff e0.Index p c))]<|bE N λy3 aK N=>sD (kB e0.Index _ aK h) ?_;intro bu aV;have ⟨h1,H⟩:=m2 aV h1 H;refine zX 20 [] [41] rfl<|xE [41] N ?_ ?_
   ·intro hc9 N;exact wG [] [(51,vY)]<|yM<|zJ (ct N H)
   intro hc9 N;refine zX 24 [0] [45] rfl<|xE [45] N ?_ ?_
   ·intro hc10 N;refine sW 26 [0] [(47,vA (cAccess e0.Read p1 c1))]<|bE N λy4 aY N=>sD (qW e0.Read _ aY h1) ?_;intro I06 bj;have H:=H.trans bj;exact yS [] [51] rfl<|yM<|zJ (ct N H)
   intro hc10 N;exact wG [] [(51,vF)]<|yM<|zJ (ct N H)
  intro hc8 N;refine zX 24 [0] [41,45] rfl<|xE [45] N ?_ ?_
  ·intro hc11 N;refine sW 26 [0] [(47,vA (cAccess e0.Read p1 c1))]<|bE N λy5 bo N=>sD (qW e0.Read _ bo h1) ?_;intro I07 bt;have H:=H.trans bt;exact yS [] [51] rfl<|yM<|zJ (ct N H)
  intro hc11 N;exact wG [] [(51,vF)]<|yM<|zJ (ct N H)
 intro t51 aI le7 hMc1;have ⟨h,h1,h2,H⟩:=m4 le7 h h1 h2 H;refine zG<|yJ hMc1 ?_ ?_
 ·intro hc12 N;refine tK [(8,vF)]<|xP<|zF ?_;obtain rfl:=zD N;exact xN ⟨_,_,(.tmp rfl ResV.nil),(zN [1] rfl (by decide)),⟨_,_,rfl,rfl,rfl,rfl⟩⟩
 intro hc12 N;refine zO<|yL<|wM<|yH<|yS [0] [52] rfl<|zG<|yJ N ?_ ?_
 ·intro hc13 N;refine yB ?_;refine wT N [hB r0 [vI (W (count+1))]] (λt8=>[(8,.bool t8)]) (λo02 ho02=>?_) ?_
  ·have H:=iS aI;refine zI<|zX 2 [0] [57] rfl ?_;obtain⟨y6,hy6,N⟩:=zC ho02;refine sD (rU e0.Num 0 99 _ hy6 ) ?_;intro I09 le8;have H:=H.trans le8;refine zX 4 [] [59] rfl<|xE [59] N ?_ ?_
   ·intro hc14 N;exact yS [0] [8] rfl<|xW (zN [1] rfl (by decide))<|yM<|zJ (ct N H)
   intro hc14 N;exact wG [] [(8,vF)]<|xW (zN [1] rfl (by decide))<|yM<|zJ (ct N H)
  intro t8 I08 le9 hMc2;refine xP<|zS<|zF ?_;obtain rfl:=zD hMc2;exact xN ⟨_,_,(.tmp rfl ResV.nil),(zN [0] rfl (by decide)),⟨_,_,rfl,rfl,rfl,rfl⟩⟩
 intro hc13 N;refine yH<|yS [0] [65] rfl<|zG<|yJ N ?_ ?_
 ·intro hc15 N;refine yB ?_;refine wT N [hB r0 [vI (W (count+1))]] (λt81=>[(8,.bool t81)]) (λo03 ho03=>?_) ?_
  ·have H:=iS aI;refine zI<|sW 2 [0] [(70,vA (cAff e0.Index p c))] ?_;obtain⟨y7,hy7,N⟩:=zC ho03;refine sD (rO e0.Index _ hy7 h) ?_;intro bJ le10;have ⟨h,H⟩:=m2 le10 h H;refine zX 4 [] [72] rfl<|xE [72] N ?_ ?_
   ·intro hc16 N;refine sW 6 [0] [(74,vA (cAff e0.Index p c))]<|bE N λy8 hy8 N=>zAD (oL e0.Index _ hy8 h) ?_;intro bG le11;have H:=H.trans le11;refine zX 11 [] [79] rfl<|xE [79] N ?_ ?_
    ·intro hc17 N;exact yS [0] [8] rfl<|xW (zN [1] rfl (by decide))<|yM<|zJ (ct N H)
    intro hc17 N;exact wG [] [(8,vF)]<|xW (zN [1] rfl (by decide))<|yM<|zJ (ct N H)
   intro hc16 N;exact wG [] [(8,vF)]<|xW (zN [1] rfl (by decide))<|yM<|zJ (ct N H)
  intro t81 bI le12 hMc3;refine xP<|zS<|zF ?_;obtain rfl:=zD hMc3;exact xN ⟨_,_,(.tmp rfl ResV.nil),(zN [0] rfl (by decide)),⟨_,_,rfl,rfl,rfl,rfl⟩⟩
 intro hc15 N;refine yH<|yS [0] [85] rfl<|zG<|yJ N ?_ ?_
 ·intro hc18 N;refine yB ?_;refine wT N [hB r0 [vI (W (count+1))]] (λt82=>[(8,.bool t82)]) (λo04 ho04=>?_) ?_
  ·have H:=iS aI;refine zI<|sW 3 [0] [(90,vA (cAccess e0.Read p1 c1)),(91,vI ae)] ?_;obtain⟨y9,hy9,N⟩:=zC ho04;refine sD (kA e0.Read ae _ hy9 h1) ?_;intro I014 le13;have H:=H.trans le13;refine zX 5 [] [93] rfl<|xE [93] N ?_ ?_
   ·intro hc19 N;exact yS [0] [8] rfl<|xW (zN [1] rfl (by decide))<|yM<|zJ (ct N H)
   intro hc19 N;exact wG [] [(8,vF)]<|xW (zN [1] rfl (by decide))<|yM<|zJ (ct N H)
  intro t82 I013 le14 hMc4;refine xP<|zS<|zF ?_;obtain rfl:=zD hMc4;exact xN ⟨_,_,(.tmp rfl ResV.nil),(zN [0] rfl (by decide)),⟨_,_,rfl,rfl,rfl,rfl⟩⟩
 intro hc18 N;refine yB ?_;refine wT N [hB b (cExpr e0 p c p1 c1 p2 c2),hB r0 [vI (W (count+1))]] (λt99=>[(1,vI ae),(2,vI deep),(3,vP r0 0),(4,vP b 0),(99,.bool t99)]) (λo05 ho05=>?_) ?_
 ·have H:=iS aI;refine zI<|zX 2 [0] [101] rfl ?_;obtain⟨y10,hy10,N⟩:=zC ho05;refine sD (zCb e0.Kind _ hy10 ) ?_;intro I016 le15;have H:=H.trans le15;refine zX 5 [] [104] rfl<|xE [104] N ?_ ?_
  ·intro hc20 N;exact wG [] [(99,vY)]<|yM<|zJ (ct N H)
  intro hc20 N;exact yS [0] [99] rfl<|yM<|zJ (ct N H)
 intro t99 I015 le16 hMc5;have ⟨h2,H⟩:=m2 le16 h2 H;refine zG<|yJ hMc5 ?_ ?_
 ·intro hc21 N;refine tK [(8,vF)]<|xP<|zS<|zF ?_;obtain rfl:=zD N;exact xN ⟨_,_,(.tmp rfl ResV.nil),(zN [1] rfl (by decide)),⟨_,_,rfl,rfl,rfl,rfl⟩⟩
 intro hc21 N;refine zO<|zQ<|zG<|yB ?_;obtain⟨o06,ho06,hMc6⟩:=zC N;refine rR (λI' ag m'=>∃(t83:Bool) (x:Int),o06=(t83,x)/\I015.le I'/\ag=[hB r0 [vI x]]/\m'=[(8,.bool t83)]) ?_ ?_
 ·have H:=iS I015;refine zI<|zX 2 [0] [111] rfl ?_;obtain⟨x1,hy11,N⟩:=zC ho06;refine qY rfl rfl h2 hy11 ?_;intro ad aA az ap;obtain⟨p3,c3,p4,c4,p5,c5,rfl,h14,h15,h16⟩:=xK ap;refine qU 0 az (cExpr x1 p3 c3 p4 c4 p5 c5) (vA (cExpr x1 p3 c3 p4 c4 p5 c5)) rfl<|zX 8 [] [114,116,117] rfl<|oW (yR [1,0] (ag:=[hB r0 [vI (W (count+1))],hB b (cExpr e0 p c p1 c1 p2 c2)])) ?_;obtain⟨⟨y12,y13⟩,hy12,N⟩:=zC N;refine tT (ih_impl_exprScan x1 ae (W (deep+1)) (W (count+1)) _ hy12 h14 h15 h16) rfl ?_;rintro I018 aj v2 k2 le17 - ⟨v014,kk,rfl,rfl,rfl,h18⟩ -;have ⟨h2,H⟩:=m2 le17 h2 H;obtain rfl:=h18;refine zX 10 [] [119] rfl<|xE [119] N ?_ ?_
  ·intro hc22 N;refine zX 12 [1] [121] rfl<|bE N λx2 hy13 N=>qY rfl rfl h2 hy13 ?_;intro ad1 bv aQ aN;obtain⟨p6,c6,p7,c7,p8,c8,rfl,h19,h20,h21⟩:=xK aN;refine qU 0 aQ (cExpr x2 p6 c6 p7 c7 p8 c8) (vA (cExpr x2 p6 c6 p7 c7 p8 c8)) rfl<|zX 18 [] [124,126,127] rfl ?_;obtain⟨⟨y15,y16⟩,hy14,N⟩:=zC N;refine tT (ih_impl_exprScan x2 ae (W (deep+1)) y13 _ hy14 h19 h20 h21) rfl ?_;rintro I019 aj v2 k2 le18 - ⟨v018,kk1,rfl,rfl,rfl,h23⟩ -;have H:=H.trans le18;obtain rfl:=h23;exact yS [] [8] rfl<|xW (zN [0] rfl (by decide))<|yM<|zJ ⟨_,_,(zD N).symm,H,rfl,rfl⟩
  intro hc22 N;exact wG [] [(8,vF)]<|xW (zN [0] rfl (by decide))<|yM<|zJ ⟨_,_,(zD N).symm,H,rfl,rfl⟩
 rintro I017 aj m2 ⟨t83,x,heq6,le19,rfl,rfl⟩;subst o06;refine zG<|yX ?_;obtain rfl:=zD hMc6;exact xN ⟨_,_,(.tmp rfl ResV.nil),(zN [0] rfl (by decide)),⟨_,_,rfl,rfl,rfl,rfl⟩⟩
def tN(s:zL)(ae:Int):Option (Bool):=do
 let t4<-(do
  let y<-uV ae 0 4
  if y then
   let y1<-sX s.Write ae
   if y1 then
    let (y3,y4)<-wN s.Value ae 1 0
    pure (id y3)
   else
    pure false
  else
   pure false
    : Option Bool)
 pure (id t4)
theorem pS:∀s ae r,tN s ae=some r->∀{I:Imm}{p c p1 c1 p2 c2 p3 c3},(S4 I p s.Write.Subs c)->(S4 I p1 s.Value.Index.Coefs c1)->(S4 I p2 s.Value.Read.Subs c2)->(S4 I p3 s.Value.Kids c3)->RT 32 [vA (cStmt s p c p1 c1 p2 c2 p3 c3),vI ae] I [] (zP  r):=by
 intro s ae r N I p c p1 c1 p2 c2 p3 c3 h h1 h2 h3;unfold tN at N;refine yK func32 λB=>?_;have H:=iS I;refine yH<|sM (cStmt s p c p1 c1 p2 c2 p3 c3) ?_;intro b hb;refine wG [] []<|yW<|uF [vI 0] ?_;intro b1 hb1;refine yT 0 [vI 0] rfl<|zV rfl<|zG<|yB ?_;refine wT N [] (λt4=>[(4,.bool t4)]) (λo0 ar=>?_) ?_
 ·have H:=iS I;refine zI<|zX 1 [] [6] rfl ?_;obtain⟨y,hy,N⟩:=zC ar;refine sD (rU ae 0 4 _ hy ) ?_;intro aI le;have ⟨h,h1,h2,h3,H⟩:=m5 le h h1 h2 h3 H;refine zX 3 [] [8] rfl<|xE [8] N ?_ ?_
  ·intro hc N;refine sW 6 [1] [(10,vA (cAccess s.Write p c)),(11,vI ae)]<|bE N λy1 au N=>sD (kA s.Write ae _ au h) ?_;intro aP ai;have ⟨h1,h2,h3,H⟩:=m4 ai h1 h2 h3 H;refine zX 9 [] [14] rfl<|xE [14] N ?_ ?_
   ·intro ay N;refine sW 12 [1] [(16,vA (cExpr s.Value p1 c1 p2 c2 p3 c3)),(17,vI ae)] ?_;obtain⟨⟨y3,y4⟩,aB,N⟩:=zC N;refine tT (zAF s.Value ae 1 0 _ aB h1 h2 h3) rfl ?_;rintro aZ aj v2 k2 aG - ⟨v02,kk,rfl,rfl,rfl,h7⟩ -;have H:=H.trans aG;obtain rfl:=h7;exact yS [] [4] rfl<|xW zH<|yM<|zJ (ct N H)
   intro ay N;exact wG [] [(4,vF)]<|xW zH<|yM<|zJ (ct N H)
  intro hc N;exact wG [] [(4,vF)]<|xW zH<|yM<|zJ (ct N H)
 intro t4 I0 aL aw;refine zG<|yX ?_;obtain rfl:=zD aw;exact wU
end Go.LN
