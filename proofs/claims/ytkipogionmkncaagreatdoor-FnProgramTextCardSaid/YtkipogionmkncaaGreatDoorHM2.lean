/- Helper of the proof (see the last text). -/
import Derived.Test.YtkipogionmkncaaGreatDoorHM1
set_option linter.unusedVariables false
set_option linter.unusedSimpArgs false
namespace Go.LN
open Go.Proofs Go.Proofs.Tryz
set_option maxRecDepth 20000
def xM(r:Str):KT:=λkk I' ah v=>
 ∃v0,ah=[]/\v=tupV [v0]/\v0=.string ⟨⟨r.l⟩⟩
def pG(ci:Int)(out:Str):Option ((Int×Str)):=do
 if(decide (ci>9)) then
  let s1<-cat (⟨([(u8 (W (48+(ci.tmod 10))))]:List UInt8)⟩:Str) out;pG (W (ci.tdiv 10)) s1
 else pure (ci,out)
 partial_fixpoint
theorem zF4 :∀(ci:Int) (out:Str) (o:(Int×Str)),pG ci out=some o->∀{B}{I0 I:Imm}{Q}  ,I0.le I->NG Q->NO Q->(∀I' lX aq,o=(lX,aq)->I0.le I'->T 31 B Q (.exit 0) I' [] [(0,vI lX),(3,vT aq.l)])->J Tryz.prog 31 B (nav (bodyOf f39) [1,1,1,1,0,0]) Q I [] [(0,vI ci),(3,vT out.l)]:=by
 refine pG.partial_correctness  _ λaQ ih ci out o N B I0 I Q H hg ho hx=>xD hg ho<|yA<|yG [13] rfl<|zK<|yC N ?_ ?_
 ·intro aU N;refine zR<|vC<|yB<|zZ 3 [] [16] rfl<|zRD (d:=17) (i:=(W (48+(ci.tmod 10)))) rfl (by kernel_rfl)<|qN [.int .u8 ((u8 (W (48+(ci.tmod 10)))).toNat:Int)] UInt8 ?_;intro b hb;have h1:RL I [.int .u8 ((u8 (W (48+(ci.tmod 10)))).toNat:Int)] ([(u8 (W (48+(ci.tmod 10))))]:List UInt8):=⟨[.int .u8 ((u8 (W (48+(ci.tmod 10)))).toNat:Int)],_,rfl,rfl,rfl,rfl⟩;exact zHd (l:=([(u8 (W (48+(ci.tmod 10))))]:List UInt8)) rfl rfl rfl rfl (by kernel_rfl) (by kernel_rfl) (.inr ⟨0,rfl⟩) h1<|zZ 7 [] [20] rfl<|bE N λs1 aK N=>qP rfl aK<|yI [] [3] rfl<|zK<|zM<|yI [] [0] rfl<|zO<|xB<|kT zN<|jH<|ih (W (ci.tdiv 10)) s1 _ N H  hg ho hx
 intro aU N;exact uR<|yP<|hx _ _ _ (zC N).symm H
def sC(n0:Int):Option (Str):=do
 if(decide (n0<(-9223372036854775807))) then pure (⟨[45,57,50,50,51,51,55,50,48,51,54,56,53,52,55,55,53,56,48,56]⟩:Str)
 else
  if(decide (n0<0)) then
   let y<-sC (W (0 - n0));let s<-cat (⟨[45]⟩:Str) y;pure (id s)
  else
   let (lX,aq)<-pG n0 (⟨[]⟩:Str);let s2<-cat (⟨([(u8 (W (48+lX)))]:List UInt8)⟩:Str) aq;pure (id s2)
 partial_fixpoint
theorem zAT:∀n0 r,sC n0=some r->∀{I:Imm} ,RT 39 [vI n0] I [] (xM  r):=by
 refine sC.partial_correctness _ λF_spec_l16Dec ih_spec_l16Dec n0 r N I=>yK func39 λB=>vO []<|zY<|yG [5] rfl<|zK<|yC N ?_ ?_
 ·intro hc N;refine yG [2] rfl<|xH<|zG ?_;obtain rfl:=zC N;exact vG
 intro hc N;refine zR<|zY<|yG [7] rfl<|zK<|yC N ?_ ?_
 ·intro aI N;refine yB<|zZ 2 [] [9] rfl<|bE N λy hy N=>xG (ih_spec_l16Dec (W (0 - n0)) _ hy ) ?_;rintro I0 au v2 k2 le - ⟨v0,rfl,rfl,rfl⟩ -;obtain⟨s,ay,N⟩:=zB N;refine qP rfl ay<|yI [] [2] rfl<|xH<|zG ?_;obtain rfl:=zC N;exact vG
 intro aI N;refine zR<|uX [3] rfl<|zY<|yM<|mM [(0,vI n0),(3,vT ([]))] ?_;obtain⟨o0,aC,aM⟩:=zB N;refine zF4 n0 (⟨[]⟩:Str) o0 aC iR  nG nO ?_;intro aT lX aq ec ae;subst o0;refine zT<|yV<|zZ 2 [] [25] rfl<|zRD (d:=26) (i:=(W (48+lX))) rfl (by kernel_rfl)<|qN [.int .u8 ((u8 (W (48+lX))).toNat:Int)] UInt8 ?_;intro b1 cp;have h2:RL aT [.int .u8 ((u8 (W (48+lX))).toNat:Int)] ([(u8 (W (48+lX)))]:List UInt8):=⟨[.int .u8 ((u8 (W (48+lX))).toNat:Int)],_,rfl,rfl,rfl,rfl⟩;refine zHd (l:=([(u8 (W (48+lX)))]:List UInt8)) rfl rfl rfl rfl (by kernel_rfl) (by kernel_rfl) (.inr ⟨0,rfl⟩) h2<|zZ 6 [] [29] rfl ?_;obtain⟨s2,bc,N⟩:=zB aM;refine qP rfl bc<|yI [] [2] rfl<|zK<|yX ?_;obtain rfl:=zC N;exact vG
def oF(n0:Int)(name:Str):Option (Str):=do
 let (ci,d8)<-(do
  if(decide (n0<0)) then pure ((W (0 - n0)),(⟨[45]⟩:Str))
  else
   pure (n0,(⟨[43]⟩:Str))
    : Option (Int×Str))
 if(name.l==([]:List UInt8)) then
  let y<-sC ci;let s<-cat d8 y;pure (id s)
 else
  if(ci==1) then
   let s1<-cat d8 name;pure (id s1)
  else
   let y1<-sC ci;let s2<-cat d8 y1;let s3<-cat s2 (⟨[42]⟩:Str);let s4<-cat s3 name;pure (id s4)
theorem zD8:∀n0 name r,oF n0 name=some r->∀{I:Imm} ,RT 154 [vI n0,vT name.l] I [] (xM  r):=by
 intro n0 name r N I;unfold oF at N;refine yK func154 λB=>?_;have H:=iS I;refine vO []<|uX [5] rfl<|zY<|yG [7] rfl<|zK ?_;obtain⟨o0,aC,aO⟩:=zB N;refine rR (λI' ah m'=>∃(ci:Int) (d8:Str),o0=(ci,d8)/\I.le I'/\ah=[]/\m'=[(0,vI ci),(1,vT name.l),(5,vT d8.l)]) ?_ ?_
 ·have H:=iS I;refine yC aC ?_ ?_
  ·intro hc N;exact yG [5] rfl<|zK<|zM<|yI [] [0] rfl<|yP<|zQ ⟨_,_,(zC N).symm,H,rfl,rfl⟩
  intro hc N;exact zR<|yP<|zQ ⟨_,_,(zC N).symm,H,rfl,rfl⟩
 rintro I0 au m2 ⟨ci,d8,ec,le,rfl,rfl⟩;subst o0;refine zY<|yG [11] rfl<|zK<|yC aO ?_ ?_
 ·intro aI N;refine yB<|zZ 2 [] [12,13] rfl<|bE N λy hy N=>xG (zAT ci _ hy ) ?_;rintro aT au v2 k2 ae - ⟨v0,rfl,rfl,rfl⟩ -;obtain⟨s,ay,N⟩:=zB N;refine qP rfl ay<|yI [] [4] rfl<|xH<|zG ?_;obtain rfl:=zC N;exact vG
 intro aI N;refine zR<|zY<|yG [17] rfl<|zK<|yC N ?_ ?_
 ·intro aU N;refine yB<|zZ 2 [] [18,19] rfl<|bE N λs1 aK N=>qP rfl aK<|yI [] [4] rfl<|xH<|zG ?_;obtain rfl:=zC N;exact vG
 intro aU N;refine zR<|yV<|zZ 2 [] [21,22] rfl<|bE N λy1 bc N=>xG (zAT ci _ bc ) ?_;rintro aY au v2 k2 aJ - ⟨gx,rfl,rfl,rfl⟩ -;obtain⟨s2,bL,N⟩:=zB N;refine qP rfl bL<|bE N λs3 bX N=>qP rfl bX<|zZ 6 [] [26] rfl<|bE N λs4 cx N=>qP rfl cx<|yI [] [4] rfl<|zK<|yX ?_;obtain rfl:=zC N;exact vG
def rY(a0:zA)(out:Str)(i:Int):Option (Str):=do
 if(decide (i<(a0.Coefs.length:Int))) then
  let x<-idx a0.Coefs i;let aD<-(do
   if(x != 0) then
    let x1<-idx a0.Coefs i;let s<-sslc (⟨[105,106,107,108]⟩:Str) i (W (i+1));let y<-oF x1 s;let s1<-cat out y;pure (id s1)
   else
    pure (id out)
     : Option Str)
  rY a0 aD (W (i+1))
 else pure (id out)
 partial_fixpoint
theorem zF5(a0:zA):∀(out:Str) (i:Int) (o:Str),rY a0 out i=some o->∀{B}{I0 I:Imm}{Q p c}{b},I0.le I->(S4 I p a0.Coefs c)->NG Q->NO Q->(∀I' aq,o=aq->I0.le I'->T 46 B Q (.exit 0) I' [hB b (cAff a0 p c)] [(1,vP b 0),(3,vT aq.l)])->J Tryz.prog 46 B (nav (bodyOf f92) [1,1,0,1,0]) Q I [hB b (cAff a0 p c)] [(1,vP b 0),(3,vT out.l),(4,vI i)]:=by
 refine rY.partial_correctness a0 _ λaQ ih out i o N B I0 I Q p c b H h hg ho hx=>xD hg ho<|yA<|yB<|yI [0] [9] rfl<|zK<|yC N ?_ ?_
 ·intro hc N;refine zR<|zY<|yM<|yB<|zZ 3 [0] [13,14] rfl<|bE N λx hy N=>wJ rfl rfl h hy ?_;intro ad aR av al;obtain rfl:=al;refine wC 0 av [vI x] (vI x) rfl<|yI [] [17] rfl<|zK ?_;refine wZ N [hB b (cAff a0 p c)] (λaD=>[(1,vP b 0),(3,vT aD.l),(4,vI i)]) (λo0 aC=>?_) ?_
  ·have H:=iS I;refine yC aC ?_ ?_
   ·intro aI N;obtain⟨x1,ay,N⟩:=zB N;obtain⟨s,aK,N⟩:=zB N;obtain⟨y,bc,N⟩:=zB N;obtain⟨s1,bL,N⟩:=zB N;refine vK [.p (vT out.l) [],.p (vP b 0) [],.p (vS p a0.Coefs c) [0],.p (vI i) [],.x (λI' v hx=>∃cD,v=.pointer (some cD)/\hx=[]/\(At I' cD [vI x1])),.q (vI x1),.p (vI i) [],.p (vI i) [],.p (vI (W (i+1))) [],.q (vT s.l),.q (vT y.l),.q (vT s1.l)] [[],[],[(1,F9)],[],[(2,F9),(3,F9)],[(4,F9)],[],[],[(7,F9)],[(6,F9),(8,F9)],[(5,F9),(9,F9)],[(0,F9),(10,F9)]] [hB b (cAff a0 p c)] [] [(11,F9)] (zX [0]) ?_ ?_
    ·refine O4<|Ox ?_<|Oq ?_<|O3<|Oq ?_<|Oq ?_<|Oq ?_<|On
     ·intro I1 hf ae;refine yW [20,21] rfl ?_;have h:=h.mono ae;refine wJ rfl rfl h ay ?_;intro cD bN aw ax;obtain rfl:=ax;exact xC [] iR ⟨_,rfl,rfl,aw⟩
     ·rintro I1 hf ae _ _ ⟨cD,rfl,rfl,aw⟩;exact yW [22] rfl<|wC 0 aw [vI x1] (vI x1) rfl<|yQ iR
     ·intro I1 hf ae;exact yW [24,26] rfl<|zB8 rfl aK<|yQ iR
     ·intro I1 hf ae;refine yW [23,27] rfl ?_;have H:=iS I1;refine xG (zD8 x1 s _ bc ) ?_;rintro aT au v2 k2 le - ⟨v0,rfl,rfl,rfl⟩ -;have H:=H.trans le;exact yQ H
     intro I1 hf ae;exact yW [18,28] rfl<|qP rfl bL<|yQ iR
    intro aY ae;refine yW [1,4,29] rfl ?_;have H:=H.trans ae;exact yI [] [3] rfl<|yP<|zQ (ct N H)
   intro aI N;exact zR<|yP<|zQ (ct N H)
  intro aD I0 aJ aO;have ⟨h,H⟩:=m2 aJ h H;exact zO<|zK<|zM<|yI [] [4] rfl<|xB<|jH<|ih aD (W (i+1)) _ aO H h hg ho hx
 intro hc N;exact uR<|yP<|hx _ _ (zC N).symm H
def kK(a0:zA):Option (Str):=do
 let aq<-rY a0 (⟨[]⟩:Str) 0;let bR<-(do
  if(a0.Const != 0) then
   let y1<-oF a0.Const (⟨[]⟩:Str);let s2<-cat aq y1;pure (id s2)
  else
   pure (id aq)
    : Option Str)
 if(bR.l==([]:List UInt8)) then pure (⟨[48]⟩:Str)
 else
  let s3<-sslc bR 0 1;if(s3.l==([43]:List UInt8)) then
   let s4<-sslc bR 1 (bR.l.length:Int);pure (id s4)
  else pure (id bR)
theorem zBZ:∀a0 r,kK a0=some r->∀{I:Imm}{p c},(S4 I p a0.Coefs c)->RT 92 [vA (cAff a0 p c)] I [] (xM  r):=by
 intro a0 r N I p c h;unfold kK at N;refine yK func92 λB=>?_;have H:=iS I;refine yB<|sF (cAff a0 p c) ?_;intro b hb;refine wP [] []<|uX [3] rfl<|zY<|yG [4] rfl<|vC<|mM [(1,vP b 0),(3,vT ([])),(4,vI 0)] ?_;obtain⟨aS,aE,aM⟩:=zB N;refine zF5 a0 (⟨[]⟩:Str) 0 aS aE iR h nG nO ?_;intro bP aq ca aL;subst aS;have H:=H.trans aL;refine zT<|zY<|yB<|yI [0] [32] rfl<|zK ?_;refine wZ aM [] (λbR=>[(3,vT bR.l)]) (λdd bh=>?_) ?_
 ·have H:=iS bP;refine yC bh ?_ ?_
  ·intro aU N;refine zM<|zZ 3 [0] [33,35] rfl<|bE N λy1 bX N=>xG (zD8 a0.Const (⟨[]⟩:Str) _ bX ) ?_;rintro dw au v2 k2 bb - ⟨gx,rfl,rfl,rfl⟩ -;have H:=H.trans bb;obtain⟨s2,cx,N⟩:=zB N;exact qP rfl cx<|yI [] [3] rfl<|wI zN<|yP<|zQ (ct N H)
  intro aU N;exact zR<|wI zN<|yP<|zQ (ct N H)
 intro bR cI bI bK;refine zY<|yG [39] rfl<|zK<|yC bK ?_ ?_
 ·intro bU N;refine yG [2] rfl<|xH<|zG ?_;obtain rfl:=zC N;exact vG
 intro bU N;refine zR<|zY<|yB<|zZ 1 [] [40] rfl<|bE N λs3 cV N=>zB8 rfl cV<|yI [] [42] rfl<|zK<|yC N ?_ ?_
 ·intro cO N;refine yB<|zZ 1 [] [43] rfl<|bE N λs4 eo N=>zB8 rfl eo<|yI [] [2] rfl<|xH<|zG ?_;obtain rfl:=zC N;exact vG
 intro cO N;refine zR<|uX [2] rfl<|zK<|yX ?_;obtain rfl:=zC N;exact vG
def uS(ai:(List zA))(out:Str)(i:Int):Option (Str):=do
 if(decide (i<(ai.length:Int))) then
  let aD<-(do
   if(decide (i>0)) then
    let s<-cat out (⟨[44]⟩:Str);pure (id s)
   else
    pure (id out)
     : Option Str)
  let x<-idx ai i;let y<-kK x;let s1<-cat aD y;uS ai s1 (W (i+1))
 else pure (id out)
 partial_fixpoint
theorem zDL(ai:(List zA)):∀(out:Str) (i:Int) (o:Str),uS ai out i=some o->∀{B}{I0 I:Imm}{Q p c},I0.le I->(S4 I p ai c)->NG Q->NO Q->(∀I' aq,o=aq->I0.le I'->T 23 B Q (.exit 0) I' [] [(3,vT aq.l)])->J Tryz.prog 23 B (nav (bodyOf f91) [1,1,0,1,0]) Q I [] [(0,vS p ai c),(3,vT out.l),(4,vI i)]:=by
 refine uS.partial_correctness ai _ λaQ ih out i o N B I0 I Q p c H h hg ho hx=>xD hg ho<|yA<|yG [8] rfl<|zK<|yC N ?_ ?_
 ·intro hc N;refine zR<|zY<|yM<|yA<|yG [12] rfl<|zK ?_;refine wZ N [] (λaD=>[(0,vS p ai c),(3,vT aD.l),(4,vI i)]) (λo0 aC=>?_) ?_
  ·have H:=iS I;refine yC aC ?_ ?_
   ·intro aI N;exact zM<|zZ 1 [] [13] rfl<|bE N λs hy N=>qP rfl hy<|yI [] [3] rfl<|yP<|zQ (ct N H)
   intro aI N;exact zR<|yP<|zQ (ct N H)
  intro aD I0 le aO;have ⟨h,H⟩:=m2 le h H;refine zK<|zM<|zZ 3 [] [15,16,17] rfl ?_;obtain⟨x,ay,N⟩:=zB aO;refine wJ rfl rfl h ay ?_;intro ad aR av al;obtain⟨p1,c1,rfl,h1⟩:=yF al;refine wC 0 av (cAff x p1 c1) (vA (cAff x p1 c1)) rfl<|bE N λy aK N=>xG (zBZ x _ aK h1) ?_;rintro aT au v2 k2 ae - ⟨gx,rfl,rfl,rfl⟩ -;have ⟨h,H⟩:=m2 ae h H;obtain⟨s1,bc,N⟩:=zB N;exact qP rfl bc<|yI [] [3] rfl<|zO<|zK<|zM<|yI [] [4] rfl<|xB<|jH<|ih s1 (W (i+1)) _ N H h hg ho hx
 intro hc N;exact uR<|yP<|hx _ _ (zC N).symm H
def qL(ai:(List zA)):Option (Str):=do
 let aq<-uS ai (⟨[]⟩:Str) 0;pure (id aq)
theorem zAG:∀ai r,qL ai=some r->∀{I:Imm}{p c},(S4 I p ai c)->RT 91 [vS p ai c] I [] (xM  r):=by
 intro ai r N I p c h;unfold qL at N;refine yK func91 λB=>vO []<|uX [3] rfl<|zY<|yG [4] rfl<|vC<|mM [(0,vS p ai c),(3,vT ([])),(4,vI 0)] ?_;obtain⟨aS,aE,aM⟩:=zB N;refine zDL ai (⟨[]⟩:Str) 0 aS aE iR h nG nO ?_;intro aY aq ca aJ;subst aS;refine zT<|uX [2] rfl<|zK<|yX ?_;obtain rfl:=zC aM;exact vG
def sK(a0:zJ):Option (Str):=do
 let s<-cat a0.Array (⟨[91]⟩:Str);let y<-qL a0.Subs;let s1<-cat s y;let s2<-cat s1 (⟨[93]⟩:Str);pure (id s2)
theorem dD:∀a0 r,sK a0=some r->∀{I:Imm}{p c},(S4 I p a0.Subs c)->RT 41 [vA (cAccess a0 p c)] I [] (xM  r):=by
 intro a0 r N I p c h;unfold sK at N;refine yK func41 λB=>?_;have H:=iS I;refine yB<|sF (cAccess a0 p c) ?_;intro b hb;refine wP [] []<|zK<|yA ?_;obtain⟨s,hy,N⟩:=zB N;obtain⟨y,ay,N⟩:=zB N;obtain⟨s1,aK,N⟩:=zB N;obtain⟨s2,bc,N⟩:=zB N;refine vK [.p (vP b 0) [],.p (vT a0.Array.l) [0],.q (vT s.l),.p (vP b 1) [],.p (vS p a0.Subs c) [0],.q (vT y.l),.q (vT s1.l),.q (vT s2.l)] [[],[(0,F9)],[(1,F9)],[],[(3,F9)],[(4,F9)],[(2,F9),(5,F9)],[(6,F9)]] [hB b (cAccess a0 p c)] [] [(7,F9)] (zX [0]) ?_ ?_
 ·refine O2<|Oq ?_<|O2<|Oq ?_<|Oq ?_<|Oq ?_<|On
  ·intro I1 hf ae;exact yW [4] rfl<|qP rfl hy<|yQ iR
  ·intro I1 hf ae;refine yW [7] rfl ?_;have H:=iS I1;have h:=h.mono ae;refine xG (zAG a0.Subs _ ay h) ?_;rintro I0 au v2 k2 le - ⟨v0,rfl,rfl,rfl⟩ -;have H:=H.trans le;exact yQ H
  ·intro I1 hf ae;exact yW [5,8] rfl<|qP rfl aK<|yQ iR
  intro I1 hf ae;exact yW [9] rfl<|qP rfl bc<|yQ iR
 intro aT ae;refine yW [10] rfl ?_;refine yI [] [2] rfl<|zK<|yX ?_;obtain rfl:=zC N;exact vG
def tE(e0:zF):Option (Str):=do
 if(e0.Kind==1) then
  let y<-sC e0.Num;pure (id y)
 else
  if(e0.Kind==2) then
   let y1<-kK e0.Index;let s<-cat (⟨[123]⟩:Str) y1;let s1<-cat s (⟨[125]⟩:Str);pure (id s1)
  else
   if(e0.Kind==3) then
    let y2<-sK e0.Read;pure (id y2)
   else
    let x<-idx e0.Kids 0;let y3<-tE (same x);let s2<-cat (⟨[40]⟩:Str) y3;let s3<-sslc (⟨[43,45,42]⟩:Str) (W (e0.Kind - 4)) (W ((W (e0.Kind - 4))+1));let s4<-cat s2 s3;let x1<-idx e0.Kids 1;let y4<-tE (same x1);let s5<-cat s4 y4;let s6<-cat s5 (⟨[41]⟩:Str);pure (id s6)
 partial_fixpoint
theorem zD9:∀e0 r,tE e0=some r->∀{I:Imm}{p c p1 c1 p2 c2},(S4 I p e0.Index.Coefs c)->(S4 I p1 e0.Read.Subs c1)->(S4 I p2 e0.Kids c2)->RT 42 [vA (cExpr e0 p c p1 c1 p2 c2)] I [] (xM  r):=by
 refine tE.partial_correctness _ λF_spec_l3Text ih_spec_l3Text e0 r N I p c p1 c1 p2 c2 h h1 h2=>yK func42 λB=>?_;have H:=iS I;refine yB<|sF (cExpr e0 p c p1 c1 p2 c2) ?_;intro b hb;refine wP [] []<|zY<|yB<|yI [0] [4] rfl<|vC<|yG [5] rfl<|zK<|yC N ?_ ?_
 ·intro hc N;refine yB<|zZ 2 [0] [8] rfl<|bE N λy hy N=>xG (zAT e0.Num _ hy ) ?_;rintro I0 au v2 k2 le - ⟨v0,rfl,rfl,rfl⟩ -;refine yI [] [2] rfl<|xH<|zS<|zG ?_;obtain rfl:=zC N;exact vG
 intro hc N;refine yG [10] rfl<|zK<|yC N ?_ ?_
 ·intro aI N;refine yB<|qO 2 [0] [(13,vA (cAff e0.Index p c))]<|bE N λy1 ay N=>xG (zBZ e0.Index _ ay h) ?_;rintro aT au v2 k2 ae - ⟨gx,rfl,rfl,rfl⟩ -;obtain⟨s,aK,N⟩:=zB N;refine qP rfl aK<|bE N λs1 bc N=>qP rfl bc<|yI [] [2] rfl<|xH<|zS<|zG ?_;obtain rfl:=zC N;exact vG
 intro aI N;refine yG [17] rfl<|zK<|yC N ?_ ?_
 ·intro aU N;refine yB<|qO 2 [0] [(20,vA (cAccess e0.Read p1 c1))]<|bE N λy2 bL N=>xG (dD e0.Read _ bL h1) ?_;rintro aY au v2 k2 aJ - ⟨ig,rfl,rfl,rfl⟩ -;refine yI [] [2] rfl<|xH<|zS<|zG ?_;obtain rfl:=zC N;exact vG
 intro aU N;refine zR<|zO<|zK<|yA ?_;obtain⟨x,bX,N⟩:=zB N;obtain⟨y3,cx,N⟩:=zB N;obtain⟨s2,cV,N⟩:=zB N;obtain⟨s3,eo,N⟩:=zB N;obtain⟨s4,gi,N⟩:=zB N;obtain⟨x1,cU,N⟩:=zB N;obtain⟨y4,dr,N⟩:=zB N;obtain⟨s5,en,N⟩:=zB N;obtain⟨s6,iA,N⟩:=zB N;refine vK [.p (vP b 6) [],.p (vS p2 e0.Kids c2) [0],.x (ePExpr x),.x (eVExpr x),.q (vT y3.l),.q (vT s2.l),.p (vP b 0) [],.p (vI e0.Kind) [0],.p (vI (W (e0.Kind - 4))) [],.p (vP b 0) [],.p (vI e0.Kind) [0],.p (vI (W (e0.Kind - 4))) [],.p (vI (W ((W (e0.Kind - 4))+1))) [],.q (vT s3.l),.q (vT s4.l),.p (vP b 6) [],.p (vS p2 e0.Kids c2) [0],.x (ePExpr x1),.x (eVExpr x1),.q (vT y4.l),.q (vT s5.l),.q (vT s6.l)] [[],[(0,F9)],[(1,F9)],[(2,F9)],[(3,F9)],[(4,F9)],[],[(6,F9)],[(7,F9)],[],[(9,F9)],[(10,F9)],[(11,F9)],[(8,F9),(12,F9)],[(5,F9),(13,F9)],[],[(15,F9)],[(16,F9)],[(17,F9)],[(18,F9)],[(14,F9),(19,F9)],[(20,F9)]] [hB b (cExpr e0 p c p1 c1 p2 c2)] [] [(21,F9)] (zX [0]) ?_ ?_
 ·refine O2<|Ox ?_<|Ox ?_<|Oq ?_<|Oq ?_<|O4<|O3<|Oq ?_<|Oq ?_<|O2<|Ox ?_<|Ox ?_<|Oq ?_<|Oq ?_<|Oq ?_<|On
  ·intro I1 hf ae;refine yW [23] rfl ?_;have h2:=h2.mono ae;refine wJ rfl rfl h2 bX ?_;intro ad aR av al;obtain⟨p3,c3,p4,c4,p5,c5,rfl,h6,h7,h8⟩:=vJ al;exact xC [] iR ⟨_,_,_,_,_,_,_,rfl,rfl,av,h6,h7,h8⟩
  ·rintro I1 hf ae _ _ ⟨ad,p3,c3,p4,c4,p5,c5,rfl,rfl,av,h6,h7,h8⟩;exact yW [24] rfl<|wC 0 av (cExpr x p3 c3 p4 c4 p5 c5) (vA (cExpr x p3 c3 p4 c4 p5 c5)) rfl<|xC [] iR ⟨_,_,_,_,_,_,rfl,rfl,h6,h7,h8⟩
  ·rintro I1 hf ae _ _ ⟨kn,l8,iJ,iF,xk,c51,rfl,rfl,uz,rr,h81⟩;refine yW [25] rfl ?_;have H:=iS I1;refine xG (ih_spec_l3Text x _ cx uz rr h81) ?_;rintro bP au v2 k2 aL - ⟨q8,rfl,rfl,rfl⟩ -;have H:=H.trans aL;exact yQ H
  ·intro I1 hf ae;exact yW [26] rfl<|qP rfl cV<|yQ iR
  ·intro I1 hf ae;exact yW [30,34] rfl<|zB8 rfl eo<|yQ iR
  ·intro I1 hf ae;exact yW [27,35] rfl<|qP rfl gi<|yQ iR
  ·intro I1 hf ae;refine yW [38] rfl ?_;have h2:=h2.mono ae;refine wJ rfl rfl h2 cU ?_;intro cD bN aw ax;obtain⟨p6,c6,p7,c7,p8,c8,rfl,bQ,bB,bW⟩:=vJ ax;exact xC [] iR ⟨_,_,_,_,_,_,_,rfl,rfl,aw,bQ,bB,bW⟩
  ·rintro I1 hf ae _ _ ⟨cD,p6,c6,p7,c7,p8,c8,rfl,rfl,aw,bQ,bB,bW⟩;exact yW [39] rfl<|wC 0 aw (cExpr x1 p6 c6 p7 c7 p8 c8) (vA (cExpr x1 p6 c6 p7 c7 p8 c8)) rfl<|xC [] iR ⟨_,_,_,_,_,_,rfl,rfl,bQ,bB,bW⟩
  ·rintro I1 hf ae _ _ ⟨vi,th,sr,wx,p81,c81,rfl,rfl,mt,lE,tk⟩;refine yW [40] rfl ?_;have H:=iS I1;refine xG (ih_spec_l3Text x1 _ dr mt lE tk) ?_;rintro cI au v2 k2 bb - ⟨ut,rfl,rfl,rfl⟩ -;have H:=H.trans bb;exact yQ H
  ·intro I1 hf ae;exact yW [36,41] rfl<|qP rfl en<|yQ iR
  intro I1 hf ae;exact yW [42] rfl<|qP rfl iA<|yQ iR
 intro dw bI;refine yW [43] rfl ?_;refine yI [] [2] rfl<|zK<|yX ?_;obtain rfl:=zC N;exact vG
def nN(s:zI):Option (Str):=do
 let y<-pE s 4;if(!y) then pure (⟨[]⟩:Str)
 else
  let y1<-sK s.Write;let s1<-cat y1 (⟨[61]⟩:Str);let y2<-tE s.Value;let s2<-cat s1 y2;pure (id s2)
theorem zEm:∀s r,nN s=some r->∀{I:Imm}{p c p1 c1 p2 c2 p3 c3},(S4 I p s.Write.Subs c)->(S4 I p1 s.Value.Index.Coefs c1)->(S4 I p2 s.Value.Read.Subs c2)->(S4 I p3 s.Value.Kids c3)->RT 30 [vA (cStmt s p c p1 c1 p2 c2 p3 c3)] I [] (xM  r):=by
 intro s r N I p c p1 c1 p2 c2 p3 c3 h h1 h2 h3;unfold nN at N;refine yK func30 λB=>?_;have H:=iS I;refine yB<|sF (cStmt s p c p1 c1 p2 c2 p3 c3) ?_;intro b hb;refine wP [] []<|zY<|yB<|qO 1 [0] [(3,vA (cStmt s p c p1 c1 p2 c2 p3 c3))]<|bE N λy hy N=>uU (zAQ s 4 _ hy h h1 h2 h3) ?_;intro I0 le;have ⟨h,h1,h2,h3,H⟩:=m5 le h h1 h2 h3 H;refine yI [] [5] rfl<|zK<|yC N ?_ ?_
 ·intro hc N;refine yG [2] rfl<|xH<|zG ?_;obtain rfl:=zC N;exact vG
 intro hc N;refine zR<|zK<|yA ?_;obtain⟨y1,ay,N⟩:=zB N;obtain⟨s1,aK,N⟩:=zB N;obtain⟨y2,bc,N⟩:=zB N;obtain⟨s2,bL,N⟩:=zB N;refine vK [.p (vP b 0) [],.p (vA (cAccess s.Write p c)) [0],.q (vT y1.l),.q (vT s1.l),.p (vP b 2) [],.p (vA (cExpr s.Value p1 c1 p2 c2 p3 c3)) [0],.q (vT y2.l),.q (vT s2.l)] [[],[(0,F9)],[(1,F9)],[(2,F9)],[],[(4,F9)],[(5,F9)],[(3,F9),(6,F9)]] [hB b (cStmt s p c p1 c1 p2 c2 p3 c3)] [] [(7,F9)] (zX [0]) ?_ ?_
 ·refine O2<|Oq ?_<|Oq ?_<|O2<|Oq ?_<|Oq ?_<|On
  ·intro I1 hf ae;refine yW [7] rfl ?_;have H:=iS I1;have h:=h.mono ae;refine xG (dD s.Write _ ay h) ?_;rintro aT au v2 k2 ae - ⟨gx,rfl,rfl,rfl⟩ -;have H:=H.trans ae;exact yQ H
  ·intro I1 hf ae;exact yW [8] rfl<|qP rfl aK<|yQ iR
  ·intro I1 hf ae;refine yW [11] rfl ?_;have H:=iS I1;have ⟨h1,h2,h3⟩:=m3 ae h1 h2 h3;refine xG (zD9 s.Value _ bc h1 h2 h3) ?_;rintro aY au v2 k2 aJ - ⟨ig,rfl,rfl,rfl⟩ -;have H:=H.trans aJ;exact yQ H
  intro I1 hf ae;exact yW [9,12] rfl<|qP rfl bL<|yQ iR
 intro bP aL;refine yW [13] rfl ?_;refine yI [] [2] rfl<|zK<|yX ?_;obtain rfl:=zC N;exact vG
def zCV(r:(List Str)):KT:=λkk I' ah v=>
 ∃v0,ah=[]/\v=tupV [v0]/\SL I' v0 r
def sT(s:Str)(c:UInt8)(out:List Str)(lD:Int)(i:Int):Option (List Str):=do
 if(decide (i<=(s.l.length:Int))) then
  let wo<-(do
   if(i==(s.l.length:Int)) then pure true
   else
    let b1<-sidx s i;pure ((b1.toNat:Int)==(c.toNat:Int))
     : Option Bool)
  let (aD,j8)<-(do
   if wo then
    let s1<-sslc s lD i;let bR<-app 16 out ([s1]:List Str);pure (bR,(W (i+1)))
   else
    pure (out,lD)
     : Option (List Str×Int))
  sT s c aD j8 (W (i+1))
 else pure (id out)
 partial_fixpoint
theorem zF6(s:Str)(c:UInt8):∀(out:List Str) (lD:Int) (i:Int) (o:List Str),sT s c out lD i=some o->∀{B}{I0 I:Imm}{Q p c1 cs},I0.le I->(RL I cs out)->NG Q->NO Q->(∀I' aq p1 c2 aA,o=aq->I0.le I'->(RL I' aA aq)->T 36 B Q (.exit 0) I' [hO Str (vS p1 aq c2) aA] [(5,vS p1 aq c2)])->J Tryz.prog 36 B (nav (bodyOf f55) [1,1,1,0,1,0]) Q I [hO Str (vS p out c1) cs] [(0,vT s.l),(1,.int .u8 (c.toNat:Int)),(5,vS p out c1),(6,vI lD),(7,vI i)]:=by
 refine sT.partial_correctness s c _ λaQ ih out lD i o N B I0 I Q p c1 cs H h1 hg ho hx=>xD hg ho<|yA<|yG [12] rfl<|zK<|yC N ?_ ?_
 ·intro hc N;refine zR<|zY<|yM<|yA ?_;refine wZ N [hO Str (vS p out c1) cs] (λwo=>[(0,vT s.l),(1,.int .u8 (c.toNat:Int)),(5,vS p out c1),(6,vI lD),(7,vI i),(25,.bool wo)]) (λo0 aC=>?_) ?_
  ·have H:=iS I;refine zM<|zZ 5 [] [19] rfl<|xW [19] aC ?_ ?_
   ·intro aI N;exact wP [] [(25,vY)]<|yP<|zQ (ct N H)
   intro aI N;exact zZ 7 [] [20,21] rfl<|bE N λb1 hy N=>zA3 rfl rfl hy<|yI [] [25] rfl<|yP<|zQ (ct N H)
  intro wo I0 le aO;have ⟨h1,H⟩:=m2 le h1 H;refine zK ?_;obtain⟨aS,aE,bK⟩:=zB aO;refine rR (λI' ah m'=>∃(aD:List Str) (j8:Int) (p2:Option Addr) (c3:Nat) (bv:List Value),aS=(aD,j8)/\I0.le I'/\(RL I' bv aD)/\ah=[hO Str (vS p2 aD c3) bv]/\m'=[(0,vT s.l),(1,.int .u8 (c.toNat:Int)),(5,vS p2 aD c3),(6,vI j8),(7,vI i)]) ?_ ?_
  ·have H:=iS I0;refine yC aE ?_ ?_
   ·intro aU N;refine yB<|zZ 4 [] [26,27,28,29] rfl<|bE N λs1 ay N=>zB8 rfl ay<|qN [vT s1.l] Str ?_;intro b2 cp;have h4:RL I0 [vT s1.l] ([s1]:List Str):=rT [s1];obtain⟨bR,aK,N⟩:=zB N;exact mD 9 1 1 rfl rfl rfl h1 (.inr ⟨0,rfl⟩) h4 aK λp3 c4 bf h5=>qM (zX [1] (ah:=[hO Str (vS p3 bR c4) bf]))<|yI [] [5] rfl<|zK<|zM<|yI [] [6] rfl<|yP<|zQ ⟨_,_,_,_,_,(zC N).symm,H,h5,rfl,rfl⟩
   intro aU N;exact zR<|yP<|zQ ⟨_,_,_,_,_,(zC N).symm,H,h1,rfl,rfl⟩
  rintro aT au m2 ⟨aD,j8,p2,c3,bv,ca,ae,h3,rfl,rfl⟩;subst aS;have H:=H.trans ae;exact zO<|zK<|zM<|yI [] [7] rfl<|xB<|jH<|ih aD j8 (W (i+1)) _ bK H h3 hg ho hx
 intro hc N;exact uR<|yP<|hx _ _ _ _ _ (zC N).symm H h1
def kL(s:Str)(c:UInt8):Option ((List Str)):=do
 let aq<-sT s c ([]:List Str) 0 0;pure (id aq)
theorem zB0:∀s c r,kL s c=some r->∀{I:Imm} ,RT 55 [vT s.l,.int .u8 (c.toNat:Int)] I [] (zCV  r):=by
 intro s c r N I;unfold kL at N;refine yK func55 λB=>vO []<|yV<|qN [] Str ?_;intro b hb;have h:RL I [] ([]:List Str):=rfl;refine yI [] [5] rfl<|uX [6] rfl<|zY<|yG [7] rfl<|vC<|mM [(0,vT s.l),(1,.int .u8 (c.toNat:Int)),(5,vS (some ⟨b,0,none⟩) ([]:List Str) 0),(6,vI 0),(7,vI 0)] ?_;obtain⟨dd,bh,aM⟩:=zB N;refine zF6 s c ([]:List Str) 0 0 dd bh iR h nG nO ?_;intro aY aq p1 c2 aA jo aJ h2;subst dd;refine zT<|uX [4] rfl<|xH<|xT 0 rfl ?_;intro bP aL cH;have h6:=SL.of_frozen cH aL h2;exact wD aM (resT rfl) zN ⟨_,rfl,rfl,h6⟩
def zAc(r:zA):KT:=λkk I' ah v=>
 ∃np ns un,ah=[.osl (.slice np r.Coefs.length ns) (Rp.sz Int) un]/\v=tupV [(.agg ⟨[.slice np r.Coefs.length ns,.int .i64 r.Const]⟩)]/\RepL (Rp.rep I') (Rp.sz Int) un r.Coefs
def nH :Option (zA):=do
 pure (zA.mk ([0,0,0,0]:List Int) 0)
theorem fH:∀r,nH =some r->∀{I:Imm} ,RT 142 [] I [] (zAc  r):=by
 intro  r N I;unfold nH at N;refine yK func142 λB=>yB<|wT [z0,vI 0] ?_;intro b hb;refine zW rfl<|yV<|qN [vI 0,vI 0,vI 0,vI 0] Int ?_;intro b1 cp;have h:RL I [vI 0,vI 0,vI 0,vI 0] ([0,0,0,0]:List Int):=rI [0,0,0,0];refine zZ 2 [] [2] rfl<|yZ 1 [vS (some ⟨b1,0,none⟩) ([0,0,0,0]:List Int) 4,vI 0] rfl<|zW rfl<|zK<|yX ?_;exact wD N (resC 1 rfl rfl) (zV [0] rfl (by decide)) ⟨_,_,_,rfl,rfl,h⟩
def uV(s1:Str)(n0:Int)(i:Int):Option (Out Int (Int×Bool)):=do
 if(decide (i<(s1.l.length:Int))) then
  let lR<-(do
   let b2<-sidx s1 i;if(decide ((b2.toNat:Int)<48)) then pure true
   else
    let b3<-sidx s1 i;pure (decide ((b3.toNat:Int)>57))
     : Option Bool)
  if lR then pure (.ret (0,F9))
  else
   let b4<-sidx s1 i;uV s1 (W ((W (n0*10))+(W (IntKind.u8.wrap ((b4.toNat:Int) - 48))))) (W (i+1))
 else pure (.done n0)
 partial_fixpoint
theorem zF7(s1:Str):∀(n0:Int) (i:Int) (o:Out Int (Int×Bool)),uV s1 n0 i=some o->∀{B}{I0 I:Imm}{Q}{neg:Bool} ,I0.le I->NG Q->NO Q->(∀I' ci,o=(.done ci)->I0.le I'->T 67 B Q (.exit 0) I' [] [(4,.bool neg),(5,vI ci)])->(∀r I' ah m',o=(.ret r)->I0.le I'->RS Tryz.prog f170 B (fG  r) I' ah m'->T 67 B Q .ret I' ah m')->J Tryz.prog 67 B (nav (bodyOf f170) [1,1,1,1,1,0,1,0]) Q I [] [(0,vT s1.l),(4,.bool neg),(5,vI n0),(6,vI i)]:=by
 refine uV.partial_correctness s1 _ λaQ ih n0 i o N B I0 I Q neg H hg ho hx hr=>xD hg ho<|yA<|yG [42] rfl<|zK<|yC N ?_ ?_
 ·intro kq N;refine zR<|zY<|yM<|yA<|yA ?_;refine wZ N [] (λlR=>[(0,vT s1.l),(4,.bool neg),(5,vI n0),(6,vI i),(54,.bool lR)]) (λfw cu=>?_) ?_
  ·have H:=iS I;refine zM<|zZ 2 [] [45,46] rfl ?_;obtain⟨b2,bc,N⟩:=zB cu;refine zA3 rfl rfl bc<|zZ 5 [] [49] rfl<|xW [49] N ?_ ?_
   ·intro lH N;exact wP [] [(54,vY)]<|yP<|zQ (ct N H)
   intro lH N;exact zZ 7 [] [50,51] rfl<|bE N λb3 bL N=>zA3 rfl rfl bL<|yI [] [54] rfl<|yP<|zQ (ct N H)
  intro lR bP aL ff;have H:=H.trans aL;refine zK<|yC ff ?_ ?_
  ·intro l9 N;exact yG [2,3] rfl<|xH<|zG<|zS<|zG<|zG<|hr _ _ _ _ (zC N).symm H ⟨_,_,(resU rfl rfl),zN,⟨_,_,rfl,rfl,rfl,rfl⟩⟩
  intro l9 N;exact zR<|zK<|zM<|zZ 4 [] [56,57,58] rfl<|bE N λb4 bX N=>zA3 rfl rfl bX<|yI [] [5] rfl<|zO<|zK<|zM<|yI [] [6] rfl<|xB<|jH<|ih (W ((W (n0*10))+(W (IntKind.u8.wrap ((b4.toNat:Int) - 48))))) (W (i+1)) _ N H  hg ho hx hr
 intro kq N;exact uR<|yP<|hx _ _ (zC N).symm H
def oG(s:Str):Option (Int×Bool):=do
 let neg<-(do
  if(decide ((s.l.length:Int)>0)) then
   let b<-sidx s 0;pure ((b.toNat:Int)==45)
  else
   pure false
    : Option Bool)
 let s1<-(do
  if neg then
   let s2<-sslc s 1 (s.l.length:Int);pure (id s2)
  else
   pure (id s)
    : Option Str)
 let t38<-(do
  if((s1.l.length:Int)==0) then pure true
  else
   if(decide ((s1.l.length:Int)>17)) then pure true
   else
    let b1<-sidx s1 0;if((b1.toNat:Int)==48) then
     if(decide ((s1.l.length:Int)>1)) then pure true
     else pure (id neg)
    else pure false
    : Option Bool)
 if t38 then pure (0,F9)
 else
  match<-uV s1 0 0 with
  | .ret r0=>pure r0
  | .done ci=>
   let lX<-(do
    if neg then pure (W (0 - ci))
    else
     pure (id ci)
      : Option Int)
   pure (lX,true)
theorem zDa:∀s r,oG s=some r->∀{I:Imm} ,RT 170 [vT s.l] I [] (fG  r):=by
 intro s r N I;unfold oG at N;refine yK func170 λB=>?_;have H:=iS I;refine vO []<|zK<|yA ?_;refine wZ N [] (λneg=>[(0,vT s.l),(4,.bool neg)]) (λo0 aC=>?_) ?_
 ·have H:=iS I;refine zM<|zZ 4 [] [10] rfl<|xW [10] aC ?_ ?_
  ·intro hc N;exact zZ 5 [] [11] rfl<|bE N λb hy N=>zA3 rfl rfl hy<|yI [] [4] rfl<|yP<|zQ (ct N H)
  intro hc N;exact wP [] [(4,vF)]<|yP<|zQ (ct N H)
 intro neg I0 le aO;have H:=H.trans le;refine zY<|yG [15] rfl<|zK ?_;refine wZ aO [] (λs1=>[(0,vT s1.l),(4,.bool neg)]) (λaS aE=>?_) ?_
 ·have H:=iS I0;refine yC aE ?_ ?_
  ·intro aI N;exact zM<|zZ 1 [] [16] rfl<|bE N λs2 ay N=>zB8 rfl ay<|yI [] [0] rfl<|yP<|zQ (ct N H)
  intro aI N;exact zR<|yP<|zQ (ct N H)
 intro s1 aT ae bK;have H:=H.trans ae;refine zY<|yA ?_;refine wZ bK [] (λt38=>[(0,vT s1.l),(4,.bool neg),(38,.bool t38)]) (λdd bh=>?_) ?_
 ·have H:=iS aT;refine zM<|zZ 4 [] [21] rfl<|xW [21] bh ?_ ?_
  ·intro aU N;exact wP [] [(38,vY)]<|yP<|zQ (ct N H)
  intro aU N;refine zZ 9 [] [26] rfl<|xW [26] N ?_ ?_
  ·intro bU N;exact wP [] [(38,vY)]<|yP<|zQ (ct N H)
  intro bU N;refine zZ 10 [] [27] rfl<|bE N λb1 aK N=>zA3 rfl rfl aK<|zZ 13 [] [30] rfl<|xW [30] N ?_ ?_
  ·intro cO N;refine zZ 17 [] [34] rfl<|xW [34] N ?_ ?_
   ·intro ft N;exact wP [] [(38,vY)]<|yP<|zQ (ct N H)
   intro ft N;exact yI [] [38] rfl<|yP<|zQ (ct N H)
  intro cO N;exact wP [] [(38,vF)]<|yP<|zQ (ct N H)
 intro t38 aY aJ d6;have H:=H.trans aJ;refine zK<|yC d6 ?_ ?_
 ·intro iU N;refine yG [2,3] rfl<|xH<|zG ?_;exact wD N (resU rfl rfl) zN ⟨_,_,rfl,rfl,rfl,rfl⟩
 intro iU N;refine zR<|uX [5] rfl<|zY<|yG [6] rfl<|vC<|mM [(0,vT s1.l),(4,.bool neg),(5,vI 0),(6,vI 0)] ?_;obtain⟨lN,gv,aM⟩:=zB N;refine zF7 s1 0 0 lN gv iR  nG nO ?_ ?_
 ·intro cI ci ry bb;subst lN;have H:=H.trans bb;refine zT<|zY<|yG [63] rfl<|zK ?_;refine wZ aM [] (λlX=>[(5,vI lX)]) (λvf kf=>?_) ?_
  ·have H:=iS cI;refine yC kf ?_ ?_
   ·intro ja N;exact zM<|yI [] [5] rfl<|yP<|zQ (ct N H)
   intro ja N;exact zR<|yP<|zQ (ct N H)
  intro lX dw bI ia;refine uX [2,3] rfl<|zK<|yX ?_;exact wD ia (resU rfl rfl) zN ⟨_,_,rfl,rfl,rfl,rfl⟩
 intro r0 I9 gm m9 aV bS aW;subst aV;refine zS<|zG ?_;obtain rfl:=zC aM;exact fO aW
def sD(s:Str)(bm:Int)(cY:Int):Option (Int):=do
 let t31<-(do
  if(decide (cY<(s.l.length:Int))) then
   if(decide (cY<(W (bm+2)))) then
    let b<-sidx s cY;if(decide ((b.toNat:Int)>=48)) then
     let b1<-sidx s cY;pure (decide ((b1.toNat:Int)<=57))
    else pure false
   else pure false
  else
   pure false
    : Option Bool)
 if t31 then sD s bm (W (cY+1))
 else pure (id cY)
 partial_fixpoint
theorem zES(s:Str)(bm:Int):∀(cY:Int) (o:Int),sD s bm cY=some o->∀{B}{I0 I:Imm}{Q}  ,I0.le I->NG Q->NO Q->(∀I' mg,o=mg->I0.le I'->T 47 B Q (.exit 0) I' [] [(0,vT s.l),(1,vI bm),(6,vI mg)])->J Tryz.prog 47 B (nav (bodyOf f146) [1,1,0,0]) Q I [] [(0,vT s.l),(1,vI bm),(6,vI cY)]:=by
 refine sD.partial_correctness s bm _ λaQ ih cY o N B I0 I Q H hg ho hx=>xD hg ho<|yA<|yA ?_;refine wZ N [] (λt31=>[(0,vT s.l),(1,vI bm),(6,vI cY),(31,.bool t31)]) (λo0 aC=>?_) ?_
 ·have H:=iS I;refine zM<|zZ 5 [] [14] rfl<|xW [14] aC ?_ ?_
  ·intro hc N;refine zZ 11 [] [20] rfl<|xW [20] N ?_ ?_
   ·intro aI N;refine zZ 13 [] [21,22] rfl<|bE N λb hy N=>zA3 rfl rfl hy<|zZ 17 [] [26] rfl<|xW [26] N ?_ ?_
    ·intro aU N;exact zZ 19 [] [27,28] rfl<|bE N λb1 ay N=>zA3 rfl rfl ay<|yI [] [31] rfl<|yP<|zQ (ct N H)
    intro aU N;exact wP [] [(31,vF)]<|yP<|zQ (ct N H)
   intro aI N;exact wP [] [(31,vF)]<|yP<|zQ (ct N H)
  intro hc N;exact wP [] [(31,vF)]<|yP<|zQ (ct N H)
 intro t31 I0 le aO;have H:=H.trans le;refine zK<|yC aO ?_ ?_
 ·intro bU N;exact zR<|vC<|zM<|yI [] [6] rfl<|zO<|xB<|jH<|ih (W (cY+1)) _ N H  hg ho hx
 intro bU N;exact uR<|yP<|hx _ _ (zC N).symm H
def pA(s:Str)(bm:Int):Option (Int×Int):=do
 let mg<-sD s bm bm;let s1<-sslc s bm mg;let (y1,y2)<-oG s1;if(!y2) then pure (1,bm)
 else pure (y1,mg)
theorem zCW:∀s bm r,pA s bm=some r->∀{I:Imm} ,RT 146 [vT s.l,vI bm] I [] (zAR  r):=by
 intro s bm r N I;unfold pA at N;refine yK func146 λB=>vO []<|uX [6] rfl<|zY<|yM<|mM [(0,vT s.l),(1,vI bm),(6,vI bm)] ?_;obtain⟨aS,aE,aM⟩:=zB N;refine zES s bm bm aS aE iR  nG nO ?_;intro aT mg ca ae;subst aS;refine zT<|yV<|zZ 3 [] [35,36,37] rfl ?_;obtain⟨s1,aK,N⟩:=zB aM;refine zB8 rfl aK ?_;obtain⟨⟨y1,y2⟩,bc,N⟩:=zB N;refine xG (zDa s1 _ bc ) ?_;rintro aY au v2 k2 aJ - ⟨v0,gx,rfl,rfl,rfl,rfl⟩ -;refine yI [] [7,8] rfl<|zY<|yG [43] rfl<|zK<|yC N ?_ ?_
 ·intro cO N;refine yG [4,5] rfl<|xH<|zG ?_;exact wD N (resU rfl rfl) zN ⟨_,_,rfl,rfl,rfl,rfl⟩
 intro cO N;refine zR<|uX [4,5] rfl<|zK<|yX ?_;exact wD N (resU rfl rfl) zN ⟨_,_,rfl,rfl,rfl,rfl⟩
def jK(s:Str)(bm:Int):Option (Int):=do
 let t20<-(do
  if(decide (bm>=(s.l.length:Int))) then pure true
  else
   let b<-sidx s bm;if(decide ((b.toNat:Int)<105)) then pure true
   else
    let b1<-sidx s bm;pure (decide ((b1.toNat:Int)>108))
    : Option Bool)
 if t20 then pure (-1)
 else
  let b2<-sidx s bm;pure (W ((W (b2.toNat:Int)) - 105))
theorem zIH:∀s bm r,jK s bm=some r->∀{I:Imm} ,RT 231 [vT s.l,vI bm] I [] (xI  r):=by
 intro s bm r N I;unfold jK at N;refine yK func231 λB=>?_;have H:=iS I;refine vO []<|zY<|yA ?_;refine wZ N [] (λt20=>[(0,vT s.l),(1,vI bm),(20,.bool t20)]) (λo0 aC=>?_) ?_
 ·have H:=iS I;refine zM<|zZ 5 [] [9] rfl<|xW [9] aC ?_ ?_
  ·intro hc N;exact wP [] [(20,vY)]<|yP<|zQ (ct N H)
  intro hc N;refine zZ 7 [] [10,11] rfl<|bE N λb hy N=>zA3 rfl rfl hy<|zZ 11 [] [15] rfl<|xW [15] N ?_ ?_
  ·intro aI N;exact wP [] [(20,vY)]<|yP<|zQ (ct N H)
  intro aI N;exact zZ 13 [] [16,17] rfl<|bE N λb1 ay N=>zA3 rfl rfl ay<|yI [] [20] rfl<|yP<|zQ (ct N H)
 intro t20 I0 le aO;refine zK<|yC aO ?_ ?_
 ·intro aU N;refine yG [4] rfl<|xH<|zG ?_;obtain rfl:=zC N;exact vG
 intro aU N;refine zR<|yV<|zZ 2 [] [21,22] rfl<|bE N λb2 aK N=>zA3 rfl rfl aK<|yI [] [4] rfl<|zK<|yX ?_;obtain rfl:=zC N;exact vG
def zF8(r:zA×Int):KT:=λkk I' ah v=>
 ∃v0 v1,ah=[]/\v=tupV [v0,v1]/\(∃cs,v0=.agg ⟨cs⟩/\Rp.rep I' cs r.1)/\v1=.int .i64 r.2
def oH(a0:zA)(s:Str)(bm:Int):Option (zA×Int):=do
 let b2<-sidx s bm;let d8<-(do
  if((b2.toNat:Int)==45) then pure (-1)
  else
   pure (id 1)
    : Option Int)
 let iQ<-(do
  let b3<-sidx s bm;if((b3.toNat:Int)==45) then pure true
  else
   let b4<-sidx s bm;pure ((b4.toNat:Int)==43)
    : Option Bool)
 let ir<-(do
  if iQ then pure (W (bm+1))
  else
   pure (id bm)
    : Option Int)
 let (y1,y2)<-pA s ir;let t51<-(do
  if(decide (y2>ir)) then
   if(decide (y2<(s.l.length:Int))) then
    let b5<-sidx s y2;pure ((b5.toNat:Int)==42)
   else pure false
  else
   pure false
    : Option Bool)
 let star<-(do
  if t51 then pure (W (y2+1))
  else
   pure (id y2)
    : Option Int)
 let y3<-jK s star;let l<-app 8 ([]:List Int) a0.Coefs;let t75<-(do
  if(decide (y3>=0)) then
   if(decide (star>y2)) then pure true
   else pure (y2==ir)
  else
   pure false
    : Option Bool)
 if t75 then
  let x<-idx l y3;let x1<-idx l y3;let l1<-pure (l.set y3.toNat (W (x+(W (d8*y1)))));pure ((zA.mk l1 a0.Const),(W (star+1)))
 else
  if(y2==ir) then pure (a0,(-1))
  else pure ((zA.mk l (W (a0.Const+(W (d8*y1))))),y2)
theorem zHT:∀a0 s bm r,oH a0 s bm=some r->∀{I:Imm}{p c},(S4 I p a0.Coefs c)->RT 193 [vA (cAff a0 p c),vT s.l,vI bm] I [] (zF8  r):=by
 intro a0 s bm r N I p c h;unfold oH at N;refine yK func193 λB=>?_;have H:=iS I;refine yB<|sF (cAff a0 p c) ?_;intro b hb;refine wT [z0,vI 0] ?_;intro b1 cp;refine wP [] []<|uX [8] rfl<|zY<|yB<|zZ 2 [] [14,15] rfl<|bE N λb2 hy N=>zA3 rfl rfl hy<|yI [] [17] rfl<|zK ?_;refine wZ N [hB b1 [z0,vI 0],hB b (cAff a0 p c)] (λd8=>[(1,vT s.l),(2,vI bm),(3,vP b 0),(6,vP b1 0),(8,vI d8)]) (λo0 aC=>?_) ?_
 ·have H:=iS I;refine yC aC ?_ ?_
  ·intro hc N;exact zM<|yI [] [8] rfl<|yP<|zQ (ct N H)
  intro hc N;exact zR<|yP<|zQ (ct N H)
 intro d8 I0 le aO;have ⟨h,H⟩:=m2 le h H;refine zY<|yA ?_;refine wZ aO [hB b1 [z0,vI 0],hB b (cAff a0 p c)] (λiQ=>[(1,vT s.l),(2,vI bm),(3,vP b 0),(6,vP b1 0),(8,vI d8),(27,.bool iQ)]) (λaS aE=>?_) ?_
 ·have H:=iS I0;refine zM<|zZ 2 [] [18,19] rfl ?_;obtain⟨b3,ay,N⟩:=zB aE;refine zA3 rfl rfl ay<|zZ 5 [] [22] rfl<|xW [22] N ?_ ?_
  ·intro aI N;exact wP [] [(27,vY)]<|yP<|zQ (ct N H)
  intro aI N;exact zZ 7 [] [23,24] rfl<|bE N λb4 aK N=>zA3 rfl rfl aK<|yI [] [27] rfl<|yP<|zQ (ct N H)
 intro iQ aT ae bK;have ⟨h,H⟩:=m2 ae h H;refine zK ?_;refine wZ bK [hB b1 [z0,vI 0],hB b (cAff a0 p c)] (λir=>[(1,vT s.l),(2,vI ir),(3,vP b 0),(6,vP b1 0),(8,vI d8)]) (λdd bh=>?_) ?_
 ·have H:=iS aT;refine yC bh ?_ ?_
  ·intro aU N;exact zM<|yI [] [2] rfl<|yP<|zQ (ct N H)
  intro aU N;exact zR<|yP<|zQ (ct N H)
 intro ir aY aJ d6;have ⟨h,H⟩:=m2 aJ h H;refine yV<|zZ 2 [] [31,32] rfl ?_;obtain⟨⟨y1,y2⟩,bc,N⟩:=zB d6;refine xG (zCW s ir _ bc ) ?_;rintro bP au v2 k2 aL - ⟨v0,gx,rfl,rfl,rfl,rfl⟩ -;have ⟨h,H⟩:=m2 aL h H;refine yI [] [9,10] rfl<|uX [11] rfl<|zY<|yA ?_;refine wZ N [hB b1 [z0,vI 0],hB b (cAff a0 p c)] (λt51=>[(1,vT s.l),(2,vI ir),(3,vP b 0),(6,vP b1 0),(8,vI d8),(9,vI y1),(10,vI y2),(11,vI y2),(51,.bool t51)]) (λfw cu=>?_) ?_
 ·have H:=iS bP;refine zM<|zZ 4 [] [40] rfl<|xW [40] cu ?_ ?_
  ·intro bU N;refine zZ 10 [] [46] rfl<|xW [46] N ?_ ?_
   ·intro cO N;exact zZ 12 [] [47,48] rfl<|bE N λb5 bL N=>zA3 rfl rfl bL<|yI [] [51] rfl<|yP<|zQ (ct N H)
   intro cO N;exact wP [] [(51,vF)]<|yP<|zQ (ct N H)
  intro bU N;exact wP [] [(51,vF)]<|yP<|zQ (ct N H)
 intro t51 cI bb ff;have ⟨h,H⟩:=m2 bb h H;refine zK ?_;refine wZ ff [hB b1 [z0,vI 0],hB b (cAff a0 p c)] (λstar=>[(1,vT s.l),(2,vI ir),(3,vP b 0),(6,vP b1 0),(8,vI d8),(9,vI y1),(10,vI y2),(11,vI star)]) (λlN gv=>?_) ?_
 ·have H:=iS cI;refine yC gv ?_ ?_
  ·intro ft N;exact zM<|yI [] [11] rfl<|yP<|zQ (ct N H)
  intro ft N;exact zR<|yP<|zQ (ct N H)
 intro star dw bI ia;have ⟨h,H⟩:=m2 bI h H;refine yV<|zZ 2 [] [54,55] rfl ?_;obtain⟨y3,bX,N⟩:=zB ia;refine dU (zIH s star _ bX ) ?_;intro gk bJ;have ⟨h,H⟩:=m2 bJ h H;refine yI [] [12] rfl<|zY<|bE N λl cx N=>vK [.x (λI' v hx=>∃b6,v=vS (some ⟨b6,0,none⟩) ([]:List Int) 0/\hx=[hO Int (vS (some ⟨b6,0,none⟩) ([]:List Int) 0) []]/\(RL I' [] ([]:List Int))),.p (vP b 0) [],.p (vS p a0.Coefs c) [1],.x (λI' v hx=>∃p1 c1 cs,v=vS p1 l c1/\hx=[hO Int (vS p1 l c1) cs]/\(RL I' cs l)),.p (vP b 1) [],.p (vI a0.Const) [1],.x (λI' v hx=>∃bd bj aA,v=vA [vS bd l bj,vI a0.Const]/\hx=[hO Int (vS bd l bj) aA]/\(RL I' aA l)),.x (λI' v hx=>∃b7,v=vP b7 0/\hx=[hB b7 [z0,vI 0]])] [[],[],[(1,F9)],[(0,true),(2,F9)],[],[(4,F9)],[(3,true),(5,F9)],[]] [hB b1 [z0,vI 0],hB b (cAff a0 p c)] [] [(6,true),(7,true)] (zX [0,1]) ?_ ?_
 ·refine Ox ?_<|O2<|Ox ?_<|O2<|Ox ?_<|Ox ?_<|On
  ·intro I1 hf ae;refine I_h []<|qN [] Int ?_;intro b6 fl;have h4:RL I1 [] ([]:List Int):=rfl;exact xC [hO Int (vS (some ⟨b6,0,none⟩) ([]:List Int) 0) []] iR ⟨_,rfl,rfl,h4⟩
  ·rintro I1 hf ae _ _ ⟨b6,rfl,rfl,h4⟩;refine yW [57,59] rfl ?_;have h:=h.mono ae;obtain⟨aR,k0,cE⟩:=h;have h:SL I1 (vS p a0.Coefs c) a0.Coefs:=⟨_,k0,cE⟩;exact mD 3 1 0 rfl rfl rfl h4 (.inl k0) cE cx λp1 c1 cs h5=>uT (ah:=(hO Int (vS p1 l c1) cs::hB b1 [z0,vI 0]::hB b (cAff a0 p c)::hf)) rfl<|xC [hO Int (vS p1 l c1) cs] iR ⟨_,_,_,rfl,rfl,h5⟩
  ·rintro I1 hf ae _ _ ⟨p1,c1,cs,rfl,rfl,h5⟩;exact yW [60,62] rfl<|pQ 7 [(63,vA [vS p1 l c1,vI a0.Const])]<|xC [hO Int (vS p1 l c1) cs] iR ⟨_,_,_,rfl,rfl,h5⟩
  intro I1 hf ae;refine I_h []<|wT [z0,vI 0] ?_;intro b7 ni;exact xC [hB b7 [z0,vI 0]] iR ⟨_,rfl,rfl⟩
 rintro ij bZ _ _ ⟨bd,bj,aA,rfl,rfl,gu⟩ _ _ ⟨b7,rfl,rfl⟩;refine yW [2,3,6,8,9,10,11,12,13,63] rfl ?_;have ⟨h,H⟩:=m2 bZ h H;refine yZ 0 [vS bd l bj,vI a0.Const] rfl<|zW rfl<|zY<|yA ?_;refine wZ N [hB b7 [vS bd l bj,vI a0.Const],hO Int (vS bd l bj) aA,hB b1 [z0,vI 0],hB b (cAff a0 p c)] (λt75=>[(2,vI ir),(3,vP b 0),(6,vP b1 0),(8,vI d8),(9,vI y1),(10,vI y2),(11,vI star),(12,vI y3),(13,vP b7 0),(75,.bool t75)]) (λvf kf=>?_) ?_
 ·have H:=iS ij;refine zM<|zZ 3 [] [66] rfl<|xW [66] kf ?_ ?_
  ·intro iU N;refine zZ 7 [] [70] rfl<|xW [70] N ?_ ?_
   ·intro kq N;exact wP [] [(75,vY)]<|yP<|zQ (ct N H)
   intro kq N;exact yI [] [75] rfl<|yP<|zQ (ct N H)
  intro iU N;exact wP [] [(75,vF)]<|yP<|zQ (ct N H)
 intro t75 iE dt pg;have ⟨gu,h⟩:=m2 dt gu h;refine zK<|yC pg ?_ ?_
 ·intro lH N;refine yA<|bE N λx cV N=>vK [.p (vP b7 0) [],.p (vS bd l bj) [0],.p (vI y3) [],.p (vP b7 0) [],.p (vS bd l bj) [0],.p (vI y3) [],.x (λI' v hx=>∃ad,v=.pointer (some ad)/\hx=[]/\(AtO (vS bd l bj) (Rp.sz Int) y3.toNat ad)/\((aA.drop (y3.toNat*Rp.sz Int)).take (Rp.sz Int)=[vI x])),.q (vI x),.p (vI d8) [],.p (vI y1) [],.p (vI (W (d8*y1))) [],.p (vI (W (x+(W (d8*y1))))) []] [[],[(0,F9)],[],[],[(3,F9)],[],[(4,F9),(5,F9)],[(6,F9)],[],[],[(8,F9),(9,F9)],[(7,F9),(10,F9)]] [hB b7 [vS bd l bj,vI a0.Const],hO Int (vS bd l bj) aA,hB b1 [z0,vI 0],hB b (cAff a0 p c)] [] [(1,F9),(2,F9),(11,F9)] (zX [0,1,2,3]) ?_ ?_
  ·refine O4<|O2<|Ox ?_<|Oq ?_<|O4<|On
   ·intro I1 hf ae;refine yW [80,81] rfl ?_;have gu:=iM ae gu;refine kV 1 rfl rfl rfl gu cV ?_;intro ad bN av cQ al;obtain rfl:=al;exact xC [] iR ⟨_,rfl,rfl,av,cQ⟩
   rintro I1 hf ae _ _ ⟨ad,rfl,rfl,av,cQ⟩;exact yW [82] rfl<|zDK 1 0 av cQ [vI x] (vI x) rfl rfl<|yQ iR
  intro jx bS;refine yW [6,11,13,77,78,87] rfl ?_;have gu:=iM bS gu;obtain⟨x1,eo,N⟩:=zB N;refine kV 1 rfl rfl rfl gu eo ?_;intro cD gn aw mw ax;obtain rfl:=ax;obtain⟨l1,gi,N⟩:=zB N;refine jA (c:=[vI (W (x+(W (d8*y1))))]) (x':=(W (x+(W (d8*y1))))) 1 0 rfl rfl rfl aw rfl rfl mw (by kernel_rfl) (by kernel_rfl) (by kernel_rfl) gu eo (by kernel_rfl) rfl ?_;rw[show l.set y3.toNat (W (x+(W (d8*y1))))=l1 from zC gi];intro bv h6 cH;rw[vE cH];refine zW rfl<|yV<|qO 3 [0] [(89,vA [vS bd l1 bj,vI a0.Const]),(91,vI (W (star+1)))]<|yZ 2 [vS bd l1 bj,vI a0.Const] rfl<|yI [] [7] rfl<|xH<|zG<|xT 1 rfl ?_;intro eg cb cZ;have h7:=SL.of_frozen cZ cb h6;exact wD N (resE 1 rfl rfl rfl) zN ⟨_,_,rfl,rfl,⟨_,rfl,(yH ⟨_,rfl,h7⟩)⟩,rfl⟩
 intro lH N;refine zR<|zY<|yG [94] rfl<|zK<|yC N ?_ ?_
 ·intro l9 N;refine yB<|qO 1 [3] [(95,vA (cAff a0 p c))]<|yZ 2 (cAff a0 p c) rfl<|yI [] [7] rfl<|xH<|zG ?_;exact wD N (resE 2 rfl rfl rfl) zN ⟨_,_,rfl,rfl,⟨_,rfl,(yH ⟨_,rfl,h⟩)⟩,rfl⟩
 intro l9 N;refine zR<|yV<|zZ 7 [0] [101,102] rfl<|yZ 0 [vS bd l bj,vI (W (a0.Const+(W (d8*y1))))] rfl<|zW rfl<|yV<|qO 2 [0] [(103,vA [vS bd l bj,vI (W (a0.Const+(W (d8*y1))))]),(104,vI y2)]<|yZ 2 [vS bd l bj,vI (W (a0.Const+(W (d8*y1))))] rfl<|yI [] [7] rfl<|xH<|xT 1 rfl ?_;intro hJ cA cF;have h8:=SL.of_frozen cF cA gu;exact wD N (resE 1 rfl rfl rfl) zN ⟨_,_,rfl,rfl,⟨_,rfl,(yH ⟨_,rfl,h8⟩)⟩,rfl⟩
def pR(a0:zA):Option (Str):=do
 let y<-sA a0;if(!y) then pure (⟨[]⟩:Str)
 else
  let y1<-kK a0;pure (id y1)
theorem zDb:∀a0 r,pR a0=some r->∀{I:Imm}{p c},(S4 I p a0.Coefs c)->RT 194 [vA (cAff a0 p c)] I [] (xM  r):=by
 intro a0 r N I p c h;unfold pR at N;refine yK func194 λB=>yB<|sF (cAff a0 p c) ?_;intro b hb;refine wP [] []<|zY<|yB<|qO 1 [0] [(3,vA (cAff a0 p c))]<|bE N λy hy N=>uU (fD a0 _ hy h) ?_;intro I0 le;have h:=h.mono le;refine yI [] [5] rfl<|zK<|yC N ?_ ?_
 ·intro hc N;refine yG [2] rfl<|xH<|zG ?_;obtain rfl:=zC N;exact vG
 intro hc N;refine zR<|yV<|qO 1 [0] [(6,vA (cAff a0 p c))]<|bE N λy1 ay N=>xG (zBZ a0 _ ay h) ?_;rintro aT au v2 k2 ae - ⟨gx,rfl,rfl,rfl⟩ -;refine yI [] [2] rfl<|zK<|yX ?_;obtain rfl:=zC N;exact vG
def eY(r:zA×Bool):KT:=λkk I' ah v=>
 ∃v0 v1,ah=[]/\v=tupV [v0,v1]/\(∃cs,v0=.agg ⟨cs⟩/\Rp.rep I' cs r.1)/\v1=.bool r.2
def wH(aF:Str)(bm:Int)(x:zA):Option (zA):=do
 let wl<-(do
  if(decide (bm>=0)) then pure (decide (bm<(aF.l.length:Int)))
  else
   pure false
    : Option Bool)
 if wl then
  let (y2,y3)<-oH x aF bm;wH aF y3 y2
 else pure (id x)
 partial_fixpoint
theorem zCj(aF:Str):∀(bm:Int) (x:zA) (o:zA),wH aF bm x=some o->∀{B}{I0 I:Imm}{Q}  {b b1}{p1 c1},I0.le I->(S4 I p1 x.Coefs c1)->NG Q->NO Q->(∀I' x1 p2 c2,o=x1->I0.le I'->(S4 I' p2 x1.Coefs c2)->T 32 B Q (.exit 0) I' [hB b1 (cAff x1 p2 c2),hB b [z0,vI 0]] [(0,vT aF.l),(2,vP b 0),(4,vP b1 0)])->J Tryz.prog 32 B (nav (bodyOf f144) [1,1,1,1,0,0]) Q I [hB b1 (cAff x p1 c1),hB b [z0,vI 0]] [(0,vT aF.l),(2,vP b 0),(4,vP b1 0),(5,vI bm)]:=by
 refine wH.partial_correctness aF _ λaQ ih bm x o N B I0 I Q b b1 p1 c1 H h2 hg ho hx=>xD hg ho<|yA<|yA ?_;refine wZ N [hB b1 (cAff x p1 c1),hB b [z0,vI 0]] (λwl=>[(0,vT aF.l),(2,vP b 0),(4,vP b1 0),(5,vI bm),(18,.bool wl)]) (λo0 aC=>?_) ?_
 ·have H:=iS I;refine zM<|zZ 3 [] [13] rfl<|xW [13] aC ?_ ?_
  ·intro aI N;exact yI [] [18] rfl<|yP<|zQ (ct N H)
  intro aI N;exact wP [] [(18,vF)]<|yP<|zQ (ct N H)
 intro wl aY aJ aO;have ⟨h2,H⟩:=m2 aJ h2 H;refine zK<|yC aO ?_ ?_
 ·intro aU N;refine zR<|vC<|zM<|qO 3 [0] [(20,vA (cAff x p1 c1)),(21,vT aF.l),(22,vI bm)] ?_;obtain⟨⟨y2,y3⟩,ay,N⟩:=zB N;refine xG (zHT x aF bm _ ay h2) ?_;rintro bP au v2 k2 aL - ⟨v0,gx,rfl,rfl,⟨aA,rfl,h4⟩,rfl⟩ -;have H:=H.trans aL;obtain⟨p3,c3,rfl,h6⟩:=yF h4;exact zZ 7 [] [24,25] rfl<|yZ 0 (cAff y2 p3 c3) rfl<|yI [] [5] rfl<|zO<|xB<|jH<|ih y3 y2 _ N H h6 hg ho hx
 intro aU N;exact uR<|yP<|hx _ _ _ _ (zC N).symm H h2
def qS(aF:Str):Option (zA×Bool):=do
 let y<-nH;if(decide ((aF.l.length:Int)>40)) then pure ((zA.mk ([]:List Int) 0),F9)
 else
  let x1<-wH aF 0 (zA.mk y.Coefs y.Const);let y4<-pR x1;if(!(y4.l==aF.l)) then pure ((zA.mk ([]:List Int) 0),F9)
  else pure (x1,true)
theorem zBD:∀aF r,qS aF=some r->∀{I:Imm} ,RT 144 [vT aF.l] I [] (eY  r):=by
 intro aF r N I;unfold qS at N;refine yK func144 λB=>yB<|wT [z0,vI 0] ?_;intro b hb;refine wP [] []<|yV<|bE N λy hy N=>xG (fH  _ hy ) ?_;rintro I0 au v2 k2 le - ⟨p,c,cs,rfl,rfl,h⟩ -;refine wT [z0,vI 0] ?_;intro b1 cp;refine yZ 0 (cAff y p c) rfl<|zW rfl<|zY<|yG [9] rfl<|zK<|yC N ?_ ?_
 ·intro hc N;refine yB<|zZ 1 [] [10] rfl<|yZ 2 [z0,vI 0] rfl<|wP [] [(3,vF)]<|xH<|zG ?_;exact wD N (resE 2 rfl rfl rfl) zN ⟨_,_,rfl,rfl,⟨_,rfl,(yH ⟨_,rfl,(SL.nil _)⟩)⟩,rfl⟩
 intro hc N;refine zR<|uX [5] rfl<|zY<|yM<|oD 1 rfl ?_;intro aT ae cH;have h1:=SL.of_frozen cH ae h;refine mM [(0,vT aF.l),(2,vP b 0),(4,vP b1 0),(5,vI 0)] ?_;obtain⟨aS,aE,aM⟩:=zB N;refine zCj aF 0 (zA.mk y.Coefs y.Const) aS aE iR h1 nG nO ?_;intro cI x1 p2 c2 ca bb h3;subst aS;refine zT<|zY<|yB<|qO 1 [0] [(26,vA (cAff x1 p2 c2))] ?_;obtain⟨y4,aK,N⟩:=zB aM;refine xG (zDb x1 _ aK h3) ?_;rintro dw au v2 k2 bI - ⟨ng,rfl,rfl,rfl⟩ -;have h3:=h3.mono bI;refine yI [] [29] rfl<|zK<|yC N ?_ ?_
 ·intro bU N;refine yB<|zZ 1 [] [30] rfl<|yZ 1 [z0,vI 0] rfl<|wP [] [(3,vF)]<|xH<|zG ?_;exact wD N (resE 1 rfl rfl rfl) zN ⟨_,_,rfl,rfl,⟨_,rfl,(yH ⟨_,rfl,(SL.nil _)⟩)⟩,rfl⟩
 intro bU N;refine zR<|yV<|qO 1 [0] [(31,vA (cAff x1 p2 c2))]<|yZ 1 (cAff x1 p2 c2) rfl<|wP [] [(3,vY)]<|zK<|yX ?_;exact wD N (resE 1 rfl rfl rfl) zN ⟨_,_,rfl,rfl,⟨_,rfl,(yH ⟨_,rfl,h3⟩)⟩,rfl⟩
def zDM(r:(List zA)):KT:=λkk I' ah v=>
 ∃v0,ah=[]/\v=tupV [v0]/\SL I' v0 r
def uE(y:(List Str))(out:List zA)(i:Int):Option (List zA):=do
 let wl<-(do
  if(decide (i<(y.length:Int))) then pure (decide (i<=2))
  else
   pure false
    : Option Bool)
 if wl then
  let x<-idx y i;let (y2,y3)<-qS x;let aD<-app 32 out ([y2]:List zA);uE y aD (W (i+1))
 else pure (id out)
 partial_fixpoint
theorem zCk(y:(List Str)):∀(out:List zA) (i:Int) (o:List zA),uE y out i=some o->∀{B}{I0 I:Imm}{Q p c p1 c1 cs},I0.le I->(S4 I p y c)->(RL I cs out)->NG Q->NO Q->(∀I' aq p2 c2 aA,o=aq->I0.le I'->(RL I' aA aq)->T 34 B Q (.exit 0) I' [hO zA (vS p2 aq c2) aA] [(3,vS p2 aq c2)])->J Tryz.prog 34 B (nav (bodyOf f119) [1,1,1,0,1,0]) Q I [hO zA (vS p1 out c1) cs] [(3,vS p1 out c1),(4,vS p y c),(5,vI i)]:=by
 refine uE.partial_correctness y _ λaQ ih out i o N B I0 I Q p c p1 c1 cs H h1 h2 hg ho hx=>xD hg ho<|yA<|yA ?_;refine wZ N [hO zA (vS p1 out c1) cs] (λwl=>[(3,vS p1 out c1),(4,vS p y c),(5,vI i),(18,.bool wl)]) (λo0 aC=>?_) ?_
 ·have H:=iS I;refine zM<|zZ 5 [] [15] rfl<|xW [15] aC ?_ ?_
  ·intro hc N;exact yI [] [18] rfl<|yP<|zQ (ct N H)
  intro hc N;exact wP [] [(18,vF)]<|yP<|zQ (ct N H)
 intro wl aT ae aO;have ⟨h2,h1,H⟩:=m3 ae h2 h1 H;refine zK<|yC aO ?_ ?_
 ·intro aI N;refine zR<|zY<|yM<|yB<|zZ 2 [] [22,23] rfl<|bE N λx ay N=>wJ rfl rfl h1 ay ?_;intro ad aR av al;obtain rfl:=al;refine wC 0 av [vT x.l] (vT x.l) rfl ?_;obtain⟨⟨y2,y3⟩,aK,N⟩:=zB N;refine xG (zBD x _ aK ) ?_;rintro aY au v2 k2 aJ - ⟨gx,ig,rfl,rfl,⟨bv,rfl,h4⟩,rfl⟩ -;have ⟨h2,h1,H⟩:=m3 aJ h2 h1 H;obtain⟨p3,c3,rfl,h6⟩:=yF h4;refine zZ 8 [] [27,28] rfl<|wT [z0,vI 0] ?_;intro b1 cp;refine yZ 0 (cAff y2 p3 c3) rfl<|wP [] []<|zK<|zM<|qO 2 [0] [(29,vS p1 out c1),(30,vA (cAff y2 p3 c3))]<|qN (cAff y2 p3 c3) zA ?_;intro b2 fl;have h7:RL aY (cAff y2 p3 c3) ([y2]:List zA):=⟨(cAff y2 p3 c3),_,rfl,rfl,(yH ⟨_,rfl,h6⟩),rfl⟩;obtain⟨aD,bc,N⟩:=zB N;exact mD 50 2 2 rfl rfl rfl h2 (.inr ⟨0,rfl⟩) h7 bc λp4 c4 bf h8=>qM (zX [1,2] (ah:=[hB b1 (cAff y2 p3 c3),hO zA (vS p4 aD c4) bf]))<|yI [] [3] rfl<|zO<|zK<|zM<|yI [] [5] rfl<|xB<|kT (zV [1] rfl (by decide))<|jH<|ih aD (W (i+1)) _ N H h1 h8 hg ho hx
 intro aI N;exact uR<|yP<|hx _ _ _ _ _ (zC N).symm H h2
def rL(aF:Str):Option ((List zA)):=do
 let y<-kL aF (44:UInt8);let aq<-uE y ([]:List zA) 0;pure (id aq)
theorem dP:∀aF r,rL aF=some r->∀{I:Imm} ,RT 119 [vT aF.l] I [] (zDM  r):=by
 intro aF r N I;unfold rL at N;refine yK func119 λB=>vO []<|yV<|qN [] zA ?_;intro b hb;have h:RL I [] ([]:List zA):=rfl;refine yI [] [3] rfl<|yV<|zZ 1 [] [9] rfl<|bE N λy hy N=>xG (zB0 aF (44:UInt8) _ hy ) ?_;rintro I0 au v2 k2 le - ⟨v0,rfl,rfl,h1⟩ -;have h:=iM le h;obtain⟨p,c,rfl⟩:=h1.form;refine yI [] [4] rfl<|zY<|yG [5] rfl<|vC<|mM [(3,vS (some ⟨b,0,none⟩) ([]:List zA) 0),(4,vS p y c),(5,vI 0)] ?_;obtain⟨aS,aE,aM⟩:=zB N;refine zCk y ([]:List zA) 0 aS aE iR h1 h nG nO ?_;intro bP aq p2 c2 aA ca aL h3;subst aS;refine zT<|uX [2] rfl<|xH<|xT 0 rfl ?_;intro cI bb cH;have h9:=SL.of_frozen cH bb h3;exact wD aM (resT rfl) zN ⟨_,rfl,rfl,h9⟩
def rD(s:Str)(cY:UInt8)(i:Int):Option (Out Unit (Int)):=do
 if(decide (i<(s.l.length:Int))) then
  let b<-sidx s i;if((b.toNat:Int)==(cY.toNat:Int)) then pure (.ret i)
  else rD s cY (W (i+1))
 else pure (.done ())
 partial_fixpoint
theorem zEn(s:Str)(cY:UInt8):∀(i:Int) (o:Out Unit (Int)),rD s cY i=some o->∀{B}{I0 I:Imm}{Q}  ,I0.le I->NG Q->NO Q->(∀I',o=(.done ())->I0.le I'->T 21 B Q (.exit 0) I' [] [])->(∀r I' ah m',o=(.ret r)->I0.le I'->RS Tryz.prog f143 B (xI  r) I' ah m'->T 21 B Q .ret I' ah m')->J Tryz.prog 21 B (nav (bodyOf f143) [1,0,1,0]) Q I [] [(0,vT s.l),(2,.int .u8 (cY.toNat:Int)),(7,vI i)]:=by
 refine rD.partial_correctness s cY _ λaQ ih i o N B I0 I Q H hg ho hx hr=>xD hg ho<|yA<|yG [12] rfl<|zK<|yC N ?_ ?_
 ·intro hc N;refine zR<|zY<|yM<|yB<|zZ 2 [] [15,16] rfl<|bE N λb hy N=>zA3 rfl rfl hy<|yI [] [19] rfl<|zK<|yC N ?_ ?_
  ·intro aI N;exact yG [6] rfl<|xH<|zS<|zG<|zG<|hr _ _ _ _ (zC N).symm H ⟨_,_,(resT rfl),zN,⟨_,rfl,rfl,rfl⟩⟩
  intro aI N;exact zR<|zO<|zK<|zM<|yI [] [7] rfl<|xB<|jH<|ih (W (i+1)) _ N H  hg ho hx hr
 intro hc N;exact uR<|yP<|hx _  (zC N).symm H
def nP(s:Str)(bm:Int)(cY:UInt8):Option (Int):=do
 match<-rD s cY bm with
 | .ret r0=>pure r0
 | .done _=>
  pure (-1)
theorem zDI:∀s bm cY r,nP s bm cY=some r->∀{I:Imm} ,RT 143 [vT s.l,vI bm,.int .u8 (cY.toNat:Int)] I [] (xI  r):=by
 intro s bm cY r N I;unfold nP at N;refine yK func143 λB=>vO []<|zY<|yG [7] rfl<|vC<|mM [(0,vT s.l),(2,.int .u8 (cY.toNat:Int)),(7,vI bm)] ?_;obtain⟨o0,aC,aM⟩:=zB N;refine zEn s cY bm o0 aC iR  nG nO ?_ ?_
 ·intro I0  ec le;subst o0;refine zT<|uX [6] rfl<|zK<|yX ?_;obtain rfl:=zC aM;exact vG
 intro r0 I9 gm m9 aV bS aW;subst aV;refine zS<|zG ?_;obtain rfl:=zC aM;exact fO aW
def zCX(r:zJ×Int):KT:=λkk I' ah v=>
 ∃v0 v1,ah=[]/\v=tupV [v0,v1]/\(∃cs,v0=.agg ⟨cs⟩/\Rp.rep I' cs r.1)/\v1=.int .i64 r.2
def tM(s:Str)(bm:Int):Option (zJ×Int):=do
 let y<-nP s bm (93:UInt8);let t20<-(do
  if(decide (y<(W (bm+2)))) then pure true
  else
   let b1<-sidx s (W (bm+1));pure ((b1.toNat:Int) != 91)
    : Option Bool)
 if t20 then pure ((zJ.mk (⟨[]⟩:Str) ([]:List zA)),(-1))
 else
  let s1<-sslc s bm (W (bm+1));let s2<-sslc s (W (bm+2)) y;let y1<-rL s2;pure ((zJ.mk s1 y1),(W (y+1)))
theorem zA4:∀s bm r,tM s bm=some r->∀{I:Imm} ,RT 85 [vT s.l,vI bm] I [] (zCX  r):=by
 intro s bm r N I;unfold tM at N;refine yK func85 λB=>?_;have H:=iS I;refine yB<|wT [vT ([]),z0] ?_;intro b hb;refine wP [] []<|yV<|zZ 2 [] [7,8] rfl<|bE N λy hy N=>dU (zDI s bm (93:UInt8) _ hy ) ?_;intro I0 le;have H:=H.trans le;refine yI [] [6] rfl<|zY<|yA ?_;refine wZ N [hB b [vT ([]),z0]] (λt20=>[(0,vT s.l),(1,vI bm),(4,vP b 0),(6,vI y),(20,.bool t20)]) (λo0 aC=>?_) ?_
 ·have H:=iS I0;refine zM<|zZ 5 [] [14] rfl<|xW [14] aC ?_ ?_
  ·intro hc N;exact wP [] [(20,vY)]<|yP<|zQ (ct N H)
  intro hc N;exact zZ 8 [] [15,17] rfl<|bE N λb1 ay N=>zA3 rfl rfl ay<|yI [] [20] rfl<|yP<|zQ (ct N H)
 intro t20 aT ae aO;have H:=H.trans ae;refine zK<|yC aO ?_ ?_
 ·intro aI N;refine yB<|zZ 1 [] [21] rfl<|yZ 0 [vT ([]),z0] rfl<|yI [] [5] rfl<|xH<|zG ?_;exact wD N (resE 0 rfl rfl rfl) zN ⟨_,_,rfl,rfl,⟨_,rfl,(mS ⟨_,rfl,(SL.nil _)⟩)⟩,rfl⟩
 intro aI N;refine zR<|zK<|yA ?_;obtain⟨s1,aK,N⟩:=zB N;obtain⟨s2,bc,N⟩:=zB N;obtain⟨y1,bL,N⟩:=zB N;refine vK [.p (vT s.l) [],.p (vI bm) [],.p (vI bm) [],.p (vI (W (bm+1))) [],.q (vT s1.l),.p (vT s.l) [],.p (vI bm) [],.p (vI (W (bm+2))) [],.p (vI y) [],.q (vT s2.l),.x (eS y1),.x (λI' v hx=>∃p1 c1,v=vA [vT s1.l,vS p1 y1 c1]/\hx=[]/\(S4 I' p1 y1 c1)),.p (vI y) [],.p (vI (W (y+1))) [],.x (λI' v hx=>∃bd bj,hx=[hB b [vT s1.l,vS bd y1 bj]]/\(S4 I' bd y1 bj))] [[],[],[],[(2,F9)],[(0,F9),(1,F9),(3,F9)],[],[],[(6,F9)],[],[(5,F9),(7,F9),(8,F9)],[(9,F9)],[(4,F9),(10,F9)],[],[(12,F9)],[(11,F9),(16,true)]] [] [[hB b [vT ([]),z0]]] [(13,F9),(14,true)] (zX [0]) ?_ ?_
 ·refine O4<|Oq ?_<|O4<|Oq ?_<|Ox ?_<|Ox ?_<|O2<|Ox ?_<|On
  ·intro I1 hf ae;exact yW [22,23,25] rfl<|zB8 rfl aK<|yQ iR
  ·intro I1 hf ae;exact yW [27,29,30] rfl<|zB8 rfl bc<|yQ iR
  ·intro I1 hf ae;refine yW [31] rfl ?_;have H:=iS I1;refine xG (dP s2 _ bL ) ?_;rintro aY au v2 k2 aJ - ⟨gx,rfl,rfl,h1⟩ -;have H:=H.trans aJ;obtain⟨p,c,rfl⟩:=h1.form;exact xC [] H ⟨_,_,rfl,rfl,h1⟩
  ·rintro I1 hf ae _ _ ⟨rfl,rfl⟩ _ _ ⟨p,c,rfl,rfl,h1⟩;exact yW [26,32] rfl<|pQ 12 [(33,vA [vT s1.l,vS p y1 c])]<|xC [] iR ⟨_,_,rfl,rfl,h1⟩
  rintro I1 hf ae _ _ ⟨p1,c1,rfl,rfl,bB⟩ _ _ rfl;refine yW [4,33] rfl ?_;have H:=iS I1;exact zAF 0 [vT s1.l,vS p1 y1 c1] (hB b [vT s1.l,vS p1 y1 c1]::hf) rfl rfl rfl rfl<|zJc (hx:=[hB b [vT s1.l,vS p1 y1 c1]]) rfl H rfl (zNz (v:=undef)) ⟨_,_,rfl,bB⟩
 rintro bP aL _ _ ⟨rfl,rfl⟩ _ _ ⟨bd,bj,rfl,lE⟩;refine yW [4,35] rfl ?_;refine yI [] [5] rfl<|zK<|yX ?_;exact wD N (resE 0 rfl rfl rfl) zN ⟨_,_,rfl,rfl,⟨_,rfl,(mS ⟨_,rfl,lE⟩)⟩,rfl⟩
def zAU(r:zF×Int):KT:=λkk I' ah v=>
 ∃v0 v1,ah=[]/\v=tupV [v0,v1]/\(∃cs,v0=.agg ⟨cs⟩/\Rp.rep I' cs r.1)/\v1=.int .i64 r.2
mutual
def jR(s:Str)(bm:Int)(ak:Int):Option (zF×Int):=do
 let (y1,y2)<-uZ (same s) (same bm) (same ak);let iQ<-(do
  if(decide (y2<0)) then pure true
  else
   pure (decide (y2>=(s.l.length:Int)))
    : Option Bool)
 if iQ then pure ((zF.mk 0 0 (zA.mk ([]:List Int) 0) (zJ.mk (⟨[]⟩:Str) ([]:List zA)) ([]:List zF)),(-1))
 else
  let b2<-sidx s y2;let cv<-(do
   if((b2.toNat:Int)==45) then pure (id 5)
   else
    let qz<-(do
     if((b2.toNat:Int)==42) then pure (id 6)
     else
      pure (id 4)
       : Option Int)
    pure (id qz)
     : Option Int)
  let (y4,y5)<-uZ (same s) (W (y2+1)) (same ak);let t51<-(do
   if(decide (y5<0)) then pure true
   else
    pure (decide (y5>=(s.l.length:Int)))
     : Option Bool)
  if t51 then pure ((zF.mk 0 0 (zA.mk ([]:List Int) 0) (zJ.mk (⟨[]⟩:Str) ([]:List zA)) ([]:List zF)),(-1))
  else pure ((zF.mk cv 0 (zA.mk ([]:List Int) 0) (zJ.mk (⟨[]⟩:Str) ([]:List zA)) ([y1,y4]:List zF)),(W (y5+1)))
 partial_fixpoint
def uZ(s:Str)(bm:Int)(ak:Int):Option (zF×Int):=do
 let ex<-(do
  if(decide (ak<1)) then pure true
  else
   if(decide (bm<0)) then pure true
   else
    pure (decide (bm>=(s.l.length:Int)))
    : Option Bool)
 if ex then pure ((zF.mk 0 0 (zA.mk ([]:List Int) 0) (zJ.mk (⟨[]⟩:Str) ([]:List zA)) ([]:List zF)),(-1))
 else
  let b1<-sidx s bm;if((b1.toNat:Int)==123) then
   let y<-nP s bm (125:UInt8);if(decide (y<0)) then pure ((zF.mk 0 0 (zA.mk ([]:List Int) 0) (zJ.mk (⟨[]⟩:Str) ([]:List zA)) ([]:List zF)),(-1))
   else
    let s1<-sslc s (W (bm+1)) y;let (y2,y3)<-qS s1;pure ((zF.mk 2 0 y2 (zJ.mk (⟨[]⟩:Str) ([]:List zA)) ([]:List zF)),(W (y+1)))
  else
   let t52<-(do
    let b3<-sidx s bm;if(decide ((b3.toNat:Int)>=65)) then
     let b4<-sidx s bm;pure (decide ((b4.toNat:Int)<=68))
    else
     pure false
      : Option Bool)
   if t52 then
    let (y5,y6)<-tM s bm;pure ((zF.mk 3 0 (zA.mk ([]:List Int) 0) y5 ([]:List zF)),y6)
   else
    let b6<-sidx s bm;if((b6.toNat:Int)==40) then
     let (y8,y9)<-jR (same s) (W (bm+1)) (W (ak - 1));pure (y8,y9)
    else
     let (fm,ef)<-pA s bm;if(ef==bm) then pure ((zF.mk 0 0 (zA.mk ([]:List Int) 0) (zJ.mk (⟨[]⟩:Str) ([]:List zA)) ([]:List zF)),(-1))
     else pure ((zF.mk 1 fm (zA.mk ([]:List Int) 0) (zJ.mk (⟨[]⟩:Str) ([]:List zA)) ([]:List zF)),ef)
 partial_fixpoint
end
theorem zG4:(∀(s:Str) (bm:Int) (ak:Int) r,jR s bm ak=some r->∀{I:Imm} ,RT 145 [vT s.l,vI bm,vI ak] I [] (zAU  r))/\(∀(s:Str) (bm:Int) (ak:Int) r,uZ s bm ak=some r->∀{I:Imm} ,RT 86 [vT s.l,vI bm,vI ak] I [] (zAU  r)):=by
 refine jR.mutual_partial_correctness _ _ ?_ ?_
 ·intro sv gz s bm ak r N I;refine yK func145 λB=>?_;have H:=iS I;refine yB<|wT zExpr ?_;intro b hb;refine wP [] []<|yV<|zZ 3 [] [14,15,16] rfl ?_;obtain⟨⟨y1,y2⟩,hy,N⟩:=zB N;refine xG (gz s bm ak _ hy ) ?_;rintro I0 au v2 k2 le - ⟨v0,gx,rfl,rfl,⟨cs,rfl,h⟩,rfl⟩ -;have H:=H.trans le;obtain⟨p,c,p1,c1,p2,c2,rfl,h2,h3,h4⟩:=vJ h;refine zZ 7 [] [18,19] rfl<|wT zExpr ?_;intro b1 cp;refine yZ 0 (cExpr y1 p c p1 c1 p2 c2) rfl<|yI [] [9] rfl<|zY<|yA ?_;refine wZ N [hB b1 (cExpr y1 p c p1 c1 p2 c2),hB b zExpr] (λiQ=>[(0,vT s.l),(2,vI ak),(6,vP b 0),(8,vP b1 0),(9,vI y2),(27,.bool iQ)]) (λo0 aC=>?_) ?_
  ·have H:=iS I0;refine zM<|zZ 3 [] [22] rfl<|xW [22] aC ?_ ?_
   ·intro hc N;exact wP [] [(27,vY)]<|yP<|zQ (ct N H)
   intro hc N;exact yI [] [27] rfl<|yP<|zQ (ct N H)
  intro iQ aT ae aO;have ⟨h2,h3,h4,H⟩:=m4 ae h2 h3 h4 H;refine zK<|yC aO ?_ ?_
  ·intro aI N;refine yB<|zZ 1 [] [28] rfl<|zAF 1 zExpr [hB b1 (cExpr y1 p c p1 c1 p2 c2),hB b zExpr] rfl rfl rfl rfl<|yI [] [7] rfl<|xH<|zG ?_;exact wD N (resE 1 rfl rfl rfl) zN ⟨_,_,rfl,rfl,⟨_,rfl,(xS ⟨_,_,_,rfl,(SL.nil _),(SL.nil _),(SL.nil _)⟩)⟩,rfl⟩
  intro aI N;refine zR<|uX [10] rfl<|zY<|yB<|zZ 2 [] [29,30] rfl<|bE N λb2 ay N=>zA3 rfl rfl ay<|zW rfl<|vC<|yG [32] rfl<|zK ?_;refine wZ N [hB b1 (cExpr y1 p c p1 c1 p2 c2),hB b zExpr] (λcv=>[(0,vT s.l),(2,vI ak),(6,vP b 0),(8,vP b1 0),(9,vI y2),(10,vI cv)]) (λaS aE=>?_) ?_
  ·have H:=iS aT;refine yC aE ?_ ?_
   ·intro aU N;exact zM<|yI [] [10] rfl<|yP<|zQ (ct N H)
   intro aU N;refine yG [34] rfl<|zK ?_;refine wZ N [hB b1 (cExpr y1 p c p1 c1 p2 c2),hB b zExpr] (λqz=>[(0,vT s.l),(2,vI ak),(6,vP b 0),(8,vP b1 0),(9,vI y2),(10,vI qz)]) (λdd bh=>?_) ?_
   ·have H:=iS aT;refine yC bh ?_ ?_
    ·intro bU N;exact zM<|yI [] [10] rfl<|yP<|zQ (ct N H)
    intro bU N;exact zR<|yP<|zQ (ct N H)
   intro qz bP aJ d6;have H:=H.trans aJ;exact yP<|zQ (ct d6 H)
  intro cv aY aL bK;have ⟨h2,h3,h4,H⟩:=m4 aL h2 h3 h4 H;refine zO<|yV<|zZ 4 [] [37,39,40] rfl ?_;obtain⟨⟨y4,y5⟩,aK,N⟩:=zB bK;refine xG (gz s (W (y2+1)) ak _ aK ) ?_;rintro cI au v2 k2 bb - ⟨sk,q8,rfl,rfl,⟨aA,rfl,h5⟩,rfl⟩ -;have ⟨h2,h3,h4,H⟩:=m4 bb h2 h3 h4 H;obtain⟨p3,c3,p4,c4,p5,c5,rfl,h7,h8,h9⟩:=vJ h5;refine zZ 8 [] [42,43] rfl<|wT zExpr ?_;intro b3 fl;refine yZ 0 (cExpr y4 p3 c3 p4 c4 p5 c5) rfl<|yI [] [12] rfl<|zY<|yA ?_;refine wZ N [hB b3 (cExpr y4 p3 c3 p4 c4 p5 c5),hB b1 (cExpr y1 p c p1 c1 p2 c2),hB b zExpr] (λt51=>[(6,vP b 0),(8,vP b1 0),(10,vI cv),(11,vP b3 0),(12,vI y5),(51,.bool t51)]) (λfw cu=>?_) ?_
  ·have H:=iS cI;refine zM<|zZ 3 [] [46] rfl<|xW [46] cu ?_ ?_
   ·intro cO N;exact wP [] [(51,vY)]<|yP<|zQ (ct N H)
   intro cO N;exact yI [] [51] rfl<|yP<|zQ (ct N H)
  intro t51 dw bI ff;have ⟨h7,h8,h9,h2,h3,h4⟩:=m6 bI h7 h8 h9 h2 h3 h4;refine zK<|yC ff ?_ ?_
  ·intro ft N;refine yB<|zZ 1 [] [52] rfl<|zAF 2 zExpr [hB b3 (cExpr y4 p3 c3 p4 c4 p5 c5),hB b1 (cExpr y1 p c p1 c1 p2 c2),hB b zExpr] rfl rfl rfl rfl<|yI [] [7] rfl<|xH<|zG ?_;exact wD N (resE 2 rfl rfl rfl) zN ⟨_,_,rfl,rfl,⟨_,rfl,(xS ⟨_,_,_,rfl,(SL.nil _),(SL.nil _),(SL.nil _)⟩)⟩,rfl⟩
  intro ft N;refine zR<|yV<|qO 3 [1,0] [(53,vI cv),(54,vA (cExpr y1 p c p1 c1 p2 c2)),(55,vA (cExpr y4 p3 c3 p4 c4 p5 c5))]<|qN [vI y1.Kind,vI y1.Num,vS p y1.Index.Coefs c,vI y1.Index.Const,vT y1.Read.Array.l,vS p1 y1.Read.Subs c1,vS p2 y1.Kids c2,vI y4.Kind,vI y4.Num,vS p3 y4.Index.Coefs c3,vI y4.Index.Const,vT y4.Read.Array.l,vS p4 y4.Read.Subs c4,vS p5 y4.Kids c5] zF ?_;intro b4 ni;have bQ:RL dw [vI y1.Kind,vI y1.Num,vS p y1.Index.Coefs c,vI y1.Index.Const,vT y1.Read.Array.l,vS p1 y1.Read.Subs c1,vS p2 y1.Kids c2,vI y4.Kind,vI y4.Num,vS p3 y4.Index.Coefs c3,vI y4.Index.Const,vT y4.Read.Array.l,vS p4 y4.Read.Subs c4,vS p5 y4.Kids c5] ([y1,y4]:List zF):=⟨(cExpr y1 p c p1 c1 p2 c2),_,rfl,rfl,(xS ⟨_,_,_,rfl,h2,h3,h4⟩),⟨(cExpr y4 p3 c3 p4 c4 p5 c5),_,rfl,rfl,(xS ⟨_,_,_,rfl,h7,h8,h9⟩),rfl⟩⟩;refine zZ 7 [] [57,59] rfl<|yZ 3 [vI cv,vI 0,z0,vI 0,vT ([]),z0,vS (some ⟨b4,0,none⟩) ([y1,y4]:List zF) 2] rfl<|yI [] [7] rfl<|xH<|xT 0 rfl ?_;intro gk bJ cH;have bB:=SL.of_frozen cH bJ bQ;exact wD N (resE 2 rfl rfl rfl) zN ⟨_,_,rfl,rfl,⟨_,rfl,(xS ⟨_,_,_,rfl,(SL.nil _),(SL.nil _),bB⟩)⟩,rfl⟩
 intro sx lk s bm ak r N I;refine yK func86 λB=>?_;have H:=iS I;refine yB<|wT zExpr ?_;intro b hb;refine wP [] []<|zY<|yA ?_;refine wZ N [hB b zExpr] (λex=>[(0,vT s.l),(1,vI bm),(2,vI ak),(6,vP b 0),(26,.bool ex)]) (λo0 aC=>?_) ?_
 ·have H:=iS I;refine zM<|zZ 3 [] [17] rfl<|xW [17] aC ?_ ?_
  ·intro hc N;exact wP [] [(26,vY)]<|yP<|zQ (ct N H)
  intro hc N;refine zZ 7 [] [21] rfl<|xW [21] N ?_ ?_
  ·intro aI N;exact wP [] [(26,vY)]<|yP<|zQ (ct N H)
  intro aI N;exact yI [] [26] rfl<|yP<|zQ (ct N H)
 intro ex I0 le aO;have H:=H.trans le;refine zK<|yC aO ?_ ?_
 ·intro aU N;refine yB<|zZ 1 [] [27] rfl<|zAF 0 zExpr [hB b zExpr] rfl rfl rfl rfl<|yI [] [7] rfl<|xH<|zG ?_;exact wD N (resE 0 rfl rfl rfl) zN ⟨_,_,rfl,rfl,⟨_,rfl,(xS ⟨_,_,_,rfl,(SL.nil _),(SL.nil _),(SL.nil _)⟩)⟩,rfl⟩
 intro aU N;refine zR<|zY<|yM<|yB<|zZ 2 [] [29,30] rfl<|bE N λb1 hy N=>zA3 rfl rfl hy<|yI [] [28] rfl<|zK<|yC N ?_ ?_
 ·intro bU N;refine yB<|zZ 2 [] [33,34] rfl<|bE N λy ay N=>dU (zDI s bm (125:UInt8) _ ay ) λaT ae=>wP [] [(8,vI y)]<|zY<|vO [(37,.bool (decide (y<0)))]<|zK<|yC N ?_ ?_
  ·intro cO N;refine yB<|zZ 1 [] [38] rfl<|zAF 0 zExpr [hB b zExpr] rfl rfl rfl rfl<|yI [] [7] rfl<|xH<|zG<|zS<|zG ?_;exact wD N (resE 0 rfl rfl rfl) zN ⟨_,_,rfl,rfl,⟨_,rfl,(xS ⟨_,_,_,rfl,(SL.nil _),(SL.nil _),(SL.nil _)⟩)⟩,rfl⟩
  intro cO N;refine zR<|yV<|zZ 4 [] [40,42,43] rfl<|bE N λs1 aK N=>zB8 rfl aK ?_;obtain⟨⟨y2,y3⟩,bc,N⟩:=zB N;refine xG (zBD s1 _ bc ) ?_;rintro aY au v2 k2 aJ - ⟨gx,ig,rfl,rfl,⟨cs,rfl,h1⟩,rfl⟩ -;obtain⟨p,c,rfl,h3⟩:=yF h1;refine zZ 9 [] [46,47] rfl<|wT [z0,vI 0] ?_;intro b2 cp;refine yZ 0 (cAff y2 p c) rfl<|wP [] []<|yV<|qO 4 [0] [(49,vA [vI 2,vI 0,vS p y2.Coefs c,vI y2.Const,vT ([]),z0,z0]),(51,vI (W (y+1)))]<|yZ 1 [vI 2,vI 0,vS p y2.Coefs c,vI y2.Const,vT ([]),z0,z0] rfl<|yI [] [7] rfl<|xH<|zS<|zG ?_;exact wD N (resE 1 rfl rfl rfl) zN ⟨_,_,rfl,rfl,⟨_,rfl,(xS ⟨_,_,_,rfl,h3,(SL.nil _),(SL.nil _)⟩)⟩,rfl⟩
 intro bU N;refine yA ?_;refine wZ N [hB b zExpr] (λt52=>[(0,vT s.l),(1,vI bm),(2,vI ak),(6,vP b 0),(52,.bool t52)]) (λaS aE=>?_) ?_
 ·have H:=iS I0;refine zM<|zZ 2 [] [53,54] rfl ?_;obtain⟨b3,bL,N⟩:=zB aE;refine zA3 rfl rfl bL<|zZ 5 [] [57] rfl<|xW [57] N ?_ ?_
  ·intro ft N;exact zZ 7 [] [58,59] rfl<|bE N λb4 bX N=>zA3 rfl rfl bX<|yI [] [52] rfl<|yP<|zQ (ct N H)
  intro ft N;exact wP [] [(52,vF)]<|yP<|zQ (ct N H)
 intro t52 bP aL bK;refine zK<|yC bK ?_ ?_
 ·intro iU N;refine yB<|zZ 2 [] [64,65] rfl ?_;obtain⟨⟨y5,y6⟩,cx,N⟩:=zB N;refine xG (zA4 s bm _ cx ) ?_;rintro cI au v2 k2 bb - ⟨ee,sk,rfl,rfl,⟨aA,rfl,h4⟩,rfl⟩ -;obtain⟨p1,c1,rfl,h6⟩:=nJ h4;refine zZ 6 [] [67,68] rfl<|wT [vT ([]),z0] ?_;intro b5 fl;refine yZ 0 (cAccess y5 p1 c1) rfl<|yI [] [12] rfl<|yV<|qO 3 [0] [(70,vA [vI 3,vI 0,z0,vI 0,vT y5.Array.l,vS p1 y5.Subs c1,z0]),(71,vI y6)]<|yZ 1 [vI 3,vI 0,z0,vI 0,vT y5.Array.l,vS p1 y5.Subs c1,z0] rfl<|yI [] [7] rfl<|xH<|zS<|zG ?_;exact wD N (resE 1 rfl rfl rfl) zN ⟨_,_,rfl,rfl,⟨_,rfl,(xS ⟨_,_,_,rfl,(SL.nil _),h6,(SL.nil _)⟩)⟩,rfl⟩
 intro iU N;refine yB<|zZ 2 [] [73,74] rfl<|bE N λb6 cV N=>zA3 rfl rfl cV<|yI [] [72] rfl<|zK<|yC N ?_ ?_
 ·intro kq N;refine yB<|zZ 5 [] [77,79,81] rfl ?_;obtain⟨⟨y8,y9⟩,eo,N⟩:=zB N;refine xG (lk s (W (bm+1)) (W (ak - 1)) _ eo ) ?_;rintro dw au v2 k2 bI - ⟨v07,q9,rfl,rfl,⟨bv,rfl,h7⟩,rfl⟩ -;obtain⟨p2,c2,p3,c3,p4,c4,rfl,h9,bQ,bB⟩:=vJ h7;refine zZ 8 [] [83,84] rfl<|yZ 0 (cExpr y8 p2 c2 p3 c3 p4 c4) rfl<|yI [] [7] rfl<|xH<|zS<|zG ?_;exact wD N (resE 0 rfl rfl rfl) zN ⟨_,_,rfl,rfl,⟨_,rfl,(xS ⟨_,_,_,rfl,h9,bQ,bB⟩)⟩,rfl⟩
 intro kq N;refine zR<|zO<|yV<|zZ 2 [] [86,87] rfl ?_;obtain⟨⟨fm,ef⟩,gi,N⟩:=zB N;refine xG (zCW s bm _ gi ) ?_;rintro gk au v2 k2 bJ - ⟨sj,qe,rfl,rfl,rfl,rfl⟩ -;refine yI [] [13,14] rfl<|zY<|yG [93] rfl<|zK<|yC N ?_ ?_
 ·intro lH N;refine yB<|zZ 1 [] [94] rfl<|zAF 0 zExpr [hB b zExpr] rfl rfl rfl rfl<|yI [] [7] rfl<|xH<|zG ?_;exact wD N (resE 0 rfl rfl rfl) zN ⟨_,_,rfl,rfl,⟨_,rfl,(xS ⟨_,_,_,rfl,(SL.nil _),(SL.nil _),(SL.nil _)⟩)⟩,rfl⟩
 intro lH N;refine zR<|yV<|zZ 3 [] [96,97] rfl<|yZ 0 [vI 1,vI fm,z0,vI 0,vT ([]),z0,z0] rfl<|yI [] [7] rfl<|zK<|yX ?_;exact wD N (resE 0 rfl rfl rfl) zN ⟨_,_,rfl,rfl,⟨_,rfl,(xS ⟨_,_,_,rfl,(SL.nil _),(SL.nil _),(SL.nil _)⟩)⟩,rfl⟩
theorem zHU:∀s bm ak r,uZ s bm ak=some r->∀{I:Imm} ,RT 86 [vT s.l,vI bm,vI ak] I [] (zAU  r):=zG4.2
def zBE(r:zI×Bool):KT:=λkk I' ah v=>
 ∃v0 v1,ah=[]/\v=tupV [v0,v1]/\(∃cs,v0=.agg ⟨cs⟩/\Rp.rep I' cs r.1)/\v1=.bool r.2
def oX(aF:Str):Option (zI×Bool):=do
 if(decide ((aF.l.length:Int)<4)) then pure ((zI.mk (zJ.mk (⟨[]⟩:Str) ([]:List zA)) (zF.mk 0 0 (zA.mk ([]:List Int) 0) (zJ.mk (⟨[]⟩:Str) ([]:List zA)) ([]:List zF))),F9)
 else
  let (y1,y2)<-tM aF 0;let wo<-(do
   if(decide (y2<0)) then pure true
   else
    pure (decide (y2>=(aF.l.length:Int)))
     : Option Bool)
  if wo then pure ((zI.mk (zJ.mk (⟨[]⟩:Str) ([]:List zA)) (zF.mk 0 0 (zA.mk ([]:List Int) 0) (zJ.mk (⟨[]⟩:Str) ([]:List zA)) ([]:List zF))),F9)
  else
   let (y4,y5)<-uZ aF (W (y2+1)) 5;let y6<-nN (zI.mk y1 y4);if(!(y6.l==aF.l)) then pure ((zI.mk (zJ.mk (⟨[]⟩:Str) ([]:List zA)) (zF.mk 0 0 (zA.mk ([]:List Int) 0) (zJ.mk (⟨[]⟩:Str) ([]:List zA)) ([]:List zF))),F9)
   else pure ((zI.mk y1 y4),true)
theorem zBj:∀aF r,oX aF=some r->∀{I:Imm} ,RT 34 [vT aF.l] I [] (zBE  r):=by
 intro aF r N I;unfold oX at N;refine yK func34 λB=>?_;have H:=iS I;refine yB<|wT [vT ([]),z0,vI 0,vI 0,z0,vI 0,vT ([]),z0,z0] ?_;intro b hb;refine wP [] []<|zY<|yG [11] rfl<|zK<|yC N ?_ ?_
 ·intro hc N;refine yB<|zZ 1 [] [12] rfl<|yZ 0 [vT ([]),z0,vI 0,vI 0,z0,vI 0,vT ([]),z0,z0] rfl<|wP [] [(3,vF)]<|xH<|zG ?_;exact wD N (resE 0 rfl rfl rfl) zN ⟨_,_,rfl,rfl,⟨_,rfl,(wO ⟨_,_,_,_,rfl,(SL.nil _),(SL.nil _),(SL.nil _),(SL.nil _)⟩)⟩,rfl⟩
 intro hc N;refine zR<|yV<|zZ 1 [] [14] rfl ?_;obtain⟨⟨y1,y2⟩,hy,N⟩:=zB N;refine xG (zA4 aF 0 _ hy ) ?_;rintro I0 au v2 k2 le - ⟨v0,gx,rfl,rfl,⟨cs,rfl,h⟩,rfl⟩ -;have H:=H.trans le;obtain⟨p,c,rfl,h2⟩:=nJ h;refine zZ 5 [] [16,17] rfl<|wT [vT ([]),z0] ?_;intro b1 cp;refine yZ 0 (cAccess y1 p c) rfl<|yI [] [5] rfl<|zY<|yA ?_;refine wZ N [hB b1 (cAccess y1 p c),hB b [vT ([]),z0,vI 0,vI 0,z0,vI 0,vT ([]),z0,z0]] (λwo=>[(0,vT aF.l),(2,vP b 0),(4,vP b1 0),(5,vI y2),(25,.bool wo)]) (λo0 aC=>?_) ?_
 ·have H:=iS I0;refine zM<|zZ 3 [] [20] rfl<|xW [20] aC ?_ ?_
  ·intro aI N;exact wP [] [(25,vY)]<|yP<|zQ (ct N H)
  intro aI N;exact yI [] [25] rfl<|yP<|zQ (ct N H)
 intro wo aT ae aO;have h2:=h2.mono ae;refine zK<|yC aO ?_ ?_
 ·intro aU N;refine yB<|zZ 1 [] [26] rfl<|yZ 1 [vT ([]),z0,vI 0,vI 0,z0,vI 0,vT ([]),z0,z0] rfl<|wP [] [(3,vF)]<|xH<|zG ?_;exact wD N (resE 1 rfl rfl rfl) zN ⟨_,_,rfl,rfl,⟨_,rfl,(wO ⟨_,_,_,_,rfl,(SL.nil _),(SL.nil _),(SL.nil _),(SL.nil _)⟩)⟩,rfl⟩
 intro aU N;refine zR<|yV<|zZ 3 [] [28,30] rfl ?_;obtain⟨⟨y4,y5⟩,ay,N⟩:=zB N;refine xG (zHU aF (W (y2+1)) 5 _ ay ) ?_;rintro aY au v2 k2 aJ - ⟨ng,ee,rfl,rfl,⟨aA,rfl,h3⟩,rfl⟩ -;have h2:=h2.mono aJ;obtain⟨p1,c1,p2,c2,p3,c3,rfl,h5,h6,h7⟩:=vJ h3;refine zZ 7 [] [32,33] rfl<|wT zExpr ?_;intro b2 fl;refine yZ 0 (cExpr y4 p1 c1 p2 c2 p3 c3) rfl<|wP [] []<|yV<|qO 3 [1,0] [(36,vA [vT y1.Array.l,vS p y1.Subs c,vI y4.Kind,vI y4.Num,vS p1 y4.Index.Coefs c1,vI y4.Index.Const,vT y4.Read.Array.l,vS p2 y4.Read.Subs c2,vS p3 y4.Kids c3])]<|wT [vT ([]),z0,vI 0,vI 0,z0,vI 0,vT ([]),z0,z0] ?_;intro b3 ni;refine yZ 0 [vT y1.Array.l,vS p y1.Subs c,vI y4.Kind,vI y4.Num,vS p1 y4.Index.Coefs c1,vI y4.Index.Const,vT y4.Read.Array.l,vS p2 y4.Read.Subs c2,vS p3 y4.Kids c3] rfl<|zW rfl<|zY<|yB<|qO 1 [0] [(37,vA [vT y1.Array.l,vS p y1.Subs c,vI y4.Kind,vI y4.Num,vS p1 y4.Index.Coefs c1,vI y4.Index.Const,vT y4.Read.Array.l,vS p2 y4.Read.Subs c2,vS p3 y4.Kids c3])]<|bE N λy6 aK N=>xG (zEm (zI.mk y1 y4) _ aK h2 h5 h6 h7) ?_;rintro bP au v2 k2 aL - ⟨q9,rfl,rfl,rfl⟩ -;have ⟨h2,h5,h6,h7⟩:=m4 aL h2 h5 h6 h7;refine yI [] [40] rfl<|zK<|yC N ?_ ?_
 ·intro bU N;refine yB<|zZ 1 [] [41] rfl<|yZ 3 [vT ([]),z0,vI 0,vI 0,z0,vI 0,vT ([]),z0,z0] rfl<|wP [] [(3,vF)]<|xH<|zG ?_;exact wD N (resE 3 rfl rfl rfl) zN ⟨_,_,rfl,rfl,⟨_,rfl,(wO ⟨_,_,_,_,rfl,(SL.nil _),(SL.nil _),(SL.nil _),(SL.nil _)⟩)⟩,rfl⟩
 intro bU N;refine zR<|yV<|qO 1 [0] [(42,vA [vT y1.Array.l,vS p y1.Subs c,vI y4.Kind,vI y4.Num,vS p1 y4.Index.Coefs c1,vI y4.Index.Const,vT y4.Read.Array.l,vS p2 y4.Read.Subs c2,vS p3 y4.Kids c3])]<|yZ 3 [vT y1.Array.l,vS p y1.Subs c,vI y4.Kind,vI y4.Num,vS p1 y4.Index.Coefs c1,vI y4.Index.Const,vT y4.Read.Array.l,vS p2 y4.Read.Subs c2,vS p3 y4.Kids c3] rfl<|wP [] [(3,vY)]<|zK<|yX ?_;exact wD N (resE 3 rfl rfl rfl) zN ⟨_,_,rfl,rfl,⟨_,rfl,(wO ⟨_,_,_,_,rfl,h2,h5,h6,h7⟩)⟩,rfl⟩
def jG(v0:Int):Option (zA):=do
 let y<-nH;let x<-idx y.Coefs v0;let l<-pure (y.Coefs.set v0.toNat 1);pure (zA.mk l y.Const)
theorem dV:∀v0 r,jG v0=some r->∀{I:Imm} ,RT 172 [vI v0] I [] (fX  r):=by
 intro v0 r N I;unfold jG at N;refine yK func172 λB=>yB<|wT [z0,vI 0] ?_;intro b hb;refine zW rfl<|yV<|bE N λy hy N=>xG (fH  _ hy ) ?_;rintro I0 au v2 k2 le - ⟨p,c,cs,rfl,rfl,h⟩ -;refine wT [z0,vI 0] ?_;intro b1 cp;refine yZ 0 (cAff y p c) rfl<|zW rfl<|yV<|zZ 3 [0] [6,7] rfl<|bE N λx ay N=>kV 1 rfl rfl rfl h ay ?_;intro ad aR av cQ al;obtain rfl:=al;obtain⟨l,aK,N⟩:=zB N;refine zOJ 1 0 av cQ h ay aK rfl ?_;intro aA h1 cH;refine zBT (m':=[(2,vP b 0),(3,vP b1 0),(6,vS p y.Coefs c),(7,vI v0)]) ⟨rfl,rfl,rfl,rfl,trivial⟩<|zKE (ah:=[hB b1 [vS p l c,vI y.Const],hO Int (vS p l c) aA,hB b [z0,vI 0]]) (m':=[(2,vP b 0),(3,vP b1 0),(6,vS p l c),(7,vI v0)]) (by first|rfl|simp only[vS,cH,yy,ze,Be,AQ,AX,AY]) (by first|rfl|simp only[vS,cH])<|zW rfl<|yV<|qO 1 [0] [(9,vA [vS p l c,vI y.Const])]<|yZ 2 [vS p l c,vI y.Const] rfl<|zW rfl<|xH<|xT 1 rfl ?_;intro aT ae cZ;have h2:=SL.of_frozen cZ ae h1;exact wD N (resC 1 rfl rfl) zN ⟨_,rfl,rfl,⟨_,rfl,(yH ⟨_,rfl,h2⟩)⟩⟩
def uI(n0:Int):Option (zA):=do
 let y<-nH;pure (zA.mk y.Coefs n0)
theorem sN:∀n0 r,uI n0=some r->∀{I:Imm} ,RT 173 [vI n0] I [] (zAc  r):=by
 intro n0 r N I;unfold uI at N;refine yK func173 λB=>yB<|wT [z0,vI 0] ?_;intro b hb;refine zW rfl<|yV<|bE N λy hy N=>xG (fH  _ hy ) ?_;rintro I0 au v2 k2 le - ⟨p,c,cs,rfl,rfl,h⟩ -;refine wT [z0,vI 0] ?_;intro b1 cp;refine yZ 0 (cAff y p c) rfl<|zW rfl<|yV<|zZ 2 [] [5,6] rfl<|yZ 0 [vS p y.Coefs c,vI n0] rfl<|zW rfl<|yV<|qO 1 [0] [(7,vA [vS p y.Coefs c,vI n0])]<|yZ 2 [vS p y.Coefs c,vI n0] rfl<|zW rfl<|zK<|yX ?_;exact wD N (resC 2 rfl rfl) (zV [1] rfl (by decide)) ⟨_,_,_,rfl,rfl,h⟩
def pS(a0:zA)(x:Int)(b:zA)(y:Int)(i:Int)(Coefs:List Int):Option (List Int):=do
 if(decide (i<4)) then
  let x1<-idx a0.Coefs i;let x2<-idx b.Coefs i;let l<-app 8 Coefs ([(W ((W (x*x1))+(W (y*x2))))]:List Int);pS a0 x b y (W (i+1)) l
 else pure (id Coefs)
 partial_fixpoint
theorem zDc(a0:zA)(x:Int)(b:zA)(y:Int):∀(i:Int) (Coefs:List Int) (o:List Int),pS a0 x b y i Coefs=some o->∀{B}{I0 I:Imm}{Q p c p1 c1}{b1 b2 b3 b4}{p2 c2 cs},I0.le I->(S4 I p1 b.Coefs c1)->(S4 I p a0.Coefs c)->(RL I cs Coefs)->NG Q->NO Q->(∀I' aZ p3 c3 aA,o=aZ->I0.le I'->(RL I' aA aZ)->T 46 B Q (.exit 0) I' [hO Int (vS p3 aZ c3) aA,hB b4 [vS p3 aZ c3,vI (W ((W (x*a0.Const))+(W (y*b.Const))))],hB b3 [z0,vI 0]] [(8,vP b3 0),(9,vP b4 0)])->J Tryz.prog 46 B (nav (bodyOf f179) [1,1,0,1,0]) Q I [hO Int (vS p2 Coefs c2) cs,hB b4 [vS p2 Coefs c2,vI (W ((W (x*a0.Const))+(W (y*b.Const))))],hB b3 [z0,vI 0],hB b2 (cAff b p1 c1),hB b1 (cAff a0 p c)] [(1,vI x),(3,vI y),(4,vP b1 0),(6,vP b2 0),(8,vP b3 0),(9,vP b4 0),(10,vI i)]:=by
 refine pS.partial_correctness a0 x b y _ λaQ ih i Coefs o N B I0 I Q p c p1 c1 b1 b2 b3 b4 p2 c2 cs H h1 h h3 hg ho hx=>xD hg ho<|yA<|yG [22] rfl<|zK<|yC N ?_ ?_
 ·intro hc N;refine zR<|zY<|yM ?_;obtain⟨x1,hy,N⟩:=zB N;obtain⟨x2,ay,N⟩:=zB N;obtain⟨l,aK,N⟩:=zB N;refine vK [.p (vP b4 0) [],.p (vS p2 Coefs c2) [0],.p (vI x) [],.p (vP b1 0) [],.p (vS p a0.Coefs c) [3],.p (vI i) [],.x (λI' v hx=>∃ad,v=.pointer (some ad)/\hx=[]/\(At I' ad [vI x1])),.q (vI x1),.p (vI (W (x*x1))) [],.p (vI y) [],.p (vP b2 0) [],.p (vS p1 b.Coefs c1) [2],.p (vI i) [],.x (λI' v hx=>∃cD,v=.pointer (some cD)/\hx=[]/\(At I' cD [vI x2])),.q (vI x2),.p (vI (W (y*x2))) [],.p (vI (W ((W (x*x1))+(W (y*x2))))) [],.x (λI' v hx=>∃b5,v=vS (some ⟨b5,0,none⟩) ([(W ((W (x*x1))+(W (y*x2))))]:List Int) 1/\hx=[]/\(SL I' (vS (some ⟨b5,0,none⟩) ([(W ((W (x*x1))+(W (y*x2))))]:List Int) 1) ([(W ((W (x*x1))+(W (y*x2))))]:List Int))),.x (λI' v hx=>∃p4 c4 bv,v=vS p4 l c4/\hx=[hO Int (vS p4 l c4) bv]/\(RL I' bv l))] [[],[(0,F9)],[],[],[(3,F9)],[],[(4,F9),(5,F9)],[(6,F9)],[(2,F9),(7,F9)],[],[],[(10,F9)],[],[(11,F9),(12,F9)],[(13,F9)],[(9,F9),(14,F9)],[(8,F9),(15,F9)],[(16,F9)],[(1,F9),(17,F9),(21,true)]] [hB b4 [vS p2 Coefs c2,vI (W ((W (x*a0.Const))+(W (y*b.Const))))],hB b3 [z0,vI 0],hB b2 (cAff b p1 c1),hB b1 (cAff a0 p c)] [[hO Int (vS p2 Coefs c2) cs]] [(18,true)] (zX [1,2,3,4,0]) ?_ ?_
  ·refine O4<|O2<|Ox ?_<|Oq ?_<|O4<|Op<|Ox ?_<|Oq ?_<|O2<|Ox ?_<|Ox ?_<|On
   ·intro I1 hf ae;refine yW [29,30] rfl ?_;have h:=h.mono ae;refine wJ rfl rfl h hy ?_;intro ad aR av al;obtain rfl:=al;exact xC [] iR ⟨_,rfl,rfl,av⟩
   ·rintro I1 hf ae _ _ ⟨ad,rfl,rfl,av⟩;exact yW [31] rfl<|wC 0 av [vI x1] (vI x1) rfl<|yQ iR
   ·intro I1 hf ae;refine yW [36,37] rfl ?_;have h1:=h1.mono ae;refine wJ rfl rfl h1 ay ?_;intro cD bN aw ax;obtain rfl:=ax;exact xC [] iR ⟨_,rfl,rfl,aw⟩
   ·rintro I1 hf ae _ _ ⟨cD,rfl,rfl,aw⟩;exact yW [38] rfl<|wC 0 aw [vI x2] (vI x2) rfl<|yQ iR
   ·intro I1 hf ae;refine yW [41] rfl ?_;have H:=iS I1;refine jW (rI [(W ((W (x*x1))+(W (y*x2))))]) ?_;intro b5 I0 le h6;have H:=H.trans le;exact xC [] H ⟨_,rfl,rfl,h6⟩
   rintro I1 hf ae _ _ ⟨rfl,rfl⟩ _ _ ⟨b5,rfl,rfl,h6⟩ _ _ rfl;refine yW [26,42] rfl ?_;have h3:=iM ae h3;obtain⟨gn,k0,cE⟩:=h6;have h6:SL I1 (vS (some ⟨b5,0,none⟩) ([(W ((W (x*x1))+(W (y*x2))))]:List Int) 1) ([(W ((W (x*x1))+(W (y*x2))))]:List Int):=⟨_,k0,cE⟩;exact mD 3 1 0 rfl rfl rfl h3 (.inl k0) cE aK λp4 c4 bv h7=>uT (ah:=(hO Int (vS p4 l c4) bv::hB b4 [vS p2 Coefs c2,vI (W ((W (x*a0.Const))+(W (y*b.Const))))]::hB b3 [z0,vI 0]::hB b2 (cAff b p1 c1)::hB b1 (cAff a0 p c)::hf)) rfl<|xC [hO Int (vS p4 l c4) bv] iR ⟨_,_,_,rfl,rfl,h7⟩
  rintro aT ae _ _ ⟨p4,c4,bv,rfl,rfl,h7⟩;refine yW [1,3,4,6,8,9,10,43] rfl ?_;have ⟨h1,h,H⟩:=m3 ae h1 h H;exact zZ 20 [] [44] rfl<|yZ 1 [vS p4 l c4,vI (W ((W (x*a0.Const))+(W (y*b.Const))))] rfl<|zW rfl<|zO<|zK<|zM<|yI [] [10] rfl<|xB<|jH<|ih (W (i+1)) l _ N H h1 h h7 hg ho hx
 intro hc N;exact uR<|wI (zV [0,1,2] rfl (by decide))<|yP<|hx _ _ _ _ _ (zC N).symm H h3
def jN(a0:zA)(x:Int)(b:zA)(y:Int):Option (zA):=do
 let aZ<-pS a0 x b y 0 ([]:List Int);pure (zA.mk aZ (W ((W (x*a0.Const))+(W (y*b.Const)))))
theorem zBk:∀a0 x b y r,jN a0 x b y=some r->∀{I:Imm}{p c p1 c1},(S4 I p a0.Coefs c)->(S4 I p1 b.Coefs c1)->RT 179 [vA (cAff a0 p c),vI x,vA (cAff b p1 c1),vI y] I [] (fX  r):=by
 intro a0 x b y r N I p c p1 c1 h h1;unfold jN at N;refine yK func179 λB=>yB<|sF (cAff a0 p c) ?_;intro b1 hb;refine sF (cAff b p1 c1) ?_;intro b2 cp;refine wT [z0,vI 0] ?_;intro b3 fl;refine zW rfl<|yV<|qO 10 [2,1] [(20,vA [z0,vI (W ((W (x*a0.Const))+(W (y*b.Const))))])]<|wT [z0,vI 0] ?_;intro b4 ni;refine yZ 0 [z0,vI (W ((W (x*a0.Const))+(W (y*b.Const))))] rfl<|zW rfl<|zY<|yG [10] rfl<|vC<|mM [(1,vI x),(3,vI y),(4,vP b1 0),(6,vP b2 0),(8,vP b3 0),(9,vP b4 0),(10,vI 0)]<|zB9 Int λh2=>?_;obtain⟨o0,aC,aM⟩:=zB N;refine zDc a0 x b y 0 ([]:List Int) o0 aC iR h1 h h2 nG nO ?_;intro aY aZ p3 c3 aA ec aJ h4;subst o0;refine zT<|yV<|qO 1 [1] [(45,vA [vS p3 aZ c3,vI (W ((W (x*a0.Const))+(W (y*b.Const))))])]<|yZ 2 [vS p3 aZ c3,vI (W ((W (x*a0.Const))+(W (y*b.Const))))] rfl<|zW rfl<|xH<|xT 0 rfl ?_;intro bP aL cZ;have h8:=SL.of_frozen cZ aL h4;exact wD aM (resC 1 rfl rfl) zN ⟨_,rfl,rfl,⟨_,rfl,(yH ⟨_,rfl,h8⟩)⟩⟩
def zG5(b0:Nat)(r:zD×zP):KT:=λkk I' ah v=>
 ∃v0 k0,ah=[.blk b0 ⟨k0⟩]/\v=tupV [v0]/\(∃cs,v0=.agg ⟨cs⟩/\Rp.rep I' cs r.1)/\Rp.rep I' k0 r.2
def dW(r0:zP)(aa:Int):Option (zD×zP):=do
 let (y1,y2)<-xL r0 ([0,0,1,0,(-1)]:List Int);let y3<-uI y1;let (y5,y6)<-xL y2 ([3,4,2,3,1]:List Int);let y7<-uI y5;let (vj,x)<-(do
  if(decide (aa>0)) then
   let (y9,y10)<-xF y6 4;pure ((y9==0),y10)
  else
   pure (false,y6)
    : Option (Bool×zP))
 let (x1,x2,x3)<-(do
  if vj then
   let (ef,y13)<-xF x aa;let (je,ii)<-xF y13 2;let (x4,x5)<-(do
    if(je==0) then
     let lx<-jG ef;pure (lx,(zA.mk y7.Coefs y7.Const))
    else
     let jw<-jG ef;let fj<-uI 1;let jh<-jN jw 1 fj 1;pure ((zA.mk y3.Coefs y3.Const),jh)
      : Option (zA×zA))
   pure (x4,x5,ii)
  else
   pure ((zA.mk y3.Coefs y3.Const),(zA.mk y7.Coefs y7.Const),x)
    : Option (zA×zA×zP))
 let (nn,me)<-xF x3 12;let (Lo,Hi,x6)<-(do
  if(nn==0) then
   let (uv,fo)<-xL me ([3,2,4]:List Int);let ko<-uI uv;let l<-app 32 ([x2]:List zA) ([ko]:List zA);pure (([x1]:List zA),l,fo)
  else
   let (il,x7)<-(do
    if(nn==1) then
     let (y29,uw)<-xL me ([0,1]:List Int);let o7<-uI y29;let l1<-app 32 ([x1]:List zA) ([o7]:List zA);pure (l1,uw)
    else
     pure (([x1]:List zA),me)
      : Option (List zA×zP))
   pure (il,([x2]:List zA),x7)
    : Option (List zA×List zA×zP))
 pure ((zD.mk Lo Hi),x6)
theorem zII:∀r0 aa r,dW r0 aa=some r->∀{I:Imm}{ap}{p c},(S4 I p r0.b c)->RT 118 [vP ap 0,vI aa] I [hB ap (cRd r0 p c)] (zG5 ap r):=by
 intro r0 aa r N I ap p c h;unfold dW at N;refine yK func118 λB=>?_;have H:=iS I;refine yB<|wT zTwo ?_;intro b hb;refine zW rfl<|yV<|zZ 1 [] [9] rfl<|jW (rI [0,0,1,0,(-1)]) ?_;intro b1 I0 le h2;have ⟨h,H⟩:=m2 le h H;refine qM (zX [1,0] (ah:=[hB ap (cRd r0 p c),hB b zTwo])) ?_;obtain⟨⟨y1,y2⟩,hy,N⟩:=zB N;refine tU (wE r0 ([0,0,1,0,(-1)]:List Int) _ hy h h2) rfl ?_;rintro aT au v2 k2 ae - ⟨v0,kk,rfl,rfl,rfl,h4⟩ -;have H:=H.trans ae;obtain⟨p1,c1,rfl,h5⟩:=yD h4;obtain⟨y3,ay,N⟩:=zB N;refine xG (sN y1 _ ay ) ?_;rintro aY au v2 k2 aJ - ⟨p2,c2,cs,rfl,rfl,h6⟩ -;have ⟨h5,H⟩:=m2 aJ h5 H;refine wT [z0,vI 0] ?_;intro b2 fl;refine yZ 0 (cAff y3 p2 c2) rfl<|zW rfl<|yV<|zZ 1 [] [13] rfl<|jW (rI [3,4,2,3,1]) ?_;intro b3 bP aL h8;have ⟨h6,h5,H⟩:=m3 aL h6 h5 H;refine qM (zX [2,0,1,3] (ah:=[hB ap (cRd y2 p1 c1),hB b2 (cAff y3 p2 c2),hO Int (vS p2 y3.Coefs c2) cs,hB b zTwo])) ?_;obtain⟨⟨y5,y6⟩,aK,N⟩:=zB N;refine tU (wE y2 ([3,4,2,3,1]:List Int) _ aK h5 h8) rfl ?_;rintro cI au v2 k2 bb - ⟨ig,oe,rfl,rfl,rfl,bQ⟩ -;have ⟨h6,H⟩:=m2 bb h6 H;obtain⟨p3,c3,rfl,bB⟩:=yD bQ;obtain⟨y7,bc,N⟩:=zB N;refine xG (sN y5 _ bc ) ?_;rintro dw au v2 k2 bI - ⟨p4,c4,aA,rfl,rfl,bW⟩ -;have ⟨bB,h6,H⟩:=m3 bI bB h6 H;refine wT [z0,vI 0] ?_;intro b4 tr;refine yZ 0 (cAff y7 p4 c4) rfl<|zW rfl<|zY<|yA ?_;obtain⟨o0,aC,aO⟩:=zB N;refine rR (λI' ah m'=>∃(vj:Bool) (x:zP) (p5:Option Addr) (c5:Nat),o0=(vj,x)/\dw.le I'/\(S4 I' p5 x.b c5)/\ah=[hB b4 (cAff y7 p4 c4),hO Int (vS p4 y7.Coefs c4) aA,hB ap (cRd x p5 c5),hB b2 (cAff y3 p2 c2),hO Int (vS p2 y3.Coefs c2) cs,hB b zTwo]/\m'=[(0,vP ap 0),(1,vI aa),(4,vP b 0),(5,vP b2 0),(6,vP b4 0),(23,.bool vj)]) ?_ ?_
 ·have H:=iS dw;refine zM<|zZ 3 [] [19] rfl<|xW [19] aC ?_ ?_
  ·intro hc N;refine zZ 4 [] [20] rfl<|qM (zX [2,0,1,3,4,5] (ah:=[hB ap (cRd y6 p3 c3),hB b4 (cAff y7 p4 c4),hO Int (vS p4 y7.Coefs c4) aA,hB b2 (cAff y3 p2 c2),hO Int (vS p2 y3.Coefs c2) cs,hB b zTwo])) ?_;obtain⟨⟨y9,y10⟩,bL,N⟩:=zB N;refine tU (xX y6 4 _ bL bB) rfl ?_;rintro ij au v2 k2 bJ - ⟨ee,oy,rfl,rfl,rfl,co⟩ -;have H:=H.trans bJ;obtain⟨p6,c6,rfl,ck⟩:=yD co;exact yI [] [23] rfl<|wI (zV [1,2,0,3,4,5] rfl (by decide))<|yP<|zQ ⟨_,_,_,_,(zC N).symm,H,ck,rfl,rfl⟩
  intro hc N;exact wP [] [(23,vF)]<|yP<|zQ ⟨_,_,_,_,(zC N).symm,H,bB,rfl,rfl⟩
 rintro gk au m2 ⟨vj,x,p5,c5,ec,bZ,cy,rfl,rfl⟩;subst o0;have ⟨bW,h6,H⟩:=m3 bZ bW h6 H;refine zK<|oD 4 rfl ?_;intro iE dt cF;have cm:=SL.of_frozen cF dt h6;have ⟨bW,cy,H⟩:=m3 dt bW cy H;refine oD 1 rfl ?_;intro jx bS lg;have bY:=SL.of_frozen lg bS bW;have ⟨cy,cm,H⟩:=m3 bS cy cm H;obtain⟨aS,aE,bK⟩:=zB aO;refine rR (λI' ah m'=>∃(x1:zA) (x2:zA) (x3:zP) (p7:Option Addr) (c7:Nat) (p8:Option Addr) (c8:Nat) (p9:Option Addr) (c9:Nat),aS=(x1,x2,x3)/\jx.le I'/\(S4 I' p7 x1.Coefs c7)/\(S4 I' p8 x2.Coefs c8)/\(S4 I' p9 x3.b c9)/\ah=[hB b4 (cAff x2 p8 c8),hB ap (cRd x3 p9 c9),hB b2 (cAff x1 p7 c7),hB b zTwo]/\m'=[(0,vP ap 0),(4,vP b 0),(5,vP b2 0),(6,vP b4 0)]) ?_ ?_
 ·have H:=iS jx;refine yC aE ?_ ?_
  ·intro aI N;refine yB<|zZ 2 [] [24,25] rfl<|qM (zX [1,0,2,3] (ah:=[hB ap (cRd x p5 c5),hB b4 (cAff y7 p4 c4),hB b2 (cAff y3 p2 c2),hB b zTwo])) ?_;obtain⟨⟨ef,y13⟩,bX,N⟩:=zB N;refine tU (xX x aa _ bX cy) rfl ?_;rintro hJ au v2 k2 cb - ⟨q8,kk3,rfl,rfl,rfl,jg⟩ -;have ⟨bY,cm,H⟩:=m3 cb bY cm H;obtain⟨bH,bG,rfl,iu⟩:=yD jg;refine yI [] [7] rfl<|yV<|zZ 1 [] [27] rfl ?_;obtain⟨⟨je,ii⟩,cx,N⟩:=zB N;refine tU (xX y13 2 _ cx iu) rfl ?_;rintro fq au v2 k2 cA - ⟨q9,kk4,rfl,rfl,rfl,hZ⟩ -;have ⟨bY,cm,H⟩:=m3 cA bY cm H;obtain⟨bd,bj,rfl,iH⟩:=yD hZ;refine yI [] [29] rfl<|zK ?_;obtain⟨dd,bh,d6⟩:=zB N;refine rR (λI' ah m'=>∃(x4:zA) (x5:zA) (ce:Option Addr) (bx:Nat) (br:Option Addr) (bM:Nat),dd=(x4,x5)/\fq.le I'/\(S4 I' ce x4.Coefs bx)/\(S4 I' br x5.Coefs bM)/\ah=[hB ap (cRd ii bd bj),hB b4 (cAff x5 br bM),hB b2 (cAff x4 ce bx),hB b zTwo]/\m'=[(0,vP ap 0),(4,vP b 0),(5,vP b2 0),(6,vP b4 0)]) ?_ ?_
   ·have H:=iS fq;refine yC bh ?_ ?_
    ·intro aU N;refine zM<|zZ 1 [] [30] rfl<|bE N λlx cV N=>xG (dV ef _ cV ) ?_;rintro mm au v2 k2 d7 - ⟨ut,rfl,rfl,⟨bv,rfl,jn⟩⟩ -;have ⟨bY,H⟩:=m2 d7 bY H;obtain⟨de,cW,rfl,gt⟩:=yF jn;exact yZ 2 (cAff lx de cW) rfl<|zW rfl<|yP<|zQ ⟨_,_,_,_,_,_,(zC N).symm,H,gt,bY,rfl,rfl⟩
    intro aU N;refine zM<|zZ 1 [] [32] rfl<|bE N λjw eo N=>xG (dV ef _ eo ) ?_;rintro kv au v2 k2 fu - ⟨sj,rfl,rfl,⟨bf,rfl,k8⟩⟩ -;have ⟨cm,H⟩:=m2 fu cm H;obtain⟨du,im,rfl,iT⟩:=yF k8;obtain⟨fj,gi,N⟩:=zB N;refine xG (sN 1 _ gi ) ?_;rintro lZ au v2 k2 ib - ⟨iP,fb,cC,rfl,rfl,mh⟩ -;have ⟨iT,cm,H⟩:=m3 ib iT cm H;refine wG 0 rfl ?_;intro mn ic po;have lT:=SL.of_frozen po ic mh;have ⟨iT,cm,H⟩:=m3 ic iT cm H;obtain⟨jh,cU,N⟩:=zB N;refine xG (zBk jw 1 fj 1 _ cU iT lT) ?_;rintro mq au v2 k2 gw - ⟨om,rfl,rfl,⟨cP,rfl,sn⟩⟩ -;have ⟨cm,H⟩:=m2 gw cm H;obtain⟨ey,ep,rfl,ov⟩:=yF sn;exact yZ 1 (cAff jh ey ep) rfl<|zW rfl<|yP<|zQ ⟨_,_,_,_,_,_,(zC N).symm,H,cm,ov,rfl,rfl⟩
   rintro ku au m2 ⟨x4,x5,ce,bx,br,bM,ca,iC,fk,j4,rfl,rfl⟩;subst dd;have ⟨iH,H⟩:=m2 iC iH H;exact wI (zV [1,0,2,3] rfl (by decide))<|yP<|zQ ⟨_,_,_,_,_,_,_,_,_,(zC d6).symm,H,fk,j4,iH,rfl,rfl⟩
  intro aI N;exact zR<|yP<|zQ ⟨_,_,_,_,_,_,_,_,_,(zC N).symm,H,cm,bY,cy,rfl,rfl⟩
 rintro eg au m2 ⟨x1,x2,x3,p7,c7,p8,c8,p9,c9,jo,iO,d9,dm,jz,rfl,rfl⟩;subst aS;have H:=H.trans iO;refine yV<|qO 1 [2] [(36,vA (cAff x1 p7 c7))]<|qN (cAff x1 p7 c7) zA ?_;intro b5 hb5;have gc:RL eg (cAff x1 p7 c7) ([x1]:List zA):=⟨(cAff x1 p7 c7),_,rfl,rfl,(yH ⟨_,rfl,d9⟩),rfl⟩;refine qO 3 [1] [(38,vA (cAff x2 p8 c8))]<|qN (cAff x2 p8 c8) zA ?_;intro b6 hb6;have j9:RL eg (cAff x2 p8 c8) ([x2]:List zA):=⟨(cAff x2 p8 c8),_,rfl,rfl,(yH ⟨_,rfl,dm⟩),rfl⟩;refine zZ 5 [] [40] rfl<|wT zTwo ?_;intro b7 hb7;refine yZ 0 [vS (some ⟨b5,0,none⟩) ([x1]:List zA) 1,vS (some ⟨b6,0,none⟩) ([x2]:List zA) 1] rfl<|zW rfl<|zY<|yB<|zZ 1 [] [41] rfl<|qM (zX [4,0,1,2,3,5,6] (ah:=[hB ap (cRd x3 p9 c9),hB b7 [vS (some ⟨b5,0,none⟩) ([x1]:List zA) 1,vS (some ⟨b6,0,none⟩) ([x2]:List zA) 1],hO zA (vS (some ⟨b6,0,none⟩) ([x2]:List zA) 1) (cAff x2 p8 c8),hO zA (vS (some ⟨b5,0,none⟩) ([x1]:List zA) 1) (cAff x1 p7 c7),hB b4 (cAff x2 p8 c8),hB b2 (cAff x1 p7 c7),hB b zTwo])) ?_;obtain⟨⟨nn,me⟩,dr,N⟩:=zB bK;refine tU (xX x3 12 _ dr jz) rfl ?_;rintro o8 au v2 k2 jc - ⟨v016,kk5,rfl,rfl,rfl,ka⟩ -;have ⟨gc,j9,H⟩:=m3 jc gc j9 H;obtain⟨cL,da,rfl,lU⟩:=yD ka;refine zW rfl<|vC<|yG [43] rfl<|zK<|oD 4 rfl ?_;intro tb mc pp;have av:At tb ⟨b4,0,none⟩ (cAff x2 p8 c8):=At.of_blk pp;have ⟨lU,gc,j9,H⟩:=m4 mc lU gc j9 H;refine oD 4 rfl ?_;intro rf le21 pq;have aw:At rf ⟨b2,0,none⟩ (cAff x1 p7 c7):=At.of_blk pq;have ⟨lU,gc,j9,H⟩:=m4 le21 lU gc j9 H;obtain⟨fw,cu,ff⟩:=zB N;refine rR (λI' ah m'=>∃(Lo:List zA) (Hi:List zA) (x6:zP) (dv:Option Addr) (ej:Nat) (gb:List Value) (eu:Option Addr) (c20:Nat) (d5:List Value) (ga:Option Addr) (c21:Nat),fw=(Lo,Hi,x6)/\rf.le I'/\(RL I' gb Lo)/\(RL I' d5 Hi)/\(S4 I' ga x6.b c21)/\ah=[hB ap (cRd x6 ga c21),hB b7 [vS dv Lo ej,vS eu Hi c20],hO zA (vS eu Hi c20) d5,hO zA (vS dv Lo ej) gb,hB b zTwo]/\m'=[(4,vP b 0),(8,vP b7 0)]) ?_ ?_
 ·have H:=iS rf;refine yC cu ?_ ?_
  ·intro bU N;obtain⟨⟨uv,fo⟩,en,N⟩:=zB N;obtain⟨ko,iA,N⟩:=zB N;obtain⟨l,jt,N⟩:=zB N;refine vK [.p (vP b7 1) [],.p (vS (some ⟨b6,0,none⟩) ([x2]:List zA) 1) [0],.p (vP ap 0) [],.x (λI' v hx=>∃b8,v=vS (some ⟨b8,0,none⟩) ([3,2,4]:List Int) 3/\hx=[]/\(SL I' (vS (some ⟨b8,0,none⟩) ([3,2,4]:List Int) 3) ([3,2,4]:List Int))),.x (λI' v hx=>∃md mr,v=vI uv/\hx=[hB ap (cRd fo md mr)]/\(S4 I' md fo.b mr)),.x (λI' v hx=>∃mj lz iG,v=vA (cAff ko mj lz)/\hx=[hO Int (vS mj ko.Coefs lz) iG]/\(RL I' iG ko.Coefs)),.x (λI' v hx=>∃b9,v=vS (some ⟨b9,0,none⟩) ([ko]:List zA) 1/\hx=[]/\(SL I' (vS (some ⟨b9,0,none⟩) ([ko]:List zA) 1) ([ko]:List zA))),.x (λI' v hx=>∃lq lu fe,v=vS lq l lu/\hx=[hO zA (vS lq l lu) fe]/\(RL I' fe l))] [[],[(0,F9)],[],[],[(2,F9),(3,F9),(10,true)],[(4,F9)],[(5,true)],[(1,F9),(6,F9),(11,true)]] [hB b7 [vS (some ⟨b5,0,none⟩) ([x1]:List zA) 1,vS (some ⟨b6,0,none⟩) ([x2]:List zA) 1],hO zA (vS (some ⟨b5,0,none⟩) ([x1]:List zA) 1) (cAff x1 p7 c7),hB b zTwo] [[hB ap (cRd me cL da)],[hO zA (vS (some ⟨b6,0,none⟩) ([x2]:List zA) 1) (cAff x2 p8 c8)]] [(4,true),(7,true)] (zX [1,3,4,0,2]) ?_ ?_
   ·refine O3<|Ox ?_<|Ox ?_<|Ox ?_<|Ox ?_<|Ox ?_<|On
    ·intro I1 hf ae;refine I_h [] ?_;have H:=iS I1;refine jW (rI [3,2,4]) ?_;intro b8 I023 le22 pd;have H:=H.trans le22;exact xC [] H ⟨_,rfl,rfl,pd⟩
    ·rintro I1 hf ae _ _ ⟨rfl,rfl⟩ _ _ ⟨b8,rfl,rfl,pd⟩ _ _ rfl;refine yW [47,48] rfl ?_;have H:=iS I1;have lU:=lU.mono ae;refine tU (wE me ([3,2,4]:List Int) _ en lU pd) rfl ?_;rintro rg au v2 k2 le23 - ⟨v018,kk6,rfl,rfl,rfl,w7⟩ -;have H:=H.trans le23;obtain⟨md,mr,rfl,tp⟩:=yD w7;exact xC [hB ap (cRd fo md mr)] H ⟨_,_,rfl,rfl,tp⟩
    ·rintro I1 hf ae _ _ ⟨md,mr,rfl,rfl,tp⟩;refine yW [49] rfl ?_;have H:=iS I1;refine xG (sN uv _ iA ) ?_;rintro I025 au v2 k2 le24 - ⟨mj,lz,iG,rfl,rfl,gu⟩ -;have H:=H.trans le24;exact xC [hO Int (vS mj ko.Coefs lz) iG] H ⟨_,_,_,rfl,rfl,gu⟩
    ·rintro I1 hf ae _ _ ⟨mj,lz,iG,rfl,rfl,gu⟩;refine yW [50] rfl ?_;have H:=iS I1;refine wG 0 rfl ?_;intro I026 wf vt;have w8:=SL.of_frozen vt wf gu;have H:=H.trans wf;refine jW (rc ko (yH ⟨_,rfl,w8⟩) rN) ?_;intro b9 I027 le26 w9;have H:=H.trans le26;exact xC [] H ⟨_,rfl,rfl,w9⟩
    rintro I1 hf ae _ _ ⟨rfl,rfl⟩ _ _ ⟨b9,rfl,rfl,w9⟩ _ _ rfl;refine yW [46,51] rfl ?_;have j9:=iM ae j9;obtain⟨aR,k0,cE⟩:=w9;have w9:SL I1 (vS (some ⟨b9,0,none⟩) ([ko]:List zA) 1) ([ko]:List zA):=⟨_,k0,cE⟩;exact mD 50 2 0 rfl rfl rfl j9 (.inl k0) cE jt λlq lu fe h55=>uT (ah:=(hO zA (vS lq l lu) fe::hB b7 [vS (some ⟨b5,0,none⟩) ([x1]:List zA) 1,vS (some ⟨b6,0,none⟩) ([x2]:List zA) 1]::hO zA (vS (some ⟨b5,0,none⟩) ([x1]:List zA) 1) (cAff x1 p7 c7)::hB b zTwo::hf)) rfl<|xC [hO zA (vS lq l lu) fe] iR ⟨_,_,_,rfl,rfl,h55⟩
   rintro I028 le27 _ _ ⟨md,mr,rfl,rfl,tp⟩ _ _ ⟨lq,lu,fe,rfl,rfl,h55⟩;refine yW [4,8,52] rfl ?_;have ⟨gc,H⟩:=m2 le27 gc H;exact zZ 9 [] [53] rfl<|yZ 2 [vS (some ⟨b5,0,none⟩) ([x1]:List zA) 1,vS lq l lu] rfl<|zW rfl<|wI (zV [1,2,0,3,4] rfl (by decide))<|yP<|zQ ⟨_,_,_,_,_,_,_,_,_,_,_,(zC N).symm,H,gc,h55,tp,rfl,rfl⟩
  intro bU N;refine yG [54] rfl<|zK ?_;obtain⟨lN,gv,ia⟩:=zB N;refine rR (λI' ah m'=>∃(il:List zA) (x7:zP) (oz:Option Addr) (ot:Nat) (fc:List Value) (lO:Option Addr) (kw:Nat),lN=(il,x7)/\rf.le I'/\(RL I' fc il)/\(S4 I' lO x7.b kw)/\ah=[hB ap (cRd x7 lO kw),hB b7 [vS oz il ot,vS (some ⟨b6,0,none⟩) ([x2]:List zA) 1],hO zA (vS (some ⟨b6,0,none⟩) ([x2]:List zA) 1) (cAff x2 p8 c8),hO zA (vS oz il ot) fc,hB b zTwo]/\m'=[(4,vP b 0),(8,vP b7 0)]) ?_ ?_
  ·have H:=iS rf;refine yC gv ?_ ?_
   ·intro cO N;obtain⟨⟨y29,uw⟩,lK,N⟩:=zB N;obtain⟨o7,qa,N⟩:=zB N;obtain⟨l1,r9,N⟩:=zB N;refine vK [.p (vP b7 0) [],.p (vS (some ⟨b5,0,none⟩) ([x1]:List zA) 1) [0],.p (vP ap 0) [],.x (λI' v hx=>∃b10,v=vS (some ⟨b10,0,none⟩) ([0,1]:List Int) 2/\hx=[]/\(SL I' (vS (some ⟨b10,0,none⟩) ([0,1]:List Int) 2) ([0,1]:List Int))),.x (λI' v hx=>∃km jy,v=vI y29/\hx=[hB ap (cRd uw km jy)]/\(S4 I' km uw.b jy)),.x (λI' v hx=>∃lw lB dl,v=vA (cAff o7 lw lB)/\hx=[hO Int (vS lw o7.Coefs lB) dl]/\(RL I' dl o7.Coefs)),.x (λI' v hx=>∃b11,v=vS (some ⟨b11,0,none⟩) ([o7]:List zA) 1/\hx=[]/\(SL I' (vS (some ⟨b11,0,none⟩) ([o7]:List zA) 1) ([o7]:List zA))),.x (λI' v hx=>∃lr l6 ky,v=vS lr l1 l6/\hx=[hO zA (vS lr l1 l6) ky]/\(RL I' ky l1))] [[],[(0,F9)],[],[],[(2,F9),(3,F9),(10,true)],[(4,F9)],[(5,true)],[(1,F9),(6,F9),(11,true)]] [hB b7 [vS (some ⟨b5,0,none⟩) ([x1]:List zA) 1,vS (some ⟨b6,0,none⟩) ([x2]:List zA) 1],hO zA (vS (some ⟨b6,0,none⟩) ([x2]:List zA) 1) (cAff x2 p8 c8),hB b zTwo] [[hB ap (cRd me cL da)],[hO zA (vS (some ⟨b5,0,none⟩) ([x1]:List zA) 1) (cAff x1 p7 c7)]] [(4,true),(7,true)] (zX [1,2,4,0,3]) ?_ ?_
    ·refine O3<|Ox ?_<|Ox ?_<|Ox ?_<|Ox ?_<|Ox ?_<|On
     ·intro I1 hf ae;refine I_h [] ?_;have H:=iS I1;refine jW (rI [0,1]) ?_;intro b10 I030 wg h59;have H:=H.trans wg;exact xC [] H ⟨_,rfl,rfl,h59⟩
     ·rintro I1 hf ae _ _ ⟨rfl,rfl⟩ _ _ ⟨b10,rfl,rfl,h59⟩ _ _ rfl;refine yW [58,59] rfl ?_;have H:=iS I1;have lU:=lU.mono ae;refine tU (wE me ([0,1]:List Int) _ lK lU h59) rfl ?_;rintro I031 au v2 k2 wh - ⟨v020,kk7,rfl,rfl,rfl,uz⟩ -;have H:=H.trans wh;obtain⟨km,jy,rfl,h62⟩:=yD uz;exact xC [hB ap (cRd uw km jy)] H ⟨_,_,rfl,rfl,h62⟩
     ·rintro I1 hf ae _ _ ⟨km,jy,rfl,rfl,h62⟩;refine yW [60] rfl ?_;have H:=iS I1;refine xG (sN y29 _ qa ) ?_;rintro I032 au v2 k2 le30 - ⟨lw,lB,dl,rfl,rfl,u2⟩ -;have H:=H.trans le30;exact xC [hO Int (vS lw o7.Coefs lB) dl] H ⟨_,_,_,rfl,rfl,u2⟩
     ·rintro I1 hf ae _ _ ⟨lw,lB,dl,rfl,rfl,u2⟩;refine yW [61] rfl ?_;have H:=iS I1;refine wG 0 rfl ?_;intro I033 le31 ub;have h64:=SL.of_frozen ub le31 u2;have H:=H.trans le31;refine jW (rc o7 (yH ⟨_,rfl,h64⟩) rN) ?_;intro b11 I034 le32 h66;have H:=H.trans le32;exact xC [] H ⟨_,rfl,rfl,h66⟩
     rintro I1 hf ae _ _ ⟨rfl,rfl⟩ _ _ ⟨b11,rfl,rfl,h66⟩ _ _ rfl;refine yW [57,62] rfl ?_;have gc:=iM ae gc;obtain⟨bN,ui,qc⟩:=h66;have h66:SL I1 (vS (some ⟨b11,0,none⟩) ([o7]:List zA) 1) ([o7]:List zA):=⟨_,ui,qc⟩;exact mD 50 2 0 rfl rfl rfl gc (.inl ui) qc r9 λlr l6 ky h67=>uT (ah:=(hO zA (vS lr l1 l6) ky::hB b7 [vS (some ⟨b5,0,none⟩) ([x1]:List zA) 1,vS (some ⟨b6,0,none⟩) ([x2]:List zA) 1]::hO zA (vS (some ⟨b6,0,none⟩) ([x2]:List zA) 1) (cAff x2 p8 c8)::hB b zTwo::hf)) rfl<|xC [hO zA (vS lr l1 l6) ky] iR ⟨_,_,_,rfl,rfl,h67⟩
    rintro I035 le33 _ _ ⟨km,jy,rfl,rfl,h62⟩ _ _ ⟨lr,l6,ky,rfl,rfl,h67⟩;refine yW [4,8,63] rfl ?_;have H:=H.trans le33;exact zZ 9 [] [64] rfl<|yZ 2 [vS lr l1 l6,vS (some ⟨b6,0,none⟩) ([x2]:List zA) 1] rfl<|zW rfl<|wI (zV [1,2,3,0,4] rfl (by decide))<|yP<|zQ ⟨_,_,_,_,_,_,_,(zC N).symm,H,h67,h62,rfl,rfl⟩
   intro cO N;exact zR<|yP<|zQ ⟨_,_,_,_,_,_,_,(zC N).symm,H,gc,lU,rfl,rfl⟩
  rintro I029 au m2 ⟨il,x7,oz,ot,fc,lO,kw,lI,le34,h56,h57,rfl,rfl⟩;subst lN;have ⟨j9,H⟩:=m2 le34 j9 H;exact yP<|zQ ⟨_,_,_,_,_,_,_,_,_,_,_,(zC ia).symm,H,h56,j9,h57,rfl,rfl⟩
 rintro I022 au m2 ⟨Lo,Hi,x6,dv,ej,gb,eu,c20,d5,ga,c21,ry,le35,rq,mu,k9,rfl,rfl⟩;subst fw;refine zO<|yV<|qO 1 [1] [(65,vA [vS dv Lo ej,vS eu Hi c20])]<|yZ 4 [vS dv Lo ej,vS eu Hi c20] rfl<|zW rfl<|xH<|xT 3 rfl ?_;intro I036 le36 hl013;have h68:=SL.of_frozen hl013 le36 rq;have ⟨k9,mu⟩:=m2 le36 k9 mu;refine xT 2 rfl ?_;intro I037 le37 hl014;have h69:=SL.of_frozen hl014 le37 mu;have ⟨k9,h68⟩:=m2 le37 k9 h68;exact wD ff (resC 2 rfl rfl) (zV [0] rfl (by decide)) ⟨_,_,rfl,rfl,⟨_,rfl,(uW ⟨_,_,rfl,h68,h69⟩)⟩,(xE ⟨_,rfl,k9⟩)⟩
def zG6(b0:Nat)(r:(List zD)×zP):KT:=λkk I' ah v=>
 ∃v0 k0,ah=[.blk b0 ⟨k0⟩]/\v=tupV [v0]/\SL I' v0 r.1/\Rp.rep I' k0 r.2
def mU(out:List zD)(i:Int)(x:zP):Option ((List zD×zP)):=do
 if(decide (i>0)) then
  let (y4,y5)<-dW x (out.length:Int);let aD<-app 48 out ([y4]:List zD);mU aD (W (i - 1)) y5
 else pure (out,x)
 partial_fixpoint
theorem zF9 :∀(out:List zD) (i:Int) (x:zP) (o:(List zD×zP)),mU out i x=some o->∀{B}{I0 I:Imm}{Q}  {ap}{p2 c2 cs p3 c3},I0.le I->(RL I cs out)->(S4 I p3 x.b c3)->NG Q->NO Q->(∀I' aq x1 p4 c4 aA p5 c5,o=(aq,x1)->I0.le I'->(RL I' aA aq)->(S4 I' p5 x1.b c5)->T 21 B Q (.exit 0) I' [hB ap (cRd x1 p5 c5),hO zD (vS p4 aq c4) aA] [(3,vS p4 aq c4)])->J Tryz.prog 21 B (nav (bodyOf f66) [1,1,0,1,0]) Q I [hB ap (cRd x p3 c3),hO zD (vS p2 out c2) cs] [(0,vP ap 0),(3,vS p2 out c2),(4,vI i)]:=by
 refine mU.partial_correctness  _ λaQ ih out i x o N B I0 I Q ap p2 c2 cs p3 c3 H h7 h8 hg ho hx=>xD hg ho<|yA<|yG [10] rfl<|zK<|yC N ?_ ?_
 ·intro hc N;refine zR<|zY<|yM<|zM<|zZ 4 [] [13,14,16] rfl ?_;obtain⟨⟨y4,y5⟩,ay,N⟩:=zB N;refine tU (zII x (out.length:Int) _ ay h8) rfl ?_;rintro aY au v2 k2 aJ - ⟨ig,oe,rfl,rfl,⟨bv,rfl,bB⟩,bW⟩ -;have ⟨h7,H⟩:=m2 aJ h7 H;obtain⟨p6,c6,p7,c7,rfl,cy,bV⟩:=vZ bB;obtain⟨p8,c8,rfl,co⟩:=yD bW;refine qN (cLoop y4 p6 c6 p7 c7) zD ?_;intro b2 fl;have ck:RL aY (cLoop y4 p6 c6 p7 c7) ([y4]:List zD):=⟨(cLoop y4 p6 c6 p7 c7),_,rfl,rfl,(uW ⟨_,_,rfl,cy,bV⟩),rfl⟩;obtain⟨aD,aK,N⟩:=zB N;exact mD 92 2 2 rfl rfl rfl h7 (.inr ⟨0,rfl⟩) ck aK λp9 c9 bf cm=>qM (zX [1,2] (ah:=[hB ap (cRd y5 p8 c8),hO zD (vS p9 aD c9) bf]))<|yI [] [3] rfl<|zO<|zK<|zM<|yI [] [4] rfl<|xB<|jH<|ih aD (W (i - 1)) y5 _ N H cm co hg ho hx
 intro hc N;exact uR<|yP<|hx _ _ _ _ _ _ _ _ (zC N).symm H h7 h8
def dX(r0:zP):Option ((List zD)×zP):=do
 let (y1,y2)<-xL r0 ([2,1,2,3]:List Int);let (aq,x1)<-mU ([]:List zD) y1 y2;pure (aq,x1)
theorem zIJ:∀r0 r,dX r0=some r->∀{I:Imm}{ap}{p c},(S4 I p r0.b c)->RT 66 [vP ap 0] I [hB ap (cRd r0 p c)] (zG6 ap r):=by
 intro r0 r N I ap p c h;unfold dX at N;refine yK func66 λB=>vO []<|yV<|qN [] zD ?_;intro b hb;have h1:RL I [] ([]:List zD):=rfl;refine yI [] [3] rfl<|zY<|yB<|zZ 1 [] [6] rfl<|jW (rI [2,1,2,3]) ?_;intro b1 I0 le h3;have ⟨h1,h⟩:=m2 le h1 h;refine qM (zX [1,0] (ah:=[hB ap (cRd r0 p c),hO zD (vS (some ⟨b,0,none⟩) ([]:List zD) 0) []])) ?_;obtain⟨⟨y1,y2⟩,hy,N⟩:=zB N;refine tU (wE r0 ([2,1,2,3]:List Int) _ hy h h3) rfl ?_;rintro aT au v2 k2 ae - ⟨v0,kk,rfl,rfl,rfl,h5⟩ -;have h1:=iM ae h1;obtain⟨p1,c1,rfl,h6⟩:=yD h5;refine yI [] [4] rfl<|vC<|mM [(0,vP ap 0),(3,vS (some ⟨b,0,none⟩) ([]:List zD) 0),(4,vI y1)] ?_;obtain⟨o0,aC,aM⟩:=zB N;refine zF9 ([]:List zD) y1 y2 o0 aC iR h1 h6 nG nO ?_;intro bP aq x1 p4 c4 aA p5 c5 ec aL h9 bQ;subst o0;refine zT<|uX [2] rfl<|xH<|xT 1 rfl ?_;intro cI bb cZ;have bY:=SL.of_frozen cZ bb h9;have bQ:=bQ.mono bb;exact wD aM (resT rfl) (zV [0] rfl (by decide)) ⟨_,_,rfl,rfl,bY,(xE ⟨_,rfl,bQ⟩)⟩
def zEo(b0:Nat)(r:Str×zP):KT:=λkk I' ah v=>
 ∃v0 k0,ah=[.blk b0 ⟨k0⟩]/\v=tupV [v0]/\v0=.string ⟨⟨r.1.l⟩⟩/\Rp.rep I' k0 r.2
def mG(r0:zP)(ai:(List Str)):Option (Str×zP):=do
 let (y1,y2)<-xF r0 (ai.length:Int);let x<-idx ai y1;pure (x,y2)
theorem dK:∀r0 ai r,mG r0 ai=some r->∀{I:Imm}{ap}{p c p1 c1},(S4 I p r0.b c)->(S4 I p1 ai c1)->RT 103 [vP ap 0,vS p1 ai c1] I [hB ap (cRd r0 p c)] (zEo ap r):=by
 intro r0 ai r N I ap p c p1 c1 h h1;unfold mG at N;refine yK func103 λB=>vO []<|yV<|zZ 4 [] [5,6,8] rfl ?_;obtain⟨⟨y1,y2⟩,hy,N⟩:=zB N;refine tU (xX r0 (ai.length:Int) _ hy h) rfl ?_;rintro I0 au v2 k2 le - ⟨v0,kk,rfl,rfl,rfl,h3⟩ -;have h1:=h1.mono le;obtain⟨p2,c2,rfl,h4⟩:=yD h3;obtain⟨x,ay,N⟩:=zB N;refine wJ rfl rfl h1 ay ?_;intro ad aR av al;obtain rfl:=al;refine wC 0 av [vT x.l] (vT x.l) rfl<|yI [] [4] rfl<|zK<|yX ?_;exact wD N (resT rfl) (zV [0] rfl (by decide)) ⟨_,_,rfl,rfl,rfl,(xE ⟨_,rfl,h4⟩)⟩
end Go.LN
