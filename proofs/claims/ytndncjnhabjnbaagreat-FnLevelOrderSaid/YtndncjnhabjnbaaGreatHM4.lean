/- Helper of the proof (see the last text). -/
import Derived.Test.YtndncjnhabjnbaaGreatHM3
set_option linter.unusedVariables false
set_option linter.unusedSimpArgs false
namespace Go.LN
open Go.Proofs Go.Proofs.Tryz
set_option maxRecDepth 20000
def rU(r:Str):KT:=λkk I' ah v=>
 ∃v0,ah=[]/\v=tupV [v0]/\v0=.string ⟨⟨r.l⟩⟩
def pL(n01:Int)(out:Str):Option ((Int×Str)):=do
 if(decide (n01>9)) then
  let s1<-cat (⟨([(u8 (W (48+(n01.tmod 10))))]:List UInt8)⟩:Str) out
  pL (W (n01.tdiv 10)) s1
 else
  pure (n01,out)
 partial_fixpoint
theorem zDd :∀(n01:Int) (out:Str) (o:(Int×Str)),pL n01 out=some o->∀{B}{I0 I:Imm}{Q}  ,I0.le I->NG Q->NO Q->(∀(I':Imm) (n02:Int) (aj:Str),o=(n02,aj)->I0.le I'->T 31 B Q (.exit 0) I' [] [(0,vI n02),(3,vT aj.l)])->J Tryz.prog 31 B (nav (bodyOf f169) [1,1,1,1,0,0]) Q I [] [(0,vI n01),(3,vT out.l)]:=by
 refine pL.partial_correctness  _ λaI ih n01 out o N B I0 I Q H hg ho hx=>yR hg ho<|yA<|yG [13] rfl<|zJ<|yD N ?_ ?_
 ·intro bd N;refine zU<|wC<|yE<|yF 3 [] [16] rfl<|zNk (d:=17) (i:=(W (48+(n01.tmod 10)))) rfl (by kernel_rfl)<|tU [.int .u8 ((u8 (W (48+(n01.tmod 10)))).toNat:Int)] UInt8 ?_;intro b hb;have h1:RL I [.int .u8 ((u8 (W (48+(n01.tmod 10)))).toNat:Int)] ([(u8 (W (48+(n01.tmod 10))))]:List UInt8):=⟨[.int .u8 ((u8 (W (48+(n01.tmod 10)))).toNat:Int)],_,rfl,rfl,rfl,rfl⟩;exact zJj (l:=([(u8 (W (48+(n01.tmod 10))))]:List UInt8)) rfl rfl rfl rfl (by kernel_rfl) (by kernel_rfl) (.inr ⟨0,rfl⟩) h1<|yF 7 [] [20] rfl<|bE N λs1 aJ N=>dS rfl aJ<|yI [] [3] rfl<|zJ<|zK<|yI [] [0] rfl<|zP<|yS<|jU zO<|nU<|ih (W (n01.tdiv 10)) s1 _ N H  hg ho hx
 intro bd N;exact wZ<|yN<|hx _ _ _ (zC N).symm H
def qC(n0:Int):Option (Str):=do
 if(decide (n0<(-9223372036854775807))) then
  pure (⟨[45,57,50,50,51,51,55,50,48,51,54,56,53,52,55,55,53,56,48,56]⟩:Str)
 else
  if(decide (n0<0)) then
   let y<-qC (W (0 - n0))
   let s<-cat (⟨[45]⟩:Str) y
   pure (id s)
  else
   let (n02,aj)<-pL n0 (⟨[]⟩:Str)
   let s2<-cat (⟨([(u8 (W (48+n02)))]:List UInt8)⟩:Str) aj
   pure (id s2)
 partial_fixpoint
theorem zAC:∀n0 r,qC n0=some r->∀{I:Imm} ,RT 169 [vI n0] I [] (rU  r):=by
 refine qC.partial_correctness _ λF_spec_l16Dec ih_spec_l16Dec n0 r N I=>yJ func169 λB=>vK []<|zZ<|yG [5] rfl<|zJ<|yD N ?_ ?_
 ·intro hc N;refine yG [2] rfl<|xF<|zH ?_;obtain rfl:=zC N;exact wV
 intro hc N;refine zU<|zZ<|yG [7] rfl<|zJ<|yD N ?_ ?_
 ·intro aF N;refine yE<|yF 2 [] [9] rfl<|bE N λy hy N=>xO (ih_spec_l16Dec (W (0 - n0)) _ hy ) ?_;rintro I0 ax v2 k2 le - ⟨v0,rfl,rfl,rfl⟩ -;obtain⟨s,ay,N⟩:=zB N;refine dS rfl ay<|yI [] [2] rfl<|xF<|zH ?_;obtain rfl:=zC N;exact wV
 intro aF N;refine zU<|wW [3] rfl<|zZ<|yH<|oA [(0,vI n0),(3,vT ([]))] ?_;obtain⟨o0,aB,aH⟩:=zB N;refine zDd n0 (⟨[]⟩:Str) o0 aB iR  (λ_ _ _ h=>h) (λ_ _ h=>h) ?_;intro aU n02 aj heq af;subst o0;refine zR<|xA<|yF 2 [] [25] rfl<|zNk (d:=26) (i:=(W (48+n02))) rfl (by kernel_rfl)<|tU [.int .u8 ((u8 (W (48+n02))).toNat:Int)] UInt8 ?_;intro b1 hb1;have h2:RL aU [.int .u8 ((u8 (W (48+n02))).toNat:Int)] ([(u8 (W (48+n02)))]:List UInt8):=⟨[.int .u8 ((u8 (W (48+n02))).toNat:Int)],_,rfl,rfl,rfl,rfl⟩;refine zJj (l:=([(u8 (W (48+n02)))]:List UInt8)) rfl rfl rfl rfl (by kernel_rfl) (by kernel_rfl) (.inr ⟨0,rfl⟩) h2<|yF 6 [] [29] rfl ?_;obtain⟨s2,bb,N⟩:=zB aH;refine dS rfl bb<|yI [] [2] rfl<|zJ<|yZ ?_;obtain rfl:=zC N;exact wV
def jL(n0:Int)(name:Str):Option (Str):=do
 let (n01,sign)<-(do
  if(decide (n0<0)) then
   pure ((W (0 - n0)),(⟨[45]⟩:Str))
  else
   pure (n0,(⟨[43]⟩:Str))
    : Option (Int×Str))
 if(name.l==([]:List UInt8)) then
  let y<-qC n01
  let s<-cat sign y
  pure (id s)
 else
  if(n01==1) then
   let s1<-cat sign name
   pure (id s1)
  else
   let y1<-qC n01
   let s2<-cat sign y1
   let s3<-cat s2 (⟨[42]⟩:Str)
   let s4<-cat s3 name
   pure (id s4)
theorem zBl:∀n0 name r,jL n0 name=some r->∀{I:Imm} ,RT 203 [vI n0,vT name.l] I [] (rU  r):=by
 intro n0 name r N I;unfold jL at N;refine yJ func203 λB=>?_;have H:=iS I;refine vK []<|wW [5] rfl<|zZ<|yG [7] rfl<|zJ ?_;obtain⟨o0,aB,aN⟩:=zB N;refine pZ (λI' ah m'=>∃(n01:Int) (sign:Str),o0=(n01,sign)/\I.le I'/\ah=[]/\m'=[(0,vI n01),(1,vT name.l),(5,vT sign.l)]) ?_ ?_
 ·have H:=iS I;refine yD aB ?_ ?_
  ·intro hc N;exact yG [5] rfl<|zJ<|zK<|yI [] [0] rfl<|yN<|zT ⟨_,_,(zC N).symm,H,rfl,rfl⟩
  intro hc N;exact zU<|yN<|zT ⟨_,_,(zC N).symm,H,rfl,rfl⟩
 rintro I0 ax m2 ⟨n01,sign,heq,le,rfl,rfl⟩;subst o0;refine zZ<|yG [11] rfl<|zJ<|yD aN ?_ ?_
 ·intro aF N;refine yE<|yF 2 [] [12,13] rfl<|bE N λy hy N=>xO (zAC n01 _ hy ) ?_;rintro aU ax v2 k2 af - ⟨v0,rfl,rfl,rfl⟩ -;obtain⟨s,ay,N⟩:=zB N;refine dS rfl ay<|yI [] [4] rfl<|xF<|zH ?_;obtain rfl:=zC N;exact wV
 intro aF N;refine zU<|zZ<|yG [17] rfl<|zJ<|yD N ?_ ?_
 ·intro bd N;refine yE<|yF 2 [] [18,19] rfl<|bE N λs1 aJ N=>dS rfl aJ<|yI [] [4] rfl<|xF<|zH ?_;obtain rfl:=zC N;exact wV
 intro bd N;refine zU<|xA<|yF 2 [] [21,22] rfl<|bE N λy1 bb N=>xO (zAC n01 _ bb ) ?_;rintro aQ ax v2 k2 aE - ⟨v01,rfl,rfl,rfl⟩ -;obtain⟨s2,bt,N⟩:=zB N;refine dS rfl bt<|bE N λs3 bH N=>dS rfl bH<|yF 6 [] [26] rfl<|bE N λs4 hy6 N=>dS rfl hy6<|yI [] [4] rfl<|zJ<|yZ ?_;obtain rfl:=zC N;exact wV
def pM(a0:zA)(out:Str)(i:Int):Option (Str):=do
 if(decide (i<(a0.Coefs.length:Int))) then
  let x<-idx a0.Coefs i
  let am<-(do
   if(x != 0) then
    let x1<-idx a0.Coefs i
    let s<-sslc (⟨[105,106,107,108]⟩:Str) i (W (i+1))
    let y<-jL x1 s
    let s1<-cat out y
    pure (id s1)
   else
    pure (id out)
     : Option Str)
  pM a0 am (W (i+1))
 else
  pure (id out)
 partial_fixpoint
theorem zDe(a0:zA):∀(out:Str) (i:Int) (o:Str),pM a0 out i=some o->∀{B}{I0 I:Imm}{Q p c}{b:Nat},I0.le I->(S4 I p a0.Coefs c)->NG Q->NO Q->(∀(I':Imm) (aj:Str),o=aj->I0.le I'->T 46 B Q (.exit 0) I' [hB b (cAff a0 p c)] [(1,vP b 0),(3,vT aj.l)])->J Tryz.prog 46 B (nav (bodyOf f193) [1,1,0,1,0]) Q I [hB b (cAff a0 p c)] [(1,vP b 0),(3,vT out.l),(4,vI i)]:=by
 refine pM.partial_correctness a0 _ λaI ih out i o N B I0 I Q p c b H h hg ho hx=>yR hg ho<|yA<|yE<|yI [0] [9] rfl<|zJ<|yD N ?_ ?_
 ·intro hc N;refine zU<|zZ<|yH<|yE<|yF 3 [0] [13,14] rfl<|bE N λx hy N=>xN rfl rfl h hy ?_;intro ad aL ap al;obtain rfl:=al;refine xE 0 ap [vI x] (vI x) rfl<|yI [] [17] rfl<|zJ ?_;refine wE N [hB b (cAff a0 p c)] (λam=>[(1,vP b 0),(3,vT am.l),(4,vI i)]) (λo0 aB=>?_) ?_
  ·have H:=iS I;refine yD aB ?_ ?_
   ·intro aF N;obtain⟨x1,ay,N⟩:=zB N;obtain⟨s,aJ,N⟩:=zB N;obtain⟨y,bb,N⟩:=zB N;obtain⟨s1,bt,N⟩:=zB N;refine wX [.p (vT out.l) [],.p (vP b 0) [],.p (vS p a0.Coefs c) [0],.p (vI i) [],.x (λI' v hx=>∃ad1,v=.pointer (some ad1)/\hx=[]/\(At I' ad1 [vI x1])),.q (vI x1),.p (vI i) [],.p (vI i) [],.p (vI (W (i+1))) [],.q (vT s.l),.q (vT y.l),.q (vT s1.l)] [[],[],[(1,false)],[],[(2,false),(3,false)],[(4,false)],[],[],[(7,false)],[(6,false),(8,false)],[(5,false),(9,false)],[(0,false),(10,false)]] [hB b (cAff a0 p c)] [] [(11,false)] (zX [0]) ?_ ?_
    ·refine Op<|Op<|Op<|Op<|Ox ?_<|Oq ?_<|Op<|Op<|Op<|Oq ?_<|Oq ?_<|Oq ?_<|On
     ·intro I1 hf af;refine yP [20,21] rfl ?_;have h:=h.mono af;refine xN rfl rfl h ay ?_;intro ad1 bv ar az;obtain rfl:=az;exact yK [] iR ⟨_,rfl,rfl,ar⟩
     ·rintro I1 hf af _ _ ⟨ad1,rfl,rfl,ar⟩;exact yP [22] rfl<|xE 0 ar [vI x1] (vI x1) rfl<|yT iR
     ·intro I1 hf af;exact yP [24,26] rfl<|zGg rfl aJ<|yT iR
     ·intro I1 hf af;refine yP [23,27] rfl ?_;have H:=iS I1;refine xO (zBl x1 s _ bb ) ?_;rintro aU ax v2 k2 le - ⟨v0,rfl,rfl,rfl⟩ -;have H:=H.trans le;exact yT H
     intro I1 hf af;exact yP [18,28] rfl<|dS rfl bt<|yT iR
    intro aQ af;refine yP [1,4,29] rfl ?_;have H:=H.trans af;exact yI [] [3] rfl<|yN<|zT (ct N H)
   intro aF N;exact zU<|yN<|zT (ct N H)
  intro am I0 aE aN;have ⟨h,H⟩:=m2 aE h H;exact zP<|zJ<|zK<|yI [] [4] rfl<|yS<|nU<|ih am (W (i+1)) _ aN H h hg ho hx
 intro hc N;exact wZ<|yN<|hx _ _ (zC N).symm H
def mV(a0:zA):Option (Str):=do
 let aj<-pM a0 (⟨[]⟩:Str) 0
 let aD<-(do
  if(a0.Const != 0) then
   let y1<-jL a0.Const (⟨[]⟩:Str)
   let s2<-cat aj y1
   pure (id s2)
  else
   pure (id aj)
    : Option Str)
 if(aD.l==([]:List UInt8)) then
  pure (⟨[48]⟩:Str)
 else
  let s3<-sslc aD 0 1
  if(s3.l==([43]:List UInt8)) then
   let s4<-sslc aD 1 (aD.l.length:Int)
   pure (id s4)
  else
   pure (id aD)
theorem zAD:∀a0 r,mV a0=some r->∀{I:Imm}{p c},(S4 I p a0.Coefs c)->RT 193 [vA (cAff a0 p c)] I [] (rU  r):=by
 intro a0 r N I p c h;unfold mV at N;refine yJ func193 λB=>?_;have H:=iS I;refine yE<|uH (cAff a0 p c) ?_;intro b hb;refine wG [] []<|wW [3] rfl<|zZ<|yG [4] rfl<|wC<|oA [(1,vP b 0),(3,vT ([])),(4,vI 0)] ?_;obtain⟨aM,aA,aH⟩:=zB N;refine zDe a0 (⟨[]⟩:Str) 0 aM aA iR h (λ_ _ _ h=>h) (λ_ _ h=>h) ?_;intro bz aj heq1 aK;subst aM;have H:=H.trans aK;refine zR<|zZ<|yE<|yI [0] [32] rfl<|zJ ?_;refine wE aH [] (λaD=>[(3,vT aD.l)]) (λo02 ho02=>?_) ?_
 ·have H:=iS bz;refine yD ho02 ?_ ?_
  ·intro bd N;refine zK<|yF 3 [0] [33,35] rfl<|bE N λy1 bH N=>xO (zBl a0.Const (⟨[]⟩:Str) _ bH ) ?_;rintro bO ax v2 k2 bi - ⟨v01,rfl,rfl,rfl⟩ -;have H:=H.trans bi;obtain⟨s2,hy6,N⟩:=zB N;exact dS rfl hy6<|yI [] [3] rfl<|xV zO<|yN<|zT (ct N H)
  intro bd N;exact zU<|xV zO<|yN<|zT (ct N H)
 intro aD bK bw hMc1;refine zZ<|yG [39] rfl<|zJ<|yD hMc1 ?_ ?_
 ·intro bI N;refine yG [2] rfl<|xF<|zH ?_;obtain rfl:=zC N;exact wV
 intro bI N;refine zU<|zZ<|yE<|yF 1 [] [40] rfl<|bE N λs3 hy7 N=>zGg rfl hy7<|yI [] [42] rfl<|zJ<|yD N ?_ ?_
 ·intro bN N;refine yE<|yF 1 [] [43] rfl<|bE N λs4 hy8 N=>zGg rfl hy8<|yI [] [2] rfl<|xF<|zH ?_;obtain rfl:=zC N;exact wV
 intro bN N;refine zU<|wW [2] rfl<|zJ<|yZ ?_;obtain rfl:=zC N;exact wV
def nB(a0:zA):Option (Str):=do
 let y<-vX a0
 if(!y) then
  pure (⟨[]⟩:Str)
 else
  let y1<-mV a0
  pure (id y1)
theorem zBm:∀a0 r,nB a0=some r->∀{I:Imm}{p c},(S4 I p a0.Coefs c)->RT 196 [vA (cAff a0 p c)] I [] (rU  r):=by
 intro a0 r N I p c h;unfold nB at N;refine yJ func196 λB=>yE<|uH (cAff a0 p c) ?_;intro b hb;refine wG [] []<|zZ<|yE<|qA 1 [0] [(3,vA (cAff a0 p c))]<|bE N λy hy N=>vV (kC a0 _ hy h) ?_;intro I0 le;have h:=h.mono le;refine yI [] [5] rfl<|zJ<|yD N ?_ ?_
 ·intro hc N;refine yG [2] rfl<|xF<|zH ?_;obtain rfl:=zC N;exact wV
 intro hc N;refine zU<|xA<|qA 1 [0] [(6,vA (cAff a0 p c))]<|bE N λy1 ay N=>xO (zAD a0 _ ay h) ?_;rintro aU ax v2 k2 af - ⟨v01,rfl,rfl,rfl⟩ -;refine yI [] [2] rfl<|zJ<|yZ ?_;obtain rfl:=zC N;exact wV
def zBW(r:zA×Bool):KT:=λkk I' ah v=>
 ∃v0 v1,ah=[]/\v=tupV [v0,v1]/\(∃cs,v0=.agg ⟨cs⟩/\Rp.rep I' cs r.1)/\v1=.bool r.2
def sZ(bx:Str)(at0:Int)(x:zA):Option (zA):=do
 let t18<-(do
  if(decide (at0>=0)) then
   pure (decide (at0<(bx.l.length:Int)))
  else
   pure false
    : Option Bool)
 if t18 then
  let (y2,y3)<-jZ x bx at0
  sZ bx y3 y2
 else
  pure (id x)
 partial_fixpoint
theorem zBC(bx:Str):∀(at0:Int) (x:zA) (o:zA),sZ bx at0 x=some o->∀{B}{I0 I:Imm}{Q}  {b:Nat}{b1:Nat}{p1 c1},I0.le I->(S4 I p1 x.Coefs c1)->NG Q->NO Q->(∀(I':Imm) (x1:zA) (p2:Option Addr) (c2:Nat),o=x1->I0.le I'->(S4 I' p2 x1.Coefs c2)->T 32 B Q (.exit 0) I' [hB b1 (cAff x1 p2 c2),hB b [z0,vI 0]] [(0,vT bx.l),(2,vP b 0),(4,vP b1 0)])->J Tryz.prog 32 B (nav (bodyOf f181) [1,1,1,1,0,0]) Q I [hB b1 (cAff x p1 c1),hB b [z0,vI 0]] [(0,vT bx.l),(2,vP b 0),(4,vP b1 0),(5,vI at0)]:=by
 refine sZ.partial_correctness bx _ λaI ih at0 x o N B I0 I Q b b1 p1 c1 H h2 hg ho hx=>yR hg ho<|yA<|yA ?_;refine wE N [hB b1 (cAff x p1 c1),hB b [z0,vI 0]] (λt18=>[(0,vT bx.l),(2,vP b 0),(4,vP b1 0),(5,vI at0),(18,.bool t18)]) (λo0 aB=>?_) ?_
 ·have H:=iS I;refine zK<|yF 3 [] [13] rfl<|xW [13] aB ?_ ?_
  ·intro aF N;exact yI [] [18] rfl<|yN<|zT (ct N H)
  intro aF N;exact wG [] [(18,vF)]<|yN<|zT (ct N H)
 intro t18 aQ aE aN;have ⟨h2,H⟩:=m2 aE h2 H;refine zJ<|yD aN ?_ ?_
 ·intro bd N;refine zU<|wC<|zK<|qA 3 [0] [(20,vA (cAff x p1 c1)),(21,vT bx.l),(22,vI at0)] ?_;obtain⟨⟨y2,y3⟩,ay,N⟩:=zB N;refine xO (zFG x bx at0 _ ay h2) ?_;rintro bz ax v2 k2 aK - ⟨v0,v01,rfl,rfl,⟨aC,rfl,h4⟩,rfl⟩ -;have H:=H.trans aK;obtain⟨p3,c3,rfl,h6⟩:=yO h4;exact yF 7 [] [24,25] rfl<|xP 0 (cAff y2 p3 c3) rfl<|yI [] [5] rfl<|zP<|yS<|nU<|ih y3 y2 _ N H h6 hg ho hx
 intro bd N;exact wZ<|yN<|hx _ _ _ _ (zC N).symm H h2
def pO(bx:Str):Option (zA×Bool):=do
 let y<-oE
 if(decide ((bx.l.length:Int)>40)) then
  pure ((zA.mk ([]:List Int) 0),false)
 else
  let x1<-sZ bx 0 (zA.mk y.Coefs y.Const)
  let y4<-nB x1
  if(!(y4.l==bx.l)) then
   pure ((zA.mk ([]:List Int) 0),false)
  else
   pure (x1,true)
theorem dG:∀bx r,pO bx=some r->∀{I:Imm} ,RT 181 [vT bx.l] I [] (zBW  r):=by
 intro bx r N I;unfold pO at N;refine yJ func181 λB=>yE<|uB [z0,vI 0] ?_;intro b hb;refine wG [] []<|xA<|bE N λy hy N=>xO (kH  _ hy ) ?_;rintro I0 ax v2 k2 le - ⟨p,c,cs,rfl,rfl,h⟩ -;refine uB [z0,vI 0] ?_;intro b1 hb1;refine xP 0 (cAff y p c) rfl<|yC rfl<|zZ<|yG [9] rfl<|zJ<|yD N ?_ ?_
 ·intro hc N;refine yE<|yF 1 [] [10] rfl<|xP 2 [z0,vI 0] rfl<|wG [] [(3,vF)]<|xF<|zH ?_;obtain rfl:=zC N;exact xC ⟨_,_,(.cell 2 rfl rfl (by kernel_rfl) (.tmp rfl ResV.nil)),zO,⟨_,_,rfl,rfl,⟨_,rfl,(yL ⟨_,rfl,(SL.nil _)⟩)⟩,rfl⟩⟩
 intro hc N;refine zU<|wW [5] rfl<|zZ<|yH<|nO 1 rfl ?_;intro aU af hl0;have h1:=SL.of_frozen hl0 af h;refine oA [(0,vT bx.l),(2,vP b 0),(4,vP b1 0),(5,vI 0)] ?_;obtain⟨aM,aA,aH⟩:=zB N;refine zBC bx 0 (zA.mk y.Coefs y.Const) aM aA iR h1 (λ_ _ _ h=>h) (λ_ _ h=>h) ?_;intro bK x1 p2 c2 heq1 bi h3;subst aM;refine zR<|zZ<|yE<|qA 1 [0] [(26,vA (cAff x1 p2 c2))] ?_;obtain⟨y4,aJ,N⟩:=zB aH;refine xO (zBm x1 _ aJ h3) ?_;rintro bO ax v2 k2 bw - ⟨v03,rfl,rfl,rfl⟩ -;have h3:=h3.mono bw;refine yI [] [29] rfl<|zJ<|yD N ?_ ?_
 ·intro bI N;refine yE<|yF 1 [] [30] rfl<|xP 1 [z0,vI 0] rfl<|wG [] [(3,vF)]<|xF<|zH ?_;obtain rfl:=zC N;exact xC ⟨_,_,(.cell 1 rfl rfl (by kernel_rfl) (.tmp rfl ResV.nil)),zO,⟨_,_,rfl,rfl,⟨_,rfl,(yL ⟨_,rfl,(SL.nil _)⟩)⟩,rfl⟩⟩
 intro bI N;refine zU<|xA<|qA 1 [0] [(31,vA (cAff x1 p2 c2))]<|xP 1 (cAff x1 p2 c2) rfl<|wG [] [(3,vY)]<|zJ<|yZ ?_;obtain rfl:=zC N;exact xC ⟨_,_,(.cell 1 rfl rfl (by kernel_rfl) (.tmp rfl ResV.nil)),zO,⟨_,_,rfl,rfl,⟨_,rfl,(yL ⟨_,rfl,h3⟩)⟩,rfl⟩⟩
def zBX(r:(List zA)):KT:=λkk I' ah v=>
 ∃v0,ah=[]/\v=tupV [v0]/\SL I' v0 r
def tP(y:(List Str))(out:List zA)(i:Int):Option (List zA):=do
 let t18<-(do
  if(decide (i<(y.length:Int))) then
   pure (decide (i<=2))
  else
   pure false
    : Option Bool)
 if t18 then
  let x<-idx y i
  let (y2,y3)<-pO x
  let am<-app 32 out ([y2]:List zA)
  tP y am (W (i+1))
 else
  pure (id out)
 partial_fixpoint
theorem zBD(y:(List Str)):∀(out:List zA) (i:Int) (o:List zA),tP y out i=some o->∀{B}{I0 I:Imm}{Q p c p1 c1 cs},I0.le I->(S4 I p y c)->(RL I cs out)->NG Q->NO Q->(∀(I':Imm) (aj:List zA) (p2:Option Addr) (c2:Nat) (aC:List Value),o=aj->I0.le I'->(RL I' aC aj)->T 34 B Q (.exit 0) I' [hO zA (vS p2 aj c2) aC] [(3,vS p2 aj c2)])->J Tryz.prog 34 B (nav (bodyOf f180) [1,1,1,0,1,0]) Q I [hO zA (vS p1 out c1) cs] [(3,vS p1 out c1),(4,vS p y c),(5,vI i)]:=by
 refine tP.partial_correctness y _ λaI ih out i o N B I0 I Q p c p1 c1 cs H h1 h2 hg ho hx=>yR hg ho<|yA<|yA ?_;refine wE N [hO zA (vS p1 out c1) cs] (λt18=>[(3,vS p1 out c1),(4,vS p y c),(5,vI i),(18,.bool t18)]) (λo0 aB=>?_) ?_
 ·have H:=iS I;refine zK<|yF 5 [] [15] rfl<|xW [15] aB ?_ ?_
  ·intro hc N;exact yI [] [18] rfl<|yN<|zT (ct N H)
  intro hc N;exact wG [] [(18,vF)]<|yN<|zT (ct N H)
 intro t18 aU af aN;have ⟨h2,h1,H⟩:=m3 af h2 h1 H;refine zJ<|yD aN ?_ ?_
 ·intro aF N;refine zU<|zZ<|yH<|yE<|yF 2 [] [22,23] rfl<|bE N λx ay N=>xN rfl rfl h1 ay ?_;intro ad aL ap al;obtain rfl:=al;refine xE 0 ap [vT x.l] (vT x.l) rfl ?_;obtain⟨⟨y2,y3⟩,aJ,N⟩:=zB N;refine xO (dG x _ aJ ) ?_;rintro aQ ax v2 k2 aE - ⟨v01,v02,rfl,rfl,⟨aO,rfl,h4⟩,rfl⟩ -;have ⟨h2,h1,H⟩:=m3 aE h2 h1 H;obtain⟨p3,c3,rfl,h6⟩:=yO h4;refine yF 8 [] [27,28] rfl<|uB [z0,vI 0] ?_;intro b1 hb1;refine xP 0 (cAff y2 p3 c3) rfl<|wG [] []<|zJ<|zK<|qA 2 [0] [(29,vS p1 out c1),(30,vA (cAff y2 p3 c3))]<|tU (cAff y2 p3 c3) zA ?_;intro b2 hb2;have h7:RL aQ (cAff y2 p3 c3) ([y2]:List zA):=⟨(cAff y2 p3 c3),_,rfl,rfl,(yL ⟨_,rfl,h6⟩),rfl⟩;obtain⟨am,bb,N⟩:=zB N;exact pC 78 2 2 rfl rfl rfl h2 (.inr ⟨0,rfl⟩) h7 bb λp4 c4 aT h8=>qE (zX [1,2] (ah:=[hB b1 (cAff y2 p3 c3),hO zA (vS p4 am c4) aT]))<|yI [] [3] rfl<|zP<|zJ<|zK<|yI [] [5] rfl<|yS<|jU (zW [1] rfl (by decide))<|nU<|ih am (W (i+1)) _ N H h1 h8 hg ho hx
 intro aF N;exact wZ<|yN<|hx _ _ _ _ _ (zC N).symm H h2
def nT(bx:Str):Option ((List zA)):=do
 let y<-gY bx (44:UInt8)
 let aj<-tP y ([]:List zA) 0
 pure (id aj)
theorem zCS:∀bx r,nT bx=some r->∀{I:Imm} ,RT 180 [vT bx.l] I [] (zBX  r):=by
 intro bx r N I;unfold nT at N;refine yJ func180 λB=>vK []<|xA<|tU [] zA ?_;intro b hb;have h:RL I [] ([]:List zA):=rfl;refine yI [] [3] rfl<|xA<|yF 1 [] [9] rfl<|bE N λy hy N=>xO (zFz bx (44:UInt8) _ hy ) ?_;rintro I0 ax v2 k2 le - ⟨v0,rfl,rfl,h1⟩ -;have h:=iM le h;obtain⟨p,c,rfl⟩:=h1.form;refine yI [] [4] rfl<|zZ<|yG [5] rfl<|wC<|oA [(3,vS (some ⟨b,0,none⟩) ([]:List zA) 0),(4,vS p y c),(5,vI 0)] ?_;obtain⟨aM,aA,aH⟩:=zB N;refine zBD y ([]:List zA) 0 aM aA iR h1 h (λ_ _ _ h=>h) (λ_ _ h=>h) ?_;intro bz aj p2 c2 aC heq1 aK h3;subst aM;refine zR<|wW [2] rfl<|xF<|xB 0 rfl ?_;intro bK bi hl0;have h9:=SL.of_frozen hl0 bi h3;obtain rfl:=zC aH;exact xC ⟨_,_,(.tmp rfl ResV.nil),zO,⟨_,rfl,rfl,h9⟩⟩
def zAj(r:zI×Int):KT:=λkk I' ah v=>
 ∃v0 v1,ah=[]/\v=tupV [v0,v1]/\(∃cs,v0=.agg ⟨cs⟩/\Rp.rep I' cs r.1)/\v1=.int .i64 r.2
def rV(s:Str)(at0:Int):Option (zI×Int):=do
 let y<-kJ s at0 (93:UInt8)
 let t20<-(do
  if(decide (y<(W (at0+2)))) then
   pure true
  else
   let b1<-sidx s (W (at0+1))
   pure ((b1.toNat:Int) != 91)
    : Option Bool)
 if t20 then
  pure ((zI.mk (⟨[]⟩:Str) ([]:List zA)),(-1))
 else
  let s1<-sslc s at0 (W (at0+1))
  let s2<-sslc s (W (at0+2)) y
  let y1<-nT s2
  pure ((zI.mk s1 y1),(W (y+1)))
theorem fW:∀s at0 r,rV s at0=some r->∀{I:Imm} ,RT 149 [vT s.l,vI at0] I [] (zAj  r):=by
 intro s at0 r N I;unfold rV at N;refine yJ func149 λB=>?_;have H:=iS I;refine yE<|uB [vT ([]),z0] ?_;intro b hb;refine wG [] []<|xA<|yF 2 [] [7,8] rfl<|bE N λy hy N=>jE (zBU s at0 (93:UInt8) _ hy ) ?_;intro I0 le;have H:=H.trans le;refine yI [] [6] rfl<|zZ<|yA ?_;refine wE N [hB b [vT ([]),z0]] (λt20=>[(0,vT s.l),(1,vI at0),(4,vP b 0),(6,vI y),(20,.bool t20)]) (λo0 aB=>?_) ?_
 ·have H:=iS I0;refine zK<|yF 5 [] [14] rfl<|xW [14] aB ?_ ?_
  ·intro hc N;exact wG [] [(20,vY)]<|yN<|zT (ct N H)
  intro hc N;exact yF 8 [] [15,17] rfl<|bE N λb1 ay N=>zAJ rfl rfl ay<|yI [] [20] rfl<|yN<|zT (ct N H)
 intro t20 aU af aN;have H:=H.trans af;refine zJ<|yD aN ?_ ?_
 ·intro aF N;refine yE<|yF 1 [] [21] rfl<|xP 0 [vT ([]),z0] rfl<|yI [] [5] rfl<|xF<|zH ?_;obtain rfl:=zC N;exact xC ⟨_,_,(.cell 0 rfl rfl (by kernel_rfl) (.tmp rfl ResV.nil)),zO,⟨_,_,rfl,rfl,⟨_,rfl,(nK ⟨_,rfl,(SL.nil _)⟩)⟩,rfl⟩⟩
 intro aF N;refine zU<|zJ<|yA ?_;obtain⟨s1,aJ,N⟩:=zB N;obtain⟨s2,bb,N⟩:=zB N;obtain⟨y1,bt,N⟩:=zB N;refine wX [.p (vT s.l) [],.p (vI at0) [],.p (vI at0) [],.p (vI (W (at0+1))) [],.q (vT s1.l),.p (vT s.l) [],.p (vI at0) [],.p (vI (W (at0+2))) [],.p (vI y) [],.q (vT s2.l),.x (eS y1),.x (λI' v hx=>∃p1 c1,v=vA [vT s1.l,vS p1 y1 c1]/\hx=[]/\(S4 I' p1 y1 c1)),.p (vI y) [],.p (vI (W (y+1))) [],.x (λI' v hx=>∃aV bj,hx=[hB b [vT s1.l,vS aV y1 bj]]/\(S4 I' aV y1 bj))] [[],[],[],[(2,false)],[(0,false),(1,false),(3,false)],[],[],[(6,false)],[],[(5,false),(7,false),(8,false)],[(9,false)],[(4,false),(10,false)],[],[(12,false)],[(11,false),(16,true)]] [] [[hB b [vT ([]),z0]]] [(13,false),(14,true)] (zX [0]) ?_ ?_
 ·refine Op<|Op<|Op<|Op<|Oq ?_<|Op<|Op<|Op<|Op<|Oq ?_<|Ox ?_<|Ox ?_<|Op<|Op<|Ox ?_<|On
  ·intro I1 hf af;exact yP [22,23,25] rfl<|zGg rfl aJ<|yT iR
  ·intro I1 hf af;exact yP [27,29,30] rfl<|zGg rfl bb<|yT iR
  ·intro I1 hf af;refine yP [31] rfl ?_;have H:=iS I1;refine xO (zCS s2 _ bt ) ?_;rintro aQ ax v2 k2 aE - ⟨v01,rfl,rfl,h1⟩ -;have H:=H.trans aE;obtain⟨p,c,rfl⟩:=h1.form;exact yK [] H ⟨_,_,rfl,rfl,h1⟩
  ·rintro I1 hf af _ _ ⟨rfl,rfl⟩ _ _ ⟨p,c,rfl,rfl,h1⟩;exact yP [26,32] rfl<|rS 12 [(33,vA [vT s1.l,vS p y1 c])]<|yK [] iR ⟨_,_,rfl,rfl,h1⟩
  rintro I1 hf af _ _ ⟨p1,c1,rfl,rfl,h11⟩ _ _ rfl;refine yP [4,33] rfl ?_;have H:=iS I1;exact zEs 0 [vT s1.l,vS p1 y1 c1] (hB b [vT s1.l,vS p1 y1 c1]::hf) rfl rfl rfl rfl<|zFc (hx:=[hB b [vT s1.l,vS p1 y1 c1]]) rfl H rfl (zIU (v:=undef)) ⟨_,_,rfl,h11⟩
 rintro bz aK _ _ ⟨rfl,rfl⟩ _ _ ⟨aV,bj,rfl,h111⟩;refine yP [4,35] rfl ?_;refine yI [] [5] rfl<|zJ<|yZ ?_;obtain rfl:=zC N;exact xC ⟨_,_,(.cell 0 rfl rfl (by kernel_rfl) (.tmp rfl ResV.nil)),zO,⟨_,_,rfl,rfl,⟨_,rfl,(nK ⟨_,rfl,h111⟩)⟩,rfl⟩⟩
def fQ(r:zF×Int):KT:=λkk I' ah v=>
 ∃v0 v1,ah=[]/\v=tupV [v0,v1]/\(∃cs,v0=.agg ⟨cs⟩/\Rp.rep I' cs r.1)/\v1=.int .i64 r.2
mutual
def gA(s:Str)(at0:Int)(ai:Int):Option (zF×Int):=do
 let (y1,y2)<-qM (same s) (same at0) (same ai)
 let t27<-(do
  if(decide (y2<0)) then
   pure true
  else
   pure (decide (y2>=(s.l.length:Int)))
    : Option Bool)
 if t27 then
  pure ((zF.mk 0 0 (zA.mk ([]:List Int) 0) (zI.mk (⟨[]⟩:Str) ([]:List zA)) ([]:List zF)),(-1))
 else
  let b2<-sidx s y2
  let kind<-(do
   if((b2.toNat:Int)==45) then
    pure (id 5)
   else
    let kind1<-(do
     if((b2.toNat:Int)==42) then
      pure (id 6)
     else
      pure (id 4)
       : Option Int)
    pure (id kind1)
     : Option Int)
  let (y4,y5)<-qM (same s) (W (y2+1)) (same ai)
  let t51<-(do
   if(decide (y5<0)) then
    pure true
   else
    pure (decide (y5>=(s.l.length:Int)))
     : Option Bool)
  if t51 then
   pure ((zF.mk 0 0 (zA.mk ([]:List Int) 0) (zI.mk (⟨[]⟩:Str) ([]:List zA)) ([]:List zF)),(-1))
  else
   pure ((zF.mk kind 0 (zA.mk ([]:List Int) 0) (zI.mk (⟨[]⟩:Str) ([]:List zA)) ([y1,y4]:List zF)),(W (y5+1)))
 partial_fixpoint
def qM(s:Str)(at0:Int)(ai:Int):Option (zF×Int):=do
 let t26<-(do
  if(decide (ai<1)) then
   pure true
  else
   if(decide (at0<0)) then
    pure true
   else
    pure (decide (at0>=(s.l.length:Int)))
    : Option Bool)
 if t26 then
  pure ((zF.mk 0 0 (zA.mk ([]:List Int) 0) (zI.mk (⟨[]⟩:Str) ([]:List zA)) ([]:List zF)),(-1))
 else
  let b1<-sidx s at0
  if((b1.toNat:Int)==123) then
   let y<-kJ s at0 (125:UInt8)
   if(decide (y<0)) then
    pure ((zF.mk 0 0 (zA.mk ([]:List Int) 0) (zI.mk (⟨[]⟩:Str) ([]:List zA)) ([]:List zF)),(-1))
   else
    let s1<-sslc s (W (at0+1)) y
    let (y2,y3)<-pO s1
    pure ((zF.mk 2 0 y2 (zI.mk (⟨[]⟩:Str) ([]:List zA)) ([]:List zF)),(W (y+1)))
  else
   let t52<-(do
    let b3<-sidx s at0
    if(decide ((b3.toNat:Int)>=65)) then
     let b4<-sidx s at0
     pure (decide ((b4.toNat:Int)<=68))
    else
     pure false
      : Option Bool)
   if t52 then
    let (y5,y6)<-rV s at0
    pure ((zF.mk 3 0 (zA.mk ([]:List Int) 0) y5 ([]:List zF)),y6)
   else
    let b6<-sidx s at0
    if((b6.toNat:Int)==40) then
     let (y8,y9)<-gA (same s) (W (at0+1)) (W (ai - 1))
     pure (y8,y9)
    else
     let (y11,y12)<-nY s at0
     if(y12==at0) then
      pure ((zF.mk 0 0 (zA.mk ([]:List Int) 0) (zI.mk (⟨[]⟩:Str) ([]:List zA)) ([]:List zF)),(-1))
     else
      pure ((zF.mk 1 y11 (zA.mk ([]:List Int) 0) (zI.mk (⟨[]⟩:Str) ([]:List zA)) ([]:List zF)),y12)
 partial_fixpoint
end
theorem zE6:(∀(s:Str) (at0:Int) (ai:Int) r,gA s at0 ai=some r->∀{I:Imm} ,RT 182 [vT s.l,vI at0,vI ai] I [] (fQ  r))/\(∀(s:Str) (at0:Int) (ai:Int) r,qM s at0 ai=some r->∀{I:Imm} ,RT 150 [vT s.l,vI at0,vI ai] I [] (fQ  r)):=by
 refine gA.mutual_partial_correctness _ _ ?_ ?_
 ·intro F_spec_l3Parse ih_spec_l3Parse s at0 ai r N I;refine yJ func182 λB=>?_;have H:=iS I;refine yE<|uB zExpr ?_;intro b hb;refine wG [] []<|xA<|yF 3 [] [14,15,16] rfl ?_;obtain⟨⟨y1,y2⟩,hy,N⟩:=zB N;refine xO (ih_spec_l3Parse s at0 ai _ hy ) ?_;rintro I0 ax v2 k2 le - ⟨v0,v01,rfl,rfl,⟨cs,rfl,h⟩,rfl⟩ -;have H:=H.trans le;obtain⟨p,c,p1,c1,p2,c2,rfl,h2,h3,h4⟩:=tA h;refine yF 7 [] [18,19] rfl<|uB zExpr ?_;intro b1 hb1;refine xP 0 (cExpr y1 p c p1 c1 p2 c2) rfl<|yI [] [9] rfl<|zZ<|yA ?_;refine wE N [hB b1 (cExpr y1 p c p1 c1 p2 c2),hB b zExpr] (λt27=>[(0,vT s.l),(2,vI ai),(6,vP b 0),(8,vP b1 0),(9,vI y2),(27,.bool t27)]) (λo0 aB=>?_) ?_
  ·have H:=iS I0;refine zK<|yF 3 [] [22] rfl<|xW [22] aB ?_ ?_
   ·intro hc N;exact wG [] [(27,vY)]<|yN<|zT (ct N H)
   intro hc N;exact yI [] [27] rfl<|yN<|zT (ct N H)
  intro t27 aU af aN;have ⟨h2,h3,h4,H⟩:=m4 af h2 h3 h4 H;refine zJ<|yD aN ?_ ?_
  ·intro aF N;refine yE<|yF 1 [] [28] rfl<|zEs 1 zExpr [hB b1 (cExpr y1 p c p1 c1 p2 c2),hB b zExpr] rfl rfl rfl rfl<|yI [] [7] rfl<|xF<|zH ?_;obtain rfl:=zC N;exact xC ⟨_,_,(.cell 1 rfl rfl (by kernel_rfl) (.tmp rfl ResV.nil)),zO,⟨_,_,rfl,rfl,⟨_,rfl,(xT ⟨_,_,_,rfl,(SL.nil _),(SL.nil _),(SL.nil _)⟩)⟩,rfl⟩⟩
  intro aF N;refine zU<|wW [10] rfl<|zZ<|yE<|yF 2 [] [29,30] rfl<|bE N λb2 ay N=>zAJ rfl rfl ay<|yC rfl<|wC<|yG [32] rfl<|zJ ?_;refine wE N [hB b1 (cExpr y1 p c p1 c1 p2 c2),hB b zExpr] (λkind=>[(0,vT s.l),(2,vI ai),(6,vP b 0),(8,vP b1 0),(9,vI y2),(10,vI kind)]) (λaM aA=>?_) ?_
  ·have H:=iS aU;refine yD aA ?_ ?_
   ·intro bd N;exact zK<|yI [] [10] rfl<|yN<|zT (ct N H)
   intro bd N;refine yG [34] rfl<|zJ ?_;refine wE N [hB b1 (cExpr y1 p c p1 c1 p2 c2),hB b zExpr] (λkind1=>[(0,vT s.l),(2,vI ai),(6,vP b 0),(8,vP b1 0),(9,vI y2),(10,vI kind1)]) (λo02 ho02=>?_) ?_
   ·have H:=iS aU;refine yD ho02 ?_ ?_
    ·intro bI N;exact zK<|yI [] [10] rfl<|yN<|zT (ct N H)
    intro bI N;exact zU<|yN<|zT (ct N H)
   intro kind1 bz aE hMc2;have H:=H.trans aE;exact yN<|zT (ct hMc2 H)
  intro kind aQ aK hMc1;have ⟨h2,h3,h4,H⟩:=m4 aK h2 h3 h4 H;refine zP<|xA<|yF 4 [] [37,39,40] rfl ?_;obtain⟨⟨y4,y5⟩,aJ,N⟩:=zB hMc1;refine xO (ih_spec_l3Parse s (W (y2+1)) ai _ aJ ) ?_;rintro bK ax v2 k2 bi - ⟨v05,v06,rfl,rfl,⟨aC,rfl,h5⟩,rfl⟩ -;have ⟨h2,h3,h4,H⟩:=m4 bi h2 h3 h4 H;obtain⟨p3,c3,p4,c4,p5,c5,rfl,h7,h8,h9⟩:=tA h5;refine yF 8 [] [42,43] rfl<|uB zExpr ?_;intro b3 hb2;refine xP 0 (cExpr y4 p3 c3 p4 c4 p5 c5) rfl<|yI [] [12] rfl<|zZ<|yA ?_;refine wE N [hB b3 (cExpr y4 p3 c3 p4 c4 p5 c5),hB b1 (cExpr y1 p c p1 c1 p2 c2),hB b zExpr] (λt51=>[(6,vP b 0),(8,vP b1 0),(10,vI kind),(11,vP b3 0),(12,vI y5),(51,.bool t51)]) (λo03 ho03=>?_) ?_
  ·have H:=iS bK;refine zK<|yF 3 [] [46] rfl<|xW [46] ho03 ?_ ?_
   ·intro bN N;exact wG [] [(51,vY)]<|yN<|zT (ct N H)
   intro bN N;exact yI [] [51] rfl<|yN<|zT (ct N H)
  intro t51 bO bw hMc3;have ⟨h7,h8,h9,h2,h3,h4⟩:=m6 bw h7 h8 h9 h2 h3 h4;refine zJ<|yD hMc3 ?_ ?_
  ·intro hc5 N;refine yE<|yF 1 [] [52] rfl<|zEs 2 zExpr [hB b3 (cExpr y4 p3 c3 p4 c4 p5 c5),hB b1 (cExpr y1 p c p1 c1 p2 c2),hB b zExpr] rfl rfl rfl rfl<|yI [] [7] rfl<|xF<|zH ?_;obtain rfl:=zC N;exact xC ⟨_,_,(.cell 2 rfl rfl (by kernel_rfl) (.tmp rfl ResV.nil)),zO,⟨_,_,rfl,rfl,⟨_,rfl,(xT ⟨_,_,_,rfl,(SL.nil _),(SL.nil _),(SL.nil _)⟩)⟩,rfl⟩⟩
  intro hc5 N;refine zU<|xA<|qA 3 [1,0] [(53,vI kind),(54,vA (cExpr y1 p c p1 c1 p2 c2)),(55,vA (cExpr y4 p3 c3 p4 c4 p5 c5))]<|tU [vI y1.Kind,vI y1.Num,vS p y1.Index.Coefs c,vI y1.Index.Const,vT y1.Read.Array.l,vS p1 y1.Read.Subs c1,vS p2 y1.Kids c2,vI y4.Kind,vI y4.Num,vS p3 y4.Index.Coefs c3,vI y4.Index.Const,vT y4.Read.Array.l,vS p4 y4.Read.Subs c4,vS p5 y4.Kids c5] zF ?_;intro b4 hb3;have h10:RL bO [vI y1.Kind,vI y1.Num,vS p y1.Index.Coefs c,vI y1.Index.Const,vT y1.Read.Array.l,vS p1 y1.Read.Subs c1,vS p2 y1.Kids c2,vI y4.Kind,vI y4.Num,vS p3 y4.Index.Coefs c3,vI y4.Index.Const,vT y4.Read.Array.l,vS p4 y4.Read.Subs c4,vS p5 y4.Kids c5] ([y1,y4]:List zF):=⟨(cExpr y1 p c p1 c1 p2 c2),_,rfl,rfl,(xT ⟨_,_,_,rfl,h2,h3,h4⟩),⟨(cExpr y4 p3 c3 p4 c4 p5 c5),_,rfl,rfl,(xT ⟨_,_,_,rfl,h7,h8,h9⟩),rfl⟩⟩;refine yF 7 [] [57,59] rfl<|xP 3 [vI kind,vI 0,z0,vI 0,vT ([]),z0,vS (some ⟨b4,0,none⟩) ([y1,y4]:List zF) 2] rfl<|yI [] [7] rfl<|xF<|xB 0 rfl ?_;intro I06 bD hl0;have h11:=SL.of_frozen hl0 bD h10;obtain rfl:=zC N;exact xC ⟨_,_,(.cell 2 rfl rfl (by kernel_rfl) (.tmp rfl ResV.nil)),zO,⟨_,_,rfl,rfl,⟨_,rfl,(xT ⟨_,_,_,rfl,(SL.nil _),(SL.nil _),h11⟩)⟩,rfl⟩⟩
 intro F_spec_l3Round ih_spec_l3Round s at0 ai r N I;refine yJ func150 λB=>?_;have H:=iS I;refine yE<|uB zExpr ?_;intro b hb;refine wG [] []<|zZ<|yA ?_;refine wE N [hB b zExpr] (λt26=>[(0,vT s.l),(1,vI at0),(2,vI ai),(6,vP b 0),(26,.bool t26)]) (λo0 aB=>?_) ?_
 ·have H:=iS I;refine zK<|yF 3 [] [17] rfl<|xW [17] aB ?_ ?_
  ·intro hc N;exact wG [] [(26,vY)]<|yN<|zT (ct N H)
  intro hc N;refine yF 7 [] [21] rfl<|xW [21] N ?_ ?_
  ·intro aF N;exact wG [] [(26,vY)]<|yN<|zT (ct N H)
  intro aF N;exact yI [] [26] rfl<|yN<|zT (ct N H)
 intro t26 I0 le aN;have H:=H.trans le;refine zJ<|yD aN ?_ ?_
 ·intro bd N;refine yE<|yF 1 [] [27] rfl<|zEs 0 zExpr [hB b zExpr] rfl rfl rfl rfl<|yI [] [7] rfl<|xF<|zH ?_;obtain rfl:=zC N;exact xC ⟨_,_,(.cell 0 rfl rfl (by kernel_rfl) (.tmp rfl ResV.nil)),zO,⟨_,_,rfl,rfl,⟨_,rfl,(xT ⟨_,_,_,rfl,(SL.nil _),(SL.nil _),(SL.nil _)⟩)⟩,rfl⟩⟩
 intro bd N;refine zU<|zZ<|yH<|yE<|yF 2 [] [29,30] rfl<|bE N λb1 hy N=>zAJ rfl rfl hy<|yI [] [28] rfl<|zJ<|yD N ?_ ?_
 ·intro bI N;refine yE<|yF 2 [] [33,34] rfl<|bE N λy ay N=>jE (zBU s at0 (125:UInt8) _ ay ) λaU af=>wG [] [(8,vI y)]<|zZ<|vK [(37,.bool (decide (y<0)))]<|zJ<|yD N ?_ ?_
  ·intro bN N;refine yE<|yF 1 [] [38] rfl<|zEs 0 zExpr [hB b zExpr] rfl rfl rfl rfl<|yI [] [7] rfl<|xF<|zH<|zV<|zH ?_;obtain rfl:=zC N;exact xC ⟨_,_,(.cell 0 rfl rfl (by kernel_rfl) (.tmp rfl ResV.nil)),zO,⟨_,_,rfl,rfl,⟨_,rfl,(xT ⟨_,_,_,rfl,(SL.nil _),(SL.nil _),(SL.nil _)⟩)⟩,rfl⟩⟩
  intro bN N;refine zU<|xA<|yF 4 [] [40,42,43] rfl<|bE N λs1 aJ N=>zGg rfl aJ ?_;obtain⟨⟨y2,y3⟩,bb,N⟩:=zB N;refine xO (dG s1 _ bb ) ?_;rintro aQ ax v2 k2 aE - ⟨v01,v02,rfl,rfl,⟨cs,rfl,h1⟩,rfl⟩ -;obtain⟨p,c,rfl,h3⟩:=yO h1;refine yF 9 [] [46,47] rfl<|uB [z0,vI 0] ?_;intro b2 hb1;refine xP 0 (cAff y2 p c) rfl<|wG [] []<|xA<|qA 4 [0] [(49,vA [vI 2,vI 0,vS p y2.Coefs c,vI y2.Const,vT ([]),z0,z0]),(51,vI (W (y+1)))]<|xP 1 [vI 2,vI 0,vS p y2.Coefs c,vI y2.Const,vT ([]),z0,z0] rfl<|yI [] [7] rfl<|xF<|zV<|zH ?_;obtain rfl:=zC N;exact xC ⟨_,_,(.cell 1 rfl rfl (by kernel_rfl) (.tmp rfl ResV.nil)),zO,⟨_,_,rfl,rfl,⟨_,rfl,(xT ⟨_,_,_,rfl,h3,(SL.nil _),(SL.nil _)⟩)⟩,rfl⟩⟩
 intro bI N;refine yA ?_;refine wE N [hB b zExpr] (λt52=>[(0,vT s.l),(1,vI at0),(2,vI ai),(6,vP b 0),(52,.bool t52)]) (λaM aA=>?_) ?_
 ·have H:=iS I0;refine zK<|yF 2 [] [53,54] rfl ?_;obtain⟨b3,bt,N⟩:=zB aA;refine zAJ rfl rfl bt<|yF 5 [] [57] rfl<|xW [57] N ?_ ?_
  ·intro hc5 N;exact yF 7 [] [58,59] rfl<|bE N λb4 bH N=>zAJ rfl rfl bH<|yI [] [52] rfl<|yN<|zT (ct N H)
  intro hc5 N;exact wG [] [(52,vF)]<|yN<|zT (ct N H)
 intro t52 bz aK hMc1;refine zJ<|yD hMc1 ?_ ?_
 ·intro hc6 N;refine yE<|yF 2 [] [64,65] rfl ?_;obtain⟨⟨y5,y6⟩,hy6,N⟩:=zB N;refine xO (fW s at0 _ hy6 ) ?_;rintro bK ax v2 k2 bi - ⟨v04,v05,rfl,rfl,⟨aC,rfl,h4⟩,rfl⟩ -;obtain⟨p1,c1,rfl,h6⟩:=oH h4;refine yF 6 [] [67,68] rfl<|uB [vT ([]),z0] ?_;intro b5 hb2;refine xP 0 (cAccess y5 p1 c1) rfl<|yI [] [12] rfl<|xA<|qA 3 [0] [(70,vA [vI 3,vI 0,z0,vI 0,vT y5.Array.l,vS p1 y5.Subs c1,z0]),(71,vI y6)]<|xP 1 [vI 3,vI 0,z0,vI 0,vT y5.Array.l,vS p1 y5.Subs c1,z0] rfl<|yI [] [7] rfl<|xF<|zV<|zH ?_;obtain rfl:=zC N;exact xC ⟨_,_,(.cell 1 rfl rfl (by kernel_rfl) (.tmp rfl ResV.nil)),zO,⟨_,_,rfl,rfl,⟨_,rfl,(xT ⟨_,_,_,rfl,(SL.nil _),h6,(SL.nil _)⟩)⟩,rfl⟩⟩
 intro hc6 N;refine yE<|yF 2 [] [73,74] rfl<|bE N λb6 hy7 N=>zAJ rfl rfl hy7<|yI [] [72] rfl<|zJ<|yD N ?_ ?_
 ·intro hc7 N;refine yE<|yF 5 [] [77,79,81] rfl ?_;obtain⟨⟨y8,y9⟩,hy8,N⟩:=zB N;refine xO (ih_spec_l3Round s (W (at0+1)) (W (ai - 1)) _ hy8 ) ?_;rintro bO ax v2 k2 bw - ⟨v07,v08,rfl,rfl,⟨aO,rfl,h7⟩,rfl⟩ -;obtain⟨p2,c2,p3,c3,p4,c4,rfl,h9,h10,h11⟩:=tA h7;refine yF 8 [] [83,84] rfl<|xP 0 (cExpr y8 p2 c2 p3 c3 p4 c4) rfl<|yI [] [7] rfl<|xF<|zV<|zH ?_;obtain rfl:=zC N;exact xC ⟨_,_,(.cell 0 rfl rfl (by kernel_rfl) (.tmp rfl ResV.nil)),zO,⟨_,_,rfl,rfl,⟨_,rfl,(xT ⟨_,_,_,rfl,h9,h10,h11⟩)⟩,rfl⟩⟩
 intro hc7 N;refine zU<|zP<|xA<|yF 2 [] [86,87] rfl ?_;obtain⟨⟨y11,y12⟩,hy9,N⟩:=zB N;refine xO (zAi s at0 _ hy9 ) ?_;rintro I06 ax v2 k2 bD - ⟨v012,v013,rfl,rfl,rfl,rfl⟩ -;refine yI [] [13,14] rfl<|zZ<|yG [93] rfl<|zJ<|yD N ?_ ?_
 ·intro hc8 N;refine yE<|yF 1 [] [94] rfl<|zEs 0 zExpr [hB b zExpr] rfl rfl rfl rfl<|yI [] [7] rfl<|xF<|zH ?_;obtain rfl:=zC N;exact xC ⟨_,_,(.cell 0 rfl rfl (by kernel_rfl) (.tmp rfl ResV.nil)),zO,⟨_,_,rfl,rfl,⟨_,rfl,(xT ⟨_,_,_,rfl,(SL.nil _),(SL.nil _),(SL.nil _)⟩)⟩,rfl⟩⟩
 intro hc8 N;refine zU<|xA<|yF 3 [] [96,97] rfl<|xP 0 [vI 1,vI y11,z0,vI 0,vT ([]),z0,z0] rfl<|yI [] [7] rfl<|zJ<|yZ ?_;obtain rfl:=zC N;exact xC ⟨_,_,(.cell 0 rfl rfl (by kernel_rfl) (.tmp rfl ResV.nil)),zO,⟨_,_,rfl,rfl,⟨_,rfl,(xT ⟨_,_,_,rfl,(SL.nil _),(SL.nil _),(SL.nil _)⟩)⟩,rfl⟩⟩
theorem zFH:∀s at0 ai r,qM s at0 ai=some r->∀{I:Imm} ,RT 150 [vT s.l,vI at0,vI ai] I [] (fQ  r):=zE6.2
def sA(list:(List zA))(out:Str)(i:Int):Option (Str):=do
 if(decide (i<(list.length:Int))) then
  let am<-(do
   if(decide (i>0)) then
    let s<-cat out (⟨[44]⟩:Str)
    pure (id s)
   else
    pure (id out)
     : Option Str)
  let x<-idx list i
  let y<-mV x
  let s1<-cat am y
  sA list s1 (W (i+1))
 else
  pure (id out)
 partial_fixpoint
theorem zBY(list:(List zA)):∀(out:Str) (i:Int) (o:Str),sA list out i=some o->∀{B}{I0 I:Imm}{Q p c},I0.le I->(S4 I p list c)->NG Q->NO Q->(∀(I':Imm) (aj:Str),o=aj->I0.le I'->T 23 B Q (.exit 0) I' [] [(3,vT aj.l)])->J Tryz.prog 23 B (nav (bodyOf f192) [1,1,0,1,0]) Q I [] [(0,vS p list c),(3,vT out.l),(4,vI i)]:=by
 refine sA.partial_correctness list _ λaI ih out i o N B I0 I Q p c H h hg ho hx=>yR hg ho<|yA<|yG [8] rfl<|zJ<|yD N ?_ ?_
 ·intro hc N;refine zU<|zZ<|yH<|yA<|yG [12] rfl<|zJ ?_;refine wE N [] (λam=>[(0,vS p list c),(3,vT am.l),(4,vI i)]) (λo0 aB=>?_) ?_
  ·have H:=iS I;refine yD aB ?_ ?_
   ·intro aF N;exact zK<|yF 1 [] [13] rfl<|bE N λs hy N=>dS rfl hy<|yI [] [3] rfl<|yN<|zT (ct N H)
   intro aF N;exact zU<|yN<|zT (ct N H)
  intro am I0 le aN;have ⟨h,H⟩:=m2 le h H;refine zJ<|zK<|yF 3 [] [15,16,17] rfl ?_;obtain⟨x,ay,N⟩:=zB aN;refine xN rfl rfl h ay ?_;intro ad aL ap al;obtain⟨p1,c1,rfl,h1⟩:=yO al;refine xE 0 ap (cAff x p1 c1) (vA (cAff x p1 c1)) rfl<|bE N λy aJ N=>xO (zAD x _ aJ h1) ?_;rintro aU ax v2 k2 af - ⟨v01,rfl,rfl,rfl⟩ -;have ⟨h,H⟩:=m2 af h H;obtain⟨s1,bb,N⟩:=zB N;exact dS rfl bb<|yI [] [3] rfl<|zP<|zJ<|zK<|yI [] [4] rfl<|yS<|nU<|ih s1 (W (i+1)) _ N H h hg ho hx
 intro hc N;exact wZ<|yN<|hx _ _ (zC N).symm H
def mG(list:(List zA)):Option (Str):=do
 let aj<-sA list (⟨[]⟩:Str) 0
 pure (id aj)
theorem zCs:∀list r,mG list=some r->∀{I:Imm}{p c},(S4 I p list c)->RT 192 [vS p list c] I [] (rU  r):=by
 intro list r N I p c h;unfold mG at N;refine yJ func192 λB=>vK []<|wW [3] rfl<|zZ<|yG [4] rfl<|wC<|oA [(0,vS p list c),(3,vT ([])),(4,vI 0)] ?_;obtain⟨aM,aA,aH⟩:=zB N;refine zBY list (⟨[]⟩:Str) 0 aM aA iR h (λ_ _ _ h=>h) (λ_ _ h=>h) ?_;intro aQ aj heq1 aE;subst aM;refine zR<|wW [2] rfl<|zJ<|yZ ?_;obtain rfl:=zC aH;exact wV
def qU(a0:zI):Option (Str):=do
 let s<-cat a0.Array (⟨[91]⟩:Str)
 let y<-mG a0.Subs
 let s1<-cat s y
 let s2<-cat s1 (⟨[93]⟩:Str)
 pure (id s2)
theorem eU:∀a0 r,qU a0=some r->∀{I:Imm}{p c},(S4 I p a0.Subs c)->RT 171 [vA (cAccess a0 p c)] I [] (rU  r):=by
 intro a0 r N I p c h;unfold qU at N;refine yJ func171 λB=>?_;have H:=iS I;refine yE<|uH (cAccess a0 p c) ?_;intro b hb;refine wG [] []<|zJ<|yA ?_;obtain⟨s,hy,N⟩:=zB N;obtain⟨y,ay,N⟩:=zB N;obtain⟨s1,aJ,N⟩:=zB N;obtain⟨s2,bb,N⟩:=zB N;refine wX [.p (vP b 0) [],.p (vT a0.Array.l) [0],.q (vT s.l),.p (vP b 1) [],.p (vS p a0.Subs c) [0],.q (vT y.l),.q (vT s1.l),.q (vT s2.l)] [[],[(0,false)],[(1,false)],[],[(3,false)],[(4,false)],[(2,false),(5,false)],[(6,false)]] [hB b (cAccess a0 p c)] [] [(7,false)] (zX [0]) ?_ ?_
 ·refine Op<|Op<|Oq ?_<|Op<|Op<|Oq ?_<|Oq ?_<|Oq ?_<|On
  ·intro I1 hf af;exact yP [4] rfl<|dS rfl hy<|yT iR
  ·intro I1 hf af;refine yP [7] rfl ?_;have H:=iS I1;have h:=h.mono af;refine xO (zCs a0.Subs _ ay h) ?_;rintro I0 ax v2 k2 le - ⟨v0,rfl,rfl,rfl⟩ -;have H:=H.trans le;exact yT H
  ·intro I1 hf af;exact yP [5,8] rfl<|dS rfl aJ<|yT iR
  intro I1 hf af;exact yP [9] rfl<|dS rfl bb<|yT iR
 intro aU af;refine yP [10] rfl ?_;refine yI [] [2] rfl<|zJ<|yZ ?_;obtain rfl:=zC N;exact wV
def qD(e0:zF):Option (Str):=do
 if(e0.Kind==1) then
  let y<-qC e0.Num
  pure (id y)
 else
  if(e0.Kind==2) then
   let y1<-mV e0.Index
   let s<-cat (⟨[123]⟩:Str) y1
   let s1<-cat s (⟨[125]⟩:Str)
   pure (id s1)
  else
   if(e0.Kind==3) then
    let y2<-qU e0.Read
    pure (id y2)
   else
    let x<-idx e0.Kids 0
    let y3<-qD (same x)
    let s2<-cat (⟨[40]⟩:Str) y3
    let s3<-sslc (⟨[43,45,42]⟩:Str) (W (e0.Kind - 4)) (W ((W (e0.Kind - 4))+1))
    let s4<-cat s2 s3
    let x1<-idx e0.Kids 1
    let y4<-qD (same x1)
    let s5<-cat s4 y4
    let s6<-cat s5 (⟨[41]⟩:Str)
    pure (id s6)
 partial_fixpoint
theorem zGC:∀e0 r,qD e0=some r->∀{I:Imm}{p c p1 c1 p2 c2},(S4 I p e0.Index.Coefs c)->(S4 I p1 e0.Read.Subs c1)->(S4 I p2 e0.Kids c2)->RT 172 [vA (cExpr e0 p c p1 c1 p2 c2)] I [] (rU  r):=by
 refine qD.partial_correctness _ λF_spec_l3Text ih_spec_l3Text e0 r N I p c p1 c1 p2 c2 h h1 h2=>yJ func172 λB=>?_;have H:=iS I;refine yE<|uH (cExpr e0 p c p1 c1 p2 c2) ?_;intro b hb;refine wG [] []<|zZ<|yE<|yI [0] [4] rfl<|wC<|yG [5] rfl<|zJ<|yD N ?_ ?_
 ·intro hc N;refine yE<|yF 2 [0] [8] rfl<|bE N λy hy N=>xO (zAC e0.Num _ hy ) ?_;rintro I0 ax v2 k2 le - ⟨v0,rfl,rfl,rfl⟩ -;refine yI [] [2] rfl<|xF<|zV<|zH ?_;obtain rfl:=zC N;exact wV
 intro hc N;refine yG [10] rfl<|zJ<|yD N ?_ ?_
 ·intro aF N;refine yE<|qA 2 [0] [(13,vA (cAff e0.Index p c))]<|bE N λy1 ay N=>xO (zAD e0.Index _ ay h) ?_;rintro aU ax v2 k2 af - ⟨v01,rfl,rfl,rfl⟩ -;obtain⟨s,aJ,N⟩:=zB N;refine dS rfl aJ<|bE N λs1 bb N=>dS rfl bb<|yI [] [2] rfl<|xF<|zV<|zH ?_;obtain rfl:=zC N;exact wV
 intro aF N;refine yG [17] rfl<|zJ<|yD N ?_ ?_
 ·intro bd N;refine yE<|qA 2 [0] [(20,vA (cAccess e0.Read p1 c1))]<|bE N λy2 bt N=>xO (eU e0.Read _ bt h1) ?_;rintro aQ ax v2 k2 aE - ⟨v02,rfl,rfl,rfl⟩ -;refine yI [] [2] rfl<|xF<|zV<|zH ?_;obtain rfl:=zC N;exact wV
 intro bd N;refine zU<|zP<|zJ<|yA ?_;obtain⟨x,bH,N⟩:=zB N;obtain⟨y3,hy6,N⟩:=zB N;obtain⟨s2,hy7,N⟩:=zB N;obtain⟨s3,hy8,N⟩:=zB N;obtain⟨s4,hy9,N⟩:=zB N;obtain⟨x1,hy10,N⟩:=zB N;obtain⟨y4,hy11,N⟩:=zB N;obtain⟨s5,hy12,N⟩:=zB N;obtain⟨s6,hy13,N⟩:=zB N;refine wX [.p (vP b 6) [],.p (vS p2 e0.Kids c2) [0],.x (ePExpr x),.x (eVExpr x),.q (vT y3.l),.q (vT s2.l),.p (vP b 0) [],.p (vI e0.Kind) [0],.p (vI (W (e0.Kind - 4))) [],.p (vP b 0) [],.p (vI e0.Kind) [0],.p (vI (W (e0.Kind - 4))) [],.p (vI (W ((W (e0.Kind - 4))+1))) [],.q (vT s3.l),.q (vT s4.l),.p (vP b 6) [],.p (vS p2 e0.Kids c2) [0],.x (ePExpr x1),.x (eVExpr x1),.q (vT y4.l),.q (vT s5.l),.q (vT s6.l)] [[],[(0,false)],[(1,false)],[(2,false)],[(3,false)],[(4,false)],[],[(6,false)],[(7,false)],[],[(9,false)],[(10,false)],[(11,false)],[(8,false),(12,false)],[(5,false),(13,false)],[],[(15,false)],[(16,false)],[(17,false)],[(18,false)],[(14,false),(19,false)],[(20,false)]] [hB b (cExpr e0 p c p1 c1 p2 c2)] [] [(21,false)] (zX [0]) ?_ ?_
 ·refine Op<|Op<|Ox ?_<|Ox ?_<|Oq ?_<|Oq ?_<|Op<|Op<|Op<|Op<|Op<|Op<|Op<|Oq ?_<|Oq ?_<|Op<|Op<|Ox ?_<|Ox ?_<|Oq ?_<|Oq ?_<|Oq ?_<|On
  ·intro I1 hf af;refine yP [23] rfl ?_;have h2:=h2.mono af;refine xN rfl rfl h2 bH ?_;intro ad aL ap al;obtain⟨p3,c3,p4,c4,p5,c5,rfl,h6,h7,h8⟩:=tA al;exact yK [] iR ⟨_,_,_,_,_,_,_,rfl,rfl,ap,h6,h7,h8⟩
  ·rintro I1 hf af _ _ ⟨ad,p3,c3,p4,c4,p5,c5,rfl,rfl,ap,h6,h7,h8⟩;exact yP [24] rfl<|xE 0 ap (cExpr x p3 c3 p4 c4 p5 c5) (vA (cExpr x p3 c3 p4 c4 p5 c5)) rfl<|yK [] iR ⟨_,_,_,_,_,_,rfl,rfl,h6,h7,h8⟩
  ·rintro I1 hf af _ _ ⟨p31,c31,p41,c41,p51,c51,rfl,rfl,h61,h71,h81⟩;refine yP [25] rfl ?_;have H:=iS I1;refine xO (ih_spec_l3Text x _ hy6 h61 h71 h81) ?_;rintro bz ax v2 k2 aK - ⟨v06,rfl,rfl,rfl⟩ -;have H:=H.trans aK;exact yT H
  ·intro I1 hf af;exact yP [26] rfl<|dS rfl hy7<|yT iR
  ·intro I1 hf af;exact yP [30,34] rfl<|zGg rfl hy8<|yT iR
  ·intro I1 hf af;exact yP [27,35] rfl<|dS rfl hy9<|yT iR
  ·intro I1 hf af;refine yP [38] rfl ?_;have h2:=h2.mono af;refine xN rfl rfl h2 hy10 ?_;intro ad1 bv ar az;obtain⟨p6,c6,p7,c7,p8,c8,rfl,h10,h11,h12⟩:=tA az;exact yK [] iR ⟨_,_,_,_,_,_,_,rfl,rfl,ar,h10,h11,h12⟩
  ·rintro I1 hf af _ _ ⟨ad1,p6,c6,p7,c7,p8,c8,rfl,rfl,ar,h10,h11,h12⟩;exact yP [39] rfl<|xE 0 ar (cExpr x1 p6 c6 p7 c7 p8 c8) (vA (cExpr x1 p6 c6 p7 c7 p8 c8)) rfl<|yK [] iR ⟨_,_,_,_,_,_,rfl,rfl,h10,h11,h12⟩
  ·rintro I1 hf af _ _ ⟨p61,c61,p71,c71,p81,c81,rfl,rfl,h101,h111,h121⟩;refine yP [40] rfl ?_;have H:=iS I1;refine xO (ih_spec_l3Text x1 _ hy11 h101 h111 h121) ?_;rintro bK ax v2 k2 bi - ⟨v010,rfl,rfl,rfl⟩ -;have H:=H.trans bi;exact yT H
  ·intro I1 hf af;exact yP [36,41] rfl<|dS rfl hy12<|yT iR
  intro I1 hf af;exact yP [42] rfl<|dS rfl hy13<|yT iR
 intro bO bw;refine yP [43] rfl ?_;refine yI [] [2] rfl<|zJ<|yZ ?_;obtain rfl:=zC N;exact wV
def mH(s:zQ):Option (Str):=do
 let y<-sO s 4
 if(!y) then
  pure (⟨[]⟩:Str)
 else
  let y1<-qU s.Write
  let s1<-cat y1 (⟨[61]⟩:Str)
  let y2<-qD s.Value
  let s2<-cat s1 y2
  pure (id s2)
theorem zCt:∀s r,mH s=some r->∀{I:Imm}{p c p1 c1 p2 c2 p3 c3},(S4 I p s.Write.Subs c)->(S4 I p1 s.Value.Index.Coefs c1)->(S4 I p2 s.Value.Read.Subs c2)->(S4 I p3 s.Value.Kids c3)->RT 151 [vA (cStmt s p c p1 c1 p2 c2 p3 c3)] I [] (rU  r):=by
 intro s r N I p c p1 c1 p2 c2 p3 c3 h h1 h2 h3;unfold mH at N;refine yJ func151 λB=>?_;have H:=iS I;refine yE<|uH (cStmt s p c p1 c1 p2 c2 p3 c3) ?_;intro b hb;refine wG [] []<|zZ<|yE<|qA 1 [0] [(3,vA (cStmt s p c p1 c1 p2 c2 p3 c3))]<|bE N λy hy N=>vV (fO s 4 _ hy h h1 h2 h3) ?_;intro I0 le;have ⟨h,h1,h2,h3,H⟩:=m5 le h h1 h2 h3 H;refine yI [] [5] rfl<|zJ<|yD N ?_ ?_
 ·intro hc N;refine yG [2] rfl<|xF<|zH ?_;obtain rfl:=zC N;exact wV
 intro hc N;refine zU<|zJ<|yA ?_;obtain⟨y1,ay,N⟩:=zB N;obtain⟨s1,aJ,N⟩:=zB N;obtain⟨y2,bb,N⟩:=zB N;obtain⟨s2,bt,N⟩:=zB N;refine wX [.p (vP b 0) [],.p (vA (cAccess s.Write p c)) [0],.q (vT y1.l),.q (vT s1.l),.p (vP b 2) [],.p (vA (cExpr s.Value p1 c1 p2 c2 p3 c3)) [0],.q (vT y2.l),.q (vT s2.l)] [[],[(0,false)],[(1,false)],[(2,false)],[],[(4,false)],[(5,false)],[(3,false),(6,false)]] [hB b (cStmt s p c p1 c1 p2 c2 p3 c3)] [] [(7,false)] (zX [0]) ?_ ?_
 ·refine Op<|Op<|Oq ?_<|Oq ?_<|Op<|Op<|Oq ?_<|Oq ?_<|On
  ·intro I1 hf af;refine yP [7] rfl ?_;have H:=iS I1;have h:=h.mono af;refine xO (eU s.Write _ ay h) ?_;rintro aU ax v2 k2 af - ⟨v01,rfl,rfl,rfl⟩ -;have H:=H.trans af;exact yT H
  ·intro I1 hf af;exact yP [8] rfl<|dS rfl aJ<|yT iR
  ·intro I1 hf af;refine yP [11] rfl ?_;have H:=iS I1;have ⟨h1,h2,h3⟩:=m3 af h1 h2 h3;refine xO (zGC s.Value _ bb h1 h2 h3) ?_;rintro aQ ax v2 k2 aE - ⟨v02,rfl,rfl,rfl⟩ -;have H:=H.trans aE;exact yT H
  intro I1 hf af;exact yP [9,12] rfl<|dS rfl bt<|yT iR
 intro bz aK;refine yP [13] rfl ?_;refine yI [] [2] rfl<|zJ<|yZ ?_;obtain rfl:=zC N;exact wV
def zCT(r:zQ×Bool):KT:=λkk I' ah v=>
 ∃v0 v1,ah=[]/\v=tupV [v0,v1]/\(∃cs,v0=.agg ⟨cs⟩/\Rp.rep I' cs r.1)/\v1=.bool r.2
def kK(bx:Str):Option (zQ×Bool):=do
 if(decide ((bx.l.length:Int)<4)) then
  pure ((zQ.mk (zI.mk (⟨[]⟩:Str) ([]:List zA)) (zF.mk 0 0 (zA.mk ([]:List Int) 0) (zI.mk (⟨[]⟩:Str) ([]:List zA)) ([]:List zF))),false)
 else
  let (y1,y2)<-rV bx 0
  let t25<-(do
   if(decide (y2<0)) then
    pure true
   else
    pure (decide (y2>=(bx.l.length:Int)))
     : Option Bool)
  if t25 then
   pure ((zQ.mk (zI.mk (⟨[]⟩:Str) ([]:List zA)) (zF.mk 0 0 (zA.mk ([]:List Int) 0) (zI.mk (⟨[]⟩:Str) ([]:List zA)) ([]:List zF))),false)
  else
   let (y4,y5)<-qM bx (W (y2+1)) 5
   let y6<-mH (zQ.mk y1 y4)
   if(!(y6.l==bx.l)) then
    pure ((zQ.mk (zI.mk (⟨[]⟩:Str) ([]:List zA)) (zF.mk 0 0 (zA.mk ([]:List Int) 0) (zI.mk (⟨[]⟩:Str) ([]:List zA)) ([]:List zF))),false)
   else
    pure ((zQ.mk y1 y4),true)
theorem zDf:∀bx r,kK bx=some r->∀{I:Imm} ,RT 114 [vT bx.l] I [] (zCT  r):=by
 intro bx r N I;unfold kK at N;refine yJ func114 λB=>?_;have H:=iS I;refine yE<|uB [vT ([]),z0,vI 0,vI 0,z0,vI 0,vT ([]),z0,z0] ?_;intro b hb;refine wG [] []<|zZ<|yG [11] rfl<|zJ<|yD N ?_ ?_
 ·intro hc N;refine yE<|yF 1 [] [12] rfl<|xP 0 [vT ([]),z0,vI 0,vI 0,z0,vI 0,vT ([]),z0,z0] rfl<|wG [] [(3,vF)]<|xF<|zH ?_;obtain rfl:=zC N;exact xC ⟨_,_,(.cell 0 rfl rfl (by kernel_rfl) (.tmp rfl ResV.nil)),zO,⟨_,_,rfl,rfl,⟨_,rfl,(wY ⟨_,_,_,_,rfl,(SL.nil _),(SL.nil _),(SL.nil _),(SL.nil _)⟩)⟩,rfl⟩⟩
 intro hc N;refine zU<|xA<|yF 1 [] [14] rfl ?_;obtain⟨⟨y1,y2⟩,hy,N⟩:=zB N;refine xO (fW bx 0 _ hy ) ?_;rintro I0 ax v2 k2 le - ⟨v0,v01,rfl,rfl,⟨cs,rfl,h⟩,rfl⟩ -;have H:=H.trans le;obtain⟨p,c,rfl,h2⟩:=oH h;refine yF 5 [] [16,17] rfl<|uB [vT ([]),z0] ?_;intro b1 hb1;refine xP 0 (cAccess y1 p c) rfl<|yI [] [5] rfl<|zZ<|yA ?_;refine wE N [hB b1 (cAccess y1 p c),hB b [vT ([]),z0,vI 0,vI 0,z0,vI 0,vT ([]),z0,z0]] (λt25=>[(0,vT bx.l),(2,vP b 0),(4,vP b1 0),(5,vI y2),(25,.bool t25)]) (λo0 aB=>?_) ?_
 ·have H:=iS I0;refine zK<|yF 3 [] [20] rfl<|xW [20] aB ?_ ?_
  ·intro aF N;exact wG [] [(25,vY)]<|yN<|zT (ct N H)
  intro aF N;exact yI [] [25] rfl<|yN<|zT (ct N H)
 intro t25 aU af aN;have h2:=h2.mono af;refine zJ<|yD aN ?_ ?_
 ·intro bd N;refine yE<|yF 1 [] [26] rfl<|xP 1 [vT ([]),z0,vI 0,vI 0,z0,vI 0,vT ([]),z0,z0] rfl<|wG [] [(3,vF)]<|xF<|zH ?_;obtain rfl:=zC N;exact xC ⟨_,_,(.cell 1 rfl rfl (by kernel_rfl) (.tmp rfl ResV.nil)),zO,⟨_,_,rfl,rfl,⟨_,rfl,(wY ⟨_,_,_,_,rfl,(SL.nil _),(SL.nil _),(SL.nil _),(SL.nil _)⟩)⟩,rfl⟩⟩
 intro bd N;refine zU<|xA<|yF 3 [] [28,30] rfl ?_;obtain⟨⟨y4,y5⟩,ay,N⟩:=zB N;refine xO (zFH bx (W (y2+1)) 5 _ ay ) ?_;rintro aQ ax v2 k2 aE - ⟨v03,v04,rfl,rfl,⟨aC,rfl,h3⟩,rfl⟩ -;have h2:=h2.mono aE;obtain⟨p1,c1,p2,c2,p3,c3,rfl,h5,h6,h7⟩:=tA h3;refine yF 7 [] [32,33] rfl<|uB zExpr ?_;intro b2 hb2;refine xP 0 (cExpr y4 p1 c1 p2 c2 p3 c3) rfl<|wG [] []<|xA<|qA 3 [1,0] [(36,vA [vT y1.Array.l,vS p y1.Subs c,vI y4.Kind,vI y4.Num,vS p1 y4.Index.Coefs c1,vI y4.Index.Const,vT y4.Read.Array.l,vS p2 y4.Read.Subs c2,vS p3 y4.Kids c3])]<|uB [vT ([]),z0,vI 0,vI 0,z0,vI 0,vT ([]),z0,z0] ?_;intro b3 hb3;refine xP 0 [vT y1.Array.l,vS p y1.Subs c,vI y4.Kind,vI y4.Num,vS p1 y4.Index.Coefs c1,vI y4.Index.Const,vT y4.Read.Array.l,vS p2 y4.Read.Subs c2,vS p3 y4.Kids c3] rfl<|yC rfl<|zZ<|yE<|qA 1 [0] [(37,vA [vT y1.Array.l,vS p y1.Subs c,vI y4.Kind,vI y4.Num,vS p1 y4.Index.Coefs c1,vI y4.Index.Const,vT y4.Read.Array.l,vS p2 y4.Read.Subs c2,vS p3 y4.Kids c3])]<|bE N λy6 aJ N=>xO (zCt (zQ.mk y1 y4) _ aJ h2 h5 h6 h7) ?_;rintro bz ax v2 k2 aK - ⟨v08,rfl,rfl,rfl⟩ -;have ⟨h2,h5,h6,h7⟩:=m4 aK h2 h5 h6 h7;refine yI [] [40] rfl<|zJ<|yD N ?_ ?_
 ·intro bI N;refine yE<|yF 1 [] [41] rfl<|xP 3 [vT ([]),z0,vI 0,vI 0,z0,vI 0,vT ([]),z0,z0] rfl<|wG [] [(3,vF)]<|xF<|zH ?_;obtain rfl:=zC N;exact xC ⟨_,_,(.cell 3 rfl rfl (by kernel_rfl) (.tmp rfl ResV.nil)),zO,⟨_,_,rfl,rfl,⟨_,rfl,(wY ⟨_,_,_,_,rfl,(SL.nil _),(SL.nil _),(SL.nil _),(SL.nil _)⟩)⟩,rfl⟩⟩
 intro bI N;refine zU<|xA<|qA 1 [0] [(42,vA [vT y1.Array.l,vS p y1.Subs c,vI y4.Kind,vI y4.Num,vS p1 y4.Index.Coefs c1,vI y4.Index.Const,vT y4.Read.Array.l,vS p2 y4.Read.Subs c2,vS p3 y4.Kids c3])]<|xP 3 [vT y1.Array.l,vS p y1.Subs c,vI y4.Kind,vI y4.Num,vS p1 y4.Index.Coefs c1,vI y4.Index.Const,vT y4.Read.Array.l,vS p2 y4.Read.Subs c2,vS p3 y4.Kids c3] rfl<|wG [] [(3,vY)]<|zJ<|yZ ?_;obtain rfl:=zC N;exact xC ⟨_,_,(.cell 3 rfl rfl (by kernel_rfl) (.tmp rfl ResV.nil)),zO,⟨_,_,rfl,rfl,⟨_,rfl,(wY ⟨_,_,_,_,rfl,h2,h5,h6,h7⟩)⟩,rfl⟩⟩
def zAZ(r:(List zE)×Bool):KT:=λkk I' ah v=>
 ∃v0 v1,ah=[]/\v=tupV [v0,v1]/\SL I' v0 r.1/\v1=.bool r.2
def qN(sizes:(List Int))(out:List zE)(i:Int):Option (Out (List zE) ((List zE)×Bool)):=do
 if(decide (i<(sizes.length:Int))) then
  let t28<-(do
   let x<-idx sizes i
   if(decide (x<0)) then
    pure true
   else
    let x1<-idx sizes i
    pure (decide (x1>99))
     : Option Bool)
  if t28 then
   pure (.ret (([]:List zE),false))
  else
   let y<-oE
   let x2<-idx sizes i
   let y1<-wM x2
   let am<-app 48 out ([(zE.mk ([y]:List zA) ([y1]:List zA))]:List zE)
   qN sizes am (W (i+1))
 else
  pure (.done out)
 partial_fixpoint
theorem zCu(sizes:(List Int)):∀(out:List zE) (i:Int) (o:Out (List zE) ((List zE)×Bool)),qN sizes out i=some o->∀{B}{I0 I:Imm}{Q p c p1 c1 cs},I0.le I->(S4 I p sizes c)->(RL I cs out)->NG Q->NO Q->(∀(I':Imm) (aj:List zE) (p2:Option Addr) (c2:Nat) (aC:List Value),o=(.done aj)->I0.le I'->(RL I' aC aj)->T 43 B Q (.exit 0) I' [hO zE (vS p2 aj c2) aC] [(4,vS p2 aj c2)])->(∀r I' ah m',o=(.ret r)->I0.le I'->RS Tryz.prog f115 B (zAZ  r) I' ah m'->T 43 B Q .ret I' ah m')->J Tryz.prog 43 B (nav (bodyOf f115) [1,1,1,0,1,0]) Q I [hO zE (vS p1 out c1) cs] [(0,vS p sizes c),(4,vS p1 out c1),(5,vI i)]:=by
 refine qN.partial_correctness sizes _ λaI ih out i o N B I0 I Q p c p1 c1 cs H h h3 hg ho hx hr=>yR hg ho<|yA<|yG [14] rfl<|zJ<|yD N ?_ ?_
 ·intro aF N;refine zU<|zZ<|yH<|yA<|yA ?_;refine wE N [hO zE (vS p1 out c1) cs] (λt28=>[(0,vS p sizes c),(4,vS p1 out c1),(5,vI i),(28,.bool t28)]) (λo0 aB=>?_) ?_
  ·have H:=iS I;refine zK<|yF 2 [] [17,18] rfl ?_;obtain⟨x,hy,N⟩:=zB aB;refine xN rfl rfl h hy ?_;intro ad aL ap al;obtain rfl:=al;refine xE 0 ap [vI x] (vI x) rfl<|yF 6 [] [22] rfl<|xW [22] N ?_ ?_
   ·intro bd N;exact wG [] [(28,vY)]<|yN<|zT (ct N H)
   intro bd N;refine yF 8 [] [23,24] rfl<|bE N λx1 ay N=>xN rfl rfl h ay ?_;intro ad1 bv ar az;obtain rfl:=az;exact xE 0 ar [vI x1] (vI x1) rfl<|yI [] [28] rfl<|yN<|zT (ct N H)
  intro t28 aU af aN;have ⟨h,h3,H⟩:=m3 af h h3 H;refine zJ<|yD aN ?_ ?_
  ·intro bI N;refine yE<|tU [] zE ?_;intro b1 hb1;have h5:RL aU [] ([]:List zE):=rfl;refine yI [] [2,3] rfl<|xF<|zH<|zV<|zH<|zH<|xB 0 rfl ?_;intro aQ aE hl01;have h6:=SL.of_frozen hl01 aE h5;have H:=H.trans aE;exact hr _ _ _ _ (zC N).symm H ⟨_,_,(.tmp rfl (.tmp rfl ResV.nil)),zO,⟨_,_,rfl,rfl,h6,rfl⟩⟩
  intro bI N;refine zU<|zJ ?_;obtain⟨y,aJ,N⟩:=zB N;obtain⟨x2,bb,N⟩:=zB N;obtain⟨y1,bt,N⟩:=zB N;obtain⟨am,bH,N⟩:=zB N;refine wX [.p (vS p1 out c1) [],.x (λI' v hx=>∃p3 c3 aO,v=vA (cAff y p3 c3)/\hx=[hO Int (vS p3 y.Coefs c3) aO]/\(RL I' aO y.Coefs)),.x (λI' v hx=>∃b2,v=vS (some ⟨b2,0,none⟩) ([y]:List zA) 1/\hx=[]/\(SL I' (vS (some ⟨b2,0,none⟩) ([y]:List zA) 1) ([y]:List zA))),.p (vS p sizes c) [],.p (vI i) [],.x (λI' v hx=>∃ad2,v=.pointer (some ad2)/\hx=[]/\(At I' ad2 [vI x2])),.q (vI x2),.x (λI' v hx=>∃p4 c4 aT,v=vA (cAff y1 p4 c4)/\hx=[hO Int (vS p4 y1.Coefs c4) aT]/\(RL I' aT y1.Coefs)),.x (λI' v hx=>∃b3,v=vS (some ⟨b3,0,none⟩) ([y1]:List zA) 1/\hx=[]/\(SL I' (vS (some ⟨b3,0,none⟩) ([y1]:List zA) 1) ([y1]:List zA))),.x (λI' v hx=>∃b21 b31,v=vA [vS (some ⟨b21,0,none⟩) ([y]:List zA) 1,vS (some ⟨b31,0,none⟩) ([y1]:List zA) 1]/\hx=[]/\(SL I' (vS (some ⟨b21,0,none⟩) ([y]:List zA) 1) ([y]:List zA))/\(SL I' (vS (some ⟨b31,0,none⟩) ([y1]:List zA) 1) ([y1]:List zA))),.x (λI' v hx=>∃b4,v=vS (some ⟨b4,0,none⟩) ([(zE.mk ([y]:List zA) ([y1]:List zA))]:List zE) 1/\hx=[]/\(SL I' (vS (some ⟨b4,0,none⟩) ([(zE.mk ([y]:List zA) ([y1]:List zA))]:List zE) 1) ([(zE.mk ([y]:List zA) ([y1]:List zA))]:List zE))),.x (λI' v hx=>∃p5 c5 br,v=vS p5 am c5/\hx=[hO zE (vS p5 am c5) br]/\(RL I' br am))] [[],[],[(1,true)],[],[],[(3,false),(4,false)],[(5,false)],[(6,false)],[(7,true)],[(2,false),(8,false)],[(9,false)],[(0,false),(10,false),(13,true)]] [] [[hO zE (vS p1 out c1) cs]] [(11,true)] (zX [0]) ?_ ?_
  ·refine Op<|Ox ?_<|Ox ?_<|Op<|Op<|Ox ?_<|Oq ?_<|Ox ?_<|Ox ?_<|Ox ?_<|Ox ?_<|Ox ?_<|On
   ·intro I1 hf af;refine dE [] ?_;have H:=iS I1;refine xO (kH  _ aJ ) ?_;rintro bz ax v2 k2 aK - ⟨p3,c3,aO,rfl,rfl,h7⟩ -;have H:=H.trans aK;exact yK [hO Int (vS p3 y.Coefs c3) aO] H ⟨_,_,_,rfl,rfl,h7⟩
   ·rintro I1 hf af _ _ ⟨p3,c3,aO,rfl,rfl,h7⟩;refine yP [31] rfl ?_;have H:=iS I1;refine xM 0 rfl ?_;intro bK bi hl02;have h8:=SL.of_frozen hl02 bi h7;have H:=H.trans bi;refine nV (rc y (yL ⟨_,rfl,h8⟩) rN) ?_;intro b2 bO bw h10;have H:=H.trans bw;exact yK [] H ⟨_,rfl,rfl,h10⟩
   ·intro I1 hf af;refine yP [33,34] rfl ?_;have h:=h.mono af;refine xN rfl rfl h bb ?_;intro ad2 bM aP aW;obtain rfl:=aW;exact yK [] iR ⟨_,rfl,rfl,aP⟩
   ·rintro I1 hf af _ _ ⟨ad2,rfl,rfl,aP⟩;exact yP [35] rfl<|xE 0 aP [vI x2] (vI x2) rfl<|yT iR
   ·intro I1 hf af;refine yP [36] rfl ?_;have H:=iS I1;refine xO (uF x2 _ bt ) ?_;rintro I06 ax v2 k2 bD - ⟨p4,c4,aT,rfl,rfl,h11⟩ -;have H:=H.trans bD;exact yK [hO Int (vS p4 y1.Coefs c4) aT] H ⟨_,_,_,rfl,rfl,h11⟩
   ·rintro I1 hf af _ _ ⟨p4,c4,aT,rfl,rfl,h11⟩;refine yP [37] rfl ?_;have H:=iS I1;refine xM 0 rfl ?_;intro I07 le7 hl04;have h12:=SL.of_frozen hl04 le7 h11;have H:=H.trans le7;refine nV (rc y1 (yL ⟨_,rfl,h12⟩) rN) ?_;intro b3 I08 le8 h14;have H:=H.trans le8;exact yK [] H ⟨_,rfl,rfl,h14⟩
   ·rintro I1 hf af _ _ ⟨b2,rfl,rfl,h10⟩ _ _ ⟨b3,rfl,rfl,h14⟩;exact yP [32,38] rfl<|rS 10 [(39,vA [vS (some ⟨b2,0,none⟩) ([y]:List zA) 1,vS (some ⟨b3,0,none⟩) ([y1]:List zA) 1])]<|yK [] iR ⟨_,_,rfl,rfl,h10,h14⟩
   ·rintro I1 hf af _ _ ⟨b21,b31,rfl,rfl,h101,h141⟩;refine yP [39] rfl ?_;have H:=iS I1;refine nV (rc (zE.mk ([y]:List zA) ([y1]:List zA)) (nQ ⟨_,_,rfl,h101,h141⟩) rN) ?_;intro b4 I09 le9 h16;have H:=H.trans le9;exact yK [] H ⟨_,rfl,rfl,h16⟩
   rintro I1 hf af _ _ ⟨rfl,rfl⟩ _ _ ⟨b4,rfl,rfl,h16⟩ _ _ rfl;refine yP [30,40] rfl ?_;have h3:=iM af h3;obtain⟨ccs3,k0,k01⟩:=h16;have h16:SL I1 (vS (some ⟨b4,0,none⟩) ([(zE.mk ([y]:List zA) ([y1]:List zA))]:List zE) 1) ([(zE.mk ([y]:List zA) ([y1]:List zA))]:List zE):=⟨_,k0,k01⟩;exact pC 150 2 0 rfl rfl rfl h3 (.inl k0) k01 bH λp5 c5 br h17=>uW (ah:=(hO zE (vS p5 am c5) br::hf)) rfl<|yK [hO zE (vS p5 am c5) br] iR ⟨_,_,_,rfl,rfl,h17⟩
  rintro bR le10 _ _ ⟨p5,c5,br,rfl,rfl,h17⟩;refine yP [0,5,41] rfl ?_;have ⟨h,H⟩:=m2 le10 h H;exact yI [] [4] rfl<|zP<|zJ<|zK<|yI [] [5] rfl<|yS<|nU<|ih am (W (i+1)) _ N H h h17 hg ho hx hr
 intro aF N;exact wZ<|yN<|hx _ _ _ _ _ (zC N).symm H h3
def gB(sizes:(List Int)):Option ((List zE)×Bool):=do
 if(decide ((sizes.length:Int)>4)) then
  pure (([]:List zE),false)
 else
  match<-qN sizes ([]:List zE) 0 with
  | .ret r0=>pure r0
  | .done aj=>
   pure (aj,true)
theorem zFI:∀sizes r,gB sizes=some r->∀{I:Imm}{p c},(S4 I p sizes c)->RT 115 [vS p sizes c] I [] (zAZ  r):=by
 intro sizes r N I p c h;unfold gB at N;refine yJ func115 λB=>vK []<|xA<|tU [] zE ?_;intro b hb;have h1:RL I [] ([]:List zE):=rfl;refine yI [] [4] rfl<|zZ<|yG [9] rfl<|zJ<|yD N ?_ ?_
 ·intro hc N;refine yG [2,3] rfl<|xF<|zH<|xB 0 rfl ?_;intro I0 le hl0;have h2:=SL.of_frozen hl0 le h1;obtain rfl:=zC N;exact xC ⟨_,_,(.tmp rfl (.tmp rfl ResV.nil)),zO,⟨_,_,rfl,rfl,h2,rfl⟩⟩
 intro hc N;refine zU<|zZ<|yG [5] rfl<|wC<|oA [(0,vS p sizes c),(4,vS (some ⟨b,0,none⟩) ([]:List zE) 0),(5,vI 0)] ?_;obtain⟨aM,aA,aH⟩:=zB N;refine zCu sizes ([]:List zE) 0 aM aA iR h h1 (λ_ _ _ h=>h) (λ_ _ h=>h) ?_ ?_
 ·intro bV aj p2 c2 aC heq1 le11 h4;subst aM;refine zR<|wW [2,3] rfl<|xF<|xB 0 rfl ?_;intro bU le12 hl07;have h18:=SL.of_frozen hl07 le12 h4;obtain rfl:=zC aH;exact xC ⟨_,_,(.tmp rfl (.tmp rfl ResV.nil)),zO,⟨_,_,rfl,rfl,h18,rfl⟩⟩
 intro r0 I9 hs9 m9 aR le9 aS;subst aR;refine zV<|zH ?_;obtain rfl:=zC aH;exact xC aS
def zAk(b0:Nat)(r:zN×zL):KT:=λkk I' ah v=>
 ∃v0 k0,ah=[.blk b0 ⟨k0⟩]/\v=tupV [v0]/\(∃cs,v0=.agg ⟨cs⟩/\Rp.rep I' cs r.1)/\Rp.rep I' k0 r.2
def pP(y1:(List zE))(Body2:List zQ)(n0:Int)(x6:zL):Option ((List zQ×zL)):=do
 if(decide (n0<5)) then
  let (y7,y8)<-gX x6 (y1.length:Int)
  let y9<-mT
  let (y11,y12)<-oG y9 (zN.mk y1 ([y7]:List zQ))
  if y12 then
   let l<-app 152 Body2 ([y7]:List zQ)
   pure (l,y8)
  else
   pP y1 Body2 (W (n0+1)) y8
 else
  pure (Body2,x6)
 partial_fixpoint
theorem zDg(y1:(List zE))(Body2:List zQ):∀(n0:Int) (x6:zL) (o:(List zQ×zL)),pP y1 Body2 n0 x6=some o->∀{B}{I0 I:Imm}{Q}{i:Int}{x:zN}{k0:Int}{aq:Nat}{b:Nat}{p1 c1 p2 c2 p7 c7}{b1:Nat}{p14 c14 aO p15 c15},I0.le I->(S4 I p7 y1 c7)->(S4 I p1 x.Nest c1)->(S4 I p2 x.Body c2)->(RL I aO Body2)->(S4 I p15 x6.b c15)->NG Q->NO Q->(∀(I':Imm) (Body3:List zQ) (x7:zL) (p16:Option Addr) (c16:Nat) (aT:List Value) (p17:Option Addr) (c17:Nat),o=(Body3,x7)->I0.le I'->(RL I' aT Body3)->(S4 I' p17 x7.b c17)->T 81 B Q (.exit 4) I' [hO zQ (vS p16 Body3 c16) aT,hB aq (cRd x7 p17 c17),hB b1 [vS p7 y1 c7,vS p16 Body3 c16],hB b (cPart x p1 c1 p2 c2)] [(0,vP aq 0),(2,vP b 0),(3,vI i),(4,vP b1 0),(5,vI k0)])->J Tryz.prog 81 B (nav (bodyOf f77) [1,0,1,0,0,1,0,0,1,0,1,0,0,1,0,0,1,0]) Q I [hO zQ (vS p14 Body2 c14) aO,hB aq (cRd x6 p15 c15),hB b1 [vS p7 y1 c7,vS p14 Body2 c14],hB b (cPart x p1 c1 p2 c2)] [(0,vP aq 0),(2,vP b 0),(3,vI i),(4,vP b1 0),(5,vI k0),(6,vI n0)]:=by
 refine pP.partial_correctness y1 Body2 _ λaI ih n0 x6 o N B I0 I Q i x k0 aq b p1 c1 p2 c2 p7 c7 b1 p14 c14 aO p15 c15 H h7 h1 h2 h20 h21 hg ho hx=>yR hg ho<|yA<|yG [31] rfl<|zJ<|yD N ?_ ?_
 ·intro bd N;refine zU<|zZ<|yH<|yE<|yF 4 [2] [34,37] rfl<|qE (zX [1,0,2,3] (ah:=[hB aq (cRd x6 p15 c15),hO zQ (vS p14 Body2 c14) aO,hB b1 [vS p7 y1 c7,vS p14 Body2 c14],hB b (cPart x p1 c1 p2 c2)])) ?_;obtain⟨⟨y7,y8⟩,aJ,N⟩:=zB N;refine rC (zFy x6 (y1.length:Int) _ aJ h21) rfl ?_;rintro bz ax v2 k2 aK - ⟨v04,kk2,rfl,rfl,⟨br,rfl,h24⟩,h25⟩ -;have ⟨h20,h7,h1,h2,H⟩:=m5 aK h20 h7 h1 h2 H;obtain⟨p18,c18,p19,c19,p20,c20,p21,c21,rfl,h26,h27,h28,h29⟩:=qF h24;obtain⟨p22,c22,rfl,h30⟩:=yB h25;refine uB [vT ([]),z0,vI 0,vI 0,z0,vI 0,vT ([]),z0,z0] ?_;intro b3 hb3;refine xP 0 (cStmt y7 p18 c18 p19 c19 p20 c20 p21 c21) rfl<|yC rfl<|zJ<|yA ?_;obtain⟨y9,bb,N⟩:=zB N;obtain⟨⟨y11,y12⟩,bt,N⟩:=zB N;refine wX [.x (eS y9),.p (vP b1 0) [],.p (vS p7 y1 c7) [3],.p (vA (cStmt y7 p18 c18 p19 c19 p20 c20 p21 c21)) [0],.x (λI' v hx=>∃b4,v=vS (some ⟨b4,0,none⟩) ([y7]:List zQ) 1/\hx=[]/\(SL I' (vS (some ⟨b4,0,none⟩) ([y7]:List zQ) 1) ([y7]:List zQ))),.x (λI' v hx=>∃b41,v=vA [vS p7 y1 c7,vS (some ⟨b41,0,none⟩) ([y7]:List zQ) 1]/\hx=[]/\(SL I' (vS (some ⟨b41,0,none⟩) ([y7]:List zQ) 1) ([y7]:List zQ))),.q (.tuple ⟨[vI y11,.bool y12]⟩),.p (.tuple ⟨[vI y11,.bool y12]⟩) [],.p (vI y11) [],.p (.bool y12) [],.p (vI y11) []] [[],[],[(1,false)],[],[(3,false)],[(2,false),(4,false)],[(0,false),(5,false)],[(6,false)],[(7,false)],[(7,false)],[(8,false)]] [hB b3 (cStmt y7 p18 c18 p19 c19 p20 c20 p21 c21),hB aq (cRd y8 p22 c22),hO zQ (vS p14 Body2 c14) aO,hB b1 [vS p7 y1 c7,vS p14 Body2 c14],hB b (cPart x p1 c1 p2 c2)] [] [(9,false)] (zX [0,1,2,3,4]) ?_ ?_
  ·refine Ox ?_<|Op<|Op<|Op<|Ox ?_<|Ox ?_<|Oq ?_<|Op<|Op<|Op<|Op<|On
   ·intro I1 hf af;refine dE [] ?_;have H:=iS I1;refine xO (fP  _ bb ) ?_;rintro bK ax v2 k2 bi - ⟨v010,rfl,rfl,h31⟩ -;have H:=H.trans bi;obtain⟨p23,c23,rfl⟩:=h31.form;exact yK [] H ⟨_,_,rfl,rfl,h31⟩
   ·intro I1 hf af;refine yP [43] rfl ?_;have H:=iS I1;have ⟨h26,h27,h28,h29⟩:=m4 af h26 h27 h28 h29;refine nV (rc y7 (wY ⟨_,_,_,_,rfl,h26,h27,h28,h29⟩) rN) ?_;intro b4 bO bw h33;have H:=H.trans bw;exact yK [] H ⟨_,rfl,rfl,h33⟩
   ·rintro I1 hf af _ _ ⟨rfl,rfl⟩ _ _ ⟨b4,rfl,rfl,h33⟩;refine yP [42,44] rfl ?_;exact rS 6 [(45,vA [vS p7 y1 c7,vS (some ⟨b4,0,none⟩) ([y7]:List zQ) 1])]<|yK [] iR ⟨_,rfl,rfl,h33⟩
   rintro I1 hf af _ _ ⟨p23,c23,rfl,rfl,h31⟩ _ _ ⟨b41,rfl,rfl,h331⟩;refine yP [40,45] rfl ?_;have H:=iS I1;have h7:=h7.mono af;refine xO (zAB y9 (zN.mk y1 ([y7]:List zQ)) _ bt h31 h7 h331) ?_;rintro I06 ax v2 k2 bD - ⟨v011,v012,rfl,rfl,rfl,rfl⟩ -;have H:=H.trans bD;exact yT H
  intro I07 le7;refine yP [0,2,3,4,5,6,7,48] rfl ?_;have ⟨h26,h27,h28,h29,h30,h20⟩:=m6 le7 h26 h27 h28 h29 h30 h20;have ⟨h7,h1,h2,H⟩:=m4 le7 h7 h1 h2 H;refine yI [] [9] rfl<|wW [49] rfl<|zJ<|yD N ?_ ?_
  ·intro bI N;refine yE<|qA 3 [3,0] [(51,vS p14 Body2 c14),(52,vA (cStmt y7 p18 c18 p19 c19 p20 c20 p21 c21))]<|tU (cStmt y7 p18 c18 p19 c19 p20 c20 p21 c21) zQ ?_;intro b5 hb5;have h36:RL I07 (cStmt y7 p18 c18 p19 c19 p20 c20 p21 c21) ([y7]:List zQ):=⟨(cStmt y7 p18 c18 p19 c19 p20 c20 p21 c21),_,rfl,rfl,(wY ⟨_,_,_,_,rfl,h26,h27,h28,h29⟩),rfl⟩;obtain⟨l,bH,N⟩:=zB N;refine pC 83 9 3 rfl rfl rfl h20 (.inr ⟨0,rfl⟩) h36 bH ?_;intro p24 c24 bC h37;exact qE (zX [1,2,3,4,5] (ah:=[hB b3 (cStmt y7 p18 c18 p19 c19 p20 c20 p21 c21),hB aq (cRd y8 p22 c22),hO zQ (vS p24 l c24) bC,hB b1 [vS p7 y1 c7,vS p14 Body2 c14],hB b (cPart x p1 c1 p2 c2)]))<|yF 6 [] [55] rfl<|xP 3 [vS p7 y1 c7,vS p24 l c24] rfl<|yC rfl<|zJ<|zH3<|zGe rfl<|fL<|fL<|xV (zW [2,1,3,4] rfl (by decide))<|yN<|hx _ _ _ _ _ _ _ _ (zC N).symm H h37 h30
  intro bI N;exact zU<|zP<|zJ<|zK<|yI [] [6] rfl<|yS<|jU (zW [2,1,3,4] rfl (by decide))<|nU<|ih (W (n0+1)) y8 _ N H h7 h1 h2 h20 h30 hg ho hx
 intro bd N;exact wZ<|yN<|hx _ _ _ _ _ _ _ _ (zC N).symm H h20 h21
def pQ(y1:(List zE))(k0:Int)(Body:List zQ)(x4:zL):Option ((List zQ×zL)):=do
 if(decide (k0>0)) then
  let (Body3,x7)<-pP y1 Body 0 x4
  pQ y1 (W (k0 - 1)) Body3 x7
 else
  pure (Body,x4)
 partial_fixpoint
theorem zDh(y1:(List zE)):∀(k0:Int) (Body:List zQ) (x4:zL) (o:(List zQ×zL)),pQ y1 k0 Body x4=some o->∀{B}{I0 I:Imm}{Q}{i:Int}{x:zN}{aq:Nat}{b:Nat}{p1 c1 p2 c2 p7 c7}{b1:Nat}{aZ bh cs aV bj},I0.le I->(S4 I p7 y1 c7)->(S4 I p1 x.Nest c1)->(S4 I p2 x.Body c2)->(RL I cs Body)->(S4 I aV x4.b bj)->NG Q->NO Q->(∀(I':Imm) (bk:List zQ) (x5:zL) (bB:Option Addr) (bo:Nat) (aC:List Value) (bm:Option Addr) (bu:Nat),o=(bk,x5)->I0.le I'->(RL I' aC bk)->(S4 I' bm x5.b bu)->T 81 B Q (.exit 2) I' [hO zQ (vS bB bk bo) aC,hB aq (cRd x5 bm bu),hB b1 [vS p7 y1 c7,vS bB bk bo],hB b (cPart x p1 c1 p2 c2)] [(0,vP aq 0),(2,vP b 0),(3,vI i),(4,vP b1 0)])->J Tryz.prog 81 B (nav (bodyOf f77) [1,0,1,0,0,1,0,0,1,0,1,0]) Q I [hO zQ (vS aZ Body bh) cs,hB aq (cRd x4 aV bj),hB b1 [vS p7 y1 c7,vS aZ Body bh],hB b (cPart x p1 c1 p2 c2)] [(0,vP aq 0),(2,vP b 0),(3,vI i),(4,vP b1 0),(5,vI k0)]:=by
 refine pQ.partial_correctness y1 _ λaI ih k0 Body x4 o N B I0 I Q i x aq b p1 c1 p2 c2 p7 c7 b1 aZ bh cs aV bj H h7 h1 h2 h16 h17 hg ho hx=>yR hg ho<|yA<|yG [27] rfl<|zJ<|yD N ?_ ?_
 ·intro aF N;refine zU<|zZ<|yH<|yG [6] rfl<|wC<|oA [(0,vP aq 0),(2,vP b 0),(3,vI i),(4,vP b1 0),(5,vI k0),(6,vI 0)] ?_;obtain⟨o0,aB,aH⟩:=zB N;refine zDg y1 Body 0 x4 o0 aB iR h7 h1 h2 h16 h17 (λ_ _ _ h=>hg _ _ _ h) (λ_ _ h=>ho _ _ h) ?_;intro I08 Body3 x7 p16 c16 aT p17 c17 heq le8 h22 h23;subst o0;have ⟨h7,h1,h2,H⟩:=m4 le8 h7 h1 h2 H;exact zR<|zP<|zJ<|zK<|yI [] [5] rfl<|yS<|nU<|ih (W (k0 - 1)) Body3 x7 _ aH H h7 h1 h2 h22 h23 hg ho hx
 intro aF N;exact wZ<|yN<|hx _ _ _ _ _ _ _ _ (zC N).symm H h16 h17
def pR(x:zN)(i:Int)(x1:zL):Option (Out (zN×zL) (zN×zL)):=do
 if(decide (i<4)) then
  let (y1,y2)<-gW x1
  let (y4,y5)<-yV y2 ([1,2,1,3]:List Int)
  let (bk,x5)<-pQ y1 y4 ([]:List zQ) y5
  let y13<-mT
  let (y15,y16)<-oG y13 (zN.mk y1 bk)
  let t66<-(do
   if y16 then
    pure (decide (y15<=40))
   else
    pure false
     : Option Bool)
  if t66 then
   pure (.ret ((zN.mk y1 bk),x5))
  else
   pR x (W (i+1)) x5
 else
  pure (.done (x,x1))
 partial_fixpoint
theorem zDi(x:zN):∀(i:Int) (x1:zL) (o:Out (zN×zL) (zN×zL)),pR x i x1=some o->∀{B}{I0 I:Imm}{Q}  {aq:Nat}{b:Nat}{p1 c1 p2 c2 p3 c3},I0.le I->(S4 I p1 x.Nest c1)->(S4 I p2 x.Body c2)->(S4 I p3 x1.b c3)->NG Q->NO Q->(∀(I':Imm) (x2:zN) (x3:zL) (p4:Option Addr) (c4:Nat) (p5:Option Addr) (c5:Nat) (p6:Option Addr) (c6:Nat),o=(.done (x2,x3))->I0.le I'->(S4 I' p4 x2.Nest c4)->(S4 I' p5 x2.Body c5)->(S4 I' p6 x3.b c6)->T 81 B Q (.exit 0) I' [hB b (cPart x2 p4 c4 p5 c5),hB aq (cRd x3 p6 c6)] [(2,vP b 0)])->(∀r I' ah m',o=(.ret r)->I0.le I'->RS Tryz.prog f77 B (zAk aq r) I' ah m'->T 81 B Q .ret I' ah m')->J Tryz.prog 81 B (nav (bodyOf f77) [1,0,1,0]) Q I [hB b (cPart x p1 c1 p2 c2),hB aq (cRd x1 p3 c3)] [(0,vP aq 0),(2,vP b 0),(3,vI i)]:=by
 refine pR.partial_correctness x _ λaI ih i x1 o N B I0 I Q aq b p1 c1 p2 c2 p3 c3 H h1 h2 h3 hg ho hx hr=>yR hg ho<|yA<|yG [17] rfl<|zJ<|yD N ?_ ?_
 ·intro hc N;refine zU<|zZ<|yH<|yE<|yF 1 [] [20] rfl<|qE (zX [1,0] (ah:=[hB aq (cRd x1 p3 c3),hB b (cPart x p1 c1 p2 c2)])) ?_;obtain⟨⟨y1,y2⟩,hy,N⟩:=zB N;refine rC (zFw x1 _ hy h3) rfl ?_;rintro I0 ax v2 k2 le - ⟨v0,kk,rfl,rfl,h7,h8⟩ -;have ⟨h1,h2,H⟩:=m3 le h1 h2 H;obtain⟨p7,c7,rfl⟩:=h7.form;obtain⟨p8,c8,rfl,h9⟩:=yB h8;refine yF 3 [] [22] rfl<|uB zTwo ?_;intro b1 hb1;refine xP 0 [vS p7 y1 c7,z0] rfl<|yC rfl<|zZ<|yE<|yF 1 [] [23] rfl<|nV (rI [1,2,1,3]) ?_;intro b2 aU af h11;have ⟨h7,h9,h1,h2,H⟩:=m5 af h7 h9 h1 h2 H;refine qE (zX [1,0,2] (ah:=[hB aq (cRd y2 p8 c8),hB b1 [vS p7 y1 c7,z0],hB b (cPart x p1 c1 p2 c2)])) ?_;obtain⟨⟨y4,y5⟩,ay,N⟩:=zB N;refine rC (xJ y2 ([1,2,1,3]:List Int) _ ay h9 h11) rfl ?_;rintro aQ ax v2 k2 aE - ⟨v02,kk1,rfl,rfl,rfl,h13⟩ -;have ⟨h7,h1,h2,H⟩:=m4 aE h7 h1 h2 H;obtain⟨p9,c9,rfl,h14⟩:=yB h13;refine yI [] [5] rfl<|wC<|oA [(0,vP aq 0),(2,vP b 0),(3,vI i),(4,vP b1 0),(5,vI y4)]<|dW zQ λh15=>?_;obtain⟨aM,aA,hMl1⟩:=zB N;refine zDh y1 y4 ([]:List zQ) y5 aM aA iR h7 h1 h2 h15 h14 (λ_ _ _ h=>hg _ _ _ h) (λ_ _ h=>ho _ _ h) ?_;intro I09 bk x5 bB bo aC bm bu heq1 le9 h18 h19;subst aM;have ⟨h7,h1,h2,H⟩:=m4 le9 h7 h1 h2 H;refine zR<|zZ<|nO 0 rfl ?_;intro bR le10 hl02;have h38:=SL.of_frozen hl02 le10 h18;have ⟨h19,h7,h1,h2,H⟩:=m5 le10 h19 h7 h1 h2 H;obtain⟨y13,hy6,N⟩:=zB hMl1;obtain⟨⟨y15,y16⟩,hy7,N⟩:=zB N;refine wX [.x (eS y13),.p (vA [vS p7 y1 c7,vS bB bk bo]) [1],.q (.tuple ⟨[vI y15,.bool y16]⟩),.p (.tuple ⟨[vI y15,.bool y16]⟩) [],.p (vI y15) [],.p (.bool y16) [],.p (vI y15) []] [[],[],[(0,false),(1,false)],[(2,false)],[(3,false)],[(3,false)],[(4,false)]] [hB aq (cRd x5 bm bu),hB b1 [vS p7 y1 c7,vS bB bk bo],hB b (cPart x p1 c1 p2 c2)] [] [(5,false),(6,false)] (zX [0,1,2]) ?_ ?_
  ·refine Ox ?_<|Op<|Oq ?_<|Op<|Op<|Op<|Op<|On
   ·intro I1 hf af;refine dE [] ?_;have H:=iS I1;refine xO (fP  _ hy6 ) ?_;rintro bV ax v2 k2 le11 - ⟨v013,rfl,rfl,h39⟩ -;have H:=H.trans le11;obtain⟨p25,c25,rfl⟩:=h39.form;exact yK [] H ⟨_,_,rfl,rfl,h39⟩
   rintro I1 hf af _ _ ⟨p25,c25,rfl,rfl,h39⟩;refine yP [57,58] rfl ?_;have H:=iS I1;have ⟨h7,h38⟩:=m2 af h7 h38;refine xO (zAB y13 (zN.mk y1 bk) _ hy7 h39 h7 h38) ?_;rintro bU ax v2 k2 le12 - ⟨v014,v015,rfl,rfl,rfl,rfl⟩ -;have H:=H.trans le12;exact yT H
  intro I013 le13;refine yP [0,2,3,4,10,61] rfl ?_;have ⟨h19,h7,h38,h1,h2,H⟩:=m6 le13 h19 h7 h38 h1 h2 H;refine yI [] [11] rfl<|zJ<|yA ?_;refine wE N [hB aq (cRd x5 bm bu),hB b1 [vS p7 y1 c7,vS bB bk bo],hB b (cPart x p1 c1 p2 c2)] (λt66=>[(0,vP aq 0),(2,vP b 0),(3,vI i),(4,vP b1 0),(66,.bool t66)]) (λo02 ho02=>?_) ?_
  ·have H:=iS I013;refine zK<|yF 2 [] [63] rfl<|xW [63] ho02 ?_ ?_
   ·intro bN N;exact yI [] [66] rfl<|yN<|zT (ct N H)
   intro bN N;exact wG [] [(66,vF)]<|yN<|zT (ct N H)
  intro t66 I014 le14 aN;have ⟨h19,h7,h38,h1,h2,H⟩:=m6 le14 h19 h7 h38 h1 h2 H;refine zJ<|yD aN ?_ ?_
  ·intro hc5 N;exact yE<|qA 1 [1] [(67,vA [vS p7 y1 c7,vS bB bk bo])]<|xP 2 [vS p7 y1 c7,vS bB bk bo] rfl<|yC rfl<|xF<|zV<|zH<|zH<|hr _ _ _ _ (zC N).symm H ⟨_,_,(.cell 2 rfl rfl (by kernel_rfl) ResV.nil),(zW [0] rfl (by decide)),⟨_,_,rfl,rfl,⟨_,rfl,(rB ⟨_,_,rfl,h7,h38⟩)⟩,(yU ⟨_,rfl,h19⟩)⟩⟩
  intro hc5 N;exact zU<|zP<|zJ<|zK<|yI [] [3] rfl<|yS<|jU (zW [2,0] rfl (by decide))<|nU<|ih (W (i+1)) x5 _ N H h1 h2 h19 hg ho hx hr
 intro hc N;exact wZ<|yN<|hx _ _ _ _ _ _ _ _ _ (zC N).symm H h1 h2 h3
def fB(r0:zL):Option (zN×zL):=do
 match<-pR (zN.mk ([]:List zE) ([]:List zQ)) 0 r0 with
 | .ret r0=>pure r0
 | .done (x2,x3)=>
  let (y18,y19)<-kK (⟨[65,91,105,93,61,40,65,91,105,93,43,123,105,125,41]⟩:Str)
  let (y21,y22)<-gB ([4]:List Int)
  pure ((zN.mk y21 ([y18]:List zQ)),x3)
theorem zGD:∀r0 r,fB r0=some r->∀{I:Imm}{aq:Nat}{p c},(S4 I p r0.b c)->RT 77 [vP aq 0] I [hB aq (cRd r0 p c)] (zAk aq r):=by
 intro r0 r N I aq p c h;unfold fB at N;refine yJ func77 λB=>yE<|uB zTwo ?_;intro b hb;refine yC rfl<|zZ<|yG [3] rfl<|wC<|oA [(0,vP aq 0),(2,vP b 0),(3,vI 0)] ?_;obtain⟨o03,ho03,hMl2⟩:=zB N;refine zDi (zN.mk ([]:List zE) ([]:List zQ)) 0 r0 o03 ho03 iR (SL.nil _) (SL.nil _) h (λ_ _ _ h=>h) (λ_ _ h=>h) ?_ ?_
 ·intro I015 x2 x3 p4 c4 p5 c5 p6 c6 heq3 le15 h4 h5 h6;subst o03;refine zR<|zZ<|zK ?_;obtain⟨⟨y18,y19⟩,hy8,N⟩:=zB hMl2;refine xO (zDf (⟨[65,91,105,93,61,40,65,91,105,93,43,123,105,125,41]⟩:Str) _ hy8 ) ?_;rintro I016 ax v2 k2 le16 - ⟨v016,v017,rfl,rfl,⟨cs6,rfl,h42⟩,rfl⟩ -;have h6:=h6.mono le16;obtain⟨p26,c26,p27,c27,p28,c28,p29,c29,rfl,h44,h45,h46,h47⟩:=qF h42;refine yF 4 [] [70,71] rfl<|uB [vT ([]),z0,vI 0,vI 0,z0,vI 0,vT ([]),z0,z0] ?_;intro b6 hb6;refine xP 0 (cStmt y18 p26 c26 p27 c27 p28 c28 p29 c29) rfl<|wG [] []<|xA<|nV (rI [4]) ?_;intro b7 I017 le17 h49;have ⟨h44,h45,h46,h47,h6⟩:=m5 le17 h44 h45 h46 h47 h6;obtain⟨⟨y21,y22⟩,hy9,N⟩:=zB N;refine xO (zFI ([4]:List Int) _ hy9 h49) ?_;rintro I018 ax v2 k2 le18 - ⟨v022,v023,rfl,rfl,h50,rfl⟩ -;have ⟨h44,h45,h46,h47,h6⟩:=m5 le18 h44 h45 h46 h47 h6;obtain⟨p30,c30,rfl⟩:=h50.form;refine yI [] [14] rfl<|xA<|qA 2 [0] [(77,vS p30 y21 c30),(78,vA (cStmt y18 p26 c26 p27 c27 p28 c28 p29 c29))]<|tU (cStmt y18 p26 c26 p27 c27 p28 c28 p29 c29) zQ ?_;intro b8 hb8;have h52:RL I018 (cStmt y18 p26 c26 p27 c27 p28 c28 p29 c29) ([y18]:List zQ):=⟨(cStmt y18 p26 c26 p27 c27 p28 c28 p29 c29),_,rfl,rfl,(wY ⟨_,_,_,_,rfl,h44,h45,h46,h47⟩),rfl⟩;refine yF 4 [] [80] rfl<|xP 2 [vS p30 y21 c30,vS (some ⟨b8,0,none⟩) ([y18]:List zQ) 1] rfl<|yC rfl<|xF<|xB 0 rfl ?_;intro I019 le19 hl04;have h53:=SL.of_frozen hl04 le19 h52;have ⟨h50,h6⟩:=m2 le19 h50 h6;obtain rfl:=zC N;exact xC ⟨_,_,(.cell 1 rfl rfl (by kernel_rfl) ResV.nil),(zW [2] rfl (by decide)),⟨_,_,rfl,rfl,⟨_,rfl,(rB ⟨_,_,rfl,h50,h53⟩)⟩,(yU ⟨_,rfl,h6⟩)⟩⟩
 intro r0 I9 hs9 m9 aR le9 aS;subst aR;refine zV<|zH ?_;obtain rfl:=zC hMl2;exact xC aS
def zE7(b0:Nat)(r:zD×zL):KT:=λkk I' ah v=>
 ∃v0 k0,ah=[.blk b0 ⟨k0⟩]/\v=tupV [v0]/\(∃cs,v0=.agg ⟨cs⟩/\Rp.rep I' cs r.1)/\Rp.rep I' k0 r.2
def pS(i:Int)(Parts:List zN)(x:zL):Option ((List zN×zL)):=do
 if(decide (i>0)) then
  let (y5,y6)<-fB x
  let l<-app 48 Parts ([y5]:List zN)
  pS (W (i - 1)) l y6
 else
  pure (Parts,x)
 partial_fixpoint
theorem zDj :∀(i:Int) (Parts:List zN) (x:zL) (o:(List zN×zL)),pS i Parts x=some o->∀{B}{I0 I:Imm}{Q}{y:(List zG)}{aq:Nat}{b:Nat}{p1 c1}{b1:Nat}{p3 c3 cs p4 c4},I0.le I->(S4 I p1 y c1)->(RL I cs Parts)->(S4 I p4 x.b c4)->NG Q->NO Q->(∀(I':Imm) (aX:List zN) (x1:zL) (p5:Option Addr) (c5:Nat) (aC:List Value) (p6:Option Addr) (c6:Nat),o=(aX,x1)->I0.le I'->(RL I' aC aX)->(S4 I' p6 x1.b c6)->T 29 B Q (.exit 0) I' [hO zN (vS p5 aX c5) aC,hB aq (cRd x1 p6 c6),hB b1 [vS p1 y c1,vS p5 aX c5],hB b zTwo] [(2,vP b 0),(3,vP b1 0)])->J Tryz.prog 29 B (nav (bodyOf f41) [1,1,0,1,0]) Q I [hO zN (vS p3 Parts c3) cs,hB aq (cRd x p4 c4),hB b1 [vS p1 y c1,vS p3 Parts c3],hB b zTwo] [(0,vP aq 0),(2,vP b 0),(3,vP b1 0),(4,vI i)]:=by
 refine pS.partial_correctness  _ λaI ih i Parts x o N B I0 I Q y aq b p1 c1 b1 p3 c3 cs p4 c4 H h1 h8 h9 hg ho hx=>yR hg ho<|yA<|yG [11] rfl<|zJ<|yD N ?_ ?_
 ·intro hc N;refine zU<|zZ<|yH ?_;obtain⟨⟨y5,y6⟩,aJ,N⟩:=zB N;obtain⟨l,bb,N⟩:=zB N;refine wX [.p (vP b1 1) [],.p (vS p3 Parts c3) [0],.p (vP aq 0) [],.x (λI' v hx=>∃p7 c7 p8 c8 p9 c9,v=vA (cPart y5 p7 c7 p8 c8)/\hx=[hB aq (cRd y6 p9 c9)]/\(S4 I' p7 y5.Nest c7)/\(S4 I' p8 y5.Body c8)/\(S4 I' p9 y6.b c9)),.x (λI' v hx=>∃b3,v=vS (some ⟨b3,0,none⟩) ([y5]:List zN) 1/\hx=[]/\(SL I' (vS (some ⟨b3,0,none⟩) ([y5]:List zN) 1) ([y5]:List zN))),.x (λI' v hx=>∃aZ bh aT,v=vS aZ l bh/\hx=[hO zN (vS aZ l bh) aT]/\(RL I' aT l))] [[],[(0,false)],[],[(2,false),(8,true)],[(3,false)],[(1,false),(4,false),(9,true)]] [hB b1 [vS p1 y c1,vS p3 Parts c3],hB b zTwo] [[hB aq (cRd x p4 c4)],[hO zN (vS p3 Parts c3) cs]] [(3,true),(5,true)] (zX [2,3,1,0]) ?_ ?_
  ·refine Op<|Op<|Op<|Ox ?_<|Ox ?_<|Ox ?_<|On
   ·rintro I1 hf af _ _ ⟨rfl,rfl⟩ _ _ rfl;refine yP [16] rfl ?_;have H:=iS I1;have h9:=h9.mono af;refine rC (zGD x _ aJ h9) rfl ?_;rintro bz ax v2 k2 aK - ⟨v03,kk1,rfl,rfl,⟨aO,rfl,h12⟩,h13⟩ -;have H:=H.trans aK;obtain⟨p7,c7,p8,c8,rfl,h14,h15⟩:=tB h12;obtain⟨p9,c9,rfl,h16⟩:=yB h13;exact yK [hB aq (cRd y6 p9 c9)] H ⟨_,_,_,_,_,_,rfl,rfl,h14,h15,h16⟩
   ·rintro I1 hf af _ _ ⟨p7,c7,p8,c8,p9,c9,rfl,rfl,h14,h15,h16⟩;refine yP [17] rfl ?_;have H:=iS I1;refine nV (rc y5 (rB ⟨_,_,rfl,h14,h15⟩) rN) ?_;intro b3 bK bi h18;have H:=H.trans bi;exact yK [] H ⟨_,rfl,rfl,h18⟩
   rintro I1 hf af _ _ ⟨rfl,rfl⟩ _ _ ⟨b3,rfl,rfl,h18⟩ _ _ rfl;refine yP [15,18] rfl ?_;have h8:=iM af h8;obtain⟨aL,k0,k01⟩:=h18;have h18:SL I1 (vS (some ⟨b3,0,none⟩) ([y5]:List zN) 1) ([y5]:List zN):=⟨_,k0,k01⟩;exact pC 70 2 0 rfl rfl rfl h8 (.inl k0) k01 bb λaZ bh aT h19=>uW (ah:=(hO zN (vS aZ l bh) aT::hB b1 [vS p1 y c1,vS p3 Parts c3]::hB b zTwo::hf)) rfl<|yK [hO zN (vS aZ l bh) aT] iR ⟨_,_,_,rfl,rfl,h19⟩
  rintro bO bw _ _ ⟨p7,c7,p8,c8,p9,c9,rfl,rfl,h14,h15,h16⟩ _ _ ⟨aZ,bh,aT,rfl,rfl,h19⟩;refine yP [0,2,3,4,19] rfl ?_;have ⟨h1,H⟩:=m2 bw h1 H;exact yF 7 [] [20] rfl<|xP 2 [vS p1 y c1,vS aZ l bh] rfl<|yC rfl<|zP<|zJ<|zK<|yI [] [4] rfl<|yS<|nU<|ih (W (i - 1)) l y6 _ N H h1 h19 h16 hg ho hx
 intro hc N;exact wZ<|yN<|hx _ _ _ _ _ _ _ _ (zC N).symm H h8 h9
def fC(r0:zL):Option (zD×zL):=do
 let y<-mT
 let (y2,y3)<-yV r0 ([1,2,1,3]:List Int)
 let (aX,x1)<-pS y2 ([]:List zN) y3
 let y7<-tM (zD.mk y aX)
 if y7 then
  pure ((zD.mk y aX),x1)
 else
  let y8<-mT
  let l1<-slc aX 0 1
  pure ((zD.mk y8 l1),x1)
theorem zGE:∀r0 r,fC r0=some r->∀{I:Imm}{aq:Nat}{p c},(S4 I p r0.b c)->RT 41 [vP aq 0] I [hB aq (cRd r0 p c)] (zE7 aq r):=by
 intro r0 r N I aq p c h;unfold fC at N;refine yJ func41 λB=>?_;have H:=iS I;refine yE<|uB zTwo ?_;intro b hb;refine yC rfl<|xA<|bE N λy hy N=>xO (fP  _ hy ) ?_;rintro I0 ax v2 k2 le - ⟨v0,rfl,rfl,h1⟩ -;have ⟨h,H⟩:=m2 le h H;obtain⟨p1,c1,rfl⟩:=h1.form;refine yF 2 [] [6] rfl<|uB zTwo ?_;intro b1 hb1;refine xP 0 [vS p1 y c1,z0] rfl<|yC rfl<|zZ<|yE<|yF 1 [] [7] rfl<|nV (rI [1,2,1,3]) ?_;intro b2 aU af h3;have ⟨h1,h,H⟩:=m3 af h1 h H;refine qE (zX [2,0,1] (ah:=[hB aq (cRd r0 p c),hB b1 [vS p1 y c1,z0],hB b zTwo])) ?_;obtain⟨⟨y2,y3⟩,ay,N⟩:=zB N;refine rC (xJ r0 ([1,2,1,3]:List Int) _ ay h h3) rfl ?_;rintro aQ ax v2 k2 aE - ⟨v01,kk,rfl,rfl,rfl,h5⟩ -;have ⟨h1,H⟩:=m2 aE h1 H;obtain⟨p2,c2,rfl,h6⟩:=yB h5;refine yI [] [4] rfl<|wC<|oA [(0,vP aq 0),(2,vP b 0),(3,vP b1 0),(4,vI y2)]<|dW zN λh7=>?_;obtain⟨o0,aB,aH⟩:=zB N;refine zDj y2 ([]:List zN) y3 o0 aB iR h1 h7 h6 (λ_ _ _ h=>h) (λ_ _ h=>h) ?_;intro I06 aX x1 p5 c5 aC p6 c6 heq bD h10 h11;subst o0;have ⟨h1,H⟩:=m2 bD h1 H;refine zR<|zZ<|yE<|qA 1 [2] [(21,vA [vS p1 y c1,vS p5 aX c5])]<|xM 0 rfl ?_;intro I07 le7 hl02;have h20:=SL.of_frozen hl02 le7 h10;have ⟨h1,h11,H⟩:=m3 le7 h1 h11 H;obtain⟨y7,bt,N⟩:=zB aH;refine vV (eT (zD.mk y aX) _ bt h1 h20) ?_;intro I08 le8;have ⟨h11,h1,h20,H⟩:=m4 le8 h11 h1 h20 H;refine yC rfl<|zJ<|yD N ?_ ?_
 ·intro aF N;refine yE<|qA 1 [1] [(23,vA [vS p1 y c1,vS p5 aX c5])]<|xP 2 [vS p1 y c1,vS p5 aX c5] rfl<|yC rfl<|xF<|zH ?_;obtain rfl:=zC N;exact xC ⟨_,_,(.cell 2 rfl rfl (by kernel_rfl) ResV.nil),(zW [0] rfl (by decide)),⟨_,_,rfl,rfl,⟨_,rfl,(oK ⟨_,_,rfl,h1,h20⟩)⟩,(yU ⟨_,rfl,h11⟩)⟩⟩
 intro aF N;refine zU<|zJ<|yA ?_;obtain⟨y8,bH,N⟩:=zB N;obtain⟨l1,hy6,N⟩:=zB N;refine wX [.x (eS y8),.p (vP b1 1) [],.p (vS p5 aX c5) [1],.x (eS l1),.x (λI' v hx=>∃p111 c111 p121 c121,v=vA [vS p111 y8 c111,vS p121 l1 c121]/\hx=[]/\(S4 I' p111 y8 c111)/\(S4 I' p121 l1 c121))] [[],[],[(1,false)],[(2,false)],[(0,false),(3,false)]] [hB aq (cRd x1 p6 c6),hB b1 [vS p1 y c1,vS p5 aX c5],hB b zTwo] [] [(4,false)] (zX [0,1,2]) ?_ ?_
 ·refine Ox ?_<|Op<|Op<|Ox ?_<|Ox ?_<|On
  ·intro I1 hf af;refine dE [] ?_;have H:=iS I1;refine xO (fP  _ bH ) ?_;rintro I09 ax v2 k2 le9 - ⟨v08,rfl,rfl,h22⟩ -;have H:=H.trans le9;obtain⟨aV,bj,rfl⟩:=h22.form;exact yK [] H ⟨_,_,rfl,rfl,h22⟩
  ·intro I1 hf af;refine yP [26] rfl ?_;have h20:=h20.mono af;refine zNm rfl h20 hy6 ?_;intro v09 h23;obtain⟨bB,bo,rfl⟩:=h23.form;exact yK [] iR ⟨_,_,rfl,rfl,h23⟩
  rintro I1 hf af _ _ ⟨aV,bj,rfl,rfl,h22⟩ _ _ ⟨bB,bo,rfl,rfl,h23⟩;exact yP [24,27] rfl<|rS 5 [(28,vA [vS aV y8 bj,vS bB l1 bo])]<|yK [] iR ⟨_,_,_,_,rfl,rfl,h22,h23⟩
 rintro bR le10 _ _ ⟨p111,c111,p121,c121,rfl,rfl,h221,h231⟩;refine yP [2,28] rfl ?_;have h11:=h11.mono le10;refine xP 2 [vS p111 y8 c111,vS p121 l1 c121] rfl<|yC rfl<|zJ<|yZ ?_;obtain rfl:=zC N;exact xC ⟨_,_,(.cell 2 rfl rfl (by kernel_rfl) ResV.nil),(zW [0] rfl (by decide)),⟨_,_,rfl,rfl,⟨_,rfl,(oK ⟨_,_,rfl,h221,h231⟩)⟩,(yU ⟨_,rfl,h11⟩)⟩⟩
def gD(r:zD):KT:=λkk I' ah v=>
 ∃v0,ah=[]/\v=tupV [v0]/\(∃cs,v0=.agg ⟨cs⟩/\Rp.rep I' cs r)
def rW(code:(List UInt8)):Option (zD):=do
 let y<-jW code
 let (y2,y3)<-fC y
 let (y5,y6)<-qV y3 y2
 pure (id y5)
theorem zA5:∀code r,rW code=some r->∀{I:Imm}{p c},(S4 I p code c)->RT 18 [vS p code c] I [] (gD  r):=by
 intro code r N I p c h;unfold rW at N;refine yJ func18 λB=>yE<|uB zTwo ?_;intro b hb;refine yC rfl<|xA<|yF 1 [] [4] rfl<|bE N λy hy N=>xO (zEx code _ hy h) ?_;rintro I0 ax v2 k2 le - ⟨b1,p1,c1,rfl,rfl,h1⟩ -;refine yI [] [3] rfl<|xA<|yF 2 [] [6,7] rfl ?_;obtain⟨⟨y2,y3⟩,ay,N⟩:=zB N;refine rC (zGE y _ ay h1) rfl ?_;rintro aU ax v2 k2 af - ⟨v0,kk,rfl,rfl,⟨cs,rfl,h2⟩,h3⟩ -;obtain⟨p2,c2,p3,c3,rfl,h4,h5⟩:=fG h2;obtain⟨p4,c4,rfl,h6⟩:=yB h3;obtain⟨⟨y5,y6⟩,aJ,N⟩:=zB N;refine rC (zET y3 y2 _ aJ h6 h4 h5) rfl ?_;rintro aQ ax v2 k2 aE - ⟨v04,kk1,rfl,rfl,⟨aC,rfl,h7⟩,h8⟩ -;obtain⟨p5,c5,p6,c6,rfl,h9,h10⟩:=fG h7;obtain⟨p7,c7,rfl,h11⟩:=yB h8;refine xP 1 (cProg y5 p5 c5 p6 c6) rfl<|yC rfl<|zJ<|yZ ?_;obtain rfl:=zC N;exact xC ⟨_,_,(.cell 1 rfl rfl (by kernel_rfl) ResV.nil),zO,⟨_,rfl,rfl,⟨_,rfl,(oK ⟨_,_,rfl,h9,h10⟩)⟩⟩⟩
def pD(code:(List UInt8)):Option (zD):=do
 let y<-rW code
 pure (id y)
theorem zBE:∀code r,pD code=some r->∀{I:Imm}{p c},(S4 I p code c)->RT 5 [vS p code c] I [] (gD  r):=by
 intro code r N I p c h;unfold pD at N;refine yJ func5 λB=>yE<|uB zTwo ?_;intro b hb;refine yC rfl<|xA<|yF 1 [] [3] rfl<|bE N λy hy N=>xO (zA5 code _ hy h) ?_;rintro I0 ax v2 k2 le - ⟨v0,rfl,rfl,⟨cs,rfl,h1⟩⟩ -;obtain⟨p1,c1,p2,c2,rfl,h2,h3⟩:=fG h1;refine xP 0 (cProg y p1 c1 p2 c2) rfl<|yC rfl<|zJ<|yZ ?_;obtain rfl:=zC N;exact xC ⟨_,_,(.cell 0 rfl rfl (by kernel_rfl) ResV.nil),zO,⟨_,rfl,rfl,⟨_,rfl,(oK ⟨_,_,rfl,h2,h3⟩)⟩⟩⟩
def nM(r:(List Int)):KT:=λkk I' ah v=>
 ∃v0,ah=[]/\v=tupV [v0]/\SL I' v0 r
def pT(deps:(List zY))(t13:Int)(aD:List Int)(t18:Int):Option (List Int):=do
 if(decide (t18<(deps.length:Int))) then
  let x<-idx deps t18
  let out5<-(do
   if(x.To==t13) then
    let x1<-idx aD t13
    let x2<-idx aD x.From
    let x3<-idx aD t13
    let l<-pure (aD.set t13.toNat (if(W (x2+1))>x1 then(W (x2+1)) else x1))
    pure (id l)
   else
    pure (id aD)
     : Option (List Int))
  pT deps t13 out5 (W (t18+1))
 else
  pure (id aD)
 partial_fixpoint
theorem zDk(deps:(List zY))(t13:Int):∀(aD:List Int) (t18:Int) (o:List Int),pT deps t13 aD t18=some o->∀{B}{I0 I:Imm}{Q}{out:List Int}{p c p3 c3 aT},I0.le I->(S4 I p deps c)->(RL I aT aD)->NG Q->NO Q->(∀(I':Imm) (bf:List Int) (p4:Option Addr) (c4:Nat) (br:List Value),o=bf->I0.le I'->(RL I' br bf)->T 43 B Q (.exit 2) I' [hO Int (vS p4 bf c4) br] [(0,vS p deps c),(5,vS p4 bf c4),(12,vI (out.length:Int)),(13,vI t13)])->J Tryz.prog 43 B (nav (bodyOf f24) [1,1,0,1,0,0,1,1,0,0,1,1,0]) Q I [hO Int (vS p3 aD c3) aT] [(0,vS p deps c),(5,vS p3 aD c3),(6,vI t13),(12,vI (out.length:Int)),(13,vI t13),(16,vS p deps c),(17,vI (deps.length:Int)),(18,vI t18)]:=by
 refine pT.partial_correctness deps t13 _ λaI ih aD t18 o N B I0 I Q out p c p3 c3 aT H h h4 hg ho hx=>yR hg ho<|yG [19] rfl<|zZ<|yD N ?_ ?_
 ·intro aF N;refine zU<|zZ<|yH<|yE<|bE N λx ay N=>xN rfl rfl h ay ?_;intro ad aL ap al;obtain rfl:=mQ al;refine xE 0 ap [vI x.From,vI x.To,vI x.Kinds] (vA [vI x.From,vI x.To,vI x.Kinds]) rfl<|uB [vI 0,vI 0,vI 0] ?_;intro b1 hb;refine xP 0 [vI x.From,vI x.To,vI x.Kinds] rfl<|yC rfl<|xA<|yI [0] [25] rfl<|zJ ?_;obtain⟨o0,aB,aN⟩:=zB N;refine pZ (λI' ah m'=>∃(out5:List Int) (p5:Option Addr) (c5:Nat) (bC:List Value),o0=out5/\I.le I'/\(RL I' bC out5)/\ah=[hO Int (vS p5 out5 c5) bC]/\m'=[(0,vS p deps c),(5,vS p5 out5 c5),(6,vI t13),(12,vI (out.length:Int)),(13,vI t13),(16,vS p deps c),(17,vI (deps.length:Int)),(18,vI t18)]) ?_ ?_
  ·have H:=iS I;refine yD aB ?_ ?_
   ·intro bd N;obtain⟨x1,aJ,N⟩:=zB N;obtain⟨x2,bb,N⟩:=zB N;refine wX [.p (vS p3 aD c3) [],.p (vI t13) [],.p (vS p3 aD c3) [],.p (vI t13) [],.x (λI' v hx=>∃ad1,v=.pointer (some ad1)/\hx=[]/\(AtO (vS p3 aD c3) (Rp.sz Int) t13.toNat ad1)/\((aT.drop (t13.toNat*Rp.sz Int)).take (Rp.sz Int)=[vI x1])),.q (vI x1),.p (vS p3 aD c3) [],.p (vP b1 0) [],.p (vI x.From) [0],.x (λI' v hx=>∃ad2,v=.pointer (some ad2)/\hx=[]/\(AtO (vS p3 aD c3) (Rp.sz Int) x.From.toNat ad2)/\((aT.drop (x.From.toNat*Rp.sz Int)).take (Rp.sz Int)=[vI x2])),.q (vI x2),.p (vI (W (x2+1))) [],.p (vI (if(W (x2+1))>x1 then(W (x2+1)) else x1)) []] [[],[],[],[],[(2,false),(3,false)],[(4,false)],[],[],[(7,false)],[(6,false),(8,false)],[(9,false)],[(10,false)],[(5,false),(11,false)]] [hB b1 [vI x.From,vI x.To,vI x.Kinds],hO Int (vS p3 aD c3) aT] [] [(0,false),(1,false),(12,false)] (zX [0,1]) ?_ ?_
    ·refine Op<|Op<|Op<|Op<|Ox ?_<|Oq ?_<|Op<|Op<|Op<|Ox ?_<|Oq ?_<|Op<|Op<|On
     ·intro I1 hf af;refine yP [28,29] rfl ?_;have h4:=iM af h4;refine nA 1 rfl rfl rfl h4 aJ ?_;intro ad1 bv ar bG az;obtain rfl:=az;exact yK [] iR ⟨_,rfl,rfl,ar,bG⟩
     ·rintro I1 hf af _ _ ⟨ad1,rfl,rfl,ar,bG⟩;exact yP [30] rfl<|zCJ 1 0 ar bG [vI x1] (vI x1) rfl rfl<|yT iR
     ·intro I1 hf af;refine yP [32,34] rfl ?_;have h4:=iM af h4;refine nA 1 rfl rfl rfl h4 bb ?_;intro ad2 bM aP hcc1 aW;obtain rfl:=aW;exact yK [] iR ⟨_,rfl,rfl,aP,hcc1⟩
     rintro I1 hf af _ _ ⟨ad2,rfl,rfl,aP,hcc1⟩;exact yP [35] rfl<|zCJ 1 0 aP hcc1 [vI x2] (vI x2) rfl rfl<|yT iR
    intro aU le;refine yP [0,5,6,12,13,16,17,18,26,27,38] rfl ?_;have ⟨h4,H⟩:=m2 le h4 H;obtain⟨x3,bt,N⟩:=zB N;refine nA 1 rfl rfl rfl h4 bt ?_;intro ad3 ccs3 hat3 hcc2 bq;obtain rfl:=bq;obtain⟨l,bH,N⟩:=zB N;refine tW (c:=[vI (if(W (x2+1))>x1 then(W (x2+1)) else x1)]) (x':=(if(W (x2+1))>x1 then(W (x2+1)) else x1)) 1 0 rfl rfl rfl hat3 rfl rfl hcc2 (by kernel_rfl) (by kernel_rfl) (by kernel_rfl) h4 bt (by kernel_rfl) rfl ?_;rw[show aD.set t13.toNat (if(W (x2+1))>x1 then(W (x2+1)) else x1)=l from zC bH];intro cs6 h7 hl0;exact oZ (m':=[(0,vS p deps c),(5,vS p3 aD c3),(6,vI t13),(12,vI (out.length:Int)),(13,vI t13),(16,vS p deps c),(17,vI (deps.length:Int)),(18,vI t18),(26,vS p3 aD c3),(27,vI t13),(38,vI (if(W (x2+1))>x1 then(W (x2+1)) else x1))]) ⟨rfl,rfl,rfl,rfl,rfl,rfl,rfl,rfl,rfl,rfl,rfl,trivial⟩<|fX (ah:=[hB b1 [vI x.From,vI x.To,vI x.Kinds],hO Int (vS p3 l c3) cs6]) (m':=[(0,vS p deps c),(5,vS p3 l c3),(6,vI t13),(12,vI (out.length:Int)),(13,vI t13),(16,vS p deps c),(17,vI (deps.length:Int)),(18,vI t18),(26,vS p3 l c3),(27,vI t13),(38,vI (if(W (x2+1))>x1 then(W (x2+1)) else x1))]) (by first|rfl|simp only[vS,hl0,cr,cU,cW,cQ,cH,cI]) (by first|rfl|simp only[vS,hl0])<|yC rfl<|xV (zW [1] rfl (by decide))<|yN<|zT ⟨_,_,_,_,(zC N).symm,H,h7,rfl,rfl⟩
   intro bd N;exact zU<|xV (zW [1] rfl (by decide))<|yN<|zT ⟨_,_,_,_,(zC N).symm,H,h4,rfl,rfl⟩
  rintro I0 ax m2 ⟨out5,p5,c5,bC,heq,af,h6,rfl,rfl⟩;subst o0;have ⟨h,H⟩:=m2 af h H;exact zP<|zJ<|zK<|yI [] [18] rfl<|yS<|nU<|ih out5 (W (t18+1)) _ aN H h h6 hg ho hx
 intro aF N;exact wZ<|yN<|hx _ _ _ _ _ (zC N).symm H h4
def sP(deps:(List zY))(out:List Int)(aj:List Int)(t13:Int):Option (List Int):=do
 if(decide (t13<(out.length:Int))) then
  let bf<-pT deps t13 aj 0
  sP deps out bf (W (t13+1))
 else
  pure (id aj)
 partial_fixpoint
theorem zDl(deps:(List zY))(out:List Int):∀(aj:List Int) (t13:Int) (o:List Int),sP deps out aj t13=some o->∀{B}{I0 I:Imm}{Q p c p1 c1 aC},I0.le I->(S4 I p deps c)->(RL I aC aj)->NG Q->NO Q->(∀(I':Imm) (am:List Int) (p2:Option Addr) (c2:Nat) (aO:List Value),o=am->I0.le I'->(RL I' aO am)->T 43 B Q (.exit 0) I' [hO Int (vS p2 am c2) aO] [(5,vS p2 am c2)])->J Tryz.prog 43 B (nav (bodyOf f24) [1,1,0,1,0]) Q I [hO Int (vS p1 aj c1) aC] [(0,vS p deps c),(5,vS p1 aj c1),(12,vI (out.length:Int)),(13,vI t13)]:=by
 refine sP.partial_correctness deps out _ λaI ih aj t13 o N B I0 I Q p c p1 c1 aC H h h2 hg ho hx=>yR hg ho<|yG [14] rfl<|zZ<|yD N ?_ ?_
 ·intro hc N;refine zU<|zZ<|yH<|yG [6] rfl<|wW [16,17,18] rfl<|wC<|oA [(0,vS p deps c),(5,vS p1 aj c1),(6,vI t13),(12,vI (out.length:Int)),(13,vI t13),(16,vS p deps c),(17,vI (deps.length:Int)),(18,vI 0)] ?_;obtain⟨aM,aA,aH⟩:=zB N;refine zDk deps t13 aj 0 aM aA iR h h2 (λ_ _ _ h=>hg _ _ _ h) (λ_ _ h=>ho _ _ h) ?_;intro aQ bf p4 c4 br heq1 aE h5;subst aM;have ⟨h,H⟩:=m2 aE h H;exact zR<|zP<|zJ<|zK<|yI [] [13] rfl<|yS<|nU<|ih bf (W (t13+1)) _ aH H h h5 hg ho hx
 intro hc N;exact wZ<|yN<|hx _ _ _ _ _ (zC N).symm H h2
def fD(deps:(List zY))(many:Int):Option ((List Int)):=do
 let out<-mkrow 8 many (0:Int)
 let am<-sP deps out out 0
 pure (id am)
theorem zGF:∀deps many r,fD deps many=some r->∀{I:Imm}{p c},(S4 I p deps c)->RT 24 [vS p deps c,vI many] I [] (nM  r):=by
 intro deps many r N I p c h;unfold fD at N;refine yJ func24 λB=>vK []<|xA<|yF 1 [] [9] rfl<|bE N λout hy N=>zMQ 8 [vI 0] rfl hy rfl λb cs h1=>yI [] [5] rfl<|zZ<|yG [12,13] rfl<|wC<|oA [(0,vS p deps c),(5,vS (some ⟨b,0,none⟩) out out.length),(12,vI (out.length:Int)),(13,vI 0)] ?_;obtain⟨o02,ho02,hMl1⟩:=zB N;refine zDl deps out out 0 o02 ho02 iR h h1 (λ_ _ _ h=>h) (λ_ _ h=>h) ?_;intro bz am p2 c2 aO heq2 aK h3;subst o02;refine zR<|wW [4] rfl<|xF<|xB 0 rfl ?_;intro bK bi hl01;have h8:=SL.of_frozen hl01 bi h3;obtain rfl:=zC hMl1;exact xC ⟨_,_,(.tmp rfl ResV.nil),zO,⟨_,rfl,rfl,h8⟩⟩
def xS(n0:Int)(low:Int)(high:Int):Option (Bool):=do
 let t6<-(do
  if(decide (low<=n0)) then
   pure (decide (n0<=high))
  else
   pure false
    : Option Bool)
 pure (id t6)
theorem xY:∀n0 low high r,xS n0 low high=some r->∀{I:Imm} ,RT 28 [vI n0,vI low,vI high] I [] (zS  r):=by
 intro n0 low high r N I;unfold xS at N;refine yJ func28 λB=>?_;have H:=iS I;refine vK []<|zJ<|yA ?_;refine wE N [] (λt6=>[(6,.bool t6)]) (λo0 aB=>?_) ?_
 ·have H:=iS I;refine zK<|yF 4 [] [10] rfl<|xW [10] aB ?_ ?_
  ·intro hc N;exact yI [] [6] rfl<|yN<|zT (ct N H)
  intro hc N;exact wG [] [(6,vF)]<|yN<|zT (ct N H)
 intro t6 I0 le aN;refine zJ<|yZ ?_;obtain rfl:=zC aN;exact wV
def kY(s:Str)(substr:Str):Option Bool:=match substr.l with|[c]=>some (decide (0<=Lib.indexByte s.l c))|_=>none
theorem zCU:∀(s substr:Str) r,kY s substr=some r->∀{I:Imm},RT 121 [vT s.l,vT substr.l] I [] (zS r):=by
 intro s substr r N I;unfold kY at N;split at N
 ·rename_i c hc;cases N
  rw[hc];exact zKW (λw g=>(Tryz.strings_Contains_one ⟨⟨s.l⟩⟩ c w).mono λe w' ⟨h1,h2⟩=>⟨h1,h2 ▸ RowKit.Below.refl _ _,Nat.le_of_eq (by rw[h2])⟩) λk=>⟨_,rfl,rfl,rfl⟩
 cases N
def kL(s:Str):Option (Bool):=do
 let t2<-(do
  if((s.l.length:Int)==1) then
   let y<-kY (⟨[65,66,67,68]⟩:Str) s
   pure (id y)
  else
   pure false
    : Option Bool)
 pure (id t2)
theorem oV:∀s r,kL s=some r->∀{I:Imm} ,RT 82 [vT s.l] I [] (zS  r):=by
 intro s r N I;unfold kL at N;refine yJ func82 λB=>?_;have H:=iS I;refine vK []<|zJ<|yA ?_;refine wE N [] (λt2=>[(2,.bool t2)]) (λo0 aB=>?_) ?_
 ·have H:=iS I;refine zK<|yF 4 [] [6] rfl<|xW [6] aB ?_ ?_
  ·intro hc N;refine yF 5 [] [7] rfl<|bE N λy hy N=>vV (zCU (⟨[65,66,67,68]⟩:Str) s _ hy ) ?_;intro aU le;have H:=H.trans le;exact yI [] [2] rfl<|yN<|zT (ct N H)
  intro hc N;exact wG [] [(2,vF)]<|yN<|zT (ct N H)
 intro t2 I0 af aN;refine zJ<|yZ ?_;obtain rfl:=zC aN;exact wV
def kT(aY:List HA)(r:Int):KT:=λkk I' ah v=>
 ∃v0,aY=ah/\v=tupV [v0]/\v0=.int .i64 r
def wD(s:(List Int))(f0:(Int->Option Bool))(t8:Int):Option (Out Unit (Int)):=do
 if(decide (t8<(s.length:Int))) then
  let x<-idx s t8
  let y<-f0 x
  if y then
   pure (.ret t8)
  else
   wD s f0 (W (t8+1))
 else
  pure (.done ())
 partial_fixpoint
theorem eE(s:(List Int))(f0:(Int->Option Bool)):∀(t8:Int) (o:Out Unit (Int)),wD s f0 t8=some o->∀{B}{I0 I:Imm}{Q p c}{fv:Value}{aY:List HA},I0.le I->(S4 I p s c)->(FV1 Tryz.prog I aY fv f0)->NG Q->NO Q->(∀(I':Imm) ,o=(.done ())->I0.le I'->T 19 B Q (.exit 0) I' aY [])->(∀r I' ah m',o=(.ret r)->I0.le I'->RS Tryz.prog f122 B (kT aY r) I' ah m'->T 19 B Q .ret I' ah m')->J Tryz.prog 19 B (nav (bodyOf f122) [1,0,1,0]) Q I aY [(0,vS p s c),(1,fv),(7,vI (s.length:Int)),(8,vI t8)]:=by
 refine wD.partial_correctness s f0 _ λaI ih t8 o N B I0 I Q p c fv aY H h h1 hg ho hx hr=>yR hg ho<|yG [9] rfl<|zZ<|yD N ?_ ?_
 ·intro hc N;refine zU<|zZ<|yH<|yG [5] rfl<|xA<|yF 3 [] [11,12,13] rfl<|bE N λx hy N=>xN rfl rfl h hy ?_;intro ad aL ap al;obtain rfl:=al;refine xE 0 ap [vI x] (vI x) rfl<|bE N λy ay N=>zIZ rfl rfl h1 ay rfl (cu _).symm ?_;rintro I0 v0 le rfl;refine uW (ah:=aY) (cu _) ?_;have ⟨h,h1,H⟩:=m3 le h h1 H;refine yC rfl<|zJ<|yD N ?_ ?_
  ·intro aF N;exact yG [4] rfl<|xF<|zV<|zH<|zH<|hr _ _ _ _ (zC N).symm H ⟨_,_,(.tmp rfl ResV.nil),(λ_ h=>h),⟨_,rfl,rfl,rfl⟩⟩
  intro aF N;exact zU<|zP<|zJ<|zK<|yI [] [8] rfl<|yS<|nU<|ih (W (t8+1)) _ N H h h1 hg ho hx hr
 intro hc N;exact wZ<|yN<|hx _  (zC N).symm H
def qO(s:(List Int))(f0:(Int->Option Bool)):Option (Int):=do
 match<-wD s f0 0 with
 | .ret r0=>pure r0
 | .done _=>
  pure (-1)
theorem dK:∀s f0 r,qO s f0=some r->∀{I:Imm}{p c}{fv:Value}{aY:List HA},(S4 I p s c)->(FV1 Tryz.prog I aY fv f0)->RT 122 [vS p s c,fv] I aY (kT aY r):=by
 intro s f0 r N I p c fv aY h h1;unfold qO at N;refine yJ func122 λB=>vK []<|zZ<|yG [7,8] rfl<|wC<|oA [(0,vS p s c),(1,fv),(7,vI (s.length:Int)),(8,vI 0)] ?_;obtain⟨o0,aB,aH⟩:=zB N;refine eE s f0 0 o0 aB iR h h1 (λ_ _ _ h=>h) (λ_ _ h=>h) ?_ ?_
 ·intro aU  heq af;subst o0;refine zR<|wW [4] rfl<|zJ<|yZ ?_;obtain rfl:=zC aH;exact xC ⟨_,_,(.tmp rfl ResV.nil),(λ_ h=>h),⟨_,rfl,rfl,rfl⟩⟩
 intro r0 I9 hs9 m9 aR le9 aS;subst aR;refine zV<|zH ?_;obtain rfl:=zC aH;exact xC aS
def fR(aY:List HA)(r:Bool):KT:=λkk I' ah v=>
 ∃v0,aY=ah/\v=tupV [v0]/\v0=.bool r
def xK(s:(List Int))(f0:(Int->Option Bool)):Option (Bool):=do
 let y<-qO s f0
 pure (decide (y>=0))
theorem sQ:∀s f0 r,xK s f0=some r->∀{I:Imm}{p c}{fv:Value}{aY:List HA},(S4 I p s c)->(FV1 Tryz.prog I aY fv f0)->RT 83 [vS p s c,fv] I aY (fR aY r):=by
 intro s f0 r N I p c fv aY h h1;unfold xK at N;refine yJ func83 λB=>vK []<|xA<|yF 2 [] [5,6] rfl<|bE N λy hy N=>zEG (hs1:=aY) (rest:=[]) rfl rfl rfl rfl (by kernel_rfl) rfl (cu _).symm (dK s f0 _ hy h h1) ?_;rintro I0 ax v2 k2 le - ⟨v0,rfl,rfl,rfl⟩ -;refine uW (ah:=aY) (cu _) ?_;refine yI [] [4] rfl<|zJ<|yZ ?_;obtain rfl:=zC N;exact xC ⟨_,_,(.tmp rfl ResV.nil),(λ_ h=>h),⟨_,rfl,rfl,rfl⟩⟩
def uU(n0:Int):Option (Bool):=do
 let y<-xS n0 1 6
 pure (!y)
theorem zAE:∀n0 r,uU n0=some r->∀{I:Imm} ,RT 84 [vI n0] I [] (zS  r):=by
 intro n0 r N I;unfold uU at N;refine yJ func84 λB=>vK []<|xA<|yF 1 [] [3] rfl<|bE N λy hy N=>vV (xY n0 1 6 _ hy ) λI0 le=>wG [] [(2,.bool (!y))]<|zJ<|yZ ?_;obtain rfl:=zC N;exact wV
end Go.LN
