/- Helper of the proof (see the last text). -/
import Derived.Test.YtkipogionmkncaaGreatDoorHM1
set_option linter.unusedVariables false
set_option linter.unusedSimpArgs false
namespace Go.LN
open Go.Proofs Go.Proofs.Tryz
set_option maxRecDepth 20000
def yA(r:Str):KT:=λkk I' af v=>
 ∃v0,af=[]/\v=tupV [v0]/\v0=.string ⟨⟨r.l⟩⟩
def sI(i:Int):Option Str:=if -9223372036854775808<=i/\i<=9223372036854775807 then some ⟨Lib.itoa i⟩ else none
theorem nX:∀i r,sI i=some r->∀{I:Imm},GH Tryz.prog I->RT 87 [vI i] I [] (yA r):=by
 intro i r N I hG;unfold sI at N;split at N
 ·rename_i hi;cases N
  exact zEU (λw g=>Tryz.strconv_Itoa i hi.1 hi.2 w (hG.tab g)) (λk=>⟨_,rfl,rfl,rfl⟩)
 cases N
def nJ(b0:Nat)(r:Str):KT:=λkk I' af v=>
 ∃k0,af=[.blk b0 ⟨k0⟩]/\v=tupV []/\Rp.rep I' k0 r
def vW(n0:Int)(x:Str):Option (Str):=do
 let x1<-(do
  if(decide (n0<0)) then
   let s<-cat x (⟨[45]⟩:Str)
   pure (id s)
  else
   let x2<-(do
    if(!(x.l==([]:List UInt8))) then
     let s1<-cat x (⟨[43]⟩:Str)
     pure (id s1)
    else
     pure (id x)
      : Option Str)
   pure (id x2)
    : Option Str)
 pure (id x1)
theorem qV:∀n0 x r,vW n0 x=some r->∀{I:Imm}{r0:Nat},RT 214 [vI n0,vP r0 0] I [hB r0 [vT x.l]] (nJ r0 r):=by
 intro n0 x r N I r0;unfold vW at N;refine yN func214 λB=>?_;have H:=iS I;refine yL [4] rfl<|zE ?_;obtain⟨o0,aC,aN⟩:=zC N;refine rZ (λI' af m'=>∃(x1:Str),o0=x1/\I.le I'/\af=[hB r0 [vT x1.l]]/\m'=[]) ?_ ?_
 ·have H:=iS I;refine yI aC ?_ ?_
  ·intro hc N;refine zF<|yE 1 [0] [5] rfl ?_;obtain⟨s,hy,N⟩:=zC N;exact rX rfl hy<|uE 0 [vT s.l] rfl<|xA rfl<|xC<|zL (ct N H)
  intro hc N;refine xH<|yO [0] [8] rfl<|zE ?_;obtain⟨aI,aB,hMc1⟩:=zC N;refine rZ (λI' af m'=>∃(x2:Str),aI=x2/\I.le I'/\af=[hB r0 [vT x2.l]]/\m'=[]) ?_ ?_
  ·have H:=iS I;refine yI aB ?_ ?_
   ·intro aG N;refine zF<|yE 1 [0] [9] rfl ?_;obtain⟨s1,aA,N⟩:=zC N;exact rX rfl aA<|uE 0 [vT s1.l] rfl<|xA rfl<|xC<|zL (ct N H)
   intro aG N;exact zO<|xC<|zL (ct N H)
  rintro aQ aw m2 ⟨x2,heq,le,rfl,rfl⟩;subst aI;have H:=H.trans le;exact xC<|zL (ct hMc1 H)
 rintro I0 aw m2 ⟨x1,heq1,ah,rfl,rfl⟩;subst o0;obtain rfl:=zD aN;exact zFR ⟨_,_,ResV.nil,(yS [0] rfl (by decide)),⟨_,rfl,rfl,rfl⟩⟩
def xR(a0:zA)(t12:Int)(x:Str):Option (Str):=do
 if(decide (t12<(a0.Coefs.length:Int))) then
  let x2<-idx a0.Coefs t12
  if(x2==0) then
   xR a0 (W (t12+1)) x
  else
   let y<-vW x2 x
   let x3<-(do
    if(decide ((if(W (0 - x2))>x2 then(W (0 - x2)) else x2)>1)) then
     let y1<-sI (if(W (0 - x2))>x2 then(W (0 - x2)) else x2)
     let s<-cat y1 (⟨[42]⟩:Str)
     let s1<-cat y s
     pure (id s1)
    else
     pure (id y)
      : Option Str)
   let s2<-sslc (⟨[105,106,107,108]⟩:Str) t12 (W (t12+1))
   let s3<-cat x3 s2
   xR a0 (W (t12+1)) s3
 else
  pure (id x)
 partial_fixpoint
theorem mC(a0:zA):∀(t12:Int) (x:Str) (o:Str),xR a0 t12 x=some o->∀{B}{I0 I:Imm}{Q p c}{b:Nat}{b1:Nat},I0.le I->(S4 I p a0.Coefs c)->(GH Tryz.prog I)->NG Q->NO Q->(∀(I':Imm) (x1:Str),o=x1->I0.le I'->T 59 B Q (.exit 0) I' [hB b1 [vT x1.l],hB b (cAff a0 p c)] [(1,vP b 0),(3,vP b1 0),(4,.func (.func 214) ⟨[]⟩ ⟨[vP b1 0]⟩)])->J Tryz.prog 59 B (nav (bodyOf f174) [1,1,1,0,1,0]) Q I [hB b1 [vT x.l],hB b (cAff a0 p c)] [(1,vP b 0),(3,vP b1 0),(4,.func (.func 214) ⟨[]⟩ ⟨[vP b1 0]⟩),(10,vS p a0.Coefs c),(11,vI (a0.Coefs.length:Int)),(12,vI t12)]:=by
 refine xR.partial_correctness a0 _ λaO ih t12 x o N B I0 I Q p c b b1 H h hG hg ho hx=>wI hg ho<|yL [13] rfl<|yC<|yI N ?_ ?_
 ·intro hc N;refine zO<|yC<|xK<|xH<|yE 1 [] [14] rfl<|bE N λx2 hy N=>tO rfl rfl h hy ?_;intro ad az au al;obtain rfl:=al;refine tN 0 au [vI x2] (vI x2) rfl<|yO [] [5,6] rfl<|yC<|yL [18] rfl<|zE<|yI N ?_ ?_
  ·intro aG N;exact zDP<|mI<|zR<|zE<|zF<|yO [] [12] rfl<|wD<|kK<|ih (W (t12+1)) x _ N H h hG hg ho hx
  intro aG N;refine zO<|xF<|yE 2 [] [19,20] rfl<|bE N λy aA N=>eY (hs1:=[hB b1 [vT x.l]]) (rest:=[hB b (cAff a0 p c)]) rfl rfl (by kernel_rfl) rfl rfl (qV x2 x _ aA ) ?_;rintro I0 aw v2 k2 le - ⟨kk,rfl,rfl,h1⟩ -;have ⟨h,hG,H⟩:=m3 le h hG H;obtain rfl:=h1;refine xA rfl<|yC<|yL [7] rfl<|sH [27] rfl<|zE ?_;obtain⟨o0,aC,aN⟩:=zC N;refine rZ (λI' af m'=>∃(x3:Str),o0=x3/\I0.le I'/\af=[hB b1 [vT x3.l],hB b (cAff a0 p c)]/\m'=[(1,vP b 0),(3,vP b1 0),(4,.func (.func 214) ⟨[]⟩ ⟨[vP b1 0]⟩),(5,vI t12),(10,vS p a0.Coefs c),(11,vI (a0.Coefs.length:Int)),(12,vI t12)]) ?_ ?_
  ·have H:=iS I0;refine yI aC ?_ ?_
   ·intro aR N;obtain⟨y1,aL,N⟩:=zC N;obtain⟨s,aS,N⟩:=zC N;obtain⟨s1,bg,N⟩:=zC N;refine qA [.p (vT y.l) [0],.p (vI (if(W (0 - x2))>x2 then(W (0 - x2)) else x2)) [],.q (vT y1.l),.q (vT s.l),.q (vT s1.l)] [[],[],[(1,false)],[(2,false)],[(0,false),(3,false)]] [hB b1 [vT y.l],hB b (cAff a0 p c)] [] [(4,false)] (xN [0,1]) ?_ ?_
    ·refine Op<|Op<|Oq ?_<|Oq ?_<|Oq ?_<|On
     ·intro I1 hf ah;refine uS [29] rfl ?_;have H:=iS I1;have hG:=hG.mono ah;refine xT (nX (if(W (0 - x2))>x2 then(W (0 - x2)) else x2) _ aL hG) ?_;rintro aW aw v2 k2 ah - ⟨v0,rfl,rfl,rfl⟩ -;have H:=H.trans ah;exact tP H
     ·intro I1 hf ah;exact uS [30] rfl<|rX rfl aS<|tP iR
     intro I1 hf ah;exact uS [28,31] rfl<|rX rfl bg<|tP iR
    intro a6 aH;refine uS [1,3,4,5,10,11,12,32] rfl ?_;have H:=H.trans aH;exact uE 0 [vT s1.l] rfl<|xA rfl<|xC<|zL (ct N H)
   intro aR N;exact zO<|xC<|zL (ct N H)
  rintro aQ aw m2 ⟨x3,heq,aK,rfl,rfl⟩;subst o0;have ⟨h,hG,H⟩:=m3 aK h hG H;refine zE ?_;obtain⟨s2,bj,N⟩:=zC aN;obtain⟨s3,hy6,N⟩:=zC N;refine qA [.p (vT x3.l) [0],.p (vI t12) [],.p (vI t12) [],.p (vI (W (t12+1))) [],.q (vT s2.l),.q (vT s3.l)] [[],[],[],[(2,false)],[(1,false),(3,false)],[(0,false),(4,false)]] [hB b1 [vT x3.l],hB b (cAff a0 p c)] [] [(5,false)] (xN [0,1]) ?_ ?_
  ·refine Op<|Op<|Op<|Op<|Oq ?_<|Oq ?_<|On
   ·intro I1 hf ah;exact uS [34,36] rfl<|jV rfl bj<|tP iR
   intro I1 hf ah;exact uS [33,37] rfl<|rX rfl hy6<|tP iR
  intro bu aV;refine uS [1,3,4,10,11,12,38] rfl ?_;have ⟨h,hG,H⟩:=m3 aV h hG H;exact uE 0 [vT s3.l] rfl<|xA rfl<|zJ<|zE<|zF<|yO [] [12] rfl<|wD<|kK<|ih (W (t12+1)) s3 _ N H h hG hg ho hx
 intro hc N;exact rG<|xC<|hx _ _ (zD N).symm H
def uT(a0:zA):Option (Str):=do
 let x1<-xR a0 0 (⟨[]⟩:Str)
 let x4<-(do
  if(a0.Const != 0) then
   let y2<-vW a0.Const x1
   let y3<-sI (if(W (0 - a0.Const))>a0.Const then(W (0 - a0.Const)) else a0.Const)
   let s4<-cat y2 y3
   pure (id s4)
  else
   pure (id x1)
    : Option Str)
 if(x4.l==([]:List UInt8)) then
  pure (⟨[48]⟩:Str)
 else
  pure (id x4)
theorem pJ:∀a0 r,uT a0=some r->∀{I:Imm}{p c},(S4 I p a0.Coefs c)->(GH Tryz.prog I)->RT 174 [vA (cAff a0 p c)] I [] (yA  r):=by
 intro a0 r N I p c h hG;unfold uT at N;refine yN func174 λB=>?_;have H:=iS I;refine xH<|mN (cAff a0 p c) ?_;intro b hb;refine sG [] []<|xF<|rF [vT ([])] ?_;intro b1 hb1;refine uE 0 [vT ([])] rfl<|xA rfl<|sH [4] rfl<|yC<|xH<|yO [1] [10,11,12] rfl<|sR<|pY [(1,vP b 0),(3,vP b1 0),(4,.func (.func 214) ⟨[]⟩ ⟨[vP b1 0]⟩),(10,vS p a0.Coefs c),(11,vI (a0.Coefs.length:Int)),(12,vI 0)] ?_;obtain⟨aI,aB,aM⟩:=zC N;refine mC a0 0 (⟨[]⟩:Str) aI aB iR h hG (λ_ _ _ h=>h) (λ_ _ h=>h) ?_;intro bG x1 heq1 bm;subst aI;have ⟨hG,H⟩:=m2 bm hG H;refine zR<|yC<|xH<|yO [1] [42] rfl<|zE ?_;obtain⟨o02,ho02,hMc1⟩:=zC aM;refine rZ (λI' af m'=>∃(x4:Str),o02=x4/\bG.le I'/\af=[hB b1 [vT x4.l]]/\m'=[(3,vP b1 0)]) ?_ ?_
 ·have H:=iS bG;refine yI ho02 ?_ ?_
  ·intro bq N;refine xH<|yE 3 [1] [43,45] rfl<|bE N λy2 hy7 N=>eY (hs1:=[hB b1 [vT x1.l]]) (rest:=[hB b (cAff a0 p c)]) rfl rfl (by kernel_rfl) rfl rfl (qV a0.Const x1 _ hy7 ) ?_;rintro I07 aw v2 k2 bp - ⟨kk1,rfl,rfl,h3⟩ -;have ⟨hG,H⟩:=m2 bp hG H;obtain rfl:=h3;refine xA rfl<|zE ?_;obtain⟨y3,hy8,N⟩:=zC N;obtain⟨s4,hy9,N⟩:=zC N;refine qA [.p (vT y2.l) [0],.p (vP b 1) [],.p (vI a0.Const) [1],.p (vP b 1) [],.p (vI a0.Const) [1],.p (vI (W (0 - a0.Const))) [],.p (vI (if(W (0 - a0.Const))>a0.Const then(W (0 - a0.Const)) else a0.Const)) [],.q (vT y3.l),.q (vT s4.l)] [[],[],[(1,false)],[],[(3,false)],[(4,false)],[(2,false),(5,false)],[(6,false)],[(0,false),(7,false)]] [hB b1 [vT y2.l],hB b (cAff a0 p c)] [] [(8,false)] (xN [0,1]) ?_ ?_
   ·refine Op<|Op<|Op<|Op<|Op<|Op<|Op<|Oq ?_<|Oq ?_<|On
    ·intro I1 hf ah;refine uS [53] rfl ?_;have H:=iS I1;have hG:=hG.mono ah;refine xT (nX (if(W (0 - a0.Const))>a0.Const then(W (0 - a0.Const)) else a0.Const) _ hy8 hG) ?_;rintro I08 aw v2 k2 le7 - ⟨v01,rfl,rfl,rfl⟩ -;have H:=H.trans le7;exact tP H
    intro I1 hf ah;exact uS [47,54] rfl<|rX rfl hy9<|tP iR
   intro I09 le8;refine uS [3,55] rfl ?_;have H:=H.trans le8;exact uE 0 [vT s4.l] rfl<|xA rfl<|pD (yS [0] rfl (by decide))<|xC<|zL (ct N H)
  intro bq N;exact zO<|pD (yS [0] rfl (by decide))<|xC<|zL (ct N H)
 rintro I06 aw m2 ⟨x4,heq2,le9,rfl,rfl⟩;subst o02;refine yC<|xH<|yO [0] [57] rfl<|zE<|yI hMc1 ?_ ?_
 ·intro bx N;refine yL [2] rfl<|vG<|zG ?_;obtain rfl:=zD N;exact tD
 intro bx N;refine zO<|xF<|yO [0] [2] rfl<|zE<|xL ?_;obtain rfl:=zD N;exact tD
def qF(elems:List Str)(sep:Str):Option Str:=if elems.length<=140737488355328/\(Lib.join (elems.map (·.l)) sep.l).length<=140737488355328 then some ⟨Lib.join (elems.map (·.l)) sep.l⟩ else none
theorem eJ:∀elems sep r,qF elems sep=some r->∀{I:Imm}{p c},SL I (vS p elems c) elems->RT 175 [vS p elems c,vT sep.l] I [] (yA r):=by
 intro elems sep r N I p c h;unfold qF at N;split at N
 ·rename_i hi;cases N
  exact zDi hi.1 hi.2 h (λa c w=>Tryz.strings_Join_none a c ⟨⟨sep.l⟩⟩ w) (λbk o c xs w h1 h2 h3 h4 h5=>Tryz.strings_Join bk o c xs ⟨⟨sep.l⟩⟩ w h1 h2 h3 h4 h5) λk=>⟨_,rfl,rfl,rfl⟩
 cases N
def wC(ai:(List zA))(ak:List Str)(t8:Int):Option (List Str):=do
 if(decide (t8<(ai.length:Int))) then
  let x<-idx ai t8
  let y<-uT x
  let ax<-app 16 ak ([y]:List Str)
  wC ai ax (W (t8+1))
 else
  pure (id ak)
 partial_fixpoint
theorem nK(ai:(List zA)):∀(ak:List Str) (t8:Int) (o:List Str),wC ai ak t8=some o->∀{B}{I0 I:Imm}{Q p c p1 c1 cs},I0.le I->(S4 I p ai c)->(GH Tryz.prog I)->(RL I cs ak)->NG Q->NO Q->(∀(I':Imm) (aj:List Str) (p2:Option Addr) (c2:Nat) (aF:List Value),o=aj->I0.le I'->(RL I' aF aj)->T 20 B Q (.exit 0) I' [hO Str (vS p2 aj c2) aF] [(3,vS p2 aj c2)])->J Tryz.prog 20 B (nav (bodyOf f110) [1,1,0,1,0]) Q I [hO Str (vS p1 ak c1) cs] [(3,vS p1 ak c1),(6,vS p ai c),(7,vI (ai.length:Int)),(8,vI t8)]:=by
 refine wC.partial_correctness ai _ λaO ih ak t8 o N B I0 I Q p c p1 c1 cs H h hG h2 hg ho hx=>wI hg ho<|yL [9] rfl<|yC<|yI N ?_ ?_
 ·intro hc N;refine zO<|yC<|xK<|xH<|bE N λx hy N=>tO rfl rfl h hy ?_;intro ad az au al;obtain⟨p3,c3,rfl,h4⟩:=yB al;refine tN 0 au (cAff x p3 c3) (vA (cAff x p3 c3)) rfl<|rF [z0,vI 0] ?_;intro b hb;refine uE 0 (cAff x p3 c3) rfl<|xA rfl<|zE<|zF<|gX 2 [0] [(12,vS p1 ak c1),(13,vA (cAff x p3 c3))]<|bE N λy aA N=>xT (pJ x _ aA h4 hG) ?_;rintro I0 aw v2 k2 le - ⟨v01,rfl,rfl,rfl⟩ -;have ⟨h,h2,hG,H⟩:=m4 le h h2 hG H;refine qC [vT y.l] Str ?_;intro b1 hb1;have h6:RL I0 [vT y.l] ([y]:List Str):=rT [y];obtain⟨ax,aL,N⟩:=zC N;exact oO 9 1 2 rfl rfl rfl h2 (.inr ⟨0,rfl⟩) h6 aL λp4 c4 bf h7=>oI (xN [1,2] (af:=[hB b (cAff x p3 c3),hO Str (vS p4 ax c4) bf]))<|yO [] [3] rfl<|zJ<|zE<|zF<|yO [] [8] rfl<|wD<|jR (yS [1] rfl (by decide))<|kK<|ih ax (W (t8+1)) _ N H h hG h7 hg ho hx
 intro hc N;exact rG<|xC<|hx _ _ _ _ _ (zD N).symm H h2
def uH(ai:(List zA)):Option (Str):=do
 let aj<-wC ai ([]:List Str) 0
 let y1<-qF aj (⟨[44]⟩:Str)
 pure (id y1)
theorem qZ:∀ai r,uH ai=some r->∀{I:Imm}{p c},(S4 I p ai c)->(GH Tryz.prog I)->RT 110 [vS p ai c] I [] (yA  r):=by
 intro ai r N I p c h hG;unfold uH at N;refine yN func110 λB=>vO []<|zCu [(3,z0)]<|yC<|yL [6,7,8] rfl<|sR<|pY [(3,z0),(6,vS p ai c),(7,vI (ai.length:Int)),(8,vI 0)]<|zCv Str λh1=>?_;obtain⟨o0,aC,aM⟩:=zC N;refine nK ai ([]:List Str) 0 o0 aC iR h hG h1 (λ_ _ _ h=>h) (λ_ _ h=>h) ?_;intro aQ aj p2 c2 aF heq ah h3;subst o0;refine zR<|xF<|yE 1 [] [18] rfl<|uZ 0 rfl ?_;intro aW aH hl0;have h8:=SL.of_frozen hl0 aH h3;obtain⟨y1,aS,N⟩:=zC aM;refine xT (eJ aj (⟨[44]⟩:Str) _ aS h8) ?_;rintro a6 aw v2 k2 aK - ⟨v02,rfl,rfl,rfl⟩ -;refine yO [] [2] rfl<|zE<|xL ?_;obtain rfl:=zD N;exact tD
def vC(ae:(List zB))(ak:Str)(t8:Int):Option (Str):=do
 if(decide (t8<(ae.length:Int))) then
  let x<-idx ae t8
  let y<-uH x.Lo
  let s<-cat (⟨[102,111,114,32]⟩:Str) y
  let s1<-cat s (⟨[32]⟩:Str)
  let y1<-uH x.Hi
  let s2<-cat s1 y1
  let s3<-cat s2 (⟨[10]⟩:Str)
  let s4<-cat ak s3
  vC ae s4 (W (t8+1))
 else
  pure (id ak)
 partial_fixpoint
theorem kO(ae:(List zB)):∀(ak:Str) (t8:Int) (o:Str),vC ae ak t8=some o->∀{B}{I0 I:Imm}{Q p c},I0.le I->(S4 I p ae c)->(GH Tryz.prog I)->NG Q->NO Q->(∀(I':Imm) (aj:Str),o=aj->I0.le I'->T 26 B Q (.exit 0) I' [] [(3,vT aj.l)])->J Tryz.prog 26 B (nav (bodyOf f58) [1,1,0,1,0]) Q I [] [(3,vT ak.l),(6,vS p ae c),(7,vI (ae.length:Int)),(8,vI t8)]:=by
 refine vC.partial_correctness ae _ λaO ih ak t8 o N B I0 I Q p c H h hG hg ho hx=>wI hg ho<|yL [9] rfl<|yC<|yI N ?_ ?_
 ·intro hc N;refine zO<|yC<|xK<|xH<|bE N λx hy N=>tO rfl rfl h hy ?_;intro ad az au al;obtain⟨p1,c1,p2,c2,rfl,h1,h2⟩:=yZ al;refine tN 0 au (cLoop x p1 c1 p2 c2) (vA (cLoop x p1 c1 p2 c2)) rfl<|rF zTwo ?_;intro b hb;refine uE 0 (cLoop x p1 c1 p2 c2) rfl<|xA rfl<|zE ?_;obtain⟨y,aA,N⟩:=zC N;obtain⟨s,aL,N⟩:=zC N;obtain⟨s1,aS,N⟩:=zC N;obtain⟨y1,bg,N⟩:=zC N;obtain⟨s2,bj,N⟩:=zC N;obtain⟨s3,hy6,N⟩:=zC N;obtain⟨s4,hy7,N⟩:=zC N;refine qA [.p (vT ak.l) [],.p (vP b 0) [],.p (vS p1 x.Lo c1) [0],.q (vT y.l),.q (vT s.l),.q (vT s1.l),.p (vP b 1) [],.p (vS p2 x.Hi c2) [0],.q (vT y1.l),.q (vT s2.l),.q (vT s3.l),.q (vT s4.l)] [[],[],[(1,false)],[(2,false)],[(3,false)],[(4,false)],[],[(6,false)],[(7,false)],[(5,false),(8,false)],[(9,false)],[(0,false),(10,false)]] [hB b (cLoop x p1 c1 p2 c2)] [] [(11,false)] (xN [0]) ?_ ?_
  ·refine Op<|Op<|Op<|Oq ?_<|Oq ?_<|Oq ?_<|Op<|Op<|Oq ?_<|Oq ?_<|Oq ?_<|Oq ?_<|On
   ·intro I1 hf ah;refine uS [14] rfl ?_;have H:=iS I1;have ⟨h1,hG⟩:=m2 ah h1 hG;refine xT (qZ x.Lo _ aA h1 hG) ?_;rintro I0 aw v2 k2 le - ⟨v02,rfl,rfl,rfl⟩ -;have H:=H.trans le;exact tP H
   ·intro I1 hf ah;exact uS [15] rfl<|rX rfl aL<|tP iR
   ·intro I1 hf ah;exact uS [16] rfl<|rX rfl aS<|tP iR
   ·intro I1 hf ah;refine uS [19] rfl ?_;have H:=iS I1;have ⟨h2,hG⟩:=m2 ah h2 hG;refine xT (qZ x.Hi _ bg h2 hG) ?_;rintro aQ aw v2 k2 ah - ⟨v03,rfl,rfl,rfl⟩ -;have H:=H.trans ah;exact tP H
   ·intro I1 hf ah;exact uS [17,20] rfl<|rX rfl bj<|tP iR
   ·intro I1 hf ah;exact uS [21] rfl<|rX rfl hy6<|tP iR
   intro I1 hf ah;exact uS [12,22] rfl<|rX rfl hy7<|tP iR
  intro aW aH;refine uS [6,7,8,23] rfl ?_;have ⟨h,hG,H⟩:=m3 aH h hG H;exact yO [] [3] rfl<|zJ<|zE<|zF<|yO [] [8] rfl<|wD<|jR zN<|kK<|ih s4 (W (t8+1)) _ N H h hG hg ho hx
 intro hc N;exact rG<|xC<|hx _ _ (zD N).symm H
def tS(ae:(List zB)):Option (Str):=do
 let aj<-vC ae (⟨[]⟩:Str) 0
 pure (id aj)
theorem oU:∀ae r,tS ae=some r->∀{I:Imm}{p c},(S4 I p ae c)->(GH Tryz.prog I)->RT 58 [vS p ae c] I [] (yA  r):=by
 intro ae r N I p c h hG;unfold tS at N;refine yN func58 λB=>vO []<|sH [3] rfl<|yC<|yL [6,7,8] rfl<|sR<|pY [(3,vT ([])),(6,vS p ae c),(7,vI (ae.length:Int)),(8,vI 0)] ?_;obtain⟨o0,aC,aM⟩:=zC N;refine kO ae (⟨[]⟩:Str) 0 o0 aC iR h hG (λ_ _ _ h=>h) (λ_ _ h=>h) ?_;intro a6 aj heq aK;subst o0;refine zR<|sH [2] rfl<|zE<|xL ?_;obtain rfl:=zD aM;exact tD
def xD(s1:(List Int))(s2:(List Int))(t13:Int):Option (Out Unit (Bool)):=do
 if(decide (t13<(s1.length:Int))) then
  let x<-idx s1 t13
  let x1<-idx s2 t13
  if(x != x1) then
   pure (.ret false)
  else
   xD s1 s2 (W (t13+1))
 else
  pure (.done ())
 partial_fixpoint
theorem pK(s1:(List Int))(s2:(List Int)):∀(t13:Int) (o:Out Unit (Bool)),xD s1 s2 t13=some o->∀{B}{I0 I:Imm}{Q p c p1 c1},I0.le I->(S4 I p s1 c)->(S4 I p1 s2 c1)->NG Q->NO Q->(∀(I':Imm) ,o=(.done ())->I0.le I'->T 26 B Q (.exit 0) I' [] [])->(∀r I' af m',o=(.ret r)->I0.le I'->RS Tryz.prog f47 B (zU  r) I' af m'->T 26 B Q .ret I' af m')->J Tryz.prog 26 B (nav (bodyOf f47) [1,1,0,1,0]) Q I [] [(0,vS p s1 c),(1,vS p1 s2 c1),(12,vI (s1.length:Int)),(13,vI t13)]:=by
 refine xD.partial_correctness s1 s2 _ λaO ih t13 o N B I0 I Q p c p1 c1 H h h1 hg ho hx hr=>wI hg ho<|yL [14] rfl<|yC<|yI N ?_ ?_
 ·intro aG N;refine zO<|yC<|xK<|yL [5] rfl<|yC<|dO (by kernel_rfl) (by kernel_rfl)<|zDc 2 [] [16,17] rfl<|bE N λx hy N=>zC2 rfl rfl h hy ?_;intro ad az au al;obtain rfl:=al;refine zC1 0 au [vI x] (vI x) rfl<|zDc 6 [] [20,21] rfl<|bE N λx1 aA N=>zC2 rfl rfl h1 aA ?_;intro ad1 bh aJ aD;obtain rfl:=aD;refine zC1 0 aJ [vI x1] (vI x1) rfl<|zFQ [] [24] rfl<|zE<|yI N ?_ ?_
  ·intro aR N;exact vO [(4,vF)]<|vG<|yD<|zG<|zG<|hr _ _ _ _ (zD N).symm H ⟨_,_,(.tmp rfl ResV.nil),zN,⟨_,rfl,rfl,rfl⟩⟩
  intro aR N;exact zO<|zJ<|zE<|zF<|yO [] [13] rfl<|wD<|kK<|ih (W (t13+1)) _ N H h h1 hg ho hx hr
 intro aG N;exact rG<|xC<|hx _  (zD N).symm H
def vU(s1:(List Int))(s2:(List Int)):Option (Bool):=do
 if((s1.length:Int) != (s2.length:Int)) then
  pure false
 else
  match<-xD s1 s2 0 with
  | .ret r0=>pure r0
  | .done _=>
   pure true
theorem oV:∀s1 s2 r,vU s1 s2=some r->∀{I:Imm}{p c p1 c1},(S4 I p s1 c)->(S4 I p1 s2 c1)->RT 47 [vS p s1 c,vS p1 s2 c1] I [] (zU  r):=by
 intro s1 s2 r N I p c p1 c1 h h1;unfold vU at N;refine yN func47 λB=>vO []<|yC<|yL [10] rfl<|zE<|yI N ?_ ?_
 ·intro hc N;refine vO [(4,vF)]<|vG<|zG ?_;obtain rfl:=zD N;exact tD
 intro hc N;refine zO<|yC<|yL [12,13] rfl<|sR<|pY [(0,vS p s1 c),(1,vS p1 s2 c1),(12,vI (s1.length:Int)),(13,vI 0)] ?_;obtain⟨o0,aC,aM⟩:=zC N;refine pK s1 s2 0 o0 aC iR h h1 (λ_ _ _ h=>h) (λ_ _ h=>h) ?_ ?_
 ·intro I0  heq le;subst o0;refine zR<|zCu [(4,vY)]<|zE<|xL ?_;obtain rfl:=zD aM;exact tD
 intro r0 I9 hs9 m9 aT le9 aU;subst aT;refine yD<|zG ?_;obtain rfl:=zD aM;exact wJ aU
def xG(ay:List HA)(r:Bool):KT:=λkk I' af v=>
 ∃v0,ay=af/\v=tupV [v0]/\v0=.bool r
def zK(s1:(List zB))(s2:(List zB))(eq:(zB->zB->Option Bool))(t17:Int):Option (Out Unit (Bool)):=do
 if(decide (t17<(s1.length:Int))) then
  let x<-idx s1 t17
  let x1<-idx s2 t17
  let y<-eq x x1
  if(!y) then
   pure (.ret false)
  else
   zK s1 s2 eq (W (t17+1))
 else
  pure (.done ())
 partial_fixpoint
theorem vV(s1:(List zB))(s2:(List zB))(eq:(zB->zB->Option Bool)):∀(t17:Int) (o:Out Unit (Bool)),zK s1 s2 eq t17=some o->∀{B}{I0 I:Imm}{Q p c p1 c1}{fv:Value}{ay:List HA},I0.le I->(S4 I p1 s2 c1)->(FV2 Tryz.prog I ay fv eq)->(S4 I p s1 c)->NG Q->NO Q->(∀(I':Imm) ,o=(.done ())->I0.le I'->T 32 B Q (.exit 0) I' ay [])->(∀r I' af m',o=(.ret r)->I0.le I'->RS Tryz.prog f62 B (xG ay r) I' af m'->T 32 B Q .ret I' af m')->J Tryz.prog 32 B (nav (bodyOf f62) [1,1,0,1,0]) Q I ay [(1,vS p1 s2 c1),(2,fv),(15,vS p s1 c),(16,vI (s1.length:Int)),(17,vI t17)]:=by
 refine zK.partial_correctness s1 s2 eq _ λaO ih t17 o N B I0 I Q p c p1 c1 fv ay H h1 h2 h hg ho hx hr=>wI hg ho<|yL [18] rfl<|yC<|yI N ?_ ?_
 ·intro aG N;refine zO<|yC<|xK<|xH<|yE 1 [] [19] rfl<|bE N λx hy N=>tO rfl rfl h hy ?_;intro ad az au al;obtain⟨p2,c2,p3,c3,rfl,h3,h4⟩:=yZ al;refine tN 0 au (cLoop x p2 c2 p3 c3) (vA (cLoop x p2 c2 p3 c3)) rfl<|rF zTwo ?_;intro b hb;refine yE 5 [] [7] rfl<|zB9 0 (cLoop x p2 c2 p3 c3) (hB b (cLoop x p2 c2 p3 c3)::ay) rfl rfl rfl rfl<|xA rfl<|xF<|yE 2 [] [22,23] rfl<|bE N λx1 aA N=>tO rfl rfl h1 aA ?_;intro ad1 bh aJ aD;obtain⟨p4,c4,p5,c5,rfl,h5,h6⟩:=yZ aD;refine tN 0 aJ (cLoop x1 p4 c4 p5 c5) (vA (cLoop x1 p4 c4 p5 c5)) rfl<|rF zTwo ?_;intro b1 hb1;refine zB9 0 (cLoop x1 p4 c4 p5 c5) (hB b1 (cLoop x1 p4 c4 p5 c5)::hB b (cLoop x p2 c2 p3 c3)::ay) rfl rfl rfl rfl<|xA rfl<|xF<|gX 3 [1,0] [(26,fv),(27,vA (cLoop x p2 c2 p3 c3)),(28,vA (cLoop x1 p4 c4 p5 c5))]<|bE N λy aL N=>oI (af:=ay++[hB b1 (cLoop x1 p4 c4 p5 c5),hB b (cLoop x p2 c2 p3 c3)]) (kM [hB b1 (cLoop x1 p4 c4 p5 c5),hB b (cLoop x p2 c2 p3 c3)] ay)<|zEf rfl rfl rfl h2 aL ⟨_,rfl,(xO ⟨_,_,rfl,h3,h4⟩)⟩ ⟨_,rfl,(xO ⟨_,_,rfl,h5,h6⟩)⟩ rfl ?_;rintro I0 v04 le rfl;refine oI (af:=(hB b1 (cLoop x1 p4 c4 p5 c5)::hB b (cLoop x p2 c2 p3 c3)::ay)) (kM ay [hB b1 (cLoop x1 p4 c4 p5 c5),hB b (cLoop x p2 c2 p3 c3)]) ?_;have ⟨h1,h2,h,H⟩:=m4 le h1 h2 h H;refine yO [] [30] rfl<|zE<|yI N ?_ ?_
  ·intro aR N;exact vO [(6,vF)]<|vG<|yD<|zG<|zG<|hr _ _ _ _ (zD N).symm H ⟨_,_,(.tmp rfl ResV.nil),(nG [hB b1 (cLoop x1 p4 c4 p5 c5),hB b (cLoop x p2 c2 p3 c3)] ay [] rfl (by decide)),⟨_,rfl,rfl,rfl⟩⟩
  intro aR N;exact zO<|zJ<|zE<|zF<|yO [] [17] rfl<|wD<|jR (nG [hB b1 (cLoop x1 p4 c4 p5 c5),hB b (cLoop x p2 c2 p3 c3)] ay [] rfl (by decide))<|kK<|ih (W (t17+1)) _ N H h1 h2 h hg ho hx hr
 intro aG N;exact rG<|xC<|hx _  (zD N).symm H
def zY(s1:(List zB))(s2:(List zB))(eq:(zB->zB->Option Bool)):Option (Bool):=do
 if((s1.length:Int) != (s2.length:Int)) then
  pure false
 else
  match<-zK s1 s2 eq 0 with
  | .ret r0=>pure r0
  | .done _=>
   pure true
theorem uB:∀s1 s2 eq r,zY s1 s2 eq=some r->∀{I:Imm}{p c p1 c1}{fv:Value}{ay:List HA},(S4 I p s1 c)->(S4 I p1 s2 c1)->(FV2 Tryz.prog I ay fv eq)->RT 62 [vS p s1 c,vS p1 s2 c1,fv] I ay (xG ay r):=by
 intro s1 s2 eq r N I p c p1 c1 fv ay h h1 h2;unfold zY at N;refine yN func62 λB=>vO []<|yC<|yL [14] rfl<|zE<|yI N ?_ ?_
 ·intro hc N;refine vO [(6,vF)]<|vG<|zG ?_;obtain rfl:=zD N;exact wJ ⟨_,_,(.tmp rfl ResV.nil),(λ_ h=>h),⟨_,rfl,rfl,rfl⟩⟩
 intro hc N;refine zO<|yC<|yL [15,16,17] rfl<|sR<|pY [(1,vS p1 s2 c1),(2,fv),(15,vS p s1 c),(16,vI (s1.length:Int)),(17,vI 0)] ?_;obtain⟨o0,aC,aM⟩:=zC N;refine vV s1 s2 eq 0 o0 aC iR h1 h2 h (λ_ _ _ h=>h) (λ_ _ h=>h) ?_ ?_
 ·intro aQ  heq ah;subst o0;refine zR<|zCu [(6,vY)]<|zE<|xL ?_;obtain rfl:=zD aM;exact wJ ⟨_,_,(.tmp rfl ResV.nil),(λ_ h=>h),⟨_,rfl,rfl,rfl⟩⟩
 intro r0 I9 hs9 m9 aT le9 aU;subst aT;refine yD<|zG ?_;obtain rfl:=zD aM;exact wJ aU
def yT(ay:List HA)(r:Bool):KT:=λkk I' af v=>
 ∃v0,ay=af/\v=tupV [v0]/\v0=.bool r
def zI(s1:(List zA))(s2:(List zA))(eq:(zA->zA->Option Bool))(t17:Int):Option (Out Unit (Bool)):=do
 if(decide (t17<(s1.length:Int))) then
  let x<-idx s1 t17
  let x1<-idx s2 t17
  let y<-eq x x1
  if(!y) then
   pure (.ret false)
  else
   zI s1 s2 eq (W (t17+1))
 else
  pure (.done ())
 partial_fixpoint
theorem wQ(s1:(List zA))(s2:(List zA))(eq:(zA->zA->Option Bool)):∀(t17:Int) (o:Out Unit (Bool)),zI s1 s2 eq t17=some o->∀{B}{I0 I:Imm}{Q p c p1 c1}{fv:Value}{ay:List HA},I0.le I->(S4 I p1 s2 c1)->(FV2 Tryz.prog I ay fv eq)->(S4 I p s1 c)->NG Q->NO Q->(∀(I':Imm) ,o=(.done ())->I0.le I'->T 32 B Q (.exit 0) I' ay [])->(∀r I' af m',o=(.ret r)->I0.le I'->RS Tryz.prog f64 B (yT ay r) I' af m'->T 32 B Q .ret I' af m')->J Tryz.prog 32 B (nav (bodyOf f64) [1,1,0,1,0]) Q I ay [(1,vS p1 s2 c1),(2,fv),(15,vS p s1 c),(16,vI (s1.length:Int)),(17,vI t17)]:=by
 refine zI.partial_correctness s1 s2 eq _ λaO ih t17 o N B I0 I Q p c p1 c1 fv ay H h1 h2 h hg ho hx hr=>wI hg ho<|yL [18] rfl<|yC<|yI N ?_ ?_
 ·intro aG N;refine zO<|yC<|xK<|xH<|yE 1 [] [19] rfl<|bE N λx hy N=>tO rfl rfl h hy ?_;intro ad az au al;obtain⟨p2,c2,rfl,h3⟩:=yB al;refine tN 0 au (cAff x p2 c2) (vA (cAff x p2 c2)) rfl<|rF [z0,vI 0] ?_;intro b hb;refine yE 5 [] [7] rfl<|zB9 0 (cAff x p2 c2) (hB b (cAff x p2 c2)::ay) rfl rfl rfl rfl<|xA rfl<|xF<|yE 2 [] [22,23] rfl<|bE N λx1 aA N=>tO rfl rfl h1 aA ?_;intro ad1 bh aJ aD;obtain⟨p3,c3,rfl,h4⟩:=yB aD;refine tN 0 aJ (cAff x1 p3 c3) (vA (cAff x1 p3 c3)) rfl<|rF [z0,vI 0] ?_;intro b1 hb1;refine zB9 0 (cAff x1 p3 c3) (hB b1 (cAff x1 p3 c3)::hB b (cAff x p2 c2)::ay) rfl rfl rfl rfl<|xA rfl<|xF<|gX 3 [1,0] [(26,fv),(27,vA (cAff x p2 c2)),(28,vA (cAff x1 p3 c3))]<|bE N λy aL N=>oI (af:=ay++[hB b1 (cAff x1 p3 c3),hB b (cAff x p2 c2)]) (kM [hB b1 (cAff x1 p3 c3),hB b (cAff x p2 c2)] ay)<|zEf rfl rfl rfl h2 aL ⟨_,rfl,(zQ ⟨_,rfl,h3⟩)⟩ ⟨_,rfl,(zQ ⟨_,rfl,h4⟩)⟩ rfl ?_;rintro I0 v02 le rfl;refine oI (af:=(hB b1 (cAff x1 p3 c3)::hB b (cAff x p2 c2)::ay)) (kM ay [hB b1 (cAff x1 p3 c3),hB b (cAff x p2 c2)]) ?_;have ⟨h1,h2,h,H⟩:=m4 le h1 h2 h H;refine yO [] [30] rfl<|zE<|yI N ?_ ?_
  ·intro aR N;exact vO [(6,vF)]<|vG<|yD<|zG<|zG<|hr _ _ _ _ (zD N).symm H ⟨_,_,(.tmp rfl ResV.nil),(nG [hB b1 (cAff x1 p3 c3),hB b (cAff x p2 c2)] ay [] rfl (by decide)),⟨_,rfl,rfl,rfl⟩⟩
  intro aR N;exact zO<|zJ<|zE<|zF<|yO [] [17] rfl<|wD<|jR (nG [hB b1 (cAff x1 p3 c3),hB b (cAff x p2 c2)] ay [] rfl (by decide))<|kK<|ih (W (t17+1)) _ N H h1 h2 h hg ho hx hr
 intro aG N;exact rG<|xC<|hx _  (zD N).symm H
def zM(s1:(List zA))(s2:(List zA))(eq:(zA->zA->Option Bool)):Option (Bool):=do
 if((s1.length:Int) != (s2.length:Int)) then
  pure false
 else
  match<-zI s1 s2 eq 0 with
  | .ret r0=>pure r0
  | .done _=>
   pure true
theorem yW:∀s1 s2 eq r,zM s1 s2 eq=some r->∀{I:Imm}{p c p1 c1}{fv:Value}{ay:List HA},(S4 I p s1 c)->(S4 I p1 s2 c1)->(FV2 Tryz.prog I ay fv eq)->RT 64 [vS p s1 c,vS p1 s2 c1,fv] I ay (yT ay r):=by
 intro s1 s2 eq r N I p c p1 c1 fv ay h h1 h2;unfold zM at N;refine yN func64 λB=>vO []<|yC<|yL [14] rfl<|zE<|yI N ?_ ?_
 ·intro hc N;refine vO [(6,vF)]<|vG<|zG ?_;obtain rfl:=zD N;exact wJ ⟨_,_,(.tmp rfl ResV.nil),(λ_ h=>h),⟨_,rfl,rfl,rfl⟩⟩
 intro hc N;refine zO<|yC<|yL [15,16,17] rfl<|sR<|pY [(1,vS p1 s2 c1),(2,fv),(15,vS p s1 c),(16,vI (s1.length:Int)),(17,vI 0)] ?_;obtain⟨o0,aC,aM⟩:=zC N;refine wQ s1 s2 eq 0 o0 aC iR h1 h2 h (λ_ _ _ h=>h) (λ_ _ h=>h) ?_ ?_
 ·intro aQ  heq ah;subst o0;refine zR<|zCu [(6,vY)]<|zE<|xL ?_;obtain rfl:=zD aM;exact wJ ⟨_,_,(.tmp rfl ResV.nil),(λ_ h=>h),⟨_,rfl,rfl,rfl⟩⟩
 intro r0 I9 hs9 m9 aT le9 aU;subst aT;refine yD<|zG ?_;obtain rfl:=zD aM;exact wJ aU
def yX(a0:zA)(b:zA):Option (Bool):=do
 let t4<-(do
  let y<-vU a0.Coefs b.Coefs
  if y then
   pure (a0.Const==b.Const)
  else
   pure false
    : Option Bool)
 pure (id t4)
theorem pL:∀a0 b r,yX a0 b=some r->∀{I:Imm}{p c p1 c1},(S4 I p a0.Coefs c)->(S4 I p1 b.Coefs c1)->RT 65 [vA (cAff a0 p c),vA (cAff b p1 c1)] I [] (zU  r):=by
 intro a0 b r N I p c p1 c1 h h1;unfold yX at N;refine yN func65 λB=>?_;have H:=iS I;refine xH<|mN (cAff a0 p c) ?_;intro b1 hb;refine mN (cAff b p1 c1) ?_;intro b2 hb1;refine sG [] []<|zE<|yK ?_;refine tA N [] (λt4=>[(4,.bool t4)]) (λo0 aC=>?_) ?_
 ·have H:=iS I;refine zF<|yE 4 [1,0] [6,8] rfl ?_;obtain⟨y,hy,N⟩:=zC aC;refine pE (oV a0.Coefs b.Coefs _ hy h h1) ?_;intro aQ le;have H:=H.trans le;refine yE 6 [] [10] rfl<|uF [10] N ?_ ?_
  ·intro hc N;exact yO [1,0] [4] rfl<|pD zN<|xC<|zL (ct N H)
  intro hc N;exact sG [] [(4,vF)]<|pD zN<|xC<|zL (ct N H)
 intro t4 I0 ah aN;refine zE<|xL ?_;obtain rfl:=zD aN;exact tD
def wU(x:zB)(y:zB):Option (Bool):=do
 let t4<-(do
  let y1<-zM x.Lo y.Lo yX
  if y1 then
   let y2<-zM x.Hi y.Hi yX
   pure (id y2)
  else
   pure false
    : Option Bool)
 pure (id t4)
theorem jG:∀x y r,wU x y=some r->∀{I:Imm}{p c p1 c1 p2 c2 p3 c3},(S4 I p x.Lo c)->(S4 I p1 x.Hi c1)->(S4 I p2 y.Lo c2)->(S4 I p3 y.Hi c3)->RT 63 [vA (cLoop x p c p1 c1),vA (cLoop y p2 c2 p3 c3)] I [] (zU  r):=by
 intro x y r N I p c p1 c1 p2 c2 p3 c3 h h1 h2 h3;unfold wU at N;refine yN func63 λB=>?_;have H:=iS I;refine xH<|mN (cLoop x p c p1 c1) ?_;intro b hb;refine mN (cLoop y p2 c2 p3 c3) ?_;intro b1 hb1;refine sG [] []<|zE<|yK ?_;refine tA N [] (λt4=>[(4,.bool t4)]) (λo0 aC=>?_) ?_
 ·have H:=iS I;refine zF<|yE 4 [1,0] [6,8] rfl ?_;have hf0:FV2 Tryz.prog I [] (.func (.func 65) ⟨[]⟩ ⟨[]⟩) yX:=by
   refine FV2.intro ?_;intro I1 ah x0 x1 r u0 u1 hF k0 k1;obtain⟨_,rfl,k0⟩:=k0;obtain⟨p4,c4,rfl,h4⟩:=yB k0;obtain⟨_,rfl,k1⟩:=k1;obtain⟨p5,c5,rfl,h5⟩:=yB k1;exact(pL x0 x1 r hF h4 h5).mono (by rintro k i hs u ⟨v0,rfl,rfl,h⟩;exact⟨rfl,h⟩)
  obtain⟨y1,hy,N⟩:=zC aC;refine xT (yW x.Lo y.Lo yX _ hy h h2 hf0) ?_;rintro aQ aw v2 k2 le - ⟨v02,rfl,rfl,rfl⟩ -;have ⟨h3,h,h1,H⟩:=m4 le h3 h h1 H;refine yE 6 [] [10] rfl<|uF [10] N ?_ ?_
  ·intro hc N;refine yE 10 [1,0] [12,14] rfl ?_;have hf01:FV2 Tryz.prog aQ [] (.func (.func 65) ⟨[]⟩ ⟨[]⟩) yX:=by
    refine FV2.intro ?_;intro I1 ah x0 x1 r u0 u1 hF k0 k1;obtain⟨_,rfl,k0⟩:=k0;obtain⟨p6,c6,rfl,h7⟩:=yB k0;obtain⟨_,rfl,k1⟩:=k1;obtain⟨p7,c7,rfl,h8⟩:=yB k1;exact(pL x0 x1 r hF h7 h8).mono (by rintro k i hs u ⟨v0,rfl,rfl,h⟩;exact⟨rfl,h⟩)
   obtain⟨y2,aA,N⟩:=zC N;refine xT (yW x.Hi y.Hi yX _ aA h1 h3 hf01) ?_;rintro aW aw v2 k2 ah - ⟨v05,rfl,rfl,rfl⟩ -;have H:=H.trans ah;exact yO [] [4] rfl<|pD zN<|xC<|zL (ct N H)
  intro hc N;exact sG [] [(4,vF)]<|pD zN<|xC<|zL (ct N H)
 intro t4 I0 aH aN;refine zE<|xL ?_;obtain rfl:=zD aN;exact tD
def tT(a0:(List zB))(b:(List zB)):Option (Bool):=do
 let y<-zY a0 b wU
 pure (id y)
theorem oW:∀a0 b r,tT a0 b=some r->∀{I:Imm}{p c p1 c1},(S4 I p a0 c)->(S4 I p1 b c1)->RT 22 [vS p a0 c,vS p1 b c1] I [] (zU  r):=by
 intro a0 b r N I p c p1 c1 h h1;unfold tT at N;refine yN func22 λB=>vO []<|xF<|yE 2 [] [5,6] rfl ?_;have hf0:FV2 Tryz.prog I [] (.func (.func 63) ⟨[]⟩ ⟨[]⟩) wU:=by
  refine FV2.intro ?_;intro I1 ah x0 x1 r u0 u1 hF k0 k1;obtain⟨_,rfl,k0⟩:=k0;obtain⟨p2,c2,p3,c3,rfl,h2,h3⟩:=yZ k0;obtain⟨_,rfl,k1⟩:=k1;obtain⟨p4,c4,p5,c5,rfl,h4,h5⟩:=yZ k1;exact(jG x0 x1 r hF h2 h3 h4 h5).mono (by rintro k i hs u ⟨v0,rfl,rfl,h⟩;exact⟨rfl,h⟩)
 obtain⟨y,hy,N⟩:=zC N;refine xT (uB a0 b wU _ hy h h1 hf0) ?_;rintro I0 aw v2 k2 le - ⟨v04,rfl,rfl,rfl⟩ -;refine yO [] [4] rfl<|zE<|xL ?_;obtain rfl:=zD N;exact tD
def jX(r:zH):KT:=λkk I' af v=>
 ∃b_0 a0_0 c0_0,af=[.blk b_0 ⟨[.slice a0_0 r.b.length c0_0,.int .i64 r.p]⟩]/\v=tupV [(.pointer (some ⟨b_0,0,none⟩))]/\SL I' (.slice a0_0 r.b.length c0_0) r.b
def sJ(code:(List UInt8)):Option (zH):=do
 let code1<-(do
  if(decide ((code.length:Int)>2000)) then
   let l<-slc code 0 2000
   pure (id l)
  else
   pure (id code)
    : Option (List UInt8))
 pure (zH.mk code1 0)
theorem nY:∀code r,sJ code=some r->∀{I:Imm}{p c},(S4 I p code c)->RT 52 [vS p code c] I [] (jX  r):=by
 intro code r N I p c h;unfold sJ at N;refine yN func52 λB=>?_;have H:=iS I;refine vO []<|yC<|yL [5] rfl<|zE ?_;obtain⟨o0,aC,aN⟩:=zC N;refine rZ (λI' af m'=>∃(code1:List UInt8) (p1:Option Addr) (c1:Nat),o0=code1/\I.le I'/\(S4 I' p1 code1 c1)/\af=[]/\m'=[(0,vS p1 code1 c1)]) ?_ ?_
 ·have H:=iS I;refine yI aC ?_ ?_
  ·intro hc N;refine zF<|yE 1 [] [6] rfl<|bE N λl hy N=>zFM rfl h hy ?_;intro v0 h2;obtain⟨p2,c2,rfl⟩:=h2.form;exact yO [] [0] rfl<|xC<|zL ⟨_,_,_,(zD N).symm,H,h2,rfl,rfl⟩
  intro hc N;exact zO<|xC<|zL ⟨_,_,_,(zD N).symm,H,h,rfl,rfl⟩
 rintro I0 aw m2 ⟨code1,p1,c1,heq,le,h1,rfl,rfl⟩;subst o0;refine xF<|yE 2 [] [9] rfl<|mN [vS p1 code1 c1,vI 0] ?_;intro b hb;refine yO [] [2] rfl<|zE<|xL ?_;obtain rfl:=zD aN;exact wJ ⟨_,_,(.tmp rfl ResV.nil),(yS [0] rfl (by decide)),⟨_,_,_,rfl,rfl,h1⟩⟩
def wH(n0:Int)(most:Int):Option (Bool):=do
 let t4<-(do
  if(decide (n0>=(W (0 - most)))) then
   pure (decide (n0<=most))
  else
   pure false
    : Option Bool)
 pure (id t4)
theorem oX:∀n0 most r,wH n0 most=some r->∀{I:Imm} ,RT 168 [vI n0,vI most] I [] (zU  r):=by
 intro n0 most r N I;unfold wH at N;refine yN func168 λB=>?_;have H:=iS I;refine vO []<|zE<|yK ?_;refine tA N [] (λt4=>[(4,.bool t4)]) (λo0 aC=>?_) ?_
 ·have H:=iS I;refine zF<|yE 5 [] [9] rfl<|uF [9] aC ?_ ?_
  ·intro hc N;exact yO [] [4] rfl<|xC<|zL (ct N H)
  intro hc N;exact sG [] [(4,vF)]<|xC<|zL (ct N H)
 intro t4 I0 le aN;refine zE<|xL ?_;obtain rfl:=zD aN;exact tD
def yP(a0:zA)(i:Int):Option (Out Unit (Bool)):=do
 if(decide (i<(a0.Coefs.length:Int))) then
  let x<-idx a0.Coefs i
  let y<-wH x 9
  if(!y) then
   pure (.ret false)
  else
   yP a0 (W (i+1))
 else
  pure (.done ())
 partial_fixpoint
theorem nL(a0:zA):∀(i:Int) (o:Out Unit (Bool)),yP a0 i=some o->∀{B}{I0 I:Imm}{Q p c}{b:Nat},I0.le I->(S4 I p a0.Coefs c)->NG Q->NO Q->(∀(I':Imm) ,o=(.done ())->I0.le I'->T 27 B Q (.exit 0) I' [hB b (cAff a0 p c)] [(1,vP b 0)])->(∀r I' af m',o=(.ret r)->I0.le I'->RS Tryz.prog f116 B (zU  r) I' af m'->T 27 B Q .ret I' af m')->J Tryz.prog 27 B (nav (bodyOf f116) [1,0,1,0]) Q I [hB b (cAff a0 p c)] [(1,vP b 0),(3,vI i)]:=by
 refine yP.partial_correctness a0 _ λaO ih i o N B I0 I Q p c b H h hg ho hx hr=>wI hg ho<|yK<|xH<|yO [0] [8] rfl<|zE<|yI N ?_ ?_
 ·intro hc N;refine zO<|yC<|xK<|xH<|yE 3 [0] [12,13] rfl<|bE N λx hy N=>tO rfl rfl h hy ?_;intro ad az au al;obtain rfl:=al;refine tN 0 au [vI x] (vI x) rfl<|bE N λy aA N=>pE (oX x 9 _ aA ) ?_;intro I0 le;have ⟨h,H⟩:=m2 le h H;refine yO [] [17] rfl<|zE<|yI N ?_ ?_
  ·intro aG N;exact vO [(2,vF)]<|vG<|yD<|zG<|zG<|hr _ _ _ _ (zD N).symm H ⟨_,_,(.tmp rfl ResV.nil),zN,⟨_,rfl,rfl,rfl⟩⟩
  intro aG N;exact zO<|zJ<|zE<|zF<|yO [] [3] rfl<|wD<|kK<|ih (W (i+1)) _ N H h hg ho hx hr
 intro hc N;exact rG<|xC<|hx _  (zD N).symm H
def wF(a0:zA):Option (Bool):=do
 match<-yP a0 0 with
 | .ret r0=>pure r0
 | .done _=>
  let t2<-(do
   if((a0.Coefs.length:Int)==4) then
    let y1<-wH a0.Const 99
    pure (id y1)
   else
    pure false
     : Option Bool)
  pure (id t2)
theorem pA:∀a0 r,wF a0=some r->∀{I:Imm}{p c},(S4 I p a0.Coefs c)->RT 116 [vA (cAff a0 p c)] I [] (zU  r):=by
 intro a0 r N I p c h;unfold wF at N;refine yN func116 λB=>?_;have H:=iS I;refine xH<|mN (cAff a0 p c) ?_;intro b hb;refine sG [] []<|yC<|yL [3] rfl<|sR<|pY [(1,vP b 0),(3,vI 0)] ?_;obtain⟨o0,aC,aM⟩:=zC N;refine nL a0 0 o0 aC iR h (λ_ _ _ h=>h) (λ_ _ h=>h) ?_ ?_
 ·intro aQ  heq ah;subst o0;have H:=H.trans ah;refine zR<|zE<|yK ?_;refine tA aM [] (λt2=>[(2,.bool t2)]) (λaI aB=>?_) ?_
  ·have H:=iS aQ;refine zF<|yE 5 [0] [22] rfl<|uF [22] aB ?_ ?_
   ·intro aR N;refine yE 7 [0] [24] rfl<|bE N λy1 aL N=>pE (oX a0.Const 99 _ aL ) ?_;intro a6 aH;have H:=H.trans aH;exact yO [] [2] rfl<|pD zN<|xC<|zL (ct N H)
   intro aR N;exact sG [] [(2,vF)]<|pD zN<|xC<|zL (ct N H)
  intro t2 aW aK aN;refine zE<|xL ?_;obtain rfl:=zD aN;exact tD
 intro r0 I9 hs9 m9 aT le9 aU;subst aT;refine yD<|zG ?_;obtain rfl:=zD aM;exact wJ aU
def xQ(a0:zA)(n0:Int)(i:Int):Option (Int):=do
 if(decide (i<(a0.Coefs.length:Int))) then
  let x<-idx a0.Coefs i
  let n02<-(do
   if(x != 0) then
    pure (W (i+1))
   else
    pure (id n0)
     : Option Int)
  xQ a0 n02 (W (i+1))
 else
  pure (id n0)
 partial_fixpoint
theorem jH(a0:zA):∀(n0:Int) (i:Int) (o:Int),xQ a0 n0 i=some o->∀{B}{I0 I:Imm}{Q p c}{b:Nat},I0.le I->(S4 I p a0.Coefs c)->NG Q->NO Q->(∀(I':Imm) (n01:Int),o=n01->I0.le I'->T 21 B Q (.exit 0) I' [] [(3,vI n01)])->J Tryz.prog 21 B (nav (bodyOf f117) [1,1,0,1,0]) Q I [hB b (cAff a0 p c)] [(1,vP b 0),(3,vI n0),(4,vI i)]:=by
 refine xQ.partial_correctness a0 _ λaO ih n0 i o N B I0 I Q p c b H h hg ho hx=>wI hg ho<|yK<|xH<|yO [0] [9] rfl<|zE<|yI N ?_ ?_
 ·intro hc N;refine zO<|yC<|xK<|xH<|yE 3 [0] [13,14] rfl<|bE N λx hy N=>tO rfl rfl h hy ?_;intro ad az au al;obtain rfl:=al;refine tN 0 au [vI x] (vI x) rfl<|yO [] [17] rfl<|zE ?_;refine tA N [hB b (cAff a0 p c)] (λn02=>[(1,vP b 0),(3,vI n02),(4,vI i)]) (λo0 aC=>?_) ?_
  ·have H:=iS I;refine yI aC ?_ ?_
   ·intro aG N;exact zF<|yO [] [3] rfl<|xC<|zL (ct N H)
   intro aG N;exact zO<|xC<|zL (ct N H)
  intro n02 I0 le aN;have ⟨h,H⟩:=m2 le h H;exact zJ<|zE<|zF<|yO [] [4] rfl<|wD<|kK<|ih n02 (W (i+1)) _ aN H h hg ho hx
 intro hc N;exact rG<|pD zN<|xC<|hx _ _ (zD N).symm H
def tJ(a0:zA):Option (Int):=do
 let n01<-xQ a0 0 0
 pure (id n01)
theorem eK:∀a0 r,tJ a0=some r->∀{I:Imm}{p c},(S4 I p a0.Coefs c)->RT 117 [vA (cAff a0 p c)] I [] (vR  r):=by
 intro a0 r N I p c h;unfold tJ at N;refine yN func117 λB=>xH<|mN (cAff a0 p c) ?_;intro b hb;refine sG [] []<|sH [3] rfl<|yC<|yL [4] rfl<|sR<|pY [(1,vP b 0),(3,vI 0),(4,vI 0)] ?_;obtain⟨aI,aB,aM⟩:=zC N;refine jH a0 0 0 aI aB iR h (λ_ _ _ h=>h) (λ_ _ h=>h) ?_;intro aQ n01 heq1 ah;subst aI;refine zR<|sH [2] rfl<|zE<|xL ?_;obtain rfl:=zD aM;exact tD
end Go.LN
