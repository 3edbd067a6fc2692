/- Helper of the proof (see the last text). -/
import Derived.Test.YtkipogionmkncaaGreatDoorHM1
set_option linter.unusedVariables false
set_option linter.unusedSimpArgs false
namespace Go.LN
open Go.Proofs Go.Proofs.Tryz
set_option maxRecDepth 20000
def yI(r:Str):KT:=λkk I' ag v=>
 ∃v0,ag=[]/\v=tupV [v0]/\v0=.string ⟨⟨r.l⟩⟩
def sN(i:Int):Option Str:=if -9223372036854775808<=i/\i<=9223372036854775807 then some ⟨Lib.itoa i⟩ else none
theorem oX:∀i r,sN i=some r->∀{I:Imm},GH Tryz.prog I->RT 87 [vI i] I [] (yI r):=by
 intro i r N I hG;unfold sN at N;split at N
 ·rename_i hi;cases N
  exact zG8 (λw g=>Tryz.strconv_Itoa i hi.1 hi.2 w (hG.tab g)) (λk=>⟨_,rfl,rfl,rfl⟩)
 cases N
def kS(b0:Nat)(r:Str):KT:=λkk I' ag v=>
 ∃k0,ag=[.blk b0 ⟨k0⟩]/\v=tupV []/\Rp.rep I' k0 r
def tF(n0:Int)(x:Str):Option (Str):=do
 let x1<-(do
  if(decide (n0<0)) then
   let s<-cat x (⟨[45]⟩:Str)
   pure (id s)
  else
   let x2<-(do
    if(!(x.l==([]:List UInt8))) then
     let s1<-cat x (⟨[43]⟩:Str)
     pure (id s1)
    else
     pure (id x)
      : Option Str)
   pure (id x2)
    : Option Str)
 pure (id x1)
theorem oN:∀n0 x r,tF n0 x=some r->∀{I:Imm}{r0:Nat},RT 214 [vI n0,vP r0 0] I [hB r0 [vT x.l]] (kS r0 r):=by
 intro n0 x r N I r0;unfold tF at N;refine yK func214 λB=>?_;have H:=iS I;refine xB [4] rfl<|zG ?_;obtain⟨o0,ar,aw⟩:=zC N;refine rR (λI' ag m'=>∃(x1:Str),o0=x1/\I.le I'/\ag=[hB r0 [vT x1.l]]/\m'=[]) ?_ ?_
 ·have H:=iS I;refine yJ ar ?_ ?_
  ·intro hc N;refine zI<|zX 1 [0] [5] rfl ?_;obtain⟨s,hy,N⟩:=zC N;exact rM rfl hy<|yT 0 [vT s.l] rfl<|zV rfl<|yM<|zJ (ct N H)
  intro hc N;refine yH<|yS [0] [8] rfl<|zG ?_;obtain⟨aS,ax,hMc1⟩:=zC N;refine rR (λI' ag m'=>∃(x2:Str),aS=x2/\I.le I'/\ag=[hB r0 [vT x2.l]]/\m'=[]) ?_ ?_
  ·have H:=iS I;refine yJ ax ?_ ?_
   ·intro ay N;refine zI<|zX 1 [0] [9] rfl ?_;obtain⟨s1,au,N⟩:=zC N;exact rM rfl au<|yT 0 [vT s1.l] rfl<|zV rfl<|yM<|zJ (ct N H)
   intro ay N;exact zO<|yM<|zJ (ct N H)
  rintro aI aj m2 ⟨x2,heq,le,rfl,rfl⟩;subst aS;have H:=H.trans le;exact yM<|zJ (ct hMc1 H)
 rintro I0 aj m2 ⟨x1,heq1,ai,rfl,rfl⟩;subst o0;obtain rfl:=zD aw;exact zHG ⟨_,_,ResV.nil,(zN [0] rfl (by decide)),⟨_,rfl,rfl,rfl⟩⟩
def wV(a0:zA)(t12:Int)(x:Str):Option (Str):=do
 if(decide (t12<(a0.Coefs.length:Int))) then
  let x2<-idx a0.Coefs t12
  if(x2==0) then
   wV a0 (W (t12+1)) x
  else
   let y<-tF x2 x
   let x3<-(do
    if(decide ((if(W (0 - x2))>x2 then(W (0 - x2)) else x2)>1)) then
     let y1<-sN (if(W (0 - x2))>x2 then(W (0 - x2)) else x2)
     let s<-cat y1 (⟨[42]⟩:Str)
     let s1<-cat y s
     pure (id s1)
    else
     pure (id y)
      : Option Str)
   let s2<-sslc (⟨[105,106,107,108]⟩:Str) t12 (W (t12+1))
   let s3<-cat x3 s2
   wV a0 (W (t12+1)) s3
 else
  pure (id x)
 partial_fixpoint
theorem jN(a0:zA):∀(t12:Int) (x:Str) (o:Str),wV a0 t12 x=some o->∀{B}{I0 I:Imm}{Q p c}{b:Nat}{b1:Nat},I0.le I->(S4 I p a0.Coefs c)->(GH Tryz.prog I)->NG Q->NO Q->(∀(I':Imm) (x1:Str),o=x1->I0.le I'->T 59 B Q (.exit 0) I' [hB b1 [vT x1.l],hB b (cAff a0 p c)] [(1,vP b 0),(3,vP b1 0),(4,.func (.func 214) ⟨[]⟩ ⟨[vP b1 0]⟩)])->J Tryz.prog 59 B (nav (bodyOf f174) [1,1,1,0,1,0]) Q I [hB b1 [vT x.l],hB b (cAff a0 p c)] [(1,vP b 0),(3,vP b1 0),(4,.func (.func 214) ⟨[]⟩ ⟨[vP b1 0]⟩),(10,vS p a0.Coefs c),(11,vI (a0.Coefs.length:Int)),(12,vI t12)]:=by
 refine wV.partial_correctness a0 _ λaW ih t12 x o N B I0 I Q p c b b1 H h hG hg ho hx=>uQ hg ho<|xB [13] rfl<|yL<|yJ N ?_ ?_
 ·intro hc N;refine zO<|yL<|wM<|yH<|zX 1 [] [14] rfl<|bE N λx2 hy N=>qY rfl rfl h hy ?_;intro ad aA az ap;obtain rfl:=ap;refine qU 0 az [vI x2] (vI x2) rfl<|yS [] [5,6] rfl<|yL<|xB [18] rfl<|zG<|yJ N ?_ ?_
  ·intro ay N;exact zFZ<|jX<|yF<|zG<|zI<|yS [] [12] rfl<|uK<|fW<|ih (W (t12+1)) x _ N H h hG hg ho hx
  intro ay N;refine zO<|yW<|zX 2 [] [19,20] rfl<|bE N λy au N=>zAy (hs1:=[hB b1 [vT x.l]]) (rest:=[hB b (cAff a0 p c)]) rfl rfl (by kernel_rfl) rfl rfl (oN x2 x _ au ) ?_;rintro I0 aj v2 k2 le - ⟨kk,rfl,rfl,h1⟩ -;have ⟨h,hG,H⟩:=m3 le h hG H;obtain rfl:=h1;refine zV rfl<|yL<|xB [7] rfl<|qN [27] rfl<|zG ?_;obtain⟨o0,ar,aw⟩:=zC N;refine rR (λI' ag m'=>∃(x3:Str),o0=x3/\I0.le I'/\ag=[hB b1 [vT x3.l],hB b (cAff a0 p c)]/\m'=[(1,vP b 0),(3,vP b1 0),(4,.func (.func 214) ⟨[]⟩ ⟨[vP b1 0]⟩),(5,vI t12),(10,vS p a0.Coefs c),(11,vI (a0.Coefs.length:Int)),(12,vI t12)]) ?_ ?_
  ·have H:=iS I0;refine yJ ar ?_ ?_
   ·intro aJ N;obtain⟨y1,aB,N⟩:=zC N;obtain⟨s,aK,N⟩:=zC N;obtain⟨s1,aY,N⟩:=zC N;refine sU [.p (vT y.l) [0],.p (vI (if(W (0 - x2))>x2 then(W (0 - x2)) else x2)) [],.q (vT y1.l),.q (vT s.l),.q (vT s1.l)] [[],[],[(1,false)],[(2,false)],[(0,false),(3,false)]] [hB b1 [vT y.l],hB b (cAff a0 p c)] [] [(4,false)] (yR [0,1]) ?_ ?_
    ·refine Op<|Op<|Oq ?_<|Oq ?_<|Oq ?_<|On
     ·intro I1 hf ai;refine vQ [29] rfl ?_;have H:=iS I1;have hG:=hG.mono ai;refine xS (oX (if(W (0 - x2))>x2 then(W (0 - x2)) else x2) _ aB hG) ?_;rintro aP aj v2 k2 ai - ⟨v0,rfl,rfl,rfl⟩ -;have H:=H.trans ai;exact vD H
     ·intro I1 hf ai;exact vQ [30] rfl<|rM rfl aK<|vD iR
     intro I1 hf ai;exact vQ [28,31] rfl<|rM rfl aY<|vD iR
    intro aZ aG;refine vQ [1,3,4,5,10,11,12,32] rfl ?_;have H:=H.trans aG;exact yT 0 [vT s1.l] rfl<|zV rfl<|yM<|zJ (ct N H)
   intro aJ N;exact zO<|yM<|zJ (ct N H)
  rintro aI aj m2 ⟨x3,heq,aL,rfl,rfl⟩;subst o0;have ⟨h,hG,H⟩:=m3 aL h hG H;refine zG ?_;obtain⟨s2,bo,N⟩:=zC aw;obtain⟨s3,hy6,N⟩:=zC N;refine sU [.p (vT x3.l) [0],.p (vI t12) [],.p (vI t12) [],.p (vI (W (t12+1))) [],.q (vT s2.l),.q (vT s3.l)] [[],[],[],[(2,false)],[(1,false),(3,false)],[(0,false),(4,false)]] [hB b1 [vT x3.l],hB b (cAff a0 p c)] [] [(5,false)] (yR [0,1]) ?_ ?_
  ·refine Op<|Op<|Op<|Op<|Oq ?_<|Oq ?_<|On
   ·intro I1 hf ai;exact vQ [34,36] rfl<|mD rfl bo<|vD iR
   intro I1 hf ai;exact vQ [33,37] rfl<|rM rfl hy6<|vD iR
  intro bq aV;refine vQ [1,3,4,10,11,12,38] rfl ?_;have ⟨h,hG,H⟩:=m3 aV h hG H;exact yT 0 [vT s3.l] rfl<|zV rfl<|zQ<|zG<|zI<|yS [] [12] rfl<|uK<|fW<|ih (W (t12+1)) s3 _ N H h hG hg ho hx
 intro hc N;exact pG<|yM<|hx _ _ (zD N).symm H
def uY(a0:zA):Option (Str):=do
 let x1<-wV a0 0 (⟨[]⟩:Str)
 let x4<-(do
  if(a0.Const != 0) then
   let y2<-tF a0.Const x1
   let y3<-sN (if(W (0 - a0.Const))>a0.Const then(W (0 - a0.Const)) else a0.Const)
   let s4<-cat y2 y3
   pure (id s4)
  else
   pure (id x1)
    : Option Str)
 if(x4.l==([]:List UInt8)) then
  pure (⟨[48]⟩:Str)
 else
  pure (id x4)
theorem pI:∀a0 r,uY a0=some r->∀{I:Imm}{p c},(S4 I p a0.Coefs c)->(GH Tryz.prog I)->RT 174 [vA (cAff a0 p c)] I [] (yI  r):=by
 intro a0 r N I p c h hG;unfold uY at N;refine yK func174 λB=>?_;have H:=iS I;refine yH<|sM (cAff a0 p c) ?_;intro b hb;refine wG [] []<|yW<|uF [vT ([])] ?_;intro b1 hb1;refine yT 0 [vT ([])] rfl<|zV rfl<|qN [4] rfl<|yL<|yH<|yS [1] [10,11,12] rfl<|rX<|gY [(1,vP b 0),(3,vP b1 0),(4,.func (.func 214) ⟨[]⟩ ⟨[vP b1 0]⟩),(10,vS p a0.Coefs c),(11,vI (a0.Coefs.length:Int)),(12,vI 0)] ?_;obtain⟨aS,ax,aM⟩:=zC N;refine jN a0 0 (⟨[]⟩:Str) aS ax iR h hG (λ_ _ _ h=>h) (λ_ _ h=>h) ?_;intro bu x1 heq1 bj;subst aS;have ⟨hG,H⟩:=m2 bj hG H;refine yF<|yL<|yH<|yS [1] [42] rfl<|zG ?_;obtain⟨o02,ho02,hMc1⟩:=zC aM;refine rR (λI' ag m'=>∃(x4:Str),o02=x4/\bu.le I'/\ag=[hB b1 [vT x4.l]]/\m'=[(3,vP b1 0)]) ?_ ?_
 ·have H:=iS bu;refine yJ ho02 ?_ ?_
  ·intro bd N;refine yH<|zX 3 [1] [43,45] rfl<|bE N λy2 hy7 N=>zAy (hs1:=[hB b1 [vT x1.l]]) (rest:=[hB b (cAff a0 p c)]) rfl rfl (by kernel_rfl) rfl rfl (oN a0.Const x1 _ hy7 ) ?_;rintro I07 aj v2 k2 bt - ⟨kk1,rfl,rfl,h3⟩ -;have ⟨hG,H⟩:=m2 bt hG H;obtain rfl:=h3;refine zV rfl<|zG ?_;obtain⟨y3,hy8,N⟩:=zC N;obtain⟨s4,hy9,N⟩:=zC N;refine sU [.p (vT y2.l) [0],.p (vP b 1) [],.p (vI a0.Const) [1],.p (vP b 1) [],.p (vI a0.Const) [1],.p (vI (W (0 - a0.Const))) [],.p (vI (if(W (0 - a0.Const))>a0.Const then(W (0 - a0.Const)) else a0.Const)) [],.q (vT y3.l),.q (vT s4.l)] [[],[],[(1,false)],[],[(3,false)],[(4,false)],[(2,false),(5,false)],[(6,false)],[(0,false),(7,false)]] [hB b1 [vT y2.l],hB b (cAff a0 p c)] [] [(8,false)] (yR [0,1]) ?_ ?_
   ·refine Op<|Op<|Op<|Op<|Op<|Op<|Op<|Oq ?_<|Oq ?_<|On
    ·intro I1 hf ai;refine vQ [53] rfl ?_;have H:=iS I1;have hG:=hG.mono ai;refine xS (oX (if(W (0 - a0.Const))>a0.Const then(W (0 - a0.Const)) else a0.Const) _ hy8 hG) ?_;rintro I08 aj v2 k2 le7 - ⟨v01,rfl,rfl,rfl⟩ -;have H:=H.trans le7;exact vD H
    intro I1 hf ai;exact vQ [47,54] rfl<|rM rfl hy9<|vD iR
   intro I09 le8;refine vQ [3,55] rfl ?_;have H:=H.trans le8;exact yT 0 [vT s4.l] rfl<|zV rfl<|xW (zN [0] rfl (by decide))<|yM<|zJ (ct N H)
  intro bd N;exact zO<|xW (zN [0] rfl (by decide))<|yM<|zJ (ct N H)
 rintro I06 aj m2 ⟨x4,heq2,le9,rfl,rfl⟩;subst o02;refine yL<|yH<|yS [0] [57] rfl<|zG<|yJ hMc1 ?_ ?_
 ·intro bn N;refine xB [2] rfl<|xP<|zF ?_;obtain rfl:=zD N;exact wU
 intro bn N;refine zO<|yW<|yS [0] [2] rfl<|zG<|yX ?_;obtain rfl:=zD N;exact wU
def pT(elems:List Str)(sep:Str):Option Str:=if elems.length<=140737488355328/\(Lib.join (elems.map (·.l)) sep.l).length<=140737488355328 then some ⟨Lib.join (elems.map (·.l)) sep.l⟩ else none
theorem zAk:∀elems sep r,pT elems sep=some r->∀{I:Imm}{p c},SL I (vS p elems c) elems->RT 175 [vS p elems c,vT sep.l] I [] (yI r):=by
 intro elems sep r N I p c h;unfold pT at N;split at N
 ·rename_i hi;cases N
  exact zFq hi.1 hi.2 h (λa c w=>Tryz.strings_Join_none a c ⟨⟨sep.l⟩⟩ w) (λbk o c xs w h1 h2 h3 h4 h5=>Tryz.strings_Join bk o c xs ⟨⟨sep.l⟩⟩ w h1 h2 h3 h4 h5) λk=>⟨_,rfl,rfl,rfl⟩
 cases N
def vL(aq:(List zA))(aF:List Str)(t8:Int):Option (List Str):=do
 if(decide (t8<(aq.length:Int))) then
  let x<-idx aq t8
  let y<-uY x
  let aO<-app 16 aF ([y]:List Str)
  vL aq aO (W (t8+1))
 else
  pure (id aF)
 partial_fixpoint
theorem kT(aq:(List zA)):∀(aF:List Str) (t8:Int) (o:List Str),vL aq aF t8=some o->∀{B}{I0 I:Imm}{Q p c p1 c1 cs},I0.le I->(S4 I p aq c)->(GH Tryz.prog I)->(RL I cs aF)->NG Q->NO Q->(∀(I':Imm) (aC:List Str) (p2:Option Addr) (c2:Nat) (aH:List Value),o=aC->I0.le I'->(RL I' aH aC)->T 20 B Q (.exit 0) I' [hO Str (vS p2 aC c2) aH] [(3,vS p2 aC c2)])->J Tryz.prog 20 B (nav (bodyOf f110) [1,1,0,1,0]) Q I [hO Str (vS p1 aF c1) cs] [(3,vS p1 aF c1),(6,vS p aq c),(7,vI (aq.length:Int)),(8,vI t8)]:=by
 refine vL.partial_correctness aq _ λaW ih aF t8 o N B I0 I Q p c p1 c1 cs H h hG h2 hg ho hx=>uQ hg ho<|xB [9] rfl<|yL<|yJ N ?_ ?_
 ·intro hc N;refine zO<|yL<|wM<|yH<|bE N λx hy N=>qY rfl rfl h hy ?_;intro ad aA az ap;obtain⟨p3,c3,rfl,h4⟩:=yP ap;refine qU 0 az (cAff x p3 c3) (vA (cAff x p3 c3)) rfl<|uF [z0,vI 0] ?_;intro b hb;refine yT 0 (cAff x p3 c3) rfl<|zV rfl<|zG<|zI<|sW 2 [0] [(12,vS p1 aF c1),(13,vA (cAff x p3 c3))]<|bE N λy au N=>xS (pI x _ au h4 hG) ?_;rintro I0 aj v2 k2 le - ⟨v01,rfl,rfl,rfl⟩ -;have ⟨h,h2,hG,H⟩:=m4 le h h2 hG H;refine jL [vT y.l] Str ?_;intro b1 hb1;have h6:RL I0 [vT y.l] ([y]:List Str):=rT [y];obtain⟨aO,aB,N⟩:=zC N;exact zAA 9 1 2 rfl rfl rfl h2 (.inr ⟨0,rfl⟩) h6 aB λp4 c4 aX h7=>oW (yR [1,2] (ag:=[hB b (cAff x p3 c3),hO Str (vS p4 aO c4) aX]))<|yS [] [3] rfl<|zQ<|zG<|zI<|yS [] [8] rfl<|uK<|zBv (zN [1] rfl (by decide))<|fW<|ih aO (W (t8+1)) _ N H h hG h7 hg ho hx
 intro hc N;exact pG<|yM<|hx _ _ _ _ _ (zD N).symm H h2
def sO(aq:(List zA)):Option (Str):=do
 let aC<-vL aq ([]:List Str) 0
 let y1<-pT aC (⟨[44]⟩:Str)
 pure (id y1)
theorem fB:∀aq r,sO aq=some r->∀{I:Imm}{p c},(S4 I p aq c)->(GH Tryz.prog I)->RT 110 [vS p aq c] I [] (yI  r):=by
 intro aq r N I p c h hG;unfold sO at N;refine yK func110 λB=>tK []<|zEz [(3,z0)]<|yL<|xB [6,7,8] rfl<|rX<|gY [(3,z0),(6,vS p aq c),(7,vI (aq.length:Int)),(8,vI 0)]<|zED Str λh1=>?_;obtain⟨o0,ar,aM⟩:=zC N;refine kT aq ([]:List Str) 0 o0 ar iR h hG h1 (λ_ _ _ h=>h) (λ_ _ h=>h) ?_;intro aI aC p2 c2 aH heq ai h3;subst o0;refine yF<|yW<|zX 1 [] [18] rfl<|nN 0 rfl ?_;intro aP aG hl0;have h8:=SL.of_frozen hl0 aG h3;obtain⟨y1,aK,N⟩:=zC aM;refine xS (zAk aC (⟨[44]⟩:Str) _ aK h8) ?_;rintro aZ aj v2 k2 aL - ⟨v02,rfl,rfl,rfl⟩ -;refine yS [] [2] rfl<|zG<|yX ?_;obtain rfl:=zD N;exact wU
def sE(a0:zE):Option (Str):=do
 let s<-cat a0.Array (⟨[91]⟩:Str)
 let y<-sO a0.Subs
 let s1<-cat s y
 let s2<-cat s1 (⟨[93]⟩:Str)
 pure (id s2)
theorem nR:∀a0 r,sE a0=some r->∀{I:Imm}{p c},(S4 I p a0.Subs c)->(GH Tryz.prog I)->RT 124 [vA (cAccess a0 p c)] I [] (yI  r):=by
 intro a0 r N I p c h hG;unfold sE at N;refine yK func124 λB=>?_;have H:=iS I;refine yH<|sM (cAccess a0 p c) ?_;intro b hb;refine wG [] []<|zG<|yB ?_;obtain⟨s,hy,N⟩:=zC N;obtain⟨y,au,N⟩:=zC N;obtain⟨s1,aB,N⟩:=zC N;obtain⟨s2,aK,N⟩:=zC N;refine sU [.p (vP b 0) [],.p (vT a0.Array.l) [0],.q (vT s.l),.p (vP b 1) [],.p (vS p a0.Subs c) [0],.q (vT y.l),.q (vT s1.l),.q (vT s2.l)] [[],[(0,false)],[(1,false)],[],[(3,false)],[(4,false)],[(2,false),(5,false)],[(6,false)]] [hB b (cAccess a0 p c)] [] [(7,false)] (yR [0]) ?_ ?_
 ·refine Op<|Op<|Oq ?_<|Op<|Op<|Oq ?_<|Oq ?_<|Oq ?_<|On
  ·intro I1 hf ai;exact vQ [4] rfl<|rM rfl hy<|vD iR
  ·intro I1 hf ai;refine vQ [7] rfl ?_;have H:=iS I1;have ⟨h,hG⟩:=m2 ai h hG;refine xS (fB a0.Subs _ au h hG) ?_;rintro I0 aj v2 k2 le - ⟨v0,rfl,rfl,rfl⟩ -;have H:=H.trans le;exact vD H
  ·intro I1 hf ai;exact vQ [5,8] rfl<|rM rfl aB<|vD iR
  intro I1 hf ai;exact vQ [9] rfl<|rM rfl aK<|vD iR
 intro aI ai;refine vQ [10] rfl ?_;refine yS [] [2] rfl<|zG<|yX ?_;obtain rfl:=zD N;exact wU
def uA(e0:zB):Option (Str):=do
 if(e0.Kind==1) then
  let y<-sN e0.Num
  pure (id y)
 else
  if(e0.Kind==2) then
   let y1<-uY e0.Index
   let s<-cat (⟨[123]⟩:Str) y1
   let s1<-cat s (⟨[125]⟩:Str)
   pure (id s1)
  else
   if(e0.Kind==3) then
    let y2<-sE e0.Read
    pure (id y2)
   else
    let x<-idx e0.Kids 0
    let y3<-uA (same x)
    let s2<-cat (⟨[40]⟩:Str) y3
    let s3<-sslc (⟨[43,45,42]⟩:Str) (W (e0.Kind - 4)) (W ((W (e0.Kind - 4))+1))
    let s4<-cat s2 s3
    let x1<-idx e0.Kids 1
    let y4<-uA (same x1)
    let s5<-cat s4 y4
    let s6<-cat s5 (⟨[41]⟩:Str)
    pure (id s6)
 partial_fixpoint
theorem zAG:∀e0 r,uA e0=some r->∀{I:Imm}{p c p1 c1 p2 c2},(S4 I p e0.Index.Coefs c)->(S4 I p1 e0.Read.Subs c1)->(S4 I p2 e0.Kids c2)->(GH Tryz.prog I)->RT 125 [vA (cExpr e0 p c p1 c1 p2 c2)] I [] (yI  r):=by
 refine uA.partial_correctness _ λF_impl_exprText ih_impl_exprText e0 r N I p c p1 c1 p2 c2 h h1 h2 hG=>yK func125 λB=>?_;have H:=iS I;refine yH<|sM (cExpr e0 p c p1 c1 p2 c2) ?_;intro b hb;refine wG [] []<|yL<|yH<|yS [0] [5] rfl<|rX<|xB [6] rfl<|zG<|yJ N ?_ ?_
 ·intro hc N;refine yH<|zX 2 [0] [9] rfl<|bE N λy hy N=>xS (oX e0.Num _ hy hG) ?_;rintro I0 aj v2 k2 le - ⟨v0,rfl,rfl,rfl⟩ -;refine yS [] [2] rfl<|xP<|zS<|zF ?_;obtain rfl:=zD N;exact wU
 intro hc N;refine xB [11] rfl<|zG<|yJ N ?_ ?_
 ·intro ay N;refine yH<|sW 2 [0] [(14,vA (cAff e0.Index p c))]<|bE N λy1 au N=>xS (pI e0.Index _ au h hG) ?_;rintro aI aj v2 k2 ai - ⟨v01,rfl,rfl,rfl⟩ -;obtain⟨s,aB,N⟩:=zC N;refine rM rfl aB<|bE N λs1 aK N=>rM rfl aK<|yS [] [2] rfl<|xP<|zS<|zF ?_;obtain rfl:=zD N;exact wU
 intro ay N;refine xB [18] rfl<|zG<|yJ N ?_ ?_
 ·intro aJ N;refine yH<|sW 2 [0] [(21,vA (cAccess e0.Read p1 c1))]<|bE N λy2 aY N=>xS (nR e0.Read _ aY h1 hG) ?_;rintro aP aj v2 k2 aG - ⟨v02,rfl,rfl,rfl⟩ -;refine yS [] [2] rfl<|xP<|zS<|zF ?_;obtain rfl:=zD N;exact wU
 intro aJ N;refine zO<|zQ<|yW<|yS [0] [3] rfl<|zG<|yB ?_;obtain⟨x,bo,N⟩:=zC N;obtain⟨y3,hy6,N⟩:=zC N;obtain⟨s2,hy7,N⟩:=zC N;obtain⟨s3,hy8,N⟩:=zC N;obtain⟨s4,hy9,N⟩:=zC N;obtain⟨x1,hy10,N⟩:=zC N;obtain⟨y4,hy11,N⟩:=zC N;obtain⟨s5,hy12,N⟩:=zC N;obtain⟨s6,hy13,N⟩:=zC N;refine sU [.p (vP b 6) [],.p (vS p2 e0.Kids c2) [0],.x (ePExpr x),.x (eVExpr x),.q (vT y3.l),.q (vT s2.l),.p (vI (W (e0.Kind - 4))) [],.p (vI (W (e0.Kind - 4))) [],.p (vI (W ((W (e0.Kind - 4))+1))) [],.q (vT s3.l),.q (vT s4.l),.p (vP b 6) [],.p (vS p2 e0.Kids c2) [0],.x (ePExpr x1),.x (eVExpr x1),.q (vT y4.l),.q (vT s5.l),.q (vT s6.l)] [[],[(0,false)],[(1,false)],[(2,false)],[(3,false)],[(4,false)],[],[],[(7,false)],[(6,false),(8,false)],[(5,false),(9,false)],[],[(11,false)],[(12,false)],[(13,false)],[(14,false)],[(10,false),(15,false)],[(16,false)]] [hB b (cExpr e0 p c p1 c1 p2 c2)] [] [(17,false)] (yR [0]) ?_ ?_
 ·refine Op<|Op<|Ox ?_<|Ox ?_<|Oq ?_<|Oq ?_<|Op<|Op<|Op<|Oq ?_<|Oq ?_<|Op<|Op<|Ox ?_<|Ox ?_<|Oq ?_<|Oq ?_<|Oq ?_<|On
  ·intro I1 hf ai;refine vQ [27] rfl ?_;have h2:=h2.mono ai;refine qY rfl rfl h2 bo ?_;intro ad aA az ap;obtain⟨p3,c3,p4,c4,p5,c5,rfl,h6,h7,h8⟩:=xK ap;exact tS [] iR ⟨_,_,_,_,_,_,_,rfl,rfl,az,h6,h7,h8⟩
  ·rintro I1 hf ai _ _ ⟨ad,p3,c3,p4,c4,p5,c5,rfl,rfl,az,h6,h7,h8⟩;exact vQ [28] rfl<|qU 0 az (cExpr x p3 c3 p4 c4 p5 c5) (vA (cExpr x p3 c3 p4 c4 p5 c5)) rfl<|tS [] iR ⟨_,_,_,_,_,_,rfl,rfl,h6,h7,h8⟩
  ·rintro I1 hf ai _ _ ⟨p31,c31,p41,c41,p51,c51,rfl,rfl,h61,h71,h81⟩;refine vQ [29] rfl ?_;have H:=iS I1;have hG:=hG.mono ai;refine xS (ih_impl_exprText x _ hy6 h61 h71 h81 hG) ?_;rintro aZ aj v2 k2 aL - ⟨v06,rfl,rfl,rfl⟩ -;have H:=H.trans aL;exact vD H
  ·intro I1 hf ai;exact vQ [30] rfl<|rM rfl hy7<|vD iR
  ·intro I1 hf ai;exact vQ [32,34] rfl<|mD rfl hy8<|vD iR
  ·intro I1 hf ai;exact vQ [31,35] rfl<|rM rfl hy9<|vD iR
  ·intro I1 hf ai;refine vQ [38] rfl ?_;have h2:=h2.mono ai;refine qY rfl rfl h2 hy10 ?_;intro ad1 bv aQ aN;obtain⟨p6,c6,p7,c7,p8,c8,rfl,h10,h11,h12⟩:=xK aN;exact tS [] iR ⟨_,_,_,_,_,_,_,rfl,rfl,aQ,h10,h11,h12⟩
  ·rintro I1 hf ai _ _ ⟨ad1,p6,c6,p7,c7,p8,c8,rfl,rfl,aQ,h10,h11,h12⟩;exact vQ [39] rfl<|qU 0 aQ (cExpr x1 p6 c6 p7 c7 p8 c8) (vA (cExpr x1 p6 c6 p7 c7 p8 c8)) rfl<|tS [] iR ⟨_,_,_,_,_,_,rfl,rfl,h10,h11,h12⟩
  ·rintro I1 hf ai _ _ ⟨p61,c61,p71,c71,p81,c81,rfl,rfl,h101,h111,h121⟩;refine vQ [40] rfl ?_;have H:=iS I1;have hG:=hG.mono ai;refine xS (ih_impl_exprText x1 _ hy11 h101 h111 h121 hG) ?_;rintro bq aj v2 k2 aV - ⟨v010,rfl,rfl,rfl⟩ -;have H:=H.trans aV;exact vD H
  ·intro I1 hf ai;exact vQ [36,41] rfl<|rM rfl hy12<|vD iR
  intro I1 hf ai;exact vQ [42] rfl<|rM rfl hy13<|vD iR
 intro bu bj;refine vQ [43] rfl ?_;refine yS [] [2] rfl<|zG<|yX ?_;obtain rfl:=zD N;exact wU
def sZ(s:zL):Option (Str):=do
 let y<-sE s.Write
 let s1<-cat y (⟨[61]⟩:Str)
 let y1<-uA s.Value
 let s2<-cat s1 y1
 pure (id s2)
theorem kC:∀s r,sZ s=some r->∀{I:Imm}{p c p1 c1 p2 c2 p3 c3},(S4 I p s.Write.Subs c)->(S4 I p1 s.Value.Index.Coefs c1)->(S4 I p2 s.Value.Read.Subs c2)->(S4 I p3 s.Value.Kids c3)->(GH Tryz.prog I)->RT 74 [vA (cStmt s p c p1 c1 p2 c2 p3 c3)] I [] (yI  r):=by
 intro s r N I p c p1 c1 p2 c2 p3 c3 h h1 h2 h3 hG;unfold sZ at N;refine yK func74 λB=>?_;have H:=iS I;refine yH<|sM (cStmt s p c p1 c1 p2 c2 p3 c3) ?_;intro b hb;refine wG [] []<|zG<|yB ?_;obtain⟨y,hy,N⟩:=zC N;obtain⟨s1,au,N⟩:=zC N;obtain⟨y1,aB,N⟩:=zC N;obtain⟨s2,aK,N⟩:=zC N;refine sU [.p (vP b 0) [],.p (vA (cAccess s.Write p c)) [0],.q (vT y.l),.q (vT s1.l),.p (vP b 2) [],.p (vA (cExpr s.Value p1 c1 p2 c2 p3 c3)) [0],.q (vT y1.l),.q (vT s2.l)] [[],[(0,false)],[(1,false)],[(2,false)],[],[(4,false)],[(5,false)],[(3,false),(6,false)]] [hB b (cStmt s p c p1 c1 p2 c2 p3 c3)] [] [(7,false)] (yR [0]) ?_ ?_
 ·refine Op<|Op<|Oq ?_<|Oq ?_<|Op<|Op<|Oq ?_<|Oq ?_<|On
  ·intro I1 hf ai;refine vQ [4] rfl ?_;have H:=iS I1;have ⟨h,hG⟩:=m2 ai h hG;refine xS (nR s.Write _ hy h hG) ?_;rintro I0 aj v2 k2 le - ⟨v0,rfl,rfl,rfl⟩ -;have H:=H.trans le;exact vD H
  ·intro I1 hf ai;exact vQ [5] rfl<|rM rfl au<|vD iR
  ·intro I1 hf ai;refine vQ [8] rfl ?_;have H:=iS I1;have ⟨h1,h2,h3,hG⟩:=m4 ai h1 h2 h3 hG;refine xS (zAG s.Value _ aB h1 h2 h3 hG) ?_;rintro aI aj v2 k2 ai - ⟨v01,rfl,rfl,rfl⟩ -;have H:=H.trans ai;exact vD H
  intro I1 hf ai;exact vQ [6,9] rfl<|rM rfl aK<|vD iR
 intro aP aG;refine vQ [10] rfl ?_;refine yS [] [2] rfl<|zG<|yX ?_;obtain rfl:=zD N;exact wU
def xV(s1:(List Int))(s2:(List Int))(t13:Int):Option (Out Unit (Bool)):=do
 if(decide (t13<(s1.length:Int))) then
  let x<-idx s1 t13
  let x1<-idx s2 t13
  if(x != x1) then
   pure (.ret false)
  else
   xV s1 s2 (W (t13+1))
 else
  pure (.done ())
 partial_fixpoint
theorem nS(s1:(List Int))(s2:(List Int)):∀(t13:Int) (o:Out Unit (Bool)),xV s1 s2 t13=some o->∀{B}{I0 I:Imm}{Q p c p1 c1},I0.le I->(S4 I p s1 c)->(S4 I p1 s2 c1)->NG Q->NO Q->(∀(I':Imm) ,o=(.done ())->I0.le I'->T 26 B Q (.exit 0) I' [] [])->(∀r I' ag m',o=(.ret r)->I0.le I'->RS Tryz.prog f47 B (zP  r) I' ag m'->T 26 B Q .ret I' ag m')->J Tryz.prog 26 B (nav (bodyOf f47) [1,1,0,1,0]) Q I [] [(0,vS p s1 c),(1,vS p1 s2 c1),(12,vI (s1.length:Int)),(13,vI t13)]:=by
 refine xV.partial_correctness s1 s2 _ λaW ih t13 o N B I0 I Q p c p1 c1 H h h1 hg ho hx hr=>uQ hg ho<|xB [14] rfl<|yL<|yJ N ?_ ?_
 ·intro ay N;refine zO<|yL<|wM<|xB [5] rfl<|yL<|zBH (by kernel_rfl) (by kernel_rfl)<|zFm 2 [] [16,17] rfl<|bE N λx hy N=>zE3 rfl rfl h hy ?_;intro ad aA az ap;obtain rfl:=ap;refine zE2 0 az [vI x] (vI x) rfl<|zFm 6 [] [20,21] rfl<|bE N λx1 au N=>zE3 rfl rfl h1 au ?_;intro ad1 bv aQ aN;obtain rfl:=aN;refine zE2 0 aQ [vI x1] (vI x1) rfl<|zHq [] [24] rfl<|zG<|yJ N ?_ ?_
  ·intro aJ N;exact tK [(4,vF)]<|xP<|zS<|zF<|zF<|hr _ _ _ _ (zD N).symm H ⟨_,_,(.tmp rfl ResV.nil),zH,⟨_,rfl,rfl,rfl⟩⟩
  intro aJ N;exact zO<|zQ<|zG<|zI<|yS [] [13] rfl<|uK<|fW<|ih (W (t13+1)) _ N H h h1 hg ho hx hr
 intro ay N;exact pG<|yM<|hx _  (zD N).symm H
def uZ(s1:(List Int))(s2:(List Int)):Option (Bool):=do
 if((s1.length:Int) != (s2.length:Int)) then
  pure false
 else
  match<-xV s1 s2 0 with
  | .ret r0=>pure r0
  | .done _=>
   pure true
theorem kD:∀s1 s2 r,uZ s1 s2=some r->∀{I:Imm}{p c p1 c1},(S4 I p s1 c)->(S4 I p1 s2 c1)->RT 47 [vS p s1 c,vS p1 s2 c1] I [] (zP  r):=by
 intro s1 s2 r N I p c p1 c1 h h1;unfold uZ at N;refine yK func47 λB=>tK []<|yL<|xB [10] rfl<|zG<|yJ N ?_ ?_
 ·intro hc N;refine tK [(4,vF)]<|xP<|zF ?_;obtain rfl:=zD N;exact wU
 intro hc N;refine zO<|yL<|xB [12,13] rfl<|rX<|gY [(0,vS p s1 c),(1,vS p1 s2 c1),(12,vI (s1.length:Int)),(13,vI 0)] ?_;obtain⟨o0,ar,aM⟩:=zC N;refine nS s1 s2 0 o0 ar iR h h1 (λ_ _ _ h=>h) (λ_ _ h=>h) ?_ ?_
 ·intro I0  heq le;subst o0;refine yF<|zEz [(4,vY)]<|zG<|yX ?_;obtain rfl:=zD aM;exact wU
 intro r0 I9 hs9 m9 bb le9 bc;subst bb;refine zS<|zF ?_;obtain rfl:=zD aM;exact xN bc
def xO(aD:List HA)(r:Bool):KT:=λkk I' ag v=>
 ∃v0,aD=ag/\v=tupV [v0]/\v0=.bool r
def zM(s1:(List zA))(s2:(List zA))(eq:(zA->zA->Option Bool))(t17:Int):Option (Out Unit (Bool)):=do
 if(decide (t17<(s1.length:Int))) then
  let x<-idx s1 t17
  let x1<-idx s2 t17
  let y<-eq x x1
  if(!y) then
   pure (.ret false)
  else
   zM s1 s2 eq (W (t17+1))
 else
  pure (.done ())
 partial_fixpoint
theorem uH(s1:(List zA))(s2:(List zA))(eq:(zA->zA->Option Bool)):∀(t17:Int) (o:Out Unit (Bool)),zM s1 s2 eq t17=some o->∀{B}{I0 I:Imm}{Q p c p1 c1}{fv:Value}{aD:List HA},I0.le I->(S4 I p1 s2 c1)->(FV2 Tryz.prog I aD fv eq)->(S4 I p s1 c)->NG Q->NO Q->(∀(I':Imm) ,o=(.done ())->I0.le I'->T 32 B Q (.exit 0) I' aD [])->(∀r I' ag m',o=(.ret r)->I0.le I'->RS Tryz.prog f64 B (xO aD r) I' ag m'->T 32 B Q .ret I' ag m')->J Tryz.prog 32 B (nav (bodyOf f64) [1,1,0,1,0]) Q I aD [(1,vS p1 s2 c1),(2,fv),(15,vS p s1 c),(16,vI (s1.length:Int)),(17,vI t17)]:=by
 refine zM.partial_correctness s1 s2 eq _ λaW ih t17 o N B I0 I Q p c p1 c1 fv aD H h1 h2 h hg ho hx hr=>uQ hg ho<|xB [18] rfl<|yL<|yJ N ?_ ?_
 ·intro ay N;refine zO<|yL<|wM<|yH<|zX 1 [] [19] rfl<|bE N λx hy N=>qY rfl rfl h hy ?_;intro ad aA az ap;obtain⟨p2,c2,rfl,h3⟩:=yP ap;refine qU 0 az (cAff x p2 c2) (vA (cAff x p2 c2)) rfl<|uF [z0,vI 0] ?_;intro b hb;refine zX 5 [] [7] rfl<|zBO 0 (cAff x p2 c2) (hB b (cAff x p2 c2)::aD) rfl rfl rfl rfl<|zV rfl<|yW<|zX 2 [] [22,23] rfl<|bE N λx1 au N=>qY rfl rfl h1 au ?_;intro ad1 bv aQ aN;obtain⟨p3,c3,rfl,h4⟩:=yP aN;refine qU 0 aQ (cAff x1 p3 c3) (vA (cAff x1 p3 c3)) rfl<|uF [z0,vI 0] ?_;intro b1 hb1;refine zBO 0 (cAff x1 p3 c3) (hB b1 (cAff x1 p3 c3)::hB b (cAff x p2 c2)::aD) rfl rfl rfl rfl<|zV rfl<|yW<|sW 3 [1,0] [(26,fv),(27,vA (cAff x p2 c2)),(28,vA (cAff x1 p3 c3))]<|bE N λy aB N=>oW (ag:=aD++[hB b1 (cAff x1 p3 c3),hB b (cAff x p2 c2)]) (zCQ [hB b1 (cAff x1 p3 c3),hB b (cAff x p2 c2)] aD)<|zHp rfl rfl rfl h2 aB ⟨_,rfl,(zZ ⟨_,rfl,h3⟩)⟩ ⟨_,rfl,(zZ ⟨_,rfl,h4⟩)⟩ rfl ?_;rintro I0 v02 le rfl;refine oW (ag:=(hB b1 (cAff x1 p3 c3)::hB b (cAff x p2 c2)::aD)) (zCQ aD [hB b1 (cAff x1 p3 c3),hB b (cAff x p2 c2)]) ?_;have ⟨h1,h2,h,H⟩:=m4 le h1 h2 h H;refine yS [] [30] rfl<|zG<|yJ N ?_ ?_
  ·intro aJ N;exact tK [(6,vF)]<|xP<|zS<|zF<|zF<|hr _ _ _ _ (zD N).symm H ⟨_,_,(.tmp rfl ResV.nil),(zBK [hB b1 (cAff x1 p3 c3),hB b (cAff x p2 c2)] aD [] rfl (by decide)),⟨_,rfl,rfl,rfl⟩⟩
  intro aJ N;exact zO<|zQ<|zG<|zI<|yS [] [17] rfl<|uK<|zBv (zBK [hB b1 (cAff x1 p3 c3),hB b (cAff x p2 c2)] aD [] rfl (by decide))<|fW<|ih (W (t17+1)) _ N H h1 h2 h hg ho hx hr
 intro ay N;exact pG<|yM<|hx _  (zD N).symm H
def zY(s1:(List zA))(s2:(List zA))(eq:(zA->zA->Option Bool)):Option (Bool):=do
 if((s1.length:Int) != (s2.length:Int)) then
  pure false
 else
  match<-zM s1 s2 eq 0 with
  | .ret r0=>pure r0
  | .done _=>
   pure true
theorem uO:∀s1 s2 eq r,zY s1 s2 eq=some r->∀{I:Imm}{p c p1 c1}{fv:Value}{aD:List HA},(S4 I p s1 c)->(S4 I p1 s2 c1)->(FV2 Tryz.prog I aD fv eq)->RT 64 [vS p s1 c,vS p1 s2 c1,fv] I aD (xO aD r):=by
 intro s1 s2 eq r N I p c p1 c1 fv aD h h1 h2;unfold zY at N;refine yK func64 λB=>tK []<|yL<|xB [14] rfl<|zG<|yJ N ?_ ?_
 ·intro hc N;refine tK [(6,vF)]<|xP<|zF ?_;obtain rfl:=zD N;exact xN ⟨_,_,(.tmp rfl ResV.nil),(λ_ h=>h),⟨_,rfl,rfl,rfl⟩⟩
 intro hc N;refine zO<|yL<|xB [15,16,17] rfl<|rX<|gY [(1,vS p1 s2 c1),(2,fv),(15,vS p s1 c),(16,vI (s1.length:Int)),(17,vI 0)] ?_;obtain⟨o0,ar,aM⟩:=zC N;refine uH s1 s2 eq 0 o0 ar iR h1 h2 h (λ_ _ _ h=>h) (λ_ _ h=>h) ?_ ?_
 ·intro aI  heq ai;subst o0;refine yF<|zEz [(6,vY)]<|zG<|yX ?_;obtain rfl:=zD aM;exact xN ⟨_,_,(.tmp rfl ResV.nil),(λ_ h=>h),⟨_,rfl,rfl,rfl⟩⟩
 intro r0 I9 hs9 m9 bb le9 bc;subst bb;refine zS<|zF ?_;obtain rfl:=zD aM;exact xN bc
def wP(a0:zA)(b:zA):Option (Bool):=do
 let t4<-(do
  let y<-uZ a0.Coefs b.Coefs
  if y then
   pure (a0.Const==b.Const)
  else
   pure false
    : Option Bool)
 pure (id t4)
theorem nT:∀a0 b r,wP a0 b=some r->∀{I:Imm}{p c p1 c1},(S4 I p a0.Coefs c)->(S4 I p1 b.Coefs c1)->RT 65 [vA (cAff a0 p c),vA (cAff b p1 c1)] I [] (zP  r):=by
 intro a0 b r N I p c p1 c1 h h1;unfold wP at N;refine yK func65 λB=>?_;have H:=iS I;refine yH<|sM (cAff a0 p c) ?_;intro b1 hb;refine sM (cAff b p1 c1) ?_;intro b2 hb1;refine wG [] []<|zG<|yB ?_;refine wT N [] (λt4=>[(4,.bool t4)]) (λo0 ar=>?_) ?_
 ·have H:=iS I;refine zI<|zX 4 [1,0] [6,8] rfl ?_;obtain⟨y,hy,N⟩:=zC ar;refine sD (kD a0.Coefs b.Coefs _ hy h h1) ?_;intro aI le;have H:=H.trans le;refine zX 6 [] [10] rfl<|xE [10] N ?_ ?_
  ·intro hc N;exact yS [1,0] [4] rfl<|xW zH<|yM<|zJ (ct N H)
  intro hc N;exact wG [] [(4,vF)]<|xW zH<|yM<|zJ (ct N H)
 intro t4 I0 ai aw;refine zG<|yX ?_;obtain rfl:=zD aw;exact wU
def sF(a0:zE)(b:zE):Option (Bool):=do
 let t4<-(do
  if(a0.Array.l==b.Array.l) then
   let y<-zY a0.Subs b.Subs wP
   pure (id y)
  else
   pure false
    : Option Bool)
 pure (id t4)
theorem nU:∀a0 b r,sF a0 b=some r->∀{I:Imm}{p c p1 c1},(S4 I p a0.Subs c)->(S4 I p1 b.Subs c1)->RT 79 [vA (cAccess a0 p c),vA (cAccess b p1 c1)] I [] (zP  r):=by
 intro a0 b r N I p c p1 c1 h h1;unfold sF at N;refine yK func79 λB=>?_;have H:=iS I;refine yH<|sM (cAccess a0 p c) ?_;intro b1 hb;refine sM (cAccess b p1 c1) ?_;intro b2 hb1;refine wG [] []<|zG<|yB ?_;refine wT N [] (λt4=>[(4,.bool t4)]) (λo0 ar=>?_) ?_
 ·have H:=iS I;refine zI<|zX 6 [1,0] [10] rfl<|xE [10] ar ?_ ?_
  ·intro hc N;refine zX 10 [1,0] [12,14] rfl ?_;have hf0:FV2 Tryz.prog I [] (.func (.func 65) ⟨[]⟩ ⟨[]⟩) wP:=by
    refine FV2.intro ?_;intro I1 ai x0 x1 r u0 u1 hF k0 k1;obtain⟨_,rfl,k0⟩:=k0;obtain⟨p2,c2,rfl,h2⟩:=yP k0;obtain⟨_,rfl,k1⟩:=k1;obtain⟨p3,c3,rfl,h3⟩:=yP k1;exact(nT x0 x1 r hF h2 h3).mono (by rintro k i hs u ⟨v0,rfl,rfl,h⟩;exact⟨rfl,h⟩)
   obtain⟨y,hy,N⟩:=zC N;refine xS (uO a0.Subs b.Subs wP _ hy h h1 hf0) ?_;rintro aI aj v2 k2 le - ⟨v02,rfl,rfl,rfl⟩ -;have H:=H.trans le;exact yS [] [4] rfl<|xW zH<|yM<|zJ (ct N H)
  intro hc N;exact wG [] [(4,vF)]<|xW zH<|yM<|zJ (ct N H)
 intro t4 I0 ai aw;refine zG<|yX ?_;obtain rfl:=zD aw;exact wU
mutual
def yE(s1:(List zB))(s2:(List zB)):Option (Bool):=do
 if((s1.length:Int) != (s2.length:Int)) then
  pure false
 else
  match<-zU (same s1) (same s2) (same 0) with
  | .ret r0=>pure r0
  | .done _=>
   pure true
 partial_fixpoint
def zU(s1:(List zB))(s2:(List zB))(t17:Int):Option (Out Unit (Bool)):=do
 if(decide (t17<(s1.length:Int))) then
  let x<-idx s1 t17
  let x1<-idx s2 t17
  let y<-rA (same x) (same x1)
  if(!y) then
   pure (.ret false)
  else
   zU (same s1) (same s2) (W (t17+1))
 else
  pure (.done ())
 partial_fixpoint
def rA(a0:zB)(b:zB):Option (Bool):=do
 let t4<-(do
  if(a0.Kind==b.Kind) then
   if(a0.Num==b.Num) then
    let y<-wP a0.Index b.Index
    if y then
     let y1<-sF a0.Read b.Read
     if y1 then
      let y2<-yE a0.Kids b.Kids
      pure (id y2)
     else
      pure false
    else
     pure false
   else
    pure false
  else
   pure false
    : Option Bool)
 pure (id t4)
 partial_fixpoint
end
theorem tJ:(∀(s1:(List zB)) (s2:(List zB)) r,yE s1 s2=some r->∀{I:Imm}{p c p1 c1},(S4 I p s1 c)->(S4 I p1 s2 c1)->RT 134 [vS p s1 c,vS p1 s2 c1,.func (.func 80) ⟨[]⟩ ⟨[]⟩] I [] (zP  r))/\(∀(s1:(List zB)) (s2:(List zB)) (t17:Int) o,zU s1 s2 t17=some o->∀{B}{I0 I:Imm}{Q p c p1 c1},I0.le I->(S4 I p1 s2 c1)->(S4 I p s1 c)->NG Q->NO Q->(∀(I':Imm) ,o=(.done ())->I0.le I'->T 32 B Q (.exit 0) I' [] [])->(∀r I' ag m',o=(.ret r)->I0.le I'->RS Tryz.prog f134 B (zP  r) I' ag m'->T 32 B Q .ret I' ag m')->J Tryz.prog 32 B (nav (bodyOf f134) [1,1,0,1,0]) Q I [] [(1,vS p1 s2 c1),(2,.func (.func 80) ⟨[]⟩ ⟨[]⟩),(15,vS p s1 c),(16,vI (s1.length:Int)),(17,vI t17)])/\(∀(a0:zB) (b:zB) r,rA a0 b=some r->∀{I:Imm}{p c p1 c1 p2 c2 p3 c3 p4 c4 p5 c5},(S4 I p a0.Index.Coefs c)->(S4 I p1 a0.Read.Subs c1)->(S4 I p2 a0.Kids c2)->(S4 I p3 b.Index.Coefs c3)->(S4 I p4 b.Read.Subs c4)->(S4 I p5 b.Kids c5)->RT 80 [vA (cExpr a0 p c p1 c1 p2 c2),vA (cExpr b p3 c3 p4 c4 p5 c5)] I [] (zP  r)):=by
 refine yE.mutual_partial_correctness _ _ _ ?_ ?_ ?_
 ·intro F_slices_EqualFunc_impl_Expr_impl_Expr_impl_Expr_impl_Expr_l1 ih_slices_EqualFunc_impl_Expr_impl_Expr_impl_Expr_impl_Expr_l1 s1 s2 r N I p c p1 c1 h h1;refine yK func134 λB=>tK []<|yL<|xB [14] rfl<|zG<|yJ N ?_ ?_
  ·intro hc N;refine tK [(6,vF)]<|xP<|zF ?_;obtain rfl:=zD N;exact wU
  intro hc N;refine zO<|yL<|xB [15,16,17] rfl<|rX<|gY [(1,vS p1 s2 c1),(2,.func (.func 80) ⟨[]⟩ ⟨[]⟩),(15,vS p s1 c),(16,vI (s1.length:Int)),(17,vI 0)] ?_;obtain⟨o0,ar,aM⟩:=zC N;refine ih_slices_EqualFunc_impl_Expr_impl_Expr_impl_Expr_impl_Expr_l1 s1 s2 0 o0 ar iR h1 h (λ_ _ _ h=>h) (λ_ _ h=>h) ?_ ?_
  ·intro aI  heq ai;subst o0;refine yF<|zEz [(6,vY)]<|zG<|yX ?_;obtain rfl:=zD aM;exact wU
  intro r0 I9 hs9 m9 bb le9 bc;subst bb;refine zS<|zF ?_;obtain rfl:=zD aM;exact xN bc
 ·intro F_slices_EqualFunc_impl_Expr_impl_Expr_impl_Expr_impl_Expr_l1 F_impl_exprSame ih_slices_EqualFunc_impl_Expr_impl_Expr_impl_Expr_impl_Expr_l1 ih_impl_exprSame s1 s2 t17 o N B I0 I Q p c p1 c1 H h1 h hg ho hx hr;refine uQ hg ho<|xB [18] rfl<|yL<|yJ N ?_ ?_
  ·intro ay N;refine zO<|yL<|wM<|yH<|zX 1 [] [19] rfl<|bE N λx hy N=>qY rfl rfl h hy ?_;intro ad aA az ap;obtain⟨p2,c2,p3,c3,p4,c4,rfl,h2,h3,h4⟩:=xK ap;refine qU 0 az (cExpr x p2 c2 p3 c3 p4 c4) (vA (cExpr x p2 c2 p3 c3 p4 c4)) rfl<|uF zExpr ?_;intro b hb;refine zX 5 [] [7] rfl<|yT 0 (cExpr x p2 c2 p3 c3 p4 c4) rfl<|zV rfl<|yW<|zX 2 [] [22,23] rfl<|bE N λx1 au N=>qY rfl rfl h1 au ?_;intro ad1 bv aQ aN;obtain⟨p5,c5,p6,c6,p7,c7,rfl,h5,h6,h7⟩:=xK aN;refine qU 0 aQ (cExpr x1 p5 c5 p6 c6 p7 c7) (vA (cExpr x1 p5 c5 p6 c6 p7 c7)) rfl<|uF zExpr ?_;intro b1 hb1;refine yT 0 (cExpr x1 p5 c5 p6 c6 p7 c7) rfl<|zV rfl<|yW<|sW 3 [1,0] [(26,.func (.func 80) ⟨[]⟩ ⟨[]⟩),(27,vA (cExpr x p2 c2 p3 c3 p4 c4)),(28,vA (cExpr x1 p5 c5 p6 c6 p7 c7))]<|bE N λy aB N=>xS (ih_impl_exprSame x x1 _ aB h2 h3 h4 h5 h6 h7) ?_;rintro I0 aj v2 k2 le - ⟨v06,rfl,rfl,rfl⟩ -;have ⟨h1,h,H⟩:=m3 le h1 h H;refine yS [] [30] rfl<|zG<|yJ N ?_ ?_
   ·intro aJ N;exact tK [(6,vF)]<|xP<|zS<|zF<|zF<|hr _ _ _ _ (zD N).symm H ⟨_,_,(.tmp rfl ResV.nil),zH,⟨_,rfl,rfl,rfl⟩⟩
   intro aJ N;exact zO<|zQ<|zG<|zI<|yS [] [17] rfl<|uK<|zBv zH<|gY [(1,vS p1 s2 c1),(2,.func (.func 80) ⟨[]⟩ ⟨[]⟩),(15,vS p s1 c),(16,vI (s1.length:Int)),(17,vI (W (t17+1)))]<|ih_slices_EqualFunc_impl_Expr_impl_Expr_impl_Expr_impl_Expr_l1 s1 s2 (W (t17+1)) _ N H h1 h hg ho hx hr
  intro ay N;exact pG<|yM<|hx _  (zD N).symm H
 intro F_slices_EqualFunc_impl_Expr_impl_Expr_impl_Expr_impl_Expr ih_slices_EqualFunc_impl_Expr_impl_Expr_impl_Expr_impl_Expr a0 b r N I p c p1 c1 p2 c2 p3 c3 p4 c4 p5 c5 h h1 h2 h3 h4 h5;refine yK func80 λB=>?_;have H:=iS I;refine yH<|sM (cExpr a0 p c p1 c1 p2 c2) ?_;intro b1 hb;refine sM (cExpr b p3 c3 p4 c4 p5 c5) ?_;intro b2 hb1;refine wG [] []<|zG<|yB ?_;refine wT N [] (λt4=>[(4,.bool t4)]) (λo0 ar=>?_) ?_
 ·have H:=iS I;refine zI<|zX 6 [1,0] [10] rfl<|xE [10] ar ?_ ?_
  ·intro hc N;refine zX 13 [1,0] [17] rfl<|xE [17] N ?_ ?_
   ·intro ay N;refine sW 17 [1,0] [(19,vA (cAff a0.Index p c)),(21,vA (cAff b.Index p3 c3))]<|bE N λy hy N=>sD (nT a0.Index b.Index _ hy h h3) ?_;intro aI le;have ⟨h4,h5,h1,h2,H⟩:=m5 le h4 h5 h1 h2 H;refine zX 20 [] [24] rfl<|xE [24] N ?_ ?_
    ·intro aJ N;refine sW 24 [1,0] [(26,vA (cAccess a0.Read p1 c1)),(28,vA (cAccess b.Read p4 c4))]<|bE N λy1 au N=>sD (nU a0.Read b.Read _ au h1 h4) ?_;intro aP ai;have ⟨h5,h2,H⟩:=m3 ai h5 h2 H;refine zX 27 [] [31] rfl<|xE [31] N ?_ ?_
     ·intro bd N;refine zX 31 [1,0] [33,35] rfl<|bE N λy2 aB N=>xS (ih_slices_EqualFunc_impl_Expr_impl_Expr_impl_Expr_impl_Expr a0.Kids b.Kids _ aB h2 h5) ?_;rintro aZ aj v2 k2 aG - ⟨v02,rfl,rfl,rfl⟩ -;have H:=H.trans aG;exact yS [] [4] rfl<|xW zH<|yM<|zJ (ct N H)
     intro bd N;exact wG [] [(4,vF)]<|xW zH<|yM<|zJ (ct N H)
    intro aJ N;exact wG [] [(4,vF)]<|xW zH<|yM<|zJ (ct N H)
   intro ay N;exact wG [] [(4,vF)]<|xW zH<|yM<|zJ (ct N H)
  intro hc N;exact wG [] [(4,vF)]<|xW zH<|yM<|zJ (ct N H)
 intro t4 I0 aL aw;refine zG<|yX ?_;obtain rfl:=zD aw;exact wU
theorem zAH:∀a0 b r,rA a0 b=some r->∀{I:Imm}{p c p1 c1 p2 c2 p3 c3 p4 c4 p5 c5},(S4 I p a0.Index.Coefs c)->(S4 I p1 a0.Read.Subs c1)->(S4 I p2 a0.Kids c2)->(S4 I p3 b.Index.Coefs c3)->(S4 I p4 b.Read.Subs c4)->(S4 I p5 b.Kids c5)->RT 80 [vA (cExpr a0 p c p1 c1 p2 c2),vA (cExpr b p3 c3 p4 c4 p5 c5)] I [] (zP  r):=tJ.2.2
def tH(a0:zL)(b:zL):Option (Bool):=do
 let t4<-(do
  let y<-sF a0.Write b.Write
  if y then
   let y1<-rA a0.Value b.Value
   pure (id y1)
  else
   pure false
    : Option Bool)
 pure (id t4)
theorem kE:∀a0 b r,tH a0 b=some r->∀{I:Imm}{p c p1 c1 p2 c2 p3 c3 p4 c4 p5 c5 p6 c6 p7 c7},(S4 I p a0.Write.Subs c)->(S4 I p1 a0.Value.Index.Coefs c1)->(S4 I p2 a0.Value.Read.Subs c2)->(S4 I p3 a0.Value.Kids c3)->(S4 I p4 b.Write.Subs c4)->(S4 I p5 b.Value.Index.Coefs c5)->(S4 I p6 b.Value.Read.Subs c6)->(S4 I p7 b.Value.Kids c7)->RT 31 [vA (cStmt a0 p c p1 c1 p2 c2 p3 c3),vA (cStmt b p4 c4 p5 c5 p6 c6 p7 c7)] I [] (zP  r):=by
 intro a0 b r N I p c p1 c1 p2 c2 p3 c3 p4 c4 p5 c5 p6 c6 p7 c7 h h1 h2 h3 h4 h5 h6 h7;unfold tH at N;refine yK func31 λB=>?_;have H:=iS I;refine yH<|sM (cStmt a0 p c p1 c1 p2 c2 p3 c3) ?_;intro b1 hb;refine sM (cStmt b p4 c4 p5 c5 p6 c6 p7 c7) ?_;intro b2 hb1;refine wG [] []<|zG<|yB ?_;refine wT N [] (λt4=>[(4,.bool t4)]) (λo0 ar=>?_) ?_
 ·have H:=iS I;refine zI<|sW 4 [1,0] [(6,vA (cAccess a0.Write p c)),(8,vA (cAccess b.Write p4 c4))] ?_;obtain⟨y,hy,N⟩:=zC ar;refine sD (nU a0.Write b.Write _ hy h h4) ?_;intro aI le;have ⟨h5,h6,h7,h1,h2,h3⟩:=m6 le h5 h6 h7 h1 h2 h3;have H:=H.trans le;refine zX 6 [] [10] rfl<|xE [10] N ?_ ?_
  ·intro hc N;refine sW 10 [1,0] [(12,vA (cExpr a0.Value p1 c1 p2 c2 p3 c3)),(14,vA (cExpr b.Value p5 c5 p6 c6 p7 c7))]<|bE N λy1 au N=>sD (zAH a0.Value b.Value _ au h1 h2 h3 h5 h6 h7) ?_;intro aP ai;have H:=H.trans ai;exact yS [] [4] rfl<|xW zH<|yM<|zJ (ct N H)
  intro hc N;exact wG [] [(4,vF)]<|xW zH<|yM<|zJ (ct N H)
 intro t4 I0 aG aw;refine zG<|yX ?_;obtain rfl:=zD aw;exact wU
def eU(r:zK):KT:=λkk I' ag v=>
 ∃b_0 a0_0 c0_0,ag=[.blk b_0 ⟨[.slice a0_0 r.b.length c0_0,.int .i64 r.p]⟩]/\v=tupV [(.pointer (some ⟨b_0,0,none⟩))]/\SL I' (.slice a0_0 r.b.length c0_0) r.b
def rV(code:(List UInt8)):Option (zK):=do
 let code1<-(do
  if(decide ((code.length:Int)>2000)) then
   let l<-slc code 0 2000
   pure (id l)
  else
   pure (id code)
    : Option (List UInt8))
 pure (zK.mk code1 0)
theorem jH:∀code r,rV code=some r->∀{I:Imm}{p c},(S4 I p code c)->RT 52 [vS p code c] I [] (eU  r):=by
 intro code r N I p c h;unfold rV at N;refine yK func52 λB=>?_;have H:=iS I;refine tK []<|yL<|xB [5] rfl<|zG ?_;obtain⟨o0,ar,aw⟩:=zC N;refine rR (λI' ag m'=>∃(code1:List UInt8) (p1:Option Addr) (c1:Nat),o0=code1/\I.le I'/\(S4 I' p1 code1 c1)/\ag=[]/\m'=[(0,vS p1 code1 c1)]) ?_ ?_
 ·have H:=iS I;refine yJ ar ?_ ?_
  ·intro hc N;refine zI<|zX 1 [] [6] rfl<|bE N λl hy N=>zHy rfl h hy ?_;intro v0 h2;obtain⟨p2,c2,rfl⟩:=h2.form;exact yS [] [0] rfl<|yM<|zJ ⟨_,_,_,(zD N).symm,H,h2,rfl,rfl⟩
  intro hc N;exact zO<|yM<|zJ ⟨_,_,_,(zD N).symm,H,h,rfl,rfl⟩
 rintro I0 aj m2 ⟨code1,p1,c1,heq,le,h1,rfl,rfl⟩;subst o0;refine yW<|zX 2 [] [9] rfl<|sM [vS p1 code1 c1,vI 0] ?_;intro b hb;refine yS [] [2] rfl<|zG<|yX ?_;obtain rfl:=zD aw;exact xN ⟨_,_,(.tmp rfl ResV.nil),(zN [0] rfl (by decide)),⟨_,_,_,rfl,rfl,h1⟩⟩
def uB(n0:Int)(most:Int):Option (Bool):=do
 let t4<-(do
  if(decide (n0>=(W (0 - most)))) then
   pure (decide (n0<=most))
  else
   pure false
    : Option Bool)
 pure (id t4)
theorem kF:∀n0 most r,uB n0 most=some r->∀{I:Imm} ,RT 168 [vI n0,vI most] I [] (zP  r):=by
 intro n0 most r N I;unfold uB at N;refine yK func168 λB=>?_;have H:=iS I;refine tK []<|zG<|yB ?_;refine wT N [] (λt4=>[(4,.bool t4)]) (λo0 ar=>?_) ?_
 ·have H:=iS I;refine zI<|zX 5 [] [9] rfl<|xE [9] ar ?_ ?_
  ·intro hc N;exact yS [] [4] rfl<|yM<|zJ (ct N H)
  intro hc N;exact wG [] [(4,vF)]<|yM<|zJ (ct N H)
 intro t4 I0 le aw;refine zG<|yX ?_;obtain rfl:=zD aw;exact wU
def xL(a0:zA)(i:Int):Option (Out Unit (Bool)):=do
 if(decide (i<(a0.Coefs.length:Int))) then
  let x<-idx a0.Coefs i
  let y<-uB x 9
  if(!y) then
   pure (.ret false)
  else
   xL a0 (W (i+1))
 else
  pure (.done ())
 partial_fixpoint
theorem kU(a0:zA):∀(i:Int) (o:Out Unit (Bool)),xL a0 i=some o->∀{B}{I0 I:Imm}{Q p c}{b:Nat},I0.le I->(S4 I p a0.Coefs c)->NG Q->NO Q->(∀(I':Imm) ,o=(.done ())->I0.le I'->T 27 B Q (.exit 0) I' [hB b (cAff a0 p c)] [(1,vP b 0)])->(∀r I' ag m',o=(.ret r)->I0.le I'->RS Tryz.prog f116 B (zP  r) I' ag m'->T 27 B Q .ret I' ag m')->J Tryz.prog 27 B (nav (bodyOf f116) [1,0,1,0]) Q I [hB b (cAff a0 p c)] [(1,vP b 0),(3,vI i)]:=by
 refine xL.partial_correctness a0 _ λaW ih i o N B I0 I Q p c b H h hg ho hx hr=>uQ hg ho<|yB<|yH<|yS [0] [8] rfl<|zG<|yJ N ?_ ?_
 ·intro hc N;refine zO<|yL<|wM<|yH<|zX 3 [0] [12,13] rfl<|bE N λx hy N=>qY rfl rfl h hy ?_;intro ad aA az ap;obtain rfl:=ap;refine qU 0 az [vI x] (vI x) rfl<|bE N λy au N=>sD (kF x 9 _ au ) ?_;intro I0 le;have ⟨h,H⟩:=m2 le h H;refine yS [] [17] rfl<|zG<|yJ N ?_ ?_
  ·intro ay N;exact tK [(2,vF)]<|xP<|zS<|zF<|zF<|hr _ _ _ _ (zD N).symm H ⟨_,_,(.tmp rfl ResV.nil),zH,⟨_,rfl,rfl,rfl⟩⟩
  intro ay N;exact zO<|zQ<|zG<|zI<|yS [] [3] rfl<|uK<|fW<|ih (W (i+1)) _ N H h hg ho hx hr
 intro hc N;exact pG<|yM<|hx _  (zD N).symm H
def wX(a0:zA):Option (Bool):=do
 match<-xL a0 0 with
 | .ret r0=>pure r0
 | .done _=>
  let t2<-(do
   if((a0.Coefs.length:Int)==4) then
    let y1<-uB a0.Const 99
    pure (id y1)
   else
    pure false
     : Option Bool)
  pure (id t2)
theorem qZ:∀a0 r,wX a0=some r->∀{I:Imm}{p c},(S4 I p a0.Coefs c)->RT 116 [vA (cAff a0 p c)] I [] (zP  r):=by
 intro a0 r N I p c h;unfold wX at N;refine yK func116 λB=>?_;have H:=iS I;refine yH<|sM (cAff a0 p c) ?_;intro b hb;refine wG [] []<|yL<|xB [3] rfl<|rX<|gY [(1,vP b 0),(3,vI 0)] ?_;obtain⟨o0,ar,aM⟩:=zC N;refine kU a0 0 o0 ar iR h (λ_ _ _ h=>h) (λ_ _ h=>h) ?_ ?_
 ·intro aI  heq ai;subst o0;have H:=H.trans ai;refine yF<|zG<|yB ?_;refine wT aM [] (λt2=>[(2,.bool t2)]) (λaS ax=>?_) ?_
  ·have H:=iS aI;refine zI<|zX 5 [0] [22] rfl<|xE [22] ax ?_ ?_
   ·intro aJ N;refine zX 7 [0] [24] rfl<|bE N λy1 aB N=>sD (kF a0.Const 99 _ aB ) ?_;intro aZ aG;have H:=H.trans aG;exact yS [] [2] rfl<|xW zH<|yM<|zJ (ct N H)
   intro aJ N;exact wG [] [(2,vF)]<|xW zH<|yM<|zJ (ct N H)
  intro t2 aP aL aw;refine zG<|yX ?_;obtain rfl:=zD aw;exact wU
 intro r0 I9 hs9 m9 bb le9 bc;subst bb;refine zS<|zF ?_;obtain rfl:=zD aM;exact xN bc
def wQ(a0:zA)(n0:Int)(i:Int):Option (Int):=do
 if(decide (i<(a0.Coefs.length:Int))) then
  let x<-idx a0.Coefs i
  let n02<-(do
   if(x != 0) then
    pure (W (i+1))
   else
    pure (id n0)
     : Option Int)
  wQ a0 n02 (W (i+1))
 else
  pure (id n0)
 partial_fixpoint
theorem fZ(a0:zA):∀(n0:Int) (i:Int) (o:Int),wQ a0 n0 i=some o->∀{B}{I0 I:Imm}{Q p c}{b:Nat},I0.le I->(S4 I p a0.Coefs c)->NG Q->NO Q->(∀(I':Imm) (n01:Int),o=n01->I0.le I'->T 21 B Q (.exit 0) I' [] [(3,vI n01)])->J Tryz.prog 21 B (nav (bodyOf f117) [1,1,0,1,0]) Q I [hB b (cAff a0 p c)] [(1,vP b 0),(3,vI n0),(4,vI i)]:=by
 refine wQ.partial_correctness a0 _ λaW ih n0 i o N B I0 I Q p c b H h hg ho hx=>uQ hg ho<|yB<|yH<|yS [0] [9] rfl<|zG<|yJ N ?_ ?_
 ·intro hc N;refine zO<|yL<|wM<|yH<|zX 3 [0] [13,14] rfl<|bE N λx hy N=>qY rfl rfl h hy ?_;intro ad aA az ap;obtain rfl:=ap;refine qU 0 az [vI x] (vI x) rfl<|yS [] [17] rfl<|zG ?_;refine wT N [hB b (cAff a0 p c)] (λn02=>[(1,vP b 0),(3,vI n02),(4,vI i)]) (λo0 ar=>?_) ?_
  ·have H:=iS I;refine yJ ar ?_ ?_
   ·intro ay N;exact zI<|yS [] [3] rfl<|yM<|zJ (ct N H)
   intro ay N;exact zO<|yM<|zJ (ct N H)
  intro n02 I0 le aw;have ⟨h,H⟩:=m2 le h H;exact zQ<|zG<|zI<|yS [] [4] rfl<|uK<|fW<|ih n02 (W (i+1)) _ aw H h hg ho hx
 intro hc N;exact pG<|xW zH<|yM<|hx _ _ (zD N).symm H
def tZ(a0:zA):Option (Int):=do
 let n01<-wQ a0 0 0
 pure (id n01)
theorem jI:∀a0 r,tZ a0=some r->∀{I:Imm}{p c},(S4 I p a0.Coefs c)->RT 117 [vA (cAff a0 p c)] I [] (yZ  r):=by
 intro a0 r N I p c h;unfold tZ at N;refine yK func117 λB=>yH<|sM (cAff a0 p c) ?_;intro b hb;refine wG [] []<|qN [3] rfl<|yL<|xB [4] rfl<|rX<|gY [(1,vP b 0),(3,vI 0),(4,vI 0)] ?_;obtain⟨aS,ax,aM⟩:=zC N;refine fZ a0 0 0 aS ax iR h (λ_ _ _ h=>h) (λ_ _ h=>h) ?_;intro aI n01 heq1 ai;subst aS;refine yF<|qN [2] rfl<|zG<|yX ?_;obtain rfl:=zD aM;exact wU
def wH(a0:zE)(ae:Int)(i:Int):Option (Out Unit (Bool)):=do
 if(decide (i<(a0.Subs.length:Int))) then
  let t29<-(do
   let x<-idx a0.Subs i
   let y<-wX x
   if(!y) then
    pure true
   else
    let x1<-idx a0.Subs i
    let y1<-tZ x1
    pure (decide (y1>ae))
     : Option Bool)
  if t29 then
   pure (.ret false)
  else
   wH a0 ae (W (i+1))
 else
  pure (.done ())
 partial_fixpoint
theorem fC(a0:zE)(ae:Int):∀(i:Int) (o:Out Unit (Bool)),wH a0 ae i=some o->∀{B}{I0 I:Imm}{Q p c}{b:Nat},I0.le I->(S4 I p a0.Subs c)->NG Q->NO Q->(∀(I':Imm) ,o=(.done ())->I0.le I'->T 56 B Q (.exit 0) I' [hB b (cAccess a0 p c)] [(2,vP b 0)])->(∀r I' ag m',o=(.ret r)->I0.le I'->RS Tryz.prog f131 B (zP  r) I' ag m'->T 56 B Q .ret I' ag m')->J Tryz.prog 56 B (nav (bodyOf f131) [1,0,1,0]) Q I [hB b (cAccess a0 p c)] [(1,vI ae),(2,vP b 0),(5,vI i)]:=by
 refine wH.partial_correctness a0 ae _ λaW ih i o N B I0 I Q p c b H h hg ho hx hr=>uQ hg ho<|yB<|yH<|yS [0] [10] rfl<|zG<|yJ N ?_ ?_
 ·intro hc N;refine zO<|yL<|wM<|yB ?_;refine wT N [hB b (cAccess a0 p c)] (λt29=>[(1,vI ae),(2,vP b 0),(5,vI i),(29,.bool t29)]) (λo0 ar=>?_) ?_
  ·have H:=iS I;refine zI<|zX 3 [0] [14,15] rfl ?_;obtain⟨x,hy,N⟩:=zC ar;refine qY rfl rfl h hy ?_;intro ad aA az ap;obtain⟨p1,c1,rfl,h1⟩:=yP ap;refine qU 0 az (cAff x p1 c1) (vA (cAff x p1 c1)) rfl<|bE N λy au N=>sD (qZ x _ au h1) ?_;intro aI le;have ⟨h,H⟩:=m2 le h H;refine zX 8 [] [20] rfl<|xE [20] N ?_ ?_
   ·intro ay N;exact wG [] [(29,vY)]<|yM<|zJ (ct N H)
   intro ay N;refine zX 11 [0] [22,23] rfl<|bE N λx1 aB N=>qY rfl rfl h aB ?_;intro ad1 bv aQ aN;obtain⟨p2,c2,rfl,h3⟩:=yP aN;refine qU 0 aQ (cAff x1 p2 c2) (vA (cAff x1 p2 c2)) rfl<|bE N λy1 aK N=>zAD (jI x1 _ aK h3) ?_;intro aP ai;have H:=H.trans ai;exact yS [] [29] rfl<|yM<|zJ (ct N H)
  intro t29 I0 aG aw;have ⟨h,H⟩:=m2 aG h H;refine zG<|yJ aw ?_ ?_
  ·intro aJ N;exact tK [(4,vF)]<|xP<|zS<|zF<|zF<|hr _ _ _ _ (zD N).symm H ⟨_,_,(.tmp rfl ResV.nil),zH,⟨_,rfl,rfl,rfl⟩⟩
  intro aJ N;exact zO<|zQ<|zG<|zI<|yS [] [5] rfl<|uK<|fW<|ih (W (i+1)) _ N H h hg ho hx hr
 intro hc N;exact pG<|yM<|hx _  (zD N).symm H
def tI(a0:zE)(ae:Int):Option (Bool):=do
 match<-wH a0 ae 0 with
 | .ret r0=>pure r0
 | .done _=>
  let t4<-(do
   if((a0.Array.l.length:Int)==1) then
    if(!(Op.bytesLess a0.Array.l ([65]:List UInt8))) then
     if(Op.bytesLess a0.Array.l ([68]:List UInt8)||a0.Array.l==([68]:List UInt8)) then
      if(decide ((a0.Subs.length:Int)>=1)) then
       pure (decide ((a0.Subs.length:Int)<=2))
      else
       pure false
     else
      pure false
    else
     pure false
   else
    pure false
     : Option Bool)
  pure (id t4)
theorem kG:∀a0 ae r,tI a0 ae=some r->∀{I:Imm}{p c},(S4 I p a0.Subs c)->RT 131 [vA (cAccess a0 p c),vI ae] I [] (zP  r):=by
 intro a0 ae r N I p c h;unfold tI at N;refine yK func131 λB=>?_;have H:=iS I;refine yH<|sM (cAccess a0 p c) ?_;intro b hb;refine wG [] []<|yL<|xB [5] rfl<|rX<|gY [(1,vI ae),(2,vP b 0),(5,vI 0)] ?_;obtain⟨aS,ax,aM⟩:=zC N;refine fC a0 ae 0 aS ax iR h (λ_ _ _ h=>h) (λ_ _ h=>h) ?_ ?_
 ·intro aZ  heq1 aL;subst aS;have H:=H.trans aL;refine yF<|zG<|yB ?_;refine wT aM [] (λt4=>[(4,.bool t4)]) (λo02 ho02=>?_) ?_
  ·have H:=iS aZ;refine zI<|zX 5 [0] [34] rfl<|xE [34] ho02 ?_ ?_
   ·intro bd N;refine zX 10 [0] [39] rfl<|xE [39] N ?_ ?_
    ·intro bn N;refine zX 15 [0] [44] rfl<|xE [44] N ?_ ?_
     ·intro hc5 N;refine zX 21 [0] [50] rfl<|xE [50] N ?_ ?_
      ·intro hc6 N;exact yS [0] [4] rfl<|xW zH<|yM<|zJ (ct N H)
      intro hc6 N;exact wG [] [(4,vF)]<|xW zH<|yM<|zJ (ct N H)
     intro hc5 N;exact wG [] [(4,vF)]<|xW zH<|yM<|zJ (ct N H)
    intro bn N;exact wG [] [(4,vF)]<|xW zH<|yM<|zJ (ct N H)
   intro bd N;exact wG [] [(4,vF)]<|xW zH<|yM<|zJ (ct N H)
  intro t4 bq aV hMc1;refine zG<|yX ?_;obtain rfl:=zD hMc1;exact wU
 intro r0 I9 hs9 m9 bb le9 bc;subst bb;refine zS<|zF ?_;obtain rfl:=zD aM;exact xN bc
def rH(kind:Int):Option (Int):=do
 let t4<-(do
  if(kind==1) then
   pure (kind==1)
  else
   let t41<-(do
    if(kind==2) then
     pure (kind==2)
    else
     pure (kind==3)
      : Option Bool)
   pure (id t41)
    : Option Bool)
 if t4 then
  pure (id 0)
 else
  let t8<-(do
   if(kind==4) then
    pure (kind==4)
   else
    let t81<-(do
     if(kind==5) then
      pure (kind==5)
     else
      pure (kind==6)
       : Option Bool)
    pure (id t81)
     : Option Bool)
  if t8 then
   pure (id 2)
  else
   pure (-1)
theorem gD:∀kind r,rH kind=some r->∀{I:Imm} ,RT 189 [vI kind] I [] (yZ  r):=by
 intro kind r N I;unfold rH at N;refine yK func189 λB=>?_;have H:=iS I;refine tK []<|yL<|xB [3] rfl<|rX<|yB<|xB [4] rfl<|zG ?_;refine wT N [] (λt4=>[(3,vI kind),(4,.bool t4)]) (λo0 ar=>?_) ?_
 ·have H:=iS I;refine yJ ar ?_ ?_
  ·intro hc N;exact zO<|yM<|zJ (ct N H)
  intro hc N;refine xB [4] rfl<|zG ?_;refine wT N [] (λt41=>[(3,vI kind),(4,.bool t41)]) (λaS ax=>?_) ?_
  ·have H:=iS I;refine yJ ax ?_ ?_
   ·intro ay N;exact zO<|yM<|zJ (ct N H)
   intro ay N;exact zI<|yS [] [4] rfl<|yM<|zJ (ct N H)
  intro t41 aI le hMc1;have H:=H.trans le;exact yM<|zJ (ct hMc1 H)
 intro t4 I0 ai aw;have H:=H.trans ai;refine zG<|yJ aw ?_ ?_
 ·intro aJ N;refine xB [2] rfl<|xP<|zS<|zF ?_;obtain rfl:=zD N;exact wU
 intro aJ N;refine yB<|xB [8] rfl<|zG ?_;refine wT N [] (λt8=>[(8,.bool t8)]) (λo02 ho02=>?_) ?_
 ·have H:=iS I0;refine yJ ho02 ?_ ?_
  ·intro bd N;exact zO<|yM<|zJ (ct N H)
  intro bd N;refine xB [8] rfl<|zG ?_;refine wT N [] (λt81=>[(8,.bool t81)]) (λo03 ho03=>?_) ?_
  ·have H:=iS I0;refine yJ ho03 ?_ ?_
   ·intro bn N;exact zO<|yM<|zJ (ct N H)
   intro bn N;exact zI<|yS [] [8] rfl<|yM<|zJ (ct N H)
  intro t81 aZ aG hMc3;have H:=H.trans aG;exact yM<|zJ (ct hMc3 H)
 intro t8 aP aL hMc2;refine zG<|yJ hMc2 ?_ ?_
 ·intro hc5 N;refine xB [2] rfl<|xP<|zS<|zF ?_;obtain rfl:=zD N;exact wU
 intro hc5 N;refine zO<|zQ<|qN [2] rfl<|zG<|yX ?_;obtain rfl:=zD N;exact wU
def tA(a0:zE):Option (Bool):=do
 let t2<-(do
  if(a0.Array.l==([]:List UInt8)) then
   pure ((a0.Subs.length:Int)==0)
  else
   pure false
    : Option Bool)
 pure (id t2)
theorem oY:∀a0 r,tA a0=some r->∀{I:Imm}{p c},(S4 I p a0.Subs c)->RT 229 [vA (cAccess a0 p c)] I [] (zP  r):=by
 intro a0 r N I p c h;unfold tA at N;refine yK func229 λB=>?_;have H:=iS I;refine yH<|sM (cAccess a0 p c) ?_;intro b hb;refine wG [] []<|zG<|yB ?_;refine wT N [] (λt2=>[(2,.bool t2)]) (λo0 ar=>?_) ?_
 ·have H:=iS I;refine zI<|zX 4 [0] [6] rfl<|xE [6] ar ?_ ?_
  ·intro hc N;exact yS [0] [2] rfl<|xW zH<|yM<|zJ (ct N H)
  intro hc N;exact wG [] [(2,vF)]<|xW zH<|yM<|zJ (ct N H)
 intro t2 I0 le aw;refine zG<|yX ?_;obtain rfl:=zD aw;exact wU
def tU(a0:zA):Option (Bool):=do
 let t2<-(do
  if((a0.Coefs.length:Int)==0) then
   pure (a0.Const==0)
  else
   pure false
    : Option Bool)
 pure (id t2)
theorem nV:∀a0 r,tU a0=some r->∀{I:Imm}{p c},(S4 I p a0.Coefs c)->RT 230 [vA (cAff a0 p c)] I [] (zP  r):=by
 intro a0 r N I p c h;unfold tU at N;refine yK func230 λB=>?_;have H:=iS I;refine yH<|sM (cAff a0 p c) ?_;intro b hb;refine wG [] []<|zG<|yB ?_;refine wT N [] (λt2=>[(2,.bool t2)]) (λo0 ar=>?_) ?_
 ·have H:=iS I;refine zI<|zX 5 [0] [7] rfl<|xE [7] ar ?_ ?_
  ·intro hc N;exact yS [0] [2] rfl<|xW zH<|yM<|zJ (ct N H)
  intro hc N;exact wG [] [(2,vF)]<|xW zH<|yM<|zJ (ct N H)
 intro t2 I0 le aw;refine zG<|yX ?_;obtain rfl:=zD aw;exact wU
end Go.LN
