/- Helper of the proof (see the last text). -/
import Derived.Test.YtcmjkmdecmabaaaGreatLnP
import Derived.Test.YtcmjkmdecmabaaaGreatLnYP
import Derived.Test.YtcmjkmdecmabaaaGreatTryzShelf
import Derived.Test.YtcmjkmdecmabaaaGreatZQ
set_option linter.unusedVariables false
set_option linter.unusedSimpArgs false
namespace Go.LN
open Go.Proofs Go.Proofs.Tryz
set_option maxRecDepth 20000
abbrev eS{α:Type}[Rp α](l:List α):Imm->Value->List HA->Prop:=λI' v hx=>∃p c,v=vS p l c/\hx=[]/\S4 I' p l c
abbrev ePExpr(x:zH):Imm->Value->List HA->Prop:=λI' v hx=>∃ad p0 c0 p1 c1 p2 c2,v=.pointer (some ad)/\hx=[]/\At I' ad (cExpr x p0 c0 p1 c1 p2 c2)/\S4 I' p0 x.Index.Coefs c0/\S4 I' p1 x.Read.Subs c1/\S4 I' p2 x.Kids c2
abbrev eVExpr(x:zH):Imm->Value->List HA->Prop:=λI' v hx=>∃p0 c0 p1 c1 p2 c2,v=vA (cExpr x p0 c0 p1 c1 p2 c2)/\hx=[]/\S4 I' p0 x.Index.Coefs c0/\S4 I' p1 x.Read.Subs c1/\S4 I' p2 x.Kids c2
abbrev ePStmt(x:zI):Imm->Value->List HA->Prop:=λI' v hx=>∃ad p0 c0 p1 c1 p2 c2 p3 c3,v=.pointer (some ad)/\hx=[]/\At I' ad (cStmt x p0 c0 p1 c1 p2 c2 p3 c3)/\S4 I' p0 x.Write.Subs c0/\S4 I' p1 x.Value.Index.Coefs c1/\S4 I' p2 x.Value.Read.Subs c2/\S4 I' p3 x.Value.Kids c3
abbrev eVStmt(x:zI):Imm->Value->List HA->Prop:=λI' v hx=>∃p0 c0 p1 c1 p2 c2 p3 c3,v=vA (cStmt x p0 c0 p1 c1 p2 c2 p3 c3)/\hx=[]/\S4 I' p0 x.Write.Subs c0/\S4 I' p1 x.Value.Index.Coefs c1/\S4 I' p2 x.Value.Read.Subs c2/\S4 I' p3 x.Value.Kids c3
abbrev ePAff(x:zA):Imm->Value->List HA->Prop:=λI' v hx=>∃ad p0 c0,v=.pointer (some ad)/\hx=[]/\At I' ad (cAff x p0 c0)/\S4 I' p0 x.Coefs c0
abbrev eVAff(x:zA):Imm->Value->List HA->Prop:=λI' v hx=>∃p0 c0,v=vA (cAff x p0 c0)/\hx=[]/\S4 I' p0 x.Coefs c0
abbrev ePArr(x:zD):Imm->Value->List HA->Prop:=λI' v hx=>∃ad p0 c0,v=.pointer (some ad)/\hx=[]/\At I' ad (cArr x p0 c0)/\S4 I' p0 x.Dims c0
abbrev eQArr(k:Nat)(x:zD):Imm->Value->List HA->Prop:=λI' v hx=>∃ad p0 c0,v=.pointer (some (ad.add k))/\hx=[]/\At I' ad (cArr x p0 c0)/\S4 I' p0 x.Dims c0
abbrev eVArr(x:zD):Imm->Value->List HA->Prop:=λI' v hx=>∃p0 c0,v=vA (cArr x p0 c0)/\hx=[]/\S4 I' p0 x.Dims c0
abbrev ePInst(x:zR):Imm->Value->List HA->Prop:=λI' v hx=>∃ad p0 c0,v=.pointer (some ad)/\hx=[]/\At I' ad (cInst x p0 c0)/\S4 I' p0 x.Point c0
abbrev eQInst(k:Nat)(x:zR):Imm->Value->List HA->Prop:=λI' v hx=>∃ad p0 c0,v=.pointer (some (ad.add k))/\hx=[]/\At I' ad (cInst x p0 c0)/\S4 I' p0 x.Point c0
abbrev eVInst(x:zR):Imm->Value->List HA->Prop:=λI' v hx=>∃p0 c0,v=vA (cInst x p0 c0)/\hx=[]/\S4 I' p0 x.Point c0
abbrev ePPart(x:zF):Imm->Value->List HA->Prop:=λI' v hx=>∃ad p0 c0 p1 c1,v=.pointer (some ad)/\hx=[]/\At I' ad (cPart x p0 c0 p1 c1)/\S4 I' p0 x.Nest c0/\S4 I' p1 x.Body c1
abbrev eQPart(k:Nat)(x:zF):Imm->Value->List HA->Prop:=λI' v hx=>∃ad p0 c0 p1 c1,v=.pointer (some (ad.add k))/\hx=[]/\At I' ad (cPart x p0 c0 p1 c1)/\S4 I' p0 x.Nest c0/\S4 I' p1 x.Body c1
abbrev eVPart(x:zF):Imm->Value->List HA->Prop:=λI' v hx=>∃p0 c0 p1 c1,v=vA (cPart x p0 c0 p1 c1)/\hx=[]/\S4 I' p0 x.Nest c0/\S4 I' p1 x.Body c1
abbrev ePLoop(x:zG):Imm->Value->List HA->Prop:=λI' v hx=>∃ad p0 c0 p1 c1,v=.pointer (some ad)/\hx=[]/\At I' ad (cLoop x p0 c0 p1 c1)/\S4 I' p0 x.Lo c0/\S4 I' p1 x.Hi c1
abbrev eQLoop(k:Nat)(x:zG):Imm->Value->List HA->Prop:=λI' v hx=>∃ad p0 c0 p1 c1,v=.pointer (some (ad.add k))/\hx=[]/\At I' ad (cLoop x p0 c0 p1 c1)/\S4 I' p0 x.Lo c0/\S4 I' p1 x.Hi c1
abbrev eVLoop(x:zG):Imm->Value->List HA->Prop:=λI' v hx=>∃p0 c0 p1 c1,v=vA (cLoop x p0 c0 p1 c1)/\hx=[]/\S4 I' p0 x.Lo c0/\S4 I' p1 x.Hi c1
abbrev eVAccess(x:zM):Imm->Value->List HA->Prop:=λI' v hx=>∃p0 c0,v=vA (cAccess x p0 c0)/\hx=[]/\S4 I' p0 x.Subs c0
abbrev qL0:List UInt8:=[112,114,111,103,114,97,109,10]
abbrev qL1:List UInt8:=[65,91,105,93,61,40,65,91,105,93,43,123,105,125,41]
abbrev qL2:List UInt8:=[112,97,114,116,10,102,111,114,32,48,32,51,10,102,111,114,32,48,32,52,10,66,91,105,44,106,93,61,40,66,91,105,44,106,93,43,123,50,42,105,43,106,125,41,10]
abbrev qL3:List UInt8:=[112,97,114,116,10,102,111,114,32,48,32,51,10,102,111,114,32,48,32,52,10,66,91,105,44,106,43,49,93,61,40,66,91,105,44,106,93,43,49,41,10]
abbrev qL4:List UInt8:=[112,97,114,116,10,102,111,114,32,48,32,51,10,102,111,114,32,49,32,52,10,66,91,105,43,49,44,106,45,49,93,61,40,66,91,105,44,106,93,42,50,41,10]
abbrev qL5:List UInt8:=[112,97,114,116,10,102,111,114,32,48,32,51,10,102,111,114,32,49,32,53,10,66,91,105,43,49,44,106,93,61,40,66,91,105,44,106,45,49,93,43,66,91,105,44,106,93,41,10,65,91,105,93,61,123,106,125,10]
abbrev qL6:List UInt8:=[112,97,114,116,10,102,111,114,32,48,32,52,10,65,91,105,93,61,40,123,105,125,42,50,41,10,112,97,114,116,10,102,111,114,32,48,32,52,10,65,91,105,43,49,93,61,40,65,91,105,93,43,67,91,48,93,41,10]
abbrev qL7:List UInt8:=[112,97,114,116,10,102,111,114,32,48,32,53,10,65,91,105,93,61,40,65,91,105,93,43,51,41,10,66,91,48,44,105,93,61,65,91,105,93,10]
abbrev qL8:List UInt8:=[112,97,114,116,10,102,111,114,32,48,32,51,10,102,111,114,32,48,32,51,10,67,91,105,93,61,40,67,91,105,93,43,66,91,105,44,106,93,41,10,112,97,114,116,10,102,111,114,32,48,32,51,10,102,111,114,32,48,32,51,10,65,91,106,93,61,40,65,91,106,93,45,66,91,106,44,105,93,41,10]
abbrev qL9:List UInt8:=[112,97,114,116,10,102,111,114,32,48,32,52,10,102,111,114,32,48,32,105,43,49,10,66,91,105,44,106,93,61,40,65,91,106,93,42,67,91,48,93,41,10]
instance {i j:Imm}{al:List Raw2}{parts:List zF}{vN vB:Value}{nl:List zG}{bl:List zI}:Mo (LP i al parts vN nl vB bl) i j (LP j al parts vN nl vB bl):=⟨λh x=>x.mono h⟩
abbrev RT:=Ret Tryz.prog
def zW(r:Bool):KT:=λkk I' ag v=>
 ∃v0,ag=[]/\v=tupV [v0]/\v0=.bool r
def wX(n0:Int)(low:Int)(high:Int):Option (Bool):=do
 let t6<-(do
  if(decide (low<=n0)) then pure (decide (n0<=high))
  else
   pure false
    : Option Bool)
 pure (id t6)
theorem vR:∀n0 low high r,wX n0 low high=some r->∀{I:Imm} ,RT 50 [vI n0,vI low,vI high] I [] (zW  r):=by
 intro n0 low high r N I;unfold wX at N;refine yM func50 λB=>?_;have H:=iS I;refine wZ []<|zK<|yC ?_;refine vQ N [] (λt6=>[(6,.bool t6)]) (λo0 aA=>?_) ?_
 ·have H:=iS I;refine zL<|yG 4 [] [10] rfl<|wR [10] aA ?_ ?_
  ·intro hc N;exact yQ [] [6] rfl<|yZ<|zU (ct N H)
  intro hc N;exact wM [] [(6,vF)]<|yZ<|zU (ct N H)
 intro t6 I0 le aX;refine zK<|xD ?_;obtain rfl:=zE aX;exact vH
def eF(s:Str)(substr:Str):Option Bool:=match substr.l with|[c]=>some (decide (0<=Lib.indexByte s.l c))|_=>none
theorem zE4:∀(s substr:Str) r,eF s substr=some r->∀{I:Imm},RT 156 [vT s.l,vT substr.l] I [] (zW r):=by
 intro s substr r N I;unfold eF at N;split at N
 ·rename_i c hc;cases N
  rw[hc];exact zMU (λw g=>(Tryz.strings_Contains_one ⟨⟨s.l⟩⟩ c w).mono λe w' ⟨h1,h2⟩=>⟨h1,h2 ▸ RowKit.Below.refl _ _,Nat.le_of_eq (by rw[h2])⟩) λk=>⟨_,rfl,rfl,rfl⟩
 cases N
def fP(s:Str):Option (Bool):=do
 let t2<-(do
  if((s.l.length:Int)==1) then
   let y<-eF (⟨[65,66,67,68]⟩:Str) s;pure (id y)
  else
   pure false
    : Option Bool)
 pure (id t2)
theorem kU:∀s r,fP s=some r->∀{I:Imm} ,RT 114 [vT s.l] I [] (zW  r):=by
 intro s r N I;unfold fP at N;refine yM func114 λB=>?_;have H:=iS I;refine wZ []<|zK<|yC ?_;refine vQ N [] (λt2=>[(2,.bool t2)]) (λo0 aA=>?_) ?_
 ·have H:=iS I;refine zL<|yG 4 [] [6] rfl<|wR [6] aA ?_ ?_
  ·intro hc N;refine yG 5 [] [7] rfl<|bE N λy hy N=>tA (zE4 (⟨[65,66,67,68]⟩:Str) s _ hy ) ?_;intro aP le;have H:=H.trans le;exact yQ [] [2] rfl<|yZ<|zU (ct N H)
  intro hc N;exact wM [] [(2,vF)]<|yZ<|zU (ct N H)
 intro t2 I0 aa aX;refine zK<|xD ?_;obtain rfl:=zE aX;exact vH
def eC(aD:List HA)(r:Int):KT:=λkk I' ag v=>
 ∃v0,aD=ag/\v=tupV [v0]/\v0=.int .i64 r
def vU(s:(List Int))(f0:(Int->Option Bool))(t8:Int):Option (Out Unit (Int)):=do
 if(decide (t8<(s.length:Int))) then
  let x<-idx s t8;let y<-f0 x;if y then pure (.ret t8)
  else vU s f0 (W (t8+1))
 else pure (.done ())
 partial_fixpoint
theorem zAv(s:(List Int))(f0:(Int->Option Bool)):∀(t8:Int) (o:Out Unit (Int)),vU s f0 t8=some o->∀{B}{I0 I:Imm}{Q p c}{fv:Value}{aD:List HA},I0.le I->(S4 I p s c)->(FV1 Tryz.prog I aD fv f0)->NG Q->NO Q->(∀I',o=(.done ())->I0.le I'->T 19 B Q (.exit 0) I' aD [])->(∀r I' ag m',o=(.ret r)->I0.le I'->RS Tryz.prog f130 B (eC aD r) I' ag m'->T 19 B Q .ret I' ag m')->J Tryz.prog 19 B (nav (bodyOf f130) [1,0,1,0]) Q I aD [(0,vS p s c),(1,fv),(7,vI (s.length:Int)),(8,vI t8)]:=by
 refine vU.partial_correctness s f0 _ λaJ ih t8 o N B I0 I Q p c fv aD H h h1 hg ho hx hr=>yX hg ho<|yK [9] rfl<|yA<|yH N ?_ ?_
 ·intro hc N;refine zT<|yA<|yL<|yK [5] rfl<|yY<|yG 3 [] [11,12,13] rfl<|bE N λx hy N=>xW rfl rfl h hy ?_;intro ad aN aq am;obtain rfl:=am;refine xM 0 aq [vI x] (vI x) rfl<|bE N λy az N=>zK3 rfl rfl h1 az rfl (cx _).symm ?_;rintro I0 v0 le rfl;refine wY (ag:=aD) (cx _) ?_;have ⟨h,h1,H⟩:=m3 le h h1 H;refine zY rfl<|zK<|yH N ?_ ?_
  ·intro aH N;exact yK [4] rfl<|xH<|zV<|zJ<|zJ<|hr _ _ _ _ (zE N).symm H ⟨_,_,(resT rfl),(λ_ h=>h),⟨_,rfl,rfl,rfl⟩⟩
  intro aH N;exact zT<|zN<|zK<|zL<|yQ [] [8] rfl<|yV<|nX<|ih (W (t8+1)) _ N H h h1 hg ho hx hr
 intro hc N;exact wW<|yZ<|hx _  (zE N).symm H
def oQ(s:(List Int))(f0:(Int->Option Bool)):Option (Int):=do
 match<-vU s f0 0 with
 | .ret r0=>pure r0
 | .done _=>
  pure (-1)
theorem zB3:∀s f0 r,oQ s f0=some r->∀{I:Imm}{p c}{fv:Value}{aD:List HA},(S4 I p s c)->(FV1 Tryz.prog I aD fv f0)->RT 130 [vS p s c,fv] I aD (eC aD r):=by
 intro s f0 r N I p c fv aD h h1;unfold oQ at N;refine yM func130 λB=>wZ []<|yA<|yK [7,8] rfl<|wN<|qX [(0,vS p s c),(1,fv),(7,vI (s.length:Int)),(8,vI 0)] ?_;obtain⟨o0,aA,aE⟩:=zB N;refine zAv s f0 0 o0 aA iR h h1 nG nO ?_ ?_
 ·intro aP  heq aa;subst o0;refine zS<|vM [4] rfl<|zK<|xD ?_;exact xX aE (resT rfl) (λ_ h=>h) ⟨_,rfl,rfl,rfl⟩
 intro r0 I9 hs9 m9 aT le9 aV;subst aT;refine zV<|zJ ?_;obtain rfl:=zE aE;exact jW aV
def zAg(aD:List HA)(r:Bool):KT:=λkk I' ag v=>
 ∃v0,aD=ag/\v=tupV [v0]/\v0=.bool r
def wD(s:(List Int))(f0:(Int->Option Bool)):Option (Bool):=do
 let y<-oQ s f0;pure (decide (y>=0))
theorem qN:∀s f0 r,wD s f0=some r->∀{I:Imm}{p c}{fv:Value}{aD:List HA},(S4 I p s c)->(FV1 Tryz.prog I aD fv f0)->RT 115 [vS p s c,fv] I aD (zAg aD r):=by
 intro s f0 r N I p c fv aD h h1;unfold wD at N;refine yM func115 λB=>wZ []<|yY<|yG 2 [] [5,6] rfl<|bE N λy hy N=>zGb (hs1:=aD) (rest:=[]) rfl rfl rfl rfl (by kernel_rfl) rfl (cx _).symm (zB3 s f0 _ hy h h1) ?_;rintro I0 ax v2 k2 le - ⟨v0,rfl,rfl,rfl⟩ -;refine wY (ag:=aD) (cx _) ?_;refine yQ [] [4] rfl<|zK<|xD ?_;exact xX N (resT rfl) (λ_ h=>h) ⟨_,rfl,rfl,rfl⟩
def sQ(n0:Int):Option (Bool):=do
 let y<-wX n0 1 6;pure (!y)
theorem zBb:∀n0 r,sQ n0=some r->∀{I:Imm} ,RT 116 [vI n0] I [] (zW  r):=by
 intro n0 r N I;unfold sQ at N;refine yM func116 λB=>wZ []<|yY<|yG 1 [] [3] rfl<|bE N λy hy N=>tA (vR n0 1 6 _ hy ) λI0 le=>wM [] [(2,.bool (!y))]<|zK<|xD ?_;obtain rfl:=zE N;exact vH
def pX(list:(List zD))(t7:Int):Option (Out Unit (Bool)):=do
 if(decide (t7<(list.length:Int))) then
  let x<-idx list t7;let t42<-(do
   let y<-fP x.Name;if(!y) then pure true
   else
    if(decide (t7>0)) then
     let x1<-idx list (W (t7 - 1));if(!(Op.bytesLess x1.Name.l x.Name.l)) then pure true
     else
      let y1<-wX (x.Dims.length:Int) 1 2;if(!y1) then pure true
      else
       let y2<-wD x.Dims sQ;pure (id y2)
    else
     let y3<-wX (x.Dims.length:Int) 1 2;if(!y3) then pure true
     else
      let y4<-wD x.Dims sQ;pure (id y4)
     : Option Bool)
  if t42 then pure (.ret false)
  else pX list (W (t7+1))
 else pure (.done ())
 partial_fixpoint
theorem zE5(list:(List zD)):∀(t7:Int) (o:Out Unit (Bool)),pX list t7=some o->∀{B}{I0 I:Imm}{Q p c},I0.le I->(S4 I p list c)->NG Q->NO Q->(∀I',o=(.done ())->I0.le I'->T 47 B Q (.exit 0) I' [] [(0,vS p list c)])->(∀r I' ag m',o=(.ret r)->I0.le I'->RS Tryz.prog f77 B (zW  r) I' ag m'->T 47 B Q .ret I' ag m')->J Tryz.prog 47 B (nav (bodyOf f77) [1,0,1,0]) Q I [] [(0,vS p list c),(5,vS p list c),(6,vI (list.length:Int)),(7,vI t7)]:=by
 refine pX.partial_correctness list _ λaJ ih t7 o N B I0 I Q p c H h hg ho hx hr=>yX hg ho<|yK [8] rfl<|yA<|yH N ?_ ?_
 ·intro hc N;refine zT<|yA<|yL<|yD<|yG 1 [] [9] rfl<|bE N λx hy N=>xW rfl rfl h hy ?_;intro ad aN aq am;obtain⟨p1,c1,rfl,h1⟩:=wH am;refine xM 0 aq (cArr x p1 c1) (vA (cArr x p1 c1)) rfl<|xY [vT ([]),z0] ?_;intro b hb;refine yG 5 [] [3] rfl<|xC 0 (cArr x p1 c1) rfl<|zY rfl<|zK<|yC ?_;refine vQ N [] (λt42=>[(0,vS p list c),(5,vS p list c),(6,vI (list.length:Int)),(7,vI t7),(42,.bool t42)]) (λo0 aA=>?_) ?_
  ·have H:=iS I;obtain⟨y,az,N⟩:=zB aA;cases aH:(!y) with
   | true=>
    have hM0:=rZ aH N;refine wP [.p (vP b 0) [],.p (vT x.Name.l) [0],.q (.bool y),.q vY,.q vY,.p undef [],.p undef [],.p undef [],.p undef [],.p undef [],.p undef [],.p undef [],.p undef [],.p undef [],.p undef [],.p undef [],.p undef [],.p undef [],.p vY [],.p vY [],.p undef [],.p undef [],.p undef [],.p undef [],.p undef [],.p vY [],.p vY [],.p undef [],.p undef [],.p undef [],.p vY []] [[],[(0,false)],[(1,false)],[(2,false)],[(3,false)],[(4,false)],[(4,false),(5,false)],[(4,false),(6,false)],[(7,false)],[(7,false)],[(7,false),(9,false)],[(7,false),(8,false),(10,false)],[(7,false),(11,false)],[(7,false),(12,false)],[(7,false)],[(7,false),(14,false)],[(7,false),(13,false),(15,false)],[(4,false),(7,false),(16,false)],[(4,false),(17,false)],[(18,false)],[(19,false)],[(19,false),(20,false)],[(19,false),(21,false)],[(19,false),(22,false)],[(19,false),(23,false)],[(19,false),(24,false)],[(25,false)],[(26,false)],[(26,false),(27,false)],[(26,false),(28,false)],[(26,false),(29,false)]] [hB b (cArr x p1 c1)] [] [(30,false)] (zZ [0]) ?_ ?_
    ·refine O2<|Oq ?_<|Oq ?_<|Oq ?_<|O4<|O4<|O4<|O4<|O4<|O4<|O2<|On
     ·intro I1 hf aa;refine yW [13] rfl ?_;have H:=iS I1;refine tA (kU x.Name _ az ) ?_;intro aP le;have H:=H.trans le;exact xO H
     ·intro I1 hf aa;refine yW [14] rfl<|oN 4 [(15,.bool (!y))] ?_;rw[aH];exact xO iR
     intro I1 hf aa;exact I_h [(15,vY)]<|oN 5 [(16,vY)]<|xO iR
    intro aW aa;refine yW [0,5,6,7,42] rfl ?_;have H:=H.trans aa;exact zY rfl<|wK zO<|yZ<|zU (ct hM0 H)
   | false=>
    have hM01:=sP aH N;cases ba:(decide (t7>0)) with
    | true=>
     have hM02:=rZ ba hM01;obtain⟨x1,aG,N⟩:=zB hM02;cases bD:(!(Op.bytesLess x1.Name.l x.Name.l)) with
     | true=>
      have hM03:=rZ bD N;refine wP [.p (vP b 0) [],.p (vT x.Name.l) [0],.q (.bool y),.q vF,.q vF,.p (vI t7) [],.q vY,.q vY,.p (vS p list c) [],.p (vI t7) [],.p (vI (W (t7 - 1))) [],.x (ePArr x1),.x (ePArr x1),.q (vT x1.Name.l),.p (vP b 0) [],.p (vT x.Name.l) [0],.q vY,.q vY,.q vY,.q vY,.p undef [],.p undef [],.p undef [],.p undef [],.p undef [],.p vY [],.p vY [],.p undef [],.p undef [],.p undef [],.p vY []] [[],[(0,false)],[(1,false)],[(2,false)],[(3,false)],[(4,false)],[(4,false),(5,false)],[(4,false),(6,false)],[(7,false)],[(7,false)],[(7,false),(9,false)],[(7,false),(8,false),(10,false)],[(7,false),(11,false)],[(7,false),(12,false)],[(7,false)],[(7,false),(14,false)],[(7,false),(13,false),(15,false)],[(4,false),(7,false),(16,false)],[(4,false),(17,false)],[(18,false)],[(19,false)],[(19,false),(20,false)],[(19,false),(21,false)],[(19,false),(22,false)],[(19,false),(23,false)],[(19,false),(24,false)],[(25,false)],[(26,false)],[(26,false),(27,false)],[(26,false),(28,false)],[(26,false),(29,false)]] [hB b (cArr x p1 c1)] [] [(30,false)] (zZ [0]) ?_ ?_
      ·refine O2<|Oq ?_<|Oq ?_<|Oq ?_<|Op<|Oq ?_<|Oq ?_<|O3<|Ox ?_<|Ox ?_<|Oq ?_<|O2<|Oq ?_<|Oq ?_<|Oq ?_<|Oq ?_<|O4<|O4<|O3<|On
       ·intro I1 hf aa;refine yW [13] rfl ?_;have H:=iS I1;refine tA (kU x.Name _ az ) ?_;intro aP le;have H:=H.trans le;exact xO H
       ·intro I1 hf aa;refine yW [14] rfl<|oN 4 [(15,.bool (!y))] ?_;rw[aH];exact xO iR
       ·intro I1 hf aa;exact I_h [(15,vF)]<|oN 5 [(16,vF)]<|xO iR
       ·intro I1 hf aa;refine yW [16,17] rfl<|oN 7 [(18,.bool (decide (t7>0)))] ?_;rw[ba];exact xO iR
       ·intro I1 hf aa;exact yW [16,18] rfl<|oN 8 [(19,vY)]<|xO iR
       ·intro I1 hf aa;refine yW [19,20,22] rfl ?_;have h:=h.mono aa;refine xW rfl rfl h aG ?_;intro ad1 bq aw ay;obtain⟨p2,c2,rfl,h3⟩:=wH ay;exact yN [] iR ⟨_,_,_,rfl,rfl,aw,h3⟩
       ·rintro I1 hf aa _ _ ⟨rfl,rfl⟩ _ _ ⟨ad1,p2,c2,rfl,rfl,aw,h3⟩;exact yW [19,23] rfl<|oN 13 [(24,.pointer (some ad1))]<|yN [] iR ⟨_,_,_,rfl,rfl,aw,h3⟩
       ·rintro I1 hf aa _ _ ⟨rfl,rfl⟩ _ _ ⟨ad11,p21,c21,rfl,rfl,hat11,h31⟩;exact yW [19,24] rfl<|xM 0 hat11 [vT x1.Name.l] (vT x1.Name.l) rfl<|xO iR
       ·intro I1 hf aa;refine yW [19,25,27] rfl<|oN 17 [(28,.bool (!(Op.bytesLess x1.Name.l x.Name.l)))] ?_;rw[bD];exact xO iR
       ·intro I1 hf aa;exact yW [16,19,28] rfl<|oN 18 [(29,vY)]<|xO iR
       ·intro I1 hf aa;exact yW [16,29] rfl<|oN 19 [(30,vY)]<|xO iR
       intro I1 hf aa;exact I_h [(30,vY)]<|oN 20 [(31,vY)]<|xO iR
      intro bx aC;refine yW [0,5,6,7,42] rfl ?_;have H:=H.trans aC;exact zY rfl<|wK zO<|yZ<|zU (ct hM03 H)
     | false=>
      have hM04:=sP bD N;obtain⟨y1,bh,N⟩:=zB hM04;cases bJ:(!y1) with
      | true=>
       have hM05:=rZ bJ N;refine wP [.p (vP b 0) [],.p (vT x.Name.l) [0],.q (.bool y),.q vF,.q vF,.p (vI t7) [],.q vY,.q vY,.p (vS p list c) [],.p (vI t7) [],.p (vI (W (t7 - 1))) [],.x (ePArr x1),.x (ePArr x1),.q (vT x1.Name.l),.p (vP b 0) [],.p (vT x.Name.l) [0],.q vF,.q vF,.q vF,.q vF,.p (vP b 1) [],.p (vS p1 x.Dims c1) [0],.p (vI (x.Dims.length:Int)) [],.q (.bool y1),.q vY,.q vY,.q vY,.p undef [],.p undef [],.p undef [],.p vY []] [[],[(0,false)],[(1,false)],[(2,false)],[(3,false)],[(4,false)],[(4,false),(5,false)],[(4,false),(6,false)],[(7,false)],[(7,false)],[(7,false),(9,false)],[(7,false),(8,false),(10,false)],[(7,false),(11,false)],[(7,false),(12,false)],[(7,false)],[(7,false),(14,false)],[(7,false),(13,false),(15,false)],[(4,false),(7,false),(16,false)],[(4,false),(17,false)],[(18,false)],[(19,false)],[(19,false),(20,false)],[(19,false),(21,false)],[(19,false),(22,false)],[(19,false),(23,false)],[(19,false),(24,false)],[(25,false)],[(26,false)],[(26,false),(27,false)],[(26,false),(28,false)],[(26,false),(29,false)]] [hB b (cArr x p1 c1)] [] [(30,false)] (zZ [0]) ?_ ?_
       ·refine O2<|Oq ?_<|Oq ?_<|Oq ?_<|Op<|Oq ?_<|Oq ?_<|O3<|Ox ?_<|Ox ?_<|Oq ?_<|O2<|Oq ?_<|Oq ?_<|Oq ?_<|Oq ?_<|O3<|Oq ?_<|Oq ?_<|Oq ?_<|Oq ?_<|O4<|On
        ·intro I1 hf aa;refine yW [13] rfl ?_;have H:=iS I1;refine tA (kU x.Name _ az ) ?_;intro aP le;have H:=H.trans le;exact xO H
        ·intro I1 hf aa;refine yW [14] rfl<|oN 4 [(15,.bool (!y))] ?_;rw[aH];exact xO iR
        ·intro I1 hf aa;exact I_h [(15,vF)]<|oN 5 [(16,vF)]<|xO iR
        ·intro I1 hf aa;refine yW [16,17] rfl<|oN 7 [(18,.bool (decide (t7>0)))] ?_;rw[ba];exact xO iR
        ·intro I1 hf aa;exact yW [16,18] rfl<|oN 8 [(19,vY)]<|xO iR
        ·intro I1 hf aa;refine yW [19,20,22] rfl ?_;have h:=h.mono aa;refine xW rfl rfl h aG ?_;intro ad1 bq aw ay;obtain⟨p2,c2,rfl,h3⟩:=wH ay;exact yN [] iR ⟨_,_,_,rfl,rfl,aw,h3⟩
        ·rintro I1 hf aa _ _ ⟨rfl,rfl⟩ _ _ ⟨ad1,p2,c2,rfl,rfl,aw,h3⟩;exact yW [19,23] rfl<|oN 13 [(24,.pointer (some ad1))]<|yN [] iR ⟨_,_,_,rfl,rfl,aw,h3⟩
        ·rintro I1 hf aa _ _ ⟨rfl,rfl⟩ _ _ ⟨ad11,p21,c21,rfl,rfl,hat11,h31⟩;exact yW [19,24] rfl<|xM 0 hat11 [vT x1.Name.l] (vT x1.Name.l) rfl<|xO iR
        ·intro I1 hf aa;refine yW [19,25,27] rfl<|oN 17 [(28,.bool (!(Op.bytesLess x1.Name.l x.Name.l)))] ?_;rw[bD];exact xO iR
        ·intro I1 hf aa;exact yW [16,19,28] rfl<|oN 18 [(29,vF)]<|xO iR
        ·intro I1 hf aa;exact yW [16,29] rfl<|oN 19 [(30,vF)]<|xO iR
        ·intro I1 hf aa;exact I_h [(30,vF)]<|oN 20 [(31,vF)]<|xO iR
        ·intro I1 hf aa;refine yW [31,34] rfl ?_;have H:=iS I1;refine tA (vR (x.Dims.length:Int) 1 2 _ bh ) ?_;intro bG aI;have H:=H.trans aI;exact xO H
        ·intro I1 hf aa;refine yW [31,35] rfl<|oN 25 [(36,.bool (!y1))] ?_;rw[bJ];exact xO iR
        ·intro I1 hf aa;exact yW [31,36] rfl<|oN 26 [(37,vY)]<|xO iR
        intro I1 hf aa;exact I_h [(37,vY)]<|oN 27 [(38,vY)]<|xO iR
       intro bK aY;refine yW [0,5,6,7,42] rfl ?_;have H:=H.trans aY;exact zY rfl<|wK zO<|yZ<|zU (ct hM05 H)
      | false=>
       have hM06:=sP bJ N;obtain⟨y2,bu,N⟩:=zB hM06;refine wP [.p (vP b 0) [],.p (vT x.Name.l) [0],.q (.bool y),.q vF,.q vF,.p (vI t7) [],.q vY,.q vY,.p (vS p list c) [],.p (vI t7) [],.p (vI (W (t7 - 1))) [],.x (ePArr x1),.x (ePArr x1),.q (vT x1.Name.l),.p (vP b 0) [],.p (vT x.Name.l) [0],.q vF,.q vF,.q vF,.q vF,.p (vP b 1) [],.p (vS p1 x.Dims c1) [0],.p (vI (x.Dims.length:Int)) [],.q (.bool y1),.q vF,.q vF,.q vF,.p (vP b 1) [],.p (vS p1 x.Dims c1) [0],.q (.bool y2),.p (.bool y2) []] [[],[(0,false)],[(1,false)],[(2,false)],[(3,false)],[(4,false)],[(4,false),(5,false)],[(4,false),(6,false)],[(7,false)],[(7,false)],[(7,false),(9,false)],[(7,false),(8,false),(10,false)],[(7,false),(11,false)],[(7,false),(12,false)],[(7,false)],[(7,false),(14,false)],[(7,false),(13,false),(15,false)],[(4,false),(7,false),(16,false)],[(4,false),(17,false)],[(18,false)],[(19,false)],[(19,false),(20,false)],[(19,false),(21,false)],[(19,false),(22,false)],[(19,false),(23,false)],[(19,false),(24,false)],[(25,false)],[(26,false)],[(26,false),(27,false)],[(26,false),(28,false)],[(26,false),(29,false)]] [hB b (cArr x p1 c1)] [] [(30,false)] (zZ [0]) ?_ ?_
       ·refine O2<|Oq ?_<|Oq ?_<|Oq ?_<|Op<|Oq ?_<|Oq ?_<|O3<|Ox ?_<|Ox ?_<|Oq ?_<|O2<|Oq ?_<|Oq ?_<|Oq ?_<|Oq ?_<|O3<|Oq ?_<|Oq ?_<|Oq ?_<|Oq ?_<|O2<|Oq ?_<|Op<|On
        ·intro I1 hf aa;refine yW [13] rfl ?_;have H:=iS I1;refine tA (kU x.Name _ az ) ?_;intro aP le;have H:=H.trans le;exact xO H
        ·intro I1 hf aa;refine yW [14] rfl<|oN 4 [(15,.bool (!y))] ?_;rw[aH];exact xO iR
        ·intro I1 hf aa;exact I_h [(15,vF)]<|oN 5 [(16,vF)]<|xO iR
        ·intro I1 hf aa;refine yW [16,17] rfl<|oN 7 [(18,.bool (decide (t7>0)))] ?_;rw[ba];exact xO iR
        ·intro I1 hf aa;exact yW [16,18] rfl<|oN 8 [(19,vY)]<|xO iR
        ·intro I1 hf aa;refine yW [19,20,22] rfl ?_;have h:=h.mono aa;refine xW rfl rfl h aG ?_;intro ad1 bq aw ay;obtain⟨p2,c2,rfl,h3⟩:=wH ay;exact yN [] iR ⟨_,_,_,rfl,rfl,aw,h3⟩
        ·rintro I1 hf aa _ _ ⟨rfl,rfl⟩ _ _ ⟨ad1,p2,c2,rfl,rfl,aw,h3⟩;exact yW [19,23] rfl<|oN 13 [(24,.pointer (some ad1))]<|yN [] iR ⟨_,_,_,rfl,rfl,aw,h3⟩
        ·rintro I1 hf aa _ _ ⟨rfl,rfl⟩ _ _ ⟨ad11,p21,c21,rfl,rfl,hat11,h31⟩;exact yW [19,24] rfl<|xM 0 hat11 [vT x1.Name.l] (vT x1.Name.l) rfl<|xO iR
        ·intro I1 hf aa;refine yW [19,25,27] rfl<|oN 17 [(28,.bool (!(Op.bytesLess x1.Name.l x.Name.l)))] ?_;rw[bD];exact xO iR
        ·intro I1 hf aa;exact yW [16,19,28] rfl<|oN 18 [(29,vF)]<|xO iR
        ·intro I1 hf aa;exact yW [16,29] rfl<|oN 19 [(30,vF)]<|xO iR
        ·intro I1 hf aa;exact I_h [(30,vF)]<|oN 20 [(31,vF)]<|xO iR
        ·intro I1 hf aa;refine yW [31,34] rfl ?_;have H:=iS I1;refine tA (vR (x.Dims.length:Int) 1 2 _ bh ) ?_;intro bG aI;have H:=H.trans aI;exact xO H
        ·intro I1 hf aa;refine yW [31,35] rfl<|oN 25 [(36,.bool (!y1))] ?_;rw[bJ];exact xO iR
        ·intro I1 hf aa;exact yW [31,36] rfl<|oN 26 [(37,vF)]<|xO iR
        ·intro I1 hf aa;exact I_h [(37,vF)]<|oN 27 [(38,vF)]<|xO iR
        intro I1 hf aa;refine yW [38,40] rfl ?_;have H:=iS I1;have ⟨h,h1⟩:=m2 aa h h1;have hf0:FV1 Tryz.prog I1 [] (.func (.func 116) ⟨[]⟩ ⟨[]⟩) sQ:=by
         refine FV1.intro ?_;intro I1 aa x0 r u0 hF k0;obtain rfl:=k0;exact(zBb x0 r hF ).mono (by rintro k i hs u ⟨v0,rfl,rfl,h⟩;exact⟨rfl,h⟩)
        refine xK (qN x.Dims sQ _ bu h1 hf0) ?_;rintro I06 ax v2 k2 bo - ⟨v04,rfl,rfl,rfl⟩ -;have H:=H.trans bo;exact xO H
       intro I07 bv;refine yW [0,5,6,7,42] rfl ?_;have H:=H.trans bv;exact zY rfl<|wK zO<|yZ<|zU (ct N H)
    | false=>
     have hM07:=sP ba hM01;obtain⟨y3,bC,N⟩:=zB hM07;cases hc5:(!y3) with
     | true=>
      have hM08:=rZ hc5 N;refine wP [.p (vP b 0) [],.p (vT x.Name.l) [0],.q (.bool y),.q vF,.q vF,.p (vI t7) [],.q vF,.q vF,.p undef [],.p undef [],.p undef [],.p undef [],.p undef [],.p undef [],.p undef [],.p undef [],.p undef [],.p vF [],.p vF [],.p vF [],.p (vP b 1) [],.p (vS p1 x.Dims c1) [0],.p (vI (x.Dims.length:Int)) [],.q (.bool y3),.q vY,.q vY,.q vY,.p undef [],.p undef [],.p undef [],.p vY []] [[],[(0,false)],[(1,false)],[(2,false)],[(3,false)],[(4,false)],[(4,false),(5,false)],[(4,false),(6,false)],[(7,false)],[(7,false)],[(7,false),(9,false)],[(7,false),(8,false),(10,false)],[(7,false),(11,false)],[(7,false),(12,false)],[(7,false)],[(7,false),(14,false)],[(7,false),(13,false),(15,false)],[(4,false),(7,false),(16,false)],[(4,false),(17,false)],[(18,false)],[(19,false)],[(19,false),(20,false)],[(19,false),(21,false)],[(19,false),(22,false)],[(19,false),(23,false)],[(19,false),(24,false)],[(25,false)],[(26,false)],[(26,false),(27,false)],[(26,false),(28,false)],[(26,false),(29,false)]] [hB b (cArr x p1 c1)] [] [(30,false)] (zZ [0]) ?_ ?_
      ·refine O2<|Oq ?_<|Oq ?_<|Oq ?_<|Op<|Oq ?_<|Oq ?_<|O4<|O4<|O4<|O3<|Oq ?_<|Oq ?_<|Oq ?_<|Oq ?_<|O4<|On
       ·intro I1 hf aa;refine yW [13] rfl ?_;have H:=iS I1;refine tA (kU x.Name _ az ) ?_;intro aP le;have H:=H.trans le;exact xO H
       ·intro I1 hf aa;refine yW [14] rfl<|oN 4 [(15,.bool (!y))] ?_;rw[aH];exact xO iR
       ·intro I1 hf aa;exact I_h [(15,vF)]<|oN 5 [(16,vF)]<|xO iR
       ·intro I1 hf aa;refine yW [16,17] rfl<|oN 7 [(18,.bool (decide (t7>0)))] ?_;rw[ba];exact xO iR
       ·intro I1 hf aa;exact yW [16,18] rfl<|oN 8 [(19,vF)]<|xO iR
       ·intro I1 hf aa;refine yW [31,34] rfl ?_;have H:=iS I1;refine tA (vR (x.Dims.length:Int) 1 2 _ bC ) ?_;intro I08 le7;have H:=H.trans le7;exact xO H
       ·intro I1 hf aa;refine yW [31,35] rfl<|oN 25 [(36,.bool (!y3))] ?_;rw[hc5];exact xO iR
       ·intro I1 hf aa;exact yW [31,36] rfl<|oN 26 [(37,vY)]<|xO iR
       intro I1 hf aa;exact I_h [(37,vY)]<|oN 27 [(38,vY)]<|xO iR
      intro I09 le8;refine yW [0,5,6,7,42] rfl ?_;have H:=H.trans le8;exact zY rfl<|wK zO<|yZ<|zU (ct hM08 H)
     | false=>
      have hM09:=sP hc5 N;obtain⟨y4,hy6,N⟩:=zB hM09;refine wP [.p (vP b 0) [],.p (vT x.Name.l) [0],.q (.bool y),.q vF,.q vF,.p (vI t7) [],.q vF,.q vF,.p undef [],.p undef [],.p undef [],.p undef [],.p undef [],.p undef [],.p undef [],.p undef [],.p undef [],.p vF [],.p vF [],.p vF [],.p (vP b 1) [],.p (vS p1 x.Dims c1) [0],.p (vI (x.Dims.length:Int)) [],.q (.bool y3),.q vF,.q vF,.q vF,.p (vP b 1) [],.p (vS p1 x.Dims c1) [0],.q (.bool y4),.p (.bool y4) []] [[],[(0,false)],[(1,false)],[(2,false)],[(3,false)],[(4,false)],[(4,false),(5,false)],[(4,false),(6,false)],[(7,false)],[(7,false)],[(7,false),(9,false)],[(7,false),(8,false),(10,false)],[(7,false),(11,false)],[(7,false),(12,false)],[(7,false)],[(7,false),(14,false)],[(7,false),(13,false),(15,false)],[(4,false),(7,false),(16,false)],[(4,false),(17,false)],[(18,false)],[(19,false)],[(19,false),(20,false)],[(19,false),(21,false)],[(19,false),(22,false)],[(19,false),(23,false)],[(19,false),(24,false)],[(25,false)],[(26,false)],[(26,false),(27,false)],[(26,false),(28,false)],[(26,false),(29,false)]] [hB b (cArr x p1 c1)] [] [(30,false)] (zZ [0]) ?_ ?_
      ·refine O2<|Oq ?_<|Oq ?_<|Oq ?_<|Op<|Oq ?_<|Oq ?_<|O4<|O4<|O4<|O3<|Oq ?_<|Oq ?_<|Oq ?_<|Oq ?_<|O2<|Oq ?_<|Op<|On
       ·intro I1 hf aa;refine yW [13] rfl ?_;have H:=iS I1;refine tA (kU x.Name _ az ) ?_;intro aP le;have H:=H.trans le;exact xO H
       ·intro I1 hf aa;refine yW [14] rfl<|oN 4 [(15,.bool (!y))] ?_;rw[aH];exact xO iR
       ·intro I1 hf aa;exact I_h [(15,vF)]<|oN 5 [(16,vF)]<|xO iR
       ·intro I1 hf aa;refine yW [16,17] rfl<|oN 7 [(18,.bool (decide (t7>0)))] ?_;rw[ba];exact xO iR
       ·intro I1 hf aa;exact yW [16,18] rfl<|oN 8 [(19,vF)]<|xO iR
       ·intro I1 hf aa;refine yW [31,34] rfl ?_;have H:=iS I1;refine tA (vR (x.Dims.length:Int) 1 2 _ bC ) ?_;intro I08 le7;have H:=H.trans le7;exact xO H
       ·intro I1 hf aa;refine yW [31,35] rfl<|oN 25 [(36,.bool (!y3))] ?_;rw[hc5];exact xO iR
       ·intro I1 hf aa;exact yW [31,36] rfl<|oN 26 [(37,vF)]<|xO iR
       ·intro I1 hf aa;exact I_h [(37,vF)]<|oN 27 [(38,vF)]<|xO iR
       intro I1 hf aa;refine yW [38,40] rfl ?_;have H:=iS I1;have ⟨h,h1⟩:=m2 aa h h1;have hf01:FV1 Tryz.prog I1 [] (.func (.func 116) ⟨[]⟩ ⟨[]⟩) sQ:=by
        refine FV1.intro ?_;intro I1 aa x0 r u0 hF k0;obtain rfl:=k0;exact(zBb x0 r hF ).mono (by rintro k i hs u ⟨v0,rfl,rfl,h⟩;exact⟨rfl,h⟩)
       refine xK (qN x.Dims sQ _ hy6 h1 hf01) ?_;rintro bN ax v2 k2 le9 - ⟨v06,rfl,rfl,rfl⟩ -;have H:=H.trans le9;exact xO H
      intro bS le10;refine yW [0,5,6,7,42] rfl ?_;have H:=H.trans le10;exact zY rfl<|wK zO<|yZ<|zU (ct N H)
  intro t42 I0 le11 aX;have ⟨h,H⟩:=m2 le11 h H;refine zK<|yH aX ?_ ?_
  ·intro hc6 N;exact wZ [(2,vF)]<|xH<|zV<|zJ<|zJ<|hr _ _ _ _ (zE N).symm H ⟨_,_,(resT rfl),zO,⟨_,rfl,rfl,rfl⟩⟩
  intro hc6 N;exact zT<|zN<|zK<|zL<|yQ [] [7] rfl<|yV<|nX<|ih (W (t7+1)) _ N H h hg ho hx hr
 intro hc N;exact wW<|yZ<|hx _  (zE N).symm H
def eT(list:(List zD)):Option (Bool):=do
 match<-pX list 0 with
 | .ret r0=>pure r0
 | .done _=>
  pure (decide ((list.length:Int)<=4))
theorem zGm:∀list r,eT list=some r->∀{I:Imm}{p c},(S4 I p list c)->RT 77 [vS p list c] I [] (zW  r):=by
 intro list r N I p c h;unfold eT at N;refine yM func77 λB=>wZ []<|yA<|yK [5,6,7] rfl<|wN<|qX [(0,vS p list c),(5,vS p list c),(6,vI (list.length:Int)),(7,vI 0)] ?_;obtain⟨aU,aB,aE⟩:=zB N;refine zE5 list 0 aU aB iR h nG nO ?_ ?_
 ·intro bR  heq1 le12;subst aU;refine zS<|vM [2] rfl<|zK<|xD ?_;obtain rfl:=zE aE;exact vH
 intro r0 I9 hs9 m9 aT le9 aV;subst aT;refine zV<|zJ ?_;obtain rfl:=zE aE;exact jW aV
def pV(aD:List HA)(r:Int):KT:=λkk I' ag v=>
 ∃v0,aD=ag/\v=tupV [v0]/\v0=.int .i64 r
def xQ(s:(List zA))(f0:(zA->Option Bool))(t8:Int):Option (Out Unit (Int)):=do
 if(decide (t8<(s.length:Int))) then
  let x<-idx s t8;let y<-f0 x;if y then pure (.ret t8)
  else xQ s f0 (W (t8+1))
 else pure (.done ())
 partial_fixpoint
theorem gY(s:(List zA))(f0:(zA->Option Bool)):∀(t8:Int) (o:Out Unit (Int)),xQ s f0 t8=some o->∀{B}{I0 I:Imm}{Q p c}{fv:Value}{aD:List HA},I0.le I->(S4 I p s c)->(FV1 Tryz.prog I aD fv f0)->NG Q->NO Q->(∀I',o=(.done ())->I0.le I'->T 19 B Q (.exit 0) I' aD [])->(∀r I' ag m',o=(.ret r)->I0.le I'->RS Tryz.prog f197 B (pV aD r) I' ag m'->T 19 B Q .ret I' ag m')->J Tryz.prog 19 B (nav (bodyOf f197) [1,0,1,0]) Q I aD [(0,vS p s c),(1,fv),(7,vI (s.length:Int)),(8,vI t8)]:=by
 refine xQ.partial_correctness s f0 _ λaJ ih t8 o N B I0 I Q p c fv aD H h h1 hg ho hx hr=>yX hg ho<|yK [9] rfl<|yA<|yH N ?_ ?_
 ·intro hc N;refine zT<|yA<|yL<|yK [5] rfl<|yY<|yG 3 [] [11,12,13] rfl<|bE N λx hy N=>xW rfl rfl h hy ?_;intro ad aN aq am;obtain⟨p1,c1,rfl,h2⟩:=yI am;refine xM 0 aq (cAff x p1 c1) (vA (cAff x p1 c1)) rfl<|bE N λy az N=>zK3 rfl rfl h1 az ⟨_,rfl,(yO ⟨_,rfl,h2⟩)⟩ (cx _).symm ?_;rintro I0 v01 le rfl;refine wY (ag:=aD) (cx _) ?_;have ⟨h,h1,H⟩:=m3 le h h1 H;refine zY rfl<|zK<|yH N ?_ ?_
  ·intro aH N;exact yK [4] rfl<|xH<|zV<|zJ<|zJ<|hr _ _ _ _ (zE N).symm H ⟨_,_,(resT rfl),(λ_ h=>h),⟨_,rfl,rfl,rfl⟩⟩
  intro aH N;exact zT<|zN<|zK<|zL<|yQ [] [8] rfl<|yV<|nX<|ih (W (t8+1)) _ N H h h1 hg ho hx hr
 intro hc N;exact wW<|yZ<|hx _  (zE N).symm H
def uG(s:(List zA))(f0:(zA->Option Bool)):Option (Int):=do
 match<-xQ s f0 0 with
 | .ret r0=>pure r0
 | .done _=>
  pure (-1)
theorem fZ:∀s f0 r,uG s f0=some r->∀{I:Imm}{p c}{fv:Value}{aD:List HA},(S4 I p s c)->(FV1 Tryz.prog I aD fv f0)->RT 197 [vS p s c,fv] I aD (pV aD r):=by
 intro s f0 r N I p c fv aD h h1;unfold uG at N;refine yM func197 λB=>wZ []<|yA<|yK [7,8] rfl<|wN<|qX [(0,vS p s c),(1,fv),(7,vI (s.length:Int)),(8,vI 0)] ?_;obtain⟨o0,aA,aE⟩:=zB N;refine gY s f0 0 o0 aA iR h h1 nG nO ?_ ?_
 ·intro aP  heq aa;subst o0;refine zS<|vM [4] rfl<|zK<|xD ?_;exact xX aE (resT rfl) (λ_ h=>h) ⟨_,rfl,rfl,rfl⟩
 intro r0 I9 hs9 m9 aT le9 aV;subst aT;refine zV<|zJ ?_;obtain rfl:=zE aE;exact jW aV
def jX(aD:List HA)(r:Bool):KT:=λkk I' ag v=>
 ∃v0,aD=ag/\v=tupV [v0]/\v0=.bool r
def wA(s:(List zA))(f0:(zA->Option Bool)):Option (Bool):=do
 let y<-uG s f0;pure (decide (y>=0))
theorem pP:∀s f0 r,wA s f0=some r->∀{I:Imm}{p c}{fv:Value}{aD:List HA},(S4 I p s c)->(FV1 Tryz.prog I aD fv f0)->RT 159 [vS p s c,fv] I aD (jX aD r):=by
 intro s f0 r N I p c fv aD h h1;unfold wA at N;refine yM func159 λB=>wZ []<|yY<|yG 2 [] [5,6] rfl<|bE N λy hy N=>zGb (hs1:=aD) (rest:=[]) rfl rfl rfl rfl (by kernel_rfl) rfl (cx _).symm (fZ s f0 _ hy h h1) ?_;rintro I0 ax v2 k2 le - ⟨v0,rfl,rfl,rfl⟩ -;refine wY (ag:=aD) (cx _) ?_;refine yQ [] [4] rfl<|zK<|xD ?_;exact xX N (resT rfl) (λ_ h=>h) ⟨_,rfl,rfl,rfl⟩
def zAh(n0:Int):Option (Bool):=do
 let y<-wX n0 (-99) 99;pure (id y)
theorem zH4:∀n0 r,zAh n0=some r->∀{I:Imm} ,RT 198 [vI n0] I [] (zW  r):=by
 intro n0 r N I;unfold zAh at N;refine yM func198 λB=>wZ []<|yY<|yG 1 [] [3] rfl<|bE N λy hy N=>tA (vR n0 (-99) 99 _ hy ) λI0 le=>wM [] [(2,.bool y)]<|zK<|xD ?_;obtain rfl:=zE N;exact vH
def qC(c:Int):Option (Bool):=do
 let y<-wX c (-9) 9;pure (!y)
theorem zD5:∀c r,qC c=some r->∀{I:Imm} ,RT 199 [vI c] I [] (zW  r):=by
 intro c r N I;unfold qC at N;refine yM func199 λB=>wZ []<|yY<|yG 1 [] [3] rfl<|bE N λy hy N=>tA (vR c (-9) 9 _ hy ) λI0 le=>wM [] [(2,.bool (!y))]<|zK<|xD ?_;obtain rfl:=zE N;exact vH
def pY(a0:zA):Option (Bool):=do
 let t2<-(do
  if((a0.Coefs.length:Int)==4) then
   let y<-zAh a0.Const;if y then
    let y1<-wD a0.Coefs qC;pure (!y1)
   else pure false
  else
   pure false
    : Option Bool)
 pure (id t2)
theorem jA:∀a0 r,pY a0=some r->∀{I:Imm}{p c},(S4 I p a0.Coefs c)->RT 161 [vA (cAff a0 p c)] I [] (zW  r):=by
 intro a0 r N I p c h;unfold pY at N;refine yM func161 λB=>?_;have H:=iS I;refine yD<|vC (cAff a0 p c) ?_;intro b hb;refine wM [] []<|zK<|yC ?_;refine vQ N [] (λt2=>[(2,.bool t2)]) (λo0 aA=>?_) ?_
 ·have H:=iS I;refine zL<|yG 5 [0] [7] rfl<|wR [7] aA ?_ ?_
  ·intro hc N;refine yG 7 [0] [9] rfl<|bE N λy hy N=>tA (zH4 a0.Const _ hy ) ?_;intro aP le;have ⟨h,H⟩:=m2 le h H;refine yG 10 [] [12] rfl<|wR [12] N ?_ ?_
   ·intro aH N;refine yG 12 [0] [14] rfl ?_;have hf0:FV1 Tryz.prog aP [] (.func (.func 199) ⟨[]⟩ ⟨[]⟩) qC:=by
     refine FV1.intro ?_;intro I1 aa x0 r u0 hF k0;obtain rfl:=k0;exact(zD5 x0 r hF ).mono (by rintro k i hs u ⟨v0,rfl,rfl,h⟩;exact⟨rfl,h⟩)
    obtain⟨y1,az,N⟩:=zB N;refine xK (qN a0.Coefs qC _ az h hf0) ?_;rintro aW ax v2 k2 aa - ⟨v01,rfl,rfl,rfl⟩ -;have H:=H.trans aa;exact yQ [] [2] rfl<|wK zO<|yZ<|zU (ct N H)
   intro aH N;exact wM [] [(2,vF)]<|wK zO<|yZ<|zU (ct N H)
  intro hc N;exact wM [] [(2,vF)]<|wK zO<|yZ<|zU (ct N H)
 intro t2 I0 aC aX;refine zK<|xD ?_;obtain rfl:=zE aX;exact vH
def yP(r:Int):KT:=λkk I' ag v=>
 ∃v0,ag=[]/\v=tupV [v0]/\v0=.int .i64 r
def rA(a0:zA)(n0:Int):Option (Int):=do
 let t17<-(do
  if(decide (n0>0)) then
   let x<-idx a0.Coefs (W (n0 - 1));pure (x==0)
  else
   pure false
    : Option Bool)
 if t17 then rA a0 (W (n0 - 1))
 else pure (id n0)
 partial_fixpoint
theorem zC8(a0:zA):∀(n0:Int) (o:Int),rA a0 n0=some o->∀{B}{I0 I:Imm}{Q p c}{b},I0.le I->(S4 I p a0.Coefs c)->NG Q->NO Q->(∀I' n01,o=n01->I0.le I'->T 21 B Q (.exit 0) I' [] [(3,vI n01)])->J Tryz.prog 21 B (nav (bodyOf f162) [1,1,0,0]) Q I [hB b (cAff a0 p c)] [(1,vP b 0),(3,vI n0)]:=by
 refine rA.partial_correctness a0 _ λaJ ih n0 o N B I0 I Q p c b H h hg ho hx=>yX hg ho<|yC<|yC ?_;refine vQ N [hB b (cAff a0 p c)] (λt17=>[(1,vP b 0),(3,vI n0),(17,.bool t17)]) (λo0 aA=>?_) ?_
 ·have H:=iS I;refine zL<|yG 3 [] [9] rfl<|wR [9] aA ?_ ?_
  ·intro hc N;refine yG 7 [0] [11,13] rfl<|bE N λx hy N=>xW rfl rfl h hy ?_;intro ad aN aq am;obtain rfl:=am;exact xM 0 aq [vI x] (vI x) rfl<|yQ [] [17] rfl<|yZ<|zU (ct N H)
  intro hc N;exact wM [] [(17,vF)]<|yZ<|zU (ct N H)
 intro t17 I0 le aX;have ⟨h,H⟩:=m2 le h H;refine zK<|yH aX ?_ ?_
 ·intro aH N;exact zT<|wN<|zL<|yQ [] [3] rfl<|zN<|yV<|nX<|ih (W (n0 - 1)) _ N H h hg ho hx
 intro aH N;exact wW<|wK zO<|yZ<|hx _ _ (zE N).symm H
def pA(a0:zA):Option (Int):=do
 let n01<-rA a0 (a0.Coefs.length:Int);pure (id n01)
theorem dK:∀a0 r,pA a0=some r->∀{I:Imm}{p c},(S4 I p a0.Coefs c)->RT 162 [vA (cAff a0 p c)] I [] (yP  r):=by
 intro a0 r N I p c h;unfold pA at N;refine yM func162 λB=>yD<|vC (cAff a0 p c) ?_;intro b hb;refine wM [] []<|yY<|yQ [0] [3] rfl<|yA<|yL<|qX [(1,vP b 0),(3,vI (a0.Coefs.length:Int))] ?_;obtain⟨aU,aB,aE⟩:=zB N;refine zC8 a0 (a0.Coefs.length:Int) aU aB iR h nG nO ?_;intro aP n01 heq1 aa;subst aU;refine zS<|vM [2] rfl<|zK<|xD ?_;obtain rfl:=zE aE;exact vH
def pJ(a0:zA)(x:Int):Option (Bool):=do
 let t3<-(do
  let y<-pY a0;if(!y) then pure true
  else
   let y1<-pA a0;pure (decide (y1>x))
    : Option Bool)
 pure (id t3)
theorem zFF:∀a0 x r,pJ a0 x=some r->∀{I:Imm}{p c}{ad:Addr},(S4 I p a0.Coefs c)->(At I ad [vI x])->RT 196 [vA (cAff a0 p c),.pointer (some ad)] I [] (zW  r):=by
 intro a0 x r N I p c ad h aq;unfold pJ at N;refine yM func196 λB=>?_;have H:=iS I;refine yD<|vC (cAff a0 p c) ?_;intro b hb;refine wM [] []<|zK<|yC ?_;refine vQ N [] (λt3=>[(3,.bool t3)]) (λo0 aA=>?_) ?_
 ·have H:=iS I;obtain⟨y,hy,N⟩:=zB aA;cases hc:(!y) with
  | true=>
   have hM0:=rZ hc N;refine wP [.p (vA (cAff a0 p c)) [0],.q (.bool y),.q vY,.q vY,.p undef [],.p undef [],.p undef [],.p undef [],.p vY []] [[],[(0,false)],[(1,false)],[(2,false)],[(3,false)],[(3,false),(4,false)],[(3,false)],[(3,false),(5,false),(6,false)],[(3,false),(7,false)]] [hB b (cAff a0 p c)] [] [(8,false)] (zZ [0]) ?_ ?_
   ·refine Op<|Oq ?_<|Oq ?_<|Oq ?_<|O4<|Op<|On
    ·intro I1 hf aa;refine yW [4] rfl ?_;have H:=iS I1;have h:=h.mono aa;refine tA (jA a0 _ hy h) ?_;intro aP le;have H:=H.trans le;exact xO H
    ·intro I1 hf aa;refine yW [5] rfl<|oN 3 [(6,.bool (!y))] ?_;rw[hc];exact xO iR
    intro I1 hf aa;exact I_h [(6,vY)]<|oN 4 [(7,vY)]<|xO iR
   intro aW aa;refine I_h [(12,vY)] ?_;have H:=H.trans aa;exact wM [] [(3,vY)]<|wK zO<|yZ<|zU (ct hM0 H)
  | false=>
   have hM01:=sP hc N;obtain⟨y1,az,N⟩:=zB hM01;refine wP [.p (vA (cAff a0 p c)) [0],.q (.bool y),.q vF,.q vF,.p (vA (cAff a0 p c)) [0],.q (vI y1),.q (vI x),.p (.bool (decide (y1>x))) [],.p (.bool (decide (y1>x))) []] [[],[(0,false)],[(1,false)],[(2,false)],[(3,false)],[(3,false),(4,false)],[(3,false)],[(3,false),(5,false),(6,false)],[(3,false),(7,false)]] [hB b (cAff a0 p c)] [] [(8,false)] (zZ [0]) ?_ ?_
   ·refine Op<|Oq ?_<|Oq ?_<|Oq ?_<|Op<|Oq ?_<|Oq ?_<|O2<|On
    ·intro I1 hf aa;refine yW [4] rfl ?_;have H:=iS I1;have h:=h.mono aa;refine tA (jA a0 _ hy h) ?_;intro aP le;have H:=H.trans le;exact xO H
    ·intro I1 hf aa;refine yW [5] rfl<|oN 3 [(6,.bool (!y))] ?_;rw[hc];exact xO iR
    ·intro I1 hf aa;exact I_h [(6,vF)]<|oN 4 [(7,vF)]<|xO iR
    ·intro I1 hf aa;refine yW [7,8] rfl ?_;have H:=iS I1;have h:=h.mono aa;refine dC (dK a0 _ az h) ?_;intro bx aC;have H:=H.trans aC;exact xO H
    intro I1 hf aa;refine yW [1,7] rfl ?_;have aq:=aq.mono aa;exact xM 0 aq [vI x] (vI x) rfl<|xO iR
   intro bG aI;refine yW [12] rfl ?_;have H:=H.trans aI;exact yQ [] [3] rfl<|wK zO<|yZ<|zU (ct N H)
 intro t3 I0 aY aX;refine zK<|xD ?_;obtain rfl:=zE aX;exact vH
def jZ(list:(List zA))(ae:Int):Option (Bool):=do
 let t4<-(do
  let y<-wX (list.length:Int) 1 2;if y then
   let y1<-wA list (λx0=>pJ x0 ae);pure (!y1)
  else
   pure false
    : Option Bool)
 pure (id t4)
theorem zC9:∀list ae r,jZ list ae=some r->∀{I:Imm}{p c},(S4 I p list c)->RT 157 [vS p list c,vI ae] I [] (zW  r):=by
 intro list ae r N I p c h;unfold jZ at N;refine yM func157 λB=>?_;have H:=iS I;refine yD<|vC [vI ae] ?_;intro b hb;refine xV 0 rfl ?_;intro I0 le hl0;have aq:At I0 ⟨b,0,none⟩ [vI ae]:=At.of_blk hl0;have ⟨h,H⟩:=m2 le h H;refine wM [] []<|zK<|yC ?_;refine vQ N [] (λt4=>[(4,.bool t4)]) (λo0 aA=>?_) ?_
 ·have H:=iS I0;refine zL<|yG 2 [] [6] rfl ?_;obtain⟨y,hy,N⟩:=zB aA;refine tA (vR (list.length:Int) 1 2 _ hy ) ?_;intro aW aa;have ⟨h,aq,H⟩:=m3 aa h aq H;refine yG 4 [] [8] rfl<|wR [8] N ?_ ?_
  ·intro hc N;refine yG 6 [] [9,10] rfl ?_;have hf0:FV1 Tryz.prog aW [] (.func (.func 196) ⟨[]⟩ ⟨[vP b 0]⟩) (λx0=>pJ x0 ae):=by
    refine FV1.intro ?_;intro I1 aa x0 r u0 hF k0;obtain⟨_,rfl,k0⟩:=k0;obtain⟨p1,c1,rfl,h2⟩:=yI k0;exact(zFF x0 ae r hF h2 (aq.mono aa)).mono (by rintro k i hs u ⟨v0,rfl,rfl,h⟩;exact⟨rfl,h⟩)
   obtain⟨y1,az,N⟩:=zB N;refine xK (pP list (λx0=>pJ x0 ae) _ az h hf0) ?_;rintro bx ax v2 k2 aC - ⟨v02,rfl,rfl,rfl⟩ -;have H:=H.trans aC;exact yQ [] [4] rfl<|yZ<|zU (ct N H)
  intro hc N;exact wM [] [(4,vF)]<|yZ<|zU (ct N H)
 intro t4 aP aI aX;refine zK<|xD ?_;obtain rfl:=zE aX;exact vH
def pC(nest:(List zG))(t7:Int):Option (Out Unit (Bool)):=do
 if(decide (t7<(nest.length:Int))) then
  let x<-idx nest t7;let t23<-(do
   let y<-jZ x.Lo t7;if(!y) then pure true
   else
    let y1<-jZ x.Hi t7;pure (!y1)
     : Option Bool)
  if t23 then pure (.ret false)
  else pC nest (W (t7+1))
 else pure (.done ())
 partial_fixpoint
theorem zDo(nest:(List zG)):∀(t7:Int) (o:Out Unit (Bool)),pC nest t7=some o->∀{B}{I0 I:Imm}{Q p c},I0.le I->(S4 I p nest c)->NG Q->NO Q->(∀I',o=(.done ())->I0.le I'->T 28 B Q (.exit 0) I' [] [(0,vS p nest c)])->(∀r I' ag m',o=(.ret r)->I0.le I'->RS Tryz.prog f117 B (zW  r) I' ag m'->T 28 B Q .ret I' ag m')->J Tryz.prog 28 B (nav (bodyOf f117) [1,0,1,0]) Q I [] [(0,vS p nest c),(5,vS p nest c),(6,vI (nest.length:Int)),(7,vI t7)]:=by
 refine pC.partial_correctness nest _ λaJ ih t7 o N B I0 I Q p c H h hg ho hx hr=>yX hg ho<|yK [8] rfl<|yA<|yH N ?_ ?_
 ·intro hc N;refine zT<|yA<|yL<|yD<|yG 1 [] [9] rfl<|bE N λx hy N=>xW rfl rfl h hy ?_;intro ad aN aq am;obtain⟨p1,c1,p2,c2,rfl,h1,h2⟩:=vD am;refine xM 0 aq (cLoop x p1 c1 p2 c2) (vA (cLoop x p1 c1 p2 c2)) rfl<|xY zTwo ?_;intro b hb;refine yG 5 [] [3] rfl<|xC 0 (cLoop x p1 c1 p2 c2) rfl<|zY rfl<|zK<|yC ?_;refine vQ N [] (λt23=>[(0,vS p nest c),(5,vS p nest c),(6,vI (nest.length:Int)),(7,vI t7),(23,.bool t23)]) (λo0 aA=>?_) ?_
  ·have H:=iS I;refine zL<|yG 3 [0] [13,14] rfl ?_;obtain⟨y,az,N⟩:=zB aA;refine tA (zC9 x.Lo t7 _ az h1) ?_;intro aP le;have ⟨h2,H⟩:=m2 le h2 H;refine yG 6 [] [17] rfl<|wR [17] N ?_ ?_
   ·intro aH N;exact wM [] [(23,vY)]<|wK zO<|yZ<|zU (ct N H)
   intro aH N;refine yG 9 [0] [19,20] rfl<|bE N λy1 aG N=>tA (zC9 x.Hi t7 _ aG h2) ?_;intro aW aa;have H:=H.trans aa;exact yQ [] [23] rfl<|wK zO<|yZ<|zU (ct N H)
  intro t23 I0 aC aX;have ⟨h,H⟩:=m2 aC h H;refine zK<|yH aX ?_ ?_
  ·intro ba N;exact wZ [(2,vF)]<|xH<|zV<|zJ<|zJ<|hr _ _ _ _ (zE N).symm H ⟨_,_,(resT rfl),zO,⟨_,rfl,rfl,rfl⟩⟩
  intro ba N;exact zT<|zN<|zK<|zL<|yQ [] [7] rfl<|yV<|nX<|ih (W (t7+1)) _ N H h hg ho hx hr
 intro hc N;exact wW<|yZ<|hx _  (zE N).symm H
def fQ(nest:(List zG)):Option (Bool):=do
 match<-pC nest 0 with
 | .ret r0=>pure r0
 | .done _=>
  pure (decide ((nest.length:Int)<=4))
theorem zFp:∀nest r,fQ nest=some r->∀{I:Imm}{p c},(S4 I p nest c)->RT 117 [vS p nest c] I [] (zW  r):=by
 intro nest r N I p c h;unfold fQ at N;refine yM func117 λB=>wZ []<|yA<|yK [5,6,7] rfl<|wN<|qX [(0,vS p nest c),(5,vS p nest c),(6,vI (nest.length:Int)),(7,vI 0)] ?_;obtain⟨aU,aB,aE⟩:=zB N;refine zDo nest 0 aU aB iR h nG nO ?_ ?_
 ·intro bx  heq1 aI;subst aU;refine zS<|vM [2] rfl<|zK<|xD ?_;obtain rfl:=zE aE;exact vH
 intro r0 I9 hs9 m9 aT le9 aV;subst aT;refine zV<|zJ ?_;obtain rfl:=zE aE;exact jW aV
def zBr(r:List Int):KT:=λkk I' ag v=>
 ∃a0 c0 s0,ag=[.osl (.slice a0 r.length c0) (Rp.sz Int) s0]/\v=tupV [(.slice a0 r.length c0)]/\RepL (Rp.rep I') (Rp.sz Int) s0 r
def uH(s:List Int):Option (List Int):=app 8 ([]:List Int) s
theorem oI:∀s r,uH s=some r->∀{I:Imm}{p c},SL I (vS p s c) s->RT 84 [vS p s c] I [] (zBr r):=by
 intro s r N I p c h;unfold uH at N;obtain⟨aN,k0,k01⟩:=h;refine yM func84 λB=>?_;cases p with
 | none=>
  have hs:s=[]:=by
   rcases k0 with⟨hv,rfl⟩|⟨b0,off,len,cap,cc,hv,k2⟩
   ·cases s with
    | nil=>rfl
    | cons _ _=>simp at hv
   simp at hv
  subst hs;obtain⟨_,rfl⟩:=zBH N;refine yK [0,2] rfl<|yA<|yD<|yG 1 [] [3] rfl<|zOC true rfl rfl ?_ rfl;exact wM [] [(4,vY)]<|zK<|nN rfl<|wZ [(2,z0)]<|xH<|zJ<|wK (fN (Rp.sz Int))<|zFE (resT rfl) (zX [0] rfl (by decide)) ⟨none,0,[],rfl,rfl,rfl⟩
 | some ad=>
  refine yK [0,2] rfl<|yA<|yD<|yG 1 [] [3] rfl<|zOC false rfl rfl ?_ rfl;refine yQ [] [0,4] rfl<|zK<|kE rfl<|zT<|yY<|uX [] Int ?_;intro b2 hb2;have h1:RL I [] ([]:List Int):=rfl;exact yG 2 [] [6] rfl<|sW 3 1 0 rfl rfl rfl h1 (.inl k0) k01 N λp1 c1 cs h2=>yQ [] [2] rfl<|xH<|zFE (resT rfl) (zX [0] rfl (by decide)) ⟨_,_,_,rfl,rfl,h2⟩
def rU(a0:zA)(ah:(List Int))(sum:Int)(t12:Int):Option (Int):=do
 if(decide (t12<(ah.length:Int))) then
  let x<-idx ah t12;let x1<-idx a0.Coefs t12;rU a0 ah (W (sum+(W (x1*x)))) (W (t12+1))
 else pure (id sum)
 partial_fixpoint
theorem zDC(a0:zA)(ah:(List Int)):∀(sum:Int) (t12:Int) (o:Int),rU a0 ah sum t12=some o->∀{B}{I0 I:Imm}{Q p c p1 c1}{b},I0.le I->(S4 I p1 ah c1)->(S4 I p a0.Coefs c)->NG Q->NO Q->(∀I' sum1,o=sum1->I0.le I'->T 28 B Q (.exit 0) I' [] [(5,vI sum1)])->J Tryz.prog 28 B (nav (bodyOf f167) [1,1,0,1,0]) Q I [hB b (cAff a0 p c)] [(2,vP b 0),(5,vI sum),(10,vS p1 ah c1),(11,vI (ah.length:Int)),(12,vI t12)]:=by
 refine rU.partial_correctness a0 ah _ λaJ ih sum t12 o N B I0 I Q p c p1 c1 b H h1 h hg ho hx=>yX hg ho<|yK [13] rfl<|yA<|yH N ?_ ?_
 ·intro hc N;refine zT<|yA<|yL<|yD<|yG 1 [] [14] rfl<|bE N λx hy N=>xW rfl rfl h1 hy ?_;intro ad aN aq am;obtain rfl:=am;refine xM 0 aq [vI x] (vI x) rfl<|yQ [] [6,7] rfl<|zK<|zL<|yG 4 [0] [17,19,20] rfl<|bE N λx1 az N=>xW rfl rfl h az ?_;intro ad1 bq aw ay;obtain rfl:=ay;exact xM 0 aw [vI x1] (vI x1) rfl<|yQ [] [5] rfl<|zN<|zK<|zL<|yQ [] [12] rfl<|yV<|nX<|ih (W (sum+(W (x1*x)))) (W (t12+1)) _ N H h1 h hg ho hx
 intro hc N;exact wW<|wK zO<|yZ<|hx _ _ (zE N).symm H
def rB(a0:zA)(ah:(List Int)):Option (Int):=do
 let sum1<-rU a0 ah a0.Const 0;pure (id sum1)
theorem jB:∀a0 ah r,rB a0 ah=some r->∀{I:Imm}{p c p1 c1},(S4 I p a0.Coefs c)->(S4 I p1 ah c1)->RT 167 [vA (cAff a0 p c),vS p1 ah c1] I [] (yP  r):=by
 intro a0 ah r N I p c p1 c1 h h1;unfold rB at N;refine yM func167 λB=>yD<|vC (cAff a0 p c) ?_;intro b hb;refine wM [] []<|yY<|yQ [0] [5] rfl<|yA<|yK [10,11,12] rfl<|wN<|qX [(2,vP b 0),(5,vI a0.Const),(10,vS p1 ah c1),(11,vI (ah.length:Int)),(12,vI 0)] ?_;obtain⟨o0,aA,aE⟩:=zB N;refine zDC a0 ah a0.Const 0 o0 aA iR h1 h nG nO ?_;intro I0 sum1 heq le;subst o0;refine zS<|vM [4] rfl<|zK<|xD ?_;obtain rfl:=zE aE;exact vH
def zAO(r:Int×Int):KT:=λkk I' ag v=>
 ∃v0 v1,ag=[]/\v=tupV [v0,v1]/\v0=.int .i64 r.1/\v1=.int .i64 r.2
def pD(l:zG)(ah:(List Int))(lo:Int)(t27:Int):Option (Int):=do
 if(decide (t27<(l.Lo.length:Int))) then
  let x2<-idx l.Lo t27;let y2<-rB x2 ah;pD l ah (if y2>lo then y2 else lo) (W (t27+1))
 else pure (id lo)
 partial_fixpoint
theorem zDp(l:zG)(ah:(List Int)):∀(lo:Int) (t27:Int) (o:Int),pD l ah lo t27=some o->∀{B}{I0 I:Imm}{Q}{y1:Int}{p c p1 c1 p2 c2}{b},I0.le I->(S4 I p2 ah c2)->(S4 I p l.Lo c)->(S4 I p1 l.Hi c1)->NG Q->NO Q->(∀I' lo1,o=lo1->I0.le I'->T 52 B Q (.exit 0) I' [hB b (cLoop l p c p1 c1)] [(1,vS p2 ah c2),(2,vP b 0),(6,vI lo1),(7,vI y1)])->J Tryz.prog 52 B (nav (bodyOf f158) [1,1,0,1,0]) Q I [hB b (cLoop l p c p1 c1)] [(1,vS p2 ah c2),(2,vP b 0),(6,vI lo),(7,vI y1),(25,vS p l.Lo c),(26,vI (l.Lo.length:Int)),(27,vI t27)]:=by
 refine pD.partial_correctness l ah _ λaJ ih lo t27 o N B I0 I Q y1 p c p1 c1 p2 c2 b H h2 h h1 hg ho hx=>yX hg ho<|yK [28] rfl<|yA<|yH N ?_ ?_
 ·intro hc N;refine zT<|yA<|yL<|yD<|bE N λx2 bu N=>xW rfl rfl h bu ?_;intro ad2 bL bk br;obtain⟨p5,c5,rfl,h7⟩:=yI br;refine xM 0 bk (cAff x2 p5 c5) (vA (cAff x2 p5 c5)) rfl<|xY [z0,vI 0] ?_;intro b1 hb1;refine xC 0 (cAff x2 p5 c5) rfl<|zY rfl<|zK<|zL<|uW 3 [0] [(31,vI lo),(32,vA (cAff x2 p5 c5)),(33,vS p2 ah c2)]<|bE N λy2 bC N=>dC (jB x2 ah _ bC h7 h2) ?_;intro bx aI;have ⟨h2,h,h1,H⟩:=m4 aI h2 h h1 H;exact yQ [] [6] rfl<|zN<|zK<|zL<|yQ [] [27] rfl<|yV<|qZ (zX [1] rfl (by decide))<|nX<|ih (if y2>lo then y2 else lo) (W (t27+1)) _ N H h2 h h1 hg ho hx
 intro hc N;exact wW<|yZ<|hx _ _ (zE N).symm H
def pE(l:zG)(ah:(List Int))(hi:Int)(t40:Int):Option (Int):=do
 if(decide (t40<(l.Hi.length:Int))) then
  let x3<-idx l.Hi t40;let y3<-rB x3 ah;pE l ah (if y3<hi then y3 else hi) (W (t40+1))
 else pure (id hi)
 partial_fixpoint
theorem zDq(l:zG)(ah:(List Int)):∀(hi:Int) (t40:Int) (o:Int),pE l ah hi t40=some o->∀{B}{I0 I:Imm}{Q}{lo1:Int}{p1 c1 p2 c2},I0.le I->(S4 I p2 ah c2)->(S4 I p1 l.Hi c1)->NG Q->NO Q->(∀I' hi1,o=hi1->I0.le I'->T 52 B Q (.exit 2) I' [] [(6,vI lo1),(7,vI hi1)])->J Tryz.prog 52 B (nav (bodyOf f158) [1,1,1,0,1,0]) Q I [] [(1,vS p2 ah c2),(6,vI lo1),(7,vI hi),(38,vS p1 l.Hi c1),(39,vI (l.Hi.length:Int)),(40,vI t40)]:=by
 refine pE.partial_correctness l ah _ λaJ ih hi t40 o N B I0 I Q lo1 p1 c1 p2 c2 H h2 h1 hg ho hx=>yX hg ho<|yK [41] rfl<|yA<|yH N ?_ ?_
 ·intro aH N;refine zT<|yA<|yL<|yD<|bE N λx3 hy6 N=>xW rfl rfl h1 hy6 ?_;intro ad3 ccs3 hat3 bB;obtain⟨p6,c6,rfl,h9⟩:=yI bB;refine xM 0 hat3 (cAff x3 p6 c6) (vA (cAff x3 p6 c6)) rfl<|xY [z0,vI 0] ?_;intro b2 hb2;refine xC 0 (cAff x3 p6 c6) rfl<|zY rfl<|zK<|zL<|uW 3 [0] [(44,vI hi),(45,vA (cAff x3 p6 c6)),(46,vS p2 ah c2)]<|bE N λy3 hy7 N=>dC (jB x3 ah _ hy7 h9 h2) ?_;intro bK bo;have ⟨h2,h1,H⟩:=m3 bo h2 h1 H;exact yQ [] [7] rfl<|zN<|zK<|zL<|yQ [] [40] rfl<|yV<|qZ zO<|nX<|ih (if y3<hi then y3 else hi) (W (t40+1)) _ N H h2 h1 hg ho hx
 intro aH N;exact wW<|yZ<|hx _ _ (zE N).symm H
def fR(l:zG)(ah:(List Int)):Option (Int×Int):=do
 let x<-idx l.Lo 0;let y<-rB x ah;let x1<-idx l.Hi 0;let y1<-rB x1 ah;let lo1<-pD l ah y 0;let hi1<-pE l ah y1 0;pure (lo1,hi1)
theorem zFq:∀l ah r,fR l ah=some r->∀{I:Imm}{p c p1 c1 p2 c2},(S4 I p l.Lo c)->(S4 I p1 l.Hi c1)->(S4 I p2 ah c2)->RT 158 [vA (cLoop l p c p1 c1),vS p2 ah c2] I [] (zAO  r):=by
 intro l ah r N I p c p1 c1 p2 c2 h h1 h2;unfold fR at N;refine yM func158 λB=>?_;have H:=iS I;refine yD<|vC (cLoop l p c p1 c1) ?_;intro b hb;refine wM [] []<|zK<|yC ?_;obtain⟨x,hy,N⟩:=zB N;obtain⟨y,az,N⟩:=zB N;obtain⟨x1,aG,N⟩:=zB N;obtain⟨y1,bh,N⟩:=zB N;refine wP [.p (vP b 0) [],.p (vS p l.Lo c) [0],.x (ePAff x),.x (eVAff x),.p (vS p2 ah c2) [],.q (vI y),.p (vP b 1) [],.p (vS p1 l.Hi c1) [0],.x (ePAff x1),.x (eVAff x1),.p (vS p2 ah c2) [],.q (vI y1),.p (vI y) []] [[],[(0,false)],[(1,false)],[(2,false)],[],[(3,false),(4,false)],[],[(6,false)],[(7,false)],[(8,false)],[],[(9,false),(10,false)],[(5,false)]] [hB b (cLoop l p c p1 c1)] [] [(11,false),(12,false)] (zZ [0]) ?_ ?_
 ·refine O2<|Ox ?_<|Ox ?_<|Op<|Oq ?_<|O2<|Ox ?_<|Ox ?_<|Op<|Oq ?_<|Op<|On
  ·intro I1 hf aa;refine yW [13] rfl ?_;have h:=h.mono aa;refine xW rfl rfl h hy ?_;intro ad aN aq am;obtain⟨p3,c3,rfl,h3⟩:=yI am;exact yN [] iR ⟨_,_,_,rfl,rfl,aq,h3⟩
  ·rintro I1 hf aa _ _ ⟨ad,p3,c3,rfl,rfl,aq,h3⟩;exact yW [14] rfl<|xM 0 aq (cAff x p3 c3) (vA (cAff x p3 c3)) rfl<|yN [] iR ⟨_,_,rfl,rfl,h3⟩
  ·rintro I1 hf aa _ _ ⟨p31,c31,rfl,rfl,h31⟩;refine yW [15,16] rfl ?_;have H:=iS I1;have h2:=h2.mono aa;refine dC (jB x ah _ az h31 h2) ?_;intro I0 le;have H:=H.trans le;exact xO H
  ·intro I1 hf aa;refine yW [19] rfl ?_;have h1:=h1.mono aa;refine xW rfl rfl h1 aG ?_;intro ad1 bq aw ay;obtain⟨p4,c4,rfl,h5⟩:=yI ay;exact yN [] iR ⟨_,_,_,rfl,rfl,aw,h5⟩
  ·rintro I1 hf aa _ _ ⟨ad1,p4,c4,rfl,rfl,aw,h5⟩;exact yW [20] rfl<|xM 0 aw (cAff x1 p4 c4) (vA (cAff x1 p4 c4)) rfl<|yN [] iR ⟨_,_,rfl,rfl,h5⟩
  rintro I1 hf aa _ _ ⟨p41,c41,rfl,rfl,h51⟩;refine yW [21,22] rfl ?_;have H:=iS I1;have h2:=h2.mono aa;refine dC (jB x1 ah _ bh h51 h2) ?_;intro aP aa;have H:=H.trans aa;exact xO H
 intro aW aC;refine yW [1,2,6,23] rfl ?_;have ⟨h2,h,h1⟩:=m3 aC h2 h h1;refine yQ [] [7] rfl<|yA<|yD<|yQ [0] [25,26,27] rfl<|wN<|qX [(1,vS p2 ah c2),(2,vP b 0),(6,vI y),(7,vI y1),(25,vS p l.Lo c),(26,vI (l.Lo.length:Int)),(27,vI 0)] ?_;obtain⟨o0,aA,aE⟩:=zB N;refine zDp l ah y 0 o0 aA iR h2 h h1 nG nO ?_;intro bG lo1 heq aY;subst o0;have ⟨h2,h,h1⟩:=m3 aY h2 h h1;refine zS<|yA<|yD<|yQ [0] [38,39,40] rfl<|wN<|qZ (zZ [] (ag:=[]))<|qX [(1,vS p2 ah c2),(6,vI lo1),(7,vI y1),(38,vS p1 l.Hi c1),(39,vI (l.Hi.length:Int)),(40,vI 0)] ?_;obtain⟨aU,aB,hMl1⟩:=zB aE;refine zDq l ah y1 0 aU aB iR h2 h1 nG nO ?_;intro I06 hi1 heq1 bv;subst aU;refine zS<|vM [4,5] rfl<|zK<|xD ?_;exact xX hMl1 (resU rfl rfl) zO ⟨_,_,rfl,rfl,rfl,rfl⟩
def eG(b0:Nat)(r:Bool×qA):KT:=λkk I' ag v=>
 ∃v0 x0_0 y0_0 x0_2 y0_2 z0_2,ag=[.blk b0 ⟨[.slice x0_0 r.2.nest.length y0_0,.int .i64 r.2.steps,.slice x0_2 r.2.out.length y0_2]⟩,.osl (.slice x0_2 r.2.out.length y0_2) (Rp.sz (List Int)) z0_2]/\v=tupV [v0]/\v0=.bool r.1/\SL I' (.slice x0_0 r.2.nest.length y0_0) r.2.nest/\RepL (Rp.rep I') (Rp.sz (List Int)) z0_2 r.2.out
mutual
def rQ(w0:qA)(ah:(List Int)):Option (Bool×qA):=do
 if((ah.length:Int)==(w0.nest.length:Int)) then
  let y<-uH ah;let l<-app 24 w0.out ([y]:List (List Int));pure ((decide ((l.length:Int)<=120)),(qA.mk w0.nest w0.steps l))
 else
  let x<-idx w0.nest (ah.length:Int);let (y2,y3)<-fR x ah
  match<-qO (same ah) (same y3) (same y2) w0.nest w0.steps w0.out with
  | .ret r0=>pure r0
  | .done (nest1,steps1,aj)=>
   pure (true,(qA.mk nest1 steps1 aj))
 partial_fixpoint
def qO(ah:(List Int))(y3:Int)(n0:Int)(nest:List zG)(steps:Int)(out:List (List Int)):Option (Out (List zG×Int×List (List Int)) (Bool×qA)):=do
 if(decide (n0<y3)) then
  let (t74,nest2,steps2,ar)<-(do
   if(decide ((W ((W (steps+1))+1))>1200)) then pure (true,nest,(W (steps+1)),out)
   else
    let y4<-uH ah;let l1<-app 8 y4 ([n0]:List Int);let (y6,y7)<-rQ (qA.mk nest (W (steps+1)) out) (same l1);pure ((!y6),y7.nest,y7.steps,y7.out)
     : Option (Bool×List zG×Int×List (List Int)))
  if t74 then pure (.ret (false,(qA.mk nest2 steps2 ar)))
  else qO (same ah) (same y3) (W (n0+1)) (same nest2) (same steps2) (same ar)
 else pure (.done (nest,steps,out))
 partial_fixpoint
end
theorem zD6:(∀(w0:qA) (ah:(List Int)) r,rQ w0 ah=some r->∀{I:Imm}{r0}{p c p1 c1 cs p2 c2},(S4 I p w0.nest c)->(RL I cs w0.out)->(S4 I p2 ah c2)->RT 118 [vP r0 0,vS p2 ah c2] I [hB r0 [vS p w0.nest c,vI w0.steps,vS p1 w0.out c1],hO (List Int) (vS p1 w0.out c1) cs] (eG r0 r))/\(∀(ah:(List Int)) (y3:Int) (n0:Int) (nest:List zG) (steps:Int) (out:List (List Int)) o,qO ah y3 n0 nest steps out=some o->∀{B}{I0 I:Imm}{Q}  {r0}{p2 c2 p7 c7 p8 c8 aM},I0.le I->(S4 I p2 ah c2)->(S4 I p7 nest c7)->(RL I aM out)->NG Q->NO Q->(∀I' nest1 steps1 aj p9 c9 aL aO bt,o=(.done (nest1,steps1,aj))->I0.le I'->(S4 I' p9 nest1 c9)->(RL I' bt aj)->T 75 B Q (.exit 0) I' [hB r0 [vS p9 nest1 c9,vI steps1,vS aL aj aO],hO (List Int) (vS aL aj aO) bt] [])->(∀r I' ag m',o=(.ret r)->I0.le I'->RS Tryz.prog f118 B (eG r0 r) I' ag m'->T 75 B Q .ret I' ag m')->J Tryz.prog 75 B (nav (bodyOf f118) [1,1,1,0,1,0]) Q I [hB r0 [vS p7 nest c7,vI steps,vS p8 out c8],hO (List Int) (vS p8 out c8) aM] [(0,vP r0 0),(1,vS p2 ah c2),(6,vI y3),(7,vI n0)]):=by
 refine rQ.mutual_partial_correctness _ _ ?_ ?_
 ·intro F_impl_walking_walk_l1 ih_impl_walking_walk_l1 w0 ah r N I r0 p c p1 c1 cs p2 c2 h h1 h2;refine yM func118 λB=>?_;have H:=iS I;refine wZ []<|yA<|yD<|yQ [0] [15] rfl<|zK<|yH N ?_ ?_
  ·intro hc N;refine yC ?_;obtain⟨y,hy,N⟩:=zB N;obtain⟨l,az,N⟩:=zB N;refine wP [.p (vP r0 0) [],.p (vP r0 0) [],.p (vP r0 0) [],.p (vP r0 2) [],.p (vS p1 w0.out c1) [0],.p (vS p2 ah c2) [],.x (λI' v hx=>∃p3 c3 au,v=vS p3 y c3/\hx=[hO Int (vS p3 y c3) au]/\(RL I' au y)),.x (λI' v hx=>∃b,v=vS (some ⟨b,0,none⟩) ([y]:List (List Int)) 1/\hx=[]/\(SL I' (vS (some ⟨b,0,none⟩) ([y]:List (List Int)) 1) ([y]:List (List Int)))),.x (λI' v hx=>∃p4 c4 aR,v=vS p4 l c4/\hx=[hO (List Int) (vS p4 l c4) aR]/\(RL I' aR l))] [[],[],[(1,false)],[(2,false)],[(3,false)],[],[(5,false)],[(6,true)],[(4,false),(7,false),(12,true)]] [hB r0 [vS p w0.nest c,vI w0.steps,vS p1 w0.out c1]] [[hO (List Int) (vS p1 w0.out c1) cs]] [(0,false),(8,true)] (zZ [0,1]) ?_ ?_
   ·refine O4<|O2<|Ox ?_<|Ox ?_<|Ox ?_<|On
    ·intro I1 hf aa;refine yW [21] rfl ?_;have H:=iS I1;have h2:=h2.mono aa;refine xK (oI ah _ hy h2) ?_;rintro I0 ax v2 k2 le - ⟨p3,c3,au,rfl,rfl,h3⟩ -;have H:=H.trans le;exact yN [hO Int (vS p3 y c3) au] H ⟨_,_,_,rfl,rfl,h3⟩
    ·rintro I1 hf aa _ _ ⟨p3,c3,au,rfl,rfl,h3⟩;refine yW [22] rfl ?_;have H:=iS I1;refine xV 0 rfl ?_;intro aP aa hl0;have h4:=SL.of_frozen hl0 aa h3;have H:=H.trans aa;refine mH (rc y ⟨_,rfl,h4⟩ rN) ?_;intro b aW aC h6;have H:=H.trans aC;exact yN [] H ⟨_,rfl,rfl,h6⟩
    rintro I1 hf aa _ _ ⟨rfl,rfl⟩ _ _ ⟨b,rfl,rfl,h6⟩ _ _ rfl;refine yW [20,23] rfl ?_;have h1:=iM aa h1;obtain⟨aN,k0,k01⟩:=h6;have h6:SL I1 (vS (some ⟨b,0,none⟩) ([y]:List (List Int)) 1) ([y]:List (List Int)):=⟨_,k0,k01⟩;exact sW 27 1 0 rfl rfl rfl h1 (.inl k0) k01 az λp4 c4 aR h7=>wY (ag:=(hO (List Int) (vS p4 l c4) aR::hB r0 [vS p w0.nest c,vI w0.steps,vS p1 w0.out c1]::hf)) rfl<|yN [hO (List Int) (vS p4 l c4) aR] iR ⟨_,_,_,rfl,rfl,h7⟩
   rintro bx aI _ _ ⟨rfl,rfl⟩ _ _ ⟨p4,c4,aR,rfl,rfl,h7⟩;refine yW [0,16,24] rfl ?_;have h:=h.mono aI;refine yG 11 [] [26] rfl<|xC 1 [vS p w0.nest c,vI w0.steps,vS p4 l c4] rfl<|zY rfl<|yY<|yQ [1] [4] rfl<|xH<|zJ ?_;exact xX N (resT rfl) (zX [1,0] rfl (by decide)) ⟨_,_,_,_,_,_,rfl,rfl,rfl,h,h7⟩
  intro hc N;refine zT<|yY<|yG 6 [0] [37,39] rfl<|bE N λx aG N=>xW rfl rfl h aG ?_;intro ad bq aq am;obtain⟨p5,c5,p6,c6,rfl,h8,h9⟩:=vD am;refine xM 0 aq (cLoop x p5 c5 p6 c6) (vA (cLoop x p5 c5 p6 c6)) rfl<|yG 9 [] [42] rfl ?_;obtain⟨⟨y2,y3⟩,bh,N⟩:=zB N;refine xK (zFq x ah _ bh h8 h9 h2) ?_;rintro bG ax v2 k2 aY - ⟨v02,v03,rfl,rfl,rfl,rfl⟩ -;have ⟨h2,h,h1⟩:=m3 aY h2 h h1;refine yQ [] [5,6] rfl<|yA<|yK [7] rfl<|wN<|qX [(0,vP r0 0),(1,vS p2 ah c2),(6,vI y3),(7,vI y2)] ?_;obtain⟨aU,aB,aE⟩:=zB N;refine ih_impl_walking_walk_l1 ah y3 y2 w0.nest w0.steps w0.out aU aB iR h2 h h1 nG nO ?_ ?_
  ·intro I09 nest1 steps1 aj p9 c9 aL aO bt heq1 le9 h14 h15;subst aU;refine zS<|zE3 [(4,vY)]<|zK<|xD ?_;exact xX aE (resT rfl) (zX [0,1] rfl (by decide)) ⟨_,_,_,_,_,_,rfl,rfl,rfl,h14,h15⟩
  intro r0 I9 hs9 m9 aT le9 aV;subst aT;refine zV<|zJ ?_;obtain rfl:=zE aE;exact jW aV
 intro F_impl_walking_walk F_impl_walking_walk_l1 ih_impl_walking_walk ih_impl_walking_walk_l1 ah y3 n0 nest steps out o N B I0 I Q r0 p2 c2 p7 c7 p8 c8 aM H h2 h12 h13 hg ho hx hr;refine yX hg ho<|yC<|yK [49] rfl<|zK<|yH N ?_ ?_
 ·intro aH N;refine zT<|yA<|yL<|yD<|yG 7 [0] [56,58] rfl<|xC 0 [vS p7 nest c7,vI (W (steps+1)),vS p8 out c8] rfl<|zY rfl<|zK<|yC ?_;obtain⟨o0,aA,aX⟩:=zB N;refine nP (λI' ag m'=>∃(t74:Bool) (nest2:List zG) (steps2:Int) (ar:List (List Int)) (aF:Option Addr) (aQ:Nat) (bj:Option Addr) (aZ:Nat) (bz:List Value),o0=(t74,nest2,steps2,ar)/\I.le I'/\(S4 I' aF nest2 aQ)/\(RL I' bz ar)/\ag=[hB r0 [vS aF nest2 aQ,vI steps2,vS bj ar aZ],hO (List Int) (vS bj ar aZ) bz]/\m'=[(0,vP r0 0),(1,vS p2 ah c2),(6,vI y3),(7,vI n0),(74,.bool t74)]) ?_ ?_
  ·have H:=iS I;refine zL<|yG 7 [0] [65] rfl<|wR [65] aA ?_ ?_
   ·intro ba N;exact wM [] [(74,vY)]<|yZ<|zU ⟨_,_,_,_,_,_,_,_,_,(zE N).symm,H,h12,h13,rfl,rfl⟩
   intro ba N;refine yG 9 [] [66,67] rfl<|bE N λy4 bu N=>xK (oI ah _ bu h2) ?_;rintro I06 ax v2 k2 bo - ⟨bc,bd,cs6,rfl,rfl,h18⟩ -;have ⟨h12,h13,H⟩:=m3 bo h12 h13 H;refine yG 11 [] [69] rfl<|uX [vI n0] Int ?_;intro b1 hb1;have h19:RL I06 [vI n0] ([n0]:List Int):=rI [n0];obtain⟨l1,bC,N⟩:=zB N;refine sW 3 1 1 rfl rfl rfl h18 (.inr ⟨0,rfl⟩) h19 bC λp14 c14 cs7 h20=>tX (zZ [1,2,3] (ag:=[hO Int (vS p14 l1 c14) cs7,hB r0 [vS p7 nest c7,vI (W (steps+1)),vS p8 out c8],hO (List Int) (vS p8 out c8) aM]))<|xV 0 rfl ?_;intro I07 bv hl02;have h21:=SL.of_frozen hl02 bv h20;have ⟨h12,h13,H⟩:=m3 bv h12 h13 H;obtain⟨⟨y6,y7⟩,hy6,N⟩:=zB N;refine qB (ih_impl_walking_walk (qA.mk nest (W (steps+1)) out) l1 _ hy6 h12 h13 h21) rfl ?_;rintro I08 ax v2 k2 le7 - ⟨v04,p15,c15,p16,c16,cs8,rfl,rfl,rfl,h23,h24⟩ -;have H:=H.trans le7;exact yQ [] [74] rfl<|yZ<|zU ⟨_,_,_,_,_,_,_,_,_,(zE N).symm,H,h23,h24,rfl,rfl⟩
  rintro bK ax m2 ⟨t74,nest2,steps2,ar,aF,aQ,bj,aZ,bz,heq,le8,h16,h17,rfl,rfl⟩;subst o0;have ⟨h2,H⟩:=m2 le8 h2 H;refine zK<|yH aX ?_ ?_
  ·intro bD N;exact wZ [(4,vF)]<|xH<|zV<|zJ<|zJ<|hr _ _ _ _ (zE N).symm H ⟨_,_,(resT rfl),(zX [0,1] rfl (by decide)),⟨_,_,_,_,_,_,rfl,rfl,rfl,h16,h17⟩⟩
  intro bD N;exact zT<|zN<|zK<|zL<|yQ [] [7] rfl<|yV<|nX<|ih_impl_walking_walk_l1 ah y3 (W (n0+1)) nest2 steps2 ar _ N H h2 h16 h17 hg ho hx hr
 intro aH N;exact wW<|yZ<|hx _ _ _ _ _ _ _ _ _ (zE N).symm H h12 h13
theorem zDr:∀w0 ah r,rQ w0 ah=some r->∀{I:Imm}{r0}{p c p1 c1 cs p2 c2},(S4 I p w0.nest c)->(RL I cs w0.out)->(S4 I p2 ah c2)->RT 118 [vP r0 0,vS p2 ah c2] I [hB r0 [vS p w0.nest c,vI w0.steps,vS p1 w0.out c1],hO (List Int) (vS p1 w0.out c1) cs] (eG r0 r):=zD6.1
def zBJ(r:(List (List Int))×Bool):KT:=λkk I' ag v=>
 ∃v0 v1,ag=[]/\v=tupV [v0,v1]/\SL I' v0 r.1/\v1=.bool r.2
def gK(nest:(List zG)):Option ((List (List Int))×Bool):=do
 let y<-fQ nest;if(!y) then pure (([]:List (List Int)),false)
 else
  let (y2,y3)<-rQ (qA.mk nest 0 ([]:List (List Int))) ([]:List Int);if(!y2) then pure (([]:List (List Int)),false)
  else pure (y3.out,true)
theorem zFG:∀nest r,gK nest=some r->∀{I:Imm}{p c},(S4 I p nest c)->RT 78 [vS p nest c] I [] (zBJ  r):=by
 intro nest r N I p c h;unfold gK at N;refine yM func78 λB=>wZ []<|yA<|yD<|yG 1 [] [5] rfl<|bE N λy hy N=>tA (zFp nest _ hy h) ?_;intro I0 le;have h:=h.mono le;refine yQ [] [7] rfl<|zK<|yH N ?_ ?_
 ·intro hc N;refine yK [2,3] rfl<|xH<|zJ ?_;exact xX N (resU rfl rfl) zO ⟨_,_,rfl,rfl,(SL.nil _),rfl⟩
 intro hc N;refine zT<|yY<|yG 2 [] [9] rfl<|vC [vS p nest c,vI 0,z0] ?_;intro b hb;refine yQ [] [4] rfl<|yA<|yD<|yG 1 [] [11] rfl<|zPu (List Int) λh2=>?_;refine tX (zZ [1,0] (ag:=[hB b [vS p nest c,vI 0,vS none ([]:List (List Int)) 0],hO (List Int) (vS none ([]:List (List Int)) 0) []])) ?_;obtain⟨⟨y2,y3⟩,az,N⟩:=zB N;refine qB (zDr (qA.mk nest 0 ([]:List (List Int))) ([]:List Int) _ az h h2 (SL.nil _)) rfl ?_;rintro aP ax v2 k2 aa - ⟨v01,p1,c1,p2,c2,cs,rfl,rfl,rfl,h4,h5⟩ -;refine yQ [] [13] rfl<|zK<|yH N ?_ ?_
 ·intro aH N;refine yK [2,3] rfl<|xH<|zJ ?_;exact xX N (resU rfl rfl) zO ⟨_,_,rfl,rfl,(SL.nil _),rfl⟩
 intro aH N;refine zT<|yY<|yQ [0] [2,3] rfl<|xH<|xB 1 rfl ?_;intro aW aC hl0;have h6:=SL.of_frozen hl0 aC h5;exact xX N (resU rfl rfl) zO ⟨_,_,rfl,rfl,h6,rfl⟩
def nQ(aD:List HA)(r:Int):KT:=λkk I' ag v=>
 ∃v0,aD=ag/\v=tupV [v0]/\v0=.int .i64 r
def xZ(s:(List zI))(f0:(zI->Option Bool))(t8:Int):Option (Out Unit (Int)):=do
 if(decide (t8<(s.length:Int))) then
  let x<-idx s t8;let y<-f0 x;if y then pure (.ret t8)
  else xZ s f0 (W (t8+1))
 else pure (.done ())
 partial_fixpoint
theorem eH(s:(List zI))(f0:(zI->Option Bool)):∀(t8:Int) (o:Out Unit (Int)),xZ s f0 t8=some o->∀{B}{I0 I:Imm}{Q p c}{fv:Value}{aD:List HA},I0.le I->(S4 I p s c)->(FV1 Tryz.prog I aD fv f0)->NG Q->NO Q->(∀I',o=(.done ())->I0.le I'->T 19 B Q (.exit 0) I' aD [])->(∀r I' ag m',o=(.ret r)->I0.le I'->RS Tryz.prog f119 B (nQ aD r) I' ag m'->T 19 B Q .ret I' ag m')->J Tryz.prog 19 B (nav (bodyOf f119) [1,0,1,0]) Q I aD [(0,vS p s c),(1,fv),(7,vI (s.length:Int)),(8,vI t8)]:=by
 refine xZ.partial_correctness s f0 _ λaJ ih t8 o N B I0 I Q p c fv aD H h h1 hg ho hx hr=>yX hg ho<|yK [9] rfl<|yA<|yH N ?_ ?_
 ·intro hc N;refine zT<|yA<|yL<|yK [5] rfl<|yY<|yG 3 [] [11,12,13] rfl<|bE N λx hy N=>xW rfl rfl h hy ?_;intro ad aN aq am;obtain⟨p1,c1,p2,c2,p3,c3,p4,c4,rfl,h2,h3,h4,h5⟩:=vG am;refine xM 0 aq (cStmt x p1 c1 p2 c2 p3 c3 p4 c4) (vA (cStmt x p1 c1 p2 c2 p3 c3 p4 c4)) rfl<|bE N λy az N=>zK3 rfl rfl h1 az ⟨_,rfl,(wG ⟨_,_,_,_,rfl,h2,h3,h4,h5⟩)⟩ (cx _).symm ?_;rintro I0 v04 le rfl;refine wY (ag:=aD) (cx _) ?_;have ⟨h,h1,H⟩:=m3 le h h1 H;refine zY rfl<|zK<|yH N ?_ ?_
  ·intro aH N;exact yK [4] rfl<|xH<|zV<|zJ<|zJ<|hr _ _ _ _ (zE N).symm H ⟨_,_,(resT rfl),(λ_ h=>h),⟨_,rfl,rfl,rfl⟩⟩
  intro aH N;exact zT<|zN<|zK<|zL<|yQ [] [8] rfl<|yV<|nX<|ih (W (t8+1)) _ N H h h1 hg ho hx hr
 intro hc N;exact wW<|yZ<|hx _  (zE N).symm H
def tI(s:(List zI))(f0:(zI->Option Bool)):Option (Int):=do
 match<-xZ s f0 0 with
 | .ret r0=>pure r0
 | .done _=>
  pure (-1)
theorem dD:∀s f0 r,tI s f0=some r->∀{I:Imm}{p c}{fv:Value}{aD:List HA},(S4 I p s c)->(FV1 Tryz.prog I aD fv f0)->RT 119 [vS p s c,fv] I aD (nQ aD r):=by
 intro s f0 r N I p c fv aD h h1;unfold tI at N;refine yM func119 λB=>wZ []<|yA<|yK [7,8] rfl<|wN<|qX [(0,vS p s c),(1,fv),(7,vI (s.length:Int)),(8,vI 0)] ?_;obtain⟨o0,aA,aE⟩:=zB N;refine eH s f0 0 o0 aA iR h h1 nG nO ?_ ?_
 ·intro aP  heq aa;subst o0;refine zS<|vM [4] rfl<|zK<|xD ?_;exact xX aE (resT rfl) (λ_ h=>h) ⟨_,rfl,rfl,rfl⟩
 intro r0 I9 hs9 m9 aT le9 aV;subst aT;refine zV<|zJ ?_;obtain rfl:=zE aE;exact jW aV
def fS(aD:List HA)(r:Bool):KT:=λkk I' ag v=>
 ∃v0,aD=ag/\v=tupV [v0]/\v0=.bool r
def wV(s:(List zI))(f0:(zI->Option Bool)):Option (Bool):=do
 let y<-tI s f0;pure (decide (y>=0))
theorem eI:∀s f0 r,wV s f0=some r->∀{I:Imm}{p c}{fv:Value}{aD:List HA},(S4 I p s c)->(FV1 Tryz.prog I aD fv f0)->RT 79 [vS p s c,fv] I aD (fS aD r):=by
 intro s f0 r N I p c fv aD h h1;unfold wV at N;refine yM func79 λB=>wZ []<|yY<|yG 2 [] [5,6] rfl<|bE N λy hy N=>zGb (hs1:=aD) (rest:=[]) rfl rfl rfl rfl (by kernel_rfl) rfl (cx _).symm (dD s f0 _ hy h h1) ?_;rintro I0 ax v2 k2 le - ⟨v0,rfl,rfl,rfl⟩ -;refine wY (ag:=aD) (cx _) ?_;refine yQ [] [4] rfl<|zK<|xD ?_;exact xX N (resT rfl) (λ_ h=>h) ⟨_,rfl,rfl,rfl⟩
def oR(s:zA)(x:Int):Option (Bool):=do
 let t3<-(do
  let y<-pY s;if(!y) then pure true
  else
   let y1<-pA s;pure (decide (y1>x))
    : Option Bool)
 pure (id t3)
theorem zFH:∀s x r,oR s x=some r->∀{I:Imm}{p c}{ad:Addr},(S4 I p s.Coefs c)->(At I ad [vI x])->RT 160 [vA (cAff s p c),.pointer (some ad)] I [] (zW  r):=by
 intro s x r N I p c ad h aq;unfold oR at N;refine yM func160 λB=>?_;have H:=iS I;refine yD<|vC (cAff s p c) ?_;intro b hb;refine wM [] []<|zK<|yC ?_;refine vQ N [] (λt3=>[(3,.bool t3)]) (λo0 aA=>?_) ?_
 ·have H:=iS I;obtain⟨y,hy,N⟩:=zB aA;cases hc:(!y) with
  | true=>
   have hM0:=rZ hc N;refine wP [.p (vA (cAff s p c)) [0],.q (.bool y),.q vY,.q vY,.p undef [],.p undef [],.p undef [],.p undef [],.p vY []] [[],[(0,false)],[(1,false)],[(2,false)],[(3,false)],[(3,false),(4,false)],[(3,false)],[(3,false),(5,false),(6,false)],[(3,false),(7,false)]] [hB b (cAff s p c)] [] [(8,false)] (zZ [0]) ?_ ?_
   ·refine Op<|Oq ?_<|Oq ?_<|Oq ?_<|O4<|Op<|On
    ·intro I1 hf aa;refine yW [4] rfl ?_;have H:=iS I1;have h:=h.mono aa;refine tA (jA s _ hy h) ?_;intro aP le;have H:=H.trans le;exact xO H
    ·intro I1 hf aa;refine yW [5] rfl<|oN 3 [(6,.bool (!y))] ?_;rw[hc];exact xO iR
    intro I1 hf aa;exact I_h [(6,vY)]<|oN 4 [(7,vY)]<|xO iR
   intro aW aa;refine I_h [(12,vY)] ?_;have H:=H.trans aa;exact wM [] [(3,vY)]<|wK zO<|yZ<|zU (ct hM0 H)
  | false=>
   have hM01:=sP hc N;obtain⟨y1,az,N⟩:=zB hM01;refine wP [.p (vA (cAff s p c)) [0],.q (.bool y),.q vF,.q vF,.p (vA (cAff s p c)) [0],.q (vI y1),.q (vI x),.p (.bool (decide (y1>x))) [],.p (.bool (decide (y1>x))) []] [[],[(0,false)],[(1,false)],[(2,false)],[(3,false)],[(3,false),(4,false)],[(3,false)],[(3,false),(5,false),(6,false)],[(3,false),(7,false)]] [hB b (cAff s p c)] [] [(8,false)] (zZ [0]) ?_ ?_
   ·refine Op<|Oq ?_<|Oq ?_<|Oq ?_<|Op<|Oq ?_<|Oq ?_<|O2<|On
    ·intro I1 hf aa;refine yW [4] rfl ?_;have H:=iS I1;have h:=h.mono aa;refine tA (jA s _ hy h) ?_;intro aP le;have H:=H.trans le;exact xO H
    ·intro I1 hf aa;refine yW [5] rfl<|oN 3 [(6,.bool (!y))] ?_;rw[hc];exact xO iR
    ·intro I1 hf aa;exact I_h [(6,vF)]<|oN 4 [(7,vF)]<|xO iR
    ·intro I1 hf aa;refine yW [7,8] rfl ?_;have H:=iS I1;have h:=h.mono aa;refine dC (dK s _ az h) ?_;intro bx aC;have H:=H.trans aC;exact xO H
    intro I1 hf aa;refine yW [1,7] rfl ?_;have aq:=aq.mono aa;exact xM 0 aq [vI x] (vI x) rfl<|xO iR
   intro bG aI;refine yW [12] rfl ?_;have H:=H.trans aI;exact yQ [] [3] rfl<|wK zO<|yZ<|zU (ct N H)
 intro t3 I0 aY aX;refine zK<|xD ?_;obtain rfl:=zE aX;exact vH
def gA(a0:zM)(ae:Int):Option (Bool):=do
 let t4<-(do
  let y<-fP a0.Array;if y then
   let y1<-wX (a0.Subs.length:Int) 1 2;if y1 then
    let y2<-wA a0.Subs (λx0=>oR x0 ae);pure (!y2)
   else pure false
  else
   pure false
    : Option Bool)
 pure (id t4)
theorem zCa:∀a0 ae r,gA a0 ae=some r->∀{I:Imm}{p c},(S4 I p a0.Subs c)->RT 120 [vA (cAccess a0 p c),vI ae] I [] (zW  r):=by
 intro a0 ae r N I p c h;unfold gA at N;refine yM func120 λB=>?_;have H:=iS I;refine yD<|vC (cAccess a0 p c) ?_;intro b hb;refine vC [vI ae] ?_;intro b1 hb1;refine xV 0 rfl ?_;intro I0 le hl0;have aq:At I0 ⟨b1,0,none⟩ [vI ae]:=At.of_blk hl0;have ⟨h,H⟩:=m2 le h H;refine wM [] []<|zK<|yC ?_;refine vQ N [] (λt4=>[(4,.bool t4)]) (λo0 aA=>?_) ?_
 ·have H:=iS I0;refine zL<|yG 2 [0] [6] rfl ?_;obtain⟨y,hy,N⟩:=zB aA;refine tA (kU a0.Array _ hy ) ?_;intro aW aa;have ⟨aq,h,H⟩:=m3 aa aq h H;refine yG 4 [] [8] rfl<|wR [8] N ?_ ?_
  ·intro hc N;refine yG 7 [0] [11] rfl<|bE N λy1 az N=>tA (vR (a0.Subs.length:Int) 1 2 _ az ) ?_;intro bx aC;have ⟨aq,h,H⟩:=m3 aC aq h H;refine yG 10 [] [14] rfl<|wR [14] N ?_ ?_
   ·intro aH N;refine yG 13 [0] [16,17] rfl ?_;have hf0:FV1 Tryz.prog bx [] (.func (.func 160) ⟨[]⟩ ⟨[vP b1 0]⟩) (λx0=>oR x0 ae):=by
     refine FV1.intro ?_;intro I1 aa x0 r u0 hF k0;obtain⟨_,rfl,k0⟩:=k0;obtain⟨p1,c1,rfl,h3⟩:=yI k0;exact(zFH x0 ae r hF h3 (aq.mono aa)).mono (by rintro k i hs u ⟨v0,rfl,rfl,h⟩;exact⟨rfl,h⟩)
    obtain⟨y2,aG,N⟩:=zB N;refine xK (pP a0.Subs (λx0=>oR x0 ae) _ aG h hf0) ?_;rintro bG ax v2 k2 aI - ⟨v03,rfl,rfl,rfl⟩ -;have H:=H.trans aI;exact yQ [] [4] rfl<|wK zO<|yZ<|zU (ct N H)
   intro aH N;exact wM [] [(4,vF)]<|wK zO<|yZ<|zU (ct N H)
  intro hc N;exact wM [] [(4,vF)]<|wK zO<|yZ<|zU (ct N H)
 intro t4 aP aY aX;refine zK<|xD ?_;obtain rfl:=zE aX;exact vH
def gB(a0:zA):Option (Bool):=do
 let t2<-(do
  if((a0.Coefs.length:Int)==0) then pure (a0.Const==0)
  else
   pure false
    : Option Bool)
 pure (id t2)
theorem zCb:∀a0 r,gB a0=some r->∀{I:Imm}{p c},(S4 I p a0.Coefs c)->RT 163 [vA (cAff a0 p c)] I [] (zW  r):=by
 intro a0 r N I p c h;unfold gB at N;refine yM func163 λB=>?_;have H:=iS I;refine yD<|vC (cAff a0 p c) ?_;intro b hb;refine wM [] []<|zK<|yC ?_;refine vQ N [] (λt2=>[(2,.bool t2)]) (λo0 aA=>?_) ?_
 ·have H:=iS I;refine zL<|yG 5 [0] [7] rfl<|wR [7] aA ?_ ?_
  ·intro hc N;exact yQ [0] [2] rfl<|wK zO<|yZ<|zU (ct N H)
  intro hc N;exact wM [] [(2,vF)]<|wK zO<|yZ<|zU (ct N H)
 intro t2 I0 le aX;refine zK<|xD ?_;obtain rfl:=zE aX;exact vH
def nR(a0:zM):Option (Bool):=do
 let t2<-(do
  if(a0.Array.l==([]:List UInt8)) then pure ((a0.Subs.length:Int)==0)
  else
   pure false
    : Option Bool)
 pure (id t2)
theorem zAE:∀a0 r,nR a0=some r->∀{I:Imm}{p c},(S4 I p a0.Subs c)->RT 164 [vA (cAccess a0 p c)] I [] (zW  r):=by
 intro a0 r N I p c h;unfold nR at N;refine yM func164 λB=>?_;have H:=iS I;refine yD<|vC (cAccess a0 p c) ?_;intro b hb;refine wM [] []<|zK<|yC ?_;refine vQ N [] (λt2=>[(2,.bool t2)]) (λo0 aA=>?_) ?_
 ·have H:=iS I;refine zL<|yG 4 [0] [6] rfl<|wR [6] aA ?_ ?_
  ·intro hc N;exact yQ [0] [2] rfl<|wK zO<|yZ<|zU (ct N H)
  intro hc N;exact wM [] [(2,vF)]<|wK zO<|yZ<|zU (ct N H)
 intro t2 I0 le aX;refine zK<|xD ?_;obtain rfl:=zE aX;exact vH
def zBK(kind:Int):Option (Bool):=do
 let y<-wX kind 4 6;pure (id y)
theorem zJv:∀kind r,zBK kind=some r->∀{I:Imm} ,RT 165 [vI kind] I [] (zW  r):=by
 intro kind r N I;unfold zBK at N;refine yM func165 λB=>wZ []<|yY<|yG 1 [] [3] rfl<|bE N λy hy N=>tA (vR kind 4 6 _ hy ) λI0 le=>wM [] [(2,.bool y)]<|zK<|xD ?_;obtain rfl:=zE N;exact vH
def zFI(b0:Nat)(r:Bool×Int):KT:=λkk I' ag v=>
 ∃v0 k0,ag=[.blk b0 ⟨k0⟩]/\v=tupV [v0]/\v0=.bool r.1/\Rp.rep I' k0 r.2
def sB(e0:zH)(ae:Int)(deep:Int)(count:Int):Option (Bool×Int):=do
 let t21<-(do
  if(decide ((W (count+1))>12)) then pure true
  else
   pure (decide (deep>5))
    : Option Bool)
 if t21 then pure (false,(W (count+1)))
 else
  let t51<-(do
   if(e0.Kind != 1) then
    if(e0.Num != 0) then pure true
    else
     if(e0.Kind != 2) then
      let y<-gB e0.Index;if(!y) then pure true
      else
       if(e0.Kind != 3) then
        let y1<-nR e0.Read;pure (!y1)
       else pure false
     else
      if(e0.Kind != 3) then
       let y2<-nR e0.Read;pure (!y2)
      else pure false
   else
    if(e0.Kind != 2) then
     let y3<-gB e0.Index;if(!y3) then pure true
     else
      if(e0.Kind != 3) then
       let y4<-nR e0.Read;pure (!y4)
      else pure false
    else
     if(e0.Kind != 3) then
      let y5<-nR e0.Read;pure (!y5)
     else pure false
     : Option Bool)
  if t51 then pure (false,(W (count+1)))
  else
   if(e0.Kind==1) then
    let t8<-(do
     let y6<-wX e0.Num 0 99;if y6 then pure ((e0.Kids.length:Int)==0)
     else
      pure false
       : Option Bool)
    pure (t8,(W (count+1)))
   else
    if(e0.Kind==2) then
     let t81<-(do
      let y7<-pY e0.Index;if y7 then
       let y8<-pA e0.Index;if(decide (y8<=ae)) then pure ((e0.Kids.length:Int)==0)
       else pure false
      else
       pure false
        : Option Bool)
     pure (t81,(W (count+1)))
    else
     if(e0.Kind==3) then
      let t82<-(do
       let y9<-gA e0.Read ae;if y9 then pure ((e0.Kids.length:Int)==0)
       else
        pure false
         : Option Bool)
      pure (t82,(W (count+1)))
     else
      let t99<-(do
       let y10<-zBK e0.Kind;if(!y10) then pure true
       else
        pure ((e0.Kids.length:Int) != 2)
         : Option Bool)
      if t99 then pure (false,(W (count+1)))
      else
       let (t83,x)<-(do
        let x1<-idx e0.Kids 0;let (y12,y13)<-sB (same x1) (same ae) (W (deep+1)) (W (count+1));if y12 then
         let x2<-idx e0.Kids 1;let (y15,y16)<-sB (same x2) (same ae) (W (deep+1)) (same y13);pure (y15,y16)
        else
         pure (false,y13)
          : Option (Bool×Int))
       pure (t83,x)
 partial_fixpoint
theorem zGn:∀e0 ae deep count r,sB e0 ae deep count=some r->∀{I:Imm}{p c p1 c1 p2 c2}{r0},(S4 I p e0.Index.Coefs c)->(S4 I p1 e0.Read.Subs c1)->(S4 I p2 e0.Kids c2)->RT 121 [vA (cExpr e0 p c p1 c1 p2 c2),vI ae,vI deep,vP r0 0] I [hB r0 [vI count]] (zFI r0 r):=by
 refine sB.partial_correctness _ λF_impl_exprScan ih_impl_exprScan e0 ae deep count r N I p c p1 c1 p2 c2 r0 h h1 h2=>yM func121 λB=>?_;have H:=iS I;refine yD<|vC (cExpr e0 p c p1 c1 p2 c2) ?_;intro b hb;refine wM [] []<|yY<|yG 5 [1] [12,13] rfl<|xC 1 [vI (W (count+1))] rfl<|zY rfl<|yA<|yC ?_;refine vQ N [hB b (cExpr e0 p c p1 c1 p2 c2),hB r0 [vI (W (count+1))]] (λt21=>[(1,vI ae),(2,vI deep),(3,vP r0 0),(4,vP b 0),(21,.bool t21)]) (λo0 aA=>?_) ?_
 ·have H:=iS I;refine zL<|yG 5 [1] [18] rfl<|wR [18] aA ?_ ?_
  ·intro hc N;exact wM [] [(21,vY)]<|yZ<|zU (ct N H)
  intro hc N;exact yQ [] [21] rfl<|yZ<|zU (ct N H)
 intro t21 I0 le aX;have ⟨h,h1,h2,H⟩:=m4 le h h1 h2 H;refine zK<|yH aX ?_ ?_
 ·intro aH N;refine wZ [(8,vF)]<|xH<|zJ ?_;exact xX N (resT rfl) (zX [1] rfl (by decide)) ⟨_,_,rfl,rfl,rfl,rfl⟩
 intro aH N;refine zT<|yA<|yC ?_;refine vQ N [hB b (cExpr e0 p c p1 c1 p2 c2),hB r0 [vI (W (count+1))]] (λt51=>[(1,vI ae),(2,vI deep),(3,vP r0 0),(4,vP b 0),(51,.bool t51)]) (λaU aB=>?_) ?_
 ·have H:=iS I0;refine zL<|yG 4 [0] [25] rfl<|wR [25] aB ?_ ?_
  ·intro ba N;refine yG 9 [0] [30] rfl<|wR [30] N ?_ ?_
   ·intro bD N;exact wM [] [(51,vY)]<|yZ<|zU (ct N H)
   intro bD N;refine yG 13 [0] [34] rfl<|wR [34] N ?_ ?_
   ·intro bJ N;refine uW 15 [0] [(36,vA (cAff e0.Index p c))]<|bE N λy hy N=>tA (zCb e0.Index _ hy h) ?_;intro aW aa;have ⟨h1,H⟩:=m2 aa h1 H;refine yG 20 [] [41] rfl<|wR [41] N ?_ ?_
    ·intro hc5 N;exact wM [] [(51,vY)]<|yZ<|zU (ct N H)
    intro hc5 N;refine yG 24 [0] [45] rfl<|wR [45] N ?_ ?_
    ·intro hc6 N;refine uW 26 [0] [(47,vA (cAccess e0.Read p1 c1))]<|bE N λy1 az N=>tA (zAE e0.Read _ az h1) ?_;intro bx aC;have H:=H.trans aC;exact yQ [] [51] rfl<|yZ<|zU (ct N H)
    intro hc6 N;exact wM [] [(51,vF)]<|yZ<|zU (ct N H)
   intro bJ N;refine yG 24 [0] [41,45] rfl<|wR [45] N ?_ ?_
   ·intro hc7 N;refine uW 26 [0] [(47,vA (cAccess e0.Read p1 c1))]<|bE N λy2 aG N=>tA (zAE e0.Read _ aG h1) ?_;intro bG aI;have H:=H.trans aI;exact yQ [] [51] rfl<|yZ<|zU (ct N H)
   intro hc7 N;exact wM [] [(51,vF)]<|yZ<|zU (ct N H)
  intro ba N;refine yG 13 [0] [30,34] rfl<|wR [34] N ?_ ?_
  ·intro hc8 N;refine uW 15 [0] [(36,vA (cAff e0.Index p c))]<|bE N λy3 bh N=>tA (zCb e0.Index _ bh h) ?_;intro bK aY;have ⟨h1,H⟩:=m2 aY h1 H;refine yG 20 [] [41] rfl<|wR [41] N ?_ ?_
   ·intro hc9 N;exact wM [] [(51,vY)]<|yZ<|zU (ct N H)
   intro hc9 N;refine yG 24 [0] [45] rfl<|wR [45] N ?_ ?_
   ·intro hc10 N;refine uW 26 [0] [(47,vA (cAccess e0.Read p1 c1))]<|bE N λy4 bu N=>tA (zAE e0.Read _ bu h1) ?_;intro I06 bo;have H:=H.trans bo;exact yQ [] [51] rfl<|yZ<|zU (ct N H)
   intro hc10 N;exact wM [] [(51,vF)]<|yZ<|zU (ct N H)
  intro hc8 N;refine yG 24 [0] [41,45] rfl<|wR [45] N ?_ ?_
  ·intro hc11 N;refine uW 26 [0] [(47,vA (cAccess e0.Read p1 c1))]<|bE N λy5 bC N=>tA (zAE e0.Read _ bC h1) ?_;intro I07 bv;have H:=H.trans bv;exact yQ [] [51] rfl<|yZ<|zU (ct N H)
  intro hc11 N;exact wM [] [(51,vF)]<|yZ<|zU (ct N H)
 intro t51 aP le7 hMc1;have ⟨h,h1,h2,H⟩:=m4 le7 h h1 h2 H;refine zK<|yH hMc1 ?_ ?_
 ·intro hc12 N;refine wZ [(8,vF)]<|xH<|zJ ?_;exact xX N (resT rfl) (zX [1] rfl (by decide)) ⟨_,_,rfl,rfl,rfl,rfl⟩
 intro hc12 N;refine zT<|yA<|yL<|yD<|yQ [0] [52] rfl<|zK<|yH N ?_ ?_
 ·intro hc13 N;refine yC ?_;refine vQ N [hB r0 [vI (W (count+1))]] (λt8=>[(8,.bool t8)]) (λo02 ho02=>?_) ?_
  ·have H:=iS aP;refine zL<|yG 2 [0] [57] rfl ?_;obtain⟨y6,hy6,N⟩:=zB ho02;refine tA (vR e0.Num 0 99 _ hy6 ) ?_;intro I09 le8;have H:=H.trans le8;refine yG 4 [] [59] rfl<|wR [59] N ?_ ?_
   ·intro hc14 N;exact yQ [0] [8] rfl<|wK (zX [1] rfl (by decide))<|yZ<|zU (ct N H)
   intro hc14 N;exact wM [] [(8,vF)]<|wK (zX [1] rfl (by decide))<|yZ<|zU (ct N H)
  intro t8 I08 le9 hMc2;refine xH<|zV<|zJ ?_;exact xX hMc2 (resT rfl) (zX [0] rfl (by decide)) ⟨_,_,rfl,rfl,rfl,rfl⟩
 intro hc13 N;refine yD<|yQ [0] [65] rfl<|zK<|yH N ?_ ?_
 ·intro hc15 N;refine yC ?_;refine vQ N [hB r0 [vI (W (count+1))]] (λt81=>[(8,.bool t81)]) (λo03 ho03=>?_) ?_
  ·have H:=iS aP;refine zL<|uW 2 [0] [(70,vA (cAff e0.Index p c))] ?_;obtain⟨y7,hy7,N⟩:=zB ho03;refine tA (jA e0.Index _ hy7 h) ?_;intro bS le10;have ⟨h,H⟩:=m2 le10 h H;refine yG 4 [] [72] rfl<|wR [72] N ?_ ?_
   ·intro hc16 N;refine uW 6 [0] [(74,vA (cAff e0.Index p c))]<|bE N λy8 hy8 N=>dC (dK e0.Index _ hy8 h) ?_;intro bR le11;have H:=H.trans le11;refine yG 11 [] [79] rfl<|wR [79] N ?_ ?_
    ·intro hc17 N;exact yQ [0] [8] rfl<|wK (zX [1] rfl (by decide))<|yZ<|zU (ct N H)
    intro hc17 N;exact wM [] [(8,vF)]<|wK (zX [1] rfl (by decide))<|yZ<|zU (ct N H)
   intro hc16 N;exact wM [] [(8,vF)]<|wK (zX [1] rfl (by decide))<|yZ<|zU (ct N H)
  intro t81 bN le12 hMc3;refine xH<|zV<|zJ ?_;exact xX hMc3 (resT rfl) (zX [0] rfl (by decide)) ⟨_,_,rfl,rfl,rfl,rfl⟩
 intro hc15 N;refine yD<|yQ [0] [85] rfl<|zK<|yH N ?_ ?_
 ·intro hc18 N;refine yC ?_;refine vQ N [hB r0 [vI (W (count+1))]] (λt82=>[(8,.bool t82)]) (λo04 ho04=>?_) ?_
  ·have H:=iS aP;refine zL<|uW 3 [0] [(90,vA (cAccess e0.Read p1 c1)),(91,vI ae)] ?_;obtain⟨y9,hy9,N⟩:=zB ho04;refine tA (zCa e0.Read ae _ hy9 h1) ?_;intro I014 le13;have H:=H.trans le13;refine yG 5 [] [93] rfl<|wR [93] N ?_ ?_
   ·intro hc19 N;exact yQ [0] [8] rfl<|wK (zX [1] rfl (by decide))<|yZ<|zU (ct N H)
   intro hc19 N;exact wM [] [(8,vF)]<|wK (zX [1] rfl (by decide))<|yZ<|zU (ct N H)
  intro t82 I013 le14 hMc4;refine xH<|zV<|zJ ?_;exact xX hMc4 (resT rfl) (zX [0] rfl (by decide)) ⟨_,_,rfl,rfl,rfl,rfl⟩
 intro hc18 N;refine yC ?_;refine vQ N [hB b (cExpr e0 p c p1 c1 p2 c2),hB r0 [vI (W (count+1))]] (λt99=>[(1,vI ae),(2,vI deep),(3,vP r0 0),(4,vP b 0),(99,.bool t99)]) (λo05 ho05=>?_) ?_
 ·have H:=iS aP;refine zL<|yG 2 [0] [101] rfl ?_;obtain⟨y10,hy10,N⟩:=zB ho05;refine tA (zJv e0.Kind _ hy10 ) ?_;intro I016 le15;have H:=H.trans le15;refine yG 5 [] [104] rfl<|wR [104] N ?_ ?_
  ·intro hc20 N;exact wM [] [(99,vY)]<|yZ<|zU (ct N H)
  intro hc20 N;exact yQ [0] [99] rfl<|yZ<|zU (ct N H)
 intro t99 I015 le16 hMc5;have ⟨h2,H⟩:=m2 le16 h2 H;refine zK<|yH hMc5 ?_ ?_
 ·intro hc21 N;refine wZ [(8,vF)]<|xH<|zV<|zJ ?_;exact xX N (resT rfl) (zX [1] rfl (by decide)) ⟨_,_,rfl,rfl,rfl,rfl⟩
 intro hc21 N;refine zT<|zN<|zK<|yC ?_;obtain⟨o06,ho06,hMc6⟩:=zB N;refine nP (λI' ag m'=>∃(t83:Bool) (x:Int),o06=(t83,x)/\I015.le I'/\ag=[hB r0 [vI x]]/\m'=[(8,.bool t83)]) ?_ ?_
 ·have H:=iS I015;refine zL<|yG 2 [0] [111] rfl ?_;obtain⟨x1,hy11,N⟩:=zB ho06;refine xW rfl rfl h2 hy11 ?_;intro ad aN aq am;obtain⟨p3,c3,p4,c4,p5,c5,rfl,h14,h15,h16⟩:=wT am;refine xM 0 aq (cExpr x1 p3 c3 p4 c4 p5 c5) (vA (cExpr x1 p3 c3 p4 c4 p5 c5)) rfl<|yG 8 [] [114,116,117] rfl<|tX (zZ [1,0] (ag:=[hB r0 [vI (W (count+1))],hB b (cExpr e0 p c p1 c1 p2 c2)])) ?_;obtain⟨⟨y12,y13⟩,hy12,N⟩:=zB N;refine qB (ih_impl_exprScan x1 ae (W (deep+1)) (W (count+1)) _ hy12 h14 h15 h16) rfl ?_;rintro I018 ax v2 k2 le17 - ⟨v014,kk,rfl,rfl,rfl,h18⟩ -;have ⟨h2,H⟩:=m2 le17 h2 H;obtain rfl:=h18;refine yG 10 [] [119] rfl<|wR [119] N ?_ ?_
  ·intro hc22 N;refine yG 12 [1] [121] rfl<|bE N λx2 hy13 N=>xW rfl rfl h2 hy13 ?_;intro ad1 bq aw ay;obtain⟨p6,c6,p7,c7,p8,c8,rfl,h19,h20,h21⟩:=wT ay;refine xM 0 aw (cExpr x2 p6 c6 p7 c7 p8 c8) (vA (cExpr x2 p6 c6 p7 c7 p8 c8)) rfl<|yG 18 [] [124,126,127] rfl ?_;obtain⟨⟨y15,y16⟩,hy14,N⟩:=zB N;refine qB (ih_impl_exprScan x2 ae (W (deep+1)) y13 _ hy14 h19 h20 h21) rfl ?_;rintro I019 ax v2 k2 le18 - ⟨v018,kk1,rfl,rfl,rfl,h23⟩ -;have H:=H.trans le18;obtain rfl:=h23;exact yQ [] [8] rfl<|wK (zX [0] rfl (by decide))<|yZ<|zU ⟨_,_,(zE N).symm,H,rfl,rfl⟩
  intro hc22 N;exact wM [] [(8,vF)]<|wK (zX [0] rfl (by decide))<|yZ<|zU ⟨_,_,(zE N).symm,H,rfl,rfl⟩
 rintro I017 ax m2 ⟨t83,x,heq6,le19,rfl,rfl⟩;subst o06;refine zK<|xD ?_;exact xX hMc6 (resT rfl) (zX [0] rfl (by decide)) ⟨_,_,rfl,rfl,rfl,rfl⟩
def fT(s:zI)(ae:Int):Option (Bool):=do
 let t4<-(do
  let y<-wX ae 0 4;if y then
   let y1<-gA s.Write ae;if y1 then
    let (y3,y4)<-sB s.Value ae 1 0;pure (id y3)
   else pure false
  else
   pure false
    : Option Bool)
 pure (id t4)
theorem zFr:∀s ae r,fT s ae=some r->∀{I:Imm}{p c p1 c1 p2 c2 p3 c3},(S4 I p s.Write.Subs c)->(S4 I p1 s.Value.Index.Coefs c1)->(S4 I p2 s.Value.Read.Subs c2)->(S4 I p3 s.Value.Kids c3)->RT 81 [vA (cStmt s p c p1 c1 p2 c2 p3 c3),vI ae] I [] (zW  r):=by
 intro s ae r N I p c p1 c1 p2 c2 p3 c3 h h1 h2 h3;unfold fT at N;refine yM func81 λB=>?_;have H:=iS I;refine yD<|vC (cStmt s p c p1 c1 p2 c2 p3 c3) ?_;intro b hb;refine wM [] []<|yY<|xY [vI 0] ?_;intro b1 hb1;refine xC 0 [vI 0] rfl<|zY rfl<|zK<|yC ?_;refine vQ N [] (λt4=>[(4,.bool t4)]) (λo0 aA=>?_) ?_
 ·have H:=iS I;refine zL<|yG 1 [] [6] rfl ?_;obtain⟨y,hy,N⟩:=zB aA;refine tA (vR ae 0 4 _ hy ) ?_;intro aP le;have ⟨h,h1,h2,h3,H⟩:=m5 le h h1 h2 h3 H;refine yG 3 [] [8] rfl<|wR [8] N ?_ ?_
  ·intro hc N;refine uW 6 [1] [(10,vA (cAccess s.Write p c)),(11,vI ae)]<|bE N λy1 az N=>tA (zCa s.Write ae _ az h) ?_;intro aW aa;have ⟨h1,h2,h3,H⟩:=m4 aa h1 h2 h3 H;refine yG 9 [] [14] rfl<|wR [14] N ?_ ?_
   ·intro aH N;refine uW 12 [1] [(16,vA (cExpr s.Value p1 c1 p2 c2 p3 c3)),(17,vI ae)] ?_;obtain⟨⟨y3,y4⟩,aG,N⟩:=zB N;refine qB (zGn s.Value ae 1 0 _ aG h1 h2 h3) rfl ?_;rintro bx ax v2 k2 aC - ⟨v02,kk,rfl,rfl,rfl,h7⟩ -;have H:=H.trans aC;obtain rfl:=h7;exact yQ [] [4] rfl<|wK zO<|yZ<|zU (ct N H)
   intro aH N;exact wM [] [(4,vF)]<|wK zO<|yZ<|zU (ct N H)
  intro hc N;exact wM [] [(4,vF)]<|wK zO<|yZ<|zU (ct N H)
 intro t4 I0 aI aX;refine zK<|xD ?_;obtain rfl:=zE aX;exact vH
def uS(s:zI)(x:zF):Option (Bool):=do
 let y<-fT s (x.Nest.length:Int);pure (!y)
theorem zB4:∀s x r,uS s x=some r->∀{I:Imm}{p c p1 c1 p2 c2 p3 c3}{ad:Addr}{p4 c4 p5 c5},(S4 I p s.Write.Subs c)->(S4 I p1 s.Value.Index.Coefs c1)->(S4 I p2 s.Value.Read.Subs c2)->(S4 I p3 s.Value.Kids c3)->(S4 I p4 x.Nest c4)->(S4 I p5 x.Body c5)->(At I ad (cPart x p4 c4 p5 c5))->RT 80 [vA (cStmt s p c p1 c1 p2 c2 p3 c3),.pointer (some ad)] I [] (zW  r):=by
 intro s x r N I p c p1 c1 p2 c2 p3 c3 ad p4 c4 p5 c5 h h1 h2 h3 h4 h5 aq;unfold uS at N;refine yM func80 λB=>yD<|vC (cStmt s p c p1 c1 p2 c2 p3 c3) ?_;intro b hb;refine wM [] []<|yY<|uW 2 [0] [(4,vA (cStmt s p c p1 c1 p2 c2 p3 c3)),(5,.pointer (some ad))]<|xM 0 aq [vS p4 x.Nest c4] (vS p4 x.Nest c4) rfl<|yG 4 [] [7] rfl<|bE N λy hy N=>tA (zFr s (x.Nest.length:Int) _ hy h h1 h2 h3) λI0 le=>wM [] [(3,.bool (!y))]<|zK<|xD ?_;obtain rfl:=zE N;exact vH
def mI(n0:Int):Option (Bool):=do
 let y<-wX n0 (-9999) 9999;pure (!y)
theorem zFs:∀n0 r,mI n0=some r->∀{I:Imm} ,RT 122 [vI n0] I [] (zW  r):=by
 intro n0 r N I;unfold mI at N;refine yM func122 λB=>wZ []<|yY<|yG 1 [] [3] rfl<|bE N λy hy N=>tA (vR n0 (-9999) 9999 _ hy ) λI0 le=>wM [] [(2,.bool (!y))]<|zK<|xD ?_;obtain rfl:=zE N;exact vH
def dL(ah:(List Int)):Option (Bool):=do
 let t2<-(do
  if(decide ((ah.length:Int)<=4)) then
   let y<-wD ah mI;pure (!y)
  else
   pure false
    : Option Bool)
 pure (id t2)
theorem zH5:∀ah r,dL ah=some r->∀{I:Imm}{p c},(S4 I p ah c)->RT 82 [vS p ah c] I [] (zW  r):=by
 intro ah r N I p c h;unfold dL at N;refine yM func82 λB=>?_;have H:=iS I;refine wZ []<|zK<|yC ?_;refine vQ N [] (λt2=>[(2,.bool t2)]) (λo0 aA=>?_) ?_
 ·have H:=iS I;refine zL<|yG 4 [] [6] rfl<|wR [6] aA ?_ ?_
  ·intro hc N;refine yG 5 [] [7] rfl ?_;have hf0:FV1 Tryz.prog I [] (.func (.func 122) ⟨[]⟩ ⟨[]⟩) mI:=by
    refine FV1.intro ?_;intro I1 aa x0 r u0 hF k0;obtain rfl:=k0;exact(zFs x0 r hF ).mono (by rintro k i hs u ⟨v0,rfl,rfl,h⟩;exact⟨rfl,h⟩)
   obtain⟨y,hy,N⟩:=zB N;refine xK (qN ah mI _ hy h hf0) ?_;rintro aP ax v2 k2 le - ⟨v0,rfl,rfl,rfl⟩ -;have H:=H.trans le;exact yQ [] [2] rfl<|yZ<|zU (ct N H)
  intro hc N;exact wM [] [(2,vF)]<|yZ<|zU (ct N H)
 intro t2 I0 aa aX;refine zK<|xD ?_;obtain rfl:=zE aX;exact vH
def qD(a0:zD)(n0:Int)(t9:Int):Option (Int):=do
 if(decide (t9<(a0.Dims.length:Int))) then
  let x<-idx a0.Dims t9;qD a0 (W (n0*x)) (W (t9+1))
 else pure (id n0)
 partial_fixpoint
theorem zD7(a0:zD):∀(n0:Int) (t9:Int) (o:Int),qD a0 n0 t9=some o->∀{B}{I0 I:Imm}{Q p c},I0.le I->(S4 I p a0.Dims c)->NG Q->NO Q->(∀I' n01,o=n01->I0.le I'->T 18 B Q (.exit 0) I' [] [(3,vI n01)])->J Tryz.prog 18 B (nav (bodyOf f166) [1,1,0,1,0]) Q I [] [(3,vI n0),(7,vS p a0.Dims c),(8,vI (a0.Dims.length:Int)),(9,vI t9)]:=by
 refine qD.partial_correctness a0 _ λaJ ih n0 t9 o N B I0 I Q p c H h hg ho hx=>yX hg ho<|yK [10] rfl<|yA<|yH N ?_ ?_
 ·intro hc N;refine zT<|yA<|yL<|yD<|bE N λx hy N=>xW rfl rfl h hy ?_;intro ad aN aq am;obtain rfl:=am;exact xM 0 aq [vI x] (vI x) rfl<|yQ [] [5] rfl<|zK<|zL<|yQ [] [3] rfl<|zN<|zK<|zL<|yQ [] [9] rfl<|yV<|nX<|ih (W (n0*x)) (W (t9+1)) _ N H h hg ho hx
 intro hc N;exact wW<|yZ<|hx _ _ (zE N).symm H
def gL(a0:zD):Option (Int):=do
 let n01<-qD a0 1 0;pure (id n01)
theorem zFJ:∀a0 r,gL a0=some r->∀{I:Imm}{p c},(S4 I p a0.Dims c)->RT 166 [vA (cArr a0 p c)] I [] (yP  r):=by
 intro a0 r N I p c h;unfold gL at N;refine yM func166 λB=>yD<|vC (cArr a0 p c) ?_;intro b hb;refine wM [] []<|vM [3] rfl<|yA<|yD<|yQ [0] [7,8,9] rfl<|wN<|qZ (zZ [] (ag:=[]))<|qX [(3,vI 1),(7,vS p a0.Dims c),(8,vI (a0.Dims.length:Int)),(9,vI 0)] ?_;obtain⟨o0,aA,aE⟩:=zB N;refine zD7 a0 1 0 o0 aA iR h nG nO ?_;intro I0 n01 heq le;subst o0;refine zS<|vM [2] rfl<|zK<|xD ?_;obtain rfl:=zE aE;exact vH
def rC(a0:zM)(ah:(List Int))(x:zD)(at0:Int)(t40:Int):Option (Out Int (Int)):=do
 if(decide (t40<(a0.Subs.length:Int))) then
  let x1<-idx a0.Subs t40;let y1<-rB x1 ah;let x2<-idx x.Dims t40;let y2<-wX y1 0 (W (x2 - 1));if(!y2) then pure (.ret (-1))
  else
   let x3<-idx x.Dims t40;rC a0 ah x (W ((W (at0*x3))+y1)) (W (t40+1))
 else pure (.done at0)
 partial_fixpoint
theorem zCc(a0:zM)(ah:(List Int))(x:zD):∀(at0:Int) (t40:Int) (o:Out Int (Int)),rC a0 ah x at0 t40=some o->∀{B}{I0 I:Imm}{Q}{first:Int}{p3 c2 p4 c3 p5 c4}{b2},I0.le I->(S4 I p4 ah c3)->(S4 I p3 a0.Subs c2)->(S4 I p5 x.Dims c4)->NG Q->NO Q->(∀I' at01,o=(.done at01)->I0.le I'->T 71 B Q (.exit 2) I' [] [(7,vI first),(10,vI at01)])->(∀r I' ag m',o=(.ret r)->I0.le I'->RS Tryz.prog f123 B (yP  r) I' ag m'->T 71 B Q .ret I' ag m')->J Tryz.prog 71 B (nav (bodyOf f123) [1,1,0,1,0,0,1,1,0,0,1,1,1,1,0,1,0]) Q I [hB b2 (cArr x p5 c4)] [(2,vS p4 ah c3),(7,vI first),(9,vP b2 0),(10,vI at0),(38,vS p3 a0.Subs c2),(39,vI (a0.Subs.length:Int)),(40,vI t40)]:=by
 refine rC.partial_correctness a0 ah x _ λaJ ih at0 t40 o N B I0 I Q first p3 c2 p4 c3 p5 c4 b2 H h3 h2 h4 hg ho hx hr=>yX hg ho<|yK [41] rfl<|yA<|yH N ?_ ?_
 ·intro bD N;refine zT<|yA<|yL<|yD<|yG 1 [] [42] rfl<|bE N λx1 aG N=>xW rfl rfl h2 aG ?_;intro ad1 bq aw ay;obtain⟨p6,c5,rfl,h6⟩:=yI ay;refine xM 0 aw (cAff x1 p6 c5) (vA (cAff x1 p6 c5)) rfl<|xY [z0,vI 0] ?_;intro b3 hb3;refine yG 5 [] [11] rfl<|xC 0 (cAff x1 p6 c5) rfl<|zY rfl<|yY<|uW 2 [0] [(45,vA (cAff x1 p6 c5)),(46,vS p4 ah c3)]<|bE N λy1 bh N=>dC (jB x1 ah _ bh h6 h3) ?_;intro aP aa;have ⟨h3,h2,h4,H⟩:=m4 aa h3 h2 h4 H;refine yQ [] [13] rfl<|yA<|yD<|yG 4 [1] [48,50,51] rfl<|bE N λx2 bu N=>xW rfl rfl h4 bu ?_;intro ad2 bL bk br;obtain rfl:=br;refine xM 0 bk [vI x2] (vI x2) rfl<|yG 7 [] [54] rfl<|bE N λy2 bC N=>tA (vR y1 0 (W (x2 - 1)) _ bC ) ?_;intro aW aC;have ⟨h3,h2,h4,H⟩:=m4 aC h3 h2 h4 H;refine yQ [] [56] rfl<|zK<|yH N ?_ ?_
  ·intro bJ N;exact yK [6] rfl<|xH<|zJ<|zV<|zJ<|zJ<|hr _ _ _ _ (zE N).symm H ⟨_,_,(resT rfl),zO,⟨_,rfl,rfl,rfl⟩⟩
  intro bJ N;refine zT<|zK<|zL<|yG 4 [1] [57,59,60] rfl<|bE N λx3 hy6 N=>xW rfl rfl h4 hy6 ?_;intro ad3 ccs3 hat3 bB;obtain rfl:=bB;exact xM 0 hat3 [vI x3] (vI x3) rfl<|yQ [] [10] rfl<|zN<|zK<|zL<|yQ [] [40] rfl<|yV<|qZ (zX [1] rfl (by decide))<|nX<|ih (W ((W (at0*x3))+y1)) (W (t40+1)) _ N H h3 h2 h4 hg ho hx hr
 intro bD N;exact wW<|wK zO<|yZ<|hx _ _ (zE N).symm H
def tJ(p:zC)(a0:zM)(ah:(List Int))(first:Int)(t17:Int):Option (Out Unit (Int)):=do
 if(decide (t17<(p.Arrays.length:Int))) then
  let x<-idx p.Arrays t17;if(!(x.Name.l==a0.Array.l)) then
   let y<-gL x;tJ p a0 ah (W (first+y)) (W (t17+1))
  else
   if((a0.Subs.length:Int) != (x.Dims.length:Int)) then pure (.ret (-1))
   else
    match<-rC a0 ah x 0 0 with
    | .ret r0=>pure (.ret r0)
    | .done at01=>
     pure (.ret (W (first+at01)))
 else pure (.done ())
 partial_fixpoint
theorem zCd(p:zC)(a0:zM)(ah:(List Int)):∀(first:Int) (t17:Int) (o:Out Unit (Int)),tJ p a0 ah first t17=some o->∀{B}{I0 I:Imm}{Q p1 c p3 c2 p4 c3}{b1},I0.le I->(S4 I p4 ah c3)->(S4 I p1 p.Arrays c)->(S4 I p3 a0.Subs c2)->NG Q->NO Q->(∀I',o=(.done ())->I0.le I'->T 71 B Q (.exit 0) I' [] [])->(∀r I' ag m',o=(.ret r)->I0.le I'->RS Tryz.prog f123 B (yP  r) I' ag m'->T 71 B Q .ret I' ag m')->J Tryz.prog 71 B (nav (bodyOf f123) [1,1,0,1,0]) Q I [hB b1 (cAccess a0 p3 c2)] [(2,vS p4 ah c3),(4,vP b1 0),(7,vI first),(15,vS p1 p.Arrays c),(16,vI (p.Arrays.length:Int)),(17,vI t17)]:=by
 refine tJ.partial_correctness p a0 ah _ λaJ ih first t17 o N B I0 I Q p1 c p3 c2 p4 c3 b1 H h3 h h2 hg ho hx hr=>yX hg ho<|yK [18] rfl<|yA<|yH N ?_ ?_
 ·intro hc N;refine zT<|yA<|yL<|yD<|bE N λx hy N=>xW rfl rfl h hy ?_;intro ad aN aq am;obtain⟨p5,c4,rfl,h4⟩:=wH am;refine xM 0 aq (cArr x p5 c4) (vA (cArr x p5 c4)) rfl<|xY [vT ([]),z0] ?_;intro b2 hb2;refine xC 0 (cArr x p5 c4) rfl<|zY rfl<|yA<|yD<|yQ [0,1] [25] rfl<|zK<|yH N ?_ ?_
  ·intro aH N;refine yD<|uW 2 [0] [(26,vI first),(27,vA (cArr x p5 c4))]<|bE N λy az N=>dC (zFJ x _ az h4) ?_;intro I0 le;have ⟨h3,h,h2,H⟩:=m4 le h3 h h2 H;exact yQ [] [7] rfl<|zK<|zIH<|dG<|zS<|zK<|zL<|yQ [] [17] rfl<|yV<|qZ (zX [1] rfl (by decide))<|nX<|ih (W (first+y)) (W (t17+1)) _ N H h3 h h2 hg ho hx hr
  intro aH N;refine zT<|yA<|yD<|yQ [1,0] [36] rfl<|zK<|yH N ?_ ?_
  ·intro ba N;exact yK [6] rfl<|xH<|zJ<|zV<|zJ<|zJ<|hr _ _ _ _ (zE N).symm H ⟨_,_,(resT rfl),zO,⟨_,rfl,rfl,rfl⟩⟩
  intro ba N;refine zT<|vM [10] rfl<|yA<|yD<|yQ [1] [38,39,40] rfl<|wN<|qZ (zZ [0] (ag:=[hB b2 (cArr x p5 c4)]))<|qX [(2,vS p4 ah c3),(7,vI first),(9,vP b2 0),(10,vI 0),(38,vS p3 a0.Subs c2),(39,vI (a0.Subs.length:Int)),(40,vI 0)] ?_;obtain⟨o0,aA,aE⟩:=zB N;refine zCc a0 ah x 0 0 o0 aA iR h3 h2 h4 (λ_ _ _ h=>hg _ _ _ h) (λ_ _ h=>ho _ _ h) ?_ ?_
  ·intro bx at01 heq aI;subst o0;have H:=H.trans aI;exact zS<|vM [6] rfl<|xH<|zV<|zJ<|zJ<|hr _ _ _ _ (zE aE).symm H ⟨_,_,(resT rfl),zO,⟨_,rfl,rfl,rfl⟩⟩
  intro r0 I9 hs9 m9 aT le9 aV;subst aT;exact zV<|zJ<|zV<|zJ<|zJ<|hr _ _ _ _ (zE aE).symm (H.trans le9) aV
 intro hc N;exact wW<|wK zO<|yZ<|hx _  (zE N).symm H
def rR(p:zC)(a0:zM)(ah:(List Int)):Option (Int):=do
 match<-tJ p a0 ah 0 0 with
 | .ret r0=>pure r0
 | .done _=>
  pure (-1)
theorem gN:∀p a0 ah r,rR p a0 ah=some r->∀{I:Imm}{p1 c p2 c1 p3 c2 p4 c3},(S4 I p1 p.Arrays c)->(S4 I p2 p.Parts c1)->(S4 I p3 a0.Subs c2)->(S4 I p4 ah c3)->RT 123 [vA (cProg p p1 c p2 c1),vA (cAccess a0 p3 c2),vS p4 ah c3] I [] (yP  r):=by
 intro p a0 ah r N I p1 c p2 c1 p3 c2 p4 c3 h h1 h2 h3;unfold rR at N;refine yM func123 λB=>yD<|vC (cProg p p1 c p2 c1) ?_;intro b hb;refine vC (cAccess a0 p3 c2) ?_;intro b1 hb1;refine wM [] []<|vM [7] rfl<|yA<|yD<|yQ [1] [15,16,17] rfl<|wN<|qZ (zZ [0] (ag:=[hB b1 (cAccess a0 p3 c2)]))<|qX [(2,vS p4 ah c3),(4,vP b1 0),(7,vI 0),(15,vS p1 p.Arrays c),(16,vI (p.Arrays.length:Int)),(17,vI 0)] ?_;obtain⟨aU,aB,hMl1⟩:=zB N;refine zCd p a0 ah 0 0 aU aB iR h3 h h2 nG nO ?_ ?_
 ·intro bG  heq1 aY;subst aU;refine zS<|vM [6] rfl<|zK<|xD ?_;obtain rfl:=zE hMl1;exact vH
 intro r0 I9 hs9 m9 aT le9 aV;subst aT;refine zV<|zJ ?_;obtain rfl:=zE hMl1;exact jW aV
def pW(aD:List HA)(r:Int):KT:=λkk I' ag v=>
 ∃v0,aD=ag/\v=tupV [v0]/\v0=.int .i64 r
def xR(s:(List zM))(f0:(zM->Option Bool))(t8:Int):Option (Out Unit (Int)):=do
 if(decide (t8<(s.length:Int))) then
  let x<-idx s t8;let y<-f0 x;if y then pure (.ret t8)
  else xR s f0 (W (t8+1))
 else pure (.done ())
 partial_fixpoint
theorem gZ(s:(List zM))(f0:(zM->Option Bool)):∀(t8:Int) (o:Out Unit (Int)),xR s f0 t8=some o->∀{B}{I0 I:Imm}{Q p c}{fv:Value}{aD:List HA},I0.le I->(S4 I p s c)->(FV1 Tryz.prog I aD fv f0)->NG Q->NO Q->(∀I',o=(.done ())->I0.le I'->T 19 B Q (.exit 0) I' aD [])->(∀r I' ag m',o=(.ret r)->I0.le I'->RS Tryz.prog f168 B (pW aD r) I' ag m'->T 19 B Q .ret I' ag m')->J Tryz.prog 19 B (nav (bodyOf f168) [1,0,1,0]) Q I aD [(0,vS p s c),(1,fv),(7,vI (s.length:Int)),(8,vI t8)]:=by
 refine xR.partial_correctness s f0 _ λaJ ih t8 o N B I0 I Q p c fv aD H h h1 hg ho hx hr=>yX hg ho<|yK [9] rfl<|yA<|yH N ?_ ?_
 ·intro hc N;refine zT<|yA<|yL<|yK [5] rfl<|yY<|yG 3 [] [11,12,13] rfl<|bE N λx hy N=>xW rfl rfl h hy ?_;intro ad aN aq am;obtain⟨p1,c1,rfl,h2⟩:=rF am;refine xM 0 aq (cAccess x p1 c1) (vA (cAccess x p1 c1)) rfl<|bE N λy az N=>zK3 rfl rfl h1 az ⟨_,rfl,(oG ⟨_,rfl,h2⟩)⟩ (cx _).symm ?_;rintro I0 v01 le rfl;refine wY (ag:=aD) (cx _) ?_;have ⟨h,h1,H⟩:=m3 le h h1 H;refine zY rfl<|zK<|yH N ?_ ?_
  ·intro aH N;exact yK [4] rfl<|xH<|zV<|zJ<|zJ<|hr _ _ _ _ (zE N).symm H ⟨_,_,(resT rfl),(λ_ h=>h),⟨_,rfl,rfl,rfl⟩⟩
  intro aH N;exact zT<|zN<|zK<|zL<|yQ [] [8] rfl<|yV<|nX<|ih (W (t8+1)) _ N H h h1 hg ho hx hr
 intro hc N;exact wW<|yZ<|hx _  (zE N).symm H
def uI(s:(List zM))(f0:(zM->Option Bool)):Option (Int):=do
 match<-xR s f0 0 with
 | .ret r0=>pure r0
 | .done _=>
  pure (-1)
theorem eA:∀s f0 r,uI s f0=some r->∀{I:Imm}{p c}{fv:Value}{aD:List HA},(S4 I p s c)->(FV1 Tryz.prog I aD fv f0)->RT 168 [vS p s c,fv] I aD (pW aD r):=by
 intro s f0 r N I p c fv aD h h1;unfold uI at N;refine yM func168 λB=>wZ []<|yA<|yK [7,8] rfl<|wN<|qX [(0,vS p s c),(1,fv),(7,vI (s.length:Int)),(8,vI 0)] ?_;obtain⟨o0,aA,aE⟩:=zB N;refine gZ s f0 0 o0 aA iR h h1 nG nO ?_ ?_
 ·intro aP  heq aa;subst o0;refine zS<|vM [4] rfl<|zK<|xD ?_;exact xX aE (resT rfl) (λ_ h=>h) ⟨_,rfl,rfl,rfl⟩
 intro r0 I9 hs9 m9 aT le9 aV;subst aT;refine zV<|zJ ?_;obtain rfl:=zE aE;exact jW aV
def jY(aD:List HA)(r:Bool):KT:=λkk I' ag v=>
 ∃v0,aD=ag/\v=tupV [v0]/\v0=.bool r
def wQ(s:(List zM))(f0:(zM->Option Bool)):Option (Bool):=do
 let y<-uI s f0;pure (decide (y>=0))
theorem fA:∀s f0 r,wQ s f0=some r->∀{I:Imm}{p c}{fv:Value}{aD:List HA},(S4 I p s c)->(FV1 Tryz.prog I aD fv f0)->RT 124 [vS p s c,fv] I aD (jY aD r):=by
 intro s f0 r N I p c fv aD h h1;unfold wQ at N;refine yM func124 λB=>wZ []<|yY<|yG 2 [] [5,6] rfl<|bE N λy hy N=>zGb (hs1:=aD) (rest:=[]) rfl rfl rfl rfl (by kernel_rfl) rfl (cx _).symm (eA s f0 _ hy h h1) ?_;rintro I0 ax v2 k2 le - ⟨v0,rfl,rfl,rfl⟩ -;refine wY (ag:=aD) (cx _) ?_;refine yQ [] [4] rfl<|zK<|xD ?_;exact xX N (resT rfl) (λ_ h=>h) ⟨_,rfl,rfl,rfl⟩
def zDZ(r:(List zM)):KT:=λkk I' ag v=>
 ∃v0,ag=[]/\v=tupV [v0]/\SL I' v0 r
mutual
def gO(e0:zH):Option ((List zM)):=do
 if(e0.Kind==3) then pure ([e0.Read]:List zM)
 else
  let aj<-kV (same e0) ([]:List zM) (same 0);pure (id aj)
 partial_fixpoint
def kV(e0:zH)(out:List zM)(t15:Int):Option (List zM):=do
 if(decide (t15<(e0.Kids.length:Int))) then
  let x<-idx e0.Kids t15;let y<-gO (same x);let ar<-app 40 out y;kV (same e0) (same ar) (W (t15+1))
 else pure (id out)
 partial_fixpoint
end
theorem zI2:(∀(e0:zH) r,gO e0=some r->∀{I:Imm}{p c p1 c1 p2 c2},(S4 I p e0.Index.Coefs c)->(S4 I p1 e0.Read.Subs c1)->(S4 I p2 e0.Kids c2)->RT 125 [vA (cExpr e0 p c p1 c1 p2 c2)] I [] (zDZ  r))/\(∀(e0:zH) (out:List zM) (t15:Int) o,kV e0 out t15=some o->∀{B}{I0 I:Imm}{Q p2 c2 p3 c3 cs},I0.le I->(S4 I p2 e0.Kids c2)->(RL I cs out)->NG Q->NO Q->(∀I' aj p4 c4 au,o=aj->I0.le I'->(RL I' au aj)->T 25 B Q (.exit 0) I' [hO zM (vS p4 aj c4) au] [(3,vS p4 aj c4)])->J Tryz.prog 25 B (nav (bodyOf f125) [1,1,1,0,1,0]) Q I [hO zM (vS p3 out c3) cs] [(3,vS p3 out c3),(13,vS p2 e0.Kids c2),(14,vI (e0.Kids.length:Int)),(15,vI t15)]):=by
 refine gO.mutual_partial_correctness _ _ ?_ ?_
 ·intro F_impl_reads_l1 ih_impl_reads_l1 e0 r N I p c p1 c1 p2 c2 h h1 h2;refine yM func125 λB=>yD<|vC (cExpr e0 p c p1 c1 p2 c2) ?_;intro b hb;refine wM [] []<|yA<|yD<|yQ [0] [8] rfl<|zK<|yH N ?_ ?_
  ·intro hc N;refine yD<|uW 2 [0] [(10,vA (cAccess e0.Read p1 c1))]<|uX (cAccess e0.Read p1 c1) zM ?_;intro b1 hb1;have h3:RL I (cAccess e0.Read p1 c1) ([e0.Read]:List zM):=⟨(cAccess e0.Read p1 c1),_,rfl,rfl,(oG ⟨_,rfl,h1⟩),rfl⟩;refine yQ [] [2] rfl<|xH<|zJ<|xB 0 rfl ?_;intro I0 le hl0;have h4:=SL.of_frozen hl0 le h3;exact xX N (resT rfl) zO ⟨_,rfl,rfl,h4⟩
  intro hc N;refine zT<|zE3 [(3,z0)]<|yA<|yD<|yQ [0] [13,14,15] rfl<|wN<|qZ (zZ [] (ag:=[]))<|qX [(3,z0),(13,vS p2 e0.Kids c2),(14,vI (e0.Kids.length:Int)),(15,vI 0)]<|zA6 zM λh5=>?_;obtain⟨o0,aA,aE⟩:=zB N;refine ih_impl_reads_l1 e0 ([]:List zM) 0 o0 aA iR h2 h5 nG nO ?_;intro aW aj p4 c4 au heq aC h7;subst o0;refine zS<|vM [2] rfl<|xH<|xB 0 rfl ?_;intro bx aI hl01;have h13:=SL.of_frozen hl01 aI h7;exact xX aE (resT rfl) zO ⟨_,rfl,rfl,h13⟩
 intro F_impl_reads F_impl_reads_l1 ih_impl_reads ih_impl_reads_l1 e0 out t15 o N B I0 I Q p2 c2 p3 c3 cs H h2 h6 hg ho hx;refine yX hg ho<|yK [16] rfl<|yA<|yH N ?_ ?_
 ·intro aH N;refine zT<|yA<|yL<|yD<|bE N λx hy N=>xW rfl rfl h2 hy ?_;intro ad aN aq am;obtain⟨p5,c5,p6,c6,p7,c7,rfl,h8,h9,h10⟩:=wT am;refine xM 0 aq (cExpr x p5 c5 p6 c6 p7 c7) (vA (cExpr x p5 c5 p6 c6 p7 c7)) rfl<|xY zExpr ?_;intro b2 hb2;refine xC 0 (cExpr x p5 c5 p6 c6 p7 c7) rfl<|zY rfl<|zK<|zL<|uW 2 [0] [(19,vS p3 out c3),(20,vA (cExpr x p5 c5 p6 c6 p7 c7))]<|bE N λy az N=>xK (ih_impl_reads x _ az h8 h9 h10) ?_;rintro aP ax v2 k2 aa - ⟨v03,rfl,rfl,h11⟩ -;have ⟨h2,h6,H⟩:=m3 aa h2 h6 H;obtain⟨p8,c8,rfl⟩:=h11.form;obtain⟨bq,k0,k01⟩:=h11;have h11:SL aP (vS p8 y c8) y:=⟨_,k0,k01⟩;obtain⟨ar,aG,N⟩:=zB N;exact sW 93 2 1 rfl rfl rfl h6 (.inl k0) k01 aG λp9 c9 aR h12=>tX (zZ [0,1] (ag:=[hB b2 (cExpr x p5 c5 p6 c6 p7 c7),hO zM (vS p9 ar c9) aR]))<|yQ [] [3] rfl<|zN<|zK<|zL<|yQ [] [15] rfl<|yV<|qZ (zX [1] rfl (by decide))<|nX<|ih_impl_reads_l1 e0 ar (W (t15+1)) _ N H h2 h12 hg ho hx
 intro aH N;exact wW<|yZ<|hx _ _ _ _ _ (zE N).symm H h6
theorem zEs:∀e0 r,gO e0=some r->∀{I:Imm}{p c p1 c1 p2 c2},(S4 I p e0.Index.Coefs c)->(S4 I p1 e0.Read.Subs c1)->(S4 I p2 e0.Kids c2)->RT 125 [vA (cExpr e0 p c p1 c1 p2 c2)] I [] (zDZ  r):=zI2.1
def sD(a0:zM)(x:zC)(x1:(List Int)):Option (Bool):=do
 let y<-rR x a0 x1;pure (decide (y<0))
theorem zCV:∀a0 x x1 r,sD a0 x x1=some r->∀{I:Imm}{p c}{ad:Addr}{p1 c1 p2 c2}{ad1:Addr}{p3 c3},(S4 I p a0.Subs c)->(S4 I p1 x.Arrays c1)->(S4 I p2 x.Parts c2)->(At I ad (cProg x p1 c1 p2 c2))->(S4 I p3 x1 c3)->(At I ad1 [vS p3 x1 c3])->RT 126 [vA (cAccess a0 p c),.pointer (some ad),.pointer (some ad1)] I [] (zW  r):=by
 intro a0 x x1 r N I p c ad p1 c1 p2 c2 ad1 p3 c3 h h1 h2 aq h3 aw;unfold sD at N;refine yM func126 λB=>yD<|vC (cAccess a0 p c) ?_;intro b hb;refine wM [] []<|yY<|xM 0 aq (cProg x p1 c1 p2 c2) (vA (cProg x p1 c1 p2 c2)) rfl<|uW 2 [0] [(6,vA (cAccess a0 p c))]<|xM 0 aw [vS p3 x1 c3] (vS p3 x1 c3) rfl<|bE N λy hy N=>dC (gN x a0 x1 _ hy h1 h2 h h3) λI0 le=>wM [] [(4,.bool (decide (y<0)))]<|zK<|xD ?_;obtain rfl:=zE N;exact vH
def nY(p:zC)(s:zI)(ah:(List Int)):Option (Bool):=do
 let t6<-(do
  let y<-rR p s.Write ah;if(decide (y>=0)) then
   let y1<-gO s.Value;let y2<-wQ y1 (λx0=>sD x0 p ah);pure (!y2)
  else
   pure false
    : Option Bool)
 pure (id t6)
theorem zDD:∀p s ah r,nY p s ah=some r->∀{I:Imm}{p1 c p2 c1 p3 c2 p4 c3 p5 c4 p6 c5 p7 c6},(S4 I p1 p.Arrays c)->(S4 I p2 p.Parts c1)->(S4 I p3 s.Write.Subs c2)->(S4 I p4 s.Value.Index.Coefs c3)->(S4 I p5 s.Value.Read.Subs c4)->(S4 I p6 s.Value.Kids c5)->(S4 I p7 ah c6)->RT 83 [vA (cProg p p1 c p2 c1),vA (cStmt s p3 c2 p4 c3 p5 c4 p6 c5),vS p7 ah c6] I [] (zW  r):=by
 intro p s ah r N I p1 c p2 c1 p3 c2 p4 c3 p5 c4 p6 c5 p7 c6 h h1 h2 h3 h4 h5 h6;unfold nY at N;refine yM func83 λB=>?_;have H:=iS I;refine yD<|vC (cProg p p1 c p2 c1) ?_;intro b hb;refine xV 0 rfl ?_;intro I0 le hl0;have aq:At I0 ⟨b,0,none⟩ (cProg p p1 c p2 c1):=At.of_blk hl0;have ⟨h,h1,h2,h3,h4,h5⟩:=m6 le h h1 h2 h3 h4 h5;have ⟨h6,H⟩:=m2 le h6 H;refine vC (cStmt s p3 c2 p4 c3 p5 c4 p6 c5) ?_;intro b1 hb1;refine vC [vS p7 ah c6] ?_;intro b2 hb2;refine xV 0 rfl ?_;intro aP aa hl01;have aw:At aP ⟨b2,0,none⟩ [vS p7 ah c6]:=At.of_blk hl01;have ⟨h,h1,h2,h3,h4,h5⟩:=m6 aa h h1 h2 h3 h4 h5;have ⟨h6,aq,H⟩:=m3 aa h6 aq H;refine wM [] []<|zK<|yC ?_;refine vQ N [] (λt6=>[(6,.bool t6)]) (λo0 aA=>?_) ?_
 ·have H:=iS aP;refine zL<|xM 0 aq (cProg p p1 c p2 c1) (vA (cProg p p1 c p2 c1)) rfl<|uW 3 [0] [(9,vA (cAccess s.Write p3 c2))]<|xM 0 aw [vS p7 ah c6] (vS p7 ah c6) rfl ?_;obtain⟨y,hy,N⟩:=zB aA;refine dC (gN p s.Write ah _ hy h h1 h2 h6) ?_;intro bx aC;have ⟨h,h1,aq,h6,aw,h3⟩:=m6 aC h h1 aq h6 aw h3;have ⟨h4,h5,H⟩:=m3 aC h4 h5 H;refine yG 7 [] [13] rfl<|wR [13] N ?_ ?_
  ·intro hc N;refine uW 9 [0] [(15,vA (cExpr s.Value p4 c3 p5 c4 p6 c5))]<|bE N λy1 az N=>xK (zEs s.Value _ az h3 h4 h5) ?_;rintro bG ax v2 k2 aI - ⟨v01,rfl,rfl,h8⟩ -;have ⟨h,h1,aq,h6,aw,H⟩:=m6 aI h h1 aq h6 aw H;obtain⟨p8,c7,rfl⟩:=h8.form;refine yG 11 [] [17] rfl ?_;have hf0:FV1 Tryz.prog bG [] (.func (.func 126) ⟨[]⟩ ⟨[vP b 0,vP b2 0]⟩) (λx0=>sD x0 p ah):=by
    refine FV1.intro ?_;intro I1 aa x0 r u0 hF k0;obtain⟨_,rfl,k0⟩:=k0;obtain⟨p9,c8,rfl,h9⟩:=rF k0;exact(zCV x0 p ah r hF h9 (h.mono aa) (h1.mono aa) (aq.mono aa) (h6.mono aa) (aw.mono aa)).mono (by rintro k i hs u ⟨v0,rfl,rfl,h⟩;exact⟨rfl,h⟩)
   obtain⟨y2,aG,N⟩:=zB N;refine xK (fA y1 (λx0=>sD x0 p ah) _ aG h8 hf0) ?_;rintro bK ax v2 k2 aY - ⟨v03,rfl,rfl,rfl⟩ -;have H:=H.trans aY;exact yQ [] [6] rfl<|wK zO<|yZ<|zU (ct N H)
  intro hc N;exact wM [] [(6,vF)]<|wK zO<|yZ<|zU (ct N H)
 intro t6 aW bo aX;refine zK<|xD ?_;obtain rfl:=zE aX;exact vH
end Go.LN
