/- Helper of the proof (see the last text). -/
import Derived.Test.YtndncjnhabjnbaaGreatLnN
import Derived.Test.YtndncjnhabjnbaaGreatLnZ1
import Derived.Test.YtndncjnhabjnbaaGreatLnU5
import Derived.Test.YtndncjnhabjnbaaGreatTryzShelf
set_option linter.unusedVariables false
set_option linter.unusedSimpArgs false
namespace Go.LN
open Go.Proofs Go.Proofs.Tryz
set_option maxRecDepth 20000
abbrev eS{α:Type}[Rp α](l:List α):Imm->Value->List HA->Prop:=λI' v hx=>∃p c,v=vS p l c/\hx=[]/\S4 I' p l c
abbrev ePExpr(x:zI):Imm->Value->List HA->Prop:=λI' v hx=>∃ad p0 c0 p1 c1 p2 c2,v=.pointer (some ad)/\hx=[]/\At I' ad (cExpr x p0 c0 p1 c1 p2 c2)/\S4 I' p0 x.Index.Coefs c0/\S4 I' p1 x.Read.Subs c1/\S4 I' p2 x.Kids c2
abbrev eQExpr(k:Nat)(x:zI):Imm->Value->List HA->Prop:=λI' v hx=>∃ad p0 c0 p1 c1 p2 c2,v=.pointer (some (ad.add k))/\hx=[]/\At I' ad (cExpr x p0 c0 p1 c1 p2 c2)/\S4 I' p0 x.Index.Coefs c0/\S4 I' p1 x.Read.Subs c1/\S4 I' p2 x.Kids c2
abbrev eVExpr(x:zI):Imm->Value->List HA->Prop:=λI' v hx=>∃p0 c0 p1 c1 p2 c2,v=vA (cExpr x p0 c0 p1 c1 p2 c2)/\hx=[]/\S4 I' p0 x.Index.Coefs c0/\S4 I' p1 x.Read.Subs c1/\S4 I' p2 x.Kids c2
abbrev ePStmt(x:zP):Imm->Value->List HA->Prop:=λI' v hx=>∃ad p0 c0 p1 c1 p2 c2 p3 c3,v=.pointer (some ad)/\hx=[]/\At I' ad (cStmt x p0 c0 p1 c1 p2 c2 p3 c3)/\S4 I' p0 x.Write.Subs c0/\S4 I' p1 x.Value.Index.Coefs c1/\S4 I' p2 x.Value.Read.Subs c2/\S4 I' p3 x.Value.Kids c3
abbrev eVStmt(x:zP):Imm->Value->List HA->Prop:=λI' v hx=>∃p0 c0 p1 c1 p2 c2 p3 c3,v=vA (cStmt x p0 c0 p1 c1 p2 c2 p3 c3)/\hx=[]/\S4 I' p0 x.Write.Subs c0/\S4 I' p1 x.Value.Index.Coefs c1/\S4 I' p2 x.Value.Read.Subs c2/\S4 I' p3 x.Value.Kids c3
abbrev ePAff(x:zA):Imm->Value->List HA->Prop:=λI' v hx=>∃ad p0 c0,v=.pointer (some ad)/\hx=[]/\At I' ad (cAff x p0 c0)/\S4 I' p0 x.Coefs c0
abbrev eVAff(x:zA):Imm->Value->List HA->Prop:=λI' v hx=>∃p0 c0,v=vA (cAff x p0 c0)/\hx=[]/\S4 I' p0 x.Coefs c0
abbrev ePArr(x:zF):Imm->Value->List HA->Prop:=λI' v hx=>∃ad p0 c0,v=.pointer (some ad)/\hx=[]/\At I' ad (cArr x p0 c0)/\S4 I' p0 x.Dims c0
abbrev eQArr(k:Nat)(x:zF):Imm->Value->List HA->Prop:=λI' v hx=>∃ad p0 c0,v=.pointer (some (ad.add k))/\hx=[]/\At I' ad (cArr x p0 c0)/\S4 I' p0 x.Dims c0
abbrev eVArr(x:zF):Imm->Value->List HA->Prop:=λI' v hx=>∃p0 c0,v=vA (cArr x p0 c0)/\hx=[]/\S4 I' p0 x.Dims c0
abbrev ePInst(x:zN):Imm->Value->List HA->Prop:=λI' v hx=>∃ad p0 c0,v=.pointer (some ad)/\hx=[]/\At I' ad (cInst x p0 c0)/\S4 I' p0 x.Point c0
abbrev eQInst(k:Nat)(x:zN):Imm->Value->List HA->Prop:=λI' v hx=>∃ad p0 c0,v=.pointer (some (ad.add k))/\hx=[]/\At I' ad (cInst x p0 c0)/\S4 I' p0 x.Point c0
abbrev eVInst(x:zN):Imm->Value->List HA->Prop:=λI' v hx=>∃p0 c0,v=vA (cInst x p0 c0)/\hx=[]/\S4 I' p0 x.Point c0
abbrev ePPart(x:zQ):Imm->Value->List HA->Prop:=λI' v hx=>∃ad p0 c0 p1 c1,v=.pointer (some ad)/\hx=[]/\At I' ad (cPart x p0 c0 p1 c1)/\S4 I' p0 x.Nest c0/\S4 I' p1 x.Body c1
abbrev eQPart(k:Nat)(x:zQ):Imm->Value->List HA->Prop:=λI' v hx=>∃ad p0 c0 p1 c1,v=.pointer (some (ad.add k))/\hx=[]/\At I' ad (cPart x p0 c0 p1 c1)/\S4 I' p0 x.Nest c0/\S4 I' p1 x.Body c1
abbrev eVPart(x:zQ):Imm->Value->List HA->Prop:=λI' v hx=>∃p0 c0 p1 c1,v=vA (cPart x p0 c0 p1 c1)/\hx=[]/\S4 I' p0 x.Nest c0/\S4 I' p1 x.Body c1
abbrev ePLoop(x:zE):Imm->Value->List HA->Prop:=λI' v hx=>∃ad p0 c0 p1 c1,v=.pointer (some ad)/\hx=[]/\At I' ad (cLoop x p0 c0 p1 c1)/\S4 I' p0 x.Lo c0/\S4 I' p1 x.Hi c1
abbrev eQLoop(k:Nat)(x:zE):Imm->Value->List HA->Prop:=λI' v hx=>∃ad p0 c0 p1 c1,v=.pointer (some (ad.add k))/\hx=[]/\At I' ad (cLoop x p0 c0 p1 c1)/\S4 I' p0 x.Lo c0/\S4 I' p1 x.Hi c1
abbrev eVLoop(x:zE):Imm->Value->List HA->Prop:=λI' v hx=>∃p0 c0 p1 c1,v=vA (cLoop x p0 c0 p1 c1)/\hx=[]/\S4 I' p0 x.Lo c0/\S4 I' p1 x.Hi c1
abbrev eVAccess(x:zK):Imm->Value->List HA->Prop:=λI' v hx=>∃p0 c0,v=vA (cAccess x p0 c0)/\hx=[]/\S4 I' p0 x.Subs c0
abbrev qL0:List UInt8:=[112,114,111,103,114,97,109,10]
abbrev qL1:List UInt8:=[65,91,105,93,61,40,65,91,105,93,43,123,105,125,41]
abbrev qL2:List UInt8:=[112,97,114,116,10,102,111,114,32,48,32,51,10,102,111,114,32,48,32,52,10,66,91,105,44,106,93,61,40,66,91,105,44,106,93,43,123,50,42,105,43,106,125,41,10]
abbrev qL3:List UInt8:=[112,97,114,116,10,102,111,114,32,48,32,51,10,102,111,114,32,48,32,52,10,66,91,105,44,106,43,49,93,61,40,66,91,105,44,106,93,43,49,41,10]
abbrev qL4:List UInt8:=[112,97,114,116,10,102,111,114,32,48,32,51,10,102,111,114,32,49,32,52,10,66,91,105,43,49,44,106,45,49,93,61,40,66,91,105,44,106,93,42,50,41,10]
abbrev qL5:List UInt8:=[112,97,114,116,10,102,111,114,32,48,32,51,10,102,111,114,32,49,32,53,10,66,91,105,43,49,44,106,93,61,40,66,91,105,44,106,45,49,93,43,66,91,105,44,106,93,41,10,65,91,105,93,61,123,106,125,10]
abbrev qL6:List UInt8:=[112,97,114,116,10,102,111,114,32,48,32,52,10,65,91,105,93,61,40,123,105,125,42,50,41,10,112,97,114,116,10,102,111,114,32,48,32,52,10,65,91,105,43,49,93,61,40,65,91,105,93,43,67,91,48,93,41,10]
abbrev qL7:List UInt8:=[112,97,114,116,10,102,111,114,32,48,32,53,10,65,91,105,93,61,40,65,91,105,93,43,51,41,10,66,91,48,44,105,93,61,65,91,105,93,10]
abbrev qL8:List UInt8:=[112,97,114,116,10,102,111,114,32,48,32,51,10,102,111,114,32,48,32,51,10,67,91,105,93,61,40,67,91,105,93,43,66,91,105,44,106,93,41,10,112,97,114,116,10,102,111,114,32,48,32,51,10,102,111,114,32,48,32,51,10,65,91,106,93,61,40,65,91,106,93,45,66,91,106,44,105,93,41,10]
abbrev qL9:List UInt8:=[112,97,114,116,10,102,111,114,32,48,32,52,10,102,111,114,32,48,32,105,43,49,10,66,91,105,44,106,93,61,40,65,91,106,93,42,67,91,48,93,41,10]
abbrev qL10:List UInt8:=[112,114,111,103,114,97,109,10,97,114,114,97,121,32,65,32,54,10,97,114,114,97,121,32,66,32,52,32,53,10,97,114,114,97,121,32,67,32,51,10]
abbrev qL11:List UInt8:=[112,97,114,116,10,102,111,114,32,48,32,51,10,102,111,114,32,48,32,52,10,67,91,105,93,61,40,67,91,105,93,43,66,91,105,44,106,93,41,10]
abbrev qL12:List UInt8:=[112,97,114,116,10,102,111,114,32,48,32,52,10,65,91,48,93,61,40,65,91,48,93,45,123,105,125,41,10,67,91,48,93,61,65,91,48,93,10]
abbrev qL13:List UInt8:=[112,97,114,116,10,102,111,114,32,48,32,51,10,102,111,114,32,48,32,51,10,65,91,105,43,106,93,61,40,65,91,105,43,106,93,43,123,50,42,105,43,106,125,41,10,112,97,114,116,10,102,111,114,32,48,32,53,10,65,91,105,93,61,40,65,91,105,93,45,67,91,48,93,41,10]
abbrev qL14:List UInt8:=[112,97,114,116,10,102,111,114,32,48,32,52,10,65,91,49,93,61,40,65,91,49,93,42,123,105,43,50,125,41,10,65,91,50,93,61,40,65,91,50,93,43,65,91,49,93,41,10]
instance {i j:Imm}{al:List Raw2}{parts:List zQ}{vN vB:Value}{nl:List zE}{bl:List zP}:Mo (LP i al parts vN nl vB bl) i j (LP j al parts vN nl vB bl):=⟨λh x=>x.mono h⟩
abbrev RT:=Ret Tryz.prog
def nI(r:(List Int)):KT:=λkk I' ag v=>
 ∃v0,ag=[]/\v=tupV [v0]/\SL I' v0 r
def nJ(deps:(List zR))(t13:Int)(aL:List Int)(t18:Int):Option (List Int):=do
 if(decide (t18<(deps.length:Int))) then
  let x<-idx deps t18;let out5<-(do
   if(x.To==t13) then
    let x1<-idx aL t13;let x2<-idx aL x.From;let x3<-idx aL t13;let l<-pure (aL.set t13.toNat (if(W (x2+1))>x1 then(W (x2+1)) else x1));pure (id l)
   else
    pure (id aL)
     : Option (List Int))
  nJ deps t13 out5 (W (t18+1))
 else pure (id aL)
 partial_fixpoint
theorem zF6(deps:(List zR))(t13:Int):∀(aL:List Int) (t18:Int) (o:List Int),nJ deps t13 aL t18=some o->∀{B}{I0 I:Imm}{Q}{out:List Int}{p c p3 c3 aU},I0.le I->(S4 I p deps c)->(RL I aU aL)->NG Q->NO Q->(∀I' br p4 c4 bv,o=br->I0.le I'->(RL I' bv br)->T 43 B Q (.exit 2) I' [hO Int (vS p4 br c4) bv] [(0,vS p deps c),(5,vS p4 br c4),(12,vI (out.length:Int)),(13,vI t13)])->J Tryz.prog 43 B (nav (bodyOf f24) [1,1,0,1,0,0,1,1,0,0,1,1,0]) Q I [hO Int (vS p3 aL c3) aU] [(0,vS p deps c),(5,vS p3 aL c3),(6,vI t13),(12,vI (out.length:Int)),(13,vI t13),(16,vS p deps c),(17,vI (deps.length:Int)),(18,vI t18)]:=by
 refine nJ.partial_correctness deps t13 _ λaI ih aL t18 o N B I0 I Q out p c p3 c3 aU H h h4 hg ho hx=>yV hg ho<|yH [19] rfl<|zZ<|yE N ?_ ?_
 ·intro aE N;refine zT<|zZ<|yI<|yF<|bE N λx ay N=>xK rfl rfl h ay ?_;intro ad aN ap ak;obtain rfl:=rJ ak;refine xA 0 ap [vI x.From,vI x.To,vI x.Kinds] (vA [vI x.From,vI x.To,vI x.Kinds]) rfl<|wI [vI 0,vI 0,vI 0] ?_;intro b1 hb;refine xI 0 [vI x.From,vI x.To,vI x.Kinds] rfl<|yA rfl<|yW<|yK [0] [25] rfl<|zG ?_;obtain⟨o0,aA,aQ⟩:=zB N;refine qQ (λI' ag m'=>∃(out5:List Int) (p5:Option Addr) (c5:Nat) (bH:List Value),o0=out5/\I.le I'/\(RL I' bH out5)/\ag=[hO Int (vS p5 out5 c5) bH]/\m'=[(0,vS p deps c),(5,vS p5 out5 c5),(6,vI t13),(12,vI (out.length:Int)),(13,vI t13),(16,vS p deps c),(17,vI (deps.length:Int)),(18,vI t18)]) ?_ ?_
  ·have H:=iS I;refine yE aA ?_ ?_
   ·intro aV N;obtain⟨x1,aF,N⟩:=zB N;obtain⟨x2,aX,N⟩:=zB N;refine wA [.p (vS p3 aL c3) [],.p (vI t13) [],.p (vS p3 aL c3) [],.p (vI t13) [],.x (λI' v hx=>∃ad1,v=.pointer (some ad1)/\hx=[]/\(AtO (vS p3 aL c3) (Rp.sz Int) t13.toNat ad1)/\((aU.drop (t13.toNat*Rp.sz Int)).take (Rp.sz Int)=[vI x1])),.q (vI x1),.p (vS p3 aL c3) [],.p (vP b1 0) [],.p (vI x.From) [0],.x (λI' v hx=>∃ad2,v=.pointer (some ad2)/\hx=[]/\(AtO (vS p3 aL c3) (Rp.sz Int) x.From.toNat ad2)/\((aU.drop (x.From.toNat*Rp.sz Int)).take (Rp.sz Int)=[vI x2])),.q (vI x2),.p (vI (W (x2+1))) [],.p (vI (if(W (x2+1))>x1 then(W (x2+1)) else x1)) []] [[],[],[],[],[(2,false),(3,false)],[(4,false)],[],[],[(7,false)],[(6,false),(8,false)],[(9,false)],[(10,false)],[(5,false),(11,false)]] [hB b1 [vI x.From,vI x.To,vI x.Kinds],hO Int (vS p3 aL c3) aU] [] [(0,false),(1,false),(12,false)] (zY [0,1]) ?_ ?_
    ·refine O4<|Ox ?_<|Oq ?_<|O3<|Ox ?_<|Oq ?_<|O2<|On
     ·intro I1 hf aa;refine yP [28,29] rfl ?_;have h4:=iM aa h4;refine pF 1 rfl rfl rfl h4 aF ?_;intro ad1 bm ar bJ au;obtain rfl:=au;exact yM [] iR ⟨_,rfl,rfl,ar,bJ⟩
     ·rintro I1 hf aa _ _ ⟨ad1,rfl,rfl,ar,bJ⟩;exact yP [30] rfl<|zBt 1 0 ar bJ [vI x1] (vI x1) rfl rfl<|yR iR
     ·intro I1 hf aa;refine yP [32,34] rfl ?_;have h4:=iM aa h4;refine pF 1 rfl rfl rfl h4 aX ?_;intro ad2 bO aS hcc1 aZ;obtain rfl:=aZ;exact yM [] iR ⟨_,rfl,rfl,aS,hcc1⟩
     rintro I1 hf aa _ _ ⟨ad2,rfl,rfl,aS,hcc1⟩;exact yP [35] rfl<|zBt 1 0 aS hcc1 [vI x2] (vI x2) rfl rfl<|yR iR
    intro aT le;refine yP [0,5,6,12,13,16,17,18,26,27,38] rfl ?_;have ⟨h4,H⟩:=m2 le h4 H;obtain⟨x3,bk,N⟩:=zB N;refine pF 1 rfl rfl rfl h4 bk ?_;intro ad3 ccs3 hat3 hcc2 bB;obtain rfl:=bB;obtain⟨l,bC,N⟩:=zB N;refine zGm 1 0 hat3 hcc2 h4 bk bC rfl ?_;intro cs6 h7 hl0;rw[vE hl0];exact yA rfl<|xW (zX [1] rfl (by decide))<|yS<|zV ⟨_,_,_,_,(zD N).symm,H,h7,rfl,rfl⟩
   intro aV N;exact zT<|xW (zX [1] rfl (by decide))<|yS<|zV ⟨_,_,_,_,(zD N).symm,H,h4,rfl,rfl⟩
  rintro I0 av m2 ⟨out5,p5,c5,bH,heq,aa,h6,rfl,rfl⟩;subst o0;have ⟨h,H⟩:=m2 aa h H;exact zL<|zG<|zJ<|yK [] [18] rfl<|yU<|nD<|ih out5 (W (t18+1)) _ aQ H h h6 hg ho hx
 intro aE N;exact wM<|yS<|hx _ _ _ _ _ (zD N).symm H h4
def rM(deps:(List zR))(out:List Int)(aj:List Int)(t13:Int):Option (List Int):=do
 if(decide (t13<(out.length:Int))) then
  let br<-nJ deps t13 aj 0;rM deps out br (W (t13+1))
 else pure (id aj)
 partial_fixpoint
theorem zF7(deps:(List zR))(out:List Int):∀(aj:List Int) (t13:Int) (o:List Int),rM deps out aj t13=some o->∀{B}{I0 I:Imm}{Q p c p1 c1 az},I0.le I->(S4 I p deps c)->(RL I az aj)->NG Q->NO Q->(∀I' aq p2 c2 aM,o=aq->I0.le I'->(RL I' aM aq)->T 43 B Q (.exit 0) I' [hO Int (vS p2 aq c2) aM] [(5,vS p2 aq c2)])->J Tryz.prog 43 B (nav (bodyOf f24) [1,1,0,1,0]) Q I [hO Int (vS p1 aj c1) az] [(0,vS p deps c),(5,vS p1 aj c1),(12,vI (out.length:Int)),(13,vI t13)]:=by
 refine rM.partial_correctness deps out _ λaI ih aj t13 o N B I0 I Q p c p1 c1 az H h h2 hg ho hx=>yV hg ho<|yH [14] rfl<|zZ<|yE N ?_ ?_
 ·intro hc N;refine zT<|zZ<|yI<|yH [6] rfl<|wV [16,17,18] rfl<|xY<|pE [(0,vS p deps c),(5,vS p1 aj c1),(6,vI t13),(12,vI (out.length:Int)),(13,vI t13),(16,vS p deps c),(17,vI (deps.length:Int)),(18,vI 0)] ?_;obtain⟨aO,aB,aG⟩:=zB N;refine zF6 deps t13 aj 0 aO aB iR h h2 (λ_ _ _ h=>hg _ _ _ h) (λ_ _ h=>ho _ _ h) ?_;intro aP br p4 c4 bv heq1 aD h5;subst aO;have ⟨h,H⟩:=m2 aD h H;exact zS<|zL<|zG<|zJ<|yK [] [13] rfl<|yU<|nD<|ih br (W (t13+1)) _ aG H h h5 hg ho hx
 intro hc N;exact wM<|yS<|hx _ _ _ _ _ (zD N).symm H h2
def zAE(deps:(List zR))(many:Int):Option ((List Int)):=do
 let out<-mkrow 8 many (0:Int);let aq<-rM deps out out 0;pure (id aq)
theorem zI6:∀deps many r,zAE deps many=some r->∀{I:Imm}{p c},(S4 I p deps c)->RT 24 [vS p deps c,vI many] I [] (nI  r):=by
 intro deps many r N I p c h;unfold zAE at N;refine yL func24 λB=>wL []<|yW<|yG 1 [] [9] rfl<|bE N λout hy N=>zNM 8 [vI 0] rfl hy rfl λb cs h1=>yK [] [5] rfl<|zZ<|yH [12,13] rfl<|xY<|pE [(0,vS p deps c),(5,vS (some ⟨b,0,none⟩) out out.length),(12,vI (out.length:Int)),(13,vI 0)] ?_;obtain⟨o02,ho02,hMl1⟩:=zB N;refine zF7 deps out out 0 o02 ho02 iR h h1 nG nO ?_;intro bx aq p2 c2 aM heq2 aH h3;subst o02;refine zS<|wV [4] rfl<|xD<|yZ 0 rfl ?_;intro bI bf hl01;have h8:=SL.of_frozen hl01 bf h3;exact xU hMl1 (resT rfl) zM ⟨_,rfl,rfl,h8⟩
def zU(r:Bool):KT:=λkk I' ag v=>
 ∃v0,ag=[]/\v=tupV [v0]/\v0=.bool r
def wR(n0:Int)(low:Int)(high:Int):Option (Bool):=do
 let t6<-(do
  if(decide (low<=n0)) then pure (decide (n0<=high))
  else
   pure false
    : Option Bool)
 pure (id t6)
theorem vM:∀n0 low high r,wR n0 low high=some r->∀{I:Imm} ,RT 28 [vI n0,vI low,vI high] I [] (zU  r):=by
 intro n0 low high r N I;unfold wR at N;refine yL func28 λB=>?_;have H:=iS I;refine wL []<|zG<|yB ?_;refine wK N [] (λt6=>[(6,.bool t6)]) (λo0 aA=>?_) ?_
 ·have H:=iS I;refine zJ<|yG 4 [] [10] rfl<|xZ [10] aA ?_ ?_
  ·intro hc N;exact yK [] [6] rfl<|yS<|zV (ct N H)
  intro hc N;exact wB [] [(6,vF)]<|yS<|zV (ct N H)
 intro t6 I0 le aQ;refine zG<|yX ?_;obtain rfl:=zD aQ;exact wC
def fR(s:Str)(substr:Str):Option Bool:=match substr.l with|[c]=>some (decide (0<=Lib.indexByte s.l c))|_=>none
theorem zEQ:∀(s substr:Str) r,fR s substr=some r->∀{I:Imm},RT 121 [vT s.l,vT substr.l] I [] (zU r):=by
 intro s substr r N I;unfold fR at N;split at N
 ·rename_i c hc;cases N
  rw[hc];exact zNN (λw g=>(Tryz.strings_Contains_one ⟨⟨s.l⟩⟩ c w).mono λe w' ⟨h1,h2⟩=>⟨h1,h2 ▸ RowKit.Below.refl _ _,Nat.le_of_eq (by rw[h2])⟩) λk=>⟨_,rfl,rfl,rfl⟩
 cases N
def gY(s:Str):Option (Bool):=do
 let t2<-(do
  if((s.l.length:Int)==1) then
   let y<-fR (⟨[65,66,67,68]⟩:Str) s;pure (id y)
  else
   pure false
    : Option Bool)
 pure (id t2)
theorem mW:∀s r,gY s=some r->∀{I:Imm} ,RT 82 [vT s.l] I [] (zU  r):=by
 intro s r N I;unfold gY at N;refine yL func82 λB=>?_;have H:=iS I;refine wL []<|zG<|yB ?_;refine wK N [] (λt2=>[(2,.bool t2)]) (λo0 aA=>?_) ?_
 ·have H:=iS I;refine zJ<|yG 4 [] [6] rfl<|xZ [6] aA ?_ ?_
  ·intro hc N;refine yG 5 [] [7] rfl<|bE N λy hy N=>vJ (zEQ (⟨[65,66,67,68]⟩:Str) s _ hy ) ?_;intro aT le;have H:=H.trans le;exact yK [] [2] rfl<|yS<|zV (ct N H)
  intro hc N;exact wB [] [(2,vF)]<|yS<|zV (ct N H)
 intro t2 I0 aa aQ;refine zG<|yX ?_;obtain rfl:=zD aQ;exact wC
def fN(aK:List HA)(r:Int):KT:=λkk I' ag v=>
 ∃v0,aK=ag/\v=tupV [v0]/\v0=.int .i64 r
def wU(s:(List Int))(f0:(Int->Option Bool))(t8:Int):Option (Out Unit (Int)):=do
 if(decide (t8<(s.length:Int))) then
  let x<-idx s t8;let y<-f0 x;if y then pure (.ret t8)
  else wU s f0 (W (t8+1))
 else pure (.done ())
 partial_fixpoint
theorem zAa(s:(List Int))(f0:(Int->Option Bool)):∀(t8:Int) (o:Out Unit (Int)),wU s f0 t8=some o->∀{B}{I0 I:Imm}{Q p c}{fv:Value}{aK:List HA},I0.le I->(S4 I p s c)->(FV1 Tryz.prog I aK fv f0)->NG Q->NO Q->(∀I',o=(.done ())->I0.le I'->T 19 B Q (.exit 0) I' aK [])->(∀r I' ag m',o=(.ret r)->I0.le I'->RS Tryz.prog f122 B (fN aK r) I' ag m'->T 19 B Q .ret I' ag m')->J Tryz.prog 19 B (nav (bodyOf f122) [1,0,1,0]) Q I aK [(0,vS p s c),(1,fv),(7,vI (s.length:Int)),(8,vI t8)]:=by
 refine wU.partial_correctness s f0 _ λaI ih t8 o N B I0 I Q p c fv aK H h h1 hg ho hx hr=>yV hg ho<|yH [9] rfl<|zZ<|yE N ?_ ?_
 ·intro hc N;refine zT<|zZ<|yI<|yH [5] rfl<|yW<|yG 3 [] [11,12,13] rfl<|bE N λx hy N=>xK rfl rfl h hy ?_;intro ad aN ap ak;obtain rfl:=ak;refine xA 0 ap [vI x] (vI x) rfl<|bE N λy ay N=>zKD rfl rfl h1 ay rfl (co _).symm ?_;rintro I0 v0 le rfl;refine uD (ag:=aK) (co _) ?_;have ⟨h,h1,H⟩:=m3 le h h1 H;refine yA rfl<|zG<|yE N ?_ ?_
  ·intro aE N;exact yH [4] rfl<|xD<|zW<|zH<|zH<|hr _ _ _ _ (zD N).symm H ⟨_,_,(resT rfl),(λ_ h=>h),⟨_,rfl,rfl,rfl⟩⟩
  intro aE N;exact zT<|zL<|zG<|zJ<|yK [] [8] rfl<|yU<|nD<|ih (W (t8+1)) _ N H h h1 hg ho hx hr
 intro hc N;exact wM<|yS<|hx _  (zD N).symm H
def oC(s:(List Int))(f0:(Int->Option Bool)):Option (Int):=do
 match<-wU s f0 0 with
 | .ret r0=>pure r0
 | .done _=>
  pure (-1)
theorem zBJ:∀s f0 r,oC s f0=some r->∀{I:Imm}{p c}{fv:Value}{aK:List HA},(S4 I p s c)->(FV1 Tryz.prog I aK fv f0)->RT 122 [vS p s c,fv] I aK (fN aK r):=by
 intro s f0 r N I p c fv aK h h1;unfold oC at N;refine yL func122 λB=>wL []<|zZ<|yH [7,8] rfl<|xY<|pE [(0,vS p s c),(1,fv),(7,vI (s.length:Int)),(8,vI 0)] ?_;obtain⟨o0,aA,aG⟩:=zB N;refine zAa s f0 0 o0 aA iR h h1 nG nO ?_ ?_
 ·intro aT  heq aa;subst o0;refine zS<|wV [4] rfl<|zG<|yX ?_;exact xU aG (resT rfl) (λ_ h=>h) ⟨_,rfl,rfl,rfl⟩
 intro r0 I9 hs9 m9 aW le9 aY;subst aW;refine zW<|zH ?_;obtain rfl:=zD aG;exact fO aY
def zA0(aK:List HA)(r:Bool):KT:=λkk I' ag v=>
 ∃v0,aK=ag/\v=tupV [v0]/\v0=.bool r
def xS(s:(List Int))(f0:(Int->Option Bool)):Option (Bool):=do
 let y<-oC s f0;pure (decide (y>=0))
theorem rO:∀s f0 r,xS s f0=some r->∀{I:Imm}{p c}{fv:Value}{aK:List HA},(S4 I p s c)->(FV1 Tryz.prog I aK fv f0)->RT 83 [vS p s c,fv] I aK (zA0 aK r):=by
 intro s f0 r N I p c fv aK h h1;unfold xS at N;refine yL func83 λB=>wL []<|yW<|yG 2 [] [5,6] rfl<|bE N λy hy N=>zEg (hs1:=aK) (rest:=[]) rfl rfl rfl rfl (by kernel_rfl) rfl (co _).symm (zBJ s f0 _ hy h h1) ?_;rintro I0 av v2 k2 le - ⟨v0,rfl,rfl,rfl⟩ -;refine uD (ag:=aK) (co _) ?_;refine yK [] [4] rfl<|zG<|yX ?_;exact xU N (resT rfl) (λ_ h=>h) ⟨_,rfl,rfl,rfl⟩
def tR(n0:Int):Option (Bool):=do
 let y<-wR n0 1 6;pure (!y)
theorem zBS:∀n0 r,tR n0=some r->∀{I:Imm} ,RT 84 [vI n0] I [] (zU  r):=by
 intro n0 r N I;unfold tR at N;refine yL func84 λB=>wL []<|yW<|yG 1 [] [3] rfl<|bE N λy hy N=>vJ (vM n0 1 6 _ hy ) λI0 le=>wB [] [(2,.bool (!y))]<|zG<|yX ?_;obtain rfl:=zD N;exact wC
def pI(list:(List zF))(t7:Int):Option (Out Unit (Bool)):=do
 if(decide (t7<(list.length:Int))) then
  let x<-idx list t7;let t42<-(do
   let y<-gY x.Name;if(!y) then pure true
   else
    if(decide (t7>0)) then
     let x1<-idx list (W (t7 - 1));if(!(Op.bytesLess x1.Name.l x.Name.l)) then pure true
     else
      let y1<-wR (x.Dims.length:Int) 1 2;if(!y1) then pure true
      else
       let y2<-xS x.Dims tR;pure (id y2)
    else
     let y3<-wR (x.Dims.length:Int) 1 2;if(!y3) then pure true
     else
      let y4<-xS x.Dims tR;pure (id y4)
     : Option Bool)
  if t42 then pure (.ret false)
  else pI list (W (t7+1))
 else pure (.done ())
 partial_fixpoint
theorem zER(list:(List zF)):∀(t7:Int) (o:Out Unit (Bool)),pI list t7=some o->∀{B}{I0 I:Imm}{Q p c},I0.le I->(S4 I p list c)->NG Q->NO Q->(∀I',o=(.done ())->I0.le I'->T 47 B Q (.exit 0) I' [] [(0,vS p list c)])->(∀r I' ag m',o=(.ret r)->I0.le I'->RS Tryz.prog f45 B (zU  r) I' ag m'->T 47 B Q .ret I' ag m')->J Tryz.prog 47 B (nav (bodyOf f45) [1,0,1,0]) Q I [] [(0,vS p list c),(5,vS p list c),(6,vI (list.length:Int)),(7,vI t7)]:=by
 refine pI.partial_correctness list _ λaI ih t7 o N B I0 I Q p c H h hg ho hx hr=>yV hg ho<|yH [8] rfl<|zZ<|yE N ?_ ?_
 ·intro hc N;refine zT<|zZ<|yI<|yF<|yG 1 [] [9] rfl<|bE N λx hy N=>xK rfl rfl h hy ?_;intro ad aN ap ak;obtain⟨p1,c1,rfl,h1⟩:=wZ ak;refine xA 0 ap (cArr x p1 c1) (vA (cArr x p1 c1)) rfl<|wI [vT ([]),z0] ?_;intro b hb;refine yG 5 [] [3] rfl<|xI 0 (cArr x p1 c1) rfl<|yA rfl<|zG<|yB ?_;refine wK N [] (λt42=>[(0,vS p list c),(5,vS p list c),(6,vI (list.length:Int)),(7,vI t7),(42,.bool t42)]) (λo0 aA=>?_) ?_
  ·have H:=iS I;obtain⟨y,ay,N⟩:=zB aA;cases aE:(!y) with
   | true=>
    have hM0:=wQ aE N;refine wA [.p (vP b 0) [],.p (vT x.Name.l) [0],.q (.bool y),.q vY,.q vY,.p undef [],.p undef [],.p undef [],.p undef [],.p undef [],.p undef [],.p undef [],.p undef [],.p undef [],.p undef [],.p undef [],.p undef [],.p undef [],.p vY [],.p vY [],.p undef [],.p undef [],.p undef [],.p undef [],.p undef [],.p vY [],.p vY [],.p undef [],.p undef [],.p undef [],.p vY []] [[],[(0,false)],[(1,false)],[(2,false)],[(3,false)],[(4,false)],[(4,false),(5,false)],[(4,false),(6,false)],[(7,false)],[(7,false)],[(7,false),(9,false)],[(7,false),(8,false),(10,false)],[(7,false),(11,false)],[(7,false),(12,false)],[(7,false)],[(7,false),(14,false)],[(7,false),(13,false),(15,false)],[(4,false),(7,false),(16,false)],[(4,false),(17,false)],[(18,false)],[(19,false)],[(19,false),(20,false)],[(19,false),(21,false)],[(19,false),(22,false)],[(19,false),(23,false)],[(19,false),(24,false)],[(25,false)],[(26,false)],[(26,false),(27,false)],[(26,false),(28,false)],[(26,false),(29,false)]] [hB b (cArr x p1 c1)] [] [(30,false)] (zY [0]) ?_ ?_
    ·refine O2<|Oq ?_<|Oq ?_<|Oq ?_<|O4<|O4<|O4<|O4<|O4<|O4<|O2<|On
     ·intro I1 hf aa;refine yP [13] rfl ?_;have H:=iS I1;refine vJ (mW x.Name _ ay ) ?_;intro aT le;have H:=H.trans le;exact yR H
     ·intro I1 hf aa;refine yP [14] rfl<|tD 4 [(15,.bool (!y))] ?_;rw[aE];exact yR iR
     intro I1 hf aa;exact eN [(15,vY)]<|tD 5 [(16,vY)]<|yR iR
    intro aP aa;refine yP [0,5,6,7,42] rfl ?_;have H:=H.trans aa;exact yA rfl<|xW zM<|yS<|zV (ct hM0 H)
   | false=>
    have hM01:=wE aE N;cases aV:(decide (t7>0)) with
    | true=>
     have hM02:=wQ aV hM01;obtain⟨x1,aF,N⟩:=zB hM02;cases bD:(!(Op.bytesLess x1.Name.l x.Name.l)) with
     | true=>
      have hM03:=wQ bD N;refine wA [.p (vP b 0) [],.p (vT x.Name.l) [0],.q (.bool y),.q vF,.q vF,.p (vI t7) [],.q vY,.q vY,.p (vS p list c) [],.p (vI t7) [],.p (vI (W (t7 - 1))) [],.x (ePArr x1),.x (ePArr x1),.q (vT x1.Name.l),.p (vP b 0) [],.p (vT x.Name.l) [0],.q vY,.q vY,.q vY,.q vY,.p undef [],.p undef [],.p undef [],.p undef [],.p undef [],.p vY [],.p vY [],.p undef [],.p undef [],.p undef [],.p vY []] [[],[(0,false)],[(1,false)],[(2,false)],[(3,false)],[(4,false)],[(4,false),(5,false)],[(4,false),(6,false)],[(7,false)],[(7,false)],[(7,false),(9,false)],[(7,false),(8,false),(10,false)],[(7,false),(11,false)],[(7,false),(12,false)],[(7,false)],[(7,false),(14,false)],[(7,false),(13,false),(15,false)],[(4,false),(7,false),(16,false)],[(4,false),(17,false)],[(18,false)],[(19,false)],[(19,false),(20,false)],[(19,false),(21,false)],[(19,false),(22,false)],[(19,false),(23,false)],[(19,false),(24,false)],[(25,false)],[(26,false)],[(26,false),(27,false)],[(26,false),(28,false)],[(26,false),(29,false)]] [hB b (cArr x p1 c1)] [] [(30,false)] (zY [0]) ?_ ?_
      ·refine O2<|Oq ?_<|Oq ?_<|Oq ?_<|Op<|Oq ?_<|Oq ?_<|O3<|Ox ?_<|Ox ?_<|Oq ?_<|O2<|Oq ?_<|Oq ?_<|Oq ?_<|Oq ?_<|O4<|O4<|O3<|On
       ·intro I1 hf aa;refine yP [13] rfl ?_;have H:=iS I1;refine vJ (mW x.Name _ ay ) ?_;intro aT le;have H:=H.trans le;exact yR H
       ·intro I1 hf aa;refine yP [14] rfl<|tD 4 [(15,.bool (!y))] ?_;rw[aE];exact yR iR
       ·intro I1 hf aa;exact eN [(15,vF)]<|tD 5 [(16,vF)]<|yR iR
       ·intro I1 hf aa;refine yP [16,17] rfl<|tD 7 [(18,.bool (decide (t7>0)))] ?_;rw[aV];exact yR iR
       ·intro I1 hf aa;exact yP [16,18] rfl<|tD 8 [(19,vY)]<|yR iR
       ·intro I1 hf aa;refine yP [19,20,22] rfl ?_;have h:=h.mono aa;refine xK rfl rfl h aF ?_;intro ad1 bm ar au;obtain⟨p2,c2,rfl,h3⟩:=wZ au;exact yM [] iR ⟨_,_,_,rfl,rfl,ar,h3⟩
       ·rintro I1 hf aa _ _ ⟨rfl,rfl⟩ _ _ ⟨ad1,p2,c2,rfl,rfl,ar,h3⟩;exact yP [19,23] rfl<|tD 13 [(24,.pointer (some ad1))]<|yM [] iR ⟨_,_,_,rfl,rfl,ar,h3⟩
       ·rintro I1 hf aa _ _ ⟨rfl,rfl⟩ _ _ ⟨ad11,p21,c21,rfl,rfl,hat11,h31⟩;exact yP [19,24] rfl<|xA 0 hat11 [vT x1.Name.l] (vT x1.Name.l) rfl<|yR iR
       ·intro I1 hf aa;refine yP [19,25,27] rfl<|tD 17 [(28,.bool (!(Op.bytesLess x1.Name.l x.Name.l)))] ?_;rw[bD];exact yR iR
       ·intro I1 hf aa;exact yP [16,19,28] rfl<|tD 18 [(29,vY)]<|yR iR
       ·intro I1 hf aa;exact yP [16,29] rfl<|tD 19 [(30,vY)]<|yR iR
       intro I1 hf aa;exact eN [(30,vY)]<|tD 20 [(31,vY)]<|yR iR
      intro bx aD;refine yP [0,5,6,7,42] rfl ?_;have H:=H.trans aD;exact yA rfl<|xW zM<|yS<|zV (ct hM03 H)
     | false=>
      have hM04:=wE bD N;obtain⟨y1,aX,N⟩:=zB hM04;cases bM:(!y1) with
      | true=>
       have hM05:=wQ bM N;refine wA [.p (vP b 0) [],.p (vT x.Name.l) [0],.q (.bool y),.q vF,.q vF,.p (vI t7) [],.q vY,.q vY,.p (vS p list c) [],.p (vI t7) [],.p (vI (W (t7 - 1))) [],.x (ePArr x1),.x (ePArr x1),.q (vT x1.Name.l),.p (vP b 0) [],.p (vT x.Name.l) [0],.q vF,.q vF,.q vF,.q vF,.p (vP b 1) [],.p (vS p1 x.Dims c1) [0],.p (vI (x.Dims.length:Int)) [],.q (.bool y1),.q vY,.q vY,.q vY,.p undef [],.p undef [],.p undef [],.p vY []] [[],[(0,false)],[(1,false)],[(2,false)],[(3,false)],[(4,false)],[(4,false),(5,false)],[(4,false),(6,false)],[(7,false)],[(7,false)],[(7,false),(9,false)],[(7,false),(8,false),(10,false)],[(7,false),(11,false)],[(7,false),(12,false)],[(7,false)],[(7,false),(14,false)],[(7,false),(13,false),(15,false)],[(4,false),(7,false),(16,false)],[(4,false),(17,false)],[(18,false)],[(19,false)],[(19,false),(20,false)],[(19,false),(21,false)],[(19,false),(22,false)],[(19,false),(23,false)],[(19,false),(24,false)],[(25,false)],[(26,false)],[(26,false),(27,false)],[(26,false),(28,false)],[(26,false),(29,false)]] [hB b (cArr x p1 c1)] [] [(30,false)] (zY [0]) ?_ ?_
       ·refine O2<|Oq ?_<|Oq ?_<|Oq ?_<|Op<|Oq ?_<|Oq ?_<|O3<|Ox ?_<|Ox ?_<|Oq ?_<|O2<|Oq ?_<|Oq ?_<|Oq ?_<|Oq ?_<|O3<|Oq ?_<|Oq ?_<|Oq ?_<|Oq ?_<|O4<|On
        ·intro I1 hf aa;refine yP [13] rfl ?_;have H:=iS I1;refine vJ (mW x.Name _ ay ) ?_;intro aT le;have H:=H.trans le;exact yR H
        ·intro I1 hf aa;refine yP [14] rfl<|tD 4 [(15,.bool (!y))] ?_;rw[aE];exact yR iR
        ·intro I1 hf aa;exact eN [(15,vF)]<|tD 5 [(16,vF)]<|yR iR
        ·intro I1 hf aa;refine yP [16,17] rfl<|tD 7 [(18,.bool (decide (t7>0)))] ?_;rw[aV];exact yR iR
        ·intro I1 hf aa;exact yP [16,18] rfl<|tD 8 [(19,vY)]<|yR iR
        ·intro I1 hf aa;refine yP [19,20,22] rfl ?_;have h:=h.mono aa;refine xK rfl rfl h aF ?_;intro ad1 bm ar au;obtain⟨p2,c2,rfl,h3⟩:=wZ au;exact yM [] iR ⟨_,_,_,rfl,rfl,ar,h3⟩
        ·rintro I1 hf aa _ _ ⟨rfl,rfl⟩ _ _ ⟨ad1,p2,c2,rfl,rfl,ar,h3⟩;exact yP [19,23] rfl<|tD 13 [(24,.pointer (some ad1))]<|yM [] iR ⟨_,_,_,rfl,rfl,ar,h3⟩
        ·rintro I1 hf aa _ _ ⟨rfl,rfl⟩ _ _ ⟨ad11,p21,c21,rfl,rfl,hat11,h31⟩;exact yP [19,24] rfl<|xA 0 hat11 [vT x1.Name.l] (vT x1.Name.l) rfl<|yR iR
        ·intro I1 hf aa;refine yP [19,25,27] rfl<|tD 17 [(28,.bool (!(Op.bytesLess x1.Name.l x.Name.l)))] ?_;rw[bD];exact yR iR
        ·intro I1 hf aa;exact yP [16,19,28] rfl<|tD 18 [(29,vF)]<|yR iR
        ·intro I1 hf aa;exact yP [16,29] rfl<|tD 19 [(30,vF)]<|yR iR
        ·intro I1 hf aa;exact eN [(30,vF)]<|tD 20 [(31,vF)]<|yR iR
        ·intro I1 hf aa;refine yP [31,34] rfl ?_;have H:=iS I1;refine vJ (vM (x.Dims.length:Int) 1 2 _ aX ) ?_;intro bI aH;have H:=H.trans aH;exact yR H
        ·intro I1 hf aa;refine yP [31,35] rfl<|tD 25 [(36,.bool (!y1))] ?_;rw[bM];exact yR iR
        ·intro I1 hf aa;exact yP [31,36] rfl<|tD 26 [(37,vY)]<|yR iR
        intro I1 hf aa;exact eN [(37,vY)]<|tD 27 [(38,vY)]<|yR iR
       intro bL bf;refine yP [0,5,6,7,42] rfl ?_;have H:=H.trans bf;exact yA rfl<|xW zM<|yS<|zV (ct hM05 H)
      | false=>
       have hM06:=wE bM N;obtain⟨y2,bk,N⟩:=zB hM06;refine wA [.p (vP b 0) [],.p (vT x.Name.l) [0],.q (.bool y),.q vF,.q vF,.p (vI t7) [],.q vY,.q vY,.p (vS p list c) [],.p (vI t7) [],.p (vI (W (t7 - 1))) [],.x (ePArr x1),.x (ePArr x1),.q (vT x1.Name.l),.p (vP b 0) [],.p (vT x.Name.l) [0],.q vF,.q vF,.q vF,.q vF,.p (vP b 1) [],.p (vS p1 x.Dims c1) [0],.p (vI (x.Dims.length:Int)) [],.q (.bool y1),.q vF,.q vF,.q vF,.p (vP b 1) [],.p (vS p1 x.Dims c1) [0],.q (.bool y2),.p (.bool y2) []] [[],[(0,false)],[(1,false)],[(2,false)],[(3,false)],[(4,false)],[(4,false),(5,false)],[(4,false),(6,false)],[(7,false)],[(7,false)],[(7,false),(9,false)],[(7,false),(8,false),(10,false)],[(7,false),(11,false)],[(7,false),(12,false)],[(7,false)],[(7,false),(14,false)],[(7,false),(13,false),(15,false)],[(4,false),(7,false),(16,false)],[(4,false),(17,false)],[(18,false)],[(19,false)],[(19,false),(20,false)],[(19,false),(21,false)],[(19,false),(22,false)],[(19,false),(23,false)],[(19,false),(24,false)],[(25,false)],[(26,false)],[(26,false),(27,false)],[(26,false),(28,false)],[(26,false),(29,false)]] [hB b (cArr x p1 c1)] [] [(30,false)] (zY [0]) ?_ ?_
       ·refine O2<|Oq ?_<|Oq ?_<|Oq ?_<|Op<|Oq ?_<|Oq ?_<|O3<|Ox ?_<|Ox ?_<|Oq ?_<|O2<|Oq ?_<|Oq ?_<|Oq ?_<|Oq ?_<|O3<|Oq ?_<|Oq ?_<|Oq ?_<|Oq ?_<|O2<|Oq ?_<|Op<|On
        ·intro I1 hf aa;refine yP [13] rfl ?_;have H:=iS I1;refine vJ (mW x.Name _ ay ) ?_;intro aT le;have H:=H.trans le;exact yR H
        ·intro I1 hf aa;refine yP [14] rfl<|tD 4 [(15,.bool (!y))] ?_;rw[aE];exact yR iR
        ·intro I1 hf aa;exact eN [(15,vF)]<|tD 5 [(16,vF)]<|yR iR
        ·intro I1 hf aa;refine yP [16,17] rfl<|tD 7 [(18,.bool (decide (t7>0)))] ?_;rw[aV];exact yR iR
        ·intro I1 hf aa;exact yP [16,18] rfl<|tD 8 [(19,vY)]<|yR iR
        ·intro I1 hf aa;refine yP [19,20,22] rfl ?_;have h:=h.mono aa;refine xK rfl rfl h aF ?_;intro ad1 bm ar au;obtain⟨p2,c2,rfl,h3⟩:=wZ au;exact yM [] iR ⟨_,_,_,rfl,rfl,ar,h3⟩
        ·rintro I1 hf aa _ _ ⟨rfl,rfl⟩ _ _ ⟨ad1,p2,c2,rfl,rfl,ar,h3⟩;exact yP [19,23] rfl<|tD 13 [(24,.pointer (some ad1))]<|yM [] iR ⟨_,_,_,rfl,rfl,ar,h3⟩
        ·rintro I1 hf aa _ _ ⟨rfl,rfl⟩ _ _ ⟨ad11,p21,c21,rfl,rfl,hat11,h31⟩;exact yP [19,24] rfl<|xA 0 hat11 [vT x1.Name.l] (vT x1.Name.l) rfl<|yR iR
        ·intro I1 hf aa;refine yP [19,25,27] rfl<|tD 17 [(28,.bool (!(Op.bytesLess x1.Name.l x.Name.l)))] ?_;rw[bD];exact yR iR
        ·intro I1 hf aa;exact yP [16,19,28] rfl<|tD 18 [(29,vF)]<|yR iR
        ·intro I1 hf aa;exact yP [16,29] rfl<|tD 19 [(30,vF)]<|yR iR
        ·intro I1 hf aa;exact eN [(30,vF)]<|tD 20 [(31,vF)]<|yR iR
        ·intro I1 hf aa;refine yP [31,34] rfl ?_;have H:=iS I1;refine vJ (vM (x.Dims.length:Int) 1 2 _ aX ) ?_;intro bI aH;have H:=H.trans aH;exact yR H
        ·intro I1 hf aa;refine yP [31,35] rfl<|tD 25 [(36,.bool (!y1))] ?_;rw[bM];exact yR iR
        ·intro I1 hf aa;exact yP [31,36] rfl<|tD 26 [(37,vF)]<|yR iR
        ·intro I1 hf aa;exact eN [(37,vF)]<|tD 27 [(38,vF)]<|yR iR
        intro I1 hf aa;refine yP [38,40] rfl ?_;have H:=iS I1;have ⟨h,h1⟩:=m2 aa h h1;have hf0:FV1 Tryz.prog I1 [] (.func (.func 84) ⟨[]⟩ ⟨[]⟩) tR:=by
         refine FV1.intro ?_;intro I1 aa x0 r u0 hF k0;obtain rfl:=k0;exact(zBS x0 r hF ).mono (by rintro k i hs u ⟨v0,rfl,rfl,h⟩;exact⟨rfl,h⟩)
        refine xF (rO x.Dims tR _ bk h1 hf0) ?_;rintro I06 av v2 k2 bu - ⟨v04,rfl,rfl,rfl⟩ -;have H:=H.trans bu;exact yR H
       intro I07 bG;refine yP [0,5,6,7,42] rfl ?_;have H:=H.trans bG;exact yA rfl<|xW zM<|yS<|zV (ct N H)
    | false=>
     have hM07:=wE aV hM01;obtain⟨y3,bC,N⟩:=zB hM07;cases hc5:(!y3) with
     | true=>
      have hM08:=wQ hc5 N;refine wA [.p (vP b 0) [],.p (vT x.Name.l) [0],.q (.bool y),.q vF,.q vF,.p (vI t7) [],.q vF,.q vF,.p undef [],.p undef [],.p undef [],.p undef [],.p undef [],.p undef [],.p undef [],.p undef [],.p undef [],.p vF [],.p vF [],.p vF [],.p (vP b 1) [],.p (vS p1 x.Dims c1) [0],.p (vI (x.Dims.length:Int)) [],.q (.bool y3),.q vY,.q vY,.q vY,.p undef [],.p undef [],.p undef [],.p vY []] [[],[(0,false)],[(1,false)],[(2,false)],[(3,false)],[(4,false)],[(4,false),(5,false)],[(4,false),(6,false)],[(7,false)],[(7,false)],[(7,false),(9,false)],[(7,false),(8,false),(10,false)],[(7,false),(11,false)],[(7,false),(12,false)],[(7,false)],[(7,false),(14,false)],[(7,false),(13,false),(15,false)],[(4,false),(7,false),(16,false)],[(4,false),(17,false)],[(18,false)],[(19,false)],[(19,false),(20,false)],[(19,false),(21,false)],[(19,false),(22,false)],[(19,false),(23,false)],[(19,false),(24,false)],[(25,false)],[(26,false)],[(26,false),(27,false)],[(26,false),(28,false)],[(26,false),(29,false)]] [hB b (cArr x p1 c1)] [] [(30,false)] (zY [0]) ?_ ?_
      ·refine O2<|Oq ?_<|Oq ?_<|Oq ?_<|Op<|Oq ?_<|Oq ?_<|O4<|O4<|O4<|O3<|Oq ?_<|Oq ?_<|Oq ?_<|Oq ?_<|O4<|On
       ·intro I1 hf aa;refine yP [13] rfl ?_;have H:=iS I1;refine vJ (mW x.Name _ ay ) ?_;intro aT le;have H:=H.trans le;exact yR H
       ·intro I1 hf aa;refine yP [14] rfl<|tD 4 [(15,.bool (!y))] ?_;rw[aE];exact yR iR
       ·intro I1 hf aa;exact eN [(15,vF)]<|tD 5 [(16,vF)]<|yR iR
       ·intro I1 hf aa;refine yP [16,17] rfl<|tD 7 [(18,.bool (decide (t7>0)))] ?_;rw[aV];exact yR iR
       ·intro I1 hf aa;exact yP [16,18] rfl<|tD 8 [(19,vF)]<|yR iR
       ·intro I1 hf aa;refine yP [31,34] rfl ?_;have H:=iS I1;refine vJ (vM (x.Dims.length:Int) 1 2 _ bC ) ?_;intro I08 le7;have H:=H.trans le7;exact yR H
       ·intro I1 hf aa;refine yP [31,35] rfl<|tD 25 [(36,.bool (!y3))] ?_;rw[hc5];exact yR iR
       ·intro I1 hf aa;exact yP [31,36] rfl<|tD 26 [(37,vY)]<|yR iR
       intro I1 hf aa;exact eN [(37,vY)]<|tD 27 [(38,vY)]<|yR iR
      intro I09 le8;refine yP [0,5,6,7,42] rfl ?_;have H:=H.trans le8;exact yA rfl<|xW zM<|yS<|zV (ct hM08 H)
     | false=>
      have hM09:=wE hc5 N;obtain⟨y4,hy6,N⟩:=zB hM09;refine wA [.p (vP b 0) [],.p (vT x.Name.l) [0],.q (.bool y),.q vF,.q vF,.p (vI t7) [],.q vF,.q vF,.p undef [],.p undef [],.p undef [],.p undef [],.p undef [],.p undef [],.p undef [],.p undef [],.p undef [],.p vF [],.p vF [],.p vF [],.p (vP b 1) [],.p (vS p1 x.Dims c1) [0],.p (vI (x.Dims.length:Int)) [],.q (.bool y3),.q vF,.q vF,.q vF,.p (vP b 1) [],.p (vS p1 x.Dims c1) [0],.q (.bool y4),.p (.bool y4) []] [[],[(0,false)],[(1,false)],[(2,false)],[(3,false)],[(4,false)],[(4,false),(5,false)],[(4,false),(6,false)],[(7,false)],[(7,false)],[(7,false),(9,false)],[(7,false),(8,false),(10,false)],[(7,false),(11,false)],[(7,false),(12,false)],[(7,false)],[(7,false),(14,false)],[(7,false),(13,false),(15,false)],[(4,false),(7,false),(16,false)],[(4,false),(17,false)],[(18,false)],[(19,false)],[(19,false),(20,false)],[(19,false),(21,false)],[(19,false),(22,false)],[(19,false),(23,false)],[(19,false),(24,false)],[(25,false)],[(26,false)],[(26,false),(27,false)],[(26,false),(28,false)],[(26,false),(29,false)]] [hB b (cArr x p1 c1)] [] [(30,false)] (zY [0]) ?_ ?_
      ·refine O2<|Oq ?_<|Oq ?_<|Oq ?_<|Op<|Oq ?_<|Oq ?_<|O4<|O4<|O4<|O3<|Oq ?_<|Oq ?_<|Oq ?_<|Oq ?_<|O2<|Oq ?_<|Op<|On
       ·intro I1 hf aa;refine yP [13] rfl ?_;have H:=iS I1;refine vJ (mW x.Name _ ay ) ?_;intro aT le;have H:=H.trans le;exact yR H
       ·intro I1 hf aa;refine yP [14] rfl<|tD 4 [(15,.bool (!y))] ?_;rw[aE];exact yR iR
       ·intro I1 hf aa;exact eN [(15,vF)]<|tD 5 [(16,vF)]<|yR iR
       ·intro I1 hf aa;refine yP [16,17] rfl<|tD 7 [(18,.bool (decide (t7>0)))] ?_;rw[aV];exact yR iR
       ·intro I1 hf aa;exact yP [16,18] rfl<|tD 8 [(19,vF)]<|yR iR
       ·intro I1 hf aa;refine yP [31,34] rfl ?_;have H:=iS I1;refine vJ (vM (x.Dims.length:Int) 1 2 _ bC ) ?_;intro I08 le7;have H:=H.trans le7;exact yR H
       ·intro I1 hf aa;refine yP [31,35] rfl<|tD 25 [(36,.bool (!y3))] ?_;rw[hc5];exact yR iR
       ·intro I1 hf aa;exact yP [31,36] rfl<|tD 26 [(37,vF)]<|yR iR
       ·intro I1 hf aa;exact eN [(37,vF)]<|tD 27 [(38,vF)]<|yR iR
       intro I1 hf aa;refine yP [38,40] rfl ?_;have H:=iS I1;have ⟨h,h1⟩:=m2 aa h h1;have hf01:FV1 Tryz.prog I1 [] (.func (.func 84) ⟨[]⟩ ⟨[]⟩) tR:=by
        refine FV1.intro ?_;intro I1 aa x0 r u0 hF k0;obtain rfl:=k0;exact(zBS x0 r hF ).mono (by rintro k i hs u ⟨v0,rfl,rfl,h⟩;exact⟨rfl,h⟩)
       refine xF (rO x.Dims tR _ hy6 h1 hf01) ?_;rintro bP av v2 k2 le9 - ⟨v06,rfl,rfl,rfl⟩ -;have H:=H.trans le9;exact yR H
      intro bV le10;refine yP [0,5,6,7,42] rfl ?_;have H:=H.trans le10;exact yA rfl<|xW zM<|yS<|zV (ct N H)
  intro t42 I0 le11 aQ;have ⟨h,H⟩:=m2 le11 h H;refine zG<|yE aQ ?_ ?_
  ·intro hc6 N;exact wL [(2,vF)]<|xD<|zW<|zH<|zH<|hr _ _ _ _ (zD N).symm H ⟨_,_,(resT rfl),zM,⟨_,rfl,rfl,rfl⟩⟩
  intro hc6 N;exact zT<|zL<|zG<|zJ<|yK [] [7] rfl<|yU<|nD<|ih (W (t7+1)) _ N H h hg ho hx hr
 intro hc N;exact wM<|yS<|hx _  (zD N).symm H
def fX(list:(List zF)):Option (Bool):=do
 match<-pI list 0 with
 | .ret r0=>pure r0
 | .done _=>
  pure (decide ((list.length:Int)<=4))
theorem zGn:∀list r,fX list=some r->∀{I:Imm}{p c},(S4 I p list c)->RT 45 [vS p list c] I [] (zU  r):=by
 intro list r N I p c h;unfold fX at N;refine yL func45 λB=>wL []<|zZ<|yH [5,6,7] rfl<|xY<|pE [(0,vS p list c),(5,vS p list c),(6,vI (list.length:Int)),(7,vI 0)] ?_;obtain⟨aO,aB,aG⟩:=zB N;refine zER list 0 aO aB iR h nG nO ?_ ?_
 ·intro bW  heq1 le12;subst aO;refine zS<|wV [2] rfl<|zG<|yX ?_;obtain rfl:=zD aG;exact wC
 intro r0 I9 hs9 m9 aW le9 aY;subst aW;refine zW<|zH ?_;obtain rfl:=zD aG;exact fO aY
def pG(aK:List HA)(r:Int):KT:=λkk I' ag v=>
 ∃v0,aK=ag/\v=tupV [v0]/\v0=.int .i64 r
def xG(s:(List zA))(f0:(zA->Option Bool))(t8:Int):Option (Out Unit (Int)):=do
 if(decide (t8<(s.length:Int))) then
  let x<-idx s t8;let y<-f0 x;if y then pure (.ret t8)
  else xG s f0 (W (t8+1))
 else pure (.done ())
 partial_fixpoint
theorem gG(s:(List zA))(f0:(zA->Option Bool)):∀(t8:Int) (o:Out Unit (Int)),xG s f0 t8=some o->∀{B}{I0 I:Imm}{Q p c}{fv:Value}{aK:List HA},I0.le I->(S4 I p s c)->(FV1 Tryz.prog I aK fv f0)->NG Q->NO Q->(∀I',o=(.done ())->I0.le I'->T 19 B Q (.exit 0) I' aK [])->(∀r I' ag m',o=(.ret r)->I0.le I'->RS Tryz.prog f163 B (pG aK r) I' ag m'->T 19 B Q .ret I' ag m')->J Tryz.prog 19 B (nav (bodyOf f163) [1,0,1,0]) Q I aK [(0,vS p s c),(1,fv),(7,vI (s.length:Int)),(8,vI t8)]:=by
 refine xG.partial_correctness s f0 _ λaI ih t8 o N B I0 I Q p c fv aK H h h1 hg ho hx hr=>yV hg ho<|yH [9] rfl<|zZ<|yE N ?_ ?_
 ·intro hc N;refine zT<|zZ<|yI<|yH [5] rfl<|yW<|yG 3 [] [11,12,13] rfl<|bE N λx hy N=>xK rfl rfl h hy ?_;intro ad aN ap ak;obtain⟨p1,c1,rfl,h2⟩:=yQ ak;refine xA 0 ap (cAff x p1 c1) (vA (cAff x p1 c1)) rfl<|bE N λy ay N=>zKD rfl rfl h1 ay ⟨_,rfl,(yT ⟨_,rfl,h2⟩)⟩ (co _).symm ?_;rintro I0 v01 le rfl;refine uD (ag:=aK) (co _) ?_;have ⟨h,h1,H⟩:=m3 le h h1 H;refine yA rfl<|zG<|yE N ?_ ?_
  ·intro aE N;exact yH [4] rfl<|xD<|zW<|zH<|zH<|hr _ _ _ _ (zD N).symm H ⟨_,_,(resT rfl),(λ_ h=>h),⟨_,rfl,rfl,rfl⟩⟩
  intro aE N;exact zT<|zL<|zG<|zJ<|yK [] [8] rfl<|yU<|nD<|ih (W (t8+1)) _ N H h h1 hg ho hx hr
 intro hc N;exact wM<|yS<|hx _  (zD N).symm H
def vV(s:(List zA))(f0:(zA->Option Bool)):Option (Int):=do
 match<-xG s f0 0 with
 | .ret r0=>pure r0
 | .done _=>
  pure (-1)
theorem fL:∀s f0 r,vV s f0=some r->∀{I:Imm}{p c}{fv:Value}{aK:List HA},(S4 I p s c)->(FV1 Tryz.prog I aK fv f0)->RT 163 [vS p s c,fv] I aK (pG aK r):=by
 intro s f0 r N I p c fv aK h h1;unfold vV at N;refine yL func163 λB=>wL []<|zZ<|yH [7,8] rfl<|xY<|pE [(0,vS p s c),(1,fv),(7,vI (s.length:Int)),(8,vI 0)] ?_;obtain⟨o0,aA,aG⟩:=zB N;refine gG s f0 0 o0 aA iR h h1 nG nO ?_ ?_
 ·intro aT  heq aa;subst o0;refine zS<|wV [4] rfl<|zG<|yX ?_;exact xU aG (resT rfl) (λ_ h=>h) ⟨_,rfl,rfl,rfl⟩
 intro r0 I9 hs9 m9 aW le9 aY;subst aW;refine zW<|zH ?_;obtain rfl:=zD aG;exact fO aY
def jI(aK:List HA)(r:Bool):KT:=λkk I' ag v=>
 ∃v0,aK=ag/\v=tupV [v0]/\v0=.bool r
def xQ(s:(List zA))(f0:(zA->Option Bool)):Option (Bool):=do
 let y<-vV s f0;pure (decide (y>=0))
theorem qT:∀s f0 r,xQ s f0=some r->∀{I:Imm}{p c}{fv:Value}{aK:List HA},(S4 I p s c)->(FV1 Tryz.prog I aK fv f0)->RT 125 [vS p s c,fv] I aK (jI aK r):=by
 intro s f0 r N I p c fv aK h h1;unfold xQ at N;refine yL func125 λB=>wL []<|yW<|yG 2 [] [5,6] rfl<|bE N λy hy N=>zEg (hs1:=aK) (rest:=[]) rfl rfl rfl rfl (by kernel_rfl) rfl (co _).symm (fL s f0 _ hy h h1) ?_;rintro I0 av v2 k2 le - ⟨v0,rfl,rfl,rfl⟩ -;refine uD (ag:=aK) (co _) ?_;refine yK [] [4] rfl<|zG<|yX ?_;exact xU N (resT rfl) (λ_ h=>h) ⟨_,rfl,rfl,rfl⟩
def zA1(n0:Int):Option (Bool):=do
 let y<-wR n0 (-99) 99;pure (id y)
theorem zH9:∀n0 r,zA1 n0=some r->∀{I:Imm} ,RT 164 [vI n0] I [] (zU  r):=by
 intro n0 r N I;unfold zA1 at N;refine yL func164 λB=>wL []<|yW<|yG 1 [] [3] rfl<|bE N λy hy N=>vJ (vM n0 (-99) 99 _ hy ) λI0 le=>wB [] [(2,.bool y)]<|zG<|yX ?_;obtain rfl:=zD N;exact wC
def rB(c:Int):Option (Bool):=do
 let y<-wR c (-9) 9;pure (!y)
theorem zDG:∀c r,rB c=some r->∀{I:Imm} ,RT 165 [vI c] I [] (zU  r):=by
 intro c r N I;unfold rB at N;refine yL func165 λB=>wL []<|yW<|yG 1 [] [3] rfl<|bE N λy hy N=>vJ (vM c (-9) 9 _ hy ) λI0 le=>wB [] [(2,.bool (!y))]<|zG<|yX ?_;obtain rfl:=zD N;exact wC
def pJ(a0:zA):Option (Bool):=do
 let t2<-(do
  if((a0.Coefs.length:Int)==4) then
   let y<-zA1 a0.Const;if y then
    let y1<-xS a0.Coefs rB;pure (!y1)
   else pure false
  else
   pure false
    : Option Bool)
 pure (id t2)
theorem kE:∀a0 r,pJ a0=some r->∀{I:Imm}{p c},(S4 I p a0.Coefs c)->RT 127 [vA (cAff a0 p c)] I [] (zU  r):=by
 intro a0 r N I p c h;unfold pJ at N;refine yL func127 λB=>?_;have H:=iS I;refine yF<|vK (cAff a0 p c) ?_;intro b hb;refine wB [] []<|zG<|yB ?_;refine wK N [] (λt2=>[(2,.bool t2)]) (λo0 aA=>?_) ?_
 ·have H:=iS I;refine zJ<|yG 5 [0] [7] rfl<|xZ [7] aA ?_ ?_
  ·intro hc N;refine yG 7 [0] [9] rfl<|bE N λy hy N=>vJ (zH9 a0.Const _ hy ) ?_;intro aT le;have ⟨h,H⟩:=m2 le h H;refine yG 10 [] [12] rfl<|xZ [12] N ?_ ?_
   ·intro aE N;refine yG 12 [0] [14] rfl ?_;have hf0:FV1 Tryz.prog aT [] (.func (.func 165) ⟨[]⟩ ⟨[]⟩) rB:=by
     refine FV1.intro ?_;intro I1 aa x0 r u0 hF k0;obtain rfl:=k0;exact(zDG x0 r hF ).mono (by rintro k i hs u ⟨v0,rfl,rfl,h⟩;exact⟨rfl,h⟩)
    obtain⟨y1,ay,N⟩:=zB N;refine xF (rO a0.Coefs rB _ ay h hf0) ?_;rintro aP av v2 k2 aa - ⟨v01,rfl,rfl,rfl⟩ -;have H:=H.trans aa;exact yK [] [2] rfl<|xW zM<|yS<|zV (ct N H)
   intro aE N;exact wB [] [(2,vF)]<|xW zM<|yS<|zV (ct N H)
  intro hc N;exact wB [] [(2,vF)]<|xW zM<|yS<|zV (ct N H)
 intro t2 I0 aD aQ;refine zG<|yX ?_;obtain rfl:=zD aQ;exact wC
def yJ(r:Int):KT:=λkk I' ag v=>
 ∃v0,ag=[]/\v=tupV [v0]/\v0=.int .i64 r
def sB(a0:zA)(n0:Int):Option (Int):=do
 let t17<-(do
  if(decide (n0>0)) then
   let x<-idx a0.Coefs (W (n0 - 1));pure (x==0)
  else
   pure false
    : Option Bool)
 if t17 then sB a0 (W (n0 - 1))
 else pure (id n0)
 partial_fixpoint
theorem zCJ(a0:zA):∀(n0:Int) (o:Int),sB a0 n0=some o->∀{B}{I0 I:Imm}{Q p c}{b},I0.le I->(S4 I p a0.Coefs c)->NG Q->NO Q->(∀I' n01,o=n01->I0.le I'->T 21 B Q (.exit 0) I' [] [(3,vI n01)])->J Tryz.prog 21 B (nav (bodyOf f128) [1,1,0,0]) Q I [hB b (cAff a0 p c)] [(1,vP b 0),(3,vI n0)]:=by
 refine sB.partial_correctness a0 _ λaI ih n0 o N B I0 I Q p c b H h hg ho hx=>yV hg ho<|yB<|yB ?_;refine wK N [hB b (cAff a0 p c)] (λt17=>[(1,vP b 0),(3,vI n0),(17,.bool t17)]) (λo0 aA=>?_) ?_
 ·have H:=iS I;refine zJ<|yG 3 [] [9] rfl<|xZ [9] aA ?_ ?_
  ·intro hc N;refine yG 7 [0] [11,13] rfl<|bE N λx hy N=>xK rfl rfl h hy ?_;intro ad aN ap ak;obtain rfl:=ak;exact xA 0 ap [vI x] (vI x) rfl<|yK [] [17] rfl<|yS<|zV (ct N H)
  intro hc N;exact wB [] [(17,vF)]<|yS<|zV (ct N H)
 intro t17 I0 le aQ;have ⟨h,H⟩:=m2 le h H;refine zG<|yE aQ ?_ ?_
 ·intro aE N;exact zT<|xY<|zJ<|yK [] [3] rfl<|zL<|yU<|nD<|ih (W (n0 - 1)) _ N H h hg ho hx
 intro aE N;exact wM<|xW zM<|yS<|hx _ _ (zD N).symm H
def qB(a0:zA):Option (Int):=do
 let n01<-sB a0 (a0.Coefs.length:Int);pure (id n01)
theorem dC:∀a0 r,qB a0=some r->∀{I:Imm}{p c},(S4 I p a0.Coefs c)->RT 128 [vA (cAff a0 p c)] I [] (yJ  r):=by
 intro a0 r N I p c h;unfold qB at N;refine yL func128 λB=>yF<|vK (cAff a0 p c) ?_;intro b hb;refine wB [] []<|yW<|yK [0] [3] rfl<|zZ<|yI<|pE [(1,vP b 0),(3,vI (a0.Coefs.length:Int))] ?_;obtain⟨aO,aB,aG⟩:=zB N;refine zCJ a0 (a0.Coefs.length:Int) aO aB iR h nG nO ?_;intro aT n01 heq1 aa;subst aO;refine zS<|wV [2] rfl<|zG<|yX ?_;obtain rfl:=zD aG;exact wC
def qM(a0:zA)(x:Int):Option (Bool):=do
 let t3<-(do
  let y<-pJ a0;if(!y) then pure true
  else
   let y1<-qB a0;pure (decide (y1>x))
    : Option Bool)
 pure (id t3)
theorem zEm:∀a0 x r,qM a0 x=some r->∀{I:Imm}{p c}{ad:Addr},(S4 I p a0.Coefs c)->(At I ad [vI x])->RT 162 [vA (cAff a0 p c),.pointer (some ad)] I [] (zU  r):=by
 intro a0 x r N I p c ad h ap;unfold qM at N;refine yL func162 λB=>?_;have H:=iS I;refine yF<|vK (cAff a0 p c) ?_;intro b hb;refine wB [] []<|zG<|yB ?_;refine wK N [] (λt3=>[(3,.bool t3)]) (λo0 aA=>?_) ?_
 ·have H:=iS I;obtain⟨y,hy,N⟩:=zB aA;cases hc:(!y) with
  | true=>
   have hM0:=wQ hc N;refine wA [.p (vA (cAff a0 p c)) [0],.q (.bool y),.q vY,.q vY,.p undef [],.p undef [],.p undef [],.p undef [],.p vY []] [[],[(0,false)],[(1,false)],[(2,false)],[(3,false)],[(3,false),(4,false)],[(3,false)],[(3,false),(5,false),(6,false)],[(3,false),(7,false)]] [hB b (cAff a0 p c)] [] [(8,false)] (zY [0]) ?_ ?_
   ·refine Op<|Oq ?_<|Oq ?_<|Oq ?_<|O4<|Op<|On
    ·intro I1 hf aa;refine yP [4] rfl ?_;have H:=iS I1;have h:=h.mono aa;refine vJ (kE a0 _ hy h) ?_;intro aT le;have H:=H.trans le;exact yR H
    ·intro I1 hf aa;refine yP [5] rfl<|tD 3 [(6,.bool (!y))] ?_;rw[hc];exact yR iR
    intro I1 hf aa;exact eN [(6,vY)]<|tD 4 [(7,vY)]<|yR iR
   intro aP aa;refine eN [(12,vY)] ?_;have H:=H.trans aa;exact wB [] [(3,vY)]<|xW zM<|yS<|zV (ct hM0 H)
  | false=>
   have hM01:=wE hc N;obtain⟨y1,ay,N⟩:=zB hM01;refine wA [.p (vA (cAff a0 p c)) [0],.q (.bool y),.q vF,.q vF,.p (vA (cAff a0 p c)) [0],.q (vI y1),.q (vI x),.p (.bool (decide (y1>x))) [],.p (.bool (decide (y1>x))) []] [[],[(0,false)],[(1,false)],[(2,false)],[(3,false)],[(3,false),(4,false)],[(3,false)],[(3,false),(5,false),(6,false)],[(3,false),(7,false)]] [hB b (cAff a0 p c)] [] [(8,false)] (zY [0]) ?_ ?_
   ·refine Op<|Oq ?_<|Oq ?_<|Oq ?_<|Op<|Oq ?_<|Oq ?_<|O2<|On
    ·intro I1 hf aa;refine yP [4] rfl ?_;have H:=iS I1;have h:=h.mono aa;refine vJ (kE a0 _ hy h) ?_;intro aT le;have H:=H.trans le;exact yR H
    ·intro I1 hf aa;refine yP [5] rfl<|tD 3 [(6,.bool (!y))] ?_;rw[hc];exact yR iR
    ·intro I1 hf aa;exact eN [(6,vF)]<|tD 4 [(7,vF)]<|yR iR
    ·intro I1 hf aa;refine yP [7,8] rfl ?_;have H:=iS I1;have h:=h.mono aa;refine eO (dC a0 _ ay h) ?_;intro bx aD;have H:=H.trans aD;exact yR H
    intro I1 hf aa;refine yP [1,7] rfl ?_;have ap:=ap.mono aa;exact xA 0 ap [vI x] (vI x) rfl<|yR iR
   intro bI aH;refine yP [12] rfl ?_;have H:=H.trans aH;exact yK [] [3] rfl<|xW zM<|yS<|zV (ct N H)
 intro t3 I0 bf aQ;refine zG<|yX ?_;obtain rfl:=zD aQ;exact wC
def jK(list:(List zA))(ae:Int):Option (Bool):=do
 let t4<-(do
  let y<-wR (list.length:Int) 1 2;if y then
   let y1<-xQ list (λx0=>qM x0 ae);pure (!y1)
  else
   pure false
    : Option Bool)
 pure (id t4)
theorem zCK:∀list ae r,jK list ae=some r->∀{I:Imm}{p c},(S4 I p list c)->RT 123 [vS p list c,vI ae] I [] (zU  r):=by
 intro list ae r N I p c h;unfold jK at N;refine yL func123 λB=>?_;have H:=iS I;refine yF<|vK [vI ae] ?_;intro b hb;refine xM 0 rfl ?_;intro I0 le hl0;have ap:At I0 ⟨b,0,none⟩ [vI ae]:=At.of_blk hl0;have ⟨h,H⟩:=m2 le h H;refine wB [] []<|zG<|yB ?_;refine wK N [] (λt4=>[(4,.bool t4)]) (λo0 aA=>?_) ?_
 ·have H:=iS I0;refine zJ<|yG 2 [] [6] rfl ?_;obtain⟨y,hy,N⟩:=zB aA;refine vJ (vM (list.length:Int) 1 2 _ hy ) ?_;intro aP aa;have ⟨h,ap,H⟩:=m3 aa h ap H;refine yG 4 [] [8] rfl<|xZ [8] N ?_ ?_
  ·intro hc N;refine yG 6 [] [9,10] rfl ?_;have hf0:FV1 Tryz.prog aP [] (.func (.func 162) ⟨[]⟩ ⟨[vP b 0]⟩) (λx0=>qM x0 ae):=by
    refine FV1.intro ?_;intro I1 aa x0 r u0 hF k0;obtain⟨_,rfl,k0⟩:=k0;obtain⟨p1,c1,rfl,h2⟩:=yQ k0;exact(zEm x0 ae r hF h2 (ap.mono aa)).mono (by rintro k i hs u ⟨v0,rfl,rfl,h⟩;exact⟨rfl,h⟩)
   obtain⟨y1,ay,N⟩:=zB N;refine xF (qT list (λx0=>qM x0 ae) _ ay h hf0) ?_;rintro bx av v2 k2 aD - ⟨v02,rfl,rfl,rfl⟩ -;have H:=H.trans aD;exact yK [] [4] rfl<|yS<|zV (ct N H)
  intro hc N;exact wB [] [(4,vF)]<|yS<|zV (ct N H)
 intro t4 aT aH aQ;refine zG<|yX ?_;obtain rfl:=zD aQ;exact wC
def qC(nest:(List zE))(t7:Int):Option (Out Unit (Bool)):=do
 if(decide (t7<(nest.length:Int))) then
  let x<-idx nest t7;let t23<-(do
   let y<-jK x.Lo t7;if(!y) then pure true
   else
    let y1<-jK x.Hi t7;pure (!y1)
     : Option Bool)
  if t23 then pure (.ret false)
  else qC nest (W (t7+1))
 else pure (.done ())
 partial_fixpoint
theorem zD2(nest:(List zE)):∀(t7:Int) (o:Out Unit (Bool)),qC nest t7=some o->∀{B}{I0 I:Imm}{Q p c},I0.le I->(S4 I p nest c)->NG Q->NO Q->(∀I',o=(.done ())->I0.le I'->T 28 B Q (.exit 0) I' [] [(0,vS p nest c)])->(∀r I' ag m',o=(.ret r)->I0.le I'->RS Tryz.prog f85 B (zU  r) I' ag m'->T 28 B Q .ret I' ag m')->J Tryz.prog 28 B (nav (bodyOf f85) [1,0,1,0]) Q I [] [(0,vS p nest c),(5,vS p nest c),(6,vI (nest.length:Int)),(7,vI t7)]:=by
 refine qC.partial_correctness nest _ λaI ih t7 o N B I0 I Q p c H h hg ho hx hr=>yV hg ho<|yH [8] rfl<|zZ<|yE N ?_ ?_
 ·intro hc N;refine zT<|zZ<|yI<|yF<|yG 1 [] [9] rfl<|bE N λx hy N=>xK rfl rfl h hy ?_;intro ad aN ap ak;obtain⟨p1,c1,p2,c2,rfl,h1,h2⟩:=sX ak;refine xA 0 ap (cLoop x p1 c1 p2 c2) (vA (cLoop x p1 c1 p2 c2)) rfl<|wI zTwo ?_;intro b hb;refine yG 5 [] [3] rfl<|xI 0 (cLoop x p1 c1 p2 c2) rfl<|yA rfl<|zG<|yB ?_;refine wK N [] (λt23=>[(0,vS p nest c),(5,vS p nest c),(6,vI (nest.length:Int)),(7,vI t7),(23,.bool t23)]) (λo0 aA=>?_) ?_
  ·have H:=iS I;refine zJ<|yG 3 [0] [13,14] rfl ?_;obtain⟨y,ay,N⟩:=zB aA;refine vJ (zCK x.Lo t7 _ ay h1) ?_;intro aT le;have ⟨h2,H⟩:=m2 le h2 H;refine yG 6 [] [17] rfl<|xZ [17] N ?_ ?_
   ·intro aE N;exact wB [] [(23,vY)]<|xW zM<|yS<|zV (ct N H)
   intro aE N;refine yG 9 [0] [19,20] rfl<|bE N λy1 aF N=>vJ (zCK x.Hi t7 _ aF h2) ?_;intro aP aa;have H:=H.trans aa;exact yK [] [23] rfl<|xW zM<|yS<|zV (ct N H)
  intro t23 I0 aD aQ;have ⟨h,H⟩:=m2 aD h H;refine zG<|yE aQ ?_ ?_
  ·intro aV N;exact wL [(2,vF)]<|xD<|zW<|zH<|zH<|hr _ _ _ _ (zD N).symm H ⟨_,_,(resT rfl),zM,⟨_,rfl,rfl,rfl⟩⟩
  intro aV N;exact zT<|zL<|zG<|zJ<|yK [] [7] rfl<|yU<|nD<|ih (W (t7+1)) _ N H h hg ho hx hr
 intro hc N;exact wM<|yS<|hx _  (zD N).symm H
def gZ(nest:(List zE)):Option (Bool):=do
 match<-qC nest 0 with
 | .ret r0=>pure r0
 | .done _=>
  pure (decide ((nest.length:Int)<=4))
theorem zF8:∀nest r,gZ nest=some r->∀{I:Imm}{p c},(S4 I p nest c)->RT 85 [vS p nest c] I [] (zU  r):=by
 intro nest r N I p c h;unfold gZ at N;refine yL func85 λB=>wL []<|zZ<|yH [5,6,7] rfl<|xY<|pE [(0,vS p nest c),(5,vS p nest c),(6,vI (nest.length:Int)),(7,vI 0)] ?_;obtain⟨aO,aB,aG⟩:=zB N;refine zD2 nest 0 aO aB iR h nG nO ?_ ?_
 ·intro bx  heq1 aH;subst aO;refine zS<|wV [2] rfl<|zG<|yX ?_;obtain rfl:=zD aG;exact wC
 intro r0 I9 hs9 m9 aW le9 aY;subst aW;refine zW<|zH ?_;obtain rfl:=zD aG;exact fO aY
def zBa(r:List Int):KT:=λkk I' ag v=>
 ∃a0 c0 s0,ag=[.osl (.slice a0 r.length c0) (Rp.sz Int) s0]/\v=tupV [(.slice a0 r.length c0)]/\RepL (Rp.rep I') (Rp.sz Int) s0 r
def rP(s:List Int):Option (List Int):=app 8 ([]:List Int) s
theorem fA:∀s r,rP s=some r->∀{I:Imm}{p c},SL I (vS p s c) s->RT 52 [vS p s c] I [] (zBa r):=by
 intro s r N I p c h;unfold rP at N;obtain⟨aN,k0,k01⟩:=h;refine yL func52 λB=>?_;cases p with
 | none=>
  have hs:s=[]:=by
   rcases k0 with⟨hv,rfl⟩|⟨b0,off,len,cap,cc,hv,k2⟩
   ·cases s with
    | nil=>rfl
    | cons _ _=>simp at hv
   simp at hv
  subst hs;obtain⟨_,rfl⟩:=zCG N;refine yH [0,2] rfl<|zZ<|yF<|yG 1 [] [3] rfl<|zQr true rfl rfl ?_ rfl;exact wB [] [(4,vY)]<|zG<|zDS rfl<|wL [(2,z0)]<|xD<|zH<|xW (dA (Rp.sz Int))<|zJ3 (resT rfl) (zX [0] rfl (by decide)) ⟨none,0,[],rfl,rfl,rfl⟩
 | some ad=>
  refine yH [0,2] rfl<|zZ<|yF<|yG 1 [] [3] rfl<|zQr false rfl rfl ?_ rfl;refine yK [] [0,4] rfl<|zG<|zBH rfl<|zT<|yW<|uP [] Int ?_;intro b2 hb2;have h1:RL I [] ([]:List Int):=rfl;exact yG 2 [] [6] rfl<|qA 3 1 0 rfl rfl rfl h1 (.inl k0) k01 N λp1 c1 cs h2=>yK [] [2] rfl<|xD<|zJ3 (resT rfl) (zX [0] rfl (by decide)) ⟨_,_,_,rfl,rfl,h2⟩
def sR(a0:zA)(ah:(List Int))(sum:Int)(t12:Int):Option (Int):=do
 if(decide (t12<(ah.length:Int))) then
  let x<-idx ah t12;let x1<-idx a0.Coefs t12;sR a0 ah (W (sum+(W (x1*x)))) (W (t12+1))
 else pure (id sum)
 partial_fixpoint
theorem zCc(a0:zA)(ah:(List Int)):∀(sum:Int) (t12:Int) (o:Int),sR a0 ah sum t12=some o->∀{B}{I0 I:Imm}{Q p c p1 c1}{b},I0.le I->(S4 I p1 ah c1)->(S4 I p a0.Coefs c)->NG Q->NO Q->(∀I' sum1,o=sum1->I0.le I'->T 28 B Q (.exit 0) I' [] [(5,vI sum1)])->J Tryz.prog 28 B (nav (bodyOf f133) [1,1,0,1,0]) Q I [hB b (cAff a0 p c)] [(2,vP b 0),(5,vI sum),(10,vS p1 ah c1),(11,vI (ah.length:Int)),(12,vI t12)]:=by
 refine sR.partial_correctness a0 ah _ λaI ih sum t12 o N B I0 I Q p c p1 c1 b H h1 h hg ho hx=>yV hg ho<|yH [13] rfl<|zZ<|yE N ?_ ?_
 ·intro hc N;refine zT<|zZ<|yI<|yF<|yG 1 [] [14] rfl<|bE N λx hy N=>xK rfl rfl h1 hy ?_;intro ad aN ap ak;obtain rfl:=ak;refine xA 0 ap [vI x] (vI x) rfl<|yK [] [6,7] rfl<|zG<|zJ<|yG 4 [0] [17,19,20] rfl<|bE N λx1 ay N=>xK rfl rfl h ay ?_;intro ad1 bm ar au;obtain rfl:=au;exact xA 0 ar [vI x1] (vI x1) rfl<|yK [] [5] rfl<|zL<|zG<|zJ<|yK [] [12] rfl<|yU<|nD<|ih (W (sum+(W (x1*x)))) (W (t12+1)) _ N H h1 h hg ho hx
 intro hc N;exact wM<|xW zM<|yS<|hx _ _ (zD N).symm H
def sC(a0:zA)(ah:(List Int)):Option (Int):=do
 let sum1<-sR a0 ah a0.Const 0;pure (id sum1)
theorem kF:∀a0 ah r,sC a0 ah=some r->∀{I:Imm}{p c p1 c1},(S4 I p a0.Coefs c)->(S4 I p1 ah c1)->RT 133 [vA (cAff a0 p c),vS p1 ah c1] I [] (yJ  r):=by
 intro a0 ah r N I p c p1 c1 h h1;unfold sC at N;refine yL func133 λB=>yF<|vK (cAff a0 p c) ?_;intro b hb;refine wB [] []<|yW<|yK [0] [5] rfl<|zZ<|yH [10,11,12] rfl<|xY<|pE [(2,vP b 0),(5,vI a0.Const),(10,vS p1 ah c1),(11,vI (ah.length:Int)),(12,vI 0)] ?_;obtain⟨o0,aA,aG⟩:=zB N;refine zCc a0 ah a0.Const 0 o0 aA iR h1 h nG nO ?_;intro I0 sum1 heq le;subst o0;refine zS<|wV [4] rfl<|zG<|yX ?_;obtain rfl:=zD aG;exact wC
def zAB(r:Int×Int):KT:=λkk I' ag v=>
 ∃v0 v1,ag=[]/\v=tupV [v0,v1]/\v0=.int .i64 r.1/\v1=.int .i64 r.2
def qD(l:zE)(ah:(List Int))(lo:Int)(t27:Int):Option (Int):=do
 if(decide (t27<(l.Lo.length:Int))) then
  let x2<-idx l.Lo t27;let y2<-sC x2 ah;qD l ah (if y2>lo then y2 else lo) (W (t27+1))
 else pure (id lo)
 partial_fixpoint
theorem zD3(l:zE)(ah:(List Int)):∀(lo:Int) (t27:Int) (o:Int),qD l ah lo t27=some o->∀{B}{I0 I:Imm}{Q}{y1:Int}{p c p1 c1 p2 c2}{b},I0.le I->(S4 I p2 ah c2)->(S4 I p l.Lo c)->(S4 I p1 l.Hi c1)->NG Q->NO Q->(∀I' lo1,o=lo1->I0.le I'->T 52 B Q (.exit 0) I' [hB b (cLoop l p c p1 c1)] [(1,vS p2 ah c2),(2,vP b 0),(6,vI lo1),(7,vI y1)])->J Tryz.prog 52 B (nav (bodyOf f124) [1,1,0,1,0]) Q I [hB b (cLoop l p c p1 c1)] [(1,vS p2 ah c2),(2,vP b 0),(6,vI lo),(7,vI y1),(25,vS p l.Lo c),(26,vI (l.Lo.length:Int)),(27,vI t27)]:=by
 refine qD.partial_correctness l ah _ λaI ih lo t27 o N B I0 I Q y1 p c p1 c1 p2 c2 b H h2 h h1 hg ho hx=>yV hg ho<|yH [28] rfl<|zZ<|yE N ?_ ?_
 ·intro hc N;refine zT<|zZ<|yI<|yF<|bE N λx2 bk N=>xK rfl rfl h bk ?_;intro ad2 bO aS aZ;obtain⟨p5,c5,rfl,h7⟩:=yQ aZ;refine xA 0 aS (cAff x2 p5 c5) (vA (cAff x2 p5 c5)) rfl<|wI [z0,vI 0] ?_;intro b1 hb1;refine xI 0 (cAff x2 p5 c5) rfl<|yA rfl<|zG<|zJ<|sW 3 [0] [(31,vI lo),(32,vA (cAff x2 p5 c5)),(33,vS p2 ah c2)]<|bE N λy2 bC N=>eO (kF x2 ah _ bC h7 h2) ?_;intro bx aH;have ⟨h2,h,h1,H⟩:=m4 aH h2 h h1 H;exact yK [] [6] rfl<|zL<|zG<|zJ<|yK [] [27] rfl<|yU<|jS (zX [1] rfl (by decide))<|nD<|ih (if y2>lo then y2 else lo) (W (t27+1)) _ N H h2 h h1 hg ho hx
 intro hc N;exact wM<|yS<|hx _ _ (zD N).symm H
def qE(l:zE)(ah:(List Int))(hi:Int)(t40:Int):Option (Int):=do
 if(decide (t40<(l.Hi.length:Int))) then
  let x3<-idx l.Hi t40;let y3<-sC x3 ah;qE l ah (if y3<hi then y3 else hi) (W (t40+1))
 else pure (id hi)
 partial_fixpoint
theorem zD4(l:zE)(ah:(List Int)):∀(hi:Int) (t40:Int) (o:Int),qE l ah hi t40=some o->∀{B}{I0 I:Imm}{Q}{lo1:Int}{p1 c1 p2 c2},I0.le I->(S4 I p2 ah c2)->(S4 I p1 l.Hi c1)->NG Q->NO Q->(∀I' hi1,o=hi1->I0.le I'->T 52 B Q (.exit 2) I' [] [(6,vI lo1),(7,vI hi1)])->J Tryz.prog 52 B (nav (bodyOf f124) [1,1,1,0,1,0]) Q I [] [(1,vS p2 ah c2),(6,vI lo1),(7,vI hi),(38,vS p1 l.Hi c1),(39,vI (l.Hi.length:Int)),(40,vI t40)]:=by
 refine qE.partial_correctness l ah _ λaI ih hi t40 o N B I0 I Q lo1 p1 c1 p2 c2 H h2 h1 hg ho hx=>yV hg ho<|yH [41] rfl<|zZ<|yE N ?_ ?_
 ·intro aE N;refine zT<|zZ<|yI<|yF<|bE N λx3 hy6 N=>xK rfl rfl h1 hy6 ?_;intro ad3 ccs3 hat3 bB;obtain⟨p6,c6,rfl,h9⟩:=yQ bB;refine xA 0 hat3 (cAff x3 p6 c6) (vA (cAff x3 p6 c6)) rfl<|wI [z0,vI 0] ?_;intro b2 hb2;refine xI 0 (cAff x3 p6 c6) rfl<|yA rfl<|zG<|zJ<|sW 3 [0] [(44,vI hi),(45,vA (cAff x3 p6 c6)),(46,vS p2 ah c2)]<|bE N λy3 hy7 N=>eO (kF x3 ah _ hy7 h9 h2) ?_;intro bL bu;have ⟨h2,h1,H⟩:=m3 bu h2 h1 H;exact yK [] [7] rfl<|zL<|zG<|zJ<|yK [] [40] rfl<|yU<|jS zM<|nD<|ih (if y3<hi then y3 else hi) (W (t40+1)) _ N H h2 h1 hg ho hx
 intro aE N;exact wM<|yS<|hx _ _ (zD N).symm H
def fB(l:zE)(ah:(List Int)):Option (Int×Int):=do
 let x<-idx l.Lo 0;let y<-sC x ah;let x1<-idx l.Hi 0;let y1<-sC x1 ah;let lo1<-qD l ah y 0;let hi1<-qE l ah y1 0;pure (lo1,hi1)
theorem zF9:∀l ah r,fB l ah=some r->∀{I:Imm}{p c p1 c1 p2 c2},(S4 I p l.Lo c)->(S4 I p1 l.Hi c1)->(S4 I p2 ah c2)->RT 124 [vA (cLoop l p c p1 c1),vS p2 ah c2] I [] (zAB  r):=by
 intro l ah r N I p c p1 c1 p2 c2 h h1 h2;unfold fB at N;refine yL func124 λB=>?_;have H:=iS I;refine yF<|vK (cLoop l p c p1 c1) ?_;intro b hb;refine wB [] []<|zG<|yB ?_;obtain⟨x,hy,N⟩:=zB N;obtain⟨y,ay,N⟩:=zB N;obtain⟨x1,aF,N⟩:=zB N;obtain⟨y1,aX,N⟩:=zB N;refine wA [.p (vP b 0) [],.p (vS p l.Lo c) [0],.x (ePAff x),.x (eVAff x),.p (vS p2 ah c2) [],.q (vI y),.p (vP b 1) [],.p (vS p1 l.Hi c1) [0],.x (ePAff x1),.x (eVAff x1),.p (vS p2 ah c2) [],.q (vI y1),.p (vI y) []] [[],[(0,false)],[(1,false)],[(2,false)],[],[(3,false),(4,false)],[],[(6,false)],[(7,false)],[(8,false)],[],[(9,false),(10,false)],[(5,false)]] [hB b (cLoop l p c p1 c1)] [] [(11,false),(12,false)] (zY [0]) ?_ ?_
 ·refine O2<|Ox ?_<|Ox ?_<|Op<|Oq ?_<|O2<|Ox ?_<|Ox ?_<|Op<|Oq ?_<|Op<|On
  ·intro I1 hf aa;refine yP [13] rfl ?_;have h:=h.mono aa;refine xK rfl rfl h hy ?_;intro ad aN ap ak;obtain⟨p3,c3,rfl,h3⟩:=yQ ak;exact yM [] iR ⟨_,_,_,rfl,rfl,ap,h3⟩
  ·rintro I1 hf aa _ _ ⟨ad,p3,c3,rfl,rfl,ap,h3⟩;exact yP [14] rfl<|xA 0 ap (cAff x p3 c3) (vA (cAff x p3 c3)) rfl<|yM [] iR ⟨_,_,rfl,rfl,h3⟩
  ·rintro I1 hf aa _ _ ⟨p31,c31,rfl,rfl,h31⟩;refine yP [15,16] rfl ?_;have H:=iS I1;have h2:=h2.mono aa;refine eO (kF x ah _ ay h31 h2) ?_;intro I0 le;have H:=H.trans le;exact yR H
  ·intro I1 hf aa;refine yP [19] rfl ?_;have h1:=h1.mono aa;refine xK rfl rfl h1 aF ?_;intro ad1 bm ar au;obtain⟨p4,c4,rfl,h5⟩:=yQ au;exact yM [] iR ⟨_,_,_,rfl,rfl,ar,h5⟩
  ·rintro I1 hf aa _ _ ⟨ad1,p4,c4,rfl,rfl,ar,h5⟩;exact yP [20] rfl<|xA 0 ar (cAff x1 p4 c4) (vA (cAff x1 p4 c4)) rfl<|yM [] iR ⟨_,_,rfl,rfl,h5⟩
  rintro I1 hf aa _ _ ⟨p41,c41,rfl,rfl,h51⟩;refine yP [21,22] rfl ?_;have H:=iS I1;have h2:=h2.mono aa;refine eO (kF x1 ah _ aX h51 h2) ?_;intro aT aa;have H:=H.trans aa;exact yR H
 intro aP aD;refine yP [1,2,6,23] rfl ?_;have ⟨h2,h,h1⟩:=m3 aD h2 h h1;refine yK [] [7] rfl<|zZ<|yF<|yK [0] [25,26,27] rfl<|xY<|pE [(1,vS p2 ah c2),(2,vP b 0),(6,vI y),(7,vI y1),(25,vS p l.Lo c),(26,vI (l.Lo.length:Int)),(27,vI 0)] ?_;obtain⟨o0,aA,aG⟩:=zB N;refine zD3 l ah y 0 o0 aA iR h2 h h1 nG nO ?_;intro bI lo1 heq bf;subst o0;have ⟨h2,h,h1⟩:=m3 bf h2 h h1;refine zS<|zZ<|yF<|yK [0] [38,39,40] rfl<|xY<|jS (zY [] (ag:=[]))<|pE [(1,vS p2 ah c2),(6,vI lo1),(7,vI y1),(38,vS p1 l.Hi c1),(39,vI (l.Hi.length:Int)),(40,vI 0)] ?_;obtain⟨aO,aB,hMl1⟩:=zB aG;refine zD4 l ah y1 0 aO aB iR h2 h1 nG nO ?_;intro I06 hi1 heq1 bG;subst aO;refine zS<|wV [4,5] rfl<|zG<|yX ?_;exact xU hMl1 (resU rfl rfl) zM ⟨_,_,rfl,rfl,rfl,rfl⟩
def fS(b0:Nat)(r:Bool×sY):KT:=λkk I' ag v=>
 ∃v0 x0_0 y0_0 x0_2 y0_2 z0_2,ag=[.blk b0 ⟨[.slice x0_0 r.2.nest.length y0_0,.int .i64 r.2.steps,.slice x0_2 r.2.out.length y0_2]⟩,.osl (.slice x0_2 r.2.out.length y0_2) (Rp.sz (List Int)) z0_2]/\v=tupV [v0]/\v0=.bool r.1/\SL I' (.slice x0_0 r.2.nest.length y0_0) r.2.nest/\RepL (Rp.rep I') (Rp.sz (List Int)) z0_2 r.2.out
mutual
def sO(w0:sY)(ah:(List Int)):Option (Bool×sY):=do
 if((ah.length:Int)==(w0.nest.length:Int)) then
  let y<-rP ah;let l<-app 24 w0.out ([y]:List (List Int));pure ((decide ((l.length:Int)<=120)),(sY.mk w0.nest w0.steps l))
 else
  let x<-idx w0.nest (ah.length:Int);let (y2,y3)<-fB x ah
  match<-rQ (same ah) (same y3) (same y2) w0.nest w0.steps w0.out with
  | .ret r0=>pure r0
  | .done (nest1,steps1,aj)=>
   pure (true,(sY.mk nest1 steps1 aj))
 partial_fixpoint
def rQ(ah:(List Int))(y3:Int)(n0:Int)(nest:List zE)(steps:Int)(out:List (List Int)):Option (Out (List zE×Int×List (List Int)) (Bool×sY)):=do
 if(decide (n0<y3)) then
  let (t74,nest2,steps2,aq)<-(do
   if(decide ((W ((W (steps+1))+1))>1200)) then pure (true,nest,(W (steps+1)),out)
   else
    let y4<-rP ah;let l1<-app 8 y4 ([n0]:List Int);let (y6,y7)<-sO (sY.mk nest (W (steps+1)) out) (same l1);pure ((!y6),y7.nest,y7.steps,y7.out)
     : Option (Bool×List zE×Int×List (List Int)))
  if t74 then pure (.ret (false,(sY.mk nest2 steps2 aq)))
  else rQ (same ah) (same y3) (W (n0+1)) (same nest2) (same steps2) (same aq)
 else pure (.done (nest,steps,out))
 partial_fixpoint
end
theorem zDH:(∀(w0:sY) (ah:(List Int)) r,sO w0 ah=some r->∀{I:Imm}{r0}{p c p1 c1 cs p2 c2},(S4 I p w0.nest c)->(RL I cs w0.out)->(S4 I p2 ah c2)->RT 86 [vP r0 0,vS p2 ah c2] I [hB r0 [vS p w0.nest c,vI w0.steps,vS p1 w0.out c1],hO (List Int) (vS p1 w0.out c1) cs] (fS r0 r))/\(∀(ah:(List Int)) (y3:Int) (n0:Int) (nest:List zE) (steps:Int) (out:List (List Int)) o,rQ ah y3 n0 nest steps out=some o->∀{B}{I0 I:Imm}{Q}  {r0}{p2 c2 p7 c7 p8 c8 aU},I0.le I->(S4 I p2 ah c2)->(S4 I p7 nest c7)->(RL I aU out)->NG Q->NO Q->(∀I' nest1 steps1 aj p9 c9 bb bd bv,o=(.done (nest1,steps1,aj))->I0.le I'->(S4 I' p9 nest1 c9)->(RL I' bv aj)->T 75 B Q (.exit 0) I' [hB r0 [vS p9 nest1 c9,vI steps1,vS bb aj bd],hO (List Int) (vS bb aj bd) bv] [])->(∀r I' ag m',o=(.ret r)->I0.le I'->RS Tryz.prog f86 B (fS r0 r) I' ag m'->T 75 B Q .ret I' ag m')->J Tryz.prog 75 B (nav (bodyOf f86) [1,1,1,0,1,0]) Q I [hB r0 [vS p7 nest c7,vI steps,vS p8 out c8],hO (List Int) (vS p8 out c8) aU] [(0,vP r0 0),(1,vS p2 ah c2),(6,vI y3),(7,vI n0)]):=by
 refine sO.mutual_partial_correctness _ _ ?_ ?_
 ·intro F_impl_walking_walk_l1 ih_impl_walking_walk_l1 w0 ah r N I r0 p c p1 c1 cs p2 c2 h h1 h2;refine yL func86 λB=>?_;have H:=iS I;refine wL []<|zZ<|yF<|yK [0] [15] rfl<|zG<|yE N ?_ ?_
  ·intro hc N;refine yB ?_;obtain⟨y,hy,N⟩:=zB N;obtain⟨l,ay,N⟩:=zB N;refine wA [.p (vP r0 0) [],.p (vP r0 0) [],.p (vP r0 0) [],.p (vP r0 2) [],.p (vS p1 w0.out c1) [0],.p (vS p2 ah c2) [],.x (λI' v hx=>∃p3 c3 az,v=vS p3 y c3/\hx=[hO Int (vS p3 y c3) az]/\(RL I' az y)),.x (λI' v hx=>∃b,v=vS (some ⟨b,0,none⟩) ([y]:List (List Int)) 1/\hx=[]/\(SL I' (vS (some ⟨b,0,none⟩) ([y]:List (List Int)) 1) ([y]:List (List Int)))),.x (λI' v hx=>∃p4 c4 aM,v=vS p4 l c4/\hx=[hO (List Int) (vS p4 l c4) aM]/\(RL I' aM l))] [[],[],[(1,false)],[(2,false)],[(3,false)],[],[(5,false)],[(6,true)],[(4,false),(7,false),(12,true)]] [hB r0 [vS p w0.nest c,vI w0.steps,vS p1 w0.out c1]] [[hO (List Int) (vS p1 w0.out c1) cs]] [(0,false),(8,true)] (zY [0,1]) ?_ ?_
   ·refine O4<|O2<|Ox ?_<|Ox ?_<|Ox ?_<|On
    ·intro I1 hf aa;refine yP [21] rfl ?_;have H:=iS I1;have h2:=h2.mono aa;refine xF (fA ah _ hy h2) ?_;rintro I0 av v2 k2 le - ⟨p3,c3,az,rfl,rfl,h3⟩ -;have H:=H.trans le;exact yM [hO Int (vS p3 y c3) az] H ⟨_,_,_,rfl,rfl,h3⟩
    ·rintro I1 hf aa _ _ ⟨p3,c3,az,rfl,rfl,h3⟩;refine yP [22] rfl ?_;have H:=iS I1;refine xM 0 rfl ?_;intro aT aa hl0;have h4:=SL.of_frozen hl0 aa h3;have H:=H.trans aa;refine kM (rc y ⟨_,rfl,h4⟩ rN) ?_;intro b aP aD h6;have H:=H.trans aD;exact yM [] H ⟨_,rfl,rfl,h6⟩
    rintro I1 hf aa _ _ ⟨rfl,rfl⟩ _ _ ⟨b,rfl,rfl,h6⟩ _ _ rfl;refine yP [20,23] rfl ?_;have h1:=iM aa h1;obtain⟨aN,k0,k01⟩:=h6;have h6:SL I1 (vS (some ⟨b,0,none⟩) ([y]:List (List Int)) 1) ([y]:List (List Int)):=⟨_,k0,k01⟩;exact qA 28 1 0 rfl rfl rfl h1 (.inl k0) k01 ay λp4 c4 aM h7=>uD (ag:=(hO (List Int) (vS p4 l c4) aM::hB r0 [vS p w0.nest c,vI w0.steps,vS p1 w0.out c1]::hf)) rfl<|yM [hO (List Int) (vS p4 l c4) aM] iR ⟨_,_,_,rfl,rfl,h7⟩
   rintro bx aH _ _ ⟨rfl,rfl⟩ _ _ ⟨p4,c4,aM,rfl,rfl,h7⟩;refine yP [0,16,24] rfl ?_;have h:=h.mono aH;refine yG 11 [] [26] rfl<|xI 1 [vS p w0.nest c,vI w0.steps,vS p4 l c4] rfl<|yA rfl<|yW<|yK [1] [4] rfl<|xD<|zH ?_;exact xU N (resT rfl) (zX [1,0] rfl (by decide)) ⟨_,_,_,_,_,_,rfl,rfl,rfl,h,h7⟩
  intro hc N;refine zT<|yW<|yG 6 [0] [37,39] rfl<|bE N λx aF N=>xK rfl rfl h aF ?_;intro ad bm ap ak;obtain⟨p5,c5,p6,c6,rfl,h8,h9⟩:=sX ak;refine xA 0 ap (cLoop x p5 c5 p6 c6) (vA (cLoop x p5 c5 p6 c6)) rfl<|yG 9 [] [42] rfl ?_;obtain⟨⟨y2,y3⟩,aX,N⟩:=zB N;refine xF (zF9 x ah _ aX h8 h9 h2) ?_;rintro bI av v2 k2 bf - ⟨v02,v03,rfl,rfl,rfl,rfl⟩ -;have ⟨h2,h,h1⟩:=m3 bf h2 h h1;refine yK [] [5,6] rfl<|zZ<|yH [7] rfl<|xY<|pE [(0,vP r0 0),(1,vS p2 ah c2),(6,vI y3),(7,vI y2)] ?_;obtain⟨aO,aB,aG⟩:=zB N;refine ih_impl_walking_walk_l1 ah y3 y2 w0.nest w0.steps w0.out aO aB iR h2 h h1 nG nO ?_ ?_
  ·intro I09 nest1 steps1 aj p9 c9 bb bd bv heq1 le9 h14 h15;subst aO;refine zS<|zEP [(4,vY)]<|zG<|yX ?_;exact xU aG (resT rfl) (zX [0,1] rfl (by decide)) ⟨_,_,_,_,_,_,rfl,rfl,rfl,h14,h15⟩
  intro r0 I9 hs9 m9 aW le9 aY;subst aW;refine zW<|zH ?_;obtain rfl:=zD aG;exact fO aY
 intro F_impl_walking_walk F_impl_walking_walk_l1 ih_impl_walking_walk ih_impl_walking_walk_l1 ah y3 n0 nest steps out o N B I0 I Q r0 p2 c2 p7 c7 p8 c8 aU H h2 h12 h13 hg ho hx hr;refine yV hg ho<|yB<|yH [49] rfl<|zG<|yE N ?_ ?_
 ·intro aE N;refine zT<|zZ<|yI<|yF<|yG 7 [0] [56,58] rfl<|xI 0 [vS p7 nest c7,vI (W (steps+1)),vS p8 out c8] rfl<|yA rfl<|zG<|yB ?_;obtain⟨o0,aA,aQ⟩:=zB N;refine qQ (λI' ag m'=>∃(t74:Bool) (nest2:List zE) (steps2:Int) (aq:List (List Int)) (aR:Option Addr) (bh:Nat) (bz:Option Addr) (bo:Nat) (bH:List Value),o0=(t74,nest2,steps2,aq)/\I.le I'/\(S4 I' aR nest2 bh)/\(RL I' bH aq)/\ag=[hB r0 [vS aR nest2 bh,vI steps2,vS bz aq bo],hO (List Int) (vS bz aq bo) bH]/\m'=[(0,vP r0 0),(1,vS p2 ah c2),(6,vI y3),(7,vI n0),(74,.bool t74)]) ?_ ?_
  ·have H:=iS I;refine zJ<|yG 7 [0] [65] rfl<|xZ [65] aA ?_ ?_
   ·intro aV N;exact wB [] [(74,vY)]<|yS<|zV ⟨_,_,_,_,_,_,_,_,_,(zD N).symm,H,h12,h13,rfl,rfl⟩
   intro aV N;refine yG 9 [] [66,67] rfl<|bE N λy4 bk N=>xF (fA ah _ bk h2) ?_;rintro I06 av v2 k2 bu - ⟨bj,bw,cs6,rfl,rfl,h18⟩ -;have ⟨h12,h13,H⟩:=m3 bu h12 h13 H;refine yG 11 [] [69] rfl<|uP [vI n0] Int ?_;intro b1 hb1;have h19:RL I06 [vI n0] ([n0]:List Int):=rI [n0];obtain⟨l1,bC,N⟩:=zB N;refine qA 3 1 1 rfl rfl rfl h18 (.inr ⟨0,rfl⟩) h19 bC λp14 c14 cs7 h20=>tX (zY [1,2,3] (ag:=[hO Int (vS p14 l1 c14) cs7,hB r0 [vS p7 nest c7,vI (W (steps+1)),vS p8 out c8],hO (List Int) (vS p8 out c8) aU]))<|xM 0 rfl ?_;intro I07 bG hl02;have h21:=SL.of_frozen hl02 bG h20;have ⟨h12,h13,H⟩:=m3 bG h12 h13 H;obtain⟨⟨y6,y7⟩,hy6,N⟩:=zB N;refine sG (ih_impl_walking_walk (sY.mk nest (W (steps+1)) out) l1 _ hy6 h12 h13 h21) rfl ?_;rintro I08 av v2 k2 le7 - ⟨v04,p15,c15,p16,c16,cs8,rfl,rfl,rfl,h23,h24⟩ -;have H:=H.trans le7;exact yK [] [74] rfl<|yS<|zV ⟨_,_,_,_,_,_,_,_,_,(zD N).symm,H,h23,h24,rfl,rfl⟩
  rintro bL av m2 ⟨t74,nest2,steps2,aq,aR,bh,bz,bo,bH,heq,le8,h16,h17,rfl,rfl⟩;subst o0;have ⟨h2,H⟩:=m2 le8 h2 H;refine zG<|yE aQ ?_ ?_
  ·intro bD N;exact wL [(4,vF)]<|xD<|zW<|zH<|zH<|hr _ _ _ _ (zD N).symm H ⟨_,_,(resT rfl),(zX [0,1] rfl (by decide)),⟨_,_,_,_,_,_,rfl,rfl,rfl,h16,h17⟩⟩
  intro bD N;exact zT<|zL<|zG<|zJ<|yK [] [7] rfl<|yU<|nD<|ih_impl_walking_walk_l1 ah y3 (W (n0+1)) nest2 steps2 aq _ N H h2 h16 h17 hg ho hx hr
 intro aE N;exact wM<|yS<|hx _ _ _ _ _ _ _ _ _ (zD N).symm H h12 h13
theorem zD5:∀w0 ah r,sO w0 ah=some r->∀{I:Imm}{r0}{p c p1 c1 cs p2 c2},(S4 I p w0.nest c)->(RL I cs w0.out)->(S4 I p2 ah c2)->RT 86 [vP r0 0,vS p2 ah c2] I [hB r0 [vS p w0.nest c,vI w0.steps,vS p1 w0.out c1],hO (List Int) (vS p1 w0.out c1) cs] (fS r0 r):=zDH.1
def zAn(r:(List (List Int))×Bool):KT:=λkk I' ag v=>
 ∃v0 v1,ag=[]/\v=tupV [v0,v1]/\SL I' v0 r.1/\v1=.bool r.2
def jT(nest:(List zE)):Option ((List (List Int))×Bool):=do
 let y<-gZ nest;if(!y) then pure (([]:List (List Int)),false)
 else
  let (y2,y3)<-sO (sY.mk nest 0 ([]:List (List Int))) ([]:List Int);if(!y2) then pure (([]:List (List Int)),false)
  else pure (y3.out,true)
theorem zEn:∀nest r,jT nest=some r->∀{I:Imm}{p c},(S4 I p nest c)->RT 46 [vS p nest c] I [] (zAn  r):=by
 intro nest r N I p c h;unfold jT at N;refine yL func46 λB=>wL []<|zZ<|yF<|yG 1 [] [5] rfl<|bE N λy hy N=>vJ (zF8 nest _ hy h) ?_;intro I0 le;have h:=h.mono le;refine yK [] [7] rfl<|zG<|yE N ?_ ?_
 ·intro hc N;refine yH [2,3] rfl<|xD<|zH ?_;exact xU N (resU rfl rfl) zM ⟨_,_,rfl,rfl,(SL.nil _),rfl⟩
 intro hc N;refine zT<|yW<|yG 2 [] [9] rfl<|vK [vS p nest c,vI 0,z0] ?_;intro b hb;refine yK [] [4] rfl<|zZ<|yF<|yG 1 [] [11] rfl<|zRD (List Int) λh2=>?_;refine tX (zY [1,0] (ag:=[hB b [vS p nest c,vI 0,vS none ([]:List (List Int)) 0],hO (List Int) (vS none ([]:List (List Int)) 0) []])) ?_;obtain⟨⟨y2,y3⟩,ay,N⟩:=zB N;refine sG (zD5 (sY.mk nest 0 ([]:List (List Int))) ([]:List Int) _ ay h h2 (SL.nil _)) rfl ?_;rintro aT av v2 k2 aa - ⟨v01,p1,c1,p2,c2,cs,rfl,rfl,rfl,h4,h5⟩ -;refine yK [] [13] rfl<|zG<|yE N ?_ ?_
 ·intro aE N;refine yH [2,3] rfl<|xD<|zH ?_;exact xU N (resU rfl rfl) zM ⟨_,_,rfl,rfl,(SL.nil _),rfl⟩
 intro aE N;refine zT<|yW<|yK [0] [2,3] rfl<|xD<|yZ 1 rfl ?_;intro aP aD hl0;have h6:=SL.of_frozen hl0 aD h5;exact xU N (resU rfl rfl) zM ⟨_,_,rfl,rfl,h6,rfl⟩
def oY(aK:List HA)(r:Int):KT:=λkk I' ag v=>
 ∃v0,aK=ag/\v=tupV [v0]/\v0=.int .i64 r
def xN(s:(List zP))(f0:(zP->Option Bool))(t8:Int):Option (Out Unit (Int)):=do
 if(decide (t8<(s.length:Int))) then
  let x<-idx s t8;let y<-f0 x;if y then pure (.ret t8)
  else xN s f0 (W (t8+1))
 else pure (.done ())
 partial_fixpoint
theorem fT(s:(List zP))(f0:(zP->Option Bool)):∀(t8:Int) (o:Out Unit (Int)),xN s f0 t8=some o->∀{B}{I0 I:Imm}{Q p c}{fv:Value}{aK:List HA},I0.le I->(S4 I p s c)->(FV1 Tryz.prog I aK fv f0)->NG Q->NO Q->(∀I',o=(.done ())->I0.le I'->T 19 B Q (.exit 0) I' aK [])->(∀r I' ag m',o=(.ret r)->I0.le I'->RS Tryz.prog f87 B (oY aK r) I' ag m'->T 19 B Q .ret I' ag m')->J Tryz.prog 19 B (nav (bodyOf f87) [1,0,1,0]) Q I aK [(0,vS p s c),(1,fv),(7,vI (s.length:Int)),(8,vI t8)]:=by
 refine xN.partial_correctness s f0 _ λaI ih t8 o N B I0 I Q p c fv aK H h h1 hg ho hx hr=>yV hg ho<|yH [9] rfl<|zZ<|yE N ?_ ?_
 ·intro hc N;refine zT<|zZ<|yI<|yH [5] rfl<|yW<|yG 3 [] [11,12,13] rfl<|bE N λx hy N=>xK rfl rfl h hy ?_;intro ad aN ap ak;obtain⟨p1,c1,p2,c2,p3,c3,p4,c4,rfl,h2,h3,h4,h5⟩:=sA ak;refine xA 0 ap (cStmt x p1 c1 p2 c2 p3 c3 p4 c4) (vA (cStmt x p1 c1 p2 c2 p3 c3 p4 c4)) rfl<|bE N λy ay N=>zKD rfl rfl h1 ay ⟨_,rfl,(vL ⟨_,_,_,_,rfl,h2,h3,h4,h5⟩)⟩ (co _).symm ?_;rintro I0 v04 le rfl;refine uD (ag:=aK) (co _) ?_;have ⟨h,h1,H⟩:=m3 le h h1 H;refine yA rfl<|zG<|yE N ?_ ?_
  ·intro aE N;exact yH [4] rfl<|xD<|zW<|zH<|zH<|hr _ _ _ _ (zD N).symm H ⟨_,_,(resT rfl),(λ_ h=>h),⟨_,rfl,rfl,rfl⟩⟩
  intro aE N;exact zT<|zL<|zG<|zJ<|yK [] [8] rfl<|yU<|nD<|ih (W (t8+1)) _ N H h h1 hg ho hx hr
 intro hc N;exact wM<|yS<|hx _  (zD N).symm H
def uQ(s:(List zP))(f0:(zP->Option Bool)):Option (Int):=do
 match<-xN s f0 0 with
 | .ret r0=>pure r0
 | .done _=>
  pure (-1)
theorem eY:∀s f0 r,uQ s f0=some r->∀{I:Imm}{p c}{fv:Value}{aK:List HA},(S4 I p s c)->(FV1 Tryz.prog I aK fv f0)->RT 87 [vS p s c,fv] I aK (oY aK r):=by
 intro s f0 r N I p c fv aK h h1;unfold uQ at N;refine yL func87 λB=>wL []<|zZ<|yH [7,8] rfl<|xY<|pE [(0,vS p s c),(1,fv),(7,vI (s.length:Int)),(8,vI 0)] ?_;obtain⟨o0,aA,aG⟩:=zB N;refine fT s f0 0 o0 aA iR h h1 nG nO ?_ ?_
 ·intro aT  heq aa;subst o0;refine zS<|wV [4] rfl<|zG<|yX ?_;exact xU aG (resT rfl) (λ_ h=>h) ⟨_,rfl,rfl,rfl⟩
 intro r0 I9 hs9 m9 aW le9 aY;subst aW;refine zW<|zH ?_;obtain rfl:=zD aG;exact fO aY
def fC(aK:List HA)(r:Bool):KT:=λkk I' ag v=>
 ∃v0,aK=ag/\v=tupV [v0]/\v0=.bool r
def wH(s:(List zP))(f0:(zP->Option Bool)):Option (Bool):=do
 let y<-uQ s f0;pure (decide (y>=0))
theorem fU:∀s f0 r,wH s f0=some r->∀{I:Imm}{p c}{fv:Value}{aK:List HA},(S4 I p s c)->(FV1 Tryz.prog I aK fv f0)->RT 47 [vS p s c,fv] I aK (fC aK r):=by
 intro s f0 r N I p c fv aK h h1;unfold wH at N;refine yL func47 λB=>wL []<|yW<|yG 2 [] [5,6] rfl<|bE N λy hy N=>zEg (hs1:=aK) (rest:=[]) rfl rfl rfl rfl (by kernel_rfl) rfl (co _).symm (eY s f0 _ hy h h1) ?_;rintro I0 av v2 k2 le - ⟨v0,rfl,rfl,rfl⟩ -;refine uD (ag:=aK) (co _) ?_;refine yK [] [4] rfl<|zG<|yX ?_;exact xU N (resT rfl) (λ_ h=>h) ⟨_,rfl,rfl,rfl⟩
def oD(s:zA)(x:Int):Option (Bool):=do
 let t3<-(do
  let y<-pJ s;if(!y) then pure true
  else
   let y1<-qB s;pure (decide (y1>x))
    : Option Bool)
 pure (id t3)
theorem zEo:∀s x r,oD s x=some r->∀{I:Imm}{p c}{ad:Addr},(S4 I p s.Coefs c)->(At I ad [vI x])->RT 126 [vA (cAff s p c),.pointer (some ad)] I [] (zU  r):=by
 intro s x r N I p c ad h ap;unfold oD at N;refine yL func126 λB=>?_;have H:=iS I;refine yF<|vK (cAff s p c) ?_;intro b hb;refine wB [] []<|zG<|yB ?_;refine wK N [] (λt3=>[(3,.bool t3)]) (λo0 aA=>?_) ?_
 ·have H:=iS I;obtain⟨y,hy,N⟩:=zB aA;cases hc:(!y) with
  | true=>
   have hM0:=wQ hc N;refine wA [.p (vA (cAff s p c)) [0],.q (.bool y),.q vY,.q vY,.p undef [],.p undef [],.p undef [],.p undef [],.p vY []] [[],[(0,false)],[(1,false)],[(2,false)],[(3,false)],[(3,false),(4,false)],[(3,false)],[(3,false),(5,false),(6,false)],[(3,false),(7,false)]] [hB b (cAff s p c)] [] [(8,false)] (zY [0]) ?_ ?_
   ·refine Op<|Oq ?_<|Oq ?_<|Oq ?_<|O4<|Op<|On
    ·intro I1 hf aa;refine yP [4] rfl ?_;have H:=iS I1;have h:=h.mono aa;refine vJ (kE s _ hy h) ?_;intro aT le;have H:=H.trans le;exact yR H
    ·intro I1 hf aa;refine yP [5] rfl<|tD 3 [(6,.bool (!y))] ?_;rw[hc];exact yR iR
    intro I1 hf aa;exact eN [(6,vY)]<|tD 4 [(7,vY)]<|yR iR
   intro aP aa;refine eN [(12,vY)] ?_;have H:=H.trans aa;exact wB [] [(3,vY)]<|xW zM<|yS<|zV (ct hM0 H)
  | false=>
   have hM01:=wE hc N;obtain⟨y1,ay,N⟩:=zB hM01;refine wA [.p (vA (cAff s p c)) [0],.q (.bool y),.q vF,.q vF,.p (vA (cAff s p c)) [0],.q (vI y1),.q (vI x),.p (.bool (decide (y1>x))) [],.p (.bool (decide (y1>x))) []] [[],[(0,false)],[(1,false)],[(2,false)],[(3,false)],[(3,false),(4,false)],[(3,false)],[(3,false),(5,false),(6,false)],[(3,false),(7,false)]] [hB b (cAff s p c)] [] [(8,false)] (zY [0]) ?_ ?_
   ·refine Op<|Oq ?_<|Oq ?_<|Oq ?_<|Op<|Oq ?_<|Oq ?_<|O2<|On
    ·intro I1 hf aa;refine yP [4] rfl ?_;have H:=iS I1;have h:=h.mono aa;refine vJ (kE s _ hy h) ?_;intro aT le;have H:=H.trans le;exact yR H
    ·intro I1 hf aa;refine yP [5] rfl<|tD 3 [(6,.bool (!y))] ?_;rw[hc];exact yR iR
    ·intro I1 hf aa;exact eN [(6,vF)]<|tD 4 [(7,vF)]<|yR iR
    ·intro I1 hf aa;refine yP [7,8] rfl ?_;have H:=iS I1;have h:=h.mono aa;refine eO (dC s _ ay h) ?_;intro bx aD;have H:=H.trans aD;exact yR H
    intro I1 hf aa;refine yP [1,7] rfl ?_;have ap:=ap.mono aa;exact xA 0 ap [vI x] (vI x) rfl<|yR iR
   intro bI aH;refine yP [12] rfl ?_;have H:=H.trans aH;exact yK [] [3] rfl<|xW zM<|yS<|zV (ct N H)
 intro t3 I0 bf aQ;refine zG<|yX ?_;obtain rfl:=zD aQ;exact wC
def jL(a0:zK)(ae:Int):Option (Bool):=do
 let t4<-(do
  let y<-gY a0.Array;if y then
   let y1<-wR (a0.Subs.length:Int) 1 2;if y1 then
    let y2<-xQ a0.Subs (λx0=>oD x0 ae);pure (!y2)
   else pure false
  else
   pure false
    : Option Bool)
 pure (id t4)
theorem zCL:∀a0 ae r,jL a0 ae=some r->∀{I:Imm}{p c},(S4 I p a0.Subs c)->RT 88 [vA (cAccess a0 p c),vI ae] I [] (zU  r):=by
 intro a0 ae r N I p c h;unfold jL at N;refine yL func88 λB=>?_;have H:=iS I;refine yF<|vK (cAccess a0 p c) ?_;intro b hb;refine vK [vI ae] ?_;intro b1 hb1;refine xM 0 rfl ?_;intro I0 le hl0;have ap:At I0 ⟨b1,0,none⟩ [vI ae]:=At.of_blk hl0;have ⟨h,H⟩:=m2 le h H;refine wB [] []<|zG<|yB ?_;refine wK N [] (λt4=>[(4,.bool t4)]) (λo0 aA=>?_) ?_
 ·have H:=iS I0;refine zJ<|yG 2 [0] [6] rfl ?_;obtain⟨y,hy,N⟩:=zB aA;refine vJ (mW a0.Array _ hy ) ?_;intro aP aa;have ⟨ap,h,H⟩:=m3 aa ap h H;refine yG 4 [] [8] rfl<|xZ [8] N ?_ ?_
  ·intro hc N;refine yG 7 [0] [11] rfl<|bE N λy1 ay N=>vJ (vM (a0.Subs.length:Int) 1 2 _ ay ) ?_;intro bx aD;have ⟨ap,h,H⟩:=m3 aD ap h H;refine yG 10 [] [14] rfl<|xZ [14] N ?_ ?_
   ·intro aE N;refine yG 13 [0] [16,17] rfl ?_;have hf0:FV1 Tryz.prog bx [] (.func (.func 126) ⟨[]⟩ ⟨[vP b1 0]⟩) (λx0=>oD x0 ae):=by
     refine FV1.intro ?_;intro I1 aa x0 r u0 hF k0;obtain⟨_,rfl,k0⟩:=k0;obtain⟨p1,c1,rfl,h3⟩:=yQ k0;exact(zEo x0 ae r hF h3 (ap.mono aa)).mono (by rintro k i hs u ⟨v0,rfl,rfl,h⟩;exact⟨rfl,h⟩)
    obtain⟨y2,aF,N⟩:=zB N;refine xF (qT a0.Subs (λx0=>oD x0 ae) _ aF h hf0) ?_;rintro bI av v2 k2 aH - ⟨v03,rfl,rfl,rfl⟩ -;have H:=H.trans aH;exact yK [] [4] rfl<|xW zM<|yS<|zV (ct N H)
   intro aE N;exact wB [] [(4,vF)]<|xW zM<|yS<|zV (ct N H)
  intro hc N;exact wB [] [(4,vF)]<|xW zM<|yS<|zV (ct N H)
 intro t4 aT bf aQ;refine zG<|yX ?_;obtain rfl:=zD aQ;exact wC
def jM(a0:zA):Option (Bool):=do
 let t2<-(do
  if((a0.Coefs.length:Int)==0) then pure (a0.Const==0)
  else
   pure false
    : Option Bool)
 pure (id t2)
theorem zCM:∀a0 r,jM a0=some r->∀{I:Imm}{p c},(S4 I p a0.Coefs c)->RT 129 [vA (cAff a0 p c)] I [] (zU  r):=by
 intro a0 r N I p c h;unfold jM at N;refine yL func129 λB=>?_;have H:=iS I;refine yF<|vK (cAff a0 p c) ?_;intro b hb;refine wB [] []<|zG<|yB ?_;refine wK N [] (λt2=>[(2,.bool t2)]) (λo0 aA=>?_) ?_
 ·have H:=iS I;refine zJ<|yG 5 [0] [7] rfl<|xZ [7] aA ?_ ?_
  ·intro hc N;exact yK [0] [2] rfl<|xW zM<|yS<|zV (ct N H)
  intro hc N;exact wB [] [(2,vF)]<|xW zM<|yS<|zV (ct N H)
 intro t2 I0 le aQ;refine zG<|yX ?_;obtain rfl:=zD aQ;exact wC
def oZ(a0:zK):Option (Bool):=do
 let t2<-(do
  if(a0.Array.l==([]:List UInt8)) then pure ((a0.Subs.length:Int)==0)
  else
   pure false
    : Option Bool)
 pure (id t2)
theorem dW:∀a0 r,oZ a0=some r->∀{I:Imm}{p c},(S4 I p a0.Subs c)->RT 130 [vA (cAccess a0 p c)] I [] (zU  r):=by
 intro a0 r N I p c h;unfold oZ at N;refine yL func130 λB=>?_;have H:=iS I;refine yF<|vK (cAccess a0 p c) ?_;intro b hb;refine wB [] []<|zG<|yB ?_;refine wK N [] (λt2=>[(2,.bool t2)]) (λo0 aA=>?_) ?_
 ·have H:=iS I;refine zJ<|yG 4 [0] [6] rfl<|xZ [6] aA ?_ ?_
  ·intro hc N;exact yK [0] [2] rfl<|xW zM<|yS<|zV (ct N H)
  intro hc N;exact wB [] [(2,vF)]<|xW zM<|yS<|zV (ct N H)
 intro t2 I0 le aQ;refine zG<|yX ?_;obtain rfl:=zD aQ;exact wC
def zAo(kind:Int):Option (Bool):=do
 let y<-wR kind 4 6;pure (id y)
theorem zK4:∀kind r,zAo kind=some r->∀{I:Imm} ,RT 131 [vI kind] I [] (zU  r):=by
 intro kind r N I;unfold zAo at N;refine yL func131 λB=>wL []<|yW<|yG 1 [] [3] rfl<|bE N λy hy N=>vJ (vM kind 4 6 _ hy ) λI0 le=>wB [] [(2,.bool y)]<|zG<|yX ?_;obtain rfl:=zD N;exact wC
def zEp(b0:Nat)(r:Bool×Int):KT:=λkk I' ag v=>
 ∃v0 k0,ag=[.blk b0 ⟨k0⟩]/\v=tupV [v0]/\v0=.bool r.1/\Rp.rep I' k0 r.2
def tB(e0:zI)(ae:Int)(deep:Int)(count:Int):Option (Bool×Int):=do
 let t21<-(do
  if(decide ((W (count+1))>12)) then pure true
  else
   pure (decide (deep>5))
    : Option Bool)
 if t21 then pure (false,(W (count+1)))
 else
  let t51<-(do
   if(e0.Kind != 1) then
    if(e0.Num != 0) then pure true
    else
     if(e0.Kind != 2) then
      let y<-jM e0.Index;if(!y) then pure true
      else
       if(e0.Kind != 3) then
        let y1<-oZ e0.Read;pure (!y1)
       else pure false
     else
      if(e0.Kind != 3) then
       let y2<-oZ e0.Read;pure (!y2)
      else pure false
   else
    if(e0.Kind != 2) then
     let y3<-jM e0.Index;if(!y3) then pure true
     else
      if(e0.Kind != 3) then
       let y4<-oZ e0.Read;pure (!y4)
      else pure false
    else
     if(e0.Kind != 3) then
      let y5<-oZ e0.Read;pure (!y5)
     else pure false
     : Option Bool)
  if t51 then pure (false,(W (count+1)))
  else
   if(e0.Kind==1) then
    let t8<-(do
     let y6<-wR e0.Num 0 99;if y6 then pure ((e0.Kids.length:Int)==0)
     else
      pure false
       : Option Bool)
    pure (t8,(W (count+1)))
   else
    if(e0.Kind==2) then
     let t81<-(do
      let y7<-pJ e0.Index;if y7 then
       let y8<-qB e0.Index;if(decide (y8<=ae)) then pure ((e0.Kids.length:Int)==0)
       else pure false
      else
       pure false
        : Option Bool)
     pure (t81,(W (count+1)))
    else
     if(e0.Kind==3) then
      let t82<-(do
       let y9<-jL e0.Read ae;if y9 then pure ((e0.Kids.length:Int)==0)
       else
        pure false
         : Option Bool)
      pure (t82,(W (count+1)))
     else
      let t99<-(do
       let y10<-zAo e0.Kind;if(!y10) then pure true
       else
        pure ((e0.Kids.length:Int) != 2)
         : Option Bool)
      if t99 then pure (false,(W (count+1)))
      else
       let (t83,x)<-(do
        let x1<-idx e0.Kids 0;let (y12,y13)<-tB (same x1) (same ae) (W (deep+1)) (W (count+1));if y12 then
         let x2<-idx e0.Kids 1;let (y15,y16)<-tB (same x2) (same ae) (W (deep+1)) (same y13);pure (y15,y16)
        else
         pure (false,y13)
          : Option (Bool×Int))
       pure (t83,x)
 partial_fixpoint
theorem zGo:∀e0 ae deep count r,tB e0 ae deep count=some r->∀{I:Imm}{p c p1 c1 p2 c2}{r0},(S4 I p e0.Index.Coefs c)->(S4 I p1 e0.Read.Subs c1)->(S4 I p2 e0.Kids c2)->RT 89 [vA (cExpr e0 p c p1 c1 p2 c2),vI ae,vI deep,vP r0 0] I [hB r0 [vI count]] (zEp r0 r):=by
 refine tB.partial_correctness _ λF_impl_exprScan ih_impl_exprScan e0 ae deep count r N I p c p1 c1 p2 c2 r0 h h1 h2=>yL func89 λB=>?_;have H:=iS I;refine yF<|vK (cExpr e0 p c p1 c1 p2 c2) ?_;intro b hb;refine wB [] []<|yW<|yG 5 [1] [12,13] rfl<|xI 1 [vI (W (count+1))] rfl<|yA rfl<|zZ<|yB ?_;refine wK N [hB b (cExpr e0 p c p1 c1 p2 c2),hB r0 [vI (W (count+1))]] (λt21=>[(1,vI ae),(2,vI deep),(3,vP r0 0),(4,vP b 0),(21,.bool t21)]) (λo0 aA=>?_) ?_
 ·have H:=iS I;refine zJ<|yG 5 [1] [18] rfl<|xZ [18] aA ?_ ?_
  ·intro hc N;exact wB [] [(21,vY)]<|yS<|zV (ct N H)
  intro hc N;exact yK [] [21] rfl<|yS<|zV (ct N H)
 intro t21 I0 le aQ;have ⟨h,h1,h2,H⟩:=m4 le h h1 h2 H;refine zG<|yE aQ ?_ ?_
 ·intro aE N;refine wL [(8,vF)]<|xD<|zH ?_;exact xU N (resT rfl) (zX [1] rfl (by decide)) ⟨_,_,rfl,rfl,rfl,rfl⟩
 intro aE N;refine zT<|zZ<|yB ?_;refine wK N [hB b (cExpr e0 p c p1 c1 p2 c2),hB r0 [vI (W (count+1))]] (λt51=>[(1,vI ae),(2,vI deep),(3,vP r0 0),(4,vP b 0),(51,.bool t51)]) (λaO aB=>?_) ?_
 ·have H:=iS I0;refine zJ<|yG 4 [0] [25] rfl<|xZ [25] aB ?_ ?_
  ·intro aV N;refine yG 9 [0] [30] rfl<|xZ [30] N ?_ ?_
   ·intro bD N;exact wB [] [(51,vY)]<|yS<|zV (ct N H)
   intro bD N;refine yG 13 [0] [34] rfl<|xZ [34] N ?_ ?_
   ·intro bM N;refine sW 15 [0] [(36,vA (cAff e0.Index p c))]<|bE N λy hy N=>vJ (zCM e0.Index _ hy h) ?_;intro aP aa;have ⟨h1,H⟩:=m2 aa h1 H;refine yG 20 [] [41] rfl<|xZ [41] N ?_ ?_
    ·intro hc5 N;exact wB [] [(51,vY)]<|yS<|zV (ct N H)
    intro hc5 N;refine yG 24 [0] [45] rfl<|xZ [45] N ?_ ?_
    ·intro hc6 N;refine sW 26 [0] [(47,vA (cAccess e0.Read p1 c1))]<|bE N λy1 ay N=>vJ (dW e0.Read _ ay h1) ?_;intro bx aD;have H:=H.trans aD;exact yK [] [51] rfl<|yS<|zV (ct N H)
    intro hc6 N;exact wB [] [(51,vF)]<|yS<|zV (ct N H)
   intro bM N;refine yG 24 [0] [41,45] rfl<|xZ [45] N ?_ ?_
   ·intro hc7 N;refine sW 26 [0] [(47,vA (cAccess e0.Read p1 c1))]<|bE N λy2 aF N=>vJ (dW e0.Read _ aF h1) ?_;intro bI aH;have H:=H.trans aH;exact yK [] [51] rfl<|yS<|zV (ct N H)
   intro hc7 N;exact wB [] [(51,vF)]<|yS<|zV (ct N H)
  intro aV N;refine yG 13 [0] [30,34] rfl<|xZ [34] N ?_ ?_
  ·intro hc8 N;refine sW 15 [0] [(36,vA (cAff e0.Index p c))]<|bE N λy3 aX N=>vJ (zCM e0.Index _ aX h) ?_;intro bL bf;have ⟨h1,H⟩:=m2 bf h1 H;refine yG 20 [] [41] rfl<|xZ [41] N ?_ ?_
   ·intro hc9 N;exact wB [] [(51,vY)]<|yS<|zV (ct N H)
   intro hc9 N;refine yG 24 [0] [45] rfl<|xZ [45] N ?_ ?_
   ·intro hc10 N;refine sW 26 [0] [(47,vA (cAccess e0.Read p1 c1))]<|bE N λy4 bk N=>vJ (dW e0.Read _ bk h1) ?_;intro I06 bu;have H:=H.trans bu;exact yK [] [51] rfl<|yS<|zV (ct N H)
   intro hc10 N;exact wB [] [(51,vF)]<|yS<|zV (ct N H)
  intro hc8 N;refine yG 24 [0] [41,45] rfl<|xZ [45] N ?_ ?_
  ·intro hc11 N;refine sW 26 [0] [(47,vA (cAccess e0.Read p1 c1))]<|bE N λy5 bC N=>vJ (dW e0.Read _ bC h1) ?_;intro I07 bG;have H:=H.trans bG;exact yK [] [51] rfl<|yS<|zV (ct N H)
  intro hc11 N;exact wB [] [(51,vF)]<|yS<|zV (ct N H)
 intro t51 aT le7 hMc1;have ⟨h,h1,h2,H⟩:=m4 le7 h h1 h2 H;refine zG<|yE hMc1 ?_ ?_
 ·intro hc12 N;refine wL [(8,vF)]<|xD<|zH ?_;exact xU N (resT rfl) (zX [1] rfl (by decide)) ⟨_,_,rfl,rfl,rfl,rfl⟩
 intro hc12 N;refine zT<|zZ<|yI<|yF<|yK [0] [52] rfl<|zG<|yE N ?_ ?_
 ·intro hc13 N;refine yB ?_;refine wK N [hB r0 [vI (W (count+1))]] (λt8=>[(8,.bool t8)]) (λo02 ho02=>?_) ?_
  ·have H:=iS aT;refine zJ<|yG 2 [0] [57] rfl ?_;obtain⟨y6,hy6,N⟩:=zB ho02;refine vJ (vM e0.Num 0 99 _ hy6 ) ?_;intro I09 le8;have H:=H.trans le8;refine yG 4 [] [59] rfl<|xZ [59] N ?_ ?_
   ·intro hc14 N;exact yK [0] [8] rfl<|xW (zX [1] rfl (by decide))<|yS<|zV (ct N H)
   intro hc14 N;exact wB [] [(8,vF)]<|xW (zX [1] rfl (by decide))<|yS<|zV (ct N H)
  intro t8 I08 le9 hMc2;refine xD<|zW<|zH ?_;exact xU hMc2 (resT rfl) (zX [0] rfl (by decide)) ⟨_,_,rfl,rfl,rfl,rfl⟩
 intro hc13 N;refine yF<|yK [0] [65] rfl<|zG<|yE N ?_ ?_
 ·intro hc15 N;refine yB ?_;refine wK N [hB r0 [vI (W (count+1))]] (λt81=>[(8,.bool t81)]) (λo03 ho03=>?_) ?_
  ·have H:=iS aT;refine zJ<|sW 2 [0] [(70,vA (cAff e0.Index p c))] ?_;obtain⟨y7,hy7,N⟩:=zB ho03;refine vJ (kE e0.Index _ hy7 h) ?_;intro bV le10;have ⟨h,H⟩:=m2 le10 h H;refine yG 4 [] [72] rfl<|xZ [72] N ?_ ?_
   ·intro hc16 N;refine sW 6 [0] [(74,vA (cAff e0.Index p c))]<|bE N λy8 hy8 N=>eO (dC e0.Index _ hy8 h) ?_;intro bW le11;have H:=H.trans le11;refine yG 11 [] [79] rfl<|xZ [79] N ?_ ?_
    ·intro hc17 N;exact yK [0] [8] rfl<|xW (zX [1] rfl (by decide))<|yS<|zV (ct N H)
    intro hc17 N;exact wB [] [(8,vF)]<|xW (zX [1] rfl (by decide))<|yS<|zV (ct N H)
   intro hc16 N;exact wB [] [(8,vF)]<|xW (zX [1] rfl (by decide))<|yS<|zV (ct N H)
  intro t81 bP le12 hMc3;refine xD<|zW<|zH ?_;exact xU hMc3 (resT rfl) (zX [0] rfl (by decide)) ⟨_,_,rfl,rfl,rfl,rfl⟩
 intro hc15 N;refine yF<|yK [0] [85] rfl<|zG<|yE N ?_ ?_
 ·intro hc18 N;refine yB ?_;refine wK N [hB r0 [vI (W (count+1))]] (λt82=>[(8,.bool t82)]) (λo04 ho04=>?_) ?_
  ·have H:=iS aT;refine zJ<|sW 3 [0] [(90,vA (cAccess e0.Read p1 c1)),(91,vI ae)] ?_;obtain⟨y9,hy9,N⟩:=zB ho04;refine vJ (zCL e0.Read ae _ hy9 h1) ?_;intro I014 le13;have H:=H.trans le13;refine yG 5 [] [93] rfl<|xZ [93] N ?_ ?_
   ·intro hc19 N;exact yK [0] [8] rfl<|xW (zX [1] rfl (by decide))<|yS<|zV (ct N H)
   intro hc19 N;exact wB [] [(8,vF)]<|xW (zX [1] rfl (by decide))<|yS<|zV (ct N H)
  intro t82 I013 le14 hMc4;refine xD<|zW<|zH ?_;exact xU hMc4 (resT rfl) (zX [0] rfl (by decide)) ⟨_,_,rfl,rfl,rfl,rfl⟩
 intro hc18 N;refine yB ?_;refine wK N [hB b (cExpr e0 p c p1 c1 p2 c2),hB r0 [vI (W (count+1))]] (λt99=>[(1,vI ae),(2,vI deep),(3,vP r0 0),(4,vP b 0),(99,.bool t99)]) (λo05 ho05=>?_) ?_
 ·have H:=iS aT;refine zJ<|yG 2 [0] [101] rfl ?_;obtain⟨y10,hy10,N⟩:=zB ho05;refine vJ (zK4 e0.Kind _ hy10 ) ?_;intro I016 le15;have H:=H.trans le15;refine yG 5 [] [104] rfl<|xZ [104] N ?_ ?_
  ·intro hc20 N;exact wB [] [(99,vY)]<|yS<|zV (ct N H)
  intro hc20 N;exact yK [0] [99] rfl<|yS<|zV (ct N H)
 intro t99 I015 le16 hMc5;have ⟨h2,H⟩:=m2 le16 h2 H;refine zG<|yE hMc5 ?_ ?_
 ·intro hc21 N;refine wL [(8,vF)]<|xD<|zW<|zH ?_;exact xU N (resT rfl) (zX [1] rfl (by decide)) ⟨_,_,rfl,rfl,rfl,rfl⟩
 intro hc21 N;refine zT<|zL<|zG<|yB ?_;obtain⟨o06,ho06,hMc6⟩:=zB N;refine qQ (λI' ag m'=>∃(t83:Bool) (x:Int),o06=(t83,x)/\I015.le I'/\ag=[hB r0 [vI x]]/\m'=[(8,.bool t83)]) ?_ ?_
 ·have H:=iS I015;refine zJ<|yG 2 [0] [111] rfl ?_;obtain⟨x1,hy11,N⟩:=zB ho06;refine xK rfl rfl h2 hy11 ?_;intro ad aN ap ak;obtain⟨p3,c3,p4,c4,p5,c5,rfl,h14,h15,h16⟩:=xX ak;refine xA 0 ap (cExpr x1 p3 c3 p4 c4 p5 c5) (vA (cExpr x1 p3 c3 p4 c4 p5 c5)) rfl<|yG 8 [] [114,116,117] rfl<|tX (zY [1,0] (ag:=[hB r0 [vI (W (count+1))],hB b (cExpr e0 p c p1 c1 p2 c2)])) ?_;obtain⟨⟨y12,y13⟩,hy12,N⟩:=zB N;refine sG (ih_impl_exprScan x1 ae (W (deep+1)) (W (count+1)) _ hy12 h14 h15 h16) rfl ?_;rintro I018 av v2 k2 le17 - ⟨v014,kk,rfl,rfl,rfl,h18⟩ -;have ⟨h2,H⟩:=m2 le17 h2 H;obtain rfl:=h18;refine yG 10 [] [119] rfl<|xZ [119] N ?_ ?_
  ·intro hc22 N;refine yG 12 [1] [121] rfl<|bE N λx2 hy13 N=>xK rfl rfl h2 hy13 ?_;intro ad1 bm ar au;obtain⟨p6,c6,p7,c7,p8,c8,rfl,h19,h20,h21⟩:=xX au;refine xA 0 ar (cExpr x2 p6 c6 p7 c7 p8 c8) (vA (cExpr x2 p6 c6 p7 c7 p8 c8)) rfl<|yG 18 [] [124,126,127] rfl ?_;obtain⟨⟨y15,y16⟩,hy14,N⟩:=zB N;refine sG (ih_impl_exprScan x2 ae (W (deep+1)) y13 _ hy14 h19 h20 h21) rfl ?_;rintro I019 av v2 k2 le18 - ⟨v018,kk1,rfl,rfl,rfl,h23⟩ -;have H:=H.trans le18;obtain rfl:=h23;exact yK [] [8] rfl<|xW (zX [0] rfl (by decide))<|yS<|zV ⟨_,_,(zD N).symm,H,rfl,rfl⟩
  intro hc22 N;exact wB [] [(8,vF)]<|xW (zX [0] rfl (by decide))<|yS<|zV ⟨_,_,(zD N).symm,H,rfl,rfl⟩
 rintro I017 av m2 ⟨t83,x,heq6,le19,rfl,rfl⟩;subst o06;refine zG<|yX ?_;exact xU hMc6 (resT rfl) (zX [0] rfl (by decide)) ⟨_,_,rfl,rfl,rfl,rfl⟩
def fD(s:zP)(ae:Int):Option (Bool):=do
 let t4<-(do
  let y<-wR ae 0 4;if y then
   let y1<-jL s.Write ae;if y1 then
    let (y3,y4)<-tB s.Value ae 1 0;pure (id y3)
   else pure false
  else
   pure false
    : Option Bool)
 pure (id t4)
theorem zFa:∀s ae r,fD s ae=some r->∀{I:Imm}{p c p1 c1 p2 c2 p3 c3},(S4 I p s.Write.Subs c)->(S4 I p1 s.Value.Index.Coefs c1)->(S4 I p2 s.Value.Read.Subs c2)->(S4 I p3 s.Value.Kids c3)->RT 49 [vA (cStmt s p c p1 c1 p2 c2 p3 c3),vI ae] I [] (zU  r):=by
 intro s ae r N I p c p1 c1 p2 c2 p3 c3 h h1 h2 h3;unfold fD at N;refine yL func49 λB=>?_;have H:=iS I;refine yF<|vK (cStmt s p c p1 c1 p2 c2 p3 c3) ?_;intro b hb;refine wB [] []<|yW<|wI [vI 0] ?_;intro b1 hb1;refine xI 0 [vI 0] rfl<|yA rfl<|zG<|yB ?_;refine wK N [] (λt4=>[(4,.bool t4)]) (λo0 aA=>?_) ?_
 ·have H:=iS I;refine zJ<|yG 1 [] [6] rfl ?_;obtain⟨y,hy,N⟩:=zB aA;refine vJ (vM ae 0 4 _ hy ) ?_;intro aT le;have ⟨h,h1,h2,h3,H⟩:=m5 le h h1 h2 h3 H;refine yG 3 [] [8] rfl<|xZ [8] N ?_ ?_
  ·intro hc N;refine sW 6 [1] [(10,vA (cAccess s.Write p c)),(11,vI ae)]<|bE N λy1 ay N=>vJ (zCL s.Write ae _ ay h) ?_;intro aP aa;have ⟨h1,h2,h3,H⟩:=m4 aa h1 h2 h3 H;refine yG 9 [] [14] rfl<|xZ [14] N ?_ ?_
   ·intro aE N;refine sW 12 [1] [(16,vA (cExpr s.Value p1 c1 p2 c2 p3 c3)),(17,vI ae)] ?_;obtain⟨⟨y3,y4⟩,aF,N⟩:=zB N;refine sG (zGo s.Value ae 1 0 _ aF h1 h2 h3) rfl ?_;rintro bx av v2 k2 aD - ⟨v02,kk,rfl,rfl,rfl,h7⟩ -;have H:=H.trans aD;obtain rfl:=h7;exact yK [] [4] rfl<|xW zM<|yS<|zV (ct N H)
   intro aE N;exact wB [] [(4,vF)]<|xW zM<|yS<|zV (ct N H)
  intro hc N;exact wB [] [(4,vF)]<|xW zM<|yS<|zV (ct N H)
 intro t4 I0 aH aQ;refine zG<|yX ?_;obtain rfl:=zD aQ;exact wC
def uE(s:zP)(x:zQ):Option (Bool):=do
 let y<-fD s (x.Nest.length:Int);pure (!y)
theorem zBK:∀s x r,uE s x=some r->∀{I:Imm}{p c p1 c1 p2 c2 p3 c3}{ad:Addr}{p4 c4 p5 c5},(S4 I p s.Write.Subs c)->(S4 I p1 s.Value.Index.Coefs c1)->(S4 I p2 s.Value.Read.Subs c2)->(S4 I p3 s.Value.Kids c3)->(S4 I p4 x.Nest c4)->(S4 I p5 x.Body c5)->(At I ad (cPart x p4 c4 p5 c5))->RT 48 [vA (cStmt s p c p1 c1 p2 c2 p3 c3),.pointer (some ad)] I [] (zU  r):=by
 intro s x r N I p c p1 c1 p2 c2 p3 c3 ad p4 c4 p5 c5 h h1 h2 h3 h4 h5 ap;unfold uE at N;refine yL func48 λB=>yF<|vK (cStmt s p c p1 c1 p2 c2 p3 c3) ?_;intro b hb;refine wB [] []<|yW<|sW 2 [0] [(4,vA (cStmt s p c p1 c1 p2 c2 p3 c3)),(5,.pointer (some ad))]<|xA 0 ap [vS p4 x.Nest c4] (vS p4 x.Nest c4) rfl<|yG 4 [] [7] rfl<|bE N λy hy N=>vJ (zFa s (x.Nest.length:Int) _ hy h h1 h2 h3) λI0 le=>wB [] [(3,.bool (!y))]<|zG<|yX ?_;obtain rfl:=zD N;exact wC
def nK(n0:Int):Option (Bool):=do
 let y<-wR n0 (-9999) 9999;pure (!y)
theorem zFb:∀n0 r,nK n0=some r->∀{I:Imm} ,RT 90 [vI n0] I [] (zU  r):=by
 intro n0 r N I;unfold nK at N;refine yL func90 λB=>wL []<|yW<|yG 1 [] [3] rfl<|bE N λy hy N=>vJ (vM n0 (-9999) 9999 _ hy ) λI0 le=>wB [] [(2,.bool (!y))]<|zG<|yX ?_;obtain rfl:=zD N;exact wC
def dD(ah:(List Int)):Option (Bool):=do
 let t2<-(do
  if(decide ((ah.length:Int)<=4)) then
   let y<-xS ah nK;pure (!y)
  else
   pure false
    : Option Bool)
 pure (id t2)
theorem zHa:∀ah r,dD ah=some r->∀{I:Imm}{p c},(S4 I p ah c)->RT 50 [vS p ah c] I [] (zU  r):=by
 intro ah r N I p c h;unfold dD at N;refine yL func50 λB=>?_;have H:=iS I;refine wL []<|zG<|yB ?_;refine wK N [] (λt2=>[(2,.bool t2)]) (λo0 aA=>?_) ?_
 ·have H:=iS I;refine zJ<|yG 4 [] [6] rfl<|xZ [6] aA ?_ ?_
  ·intro hc N;refine yG 5 [] [7] rfl ?_;have hf0:FV1 Tryz.prog I [] (.func (.func 90) ⟨[]⟩ ⟨[]⟩) nK:=by
    refine FV1.intro ?_;intro I1 aa x0 r u0 hF k0;obtain rfl:=k0;exact(zFb x0 r hF ).mono (by rintro k i hs u ⟨v0,rfl,rfl,h⟩;exact⟨rfl,h⟩)
   obtain⟨y,hy,N⟩:=zB N;refine xF (rO ah nK _ hy h hf0) ?_;rintro aT av v2 k2 le - ⟨v0,rfl,rfl,rfl⟩ -;have H:=H.trans le;exact yK [] [2] rfl<|yS<|zV (ct N H)
  intro hc N;exact wB [] [(2,vF)]<|yS<|zV (ct N H)
 intro t2 I0 aa aQ;refine zG<|yX ?_;obtain rfl:=zD aQ;exact wC
def rC(a0:zF)(n0:Int)(t9:Int):Option (Int):=do
 if(decide (t9<(a0.Dims.length:Int))) then
  let x<-idx a0.Dims t9;rC a0 (W (n0*x)) (W (t9+1))
 else pure (id n0)
 partial_fixpoint
theorem zDI(a0:zF):∀(n0:Int) (t9:Int) (o:Int),rC a0 n0 t9=some o->∀{B}{I0 I:Imm}{Q p c},I0.le I->(S4 I p a0.Dims c)->NG Q->NO Q->(∀I' n01,o=n01->I0.le I'->T 18 B Q (.exit 0) I' [] [(3,vI n01)])->J Tryz.prog 18 B (nav (bodyOf f132) [1,1,0,1,0]) Q I [] [(3,vI n0),(7,vS p a0.Dims c),(8,vI (a0.Dims.length:Int)),(9,vI t9)]:=by
 refine rC.partial_correctness a0 _ λaI ih n0 t9 o N B I0 I Q p c H h hg ho hx=>yV hg ho<|yH [10] rfl<|zZ<|yE N ?_ ?_
 ·intro hc N;refine zT<|zZ<|yI<|yF<|bE N λx hy N=>xK rfl rfl h hy ?_;intro ad aN ap ak;obtain rfl:=ak;exact xA 0 ap [vI x] (vI x) rfl<|yK [] [5] rfl<|zG<|zJ<|yK [] [3] rfl<|zL<|zG<|zJ<|yK [] [9] rfl<|yU<|nD<|ih (W (n0*x)) (W (t9+1)) _ N H h hg ho hx
 intro hc N;exact wM<|yS<|hx _ _ (zD N).symm H
def jU(a0:zF):Option (Int):=do
 let n01<-rC a0 1 0;pure (id n01)
theorem zEq:∀a0 r,jU a0=some r->∀{I:Imm}{p c},(S4 I p a0.Dims c)->RT 132 [vA (cArr a0 p c)] I [] (yJ  r):=by
 intro a0 r N I p c h;unfold jU at N;refine yL func132 λB=>yF<|vK (cArr a0 p c) ?_;intro b hb;refine wB [] []<|wV [3] rfl<|zZ<|yF<|yK [0] [7,8,9] rfl<|xY<|jS (zY [] (ag:=[]))<|pE [(3,vI 1),(7,vS p a0.Dims c),(8,vI (a0.Dims.length:Int)),(9,vI 0)] ?_;obtain⟨o0,aA,aG⟩:=zB N;refine zDI a0 1 0 o0 aA iR h nG nO ?_;intro I0 n01 heq le;subst o0;refine zS<|wV [2] rfl<|zG<|yX ?_;obtain rfl:=zD aG;exact wC
def sD(a0:zK)(ah:(List Int))(x:zF)(at0:Int)(t40:Int):Option (Out Int (Int)):=do
 if(decide (t40<(a0.Subs.length:Int))) then
  let x1<-idx a0.Subs t40;let y1<-sC x1 ah;let x2<-idx x.Dims t40;let y2<-wR y1 0 (W (x2 - 1));if(!y2) then pure (.ret (-1))
  else
   let x3<-idx x.Dims t40;sD a0 ah x (W ((W (at0*x3))+y1)) (W (t40+1))
 else pure (.done at0)
 partial_fixpoint
theorem zCN(a0:zK)(ah:(List Int))(x:zF):∀(at0:Int) (t40:Int) (o:Out Int (Int)),sD a0 ah x at0 t40=some o->∀{B}{I0 I:Imm}{Q}{first:Int}{p3 c2 p4 c3 p5 c4}{b2},I0.le I->(S4 I p4 ah c3)->(S4 I p3 a0.Subs c2)->(S4 I p5 x.Dims c4)->NG Q->NO Q->(∀I' at01,o=(.done at01)->I0.le I'->T 71 B Q (.exit 2) I' [] [(7,vI first),(10,vI at01)])->(∀r I' ag m',o=(.ret r)->I0.le I'->RS Tryz.prog f91 B (yJ  r) I' ag m'->T 71 B Q .ret I' ag m')->J Tryz.prog 71 B (nav (bodyOf f91) [1,1,0,1,0,0,1,1,0,0,1,1,1,1,0,1,0]) Q I [hB b2 (cArr x p5 c4)] [(2,vS p4 ah c3),(7,vI first),(9,vP b2 0),(10,vI at0),(38,vS p3 a0.Subs c2),(39,vI (a0.Subs.length:Int)),(40,vI t40)]:=by
 refine sD.partial_correctness a0 ah x _ λaI ih at0 t40 o N B I0 I Q first p3 c2 p4 c3 p5 c4 b2 H h3 h2 h4 hg ho hx hr=>yV hg ho<|yH [41] rfl<|zZ<|yE N ?_ ?_
 ·intro bD N;refine zT<|zZ<|yI<|yF<|yG 1 [] [42] rfl<|bE N λx1 aF N=>xK rfl rfl h2 aF ?_;intro ad1 bm ar au;obtain⟨p6,c5,rfl,h6⟩:=yQ au;refine xA 0 ar (cAff x1 p6 c5) (vA (cAff x1 p6 c5)) rfl<|wI [z0,vI 0] ?_;intro b3 hb3;refine yG 5 [] [11] rfl<|xI 0 (cAff x1 p6 c5) rfl<|yA rfl<|yW<|sW 2 [0] [(45,vA (cAff x1 p6 c5)),(46,vS p4 ah c3)]<|bE N λy1 aX N=>eO (kF x1 ah _ aX h6 h3) ?_;intro aT aa;have ⟨h3,h2,h4,H⟩:=m4 aa h3 h2 h4 H;refine yK [] [13] rfl<|zZ<|yF<|yG 4 [1] [48,50,51] rfl<|bE N λx2 bk N=>xK rfl rfl h4 bk ?_;intro ad2 bO aS aZ;obtain rfl:=aZ;refine xA 0 aS [vI x2] (vI x2) rfl<|yG 7 [] [54] rfl<|bE N λy2 bC N=>vJ (vM y1 0 (W (x2 - 1)) _ bC ) ?_;intro aP aD;have ⟨h3,h2,h4,H⟩:=m4 aD h3 h2 h4 H;refine yK [] [56] rfl<|zG<|yE N ?_ ?_
  ·intro bM N;exact yH [6] rfl<|xD<|zH<|zW<|zH<|zH<|hr _ _ _ _ (zD N).symm H ⟨_,_,(resT rfl),zM,⟨_,rfl,rfl,rfl⟩⟩
  intro bM N;refine zT<|zG<|zJ<|yG 4 [1] [57,59,60] rfl<|bE N λx3 hy6 N=>xK rfl rfl h4 hy6 ?_;intro ad3 ccs3 hat3 bB;obtain rfl:=bB;exact xA 0 hat3 [vI x3] (vI x3) rfl<|yK [] [10] rfl<|zL<|zG<|zJ<|yK [] [40] rfl<|yU<|jS (zX [1] rfl (by decide))<|nD<|ih (W ((W (at0*x3))+y1)) (W (t40+1)) _ N H h3 h2 h4 hg ho hx hr
 intro bD N;exact wM<|xW zM<|yS<|hx _ _ (zD N).symm H
def uR(p:zC)(a0:zK)(ah:(List Int))(first:Int)(t17:Int):Option (Out Unit (Int)):=do
 if(decide (t17<(p.Arrays.length:Int))) then
  let x<-idx p.Arrays t17;if(!(x.Name.l==a0.Array.l)) then
   let y<-jU x;uR p a0 ah (W (first+y)) (W (t17+1))
  else
   if((a0.Subs.length:Int) != (x.Dims.length:Int)) then pure (.ret (-1))
   else
    match<-sD a0 ah x 0 0 with
    | .ret r0=>pure (.ret r0)
    | .done at01=>
     pure (.ret (W (first+at01)))
 else pure (.done ())
 partial_fixpoint
theorem zCO(p:zC)(a0:zK)(ah:(List Int)):∀(first:Int) (t17:Int) (o:Out Unit (Int)),uR p a0 ah first t17=some o->∀{B}{I0 I:Imm}{Q p1 c p3 c2 p4 c3}{b1},I0.le I->(S4 I p4 ah c3)->(S4 I p1 p.Arrays c)->(S4 I p3 a0.Subs c2)->NG Q->NO Q->(∀I',o=(.done ())->I0.le I'->T 71 B Q (.exit 0) I' [] [])->(∀r I' ag m',o=(.ret r)->I0.le I'->RS Tryz.prog f91 B (yJ  r) I' ag m'->T 71 B Q .ret I' ag m')->J Tryz.prog 71 B (nav (bodyOf f91) [1,1,0,1,0]) Q I [hB b1 (cAccess a0 p3 c2)] [(2,vS p4 ah c3),(4,vP b1 0),(7,vI first),(15,vS p1 p.Arrays c),(16,vI (p.Arrays.length:Int)),(17,vI t17)]:=by
 refine uR.partial_correctness p a0 ah _ λaI ih first t17 o N B I0 I Q p1 c p3 c2 p4 c3 b1 H h3 h h2 hg ho hx hr=>yV hg ho<|yH [18] rfl<|zZ<|yE N ?_ ?_
 ·intro hc N;refine zT<|zZ<|yI<|yF<|bE N λx hy N=>xK rfl rfl h hy ?_;intro ad aN ap ak;obtain⟨p5,c4,rfl,h4⟩:=wZ ak;refine xA 0 ap (cArr x p5 c4) (vA (cArr x p5 c4)) rfl<|wI [vT ([]),z0] ?_;intro b2 hb2;refine xI 0 (cArr x p5 c4) rfl<|yA rfl<|zZ<|yF<|yK [0,1] [25] rfl<|zG<|yE N ?_ ?_
  ·intro aE N;refine yF<|sW 2 [0] [(26,vI first),(27,vA (cArr x p5 c4))]<|bE N λy ay N=>eO (zEq x _ ay h4) ?_;intro I0 le;have ⟨h3,h,h2,H⟩:=m4 le h3 h h2 H;exact yK [] [7] rfl<|zG<|zIN<|eZ<|zS<|zG<|zJ<|yK [] [17] rfl<|yU<|jS (zX [1] rfl (by decide))<|nD<|ih (W (first+y)) (W (t17+1)) _ N H h3 h h2 hg ho hx hr
  intro aE N;refine zT<|zZ<|yF<|yK [1,0] [36] rfl<|zG<|yE N ?_ ?_
  ·intro aV N;exact yH [6] rfl<|xD<|zH<|zW<|zH<|zH<|hr _ _ _ _ (zD N).symm H ⟨_,_,(resT rfl),zM,⟨_,rfl,rfl,rfl⟩⟩
  intro aV N;refine zT<|wV [10] rfl<|zZ<|yF<|yK [1] [38,39,40] rfl<|xY<|jS (zY [0] (ag:=[hB b2 (cArr x p5 c4)]))<|pE [(2,vS p4 ah c3),(7,vI first),(9,vP b2 0),(10,vI 0),(38,vS p3 a0.Subs c2),(39,vI (a0.Subs.length:Int)),(40,vI 0)] ?_;obtain⟨o0,aA,aG⟩:=zB N;refine zCN a0 ah x 0 0 o0 aA iR h3 h2 h4 (λ_ _ _ h=>hg _ _ _ h) (λ_ _ h=>ho _ _ h) ?_ ?_
  ·intro bx at01 heq aH;subst o0;have H:=H.trans aH;exact zS<|wV [6] rfl<|xD<|zW<|zH<|zH<|hr _ _ _ _ (zD aG).symm H ⟨_,_,(resT rfl),zM,⟨_,rfl,rfl,rfl⟩⟩
  intro r0 I9 hs9 m9 aW le9 aY;subst aW;exact zW<|zH<|zW<|zH<|zH<|hr _ _ _ _ (zD aG).symm (H.trans le9) aY
 intro hc N;exact wM<|xW zM<|yS<|hx _  (zD N).symm H
def sP(p:zC)(a0:zK)(ah:(List Int)):Option (Int):=do
 match<-uR p a0 ah 0 0 with
 | .ret r0=>pure r0
 | .done _=>
  pure (-1)
theorem jV:∀p a0 ah r,sP p a0 ah=some r->∀{I:Imm}{p1 c p2 c1 p3 c2 p4 c3},(S4 I p1 p.Arrays c)->(S4 I p2 p.Parts c1)->(S4 I p3 a0.Subs c2)->(S4 I p4 ah c3)->RT 91 [vA (cProg p p1 c p2 c1),vA (cAccess a0 p3 c2),vS p4 ah c3] I [] (yJ  r):=by
 intro p a0 ah r N I p1 c p2 c1 p3 c2 p4 c3 h h1 h2 h3;unfold sP at N;refine yL func91 λB=>yF<|vK (cProg p p1 c p2 c1) ?_;intro b hb;refine vK (cAccess a0 p3 c2) ?_;intro b1 hb1;refine wB [] []<|wV [7] rfl<|zZ<|yF<|yK [1] [15,16,17] rfl<|xY<|jS (zY [0] (ag:=[hB b1 (cAccess a0 p3 c2)]))<|pE [(2,vS p4 ah c3),(4,vP b1 0),(7,vI 0),(15,vS p1 p.Arrays c),(16,vI (p.Arrays.length:Int)),(17,vI 0)] ?_;obtain⟨aO,aB,hMl1⟩:=zB N;refine zCO p a0 ah 0 0 aO aB iR h3 h h2 nG nO ?_ ?_
 ·intro bI  heq1 bf;subst aO;refine zS<|wV [6] rfl<|zG<|yX ?_;obtain rfl:=zD hMl1;exact wC
 intro r0 I9 hs9 m9 aW le9 aY;subst aW;refine zW<|zH ?_;obtain rfl:=zD hMl1;exact fO aY
def pH(aK:List HA)(r:Int):KT:=λkk I' ag v=>
 ∃v0,aK=ag/\v=tupV [v0]/\v0=.int .i64 r
def xH(s:(List zK))(f0:(zK->Option Bool))(t8:Int):Option (Out Unit (Int)):=do
 if(decide (t8<(s.length:Int))) then
  let x<-idx s t8;let y<-f0 x;if y then pure (.ret t8)
  else xH s f0 (W (t8+1))
 else pure (.done ())
 partial_fixpoint
theorem gH(s:(List zK))(f0:(zK->Option Bool)):∀(t8:Int) (o:Out Unit (Int)),xH s f0 t8=some o->∀{B}{I0 I:Imm}{Q p c}{fv:Value}{aK:List HA},I0.le I->(S4 I p s c)->(FV1 Tryz.prog I aK fv f0)->NG Q->NO Q->(∀I',o=(.done ())->I0.le I'->T 19 B Q (.exit 0) I' aK [])->(∀r I' ag m',o=(.ret r)->I0.le I'->RS Tryz.prog f134 B (pH aK r) I' ag m'->T 19 B Q .ret I' ag m')->J Tryz.prog 19 B (nav (bodyOf f134) [1,0,1,0]) Q I aK [(0,vS p s c),(1,fv),(7,vI (s.length:Int)),(8,vI t8)]:=by
 refine xH.partial_correctness s f0 _ λaI ih t8 o N B I0 I Q p c fv aK H h h1 hg ho hx hr=>yV hg ho<|yH [9] rfl<|zZ<|yE N ?_ ?_
 ·intro hc N;refine zT<|zZ<|yI<|yH [5] rfl<|yW<|yG 3 [] [11,12,13] rfl<|bE N λx hy N=>xK rfl rfl h hy ?_;intro ad aN ap ak;obtain⟨p1,c1,rfl,h2⟩:=oA ak;refine xA 0 ap (cAccess x p1 c1) (vA (cAccess x p1 c1)) rfl<|bE N λy ay N=>zKD rfl rfl h1 ay ⟨_,rfl,(kV ⟨_,rfl,h2⟩)⟩ (co _).symm ?_;rintro I0 v01 le rfl;refine uD (ag:=aK) (co _) ?_;have ⟨h,h1,H⟩:=m3 le h h1 H;refine yA rfl<|zG<|yE N ?_ ?_
  ·intro aE N;exact yH [4] rfl<|xD<|zW<|zH<|zH<|hr _ _ _ _ (zD N).symm H ⟨_,_,(resT rfl),(λ_ h=>h),⟨_,rfl,rfl,rfl⟩⟩
  intro aE N;exact zT<|zL<|zG<|zJ<|yK [] [8] rfl<|yU<|nD<|ih (W (t8+1)) _ N H h h1 hg ho hx hr
 intro hc N;exact wM<|yS<|hx _  (zD N).symm H
def vW(s:(List zK))(f0:(zK->Option Bool)):Option (Int):=do
 match<-xH s f0 0 with
 | .ret r0=>pure r0
 | .done _=>
  pure (-1)
theorem fM:∀s f0 r,vW s f0=some r->∀{I:Imm}{p c}{fv:Value}{aK:List HA},(S4 I p s c)->(FV1 Tryz.prog I aK fv f0)->RT 134 [vS p s c,fv] I aK (pH aK r):=by
 intro s f0 r N I p c fv aK h h1;unfold vW at N;refine yL func134 λB=>wL []<|zZ<|yH [7,8] rfl<|xY<|pE [(0,vS p s c),(1,fv),(7,vI (s.length:Int)),(8,vI 0)] ?_;obtain⟨o0,aA,aG⟩:=zB N;refine gH s f0 0 o0 aA iR h h1 nG nO ?_ ?_
 ·intro aT  heq aa;subst o0;refine zS<|wV [4] rfl<|zG<|yX ?_;exact xU aG (resT rfl) (λ_ h=>h) ⟨_,rfl,rfl,rfl⟩
 intro r0 I9 hs9 m9 aW le9 aY;subst aW;refine zW<|zH ?_;obtain rfl:=zD aG;exact fO aY
def jJ(aK:List HA)(r:Bool):KT:=λkk I' ag v=>
 ∃v0,aK=ag/\v=tupV [v0]/\v0=.bool r
def xR(s:(List zK))(f0:(zK->Option Bool)):Option (Bool):=do
 let y<-vW s f0;pure (decide (y>=0))
theorem qU:∀s f0 r,xR s f0=some r->∀{I:Imm}{p c}{fv:Value}{aK:List HA},(S4 I p s c)->(FV1 Tryz.prog I aK fv f0)->RT 92 [vS p s c,fv] I aK (jJ aK r):=by
 intro s f0 r N I p c fv aK h h1;unfold xR at N;refine yL func92 λB=>wL []<|yW<|yG 2 [] [5,6] rfl<|bE N λy hy N=>zEg (hs1:=aK) (rest:=[]) rfl rfl rfl rfl (by kernel_rfl) rfl (co _).symm (fM s f0 _ hy h h1) ?_;rintro I0 av v2 k2 le - ⟨v0,rfl,rfl,rfl⟩ -;refine uD (ag:=aK) (co _) ?_;refine yK [] [4] rfl<|zG<|yX ?_;exact xU N (resT rfl) (λ_ h=>h) ⟨_,rfl,rfl,rfl⟩
def zCz(r:(List zK)):KT:=λkk I' ag v=>
 ∃v0,ag=[]/\v=tupV [v0]/\SL I' v0 r
mutual
def kO(e0:zI):Option ((List zK)):=do
 if(e0.Kind==3) then pure ([e0.Read]:List zK)
 else
  let aj<-mX (same e0) ([]:List zK) (same 0);pure (id aj)
 partial_fixpoint
def mX(e0:zI)(out:List zK)(t15:Int):Option (List zK):=do
 if(decide (t15<(e0.Kids.length:Int))) then
  let x<-idx e0.Kids t15;let y<-kO (same x);let aq<-app 40 out y;mX (same e0) (same aq) (W (t15+1))
 else pure (id out)
 partial_fixpoint
end
theorem zI7:(∀(e0:zI) r,kO e0=some r->∀{I:Imm}{p c p1 c1 p2 c2},(S4 I p e0.Index.Coefs c)->(S4 I p1 e0.Read.Subs c1)->(S4 I p2 e0.Kids c2)->RT 93 [vA (cExpr e0 p c p1 c1 p2 c2)] I [] (zCz  r))/\(∀(e0:zI) (out:List zK) (t15:Int) o,mX e0 out t15=some o->∀{B}{I0 I:Imm}{Q p2 c2 p3 c3 cs},I0.le I->(S4 I p2 e0.Kids c2)->(RL I cs out)->NG Q->NO Q->(∀I' aj p4 c4 az,o=aj->I0.le I'->(RL I' az aj)->T 25 B Q (.exit 0) I' [hO zK (vS p4 aj c4) az] [(3,vS p4 aj c4)])->J Tryz.prog 25 B (nav (bodyOf f93) [1,1,1,0,1,0]) Q I [hO zK (vS p3 out c3) cs] [(3,vS p3 out c3),(13,vS p2 e0.Kids c2),(14,vI (e0.Kids.length:Int)),(15,vI t15)]):=by
 refine kO.mutual_partial_correctness _ _ ?_ ?_
 ·intro F_impl_reads_l1 ih_impl_reads_l1 e0 r N I p c p1 c1 p2 c2 h h1 h2;refine yL func93 λB=>yF<|vK (cExpr e0 p c p1 c1 p2 c2) ?_;intro b hb;refine wB [] []<|zZ<|yF<|yK [0] [8] rfl<|zG<|yE N ?_ ?_
  ·intro hc N;refine yF<|sW 2 [0] [(10,vA (cAccess e0.Read p1 c1))]<|uP (cAccess e0.Read p1 c1) zK ?_;intro b1 hb1;have h3:RL I (cAccess e0.Read p1 c1) ([e0.Read]:List zK):=⟨(cAccess e0.Read p1 c1),_,rfl,rfl,(kV ⟨_,rfl,h1⟩),rfl⟩;refine yK [] [2] rfl<|xD<|zH<|yZ 0 rfl ?_;intro I0 le hl0;have h4:=SL.of_frozen hl0 le h3;exact xU N (resT rfl) zM ⟨_,rfl,rfl,h4⟩
  intro hc N;refine zT<|zEP [(3,z0)]<|zZ<|yF<|yK [0] [13,14,15] rfl<|xY<|jS (zY [] (ag:=[]))<|pE [(3,z0),(13,vS p2 e0.Kids c2),(14,vI (e0.Kids.length:Int)),(15,vI 0)]<|zAm zK λh5=>?_;obtain⟨o0,aA,aG⟩:=zB N;refine ih_impl_reads_l1 e0 ([]:List zK) 0 o0 aA iR h2 h5 nG nO ?_;intro aP aj p4 c4 az heq aD h7;subst o0;refine zS<|wV [2] rfl<|xD<|yZ 0 rfl ?_;intro bx aH hl01;have h13:=SL.of_frozen hl01 aH h7;exact xU aG (resT rfl) zM ⟨_,rfl,rfl,h13⟩
 intro F_impl_reads F_impl_reads_l1 ih_impl_reads ih_impl_reads_l1 e0 out t15 o N B I0 I Q p2 c2 p3 c3 cs H h2 h6 hg ho hx;refine yV hg ho<|yH [16] rfl<|zZ<|yE N ?_ ?_
 ·intro aE N;refine zT<|zZ<|yI<|yF<|bE N λx hy N=>xK rfl rfl h2 hy ?_;intro ad aN ap ak;obtain⟨p5,c5,p6,c6,p7,c7,rfl,h8,h9,h10⟩:=xX ak;refine xA 0 ap (cExpr x p5 c5 p6 c6 p7 c7) (vA (cExpr x p5 c5 p6 c6 p7 c7)) rfl<|wI zExpr ?_;intro b2 hb2;refine xI 0 (cExpr x p5 c5 p6 c6 p7 c7) rfl<|yA rfl<|zG<|zJ<|sW 2 [0] [(19,vS p3 out c3),(20,vA (cExpr x p5 c5 p6 c6 p7 c7))]<|bE N λy ay N=>xF (ih_impl_reads x _ ay h8 h9 h10) ?_;rintro aT av v2 k2 aa - ⟨v03,rfl,rfl,h11⟩ -;have ⟨h2,h6,H⟩:=m3 aa h2 h6 H;obtain⟨p8,c8,rfl⟩:=h11.form;obtain⟨bm,k0,k01⟩:=h11;have h11:SL aT (vS p8 y c8) y:=⟨_,k0,k01⟩;obtain⟨aq,aF,N⟩:=zB N;exact qA 76 2 1 rfl rfl rfl h6 (.inl k0) k01 aF λp9 c9 aM h12=>tX (zY [0,1] (ag:=[hB b2 (cExpr x p5 c5 p6 c6 p7 c7),hO zK (vS p9 aq c9) aM]))<|yK [] [3] rfl<|zL<|zG<|zJ<|yK [] [15] rfl<|yU<|jS (zX [1] rfl (by decide))<|nD<|ih_impl_reads_l1 e0 aq (W (t15+1)) _ N H h2 h12 hg ho hx
 intro aE N;exact wM<|yS<|hx _ _ _ _ _ (zD N).symm H h6
theorem zBv:∀e0 r,kO e0=some r->∀{I:Imm}{p c p1 c1 p2 c2},(S4 I p e0.Index.Coefs c)->(S4 I p1 e0.Read.Subs c1)->(S4 I p2 e0.Kids c2)->RT 93 [vA (cExpr e0 p c p1 c1 p2 c2)] I [] (zCz  r):=zI7.1
def tE(a0:zK)(x:zC)(x1:(List Int)):Option (Bool):=do
 let y<-sP x a0 x1;pure (decide (y<0))
theorem zBw:∀a0 x x1 r,tE a0 x x1=some r->∀{I:Imm}{p c}{ad:Addr}{p1 c1 p2 c2}{ad1:Addr}{p3 c3},(S4 I p a0.Subs c)->(S4 I p1 x.Arrays c1)->(S4 I p2 x.Parts c2)->(At I ad (cProg x p1 c1 p2 c2))->(S4 I p3 x1 c3)->(At I ad1 [vS p3 x1 c3])->RT 94 [vA (cAccess a0 p c),.pointer (some ad),.pointer (some ad1)] I [] (zU  r):=by
 intro a0 x x1 r N I p c ad p1 c1 p2 c2 ad1 p3 c3 h h1 h2 ap h3 ar;unfold tE at N;refine yL func94 λB=>yF<|vK (cAccess a0 p c) ?_;intro b hb;refine wB [] []<|yW<|xA 0 ap (cProg x p1 c1 p2 c2) (vA (cProg x p1 c1 p2 c2)) rfl<|sW 2 [0] [(6,vA (cAccess a0 p c))]<|xA 0 ar [vS p3 x1 c3] (vS p3 x1 c3) rfl<|bE N λy hy N=>eO (jV x a0 x1 _ hy h1 h2 h h3) λI0 le=>wB [] [(4,.bool (decide (y<0)))]<|zG<|yX ?_;obtain rfl:=zD N;exact wC
def nE(p:zC)(s:zP)(ah:(List Int)):Option (Bool):=do
 let t6<-(do
  let y<-sP p s.Write ah;if(decide (y>=0)) then
   let y1<-kO s.Value;let y2<-xR y1 (λx0=>tE x0 p ah);pure (!y2)
  else
   pure false
    : Option Bool)
 pure (id t6)
theorem zCd:∀p s ah r,nE p s ah=some r->∀{I:Imm}{p1 c p2 c1 p3 c2 p4 c3 p5 c4 p6 c5 p7 c6},(S4 I p1 p.Arrays c)->(S4 I p2 p.Parts c1)->(S4 I p3 s.Write.Subs c2)->(S4 I p4 s.Value.Index.Coefs c3)->(S4 I p5 s.Value.Read.Subs c4)->(S4 I p6 s.Value.Kids c5)->(S4 I p7 ah c6)->RT 51 [vA (cProg p p1 c p2 c1),vA (cStmt s p3 c2 p4 c3 p5 c4 p6 c5),vS p7 ah c6] I [] (zU  r):=by
 intro p s ah r N I p1 c p2 c1 p3 c2 p4 c3 p5 c4 p6 c5 p7 c6 h h1 h2 h3 h4 h5 h6;unfold nE at N;refine yL func51 λB=>?_;have H:=iS I;refine yF<|vK (cProg p p1 c p2 c1) ?_;intro b hb;refine xM 0 rfl ?_;intro I0 le hl0;have ap:At I0 ⟨b,0,none⟩ (cProg p p1 c p2 c1):=At.of_blk hl0;have ⟨h,h1,h2,h3,h4,h5⟩:=m6 le h h1 h2 h3 h4 h5;have ⟨h6,H⟩:=m2 le h6 H;refine vK (cStmt s p3 c2 p4 c3 p5 c4 p6 c5) ?_;intro b1 hb1;refine vK [vS p7 ah c6] ?_;intro b2 hb2;refine xM 0 rfl ?_;intro aT aa hl01;have ar:At aT ⟨b2,0,none⟩ [vS p7 ah c6]:=At.of_blk hl01;have ⟨h,h1,h2,h3,h4,h5⟩:=m6 aa h h1 h2 h3 h4 h5;have ⟨h6,ap,H⟩:=m3 aa h6 ap H;refine wB [] []<|zG<|yB ?_;refine wK N [] (λt6=>[(6,.bool t6)]) (λo0 aA=>?_) ?_
 ·have H:=iS aT;refine zJ<|xA 0 ap (cProg p p1 c p2 c1) (vA (cProg p p1 c p2 c1)) rfl<|sW 3 [0] [(9,vA (cAccess s.Write p3 c2))]<|xA 0 ar [vS p7 ah c6] (vS p7 ah c6) rfl ?_;obtain⟨y,hy,N⟩:=zB aA;refine eO (jV p s.Write ah _ hy h h1 h2 h6) ?_;intro bx aD;have ⟨h,h1,ap,h6,ar,h3⟩:=m6 aD h h1 ap h6 ar h3;have ⟨h4,h5,H⟩:=m3 aD h4 h5 H;refine yG 7 [] [13] rfl<|xZ [13] N ?_ ?_
  ·intro hc N;refine sW 9 [0] [(15,vA (cExpr s.Value p4 c3 p5 c4 p6 c5))]<|bE N λy1 ay N=>xF (zBv s.Value _ ay h3 h4 h5) ?_;rintro bI av v2 k2 aH - ⟨v01,rfl,rfl,h8⟩ -;have ⟨h,h1,ap,h6,ar,H⟩:=m6 aH h h1 ap h6 ar H;obtain⟨p8,c7,rfl⟩:=h8.form;refine yG 11 [] [17] rfl ?_;have hf0:FV1 Tryz.prog bI [] (.func (.func 94) ⟨[]⟩ ⟨[vP b 0,vP b2 0]⟩) (λx0=>tE x0 p ah):=by
    refine FV1.intro ?_;intro I1 aa x0 r u0 hF k0;obtain⟨_,rfl,k0⟩:=k0;obtain⟨p9,c8,rfl,h9⟩:=oA k0;exact(zBw x0 p ah r hF h9 (h.mono aa) (h1.mono aa) (ap.mono aa) (h6.mono aa) (ar.mono aa)).mono (by rintro k i hs u ⟨v0,rfl,rfl,h⟩;exact⟨rfl,h⟩)
   obtain⟨y2,aF,N⟩:=zB N;refine xF (qU y1 (λx0=>tE x0 p ah) _ aF h8 hf0) ?_;rintro bL av v2 k2 bf - ⟨v03,rfl,rfl,rfl⟩ -;have H:=H.trans bf;exact yK [] [6] rfl<|xW zM<|yS<|zV (ct N H)
  intro hc N;exact wB [] [(6,vF)]<|xW zM<|yS<|zV (ct N H)
 intro t6 aP bu aQ;refine zG<|yX ?_;obtain rfl:=zD aQ;exact wC
end Go.LN
