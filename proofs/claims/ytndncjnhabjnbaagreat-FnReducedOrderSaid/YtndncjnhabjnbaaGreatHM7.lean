/- Helper of the proof (see the last text). -/
import Derived.Test.YtndncjnhabjnbaaGreatHM6
set_option linter.unusedVariables false
set_option linter.unusedSimpArgs false
namespace Go.LN
open Go.Proofs Go.Proofs.Tryz
set_option maxRecDepth 20000
def mD(deps:(List zR))(many:Int)(x:List Bool)(ready:List Int)(t21:Int):Option (List Int):=do
 if(decide (t21<many)) then
  let y<-wO deps (λx0=>pC x0 t21 x);let t35<-(do
   let x1<-idx x t21;if(!x1) then pure (!y)
   else
    pure false
     : Option Bool)
  let ready2<-(do
   if t35 then
    let ready3<-app 8 ready ([t21]:List Int);pure (id ready3)
   else
    pure (id ready)
     : Option (List Int))
  mD deps many x ready2 (W (t21+1))
 else pure (id ready)
 partial_fixpoint
theorem zGI(deps:(List zR))(many:Int)(x:List Bool):∀(ready:List Int) (t21:Int) (o:List Int),mD deps many x ready t21=some o->∀{B}{I0 I:Imm}{Q}{choices:(List Int)}{out:List Int}{t17:Int}{p c p1 c1}{b1}{p2 c2 az p3 c3 aM p5 c5 bv},I0.le I->(S4 I p deps c)->(S4 I p1 choices c1)->(RL I az out)->(RL I aM x)->(RL I bv ready)->NG Q->NO Q->(∀I' ready1 p6 c6 bH,o=ready1->I0.le I'->(RL I' bH ready1)->T 58 B Q (.exit 2) I' [hO Int (vS p6 ready1 c6) bH,hO Int (vS p2 out c2) az,hB b1 [vS p3 x c3],hO Bool (vS p3 x c3) aM] [(0,vS p deps c),(1,vI many),(2,vS p1 choices c1),(7,vS p2 out c2),(8,vP b1 0),(9,vI t17),(10,vS p6 ready1 c6),(16,vI many),(17,vI t17)])->J Tryz.prog 58 B (nav (bodyOf f33) [1,1,1,0,1,0,0,1,1,0,0,1,1,0,1,0]) Q I [hO Int (vS p5 ready c5) bv,hO Int (vS p2 out c2) az,hB b1 [vS p3 x c3],hO Bool (vS p3 x c3) aM] [(0,vS p deps c),(1,vI many),(2,vS p1 choices c1),(7,vS p2 out c2),(8,vP b1 0),(9,vI t17),(10,vS p5 ready c5),(16,vI many),(17,vI t17),(20,vI many),(21,vI t21)]:=by
 refine mD.partial_correctness deps many x _ λaI ih ready t21 o N B I0 I Q choices out t17 p c p1 c1 b1 p2 c2 az p3 c3 aM p5 c5 bv H h h1 h4 h5 h8 hg ho hx=>yV hg ho<|yH [22] rfl<|zZ<|yE N ?_ ?_
 ·intro aE N;refine zT<|zZ<|yI<|yF<|yG 1 [] [23] rfl<|wI [vI 0] ?_;intro b2 hb1;refine xI 0 [vI t21] rfl<|yA rfl<|yW<|yG 2 [] [24,25] rfl<|xM 0 rfl ?_;intro I0 le hl0;have ap:At I0 ⟨b2,0,none⟩ [vI t21]:=At.of_blk hl0;have ⟨h,h1,h4,h8,h5,H⟩:=m6 le h h1 h4 h8 h5 H;refine tX (zY [2,3,0,1] (ag:=[hB b1 [vS p3 x c3],hO Bool (vS p3 x c3) aM,hO Int (vS p5 ready c5) bv,hO Int (vS p2 out c2) az]))<|bE N λy ay N=>zDV (post:=oQ [] y) (L:=[hB b1 [vS p3 x c3],hO Bool (vS p3 x c3) aM]) (hs1:=[]) (rest:=[hO Int (vS p5 ready c5) bv,hO Int (vS p2 out c2) az]) rfl rfl rfl rfl (by kernel_rfl) rfl rfl ?_ ?_
  ·intro i1 aa hl1;have ar:At i1 ⟨b1,0,none⟩ [vS p3 x c3]:=At.of_blk (hl1 (hB b1 [vS p3 x c3]) (by simp));have hs0:SL i1 (vS p3 x c3) x:=⟨_,hl1 (hO Bool (vS p3 x c3) aM) (by simp),iM aa h5⟩;have ⟨h,ap⟩:=m2 aa h ap;have hf0:FV1 Tryz.prog i1 [] (.func (.func 61) ⟨[]⟩ ⟨[vP b2 0,vP b1 0]⟩) (λx0=>pC x0 t21 x):=by
    refine FV1.intro ?_;intro I1 aa x0 r u0 hF k0;obtain⟨_,rfl,k0⟩:=k0;obtain rfl:=rJ k0;exact(zHK x0 t21 x r hF (ap.mono aa) (hs0.mono aa) (ar.mono aa)).mono (by rintro k i hs u ⟨v0,rfl,rfl,h⟩;exact⟨rfl,h⟩)
   exact eU deps (λx0=>pC x0 t21 x) _ ay h hf0
  rintro - aT av v2 k2 aa - - - ⟨v0,rfl,rfl,rfl⟩ -;have ⟨h,h1,h4,h8,ap,h5⟩:=m6 aa h h1 h4 h8 ap h5;have H:=H.trans aa;refine yK [] [12] rfl<|zG<|yB ?_;refine wK N [hB b1 [vS p3 x c3],hO Bool (vS p3 x c3) aM,hO Int (vS p5 ready c5) bv,hO Int (vS p2 out c2) az] (λt35=>[(0,vS p deps c),(1,vI many),(2,vS p1 choices c1),(7,vS p2 out c2),(8,vP b1 0),(9,vI t17),(10,vS p5 ready c5),(11,vP b2 0),(16,vI many),(17,vI t17),(20,vI many),(21,vI t21),(35,.bool t35)]) (λo0 aA=>?_) ?_
  ·have H:=iS aT;refine zJ<|yG 1 [0] [27] rfl<|xA 0 ap [vI t21] (vI t21) rfl ?_;obtain⟨x1,aF,N⟩:=zB aA;refine pF 1 rfl rfl rfl h5 aF ?_;intro ad aN aS bJ ak;obtain rfl:=ak;refine zBt 1 0 aS bJ [.bool x1] (.bool x1) rfl rfl<|yG 6 [] [32] rfl<|xZ [32] N ?_ ?_
   ·intro aV N;exact yK [] [35] rfl<|yS<|zV (ct N H)
   intro aV N;exact wB [] [(35,vF)]<|yS<|zV (ct N H)
  intro t35 aP aD aQ;have ⟨h,h1,h4,h8,ap,h5⟩:=m6 aD h h1 h4 h8 ap h5;have H:=H.trans aD;refine zG ?_;obtain⟨aO,aB,hMc1⟩:=zB aQ;refine qQ (λI' ag m'=>∃(ready2:List Int) (p7:Option Addr) (c7:Nat) (cs6:List Value),aO=ready2/\aP.le I'/\(RL I' cs6 ready2)/\ag=[hB b1 [vS p3 x c3],hO Bool (vS p3 x c3) aM,hO Int (vS p7 ready2 c7) cs6,hO Int (vS p2 out c2) az]/\m'=[(0,vS p deps c),(1,vI many),(2,vS p1 choices c1),(7,vS p2 out c2),(8,vP b1 0),(9,vI t17),(10,vS p7 ready2 c7),(16,vI many),(17,vI t17),(20,vI many),(21,vI t21)]) ?_ ?_
  ·have H:=iS aP;refine yE aB ?_ ?_
   ·intro bD N;refine zJ<|yG 1 [] [36] rfl<|xA 0 ap [vI t21] (vI t21) rfl<|uP [vI t21] Int ?_;intro b3 hb2;have h12:RL aP [vI t21] ([t21]:List Int):=rI [t21];obtain⟨ready3,aX,N⟩:=zB N;exact qA 3 1 3 rfl rfl rfl h8 (.inr ⟨0,rfl⟩) h12 aX λp8 c8 cs7 h13=>tX (zY [1,2,3,4] (ag:=[hB b1 [vS p3 x c3],hO Bool (vS p3 x c3) aM,hO Int (vS p8 ready3 c8) cs7,hO Int (vS p2 out c2) az]))<|yK [] [10] rfl<|yS<|zV ⟨_,_,_,_,(zD N).symm,H,h13,rfl,rfl⟩
   intro bD N;exact zT<|yS<|zV ⟨_,_,_,_,(zD N).symm,H,h8,rfl,rfl⟩
  rintro bx av m2 ⟨ready2,p7,c7,cs6,heq1,aH,h11,rfl,rfl⟩;subst aO;have ⟨h,h1,h4,h5,H⟩:=m5 aH h h1 h4 h5 H;exact zL<|zG<|zJ<|yK [] [21] rfl<|yU<|jS (zX [2,3,0,1] rfl (by decide))<|nD<|ih ready2 (W (t21+1)) _ hMc1 H h h1 h4 h5 h11 hg ho hx
 intro aE N;exact wM<|yS<|hx _ _ _ _ _ (zD N).symm H h8
def tQ(deps:(List zR))(many:Int)(choices:(List Int))(out:List Int)(t17:Int)(x:List Bool):Option (List Int):=do
 if(decide (t17<many)) then
  let ready1<-mD deps many x ([]:List Int) 0;let y1<-zAP choices t17 (ready1.length:Int);let x2<-idx ready1 y1;let x3<-idx x x2;let l1<-pure (x.set x2.toNat true);let aq<-app 8 out ([x2]:List Int);tQ deps many choices aq (W (t17+1)) l1
 else pure (id out)
 partial_fixpoint
theorem zGJ(deps:(List zR))(many:Int)(choices:(List Int)):∀(out:List Int) (t17:Int) (x:List Bool) (o:List Int),tQ deps many choices out t17 x=some o->∀{B}{I0 I:Imm}{Q p c p1 c1}{b1}{p2 c2 az p3 c3 aM},I0.le I->(S4 I p deps c)->(S4 I p1 choices c1)->(RL I az out)->(RL I aM x)->NG Q->NO Q->(∀I' aj p4 c4 aU,o=aj->I0.le I'->(RL I' aU aj)->T 58 B Q (.exit 0) I' [hO Int (vS p4 aj c4) aU] [(7,vS p4 aj c4)])->J Tryz.prog 58 B (nav (bodyOf f33) [1,1,1,0,1,0]) Q I [hO Int (vS p2 out c2) az,hB b1 [vS p3 x c3],hO Bool (vS p3 x c3) aM] [(0,vS p deps c),(1,vI many),(2,vS p1 choices c1),(7,vS p2 out c2),(8,vP b1 0),(16,vI many),(17,vI t17)]:=by
 refine tQ.partial_correctness deps many choices _ λaI ih out t17 x o N B I0 I Q p c p1 c1 b1 p2 c2 az p3 c3 aM H h h1 h4 h5 hg ho hx=>yV hg ho<|yH [18] rfl<|zZ<|yE N ?_ ?_
 ·intro hc N;refine zT<|zZ<|yI<|yH [9] rfl<|zEP [(10,z0)]<|zZ<|yH [20,21] rfl<|xY<|pE [(0,vS p deps c),(1,vI many),(2,vS p1 choices c1),(7,vS p2 out c2),(8,vP b1 0),(9,vI t17),(10,z0),(16,vI many),(17,vI t17),(20,vI many),(21,vI 0)]<|zAm Int λh7=>?_;obtain⟨o02,ho02,aG⟩:=zB N;refine zGI deps many x ([]:List Int) 0 o02 ho02 iR h h1 h4 h5 h7 (λ_ _ _ h=>hg _ _ _ h) (λ_ _ h=>ho _ _ h) ?_;intro bI ready1 p6 c6 bH heq2 bf h9;subst o02;have ⟨h,h1,h4,h5,H⟩:=m5 bf h h1 h4 h5 H;refine zS<|yW<|yG 5 [] [41,42,43,45] rfl ?_;obtain⟨y1,bk,N⟩:=zB aG;refine eO (zIl choices t17 (ready1.length:Int) _ bk h1) ?_;intro bL bu;have ⟨h,h1,h4,h9,h5,H⟩:=m6 bu h h1 h4 h9 h5 H;obtain⟨x2,bC,N⟩:=zB N;refine pF 0 rfl rfl rfl h9 bC ?_;intro ad1 bm hat3 hcc1 au;obtain rfl:=au;refine zBt 0 0 hat3 hcc1 [vI x2] (vI x2) rfl rfl<|yK [] [13] rfl<|yW<|yG 2 [2] [49,50] rfl<|bE N λx3 hy6 N=>pF 3 rfl rfl rfl h5 hy6 ?_;intro ad2 bO hat4 hcc2 aZ;obtain rfl:=aZ;obtain⟨l1,hy7,N⟩:=zB N;refine zGm 3 0 hat4 hcc2 h5 hy6 hy7 rfl ?_;intro cs8 h15 hl01;rw[vE hl01];refine yA rfl<|zG<|zJ<|yG 2 [] [52,53] rfl<|uP [vI x2] Int ?_;intro b4 hb3;have h16:RL bL [vI x2] ([x2]:List Int):=rI [x2];obtain⟨aq,hy8,N⟩:=zB N;exact qA 3 1 2 rfl rfl rfl h4 (.inr ⟨0,rfl⟩) h16 hy8 λp9 c9 cs9 h17=>tX (zY [1,2,3,4] (ag:=[hO Int (vS p6 ready1 c6) bH,hO Int (vS p9 aq c9) cs9,hB b1 [vS p3 l1 c3],hO Bool (vS p3 l1 c3) cs8]))<|yK [] [7] rfl<|zL<|zG<|zJ<|yK [] [17] rfl<|yU<|jS (zX [1,2,3] rfl (by decide))<|nD<|ih aq (W (t17+1)) l1 _ N H h h1 h17 h15 hg ho hx
 intro hc N;exact wM<|xW (zX [0] rfl (by decide))<|yS<|hx _ _ _ _ _ (zD N).symm H h4
def eK(deps:(List zR))(many:Int)(choices:(List Int)):Option ((List Int)):=do
 let l<-mkrow 1 many (false:Bool);let aj<-tQ deps many choices ([]:List Int) 0 l;pure (id aj)
theorem zDn:∀deps many choices r,eK deps many choices=some r->∀{I:Imm}{p c p1 c1},(S4 I p deps c)->(S4 I p1 choices c1)->RT 33 [vS p deps c,vI many,vS p1 choices c1] I [] (nI  r):=by
 intro deps many choices r N I p c p1 c1 h h1;unfold eK at N;refine yL func33 λB=>wL []<|zEP [(7,z0)]<|yW<|yG 1 [] [14] rfl<|bE N λl hy N=>zNM 1 [vF] rfl hy rfl λb cs h2=>wI [z0] ?_;intro b1 hb;refine xI 0 [vS (some ⟨b,0,none⟩) l l.length] rfl<|yA rfl<|zZ<|yH [16,17] rfl<|xY<|pE [(0,vS p deps c),(1,vI many),(2,vS p1 choices c1),(7,z0),(8,vP b1 0),(16,vI many),(17,vI 0)]<|zAm Int λh3=>?_;obtain⟨o03,ho03,hMl1⟩:=zB N;refine zGJ deps many choices ([]:List Int) 0 l o03 ho03 iR h h1 h3 h2 nG nO ?_;intro I06 aj p4 c4 aU heq3 bG h6;subst o03;refine zS<|wV [6] rfl<|xD<|yZ 0 rfl ?_;intro I07 le7 hl02;have h18:=SL.of_frozen hl02 le7 h6;exact xU hMl1 (resT rfl) zM ⟨_,rfl,rfl,h18⟩
def eV(aK:List HA)(r:(List zR)):KT:=λkk I' ag v=>
 ∃v0,aK=ag/\v=tupV [v0]/\SL I' v0 r
def xP(del:(zR->Option Bool))(s1:List zR)(i:Int)(j:Int):Option ((List zR×Int)):=do
 if(decide (j<(s1.length:Int))) then
  let x<-idx s1 j;let y1<-del x;let (s3,i2)<-(do
   if(!y1) then
    let x1<-idx s1 i;let l<-pure (s1.set i.toNat x);pure (l,(W (i+1)))
   else
    pure (s1,i)
     : Option (List zR×Int))
  xP del s3 i2 (W (j+1))
 else pure (s1,i)
 partial_fixpoint
theorem fZ(del:(zR->Option Bool)):∀(s1:List zR) (i:Int) (j:Int) (o:(List zR×Int)),xP del s1 i j=some o->∀{B}{I0 I:Imm}{Q}  {fv:Value}{aK:List HA}{p1 c1 az},I0.le I->(FV1 Tryz.prog I aK fv del)->(RL I az s1)->NG Q->NO Q->(∀I' s2 i1 p2 c2 aM,o=(s2,i1)->I0.le I'->(RL I' aM s2)->T 42 B Q (.exit 0) I' (hO zR (vS p2 s2 c2) aM::aK) [(0,vS p2 s2 c2),(5,vI i1)])->J Tryz.prog 42 B (nav (bodyOf f63) [1,1,1,0,1,0]) Q I (hO zR (vS p1 s1 c1) az::aK) [(0,vS p1 s1 c1),(1,fv),(5,vI i),(6,vI j)]:=by
 refine xP.partial_correctness del _ λaI ih s1 i j o N B I0 I Q fv aK p1 c1 az H h1 h4 hg ho hx=>yV hg ho<|yB<|yH [19] rfl<|zG<|yE N ?_ ?_
 ·intro aE N;refine zT<|zZ<|yI<|yF<|yG 2 [] [22,23] rfl<|bE N λx ay N=>pF 0 rfl rfl rfl h4 ay ?_;intro ad aN ap bJ ak;obtain rfl:=rJ ak;refine zBt 0 0 ap bJ [vI x.From,vI x.To,vI x.Kinds] (vA [vI x.From,vI x.To,vI x.Kinds]) rfl rfl<|wI [vI 0,vI 0,vI 0] ?_;intro b hb;refine zBu 0 [vI x.From,vI x.To,vI x.Kinds] (hB b [vI x.From,vI x.To,vI x.Kinds]::hO zR (vS p1 s1 c1) az::aK) rfl rfl rfl rfl<|yA rfl<|yW<|sW 2 [0] [(26,fv),(27,vA [vI x.From,vI x.To,vI x.Kinds])]<|bE N λy1 aF N=>tX (ag:=aK++[hB b [vI x.From,vI x.To,vI x.Kinds],hO zR (vS p1 s1 c1) az]) (zEI [hB b [vI x.From,vI x.To,vI x.Kinds],hO zR (vS p1 s1 c1) az] aK)<|zKD rfl rfl h1 aF ⟨_,rfl,(gF rfl)⟩ rfl ?_;rintro aP v01 aD rfl;refine tX (ag:=(hB b [vI x.From,vI x.To,vI x.Kinds]::hO zR (vS p1 s1 c1) az::aK)) (zEI aK [hB b [vI x.From,vI x.To,vI x.Kinds],hO zR (vS p1 s1 c1) az]) ?_;have ⟨h4,h1,H⟩:=m3 aD h4 h1 H;refine yK [] [29] rfl<|zG ?_;obtain⟨o0,aA,aQ⟩:=zB N;refine qQ (λI' ag m'=>∃(s3:List zR) (i2:Int) (p3:Option Addr) (c3:Nat) (aU:List Value),o0=(s3,i2)/\aP.le I'/\(RL I' aU s3)/\ag=(hO zR (vS p3 s3 c3) aU::aK)/\m'=[(0,vS p3 s3 c3),(1,fv),(5,vI i2),(6,vI j)]) ?_ ?_
  ·have H:=iS aP;refine yE aA ?_ ?_
   ·intro aV N;refine yF<|sW 3 [0] [(30,vS p1 s1 c1),(31,vI i),(32,vA [vI x.From,vI x.To,vI x.Kinds])]<|bE N λx1 aX N=>pF 1 rfl rfl rfl h4 aX ?_;intro ad1 bm ar hcc1 au;obtain rfl:=rJ au;obtain⟨l,bk,N⟩:=zB N;refine zGm (c:=[vI x.From,vI x.To,vI x.Kinds]) 1 0 ar hcc1 h4 aX bk (gF rfl) ?_;intro bv h8 hl01;rw[vE hl01];exact yA rfl<|zG<|zJ<|yK [] [5] rfl<|xW (zC8 [hB b [vI x.From,vI x.To,vI x.Kinds],hO zR (vS p1 l c1) bv] aK [1] rfl (by decide))<|yS<|zV ⟨_,_,_,_,_,(zD N).symm,H,h8,rfl,rfl⟩
   intro aV N;exact zT<|xW (zC8 [hB b [vI x.From,vI x.To,vI x.Kinds],hO zR (vS p1 s1 c1) az] aK [1] rfl (by decide))<|yS<|zV ⟨_,_,_,_,_,(zD N).symm,H,h4,rfl,rfl⟩
  rintro bx av m2 ⟨s3,i2,p3,c3,aU,heq,aH,h7,rfl,rfl⟩;subst o0;have ⟨h1,H⟩:=m2 aH h1 H;exact zL<|zG<|zJ<|yK [] [6] rfl<|yU<|nD<|ih s3 i2 (W (j+1)) _ aQ H h1 h7 hg ho hx
 intro aE N;exact wM<|yS<|hx _ _ _ _ _ _ (zD N).symm H h4
def wX(s:(List zR))(del:(zR->Option Bool)):Option ((List zR)):=do
 let y<-xO s del;if(y==(-1)) then pure (id s)
 else
  let (s2,i1)<-xP del s y (W (y+1));let l1<-clrL s2 i1 (zR.mk 0 0 0);let l2<-slc l1 0 i1;pure (id l2)
theorem dQ:∀s del r,wX s del=some r->∀{I:Imm}{p c cs}{fv:Value}{aK:List HA},(RL I cs s)->(FV1 Tryz.prog I aK fv del)->RT 63 [vS p s c,fv] I (hO zR (vS p s c) cs::aK) (eV aK r):=by
 intro s del r N I p c cs fv aK h h1;unfold wX at N;refine yL func63 λB=>wL []<|yW<|yG 2 [] [8,9] rfl<|bE N λy hy N=>zDV (L:=[hO zR (vS p s c) cs]) (hs1:=aK) (rest:=[]) rfl rfl rfl rfl (by kernel_rfl) rfl (co _).symm (λi1 aa hl1=>rZ s del _ hy ⟨_,hl1 (hO zR (vS p s c) cs) (by simp),iM aa h⟩ (h1.mono aa)) ?_;rintro - I0 av v2 k2 le - - - ⟨v0,rfl,rfl,rfl⟩ -;refine uD (ag:=(hO zR (vS p s c) cs::aK)) (co _) ?_;have ⟨h,h1⟩:=m2 le h h1;refine yK [] [5] rfl<|zZ<|yH [12] rfl<|zG<|yE N ?_ ?_
 ·intro hc N;refine yH [4] rfl<|xD<|zH<|yZ 0 rfl ?_;intro aT aa hl0;have h3:=SL.of_frozen hl0 aa h;exact xU N (resT rfl) (λ_ h=>h) ⟨_,rfl,rfl,h3⟩
 intro hc N;refine zT<|zZ<|yH [6] rfl<|xY<|pE [(0,vS p s c),(1,fv),(5,vI y),(6,vI (W (y+1)))] ?_;obtain⟨aO,aB,aG⟩:=zB N;refine fZ del s y (W (y+1)) aO aB iR h1 h nG nO ?_;intro bI s2 i1 p2 c2 aM heq1 bf h5;subst aO;refine zS<|yW<|yG 2 [] [36,37] rfl ?_;obtain⟨l1,bC,N⟩:=zB aG;refine zQv (zR.mk 0 0 0) [vI 0,vI 0,vI 0] 0 rfl rfl rfl rfl h5 bC (gF rfl) λbH v02 h9 hl02=>zAl (m':=[(0,vS p2 s2 c2),(5,vI i1),(36,vS p2 s2 c2),(37,vI i1)]) ⟨rfl,rfl,rfl,rfl,trivial⟩<|zIU (ag:=(hO zR (vS p2 l1 c2) bH::aK)) (m':=[(0,vS p2 l1 c2),(5,vI i1),(36,vS p2 l1 c2),(37,vI i1)]) (by first|rfl|simp only[vS,hl02,cu,fa,fw,fe,ex,ey]) (by first|rfl|simp only[vS,hl02])<|yA rfl<|yW<|yG 2 [] [39,40] rfl<|bE N λl2 hy6 N=>zNI 0 rfl rfl rfl rfl rfl (by kernel_rfl) rfl rfl h9 hy6 ?_;rintro p4 c4 cs6 - h10;refine uD (ag:=(hO zR (vS p4 l2 c4) cs6::aK)) rfl<|yK [] [4] rfl<|xD<|yZ 0 rfl ?_;intro bL bu hl03;have h11:=SL.of_frozen hl03 bu h10;exact xU N (resT rfl) (λ_ h=>h) ⟨_,rfl,rfl,h11⟩
def vR(aK:List HA)(r:Bool):KT:=λkk I' ag v=>
 ∃v0,aK=ag/\v=tupV [v0]/\v0=.bool r
def yN(s1:(List zA))(s2:(List zA))(eq:(zA->zA->Option Bool))(t17:Int):Option (Out Unit (Bool)):=do
 if(decide (t17<(s1.length:Int))) then
  let x<-idx s1 t17;let x1<-idx s2 t17;let y<-eq x x1;if(!y) then pure (.ret false)
  else yN s1 s2 eq (W (t17+1))
 else pure (.done ())
 partial_fixpoint
theorem qI(s1:(List zA))(s2:(List zA))(eq:(zA->zA->Option Bool)):∀(t17:Int) (o:Out Unit (Bool)),yN s1 s2 eq t17=some o->∀{B}{I0 I:Imm}{Q p c p1 c1}{fv:Value}{aK:List HA},I0.le I->(S4 I p1 s2 c1)->(FV2 Tryz.prog I aK fv eq)->(S4 I p s1 c)->NG Q->NO Q->(∀I',o=(.done ())->I0.le I'->T 32 B Q (.exit 0) I' aK [])->(∀r I' ag m',o=(.ret r)->I0.le I'->RS Tryz.prog f138 B (vR aK r) I' ag m'->T 32 B Q .ret I' ag m')->J Tryz.prog 32 B (nav (bodyOf f138) [1,1,0,1,0]) Q I aK [(1,vS p1 s2 c1),(2,fv),(15,vS p s1 c),(16,vI (s1.length:Int)),(17,vI t17)]:=by
 refine yN.partial_correctness s1 s2 eq _ λaI ih t17 o N B I0 I Q p c p1 c1 fv aK H h1 h2 h hg ho hx hr=>yV hg ho<|yH [18] rfl<|zZ<|yE N ?_ ?_
 ·intro aE N;refine zT<|zZ<|yI<|yF<|yG 1 [] [19] rfl<|bE N λx hy N=>xK rfl rfl h hy ?_;intro ad aN ap ak;obtain⟨p2,c2,rfl,h3⟩:=yQ ak;refine xA 0 ap (cAff x p2 c2) (vA (cAff x p2 c2)) rfl<|wI [z0,vI 0] ?_;intro b hb;refine yG 5 [] [7] rfl<|zBu 0 (cAff x p2 c2) (hB b (cAff x p2 c2)::aK) rfl rfl rfl rfl<|yA rfl<|yW<|yG 2 [] [22,23] rfl<|bE N λx1 ay N=>xK rfl rfl h1 ay ?_;intro ad1 bm ar au;obtain⟨p3,c3,rfl,h4⟩:=yQ au;refine xA 0 ar (cAff x1 p3 c3) (vA (cAff x1 p3 c3)) rfl<|wI [z0,vI 0] ?_;intro b1 hb1;refine zBu 0 (cAff x1 p3 c3) (hB b1 (cAff x1 p3 c3)::hB b (cAff x p2 c2)::aK) rfl rfl rfl rfl<|yA rfl<|yW<|sW 3 [1,0] [(26,fv),(27,vA (cAff x p2 c2)),(28,vA (cAff x1 p3 c3))]<|bE N λy aF N=>tX (ag:=aK++[hB b1 (cAff x1 p3 c3),hB b (cAff x p2 c2)]) (zEI [hB b1 (cAff x1 p3 c3),hB b (cAff x p2 c2)] aK)<|zQq rfl rfl rfl h2 aF ⟨_,rfl,(yT ⟨_,rfl,h3⟩)⟩ ⟨_,rfl,(yT ⟨_,rfl,h4⟩)⟩ rfl ?_;rintro I0 v02 le rfl;refine tX (ag:=(hB b1 (cAff x1 p3 c3)::hB b (cAff x p2 c2)::aK)) (zEI aK [hB b1 (cAff x1 p3 c3),hB b (cAff x p2 c2)]) ?_;have ⟨h1,h2,h,H⟩:=m4 le h1 h2 h H;refine yK [] [30] rfl<|zG<|yE N ?_ ?_
  ·intro aV N;exact wL [(6,vF)]<|xD<|zW<|zH<|zH<|hr _ _ _ _ (zD N).symm H ⟨_,_,(resT rfl),(zC8 [hB b1 (cAff x1 p3 c3),hB b (cAff x p2 c2)] aK [] rfl (by decide)),⟨_,rfl,rfl,rfl⟩⟩
  intro aV N;exact zT<|zL<|zG<|zJ<|yK [] [17] rfl<|yU<|jS (zC8 [hB b1 (cAff x1 p3 c3),hB b (cAff x p2 c2)] aK [] rfl (by decide))<|nD<|ih (W (t17+1)) _ N H h1 h2 h hg ho hx hr
 intro aE N;exact wM<|yS<|hx _  (zD N).symm H
def xL(s1:(List zA))(s2:(List zA))(eq:(zA->zA->Option Bool)):Option (Bool):=do
 if((s1.length:Int) != (s2.length:Int)) then pure false
 else
  match<-yN s1 s2 eq 0 with
  | .ret r0=>pure r0
  | .done _=>
   pure true
theorem pD:∀s1 s2 eq r,xL s1 s2 eq=some r->∀{I:Imm}{p c p1 c1}{fv:Value}{aK:List HA},(S4 I p s1 c)->(S4 I p1 s2 c1)->(FV2 Tryz.prog I aK fv eq)->RT 138 [vS p s1 c,vS p1 s2 c1,fv] I aK (vR aK r):=by
 intro s1 s2 eq r N I p c p1 c1 fv aK h h1 h2;unfold xL at N;refine yL func138 λB=>wL []<|zZ<|yH [14] rfl<|zG<|yE N ?_ ?_
 ·intro hc N;refine wL [(6,vF)]<|xD<|zH ?_;exact xU N (resT rfl) (λ_ h=>h) ⟨_,rfl,rfl,rfl⟩
 intro hc N;refine zT<|zZ<|yH [15,16,17] rfl<|xY<|pE [(1,vS p1 s2 c1),(2,fv),(15,vS p s1 c),(16,vI (s1.length:Int)),(17,vI 0)] ?_;obtain⟨o0,aA,aG⟩:=zB N;refine qI s1 s2 eq 0 o0 aA iR h1 h2 h nG nO ?_ ?_
 ·intro aT  heq aa;subst o0;refine zS<|zEP [(6,vY)]<|zG<|yX ?_;exact xU aG (resT rfl) (λ_ h=>h) ⟨_,rfl,rfl,rfl⟩
 intro r0 I9 hs9 m9 aW le9 aY;subst aW;refine zW<|zH ?_;obtain rfl:=zD aG;exact fO aY
def uM(s1:(List Int))(s2:(List Int))(t13:Int):Option (Out Unit (Bool)):=do
 if(decide (t13<(s1.length:Int))) then
  let x<-idx s1 t13;let x1<-idx s2 t13;if(x != x1) then pure (.ret false)
  else uM s1 s2 (W (t13+1))
 else pure (.done ())
 partial_fixpoint
theorem zB2(s1:(List Int))(s2:(List Int)):∀(t13:Int) (o:Out Unit (Bool)),uM s1 s2 t13=some o->∀{B}{I0 I:Imm}{Q p c p1 c1},I0.le I->(S4 I p s1 c)->(S4 I p1 s2 c1)->NG Q->NO Q->(∀I',o=(.done ())->I0.le I'->T 26 B Q (.exit 0) I' [] [])->(∀r I' ag m',o=(.ret r)->I0.le I'->RS Tryz.prog f173 B (zU  r) I' ag m'->T 26 B Q .ret I' ag m')->J Tryz.prog 26 B (nav (bodyOf f173) [1,1,0,1,0]) Q I [] [(0,vS p s1 c),(1,vS p1 s2 c1),(12,vI (s1.length:Int)),(13,vI t13)]:=by
 refine uM.partial_correctness s1 s2 _ λaI ih t13 o N B I0 I Q p c p1 c1 H h h1 hg ho hx hr=>yV hg ho<|yH [14] rfl<|zZ<|yE N ?_ ?_
 ·intro aE N;refine zT<|zZ<|yI<|yH [5] rfl<|zZ<|mV (by kernel_rfl) (by kernel_rfl)<|eX 2 [] [16,17] rfl<|bE N λx hy N=>dZ rfl rfl h hy ?_;intro ad aN ap ak;obtain rfl:=ak;refine gT 0 ap [vI x] (vI x) rfl<|eX 6 [] [20,21] rfl<|bE N λx1 ay N=>dZ rfl rfl h1 ay ?_;intro ad1 bm ar au;obtain rfl:=au;refine gT 0 ar [vI x1] (vI x1) rfl<|zGl [] [24] rfl<|zG<|yE N ?_ ?_
  ·intro aV N;exact wL [(4,vF)]<|xD<|zW<|zH<|zH<|hr _ _ _ _ (zD N).symm H ⟨_,_,(resT rfl),zM,⟨_,rfl,rfl,rfl⟩⟩
  intro aV N;exact zT<|zL<|zG<|zJ<|yK [] [13] rfl<|yU<|nD<|ih (W (t13+1)) _ N H h h1 hg ho hx hr
 intro aE N;exact wM<|yS<|hx _  (zD N).symm H
def oR(s1:(List Int))(s2:(List Int)):Option (Bool):=do
 if((s1.length:Int) != (s2.length:Int)) then pure false
 else
  match<-uM s1 s2 0 with
  | .ret r0=>pure r0
  | .done _=>
   pure true
theorem zC4:∀s1 s2 r,oR s1 s2=some r->∀{I:Imm}{p c p1 c1},(S4 I p s1 c)->(S4 I p1 s2 c1)->RT 173 [vS p s1 c,vS p1 s2 c1] I [] (zU  r):=by
 intro s1 s2 r N I p c p1 c1 h h1;unfold oR at N;refine yL func173 λB=>wL []<|zZ<|yH [10] rfl<|zG<|yE N ?_ ?_
 ·intro hc N;refine wL [(4,vF)]<|xD<|zH ?_;obtain rfl:=zD N;exact wC
 intro hc N;refine zT<|zZ<|yH [12,13] rfl<|xY<|pE [(0,vS p s1 c),(1,vS p1 s2 c1),(12,vI (s1.length:Int)),(13,vI 0)] ?_;obtain⟨o0,aA,aG⟩:=zB N;refine zB2 s1 s2 0 o0 aA iR h h1 nG nO ?_ ?_
 ·intro I0  heq le;subst o0;refine zS<|zEP [(4,vY)]<|zG<|yX ?_;obtain rfl:=zD aG;exact wC
 intro r0 I9 hs9 m9 aW le9 aY;subst aW;refine zW<|zH ?_;obtain rfl:=zD aG;exact fO aY
def qO(a0:zA)(b:zA):Option (Bool):=do
 let t4<-(do
  let y<-oR a0.Coefs b.Coefs;if y then pure (a0.Const==b.Const)
  else
   pure false
    : Option Bool)
 pure (id t4)
theorem zFH:∀a0 b r,qO a0 b=some r->∀{I:Imm}{p c p1 c1},(S4 I p a0.Coefs c)->(S4 I p1 b.Coefs c1)->RT 139 [vA (cAff a0 p c),vA (cAff b p1 c1)] I [] (zU  r):=by
 intro a0 b r N I p c p1 c1 h h1;unfold qO at N;refine yL func139 λB=>?_;have H:=iS I;refine yF<|vK (cAff a0 p c) ?_;intro b1 hb;refine vK (cAff b p1 c1) ?_;intro b2 hb1;refine wB [] []<|zG<|yB ?_;refine wK N [] (λt4=>[(4,.bool t4)]) (λo0 aA=>?_) ?_
 ·have H:=iS I;refine zJ<|yG 4 [1,0] [6,8] rfl ?_;obtain⟨y,hy,N⟩:=zB aA;refine vJ (zC4 a0.Coefs b.Coefs _ hy h h1) ?_;intro aT le;have H:=H.trans le;refine yG 6 [] [10] rfl<|xZ [10] N ?_ ?_
  ·intro hc N;exact yK [1,0] [4] rfl<|xW zM<|yS<|zV (ct N H)
  intro hc N;exact wB [] [(4,vF)]<|xW zM<|yS<|zV (ct N H)
 intro t4 I0 aa aQ;refine zG<|yX ?_;obtain rfl:=zD aQ;exact wC
def mS(a0:zK)(b:zK):Option (Bool):=do
 let t4<-(do
  if(a0.Array.l==b.Array.l) then
   let y<-xL a0.Subs b.Subs qO;pure (id y)
  else
   pure false
    : Option Bool)
 pure (id t4)
theorem zB3:∀a0 b r,mS a0 b=some r->∀{I:Imm}{p c p1 c1},(S4 I p a0.Subs c)->(S4 I p1 b.Subs c1)->RT 101 [vA (cAccess a0 p c),vA (cAccess b p1 c1)] I [] (zU  r):=by
 intro a0 b r N I p c p1 c1 h h1;unfold mS at N;refine yL func101 λB=>?_;have H:=iS I;refine yF<|vK (cAccess a0 p c) ?_;intro b1 hb;refine vK (cAccess b p1 c1) ?_;intro b2 hb1;refine wB [] []<|zG<|yB ?_;refine wK N [] (λt4=>[(4,.bool t4)]) (λo0 aA=>?_) ?_
 ·have H:=iS I;refine zJ<|yG 6 [1,0] [10] rfl<|xZ [10] aA ?_ ?_
  ·intro hc N;refine yG 10 [1,0] [12,14] rfl ?_;have hf0:FV2 Tryz.prog I [] (.func (.func 139) ⟨[]⟩ ⟨[]⟩) qO:=by
    refine FV2.intro ?_;intro I1 aa x0 x1 r u0 u1 hF k0 k1;obtain⟨_,rfl,k0⟩:=k0;obtain⟨p2,c2,rfl,h2⟩:=yQ k0;obtain⟨_,rfl,k1⟩:=k1;obtain⟨p3,c3,rfl,h3⟩:=yQ k1;exact(zFH x0 x1 r hF h2 h3).mono (by rintro k i hs u ⟨v0,rfl,rfl,h⟩;exact⟨rfl,h⟩)
   obtain⟨y,hy,N⟩:=zB N;refine xF (pD a0.Subs b.Subs qO _ hy h h1 hf0) ?_;rintro aT av v2 k2 le - ⟨v02,rfl,rfl,rfl⟩ -;have H:=H.trans le;exact yK [] [4] rfl<|xW zM<|yS<|zV (ct N H)
  intro hc N;exact wB [] [(4,vF)]<|xW zM<|yS<|zV (ct N H)
 intro t4 I0 aa aQ;refine zG<|yX ?_;obtain rfl:=zD aQ;exact wC
def kY(a0:zK)(x:zP):Option (Bool):=do
 pure (a0.Array.l==x.Write.Array.l)
theorem zGK:∀a0 x r,kY a0 x=some r->∀{I:Imm}{p c}{ad:Addr}{p1 c1 p2 c2 p3 c3 p4 c4},(S4 I p a0.Subs c)->(S4 I p1 x.Write.Subs c1)->(S4 I p2 x.Value.Index.Coefs c2)->(S4 I p3 x.Value.Read.Subs c3)->(S4 I p4 x.Value.Kids c4)->(At I ad (cStmt x p1 c1 p2 c2 p3 c3 p4 c4))->RT 102 [vA (cAccess a0 p c),.pointer (some ad)] I [] (zU  r):=by
 intro a0 x r N I p c ad p1 c1 p2 c2 p3 c3 p4 c4 h h1 h2 h3 h4 ap;unfold kY at N;refine yL func102 λB=>yF<|vK (cAccess a0 p c) ?_;intro b hb;refine wB [] []<|yW<|yG 4 [0] [5,7] rfl<|xA 0 ap [vT x.Write.Array.l] (vT x.Write.Array.l) rfl<|yK [] [3] rfl<|zG<|yX ?_;obtain rfl:=zD N;exact wC
def fJ(s:zP):Option (Bool):=do
 let t32<-(do
  if(s.Value.Kind != 4) then
   if(s.Value.Kind != 5) then pure true
   else
    let x<-idx s.Value.Kids 0;if(x.Kind != 3) then pure true
    else
     let x1<-idx s.Value.Kids 0;let y<-mS x1.Read s.Write;pure (!y)
  else
   let x2<-idx s.Value.Kids 0;if(x2.Kind != 3) then pure true
   else
    let x3<-idx s.Value.Kids 0;let y1<-mS x3.Read s.Write;pure (!y1)
    : Option Bool)
 if t32 then pure false
 else
  let x4<-idx s.Value.Kids 1;let y2<-kO x4;let y3<-xR y2 (λx0=>kY x0 s);pure (!y3)
theorem zDE:∀s r,fJ s=some r->∀{I:Imm}{p c p1 c1 p2 c2 p3 c3},(S4 I p s.Write.Subs c)->(S4 I p1 s.Value.Index.Coefs c1)->(S4 I p2 s.Value.Read.Subs c2)->(S4 I p3 s.Value.Kids c3)->RT 66 [vA (cStmt s p c p1 c1 p2 c2 p3 c3)] I [] (zU  r):=by
 intro s r N I p c p1 c1 p2 c2 p3 c3 h h1 h2 h3;unfold fJ at N;refine yL func66 λB=>?_;have H:=iS I;refine yF<|vK (cStmt s p c p1 c1 p2 c2 p3 c3) ?_;intro b hb;refine xM 0 rfl ?_;intro I0 le hl0;have ap:At I0 ⟨b,0,none⟩ (cStmt s p c p1 c1 p2 c2 p3 c3):=At.of_blk hl0;have ⟨h,h1,h2,h3,H⟩:=m5 le h h1 h2 h3 H;refine wB [] []<|yW<|yG 1 [] [4] rfl<|xA 2 ap (cExpr s.Value p1 c1 p2 c2 p3 c3) (vA (cExpr s.Value p1 c1 p2 c2 p3 c3)) rfl<|wI zExpr ?_;intro b1 hb1;refine xI 0 (cExpr s.Value p1 c1 p2 c2 p3 c3) rfl<|yA rfl<|zZ<|yB ?_;refine wK N [hB b1 (cExpr s.Value p1 c1 p2 c2 p3 c3)] (λt32=>[(1,vP b 0),(3,vP b1 0),(32,.bool t32)]) (λo0 aA=>?_) ?_
 ·have H:=iS I0;cases hc:(s.Value.Kind != 4) with
  | true=>
   have hM0:=wQ hc aA;cases aE:(s.Value.Kind != 5) with
   | true=>
    have hM01:=wQ aE hM0;refine wA [.p (vP b1 0) [],.p (vI s.Value.Kind) [0],.q vY,.q vY,.p (vP b1 0) [],.p (vI s.Value.Kind) [0],.q vY,.q vY,.q vY,.p undef [],.p undef [],.p undef [],.p undef [],.p undef [],.p undef [],.p vY [],.p vY [],.p undef [],.p undef [],.p undef [],.p undef [],.p undef [],.p undef [],.p undef [],.p undef [],.p undef [],.p vY []] [[],[(0,false)],[(1,false)],[(2,false)],[(3,false)],[(3,false),(4,false)],[(3,false),(5,false)],[(3,false),(6,false)],[(7,false)],[(8,false)],[(8,false),(9,false)],[(8,false),(10,false)],[(8,false),(11,false)],[(8,false),(12,false)],[(8,false),(13,false)],[(8,false),(14,false)],[(15,false)],[(16,false)],[(16,false),(17,false)],[(16,false),(18,false)],[(16,false),(19,false)],[(16,false),(20,false)],[(16,false)],[(16,false),(22,false)],[(16,false),(21,false),(23,false)],[(16,false),(24,false)],[(16,false),(25,false)]] [hB b1 (cExpr s.Value p1 c1 p2 c2 p3 c3)] [] [(26,false)] (zY [0]) ?_ ?_
    ·refine O2<|Oq ?_<|Oq ?_<|O2<|Oq ?_<|Oq ?_<|Oq ?_<|O4<|O4<|O4<|O4<|O2<|On
     ·intro I1 hf aa;refine yP [7] rfl<|tD 3 [(8,.bool (s.Value.Kind != 4))] ?_;rw[hc];exact yR iR
     ·intro I1 hf aa;exact eN [(8,vY)]<|tD 4 [(9,vY)]<|yR iR
     ·intro I1 hf aa;refine yP [9,11] rfl<|tD 7 [(12,.bool (s.Value.Kind != 5))] ?_;rw[aE];exact yR iR
     ·intro I1 hf aa;exact yP [9,12] rfl<|tD 8 [(13,vY)]<|yR iR
     intro I1 hf aa;exact eN [(13,vY)]<|tD 9 [(14,vY)]<|yR iR
    intro aP aa;refine yP [1,3,32] rfl ?_;have H:=H.trans aa;exact yA rfl<|yS<|zV (ct hM01 H)
   | false=>
    have hM02:=wE aE hM0;obtain⟨x,hy,N⟩:=zB hM02;cases aV:(x.Kind != 3) with
    | true=>
     have hM03:=wQ aV N;refine wA [.p (vP b1 0) [],.p (vI s.Value.Kind) [0],.q vY,.q vY,.p (vP b1 0) [],.p (vI s.Value.Kind) [0],.q vF,.q vF,.q vF,.p (vP b1 6) [],.p (vS p3 s.Value.Kids c3) [0],.x (ePExpr x),.x (ePExpr x),.q (vI x.Kind),.q vY,.q vY,.q vY,.p undef [],.p undef [],.p undef [],.p undef [],.p undef [],.p undef [],.p undef [],.p undef [],.p undef [],.p vY []] [[],[(0,false)],[(1,false)],[(2,false)],[(3,false)],[(3,false),(4,false)],[(3,false),(5,false)],[(3,false),(6,false)],[(7,false)],[(8,false)],[(8,false),(9,false)],[(8,false),(10,false)],[(8,false),(11,false)],[(8,false),(12,false)],[(8,false),(13,false)],[(8,false),(14,false)],[(15,false)],[(16,false)],[(16,false),(17,false)],[(16,false),(18,false)],[(16,false),(19,false)],[(16,false),(20,false)],[(16,false)],[(16,false),(22,false)],[(16,false),(21,false),(23,false)],[(16,false),(24,false)],[(16,false),(25,false)]] [hB b1 (cExpr s.Value p1 c1 p2 c2 p3 c3)] [] [(26,false)] (zY [0]) ?_ ?_
     ·refine O2<|Oq ?_<|Oq ?_<|O2<|Oq ?_<|Oq ?_<|Oq ?_<|O2<|Ox ?_<|Ox ?_<|Oq ?_<|Oq ?_<|Oq ?_<|Oq ?_<|O4<|O4<|O2<|On
      ·intro I1 hf aa;refine yP [7] rfl<|tD 3 [(8,.bool (s.Value.Kind != 4))] ?_;rw[hc];exact yR iR
      ·intro I1 hf aa;exact eN [(8,vY)]<|tD 4 [(9,vY)]<|yR iR
      ·intro I1 hf aa;refine yP [9,11] rfl<|tD 7 [(12,.bool (s.Value.Kind != 5))] ?_;rw[aE];exact yR iR
      ·intro I1 hf aa;exact yP [9,12] rfl<|tD 8 [(13,vF)]<|yR iR
      ·intro I1 hf aa;exact eN [(13,vF)]<|tD 9 [(14,vF)]<|yR iR
      ·intro I1 hf aa;refine yP [14,16] rfl ?_;have h3:=h3.mono aa;refine xK rfl rfl h3 hy ?_;intro ad aN ar ak;obtain⟨p4,c4,p5,c5,p6,c6,rfl,h4,h5,h6⟩:=xX ak;exact yM [] iR ⟨_,_,_,_,_,_,_,rfl,rfl,ar,h4,h5,h6⟩
      ·rintro I1 hf aa _ _ ⟨rfl,rfl⟩ _ _ ⟨ad,p4,c4,p5,c5,p6,c6,rfl,rfl,ar,h4,h5,h6⟩;exact yP [14,17] rfl<|tD 13 [(18,.pointer (some ad))]<|yM [] iR ⟨_,_,_,_,_,_,_,rfl,rfl,ar,h4,h5,h6⟩
      ·rintro I1 hf aa _ _ ⟨rfl,rfl⟩ _ _ ⟨ad1,p41,c41,p51,c51,p61,c61,rfl,rfl,hat11,h41,h51,h61⟩;exact yP [14,18] rfl<|xA 0 hat11 [vI x.Kind] (vI x.Kind) rfl<|yR iR
      ·intro I1 hf aa;refine yP [14,19] rfl<|tD 15 [(20,.bool (x.Kind != 3))] ?_;rw[aV];exact yR iR
      ·intro I1 hf aa;exact yP [14,20] rfl<|tD 16 [(21,vY)]<|yR iR
      intro I1 hf aa;exact eN [(21,vY)]<|tD 17 [(22,vY)]<|yR iR
     intro bx aD;refine yP [1,3,32] rfl ?_;have H:=H.trans aD;exact yA rfl<|yS<|zV (ct hM03 H)
    | false=>
     have hM04:=wE aV N;obtain⟨x1,ay,N⟩:=zB hM04;obtain⟨y,aF,N⟩:=zB N;refine wA [.p (vP b1 0) [],.p (vI s.Value.Kind) [0],.q vY,.q vY,.p (vP b1 0) [],.p (vI s.Value.Kind) [0],.q vF,.q vF,.q vF,.p (vP b1 6) [],.p (vS p3 s.Value.Kids c3) [0],.x (ePExpr x),.x (ePExpr x),.q (vI x.Kind),.q vF,.q vF,.q vF,.p (vP b1 6) [],.p (vS p3 s.Value.Kids c3) [0],.x (ePExpr x1),.x (eQExpr 4 x1),.x (eVAccess x1.Read),.p (vP b 0) [],.q (vA (cAccess s.Write p c)),.q (.bool y),.p (.bool (!y)) [],.p (.bool (!y)) []] [[],[(0,false)],[(1,false)],[(2,false)],[(3,false)],[(3,false),(4,false)],[(3,false),(5,false)],[(3,false),(6,false)],[(7,false)],[(8,false)],[(8,false),(9,false)],[(8,false),(10,false)],[(8,false),(11,false)],[(8,false),(12,false)],[(8,false),(13,false)],[(8,false),(14,false)],[(15,false)],[(16,false)],[(16,false),(17,false)],[(16,false),(18,false)],[(16,false),(19,false)],[(16,false),(20,false)],[(16,false)],[(16,false),(22,false)],[(16,false),(21,false),(23,false)],[(16,false),(24,false)],[(16,false),(25,false)]] [hB b1 (cExpr s.Value p1 c1 p2 c2 p3 c3)] [] [(26,false)] (zY [0]) ?_ ?_
     ·refine O2<|Oq ?_<|Oq ?_<|O2<|Oq ?_<|Oq ?_<|Oq ?_<|O2<|Ox ?_<|Ox ?_<|Oq ?_<|Oq ?_<|Oq ?_<|Oq ?_<|O2<|Ox ?_<|Ox ?_<|Ox ?_<|Op<|Oq ?_<|Oq ?_<|O2<|On
      ·intro I1 hf aa;refine yP [7] rfl<|tD 3 [(8,.bool (s.Value.Kind != 4))] ?_;rw[hc];exact yR iR
      ·intro I1 hf aa;exact eN [(8,vY)]<|tD 4 [(9,vY)]<|yR iR
      ·intro I1 hf aa;refine yP [9,11] rfl<|tD 7 [(12,.bool (s.Value.Kind != 5))] ?_;rw[aE];exact yR iR
      ·intro I1 hf aa;exact yP [9,12] rfl<|tD 8 [(13,vF)]<|yR iR
      ·intro I1 hf aa;exact eN [(13,vF)]<|tD 9 [(14,vF)]<|yR iR
      ·intro I1 hf aa;refine yP [14,16] rfl ?_;have h3:=h3.mono aa;refine xK rfl rfl h3 hy ?_;intro ad aN ar ak;obtain⟨p4,c4,p5,c5,p6,c6,rfl,h4,h5,h6⟩:=xX ak;exact yM [] iR ⟨_,_,_,_,_,_,_,rfl,rfl,ar,h4,h5,h6⟩
      ·rintro I1 hf aa _ _ ⟨rfl,rfl⟩ _ _ ⟨ad,p4,c4,p5,c5,p6,c6,rfl,rfl,ar,h4,h5,h6⟩;exact yP [14,17] rfl<|tD 13 [(18,.pointer (some ad))]<|yM [] iR ⟨_,_,_,_,_,_,_,rfl,rfl,ar,h4,h5,h6⟩
      ·rintro I1 hf aa _ _ ⟨rfl,rfl⟩ _ _ ⟨ad1,p41,c41,p51,c51,p61,c61,rfl,rfl,hat11,h41,h51,h61⟩;exact yP [14,18] rfl<|xA 0 hat11 [vI x.Kind] (vI x.Kind) rfl<|yR iR
      ·intro I1 hf aa;refine yP [14,19] rfl<|tD 15 [(20,.bool (x.Kind != 3))] ?_;rw[aV];exact yR iR
      ·intro I1 hf aa;exact yP [14,20] rfl<|tD 16 [(21,vF)]<|yR iR
      ·intro I1 hf aa;exact eN [(21,vF)]<|tD 17 [(22,vF)]<|yR iR
      ·intro I1 hf aa;refine yP [22,24] rfl ?_;have h3:=h3.mono aa;refine xK rfl rfl h3 ay ?_;intro ad2 bm aS au;obtain⟨p7,c7,p8,c8,p9,c9,rfl,h7,h8,h9⟩:=xX au;exact yM [] iR ⟨_,_,_,_,_,_,_,rfl,rfl,aS,h7,h8,h9⟩
      ·rintro I1 hf aa _ _ ⟨rfl,rfl⟩ _ _ ⟨ad2,p7,c7,p8,c8,p9,c9,rfl,rfl,aS,h7,h8,h9⟩;exact yP [22,25] rfl<|tD 21 [(26,.pointer (some (ad2.add 4)))]<|yM [] iR ⟨_,_,_,_,_,_,_,rfl,rfl,aS,h7,h8,h9⟩
      ·rintro I1 hf aa _ _ ⟨rfl,rfl⟩ _ _ ⟨ad21,p71,c71,p81,c81,p91,c91,rfl,rfl,hat21,h71,h81,h91⟩;exact yP [22,26] rfl<|xA 4 hat21 (cAccess x1.Read p81 c81) (vA (cAccess x1.Read p81 c81)) rfl<|yM [] iR ⟨_,_,rfl,rfl,h81⟩
      ·intro I1 hf aa;refine yP [22,28] rfl ?_;have ap:=ap.mono aa;exact xA 0 ap (cAccess s.Write p c) (vA (cAccess s.Write p c)) rfl<|yR iR
      rintro I1 hf aa _ _ ⟨rfl,rfl⟩ _ _ ⟨p811,c811,rfl,rfl,h811⟩;refine yP [22,27,29] rfl ?_;have H:=iS I1;have h:=h.mono aa;refine vJ (zB3 x1.Read s.Write _ aF h811 h) ?_;intro bI aH;have H:=H.trans aH;exact yR H
     intro bL bf;refine yP [1,3,32] rfl ?_;have H:=H.trans bf;exact yA rfl<|yS<|zV (ct N H)
  | false=>
   have hM05:=wE hc aA;obtain⟨x2,aX,N⟩:=zB hM05;cases bD:(x2.Kind != 3) with
   | true=>
    have hM06:=wQ bD N;refine wA [.p (vP b1 0) [],.p (vI s.Value.Kind) [0],.q vF,.q vF,.p undef [],.p undef [],.p undef [],.p vF [],.p vF [],.p (vP b1 6) [],.p (vS p3 s.Value.Kids c3) [0],.x (ePExpr x2),.x (ePExpr x2),.q (vI x2.Kind),.q vY,.q vY,.q vY,.p undef [],.p undef [],.p undef [],.p undef [],.p undef [],.p undef [],.p undef [],.p undef [],.p undef [],.p vY []] [[],[(0,false)],[(1,false)],[(2,false)],[(3,false)],[(3,false),(4,false)],[(3,false),(5,false)],[(3,false),(6,false)],[(7,false)],[(8,false)],[(8,false),(9,false)],[(8,false),(10,false)],[(8,false),(11,false)],[(8,false),(12,false)],[(8,false),(13,false)],[(8,false),(14,false)],[(15,false)],[(16,false)],[(16,false),(17,false)],[(16,false),(18,false)],[(16,false),(19,false)],[(16,false),(20,false)],[(16,false)],[(16,false),(22,false)],[(16,false),(21,false),(23,false)],[(16,false),(24,false)],[(16,false),(25,false)]] [hB b1 (cExpr s.Value p1 c1 p2 c2 p3 c3)] [] [(26,false)] (zY [0]) ?_ ?_
    ·refine O2<|Oq ?_<|Oq ?_<|O4<|O3<|Ox ?_<|Ox ?_<|Oq ?_<|Oq ?_<|Oq ?_<|Oq ?_<|O4<|O4<|O2<|On
     ·intro I1 hf aa;refine yP [7] rfl<|tD 3 [(8,.bool (s.Value.Kind != 4))] ?_;rw[hc];exact yR iR
     ·intro I1 hf aa;exact eN [(8,vF)]<|tD 4 [(9,vF)]<|yR iR
     ·intro I1 hf aa;refine yP [14,16] rfl ?_;have h3:=h3.mono aa;refine xK rfl rfl h3 aX ?_;intro ad3 bO hat3 aZ;obtain⟨bb,bd,aR,bh,bz,bo,rfl,h11,h12,h13⟩:=xX aZ;exact yM [] iR ⟨_,_,_,_,_,_,_,rfl,rfl,hat3,h11,h12,h13⟩
     ·rintro I1 hf aa _ _ ⟨rfl,rfl⟩ _ _ ⟨ad3,bb,bd,aR,bh,bz,bo,rfl,rfl,hat3,h11,h12,h13⟩;exact yP [14,17] rfl<|tD 13 [(18,.pointer (some ad3))]<|yM [] iR ⟨_,_,_,_,_,_,_,rfl,rfl,hat3,h11,h12,h13⟩
     ·rintro I1 hf aa _ _ ⟨rfl,rfl⟩ _ _ ⟨ad31,p101,c101,p111,c111,p121,c121,rfl,rfl,hat31,h111,h121,h131⟩;exact yP [14,18] rfl<|xA 0 hat31 [vI x2.Kind] (vI x2.Kind) rfl<|yR iR
     ·intro I1 hf aa;refine yP [14,19] rfl<|tD 15 [(20,.bool (x2.Kind != 3))] ?_;rw[bD];exact yR iR
     ·intro I1 hf aa;exact yP [14,20] rfl<|tD 16 [(21,vY)]<|yR iR
     intro I1 hf aa;exact eN [(21,vY)]<|tD 17 [(22,vY)]<|yR iR
    intro I06 bu;refine yP [1,3,32] rfl ?_;have H:=H.trans bu;exact yA rfl<|yS<|zV (ct hM06 H)
   | false=>
    have hM07:=wE bD N;obtain⟨x3,bk,N⟩:=zB hM07;obtain⟨y1,bC,N⟩:=zB N;refine wA [.p (vP b1 0) [],.p (vI s.Value.Kind) [0],.q vF,.q vF,.p undef [],.p undef [],.p undef [],.p vF [],.p vF [],.p (vP b1 6) [],.p (vS p3 s.Value.Kids c3) [0],.x (ePExpr x2),.x (ePExpr x2),.q (vI x2.Kind),.q vF,.q vF,.q vF,.p (vP b1 6) [],.p (vS p3 s.Value.Kids c3) [0],.x (ePExpr x3),.x (eQExpr 4 x3),.x (eVAccess x3.Read),.p (vP b 0) [],.q (vA (cAccess s.Write p c)),.q (.bool y1),.p (.bool (!y1)) [],.p (.bool (!y1)) []] [[],[(0,false)],[(1,false)],[(2,false)],[(3,false)],[(3,false),(4,false)],[(3,false),(5,false)],[(3,false),(6,false)],[(7,false)],[(8,false)],[(8,false),(9,false)],[(8,false),(10,false)],[(8,false),(11,false)],[(8,false),(12,false)],[(8,false),(13,false)],[(8,false),(14,false)],[(15,false)],[(16,false)],[(16,false),(17,false)],[(16,false),(18,false)],[(16,false),(19,false)],[(16,false),(20,false)],[(16,false)],[(16,false),(22,false)],[(16,false),(21,false),(23,false)],[(16,false),(24,false)],[(16,false),(25,false)]] [hB b1 (cExpr s.Value p1 c1 p2 c2 p3 c3)] [] [(26,false)] (zY [0]) ?_ ?_
    ·refine O2<|Oq ?_<|Oq ?_<|O4<|O3<|Ox ?_<|Ox ?_<|Oq ?_<|Oq ?_<|Oq ?_<|Oq ?_<|O2<|Ox ?_<|Ox ?_<|Ox ?_<|Op<|Oq ?_<|Oq ?_<|O2<|On
     ·intro I1 hf aa;refine yP [7] rfl<|tD 3 [(8,.bool (s.Value.Kind != 4))] ?_;rw[hc];exact yR iR
     ·intro I1 hf aa;exact eN [(8,vF)]<|tD 4 [(9,vF)]<|yR iR
     ·intro I1 hf aa;refine yP [14,16] rfl ?_;have h3:=h3.mono aa;refine xK rfl rfl h3 aX ?_;intro ad3 bO hat3 aZ;obtain⟨bb,bd,aR,bh,bz,bo,rfl,h11,h12,h13⟩:=xX aZ;exact yM [] iR ⟨_,_,_,_,_,_,_,rfl,rfl,hat3,h11,h12,h13⟩
     ·rintro I1 hf aa _ _ ⟨rfl,rfl⟩ _ _ ⟨ad3,bb,bd,aR,bh,bz,bo,rfl,rfl,hat3,h11,h12,h13⟩;exact yP [14,17] rfl<|tD 13 [(18,.pointer (some ad3))]<|yM [] iR ⟨_,_,_,_,_,_,_,rfl,rfl,hat3,h11,h12,h13⟩
     ·rintro I1 hf aa _ _ ⟨rfl,rfl⟩ _ _ ⟨ad31,p101,c101,p111,c111,p121,c121,rfl,rfl,hat31,h111,h121,h131⟩;exact yP [14,18] rfl<|xA 0 hat31 [vI x2.Kind] (vI x2.Kind) rfl<|yR iR
     ·intro I1 hf aa;refine yP [14,19] rfl<|tD 15 [(20,.bool (x2.Kind != 3))] ?_;rw[bD];exact yR iR
     ·intro I1 hf aa;exact yP [14,20] rfl<|tD 16 [(21,vF)]<|yR iR
     ·intro I1 hf aa;exact eN [(21,vF)]<|tD 17 [(22,vF)]<|yR iR
     ·intro I1 hf aa;refine yP [22,24] rfl ?_;have h3:=h3.mono aa;refine xK rfl rfl h3 bk ?_;intro ad4 ccs3 hat4 bB;obtain⟨bj,bw,p14,c14,p15,c15,rfl,h14,h15,h16⟩:=xX bB;exact yM [] iR ⟨_,_,_,_,_,_,_,rfl,rfl,hat4,h14,h15,h16⟩
     ·rintro I1 hf aa _ _ ⟨rfl,rfl⟩ _ _ ⟨ad4,bj,bw,p14,c14,p15,c15,rfl,rfl,hat4,h14,h15,h16⟩;exact yP [22,25] rfl<|tD 21 [(26,.pointer (some (ad4.add 4)))]<|yM [] iR ⟨_,_,_,_,_,_,_,rfl,rfl,hat4,h14,h15,h16⟩
     ·rintro I1 hf aa _ _ ⟨rfl,rfl⟩ _ _ ⟨ad41,p131,c131,p141,c141,p151,c151,rfl,rfl,hat41,h141,h151,h161⟩;exact yP [22,26] rfl<|xA 4 hat41 (cAccess x3.Read p141 c141) (vA (cAccess x3.Read p141 c141)) rfl<|yM [] iR ⟨_,_,rfl,rfl,h151⟩
     ·intro I1 hf aa;refine yP [22,28] rfl ?_;have ap:=ap.mono aa;exact xA 0 ap (cAccess s.Write p c) (vA (cAccess s.Write p c)) rfl<|yR iR
     rintro I1 hf aa _ _ ⟨rfl,rfl⟩ _ _ ⟨p1411,c1411,rfl,rfl,h1511⟩;refine yP [22,27,29] rfl ?_;have H:=iS I1;have h:=h.mono aa;refine vJ (zB3 x3.Read s.Write _ bC h1511 h) ?_;intro I07 bG;have H:=H.trans bG;exact yR H
    intro I08 le7;refine yP [1,3,32] rfl ?_;have H:=H.trans le7;exact yA rfl<|yS<|zV (ct N H)
 intro t32 aT le8 aQ;have ⟨h,h1,h2,h3,ap⟩:=m5 le8 h h1 h2 h3 ap;refine zG<|yE aQ ?_ ?_
 ·intro bM N;refine wL [(2,vF)]<|xD<|zH ?_;obtain rfl:=zD N;exact wC
 intro bM N;refine zT<|yW<|yG 2 [0] [34] rfl<|bE N λx4 hy6 N=>xK rfl rfl h3 hy6 ?_;intro ad5 ccs4 hat5 hrep4;obtain⟨p16,c16,p17,c17,p18,c18,rfl,h18,h19,h20⟩:=xX hrep4;refine xA 0 hat5 (cExpr x4 p16 c16 p17 c17 p18 c18) (vA (cExpr x4 p16 c16 p17 c17 p18 c18)) rfl<|bE N λy2 hy7 N=>xF (zBv x4 _ hy7 h18 h19 h20) ?_;rintro I09 av v2 k2 le9 - ⟨v017,rfl,rfl,h21⟩ -;have ⟨h,h1,h2,h3,ap⟩:=m5 le9 h h1 h2 h3 ap;obtain⟨p19,c19,rfl⟩:=h21.form;refine yG 6 [] [38] rfl ?_;have hf0:FV1 Tryz.prog I09 [] (.func (.func 102) ⟨[]⟩ ⟨[vP b 0]⟩) (λx0=>kY x0 s):=by
  refine FV1.intro ?_;intro I1 aa x0 r u0 hF k0;obtain⟨_,rfl,k0⟩:=k0;obtain⟨p20,c20,rfl,h22⟩:=oA k0;exact(zGK x0 s r hF h22 (h.mono aa) (h1.mono aa) (h2.mono aa) (h3.mono aa) (ap.mono aa)).mono (by rintro k i hs u ⟨v0,rfl,rfl,h⟩;exact⟨rfl,h⟩)
 obtain⟨y3,hy8,N⟩:=zB N;refine xF (qU y2 (λx0=>kY x0 s) _ hy8 h21 hf0) ?_;rintro bP av v2 k2 le10 - ⟨v019,rfl,rfl,rfl⟩ -;refine yK [] [2] rfl<|zG<|yX ?_;obtain rfl:=zD N;exact wC
def qJ(d0:zR)(x:sN):Option (Bool):=do
 let x1<-idx x.list d0.From;let y<-qF x.Program x1;let x2<-idx x.list d0.To;let y1<-qF x.Program x2;let t3<-(do
  let y2<-fJ y;if y2 then
   let y3<-fJ y1;if y3 then pure (y.Write.Array.l==y1.Write.Array.l)
   else pure false
  else
   pure false
    : Option Bool)
 pure (id t3)
theorem zDo:∀d0 x r,qJ d0 x=some r->∀{I:Imm}{ad:Addr}{ad1:Addr}{p c p1 c1 p2 c2 p3 c3 p4 c4},(S4 I p x.Program.Arrays c)->(S4 I p1 x.Program.Parts c1)->(S4 I p2 x.list c2)->(S4 I p3 x.reads c3)->(S4 I p4 x.writes c4)->(At I ad1 [vS p x.Program.Arrays c,vS p1 x.Program.Parts c1,vS p2 x.list c2,vS p3 x.reads c3,vS p4 x.writes c4])->(At I ad [.pointer (some ad1)])->RT 64 [vA [vI d0.From,vI d0.To,vI d0.Kinds],.pointer (some ad)] I [] (zU  r):=by
 intro d0 x r N I ad ad1 p c p1 c1 p2 c2 p3 c3 p4 c4 h h1 h2 h3 h4 ap ar;unfold qJ at N;refine yL func64 λB=>?_;have H:=iS I;refine yF<|vK [vI d0.From,vI d0.To,vI d0.Kinds] ?_;intro b hb;refine wB [] []<|zG<|yB ?_;obtain⟨x1,hy,N⟩:=zB N;obtain⟨y,ay,N⟩:=zB N;obtain⟨x2,aF,N⟩:=zB N;obtain⟨y1,aX,N⟩:=zB N;refine wA [.q (.pointer (some ad1)),.p (.pointer (some ad1)) [],.p (.pointer (some ad1)) [],.q (vA (cProg x.Program p c p1 c1)),.q (.pointer (some ad1)),.p (.pointer (some ad1)) [],.p (.pointer (some (ad1.add 2))) [],.q (vS p2 x.list c2),.p (vP b 0) [],.p (vI d0.From) [0],.x (ePInst x1),.x (eVInst x1),.x (eVStmt y),.q (.pointer (some ad1)),.p (.pointer (some ad1)) [],.p (.pointer (some ad1)) [],.q (vA (cProg x.Program p c p1 c1)),.q (.pointer (some ad1)),.p (.pointer (some ad1)) [],.p (.pointer (some (ad1.add 2))) [],.q (vS p2 x.list c2),.p (vP b 1) [],.p (vI d0.To) [0],.x (ePInst x2),.x (eVInst x2),.x (eVStmt y1),.x (λI' v hx=>∃b1,v=vP b1 0/\hx=[hB b1 [vT ([]),z0,vI 0,vI 0,z0,vI 0,vT ([]),z0,z0]]),.x (λI' v hx=>∃b2,v=vP b2 0/\hx=[hB b2 [vT ([]),z0,vI 0,vI 0,z0,vI 0,vT ([]),z0,z0]]),.x (λI' v hx=>∃b11 p61 c61 p71 c71 p81 c81 p91 c91,v=vP b11 0/\hx=[hB b11 (cStmt y p61 c61 p71 c71 p81 c81 p91 c91)]/\(S4 I' p61 y.Write.Subs c61)/\(S4 I' p71 y.Value.Index.Coefs c71)/\(S4 I' p81 y.Value.Read.Subs c81)/\(S4 I' p91 y.Value.Kids c91))] [[],[(0,false)],[(1,false)],[(2,false)],[],[(4,false)],[(5,false)],[(6,false)],[],[(8,false)],[(7,false),(9,false)],[(10,false)],[(3,false),(11,false)],[],[(13,false)],[(14,false)],[(15,false)],[],[(17,false)],[(18,false)],[(19,false)],[],[(21,false)],[(20,false),(22,false)],[(23,false)],[(16,false),(24,false)],[],[],[(12,false),(26,true)]] [hB b [vI d0.From,vI d0.To,vI d0.Kinds]] [] [(25,false),(27,true),(28,true)] (zY [0]) ?_ ?_
 ·refine Oq ?_<|O2<|Oq ?_<|Oq ?_<|O2<|Oq ?_<|O2<|Ox ?_<|Ox ?_<|Ox ?_<|Oq ?_<|O2<|Oq ?_<|Oq ?_<|O2<|Oq ?_<|O2<|Ox ?_<|Ox ?_<|Ox ?_<|Ox ?_<|Ox ?_<|Ox ?_<|On
  ·intro I1 hf aa;refine yP [1] rfl ?_;have ar:=ar.mono aa;exact xA 0 ar [.pointer (some ad1)] (.pointer (some ad1)) rfl<|yR iR
  ·intro I1 hf aa;refine yP [8] rfl ?_;have ap:=ap.mono aa;exact xA 0 ap (cProg x.Program p c p1 c1) (vA (cProg x.Program p c p1 c1)) rfl<|yR iR
  ·intro I1 hf aa;refine yP [1] rfl ?_;have ar:=ar.mono aa;exact xA 0 ar [.pointer (some ad1)] (.pointer (some ad1)) rfl<|yR iR
  ·intro I1 hf aa;refine yP [12] rfl ?_;have ap:=ap.mono aa;exact xA 2 ap [vS p2 x.list c2] (vS p2 x.list c2) rfl<|yR iR
  ·intro I1 hf aa;refine yP [13,15] rfl ?_;have h2:=h2.mono aa;refine xK rfl rfl h2 hy ?_;intro ad2 aN aS ak;obtain⟨p5,c5,rfl,h5⟩:=pR ak;exact yM [] iR ⟨_,_,_,rfl,rfl,aS,h5⟩
  ·rintro I1 hf aa _ _ ⟨ad2,p5,c5,rfl,rfl,aS,h5⟩;exact yP [16] rfl<|xA 0 aS (cInst x1 p5 c5) (vA (cInst x1 p5 c5)) rfl<|yM [] iR ⟨_,_,rfl,rfl,h5⟩
  ·rintro I1 hf aa _ _ ⟨rfl,rfl⟩ _ _ ⟨p51,c51,rfl,rfl,h51⟩;refine yP [9,17] rfl ?_;have H:=iS I1;have ⟨h,h1⟩:=m2 aa h h1;refine xF (dE x.Program x1 _ ay h h1 h51) ?_;rintro I0 av v2 k2 le - ⟨v01,rfl,rfl,⟨cs,rfl,h6⟩⟩ -;have H:=H.trans le;obtain⟨p6,c6,p7,c7,p8,c8,p9,c9,rfl,h7,h8,h9,h10⟩:=sA h6;exact yM [] H ⟨_,_,_,_,_,_,_,_,rfl,rfl,h7,h8,h9,h10⟩
  ·intro I1 hf aa;refine yP [1] rfl ?_;have ar:=ar.mono aa;exact xA 0 ar [.pointer (some ad1)] (.pointer (some ad1)) rfl<|yR iR
  ·intro I1 hf aa;refine yP [21] rfl ?_;have ap:=ap.mono aa;exact xA 0 ap (cProg x.Program p c p1 c1) (vA (cProg x.Program p c p1 c1)) rfl<|yR iR
  ·intro I1 hf aa;refine yP [1] rfl ?_;have ar:=ar.mono aa;exact xA 0 ar [.pointer (some ad1)] (.pointer (some ad1)) rfl<|yR iR
  ·intro I1 hf aa;refine yP [25] rfl ?_;have ap:=ap.mono aa;exact xA 2 ap [vS p2 x.list c2] (vS p2 x.list c2) rfl<|yR iR
  ·intro I1 hf aa;refine yP [26,28] rfl ?_;have h2:=h2.mono aa;refine xK rfl rfl h2 aF ?_;intro ad3 bm hat3 au;obtain⟨bb,bd,rfl,h11⟩:=pR au;exact yM [] iR ⟨_,_,_,rfl,rfl,hat3,h11⟩
  ·rintro I1 hf aa _ _ ⟨ad3,bb,bd,rfl,rfl,hat3,h11⟩;exact yP [29] rfl<|xA 0 hat3 (cInst x2 bb bd) (vA (cInst x2 bb bd)) rfl<|yM [] iR ⟨_,_,rfl,rfl,h11⟩
  ·rintro I1 hf aa _ _ ⟨rfl,rfl⟩ _ _ ⟨p101,c101,rfl,rfl,h111⟩;refine yP [22,30] rfl ?_;have H:=iS I1;have ⟨h,h1⟩:=m2 aa h h1;refine xF (dE x.Program x2 _ aX h h1 h111) ?_;rintro aT av v2 k2 aa - ⟨v07,rfl,rfl,⟨az,rfl,h12⟩⟩ -;have H:=H.trans aa;obtain⟨aR,bh,bz,bo,bj,bw,p14,c14,rfl,h13,h14,h15,h16⟩:=sA h12;exact yM [] H ⟨_,_,_,_,_,_,_,_,rfl,rfl,h13,h14,h15,h16⟩
  ·intro I1 hf aa;refine eN []<|wI [vT ([]),z0,vI 0,vI 0,z0,vI 0,vT ([]),z0,z0] ?_;intro b1 hb1;exact yM [hB b1 [vT ([]),z0,vI 0,vI 0,z0,vI 0,vT ([]),z0,z0]] iR ⟨_,rfl,rfl⟩
  ·intro I1 hf aa;refine eN []<|wI [vT ([]),z0,vI 0,vI 0,z0,vI 0,vT ([]),z0,z0] ?_;intro b2 hb2;exact yM [hB b2 [vT ([]),z0,vI 0,vI 0,z0,vI 0,vT ([]),z0,z0]] iR ⟨_,rfl,rfl⟩
  rintro I1 hf aa _ _ ⟨p6,c6,p7,c7,p8,c8,p9,c9,rfl,rfl,h7,h8,h9,h10⟩ _ _ ⟨b1,rfl,rfl⟩;exact yP [4,18] rfl<|zBu 0 (cStmt y p6 c6 p7 c7 p8 c8 p9 c9) (hB b1 (cStmt y p6 c6 p7 c7 p8 c8 p9 c9)::hB b [vI d0.From,vI d0.To,vI d0.Kinds]::hf) rfl rfl rfl rfl<|yM [hB b1 (cStmt y p6 c6 p7 c7 p8 c8 p9 c9)] iR ⟨_,_,_,_,_,_,_,_,_,rfl,rfl,h7,h8,h9,h10⟩
 rintro aP aD _ _ ⟨aR,bh,bz,bo,bj,bw,p14,c14,rfl,rfl,h13,h14,h15,h16⟩ _ _ ⟨b2,rfl,rfl⟩ _ _ ⟨b11,p61,c61,p71,c71,p81,c81,p91,c91,rfl,rfl,h71,h81,h91,h101⟩;refine yP [4,5,31] rfl ?_;have H:=H.trans aD;refine xI 1 (cStmt y1 aR bh bz bo bj bw p14 c14) rfl<|yA rfl<|zG<|yB ?_;refine wK N [] (λt3=>[(3,.bool t3)]) (λo0 aA=>?_) ?_
 ·have H:=iS aP;refine zJ<|sW 1 [0] [(32,vA (cStmt y p61 c61 p71 c71 p81 c81 p91 c91))] ?_;obtain⟨y2,bk,N⟩:=zB aA;refine vJ (zDE y _ bk h71 h81 h91 h101) ?_;intro bI aH;have ⟨h13,h14,h15,h16,H⟩:=m5 aH h13 h14 h15 h16 H;refine yG 3 [] [34] rfl<|xZ [34] N ?_ ?_
  ·intro hc N;refine sW 4 [1] [(35,vA (cStmt y1 aR bh bz bo bj bw p14 c14))]<|bE N λy3 bC N=>vJ (zDE y1 _ bC h13 h14 h15 h16) ?_;intro bL bf;have H:=H.trans bf;refine yG 7 [] [38] rfl<|xZ [38] N ?_ ?_
   ·intro aE N;exact yK [0,1] [3] rfl<|xW zM<|yS<|zV (ct N H)
   intro aE N;exact wB [] [(3,vF)]<|xW zM<|yS<|zV (ct N H)
  intro hc N;exact wB [] [(3,vF)]<|xW zM<|yS<|zV (ct N H)
 intro t3 bx bu aQ;refine zG<|yX ?_;obtain rfl:=zD aQ;exact wC
def mT(p:zC):Option ((List zR)):=do
 let (y1,y2)<-dX p;if(!y2) then pure ([]:List zR)
 else
  let t<-y1;let y3<-nL t;let y4<-wX y3 (λx0=>qJ x0 t);pure (id y4)
theorem zB4:∀p r,mT p=some r->∀{I:Imm}{p1 c p2 c1},(S4 I p1 p.Arrays c)->(S4 I p2 p.Parts c1)->RT 34 [vA (cProg p p1 c p2 c1)] I [] (jG  r):=by
 intro p r N I p1 c p2 c1 h h1;unfold mT at N;refine yL func34 λB=>yF<|vK (cProg p p1 c p2 c1) ?_;intro b hb;refine wB [] []<|yW<|sW 1 [0] [(6,vA (cProg p p1 c p2 c1))] ?_;obtain⟨⟨y1,y2⟩,hy,N⟩:=zB N;refine xF (zEa p _ hy h h1) ?_;rintro I0 av v2 k2 le - ⟨v0,v01,rfl,rfl,h2,rfl⟩ -;have h:=h.mono le;refine yG 5 [] [8,9] rfl<|wI [.pointer none] ?_;intro b1 hb1;obtain⟨q,rfl⟩:=zPS h2;refine xI 0 [(.pointer q)] rfl<|yK [] [4] rfl<|zZ<|yH [11] rfl<|zG<|yE N ?_ ?_
 ·intro hc N;refine wL [(2,z0)]<|xD<|zH ?_;exact xU N (resT rfl) zM ⟨_,rfl,rfl,(SL.nil _)⟩
 intro hc N;refine zT<|yW<|yG 1 [0] [12] rfl ?_;obtain⟨t,ay,N⟩:=zB N;obtain⟨ad,aN,rfl,ap,ak⟩:=zOM h2 ay;obtain⟨p3,c2,p4,c3,p5,c4,p6,c5,p7,c6,rfl,h4,h5,h6,h7,h8⟩:=zDZ ak;obtain⟨y3,aF,N⟩:=zB N;refine xF (zBC t _ aF h4 h5 h6 h7 h8 ap) ?_;rintro aT av v2 k2 aa - ⟨p8,c7,cs,rfl,rfl,h9⟩ -;have ⟨h4,h5,h6,h7,h8,ap⟩:=m6 aa h4 h5 h6 h7 h8 ap;have h:=h.mono aa;refine yG 3 [] [14] rfl<|xM 1 rfl ?_;intro aP aD hl0;have ar:At aP ⟨b1,0,none⟩ [.pointer (some ad)]:=At.of_blk hl0;have ⟨h9,h4,h5,h6,h7,h8⟩:=m6 aD h9 h4 h5 h6 h7 h8;have ⟨ap,h⟩:=m2 aD ap h;have hf0:FV1 Tryz.prog aP [] (.func (.func 64) ⟨[]⟩ ⟨[vP b1 0]⟩) (λx0=>qJ x0 t):=by
  refine FV1.intro ?_;intro I1 aa x0 r u0 hF k0;obtain⟨_,rfl,k0⟩:=k0;obtain rfl:=rJ k0;exact(zDo x0 t r hF (h4.mono aa) (h5.mono aa) (h6.mono aa) (h7.mono aa) (h8.mono aa) (ap.mono aa) (ar.mono aa)).mono (by rintro k i hs u ⟨v0,rfl,rfl,h⟩;exact⟨rfl,h⟩)
 obtain⟨y4,aX,N⟩:=zB N;refine sG (dQ y3 (λx0=>qJ x0 t) _ aX h9 hf0) rfl ?_;rintro bx av v2 k2 aH - ⟨v07,rfl,rfl,h10⟩ -;obtain⟨p9,c8,rfl⟩:=h10.form;refine yK [] [2] rfl<|zG<|yX ?_;exact xU N (resT rfl) zM ⟨_,rfl,rfl,h10⟩
def kJ(p:zC)(choices:(List Int)):Option ((List Int)):=do
 let y<-mT p;let y1<-tF p;let y2<-eK y (y1.length:Int) choices;pure (id y2)
theorem zDp:∀p choices r,kJ p choices=some r->∀{I:Imm}{p1 c p2 c1 p3 c2},(S4 I p1 p.Arrays c)->(S4 I p2 p.Parts c1)->(S4 I p3 choices c2)->RT 14 [vA (cProg p p1 c p2 c1),vS p3 choices c2] I [] (nI  r):=by
 intro p choices r N I p1 c p2 c1 p3 c2 h h1 h2;unfold kJ at N;refine yL func14 λB=>?_;have H:=iS I;refine yF<|vK (cProg p p1 c p2 c1) ?_;intro b hb;refine wB [] []<|zG<|yB ?_;obtain⟨y,hy,N⟩:=zB N;obtain⟨y1,ay,N⟩:=zB N;obtain⟨y2,aF,N⟩:=zB N;refine wA [.p (vA (cProg p p1 c p2 c1)) [0],.x (eS y),.p (vA (cProg p p1 c p2 c1)) [0],.x (eS y1),.q (vI (y1.length:Int)),.p (vS p3 choices c2) [],.x (eS y2)] [[],[(0,false)],[],[(2,false)],[(3,false)],[],[(1,false),(4,false),(5,false)]] [hB b (cProg p p1 c p2 c1)] [] [(6,false)] (zY [0]) ?_ ?_
 ·refine Op<|Ox ?_<|Op<|Ox ?_<|Oq ?_<|Op<|Ox ?_<|On
  ·intro I1 hf aa;refine yP [5] rfl ?_;have H:=iS I1;have ⟨h,h1⟩:=m2 aa h h1;refine xF (zB4 p _ hy h h1) ?_;rintro I0 av v2 k2 le - ⟨v0,rfl,rfl,h3⟩ -;have H:=H.trans le;obtain⟨p4,c3,rfl⟩:=h3.form;exact yM [] H ⟨_,_,rfl,rfl,h3⟩
  ·intro I1 hf aa;refine yP [7] rfl ?_;have H:=iS I1;have ⟨h,h1⟩:=m2 aa h h1;refine xF (gI p _ ay h h1) ?_;rintro aT av v2 k2 aa - ⟨v01,rfl,rfl,h4⟩ -;have H:=H.trans aa;obtain⟨p5,c4,rfl⟩:=h4.form;exact yM [] H ⟨_,_,rfl,rfl,h4⟩
  ·rintro I1 hf aa _ _ ⟨p5,c4,rfl,rfl,h4⟩;exact yP [8] rfl<|tD 5 [(9,vI (y1.length:Int))]<|yR iR
  rintro I1 hf aa _ _ ⟨p4,c3,rfl,rfl,h3⟩;refine yP [6,9,10] rfl ?_;have H:=iS I1;have h2:=h2.mono aa;refine xF (zDn y (y1.length:Int) choices _ aF h3 h2) ?_;rintro aP av v2 k2 aD - ⟨v02,rfl,rfl,h5⟩ -;have H:=H.trans aD;obtain⟨p6,c5,rfl⟩:=h5.form;exact yM [] H ⟨_,_,rfl,rfl,h5⟩
 rintro bx aH _ _ ⟨p6,c5,rfl,rfl,h5⟩;refine yP [11] rfl ?_;refine yK [] [4] rfl<|zG<|yX ?_;exact xU N (resT rfl) zM ⟨_,rfl,rfl,h5⟩
def vD(p:zC)(i:Int)(y:(List (List Int)))(k0:Int)(br:List zN)(s:Int):Option (List zN):=do
 let x1<-idx p.Parts i;if(decide (s<(x1.Body.length:Int))) then
  let x2<-idx y k0;let l<-app 8 ([]:List Int) x2;let out6<-app 40 br ([(zN.mk i s l)]:List zN);vD p i y k0 out6 (W (s+1))
 else pure (id br)
 partial_fixpoint
theorem zCo(p:zC)(i:Int)(y:(List (List Int)))(k0:Int):∀(br:List zN) (s:Int) (o:List zN),vD p i y k0 br s=some o->∀{B}{I0 I:Imm}{Q p1 c p2 c1}{b}{p7 c6 aM bb c9 bH},I0.le I->(RL I aM y)->(S4 I p1 p.Arrays c)->(S4 I p2 p.Parts c1)->(RL I bH br)->NG Q->NO Q->(∀I' out5 aR bd cs6,o=out5->I0.le I'->(RL I' cs6 out5)->T 54 B Q (.exit 4) I' [hO (List Int) (vS p7 y c6) aM,hO zN (vS aR out5 bd) cs6,hB b (cProg p p1 c p2 c1)] [(1,vP b 0),(3,vS aR out5 bd),(4,vI i),(5,vS p7 y c6),(6,vI k0)])->J Tryz.prog 54 B (nav (bodyOf f69) [1,1,0,1,0,0,1,0,0,1,1,0,0,1,0,0,1,0]) Q I [hO (List Int) (vS p7 y c6) aM,hO zN (vS bb br c9) bH,hB b (cProg p p1 c p2 c1)] [(1,vP b 0),(3,vS bb br c9),(4,vI i),(5,vS p7 y c6),(6,vI k0),(7,vI s)]:=by
 refine vD.partial_correctness p i y k0 _ λaI ih br s o N B I0 I Q p1 c p2 c1 b p7 c6 aM bb c9 bH H h8 h h1 h11 hg ho hx=>yV hg ho<|yB<|yF<|yG 4 [2] [30,32,33] rfl<|bE N λx1 aF N=>xK rfl rfl h1 aF ?_;intro ad1 bm ar au;obtain⟨bz,bh,bj,bo,rfl,h13,h14⟩:=vU au;refine yG 6 [] [35] rfl<|xA 1 ar [vS bj x1.Body bo] (vS bj x1.Body bo) rfl<|yK [] [38] rfl<|zG<|yE N ?_ ?_
 ·intro aV N;refine zT<|zZ<|yI<|zJ<|yG 3 [] [41,42,43] rfl<|uP [] Int ?_;intro b3 hb3;have h15:RL I [] ([]:List Int):=rfl;refine yG 6 [] [45,46] rfl<|bE N λx2 aX N=>pF 1 rfl rfl rfl h8 aX ?_;intro ad2 bO aS bJ aZ;obtain⟨v04,rfl,h16⟩:=aZ;obtain⟨p14,bw,rfl⟩:=h16.form;refine zBt 1 0 aS bJ [vS p14 x2 bw] (vS p14 x2 bw) rfl rfl ?_;obtain⟨ccs3,k01,k02⟩:=h16;have h16:SL I (vS p14 x2 bw) x2:=⟨_,k01,k02⟩;obtain⟨l,bk,N⟩:=zB N;refine qA 3 1 0 rfl rfl rfl h15 (.inl k01) k02 bk λp15 c14 cs7 h17=>tX (zY [0,1,2,3] (ag:=[hO Int (vS p15 l c14) cs7,hO (List Int) (vS p7 y c6) aM,hO zN (vS bb br c9) bH,hB b (cProg p p1 c p2 c1)]))<|yG 10 [] [50] rfl<|xM 0 rfl ?_;intro aT aa hl0;have h18:=SL.of_frozen hl0 aa h17;have ⟨h8,h11,h,h1,H⟩:=m5 aa h8 h11 h h1 H;refine uP [vI i,vI s,vS p15 l c14] zN ?_;intro b4 hb4;have h19:RL aT [vI i,vI s,vS p15 l c14] ([(zN.mk i s l)]:List zN):=⟨[vI i,vI s,vS p15 l c14],_,rfl,rfl,(zBQ ⟨_,rfl,h18⟩),rfl⟩;obtain⟨out6,bC,N⟩:=zB N;exact qA 90 3 2 rfl rfl rfl h11 (.inr ⟨0,rfl⟩) h19 bC λp16 c15 cs8 h20=>tX (zY [1,2,3] (ag:=[hO (List Int) (vS p7 y c6) aM,hO zN (vS p16 out6 c15) cs8,hB b (cProg p p1 c p2 c1)]))<|yK [] [3] rfl<|zL<|zG<|zJ<|yK [] [7] rfl<|yU<|nD<|ih out6 (W (s+1)) _ N H h8 h h1 h20 hg ho hx
 intro aV N;exact wM<|yS<|hx _ _ _ _ _ (zD N).symm H h11
def vG(p:zC)(i:Int)(y:(List (List Int)))(aq:List zN)(k0:Int):Option (List zN):=do
 if(decide (k0<(y.length:Int))) then
  let out5<-vD p i y k0 aq 0;vG p i y out5 (W (k0+1))
 else pure (id aq)
 partial_fixpoint
theorem zCp(p:zC)(i:Int)(y:(List (List Int))):∀(aq:List zN) (k0:Int) (o:List zN),vG p i y aq k0=some o->∀{B}{I0 I:Imm}{Q p1 c p2 c1}{b}{p7 c6 aM p8 c7 aU},I0.le I->(RL I aM y)->(S4 I p1 p.Arrays c)->(S4 I p2 p.Parts c1)->(RL I aU aq)->NG Q->NO Q->(∀I' aL p9 c8 bv,o=aL->I0.le I'->(RL I' bv aL)->T 54 B Q (.exit 2) I' [hO zN (vS p9 aL c8) bv,hB b (cProg p p1 c p2 c1)] [(1,vP b 0),(3,vS p9 aL c8),(4,vI i)])->J Tryz.prog 54 B (nav (bodyOf f69) [1,1,0,1,0,0,1,0,0,1,1,0]) Q I [hO (List Int) (vS p7 y c6) aM,hO zN (vS p8 aq c7) aU,hB b (cProg p p1 c p2 c1)] [(1,vP b 0),(3,vS p8 aq c7),(4,vI i),(5,vS p7 y c6),(6,vI k0)]:=by
 refine vG.partial_correctness p i y _ λaI ih aq k0 o N B I0 I Q p1 c p2 c1 b p7 c6 aM p8 c7 aU H h8 h h1 h9 hg ho hx=>yV hg ho<|yB<|yH [27] rfl<|zG<|yE N ?_ ?_
 ·intro aE N;refine zT<|zZ<|yI<|yH [7] rfl<|xY<|pE [(1,vP b 0),(3,vS p8 aq c7),(4,vI i),(5,vS p7 y c6),(6,vI k0),(7,vI 0)] ?_;obtain⟨o0,aA,aG⟩:=zB N;refine zCo p i y k0 aq 0 o0 aA iR h8 h h1 h9 (λ_ _ _ h=>hg _ _ _ h) (λ_ _ h=>ho _ _ h) ?_;intro aP out5 aR bd cs6 heq aD h12;subst o0;have ⟨h8,h,h1,H⟩:=m4 aD h8 h h1 H;exact zS<|zL<|zG<|zJ<|yK [] [6] rfl<|yU<|nD<|ih out5 (W (k0+1)) _ aG H h8 h h1 h12 hg ho hx
 intro aE N;exact wM<|xW (zX [1,2] rfl (by decide))<|yS<|hx _ _ _ _ _ (zD N).symm H h9
def vH(p:zC)(out:List zN)(i:Int):Option (List zN):=do
 if(decide (i<(p.Parts.length:Int))) then
  let x<-idx p.Parts i;let y<-uO ([]:List (List Int)) x.Nest ([]:List Int);let aL<-vG p i y out 0;vH p aL (W (i+1))
 else pure (id out)
 partial_fixpoint
theorem zCq(p:zC):∀(out:List zN) (i:Int) (o:List zN),vH p out i=some o->∀{B}{I0 I:Imm}{Q p1 c p2 c1}{b}{p3 c2 cs},I0.le I->(S4 I p1 p.Arrays c)->(S4 I p2 p.Parts c1)->(RL I cs out)->NG Q->NO Q->(∀I' aj p4 c3 az,o=aj->I0.le I'->(RL I' az aj)->T 54 B Q (.exit 0) I' [hO zN (vS p4 aj c3) az] [(3,vS p4 aj c3)])->J Tryz.prog 54 B (nav (bodyOf f69) [1,1,0,1,0]) Q I [hO zN (vS p3 out c2) cs,hB b (cProg p p1 c p2 c1)] [(1,vP b 0),(3,vS p3 out c2),(4,vI i)]:=by
 refine vH.partial_correctness p _ λaI ih out i o N B I0 I Q p1 c p2 c1 b p3 c2 cs H h h1 h3 hg ho hx=>yV hg ho<|yB<|yF<|yK [1] [13] rfl<|zG<|yE N ?_ ?_
 ·intro hc N;refine zT<|zZ<|yI<|yF<|uP [] (List Int) ?_;intro b2 hb2;have h5:RL I [] ([]:List (List Int)):=rfl;refine yG 4 [2] [18,19] rfl<|bE N λx hy N=>xK rfl rfl h1 hy ?_;intro ad aN ap ak;obtain⟨p5,c4,p6,c5,rfl,h6,h7⟩:=vU ak;refine yG 6 [] [21] rfl<|xA 0 ap [vS p5 x.Nest c4] (vS p5 x.Nest c4) rfl<|bE N λy ay N=>sG (zCZ ([]:List (List Int)) x.Nest ([]:List Int) _ ay h5 h6 (SL.nil _)) rfl ?_;rintro I0 av v2 k2 le - ⟨p7,c6,aM,rfl,rfl,h8⟩ -;have ⟨h3,h,h1,H⟩:=m4 le h3 h h1 H;refine yK [] [5] rfl<|wV [6] rfl<|xY<|pE [(1,vP b 0),(3,vS p3 out c2),(4,vI i),(5,vS p7 y c6),(6,vI 0)] ?_;obtain⟨aO,aB,hMl1⟩:=zB N;refine zCp p i y out 0 aO aB iR h8 h h1 h3 (λ_ _ _ h=>hg _ _ _ h) (λ_ _ h=>ho _ _ h) ?_;intro bx aL p9 c8 bv heq1 aH h10;subst aO;have ⟨h,h1,H⟩:=m3 aH h h1 H;exact zS<|zL<|zG<|zJ<|yK [] [4] rfl<|yU<|nD<|ih aL (W (i+1)) _ hMl1 H h h1 h10 hg ho hx
 intro hc N;exact wM<|xW (zX [0] rfl (by decide))<|yS<|hx _ _ _ _ _ (zD N).symm H h3
def uZ(p:zC):Option ((List zN)):=do
 let aj<-vH p ([]:List zN) 0;pure (id aj)
theorem zAD:∀p r,uZ p=some r->∀{I:Imm}{p1 c p2 c1},(S4 I p1 p.Arrays c)->(S4 I p2 p.Parts c1)->RT 69 [vA (cProg p p1 c p2 c1)] I [] (jA  r):=by
 intro p r N I p1 c p2 c1 h h1;unfold uZ at N;refine yL func69 λB=>yF<|vK (cProg p p1 c p2 c1) ?_;intro b hb;refine wB [] []<|yW<|uP [] zN ?_;intro b1 hb1;have h2:RL I [] ([]:List zN):=rfl;refine yK [] [3] rfl<|zZ<|yH [4] rfl<|xY<|pE [(1,vP b 0),(3,vS (some ⟨b1,0,none⟩) ([]:List zN) 0),(4,vI 0)] ?_;obtain⟨o02,ho02,hMl2⟩:=zB N;refine zCq p ([]:List zN) 0 o02 ho02 iR h h1 h2 nG nO ?_;intro bI aj p4 c3 az heq2 bf h4;subst o02;refine zS<|wV [2] rfl<|xD<|yZ 0 rfl ?_;intro bL bu hl01;have h21:=SL.of_frozen hl01 bu h4;exact xU hMl2 (resT rfl) zM ⟨_,rfl,rfl,h21⟩
def mE(a0:(List Int))(b:(List Int))(i:Int):Option (Out Unit (Bool)):=do
 if(decide (i<(a0.length:Int))) then
  let x<-idx a0 i;let x1<-idx b i;if(x != x1) then pure (.ret false)
  else mE a0 b (W (i+1))
 else pure (.done ())
 partial_fixpoint
theorem zGL(a0:(List Int))(b:(List Int)):∀(i:Int) (o:Out Unit (Bool)),mE a0 b i=some o->∀{B}{I0 I:Imm}{Q p c p1 c1},I0.le I->(S4 I p a0 c)->(S4 I p1 b c1)->NG Q->NO Q->(∀I',o=(.done ())->I0.le I'->T 26 B Q (.exit 0) I' [] [])->(∀r I' ag m',o=(.ret r)->I0.le I'->RS Tryz.prog f204 B (zU  r) I' ag m'->T 26 B Q .ret I' ag m')->J Tryz.prog 26 B (nav (bodyOf f204) [1,1,0,1,0]) Q I [] [(0,vS p a0 c),(1,vS p1 b c1),(5,vI i)]:=by
 refine mE.partial_correctness a0 b _ λaI ih i o N B I0 I Q p c p1 c1 H h h1 hg ho hx hr=>yV hg ho<|yB<|yH [14] rfl<|zG<|yE N ?_ ?_
 ·intro aE N;refine zT<|zZ<|yI<|yB<|mV (by kernel_rfl) (by kernel_rfl)<|eX 2 [] [17,18] rfl<|bE N λx hy N=>dZ rfl rfl h hy ?_;intro ad aN ap ak;obtain rfl:=ak;refine gT 0 ap [vI x] (vI x) rfl<|eX 6 [] [21,22] rfl<|bE N λx1 ay N=>dZ rfl rfl h1 ay ?_;intro ad1 bm ar au;obtain rfl:=au;refine gT 0 ar [vI x1] (vI x1) rfl<|zGl [] [25] rfl<|zG<|yE N ?_ ?_
  ·intro aV N;exact wL [(4,vF)]<|xD<|zW<|zH<|zH<|hr _ _ _ _ (zD N).symm H ⟨_,_,(resT rfl),zM,⟨_,rfl,rfl,rfl⟩⟩
  intro aV N;exact zT<|zL<|zG<|zJ<|yK [] [5] rfl<|yU<|nD<|ih (W (i+1)) _ N H h h1 hg ho hx hr
 intro aE N;exact wM<|yS<|hx _  (zD N).symm H
def zAQ(a0:(List Int))(b:(List Int)):Option (Bool):=do
 if((a0.length:Int) != (b.length:Int)) then pure false
 else
  match<-mE a0 b 0 with
  | .ret r0=>pure r0
  | .done _=>
   pure true
theorem zIm:∀a0 b r,zAQ a0 b=some r->∀{I:Imm}{p c p1 c1},(S4 I p a0 c)->(S4 I p1 b c1)->RT 204 [vS p a0 c,vS p1 b c1] I [] (zU  r):=by
 intro a0 b r N I p c p1 c1 h h1;unfold zAQ at N;refine yL func204 λB=>wL []<|zZ<|yH [10] rfl<|zG<|yE N ?_ ?_
 ·intro hc N;refine wL [(4,vF)]<|xD<|zH ?_;obtain rfl:=zD N;exact wC
 intro hc N;refine zT<|zZ<|yH [5] rfl<|xY<|pE [(0,vS p a0 c),(1,vS p1 b c1),(5,vI 0)] ?_;obtain⟨o0,aA,aG⟩:=zB N;refine zGL a0 b 0 o0 aA iR h h1 nG nO ?_ ?_
 ·intro I0  heq le;subst o0;refine zS<|zEP [(4,vY)]<|zG<|yX ?_;obtain rfl:=zD aG;exact wC
 intro r0 I9 hs9 m9 aW le9 aY;subst aW;refine zW<|zH ?_;obtain rfl:=zD aG;exact fO aY
def jZ(a0:zA)(b:zA):Option (Bool):=do
 let t4<-(do
  if(a0.Const==b.Const) then
   let y<-zAQ a0.Coefs b.Coefs;pure (id y)
  else
   pure false
    : Option Bool)
 pure (id t4)
theorem zFI:∀a0 b r,jZ a0 b=some r->∀{I:Imm}{p c p1 c1},(S4 I p a0.Coefs c)->(S4 I p1 b.Coefs c1)->RT 194 [vA (cAff a0 p c),vA (cAff b p1 c1)] I [] (zU  r):=by
 intro a0 b r N I p c p1 c1 h h1;unfold jZ at N;refine yL func194 λB=>?_;have H:=iS I;refine yF<|vK (cAff a0 p c) ?_;intro b1 hb;refine vK (cAff b p1 c1) ?_;intro b2 hb1;refine wB [] []<|zG<|yB ?_;refine wK N [] (λt4=>[(4,.bool t4)]) (λo0 aA=>?_) ?_
 ·have H:=iS I;refine zJ<|yG 6 [1,0] [10] rfl<|xZ [10] aA ?_ ?_
  ·intro hc N;refine yG 10 [1,0] [12,14] rfl<|bE N λy hy N=>vJ (zIm a0.Coefs b.Coefs _ hy h h1) ?_;intro aT le;have H:=H.trans le;exact yK [] [4] rfl<|xW zM<|yS<|zV (ct N H)
  intro hc N;exact wB [] [(4,vF)]<|xW zM<|yS<|zV (ct N H)
 intro t4 I0 aa aQ;refine zG<|yX ?_;obtain rfl:=zD aQ;exact wC
def rG(a0:(List zA))(b:(List zA))(i:Int):Option (Out Unit (Bool)):=do
 if(decide (i<(a0.length:Int))) then
  let x<-idx a0 i;let x1<-idx b i;let y<-jZ x x1;if(!y) then pure (.ret false)
  else rG a0 b (W (i+1))
 else pure (.done ())
 partial_fixpoint
theorem zDP(a0:(List zA))(b:(List zA)):∀(i:Int) (o:Out Unit (Bool)),rG a0 b i=some o->∀{B}{I0 I:Imm}{Q p c p1 c1},I0.le I->(S4 I p a0 c)->(S4 I p1 b c1)->NG Q->NO Q->(∀I',o=(.done ())->I0.le I'->T 27 B Q (.exit 0) I' [] [])->(∀r I' ag m',o=(.ret r)->I0.le I'->RS Tryz.prog f174 B (zU  r) I' ag m'->T 27 B Q .ret I' ag m')->J Tryz.prog 27 B (nav (bodyOf f174) [1,1,0,1,0]) Q I [] [(0,vS p a0 c),(1,vS p1 b c1),(5,vI i)]:=by
 refine rG.partial_correctness a0 b _ λaI ih i o N B I0 I Q p c p1 c1 H h h1 hg ho hx hr=>yV hg ho<|yB<|yH [14] rfl<|zG<|yE N ?_ ?_
 ·intro aE N;refine zT<|zZ<|yI<|yB ?_;obtain⟨x,hy,N⟩:=zB N;obtain⟨x1,ay,N⟩:=zB N;obtain⟨y,aF,N⟩:=zB N;refine wA [.p (vS p a0 c) [],.p (vI i) [],.x (ePAff x),.x (eVAff x),.p (vS p1 b c1) [],.p (vI i) [],.x (ePAff x1),.x (eVAff x1),.q (.bool y),.p (.bool (!y)) []] [[],[],[(0,false),(1,false)],[(2,false)],[],[],[(4,false),(5,false)],[(6,false)],[(3,false),(7,false)],[(8,false)]] [] [] [(9,false)] zM ?_ ?_
  ·refine O2<|Ox ?_<|Ox ?_<|O2<|Ox ?_<|Ox ?_<|Oq ?_<|Op<|On
   ·intro I1 hf aa;refine yP [17,18] rfl ?_;have h:=h.mono aa;refine xK rfl rfl h hy ?_;intro ad aN ap ak;obtain⟨p2,c2,rfl,h2⟩:=yQ ak;exact yM [] iR ⟨_,_,_,rfl,rfl,ap,h2⟩
   ·rintro I1 hf aa _ _ ⟨ad,p2,c2,rfl,rfl,ap,h2⟩;exact yP [19] rfl<|xA 0 ap (cAff x p2 c2) (vA (cAff x p2 c2)) rfl<|yM [] iR ⟨_,_,rfl,rfl,h2⟩
   ·intro I1 hf aa;refine yP [21,22] rfl ?_;have h1:=h1.mono aa;refine xK rfl rfl h1 ay ?_;intro ad1 bm ar au;obtain⟨p3,c3,rfl,h3⟩:=yQ au;exact yM [] iR ⟨_,_,_,rfl,rfl,ar,h3⟩
   ·rintro I1 hf aa _ _ ⟨ad1,p3,c3,rfl,rfl,ar,h3⟩;exact yP [23] rfl<|xA 0 ar (cAff x1 p3 c3) (vA (cAff x1 p3 c3)) rfl<|yM [] iR ⟨_,_,rfl,rfl,h3⟩
   rintro I1 hf aa _ _ ⟨p21,c21,rfl,rfl,h21⟩ _ _ ⟨p31,c31,rfl,rfl,h31⟩;refine yP [20,24] rfl ?_;have H:=iS I1;refine vJ (zFI x x1 _ aF h21 h31) ?_;intro I0 le;have H:=H.trans le;exact yR H
  intro aT aa;refine yP [0,1,5,26] rfl ?_;have ⟨h,h1,H⟩:=m3 aa h h1 H;refine yA rfl<|zG<|yE N ?_ ?_
  ·intro aV N;exact wL [(4,vF)]<|xD<|zW<|zH<|zH<|hr _ _ _ _ (zD N).symm H ⟨_,_,(resT rfl),zM,⟨_,rfl,rfl,rfl⟩⟩
  intro aV N;exact zT<|zL<|zG<|zJ<|yK [] [5] rfl<|yU<|nD<|ih (W (i+1)) _ N H h h1 hg ho hx hr
 intro aE N;exact wM<|yS<|hx _  (zD N).symm H
def eW(a0:(List zA))(b:(List zA)):Option (Bool):=do
 if((a0.length:Int) != (b.length:Int)) then pure false
 else
  match<-rG a0 b 0 with
  | .ret r0=>pure r0
  | .done _=>
   pure true
theorem zFJ:∀a0 b r,eW a0 b=some r->∀{I:Imm}{p c p1 c1},(S4 I p a0 c)->(S4 I p1 b c1)->RT 174 [vS p a0 c,vS p1 b c1] I [] (zU  r):=by
 intro a0 b r N I p c p1 c1 h h1;unfold eW at N;refine yL func174 λB=>wL []<|zZ<|yH [10] rfl<|zG<|yE N ?_ ?_
 ·intro hc N;refine wL [(4,vF)]<|xD<|zH ?_;obtain rfl:=zD N;exact wC
 intro hc N;refine zT<|zZ<|yH [5] rfl<|xY<|pE [(0,vS p a0 c),(1,vS p1 b c1),(5,vI 0)] ?_;obtain⟨o0,aA,aG⟩:=zB N;refine zDP a0 b 0 o0 aA iR h h1 nG nO ?_ ?_
 ·intro aP  heq aD;subst o0;refine zS<|zEP [(4,vY)]<|zG<|yX ?_;obtain rfl:=zD aG;exact wC
 intro r0 I9 hs9 m9 aW le9 aY;subst aW;refine zW<|zH ?_;obtain rfl:=zD aG;exact fO aY
def kK(a0:zK)(b:zK):Option (Bool):=do
 let t4<-(do
  if(a0.Array.l==b.Array.l) then
   let y<-eW a0.Subs b.Subs;pure (id y)
  else
   pure false
    : Option Bool)
 pure (id t4)
theorem zAs:∀a0 b r,kK a0 b=some r->∀{I:Imm}{p c p1 c1},(S4 I p a0.Subs c)->(S4 I p1 b.Subs c1)->RT 140 [vA (cAccess a0 p c),vA (cAccess b p1 c1)] I [] (zU  r):=by
 intro a0 b r N I p c p1 c1 h h1;unfold kK at N;refine yL func140 λB=>?_;have H:=iS I;refine yF<|vK (cAccess a0 p c) ?_;intro b1 hb;refine vK (cAccess b p1 c1) ?_;intro b2 hb1;refine wB [] []<|zG<|yB ?_;refine wK N [] (λt4=>[(4,.bool t4)]) (λo0 aA=>?_) ?_
 ·have H:=iS I;refine zJ<|yG 6 [1,0] [10] rfl<|xZ [10] aA ?_ ?_
  ·intro hc N;refine yG 10 [1,0] [12,14] rfl<|bE N λy hy N=>vJ (zFJ a0.Subs b.Subs _ hy h h1) ?_;intro aT le;have H:=H.trans le;exact yK [] [4] rfl<|xW zM<|yS<|zV (ct N H)
  intro hc N;exact wB [] [(4,vF)]<|xW zM<|yS<|zV (ct N H)
 intro t4 I0 aa aQ;refine zG<|yX ?_;obtain rfl:=zD aQ;exact wC
mutual
def jC(e0:zI)(name:Str):Option (Bool):=do
 let t15<-(do
  if(e0.Kind==3) then pure (e0.Read.Array.l==name.l)
  else
   pure false
    : Option Bool)
 if t15 then pure true
 else
  match<-wY (same e0) (same name) (same 0) with
  | .ret r0=>pure r0
  | .done _=>
   pure false
 partial_fixpoint
def wY(e0:zI)(name:Str)(i:Int):Option (Out Unit (Bool)):=do
 if(decide (i<(e0.Kids.length:Int))) then
  let x<-idx e0.Kids i;let y<-jC (same x) (same name);if y then pure (.ret true)
  else wY (same e0) (same name) (W (i+1))
 else pure (.done ())
 partial_fixpoint
end
theorem zHL:(∀(e0:zI) (name:Str) r,jC e0 name=some r->∀{I:Imm}{p c p1 c1 p2 c2},(S4 I p e0.Index.Coefs c)->(S4 I p1 e0.Read.Subs c1)->(S4 I p2 e0.Kids c2)->RT 141 [vA (cExpr e0 p c p1 c1 p2 c2),vT name.l] I [] (zU  r))/\(∀(e0:zI) (name:Str) (i:Int) o,wY e0 name i=some o->∀{B}{I0 I:Imm}{Q p c p1 c1 p2 c2}{b},I0.le I->(S4 I p e0.Index.Coefs c)->(S4 I p1 e0.Read.Subs c1)->(S4 I p2 e0.Kids c2)->NG Q->NO Q->(∀I',o=(.done ())->I0.le I'->T 30 B Q (.exit 0) I' [] [])->(∀r I' ag m',o=(.ret r)->I0.le I'->RS Tryz.prog f141 B (zU  r) I' ag m'->T 30 B Q .ret I' ag m')->J Tryz.prog 30 B (nav (bodyOf f141) [1,1,0,1,0]) Q I [hB b (cExpr e0 p c p1 c1 p2 c2)] [(1,vT name.l),(2,vP b 0),(5,vI i)]):=by
 refine jC.mutual_partial_correctness _ _ ?_ ?_
 ·intro F_spec_l12Uses_l1 ih_spec_l12Uses_l1 e0 name r N I p c p1 c1 p2 c2 h h1 h2;refine yL func141 λB=>?_;have H:=iS I;refine yF<|vK (cExpr e0 p c p1 c1 p2 c2) ?_;intro b hb;refine wB [] []<|zZ<|yB ?_;refine wK N [hB b (cExpr e0 p c p1 c1 p2 c2)] (λt15=>[(1,vT name.l),(2,vP b 0),(15,.bool t15)]) (λo0 aA=>?_) ?_
  ·have H:=iS I;refine zJ<|yG 4 [0] [9] rfl<|xZ [9] aA ?_ ?_
   ·intro hc N;exact yK [0] [15] rfl<|yS<|zV (ct N H)
   intro hc N;exact wB [] [(15,vF)]<|yS<|zV (ct N H)
  intro t15 I0 le aQ;have ⟨h,h1,h2⟩:=m3 le h h1 h2;refine zG<|yE aQ ?_ ?_
  ·intro aE N;refine wL [(4,vY)]<|xD<|zH ?_;obtain rfl:=zD N;exact wC
  intro aE N;refine zT<|zZ<|yH [5] rfl<|xY<|pE [(1,vT name.l),(2,vP b 0),(5,vI 0)] ?_;obtain⟨aO,aB,aG⟩:=zB N;refine ih_spec_l12Uses_l1 e0 name 0 aO aB iR h h1 h2 nG nO ?_ ?_
  ·intro aP  heq1 aD;subst aO;refine zS<|zEP [(4,vF)]<|zG<|yX ?_;obtain rfl:=zD aG;exact wC
  intro r0 I9 hs9 m9 aW le9 aY;subst aW;refine zW<|zH ?_;obtain rfl:=zD aG;exact fO aY
 intro F_spec_l12Uses F_spec_l12Uses_l1 ih_spec_l12Uses ih_spec_l12Uses_l1 e0 name i o N B I0 I Q p c p1 c1 p2 c2 b H h h1 h2 hg ho hx hr;refine yV hg ho<|yB<|yF<|yK [0] [20] rfl<|zG<|yE N ?_ ?_
 ·intro aV N;refine zT<|zZ<|yI<|yF<|yG 3 [0] [24,25] rfl<|bE N λx hy N=>xK rfl rfl h2 hy ?_;intro ad aN ap ak;obtain⟨p3,c3,p4,c4,p5,c5,rfl,h3,h4,h5⟩:=xX ak;refine xA 0 ap (cExpr x p3 c3 p4 c4 p5 c5) (vA (cExpr x p3 c3 p4 c4 p5 c5)) rfl<|yG 6 [] [28] rfl<|bE N λy ay N=>xF (ih_spec_l12Uses x name _ ay h3 h4 h5) ?_;rintro aT av v2 k2 aa - ⟨v03,rfl,rfl,rfl⟩ -;have ⟨h,h1,h2,H⟩:=m4 aa h h1 h2 H;refine yA rfl<|zG<|yE N ?_ ?_
  ·intro bD N;exact wL [(4,vY)]<|xD<|zW<|zH<|zH<|hr _ _ _ _ (zD N).symm H ⟨_,_,(resT rfl),zM,⟨_,rfl,rfl,rfl⟩⟩
  intro bD N;exact zT<|zL<|zG<|zJ<|yK [] [5] rfl<|yU<|nD<|ih_spec_l12Uses_l1 e0 name (W (i+1)) _ N H h h1 h2 hg ho hx hr
 intro aV N;exact wM<|xW zM<|yS<|hx _  (zD N).symm H
theorem zHp:∀e0 name r,jC e0 name=some r->∀{I:Imm}{p c p1 c1 p2 c2},(S4 I p e0.Index.Coefs c)->(S4 I p1 e0.Read.Subs c1)->(S4 I p2 e0.Kids c2)->RT 141 [vA (cExpr e0 p c p1 c1 p2 c2),vT name.l] I [] (zU  r):=zHL.1
def zA7(s:zP):Option (Bool):=do
 let t14<-(do
  if(s.Value.Kind != 4) then pure (s.Value.Kind != 5)
  else
   pure false
    : Option Bool)
 if t14 then pure false
 else
  let x<-idx s.Value.Kids 0;let t2<-(do
   if(x.Kind==3) then
    let y<-kK x.Read s.Write;if y then
     let x1<-idx s.Value.Kids 1;let y1<-jC x1 s.Write.Array;pure (!y1)
    else pure false
   else
    pure false
     : Option Bool)
  pure (id t2)
theorem zJ5:∀s r,zA7 s=some r->∀{I:Imm}{p c p1 c1 p2 c2 p3 c3},(S4 I p s.Write.Subs c)->(S4 I p1 s.Value.Index.Coefs c1)->(S4 I p2 s.Value.Read.Subs c2)->(S4 I p3 s.Value.Kids c3)->RT 103 [vA (cStmt s p c p1 c1 p2 c2 p3 c3)] I [] (zU  r):=by
 intro s r N I p c p1 c1 p2 c2 p3 c3 h h1 h2 h3;unfold zA7 at N;refine yL func103 λB=>?_;have H:=iS I;refine yF<|vK (cStmt s p c p1 c1 p2 c2 p3 c3) ?_;intro b hb;refine wB [] []<|yW<|sW 2 [0] [(6,vA (cExpr s.Value p1 c1 p2 c2 p3 c3))]<|wI zExpr ?_;intro b1 hb1;refine xI 0 (cExpr s.Value p1 c1 p2 c2 p3 c3) rfl<|yA rfl<|zZ<|yB ?_;refine wK N [hB b1 (cExpr s.Value p1 c1 p2 c2 p3 c3),hB b (cStmt s p c p1 c1 p2 c2 p3 c3)] (λt14=>[(1,vP b 0),(3,vP b1 0),(14,.bool t14)]) (λo0 aA=>?_) ?_
 ·have H:=iS I;refine zJ<|yG 4 [0] [10] rfl<|xZ [10] aA ?_ ?_
  ·intro hc N;exact yK [0] [14] rfl<|yS<|zV (ct N H)
  intro hc N;exact wB [] [(14,vF)]<|yS<|zV (ct N H)
 intro t14 I0 le aQ;have ⟨h3,h,H⟩:=m3 le h3 h H;refine zG<|yE aQ ?_ ?_
 ·intro aE N;refine wL [(2,vF)]<|xD<|zH ?_;obtain rfl:=zD N;exact wC
 intro aE N;refine zT<|yW<|yG 2 [0] [16] rfl<|bE N λx hy N=>xK rfl rfl h3 hy ?_;intro ad aN ap ak;obtain⟨p4,c4,p5,c5,p6,c6,rfl,h4,h5,h6⟩:=xX ak;refine xA 0 ap (cExpr x p4 c4 p5 c5 p6 c6) (vA (cExpr x p4 c4 p5 c5 p6 c6)) rfl<|wI zExpr ?_;intro b2 hb2;refine xI 0 (cExpr x p4 c4 p5 c5 p6 c6) rfl<|yA rfl<|zG<|yB ?_;refine wK N [] (λt2=>[(2,.bool t2)]) (λaO aB=>?_) ?_
 ·have H:=iS I0;cases aV:(x.Kind==3) with
  | true=>
   have hM0:=wQ aV aB;obtain⟨y,ay,N⟩:=zB hM0;cases bD:y with
   | true=>
    have hM01:=wQ bD N;obtain⟨x1,aF,N⟩:=zB hM01;obtain⟨y1,aX,N⟩:=zB N;refine wA [.p (vP b2 0) [],.p (vI x.Kind) [0],.q vY,.q vY,.p (vP b2 4) [],.p (vA (cAccess x.Read p5 c5)) [0],.p (vP b 0) [],.p (vA (cAccess s.Write p c)) [2],.q vY,.q vY,.q vY,.p (vP b1 6) [],.p (vS p3 s.Value.Kids c3) [1],.x (ePExpr x1),.x (eVExpr x1),.p (vP b 0) [],.p (vP b 0) [],.p (vT s.Write.Array.l) [2],.q (.bool y1),.p (.bool (!y1)) [],.p (.bool (!y1)) []] [[],[(0,false)],[(1,false)],[(2,false)],[(3,false)],[(3,false),(4,false)],[(3,false)],[(3,false),(6,false)],[(3,false),(5,false),(7,false)],[(3,false),(8,false)],[(9,false)],[(10,false)],[(10,false),(11,false)],[(10,false),(12,false)],[(10,false),(13,false)],[(10,false)],[(10,false),(15,false)],[(10,false),(16,false)],[(10,false),(14,false),(17,false)],[(10,false),(18,false)],[(10,false),(19,false)]] [hB b2 (cExpr x p4 c4 p5 c5 p6 c6),hB b1 (cExpr s.Value p1 c1 p2 c2 p3 c3),hB b (cStmt s p c p1 c1 p2 c2 p3 c3)] [] [(20,false)] (zY [0,1,2]) ?_ ?_
    ·refine O2<|Oq ?_<|Oq ?_<|O4<|Oq ?_<|Oq ?_<|Oq ?_<|O2<|Ox ?_<|Ox ?_<|O3<|Oq ?_<|O2<|On
     ·intro I1 hf aa;refine yP [20] rfl<|tD 3 [(21,.bool (x.Kind==3))] ?_;rw[aV];exact yR iR
     ·intro I1 hf aa;exact eN [(21,vY)]<|tD 4 [(22,vY)]<|yR iR
     ·intro I1 hf aa;refine yP [22,24,26] rfl ?_;have H:=iS I1;have ⟨h5,h⟩:=m2 aa h5 h;refine vJ (zAs x.Read s.Write _ ay h5 h) ?_;intro aP aa;have H:=H.trans aa;rw[bD];exact yR H
     ·intro I1 hf aa;exact yP [22,27] rfl<|tD 10 [(28,vY)]<|yR iR
     ·intro I1 hf aa;exact eN [(28,vY)]<|tD 11 [(29,vY)]<|yR iR
     ·intro I1 hf aa;refine yP [29,31] rfl ?_;have h3:=h3.mono aa;refine xK rfl rfl h3 aF ?_;intro ad1 bm ar au;obtain⟨p7,c7,p8,c8,p9,c9,rfl,h8,h9,h10⟩:=xX au;exact yM [] iR ⟨_,_,_,_,_,_,_,rfl,rfl,ar,h8,h9,h10⟩
     ·rintro I1 hf aa _ _ ⟨rfl,rfl⟩ _ _ ⟨ad1,p7,c7,p8,c8,p9,c9,rfl,rfl,ar,h8,h9,h10⟩;exact yP [29,32] rfl<|xA 0 ar (cExpr x1 p7 c7 p8 c8 p9 c9) (vA (cExpr x1 p7 c7 p8 c8 p9 c9)) rfl<|yM [] iR ⟨_,_,_,_,_,_,rfl,rfl,h8,h9,h10⟩
     rintro I1 hf aa _ _ ⟨rfl,rfl⟩ _ _ ⟨p71,c71,p81,c81,p91,c91,rfl,rfl,h81,h91,h101⟩;refine yP [29,33,36] rfl ?_;have H:=iS I1;refine vJ (zHp x1 s.Write.Array _ aX h81 h91 h101) ?_;intro bx aD;have H:=H.trans aD;exact yR H
    intro bI aH;refine yP [39] rfl ?_;have H:=H.trans aH;exact yK [] [2] rfl<|xW zM<|yS<|zV (ct N H)
   | false=>
    have hM02:=wE bD N;refine wA [.p (vP b2 0) [],.p (vI x.Kind) [0],.q vY,.q vY,.p (vP b2 4) [],.p (vA (cAccess x.Read p5 c5)) [0],.p (vP b 0) [],.p (vA (cAccess s.Write p c)) [2],.q vF,.q vF,.q vF,.p undef [],.p undef [],.p undef [],.p undef [],.p undef [],.p undef [],.p undef [],.p undef [],.p undef [],.p vF []] [[],[(0,false)],[(1,false)],[(2,false)],[(3,false)],[(3,false),(4,false)],[(3,false)],[(3,false),(6,false)],[(3,false),(5,false),(7,false)],[(3,false),(8,false)],[(9,false)],[(10,false)],[(10,false),(11,false)],[(10,false),(12,false)],[(10,false),(13,false)],[(10,false)],[(10,false),(15,false)],[(10,false),(16,false)],[(10,false),(14,false),(17,false)],[(10,false),(18,false)],[(10,false),(19,false)]] [hB b2 (cExpr x p4 c4 p5 c5 p6 c6),hB b1 (cExpr s.Value p1 c1 p2 c2 p3 c3),hB b (cStmt s p c p1 c1 p2 c2 p3 c3)] [] [(20,false)] (zY [0,1,2]) ?_ ?_
    ·refine O2<|Oq ?_<|Oq ?_<|O4<|Oq ?_<|Oq ?_<|Oq ?_<|O4<|O4<|O2<|On
     ·intro I1 hf aa;refine yP [20] rfl<|tD 3 [(21,.bool (x.Kind==3))] ?_;rw[aV];exact yR iR
     ·intro I1 hf aa;exact eN [(21,vY)]<|tD 4 [(22,vY)]<|yR iR
     ·intro I1 hf aa;refine yP [22,24,26] rfl ?_;have H:=iS I1;have ⟨h5,h⟩:=m2 aa h5 h;refine vJ (zAs x.Read s.Write _ ay h5 h) ?_;intro aP aa;have H:=H.trans aa;rw[bD];exact yR H
     ·intro I1 hf aa;exact yP [22,27] rfl<|tD 10 [(28,vF)]<|yR iR
     intro I1 hf aa;exact eN [(28,vF)]<|tD 11 [(29,vF)]<|yR iR
    intro bL bf;refine eN [(39,vF)] ?_;have H:=H.trans bf;exact wB [] [(2,vF)]<|xW zM<|yS<|zV (ct hM02 H)
  | false=>
   have hM03:=wE aV aB;refine wA [.p (vP b2 0) [],.p (vI x.Kind) [0],.q vF,.q vF,.p undef [],.p undef [],.p undef [],.p undef [],.p undef [],.p vF [],.p vF [],.p undef [],.p undef [],.p undef [],.p undef [],.p undef [],.p undef [],.p undef [],.p undef [],.p undef [],.p vF []] [[],[(0,false)],[(1,false)],[(2,false)],[(3,false)],[(3,false),(4,false)],[(3,false)],[(3,false),(6,false)],[(3,false),(5,false),(7,false)],[(3,false),(8,false)],[(9,false)],[(10,false)],[(10,false),(11,false)],[(10,false),(12,false)],[(10,false),(13,false)],[(10,false)],[(10,false),(15,false)],[(10,false),(16,false)],[(10,false),(14,false),(17,false)],[(10,false),(18,false)],[(10,false),(19,false)]] [hB b2 (cExpr x p4 c4 p5 c5 p6 c6),hB b1 (cExpr s.Value p1 c1 p2 c2 p3 c3),hB b (cStmt s p c p1 c1 p2 c2 p3 c3)] [] [(20,false)] (zY [0,1,2]) ?_ ?_
   ·refine O2<|Oq ?_<|Oq ?_<|O4<|O4<|O4<|O4<|Op<|On
    ·intro I1 hf aa;refine yP [20] rfl<|tD 3 [(21,.bool (x.Kind==3))] ?_;rw[aV];exact yR iR
    intro I1 hf aa;exact eN [(21,vF)]<|tD 4 [(22,vF)]<|yR iR
   intro I06 bu;refine eN [(39,vF)] ?_;have H:=H.trans bu;exact wB [] [(2,vF)]<|xW zM<|yS<|zV (ct hM03 H)
 intro t2 aT bG hMc1;refine zG<|yX ?_;obtain rfl:=zD hMc1;exact wC
def pQ(p:zC)(y:(List zN))(out:List Str)(i:Int):Option (List Str):=do
 if(decide (i<(y.length:Int))) then
  let x<-idx y i;let x1<-idx p.Parts x.Part;let x2<-idx y i;let x3<-idx x1.Body x2.Stmt;let y1<-zA7 x3;let name<-(do
   if y1 then pure x3.Write.Array
   else
    pure (⟨[]⟩:Str)
     : Option Str)
  let aq<-app 16 out ([name]:List Str);pQ p y aq (W (i+1))
 else pure (id out)
 partial_fixpoint
theorem zE1(p:zC)(y:(List zN)):∀(out:List Str) (i:Int) (o:List Str),pQ p y out i=some o->∀{B}{I0 I:Imm}{Q p1 c p2 c1}{b}{p3 c2 p4 c3 cs},I0.le I->(S4 I p3 y c2)->(S4 I p1 p.Arrays c)->(S4 I p2 p.Parts c1)->(RL I cs out)->NG Q->NO Q->(∀I' aj p5 c4 az,o=aj->I0.le I'->(RL I' az aj)->T 44 B Q (.exit 0) I' [hO Str (vS p5 aj c4) az] [(3,vS p5 aj c4)])->J Tryz.prog 44 B (nav (bodyOf f67) [1,1,1,0,1,0]) Q I [hO Str (vS p4 out c3) cs,hB b (cProg p p1 c p2 c1)] [(1,vP b 0),(3,vS p4 out c3),(4,vS p3 y c2),(5,vI i)]:=by
 refine pQ.partial_correctness p y _ λaI ih out i o N B I0 I Q p1 c p2 c1 b p3 c2 p4 c3 cs H h3 h h1 h4 hg ho hx=>yV hg ho<|yB<|yH [14] rfl<|zG<|yE N ?_ ?_
 ·intro hc N;refine zT<|zZ<|yI<|yB ?_;obtain⟨x,ay,N⟩:=zB N;obtain⟨x1,aF,N⟩:=zB N;obtain⟨x2,aX,N⟩:=zB N;obtain⟨x3,bk,N⟩:=zB N;refine wA [.p (vP b 1) [],.p (vS p2 p.Parts c1) [1],.p (vS p3 y c2) [],.p (vI i) [],.x (ePInst x),.x (ePInst x),.q (vI x.Part),.x (ePPart x1),.x (eQPart 1 x1),.x (eS x1.Body),.p (vS p3 y c2) [],.p (vI i) [],.x (ePInst x2),.x (eQInst 1 x2),.q (vI x2.Stmt),.x (ePStmt x3),.x (eVStmt x3),.x (λI' v hx=>∃b2,v=vP b2 0/\hx=[hB b2 [vT ([]),z0,vI 0,vI 0,z0,vI 0,vT ([]),z0,z0]])] [[],[(0,false)],[],[],[(2,false),(3,false)],[(4,false)],[(5,false)],[(1,false),(6,false)],[(7,false)],[(8,false)],[],[],[(10,false),(11,false)],[(12,false)],[(13,false)],[(9,false),(14,false)],[(15,false)],[]] [hO Str (vS p4 out c3) cs,hB b (cProg p p1 c p2 c1)] [] [(16,false),(17,true)] (zY [0,1]) ?_ ?_
  ·refine O4<|Ox ?_<|Ox ?_<|Oq ?_<|Ox ?_<|Ox ?_<|Ox ?_<|O2<|Ox ?_<|Ox ?_<|Oq ?_<|Ox ?_<|Ox ?_<|Ox ?_<|On
   ·intro I1 hf aa;refine yP [19,20] rfl ?_;have h3:=h3.mono aa;refine xK rfl rfl h3 ay ?_;intro ad aN ap ak;obtain⟨p6,c5,rfl,h6⟩:=pR ak;exact yM [] iR ⟨_,_,_,rfl,rfl,ap,h6⟩
   ·rintro I1 hf aa _ _ ⟨ad,p6,c5,rfl,rfl,ap,h6⟩;exact yP [21] rfl<|tD 6 [(22,.pointer (some ad))]<|yM [] iR ⟨_,_,_,rfl,rfl,ap,h6⟩
   ·rintro I1 hf aa _ _ ⟨ad1,p61,c51,rfl,rfl,ar,h61⟩;exact yP [22] rfl<|xA 0 ar [vI x.Part] (vI x.Part) rfl<|yR iR
   ·intro I1 hf aa;refine yP [18,23] rfl ?_;have h1:=h1.mono aa;refine xK rfl rfl h1 aF ?_;intro ad2 bm aS au;obtain⟨p7,c6,p8,c7,rfl,h7,h8⟩:=vU au;exact yM [] iR ⟨_,_,_,_,_,rfl,rfl,aS,h7,h8⟩
   ·rintro I1 hf aa _ _ ⟨ad2,p7,c6,p8,c7,rfl,rfl,aS,h7,h8⟩;exact yP [24] rfl<|tD 9 [(25,.pointer (some (ad2.add 1)))]<|yM [] iR ⟨_,_,_,_,_,rfl,rfl,aS,h7,h8⟩
   ·rintro I1 hf aa _ _ ⟨ad21,p71,c61,p81,c71,rfl,rfl,hat21,h71,h81⟩;exact yP [25] rfl<|xA 1 hat21 [vS p81 x1.Body c71] (vS p81 x1.Body c71) rfl<|yM [] iR ⟨_,_,rfl,rfl,h81⟩
   ·intro I1 hf aa;refine yP [27,28] rfl ?_;have h3:=h3.mono aa;refine xK rfl rfl h3 aX ?_;intro ad3 bO hat3 aZ;obtain⟨p9,c8,rfl,h9⟩:=pR aZ;exact yM [] iR ⟨_,_,_,rfl,rfl,hat3,h9⟩
   ·rintro I1 hf aa _ _ ⟨ad3,p9,c8,rfl,rfl,hat3,h9⟩;exact yP [29] rfl<|tD 14 [(30,.pointer (some (ad3.add 1)))]<|yM [] iR ⟨_,_,_,rfl,rfl,hat3,h9⟩
   ·rintro I1 hf aa _ _ ⟨ad31,p91,c81,rfl,rfl,hat31,h91⟩;exact yP [30] rfl<|xA 1 hat31 [vI x2.Stmt] (vI x2.Stmt) rfl<|yR iR
   ·rintro I1 hf aa _ _ ⟨p811,c711,rfl,rfl,h811⟩;refine yP [26,31] rfl<|xK rfl rfl h811 bk ?_;intro ad4 ccs3 hat4 bB;obtain⟨bb,c9,aR,bd,bz,bh,bj,bo,rfl,h10,h11,h12,h13⟩:=sA bB;exact yM [] iR ⟨_,_,_,_,_,_,_,_,_,rfl,rfl,hat4,h10,h11,h12,h13⟩
   ·rintro I1 hf aa _ _ ⟨ad4,bb,c9,aR,bd,bz,bh,bj,bo,rfl,rfl,hat4,h10,h11,h12,h13⟩;exact yP [32] rfl<|xA 0 hat4 (cStmt x3 bb c9 aR bd bz bh bj bo) (vA (cStmt x3 bb c9 aR bd bz bh bj bo)) rfl<|yM [] iR ⟨_,_,_,_,_,_,_,_,rfl,rfl,h10,h11,h12,h13⟩
   intro I1 hf aa;refine eN []<|wI [vT ([]),z0,vI 0,vI 0,z0,vI 0,vT ([]),z0,z0] ?_;intro b2 hb2;exact yM [hB b2 [vT ([]),z0,vI 0,vI 0,z0,vI 0,vT ([]),z0,z0]] iR ⟨_,rfl,rfl⟩
  rintro aT aa _ _ ⟨p101,c91,p111,c101,p121,c111,p131,c121,rfl,rfl,h101,h111,h121,h131⟩ _ _ ⟨b2,rfl,rfl⟩;refine yP [1,3,4,5,6,33] rfl ?_;have ⟨h4,h3,h,h1,H⟩:=m5 aa h4 h3 h h1 H;refine xI 0 (cStmt x3 p101 c91 p111 c101 p121 c111 p131 c121) rfl<|yA rfl<|wV [7] rfl<|zZ<|yF<|sW 1 [0] [(34,vA (cStmt x3 p101 c91 p111 c101 p121 c111 p131 c121))]<|bE N λy1 bC N=>vJ (zJ5 x3 _ bC h101 h111 h121 h131) ?_;intro aP aD;have ⟨h4,h3,h,h1,H⟩:=m5 aD h4 h3 h h1 H;refine yA rfl<|zG ?_;refine wK N [hO Str (vS p4 out c3) cs,hB b (cProg p p1 c p2 c1)] (λname=>[(1,vP b 0),(3,vS p4 out c3),(4,vS p3 y c2),(5,vI i),(7,vT name.l)]) (λo0 aA=>?_) ?_
  ·have H:=iS aP;refine yE aA ?_ ?_
   ·intro aE N;exact zJ<|yK [0] [7] rfl<|xW (zX [1,2] rfl (by decide))<|yS<|zV (ct N H)
   intro aE N;exact zT<|xW (zX [1,2] rfl (by decide))<|yS<|zV (ct N H)
  intro name bx aH aQ;have ⟨h4,h3,h,h1,H⟩:=m5 aH h4 h3 h h1 H;refine zG<|zJ<|yG 2 [] [39,40] rfl<|uP [vT name.l] Str ?_;intro b3 hb3;have h15:RL bx [vT name.l] ([name]:List Str):=rT [name];obtain⟨aq,hy6,N⟩:=zB aQ;exact qA 9 1 1 rfl rfl rfl h4 (.inr ⟨0,rfl⟩) h15 hy6 λp14 bw aM h16=>tX (zY [1,2] (ag:=[hO Str (vS p14 aq bw) aM,hB b (cProg p p1 c p2 c1)]))<|yK [] [3] rfl<|zL<|zG<|zJ<|yK [] [5] rfl<|yU<|nD<|ih aq (W (i+1)) _ N H h3 h h1 h16 hg ho hx
 intro hc N;exact wM<|xW (zX [0] rfl (by decide))<|yS<|hx _ _ _ _ _ (zD N).symm H h4
def eA(p:zC):Option ((List Str)):=do
 let y<-uZ p;let aj<-pQ p y ([]:List Str) 0;pure (id aj)
theorem zHM:∀p r,eA p=some r->∀{I:Imm}{p1 c p2 c1},(S4 I p1 p.Arrays c)->(S4 I p2 p.Parts c1)->RT 67 [vA (cProg p p1 c p2 c1)] I [] (zAd  r):=by
 intro p r N I p1 c p2 c1 h h1;unfold eA at N;refine yL func67 λB=>yF<|vK (cProg p p1 c p2 c1) ?_;intro b hb;refine wB [] []<|yW<|uP [] Str ?_;intro b1 hb1;have h2:RL I [] ([]:List Str):=rfl;refine yK [] [3] rfl<|yW<|sW 1 [1] [(9,vA (cProg p p1 c p2 c1))]<|bE N λy hy N=>xF (zAD p _ hy h h1) ?_;rintro I0 av v2 k2 le - ⟨v0,rfl,rfl,h3⟩ -;have ⟨h2,h,h1⟩:=m3 le h2 h h1;obtain⟨p3,c2,rfl⟩:=h3.form;refine yK [] [4] rfl<|zZ<|yH [5] rfl<|xY<|pE [(1,vP b 0),(3,vS (some ⟨b1,0,none⟩) ([]:List Str) 0),(4,vS p3 y c2),(5,vI 0)] ?_;obtain⟨aO,aB,aG⟩:=zB N;refine zE1 p y ([]:List Str) 0 aO aB iR h3 h h1 h2 nG nO ?_;intro bI aj p5 c4 az heq1 bf h5;subst aO;refine zS<|wV [2] rfl<|xD<|yZ 0 rfl ?_;intro bL bu hl0;have h17:=SL.of_frozen hl0 bu h5;exact xU aG (resT rfl) zM ⟨_,rfl,rfl,h17⟩
def zHN(r:(List xT)):KT:=λkk I' ag v=>
 ∃v0,ag=[]/\v=tupV [v0]/\SL I' v0 r
def sM(p:zC)(y:(List zN))(out:List xT)(i:Int):Option (List xT):=do
 if(decide (i<(y.length:Int))) then
  let x<-idx y i;let x1<-idx p.Parts x.Part;let x2<-idx y i;let x3<-idx x1.Body x2.Stmt;let x4<-idx y i;let (y2,y3,y4)<-mP p.Arrays x3 x4.Point;let aq<-app 32 out ([(xT.mk y2 y3)]:List xT);sM p y aq (W (i+1))
 else pure (id out)
 partial_fixpoint
theorem zGM(p:zC)(y:(List zN)):∀(out:List xT) (i:Int) (o:List xT),sM p y out i=some o->∀{B}{I0 I:Imm}{Q p1 c p2 c1}{b}{p3 c2 p4 c3 cs},I0.le I->(S4 I p3 y c2)->(S4 I p1 p.Arrays c)->(S4 I p2 p.Parts c1)->(RL I cs out)->NG Q->NO Q->(∀I' aj p5 c4 az,o=aj->I0.le I'->(RL I' az aj)->T 54 B Q (.exit 0) I' [hO xT (vS p5 aj c4) az] [(3,vS p5 aj c4)])->J Tryz.prog 54 B (nav (bodyOf f104) [1,1,1,0,1,0]) Q I [hO xT (vS p4 out c3) cs,hB b (cProg p p1 c p2 c1)] [(1,vP b 0),(3,vS p4 out c3),(4,vS p3 y c2),(5,vI i)]:=by
 refine sM.partial_correctness p y _ λaI ih out i o N B I0 I Q p1 c p2 c1 b p3 c2 p4 c3 cs H h3 h h1 h4 hg ho hx=>yV hg ho<|yB<|yH [15] rfl<|zG<|yE N ?_ ?_
 ·intro hc N;refine zT<|zZ<|yI<|yB ?_;obtain⟨x,ay,N⟩:=zB N;obtain⟨x1,aF,N⟩:=zB N;obtain⟨x2,aX,N⟩:=zB N;obtain⟨x3,bk,N⟩:=zB N;obtain⟨x4,bC,N⟩:=zB N;obtain⟨⟨y2,y3,y4⟩,hy6,N⟩:=zB N;refine wA [.p (vP b 0) [],.p (vS p1 p.Arrays c) [1],.p (vP b 1) [],.p (vS p2 p.Parts c1) [1],.p (vS p3 y c2) [],.p (vI i) [],.x (ePInst x),.x (ePInst x),.q (vI x.Part),.x (ePPart x1),.x (eQPart 1 x1),.x (eS x1.Body),.p (vS p3 y c2) [],.p (vI i) [],.x (ePInst x2),.x (eQInst 1 x2),.q (vI x2.Stmt),.x (ePStmt x3),.x (eVStmt x3),.p (vS p3 y c2) [],.p (vI i) [],.x (ePInst x4),.x (eQInst 2 x4),.x (eS x4.Point),.x (λI' v hx=>∃p15 c14,v=.tuple ⟨[vS p15 y2 c14,vI y3,.bool y4]⟩/\hx=[]/\(S4 I' p15 y2 c14)),.x (λI' v hx=>∃p151 c141,v=.tuple ⟨[vS p151 y2 c141,vI y3,.bool y4]⟩/\hx=[]/\(S4 I' p151 y2 c141)),.x (eS y2),.q (vI y3),.q (.bool y4),.x (eS y2),.p (vI y3) []] [[],[(0,false)],[],[(2,false)],[],[],[(4,false),(5,false)],[(6,false)],[(7,false)],[(3,false),(8,false)],[(9,false)],[(10,false)],[],[],[(12,false),(13,false)],[(14,false)],[(15,false)],[(11,false),(16,false)],[(17,false)],[],[],[(19,false),(20,false)],[(21,false)],[(22,false)],[(1,false),(18,false),(23,false)],[(24,false)],[(25,false)],[(25,false)],[(25,false)],[(26,false)],[(27,false)]] [hO xT (vS p4 out c3) cs,hB b (cProg p p1 c p2 c1)] [] [(28,false),(29,false),(30,false)] (zY [0,1]) ?_ ?_
  ·refine O4<|O2<|Ox ?_<|Ox ?_<|Oq ?_<|Ox ?_<|Ox ?_<|Ox ?_<|O2<|Ox ?_<|Ox ?_<|Oq ?_<|Ox ?_<|Ox ?_<|O2<|Ox ?_<|Ox ?_<|Ox ?_<|Ox ?_<|Ox ?_<|Ox ?_<|Oq ?_<|Oq ?_<|Ox ?_<|Op<|On
   ·intro I1 hf aa;refine yP [23,24] rfl ?_;have h3:=h3.mono aa;refine xK rfl rfl h3 ay ?_;intro ad aN ap ak;obtain⟨p6,c5,rfl,h6⟩:=pR ak;exact yM [] iR ⟨_,_,_,rfl,rfl,ap,h6⟩
   ·rintro I1 hf aa _ _ ⟨ad,p6,c5,rfl,rfl,ap,h6⟩;exact yP [25] rfl<|tD 8 [(26,.pointer (some ad))]<|yM [] iR ⟨_,_,_,rfl,rfl,ap,h6⟩
   ·rintro I1 hf aa _ _ ⟨ad1,p61,c51,rfl,rfl,ar,h61⟩;exact yP [26] rfl<|xA 0 ar [vI x.Part] (vI x.Part) rfl<|yR iR
   ·intro I1 hf aa;refine yP [22,27] rfl ?_;have h1:=h1.mono aa;refine xK rfl rfl h1 aF ?_;intro ad2 bm aS au;obtain⟨p7,c6,p8,c7,rfl,h7,h8⟩:=vU au;exact yM [] iR ⟨_,_,_,_,_,rfl,rfl,aS,h7,h8⟩
   ·rintro I1 hf aa _ _ ⟨ad2,p7,c6,p8,c7,rfl,rfl,aS,h7,h8⟩;exact yP [28] rfl<|tD 11 [(29,.pointer (some (ad2.add 1)))]<|yM [] iR ⟨_,_,_,_,_,rfl,rfl,aS,h7,h8⟩
   ·rintro I1 hf aa _ _ ⟨ad21,p71,c61,p81,c71,rfl,rfl,hat21,h71,h81⟩;exact yP [29] rfl<|xA 1 hat21 [vS p81 x1.Body c71] (vS p81 x1.Body c71) rfl<|yM [] iR ⟨_,_,rfl,rfl,h81⟩
   ·intro I1 hf aa;refine yP [31,32] rfl ?_;have h3:=h3.mono aa;refine xK rfl rfl h3 aX ?_;intro ad3 bO hat3 aZ;obtain⟨p9,c8,rfl,h9⟩:=pR aZ;exact yM [] iR ⟨_,_,_,rfl,rfl,hat3,h9⟩
   ·rintro I1 hf aa _ _ ⟨ad3,p9,c8,rfl,rfl,hat3,h9⟩;exact yP [33] rfl<|tD 16 [(34,.pointer (some (ad3.add 1)))]<|yM [] iR ⟨_,_,_,rfl,rfl,hat3,h9⟩
   ·rintro I1 hf aa _ _ ⟨ad31,p91,c81,rfl,rfl,hat31,h91⟩;exact yP [34] rfl<|xA 1 hat31 [vI x2.Stmt] (vI x2.Stmt) rfl<|yR iR
   ·rintro I1 hf aa _ _ ⟨p811,c711,rfl,rfl,h811⟩;refine yP [30,35] rfl<|xK rfl rfl h811 bk ?_;intro ad4 ccs3 hat4 bB;obtain⟨bb,c9,aR,bd,bz,bh,bj,bo,rfl,h10,h11,h12,h13⟩:=sA bB;exact yM [] iR ⟨_,_,_,_,_,_,_,_,_,rfl,rfl,hat4,h10,h11,h12,h13⟩
   ·rintro I1 hf aa _ _ ⟨ad4,bb,c9,aR,bd,bz,bh,bj,bo,rfl,rfl,hat4,h10,h11,h12,h13⟩;exact yP [36] rfl<|xA 0 hat4 (cStmt x3 bb c9 aR bd bz bh bj bo) (vA (cStmt x3 bb c9 aR bd bz bh bj bo)) rfl<|yM [] iR ⟨_,_,_,_,_,_,_,_,rfl,rfl,h10,h11,h12,h13⟩
   ·intro I1 hf aa;refine yP [38,39] rfl ?_;have h3:=h3.mono aa;refine xK rfl rfl h3 bC ?_;intro ad5 ccs4 hat5 hrep4;obtain⟨p14,bw,rfl,h14⟩:=pR hrep4;exact yM [] iR ⟨_,_,_,rfl,rfl,hat5,h14⟩
   ·rintro I1 hf aa _ _ ⟨ad5,p14,bw,rfl,rfl,hat5,h14⟩;exact yP [40] rfl<|tD 23 [(41,.pointer (some (ad5.add 2)))]<|yM [] iR ⟨_,_,_,rfl,rfl,hat5,h14⟩
   ·rintro I1 hf aa _ _ ⟨ad51,p141,c131,rfl,rfl,hat51,h141⟩;exact yP [41] rfl<|xA 2 hat51 [vS p141 x4.Point c131] (vS p141 x4.Point c131) rfl<|yM [] iR ⟨_,_,rfl,rfl,h141⟩
   ·rintro I1 hf aa _ _ ⟨rfl,rfl⟩ _ _ ⟨p101,c91,p111,c101,p121,c111,p131,c121,rfl,rfl,h101,h111,h121,h131⟩ _ _ ⟨p1411,c1311,rfl,rfl,h1411⟩;refine yP [20,37,42] rfl ?_;have H:=iS I1;have h:=h.mono aa;refine xF (zDD p.Arrays x3 x4.Point _ hy6 h h101 h111 h121 h131 h1411) ?_;rintro aT av v2 k2 aa - ⟨v010,v011,v012,rfl,rfl,h15,rfl,rfl⟩ -;have H:=H.trans aa;obtain⟨p15,c14,rfl⟩:=h15.form;exact yM [] H ⟨_,_,rfl,rfl,h15⟩
   ·rintro I1 hf aa _ _ ⟨p15,c14,rfl,rfl,h15⟩;exact yP [43] rfl<|tD 26 [(18,.tuple ⟨[vS p15 y2 c14,vI y3,.bool y4]⟩)]<|yM [] iR ⟨_,_,rfl,rfl,h15⟩
   ·rintro I1 hf aa _ _ ⟨p151,c141,rfl,rfl,h151⟩;exact yP [18] rfl<|tD 27 [(44,vS p151 y2 c141)]<|yM [] iR ⟨_,_,rfl,rfl,h151⟩
   ·rintro I1 hf aa _ _ ⟨p151,c141,rfl,rfl,h151⟩;exact yP [18] rfl<|tD 28 [(45,vI y3)]<|yR iR
   ·rintro I1 hf aa _ _ ⟨p151,c141,rfl,rfl,h151⟩;exact yP [18] rfl<|tD 29 [(46,.bool y4)]<|yR iR
   rintro I1 hf aa _ _ ⟨p1511,c1411,rfl,rfl,h1511⟩;exact yP [44] rfl<|tD 30 [(6,vS p1511 y2 c1411)]<|yM [] iR ⟨_,_,rfl,rfl,h1511⟩
  rintro aP aD _ _ ⟨rfl,rfl⟩ _ _ ⟨p15111,c14111,rfl,rfl,h15111⟩;refine yP [1,3,4,5,6,7,46] rfl ?_;have ⟨h4,h3,h,h1,H⟩:=m5 aD h4 h3 h h1 H;refine wB [] []<|zG<|zJ<|yG 4 [] [47,50] rfl<|uP [vS p15111 y2 c14111,vI y3] xT ?_;intro b2 hb2;have h18:RL aP [vS p15111 y2 c14111,vI y3] ([(xT.mk y2 y3)]:List xT):=⟨[vS p15111 y2 c14111,vI y3],_,rfl,rfl,(zH8 ⟨_,rfl,h15111⟩),rfl⟩;obtain⟨aq,hy7,N⟩:=zB N;exact qA 145 2 1 rfl rfl rfl h4 (.inr ⟨0,rfl⟩) h18 hy7 λp16 c15 aM h19=>tX (zY [1,2] (ag:=[hO xT (vS p16 aq c15) aM,hB b (cProg p p1 c p2 c1)]))<|yK [] [3] rfl<|zL<|zG<|zJ<|yK [] [5] rfl<|yU<|nD<|ih aq (W (i+1)) _ N H h3 h h1 h19 hg ho hx
 intro hc N;exact wM<|xW (zX [0] rfl (by decide))<|yS<|hx _ _ _ _ _ (zD N).symm H h4
def gR(p:zC):Option ((List xT)):=do
 let y<-uZ p;let aj<-sM p y ([]:List xT) 0;pure (id aj)
theorem zIn:∀p r,gR p=some r->∀{I:Imm}{p1 c p2 c1},(S4 I p1 p.Arrays c)->(S4 I p2 p.Parts c1)->RT 104 [vA (cProg p p1 c p2 c1)] I [] (zHN  r):=by
 intro p r N I p1 c p2 c1 h h1;unfold gR at N;refine yL func104 λB=>yF<|vK (cProg p p1 c p2 c1) ?_;intro b hb;refine wB [] []<|yW<|uP [] xT ?_;intro b1 hb1;have h2:RL I [] ([]:List xT):=rfl;refine yK [] [3] rfl<|yW<|sW 1 [1] [(10,vA (cProg p p1 c p2 c1))]<|bE N λy hy N=>xF (zAD p _ hy h h1) ?_;rintro I0 av v2 k2 le - ⟨v0,rfl,rfl,h3⟩ -;have ⟨h2,h,h1⟩:=m3 le h2 h h1;obtain⟨p3,c2,rfl⟩:=h3.form;refine yK [] [4] rfl<|zZ<|yH [5] rfl<|xY<|pE [(1,vP b 0),(3,vS (some ⟨b1,0,none⟩) ([]:List xT) 0),(4,vS p3 y c2),(5,vI 0)] ?_;obtain⟨o0,aA,aG⟩:=zB N;refine zGM p y ([]:List xT) 0 o0 aA iR h3 h h1 h2 nG nO ?_;intro bx aj p5 c4 az heq aH h5;subst o0;refine zS<|wV [2] rfl<|xD<|yZ 0 rfl ?_;intro bI bf hl0;have h20:=SL.of_frozen hl0 bf h5;exact xU aG (resT rfl) zM ⟨_,rfl,rfl,h20⟩
def kD(list:(List Int))(n0:Int)(i:Int):Option (Out Unit (Bool)):=do
 if(decide (i<(list.length:Int))) then
  let x<-idx list i;if(x==n0) then pure (.ret true)
  else kD list n0 (W (i+1))
 else pure (.done ())
 partial_fixpoint
theorem zHO(list:(List Int))(n0:Int):∀(i:Int) (o:Out Unit (Bool)),kD list n0 i=some o->∀{B}{I0 I:Imm}{Q p c},I0.le I->(S4 I p list c)->NG Q->NO Q->(∀I',o=(.done ())->I0.le I'->T 18 B Q (.exit 0) I' [] [])->(∀r I' ag m',o=(.ret r)->I0.le I'->RS Tryz.prog f142 B (zU  r) I' ag m'->T 18 B Q .ret I' ag m')->J Tryz.prog 18 B (nav (bodyOf f142) [1,0,1,0]) Q I [] [(0,vS p list c),(1,vI n0),(5,vI i)]:=by
 refine kD.partial_correctness list n0 _ λaI ih i o N B I0 I Q p c H h hg ho hx hr=>yV hg ho<|yB<|yH [9] rfl<|zG<|yE N ?_ ?_
 ·intro hc N;refine zT<|zZ<|yI<|yF<|yG 2 [] [12,13] rfl<|bE N λx hy N=>xK rfl rfl h hy ?_;intro ad aN ap ak;obtain rfl:=ak;refine xA 0 ap [vI x] (vI x) rfl<|yK [] [17] rfl<|zG<|yE N ?_ ?_
  ·intro aE N;exact wL [(4,vY)]<|xD<|zW<|zH<|zH<|hr _ _ _ _ (zD N).symm H ⟨_,_,(resT rfl),zM,⟨_,rfl,rfl,rfl⟩⟩
  intro aE N;exact zT<|zL<|zG<|zJ<|yK [] [5] rfl<|yU<|nD<|ih (W (i+1)) _ N H h hg ho hx hr
 intro hc N;exact wM<|yS<|hx _  (zD N).symm H
def dY(list:(List Int))(n0:Int):Option (Bool):=do
 match<-kD list n0 0 with
 | .ret r0=>pure r0
 | .done _=>
  pure false
theorem zEb:∀list n0 r,dY list n0=some r->∀{I:Imm}{p c},(S4 I p list c)->RT 142 [vS p list c,vI n0] I [] (zU  r):=by
 intro list n0 r N I p c h;unfold dY at N;refine yL func142 λB=>wL []<|zZ<|yH [5] rfl<|xY<|pE [(0,vS p list c),(1,vI n0),(5,vI 0)] ?_;obtain⟨o0,aA,aG⟩:=zB N;refine zHO list n0 0 o0 aA iR h nG nO ?_ ?_
 ·intro I0  heq le;subst o0;refine zS<|zEP [(4,vF)]<|zG<|yX ?_;obtain rfl:=zD aG;exact wC
 intro r0 I9 hs9 m9 aW le9 aY;subst aW;refine zW<|zH ?_;obtain rfl:=zD aG;exact fO aY
end Go.LN
