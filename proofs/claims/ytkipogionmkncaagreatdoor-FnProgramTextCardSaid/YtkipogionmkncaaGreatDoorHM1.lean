/- Helper of the proof (see the last text). -/
import Derived.Test.YtkipogionmkncaaGreatDoorLnP
import Derived.Test.YtkipogionmkncaaGreatDoorTryzShelf
set_option linter.unusedVariables false
set_option linter.unusedSimpArgs false
namespace Go.LN
open Go.Proofs Go.Proofs.Tryz
set_option maxRecDepth 20000
abbrev F9:Bool:=false
abbrev u9:It:=.p undef []
abbrev eS{α:Type}[Rp α](l:List α):Imm->Value->List HA->Prop:=λI' v hx=>∃p c,v=vS p l c/\hx=[]/\S4 I' p l c
abbrev ePExpr(x:zF):Imm->Value->List HA->Prop:=λI' v hx=>∃ad p0 c0 p1 c1 p2 c2,v=.pointer (some ad)/\hx=[]/\At I' ad (cExpr x p0 c0 p1 c1 p2 c2)/\S4 I' p0 x.Index.Coefs c0/\S4 I' p1 x.Read.Subs c1/\S4 I' p2 x.Kids c2
abbrev eVExpr(x:zF):Imm->Value->List HA->Prop:=λI' v hx=>∃p0 c0 p1 c1 p2 c2,v=vA (cExpr x p0 c0 p1 c1 p2 c2)/\hx=[]/\S4 I' p0 x.Index.Coefs c0/\S4 I' p1 x.Read.Subs c1/\S4 I' p2 x.Kids c2
abbrev ePStmt(x:zI):Imm->Value->List HA->Prop:=λI' v hx=>∃ad p0 c0 p1 c1 p2 c2 p3 c3,v=.pointer (some ad)/\hx=[]/\At I' ad (cStmt x p0 c0 p1 c1 p2 c2 p3 c3)/\S4 I' p0 x.Write.Subs c0/\S4 I' p1 x.Value.Index.Coefs c1/\S4 I' p2 x.Value.Read.Subs c2/\S4 I' p3 x.Value.Kids c3
abbrev eVStmt(x:zI):Imm->Value->List HA->Prop:=λI' v hx=>∃p0 c0 p1 c1 p2 c2 p3 c3,v=vA (cStmt x p0 c0 p1 c1 p2 c2 p3 c3)/\hx=[]/\S4 I' p0 x.Write.Subs c0/\S4 I' p1 x.Value.Index.Coefs c1/\S4 I' p2 x.Value.Read.Subs c2/\S4 I' p3 x.Value.Kids c3
abbrev ePAff(x:zA):Imm->Value->List HA->Prop:=λI' v hx=>∃ad p0 c0,v=.pointer (some ad)/\hx=[]/\At I' ad (cAff x p0 c0)/\S4 I' p0 x.Coefs c0
abbrev eVAff(x:zA):Imm->Value->List HA->Prop:=λI' v hx=>∃p0 c0,v=vA (cAff x p0 c0)/\hx=[]/\S4 I' p0 x.Coefs c0
abbrev ePArr(x:zE):Imm->Value->List HA->Prop:=λI' v hx=>∃ad p0 c0,v=.pointer (some ad)/\hx=[]/\At I' ad (cArr x p0 c0)/\S4 I' p0 x.Dims c0
abbrev eQArr(k:Nat)(x:zE):Imm->Value->List HA->Prop:=λI' v hx=>∃ad p0 c0,v=.pointer (some (ad.add k))/\hx=[]/\At I' ad (cArr x p0 c0)/\S4 I' p0 x.Dims c0
abbrev eVArr(x:zE):Imm->Value->List HA->Prop:=λI' v hx=>∃p0 c0,v=vA (cArr x p0 c0)/\hx=[]/\S4 I' p0 x.Dims c0
abbrev ePPart(x:zL):Imm->Value->List HA->Prop:=λI' v hx=>∃ad p0 c0 p1 c1,v=.pointer (some ad)/\hx=[]/\At I' ad (cPart x p0 c0 p1 c1)/\S4 I' p0 x.Nest c0/\S4 I' p1 x.Body c1
abbrev eQPart(k:Nat)(x:zL):Imm->Value->List HA->Prop:=λI' v hx=>∃ad p0 c0 p1 c1,v=.pointer (some (ad.add k))/\hx=[]/\At I' ad (cPart x p0 c0 p1 c1)/\S4 I' p0 x.Nest c0/\S4 I' p1 x.Body c1
abbrev eVPart(x:zL):Imm->Value->List HA->Prop:=λI' v hx=>∃p0 c0 p1 c1,v=vA (cPart x p0 c0 p1 c1)/\hx=[]/\S4 I' p0 x.Nest c0/\S4 I' p1 x.Body c1
abbrev ePLoop(x:zD):Imm->Value->List HA->Prop:=λI' v hx=>∃ad p0 c0 p1 c1,v=.pointer (some ad)/\hx=[]/\At I' ad (cLoop x p0 c0 p1 c1)/\S4 I' p0 x.Lo c0/\S4 I' p1 x.Hi c1
abbrev eQLoop(k:Nat)(x:zD):Imm->Value->List HA->Prop:=λI' v hx=>∃ad p0 c0 p1 c1,v=.pointer (some (ad.add k))/\hx=[]/\At I' ad (cLoop x p0 c0 p1 c1)/\S4 I' p0 x.Lo c0/\S4 I' p1 x.Hi c1
abbrev eVLoop(x:zD):Imm->Value->List HA->Prop:=λI' v hx=>∃p0 c0 p1 c1,v=vA (cLoop x p0 c0 p1 c1)/\hx=[]/\S4 I' p0 x.Lo c0/\S4 I' p1 x.Hi c1
abbrev qL0:List UInt8:=[65,91,105,93,61,40,65,91,105,93,43,123,105,125,41]
abbrev qL1:List UInt8:=[112,114,111,103,114,97,109,10]
instance {i j:Imm}{aj:List Raw2}{parts:List zL}{vN vB:Value}{nl:List zD}{bl:List zI}:Mo (LP i aj parts vN nl vB bl) i j (LP j aj parts vN nl vB bl):=⟨λh x=>x.mono h⟩
abbrev RT:=Ret Tryz.prog
def zFU(r:zP):KT:=λkk I' ah v=>
 ∃b_0 np ns,ah=[.blk b_0 ⟨[.slice np r.b.length ns,.int .i64 r.p]⟩]/\v=tupV [(.pointer (some ⟨b_0,0,none⟩))]/\SL I' (.slice np r.b.length ns) r.b
def fF(bo:(List UInt8)):Option (zP):=do
 let lC<-(do
  if(decide ((bo.length:Int)>2000)) then
   let l<-slc bo 0 2000;pure (id l)
  else
   pure (id bo)
    : Option (List UInt8))
 pure (zP.mk lC 0)
theorem zDG:∀bo r,fF bo=some r->∀{I:Imm}{p c},(S4 I p bo c)->RT 52 [vS p bo c] I [] (zFU  r):=by
 intro bo r N I p c h;unfold fF at N;refine yK func52 λB=>?_;have H:=iS I;refine vO []<|zY<|yG [5] rfl<|zK ?_;obtain⟨o0,aC,aO⟩:=zB N;refine rR (λI' ah m'=>∃(lC:List UInt8) (p1:Option Addr) (c1:Nat),o0=lC/\I.le I'/\(S4 I' p1 lC c1)/\ah=[]/\m'=[(0,vS p1 lC c1)]) ?_ ?_
 ·have H:=iS I;refine yC aC ?_ ?_
  ·intro hc N;refine zM<|zZ 1 [] [6] rfl<|bE N λl hy N=>zP5 rfl h hy ?_;intro v0 h2;obtain⟨p2,c2,rfl⟩:=h2.form;exact yI [] [0] rfl<|yP<|zQ ⟨_,_,_,(zC N).symm,H,h2,rfl,rfl⟩
  intro hc N;exact zR<|yP<|zQ ⟨_,_,_,(zC N).symm,H,h,rfl,rfl⟩
 rintro I0 au m2 ⟨lC,p1,c1,ec,le,h1,rfl,rfl⟩;subst o0;refine yV<|zZ 2 [] [9] rfl<|sF [vS p1 lC c1,vI 0] ?_;intro b hb;refine yI [] [2] rfl<|zK<|yX ?_;exact wD aO (resT rfl) (zV [0] rfl (by decide)) ⟨_,_,_,rfl,rfl,h1⟩
def zU(r:Bool):KT:=λkk I' ah v=>
 ∃v0,ah=[]/\v=tupV [v0]/\v0=.bool r
def uY(x:zE)(k0:Int):Option (Out Unit (Bool)):=do
 if(decide (k0<(x.Dims.length:Int))) then
  let t77<-(do
   let x2<-idx x.Dims k0;if(decide (x2<1)) then pure true
   else
    let x3<-idx x.Dims k0;pure (decide (x3>6))
     : Option Bool)
  if t77 then pure (.ret false)
  else uY x (W (k0+1))
 else pure (.done ())
 partial_fixpoint
theorem zEO(x:zE):∀(k0:Int) (o:Out Unit (Bool)),uY x k0=some o->∀{B}{I0 I:Imm}{Q}{ai:(List zE)}{i:Int}{p c p1 c1}{b},I0.le I->(S4 I p ai c)->(S4 I p1 x.Dims c1)->NG Q->NO Q->(∀I',o=(.done ())->I0.le I'->T 81 B Q (.exit 2) I' [] [(0,vS p ai c),(3,vI i)])->(∀r I' ah m',o=(.ret r)->I0.le I'->RS Tryz.prog f44 B (zU  r) I' ah m'->T 81 B Q .ret I' ah m')->J Tryz.prog 81 B (nav (bodyOf f44) [1,0,1,0,0,1,0,0,1,1,1,0]) Q I [hB b (cArr x p1 c1)] [(0,vS p ai c),(3,vI i),(4,vP b 0),(5,vI k0)]:=by
 refine uY.partial_correctness x _ λaQ ih k0 o N B I0 I Q ai i p c p1 c1 b H h h1 hg ho hx hr=>xD hg ho<|yA<|yB<|yI [0] [61] rfl<|zK<|yC N ?_ ?_
 ·intro l9 N;refine zR<|zY<|yM<|yA ?_;refine wZ N [hB b (cArr x p1 c1)] (λt77=>[(0,vS p ai c),(3,vI i),(4,vP b 0),(5,vI k0),(77,.bool t77)]) (λaS aE=>?_) ?_
  ·have H:=iS I;refine zM<|zZ 3 [0] [65,66] rfl ?_;obtain⟨x2,aK,N⟩:=zB aE;refine wJ rfl rfl h1 aK ?_;intro jm gn cd bO;obtain rfl:=bO;refine wC 0 cd [vI x2] (vI x2) rfl<|zZ 7 [] [70] rfl<|xW [70] N ?_ ?_
   ·intro ja N;exact wP [] [(77,vY)]<|yP<|zQ (ct N H)
   intro ja N;refine zZ 10 [0] [72,73] rfl<|bE N λx3 bc N=>wJ rfl rfl h1 bc ?_;intro ri kx ek cJ;obtain rfl:=cJ;exact wC 0 ek [vI x3] (vI x3) rfl<|yI [] [77] rfl<|yP<|zQ (ct N H)
  intro t77 aT ae bK;have ⟨h,h1,H⟩:=m3 ae h h1 H;refine zK<|yC bK ?_ ?_
  ·intro kc N;exact vO [(2,vF)]<|xH<|zS<|zG<|zG<|hr _ _ _ _ (zC N).symm H ⟨_,_,(resT rfl),zN,⟨_,rfl,rfl,rfl⟩⟩
  intro kc N;exact zR<|zO<|zK<|zM<|yI [] [5] rfl<|xB<|jH<|ih (W (k0+1)) _ N H h h1 hg ho hx hr
 intro l9 N;exact uR<|wI zN<|yP<|hx _  (zC N).symm H
def tZ(ai:(List zE))(i:Int):Option (Out Unit (Bool)):=do
 if(decide (i<(ai.length:Int))) then
  let x<-idx ai i;let nj<-(do
   if((x.Name.l.length:Int) != 1) then pure true
   else
    if(Op.bytesLess x.Name.l ([65]:List UInt8)) then pure true
    else
     if(!(Op.bytesLess x.Name.l ([68]:List UInt8)||x.Name.l==([68]:List UInt8))) then pure true
     else
      if(decide (i>0)) then
       let x1<-idx ai (W (i - 1));if(!(Op.bytesLess x1.Name.l x.Name.l)) then pure true
       else
        if(decide ((x.Dims.length:Int)<1)) then pure true
        else pure (decide ((x.Dims.length:Int)>2))
      else
       if(decide ((x.Dims.length:Int)<1)) then pure true
       else pure (decide ((x.Dims.length:Int)>2))
     : Option Bool)
  if nj then pure (.ret false)
  else
   match<-uY x 0 with
   | .ret r0=>pure (.ret r0)
   | .done _=>
    tZ ai (W (i+1))
 else pure (.done ())
 partial_fixpoint
theorem zEP(ai:(List zE)):∀(i:Int) (o:Out Unit (Bool)),tZ ai i=some o->∀{B}{I0 I:Imm}{Q p c},I0.le I->(S4 I p ai c)->NG Q->NO Q->(∀I',o=(.done ())->I0.le I'->T 81 B Q (.exit 0) I' [] [(0,vS p ai c)])->(∀r I' ah m',o=(.ret r)->I0.le I'->RS Tryz.prog f44 B (zU  r) I' ah m'->T 81 B Q .ret I' ah m')->J Tryz.prog 81 B (nav (bodyOf f44) [1,0,1,0]) Q I [] [(0,vS p ai c),(3,vI i)]:=by
 refine tZ.partial_correctness ai _ λaQ ih i o N B I0 I Q p c H h hg ho hx hr=>xD hg ho<|yA<|yG [9] rfl<|zK<|yC N ?_ ?_
 ·intro hc N;refine zR<|zY<|yM<|yB<|zZ 2 [] [12,13] rfl<|bE N λx hy N=>wJ rfl rfl h hy ?_;intro ad aR av al;obtain⟨p1,c1,rfl,h1⟩:=wN al;refine wC 0 av (cArr x p1 c1) (vA (cArr x p1 c1)) rfl<|wT [vT ([]),z0] ?_;intro b hb;refine yZ 0 (cArr x p1 c1) rfl<|zW rfl<|zY<|yA ?_;refine wZ N [hB b (cArr x p1 c1)] (λnj=>[(0,vS p ai c),(3,vI i),(4,vP b 0),(56,.bool nj)]) (λo0 aC=>?_) ?_
  ·have H:=iS I;refine zA9 (by kernel_rfl) (by kernel_rfl)<|zCQ 5 [0] [20] rfl<|zID [20] aC ?_ ?_
   ·intro aI N;exact zMD [] [(56,vY)]<|yP<|zQ (ct N H)
   intro aI N;refine zCQ 10 [0] [25] rfl<|zID [25] N ?_ ?_
   ·intro aU N;exact zMD [] [(56,vY)]<|yP<|zQ (ct N H)
   intro aU N;refine zCQ 15 [0] [30] rfl<|zID [30] N ?_ ?_
   ·intro bU N;exact zMD [] [(56,vY)]<|yP<|zQ (ct N H)
   intro bU N;refine zCQ 18 [] [33] rfl<|zID [33] N ?_ ?_
   ·intro cO N;refine zCQ 21 [] [34,36] rfl<|bE N λx1 ay N=>zFQ rfl rfl h ay ?_;intro cD bN aw ax;obtain⟨p2,c2,rfl,h2⟩:=wN ax;refine zCQ 23 [] [38] rfl<|zFP 0 aw [vT x1.Name.l] (vT x1.Name.l) rfl<|zCQ 30 [0] [45] rfl<|zID [45] N ?_ ?_
    ·intro ft N;exact zMD [] [(56,vY)]<|yP<|zQ (ct N H)
    intro ft N;refine zCQ 36 [0] [51] rfl<|zID [51] N ?_ ?_
    ·intro iU N;exact zMD [] [(56,vY)]<|yP<|zQ (ct N H)
    intro iU N;exact zMF [0] [56] rfl<|yP<|zQ (ct N H)
   intro cO N;refine zCQ 36 [0] [51] rfl<|zID [51] N ?_ ?_
   ·intro kq N;exact zMD [] [(56,vY)]<|yP<|zQ (ct N H)
   intro kq N;exact zMF [0] [56] rfl<|yP<|zQ (ct N H)
  intro nj I0 le aO;have ⟨h,h1,H⟩:=m3 le h h1 H;refine zK<|yC aO ?_ ?_
  ·intro lH N;exact vO [(2,vF)]<|xH<|zG<|zS<|zG<|zG<|hr _ _ _ _ (zC N).symm H ⟨_,_,(resT rfl),zN,⟨_,rfl,rfl,rfl⟩⟩
  intro lH N;refine zR<|uX [5] rfl<|vC<|mM [(0,vS p ai c),(3,vI i),(4,vP b 0),(5,vI 0)] ?_;obtain⟨dd,bh,aM⟩:=zB N;refine zEO x 0 dd bh iR h h1 (λ_ _ _ h=>hg _ _ _ h) (λ_ _ h=>ho _ _ h) ?_ ?_
  ·intro aY  jo aJ;subst dd;have ⟨h,H⟩:=m2 aJ h H;exact zT<|zO<|zK<|zM<|yI [] [3] rfl<|xB<|jH<|ih (W (i+1)) _ aM H h hg ho hx hr
  intro r0 I9 gm m9 aV bS aW;subst aV;exact zS<|zS<|zG<|zG<|hr _ _ _ _ (zC aM).symm (H.trans bS) aW
 intro hc N;exact uR<|yP<|hx _  (zC N).symm H
def jB(ai:(List zE)):Option (Bool):=do
 match<-tZ ai 0 with
 | .ret r0=>pure r0
 | .done _=>
  pure (decide ((ai.length:Int)<=4))
theorem zGY:∀ai r,jB ai=some r->∀{I:Imm}{p c},(S4 I p ai c)->RT 44 [vS p ai c] I [] (zU  r):=by
 intro ai r N I p c h;unfold jB at N;refine yK func44 λB=>vO []<|zY<|yG [3] rfl<|vC<|mM [(0,vS p ai c),(3,vI 0)] ?_;obtain⟨fw,cu,dc⟩:=zB N;refine zEP ai 0 fw cu iR h nG nO ?_ ?_
 ·intro bP  lI aL;subst fw;refine zT<|uX [2] rfl<|zK<|yX ?_;obtain rfl:=zC dc;exact vG
 intro r0 I9 gm m9 aV bS aW;subst aV;refine zS<|zG ?_;obtain rfl:=zC dc;exact fO aW
def tH(n0:Int)(cq:Int):Option (Bool):=do
 let t4<-(do
  if(decide (n0>=(W (0 - cq)))) then pure (decide (n0<=cq))
  else
   pure false
    : Option Bool)
 pure (id t4)
theorem zAb:∀n0 cq r,tH n0 cq=some r->∀{I:Imm} ,RT 168 [vI n0,vI cq] I [] (zU  r):=by
 intro n0 cq r N I;unfold tH at N;refine yK func168 λB=>?_;have H:=iS I;refine vO []<|zK<|yA ?_;refine wZ N [] (λt4=>[(4,.bool t4)]) (λo0 aC=>?_) ?_
 ·have H:=iS I;refine zM<|zZ 5 [] [9] rfl<|xW [9] aC ?_ ?_
  ·intro hc N;exact yI [] [4] rfl<|yP<|zQ (ct N H)
  intro hc N;exact wP [] [(4,vF)]<|yP<|zQ (ct N H)
 intro t4 I0 le aO;refine zK<|yX ?_;obtain rfl:=zC aO;exact vG
def uD(a0:zA)(i:Int):Option (Out Unit (Bool)):=do
 if(decide (i<(a0.Coefs.length:Int))) then
  let x<-idx a0.Coefs i;let y<-tH x 9;if(!y) then pure (.ret false)
  else uD a0 (W (i+1))
 else pure (.done ())
 partial_fixpoint
theorem zCh(a0:zA):∀(i:Int) (o:Out Unit (Bool)),uD a0 i=some o->∀{B}{I0 I:Imm}{Q p c}{b},I0.le I->(S4 I p a0.Coefs c)->NG Q->NO Q->(∀I',o=(.done ())->I0.le I'->T 27 B Q (.exit 0) I' [hB b (cAff a0 p c)] [(1,vP b 0)])->(∀r I' ah m',o=(.ret r)->I0.le I'->RS Tryz.prog f116 B (zU  r) I' ah m'->T 27 B Q .ret I' ah m')->J Tryz.prog 27 B (nav (bodyOf f116) [1,0,1,0]) Q I [hB b (cAff a0 p c)] [(1,vP b 0),(3,vI i)]:=by
 refine uD.partial_correctness a0 _ λaQ ih i o N B I0 I Q p c b H h hg ho hx hr=>xD hg ho<|yA<|yB<|yI [0] [8] rfl<|zK<|yC N ?_ ?_
 ·intro hc N;refine zR<|zY<|yM<|yB<|zZ 3 [0] [12,13] rfl<|bE N λx hy N=>wJ rfl rfl h hy ?_;intro ad aR av al;obtain rfl:=al;refine wC 0 av [vI x] (vI x) rfl<|bE N λy ay N=>uU (zAb x 9 _ ay ) ?_;intro I0 le;have ⟨h,H⟩:=m2 le h H;refine yI [] [17] rfl<|zK<|yC N ?_ ?_
  ·intro aI N;exact vO [(2,vF)]<|xH<|zS<|zG<|zG<|hr _ _ _ _ (zC N).symm H ⟨_,_,(resT rfl),zN,⟨_,rfl,rfl,rfl⟩⟩
  intro aI N;exact zR<|zO<|zK<|zM<|yI [] [3] rfl<|xB<|jH<|ih (W (i+1)) _ N H h hg ho hx hr
 intro hc N;exact uR<|yP<|hx _  (zC N).symm H
def sA(a0:zA):Option (Bool):=do
 match<-uD a0 0 with
 | .ret r0=>pure r0
 | .done _=>
  let t2<-(do
   if((a0.Coefs.length:Int)==4) then
    let y1<-tH a0.Const 99;pure (id y1)
   else
    pure false
     : Option Bool)
  pure (id t2)
theorem fD:∀a0 r,sA a0=some r->∀{I:Imm}{p c},(S4 I p a0.Coefs c)->RT 116 [vA (cAff a0 p c)] I [] (zU  r):=by
 intro a0 r N I p c h;unfold sA at N;refine yK func116 λB=>?_;have H:=iS I;refine yB<|sF (cAff a0 p c) ?_;intro b hb;refine wP [] []<|zY<|yG [3] rfl<|vC<|mM [(1,vP b 0),(3,vI 0)] ?_;obtain⟨o0,aC,aM⟩:=zB N;refine zCh a0 0 o0 aC iR h nG nO ?_ ?_
 ·intro aT  ec ae;subst o0;have H:=H.trans ae;refine zT<|zK<|yA ?_;refine wZ aM [] (λt2=>[(2,.bool t2)]) (λaS aE=>?_) ?_
  ·have H:=iS aT;refine zM<|zZ 5 [0] [22] rfl<|xW [22] aE ?_ ?_
   ·intro aU N;refine zZ 7 [0] [24] rfl<|bE N λy1 aK N=>uU (zAb a0.Const 99 _ aK ) ?_;intro bP aJ;have H:=H.trans aJ;exact yI [] [2] rfl<|wI zN<|yP<|zQ (ct N H)
   intro aU N;exact wP [] [(2,vF)]<|wI zN<|yP<|zQ (ct N H)
  intro t2 aY aL aO;refine zK<|yX ?_;obtain rfl:=zC aO;exact vG
 intro r0 I9 gm m9 aV bS aW;subst aV;refine zS<|zG ?_;obtain rfl:=zC aM;exact fO aW
def xI(r:Int):KT:=λkk I' ah v=>
 ∃v0,ah=[]/\v=tupV [v0]/\v0=.int .i64 r
def sY(a0:zA)(n0:Int)(i:Int):Option (Int):=do
 if(decide (i<(a0.Coefs.length:Int))) then
  let x<-idx a0.Coefs i;let lX<-(do
   if(x != 0) then pure (W (i+1))
   else
    pure (id n0)
     : Option Int)
  sY a0 lX (W (i+1))
 else pure (id n0)
 partial_fixpoint
theorem zEg(a0:zA):∀(n0:Int) (i:Int) (o:Int),sY a0 n0 i=some o->∀{B}{I0 I:Imm}{Q p c}{b},I0.le I->(S4 I p a0.Coefs c)->NG Q->NO Q->(∀I' ci,o=ci->I0.le I'->T 21 B Q (.exit 0) I' [] [(3,vI ci)])->J Tryz.prog 21 B (nav (bodyOf f117) [1,1,0,1,0]) Q I [hB b (cAff a0 p c)] [(1,vP b 0),(3,vI n0),(4,vI i)]:=by
 refine sY.partial_correctness a0 _ λaQ ih n0 i o N B I0 I Q p c b H h hg ho hx=>xD hg ho<|yA<|yB<|yI [0] [9] rfl<|zK<|yC N ?_ ?_
 ·intro hc N;refine zR<|zY<|yM<|yB<|zZ 3 [0] [13,14] rfl<|bE N λx hy N=>wJ rfl rfl h hy ?_;intro ad aR av al;obtain rfl:=al;refine wC 0 av [vI x] (vI x) rfl<|yI [] [17] rfl<|zK ?_;refine wZ N [hB b (cAff a0 p c)] (λlX=>[(1,vP b 0),(3,vI lX),(4,vI i)]) (λo0 aC=>?_) ?_
  ·have H:=iS I;refine yC aC ?_ ?_
   ·intro aI N;exact zM<|yI [] [3] rfl<|yP<|zQ (ct N H)
   intro aI N;exact zR<|yP<|zQ (ct N H)
  intro lX I0 le aO;have ⟨h,H⟩:=m2 le h H;exact zO<|zK<|zM<|yI [] [4] rfl<|xB<|jH<|ih lX (W (i+1)) _ aO H h hg ho hx
 intro hc N;exact uR<|wI zN<|yP<|hx _ _ (zC N).symm H
def nK(a0:zA):Option (Int):=do
 let ci<-sY a0 0 0;pure (id ci)
theorem zAu:∀a0 r,nK a0=some r->∀{I:Imm}{p c},(S4 I p a0.Coefs c)->RT 117 [vA (cAff a0 p c)] I [] (xI  r):=by
 intro a0 r N I p c h;unfold nK at N;refine yK func117 λB=>yB<|sF (cAff a0 p c) ?_;intro b hb;refine wP [] []<|uX [3] rfl<|zY<|yG [4] rfl<|vC<|mM [(1,vP b 0),(3,vI 0),(4,vI 0)] ?_;obtain⟨aS,aE,aM⟩:=zB N;refine zEg a0 0 0 aS aE iR h nG nO ?_;intro aT ci ca ae;subst aS;refine zT<|uX [2] rfl<|zK<|yX ?_;obtain rfl:=zC aM;exact vG
def sB(a0:zJ)(aa:Int)(i:Int):Option (Out Unit (Bool)):=do
 if(decide (i<(a0.Subs.length:Int))) then
  let t29<-(do
   let x<-idx a0.Subs i;let y<-sA x;if(!y) then pure true
   else
    let x1<-idx a0.Subs i;let y1<-nK x1;pure (decide (y1>aa))
     : Option Bool)
  if t29 then pure (.ret false)
  else sB a0 aa (W (i+1))
 else pure (.done ())
 partial_fixpoint
theorem zEQ(a0:zJ)(aa:Int):∀(i:Int) (o:Out Unit (Bool)),sB a0 aa i=some o->∀{B}{I0 I:Imm}{Q p c}{b},I0.le I->(S4 I p a0.Subs c)->NG Q->NO Q->(∀I',o=(.done ())->I0.le I'->T 56 B Q (.exit 0) I' [hB b (cAccess a0 p c)] [(2,vP b 0)])->(∀r I' ah m',o=(.ret r)->I0.le I'->RS Tryz.prog f131 B (zU  r) I' ah m'->T 56 B Q .ret I' ah m')->J Tryz.prog 56 B (nav (bodyOf f131) [1,0,1,0]) Q I [hB b (cAccess a0 p c)] [(1,vI aa),(2,vP b 0),(5,vI i)]:=by
 refine sB.partial_correctness a0 aa _ λaQ ih i o N B I0 I Q p c b H h hg ho hx hr=>xD hg ho<|yA<|yB<|yI [0] [10] rfl<|zK<|yC N ?_ ?_
 ·intro hc N;refine zR<|zY<|yM<|yA ?_;refine wZ N [hB b (cAccess a0 p c)] (λt29=>[(1,vI aa),(2,vP b 0),(5,vI i),(29,.bool t29)]) (λo0 aC=>?_) ?_
  ·have H:=iS I;refine zM<|zZ 3 [0] [14,15] rfl ?_;obtain⟨x,hy,N⟩:=zB aC;refine wJ rfl rfl h hy ?_;intro ad aR av al;obtain⟨p1,c1,rfl,h1⟩:=yF al;refine wC 0 av (cAff x p1 c1) (vA (cAff x p1 c1)) rfl<|bE N λy ay N=>uU (fD x _ ay h1) ?_;intro aT le;have ⟨h,H⟩:=m2 le h H;refine zZ 8 [] [20] rfl<|xW [20] N ?_ ?_
   ·intro aI N;exact wP [] [(29,vY)]<|yP<|zQ (ct N H)
   intro aI N;refine zZ 11 [0] [22,23] rfl<|bE N λx1 aK N=>wJ rfl rfl h aK ?_;intro cD bN aw ax;obtain⟨p2,c2,rfl,h3⟩:=yF ax;refine wC 0 aw (cAff x1 p2 c2) (vA (cAff x1 p2 c2)) rfl<|bE N λy1 bc N=>dU (zAu x1 _ bc h3) ?_;intro aY ae;have H:=H.trans ae;exact yI [] [29] rfl<|yP<|zQ (ct N H)
  intro t29 I0 aJ aO;have ⟨h,H⟩:=m2 aJ h H;refine zK<|yC aO ?_ ?_
  ·intro aU N;exact vO [(4,vF)]<|xH<|zS<|zG<|zG<|hr _ _ _ _ (zC N).symm H ⟨_,_,(resT rfl),zN,⟨_,rfl,rfl,rfl⟩⟩
  intro aU N;exact zR<|zO<|zK<|zM<|yI [] [5] rfl<|xB<|jH<|ih (W (i+1)) _ N H h hg ho hx hr
 intro hc N;exact uR<|yP<|hx _  (zC N).symm H
def mF(a0:zJ)(aa:Int):Option (Bool):=do
 match<-sB a0 aa 0 with
 | .ret r0=>pure r0
 | .done _=>
  let t4<-(do
   if((a0.Array.l.length:Int)==1) then
    if(!(Op.bytesLess a0.Array.l ([65]:List UInt8))) then
     if(Op.bytesLess a0.Array.l ([68]:List UInt8)||a0.Array.l==([68]:List UInt8)) then
      if(decide ((a0.Subs.length:Int)>=1)) then pure (decide ((a0.Subs.length:Int)<=2))
      else pure false
     else pure false
    else pure false
   else
    pure false
     : Option Bool)
  pure (id t4)
theorem zCS:∀a0 aa r,mF a0 aa=some r->∀{I:Imm}{p c},(S4 I p a0.Subs c)->RT 131 [vA (cAccess a0 p c),vI aa] I [] (zU  r):=by
 intro a0 aa r N I p c h;unfold mF at N;refine yK func131 λB=>?_;have H:=iS I;refine yB<|sF (cAccess a0 p c) ?_;intro b hb;refine wP [] []<|zY<|yG [5] rfl<|vC<|mM [(1,vI aa),(2,vP b 0),(5,vI 0)] ?_;obtain⟨aS,aE,aM⟩:=zB N;refine zEQ a0 aa 0 aS aE iR h nG nO ?_ ?_
 ·intro bP  ca aL;subst aS;have H:=H.trans aL;refine zT<|zK<|yA ?_;refine wZ aM [] (λt4=>[(4,.bool t4)]) (λdd bh=>?_) ?_
  ·have H:=iS bP;refine zM<|zZ 5 [0] [34] rfl<|xW [34] bh ?_ ?_
   ·intro bU N;refine zZ 10 [0] [39] rfl<|xW [39] N ?_ ?_
    ·intro cO N;refine zZ 15 [0] [44] rfl<|xW [44] N ?_ ?_
     ·intro ft N;refine zZ 21 [0] [50] rfl<|xW [50] N ?_ ?_
      ·intro iU N;exact yI [0] [4] rfl<|wI zN<|yP<|zQ (ct N H)
      intro iU N;exact wP [] [(4,vF)]<|wI zN<|yP<|zQ (ct N H)
     intro ft N;exact wP [] [(4,vF)]<|wI zN<|yP<|zQ (ct N H)
    intro cO N;exact wP [] [(4,vF)]<|wI zN<|yP<|zQ (ct N H)
   intro bU N;exact wP [] [(4,vF)]<|wI zN<|yP<|zQ (ct N H)
  intro t4 cI bb bK;refine zK<|yX ?_;obtain rfl:=zC bK;exact vG
 intro r0 I9 gm m9 aV bS aW;subst aV;refine zS<|zG ?_;obtain rfl:=zC aM;exact fO aW
def gT(cv:Int):Option (Int):=do
 let t4<-(do
  if(cv==1) then pure (cv==1)
  else
   let wq<-(do
    if(cv==2) then pure (cv==2)
    else
     pure (cv==3)
      : Option Bool)
   pure (id wq)
    : Option Bool)
 if t4 then pure (id 0)
 else
  let t8<-(do
   if(cv==4) then pure (cv==4)
   else
    let wt<-(do
     if(cv==5) then pure (cv==5)
     else
      pure (cv==6)
       : Option Bool)
    pure (id wt)
     : Option Bool)
  if t8 then pure (id 2)
  else pure (-1)
theorem zD3:∀cv r,gT cv=some r->∀{I:Imm} ,RT 189 [vI cv] I [] (xI  r):=by
 intro cv r N I;unfold gT at N;refine yK func189 λB=>?_;have H:=iS I;refine vO []<|zY<|yG [3] rfl<|vC<|yA<|yG [4] rfl<|zK ?_;refine wZ N [] (λt4=>[(3,vI cv),(4,.bool t4)]) (λo0 aC=>?_) ?_
 ·have H:=iS I;refine yC aC ?_ ?_
  ·intro hc N;exact zR<|yP<|zQ (ct N H)
  intro hc N;refine yG [4] rfl<|zK ?_;refine wZ N [] (λwq=>[(3,vI cv),(4,.bool wq)]) (λaS aE=>?_) ?_
  ·have H:=iS I;refine yC aE ?_ ?_
   ·intro aI N;exact zR<|yP<|zQ (ct N H)
   intro aI N;exact zM<|yI [] [4] rfl<|yP<|zQ (ct N H)
  intro wq aT le bK;have H:=H.trans le;exact yP<|zQ (ct bK H)
 intro t4 I0 ae aO;have H:=H.trans ae;refine zK<|yC aO ?_ ?_
 ·intro aU N;refine yG [2] rfl<|xH<|zS<|zG ?_;obtain rfl:=zC N;exact vG
 intro aU N;refine yA<|yG [8] rfl<|zK ?_;refine wZ N [] (λt8=>[(8,.bool t8)]) (λdd bh=>?_) ?_
 ·have H:=iS I0;refine yC bh ?_ ?_
  ·intro bU N;exact zR<|yP<|zQ (ct N H)
  intro bU N;refine yG [8] rfl<|zK ?_;refine wZ N [] (λwt=>[(8,.bool wt)]) (λfw cu=>?_) ?_
  ·have H:=iS I0;refine yC cu ?_ ?_
   ·intro cO N;exact zR<|yP<|zQ (ct N H)
   intro cO N;exact zM<|yI [] [8] rfl<|yP<|zQ (ct N H)
  intro wt bP aJ ff;have H:=H.trans aJ;exact yP<|zQ (ct ff H)
 intro t8 aY aL d6;refine zK<|yC d6 ?_ ?_
 ·intro ft N;refine yG [2] rfl<|xH<|zS<|zG ?_;obtain rfl:=zC N;exact vG
 intro ft N;refine zR<|zO<|uX [2] rfl<|zK<|yX ?_;obtain rfl:=zC N;exact vG
def nL(a0:zJ):Option (Bool):=do
 let t2<-(do
  if(a0.Array.l==([]:List UInt8)) then pure ((a0.Subs.length:Int)==0)
  else
   pure false
    : Option Bool)
 pure (id t2)
theorem zAv:∀a0 r,nL a0=some r->∀{I:Imm}{p c},(S4 I p a0.Subs c)->RT 229 [vA (cAccess a0 p c)] I [] (zU  r):=by
 intro a0 r N I p c h;unfold nL at N;refine yK func229 λB=>?_;have H:=iS I;refine yB<|sF (cAccess a0 p c) ?_;intro b hb;refine wP [] []<|zK<|yA ?_;refine wZ N [] (λt2=>[(2,.bool t2)]) (λo0 aC=>?_) ?_
 ·have H:=iS I;refine zM<|zZ 4 [0] [6] rfl<|xW [6] aC ?_ ?_
  ·intro hc N;exact yI [0] [2] rfl<|wI zN<|yP<|zQ (ct N H)
  intro hc N;exact wP [] [(2,vF)]<|wI zN<|yP<|zQ (ct N H)
 intro t2 I0 le aO;refine zK<|yX ?_;obtain rfl:=zC aO;exact vG
def kI(a0:zA):Option (Bool):=do
 let t2<-(do
  if((a0.Coefs.length:Int)==0) then pure (a0.Const==0)
  else
   pure false
    : Option Bool)
 pure (id t2)
theorem zBW:∀a0 r,kI a0=some r->∀{I:Imm}{p c},(S4 I p a0.Coefs c)->RT 230 [vA (cAff a0 p c)] I [] (zU  r):=by
 intro a0 r N I p c h;unfold kI at N;refine yK func230 λB=>?_;have H:=iS I;refine yB<|sF (cAff a0 p c) ?_;intro b hb;refine wP [] []<|zK<|yA ?_;refine wZ N [] (λt2=>[(2,.bool t2)]) (λo0 aC=>?_) ?_
 ·have H:=iS I;refine zM<|zZ 5 [0] [7] rfl<|xW [7] aC ?_ ?_
  ·intro hc N;exact yI [0] [2] rfl<|wI zN<|yP<|zQ (ct N H)
  intro hc N;exact wP [] [(2,vF)]<|wI zN<|yP<|zQ (ct N H)
 intro t2 I0 le aO;refine zK<|yX ?_;obtain rfl:=zC aO;exact vG
def fW(e0:zF)(aa:Int):Option (Bool):=do
 if(e0.Kind==2) then
  let t4<-(do
   if(e0.Num==0) then
    let y<-nL e0.Read;if y then
     let y1<-sA e0.Index;if y1 then
      let y2<-nK e0.Index;pure (decide (y2<=aa))
     else pure false
    else pure false
   else
    pure false
     : Option Bool)
  pure (id t4)
 else
  if(e0.Kind==3) then
   let wq<-(do
    if(e0.Num==0) then
     let y3<-kI e0.Index;if y3 then
      let y4<-mF e0.Read aa;pure (id y4)
     else pure false
    else
     pure false
      : Option Bool)
   pure (id wq)
  else
   if(e0.Kind==1) then
    let q7<-(do
     if(decide (e0.Num>=0)) then
      if(decide (e0.Num<=99)) then
       let y5<-kI e0.Index;if y5 then
        let y6<-nL e0.Read;pure (id y6)
       else pure false
      else pure false
     else
      pure false
       : Option Bool)
    pure (id q7)
   else
    let lQ<-(do
     if(e0.Num==0) then
      let y7<-kI e0.Index;if y7 then
       let y8<-nL e0.Read;pure (id y8)
      else pure false
     else
      pure false
       : Option Bool)
    pure (id lQ)
theorem zJH:∀e0 aa r,fW e0 aa=some r->∀{I:Imm}{p c p1 c1 p2 c2},(S4 I p e0.Index.Coefs c)->(S4 I p1 e0.Read.Subs c1)->(S4 I p2 e0.Kids c2)->RT 190 [vA (cExpr e0 p c p1 c1 p2 c2),vI aa] I [] (zU  r):=by
 intro e0 aa r N I p c p1 c1 p2 c2 h h1 h2;unfold fW at N;refine yK func190 λB=>?_;have H:=iS I;refine yB<|sF (cExpr e0 p c p1 c1 p2 c2) ?_;intro b hb;refine wP [] []<|zY<|yB<|yI [0] [7] rfl<|zK<|yC N ?_ ?_
 ·intro hc N;refine yA ?_;refine wZ N [] (λt4=>[(4,.bool t4)]) (λo0 aC=>?_) ?_
  ·have H:=iS I;refine zM<|zZ 4 [0] [11] rfl<|xW [11] aC ?_ ?_
   ·intro aI N;refine qO 6 [0] [(13,vA (cAccess e0.Read p1 c1))]<|bE N λy hy N=>uU (zAv e0.Read _ hy h1) ?_;intro aT le;have ⟨h,H⟩:=m2 le h H;refine zZ 9 [] [16] rfl<|xW [16] N ?_ ?_
    ·intro aU N;refine qO 11 [0] [(18,vA (cAff e0.Index p c))]<|bE N λy1 ay N=>uU (fD e0.Index _ ay h) ?_;intro aY ae;have ⟨h,H⟩:=m2 ae h H;refine zZ 14 [] [21] rfl<|xW [21] N ?_ ?_
     ·intro bU N;refine qO 16 [0] [(23,vA (cAff e0.Index p c))]<|bE N λy2 aK N=>dU (zAu e0.Index _ aK h) ?_;intro bP aJ;have H:=H.trans aJ;exact yI [] [4] rfl<|wI zN<|yP<|zQ (ct N H)
     intro bU N;exact wP [] [(4,vF)]<|wI zN<|yP<|zQ (ct N H)
    intro aU N;exact wP [] [(4,vF)]<|wI zN<|yP<|zQ (ct N H)
   intro aI N;exact wP [] [(4,vF)]<|wI zN<|yP<|zQ (ct N H)
  intro t4 I0 aL aO;refine xH<|zG ?_;obtain rfl:=zC aO;exact vG
 intro hc N;refine zR<|zY<|yB<|yI [0] [30] rfl<|zK<|yC N ?_ ?_
 ·intro cO N;refine yA ?_;refine wZ N [] (λwq=>[(4,.bool wq)]) (λaS aE=>?_) ?_
  ·have H:=iS I;refine zM<|zZ 4 [0] [34] rfl<|xW [34] aE ?_ ?_
   ·intro ft N;refine qO 6 [0] [(36,vA (cAff e0.Index p c))]<|bE N λy3 bc N=>uU (zBW e0.Index _ bc h) ?_;intro dw bb;have ⟨h1,H⟩:=m2 bb h1 H;refine zZ 9 [] [39] rfl<|xW [39] N ?_ ?_
    ·intro iU N;refine qO 12 [0] [(41,vA (cAccess e0.Read p1 c1)),(42,vI aa)]<|bE N λy4 bL N=>uU (zCS e0.Read aa _ bL h1) ?_;intro gk bI;have H:=H.trans bI;exact yI [] [4] rfl<|wI zN<|yP<|zQ (ct N H)
    intro iU N;exact wP [] [(4,vF)]<|wI zN<|yP<|zQ (ct N H)
   intro ft N;exact wP [] [(4,vF)]<|wI zN<|yP<|zQ (ct N H)
  intro wq cI bJ bK;refine xH<|zG ?_;obtain rfl:=zC bK;exact vG
 intro cO N;refine zR<|zY<|yB<|yI [0] [47] rfl<|zK<|yC N ?_ ?_
 ·intro kq N;refine yA ?_;refine wZ N [] (λq7=>[(4,.bool q7)]) (λdd bh=>?_) ?_
  ·have H:=iS I;refine zM<|zZ 4 [0] [51] rfl<|xW [51] bh ?_ ?_
   ·intro lH N;refine zZ 9 [0] [56] rfl<|xW [56] N ?_ ?_
    ·intro l9 N;refine qO 11 [0] [(58,vA (cAff e0.Index p c))]<|bE N λy5 bX N=>uU (zBW e0.Index _ bX h) ?_;intro iE bZ;have ⟨h1,H⟩:=m2 bZ h1 H;refine zZ 14 [] [61] rfl<|xW [61] N ?_ ?_
     ·intro ja N;refine qO 16 [0] [(63,vA (cAccess e0.Read p1 c1))]<|bE N λy6 cx N=>uU (zAv e0.Read _ cx h1) ?_;intro jx dt;have H:=H.trans dt;exact yI [] [4] rfl<|wI zN<|yP<|zQ (ct N H)
     intro ja N;exact wP [] [(4,vF)]<|wI zN<|yP<|zQ (ct N H)
    intro l9 N;exact wP [] [(4,vF)]<|wI zN<|yP<|zQ (ct N H)
   intro lH N;exact wP [] [(4,vF)]<|wI zN<|yP<|zQ (ct N H)
  intro q7 ij bS d6;refine xH<|zG ?_;obtain rfl:=zC d6;exact vG
 intro kq N;refine zR<|zK<|yA ?_;refine wZ N [] (λlQ=>[(4,.bool lQ)]) (λfw cu=>?_) ?_
 ·have H:=iS I;refine zM<|zZ 4 [0] [69] rfl<|xW [69] cu ?_ ?_
  ·intro kc N;refine qO 6 [0] [(71,vA (cAff e0.Index p c))]<|bE N λy7 cV N=>uU (zBW e0.Index _ cV h) ?_;intro hJ cb;have ⟨h1,H⟩:=m2 cb h1 H;refine zZ 9 [] [74] rfl<|xW [74] N ?_ ?_
   ·intro nz N;refine qO 11 [0] [(76,vA (cAccess e0.Read p1 c1))]<|bE N λy8 eo N=>uU (zAv e0.Read _ eo h1) ?_;intro fq cA;have H:=H.trans cA;exact yI [] [4] rfl<|wI zN<|yP<|zQ (ct N H)
   intro nz N;exact wP [] [(4,vF)]<|wI zN<|yP<|zQ (ct N H)
  intro kc N;exact wP [] [(4,vF)]<|wI zN<|yP<|zQ (ct N H)
 intro lQ eg d7 ff;refine zK<|yX ?_;obtain rfl:=zC ff;exact vG
mutual
def rU(e0:zF)(aa:Int)(ak:Int):Option (Bool):=do
 let q6<-(do
  if(decide (ak<1)) then pure true
  else
   let y<-gT e0.Kind;if(y != (e0.Kids.length:Int)) then pure true
   else
    let y1<-fW e0 aa;pure (!y1)
    : Option Bool)
 if q6 then pure false
 else
  match<-tJ (same e0) (same aa) (same ak) (same 0) with
  | .ret r0=>pure r0
  | .done _=>
   pure true
 partial_fixpoint
def tJ(e0:zF)(aa:Int)(ak:Int)(i:Int):Option (Out Unit (Bool)):=do
 if(decide (i<(e0.Kids.length:Int))) then
  let x<-idx e0.Kids i;let y2<-rU (same x) (same aa) (W (ak - 1));if(!y2) then pure (.ret false)
  else tJ (same e0) (same aa) (same ak) (W (i+1))
 else pure (.done ())
 partial_fixpoint
end
theorem zGZ:(∀(e0:zF) (aa:Int) (ak:Int) r,rU e0 aa ak=some r->∀{I:Imm}{p c p1 c1 p2 c2},(S4 I p e0.Index.Coefs c)->(S4 I p1 e0.Read.Subs c1)->(S4 I p2 e0.Kids c2)->RT 132 [vA (cExpr e0 p c p1 c1 p2 c2),vI aa,vI ak] I [] (zU  r))/\(∀(e0:zF) (aa:Int) (ak:Int) (i:Int) o,tJ e0 aa ak i=some o->∀{B}{I0 I:Imm}{Q p c p1 c1 p2 c2}{b},I0.le I->(S4 I p e0.Index.Coefs c)->(S4 I p1 e0.Read.Subs c1)->(S4 I p2 e0.Kids c2)->NG Q->NO Q->(∀I',o=(.done ())->I0.le I'->T 42 B Q (.exit 0) I' [] [])->(∀r I' ah m',o=(.ret r)->I0.le I'->RS Tryz.prog f132 B (zU  r) I' ah m'->T 42 B Q .ret I' ah m')->J Tryz.prog 42 B (nav (bodyOf f132) [1,1,0,1,0]) Q I [hB b (cExpr e0 p c p1 c1 p2 c2)] [(1,vI aa),(2,vI ak),(3,vP b 0),(7,vI i)]):=by
 refine rU.mutual_partial_correctness _ _ ?_ ?_
 ·intro jk ih_spec_l3Shape_l1 e0 aa ak r N I p c p1 c1 p2 c2 h h1 h2;refine yK func132 λB=>?_;have H:=iS I;refine yB<|sF (cExpr e0 p c p1 c1 p2 c2) ?_;intro b hb;refine wP [] []<|zY<|yA ?_;refine wZ N [hB b (cExpr e0 p c p1 c1 p2 c2)] (λq6=>[(1,vI aa),(2,vI ak),(3,vP b 0),(24,.bool q6)]) (λo0 aC=>?_) ?_
  ·have H:=iS I;cases hc:(decide (ak<1)) with
   | true=>
    have nw:=tI hc aC;refine vK [.p (vI ak) [],.q vY,.q vY,u9,u9,u9,u9,u9,u9,u9,.p vY [],.p vY [],u9,u9,u9,u9,.p vY []] [[],[(0,F9)],[(1,F9)],[(2,F9)],[(2,F9),(3,F9)],[(2,F9),(4,F9)],[(2,F9)],[(2,F9),(6,F9)],[(2,F9),(7,F9)],[(2,F9),(5,F9),(8,F9)],[(2,F9),(9,F9)],[(10,F9)],[(11,F9)],[(11,F9)],[(11,F9),(12,F9),(13,F9)],[(11,F9),(14,F9)],[(11,F9),(15,F9)]] [hB b (cExpr e0 p c p1 c1 p2 c2)] [] [(16,F9)] (zX [0]) ?_ ?_
    ·refine Op<|Oq ?_<|Oq ?_<|O4<|O4<|O4<|O2<|On
     ·intro I1 hf ae;refine yW [8] rfl<|pQ 2 [(9,.bool (decide (ak<1)))] ?_;rw[hc];exact yQ iR
     intro I1 hf ae;exact I_h [(9,vY)]<|pQ 3 [(10,vY)]<|yQ iR
    intro aT le;refine yW [1,2,3,24] rfl ?_;have H:=H.trans le;exact zW rfl<|yP<|zQ (ct nw H)
   | false=>
    have lc:=uQ hc aC;obtain⟨y,hy,N⟩:=zB lc;cases aI:(y != (e0.Kids.length:Int)) with
    | true=>
     have nx:=tI aI N;refine vK [.p (vI ak) [],.q vF,.q vF,.p (vP b 0) [],.p (vI e0.Kind) [0],.q (vI y),.p (vP b 6) [],.p (vS p2 e0.Kids c2) [0],.p (vI (e0.Kids.length:Int)) [],.q vY,.q vY,.q vY,u9,u9,u9,u9,.p vY []] [[],[(0,F9)],[(1,F9)],[(2,F9)],[(2,F9),(3,F9)],[(2,F9),(4,F9)],[(2,F9)],[(2,F9),(6,F9)],[(2,F9),(7,F9)],[(2,F9),(5,F9),(8,F9)],[(2,F9),(9,F9)],[(10,F9)],[(11,F9)],[(11,F9)],[(11,F9),(12,F9),(13,F9)],[(11,F9),(14,F9)],[(11,F9),(15,F9)]] [hB b (cExpr e0 p c p1 c1 p2 c2)] [] [(16,F9)] (zX [0]) ?_ ?_
     ·refine Op<|Oq ?_<|Oq ?_<|O2<|Oq ?_<|O3<|Oq ?_<|Oq ?_<|Oq ?_<|O4<|Op<|On
      ·intro I1 hf ae;refine yW [8] rfl<|pQ 2 [(9,.bool (decide (ak<1)))] ?_;rw[hc];exact yQ iR
      ·intro I1 hf ae;exact I_h [(9,vF)]<|pQ 3 [(10,vF)]<|yQ iR
      ·intro I1 hf ae;refine yW [10,12] rfl ?_;have H:=iS I1;refine dU (zD3 e0.Kind _ hy ) ?_;intro aY ae;have H:=H.trans ae;exact yQ H
      ·intro I1 hf ae;refine yW [10,13,16] rfl<|pQ 10 [(17,.bool (y != (e0.Kids.length:Int)))] ?_;rw[aI];exact yQ iR
      ·intro I1 hf ae;exact yW [10,17] rfl<|pQ 11 [(18,vY)]<|yQ iR
      intro I1 hf ae;exact I_h [(18,vY)]<|pQ 12 [(19,vY)]<|yQ iR
     intro bP aJ;refine yW [1,2,3,24] rfl ?_;have H:=H.trans aJ;exact zW rfl<|yP<|zQ (ct nx H)
    | false=>
     have pf:=uQ aI N;obtain⟨y1,ay,N⟩:=zB pf;refine vK [.p (vI ak) [],.q vF,.q vF,.p (vP b 0) [],.p (vI e0.Kind) [0],.q (vI y),.p (vP b 6) [],.p (vS p2 e0.Kids c2) [0],.p (vI (e0.Kids.length:Int)) [],.q vF,.q vF,.q vF,.p (vA (cExpr e0 p c p1 c1 p2 c2)) [0],.p (vI aa) [],.q (.bool y1),.p (.bool (!y1)) [],.p (.bool (!y1)) []] [[],[(0,F9)],[(1,F9)],[(2,F9)],[(2,F9),(3,F9)],[(2,F9),(4,F9)],[(2,F9)],[(2,F9),(6,F9)],[(2,F9),(7,F9)],[(2,F9),(5,F9),(8,F9)],[(2,F9),(9,F9)],[(10,F9)],[(11,F9)],[(11,F9)],[(11,F9),(12,F9),(13,F9)],[(11,F9),(14,F9)],[(11,F9),(15,F9)]] [hB b (cExpr e0 p c p1 c1 p2 c2)] [] [(16,F9)] (zX [0]) ?_ ?_
     ·refine Op<|Oq ?_<|Oq ?_<|O2<|Oq ?_<|O3<|Oq ?_<|Oq ?_<|Oq ?_<|O2<|Oq ?_<|O2<|On
      ·intro I1 hf ae;refine yW [8] rfl<|pQ 2 [(9,.bool (decide (ak<1)))] ?_;rw[hc];exact yQ iR
      ·intro I1 hf ae;exact I_h [(9,vF)]<|pQ 3 [(10,vF)]<|yQ iR
      ·intro I1 hf ae;refine yW [10,12] rfl ?_;have H:=iS I1;refine dU (zD3 e0.Kind _ hy ) ?_;intro aY ae;have H:=H.trans ae;exact yQ H
      ·intro I1 hf ae;refine yW [10,13,16] rfl<|pQ 10 [(17,.bool (y != (e0.Kids.length:Int)))] ?_;rw[aI];exact yQ iR
      ·intro I1 hf ae;exact yW [10,17] rfl<|pQ 11 [(18,vF)]<|yQ iR
      ·intro I1 hf ae;exact I_h [(18,vF)]<|pQ 12 [(19,vF)]<|yQ iR
      intro I1 hf ae;refine yW [19,20,21] rfl ?_;have H:=iS I1;have ⟨h,h1,h2⟩:=m3 ae h h1 h2;refine uU (zJH e0 aa _ ay h h1 h2) ?_;intro cI aL;have H:=H.trans aL;exact yQ H
     intro dw bb;refine yW [1,2,3,24] rfl ?_;have H:=H.trans bb;exact zW rfl<|yP<|zQ (ct N H)
  intro q6 I0 bI aO;have ⟨h,h1,h2⟩:=m3 bI h h1 h2;refine zK<|yC aO ?_ ?_
  ·intro aU N;refine vO [(6,vF)]<|xH<|zG ?_;obtain rfl:=zC N;exact vG
  intro aU N;refine zR<|zY<|yG [7] rfl<|vC<|mM [(1,vI aa),(2,vI ak),(3,vP b 0),(7,vI 0)] ?_;obtain⟨aS,aE,aM⟩:=zB N;refine ih_spec_l3Shape_l1 e0 aa ak 0 aS aE iR h h1 h2 nG nO ?_ ?_
  ·intro ij  ca bZ;subst aS;refine zT<|zFT [(6,vY)]<|zK<|yX ?_;obtain rfl:=zC aM;exact vG
  intro r0 I9 gm m9 aV bS aW;subst aV;refine zS<|zG ?_;obtain rfl:=zC aM;exact fO aW
 intro sy jk ll ih_spec_l3Shape_l1 e0 aa ak i o N B I0 I Q p c p1 c1 p2 c2 b H h h1 h2 hg ho hx hr;refine xD hg ho<|yA<|yB<|yI [0] [29] rfl<|zK<|yC N ?_ ?_
 ·intro bU N;refine zR<|zY<|yM<|yB<|zZ 3 [0] [33,34] rfl<|bE N λx aK N=>wJ rfl rfl h2 aK ?_;intro ad aR av al;obtain⟨p3,c3,p4,c4,p5,c5,rfl,h5,h6,h7⟩:=vJ al;refine wC 0 av (cExpr x p3 c3 p4 c4 p5 c5) (vA (cExpr x p3 c3 p4 c4 p5 c5)) rfl<|zZ 8 [] [37,39] rfl<|bE N λy2 bc N=>xG (ll x aa (W (ak - 1)) _ bc h5 h6 h7) ?_;rintro gk au v2 k2 bJ - ⟨sk,rfl,rfl,rfl⟩ -;have ⟨h,h1,h2,H⟩:=m4 bJ h h1 h2 H;refine yI [] [41] rfl<|zK<|yC N ?_ ?_
  ·intro cO N;exact vO [(6,vF)]<|xH<|zS<|zG<|zG<|hr _ _ _ _ (zC N).symm H ⟨_,_,(resT rfl),zN,⟨_,rfl,rfl,rfl⟩⟩
  intro cO N;exact zR<|zO<|zK<|zM<|yI [] [7] rfl<|xB<|jH<|ih_spec_l3Shape_l1 e0 aa ak (W (i+1)) _ N H h h1 h2 hg ho hx hr
 intro bU N;exact uR<|wI zN<|yP<|hx _  (zC N).symm H
theorem zHN:∀e0 aa ak r,rU e0 aa ak=some r->∀{I:Imm}{p c p1 c1 p2 c2},(S4 I p e0.Index.Coefs c)->(S4 I p1 e0.Read.Subs c1)->(S4 I p2 e0.Kids c2)->RT 132 [vA (cExpr e0 p c p1 c1 p2 c2),vI aa,vI ak] I [] (zU  r):=zGZ.1
mutual
def qQ(e0:zF)(ak:Int):Option (Int):=do
 let ci<-tK (same e0) (same ak) (same 1) (same 0);pure (id ci)
 partial_fixpoint
def tK(e0:zF)(ak:Int)(n0:Int)(i:Int):Option (Int):=do
 let f7<-(do
  if(decide (i<(e0.Kids.length:Int))) then pure (decide (ak>0))
  else
   pure false
    : Option Bool)
 if f7 then
  let x<-idx e0.Kids i;let y<-qQ (same x) (W (ak - 1));tK (same e0) (same ak) (W (n0+y)) (W (i+1))
 else pure (id n0)
 partial_fixpoint
end
theorem zG0:(∀(e0:zF) (ak:Int) r,qQ e0 ak=some r->∀{I:Imm}{p c p1 c1 p2 c2},(S4 I p e0.Index.Coefs c)->(S4 I p1 e0.Read.Subs c1)->(S4 I p2 e0.Kids c2)->RT 133 [vA (cExpr e0 p c p1 c1 p2 c2),vI ak] I [] (xI  r))/\(∀(e0:zF) (ak:Int) (n0:Int) (i:Int) o,tK e0 ak n0 i=some o->∀{B}{I0 I:Imm}{Q p c p1 c1 p2 c2}{b},I0.le I->(S4 I p e0.Index.Coefs c)->(S4 I p1 e0.Read.Subs c1)->(S4 I p2 e0.Kids c2)->NG Q->NO Q->(∀I' ci,o=ci->I0.le I'->T 29 B Q (.exit 0) I' [] [(5,vI ci)])->J Tryz.prog 29 B (nav (bodyOf f133) [1,1,0,1,0]) Q I [hB b (cExpr e0 p c p1 c1 p2 c2)] [(1,vI ak),(2,vP b 0),(5,vI n0),(6,vI i)]):=by
 refine qQ.mutual_partial_correctness _ _ ?_ ?_
 ·intro ji ih_spec_l3Count_l1 e0 ak r N I p c p1 c1 p2 c2 h h1 h2;refine yK func133 λB=>yB<|sF (cExpr e0 p c p1 c1 p2 c2) ?_;intro b hb;refine wP [] []<|uX [5] rfl<|zY<|yG [6] rfl<|vC<|mM [(1,vI ak),(2,vP b 0),(5,vI 1),(6,vI 0)] ?_;obtain⟨aS,aE,aM⟩:=zB N;refine ih_spec_l3Count_l1 e0 ak 1 0 aS aE iR h h1 h2 nG nO ?_;intro aY ci ca aJ;subst aS;refine zT<|uX [4] rfl<|zK<|yX ?_;obtain rfl:=zC aM;exact vG
 intro su ji li ih_spec_l3Count_l1 e0 ak n0 i o N B I0 I Q p c p1 c1 p2 c2 b H h h1 h2 hg ho hx;refine xD hg ho<|yA<|yA ?_;refine wZ N [hB b (cExpr e0 p c p1 c1 p2 c2)] (λf7=>[(1,vI ak),(2,vP b 0),(5,vI n0),(6,vI i),(15,.bool f7)]) (λo0 aC=>?_) ?_
 ·have H:=iS I;refine zM<|zZ 6 [0] [12] rfl<|xW [12] aC ?_ ?_
  ·intro hc N;exact yI [] [15] rfl<|yP<|zQ (ct N H)
  intro hc N;exact wP [] [(15,vF)]<|yP<|zQ (ct N H)
 intro f7 I0 le aO;have ⟨h,h1,h2,H⟩:=m4 le h h1 h2 H;refine zK<|yC aO ?_ ?_
 ·intro aI N;refine zR<|zY<|yM<|zM<|zZ 4 [0] [18,20,21] rfl<|bE N λx hy N=>wJ rfl rfl h2 hy ?_;intro ad aR av al;obtain⟨p3,c3,p4,c4,p5,c5,rfl,h3,h4,h5⟩:=vJ al;refine wC 0 av (cExpr x p3 c3 p4 c4 p5 c5) (vA (cExpr x p3 c3 p4 c4 p5 c5)) rfl<|zZ 8 [] [25] rfl<|bE N λy ay N=>xG (li x (W (ak - 1)) _ ay h3 h4 h5) ?_;rintro aT au v2 k2 ae - ⟨ng,rfl,rfl,rfl⟩ -;have ⟨h,h1,h2,H⟩:=m4 ae h h1 h2 H;exact yI [] [5] rfl<|zO<|zK<|zM<|yI [] [6] rfl<|xB<|jH<|ih_spec_l3Count_l1 e0 ak (W (n0+y)) (W (i+1)) _ N H h h1 h2 hg ho hx
 intro aI N;exact uR<|wI zN<|yP<|hx _ _ (zC N).symm H
theorem zHO:∀e0 ak r,qQ e0 ak=some r->∀{I:Imm}{p c p1 c1 p2 c2},(S4 I p e0.Index.Coefs c)->(S4 I p1 e0.Read.Subs c1)->(S4 I p2 e0.Kids c2)->RT 133 [vA (cExpr e0 p c p1 c1 p2 c2),vI ak] I [] (xI  r):=zG0.1
def pE(s:zI)(aa:Int):Option (Bool):=do
 let q6<-(do
  if(decide (aa<0)) then pure true
  else
   if(decide (aa>4)) then pure true
   else
    let y<-mF s.Write aa;if(!y) then pure true
    else
     let y1<-rU s.Value aa 5;pure (!y1)
    : Option Bool)
 if q6 then pure false
 else
  let y2<-qQ s.Value 5;pure (decide (y2<=12))
theorem zAQ:∀s aa r,pE s aa=some r->∀{I:Imm}{p c p1 c1 p2 c2 p3 c3},(S4 I p s.Write.Subs c)->(S4 I p1 s.Value.Index.Coefs c1)->(S4 I p2 s.Value.Read.Subs c2)->(S4 I p3 s.Value.Kids c3)->RT 78 [vA (cStmt s p c p1 c1 p2 c2 p3 c3),vI aa] I [] (zU  r):=by
 intro s aa r N I p c p1 c1 p2 c2 p3 c3 h h1 h2 h3;unfold pE at N;refine yK func78 λB=>?_;have H:=iS I;refine yB<|sF (cStmt s p c p1 c1 p2 c2 p3 c3) ?_;intro b hb;refine wP [] []<|zY<|yA ?_;refine wZ N [hB b (cStmt s p c p1 c1 p2 c2 p3 c3)] (λq6=>[(2,vP b 0),(24,.bool q6)]) (λo0 aC=>?_) ?_
 ·have H:=iS I;refine zM<|zZ 3 [] [7] rfl<|xW [7] aC ?_ ?_
  ·intro hc N;exact wP [] [(24,vY)]<|yP<|zQ (ct N H)
  intro hc N;refine zZ 7 [] [11] rfl<|xW [11] N ?_ ?_
  ·intro aI N;exact wP [] [(24,vY)]<|yP<|zQ (ct N H)
  intro aI N;refine qO 10 [0] [(13,vA (cAccess s.Write p c)),(14,vI aa)]<|bE N λy hy N=>uU (zCS s.Write aa _ hy h) ?_;intro aT le;have ⟨h1,h2,h3,H⟩:=m4 le h1 h2 h3 H;refine zZ 14 [] [18] rfl<|xW [18] N ?_ ?_
  ·intro aU N;exact wP [] [(24,vY)]<|yP<|zQ (ct N H)
  intro aU N;refine qO 17 [0] [(20,vA (cExpr s.Value p1 c1 p2 c2 p3 c3)),(21,vI aa)]<|bE N λy1 ay N=>uU (zHN s.Value aa 5 _ ay h1 h2 h3) ?_;intro aY ae;have H:=H.trans ae;exact yI [] [24] rfl<|yP<|zQ (ct N H)
 intro q6 I0 aJ aO;have ⟨h1,h2,h3⟩:=m3 aJ h1 h2 h3;refine zK<|yC aO ?_ ?_
 ·intro bU N;refine vO [(4,vF)]<|xH<|zG ?_;obtain rfl:=zC N;exact vG
 intro bU N;refine zR<|yV<|qO 2 [0] [(26,vA (cExpr s.Value p1 c1 p2 c2 p3 c3))]<|bE N λy2 aK N=>dU (zHO s.Value 5 _ aK h1 h2 h3) λbP aL=>wP [] [(4,.bool (decide (y2<=12)))]<|zK<|yX ?_;obtain rfl:=zC N;exact vG
def rV(ai:(List zA))(aa:Int)(i:Int):Option (Out Unit (Bool)):=do
 if(decide (i<(ai.length:Int))) then
  let ex<-(do
   let x<-idx ai i;let y<-sA x;if(!y) then pure true
   else
    let x1<-idx ai i;let y1<-nK x1;pure (decide (y1>aa))
     : Option Bool)
  if ex then pure (.ret false)
  else rV ai aa (W (i+1))
 else pure (.done ())
 partial_fixpoint
theorem zFV(ai:(List zA))(aa:Int):∀(i:Int) (o:Out Unit (Bool)),rV ai aa i=some o->∀{B}{I0 I:Imm}{Q p c},I0.le I->(S4 I p ai c)->NG Q->NO Q->(∀I',o=(.done ())->I0.le I'->T 35 B Q (.exit 0) I' [] [(0,vS p ai c)])->(∀r I' ah m',o=(.ret r)->I0.le I'->RS Tryz.prog f61 B (zU  r) I' ah m'->T 35 B Q .ret I' ah m')->J Tryz.prog 35 B (nav (bodyOf f61) [1,0,1,0]) Q I [] [(0,vS p ai c),(1,vI aa),(5,vI i)]:=by
 refine rV.partial_correctness ai aa _ λaQ ih i o N B I0 I Q p c H h hg ho hx hr=>xD hg ho<|yA<|yG [9] rfl<|zK<|yC N ?_ ?_
 ·intro hc N;refine zR<|zY<|yM<|yA ?_;refine wZ N [] (λex=>[(0,vS p ai c),(1,vI aa),(5,vI i),(26,.bool ex)]) (λo0 aC=>?_) ?_
  ·have H:=iS I;refine zM<|zZ 2 [] [12,13] rfl ?_;obtain⟨x,hy,N⟩:=zB aC;refine wJ rfl rfl h hy ?_;intro ad aR av al;obtain⟨p1,c1,rfl,h1⟩:=yF al;refine wC 0 av (cAff x p1 c1) (vA (cAff x p1 c1)) rfl<|bE N λy ay N=>uU (fD x _ ay h1) ?_;intro aT le;have ⟨h,H⟩:=m2 le h H;refine zZ 7 [] [18] rfl<|xW [18] N ?_ ?_
   ·intro aI N;exact wP [] [(26,vY)]<|yP<|zQ (ct N H)
   intro aI N;refine zZ 9 [] [19,20] rfl<|bE N λx1 aK N=>wJ rfl rfl h aK ?_;intro cD bN aw ax;obtain⟨p2,c2,rfl,h3⟩:=yF ax;refine wC 0 aw (cAff x1 p2 c2) (vA (cAff x1 p2 c2)) rfl<|bE N λy1 bc N=>dU (zAu x1 _ bc h3) ?_;intro aY ae;have H:=H.trans ae;exact yI [] [26] rfl<|yP<|zQ (ct N H)
  intro ex I0 aJ aO;have ⟨h,H⟩:=m2 aJ h H;refine zK<|yC aO ?_ ?_
  ·intro aU N;exact vO [(4,vF)]<|xH<|zS<|zG<|zG<|hr _ _ _ _ (zC N).symm H ⟨_,_,(resT rfl),zN,⟨_,rfl,rfl,rfl⟩⟩
  intro aU N;exact zR<|zO<|zK<|zM<|yI [] [5] rfl<|xB<|jH<|ih (W (i+1)) _ N H h hg ho hx hr
 intro hc N;exact uR<|yP<|hx _  (zC N).symm H
def jI(ai:(List zA))(aa:Int):Option (Bool):=do
 match<-rV ai aa 0 with
 | .ret r0=>pure r0
 | .done _=>
  let t4<-(do
   if(decide ((ai.length:Int)>=1)) then pure (decide ((ai.length:Int)<=2))
   else
    pure false
     : Option Bool)
  pure (id t4)
theorem zD4:∀ai aa r,jI ai aa=some r->∀{I:Imm}{p c},(S4 I p ai c)->RT 61 [vS p ai c,vI aa] I [] (zU  r):=by
 intro ai aa r N I p c h;unfold jI at N;refine yK func61 λB=>?_;have H:=iS I;refine vO []<|zY<|yG [5] rfl<|vC<|mM [(0,vS p ai c),(1,vI aa),(5,vI 0)] ?_;obtain⟨aS,aE,aM⟩:=zB N;refine zFV ai aa 0 aS aE iR h nG nO ?_ ?_
 ·intro bP  ca aL;subst aS;have H:=H.trans aL;refine zT<|zK<|yA ?_;refine wZ aM [] (λt4=>[(4,.bool t4)]) (λdd bh=>?_) ?_
  ·have H:=iS bP;refine zM<|zZ 4 [] [30] rfl<|xW [30] bh ?_ ?_
   ·intro bU N;exact yI [] [4] rfl<|yP<|zQ (ct N H)
   intro bU N;exact wP [] [(4,vF)]<|yP<|zQ (ct N H)
  intro t4 cI bb bK;refine zK<|yX ?_;obtain rfl:=zC bK;exact vG
 intro r0 I9 gm m9 aV bS aW;subst aV;refine zS<|zG ?_;obtain rfl:=zC aM;exact fO aW
def uG(nest:(List zD))(i:Int):Option (Out Unit (Bool)):=do
 let fi<-(do
  if(decide (i<(nest.length:Int))) then pure (decide ((nest.length:Int)<=4))
  else
   pure false
    : Option Bool)
 if fi then
  let qd<-(do
   let x<-idx nest i;let y<-jI x.Lo i;if(!y) then pure true
   else
    let x1<-idx nest i;let y1<-jI x1.Hi i;pure (!y1)
     : Option Bool)
  if qd then pure (.ret false)
  else uG nest (W (i+1))
 else pure (.done ())
 partial_fixpoint
theorem zD5(nest:(List zD)):∀(i:Int) (o:Out Unit (Bool)),uG nest i=some o->∀{B}{I0 I:Imm}{Q p c},I0.le I->(S4 I p nest c)->NG Q->NO Q->(∀I',o=(.done ())->I0.le I'->T 36 B Q (.exit 0) I' [] [(0,vS p nest c)])->(∀r I' ah m',o=(.ret r)->I0.le I'->RS Tryz.prog f21 B (zU  r) I' ah m'->T 36 B Q .ret I' ah m')->J Tryz.prog 36 B (nav (bodyOf f21) [1,0,1,0]) Q I [] [(0,vS p nest c),(3,vI i)]:=by
 refine uG.partial_correctness nest _ λaQ ih i o N B I0 I Q p c H h hg ho hx hr=>xD hg ho<|yA<|yA ?_;refine wZ N [] (λfi=>[(0,vS p nest c),(3,vI i),(12,.bool fi)]) (λo0 aC=>?_) ?_
 ·have H:=iS I;refine zM<|zZ 5 [] [8] rfl<|xW [8] aC ?_ ?_
  ·intro hc N;exact yI [] [12] rfl<|yP<|zQ (ct N H)
  intro hc N;exact wP [] [(12,vF)]<|yP<|zQ (ct N H)
 intro fi I0 le aO;have ⟨h,H⟩:=m2 le h H;refine zK<|yC aO ?_ ?_
 ·intro aI N;refine zR<|zY<|yM<|yA ?_;refine wZ N [] (λqd=>[(0,vS p nest c),(3,vI i),(32,.bool qd)]) (λaS aE=>?_) ?_
  ·have H:=iS I0;refine zM<|zZ 2 [] [15,16] rfl ?_;obtain⟨x,hy,N⟩:=zB aE;refine wJ rfl rfl h hy ?_;intro ad aR av al;obtain⟨p1,c1,p2,c2,rfl,h1,h2⟩:=vZ al;refine zZ 4 [] [18] rfl<|wC 0 av [vS p1 x.Lo c1] (vS p1 x.Lo c1) rfl<|zZ 6 [] [20] rfl<|bE N λy ay N=>uU (zD4 x.Lo i _ ay h1) ?_;intro aY ae;have ⟨h,H⟩:=m2 ae h H;refine zZ 9 [] [23] rfl<|xW [23] N ?_ ?_
   ·intro aU N;exact wP [] [(32,vY)]<|yP<|zQ (ct N H)
   intro aU N;refine zZ 11 [] [24,25] rfl<|bE N λx1 aK N=>wJ rfl rfl h aK ?_;intro cD bN aw ax;obtain⟨p3,c3,p4,c4,rfl,h4,h5⟩:=vZ ax;refine zZ 13 [] [27] rfl<|wC 1 aw [vS p4 x1.Hi c4] (vS p4 x1.Hi c4) rfl<|zZ 15 [] [29] rfl<|bE N λy1 bc N=>uU (zD4 x1.Hi i _ bc h5) ?_;intro bP aJ;have H:=H.trans aJ;exact yI [] [32] rfl<|yP<|zQ (ct N H)
  intro qd aT aL bK;have ⟨h,H⟩:=m2 aL h H;refine zK<|yC bK ?_ ?_
  ·intro bU N;exact vO [(2,vF)]<|xH<|zS<|zG<|zG<|hr _ _ _ _ (zC N).symm H ⟨_,_,(resT rfl),zN,⟨_,rfl,rfl,rfl⟩⟩
  intro bU N;exact zR<|zO<|zK<|zM<|yI [] [3] rfl<|xB<|jH<|ih (W (i+1)) _ N H h hg ho hx hr
 intro aI N;exact uR<|yP<|hx _  (zC N).symm H
def mT(nest:(List zD)):Option (Bool):=do
 match<-uG nest 0 with
 | .ret r0=>pure r0
 | .done _=>
  pure (decide ((nest.length:Int)<=4))
theorem zFW:∀nest r,mT nest=some r->∀{I:Imm}{p c},(S4 I p nest c)->RT 21 [vS p nest c] I [] (zU  r):=by
 intro nest r N I p c h;unfold mT at N;refine yK func21 λB=>vO []<|zY<|yG [3] rfl<|vC<|mM [(0,vS p nest c),(3,vI 0)] ?_;obtain⟨dd,bh,aM⟩:=zB N;refine zD5 nest 0 dd bh iR h nG nO ?_ ?_
 ·intro cI  jo bb;subst dd;refine zT<|uX [2] rfl<|zK<|yX ?_;obtain rfl:=zC aM;exact vG
 intro r0 I9 gm m9 aV bS aW;subst aV;refine zS<|zG ?_;obtain rfl:=zC aM;exact fO aW
def rW(a0:zA)(ag:(List Int))(n0:Int)(i:Int):Option (Int):=do
 let wm<-(do
  if(decide (i<(ag.length:Int))) then pure (decide (i<(a0.Coefs.length:Int)))
  else
   pure false
    : Option Bool)
 if wm then
  let x<-idx a0.Coefs i;let x1<-idx ag i;rW a0 ag (W (n0+(W (x*x1)))) (W (i+1))
 else pure (id n0)
 partial_fixpoint
theorem zFX(a0:zA)(ag:(List Int)):∀(n0:Int) (i:Int) (o:Int),rW a0 ag n0 i=some o->∀{B}{I0 I:Imm}{Q p c p1 c1}{b},I0.le I->(S4 I p1 ag c1)->(S4 I p a0.Coefs c)->NG Q->NO Q->(∀I' ci,o=ci->I0.le I'->T 35 B Q (.exit 0) I' [] [(5,vI ci)])->J Tryz.prog 35 B (nav (bodyOf f213) [1,1,0,1,0]) Q I [hB b (cAff a0 p c)] [(1,vS p1 ag c1),(2,vP b 0),(5,vI n0),(6,vI i)]:=by
 refine rW.partial_correctness a0 ag _ λaQ ih n0 i o N B I0 I Q p c p1 c1 b H h1 h hg ho hx=>xD hg ho<|yA<|yA ?_;refine wZ N [hB b (cAff a0 p c)] (λwm=>[(1,vS p1 ag c1),(2,vP b 0),(5,vI n0),(6,vI i),(19,.bool wm)]) (λo0 aC=>?_) ?_
 ·have H:=iS I;refine zM<|zZ 5 [] [13] rfl<|xW [13] aC ?_ ?_
  ·intro hc N;exact yI [0] [19] rfl<|yP<|zQ (ct N H)
  intro hc N;exact wP [] [(19,vF)]<|yP<|zQ (ct N H)
 intro wm I0 le aO;have ⟨h1,h,H⟩:=m3 le h1 h H;refine zK<|yC aO ?_ ?_
 ·intro aI N;refine zR<|zY<|yM<|zA9 (by kernel_rfl) (by kernel_rfl)<|zCQ 4 [0] [22,24,25] rfl<|bE N λx hy N=>zFQ rfl rfl h hy ?_;intro ad aR av al;obtain rfl:=al;refine zFP 0 av [vI x] (vI x) rfl<|zCQ 8 [] [28,29] rfl<|bE N λx1 ay N=>zFQ rfl rfl h1 ay ?_;intro cD bN aw ax;obtain rfl:=ax;exact zFP 0 aw [vI x1] (vI x1) rfl<|zMF [] [5] rfl<|zO<|zK<|zM<|yI [] [6] rfl<|xB<|jH<|ih (W (n0+(W (x*x1)))) (W (i+1)) _ N H h1 h hg ho hx
 intro aI N;exact uR<|wI zN<|yP<|hx _ _ (zC N).symm H
def oE(a0:zA)(ag:(List Int)):Option (Int):=do
 let ci<-rW a0 ag a0.Const 0;pure (id ci)
theorem dB:∀a0 ag r,oE a0 ag=some r->∀{I:Imm}{p c p1 c1},(S4 I p a0.Coefs c)->(S4 I p1 ag c1)->RT 213 [vA (cAff a0 p c),vS p1 ag c1] I [] (xI  r):=by
 intro a0 ag r N I p c p1 c1 h h1;unfold oE at N;refine yK func213 λB=>yB<|sF (cAff a0 p c) ?_;intro b hb;refine wP [] []<|yV<|yI [0] [5] rfl<|zY<|yG [6] rfl<|vC<|mM [(1,vS p1 ag c1),(2,vP b 0),(5,vI a0.Const),(6,vI 0)] ?_;obtain⟨aS,aE,aM⟩:=zB N;refine zFX a0 ag a0.Const 0 aS aE iR h1 h nG nO ?_;intro aT ci ca ae;subst aS;refine zT<|uX [4] rfl<|zK<|yX ?_;obtain rfl:=zC aM;exact vG
def zAR(r:Int×Int):KT:=λkk I' ah v=>
 ∃v0 v1,ah=[]/\v=tupV [v0,v1]/\v0=.int .i64 r.1/\v1=.int .i64 r.2
def sZ(loop:zD)(p2:(List Int))(lo:Int)(i:Int):Option (Int):=do
 if(decide (i<(loop.Lo.length:Int))) then
  let x2<-idx loop.Lo i;let y2<-oE x2 p2;let lo2<-(do
   if(decide (y2>lo)) then pure (id y2)
   else
    pure (id lo)
     : Option Int)
  sZ loop p2 lo2 (W (i+1))
 else pure (id lo)
 partial_fixpoint
theorem zEh(loop:zD)(p2:(List Int)):∀(lo:Int) (i:Int) (o:Int),sZ loop p2 lo i=some o->∀{B}{I0 I:Imm}{Q}{y1:Int}{p c p1 c1 p3 c2}{b},I0.le I->(S4 I p3 p2 c2)->(S4 I p loop.Lo c)->(S4 I p1 loop.Hi c1)->NG Q->NO Q->(∀I' lW,o=lW->I0.le I'->T 62 B Q (.exit 0) I' [hB b (cLoop loop p c p1 c1)] [(1,vS p3 p2 c2),(2,vP b 0),(6,vI lW),(7,vI y1)])->J Tryz.prog 62 B (nav (bodyOf f210) [1,1,1,0,1,0]) Q I [hB b (cLoop loop p c p1 c1)] [(1,vS p3 p2 c2),(2,vP b 0),(6,vI lo),(7,vI y1),(8,vI i)]:=by
 refine sZ.partial_correctness loop p2 _ λaQ ih lo i o N B I0 I Q y1 p c p1 c1 p3 c2 b H h2 h h1 hg ho hx=>xD hg ho<|yA<|yB<|yI [0] [28] rfl<|zK<|yC N ?_ ?_
 ·intro hc N;refine zR<|zY<|yM<|yB<|zZ 3 [0] [32,33] rfl<|bE N λx2 bL N=>wJ rfl rfl h bL ?_;intro jm gn cd bO;obtain⟨p6,c5,rfl,h7⟩:=yF bO;refine wC 0 cd (cAff x2 p6 c5) (vA (cAff x2 p6 c5)) rfl<|zZ 6 [] [36] rfl<|bE N λy2 bX N=>dU (dB x2 p2 _ bX h7 h2) ?_;intro aY aJ;have ⟨h2,h,h1,H⟩:=m4 aJ h2 h h1 H;refine yI [] [9] rfl<|uX [40] rfl<|zK ?_;refine wZ N [hB b (cLoop loop p c p1 c1)] (λlo2=>[(1,vS p3 p2 c2),(2,vP b 0),(6,vI lo2),(7,vI y1),(8,vI i)]) (λo0 aC=>?_) ?_
  ·have H:=iS aY;refine yC aC ?_ ?_
   ·intro aI N;exact zM<|yI [] [6] rfl<|yP<|zQ (ct N H)
   intro aI N;exact zR<|yP<|zQ (ct N H)
  intro lo2 bP aL aO;have ⟨h2,h,h1,H⟩:=m4 aL h2 h h1 H;exact zO<|zK<|zM<|yI [] [8] rfl<|xB<|jH<|ih lo2 (W (i+1)) _ aO H h2 h h1 hg ho hx
 intro hc N;exact uR<|yP<|hx _ _ (zC N).symm H
def rA(loop:zD)(p2:(List Int))(hi:Int)(i1:Int):Option (Int):=do
 if(decide (i1<(loop.Hi.length:Int))) then
  let x3<-idx loop.Hi i1;let y3<-oE x3 p2;let hi2<-(do
   if(decide (y3<hi)) then pure (id y3)
   else
    pure (id hi)
     : Option Int)
  rA loop p2 hi2 (W (i1+1))
 else pure (id hi)
 partial_fixpoint
theorem zEi(loop:zD)(p2:(List Int)):∀(hi:Int) (i1:Int) (o:Int),rA loop p2 hi i1=some o->∀{B}{I0 I:Imm}{Q}{lW:Int}{p c p1 c1 p3 c2}{b},I0.le I->(S4 I p3 p2 c2)->(S4 I p loop.Lo c)->(S4 I p1 loop.Hi c1)->NG Q->NO Q->(∀I' n7,o=n7->I0.le I'->T 62 B Q (.exit 2) I' [] [(6,vI lW),(7,vI n7)])->J Tryz.prog 62 B (nav (bodyOf f210) [1,1,1,1,0,1,0]) Q I [hB b (cLoop loop p c p1 c1)] [(1,vS p3 p2 c2),(2,vP b 0),(6,vI lW),(7,vI hi),(10,vI i1)]:=by
 refine rA.partial_correctness loop p2 _ λaQ ih hi i1 o N B I0 I Q lW p c p1 c1 p3 c2 b H h2 h h1 hg ho hx=>xD hg ho<|yA<|yB<|yI [0] [46] rfl<|zK<|yC N ?_ ?_
 ·intro aU N;refine zR<|zY<|yM<|yB<|zZ 3 [0] [50,51] rfl<|bE N λx3 cx N=>wJ rfl rfl h1 cx ?_;intro ri kx ek cJ;obtain⟨p7,c6,rfl,h9⟩:=yF cJ;refine wC 0 ek (cAff x3 p7 c6) (vA (cAff x3 p7 c6)) rfl<|zZ 6 [] [54] rfl<|bE N λy3 cV N=>dU (dB x3 p2 _ cV h9 h2) ?_;intro dw bI;have ⟨h2,h,h1,H⟩:=m4 bI h2 h h1 H;refine yI [] [11] rfl<|uX [58] rfl<|zK ?_;refine wZ N [hB b (cLoop loop p c p1 c1)] (λhi2=>[(1,vS p3 p2 c2),(2,vP b 0),(6,vI lW),(7,vI hi2),(10,vI i1)]) (λdd bh=>?_) ?_
  ·have H:=iS dw;refine yC bh ?_ ?_
   ·intro bU N;exact zM<|yI [] [7] rfl<|yP<|zQ (ct N H)
   intro bU N;exact zR<|yP<|zQ (ct N H)
  intro hi2 gk bJ bK;have ⟨h2,h,h1,H⟩:=m4 bJ h2 h h1 H;exact zO<|zK<|zM<|yI [] [10] rfl<|xB<|jH<|ih hi2 (W (i1+1)) _ bK H h2 h h1 hg ho hx
 intro aU N;exact uR<|wI zN<|yP<|hx _ _ (zC N).symm H
def kR(loop:zD)(p2:(List Int)):Option (Int×Int):=do
 let x<-idx loop.Lo 0;let y<-oE x p2;let x1<-idx loop.Hi 0;let y1<-oE x1 p2;let lW<-sZ loop p2 y 1;let n7<-rA loop p2 y1 1;pure (lW,n7)
theorem zDH:∀loop p2 r,kR loop p2=some r->∀{I:Imm}{p c p1 c1 p3 c2},(S4 I p loop.Lo c)->(S4 I p1 loop.Hi c1)->(S4 I p3 p2 c2)->RT 210 [vA (cLoop loop p c p1 c1),vS p3 p2 c2] I [] (zAR  r):=by
 intro loop p2 r N I p c p1 c1 p3 c2 h h1 h2;unfold kR at N;refine yK func210 λB=>yB<|sF (cLoop loop p c p1 c1) ?_;intro b hb;refine wP [] []<|yV<|zZ 2 [0] [13] rfl<|bE N λx hy N=>wJ rfl rfl h hy ?_;intro ad aR av al;obtain⟨p4,c3,rfl,h3⟩:=yF al;refine wC 0 av (cAff x p4 c3) (vA (cAff x p4 c3)) rfl<|zZ 5 [] [16] rfl<|bE N λy ay N=>dU (dB x p2 _ ay h3 h2) ?_;intro I0 le;have ⟨h2,h,h1⟩:=m3 le h2 h h1;refine yI [] [6] rfl<|yV<|zZ 2 [0] [19] rfl<|bE N λx1 aK N=>wJ rfl rfl h1 aK ?_;intro cD bN aw ax;obtain⟨p5,c4,rfl,h5⟩:=yF ax;refine wC 0 aw (cAff x1 p5 c4) (vA (cAff x1 p5 c4)) rfl<|zZ 5 [] [22] rfl<|bE N λy1 bc N=>dU (dB x1 p2 _ bc h5 h2) ?_;intro aT ae;have ⟨h2,h,h1⟩:=m3 ae h2 h h1;refine yI [] [7] rfl<|zY<|yG [8] rfl<|vC<|mM [(1,vS p3 p2 c2),(2,vP b 0),(6,vI y),(7,vI y1),(8,vI 1)] ?_;obtain⟨aS,aE,aM⟩:=zB N;refine zEh loop p2 y 1 aS aE iR h2 h h1 nG nO ?_;intro cI lW ca bb;subst aS;have ⟨h2,h,h1⟩:=m3 bb h2 h h1;refine zT<|zY<|yG [10] rfl<|vC<|mM [(1,vS p3 p2 c2),(2,vP b 0),(6,vI lW),(7,vI y1),(10,vI 1)] ?_;obtain⟨fw,cu,dc⟩:=zB aM;refine zEi loop p2 y1 1 fw cu iR h2 h h1 nG nO ?_;intro ij n7 lI bZ;subst fw;refine zT<|uX [4,5] rfl<|zK<|yX ?_;exact wD dc (resU rfl rfl) zN ⟨_,_,rfl,rfl,rfl,rfl⟩
mutual
def qZ(nest:(List zD))(p1:(List Int))(cq:Int):Option (Int):=do
 if((p1.length:Int)==(nest.length:Int)) then pure (id 1)
 else
  let x<-idx nest (p1.length:Int);let (y1,y2)<-kR x p1;let ci<-pF (same nest) (same p1) (same cq) (same y2) (same 1) (same y1);pure (id ci)
 partial_fixpoint
def pF(nest:(List zD))(p1:(List Int))(cq:Int)(y2:Int)(n0:Int)(ee:Int):Option (Int):=do
 let t35<-(do
  if(decide (ee<y2)) then pure (decide (n0<=cq))
  else
   pure false
    : Option Bool)
 if t35 then
  let l<-app 8 ([]:List Int) p1;let l1<-app 8 l ([ee]:List Int);let y3<-qZ (same nest) (same l1) (W (cq - n0));pF (same nest) (same p1) (same cq) (same y2) (W (n0+y3)) (W (ee+1))
 else pure (id n0)
 partial_fixpoint
end
theorem zHP:(∀(nest:(List zD)) (p1:(List Int)) (cq:Int) r,qZ nest p1 cq=some r->∀{I:Imm}{p c p2 c1},(S4 I p nest c)->(S4 I p2 p1 c1)->RT 164 [vS p nest c,vS p2 p1 c1,vI cq] I [] (xI  r))/\(∀(nest:(List zD)) (p1:(List Int)) (cq:Int) (y2:Int) (n0:Int) (ee:Int) o,pF nest p1 cq y2 n0 ee=some o->∀{B}{I0 I:Imm}{Q p c p2 c1},I0.le I->(S4 I p nest c)->(S4 I p2 p1 c1)->NG Q->NO Q->(∀I' ci,o=ci->I0.le I'->T 52 B Q (.exit 0) I' [] [(7,vI ci)])->J Tryz.prog 52 B (nav (bodyOf f164) [1,1,1,1,0,1,0]) Q I [] [(0,vS p nest c),(1,vS p2 p1 c1),(2,vI cq),(7,vI n0),(9,vI y2),(10,vI ee)]):=by
 refine qZ.mutual_partial_correctness _ _ ?_ ?_
 ·intro j7 ih_spec_l2Work_l1 nest p1 cq r N I p c p2 c1 h h1;refine yK func164 λB=>vO []<|uX [7] rfl<|zY<|yG [15] rfl<|zK<|yC N ?_ ?_
  ·intro hc N;refine yG [6] rfl<|xH<|zG ?_;obtain rfl:=zC N;exact vG
  intro hc N;refine zR<|yV<|zZ 3 [] [18,20] rfl<|bE N λx hy N=>wJ rfl rfl h hy ?_;intro ad aR av al;obtain⟨p3,c2,p4,c3,rfl,h2,h3⟩:=vZ al;refine wC 0 av (cLoop x p3 c2 p4 c3) (vA (cLoop x p3 c2 p4 c3)) rfl<|zZ 6 [] [23] rfl ?_;obtain⟨⟨y1,y2⟩,ay,N⟩:=zB N;refine xG (zDH x p1 _ ay h2 h3 h1) ?_;rintro I0 au v2 k2 le - ⟨ig,ng,rfl,rfl,rfl,rfl⟩ -;have ⟨h,h1⟩:=m2 le h h1;refine yI [] [8,9] rfl<|zY<|yG [10] rfl<|vC<|mM [(0,vS p nest c),(1,vS p2 p1 c1),(2,vI cq),(7,vI 1),(9,vI y2),(10,vI y1)] ?_;obtain⟨aS,aE,aM⟩:=zB N;refine ih_spec_l2Work_l1 nest p1 cq y2 1 y1 aS aE iR h h1 nG nO ?_;intro cI ci ca bb;subst aS;refine zT<|uX [6] rfl<|zK<|yX ?_;obtain rfl:=zC aM;exact vG
 intro ux j7 lL ih_spec_l2Work_l1 nest p1 cq y2 n0 ee o N B I0 I Q p c p2 c1 H h h1 hg ho hx;refine xD hg ho<|yA<|yA ?_;refine wZ N [] (λt35=>[(0,vS p nest c),(1,vS p2 p1 c1),(2,vI cq),(7,vI n0),(9,vI y2),(10,vI ee),(35,.bool t35)]) (λo0 aC=>?_) ?_
 ·have H:=iS I;refine zM<|zZ 4 [] [31] rfl<|xW [31] aC ?_ ?_
  ·intro aI N;exact yI [] [35] rfl<|yP<|zQ (ct N H)
  intro aI N;exact wP [] [(35,vF)]<|yP<|zQ (ct N H)
 intro t35 aT ae aO;have ⟨h,h1,H⟩:=m3 ae h h1 H;refine zK<|yC aO ?_ ?_
 ·intro aU N;refine zR<|zY<|yM<|zM<|zZ 2 [] [38,39] rfl<|qN [] Int ?_;intro b hb;have h6:RL aT [] ([]:List Int):=rfl;refine zZ 4 [] [41] rfl ?_;obtain⟨bN,k0,cE⟩:=h1;have h1:SL aT (vS p2 p1 c1) p1:=⟨_,k0,cE⟩;obtain⟨l,aK,N⟩:=zB N;refine mD 3 1 0 rfl rfl rfl h6 (.inl k0) cE aK λp5 c4 cs h7=>qM (zX [0] (ah:=[hO Int (vS p5 l c4) cs]))<|zZ 6 [] [43] rfl<|qN [vI ee] Int ?_;intro b1 cp;have h8:RL aT [vI ee] ([ee]:List Int):=rI [ee];obtain⟨l1,bc,N⟩:=zB N;refine mD 3 1 1 rfl rfl rfl h7 (.inr ⟨0,rfl⟩) h8 bc λp6 c5 aA h9=>qM (zX [1] (ah:=[hO Int (vS p6 l1 c5) aA]))<|zZ 11 [] [48] rfl<|wG 0 rfl ?_;intro aY aJ cH;have bQ:=SL.of_frozen cH aJ h9;have ⟨h,h1,H⟩:=m3 aJ h h1 H;obtain⟨y3,bL,N⟩:=zB N;refine xG (lL nest l1 (W (cq - n0)) _ bL h bQ) ?_;rintro bP au v2 k2 aL - ⟨sk,rfl,rfl,rfl⟩ -;have ⟨h,h1,H⟩:=m3 aL h h1 H;exact yI [] [7] rfl<|zO<|zK<|zM<|yI [] [10] rfl<|xB<|jH<|ih_spec_l2Work_l1 nest p1 cq y2 (W (n0+y3)) (W (ee+1)) _ N H h h1 hg ho hx
 intro aU N;exact uR<|yP<|hx _ _ (zC N).symm H
theorem zIF:∀nest p1 cq r,qZ nest p1 cq=some r->∀{I:Imm}{p c p2 c1},(S4 I p nest c)->(S4 I p2 p1 c1)->RT 164 [vS p nest c,vS p2 p1 c1,vI cq] I [] (xI  r):=zHP.1
def zBX(r:(List (List Int))):KT:=λkk I' ah v=>
 ∃a0 c0 s0,ah=[.osl (.slice a0 r.length c0) (Rp.sz (List Int)) s0]/\v=tupV [(.slice a0 r.length c0)]/\RepL (Rp.rep I') (Rp.sz (List Int)) s0 r
mutual
def sM(out:(List (List Int)))(nest:(List zD))(p2:(List Int)):Option ((List (List Int))):=do
 if((p2.length:Int)==(nest.length:Int)) then
  let l<-app 8 ([]:List Int) p2;let t6<-app 24 out ([l]:List (List Int));pure (id t6)
 else
  let x<-idx nest (p2.length:Int);let (y1,y2)<-kR x p2;let aD<-rK (same nest) (same p2) (same y2) (same out) (same y1);pure (id aD)
 partial_fixpoint
def rK(nest:(List zD))(p2:(List Int))(y2:Int)(aq:List (List Int))(ee:Int):Option (List (List Int)):=do
 let t39<-(do
  if(decide (ee<y2)) then pure (decide ((aq.length:Int)<=120))
  else
   pure false
    : Option Bool)
 if t39 then
  let l1<-app 8 ([]:List Int) p2;let l2<-app 8 l1 ([ee]:List Int);let y3<-sM (same aq) (same nest) (same l2);rK (same nest) (same p2) (same y2) (same y3) (W (ee+1))
 else pure (id aq)
 partial_fixpoint
end
theorem zFY:(∀(out:(List (List Int))) (nest:(List zD)) (p2:(List Int)) r,sM out nest p2=some r->∀{I:Imm}{p c cs p1 c1 p3 c2},(RL I cs out)->(S4 I p1 nest c1)->(S4 I p3 p2 c2)->RT 165 [vS p out c,vS p1 nest c1,vS p3 p2 c2] I [hO (List Int) (vS p out c) cs] (zBX  r))/\(∀(nest:(List zD)) (p2:(List Int)) (y2:Int) (aq:List (List Int)) (ee:Int) o,rK nest p2 y2 aq ee=some o->∀{B}{I0 I:Imm}{Q p1 c1 p3 c2 p8 c7 bf},I0.le I->(S4 I p1 nest c1)->(S4 I p3 p2 c2)->(RL I bf aq)->NG Q->NO Q->(∀I' aD p9 c8 cC,o=aD->I0.le I'->(RL I' cC aD)->T 52 B Q (.exit 0) I' [hO (List Int) (vS p9 aD c8) cC] [(0,vS p9 aD c8)])->J Tryz.prog 52 B (nav (bodyOf f165) [1,1,1,0,1,0]) Q I [hO (List Int) (vS p8 aq c7) bf] [(0,vS p8 aq c7),(1,vS p1 nest c1),(2,vS p3 p2 c2),(8,vI y2),(9,vI ee)]):=by
 refine sM.mutual_partial_correctness _ _ ?_ ?_
 ·intro iW ih_spec_l2Points_l1 out nest p2 r N I p c cs p1 c1 p3 c2 h h1 h2;refine yK func165 λB=>vO []<|zY<|yG [14] rfl<|zK<|yC N ?_ ?_
  ·intro hc N;refine yB<|zZ 1 [] [15] rfl<|qN [] Int ?_;intro b hb;have h3:RL I [] ([]:List Int):=rfl;refine zZ 3 [] [17] rfl ?_;obtain⟨aR,k0,cE⟩:=h2;have h2:SL I (vS p3 p2 c2) p2:=⟨_,k0,cE⟩;obtain⟨l,hy,N⟩:=zB N;refine mD 3 1 0 rfl rfl rfl h3 (.inl k0) cE hy λp4 c3 aA h4=>qM (zX [0,1] (ah:=[hO Int (vS p4 l c3) aA,hO (List Int) (vS p out c) cs]))<|wG 0 rfl ?_;intro I0 le cH;have h5:=SL.of_frozen cH le h4;have h:=iM le h;refine qN [vS p4 l c3] (List Int) ?_;intro b1 cp;have h6:RL I0 [vS p4 l c3] ([l]:List (List Int)):=⟨[vS p4 l c3],_,rfl,rfl,⟨_,rfl,h5⟩,rfl⟩;obtain⟨t6,ay,N⟩:=zB N;refine mD 48 1 1 rfl rfl rfl h (.inr ⟨0,rfl⟩) h6 ay λp5 c4 bv h7=>qM (zX [1] (ah:=[hO (List Int) (vS p5 t6 c4) bv]))<|yI [] [6] rfl<|xH<|zG ?_;exact wD N (resT rfl) (zV [0] rfl (by decide)) ⟨_,_,_,rfl,rfl,h7⟩
  intro hc N;refine zR<|yV<|zZ 3 [] [22,24] rfl<|bE N λx aK N=>wJ rfl rfl h1 aK ?_;intro ad bN av al;obtain⟨p6,c5,p7,c6,rfl,h8,h9⟩:=vZ al;refine wC 0 av (cLoop x p6 c5 p7 c6) (vA (cLoop x p6 c5 p7 c6)) rfl<|zZ 6 [] [27] rfl ?_;obtain⟨⟨y1,y2⟩,bc,N⟩:=zB N;refine xG (zDH x p2 _ bc h8 h9 h2) ?_;rintro aT au v2 k2 ae - ⟨ig,ng,rfl,rfl,rfl,rfl⟩ -;have ⟨h,h1,h2⟩:=m3 ae h h1 h2;refine yI [] [7,8] rfl<|zY<|yG [9] rfl<|vC<|mM [(0,vS p out c),(1,vS p1 nest c1),(2,vS p3 p2 c2),(8,vI y2),(9,vI y1)] ?_;obtain⟨aS,aE,aM⟩:=zB N;refine ih_spec_l2Points_l1 nest p2 y2 out y1 aS aE iR h1 h2 h nG nO ?_;intro dw aD p9 c8 cC ca bI cy;subst aS;refine zT<|uX [6] rfl<|zK<|yX ?_;exact wD aM (resT rfl) (zV [0] rfl (by decide)) ⟨_,_,_,rfl,rfl,cy⟩
 intro sm iW ki ih_spec_l2Points_l1 nest p2 y2 aq ee o N B I0 I Q p1 c1 p3 c2 p8 c7 bf H h1 h2 bW hg ho hx;refine xD hg ho<|yA<|yA ?_;refine wZ N [hO (List Int) (vS p8 aq c7) bf] (λt39=>[(0,vS p8 aq c7),(1,vS p1 nest c1),(2,vS p3 p2 c2),(8,vI y2),(9,vI ee),(39,.bool t39)]) (λo0 aC=>?_) ?_
 ·have H:=iS I;refine zM<|zZ 4 [] [35] rfl<|xW [35] aC ?_ ?_
  ·intro aI N;exact yI [] [39] rfl<|yP<|zQ (ct N H)
  intro aI N;exact wP [] [(39,vF)]<|yP<|zQ (ct N H)
 intro t39 aY aJ aO;have ⟨bW,h1,h2,H⟩:=m4 aJ bW h1 h2 H;refine zK<|yC aO ?_ ?_
 ·intro aU N;refine zR<|zY<|yM<|zM<|zZ 2 [] [42,43] rfl<|qN [] Int ?_;intro b2 fl;have bV:RL aY [] ([]:List Int):=rfl;refine zZ 4 [] [45] rfl ?_;obtain⟨gn,ui,qc⟩:=h2;have h2:SL aY (vS p3 p2 c2) p2:=⟨_,ui,qc⟩;obtain⟨l1,bL,N⟩:=zB N;refine mD 3 1 0 rfl rfl rfl bV (.inl ui) qc bL λbH c9 cP co=>qM (zX [0,1] (ah:=[hO Int (vS bH l1 c9) cP,hO (List Int) (vS p8 aq c7) bf]))<|zZ 6 [] [47] rfl<|qN [vI ee] Int ?_;intro b3 ni;have ck:RL aY [vI ee] ([ee]:List Int):=rI [ee];obtain⟨l2,bX,N⟩:=zB N;refine mD 3 1 1 rfl rfl rfl co (.inr ⟨0,rfl⟩) ck bX λbd bG gb cm=>qM (zX [1,2] (ah:=[hO Int (vS bd l2 bG) gb,hO (List Int) (vS p8 aq c7) bf]))<|wG 0 rfl ?_;intro bP aL cZ;have bY:=SL.of_frozen cZ aL cm;have ⟨h1,h2,bW,H⟩:=m4 aL h1 h2 bW H;obtain⟨y3,cx,N⟩:=zB N;refine tU (ki aq nest l2 _ cx bW h1 bY) rfl ?_;rintro cI au v2 k2 bb - ⟨ce,bj,d5,rfl,rfl,d9⟩ -;have ⟨h1,h2,H⟩:=m3 bb h1 h2 H;exact yI [] [0] rfl<|zO<|zK<|zM<|yI [] [9] rfl<|xB<|jH<|ih_spec_l2Points_l1 nest p2 y2 y3 (W (ee+1)) _ N H h1 h2 d9 hg ho hx
 intro aU N;exact uR<|yP<|hx _ _ _ _ _ (zC N).symm H bW
theorem zG1:∀out nest p2 r,sM out nest p2=some r->∀{I:Imm}{p c cs p1 c1 p3 c2},(RL I cs out)->(S4 I p1 nest c1)->(S4 I p3 p2 c2)->RT 165 [vS p out c,vS p1 nest c1,vS p3 p2 c2] I [hO (List Int) (vS p out c) cs] (zBX  r):=zFY.1
def zAl(r:(List (List Int))×Bool):KT:=λkk I' ah v=>
 ∃v0 v1,ah=[]/\v=tupV [v0,v1]/\SL I' v0 r.1/\v1=.bool r.2
def nM(nest:(List zD)):Option ((List (List Int))×Bool):=do
 let fi<-(do
  let y<-mT nest;if(!y) then pure true
  else
   let y1<-qZ nest ([]:List Int) 1200;pure (decide (y1>1200))
    : Option Bool)
 if fi then pure (([]:List (List Int)),F9)
 else
  let y2<-sM ([]:List (List Int)) nest ([]:List Int);if(decide ((y2.length:Int)>120)) then pure (([]:List (List Int)),F9)
  else pure (y2,true)
theorem zEj:∀nest r,nM nest=some r->∀{I:Imm}{p c},(S4 I p nest c)->RT 100 [vS p nest c] I [] (zAl  r):=by
 intro nest r N I p c h;unfold nM at N;refine yK func100 λB=>?_;have H:=iS I;refine vO []<|zY<|yA ?_;refine wZ N [] (λfi=>[(0,vS p nest c),(12,.bool fi)]) (λo0 aC=>?_) ?_
 ·have H:=iS I;refine zM<|zZ 1 [] [5] rfl ?_;obtain⟨y,hy,N⟩:=zB aC;refine uU (zFW nest _ hy h) ?_;intro aT le;have ⟨h,H⟩:=m2 le h H;refine zZ 4 [] [8] rfl<|xW [8] N ?_ ?_
  ·intro hc N;exact wP [] [(12,vY)]<|yP<|zQ (ct N H)
  intro hc N;refine zZ 5 [] [9] rfl<|bE N λy1 ay N=>dU (zIF nest ([]:List Int) 1200 _ ay h (SL.nil _)) ?_;intro aY ae;have H:=H.trans ae;exact yI [] [12] rfl<|yP<|zQ (ct N H)
 intro fi I0 aJ aO;have h:=h.mono aJ;refine zK<|yC aO ?_ ?_
 ·intro aI N;refine yB<|qN [] (List Int) ?_;intro b hb;have h3:RL I0 [] ([]:List (List Int)):=rfl;refine yI [] [2,3] rfl<|xH<|zG<|xT 0 rfl ?_;intro bP aL cH;have h4:=SL.of_frozen cH aL h3;exact wD N (resU rfl rfl) zN ⟨_,_,rfl,rfl,h4,rfl⟩
 intro aI N;refine zR<|yV<|qN [] (List Int) ?_;intro b1 cp;have h5:RL I0 [] ([]:List (List Int)):=rfl;refine zZ 2 [] [15] rfl<|bE N λy2 aK N=>tU (zG1 ([]:List (List Int)) nest ([]:List Int) _ aK h5 h (SL.nil _)) rfl ?_;rintro cI au v2 k2 bb - ⟨p1,c1,cs,rfl,rfl,h6⟩ -;refine yI [] [4] rfl<|zY<|yG [19] rfl<|zK<|yC N ?_ ?_
 ·intro aU N;refine yB<|qN [] (List Int) ?_;intro b2 fl;have h7:RL cI [] ([]:List (List Int)):=rfl;refine yI [] [2,3] rfl<|xH<|zG<|xT 0 rfl ?_;intro dw bI cZ;have h8:=SL.of_frozen cZ bI h7;exact wD N (resU rfl rfl) zN ⟨_,_,rfl,rfl,h8,rfl⟩
 intro aU N;refine zR<|uX [2,3] rfl<|xH<|xT 0 rfl ?_;intro gk bJ cF;have h9:=SL.of_frozen cF bJ h6;exact wD N (resU rfl rfl) zN ⟨_,_,rfl,rfl,h9,rfl⟩
def fX(r:zA):KT:=λkk I' ah v=>
 ∃v0,ah=[]/\v=tupV [v0]/\(∃cs,v0=.agg ⟨cs⟩/\Rp.rep I' cs r)
def qB(a0:zA):Option (zA):=do
 if((a0.Coefs.length:Int)==0) then pure (zA.mk ([]:List Int) a0.Const)
 else
  let l<-app 8 ([]:List Int) a0.Coefs;pure (zA.mk l a0.Const)
theorem zAm:∀a0 r,qB a0=some r->∀{I:Imm}{p c},(S4 I p a0.Coefs c)->RT 243 [vA (cAff a0 p c)] I [] (fX  r):=by
 intro a0 r N I p c h;unfold qB at N;refine yK func243 λB=>yB<|sF (cAff a0 p c) ?_;intro b hb;refine wT [z0,vI 0] ?_;intro b1 cp;refine zW rfl<|zY<|yB<|yI [1] [6] rfl<|zK<|yC N ?_ ?_
 ·intro hc N;refine yB<|qO 3 [1] [(9,vA [z0,vI a0.Const])]<|yZ 0 [z0,vI a0.Const] rfl<|zW rfl<|xH<|zG ?_;exact wD N (resC 0 rfl rfl) zN ⟨_,rfl,rfl,⟨_,rfl,(yH ⟨_,rfl,(SL.nil _)⟩)⟩⟩
 intro hc N;refine zR<|zY<|bE N λl hy N=>vK [.x (λI' v hx=>∃b2,v=vS (some ⟨b2,0,none⟩) ([]:List Int) 0/\hx=[hO Int (vS (some ⟨b2,0,none⟩) ([]:List Int) 0) []]/\(RL I' [] ([]:List Int))),.p (vP b 0) [],.p (vS p a0.Coefs c) [1],.x (λI' v hx=>∃p1 c1 cs,v=vS p1 l c1/\hx=[hO Int (vS p1 l c1) cs]/\(RL I' cs l)),.p (vP b 1) [],.p (vI a0.Const) [1],.x (λI' v hx=>∃bd bj aA,v=vA [vS bd l bj,vI a0.Const]/\hx=[hO Int (vS bd l bj) aA]/\(RL I' aA l))] [[],[],[(1,F9)],[(0,true),(2,F9)],[],[(4,F9)],[(3,true),(5,F9)]] [hB b1 [z0,vI 0],hB b (cAff a0 p c)] [] [(6,true)] (zX [0,1]) ?_ ?_
 ·refine Ox ?_<|O2<|Ox ?_<|O2<|Ox ?_<|On
  ·intro I1 hf ae;refine I_h []<|qN [] Int ?_;intro b2 fl;have h1:RL I1 [] ([]:List Int):=rfl;exact xC [hO Int (vS (some ⟨b2,0,none⟩) ([]:List Int) 0) []] iR ⟨_,rfl,rfl,h1⟩
  ·rintro I1 hf ae _ _ ⟨b2,rfl,rfl,h1⟩;refine yW [10,12] rfl ?_;have h:=h.mono ae;obtain⟨aR,k0,cE⟩:=h;have h:SL I1 (vS p a0.Coefs c) a0.Coefs:=⟨_,k0,cE⟩;exact mD 3 1 0 rfl rfl rfl h1 (.inl k0) cE hy λp1 c1 cs h2=>uT (ah:=(hO Int (vS p1 l c1) cs::hB b1 [z0,vI 0]::hB b (cAff a0 p c)::hf)) rfl<|xC [hO Int (vS p1 l c1) cs] iR ⟨_,_,_,rfl,rfl,h2⟩
  rintro I1 hf ae _ _ ⟨p1,c1,cs,rfl,rfl,h2⟩;exact yW [13,15] rfl<|pQ 7 [(16,vA [vS p1 l c1,vI a0.Const])]<|xC [hO Int (vS p1 l c1) cs] iR ⟨_,_,_,rfl,rfl,h2⟩
 rintro I0 le _ _ ⟨bd,bj,aA,rfl,rfl,jz⟩;refine yW [2,16] rfl ?_;refine yZ 1 [vS bd l bj,vI a0.Const] rfl<|zW rfl<|xH<|xT 0 rfl ?_;intro aT ae cH;have h3:=SL.of_frozen cH ae jz;exact wD N (resC 0 rfl rfl) zN ⟨_,rfl,rfl,⟨_,rfl,(yH ⟨_,rfl,h3⟩)⟩⟩
def zCi(r:zJ):KT:=λkk I' ah v=>
 ∃nq nt oi,ah=[.osl (.slice nq r.Subs.length nt) (Rp.sz zA) oi]/\v=tupV [(.agg ⟨[.string ⟨⟨r.Array.l⟩⟩,.slice nq r.Subs.length nt]⟩)]/\RepL (Rp.rep I') (Rp.sz zA) oi r.Subs
def vQ(a0:zJ)(i:Int)(Subs:List zA):Option (List zA):=do
 if(decide (i<(a0.Subs.length:Int))) then
  let x<-idx a0.Subs i;let y<-qB x;let l<-app 32 Subs ([y]:List zA);vQ a0 (W (i+1)) l
 else pure (id Subs)
 partial_fixpoint
theorem zCT(a0:zJ):∀(i:Int) (Subs:List zA) (o:List zA),vQ a0 i Subs=some o->∀{B}{I0 I:Imm}{Q p c}{b b1 b2}{p1 c1 cs},I0.le I->(S4 I p a0.Subs c)->(RL I cs Subs)->NG Q->NO Q->(∀I' dz p2 c2 aA,o=dz->I0.le I'->(RL I' aA dz)->T 27 B Q (.exit 0) I' [hO zA (vS p2 dz c2) aA,hB b2 [vT a0.Array.l,vS p2 dz c2],hB b1 [vT ([]),z0]] [(2,vP b1 0),(3,vP b2 0)])->J Tryz.prog 27 B (nav (bodyOf f211) [1,1,0,1,0]) Q I [hO zA (vS p1 Subs c1) cs,hB b2 [vT a0.Array.l,vS p1 Subs c1],hB b1 [vT ([]),z0],hB b (cAccess a0 p c)] [(1,vP b 0),(2,vP b1 0),(3,vP b2 0),(4,vI i)]:=by
 refine vQ.partial_correctness a0 _ λaQ ih i Subs o N B I0 I Q p c b b1 b2 p1 c1 cs H h h2 hg ho hx=>xD hg ho<|yA<|yB<|yI [3] [12] rfl<|zK<|yC N ?_ ?_
 ·intro hc N;refine zR<|zY<|yM ?_;obtain⟨x,hy,N⟩:=zB N;obtain⟨y,ay,N⟩:=zB N;obtain⟨l,aK,N⟩:=zB N;refine vK [.p (vP b2 1) [],.p (vS p1 Subs c1) [0],.p (vP b 1) [],.p (vS p a0.Subs c) [2],.p (vI i) [],.x (ePAff x),.x (eVAff x),.x (eVAff y),.x (λI' v hx=>∃b3,v=vS (some ⟨b3,0,none⟩) ([y]:List zA) 1/\hx=[]/\(SL I' (vS (some ⟨b3,0,none⟩) ([y]:List zA) 1) ([y]:List zA))),.x (λI' v hx=>∃p5 c5 bf,v=vS p5 l c5/\hx=[hO zA (vS p5 l c5) bf]/\(RL I' bf l))] [[],[(0,F9)],[],[(2,F9)],[],[(3,F9),(4,F9)],[(5,F9)],[(6,F9)],[(7,F9)],[(1,F9),(8,F9),(12,true)]] [hB b2 [vT a0.Array.l,vS p1 Subs c1],hB b1 [vT ([]),z0],hB b (cAccess a0 p c)] [[hO zA (vS p1 Subs c1) cs]] [(9,true)] (zX [1,2,3,0]) ?_ ?_
  ·refine O4<|Op<|Ox ?_<|Ox ?_<|Ox ?_<|Ox ?_<|Ox ?_<|On
   ·intro I1 hf ae;refine yW [18,19] rfl ?_;have h:=h.mono ae;refine wJ rfl rfl h hy ?_;intro ad aR av al;obtain⟨p3,c3,rfl,h4⟩:=yF al;exact xC [] iR ⟨_,_,_,rfl,rfl,av,h4⟩
   ·rintro I1 hf ae _ _ ⟨ad,p3,c3,rfl,rfl,av,h4⟩;exact yW [20] rfl<|wC 0 av (cAff x p3 c3) (vA (cAff x p3 c3)) rfl<|xC [] iR ⟨_,_,rfl,rfl,h4⟩
   ·rintro I1 hf ae _ _ ⟨kn,l8,rfl,rfl,ka⟩;refine yW [21] rfl ?_;have H:=iS I1;refine xG (zAm x _ ay ka) ?_;rintro I0 au v2 k2 le - ⟨gx,rfl,rfl,⟨bv,rfl,h5⟩⟩ -;have H:=H.trans le;obtain⟨p4,c4,rfl,h6⟩:=yF h5;exact xC [] H ⟨_,_,rfl,rfl,h6⟩
   ·rintro I1 hf ae _ _ ⟨p4,c4,rfl,rfl,h6⟩;refine yW [22] rfl ?_;have H:=iS I1;refine jW (rc y (yH ⟨_,rfl,h6⟩) rN) ?_;intro b3 aT ae h8;have H:=H.trans ae;exact xC [] H ⟨_,rfl,rfl,h8⟩
   rintro I1 hf ae _ _ ⟨rfl,rfl⟩ _ _ ⟨b3,rfl,rfl,h8⟩ _ _ rfl;refine yW [16,23] rfl ?_;have h2:=iM ae h2;obtain⟨bN,k0,cE⟩:=h8;have h8:SL I1 (vS (some ⟨b3,0,none⟩) ([y]:List zA) 1) ([y]:List zA):=⟨_,k0,cE⟩;exact mD 50 2 0 rfl rfl rfl h2 (.inl k0) cE aK λp5 c5 bf h9=>uT (ah:=(hO zA (vS p5 l c5) bf::hB b2 [vT a0.Array.l,vS p1 Subs c1]::hB b1 [vT ([]),z0]::hB b (cAccess a0 p c)::hf)) rfl<|xC [hO zA (vS p5 l c5) bf] iR ⟨_,_,_,rfl,rfl,h9⟩
  rintro aY aJ _ _ ⟨p5,c5,bf,rfl,rfl,h9⟩;refine yW [1,2,3,4,24] rfl ?_;have ⟨h,H⟩:=m2 aJ h H;exact zZ 11 [] [25] rfl<|yZ 1 [vT a0.Array.l,vS p5 l c5] rfl<|zW rfl<|zO<|zK<|zM<|yI [] [4] rfl<|xB<|jH<|ih (W (i+1)) l _ N H h h9 hg ho hx
 intro hc N;exact uR<|wI (zV [0,1,2] rfl (by decide))<|yP<|hx _ _ _ _ _ (zC N).symm H h2
def sJ(a0:zJ):Option (zJ):=do
 let dz<-vQ a0 0 ([]:List zA);pure (zJ.mk a0.Array dz)
theorem dC:∀a0 r,sJ a0=some r->∀{I:Imm}{p c},(S4 I p a0.Subs c)->RT 211 [vA (cAccess a0 p c)] I [] (zCi  r):=by
 intro a0 r N I p c h;unfold sJ at N;refine yK func211 λB=>yB<|sF (cAccess a0 p c) ?_;intro b hb;refine wT [vT ([]),z0] ?_;intro b1 cp;refine zW rfl<|yV<|qO 3 [1] [(7,vA [vT a0.Array.l,z0])]<|wT [vT ([]),z0] ?_;intro b2 fl;refine yZ 0 [vT a0.Array.l,z0] rfl<|zW rfl<|zY<|yG [4] rfl<|vC<|mM [(1,vP b 0),(2,vP b1 0),(3,vP b2 0),(4,vI 0)]<|zB9 zA λh1=>?_;obtain⟨o0,aC,aM⟩:=zB N;refine zCT a0 0 ([]:List zA) o0 aC iR h h1 nG nO ?_;intro bP dz p2 c2 aA ec aL h3;subst o0;refine zT<|yV<|qO 1 [1] [(26,vA [vT a0.Array.l,vS p2 dz c2])]<|yZ 2 [vT a0.Array.l,vS p2 dz c2] rfl<|zW rfl<|zK<|yX ?_;exact wD aM (resC 2 rfl rfl) (zV [0] rfl (by decide)) ⟨_,_,_,rfl,rfl,h3⟩
def zBh(r:(List zJ)):KT:=λkk I' ah v=>
 ∃a0 c0 s0,ah=[.osl (.slice a0 r.length c0) (Rp.sz zJ) s0]/\v=tupV [(.slice a0 r.length c0)]/\RepL (Rp.rep I') (Rp.sz zJ) s0 r
mutual
def qR(out:(List zJ))(e0:zF):Option ((List zJ)):=do
 let aq<-(do
  if(e0.Kind==3) then
   let y<-sJ e0.Read;let aD<-app 40 out ([y]:List zJ);pure (id aD)
  else
   pure (id out)
    : Option (List zJ))
 let dn<-uB (same e0) (same aq) (same 0);pure (id dn)
 partial_fixpoint
def uB(e0:zF)(bR:List zJ)(i:Int):Option (List zJ):=do
 if(decide (i<(e0.Kids.length:Int))) then
  let x<-idx e0.Kids i;let y1<-qR (same bR) (same x);uB (same e0) (same y1) (W (i+1))
 else pure (id bR)
 partial_fixpoint
end
theorem zG2:(∀(out:(List zJ)) (e0:zF) r,qR out e0=some r->∀{I:Imm}{p c cs p1 c1 p2 c2 p3 c3},(RL I cs out)->(S4 I p1 e0.Index.Coefs c1)->(S4 I p2 e0.Read.Subs c2)->(S4 I p3 e0.Kids c3)->RT 166 [vS p out c,vA (cExpr e0 p1 c1 p2 c2 p3 c3)] I [hO zJ (vS p out c) cs] (zBh  r))/\(∀(e0:zF) (bR:List zJ) (i:Int) o,uB e0 bR i=some o->∀{B}{I0 I:Imm}{Q p1 c1 p2 c2 p3 c3}{b}{p7 c7 cC},I0.le I->(S4 I p1 e0.Index.Coefs c1)->(S4 I p2 e0.Read.Subs c2)->(S4 I p3 e0.Kids c3)->(RL I cC bR)->NG Q->NO Q->(∀I' dn p8 c8 cP,o=dn->I0.le I'->(RL I' cP dn)->T 30 B Q (.exit 0) I' [hO zJ (vS p8 dn c8) cP] [(0,vS p8 dn c8)])->J Tryz.prog 30 B (nav (bodyOf f166) [1,1,0,1,0]) Q I [hB b (cExpr e0 p1 c1 p2 c2 p3 c3),hO zJ (vS p7 bR c7) cC] [(0,vS p7 bR c7),(3,vP b 0),(5,vI i)]):=by
 refine qR.mutual_partial_correctness _ _ ?_ ?_
 ·intro jj ih_spec_l3Reads_l1 out e0 r N I p c cs p1 c1 p2 c2 p3 c3 h h1 h2 h3;refine yK func166 λB=>?_;have H:=iS I;refine yB<|sF (cExpr e0 p1 c1 p2 c2 p3 c3) ?_;intro b hb;refine wP [] []<|zY<|yB<|yI [0] [8] rfl<|zK ?_;obtain⟨o0,aC,aO⟩:=zB N;refine rR (λI' ah m'=>∃(aq:List zJ) (p4:Option Addr) (c4:Nat) (aA:List Value),o0=aq/\I.le I'/\(RL I' aA aq)/\ah=[hB b (cExpr e0 p1 c1 p2 c2 p3 c3),hO zJ (vS p4 aq c4) aA]/\m'=[(0,vS p4 aq c4),(3,vP b 0)]) ?_ ?_
  ·have H:=iS I;refine yC aC ?_ ?_
   ·intro hc N;refine zM<|qO 3 [0] [(9,vS p out c),(11,vA (cAccess e0.Read p2 c2))]<|bE N λy hy N=>xG (dC e0.Read _ hy h2) ?_;rintro aT au v2 k2 le - ⟨p5,c5,bv,rfl,rfl,h5⟩ -;have ⟨h,H⟩:=m2 le h H;refine wG 0 rfl ?_;intro aY ae cH;have h6:=SL.of_frozen cH ae h5;have ⟨h,H⟩:=m2 ae h H;refine qN (cAccess y p5 c5) zJ ?_;intro b1 cp;have h7:RL aY (cAccess y p5 c5) ([y]:List zJ):=⟨(cAccess y p5 c5),_,rfl,rfl,(mS ⟨_,rfl,h6⟩),rfl⟩;obtain⟨aD,ay,N⟩:=zB N;exact mD 47 2 2 rfl rfl rfl h (.inr ⟨0,rfl⟩) h7 ay λp6 c6 bf h8=>qM (zX [1,2] (ah:=[hB b (cExpr e0 p1 c1 p2 c2 p3 c3),hO zJ (vS p6 aD c6) bf]))<|yI [] [0] rfl<|yP<|zQ ⟨_,_,_,_,(zC N).symm,H,h8,rfl,rfl⟩
   intro hc N;exact zR<|yP<|zQ ⟨_,_,_,_,(zC N).symm,H,h,rfl,rfl⟩
  rintro I0 au m2 ⟨aq,p4,c4,aA,ec,aJ,h4,rfl,rfl⟩;subst o0;have ⟨h1,h2,h3⟩:=m3 aJ h1 h2 h3;refine zY<|yG [5] rfl<|vC<|mM [(0,vS p4 aq c4),(3,vP b 0),(5,vI 0)] ?_;obtain⟨aS,aE,aM⟩:=zB aO;refine ih_spec_l3Reads_l1 e0 aq 0 aS aE iR h1 h2 h3 h4 nG nO ?_;intro cI dn p8 c8 cP ca bb bQ;subst aS;refine zT<|uX [4] rfl<|zK<|yX ?_;exact wD aM (resT rfl) (zV [0] rfl (by decide)) ⟨_,_,_,rfl,rfl,bQ⟩
 intro sw jj lj ih_spec_l3Reads_l1 e0 bR i o N B I0 I Q p1 c1 p2 c2 p3 c3 b p7 c7 cC H h1 h2 h3 h9 hg ho hx;refine xD hg ho<|yA<|yB<|yI [0] [19] rfl<|zK<|yC N ?_ ?_
 ·intro aI N;refine zR<|zY<|yM<|zM<|zZ 4 [0] [22,24,25] rfl<|bE N λx aK N=>wJ rfl rfl h3 aK ?_;intro ad aR av al;obtain⟨p9,c9,bH,bG,bd,bj,rfl,bB,bW,cy⟩:=vJ al;refine wC 0 av (cExpr x p9 c9 bH bG bd bj) (vA (cExpr x p9 c9 bH bG bd bj)) rfl<|qM (zX [1,0] (ah:=[hO zJ (vS p7 bR c7) cC,hB b (cExpr e0 p1 c1 p2 c2 p3 c3)]))<|bE N λy1 bc N=>tU (lj bR x _ bc h9 bB bW cy) rfl ?_;rintro bP au v2 k2 aL - ⟨ce,bx,gb,rfl,rfl,bV⟩ -;have ⟨h1,h2,h3,H⟩:=m4 aL h1 h2 h3 H;exact yI [] [0] rfl<|zO<|zK<|zM<|yI [] [5] rfl<|xB<|kT (zV [1,0] rfl (by decide))<|jH<|ih_spec_l3Reads_l1 e0 y1 (W (i+1)) _ N H h1 h2 h3 bV hg ho hx
 intro aI N;exact uR<|wI (zV [1] rfl (by decide))<|yP<|hx _ _ _ _ _ (zC N).symm H h9
theorem zHQ:∀out e0 r,qR out e0=some r->∀{I:Imm}{p c cs p1 c1 p2 c2 p3 c3},(RL I cs out)->(S4 I p1 e0.Index.Coefs c1)->(S4 I p2 e0.Read.Subs c2)->(S4 I p3 e0.Kids c3)->RT 166 [vS p out c,vA (cExpr e0 p1 c1 p2 c2 p3 c3)] I [hO zJ (vS p out c) cs] (zBh  r):=zG2.1
def rX(a0:zE)(n0:Int)(i:Int):Option (Int):=do
 if(decide (i<(a0.Dims.length:Int))) then
  let x<-idx a0.Dims i;rX a0 (W (n0*x)) (W (i+1))
 else pure (id n0)
 partial_fixpoint
theorem zFZ(a0:zE):∀(n0:Int) (i:Int) (o:Int),rX a0 n0 i=some o->∀{B}{I0 I:Imm}{Q p c}{b},I0.le I->(S4 I p a0.Dims c)->NG Q->NO Q->(∀I' ci,o=ci->I0.le I'->T 20 B Q (.exit 0) I' [] [(3,vI ci)])->J Tryz.prog 20 B (nav (bodyOf f212) [1,1,0,1,0]) Q I [hB b (cArr a0 p c)] [(1,vP b 0),(3,vI n0),(4,vI i)]:=by
 refine rX.partial_correctness a0 _ λaQ ih n0 i o N B I0 I Q p c b H h hg ho hx=>xD hg ho<|yA<|yB<|yI [0] [9] rfl<|zK<|yC N ?_ ?_
 ·intro hc N;refine zR<|zY<|yM<|zM<|zZ 4 [0] [12,14,15] rfl<|bE N λx hy N=>wJ rfl rfl h hy ?_;intro ad aR av al;obtain rfl:=al;exact wC 0 av [vI x] (vI x) rfl<|yI [] [3] rfl<|zO<|zK<|zM<|yI [] [4] rfl<|xB<|jH<|ih (W (n0*x)) (W (i+1)) _ N H h hg ho hx
 intro hc N;exact uR<|wI zN<|yP<|hx _ _ (zC N).symm H
def gU(a0:zE):Option (Int):=do
 let ci<-rX a0 1 0;pure (id ci)
theorem zIG:∀a0 r,gU a0=some r->∀{I:Imm}{p c},(S4 I p a0.Dims c)->RT 212 [vA (cArr a0 p c)] I [] (xI  r):=by
 intro a0 r N I p c h;unfold gU at N;refine yK func212 λB=>yB<|sF (cArr a0 p c) ?_;intro b hb;refine wP [] []<|uX [3] rfl<|zY<|yG [4] rfl<|vC<|mM [(1,vP b 0),(3,vI 1),(4,vI 0)] ?_;obtain⟨o0,aC,aM⟩:=zB N;refine zFZ a0 1 0 o0 aC iR h nG nO ?_;intro I0 ci ec le;subst o0;refine zT<|uX [2] rfl<|zK<|yX ?_;obtain rfl:=zC aM;exact vG
def sP(ai:(List zE))(a0:zJ)(ag:(List Int))(i:Int)(n0:Int)(k0:Int):Option (Out Int (Int)):=do
 if(decide (k0<(a0.Subs.length:Int))) then
  let x2<-idx ai i;if((a0.Subs.length:Int) != (x2.Dims.length:Int)) then pure (.ret (-1))
  else
   let x3<-idx a0.Subs k0;let y1<-oE x3 ag;let t70<-(do
    if(decide (y1<0)) then pure true
    else
     let x4<-idx ai i;let x5<-idx x4.Dims k0;pure (decide (y1>=x5))
      : Option Bool)
   if t70 then pure (.ret (-1))
   else
    let x6<-idx ai i;let x7<-idx x6.Dims k0;sP ai a0 ag i (W ((W (n0*x7))+y1)) (W (k0+1))
 else pure (.done n0)
 partial_fixpoint
theorem zF0(ai:(List zE))(a0:zJ)(ag:(List Int))(i:Int):∀(n0:Int) (k0:Int) (o:Out Int (Int)),sP ai a0 ag i n0 k0=some o->∀{B}{I0 I:Imm}{Q}{base:Int}{p c p1 c1 p2 c2}{b},I0.le I->(S4 I p ai c)->(S4 I p2 ag c2)->(S4 I p1 a0.Subs c1)->NG Q->NO Q->(∀I' ci,o=(.done ci)->I0.le I'->T 86 B Q (.exit 2) I' [] [(7,vI base),(9,vI ci)])->(∀r I' ah m',o=(.ret r)->I0.le I'->RS Tryz.prog f167 B (xI  r) I' ah m'->T 86 B Q .ret I' ah m')->J Tryz.prog 86 B (nav (bodyOf f167) [1,1,0,1,0,0,1,0,0,1,1,0,1,0]) Q I [hB b (cAccess a0 p1 c1)] [(0,vS p ai c),(2,vS p2 ag c2),(4,vP b 0),(7,vI base),(8,vI i),(9,vI n0),(10,vI k0)]:=by
 refine sP.partial_correctness ai a0 ag i _ λaQ ih n0 k0 o N B I0 I Q base p c p1 c1 p2 c2 b H h h2 h1 hg ho hx hr=>xD hg ho<|yA<|yB<|yI [0] [37] rfl<|zK<|yC N ?_ ?_
 ·intro aU N;refine zR<|zY<|yM<|yA<|yA<|zA9 (by kernel_rfl) (by kernel_rfl)<|zCQ 5 [0] [42,43,44] rfl<|bE N λx2 bc N=>zFQ rfl rfl h bc ?_;intro jm gn cd bO;obtain⟨p5,c5,rfl,h6⟩:=wN bO;refine zCQ 7 [] [46] rfl<|zFP 1 cd [vS p5 x2.Dims c5] (vS p5 x2.Dims c5) rfl<|zMF [] [49] rfl<|zK<|yC N ?_ ?_
  ·intro bU N;exact yG [6] rfl<|xH<|zG<|zS<|zG<|zG<|hr _ _ _ _ (zC N).symm H ⟨_,_,(resT rfl),zN,⟨_,rfl,rfl,rfl⟩⟩
  intro bU N;refine zR<|yV<|zZ 3 [0] [51,52] rfl<|bE N λx3 bL N=>wJ rfl rfl h1 bL ?_;intro ri kx ek cJ;obtain⟨p6,c6,rfl,h7⟩:=yF cJ;refine wC 0 ek (cAff x3 p6 c6) (vA (cAff x3 p6 c6)) rfl<|zZ 6 [] [55] rfl<|bE N λy1 bX N=>dU (dB x3 ag _ bX h7 h2) ?_;intro aT ae;have ⟨h,h2,h1,H⟩:=m4 ae h h2 h1 H;refine yI [] [11] rfl<|zY<|yA ?_;refine wZ N [hB b (cAccess a0 p1 c1)] (λt70=>[(0,vS p ai c),(2,vS p2 ag c2),(4,vP b 0),(7,vI base),(8,vI i),(9,vI n0),(10,vI k0),(11,vI y1),(70,.bool t70)]) (λo0 aC=>?_) ?_
  ·have H:=iS aT;refine zM<|zZ 3 [] [59] rfl<|xW [59] aC ?_ ?_
   ·intro cO N;exact wP [] [(70,vY)]<|yP<|zQ (ct N H)
   intro cO N;refine zZ 6 [] [60,61,62] rfl<|bE N λx4 cx N=>wJ rfl rfl h cx ?_;intro ad4 nu lG iz;obtain⟨p7,c7,rfl,h9⟩:=wN iz;refine zZ 8 [] [64] rfl<|wC 1 lG [vS p7 x4.Dims c7] (vS p7 x4.Dims c7) rfl<|zZ 10 [] [66] rfl<|bE N λx5 cV N=>wJ rfl rfl h9 cV ?_;intro ad5 ro kb jr;obtain rfl:=jr;exact wC 0 kb [vI x5] (vI x5) rfl<|yI [] [70] rfl<|yP<|zQ (ct N H)
  intro t70 aY aJ aO;have ⟨h,h2,h1,H⟩:=m4 aJ h h2 h1 H;refine zK<|yC aO ?_ ?_
  ·intro ft N;exact yG [6] rfl<|xH<|zG<|zS<|zG<|zG<|hr _ _ _ _ (zC N).symm H ⟨_,_,(resT rfl),zN,⟨_,rfl,rfl,rfl⟩⟩
  intro ft N;refine zR<|zK<|zM<|zZ 3 [] [71,72,73] rfl<|bE N λx6 eo N=>wJ rfl rfl h eo ?_;intro ad6 vp pj ue;obtain⟨p8,c8,rfl,bQ⟩:=wN ue;refine zZ 5 [] [75] rfl<|wC 1 pj [vS p8 x6.Dims c8] (vS p8 x6.Dims c8) rfl<|zZ 7 [] [77] rfl<|bE N λx7 gi N=>wJ rfl rfl bQ gi ?_;intro ad7 ccs7 hat7 uf;obtain rfl:=uf;exact wC 0 hat7 [vI x7] (vI x7) rfl<|yI [] [9] rfl<|zO<|zK<|zM<|yI [] [10] rfl<|xB<|jH<|ih (W ((W (n0*x7))+y1)) (W (k0+1)) _ N H h h2 h1 hg ho hx hr
 intro aU N;exact uR<|wI zN<|yP<|hx _ _ (zC N).symm H
def sQ(ai:(List zE))(a0:zJ)(ag:(List Int))(base:Int)(i:Int):Option (Out Unit (Int)):=do
 if(decide (i<(ai.length:Int))) then
  let x<-idx ai i;if(!(x.Name.l==a0.Array.l)) then
   let x1<-idx ai i;let y<-gU x1;sQ ai a0 ag (W (base+y)) (W (i+1))
  else
   match<-sP ai a0 ag i 0 0 with
   | .ret r0=>pure (.ret r0)
   | .done ci=>
    pure (.ret (W (base+ci)))
 else pure (.done ())
 partial_fixpoint
theorem zF1(ai:(List zE))(a0:zJ)(ag:(List Int)):∀(base:Int) (i:Int) (o:Out Unit (Int)),sQ ai a0 ag base i=some o->∀{B}{I0 I:Imm}{Q p c p1 c1 p2 c2}{b},I0.le I->(S4 I p ai c)->(S4 I p2 ag c2)->(S4 I p1 a0.Subs c1)->NG Q->NO Q->(∀I',o=(.done ())->I0.le I'->T 86 B Q (.exit 0) I' [] [])->(∀r I' ah m',o=(.ret r)->I0.le I'->RS Tryz.prog f167 B (xI  r) I' ah m'->T 86 B Q .ret I' ah m')->J Tryz.prog 86 B (nav (bodyOf f167) [1,1,0,1,0]) Q I [hB b (cAccess a0 p1 c1)] [(0,vS p ai c),(2,vS p2 ag c2),(4,vP b 0),(7,vI base),(8,vI i)]:=by
 refine sQ.partial_correctness ai a0 ag _ λaQ ih base i o N B I0 I Q p c p1 c1 p2 c2 b H h h2 h1 hg ho hx hr=>xD hg ho<|yA<|yG [15] rfl<|zK<|yC N ?_ ?_
 ·intro hc N;refine zR<|zY<|yM<|yA<|yA<|zA9 (by kernel_rfl) (by kernel_rfl)<|zCQ 2 [] [18,19] rfl<|bE N λx hy N=>zFQ rfl rfl h hy ?_;intro ad aR av al;obtain⟨p3,c3,rfl,h3⟩:=wN al;refine zCQ 4 [] [21] rfl<|zFP 0 av [vT x.Name.l] (vT x.Name.l) rfl<|zMF [0] [25] rfl<|zK<|yC N ?_ ?_
  ·intro aI N;refine yB<|zZ 3 [] [26,27,28] rfl<|bE N λx1 ay N=>wJ rfl rfl h ay ?_;intro cD bN aw ax;obtain⟨p4,c4,rfl,h4⟩:=wN ax;refine wC 0 aw (cArr x1 p4 c4) (vA (cArr x1 p4 c4)) rfl<|bE N λy aK N=>dU (zIG x1 _ aK h4) ?_;intro I0 le;have ⟨h,h2,h1,H⟩:=m4 le h h2 h1 H;exact yI [] [7] rfl<|zK<|zGO<|fR<|zT<|zK<|zM<|yI [] [8] rfl<|xB<|jH<|ih (W (base+y)) (W (i+1)) _ N H h h2 h1 hg ho hx hr
  intro aI N;refine zR<|uX [9] rfl<|zY<|yG [10] rfl<|vC<|mM [(0,vS p ai c),(2,vS p2 ag c2),(4,vP b 0),(7,vI base),(8,vI i),(9,vI 0),(10,vI 0)] ?_;obtain⟨aS,aE,aM⟩:=zB N;refine zF0 ai a0 ag i 0 0 aS aE iR h h2 h1 (λ_ _ _ h=>hg _ _ _ h) (λ_ _ h=>ho _ _ h) ?_ ?_
  ·intro bP ci ca aL;subst aS;have H:=H.trans aL;exact zT<|uX [6] rfl<|xH<|zS<|zG<|zG<|hr _ _ _ _ (zC aM).symm H ⟨_,_,(resT rfl),zN,⟨_,rfl,rfl,rfl⟩⟩
  intro r0 I9 gm m9 aV bS aW;subst aV;exact zS<|zG<|zS<|zG<|zG<|hr _ _ _ _ (zC aM).symm (H.trans bS) aW
 intro hc N;exact uR<|wI zN<|yP<|hx _  (zC N).symm H
def jJ(ai:(List zE))(a0:zJ)(ag:(List Int)):Option (Int):=do
 match<-sQ ai a0 ag 0 0 with
 | .ret r0=>pure r0
 | .done _=>
  pure (-1)
theorem zD6:∀ai a0 ag r,jJ ai a0 ag=some r->∀{I:Imm}{p c p1 c1 p2 c2},(S4 I p ai c)->(S4 I p1 a0.Subs c1)->(S4 I p2 ag c2)->RT 167 [vS p ai c,vA (cAccess a0 p1 c1),vS p2 ag c2] I [] (xI  r):=by
 intro ai a0 ag r N I p c p1 c1 p2 c2 h h1 h2;unfold jJ at N;refine yK func167 λB=>yB<|sF (cAccess a0 p1 c1) ?_;intro b hb;refine wP [] []<|uX [7] rfl<|zY<|yG [8] rfl<|vC<|mM [(0,vS p ai c),(2,vS p2 ag c2),(4,vP b 0),(7,vI 0),(8,vI 0)] ?_;obtain⟨dd,bh,dc⟩:=zB N;refine zF1 ai a0 ag 0 0 dd bh iR h h2 h1 nG nO ?_ ?_
 ·intro cI  jo bb;subst dd;refine zT<|uX [6] rfl<|zK<|yX ?_;obtain rfl:=zC dc;exact vG
 intro r0 I9 gm m9 aV bS aW;subst aV;refine zS<|zG ?_;obtain rfl:=zC dc;exact fO aW
def zBi(r:(List Int)×Int×Bool):KT:=λkk I' ah v=>
 ∃v0 v1 v2,ah=[]/\v=tupV [v0,v1,v2]/\SL I' v0 r.1/\v1=.int .i64 r.2.1/\v2=.bool r.2.2
def rB(ai:(List zE))(ag:(List Int))(y:(List zJ))(out:List Int)(i:Int):Option (Out (List Int) ((List Int)×Int×Bool)):=do
 if(decide (i<(y.length:Int))) then
  let x<-idx y i;let y1<-jJ ai x ag;if(decide (y1<0)) then pure (.ret (([]:List Int),0,F9))
  else
   let aD<-app 8 out ([y1]:List Int);rB ai ag y aD (W (i+1))
 else pure (.done out)
 partial_fixpoint
theorem zEk(ai:(List zE))(ag:(List Int))(y:(List zJ)):∀(out:List Int) (i:Int) (o:Out (List Int) ((List Int)×Int×Bool)),rB ai ag y out i=some o->∀{B}{I0 I:Imm}{Q}{s:zI}{p c p1 c1 p2 c2 p3 c3 p4 c4 p5 c5}{b}{p6 c6 cs p7 c7 aA},I0.le I->(S4 I p ai c)->(S4 I p5 ag c5)->(RL I cs y)->(S4 I p1 s.Write.Subs c1)->(S4 I p2 s.Value.Index.Coefs c2)->(S4 I p3 s.Value.Read.Subs c3)->(S4 I p4 s.Value.Kids c4)->(RL I aA out)->NG Q->NO Q->(∀I' aq p8 c8 bv,o=(.done aq)->I0.le I'->(RL I' bv aq)->T 49 B Q (.exit 0) I' [hO Int (vS p8 aq c8) bv,hB b (cStmt s p1 c1 p2 c2 p3 c3 p4 c4)] [(0,vS p ai c),(2,vS p5 ag c5),(4,vP b 0),(9,vS p8 aq c8)])->(∀r I' ah m',o=(.ret r)->I0.le I'->RS Tryz.prog f101 B (zBi  r) I' ah m'->T 49 B Q .ret I' ah m')->J Tryz.prog 49 B (nav (bodyOf f101) [1,1,1,0,1,0]) Q I [hO zJ (vS p6 y c6) cs,hO Int (vS p7 out c7) aA,hB b (cStmt s p1 c1 p2 c2 p3 c3 p4 c4)] [(0,vS p ai c),(2,vS p5 ag c5),(4,vP b 0),(9,vS p7 out c7),(10,vS p6 y c6),(11,vI i)]:=by
 refine rB.partial_correctness ai ag y _ λaQ ih out i o N B I0 I Q s p c p1 c1 p2 c2 p3 c3 p4 c4 p5 c5 b p6 c6 cs p7 c7 aA H h h5 h8 h1 h2 h3 h4 h9 hg ho hx hr=>xD hg ho<|yA<|yG [22] rfl<|zK<|yC N ?_ ?_
 ·intro hc N;refine zR<|zY<|yM<|yB<|zZ 3 [] [25,26,27] rfl<|bE N λx ay N=>kV 0 rfl rfl rfl h8 ay ?_;intro ad aR av cQ al;obtain⟨p9,c9,rfl,bB⟩:=nJ al;refine zDK 0 0 av cQ (cAccess x p9 c9) (vA (cAccess x p9 c9)) rfl rfl<|zZ 6 [] [30] rfl<|bE N λy1 aK N=>dU (zD6 ai x ag _ aK h bB h5) ?_;intro aT ae;have ⟨h,h5,h9,h8,h1,h2⟩:=m6 ae h h5 h9 h8 h1 h2;have ⟨h3,h4,H⟩:=m3 ae h3 h4 H;refine yI [] [12] rfl<|zY<|yG [33] rfl<|zK<|yC N ?_ ?_
  ·intro aI N;refine yB<|qN [] Int ?_;intro b3 ni;have cy:RL aT [] ([]:List Int):=rfl;refine yI [] [6,7,8] rfl<|xH<|zG<|zS<|zG<|zG<|xT 0 rfl ?_;intro aY aJ cH;have bV:=SL.of_frozen cH aJ cy;have H:=H.trans aJ;exact hr _ _ _ _ (zC N).symm H ⟨_,_,(.tmp rfl (resU rfl rfl)),zN,⟨_,_,_,rfl,rfl,bV,rfl,rfl⟩⟩
  intro aI N;refine zR<|zK<|zM<|zZ 2 [] [35,36] rfl<|qN [vI y1] Int ?_;intro b4 tr;have co:RL aT [vI y1] ([y1]:List Int):=rI [y1];obtain⟨aD,bc,N⟩:=zB N;exact mD 3 1 2 rfl rfl rfl h9 (.inr ⟨0,rfl⟩) co bc λbH bG bf ck=>qM (zX [1,2,3] (ah:=[hO zJ (vS p6 y c6) cs,hO Int (vS bH aD bG) bf,hB b (cStmt s p1 c1 p2 c2 p3 c3 p4 c4)]))<|yI [] [9] rfl<|zO<|zK<|zM<|yI [] [11] rfl<|xB<|jH<|ih aD (W (i+1)) _ N H h h5 h8 h1 h2 h3 h4 ck hg ho hx hr
 intro hc N;exact uR<|wI (zV [1,2] rfl (by decide))<|yP<|hx _ _ _ _ _ (zC N).symm H h9
def jP(ai:(List zE))(s:zI)(ag:(List Int)):Option ((List Int)×Int×Bool):=do
 let y<-qR ([]:List zJ) s.Value
 match<-rB ai ag y ([]:List Int) 0 with
 | .ret r0=>pure r0
 | .done aq=>
  let y2<-jJ ai s.Write ag;if(decide (y2<0)) then pure (([]:List Int),0,F9)
  else pure (aq,y2,true)
theorem zHR:∀ai s ag r,jP ai s ag=some r->∀{I:Imm}{p c p1 c1 p2 c2 p3 c3 p4 c4 p5 c5},(S4 I p ai c)->(S4 I p1 s.Write.Subs c1)->(S4 I p2 s.Value.Index.Coefs c2)->(S4 I p3 s.Value.Read.Subs c3)->(S4 I p4 s.Value.Kids c4)->(S4 I p5 ag c5)->RT 101 [vS p ai c,vA (cStmt s p1 c1 p2 c2 p3 c3 p4 c4),vS p5 ag c5] I [] (zBi  r):=by
 intro ai s ag r N I p c p1 c1 p2 c2 p3 c3 p4 c4 p5 c5 h h1 h2 h3 h4 h5;unfold jP at N;refine yK func101 λB=>yB<|sF (cStmt s p1 c1 p2 c2 p3 c3 p4 c4) ?_;intro b hb;refine wP [] []<|yV<|qN [] Int ?_;intro b1 cp;have h6:RL I [] ([]:List Int):=rfl;refine yI [] [9] rfl<|yV<|qN [] zJ ?_;intro b2 fl;have h7:RL I [] ([]:List zJ):=rfl;refine qO 3 [2] [(17,vA (cExpr s.Value p2 c2 p3 c3 p4 c4))]<|bE N λy hy N=>tU (zHQ ([]:List zJ) s.Value _ hy h7 h2 h3 h4) rfl ?_;rintro I0 au v2 k2 le - ⟨p6,c6,cs,rfl,rfl,h8⟩ -;have ⟨h,h5,h6,h1,h2,h3⟩:=m6 le h h5 h6 h1 h2 h3;have h4:=h4.mono le;refine yI [] [10] rfl<|zY<|yG [11] rfl<|vC<|mM [(0,vS p ai c),(2,vS p5 ag c5),(4,vP b 0),(9,vS (some ⟨b1,0,none⟩) ([]:List Int) 0),(10,vS p6 y c6),(11,vI 0)] ?_;obtain⟨o0,aC,aM⟩:=zB N;refine zEk ai ag y ([]:List Int) 0 o0 aC iR h h5 h8 h1 h2 h3 h4 h6 nG nO ?_ ?_
 ·intro bP aq p8 c8 bv ec aL bQ;subst o0;have ⟨h,h5,h1⟩:=m3 aL h h5 h1;refine zT<|yV<|qO 4 [1] [(39,vS p ai c),(41,vA (cAccess s.Write p1 c1)),(42,vS p5 ag c5)] ?_;obtain⟨y2,bL,N⟩:=zB aM;refine dU (zD6 ai s.Write ag _ bL h h1 h5) ?_;intro cI bb;have bQ:=iM bb bQ;refine yI [] [13] rfl<|zY<|yG [45] rfl<|zK<|yC N ?_ ?_
  ·intro aU N;refine yB<|qN [] Int ?_;intro b5 hb5;have bY:RL cI [] ([]:List Int):=rfl;refine yI [] [6,7,8] rfl<|xH<|zG<|xT 0 rfl ?_;intro dw bI cZ;have d9:=SL.of_frozen cZ bI bY;exact wD N (.tmp rfl (resU rfl rfl)) zN ⟨_,_,_,rfl,rfl,d9,rfl,rfl⟩
  intro aU N;refine zR<|uX [6,7,8] rfl<|xH<|xT 0 rfl ?_;intro gk bJ cF;have dm:=SL.of_frozen cF bJ bQ;exact wD N (.tmp rfl (resU rfl rfl)) zN ⟨_,_,_,rfl,rfl,dm,rfl,rfl⟩
 intro r0 I9 gm m9 aV bS aW;subst aV;refine zS<|zG ?_;obtain rfl:=zC aM;exact fO aW
def rC(p:(List Int))(i:Int):Option (Out Unit (Bool)):=do
 if(decide (i<(p.length:Int))) then
  let x<-idx p i;let y<-tH x 9999;if(!y) then pure (.ret false)
  else rC p (W (i+1))
 else pure (.done ())
 partial_fixpoint
theorem zEl(p:(List Int)):∀(i:Int) (o:Out Unit (Bool)),rC p i=some o->∀{B}{I0 I:Imm}{Q p1 c},I0.le I->(S4 I p1 p c)->NG Q->NO Q->(∀I',o=(.done ())->I0.le I'->T 19 B Q (.exit 0) I' [] [(0,vS p1 p c)])->(∀r I' ah m',o=(.ret r)->I0.le I'->RS Tryz.prog f102 B (zU  r) I' ah m'->T 19 B Q .ret I' ah m')->J Tryz.prog 19 B (nav (bodyOf f102) [1,0,1,0]) Q I [] [(0,vS p1 p c),(3,vI i)]:=by
 refine rC.partial_correctness p _ λaQ ih i o N B I0 I Q p1 c H h hg ho hx hr=>xD hg ho<|yA<|yG [7] rfl<|zK<|yC N ?_ ?_
 ·intro hc N;refine zR<|zY<|yM<|yB<|zZ 2 [] [10,11] rfl<|bE N λx hy N=>wJ rfl rfl h hy ?_;intro ad aR av al;obtain rfl:=al;refine wC 0 av [vI x] (vI x) rfl<|bE N λy ay N=>uU (zAb x 9999 _ ay ) ?_;intro I0 le;have ⟨h,H⟩:=m2 le h H;refine yI [] [15] rfl<|zK<|yC N ?_ ?_
  ·intro aI N;exact vO [(2,vF)]<|xH<|zS<|zG<|zG<|hr _ _ _ _ (zC N).symm H ⟨_,_,(resT rfl),zN,⟨_,rfl,rfl,rfl⟩⟩
  intro aI N;exact zR<|zO<|zK<|zM<|yI [] [3] rfl<|xB<|jH<|ih (W (i+1)) _ N H h hg ho hx hr
 intro hc N;exact uR<|yP<|hx _  (zC N).symm H
def jQ(p:(List Int)):Option (Bool):=do
 match<-rC p 0 with
 | .ret r0=>pure r0
 | .done _=>
  pure (decide ((p.length:Int)<=4))
theorem zHS:∀p r,jQ p=some r->∀{I:Imm}{p1 c},(S4 I p1 p c)->RT 102 [vS p1 p c] I [] (zU  r):=by
 intro p r N I p1 c h;unfold jQ at N;refine yK func102 λB=>vO []<|zY<|yG [3] rfl<|vC<|mM [(0,vS p1 p c),(3,vI 0)] ?_;obtain⟨o0,aC,aM⟩:=zB N;refine zEl p 0 o0 aC iR h nG nO ?_ ?_
 ·intro aT  ec ae;subst o0;refine zT<|uX [2] rfl<|zK<|yX ?_;obtain rfl:=zC aM;exact vG
 intro r0 I9 gm m9 aV bS aW;subst aV;refine zS<|zG ?_;obtain rfl:=zC aM;exact fO aW
def fG(r:Int×Bool):KT:=λkk I' ah v=>
 ∃v0 v1,ah=[]/\v=tupV [v0,v1]/\v0=.int .i64 r.1/\v1=.bool r.2
def sR(ai:(List zE))(part:zL)(y1:(List (List Int)))(i:Int)(k0:Int):Option (Out Unit (Int×Bool)):=do
 if(decide (k0<(y1.length:Int))) then
  let x1<-idx part.Body i;let x2<-idx y1 k0;let (y5,y6,y7)<-jP ai x1 x2;let t80<-(do
   if(!y7) then pure true
   else
    let x3<-idx y1 k0;let y8<-jQ x3;pure (!y8)
     : Option Bool)
  if t80 then pure (.ret (0,F9))
  else sR ai part y1 i (W (k0+1))
 else pure (.done ())
 partial_fixpoint
theorem zF2(ai:(List zE))(part:zL)(y1:(List (List Int)))(i:Int):∀(k0:Int) (o:Out Unit (Int×Bool)),sR ai part y1 i k0=some o->∀{B}{I0 I:Imm}{Q p c p1 c1 p2 c2}{b}{p3 c3},I0.le I->(S4 I p ai c)->(S4 I p3 y1 c3)->(S4 I p1 part.Nest c1)->(S4 I p2 part.Body c2)->NG Q->NO Q->(∀I',o=(.done ())->I0.le I'->T 87 B Q (.exit 2) I' [hB b (cPart part p1 c1 p2 c2)] [(0,vS p ai c),(3,vP b 0),(6,vS p3 y1 c3),(8,vI i)])->(∀r I' ah m',o=(.ret r)->I0.le I'->RS Tryz.prog f45 B (fG  r) I' ah m'->T 87 B Q .ret I' ah m')->J Tryz.prog 87 B (nav (bodyOf f45) [1,1,1,0,1,0,0,1,0,0,1,1,0]) Q I [hB b (cPart part p1 c1 p2 c2)] [(0,vS p ai c),(3,vP b 0),(6,vS p3 y1 c3),(8,vI i),(9,vI k0)]:=by
 refine sR.partial_correctness ai part y1 i _ λaQ ih k0 o N B I0 I Q p c p1 c1 p2 c2 b p3 c3 H h h3 h1 h2 hg ho hx hr=>xD hg ho<|yA<|yG [53] rfl<|zK<|yC N ?_ ?_
 ·intro ft N;refine zR<|zY<|yM<|yA ?_;obtain⟨x1,bc,N⟩:=zB N;obtain⟨x2,bL,N⟩:=zB N;obtain⟨⟨y5,y6,y7⟩,bX,N⟩:=zB N;refine vK [.p (vS p ai c) [],.p (vP b 1) [],.p (vS p2 part.Body c2) [0],.p (vI i) [],.x (ePStmt x1),.x (eVStmt x1),.p (vS p3 y1 c3) [],.p (vI k0) [],.x (λI' v hx=>∃jm ce bx,v=.pointer (some jm)/\hx=[]/\(At I' jm [vS ce x2 bx])/\(S4 I' ce x2 bx)),.x (eS x2),.x (λI' v hx=>∃br bM,v=.tuple ⟨[vS br y5 bM,vI y6,.bool y7]⟩/\hx=[]/\(S4 I' br y5 bM)),.x (λI' v hx=>∃sd rn,v=.tuple ⟨[vS sd y5 rn,vI y6,.bool y7]⟩/\hx=[]/\(S4 I' sd y5 rn)),.x (eS y5),.q (vI y6),.q (.bool y7),.x (eS y5),.p (vI y6) []] [[],[],[(1,F9)],[],[(2,F9),(3,F9)],[(4,F9)],[],[],[(6,F9),(7,F9)],[(8,F9)],[(0,F9),(5,F9),(9,F9)],[(10,F9)],[(11,F9)],[(11,F9)],[(11,F9)],[(12,F9)],[(13,F9)]] [hB b (cPart part p1 c1 p2 c2)] [] [(14,F9)] (zX [0]) ?_ ?_
  ·refine O4<|Ox ?_<|Ox ?_<|O2<|Ox ?_<|Ox ?_<|Ox ?_<|Ox ?_<|Ox ?_<|Oq ?_<|Oq ?_<|Ox ?_<|Op<|On
   ·intro I1 hf ae;refine yW [59,60] rfl ?_;have h2:=h2.mono ae;refine wJ rfl rfl h2 bc ?_;intro cD bN aw ax;obtain⟨p8,c8,p9,c9,bH,bG,bd,bj,rfl,bQ,bB,bW,cy⟩:=rJ ax;exact xC [] iR ⟨_,_,_,_,_,_,_,_,_,rfl,rfl,aw,bQ,bB,bW,cy⟩
   ·rintro I1 hf ae _ _ ⟨cD,p8,c8,p9,c9,bH,bG,bd,bj,rfl,rfl,aw,bQ,bB,bW,cy⟩;exact yW [61] rfl<|wC 0 aw (cStmt x1 p8 c8 p9 c9 bH bG bd bj) (vA (cStmt x1 p8 c8 p9 c9 bH bG bd bj)) rfl<|xC [] iR ⟨_,_,_,_,_,_,_,_,rfl,rfl,bQ,bB,bW,cy⟩
   ·intro I1 hf ae;refine yW [63,64] rfl ?_;have h3:=h3.mono ae;refine wJ rfl rfl h3 bL ?_;intro jm gn cd bO;obtain⟨v011,rfl,bV⟩:=bO;obtain⟨ce,bx,rfl⟩:=bV.form;exact xC [] iR ⟨_,_,_,rfl,rfl,cd,bV⟩
   ·rintro I1 hf ae _ _ ⟨jm,ce,bx,rfl,rfl,cd,bV⟩;exact yW [65] rfl<|wC 0 cd [vS ce x2 bx] (vS ce x2 bx) rfl<|xC [] iR ⟨_,_,rfl,rfl,bV⟩
   ·rintro I1 hf ae _ _ ⟨rfl,rfl⟩ _ _ ⟨p81,c81,p91,c91,wi,vm,sc,rm,rfl,rfl,mt,lE,tk,h131⟩ _ _ ⟨ul,tf,rfl,rfl,h141⟩;refine yW [57,62,66] rfl ?_;have H:=iS I1;have h:=h.mono ae;refine xG (zHR ai x1 x2 _ bX h mt lE tk h131 h141) ?_;rintro cI au v2 k2 bb - ⟨sj,qe,om,rfl,rfl,co,rfl,rfl⟩ -;have H:=H.trans bb;obtain⟨br,bM,rfl⟩:=co.form;exact xC [] H ⟨_,_,rfl,rfl,co⟩
   ·rintro I1 hf ae _ _ ⟨br,bM,rfl,rfl,co⟩;exact yW [67] rfl<|pQ 12 [(56,.tuple ⟨[vS br y5 bM,vI y6,.bool y7]⟩)]<|xC [] iR ⟨_,_,rfl,rfl,co⟩
   ·rintro I1 hf ae _ _ ⟨sd,rn,rfl,rfl,h151⟩;exact yW [56] rfl<|pQ 13 [(68,vS sd y5 rn)]<|xC [] iR ⟨_,_,rfl,rfl,h151⟩
   ·rintro I1 hf ae _ _ ⟨sd,rn,rfl,rfl,h151⟩;exact yW [56] rfl<|pQ 14 [(69,vI y6)]<|yQ iR
   ·rintro I1 hf ae _ _ ⟨sd,rn,rfl,rfl,h151⟩;exact yW [56] rfl<|pQ 15 [(70,.bool y7)]<|yQ iR
   rintro I1 hf ae _ _ ⟨p1311,c1311,rfl,rfl,h1511⟩;exact yW [68] rfl<|pQ 16 [(10,vS p1311 y5 c1311)]<|xC [] iR ⟨_,_,rfl,rfl,h1511⟩
  intro dw bI;refine yW [0,3,6,8,9,70] rfl ?_;have ⟨h,h3,h1,h2,H⟩:=m5 bI h h3 h1 h2 H;refine yI [] [12] rfl<|zK<|yA ?_;refine wZ N [hB b (cPart part p1 c1 p2 c2)] (λt80=>[(0,vS p ai c),(3,vP b 0),(6,vS p3 y1 c3),(8,vI i),(9,vI k0),(80,.bool t80)]) (λaS aE=>?_) ?_
  ·have H:=iS dw;refine zM<|zZ 3 [] [73] rfl<|xW [73] aE ?_ ?_
   ·intro iU N;exact wP [] [(80,vY)]<|yP<|zQ (ct N H)
   intro iU N;refine zZ 5 [] [74,75] rfl<|bE N λx3 cx N=>wJ rfl rfl h3 cx ?_;intro ri kx ek cJ;obtain⟨uu,rfl,bY⟩:=cJ;obtain⟨de,cW,rfl⟩:=bY.form;refine wC 0 ek [vS de x3 cW] (vS de x3 cW) rfl<|bE N λy8 cV N=>uU (zHS x3 _ cV bY) ?_;intro ij bJ;have H:=H.trans bJ;exact yI [] [80] rfl<|yP<|zQ (ct N H)
  intro t80 gk bZ bK;have ⟨h,h3,h1,h2,H⟩:=m5 bZ h h3 h1 h2 H;refine zK<|yC bK ?_ ?_
  ·intro kq N;exact yG [4,5] rfl<|xH<|zS<|zG<|zG<|hr _ _ _ _ (zC N).symm H ⟨_,_,(resU rfl rfl),zN,⟨_,_,rfl,rfl,rfl,rfl⟩⟩
  intro kq N;exact zR<|zO<|zK<|zM<|yI [] [9] rfl<|xB<|jH<|ih (W (k0+1)) _ N H h h3 h1 h2 hg ho hx hr
 intro ft N;exact uR<|yP<|hx _  (zC N).symm H
def sS(ai:(List zE))(part:zL)(y1:(List (List Int)))(i:Int):Option (Out Unit (Int×Bool)):=do
 if(decide (i<(part.Body.length:Int))) then
  let x<-idx part.Body i;let y3<-pE x (part.Nest.length:Int);if(!y3) then pure (.ret (0,F9))
  else
   match<-sR ai part y1 i 0 with
   | .ret r0=>pure (.ret r0)
   | .done _=>
    sS ai part y1 (W (i+1))
 else pure (.done ())
 partial_fixpoint
theorem zF3(ai:(List zE))(part:zL)(y1:(List (List Int))):∀(i:Int) (o:Out Unit (Int×Bool)),sS ai part y1 i=some o->∀{B}{I0 I:Imm}{Q p c p1 c1 p2 c2}{b}{p3 c3},I0.le I->(S4 I p ai c)->(S4 I p3 y1 c3)->(S4 I p1 part.Nest c1)->(S4 I p2 part.Body c2)->NG Q->NO Q->(∀I',o=(.done ())->I0.le I'->T 87 B Q (.exit 0) I' [hB b (cPart part p1 c1 p2 c2)] [(3,vP b 0),(6,vS p3 y1 c3)])->(∀r I' ah m',o=(.ret r)->I0.le I'->RS Tryz.prog f45 B (fG  r) I' ah m'->T 87 B Q .ret I' ah m')->J Tryz.prog 87 B (nav (bodyOf f45) [1,1,1,0,1,0]) Q I [hB b (cPart part p1 c1 p2 c2)] [(0,vS p ai c),(3,vP b 0),(6,vS p3 y1 c3),(8,vI i)]:=by
 refine sS.partial_correctness ai part y1 _ λaQ ih i o N B I0 I Q p c p1 c1 p2 c2 b p3 c3 H h h3 h1 h2 hg ho hx hr=>xD hg ho<|yA<|yB<|yI [0] [37] rfl<|zK<|yC N ?_ ?_
 ·intro bU N;refine zR<|zY<|yM<|yA<|yA ?_;obtain⟨x,ay,N⟩:=zB N;obtain⟨y3,aK,N⟩:=zB N;refine vK [.p (vP b 1) [],.p (vS p2 part.Body c2) [0],.p (vI i) [],.x (ePStmt x),.x (eVStmt x),.p (vP b 0) [],.p (vS p1 part.Nest c1) [0],.p (vI (part.Nest.length:Int)) [],.q (.bool y3),.p (.bool (!y3)) []] [[],[(0,F9)],[],[(1,F9),(2,F9)],[(3,F9)],[],[(5,F9)],[(6,F9)],[(4,F9),(7,F9)],[(8,F9)]] [hB b (cPart part p1 c1 p2 c2)] [] [(9,F9)] (zX [0]) ?_ ?_
  ·refine O3<|Ox ?_<|Ox ?_<|O3<|Oq ?_<|Op<|On
   ·intro I1 hf ae;refine yW [41,42] rfl ?_;have h2:=h2.mono ae;refine wJ rfl rfl h2 ay ?_;intro ad aR av al;obtain⟨p4,c4,p5,c5,p6,c6,p7,c7,rfl,h5,h6,h7,h8⟩:=rJ al;exact xC [] iR ⟨_,_,_,_,_,_,_,_,_,rfl,rfl,av,h5,h6,h7,h8⟩
   ·rintro I1 hf ae _ _ ⟨ad,p4,c4,p5,c5,p6,c6,p7,c7,rfl,rfl,av,h5,h6,h7,h8⟩;exact yW [43] rfl<|wC 0 av (cStmt x p4 c4 p5 c5 p6 c6 p7 c7) (vA (cStmt x p4 c4 p5 c5 p6 c6 p7 c7)) rfl<|xC [] iR ⟨_,_,_,_,_,_,_,_,rfl,rfl,h5,h6,h7,h8⟩
   rintro I1 hf ae _ _ ⟨iJ,iF,xk,c51,vi,th,sr,wx,rfl,rfl,gu,uz,rr,h81⟩;refine yW [44,47] rfl ?_;have H:=iS I1;refine uU (zAQ x (part.Nest.length:Int) _ aK gu uz rr h81) ?_;intro aY aJ;have H:=H.trans aJ;exact yQ H
  intro bP aL;refine yW [0,3,6,8,49] rfl ?_;have ⟨h,h3,h1,h2,H⟩:=m5 aL h h3 h1 h2 H;refine zW rfl<|zK<|yC N ?_ ?_
  ·intro cO N;exact yG [4,5] rfl<|xH<|zG<|zS<|zG<|zG<|hr _ _ _ _ (zC N).symm H ⟨_,_,(resU rfl rfl),zN,⟨_,_,rfl,rfl,rfl,rfl⟩⟩
  intro cO N;refine zR<|uX [9] rfl<|vC<|mM [(0,vS p ai c),(3,vP b 0),(6,vS p3 y1 c3),(8,vI i),(9,vI 0)] ?_;obtain⟨dd,bh,aM⟩:=zB N;refine zF2 ai part y1 i 0 dd bh iR h h3 h1 h2 (λ_ _ _ h=>hg _ _ _ h) (λ_ _ h=>ho _ _ h) ?_ ?_
  ·intro iE  jo dt;subst dd;have ⟨h,h3,h1,h2,H⟩:=m5 dt h h3 h1 h2 H;exact zT<|zO<|zK<|zM<|yI [] [8] rfl<|xB<|jH<|ih (W (i+1)) _ aM H h h3 h1 h2 hg ho hx hr
  intro r0 I9 gm m9 aV bS aW;subst aV;exact zS<|zS<|zG<|zG<|hr _ _ _ _ (zC aM).symm (H.trans bS) aW
 intro bU N;exact uR<|yP<|hx _  (zC N).symm H
def kJ(ai:(List zE))(part:zL):Option (Int×Bool):=do
 let (y1,y2)<-nM part.Nest;let qd<-(do
  if(!y2) then pure true
  else
   if(decide ((part.Body.length:Int)<1)) then pure true
   else
    pure (decide ((part.Body.length:Int)>4))
    : Option Bool)
 if qd then pure (0,F9)
 else
  match<-sS ai part y1 0 with
  | .ret r0=>pure r0
  | .done _=>
   pure ((W ((y1.length:Int)*(part.Body.length:Int))),true)
theorem zBY:∀ai part r,kJ ai part=some r->∀{I:Imm}{p c p1 c1 p2 c2},(S4 I p ai c)->(S4 I p1 part.Nest c1)->(S4 I p2 part.Body c2)->RT 45 [vS p ai c,vA (cPart part p1 c1 p2 c2)] I [] (fG  r):=by
 intro ai part r N I p c p1 c1 p2 c2 h h1 h2;unfold kJ at N;refine yK func45 λB=>?_;have H:=iS I;refine yB<|sF (cPart part p1 c1 p2 c2) ?_;intro b hb;refine wP [] []<|yV<|zZ 2 [0] [15] rfl ?_;obtain⟨⟨y1,y2⟩,hy,N⟩:=zB N;refine xG (zEj part.Nest _ hy h1) ?_;rintro I0 au v2 k2 le - ⟨v0,gx,rfl,rfl,h3,rfl⟩ -;have ⟨h,h1,h2,H⟩:=m4 le h h1 h2 H;obtain⟨p3,c3,rfl⟩:=h3.form;refine yI [] [6,7] rfl<|zY<|yA ?_;refine wZ N [hB b (cPart part p1 c1 p2 c2)] (λqd=>[(0,vS p ai c),(3,vP b 0),(6,vS p3 y1 c3),(32,.bool qd)]) (λo0 aC=>?_) ?_
 ·have H:=iS I0;refine zM<|zZ 3 [] [21] rfl<|xW [21] aC ?_ ?_
  ·intro hc N;exact wP [] [(32,vY)]<|yP<|zQ (ct N H)
  intro hc N;refine zZ 9 [0] [27] rfl<|xW [27] N ?_ ?_
  ·intro aI N;exact wP [] [(32,vY)]<|yP<|zQ (ct N H)
  intro aI N;exact yI [0] [32] rfl<|yP<|zQ (ct N H)
 intro qd aT ae aO;have ⟨h,h3,h1,h2⟩:=m4 ae h h3 h1 h2;refine zK<|yC aO ?_ ?_
 ·intro aU N;refine yG [4,5] rfl<|xH<|zG ?_;exact wD N (resU rfl rfl) zN ⟨_,_,rfl,rfl,rfl,rfl⟩
 intro aU N;refine zR<|zY<|yG [8] rfl<|vC<|mM [(0,vS p ai c),(3,vP b 0),(6,vS p3 y1 c3),(8,vI 0)] ?_;obtain⟨fw,cu,dc⟩:=zB N;refine zF3 ai part y1 0 fw cu iR h h3 h1 h2 nG nO ?_ ?_
 ·intro jx  lI bS;subst fw;refine zT<|yV<|yI [0] [4,5] rfl<|zK<|yX ?_;exact wD dc (resU rfl rfl) zN ⟨_,_,rfl,rfl,rfl,rfl⟩
 intro r0 I9 gm m9 aV bS aW;subst aV;refine zS<|zG ?_;obtain rfl:=zC dc;exact fO aW
def vR(p:zH)(ed:Int)(i:Int):Option (Out Int (Bool)):=do
 if(decide (i<(p.Parts.length:Int))) then
  let x<-idx p.Parts i;let (y2,y3)<-kJ p.Arrays x;if(!y3) then pure (.ret false)
  else vR p (W (ed+y2)) (W (i+1))
 else pure (.done ed)
 partial_fixpoint
theorem zCU(p:zH):∀(ed:Int) (i:Int) (o:Out Int (Bool)),vR p ed i=some o->∀{B}{I0 I:Imm}{Q p1 c p2 c1}{b},I0.le I->(S4 I p1 p.Arrays c)->(S4 I p2 p.Parts c1)->NG Q->NO Q->(∀I' lS,o=(.done lS)->I0.le I'->T 42 B Q (.exit 0) I' [] [(3,vI lS)])->(∀r I' ah m',o=(.ret r)->I0.le I'->RS Tryz.prog f12 B (zU  r) I' ah m'->T 42 B Q .ret I' ah m')->J Tryz.prog 42 B (nav (bodyOf f12) [1,1,1,0,1,0]) Q I [hB b (cProg p p1 c p2 c1)] [(1,vP b 0),(3,vI ed),(4,vI i)]:=by
 refine vR.partial_correctness p _ λaQ ih ed i o N B I0 I Q p1 c p2 c1 b H h h1 hg ho hx hr=>xD hg ho<|yA<|yB<|yI [0] [21] rfl<|zK<|yC N ?_ ?_
 ·intro aU N;refine zR<|zY<|yM<|yA ?_;obtain⟨x,ay,N⟩:=zB N;obtain⟨⟨y2,y3⟩,aK,N⟩:=zB N;refine vK [.p (vP b 0) [],.p (vS p1 p.Arrays c) [0],.p (vP b 1) [],.p (vS p2 p.Parts c1) [0],.p (vI i) [],.x (ePPart x),.x (eVPart x),.q (.tuple ⟨[vI y2,.bool y3]⟩),.p (.tuple ⟨[vI y2,.bool y3]⟩) [],.p (vI y2) [],.p (.bool y3) [],.p (vI y2) []] [[],[(0,F9)],[],[(2,F9)],[],[(3,F9),(4,F9)],[(5,F9)],[(1,F9),(6,F9)],[(7,F9)],[(8,F9)],[(8,F9)],[(9,F9)]] [hB b (cProg p p1 c p2 c1)] [] [(10,F9),(11,F9)] (zX [0]) ?_ ?_
  ·refine O4<|Op<|Ox ?_<|Ox ?_<|Oq ?_<|O4<|On
   ·intro I1 hf ae;refine yW [28,29] rfl ?_;have h1:=h1.mono ae;refine wJ rfl rfl h1 ay ?_;intro ad aR av al;obtain⟨p3,c2,p4,c3,rfl,h3,h4⟩:=uK al;exact xC [] iR ⟨_,_,_,_,_,rfl,rfl,av,h3,h4⟩
   ·rintro I1 hf ae _ _ ⟨ad,p3,c2,p4,c3,rfl,rfl,av,h3,h4⟩;exact yW [30] rfl<|wC 0 av (cPart x p3 c2 p4 c3) (vA (cPart x p3 c2 p4 c3)) rfl<|xC [] iR ⟨_,_,_,_,rfl,rfl,h3,h4⟩
   rintro I1 hf ae _ _ ⟨rfl,rfl⟩ _ _ ⟨kn,c21,iJ,l8,rfl,rfl,gt,ka⟩;refine yW [26,31] rfl ?_;have H:=iS I1;have h:=h.mono ae;refine xG (zBY p.Arrays x _ aK h gt ka) ?_;rintro aY au v2 k2 aJ - ⟨ng,ee,rfl,rfl,rfl,rfl⟩ -;have H:=H.trans aJ;exact yQ H
  intro bP aL;refine yW [1,3,4,5,34] rfl ?_;have ⟨h,h1,H⟩:=m3 aL h h1 H;refine yI [] [6] rfl<|zY<|yG [36] rfl<|zK<|yC N ?_ ?_
  ·intro bU N;exact vO [(2,vF)]<|xH<|zG<|zS<|zG<|zG<|hr _ _ _ _ (zC N).symm H ⟨_,_,(resT rfl),zN,⟨_,rfl,rfl,rfl⟩⟩
  intro bU N;exact zR<|zK<|zM<|yI [] [3] rfl<|zO<|zK<|zM<|yI [] [4] rfl<|xB<|jH<|ih (W (ed+y2)) (W (i+1)) _ N H h h1 hg ho hx hr
 intro aU N;exact uR<|wI zN<|yP<|hx _ _ (zC N).symm H
def uH(p:zH):Option (Bool):=do
 let t16<-(do
  let y<-jB p.Arrays;if(!y) then pure true
  else
   pure (decide ((p.Parts.length:Int)>4))
    : Option Bool)
 if t16 then pure false
 else
  match<-vR p 0 0 with
  | .ret r0=>pure r0
  | .done lS=>
   pure (decide (lS<=120))
theorem tL:∀p r,uH p=some r->∀{I:Imm}{p1 c p2 c1},(S4 I p1 p.Arrays c)->(S4 I p2 p.Parts c1)->RT 12 [vA (cProg p p1 c p2 c1)] I [] (zU  r):=by
 intro p r N I p1 c p2 c1 h h1;unfold uH at N;refine yK func12 λB=>?_;have H:=iS I;refine yB<|sF (cProg p p1 c p2 c1) ?_;intro b hb;refine wP [] []<|zY<|yA ?_;refine wZ N [hB b (cProg p p1 c p2 c1)] (λt16=>[(1,vP b 0),(16,.bool t16)]) (λo0 aC=>?_) ?_
 ·have H:=iS I;refine zM<|zZ 2 [0] [8] rfl ?_;obtain⟨y,hy,N⟩:=zB aC;refine uU (zGY p.Arrays _ hy h) ?_;intro aT le;have H:=H.trans le;refine zZ 5 [] [11] rfl<|xW [11] N ?_ ?_
  ·intro hc N;exact wP [] [(16,vY)]<|yP<|zQ (ct N H)
  intro hc N;exact yI [0] [16] rfl<|yP<|zQ (ct N H)
 intro t16 I0 ae aO;have ⟨h,h1⟩:=m2 ae h h1;refine zK<|yC aO ?_ ?_
 ·intro aI N;refine vO [(2,vF)]<|xH<|zG ?_;obtain rfl:=zC N;exact vG
 intro aI N;refine zR<|uX [3] rfl<|zY<|yG [4] rfl<|vC<|mM [(1,vP b 0),(3,vI 0),(4,vI 0)] ?_;obtain⟨aS,aE,aM⟩:=zB N;refine zCU p 0 0 aS aE iR h h1 nG nO ?_ ?_
 ·intro cI lS ca bb;subst aS;refine zT<|uX [2] rfl<|zK<|yX ?_;obtain rfl:=zC aM;exact vG
 intro r0 I9 gm m9 aV bS aW;subst aV;refine zS<|zG ?_;obtain rfl:=zC aM;exact fO aW
def zG3(r:(List zE)):KT:=λkk I' ah v=>
 ∃v0,ah=[]/\v=tupV [v0]/\SL I' v0 r
def gV :Option ((List zE)):=do
 pure ([(zE.mk (⟨[65]⟩:Str) ([6]:List Int)),(zE.mk (⟨[66]⟩:Str) ([4,5]:List Int)),(zE.mk (⟨[67]⟩:Str) ([3]:List Int))]:List zE)
theorem zAS:∀r,gV =some r->∀{I:Imm} ,RT 104 [] I [] (zG3  r):=by
 intro  r N I;unfold gV at N;refine yK func104 λB=>vO []<|yV<|qN [vI 6] Int ?_;intro b hb;have h:RL I [vI 6] ([6]:List Int):=rI [6];refine zZ 2 [] [2] rfl<|qN [vI 4,vI 5] Int ?_;intro b1 cp;have h1:RL I [vI 4,vI 5] ([4,5]:List Int):=rI [4,5];refine zZ 4 [] [4] rfl<|qN [vI 3] Int ?_;intro b2 fl;have h2:RL I [vI 3] ([3]:List Int):=rI [3];refine zZ 6 [] [6] rfl<|wG 2 rfl ?_;intro I0 le cH;have h3:=SL.of_frozen cH le h;have ⟨h1,h2⟩:=m2 le h1 h2;refine wG 1 rfl ?_;intro aT ae cZ;have h4:=SL.of_frozen cZ ae h1;have ⟨h3,h2⟩:=m2 ae h3 h2;refine wG 0 rfl ?_;intro aY aJ cF;have h5:=SL.of_frozen cF aJ h2;have ⟨h3,h4⟩:=m2 aJ h3 h4;refine qN [vT ([65]),vS (some ⟨b,0,none⟩) ([6]:List Int) 1,vT ([66]),vS (some ⟨b1,0,none⟩) ([4,5]:List Int) 2,vT ([67]),vS (some ⟨b2,0,none⟩) ([3]:List Int) 1] zE ?_;intro b3 ni;have h6:RL aY [vT ([65]),vS (some ⟨b,0,none⟩) ([6]:List Int) 1,vT ([66]),vS (some ⟨b1,0,none⟩) ([4,5]:List Int) 2,vT ([67]),vS (some ⟨b2,0,none⟩) ([3]:List Int) 1] ([(zE.mk (⟨[65]⟩:Str) ([6]:List Int)),(zE.mk (⟨[66]⟩:Str) ([4,5]:List Int)),(zE.mk (⟨[67]⟩:Str) ([3]:List Int))]:List zE):=⟨[vT ([65]),vS (some ⟨b,0,none⟩) ([6]:List Int) 1],_,rfl,rfl,(sL ⟨_,rfl,h3⟩),⟨[vT ([66]),vS (some ⟨b1,0,none⟩) ([4,5]:List Int) 2],_,rfl,rfl,(sL ⟨_,rfl,h4⟩),⟨[vT ([67]),vS (some ⟨b2,0,none⟩) ([3]:List Int) 1],_,rfl,rfl,(sL ⟨_,rfl,h5⟩),rfl⟩⟩⟩;refine yI [] [0] rfl<|xH<|xT 0 rfl ?_;intro bP aL lg;have h7:=SL.of_frozen lg aL h6;exact wD N (resT rfl) zN ⟨_,rfl,rfl,h7⟩
def zD7(b0:Nat)(r:Int×zP):KT:=λkk I' ah v=>
 ∃v0 k0,ah=[.blk b0 ⟨k0⟩]/\v=tupV [v0]/\v0=.int .i64 r.1/\Rp.rep I' k0 r.2
def xF(r0:zP)(n0:Int):Option (Int×zP):=do
 let q6<-(do
  if(decide (n0<1)) then pure true
  else
   pure ((r0.b.length:Int)==0)
    : Option Bool)
 if q6 then pure (0,(zP.mk r0.b (W (r0.p+1))))
 else
  if(decide ((W ((W (r0.p+1)) - 1))<(r0.b.length:Int))) then
   let x<-idx r0.b (W ((W (r0.p+1)) - 1));let q<-rem (W (x.toNat:Int)) n0;pure (q,(zP.mk r0.b (W (r0.p+1))))
  else
   let q1<-rem (W ((W (r0.p+1)) - 1)) (r0.b.length:Int);let x1<-idx r0.b q1;let q2<-rem (W ((W ((W ((W (r0.p+1)) - 1))*7))+3)) (r0.b.length:Int);let x2<-idx r0.b q2;let q3<-quo (W ((W (r0.p+1)) - 1)) (r0.b.length:Int);let q4<-rem (W (BitVec.ofInt IntKind.i64.bits (W ((W ((W ((W ((W (x1.toNat:Int))*131))+(W ((W (x2.toNat:Int))*1117))))+(W ((W ((W (r0.p+1)) - 1))*29))))+(W (q3*53)))) ^^^ BitVec.ofInt IntKind.i64.bits (W ((W ((W ((W ((W ((W (x1.toNat:Int))*131))+(W ((W (x2.toNat:Int))*1117))))+(W ((W ((W (r0.p+1)) - 1))*29))))+(W (q3*53)))).tdiv 64))).toNat) n0;pure (q4,(zP.mk r0.b (W (r0.p+1))))
theorem xX:∀r0 n0 r,xF r0 n0=some r->∀{I:Imm}{ap}{p c},(S4 I p r0.b c)->RT 68 [vP ap 0,vI n0] I [hB ap (cRd r0 p c)] (zD7 ap r):=by
 intro r0 n0 r N I ap p c h;unfold xF at N;refine yK func68 λB=>?_;have H:=iS I;refine vO []<|yV<|zZ 8 [0] [12,14] rfl<|yZ 0 [vS p r0.b c,vI (W (r0.p+1))] rfl<|zW rfl<|zY<|yA ?_;refine wZ N [hB ap [vS p r0.b c,vI (W (r0.p+1))]] (λq6=>[(0,vP ap 0),(1,vI n0),(24,.bool q6)]) (λo0 aC=>?_) ?_
 ·have H:=iS I;refine zM<|zZ 3 [] [17] rfl<|xW [17] aC ?_ ?_
  ·intro hc N;exact wP [] [(24,vY)]<|yP<|zQ (ct N H)
  intro hc N;exact yI [0] [24] rfl<|yP<|zQ (ct N H)
 intro q6 I0 le aO;have h:=h.mono le;refine zK<|yC aO ?_ ?_
 ·intro aI N;refine yG [4] rfl<|xH<|zG ?_;exact wD N (resT rfl) (zV [0] rfl (by decide)) ⟨_,_,rfl,rfl,rfl,(xE ⟨_,rfl,h⟩)⟩
 intro aI N;refine zR<|yV<|yI [0] [5] rfl<|zY<|yB<|yI [0] [36] rfl<|zK<|yC N ?_ ?_
 ·intro aU N;refine yB<|zZ 5 [0] [40,41] rfl<|bE N λx hy N=>wJ rfl rfl h hy ?_;intro ad aR av al;obtain rfl:=al;refine wC 0 av [.int .u8 (x.toNat:Int)] (.int .u8 (x.toNat:Int)) rfl<|zZ 9 [] [44,45] rfl<|bE N λq ay N=>zRF rfl ay<|yI [] [4] rfl<|xH<|zG ?_;exact wD N (resT rfl) (zV [0] rfl (by decide)) ⟨_,_,rfl,rfl,rfl,(xE ⟨_,rfl,h⟩)⟩
 intro aU N;refine zR<|zY<|zA9 (by kernel_rfl) (by kernel_rfl)<|zCQ 10 [0,0] [50,51,56] rfl<|bE N λq1 aK N=>zQI rfl aK<|bE N λx1 bc N=>zFQ rfl rfl h bc ?_;intro cD bN aw ax;obtain rfl:=ax;refine zFP 0 aw [.int .u8 (x1.toNat:Int)] (.int .u8 (x1.toNat:Int)) rfl<|zCQ 27 [0,0] [61,65,68,73] rfl<|bE N λq2 bL N=>zQI rfl bL<|bE N λx2 bX N=>zFQ rfl rfl h bX ?_;intro jm gn cd bO;obtain rfl:=bO;refine zFP 0 cd [.int .u8 (x2.toNat:Int)] (.int .u8 (x2.toNat:Int)) rfl<|zCQ 42 [0] [82,83,88] rfl<|bE N λq3 cx N=>zRE rfl cx<|zMF [] [6] rfl<|uX [6] rfl<|yV<|zZ 2 [] [96,97] rfl<|bE N λq4 cV N=>zRF rfl cV<|yI [] [4] rfl<|zK<|yX ?_;exact wD N (resT rfl) (zV [0] rfl (by decide)) ⟨_,_,rfl,rfl,rfl,(xE ⟨_,rfl,h⟩)⟩
def zER(b0:Nat)(r:Int×zP):KT:=λkk I' ah v=>
 ∃v0 k0,ah=[.blk b0 ⟨k0⟩]/\v=tupV [v0]/\v0=.int .i64 r.1/\Rp.rep I' k0 r.2
def xL(r0:zP)(ai:(List Int)):Option (Int×zP):=do
 let (y1,y2)<-xF r0 (ai.length:Int);let x<-idx ai y1;pure (x,y2)
theorem wE:∀r0 ai r,xL r0 ai=some r->∀{I:Imm}{ap}{p c p1 c1},(S4 I p r0.b c)->(S4 I p1 ai c1)->RT 105 [vP ap 0,vS p1 ai c1] I [hB ap (cRd r0 p c)] (zER ap r):=by
 intro r0 ai r N I ap p c p1 c1 h h1;unfold xL at N;refine yK func105 λB=>vO []<|yV<|zZ 4 [] [5,6,8] rfl ?_;obtain⟨⟨y1,y2⟩,hy,N⟩:=zB N;refine tU (xX r0 (ai.length:Int) _ hy h) rfl ?_;rintro I0 au v2 k2 le - ⟨v0,kk,rfl,rfl,rfl,h3⟩ -;have h1:=h1.mono le;obtain⟨p2,c2,rfl,h4⟩:=yD h3;obtain⟨x,ay,N⟩:=zB N;refine wJ rfl rfl h1 ay ?_;intro ad aR av al;obtain rfl:=al;refine wC 0 av [vI x] (vI x) rfl<|yI [] [4] rfl<|zK<|yX ?_;exact wD N (resT rfl) (zV [0] rfl (by decide)) ⟨_,_,rfl,rfl,rfl,(xE ⟨_,rfl,h4⟩)⟩
end Go.LN
