/- Helper of the proof (see the last text). -/
import Derived.Test.YtkipogionmkncaaGreatDoorLnQ
import Derived.Test.YtkipogionmkncaaGreatDoorTryzShelf
set_option linter.unusedVariables false
set_option linter.unusedSimpArgs false
namespace Go.LN
open Go.Proofs Go.Proofs.Tryz
set_option maxRecDepth 20000
abbrev eS{α:Type}[Rp α](l:List α):Imm->Value->List HA->Prop:=λI' v hx=>∃p c,v=vS p l c/\hx=[]/\S4 I' p l c
abbrev ePExpr(x:zD):Imm->Value->List HA->Prop:=λI' v hx=>∃ad p0 c0 p1 c1 p2 c2,v=.pointer (some ad)/\hx=[]/\At I' ad (cExpr x p0 c0 p1 c1 p2 c2)/\S4 I' p0 x.Index.Coefs c0/\S4 I' p1 x.Read.Subs c1/\S4 I' p2 x.Kids c2
abbrev eVExpr(x:zD):Imm->Value->List HA->Prop:=λI' v hx=>∃p0 c0 p1 c1 p2 c2,v=vA (cExpr x p0 c0 p1 c1 p2 c2)/\hx=[]/\S4 I' p0 x.Index.Coefs c0/\S4 I' p1 x.Read.Subs c1/\S4 I' p2 x.Kids c2
abbrev ePStmt(x:zM):Imm->Value->List HA->Prop:=λI' v hx=>∃ad p0 c0 p1 c1 p2 c2 p3 c3,v=.pointer (some ad)/\hx=[]/\At I' ad (cStmt x p0 c0 p1 c1 p2 c2 p3 c3)/\S4 I' p0 x.Write.Subs c0/\S4 I' p1 x.Value.Index.Coefs c1/\S4 I' p2 x.Value.Read.Subs c2/\S4 I' p3 x.Value.Kids c3
abbrev eVStmt(x:zM):Imm->Value->List HA->Prop:=λI' v hx=>∃p0 c0 p1 c1 p2 c2 p3 c3,v=vA (cStmt x p0 c0 p1 c1 p2 c2 p3 c3)/\hx=[]/\S4 I' p0 x.Write.Subs c0/\S4 I' p1 x.Value.Index.Coefs c1/\S4 I' p2 x.Value.Read.Subs c2/\S4 I' p3 x.Value.Kids c3
abbrev ePAff(x:zA):Imm->Value->List HA->Prop:=λI' v hx=>∃ad p0 c0,v=.pointer (some ad)/\hx=[]/\At I' ad (cAff x p0 c0)/\S4 I' p0 x.Coefs c0
abbrev eVAff(x:zA):Imm->Value->List HA->Prop:=λI' v hx=>∃p0 c0,v=vA (cAff x p0 c0)/\hx=[]/\S4 I' p0 x.Coefs c0
abbrev ePArr(x:zG):Imm->Value->List HA->Prop:=λI' v hx=>∃ad p0 c0,v=.pointer (some ad)/\hx=[]/\At I' ad (cArr x p0 c0)/\S4 I' p0 x.Dims c0
abbrev eQArr(k:Nat)(x:zG):Imm->Value->List HA->Prop:=λI' v hx=>∃ad p0 c0,v=.pointer (some (ad.add k))/\hx=[]/\At I' ad (cArr x p0 c0)/\S4 I' p0 x.Dims c0
abbrev ePPart(x:zJ):Imm->Value->List HA->Prop:=λI' v hx=>∃ad p0 c0 p1 c1,v=.pointer (some ad)/\hx=[]/\At I' ad (cPart x p0 c0 p1 c1)/\S4 I' p0 x.Nest c0/\S4 I' p1 x.Body c1
abbrev eQPart(k:Nat)(x:zJ):Imm->Value->List HA->Prop:=λI' v hx=>∃ad p0 c0 p1 c1,v=.pointer (some (ad.add k))/\hx=[]/\At I' ad (cPart x p0 c0 p1 c1)/\S4 I' p0 x.Nest c0/\S4 I' p1 x.Body c1
abbrev eVPart(x:zJ):Imm->Value->List HA->Prop:=λI' v hx=>∃p0 c0 p1 c1,v=vA (cPart x p0 c0 p1 c1)/\hx=[]/\S4 I' p0 x.Nest c0/\S4 I' p1 x.Body c1
abbrev ePLoop(x:zE):Imm->Value->List HA->Prop:=λI' v hx=>∃ad p0 c0 p1 c1,v=.pointer (some ad)/\hx=[]/\At I' ad (cLoop x p0 c0 p1 c1)/\S4 I' p0 x.Lo c0/\S4 I' p1 x.Hi c1
abbrev eQLoop(k:Nat)(x:zE):Imm->Value->List HA->Prop:=λI' v hx=>∃ad p0 c0 p1 c1,v=.pointer (some (ad.add k))/\hx=[]/\At I' ad (cLoop x p0 c0 p1 c1)/\S4 I' p0 x.Lo c0/\S4 I' p1 x.Hi c1
instance {i j:Imm}{au:List Raw2}{parts:List zJ}{vN vB:Value}{nl:List zE}{bl:List zM}:Mo (LP i au parts vN nl vB bl) i j (LP j au parts vN nl vB bl):=⟨λh x=>x.mono h⟩
abbrev RT:=Ret Tryz.prog
def zQ(r:Bool):KT:=λkk I' ai v=>
 ∃v0,ai=[]/\v=tupV [v0]/\v0=.bool r
def wT(n0:Int)(low:Int)(high:Int):Option (Bool):=do
 let t6<-(do
  if(decide (low<=n0)) then
   pure (decide (n0<=high))
  else
   pure false
    : Option Bool)
 pure (id t6)
theorem vJ:∀n0 low high r,wT n0 low high=some r->∀{I:Imm} ,RT 81 [vI n0,vI low,vI high] I [] (zQ  r):=by
 intro n0 low high r N I;unfold wT at N;refine yP func81 λB=>?_;have H:=iS I;refine wM []<|zI<|yA ?_;refine wQ N [] (λt6=>[(6,.bool t6)]) (λo0 az=>?_) ?_
 ·have H:=iS I;refine zL<|yG 4 [] [10] rfl<|wC [10] az ?_ ?_
  ·intro hc N;exact yQ [] [6] rfl<|yS<|zU (ct N H)
  intro hc N;exact wN [] [(6,vF)]<|yS<|zU (ct N H)
 intro t6 I0 le aM;refine zI<|yX ?_;obtain rfl:=zB aM;exact wI
def jA(s:Str)(substr:Str):Option Bool:=match substr.l with|[c]=>some (decide (0<=Lib.indexByte s.l c))|_=>none
theorem zCC:∀(s substr:Str) r,jA s substr=some r->∀{I:Imm},RT 191 [vT s.l,vT substr.l] I [] (zQ r):=by
 intro s substr r N I;unfold jA at N;split at N
 ·rename_i c hc;cases N
  rw[hc];exact zGh (λw g=>(Tryz.strings_Contains_one ⟨⟨s.l⟩⟩ c w).mono λe w' ⟨h1,h2⟩=>⟨h1,h2 ▸ RowKit.Below.refl _ _⟩) λk=>⟨_,rfl,rfl,rfl⟩
 cases N
def kK(s:Str):Option (Bool):=do
 let t2<-(do
  if((s.l.length:Int)==1) then
   let y<-jA (⟨[65,66,67,68]⟩:Str) s
   pure (id y)
  else
   pure false
    : Option Bool)
 pure (id t2)
theorem nB:∀s r,kK s=some r->∀{I:Imm} ,RT 135 [vT s.l] I [] (zQ  r):=by
 intro s r N I;unfold kK at N;refine yP func135 λB=>?_;have H:=iS I;refine wM []<|zI<|yA ?_;refine wQ N [] (λt2=>[(2,.bool t2)]) (λo0 az=>?_) ?_
 ·have H:=iS I;refine zL<|yG 4 [] [6] rfl<|wC [6] az ?_ ?_
  ·intro hc N;refine yG 5 [] [7] rfl<|bE N λy hy N=>vH (zCC (⟨[65,66,67,68]⟩:Str) s _ hy ) ?_;intro aP le;have H:=H.trans le;exact yQ [] [2] rfl<|yS<|zU (ct N H)
  intro hc N;exact wN [] [(2,vF)]<|yS<|zU (ct N H)
 intro t2 I0 af aM;refine zI<|yX ?_;obtain rfl:=zB aM;exact wI
def kY(aA:List HA)(r:Int):KT:=λkk I' ai v=>
 ∃v0,aA=ai/\v=tupV [v0]/\v0=.int .i64 r
def wR(s:(List Int))(f0:(Int->Option Bool))(t8:Int):Option (Out Unit (Int)):=do
 if(decide (t8<(s.length:Int))) then
  let x<-idx s t8
  let y<-f0 x
  if y then
   pure (.ret t8)
  else
   wR s f0 (W (t8+1))
 else
  pure (.done ())
 partial_fixpoint
theorem fY(s:(List Int))(f0:(Int->Option Bool)):∀(t8:Int) (o:Out Unit (Int)),wR s f0 t8=some o->∀{B}{I0 I:Imm}{Q p c}{fv:Value}{aA:List HA},I0.le I->(S4 I p s c)->(FV1 Tryz.prog I aA fv f0)->NG Q->NO Q->(∀(I':Imm) ,o=(.done ())->I0.le I'->T 19 B Q (.exit 0) I' aA [])->(∀r I' ai m',o=(.ret r)->I0.le I'->RS Tryz.prog f205 B (kY aA r) I' ai m'->T 19 B Q .ret I' ai m')->J Tryz.prog 19 B (nav (bodyOf f205) [1,0,1,0]) Q I aA [(0,vS p s c),(1,fv),(7,vI (s.length:Int)),(8,vI t8)]:=by
 refine wR.partial_correctness s f0 _ λaN ih t8 o N B I0 I Q p c fv aA H h h1 hg ho hx hr=>yY hg ho<|yJ [9] rfl<|zW<|yC N ?_ ?_
 ·intro hc N;refine zS<|zW<|yK<|yJ [5] rfl<|xN<|yG 3 [] [11,12,13] rfl<|bE N λx hy N=>wB rfl rfl h hy ?_;intro ad aK ar al;obtain rfl:=al;refine xU 0 ar [vI x] (vI x) rfl<|bE N λy ay N=>zIo rfl rfl h1 ay rfl (cq _).symm ?_;rintro I0 v0 le rfl;refine uY (ai:=aA) (cq _) ?_;have ⟨h,h1,H⟩:=m3 le h h1 H;refine yB rfl<|zI<|yC N ?_ ?_
  ·intro aD N;exact yJ [4] rfl<|xJ<|zR<|zF<|zF<|hr _ _ _ _ (zB N).symm H ⟨_,_,(.tmp rfl ResV.nil),(λ_ h=>h),⟨_,rfl,rfl,rfl⟩⟩
  intro aD N;exact zS<|zO<|zI<|zL<|yQ [] [8] rfl<|yW<|mE<|ih (W (t8+1)) _ N H h h1 hg ho hx hr
 intro hc N;exact vQ<|yS<|hx _  (zB N).symm H
def qC(s:(List Int))(f0:(Int->Option Bool)):Option (Int):=do
 match<-wR s f0 0 with
 | .ret r0=>pure r0
 | .done _=>
  pure (-1)
theorem dH:∀s f0 r,qC s f0=some r->∀{I:Imm}{p c}{fv:Value}{aA:List HA},(S4 I p s c)->(FV1 Tryz.prog I aA fv f0)->RT 205 [vS p s c,fv] I aA (kY aA r):=by
 intro s f0 r N I p c fv aA h h1;unfold qC at N;refine yP func205 λB=>wM []<|zW<|yJ [7,8] rfl<|wS<|oR [(0,vS p s c),(1,fv),(7,vI (s.length:Int)),(8,vI 0)] ?_;obtain⟨o0,az,aF⟩:=zC N;refine fY s f0 0 o0 az iR h h1 (λ_ _ _ h=>h) (λ_ _ h=>h) ?_ ?_
 ·intro aP  heq af;subst o0;refine zT<|uN [4] rfl<|zI<|yX ?_;obtain rfl:=zB aF;exact xL ⟨_,_,(.tmp rfl ResV.nil),(λ_ h=>h),⟨_,rfl,rfl,rfl⟩⟩
 intro r0 I9 hs9 m9 aG le9 aH;subst aG;refine zR<|zF ?_;obtain rfl:=zB aF;exact xL aH
def fP(aA:List HA)(r:Bool):KT:=λkk I' ai v=>
 ∃v0,aA=ai/\v=tupV [v0]/\v0=.bool r
def xR(s:(List Int))(f0:(Int->Option Bool)):Option (Bool):=do
 let y<-qC s f0
 pure (decide (y>=0))
theorem tT:∀s f0 r,xR s f0=some r->∀{I:Imm}{p c}{fv:Value}{aA:List HA},(S4 I p s c)->(FV1 Tryz.prog I aA fv f0)->RT 155 [vS p s c,fv] I aA (fP aA r):=by
 intro s f0 r N I p c fv aA h h1;unfold xR at N;refine yP func155 λB=>wM []<|xN<|yG 2 [] [5,6] rfl<|bE N λy hy N=>zDq (hs1:=aA) (rest:=[]) rfl rfl rfl rfl (by kernel_rfl) rfl (cq _).symm (dH s f0 _ hy h h1) ?_;rintro I0 ax v2 k2 le - ⟨v0,rfl,rfl,rfl⟩ -;refine uY (ai:=aA) (cq _) ?_;refine yQ [] [4] rfl<|zI<|yX ?_;obtain rfl:=zB N;exact xL ⟨_,_,(.tmp rfl ResV.nil),(λ_ h=>h),⟨_,rfl,rfl,rfl⟩⟩
def uL(n0:Int):Option (Bool):=do
 let y<-wT n0 1 6
 pure (!y)
theorem dM:∀n0 r,uL n0=some r->∀{I:Imm} ,RT 156 [vI n0] I [] (zQ  r):=by
 intro n0 r N I;unfold uL at N;refine yP func156 λB=>wM []<|xN<|yG 1 [] [3] rfl<|bE N λy hy N=>vH (vJ n0 1 6 _ hy ) λI0 le=>wN [] [(2,.bool (!y))]<|zI<|yX ?_;obtain rfl:=zB N;exact wI
def rA(ah:(List zG))(t7:Int):Option (Out Unit (Bool)):=do
 if(decide (t7<(ah.length:Int))) then
  let x<-idx ah t7
  let t42<-(do
   let y<-kK x.Name
   if(!y) then
    pure true
   else
    if(decide (t7>0)) then
     let x1<-idx ah (W (t7 - 1))
     if(!(Op.bytesLess x1.Name.l x.Name.l)) then
      pure true
     else
      let y1<-wT (x.Dims.length:Int) 1 2
      if(!y1) then
       pure true
      else
       let y2<-xR x.Dims uL
       pure (id y2)
    else
     let y3<-wT (x.Dims.length:Int) 1 2
     if(!y3) then
      pure true
     else
      let y4<-xR x.Dims uL
      pure (id y4)
     : Option Bool)
  if t42 then
   pure (.ret false)
  else
   rA ah (W (t7+1))
 else
  pure (.done ())
 partial_fixpoint
theorem zCD(ah:(List zG)):∀(t7:Int) (o:Out Unit (Bool)),rA ah t7=some o->∀{B}{I0 I:Imm}{Q p c},I0.le I->(S4 I p ah c)->NG Q->NO Q->(∀(I':Imm) ,o=(.done ())->I0.le I'->T 47 B Q (.exit 0) I' [] [(0,vS p ah c)])->(∀r I' ai m',o=(.ret r)->I0.le I'->RS Tryz.prog f93 B (zQ  r) I' ai m'->T 47 B Q .ret I' ai m')->J Tryz.prog 47 B (nav (bodyOf f93) [1,0,1,0]) Q I [] [(0,vS p ah c),(5,vS p ah c),(6,vI (ah.length:Int)),(7,vI t7)]:=by
 refine rA.partial_correctness ah _ λaN ih t7 o N B I0 I Q p c H h hg ho hx hr=>yY hg ho<|yJ [8] rfl<|zW<|yC N ?_ ?_
 ·intro hc N;refine zS<|zW<|yK<|yE<|yG 1 [] [9] rfl<|bE N λx hy N=>wB rfl rfl h hy ?_;intro ad aK ar al;obtain⟨p1,c1,rfl,h1⟩:=xQ al;refine xU 0 ar (cArr x p1 c1) (vA (cArr x p1 c1)) rfl<|vG [vT ([]),z0] ?_;intro b hb;refine yG 5 [] [3] rfl<|xW 0 (cArr x p1 c1) rfl<|yB rfl<|zI<|yA ?_;refine wQ N [] (λt42=>[(0,vS p ah c),(5,vS p ah c),(6,vI (ah.length:Int)),(7,vI t7),(42,.bool t42)]) (λo0 az=>?_) ?_
  ·have H:=iS I;obtain⟨y,ay,N⟩:=zC az;cases aD:(!y) with
   | true=>
    have hM0:=rY aD N;refine wU [.p (vP b 0) [],.p (vT x.Name.l) [0],.q (.bool y),.q vY,.q vY,.p undef [],.p undef [],.p undef [],.p undef [],.p undef [],.p undef [],.p undef [],.p undef [],.p undef [],.p undef [],.p undef [],.p undef [],.p undef [],.p vY [],.p vY [],.p undef [],.p undef [],.p undef [],.p undef [],.p undef [],.p vY [],.p vY [],.p undef [],.p undef [],.p undef [],.p vY []] [[],[(0,false)],[(1,false)],[(2,false)],[(3,false)],[(4,false)],[(4,false),(5,false)],[(4,false),(6,false)],[(7,false)],[(7,false)],[(7,false),(9,false)],[(7,false),(8,false),(10,false)],[(7,false),(11,false)],[(7,false),(12,false)],[(7,false)],[(7,false),(14,false)],[(7,false),(13,false),(15,false)],[(4,false),(7,false),(16,false)],[(4,false),(17,false)],[(18,false)],[(19,false)],[(19,false),(20,false)],[(19,false),(21,false)],[(19,false),(22,false)],[(19,false),(23,false)],[(19,false),(24,false)],[(25,false)],[(26,false)],[(26,false),(27,false)],[(26,false),(28,false)],[(26,false),(29,false)]] [hB b (cArr x p1 c1)] [] [(30,false)] (zY [0]) ?_ ?_
    ·refine Op<|Op<|Oq ?_<|Oq ?_<|Oq ?_<|Op<|Op<|Op<|Op<|Op<|Op<|Op<|Op<|Op<|Op<|Op<|Op<|Op<|Op<|Op<|Op<|Op<|Op<|Op<|Op<|Op<|Op<|Op<|Op<|Op<|Op<|On
     ·intro I1 hf af;refine yV [13] rfl ?_;have H:=iS I1;refine vH (nB x.Name _ ay ) ?_;intro aP le;have H:=H.trans le;exact xA H
     ·intro I1 hf af;refine yV [14] rfl<|pG 4 [(15,.bool (!y))] ?_;rw[aD];exact xA iR
     intro I1 hf af;exact dD [(15,vY)]<|pG 5 [(16,vY)]<|xA iR
    intro aS af;refine yV [0,5,6,7,42] rfl ?_;have H:=H.trans af;exact yB rfl<|wD zN<|yS<|zU (ct hM0 H)
   | false=>
    have hM01:=sP aD N;cases aQ:(decide (t7>0)) with
    | true=>
     have hM02:=rY aQ hM01;obtain⟨x1,aI,N⟩:=zC hM02;cases bu:(!(Op.bytesLess x1.Name.l x.Name.l)) with
     | true=>
      have hM03:=rY bu N;refine wU [.p (vP b 0) [],.p (vT x.Name.l) [0],.q (.bool y),.q vF,.q vF,.p (vI t7) [],.q vY,.q vY,.p (vS p ah c) [],.p (vI t7) [],.p (vI (W (t7 - 1))) [],.x (ePArr x1),.x (ePArr x1),.q (vT x1.Name.l),.p (vP b 0) [],.p (vT x.Name.l) [0],.q vY,.q vY,.q vY,.q vY,.p undef [],.p undef [],.p undef [],.p undef [],.p undef [],.p vY [],.p vY [],.p undef [],.p undef [],.p undef [],.p vY []] [[],[(0,false)],[(1,false)],[(2,false)],[(3,false)],[(4,false)],[(4,false),(5,false)],[(4,false),(6,false)],[(7,false)],[(7,false)],[(7,false),(9,false)],[(7,false),(8,false),(10,false)],[(7,false),(11,false)],[(7,false),(12,false)],[(7,false)],[(7,false),(14,false)],[(7,false),(13,false),(15,false)],[(4,false),(7,false),(16,false)],[(4,false),(17,false)],[(18,false)],[(19,false)],[(19,false),(20,false)],[(19,false),(21,false)],[(19,false),(22,false)],[(19,false),(23,false)],[(19,false),(24,false)],[(25,false)],[(26,false)],[(26,false),(27,false)],[(26,false),(28,false)],[(26,false),(29,false)]] [hB b (cArr x p1 c1)] [] [(30,false)] (zY [0]) ?_ ?_
      ·refine Op<|Op<|Oq ?_<|Oq ?_<|Oq ?_<|Op<|Oq ?_<|Oq ?_<|Op<|Op<|Op<|Ox ?_<|Ox ?_<|Oq ?_<|Op<|Op<|Oq ?_<|Oq ?_<|Oq ?_<|Oq ?_<|Op<|Op<|Op<|Op<|Op<|Op<|Op<|Op<|Op<|Op<|Op<|On
       ·intro I1 hf af;refine yV [13] rfl ?_;have H:=iS I1;refine vH (nB x.Name _ ay ) ?_;intro aP le;have H:=H.trans le;exact xA H
       ·intro I1 hf af;refine yV [14] rfl<|pG 4 [(15,.bool (!y))] ?_;rw[aD];exact xA iR
       ·intro I1 hf af;exact dD [(15,vF)]<|pG 5 [(16,vF)]<|xA iR
       ·intro I1 hf af;refine yV [16,17] rfl<|pG 7 [(18,.bool (decide (t7>0)))] ?_;rw[aQ];exact xA iR
       ·intro I1 hf af;exact yV [16,18] rfl<|pG 8 [(19,vY)]<|xA iR
       ·intro I1 hf af;refine yV [19,20,22] rfl ?_;have h:=h.mono af;refine wB rfl rfl h aI ?_;intro ad1 bi ap aw;obtain⟨p2,c2,rfl,h3⟩:=xQ aw;exact yR [] iR ⟨_,_,_,rfl,rfl,ap,h3⟩
       ·rintro I1 hf af _ _ ⟨rfl,rfl⟩ _ _ ⟨ad1,p2,c2,rfl,rfl,ap,h3⟩;exact yV [19,23] rfl<|pG 13 [(24,.pointer (some ad1))]<|yR [] iR ⟨_,_,_,rfl,rfl,ap,h3⟩
       ·rintro I1 hf af _ _ ⟨rfl,rfl⟩ _ _ ⟨ad11,p21,c21,rfl,rfl,hat11,h31⟩;exact yV [19,24] rfl<|xU 0 hat11 [vT x1.Name.l] (vT x1.Name.l) rfl<|xA iR
       ·intro I1 hf af;refine yV [19,25,27] rfl<|pG 17 [(28,.bool (!(Op.bytesLess x1.Name.l x.Name.l)))] ?_;rw[bu];exact xA iR
       ·intro I1 hf af;exact yV [16,19,28] rfl<|pG 18 [(29,vY)]<|xA iR
       ·intro I1 hf af;exact yV [16,29] rfl<|pG 19 [(30,vY)]<|xA iR
       intro I1 hf af;exact dD [(30,vY)]<|pG 20 [(31,vY)]<|xA iR
      intro bw aE;refine yV [0,5,6,7,42] rfl ?_;have H:=H.trans aE;exact yB rfl<|wD zN<|yS<|zU (ct hM03 H)
     | false=>
      have hM04:=sP bu N;obtain⟨y1,aW,N⟩:=zC hM04;cases bK:(!y1) with
      | true=>
       have hM05:=rY bK N;refine wU [.p (vP b 0) [],.p (vT x.Name.l) [0],.q (.bool y),.q vF,.q vF,.p (vI t7) [],.q vY,.q vY,.p (vS p ah c) [],.p (vI t7) [],.p (vI (W (t7 - 1))) [],.x (ePArr x1),.x (ePArr x1),.q (vT x1.Name.l),.p (vP b 0) [],.p (vT x.Name.l) [0],.q vF,.q vF,.q vF,.q vF,.p (vP b 1) [],.p (vS p1 x.Dims c1) [0],.p (vI (x.Dims.length:Int)) [],.q (.bool y1),.q vY,.q vY,.q vY,.p undef [],.p undef [],.p undef [],.p vY []] [[],[(0,false)],[(1,false)],[(2,false)],[(3,false)],[(4,false)],[(4,false),(5,false)],[(4,false),(6,false)],[(7,false)],[(7,false)],[(7,false),(9,false)],[(7,false),(8,false),(10,false)],[(7,false),(11,false)],[(7,false),(12,false)],[(7,false)],[(7,false),(14,false)],[(7,false),(13,false),(15,false)],[(4,false),(7,false),(16,false)],[(4,false),(17,false)],[(18,false)],[(19,false)],[(19,false),(20,false)],[(19,false),(21,false)],[(19,false),(22,false)],[(19,false),(23,false)],[(19,false),(24,false)],[(25,false)],[(26,false)],[(26,false),(27,false)],[(26,false),(28,false)],[(26,false),(29,false)]] [hB b (cArr x p1 c1)] [] [(30,false)] (zY [0]) ?_ ?_
       ·refine Op<|Op<|Oq ?_<|Oq ?_<|Oq ?_<|Op<|Oq ?_<|Oq ?_<|Op<|Op<|Op<|Ox ?_<|Ox ?_<|Oq ?_<|Op<|Op<|Oq ?_<|Oq ?_<|Oq ?_<|Oq ?_<|Op<|Op<|Op<|Oq ?_<|Oq ?_<|Oq ?_<|Oq ?_<|Op<|Op<|Op<|Op<|On
        ·intro I1 hf af;refine yV [13] rfl ?_;have H:=iS I1;refine vH (nB x.Name _ ay ) ?_;intro aP le;have H:=H.trans le;exact xA H
        ·intro I1 hf af;refine yV [14] rfl<|pG 4 [(15,.bool (!y))] ?_;rw[aD];exact xA iR
        ·intro I1 hf af;exact dD [(15,vF)]<|pG 5 [(16,vF)]<|xA iR
        ·intro I1 hf af;refine yV [16,17] rfl<|pG 7 [(18,.bool (decide (t7>0)))] ?_;rw[aQ];exact xA iR
        ·intro I1 hf af;exact yV [16,18] rfl<|pG 8 [(19,vY)]<|xA iR
        ·intro I1 hf af;refine yV [19,20,22] rfl ?_;have h:=h.mono af;refine wB rfl rfl h aI ?_;intro ad1 bi ap aw;obtain⟨p2,c2,rfl,h3⟩:=xQ aw;exact yR [] iR ⟨_,_,_,rfl,rfl,ap,h3⟩
        ·rintro I1 hf af _ _ ⟨rfl,rfl⟩ _ _ ⟨ad1,p2,c2,rfl,rfl,ap,h3⟩;exact yV [19,23] rfl<|pG 13 [(24,.pointer (some ad1))]<|yR [] iR ⟨_,_,_,rfl,rfl,ap,h3⟩
        ·rintro I1 hf af _ _ ⟨rfl,rfl⟩ _ _ ⟨ad11,p21,c21,rfl,rfl,hat11,h31⟩;exact yV [19,24] rfl<|xU 0 hat11 [vT x1.Name.l] (vT x1.Name.l) rfl<|xA iR
        ·intro I1 hf af;refine yV [19,25,27] rfl<|pG 17 [(28,.bool (!(Op.bytesLess x1.Name.l x.Name.l)))] ?_;rw[bu];exact xA iR
        ·intro I1 hf af;exact yV [16,19,28] rfl<|pG 18 [(29,vF)]<|xA iR
        ·intro I1 hf af;exact yV [16,29] rfl<|pG 19 [(30,vF)]<|xA iR
        ·intro I1 hf af;exact dD [(30,vF)]<|pG 20 [(31,vF)]<|xA iR
        ·intro I1 hf af;refine yV [31,34] rfl ?_;have H:=iS I1;refine vH (vJ (x.Dims.length:Int) 1 2 _ aW ) ?_;intro bI aJ;have H:=H.trans aJ;exact xA H
        ·intro I1 hf af;refine yV [31,35] rfl<|pG 25 [(36,.bool (!y1))] ?_;rw[bK];exact xA iR
        ·intro I1 hf af;exact yV [31,36] rfl<|pG 26 [(37,vY)]<|xA iR
        intro I1 hf af;exact dD [(37,vY)]<|pG 27 [(38,vY)]<|xA iR
       intro bL aX;refine yV [0,5,6,7,42] rfl ?_;have H:=H.trans aX;exact yB rfl<|wD zN<|yS<|zU (ct hM05 H)
      | false=>
       have hM06:=sP bK N;obtain⟨y2,br,N⟩:=zC hM06;refine wU [.p (vP b 0) [],.p (vT x.Name.l) [0],.q (.bool y),.q vF,.q vF,.p (vI t7) [],.q vY,.q vY,.p (vS p ah c) [],.p (vI t7) [],.p (vI (W (t7 - 1))) [],.x (ePArr x1),.x (ePArr x1),.q (vT x1.Name.l),.p (vP b 0) [],.p (vT x.Name.l) [0],.q vF,.q vF,.q vF,.q vF,.p (vP b 1) [],.p (vS p1 x.Dims c1) [0],.p (vI (x.Dims.length:Int)) [],.q (.bool y1),.q vF,.q vF,.q vF,.p (vP b 1) [],.p (vS p1 x.Dims c1) [0],.q (.bool y2),.p (.bool y2) []] [[],[(0,false)],[(1,false)],[(2,false)],[(3,false)],[(4,false)],[(4,false),(5,false)],[(4,false),(6,false)],[(7,false)],[(7,false)],[(7,false),(9,false)],[(7,false),(8,false),(10,false)],[(7,false),(11,false)],[(7,false),(12,false)],[(7,false)],[(7,false),(14,false)],[(7,false),(13,false),(15,false)],[(4,false),(7,false),(16,false)],[(4,false),(17,false)],[(18,false)],[(19,false)],[(19,false),(20,false)],[(19,false),(21,false)],[(19,false),(22,false)],[(19,false),(23,false)],[(19,false),(24,false)],[(25,false)],[(26,false)],[(26,false),(27,false)],[(26,false),(28,false)],[(26,false),(29,false)]] [hB b (cArr x p1 c1)] [] [(30,false)] (zY [0]) ?_ ?_
       ·refine Op<|Op<|Oq ?_<|Oq ?_<|Oq ?_<|Op<|Oq ?_<|Oq ?_<|Op<|Op<|Op<|Ox ?_<|Ox ?_<|Oq ?_<|Op<|Op<|Oq ?_<|Oq ?_<|Oq ?_<|Oq ?_<|Op<|Op<|Op<|Oq ?_<|Oq ?_<|Oq ?_<|Oq ?_<|Op<|Op<|Oq ?_<|Op<|On
        ·intro I1 hf af;refine yV [13] rfl ?_;have H:=iS I1;refine vH (nB x.Name _ ay ) ?_;intro aP le;have H:=H.trans le;exact xA H
        ·intro I1 hf af;refine yV [14] rfl<|pG 4 [(15,.bool (!y))] ?_;rw[aD];exact xA iR
        ·intro I1 hf af;exact dD [(15,vF)]<|pG 5 [(16,vF)]<|xA iR
        ·intro I1 hf af;refine yV [16,17] rfl<|pG 7 [(18,.bool (decide (t7>0)))] ?_;rw[aQ];exact xA iR
        ·intro I1 hf af;exact yV [16,18] rfl<|pG 8 [(19,vY)]<|xA iR
        ·intro I1 hf af;refine yV [19,20,22] rfl ?_;have h:=h.mono af;refine wB rfl rfl h aI ?_;intro ad1 bi ap aw;obtain⟨p2,c2,rfl,h3⟩:=xQ aw;exact yR [] iR ⟨_,_,_,rfl,rfl,ap,h3⟩
        ·rintro I1 hf af _ _ ⟨rfl,rfl⟩ _ _ ⟨ad1,p2,c2,rfl,rfl,ap,h3⟩;exact yV [19,23] rfl<|pG 13 [(24,.pointer (some ad1))]<|yR [] iR ⟨_,_,_,rfl,rfl,ap,h3⟩
        ·rintro I1 hf af _ _ ⟨rfl,rfl⟩ _ _ ⟨ad11,p21,c21,rfl,rfl,hat11,h31⟩;exact yV [19,24] rfl<|xU 0 hat11 [vT x1.Name.l] (vT x1.Name.l) rfl<|xA iR
        ·intro I1 hf af;refine yV [19,25,27] rfl<|pG 17 [(28,.bool (!(Op.bytesLess x1.Name.l x.Name.l)))] ?_;rw[bu];exact xA iR
        ·intro I1 hf af;exact yV [16,19,28] rfl<|pG 18 [(29,vF)]<|xA iR
        ·intro I1 hf af;exact yV [16,29] rfl<|pG 19 [(30,vF)]<|xA iR
        ·intro I1 hf af;exact dD [(30,vF)]<|pG 20 [(31,vF)]<|xA iR
        ·intro I1 hf af;refine yV [31,34] rfl ?_;have H:=iS I1;refine vH (vJ (x.Dims.length:Int) 1 2 _ aW ) ?_;intro bI aJ;have H:=H.trans aJ;exact xA H
        ·intro I1 hf af;refine yV [31,35] rfl<|pG 25 [(36,.bool (!y1))] ?_;rw[bK];exact xA iR
        ·intro I1 hf af;exact yV [31,36] rfl<|pG 26 [(37,vF)]<|xA iR
        ·intro I1 hf af;exact dD [(37,vF)]<|pG 27 [(38,vF)]<|xA iR
        intro I1 hf af;refine yV [38,40] rfl ?_;have H:=iS I1;have ⟨h,h1⟩:=m2 af h h1;have hf0:FV1 Tryz.prog I1 [] (.func (.func 156) ⟨[]⟩ ⟨[]⟩) uL:=by
         refine FV1.intro ?_;intro I1 af x0 r u0 hF k0;obtain rfl:=k0;exact(dM x0 r hF ).mono (by rintro k i hs u ⟨v0,rfl,rfl,h⟩;exact⟨rfl,h⟩)
        refine xX (tT x.Dims uL _ br h1 hf0) ?_;rintro I06 ax v2 k2 bt - ⟨v04,rfl,rfl,rfl⟩ -;have H:=H.trans bt;exact xA H
       intro I07 bx;refine yV [0,5,6,7,42] rfl ?_;have H:=H.trans bx;exact yB rfl<|wD zN<|yS<|zU (ct N H)
    | false=>
     have hM07:=sP aQ hM01;obtain⟨y3,bB,N⟩:=zC hM07;cases hc5:(!y3) with
     | true=>
      have hM08:=rY hc5 N;refine wU [.p (vP b 0) [],.p (vT x.Name.l) [0],.q (.bool y),.q vF,.q vF,.p (vI t7) [],.q vF,.q vF,.p undef [],.p undef [],.p undef [],.p undef [],.p undef [],.p undef [],.p undef [],.p undef [],.p undef [],.p vF [],.p vF [],.p vF [],.p (vP b 1) [],.p (vS p1 x.Dims c1) [0],.p (vI (x.Dims.length:Int)) [],.q (.bool y3),.q vY,.q vY,.q vY,.p undef [],.p undef [],.p undef [],.p vY []] [[],[(0,false)],[(1,false)],[(2,false)],[(3,false)],[(4,false)],[(4,false),(5,false)],[(4,false),(6,false)],[(7,false)],[(7,false)],[(7,false),(9,false)],[(7,false),(8,false),(10,false)],[(7,false),(11,false)],[(7,false),(12,false)],[(7,false)],[(7,false),(14,false)],[(7,false),(13,false),(15,false)],[(4,false),(7,false),(16,false)],[(4,false),(17,false)],[(18,false)],[(19,false)],[(19,false),(20,false)],[(19,false),(21,false)],[(19,false),(22,false)],[(19,false),(23,false)],[(19,false),(24,false)],[(25,false)],[(26,false)],[(26,false),(27,false)],[(26,false),(28,false)],[(26,false),(29,false)]] [hB b (cArr x p1 c1)] [] [(30,false)] (zY [0]) ?_ ?_
      ·refine Op<|Op<|Oq ?_<|Oq ?_<|Oq ?_<|Op<|Oq ?_<|Oq ?_<|Op<|Op<|Op<|Op<|Op<|Op<|Op<|Op<|Op<|Op<|Op<|Op<|Op<|Op<|Op<|Oq ?_<|Oq ?_<|Oq ?_<|Oq ?_<|Op<|Op<|Op<|Op<|On
       ·intro I1 hf af;refine yV [13] rfl ?_;have H:=iS I1;refine vH (nB x.Name _ ay ) ?_;intro aP le;have H:=H.trans le;exact xA H
       ·intro I1 hf af;refine yV [14] rfl<|pG 4 [(15,.bool (!y))] ?_;rw[aD];exact xA iR
       ·intro I1 hf af;exact dD [(15,vF)]<|pG 5 [(16,vF)]<|xA iR
       ·intro I1 hf af;refine yV [16,17] rfl<|pG 7 [(18,.bool (decide (t7>0)))] ?_;rw[aQ];exact xA iR
       ·intro I1 hf af;exact yV [16,18] rfl<|pG 8 [(19,vF)]<|xA iR
       ·intro I1 hf af;refine yV [31,34] rfl ?_;have H:=iS I1;refine vH (vJ (x.Dims.length:Int) 1 2 _ bB ) ?_;intro I08 le7;have H:=H.trans le7;exact xA H
       ·intro I1 hf af;refine yV [31,35] rfl<|pG 25 [(36,.bool (!y3))] ?_;rw[hc5];exact xA iR
       ·intro I1 hf af;exact yV [31,36] rfl<|pG 26 [(37,vY)]<|xA iR
       intro I1 hf af;exact dD [(37,vY)]<|pG 27 [(38,vY)]<|xA iR
      intro I09 le8;refine yV [0,5,6,7,42] rfl ?_;have H:=H.trans le8;exact yB rfl<|wD zN<|yS<|zU (ct hM08 H)
     | false=>
      have hM09:=sP hc5 N;obtain⟨y4,hy6,N⟩:=zC hM09;refine wU [.p (vP b 0) [],.p (vT x.Name.l) [0],.q (.bool y),.q vF,.q vF,.p (vI t7) [],.q vF,.q vF,.p undef [],.p undef [],.p undef [],.p undef [],.p undef [],.p undef [],.p undef [],.p undef [],.p undef [],.p vF [],.p vF [],.p vF [],.p (vP b 1) [],.p (vS p1 x.Dims c1) [0],.p (vI (x.Dims.length:Int)) [],.q (.bool y3),.q vF,.q vF,.q vF,.p (vP b 1) [],.p (vS p1 x.Dims c1) [0],.q (.bool y4),.p (.bool y4) []] [[],[(0,false)],[(1,false)],[(2,false)],[(3,false)],[(4,false)],[(4,false),(5,false)],[(4,false),(6,false)],[(7,false)],[(7,false)],[(7,false),(9,false)],[(7,false),(8,false),(10,false)],[(7,false),(11,false)],[(7,false),(12,false)],[(7,false)],[(7,false),(14,false)],[(7,false),(13,false),(15,false)],[(4,false),(7,false),(16,false)],[(4,false),(17,false)],[(18,false)],[(19,false)],[(19,false),(20,false)],[(19,false),(21,false)],[(19,false),(22,false)],[(19,false),(23,false)],[(19,false),(24,false)],[(25,false)],[(26,false)],[(26,false),(27,false)],[(26,false),(28,false)],[(26,false),(29,false)]] [hB b (cArr x p1 c1)] [] [(30,false)] (zY [0]) ?_ ?_
      ·refine Op<|Op<|Oq ?_<|Oq ?_<|Oq ?_<|Op<|Oq ?_<|Oq ?_<|Op<|Op<|Op<|Op<|Op<|Op<|Op<|Op<|Op<|Op<|Op<|Op<|Op<|Op<|Op<|Oq ?_<|Oq ?_<|Oq ?_<|Oq ?_<|Op<|Op<|Oq ?_<|Op<|On
       ·intro I1 hf af;refine yV [13] rfl ?_;have H:=iS I1;refine vH (nB x.Name _ ay ) ?_;intro aP le;have H:=H.trans le;exact xA H
       ·intro I1 hf af;refine yV [14] rfl<|pG 4 [(15,.bool (!y))] ?_;rw[aD];exact xA iR
       ·intro I1 hf af;exact dD [(15,vF)]<|pG 5 [(16,vF)]<|xA iR
       ·intro I1 hf af;refine yV [16,17] rfl<|pG 7 [(18,.bool (decide (t7>0)))] ?_;rw[aQ];exact xA iR
       ·intro I1 hf af;exact yV [16,18] rfl<|pG 8 [(19,vF)]<|xA iR
       ·intro I1 hf af;refine yV [31,34] rfl ?_;have H:=iS I1;refine vH (vJ (x.Dims.length:Int) 1 2 _ bB ) ?_;intro I08 le7;have H:=H.trans le7;exact xA H
       ·intro I1 hf af;refine yV [31,35] rfl<|pG 25 [(36,.bool (!y3))] ?_;rw[hc5];exact xA iR
       ·intro I1 hf af;exact yV [31,36] rfl<|pG 26 [(37,vF)]<|xA iR
       ·intro I1 hf af;exact dD [(37,vF)]<|pG 27 [(38,vF)]<|xA iR
       intro I1 hf af;refine yV [38,40] rfl ?_;have H:=iS I1;have ⟨h,h1⟩:=m2 af h h1;have hf01:FV1 Tryz.prog I1 [] (.func (.func 156) ⟨[]⟩ ⟨[]⟩) uL:=by
        refine FV1.intro ?_;intro I1 af x0 r u0 hF k0;obtain rfl:=k0;exact(dM x0 r hF ).mono (by rintro k i hs u ⟨v0,rfl,rfl,h⟩;exact⟨rfl,h⟩)
       refine xX (tT x.Dims uL _ hy6 h1 hf01) ?_;rintro bN ax v2 k2 le9 - ⟨v06,rfl,rfl,rfl⟩ -;have H:=H.trans le9;exact xA H
      intro bW le10;refine yV [0,5,6,7,42] rfl ?_;have H:=H.trans le10;exact yB rfl<|wD zN<|yS<|zU (ct N H)
  intro t42 I0 le11 aM;have ⟨h,H⟩:=m2 le11 h H;refine zI<|yC aM ?_ ?_
  ·intro hc6 N;exact wM [(2,vF)]<|xJ<|zR<|zF<|zF<|hr _ _ _ _ (zB N).symm H ⟨_,_,(.tmp rfl ResV.nil),zN,⟨_,rfl,rfl,rfl⟩⟩
  intro hc6 N;exact zS<|zO<|zI<|zL<|yQ [] [7] rfl<|yW<|mE<|ih (W (t7+1)) _ N H h hg ho hx hr
 intro hc N;exact vQ<|yS<|hx _  (zB N).symm H
def jI(ah:(List zG)):Option (Bool):=do
 match<-rA ah 0 with
 | .ret r0=>pure r0
 | .done _=>
  pure (decide ((ah.length:Int)<=4))
theorem zDz:∀ah r,jI ah=some r->∀{I:Imm}{p c},(S4 I p ah c)->RT 93 [vS p ah c] I [] (zQ  r):=by
 intro ah r N I p c h;unfold jI at N;refine yP func93 λB=>wM []<|zW<|yJ [5,6,7] rfl<|wS<|oR [(0,vS p ah c),(5,vS p ah c),(6,vI (ah.length:Int)),(7,vI 0)] ?_;obtain⟨aO,aB,aF⟩:=zC N;refine zCD ah 0 aO aB iR h (λ_ _ _ h=>h) (λ_ _ h=>h) ?_ ?_
 ·intro bV  heq1 le12;subst aO;refine zT<|uN [2] rfl<|zI<|yX ?_;obtain rfl:=zB aF;exact wI
 intro r0 I9 hs9 m9 aG le9 aH;subst aG;refine zR<|zF ?_;obtain rfl:=zB aF;exact xL aH
def sY(aA:List HA)(r:Int):KT:=λkk I' ai v=>
 ∃v0,aA=ai/\v=tupV [v0]/\v0=.int .i64 r
def xE(s:(List zA))(f0:(zA->Option Bool))(t8:Int):Option (Out Unit (Int)):=do
 if(decide (t8<(s.length:Int))) then
  let x<-idx s t8
  let y<-f0 x
  if y then
   pure (.ret t8)
  else
   xE s f0 (W (t8+1))
 else
  pure (.done ())
 partial_fixpoint
theorem mY(s:(List zA))(f0:(zA->Option Bool)):∀(t8:Int) (o:Out Unit (Int)),xE s f0 t8=some o->∀{B}{I0 I:Imm}{Q p c}{fv:Value}{aA:List HA},I0.le I->(S4 I p s c)->(FV1 Tryz.prog I aA fv f0)->NG Q->NO Q->(∀(I':Imm) ,o=(.done ())->I0.le I'->T 19 B Q (.exit 0) I' aA [])->(∀r I' ai m',o=(.ret r)->I0.le I'->RS Tryz.prog f176 B (sY aA r) I' ai m'->T 19 B Q .ret I' ai m')->J Tryz.prog 19 B (nav (bodyOf f176) [1,0,1,0]) Q I aA [(0,vS p s c),(1,fv),(7,vI (s.length:Int)),(8,vI t8)]:=by
 refine xE.partial_correctness s f0 _ λaN ih t8 o N B I0 I Q p c fv aA H h h1 hg ho hx hr=>yY hg ho<|yJ [9] rfl<|zW<|yC N ?_ ?_
 ·intro hc N;refine zS<|zW<|yK<|yJ [5] rfl<|xN<|yG 3 [] [11,12,13] rfl<|bE N λx hy N=>wB rfl rfl h hy ?_;intro ad aK ar al;obtain⟨p1,c1,rfl,h2⟩:=yD al;refine xU 0 ar (cAff x p1 c1) (vA (cAff x p1 c1)) rfl<|bE N λy ay N=>zIo rfl rfl h1 ay ⟨_,rfl,(yO ⟨_,rfl,h2⟩)⟩ (cq _).symm ?_;rintro I0 v01 le rfl;refine uY (ai:=aA) (cq _) ?_;have ⟨h,h1,H⟩:=m3 le h h1 H;refine yB rfl<|zI<|yC N ?_ ?_
  ·intro aD N;exact yJ [4] rfl<|xJ<|zR<|zF<|zF<|hr _ _ _ _ (zB N).symm H ⟨_,_,(.tmp rfl ResV.nil),(λ_ h=>h),⟨_,rfl,rfl,rfl⟩⟩
  intro aD N;exact zS<|zO<|zI<|zL<|yQ [] [8] rfl<|yW<|mE<|ih (W (t8+1)) _ N H h h1 hg ho hx hr
 intro hc N;exact vQ<|yS<|hx _  (zB N).symm H
def wY(s:(List zA))(f0:(zA->Option Bool)):Option (Int):=do
 match<-xE s f0 0 with
 | .ret r0=>pure r0
 | .done _=>
  pure (-1)
theorem kW:∀s f0 r,wY s f0=some r->∀{I:Imm}{p c}{fv:Value}{aA:List HA},(S4 I p s c)->(FV1 Tryz.prog I aA fv f0)->RT 176 [vS p s c,fv] I aA (sY aA r):=by
 intro s f0 r N I p c fv aA h h1;unfold wY at N;refine yP func176 λB=>wM []<|zW<|yJ [7,8] rfl<|wS<|oR [(0,vS p s c),(1,fv),(7,vI (s.length:Int)),(8,vI 0)] ?_;obtain⟨o0,az,aF⟩:=zC N;refine mY s f0 0 o0 az iR h h1 (λ_ _ _ h=>h) (λ_ _ h=>h) ?_ ?_
 ·intro aP  heq af;subst o0;refine zT<|uN [4] rfl<|zI<|yX ?_;obtain rfl:=zB aF;exact xL ⟨_,_,(.tmp rfl ResV.nil),(λ_ h=>h),⟨_,rfl,rfl,rfl⟩⟩
 intro r0 I9 hs9 m9 aG le9 aH;subst aG;refine zR<|zF ?_;obtain rfl:=zB aF;exact xL aH
def mF(aA:List HA)(r:Bool):KT:=λkk I' ai v=>
 ∃v0,aA=ai/\v=tupV [v0]/\v0=.bool r
def xO(s:(List zA))(f0:(zA->Option Bool)):Option (Bool):=do
 let y<-wY s f0
 pure (decide (y>=0))
theorem sQ:∀s f0 r,xO s f0=some r->∀{I:Imm}{p c}{fv:Value}{aA:List HA},(S4 I p s c)->(FV1 Tryz.prog I aA fv f0)->RT 112 [vS p s c,fv] I aA (mF aA r):=by
 intro s f0 r N I p c fv aA h h1;unfold xO at N;refine yP func112 λB=>wM []<|xN<|yG 2 [] [5,6] rfl<|bE N λy hy N=>zDq (hs1:=aA) (rest:=[]) rfl rfl rfl rfl (by kernel_rfl) rfl (cq _).symm (kW s f0 _ hy h h1) ?_;rintro I0 ax v2 k2 le - ⟨v0,rfl,rfl,rfl⟩ -;refine uY (ai:=aA) (cq _) ?_;refine yQ [] [4] rfl<|zI<|yX ?_;obtain rfl:=zB N;exact xL ⟨_,_,(.tmp rfl ResV.nil),(λ_ h=>h),⟨_,rfl,rfl,rfl⟩⟩
def fQ(n0:Int):Option (Bool):=do
 let y<-wT n0 (-99) 99
 pure (id y)
theorem zEf:∀n0 r,fQ n0=some r->∀{I:Imm} ,RT 177 [vI n0] I [] (zQ  r):=by
 intro n0 r N I;unfold fQ at N;refine yP func177 λB=>wM []<|xN<|yG 1 [] [3] rfl<|bE N λy hy N=>vH (vJ n0 (-99) 99 _ hy ) λI0 le=>wN [] [(2,.bool y)]<|zI<|yX ?_;obtain rfl:=zB N;exact wI
def tK(c:Int):Option (Bool):=do
 let y<-wT c (-9) 9
 pure (!y)
theorem zBM:∀c r,tK c=some r->∀{I:Imm} ,RT 178 [vI c] I [] (zQ  r):=by
 intro c r N I;unfold tK at N;refine yP func178 λB=>wM []<|xN<|yG 1 [] [3] rfl<|bE N λy hy N=>vH (vJ c (-9) 9 _ hy ) λI0 le=>wN [] [(2,.bool (!y))]<|zI<|yX ?_;obtain rfl:=zB N;exact wI
def rB(a0:zA):Option (Bool):=do
 let t2<-(do
  if((a0.Coefs.length:Int)==4) then
   let y<-fQ a0.Const
   if y then
    let y1<-xR a0.Coefs tK
    pure (!y1)
   else
    pure false
  else
   pure false
    : Option Bool)
 pure (id t2)
theorem nI:∀a0 r,rB a0=some r->∀{I:Imm}{p c},(S4 I p a0.Coefs c)->RT 114 [vA (cAff a0 p c)] I [] (zQ  r):=by
 intro a0 r N I p c h;unfold rB at N;refine yP func114 λB=>?_;have H:=iS I;refine yE<|vM (cAff a0 p c) ?_;intro b hb;refine wN [] []<|zI<|yA ?_;refine wQ N [] (λt2=>[(2,.bool t2)]) (λo0 az=>?_) ?_
 ·have H:=iS I;refine zL<|yG 5 [0] [7] rfl<|wC [7] az ?_ ?_
  ·intro hc N;refine yG 7 [0] [9] rfl<|bE N λy hy N=>vH (zEf a0.Const _ hy ) ?_;intro aP le;have ⟨h,H⟩:=m2 le h H;refine yG 10 [] [12] rfl<|wC [12] N ?_ ?_
   ·intro aD N;refine yG 12 [0] [14] rfl ?_;have hf0:FV1 Tryz.prog aP [] (.func (.func 178) ⟨[]⟩ ⟨[]⟩) tK:=by
     refine FV1.intro ?_;intro I1 af x0 r u0 hF k0;obtain rfl:=k0;exact(zBM x0 r hF ).mono (by rintro k i hs u ⟨v0,rfl,rfl,h⟩;exact⟨rfl,h⟩)
    obtain⟨y1,ay,N⟩:=zC N;refine xX (tT a0.Coefs tK _ ay h hf0) ?_;rintro aS ax v2 k2 af - ⟨v01,rfl,rfl,rfl⟩ -;have H:=H.trans af;exact yQ [] [2] rfl<|wD zN<|yS<|zU (ct N H)
   intro aD N;exact wN [] [(2,vF)]<|wD zN<|yS<|zU (ct N H)
  intro hc N;exact wN [] [(2,vF)]<|wD zN<|yS<|zU (ct N H)
 intro t2 I0 aE aM;refine zI<|yX ?_;obtain rfl:=zB aM;exact wI
def yT(r:Int):KT:=λkk I' ai v=>
 ∃v0,ai=[]/\v=tupV [v0]/\v0=.int .i64 r
def uQ(a0:zA)(n0:Int):Option (Int):=do
 let t17<-(do
  if(decide (n0>0)) then
   let x<-idx a0.Coefs (W (n0 - 1))
   pure (x==0)
  else
   pure false
    : Option Bool)
 if t17 then
  uQ a0 (W (n0 - 1))
 else
  pure (id n0)
 partial_fixpoint
theorem zA4(a0:zA):∀(n0:Int) (o:Int),uQ a0 n0=some o->∀{B}{I0 I:Imm}{Q p c}{b:Nat},I0.le I->(S4 I p a0.Coefs c)->NG Q->NO Q->(∀(I':Imm) (n01:Int),o=n01->I0.le I'->T 21 B Q (.exit 0) I' [] [(3,vI n01)])->J Tryz.prog 21 B (nav (bodyOf f115) [1,1,0,0]) Q I [hB b (cAff a0 p c)] [(1,vP b 0),(3,vI n0)]:=by
 refine uQ.partial_correctness a0 _ λaN ih n0 o N B I0 I Q p c b H h hg ho hx=>yY hg ho<|yA<|yA ?_;refine wQ N [hB b (cAff a0 p c)] (λt17=>[(1,vP b 0),(3,vI n0),(17,.bool t17)]) (λo0 az=>?_) ?_
 ·have H:=iS I;refine zL<|yG 3 [] [9] rfl<|wC [9] az ?_ ?_
  ·intro hc N;refine yG 7 [0] [11,13] rfl<|bE N λx hy N=>wB rfl rfl h hy ?_;intro ad aK ar al;obtain rfl:=al;exact xU 0 ar [vI x] (vI x) rfl<|yQ [] [17] rfl<|yS<|zU (ct N H)
  intro hc N;exact wN [] [(17,vF)]<|yS<|zU (ct N H)
 intro t17 I0 le aM;have ⟨h,H⟩:=m2 le h H;refine zI<|yC aM ?_ ?_
 ·intro aD N;exact zS<|wS<|zL<|yQ [] [3] rfl<|zO<|yW<|mE<|ih (W (n0 - 1)) _ N H h hg ho hx
 intro aD N;exact vQ<|wD zN<|yS<|hx _ _ (zB N).symm H
def sC(a0:zA):Option (Int):=do
 let n01<-uQ a0 (a0.Coefs.length:Int)
 pure (id n01)
theorem gF:∀a0 r,sC a0=some r->∀{I:Imm}{p c},(S4 I p a0.Coefs c)->RT 115 [vA (cAff a0 p c)] I [] (yT  r):=by
 intro a0 r N I p c h;unfold sC at N;refine yP func115 λB=>yE<|vM (cAff a0 p c) ?_;intro b hb;refine wN [] []<|xN<|yQ [0] [3] rfl<|zW<|yK<|oR [(1,vP b 0),(3,vI (a0.Coefs.length:Int))] ?_;obtain⟨aO,aB,aF⟩:=zC N;refine zA4 a0 (a0.Coefs.length:Int) aO aB iR h (λ_ _ _ h=>h) (λ_ _ h=>h) ?_;intro aP n01 heq1 af;subst aO;refine zT<|uN [2] rfl<|zI<|yX ?_;obtain rfl:=zB aF;exact wI
def sK(a0:zA)(x:Int):Option (Bool):=do
 let t3<-(do
  let y<-rB a0
  if(!y) then
   pure true
  else
   let y1<-sC a0
   pure (decide (y1>x))
    : Option Bool)
 pure (id t3)
theorem zC4:∀a0 x r,sK a0 x=some r->∀{I:Imm}{p c}{ad:Addr},(S4 I p a0.Coefs c)->(At I ad [vI x])->RT 113 [vA (cAff a0 p c),.pointer (some ad)] I [] (zQ  r):=by
 intro a0 x r N I p c ad h ar;unfold sK at N;refine yP func113 λB=>?_;have H:=iS I;refine yE<|vM (cAff a0 p c) ?_;intro b hb;refine wN [] []<|zI<|yA ?_;refine wQ N [] (λt3=>[(3,.bool t3)]) (λo0 az=>?_) ?_
 ·have H:=iS I;obtain⟨y,hy,N⟩:=zC az;cases hc:(!y) with
  | true=>
   have hM0:=rY hc N;refine wU [.p (vA (cAff a0 p c)) [0],.q (.bool y),.q vY,.q vY,.p undef [],.p undef [],.p undef [],.p undef [],.p vY []] [[],[(0,false)],[(1,false)],[(2,false)],[(3,false)],[(3,false),(4,false)],[(3,false)],[(3,false),(5,false),(6,false)],[(3,false),(7,false)]] [hB b (cAff a0 p c)] [] [(8,false)] (zY [0]) ?_ ?_
   ·refine Op<|Oq ?_<|Oq ?_<|Oq ?_<|Op<|Op<|Op<|Op<|Op<|On
    ·intro I1 hf af;refine yV [4] rfl ?_;have H:=iS I1;have h:=h.mono af;refine vH (nI a0 _ hy h) ?_;intro aP le;have H:=H.trans le;exact xA H
    ·intro I1 hf af;refine yV [5] rfl<|pG 3 [(6,.bool (!y))] ?_;rw[hc];exact xA iR
    intro I1 hf af;exact dD [(6,vY)]<|pG 4 [(7,vY)]<|xA iR
   intro aS af;refine dD [(12,vY)] ?_;have H:=H.trans af;exact wN [] [(3,vY)]<|wD zN<|yS<|zU (ct hM0 H)
  | false=>
   have hM01:=sP hc N;obtain⟨y1,ay,N⟩:=zC hM01;refine wU [.p (vA (cAff a0 p c)) [0],.q (.bool y),.q vF,.q vF,.p (vA (cAff a0 p c)) [0],.q (vI y1),.q (vI x),.p (.bool (decide (y1>x))) [],.p (.bool (decide (y1>x))) []] [[],[(0,false)],[(1,false)],[(2,false)],[(3,false)],[(3,false),(4,false)],[(3,false)],[(3,false),(5,false),(6,false)],[(3,false),(7,false)]] [hB b (cAff a0 p c)] [] [(8,false)] (zY [0]) ?_ ?_
   ·refine Op<|Oq ?_<|Oq ?_<|Oq ?_<|Op<|Oq ?_<|Oq ?_<|Op<|Op<|On
    ·intro I1 hf af;refine yV [4] rfl ?_;have H:=iS I1;have h:=h.mono af;refine vH (nI a0 _ hy h) ?_;intro aP le;have H:=H.trans le;exact xA H
    ·intro I1 hf af;refine yV [5] rfl<|pG 3 [(6,.bool (!y))] ?_;rw[hc];exact xA iR
    ·intro I1 hf af;exact dD [(6,vF)]<|pG 4 [(7,vF)]<|xA iR
    ·intro I1 hf af;refine yV [7,8] rfl ?_;have H:=iS I1;have h:=h.mono af;refine fN (gF a0 _ ay h) ?_;intro bw aE;have H:=H.trans aE;exact xA H
    intro I1 hf af;refine yV [1,7] rfl ?_;have ar:=ar.mono af;exact xU 0 ar [vI x] (vI x) rfl<|xA iR
   intro bI aJ;refine yV [12] rfl ?_;have H:=H.trans aJ;exact yQ [] [3] rfl<|wD zN<|yS<|zU (ct N H)
 intro t3 I0 aX aM;refine zI<|yX ?_;obtain rfl:=zB aM;exact wI
def mH(ah:(List zA))(aa:Int):Option (Bool):=do
 let t4<-(do
  let y<-wT (ah.length:Int) 1 2
  if y then
   let y1<-xO ah (λx0=>sK x0 aa)
   pure (!y1)
  else
   pure false
    : Option Bool)
 pure (id t4)
theorem zA5:∀ah aa r,mH ah aa=some r->∀{I:Imm}{p c},(S4 I p ah c)->RT 60 [vS p ah c,vI aa] I [] (zQ  r):=by
 intro ah aa r N I p c h;unfold mH at N;refine yP func60 λB=>?_;have H:=iS I;refine yE<|vM [vI aa] ?_;intro b hb;refine wA 0 rfl ?_;intro I0 le hl0;have ar:At I0 ⟨b,0,none⟩ [vI aa]:=At.of_blk hl0;have ⟨h,H⟩:=m2 le h H;refine wN [] []<|zI<|yA ?_;refine wQ N [] (λt4=>[(4,.bool t4)]) (λo0 az=>?_) ?_
 ·have H:=iS I0;refine zL<|yG 2 [] [6] rfl ?_;obtain⟨y,hy,N⟩:=zC az;refine vH (vJ (ah.length:Int) 1 2 _ hy ) ?_;intro aS af;have ⟨h,ar,H⟩:=m3 af h ar H;refine yG 4 [] [8] rfl<|wC [8] N ?_ ?_
  ·intro hc N;refine yG 6 [] [9,10] rfl ?_;have hf0:FV1 Tryz.prog aS [] (.func (.func 113) ⟨[]⟩ ⟨[vP b 0]⟩) (λx0=>sK x0 aa):=by
    refine FV1.intro ?_;intro I1 af x0 r u0 hF k0;obtain⟨_,rfl,k0⟩:=k0;obtain⟨p1,c1,rfl,h2⟩:=yD k0;exact(zC4 x0 aa r hF h2 (ar.mono af)).mono (by rintro k i hs u ⟨v0,rfl,rfl,h⟩;exact⟨rfl,h⟩)
   obtain⟨y1,ay,N⟩:=zC N;refine xX (sQ ah (λx0=>sK x0 aa) _ ay h hf0) ?_;rintro bw ax v2 k2 aE - ⟨v02,rfl,rfl,rfl⟩ -;have H:=H.trans aE;exact yQ [] [4] rfl<|yS<|zU (ct N H)
  intro hc N;exact wN [] [(4,vF)]<|yS<|zU (ct N H)
 intro t4 aP aJ aM;refine zI<|yX ?_;obtain rfl:=zB aM;exact wI
def sD(nest:(List zE))(t7:Int):Option (Out Unit (Bool)):=do
 if(decide (t7<(nest.length:Int))) then
  let x<-idx nest t7
  let t23<-(do
   let y<-mH x.Lo t7
   if(!y) then
    pure true
   else
    let y1<-mH x.Hi t7
    pure (!y1)
     : Option Bool)
  if t23 then
   pure (.ret false)
  else
   sD nest (W (t7+1))
 else
  pure (.done ())
 partial_fixpoint
theorem zB6(nest:(List zE)):∀(t7:Int) (o:Out Unit (Bool)),sD nest t7=some o->∀{B}{I0 I:Imm}{Q p c},I0.le I->(S4 I p nest c)->NG Q->NO Q->(∀(I':Imm) ,o=(.done ())->I0.le I'->T 28 B Q (.exit 0) I' [] [(0,vS p nest c)])->(∀r I' ai m',o=(.ret r)->I0.le I'->RS Tryz.prog f20 B (zQ  r) I' ai m'->T 28 B Q .ret I' ai m')->J Tryz.prog 28 B (nav (bodyOf f20) [1,0,1,0]) Q I [] [(0,vS p nest c),(5,vS p nest c),(6,vI (nest.length:Int)),(7,vI t7)]:=by
 refine sD.partial_correctness nest _ λaN ih t7 o N B I0 I Q p c H h hg ho hx hr=>yY hg ho<|yJ [8] rfl<|zW<|yC N ?_ ?_
 ·intro hc N;refine zS<|zW<|yK<|yE<|yG 1 [] [9] rfl<|bE N λx hy N=>wB rfl rfl h hy ?_;intro ad aK ar al;obtain⟨p1,c1,p2,c2,rfl,h1,h2⟩:=wJ al;refine xU 0 ar (cLoop x p1 c1 p2 c2) (vA (cLoop x p1 c1 p2 c2)) rfl<|vG zTwo ?_;intro b hb;refine yG 5 [] [3] rfl<|xW 0 (cLoop x p1 c1 p2 c2) rfl<|yB rfl<|zI<|yA ?_;refine wQ N [] (λt23=>[(0,vS p nest c),(5,vS p nest c),(6,vI (nest.length:Int)),(7,vI t7),(23,.bool t23)]) (λo0 az=>?_) ?_
  ·have H:=iS I;refine zL<|yG 3 [0] [13,14] rfl ?_;obtain⟨y,ay,N⟩:=zC az;refine vH (zA5 x.Lo t7 _ ay h1) ?_;intro aP le;have ⟨h2,H⟩:=m2 le h2 H;refine yG 6 [] [17] rfl<|wC [17] N ?_ ?_
   ·intro aD N;exact wN [] [(23,vY)]<|wD zN<|yS<|zU (ct N H)
   intro aD N;refine yG 9 [0] [19,20] rfl<|bE N λy1 aI N=>vH (zA5 x.Hi t7 _ aI h2) ?_;intro aS af;have H:=H.trans af;exact yQ [] [23] rfl<|wD zN<|yS<|zU (ct N H)
  intro t23 I0 aE aM;have ⟨h,H⟩:=m2 aE h H;refine zI<|yC aM ?_ ?_
  ·intro aQ N;exact wM [(2,vF)]<|xJ<|zR<|zF<|zF<|hr _ _ _ _ (zB N).symm H ⟨_,_,(.tmp rfl ResV.nil),zN,⟨_,rfl,rfl,rfl⟩⟩
  intro aQ N;exact zS<|zO<|zI<|zL<|yQ [] [7] rfl<|yW<|mE<|ih (W (t7+1)) _ N H h hg ho hx hr
 intro hc N;exact vQ<|yS<|hx _  (zB N).symm H
def kL(nest:(List zE)):Option (Bool):=do
 match<-sD nest 0 with
 | .ret r0=>pure r0
 | .done _=>
  pure (decide ((nest.length:Int)<=4))
theorem zDF:∀nest r,kL nest=some r->∀{I:Imm}{p c},(S4 I p nest c)->RT 20 [vS p nest c] I [] (zQ  r):=by
 intro nest r N I p c h;unfold kL at N;refine yP func20 λB=>wM []<|zW<|yJ [5,6,7] rfl<|wS<|oR [(0,vS p nest c),(5,vS p nest c),(6,vI (nest.length:Int)),(7,vI 0)] ?_;obtain⟨aO,aB,aF⟩:=zC N;refine zB6 nest 0 aO aB iR h (λ_ _ _ h=>h) (λ_ _ h=>h) ?_ ?_
 ·intro bw  heq1 aJ;subst aO;refine zT<|uN [2] rfl<|zI<|yX ?_;obtain rfl:=zB aF;exact wI
 intro r0 I9 hs9 m9 aG le9 aH;subst aG;refine zR<|zF ?_;obtain rfl:=zB aF;exact xL aH
def zAF(r:List Int):KT:=λkk I' ai v=>
 ∃a0 c0 s0,ai=[.osl (.slice a0 r.length c0) (Rp.sz Int) s0]/\v=tupV [(.slice a0 r.length c0)]/\RepL (Rp.rep I') (Rp.sz Int) s0 r
def tU(s:List Int):Option (List Int):=app 8 ([]:List Int) s
theorem kM:∀s r,tU s=some r->∀{I:Imm}{p c},SL I (vS p s c) s->RT 99 [vS p s c] I [] (zAF r):=by
 intro s r N I p c h;unfold tU at N;obtain⟨aK,k0,k01⟩:=h;refine yP func99 λB=>?_;cases p with
 | none=>
  have hs:s=[]:=by
   rcases k0 with⟨hv,rfl⟩|⟨b0,off,len,cap,cc,hv,k2⟩
   ·cases s with
    | nil=>rfl
    | cons _ _=>simp at hv
   simp at hv
  subst hs;obtain⟨_,rfl⟩:=zA2 N;refine yJ [0,2] rfl<|zW<|yE<|yG 1 [] [3] rfl<|zMS true rfl rfl ?_ rfl;exact wN [] [(4,vY)]<|zI<|zBY rfl<|wM [(2,z0)]<|xJ<|zF<|wD (zB0 (Rp.sz Int))<|xL ⟨_,_,(.tmp rfl ResV.nil),(zV [0] rfl (by decide)),⟨none,0,[],rfl,rfl,rfl⟩⟩
 | some ad=>
  refine yJ [0,2] rfl<|zW<|yE<|yG 1 [] [3] rfl<|zMS false rfl rfl ?_ rfl;refine yQ [] [0,4] rfl<|zI<|dG rfl<|zS<|xN<|qB [] Int ?_;intro b2 hb2;have h1:RL I [] ([]:List Int):=rfl;exact yG 2 [] [6] rfl<|mD 3 1 0 rfl rfl rfl h1 (.inl k0) k01 N λp1 c1 cs h2=>yQ [] [2] rfl<|xJ<|xL ⟨_,_,(.tmp rfl ResV.nil),(zV [0] rfl (by decide)),⟨_,_,_,rfl,rfl,h2⟩⟩
def uZ(a0:zA)(ag:(List Int))(sum:Int)(t12:Int):Option (Int):=do
 if(decide (t12<(ag.length:Int))) then
  let x<-idx ag t12
  let x1<-idx a0.Coefs t12
  uZ a0 ag (W (sum+(W (x1*x)))) (W (t12+1))
 else
  pure (id sum)
 partial_fixpoint
theorem zAo(a0:zA)(ag:(List Int)):∀(sum:Int) (t12:Int) (o:Int),uZ a0 ag sum t12=some o->∀{B}{I0 I:Imm}{Q p c p1 c1}{b:Nat},I0.le I->(S4 I p1 ag c1)->(S4 I p a0.Coefs c)->NG Q->NO Q->(∀(I':Imm) (sum1:Int),o=sum1->I0.le I'->T 28 B Q (.exit 0) I' [] [(5,vI sum1)])->J Tryz.prog 28 B (nav (bodyOf f208) [1,1,0,1,0]) Q I [hB b (cAff a0 p c)] [(2,vP b 0),(5,vI sum),(10,vS p1 ag c1),(11,vI (ag.length:Int)),(12,vI t12)]:=by
 refine uZ.partial_correctness a0 ag _ λaN ih sum t12 o N B I0 I Q p c p1 c1 b H h1 h hg ho hx=>yY hg ho<|yJ [13] rfl<|zW<|yC N ?_ ?_
 ·intro hc N;refine zS<|zW<|yK<|yE<|yG 1 [] [14] rfl<|bE N λx hy N=>wB rfl rfl h1 hy ?_;intro ad aK ar al;obtain rfl:=al;refine xU 0 ar [vI x] (vI x) rfl<|yQ [] [6,7] rfl<|zI<|zL<|yG 4 [0] [17,19,20] rfl<|bE N λx1 ay N=>wB rfl rfl h ay ?_;intro ad1 bi ap aw;obtain rfl:=aw;exact xU 0 ap [vI x1] (vI x1) rfl<|yQ [] [5] rfl<|zO<|zI<|zL<|yQ [] [12] rfl<|yW<|mE<|ih (W (sum+(W (x1*x)))) (W (t12+1)) _ N H h1 h hg ho hx
 intro hc N;exact vQ<|wD zN<|yS<|hx _ _ (zB N).symm H
def uR(a0:zA)(ag:(List Int)):Option (Int):=do
 let sum1<-uZ a0 ag a0.Const 0
 pure (id sum1)
theorem nJ:∀a0 ag r,uR a0 ag=some r->∀{I:Imm}{p c p1 c1},(S4 I p a0.Coefs c)->(S4 I p1 ag c1)->RT 208 [vA (cAff a0 p c),vS p1 ag c1] I [] (yT  r):=by
 intro a0 ag r N I p c p1 c1 h h1;unfold uR at N;refine yP func208 λB=>yE<|vM (cAff a0 p c) ?_;intro b hb;refine wN [] []<|xN<|yQ [0] [5] rfl<|zW<|yJ [10,11,12] rfl<|wS<|oR [(2,vP b 0),(5,vI a0.Const),(10,vS p1 ag c1),(11,vI (ag.length:Int)),(12,vI 0)] ?_;obtain⟨o0,az,aF⟩:=zC N;refine zAo a0 ag a0.Const 0 o0 az iR h1 h (λ_ _ _ h=>h) (λ_ _ h=>h) ?_;intro I0 sum1 heq le;subst o0;refine zT<|uN [4] rfl<|zI<|yX ?_;obtain rfl:=zB aF;exact wI
def gS(r:Int×Int):KT:=λkk I' ai v=>
 ∃v0 v1,ai=[]/\v=tupV [v0,v1]/\v0=.int .i64 r.1/\v1=.int .i64 r.2
def sE(l:zE)(ag:(List Int))(lo:Int)(t27:Int):Option (Int):=do
 if(decide (t27<(l.Lo.length:Int))) then
  let x2<-idx l.Lo t27
  let y2<-uR x2 ag
  sE l ag (if y2>lo then y2 else lo) (W (t27+1))
 else
  pure (id lo)
 partial_fixpoint
theorem zB7(l:zE)(ag:(List Int)):∀(lo:Int) (t27:Int) (o:Int),sE l ag lo t27=some o->∀{B}{I0 I:Imm}{Q}{y1:Int}{p c p1 c1 p2 c2}{b:Nat},I0.le I->(S4 I p2 ag c2)->(S4 I p l.Lo c)->(S4 I p1 l.Hi c1)->NG Q->NO Q->(∀(I':Imm) (lo1:Int),o=lo1->I0.le I'->T 52 B Q (.exit 0) I' [hB b (cLoop l p c p1 c1)] [(1,vS p2 ag c2),(2,vP b 0),(6,vI lo1),(7,vI y1)])->J Tryz.prog 52 B (nav (bodyOf f206) [1,1,0,1,0]) Q I [hB b (cLoop l p c p1 c1)] [(1,vS p2 ag c2),(2,vP b 0),(6,vI lo),(7,vI y1),(25,vS p l.Lo c),(26,vI (l.Lo.length:Int)),(27,vI t27)]:=by
 refine sE.partial_correctness l ag _ λaN ih lo t27 o N B I0 I Q y1 p c p1 c1 p2 c2 b H h2 h h1 hg ho hx=>yY hg ho<|yJ [28] rfl<|zW<|yC N ?_ ?_
 ·intro hc N;refine zS<|zW<|yK<|yE<|bE N λx2 br N=>wB rfl rfl h br ?_;intro ad2 bP bh bj;obtain⟨p5,c5,rfl,h7⟩:=yD bj;refine xU 0 bh (cAff x2 p5 c5) (vA (cAff x2 p5 c5)) rfl<|vG [z0,vI 0] ?_;intro b1 hb1;refine xW 0 (cAff x2 p5 c5) rfl<|yB rfl<|zI<|zL<|qX 3 [0] [(31,vI lo),(32,vA (cAff x2 p5 c5)),(33,vS p2 ag c2)]<|bE N λy2 bB N=>fN (nJ x2 ag _ bB h7 h2) ?_;intro bw aJ;have ⟨h2,h,h1,H⟩:=m4 aJ h2 h h1 H;exact yQ [] [6] rfl<|zO<|zI<|zL<|yQ [] [27] rfl<|yW<|kJ (zV [1] rfl (by decide))<|mE<|ih (if y2>lo then y2 else lo) (W (t27+1)) _ N H h2 h h1 hg ho hx
 intro hc N;exact vQ<|yS<|hx _ _ (zB N).symm H
def sF(l:zE)(ag:(List Int))(hi:Int)(t40:Int):Option (Int):=do
 if(decide (t40<(l.Hi.length:Int))) then
  let x3<-idx l.Hi t40
  let y3<-uR x3 ag
  sF l ag (if y3<hi then y3 else hi) (W (t40+1))
 else
  pure (id hi)
 partial_fixpoint
theorem zB8(l:zE)(ag:(List Int)):∀(hi:Int) (t40:Int) (o:Int),sF l ag hi t40=some o->∀{B}{I0 I:Imm}{Q}{lo1:Int}{p1 c1 p2 c2},I0.le I->(S4 I p2 ag c2)->(S4 I p1 l.Hi c1)->NG Q->NO Q->(∀(I':Imm) (hi1:Int),o=hi1->I0.le I'->T 52 B Q (.exit 2) I' [] [(6,vI lo1),(7,vI hi1)])->J Tryz.prog 52 B (nav (bodyOf f206) [1,1,1,0,1,0]) Q I [] [(1,vS p2 ag c2),(6,vI lo1),(7,vI hi),(38,vS p1 l.Hi c1),(39,vI (l.Hi.length:Int)),(40,vI t40)]:=by
 refine sF.partial_correctness l ag _ λaN ih hi t40 o N B I0 I Q lo1 p1 c1 p2 c2 H h2 h1 hg ho hx=>yY hg ho<|yJ [41] rfl<|zW<|yC N ?_ ?_
 ·intro aD N;refine zS<|zW<|yK<|yE<|bE N λx3 hy6 N=>wB rfl rfl h1 hy6 ?_;intro ad3 ccs3 hat3 bC;obtain⟨p6,c6,rfl,h9⟩:=yD bC;refine xU 0 hat3 (cAff x3 p6 c6) (vA (cAff x3 p6 c6)) rfl<|vG [z0,vI 0] ?_;intro b2 hb2;refine xW 0 (cAff x3 p6 c6) rfl<|yB rfl<|zI<|zL<|qX 3 [0] [(44,vI hi),(45,vA (cAff x3 p6 c6)),(46,vS p2 ag c2)]<|bE N λy3 hy7 N=>fN (nJ x3 ag _ hy7 h9 h2) ?_;intro bL bt;have ⟨h2,h1,H⟩:=m3 bt h2 h1 H;exact yQ [] [7] rfl<|zO<|zI<|zL<|yQ [] [40] rfl<|yW<|kJ zN<|mE<|ih (if y3<hi then y3 else hi) (W (t40+1)) _ N H h2 h1 hg ho hx
 intro aD N;exact vQ<|yS<|hx _ _ (zB N).symm H
def kN(l:zE)(ag:(List Int)):Option (Int×Int):=do
 let x<-idx l.Lo 0
 let y<-uR x ag
 let x1<-idx l.Hi 0
 let y1<-uR x1 ag
 let lo1<-sE l ag y 0
 let hi1<-sF l ag y1 0
 pure (lo1,hi1)
theorem zDG:∀l ag r,kN l ag=some r->∀{I:Imm}{p c p1 c1 p2 c2},(S4 I p l.Lo c)->(S4 I p1 l.Hi c1)->(S4 I p2 ag c2)->RT 206 [vA (cLoop l p c p1 c1),vS p2 ag c2] I [] (gS  r):=by
 intro l ag r N I p c p1 c1 p2 c2 h h1 h2;unfold kN at N;refine yP func206 λB=>?_;have H:=iS I;refine yE<|vM (cLoop l p c p1 c1) ?_;intro b hb;refine wN [] []<|zI<|yA ?_;obtain⟨x,hy,N⟩:=zC N;obtain⟨y,ay,N⟩:=zC N;obtain⟨x1,aI,N⟩:=zC N;obtain⟨y1,aW,N⟩:=zC N;refine wU [.p (vP b 0) [],.p (vS p l.Lo c) [0],.x (ePAff x),.x (eVAff x),.p (vS p2 ag c2) [],.q (vI y),.p (vP b 1) [],.p (vS p1 l.Hi c1) [0],.x (ePAff x1),.x (eVAff x1),.p (vS p2 ag c2) [],.q (vI y1),.p (vI y) []] [[],[(0,false)],[(1,false)],[(2,false)],[],[(3,false),(4,false)],[],[(6,false)],[(7,false)],[(8,false)],[],[(9,false),(10,false)],[(5,false)]] [hB b (cLoop l p c p1 c1)] [] [(11,false),(12,false)] (zY [0]) ?_ ?_
 ·refine Op<|Op<|Ox ?_<|Ox ?_<|Op<|Oq ?_<|Op<|Op<|Ox ?_<|Ox ?_<|Op<|Oq ?_<|Op<|On
  ·intro I1 hf af;refine yV [13] rfl ?_;have h:=h.mono af;refine wB rfl rfl h hy ?_;intro ad aK ar al;obtain⟨p3,c3,rfl,h3⟩:=yD al;exact yR [] iR ⟨_,_,_,rfl,rfl,ar,h3⟩
  ·rintro I1 hf af _ _ ⟨ad,p3,c3,rfl,rfl,ar,h3⟩;exact yV [14] rfl<|xU 0 ar (cAff x p3 c3) (vA (cAff x p3 c3)) rfl<|yR [] iR ⟨_,_,rfl,rfl,h3⟩
  ·rintro I1 hf af _ _ ⟨p31,c31,rfl,rfl,h31⟩;refine yV [15,16] rfl ?_;have H:=iS I1;have h2:=h2.mono af;refine fN (nJ x ag _ ay h31 h2) ?_;intro I0 le;have H:=H.trans le;exact xA H
  ·intro I1 hf af;refine yV [19] rfl ?_;have h1:=h1.mono af;refine wB rfl rfl h1 aI ?_;intro ad1 bi ap aw;obtain⟨p4,c4,rfl,h5⟩:=yD aw;exact yR [] iR ⟨_,_,_,rfl,rfl,ap,h5⟩
  ·rintro I1 hf af _ _ ⟨ad1,p4,c4,rfl,rfl,ap,h5⟩;exact yV [20] rfl<|xU 0 ap (cAff x1 p4 c4) (vA (cAff x1 p4 c4)) rfl<|yR [] iR ⟨_,_,rfl,rfl,h5⟩
  rintro I1 hf af _ _ ⟨p41,c41,rfl,rfl,h51⟩;refine yV [21,22] rfl ?_;have H:=iS I1;have h2:=h2.mono af;refine fN (nJ x1 ag _ aW h51 h2) ?_;intro aP af;have H:=H.trans af;exact xA H
 intro aS aE;refine yV [1,2,6,23] rfl ?_;have ⟨h2,h,h1⟩:=m3 aE h2 h h1;refine yQ [] [7] rfl<|zW<|yE<|yQ [0] [25,26,27] rfl<|wS<|oR [(1,vS p2 ag c2),(2,vP b 0),(6,vI y),(7,vI y1),(25,vS p l.Lo c),(26,vI (l.Lo.length:Int)),(27,vI 0)] ?_;obtain⟨o0,az,aF⟩:=zC N;refine zB7 l ag y 0 o0 az iR h2 h h1 (λ_ _ _ h=>h) (λ_ _ h=>h) ?_;intro bI lo1 heq aX;subst o0;have ⟨h2,h,h1⟩:=m3 aX h2 h h1;refine zT<|zW<|yE<|yQ [0] [38,39,40] rfl<|wS<|kJ (zY [] (ai:=[]))<|oR [(1,vS p2 ag c2),(6,vI lo1),(7,vI y1),(38,vS p1 l.Hi c1),(39,vI (l.Hi.length:Int)),(40,vI 0)] ?_;obtain⟨aO,aB,hMl1⟩:=zC aF;refine zB8 l ag y1 0 aO aB iR h2 h1 (λ_ _ _ h=>h) (λ_ _ h=>h) ?_;intro I06 hi1 heq1 bx;subst aO;refine zT<|uN [4,5] rfl<|zI<|yX ?_;obtain rfl:=zB hMl1;exact xL ⟨_,_,(.tmp rfl (.tmp rfl ResV.nil)),zN,⟨_,_,rfl,rfl,rfl,rfl⟩⟩
def jB(b0:Nat)(r:Bool×tJ):KT:=λkk I' ai v=>
 ∃v0 x0_0 y0_0 x0_2 y0_2 z0_2,ai=[.blk b0 ⟨[.slice x0_0 r.2.nest.length y0_0,.int .i64 r.2.steps,.slice x0_2 r.2.out.length y0_2]⟩,.osl (.slice x0_2 r.2.out.length y0_2) (Rp.sz (List Int)) z0_2]/\v=tupV [v0]/\v0=.bool r.1/\SL I' (.slice x0_0 r.2.nest.length y0_0) r.2.nest/\RepL (Rp.rep I') (Rp.sz (List Int)) z0_2 r.2.out
mutual
def uW(w0:tJ)(ag:(List Int)):Option (Bool×tJ):=do
 if((ag.length:Int)==(w0.nest.length:Int)) then
  let y<-tU ag
  let l<-app 24 w0.out ([y]:List (List Int))
  pure ((decide ((l.length:Int)<=120)),(tJ.mk w0.nest w0.steps l))
 else
  let x<-idx w0.nest (ag.length:Int)
  let (y2,y3)<-kN x ag
  match<-tV (same ag) (same y3) (same y2) w0.nest w0.steps w0.out with
  | .ret r0=>pure r0
  | .done (nest1,steps1,aq)=>
   pure (true,(tJ.mk nest1 steps1 aq))
 partial_fixpoint
def tV(ag:(List Int))(y3:Int)(n0:Int)(nest:List zE)(steps:Int)(out:List (List Int)):Option (Out (List zE×Int×List (List Int)) (Bool×tJ)):=do
 if(decide (n0<y3)) then
  let (t74,nest2,steps2,aC)<-(do
   if(decide ((W ((W (steps+1))+1))>1200)) then
    pure (true,nest,(W (steps+1)),out)
   else
    let y4<-tU ag
    let l1<-app 8 y4 ([n0]:List Int)
    let (y6,y7)<-uW (tJ.mk nest (W (steps+1)) out) (same l1)
    pure ((!y6),y7.nest,y7.steps,y7.out)
     : Option (Bool×List zE×Int×List (List Int)))
  if t74 then
   pure (.ret (false,(tJ.mk nest2 steps2 aC)))
  else
   tV (same ag) (same y3) (W (n0+1)) (same nest2) (same steps2) (same aC)
 else
  pure (.done (nest,steps,out))
 partial_fixpoint
end
theorem zBN:(∀(w0:tJ) (ag:(List Int)) r,uW w0 ag=some r->∀{I:Imm}{r0:Nat}{p c p1 c1 cs p2 c2},(S4 I p w0.nest c)->(RL I cs w0.out)->(S4 I p2 ag c2)->RT 157 [vP r0 0,vS p2 ag c2] I [hB r0 [vS p w0.nest c,vI w0.steps,vS p1 w0.out c1],hO (List Int) (vS p1 w0.out c1) cs] (jB r0 r))/\(∀(ag:(List Int)) (y3:Int) (n0:Int) (nest:List zE) (steps:Int) (out:List (List Int)) o,tV ag y3 n0 nest steps out=some o->∀{B}{I0 I:Imm}{Q}  {r0:Nat}{p2 c2 p7 c7 p8 c8 bd},I0.le I->(S4 I p2 ag c2)->(S4 I p7 nest c7)->(RL I bd out)->NG Q->NO Q->(∀(I':Imm) (nest1:List zE) (steps1:Int) (aq:List (List Int)) (p9:Option Addr) (c9:Nat) (aZ:Option Addr) (ba:Nat) (bD:List Value),o=(.done (nest1,steps1,aq))->I0.le I'->(S4 I' p9 nest1 c9)->(RL I' bD aq)->T 75 B Q (.exit 0) I' [hB r0 [vS p9 nest1 c9,vI steps1,vS aZ aq ba],hO (List Int) (vS aZ aq ba) bD] [])->(∀r I' ai m',o=(.ret r)->I0.le I'->RS Tryz.prog f157 B (jB r0 r) I' ai m'->T 75 B Q .ret I' ai m')->J Tryz.prog 75 B (nav (bodyOf f157) [1,1,1,0,1,0]) Q I [hB r0 [vS p7 nest c7,vI steps,vS p8 out c8],hO (List Int) (vS p8 out c8) bd] [(0,vP r0 0),(1,vS p2 ag c2),(6,vI y3),(7,vI n0)]):=by
 refine uW.mutual_partial_correctness _ _ ?_ ?_
 ·intro F_impl_walking_walk_l1 ih_impl_walking_walk_l1 w0 ag r N I r0 p c p1 c1 cs p2 c2 h h1 h2;refine yP func157 λB=>?_;have H:=iS I;refine wM []<|zW<|yE<|yQ [0] [15] rfl<|zI<|yC N ?_ ?_
  ·intro hc N;refine yA ?_;obtain⟨y,hy,N⟩:=zC N;obtain⟨l,ay,N⟩:=zC N;refine wU [.p (vP r0 0) [],.p (vP r0 0) [],.p (vP r0 0) [],.p (vP r0 2) [],.p (vS p1 w0.out c1) [0],.p (vS p2 ag c2) [],.x (λI' v hx=>∃p3 c3 aL,v=vS p3 y c3/\hx=[hO Int (vS p3 y c3) aL]/\(RL I' aL y)),.x (λI' v hx=>∃b,v=vS (some ⟨b,0,none⟩) ([y]:List (List Int)) 1/\hx=[]/\(SL I' (vS (some ⟨b,0,none⟩) ([y]:List (List Int)) 1) ([y]:List (List Int)))),.x (λI' v hx=>∃p4 c4 bf,v=vS p4 l c4/\hx=[hO (List Int) (vS p4 l c4) bf]/\(RL I' bf l))] [[],[],[(1,false)],[(2,false)],[(3,false)],[],[(5,false)],[(6,true)],[(4,false),(7,false),(12,true)]] [hB r0 [vS p w0.nest c,vI w0.steps,vS p1 w0.out c1]] [[hO (List Int) (vS p1 w0.out c1) cs]] [(0,false),(8,true)] (zY [0,1]) ?_ ?_
   ·refine Op<|Op<|Op<|Op<|Op<|Op<|Ox ?_<|Ox ?_<|Ox ?_<|On
    ·intro I1 hf af;refine yV [21] rfl ?_;have H:=iS I1;have h2:=h2.mono af;refine xX (kM ag _ hy h2) ?_;rintro I0 ax v2 k2 le - ⟨p3,c3,aL,rfl,rfl,h3⟩ -;have H:=H.trans le;exact yR [hO Int (vS p3 y c3) aL] H ⟨_,_,_,rfl,rfl,h3⟩
    ·rintro I1 hf af _ _ ⟨p3,c3,aL,rfl,rfl,h3⟩;refine yV [22] rfl ?_;have H:=iS I1;refine wA 0 rfl ?_;intro aP af hl0;have h4:=SL.of_frozen hl0 af h3;have H:=H.trans af;refine mX (rc y ⟨_,rfl,h4⟩ rN) ?_;intro b aS aE h6;have H:=H.trans aE;exact yR [] H ⟨_,rfl,rfl,h6⟩
    rintro I1 hf af _ _ ⟨rfl,rfl⟩ _ _ ⟨b,rfl,rfl,h6⟩ _ _ rfl;refine yV [20,23] rfl ?_;have h1:=iM af h1;obtain⟨aK,k0,k01⟩:=h6;have h6:SL I1 (vS (some ⟨b,0,none⟩) ([y]:List (List Int)) 1) ([y]:List (List Int)):=⟨_,k0,k01⟩;exact mD 48 1 0 rfl rfl rfl h1 (.inl k0) k01 ay λp4 c4 bf h7=>uY (ai:=(hO (List Int) (vS p4 l c4) bf::hB r0 [vS p w0.nest c,vI w0.steps,vS p1 w0.out c1]::hf)) rfl<|yR [hO (List Int) (vS p4 l c4) bf] iR ⟨_,_,_,rfl,rfl,h7⟩
   rintro bw aJ _ _ ⟨rfl,rfl⟩ _ _ ⟨p4,c4,bf,rfl,rfl,h7⟩;refine yV [0,16,24] rfl ?_;have h:=h.mono aJ;refine yG 11 [] [26] rfl<|xW 1 [vS p w0.nest c,vI w0.steps,vS p4 l c4] rfl<|yB rfl<|xN<|yQ [1] [4] rfl<|xJ<|zF ?_;obtain rfl:=zB N;exact xL ⟨_,_,(.tmp rfl ResV.nil),(zV [1,0] rfl (by decide)),⟨_,_,_,_,_,_,rfl,rfl,rfl,h,h7⟩⟩
  intro hc N;refine zS<|xN<|yG 6 [0] [37,39] rfl<|bE N λx aI N=>wB rfl rfl h aI ?_;intro ad bi ar al;obtain⟨p5,c5,p6,c6,rfl,h8,h9⟩:=wJ al;refine xU 0 ar (cLoop x p5 c5 p6 c6) (vA (cLoop x p5 c5 p6 c6)) rfl<|yG 9 [] [42] rfl ?_;obtain⟨⟨y2,y3⟩,aW,N⟩:=zC N;refine xX (zDG x ag _ aW h8 h9 h2) ?_;rintro bI ax v2 k2 aX - ⟨v02,v03,rfl,rfl,rfl,rfl⟩ -;have ⟨h2,h,h1⟩:=m3 aX h2 h h1;refine yQ [] [5,6] rfl<|zW<|yJ [7] rfl<|wS<|oR [(0,vP r0 0),(1,vS p2 ag c2),(6,vI y3),(7,vI y2)] ?_;obtain⟨aO,aB,aF⟩:=zC N;refine ih_impl_walking_walk_l1 ag y3 y2 w0.nest w0.steps w0.out aO aB iR h2 h h1 (λ_ _ _ h=>h) (λ_ _ h=>h) ?_ ?_
  ·intro I09 nest1 steps1 aq p9 c9 aZ ba bD heq1 le9 h14 h15;subst aO;refine zT<|zBL [(4,vY)]<|zI<|yX ?_;obtain rfl:=zB aF;exact xL ⟨_,_,(.tmp rfl ResV.nil),(zV [0,1] rfl (by decide)),⟨_,_,_,_,_,_,rfl,rfl,rfl,h14,h15⟩⟩
  intro r0 I9 hs9 m9 aG le9 aH;subst aG;refine zR<|zF ?_;obtain rfl:=zB aF;exact xL aH
 intro F_impl_walking_walk F_impl_walking_walk_l1 ih_impl_walking_walk ih_impl_walking_walk_l1 ag y3 n0 nest steps out o N B I0 I Q r0 p2 c2 p7 c7 p8 c8 bd H h2 h12 h13 hg ho hx hr;refine yY hg ho<|yA<|yJ [49] rfl<|zI<|yC N ?_ ?_
 ·intro aD N;refine zS<|zW<|yK<|yE<|yG 7 [0] [56,58] rfl<|xW 0 [vS p7 nest c7,vI (W (steps+1)),vS p8 out c8] rfl<|yB rfl<|zI<|yA ?_;obtain⟨o0,az,aM⟩:=zC N;refine nH (λI' ai m'=>∃(t74:Bool) (nest2:List zE) (steps2:Int) (aC:List (List Int)) (aT:Option Addr) (aU:Nat) (bv:Option Addr) (bc:Nat) (bG:List Value),o0=(t74,nest2,steps2,aC)/\I.le I'/\(S4 I' aT nest2 aU)/\(RL I' bG aC)/\ai=[hB r0 [vS aT nest2 aU,vI steps2,vS bv aC bc],hO (List Int) (vS bv aC bc) bG]/\m'=[(0,vP r0 0),(1,vS p2 ag c2),(6,vI y3),(7,vI n0),(74,.bool t74)]) ?_ ?_
  ·have H:=iS I;refine zL<|yG 7 [0] [65] rfl<|wC [65] az ?_ ?_
   ·intro aQ N;exact wN [] [(74,vY)]<|yS<|zU ⟨_,_,_,_,_,_,_,_,_,(zB N).symm,H,h12,h13,rfl,rfl⟩
   intro aQ N;refine yG 9 [] [66,67] rfl<|bE N λy4 br N=>xX (kM ag _ br h2) ?_;rintro I06 ax v2 k2 bt - ⟨bb,bm,cs6,rfl,rfl,h18⟩ -;have ⟨h12,h13,H⟩:=m3 bt h12 h13 H;refine yG 11 [] [69] rfl<|qB [vI n0] Int ?_;intro b1 hb1;have h19:RL I06 [vI n0] ([n0]:List Int):=rI [n0];obtain⟨l1,bB,N⟩:=zC N;refine mD 3 1 1 rfl rfl rfl h18 (.inr ⟨0,rfl⟩) h19 bB λp14 c14 cs7 h20=>rS (zY [1,2,3] (ai:=[hO Int (vS p14 l1 c14) cs7,hB r0 [vS p7 nest c7,vI (W (steps+1)),vS p8 out c8],hO (List Int) (vS p8 out c8) bd]))<|wA 0 rfl ?_;intro I07 bx hl02;have h21:=SL.of_frozen hl02 bx h20;have ⟨h12,h13,H⟩:=m3 bx h12 h13 H;obtain⟨⟨y6,y7⟩,hy6,N⟩:=zC N;refine sB (ih_impl_walking_walk (tJ.mk nest (W (steps+1)) out) l1 _ hy6 h12 h13 h21) rfl ?_;rintro I08 ax v2 k2 le7 - ⟨v04,p15,c15,p16,c16,cs8,rfl,rfl,rfl,h23,h24⟩ -;have H:=H.trans le7;exact yQ [] [74] rfl<|yS<|zU ⟨_,_,_,_,_,_,_,_,_,(zB N).symm,H,h23,h24,rfl,rfl⟩
  rintro bL ax m2 ⟨t74,nest2,steps2,aC,aT,aU,bv,bc,bG,heq,le8,h16,h17,rfl,rfl⟩;subst o0;have ⟨h2,H⟩:=m2 le8 h2 H;refine zI<|yC aM ?_ ?_
  ·intro bu N;exact wM [(4,vF)]<|xJ<|zR<|zF<|zF<|hr _ _ _ _ (zB N).symm H ⟨_,_,(.tmp rfl ResV.nil),(zV [0,1] rfl (by decide)),⟨_,_,_,_,_,_,rfl,rfl,rfl,h16,h17⟩⟩
  intro bu N;exact zS<|zO<|zI<|zL<|yQ [] [7] rfl<|yW<|mE<|ih_impl_walking_walk_l1 ag y3 (W (n0+1)) nest2 steps2 aC _ N H h2 h16 h17 hg ho hx hr
 intro aD N;exact vQ<|yS<|hx _ _ _ _ _ _ _ _ _ (zB N).symm H h12 h13
theorem zB9:∀w0 ag r,uW w0 ag=some r->∀{I:Imm}{r0:Nat}{p c p1 c1 cs p2 c2},(S4 I p w0.nest c)->(RL I cs w0.out)->(S4 I p2 ag c2)->RT 157 [vP r0 0,vS p2 ag c2] I [hB r0 [vS p w0.nest c,vI w0.steps,vS p1 w0.out c1],hO (List Int) (vS p1 w0.out c1) cs] (jB r0 r):=zBN.1
def eI(r:(List (List Int))×Bool):KT:=λkk I' ai v=>
 ∃v0 v1,ai=[]/\v=tupV [v0,v1]/\SL I' v0 r.1/\v1=.bool r.2
def mO(nest:(List zE)):Option ((List (List Int))×Bool):=do
 let y<-kL nest
 if(!y) then
  pure (([]:List (List Int)),false)
 else
  let (y2,y3)<-uW (tJ.mk nest 0 ([]:List (List Int))) ([]:List Int)
  if(!y2) then
   pure (([]:List (List Int)),false)
  else
   pure (y3.out,true)
theorem zC5:∀nest r,mO nest=some r->∀{I:Imm}{p c},(S4 I p nest c)->RT 94 [vS p nest c] I [] (eI  r):=by
 intro nest r N I p c h;unfold mO at N;refine yP func94 λB=>wM []<|zW<|yE<|yG 1 [] [5] rfl<|bE N λy hy N=>vH (zDF nest _ hy h) ?_;intro I0 le;have h:=h.mono le;refine yQ [] [7] rfl<|zI<|yC N ?_ ?_
 ·intro hc N;refine yJ [2,3] rfl<|xJ<|zF ?_;obtain rfl:=zB N;exact xL ⟨_,_,(.tmp rfl (.tmp rfl ResV.nil)),zN,⟨_,_,rfl,rfl,(SL.nil _),rfl⟩⟩
 intro hc N;refine zS<|xN<|yG 2 [] [9] rfl<|vM [vS p nest c,vI 0,z0] ?_;intro b hb;refine yQ [] [4] rfl<|zW<|yE<|yG 1 [] [11] rfl<|zMZ (List Int) λh2=>?_;refine rS (zY [1,0] (ai:=[hB b [vS p nest c,vI 0,vS none ([]:List (List Int)) 0],hO (List Int) (vS none ([]:List (List Int)) 0) []])) ?_;obtain⟨⟨y2,y3⟩,ay,N⟩:=zC N;refine sB (zB9 (tJ.mk nest 0 ([]:List (List Int))) ([]:List Int) _ ay h h2 (SL.nil _)) rfl ?_;rintro aP ax v2 k2 af - ⟨v01,p1,c1,p2,c2,cs,rfl,rfl,rfl,h4,h5⟩ -;refine yQ [] [13] rfl<|zI<|yC N ?_ ?_
 ·intro aD N;refine yJ [2,3] rfl<|xJ<|zF ?_;obtain rfl:=zB N;exact xL ⟨_,_,(.tmp rfl (.tmp rfl ResV.nil)),zN,⟨_,_,rfl,rfl,(SL.nil _),rfl⟩⟩
 intro aD N;refine zS<|xN<|yQ [0] [2,3] rfl<|xJ<|wH 1 rfl ?_;intro aS aE hl0;have h6:=SL.of_frozen hl0 aE h5;obtain rfl:=zB N;exact xL ⟨_,_,(.tmp rfl (.tmp rfl ResV.nil)),zN,⟨_,_,rfl,rfl,h6,rfl⟩⟩
def pD(aA:List HA)(r:Int):KT:=λkk I' ai v=>
 ∃v0,aA=ai/\v=tupV [v0]/\v0=.int .i64 r
def xM(s:(List zM))(f0:(zM->Option Bool))(t8:Int):Option (Out Unit (Int)):=do
 if(decide (t8<(s.length:Int))) then
  let x<-idx s t8
  let y<-f0 x
  if y then
   pure (.ret t8)
  else
   xM s f0 (W (t8+1))
 else
  pure (.done ())
 partial_fixpoint
theorem jC(s:(List zM))(f0:(zM->Option Bool)):∀(t8:Int) (o:Out Unit (Int)),xM s f0 t8=some o->∀{B}{I0 I:Imm}{Q p c}{fv:Value}{aA:List HA},I0.le I->(S4 I p s c)->(FV1 Tryz.prog I aA fv f0)->NG Q->NO Q->(∀(I':Imm) ,o=(.done ())->I0.le I'->T 19 B Q (.exit 0) I' aA [])->(∀r I' ai m',o=(.ret r)->I0.le I'->RS Tryz.prog f158 B (pD aA r) I' ai m'->T 19 B Q .ret I' ai m')->J Tryz.prog 19 B (nav (bodyOf f158) [1,0,1,0]) Q I aA [(0,vS p s c),(1,fv),(7,vI (s.length:Int)),(8,vI t8)]:=by
 refine xM.partial_correctness s f0 _ λaN ih t8 o N B I0 I Q p c fv aA H h h1 hg ho hx hr=>yY hg ho<|yJ [9] rfl<|zW<|yC N ?_ ?_
 ·intro hc N;refine zS<|zW<|yK<|yJ [5] rfl<|xN<|yG 3 [] [11,12,13] rfl<|bE N λx hy N=>wB rfl rfl h hy ?_;intro ad aK ar al;obtain⟨p1,c1,p2,c2,p3,c3,p4,c4,rfl,h2,h3,h4,h5⟩:=uP al;refine xU 0 ar (cStmt x p1 c1 p2 c2 p3 c3 p4 c4) (vA (cStmt x p1 c1 p2 c2 p3 c3 p4 c4)) rfl<|bE N λy ay N=>zIo rfl rfl h1 ay ⟨_,rfl,(wV ⟨_,_,_,_,rfl,h2,h3,h4,h5⟩)⟩ (cq _).symm ?_;rintro I0 v04 le rfl;refine uY (ai:=aA) (cq _) ?_;have ⟨h,h1,H⟩:=m3 le h h1 H;refine yB rfl<|zI<|yC N ?_ ?_
  ·intro aD N;exact yJ [4] rfl<|xJ<|zR<|zF<|zF<|hr _ _ _ _ (zB N).symm H ⟨_,_,(.tmp rfl ResV.nil),(λ_ h=>h),⟨_,rfl,rfl,rfl⟩⟩
  intro aD N;exact zS<|zO<|zI<|zL<|yQ [] [8] rfl<|yW<|mE<|ih (W (t8+1)) _ N H h h1 hg ho hx hr
 intro hc N;exact vQ<|yS<|hx _  (zB N).symm H
def vU(s:(List zM))(f0:(zM->Option Bool)):Option (Int):=do
 match<-xM s f0 0 with
 | .ret r0=>pure r0
 | .done _=>
  pure (-1)
theorem gB:∀s f0 r,vU s f0=some r->∀{I:Imm}{p c}{fv:Value}{aA:List HA},(S4 I p s c)->(FV1 Tryz.prog I aA fv f0)->RT 158 [vS p s c,fv] I aA (pD aA r):=by
 intro s f0 r N I p c fv aA h h1;unfold vU at N;refine yP func158 λB=>wM []<|zW<|yJ [7,8] rfl<|wS<|oR [(0,vS p s c),(1,fv),(7,vI (s.length:Int)),(8,vI 0)] ?_;obtain⟨o0,az,aF⟩:=zC N;refine jC s f0 0 o0 az iR h h1 (λ_ _ _ h=>h) (λ_ _ h=>h) ?_ ?_
 ·intro aP  heq af;subst o0;refine zT<|uN [4] rfl<|zI<|yX ?_;obtain rfl:=zB aF;exact xL ⟨_,_,(.tmp rfl ResV.nil),(λ_ h=>h),⟨_,rfl,rfl,rfl⟩⟩
 intro r0 I9 hs9 m9 aG le9 aH;subst aG;refine zR<|zF ?_;obtain rfl:=zB aF;exact xL aH
def kO(aA:List HA)(r:Bool):KT:=λkk I' ai v=>
 ∃v0,aA=ai/\v=tupV [v0]/\v0=.bool r
def wL(s:(List zM))(f0:(zM->Option Bool)):Option (Bool):=do
 let y<-vU s f0
 pure (decide (y>=0))
theorem jD:∀s f0 r,wL s f0=some r->∀{I:Imm}{p c}{fv:Value}{aA:List HA},(S4 I p s c)->(FV1 Tryz.prog I aA fv f0)->RT 95 [vS p s c,fv] I aA (kO aA r):=by
 intro s f0 r N I p c fv aA h h1;unfold wL at N;refine yP func95 λB=>wM []<|xN<|yG 2 [] [5,6] rfl<|bE N λy hy N=>zDq (hs1:=aA) (rest:=[]) rfl rfl rfl rfl (by kernel_rfl) rfl (cq _).symm (gB s f0 _ hy h h1) ?_;rintro I0 ax v2 k2 le - ⟨v0,rfl,rfl,rfl⟩ -;refine uY (ai:=aA) (cq _) ?_;refine yQ [] [4] rfl<|zI<|yX ?_;obtain rfl:=zB N;exact xL ⟨_,_,(.tmp rfl ResV.nil),(λ_ h=>h),⟨_,rfl,rfl,rfl⟩⟩
def qD(s:zA)(x:Int):Option (Bool):=do
 let t3<-(do
  let y<-rB s
  if(!y) then
   pure true
  else
   let y1<-sC s
   pure (decide (y1>x))
    : Option Bool)
 pure (id t3)
theorem zC6:∀s x r,qD s x=some r->∀{I:Imm}{p c}{ad:Addr},(S4 I p s.Coefs c)->(At I ad [vI x])->RT 136 [vA (cAff s p c),.pointer (some ad)] I [] (zQ  r):=by
 intro s x r N I p c ad h ar;unfold qD at N;refine yP func136 λB=>?_;have H:=iS I;refine yE<|vM (cAff s p c) ?_;intro b hb;refine wN [] []<|zI<|yA ?_;refine wQ N [] (λt3=>[(3,.bool t3)]) (λo0 az=>?_) ?_
 ·have H:=iS I;obtain⟨y,hy,N⟩:=zC az;cases hc:(!y) with
  | true=>
   have hM0:=rY hc N;refine wU [.p (vA (cAff s p c)) [0],.q (.bool y),.q vY,.q vY,.p undef [],.p undef [],.p undef [],.p undef [],.p vY []] [[],[(0,false)],[(1,false)],[(2,false)],[(3,false)],[(3,false),(4,false)],[(3,false)],[(3,false),(5,false),(6,false)],[(3,false),(7,false)]] [hB b (cAff s p c)] [] [(8,false)] (zY [0]) ?_ ?_
   ·refine Op<|Oq ?_<|Oq ?_<|Oq ?_<|Op<|Op<|Op<|Op<|Op<|On
    ·intro I1 hf af;refine yV [4] rfl ?_;have H:=iS I1;have h:=h.mono af;refine vH (nI s _ hy h) ?_;intro aP le;have H:=H.trans le;exact xA H
    ·intro I1 hf af;refine yV [5] rfl<|pG 3 [(6,.bool (!y))] ?_;rw[hc];exact xA iR
    intro I1 hf af;exact dD [(6,vY)]<|pG 4 [(7,vY)]<|xA iR
   intro aS af;refine dD [(12,vY)] ?_;have H:=H.trans af;exact wN [] [(3,vY)]<|wD zN<|yS<|zU (ct hM0 H)
  | false=>
   have hM01:=sP hc N;obtain⟨y1,ay,N⟩:=zC hM01;refine wU [.p (vA (cAff s p c)) [0],.q (.bool y),.q vF,.q vF,.p (vA (cAff s p c)) [0],.q (vI y1),.q (vI x),.p (.bool (decide (y1>x))) [],.p (.bool (decide (y1>x))) []] [[],[(0,false)],[(1,false)],[(2,false)],[(3,false)],[(3,false),(4,false)],[(3,false)],[(3,false),(5,false),(6,false)],[(3,false),(7,false)]] [hB b (cAff s p c)] [] [(8,false)] (zY [0]) ?_ ?_
   ·refine Op<|Oq ?_<|Oq ?_<|Oq ?_<|Op<|Oq ?_<|Oq ?_<|Op<|Op<|On
    ·intro I1 hf af;refine yV [4] rfl ?_;have H:=iS I1;have h:=h.mono af;refine vH (nI s _ hy h) ?_;intro aP le;have H:=H.trans le;exact xA H
    ·intro I1 hf af;refine yV [5] rfl<|pG 3 [(6,.bool (!y))] ?_;rw[hc];exact xA iR
    ·intro I1 hf af;exact dD [(6,vF)]<|pG 4 [(7,vF)]<|xA iR
    ·intro I1 hf af;refine yV [7,8] rfl ?_;have H:=iS I1;have h:=h.mono af;refine fN (gF s _ ay h) ?_;intro bw aE;have H:=H.trans aE;exact xA H
    intro I1 hf af;refine yV [1,7] rfl ?_;have ar:=ar.mono af;exact xU 0 ar [vI x] (vI x) rfl<|xA iR
   intro bI aJ;refine yV [12] rfl ?_;have H:=H.trans aJ;exact yQ [] [3] rfl<|wD zN<|yS<|zU (ct N H)
 intro t3 I0 aX aM;refine zI<|yX ?_;obtain rfl:=zB aM;exact wI
def mI(a0:zH)(aa:Int):Option (Bool):=do
 let t4<-(do
  let y<-kK a0.Array
  if y then
   let y1<-wT (a0.Subs.length:Int) 1 2
   if y1 then
    let y2<-xO a0.Subs (λx0=>qD x0 aa)
    pure (!y2)
   else
    pure false
  else
   pure false
    : Option Bool)
 pure (id t4)
theorem zA6:∀a0 aa r,mI a0 aa=some r->∀{I:Imm}{p c},(S4 I p a0.Subs c)->RT 82 [vA (cAccess a0 p c),vI aa] I [] (zQ  r):=by
 intro a0 aa r N I p c h;unfold mI at N;refine yP func82 λB=>?_;have H:=iS I;refine yE<|vM (cAccess a0 p c) ?_;intro b hb;refine vM [vI aa] ?_;intro b1 hb1;refine wA 0 rfl ?_;intro I0 le hl0;have ar:At I0 ⟨b1,0,none⟩ [vI aa]:=At.of_blk hl0;have ⟨h,H⟩:=m2 le h H;refine wN [] []<|zI<|yA ?_;refine wQ N [] (λt4=>[(4,.bool t4)]) (λo0 az=>?_) ?_
 ·have H:=iS I0;refine zL<|yG 2 [0] [6] rfl ?_;obtain⟨y,hy,N⟩:=zC az;refine vH (nB a0.Array _ hy ) ?_;intro aS af;have ⟨ar,h,H⟩:=m3 af ar h H;refine yG 4 [] [8] rfl<|wC [8] N ?_ ?_
  ·intro hc N;refine yG 7 [0] [11] rfl<|bE N λy1 ay N=>vH (vJ (a0.Subs.length:Int) 1 2 _ ay ) ?_;intro bw aE;have ⟨ar,h,H⟩:=m3 aE ar h H;refine yG 10 [] [14] rfl<|wC [14] N ?_ ?_
   ·intro aD N;refine yG 13 [0] [16,17] rfl ?_;have hf0:FV1 Tryz.prog bw [] (.func (.func 136) ⟨[]⟩ ⟨[vP b1 0]⟩) (λx0=>qD x0 aa):=by
     refine FV1.intro ?_;intro I1 af x0 r u0 hF k0;obtain⟨_,rfl,k0⟩:=k0;obtain⟨p1,c1,rfl,h3⟩:=yD k0;exact(zC6 x0 aa r hF h3 (ar.mono af)).mono (by rintro k i hs u ⟨v0,rfl,rfl,h⟩;exact⟨rfl,h⟩)
    obtain⟨y2,aI,N⟩:=zC N;refine xX (sQ a0.Subs (λx0=>qD x0 aa) _ aI h hf0) ?_;rintro bI ax v2 k2 aJ - ⟨v03,rfl,rfl,rfl⟩ -;have H:=H.trans aJ;exact yQ [] [4] rfl<|wD zN<|yS<|zU (ct N H)
   intro aD N;exact wN [] [(4,vF)]<|wD zN<|yS<|zU (ct N H)
  intro hc N;exact wN [] [(4,vF)]<|wD zN<|yS<|zU (ct N H)
 intro t4 aP aX aM;refine zI<|yX ?_;obtain rfl:=zB aM;exact wI
def mJ(a0:zA):Option (Bool):=do
 let t2<-(do
  if((a0.Coefs.length:Int)==0) then
   pure (a0.Const==0)
  else
   pure false
    : Option Bool)
 pure (id t2)
theorem zA7:∀a0 r,mJ a0=some r->∀{I:Imm}{p c},(S4 I p a0.Coefs c)->RT 137 [vA (cAff a0 p c)] I [] (zQ  r):=by
 intro a0 r N I p c h;unfold mJ at N;refine yP func137 λB=>?_;have H:=iS I;refine yE<|vM (cAff a0 p c) ?_;intro b hb;refine wN [] []<|zI<|yA ?_;refine wQ N [] (λt2=>[(2,.bool t2)]) (λo0 az=>?_) ?_
 ·have H:=iS I;refine zL<|yG 5 [0] [7] rfl<|wC [7] az ?_ ?_
  ·intro hc N;exact yQ [0] [2] rfl<|wD zN<|yS<|zU (ct N H)
  intro hc N;exact wN [] [(2,vF)]<|wD zN<|yS<|zU (ct N H)
 intro t2 I0 le aM;refine zI<|yX ?_;obtain rfl:=zB aM;exact wI
def pE(a0:zH):Option (Bool):=do
 let t2<-(do
  if(a0.Array.l==([]:List UInt8)) then
   pure ((a0.Subs.length:Int)==0)
  else
   pure false
    : Option Bool)
 pure (id t2)
theorem gQ:∀a0 r,pE a0=some r->∀{I:Imm}{p c},(S4 I p a0.Subs c)->RT 138 [vA (cAccess a0 p c)] I [] (zQ  r):=by
 intro a0 r N I p c h;unfold pE at N;refine yP func138 λB=>?_;have H:=iS I;refine yE<|vM (cAccess a0 p c) ?_;intro b hb;refine wN [] []<|zI<|yA ?_;refine wQ N [] (λt2=>[(2,.bool t2)]) (λo0 az=>?_) ?_
 ·have H:=iS I;refine zL<|yG 4 [0] [6] rfl<|wC [6] az ?_ ?_
  ·intro hc N;exact yQ [0] [2] rfl<|wD zN<|yS<|zU (ct N H)
  intro hc N;exact wN [] [(2,vF)]<|wD zN<|yS<|zU (ct N H)
 intro t2 I0 le aM;refine zI<|yX ?_;obtain rfl:=zB aM;exact wI
def eJ(kind:Int):Option (Bool):=do
 let y<-wT kind 4 6
 pure (id y)
theorem zGx:∀kind r,eJ kind=some r->∀{I:Imm} ,RT 139 [vI kind] I [] (zQ  r):=by
 intro kind r N I;unfold eJ at N;refine yP func139 λB=>wM []<|xN<|yG 1 [] [3] rfl<|bE N λy hy N=>vH (vJ kind 4 6 _ hy ) λI0 le=>wN [] [(2,.bool y)]<|zI<|yX ?_;obtain rfl:=zB N;exact wI
def zC7(b0:Nat)(r:Bool×Int):KT:=λkk I' ai v=>
 ∃v0 k0,ai=[.blk b0 ⟨k0⟩]/\v=tupV [v0]/\v0=.bool r.1/\Rp.rep I' k0 r.2
def uG(e0:zD)(aa:Int)(deep:Int)(count:Int):Option (Bool×Int):=do
 let t21<-(do
  if(decide ((W (count+1))>12)) then
   pure true
  else
   pure (decide (deep>5))
    : Option Bool)
 if t21 then
  pure (false,(W (count+1)))
 else
  let t51<-(do
   if(e0.Kind != 1) then
    if(e0.Num != 0) then
     pure true
    else
     if(e0.Kind != 2) then
      let y<-mJ e0.Index
      if(!y) then
       pure true
      else
       if(e0.Kind != 3) then
        let y1<-pE e0.Read
        pure (!y1)
       else
        pure false
     else
      if(e0.Kind != 3) then
       let y2<-pE e0.Read
       pure (!y2)
      else
       pure false
   else
    if(e0.Kind != 2) then
     let y3<-mJ e0.Index
     if(!y3) then
      pure true
     else
      if(e0.Kind != 3) then
       let y4<-pE e0.Read
       pure (!y4)
      else
       pure false
    else
     if(e0.Kind != 3) then
      let y5<-pE e0.Read
      pure (!y5)
     else
      pure false
     : Option Bool)
  if t51 then
   pure (false,(W (count+1)))
  else
   if(e0.Kind==1) then
    let t8<-(do
     let y6<-wT e0.Num 0 99
     if y6 then
      pure ((e0.Kids.length:Int)==0)
     else
      pure false
       : Option Bool)
    pure (t8,(W (count+1)))
   else
    if(e0.Kind==2) then
     let t81<-(do
      let y7<-rB e0.Index
      if y7 then
       let y8<-sC e0.Index
       if(decide (y8<=aa)) then
        pure ((e0.Kids.length:Int)==0)
       else
        pure false
      else
       pure false
        : Option Bool)
     pure (t81,(W (count+1)))
    else
     if(e0.Kind==3) then
      let t82<-(do
       let y9<-mI e0.Read aa
       if y9 then
        pure ((e0.Kids.length:Int)==0)
       else
        pure false
         : Option Bool)
      pure (t82,(W (count+1)))
     else
      let t99<-(do
       let y10<-eJ e0.Kind
       if(!y10) then
        pure true
       else
        pure ((e0.Kids.length:Int) != 2)
         : Option Bool)
      if t99 then
       pure (false,(W (count+1)))
      else
       let (t83,x)<-(do
        let x1<-idx e0.Kids 0
        let (y12,y13)<-uG (same x1) (same aa) (W (deep+1)) (W (count+1))
        if y12 then
         let x2<-idx e0.Kids 1
         let (y15,y16)<-uG (same x2) (same aa) (W (deep+1)) (same y13)
         pure (y15,y16)
        else
         pure (false,y13)
          : Option (Bool×Int))
       pure (t83,x)
 partial_fixpoint
theorem zEA:∀e0 aa deep count r,uG e0 aa deep count=some r->∀{I:Imm}{p c p1 c1 p2 c2}{r0:Nat},(S4 I p e0.Index.Coefs c)->(S4 I p1 e0.Read.Subs c1)->(S4 I p2 e0.Kids c2)->RT 83 [vA (cExpr e0 p c p1 c1 p2 c2),vI aa,vI deep,vP r0 0] I [hB r0 [vI count]] (zC7 r0 r):=by
 refine uG.partial_correctness _ λF_impl_exprScan ih_impl_exprScan e0 aa deep count r N I p c p1 c1 p2 c2 r0 h h1 h2=>yP func83 λB=>?_;have H:=iS I;refine yE<|vM (cExpr e0 p c p1 c1 p2 c2) ?_;intro b hb;refine wN [] []<|xN<|yG 5 [1] [12,13] rfl<|xW 1 [vI (W (count+1))] rfl<|yB rfl<|zW<|yA ?_;refine wQ N [hB b (cExpr e0 p c p1 c1 p2 c2),hB r0 [vI (W (count+1))]] (λt21=>[(1,vI aa),(2,vI deep),(3,vP r0 0),(4,vP b 0),(21,.bool t21)]) (λo0 az=>?_) ?_
 ·have H:=iS I;refine zL<|yG 5 [1] [18] rfl<|wC [18] az ?_ ?_
  ·intro hc N;exact wN [] [(21,vY)]<|yS<|zU (ct N H)
  intro hc N;exact yQ [] [21] rfl<|yS<|zU (ct N H)
 intro t21 I0 le aM;have ⟨h,h1,h2,H⟩:=m4 le h h1 h2 H;refine zI<|yC aM ?_ ?_
 ·intro aD N;refine wM [(8,vF)]<|xJ<|zF ?_;obtain rfl:=zB N;exact xL ⟨_,_,(.tmp rfl ResV.nil),(zV [1] rfl (by decide)),⟨_,_,rfl,rfl,rfl,rfl⟩⟩
 intro aD N;refine zS<|zW<|yA ?_;refine wQ N [hB b (cExpr e0 p c p1 c1 p2 c2),hB r0 [vI (W (count+1))]] (λt51=>[(1,vI aa),(2,vI deep),(3,vP r0 0),(4,vP b 0),(51,.bool t51)]) (λaO aB=>?_) ?_
 ·have H:=iS I0;refine zL<|yG 4 [0] [25] rfl<|wC [25] aB ?_ ?_
  ·intro aQ N;refine yG 9 [0] [30] rfl<|wC [30] N ?_ ?_
   ·intro bu N;exact wN [] [(51,vY)]<|yS<|zU (ct N H)
   intro bu N;refine yG 13 [0] [34] rfl<|wC [34] N ?_ ?_
   ·intro bK N;refine qX 15 [0] [(36,vA (cAff e0.Index p c))]<|bE N λy hy N=>vH (zA7 e0.Index _ hy h) ?_;intro aS af;have ⟨h1,H⟩:=m2 af h1 H;refine yG 20 [] [41] rfl<|wC [41] N ?_ ?_
    ·intro hc5 N;exact wN [] [(51,vY)]<|yS<|zU (ct N H)
    intro hc5 N;refine yG 24 [0] [45] rfl<|wC [45] N ?_ ?_
    ·intro hc6 N;refine qX 26 [0] [(47,vA (cAccess e0.Read p1 c1))]<|bE N λy1 ay N=>vH (gQ e0.Read _ ay h1) ?_;intro bw aE;have H:=H.trans aE;exact yQ [] [51] rfl<|yS<|zU (ct N H)
    intro hc6 N;exact wN [] [(51,vF)]<|yS<|zU (ct N H)
   intro bK N;refine yG 24 [0] [41,45] rfl<|wC [45] N ?_ ?_
   ·intro hc7 N;refine qX 26 [0] [(47,vA (cAccess e0.Read p1 c1))]<|bE N λy2 aI N=>vH (gQ e0.Read _ aI h1) ?_;intro bI aJ;have H:=H.trans aJ;exact yQ [] [51] rfl<|yS<|zU (ct N H)
   intro hc7 N;exact wN [] [(51,vF)]<|yS<|zU (ct N H)
  intro aQ N;refine yG 13 [0] [30,34] rfl<|wC [34] N ?_ ?_
  ·intro hc8 N;refine qX 15 [0] [(36,vA (cAff e0.Index p c))]<|bE N λy3 aW N=>vH (zA7 e0.Index _ aW h) ?_;intro bL aX;have ⟨h1,H⟩:=m2 aX h1 H;refine yG 20 [] [41] rfl<|wC [41] N ?_ ?_
   ·intro hc9 N;exact wN [] [(51,vY)]<|yS<|zU (ct N H)
   intro hc9 N;refine yG 24 [0] [45] rfl<|wC [45] N ?_ ?_
   ·intro hc10 N;refine qX 26 [0] [(47,vA (cAccess e0.Read p1 c1))]<|bE N λy4 br N=>vH (gQ e0.Read _ br h1) ?_;intro I06 bt;have H:=H.trans bt;exact yQ [] [51] rfl<|yS<|zU (ct N H)
   intro hc10 N;exact wN [] [(51,vF)]<|yS<|zU (ct N H)
  intro hc8 N;refine yG 24 [0] [41,45] rfl<|wC [45] N ?_ ?_
  ·intro hc11 N;refine qX 26 [0] [(47,vA (cAccess e0.Read p1 c1))]<|bE N λy5 bB N=>vH (gQ e0.Read _ bB h1) ?_;intro I07 bx;have H:=H.trans bx;exact yQ [] [51] rfl<|yS<|zU (ct N H)
  intro hc11 N;exact wN [] [(51,vF)]<|yS<|zU (ct N H)
 intro t51 aP le7 hMc1;have ⟨h,h1,h2,H⟩:=m4 le7 h h1 h2 H;refine zI<|yC hMc1 ?_ ?_
 ·intro hc12 N;refine wM [(8,vF)]<|xJ<|zF ?_;obtain rfl:=zB N;exact xL ⟨_,_,(.tmp rfl ResV.nil),(zV [1] rfl (by decide)),⟨_,_,rfl,rfl,rfl,rfl⟩⟩
 intro hc12 N;refine zS<|zW<|yK<|yE<|yQ [0] [52] rfl<|zI<|yC N ?_ ?_
 ·intro hc13 N;refine yA ?_;refine wQ N [hB r0 [vI (W (count+1))]] (λt8=>[(8,.bool t8)]) (λo02 ho02=>?_) ?_
  ·have H:=iS aP;refine zL<|yG 2 [0] [57] rfl ?_;obtain⟨y6,hy6,N⟩:=zC ho02;refine vH (vJ e0.Num 0 99 _ hy6 ) ?_;intro I09 le8;have H:=H.trans le8;refine yG 4 [] [59] rfl<|wC [59] N ?_ ?_
   ·intro hc14 N;exact yQ [0] [8] rfl<|wD (zV [1] rfl (by decide))<|yS<|zU (ct N H)
   intro hc14 N;exact wN [] [(8,vF)]<|wD (zV [1] rfl (by decide))<|yS<|zU (ct N H)
  intro t8 I08 le9 hMc2;refine xJ<|zR<|zF ?_;obtain rfl:=zB hMc2;exact xL ⟨_,_,(.tmp rfl ResV.nil),(zV [0] rfl (by decide)),⟨_,_,rfl,rfl,rfl,rfl⟩⟩
 intro hc13 N;refine yE<|yQ [0] [65] rfl<|zI<|yC N ?_ ?_
 ·intro hc15 N;refine yA ?_;refine wQ N [hB r0 [vI (W (count+1))]] (λt81=>[(8,.bool t81)]) (λo03 ho03=>?_) ?_
  ·have H:=iS aP;refine zL<|qX 2 [0] [(70,vA (cAff e0.Index p c))] ?_;obtain⟨y7,hy7,N⟩:=zC ho03;refine vH (nI e0.Index _ hy7 h) ?_;intro bW le10;have ⟨h,H⟩:=m2 le10 h H;refine yG 4 [] [72] rfl<|wC [72] N ?_ ?_
   ·intro hc16 N;refine qX 6 [0] [(74,vA (cAff e0.Index p c))]<|bE N λy8 hy8 N=>fN (gF e0.Index _ hy8 h) ?_;intro bV le11;have H:=H.trans le11;refine yG 11 [] [79] rfl<|wC [79] N ?_ ?_
    ·intro hc17 N;exact yQ [0] [8] rfl<|wD (zV [1] rfl (by decide))<|yS<|zU (ct N H)
    intro hc17 N;exact wN [] [(8,vF)]<|wD (zV [1] rfl (by decide))<|yS<|zU (ct N H)
   intro hc16 N;exact wN [] [(8,vF)]<|wD (zV [1] rfl (by decide))<|yS<|zU (ct N H)
  intro t81 bN le12 hMc3;refine xJ<|zR<|zF ?_;obtain rfl:=zB hMc3;exact xL ⟨_,_,(.tmp rfl ResV.nil),(zV [0] rfl (by decide)),⟨_,_,rfl,rfl,rfl,rfl⟩⟩
 intro hc15 N;refine yE<|yQ [0] [85] rfl<|zI<|yC N ?_ ?_
 ·intro hc18 N;refine yA ?_;refine wQ N [hB r0 [vI (W (count+1))]] (λt82=>[(8,.bool t82)]) (λo04 ho04=>?_) ?_
  ·have H:=iS aP;refine zL<|qX 3 [0] [(90,vA (cAccess e0.Read p1 c1)),(91,vI aa)] ?_;obtain⟨y9,hy9,N⟩:=zC ho04;refine vH (zA6 e0.Read aa _ hy9 h1) ?_;intro I014 le13;have H:=H.trans le13;refine yG 5 [] [93] rfl<|wC [93] N ?_ ?_
   ·intro hc19 N;exact yQ [0] [8] rfl<|wD (zV [1] rfl (by decide))<|yS<|zU (ct N H)
   intro hc19 N;exact wN [] [(8,vF)]<|wD (zV [1] rfl (by decide))<|yS<|zU (ct N H)
  intro t82 I013 le14 hMc4;refine xJ<|zR<|zF ?_;obtain rfl:=zB hMc4;exact xL ⟨_,_,(.tmp rfl ResV.nil),(zV [0] rfl (by decide)),⟨_,_,rfl,rfl,rfl,rfl⟩⟩
 intro hc18 N;refine yA ?_;refine wQ N [hB b (cExpr e0 p c p1 c1 p2 c2),hB r0 [vI (W (count+1))]] (λt99=>[(1,vI aa),(2,vI deep),(3,vP r0 0),(4,vP b 0),(99,.bool t99)]) (λo05 ho05=>?_) ?_
 ·have H:=iS aP;refine zL<|yG 2 [0] [101] rfl ?_;obtain⟨y10,hy10,N⟩:=zC ho05;refine vH (zGx e0.Kind _ hy10 ) ?_;intro I016 le15;have H:=H.trans le15;refine yG 5 [] [104] rfl<|wC [104] N ?_ ?_
  ·intro hc20 N;exact wN [] [(99,vY)]<|yS<|zU (ct N H)
  intro hc20 N;exact yQ [0] [99] rfl<|yS<|zU (ct N H)
 intro t99 I015 le16 hMc5;have ⟨h2,H⟩:=m2 le16 h2 H;refine zI<|yC hMc5 ?_ ?_
 ·intro hc21 N;refine wM [(8,vF)]<|xJ<|zR<|zF ?_;obtain rfl:=zB N;exact xL ⟨_,_,(.tmp rfl ResV.nil),(zV [1] rfl (by decide)),⟨_,_,rfl,rfl,rfl,rfl⟩⟩
 intro hc21 N;refine zS<|zO<|zI<|yA ?_;obtain⟨o06,ho06,hMc6⟩:=zC N;refine nH (λI' ai m'=>∃(t83:Bool) (x:Int),o06=(t83,x)/\I015.le I'/\ai=[hB r0 [vI x]]/\m'=[(8,.bool t83)]) ?_ ?_
 ·have H:=iS I015;refine zL<|yG 2 [0] [111] rfl ?_;obtain⟨x1,hy11,N⟩:=zC ho06;refine wB rfl rfl h2 hy11 ?_;intro ad aK ar al;obtain⟨p3,c3,p4,c4,p5,c5,rfl,h14,h15,h16⟩:=wO al;refine xU 0 ar (cExpr x1 p3 c3 p4 c4 p5 c5) (vA (cExpr x1 p3 c3 p4 c4 p5 c5)) rfl<|yG 8 [] [114,116,117] rfl<|rS (zY [1,0] (ai:=[hB r0 [vI (W (count+1))],hB b (cExpr e0 p c p1 c1 p2 c2)])) ?_;obtain⟨⟨y12,y13⟩,hy12,N⟩:=zC N;refine sB (ih_impl_exprScan x1 aa (W (deep+1)) (W (count+1)) _ hy12 h14 h15 h16) rfl ?_;rintro I018 ax v2 k2 le17 - ⟨v014,kk,rfl,rfl,rfl,h18⟩ -;have ⟨h2,H⟩:=m2 le17 h2 H;obtain rfl:=h18;refine yG 10 [] [119] rfl<|wC [119] N ?_ ?_
  ·intro hc22 N;refine yG 12 [1] [121] rfl<|bE N λx2 hy13 N=>wB rfl rfl h2 hy13 ?_;intro ad1 bi ap aw;obtain⟨p6,c6,p7,c7,p8,c8,rfl,h19,h20,h21⟩:=wO aw;refine xU 0 ap (cExpr x2 p6 c6 p7 c7 p8 c8) (vA (cExpr x2 p6 c6 p7 c7 p8 c8)) rfl<|yG 18 [] [124,126,127] rfl ?_;obtain⟨⟨y15,y16⟩,hy14,N⟩:=zC N;refine sB (ih_impl_exprScan x2 aa (W (deep+1)) y13 _ hy14 h19 h20 h21) rfl ?_;rintro I019 ax v2 k2 le18 - ⟨v018,kk1,rfl,rfl,rfl,h23⟩ -;have H:=H.trans le18;obtain rfl:=h23;exact yQ [] [8] rfl<|wD (zV [0] rfl (by decide))<|yS<|zU ⟨_,_,(zB N).symm,H,rfl,rfl⟩
  intro hc22 N;exact wN [] [(8,vF)]<|wD (zV [0] rfl (by decide))<|yS<|zU ⟨_,_,(zB N).symm,H,rfl,rfl⟩
 rintro I017 ax m2 ⟨t83,x,heq6,le19,rfl,rfl⟩;subst o06;refine zI<|yX ?_;obtain rfl:=zB hMc6;exact xL ⟨_,_,(.tmp rfl ResV.nil),(zV [0] rfl (by decide)),⟨_,_,rfl,rfl,rfl,rfl⟩⟩
def kP(s:zM)(aa:Int):Option (Bool):=do
 let t4<-(do
  let y<-wT aa 0 4
  if y then
   let y1<-mI s.Write aa
   if y1 then
    let (y3,y4)<-uG s.Value aa 1 0
    pure (id y3)
   else
    pure false
  else
   pure false
    : Option Bool)
 pure (id t4)
theorem zDH:∀s aa r,kP s aa=some r->∀{I:Imm}{p c p1 c1 p2 c2 p3 c3},(S4 I p s.Write.Subs c)->(S4 I p1 s.Value.Index.Coefs c1)->(S4 I p2 s.Value.Read.Subs c2)->(S4 I p3 s.Value.Kids c3)->RT 32 [vA (cStmt s p c p1 c1 p2 c2 p3 c3),vI aa] I [] (zQ  r):=by
 intro s aa r N I p c p1 c1 p2 c2 p3 c3 h h1 h2 h3;unfold kP at N;refine yP func32 λB=>?_;have H:=iS I;refine yE<|vM (cStmt s p c p1 c1 p2 c2 p3 c3) ?_;intro b hb;refine wN [] []<|xN<|vG [vI 0] ?_;intro b1 hb1;refine xW 0 [vI 0] rfl<|yB rfl<|zI<|yA ?_;refine wQ N [] (λt4=>[(4,.bool t4)]) (λo0 az=>?_) ?_
 ·have H:=iS I;refine zL<|yG 1 [] [6] rfl ?_;obtain⟨y,hy,N⟩:=zC az;refine vH (vJ aa 0 4 _ hy ) ?_;intro aP le;have ⟨h,h1,h2,h3,H⟩:=m5 le h h1 h2 h3 H;refine yG 3 [] [8] rfl<|wC [8] N ?_ ?_
  ·intro hc N;refine qX 6 [1] [(10,vA (cAccess s.Write p c)),(11,vI aa)]<|bE N λy1 ay N=>vH (zA6 s.Write aa _ ay h) ?_;intro aS af;have ⟨h1,h2,h3,H⟩:=m4 af h1 h2 h3 H;refine yG 9 [] [14] rfl<|wC [14] N ?_ ?_
   ·intro aD N;refine qX 12 [1] [(16,vA (cExpr s.Value p1 c1 p2 c2 p3 c3)),(17,vI aa)] ?_;obtain⟨⟨y3,y4⟩,aI,N⟩:=zC N;refine sB (zEA s.Value aa 1 0 _ aI h1 h2 h3) rfl ?_;rintro bw ax v2 k2 aE - ⟨v02,kk,rfl,rfl,rfl,h7⟩ -;have H:=H.trans aE;obtain rfl:=h7;exact yQ [] [4] rfl<|wD zN<|yS<|zU (ct N H)
   intro aD N;exact wN [] [(4,vF)]<|wD zN<|yS<|zU (ct N H)
  intro hc N;exact wN [] [(4,vF)]<|wD zN<|yS<|zU (ct N H)
 intro t4 I0 aJ aM;refine zI<|yX ?_;obtain rfl:=zB aM;exact wI
def vK(s:zM)(x:zJ):Option (Bool):=do
 let y<-kP s (x.Nest.length:Int)
 pure (!y)
theorem dI:∀s x r,vK s x=some r->∀{I:Imm}{p c p1 c1 p2 c2 p3 c3}{ad:Addr}{p4 c4 p5 c5},(S4 I p s.Write.Subs c)->(S4 I p1 s.Value.Index.Coefs c1)->(S4 I p2 s.Value.Read.Subs c2)->(S4 I p3 s.Value.Kids c3)->(S4 I p4 x.Nest c4)->(S4 I p5 x.Body c5)->(At I ad (cPart x p4 c4 p5 c5))->RT 96 [vA (cStmt s p c p1 c1 p2 c2 p3 c3),.pointer (some ad)] I [] (zQ  r):=by
 intro s x r N I p c p1 c1 p2 c2 p3 c3 ad p4 c4 p5 c5 h h1 h2 h3 h4 h5 ar;unfold vK at N;refine yP func96 λB=>yE<|vM (cStmt s p c p1 c1 p2 c2 p3 c3) ?_;intro b hb;refine wN [] []<|xN<|qX 2 [0] [(4,vA (cStmt s p c p1 c1 p2 c2 p3 c3)),(5,.pointer (some ad))]<|xU 0 ar [vS p4 x.Nest c4] (vS p4 x.Nest c4) rfl<|yG 4 [] [7] rfl<|bE N λy hy N=>vH (zDH s (x.Nest.length:Int) _ hy h h1 h2 h3) λI0 le=>wN [] [(3,.bool (!y))]<|zI<|yX ?_;obtain rfl:=zB N;exact wI
def pM(n0:Int):Option (Bool):=do
 let y<-wT n0 (-9999) 9999
 pure (!y)
theorem zDI:∀n0 r,pM n0=some r->∀{I:Imm} ,RT 159 [vI n0] I [] (zQ  r):=by
 intro n0 r N I;unfold pM at N;refine yP func159 λB=>wM []<|xN<|yG 1 [] [3] rfl<|bE N λy hy N=>vH (vJ n0 (-9999) 9999 _ hy ) λI0 le=>wN [] [(2,.bool (!y))]<|zI<|yX ?_;obtain rfl:=zB N;exact wI
def gG(ag:(List Int)):Option (Bool):=do
 let t2<-(do
  if(decide ((ag.length:Int)<=4)) then
   let y<-xR ag pM
   pure (!y)
  else
   pure false
    : Option Bool)
 pure (id t2)
theorem zEg:∀ag r,gG ag=some r->∀{I:Imm}{p c},(S4 I p ag c)->RT 97 [vS p ag c] I [] (zQ  r):=by
 intro ag r N I p c h;unfold gG at N;refine yP func97 λB=>?_;have H:=iS I;refine wM []<|zI<|yA ?_;refine wQ N [] (λt2=>[(2,.bool t2)]) (λo0 az=>?_) ?_
 ·have H:=iS I;refine zL<|yG 4 [] [6] rfl<|wC [6] az ?_ ?_
  ·intro hc N;refine yG 5 [] [7] rfl ?_;have hf0:FV1 Tryz.prog I [] (.func (.func 159) ⟨[]⟩ ⟨[]⟩) pM:=by
    refine FV1.intro ?_;intro I1 af x0 r u0 hF k0;obtain rfl:=k0;exact(zDI x0 r hF ).mono (by rintro k i hs u ⟨v0,rfl,rfl,h⟩;exact⟨rfl,h⟩)
   obtain⟨y,hy,N⟩:=zC N;refine xX (tT ag pM _ hy h hf0) ?_;rintro aP ax v2 k2 le - ⟨v0,rfl,rfl,rfl⟩ -;have H:=H.trans le;exact yQ [] [2] rfl<|yS<|zU (ct N H)
  intro hc N;exact wN [] [(2,vF)]<|yS<|zU (ct N H)
 intro t2 I0 af aM;refine zI<|yX ?_;obtain rfl:=zB aM;exact wI
def tL(a0:zG)(n0:Int)(t9:Int):Option (Int):=do
 if(decide (t9<(a0.Dims.length:Int))) then
  let x<-idx a0.Dims t9
  tL a0 (W (n0*x)) (W (t9+1))
 else
  pure (id n0)
 partial_fixpoint
theorem zBO(a0:zG):∀(n0:Int) (t9:Int) (o:Int),tL a0 n0 t9=some o->∀{B}{I0 I:Imm}{Q p c},I0.le I->(S4 I p a0.Dims c)->NG Q->NO Q->(∀(I':Imm) (n01:Int),o=n01->I0.le I'->T 18 B Q (.exit 0) I' [] [(3,vI n01)])->J Tryz.prog 18 B (nav (bodyOf f207) [1,1,0,1,0]) Q I [] [(3,vI n0),(7,vS p a0.Dims c),(8,vI (a0.Dims.length:Int)),(9,vI t9)]:=by
 refine tL.partial_correctness a0 _ λaN ih n0 t9 o N B I0 I Q p c H h hg ho hx=>yY hg ho<|yJ [10] rfl<|zW<|yC N ?_ ?_
 ·intro hc N;refine zS<|zW<|yK<|yE<|bE N λx hy N=>wB rfl rfl h hy ?_;intro ad aK ar al;obtain rfl:=al;exact xU 0 ar [vI x] (vI x) rfl<|yQ [] [5] rfl<|zI<|zL<|yQ [] [3] rfl<|zO<|zI<|zL<|yQ [] [9] rfl<|yW<|mE<|ih (W (n0*x)) (W (t9+1)) _ N H h hg ho hx
 intro hc N;exact vQ<|yS<|hx _ _ (zB N).symm H
def mP(a0:zG):Option (Int):=do
 let n01<-tL a0 1 0
 pure (id n01)
theorem zC8:∀a0 r,mP a0=some r->∀{I:Imm}{p c},(S4 I p a0.Dims c)->RT 207 [vA (cArr a0 p c)] I [] (yT  r):=by
 intro a0 r N I p c h;unfold mP at N;refine yP func207 λB=>yE<|vM (cArr a0 p c) ?_;intro b hb;refine wN [] []<|uN [3] rfl<|zW<|yE<|yQ [0] [7,8,9] rfl<|wS<|kJ (zY [] (ai:=[]))<|oR [(3,vI 1),(7,vS p a0.Dims c),(8,vI (a0.Dims.length:Int)),(9,vI 0)] ?_;obtain⟨o0,az,aF⟩:=zC N;refine zBO a0 1 0 o0 az iR h (λ_ _ _ h=>h) (λ_ _ h=>h) ?_;intro I0 n01 heq le;subst o0;refine zT<|uN [2] rfl<|zI<|yX ?_;obtain rfl:=zB aF;exact wI
def uS(a0:zH)(ag:(List Int))(x:zG)(at0:Int)(t40:Int):Option (Out Int (Int)):=do
 if(decide (t40<(a0.Subs.length:Int))) then
  let x1<-idx a0.Subs t40
  let y1<-uR x1 ag
  let x2<-idx x.Dims t40
  let y2<-wT y1 0 (W (x2 - 1))
  if(!y2) then
   pure (.ret (-1))
  else
   let x3<-idx x.Dims t40
   uS a0 ag x (W ((W (at0*x3))+y1)) (W (t40+1))
 else
  pure (.done at0)
 partial_fixpoint
theorem zA8(a0:zH)(ag:(List Int))(x:zG):∀(at0:Int) (t40:Int) (o:Out Int (Int)),uS a0 ag x at0 t40=some o->∀{B}{I0 I:Imm}{Q}{first:Int}{p3 c2 p4 c3 p5 c4}{b2:Nat},I0.le I->(S4 I p4 ag c3)->(S4 I p3 a0.Subs c2)->(S4 I p5 x.Dims c4)->NG Q->NO Q->(∀(I':Imm) (at01:Int),o=(.done at01)->I0.le I'->T 71 B Q (.exit 2) I' [] [(7,vI first),(10,vI at01)])->(∀r I' ai m',o=(.ret r)->I0.le I'->RS Tryz.prog f160 B (yT  r) I' ai m'->T 71 B Q .ret I' ai m')->J Tryz.prog 71 B (nav (bodyOf f160) [1,1,0,1,0,0,1,1,0,0,1,1,1,1,0,1,0]) Q I [hB b2 (cArr x p5 c4)] [(2,vS p4 ag c3),(7,vI first),(9,vP b2 0),(10,vI at0),(38,vS p3 a0.Subs c2),(39,vI (a0.Subs.length:Int)),(40,vI t40)]:=by
 refine uS.partial_correctness a0 ag x _ λaN ih at0 t40 o N B I0 I Q first p3 c2 p4 c3 p5 c4 b2 H h3 h2 h4 hg ho hx hr=>yY hg ho<|yJ [41] rfl<|zW<|yC N ?_ ?_
 ·intro bu N;refine zS<|zW<|yK<|yE<|yG 1 [] [42] rfl<|bE N λx1 aI N=>wB rfl rfl h2 aI ?_;intro ad1 bi ap aw;obtain⟨p6,c5,rfl,h6⟩:=yD aw;refine xU 0 ap (cAff x1 p6 c5) (vA (cAff x1 p6 c5)) rfl<|vG [z0,vI 0] ?_;intro b3 hb3;refine yG 5 [] [11] rfl<|xW 0 (cAff x1 p6 c5) rfl<|yB rfl<|xN<|qX 2 [0] [(45,vA (cAff x1 p6 c5)),(46,vS p4 ag c3)]<|bE N λy1 aW N=>fN (nJ x1 ag _ aW h6 h3) ?_;intro aP af;have ⟨h3,h2,h4,H⟩:=m4 af h3 h2 h4 H;refine yQ [] [13] rfl<|zW<|yE<|yG 4 [1] [48,50,51] rfl<|bE N λx2 br N=>wB rfl rfl h4 br ?_;intro ad2 bP bh bj;obtain rfl:=bj;refine xU 0 bh [vI x2] (vI x2) rfl<|yG 7 [] [54] rfl<|bE N λy2 bB N=>vH (vJ y1 0 (W (x2 - 1)) _ bB ) ?_;intro aS aE;have ⟨h3,h2,h4,H⟩:=m4 aE h3 h2 h4 H;refine yQ [] [56] rfl<|zI<|yC N ?_ ?_
  ·intro bK N;exact yJ [6] rfl<|xJ<|zF<|zR<|zF<|zF<|hr _ _ _ _ (zB N).symm H ⟨_,_,(.tmp rfl ResV.nil),zN,⟨_,rfl,rfl,rfl⟩⟩
  intro bK N;refine zS<|zI<|zL<|yG 4 [1] [57,59,60] rfl<|bE N λx3 hy6 N=>wB rfl rfl h4 hy6 ?_;intro ad3 ccs3 hat3 bC;obtain rfl:=bC;exact xU 0 hat3 [vI x3] (vI x3) rfl<|yQ [] [10] rfl<|zO<|zI<|zL<|yQ [] [40] rfl<|yW<|kJ (zV [1] rfl (by decide))<|mE<|ih (W ((W (at0*x3))+y1)) (W (t40+1)) _ N H h3 h2 h4 hg ho hx hr
 intro bu N;exact vQ<|wD zN<|yS<|hx _ _ (zB N).symm H
def vV(p:zP)(a0:zH)(ag:(List Int))(first:Int)(t17:Int):Option (Out Unit (Int)):=do
 if(decide (t17<(p.Arrays.length:Int))) then
  let x<-idx p.Arrays t17
  if(!(x.Name.l==a0.Array.l)) then
   let y<-mP x
   vV p a0 ag (W (first+y)) (W (t17+1))
  else
   if((a0.Subs.length:Int) != (x.Dims.length:Int)) then
    pure (.ret (-1))
   else
    match<-uS a0 ag x 0 0 with
    | .ret r0=>pure (.ret r0)
    | .done at01=>
     pure (.ret (W (first+at01)))
 else
  pure (.done ())
 partial_fixpoint
theorem zA9(p:zP)(a0:zH)(ag:(List Int)):∀(first:Int) (t17:Int) (o:Out Unit (Int)),vV p a0 ag first t17=some o->∀{B}{I0 I:Imm}{Q p1 c p3 c2 p4 c3}{b1:Nat},I0.le I->(S4 I p4 ag c3)->(S4 I p1 p.Arrays c)->(S4 I p3 a0.Subs c2)->NG Q->NO Q->(∀(I':Imm) ,o=(.done ())->I0.le I'->T 71 B Q (.exit 0) I' [] [])->(∀r I' ai m',o=(.ret r)->I0.le I'->RS Tryz.prog f160 B (yT  r) I' ai m'->T 71 B Q .ret I' ai m')->J Tryz.prog 71 B (nav (bodyOf f160) [1,1,0,1,0]) Q I [hB b1 (cAccess a0 p3 c2)] [(2,vS p4 ag c3),(4,vP b1 0),(7,vI first),(15,vS p1 p.Arrays c),(16,vI (p.Arrays.length:Int)),(17,vI t17)]:=by
 refine vV.partial_correctness p a0 ag _ λaN ih first t17 o N B I0 I Q p1 c p3 c2 p4 c3 b1 H h3 h h2 hg ho hx hr=>yY hg ho<|yJ [18] rfl<|zW<|yC N ?_ ?_
 ·intro hc N;refine zS<|zW<|yK<|yE<|bE N λx hy N=>wB rfl rfl h hy ?_;intro ad aK ar al;obtain⟨p5,c4,rfl,h4⟩:=xQ al;refine xU 0 ar (cArr x p5 c4) (vA (cArr x p5 c4)) rfl<|vG [vT ([]),z0] ?_;intro b2 hb2;refine xW 0 (cArr x p5 c4) rfl<|yB rfl<|zW<|yE<|yQ [0,1] [25] rfl<|zI<|yC N ?_ ?_
  ·intro aD N;refine yE<|qX 2 [0] [(26,vI first),(27,vA (cArr x p5 c4))]<|bE N λy ay N=>fN (zC8 x _ ay h4) ?_;intro I0 le;have ⟨h3,h,h2,H⟩:=m4 le h3 h h2 H;exact yQ [] [7] rfl<|zI<|zFJ<|gD<|zT<|zI<|zL<|yQ [] [17] rfl<|yW<|kJ (zV [1] rfl (by decide))<|mE<|ih (W (first+y)) (W (t17+1)) _ N H h3 h h2 hg ho hx hr
  intro aD N;refine zS<|zW<|yE<|yQ [1,0] [36] rfl<|zI<|yC N ?_ ?_
  ·intro aQ N;exact yJ [6] rfl<|xJ<|zF<|zR<|zF<|zF<|hr _ _ _ _ (zB N).symm H ⟨_,_,(.tmp rfl ResV.nil),zN,⟨_,rfl,rfl,rfl⟩⟩
  intro aQ N;refine zS<|uN [10] rfl<|zW<|yE<|yQ [1] [38,39,40] rfl<|wS<|kJ (zY [0] (ai:=[hB b2 (cArr x p5 c4)]))<|oR [(2,vS p4 ag c3),(7,vI first),(9,vP b2 0),(10,vI 0),(38,vS p3 a0.Subs c2),(39,vI (a0.Subs.length:Int)),(40,vI 0)] ?_;obtain⟨o0,az,aF⟩:=zC N;refine zA8 a0 ag x 0 0 o0 az iR h3 h2 h4 (λ_ _ _ h=>hg _ _ _ h) (λ_ _ h=>ho _ _ h) ?_ ?_
  ·intro bw at01 heq aJ;subst o0;have H:=H.trans aJ;exact zT<|uN [6] rfl<|xJ<|zR<|zF<|zF<|hr _ _ _ _ (zB aF).symm H ⟨_,_,(.tmp rfl ResV.nil),zN,⟨_,rfl,rfl,rfl⟩⟩
  intro r0 I9 hs9 m9 aG le9 aH;subst aG;exact zR<|zF<|zR<|zF<|zF<|hr _ _ _ _ (zB aF).symm (H.trans le9) aH
 intro hc N;exact vQ<|wD zN<|yS<|hx _  (zB N).symm H
def qY(p:zP)(a0:zH)(ag:(List Int)):Option (Int):=do
 match<-vV p a0 ag 0 0 with
 | .ret r0=>pure r0
 | .done _=>
  pure (-1)
theorem eK:∀p a0 ag r,qY p a0 ag=some r->∀{I:Imm}{p1 c p2 c1 p3 c2 p4 c3},(S4 I p1 p.Arrays c)->(S4 I p2 p.Parts c1)->(S4 I p3 a0.Subs c2)->(S4 I p4 ag c3)->RT 160 [vA (cProg p p1 c p2 c1),vA (cAccess a0 p3 c2),vS p4 ag c3] I [] (yT  r):=by
 intro p a0 ag r N I p1 c p2 c1 p3 c2 p4 c3 h h1 h2 h3;unfold qY at N;refine yP func160 λB=>yE<|vM (cProg p p1 c p2 c1) ?_;intro b hb;refine vM (cAccess a0 p3 c2) ?_;intro b1 hb1;refine wN [] []<|uN [7] rfl<|zW<|yE<|yQ [1] [15,16,17] rfl<|wS<|kJ (zY [0] (ai:=[hB b1 (cAccess a0 p3 c2)]))<|oR [(2,vS p4 ag c3),(4,vP b1 0),(7,vI 0),(15,vS p1 p.Arrays c),(16,vI (p.Arrays.length:Int)),(17,vI 0)] ?_;obtain⟨aO,aB,hMl1⟩:=zC N;refine zA9 p a0 ag 0 0 aO aB iR h3 h h2 (λ_ _ _ h=>h) (λ_ _ h=>h) ?_ ?_
 ·intro bI  heq1 aX;subst aO;refine zT<|uN [6] rfl<|zI<|yX ?_;obtain rfl:=zB hMl1;exact wI
 intro r0 I9 hs9 m9 aG le9 aH;subst aG;refine zR<|zF ?_;obtain rfl:=zB hMl1;exact xL aH
def sZ(aA:List HA)(r:Int):KT:=λkk I' ai v=>
 ∃v0,aA=ai/\v=tupV [v0]/\v0=.int .i64 r
def xF(s:(List zH))(f0:(zH->Option Bool))(t8:Int):Option (Out Unit (Int)):=do
 if(decide (t8<(s.length:Int))) then
  let x<-idx s t8
  let y<-f0 x
  if y then
   pure (.ret t8)
  else
   xF s f0 (W (t8+1))
 else
  pure (.done ())
 partial_fixpoint
theorem mZ(s:(List zH))(f0:(zH->Option Bool)):∀(t8:Int) (o:Out Unit (Int)),xF s f0 t8=some o->∀{B}{I0 I:Imm}{Q p c}{fv:Value}{aA:List HA},I0.le I->(S4 I p s c)->(FV1 Tryz.prog I aA fv f0)->NG Q->NO Q->(∀(I':Imm) ,o=(.done ())->I0.le I'->T 19 B Q (.exit 0) I' aA [])->(∀r I' ai m',o=(.ret r)->I0.le I'->RS Tryz.prog f209 B (sZ aA r) I' ai m'->T 19 B Q .ret I' ai m')->J Tryz.prog 19 B (nav (bodyOf f209) [1,0,1,0]) Q I aA [(0,vS p s c),(1,fv),(7,vI (s.length:Int)),(8,vI t8)]:=by
 refine xF.partial_correctness s f0 _ λaN ih t8 o N B I0 I Q p c fv aA H h h1 hg ho hx hr=>yY hg ho<|yJ [9] rfl<|zW<|yC N ?_ ?_
 ·intro hc N;refine zS<|zW<|yK<|yJ [5] rfl<|xN<|yG 3 [] [11,12,13] rfl<|bE N λx hy N=>wB rfl rfl h hy ?_;intro ad aK ar al;obtain⟨p1,c1,rfl,h2⟩:=nW al;refine xU 0 ar (cAccess x p1 c1) (vA (cAccess x p1 c1)) rfl<|bE N λy ay N=>zIo rfl rfl h1 ay ⟨_,rfl,(nQ ⟨_,rfl,h2⟩)⟩ (cq _).symm ?_;rintro I0 v01 le rfl;refine uY (ai:=aA) (cq _) ?_;have ⟨h,h1,H⟩:=m3 le h h1 H;refine yB rfl<|zI<|yC N ?_ ?_
  ·intro aD N;exact yJ [4] rfl<|xJ<|zR<|zF<|zF<|hr _ _ _ _ (zB N).symm H ⟨_,_,(.tmp rfl ResV.nil),(λ_ h=>h),⟨_,rfl,rfl,rfl⟩⟩
  intro aD N;exact zS<|zO<|zI<|zL<|yQ [] [8] rfl<|yW<|mE<|ih (W (t8+1)) _ N H h h1 hg ho hx hr
 intro hc N;exact vQ<|yS<|hx _  (zB N).symm H
def wZ(s:(List zH))(f0:(zH->Option Bool)):Option (Int):=do
 match<-xF s f0 0 with
 | .ret r0=>pure r0
 | .done _=>
  pure (-1)
theorem kX:∀s f0 r,wZ s f0=some r->∀{I:Imm}{p c}{fv:Value}{aA:List HA},(S4 I p s c)->(FV1 Tryz.prog I aA fv f0)->RT 209 [vS p s c,fv] I aA (sZ aA r):=by
 intro s f0 r N I p c fv aA h h1;unfold wZ at N;refine yP func209 λB=>wM []<|zW<|yJ [7,8] rfl<|wS<|oR [(0,vS p s c),(1,fv),(7,vI (s.length:Int)),(8,vI 0)] ?_;obtain⟨o0,az,aF⟩:=zC N;refine mZ s f0 0 o0 az iR h h1 (λ_ _ _ h=>h) (λ_ _ h=>h) ?_ ?_
 ·intro aP  heq af;subst o0;refine zT<|uN [4] rfl<|zI<|yX ?_;obtain rfl:=zB aF;exact xL ⟨_,_,(.tmp rfl ResV.nil),(λ_ h=>h),⟨_,rfl,rfl,rfl⟩⟩
 intro r0 I9 hs9 m9 aG le9 aH;subst aG;refine zR<|zF ?_;obtain rfl:=zB aF;exact xL aH
def mG(aA:List HA)(r:Bool):KT:=λkk I' ai v=>
 ∃v0,aA=ai/\v=tupV [v0]/\v0=.bool r
def wF(s:(List zH))(f0:(zH->Option Bool)):Option (Bool):=do
 let y<-wZ s f0
 pure (decide (y>=0))
theorem kA:∀s f0 r,wF s f0=some r->∀{I:Imm}{p c}{fv:Value}{aA:List HA},(S4 I p s c)->(FV1 Tryz.prog I aA fv f0)->RT 161 [vS p s c,fv] I aA (mG aA r):=by
 intro s f0 r N I p c fv aA h h1;unfold wF at N;refine yP func161 λB=>wM []<|xN<|yG 2 [] [5,6] rfl<|bE N λy hy N=>zDq (hs1:=aA) (rest:=[]) rfl rfl rfl rfl (by kernel_rfl) rfl (cq _).symm (kX s f0 _ hy h h1) ?_;rintro I0 ax v2 k2 le - ⟨v0,rfl,rfl,rfl⟩ -;refine uY (ai:=aA) (cq _) ?_;refine yQ [] [4] rfl<|zI<|yX ?_;obtain rfl:=zB N;exact xL ⟨_,_,(.tmp rfl ResV.nil),(λ_ h=>h),⟨_,rfl,rfl,rfl⟩⟩
def zBI(r:(List zH)):KT:=λkk I' ai v=>
 ∃v0,ai=[]/\v=tupV [v0]/\SL I' v0 r
mutual
def jE(e0:zD):Option ((List zH)):=do
 if(e0.Kind==3) then
  pure ([e0.Read]:List zH)
 else
  let aq<-nC (same e0) ([]:List zH) (same 0)
  pure (id aq)
 partial_fixpoint
def nC(e0:zD)(out:List zH)(t15:Int):Option (List zH):=do
 if(decide (t15<(e0.Kids.length:Int))) then
  let x<-idx e0.Kids t15
  let y<-jE (same x)
  let aC<-app 40 out y
  nC (same e0) (same aC) (W (t15+1))
 else
  pure (id out)
 partial_fixpoint
end
theorem zF1:(∀(e0:zD) r,jE e0=some r->∀{I:Imm}{p c p1 c1 p2 c2},(S4 I p e0.Index.Coefs c)->(S4 I p1 e0.Read.Subs c1)->(S4 I p2 e0.Kids c2)->RT 162 [vA (cExpr e0 p c p1 c1 p2 c2)] I [] (zBI  r))/\(∀(e0:zD) (out:List zH) (t15:Int) o,nC e0 out t15=some o->∀{B}{I0 I:Imm}{Q p2 c2 p3 c3 cs},I0.le I->(S4 I p2 e0.Kids c2)->(RL I cs out)->NG Q->NO Q->(∀(I':Imm) (aq:List zH) (p4:Option Addr) (c4:Nat) (aL:List Value),o=aq->I0.le I'->(RL I' aL aq)->T 25 B Q (.exit 0) I' [hO zH (vS p4 aq c4) aL] [(3,vS p4 aq c4)])->J Tryz.prog 25 B (nav (bodyOf f162) [1,1,1,0,1,0]) Q I [hO zH (vS p3 out c3) cs] [(3,vS p3 out c3),(13,vS p2 e0.Kids c2),(14,vI (e0.Kids.length:Int)),(15,vI t15)]):=by
 refine jE.mutual_partial_correctness _ _ ?_ ?_
 ·intro F_impl_reads_l1 ih_impl_reads_l1 e0 r N I p c p1 c1 p2 c2 h h1 h2;refine yP func162 λB=>yE<|vM (cExpr e0 p c p1 c1 p2 c2) ?_;intro b hb;refine wN [] []<|zW<|yE<|yQ [0] [8] rfl<|zI<|yC N ?_ ?_
  ·intro hc N;refine yE<|qX 2 [0] [(10,vA (cAccess e0.Read p1 c1))]<|qB (cAccess e0.Read p1 c1) zH ?_;intro b1 hb1;have h3:RL I (cAccess e0.Read p1 c1) ([e0.Read]:List zH):=⟨(cAccess e0.Read p1 c1),_,rfl,rfl,(nQ ⟨_,rfl,h1⟩),rfl⟩;refine yQ [] [2] rfl<|xJ<|zF<|wH 0 rfl ?_;intro I0 le hl0;have h4:=SL.of_frozen hl0 le h3;obtain rfl:=zB N;exact xL ⟨_,_,(.tmp rfl ResV.nil),zN,⟨_,rfl,rfl,h4⟩⟩
  intro hc N;refine zS<|zBL [(3,z0)]<|zW<|yE<|yQ [0] [13,14,15] rfl<|wS<|kJ (zY [] (ai:=[]))<|oR [(3,z0),(13,vS p2 e0.Kids c2),(14,vI (e0.Kids.length:Int)),(15,vI 0)]<|zAm zH λh5=>?_;obtain⟨o0,az,aF⟩:=zC N;refine ih_impl_reads_l1 e0 ([]:List zH) 0 o0 az iR h2 h5 (λ_ _ _ h=>h) (λ_ _ h=>h) ?_;intro aS aq p4 c4 aL heq aE h7;subst o0;refine zT<|uN [2] rfl<|xJ<|wH 0 rfl ?_;intro bw aJ hl01;have h13:=SL.of_frozen hl01 aJ h7;obtain rfl:=zB aF;exact xL ⟨_,_,(.tmp rfl ResV.nil),zN,⟨_,rfl,rfl,h13⟩⟩
 intro F_impl_reads F_impl_reads_l1 ih_impl_reads ih_impl_reads_l1 e0 out t15 o N B I0 I Q p2 c2 p3 c3 cs H h2 h6 hg ho hx;refine yY hg ho<|yJ [16] rfl<|zW<|yC N ?_ ?_
 ·intro aD N;refine zS<|zW<|yK<|yE<|bE N λx hy N=>wB rfl rfl h2 hy ?_;intro ad aK ar al;obtain⟨p5,c5,p6,c6,p7,c7,rfl,h8,h9,h10⟩:=wO al;refine xU 0 ar (cExpr x p5 c5 p6 c6 p7 c7) (vA (cExpr x p5 c5 p6 c6 p7 c7)) rfl<|vG zExpr ?_;intro b2 hb2;refine xW 0 (cExpr x p5 c5 p6 c6 p7 c7) rfl<|yB rfl<|zI<|zL<|qX 2 [0] [(19,vS p3 out c3),(20,vA (cExpr x p5 c5 p6 c6 p7 c7))]<|bE N λy ay N=>xX (ih_impl_reads x _ ay h8 h9 h10) ?_;rintro aP ax v2 k2 af - ⟨v03,rfl,rfl,h11⟩ -;have ⟨h2,h6,H⟩:=m3 af h2 h6 H;obtain⟨p8,c8,rfl⟩:=h11.form;obtain⟨bi,k0,k01⟩:=h11;have h11:SL aP (vS p8 y c8) y:=⟨_,k0,k01⟩;obtain⟨aC,aI,N⟩:=zC N;exact mD 47 2 1 rfl rfl rfl h6 (.inl k0) k01 aI λp9 c9 bf h12=>rS (zY [0,1] (ai:=[hB b2 (cExpr x p5 c5 p6 c6 p7 c7),hO zH (vS p9 aC c9) bf]))<|yQ [] [3] rfl<|zO<|zI<|zL<|yQ [] [15] rfl<|yW<|kJ (zV [1] rfl (by decide))<|mE<|ih_impl_reads_l1 e0 aC (W (t15+1)) _ N H h2 h12 hg ho hx
 intro aD N;exact vQ<|yS<|hx _ _ _ _ _ (zB N).symm H h6
theorem zGK:∀e0 r,jE e0=some r->∀{I:Imm}{p c p1 c1 p2 c2},(S4 I p e0.Index.Coefs c)->(S4 I p1 e0.Read.Subs c1)->(S4 I p2 e0.Kids c2)->RT 162 [vA (cExpr e0 p c p1 c1 p2 c2)] I [] (zBI  r):=zF1.1
def uI(a0:zH)(x:zP)(x1:(List Int)):Option (Bool):=do
 let y<-qY x a0 x1
 pure (decide (y<0))
theorem zAZ:∀a0 x x1 r,uI a0 x x1=some r->∀{I:Imm}{p c}{ad:Addr}{p1 c1 p2 c2}{ad1:Addr}{p3 c3},(S4 I p a0.Subs c)->(S4 I p1 x.Arrays c1)->(S4 I p2 x.Parts c2)->(At I ad (cProg x p1 c1 p2 c2))->(S4 I p3 x1 c3)->(At I ad1 [vS p3 x1 c3])->RT 163 [vA (cAccess a0 p c),.pointer (some ad),.pointer (some ad1)] I [] (zQ  r):=by
 intro a0 x x1 r N I p c ad p1 c1 p2 c2 ad1 p3 c3 h h1 h2 ar h3 ap;unfold uI at N;refine yP func163 λB=>yE<|vM (cAccess a0 p c) ?_;intro b hb;refine wN [] []<|xN<|xU 0 ar (cProg x p1 c1 p2 c2) (vA (cProg x p1 c1 p2 c2)) rfl<|qX 2 [0] [(6,vA (cAccess a0 p c))]<|xU 0 ap [vS p3 x1 c3] (vS p3 x1 c3) rfl<|bE N λy hy N=>fN (eK x a0 x1 _ hy h1 h2 h h3) λI0 le=>wN [] [(4,.bool (decide (y<0)))]<|zI<|yX ?_;obtain rfl:=zB N;exact wI
def pH(p:zP)(s:zM)(ag:(List Int)):Option (Bool):=do
 let t6<-(do
  let y<-qY p s.Write ag
  if(decide (y>=0)) then
   let y1<-jE s.Value
   let y2<-wF y1 (λx0=>uI x0 p ag)
   pure (!y2)
  else
   pure false
    : Option Bool)
 pure (id t6)
theorem zAp:∀p s ag r,pH p s ag=some r->∀{I:Imm}{p1 c p2 c1 p3 c2 p4 c3 p5 c4 p6 c5 p7 c6},(S4 I p1 p.Arrays c)->(S4 I p2 p.Parts c1)->(S4 I p3 s.Write.Subs c2)->(S4 I p4 s.Value.Index.Coefs c3)->(S4 I p5 s.Value.Read.Subs c4)->(S4 I p6 s.Value.Kids c5)->(S4 I p7 ag c6)->RT 98 [vA (cProg p p1 c p2 c1),vA (cStmt s p3 c2 p4 c3 p5 c4 p6 c5),vS p7 ag c6] I [] (zQ  r):=by
 intro p s ag r N I p1 c p2 c1 p3 c2 p4 c3 p5 c4 p6 c5 p7 c6 h h1 h2 h3 h4 h5 h6;unfold pH at N;refine yP func98 λB=>?_;have H:=iS I;refine yE<|vM (cProg p p1 c p2 c1) ?_;intro b hb;refine wA 0 rfl ?_;intro I0 le hl0;have ar:At I0 ⟨b,0,none⟩ (cProg p p1 c p2 c1):=At.of_blk hl0;have ⟨h,h1,h2,h3,h4,h5⟩:=m6 le h h1 h2 h3 h4 h5;have ⟨h6,H⟩:=m2 le h6 H;refine vM (cStmt s p3 c2 p4 c3 p5 c4 p6 c5) ?_;intro b1 hb1;refine vM [vS p7 ag c6] ?_;intro b2 hb2;refine wA 0 rfl ?_;intro aP af hl01;have ap:At aP ⟨b2,0,none⟩ [vS p7 ag c6]:=At.of_blk hl01;have ⟨h,h1,h2,h3,h4,h5⟩:=m6 af h h1 h2 h3 h4 h5;have ⟨h6,ar,H⟩:=m3 af h6 ar H;refine wN [] []<|zI<|yA ?_;refine wQ N [] (λt6=>[(6,.bool t6)]) (λo0 az=>?_) ?_
 ·have H:=iS aP;refine zL<|xU 0 ar (cProg p p1 c p2 c1) (vA (cProg p p1 c p2 c1)) rfl<|qX 3 [0] [(9,vA (cAccess s.Write p3 c2))]<|xU 0 ap [vS p7 ag c6] (vS p7 ag c6) rfl ?_;obtain⟨y,hy,N⟩:=zC az;refine fN (eK p s.Write ag _ hy h h1 h2 h6) ?_;intro bw aE;have ⟨h,h1,ar,h6,ap,h3⟩:=m6 aE h h1 ar h6 ap h3;have ⟨h4,h5,H⟩:=m3 aE h4 h5 H;refine yG 7 [] [13] rfl<|wC [13] N ?_ ?_
  ·intro hc N;refine qX 9 [0] [(15,vA (cExpr s.Value p4 c3 p5 c4 p6 c5))]<|bE N λy1 ay N=>xX (zGK s.Value _ ay h3 h4 h5) ?_;rintro bI ax v2 k2 aJ - ⟨v01,rfl,rfl,h8⟩ -;have ⟨h,h1,ar,h6,ap,H⟩:=m6 aJ h h1 ar h6 ap H;obtain⟨p8,c7,rfl⟩:=h8.form;refine yG 11 [] [17] rfl ?_;have hf0:FV1 Tryz.prog bI [] (.func (.func 163) ⟨[]⟩ ⟨[vP b 0,vP b2 0]⟩) (λx0=>uI x0 p ag):=by
    refine FV1.intro ?_;intro I1 af x0 r u0 hF k0;obtain⟨_,rfl,k0⟩:=k0;obtain⟨p9,c8,rfl,h9⟩:=nW k0;exact(zAZ x0 p ag r hF h9 (h.mono af) (h1.mono af) (ar.mono af) (h6.mono af) (ap.mono af)).mono (by rintro k i hs u ⟨v0,rfl,rfl,h⟩;exact⟨rfl,h⟩)
   obtain⟨y2,aI,N⟩:=zC N;refine xX (kA y1 (λx0=>uI x0 p ag) _ aI h8 hf0) ?_;rintro bL ax v2 k2 aX - ⟨v03,rfl,rfl,rfl⟩ -;have H:=H.trans aX;exact yQ [] [6] rfl<|wD zN<|yS<|zU (ct N H)
  intro hc N;exact wN [] [(6,vF)]<|wD zN<|yS<|zU (ct N H)
 intro t6 aS bt aM;refine zI<|yX ?_;obtain rfl:=zB aM;exact wI
end Go.LN
