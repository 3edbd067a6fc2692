/- Helper of the proof (see the last text). -/
import Derived.Test.YtmlnffbepjijhaaGreatLnN
import Derived.Test.YtmlnffbepjijhaaGreatLnYD
import Derived.Test.YtmlnffbepjijhaaGreatTryzShelf
set_option linter.unusedVariables false
set_option linter.unusedSimpArgs false
namespace Go.LN
open Go.Proofs Go.Proofs.Tryz
set_option maxRecDepth 20000
abbrev eS {α:Type} [Rp α] (l:List α):Imm->Value->List HA->Prop:=fun I' v hx=>∃ p c,v=vS p l c/\hx=[]/\S4 I' p l c
abbrev ePExpr (x:zC):Imm->Value->List HA->Prop:=fun I' v hx=>∃ ad p0 c0 p1 c1 p2 c2,v=.pointer (some ad)/\hx=[]/\At I' ad (cExpr x p0 c0 p1 c1 p2 c2)/\S4 I' p0 x.Index.Coefs c0/\S4 I' p1 x.Read.Subs c1/\S4 I' p2 x.Kids c2
abbrev eVExpr (x:zC):Imm->Value->List HA->Prop:=fun I' v hx=>∃ p0 c0 p1 c1 p2 c2,v=vA (cExpr x p0 c0 p1 c1 p2 c2)/\hx=[]/\S4 I' p0 x.Index.Coefs c0/\S4 I' p1 x.Read.Subs c1/\S4 I' p2 x.Kids c2
abbrev ePStmt (x:zG):Imm->Value->List HA->Prop:=fun I' v hx=>∃ ad p0 c0 p1 c1 p2 c2 p3 c3,v=.pointer (some ad)/\hx=[]/\At I' ad (cStmt x p0 c0 p1 c1 p2 c2 p3 c3)/\S4 I' p0 x.Write.Subs c0/\S4 I' p1 x.Value.Index.Coefs c1/\S4 I' p2 x.Value.Read.Subs c2/\S4 I' p3 x.Value.Kids c3
abbrev eVStmt (x:zG):Imm->Value->List HA->Prop:=fun I' v hx=>∃ p0 c0 p1 c1 p2 c2 p3 c3,v=vA (cStmt x p0 c0 p1 c1 p2 c2 p3 c3)/\hx=[]/\S4 I' p0 x.Write.Subs c0/\S4 I' p1 x.Value.Index.Coefs c1/\S4 I' p2 x.Value.Read.Subs c2/\S4 I' p3 x.Value.Kids c3
abbrev ePAff (x:zA):Imm->Value->List HA->Prop:=fun I' v hx=>∃ ad p0 c0,v=.pointer (some ad)/\hx=[]/\At I' ad (cAff x p0 c0)/\S4 I' p0 x.Coefs c0
abbrev eVAff (x:zA):Imm->Value->List HA->Prop:=fun I' v hx=>∃ p0 c0,v=vA (cAff x p0 c0)/\hx=[]/\S4 I' p0 x.Coefs c0
abbrev ePArr (x:zD):Imm->Value->List HA->Prop:=fun I' v hx=>∃ ad p0 c0,v=.pointer (some ad)/\hx=[]/\At I' ad (cArr x p0 c0)/\S4 I' p0 x.Dims c0
abbrev eQArr (k:Nat) (x:zD):Imm->Value->List HA->Prop:=fun I' v hx=>∃ ad p0 c0,v=.pointer (some (ad.add k))/\hx=[]/\At I' ad (cArr x p0 c0)/\S4 I' p0 x.Dims c0
abbrev eVArr (x:zD):Imm->Value->List HA->Prop:=fun I' v hx=>∃ p0 c0,v=vA (cArr x p0 c0)/\hx=[]/\S4 I' p0 x.Dims c0
abbrev ePPart (x:zL):Imm->Value->List HA->Prop:=fun I' v hx=>∃ ad p0 c0 p1 c1,v=.pointer (some ad)/\hx=[]/\At I' ad (cPart x p0 c0 p1 c1)/\S4 I' p0 x.Nest c0/\S4 I' p1 x.Body c1
abbrev eQPart (k:Nat) (x:zL):Imm->Value->List HA->Prop:=fun I' v hx=>∃ ad p0 c0 p1 c1,v=.pointer (some (ad.add k))/\hx=[]/\At I' ad (cPart x p0 c0 p1 c1)/\S4 I' p0 x.Nest c0/\S4 I' p1 x.Body c1
abbrev eVPart (x:zL):Imm->Value->List HA->Prop:=fun I' v hx=>∃ p0 c0 p1 c1,v=vA (cPart x p0 c0 p1 c1)/\hx=[]/\S4 I' p0 x.Nest c0/\S4 I' p1 x.Body c1
abbrev ePLoop (x:zF):Imm->Value->List HA->Prop:=fun I' v hx=>∃ ad p0 c0 p1 c1,v=.pointer (some ad)/\hx=[]/\At I' ad (cLoop x p0 c0 p1 c1)/\S4 I' p0 x.Lo c0/\S4 I' p1 x.Hi c1
abbrev eQLoop (k:Nat) (x:zF):Imm->Value->List HA->Prop:=fun I' v hx=>∃ ad p0 c0 p1 c1,v=.pointer (some (ad.add k))/\hx=[]/\At I' ad (cLoop x p0 c0 p1 c1)/\S4 I' p0 x.Lo c0/\S4 I' p1 x.Hi c1
abbrev eVLoop (x:zF):Imm->Value->List HA->Prop:=fun I' v hx=>∃ p0 c0 p1 c1,v=vA (cLoop x p0 c0 p1 c1)/\hx=[]/\S4 I' p0 x.Lo c0/\S4 I' p1 x.Hi c1
abbrev eVAccess (x:zJ):Imm->Value->List HA->Prop:=fun I' v hx=>∃ p0 c0,v=vA (cAccess x p0 c0)/\hx=[]/\S4 I' p0 x.Subs c0
abbrev qL0:List UInt8:=[112,114,111,103,114,97,109,10]
abbrev qL1:List UInt8:=[65,91,105,93,61,40,65,91,105,93,43,123,105,125,41]
abbrev qL2:List UInt8:=[112,97,114,116,10,102,111,114,32,48,32,51,10,102,111,114,32,48,32,52,10,66,91,105,44,106,93,61,40,66,91,105,44,106,93,43,123,50,42,105,43,106,125,41,10]
abbrev qL3:List UInt8:=[112,97,114,116,10,102,111,114,32,48,32,51,10,102,111,114,32,48,32,52,10,66,91,105,44,106,43,49,93,61,40,66,91,105,44,106,93,43,49,41,10]
abbrev qL4:List UInt8:=[112,97,114,116,10,102,111,114,32,48,32,51,10,102,111,114,32,49,32,52,10,66,91,105,43,49,44,106,45,49,93,61,40,66,91,105,44,106,93,42,50,41,10]
abbrev qL5:List UInt8:=[112,97,114,116,10,102,111,114,32,48,32,51,10,102,111,114,32,49,32,53,10,66,91,105,43,49,44,106,93,61,40,66,91,105,44,106,45,49,93,43,66,91,105,44,106,93,41,10,65,91,105,93,61,123,106,125,10]
abbrev qL6:List UInt8:=[112,97,114,116,10,102,111,114,32,48,32,52,10,65,91,105,93,61,40,123,105,125,42,50,41,10,112,97,114,116,10,102,111,114,32,48,32,52,10,65,91,105,43,49,93,61,40,65,91,105,93,43,67,91,48,93,41,10]
abbrev qL7:List UInt8:=[112,97,114,116,10,102,111,114,32,48,32,53,10,65,91,105,93,61,40,65,91,105,93,43,51,41,10,66,91,48,44,105,93,61,65,91,105,93,10]
abbrev qL8:List UInt8:=[112,97,114,116,10,102,111,114,32,48,32,51,10,102,111,114,32,48,32,51,10,67,91,105,93,61,40,67,91,105,93,43,66,91,105,44,106,93,41,10,112,97,114,116,10,102,111,114,32,48,32,51,10,102,111,114,32,48,32,51,10,65,91,106,93,61,40,65,91,106,93,45,66,91,106,44,105,93,41,10]
abbrev qL9:List UInt8:=[112,97,114,116,10,102,111,114,32,48,32,52,10,102,111,114,32,48,32,105,43,49,10,66,91,105,44,106,93,61,40,65,91,106,93,42,67,91,48,93,41,10]
instance {i j:Imm}{aj:List Raw2}{parts:List zL}{vN vB:Value}{nl:List zF}{bl:List zG}:Mo (LP i aj parts vN nl vB bl) i j (LP j aj parts vN nl vB bl):=⟨fun h x=>x.mono h⟩
abbrev RT:=Ret Tryz.prog
def zQ (r:Bool):KT:=fun kk I' ah v=>
  ∃ v0,ah=[]/\v=tupV [v0]/\v0=.bool r
def uS (s1:(List Int)) (s2:(List Int)) (t13:Int):Option (Out Unit (Bool)):=do
 if (decide (t13<(s1.length:Int))) then
  let x<-idx s1 t13;let x1<-idx s2 t13;if (x != x1) then pure (.ret false)
  else uS s1 s2 (W (t13+1))
 else pure (.done ())
 partial_fixpoint
theorem zB5 (s1:(List Int)) (s2:(List Int)):∀ (t13:Int) (o:Out Unit (Bool)),uS s1 s2 t13=some o->∀ {B}{I0 I:Imm}{Q p c p1 c1},I0.le I->(S4 I p s1 c)->(S4 I p1 s2 c1)->NG Q->NO Q->(∀ I',o=(.done ())->I0.le I'->T 26 B Q (.exit 0) I' [] [])->(∀ r I' ah m',o=(.ret r)->I0.le I'->RS Tryz.prog f37 B (zQ  r) I' ah m'->T 26 B Q .ret I' ah m')->J Tryz.prog 26 B (nav (bodyOf f37) [1,1,0,1,0]) Q I [] [(0,vS p s1 c),(1,vS p1 s2 c1),(12,vI (s1.length:Int)),(13,vI t13)]:=by
 refine uS.partial_correctness s1 s2 _ fun aJ ih t13 o N B I0 I Q p c p1 c1 H h h1 hg ho hx hr=>yZ hg ho<|yI [14] rfl<|zZ<|yE N ?_ ?_
 · intro aH N;refine zS<|zZ<|yH<|yI [5] rfl<|zZ<|dV (by kernel_rfl) (by kernel_rfl)<|zAp 2 [] [16,17] rfl<|bE N fun x hy N=>zCY rfl rfl h hy ?_;intro ad aK ap al;obtain rfl:=al;refine zB3 0 ap [vI x] (vI x) rfl<|zAp 6 [] [20,21] rfl<|bE N fun x1 ax N=>zCY rfl rfl h1 ax ?_;intro ad1 bo ay aA;obtain rfl:=aA;refine zB3 0 ay [vI x1] (vI x1) rfl<|zJk [] [24] rfl<|zK<|yE N ?_ ?_
   · intro bf N;exact vK [(4,vF)]<|xL<|zV<|zI<|zI<|hr _ _ _ _ (zE N).symm H ⟨_,_,(resT rfl),zN,⟨_,rfl,rfl,rfl⟩⟩
   intro bf N;exact zS<|zP<|zK<|zM<|yL [] [13] rfl<|yX<|mC<|ih (W (t13+1)) _ N H h h1 hg ho hx hr
 intro aH N;exact vC<|yQ<|hx _  (zE N).symm H
def qP (s1:(List Int)) (s2:(List Int)):Option (Bool):=do
 if ((s1.length:Int) != (s2.length:Int)) then pure false
 else
  match<-uS s1 s2 0 with
  | .ret r0=>pure r0
  | .done _ =>
   pure true
theorem zAc:∀ s1 s2 r,qP s1 s2=some r->∀ {I:Imm}{p c p1 c1},(S4 I p s1 c)->(S4 I p1 s2 c1)->RT 37 [vS p s1 c,vS p1 s2 c1] I [] (zQ  r):=by
 intro s1 s2 r N I p c p1 c1 h h1;unfold qP at N;refine yJ func37 fun B=>vK []<|zZ<|yI [10] rfl<|zK<|yE N ?_ ?_
 · intro hc N;refine vK [(4,vF)]<|xL<|zI ?_;obtain rfl:=zE N;exact vZ
 intro hc N;refine zS<|zZ<|yI [12,13] rfl<|wQ<|pM [(0,vS p s1 c),(1,vS p1 s2 c1),(12,vI (s1.length:Int)),(13,vI 0)] ?_;obtain ⟨o0,az,aG⟩:=zB N;refine zB5 s1 s2 0 o0 az iR h h1 nG nO ?_ ?_
 · intro I0  heq le;subst o0;refine zR<|zEt [(4,vY)]<|zK<|xF ?_;obtain rfl:=zE aG;exact vZ
 intro r0 I9 hs9 m9 aY le9 aZ;subst aY;refine zV<|zI ?_;obtain rfl:=zE aG;exact dB aZ
def sT (x:zD) (y:zD):Option (Bool):=do
 let t4<-(do
   if (x.Name.l==y.Name.l) then
    let y1<-qP x.Dims y.Dims;pure (id y1)
   else
    pure false
     : Option Bool)
 pure (id t4)
theorem zDX:∀ x y r,sT x y=some r->∀ {I:Imm}{p c p1 c1},(S4 I p x.Dims c)->(S4 I p1 y.Dims c1)->RT 36 [vA (cArr x p c),vA (cArr y p1 c1)] I [] (zQ  r):=by
 intro x y r N I p c p1 c1 h h1;unfold sT at N;refine yJ func36 fun B=>?_;have H:=iS I;refine yA<|vD (cArr x p c) ?_;intro b hb;refine vD (cArr y p1 c1) ?_;intro b1 hb1;refine wT [] []<|zK<|yC ?_;refine wU N [] (fun t4=>[(4,.bool t4)]) (fun o0 az=>?_) ?_
 · have H:=iS I;refine zM<|yD 6 [1,0] [10] rfl<|wD [10] az ?_ ?_
   · intro hc N;refine yD 10 [1,0] [12,14] rfl<|bE N fun y1 hy N=>vR (zAc x.Dims y.Dims _ hy h h1) ?_;intro aR le;have H:=H.trans le;exact yL [] [4] rfl<|wH zN<|yQ<|zT (ct N H)
   intro hc N;exact wT [] [(4,vF)]<|wH zN<|yQ<|zT (ct N H)
 intro t4 I0 ae aT;refine zK<|xF ?_;obtain rfl:=zE aT;exact vZ
def tH (aD:List HA) (r:Bool):KT:=fun kk I' ah v=>
  ∃ v0,aD=ah/\v=tupV [v0]/\v0=.bool r
def yU (s1:(List zF)) (s2:(List zF)) (eq:(zF->zF->Option Bool)) (t17:Int):Option (Out Unit (Bool)):=do
 if (decide (t17<(s1.length:Int))) then
  let x<-idx s1 t17;let x1<-idx s2 t17;let y<-eq x x1;if (!y) then pure (.ret false)
  else yU s1 s2 eq (W (t17+1))
 else pure (.done ())
 partial_fixpoint
theorem oT (s1:(List zF)) (s2:(List zF)) (eq:(zF->zF->Option Bool)):∀ (t17:Int) (o:Out Unit (Bool)),yU s1 s2 eq t17=some o->∀ {B}{I0 I:Imm}{Q p c p1 c1}{fv:Value}{aD:List HA},I0.le I->(S4 I p1 s2 c1)->(FV2 Tryz.prog I aD fv eq)->(S4 I p s1 c)->NG Q->NO Q->(∀ I',o=(.done ())->I0.le I'->T 32 B Q (.exit 0) I' aD [])->(∀ r I' ah m',o=(.ret r)->I0.le I'->RS Tryz.prog f75 B (tH aD r) I' ah m'->T 32 B Q .ret I' ah m')->J Tryz.prog 32 B (nav (bodyOf f75) [1,1,0,1,0]) Q I aD [(1,vS p1 s2 c1),(2,fv),(15,vS p s1 c),(16,vI (s1.length:Int)),(17,vI t17)]:=by
 refine yU.partial_correctness s1 s2 eq _ fun aJ ih t17 o N B I0 I Q p c p1 c1 fv aD H h1 h2 h hg ho hx hr=>yZ hg ho<|yI [18] rfl<|zZ<|yE N ?_ ?_
 · intro aH N;refine zS<|zZ<|yH<|yA<|yD 1 [] [19] rfl<|bE N fun x hy N=>wA rfl rfl h hy ?_;intro ad aK ap al;obtain ⟨p2,c2,p3,c3,rfl,h3,h4⟩:=vJ al;refine xP 0 ap (cLoop x p2 c2 p3 c3) (vA (cLoop x p2 c2 p3 c3)) rfl<|xU zTwo ?_;intro b hb;refine yD 5 [] [7] rfl<|eK 0 (cLoop x p2 c2 p3 c3) (hB b (cLoop x p2 c2 p3 c3)::aD) rfl rfl rfl rfl<|zU rfl<|yT<|yD 2 [] [22,23] rfl<|bE N fun x1 ax N=>wA rfl rfl h1 ax ?_;intro ad1 bo ay aA;obtain ⟨p4,c4,p5,c5,rfl,h5,h6⟩:=vJ aA;refine xP 0 ay (cLoop x1 p4 c4 p5 c5) (vA (cLoop x1 p4 c4 p5 c5)) rfl<|xU zTwo ?_;intro b1 hb1;refine eK 0 (cLoop x1 p4 c4 p5 c5) (hB b1 (cLoop x1 p4 c4 p5 c5)::hB b (cLoop x p2 c2 p3 c3)::aD) rfl rfl rfl rfl<|zU rfl<|yT<|vU 3 [1,0] [(26,fv),(27,vA (cLoop x p2 c2 p3 c3)),(28,vA (cLoop x1 p4 c4 p5 c5))]<|bE N fun y aE N=>tU (ah:=aD++[hB b1 (cLoop x1 p4 c4 p5 c5),hB b (cLoop x p2 c2 p3 c3)]) (dE [hB b1 (cLoop x1 p4 c4 p5 c5),hB b (cLoop x p2 c2 p3 c3)] aD)<|zKU rfl rfl rfl h2 aE ⟨_,rfl,(uM ⟨_,_,rfl,h3,h4⟩)⟩ ⟨_,rfl,(uM ⟨_,_,rfl,h5,h6⟩)⟩ rfl ?_;rintro I0 v04 le rfl;refine tU (ah:=(hB b1 (cLoop x1 p4 c4 p5 c5)::hB b (cLoop x p2 c2 p3 c3)::aD)) (dE aD [hB b1 (cLoop x1 p4 c4 p5 c5),hB b (cLoop x p2 c2 p3 c3)]) ?_;have ⟨h1,h2,h,H⟩:=m4 le h1 h2 h H;refine yL [] [30] rfl<|zK<|yE N ?_ ?_
   · intro bf N;exact vK [(6,vF)]<|xL<|zV<|zI<|zI<|hr _ _ _ _ (zE N).symm H ⟨_,_,(resT rfl),(oR [hB b1 (cLoop x1 p4 c4 p5 c5),hB b (cLoop x p2 c2 p3 c3)] aD [] rfl (by decide)),⟨_,rfl,rfl,rfl⟩⟩
   intro bf N;exact zS<|zP<|zK<|zM<|yL [] [17] rfl<|yX<|qY (oR [hB b1 (cLoop x1 p4 c4 p5 c5),hB b (cLoop x p2 c2 p3 c3)] aD [] rfl (by decide))<|mC<|ih (W (t17+1)) _ N H h1 h2 h hg ho hx hr
 intro aH N;exact vC<|yQ<|hx _  (zE N).symm H
def wM (s1:(List zF)) (s2:(List zF)) (eq:(zF->zF->Option Bool)):Option (Bool):=do
 if ((s1.length:Int) != (s2.length:Int)) then pure false
 else
  match<-yU s1 s2 eq 0 with
  | .ret r0=>pure r0
  | .done _ =>
   pure true
theorem mF:∀ s1 s2 eq r,wM s1 s2 eq=some r->∀ {I:Imm}{p c p1 c1}{fv:Value}{aD:List HA},(S4 I p s1 c)->(S4 I p1 s2 c1)->(FV2 Tryz.prog I aD fv eq)->RT 75 [vS p s1 c,vS p1 s2 c1,fv] I aD (tH aD r):=by
 intro s1 s2 eq r N I p c p1 c1 fv aD h h1 h2;unfold wM at N;refine yJ func75 fun B=>vK []<|zZ<|yI [14] rfl<|zK<|yE N ?_ ?_
 · intro hc N;refine vK [(6,vF)]<|xL<|zI ?_;exact xO N (resT rfl) (fun _ h=>h) ⟨_,rfl,rfl,rfl⟩
 intro hc N;refine zS<|zZ<|yI [15,16,17] rfl<|wQ<|pM [(1,vS p1 s2 c1),(2,fv),(15,vS p s1 c),(16,vI (s1.length:Int)),(17,vI 0)] ?_;obtain ⟨o0,az,aG⟩:=zB N;refine oT s1 s2 eq 0 o0 az iR h1 h2 h nG nO ?_ ?_
 · intro aR  heq ae;subst o0;refine zR<|zEt [(6,vY)]<|zK<|xF ?_;exact xO aG (resT rfl) (fun _ h=>h) ⟨_,rfl,rfl,rfl⟩
 intro r0 I9 hs9 m9 aY le9 aZ;subst aY;refine zV<|zI ?_;obtain rfl:=zE aG;exact dB aZ
def uC (aD:List HA) (r:Bool):KT:=fun kk I' ah v=>
  ∃ v0,aD=ah/\v=tupV [v0]/\v0=.bool r
def yN (s1:(List zA)) (s2:(List zA)) (eq:(zA->zA->Option Bool)) (t17:Int):Option (Out Unit (Bool)):=do
 if (decide (t17<(s1.length:Int))) then
  let x<-idx s1 t17;let x1<-idx s2 t17;let y<-eq x x1;if (!y) then pure (.ret false)
  else yN s1 s2 eq (W (t17+1))
 else pure (.done ())
 partial_fixpoint
theorem qZ (s1:(List zA)) (s2:(List zA)) (eq:(zA->zA->Option Bool)):∀ (t17:Int) (o:Out Unit (Bool)),yN s1 s2 eq t17=some o->∀ {B}{I0 I:Imm}{Q p c p1 c1}{fv:Value}{aD:List HA},I0.le I->(S4 I p1 s2 c1)->(FV2 Tryz.prog I aD fv eq)->(S4 I p s1 c)->NG Q->NO Q->(∀ I',o=(.done ())->I0.le I'->T 32 B Q (.exit 0) I' aD [])->(∀ r I' ah m',o=(.ret r)->I0.le I'->RS Tryz.prog f77 B (uC aD r) I' ah m'->T 32 B Q .ret I' ah m')->J Tryz.prog 32 B (nav (bodyOf f77) [1,1,0,1,0]) Q I aD [(1,vS p1 s2 c1),(2,fv),(15,vS p s1 c),(16,vI (s1.length:Int)),(17,vI t17)]:=by
 refine yN.partial_correctness s1 s2 eq _ fun aJ ih t17 o N B I0 I Q p c p1 c1 fv aD H h1 h2 h hg ho hx hr=>yZ hg ho<|yI [18] rfl<|zZ<|yE N ?_ ?_
 · intro aH N;refine zS<|zZ<|yH<|yA<|yD 1 [] [19] rfl<|bE N fun x hy N=>wA rfl rfl h hy ?_;intro ad aK ap al;obtain ⟨p2,c2,rfl,h3⟩:=yG al;refine xP 0 ap (cAff x p2 c2) (vA (cAff x p2 c2)) rfl<|xU [z0,vI 0] ?_;intro b hb;refine yD 5 [] [7] rfl<|eK 0 (cAff x p2 c2) (hB b (cAff x p2 c2)::aD) rfl rfl rfl rfl<|zU rfl<|yT<|yD 2 [] [22,23] rfl<|bE N fun x1 ax N=>wA rfl rfl h1 ax ?_;intro ad1 bo ay aA;obtain ⟨p3,c3,rfl,h4⟩:=yG aA;refine xP 0 ay (cAff x1 p3 c3) (vA (cAff x1 p3 c3)) rfl<|xU [z0,vI 0] ?_;intro b1 hb1;refine eK 0 (cAff x1 p3 c3) (hB b1 (cAff x1 p3 c3)::hB b (cAff x p2 c2)::aD) rfl rfl rfl rfl<|zU rfl<|yT<|vU 3 [1,0] [(26,fv),(27,vA (cAff x p2 c2)),(28,vA (cAff x1 p3 c3))]<|bE N fun y aE N=>tU (ah:=aD++[hB b1 (cAff x1 p3 c3),hB b (cAff x p2 c2)]) (dE [hB b1 (cAff x1 p3 c3),hB b (cAff x p2 c2)] aD)<|zKU rfl rfl rfl h2 aE ⟨_,rfl,(yK ⟨_,rfl,h3⟩)⟩ ⟨_,rfl,(yK ⟨_,rfl,h4⟩)⟩ rfl ?_;rintro I0 v02 le rfl;refine tU (ah:=(hB b1 (cAff x1 p3 c3)::hB b (cAff x p2 c2)::aD)) (dE aD [hB b1 (cAff x1 p3 c3),hB b (cAff x p2 c2)]) ?_;have ⟨h1,h2,h,H⟩:=m4 le h1 h2 h H;refine yL [] [30] rfl<|zK<|yE N ?_ ?_
   · intro bf N;exact vK [(6,vF)]<|xL<|zV<|zI<|zI<|hr _ _ _ _ (zE N).symm H ⟨_,_,(resT rfl),(oR [hB b1 (cAff x1 p3 c3),hB b (cAff x p2 c2)] aD [] rfl (by decide)),⟨_,rfl,rfl,rfl⟩⟩
   intro bf N;exact zS<|zP<|zK<|zM<|yL [] [17] rfl<|yX<|qY (oR [hB b1 (cAff x1 p3 c3),hB b (cAff x p2 c2)] aD [] rfl (by decide))<|mC<|ih (W (t17+1)) _ N H h1 h2 h hg ho hx hr
 intro aH N;exact vC<|yQ<|hx _  (zE N).symm H
def yO (s1:(List zA)) (s2:(List zA)) (eq:(zA->zA->Option Bool)):Option (Bool):=do
 if ((s1.length:Int) != (s2.length:Int)) then pure false
 else
  match<-yN s1 s2 eq 0 with
  | .ret r0=>pure r0
  | .done _ =>
   pure true
theorem wR:∀ s1 s2 eq r,yO s1 s2 eq=some r->∀ {I:Imm}{p c p1 c1}{fv:Value}{aD:List HA},(S4 I p s1 c)->(S4 I p1 s2 c1)->(FV2 Tryz.prog I aD fv eq)->RT 77 [vS p s1 c,vS p1 s2 c1,fv] I aD (uC aD r):=by
 intro s1 s2 eq r N I p c p1 c1 fv aD h h1 h2;unfold yO at N;refine yJ func77 fun B=>vK []<|zZ<|yI [14] rfl<|zK<|yE N ?_ ?_
 · intro hc N;refine vK [(6,vF)]<|xL<|zI ?_;exact xO N (resT rfl) (fun _ h=>h) ⟨_,rfl,rfl,rfl⟩
 intro hc N;refine zS<|zZ<|yI [15,16,17] rfl<|wQ<|pM [(1,vS p1 s2 c1),(2,fv),(15,vS p s1 c),(16,vI (s1.length:Int)),(17,vI 0)] ?_;obtain ⟨o0,az,aG⟩:=zB N;refine qZ s1 s2 eq 0 o0 az iR h1 h2 h nG nO ?_ ?_
 · intro aR  heq ae;subst o0;refine zR<|zEt [(6,vY)]<|zK<|xF ?_;exact xO aG (resT rfl) (fun _ h=>h) ⟨_,rfl,rfl,rfl⟩
 intro r0 I9 hs9 m9 aY le9 aZ;subst aY;refine zV<|zI ?_;obtain rfl:=zE aG;exact dB aZ
def wP (a0:zA) (b:zA):Option (Bool):=do
 let t4<-(do
   let y<-qP a0.Coefs b.Coefs;if y then pure (a0.Const==b.Const)
   else
    pure false
     : Option Bool)
 pure (id t4)
theorem eO:∀ a0 b r,wP a0 b=some r->∀ {I:Imm}{p c p1 c1},(S4 I p a0.Coefs c)->(S4 I p1 b.Coefs c1)->RT 78 [vA (cAff a0 p c),vA (cAff b p1 c1)] I [] (zQ  r):=by
 intro a0 b r N I p c p1 c1 h h1;unfold wP at N;refine yJ func78 fun B=>?_;have H:=iS I;refine yA<|vD (cAff a0 p c) ?_;intro b1 hb;refine vD (cAff b p1 c1) ?_;intro b2 hb1;refine wT [] []<|zK<|yC ?_;refine wU N [] (fun t4=>[(4,.bool t4)]) (fun o0 az=>?_) ?_
 · have H:=iS I;refine zM<|yD 4 [1,0] [6,8] rfl ?_;obtain ⟨y,hy,N⟩:=zB az;refine vR (zAc a0.Coefs b.Coefs _ hy h h1) ?_;intro aR le;have H:=H.trans le;refine yD 6 [] [10] rfl<|wD [10] N ?_ ?_
   · intro hc N;exact yL [1,0] [4] rfl<|wH zN<|yQ<|zT (ct N H)
   intro hc N;exact wT [] [(4,vF)]<|wH zN<|yQ<|zT (ct N H)
 intro t4 I0 ae aT;refine zK<|xF ?_;obtain rfl:=zE aT;exact vZ
def pH (x:zF) (y:zF):Option (Bool):=do
 let t4<-(do
   let y1<-yO x.Lo y.Lo wP;if y1 then
    let y2<-yO x.Hi y.Hi wP;pure (id y2)
   else
    pure false
     : Option Bool)
 pure (id t4)
theorem zEv:∀ x y r,pH x y=some r->∀ {I:Imm}{p c p1 c1 p2 c2 p3 c3},(S4 I p x.Lo c)->(S4 I p1 x.Hi c1)->(S4 I p2 y.Lo c2)->(S4 I p3 y.Hi c3)->RT 76 [vA (cLoop x p c p1 c1),vA (cLoop y p2 c2 p3 c3)] I [] (zQ  r):=by
 intro x y r N I p c p1 c1 p2 c2 p3 c3 h h1 h2 h3;unfold pH at N;refine yJ func76 fun B=>?_;have H:=iS I;refine yA<|vD (cLoop x p c p1 c1) ?_;intro b hb;refine vD (cLoop y p2 c2 p3 c3) ?_;intro b1 hb1;refine wT [] []<|zK<|yC ?_;refine wU N [] (fun t4=>[(4,.bool t4)]) (fun o0 az=>?_) ?_
 · have H:=iS I;refine zM<|yD 4 [1,0] [6,8] rfl ?_;have hf0:FV2 Tryz.prog I [] (.func (.func 78) ⟨[]⟩ ⟨[]⟩) wP:=by
     refine FV2.intro ?_;intro I1 ae x0 x1 r u0 u1 hF k0 k1;obtain ⟨_,rfl,k0⟩:=k0;obtain ⟨p4,c4,rfl,h4⟩:=yG k0;obtain ⟨_,rfl,k1⟩:=k1;obtain ⟨p5,c5,rfl,h5⟩:=yG k1;exact (eO x0 x1 r hF h4 h5).mono (by rintro k i hs u ⟨v0,rfl,rfl,h⟩; exact ⟨rfl,h⟩)
   obtain ⟨y1,hy,N⟩:=zB az;refine xJ (wR x.Lo y.Lo wP _ hy h h2 hf0) ?_;rintro aR av v2 k2 le - ⟨v02,rfl,rfl,rfl⟩ -;have ⟨h3,h,h1,H⟩:=m4 le h3 h h1 H;refine yD 6 [] [10] rfl<|wD [10] N ?_ ?_
   · intro hc N;refine yD 10 [1,0] [12,14] rfl ?_;have hf01:FV2 Tryz.prog aR [] (.func (.func 78) ⟨[]⟩ ⟨[]⟩) wP:=by
       refine FV2.intro ?_;intro I1 ae x0 x1 r u0 u1 hF k0 k1;obtain ⟨_,rfl,k0⟩:=k0;obtain ⟨p6,c6,rfl,h7⟩:=yG k0;obtain ⟨_,rfl,k1⟩:=k1;obtain ⟨p7,c7,rfl,h8⟩:=yG k1;exact (eO x0 x1 r hF h7 h8).mono (by rintro k i hs u ⟨v0,rfl,rfl,h⟩; exact ⟨rfl,h⟩)
     obtain ⟨y2,ax,N⟩:=zB N;refine xJ (wR x.Hi y.Hi wP _ ax h1 h3 hf01) ?_;rintro aV av v2 k2 ae - ⟨v05,rfl,rfl,rfl⟩ -;have H:=H.trans ae;exact yL [] [4] rfl<|wH zN<|yQ<|zT (ct N H)
   intro hc N;exact wT [] [(4,vF)]<|wH zN<|yQ<|zT (ct N H)
 intro t4 I0 aB aT;refine zK<|xF ?_;obtain rfl:=zE aT;exact vZ
def dC (a0:(List zF)) (b:(List zF)):Option (Bool):=do
 let y<-wM a0 b pH;pure (id y)
theorem zGc:∀ a0 b r,dC a0 b=some r->∀ {I:Imm}{p c p1 c1},(S4 I p a0 c)->(S4 I p1 b c1)->RT 39 [vS p a0 c,vS p1 b c1] I [] (zQ  r):=by
 intro a0 b r N I p c p1 c1 h h1;unfold dC at N;refine yJ func39 fun B=>vK []<|yT<|yD 2 [] [5,6] rfl ?_;have hf0:FV2 Tryz.prog I [] (.func (.func 76) ⟨[]⟩ ⟨[]⟩) pH:=by
   refine FV2.intro ?_;intro I1 ae x0 x1 r u0 u1 hF k0 k1;obtain ⟨_,rfl,k0⟩:=k0;obtain ⟨p2,c2,p3,c3,rfl,h2,h3⟩:=vJ k0;obtain ⟨_,rfl,k1⟩:=k1;obtain ⟨p4,c4,p5,c5,rfl,h4,h5⟩:=vJ k1;exact (zEv x0 x1 r hF h2 h3 h4 h5).mono (by rintro k i hs u ⟨v0,rfl,rfl,h⟩; exact ⟨rfl,h⟩)
 obtain ⟨y,hy,N⟩:=zB N;refine xJ (mF a0 b pH _ hy h h1 hf0) ?_;rintro I0 av v2 k2 le - ⟨v04,rfl,rfl,rfl⟩ -;refine yL [] [4] rfl<|zK<|xF ?_;obtain rfl:=zE N;exact vZ
def tI (aD:List HA) (r:Bool):KT:=fun kk I' ah v=>
  ∃ v0,aD=ah/\v=tupV [v0]/\v0=.bool r
def yV (s1:(List zG)) (s2:(List zG)) (eq:(zG->zG->Option Bool)) (t17:Int):Option (Out Unit (Bool)):=do
 if (decide (t17<(s1.length:Int))) then
  let x<-idx s1 t17;let x1<-idx s2 t17;let y<-eq x x1;if (!y) then pure (.ret false)
  else yV s1 s2 eq (W (t17+1))
 else pure (.done ())
 partial_fixpoint
theorem oU (s1:(List zG)) (s2:(List zG)) (eq:(zG->zG->Option Bool)):∀ (t17:Int) (o:Out Unit (Bool)),yV s1 s2 eq t17=some o->∀ {B}{I0 I:Imm}{Q p c p1 c1}{fv:Value}{aD:List HA},I0.le I->(S4 I p1 s2 c1)->(FV2 Tryz.prog I aD fv eq)->(S4 I p s1 c)->NG Q->NO Q->(∀ I',o=(.done ())->I0.le I'->T 32 B Q (.exit 0) I' aD [])->(∀ r I' ah m',o=(.ret r)->I0.le I'->RS Tryz.prog f40 B (tI aD r) I' ah m'->T 32 B Q .ret I' ah m')->J Tryz.prog 32 B (nav (bodyOf f40) [1,1,0,1,0]) Q I aD [(1,vS p1 s2 c1),(2,fv),(15,vS p s1 c),(16,vI (s1.length:Int)),(17,vI t17)]:=by
 refine yV.partial_correctness s1 s2 eq _ fun aJ ih t17 o N B I0 I Q p c p1 c1 fv aD H h1 h2 h hg ho hx hr=>yZ hg ho<|yI [18] rfl<|zZ<|yE N ?_ ?_
 · intro aH N;refine zS<|zZ<|yH<|yA<|yD 1 [] [19] rfl<|bE N fun x hy N=>wA rfl rfl h hy ?_;intro ad aK ap al;obtain ⟨p2,c2,p3,c3,p4,c4,p5,c5,rfl,h3,h4,h5,h6⟩:=wI al;refine xP 0 ap (cStmt x p2 c2 p3 c3 p4 c4 p5 c5) (vA (cStmt x p2 c2 p3 c3 p4 c4 p5 c5)) rfl<|xU [vT ([]),z0,vI 0,vI 0,z0,vI 0,vT ([]),z0,z0] ?_;intro b hb;refine yD 5 [] [7] rfl<|eK 0 (cStmt x p2 c2 p3 c3 p4 c4 p5 c5) (hB b (cStmt x p2 c2 p3 c3 p4 c4 p5 c5)::aD) rfl rfl rfl rfl<|zU rfl<|yT<|yD 2 [] [22,23] rfl<|bE N fun x1 ax N=>wA rfl rfl h1 ax ?_;intro ad1 bo ay aA;obtain ⟨p6,c6,p7,c7,p8,c8,p9,c9,rfl,h7,h8,h9,h10⟩:=wI aA;refine xP 0 ay (cStmt x1 p6 c6 p7 c7 p8 c8 p9 c9) (vA (cStmt x1 p6 c6 p7 c7 p8 c8 p9 c9)) rfl<|xU [vT ([]),z0,vI 0,vI 0,z0,vI 0,vT ([]),z0,z0] ?_;intro b1 hb1;refine eK 0 (cStmt x1 p6 c6 p7 c7 p8 c8 p9 c9) (hB b1 (cStmt x1 p6 c6 p7 c7 p8 c8 p9 c9)::hB b (cStmt x p2 c2 p3 c3 p4 c4 p5 c5)::aD) rfl rfl rfl rfl<|zU rfl<|yT<|vU 3 [1,0] [(26,fv),(27,vA (cStmt x p2 c2 p3 c3 p4 c4 p5 c5)),(28,vA (cStmt x1 p6 c6 p7 c7 p8 c8 p9 c9))]<|bE N fun y aE N=>tU (ah:=aD++[hB b1 (cStmt x1 p6 c6 p7 c7 p8 c8 p9 c9),hB b (cStmt x p2 c2 p3 c3 p4 c4 p5 c5)]) (dE [hB b1 (cStmt x1 p6 c6 p7 c7 p8 c8 p9 c9),hB b (cStmt x p2 c2 p3 c3 p4 c4 p5 c5)] aD)<|zKU rfl rfl rfl h2 aE ⟨_,rfl,(xV ⟨_,_,_,_,rfl,h3,h4,h5,h6⟩)⟩ ⟨_,rfl,(xV ⟨_,_,_,_,rfl,h7,h8,h9,h10⟩)⟩ rfl ?_;rintro I0 v08 le rfl;refine tU (ah:=(hB b1 (cStmt x1 p6 c6 p7 c7 p8 c8 p9 c9)::hB b (cStmt x p2 c2 p3 c3 p4 c4 p5 c5)::aD)) (dE aD [hB b1 (cStmt x1 p6 c6 p7 c7 p8 c8 p9 c9),hB b (cStmt x p2 c2 p3 c3 p4 c4 p5 c5)]) ?_;have ⟨h1,h2,h,H⟩:=m4 le h1 h2 h H;refine yL [] [30] rfl<|zK<|yE N ?_ ?_
   · intro bf N;exact vK [(6,vF)]<|xL<|zV<|zI<|zI<|hr _ _ _ _ (zE N).symm H ⟨_,_,(resT rfl),(oR [hB b1 (cStmt x1 p6 c6 p7 c7 p8 c8 p9 c9),hB b (cStmt x p2 c2 p3 c3 p4 c4 p5 c5)] aD [] rfl (by decide)),⟨_,rfl,rfl,rfl⟩⟩
   intro bf N;exact zS<|zP<|zK<|zM<|yL [] [17] rfl<|yX<|qY (oR [hB b1 (cStmt x1 p6 c6 p7 c7 p8 c8 p9 c9),hB b (cStmt x p2 c2 p3 c3 p4 c4 p5 c5)] aD [] rfl (by decide))<|mC<|ih (W (t17+1)) _ N H h1 h2 h hg ho hx hr
 intro aH N;exact vC<|yQ<|hx _  (zE N).symm H
def xW (s1:(List zG)) (s2:(List zG)) (eq:(zG->zG->Option Bool)):Option (Bool):=do
 if ((s1.length:Int) != (s2.length:Int)) then pure false
 else
  match<-yV s1 s2 eq 0 with
  | .ret r0=>pure r0
  | .done _ =>
   pure true
theorem mG:∀ s1 s2 eq r,xW s1 s2 eq=some r->∀ {I:Imm}{p c p1 c1}{fv:Value}{aD:List HA},(S4 I p s1 c)->(S4 I p1 s2 c1)->(FV2 Tryz.prog I aD fv eq)->RT 40 [vS p s1 c,vS p1 s2 c1,fv] I aD (tI aD r):=by
 intro s1 s2 eq r N I p c p1 c1 fv aD h h1 h2;unfold xW at N;refine yJ func40 fun B=>vK []<|zZ<|yI [14] rfl<|zK<|yE N ?_ ?_
 · intro hc N;refine vK [(6,vF)]<|xL<|zI ?_;exact xO N (resT rfl) (fun _ h=>h) ⟨_,rfl,rfl,rfl⟩
 intro hc N;refine zS<|zZ<|yI [15,16,17] rfl<|wQ<|pM [(1,vS p1 s2 c1),(2,fv),(15,vS p s1 c),(16,vI (s1.length:Int)),(17,vI 0)] ?_;obtain ⟨o0,az,aG⟩:=zB N;refine oU s1 s2 eq 0 o0 az iR h1 h2 h nG nO ?_ ?_
 · intro aR  heq ae;subst o0;refine zR<|zEt [(6,vY)]<|zK<|xF ?_;exact xO aG (resT rfl) (fun _ h=>h) ⟨_,rfl,rfl,rfl⟩
 intro r0 I9 hs9 m9 aY le9 aZ;subst aY;refine zV<|zI ?_;obtain rfl:=zE aG;exact dB aZ
def kQ (a0:zJ) (b:zJ):Option (Bool):=do
 let t4<-(do
   if (a0.Array.l==b.Array.l) then
    let y<-yO a0.Subs b.Subs wP;pure (id y)
   else
    pure false
     : Option Bool)
 pure (id t4)
theorem zB6:∀ a0 b r,kQ a0 b=some r->∀ {I:Imm}{p c p1 c1},(S4 I p a0.Subs c)->(S4 I p1 b.Subs c1)->RT 79 [vA (cAccess a0 p c),vA (cAccess b p1 c1)] I [] (zQ  r):=by
 intro a0 b r N I p c p1 c1 h h1;unfold kQ at N;refine yJ func79 fun B=>?_;have H:=iS I;refine yA<|vD (cAccess a0 p c) ?_;intro b1 hb;refine vD (cAccess b p1 c1) ?_;intro b2 hb1;refine wT [] []<|zK<|yC ?_;refine wU N [] (fun t4=>[(4,.bool t4)]) (fun o0 az=>?_) ?_
 · have H:=iS I;refine zM<|yD 6 [1,0] [10] rfl<|wD [10] az ?_ ?_
   · intro hc N;refine yD 10 [1,0] [12,14] rfl ?_;have hf0:FV2 Tryz.prog I [] (.func (.func 78) ⟨[]⟩ ⟨[]⟩) wP:=by
       refine FV2.intro ?_;intro I1 ae x0 x1 r u0 u1 hF k0 k1;obtain ⟨_,rfl,k0⟩:=k0;obtain ⟨p2,c2,rfl,h2⟩:=yG k0;obtain ⟨_,rfl,k1⟩:=k1;obtain ⟨p3,c3,rfl,h3⟩:=yG k1;exact (eO x0 x1 r hF h2 h3).mono (by rintro k i hs u ⟨v0,rfl,rfl,h⟩; exact ⟨rfl,h⟩)
     obtain ⟨y,hy,N⟩:=zB N;refine xJ (wR a0.Subs b.Subs wP _ hy h h1 hf0) ?_;rintro aR av v2 k2 le - ⟨v02,rfl,rfl,rfl⟩ -;have H:=H.trans le;exact yL [] [4] rfl<|wH zN<|yQ<|zT (ct N H)
   intro hc N;exact wT [] [(4,vF)]<|wH zN<|yQ<|zT (ct N H)
 intro t4 I0 ae aT;refine zK<|xF ?_;obtain rfl:=zE aT;exact vZ
mutual
def xX (s1:(List zC)) (s2:(List zC)):Option (Bool):=do
 if ((s1.length:Int) != (s2.length:Int)) then pure false
 else
  match<-xH (same s1) (same s2) (same 0) with
  | .ret r0=>pure r0
  | .done _ =>
   pure true
 partial_fixpoint
def xH (s1:(List zC)) (s2:(List zC)) (t17:Int):Option (Out Unit (Bool)):=do
 if (decide (t17<(s1.length:Int))) then
  let x<-idx s1 t17;let x1<-idx s2 t17;let y<-gJ (same x) (same x1);if (!y) then pure (.ret false)
  else xH (same s1) (same s2) (W (t17+1))
 else pure (.done ())
 partial_fixpoint
def gJ (a0:zC) (b:zC):Option (Bool):=do
 let t4<-(do
   if (a0.Kind==b.Kind) then
    if (a0.Num==b.Num) then
     let y<-wP a0.Index b.Index;if y then
      let y1<-kQ a0.Read b.Read;if y1 then
       let y2<-xX a0.Kids b.Kids;pure (id y2)
      else pure false
     else pure false
    else pure false
   else
    pure false
     : Option Bool)
 pure (id t4)
 partial_fixpoint
end
theorem mB:(∀ (s1:(List zC)) (s2:(List zC)) r,xX s1 s2=some r->∀ {I:Imm}{p c p1 c1},(S4 I p s1 c)->(S4 I p1 s2 c1)->RT 114 [vS p s1 c,vS p1 s2 c1,.func (.func 80) ⟨[]⟩ ⟨[]⟩] I [] (zQ  r))/\(∀ (s1:(List zC)) (s2:(List zC)) (t17:Int) o,xH s1 s2 t17=some o->∀ {B}{I0 I:Imm}{Q p c p1 c1},I0.le I->(S4 I p1 s2 c1)->(S4 I p s1 c)->NG Q->NO Q->(∀ I',o=(.done ())->I0.le I'->T 32 B Q (.exit 0) I' [] [])->(∀ r I' ah m',o=(.ret r)->I0.le I'->RS Tryz.prog f114 B (zQ  r) I' ah m'->T 32 B Q .ret I' ah m')->J Tryz.prog 32 B (nav (bodyOf f114) [1,1,0,1,0]) Q I [] [(1,vS p1 s2 c1),(2,.func (.func 80) ⟨[]⟩ ⟨[]⟩),(15,vS p s1 c),(16,vI (s1.length:Int)),(17,vI t17)])/\(∀ (a0:zC) (b:zC) r,gJ a0 b=some r->∀ {I:Imm}{p c p1 c1 p2 c2 p3 c3 p4 c4 p5 c5},(S4 I p a0.Index.Coefs c)->(S4 I p1 a0.Read.Subs c1)->(S4 I p2 a0.Kids c2)->(S4 I p3 b.Index.Coefs c3)->(S4 I p4 b.Read.Subs c4)->(S4 I p5 b.Kids c5)->RT 80 [vA (cExpr a0 p c p1 c1 p2 c2),vA (cExpr b p3 c3 p4 c4 p5 c5)] I [] (zQ  r)):=by
  refine xX.mutual_partial_correctness _ _ _ ?_ ?_ ?_
  · intro F_slices_EqualFunc_impl_Expr_impl_Expr_impl_Expr_impl_Expr_l1 ih_slices_EqualFunc_impl_Expr_impl_Expr_impl_Expr_impl_Expr_l1 s1 s2 r N I p c p1 c1 h h1;refine yJ func114 fun B=>vK []<|zZ<|yI [14] rfl<|zK<|yE N ?_ ?_
    · intro hc N;refine vK [(6,vF)]<|xL<|zI ?_;obtain rfl:=zE N;exact vZ
    intro hc N;refine zS<|zZ<|yI [15,16,17] rfl<|wQ<|pM [(1,vS p1 s2 c1),(2,.func (.func 80) ⟨[]⟩ ⟨[]⟩),(15,vS p s1 c),(16,vI (s1.length:Int)),(17,vI 0)] ?_;obtain ⟨o0,az,aG⟩:=zB N;refine ih_slices_EqualFunc_impl_Expr_impl_Expr_impl_Expr_impl_Expr_l1 s1 s2 0 o0 az iR h1 h nG nO ?_ ?_
    · intro aR  heq ae;subst o0;refine zR<|zEt [(6,vY)]<|zK<|xF ?_;obtain rfl:=zE aG;exact vZ
    intro r0 I9 hs9 m9 aY le9 aZ;subst aY;refine zV<|zI ?_;obtain rfl:=zE aG;exact dB aZ
  · intro F_slices_EqualFunc_impl_Expr_impl_Expr_impl_Expr_impl_Expr_l1 F_impl_exprSame ih_slices_EqualFunc_impl_Expr_impl_Expr_impl_Expr_impl_Expr_l1 ih_impl_exprSame s1 s2 t17 o N B I0 I Q p c p1 c1 H h1 h hg ho hx hr;refine yZ hg ho<|yI [18] rfl<|zZ<|yE N ?_ ?_
    · intro aH N;refine zS<|zZ<|yH<|yA<|yD 1 [] [19] rfl<|bE N fun x hy N=>wA rfl rfl h hy ?_;intro ad aK ap al;obtain ⟨p2,c2,p3,c3,p4,c4,rfl,h2,h3,h4⟩:=xB al;refine xP 0 ap (cExpr x p2 c2 p3 c3 p4 c4) (vA (cExpr x p2 c2 p3 c3 p4 c4)) rfl<|xU zExpr ?_;intro b hb;refine yD 5 [] [7] rfl<|yS 0 (cExpr x p2 c2 p3 c3 p4 c4) rfl<|zU rfl<|yT<|yD 2 [] [22,23] rfl<|bE N fun x1 ax N=>wA rfl rfl h1 ax ?_;intro ad1 bo ay aA;obtain ⟨p5,c5,p6,c6,p7,c7,rfl,h5,h6,h7⟩:=xB aA;refine xP 0 ay (cExpr x1 p5 c5 p6 c6 p7 c7) (vA (cExpr x1 p5 c5 p6 c6 p7 c7)) rfl<|xU zExpr ?_;intro b1 hb1;refine yS 0 (cExpr x1 p5 c5 p6 c6 p7 c7) rfl<|zU rfl<|yT<|vU 3 [1,0] [(26,.func (.func 80) ⟨[]⟩ ⟨[]⟩),(27,vA (cExpr x p2 c2 p3 c3 p4 c4)),(28,vA (cExpr x1 p5 c5 p6 c6 p7 c7))]<|bE N fun y aE N=>xJ (ih_impl_exprSame x x1 _ aE h2 h3 h4 h5 h6 h7) ?_;rintro I0 av v2 k2 le - ⟨v06,rfl,rfl,rfl⟩ -;have ⟨h1,h,H⟩:=m3 le h1 h H;refine yL [] [30] rfl<|zK<|yE N ?_ ?_
      · intro bf N;exact vK [(6,vF)]<|xL<|zV<|zI<|zI<|hr _ _ _ _ (zE N).symm H ⟨_,_,(resT rfl),zN,⟨_,rfl,rfl,rfl⟩⟩
      intro bf N;exact zS<|zP<|zK<|zM<|yL [] [17] rfl<|yX<|qY zN<|pM [(1,vS p1 s2 c1),(2,.func (.func 80) ⟨[]⟩ ⟨[]⟩),(15,vS p s1 c),(16,vI (s1.length:Int)),(17,vI (W (t17+1)))]<|ih_slices_EqualFunc_impl_Expr_impl_Expr_impl_Expr_impl_Expr_l1 s1 s2 (W (t17+1)) _ N H h1 h hg ho hx hr
    intro aH N;exact vC<|yQ<|hx _  (zE N).symm H
  intro F_slices_EqualFunc_impl_Expr_impl_Expr_impl_Expr_impl_Expr ih_slices_EqualFunc_impl_Expr_impl_Expr_impl_Expr_impl_Expr a0 b r N I p c p1 c1 p2 c2 p3 c3 p4 c4 p5 c5 h h1 h2 h3 h4 h5;refine yJ func80 fun B=>?_;have H:=iS I;refine yA<|vD (cExpr a0 p c p1 c1 p2 c2) ?_;intro b1 hb;refine vD (cExpr b p3 c3 p4 c4 p5 c5) ?_;intro b2 hb1;refine wT [] []<|zK<|yC ?_;refine wU N [] (fun t4=>[(4,.bool t4)]) (fun o0 az=>?_) ?_
  · have H:=iS I;refine zM<|yD 6 [1,0] [10] rfl<|wD [10] az ?_ ?_
    · intro hc N;refine yD 13 [1,0] [17] rfl<|wD [17] N ?_ ?_
      · intro aH N;refine vU 17 [1,0] [(19,vA (cAff a0.Index p c)),(21,vA (cAff b.Index p3 c3))]<|bE N fun y hy N=>vR (eO a0.Index b.Index _ hy h h3) ?_;intro aR le;have ⟨h4,h5,h1,h2,H⟩:=m5 le h4 h5 h1 h2 H;refine yD 20 [] [24] rfl<|wD [24] N ?_ ?_
        · intro bf N;refine vU 24 [1,0] [(26,vA (cAccess a0.Read p1 c1)),(28,vA (cAccess b.Read p4 c4))]<|bE N fun y1 ax N=>vR (zB6 a0.Read b.Read _ ax h1 h4) ?_;intro aV ae;have ⟨h5,h2,H⟩:=m3 ae h5 h2 H;refine yD 27 [] [31] rfl<|wD [31] N ?_ ?_
          · intro bG N;refine yD 31 [1,0] [33,35] rfl<|bE N fun y2 aE N=>xJ (ih_slices_EqualFunc_impl_Expr_impl_Expr_impl_Expr_impl_Expr a0.Kids b.Kids _ aE h2 h5) ?_;rintro bv av v2 k2 aB - ⟨v02,rfl,rfl,rfl⟩ -;have H:=H.trans aB;exact yL [] [4] rfl<|wH zN<|yQ<|zT (ct N H)
          intro bG N;exact wT [] [(4,vF)]<|wH zN<|yQ<|zT (ct N H)
        intro bf N;exact wT [] [(4,vF)]<|wH zN<|yQ<|zT (ct N H)
      intro aH N;exact wT [] [(4,vF)]<|wH zN<|yQ<|zT (ct N H)
    intro hc N;exact wT [] [(4,vF)]<|wH zN<|yQ<|zT (ct N H)
  intro t4 I0 aF aT;refine zK<|xF ?_;obtain rfl:=zE aT;exact vZ
theorem zGd:∀ a0 b r,gJ a0 b=some r->∀ {I:Imm}{p c p1 c1 p2 c2 p3 c3 p4 c4 p5 c5},(S4 I p a0.Index.Coefs c)->(S4 I p1 a0.Read.Subs c1)->(S4 I p2 a0.Kids c2)->(S4 I p3 b.Index.Coefs c3)->(S4 I p4 b.Read.Subs c4)->(S4 I p5 b.Kids c5)->RT 80 [vA (cExpr a0 p c p1 c1 p2 c2),vA (cExpr b p3 c3 p4 c4 p5 c5)] I [] (zQ  r):=mB.2.2
def pW (a0:zG) (b:zG):Option (Bool):=do
 let t4<-(do
   let y<-kQ a0.Write b.Write;if y then
    let y1<-gJ a0.Value b.Value;pure (id y1)
   else
    pure false
     : Option Bool)
 pure (id t4)
theorem zGe:∀ a0 b r,pW a0 b=some r->∀ {I:Imm}{p c p1 c1 p2 c2 p3 c3 p4 c4 p5 c5 p6 c6 p7 c7},(S4 I p a0.Write.Subs c)->(S4 I p1 a0.Value.Index.Coefs c1)->(S4 I p2 a0.Value.Read.Subs c2)->(S4 I p3 a0.Value.Kids c3)->(S4 I p4 b.Write.Subs c4)->(S4 I p5 b.Value.Index.Coefs c5)->(S4 I p6 b.Value.Read.Subs c6)->(S4 I p7 b.Value.Kids c7)->RT 41 [vA (cStmt a0 p c p1 c1 p2 c2 p3 c3),vA (cStmt b p4 c4 p5 c5 p6 c6 p7 c7)] I [] (zQ  r):=by
 intro a0 b r N I p c p1 c1 p2 c2 p3 c3 p4 c4 p5 c5 p6 c6 p7 c7 h h1 h2 h3 h4 h5 h6 h7;unfold pW at N;refine yJ func41 fun B=>?_;have H:=iS I;refine yA<|vD (cStmt a0 p c p1 c1 p2 c2 p3 c3) ?_;intro b1 hb;refine vD (cStmt b p4 c4 p5 c5 p6 c6 p7 c7) ?_;intro b2 hb1;refine wT [] []<|zK<|yC ?_;refine wU N [] (fun t4=>[(4,.bool t4)]) (fun o0 az=>?_) ?_
 · have H:=iS I;refine zM<|vU 4 [1,0] [(6,vA (cAccess a0.Write p c)),(8,vA (cAccess b.Write p4 c4))] ?_;obtain ⟨y,hy,N⟩:=zB az;refine vR (zB6 a0.Write b.Write _ hy h h4) ?_;intro aR le;have ⟨h5,h6,h7,h1,h2,h3⟩:=m6 le h5 h6 h7 h1 h2 h3;have H:=H.trans le;refine yD 6 [] [10] rfl<|wD [10] N ?_ ?_
   · intro hc N;refine vU 10 [1,0] [(12,vA (cExpr a0.Value p1 c1 p2 c2 p3 c3)),(14,vA (cExpr b.Value p5 c5 p6 c6 p7 c7))]<|bE N fun y1 ax N=>vR (zGd a0.Value b.Value _ ax h1 h2 h3 h5 h6 h7) ?_;intro aV ae;have H:=H.trans ae;exact yL [] [4] rfl<|wH zN<|yQ<|zT (ct N H)
   intro hc N;exact wT [] [(4,vF)]<|wH zN<|yQ<|zT (ct N H)
 intro t4 I0 aB aT;refine zK<|xF ?_;obtain rfl:=zE aT;exact vZ
def sU (x:zL) (y:zL):Option (Bool):=do
 let t4<-(do
   let y1<-dC x.Nest y.Nest;if y1 then
    let y2<-xW x.Body y.Body pW;pure (id y2)
   else
    pure false
     : Option Bool)
 pure (id t4)
theorem zDY:∀ x y r,sU x y=some r->∀ {I:Imm}{p c p1 c1 p2 c2 p3 c3},(S4 I p x.Nest c)->(S4 I p1 x.Body c1)->(S4 I p2 y.Nest c2)->(S4 I p3 y.Body c3)->RT 38 [vA (cPart x p c p1 c1),vA (cPart y p2 c2 p3 c3)] I [] (zQ  r):=by
 intro x y r N I p c p1 c1 p2 c2 p3 c3 h h1 h2 h3;unfold sU at N;refine yJ func38 fun B=>?_;have H:=iS I;refine yA<|vD (cPart x p c p1 c1) ?_;intro b hb;refine vD (cPart y p2 c2 p3 c3) ?_;intro b1 hb1;refine wT [] []<|zK<|yC ?_;refine wU N [] (fun t4=>[(4,.bool t4)]) (fun o0 az=>?_) ?_
 · have H:=iS I;refine zM<|yD 4 [1,0] [6,8] rfl ?_;obtain ⟨y1,hy,N⟩:=zB az;refine vR (zGc x.Nest y.Nest _ hy h h2) ?_;intro aR le;have ⟨h3,h,h1,H⟩:=m4 le h3 h h1 H;refine yD 6 [] [10] rfl<|wD [10] N ?_ ?_
   · intro hc N;refine yD 10 [1,0] [12,14] rfl ?_;have hf0:FV2 Tryz.prog aR [] (.func (.func 41) ⟨[]⟩ ⟨[]⟩) pW:=by
       refine FV2.intro ?_;intro I1 ae x0 x1 r u0 u1 hF k0 k1;obtain ⟨_,rfl,k0⟩:=k0;obtain ⟨p4,c4,p5,c5,p6,c6,p7,c7,rfl,h5,h6,h7,h8⟩:=wI k0;obtain ⟨_,rfl,k1⟩:=k1;obtain ⟨p8,c8,p9,c9,aM,aP,aI,aQ,rfl,h9,h10,h11,h12⟩:=wI k1;exact (zGe x0 x1 r hF h5 h6 h7 h8 h9 h10 h11 h12).mono (by rintro k i hs u ⟨v0,rfl,rfl,h⟩; exact ⟨rfl,h⟩)
     obtain ⟨y2,ax,N⟩:=zB N;refine xJ (mG x.Body y.Body pW _ ax h1 h3 hf0) ?_;rintro aV av v2 k2 ae - ⟨v09,rfl,rfl,rfl⟩ -;have H:=H.trans ae;exact yL [] [4] rfl<|wH zN<|yQ<|zT (ct N H)
   intro hc N;exact wT [] [(4,vF)]<|wH zN<|yQ<|zT (ct N H)
 intro t4 I0 aB aT;refine zK<|xF ?_;obtain rfl:=zE aT;exact vZ
def uQ (aD:List HA) (r:Bool):KT:=fun kk I' ah v=>
  ∃ v0,aD=ah/\v=tupV [v0]/\v0=.bool r
def yP (s1:(List zD)) (s2:(List zD)) (eq:(zD->zD->Option Bool)) (t17:Int):Option (Out Unit (Bool)):=do
 if (decide (t17<(s1.length:Int))) then
  let x<-idx s1 t17;let x1<-idx s2 t17;let y<-eq x x1;if (!y) then pure (.ret false)
  else yP s1 s2 eq (W (t17+1))
 else pure (.done ())
 partial_fixpoint
theorem oA (s1:(List zD)) (s2:(List zD)) (eq:(zD->zD->Option Bool)):∀ (t17:Int) (o:Out Unit (Bool)),yP s1 s2 eq t17=some o->∀ {B}{I0 I:Imm}{Q p c p1 c1}{fv:Value}{aD:List HA},I0.le I->(S4 I p1 s2 c1)->(FV2 Tryz.prog I aD fv eq)->(S4 I p s1 c)->NG Q->NO Q->(∀ I',o=(.done ())->I0.le I'->T 32 B Q (.exit 0) I' aD [])->(∀ r I' ah m',o=(.ret r)->I0.le I'->RS Tryz.prog f42 B (uQ aD r) I' ah m'->T 32 B Q .ret I' ah m')->J Tryz.prog 32 B (nav (bodyOf f42) [1,1,0,1,0]) Q I aD [(1,vS p1 s2 c1),(2,fv),(15,vS p s1 c),(16,vI (s1.length:Int)),(17,vI t17)]:=by
 refine yP.partial_correctness s1 s2 eq _ fun aJ ih t17 o N B I0 I Q p c p1 c1 fv aD H h1 h2 h hg ho hx hr=>yZ hg ho<|yI [18] rfl<|zZ<|yE N ?_ ?_
 · intro aH N;refine zS<|zZ<|yH<|yA<|yD 1 [] [19] rfl<|bE N fun x hy N=>wA rfl rfl h hy ?_;intro ad aK ap al;obtain ⟨p2,c2,rfl,h3⟩:=wK al;refine xP 0 ap (cArr x p2 c2) (vA (cArr x p2 c2)) rfl<|xU [vT ([]),z0] ?_;intro b hb;refine yD 5 [] [7] rfl<|eK 0 (cArr x p2 c2) (hB b (cArr x p2 c2)::aD) rfl rfl rfl rfl<|zU rfl<|yT<|yD 2 [] [22,23] rfl<|bE N fun x1 ax N=>wA rfl rfl h1 ax ?_;intro ad1 bo ay aA;obtain ⟨p3,c3,rfl,h4⟩:=wK aA;refine xP 0 ay (cArr x1 p3 c3) (vA (cArr x1 p3 c3)) rfl<|xU [vT ([]),z0] ?_;intro b1 hb1;refine eK 0 (cArr x1 p3 c3) (hB b1 (cArr x1 p3 c3)::hB b (cArr x p2 c2)::aD) rfl rfl rfl rfl<|zU rfl<|yT<|vU 3 [1,0] [(26,fv),(27,vA (cArr x p2 c2)),(28,vA (cArr x1 p3 c3))]<|bE N fun y aE N=>tU (ah:=aD++[hB b1 (cArr x1 p3 c3),hB b (cArr x p2 c2)]) (dE [hB b1 (cArr x1 p3 c3),hB b (cArr x p2 c2)] aD)<|zKU rfl rfl rfl h2 aE ⟨_,rfl,(uL ⟨_,rfl,h3⟩)⟩ ⟨_,rfl,(uL ⟨_,rfl,h4⟩)⟩ rfl ?_;rintro I0 v02 le rfl;refine tU (ah:=(hB b1 (cArr x1 p3 c3)::hB b (cArr x p2 c2)::aD)) (dE aD [hB b1 (cArr x1 p3 c3),hB b (cArr x p2 c2)]) ?_;have ⟨h1,h2,h,H⟩:=m4 le h1 h2 h H;refine yL [] [30] rfl<|zK<|yE N ?_ ?_
   · intro bf N;exact vK [(6,vF)]<|xL<|zV<|zI<|zI<|hr _ _ _ _ (zE N).symm H ⟨_,_,(resT rfl),(oR [hB b1 (cArr x1 p3 c3),hB b (cArr x p2 c2)] aD [] rfl (by decide)),⟨_,rfl,rfl,rfl⟩⟩
   intro bf N;exact zS<|zP<|zK<|zM<|yL [] [17] rfl<|yX<|qY (oR [hB b1 (cArr x1 p3 c3),hB b (cArr x p2 c2)] aD [] rfl (by decide))<|mC<|ih (W (t17+1)) _ N H h1 h2 h hg ho hx hr
 intro aH N;exact vC<|yQ<|hx _  (zE N).symm H
def wF (s1:(List zD)) (s2:(List zD)) (eq:(zD->zD->Option Bool)):Option (Bool):=do
 if ((s1.length:Int) != (s2.length:Int)) then pure false
 else
  match<-yP s1 s2 eq 0 with
  | .ret r0=>pure r0
  | .done _ =>
   pure true
theorem oQ:∀ s1 s2 eq r,wF s1 s2 eq=some r->∀ {I:Imm}{p c p1 c1}{fv:Value}{aD:List HA},(S4 I p s1 c)->(S4 I p1 s2 c1)->(FV2 Tryz.prog I aD fv eq)->RT 42 [vS p s1 c,vS p1 s2 c1,fv] I aD (uQ aD r):=by
 intro s1 s2 eq r N I p c p1 c1 fv aD h h1 h2;unfold wF at N;refine yJ func42 fun B=>vK []<|zZ<|yI [14] rfl<|zK<|yE N ?_ ?_
 · intro hc N;refine vK [(6,vF)]<|xL<|zI ?_;exact xO N (resT rfl) (fun _ h=>h) ⟨_,rfl,rfl,rfl⟩
 intro hc N;refine zS<|zZ<|yI [15,16,17] rfl<|wQ<|pM [(1,vS p1 s2 c1),(2,fv),(15,vS p s1 c),(16,vI (s1.length:Int)),(17,vI 0)] ?_;obtain ⟨o0,az,aG⟩:=zB N;refine oA s1 s2 eq 0 o0 az iR h1 h2 h nG nO ?_ ?_
 · intro aR  heq ae;subst o0;refine zR<|zEt [(6,vY)]<|zK<|xF ?_;exact xO aG (resT rfl) (fun _ h=>h) ⟨_,rfl,rfl,rfl⟩
 intro r0 I9 hs9 m9 aY le9 aZ;subst aY;refine zV<|zI ?_;obtain rfl:=zE aG;exact dB aZ
def tJ (aD:List HA) (r:Bool):KT:=fun kk I' ah v=>
  ∃ v0,aD=ah/\v=tupV [v0]/\v0=.bool r
def yW (s1:(List zL)) (s2:(List zL)) (eq:(zL->zL->Option Bool)) (t17:Int):Option (Out Unit (Bool)):=do
 if (decide (t17<(s1.length:Int))) then
  let x<-idx s1 t17;let x1<-idx s2 t17;let y<-eq x x1;if (!y) then pure (.ret false)
  else yW s1 s2 eq (W (t17+1))
 else pure (.done ())
 partial_fixpoint
theorem oV (s1:(List zL)) (s2:(List zL)) (eq:(zL->zL->Option Bool)):∀ (t17:Int) (o:Out Unit (Bool)),yW s1 s2 eq t17=some o->∀ {B}{I0 I:Imm}{Q p c p1 c1}{fv:Value}{aD:List HA},I0.le I->(S4 I p1 s2 c1)->(FV2 Tryz.prog I aD fv eq)->(S4 I p s1 c)->NG Q->NO Q->(∀ I',o=(.done ())->I0.le I'->T 32 B Q (.exit 0) I' aD [])->(∀ r I' ah m',o=(.ret r)->I0.le I'->RS Tryz.prog f43 B (tJ aD r) I' ah m'->T 32 B Q .ret I' ah m')->J Tryz.prog 32 B (nav (bodyOf f43) [1,1,0,1,0]) Q I aD [(1,vS p1 s2 c1),(2,fv),(15,vS p s1 c),(16,vI (s1.length:Int)),(17,vI t17)]:=by
 refine yW.partial_correctness s1 s2 eq _ fun aJ ih t17 o N B I0 I Q p c p1 c1 fv aD H h1 h2 h hg ho hx hr=>yZ hg ho<|yI [18] rfl<|zZ<|yE N ?_ ?_
 · intro aH N;refine zS<|zZ<|yH<|yA<|yD 1 [] [19] rfl<|bE N fun x hy N=>wA rfl rfl h hy ?_;intro ad aK ap al;obtain ⟨p2,c2,p3,c3,rfl,h3,h4⟩:=wX al;refine xP 0 ap (cPart x p2 c2 p3 c3) (vA (cPart x p2 c2 p3 c3)) rfl<|xU zTwo ?_;intro b hb;refine yD 5 [] [7] rfl<|eK 0 (cPart x p2 c2 p3 c3) (hB b (cPart x p2 c2 p3 c3)::aD) rfl rfl rfl rfl<|zU rfl<|yT<|yD 2 [] [22,23] rfl<|bE N fun x1 ax N=>wA rfl rfl h1 ax ?_;intro ad1 bo ay aA;obtain ⟨p4,c4,p5,c5,rfl,h5,h6⟩:=wX aA;refine xP 0 ay (cPart x1 p4 c4 p5 c5) (vA (cPart x1 p4 c4 p5 c5)) rfl<|xU zTwo ?_;intro b1 hb1;refine eK 0 (cPart x1 p4 c4 p5 c5) (hB b1 (cPart x1 p4 c4 p5 c5)::hB b (cPart x p2 c2 p3 c3)::aD) rfl rfl rfl rfl<|zU rfl<|yT<|vU 3 [1,0] [(26,fv),(27,vA (cPart x p2 c2 p3 c3)),(28,vA (cPart x1 p4 c4 p5 c5))]<|bE N fun y aE N=>tU (ah:=aD++[hB b1 (cPart x1 p4 c4 p5 c5),hB b (cPart x p2 c2 p3 c3)]) (dE [hB b1 (cPart x1 p4 c4 p5 c5),hB b (cPart x p2 c2 p3 c3)] aD)<|zKU rfl rfl rfl h2 aE ⟨_,rfl,(uY ⟨_,_,rfl,h3,h4⟩)⟩ ⟨_,rfl,(uY ⟨_,_,rfl,h5,h6⟩)⟩ rfl ?_;rintro I0 v04 le rfl;refine tU (ah:=(hB b1 (cPart x1 p4 c4 p5 c5)::hB b (cPart x p2 c2 p3 c3)::aD)) (dE aD [hB b1 (cPart x1 p4 c4 p5 c5),hB b (cPart x p2 c2 p3 c3)]) ?_;have ⟨h1,h2,h,H⟩:=m4 le h1 h2 h H;refine yL [] [30] rfl<|zK<|yE N ?_ ?_
   · intro bf N;exact vK [(6,vF)]<|xL<|zV<|zI<|zI<|hr _ _ _ _ (zE N).symm H ⟨_,_,(resT rfl),(oR [hB b1 (cPart x1 p4 c4 p5 c5),hB b (cPart x p2 c2 p3 c3)] aD [] rfl (by decide)),⟨_,rfl,rfl,rfl⟩⟩
   intro bf N;exact zS<|zP<|zK<|zM<|yL [] [17] rfl<|yX<|qY (oR [hB b1 (cPart x1 p4 c4 p5 c5),hB b (cPart x p2 c2 p3 c3)] aD [] rfl (by decide))<|mC<|ih (W (t17+1)) _ N H h1 h2 h hg ho hx hr
 intro aH N;exact vC<|yQ<|hx _  (zE N).symm H
def wN (s1:(List zL)) (s2:(List zL)) (eq:(zL->zL->Option Bool)):Option (Bool):=do
 if ((s1.length:Int) != (s2.length:Int)) then pure false
 else
  match<-yW s1 s2 eq 0 with
  | .ret r0=>pure r0
  | .done _ =>
   pure true
theorem mH:∀ s1 s2 eq r,wN s1 s2 eq=some r->∀ {I:Imm}{p c p1 c1}{fv:Value}{aD:List HA},(S4 I p s1 c)->(S4 I p1 s2 c1)->(FV2 Tryz.prog I aD fv eq)->RT 43 [vS p s1 c,vS p1 s2 c1,fv] I aD (tJ aD r):=by
 intro s1 s2 eq r N I p c p1 c1 fv aD h h1 h2;unfold wN at N;refine yJ func43 fun B=>vK []<|zZ<|yI [14] rfl<|zK<|yE N ?_ ?_
 · intro hc N;refine vK [(6,vF)]<|xL<|zI ?_;exact xO N (resT rfl) (fun _ h=>h) ⟨_,rfl,rfl,rfl⟩
 intro hc N;refine zS<|zZ<|yI [15,16,17] rfl<|wQ<|pM [(1,vS p1 s2 c1),(2,fv),(15,vS p s1 c),(16,vI (s1.length:Int)),(17,vI 0)] ?_;obtain ⟨o0,az,aG⟩:=zB N;refine oV s1 s2 eq 0 o0 az iR h1 h2 h nG nO ?_ ?_
 · intro aR  heq ae;subst o0;refine zR<|zEt [(6,vY)]<|zK<|xF ?_;exact xO aG (resT rfl) (fun _ h=>h) ⟨_,rfl,rfl,rfl⟩
 intro r0 I9 hs9 m9 aY le9 aZ;subst aY;refine zV<|zI ?_;obtain rfl:=zE aG;exact dB aZ
def oC (a0:zH) (b:zH):Option (Bool):=do
 let t4<-(do
   let y<-wF a0.Arrays b.Arrays sT;if y then
    let y1<-wN a0.Parts b.Parts sU;pure (id y1)
   else
    pure false
     : Option Bool)
 pure (id t4)
theorem zBR:∀ a0 b r,oC a0 b=some r->∀ {I:Imm}{p c p1 c1 p2 c2 p3 c3},(S4 I p a0.Arrays c)->(S4 I p1 a0.Parts c1)->(S4 I p2 b.Arrays c2)->(S4 I p3 b.Parts c3)->RT 10 [vA (cProg a0 p c p1 c1),vA (cProg b p2 c2 p3 c3)] I [] (zQ  r):=by
 intro a0 b r N I p c p1 c1 p2 c2 p3 c3 h h1 h2 h3;unfold oC at N;refine yJ func10 fun B=>?_;have H:=iS I;refine yA<|vD (cProg a0 p c p1 c1) ?_;intro b1 hb;refine vD (cProg b p2 c2 p3 c3) ?_;intro b2 hb1;refine wT [] []<|uJ [5] rfl<|uJ [6] rfl<|zK<|yC ?_;refine wU N [] (fun t4=>[(4,.bool t4)]) (fun o0 az=>?_) ?_
 · have H:=iS I;refine zM<|yD 5 [1,0] [8,10,11] rfl ?_;have hf0:FV2 Tryz.prog I [] (.func (.func 36) ⟨[]⟩ ⟨[]⟩) sT:=by
     refine FV2.intro ?_;intro I1 ae x0 x1 r u0 u1 hF k0 k1;obtain ⟨_,rfl,k0⟩:=k0;obtain ⟨p4,c4,rfl,h4⟩:=wK k0;obtain ⟨_,rfl,k1⟩:=k1;obtain ⟨p5,c5,rfl,h5⟩:=wK k1;exact (zDX x0 x1 r hF h4 h5).mono (by rintro k i hs u ⟨v0,rfl,rfl,h⟩; exact ⟨rfl,h⟩)
   obtain ⟨y,hy,N⟩:=zB az;refine xJ (oQ a0.Arrays b.Arrays sT _ hy h h2 hf0) ?_;rintro aR av v2 k2 le - ⟨v02,rfl,rfl,rfl⟩ -;have ⟨h3,h,h1,H⟩:=m4 le h3 h h1 H;refine yD 7 [] [13] rfl<|wD [13] N ?_ ?_
   · intro hc N;refine yD 12 [1,0] [15,17,18] rfl ?_;have hf01:FV2 Tryz.prog aR [] (.func (.func 38) ⟨[]⟩ ⟨[]⟩) sU:=by
       refine FV2.intro ?_;intro I1 ae x0 x1 r u0 u1 hF k0 k1;obtain ⟨_,rfl,k0⟩:=k0;obtain ⟨p6,c6,p7,c7,rfl,h7,h8⟩:=wX k0;obtain ⟨_,rfl,k1⟩:=k1;obtain ⟨p8,c8,p9,c9,rfl,h9,h10⟩:=wX k1;exact (zDY x0 x1 r hF h7 h8 h9 h10).mono (by rintro k i hs u ⟨v0,rfl,rfl,h⟩; exact ⟨rfl,h⟩)
     obtain ⟨y1,ax,N⟩:=zB N;refine xJ (mH a0.Parts b.Parts sU _ ax h1 h3 hf01) ?_;rintro aV av v2 k2 ae - ⟨v07,rfl,rfl,rfl⟩ -;have H:=H.trans ae;exact yL [] [4] rfl<|wH zN<|yQ<|zT (ct N H)
   intro hc N;exact wT [] [(4,vF)]<|wH zN<|yQ<|zT (ct N H)
 intro t4 I0 aB aT;refine zK<|xF ?_;obtain rfl:=zE aT;exact vZ
def wW (n0:Int) (low:Int) (high:Int):Option (Bool):=do
 let t6<-(do
   if (decide (low<=n0)) then pure (decide (n0<=high))
   else
    pure false
     : Option Bool)
 pure (id t6)
theorem vG:∀ n0 low high r,wW n0 low high=some r->∀ {I:Imm} ,RT 46 [vI n0,vI low,vI high] I [] (zQ  r):=by
 intro n0 low high r N I;unfold wW at N;refine yJ func46 fun B=>?_;have H:=iS I;refine vK []<|zK<|yC ?_;refine wU N [] (fun t6=>[(6,.bool t6)]) (fun o0 az=>?_) ?_
 · have H:=iS I;refine zM<|yD 4 [] [10] rfl<|wD [10] az ?_ ?_
   · intro hc N;exact yL [] [6] rfl<|yQ<|zT (ct N H)
   intro hc N;exact wT [] [(6,vF)]<|yQ<|zT (ct N H)
 intro t6 I0 le aT;refine zK<|xF ?_;obtain rfl:=zE aT;exact vZ
def eQ (s:Str) (substr:Str):Option Bool:=match substr.l with | [c]=>some (decide (0<=Lib.indexByte s.l c)) | _=>none
theorem zEW:∀ (s substr:Str) r,eQ s substr=some r->∀ {I:Imm},RT 136 [vT s.l,vT substr.l] I [] (zQ r):=by
 intro s substr r N I;unfold eQ at N;split at N
 · rename_i c hc;cases N
   rw [hc];exact zMM (fun w g=>(Tryz.strings_Contains_one ⟨⟨s.l⟩⟩ c w).mono fun e w' ⟨h1,h2⟩=>⟨h1,h2 ▸ RowKit.Below.refl _ _,Nat.le_of_eq (by rw [h2])⟩) fun k=>⟨_,rfl,rfl,rfl⟩
 cases N
def fT (s:Str):Option (Bool):=do
 let t2<-(do
   if ((s.l.length:Int)==1) then
    let y<-eQ (⟨[65,66,67,68]⟩:Str) s;pure (id y)
   else
    pure false
     : Option Bool)
 pure (id t2)
theorem kT:∀ s r,fT s=some r->∀ {I:Imm} ,RT 94 [vT s.l] I [] (zQ  r):=by
 intro s r N I;unfold fT at N;refine yJ func94 fun B=>?_;have H:=iS I;refine vK []<|zK<|yC ?_;refine wU N [] (fun t2=>[(2,.bool t2)]) (fun o0 az=>?_) ?_
 · have H:=iS I;refine zM<|yD 4 [] [6] rfl<|wD [6] az ?_ ?_
   · intro hc N;refine yD 5 [] [7] rfl<|bE N fun y hy N=>vR (zEW (⟨[65,66,67,68]⟩:Str) s _ hy ) ?_;intro aR le;have H:=H.trans le;exact yL [] [2] rfl<|yQ<|zT (ct N H)
   intro hc N;exact wT [] [(2,vF)]<|yQ<|zT (ct N H)
 intro t2 I0 ae aT;refine zK<|xF ?_;obtain rfl:=zE aT;exact vZ
def eI (aD:List HA) (r:Int):KT:=fun kk I' ah v=>
  ∃ v0,aD=ah/\v=tupV [v0]/\v0=.int .i64 r
def vO (s:(List Int)) (f0:(Int->Option Bool)) (t8:Int):Option (Out Unit (Int)):=do
 if (decide (t8<(s.length:Int))) then
  let x<-idx s t8;let y<-f0 x;if y then pure (.ret t8)
  else vO s f0 (W (t8+1))
 else pure (.done ())
 partial_fixpoint
theorem zAt (s:(List Int)) (f0:(Int->Option Bool)):∀ (t8:Int) (o:Out Unit (Int)),vO s f0 t8=some o->∀ {B}{I0 I:Imm}{Q p c}{fv:Value}{aD:List HA},I0.le I->(S4 I p s c)->(FV1 Tryz.prog I aD fv f0)->NG Q->NO Q->(∀ I',o=(.done ())->I0.le I'->T 19 B Q (.exit 0) I' aD [])->(∀ r I' ah m',o=(.ret r)->I0.le I'->RS Tryz.prog f137 B (eI aD r) I' ah m'->T 19 B Q .ret I' ah m')->J Tryz.prog 19 B (nav (bodyOf f137) [1,0,1,0]) Q I aD [(0,vS p s c),(1,fv),(7,vI (s.length:Int)),(8,vI t8)]:=by
 refine vO.partial_correctness s f0 _ fun aJ ih t8 o N B I0 I Q p c fv aD H h h1 hg ho hx hr=>yZ hg ho<|yI [9] rfl<|zZ<|yE N ?_ ?_
 · intro hc N;refine zS<|zZ<|yH<|yI [5] rfl<|yT<|yD 3 [] [11,12,13] rfl<|bE N fun x hy N=>wA rfl rfl h hy ?_;intro ad aK ap al;obtain rfl:=al;refine xP 0 ap [vI x] (vI x) rfl<|bE N fun y ax N=>zKT rfl rfl h1 ax rfl (co _).symm ?_;rintro I0 v0 le rfl;refine vQ (ah:=aD) (co _) ?_;have ⟨h,h1,H⟩:=m3 le h h1 H;refine zU rfl<|zK<|yE N ?_ ?_
   · intro aH N;exact yI [4] rfl<|xL<|zV<|zI<|zI<|hr _ _ _ _ (zE N).symm H ⟨_,_,(resT rfl),(fun _ h=>h),⟨_,rfl,rfl,rfl⟩⟩
   intro aH N;exact zS<|zP<|zK<|zM<|yL [] [8] rfl<|yX<|mC<|ih (W (t8+1)) _ N H h h1 hg ho hx hr
 intro hc N;exact vC<|yQ<|hx _  (zE N).symm H
def oW (s:(List Int)) (f0:(Int->Option Bool)):Option (Int):=do
 match<-vO s f0 0 with
 | .ret r0=>pure r0
 | .done _ =>
  pure (-1)
theorem zBW:∀ s f0 r,oW s f0=some r->∀ {I:Imm}{p c}{fv:Value}{aD:List HA},(S4 I p s c)->(FV1 Tryz.prog I aD fv f0)->RT 137 [vS p s c,fv] I aD (eI aD r):=by
 intro s f0 r N I p c fv aD h h1;unfold oW at N;refine yJ func137 fun B=>vK []<|zZ<|yI [7,8] rfl<|wQ<|pM [(0,vS p s c),(1,fv),(7,vI (s.length:Int)),(8,vI 0)] ?_;obtain ⟨o0,az,aG⟩:=zB N;refine zAt s f0 0 o0 az iR h h1 nG nO ?_ ?_
 · intro aR  heq ae;subst o0;refine zR<|uJ [4] rfl<|zK<|xF ?_;exact xO aG (resT rfl) (fun _ h=>h) ⟨_,rfl,rfl,rfl⟩
 intro r0 I9 hs9 m9 aY le9 aZ;subst aY;refine zV<|zI ?_;obtain rfl:=zE aG;exact dB aZ
def zAe (aD:List HA) (r:Bool):KT:=fun kk I' ah v=>
  ∃ v0,aD=ah/\v=tupV [v0]/\v0=.bool r
def wG (s:(List Int)) (f0:(Int->Option Bool)):Option (Bool):=do
 let y<-oW s f0;pure (decide (y>=0))
theorem qQ:∀ s f0 r,wG s f0=some r->∀ {I:Imm}{p c}{fv:Value}{aD:List HA},(S4 I p s c)->(FV1 Tryz.prog I aD fv f0)->RT 95 [vS p s c,fv] I aD (zAe aD r):=by
 intro s f0 r N I p c fv aD h h1;unfold wG at N;refine yJ func95 fun B=>vK []<|yT<|yD 2 [] [5,6] rfl<|bE N fun y hy N=>zG1 (hs1:=aD) (rest:=[]) rfl rfl rfl rfl (by kernel_rfl) rfl (co _).symm (zBW s f0 _ hy h h1) ?_;rintro I0 av v2 k2 le - ⟨v0,rfl,rfl,rfl⟩ -;refine vQ (ah:=aD) (co _) ?_;refine yL [] [4] rfl<|zK<|xF ?_;exact xO N (resT rfl) (fun _ h=>h) ⟨_,rfl,rfl,rfl⟩
def sL (n0:Int):Option (Bool):=do
 let y<-wW n0 1 6;pure (!y)
theorem zB7:∀ n0 r,sL n0=some r->∀ {I:Imm} ,RT 96 [vI n0] I [] (zQ  r):=by
 intro n0 r N I;unfold sL at N;refine yJ func96 fun B=>vK []<|yT<|yD 1 [] [3] rfl<|bE N fun y hy N=>vR (vG n0 1 6 _ hy ) fun I0 le=>wT [] [(2,.bool (!y))]<|zK<|xF ?_;obtain rfl:=zE N;exact vZ
def oD (list:(List zD)) (t7:Int):Option (Out Unit (Bool)):=do
 if (decide (t7<(list.length:Int))) then
  let x<-idx list t7;let t42<-(do
    let y<-fT x.Name;if (!y) then pure true
    else
     if (decide (t7>0)) then
      let x1<-idx list (W (t7 - 1));if (!(Op.bytesLess x1.Name.l x.Name.l)) then pure true
      else
       let y1<-wW (x.Dims.length:Int) 1 2;if (!y1) then pure true
       else
        let y2<-wG x.Dims sL;pure (id y2)
     else
      let y3<-wW (x.Dims.length:Int) 1 2;if (!y3) then pure true
      else
       let y4<-wG x.Dims sL;pure (id y4)
      : Option Bool)
  if t42 then pure (.ret false)
  else oD list (W (t7+1))
 else pure (.done ())
 partial_fixpoint
theorem zEX (list:(List zD)):∀ (t7:Int) (o:Out Unit (Bool)),oD list t7=some o->∀ {B}{I0 I:Imm}{Q p c},I0.le I->(S4 I p list c)->NG Q->NO Q->(∀ I',o=(.done ())->I0.le I'->T 47 B Q (.exit 0) I' [] [(0,vS p list c)])->(∀ r I' ah m',o=(.ret r)->I0.le I'->RS Tryz.prog f57 B (zQ  r) I' ah m'->T 47 B Q .ret I' ah m')->J Tryz.prog 47 B (nav (bodyOf f57) [1,0,1,0]) Q I [] [(0,vS p list c),(5,vS p list c),(6,vI (list.length:Int)),(7,vI t7)]:=by
 refine oD.partial_correctness list _ fun aJ ih t7 o N B I0 I Q p c H h hg ho hx hr=>yZ hg ho<|yI [8] rfl<|zZ<|yE N ?_ ?_
 · intro hc N;refine zS<|zZ<|yH<|yA<|yD 1 [] [9] rfl<|bE N fun x hy N=>wA rfl rfl h hy ?_;intro ad aK ap al;obtain ⟨p1,c1,rfl,h1⟩:=wK al;refine xP 0 ap (cArr x p1 c1) (vA (cArr x p1 c1)) rfl<|xU [vT ([]),z0] ?_;intro b hb;refine yD 5 [] [3] rfl<|yS 0 (cArr x p1 c1) rfl<|zU rfl<|zK<|yC ?_;refine wU N [] (fun t42=>[(0,vS p list c),(5,vS p list c),(6,vI (list.length:Int)),(7,vI t7),(42,.bool t42)]) (fun o0 az=>?_) ?_
   · have H:=iS I;obtain ⟨y,ax,N⟩:=zB az;cases aH:(!y) with
     | true =>
      have hM0:=qN aH N;refine wV [.p (vP b 0) [],.p (vT x.Name.l) [0],.q (.bool y),.q vY,.q vY,.p undef [],.p undef [],.p undef [],.p undef [],.p undef [],.p undef [],.p undef [],.p undef [],.p undef [],.p undef [],.p undef [],.p undef [],.p undef [],.p vY [],.p vY [],.p undef [],.p undef [],.p undef [],.p undef [],.p undef [],.p vY [],.p vY [],.p undef [],.p undef [],.p undef [],.p vY []] [[],[(0,false)],[(1,false)],[(2,false)],[(3,false)],[(4,false)],[(4,false),(5,false)],[(4,false),(6,false)],[(7,false)],[(7,false)],[(7,false),(9,false)],[(7,false),(8,false),(10,false)],[(7,false),(11,false)],[(7,false),(12,false)],[(7,false)],[(7,false),(14,false)],[(7,false),(13,false),(15,false)],[(4,false),(7,false),(16,false)],[(4,false),(17,false)],[(18,false)],[(19,false)],[(19,false),(20,false)],[(19,false),(21,false)],[(19,false),(22,false)],[(19,false),(23,false)],[(19,false),(24,false)],[(25,false)],[(26,false)],[(26,false),(27,false)],[(26,false),(28,false)],[(26,false),(29,false)]] [hB b (cArr x p1 c1)] [] [(30,false)] (zY [0]) ?_ ?_
      · refine O2<|Oq ?_<|Oq ?_<|Oq ?_<|O4<|O4<|O4<|O4<|O4<|O4<|O2<|On
        · intro I1 hf ae;refine xD [13] rfl ?_;have H:=iS I1;refine vR (kT x.Name _ ax ) ?_;intro aR le;have H:=H.trans le;exact xY H
        · intro I1 hf ae;refine xD [14] rfl<|mD 4 [(15,.bool (!y))] ?_;rw [aH];exact xY iR
        intro I1 hf ae;exact I_h [(15,vY)]<|mD 5 [(16,vY)]<|xY iR
      intro aV ae;refine xD [0,5,6,7,42] rfl ?_;have H:=H.trans ae;exact zU rfl<|wH zN<|yQ<|zT (ct hM0 H)
     | false =>
      have hM01:=rE aH N;cases bf:(decide (t7>0)) with
      | true =>
       have hM02:=qN bf hM01;obtain ⟨x1,aE,N⟩:=zB hM02;cases bG:(!(Op.bytesLess x1.Name.l x.Name.l)) with
       | true =>
        have hM03:=qN bG N;refine wV [.p (vP b 0) [],.p (vT x.Name.l) [0],.q (.bool y),.q vF,.q vF,.p (vI t7) [],.q vY,.q vY,.p (vS p list c) [],.p (vI t7) [],.p (vI (W (t7 - 1))) [],.x (ePArr x1),.x (ePArr x1),.q (vT x1.Name.l),.p (vP b 0) [],.p (vT x.Name.l) [0],.q vY,.q vY,.q vY,.q vY,.p undef [],.p undef [],.p undef [],.p undef [],.p undef [],.p vY [],.p vY [],.p undef [],.p undef [],.p undef [],.p vY []] [[],[(0,false)],[(1,false)],[(2,false)],[(3,false)],[(4,false)],[(4,false),(5,false)],[(4,false),(6,false)],[(7,false)],[(7,false)],[(7,false),(9,false)],[(7,false),(8,false),(10,false)],[(7,false),(11,false)],[(7,false),(12,false)],[(7,false)],[(7,false),(14,false)],[(7,false),(13,false),(15,false)],[(4,false),(7,false),(16,false)],[(4,false),(17,false)],[(18,false)],[(19,false)],[(19,false),(20,false)],[(19,false),(21,false)],[(19,false),(22,false)],[(19,false),(23,false)],[(19,false),(24,false)],[(25,false)],[(26,false)],[(26,false),(27,false)],[(26,false),(28,false)],[(26,false),(29,false)]] [hB b (cArr x p1 c1)] [] [(30,false)] (zY [0]) ?_ ?_
        · refine O2<|Oq ?_<|Oq ?_<|Oq ?_<|Op<|Oq ?_<|Oq ?_<|O3<|Ox ?_<|Ox ?_<|Oq ?_<|O2<|Oq ?_<|Oq ?_<|Oq ?_<|Oq ?_<|O4<|O4<|O3<|On
          · intro I1 hf ae;refine xD [13] rfl ?_;have H:=iS I1;refine vR (kT x.Name _ ax ) ?_;intro aR le;have H:=H.trans le;exact xY H
          · intro I1 hf ae;refine xD [14] rfl<|mD 4 [(15,.bool (!y))] ?_;rw [aH];exact xY iR
          · intro I1 hf ae;exact I_h [(15,vF)]<|mD 5 [(16,vF)]<|xY iR
          · intro I1 hf ae;refine xD [16,17] rfl<|mD 7 [(18,.bool (decide (t7>0)))] ?_;rw [bf];exact xY iR
          · intro I1 hf ae;exact xD [16,18] rfl<|mD 8 [(19,vY)]<|xY iR
          · intro I1 hf ae;refine xD [19,20,22] rfl ?_;have h:=h.mono ae;refine wA rfl rfl h aE ?_;intro ad1 bo ay aA;obtain ⟨p2,c2,rfl,h3⟩:=wK aA;exact yM [] iR ⟨_,_,_,rfl,rfl,ay,h3⟩
          · rintro I1 hf ae _ _ ⟨rfl,rfl⟩ _ _ ⟨ad1,p2,c2,rfl,rfl,ay,h3⟩;exact xD [19,23] rfl<|mD 13 [(24,.pointer (some ad1))]<|yM [] iR ⟨_,_,_,rfl,rfl,ay,h3⟩
          · rintro I1 hf ae _ _ ⟨rfl,rfl⟩ _ _ ⟨ad11,p21,c21,rfl,rfl,hat11,h31⟩;exact xD [19,24] rfl<|xP 0 hat11 [vT x1.Name.l] (vT x1.Name.l) rfl<|xY iR
          · intro I1 hf ae;refine xD [19,25,27] rfl<|mD 17 [(28,.bool (!(Op.bytesLess x1.Name.l x.Name.l)))] ?_;rw [bG];exact xY iR
          · intro I1 hf ae;exact xD [16,19,28] rfl<|mD 18 [(29,vY)]<|xY iR
          · intro I1 hf ae;exact xD [16,29] rfl<|mD 19 [(30,vY)]<|xY iR
          intro I1 hf ae;exact I_h [(30,vY)]<|mD 20 [(31,vY)]<|xY iR
        intro bv aB;refine xD [0,5,6,7,42] rfl ?_;have H:=H.trans aB;exact zU rfl<|wH zN<|yQ<|zT (ct hM03 H)
       | false =>
        have hM04:=rE bG N;obtain ⟨y1,bj,N⟩:=zB hM04;cases bN:(!y1) with
        | true =>
         have hM05:=qN bN N;refine wV [.p (vP b 0) [],.p (vT x.Name.l) [0],.q (.bool y),.q vF,.q vF,.p (vI t7) [],.q vY,.q vY,.p (vS p list c) [],.p (vI t7) [],.p (vI (W (t7 - 1))) [],.x (ePArr x1),.x (ePArr x1),.q (vT x1.Name.l),.p (vP b 0) [],.p (vT x.Name.l) [0],.q vF,.q vF,.q vF,.q vF,.p (vP b 1) [],.p (vS p1 x.Dims c1) [0],.p (vI (x.Dims.length:Int)) [],.q (.bool y1),.q vY,.q vY,.q vY,.p undef [],.p undef [],.p undef [],.p vY []] [[],[(0,false)],[(1,false)],[(2,false)],[(3,false)],[(4,false)],[(4,false),(5,false)],[(4,false),(6,false)],[(7,false)],[(7,false)],[(7,false),(9,false)],[(7,false),(8,false),(10,false)],[(7,false),(11,false)],[(7,false),(12,false)],[(7,false)],[(7,false),(14,false)],[(7,false),(13,false),(15,false)],[(4,false),(7,false),(16,false)],[(4,false),(17,false)],[(18,false)],[(19,false)],[(19,false),(20,false)],[(19,false),(21,false)],[(19,false),(22,false)],[(19,false),(23,false)],[(19,false),(24,false)],[(25,false)],[(26,false)],[(26,false),(27,false)],[(26,false),(28,false)],[(26,false),(29,false)]] [hB b (cArr x p1 c1)] [] [(30,false)] (zY [0]) ?_ ?_
         · refine O2<|Oq ?_<|Oq ?_<|Oq ?_<|Op<|Oq ?_<|Oq ?_<|O3<|Ox ?_<|Ox ?_<|Oq ?_<|O2<|Oq ?_<|Oq ?_<|Oq ?_<|Oq ?_<|O3<|Oq ?_<|Oq ?_<|Oq ?_<|Oq ?_<|O4<|On
           · intro I1 hf ae;refine xD [13] rfl ?_;have H:=iS I1;refine vR (kT x.Name _ ax ) ?_;intro aR le;have H:=H.trans le;exact xY H
           · intro I1 hf ae;refine xD [14] rfl<|mD 4 [(15,.bool (!y))] ?_;rw [aH];exact xY iR
           · intro I1 hf ae;exact I_h [(15,vF)]<|mD 5 [(16,vF)]<|xY iR
           · intro I1 hf ae;refine xD [16,17] rfl<|mD 7 [(18,.bool (decide (t7>0)))] ?_;rw [bf];exact xY iR
           · intro I1 hf ae;exact xD [16,18] rfl<|mD 8 [(19,vY)]<|xY iR
           · intro I1 hf ae;refine xD [19,20,22] rfl ?_;have h:=h.mono ae;refine wA rfl rfl h aE ?_;intro ad1 bo ay aA;obtain ⟨p2,c2,rfl,h3⟩:=wK aA;exact yM [] iR ⟨_,_,_,rfl,rfl,ay,h3⟩
           · rintro I1 hf ae _ _ ⟨rfl,rfl⟩ _ _ ⟨ad1,p2,c2,rfl,rfl,ay,h3⟩;exact xD [19,23] rfl<|mD 13 [(24,.pointer (some ad1))]<|yM [] iR ⟨_,_,_,rfl,rfl,ay,h3⟩
           · rintro I1 hf ae _ _ ⟨rfl,rfl⟩ _ _ ⟨ad11,p21,c21,rfl,rfl,hat11,h31⟩;exact xD [19,24] rfl<|xP 0 hat11 [vT x1.Name.l] (vT x1.Name.l) rfl<|xY iR
           · intro I1 hf ae;refine xD [19,25,27] rfl<|mD 17 [(28,.bool (!(Op.bytesLess x1.Name.l x.Name.l)))] ?_;rw [bG];exact xY iR
           · intro I1 hf ae;exact xD [16,19,28] rfl<|mD 18 [(29,vF)]<|xY iR
           · intro I1 hf ae;exact xD [16,29] rfl<|mD 19 [(30,vF)]<|xY iR
           · intro I1 hf ae;exact I_h [(30,vF)]<|mD 20 [(31,vF)]<|xY iR
           · intro I1 hf ae;refine xD [31,34] rfl ?_;have H:=iS I1;refine vR (vG (x.Dims.length:Int) 1 2 _ bj ) ?_;intro bH aF;have H:=H.trans aF;exact xY H
           · intro I1 hf ae;refine xD [31,35] rfl<|mD 25 [(36,.bool (!y1))] ?_;rw [bN];exact xY iR
           · intro I1 hf ae;exact xD [31,36] rfl<|mD 26 [(37,vY)]<|xY iR
           intro I1 hf ae;exact I_h [(37,vY)]<|mD 27 [(38,vY)]<|xY iR
         intro bO aX;refine xD [0,5,6,7,42] rfl ?_;have H:=H.trans aX;exact zU rfl<|wH zN<|yQ<|zT (ct hM05 H)
        | false =>
         have hM06:=rE bN N;obtain ⟨y2,bt,N⟩:=zB hM06;refine wV [.p (vP b 0) [],.p (vT x.Name.l) [0],.q (.bool y),.q vF,.q vF,.p (vI t7) [],.q vY,.q vY,.p (vS p list c) [],.p (vI t7) [],.p (vI (W (t7 - 1))) [],.x (ePArr x1),.x (ePArr x1),.q (vT x1.Name.l),.p (vP b 0) [],.p (vT x.Name.l) [0],.q vF,.q vF,.q vF,.q vF,.p (vP b 1) [],.p (vS p1 x.Dims c1) [0],.p (vI (x.Dims.length:Int)) [],.q (.bool y1),.q vF,.q vF,.q vF,.p (vP b 1) [],.p (vS p1 x.Dims c1) [0],.q (.bool y2),.p (.bool y2) []] [[],[(0,false)],[(1,false)],[(2,false)],[(3,false)],[(4,false)],[(4,false),(5,false)],[(4,false),(6,false)],[(7,false)],[(7,false)],[(7,false),(9,false)],[(7,false),(8,false),(10,false)],[(7,false),(11,false)],[(7,false),(12,false)],[(7,false)],[(7,false),(14,false)],[(7,false),(13,false),(15,false)],[(4,false),(7,false),(16,false)],[(4,false),(17,false)],[(18,false)],[(19,false)],[(19,false),(20,false)],[(19,false),(21,false)],[(19,false),(22,false)],[(19,false),(23,false)],[(19,false),(24,false)],[(25,false)],[(26,false)],[(26,false),(27,false)],[(26,false),(28,false)],[(26,false),(29,false)]] [hB b (cArr x p1 c1)] [] [(30,false)] (zY [0]) ?_ ?_
         · refine O2<|Oq ?_<|Oq ?_<|Oq ?_<|Op<|Oq ?_<|Oq ?_<|O3<|Ox ?_<|Ox ?_<|Oq ?_<|O2<|Oq ?_<|Oq ?_<|Oq ?_<|Oq ?_<|O3<|Oq ?_<|Oq ?_<|Oq ?_<|Oq ?_<|O2<|Oq ?_<|Op<|On
           · intro I1 hf ae;refine xD [13] rfl ?_;have H:=iS I1;refine vR (kT x.Name _ ax ) ?_;intro aR le;have H:=H.trans le;exact xY H
           · intro I1 hf ae;refine xD [14] rfl<|mD 4 [(15,.bool (!y))] ?_;rw [aH];exact xY iR
           · intro I1 hf ae;exact I_h [(15,vF)]<|mD 5 [(16,vF)]<|xY iR
           · intro I1 hf ae;refine xD [16,17] rfl<|mD 7 [(18,.bool (decide (t7>0)))] ?_;rw [bf];exact xY iR
           · intro I1 hf ae;exact xD [16,18] rfl<|mD 8 [(19,vY)]<|xY iR
           · intro I1 hf ae;refine xD [19,20,22] rfl ?_;have h:=h.mono ae;refine wA rfl rfl h aE ?_;intro ad1 bo ay aA;obtain ⟨p2,c2,rfl,h3⟩:=wK aA;exact yM [] iR ⟨_,_,_,rfl,rfl,ay,h3⟩
           · rintro I1 hf ae _ _ ⟨rfl,rfl⟩ _ _ ⟨ad1,p2,c2,rfl,rfl,ay,h3⟩;exact xD [19,23] rfl<|mD 13 [(24,.pointer (some ad1))]<|yM [] iR ⟨_,_,_,rfl,rfl,ay,h3⟩
           · rintro I1 hf ae _ _ ⟨rfl,rfl⟩ _ _ ⟨ad11,p21,c21,rfl,rfl,hat11,h31⟩;exact xD [19,24] rfl<|xP 0 hat11 [vT x1.Name.l] (vT x1.Name.l) rfl<|xY iR
           · intro I1 hf ae;refine xD [19,25,27] rfl<|mD 17 [(28,.bool (!(Op.bytesLess x1.Name.l x.Name.l)))] ?_;rw [bG];exact xY iR
           · intro I1 hf ae;exact xD [16,19,28] rfl<|mD 18 [(29,vF)]<|xY iR
           · intro I1 hf ae;exact xD [16,29] rfl<|mD 19 [(30,vF)]<|xY iR
           · intro I1 hf ae;exact I_h [(30,vF)]<|mD 20 [(31,vF)]<|xY iR
           · intro I1 hf ae;refine xD [31,34] rfl ?_;have H:=iS I1;refine vR (vG (x.Dims.length:Int) 1 2 _ bj ) ?_;intro bH aF;have H:=H.trans aF;exact xY H
           · intro I1 hf ae;refine xD [31,35] rfl<|mD 25 [(36,.bool (!y1))] ?_;rw [bN];exact xY iR
           · intro I1 hf ae;exact xD [31,36] rfl<|mD 26 [(37,vF)]<|xY iR
           · intro I1 hf ae;exact I_h [(37,vF)]<|mD 27 [(38,vF)]<|xY iR
           intro I1 hf ae;refine xD [38,40] rfl ?_;have H:=iS I1;have ⟨h,h1⟩:=m2 ae h h1;have hf0:FV1 Tryz.prog I1 [] (.func (.func 96) ⟨[]⟩ ⟨[]⟩) sL:=by
             refine FV1.intro ?_;intro I1 ae x0 r u0 hF k0;obtain rfl:=k0;exact (zB7 x0 r hF ).mono (by rintro k i hs u ⟨v0,rfl,rfl,h⟩; exact ⟨rfl,h⟩)
           refine xJ (qQ x.Dims sL _ bt h1 hf0) ?_;rintro I06 av v2 k2 bi - ⟨v04,rfl,rfl,rfl⟩ -;have H:=H.trans bi;exact xY H
         intro I07 bB;refine xD [0,5,6,7,42] rfl ?_;have H:=H.trans bB;exact zU rfl<|wH zN<|yQ<|zT (ct N H)
      | false =>
       have hM07:=rE bf hM01;obtain ⟨y3,bD,N⟩:=zB hM07;cases hc5:(!y3) with
       | true =>
        have hM08:=qN hc5 N;refine wV [.p (vP b 0) [],.p (vT x.Name.l) [0],.q (.bool y),.q vF,.q vF,.p (vI t7) [],.q vF,.q vF,.p undef [],.p undef [],.p undef [],.p undef [],.p undef [],.p undef [],.p undef [],.p undef [],.p undef [],.p vF [],.p vF [],.p vF [],.p (vP b 1) [],.p (vS p1 x.Dims c1) [0],.p (vI (x.Dims.length:Int)) [],.q (.bool y3),.q vY,.q vY,.q vY,.p undef [],.p undef [],.p undef [],.p vY []] [[],[(0,false)],[(1,false)],[(2,false)],[(3,false)],[(4,false)],[(4,false),(5,false)],[(4,false),(6,false)],[(7,false)],[(7,false)],[(7,false),(9,false)],[(7,false),(8,false),(10,false)],[(7,false),(11,false)],[(7,false),(12,false)],[(7,false)],[(7,false),(14,false)],[(7,false),(13,false),(15,false)],[(4,false),(7,false),(16,false)],[(4,false),(17,false)],[(18,false)],[(19,false)],[(19,false),(20,false)],[(19,false),(21,false)],[(19,false),(22,false)],[(19,false),(23,false)],[(19,false),(24,false)],[(25,false)],[(26,false)],[(26,false),(27,false)],[(26,false),(28,false)],[(26,false),(29,false)]] [hB b (cArr x p1 c1)] [] [(30,false)] (zY [0]) ?_ ?_
        · refine O2<|Oq ?_<|Oq ?_<|Oq ?_<|Op<|Oq ?_<|Oq ?_<|O4<|O4<|O4<|O3<|Oq ?_<|Oq ?_<|Oq ?_<|Oq ?_<|O4<|On
          · intro I1 hf ae;refine xD [13] rfl ?_;have H:=iS I1;refine vR (kT x.Name _ ax ) ?_;intro aR le;have H:=H.trans le;exact xY H
          · intro I1 hf ae;refine xD [14] rfl<|mD 4 [(15,.bool (!y))] ?_;rw [aH];exact xY iR
          · intro I1 hf ae;exact I_h [(15,vF)]<|mD 5 [(16,vF)]<|xY iR
          · intro I1 hf ae;refine xD [16,17] rfl<|mD 7 [(18,.bool (decide (t7>0)))] ?_;rw [bf];exact xY iR
          · intro I1 hf ae;exact xD [16,18] rfl<|mD 8 [(19,vF)]<|xY iR
          · intro I1 hf ae;refine xD [31,34] rfl ?_;have H:=iS I1;refine vR (vG (x.Dims.length:Int) 1 2 _ bD ) ?_;intro I08 le7;have H:=H.trans le7;exact xY H
          · intro I1 hf ae;refine xD [31,35] rfl<|mD 25 [(36,.bool (!y3))] ?_;rw [hc5];exact xY iR
          · intro I1 hf ae;exact xD [31,36] rfl<|mD 26 [(37,vY)]<|xY iR
          intro I1 hf ae;exact I_h [(37,vY)]<|mD 27 [(38,vY)]<|xY iR
        intro I09 le8;refine xD [0,5,6,7,42] rfl ?_;have H:=H.trans le8;exact zU rfl<|wH zN<|yQ<|zT (ct hM08 H)
       | false =>
        have hM09:=rE hc5 N;obtain ⟨y4,hy6,N⟩:=zB hM09;refine wV [.p (vP b 0) [],.p (vT x.Name.l) [0],.q (.bool y),.q vF,.q vF,.p (vI t7) [],.q vF,.q vF,.p undef [],.p undef [],.p undef [],.p undef [],.p undef [],.p undef [],.p undef [],.p undef [],.p undef [],.p vF [],.p vF [],.p vF [],.p (vP b 1) [],.p (vS p1 x.Dims c1) [0],.p (vI (x.Dims.length:Int)) [],.q (.bool y3),.q vF,.q vF,.q vF,.p (vP b 1) [],.p (vS p1 x.Dims c1) [0],.q (.bool y4),.p (.bool y4) []] [[],[(0,false)],[(1,false)],[(2,false)],[(3,false)],[(4,false)],[(4,false),(5,false)],[(4,false),(6,false)],[(7,false)],[(7,false)],[(7,false),(9,false)],[(7,false),(8,false),(10,false)],[(7,false),(11,false)],[(7,false),(12,false)],[(7,false)],[(7,false),(14,false)],[(7,false),(13,false),(15,false)],[(4,false),(7,false),(16,false)],[(4,false),(17,false)],[(18,false)],[(19,false)],[(19,false),(20,false)],[(19,false),(21,false)],[(19,false),(22,false)],[(19,false),(23,false)],[(19,false),(24,false)],[(25,false)],[(26,false)],[(26,false),(27,false)],[(26,false),(28,false)],[(26,false),(29,false)]] [hB b (cArr x p1 c1)] [] [(30,false)] (zY [0]) ?_ ?_
        · refine O2<|Oq ?_<|Oq ?_<|Oq ?_<|Op<|Oq ?_<|Oq ?_<|O4<|O4<|O4<|O3<|Oq ?_<|Oq ?_<|Oq ?_<|Oq ?_<|O2<|Oq ?_<|Op<|On
          · intro I1 hf ae;refine xD [13] rfl ?_;have H:=iS I1;refine vR (kT x.Name _ ax ) ?_;intro aR le;have H:=H.trans le;exact xY H
          · intro I1 hf ae;refine xD [14] rfl<|mD 4 [(15,.bool (!y))] ?_;rw [aH];exact xY iR
          · intro I1 hf ae;exact I_h [(15,vF)]<|mD 5 [(16,vF)]<|xY iR
          · intro I1 hf ae;refine xD [16,17] rfl<|mD 7 [(18,.bool (decide (t7>0)))] ?_;rw [bf];exact xY iR
          · intro I1 hf ae;exact xD [16,18] rfl<|mD 8 [(19,vF)]<|xY iR
          · intro I1 hf ae;refine xD [31,34] rfl ?_;have H:=iS I1;refine vR (vG (x.Dims.length:Int) 1 2 _ bD ) ?_;intro I08 le7;have H:=H.trans le7;exact xY H
          · intro I1 hf ae;refine xD [31,35] rfl<|mD 25 [(36,.bool (!y3))] ?_;rw [hc5];exact xY iR
          · intro I1 hf ae;exact xD [31,36] rfl<|mD 26 [(37,vF)]<|xY iR
          · intro I1 hf ae;exact I_h [(37,vF)]<|mD 27 [(38,vF)]<|xY iR
          intro I1 hf ae;refine xD [38,40] rfl ?_;have H:=iS I1;have ⟨h,h1⟩:=m2 ae h h1;have hf01:FV1 Tryz.prog I1 [] (.func (.func 96) ⟨[]⟩ ⟨[]⟩) sL:=by
            refine FV1.intro ?_;intro I1 ae x0 r u0 hF k0;obtain rfl:=k0;exact (zB7 x0 r hF ).mono (by rintro k i hs u ⟨v0,rfl,rfl,h⟩; exact ⟨rfl,h⟩)
          refine xJ (qQ x.Dims sL _ hy6 h1 hf01) ?_;rintro bL av v2 k2 le9 - ⟨v06,rfl,rfl,rfl⟩ -;have H:=H.trans le9;exact xY H
        intro bW le10;refine xD [0,5,6,7,42] rfl ?_;have H:=H.trans le10;exact zU rfl<|wH zN<|yQ<|zT (ct N H)
   intro t42 I0 le11 aT;have ⟨h,H⟩:=m2 le11 h H;refine zK<|yE aT ?_ ?_
   · intro hc6 N;exact vK [(2,vF)]<|xL<|zV<|zI<|zI<|hr _ _ _ _ (zE N).symm H ⟨_,_,(resT rfl),zN,⟨_,rfl,rfl,rfl⟩⟩
   intro hc6 N;exact zS<|zP<|zK<|zM<|yL [] [7] rfl<|yX<|mC<|ih (W (t7+1)) _ N H h hg ho hx hr
 intro hc N;exact vC<|yQ<|hx _  (zE N).symm H
def dD (list:(List zD)):Option (Bool):=do
 match<-oD list 0 with
 | .ret r0=>pure r0
 | .done _ =>
  pure (decide ((list.length:Int)<=4))
theorem zGf:∀ list r,dD list=some r->∀ {I:Imm}{p c},(S4 I p list c)->RT 57 [vS p list c] I [] (zQ  r):=by
 intro list r N I p c h;unfold dD at N;refine yJ func57 fun B=>vK []<|zZ<|yI [5,6,7] rfl<|wQ<|pM [(0,vS p list c),(5,vS p list c),(6,vI (list.length:Int)),(7,vI 0)] ?_;obtain ⟨aL,aC,aG⟩:=zB N;refine zEX list 0 aL aC iR h nG nO ?_ ?_
 · intro bS  heq1 le12;subst aL;refine zR<|uJ [2] rfl<|zK<|xF ?_;obtain rfl:=zE aG;exact vZ
 intro r0 I9 hs9 m9 aY le9 aZ;subst aY;refine zV<|zI ?_;obtain rfl:=zE aG;exact dB aZ
def pY (aD:List HA) (r:Int):KT:=fun kk I' ah v=>
  ∃ v0,aD=ah/\v=tupV [v0]/\v0=.int .i64 r
def xS (s:(List zA)) (f0:(zA->Option Bool)) (t8:Int):Option (Out Unit (Int)):=do
 if (decide (t8<(s.length:Int))) then
  let x<-idx s t8;let y<-f0 x;if y then pure (.ret t8)
  else xS s f0 (W (t8+1))
 else pure (.done ())
 partial_fixpoint
theorem fG (s:(List zA)) (f0:(zA->Option Bool)):∀ (t8:Int) (o:Out Unit (Int)),xS s f0 t8=some o->∀ {B}{I0 I:Imm}{Q p c}{fv:Value}{aD:List HA},I0.le I->(S4 I p s c)->(FV1 Tryz.prog I aD fv f0)->NG Q->NO Q->(∀ I',o=(.done ())->I0.le I'->T 19 B Q (.exit 0) I' aD [])->(∀ r I' ah m',o=(.ret r)->I0.le I'->RS Tryz.prog f175 B (pY aD r) I' ah m'->T 19 B Q .ret I' ah m')->J Tryz.prog 19 B (nav (bodyOf f175) [1,0,1,0]) Q I aD [(0,vS p s c),(1,fv),(7,vI (s.length:Int)),(8,vI t8)]:=by
 refine xS.partial_correctness s f0 _ fun aJ ih t8 o N B I0 I Q p c fv aD H h h1 hg ho hx hr=>yZ hg ho<|yI [9] rfl<|zZ<|yE N ?_ ?_
 · intro hc N;refine zS<|zZ<|yH<|yI [5] rfl<|yT<|yD 3 [] [11,12,13] rfl<|bE N fun x hy N=>wA rfl rfl h hy ?_;intro ad aK ap al;obtain ⟨p1,c1,rfl,h2⟩:=yG al;refine xP 0 ap (cAff x p1 c1) (vA (cAff x p1 c1)) rfl<|bE N fun y ax N=>zKT rfl rfl h1 ax ⟨_,rfl,(yK ⟨_,rfl,h2⟩)⟩ (co _).symm ?_;rintro I0 v01 le rfl;refine vQ (ah:=aD) (co _) ?_;have ⟨h,h1,H⟩:=m3 le h h1 H;refine zU rfl<|zK<|yE N ?_ ?_
   · intro aH N;exact yI [4] rfl<|xL<|zV<|zI<|zI<|hr _ _ _ _ (zE N).symm H ⟨_,_,(resT rfl),(fun _ h=>h),⟨_,rfl,rfl,rfl⟩⟩
   intro aH N;exact zS<|zP<|zK<|zM<|yL [] [8] rfl<|yX<|mC<|ih (W (t8+1)) _ N H h h1 hg ho hx hr
 intro hc N;exact vC<|yQ<|hx _  (zE N).symm H
def uD (s:(List zA)) (f0:(zA->Option Bool)):Option (Int):=do
 match<-xS s f0 0 with
 | .ret r0=>pure r0
 | .done _ =>
  pure (-1)
theorem eG:∀ s f0 r,uD s f0=some r->∀ {I:Imm}{p c}{fv:Value}{aD:List HA},(S4 I p s c)->(FV1 Tryz.prog I aD fv f0)->RT 175 [vS p s c,fv] I aD (pY aD r):=by
 intro s f0 r N I p c fv aD h h1;unfold uD at N;refine yJ func175 fun B=>vK []<|zZ<|yI [7,8] rfl<|wQ<|pM [(0,vS p s c),(1,fv),(7,vI (s.length:Int)),(8,vI 0)] ?_;obtain ⟨o0,az,aG⟩:=zB N;refine fG s f0 0 o0 az iR h h1 nG nO ?_ ?_
 · intro aR  heq ae;subst o0;refine zR<|uJ [4] rfl<|zK<|xF ?_;exact xO aG (resT rfl) (fun _ h=>h) ⟨_,rfl,rfl,rfl⟩
 intro r0 I9 hs9 m9 aY le9 aZ;subst aY;refine zV<|zI ?_;obtain rfl:=zE aG;exact dB aZ
def gF (aD:List HA) (r:Bool):KT:=fun kk I' ah v=>
  ∃ v0,aD=ah/\v=tupV [v0]/\v0=.bool r
def wE (s:(List zA)) (f0:(zA->Option Bool)):Option (Bool):=do
 let y<-uD s f0;pure (decide (y>=0))
theorem pQ:∀ s f0 r,wE s f0=some r->∀ {I:Imm}{p c}{fv:Value}{aD:List HA},(S4 I p s c)->(FV1 Tryz.prog I aD fv f0)->RT 140 [vS p s c,fv] I aD (gF aD r):=by
 intro s f0 r N I p c fv aD h h1;unfold wE at N;refine yJ func140 fun B=>vK []<|yT<|yD 2 [] [5,6] rfl<|bE N fun y hy N=>zG1 (hs1:=aD) (rest:=[]) rfl rfl rfl rfl (by kernel_rfl) rfl (co _).symm (eG s f0 _ hy h h1) ?_;rintro I0 av v2 k2 le - ⟨v0,rfl,rfl,rfl⟩ -;refine vQ (ah:=aD) (co _) ?_;refine yL [] [4] rfl<|zK<|xF ?_;exact xO N (resT rfl) (fun _ h=>h) ⟨_,rfl,rfl,rfl⟩
def yR (r:Int):KT:=fun kk I' ah v=>
  ∃ v0,ah=[]/\v=tupV [v0]/\v0=.int .i64 r
def sX (a0:zA) (n0:Int):Option (Int):=do
 let t17<-(do
   if (decide (n0>0)) then
    let x<-idx a0.Coefs (W (n0 - 1));pure (x==0)
   else
    pure false
     : Option Bool)
 if t17 then sX a0 (W (n0 - 1))
 else pure (id n0)
 partial_fixpoint
theorem zC0 (a0:zA):∀ (n0:Int) (o:Int),sX a0 n0=some o->∀ {B}{I0 I:Imm}{Q p c}{b},I0.le I->(S4 I p a0.Coefs c)->NG Q->NO Q->(∀ I' n01,o=n01->I0.le I'->T 21 B Q (.exit 0) I' [] [(3,vI n01)])->J Tryz.prog 21 B (nav (bodyOf f123) [1,1,0,0]) Q I [hB b (cAff a0 p c)] [(1,vP b 0),(3,vI n0)]:=by
 refine sX.partial_correctness a0 _ fun aJ ih n0 o N B I0 I Q p c b H h hg ho hx=>yZ hg ho<|yC<|yC ?_;refine wU N [hB b (cAff a0 p c)] (fun t17=>[(1,vP b 0),(3,vI n0),(17,.bool t17)]) (fun o0 az=>?_) ?_
 · have H:=iS I;refine zM<|yD 3 [] [9] rfl<|wD [9] az ?_ ?_
   · intro hc N;refine yD 7 [0] [11,13] rfl<|bE N fun x hy N=>wA rfl rfl h hy ?_;intro ad aK ap al;obtain rfl:=al;exact xP 0 ap [vI x] (vI x) rfl<|yL [] [17] rfl<|yQ<|zT (ct N H)
   intro hc N;exact wT [] [(17,vF)]<|yQ<|zT (ct N H)
 intro t17 I0 le aT;have ⟨h,H⟩:=m2 le h H;refine zK<|yE aT ?_ ?_
 · intro aH N;exact zS<|wQ<|zM<|yL [] [3] rfl<|zP<|yX<|mC<|ih (W (n0 - 1)) _ N H h hg ho hx
 intro aH N;exact vC<|wH zN<|yQ<|hx _ _ (zE N).symm H
def rM (a0:zA):Option (Int):=do
 let n01<-sX a0 (a0.Coefs.length:Int);pure (id n01)
theorem gT:∀ a0 r,rM a0=some r->∀ {I:Imm}{p c},(S4 I p a0.Coefs c)->RT 123 [vA (cAff a0 p c)] I [] (yR  r):=by
 intro a0 r N I p c h;unfold rM at N;refine yJ func123 fun B=>yA<|vD (cAff a0 p c) ?_;intro b hb;refine wT [] []<|yT<|yL [0] [3] rfl<|zZ<|yH<|pM [(1,vP b 0),(3,vI (a0.Coefs.length:Int))] ?_;obtain ⟨aL,aC,aG⟩:=zB N;refine zC0 a0 (a0.Coefs.length:Int) aL aC iR h nG nO ?_;intro aR n01 heq1 ae;subst aL;refine zR<|uJ [2] rfl<|zK<|xF ?_;obtain rfl:=zE aG;exact vZ
def zAf (n0:Int):Option (Bool):=do
 let y<-wW n0 (-99) 99;pure (id y)
theorem zHP:∀ n0 r,zAf n0=some r->∀ {I:Imm} ,RT 176 [vI n0] I [] (zQ  r):=by
 intro n0 r N I;unfold zAf at N;refine yJ func176 fun B=>vK []<|yT<|yD 1 [] [3] rfl<|bE N fun y hy N=>vR (vG n0 (-99) 99 _ hy ) fun I0 le=>wT [] [(2,.bool y)]<|zK<|xF ?_;obtain rfl:=zE N;exact vZ
def qE (c:Int):Option (Bool):=do
 let y<-wW c (-9) 9;pure (!y)
theorem zDZ:∀ c r,qE c=some r->∀ {I:Imm} ,RT 177 [vI c] I [] (zQ  r):=by
 intro c r N I;unfold qE at N;refine yJ func177 fun B=>vK []<|yT<|yD 1 [] [3] rfl<|bE N fun y hy N=>vR (vG c (-9) 9 _ hy ) fun I0 le=>wT [] [(2,.bool (!y))]<|zK<|xF ?_;obtain rfl:=zE N;exact vZ
def oE (a0:zA):Option (Bool):=do
 let t2<-(do
   if ((a0.Coefs.length:Int)==4) then
    let y<-zAf a0.Const;if y then
     let y1<-wG a0.Coefs qE;pure (!y1)
    else pure false
   else
    pure false
     : Option Bool)
 pure (id t2)
theorem kZ:∀ a0 r,oE a0=some r->∀ {I:Imm}{p c},(S4 I p a0.Coefs c)->RT 142 [vA (cAff a0 p c)] I [] (zQ  r):=by
 intro a0 r N I p c h;unfold oE at N;refine yJ func142 fun B=>?_;have H:=iS I;refine yA<|vD (cAff a0 p c) ?_;intro b hb;refine wT [] []<|zK<|yC ?_;refine wU N [] (fun t2=>[(2,.bool t2)]) (fun o0 az=>?_) ?_
 · have H:=iS I;refine zM<|yD 5 [0] [7] rfl<|wD [7] az ?_ ?_
   · intro hc N;refine yD 7 [0] [9] rfl<|bE N fun y hy N=>vR (zHP a0.Const _ hy ) ?_;intro aR le;have ⟨h,H⟩:=m2 le h H;refine yD 10 [] [12] rfl<|wD [12] N ?_ ?_
     · intro aH N;refine yD 12 [0] [14] rfl ?_;have hf0:FV1 Tryz.prog aR [] (.func (.func 177) ⟨[]⟩ ⟨[]⟩) qE:=by
         refine FV1.intro ?_;intro I1 ae x0 r u0 hF k0;obtain rfl:=k0;exact (zDZ x0 r hF ).mono (by rintro k i hs u ⟨v0,rfl,rfl,h⟩; exact ⟨rfl,h⟩)
       obtain ⟨y1,ax,N⟩:=zB N;refine xJ (qQ a0.Coefs qE _ ax h hf0) ?_;rintro aV av v2 k2 ae - ⟨v01,rfl,rfl,rfl⟩ -;have H:=H.trans ae;exact yL [] [2] rfl<|wH zN<|yQ<|zT (ct N H)
     intro aH N;exact wT [] [(2,vF)]<|wH zN<|yQ<|zT (ct N H)
   intro hc N;exact wT [] [(2,vF)]<|wH zN<|yQ<|zT (ct N H)
 intro t2 I0 aB aT;refine zK<|xF ?_;obtain rfl:=zE aT;exact vZ
def pI (a0:zA) (x:Int):Option (Bool):=do
 let t3<-(do
   let y<-oE a0;if (!y) then pure true
   else
    let y1<-rM a0;pure (decide (y1>x))
     : Option Bool)
 pure (id t3)
theorem zEw:∀ a0 x r,pI a0 x=some r->∀ {I:Imm}{p c}{ad:Addr},(S4 I p a0.Coefs c)->(At I ad [vI x])->RT 174 [vA (cAff a0 p c),.pointer (some ad)] I [] (zQ  r):=by
 intro a0 x r N I p c ad h ap;unfold pI at N;refine yJ func174 fun B=>?_;have H:=iS I;refine yA<|vD (cAff a0 p c) ?_;intro b hb;refine wT [] []<|zK<|yC ?_;refine wU N [] (fun t3=>[(3,.bool t3)]) (fun o0 az=>?_) ?_
 · have H:=iS I;obtain ⟨y,hy,N⟩:=zB az;cases hc:(!y) with
   | true =>
    have hM0:=qN hc N;refine wV [.p (vA (cAff a0 p c)) [0],.q (.bool y),.q vY,.q vY,.p undef [],.p undef [],.p undef [],.p undef [],.p vY []] [[],[(0,false)],[(1,false)],[(2,false)],[(3,false)],[(3,false),(4,false)],[(3,false)],[(3,false),(5,false),(6,false)],[(3,false),(7,false)]] [hB b (cAff a0 p c)] [] [(8,false)] (zY [0]) ?_ ?_
    · refine Op<|Oq ?_<|Oq ?_<|Oq ?_<|O4<|Op<|On
      · intro I1 hf ae;refine xD [4] rfl ?_;have H:=iS I1;have h:=h.mono ae;refine vR (kZ a0 _ hy h) ?_;intro aR le;have H:=H.trans le;exact xY H
      · intro I1 hf ae;refine xD [5] rfl<|mD 3 [(6,.bool (!y))] ?_;rw [hc];exact xY iR
      intro I1 hf ae;exact I_h [(6,vY)]<|mD 4 [(7,vY)]<|xY iR
    intro aV ae;refine I_h [(12,vY)] ?_;have H:=H.trans ae;exact wT [] [(3,vY)]<|wH zN<|yQ<|zT (ct hM0 H)
   | false =>
    have hM01:=rE hc N;obtain ⟨y1,ax,N⟩:=zB hM01;refine wV [.p (vA (cAff a0 p c)) [0],.q (.bool y),.q vF,.q vF,.p (vA (cAff a0 p c)) [0],.q (vI y1),.q (vI x),.p (.bool (decide (y1>x))) [],.p (.bool (decide (y1>x))) []] [[],[(0,false)],[(1,false)],[(2,false)],[(3,false)],[(3,false),(4,false)],[(3,false)],[(3,false),(5,false),(6,false)],[(3,false),(7,false)]] [hB b (cAff a0 p c)] [] [(8,false)] (zY [0]) ?_ ?_
    · refine Op<|Oq ?_<|Oq ?_<|Oq ?_<|Op<|Oq ?_<|Oq ?_<|O2<|On
      · intro I1 hf ae;refine xD [4] rfl ?_;have H:=iS I1;have h:=h.mono ae;refine vR (kZ a0 _ hy h) ?_;intro aR le;have H:=H.trans le;exact xY H
      · intro I1 hf ae;refine xD [5] rfl<|mD 3 [(6,.bool (!y))] ?_;rw [hc];exact xY iR
      · intro I1 hf ae;exact I_h [(6,vF)]<|mD 4 [(7,vF)]<|xY iR
      · intro I1 hf ae;refine xD [7,8] rfl ?_;have H:=iS I1;have h:=h.mono ae;refine dL (gT a0 _ ax h) ?_;intro bv aB;have H:=H.trans aB;exact xY H
      intro I1 hf ae;refine xD [1,7] rfl ?_;have ap:=ap.mono ae;exact xP 0 ap [vI x] (vI x) rfl<|xY iR
    intro bH aF;refine xD [12] rfl ?_;have H:=H.trans aF;exact yL [] [3] rfl<|wH zN<|yQ<|zT (ct N H)
 intro t3 I0 aX aT;refine zK<|xF ?_;obtain rfl:=zE aT;exact vZ
def gK (list:(List zA)) (aa:Int):Option (Bool):=do
 let t4<-(do
   let y<-wW (list.length:Int) 1 2;if y then
    let y1<-wE list (fun x0=>pI x0 aa);pure (!y1)
   else
    pure false
     : Option Bool)
 pure (id t4)
theorem zC1:∀ list aa r,gK list aa=some r->∀ {I:Imm}{p c},(S4 I p list c)->RT 138 [vS p list c,vI aa] I [] (zQ  r):=by
 intro list aa r N I p c h;unfold gK at N;refine yJ func138 fun B=>?_;have H:=iS I;refine yA<|vD [vI aa] ?_;intro b hb;refine wC 0 rfl ?_;intro I0 le hl0;have ap:At I0 ⟨b,0,none⟩ [vI aa]:=At.of_blk hl0;have ⟨h,H⟩:=m2 le h H;refine wT [] []<|zK<|yC ?_;refine wU N [] (fun t4=>[(4,.bool t4)]) (fun o0 az=>?_) ?_
 · have H:=iS I0;refine zM<|yD 2 [] [6] rfl ?_;obtain ⟨y,hy,N⟩:=zB az;refine vR (vG (list.length:Int) 1 2 _ hy ) ?_;intro aV ae;have ⟨h,ap,H⟩:=m3 ae h ap H;refine yD 4 [] [8] rfl<|wD [8] N ?_ ?_
   · intro hc N;refine yD 6 [] [9,10] rfl ?_;have hf0:FV1 Tryz.prog aV [] (.func (.func 174) ⟨[]⟩ ⟨[vP b 0]⟩) (fun x0=>pI x0 aa):=by
       refine FV1.intro ?_;intro I1 ae x0 r u0 hF k0;obtain ⟨_,rfl,k0⟩:=k0;obtain ⟨p1,c1,rfl,h2⟩:=yG k0;exact (zEw x0 aa r hF h2 (ap.mono ae)).mono (by rintro k i hs u ⟨v0,rfl,rfl,h⟩; exact ⟨rfl,h⟩)
     obtain ⟨y1,ax,N⟩:=zB N;refine xJ (pQ list (fun x0=>pI x0 aa) _ ax h hf0) ?_;rintro bv av v2 k2 aB - ⟨v02,rfl,rfl,rfl⟩ -;have H:=H.trans aB;exact yL [] [4] rfl<|yQ<|zT (ct N H)
   intro hc N;exact wT [] [(4,vF)]<|yQ<|zT (ct N H)
 intro t4 aR aF aT;refine zK<|xF ?_;obtain rfl:=zE aT;exact vZ
def pA (nest:(List zF)) (t7:Int):Option (Out Unit (Bool)):=do
 if (decide (t7<(nest.length:Int))) then
  let x<-idx nest t7;let t23<-(do
    let y<-gK x.Lo t7;if (!y) then pure true
    else
     let y1<-gK x.Hi t7;pure (!y1)
      : Option Bool)
  if t23 then pure (.ret false)
  else pA nest (W (t7+1))
 else pure (.done ())
 partial_fixpoint
theorem zDg (nest:(List zF)):∀ (t7:Int) (o:Out Unit (Bool)),pA nest t7=some o->∀ {B}{I0 I:Imm}{Q p c},I0.le I->(S4 I p nest c)->NG Q->NO Q->(∀ I',o=(.done ())->I0.le I'->T 28 B Q (.exit 0) I' [] [(0,vS p nest c)])->(∀ r I' ah m',o=(.ret r)->I0.le I'->RS Tryz.prog f97 B (zQ  r) I' ah m'->T 28 B Q .ret I' ah m')->J Tryz.prog 28 B (nav (bodyOf f97) [1,0,1,0]) Q I [] [(0,vS p nest c),(5,vS p nest c),(6,vI (nest.length:Int)),(7,vI t7)]:=by
 refine pA.partial_correctness nest _ fun aJ ih t7 o N B I0 I Q p c H h hg ho hx hr=>yZ hg ho<|yI [8] rfl<|zZ<|yE N ?_ ?_
 · intro hc N;refine zS<|zZ<|yH<|yA<|yD 1 [] [9] rfl<|bE N fun x hy N=>wA rfl rfl h hy ?_;intro ad aK ap al;obtain ⟨p1,c1,p2,c2,rfl,h1,h2⟩:=vJ al;refine xP 0 ap (cLoop x p1 c1 p2 c2) (vA (cLoop x p1 c1 p2 c2)) rfl<|xU zTwo ?_;intro b hb;refine yD 5 [] [3] rfl<|yS 0 (cLoop x p1 c1 p2 c2) rfl<|zU rfl<|zK<|yC ?_;refine wU N [] (fun t23=>[(0,vS p nest c),(5,vS p nest c),(6,vI (nest.length:Int)),(7,vI t7),(23,.bool t23)]) (fun o0 az=>?_) ?_
   · have H:=iS I;refine zM<|yD 3 [0] [13,14] rfl ?_;obtain ⟨y,ax,N⟩:=zB az;refine vR (zC1 x.Lo t7 _ ax h1) ?_;intro aR le;have ⟨h2,H⟩:=m2 le h2 H;refine yD 6 [] [17] rfl<|wD [17] N ?_ ?_
     · intro aH N;exact wT [] [(23,vY)]<|wH zN<|yQ<|zT (ct N H)
     intro aH N;refine yD 9 [0] [19,20] rfl<|bE N fun y1 aE N=>vR (zC1 x.Hi t7 _ aE h2) ?_;intro aV ae;have H:=H.trans ae;exact yL [] [23] rfl<|wH zN<|yQ<|zT (ct N H)
   intro t23 I0 aB aT;have ⟨h,H⟩:=m2 aB h H;refine zK<|yE aT ?_ ?_
   · intro bf N;exact vK [(2,vF)]<|xL<|zV<|zI<|zI<|hr _ _ _ _ (zE N).symm H ⟨_,_,(resT rfl),zN,⟨_,rfl,rfl,rfl⟩⟩
   intro bf N;exact zS<|zP<|zK<|zM<|yL [] [7] rfl<|yX<|mC<|ih (W (t7+1)) _ N H h hg ho hx hr
 intro hc N;exact vC<|yQ<|hx _  (zE N).symm H
def fU (nest:(List zF)):Option (Bool):=do
 match<-pA nest 0 with
 | .ret r0=>pure r0
 | .done _ =>
  pure (decide ((nest.length:Int)<=4))
theorem zFe:∀ nest r,fU nest=some r->∀ {I:Imm}{p c},(S4 I p nest c)->RT 97 [vS p nest c] I [] (zQ  r):=by
 intro nest r N I p c h;unfold fU at N;refine yJ func97 fun B=>vK []<|zZ<|yI [5,6,7] rfl<|wQ<|pM [(0,vS p nest c),(5,vS p nest c),(6,vI (nest.length:Int)),(7,vI 0)] ?_;obtain ⟨aL,aC,aG⟩:=zB N;refine zDg nest 0 aL aC iR h nG nO ?_ ?_
 · intro bv  heq1 aF;subst aL;refine zR<|uJ [2] rfl<|zK<|xF ?_;obtain rfl:=zE aG;exact vZ
 intro r0 I9 hs9 m9 aY le9 aZ;subst aY;refine zV<|zI ?_;obtain rfl:=zE aG;exact dB aZ
def zBp (r:List Int):KT:=fun kk I' ah v=>
  ∃ a0 c0 s0,ah=[.osl (.slice a0 r.length c0) (Rp.sz Int) s0]/\v=tupV [(.slice a0 r.length c0)]/\RepL (Rp.rep I') (Rp.sz Int) s0 r
def uE (s:List Int):Option (List Int):=app 8 ([]:List Int) s
theorem oL:∀ s r,uE s=some r->∀ {I:Imm}{p c},SL I (vS p s c) s->RT 64 [vS p s c] I [] (zBp r):=by
 intro s r N I p c h;unfold uE at N;obtain ⟨aK,k0,k01⟩:=h;refine yJ func64 fun B=>?_;cases p with
 | none =>
  have hs:s=[]:=by
    rcases k0 with ⟨hv,rfl⟩ | ⟨b0,off,len,cap,cc,hv,k2⟩
    · cases s with
      | nil=>rfl
      | cons _ _=>simp at hv
    simp at hv
  subst hs;obtain ⟨_,rfl⟩:=zBF N;refine yI [0,2] rfl<|zZ<|yA<|yD 1 [] [3] rfl<|zPE true rfl rfl ?_ rfl;exact wT [] [(4,vY)]<|zK<|zDb rfl<|vK [(2,z0)]<|xL<|zI<|wH (fS (Rp.sz Int))<|zHO (resT rfl) (zW [0] rfl (by decide)) ⟨none,0,[],rfl,rfl,rfl⟩
 | some ad =>
  refine yI [0,2] rfl<|zZ<|yA<|yD 1 [] [3] rfl<|zPE false rfl rfl ?_ rfl;refine yL [] [0,4] rfl<|zK<|zBV rfl<|zS<|yT<|tK [] Int ?_;intro b2 hb2;have h1:RL I [] ([]:List Int):=rfl;exact yD 2 [] [6] rfl<|qA 3 1 0 rfl rfl rfl h1 (.inl k0) k01 N fun p1 c1 cs h2=>yL [] [2] rfl<|xL<|zHO (resT rfl) (zW [0] rfl (by decide)) ⟨_,_,_,rfl,rfl,h2⟩
def rQ (a0:zA) (ag:(List Int)) (sum:Int) (t12:Int):Option (Int):=do
 if (decide (t12<(ag.length:Int))) then
  let x<-idx ag t12;let x1<-idx a0.Coefs t12;rQ a0 ag (W (sum+(W (x1*x)))) (W (t12+1))
 else pure (id sum)
 partial_fixpoint
theorem zCu (a0:zA) (ag:(List Int)):∀ (sum:Int) (t12:Int) (o:Int),rQ a0 ag sum t12=some o->∀ {B}{I0 I:Imm}{Q p c p1 c1}{b},I0.le I->(S4 I p1 ag c1)->(S4 I p a0.Coefs c)->NG Q->NO Q->(∀ I' sum1,o=sum1->I0.le I'->T 28 B Q (.exit 0) I' [] [(5,vI sum1)])->J Tryz.prog 28 B (nav (bodyOf f31) [1,1,0,1,0]) Q I [hB b (cAff a0 p c)] [(2,vP b 0),(5,vI sum),(10,vS p1 ag c1),(11,vI (ag.length:Int)),(12,vI t12)]:=by
 refine rQ.partial_correctness a0 ag _ fun aJ ih sum t12 o N B I0 I Q p c p1 c1 b H h1 h hg ho hx=>yZ hg ho<|yI [13] rfl<|zZ<|yE N ?_ ?_
 · intro hc N;refine zS<|zZ<|yH<|yA<|yD 1 [] [14] rfl<|bE N fun x hy N=>wA rfl rfl h1 hy ?_;intro ad aK ap al;obtain rfl:=al;refine xP 0 ap [vI x] (vI x) rfl<|yL [] [6,7] rfl<|zK<|zM<|yD 4 [0] [17,19,20] rfl<|bE N fun x1 ax N=>wA rfl rfl h ax ?_;intro ad1 bo ay aA;obtain rfl:=aA;exact xP 0 ay [vI x1] (vI x1) rfl<|yL [] [5] rfl<|zP<|zK<|zM<|yL [] [12] rfl<|yX<|mC<|ih (W (sum+(W (x1*x)))) (W (t12+1)) _ N H h1 h hg ho hx
 intro hc N;exact vC<|wH zN<|yQ<|hx _ _ (zE N).symm H
def sY (a0:zA) (ag:(List Int)):Option (Int):=do
 let sum1<-rQ a0 ag a0.Const 0;pure (id sum1)
theorem jA:∀ a0 ag r,sY a0 ag=some r->∀ {I:Imm}{p c p1 c1},(S4 I p a0.Coefs c)->(S4 I p1 ag c1)->RT 31 [vA (cAff a0 p c),vS p1 ag c1] I [] (yR  r):=by
 intro a0 ag r N I p c p1 c1 h h1;unfold sY at N;refine yJ func31 fun B=>yA<|vD (cAff a0 p c) ?_;intro b hb;refine wT [] []<|yT<|yL [0] [5] rfl<|zZ<|yI [10,11,12] rfl<|wQ<|pM [(2,vP b 0),(5,vI a0.Const),(10,vS p1 ag c1),(11,vI (ag.length:Int)),(12,vI 0)] ?_;obtain ⟨o0,az,aG⟩:=zB N;refine zCu a0 ag a0.Const 0 o0 az iR h1 h nG nO ?_;intro I0 sum1 heq le;subst o0;refine zR<|uJ [4] rfl<|zK<|xF ?_;obtain rfl:=zE aG;exact vZ
def zAQ (r:Int×Int):KT:=fun kk I' ah v=>
  ∃ v0 v1,ah=[]/\v=tupV [v0,v1]/\v0=.int .i64 r.1/\v1=.int .i64 r.2
def pC (l:zF) (ag:(List Int)) (lo:Int) (t27:Int):Option (Int):=do
 if (decide (t27<(l.Lo.length:Int))) then
  let x2<-idx l.Lo t27;let y2<-sY x2 ag;pC l ag (if y2>lo then y2 else lo) (W (t27+1))
 else pure (id lo)
 partial_fixpoint
theorem zDh (l:zF) (ag:(List Int)):∀ (lo:Int) (t27:Int) (o:Int),pC l ag lo t27=some o->∀ {B}{I0 I:Imm}{Q}{y1:Int}{p c p1 c1 p2 c2}{b},I0.le I->(S4 I p2 ag c2)->(S4 I p l.Lo c)->(S4 I p1 l.Hi c1)->NG Q->NO Q->(∀ I' lo1,o=lo1->I0.le I'->T 52 B Q (.exit 0) I' [hB b (cLoop l p c p1 c1)] [(1,vS p2 ag c2),(2,vP b 0),(6,vI lo1),(7,vI y1)])->J Tryz.prog 52 B (nav (bodyOf f139) [1,1,0,1,0]) Q I [hB b (cLoop l p c p1 c1)] [(1,vS p2 ag c2),(2,vP b 0),(6,vI lo),(7,vI y1),(25,vS p l.Lo c),(26,vI (l.Lo.length:Int)),(27,vI t27)]:=by
 refine pC.partial_correctness l ag _ fun aJ ih lo t27 o N B I0 I Q y1 p c p1 c1 p2 c2 b H h2 h h1 hg ho hx=>yZ hg ho<|yI [28] rfl<|zZ<|yE N ?_ ?_
 · intro hc N;refine zS<|zZ<|yH<|yA<|bE N fun x2 bt N=>wA rfl rfl h bt ?_;intro ad2 bR bq bu;obtain ⟨p5,c5,rfl,h7⟩:=yG bu;refine xP 0 bq (cAff x2 p5 c5) (vA (cAff x2 p5 c5)) rfl<|xU [z0,vI 0] ?_;intro b1 hb1;refine yS 0 (cAff x2 p5 c5) rfl<|zU rfl<|zK<|zM<|vU 3 [0] [(31,vI lo),(32,vA (cAff x2 p5 c5)),(33,vS p2 ag c2)]<|bE N fun y2 bD N=>dL (jA x2 ag _ bD h7 h2) ?_;intro bv aF;have ⟨h2,h,h1,H⟩:=m4 aF h2 h h1 H;exact yL [] [6] rfl<|zP<|zK<|zM<|yL [] [27] rfl<|yX<|qY (zW [1] rfl (by decide))<|mC<|ih (if y2>lo then y2 else lo) (W (t27+1)) _ N H h2 h h1 hg ho hx
 intro hc N;exact vC<|yQ<|hx _ _ (zE N).symm H
def pD (l:zF) (ag:(List Int)) (hi:Int) (t40:Int):Option (Int):=do
 if (decide (t40<(l.Hi.length:Int))) then
  let x3<-idx l.Hi t40;let y3<-sY x3 ag;pD l ag (if y3<hi then y3 else hi) (W (t40+1))
 else pure (id hi)
 partial_fixpoint
theorem zDi (l:zF) (ag:(List Int)):∀ (hi:Int) (t40:Int) (o:Int),pD l ag hi t40=some o->∀ {B}{I0 I:Imm}{Q}{lo1:Int}{p1 c1 p2 c2},I0.le I->(S4 I p2 ag c2)->(S4 I p1 l.Hi c1)->NG Q->NO Q->(∀ I' hi1,o=hi1->I0.le I'->T 52 B Q (.exit 2) I' [] [(6,vI lo1),(7,vI hi1)])->J Tryz.prog 52 B (nav (bodyOf f139) [1,1,1,0,1,0]) Q I [] [(1,vS p2 ag c2),(6,vI lo1),(7,vI hi),(38,vS p1 l.Hi c1),(39,vI (l.Hi.length:Int)),(40,vI t40)]:=by
 refine pD.partial_correctness l ag _ fun aJ ih hi t40 o N B I0 I Q lo1 p1 c1 p2 c2 H h2 h1 hg ho hx=>yZ hg ho<|yI [41] rfl<|zZ<|yE N ?_ ?_
 · intro aH N;refine zS<|zZ<|yH<|yA<|bE N fun x3 hy6 N=>wA rfl rfl h1 hy6 ?_;intro ad3 ccs3 hat3 bI;obtain ⟨p6,c6,rfl,h9⟩:=yG bI;refine xP 0 hat3 (cAff x3 p6 c6) (vA (cAff x3 p6 c6)) rfl<|xU [z0,vI 0] ?_;intro b2 hb2;refine yS 0 (cAff x3 p6 c6) rfl<|zU rfl<|zK<|zM<|vU 3 [0] [(44,vI hi),(45,vA (cAff x3 p6 c6)),(46,vS p2 ag c2)]<|bE N fun y3 hy7 N=>dL (jA x3 ag _ hy7 h9 h2) ?_;intro bO bi;have ⟨h2,h1,H⟩:=m3 bi h2 h1 H;exact yL [] [7] rfl<|zP<|zK<|zM<|yL [] [40] rfl<|yX<|qY zN<|mC<|ih (if y3<hi then y3 else hi) (W (t40+1)) _ N H h2 h1 hg ho hx
 intro aH N;exact vC<|yQ<|hx _ _ (zE N).symm H
def fV (l:zF) (ag:(List Int)):Option (Int×Int):=do
 let x<-idx l.Lo 0;let y<-sY x ag;let x1<-idx l.Hi 0;let y1<-sY x1 ag;let lo1<-pC l ag y 0;let hi1<-pD l ag y1 0;pure (lo1,hi1)
theorem zFf:∀ l ag r,fV l ag=some r->∀ {I:Imm}{p c p1 c1 p2 c2},(S4 I p l.Lo c)->(S4 I p1 l.Hi c1)->(S4 I p2 ag c2)->RT 139 [vA (cLoop l p c p1 c1),vS p2 ag c2] I [] (zAQ  r):=by
 intro l ag r N I p c p1 c1 p2 c2 h h1 h2;unfold fV at N;refine yJ func139 fun B=>?_;have H:=iS I;refine yA<|vD (cLoop l p c p1 c1) ?_;intro b hb;refine wT [] []<|zK<|yC ?_;obtain ⟨x,hy,N⟩:=zB N;obtain ⟨y,ax,N⟩:=zB N;obtain ⟨x1,aE,N⟩:=zB N;obtain ⟨y1,bj,N⟩:=zB N;refine wV [.p (vP b 0) [],.p (vS p l.Lo c) [0],.x (ePAff x),.x (eVAff x),.p (vS p2 ag c2) [],.q (vI y),.p (vP b 1) [],.p (vS p1 l.Hi c1) [0],.x (ePAff x1),.x (eVAff x1),.p (vS p2 ag c2) [],.q (vI y1),.p (vI y) []] [[],[(0,false)],[(1,false)],[(2,false)],[],[(3,false),(4,false)],[],[(6,false)],[(7,false)],[(8,false)],[],[(9,false),(10,false)],[(5,false)]] [hB b (cLoop l p c p1 c1)] [] [(11,false),(12,false)] (zY [0]) ?_ ?_
 · refine O2<|Ox ?_<|Ox ?_<|Op<|Oq ?_<|O2<|Ox ?_<|Ox ?_<|Op<|Oq ?_<|Op<|On
   · intro I1 hf ae;refine xD [13] rfl ?_;have h:=h.mono ae;refine wA rfl rfl h hy ?_;intro ad aK ap al;obtain ⟨p3,c3,rfl,h3⟩:=yG al;exact yM [] iR ⟨_,_,_,rfl,rfl,ap,h3⟩
   · rintro I1 hf ae _ _ ⟨ad,p3,c3,rfl,rfl,ap,h3⟩;exact xD [14] rfl<|xP 0 ap (cAff x p3 c3) (vA (cAff x p3 c3)) rfl<|yM [] iR ⟨_,_,rfl,rfl,h3⟩
   · rintro I1 hf ae _ _ ⟨p31,c31,rfl,rfl,h31⟩;refine xD [15,16] rfl ?_;have H:=iS I1;have h2:=h2.mono ae;refine dL (jA x ag _ ax h31 h2) ?_;intro I0 le;have H:=H.trans le;exact xY H
   · intro I1 hf ae;refine xD [19] rfl ?_;have h1:=h1.mono ae;refine wA rfl rfl h1 aE ?_;intro ad1 bo ay aA;obtain ⟨p4,c4,rfl,h5⟩:=yG aA;exact yM [] iR ⟨_,_,_,rfl,rfl,ay,h5⟩
   · rintro I1 hf ae _ _ ⟨ad1,p4,c4,rfl,rfl,ay,h5⟩;exact xD [20] rfl<|xP 0 ay (cAff x1 p4 c4) (vA (cAff x1 p4 c4)) rfl<|yM [] iR ⟨_,_,rfl,rfl,h5⟩
   rintro I1 hf ae _ _ ⟨p41,c41,rfl,rfl,h51⟩;refine xD [21,22] rfl ?_;have H:=iS I1;have h2:=h2.mono ae;refine dL (jA x1 ag _ bj h51 h2) ?_;intro aR ae;have H:=H.trans ae;exact xY H
 intro aV aB;refine xD [1,2,6,23] rfl ?_;have ⟨h2,h,h1⟩:=m3 aB h2 h h1;refine yL [] [7] rfl<|zZ<|yA<|yL [0] [25,26,27] rfl<|wQ<|pM [(1,vS p2 ag c2),(2,vP b 0),(6,vI y),(7,vI y1),(25,vS p l.Lo c),(26,vI (l.Lo.length:Int)),(27,vI 0)] ?_;obtain ⟨o0,az,aG⟩:=zB N;refine zDh l ag y 0 o0 az iR h2 h h1 nG nO ?_;intro bH lo1 heq aX;subst o0;have ⟨h2,h,h1⟩:=m3 aX h2 h h1;refine zR<|zZ<|yA<|yL [0] [38,39,40] rfl<|wQ<|qY (zY [] (ah:=[]))<|pM [(1,vS p2 ag c2),(6,vI lo1),(7,vI y1),(38,vS p1 l.Hi c1),(39,vI (l.Hi.length:Int)),(40,vI 0)] ?_;obtain ⟨aL,aC,hMl1⟩:=zB aG;refine zDi l ag y1 0 aL aC iR h2 h1 nG nO ?_;intro I06 hi1 heq1 bB;subst aL;refine zR<|uJ [4,5] rfl<|zK<|xF ?_;exact xO hMl1 (resU rfl rfl) zN ⟨_,_,rfl,rfl,rfl,rfl⟩
def eT (b0:Nat) (r:Bool×rZ):KT:=fun kk I' ah v=>
  ∃ v0 x0_0 y0_0 x0_2 y0_2 z0_2,ah=[.blk b0 ⟨[.slice x0_0 r.2.nest.length y0_0,.int .i64 r.2.steps,.slice x0_2 r.2.out.length y0_2]⟩,.osl (.slice x0_2 r.2.out.length y0_2) (Rp.sz (List Int)) z0_2]/\v=tupV [v0]/\v0=.bool r.1/\SL I' (.slice x0_0 r.2.nest.length y0_0) r.2.nest/\RepL (Rp.rep I') (Rp.sz (List Int)) z0_2 r.2.out
mutual
def rO (w0:rZ) (ag:(List Int)):Option (Bool×rZ):=do
 if ((ag.length:Int)==(w0.nest.length:Int)) then
  let y<-uE ag;let l<-app 24 w0.out ([y]:List (List Int));pure ((decide ((l.length:Int)<=120)),(rZ.mk w0.nest w0.steps l))
 else
  let x<-idx w0.nest (ag.length:Int);let (y2,y3)<-fV x ag
  match<-qR (same ag) (same y3) (same y2) w0.nest w0.steps w0.out with
  | .ret r0=>pure r0
  | .done (nest1,steps1,am) =>
   pure (true,(rZ.mk nest1 steps1 am))
 partial_fixpoint
def qR (ag:(List Int)) (y3:Int) (n0:Int) (nest:List zF) (steps:Int) (out:List (List Int)):Option (Out (List zF×Int×List (List Int)) (Bool×rZ)):=do
 if (decide (n0<y3)) then
  let (t74,nest2,steps2,au)<-(do
    if (decide ((W ((W (steps+1))+1))>1200)) then pure (true,nest,(W (steps+1)),out)
    else
     let y4<-uE ag;let l1<-app 8 y4 ([n0]:List Int);let (y6,y7)<-rO (rZ.mk nest (W (steps+1)) out) (same l1);pure ((!y6),y7.nest,y7.steps,y7.out)
      : Option (Bool×List zF×Int×List (List Int)))
  if t74 then pure (.ret (false,(rZ.mk nest2 steps2 au)))
  else qR (same ag) (same y3) (W (n0+1)) (same nest2) (same steps2) (same au)
 else pure (.done (nest,steps,out))
 partial_fixpoint
end
theorem zD0:(∀ (w0:rZ) (ag:(List Int)) r,rO w0 ag=some r->∀ {I:Imm}{r0}{p c p1 c1 cs p2 c2},(S4 I p w0.nest c)->(RL I cs w0.out)->(S4 I p2 ag c2)->RT 98 [vP r0 0,vS p2 ag c2] I [hB r0 [vS p w0.nest c,vI w0.steps,vS p1 w0.out c1],hO (List Int) (vS p1 w0.out c1) cs] (eT r0 r))/\(∀ (ag:(List Int)) (y3:Int) (n0:Int) (nest:List zF) (steps:Int) (out:List (List Int)) o,qR ag y3 n0 nest steps out=some o->∀ {B}{I0 I:Imm}{Q}  {r0}{p2 c2 p7 c7 p8 c8 aO},I0.le I->(S4 I p2 ag c2)->(S4 I p7 nest c7)->(RL I aO out)->NG Q->NO Q->(∀ I' nest1 steps1 am p9 c9 aM aP bw,o=(.done (nest1,steps1,am))->I0.le I'->(S4 I' p9 nest1 c9)->(RL I' bw am)->T 75 B Q (.exit 0) I' [hB r0 [vS p9 nest1 c9,vI steps1,vS aM am aP],hO (List Int) (vS aM am aP) bw] [])->(∀ r I' ah m',o=(.ret r)->I0.le I'->RS Tryz.prog f98 B (eT r0 r) I' ah m'->T 75 B Q .ret I' ah m')->J Tryz.prog 75 B (nav (bodyOf f98) [1,1,1,0,1,0]) Q I [hB r0 [vS p7 nest c7,vI steps,vS p8 out c8],hO (List Int) (vS p8 out c8) aO] [(0,vP r0 0),(1,vS p2 ag c2),(6,vI y3),(7,vI n0)]):=by
  refine rO.mutual_partial_correctness _ _ ?_ ?_
  · intro F_impl_walking_walk_l1 ih_impl_walking_walk_l1 w0 ag r N I r0 p c p1 c1 cs p2 c2 h h1 h2;refine yJ func98 fun B=>?_;have H:=iS I;refine vK []<|zZ<|yA<|yL [0] [15] rfl<|zK<|yE N ?_ ?_
    · intro hc N;refine yC ?_;obtain ⟨y,hy,N⟩:=zB N;obtain ⟨l,ax,N⟩:=zB N;refine wV [.p (vP r0 0) [],.p (vP r0 0) [],.p (vP r0 0) [],.p (vP r0 2) [],.p (vS p1 w0.out c1) [0],.p (vS p2 ag c2) [],.x (fun I' v hx=>∃ p3 c3 aw,v=vS p3 y c3/\hx=[hO Int (vS p3 y c3) aw]/\(RL I' aw y)),.x (fun I' v hx=>∃ b,v=vS (some ⟨b,0,none⟩) ([y]:List (List Int)) 1/\hx=[]/\(SL I' (vS (some ⟨b,0,none⟩) ([y]:List (List Int)) 1) ([y]:List (List Int)))),.x (fun I' v hx=>∃ p4 c4 aU,v=vS p4 l c4/\hx=[hO (List Int) (vS p4 l c4) aU]/\(RL I' aU l))] [[],[],[(1,false)],[(2,false)],[(3,false)],[],[(5,false)],[(6,true)],[(4,false),(7,false),(12,true)]] [hB r0 [vS p w0.nest c,vI w0.steps,vS p1 w0.out c1]] [[hO (List Int) (vS p1 w0.out c1) cs]] [(0,false),(8,true)] (zY [0,1]) ?_ ?_
      · refine O4<|O2<|Ox ?_<|Ox ?_<|Ox ?_<|On
        · intro I1 hf ae;refine xD [21] rfl ?_;have H:=iS I1;have h2:=h2.mono ae;refine xJ (oL ag _ hy h2) ?_;rintro I0 av v2 k2 le - ⟨p3,c3,aw,rfl,rfl,h3⟩ -;have H:=H.trans le;exact yM [hO Int (vS p3 y c3) aw] H ⟨_,_,_,rfl,rfl,h3⟩
        · rintro I1 hf ae _ _ ⟨p3,c3,aw,rfl,rfl,h3⟩;refine xD [22] rfl ?_;have H:=iS I1;refine wC 0 rfl ?_;intro aR ae hl0;have h4:=SL.of_frozen hl0 ae h3;have H:=H.trans ae;refine mE (rc y ⟨_,rfl,h4⟩ rN) ?_;intro b aV aB h6;have H:=H.trans aB;exact yM [] H ⟨_,rfl,rfl,h6⟩
        rintro I1 hf ae _ _ ⟨rfl,rfl⟩ _ _ ⟨b,rfl,rfl,h6⟩ _ _ rfl;refine xD [20,23] rfl ?_;have h1:=iM ae h1;obtain ⟨aK,k0,k01⟩:=h6;have h6:SL I1 (vS (some ⟨b,0,none⟩) ([y]:List (List Int)) 1) ([y]:List (List Int)):=⟨_,k0,k01⟩;exact qA 39 1 0 rfl rfl rfl h1 (.inl k0) k01 ax fun p4 c4 aU h7=>vQ (ah:=(hO (List Int) (vS p4 l c4) aU::hB r0 [vS p w0.nest c,vI w0.steps,vS p1 w0.out c1]::hf)) rfl<|yM [hO (List Int) (vS p4 l c4) aU] iR ⟨_,_,_,rfl,rfl,h7⟩
      rintro bv aF _ _ ⟨rfl,rfl⟩ _ _ ⟨p4,c4,aU,rfl,rfl,h7⟩;refine xD [0,16,24] rfl ?_;have h:=h.mono aF;refine yD 11 [] [26] rfl<|yS 1 [vS p w0.nest c,vI w0.steps,vS p4 l c4] rfl<|zU rfl<|yT<|yL [1] [4] rfl<|xL<|zI ?_;exact xO N (resT rfl) (zW [1,0] rfl (by decide)) ⟨_,_,_,_,_,_,rfl,rfl,rfl,h,h7⟩
    intro hc N;refine zS<|yT<|yD 6 [0] [37,39] rfl<|bE N fun x aE N=>wA rfl rfl h aE ?_;intro ad bo ap al;obtain ⟨p5,c5,p6,c6,rfl,h8,h9⟩:=vJ al;refine xP 0 ap (cLoop x p5 c5 p6 c6) (vA (cLoop x p5 c5 p6 c6)) rfl<|yD 9 [] [42] rfl ?_;obtain ⟨⟨y2,y3⟩,bj,N⟩:=zB N;refine xJ (zFf x ag _ bj h8 h9 h2) ?_;rintro bH av v2 k2 aX - ⟨v02,v03,rfl,rfl,rfl,rfl⟩ -;have ⟨h2,h,h1⟩:=m3 aX h2 h h1;refine yL [] [5,6] rfl<|zZ<|yI [7] rfl<|wQ<|pM [(0,vP r0 0),(1,vS p2 ag c2),(6,vI y3),(7,vI y2)] ?_;obtain ⟨aL,aC,aG⟩:=zB N;refine ih_impl_walking_walk_l1 ag y3 y2 w0.nest w0.steps w0.out aL aC iR h2 h h1 nG nO ?_ ?_
    · intro I09 nest1 steps1 am p9 c9 aM aP bw heq1 le9 h14 h15;subst aL;refine zR<|zEt [(4,vY)]<|zK<|xF ?_;exact xO aG (resT rfl) (zW [0,1] rfl (by decide)) ⟨_,_,_,_,_,_,rfl,rfl,rfl,h14,h15⟩
    intro r0 I9 hs9 m9 aY le9 aZ;subst aY;refine zV<|zI ?_;obtain rfl:=zE aG;exact dB aZ
  intro F_impl_walking_walk F_impl_walking_walk_l1 ih_impl_walking_walk ih_impl_walking_walk_l1 ag y3 n0 nest steps out o N B I0 I Q r0 p2 c2 p7 c7 p8 c8 aO H h2 h12 h13 hg ho hx hr;refine yZ hg ho<|yC<|yI [49] rfl<|zK<|yE N ?_ ?_
  · intro aH N;refine zS<|zZ<|yH<|yA<|yD 7 [0] [56,58] rfl<|yS 0 [vS p7 nest c7,vI (W (steps+1)),vS p8 out c8] rfl<|zU rfl<|zK<|yC ?_;obtain ⟨o0,az,aT⟩:=zB N;refine nT (fun I' ah m'=>∃ (t74:Bool) (nest2:List zF) (steps2:Int) (au:List (List Int)) (aI:Option Addr) (aQ:Nat) (bm:Option Addr) (aW:Nat) (bC:List Value),o0=(t74,nest2,steps2,au)/\I.le I'/\(S4 I' aI nest2 aQ)/\(RL I' bC au)/\ah=[hB r0 [vS aI nest2 aQ,vI steps2,vS bm au aW],hO (List Int) (vS bm au aW) bC]/\m'=[(0,vP r0 0),(1,vS p2 ag c2),(6,vI y3),(7,vI n0),(74,.bool t74)]) ?_ ?_
    · have H:=iS I;refine zM<|yD 7 [0] [65] rfl<|wD [65] az ?_ ?_
      · intro bf N;exact wT [] [(74,vY)]<|yQ<|zT ⟨_,_,_,_,_,_,_,_,_,(zE N).symm,H,h12,h13,rfl,rfl⟩
      intro bf N;refine yD 9 [] [66,67] rfl<|bE N fun y4 bt N=>xJ (oL ag _ bt h2) ?_;rintro I06 av v2 k2 bi - ⟨aS,bc,cs6,rfl,rfl,h18⟩ -;have ⟨h12,h13,H⟩:=m3 bi h12 h13 H;refine yD 11 [] [69] rfl<|tK [vI n0] Int ?_;intro b1 hb1;have h19:RL I06 [vI n0] ([n0]:List Int):=rI [n0];obtain ⟨l1,bD,N⟩:=zB N;refine qA 3 1 1 rfl rfl rfl h18 (.inr ⟨0,rfl⟩) h19 bD fun p14 c14 cs7 h20=>tU (zY [1,2,3] (ah:=[hO Int (vS p14 l1 c14) cs7,hB r0 [vS p7 nest c7,vI (W (steps+1)),vS p8 out c8],hO (List Int) (vS p8 out c8) aO]))<|wC 0 rfl ?_;intro I07 bB hl02;have h21:=SL.of_frozen hl02 bB h20;have ⟨h12,h13,H⟩:=m3 bB h12 h13 H;obtain ⟨⟨y6,y7⟩,hy6,N⟩:=zB N;refine rC (ih_impl_walking_walk (rZ.mk nest (W (steps+1)) out) l1 _ hy6 h12 h13 h21) rfl ?_;rintro I08 av v2 k2 le7 - ⟨v04,p15,c15,p16,c16,cs8,rfl,rfl,rfl,h23,h24⟩ -;have H:=H.trans le7;exact yL [] [74] rfl<|yQ<|zT ⟨_,_,_,_,_,_,_,_,_,(zE N).symm,H,h23,h24,rfl,rfl⟩
    rintro bO av m2 ⟨t74,nest2,steps2,au,aI,aQ,bm,aW,bC,heq,le8,h16,h17,rfl,rfl⟩;subst o0;have ⟨h2,H⟩:=m2 le8 h2 H;refine zK<|yE aT ?_ ?_
    · intro bG N;exact vK [(4,vF)]<|xL<|zV<|zI<|zI<|hr _ _ _ _ (zE N).symm H ⟨_,_,(resT rfl),(zW [0,1] rfl (by decide)),⟨_,_,_,_,_,_,rfl,rfl,rfl,h16,h17⟩⟩
    intro bG N;exact zS<|zP<|zK<|zM<|yL [] [7] rfl<|yX<|mC<|ih_impl_walking_walk_l1 ag y3 (W (n0+1)) nest2 steps2 au _ N H h2 h16 h17 hg ho hx hr
  intro aH N;exact vC<|yQ<|hx _ _ _ _ _ _ _ _ _ (zE N).symm H h12 h13
theorem zDj:∀ w0 ag r,rO w0 ag=some r->∀ {I:Imm}{r0}{p c p1 c1 cs p2 c2},(S4 I p w0.nest c)->(RL I cs w0.out)->(S4 I p2 ag c2)->RT 98 [vP r0 0,vS p2 ag c2] I [hB r0 [vS p w0.nest c,vI w0.steps,vS p1 w0.out c1],hO (List Int) (vS p1 w0.out c1) cs] (eT r0 r):=zD0.1
def zBG (r:(List (List Int))×Bool):KT:=fun kk I' ah v=>
  ∃ v0 v1,ah=[]/\v=tupV [v0,v1]/\SL I' v0 r.1/\v1=.bool r.2
def gU (nest:(List zF)):Option ((List (List Int))×Bool):=do
 let y<-fU nest;if (!y) then pure (([]:List (List Int)),false)
 else
  let (y2,y3)<-rO (rZ.mk nest 0 ([]:List (List Int))) ([]:List Int);if (!y2) then pure (([]:List (List Int)),false)
  else pure (y3.out,true)
theorem zEx:∀ nest r,gU nest=some r->∀ {I:Imm}{p c},(S4 I p nest c)->RT 58 [vS p nest c] I [] (zBG  r):=by
 intro nest r N I p c h;unfold gU at N;refine yJ func58 fun B=>vK []<|zZ<|yA<|yD 1 [] [5] rfl<|bE N fun y hy N=>vR (zFe nest _ hy h) ?_;intro I0 le;have h:=h.mono le;refine yL [] [7] rfl<|zK<|yE N ?_ ?_
 · intro hc N;refine yI [2,3] rfl<|xL<|zI ?_;exact xO N (resU rfl rfl) zN ⟨_,_,rfl,rfl,(SL.nil _),rfl⟩
 intro hc N;refine zS<|yT<|yD 2 [] [9] rfl<|vD [vS p nest c,vI 0,z0] ?_;intro b hb;refine yL [] [4] rfl<|zZ<|yA<|yD 1 [] [11] rfl<|zPJ (List Int) fun h2=>?_;refine tU (zY [1,0] (ah:=[hB b [vS p nest c,vI 0,vS none ([]:List (List Int)) 0],hO (List Int) (vS none ([]:List (List Int)) 0) []])) ?_;obtain ⟨⟨y2,y3⟩,ax,N⟩:=zB N;refine rC (zDj (rZ.mk nest 0 ([]:List (List Int))) ([]:List Int) _ ax h h2 (SL.nil _)) rfl ?_;rintro aR av v2 k2 ae - ⟨v01,p1,c1,p2,c2,cs,rfl,rfl,rfl,h4,h5⟩ -;refine yL [] [13] rfl<|zK<|yE N ?_ ?_
 · intro aH N;refine yI [2,3] rfl<|xL<|zI ?_;exact xO N (resU rfl rfl) zN ⟨_,_,rfl,rfl,(SL.nil _),rfl⟩
 intro aH N;refine zS<|yT<|yL [0] [2,3] rfl<|xL<|xA 1 rfl ?_;intro aV aB hl0;have h6:=SL.of_frozen hl0 aB h5;exact xO N (resU rfl rfl) zN ⟨_,_,rfl,rfl,h6,rfl⟩
def nU (aD:List HA) (r:Int):KT:=fun kk I' ah v=>
  ∃ v0,aD=ah/\v=tupV [v0]/\v0=.int .i64 r
def wB (s:(List zG)) (f0:(zG->Option Bool)) (t8:Int):Option (Out Unit (Int)):=do
 if (decide (t8<(s.length:Int))) then
  let x<-idx s t8;let y<-f0 x;if y then pure (.ret t8)
  else wB s f0 (W (t8+1))
 else pure (.done ())
 partial_fixpoint
theorem eU (s:(List zG)) (f0:(zG->Option Bool)):∀ (t8:Int) (o:Out Unit (Int)),wB s f0 t8=some o->∀ {B}{I0 I:Imm}{Q p c}{fv:Value}{aD:List HA},I0.le I->(S4 I p s c)->(FV1 Tryz.prog I aD fv f0)->NG Q->NO Q->(∀ I',o=(.done ())->I0.le I'->T 19 B Q (.exit 0) I' aD [])->(∀ r I' ah m',o=(.ret r)->I0.le I'->RS Tryz.prog f99 B (nU aD r) I' ah m'->T 19 B Q .ret I' ah m')->J Tryz.prog 19 B (nav (bodyOf f99) [1,0,1,0]) Q I aD [(0,vS p s c),(1,fv),(7,vI (s.length:Int)),(8,vI t8)]:=by
 refine wB.partial_correctness s f0 _ fun aJ ih t8 o N B I0 I Q p c fv aD H h h1 hg ho hx hr=>yZ hg ho<|yI [9] rfl<|zZ<|yE N ?_ ?_
 · intro hc N;refine zS<|zZ<|yH<|yI [5] rfl<|yT<|yD 3 [] [11,12,13] rfl<|bE N fun x hy N=>wA rfl rfl h hy ?_;intro ad aK ap al;obtain ⟨p1,c1,p2,c2,p3,c3,p4,c4,rfl,h2,h3,h4,h5⟩:=wI al;refine xP 0 ap (cStmt x p1 c1 p2 c2 p3 c3 p4 c4) (vA (cStmt x p1 c1 p2 c2 p3 c3 p4 c4)) rfl<|bE N fun y ax N=>zKT rfl rfl h1 ax ⟨_,rfl,(xV ⟨_,_,_,_,rfl,h2,h3,h4,h5⟩)⟩ (co _).symm ?_;rintro I0 v04 le rfl;refine vQ (ah:=aD) (co _) ?_;have ⟨h,h1,H⟩:=m3 le h h1 H;refine zU rfl<|zK<|yE N ?_ ?_
   · intro aH N;exact yI [4] rfl<|xL<|zV<|zI<|zI<|hr _ _ _ _ (zE N).symm H ⟨_,_,(resT rfl),(fun _ h=>h),⟨_,rfl,rfl,rfl⟩⟩
   intro aH N;exact zS<|zP<|zK<|zM<|yL [] [8] rfl<|yX<|mC<|ih (W (t8+1)) _ N H h h1 hg ho hx hr
 intro hc N;exact vC<|yQ<|hx _  (zE N).symm H
def uZ (s:(List zG)) (f0:(zG->Option Bool)):Option (Int):=do
 match<-wB s f0 0 with
 | .ret r0=>pure r0
 | .done _ =>
  pure (-1)
theorem dS:∀ s f0 r,uZ s f0=some r->∀ {I:Imm}{p c}{fv:Value}{aD:List HA},(S4 I p s c)->(FV1 Tryz.prog I aD fv f0)->RT 99 [vS p s c,fv] I aD (nU aD r):=by
 intro s f0 r N I p c fv aD h h1;unfold uZ at N;refine yJ func99 fun B=>vK []<|zZ<|yI [7,8] rfl<|wQ<|pM [(0,vS p s c),(1,fv),(7,vI (s.length:Int)),(8,vI 0)] ?_;obtain ⟨o0,az,aG⟩:=zB N;refine eU s f0 0 o0 az iR h h1 nG nO ?_ ?_
 · intro aR  heq ae;subst o0;refine zR<|uJ [4] rfl<|zK<|xF ?_;exact xO aG (resT rfl) (fun _ h=>h) ⟨_,rfl,rfl,rfl⟩
 intro r0 I9 hs9 m9 aY le9 aZ;subst aY;refine zV<|zI ?_;obtain rfl:=zE aG;exact dB aZ
def fW (aD:List HA) (r:Bool):KT:=fun kk I' ah v=>
  ∃ v0,aD=ah/\v=tupV [v0]/\v0=.bool r
def wZ (s:(List zG)) (f0:(zG->Option Bool)):Option (Bool):=do
 let y<-uZ s f0;pure (decide (y>=0))
theorem eV:∀ s f0 r,wZ s f0=some r->∀ {I:Imm}{p c}{fv:Value}{aD:List HA},(S4 I p s c)->(FV1 Tryz.prog I aD fv f0)->RT 59 [vS p s c,fv] I aD (fW aD r):=by
 intro s f0 r N I p c fv aD h h1;unfold wZ at N;refine yJ func59 fun B=>vK []<|yT<|yD 2 [] [5,6] rfl<|bE N fun y hy N=>zG1 (hs1:=aD) (rest:=[]) rfl rfl rfl rfl (by kernel_rfl) rfl (co _).symm (dS s f0 _ hy h h1) ?_;rintro I0 av v2 k2 le - ⟨v0,rfl,rfl,rfl⟩ -;refine vQ (ah:=aD) (co _) ?_;refine yL [] [4] rfl<|zK<|xF ?_;exact xO N (resT rfl) (fun _ h=>h) ⟨_,rfl,rfl,rfl⟩
def oX (s:zA) (x:Int):Option (Bool):=do
 let t3<-(do
   let y<-oE s;if (!y) then pure true
   else
    let y1<-rM s;pure (decide (y1>x))
     : Option Bool)
 pure (id t3)
theorem zEy:∀ s x r,oX s x=some r->∀ {I:Imm}{p c}{ad:Addr},(S4 I p s.Coefs c)->(At I ad [vI x])->RT 141 [vA (cAff s p c),.pointer (some ad)] I [] (zQ  r):=by
 intro s x r N I p c ad h ap;unfold oX at N;refine yJ func141 fun B=>?_;have H:=iS I;refine yA<|vD (cAff s p c) ?_;intro b hb;refine wT [] []<|zK<|yC ?_;refine wU N [] (fun t3=>[(3,.bool t3)]) (fun o0 az=>?_) ?_
 · have H:=iS I;obtain ⟨y,hy,N⟩:=zB az;cases hc:(!y) with
   | true =>
    have hM0:=qN hc N;refine wV [.p (vA (cAff s p c)) [0],.q (.bool y),.q vY,.q vY,.p undef [],.p undef [],.p undef [],.p undef [],.p vY []] [[],[(0,false)],[(1,false)],[(2,false)],[(3,false)],[(3,false),(4,false)],[(3,false)],[(3,false),(5,false),(6,false)],[(3,false),(7,false)]] [hB b (cAff s p c)] [] [(8,false)] (zY [0]) ?_ ?_
    · refine Op<|Oq ?_<|Oq ?_<|Oq ?_<|O4<|Op<|On
      · intro I1 hf ae;refine xD [4] rfl ?_;have H:=iS I1;have h:=h.mono ae;refine vR (kZ s _ hy h) ?_;intro aR le;have H:=H.trans le;exact xY H
      · intro I1 hf ae;refine xD [5] rfl<|mD 3 [(6,.bool (!y))] ?_;rw [hc];exact xY iR
      intro I1 hf ae;exact I_h [(6,vY)]<|mD 4 [(7,vY)]<|xY iR
    intro aV ae;refine I_h [(12,vY)] ?_;have H:=H.trans ae;exact wT [] [(3,vY)]<|wH zN<|yQ<|zT (ct hM0 H)
   | false =>
    have hM01:=rE hc N;obtain ⟨y1,ax,N⟩:=zB hM01;refine wV [.p (vA (cAff s p c)) [0],.q (.bool y),.q vF,.q vF,.p (vA (cAff s p c)) [0],.q (vI y1),.q (vI x),.p (.bool (decide (y1>x))) [],.p (.bool (decide (y1>x))) []] [[],[(0,false)],[(1,false)],[(2,false)],[(3,false)],[(3,false),(4,false)],[(3,false)],[(3,false),(5,false),(6,false)],[(3,false),(7,false)]] [hB b (cAff s p c)] [] [(8,false)] (zY [0]) ?_ ?_
    · refine Op<|Oq ?_<|Oq ?_<|Oq ?_<|Op<|Oq ?_<|Oq ?_<|O2<|On
      · intro I1 hf ae;refine xD [4] rfl ?_;have H:=iS I1;have h:=h.mono ae;refine vR (kZ s _ hy h) ?_;intro aR le;have H:=H.trans le;exact xY H
      · intro I1 hf ae;refine xD [5] rfl<|mD 3 [(6,.bool (!y))] ?_;rw [hc];exact xY iR
      · intro I1 hf ae;exact I_h [(6,vF)]<|mD 4 [(7,vF)]<|xY iR
      · intro I1 hf ae;refine xD [7,8] rfl ?_;have H:=iS I1;have h:=h.mono ae;refine dL (gT s _ ax h) ?_;intro bv aB;have H:=H.trans aB;exact xY H
      intro I1 hf ae;refine xD [1,7] rfl ?_;have ap:=ap.mono ae;exact xP 0 ap [vI x] (vI x) rfl<|xY iR
    intro bH aF;refine xD [12] rfl ?_;have H:=H.trans aF;exact yL [] [3] rfl<|wH zN<|yQ<|zT (ct N H)
 intro t3 I0 aX aT;refine zK<|xF ?_;obtain rfl:=zE aT;exact vZ
def gL (a0:zJ) (aa:Int):Option (Bool):=do
 let t4<-(do
   let y<-fT a0.Array;if y then
    let y1<-wW (a0.Subs.length:Int) 1 2;if y1 then
     let y2<-wE a0.Subs (fun x0=>oX x0 aa);pure (!y2)
    else pure false
   else
    pure false
     : Option Bool)
 pure (id t4)
theorem zC2:∀ a0 aa r,gL a0 aa=some r->∀ {I:Imm}{p c},(S4 I p a0.Subs c)->RT 100 [vA (cAccess a0 p c),vI aa] I [] (zQ  r):=by
 intro a0 aa r N I p c h;unfold gL at N;refine yJ func100 fun B=>?_;have H:=iS I;refine yA<|vD (cAccess a0 p c) ?_;intro b hb;refine vD [vI aa] ?_;intro b1 hb1;refine wC 0 rfl ?_;intro I0 le hl0;have ap:At I0 ⟨b1,0,none⟩ [vI aa]:=At.of_blk hl0;have ⟨h,H⟩:=m2 le h H;refine wT [] []<|zK<|yC ?_;refine wU N [] (fun t4=>[(4,.bool t4)]) (fun o0 az=>?_) ?_
 · have H:=iS I0;refine zM<|yD 2 [0] [6] rfl ?_;obtain ⟨y,hy,N⟩:=zB az;refine vR (kT a0.Array _ hy ) ?_;intro aV ae;have ⟨ap,h,H⟩:=m3 ae ap h H;refine yD 4 [] [8] rfl<|wD [8] N ?_ ?_
   · intro hc N;refine yD 7 [0] [11] rfl<|bE N fun y1 ax N=>vR (vG (a0.Subs.length:Int) 1 2 _ ax ) ?_;intro bv aB;have ⟨ap,h,H⟩:=m3 aB ap h H;refine yD 10 [] [14] rfl<|wD [14] N ?_ ?_
     · intro aH N;refine yD 13 [0] [16,17] rfl ?_;have hf0:FV1 Tryz.prog bv [] (.func (.func 141) ⟨[]⟩ ⟨[vP b1 0]⟩) (fun x0=>oX x0 aa):=by
         refine FV1.intro ?_;intro I1 ae x0 r u0 hF k0;obtain ⟨_,rfl,k0⟩:=k0;obtain ⟨p1,c1,rfl,h3⟩:=yG k0;exact (zEy x0 aa r hF h3 (ap.mono ae)).mono (by rintro k i hs u ⟨v0,rfl,rfl,h⟩; exact ⟨rfl,h⟩)
       obtain ⟨y2,aE,N⟩:=zB N;refine xJ (pQ a0.Subs (fun x0=>oX x0 aa) _ aE h hf0) ?_;rintro bH av v2 k2 aF - ⟨v03,rfl,rfl,rfl⟩ -;have H:=H.trans aF;exact yL [] [4] rfl<|wH zN<|yQ<|zT (ct N H)
     intro aH N;exact wT [] [(4,vF)]<|wH zN<|yQ<|zT (ct N H)
   intro hc N;exact wT [] [(4,vF)]<|wH zN<|yQ<|zT (ct N H)
 intro t4 aR aX aT;refine zK<|xF ?_;obtain rfl:=zE aT;exact vZ
def jI (kind:Int):Option (Bool):=do
 let y<-wW kind 4 6;pure (id y)
theorem zFg:∀ kind r,jI kind=some r->∀ {I:Imm} ,RT 125 [vI kind] I [] (zQ  r):=by
 intro kind r N I;unfold jI at N;refine yJ func125 fun B=>vK []<|yT<|yD 1 [] [3] rfl<|bE N fun y hy N=>vR (vG kind 4 6 _ hy ) fun I0 le=>wT [] [(2,.bool y)]<|zK<|xF ?_;obtain rfl:=zE N;exact vZ
def gN (a0:zA):Option (Bool):=do
 let t2<-(do
   if ((a0.Coefs.length:Int)==0) then pure (a0.Const==0)
   else
    pure false
     : Option Bool)
 pure (id t2)
theorem zC3:∀ a0 r,gN a0=some r->∀ {I:Imm}{p c},(S4 I p a0.Coefs c)->RT 143 [vA (cAff a0 p c)] I [] (zQ  r):=by
 intro a0 r N I p c h;unfold gN at N;refine yJ func143 fun B=>?_;have H:=iS I;refine yA<|vD (cAff a0 p c) ?_;intro b hb;refine wT [] []<|zK<|yC ?_;refine wU N [] (fun t2=>[(2,.bool t2)]) (fun o0 az=>?_) ?_
 · have H:=iS I;refine zM<|yD 5 [0] [7] rfl<|wD [7] az ?_ ?_
   · intro hc N;exact yL [0] [2] rfl<|wH zN<|yQ<|zT (ct N H)
   intro hc N;exact wT [] [(2,vF)]<|wH zN<|yQ<|zT (ct N H)
 intro t2 I0 le aT;refine zK<|xF ?_;obtain rfl:=zE aT;exact vZ
def nV (a0:zJ):Option (Bool):=do
 let t2<-(do
   if (a0.Array.l==([]:List UInt8)) then pure ((a0.Subs.length:Int)==0)
   else
    pure false
     : Option Bool)
 pure (id t2)
theorem zAL:∀ a0 r,nV a0=some r->∀ {I:Imm}{p c},(S4 I p a0.Subs c)->RT 144 [vA (cAccess a0 p c)] I [] (zQ  r):=by
 intro a0 r N I p c h;unfold nV at N;refine yJ func144 fun B=>?_;have H:=iS I;refine yA<|vD (cAccess a0 p c) ?_;intro b hb;refine wT [] []<|zK<|yC ?_;refine wU N [] (fun t2=>[(2,.bool t2)]) (fun o0 az=>?_) ?_
 · have H:=iS I;refine zM<|yD 4 [0] [6] rfl<|wD [6] az ?_ ?_
   · intro hc N;exact yL [0] [2] rfl<|wH zN<|yQ<|zT (ct N H)
   intro hc N;exact wT [] [(2,vF)]<|wH zN<|yQ<|zT (ct N H)
 intro t2 I0 le aT;refine zK<|xF ?_;obtain rfl:=zE aT;exact vZ
end Go.LN
