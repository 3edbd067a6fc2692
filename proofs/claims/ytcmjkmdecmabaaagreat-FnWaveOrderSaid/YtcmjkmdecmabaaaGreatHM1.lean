/- Helper of the proof (see the last text). -/
import Derived.Test.YtcmjkmdecmabaaaGreatLnP
import Derived.Test.YtcmjkmdecmabaaaGreatLnZ3
import Derived.Test.YtcmjkmdecmabaaaGreatTryzShelf
set_option linter.unusedVariables false
set_option linter.unusedSimpArgs false
namespace Go.LN
open Go.Proofs Go.Proofs.Tryz
set_option maxRecDepth 20000
abbrev eS {α:Type} [Rp α] (l:List α):Imm->Value->List HA->Prop:=fun I' v hx=>∃ p c,v=vS p l c/\hx=[]/\S4 I' p l c
abbrev ePExpr (x:zI):Imm->Value->List HA->Prop:=fun I' v hx=>∃ ad p0 c0 p1 c1 p2 c2,v=.pointer (some ad)/\hx=[]/\At I' ad (cExpr x p0 c0 p1 c1 p2 c2)/\S4 I' p0 x.Index.Coefs c0/\S4 I' p1 x.Read.Subs c1/\S4 I' p2 x.Kids c2
abbrev eVExpr (x:zI):Imm->Value->List HA->Prop:=fun I' v hx=>∃ p0 c0 p1 c1 p2 c2,v=vA (cExpr x p0 c0 p1 c1 p2 c2)/\hx=[]/\S4 I' p0 x.Index.Coefs c0/\S4 I' p1 x.Read.Subs c1/\S4 I' p2 x.Kids c2
abbrev ePStmt (x:zP):Imm->Value->List HA->Prop:=fun I' v hx=>∃ ad p0 c0 p1 c1 p2 c2 p3 c3,v=.pointer (some ad)/\hx=[]/\At I' ad (cStmt x p0 c0 p1 c1 p2 c2 p3 c3)/\S4 I' p0 x.Write.Subs c0/\S4 I' p1 x.Value.Index.Coefs c1/\S4 I' p2 x.Value.Read.Subs c2/\S4 I' p3 x.Value.Kids c3
abbrev eVStmt (x:zP):Imm->Value->List HA->Prop:=fun I' v hx=>∃ p0 c0 p1 c1 p2 c2 p3 c3,v=vA (cStmt x p0 c0 p1 c1 p2 c2 p3 c3)/\hx=[]/\S4 I' p0 x.Write.Subs c0/\S4 I' p1 x.Value.Index.Coefs c1/\S4 I' p2 x.Value.Read.Subs c2/\S4 I' p3 x.Value.Kids c3
abbrev ePAff (x:zA):Imm->Value->List HA->Prop:=fun I' v hx=>∃ ad p0 c0,v=.pointer (some ad)/\hx=[]/\At I' ad (cAff x p0 c0)/\S4 I' p0 x.Coefs c0
abbrev eVAff (x:zA):Imm->Value->List HA->Prop:=fun I' v hx=>∃ p0 c0,v=vA (cAff x p0 c0)/\hx=[]/\S4 I' p0 x.Coefs c0
abbrev ePArr (x:zF):Imm->Value->List HA->Prop:=fun I' v hx=>∃ ad p0 c0,v=.pointer (some ad)/\hx=[]/\At I' ad (cArr x p0 c0)/\S4 I' p0 x.Dims c0
abbrev eQArr (k:Nat) (x:zF):Imm->Value->List HA->Prop:=fun I' v hx=>∃ ad p0 c0,v=.pointer (some (ad.add k))/\hx=[]/\At I' ad (cArr x p0 c0)/\S4 I' p0 x.Dims c0
abbrev eVArr (x:zF):Imm->Value->List HA->Prop:=fun I' v hx=>∃ p0 c0,v=vA (cArr x p0 c0)/\hx=[]/\S4 I' p0 x.Dims c0
abbrev ePInst (x:zK):Imm->Value->List HA->Prop:=fun I' v hx=>∃ ad p0 c0,v=.pointer (some ad)/\hx=[]/\At I' ad (cInst x p0 c0)/\S4 I' p0 x.Point c0
abbrev eQInst (k:Nat) (x:zK):Imm->Value->List HA->Prop:=fun I' v hx=>∃ ad p0 c0,v=.pointer (some (ad.add k))/\hx=[]/\At I' ad (cInst x p0 c0)/\S4 I' p0 x.Point c0
abbrev eVInst (x:zK):Imm->Value->List HA->Prop:=fun I' v hx=>∃ p0 c0,v=vA (cInst x p0 c0)/\hx=[]/\S4 I' p0 x.Point c0
abbrev ePPart (x:zO):Imm->Value->List HA->Prop:=fun I' v hx=>∃ ad p0 c0 p1 c1,v=.pointer (some ad)/\hx=[]/\At I' ad (cPart x p0 c0 p1 c1)/\S4 I' p0 x.Nest c0/\S4 I' p1 x.Body c1
abbrev eQPart (k:Nat) (x:zO):Imm->Value->List HA->Prop:=fun I' v hx=>∃ ad p0 c0 p1 c1,v=.pointer (some (ad.add k))/\hx=[]/\At I' ad (cPart x p0 c0 p1 c1)/\S4 I' p0 x.Nest c0/\S4 I' p1 x.Body c1
abbrev eVPart (x:zO):Imm->Value->List HA->Prop:=fun I' v hx=>∃ p0 c0 p1 c1,v=vA (cPart x p0 c0 p1 c1)/\hx=[]/\S4 I' p0 x.Nest c0/\S4 I' p1 x.Body c1
abbrev ePLoop (x:zE):Imm->Value->List HA->Prop:=fun I' v hx=>∃ ad p0 c0 p1 c1,v=.pointer (some ad)/\hx=[]/\At I' ad (cLoop x p0 c0 p1 c1)/\S4 I' p0 x.Lo c0/\S4 I' p1 x.Hi c1
abbrev eQLoop (k:Nat) (x:zE):Imm->Value->List HA->Prop:=fun I' v hx=>∃ ad p0 c0 p1 c1,v=.pointer (some (ad.add k))/\hx=[]/\At I' ad (cLoop x p0 c0 p1 c1)/\S4 I' p0 x.Lo c0/\S4 I' p1 x.Hi c1
abbrev eVLoop (x:zE):Imm->Value->List HA->Prop:=fun I' v hx=>∃ p0 c0 p1 c1,v=vA (cLoop x p0 c0 p1 c1)/\hx=[]/\S4 I' p0 x.Lo c0/\S4 I' p1 x.Hi c1
instance {i j:Imm}{am:List Raw2}{parts:List zO}{vN vB:Value}{nl:List zE}{bl:List zP}:Mo (LP i am parts vN nl vB bl) i j (LP j am parts vN nl vB bl):=⟨fun h x=>x.mono h⟩
abbrev RT:=Ret Tryz.prog
def zEx (r:zN):KT:=fun kk I' ah v=>
  ∃ b_0 a0_0 c0_0,ah=[.blk b_0 ⟨[.slice a0_0 r.b.length c0_0,.int .i64 r.p]⟩]/\v=tupV [(.pointer (some ⟨b_0,0,none⟩))]/\SL I' (.slice a0_0 r.b.length c0_0) r.b
def fP (code:(List UInt8)):Option (zN):=do
 let code1<-(do
   if (decide ((code.length:Int)>2000)) then
    let l<-slc code 0 2000
    pure (id l)
   else
    pure (id code)
     : Option (List UInt8))
 pure (zN.mk code1 0)
theorem zGp:∀ code r,fP code=some r->∀ {I:Imm}{p c},(S4 I p code c)->RT 27 [vS p code c] I [] (zEx  r):=by
 intro code r N I p c h;unfold fP at N;refine yJ func27 fun B=>?_;have H:=iS I;refine wP []<|zX<|yF [5] rfl<|zG ?_;obtain ⟨o0,aD,aU⟩:=zB N;refine qF (fun I' ah m'=>∃ (code1:List UInt8) (p1:Option Addr) (c1:Nat),o0=code1/\I.le I'/\(S4 I' p1 code1 c1)/\ah=[]/\m'=[(0,vS p1 code1 c1)]) ?_ ?_
 · have H:=iS I;refine yC aD ?_ ?_
   · intro hc N;refine zJ<|yB 1 [] [6] rfl<|bE N fun l hy N=>zMa rfl h hy ?_;intro v0 h2;obtain ⟨p2,c2,rfl⟩:=h2.form;exact yH [] [0] rfl<|yL<|zU ⟨_,_,_,(zC N).symm,H,h2,rfl,rfl⟩
   intro hc N;exact zS<|yL<|zU ⟨_,_,_,(zC N).symm,H,h,rfl,rfl⟩
 rintro I0 ay m2 ⟨code1,p1,c1,heq,le,h1,rfl,rfl⟩;subst o0;refine yX<|yB 2 [] [9] rfl<|tO [vS p1 code1 c1,vI 0] ?_;intro b hb;refine yH [] [2] rfl<|zG<|yW ?_;obtain rfl:=zC aU;exact yZ ⟨_,_,(.tmp rfl ResV.nil),(zW [0] rfl (by decide)),⟨_,_,_,rfl,rfl,h1⟩⟩
def zCx (b0:Nat) (r:Int×zN):KT:=fun kk I' ah v=>
  ∃ v0 k0,ah=[.blk b0 ⟨k0⟩]/\v=tupV [v0]/\v0=.int .i64 r.1/\Rp.rep I' k0 r.2
def xA (r0:zN) (n0:Int):Option (Int×zN):=do
 let t24<-(do
   if (decide (n0<1)) then
    pure true
   else
    pure ((r0.b.length:Int)==0)
     : Option Bool)
 if t24 then
  pure (0,(zN.mk r0.b (W (r0.p+1))))
 else
  if (decide ((W ((W (r0.p+1)) - 1))<(r0.b.length:Int))) then
   let x<-idx r0.b (W ((W (r0.p+1)) - 1))
   let q<-rem (W (x.toNat:Int)) n0
   pure (q,(zN.mk r0.b (W (r0.p+1))))
  else
   let q1<-rem (W ((W (r0.p+1)) - 1)) (r0.b.length:Int)
   let x1<-idx r0.b q1
   let q2<-rem (W ((W ((W ((W (r0.p+1)) - 1))*7))+3)) (r0.b.length:Int)
   let x2<-idx r0.b q2
   let q3<-quo (W ((W (r0.p+1)) - 1)) (r0.b.length:Int)
   let q4<-rem (W (BitVec.ofInt IntKind.i64.bits (W ((W ((W ((W ((W (x1.toNat:Int))*131))+(W ((W (x2.toNat:Int))*1117))))+(W ((W ((W (r0.p+1)) - 1))*29))))+(W (q3*53)))) ^^^ BitVec.ofInt IntKind.i64.bits (W ((W ((W ((W ((W ((W (x1.toNat:Int))*131))+(W ((W (x2.toNat:Int))*1117))))+(W ((W ((W (r0.p+1)) - 1))*29))))+(W (q3*53)))).tdiv 64))).toNat) n0
   pure (q4,(zN.mk r0.b (W (r0.p+1))))
theorem xR:∀ r0 n0 r,xA r0 n0=some r->∀ {I:Imm}{aw:Nat}{p c},(S4 I p r0.b c)->RT 73 [vP aw 0,vI n0] I [hB aw (cRd r0 p c)] (zCx aw r):=by
 intro r0 n0 r N I aw p c h;unfold xA at N;refine yJ func73 fun B=>?_;have H:=iS I;refine wP []<|yX<|yB 8 [0] [12,14] rfl<|xJ 0 [vS p r0.b c,vI (W (r0.p+1))] rfl<|yD rfl<|zX<|zZ ?_;refine wO N [hB aw [vS p r0.b c,vI (W (r0.p+1))]] (fun t24=>[(0,vP aw 0),(1,vI n0),(24,.bool t24)]) (fun o0 aD=>?_) ?_
 · have H:=iS I;refine zJ<|yB 3 [] [17] rfl<|xV [17] aD ?_ ?_
   · intro hc N;exact wG [] [(24,vY)]<|yL<|zU (ct N H)
   intro hc N;exact yH [0] [24] rfl<|yL<|zU (ct N H)
 intro t24 I0 le aU;have h:=h.mono le;refine zG<|yC aU ?_ ?_
 · intro aI N;refine yF [4] rfl<|xD<|zH ?_;obtain rfl:=zC N;exact yZ ⟨_,_,(.tmp rfl ResV.nil),(zW [0] rfl (by decide)),⟨_,_,rfl,rfl,rfl,(yR ⟨_,rfl,h⟩)⟩⟩
 intro aI N;refine zS<|yX<|yH [0] [5] rfl<|zX<|yE<|yH [0] [36] rfl<|zG<|yC N ?_ ?_
 · intro aX N;refine yE<|yB 5 [0] [40,41] rfl<|bE N fun x hy N=>xK rfl rfl h hy ?_;intro ad aQ ar ap;obtain rfl:=ap;refine xB 0 ar [.int .u8 (x.toNat:Int)] (.int .u8 (x.toNat:Int)) rfl<|yB 9 [] [44,45] rfl<|bE N fun q aB N=>zQM rfl aB<|yH [] [4] rfl<|xD<|zH ?_;obtain rfl:=zC N;exact yZ ⟨_,_,(.tmp rfl ResV.nil),(zW [0] rfl (by decide)),⟨_,_,rfl,rfl,rfl,(yR ⟨_,rfl,h⟩)⟩⟩
 intro aX N;refine zS<|zX<|kF (by kernel_rfl) (by kernel_rfl)<|fL 10 [0,0] [50,51,56] rfl<|bE N fun q1 aN N=>zPG rfl aN<|bE N fun x1 bm N=>dQ rfl rfl h bm ?_;intro ad1 bv av ax;obtain rfl:=ax;refine gX 0 av [.int .u8 (x1.toNat:Int)] (.int .u8 (x1.toNat:Int)) rfl<|fL 27 [0,0] [61,65,68,73] rfl<|bE N fun q2 bw N=>zPG rfl bw<|bE N fun x2 bI N=>dQ rfl rfl h bI ?_;intro ad2 bP aY bd;obtain rfl:=bd;refine gX 0 aY [.int .u8 (x2.toNat:Int)] (.int .u8 (x2.toNat:Int)) rfl<|fL 42 [0] [82,83,88] rfl<|bE N fun q3 hy6 N=>zQL rfl hy6<|zGo [] [6] rfl<|wM [6] rfl<|yX<|yB 2 [] [96,97] rfl<|bE N fun q4 hy7 N=>zQM rfl hy7<|yH [] [4] rfl<|zG<|yW ?_;obtain rfl:=zC N;exact yZ ⟨_,_,(.tmp rfl ResV.nil),(zW [0] rfl (by decide)),⟨_,_,rfl,rfl,rfl,(yR ⟨_,rfl,h⟩)⟩⟩
def zDh (b0:Nat) (r:Int×zN):KT:=fun kk I' ah v=>
  ∃ v0 k0,ah=[.blk b0 ⟨k0⟩]/\v=tupV [v0]/\v0=.int .i64 r.1/\Rp.rep I' k0 r.2
def yV (r0:zN) (list:(List Int)):Option (Int×zN):=do
 let (y1,y2)<-xA r0 (list.length:Int)
 let x<-idx list y1
 pure (x,y2)
theorem xE:∀ r0 list r,yV r0 list=some r->∀ {I:Imm}{aw:Nat}{p c p1 c1},(S4 I p r0.b c)->(S4 I p1 list c1)->RT 29 [vP aw 0,vS p1 list c1] I [hB aw (cRd r0 p c)] (zDh aw r):=by
 intro r0 list r N I aw p c p1 c1 h h1;unfold yV at N;refine yJ func29 fun B=>wP []<|yX<|yB 4 [] [5,6,8] rfl ?_;obtain ⟨⟨y1,y2⟩,hy,N⟩:=zB N;refine sJ (xR r0 (list.length:Int) _ hy h) rfl ?_;rintro I0 ay v2 k2 le - ⟨v0,kk,rfl,rfl,rfl,h3⟩ -;have h1:=h1.mono le;obtain ⟨p2,c2,rfl,h4⟩:=yA h3;obtain ⟨x,aB,N⟩:=zB N;refine xK rfl rfl h1 aB ?_;intro ad aQ ar ap;obtain rfl:=ap;refine xB 0 ar [vI x] (vI x) rfl<|yH [] [4] rfl<|zG<|yW ?_;obtain rfl:=zC N;exact yZ ⟨_,_,(.tmp rfl ResV.nil),(zW [0] rfl (by decide)),⟨_,_,rfl,rfl,rfl,(yR ⟨_,rfl,h4⟩)⟩⟩
def zGF (r:(List zE)):KT:=fun kk I' ah v=>
  ∃ v0,ah=[]/\v=tupV [v0]/\SL I' v0 r
def rE (nest:(List zE)) (i:Int) (k0:Int) (Lo:List zA):Option (List zA):=do
 let x<-idx nest i
 if (decide (k0<(x.Lo.length:Int))) then
  let x1<-idx nest i
  let x2<-idx x1.Lo k0
  let l<-app 8 ([]:List Int) x2.Coefs
  let l1<-app 32 Lo ([(zA.mk l x2.Const)]:List zA)
  rE nest i (W (k0+1)) l1
 else
  pure (id Lo)
 partial_fixpoint
theorem zBP (nest:(List zE)) (i:Int):∀ (k0:Int) (Lo:List zA) (o:List zA),rE nest i k0 Lo=some o->∀ {B}{I0 I:Imm}{Q}{τ:Type} [Rp τ] {out:List τ}{p c p1 c1 cs}{b1:Nat}{p3 c3 aS},I0.le I->(S4 I p nest c)->(RL I cs out)->(RL I aS Lo)->NG Q->NO Q->(∀ (I':Imm) (Lo1:List zA) (p4:Option Addr) (c4:Nat) (aT:List Value),o=Lo1->I0.le I'->(RL I' aT Lo1)->T 83 B Q (.exit 2) I' [hO zA (vS p4 Lo1 c4) aT,hB b1 [vS p4 Lo1 c4,z0],hO τ (vS p1 out c1) cs] [(0,vS p nest c),(3,vS p1 out c1),(4,vI i),(5,vP b1 0)])->J Tryz.prog 83 B (nav (bodyOf f150) [1,1,0,1,0,0,1,0,0,1,0,1,0]) Q I [hO zA (vS p3 Lo c3) aS,hB b1 [vS p3 Lo c3,z0],hO τ (vS p1 out c1) cs] [(0,vS p nest c),(3,vS p1 out c1),(4,vI i),(5,vP b1 0),(6,vI k0)]:=by
 refine rE.partial_correctness nest i _ fun aJ ih k0 Lo o N B I0 I Q τ _ out p c p1 c1 cs b1 p3 c3 aS H h h2 h5 hg ho hx=>yM hg ho<|zZ<|yE<|yB 3 [] [18,19,20] rfl<|bE N fun x hy N=>xK rfl rfl h hy ?_;intro ad aQ ar ap;obtain ⟨p5,c5,p6,c6,rfl,h7,h8⟩:=sR ap;refine yB 5 [] [22] rfl<|xB 0 ar [vS p5 x.Lo c5] (vS p5 x.Lo c5) rfl<|yH [] [25] rfl<|zG<|yC N ?_ ?_
 · intro aI N;refine zS<|zX<|yG<|yE<|yB 2 [] [28,29] rfl<|bE N fun x1 aB N=>xK rfl rfl h aB ?_;intro ad1 bv av ax;obtain ⟨p7,c7,p8,c8,rfl,h9,h10⟩:=sR ax;refine yB 4 [] [31] rfl<|xB 0 av [vS p7 x1.Lo c7] (vS p7 x1.Lo c7) rfl<|yB 6 [] [33] rfl<|bE N fun x2 aN N=>xK rfl rfl h9 aN ?_;intro ad2 bP aY bd;obtain ⟨p9,c9,rfl,h11⟩:=yQ bd;refine xB 0 aY (cAff x2 p9 c9) (vA (cAff x2 p9 c9)) rfl<|wS [z0,vI 0] ?_;intro b2 hb2;refine xJ 0 (cAff x2 p9 c9) rfl<|yD rfl<|zG ?_;obtain ⟨l,bm,N⟩:=zB N;obtain ⟨l1,bw,N⟩:=zB N;refine wQ [.p (vP b1 0) [],.p (vS p3 Lo c3) [1],.x (fun I' v hx=>∃ b3,v=vS (some ⟨b3,0,none⟩) ([]:List Int) 0/\hx=[hO Int (vS (some ⟨b3,0,none⟩) ([]:List Int) 0) []]/\(RL I' [] ([]:List Int))),.p (vP b2 0) [],.p (vS p9 x2.Coefs c9) [0],.x (fun I' v hx=>∃ bi bh bt,v=vS bi l bh/\hx=[hO Int (vS bi l bh) bt]/\(RL I' bt l)),.p (vP b2 1) [],.p (vI x2.Const) [0],.x (fun I' v hx=>∃ p101 c101 cs41,v=vA [vS p101 l c101,vI x2.Const]/\hx=[hO Int (vS p101 l c101) cs41]/\(RL I' cs41 l)),.x (fun I' v hx=>∃ b4,v=vS (some ⟨b4,0,none⟩) ([(zA.mk l x2.Const)]:List zA) 1/\hx=[]/\(SL I' (vS (some ⟨b4,0,none⟩) ([(zA.mk l x2.Const)]:List zA) 1) ([(zA.mk l x2.Const)]:List zA))),.x (fun I' v hx=>∃ aR bc bJ,v=vS aR l1 bc/\hx=[hO zA (vS aR l1 bc) bJ]/\(RL I' bJ l1))] [[],[(0,false)],[],[],[(3,false)],[(2,true),(4,false)],[],[(6,false)],[(5,true),(7,false)],[(8,true)],[(1,false),(9,false),(13,true)]] [hB b2 (cAff x2 p9 c9),hB b1 [vS p3 Lo c3,z0],hO τ (vS p1 out c1) cs] [[hO zA (vS p3 Lo c3) aS]] [(10,true)] (zY [0,2,3,1]) ?_ ?_
   · refine Op<|Op<|Ox ?_<|Op<|Op<|Ox ?_<|Op<|Op<|Ox ?_<|Ox ?_<|Ox ?_<|On
     · intro I1 hf af;refine I_h []<|uK [] Int ?_;intro b3 hb3;have h12:RL I1 [] ([]:List Int):=rfl;exact yN [hO Int (vS (some ⟨b3,0,none⟩) ([]:List Int) 0) []] iR ⟨_,rfl,rfl,h12⟩
     · rintro I1 hf af _ _ ⟨b3,rfl,rfl,h12⟩;refine yT [38,40] rfl ?_;have h11:=h11.mono af;obtain ⟨ccs3,k01,k02⟩:=h11;have h11:SL I1 (vS p9 x2.Coefs c9) x2.Coefs:=⟨_,k01,k02⟩;exact sU 3 1 0 rfl rfl rfl h12 (.inl k01) k02 bm fun bi bh bt h13=>wN (ah:=(hO Int (vS bi l bh) bt::hB b2 (cAff x2 p9 c9)::hB b1 [vS p3 Lo c3,z0]::hO τ (vS p1 out c1) cs::hf)) rfl<|yN [hO Int (vS bi l bh) bt] iR ⟨_,_,_,rfl,rfl,h13⟩
     · rintro I1 hf af _ _ ⟨bi,bh,bt,rfl,rfl,h13⟩;exact yT [41,43] rfl<|mE 9 [(44,vA [vS bi l bh,vI x2.Const])]<|yN [hO Int (vS bi l bh) bt] iR ⟨_,_,_,rfl,rfl,h13⟩
     · rintro I1 hf af _ _ ⟨p101,c101,cs41,rfl,rfl,h131⟩;refine yT [44] rfl ?_;have H:=iS I1;refine xH 0 rfl ?_;intro I0 le hl0;have h14:=SL.of_frozen hl0 le h131;have H:=H.trans le;refine mN (rc (zA.mk l x2.Const) (yO ⟨_,rfl,h14⟩) rN) ?_;intro b4 aW af h16;have H:=H.trans af;exact yN [] H ⟨_,rfl,rfl,h16⟩
     rintro I1 hf af _ _ ⟨rfl,rfl⟩ _ _ ⟨b4,rfl,rfl,h16⟩ _ _ rfl;refine yT [37,45] rfl ?_;have h5:=iM af h5;obtain ⟨ccs4,k03,k04⟩:=h16;have h16:SL I1 (vS (some ⟨b4,0,none⟩) ([(zA.mk l x2.Const)]:List zA) 1) ([(zA.mk l x2.Const)]:List zA):=⟨_,k03,k04⟩;exact sU 95 2 0 rfl rfl rfl h5 (.inl k03) k04 bw fun aR bc bJ h17=>wN (ah:=(hO zA (vS aR l1 bc) bJ::hB b2 (cAff x2 p9 c9)::hB b1 [vS p3 Lo c3,z0]::hO τ (vS p1 out c1) cs::hf)) rfl<|yN [hO zA (vS aR l1 bc) bJ] iR ⟨_,_,_,rfl,rfl,h17⟩
   rintro ba aF _ _ ⟨aR,bc,bJ,rfl,rfl,h17⟩;refine yT [0,3,4,5,6,46] rfl ?_;have ⟨h,h2,H⟩:=m3 aF h h2 H;exact yB 12 [] [47] rfl<|xJ 2 [vS aR l1 bc,z0] rfl<|yD rfl<|zM<|zG<|zJ<|yH [] [6] rfl<|yK<|kE (zW [0,2,3] rfl (by decide))<|oY<|ih (W (k0+1)) l1 _ N H h h2 h17 hg ho hx
 intro aI N;exact wJ<|yL<|hx _ _ _ _ _ (zC N).symm H h5
def rF (nest:(List zE)) (i:Int) (k05:Int) (Hi:List zA):Option (List zA):=do
 let x3<-idx nest i
 if (decide (k05<(x3.Hi.length:Int))) then
  let x4<-idx nest i
  let x5<-idx x4.Hi k05
  let l2<-app 8 ([]:List Int) x5.Coefs
  let l3<-app 32 Hi ([(zA.mk l2 x5.Const)]:List zA)
  rF nest i (W (k05+1)) l3
 else
  pure (id Hi)
 partial_fixpoint
theorem zBQ (nest:(List zE)) (i:Int):∀ (k05:Int) (Hi:List zA) (o:List zA),rF nest i k05 Hi=some o->∀ {B}{I0 I:Imm}{Q}{τ:Type} [Rp τ] {out:List τ}{Lo1:List zA}{p c p1 c1 cs}{b1:Nat}{p4 c4 aT bD bo cs6},I0.le I->(S4 I p nest c)->(RL I cs out)->(RL I aT Lo1)->(RL I cs6 Hi)->NG Q->NO Q->(∀ (I':Imm) (Hi1:List zA) (bq:Option Addr) (bB:Nat) (cs7:List Value),o=Hi1->I0.le I'->(RL I' cs7 Hi1)->T 83 B Q (.exit 4) I' [hO zA (vS bq Hi1 bB) cs7,hO zA (vS p4 Lo1 c4) aT,hB b1 [vS p4 Lo1 c4,vS bq Hi1 bB],hO τ (vS p1 out c1) cs] [(0,vS p nest c),(3,vS p1 out c1),(4,vI i),(5,vP b1 0)])->J Tryz.prog 83 B (nav (bodyOf f150) [1,1,0,1,0,0,1,0,0,1,1,0,1,0]) Q I [hO zA (vS bD Hi bo) cs6,hO zA (vS p4 Lo1 c4) aT,hB b1 [vS p4 Lo1 c4,vS bD Hi bo],hO τ (vS p1 out c1) cs] [(0,vS p nest c),(3,vS p1 out c1),(4,vI i),(5,vP b1 0),(8,vI k05)]:=by
 refine rF.partial_correctness nest i _ fun aJ ih k05 Hi o N B I0 I Q τ _ out Lo1 p c p1 c1 cs b1 p4 c4 aT bD bo cs6 H h h2 h6 h19 hg ho hx=>yM hg ho<|zZ<|yE<|yB 3 [] [48,49,50] rfl<|bE N fun x3 bI N=>xK rfl rfl h bI ?_;intro ad3 ccs5 hat3 bG;obtain ⟨p14,c14,p15,c15,rfl,h21,h22⟩:=sR bG;refine yB 5 [] [52] rfl<|xB 1 hat3 [vS p15 x3.Hi c15] (vS p15 x3.Hi c15) rfl<|yH [] [55] rfl<|zG<|yC N ?_ ?_
 · intro aX N;refine zS<|zX<|yG<|yE<|yB 2 [] [58,59] rfl<|bE N fun x4 hy6 N=>xK rfl rfl h hy6 ?_;intro ad4 ccs6 hat4 hrep4;obtain ⟨p16,c16,p17,c17,rfl,h23,h24⟩:=sR hrep4;refine yB 4 [] [61] rfl<|xB 1 hat4 [vS p17 x4.Hi c17] (vS p17 x4.Hi c17) rfl<|yB 6 [] [63] rfl<|bE N fun x5 hy7 N=>xK rfl rfl h24 hy7 ?_;intro ad5 ccs7 hat5 hrep5;obtain ⟨p18,c18,rfl,h25⟩:=yQ hrep5;refine xB 0 hat5 (cAff x5 p18 c18) (vA (cAff x5 p18 c18)) rfl<|wS [z0,vI 0] ?_;intro b5 hb5;refine xJ 0 (cAff x5 p18 c18) rfl<|yD rfl<|zG ?_;obtain ⟨l2,hy8,N⟩:=zB N;obtain ⟨l3,hy9,N⟩:=zB N;refine wQ [.p (vP b1 1) [],.p (vS bD Hi bo) [2],.x (fun I' v hx=>∃ b6,v=vS (some ⟨b6,0,none⟩) ([]:List Int) 0/\hx=[hO Int (vS (some ⟨b6,0,none⟩) ([]:List Int) 0) []]/\(RL I' [] ([]:List Int))),.p (vP b5 0) [],.p (vS p18 x5.Coefs c18) [0],.x (fun I' v hx=>∃ p19 c19 cs8,v=vS p19 l2 c19/\hx=[hO Int (vS p19 l2 c19) cs8]/\(RL I' cs8 l2)),.p (vP b5 1) [],.p (vI x5.Const) [0],.x (fun I' v hx=>∃ p191 c191 cs81,v=vA [vS p191 l2 c191,vI x5.Const]/\hx=[hO Int (vS p191 l2 c191) cs81]/\(RL I' cs81 l2)),.x (fun I' v hx=>∃ b7,v=vS (some ⟨b7,0,none⟩) ([(zA.mk l2 x5.Const)]:List zA) 1/\hx=[]/\(SL I' (vS (some ⟨b7,0,none⟩) ([(zA.mk l2 x5.Const)]:List zA) 1) ([(zA.mk l2 x5.Const)]:List zA))),.x (fun I' v hx=>∃ p20 c20 cs9,v=vS p20 l3 c20/\hx=[hO zA (vS p20 l3 c20) cs9]/\(RL I' cs9 l3))] [[],[(0,false)],[],[],[(3,false)],[(2,true),(4,false)],[],[(6,false)],[(5,true),(7,false)],[(8,true)],[(1,false),(9,false),(13,true)]] [hB b5 (cAff x5 p18 c18),hO zA (vS p4 Lo1 c4) aT,hB b1 [vS p4 Lo1 c4,vS bD Hi bo],hO τ (vS p1 out c1) cs] [[hO zA (vS bD Hi bo) cs6]] [(10,true)] (zY [0,2,3,4,1]) ?_ ?_
   · refine Op<|Op<|Ox ?_<|Op<|Op<|Ox ?_<|Op<|Op<|Ox ?_<|Ox ?_<|Ox ?_<|On
     · intro I1 hf af;refine I_h []<|uK [] Int ?_;intro b6 hb6;have h26:RL I1 [] ([]:List Int):=rfl;exact yN [hO Int (vS (some ⟨b6,0,none⟩) ([]:List Int) 0) []] iR ⟨_,rfl,rfl,h26⟩
     · rintro I1 hf af _ _ ⟨b6,rfl,rfl,h26⟩;refine yT [68,70] rfl ?_;have h25:=h25.mono af;obtain ⟨ccs8,k06,k07⟩:=h25;have h25:SL I1 (vS p18 x5.Coefs c18) x5.Coefs:=⟨_,k06,k07⟩;exact sU 3 1 0 rfl rfl rfl h26 (.inl k06) k07 hy8 fun p19 c19 cs8 h27=>wN (ah:=(hO Int (vS p19 l2 c19) cs8::hB b5 (cAff x5 p18 c18)::hO zA (vS p4 Lo1 c4) aT::hB b1 [vS p4 Lo1 c4,vS bD Hi bo]::hO τ (vS p1 out c1) cs::hf)) rfl<|yN [hO Int (vS p19 l2 c19) cs8] iR ⟨_,_,_,rfl,rfl,h27⟩
     · rintro I1 hf af _ _ ⟨p19,c19,cs8,rfl,rfl,h27⟩;exact yT [71,73] rfl<|mE 9 [(74,vA [vS p19 l2 c19,vI x5.Const])]<|yN [hO Int (vS p19 l2 c19) cs8] iR ⟨_,_,_,rfl,rfl,h27⟩
     · rintro I1 hf af _ _ ⟨p191,c191,cs81,rfl,rfl,h271⟩;refine yT [74] rfl ?_;have H:=iS I1;refine xH 0 rfl ?_;intro bL bk hl02;have h28:=SL.of_frozen hl02 bk h271;have H:=H.trans bk;refine mN (rc (zA.mk l2 x5.Const) (yO ⟨_,rfl,h28⟩) rN) ?_;intro b7 bR bz h30;have H:=H.trans bz;exact yN [] H ⟨_,rfl,rfl,h30⟩
     rintro I1 hf af _ _ ⟨rfl,rfl⟩ _ _ ⟨b7,rfl,rfl,h30⟩ _ _ rfl;refine yT [67,75] rfl ?_;have h19:=iM af h19;obtain ⟨ccs9,k08,k09⟩:=h30;have h30:SL I1 (vS (some ⟨b7,0,none⟩) ([(zA.mk l2 x5.Const)]:List zA) 1) ([(zA.mk l2 x5.Const)]:List zA):=⟨_,k08,k09⟩;exact sU 95 2 0 rfl rfl rfl h19 (.inl k08) k09 hy9 fun p20 c20 cs9 h31=>wN (ah:=(hO zA (vS p20 l3 c20) cs9::hB b5 (cAff x5 p18 c18)::hO zA (vS p4 Lo1 c4) aT::hB b1 [vS p4 Lo1 c4,vS bD Hi bo]::hO τ (vS p1 out c1) cs::hf)) rfl<|yN [hO zA (vS p20 l3 c20) cs9] iR ⟨_,_,_,rfl,rfl,h31⟩
   rintro I06 bC _ _ ⟨p20,c20,cs9,rfl,rfl,h31⟩;refine yT [0,3,4,5,8,76] rfl ?_;have ⟨h,h2,h6,H⟩:=m4 bC h h2 h6 H;exact yB 12 [] [77] rfl<|xJ 3 [vS p4 Lo1 c4,vS p20 l3 c20] rfl<|yD rfl<|zM<|zG<|zJ<|yH [] [8] rfl<|yK<|kE (zW [0,2,3,4] rfl (by decide))<|oY<|ih (W (k05+1)) l3 _ N H h h2 h6 h31 hg ho hx
 intro aX N;exact wJ<|yL<|hx _ _ _ _ _ (zC N).symm H h19
def uV (nest:(List zE)) (out:List zE) (i:Int):Option (List zE):=do
 if (decide (i<(nest.length:Int))) then
  let Lo1<-rE nest i 0 ([]:List zA)
  let Hi1<-rF nest i 0 ([]:List zA)
  let au<-app 48 out ([(zE.mk Lo1 Hi1)]:List zE)
  uV nest au (W (i+1))
 else
  pure (id out)
 partial_fixpoint
theorem zEy (nest:(List zE)):∀ (out:List zE) (i:Int) (o:List zE),uV nest out i=some o->∀ {B}{I0 I:Imm}{Q p c p1 c1 cs},I0.le I->(S4 I p nest c)->(RL I cs out)->NG Q->NO Q->(∀ (I':Imm) (al:List zE) (p2:Option Addr) (c2:Nat) (az:List Value),o=al->I0.le I'->(RL I' az al)->T 83 B Q (.exit 0) I' [hO zE (vS p2 al c2) az] [(3,vS p2 al c2)])->J Tryz.prog 83 B (nav (bodyOf f150) [1,1,0,1,0]) Q I [hO zE (vS p1 out c1) cs] [(0,vS p nest c),(3,vS p1 out c1),(4,vI i)]:=by
 refine uV.partial_correctness nest _ fun aJ ih out i o N B I0 I Q p c p1 c1 cs H h h2 hg ho hx=>yM hg ho<|zZ<|yF [14] rfl<|zG<|yC N ?_ ?_
 · intro hc N;refine zS<|zX<|yG<|yE<|yB 1 [] [17] rfl<|wS zTwo ?_;intro b1 hb1;refine zB5 0 zTwo [hB b1 zTwo,hO zE (vS p1 out c1) cs] rfl rfl rfl rfl<|yD rfl<|zX<|yF [6] rfl<|xX<|rU [(0,vS p nest c),(3,vS p1 out c1),(4,vI i),(5,vP b1 0),(6,vI 0)]<|zAI zA fun h4=>?_;obtain ⟨o0,aD,aM⟩:=zB N;refine zBP nest i 0 ([]:List zA) o0 aD iR h h2 h4 (fun _ _ _ h=>hg _ _ _ h) (fun _ _ h=>ho _ _ h) ?_;intro bH Lo1 p4 c4 aT heq aK h6;subst o0;have ⟨h,h2,H⟩:=m3 aK h h2 H;refine zR<|zX<|yF [8] rfl<|xX<|rU [(0,vS p nest c),(3,vS p1 out c1),(4,vI i),(5,vP b1 0),(8,vI 0)]<|zAI zA fun h18=>?_;obtain ⟨aP,aA,hMl1⟩:=zB aM;refine zBQ nest i 0 ([]:List zA) aP aA iR h h2 h6 h18 (fun _ _ _ h=>hg _ _ _ h) (fun _ _ h=>ho _ _ h) ?_;intro I07 Hi1 bq bB cs7 heq1 le7 h20;subst aP;have ⟨h,h2,h6,H⟩:=m4 le7 h h2 h6 H;refine zR<|zG<|zJ<|rQ 2 [2] [(78,vS p1 out c1),(79,vA [vS p4 Lo1 c4,vS bq Hi1 bB])]<|xH 1 rfl ?_;intro I08 le8 hl04;have h32:=SL.of_frozen hl04 le8 h6;have ⟨h,h2,h20,H⟩:=m4 le8 h h2 h20 H;refine xH 0 rfl ?_;intro I09 le9 hl05;have h33:=SL.of_frozen hl05 le9 h20;have ⟨h,h2,h32,H⟩:=m4 le9 h h2 h32 H;refine uK [vS p4 Lo1 c4,vS bq Hi1 bB] zE ?_;intro b8 hb8;have h34:RL I09 [vS p4 Lo1 c4,vS bq Hi1 bB] ([(zE.mk Lo1 Hi1)]:List zE):=⟨[vS p4 Lo1 c4,vS bq Hi1 bB],_,rfl,rfl,(qM ⟨_,_,rfl,h32,h33⟩),rfl⟩;obtain ⟨au,hy10,N⟩:=zB hMl1;exact sU 141 2 2 rfl rfl rfl h2 (.inr ⟨0,rfl⟩) h34 hy10 fun p21 c21 cs10 h35=>tZ (zY [1,2] (ah:=[hB b1 [vS p4 Lo1 c4,vS bq Hi1 bB],hO zE (vS p21 au c21) cs10]))<|yH [] [3] rfl<|zM<|zG<|zJ<|yH [] [4] rfl<|yK<|kE (zW [1] rfl (by decide))<|oY<|ih au (W (i+1)) _ N H h h35 hg ho hx
 intro hc N;exact wJ<|yL<|hx _ _ _ _ _ (zC N).symm H h2
def mV (nest:(List zE)):Option ((List zE)):=do
 let al<-uV nest ([]:List zE) 0
 pure (id al)
theorem zCy:∀ nest r,mV nest=some r->∀ {I:Imm}{p c},(S4 I p nest c)->RT 150 [vS p nest c] I [] (zGF  r):=by
 intro nest r N I p c h;unfold mV at N;refine yJ func150 fun B=>wP []<|yX<|uK [] zE ?_;intro b hb;have h1:RL I [] ([]:List zE):=rfl;refine yH [] [3] rfl<|zX<|yF [4] rfl<|xX<|rU [(0,vS p nest c),(3,vS (some ⟨b,0,none⟩) ([]:List zE) 0),(4,vI 0)] ?_;obtain ⟨o02,ho02,hMl2⟩:=zB N;refine zEy nest ([]:List zE) 0 o02 ho02 iR h h1 (fun _ _ _ h=>h) (fun _ _ h=>h) ?_;intro bS al p2 c2 az heq2 le10 h3;subst o02;refine zR<|wM [2] rfl<|xD<|yU 0 rfl ?_;intro bY le11 hl06;have h36:=SL.of_frozen hl06 le11 h3;obtain rfl:=zC hMl2;exact yZ ⟨_,_,(.tmp rfl ResV.nil),zQ,⟨_,rfl,rfl,h36⟩⟩
def gN (r:zA):KT:=fun kk I' ah v=>
  ∃ v0,ah=[]/\v=tupV [v0]/\(∃ cs,v0=.agg ⟨cs⟩/\Rp.rep I' cs r)
def sF (a0:zA):Option (zA):=do
 if ((a0.Coefs.length:Int)==0) then
  pure (zA.mk ([]:List Int) a0.Const)
 else
  let l<-app 8 ([]:List Int) a0.Coefs
  pure (zA.mk l a0.Const)
theorem zAU:∀ a0 r,sF a0=some r->∀ {I:Imm}{p c},(S4 I p a0.Coefs c)->RT 230 [vA (cAff a0 p c)] I [] (gN  r):=by
 intro a0 r N I p c h;unfold sF at N;refine yJ func230 fun B=>yE<|tO (cAff a0 p c) ?_;intro b hb;refine wS [z0,vI 0] ?_;intro b1 hb1;refine yD rfl<|zX<|yE<|yH [1] [6] rfl<|zG<|yC N ?_ ?_
 · intro hc N;refine yE<|rQ 3 [1] [(9,vA [z0,vI a0.Const])]<|xJ 0 [z0,vI a0.Const] rfl<|yD rfl<|xD<|zH ?_;obtain rfl:=zC N;exact yZ ⟨_,_,(.cell 0 rfl rfl (by kernel_rfl) ResV.nil),zQ,⟨_,rfl,rfl,⟨_,rfl,(yO ⟨_,rfl,(SL.nil _)⟩)⟩⟩⟩
 intro hc N;refine zS<|zX<|bE N fun l hy N=>wQ [.x (fun I' v hx=>∃ b2,v=vS (some ⟨b2,0,none⟩) ([]:List Int) 0/\hx=[hO Int (vS (some ⟨b2,0,none⟩) ([]:List Int) 0) []]/\(RL I' [] ([]:List Int))),.p (vP b 0) [],.p (vS p a0.Coefs c) [1],.x (fun I' v hx=>∃ p1 c1 cs,v=vS p1 l c1/\hx=[hO Int (vS p1 l c1) cs]/\(RL I' cs l)),.p (vP b 1) [],.p (vI a0.Const) [1],.x (fun I' v hx=>∃ aR bc az,v=vA [vS aR l bc,vI a0.Const]/\hx=[hO Int (vS aR l bc) az]/\(RL I' az l))] [[],[],[(1,false)],[(0,true),(2,false)],[],[(4,false)],[(3,true),(5,false)]] [hB b1 [z0,vI 0],hB b (cAff a0 p c)] [] [(6,true)] (zY [0,1]) ?_ ?_
 · refine Ox ?_<|Op<|Op<|Ox ?_<|Op<|Op<|Ox ?_<|On
   · intro I1 hf af;refine I_h []<|uK [] Int ?_;intro b2 hb2;have h1:RL I1 [] ([]:List Int):=rfl;exact yN [hO Int (vS (some ⟨b2,0,none⟩) ([]:List Int) 0) []] iR ⟨_,rfl,rfl,h1⟩
   · rintro I1 hf af _ _ ⟨b2,rfl,rfl,h1⟩;refine yT [10,12] rfl ?_;have h:=h.mono af;obtain ⟨aQ,k0,k01⟩:=h;have h:SL I1 (vS p a0.Coefs c) a0.Coefs:=⟨_,k0,k01⟩;exact sU 3 1 0 rfl rfl rfl h1 (.inl k0) k01 hy fun p1 c1 cs h2=>wN (ah:=(hO Int (vS p1 l c1) cs::hB b1 [z0,vI 0]::hB b (cAff a0 p c)::hf)) rfl<|yN [hO Int (vS p1 l c1) cs] iR ⟨_,_,_,rfl,rfl,h2⟩
   rintro I1 hf af _ _ ⟨p1,c1,cs,rfl,rfl,h2⟩;exact yT [13,15] rfl<|mE 7 [(16,vA [vS p1 l c1,vI a0.Const])]<|yN [hO Int (vS p1 l c1) cs] iR ⟨_,_,_,rfl,rfl,h2⟩
 rintro I0 le _ _ ⟨aR,bc,az,rfl,rfl,h21⟩;refine yT [2,16] rfl ?_;refine xJ 1 [vS aR l bc,vI a0.Const] rfl<|yD rfl<|xD<|yU 0 rfl ?_;intro aW af hl0;have h3:=SL.of_frozen hl0 af h21;obtain rfl:=zC N;exact yZ ⟨_,_,(.cell 0 rfl rfl (by kernel_rfl) ResV.nil),zQ,⟨_,rfl,rfl,⟨_,rfl,(yO ⟨_,rfl,h3⟩)⟩⟩⟩
def zCO (r:zL):KT:=fun kk I' ah v=>
  ∃ a0_1 c0_1 s0_1,ah=[.osl (.slice a0_1 r.Subs.length c0_1) (Rp.sz zA) s0_1]/\v=tupV [(.agg ⟨[.string ⟨⟨r.Array.l⟩⟩,.slice a0_1 r.Subs.length c0_1]⟩)]/\RepL (Rp.rep I') (Rp.sz zA) s0_1 r.Subs
def wK (a0:zL) (i:Int) (Subs:List zA):Option (List zA):=do
 if (decide (i<(a0.Subs.length:Int))) then
  let x<-idx a0.Subs i
  let y<-sF x
  let l<-app 32 Subs ([y]:List zA)
  wK a0 (W (i+1)) l
 else
  pure (id Subs)
 partial_fixpoint
theorem zBk (a0:zL):∀ (i:Int) (Subs:List zA) (o:List zA),wK a0 i Subs=some o->∀ {B}{I0 I:Imm}{Q p c}{b:Nat}{b1:Nat}{b2:Nat}{p1 c1 cs},I0.le I->(S4 I p a0.Subs c)->(RL I cs Subs)->NG Q->NO Q->(∀ (I':Imm) (Subs1:List zA) (p2:Option Addr) (c2:Nat) (az:List Value),o=Subs1->I0.le I'->(RL I' az Subs1)->T 27 B Q (.exit 0) I' [hO zA (vS p2 Subs1 c2) az,hB b2 [vT a0.Array.l,vS p2 Subs1 c2],hB b1 [vT ([]),z0]] [(2,vP b1 0),(3,vP b2 0)])->J Tryz.prog 27 B (nav (bodyOf f192) [1,1,0,1,0]) Q I [hO zA (vS p1 Subs c1) cs,hB b2 [vT a0.Array.l,vS p1 Subs c1],hB b1 [vT ([]),z0],hB b (cAccess a0 p c)] [(1,vP b 0),(2,vP b1 0),(3,vP b2 0),(4,vI i)]:=by
 refine wK.partial_correctness a0 _ fun aJ ih i Subs o N B I0 I Q p c b b1 b2 p1 c1 cs H h h2 hg ho hx=>yM hg ho<|zZ<|yE<|yH [3] [12] rfl<|zG<|yC N ?_ ?_
 · intro hc N;refine zS<|zX<|yG ?_;obtain ⟨x,hy,N⟩:=zB N;obtain ⟨y,aB,N⟩:=zB N;obtain ⟨l,aN,N⟩:=zB N;refine wQ [.p (vP b2 1) [],.p (vS p1 Subs c1) [0],.p (vP b 1) [],.p (vS p a0.Subs c) [2],.p (vI i) [],.x (ePAff x),.x (eVAff x),.x (eVAff y),.x (fun I' v hx=>∃ b3,v=vS (some ⟨b3,0,none⟩) ([y]:List zA) 1/\hx=[]/\(SL I' (vS (some ⟨b3,0,none⟩) ([y]:List zA) 1) ([y]:List zA))),.x (fun I' v hx=>∃ p5 c5 aT,v=vS p5 l c5/\hx=[hO zA (vS p5 l c5) aT]/\(RL I' aT l))] [[],[(0,false)],[],[(2,false)],[],[(3,false),(4,false)],[(5,false)],[(6,false)],[(7,false)],[(1,false),(8,false),(12,true)]] [hB b2 [vT a0.Array.l,vS p1 Subs c1],hB b1 [vT ([]),z0],hB b (cAccess a0 p c)] [[hO zA (vS p1 Subs c1) cs]] [(9,true)] (zY [1,2,3,0]) ?_ ?_
   · refine Op<|Op<|Op<|Op<|Op<|Ox ?_<|Ox ?_<|Ox ?_<|Ox ?_<|Ox ?_<|On
     · intro I1 hf af;refine yT [18,19] rfl ?_;have h:=h.mono af;refine xK rfl rfl h hy ?_;intro ad aQ ar ap;obtain ⟨p3,c3,rfl,h4⟩:=yQ ap;exact yN [] iR ⟨_,_,_,rfl,rfl,ar,h4⟩
     · rintro I1 hf af _ _ ⟨ad,p3,c3,rfl,rfl,ar,h4⟩;exact yT [20] rfl<|xB 0 ar (cAff x p3 c3) (vA (cAff x p3 c3)) rfl<|yN [] iR ⟨_,_,rfl,rfl,h4⟩
     · rintro I1 hf af _ _ ⟨p31,c31,rfl,rfl,h41⟩;refine yT [21] rfl ?_;have H:=iS I1;refine xL (zAU x _ aB h41) ?_;rintro I0 ay v2 k2 le - ⟨v01,rfl,rfl,⟨aS,rfl,h5⟩⟩ -;have H:=H.trans le;obtain ⟨p4,c4,rfl,h6⟩:=yQ h5;exact yN [] H ⟨_,_,rfl,rfl,h6⟩
     · rintro I1 hf af _ _ ⟨p4,c4,rfl,rfl,h6⟩;refine yT [22] rfl ?_;have H:=iS I1;refine mN (rc y (yO ⟨_,rfl,h6⟩) rN) ?_;intro b3 aW af h8;have H:=H.trans af;exact yN [] H ⟨_,rfl,rfl,h8⟩
     rintro I1 hf af _ _ ⟨rfl,rfl⟩ _ _ ⟨b3,rfl,rfl,h8⟩ _ _ rfl;refine yT [16,23] rfl ?_;have h2:=iM af h2;obtain ⟨bv,k0,k01⟩:=h8;have h8:SL I1 (vS (some ⟨b3,0,none⟩) ([y]:List zA) 1) ([y]:List zA):=⟨_,k0,k01⟩;exact sU 95 2 0 rfl rfl rfl h2 (.inl k0) k01 aN fun p5 c5 aT h9=>wN (ah:=(hO zA (vS p5 l c5) aT::hB b2 [vT a0.Array.l,vS p1 Subs c1]::hB b1 [vT ([]),z0]::hB b (cAccess a0 p c)::hf)) rfl<|yN [hO zA (vS p5 l c5) aT] iR ⟨_,_,_,rfl,rfl,h9⟩
   rintro ba aF _ _ ⟨p5,c5,aT,rfl,rfl,h9⟩;refine yT [1,2,3,4,24] rfl ?_;have ⟨h,H⟩:=m2 aF h H;exact yB 11 [] [25] rfl<|xJ 1 [vT a0.Array.l,vS p5 l c5] rfl<|yD rfl<|zM<|zG<|zJ<|yH [] [4] rfl<|yK<|oY<|ih (W (i+1)) l _ N H h h9 hg ho hx
 intro hc N;exact wJ<|xQ (zW [0,1,2] rfl (by decide))<|yL<|hx _ _ _ _ _ (zC N).symm H h2
def uQ (a0:zL):Option (zL):=do
 let Subs1<-wK a0 0 ([]:List zA)
 pure (zL.mk a0.Array Subs1)
theorem fQ:∀ a0 r,uQ a0=some r->∀ {I:Imm}{p c},(S4 I p a0.Subs c)->RT 192 [vA (cAccess a0 p c)] I [] (zCO  r):=by
 intro a0 r N I p c h;unfold uQ at N;refine yJ func192 fun B=>yE<|tO (cAccess a0 p c) ?_;intro b hb;refine wS [vT ([]),z0] ?_;intro b1 hb1;refine yD rfl<|yX<|rQ 3 [1] [(7,vA [vT a0.Array.l,z0])]<|wS [vT ([]),z0] ?_;intro b2 hb2;refine xJ 0 [vT a0.Array.l,z0] rfl<|yD rfl<|zX<|yF [4] rfl<|xX<|rU [(1,vP b 0),(2,vP b1 0),(3,vP b2 0),(4,vI 0)]<|zAI zA fun h1=>?_;obtain ⟨o0,aD,aM⟩:=zB N;refine zBk a0 0 ([]:List zA) o0 aD iR h h1 (fun _ _ _ h=>h) (fun _ _ h=>h) ?_;intro bH Subs1 p2 c2 az heq aK h3;subst o0;refine zR<|yX<|rQ 1 [1] [(26,vA [vT a0.Array.l,vS p2 Subs1 c2])]<|xJ 2 [vT a0.Array.l,vS p2 Subs1 c2] rfl<|yD rfl<|zG<|yW ?_;obtain rfl:=zC aM;exact yZ ⟨_,_,(.cell 2 rfl rfl (by kernel_rfl) ResV.nil),(zW [0] rfl (by decide)),⟨_,_,_,rfl,rfl,h3⟩⟩
def zAV (r:zI):KT:=fun kk I' ah v=>
  ∃ a0_2 c0_2 a0_5 c0_5 a0_6 c0_6 s0_6,ah=[.osl (.slice a0_6 r.Kids.length c0_6) (Rp.sz zI) s0_6]/\v=tupV [(.agg ⟨[.int .i64 r.Kind,.int .i64 r.Num,.slice a0_2 r.Index.Coefs.length c0_2,.int .i64 r.Index.Const,.string ⟨⟨r.Read.Array.l⟩⟩,.slice a0_5 r.Read.Subs.length c0_5,.slice a0_6 r.Kids.length c0_6]⟩)]/\SL I' (.slice a0_2 r.Index.Coefs.length c0_2) r.Index.Coefs/\SL I' (.slice a0_5 r.Read.Subs.length c0_5) r.Read.Subs/\RepL (Rp.rep I') (Rp.sz zI) s0_6 r.Kids
mutual
def pS (e0:zI):Option (zI):=do
 let y<-sF e0.Index
 let y1<-uQ e0.Read
 let Kids1<-uF (same e0) (same 0) ([]:List zI)
 pure (zI.mk e0.Kind e0.Num y (zL.mk y1.Array y1.Subs) Kids1)
 partial_fixpoint
def uF (e0:zI) (i:Int) (Kids:List zI):Option (List zI):=do
 if (decide (i<(e0.Kids.length:Int))) then
  let x<-idx e0.Kids i
  let y2<-pS (same x)
  let l<-app 112 Kids ([y2]:List zI)
  uF (same e0) (W (i+1)) (same l)
 else
  pure (id Kids)
 partial_fixpoint
end
theorem zDi:(∀ (e0:zI) r,pS e0=some r->∀ {I:Imm}{p c p1 c1 p2 c2},(S4 I p e0.Index.Coefs c)->(S4 I p1 e0.Read.Subs c1)->(S4 I p2 e0.Kids c2)->RT 193 [vA (cExpr e0 p c p1 c1 p2 c2)] I [] (zAV  r))/\(∀ (e0:zI) (i:Int) (Kids:List zI) o,uF e0 i Kids=some o->∀ {B}{I0 I:Imm}{Q}{y:zA}{y1:zL}{p c p1 c1 p2 c2}{b:Nat}{b1:Nat}{p31 c31 p41 c41 cs11}{b2:Nat}{p5 c5 aS},I0.le I->(S4 I p31 y.Coefs c31)->(RL I cs11 y1.Subs)->(S4 I p e0.Index.Coefs c)->(S4 I p1 e0.Read.Subs c1)->(S4 I p2 e0.Kids c2)->(RL I aS Kids)->NG Q->NO Q->(∀ (I':Imm) (Kids1:List zI) (p6:Option Addr) (c6:Nat) (aT:List Value),o=Kids1->I0.le I'->(RL I' aT Kids1)->T 35 B Q (.exit 0) I' [hO zI (vS p6 Kids1 c6) aT,hB b2 [vI e0.Kind,vI e0.Num,vS p31 y.Coefs c31,vI y.Const,vT y1.Array.l,vS p41 y1.Subs c41,vS p6 Kids1 c6],hO zA (vS p41 y1.Subs c41) cs11,hB b1 zExpr] [(2,vP b1 0),(3,vP b2 0)])->J Tryz.prog 35 B (nav (bodyOf f193) [1,1,0,1,0]) Q I [hO zI (vS p5 Kids c5) aS,hB b2 [vI e0.Kind,vI e0.Num,vS p31 y.Coefs c31,vI y.Const,vT y1.Array.l,vS p41 y1.Subs c41,vS p5 Kids c5],hO zA (vS p41 y1.Subs c41) cs11,hB b1 zExpr,hB b (cExpr e0 p c p1 c1 p2 c2)] [(1,vP b 0),(2,vP b1 0),(3,vP b2 0),(4,vI i)]):=by
  refine pS.mutual_partial_correctness _ _ ?_ ?_
  · intro F_spec_l3CopyExpr_l1 ih_spec_l3CopyExpr_l1 e0 r N I p c p1 c1 p2 c2 h h1 h2;refine yJ func193 fun B=>?_;have H:=iS I;refine yE<|tO (cExpr e0 p c p1 c1 p2 c2) ?_;intro b hb;refine wS zExpr ?_;intro b1 hb1;refine yD rfl<|zG<|zZ ?_;obtain ⟨y,hy,N⟩:=zB N;obtain ⟨y1,aB,N⟩:=zB N;refine wQ [.p (vP b 0) [],.p (vI e0.Kind) [1],.p (vP b 1) [],.p (vI e0.Num) [1],.p (vP b 2) [],.p (vA (cAff e0.Index p c)) [1],.x (eVAff y),.p (vP b 4) [],.p (vA (cAccess e0.Read p1 c1)) [1],.x (fun I' v hx=>∃ p4 c4 az,v=vA (cAccess y1 p4 c4)/\hx=[hO zA (vS p4 y1.Subs c4) az]/\(RL I' az y1.Subs)),.x (fun I' v hx=>∃ p31 c31 p41 c41 cs11,v=vA [vI e0.Kind,vI e0.Num,vS p31 y.Coefs c31,vI y.Const,vT y1.Array.l,vS p41 y1.Subs c41,z0]/\hx=[hO zA (vS p41 y1.Subs c41) cs11]/\(S4 I' p31 y.Coefs c31)/\(RL I' cs11 y1.Subs)),.x (fun I' v hx=>∃ b2,v=vP b2 0/\hx=[hB b2 zExpr])] [[],[(0,false)],[],[(2,false)],[],[(4,false)],[(5,false)],[],[(7,false)],[(8,false)],[(1,false),(3,false),(6,false),(9,true)],[]] [hB b1 zExpr,hB b (cExpr e0 p c p1 c1 p2 c2)] [] [(10,true),(11,true)] (zY [0,1]) ?_ ?_
    · refine Op<|Op<|Op<|Op<|Op<|Op<|Ox ?_<|Op<|Op<|Ox ?_<|Ox ?_<|Ox ?_<|On
      · intro I1 hf af;refine yT [10] rfl ?_;have H:=iS I1;have h:=h.mono af;refine xL (zAU e0.Index _ hy h) ?_;rintro I0 ay v2 k2 le - ⟨v0,rfl,rfl,⟨cs,rfl,h3⟩⟩ -;have H:=H.trans le;obtain ⟨p3,c3,rfl,h4⟩:=yQ h3;exact yN [] H ⟨_,_,rfl,rfl,h4⟩
      · intro I1 hf af;refine yT [13] rfl ?_;have H:=iS I1;have h1:=h1.mono af;refine xL (fQ e0.Read _ aB h1) ?_;rintro aW ay v2 k2 af - ⟨p4,c4,az,rfl,rfl,h5⟩ -;have H:=H.trans af;exact yN [hO zA (vS p4 y1.Subs c4) az] H ⟨_,_,_,rfl,rfl,h5⟩
      · rintro I1 hf af _ _ ⟨rfl,rfl⟩ _ _ ⟨rfl,rfl⟩ _ _ ⟨p3,c3,rfl,rfl,h4⟩ _ _ ⟨p4,c4,az,rfl,rfl,h5⟩;exact yT [6,8,11,14] rfl<|mE 11 [(15,vA [vI e0.Kind,vI e0.Num,vS p3 y.Coefs c3,vI y.Const,vT y1.Array.l,vS p4 y1.Subs c4,z0])]<|yN [hO zA (vS p4 y1.Subs c4) az] iR ⟨_,_,_,_,_,rfl,rfl,h4,h5⟩
      intro I1 hf af;refine I_h []<|wS zExpr ?_;intro b2 hb2;exact yN [hB b2 zExpr] iR ⟨_,rfl,rfl⟩
    rintro ba aF _ _ ⟨p31,c31,p41,c41,cs11,rfl,rfl,h41,h51⟩ _ _ ⟨b2,rfl,rfl⟩;refine yT [1,2,3,15] rfl ?_;have ⟨h,h1,h2⟩:=m3 aF h h1 h2;refine xJ 0 [vI e0.Kind,vI e0.Num,vS p31 y.Coefs c31,vI y.Const,vT y1.Array.l,vS p41 y1.Subs c41,z0] rfl<|yD rfl<|zX<|yF [4] rfl<|xX<|rU [(1,vP b 0),(2,vP b1 0),(3,vP b2 0),(4,vI 0)]<|zAI zI fun h6=>?_;obtain ⟨o0,aD,aM⟩:=zB N;refine ih_spec_l3CopyExpr_l1 e0 0 ([]:List zI) o0 aD iR h41 h51 h h1 h2 h6 (fun _ _ _ h=>h) (fun _ _ h=>h) ?_;intro I07 Kids1 p6 c6 aT heq le7 h8;subst o0;have ⟨h41,h51⟩:=m2 le7 h41 h51;refine zR<|yX<|rQ 1 [1] [(34,vA [vI e0.Kind,vI e0.Num,vS p31 y.Coefs c31,vI y.Const,vT y1.Array.l,vS p41 y1.Subs c41,vS p6 Kids1 c6])]<|xJ 3 [vI e0.Kind,vI e0.Num,vS p31 y.Coefs c31,vI y.Const,vT y1.Array.l,vS p41 y1.Subs c41,vS p6 Kids1 c6] rfl<|yD rfl<|xD<|yU 2 rfl ?_;intro I08 le8 hl02;have h19:=SL.of_frozen hl02 le8 h51;have ⟨h8,h41⟩:=m2 le8 h8 h41;obtain rfl:=zC aM;exact yZ ⟨_,_,(.cell 2 rfl rfl (by kernel_rfl) ResV.nil),(zW [0] rfl (by decide)),⟨_,_,_,_,_,_,_,rfl,rfl,h41,h19,h8⟩⟩
  intro F_spec_l3CopyExpr F_spec_l3CopyExpr_l1 ih_spec_l3CopyExpr ih_spec_l3CopyExpr_l1 e0 i Kids o N B I0 I Q y y1 p c p1 c1 p2 c2 b b1 p31 c31 p41 c41 cs11 b2 p5 c5 aS H h41 h51 h h1 h2 h7 hg ho hx;refine yM hg ho<|zZ<|yE<|yH [4] [20] rfl<|zG<|yC N ?_ ?_
  · intro hc N;refine zS<|zX<|yG ?_;obtain ⟨x,aN,N⟩:=zB N;obtain ⟨y2,bm,N⟩:=zB N;obtain ⟨l,bw,N⟩:=zB N;refine wQ [.p (vP b2 6) [],.p (vS p5 Kids c5) [0],.p (vP b 6) [],.p (vS p2 e0.Kids c2) [3],.p (vI i) [],.x (ePExpr x),.x (eVExpr x),.x (fun I' v hx=>∃ bi bh aR bc bD bo bt,v=vA (cExpr y2 bi bh aR bc bD bo)/\hx=[hO zI (vS bD y2.Kids bo) bt]/\(S4 I' bi y2.Index.Coefs bh)/\(S4 I' aR y2.Read.Subs bc)/\(RL I' bt y2.Kids)),.x (fun I' v hx=>∃ b3,v=vS (some ⟨b3,0,none⟩) ([y2]:List zI) 1/\hx=[]/\(SL I' (vS (some ⟨b3,0,none⟩) ([y2]:List zI) 1) ([y2]:List zI))),.x (fun I' v hx=>∃ bq bB bJ,v=vS bq l bB/\hx=[hO zI (vS bq l bB) bJ]/\(RL I' bJ l))] [[],[(0,false)],[],[(2,false)],[],[(3,false),(4,false)],[(5,false)],[(6,false)],[(7,true)],[(1,false),(8,false),(12,true)]] [hB b2 [vI e0.Kind,vI e0.Num,vS p31 y.Coefs c31,vI y.Const,vT y1.Array.l,vS p41 y1.Subs c41,vS p5 Kids c5],hO zA (vS p41 y1.Subs c41) cs11,hB b1 zExpr,hB b (cExpr e0 p c p1 c1 p2 c2)] [[hO zI (vS p5 Kids c5) aS]] [(9,true)] (zY [1,2,3,4,0]) ?_ ?_
    · refine Op<|Op<|Op<|Op<|Op<|Ox ?_<|Ox ?_<|Ox ?_<|Ox ?_<|Ox ?_<|On
      · intro I1 hf af;refine yT [26,27] rfl ?_;have h2:=h2.mono af;refine xK rfl rfl h2 aN ?_;intro ad aQ ar ap;obtain ⟨p7,c7,p8,c8,p9,c9,rfl,h9,h10,h11⟩:=tS ap;exact yN [] iR ⟨_,_,_,_,_,_,_,rfl,rfl,ar,h9,h10,h11⟩
      · rintro I1 hf af _ _ ⟨ad,p7,c7,p8,c8,p9,c9,rfl,rfl,ar,h9,h10,h11⟩;exact yT [28] rfl<|xB 0 ar (cExpr x p7 c7 p8 c8 p9 c9) (vA (cExpr x p7 c7 p8 c8 p9 c9)) rfl<|yN [] iR ⟨_,_,_,_,_,_,rfl,rfl,h9,h10,h11⟩
      · rintro I1 hf af _ _ ⟨p71,c71,p81,c81,p91,c91,rfl,rfl,h91,h101,h111⟩;refine yT [29] rfl ?_;have H:=iS I1;refine xL (ih_spec_l3CopyExpr x _ bm h91 h101 h111) ?_;rintro bH ay v2 k2 aK - ⟨bi,bh,aR,bc,bD,bo,bt,rfl,rfl,h12,h13,h14⟩ -;have H:=H.trans aK;exact yN [hO zI (vS bD y2.Kids bo) bt] H ⟨_,_,_,_,_,_,_,rfl,rfl,h12,h13,h14⟩
      · rintro I1 hf af _ _ ⟨bi,bh,aR,bc,bD,bo,bt,rfl,rfl,h12,h13,h14⟩;refine yT [30] rfl ?_;have H:=iS I1;refine xH 0 rfl ?_;intro bL bk hl0;have h15:=SL.of_frozen hl0 bk h14;have ⟨h12,h13,H⟩:=m3 bk h12 h13 H;refine mN (rc y2 (wC ⟨_,_,_,rfl,h12,h13,h15⟩) rN) ?_;intro b3 bR bz h17;have H:=H.trans bz;exact yN [] H ⟨_,rfl,rfl,h17⟩
      rintro I1 hf af _ _ ⟨rfl,rfl⟩ _ _ ⟨b3,rfl,rfl,h17⟩ _ _ rfl;refine yT [24,31] rfl ?_;have h7:=iM af h7;obtain ⟨bv,k0,k01⟩:=h17;have h17:SL I1 (vS (some ⟨b3,0,none⟩) ([y2]:List zI) 1) ([y2]:List zI):=⟨_,k0,k01⟩;exact sU 98 7 0 rfl rfl rfl h7 (.inl k0) k01 bw fun bq bB bJ h18=>wN (ah:=(hO zI (vS bq l bB) bJ::hB b2 [vI e0.Kind,vI e0.Num,vS p31 y.Coefs c31,vI y.Const,vT y1.Array.l,vS p41 y1.Subs c41,vS p5 Kids c5]::hO zA (vS p41 y1.Subs c41) cs11::hB b1 zExpr::hB b (cExpr e0 p c p1 c1 p2 c2)::hf)) rfl<|yN [hO zI (vS bq l bB) bJ] iR ⟨_,_,_,rfl,rfl,h18⟩
    rintro I06 bC _ _ ⟨bq,bB,bJ,rfl,rfl,h18⟩;refine yT [1,2,3,4,32] rfl ?_;have ⟨h41,h51,h,h1,h2,H⟩:=m6 bC h41 h51 h h1 h2 H;exact yB 11 [] [33] rfl<|xJ 1 [vI e0.Kind,vI e0.Num,vS p31 y.Coefs c31,vI y.Const,vT y1.Array.l,vS p41 y1.Subs c41,vS bq l bB] rfl<|yD rfl<|zM<|zG<|zJ<|yH [] [4] rfl<|yK<|oY<|ih_spec_l3CopyExpr_l1 e0 (W (i+1)) l _ N H h41 h51 h h1 h2 h18 hg ho hx
  intro hc N;exact wJ<|xQ (zW [0,1,2,3] rfl (by decide))<|yL<|hx _ _ _ _ _ (zC N).symm H h7
theorem zEO:∀ e0 r,pS e0=some r->∀ {I:Imm}{p c p1 c1 p2 c2},(S4 I p e0.Index.Coefs c)->(S4 I p1 e0.Read.Subs c1)->(S4 I p2 e0.Kids c2)->RT 193 [vA (cExpr e0 p c p1 c1 p2 c2)] I [] (zAV  r):=zDi.1
def zGG (r:zP):KT:=fun kk I' ah v=>
  ∃ a0_1 c0_1 s0_1 a0_4 c0_4 a0_7 c0_7 a0_8 c0_8 s0_8,ah=[.osl (.slice a0_1 r.Write.Subs.length c0_1) (Rp.sz zA) s0_1,.osl (.slice a0_8 r.Value.Kids.length c0_8) (Rp.sz zI) s0_8]/\v=tupV [(.agg ⟨[.string ⟨⟨r.Write.Array.l⟩⟩,.slice a0_1 r.Write.Subs.length c0_1,.int .i64 r.Value.Kind,.int .i64 r.Value.Num,.slice a0_4 r.Value.Index.Coefs.length c0_4,.int .i64 r.Value.Index.Const,.string ⟨⟨r.Value.Read.Array.l⟩⟩,.slice a0_7 r.Value.Read.Subs.length c0_7,.slice a0_8 r.Value.Kids.length c0_8]⟩)]/\RepL (Rp.rep I') (Rp.sz zA) s0_1 r.Write.Subs/\SL I' (.slice a0_4 r.Value.Index.Coefs.length c0_4) r.Value.Index.Coefs/\SL I' (.slice a0_7 r.Value.Read.Subs.length c0_7) r.Value.Read.Subs/\RepL (Rp.rep I') (Rp.sz zI) s0_8 r.Value.Kids
def gZ (s:zP):Option (zP):=do
 let y<-uQ s.Write
 let y1<-pS s.Value
 pure (zP.mk y y1)
theorem zCz:∀ s r,gZ s=some r->∀ {I:Imm}{p c p1 c1 p2 c2 p3 c3},(S4 I p s.Write.Subs c)->(S4 I p1 s.Value.Index.Coefs c1)->(S4 I p2 s.Value.Read.Subs c2)->(S4 I p3 s.Value.Kids c3)->RT 151 [vA (cStmt s p c p1 c1 p2 c2 p3 c3)] I [] (zGG  r):=by
 intro s r N I p c p1 c1 p2 c2 p3 c3 h h1 h2 h3;unfold gZ at N;refine yJ func151 fun B=>?_;have H:=iS I;refine yE<|tO (cStmt s p c p1 c1 p2 c2 p3 c3) ?_;intro b hb;refine wS [vT ([]),z0,vI 0,vI 0,z0,vI 0,vT ([]),z0,z0] ?_;intro b1 hb1;refine yD rfl<|zG<|zZ ?_;obtain ⟨y,hy,N⟩:=zB N;obtain ⟨y1,aB,N⟩:=zB N;refine wQ [.p (vP b 0) [],.p (vA (cAccess s.Write p c)) [1],.x (fun I' v hx=>∃ p4 c4 cs,v=vA (cAccess y p4 c4)/\hx=[hO zA (vS p4 y.Subs c4) cs]/\(RL I' cs y.Subs)),.p (vP b 2) [],.p (vA (cExpr s.Value p1 c1 p2 c2 p3 c3)) [1],.x (fun I' v hx=>∃ p5 c5 p6 c6 p7 c7 az,v=vA (cExpr y1 p5 c5 p6 c6 p7 c7)/\hx=[hO zI (vS p7 y1.Kids c7) az]/\(S4 I' p5 y1.Index.Coefs c5)/\(S4 I' p6 y1.Read.Subs c6)/\(RL I' az y1.Kids)),.x (fun I' v hx=>∃ p41 c41 p51 c51 p61 c61 p71 c71 cs11 aS,v=vA [vT y.Array.l,vS p41 y.Subs c41,vI y1.Kind,vI y1.Num,vS p51 y1.Index.Coefs c51,vI y1.Index.Const,vT y1.Read.Array.l,vS p61 y1.Read.Subs c61,vS p71 y1.Kids c71]/\hx=[hO zI (vS p71 y1.Kids c71) cs11,hO zA (vS p41 y.Subs c41) aS]/\(RL I' aS y.Subs)/\(S4 I' p51 y1.Index.Coefs c51)/\(S4 I' p61 y1.Read.Subs c61)/\(RL I' cs11 y1.Kids))] [[],[(0,false)],[(1,false)],[],[(3,false)],[(4,false)],[(2,true),(5,true)]] [hB b1 [vT ([]),z0,vI 0,vI 0,z0,vI 0,vT ([]),z0,z0],hB b (cStmt s p c p1 c1 p2 c2 p3 c3)] [] [(6,true)] (zY [0,1]) ?_ ?_
 · refine Op<|Op<|Ox ?_<|Op<|Op<|Ox ?_<|Ox ?_<|On
   · intro I1 hf af;refine yT [4] rfl ?_;have H:=iS I1;have h:=h.mono af;refine xL (fQ s.Write _ hy h) ?_;rintro I0 ay v2 k2 le - ⟨p4,c4,cs,rfl,rfl,h4⟩ -;have H:=H.trans le;exact yN [hO zA (vS p4 y.Subs c4) cs] H ⟨_,_,_,rfl,rfl,h4⟩
   · intro I1 hf af;refine yT [7] rfl ?_;have H:=iS I1;have ⟨h1,h2,h3⟩:=m3 af h1 h2 h3;refine xL (zEO s.Value _ aB h1 h2 h3) ?_;rintro aW ay v2 k2 af - ⟨p5,c5,p6,c6,p7,c7,az,rfl,rfl,h5,h6,h7⟩ -;have H:=H.trans af;exact yN [hO zI (vS p7 y1.Kids c7) az] H ⟨_,_,_,_,_,_,_,rfl,rfl,h5,h6,h7⟩
   rintro I1 hf af _ _ ⟨p4,c4,cs,rfl,rfl,h4⟩ _ _ ⟨p5,c5,p6,c6,p7,c7,az,rfl,rfl,h5,h6,h7⟩;exact yT [5,8] rfl<|mE 7 [(9,vA [vT y.Array.l,vS p4 y.Subs c4,vI y1.Kind,vI y1.Num,vS p5 y1.Index.Coefs c5,vI y1.Index.Const,vT y1.Read.Array.l,vS p6 y1.Read.Subs c6,vS p7 y1.Kids c7])]<|yN [hO zI (vS p7 y1.Kids c7) az,hO zA (vS p4 y.Subs c4) cs] iR ⟨_,_,_,_,_,_,_,_,_,_,rfl,rfl,h4,h5,h6,h7⟩
 rintro ba aF _ _ ⟨p41,c41,p51,c51,p61,c61,p71,c71,cs11,aS,rfl,rfl,h41,h51,h61,h71⟩;refine yT [2,9] rfl ?_;refine xJ 2 [vT y.Array.l,vS p41 y.Subs c41,vI y1.Kind,vI y1.Num,vS p51 y1.Index.Coefs c51,vI y1.Index.Const,vT y1.Read.Array.l,vS p61 y1.Read.Subs c61,vS p71 y1.Kids c71] rfl<|yD rfl<|zG<|yW ?_;obtain rfl:=zC N;exact yZ ⟨_,_,(.cell 2 rfl rfl (by kernel_rfl) ResV.nil),(zW [1,0] rfl (by decide)),⟨_,_,_,_,_,_,_,_,_,_,rfl,rfl,h41,h51,h61,h71⟩⟩
def zGH (r:zD):KT:=fun kk I' ah v=>
  ∃ a0_0 c0_0 s0_0 a0_1 c0_1 s0_1,ah=[.osl (.slice a0_0 r.Arrays.length c0_0) (Rp.sz zF) s0_0,.osl (.slice a0_1 r.Parts.length c0_1) (Rp.sz zO) s0_1]/\v=tupV [(.agg ⟨[.slice a0_0 r.Arrays.length c0_0,.slice a0_1 r.Parts.length c0_1]⟩)]/\RepL (Rp.rep I') (Rp.sz zF) s0_0 r.Arrays/\RepL (Rp.rep I') (Rp.sz zO) s0_1 r.Parts
def rG (p:zD) (i:Int) (Arrays:List zF):Option (List zF):=do
 if (decide (i<(p.Arrays.length:Int))) then
  let x<-idx p.Arrays i
  let x1<-idx p.Arrays i
  let l<-app 8 ([]:List Int) x1.Dims
  let l1<-app 40 Arrays ([(zF.mk x.Name l)]:List zF)
  rG p (W (i+1)) l1
 else
  pure (id Arrays)
 partial_fixpoint
theorem zBR (p:zD):∀ (i:Int) (Arrays:List zF) (o:List zF),rG p i Arrays=some o->∀ {B}{I0 I:Imm}{Q p1 c p2 c1}{b:Nat}{b1:Nat}{b2:Nat}{p3 c2 cs},I0.le I->(S4 I p1 p.Arrays c)->(S4 I p2 p.Parts c1)->(RL I cs Arrays)->NG Q->NO Q->(∀ (I':Imm) (aC:List zF) (p4:Option Addr) (c3:Nat) (az:List Value),o=aC->I0.le I'->(RL I' az aC)->T 84 B Q (.exit 0) I' [hO zF (vS p4 aC c3) az,hB b2 [vS p4 aC c3,z0],hB b1 zTwo,hB b (cProg p p1 c p2 c1)] [(1,vP b 0),(2,vP b1 0),(3,vP b2 0)])->J Tryz.prog 84 B (nav (bodyOf f104) [1,1,0,1,0]) Q I [hO zF (vS p3 Arrays c2) cs,hB b2 [vS p3 Arrays c2,z0],hB b1 zTwo,hB b (cProg p p1 c p2 c1)] [(1,vP b 0),(2,vP b1 0),(3,vP b2 0),(4,vI i)]:=by
 refine rG.partial_correctness p _ fun aJ ih i Arrays o N B I0 I Q p1 c p2 c1 b b1 b2 p3 c2 cs H h h1 h3 hg ho hx=>yM hg ho<|zZ<|yE<|yH [3] [13] rfl<|zG<|yC N ?_ ?_
 · intro hc N;refine zS<|zX<|yG ?_;obtain ⟨x,hy,N⟩:=zB N;obtain ⟨x1,aB,N⟩:=zB N;obtain ⟨l,aN,N⟩:=zB N;obtain ⟨l1,bm,N⟩:=zB N;refine wQ [.p (vP b2 0) [],.p (vS p3 Arrays c2) [0],.p (vP b 0) [],.p (vS p1 p.Arrays c) [2],.p (vI i) [],.x (ePArr x),.x (ePArr x),.q (vT x.Name.l),.x (fun I' v hx=>∃ b3,v=vS (some ⟨b3,0,none⟩) ([]:List Int) 0/\hx=[hO Int (vS (some ⟨b3,0,none⟩) ([]:List Int) 0) []]/\(RL I' [] ([]:List Int))),.p (vP b 0) [],.p (vS p1 p.Arrays c) [2],.p (vI i) [],.x (ePArr x1),.x (eQArr 1 x1),.x (eS x1.Dims),.x (fun I' v hx=>∃ p7 c6 aS,v=vS p7 l c6/\hx=[hO Int (vS p7 l c6) aS]/\(RL I' aS l)),.x (fun I' v hx=>∃ p71 c61 cs21,v=vA [vT x.Name.l,vS p71 l c61]/\hx=[hO Int (vS p71 l c61) cs21]/\(RL I' cs21 l)),.x (fun I' v hx=>∃ b4,v=vS (some ⟨b4,0,none⟩) ([(zF.mk x.Name l)]:List zF) 1/\hx=[]/\(SL I' (vS (some ⟨b4,0,none⟩) ([(zF.mk x.Name l)]:List zF) 1) ([(zF.mk x.Name l)]:List zF))),.x (fun I' v hx=>∃ p8 c7 aT,v=vS p8 l1 c7/\hx=[hO zF (vS p8 l1 c7) aT]/\(RL I' aT l1))] [[],[(0,false)],[],[(2,false)],[],[(3,false),(4,false)],[(5,false)],[(6,false)],[],[],[(9,false)],[],[(10,false),(11,false)],[(12,false)],[(13,false)],[(8,true),(14,false)],[(7,false),(15,true)],[(16,true)],[(1,false),(17,false),(21,true)]] [hB b2 [vS p3 Arrays c2,z0],hB b1 zTwo,hB b (cProg p p1 c p2 c1)] [[hO zF (vS p3 Arrays c2) cs]] [(18,true)] (zY [1,2,3,0]) ?_ ?_
   · refine Op<|Op<|Op<|Op<|Op<|Ox ?_<|Ox ?_<|Oq ?_<|Ox ?_<|Op<|Op<|Op<|Ox ?_<|Ox ?_<|Ox ?_<|Ox ?_<|Ox ?_<|Ox ?_<|Ox ?_<|On
     · intro I1 hf af;refine yT [19,20] rfl ?_;have h:=h.mono af;refine xK rfl rfl h hy ?_;intro ad aQ ar ap;obtain ⟨p5,c4,rfl,h5⟩:=wU ap;exact yN [] iR ⟨_,_,_,rfl,rfl,ar,h5⟩
     · rintro I1 hf af _ _ ⟨ad,p5,c4,rfl,rfl,ar,h5⟩;exact yT [21] rfl<|mE 7 [(22,.pointer (some ad))]<|yN [] iR ⟨_,_,_,rfl,rfl,ar,h5⟩
     · rintro I1 hf af _ _ ⟨ad1,p51,c41,rfl,rfl,av,h51⟩;exact yT [22] rfl<|xB 0 av [vT x.Name.l] (vT x.Name.l) rfl<|xC iR
     · intro I1 hf af;refine I_h []<|uK [] Int ?_;intro b3 hb3;have h6:RL I1 [] ([]:List Int):=rfl;exact yN [hO Int (vS (some ⟨b3,0,none⟩) ([]:List Int) 0) []] iR ⟨_,rfl,rfl,h6⟩
     · intro I1 hf af;refine yT [26,27] rfl ?_;have h:=h.mono af;refine xK rfl rfl h aB ?_;intro ad2 bv aY ax;obtain ⟨p6,c5,rfl,h7⟩:=wU ax;exact yN [] iR ⟨_,_,_,rfl,rfl,aY,h7⟩
     · rintro I1 hf af _ _ ⟨ad2,p6,c5,rfl,rfl,aY,h7⟩;exact yT [28] rfl<|mE 14 [(29,.pointer (some (ad2.add 1)))]<|yN [] iR ⟨_,_,_,rfl,rfl,aY,h7⟩
     · rintro I1 hf af _ _ ⟨ad21,p61,c51,rfl,rfl,hat21,h71⟩;exact yT [29] rfl<|xB 1 hat21 [vS p61 x1.Dims c51] (vS p61 x1.Dims c51) rfl<|yN [] iR ⟨_,_,rfl,rfl,h71⟩
     · rintro I1 hf af _ _ ⟨b3,rfl,rfl,h6⟩ _ _ ⟨p611,c511,rfl,rfl,h711⟩;refine yT [24,30] rfl ?_;obtain ⟨bP,k0,k01⟩:=h711;have h711:SL I1 (vS p611 x1.Dims c511) x1.Dims:=⟨_,k0,k01⟩;exact sU 3 1 0 rfl rfl rfl h6 (.inl k0) k01 aN fun p7 c6 aS h8=>wN (ah:=(hO Int (vS p7 l c6) aS::hB b2 [vS p3 Arrays c2,z0]::hB b1 zTwo::hB b (cProg p p1 c p2 c1)::hf)) rfl<|yN [hO Int (vS p7 l c6) aS] iR ⟨_,_,_,rfl,rfl,h8⟩
     · rintro I1 hf af _ _ ⟨rfl,rfl⟩ _ _ ⟨p7,c6,aS,rfl,rfl,h8⟩;exact yT [23,31] rfl<|mE 17 [(32,vA [vT x.Name.l,vS p7 l c6])]<|yN [hO Int (vS p7 l c6) aS] iR ⟨_,_,_,rfl,rfl,h8⟩
     · rintro I1 hf af _ _ ⟨p71,c61,cs21,rfl,rfl,h81⟩;refine yT [32] rfl ?_;have H:=iS I1;refine xH 0 rfl ?_;intro I0 le hl0;have h9:=SL.of_frozen hl0 le h81;have H:=H.trans le;refine mN (rc (zF.mk x.Name l) (qU ⟨_,rfl,h9⟩) rN) ?_;intro b4 aW af h11;have H:=H.trans af;exact yN [] H ⟨_,rfl,rfl,h11⟩
     rintro I1 hf af _ _ ⟨rfl,rfl⟩ _ _ ⟨b4,rfl,rfl,h11⟩ _ _ rfl;refine yT [17,33] rfl ?_;have h3:=iM af h3;obtain ⟨ccs3,k02,k03⟩:=h11;have h11:SL I1 (vS (some ⟨b4,0,none⟩) ([(zF.mk x.Name l)]:List zF) 1) ([(zF.mk x.Name l)]:List zF):=⟨_,k02,k03⟩;exact sU 107 2 0 rfl rfl rfl h3 (.inl k02) k03 bm fun p8 c7 aT h12=>wN (ah:=(hO zF (vS p8 l1 c7) aT::hB b2 [vS p3 Arrays c2,z0]::hB b1 zTwo::hB b (cProg p p1 c p2 c1)::hf)) rfl<|yN [hO zF (vS p8 l1 c7) aT] iR ⟨_,_,_,rfl,rfl,h12⟩
   rintro ba aF _ _ ⟨p8,c7,aT,rfl,rfl,h12⟩;refine yT [1,2,3,4,34] rfl ?_;have ⟨h,h1,H⟩:=m3 aF h h1 H;exact yB 20 [] [35] rfl<|xJ 1 [vS p8 l1 c7,z0] rfl<|yD rfl<|zM<|zG<|zJ<|yH [] [4] rfl<|yK<|oY<|ih (W (i+1)) l1 _ N H h h1 h12 hg ho hx
 intro hc N;exact wJ<|yL<|hx _ _ _ _ _ (zC N).symm H h3
def rH (p:zD) (i1:Int) (k04:Int) (Body:List zP):Option (List zP):=do
 let x3<-idx p.Parts i1
 if (decide (k04<(x3.Body.length:Int))) then
  let x4<-idx p.Parts i1
  let x5<-idx x4.Body k04
  let y1<-gZ x5
  let l2<-app 152 Body ([y1]:List zP)
  rH p i1 (W (k04+1)) l2
 else
  pure (id Body)
 partial_fixpoint
theorem zBS (p:zD) (i1:Int):∀ (k04:Int) (Body:List zP) (o:List zP),rH p i1 k04 Body=some o->∀ {B}{I0 I:Imm}{Q}{aC:List zF}{Parts:List zO}{y:(List zE)}{p1 c p2 c1}{b:Nat}{b1:Nat}{b2:Nat}{p4 c3 az p9 c8 bt bq bo}{b5:Nat}{p14 bB cs6},I0.le I->(S4 I bq y bo)->(RL I bt Parts)->(RL I az aC)->(S4 I p1 p.Arrays c)->(S4 I p2 p.Parts c1)->(RL I cs6 Body)->NG Q->NO Q->(∀ (I':Imm) (bx:List zP) (p15:Option Addr) (c14:Nat) (cs7:List Value),o=bx->I0.le I'->(RL I' cs7 bx)->T 84 B Q (.exit 4) I' [hO zP (vS p15 bx c14) cs7,hB b5 [vS bq y bo,vS p15 bx c14],hO zO (vS p9 Parts c8) bt,hO zF (vS p4 aC c3) az,hB b2 [vS p4 aC c3,vS p9 Parts c8],hB b1 zTwo,hB b (cProg p p1 c p2 c1)] [(1,vP b 0),(2,vP b1 0),(3,vP b2 0),(5,vI i1),(6,vP b5 0)])->J Tryz.prog 84 B (nav (bodyOf f104) [1,1,1,0,1,0,0,1,0,0,1,0,1,0]) Q I [hO zP (vS p14 Body bB) cs6,hB b5 [vS bq y bo,vS p14 Body bB],hO zO (vS p9 Parts c8) bt,hO zF (vS p4 aC c3) az,hB b2 [vS p4 aC c3,vS p9 Parts c8],hB b1 zTwo,hB b (cProg p p1 c p2 c1)] [(1,vP b 0),(2,vP b1 0),(3,vP b2 0),(5,vI i1),(6,vP b5 0),(7,vI k04)]:=by
 refine rH.partial_correctness p i1 _ fun aJ ih k04 Body o N B I0 I Q aC Parts y p1 c p2 c1 b b1 b2 p4 c3 az p9 c8 bt bq bo b5 p14 bB cs6 H h18 h14 h4 h h1 h20 hg ho hx=>yM hg ho<|zZ<|yE<|yB 4 [6] [51,53,54] rfl<|bE N fun x3 hy6 N=>xK rfl rfl h1 hy6 ?_;intro ad4 ccs5 hat4 bG;obtain ⟨p16,c15,p17,c16,rfl,h22,h23⟩:=wR bG;refine yB 6 [] [56] rfl<|xB 1 hat4 [vS p17 x3.Body c16] (vS p17 x3.Body c16) rfl<|yH [] [59] rfl<|zG<|yC N ?_ ?_
 · intro aX N;refine zS<|zX<|yG ?_;obtain ⟨x4,hy7,N⟩:=zB N;obtain ⟨x5,hy8,N⟩:=zB N;obtain ⟨y1,hy9,N⟩:=zB N;obtain ⟨l2,hy10,N⟩:=zB N;refine wQ [.p (vP b5 1) [],.p (vS p14 Body bB) [0],.p (vP b 1) [],.p (vS p2 p.Parts c1) [5],.p (vI i1) [],.x (ePPart x4),.x (eQPart 1 x4),.x (eS x4.Body),.p (vI k04) [],.x (ePStmt x5),.x (eVStmt x5),.x (fun I' v hx=>∃ p24 c23 p25 c24 p26 c25 p27 c26 cs8 cs9,v=vA (cStmt y1 p24 c23 p25 c24 p26 c25 p27 c26)/\hx=[hO zA (vS p24 y1.Write.Subs c23) cs8,hO zI (vS p27 y1.Value.Kids c26) cs9]/\(RL I' cs8 y1.Write.Subs)/\(S4 I' p25 y1.Value.Index.Coefs c24)/\(S4 I' p26 y1.Value.Read.Subs c25)/\(RL I' cs9 y1.Value.Kids)),.x (fun I' v hx=>∃ b6,v=vS (some ⟨b6,0,none⟩) ([y1]:List zP) 1/\hx=[]/\(SL I' (vS (some ⟨b6,0,none⟩) ([y1]:List zP) 1) ([y1]:List zP))),.x (fun I' v hx=>∃ p28 c27 cs10,v=vS p28 l2 c27/\hx=[hO zP (vS p28 l2 c27) cs10]/\(RL I' cs10 l2))] [[],[(0,false)],[],[(2,false)],[],[(3,false),(4,false)],[(5,false)],[(6,false)],[],[(7,false),(8,false)],[(9,false)],[(10,false)],[(11,true)],[(1,false),(12,false),(16,true)]] [hB b5 [vS bq y bo,vS p14 Body bB],hO zO (vS p9 Parts c8) bt,hO zF (vS p4 aC c3) az,hB b2 [vS p4 aC c3,vS p9 Parts c8],hB b1 zTwo,hB b (cProg p p1 c p2 c1)] [[hO zP (vS p14 Body bB) cs6]] [(13,true)] (zY [1,2,3,4,5,6,0]) ?_ ?_
   · refine Op<|Op<|Op<|Op<|Op<|Ox ?_<|Ox ?_<|Ox ?_<|Op<|Ox ?_<|Ox ?_<|Ox ?_<|Ox ?_<|Ox ?_<|On
     · intro I1 hf af;refine yT [65,66] rfl ?_;have h1:=h1.mono af;refine xK rfl rfl h1 hy7 ?_;intro ad5 ccs6 hat5 hrep4;obtain ⟨p18,c17,p19,c18,rfl,h24,h25⟩:=wR hrep4;exact yN [] iR ⟨_,_,_,_,_,rfl,rfl,hat5,h24,h25⟩
     · rintro I1 hf af _ _ ⟨ad5,p18,c17,p19,c18,rfl,rfl,hat5,h24,h25⟩;exact yT [67] rfl<|mE 7 [(68,.pointer (some (ad5.add 1)))]<|yN [] iR ⟨_,_,_,_,_,rfl,rfl,hat5,h24,h25⟩
     · rintro I1 hf af _ _ ⟨ad51,p181,c171,p191,c181,rfl,rfl,hat51,h241,h251⟩;exact yT [68] rfl<|xB 1 hat51 [vS p191 x4.Body c181] (vS p191 x4.Body c181) rfl<|yN [] iR ⟨_,_,rfl,rfl,h251⟩
     · rintro I1 hf af _ _ ⟨p1911,c1811,rfl,rfl,h2511⟩;refine yT [69,70] rfl<|xK rfl rfl h2511 hy8 ?_;intro ad6 ccs7 hat6 hrep5;obtain ⟨p20,c19,p21,c20,p22,c21,p23,c22,rfl,h26,h27,h28,h29⟩:=pR hrep5;exact yN [] iR ⟨_,_,_,_,_,_,_,_,_,rfl,rfl,hat6,h26,h27,h28,h29⟩
     · rintro I1 hf af _ _ ⟨ad6,p20,c19,p21,c20,p22,c21,p23,c22,rfl,rfl,hat6,h26,h27,h28,h29⟩;exact yT [71] rfl<|xB 0 hat6 (cStmt x5 p20 c19 p21 c20 p22 c21 p23 c22) (vA (cStmt x5 p20 c19 p21 c20 p22 c21 p23 c22)) rfl<|yN [] iR ⟨_,_,_,_,_,_,_,_,rfl,rfl,h26,h27,h28,h29⟩
     · rintro I1 hf af _ _ ⟨p201,c191,p211,c201,p221,c211,p231,c221,rfl,rfl,h261,h271,h281,h291⟩;refine yT [72] rfl ?_;have H:=iS I1;refine xL (zCz x5 _ hy9 h261 h271 h281 h291) ?_;rintro bR ay v2 k2 bz - ⟨p24,c23,cs8,p25,c24,p26,c25,p27,c26,cs9,rfl,rfl,h30,h31,h32,h33⟩ -;have H:=H.trans bz;exact yN [hO zA (vS p24 y1.Write.Subs c23) cs8,hO zI (vS p27 y1.Value.Kids c26) cs9] H ⟨_,_,_,_,_,_,_,_,_,_,rfl,rfl,h30,h31,h32,h33⟩
     · rintro I1 hf af _ _ ⟨p24,c23,p25,c24,p26,c25,p27,c26,cs8,cs9,rfl,rfl,h30,h31,h32,h33⟩;refine yT [73] rfl ?_;have H:=iS I1;refine xH 0 rfl ?_;intro I06 bC hl02;have h34:=SL.of_frozen hl02 bC h30;have ⟨h31,h32,h33,H⟩:=m4 bC h31 h32 h33 H;refine xH 0 rfl ?_;intro I07 le7 hl03;have h35:=SL.of_frozen hl03 le7 h33;have ⟨h34,h31,h32,H⟩:=m4 le7 h34 h31 h32 H;refine mN (rc y1 (vC ⟨_,_,_,_,rfl,h34,h31,h32,h35⟩) rN) ?_;intro b6 I08 le8 h37;have H:=H.trans le8;exact yN [] H ⟨_,rfl,rfl,h37⟩
     rintro I1 hf af _ _ ⟨rfl,rfl⟩ _ _ ⟨b6,rfl,rfl,h37⟩ _ _ rfl;refine yT [63,74] rfl ?_;have h20:=iM af h20;obtain ⟨ccs8,k05,k06⟩:=h37;have h37:SL I1 (vS (some ⟨b6,0,none⟩) ([y1]:List zP) 1) ([y1]:List zP):=⟨_,k05,k06⟩;exact sU 100 9 0 rfl rfl rfl h20 (.inl k05) k06 hy10 fun p28 c27 cs10 h38=>wN (ah:=(hO zP (vS p28 l2 c27) cs10::hB b5 [vS bq y bo,vS p14 Body bB]::hO zO (vS p9 Parts c8) bt::hO zF (vS p4 aC c3) az::hB b2 [vS p4 aC c3,vS p9 Parts c8]::hB b1 zTwo::hB b (cProg p p1 c p2 c1)::hf)) rfl<|yN [hO zP (vS p28 l2 c27) cs10] iR ⟨_,_,_,rfl,rfl,h38⟩
   rintro I09 le9 _ _ ⟨p28,c27,cs10,rfl,rfl,h38⟩;refine yT [1,2,3,5,6,7,75] rfl ?_;have ⟨h18,h14,h4,h,h1,H⟩:=m6 le9 h18 h14 h4 h h1 H;exact yB 15 [] [76] rfl<|xJ 1 [vS bq y bo,vS p28 l2 c27] rfl<|yD rfl<|zM<|zG<|zJ<|yH [] [7] rfl<|yK<|oY<|ih (W (k04+1)) l2 _ N H h18 h14 h4 h h1 h38 hg ho hx
 intro aX N;exact wJ<|yL<|hx _ _ _ _ _ (zC N).symm H h20
def uW (p:zD) (i1:Int) (Parts:List zO):Option (List zO):=do
 if (decide (i1<(p.Parts.length:Int))) then
  let x2<-idx p.Parts i1
  let y<-mV x2.Nest
  let bx<-rH p i1 0 ([]:List zP)
  let l3<-app 48 Parts ([(zO.mk y bx)]:List zO)
  uW p (W (i1+1)) l3
 else
  pure (id Parts)
 partial_fixpoint
theorem zEz (p:zD):∀ (i1:Int) (Parts:List zO) (o:List zO),uW p i1 Parts=some o->∀ {B}{I0 I:Imm}{Q}{aC:List zF}{p1 c p2 c1}{b:Nat}{b1:Nat}{b2:Nat}{p4 c3 az p9 c8 bt},I0.le I->(RL I az aC)->(S4 I p1 p.Arrays c)->(S4 I p2 p.Parts c1)->(RL I bt Parts)->NG Q->NO Q->(∀ (I':Imm) (br:List zO) (bi:Option Addr) (c9:Nat) (bJ:List Value),o=br->I0.le I'->(RL I' bJ br)->T 84 B Q (.exit 2) I' [hO zO (vS bi br c9) bJ,hO zF (vS p4 aC c3) az,hB b2 [vS p4 aC c3,vS bi br c9],hB b1 zTwo] [(2,vP b1 0),(3,vP b2 0)])->J Tryz.prog 84 B (nav (bodyOf f104) [1,1,1,0,1,0]) Q I [hO zO (vS p9 Parts c8) bt,hO zF (vS p4 aC c3) az,hB b2 [vS p4 aC c3,vS p9 Parts c8],hB b1 zTwo,hB b (cProg p p1 c p2 c1)] [(1,vP b 0),(2,vP b1 0),(3,vP b2 0),(5,vI i1)]:=by
 refine uW.partial_correctness p _ fun aJ ih i1 Parts o N B I0 I Q aC p1 c p2 c1 b b1 b2 p4 c3 az p9 c8 bt H h4 h h1 h14 hg ho hx=>yM hg ho<|zZ<|yE<|yH [4] [40] rfl<|zG<|yC N ?_ ?_
 · intro aI N;refine zS<|zX<|yG<|yE<|yB 3 [4] [44,45] rfl<|bE N fun x2 bw N=>xK rfl rfl h1 bw ?_;intro ad3 ccs4 hat3 bd;obtain ⟨aR,bh,bD,bc,rfl,h16,h17⟩:=wR bd;refine yB 5 [] [47] rfl<|xB 0 hat3 [vS aR x2.Nest bh] (vS aR x2.Nest bh) rfl<|bE N fun y bI N=>xL (zCy x2.Nest _ bI h16) ?_;rintro bL ay v2 k2 bk - ⟨v04,rfl,rfl,h18⟩ -;have ⟨h14,h4,h,h1,H⟩:=m5 bk h14 h4 h h1 H;obtain ⟨bq,bo,rfl⟩:=h18.form;refine yB 8 [] [50] rfl<|wS zTwo ?_;intro b5 hb5;refine xJ 0 [vS bq y bo,z0] rfl<|yD rfl<|zX<|yF [7] rfl<|xX<|rU [(1,vP b 0),(2,vP b1 0),(3,vP b2 0),(5,vI i1),(6,vP b5 0),(7,vI 0)]<|zAI zP fun h19=>?_;obtain ⟨aP,aA,hMl1⟩:=zB N;refine zBS p i1 0 ([]:List zP) aP aA iR h18 h14 h4 h h1 h19 (fun _ _ _ h=>hg _ _ _ h) (fun _ _ h=>ho _ _ h) ?_;intro bS bx p15 c14 cs7 heq1 le10 h21;subst aP;have ⟨h18,h14,h4,h,h1,H⟩:=m6 le10 h18 h14 h4 h h1 H;refine zR<|zG<|zJ<|rQ 3 [4,1] [(78,vS p9 Parts c8),(79,vA [vS bq y bo,vS p15 bx c14])]<|xH 0 rfl ?_;intro bY le11 hl05;have h39:=SL.of_frozen hl05 le11 h21;have ⟨h14,h18,h4,h,h1,H⟩:=m6 le11 h14 h18 h4 h h1 H;refine uK [vS bq y bo,vS p15 bx c14] zO ?_;intro b7 hb7;have h40:RL bY [vS bq y bo,vS p15 bx c14] ([(zO.mk y bx)]:List zO):=⟨[vS bq y bo,vS p15 bx c14],_,rfl,rfl,(qN ⟨_,_,rfl,h18,h39⟩),rfl⟩;obtain ⟨l3,hy11,N⟩:=zB hMl1;refine sU 47 2 2 rfl rfl rfl h14 (.inr ⟨0,rfl⟩) h40 hy11 ?_;intro p29 c28 cs11 h41;exact tZ (zY [1,2,3,4,5,6] (ah:=[hB b5 [vS bq y bo,vS p15 bx c14],hO zO (vS p29 l3 c28) cs11,hO zF (vS p4 aC c3) az,hB b2 [vS p4 aC c3,vS p9 Parts c8],hB b1 zTwo,hB b (cProg p p1 c p2 c1)]))<|yB 6 [] [82] rfl<|xJ 3 [vS p4 aC c3,vS p29 l3 c28] rfl<|yD rfl<|zM<|zG<|zJ<|yH [] [5] rfl<|yK<|kE (zW [1,2,3,4,5] rfl (by decide))<|oY<|ih (W (i1+1)) l3 _ N H h4 h h1 h41 hg ho hx
 intro aI N;exact wJ<|xQ (zW [0,1,2,3] rfl (by decide))<|yL<|hx _ _ _ _ _ (zC N).symm H h14
def pP (p:zD):Option (zD):=do
 let aC<-rG p 0 ([]:List zF)
 let br<-uW p 0 ([]:List zO)
 pure (zD.mk aC br)
theorem zHh:∀ p r,pP p=some r->∀ {I:Imm}{p1 c p2 c1},(S4 I p1 p.Arrays c)->(S4 I p2 p.Parts c1)->RT 104 [vA (cProg p p1 c p2 c1)] I [] (zGH  r):=by
 intro p r N I p1 c p2 c1 h h1;unfold pP at N;refine yJ func104 fun B=>yE<|tO (cProg p p1 c p2 c1) ?_;intro b hb;refine wS zTwo ?_;intro b1 hb1;refine yD rfl<|yX<|yB 1 [] [8] rfl<|wS zTwo ?_;intro b2 hb2;refine zB5 0 zTwo [hB b2 zTwo,hB b1 zTwo,hB b (cProg p p1 c p2 c1)] rfl rfl rfl rfl<|yD rfl<|zX<|yF [4] rfl<|xX<|rU [(1,vP b 0),(2,vP b1 0),(3,vP b2 0),(4,vI 0)]<|zAI zF fun h2=>?_;obtain ⟨o0,aD,aM⟩:=zB N;refine zBR p 0 ([]:List zF) o0 aD iR h h1 h2 (fun _ _ _ h=>h) (fun _ _ h=>h) ?_;intro bH aC p4 c3 az heq aK h4;subst o0;have ⟨h,h1⟩:=m2 aK h h1;refine zR<|zX<|yF [5] rfl<|xX<|rU [(1,vP b 0),(2,vP b1 0),(3,vP b2 0),(5,vI 0)]<|zAI zO fun h13=>?_;obtain ⟨o02,ho02,hMl2⟩:=zB aM;refine zEz p 0 ([]:List zO) o02 ho02 iR h4 h h1 h13 (fun _ _ _ h=>h) (fun _ _ h=>h) ?_;intro bX br bi c9 bJ heq2 le12 h15;subst o02;have h4:=iM le12 h4;refine zR<|yX<|rQ 1 [2] [(83,vA [vS p4 aC c3,vS bi br c9])]<|xJ 3 [vS p4 aC c3,vS bi br c9] rfl<|yD rfl<|zG<|yW ?_;obtain rfl:=zC hMl2;exact yZ ⟨_,_,(.cell 3 rfl rfl (by kernel_rfl) ResV.nil),(zW [1,0] rfl (by decide)),⟨_,_,_,_,_,_,rfl,rfl,h4,h15⟩⟩
def zEP (b0:Nat) (r:Str×zN):KT:=fun kk I' ah v=>
  ∃ v0 k0,ah=[.blk b0 ⟨k0⟩]/\v=tupV [v0]/\v0=.string ⟨⟨r.1.l⟩⟩/\Rp.rep I' k0 r.2
def oI (r0:zN) (list:(List Str)):Option (Str×zN):=do
 let (y1,y2)<-xA r0 (list.length:Int)
 let x<-idx list y1
 pure (x,y2)
theorem eF:∀ r0 list r,oI r0 list=some r->∀ {I:Imm}{aw:Nat}{p c p1 c1},(S4 I p r0.b c)->(S4 I p1 list c1)->RT 134 [vP aw 0,vS p1 list c1] I [hB aw (cRd r0 p c)] (zEP aw r):=by
 intro r0 list r N I aw p c p1 c1 h h1;unfold oI at N;refine yJ func134 fun B=>wP []<|yX<|yB 4 [] [5,6,8] rfl ?_;obtain ⟨⟨y1,y2⟩,hy,N⟩:=zB N;refine sJ (xR r0 (list.length:Int) _ hy h) rfl ?_;rintro I0 ay v2 k2 le - ⟨v0,kk,rfl,rfl,rfl,h3⟩ -;have h1:=h1.mono le;obtain ⟨p2,c2,rfl,h4⟩:=yA h3;obtain ⟨x,aB,N⟩:=zB N;refine xK rfl rfl h1 aB ?_;intro ad aQ ar ap;obtain rfl:=ap;refine xB 0 ar [vT x.l] (vT x.l) rfl<|yH [] [4] rfl<|zG<|yW ?_;obtain rfl:=zC N;exact yZ ⟨_,_,(.tmp rfl ResV.nil),(zW [0] rfl (by decide)),⟨_,_,rfl,rfl,rfl,(yR ⟨_,rfl,h4⟩)⟩⟩
def zBl (r:zA):KT:=fun kk I' ah v=>
  ∃ a0_0 c0_0 s0_0,ah=[.osl (.slice a0_0 r.Coefs.length c0_0) (Rp.sz Int) s0_0]/\v=tupV [(.agg ⟨[.slice a0_0 r.Coefs.length c0_0,.int .i64 r.Const]⟩)]/\RepL (Rp.rep I') (Rp.sz Int) s0_0 r.Coefs
def nT :Option (zA):=do
 pure (zA.mk ([0,0,0,0]:List Int) 0)
theorem jS:∀ r,nT =some r->∀ {I:Imm} ,RT 173 [] I [] (zBl  r):=by
 intro  r N I;unfold nT at N;refine yJ func173 fun B=>yE<|wS [z0,vI 0] ?_;intro b hb;refine yD rfl<|yX<|uK [vI 0,vI 0,vI 0,vI 0] Int ?_;intro b1 hb1;have h:RL I [vI 0,vI 0,vI 0,vI 0] ([0,0,0,0]:List Int):=rI [0,0,0,0];refine yB 2 [] [2] rfl<|xJ 1 [vS (some ⟨b1,0,none⟩) ([0,0,0,0]:List Int) 4,vI 0] rfl<|yD rfl<|zG<|yW ?_;obtain rfl:=zC N;exact yZ ⟨_,_,(.cell 1 rfl rfl (by kernel_rfl) ResV.nil),(zW [0] rfl (by decide)),⟨_,_,_,rfl,rfl,h⟩⟩
def mT (v0:Int):Option (zA):=do
 let y<-nT
 let x<-idx y.Coefs v0
 let l<-pure (y.Coefs.set v0.toNat 1)
 pure (zA.mk l y.Const)
theorem eM:∀ v0 r,mT v0=some r->∀ {I:Imm} ,RT 171 [vI v0] I [] (gN  r):=by
 intro v0 r N I;unfold mT at N;refine yJ func171 fun B=>yE<|wS [z0,vI 0] ?_;intro b hb;refine yD rfl<|yX<|bE N fun y hy N=>xL (jS  _ hy ) ?_;rintro I0 ay v2 k2 le - ⟨p,c,cs,rfl,rfl,h⟩ -;refine wS [z0,vI 0] ?_;intro b1 hb1;refine xJ 0 (cAff y p c) rfl<|yD rfl<|yX<|yB 3 [0] [6,7] rfl<|bE N fun x aB N=>pQ 1 rfl rfl rfl h aB ?_;intro ad aQ ar bM ap;obtain rfl:=ap;obtain ⟨l,aN,N⟩:=zB N;refine tR (c:=[vI 1]) (x':=1) 1 0 rfl rfl rfl ar rfl rfl bM (by kernel_rfl) (by kernel_rfl) (by kernel_rfl) h aB (by kernel_rfl) rfl ?_;rw [show y.Coefs.set v0.toNat 1=l from zC aN];intro az h1 hl0;refine kD (m':=[(2,vP b 0),(3,vP b1 0),(6,vS p y.Coefs c),(7,vI v0)]) ⟨rfl,rfl,rfl,rfl,trivial⟩<|zA1 (ah:=[hB b1 [vS p l c,vI y.Const],hO Int (vS p l c) az,hB b [z0,vI 0]]) (m':=[(2,vP b 0),(3,vP b1 0),(6,vS p l c),(7,vI v0)]) (by first | rfl | simp only [vS,hl0,cv,dj,dq,dh,cX,cY]) (by first | rfl | simp only [vS,hl0])<|yD rfl<|yX<|rQ 1 [0] [(9,vA [vS p l c,vI y.Const])]<|xJ 2 [vS p l c,vI y.Const] rfl<|yD rfl<|xD<|yU 1 rfl ?_;intro aW af hl01;have h2:=SL.of_frozen hl01 af h1;obtain rfl:=zC N;exact yZ ⟨_,_,(.cell 1 rfl rfl (by kernel_rfl) ResV.nil),zQ,⟨_,rfl,rfl,⟨_,rfl,(yO ⟨_,rfl,h2⟩)⟩⟩⟩
def vD (n0:Int):Option (zA):=do
 let y<-nT
 pure (zA.mk y.Coefs n0)
theorem uT:∀ n0 r,vD n0=some r->∀ {I:Imm} ,RT 172 [vI n0] I [] (zBl  r):=by
 intro n0 r N I;unfold vD at N;refine yJ func172 fun B=>yE<|wS [z0,vI 0] ?_;intro b hb;refine yD rfl<|yX<|bE N fun y hy N=>xL (jS  _ hy ) ?_;rintro I0 ay v2 k2 le - ⟨p,c,cs,rfl,rfl,h⟩ -;refine wS [z0,vI 0] ?_;intro b1 hb1;refine xJ 0 (cAff y p c) rfl<|yD rfl<|yX<|yB 2 [] [5,6] rfl<|xJ 0 [vS p y.Coefs c,vI n0] rfl<|yD rfl<|yX<|rQ 1 [0] [(7,vA [vS p y.Coefs c,vI n0])]<|xJ 2 [vS p y.Coefs c,vI n0] rfl<|yD rfl<|zG<|yW ?_;obtain rfl:=zC N;exact yZ ⟨_,_,(.cell 2 rfl rfl (by kernel_rfl) ResV.nil),(zW [1] rfl (by decide)),⟨_,_,_,rfl,rfl,h⟩⟩
theorem zN3 (xs:List NL) (x:NL):(x.ha++NLs xs).Perm (NLs (xs++[x])):=by
  simp only [NLs,d9,ck,f4,cy];exact dz
theorem zEQ (nest:(List zE)):∀ (out:List zE) (i:Int) (o:List zE),uV nest out i=some o->∀ {B}{I0 I:Imm}{Q p c p1 c1 cs}{xs:List NL},I0.le I->(S4 I p nest c)->(RL I cs (xs.map NL.raw))->out=xs.map NL.d->(∀ x∈xs,x.ok I)->(∀ l a w,¬Q (.goto l) a w)->(∀ a w,¬Q .outgrown a w)->(∀ (I':Imm) (p2:Option Addr) (c2:Nat) (az:List Value) (ys:List NL),I0.le I'->o=ys.map NL.d->(RL I' az (ys.map NL.raw))->(∀ x∈ys,x.ok I')->T 83 B Q (.exit 0) I' (hO Raw2 (vS p2 (ys.map NL.raw) c2) az::NLs ys) [(3,vS p2 (ys.map NL.raw) c2)])->J Tryz.prog 83 B (nav (bodyOf f150) [1,1,0,1,0]) Q I (hO Raw2 (vS p1 (xs.map NL.raw) c1) cs::NLs xs) [(0,vS p nest c),(3,vS p1 (xs.map NL.raw) c1),(4,vI i)]:=by
 refine uV.partial_correctness nest _ fun aJ ih out i o N B I0 I Q p c p1 c1 cs xs H h h2 hout cb hg ho hx=>yM hg ho<|zZ<|yF [14] rfl<|zG<|yC N ?_ ?_
 · intro hc N;refine zS<|zX<|yG<|yE<|yB 1 [] [17] rfl<|wS zTwo ?_;intro b1 hb1;refine zB5 0 zTwo (hB b1 zTwo::hO Raw2 (vS p1 (xs.map NL.raw) c1) cs::NLs xs) rfl rfl rfl rfl<|yD rfl<|zX<|yF [6] rfl<|xX<|rU [(0,vS p nest c),(3,vS p1 (xs.map NL.raw) c1),(4,vI i),(5,vP b1 0),(6,vI 0)]<|zAI zA fun h4=>?_;obtain ⟨o0,aD,aM⟩:=zB N;refine zO4 (hs:=[hO zA (vS none ([]:List zA) 0) [],hB b1 zTwo,hO Raw2 (vS p1 (xs.map NL.raw) c1) cs]) (L:=NLs xs) (.exit 2) (fun I' ah m'=>∃ p4 c4 aT,RL I' aT o0/\ah=[hO zA (vS p4 o0 c4) aT,hB b1 [vS p4 o0 c4,z0],hO Raw2 (vS p1 (xs.map NL.raw) c1) cs]/\m'=[(0,vS p nest c),(3,vS p1 (xs.map NL.raw) c1),(4,vI i),(5,vP b1 0)]) (fun B'=>?_) ?_
   · refine zBP nest i 0 ([]:List zA) o0 aD iR h h2 h4 (fun _ _ _ h=>by cases h.1) (fun _ _ h=>by cases h.1) ?_;intro bH Lo1 p4 c4 aT heq aK h6;subst o0;exact zMc ⟨_,_,_,h6,rfl,rfl⟩
   rintro bH _ _ ⟨p4,c4,aT,h6,rfl,rfl⟩ aK;have ⟨h,h2⟩:=m2 aK h h2;have cb:=fun x hx=>(cb x hx).mono aK;have H:=H.trans aK;refine zR<|zX<|yF [8] rfl<|xX<|rU [(0,vS p nest c),(3,vS p1 (xs.map NL.raw) c1),(4,vI i),(5,vP b1 0),(8,vI 0)]<|zAI zA fun h18=>?_;obtain ⟨aP,aA,hMl1⟩:=zB aM;refine zO4 (hs:=[hO zA (vS none ([]:List zA) 0) [],hO zA (vS p4 o0 c4) aT,hB b1 [vS p4 o0 c4,z0],hO Raw2 (vS p1 (xs.map NL.raw) c1) cs]) (L:=NLs xs) (.exit 4) (fun I' ah m'=>∃ bq bB cs7,RL I' cs7 aP/\ah=[hO zA (vS bq aP bB) cs7,hO zA (vS p4 o0 c4) aT,hB b1 [vS p4 o0 c4,vS bq aP bB],hO Raw2 (vS p1 (xs.map NL.raw) c1) cs]/\m'=[(0,vS p nest c),(3,vS p1 (xs.map NL.raw) c1),(4,vI i),(5,vP b1 0)]) (fun B'=>?_) ?_
   · refine zBQ nest i 0 ([]:List zA) aP aA iR h h2 h6 h18 (fun _ _ _ h=>by cases h.1) (fun _ _ h=>by cases h.1) ?_;intro I07 Hi1 bq bB cs7 heq1 le7 h20;subst aP;exact zMc ⟨_,_,_,h20,rfl,rfl⟩
   rintro I07 _ _ ⟨bq,bB,cs7,h20,rfl,rfl⟩ le7;have ⟨h,h2,h6⟩:=m3 le7 h h2 h6;have cb:=fun x hx=>(cb x hx).mono le7;have H:=H.trans le7;obtain ⟨au,hy10,N⟩:=zB hMl1;have hy11:=zJ4 (l':=xs.map NL.raw) (m':=[(⟨vS p4 o0 c4,vS bq aP bB⟩:Raw2)]) hy10 (by simp [hout]) rfl;obtain ⟨_,rfl⟩:=dU hy10;have h34:RL I07 [vS p4 o0 c4,vS bq aP bB] [(⟨vS p4 o0 c4,vS bq aP bB⟩:Raw2)]:=⟨[vS p4 o0 c4,vS bq aP bB],[],rfl,rfl,⟨rfl,rfl,rfl⟩,rfl⟩;refine zR<|zG<|zJ<|rQ 2 [2] [(78,vS p1 (xs.map NL.raw) c1),(79,vA [vS p4 o0 c4,vS bq aP bB])]<|uK [vS p4 o0 c4,vS bq aP bB] Raw2 ?_;intro b8 hb8;refine sU 141 2 4 rfl rfl rfl h2 (.inr ⟨0,rfl⟩) h34 hy11 ?_;intro p21 c21 cs10 h35;have eR:xs.map NL.raw++[(⟨vS p4 o0 c4,vS bq aP bB⟩:Raw2)]=(xs++[(⟨p4,o0,c4,aT,bq,aP,bB,cs7⟩:NL)]).map NL.raw:=by simp [NL.raw,NL.vl,NL.vh]
   have eD:out++[(⟨o0,aP⟩:zE)]=(xs++[(⟨p4,o0,c4,aT,bq,aP,bB,cs7⟩:NL)]).map NL.d:=by simp [hout,NL.d]
   rw [eR] at h35 ⊢;refine yH [] [3] rfl<|zM<|zG<|zJ<|yH [] [4] rfl<|yK<|kE (zFu 0 rfl)<|kE (zFu 2 rfl)<|zJ6 _ ?_<|rU [(0,vS p nest c),(3,vS p21 ((xs++[(⟨p4,o0,c4,aT,bq,aP,bB,cs7⟩:NL)]).map NL.raw) c21),(4,vI (W (i+1)))]<|ih _ (W (i+1)) _ N H h h35 eD ?_ hg ho hx
   · show List.Perm _ (hO zA (vS bq aP bB) cs7::hO zA (vS p4 o0 c4) aT::hO Raw2 (vS p21 ((xs++[(⟨p4,o0,c4,aT,bq,aP,bB,cs7⟩:NL)]).map NL.raw) c21) cs10::NLs xs);exact List.Perm.trans ((zN3 xs ⟨p4,o0,c4,aT,bq,aP,bB,cs7⟩).symm.cons _)<|(List.Perm.swap _ _ _).trans (List.Perm.cons _ (List.Perm.swap _ _ _))
   intro x hx';rcases cZ.1 hx' with hx' | hx'
   · exact cb x hx'
   rw [cr.1 hx']; exact ⟨h6,h20⟩
 intro hc N;have:=zC N;simp only [id] at this;exact wJ<|yL<|hx _ _ _ _ _ H (by rw [<- this,hout]) h2 cb
def zFA (r:(List zE)):KT:=fun kk I' ah v=>
  ∃ (p:Option Addr) (c:Nat) (cs:List Value) (xs:List NL),ah=hO Raw2 (vS p (xs.map NL.raw) c) cs::NLs xs/\v=tupV [vS p (xs.map NL.raw) c]/\RL I' cs (xs.map NL.raw)/\r=xs.map NL.d/\∀ x∈xs,x.ok I'
theorem zGq:∀ (nest:(List zE)) r,mV nest=some r->∀ {I:Imm}{p c},(S4 I p nest c)->RT 150 [vS p nest c] I [] (zFA  r):=by
 intro nest r N I p c h;unfold mV at N;refine yJ func150 fun B=>wP []<|yX<|uK [] zE ?_;intro b hb;have h1:RL I [] (([]:List NL).map NL.raw):=rfl;refine yH [] [3] rfl<|zX<|yF [4] rfl<|xX<|rU [(0,vS p nest c),(3,vS (some ⟨b,0,none⟩) (([]:List NL).map NL.raw) 0),(4,vI 0)] ?_;obtain ⟨o02,ho02,hMl2⟩:=zB N;refine zEQ nest ([]:List zE) 0 o02 ho02 (xs:=[]) iR h h1 rfl (fun _ h=>by cases h) (fun _ _ _ h=>h) (fun _ _ h=>h) ?_;intro I1 p2 c2 az ys le10 ho h3 hok;have:=zC hMl2;simp only [id] at this;subst this;exact zR<|wM [2] rfl<|xD<|yZ ⟨_,_,(.tmp rfl ResV.nil),(fun _ g=>g),⟨_,_,_,ys,rfl,rfl,h3,ho,hok⟩⟩
def qY (out:List zE):Option (List zE):=do
 if (decide ((out.length:Int)<=4)) then
  let x<-idx out 0
  let l<-app 48 out ([x]:List zE)
  qY l
 else
  pure (id out)
 partial_fixpoint
def mI (r0:zN) (nest:(List zE)):Option ((List zE)×zN):=do
 let y<-mV nest
 if ((y.length:Int)==0) then
  pure (y,r0)
 else
  let (y2,y3)<-xA r0 40
  if (y2==0) then
   let x<-idx y 0
   let (y5,y6)<-xA y3 2
   let y7<-mT y5
   let l<-app 32 x.Lo ([y7]:List zA)
   pure (y.set 0 (zE.mk l x.Hi),y6)
  else
   if (y2==1) then
    let x<-idx y (W ((y.length:Int) - 1))
    pure (y.set (W ((y.length:Int) - 1)).toNat (zE.mk x.Lo []),y3)
   else
    if (y2==2) then
     let x<-idx y (W ((y.length:Int) - 1))
     let y7<-vD 1
     let y8<-vD 2
     let l<-app 32 x.Hi ([y7,y8]:List zA)
     pure (y.set (W ((y.length:Int) - 1)).toNat (zE.mk x.Lo l),y3)
    else
     if (y2==3) then
      let y7<-vD 99
      let x<-idx y 0
      pure (y.set 0 (zE.mk x.Lo [y7]),y3)
     else
      if (y2==4) then
       let z<-qY y
       pure (z,y3)
      else
       pure (y,y3)
theorem zDj:∀ (out:List zE) (o:List zE),qY out=some o->∀ {B}{I0 I:Imm}{Q}{K:HA}{p1 c1 cs},I0.le I->RL I cs out->(∀ l a w,¬Q (.goto l) a w)->(∀ a w,¬Q .outgrown a w)->(∀ (I':Imm) (p2:Option Addr) (c2:Nat) (az:List Value),I0.le I'->RL I' az o->T 73 B Q (.exit 1) I' [hO zE (vS p2 o c2) az,K] [(5,vS p2 o c2)])->J Tryz.prog 73 B (nav (bodyOf f135) [1,1,1,1,0,1,0,1,1,1,1,1,1,1,1,1,0,0]) Q I [hO zE (vS p1 out c1) cs,K] [(5,vS p1 out c1)]:=by
 refine qY.partial_correctness _ fun aJ ih out o N B I0 I Q K p1 c1 cs H h hg ho hx=>yM hg ho<|zZ<|yF [65] rfl<|zG<|yC N ?_ ?_
 · intro hc N;obtain ⟨x,hy,N⟩:=zB N;obtain ⟨l,aB,N⟩:=zB N;refine zS<|xX<|zJ<|yB 2 [] [66,67] rfl<|pQ 0 rfl rfl rfl h hy ?_;intro ad aQ ar bM ap;obtain ⟨p3,c3,p4,c4,rfl,h1,h2⟩:=sR ap;refine zAH 0 0 ar bM (cLoop x p3 c3 p4 c4) (vA (cLoop x p3 c3 p4 c4)) rfl rfl<|uK (cLoop x p3 c3 p4 c4) zE ?_;intro b2 hb2;have h3:RL I (cLoop x p3 c3 p4 c4) ([x]:List zE):=⟨(cLoop x p3 c3 p4 c4),[],rfl,rfl,qM ⟨_,_,rfl,h1,h2⟩,rfl⟩;exact sU 141 2 1 rfl rfl rfl h (.inr ⟨0,rfl⟩) h3 aB fun p5 c5 bJ h5=>yH [] [5] rfl<|zM<|yK<|kE (zFu 0 rfl)<|oY<|ih l _ N H h5 hg ho hx
 intro hc N;have:=zC N;simp only [id] at this;subst this;exact wJ<|yL<|hx _ _ _ _ H h
def zAq (b0:Nat) (r:(List zE)×zN):KT:=fun kk I' ah v=>
  ∃ v0 k0,ah=[.blk b0 ⟨k0⟩]/\v=tupV [v0]/\SL I' v0 r.1/\Rp.rep I' k0 r.2
theorem zBm {B:Base}{I:Imm}{out:List zE}{p1 c1 cs}{aw:Nat}{kl:List Value}{y3:zN} (h:RL I cs out) (hk:Rp.rep I kl y3) :
    J Tryz.prog 73 B (nav (bodyOf f135) [1,1,1,1,1]) (QB Tryz.prog f135 B (zAq aw (out,y3))) I [hO zE (vS p1 out c1) cs,hB aw kl] [(5,vS p1 out c1)]:=by
 refine yF [4] rfl<|xD<|yU 0 rfl ?_
 intro I1 af hl
 have h1:=SL.of_frozen hl af h
 exact yZ ⟨_,_,(.tmp rfl ResV.nil),(fun _ g=>g),⟨_,_,rfl,rfl,h1,Rp.mono af hk⟩⟩
theorem zN4 (xs:List NL):((xs.map NL.d).length:Int)=((xs.map NL.raw).length:Int):=by simp
theorem zO5 {p c} (xs:List NL):vS p (xs.map NL.raw) c=vS p (xs.map NL.d) c:=by simp [vS]
theorem zAJ:∀ r0 nest r,mI r0 nest=some r->∀ {I:Imm}{aw:Nat}{p c p1 c1},(S4 I p r0.b c)->(S4 I p1 nest c1)->RT 135 [vP aw 0,vS p1 nest c1] I [hB aw (cRd r0 p c)] (zAq aw r):=by
 intro r0 nest r N I aw p c p1 c1 h h1;unfold mI at N;refine yJ func135 fun B=>?_;have H:=iS I;obtain ⟨y,hy,N⟩:=zB N;refine yF [0,1] rfl<|yX<|yB 1 [] [7] rfl<|xL (zGq nest _ hy h1) ?_;rintro I1 ay v2 k2 af - ⟨p2,c2,cs,xs,rfl,rfl,h2,rfl,cb⟩ -;have h:=h.mono af;clear h1 H;simp only [zN4] at N;refine tZ (ah:=hO Raw2 (vS p2 (xs.map NL.raw) c2) cs::hB aw (cRd r0 p c)::NLs xs) (fun w g=>g.perm (List.Perm.cons _ (dz (l₁:=[hB aw (cRd r0 p c)]) (l₂:=NLs xs))))<|yH [] [0,5] rfl<|wM [0,5,6] rfl<|zX<|yF [0,5,6,12] rfl<|zG<|yC N ?_ ?_
 · intro hc N;obtain rfl:=zC N;refine zJ6 (NLs xs++[hO Raw2 (vS p2 (xs.map NL.raw) c2) cs,hB aw (cRd r0 p c)]) (dz)<|zBi xs cb ?_;intro I2 aF hfz;have h:=h.mono aF;have h3:=zHg hfz;rw [<- jR h2] at h3;refine yF [4] rfl<|xD<|zH<|yU 0 rfl ?_;intro I3 aK hl;have h4:SL I3 (vS p2 (xs.map NL.raw) c2) (xs.map NL.d):=SL.of_frozen (l:=xs.map NL.d) hl aK h3;exact yZ ⟨_,_,(.tmp rfl ResV.nil),(fun _ g=>g),⟨_,_,rfl,rfl,h4,yR ⟨_,rfl,h.mono aK⟩⟩⟩
 intro hc N;obtain ⟨⟨y2,y3⟩,aB,N⟩:=zB N;refine zS<|zX<|yE<|yB 1 [] [14] rfl<|tZ (ah:=hB aw (cRd r0 p c)::hO Raw2 (vS p2 (xs.map NL.raw) c2) cs::NLs xs) (fun w g=>g.perm (List.Perm.swap _ _ _))<|sJ (xR r0 40 _ aB h) rfl ?_;rintro I2 ay v2 k2 aF - ⟨v0,kk,rfl,rfl,rfl,h3⟩ -;obtain ⟨p3,c3,rfl,h4⟩:=yA h3;clear h3 h;have h2:=iM aF h2;have cb:=fun x hx=>(cb x hx).mono aF;refine yH [] [0,5,6,15] rfl<|xX<|yF [0,5,6,15,16] rfl<|zG<|zJ6 (NLs xs++[hO Raw2 (vS p2 (xs.map NL.raw) c2) cs,hB aw (cRd y3 p3 c3)]) ((dz).trans (List.Perm.swap _ _ _))<|yC N ?_ ?_
 · intro hc0 N;obtain ⟨x,hx,N⟩:=zB N;obtain ⟨⟨y5,y6⟩,bI,N⟩:=zB N;obtain ⟨y7,hy7,N⟩:=zB N;obtain ⟨l,hl,N⟩:=zB N;obtain ⟨x,hx2,rfl⟩:=zHS hx;have hx:=hx2; clear hx2;refine zNW hx cb ?_;intro I3 aK hfz;obtain ⟨xlo,xhi⟩:=cb x (vU hx |>.2.2 |> cI);replace xlo:=iM aK xlo;replace xhi:=iM aK xhi;have ⟨h2,h4⟩:=m2 aK h2 h4;clear cb;refine pH 0 rfl ?_;intro I4 bk hl4;have khi:=SL.of_frozen hl4 bk xhi;replace xlo:=iM bk xlo;have ⟨h2,h4⟩:=m2 bk h2 h4;have hfz:=fun j y hj hy=>(hfz j y hj hy).mono bk;have hxr:=zCM (f:=NL.raw) hx;refine rU [(0,vP aw 0),(5,vS p2 (xs.map NL.raw) c2)]<|wQ [.p (vS p2 (xs.map NL.raw) c2) [],.p (vS p2 (xs.map NL.raw) c2) [],.x (fun I' v hx'=>∃ ad,v=.pointer (some ad)/\hx'=[]/\AtO (vS p2 (xs.map NL.raw) c2) 2 0 ad),.x (fun I' v hx'=>∃ ad,v=.pointer (some ad)/\hx'=[]/\AtO (vS p2 (xs.map NL.raw) c2) 2 0 ad),.x (fun I' v hx'=>v=x.vl/\hx'=[]),.p (vP aw 0) [],.x (fun I' v hx'=>∃ kk,v=vI y5/\hx'=[hB aw kk]/\Rp.rep I' kk y6),.x (fun I' v hx'=>∃ p5 c5,v=vA (cAff y7 p5 c5)/\hx'=[]/\SL I' (vS p5 y7.Coefs c5) y7.Coefs),.x (fun I' v hx'=>∃ b4,v=vS (some ⟨b4,0,none⟩) ([y7]:List zA) 1/\hx'=[]/\SL I' (vS (some ⟨b4,0,none⟩) ([y7]:List zA) 1) ([y7]:List zA)),.x (fun I' v hx'=>∃ p6 c6 cs6,v=vS p6 l c6/\hx'=[hO zA (vS p6 l c6) cs6]/\RL I' cs6 l)]
     [[],[],[(1,false)],[(2,false)],[(3,false)],[],[(5,false),(13,true)],[(6,false)],[(7,false)],[(4,false),(8,false),(14,true)]]
     [hO Raw2 (vS p2 (xs.map NL.raw) c2) cs] [[hB aw (cRd y3 p3 c3)],[hO zA x.vl x.csl]] [(0,false),(6,true),(9,true)] (zY [1,2,0]) ?_ ?_
   · refine Op<|Op<|Ox ?_<|Ox ?_<|Ox ?_<|Op<|Ox ?_<|Ox ?_<|Ox ?_<|Ox ?_<|On
     · intro I1 hf af;exact yT [19] rfl<|pQ 0 rfl rfl rfl (iM af h2) hxr fun ad aQ ar bM ap=>yN [] iR ⟨_,rfl,rfl,ar⟩
     · rintro I1 hf af _ _ ⟨ad,rfl,rfl,ar⟩;exact oQ<|zBF [(20,.pointer (some ad))]<|mE 4 [(21,.pointer (some ad))]<|yN [] iR ⟨_,rfl,rfl,ar⟩
     · rintro I1 hf af _ _ ⟨ad,rfl,rfl,ar⟩;refine yT [21] rfl ?_;have ap:=h2.at (i:=0) (vU hxr).2.2;obtain ⟨⟨bM,o1,o2⟩,_⟩:=ap;exact zAH 0 0 ar bM [x.vl] x.vl rfl rfl<|xC iR
     · rintro I1 hf af _ _ ⟨rfl,rfl⟩ _ _ rfl;refine yT [23] rfl<|sJ (xR y3 2 _ bI (h4.mono af)) rfl ?_;rintro ba ay v2 k2 aF - ⟨v0,kk,rfl,rfl,rfl,h5⟩ -;exact yN [hB aw kk] aF ⟨_,rfl,rfl,h5⟩
     · rintro I1 hf af _ _ ⟨kk,rfl,rfl,h5⟩;refine yT [24] rfl<|xL (eM y5 _ hy7) ?_;rintro ba ay v2 k2 aF - ⟨v0,rfl,rfl,⟨aS,rfl,h6⟩⟩ -;obtain ⟨p5,c5,rfl,h7⟩:=yQ h6;exact yN [] aF ⟨_,_,rfl,rfl,h7⟩
     · rintro I1 hf af _ _ ⟨p5,c5,rfl,rfl,h7⟩;refine yT [25] rfl<|uK (cAff y7 p5 c5) zA ?_;intro b4 hb4;have h15:RL I1 (cAff y7 p5 c5) ([y7]:List zA):=⟨(cAff y7 p5 c5),_,rfl,rfl,(yO ⟨_,rfl,h7⟩),rfl⟩;exact xH 0 rfl fun aW le01 hl01=>yN [] le01 ⟨_,rfl,rfl,SL.of_frozen hl01 le01 h15⟩
     rintro I1 hf af _ _ ⟨rfl,rfl⟩ _ _ ⟨b4,rfl,rfl,h16⟩ _ _ rfl;refine yT [22,26] rfl ?_;obtain ⟨ccs4,k03,k04⟩:=h16;exact sU 95 2 0 rfl rfl rfl (iM af xlo) (.inl k03) k04 hl fun aR bc bJ h17=>wN (ah:=(hO zA (vS aR l bc) bJ::hO Raw2 (vS p2 (xs.map NL.raw) c2) cs::hf)) rfl<|yN [hO zA (vS aR l bc) bJ] iR ⟨_,_,_,rfl,rfl,h17⟩
   rintro I5 bz _ _ ⟨rfl,rfl⟩ _ _ ⟨kk,rfl,rfl,h5⟩ _ _ ⟨p6,c6,cs6,rfl,rfl,h6⟩;have h2:=iM bz h2;refine yT [5,18,27] rfl<|pQ 2 rfl rfl rfl h2 hxr ?_;intro ad aQ ar bM ap;obtain ⟨rfl,o1,o2⟩:=ap;refine yB 12 [] [29] rfl<|tR (c:=[vS p6 l c6,x.vh]) (x':=(⟨vS p6 l c6,x.vh⟩:Raw2)) 2 0 rfl rfl rfl ar rfl rfl bM (by kernel_rfl) (by kernel_rfl) (by kernel_rfl) h2 hxr (by kernel_rfl) ⟨rfl,rfl,rfl⟩ fun cs7 h7 aV=>wN (ah:=[hO zA (vS p6 l c6) cs6,hB aw kk,hO Raw2 (vS p2 (xs.map NL.raw) c2) cs7]) rfl<|xH 0 rfl ?_;intro I6 bC hl6;have klo:=SL.of_frozen hl6 bC h6;have hpw:=zJ7 (r:=⟨vS p6 l c6,x.vh⟩) (d:=⟨l,x.hi⟩) (fun j y hj hy=>((hfz j y hj hy).mono bz).mono bC) ⟨klo,(khi.mono bz).mono bC⟩;have h8:=hpw.rl;have e8:=jR h7;obtain rfl:=zC N;have eL:vS p2 (xs.map NL.raw) c2=vS p2 ((xs.map NL.d).set 0 (⟨l,x.hi⟩:zE)) c2:=by simp [vS]
   rw [show (0:Int).toNat=0 from rfl] at e8 h8;rw [<- e8] at h8;rw [eL];exact tZ (zY [1,0] (ah:=[hO zE (vS p2 ((xs.map NL.d).set 0 (⟨l,x.hi⟩:zE)) c2) cs7,hB aw kk]))<|yH [] [5] rfl<|zM<|zG<|rU [(5,vS p2 ((xs.map NL.d).set 0 (⟨l,x.hi⟩:zE)) c2)]<|zBm h8 (Rp.mono bC h5)
 intro hc0 N;refine yF [0,5,6,15,30] rfl<|zG<|yC N ?_ ?_
 · intro aI N;obtain ⟨x,hx,N⟩:=zB N;obtain ⟨x,hx2,rfl⟩:=zHS hx;have hx:=hx2; clear hx2;have hxr:=zCM (f:=NL.raw) hx;refine zBi xs cb ?_;intro I3 aK hfz;obtain ⟨flo,fhi⟩:=hfz x (cI (vU hx).2.2);have ⟨h2,h4⟩:=m2 aK h2 h4;refine zJ<|yB 3 [] [32,34] rfl<|pQ 0 rfl rfl rfl h2 hxr ?_;intro ad aQ ar bM ap;obtain ⟨rfl,o1,o2⟩:=ap;refine yB 5 [] [36] rfl<|tR (c:=[x.vl,z0]) (x':=(⟨x.vl,z0⟩:Raw2)) 0 1 rfl rfl rfl ar rfl rfl bM (by kernel_rfl) (by kernel_rfl) (by kernel_rfl) h2 hxr (by kernel_rfl) ⟨rfl,rfl,rfl⟩ ?_;intro cs7 h7 aV;have hpw:=zJ7 (k:=(W (((xs.map NL.raw).length:Int) - 1)).toNat) (r:=⟨x.vl,z0⟩) (d:=⟨x.lo,[]⟩) (fun j y hj hy=>hfz y (cI hy)) ⟨flo,SL.nil _⟩;have h8:=hpw.rl;rw [<- jR h7] at h8;obtain rfl:=zC N;have eL:vS p2 (xs.map NL.raw) c2=vS p2 ((xs.map NL.d).set (W (((xs.map NL.raw).length:Int) - 1)).toNat (⟨x.lo,[]⟩:zE)) c2:=by simp only [vS,cM,d6]
   rw [eL];exact wN (ah:=[hO zE (vS p2 ((xs.map NL.d).set (W (((xs.map NL.raw).length:Int) - 1)).toNat (⟨x.lo,[]⟩:zE)) c2) cs7,hB aw (cRd y3 p3 c3)]) rfl<|yH [] [5] rfl<|zM<|zG<|rU [(5,vS p2 ((xs.map NL.d).set (W (((xs.map NL.raw).length:Int) - 1)).toNat (⟨x.lo,[]⟩:zE)) c2)]<|zBm h8 (yR ⟨_,rfl,h4⟩)
 intro aI N;refine yF [0,5,6,15,37] rfl<|zG<|yC N ?_ ?_
 · intro aX N;obtain ⟨x,hx,N⟩:=zB N;obtain ⟨y7,hy7,N⟩:=zB N;obtain ⟨y8,hy8,N⟩:=zB N;obtain ⟨l,hl,N⟩:=zB N;obtain ⟨x,hx2,rfl⟩:=zHS hx;have hx:=hx2; clear hx2;refine zNW hx cb ?_;intro I3 aK hfz;obtain ⟨xlo,xhi⟩:=cb x (vU hx |>.2.2 |> cI);replace xlo:=iM aK xlo;replace xhi:=iM aK xhi;have ⟨h2,h4⟩:=m2 aK h2 h4;clear cb;refine pH 1 rfl ?_;intro I4 bk hl4;have klo:=SL.of_frozen hl4 bk xlo;replace xhi:=iM bk xhi;have ⟨h2,h4⟩:=m2 bk h2 h4;have hfz:=fun j y hj hy=>(hfz j y hj hy).mono bk;have hxr:=zCM (f:=NL.raw) hx;refine rU [(5,vS p2 (xs.map NL.raw) c2),(6,vI ((xs.map NL.raw).length:Int))]<|wQ [.p (vS p2 (xs.map NL.raw) c2) [],.p (vI ((xs.map NL.raw).length:Int)) [],.p (vI (W (((xs.map NL.raw).length:Int) - 1))) [],.p (vS p2 (xs.map NL.raw) c2) [],.p (vI ((xs.map NL.raw).length:Int)) [],.p (vI (W (((xs.map NL.raw).length:Int) - 1))) [],.x (fun I' v hx'=>∃ ad,v=.pointer (some ad)/\hx'=[]/\AtO (vS p2 (xs.map NL.raw) c2) 2 (W (((xs.map NL.raw).length:Int) - 1)).toNat ad),.x (fun I' v hx'=>∃ ad,v=.pointer (some (ad.add 1))/\hx'=[]/\AtO (vS p2 (xs.map NL.raw) c2) 2 (W (((xs.map NL.raw).length:Int) - 1)).toNat ad),.x (fun I' v hx'=>v=x.vh/\hx'=[]),.x (fun I' v hx'=>∃ p5 c5,v=vA (cAff y7 p5 c5)/\hx'=[]/\SL I' (vS p5 y7.Coefs c5) y7.Coefs),.x (fun I' v hx'=>∃ p5 c5,v=vA (cAff y8 p5 c5)/\hx'=[]/\SL I' (vS p5 y8.Coefs c5) y8.Coefs),.x (fun I' v hx'=>∃ b4,v=vS (some ⟨b4,0,none⟩) ([y7,y8]:List zA) 2/\hx'=[]/\SL I' (vS (some ⟨b4,0,none⟩) ([y7,y8]:List zA) 2) ([y7,y8]:List zA)),.x (fun I' v hx'=>∃ p6 c6 cs6,v=vS p6 l c6/\hx'=[hO zA (vS p6 l c6) cs6]/\RL I' cs6 l)]
     [[],[],[(1,false)],[],[],[(4,false)],[(3,false),(5,false)],[(6,false)],[(7,false)],[],[],[(9,false),(10,false)],[(8,false),(11,false),(16,true)]]
     [hO Raw2 (vS p2 (xs.map NL.raw) c2) cs,hB aw (cRd y3 p3 c3)] [[hO zA x.vh x.csh]] [(0,false),(2,false),(12,true)] (zY [1,2,0]) ?_ ?_
   · refine Op<|Op<|Op<|Op<|Op<|Op<|Ox ?_<|Ox ?_<|Ox ?_<|Ox ?_<|Ox ?_<|Ox ?_<|Ox ?_<|On
     · intro I1 hf af;exact yT [42,44] rfl<|pQ 0 rfl rfl rfl (iM af h2) hxr fun ad aQ ar bM ap=>yN [] iR ⟨_,rfl,rfl,ar⟩
     · rintro I1 hf af _ _ ⟨ad,rfl,rfl,ar⟩;exact oQ<|zBF [(45,.pointer (some ad))]<|mE 8 [(46,.pointer (some (ad.add 1)))]<|yN [] iR ⟨_,rfl,rfl,ar⟩
     · rintro I1 hf af _ _ ⟨ad,rfl,rfl,ar⟩;refine yT [46] rfl ?_;have ap:=h2.at (vU hxr).2.2;obtain ⟨⟨bM,o1,o2⟩,_⟩:=ap;exact zAH 0 1 ar bM [x.vh] x.vh rfl rfl<|xC iR
     · intro I1 hf af;refine I_h []<|xL (uT 1 _ hy7) ?_;rintro ba ay v2 k2 aF - ⟨p5,c5,bJ,rfl,rfl,h5⟩ -;exact xH 0 rfl fun bH aK hl3=>zGi (hx:=[]) rfl (aF.trans aK) rfl (zH7 rfl) ⟨_,_,rfl,rfl,SL.of_frozen hl3 aK h5⟩
     · intro I1 hf af;refine I_h []<|xL (uT 2 _ hy8) ?_;rintro ba ay v2 k2 aF - ⟨p5,c5,bJ,rfl,rfl,h5⟩ -;exact xH 0 rfl fun bH aK hl3=>zGi (hx:=[]) rfl (aF.trans aK) rfl (zH7 rfl) ⟨_,_,rfl,rfl,SL.of_frozen hl3 aK h5⟩
     · rintro I1 hf af _ _ ⟨p5,c5,rfl,rfl,h7⟩ _ _ ⟨p6,c6,rfl,rfl,h8⟩;refine yT [48,49] rfl<|uK [vS p5 y7.Coefs c5,vI y7.Const,vS p6 y8.Coefs c6,vI y8.Const] zA ?_;intro b4 hb4;have h15:RL I1 [vS p5 y7.Coefs c5,vI y7.Const,vS p6 y8.Coefs c6,vI y8.Const] ([y7,y8]:List zA):=⟨(cAff y7 p5 c5),_,rfl,rfl,(yO ⟨_,rfl,h7⟩),⟨(cAff y8 p6 c6),_,rfl,rfl,(yO ⟨_,rfl,h8⟩),rfl⟩⟩;exact xH 0 rfl fun aW le01 hl01=>yN [] le01 ⟨_,rfl,rfl,SL.of_frozen hl01 le01 h15⟩
     rintro I1 hf af _ _ ⟨rfl,rfl⟩ _ _ ⟨b4,rfl,rfl,h16⟩ _ _ rfl;refine yT [47,50] rfl ?_;obtain ⟨ccs4,k03,k04⟩:=h16;exact sU 95 2 0 rfl rfl rfl (iM af xhi) (.inl k03) k04 hl fun aR bc bJ h17=>wN (ah:=(hO zA (vS aR l bc) bJ::hO Raw2 (vS p2 (xs.map NL.raw) c2) cs::hB aw (cRd y3 p3 c3)::hf)) rfl<|yN [hO zA (vS aR l bc) bJ] iR ⟨_,_,_,rfl,rfl,h17⟩
   rintro I5 bz _ _ ⟨rfl,rfl⟩ _ _ ⟨rfl,rfl⟩ _ _ ⟨p6,c6,cs6,rfl,rfl,h6⟩;have h2:=iM bz h2;refine yT [5,39,41,51] rfl<|pQ 1 rfl rfl rfl h2 hxr ?_;intro ad aQ ar bM ap;obtain ⟨rfl,o1,o2⟩:=ap;refine yB 15 [] [53] rfl<|tR (c:=[x.vl,vS p6 l c6]) (x':=(⟨x.vl,vS p6 l c6⟩:Raw2)) 1 1 rfl rfl rfl ar rfl rfl bM (by kernel_rfl) (by kernel_rfl) (by kernel_rfl) h2 hxr (by kernel_rfl) ⟨rfl,rfl,rfl⟩ fun cs7 h7 aV=>wN (ah:=[hO zA (vS p6 l c6) cs6,hO Raw2 (vS p2 (xs.map NL.raw) c2) cs7,hB aw (cRd y3 p3 c3)]) rfl<|xH 0 rfl ?_;intro I6 bC hl6;have khi:=SL.of_frozen hl6 bC h6;have hpw:=zJ7 (k:=(W (((xs.map NL.raw).length:Int) - 1)).toNat) (r:=⟨x.vl,vS p6 l c6⟩) (d:=⟨x.lo,l⟩) (fun j y hj hy=>((hfz j y hj hy).mono bz).mono bC) ⟨(klo.mono bz).mono bC,khi⟩;have h8:=hpw.rl;rw [<- jR h7] at h8;obtain rfl:=zC N;have eL:vS p2 (xs.map NL.raw) c2=vS p2 ((xs.map NL.d).set (W (((xs.map NL.raw).length:Int) - 1)).toNat (⟨x.lo,l⟩:zE)) c2:=by simp only [vS,cM,d6]
   rw [eL];exact wN (ah:=[hO zE (vS p2 ((xs.map NL.d).set (W (((xs.map NL.raw).length:Int) - 1)).toNat (⟨x.lo,l⟩:zE)) c2) cs7,hB aw (cRd y3 p3 c3)]) rfl<|yH [] [5] rfl<|zM<|zG<|rU [(5,vS p2 ((xs.map NL.d).set (W (((xs.map NL.raw).length:Int) - 1)).toNat (⟨x.lo,l⟩:zE)) c2)]<|zBm h8 (yR ⟨_,rfl,(h4.mono bz).mono bC⟩)
 intro aX N;refine zBi xs cb ?_;intro I3 aK hfz;have ⟨h2,h4⟩:=m2 aK h2 h4;clear cb;refine yF [0,5,6,15,54] rfl<|zG<|yC N ?_ ?_
 · intro bK N;obtain ⟨y7,hy7,N⟩:=zB N;obtain ⟨x,hx,N⟩:=zB N;obtain ⟨x,hx2,rfl⟩:=zHS hx;have hx:=hx2; clear hx2;have hxr:=zCM (f:=NL.raw) hx;refine zJ<|yB 1 [] [56] rfl<|xL (uT 99 _ hy7) ?_;rintro I4 ay v2 k2 bk - ⟨p5,c5,bJ,rfl,rfl,h5⟩ -;refine xH 0 rfl ?_;intro I5 bz hl5;have h7:=SL.of_frozen hl5 bz h5;refine uK (cAff y7 p5 c5) zA ?_;intro b4 hb4;have h15:RL I5 (cAff y7 p5 c5) ([y7]:List zA):=⟨(cAff y7 p5 c5),_,rfl,rfl,(yO ⟨_,rfl,h7⟩),rfl⟩;refine xH 0 rfl ?_;intro I6 bC hl6;have khi:SL I6 (vS (some ⟨b4,0,none⟩) ([y7]:List zA) 1) [y7]:=SL.of_frozen hl6 bC h15;have le:=(bk.trans bz).trans bC;have ⟨h2,h4⟩:=m2 le h2 h4;have hfz:=fun x hx=>(hfz x hx).mono le;obtain ⟨flo,fhi⟩:=hfz x (cI (vU hx).2.2);refine pQ 0 rfl rfl rfl h2 hxr ?_;intro ad aQ ar bM ap;obtain ⟨rfl,o1,o2⟩:=ap;refine yB 5 [] [60] rfl<|tR (c:=[x.vl,vS (some ⟨b4,0,none⟩) ([y7]:List zA) 1]) (x':=(⟨x.vl,vS (some ⟨b4,0,none⟩) ([y7]:List zA) 1⟩:Raw2)) 0 1 rfl rfl rfl ar rfl rfl bM (by kernel_rfl) (by kernel_rfl) (by kernel_rfl) h2 hxr (by kernel_rfl) ⟨rfl,rfl,rfl⟩ ?_;intro cs7 h7 aV;have hpw:=zJ7 (k:=0) (r:=⟨x.vl,vS (some ⟨b4,0,none⟩) ([y7]:List zA) 1⟩) (d:=⟨x.lo,[y7]⟩) (fun j y hj hy=>hfz y (cI hy)) ⟨flo,khi⟩;have h8:=hpw.rl;have e8:=jR h7;rw [show (0:Int).toNat=0 from rfl] at e8;rw [<- e8] at h8;obtain rfl:=zC N;have eL:vS p2 (xs.map NL.raw) c2=vS p2 ((xs.map NL.d).set 0 (⟨x.lo,[y7]⟩:zE)) c2:=by simp only [vS,cM,d6]
   rw [eL];exact wN (ah:=[hO zE (vS p2 ((xs.map NL.d).set 0 (⟨x.lo,[y7]⟩:zE)) c2) cs7,hB aw (cRd y3 p3 c3)]) rfl<|yH [] [5] rfl<|zM<|zG<|rU [(5,vS p2 ((xs.map NL.d).set 0 (⟨x.lo,[y7]⟩:zE)) c2)]<|zBm h8 (yR ⟨_,rfl,h4⟩)
 intro bK N;have h8:=zHg hfz;rw [<- jR h2] at h8;rw [zO5];refine yF [0,5,15,61] rfl<|zG<|yC N ?_ ?_
 · intro bO N;obtain ⟨z,hz,N⟩:=zB N;obtain rfl:=zC N;exact yG<|rU [(5,vS p2 (xs.map NL.d) c2)]<|zDj (xs.map NL.d) z hz iR h8 (fun _ _ _ h=>h) (fun _ _ h=>h) fun I4 p6 c6 cs6 bk h9=>zR<|zM<|zG<|rU [(5,vS p6 z c6)]<|zBm h9 (yR ⟨_,rfl,h4.mono bk⟩)
 intro bO N;obtain rfl:=zC N;exact zS<|zM<|zG<|rU [(5,vS p2 (xs.map NL.d) c2)]<|zBm h8 (yR ⟨_,rfl,h4⟩)
def zER (b0:Nat) (r:zP×zN):KT:=fun kk I' ah v=>
  ∃ v0 k0,ah=[.blk b0 ⟨k0⟩]/\v=tupV [v0]/\(∃ cs,v0=.agg ⟨cs⟩/\Rp.rep I' cs r.1)/\Rp.rep I' k0 r.2
def rC (r0:zN) (s:zP):Option (zP×zN):=do
 let y<-gZ s
 let (y2,y3)<-xA r0 40
 let (WriteArray,WriteSubs,ValueKind,ValueNum,ValueKids,x)<-(do
   if (y2==0) then
    let (y5,y6)<-oI y3 ([(⟨[69]⟩:Str),(⟨[]⟩:Str),(⟨[65,66]⟩:Str),(⟨[97]⟩:Str)]:List Str)
    pure (y5,y.Write.Subs,y.Value.Kind,y.Value.Num,y.Value.Kids,y6)
   else
    let (WriteSubs1,ValueKind1,ValueNum1,ValueKids1,x1)<-(do
      if (y2==1) then
       let y7<-mT 3
       let y8<-nT
       let l<-app 32 y.Write.Subs ([y7,y8]:List zA)
       pure (l,y.Value.Kind,y.Value.Num,y.Value.Kids,y3)
      else
       let (ValueKind2,ValueNum2,ValueKids2,x2)<-(do
         if (y2==2) then
          let (y10,y11)<-yV y3 ([0,7,1,4,2]:List Int)
          pure (y10,y.Value.Num,y.Value.Kids,y11)
         else
          let (ValueNum3,ValueKids3,x3)<-(do
            if (y2==3) then
             let (y13,y14)<-yV y3 ([100,(-1),1]:List Int)
             pure (y13,y.Value.Kids,y14)
            else
             let ValueKids4<-(do
               if (y2==4) then
                let l1<-app 112 y.Value.Kids ([(zI.mk 1 0 (zA.mk ([]:List Int) 0) (zL.mk (⟨[]⟩:Str) ([]:List zA)) ([]:List zI))]:List zI)
                pure (id l1)
               else
                pure y.Value.Kids
                 : Option (List zI))
             pure (y.Value.Num,ValueKids4,y3)
              : Option (Int×List zI×zN))
          pure (y.Value.Kind,ValueNum3,ValueKids3,x3)
           : Option (Int×Int×List zI×zN))
       pure (y.Write.Subs,ValueKind2,ValueNum2,ValueKids2,x2)
        : Option (List zA×Int×Int×List zI×zN))
    pure (y.Write.Array,WriteSubs1,ValueKind1,ValueNum1,ValueKids1,x1)
     : Option (Str×List zA×Int×Int×List zI×zN))
 pure ((zP.mk (zL.mk WriteArray WriteSubs) (zI.mk ValueKind ValueNum y.Value.Index y.Value.Read ValueKids)),x)
theorem zAK:∀ r0 s r,rC r0 s=some r->∀ {I:Imm}{aw:Nat}{p c p1 c1 p2 c2 p3 c3 p4 c4},(S4 I p r0.b c)->(S4 I p1 s.Write.Subs c1)->(S4 I p2 s.Value.Index.Coefs c2)->(S4 I p3 s.Value.Read.Subs c3)->(S4 I p4 s.Value.Kids c4)->RT 136 [vP aw 0,vA (cStmt s p1 c1 p2 c2 p3 c3 p4 c4)] I [hB aw (cRd r0 p c)] (zER aw r):=by
 intro r0 s r N I aw p c p1 c1 p2 c2 p3 c3 p4 c4 h h1 h2 h3 h4;unfold rC at N;refine yJ func136 fun B=>?_;have H:=iS I;refine yE<|tO (cStmt s p1 c1 p2 c2 p3 c3 p4 c4) ?_;intro b hb;refine wS [vT ([]),z0,vI 0,vI 0,z0,vI 0,vT ([]),z0,z0] ?_;intro b1 hb1;refine yD rfl<|yX<|rQ 1 [1] [(6,vA (cStmt s p1 c1 p2 c2 p3 c3 p4 c4))]<|bE N fun y hy N=>xL (zCz s _ hy h1 h2 h3 h4) ?_;rintro I0 ay v2 k2 le - ⟨p5,c5,cs,p6,c6,p7,c7,p8,c8,az,rfl,rfl,h5,h6,h7,h8⟩ -;have ⟨h,H⟩:=m2 le h H;refine wS [vT ([]),z0,vI 0,vI 0,z0,vI 0,vT ([]),z0,z0] ?_;intro b2 hb2;refine xJ 0 (cStmt y p5 c5 p6 c6 p7 c7 p8 c8) rfl<|yD rfl<|zX<|yE<|yB 1 [] [8] rfl<|tZ (zY [5,0,1,2,3,4] (ah:=[hB aw (cRd r0 p c),hB b2 (cStmt y p5 c5 p6 c6 p7 c7 p8 c8),hO zA (vS p5 y.Write.Subs c5) cs,hO zI (vS p8 y.Value.Kids c8) az,hB b1 [vT ([]),z0,vI 0,vI 0,z0,vI 0,vT ([]),z0,z0],hB b (cStmt s p1 c1 p2 c2 p3 c3 p4 c4)])) ?_;obtain ⟨⟨y2,y3⟩,aB,N⟩:=zB N;refine sJ (xR r0 40 _ aB h) rfl ?_;rintro aW ay v2 k2 af - ⟨v0,kk,rfl,rfl,rfl,h10⟩ -;have ⟨h5,h6,h7,h8,H⟩:=m5 af h5 h6 h7 h8 H;obtain ⟨p9,c9,rfl,h11⟩:=yA h10;refine yD rfl<|xX<|yF [10] rfl<|zG<|pH 5 rfl ?_;intro ba aF hl0;have ar:At ba ⟨b,0,none⟩ (cStmt s p1 c1 p2 c2 p3 c3 p4 c4):=At.of_blk hl0;have ⟨h11,h5,h6,h7,h8,H⟩:=m6 aF h11 h5 h6 h7 h8 H;obtain ⟨o0,aD,aU⟩:=zB N;refine qF (fun I' ah m'=>∃ (WriteArray:Str) (WriteSubs:List zA) (ValueKind:Int) (ValueNum:Int) (ValueKids:List zI) (x:zN) (bi:Option Addr) (bh:Nat) (aS:List Value) (aR:Option Addr) (bc:Nat) (aT:List Value) (bD:Option Addr) (bo:Nat),o0=(WriteArray,WriteSubs,ValueKind,ValueNum,ValueKids,x)/\ba.le I'/\(RL I' aS WriteSubs)/\(RL I' aT ValueKids)/\(S4 I' bD x.b bo)/\ah=[hB aw (cRd x bD bo),hB b2 [vT WriteArray.l,vS bi WriteSubs bh,vI ValueKind,vI ValueNum,vS p6 y.Value.Index.Coefs c6,vI y.Value.Index.Const,vT y.Value.Read.Array.l,vS p7 y.Value.Read.Subs c7,vS aR ValueKids bc],hO zA (vS bi WriteSubs bh) aS,hO zI (vS aR ValueKids bc) aT,hB b1 [vT ([]),z0,vI 0,vI 0,z0,vI 0,vT ([]),z0,z0]]/\m'=[(4,vP b1 0),(5,vP b2 0)]) ?_ ?_
 · have H:=iS ba;refine yC aD ?_ ?_
   · intro hc N;refine zJ<|yB 1 [] [12] rfl<|mN (rT [(⟨[69]⟩:Str),(⟨[]⟩:Str),(⟨[65,66]⟩:Str),(⟨[97]⟩:Str)]) ?_;intro b3 bL aK h16;have ⟨h11,h5,h8,H⟩:=m4 aK h11 h5 h8 H;obtain ⟨⟨y5,y6⟩,aN,N⟩:=zB N;refine sJ (eF y3 ([(⟨[69]⟩:Str),(⟨[]⟩:Str),(⟨[65,66]⟩:Str),(⟨[97]⟩:Str)]:List Str) _ aN h11 h16) rfl ?_;rintro bR ay v2 k2 bk - ⟨v02,kk1,rfl,rfl,rfl,h18⟩ -;have ⟨h5,h8,H⟩:=m3 bk h5 h8 H;obtain ⟨bq,bB,rfl,h19⟩:=yA h18;exact yB 5 [] [16] rfl<|xJ 1 [vT y5.l,vS p5 y.Write.Subs c5,vI y.Value.Kind,vI y.Value.Num,vS p6 y.Value.Index.Coefs c6,vI y.Value.Index.Const,vT y.Value.Read.Array.l,vS p7 y.Value.Read.Subs c7,vS p8 y.Value.Kids c8] rfl<|yD rfl<|yL<|zU ⟨_,_,_,_,_,_,_,_,_,_,_,_,_,_,(zC N).symm,H,h5,h8,h19,rfl,rfl⟩
   intro hc N;refine yF [17] rfl<|zG ?_;obtain ⟨aP,aA,hMc1⟩:=zB N;refine qF (fun I' ah m'=>∃ (WriteSubs1:List zA) (ValueKind1:Int) (ValueNum1:Int) (ValueKids1:List zI) (x1:zN) (p14:Option Addr) (c14:Nat) (bt:List Value) (p15:Option Addr) (c15:Nat) (bJ:List Value) (p16:Option Addr) (c16:Nat),aP=(WriteSubs1,ValueKind1,ValueNum1,ValueKids1,x1)/\ba.le I'/\(RL I' bt WriteSubs1)/\(RL I' bJ ValueKids1)/\(S4 I' p16 x1.b c16)/\ah=[hB aw (cRd x1 p16 c16),hB b2 [vT y.Write.Array.l,vS p14 WriteSubs1 c14,vI ValueKind1,vI ValueNum1,vS p6 y.Value.Index.Coefs c6,vI y.Value.Index.Const,vT y.Value.Read.Array.l,vS p7 y.Value.Read.Subs c7,vS p15 ValueKids1 c15],hO zA (vS p14 WriteSubs1 c14) bt,hO zI (vS p15 ValueKids1 c15) bJ,hB b1 [vT ([]),z0,vI 0,vI 0,z0,vI 0,vT ([]),z0,z0]]/\m'=[(4,vP b1 0),(5,vP b2 0)]) ?_ ?_
   · have H:=iS ba;refine yC aA ?_ ?_
     · intro aI N;obtain ⟨y7,bm,N⟩:=zB N;obtain ⟨y8,bw,N⟩:=zB N;obtain ⟨l,bI,N⟩:=zB N;refine wQ [.p (vP b2 0) [],.p (vP b2 1) [],.p (vS p5 y.Write.Subs c5) [1],.x (eVAff y7),.x (fun I' v hx=>∃ p18 c18 cs7,v=vA (cAff y8 p18 c18)/\hx=[hO Int (vS p18 y8.Coefs c18) cs7]/\(RL I' cs7 y8.Coefs)),.x (fun I' v hx=>∃ b4,v=vS (some ⟨b4,0,none⟩) ([y7,y8]:List zA) 2/\hx=[]/\(SL I' (vS (some ⟨b4,0,none⟩) ([y7,y8]:List zA) 2) ([y7,y8]:List zA))),.x (fun I' v hx=>∃ p19 c19 cs8,v=vS p19 l c19/\hx=[hO zA (vS p19 l c19) cs8]/\(RL I' cs8 l))] [[],[(0,false)],[(1,false)],[],[],[(3,false),(4,true)],[(2,false),(5,false),(10,true)]] [hB aw (cRd y3 p9 c9),hB b2 (cStmt y p5 c5 p6 c6 p7 c7 p8 c8),hO zI (vS p8 y.Value.Kids c8) az,hB b1 [vT ([]),z0,vI 0,vI 0,z0,vI 0,vT ([]),z0,z0]] [[hO zA (vS p5 y.Write.Subs c5) cs]] [(6,true)] (zY [0,1,3,4,2]) ?_ ?_
       · refine Op<|Op<|Op<|Ox ?_<|Ox ?_<|Ox ?_<|Ox ?_<|On
         · intro I1 hf af;refine I_h [] ?_;have H:=iS I1;refine xL (eM 3 _ bm ) ?_;rintro I07 ay v2 k2 bz - ⟨v04,rfl,rfl,⟨cs6,rfl,h23⟩⟩ -;have H:=H.trans bz;obtain ⟨p17,c17,rfl,h24⟩:=yQ h23;exact yN [] H ⟨_,_,rfl,rfl,h24⟩
         · intro I1 hf af;refine I_h [] ?_;have H:=iS I1;refine xL (jS  _ bw ) ?_;rintro I08 ay v2 k2 bC - ⟨p18,c18,cs7,rfl,rfl,h25⟩ -;have H:=H.trans bC;exact yN [hO Int (vS p18 y8.Coefs c18) cs7] H ⟨_,_,_,rfl,rfl,h25⟩
         · rintro I1 hf af _ _ ⟨p17,c17,rfl,rfl,h24⟩ _ _ ⟨p18,c18,cs7,rfl,rfl,h25⟩;refine yT [22,23] rfl ?_;have H:=iS I1;refine xH 0 rfl ?_;intro I09 le7 hl02;have h26:=SL.of_frozen hl02 le7 h25;have ⟨h24,H⟩:=m2 le7 h24 H;refine mN (rc y7 (yO ⟨_,rfl,h24⟩) (rc y8 (yO ⟨_,rfl,h26⟩) rN)) ?_;intro b4 bS le8 h28;have H:=H.trans le8;exact yN [] H ⟨_,rfl,rfl,h28⟩
         rintro I1 hf af _ _ ⟨rfl,rfl⟩ _ _ ⟨b4,rfl,rfl,h28⟩ _ _ rfl;refine yT [21,24] rfl ?_;have h5:=iM af h5;obtain ⟨aQ,k0,k01⟩:=h28;have h28:SL I1 (vS (some ⟨b4,0,none⟩) ([y7,y8]:List zA) 2) ([y7,y8]:List zA):=⟨_,k0,k01⟩;exact sU 95 2 0 rfl rfl rfl h5 (.inl k0) k01 bI fun p19 c19 cs8 h29=>wN (ah:=(hO zA (vS p19 l c19) cs8::hB aw (cRd y3 p9 c9)::hB b2 (cStmt y p5 c5 p6 c6 p7 c7 p8 c8)::hO zI (vS p8 y.Value.Kids c8) az::hB b1 [vT ([]),z0,vI 0,vI 0,z0,vI 0,vT ([]),z0,z0]::hf)) rfl<|yN [hO zA (vS p19 l c19) cs8] iR ⟨_,_,_,rfl,rfl,h29⟩
       rintro bY le9 _ _ ⟨p19,c19,cs8,rfl,rfl,h29⟩;refine yT [4,5,25] rfl ?_;have ⟨h11,h8,H⟩:=m3 le9 h11 h8 H;exact yB 9 [] [27] rfl<|xJ 2 [vT y.Write.Array.l,vS p19 l c19,vI y.Value.Kind,vI y.Value.Num,vS p6 y.Value.Index.Coefs c6,vI y.Value.Index.Const,vT y.Value.Read.Array.l,vS p7 y.Value.Read.Subs c7,vS p8 y.Value.Kids c8] rfl<|yD rfl<|xQ (zW [1,2,0,3,4] rfl (by decide))<|yL<|zU ⟨_,_,_,_,_,_,_,_,_,_,_,_,_,(zC N).symm,H,h29,h8,h11,rfl,rfl⟩
     intro aI N;refine yF [28] rfl<|zG ?_;obtain ⟨o02,ho02,hMc2⟩:=zB N;refine qF (fun I' ah m'=>∃ (ValueKind2:Int) (ValueNum2:Int) (ValueKids2:List zI) (x2:zN) (p20:Option Addr) (c20:Nat) (cs9:List Value) (p21:Option Addr) (c21:Nat),o02=(ValueKind2,ValueNum2,ValueKids2,x2)/\ba.le I'/\(RL I' cs9 ValueKids2)/\(S4 I' p21 x2.b c21)/\ah=[hB aw (cRd x2 p21 c21),hB b2 [vT y.Write.Array.l,vS p5 y.Write.Subs c5,vI ValueKind2,vI ValueNum2,vS p6 y.Value.Index.Coefs c6,vI y.Value.Index.Const,vT y.Value.Read.Array.l,vS p7 y.Value.Read.Subs c7,vS p20 ValueKids2 c20],hO zA (vS p5 y.Write.Subs c5) cs,hO zI (vS p20 ValueKids2 c20) cs9,hB b1 [vT ([]),z0,vI 0,vI 0,z0,vI 0,vT ([]),z0,z0]]/\m'=[(4,vP b1 0),(5,vP b2 0)]) ?_ ?_
     · have H:=iS ba;refine yC ho02 ?_ ?_
       · intro aX N;refine zJ<|yB 1 [] [30] rfl<|mN (rI [0,7,1,4,2]) ?_;intro b5 I013 le10 h33;have ⟨h11,h8,H⟩:=m3 le10 h11 h8 H;obtain ⟨⟨y10,y11⟩,hy6,N⟩:=zB N;refine sJ (xE y3 ([0,7,1,4,2]:List Int) _ hy6 h11 h33) rfl ?_;rintro I014 ay v2 k2 le11 - ⟨v06,kk2,rfl,rfl,rfl,h35⟩ -;have ⟨h8,H⟩:=m2 le11 h8 H;obtain ⟨p22,c22,rfl,h36⟩:=yA h35;exact yB 5 [] [34] rfl<|xJ 1 [vT y.Write.Array.l,vS p5 y.Write.Subs c5,vI y10,vI y.Value.Num,vS p6 y.Value.Index.Coefs c6,vI y.Value.Index.Const,vT y.Value.Read.Array.l,vS p7 y.Value.Read.Subs c7,vS p8 y.Value.Kids c8] rfl<|yD rfl<|yL<|zU ⟨_,_,_,_,_,_,_,_,_,(zC N).symm,H,h8,h36,rfl,rfl⟩
       intro aX N;refine yF [35] rfl<|zG ?_;obtain ⟨o03,ho03,hMc3⟩:=zB N;refine qF (fun I' ah m'=>∃ (ValueNum3:Int) (ValueKids3:List zI) (x3:zN) (p23:Option Addr) (c23:Nat) (cs10:List Value) (p24:Option Addr) (c24:Nat),o03=(ValueNum3,ValueKids3,x3)/\ba.le I'/\(RL I' cs10 ValueKids3)/\(S4 I' p24 x3.b c24)/\ah=[hB aw (cRd x3 p24 c24),hB b2 [vT y.Write.Array.l,vS p5 y.Write.Subs c5,vI y.Value.Kind,vI ValueNum3,vS p6 y.Value.Index.Coefs c6,vI y.Value.Index.Const,vT y.Value.Read.Array.l,vS p7 y.Value.Read.Subs c7,vS p23 ValueKids3 c23],hO zA (vS p5 y.Write.Subs c5) cs,hO zI (vS p23 ValueKids3 c23) cs10,hB b1 [vT ([]),z0,vI 0,vI 0,z0,vI 0,vT ([]),z0,z0]]/\m'=[(4,vP b1 0),(5,vP b2 0)]) ?_ ?_
       · have H:=iS ba;refine yC ho03 ?_ ?_
         · intro bK N;refine zJ<|yB 1 [] [37] rfl<|mN (rI [100,(-1),1]) ?_;intro b6 I016 le12 h40;have ⟨h11,h8,H⟩:=m3 le12 h11 h8 H;obtain ⟨⟨y13,y14⟩,hy7,N⟩:=zB N;refine sJ (xE y3 ([100,(-1),1]:List Int) _ hy7 h11 h40) rfl ?_;rintro I017 ay v2 k2 le13 - ⟨v08,kk3,rfl,rfl,rfl,h42⟩ -;have ⟨h8,H⟩:=m2 le13 h8 H;obtain ⟨p25,c25,rfl,h43⟩:=yA h42;exact yB 5 [] [41] rfl<|xJ 1 [vT y.Write.Array.l,vS p5 y.Write.Subs c5,vI y.Value.Kind,vI y13,vS p6 y.Value.Index.Coefs c6,vI y.Value.Index.Const,vT y.Value.Read.Array.l,vS p7 y.Value.Read.Subs c7,vS p8 y.Value.Kids c8] rfl<|yD rfl<|yL<|zU ⟨_,_,_,_,_,_,_,_,(zC N).symm,H,h8,h43,rfl,rfl⟩
         intro bK N;refine yF [42] rfl<|zG ?_;obtain ⟨o04,ho04,hMc4⟩:=zB N;refine qF (fun I' ah m'=>∃ (ValueKids4:List zI) (p26:Option Addr) (c26:Nat) (cs11:List Value),o04=ValueKids4/\ba.le I'/\(RL I' cs11 ValueKids4)/\ah=[hB aw (cRd y3 p9 c9),hB b2 [vT y.Write.Array.l,vS p5 y.Write.Subs c5,vI y.Value.Kind,vI y.Value.Num,vS p6 y.Value.Index.Coefs c6,vI y.Value.Index.Const,vT y.Value.Read.Array.l,vS p7 y.Value.Read.Subs c7,vS p26 ValueKids4 c26],hO zA (vS p5 y.Write.Subs c5) cs,hO zI (vS p26 ValueKids4 c26) cs11,hB b1 [vT ([]),z0,vI 0,vI 0,z0,vI 0,vT ([]),z0,z0]]/\m'=[(4,vP b1 0),(5,vP b2 0)]) ?_ ?_
         · have H:=iS ba;refine yC ho04 ?_ ?_
           · intro bO N;refine zJ<|rQ 4 [1] [(46,vS p8 y.Value.Kids c8),(47,vA [vI 1,vI 0,z0,vI 0,vT ([]),z0,z0])]<|uK [vI 1,vI 0,z0,vI 0,vT ([]),z0,z0] zI ?_;intro b7 hb7;have h45:RL ba [vI 1,vI 0,z0,vI 0,vT ([]),z0,z0] ([(zI.mk 1 0 (zA.mk ([]:List Int) 0) (zL.mk (⟨[]⟩:Str) ([]:List zA)) ([]:List zI))]:List zI):=⟨[vI 1,vI 0,z0,vI 0,vT ([]),z0,z0],_,rfl,rfl,(wC ⟨_,_,_,rfl,(SL.nil _),(SL.nil _),(SL.nil _)⟩),rfl⟩;obtain ⟨l1,hy8,N⟩:=zB N;refine sU 98 7 4 rfl rfl rfl h8 (.inr ⟨0,rfl⟩) h45 hy8 ?_;intro p27 c27 cs12 h46;exact tZ (zY [1,2,3,4,5] (ah:=[hB aw (cRd y3 p9 c9),hB b2 (cStmt y p5 c5 p6 c6 p7 c7 p8 c8),hO zA (vS p5 y.Write.Subs c5) cs,hO zI (vS p27 l1 c27) cs12,hB b1 [vT ([]),z0,vI 0,vI 0,z0,vI 0,vT ([]),z0,z0]]))<|yB 8 [] [51] rfl<|xJ 1 [vT y.Write.Array.l,vS p5 y.Write.Subs c5,vI y.Value.Kind,vI y.Value.Num,vS p6 y.Value.Index.Coefs c6,vI y.Value.Index.Const,vT y.Value.Read.Array.l,vS p7 y.Value.Read.Subs c7,vS p27 l1 c27] rfl<|yD rfl<|yL<|zU ⟨_,_,_,_,(zC N).symm,H,h46,rfl,rfl⟩
           intro bO N;exact zS<|yL<|zU ⟨_,_,_,_,(zC N).symm,H,h8,rfl,rfl⟩
         rintro I018 ay m2 ⟨ValueKids4,p26,c26,cs11,heq,le14,h44,rfl,rfl⟩;subst o04;have ⟨h11,H⟩:=m2 le14 h11 H;exact yL<|zU ⟨_,_,_,_,_,_,_,_,(zC hMc4).symm,H,h44,h11,rfl,rfl⟩
       rintro I015 ay m2 ⟨ValueNum3,ValueKids3,x3,p23,c23,cs10,p24,c24,heq1,le15,h37,h38,rfl,rfl⟩;subst o03;have H:=H.trans le15;exact yL<|zU ⟨_,_,_,_,_,_,_,_,_,(zC hMc3).symm,H,h37,h38,rfl,rfl⟩
     rintro bX ay m2 ⟨ValueKind2,ValueNum2,ValueKids2,x2,p20,c20,cs9,p21,c21,heq2,le16,h30,h31,rfl,rfl⟩;subst o02;have ⟨h5,H⟩:=m2 le16 h5 H;exact yL<|zU ⟨_,_,_,_,_,_,_,_,_,_,_,_,_,(zC hMc2).symm,H,h5,h30,h31,rfl,rfl⟩
   rintro I06 ay m2 ⟨WriteSubs1,ValueKind1,ValueNum1,ValueKids1,x1,p14,c14,bt,p15,c15,bJ,p16,c16,heq3,le17,h20,h21,h22,rfl,rfl⟩;subst aP;have H:=H.trans le17;exact yL<|zU ⟨_,_,_,_,_,_,_,_,_,_,_,_,_,_,(zC hMc1).symm,H,h20,h21,h22,rfl,rfl⟩
 rintro bH ay m2 ⟨WriteArray,WriteSubs,ValueKind,ValueNum,ValueKids,x,bi,bh,aS,aR,bc,aT,bD,bo,heq4,le18,h12,h13,h14,rfl,rfl⟩;subst o0;have ⟨h6,h7⟩:=m2 le18 h6 h7;refine zM<|yX<|rQ 1 [1] [(52,vA [vT WriteArray.l,vS bi WriteSubs bh,vI ValueKind,vI ValueNum,vS p6 y.Value.Index.Coefs c6,vI y.Value.Index.Const,vT y.Value.Read.Array.l,vS p7 y.Value.Read.Subs c7,vS aR ValueKids bc])]<|xJ 4 [vT WriteArray.l,vS bi WriteSubs bh,vI ValueKind,vI ValueNum,vS p6 y.Value.Index.Coefs c6,vI y.Value.Index.Const,vT y.Value.Read.Array.l,vS p7 y.Value.Read.Subs c7,vS aR ValueKids bc] rfl<|yD rfl<|xD<|yU 2 rfl ?_;intro I019 le19 hl06;have h47:=SL.of_frozen hl06 le19 h12;have ⟨h14,h6,h7,h13⟩:=m4 le19 h14 h6 h7 h13;refine yU 2 rfl ?_;intro I020 le20 hl07;have h48:=SL.of_frozen hl07 le20 h13;have ⟨h14,h47,h6,h7⟩:=m4 le20 h14 h47 h6 h7;obtain rfl:=zC aU;exact yZ ⟨_,_,(.cell 2 rfl rfl (by kernel_rfl) ResV.nil),(zW [0] rfl (by decide)),⟨_,_,rfl,rfl,⟨_,rfl,(vC ⟨_,_,_,_,rfl,h47,h6,h7,h48⟩)⟩,(yR ⟨_,rfl,h14⟩)⟩⟩
end Go.LN
