/- Helper of the proof (see the last text). -/
import Derived.Test.YtcmjkmdecmabaaaGreatLnQ
import Derived.Test.YtcmjkmdecmabaaaGreatTryzShelf
set_option linter.unusedVariables false
set_option linter.unusedSimpArgs false
namespace Go.LN
open Go.Proofs Go.Proofs.Tryz
set_option maxRecDepth 20000
abbrev eS {α:Type} [Rp α] (l:List α):Imm->Value->List HA->Prop:=fun I' v hx=>∃ p c,v=vS p l c/\hx=[]/\S4 I' p l c
abbrev ePExpr (x:zG):Imm->Value->List HA->Prop:=fun I' v hx=>∃ ad p0 c0 p1 c1 p2 c2,v=.pointer (some ad)/\hx=[]/\At I' ad (cExpr x p0 c0 p1 c1 p2 c2)/\S4 I' p0 x.Index.Coefs c0/\S4 I' p1 x.Read.Subs c1/\S4 I' p2 x.Kids c2
abbrev eVExpr (x:zG):Imm->Value->List HA->Prop:=fun I' v hx=>∃ p0 c0 p1 c1 p2 c2,v=vA (cExpr x p0 c0 p1 c1 p2 c2)/\hx=[]/\S4 I' p0 x.Index.Coefs c0/\S4 I' p1 x.Read.Subs c1/\S4 I' p2 x.Kids c2
abbrev ePStmt (x:zO):Imm->Value->List HA->Prop:=fun I' v hx=>∃ ad p0 c0 p1 c1 p2 c2 p3 c3,v=.pointer (some ad)/\hx=[]/\At I' ad (cStmt x p0 c0 p1 c1 p2 c2 p3 c3)/\S4 I' p0 x.Write.Subs c0/\S4 I' p1 x.Value.Index.Coefs c1/\S4 I' p2 x.Value.Read.Subs c2/\S4 I' p3 x.Value.Kids c3
abbrev eVStmt (x:zO):Imm->Value->List HA->Prop:=fun I' v hx=>∃ p0 c0 p1 c1 p2 c2 p3 c3,v=vA (cStmt x p0 c0 p1 c1 p2 c2 p3 c3)/\hx=[]/\S4 I' p0 x.Write.Subs c0/\S4 I' p1 x.Value.Index.Coefs c1/\S4 I' p2 x.Value.Read.Subs c2/\S4 I' p3 x.Value.Kids c3
abbrev ePAff (x:zA):Imm->Value->List HA->Prop:=fun I' v hx=>∃ ad p0 c0,v=.pointer (some ad)/\hx=[]/\At I' ad (cAff x p0 c0)/\S4 I' p0 x.Coefs c0
abbrev eVAff (x:zA):Imm->Value->List HA->Prop:=fun I' v hx=>∃ p0 c0,v=vA (cAff x p0 c0)/\hx=[]/\S4 I' p0 x.Coefs c0
abbrev ePArr (x:zF):Imm->Value->List HA->Prop:=fun I' v hx=>∃ ad p0 c0,v=.pointer (some ad)/\hx=[]/\At I' ad (cArr x p0 c0)/\S4 I' p0 x.Dims c0
abbrev eQArr (k:Nat) (x:zF):Imm->Value->List HA->Prop:=fun I' v hx=>∃ ad p0 c0,v=.pointer (some (ad.add k))/\hx=[]/\At I' ad (cArr x p0 c0)/\S4 I' p0 x.Dims c0
abbrev eVArr (x:zF):Imm->Value->List HA->Prop:=fun I' v hx=>∃ p0 c0,v=vA (cArr x p0 c0)/\hx=[]/\S4 I' p0 x.Dims c0
abbrev ePInst (x:zL):Imm->Value->List HA->Prop:=fun I' v hx=>∃ ad p0 c0,v=.pointer (some ad)/\hx=[]/\At I' ad (cInst x p0 c0)/\S4 I' p0 x.Point c0
abbrev eQInst (k:Nat) (x:zL):Imm->Value->List HA->Prop:=fun I' v hx=>∃ ad p0 c0,v=.pointer (some (ad.add k))/\hx=[]/\At I' ad (cInst x p0 c0)/\S4 I' p0 x.Point c0
abbrev ePPart (x:zN):Imm->Value->List HA->Prop:=fun I' v hx=>∃ ad p0 c0 p1 c1,v=.pointer (some ad)/\hx=[]/\At I' ad (cPart x p0 c0 p1 c1)/\S4 I' p0 x.Nest c0/\S4 I' p1 x.Body c1
abbrev eQPart (k:Nat) (x:zN):Imm->Value->List HA->Prop:=fun I' v hx=>∃ ad p0 c0 p1 c1,v=.pointer (some (ad.add k))/\hx=[]/\At I' ad (cPart x p0 c0 p1 c1)/\S4 I' p0 x.Nest c0/\S4 I' p1 x.Body c1
abbrev eVPart (x:zN):Imm->Value->List HA->Prop:=fun I' v hx=>∃ p0 c0 p1 c1,v=vA (cPart x p0 c0 p1 c1)/\hx=[]/\S4 I' p0 x.Nest c0/\S4 I' p1 x.Body c1
abbrev ePLoop (x:zE):Imm->Value->List HA->Prop:=fun I' v hx=>∃ ad p0 c0 p1 c1,v=.pointer (some ad)/\hx=[]/\At I' ad (cLoop x p0 c0 p1 c1)/\S4 I' p0 x.Lo c0/\S4 I' p1 x.Hi c1
abbrev eQLoop (k:Nat) (x:zE):Imm->Value->List HA->Prop:=fun I' v hx=>∃ ad p0 c0 p1 c1,v=.pointer (some (ad.add k))/\hx=[]/\At I' ad (cLoop x p0 c0 p1 c1)/\S4 I' p0 x.Lo c0/\S4 I' p1 x.Hi c1
abbrev eVLoop (x:zE):Imm->Value->List HA->Prop:=fun I' v hx=>∃ p0 c0 p1 c1,v=vA (cLoop x p0 c0 p1 c1)/\hx=[]/\S4 I' p0 x.Lo c0/\S4 I' p1 x.Hi c1
instance {i j:Imm}{ak:List Raw2}{parts:List zN}{vN vB:Value}{nl:List zE}{bl:List zO}:Mo (LP i ak parts vN nl vB bl) i j (LP j ak parts vN nl vB bl):=⟨fun h x=>x.mono h⟩
abbrev RT:=Ret Tryz.prog
def zDj (r:zK):KT:=fun kk I' ah v=>
  ∃ b_0 a0_0 c0_0,ah=[.blk b_0 ⟨[.slice a0_0 r.b.length c0_0,.int .i64 r.p]⟩]/\v=tupV [(.pointer (some ⟨b_0,0,none⟩))]/\SL I' (.slice a0_0 r.b.length c0_0) r.b
def gA (code:(List UInt8)):Option (zK):=do
 let code1<-(do
   if (decide ((code.length:Int)>2000)) then
    let l<-slc code 0 2000
    pure (id l)
   else
    pure (id code)
     : Option (List UInt8))
 pure (zK.mk code1 0)
theorem zF4:∀ code r,gA code=some r->∀ {I:Imm}{p c},(S4 I p code c)->RT 27 [vS p code c] I [] (zDj  r):=by
 intro code r N I p c h;unfold gA at N;refine yJ func27 fun B=>?_;have H:=iS I;refine vR []<|yA<|yG [5] rfl<|zI ?_;obtain ⟨o0,aB,aS⟩:=zB N;refine qR (fun I' ah m'=>∃ (code1:List UInt8) (p1:Option Addr) (c1:Nat),o0=code1/\I.le I'/\(S4 I' p1 code1 c1)/\ah=[]/\m'=[(0,vS p1 code1 c1)]) ?_ ?_
 · have H:=iS I;refine yF aB ?_ ?_
   · intro hc N;refine zM<|yC 1 [] [6] rfl<|bE N fun l hy N=>zIj rfl h hy ?_;intro v0 h2;obtain ⟨p2,c2,rfl⟩:=h2.form;exact yI [] [0] rfl<|yL<|zU ⟨_,_,_,(zC N).symm,H,h2,rfl,rfl⟩
   intro hc N;exact zT<|yL<|zU ⟨_,_,_,(zC N).symm,H,h,rfl,rfl⟩
 rintro I0 aw m2 ⟨code1,p1,c1,heq,le,h1,rfl,rfl⟩;subst o0;refine yV<|yC 2 [] [9] rfl<|tW [vS p1 code1 c1,vI 0] ?_;intro b hb;refine yI [] [2] rfl<|zI<|xB ?_;obtain rfl:=zC aS;exact xA ⟨_,_,(.tmp rfl ResV.nil),(zX [0] rfl (by decide)),⟨_,_,_,rfl,rfl,h1⟩⟩
def zBv (b0:Nat) (r:Int×zK):KT:=fun kk I' ah v=>
  ∃ v0 k0,ah=[.blk b0 ⟨k0⟩]/\v=tupV [v0]/\v0=.int .i64 r.1/\Rp.rep I' k0 r.2
def yX (r0:zK) (n0:Int):Option (Int×zK):=do
 let t24<-(do
   if (decide (n0<1)) then
    pure true
   else
    pure ((r0.b.length:Int)==0)
     : Option Bool)
 if t24 then
  pure (0,(zK.mk r0.b (W (r0.p+1))))
 else
  if (decide ((W ((W (r0.p+1)) - 1))<(r0.b.length:Int))) then
   let x<-idx r0.b (W ((W (r0.p+1)) - 1))
   let q<-rem (W (x.toNat:Int)) n0
   pure (q,(zK.mk r0.b (W (r0.p+1))))
  else
   let q1<-rem (W ((W (r0.p+1)) - 1)) (r0.b.length:Int)
   let x1<-idx r0.b q1
   let q2<-rem (W ((W ((W ((W (r0.p+1)) - 1))*7))+3)) (r0.b.length:Int)
   let x2<-idx r0.b q2
   let q3<-quo (W ((W (r0.p+1)) - 1)) (r0.b.length:Int)
   let q4<-rem (W (BitVec.ofInt IntKind.i64.bits (W ((W ((W ((W ((W (x1.toNat:Int))*131))+(W ((W (x2.toNat:Int))*1117))))+(W ((W ((W (r0.p+1)) - 1))*29))))+(W (q3*53)))) ^^^ BitVec.ofInt IntKind.i64.bits (W ((W ((W ((W ((W ((W (x1.toNat:Int))*131))+(W ((W (x2.toNat:Int))*1117))))+(W ((W ((W (r0.p+1)) - 1))*29))))+(W (q3*53)))).tdiv 64))).toNat) n0
   pure (q4,(zK.mk r0.b (W (r0.p+1))))
theorem xN:∀ r0 n0 r,yX r0 n0=some r->∀ {I:Imm}{ar:Nat}{p c},(S4 I p r0.b c)->RT 73 [vP ar 0,vI n0] I [hB ar (cRd r0 p c)] (zBv ar r):=by
 intro r0 n0 r N I ar p c h;unfold yX at N;refine yJ func73 fun B=>?_;have H:=iS I;refine vR []<|yV<|yC 8 [0] [12,14] rfl<|xH 0 [vS p r0.b c,vI (W (r0.p+1))] rfl<|yD rfl<|yA<|yB ?_;refine wS N [hB ar [vS p r0.b c,vI (W (r0.p+1))]] (fun t24=>[(0,vP ar 0),(1,vI n0),(24,.bool t24)]) (fun o0 aB=>?_) ?_
 · have H:=iS I;refine zM<|yC 3 [] [17] rfl<|xS [17] aB ?_ ?_
   · intro hc N;exact wB [] [(24,vY)]<|yL<|zU (ct N H)
   intro hc N;exact yI [0] [24] rfl<|yL<|zU (ct N H)
 intro t24 I0 le aS;have h:=h.mono le;refine zI<|yF aS ?_ ?_
 · intro aE N;refine yG [4] rfl<|xC<|zH ?_;obtain rfl:=zC N;exact xA ⟨_,_,(.tmp rfl ResV.nil),(zX [0] rfl (by decide)),⟨_,_,rfl,rfl,rfl,(yO ⟨_,rfl,h⟩)⟩⟩
 intro aE N;refine zT<|yV<|yI [0] [5] rfl<|yA<|yE<|yI [0] [36] rfl<|zI<|yF N ?_ ?_
 · intro aY N;refine yE<|yC 5 [0] [40,41] rfl<|bE N fun x hy N=>xO rfl rfl h hy ?_;intro ad aK aq al;obtain rfl:=al;refine xJ 0 aq [.int .u8 (x.toNat:Int)] (.int .u8 (x.toNat:Int)) rfl<|yC 9 [] [44,45] rfl<|bE N fun q aA N=>zKf rfl aA<|yI [] [4] rfl<|xC<|zH ?_;obtain rfl:=zC N;exact xA ⟨_,_,(.tmp rfl ResV.nil),(zX [0] rfl (by decide)),⟨_,_,rfl,rfl,rfl,(yO ⟨_,rfl,h⟩)⟩⟩
 intro aY N;refine zT<|yA<|jE (by kernel_rfl) (by kernel_rfl)<|fS 10 [0,0] [50,51,56] rfl<|bE N fun q1 aJ N=>zMk rfl aJ<|bE N fun x1 bf N=>dM rfl rfl h bf ?_;intro ad1 bx au ax;obtain rfl:=ax;refine eX 0 au [.int .u8 (x1.toNat:Int)] (.int .u8 (x1.toNat:Int)) rfl<|fS 27 [0,0] [61,65,68,73] rfl<|bE N fun q2 bw N=>zMk rfl bw<|bE N fun x2 bH N=>dM rfl rfl h bH ?_;intro ad2 bO br bq;obtain rfl:=bq;refine eX 0 br [.int .u8 (x2.toNat:Int)] (.int .u8 (x2.toNat:Int)) rfl<|fS 42 [0] [82,83,88] rfl<|bE N fun q3 hy6 N=>zN7 rfl hy6<|zHL [] [6] rfl<|vK [6] rfl<|yV<|yC 2 [] [96,97] rfl<|bE N fun q4 hy7 N=>zKf rfl hy7<|yI [] [4] rfl<|zI<|xB ?_;obtain rfl:=zC N;exact xA ⟨_,_,(.tmp rfl ResV.nil),(zX [0] rfl (by decide)),⟨_,_,rfl,rfl,rfl,(yO ⟨_,rfl,h⟩)⟩⟩
def zCd (b0:Nat) (r:Int×zK):KT:=fun kk I' ah v=>
  ∃ v0 k0,ah=[.blk b0 ⟨k0⟩]/\v=tupV [v0]/\v0=.int .i64 r.1/\Rp.rep I' k0 r.2
def yN (r0:zK) (list:(List Int)):Option (Int×zK):=do
 let (y1,y2)<-yX r0 (list.length:Int)
 let x<-idx list y1
 pure (x,y2)
theorem yT:∀ r0 list r,yN r0 list=some r->∀ {I:Imm}{ar:Nat}{p c p1 c1},(S4 I p r0.b c)->(S4 I p1 list c1)->RT 29 [vP ar 0,vS p1 list c1] I [hB ar (cRd r0 p c)] (zCd ar r):=by
 intro r0 list r N I ar p c p1 c1 h h1;unfold yN at N;refine yJ func29 fun B=>vR []<|yV<|yC 4 [] [5,6,8] rfl ?_;obtain ⟨⟨y1,y2⟩,hy,N⟩:=zB N;refine tM (xN r0 (list.length:Int) _ hy h) rfl ?_;rintro I0 aw v2 k2 le - ⟨v0,kk,rfl,rfl,rfl,h3⟩ -;have h1:=h1.mono le;obtain ⟨p2,c2,rfl,h4⟩:=zZ h3;obtain ⟨x,aA,N⟩:=zB N;refine xO rfl rfl h1 aA ?_;intro ad aK aq al;obtain rfl:=al;refine xJ 0 aq [vI x] (vI x) rfl<|yI [] [4] rfl<|zI<|xB ?_;obtain rfl:=zC N;exact xA ⟨_,_,(.tmp rfl ResV.nil),(zX [0] rfl (by decide)),⟨_,_,rfl,rfl,rfl,(yO ⟨_,rfl,h4⟩)⟩⟩
def zEo (r:(List zE)):KT:=fun kk I' ah v=>
  ∃ v0,ah=[]/\v=tupV [v0]/\SL I' v0 r
def sM (nest:(List zE)) (i:Int) (k0:Int) (Lo:List zA):Option (List zA):=do
 let x<-idx nest i
 if (decide (k0<(x.Lo.length:Int))) then
  let x1<-idx nest i
  let x2<-idx x1.Lo k0
  let l<-app 8 ([]:List Int) x2.Coefs
  let l1<-app 32 Lo ([(zA.mk l x2.Const)]:List zA)
  sM nest i (W (k0+1)) l1
 else
  pure (id Lo)
 partial_fixpoint
theorem zAZ (nest:(List zE)) (i:Int):∀ (k0:Int) (Lo:List zA) (o:List zA),sM nest i k0 Lo=some o->∀ {B}{I0 I:Imm}{Q}{τ:Type} [Rp τ] {out:List τ}{p c p1 c1 cs}{b1:Nat}{p3 c3 aQ},I0.le I->(S4 I p nest c)->(RL I cs out)->(RL I aQ Lo)->NG Q->NO Q->(∀ (I':Imm) (Lo1:List zA) (p4:Option Addr) (c4:Nat) (aR:List Value),o=Lo1->I0.le I'->(RL I' aR Lo1)->T 83 B Q (.exit 2) I' [hO zA (vS p4 Lo1 c4) aR,hB b1 [vS p4 Lo1 c4,z0],hO τ (vS p1 out c1) cs] [(0,vS p nest c),(3,vS p1 out c1),(4,vI i),(5,vP b1 0)])->J Tryz.prog 83 B (nav (bodyOf f150) [1,1,0,1,0,0,1,0,0,1,0,1,0]) Q I [hO zA (vS p3 Lo c3) aQ,hB b1 [vS p3 Lo c3,z0],hO τ (vS p1 out c1) cs] [(0,vS p nest c),(3,vS p1 out c1),(4,vI i),(5,vP b1 0),(6,vI k0)]:=by
 refine sM.partial_correctness nest i _ fun aH ih k0 Lo o N B I0 I Q τ _ out p c p1 c1 cs b1 p3 c3 aQ H h h2 h5 hg ho hx=>yR hg ho<|yB<|yE<|yC 3 [] [18,19,20] rfl<|bE N fun x hy N=>xO rfl rfl h hy ?_;intro ad aK aq al;obtain ⟨p5,c5,p6,c6,rfl,h7,h8⟩:=sA al;refine yC 5 [] [22] rfl<|xJ 0 aq [vS p5 x.Lo c5] (vS p5 x.Lo c5) rfl<|yI [] [25] rfl<|zI<|yF N ?_ ?_
 · intro aE N;refine zT<|yA<|yH<|yE<|yC 2 [] [28,29] rfl<|bE N fun x1 aA N=>xO rfl rfl h aA ?_;intro ad1 bx au ax;obtain ⟨p7,c7,p8,c8,rfl,h9,h10⟩:=sA ax;refine yC 4 [] [31] rfl<|xJ 0 au [vS p7 x1.Lo c7] (vS p7 x1.Lo c7) rfl<|yC 6 [] [33] rfl<|bE N fun x2 aJ N=>xO rfl rfl h9 aJ ?_;intro ad2 bO br bq;obtain ⟨p9,c9,rfl,h11⟩:=yM bq;refine xJ 0 br (cAff x2 p9 c9) (vA (cAff x2 p9 c9)) rfl<|wL [z0,vI 0] ?_;intro b2 hb2;refine xH 0 (cAff x2 p9 c9) rfl<|yD rfl<|zI ?_;obtain ⟨l,bf,N⟩:=zB N;obtain ⟨l1,bw,N⟩:=zB N;refine vC [.p (vP b1 0) [],.p (vS p3 Lo c3) [1],.x (fun I' v hx=>∃ b3,v=vS (some ⟨b3,0,none⟩) ([]:List Int) 0/\hx=[hO Int (vS (some ⟨b3,0,none⟩) ([]:List Int) 0) []]/\(RL I' [] ([]:List Int))),.p (vP b2 0) [],.p (vS p9 x2.Coefs c9) [0],.x (fun I' v hx=>∃ aV bc bz,v=vS aV l bc/\hx=[hO Int (vS aV l bc) bz]/\(RL I' bz l)),.p (vP b2 1) [],.p (vI x2.Const) [0],.x (fun I' v hx=>∃ p101 c101 cs41,v=vA [vS p101 l c101,vI x2.Const]/\hx=[hO Int (vS p101 l c101) cs41]/\(RL I' cs41 l)),.x (fun I' v hx=>∃ b4,v=vS (some ⟨b4,0,none⟩) ([(zA.mk l x2.Const)]:List zA) 1/\hx=[]/\(SL I' (vS (some ⟨b4,0,none⟩) ([(zA.mk l x2.Const)]:List zA) 1) ([(zA.mk l x2.Const)]:List zA))),.x (fun I' v hx=>∃ aN aZ bD,v=vS aN l1 aZ/\hx=[hO zA (vS aN l1 aZ) bD]/\(RL I' bD l1))] [[],[(0,false)],[],[],[(3,false)],[(2,true),(4,false)],[],[(6,false)],[(5,true),(7,false)],[(8,true)],[(1,false),(9,false),(13,true)]] [hB b2 (cAff x2 p9 c9),hB b1 [vS p3 Lo c3,z0],hO τ (vS p1 out c1) cs] [[hO zA (vS p3 Lo c3) aQ]] [(10,true)] (zY [0,2,3,1]) ?_ ?_
   · refine Op<|Op<|Ox ?_<|Op<|Op<|Ox ?_<|Op<|Op<|Ox ?_<|Ox ?_<|Ox ?_<|On
     · intro I1 hf af;refine dC []<|uD [] Int ?_;intro b3 hb3;have h12:RL I1 [] ([]:List Int):=rfl;exact yQ [hO Int (vS (some ⟨b3,0,none⟩) ([]:List Int) 0) []] iR ⟨_,rfl,rfl,h12⟩
     · rintro I1 hf af _ _ ⟨b3,rfl,rfl,h12⟩;refine yW [38,40] rfl ?_;have h11:=h11.mono af;obtain ⟨ccs3,k01,k02⟩:=h11;have h11:SL I1 (vS p9 x2.Coefs c9) x2.Coefs:=⟨_,k01,k02⟩;exact sC 3 1 0 rfl rfl rfl h12 (.inl k01) k02 bf fun aV bc bz h13=>wE (ah:=(hO Int (vS aV l bc) bz::hB b2 (cAff x2 p9 c9)::hB b1 [vS p3 Lo c3,z0]::hO τ (vS p1 out c1) cs::hf)) rfl<|yQ [hO Int (vS aV l bc) bz] iR ⟨_,_,_,rfl,rfl,h13⟩
     · rintro I1 hf af _ _ ⟨aV,bc,bz,rfl,rfl,h13⟩;exact yW [41,43] rfl<|oY 9 [(44,vA [vS aV l bc,vI x2.Const])]<|yQ [hO Int (vS aV l bc) bz] iR ⟨_,_,_,rfl,rfl,h13⟩
     · rintro I1 hf af _ _ ⟨p101,c101,cs41,rfl,rfl,h131⟩;refine yW [44] rfl ?_;have H:=iS I1;refine xF 0 rfl ?_;intro I0 le hl0;have h14:=SL.of_frozen hl0 le h131;have H:=H.trans le;refine nC (rc (zA.mk l x2.Const) (yK ⟨_,rfl,h14⟩) rN) ?_;intro b4 aT af h16;have H:=H.trans af;exact yQ [] H ⟨_,rfl,rfl,h16⟩
     rintro I1 hf af _ _ ⟨rfl,rfl⟩ _ _ ⟨b4,rfl,rfl,h16⟩ _ _ rfl;refine yW [37,45] rfl ?_;have h5:=iM af h5;obtain ⟨ccs4,k03,k04⟩:=h16;have h16:SL I1 (vS (some ⟨b4,0,none⟩) ([(zA.mk l x2.Const)]:List zA) 1) ([(zA.mk l x2.Const)]:List zA):=⟨_,k03,k04⟩;exact sC 95 2 0 rfl rfl rfl h5 (.inl k03) k04 bw fun aN aZ bD h17=>wE (ah:=(hO zA (vS aN l1 aZ) bD::hB b2 (cAff x2 p9 c9)::hB b1 [vS p3 Lo c3,z0]::hO τ (vS p1 out c1) cs::hf)) rfl<|yQ [hO zA (vS aN l1 aZ) bD] iR ⟨_,_,_,rfl,rfl,h17⟩
   rintro aU aC _ _ ⟨aN,aZ,bD,rfl,rfl,h17⟩;refine yW [0,3,4,5,6,46] rfl ?_;have ⟨h,h2,H⟩:=m3 aC h h2 H;exact yC 12 [] [47] rfl<|xH 2 [vS aN l1 aZ,z0] rfl<|yD rfl<|zP<|zI<|zM<|yI [] [6] rfl<|yP<|nX (zX [0,2,3] rfl (by decide))<|nN<|ih (W (k0+1)) l1 _ N H h h2 h17 hg ho hx
 intro aE N;exact wR<|yL<|hx _ _ _ _ _ (zC N).symm H h5
def sN (nest:(List zE)) (i:Int) (k05:Int) (Hi:List zA):Option (List zA):=do
 let x3<-idx nest i
 if (decide (k05<(x3.Hi.length:Int))) then
  let x4<-idx nest i
  let x5<-idx x4.Hi k05
  let l2<-app 8 ([]:List Int) x5.Coefs
  let l3<-app 32 Hi ([(zA.mk l2 x5.Const)]:List zA)
  sN nest i (W (k05+1)) l3
 else
  pure (id Hi)
 partial_fixpoint
theorem zA0 (nest:(List zE)) (i:Int):∀ (k05:Int) (Hi:List zA) (o:List zA),sN nest i k05 Hi=some o->∀ {B}{I0 I:Imm}{Q}{τ:Type} [Rp τ] {out:List τ}{Lo1:List zA}{p c p1 c1 cs}{b1:Nat}{p4 c4 aR bB bk cs6},I0.le I->(S4 I p nest c)->(RL I cs out)->(RL I aR Lo1)->(RL I cs6 Hi)->NG Q->NO Q->(∀ (I':Imm) (Hi1:List zA) (bj:Option Addr) (bo:Nat) (cs7:List Value),o=Hi1->I0.le I'->(RL I' cs7 Hi1)->T 83 B Q (.exit 4) I' [hO zA (vS bj Hi1 bo) cs7,hO zA (vS p4 Lo1 c4) aR,hB b1 [vS p4 Lo1 c4,vS bj Hi1 bo],hO τ (vS p1 out c1) cs] [(0,vS p nest c),(3,vS p1 out c1),(4,vI i),(5,vP b1 0)])->J Tryz.prog 83 B (nav (bodyOf f150) [1,1,0,1,0,0,1,0,0,1,1,0,1,0]) Q I [hO zA (vS bB Hi bk) cs6,hO zA (vS p4 Lo1 c4) aR,hB b1 [vS p4 Lo1 c4,vS bB Hi bk],hO τ (vS p1 out c1) cs] [(0,vS p nest c),(3,vS p1 out c1),(4,vI i),(5,vP b1 0),(8,vI k05)]:=by
 refine sN.partial_correctness nest i _ fun aH ih k05 Hi o N B I0 I Q τ _ out Lo1 p c p1 c1 cs b1 p4 c4 aR bB bk cs6 H h h2 h6 h19 hg ho hx=>yR hg ho<|yB<|yE<|yC 3 [] [48,49,50] rfl<|bE N fun x3 bH N=>xO rfl rfl h bH ?_;intro ad3 ccs5 hat3 bI;obtain ⟨p14,c14,p15,c15,rfl,h21,h22⟩:=sA bI;refine yC 5 [] [52] rfl<|xJ 1 hat3 [vS p15 x3.Hi c15] (vS p15 x3.Hi c15) rfl<|yI [] [55] rfl<|zI<|yF N ?_ ?_
 · intro aY N;refine zT<|yA<|yH<|yE<|yC 2 [] [58,59] rfl<|bE N fun x4 hy6 N=>xO rfl rfl h hy6 ?_;intro ad4 ccs6 hat4 hrep4;obtain ⟨p16,c16,p17,c17,rfl,h23,h24⟩:=sA hrep4;refine yC 4 [] [61] rfl<|xJ 1 hat4 [vS p17 x4.Hi c17] (vS p17 x4.Hi c17) rfl<|yC 6 [] [63] rfl<|bE N fun x5 hy7 N=>xO rfl rfl h24 hy7 ?_;intro ad5 ccs7 hat5 hrep5;obtain ⟨p18,c18,rfl,h25⟩:=yM hrep5;refine xJ 0 hat5 (cAff x5 p18 c18) (vA (cAff x5 p18 c18)) rfl<|wL [z0,vI 0] ?_;intro b5 hb5;refine xH 0 (cAff x5 p18 c18) rfl<|yD rfl<|zI ?_;obtain ⟨l2,hy8,N⟩:=zB N;obtain ⟨l3,hy9,N⟩:=zB N;refine vC [.p (vP b1 1) [],.p (vS bB Hi bk) [2],.x (fun I' v hx=>∃ b6,v=vS (some ⟨b6,0,none⟩) ([]:List Int) 0/\hx=[hO Int (vS (some ⟨b6,0,none⟩) ([]:List Int) 0) []]/\(RL I' [] ([]:List Int))),.p (vP b5 0) [],.p (vS p18 x5.Coefs c18) [0],.x (fun I' v hx=>∃ p19 c19 cs8,v=vS p19 l2 c19/\hx=[hO Int (vS p19 l2 c19) cs8]/\(RL I' cs8 l2)),.p (vP b5 1) [],.p (vI x5.Const) [0],.x (fun I' v hx=>∃ p191 c191 cs81,v=vA [vS p191 l2 c191,vI x5.Const]/\hx=[hO Int (vS p191 l2 c191) cs81]/\(RL I' cs81 l2)),.x (fun I' v hx=>∃ b7,v=vS (some ⟨b7,0,none⟩) ([(zA.mk l2 x5.Const)]:List zA) 1/\hx=[]/\(SL I' (vS (some ⟨b7,0,none⟩) ([(zA.mk l2 x5.Const)]:List zA) 1) ([(zA.mk l2 x5.Const)]:List zA))),.x (fun I' v hx=>∃ p20 c20 cs9,v=vS p20 l3 c20/\hx=[hO zA (vS p20 l3 c20) cs9]/\(RL I' cs9 l3))] [[],[(0,false)],[],[],[(3,false)],[(2,true),(4,false)],[],[(6,false)],[(5,true),(7,false)],[(8,true)],[(1,false),(9,false),(13,true)]] [hB b5 (cAff x5 p18 c18),hO zA (vS p4 Lo1 c4) aR,hB b1 [vS p4 Lo1 c4,vS bB Hi bk],hO τ (vS p1 out c1) cs] [[hO zA (vS bB Hi bk) cs6]] [(10,true)] (zY [0,2,3,4,1]) ?_ ?_
   · refine Op<|Op<|Ox ?_<|Op<|Op<|Ox ?_<|Op<|Op<|Ox ?_<|Ox ?_<|Ox ?_<|On
     · intro I1 hf af;refine dC []<|uD [] Int ?_;intro b6 hb6;have h26:RL I1 [] ([]:List Int):=rfl;exact yQ [hO Int (vS (some ⟨b6,0,none⟩) ([]:List Int) 0) []] iR ⟨_,rfl,rfl,h26⟩
     · rintro I1 hf af _ _ ⟨b6,rfl,rfl,h26⟩;refine yW [68,70] rfl ?_;have h25:=h25.mono af;obtain ⟨ccs8,k06,k07⟩:=h25;have h25:SL I1 (vS p18 x5.Coefs c18) x5.Coefs:=⟨_,k06,k07⟩;exact sC 3 1 0 rfl rfl rfl h26 (.inl k06) k07 hy8 fun p19 c19 cs8 h27=>wE (ah:=(hO Int (vS p19 l2 c19) cs8::hB b5 (cAff x5 p18 c18)::hO zA (vS p4 Lo1 c4) aR::hB b1 [vS p4 Lo1 c4,vS bB Hi bk]::hO τ (vS p1 out c1) cs::hf)) rfl<|yQ [hO Int (vS p19 l2 c19) cs8] iR ⟨_,_,_,rfl,rfl,h27⟩
     · rintro I1 hf af _ _ ⟨p19,c19,cs8,rfl,rfl,h27⟩;exact yW [71,73] rfl<|oY 9 [(74,vA [vS p19 l2 c19,vI x5.Const])]<|yQ [hO Int (vS p19 l2 c19) cs8] iR ⟨_,_,_,rfl,rfl,h27⟩
     · rintro I1 hf af _ _ ⟨p191,c191,cs81,rfl,rfl,h271⟩;refine yW [74] rfl ?_;have H:=iS I1;refine xF 0 rfl ?_;intro bJ aW hl02;have h28:=SL.of_frozen hl02 aW h271;have H:=H.trans aW;refine nC (rc (zA.mk l2 x5.Const) (yK ⟨_,rfl,h28⟩) rN) ?_;intro b7 bN bt h30;have H:=H.trans bt;exact yQ [] H ⟨_,rfl,rfl,h30⟩
     rintro I1 hf af _ _ ⟨rfl,rfl⟩ _ _ ⟨b7,rfl,rfl,h30⟩ _ _ rfl;refine yW [67,75] rfl ?_;have h19:=iM af h19;obtain ⟨ccs9,k08,k09⟩:=h30;have h30:SL I1 (vS (some ⟨b7,0,none⟩) ([(zA.mk l2 x5.Const)]:List zA) 1) ([(zA.mk l2 x5.Const)]:List zA):=⟨_,k08,k09⟩;exact sC 95 2 0 rfl rfl rfl h19 (.inl k08) k09 hy9 fun p20 c20 cs9 h31=>wE (ah:=(hO zA (vS p20 l3 c20) cs9::hB b5 (cAff x5 p18 c18)::hO zA (vS p4 Lo1 c4) aR::hB b1 [vS p4 Lo1 c4,vS bB Hi bk]::hO τ (vS p1 out c1) cs::hf)) rfl<|yQ [hO zA (vS p20 l3 c20) cs9] iR ⟨_,_,_,rfl,rfl,h31⟩
   rintro I06 bv _ _ ⟨p20,c20,cs9,rfl,rfl,h31⟩;refine yW [0,3,4,5,8,76] rfl ?_;have ⟨h,h2,h6,H⟩:=m4 bv h h2 h6 H;exact yC 12 [] [77] rfl<|xH 3 [vS p4 Lo1 c4,vS p20 l3 c20] rfl<|yD rfl<|zP<|zI<|zM<|yI [] [8] rfl<|yP<|nX (zX [0,2,3,4] rfl (by decide))<|nN<|ih (W (k05+1)) l3 _ N H h h2 h6 h31 hg ho hx
 intro aY N;exact wR<|yL<|hx _ _ _ _ _ (zC N).symm H h19
def uN (nest:(List zE)) (out:List zE) (i:Int):Option (List zE):=do
 if (decide (i<(nest.length:Int))) then
  let Lo1<-sM nest i 0 ([]:List zA)
  let Hi1<-sN nest i 0 ([]:List zA)
  let ap<-app 48 out ([(zE.mk Lo1 Hi1)]:List zE)
  uN nest ap (W (i+1))
 else
  pure (id out)
 partial_fixpoint
theorem zDk (nest:(List zE)):∀ (out:List zE) (i:Int) (o:List zE),uN nest out i=some o->∀ {B}{I0 I:Imm}{Q p c p1 c1 cs},I0.le I->(S4 I p nest c)->(RL I cs out)->NG Q->NO Q->(∀ (I':Imm) (aj:List zE) (p2:Option Addr) (c2:Nat) (ay:List Value),o=aj->I0.le I'->(RL I' ay aj)->T 83 B Q (.exit 0) I' [hO zE (vS p2 aj c2) ay] [(3,vS p2 aj c2)])->J Tryz.prog 83 B (nav (bodyOf f150) [1,1,0,1,0]) Q I [hO zE (vS p1 out c1) cs] [(0,vS p nest c),(3,vS p1 out c1),(4,vI i)]:=by
 refine uN.partial_correctness nest _ fun aH ih out i o N B I0 I Q p c p1 c1 cs H h h2 hg ho hx=>yR hg ho<|yB<|yG [14] rfl<|zI<|yF N ?_ ?_
 · intro hc N;refine zT<|yA<|yH<|yE<|yC 1 [] [17] rfl<|wL zTwo ?_;intro b1 hb1;refine zAo 0 zTwo [hB b1 zTwo,hO zE (vS p1 out c1) cs] rfl rfl rfl rfl<|yD rfl<|yA<|yG [6] rfl<|xX<|qP [(0,vS p nest c),(3,vS p1 out c1),(4,vI i),(5,vP b1 0),(6,vI 0)]<|dR zA fun h4=>?_;obtain ⟨o0,aB,aI⟩:=zB N;refine zAZ nest i 0 ([]:List zA) o0 aB iR h h2 h4 (fun _ _ _ h=>hg _ _ _ h) (fun _ _ h=>ho _ _ h) ?_;intro bC Lo1 p4 c4 aR heq aD h6;subst o0;have ⟨h,h2,H⟩:=m3 aD h h2 H;refine zS<|yA<|yG [8] rfl<|xX<|qP [(0,vS p nest c),(3,vS p1 out c1),(4,vI i),(5,vP b1 0),(8,vI 0)]<|dR zA fun h18=>?_;obtain ⟨aM,az,hMl1⟩:=zB aI;refine zA0 nest i 0 ([]:List zA) aM az iR h h2 h6 h18 (fun _ _ _ h=>hg _ _ _ h) (fun _ _ h=>ho _ _ h) ?_;intro I07 Hi1 bj bo cs7 heq1 le7 h20;subst aM;have ⟨h,h2,h6,H⟩:=m4 le7 h h2 h6 H;refine zS<|zI<|zM<|rY 2 [2] [(78,vS p1 out c1),(79,vA [vS p4 Lo1 c4,vS bj Hi1 bo])]<|xF 1 rfl ?_;intro I08 le8 hl04;have h32:=SL.of_frozen hl04 le8 h6;have ⟨h,h2,h20,H⟩:=m4 le8 h h2 h20 H;refine xF 0 rfl ?_;intro I09 le9 hl05;have h33:=SL.of_frozen hl05 le9 h20;have ⟨h,h2,h32,H⟩:=m4 le9 h h2 h32 H;refine uD [vS p4 Lo1 c4,vS bj Hi1 bo] zE ?_;intro b8 hb8;have h34:RL I09 [vS p4 Lo1 c4,vS bj Hi1 bo] ([(zE.mk Lo1 Hi1)]:List zE):=⟨[vS p4 Lo1 c4,vS bj Hi1 bo],_,rfl,rfl,(rM ⟨_,_,rfl,h32,h33⟩),rfl⟩;obtain ⟨ap,hy10,N⟩:=zB hMl1;exact sC 141 2 2 rfl rfl rfl h2 (.inr ⟨0,rfl⟩) h34 hy10 fun p21 c21 cs10 h35=>tO (zY [1,2] (ah:=[hB b1 [vS p4 Lo1 c4,vS bj Hi1 bo],hO zE (vS p21 ap c21) cs10]))<|yI [] [3] rfl<|zP<|zI<|zM<|yI [] [4] rfl<|yP<|nX (zX [1] rfl (by decide))<|nN<|ih ap (W (i+1)) _ N H h h35 hg ho hx
 intro hc N;exact wR<|yL<|hx _ _ _ _ _ (zC N).symm H h2
def nQ (nest:(List zE)):Option ((List zE)):=do
 let aj<-uN nest ([]:List zE) 0
 pure (id aj)
theorem zBw:∀ nest r,nQ nest=some r->∀ {I:Imm}{p c},(S4 I p nest c)->RT 150 [vS p nest c] I [] (zEo  r):=by
 intro nest r N I p c h;unfold nQ at N;refine yJ func150 fun B=>vR []<|yV<|uD [] zE ?_;intro b hb;have h1:RL I [] ([]:List zE):=rfl;refine yI [] [3] rfl<|yA<|yG [4] rfl<|xX<|qP [(0,vS p nest c),(3,vS (some ⟨b,0,none⟩) ([]:List zE) 0),(4,vI 0)] ?_;obtain ⟨o02,ho02,hMl2⟩:=zB N;refine zDk nest ([]:List zE) 0 o02 ho02 iR h h1 (fun _ _ _ h=>h) (fun _ _ h=>h) ?_;intro bP aj p2 c2 ay heq2 le10 h3;subst o02;refine zS<|vK [2] rfl<|xC<|yU 0 rfl ?_;intro bV le11 hl06;have h36:=SL.of_frozen hl06 le11 h3;obtain rfl:=zC hMl2;exact xA ⟨_,_,(.tmp rfl ResV.nil),zQ,⟨_,rfl,rfl,h36⟩⟩
def jG (r:zA):KT:=fun kk I' ah v=>
  ∃ v0,ah=[]/\v=tupV [v0]/\(∃ cs,v0=.agg ⟨cs⟩/\Rp.rep I' cs r)
def tT (a0:zA):Option (zA):=do
 if ((a0.Coefs.length:Int)==0) then
  pure (zA.mk ([]:List Int) a0.Const)
 else
  let l<-app 8 ([]:List Int) a0.Coefs
  pure (zA.mk l a0.Const)
theorem eY:∀ a0 r,tT a0=some r->∀ {I:Imm}{p c},(S4 I p a0.Coefs c)->RT 230 [vA (cAff a0 p c)] I [] (jG  r):=by
 intro a0 r N I p c h;unfold tT at N;refine yJ func230 fun B=>yE<|tW (cAff a0 p c) ?_;intro b hb;refine wL [z0,vI 0] ?_;intro b1 hb1;refine yD rfl<|yA<|yE<|yI [1] [6] rfl<|zI<|yF N ?_ ?_
 · intro hc N;refine yE<|rY 3 [1] [(9,vA [z0,vI a0.Const])]<|xH 0 [z0,vI a0.Const] rfl<|yD rfl<|xC<|zH ?_;obtain rfl:=zC N;exact xA ⟨_,_,(.cell 0 rfl rfl (by kernel_rfl) ResV.nil),zQ,⟨_,rfl,rfl,⟨_,rfl,(yK ⟨_,rfl,(SL.nil _)⟩)⟩⟩⟩
 intro hc N;refine zT<|yA<|bE N fun l hy N=>vC [.x (fun I' v hx=>∃ b2,v=vS (some ⟨b2,0,none⟩) ([]:List Int) 0/\hx=[hO Int (vS (some ⟨b2,0,none⟩) ([]:List Int) 0) []]/\(RL I' [] ([]:List Int))),.p (vP b 0) [],.p (vS p a0.Coefs c) [1],.x (fun I' v hx=>∃ p1 c1 cs,v=vS p1 l c1/\hx=[hO Int (vS p1 l c1) cs]/\(RL I' cs l)),.p (vP b 1) [],.p (vI a0.Const) [1],.x (fun I' v hx=>∃ aN aZ ay,v=vA [vS aN l aZ,vI a0.Const]/\hx=[hO Int (vS aN l aZ) ay]/\(RL I' ay l))] [[],[],[(1,false)],[(0,true),(2,false)],[],[(4,false)],[(3,true),(5,false)]] [hB b1 [z0,vI 0],hB b (cAff a0 p c)] [] [(6,true)] (zY [0,1]) ?_ ?_
 · refine Ox ?_<|Op<|Op<|Ox ?_<|Op<|Op<|Ox ?_<|On
   · intro I1 hf af;refine dC []<|uD [] Int ?_;intro b2 hb2;have h1:RL I1 [] ([]:List Int):=rfl;exact yQ [hO Int (vS (some ⟨b2,0,none⟩) ([]:List Int) 0) []] iR ⟨_,rfl,rfl,h1⟩
   · rintro I1 hf af _ _ ⟨b2,rfl,rfl,h1⟩;refine yW [10,12] rfl ?_;have h:=h.mono af;obtain ⟨aK,k0,k01⟩:=h;have h:SL I1 (vS p a0.Coefs c) a0.Coefs:=⟨_,k0,k01⟩;exact sC 3 1 0 rfl rfl rfl h1 (.inl k0) k01 hy fun p1 c1 cs h2=>wE (ah:=(hO Int (vS p1 l c1) cs::hB b1 [z0,vI 0]::hB b (cAff a0 p c)::hf)) rfl<|yQ [hO Int (vS p1 l c1) cs] iR ⟨_,_,_,rfl,rfl,h2⟩
   rintro I1 hf af _ _ ⟨p1,c1,cs,rfl,rfl,h2⟩;exact yW [13,15] rfl<|oY 7 [(16,vA [vS p1 l c1,vI a0.Const])]<|yQ [hO Int (vS p1 l c1) cs] iR ⟨_,_,_,rfl,rfl,h2⟩
 rintro I0 le _ _ ⟨aN,aZ,ay,rfl,rfl,h21⟩;refine yW [2,16] rfl ?_;refine xH 1 [vS aN l aZ,vI a0.Const] rfl<|yD rfl<|xC<|yU 0 rfl ?_;intro aT af hl0;have h3:=SL.of_frozen hl0 af h21;obtain rfl:=zC N;exact xA ⟨_,_,(.cell 0 rfl rfl (by kernel_rfl) ResV.nil),zQ,⟨_,rfl,rfl,⟨_,rfl,(yK ⟨_,rfl,h3⟩)⟩⟩⟩
def zBS (r:zJ):KT:=fun kk I' ah v=>
  ∃ a0_1 c0_1 s0_1,ah=[.osl (.slice a0_1 r.Subs.length c0_1) (Rp.sz zA) s0_1]/\v=tupV [(.agg ⟨[.string ⟨⟨r.Array.l⟩⟩,.slice a0_1 r.Subs.length c0_1]⟩)]/\RepL (Rp.rep I') (Rp.sz zA) s0_1 r.Subs
def xY (a0:zJ) (i:Int) (Subs:List zA):Option (List zA):=do
 if (decide (i<(a0.Subs.length:Int))) then
  let x<-idx a0.Subs i
  let y<-tT x
  let l<-app 32 Subs ([y]:List zA)
  xY a0 (W (i+1)) l
 else
  pure (id Subs)
 partial_fixpoint
theorem zAq (a0:zJ):∀ (i:Int) (Subs:List zA) (o:List zA),xY a0 i Subs=some o->∀ {B}{I0 I:Imm}{Q p c}{b:Nat}{b1:Nat}{b2:Nat}{p1 c1 cs},I0.le I->(S4 I p a0.Subs c)->(RL I cs Subs)->NG Q->NO Q->(∀ (I':Imm) (Subs1:List zA) (p2:Option Addr) (c2:Nat) (ay:List Value),o=Subs1->I0.le I'->(RL I' ay Subs1)->T 27 B Q (.exit 0) I' [hO zA (vS p2 Subs1 c2) ay,hB b2 [vT a0.Array.l,vS p2 Subs1 c2],hB b1 [vT ([]),z0]] [(2,vP b1 0),(3,vP b2 0)])->J Tryz.prog 27 B (nav (bodyOf f192) [1,1,0,1,0]) Q I [hO zA (vS p1 Subs c1) cs,hB b2 [vT a0.Array.l,vS p1 Subs c1],hB b1 [vT ([]),z0],hB b (cAccess a0 p c)] [(1,vP b 0),(2,vP b1 0),(3,vP b2 0),(4,vI i)]:=by
 refine xY.partial_correctness a0 _ fun aH ih i Subs o N B I0 I Q p c b b1 b2 p1 c1 cs H h h2 hg ho hx=>yR hg ho<|yB<|yE<|yI [3] [12] rfl<|zI<|yF N ?_ ?_
 · intro hc N;refine zT<|yA<|yH ?_;obtain ⟨x,hy,N⟩:=zB N;obtain ⟨y,aA,N⟩:=zB N;obtain ⟨l,aJ,N⟩:=zB N;refine vC [.p (vP b2 1) [],.p (vS p1 Subs c1) [0],.p (vP b 1) [],.p (vS p a0.Subs c) [2],.p (vI i) [],.x (ePAff x),.x (eVAff x),.x (eVAff y),.x (fun I' v hx=>∃ b3,v=vS (some ⟨b3,0,none⟩) ([y]:List zA) 1/\hx=[]/\(SL I' (vS (some ⟨b3,0,none⟩) ([y]:List zA) 1) ([y]:List zA))),.x (fun I' v hx=>∃ p5 c5 aR,v=vS p5 l c5/\hx=[hO zA (vS p5 l c5) aR]/\(RL I' aR l))] [[],[(0,false)],[],[(2,false)],[],[(3,false),(4,false)],[(5,false)],[(6,false)],[(7,false)],[(1,false),(8,false),(12,true)]] [hB b2 [vT a0.Array.l,vS p1 Subs c1],hB b1 [vT ([]),z0],hB b (cAccess a0 p c)] [[hO zA (vS p1 Subs c1) cs]] [(9,true)] (zY [1,2,3,0]) ?_ ?_
   · refine Op<|Op<|Op<|Op<|Op<|Ox ?_<|Ox ?_<|Ox ?_<|Ox ?_<|Ox ?_<|On
     · intro I1 hf af;refine yW [18,19] rfl ?_;have h:=h.mono af;refine xO rfl rfl h hy ?_;intro ad aK aq al;obtain ⟨p3,c3,rfl,h4⟩:=yM al;exact yQ [] iR ⟨_,_,_,rfl,rfl,aq,h4⟩
     · rintro I1 hf af _ _ ⟨ad,p3,c3,rfl,rfl,aq,h4⟩;exact yW [20] rfl<|xJ 0 aq (cAff x p3 c3) (vA (cAff x p3 c3)) rfl<|yQ [] iR ⟨_,_,rfl,rfl,h4⟩
     · rintro I1 hf af _ _ ⟨p31,c31,rfl,rfl,h41⟩;refine yW [21] rfl ?_;have H:=iS I1;refine xM (eY x _ aA h41) ?_;rintro I0 aw v2 k2 le - ⟨v01,rfl,rfl,⟨aQ,rfl,h5⟩⟩ -;have H:=H.trans le;obtain ⟨p4,c4,rfl,h6⟩:=yM h5;exact yQ [] H ⟨_,_,rfl,rfl,h6⟩
     · rintro I1 hf af _ _ ⟨p4,c4,rfl,rfl,h6⟩;refine yW [22] rfl ?_;have H:=iS I1;refine nC (rc y (yK ⟨_,rfl,h6⟩) rN) ?_;intro b3 aT af h8;have H:=H.trans af;exact yQ [] H ⟨_,rfl,rfl,h8⟩
     rintro I1 hf af _ _ ⟨rfl,rfl⟩ _ _ ⟨b3,rfl,rfl,h8⟩ _ _ rfl;refine yW [16,23] rfl ?_;have h2:=iM af h2;obtain ⟨bx,k0,k01⟩:=h8;have h8:SL I1 (vS (some ⟨b3,0,none⟩) ([y]:List zA) 1) ([y]:List zA):=⟨_,k0,k01⟩;exact sC 95 2 0 rfl rfl rfl h2 (.inl k0) k01 aJ fun p5 c5 aR h9=>wE (ah:=(hO zA (vS p5 l c5) aR::hB b2 [vT a0.Array.l,vS p1 Subs c1]::hB b1 [vT ([]),z0]::hB b (cAccess a0 p c)::hf)) rfl<|yQ [hO zA (vS p5 l c5) aR] iR ⟨_,_,_,rfl,rfl,h9⟩
   rintro aU aC _ _ ⟨p5,c5,aR,rfl,rfl,h9⟩;refine yW [1,2,3,4,24] rfl ?_;have ⟨h,H⟩:=m2 aC h H;exact yC 11 [] [25] rfl<|xH 1 [vT a0.Array.l,vS p5 l c5] rfl<|yD rfl<|zP<|zI<|zM<|yI [] [4] rfl<|yP<|nN<|ih (W (i+1)) l _ N H h h9 hg ho hx
 intro hc N;exact wR<|xQ (zX [0,1,2] rfl (by decide))<|yL<|hx _ _ _ _ _ (zC N).symm H h2
def uH (a0:zJ):Option (zJ):=do
 let Subs1<-xY a0 0 ([]:List zA)
 pure (zJ.mk a0.Array Subs1)
theorem gB:∀ a0 r,uH a0=some r->∀ {I:Imm}{p c},(S4 I p a0.Subs c)->RT 192 [vA (cAccess a0 p c)] I [] (zBS  r):=by
 intro a0 r N I p c h;unfold uH at N;refine yJ func192 fun B=>yE<|tW (cAccess a0 p c) ?_;intro b hb;refine wL [vT ([]),z0] ?_;intro b1 hb1;refine yD rfl<|yV<|rY 3 [1] [(7,vA [vT a0.Array.l,z0])]<|wL [vT ([]),z0] ?_;intro b2 hb2;refine xH 0 [vT a0.Array.l,z0] rfl<|yD rfl<|yA<|yG [4] rfl<|xX<|qP [(1,vP b 0),(2,vP b1 0),(3,vP b2 0),(4,vI 0)]<|dR zA fun h1=>?_;obtain ⟨o0,aB,aI⟩:=zB N;refine zAq a0 0 ([]:List zA) o0 aB iR h h1 (fun _ _ _ h=>h) (fun _ _ h=>h) ?_;intro bC Subs1 p2 c2 ay heq aD h3;subst o0;refine zS<|yV<|rY 1 [1] [(26,vA [vT a0.Array.l,vS p2 Subs1 c2])]<|xH 2 [vT a0.Array.l,vS p2 Subs1 c2] rfl<|yD rfl<|zI<|xB ?_;obtain rfl:=zC aI;exact xA ⟨_,_,(.cell 2 rfl rfl (by kernel_rfl) ResV.nil),(zX [0] rfl (by decide)),⟨_,_,_,rfl,rfl,h3⟩⟩
def eZ (r:zG):KT:=fun kk I' ah v=>
  ∃ a0_2 c0_2 a0_5 c0_5 a0_6 c0_6 s0_6,ah=[.osl (.slice a0_6 r.Kids.length c0_6) (Rp.sz zG) s0_6]/\v=tupV [(.agg ⟨[.int .i64 r.Kind,.int .i64 r.Num,.slice a0_2 r.Index.Coefs.length c0_2,.int .i64 r.Index.Const,.string ⟨⟨r.Read.Array.l⟩⟩,.slice a0_5 r.Read.Subs.length c0_5,.slice a0_6 r.Kids.length c0_6]⟩)]/\SL I' (.slice a0_2 r.Index.Coefs.length c0_2) r.Index.Coefs/\SL I' (.slice a0_5 r.Read.Subs.length c0_5) r.Read.Subs/\RepL (Rp.rep I') (Rp.sz zG) s0_6 r.Kids
mutual
def qT (e0:zG):Option (zG):=do
 let y<-tT e0.Index
 let y1<-uH e0.Read
 let Kids1<-vX (same e0) (same 0) ([]:List zG)
 pure (zG.mk e0.Kind e0.Num y (zJ.mk y1.Array y1.Subs) Kids1)
 partial_fixpoint
def vX (e0:zG) (i:Int) (Kids:List zG):Option (List zG):=do
 if (decide (i<(e0.Kids.length:Int))) then
  let x<-idx e0.Kids i
  let y2<-qT (same x)
  let l<-app 112 Kids ([y2]:List zG)
  vX (same e0) (W (i+1)) (same l)
 else
  pure (id Kids)
 partial_fixpoint
end
theorem zCe:(∀ (e0:zG) r,qT e0=some r->∀ {I:Imm}{p c p1 c1 p2 c2},(S4 I p e0.Index.Coefs c)->(S4 I p1 e0.Read.Subs c1)->(S4 I p2 e0.Kids c2)->RT 193 [vA (cExpr e0 p c p1 c1 p2 c2)] I [] (eZ  r))/\(∀ (e0:zG) (i:Int) (Kids:List zG) o,vX e0 i Kids=some o->∀ {B}{I0 I:Imm}{Q}{y:zA}{y1:zJ}{p c p1 c1 p2 c2}{b:Nat}{b1:Nat}{p31 c31 p41 c41 cs11}{b2:Nat}{p5 c5 aQ},I0.le I->(S4 I p31 y.Coefs c31)->(RL I cs11 y1.Subs)->(S4 I p e0.Index.Coefs c)->(S4 I p1 e0.Read.Subs c1)->(S4 I p2 e0.Kids c2)->(RL I aQ Kids)->NG Q->NO Q->(∀ (I':Imm) (Kids1:List zG) (p6:Option Addr) (c6:Nat) (aR:List Value),o=Kids1->I0.le I'->(RL I' aR Kids1)->T 35 B Q (.exit 0) I' [hO zG (vS p6 Kids1 c6) aR,hB b2 [vI e0.Kind,vI e0.Num,vS p31 y.Coefs c31,vI y.Const,vT y1.Array.l,vS p41 y1.Subs c41,vS p6 Kids1 c6],hO zA (vS p41 y1.Subs c41) cs11,hB b1 zExpr] [(2,vP b1 0),(3,vP b2 0)])->J Tryz.prog 35 B (nav (bodyOf f193) [1,1,0,1,0]) Q I [hO zG (vS p5 Kids c5) aQ,hB b2 [vI e0.Kind,vI e0.Num,vS p31 y.Coefs c31,vI y.Const,vT y1.Array.l,vS p41 y1.Subs c41,vS p5 Kids c5],hO zA (vS p41 y1.Subs c41) cs11,hB b1 zExpr,hB b (cExpr e0 p c p1 c1 p2 c2)] [(1,vP b 0),(2,vP b1 0),(3,vP b2 0),(4,vI i)]):=by
  refine qT.mutual_partial_correctness _ _ ?_ ?_
  · intro F_spec_l3CopyExpr_l1 ih_spec_l3CopyExpr_l1 e0 r N I p c p1 c1 p2 c2 h h1 h2;refine yJ func193 fun B=>?_;have H:=iS I;refine yE<|tW (cExpr e0 p c p1 c1 p2 c2) ?_;intro b hb;refine wL zExpr ?_;intro b1 hb1;refine yD rfl<|zI<|yB ?_;obtain ⟨y,hy,N⟩:=zB N;obtain ⟨y1,aA,N⟩:=zB N;refine vC [.p (vP b 0) [],.p (vI e0.Kind) [1],.p (vP b 1) [],.p (vI e0.Num) [1],.p (vP b 2) [],.p (vA (cAff e0.Index p c)) [1],.x (eVAff y),.p (vP b 4) [],.p (vA (cAccess e0.Read p1 c1)) [1],.x (fun I' v hx=>∃ p4 c4 ay,v=vA (cAccess y1 p4 c4)/\hx=[hO zA (vS p4 y1.Subs c4) ay]/\(RL I' ay y1.Subs)),.x (fun I' v hx=>∃ p31 c31 p41 c41 cs11,v=vA [vI e0.Kind,vI e0.Num,vS p31 y.Coefs c31,vI y.Const,vT y1.Array.l,vS p41 y1.Subs c41,z0]/\hx=[hO zA (vS p41 y1.Subs c41) cs11]/\(S4 I' p31 y.Coefs c31)/\(RL I' cs11 y1.Subs)),.x (fun I' v hx=>∃ b2,v=vP b2 0/\hx=[hB b2 zExpr])] [[],[(0,false)],[],[(2,false)],[],[(4,false)],[(5,false)],[],[(7,false)],[(8,false)],[(1,false),(3,false),(6,false),(9,true)],[]] [hB b1 zExpr,hB b (cExpr e0 p c p1 c1 p2 c2)] [] [(10,true),(11,true)] (zY [0,1]) ?_ ?_
    · refine Op<|Op<|Op<|Op<|Op<|Op<|Ox ?_<|Op<|Op<|Ox ?_<|Ox ?_<|Ox ?_<|On
      · intro I1 hf af;refine yW [10] rfl ?_;have H:=iS I1;have h:=h.mono af;refine xM (eY e0.Index _ hy h) ?_;rintro I0 aw v2 k2 le - ⟨v0,rfl,rfl,⟨cs,rfl,h3⟩⟩ -;have H:=H.trans le;obtain ⟨p3,c3,rfl,h4⟩:=yM h3;exact yQ [] H ⟨_,_,rfl,rfl,h4⟩
      · intro I1 hf af;refine yW [13] rfl ?_;have H:=iS I1;have h1:=h1.mono af;refine xM (gB e0.Read _ aA h1) ?_;rintro aT aw v2 k2 af - ⟨p4,c4,ay,rfl,rfl,h5⟩ -;have H:=H.trans af;exact yQ [hO zA (vS p4 y1.Subs c4) ay] H ⟨_,_,_,rfl,rfl,h5⟩
      · rintro I1 hf af _ _ ⟨rfl,rfl⟩ _ _ ⟨rfl,rfl⟩ _ _ ⟨p3,c3,rfl,rfl,h4⟩ _ _ ⟨p4,c4,ay,rfl,rfl,h5⟩;exact yW [6,8,11,14] rfl<|oY 11 [(15,vA [vI e0.Kind,vI e0.Num,vS p3 y.Coefs c3,vI y.Const,vT y1.Array.l,vS p4 y1.Subs c4,z0])]<|yQ [hO zA (vS p4 y1.Subs c4) ay] iR ⟨_,_,_,_,_,rfl,rfl,h4,h5⟩
      intro I1 hf af;refine dC []<|wL zExpr ?_;intro b2 hb2;exact yQ [hB b2 zExpr] iR ⟨_,rfl,rfl⟩
    rintro aU aC _ _ ⟨p31,c31,p41,c41,cs11,rfl,rfl,h41,h51⟩ _ _ ⟨b2,rfl,rfl⟩;refine yW [1,2,3,15] rfl ?_;have ⟨h,h1,h2⟩:=m3 aC h h1 h2;refine xH 0 [vI e0.Kind,vI e0.Num,vS p31 y.Coefs c31,vI y.Const,vT y1.Array.l,vS p41 y1.Subs c41,z0] rfl<|yD rfl<|yA<|yG [4] rfl<|xX<|qP [(1,vP b 0),(2,vP b1 0),(3,vP b2 0),(4,vI 0)]<|dR zG fun h6=>?_;obtain ⟨o0,aB,aI⟩:=zB N;refine ih_spec_l3CopyExpr_l1 e0 0 ([]:List zG) o0 aB iR h41 h51 h h1 h2 h6 (fun _ _ _ h=>h) (fun _ _ h=>h) ?_;intro I07 Kids1 p6 c6 aR heq le7 h8;subst o0;have ⟨h41,h51⟩:=m2 le7 h41 h51;refine zS<|yV<|rY 1 [1] [(34,vA [vI e0.Kind,vI e0.Num,vS p31 y.Coefs c31,vI y.Const,vT y1.Array.l,vS p41 y1.Subs c41,vS p6 Kids1 c6])]<|xH 3 [vI e0.Kind,vI e0.Num,vS p31 y.Coefs c31,vI y.Const,vT y1.Array.l,vS p41 y1.Subs c41,vS p6 Kids1 c6] rfl<|yD rfl<|xC<|yU 2 rfl ?_;intro I08 le8 hl02;have h19:=SL.of_frozen hl02 le8 h51;have ⟨h8,h41⟩:=m2 le8 h8 h41;obtain rfl:=zC aI;exact xA ⟨_,_,(.cell 2 rfl rfl (by kernel_rfl) ResV.nil),(zX [0] rfl (by decide)),⟨_,_,_,_,_,_,_,rfl,rfl,h41,h19,h8⟩⟩
  intro F_spec_l3CopyExpr F_spec_l3CopyExpr_l1 ih_spec_l3CopyExpr ih_spec_l3CopyExpr_l1 e0 i Kids o N B I0 I Q y y1 p c p1 c1 p2 c2 b b1 p31 c31 p41 c41 cs11 b2 p5 c5 aQ H h41 h51 h h1 h2 h7 hg ho hx;refine yR hg ho<|yB<|yE<|yI [4] [20] rfl<|zI<|yF N ?_ ?_
  · intro hc N;refine zT<|yA<|yH ?_;obtain ⟨x,aJ,N⟩:=zB N;obtain ⟨y2,bf,N⟩:=zB N;obtain ⟨l,bw,N⟩:=zB N;refine vC [.p (vP b2 6) [],.p (vS p5 Kids c5) [0],.p (vP b 6) [],.p (vS p2 e0.Kids c2) [3],.p (vI i) [],.x (ePExpr x),.x (eVExpr x),.x (fun I' v hx=>∃ aV bc aN aZ bB bk bz,v=vA (cExpr y2 aV bc aN aZ bB bk)/\hx=[hO zG (vS bB y2.Kids bk) bz]/\(S4 I' aV y2.Index.Coefs bc)/\(S4 I' aN y2.Read.Subs aZ)/\(RL I' bz y2.Kids)),.x (fun I' v hx=>∃ b3,v=vS (some ⟨b3,0,none⟩) ([y2]:List zG) 1/\hx=[]/\(SL I' (vS (some ⟨b3,0,none⟩) ([y2]:List zG) 1) ([y2]:List zG))),.x (fun I' v hx=>∃ bj bo bD,v=vS bj l bo/\hx=[hO zG (vS bj l bo) bD]/\(RL I' bD l))] [[],[(0,false)],[],[(2,false)],[],[(3,false),(4,false)],[(5,false)],[(6,false)],[(7,true)],[(1,false),(8,false),(12,true)]] [hB b2 [vI e0.Kind,vI e0.Num,vS p31 y.Coefs c31,vI y.Const,vT y1.Array.l,vS p41 y1.Subs c41,vS p5 Kids c5],hO zA (vS p41 y1.Subs c41) cs11,hB b1 zExpr,hB b (cExpr e0 p c p1 c1 p2 c2)] [[hO zG (vS p5 Kids c5) aQ]] [(9,true)] (zY [1,2,3,4,0]) ?_ ?_
    · refine Op<|Op<|Op<|Op<|Op<|Ox ?_<|Ox ?_<|Ox ?_<|Ox ?_<|Ox ?_<|On
      · intro I1 hf af;refine yW [26,27] rfl ?_;have h2:=h2.mono af;refine xO rfl rfl h2 aJ ?_;intro ad aK aq al;obtain ⟨p7,c7,p8,c8,p9,c9,rfl,h9,h10,h11⟩:=tH al;exact yQ [] iR ⟨_,_,_,_,_,_,_,rfl,rfl,aq,h9,h10,h11⟩
      · rintro I1 hf af _ _ ⟨ad,p7,c7,p8,c8,p9,c9,rfl,rfl,aq,h9,h10,h11⟩;exact yW [28] rfl<|xJ 0 aq (cExpr x p7 c7 p8 c8 p9 c9) (vA (cExpr x p7 c7 p8 c8 p9 c9)) rfl<|yQ [] iR ⟨_,_,_,_,_,_,rfl,rfl,h9,h10,h11⟩
      · rintro I1 hf af _ _ ⟨p71,c71,p81,c81,p91,c91,rfl,rfl,h91,h101,h111⟩;refine yW [29] rfl ?_;have H:=iS I1;refine xM (ih_spec_l3CopyExpr x _ bf h91 h101 h111) ?_;rintro bC aw v2 k2 aD - ⟨aV,bc,aN,aZ,bB,bk,bz,rfl,rfl,h12,h13,h14⟩ -;have H:=H.trans aD;exact yQ [hO zG (vS bB y2.Kids bk) bz] H ⟨_,_,_,_,_,_,_,rfl,rfl,h12,h13,h14⟩
      · rintro I1 hf af _ _ ⟨aV,bc,aN,aZ,bB,bk,bz,rfl,rfl,h12,h13,h14⟩;refine yW [30] rfl ?_;have H:=iS I1;refine xF 0 rfl ?_;intro bJ aW hl0;have h15:=SL.of_frozen hl0 aW h14;have ⟨h12,h13,H⟩:=m3 aW h12 h13 H;refine nC (rc y2 (xT ⟨_,_,_,rfl,h12,h13,h15⟩) rN) ?_;intro b3 bN bt h17;have H:=H.trans bt;exact yQ [] H ⟨_,rfl,rfl,h17⟩
      rintro I1 hf af _ _ ⟨rfl,rfl⟩ _ _ ⟨b3,rfl,rfl,h17⟩ _ _ rfl;refine yW [24,31] rfl ?_;have h7:=iM af h7;obtain ⟨bx,k0,k01⟩:=h17;have h17:SL I1 (vS (some ⟨b3,0,none⟩) ([y2]:List zG) 1) ([y2]:List zG):=⟨_,k0,k01⟩;exact sC 98 7 0 rfl rfl rfl h7 (.inl k0) k01 bw fun bj bo bD h18=>wE (ah:=(hO zG (vS bj l bo) bD::hB b2 [vI e0.Kind,vI e0.Num,vS p31 y.Coefs c31,vI y.Const,vT y1.Array.l,vS p41 y1.Subs c41,vS p5 Kids c5]::hO zA (vS p41 y1.Subs c41) cs11::hB b1 zExpr::hB b (cExpr e0 p c p1 c1 p2 c2)::hf)) rfl<|yQ [hO zG (vS bj l bo) bD] iR ⟨_,_,_,rfl,rfl,h18⟩
    rintro I06 bv _ _ ⟨bj,bo,bD,rfl,rfl,h18⟩;refine yW [1,2,3,4,32] rfl ?_;have ⟨h41,h51,h,h1,h2,H⟩:=m6 bv h41 h51 h h1 h2 H;exact yC 11 [] [33] rfl<|xH 1 [vI e0.Kind,vI e0.Num,vS p31 y.Coefs c31,vI y.Const,vT y1.Array.l,vS p41 y1.Subs c41,vS bj l bo] rfl<|yD rfl<|zP<|zI<|zM<|yI [] [4] rfl<|yP<|nN<|ih_spec_l3CopyExpr_l1 e0 (W (i+1)) l _ N H h41 h51 h h1 h2 h18 hg ho hx
  intro hc N;exact wR<|xQ (zX [0,1,2,3] rfl (by decide))<|yL<|hx _ _ _ _ _ (zC N).symm H h7
theorem zDF:∀ e0 r,qT e0=some r->∀ {I:Imm}{p c p1 c1 p2 c2},(S4 I p e0.Index.Coefs c)->(S4 I p1 e0.Read.Subs c1)->(S4 I p2 e0.Kids c2)->RT 193 [vA (cExpr e0 p c p1 c1 p2 c2)] I [] (eZ  r):=zCe.1
def zEp (r:zO):KT:=fun kk I' ah v=>
  ∃ a0_1 c0_1 s0_1 a0_4 c0_4 a0_7 c0_7 a0_8 c0_8 s0_8,ah=[.osl (.slice a0_1 r.Write.Subs.length c0_1) (Rp.sz zA) s0_1,.osl (.slice a0_8 r.Value.Kids.length c0_8) (Rp.sz zG) s0_8]/\v=tupV [(.agg ⟨[.string ⟨⟨r.Write.Array.l⟩⟩,.slice a0_1 r.Write.Subs.length c0_1,.int .i64 r.Value.Kind,.int .i64 r.Value.Num,.slice a0_4 r.Value.Index.Coefs.length c0_4,.int .i64 r.Value.Index.Const,.string ⟨⟨r.Value.Read.Array.l⟩⟩,.slice a0_7 r.Value.Read.Subs.length c0_7,.slice a0_8 r.Value.Kids.length c0_8]⟩)]/\RepL (Rp.rep I') (Rp.sz zA) s0_1 r.Write.Subs/\SL I' (.slice a0_4 r.Value.Index.Coefs.length c0_4) r.Value.Index.Coefs/\SL I' (.slice a0_7 r.Value.Read.Subs.length c0_7) r.Value.Read.Subs/\RepL (Rp.rep I') (Rp.sz zG) s0_8 r.Value.Kids
def jO (s:zO):Option (zO):=do
 let y<-uH s.Write
 let y1<-qT s.Value
 pure (zO.mk y y1)
theorem zBx:∀ s r,jO s=some r->∀ {I:Imm}{p c p1 c1 p2 c2 p3 c3},(S4 I p s.Write.Subs c)->(S4 I p1 s.Value.Index.Coefs c1)->(S4 I p2 s.Value.Read.Subs c2)->(S4 I p3 s.Value.Kids c3)->RT 151 [vA (cStmt s p c p1 c1 p2 c2 p3 c3)] I [] (zEp  r):=by
 intro s r N I p c p1 c1 p2 c2 p3 c3 h h1 h2 h3;unfold jO at N;refine yJ func151 fun B=>?_;have H:=iS I;refine yE<|tW (cStmt s p c p1 c1 p2 c2 p3 c3) ?_;intro b hb;refine wL [vT ([]),z0,vI 0,vI 0,z0,vI 0,vT ([]),z0,z0] ?_;intro b1 hb1;refine yD rfl<|zI<|yB ?_;obtain ⟨y,hy,N⟩:=zB N;obtain ⟨y1,aA,N⟩:=zB N;refine vC [.p (vP b 0) [],.p (vA (cAccess s.Write p c)) [1],.x (fun I' v hx=>∃ p4 c4 cs,v=vA (cAccess y p4 c4)/\hx=[hO zA (vS p4 y.Subs c4) cs]/\(RL I' cs y.Subs)),.p (vP b 2) [],.p (vA (cExpr s.Value p1 c1 p2 c2 p3 c3)) [1],.x (fun I' v hx=>∃ p5 c5 p6 c6 p7 c7 ay,v=vA (cExpr y1 p5 c5 p6 c6 p7 c7)/\hx=[hO zG (vS p7 y1.Kids c7) ay]/\(S4 I' p5 y1.Index.Coefs c5)/\(S4 I' p6 y1.Read.Subs c6)/\(RL I' ay y1.Kids)),.x (fun I' v hx=>∃ p41 c41 p51 c51 p61 c61 p71 c71 cs11 aQ,v=vA [vT y.Array.l,vS p41 y.Subs c41,vI y1.Kind,vI y1.Num,vS p51 y1.Index.Coefs c51,vI y1.Index.Const,vT y1.Read.Array.l,vS p61 y1.Read.Subs c61,vS p71 y1.Kids c71]/\hx=[hO zG (vS p71 y1.Kids c71) cs11,hO zA (vS p41 y.Subs c41) aQ]/\(RL I' aQ y.Subs)/\(S4 I' p51 y1.Index.Coefs c51)/\(S4 I' p61 y1.Read.Subs c61)/\(RL I' cs11 y1.Kids))] [[],[(0,false)],[(1,false)],[],[(3,false)],[(4,false)],[(2,true),(5,true)]] [hB b1 [vT ([]),z0,vI 0,vI 0,z0,vI 0,vT ([]),z0,z0],hB b (cStmt s p c p1 c1 p2 c2 p3 c3)] [] [(6,true)] (zY [0,1]) ?_ ?_
 · refine Op<|Op<|Ox ?_<|Op<|Op<|Ox ?_<|Ox ?_<|On
   · intro I1 hf af;refine yW [4] rfl ?_;have H:=iS I1;have h:=h.mono af;refine xM (gB s.Write _ hy h) ?_;rintro I0 aw v2 k2 le - ⟨p4,c4,cs,rfl,rfl,h4⟩ -;have H:=H.trans le;exact yQ [hO zA (vS p4 y.Subs c4) cs] H ⟨_,_,_,rfl,rfl,h4⟩
   · intro I1 hf af;refine yW [7] rfl ?_;have H:=iS I1;have ⟨h1,h2,h3⟩:=m3 af h1 h2 h3;refine xM (zDF s.Value _ aA h1 h2 h3) ?_;rintro aT aw v2 k2 af - ⟨p5,c5,p6,c6,p7,c7,ay,rfl,rfl,h5,h6,h7⟩ -;have H:=H.trans af;exact yQ [hO zG (vS p7 y1.Kids c7) ay] H ⟨_,_,_,_,_,_,_,rfl,rfl,h5,h6,h7⟩
   rintro I1 hf af _ _ ⟨p4,c4,cs,rfl,rfl,h4⟩ _ _ ⟨p5,c5,p6,c6,p7,c7,ay,rfl,rfl,h5,h6,h7⟩;exact yW [5,8] rfl<|oY 7 [(9,vA [vT y.Array.l,vS p4 y.Subs c4,vI y1.Kind,vI y1.Num,vS p5 y1.Index.Coefs c5,vI y1.Index.Const,vT y1.Read.Array.l,vS p6 y1.Read.Subs c6,vS p7 y1.Kids c7])]<|yQ [hO zG (vS p7 y1.Kids c7) ay,hO zA (vS p4 y.Subs c4) cs] iR ⟨_,_,_,_,_,_,_,_,_,_,rfl,rfl,h4,h5,h6,h7⟩
 rintro aU aC _ _ ⟨p41,c41,p51,c51,p61,c61,p71,c71,cs11,aQ,rfl,rfl,h41,h51,h61,h71⟩;refine yW [2,9] rfl ?_;refine xH 2 [vT y.Array.l,vS p41 y.Subs c41,vI y1.Kind,vI y1.Num,vS p51 y1.Index.Coefs c51,vI y1.Index.Const,vT y1.Read.Array.l,vS p61 y1.Read.Subs c61,vS p71 y1.Kids c71] rfl<|yD rfl<|zI<|xB ?_;obtain rfl:=zC N;exact xA ⟨_,_,(.cell 2 rfl rfl (by kernel_rfl) ResV.nil),(zX [1,0] rfl (by decide)),⟨_,_,_,_,_,_,_,_,_,_,rfl,rfl,h41,h51,h61,h71⟩⟩
def zEq (r:zD):KT:=fun kk I' ah v=>
  ∃ a0_0 c0_0 s0_0 a0_1 c0_1 s0_1,ah=[.osl (.slice a0_0 r.Arrays.length c0_0) (Rp.sz zF) s0_0,.osl (.slice a0_1 r.Parts.length c0_1) (Rp.sz zN) s0_1]/\v=tupV [(.agg ⟨[.slice a0_0 r.Arrays.length c0_0,.slice a0_1 r.Parts.length c0_1]⟩)]/\RepL (Rp.rep I') (Rp.sz zF) s0_0 r.Arrays/\RepL (Rp.rep I') (Rp.sz zN) s0_1 r.Parts
def sO (p:zD) (i:Int) (Arrays:List zF):Option (List zF):=do
 if (decide (i<(p.Arrays.length:Int))) then
  let x<-idx p.Arrays i
  let x1<-idx p.Arrays i
  let l<-app 8 ([]:List Int) x1.Dims
  let l1<-app 40 Arrays ([(zF.mk x.Name l)]:List zF)
  sO p (W (i+1)) l1
 else
  pure (id Arrays)
 partial_fixpoint
theorem zA1 (p:zD):∀ (i:Int) (Arrays:List zF) (o:List zF),sO p i Arrays=some o->∀ {B}{I0 I:Imm}{Q p1 c p2 c1}{b:Nat}{b1:Nat}{b2:Nat}{p3 c2 cs},I0.le I->(S4 I p1 p.Arrays c)->(S4 I p2 p.Parts c1)->(RL I cs Arrays)->NG Q->NO Q->(∀ (I':Imm) (av:List zF) (p4:Option Addr) (c3:Nat) (ay:List Value),o=av->I0.le I'->(RL I' ay av)->T 84 B Q (.exit 0) I' [hO zF (vS p4 av c3) ay,hB b2 [vS p4 av c3,z0],hB b1 zTwo,hB b (cProg p p1 c p2 c1)] [(1,vP b 0),(2,vP b1 0),(3,vP b2 0)])->J Tryz.prog 84 B (nav (bodyOf f104) [1,1,0,1,0]) Q I [hO zF (vS p3 Arrays c2) cs,hB b2 [vS p3 Arrays c2,z0],hB b1 zTwo,hB b (cProg p p1 c p2 c1)] [(1,vP b 0),(2,vP b1 0),(3,vP b2 0),(4,vI i)]:=by
 refine sO.partial_correctness p _ fun aH ih i Arrays o N B I0 I Q p1 c p2 c1 b b1 b2 p3 c2 cs H h h1 h3 hg ho hx=>yR hg ho<|yB<|yE<|yI [3] [13] rfl<|zI<|yF N ?_ ?_
 · intro hc N;refine zT<|yA<|yH ?_;obtain ⟨x,hy,N⟩:=zB N;obtain ⟨x1,aA,N⟩:=zB N;obtain ⟨l,aJ,N⟩:=zB N;obtain ⟨l1,bf,N⟩:=zB N;refine vC [.p (vP b2 0) [],.p (vS p3 Arrays c2) [0],.p (vP b 0) [],.p (vS p1 p.Arrays c) [2],.p (vI i) [],.x (ePArr x),.x (ePArr x),.q (vT x.Name.l),.x (fun I' v hx=>∃ b3,v=vS (some ⟨b3,0,none⟩) ([]:List Int) 0/\hx=[hO Int (vS (some ⟨b3,0,none⟩) ([]:List Int) 0) []]/\(RL I' [] ([]:List Int))),.p (vP b 0) [],.p (vS p1 p.Arrays c) [2],.p (vI i) [],.x (ePArr x1),.x (eQArr 1 x1),.x (eS x1.Dims),.x (fun I' v hx=>∃ p7 c6 aQ,v=vS p7 l c6/\hx=[hO Int (vS p7 l c6) aQ]/\(RL I' aQ l)),.x (fun I' v hx=>∃ p71 c61 cs21,v=vA [vT x.Name.l,vS p71 l c61]/\hx=[hO Int (vS p71 l c61) cs21]/\(RL I' cs21 l)),.x (fun I' v hx=>∃ b4,v=vS (some ⟨b4,0,none⟩) ([(zF.mk x.Name l)]:List zF) 1/\hx=[]/\(SL I' (vS (some ⟨b4,0,none⟩) ([(zF.mk x.Name l)]:List zF) 1) ([(zF.mk x.Name l)]:List zF))),.x (fun I' v hx=>∃ p8 c7 aR,v=vS p8 l1 c7/\hx=[hO zF (vS p8 l1 c7) aR]/\(RL I' aR l1))] [[],[(0,false)],[],[(2,false)],[],[(3,false),(4,false)],[(5,false)],[(6,false)],[],[],[(9,false)],[],[(10,false),(11,false)],[(12,false)],[(13,false)],[(8,true),(14,false)],[(7,false),(15,true)],[(16,true)],[(1,false),(17,false),(21,true)]] [hB b2 [vS p3 Arrays c2,z0],hB b1 zTwo,hB b (cProg p p1 c p2 c1)] [[hO zF (vS p3 Arrays c2) cs]] [(18,true)] (zY [1,2,3,0]) ?_ ?_
   · refine Op<|Op<|Op<|Op<|Op<|Ox ?_<|Ox ?_<|Oq ?_<|Ox ?_<|Op<|Op<|Op<|Ox ?_<|Ox ?_<|Ox ?_<|Ox ?_<|Ox ?_<|Ox ?_<|Ox ?_<|On
     · intro I1 hf af;refine yW [19,20] rfl ?_;have h:=h.mono af;refine xO rfl rfl h hy ?_;intro ad aK aq al;obtain ⟨p5,c4,rfl,h5⟩:=wG al;exact yQ [] iR ⟨_,_,_,rfl,rfl,aq,h5⟩
     · rintro I1 hf af _ _ ⟨ad,p5,c4,rfl,rfl,aq,h5⟩;exact yW [21] rfl<|oY 7 [(22,.pointer (some ad))]<|yQ [] iR ⟨_,_,_,rfl,rfl,aq,h5⟩
     · rintro I1 hf af _ _ ⟨ad1,p51,c41,rfl,rfl,au,h51⟩;exact yW [22] rfl<|xJ 0 au [vT x.Name.l] (vT x.Name.l) rfl<|xE iR
     · intro I1 hf af;refine dC []<|uD [] Int ?_;intro b3 hb3;have h6:RL I1 [] ([]:List Int):=rfl;exact yQ [hO Int (vS (some ⟨b3,0,none⟩) ([]:List Int) 0) []] iR ⟨_,rfl,rfl,h6⟩
     · intro I1 hf af;refine yW [26,27] rfl ?_;have h:=h.mono af;refine xO rfl rfl h aA ?_;intro ad2 bx br ax;obtain ⟨p6,c5,rfl,h7⟩:=wG ax;exact yQ [] iR ⟨_,_,_,rfl,rfl,br,h7⟩
     · rintro I1 hf af _ _ ⟨ad2,p6,c5,rfl,rfl,br,h7⟩;exact yW [28] rfl<|oY 14 [(29,.pointer (some (ad2.add 1)))]<|yQ [] iR ⟨_,_,_,rfl,rfl,br,h7⟩
     · rintro I1 hf af _ _ ⟨ad21,p61,c51,rfl,rfl,hat21,h71⟩;exact yW [29] rfl<|xJ 1 hat21 [vS p61 x1.Dims c51] (vS p61 x1.Dims c51) rfl<|yQ [] iR ⟨_,_,rfl,rfl,h71⟩
     · rintro I1 hf af _ _ ⟨b3,rfl,rfl,h6⟩ _ _ ⟨p611,c511,rfl,rfl,h711⟩;refine yW [24,30] rfl ?_;obtain ⟨bO,k0,k01⟩:=h711;have h711:SL I1 (vS p611 x1.Dims c511) x1.Dims:=⟨_,k0,k01⟩;exact sC 3 1 0 rfl rfl rfl h6 (.inl k0) k01 aJ fun p7 c6 aQ h8=>wE (ah:=(hO Int (vS p7 l c6) aQ::hB b2 [vS p3 Arrays c2,z0]::hB b1 zTwo::hB b (cProg p p1 c p2 c1)::hf)) rfl<|yQ [hO Int (vS p7 l c6) aQ] iR ⟨_,_,_,rfl,rfl,h8⟩
     · rintro I1 hf af _ _ ⟨rfl,rfl⟩ _ _ ⟨p7,c6,aQ,rfl,rfl,h8⟩;exact yW [23,31] rfl<|oY 17 [(32,vA [vT x.Name.l,vS p7 l c6])]<|yQ [hO Int (vS p7 l c6) aQ] iR ⟨_,_,_,rfl,rfl,h8⟩
     · rintro I1 hf af _ _ ⟨p71,c61,cs21,rfl,rfl,h81⟩;refine yW [32] rfl ?_;have H:=iS I1;refine xF 0 rfl ?_;intro I0 le hl0;have h9:=SL.of_frozen hl0 le h81;have H:=H.trans le;refine nC (rc (zF.mk x.Name l) (rX ⟨_,rfl,h9⟩) rN) ?_;intro b4 aT af h11;have H:=H.trans af;exact yQ [] H ⟨_,rfl,rfl,h11⟩
     rintro I1 hf af _ _ ⟨rfl,rfl⟩ _ _ ⟨b4,rfl,rfl,h11⟩ _ _ rfl;refine yW [17,33] rfl ?_;have h3:=iM af h3;obtain ⟨ccs3,k02,k03⟩:=h11;have h11:SL I1 (vS (some ⟨b4,0,none⟩) ([(zF.mk x.Name l)]:List zF) 1) ([(zF.mk x.Name l)]:List zF):=⟨_,k02,k03⟩;exact sC 107 2 0 rfl rfl rfl h3 (.inl k02) k03 bf fun p8 c7 aR h12=>wE (ah:=(hO zF (vS p8 l1 c7) aR::hB b2 [vS p3 Arrays c2,z0]::hB b1 zTwo::hB b (cProg p p1 c p2 c1)::hf)) rfl<|yQ [hO zF (vS p8 l1 c7) aR] iR ⟨_,_,_,rfl,rfl,h12⟩
   rintro aU aC _ _ ⟨p8,c7,aR,rfl,rfl,h12⟩;refine yW [1,2,3,4,34] rfl ?_;have ⟨h,h1,H⟩:=m3 aC h h1 H;exact yC 20 [] [35] rfl<|xH 1 [vS p8 l1 c7,z0] rfl<|yD rfl<|zP<|zI<|zM<|yI [] [4] rfl<|yP<|nN<|ih (W (i+1)) l1 _ N H h h1 h12 hg ho hx
 intro hc N;exact wR<|yL<|hx _ _ _ _ _ (zC N).symm H h3
def sP (p:zD) (i1:Int) (k04:Int) (Body:List zO):Option (List zO):=do
 let x3<-idx p.Parts i1
 if (decide (k04<(x3.Body.length:Int))) then
  let x4<-idx p.Parts i1
  let x5<-idx x4.Body k04
  let y1<-jO x5
  let l2<-app 152 Body ([y1]:List zO)
  sP p i1 (W (k04+1)) l2
 else
  pure (id Body)
 partial_fixpoint
theorem zA2 (p:zD) (i1:Int):∀ (k04:Int) (Body:List zO) (o:List zO),sP p i1 k04 Body=some o->∀ {B}{I0 I:Imm}{Q}{av:List zF}{Parts:List zN}{y:(List zE)}{p1 c p2 c1}{b:Nat}{b1:Nat}{b2:Nat}{p4 c3 ay p9 c8 bz bj bk}{b5:Nat}{p14 bo cs6},I0.le I->(S4 I bj y bk)->(RL I bz Parts)->(RL I ay av)->(S4 I p1 p.Arrays c)->(S4 I p2 p.Parts c1)->(RL I cs6 Body)->NG Q->NO Q->(∀ (I':Imm) (bm:List zO) (p15:Option Addr) (c14:Nat) (cs7:List Value),o=bm->I0.le I'->(RL I' cs7 bm)->T 84 B Q (.exit 4) I' [hO zO (vS p15 bm c14) cs7,hB b5 [vS bj y bk,vS p15 bm c14],hO zN (vS p9 Parts c8) bz,hO zF (vS p4 av c3) ay,hB b2 [vS p4 av c3,vS p9 Parts c8],hB b1 zTwo,hB b (cProg p p1 c p2 c1)] [(1,vP b 0),(2,vP b1 0),(3,vP b2 0),(5,vI i1),(6,vP b5 0)])->J Tryz.prog 84 B (nav (bodyOf f104) [1,1,1,0,1,0,0,1,0,0,1,0,1,0]) Q I [hO zO (vS p14 Body bo) cs6,hB b5 [vS bj y bk,vS p14 Body bo],hO zN (vS p9 Parts c8) bz,hO zF (vS p4 av c3) ay,hB b2 [vS p4 av c3,vS p9 Parts c8],hB b1 zTwo,hB b (cProg p p1 c p2 c1)] [(1,vP b 0),(2,vP b1 0),(3,vP b2 0),(5,vI i1),(6,vP b5 0),(7,vI k04)]:=by
 refine sP.partial_correctness p i1 _ fun aH ih k04 Body o N B I0 I Q av Parts y p1 c p2 c1 b b1 b2 p4 c3 ay p9 c8 bz bj bk b5 p14 bo cs6 H h18 h14 h4 h h1 h20 hg ho hx=>yR hg ho<|yB<|yE<|yC 4 [6] [51,53,54] rfl<|bE N fun x3 hy6 N=>xO rfl rfl h1 hy6 ?_;intro ad4 ccs5 hat4 bI;obtain ⟨p16,c15,p17,c16,rfl,h22,h23⟩:=wQ bI;refine yC 6 [] [56] rfl<|xJ 1 hat4 [vS p17 x3.Body c16] (vS p17 x3.Body c16) rfl<|yI [] [59] rfl<|zI<|yF N ?_ ?_
 · intro aY N;refine zT<|yA<|yH ?_;obtain ⟨x4,hy7,N⟩:=zB N;obtain ⟨x5,hy8,N⟩:=zB N;obtain ⟨y1,hy9,N⟩:=zB N;obtain ⟨l2,hy10,N⟩:=zB N;refine vC [.p (vP b5 1) [],.p (vS p14 Body bo) [0],.p (vP b 1) [],.p (vS p2 p.Parts c1) [5],.p (vI i1) [],.x (ePPart x4),.x (eQPart 1 x4),.x (eS x4.Body),.p (vI k04) [],.x (ePStmt x5),.x (eVStmt x5),.x (fun I' v hx=>∃ p24 c23 p25 c24 p26 c25 p27 c26 cs8 cs9,v=vA (cStmt y1 p24 c23 p25 c24 p26 c25 p27 c26)/\hx=[hO zA (vS p24 y1.Write.Subs c23) cs8,hO zG (vS p27 y1.Value.Kids c26) cs9]/\(RL I' cs8 y1.Write.Subs)/\(S4 I' p25 y1.Value.Index.Coefs c24)/\(S4 I' p26 y1.Value.Read.Subs c25)/\(RL I' cs9 y1.Value.Kids)),.x (fun I' v hx=>∃ b6,v=vS (some ⟨b6,0,none⟩) ([y1]:List zO) 1/\hx=[]/\(SL I' (vS (some ⟨b6,0,none⟩) ([y1]:List zO) 1) ([y1]:List zO))),.x (fun I' v hx=>∃ p28 c27 cs10,v=vS p28 l2 c27/\hx=[hO zO (vS p28 l2 c27) cs10]/\(RL I' cs10 l2))] [[],[(0,false)],[],[(2,false)],[],[(3,false),(4,false)],[(5,false)],[(6,false)],[],[(7,false),(8,false)],[(9,false)],[(10,false)],[(11,true)],[(1,false),(12,false),(16,true)]] [hB b5 [vS bj y bk,vS p14 Body bo],hO zN (vS p9 Parts c8) bz,hO zF (vS p4 av c3) ay,hB b2 [vS p4 av c3,vS p9 Parts c8],hB b1 zTwo,hB b (cProg p p1 c p2 c1)] [[hO zO (vS p14 Body bo) cs6]] [(13,true)] (zY [1,2,3,4,5,6,0]) ?_ ?_
   · refine Op<|Op<|Op<|Op<|Op<|Ox ?_<|Ox ?_<|Ox ?_<|Op<|Ox ?_<|Ox ?_<|Ox ?_<|Ox ?_<|Ox ?_<|On
     · intro I1 hf af;refine yW [65,66] rfl ?_;have h1:=h1.mono af;refine xO rfl rfl h1 hy7 ?_;intro ad5 ccs6 hat5 hrep4;obtain ⟨p18,c17,p19,c18,rfl,h24,h25⟩:=wQ hrep4;exact yQ [] iR ⟨_,_,_,_,_,rfl,rfl,hat5,h24,h25⟩
     · rintro I1 hf af _ _ ⟨ad5,p18,c17,p19,c18,rfl,rfl,hat5,h24,h25⟩;exact yW [67] rfl<|oY 7 [(68,.pointer (some (ad5.add 1)))]<|yQ [] iR ⟨_,_,_,_,_,rfl,rfl,hat5,h24,h25⟩
     · rintro I1 hf af _ _ ⟨ad51,p181,c171,p191,c181,rfl,rfl,hat51,h241,h251⟩;exact yW [68] rfl<|xJ 1 hat51 [vS p191 x4.Body c181] (vS p191 x4.Body c181) rfl<|yQ [] iR ⟨_,_,rfl,rfl,h251⟩
     · rintro I1 hf af _ _ ⟨p1911,c1811,rfl,rfl,h2511⟩;refine yW [69,70] rfl<|xO rfl rfl h2511 hy8 ?_;intro ad6 ccs7 hat6 hrep5;obtain ⟨p20,c19,p21,c20,p22,c21,p23,c22,rfl,h26,h27,h28,h29⟩:=qS hrep5;exact yQ [] iR ⟨_,_,_,_,_,_,_,_,_,rfl,rfl,hat6,h26,h27,h28,h29⟩
     · rintro I1 hf af _ _ ⟨ad6,p20,c19,p21,c20,p22,c21,p23,c22,rfl,rfl,hat6,h26,h27,h28,h29⟩;exact yW [71] rfl<|xJ 0 hat6 (cStmt x5 p20 c19 p21 c20 p22 c21 p23 c22) (vA (cStmt x5 p20 c19 p21 c20 p22 c21 p23 c22)) rfl<|yQ [] iR ⟨_,_,_,_,_,_,_,_,rfl,rfl,h26,h27,h28,h29⟩
     · rintro I1 hf af _ _ ⟨p201,c191,p211,c201,p221,c211,p231,c221,rfl,rfl,h261,h271,h281,h291⟩;refine yW [72] rfl ?_;have H:=iS I1;refine xM (zBx x5 _ hy9 h261 h271 h281 h291) ?_;rintro bN aw v2 k2 bt - ⟨p24,c23,cs8,p25,c24,p26,c25,p27,c26,cs9,rfl,rfl,h30,h31,h32,h33⟩ -;have H:=H.trans bt;exact yQ [hO zA (vS p24 y1.Write.Subs c23) cs8,hO zG (vS p27 y1.Value.Kids c26) cs9] H ⟨_,_,_,_,_,_,_,_,_,_,rfl,rfl,h30,h31,h32,h33⟩
     · rintro I1 hf af _ _ ⟨p24,c23,p25,c24,p26,c25,p27,c26,cs8,cs9,rfl,rfl,h30,h31,h32,h33⟩;refine yW [73] rfl ?_;have H:=iS I1;refine xF 0 rfl ?_;intro I06 bv hl02;have h34:=SL.of_frozen hl02 bv h30;have ⟨h31,h32,h33,H⟩:=m4 bv h31 h32 h33 H;refine xF 0 rfl ?_;intro I07 le7 hl03;have h35:=SL.of_frozen hl03 le7 h33;have ⟨h34,h31,h32,H⟩:=m4 le7 h34 h31 h32 H;refine nC (rc y1 (wM ⟨_,_,_,_,rfl,h34,h31,h32,h35⟩) rN) ?_;intro b6 I08 le8 h37;have H:=H.trans le8;exact yQ [] H ⟨_,rfl,rfl,h37⟩
     rintro I1 hf af _ _ ⟨rfl,rfl⟩ _ _ ⟨b6,rfl,rfl,h37⟩ _ _ rfl;refine yW [63,74] rfl ?_;have h20:=iM af h20;obtain ⟨ccs8,k05,k06⟩:=h37;have h37:SL I1 (vS (some ⟨b6,0,none⟩) ([y1]:List zO) 1) ([y1]:List zO):=⟨_,k05,k06⟩;exact sC 100 9 0 rfl rfl rfl h20 (.inl k05) k06 hy10 fun p28 c27 cs10 h38=>wE (ah:=(hO zO (vS p28 l2 c27) cs10::hB b5 [vS bj y bk,vS p14 Body bo]::hO zN (vS p9 Parts c8) bz::hO zF (vS p4 av c3) ay::hB b2 [vS p4 av c3,vS p9 Parts c8]::hB b1 zTwo::hB b (cProg p p1 c p2 c1)::hf)) rfl<|yQ [hO zO (vS p28 l2 c27) cs10] iR ⟨_,_,_,rfl,rfl,h38⟩
   rintro I09 le9 _ _ ⟨p28,c27,cs10,rfl,rfl,h38⟩;refine yW [1,2,3,5,6,7,75] rfl ?_;have ⟨h18,h14,h4,h,h1,H⟩:=m6 le9 h18 h14 h4 h h1 H;exact yC 15 [] [76] rfl<|xH 1 [vS bj y bk,vS p28 l2 c27] rfl<|yD rfl<|zP<|zI<|zM<|yI [] [7] rfl<|yP<|nN<|ih (W (k04+1)) l2 _ N H h18 h14 h4 h h1 h38 hg ho hx
 intro aY N;exact wR<|yL<|hx _ _ _ _ _ (zC N).symm H h20
def uO (p:zD) (i1:Int) (Parts:List zN):Option (List zN):=do
 if (decide (i1<(p.Parts.length:Int))) then
  let x2<-idx p.Parts i1
  let y<-nQ x2.Nest
  let bm<-sP p i1 0 ([]:List zO)
  let l3<-app 48 Parts ([(zN.mk y bm)]:List zN)
  uO p (W (i1+1)) l3
 else
  pure (id Parts)
 partial_fixpoint
theorem zDl (p:zD):∀ (i1:Int) (Parts:List zN) (o:List zN),uO p i1 Parts=some o->∀ {B}{I0 I:Imm}{Q}{av:List zF}{p1 c p2 c1}{b:Nat}{b1:Nat}{b2:Nat}{p4 c3 ay p9 c8 bz},I0.le I->(RL I ay av)->(S4 I p1 p.Arrays c)->(S4 I p2 p.Parts c1)->(RL I bz Parts)->NG Q->NO Q->(∀ (I':Imm) (bb:List zN) (aV:Option Addr) (c9:Nat) (bD:List Value),o=bb->I0.le I'->(RL I' bD bb)->T 84 B Q (.exit 2) I' [hO zN (vS aV bb c9) bD,hO zF (vS p4 av c3) ay,hB b2 [vS p4 av c3,vS aV bb c9],hB b1 zTwo] [(2,vP b1 0),(3,vP b2 0)])->J Tryz.prog 84 B (nav (bodyOf f104) [1,1,1,0,1,0]) Q I [hO zN (vS p9 Parts c8) bz,hO zF (vS p4 av c3) ay,hB b2 [vS p4 av c3,vS p9 Parts c8],hB b1 zTwo,hB b (cProg p p1 c p2 c1)] [(1,vP b 0),(2,vP b1 0),(3,vP b2 0),(5,vI i1)]:=by
 refine uO.partial_correctness p _ fun aH ih i1 Parts o N B I0 I Q av p1 c p2 c1 b b1 b2 p4 c3 ay p9 c8 bz H h4 h h1 h14 hg ho hx=>yR hg ho<|yB<|yE<|yI [4] [40] rfl<|zI<|yF N ?_ ?_
 · intro aE N;refine zT<|yA<|yH<|yE<|yC 3 [4] [44,45] rfl<|bE N fun x2 bw N=>xO rfl rfl h1 bw ?_;intro ad3 ccs4 hat3 bq;obtain ⟨aN,bc,bB,aZ,rfl,h16,h17⟩:=wQ bq;refine yC 5 [] [47] rfl<|xJ 0 hat3 [vS aN x2.Nest bc] (vS aN x2.Nest bc) rfl<|bE N fun y bH N=>xM (zBw x2.Nest _ bH h16) ?_;rintro bJ aw v2 k2 aW - ⟨v04,rfl,rfl,h18⟩ -;have ⟨h14,h4,h,h1,H⟩:=m5 aW h14 h4 h h1 H;obtain ⟨bj,bk,rfl⟩:=h18.form;refine yC 8 [] [50] rfl<|wL zTwo ?_;intro b5 hb5;refine xH 0 [vS bj y bk,z0] rfl<|yD rfl<|yA<|yG [7] rfl<|xX<|qP [(1,vP b 0),(2,vP b1 0),(3,vP b2 0),(5,vI i1),(6,vP b5 0),(7,vI 0)]<|dR zO fun h19=>?_;obtain ⟨aM,az,hMl1⟩:=zB N;refine zA2 p i1 0 ([]:List zO) aM az iR h18 h14 h4 h h1 h19 (fun _ _ _ h=>hg _ _ _ h) (fun _ _ h=>ho _ _ h) ?_;intro bP bm p15 c14 cs7 heq1 le10 h21;subst aM;have ⟨h18,h14,h4,h,h1,H⟩:=m6 le10 h18 h14 h4 h h1 H;refine zS<|zI<|zM<|rY 3 [4,1] [(78,vS p9 Parts c8),(79,vA [vS bj y bk,vS p15 bm c14])]<|xF 0 rfl ?_;intro bV le11 hl05;have h39:=SL.of_frozen hl05 le11 h21;have ⟨h14,h18,h4,h,h1,H⟩:=m6 le11 h14 h18 h4 h h1 H;refine uD [vS bj y bk,vS p15 bm c14] zN ?_;intro b7 hb7;have h40:RL bV [vS bj y bk,vS p15 bm c14] ([(zN.mk y bm)]:List zN):=⟨[vS bj y bk,vS p15 bm c14],_,rfl,rfl,(rO ⟨_,_,rfl,h18,h39⟩),rfl⟩;obtain ⟨l3,hy11,N⟩:=zB hMl1;refine sC 47 2 2 rfl rfl rfl h14 (.inr ⟨0,rfl⟩) h40 hy11 ?_;intro p29 c28 cs11 h41;exact tO (zY [1,2,3,4,5,6] (ah:=[hB b5 [vS bj y bk,vS p15 bm c14],hO zN (vS p29 l3 c28) cs11,hO zF (vS p4 av c3) ay,hB b2 [vS p4 av c3,vS p9 Parts c8],hB b1 zTwo,hB b (cProg p p1 c p2 c1)]))<|yC 6 [] [82] rfl<|xH 3 [vS p4 av c3,vS p29 l3 c28] rfl<|yD rfl<|zP<|zI<|zM<|yI [] [5] rfl<|yP<|nX (zX [1,2,3,4,5] rfl (by decide))<|nN<|ih (W (i1+1)) l3 _ N H h4 h h1 h41 hg ho hx
 intro aE N;exact wR<|xQ (zX [0,1,2,3] rfl (by decide))<|yL<|hx _ _ _ _ _ (zC N).symm H h14
def qQ (p:zD):Option (zD):=do
 let av<-sO p 0 ([]:List zF)
 let bb<-uO p 0 ([]:List zN)
 pure (zD.mk av bb)
theorem zGU:∀ p r,qQ p=some r->∀ {I:Imm}{p1 c p2 c1},(S4 I p1 p.Arrays c)->(S4 I p2 p.Parts c1)->RT 104 [vA (cProg p p1 c p2 c1)] I [] (zEq  r):=by
 intro p r N I p1 c p2 c1 h h1;unfold qQ at N;refine yJ func104 fun B=>yE<|tW (cProg p p1 c p2 c1) ?_;intro b hb;refine wL zTwo ?_;intro b1 hb1;refine yD rfl<|yV<|yC 1 [] [8] rfl<|wL zTwo ?_;intro b2 hb2;refine zAo 0 zTwo [hB b2 zTwo,hB b1 zTwo,hB b (cProg p p1 c p2 c1)] rfl rfl rfl rfl<|yD rfl<|yA<|yG [4] rfl<|xX<|qP [(1,vP b 0),(2,vP b1 0),(3,vP b2 0),(4,vI 0)]<|dR zF fun h2=>?_;obtain ⟨o0,aB,aI⟩:=zB N;refine zA1 p 0 ([]:List zF) o0 aB iR h h1 h2 (fun _ _ _ h=>h) (fun _ _ h=>h) ?_;intro bC av p4 c3 ay heq aD h4;subst o0;have ⟨h,h1⟩:=m2 aD h h1;refine zS<|yA<|yG [5] rfl<|xX<|qP [(1,vP b 0),(2,vP b1 0),(3,vP b2 0),(5,vI 0)]<|dR zN fun h13=>?_;obtain ⟨o02,ho02,hMl2⟩:=zB aI;refine zDl p 0 ([]:List zN) o02 ho02 iR h4 h h1 h13 (fun _ _ _ h=>h) (fun _ _ h=>h) ?_;intro bW bb aV c9 bD heq2 le12 h15;subst o02;have h4:=iM le12 h4;refine zS<|yV<|rY 1 [2] [(83,vA [vS p4 av c3,vS aV bb c9])]<|xH 3 [vS p4 av c3,vS aV bb c9] rfl<|yD rfl<|zI<|xB ?_;obtain rfl:=zC hMl2;exact xA ⟨_,_,(.cell 3 rfl rfl (by kernel_rfl) ResV.nil),(zX [1,0] rfl (by decide)),⟨_,_,_,_,_,_,rfl,rfl,h4,h15⟩⟩
def zDG (b0:Nat) (r:Str×zK):KT:=fun kk I' ah v=>
  ∃ v0 k0,ah=[.blk b0 ⟨k0⟩]/\v=tupV [v0]/\v0=.string ⟨⟨r.1.l⟩⟩/\Rp.rep I' k0 r.2
def pH (r0:zK) (list:(List Str)):Option (Str×zK):=do
 let (y1,y2)<-yX r0 (list.length:Int)
 let x<-idx list y1
 pure (x,y2)
theorem gO:∀ r0 list r,pH r0 list=some r->∀ {I:Imm}{ar:Nat}{p c p1 c1},(S4 I p r0.b c)->(S4 I p1 list c1)->RT 134 [vP ar 0,vS p1 list c1] I [hB ar (cRd r0 p c)] (zDG ar r):=by
 intro r0 list r N I ar p c p1 c1 h h1;unfold pH at N;refine yJ func134 fun B=>vR []<|yV<|yC 4 [] [5,6,8] rfl ?_;obtain ⟨⟨y1,y2⟩,hy,N⟩:=zB N;refine tM (xN r0 (list.length:Int) _ hy h) rfl ?_;rintro I0 aw v2 k2 le - ⟨v0,kk,rfl,rfl,rfl,h3⟩ -;have h1:=h1.mono le;obtain ⟨p2,c2,rfl,h4⟩:=zZ h3;obtain ⟨x,aA,N⟩:=zB N;refine xO rfl rfl h1 aA ?_;intro ad aK aq al;obtain rfl:=al;refine xJ 0 aq [vT x.l] (vT x.l) rfl<|yI [] [4] rfl<|zI<|xB ?_;obtain rfl:=zC N;exact xA ⟨_,_,(.tmp rfl ResV.nil),(zX [0] rfl (by decide)),⟨_,_,rfl,rfl,rfl,(yO ⟨_,rfl,h4⟩)⟩⟩
def zAr (r:zA):KT:=fun kk I' ah v=>
  ∃ a0_0 c0_0 s0_0,ah=[.osl (.slice a0_0 r.Coefs.length c0_0) (Rp.sz Int) s0_0]/\v=tupV [(.agg ⟨[.slice a0_0 r.Coefs.length c0_0,.int .i64 r.Const]⟩)]/\RepL (Rp.rep I') (Rp.sz Int) s0_0 r.Coefs
def oO :Option (zA):=do
 pure (zA.mk ([0,0,0,0]:List Int) 0)
theorem kJ:∀ r,oO =some r->∀ {I:Imm} ,RT 173 [] I [] (zAr  r):=by
 intro  r N I;unfold oO at N;refine yJ func173 fun B=>yE<|wL [z0,vI 0] ?_;intro b hb;refine yD rfl<|yV<|uD [vI 0,vI 0,vI 0,vI 0] Int ?_;intro b1 hb1;have h:RL I [vI 0,vI 0,vI 0,vI 0] ([0,0,0,0]:List Int):=rI [0,0,0,0];refine yC 2 [] [2] rfl<|xH 1 [vS (some ⟨b1,0,none⟩) ([0,0,0,0]:List Int) 4,vI 0] rfl<|yD rfl<|zI<|xB ?_;obtain rfl:=zC N;exact xA ⟨_,_,(.cell 1 rfl rfl (by kernel_rfl) ResV.nil),(zX [0] rfl (by decide)),⟨_,_,_,rfl,rfl,h⟩⟩
def nO (v0:Int):Option (zA):=do
 let y<-oO
 let x<-idx y.Coefs v0
 let l<-pure (y.Coefs.set v0.toNat 1)
 pure (zA.mk l y.Const)
theorem gU:∀ v0 r,nO v0=some r->∀ {I:Imm} ,RT 171 [vI v0] I [] (jG  r):=by
 intro v0 r N I;unfold nO at N;refine yJ func171 fun B=>yE<|wL [z0,vI 0] ?_;intro b hb;refine yD rfl<|yV<|bE N fun y hy N=>xM (kJ  _ hy ) ?_;rintro I0 aw v2 k2 le - ⟨p,c,cs,rfl,rfl,h⟩ -;refine wL [z0,vI 0] ?_;intro b1 hb1;refine xH 0 (cAff y p c) rfl<|yD rfl<|yV<|yC 3 [0] [6,7] rfl<|bE N fun x aA N=>nY 1 rfl rfl rfl h aA ?_;intro ad aK aq bL al;obtain rfl:=al;obtain ⟨l,aJ,N⟩:=zB N;refine qB (c:=[vI 1]) (x':=1) 1 0 rfl rfl rfl aq rfl rfl bL (by kernel_rfl) (by kernel_rfl) (by kernel_rfl) h aA (by kernel_rfl) rfl ?_;rw [show y.Coefs.set v0.toNat 1=l from zC aJ];intro ay h1 hl0;refine fT (m':=[(2,vP b 0),(3,vP b1 0),(6,vS p y.Coefs c),(7,vI v0)]) ⟨rfl,rfl,rfl,rfl,trivial⟩<|zEf (ah:=[hB b1 [vS p l c,vI y.Const],hO Int (vS p l c) ay,hB b [z0,vI 0]]) (m':=[(2,vP b 0),(3,vP b1 0),(6,vS p l c),(7,vI v0)]) (by first | rfl | simp only [vS,hl0,cv,d6,ep,d8,dy,dz]) (by first | rfl | simp only [vS,hl0])<|yD rfl<|yV<|rY 1 [0] [(9,vA [vS p l c,vI y.Const])]<|xH 2 [vS p l c,vI y.Const] rfl<|yD rfl<|xC<|yU 1 rfl ?_;intro aT af hl01;have h2:=SL.of_frozen hl01 af h1;obtain rfl:=zC N;exact xA ⟨_,_,(.cell 1 rfl rfl (by kernel_rfl) ResV.nil),zQ,⟨_,rfl,rfl,⟨_,rfl,(yK ⟨_,rfl,h2⟩)⟩⟩⟩
def wN (n0:Int):Option (zA):=do
 let y<-oO
 pure (zA.mk y.Coefs n0)
theorem uJ:∀ n0 r,wN n0=some r->∀ {I:Imm} ,RT 172 [vI n0] I [] (zAr  r):=by
 intro n0 r N I;unfold wN at N;refine yJ func172 fun B=>yE<|wL [z0,vI 0] ?_;intro b hb;refine yD rfl<|yV<|bE N fun y hy N=>xM (kJ  _ hy ) ?_;rintro I0 aw v2 k2 le - ⟨p,c,cs,rfl,rfl,h⟩ -;refine wL [z0,vI 0] ?_;intro b1 hb1;refine xH 0 (cAff y p c) rfl<|yD rfl<|yV<|yC 2 [] [5,6] rfl<|xH 0 [vS p y.Coefs c,vI n0] rfl<|yD rfl<|yV<|rY 1 [0] [(7,vA [vS p y.Coefs c,vI n0])]<|xH 2 [vS p y.Coefs c,vI n0] rfl<|yD rfl<|zI<|xB ?_;obtain rfl:=zC N;exact xA ⟨_,_,(.cell 2 rfl rfl (by kernel_rfl) ResV.nil),(zX [1] rfl (by decide)),⟨_,_,_,rfl,rfl,h⟩⟩
theorem zLX (xs:List NL) (x:NL):(x.ha++NLs xs).Perm (NLs (xs++[x])):=by
  simp only [NLs,dq,cm,fb,cu];exact dh
theorem zDH (nest:(List zE)):∀ (out:List zE) (i:Int) (o:List zE),uN nest out i=some o->∀ {B}{I0 I:Imm}{Q p c p1 c1 cs}{xs:List NL},I0.le I->(S4 I p nest c)->(RL I cs (xs.map NL.raw))->out=xs.map NL.d->(∀ x∈xs,x.ok I)->(∀ l a w,¬Q (.goto l) a w)->(∀ a w,¬Q .outgrown a w)->(∀ (I':Imm) (p2:Option Addr) (c2:Nat) (ay:List Value) (ys:List NL),I0.le I'->o=ys.map NL.d->(RL I' ay (ys.map NL.raw))->(∀ x∈ys,x.ok I')->T 83 B Q (.exit 0) I' (hO Raw2 (vS p2 (ys.map NL.raw) c2) ay::NLs ys) [(3,vS p2 (ys.map NL.raw) c2)])->J Tryz.prog 83 B (nav (bodyOf f150) [1,1,0,1,0]) Q I (hO Raw2 (vS p1 (xs.map NL.raw) c1) cs::NLs xs) [(0,vS p nest c),(3,vS p1 (xs.map NL.raw) c1),(4,vI i)]:=by
 refine uN.partial_correctness nest _ fun aH ih out i o N B I0 I Q p c p1 c1 cs xs H h h2 hout bZ hg ho hx=>yR hg ho<|yB<|yG [14] rfl<|zI<|yF N ?_ ?_
 · intro hc N;refine zT<|yA<|yH<|yE<|yC 1 [] [17] rfl<|wL zTwo ?_;intro b1 hb1;refine zAo 0 zTwo (hB b1 zTwo::hO Raw2 (vS p1 (xs.map NL.raw) c1) cs::NLs xs) rfl rfl rfl rfl<|yD rfl<|yA<|yG [6] rfl<|xX<|qP [(0,vS p nest c),(3,vS p1 (xs.map NL.raw) c1),(4,vI i),(5,vP b1 0),(6,vI 0)]<|dR zA fun h4=>?_;obtain ⟨o0,aB,aI⟩:=zB N;refine zMS (hs:=[hO zA (vS none ([]:List zA) 0) [],hB b1 zTwo,hO Raw2 (vS p1 (xs.map NL.raw) c1) cs]) (L:=NLs xs) (.exit 2) (fun I' ah m'=>∃ p4 c4 aR,RL I' aR o0/\ah=[hO zA (vS p4 o0 c4) aR,hB b1 [vS p4 o0 c4,z0],hO Raw2 (vS p1 (xs.map NL.raw) c1) cs]/\m'=[(0,vS p nest c),(3,vS p1 (xs.map NL.raw) c1),(4,vI i),(5,vP b1 0)]) (fun B'=>?_) ?_
   · refine zAZ nest i 0 ([]:List zA) o0 aB iR h h2 h4 (fun _ _ _ h=>by cases h.1) (fun _ _ h=>by cases h.1) ?_;intro bC Lo1 p4 c4 aR heq aD h6;subst o0;exact zKh ⟨_,_,_,h6,rfl,rfl⟩
   rintro bC _ _ ⟨p4,c4,aR,h6,rfl,rfl⟩ aD;have ⟨h,h2⟩:=m2 aD h h2;have bZ:=fun x hx=>(bZ x hx).mono aD;have H:=H.trans aD;refine zS<|yA<|yG [8] rfl<|xX<|qP [(0,vS p nest c),(3,vS p1 (xs.map NL.raw) c1),(4,vI i),(5,vP b1 0),(8,vI 0)]<|dR zA fun h18=>?_;obtain ⟨aM,az,hMl1⟩:=zB aI;refine zMS (hs:=[hO zA (vS none ([]:List zA) 0) [],hO zA (vS p4 o0 c4) aR,hB b1 [vS p4 o0 c4,z0],hO Raw2 (vS p1 (xs.map NL.raw) c1) cs]) (L:=NLs xs) (.exit 4) (fun I' ah m'=>∃ bj bo cs7,RL I' cs7 aM/\ah=[hO zA (vS bj aM bo) cs7,hO zA (vS p4 o0 c4) aR,hB b1 [vS p4 o0 c4,vS bj aM bo],hO Raw2 (vS p1 (xs.map NL.raw) c1) cs]/\m'=[(0,vS p nest c),(3,vS p1 (xs.map NL.raw) c1),(4,vI i),(5,vP b1 0)]) (fun B'=>?_) ?_
   · refine zA0 nest i 0 ([]:List zA) aM az iR h h2 h6 h18 (fun _ _ _ h=>by cases h.1) (fun _ _ h=>by cases h.1) ?_;intro I07 Hi1 bj bo cs7 heq1 le7 h20;subst aM;exact zKh ⟨_,_,_,h20,rfl,rfl⟩
   rintro I07 _ _ ⟨bj,bo,cs7,h20,rfl,rfl⟩ le7;have ⟨h,h2,h6⟩:=m3 le7 h h2 h6;have bZ:=fun x hx=>(bZ x hx).mono le7;have H:=H.trans le7;obtain ⟨ap,hy10,N⟩:=zB hMl1;have hy11:=zIA (l':=xs.map NL.raw) (m':=[(⟨vS p4 o0 c4,vS bj aM bo⟩:Raw2)]) hy10 (by simp [hout]) rfl;obtain ⟨_,rfl⟩:=gT hy10;have h34:RL I07 [vS p4 o0 c4,vS bj aM bo] [(⟨vS p4 o0 c4,vS bj aM bo⟩:Raw2)]:=⟨[vS p4 o0 c4,vS bj aM bo],[],rfl,rfl,⟨rfl,rfl,rfl⟩,rfl⟩;refine zS<|zI<|zM<|rY 2 [2] [(78,vS p1 (xs.map NL.raw) c1),(79,vA [vS p4 o0 c4,vS bj aM bo])]<|uD [vS p4 o0 c4,vS bj aM bo] Raw2 ?_;intro b8 hb8;refine sC 141 2 4 rfl rfl rfl h2 (.inr ⟨0,rfl⟩) h34 hy11 ?_;intro p21 c21 cs10 h35;have eR:xs.map NL.raw++[(⟨vS p4 o0 c4,vS bj aM bo⟩:Raw2)]=(xs++[(⟨p4,o0,c4,aR,bj,aM,bo,cs7⟩:NL)]).map NL.raw:=by simp [NL.raw,NL.vl,NL.vh]
   have eD:out++[(⟨o0,aM⟩:zE)]=(xs++[(⟨p4,o0,c4,aR,bj,aM,bo,cs7⟩:NL)]).map NL.d:=by simp [hout,NL.d]
   rw [eR] at h35 ⊢;refine yI [] [3] rfl<|zP<|zI<|zM<|yI [] [4] rfl<|yP<|nX (zEc 0 rfl)<|nX (zEc 2 rfl)<|zIC _ ?_<|qP [(0,vS p nest c),(3,vS p21 ((xs++[(⟨p4,o0,c4,aR,bj,aM,bo,cs7⟩:NL)]).map NL.raw) c21),(4,vI (W (i+1)))]<|ih _ (W (i+1)) _ N H h h35 eD ?_ hg ho hx
   · show List.Perm _ (hO zA (vS bj aM bo) cs7::hO zA (vS p4 o0 c4) aR::hO Raw2 (vS p21 ((xs++[(⟨p4,o0,c4,aR,bj,aM,bo,cs7⟩:NL)]).map NL.raw) c21) cs10::NLs xs);exact List.Perm.trans ((zLX xs ⟨p4,o0,c4,aR,bj,aM,bo,cs7⟩).symm.cons _)<|(List.Perm.swap _ _ _).trans (List.Perm.cons _ (List.Perm.swap _ _ _))
   intro x hx';rcases cQ.1 hx' with hx' | hx'
   · exact bZ x hx'
   rw [ck.1 hx']; exact ⟨h6,h20⟩
 intro hc N;have:=zC N;simp only [id] at this;exact wR<|yL<|hx _ _ _ _ _ H (by rw [<- this,hout]) h2 bZ
def zDm (r:(List zE)):KT:=fun kk I' ah v=>
  ∃ (p:Option Addr) (c:Nat) (cs:List Value) (xs:List NL),ah=hO Raw2 (vS p (xs.map NL.raw) c) cs::NLs xs/\v=tupV [vS p (xs.map NL.raw) c]/\RL I' cs (xs.map NL.raw)/\r=xs.map NL.d/\∀ x∈xs,x.ok I'
theorem zF5:∀ (nest:(List zE)) r,nQ nest=some r->∀ {I:Imm}{p c},(S4 I p nest c)->RT 150 [vS p nest c] I [] (zDm  r):=by
 intro nest r N I p c h;unfold nQ at N;refine yJ func150 fun B=>vR []<|yV<|uD [] zE ?_;intro b hb;have h1:RL I [] (([]:List NL).map NL.raw):=rfl;refine yI [] [3] rfl<|yA<|yG [4] rfl<|xX<|qP [(0,vS p nest c),(3,vS (some ⟨b,0,none⟩) (([]:List NL).map NL.raw) 0),(4,vI 0)] ?_;obtain ⟨o02,ho02,hMl2⟩:=zB N;refine zDH nest ([]:List zE) 0 o02 ho02 (xs:=[]) iR h h1 rfl (fun _ h=>by cases h) (fun _ _ _ h=>h) (fun _ _ h=>h) ?_;intro I1 p2 c2 ay ys le10 ho h3 hok;have:=zC hMl2;simp only [id] at this;subst this;exact zS<|vK [2] rfl<|xC<|xA ⟨_,_,(.tmp rfl ResV.nil),(fun _ g=>g),⟨_,_,_,ys,rfl,rfl,h3,ho,hok⟩⟩
def qC (out:List zE):Option (List zE):=do
 if (decide ((out.length:Int)<=4)) then
  let x<-idx out 0
  let l<-app 48 out ([x]:List zE)
  qC l
 else
  pure (id out)
 partial_fixpoint
def nD (r0:zK) (nest:(List zE)):Option ((List zE)×zK):=do
 let y<-nQ nest
 if ((y.length:Int)==0) then
  pure (y,r0)
 else
  let (y2,y3)<-yX r0 40
  if (y2==0) then
   let x<-idx y 0
   let (y5,y6)<-yX y3 2
   let y7<-nO y5
   let l<-app 32 x.Lo ([y7]:List zA)
   pure (y.set 0 (zE.mk l x.Hi),y6)
  else
   if (y2==1) then
    let x<-idx y (W ((y.length:Int) - 1))
    pure (y.set (W ((y.length:Int) - 1)).toNat (zE.mk x.Lo []),y3)
   else
    if (y2==2) then
     let x<-idx y (W ((y.length:Int) - 1))
     let y7<-wN 1
     let y8<-wN 2
     let l<-app 32 x.Hi ([y7,y8]:List zA)
     pure (y.set (W ((y.length:Int) - 1)).toNat (zE.mk x.Lo l),y3)
    else
     if (y2==3) then
      let y7<-wN 99
      let x<-idx y 0
      pure (y.set 0 (zE.mk x.Lo [y7]),y3)
     else
      if (y2==4) then
       let z<-qC y
       pure (z,y3)
      else
       pure (y,y3)
theorem zCf:∀ (out:List zE) (o:List zE),qC out=some o->∀ {B}{I0 I:Imm}{Q}{K:HA}{p1 c1 cs},I0.le I->RL I cs out->(∀ l a w,¬Q (.goto l) a w)->(∀ a w,¬Q .outgrown a w)->(∀ (I':Imm) (p2:Option Addr) (c2:Nat) (ay:List Value),I0.le I'->RL I' ay o->T 73 B Q (.exit 1) I' [hO zE (vS p2 o c2) ay,K] [(5,vS p2 o c2)])->J Tryz.prog 73 B (nav (bodyOf f135) [1,1,1,1,0,1,0,1,1,1,1,1,1,1,1,1,0,0]) Q I [hO zE (vS p1 out c1) cs,K] [(5,vS p1 out c1)]:=by
 refine qC.partial_correctness _ fun aH ih out o N B I0 I Q K p1 c1 cs H h hg ho hx=>yR hg ho<|yB<|yG [65] rfl<|zI<|yF N ?_ ?_
 · intro hc N;obtain ⟨x,hy,N⟩:=zB N;obtain ⟨l,aA,N⟩:=zB N;refine zT<|xX<|zM<|yC 2 [] [66,67] rfl<|nY 0 rfl rfl rfl h hy ?_;intro ad aK aq bL al;obtain ⟨p3,c3,p4,c4,rfl,h1,h2⟩:=sA al;refine zAn 0 0 aq bL (cLoop x p3 c3 p4 c4) (vA (cLoop x p3 c3 p4 c4)) rfl rfl<|uD (cLoop x p3 c3 p4 c4) zE ?_;intro b2 hb2;have h3:RL I (cLoop x p3 c3 p4 c4) ([x]:List zE):=⟨(cLoop x p3 c3 p4 c4),[],rfl,rfl,rM ⟨_,_,rfl,h1,h2⟩,rfl⟩;exact sC 141 2 1 rfl rfl rfl h (.inr ⟨0,rfl⟩) h3 aA fun p5 c5 bD h5=>yI [] [5] rfl<|zP<|yP<|nX (zEc 0 rfl)<|nN<|ih l _ N H h5 hg ho hx
 intro hc N;have:=zC N;simp only [id] at this;subst this;exact wR<|yL<|hx _ _ _ _ H h
def zAC (b0:Nat) (r:(List zE)×zK):KT:=fun kk I' ah v=>
  ∃ v0 k0,ah=[.blk b0 ⟨k0⟩]/\v=tupV [v0]/\SL I' v0 r.1/\Rp.rep I' k0 r.2
theorem zAs {B:Base}{I:Imm}{out:List zE}{p1 c1 cs}{ar:Nat}{kl:List Value}{y3:zK} (h:RL I cs out) (hk:Rp.rep I kl y3) :
    J Tryz.prog 73 B (nav (bodyOf f135) [1,1,1,1,1]) (QB Tryz.prog f135 B (zAC ar (out,y3))) I [hO zE (vS p1 out c1) cs,hB ar kl] [(5,vS p1 out c1)]:=by
 refine yG [4] rfl<|xC<|yU 0 rfl ?_
 intro I1 af hl
 have h1:=SL.of_frozen hl af h
 exact xA ⟨_,_,(.tmp rfl ResV.nil),(fun _ g=>g),⟨_,_,rfl,rfl,h1,Rp.mono af hk⟩⟩
theorem zLY (xs:List NL):((xs.map NL.d).length:Int)=((xs.map NL.raw).length:Int):=by simp
theorem zMT {p c} (xs:List NL):vS p (xs.map NL.raw) c=vS p (xs.map NL.d) c:=by simp [vS]
theorem eI:∀ r0 nest r,nD r0 nest=some r->∀ {I:Imm}{ar:Nat}{p c p1 c1},(S4 I p r0.b c)->(S4 I p1 nest c1)->RT 135 [vP ar 0,vS p1 nest c1] I [hB ar (cRd r0 p c)] (zAC ar r):=by
 intro r0 nest r N I ar p c p1 c1 h h1;unfold nD at N;refine yJ func135 fun B=>?_;have H:=iS I;obtain ⟨y,hy,N⟩:=zB N;refine yG [0,1] rfl<|yV<|yC 1 [] [7] rfl<|xM (zF5 nest _ hy h1) ?_;rintro I1 aw v2 k2 af - ⟨p2,c2,cs,xs,rfl,rfl,h2,rfl,bZ⟩ -;have h:=h.mono af;clear h1 H;simp only [zLY] at N;refine tO (ah:=hO Raw2 (vS p2 (xs.map NL.raw) c2) cs::hB ar (cRd r0 p c)::NLs xs) (fun w g=>g.perm (List.Perm.cons _ (dh (l₁:=[hB ar (cRd r0 p c)]) (l₂:=NLs xs))))<|yI [] [0,5] rfl<|vK [0,5,6] rfl<|yA<|yG [0,5,6,12] rfl<|zI<|yF N ?_ ?_
 · intro hc N;obtain rfl:=zC N;refine zIC (NLs xs++[hO Raw2 (vS p2 (xs.map NL.raw) c2) cs,hB ar (cRd r0 p c)]) (dh)<|zAp xs bZ ?_;intro I2 aC hfz;have h:=h.mono aC;have h3:=zGT hfz;rw [<- kI h2] at h3;refine yG [4] rfl<|xC<|zH<|yU 0 rfl ?_;intro I3 aD hl;have h4:SL I3 (vS p2 (xs.map NL.raw) c2) (xs.map NL.d):=SL.of_frozen (l:=xs.map NL.d) hl aD h3;exact xA ⟨_,_,(.tmp rfl ResV.nil),(fun _ g=>g),⟨_,_,rfl,rfl,h4,yO ⟨_,rfl,h.mono aD⟩⟩⟩
 intro hc N;obtain ⟨⟨y2,y3⟩,aA,N⟩:=zB N;refine zT<|yA<|yE<|yC 1 [] [14] rfl<|tO (ah:=hB ar (cRd r0 p c)::hO Raw2 (vS p2 (xs.map NL.raw) c2) cs::NLs xs) (fun w g=>g.perm (List.Perm.swap _ _ _))<|tM (xN r0 40 _ aA h) rfl ?_;rintro I2 aw v2 k2 aC - ⟨v0,kk,rfl,rfl,rfl,h3⟩ -;obtain ⟨p3,c3,rfl,h4⟩:=zZ h3;clear h3 h;have h2:=iM aC h2;have bZ:=fun x hx=>(bZ x hx).mono aC;refine yI [] [0,5,6,15] rfl<|xX<|yG [0,5,6,15,16] rfl<|zI<|zIC (NLs xs++[hO Raw2 (vS p2 (xs.map NL.raw) c2) cs,hB ar (cRd y3 p3 c3)]) ((dh).trans (List.Perm.swap _ _ _))<|yF N ?_ ?_
 · intro hc0 N;obtain ⟨x,hx,N⟩:=zB N;obtain ⟨⟨y5,y6⟩,bH,N⟩:=zB N;obtain ⟨y7,hy7,N⟩:=zB N;obtain ⟨l,hl,N⟩:=zB N;obtain ⟨x,hx2,rfl⟩:=zFw hx;have hx:=hx2; clear hx2;refine zLU hx bZ ?_;intro I3 aD hfz;obtain ⟨xlo,xhi⟩:=bZ x (vW hx |>.2.2 |> cM);replace xlo:=iM aD xlo;replace xhi:=iM aD xhi;have ⟨h2,h4⟩:=m2 aD h2 h4;clear bZ;refine rL 0 rfl ?_;intro I4 aW hl4;have khi:=SL.of_frozen hl4 aW xhi;replace xlo:=iM aW xlo;have ⟨h2,h4⟩:=m2 aW h2 h4;have hfz:=fun j y hj hy=>(hfz j y hj hy).mono aW;have hxr:=zBQ (f:=NL.raw) hx;refine qP [(0,vP ar 0),(5,vS p2 (xs.map NL.raw) c2)]<|vC [.p (vS p2 (xs.map NL.raw) c2) [],.p (vS p2 (xs.map NL.raw) c2) [],.x (fun I' v hx'=>∃ ad,v=.pointer (some ad)/\hx'=[]/\AtO (vS p2 (xs.map NL.raw) c2) 2 0 ad),.x (fun I' v hx'=>∃ ad,v=.pointer (some ad)/\hx'=[]/\AtO (vS p2 (xs.map NL.raw) c2) 2 0 ad),.x (fun I' v hx'=>v=x.vl/\hx'=[]),.p (vP ar 0) [],.x (fun I' v hx'=>∃ kk,v=vI y5/\hx'=[hB ar kk]/\Rp.rep I' kk y6),.x (fun I' v hx'=>∃ p5 c5,v=vA (cAff y7 p5 c5)/\hx'=[]/\SL I' (vS p5 y7.Coefs c5) y7.Coefs),.x (fun I' v hx'=>∃ b4,v=vS (some ⟨b4,0,none⟩) ([y7]:List zA) 1/\hx'=[]/\SL I' (vS (some ⟨b4,0,none⟩) ([y7]:List zA) 1) ([y7]:List zA)),.x (fun I' v hx'=>∃ p6 c6 cs6,v=vS p6 l c6/\hx'=[hO zA (vS p6 l c6) cs6]/\RL I' cs6 l)]
     [[],[],[(1,false)],[(2,false)],[(3,false)],[],[(5,false),(13,true)],[(6,false)],[(7,false)],[(4,false),(8,false),(14,true)]]
     [hO Raw2 (vS p2 (xs.map NL.raw) c2) cs] [[hB ar (cRd y3 p3 c3)],[hO zA x.vl x.csl]] [(0,false),(6,true),(9,true)] (zY [1,2,0]) ?_ ?_
   · refine Op<|Op<|Ox ?_<|Ox ?_<|Ox ?_<|Op<|Ox ?_<|Ox ?_<|Ox ?_<|Ox ?_<|On
     · intro I1 hf af;exact yW [19] rfl<|nY 0 rfl rfl rfl (iM af h2) hxr fun ad aK aq bL al=>yQ [] iR ⟨_,rfl,rfl,aq⟩
     · rintro I1 hf af _ _ ⟨ad,rfl,rfl,aq⟩;exact pM<|zAP [(20,.pointer (some ad))]<|oY 4 [(21,.pointer (some ad))]<|yQ [] iR ⟨_,rfl,rfl,aq⟩
     · rintro I1 hf af _ _ ⟨ad,rfl,rfl,aq⟩;refine yW [21] rfl ?_;have al:=h2.at (i:=0) (vW hxr).2.2;obtain ⟨⟨bL,o1,o2⟩,_⟩:=al;exact zAn 0 0 aq bL [x.vl] x.vl rfl rfl<|xE iR
     · rintro I1 hf af _ _ ⟨rfl,rfl⟩ _ _ rfl;refine yW [23] rfl<|tM (xN y3 2 _ bH (h4.mono af)) rfl ?_;rintro aU aw v2 k2 aC - ⟨v0,kk,rfl,rfl,rfl,h5⟩ -;exact yQ [hB ar kk] aC ⟨_,rfl,rfl,h5⟩
     · rintro I1 hf af _ _ ⟨kk,rfl,rfl,h5⟩;refine yW [24] rfl<|xM (gU y5 _ hy7) ?_;rintro aU aw v2 k2 aC - ⟨v0,rfl,rfl,⟨aQ,rfl,h6⟩⟩ -;obtain ⟨p5,c5,rfl,h7⟩:=yM h6;exact yQ [] aC ⟨_,_,rfl,rfl,h7⟩
     · rintro I1 hf af _ _ ⟨p5,c5,rfl,rfl,h7⟩;refine yW [25] rfl<|uD (cAff y7 p5 c5) zA ?_;intro b4 hb4;have h15:RL I1 (cAff y7 p5 c5) ([y7]:List zA):=⟨(cAff y7 p5 c5),_,rfl,rfl,(yK ⟨_,rfl,h7⟩),rfl⟩;exact xF 0 rfl fun aT le01 hl01=>yQ [] le01 ⟨_,rfl,rfl,SL.of_frozen hl01 le01 h15⟩
     rintro I1 hf af _ _ ⟨rfl,rfl⟩ _ _ ⟨b4,rfl,rfl,h16⟩ _ _ rfl;refine yW [22,26] rfl ?_;obtain ⟨ccs4,k03,k04⟩:=h16;exact sC 95 2 0 rfl rfl rfl (iM af xlo) (.inl k03) k04 hl fun aN aZ bD h17=>wE (ah:=(hO zA (vS aN l aZ) bD::hO Raw2 (vS p2 (xs.map NL.raw) c2) cs::hf)) rfl<|yQ [hO zA (vS aN l aZ) bD] iR ⟨_,_,_,rfl,rfl,h17⟩
   rintro I5 bt _ _ ⟨rfl,rfl⟩ _ _ ⟨kk,rfl,rfl,h5⟩ _ _ ⟨p6,c6,cs6,rfl,rfl,h6⟩;have h2:=iM bt h2;refine yW [5,18,27] rfl<|nY 2 rfl rfl rfl h2 hxr ?_;intro ad aK aq bL al;obtain ⟨rfl,o1,o2⟩:=al;refine yC 12 [] [29] rfl<|qB (c:=[vS p6 l c6,x.vh]) (x':=(⟨vS p6 l c6,x.vh⟩:Raw2)) 2 0 rfl rfl rfl aq rfl rfl bL (by kernel_rfl) (by kernel_rfl) (by kernel_rfl) h2 hxr (by kernel_rfl) ⟨rfl,rfl,rfl⟩ fun cs7 h7 bh=>wE (ah:=[hO zA (vS p6 l c6) cs6,hB ar kk,hO Raw2 (vS p2 (xs.map NL.raw) c2) cs7]) rfl<|xF 0 rfl ?_;intro I6 bv hl6;have klo:=SL.of_frozen hl6 bv h6;have hpw:=zID (r:=⟨vS p6 l c6,x.vh⟩) (d:=⟨l,x.hi⟩) (fun j y hj hy=>((hfz j y hj hy).mono bt).mono bv) ⟨klo,(khi.mono bt).mono bv⟩;have h8:=hpw.rl;have e8:=kI h7;obtain rfl:=zC N;have eL:vS p2 (xs.map NL.raw) c2=vS p2 ((xs.map NL.d).set 0 (⟨l,x.hi⟩:zE)) c2:=by simp [vS]
   rw [show (0:Int).toNat=0 from rfl] at e8 h8;rw [<- e8] at h8;rw [eL];exact tO (zY [1,0] (ah:=[hO zE (vS p2 ((xs.map NL.d).set 0 (⟨l,x.hi⟩:zE)) c2) cs7,hB ar kk]))<|yI [] [5] rfl<|zP<|zI<|qP [(5,vS p2 ((xs.map NL.d).set 0 (⟨l,x.hi⟩:zE)) c2)]<|zAs h8 (Rp.mono bv h5)
 intro hc0 N;refine yG [0,5,6,15,30] rfl<|zI<|yF N ?_ ?_
 · intro aE N;obtain ⟨x,hx,N⟩:=zB N;obtain ⟨x,hx2,rfl⟩:=zFw hx;have hx:=hx2; clear hx2;have hxr:=zBQ (f:=NL.raw) hx;refine zAp xs bZ ?_;intro I3 aD hfz;obtain ⟨flo,fhi⟩:=hfz x (cM (vW hx).2.2);have ⟨h2,h4⟩:=m2 aD h2 h4;refine zM<|yC 3 [] [32,34] rfl<|nY 0 rfl rfl rfl h2 hxr ?_;intro ad aK aq bL al;obtain ⟨rfl,o1,o2⟩:=al;refine yC 5 [] [36] rfl<|qB (c:=[x.vl,z0]) (x':=(⟨x.vl,z0⟩:Raw2)) 0 1 rfl rfl rfl aq rfl rfl bL (by kernel_rfl) (by kernel_rfl) (by kernel_rfl) h2 hxr (by kernel_rfl) ⟨rfl,rfl,rfl⟩ ?_;intro cs7 h7 bh;have hpw:=zID (k:=(W (((xs.map NL.raw).length:Int) - 1)).toNat) (r:=⟨x.vl,z0⟩) (d:=⟨x.lo,[]⟩) (fun j y hj hy=>hfz y (cM hy)) ⟨flo,SL.nil _⟩;have h8:=hpw.rl;rw [<- kI h7] at h8;obtain rfl:=zC N;have eL:vS p2 (xs.map NL.raw) c2=vS p2 ((xs.map NL.d).set (W (((xs.map NL.raw).length:Int) - 1)).toNat (⟨x.lo,[]⟩:zE)) c2:=by simp only [vS,cR,dd]
   rw [eL];exact wE (ah:=[hO zE (vS p2 ((xs.map NL.d).set (W (((xs.map NL.raw).length:Int) - 1)).toNat (⟨x.lo,[]⟩:zE)) c2) cs7,hB ar (cRd y3 p3 c3)]) rfl<|yI [] [5] rfl<|zP<|zI<|qP [(5,vS p2 ((xs.map NL.d).set (W (((xs.map NL.raw).length:Int) - 1)).toNat (⟨x.lo,[]⟩:zE)) c2)]<|zAs h8 (yO ⟨_,rfl,h4⟩)
 intro aE N;refine yG [0,5,6,15,37] rfl<|zI<|yF N ?_ ?_
 · intro aY N;obtain ⟨x,hx,N⟩:=zB N;obtain ⟨y7,hy7,N⟩:=zB N;obtain ⟨y8,hy8,N⟩:=zB N;obtain ⟨l,hl,N⟩:=zB N;obtain ⟨x,hx2,rfl⟩:=zFw hx;have hx:=hx2; clear hx2;refine zLU hx bZ ?_;intro I3 aD hfz;obtain ⟨xlo,xhi⟩:=bZ x (vW hx |>.2.2 |> cM);replace xlo:=iM aD xlo;replace xhi:=iM aD xhi;have ⟨h2,h4⟩:=m2 aD h2 h4;clear bZ;refine rL 1 rfl ?_;intro I4 aW hl4;have klo:=SL.of_frozen hl4 aW xlo;replace xhi:=iM aW xhi;have ⟨h2,h4⟩:=m2 aW h2 h4;have hfz:=fun j y hj hy=>(hfz j y hj hy).mono aW;have hxr:=zBQ (f:=NL.raw) hx;refine qP [(5,vS p2 (xs.map NL.raw) c2),(6,vI ((xs.map NL.raw).length:Int))]<|vC [.p (vS p2 (xs.map NL.raw) c2) [],.p (vI ((xs.map NL.raw).length:Int)) [],.p (vI (W (((xs.map NL.raw).length:Int) - 1))) [],.p (vS p2 (xs.map NL.raw) c2) [],.p (vI ((xs.map NL.raw).length:Int)) [],.p (vI (W (((xs.map NL.raw).length:Int) - 1))) [],.x (fun I' v hx'=>∃ ad,v=.pointer (some ad)/\hx'=[]/\AtO (vS p2 (xs.map NL.raw) c2) 2 (W (((xs.map NL.raw).length:Int) - 1)).toNat ad),.x (fun I' v hx'=>∃ ad,v=.pointer (some (ad.add 1))/\hx'=[]/\AtO (vS p2 (xs.map NL.raw) c2) 2 (W (((xs.map NL.raw).length:Int) - 1)).toNat ad),.x (fun I' v hx'=>v=x.vh/\hx'=[]),.x (fun I' v hx'=>∃ p5 c5,v=vA (cAff y7 p5 c5)/\hx'=[]/\SL I' (vS p5 y7.Coefs c5) y7.Coefs),.x (fun I' v hx'=>∃ p5 c5,v=vA (cAff y8 p5 c5)/\hx'=[]/\SL I' (vS p5 y8.Coefs c5) y8.Coefs),.x (fun I' v hx'=>∃ b4,v=vS (some ⟨b4,0,none⟩) ([y7,y8]:List zA) 2/\hx'=[]/\SL I' (vS (some ⟨b4,0,none⟩) ([y7,y8]:List zA) 2) ([y7,y8]:List zA)),.x (fun I' v hx'=>∃ p6 c6 cs6,v=vS p6 l c6/\hx'=[hO zA (vS p6 l c6) cs6]/\RL I' cs6 l)]
     [[],[],[(1,false)],[],[],[(4,false)],[(3,false),(5,false)],[(6,false)],[(7,false)],[],[],[(9,false),(10,false)],[(8,false),(11,false),(16,true)]]
     [hO Raw2 (vS p2 (xs.map NL.raw) c2) cs,hB ar (cRd y3 p3 c3)] [[hO zA x.vh x.csh]] [(0,false),(2,false),(12,true)] (zY [1,2,0]) ?_ ?_
   · refine Op<|Op<|Op<|Op<|Op<|Op<|Ox ?_<|Ox ?_<|Ox ?_<|Ox ?_<|Ox ?_<|Ox ?_<|Ox ?_<|On
     · intro I1 hf af;exact yW [42,44] rfl<|nY 0 rfl rfl rfl (iM af h2) hxr fun ad aK aq bL al=>yQ [] iR ⟨_,rfl,rfl,aq⟩
     · rintro I1 hf af _ _ ⟨ad,rfl,rfl,aq⟩;exact pM<|zAP [(45,.pointer (some ad))]<|oY 8 [(46,.pointer (some (ad.add 1)))]<|yQ [] iR ⟨_,rfl,rfl,aq⟩
     · rintro I1 hf af _ _ ⟨ad,rfl,rfl,aq⟩;refine yW [46] rfl ?_;have al:=h2.at (vW hxr).2.2;obtain ⟨⟨bL,o1,o2⟩,_⟩:=al;exact zAn 0 1 aq bL [x.vh] x.vh rfl rfl<|xE iR
     · intro I1 hf af;refine dC []<|xM (uJ 1 _ hy7) ?_;rintro aU aw v2 k2 aC - ⟨p5,c5,bD,rfl,rfl,h5⟩ -;exact xF 0 rfl fun bC aD hl3=>zFX (hx:=[]) rfl (aC.trans aD) rfl (zGI rfl) ⟨_,_,rfl,rfl,SL.of_frozen hl3 aD h5⟩
     · intro I1 hf af;refine dC []<|xM (uJ 2 _ hy8) ?_;rintro aU aw v2 k2 aC - ⟨p5,c5,bD,rfl,rfl,h5⟩ -;exact xF 0 rfl fun bC aD hl3=>zFX (hx:=[]) rfl (aC.trans aD) rfl (zGI rfl) ⟨_,_,rfl,rfl,SL.of_frozen hl3 aD h5⟩
     · rintro I1 hf af _ _ ⟨p5,c5,rfl,rfl,h7⟩ _ _ ⟨p6,c6,rfl,rfl,h8⟩;refine yW [48,49] rfl<|uD [vS p5 y7.Coefs c5,vI y7.Const,vS p6 y8.Coefs c6,vI y8.Const] zA ?_;intro b4 hb4;have h15:RL I1 [vS p5 y7.Coefs c5,vI y7.Const,vS p6 y8.Coefs c6,vI y8.Const] ([y7,y8]:List zA):=⟨(cAff y7 p5 c5),_,rfl,rfl,(yK ⟨_,rfl,h7⟩),⟨(cAff y8 p6 c6),_,rfl,rfl,(yK ⟨_,rfl,h8⟩),rfl⟩⟩;exact xF 0 rfl fun aT le01 hl01=>yQ [] le01 ⟨_,rfl,rfl,SL.of_frozen hl01 le01 h15⟩
     rintro I1 hf af _ _ ⟨rfl,rfl⟩ _ _ ⟨b4,rfl,rfl,h16⟩ _ _ rfl;refine yW [47,50] rfl ?_;obtain ⟨ccs4,k03,k04⟩:=h16;exact sC 95 2 0 rfl rfl rfl (iM af xhi) (.inl k03) k04 hl fun aN aZ bD h17=>wE (ah:=(hO zA (vS aN l aZ) bD::hO Raw2 (vS p2 (xs.map NL.raw) c2) cs::hB ar (cRd y3 p3 c3)::hf)) rfl<|yQ [hO zA (vS aN l aZ) bD] iR ⟨_,_,_,rfl,rfl,h17⟩
   rintro I5 bt _ _ ⟨rfl,rfl⟩ _ _ ⟨rfl,rfl⟩ _ _ ⟨p6,c6,cs6,rfl,rfl,h6⟩;have h2:=iM bt h2;refine yW [5,39,41,51] rfl<|nY 1 rfl rfl rfl h2 hxr ?_;intro ad aK aq bL al;obtain ⟨rfl,o1,o2⟩:=al;refine yC 15 [] [53] rfl<|qB (c:=[x.vl,vS p6 l c6]) (x':=(⟨x.vl,vS p6 l c6⟩:Raw2)) 1 1 rfl rfl rfl aq rfl rfl bL (by kernel_rfl) (by kernel_rfl) (by kernel_rfl) h2 hxr (by kernel_rfl) ⟨rfl,rfl,rfl⟩ fun cs7 h7 bh=>wE (ah:=[hO zA (vS p6 l c6) cs6,hO Raw2 (vS p2 (xs.map NL.raw) c2) cs7,hB ar (cRd y3 p3 c3)]) rfl<|xF 0 rfl ?_;intro I6 bv hl6;have khi:=SL.of_frozen hl6 bv h6;have hpw:=zID (k:=(W (((xs.map NL.raw).length:Int) - 1)).toNat) (r:=⟨x.vl,vS p6 l c6⟩) (d:=⟨x.lo,l⟩) (fun j y hj hy=>((hfz j y hj hy).mono bt).mono bv) ⟨(klo.mono bt).mono bv,khi⟩;have h8:=hpw.rl;rw [<- kI h7] at h8;obtain rfl:=zC N;have eL:vS p2 (xs.map NL.raw) c2=vS p2 ((xs.map NL.d).set (W (((xs.map NL.raw).length:Int) - 1)).toNat (⟨x.lo,l⟩:zE)) c2:=by simp only [vS,cR,dd]
   rw [eL];exact wE (ah:=[hO zE (vS p2 ((xs.map NL.d).set (W (((xs.map NL.raw).length:Int) - 1)).toNat (⟨x.lo,l⟩:zE)) c2) cs7,hB ar (cRd y3 p3 c3)]) rfl<|yI [] [5] rfl<|zP<|zI<|qP [(5,vS p2 ((xs.map NL.d).set (W (((xs.map NL.raw).length:Int) - 1)).toNat (⟨x.lo,l⟩:zE)) c2)]<|zAs h8 (yO ⟨_,rfl,(h4.mono bt).mono bv⟩)
 intro aY N;refine zAp xs bZ ?_;intro I3 aD hfz;have ⟨h2,h4⟩:=m2 aD h2 h4;clear bZ;refine yG [0,5,6,15,54] rfl<|zI<|yF N ?_ ?_
 · intro bG N;obtain ⟨y7,hy7,N⟩:=zB N;obtain ⟨x,hx,N⟩:=zB N;obtain ⟨x,hx2,rfl⟩:=zFw hx;have hx:=hx2; clear hx2;have hxr:=zBQ (f:=NL.raw) hx;refine zM<|yC 1 [] [56] rfl<|xM (uJ 99 _ hy7) ?_;rintro I4 aw v2 k2 aW - ⟨p5,c5,bD,rfl,rfl,h5⟩ -;refine xF 0 rfl ?_;intro I5 bt hl5;have h7:=SL.of_frozen hl5 bt h5;refine uD (cAff y7 p5 c5) zA ?_;intro b4 hb4;have h15:RL I5 (cAff y7 p5 c5) ([y7]:List zA):=⟨(cAff y7 p5 c5),_,rfl,rfl,(yK ⟨_,rfl,h7⟩),rfl⟩;refine xF 0 rfl ?_;intro I6 bv hl6;have khi:SL I6 (vS (some ⟨b4,0,none⟩) ([y7]:List zA) 1) [y7]:=SL.of_frozen hl6 bv h15;have le:=(aW.trans bt).trans bv;have ⟨h2,h4⟩:=m2 le h2 h4;have hfz:=fun x hx=>(hfz x hx).mono le;obtain ⟨flo,fhi⟩:=hfz x (cM (vW hx).2.2);refine nY 0 rfl rfl rfl h2 hxr ?_;intro ad aK aq bL al;obtain ⟨rfl,o1,o2⟩:=al;refine yC 5 [] [60] rfl<|qB (c:=[x.vl,vS (some ⟨b4,0,none⟩) ([y7]:List zA) 1]) (x':=(⟨x.vl,vS (some ⟨b4,0,none⟩) ([y7]:List zA) 1⟩:Raw2)) 0 1 rfl rfl rfl aq rfl rfl bL (by kernel_rfl) (by kernel_rfl) (by kernel_rfl) h2 hxr (by kernel_rfl) ⟨rfl,rfl,rfl⟩ ?_;intro cs7 h7 bh;have hpw:=zID (k:=0) (r:=⟨x.vl,vS (some ⟨b4,0,none⟩) ([y7]:List zA) 1⟩) (d:=⟨x.lo,[y7]⟩) (fun j y hj hy=>hfz y (cM hy)) ⟨flo,khi⟩;have h8:=hpw.rl;have e8:=kI h7;rw [show (0:Int).toNat=0 from rfl] at e8;rw [<- e8] at h8;obtain rfl:=zC N;have eL:vS p2 (xs.map NL.raw) c2=vS p2 ((xs.map NL.d).set 0 (⟨x.lo,[y7]⟩:zE)) c2:=by simp only [vS,cR,dd]
   rw [eL];exact wE (ah:=[hO zE (vS p2 ((xs.map NL.d).set 0 (⟨x.lo,[y7]⟩:zE)) c2) cs7,hB ar (cRd y3 p3 c3)]) rfl<|yI [] [5] rfl<|zP<|zI<|qP [(5,vS p2 ((xs.map NL.d).set 0 (⟨x.lo,[y7]⟩:zE)) c2)]<|zAs h8 (yO ⟨_,rfl,h4⟩)
 intro bG N;have h8:=zGT hfz;rw [<- kI h2] at h8;rw [zMT];refine yG [0,5,15,61] rfl<|zI<|yF N ?_ ?_
 · intro bM N;obtain ⟨z,hz,N⟩:=zB N;obtain rfl:=zC N;exact yH<|qP [(5,vS p2 (xs.map NL.d) c2)]<|zCf (xs.map NL.d) z hz iR h8 (fun _ _ _ h=>h) (fun _ _ h=>h) fun I4 p6 c6 cs6 aW h9=>zS<|zP<|zI<|qP [(5,vS p6 z c6)]<|zAs h9 (yO ⟨_,rfl,h4.mono aW⟩)
 intro bM N;obtain rfl:=zC N;exact zT<|zP<|zI<|qP [(5,vS p2 (xs.map NL.d) c2)]<|zAs h8 (yO ⟨_,rfl,h4⟩)
def zDI (b0:Nat) (r:zO×zK):KT:=fun kk I' ah v=>
  ∃ v0 k0,ah=[.blk b0 ⟨k0⟩]/\v=tupV [v0]/\(∃ cs,v0=.agg ⟨cs⟩/\Rp.rep I' cs r.1)/\Rp.rep I' k0 r.2
def sJ (r0:zK) (s:zO):Option (zO×zK):=do
 let y<-jO s
 let (y2,y3)<-yX r0 40
 let (WriteArray,WriteSubs,ValueKind,ValueNum,ValueKids,x)<-(do
   if (y2==0) then
    let (y5,y6)<-pH y3 ([(⟨[69]⟩:Str),(⟨[]⟩:Str),(⟨[65,66]⟩:Str),(⟨[97]⟩:Str)]:List Str)
    pure (y5,y.Write.Subs,y.Value.Kind,y.Value.Num,y.Value.Kids,y6)
   else
    let (WriteSubs1,ValueKind1,ValueNum1,ValueKids1,x1)<-(do
      if (y2==1) then
       let y7<-nO 3
       let y8<-oO
       let l<-app 32 y.Write.Subs ([y7,y8]:List zA)
       pure (l,y.Value.Kind,y.Value.Num,y.Value.Kids,y3)
      else
       let (ValueKind2,ValueNum2,ValueKids2,x2)<-(do
         if (y2==2) then
          let (y10,y11)<-yN y3 ([0,7,1,4,2]:List Int)
          pure (y10,y.Value.Num,y.Value.Kids,y11)
         else
          let (ValueNum3,ValueKids3,x3)<-(do
            if (y2==3) then
             let (y13,y14)<-yN y3 ([100,(-1),1]:List Int)
             pure (y13,y.Value.Kids,y14)
            else
             let ValueKids4<-(do
               if (y2==4) then
                let l1<-app 112 y.Value.Kids ([(zG.mk 1 0 (zA.mk ([]:List Int) 0) (zJ.mk (⟨[]⟩:Str) ([]:List zA)) ([]:List zG))]:List zG)
                pure (id l1)
               else
                pure y.Value.Kids
                 : Option (List zG))
             pure (y.Value.Num,ValueKids4,y3)
              : Option (Int×List zG×zK))
          pure (y.Value.Kind,ValueNum3,ValueKids3,x3)
           : Option (Int×Int×List zG×zK))
       pure (y.Write.Subs,ValueKind2,ValueNum2,ValueKids2,x2)
        : Option (List zA×Int×Int×List zG×zK))
    pure (y.Write.Array,WriteSubs1,ValueKind1,ValueNum1,ValueKids1,x1)
     : Option (Str×List zA×Int×Int×List zG×zK))
 pure ((zO.mk (zJ.mk WriteArray WriteSubs) (zG.mk ValueKind ValueNum y.Value.Index y.Value.Read ValueKids)),x)
theorem eJ:∀ r0 s r,sJ r0 s=some r->∀ {I:Imm}{ar:Nat}{p c p1 c1 p2 c2 p3 c3 p4 c4},(S4 I p r0.b c)->(S4 I p1 s.Write.Subs c1)->(S4 I p2 s.Value.Index.Coefs c2)->(S4 I p3 s.Value.Read.Subs c3)->(S4 I p4 s.Value.Kids c4)->RT 136 [vP ar 0,vA (cStmt s p1 c1 p2 c2 p3 c3 p4 c4)] I [hB ar (cRd r0 p c)] (zDI ar r):=by
 intro r0 s r N I ar p c p1 c1 p2 c2 p3 c3 p4 c4 h h1 h2 h3 h4;unfold sJ at N;refine yJ func136 fun B=>?_;have H:=iS I;refine yE<|tW (cStmt s p1 c1 p2 c2 p3 c3 p4 c4) ?_;intro b hb;refine wL [vT ([]),z0,vI 0,vI 0,z0,vI 0,vT ([]),z0,z0] ?_;intro b1 hb1;refine yD rfl<|yV<|rY 1 [1] [(6,vA (cStmt s p1 c1 p2 c2 p3 c3 p4 c4))]<|bE N fun y hy N=>xM (zBx s _ hy h1 h2 h3 h4) ?_;rintro I0 aw v2 k2 le - ⟨p5,c5,cs,p6,c6,p7,c7,p8,c8,ay,rfl,rfl,h5,h6,h7,h8⟩ -;have ⟨h,H⟩:=m2 le h H;refine wL [vT ([]),z0,vI 0,vI 0,z0,vI 0,vT ([]),z0,z0] ?_;intro b2 hb2;refine xH 0 (cStmt y p5 c5 p6 c6 p7 c7 p8 c8) rfl<|yD rfl<|yA<|yE<|yC 1 [] [8] rfl<|tO (zY [5,0,1,2,3,4] (ah:=[hB ar (cRd r0 p c),hB b2 (cStmt y p5 c5 p6 c6 p7 c7 p8 c8),hO zA (vS p5 y.Write.Subs c5) cs,hO zG (vS p8 y.Value.Kids c8) ay,hB b1 [vT ([]),z0,vI 0,vI 0,z0,vI 0,vT ([]),z0,z0],hB b (cStmt s p1 c1 p2 c2 p3 c3 p4 c4)])) ?_;obtain ⟨⟨y2,y3⟩,aA,N⟩:=zB N;refine tM (xN r0 40 _ aA h) rfl ?_;rintro aT aw v2 k2 af - ⟨v0,kk,rfl,rfl,rfl,h10⟩ -;have ⟨h5,h6,h7,h8,H⟩:=m5 af h5 h6 h7 h8 H;obtain ⟨p9,c9,rfl,h11⟩:=zZ h10;refine yD rfl<|xX<|yG [10] rfl<|zI<|rL 5 rfl ?_;intro aU aC hl0;have aq:At aU ⟨b,0,none⟩ (cStmt s p1 c1 p2 c2 p3 c3 p4 c4):=At.of_blk hl0;have ⟨h11,h5,h6,h7,h8,H⟩:=m6 aC h11 h5 h6 h7 h8 H;obtain ⟨o0,aB,aS⟩:=zB N;refine qR (fun I' ah m'=>∃ (WriteArray:Str) (WriteSubs:List zA) (ValueKind:Int) (ValueNum:Int) (ValueKids:List zG) (x:zK) (aV:Option Addr) (bc:Nat) (aQ:List Value) (aN:Option Addr) (aZ:Nat) (aR:List Value) (bB:Option Addr) (bk:Nat),o0=(WriteArray,WriteSubs,ValueKind,ValueNum,ValueKids,x)/\aU.le I'/\(RL I' aQ WriteSubs)/\(RL I' aR ValueKids)/\(S4 I' bB x.b bk)/\ah=[hB ar (cRd x bB bk),hB b2 [vT WriteArray.l,vS aV WriteSubs bc,vI ValueKind,vI ValueNum,vS p6 y.Value.Index.Coefs c6,vI y.Value.Index.Const,vT y.Value.Read.Array.l,vS p7 y.Value.Read.Subs c7,vS aN ValueKids aZ],hO zA (vS aV WriteSubs bc) aQ,hO zG (vS aN ValueKids aZ) aR,hB b1 [vT ([]),z0,vI 0,vI 0,z0,vI 0,vT ([]),z0,z0]]/\m'=[(4,vP b1 0),(5,vP b2 0)]) ?_ ?_
 · have H:=iS aU;refine yF aB ?_ ?_
   · intro hc N;refine zM<|yC 1 [] [12] rfl<|nC (rT [(⟨[69]⟩:Str),(⟨[]⟩:Str),(⟨[65,66]⟩:Str),(⟨[97]⟩:Str)]) ?_;intro b3 bJ aD h16;have ⟨h11,h5,h8,H⟩:=m4 aD h11 h5 h8 H;obtain ⟨⟨y5,y6⟩,aJ,N⟩:=zB N;refine tM (gO y3 ([(⟨[69]⟩:Str),(⟨[]⟩:Str),(⟨[65,66]⟩:Str),(⟨[97]⟩:Str)]:List Str) _ aJ h11 h16) rfl ?_;rintro bN aw v2 k2 aW - ⟨v02,kk1,rfl,rfl,rfl,h18⟩ -;have ⟨h5,h8,H⟩:=m3 aW h5 h8 H;obtain ⟨bj,bo,rfl,h19⟩:=zZ h18;exact yC 5 [] [16] rfl<|xH 1 [vT y5.l,vS p5 y.Write.Subs c5,vI y.Value.Kind,vI y.Value.Num,vS p6 y.Value.Index.Coefs c6,vI y.Value.Index.Const,vT y.Value.Read.Array.l,vS p7 y.Value.Read.Subs c7,vS p8 y.Value.Kids c8] rfl<|yD rfl<|yL<|zU ⟨_,_,_,_,_,_,_,_,_,_,_,_,_,_,(zC N).symm,H,h5,h8,h19,rfl,rfl⟩
   intro hc N;refine yG [17] rfl<|zI ?_;obtain ⟨aM,az,hMc1⟩:=zB N;refine qR (fun I' ah m'=>∃ (WriteSubs1:List zA) (ValueKind1:Int) (ValueNum1:Int) (ValueKids1:List zG) (x1:zK) (p14:Option Addr) (c14:Nat) (bz:List Value) (p15:Option Addr) (c15:Nat) (bD:List Value) (p16:Option Addr) (c16:Nat),aM=(WriteSubs1,ValueKind1,ValueNum1,ValueKids1,x1)/\aU.le I'/\(RL I' bz WriteSubs1)/\(RL I' bD ValueKids1)/\(S4 I' p16 x1.b c16)/\ah=[hB ar (cRd x1 p16 c16),hB b2 [vT y.Write.Array.l,vS p14 WriteSubs1 c14,vI ValueKind1,vI ValueNum1,vS p6 y.Value.Index.Coefs c6,vI y.Value.Index.Const,vT y.Value.Read.Array.l,vS p7 y.Value.Read.Subs c7,vS p15 ValueKids1 c15],hO zA (vS p14 WriteSubs1 c14) bz,hO zG (vS p15 ValueKids1 c15) bD,hB b1 [vT ([]),z0,vI 0,vI 0,z0,vI 0,vT ([]),z0,z0]]/\m'=[(4,vP b1 0),(5,vP b2 0)]) ?_ ?_
   · have H:=iS aU;refine yF az ?_ ?_
     · intro aE N;obtain ⟨y7,bf,N⟩:=zB N;obtain ⟨y8,bw,N⟩:=zB N;obtain ⟨l,bH,N⟩:=zB N;refine vC [.p (vP b2 0) [],.p (vP b2 1) [],.p (vS p5 y.Write.Subs c5) [1],.x (eVAff y7),.x (fun I' v hx=>∃ p18 c18 cs7,v=vA (cAff y8 p18 c18)/\hx=[hO Int (vS p18 y8.Coefs c18) cs7]/\(RL I' cs7 y8.Coefs)),.x (fun I' v hx=>∃ b4,v=vS (some ⟨b4,0,none⟩) ([y7,y8]:List zA) 2/\hx=[]/\(SL I' (vS (some ⟨b4,0,none⟩) ([y7,y8]:List zA) 2) ([y7,y8]:List zA))),.x (fun I' v hx=>∃ p19 c19 cs8,v=vS p19 l c19/\hx=[hO zA (vS p19 l c19) cs8]/\(RL I' cs8 l))] [[],[(0,false)],[(1,false)],[],[],[(3,false),(4,true)],[(2,false),(5,false),(10,true)]] [hB ar (cRd y3 p9 c9),hB b2 (cStmt y p5 c5 p6 c6 p7 c7 p8 c8),hO zG (vS p8 y.Value.Kids c8) ay,hB b1 [vT ([]),z0,vI 0,vI 0,z0,vI 0,vT ([]),z0,z0]] [[hO zA (vS p5 y.Write.Subs c5) cs]] [(6,true)] (zY [0,1,3,4,2]) ?_ ?_
       · refine Op<|Op<|Op<|Ox ?_<|Ox ?_<|Ox ?_<|Ox ?_<|On
         · intro I1 hf af;refine dC [] ?_;have H:=iS I1;refine xM (gU 3 _ bf ) ?_;rintro I07 aw v2 k2 bt - ⟨v04,rfl,rfl,⟨cs6,rfl,h23⟩⟩ -;have H:=H.trans bt;obtain ⟨p17,c17,rfl,h24⟩:=yM h23;exact yQ [] H ⟨_,_,rfl,rfl,h24⟩
         · intro I1 hf af;refine dC [] ?_;have H:=iS I1;refine xM (kJ  _ bw ) ?_;rintro I08 aw v2 k2 bv - ⟨p18,c18,cs7,rfl,rfl,h25⟩ -;have H:=H.trans bv;exact yQ [hO Int (vS p18 y8.Coefs c18) cs7] H ⟨_,_,_,rfl,rfl,h25⟩
         · rintro I1 hf af _ _ ⟨p17,c17,rfl,rfl,h24⟩ _ _ ⟨p18,c18,cs7,rfl,rfl,h25⟩;refine yW [22,23] rfl ?_;have H:=iS I1;refine xF 0 rfl ?_;intro I09 le7 hl02;have h26:=SL.of_frozen hl02 le7 h25;have ⟨h24,H⟩:=m2 le7 h24 H;refine nC (rc y7 (yK ⟨_,rfl,h24⟩) (rc y8 (yK ⟨_,rfl,h26⟩) rN)) ?_;intro b4 bP le8 h28;have H:=H.trans le8;exact yQ [] H ⟨_,rfl,rfl,h28⟩
         rintro I1 hf af _ _ ⟨rfl,rfl⟩ _ _ ⟨b4,rfl,rfl,h28⟩ _ _ rfl;refine yW [21,24] rfl ?_;have h5:=iM af h5;obtain ⟨aK,k0,k01⟩:=h28;have h28:SL I1 (vS (some ⟨b4,0,none⟩) ([y7,y8]:List zA) 2) ([y7,y8]:List zA):=⟨_,k0,k01⟩;exact sC 95 2 0 rfl rfl rfl h5 (.inl k0) k01 bH fun p19 c19 cs8 h29=>wE (ah:=(hO zA (vS p19 l c19) cs8::hB ar (cRd y3 p9 c9)::hB b2 (cStmt y p5 c5 p6 c6 p7 c7 p8 c8)::hO zG (vS p8 y.Value.Kids c8) ay::hB b1 [vT ([]),z0,vI 0,vI 0,z0,vI 0,vT ([]),z0,z0]::hf)) rfl<|yQ [hO zA (vS p19 l c19) cs8] iR ⟨_,_,_,rfl,rfl,h29⟩
       rintro bV le9 _ _ ⟨p19,c19,cs8,rfl,rfl,h29⟩;refine yW [4,5,25] rfl ?_;have ⟨h11,h8,H⟩:=m3 le9 h11 h8 H;exact yC 9 [] [27] rfl<|xH 2 [vT y.Write.Array.l,vS p19 l c19,vI y.Value.Kind,vI y.Value.Num,vS p6 y.Value.Index.Coefs c6,vI y.Value.Index.Const,vT y.Value.Read.Array.l,vS p7 y.Value.Read.Subs c7,vS p8 y.Value.Kids c8] rfl<|yD rfl<|xQ (zX [1,2,0,3,4] rfl (by decide))<|yL<|zU ⟨_,_,_,_,_,_,_,_,_,_,_,_,_,(zC N).symm,H,h29,h8,h11,rfl,rfl⟩
     intro aE N;refine yG [28] rfl<|zI ?_;obtain ⟨o02,ho02,hMc2⟩:=zB N;refine qR (fun I' ah m'=>∃ (ValueKind2:Int) (ValueNum2:Int) (ValueKids2:List zG) (x2:zK) (p20:Option Addr) (c20:Nat) (cs9:List Value) (p21:Option Addr) (c21:Nat),o02=(ValueKind2,ValueNum2,ValueKids2,x2)/\aU.le I'/\(RL I' cs9 ValueKids2)/\(S4 I' p21 x2.b c21)/\ah=[hB ar (cRd x2 p21 c21),hB b2 [vT y.Write.Array.l,vS p5 y.Write.Subs c5,vI ValueKind2,vI ValueNum2,vS p6 y.Value.Index.Coefs c6,vI y.Value.Index.Const,vT y.Value.Read.Array.l,vS p7 y.Value.Read.Subs c7,vS p20 ValueKids2 c20],hO zA (vS p5 y.Write.Subs c5) cs,hO zG (vS p20 ValueKids2 c20) cs9,hB b1 [vT ([]),z0,vI 0,vI 0,z0,vI 0,vT ([]),z0,z0]]/\m'=[(4,vP b1 0),(5,vP b2 0)]) ?_ ?_
     · have H:=iS aU;refine yF ho02 ?_ ?_
       · intro aY N;refine zM<|yC 1 [] [30] rfl<|nC (rI [0,7,1,4,2]) ?_;intro b5 I013 le10 h33;have ⟨h11,h8,H⟩:=m3 le10 h11 h8 H;obtain ⟨⟨y10,y11⟩,hy6,N⟩:=zB N;refine tM (yT y3 ([0,7,1,4,2]:List Int) _ hy6 h11 h33) rfl ?_;rintro I014 aw v2 k2 le11 - ⟨v06,kk2,rfl,rfl,rfl,h35⟩ -;have ⟨h8,H⟩:=m2 le11 h8 H;obtain ⟨p22,c22,rfl,h36⟩:=zZ h35;exact yC 5 [] [34] rfl<|xH 1 [vT y.Write.Array.l,vS p5 y.Write.Subs c5,vI y10,vI y.Value.Num,vS p6 y.Value.Index.Coefs c6,vI y.Value.Index.Const,vT y.Value.Read.Array.l,vS p7 y.Value.Read.Subs c7,vS p8 y.Value.Kids c8] rfl<|yD rfl<|yL<|zU ⟨_,_,_,_,_,_,_,_,_,(zC N).symm,H,h8,h36,rfl,rfl⟩
       intro aY N;refine yG [35] rfl<|zI ?_;obtain ⟨o03,ho03,hMc3⟩:=zB N;refine qR (fun I' ah m'=>∃ (ValueNum3:Int) (ValueKids3:List zG) (x3:zK) (p23:Option Addr) (c23:Nat) (cs10:List Value) (p24:Option Addr) (c24:Nat),o03=(ValueNum3,ValueKids3,x3)/\aU.le I'/\(RL I' cs10 ValueKids3)/\(S4 I' p24 x3.b c24)/\ah=[hB ar (cRd x3 p24 c24),hB b2 [vT y.Write.Array.l,vS p5 y.Write.Subs c5,vI y.Value.Kind,vI ValueNum3,vS p6 y.Value.Index.Coefs c6,vI y.Value.Index.Const,vT y.Value.Read.Array.l,vS p7 y.Value.Read.Subs c7,vS p23 ValueKids3 c23],hO zA (vS p5 y.Write.Subs c5) cs,hO zG (vS p23 ValueKids3 c23) cs10,hB b1 [vT ([]),z0,vI 0,vI 0,z0,vI 0,vT ([]),z0,z0]]/\m'=[(4,vP b1 0),(5,vP b2 0)]) ?_ ?_
       · have H:=iS aU;refine yF ho03 ?_ ?_
         · intro bG N;refine zM<|yC 1 [] [37] rfl<|nC (rI [100,(-1),1]) ?_;intro b6 I016 le12 h40;have ⟨h11,h8,H⟩:=m3 le12 h11 h8 H;obtain ⟨⟨y13,y14⟩,hy7,N⟩:=zB N;refine tM (yT y3 ([100,(-1),1]:List Int) _ hy7 h11 h40) rfl ?_;rintro I017 aw v2 k2 le13 - ⟨v08,kk3,rfl,rfl,rfl,h42⟩ -;have ⟨h8,H⟩:=m2 le13 h8 H;obtain ⟨p25,c25,rfl,h43⟩:=zZ h42;exact yC 5 [] [41] rfl<|xH 1 [vT y.Write.Array.l,vS p5 y.Write.Subs c5,vI y.Value.Kind,vI y13,vS p6 y.Value.Index.Coefs c6,vI y.Value.Index.Const,vT y.Value.Read.Array.l,vS p7 y.Value.Read.Subs c7,vS p8 y.Value.Kids c8] rfl<|yD rfl<|yL<|zU ⟨_,_,_,_,_,_,_,_,(zC N).symm,H,h8,h43,rfl,rfl⟩
         intro bG N;refine yG [42] rfl<|zI ?_;obtain ⟨o04,ho04,hMc4⟩:=zB N;refine qR (fun I' ah m'=>∃ (ValueKids4:List zG) (p26:Option Addr) (c26:Nat) (cs11:List Value),o04=ValueKids4/\aU.le I'/\(RL I' cs11 ValueKids4)/\ah=[hB ar (cRd y3 p9 c9),hB b2 [vT y.Write.Array.l,vS p5 y.Write.Subs c5,vI y.Value.Kind,vI y.Value.Num,vS p6 y.Value.Index.Coefs c6,vI y.Value.Index.Const,vT y.Value.Read.Array.l,vS p7 y.Value.Read.Subs c7,vS p26 ValueKids4 c26],hO zA (vS p5 y.Write.Subs c5) cs,hO zG (vS p26 ValueKids4 c26) cs11,hB b1 [vT ([]),z0,vI 0,vI 0,z0,vI 0,vT ([]),z0,z0]]/\m'=[(4,vP b1 0),(5,vP b2 0)]) ?_ ?_
         · have H:=iS aU;refine yF ho04 ?_ ?_
           · intro bM N;refine zM<|rY 4 [1] [(46,vS p8 y.Value.Kids c8),(47,vA [vI 1,vI 0,z0,vI 0,vT ([]),z0,z0])]<|uD [vI 1,vI 0,z0,vI 0,vT ([]),z0,z0] zG ?_;intro b7 hb7;have h45:RL aU [vI 1,vI 0,z0,vI 0,vT ([]),z0,z0] ([(zG.mk 1 0 (zA.mk ([]:List Int) 0) (zJ.mk (⟨[]⟩:Str) ([]:List zA)) ([]:List zG))]:List zG):=⟨[vI 1,vI 0,z0,vI 0,vT ([]),z0,z0],_,rfl,rfl,(xT ⟨_,_,_,rfl,(SL.nil _),(SL.nil _),(SL.nil _)⟩),rfl⟩;obtain ⟨l1,hy8,N⟩:=zB N;refine sC 98 7 4 rfl rfl rfl h8 (.inr ⟨0,rfl⟩) h45 hy8 ?_;intro p27 c27 cs12 h46;exact tO (zY [1,2,3,4,5] (ah:=[hB ar (cRd y3 p9 c9),hB b2 (cStmt y p5 c5 p6 c6 p7 c7 p8 c8),hO zA (vS p5 y.Write.Subs c5) cs,hO zG (vS p27 l1 c27) cs12,hB b1 [vT ([]),z0,vI 0,vI 0,z0,vI 0,vT ([]),z0,z0]]))<|yC 8 [] [51] rfl<|xH 1 [vT y.Write.Array.l,vS p5 y.Write.Subs c5,vI y.Value.Kind,vI y.Value.Num,vS p6 y.Value.Index.Coefs c6,vI y.Value.Index.Const,vT y.Value.Read.Array.l,vS p7 y.Value.Read.Subs c7,vS p27 l1 c27] rfl<|yD rfl<|yL<|zU ⟨_,_,_,_,(zC N).symm,H,h46,rfl,rfl⟩
           intro bM N;exact zT<|yL<|zU ⟨_,_,_,_,(zC N).symm,H,h8,rfl,rfl⟩
         rintro I018 aw m2 ⟨ValueKids4,p26,c26,cs11,heq,le14,h44,rfl,rfl⟩;subst o04;have ⟨h11,H⟩:=m2 le14 h11 H;exact yL<|zU ⟨_,_,_,_,_,_,_,_,(zC hMc4).symm,H,h44,h11,rfl,rfl⟩
       rintro I015 aw m2 ⟨ValueNum3,ValueKids3,x3,p23,c23,cs10,p24,c24,heq1,le15,h37,h38,rfl,rfl⟩;subst o03;have H:=H.trans le15;exact yL<|zU ⟨_,_,_,_,_,_,_,_,_,(zC hMc3).symm,H,h37,h38,rfl,rfl⟩
     rintro bW aw m2 ⟨ValueKind2,ValueNum2,ValueKids2,x2,p20,c20,cs9,p21,c21,heq2,le16,h30,h31,rfl,rfl⟩;subst o02;have ⟨h5,H⟩:=m2 le16 h5 H;exact yL<|zU ⟨_,_,_,_,_,_,_,_,_,_,_,_,_,(zC hMc2).symm,H,h5,h30,h31,rfl,rfl⟩
   rintro I06 aw m2 ⟨WriteSubs1,ValueKind1,ValueNum1,ValueKids1,x1,p14,c14,bz,p15,c15,bD,p16,c16,heq3,le17,h20,h21,h22,rfl,rfl⟩;subst aM;have H:=H.trans le17;exact yL<|zU ⟨_,_,_,_,_,_,_,_,_,_,_,_,_,_,(zC hMc1).symm,H,h20,h21,h22,rfl,rfl⟩
 rintro bC aw m2 ⟨WriteArray,WriteSubs,ValueKind,ValueNum,ValueKids,x,aV,bc,aQ,aN,aZ,aR,bB,bk,heq4,le18,h12,h13,h14,rfl,rfl⟩;subst o0;have ⟨h6,h7⟩:=m2 le18 h6 h7;refine zP<|yV<|rY 1 [1] [(52,vA [vT WriteArray.l,vS aV WriteSubs bc,vI ValueKind,vI ValueNum,vS p6 y.Value.Index.Coefs c6,vI y.Value.Index.Const,vT y.Value.Read.Array.l,vS p7 y.Value.Read.Subs c7,vS aN ValueKids aZ])]<|xH 4 [vT WriteArray.l,vS aV WriteSubs bc,vI ValueKind,vI ValueNum,vS p6 y.Value.Index.Coefs c6,vI y.Value.Index.Const,vT y.Value.Read.Array.l,vS p7 y.Value.Read.Subs c7,vS aN ValueKids aZ] rfl<|yD rfl<|xC<|yU 2 rfl ?_;intro I019 le19 hl06;have h47:=SL.of_frozen hl06 le19 h12;have ⟨h14,h6,h7,h13⟩:=m4 le19 h14 h6 h7 h13;refine yU 2 rfl ?_;intro I020 le20 hl07;have h48:=SL.of_frozen hl07 le20 h13;have ⟨h14,h47,h6,h7⟩:=m4 le20 h14 h47 h6 h7;obtain rfl:=zC aS;exact xA ⟨_,_,(.cell 2 rfl rfl (by kernel_rfl) ResV.nil),(zX [0] rfl (by decide)),⟨_,_,rfl,rfl,⟨_,rfl,(wM ⟨_,_,_,_,rfl,h47,h6,h7,h48⟩)⟩,(yO ⟨_,rfl,h14⟩)⟩⟩
end Go.LN
