/- Helper of the proof (see the last text). -/
import Derived.Test.YtmlnffbepjijhaaGreatLnN
import Derived.Test.YtmlnffbepjijhaaGreatLnYD
import Derived.Test.YtmlnffbepjijhaaGreatTryzShelf
set_option linter.unusedVariables false
set_option linter.unusedSimpArgs false
namespace Go.LN
open Go.Proofs
set_option maxRecDepth 20000
abbrev eS {α:Type} [Rp α] (l:List α):Imm->Value->List HA->Prop:=fun I' v hx=>∃ p c,v=vS p l c/\hx=[]/\S4 I' p l c
abbrev ePExpr (x:zH):Imm->Value->List HA->Prop:=fun I' v hx=>∃ ad p0 c0 p1 c1 p2 c2,v=.pointer (some ad)/\hx=[]/\At I' ad (cExpr x p0 c0 p1 c1 p2 c2)/\S4 I' p0 x.Index.Coefs c0/\S4 I' p1 x.Read.Subs c1/\S4 I' p2 x.Kids c2
abbrev eVExpr (x:zH):Imm->Value->List HA->Prop:=fun I' v hx=>∃ p0 c0 p1 c1 p2 c2,v=vA (cExpr x p0 c0 p1 c1 p2 c2)/\hx=[]/\S4 I' p0 x.Index.Coefs c0/\S4 I' p1 x.Read.Subs c1/\S4 I' p2 x.Kids c2
abbrev ePStmt (x:zJ):Imm->Value->List HA->Prop:=fun I' v hx=>∃ ad p0 c0 p1 c1 p2 c2 p3 c3,v=.pointer (some ad)/\hx=[]/\At I' ad (cStmt x p0 c0 p1 c1 p2 c2 p3 c3)/\S4 I' p0 x.Write.Subs c0/\S4 I' p1 x.Value.Index.Coefs c1/\S4 I' p2 x.Value.Read.Subs c2/\S4 I' p3 x.Value.Kids c3
abbrev eVStmt (x:zJ):Imm->Value->List HA->Prop:=fun I' v hx=>∃ p0 c0 p1 c1 p2 c2 p3 c3,v=vA (cStmt x p0 c0 p1 c1 p2 c2 p3 c3)/\hx=[]/\S4 I' p0 x.Write.Subs c0/\S4 I' p1 x.Value.Index.Coefs c1/\S4 I' p2 x.Value.Read.Subs c2/\S4 I' p3 x.Value.Kids c3
abbrev ePAff (x:zA):Imm->Value->List HA->Prop:=fun I' v hx=>∃ ad p0 c0,v=.pointer (some ad)/\hx=[]/\At I' ad (cAff x p0 c0)/\S4 I' p0 x.Coefs c0
abbrev eVAff (x:zA):Imm->Value->List HA->Prop:=fun I' v hx=>∃ p0 c0,v=vA (cAff x p0 c0)/\hx=[]/\S4 I' p0 x.Coefs c0
abbrev ePArr (x:zD):Imm->Value->List HA->Prop:=fun I' v hx=>∃ ad p0 c0,v=.pointer (some ad)/\hx=[]/\At I' ad (cArr x p0 c0)/\S4 I' p0 x.Dims c0
abbrev eQArr (k:Nat) (x:zD):Imm->Value->List HA->Prop:=fun I' v hx=>∃ ad p0 c0,v=.pointer (some (ad.add k))/\hx=[]/\At I' ad (cArr x p0 c0)/\S4 I' p0 x.Dims c0
abbrev eVArr (x:zD):Imm->Value->List HA->Prop:=fun I' v hx=>∃ p0 c0,v=vA (cArr x p0 c0)/\hx=[]/\S4 I' p0 x.Dims c0
abbrev ePInst (x:zN):Imm->Value->List HA->Prop:=fun I' v hx=>∃ ad p0 c0,v=.pointer (some ad)/\hx=[]/\At I' ad (cInst x p0 c0)/\S4 I' p0 x.Point c0
abbrev eQInst (k:Nat) (x:zN):Imm->Value->List HA->Prop:=fun I' v hx=>∃ ad p0 c0,v=.pointer (some (ad.add k))/\hx=[]/\At I' ad (cInst x p0 c0)/\S4 I' p0 x.Point c0
abbrev ePPart (x:zI):Imm->Value->List HA->Prop:=fun I' v hx=>∃ ad p0 c0 p1 c1,v=.pointer (some ad)/\hx=[]/\At I' ad (cPart x p0 c0 p1 c1)/\S4 I' p0 x.Nest c0/\S4 I' p1 x.Body c1
abbrev eQPart (k:Nat) (x:zI):Imm->Value->List HA->Prop:=fun I' v hx=>∃ ad p0 c0 p1 c1,v=.pointer (some (ad.add k))/\hx=[]/\At I' ad (cPart x p0 c0 p1 c1)/\S4 I' p0 x.Nest c0/\S4 I' p1 x.Body c1
abbrev eVPart (x:zI):Imm->Value->List HA->Prop:=fun I' v hx=>∃ p0 c0 p1 c1,v=vA (cPart x p0 c0 p1 c1)/\hx=[]/\S4 I' p0 x.Nest c0/\S4 I' p1 x.Body c1
abbrev ePLoop (x:zE):Imm->Value->List HA->Prop:=fun I' v hx=>∃ ad p0 c0 p1 c1,v=.pointer (some ad)/\hx=[]/\At I' ad (cLoop x p0 c0 p1 c1)/\S4 I' p0 x.Lo c0/\S4 I' p1 x.Hi c1
abbrev eQLoop (k:Nat) (x:zE):Imm->Value->List HA->Prop:=fun I' v hx=>∃ ad p0 c0 p1 c1,v=.pointer (some (ad.add k))/\hx=[]/\At I' ad (cLoop x p0 c0 p1 c1)/\S4 I' p0 x.Lo c0/\S4 I' p1 x.Hi c1
abbrev eVLoop (x:zE):Imm->Value->List HA->Prop:=fun I' v hx=>∃ p0 c0 p1 c1,v=vA (cLoop x p0 c0 p1 c1)/\hx=[]/\S4 I' p0 x.Lo c0/\S4 I' p1 x.Hi c1
abbrev eVAccess (x:zG):Imm->Value->List HA->Prop:=fun I' v hx=>∃ p0 c0,v=vA (cAccess x p0 c0)/\hx=[]/\S4 I' p0 x.Subs c0
instance {i j:Imm}{raws:List Raw2}{parts:List zI}{vN vB:Value}{nl:List zE}{bl:List zJ}:Mo (LP i raws parts vN nl vB bl) i j (LP j raws parts vN nl vB bl):=⟨fun h x=>x.mono h⟩
abbrev RT:=Ret Tryz.prog
def zFH (r:zP):KT:=fun kk I' hs' v=>
  ∃ b_0 a0_0 c0_0,hs'=[.blk b_0 ⟨[.slice a0_0 r.b.length c0_0,.int .i64 r.p]⟩]/\v=tupV [(.pointer (some ⟨b_0,0,none⟩))]/\SL I' (.slice a0_0 r.b.length c0_0) r.b
def eV (code:(List UInt8)):Option (zP):=do
 let code1<-(do
   if (decide ((code.length:Int)>2000)) then
    let l<-slc code 0 2000
    pure (id l)
   else
    pure (id code)
     : Option (List UInt8))
 pure (zP.mk code1 0)
theorem zG9:∀ code r,eV code=some r->∀ {I:Imm}{p c},(S4 I p code c)->RT 22 [vS p code c] I [] (zFH  r):=by
 intro code r N I p c h;unfold eV at N;refine yJ Tryz.func22 fun B=>?_;have H:=iS I;refine vM []<|zZ<|yH [5] rfl<|zK ?_;obtain ⟨o0,ho0,hMc⟩:=zB N;refine nN (fun I' hs' m'=>∃ (code1:List UInt8) (p1:Option Addr) (c1:Nat),o0=code1/\I.le I'/\(S4 I' p1 code1 c1)/\hs'=[]/\m'=[(0,vS p1 code1 c1)]) ?_ ?_
 · have H:=iS I;refine yG ho0 ?_ ?_
   · intro hc N;refine zM<|yE 1 [] [6] rfl<|bE N fun l hy N=>zOf rfl h hy ?_;intro v0 h2;obtain ⟨p2,c2,rfl⟩:=h2.form;exact yM [] [0] rfl<|yW<|zU ⟨_,_,_,(zC N).symm,H,h2,rfl,rfl⟩
   intro hc N;exact zS<|yW<|zU ⟨_,_,_,(zC N).symm,H,h,rfl,rfl⟩
 rintro I0 hs2 m2 ⟨code1,p1,c1,heq,le,h1,rfl,rfl⟩;subst o0;refine yX<|yE 2 [] [9] rfl<|vK [vS p1 code1 c1,vI 0] ?_;intro b hb;refine yM [] [2] rfl<|zK<|xD ?_;obtain rfl:=zC hMc;exact xC ⟨_,_,(.tmp rfl ResV.nil),(zW [0] rfl (by decide)),⟨_,_,_,rfl,rfl,h1⟩⟩
def zDN (b0:Nat) (r:Int×zP):KT:=fun kk I' hs' v=>
  ∃ v0 k0,hs'=[.blk b0 ⟨k0⟩]/\v=tupV [v0]/\v0=.int .i64 r.1/\Rp.rep I' k0 r.2
def xF (r0:zP) (n0:Int):Option (Int×zP):=do
 let t24<-(do
   if (decide (n0<1)) then
    pure true
   else
    pure ((r0.b.length:Int)==0)
     : Option Bool)
 if t24 then
  pure (0,(zP.mk r0.b (W (r0.p+1))))
 else
  if (decide ((W ((W (r0.p+1)) - 1))<(r0.b.length:Int))) then
   let x<-idx r0.b (W ((W (r0.p+1)) - 1))
   let q<-rem (W (x.toNat:Int)) n0
   pure (q,(zP.mk r0.b (W (r0.p+1))))
  else
   let q1<-rem (W ((W (r0.p+1)) - 1)) (r0.b.length:Int)
   let x1<-idx r0.b q1
   let q2<-rem (W ((W ((W ((W (r0.p+1)) - 1))*7))+3)) (r0.b.length:Int)
   let x2<-idx r0.b q2
   let q3<-quo (W ((W (r0.p+1)) - 1)) (r0.b.length:Int)
   let q4<-rem (W (BitVec.ofInt IntKind.i64.bits (W ((W ((W ((W ((W (x1.toNat:Int))*131))+(W ((W (x2.toNat:Int))*1117))))+(W ((W ((W (r0.p+1)) - 1))*29))))+(W (q3*53)))) ^^^ BitVec.ofInt IntKind.i64.bits (W ((W ((W ((W ((W ((W (x1.toNat:Int))*131))+(W ((W (x2.toNat:Int))*1117))))+(W ((W ((W (r0.p+1)) - 1))*29))))+(W (q3*53)))).tdiv 64))).toNat) n0
   pure (q4,(zP.mk r0.b (W (r0.p+1))))
theorem wD:∀ r0 n0 r,xF r0 n0=some r->∀ {I:Imm}{r01:Nat}{p c},(S4 I p r0.b c)->RT 56 [vP r01 0,vI n0] I [hB r01 (cRd r0 p c)] (zDN r01 r):=by
 intro r0 n0 r N I r01 p c h;unfold xF at N;refine yJ Tryz.func56 fun B=>?_;have H:=iS I;refine vM []<|yX<|yE 8 [0] [12,14] rfl<|yZ 0 [vS p r0.b c,vI (W (r0.p+1))] rfl<|zX rfl<|zZ<|yD ?_;refine uB N [hB r01 [vS p r0.b c,vI (W (r0.p+1))]] (fun t24=>[(0,vP r01 0),(1,vI n0),(24,.bool t24)]) (fun o0 ho0=>?_) ?_
 · have H:=iS I;refine zM<|yE 3 [] [17] rfl<|wO [17] ho0 ?_ ?_
   · intro hc N;exact wU [] [(24,vY)]<|yW<|zU (ct N H)
   intro hc N;exact yM [0] [24] rfl<|yW<|zU (ct N H)
 intro t24 I0 le hMc;have h:=h.mono le;refine zK<|yG hMc ?_ ?_
 · intro hc1 N;refine yH [4] rfl<|xI<|zL ?_;obtain rfl:=zC N;exact xC ⟨_,_,(.tmp rfl ResV.nil),(zW [0] rfl (by decide)),⟨_,_,rfl,rfl,rfl,(yY ⟨_,rfl,h⟩)⟩⟩
 intro hc1 N;refine zS<|yX<|yM [0] [5] rfl<|zZ<|yC<|yM [0] [36] rfl<|zK<|yG N ?_ ?_
 · intro hc2 N;refine yC<|yE 5 [0] [40,41] rfl<|bE N fun x hy N=>xT rfl rfl h hy ?_;intro ad ccs hat hrep;obtain rfl:=hrep;refine xO 0 hat [.int .u8 (x.toNat:Int)] (.int .u8 (x.toNat:Int)) rfl<|yE 9 [] [44,45] rfl<|bE N fun q hy1 N=>zOh rfl hy1<|yM [] [4] rfl<|xI<|zL ?_;obtain rfl:=zC N;exact xC ⟨_,_,(.tmp rfl ResV.nil),(zW [0] rfl (by decide)),⟨_,_,rfl,rfl,rfl,(yY ⟨_,rfl,h⟩)⟩⟩
 intro hc2 N;refine zS<|zZ<|zA1 (by kernel_rfl) (by kernel_rfl)<|zBv 10 [0,0] [50,51,56] rfl<|bE N fun q1 hy2 N=>zNu rfl hy2<|bE N fun x1 hy3 N=>zFE rfl rfl h hy3 ?_;intro ad1 ccs1 hat1 hrep1;obtain rfl:=hrep1;refine zFD 0 hat1 [.int .u8 (x1.toNat:Int)] (.int .u8 (x1.toNat:Int)) rfl<|zBv 27 [0,0] [61,65,68,73] rfl<|bE N fun q2 hy4 N=>zNu rfl hy4<|bE N fun x2 hy5 N=>zFE rfl rfl h hy5 ?_;intro ad2 ccs2 hat2 hrep2;obtain rfl:=hrep2;refine zFD 0 hat2 [.int .u8 (x2.toNat:Int)] (.int .u8 (x2.toNat:Int)) rfl<|zBv 42 [0] [82,83,88] rfl<|bE N fun q3 hy6 N=>zOg rfl hy6<|zKi [] [6] rfl<|uN [6] rfl<|yX<|yE 2 [] [96,97] rfl<|bE N fun q4 hy7 N=>zOh rfl hy7<|yM [] [4] rfl<|zK<|xD ?_;obtain rfl:=zC N;exact xC ⟨_,_,(.tmp rfl ResV.nil),(zW [0] rfl (by decide)),⟨_,_,rfl,rfl,rfl,(yY ⟨_,rfl,h⟩)⟩⟩
def zEU (b0:Nat) (r:Str×zP):KT:=fun kk I' hs' v=>
  ∃ v0 k0,hs'=[.blk b0 ⟨k0⟩]/\v=tupV [v0]/\v0=.string ⟨⟨r.1.l⟩⟩/\Rp.rep I' k0 r.2
def qK (r0:zP) (list:(List Str)):Option (Str×zP):=do
 let (y1,y2)<-xF r0 (list.length:Int)
 let x<-idx list y1
 pure (x,y2)
theorem jB:∀ r0 list r,qK r0 list=some r->∀ {I:Imm}{r01:Nat}{p c p1 c1},(S4 I p r0.b c)->(S4 I p1 list c1)->RT 24 [vP r01 0,vS p1 list c1] I [hB r01 (cRd r0 p c)] (zEU r01 r):=by
 intro r0 list r N I r01 p c p1 c1 h h1;unfold qK at N;refine yJ Tryz.func24 fun B=>vM []<|yX<|yE 4 [] [5,6,8] rfl ?_;obtain ⟨⟨y1,y2⟩,hy,N⟩:=zB N;refine rS (wD r0 (list.length:Int) _ hy h) rfl ?_;rintro I0 hs2 v2 k2 le - ⟨v0,kk,rfl,rfl,rfl,h3⟩ -;have h1:=h1.mono le;obtain ⟨p2,c2,rfl,h4⟩:=yA h3;obtain ⟨x,hy1,N⟩:=zB N;refine xT rfl rfl h1 hy1 ?_;intro ad ccs hat hrep;obtain rfl:=hrep;refine xO 0 hat [vT x.l] (vT x.l) rfl<|yM [] [4] rfl<|zK<|xD ?_;obtain rfl:=zC N;exact xC ⟨_,_,(.tmp rfl ResV.nil),(zW [0] rfl (by decide)),⟨_,_,rfl,rfl,rfl,(yY ⟨_,rfl,h4⟩)⟩⟩
def zA2 (r:(List zE)):KT:=fun kk I' hs' v=>
  ∃ v0,hs'=[]/\v=tupV [v0]/\SL I' v0 r
def qO (nest:(List zE)) (i:Int) (k0:Int) (Lo:List zA):Option (List zA):=do
 let x<-idx nest i
 if (decide (k0<(x.Lo.length:Int))) then
  let x1<-idx nest i
  let x2<-idx x1.Lo k0
  let l<-app 8 ([]:List Int) x2.Coefs
  let l1<-app 32 Lo ([(zA.mk l x2.Const)]:List zA)
  qO nest i (W (k0+1)) l1
 else
  pure (id Lo)
 partial_fixpoint
theorem zB2 (nest:(List zE)) (i:Int):∀ (k0:Int) (Lo:List zA) (o:List zA),qO nest i k0 Lo=some o->∀ {B}{I0 I:Imm}{Q}{τ:Type} [Rp τ] {out:List τ}{p c p1 c1 cs}{b1:Nat}{p3 c3 cs2},I0.le I->(S4 I p nest c)->(RL I cs out)->(RL I cs2 Lo)->NG Q->NO Q->(∀ (I':Imm) (Lo1:List zA) (p4:Option Addr) (c4:Nat) (cs3:List Value),o=Lo1->I0.le I'->(RL I' cs3 Lo1)->T 83 B Q (.exit 2) I' [hO zA (vS p4 Lo1 c4) cs3,hB b1 [vS p4 Lo1 c4,z0],hO τ (vS p1 out c1) cs] [(0,vS p nest c),(3,vS p1 out c1),(4,vI i),(5,vP b1 0)])->J Tryz.prog 83 B (nav (bodyOf Tryz.f70) [1,1,0,1,0,0,1,0,0,1,0,1,0]) Q I [hO zA (vS p3 Lo c3) cs2,hB b1 [vS p3 Lo c3,z0],hO τ (vS p1 out c1) cs] [(0,vS p nest c),(3,vS p1 out c1),(4,vI i),(5,vP b1 0),(6,vI k0)]:=by
 refine qO.partial_correctness nest i _ fun self ih k0 Lo o N B I0 I Q τ _ out p c p1 c1 cs b1 p3 c3 cs2 H h h2 h5 hg ho hx=>yU hg ho<|yD<|yC<|yE 3 [] [18,19,20] rfl<|bE N fun x hy N=>xT rfl rfl h hy ?_;intro ad ccs hat hrep;obtain ⟨p5,c5,p6,c6,rfl,h7,h8⟩:=wZ hrep;refine yE 5 [] [22] rfl<|xO 0 hat [vS p5 x.Lo c5] (vS p5 x.Lo c5) rfl<|yM [] [25] rfl<|zK<|yG N ?_ ?_
 · intro hc1 N;refine zS<|zZ<|yF<|yC<|yE 2 [] [28,29] rfl<|bE N fun x1 hy1 N=>xT rfl rfl h hy1 ?_;intro ad1 ccs1 hat1 hrep1;obtain ⟨p7,c7,p8,c8,rfl,h9,h10⟩:=wZ hrep1;refine yE 4 [] [31] rfl<|xO 0 hat1 [vS p7 x1.Lo c7] (vS p7 x1.Lo c7) rfl<|yE 6 [] [33] rfl<|bE N fun x2 hy2 N=>xT rfl rfl h9 hy2 ?_;intro ad2 ccs2 hat2 hrep2;obtain ⟨p9,c9,rfl,h11⟩:=yB hrep2;refine xO 0 hat2 (cAff x2 p9 c9) (vA (cAff x2 p9 c9)) rfl<|xU [z0,vI 0] ?_;intro b2 hb2;refine yZ 0 (cAff x2 p9 c9) rfl<|zX rfl<|zK ?_;obtain ⟨l,hy3,N⟩:=zB N;obtain ⟨l1,hy4,N⟩:=zB N;refine wP [.p (vP b1 0) [],.p (vS p3 Lo c3) [1],.x (fun I' v hx=>∃ b3,v=vS (some ⟨b3,0,none⟩) ([]:List Int) 0/\hx=[hO Int (vS (some ⟨b3,0,none⟩) ([]:List Int) 0) []]/\(RL I' [] ([]:List Int))),.p (vP b2 0) [],.p (vS p9 x2.Coefs c9) [0],.x (fun I' v hx=>∃ p10 c10 cs4,v=vS p10 l c10/\hx=[hO Int (vS p10 l c10) cs4]/\(RL I' cs4 l)),.p (vP b2 1) [],.p (vI x2.Const) [0],.x (fun I' v hx=>∃ p101 c101 cs41,v=vA [vS p101 l c101,vI x2.Const]/\hx=[hO Int (vS p101 l c101) cs41]/\(RL I' cs41 l)),.x (fun I' v hx=>∃ b4,v=vS (some ⟨b4,0,none⟩) ([(zA.mk l x2.Const)]:List zA) 1/\hx=[]/\(SL I' (vS (some ⟨b4,0,none⟩) ([(zA.mk l x2.Const)]:List zA) 1) ([(zA.mk l x2.Const)]:List zA))),.x (fun I' v hx=>∃ p11 c11 cs5,v=vS p11 l1 c11/\hx=[hO zA (vS p11 l1 c11) cs5]/\(RL I' cs5 l1))] [[],[(0,false)],[],[],[(3,false)],[(2,true),(4,false)],[],[(6,false)],[(5,true),(7,false)],[(8,true)],[(1,false),(9,false),(13,true)]] [hB b2 (cAff x2 p9 c9),hB b1 [vS p3 Lo c3,z0],hO τ (vS p1 out c1) cs] [[hO zA (vS p3 Lo c3) cs2]] [(10,true)] (zY [0,2,3,1]) ?_ ?_
   · refine Op<|Op<|Ox ?_<|Op<|Op<|Ox ?_<|Op<|Op<|Ox ?_<|Ox ?_<|Ox ?_<|On
     · intro I1 hf le1;refine dS []<|tK [] Int ?_;intro b3 hb3;have h12:RL I1 [] ([]:List Int):=rfl;exact yL [hO Int (vS (some ⟨b3,0,none⟩) ([]:List Int) 0) []] iR ⟨_,rfl,rfl,h12⟩
     · rintro I1 hf le1 _ _ ⟨b3,rfl,rfl,h12⟩;refine yV [38,40] rfl ?_;have h11:=h11.mono le1;obtain ⟨ccs3,k01,k02⟩:=h11;have h11:SL I1 (vS p9 x2.Coefs c9) x2.Coefs:=⟨_,k01,k02⟩;exact qD 3 1 0 rfl rfl rfl h12 (.inl k01) k02 hy3 fun p10 c10 cs4 h13=>vH (hs':=(hO Int (vS p10 l c10) cs4::hB b2 (cAff x2 p9 c9)::hB b1 [vS p3 Lo c3,z0]::hO τ (vS p1 out c1) cs::hf)) rfl<|yL [hO Int (vS p10 l c10) cs4] iR ⟨_,_,_,rfl,rfl,h13⟩
     · rintro I1 hf le1 _ _ ⟨p10,c10,cs4,rfl,rfl,h13⟩;exact yV [41,43] rfl<|qA 9 [(44,vA [vS p10 l c10,vI x2.Const])]<|yL [hO Int (vS p10 l c10) cs4] iR ⟨_,_,_,rfl,rfl,h13⟩
     · rintro I1 hf le1 _ _ ⟨p101,c101,cs41,rfl,rfl,h131⟩;refine yV [44] rfl ?_;have H:=iS I1;refine xX 0 rfl ?_;intro I0 le hl0;have h14:=SL.of_frozen hl0 le h131;have H:=H.trans le;refine mU (rc (zA.mk l x2.Const) (yI ⟨_,rfl,h14⟩) rN) ?_;intro b4 I01 le1 h16;have H:=H.trans le1;exact yL [] H ⟨_,rfl,rfl,h16⟩
     rintro I1 hf le1 _ _ ⟨rfl,rfl⟩ _ _ ⟨b4,rfl,rfl,h16⟩ _ _ rfl;refine yV [37,45] rfl ?_;have h5:=iM le1 h5;obtain ⟨ccs4,k03,k04⟩:=h16;have h16:SL I1 (vS (some ⟨b4,0,none⟩) ([(zA.mk l x2.Const)]:List zA) 1) ([(zA.mk l x2.Const)]:List zA):=⟨_,k03,k04⟩;exact qD 69 2 0 rfl rfl rfl h5 (.inl k03) k04 hy4 fun p11 c11 cs5 h17=>vH (hs':=(hO zA (vS p11 l1 c11) cs5::hB b2 (cAff x2 p9 c9)::hB b1 [vS p3 Lo c3,z0]::hO τ (vS p1 out c1) cs::hf)) rfl<|yL [hO zA (vS p11 l1 c11) cs5] iR ⟨_,_,_,rfl,rfl,h17⟩
   rintro I02 le2 _ _ ⟨p11,c11,cs5,rfl,rfl,h17⟩;refine yV [0,3,4,5,6,46] rfl ?_;have ⟨h,h2,H⟩:=m3 le2 h h2 H;exact yE 12 [] [47] rfl<|yZ 2 [vS p11 l1 c11,z0] rfl<|zX rfl<|zO<|zK<|zM<|yM [] [6] rfl<|yT<|pL (zW [0,2,3] rfl (by decide))<|nT<|ih (W (k0+1)) l1 _ N H h h2 h17 hg ho hx
 intro hc1 N;exact wW<|yW<|hx _ _ _ _ _ (zC N).symm H h5
def qP (nest:(List zE)) (i:Int) (k05:Int) (Hi:List zA):Option (List zA):=do
 let x3<-idx nest i
 if (decide (k05<(x3.Hi.length:Int))) then
  let x4<-idx nest i
  let x5<-idx x4.Hi k05
  let l2<-app 8 ([]:List Int) x5.Coefs
  let l3<-app 32 Hi ([(zA.mk l2 x5.Const)]:List zA)
  qP nest i (W (k05+1)) l3
 else
  pure (id Hi)
 partial_fixpoint
theorem zB3 (nest:(List zE)) (i:Int):∀ (k05:Int) (Hi:List zA) (o:List zA),qP nest i k05 Hi=some o->∀ {B}{I0 I:Imm}{Q}{τ:Type} [Rp τ] {out:List τ}{Lo1:List zA}{p c p1 c1 cs}{b1:Nat}{p4 c4 cs3 p12 c12 cs6},I0.le I->(S4 I p nest c)->(RL I cs out)->(RL I cs3 Lo1)->(RL I cs6 Hi)->NG Q->NO Q->(∀ (I':Imm) (Hi1:List zA) (p13:Option Addr) (c13:Nat) (cs7:List Value),o=Hi1->I0.le I'->(RL I' cs7 Hi1)->T 83 B Q (.exit 4) I' [hO zA (vS p13 Hi1 c13) cs7,hO zA (vS p4 Lo1 c4) cs3,hB b1 [vS p4 Lo1 c4,vS p13 Hi1 c13],hO τ (vS p1 out c1) cs] [(0,vS p nest c),(3,vS p1 out c1),(4,vI i),(5,vP b1 0)])->J Tryz.prog 83 B (nav (bodyOf Tryz.f70) [1,1,0,1,0,0,1,0,0,1,1,0,1,0]) Q I [hO zA (vS p12 Hi c12) cs6,hO zA (vS p4 Lo1 c4) cs3,hB b1 [vS p4 Lo1 c4,vS p12 Hi c12],hO τ (vS p1 out c1) cs] [(0,vS p nest c),(3,vS p1 out c1),(4,vI i),(5,vP b1 0),(8,vI k05)]:=by
 refine qP.partial_correctness nest i _ fun self ih k05 Hi o N B I0 I Q τ _ out Lo1 p c p1 c1 cs b1 p4 c4 cs3 p12 c12 cs6 H h h2 h6 h19 hg ho hx=>yU hg ho<|yD<|yC<|yE 3 [] [48,49,50] rfl<|bE N fun x3 hy5 N=>xT rfl rfl h hy5 ?_;intro ad3 ccs5 hat3 hrep3;obtain ⟨p14,c14,p15,c15,rfl,h21,h22⟩:=wZ hrep3;refine yE 5 [] [52] rfl<|xO 1 hat3 [vS p15 x3.Hi c15] (vS p15 x3.Hi c15) rfl<|yM [] [55] rfl<|zK<|yG N ?_ ?_
 · intro hc2 N;refine zS<|zZ<|yF<|yC<|yE 2 [] [58,59] rfl<|bE N fun x4 hy6 N=>xT rfl rfl h hy6 ?_;intro ad4 ccs6 hat4 hrep4;obtain ⟨p16,c16,p17,c17,rfl,h23,h24⟩:=wZ hrep4;refine yE 4 [] [61] rfl<|xO 1 hat4 [vS p17 x4.Hi c17] (vS p17 x4.Hi c17) rfl<|yE 6 [] [63] rfl<|bE N fun x5 hy7 N=>xT rfl rfl h24 hy7 ?_;intro ad5 ccs7 hat5 hrep5;obtain ⟨p18,c18,rfl,h25⟩:=yB hrep5;refine xO 0 hat5 (cAff x5 p18 c18) (vA (cAff x5 p18 c18)) rfl<|xU [z0,vI 0] ?_;intro b5 hb5;refine yZ 0 (cAff x5 p18 c18) rfl<|zX rfl<|zK ?_;obtain ⟨l2,hy8,N⟩:=zB N;obtain ⟨l3,hy9,N⟩:=zB N;refine wP [.p (vP b1 1) [],.p (vS p12 Hi c12) [2],.x (fun I' v hx=>∃ b6,v=vS (some ⟨b6,0,none⟩) ([]:List Int) 0/\hx=[hO Int (vS (some ⟨b6,0,none⟩) ([]:List Int) 0) []]/\(RL I' [] ([]:List Int))),.p (vP b5 0) [],.p (vS p18 x5.Coefs c18) [0],.x (fun I' v hx=>∃ p19 c19 cs8,v=vS p19 l2 c19/\hx=[hO Int (vS p19 l2 c19) cs8]/\(RL I' cs8 l2)),.p (vP b5 1) [],.p (vI x5.Const) [0],.x (fun I' v hx=>∃ p191 c191 cs81,v=vA [vS p191 l2 c191,vI x5.Const]/\hx=[hO Int (vS p191 l2 c191) cs81]/\(RL I' cs81 l2)),.x (fun I' v hx=>∃ b7,v=vS (some ⟨b7,0,none⟩) ([(zA.mk l2 x5.Const)]:List zA) 1/\hx=[]/\(SL I' (vS (some ⟨b7,0,none⟩) ([(zA.mk l2 x5.Const)]:List zA) 1) ([(zA.mk l2 x5.Const)]:List zA))),.x (fun I' v hx=>∃ p20 c20 cs9,v=vS p20 l3 c20/\hx=[hO zA (vS p20 l3 c20) cs9]/\(RL I' cs9 l3))] [[],[(0,false)],[],[],[(3,false)],[(2,true),(4,false)],[],[(6,false)],[(5,true),(7,false)],[(8,true)],[(1,false),(9,false),(13,true)]] [hB b5 (cAff x5 p18 c18),hO zA (vS p4 Lo1 c4) cs3,hB b1 [vS p4 Lo1 c4,vS p12 Hi c12],hO τ (vS p1 out c1) cs] [[hO zA (vS p12 Hi c12) cs6]] [(10,true)] (zY [0,2,3,4,1]) ?_ ?_
   · refine Op<|Op<|Ox ?_<|Op<|Op<|Ox ?_<|Op<|Op<|Ox ?_<|Ox ?_<|Ox ?_<|On
     · intro I1 hf le1;refine dS []<|tK [] Int ?_;intro b6 hb6;have h26:RL I1 [] ([]:List Int):=rfl;exact yL [hO Int (vS (some ⟨b6,0,none⟩) ([]:List Int) 0) []] iR ⟨_,rfl,rfl,h26⟩
     · rintro I1 hf le1 _ _ ⟨b6,rfl,rfl,h26⟩;refine yV [68,70] rfl ?_;have h25:=h25.mono le1;obtain ⟨ccs8,k06,k07⟩:=h25;have h25:SL I1 (vS p18 x5.Coefs c18) x5.Coefs:=⟨_,k06,k07⟩;exact qD 3 1 0 rfl rfl rfl h26 (.inl k06) k07 hy8 fun p19 c19 cs8 h27=>vH (hs':=(hO Int (vS p19 l2 c19) cs8::hB b5 (cAff x5 p18 c18)::hO zA (vS p4 Lo1 c4) cs3::hB b1 [vS p4 Lo1 c4,vS p12 Hi c12]::hO τ (vS p1 out c1) cs::hf)) rfl<|yL [hO Int (vS p19 l2 c19) cs8] iR ⟨_,_,_,rfl,rfl,h27⟩
     · rintro I1 hf le1 _ _ ⟨p19,c19,cs8,rfl,rfl,h27⟩;exact yV [71,73] rfl<|qA 9 [(74,vA [vS p19 l2 c19,vI x5.Const])]<|yL [hO Int (vS p19 l2 c19) cs8] iR ⟨_,_,_,rfl,rfl,h27⟩
     · rintro I1 hf le1 _ _ ⟨p191,c191,cs81,rfl,rfl,h271⟩;refine yV [74] rfl ?_;have H:=iS I1;refine xX 0 rfl ?_;intro I04 le4 hl02;have h28:=SL.of_frozen hl02 le4 h271;have H:=H.trans le4;refine mU (rc (zA.mk l2 x5.Const) (yI ⟨_,rfl,h28⟩) rN) ?_;intro b7 I05 le5 h30;have H:=H.trans le5;exact yL [] H ⟨_,rfl,rfl,h30⟩
     rintro I1 hf le1 _ _ ⟨rfl,rfl⟩ _ _ ⟨b7,rfl,rfl,h30⟩ _ _ rfl;refine yV [67,75] rfl ?_;have h19:=iM le1 h19;obtain ⟨ccs9,k08,k09⟩:=h30;have h30:SL I1 (vS (some ⟨b7,0,none⟩) ([(zA.mk l2 x5.Const)]:List zA) 1) ([(zA.mk l2 x5.Const)]:List zA):=⟨_,k08,k09⟩;exact qD 69 2 0 rfl rfl rfl h19 (.inl k08) k09 hy9 fun p20 c20 cs9 h31=>vH (hs':=(hO zA (vS p20 l3 c20) cs9::hB b5 (cAff x5 p18 c18)::hO zA (vS p4 Lo1 c4) cs3::hB b1 [vS p4 Lo1 c4,vS p12 Hi c12]::hO τ (vS p1 out c1) cs::hf)) rfl<|yL [hO zA (vS p20 l3 c20) cs9] iR ⟨_,_,_,rfl,rfl,h31⟩
   rintro I06 le6 _ _ ⟨p20,c20,cs9,rfl,rfl,h31⟩;refine yV [0,3,4,5,8,76] rfl ?_;have ⟨h,h2,h6,H⟩:=m4 le6 h h2 h6 H;exact yE 12 [] [77] rfl<|yZ 3 [vS p4 Lo1 c4,vS p20 l3 c20] rfl<|zX rfl<|zO<|zK<|zM<|yM [] [8] rfl<|yT<|pL (zW [0,2,3,4] rfl (by decide))<|nT<|ih (W (k05+1)) l3 _ N H h h2 h6 h31 hg ho hx
 intro hc2 N;exact wW<|yW<|hx _ _ _ _ _ (zC N).symm H h19
def sA (nest:(List zE)) (out:List zE) (i:Int):Option (List zE):=do
 if (decide (i<(nest.length:Int))) then
  let Lo1<-qO nest i 0 ([]:List zA)
  let Hi1<-qP nest i 0 ([]:List zA)
  let out2<-app 48 out ([(zE.mk Lo1 Hi1)]:List zE)
  sA nest out2 (W (i+1))
 else
  pure (id out)
 partial_fixpoint
theorem zFI (nest:(List zE)):∀ (out:List zE) (i:Int) (o:List zE),sA nest out i=some o->∀ {B}{I0 I:Imm}{Q p c p1 c1 cs},I0.le I->(S4 I p nest c)->(RL I cs out)->NG Q->NO Q->(∀ (I':Imm) (out1:List zE) (p2:Option Addr) (c2:Nat) (cs1:List Value),o=out1->I0.le I'->(RL I' cs1 out1)->T 83 B Q (.exit 0) I' [hO zE (vS p2 out1 c2) cs1] [(3,vS p2 out1 c2)])->J Tryz.prog 83 B (nav (bodyOf Tryz.f70) [1,1,0,1,0]) Q I [hO zE (vS p1 out c1) cs] [(0,vS p nest c),(3,vS p1 out c1),(4,vI i)]:=by
 refine sA.partial_correctness nest _ fun self ih out i o N B I0 I Q p c p1 c1 cs H h h2 hg ho hx=>yU hg ho<|yD<|yH [14] rfl<|zK<|yG N ?_ ?_
 · intro hc N;refine zS<|zZ<|yF<|yC<|yE 1 [] [17] rfl<|xU zTwo ?_;intro b1 hb1;refine eQ 0 zTwo [hB b1 zTwo,hO zE (vS p1 out c1) cs] rfl rfl rfl rfl<|zX rfl<|zZ<|yH [6] rfl<|wK<|pM [(0,vS p nest c),(3,vS p1 out c1),(4,vI i),(5,vP b1 0),(6,vI 0)]<|zAb zA fun h4=>?_;obtain ⟨o0,ho0,hMl⟩:=zB N;refine zB2 nest i 0 ([]:List zA) o0 ho0 iR h h2 h4 (fun _ _ _ h=>hg _ _ _ h) (fun _ _ h=>ho _ _ h) ?_;intro I03 Lo1 p4 c4 cs3 heq le3 h6;subst o0;have ⟨h,h2,H⟩:=m3 le3 h h2 H;refine zR<|zZ<|yH [8] rfl<|wK<|pM [(0,vS p nest c),(3,vS p1 out c1),(4,vI i),(5,vP b1 0),(8,vI 0)]<|zAb zA fun h18=>?_;obtain ⟨o01,ho01,hMl1⟩:=zB hMl;refine zB3 nest i 0 ([]:List zA) o01 ho01 iR h h2 h6 h18 (fun _ _ _ h=>hg _ _ _ h) (fun _ _ h=>ho _ _ h) ?_;intro I07 Hi1 p13 c13 cs7 heq1 le7 h20;subst o01;have ⟨h,h2,h6,H⟩:=m4 le7 h h2 h6 H;refine zR<|zK<|zM<|tZ 2 [2] [(78,vS p1 out c1),(79,vA [vS p4 Lo1 c4,vS p13 Hi1 c13])]<|xX 1 rfl ?_;intro I08 le8 hl04;have h32:=SL.of_frozen hl04 le8 h6;have ⟨h,h2,h20,H⟩:=m4 le8 h h2 h20 H;refine xX 0 rfl ?_;intro I09 le9 hl05;have h33:=SL.of_frozen hl05 le9 h20;have ⟨h,h2,h32,H⟩:=m4 le9 h h2 h32 H;refine tK [vS p4 Lo1 c4,vS p13 Hi1 c13] zE ?_;intro b8 hb8;have h34:RL I09 [vS p4 Lo1 c4,vS p13 Hi1 c13] ([(zE.mk Lo1 Hi1)]:List zE):=⟨[vS p4 Lo1 c4,vS p13 Hi1 c13],_,rfl,rfl,(uP ⟨_,_,rfl,h32,h33⟩),rfl⟩;obtain ⟨out2,hy10,N⟩:=zB hMl1;exact qD 130 2 2 rfl rfl rfl h2 (.inr ⟨0,rfl⟩) h34 hy10 fun p21 c21 cs10 h35=>sW (zY [1,2] (hs':=[hB b1 [vS p4 Lo1 c4,vS p13 Hi1 c13],hO zE (vS p21 out2 c21) cs10]))<|yM [] [3] rfl<|zO<|zK<|zM<|yM [] [4] rfl<|yT<|pL (zW [1] rfl (by decide))<|nT<|ih out2 (W (i+1)) _ N H h h35 hg ho hx
 intro hc N;exact wW<|yW<|hx _ _ _ _ _ (zC N).symm H h2
def kY (nest:(List zE)):Option ((List zE)):=do
 let out1<-sA nest ([]:List zE) 0
 pure (id out1)
theorem zDO:∀ nest r,kY nest=some r->∀ {I:Imm}{p c},(S4 I p nest c)->RT 70 [vS p nest c] I [] (zA2  r):=by
 intro nest r N I p c h;unfold kY at N;refine yJ Tryz.func70 fun B=>vM []<|yX<|tK [] zE ?_;intro b hb;have h1:RL I [] ([]:List zE):=rfl;refine yM [] [3] rfl<|zZ<|yH [4] rfl<|wK<|pM [(0,vS p nest c),(3,vS (some ⟨b,0,none⟩) ([]:List zE) 0),(4,vI 0)] ?_;obtain ⟨o02,ho02,hMl2⟩:=zB N;refine zFI nest ([]:List zE) 0 o02 ho02 iR h h1 (fun _ _ _ h=>h) (fun _ _ h=>h) ?_;intro I010 out1 p2 c2 cs1 heq2 le10 h3;subst o02;refine zR<|uN [2] rfl<|xI<|xE 0 rfl ?_;intro I011 le11 hl06;have h36:=SL.of_frozen hl06 le11 h3;obtain rfl:=zC hMl2;exact xC ⟨_,_,(.tmp rfl ResV.nil),zQ,⟨_,rfl,rfl,h36⟩⟩
def oN (r:zA):KT:=fun kk I' hs' v=>
  ∃ v0,hs'=[]/\v=tupV [v0]/\(∃ cs,v0=.agg ⟨cs⟩/\Rp.rep I' cs r)
def rQ (a0:zA):Option (zA):=do
 if ((a0.Coefs.length:Int)==0) then
  pure (zA.mk ([]:List Int) a0.Const)
 else
  let l<-app 8 ([]:List Int) a0.Coefs
  pure (zA.mk l a0.Const)
theorem zAc:∀ a0 r,rQ a0=some r->∀ {I:Imm}{p c},(S4 I p a0.Coefs c)->RT 130 [vA (cAff a0 p c)] I [] (oN  r):=by
 intro a0 r N I p c h;unfold rQ at N;refine yJ Tryz.func130 fun B=>yC<|vK (cAff a0 p c) ?_;intro b hb;refine xU [z0,vI 0] ?_;intro b1 hb1;refine zX rfl<|zZ<|yC<|yM [1] [6] rfl<|zK<|yG N ?_ ?_
 · intro hc N;refine yC<|tZ 3 [1] [(9,vA [z0,vI a0.Const])]<|yZ 0 [z0,vI a0.Const] rfl<|zX rfl<|xI<|zL ?_;obtain rfl:=zC N;exact xC ⟨_,_,(.cell 0 rfl rfl (by kernel_rfl) ResV.nil),zQ,⟨_,rfl,rfl,⟨_,rfl,(yI ⟨_,rfl,(SL.nil _)⟩)⟩⟩⟩
 intro hc N;refine zS<|zZ<|bE N fun l hy N=>wP [.x (fun I' v hx=>∃ b2,v=vS (some ⟨b2,0,none⟩) ([]:List Int) 0/\hx=[hO Int (vS (some ⟨b2,0,none⟩) ([]:List Int) 0) []]/\(RL I' [] ([]:List Int))),.p (vP b 0) [],.p (vS p a0.Coefs c) [1],.x (fun I' v hx=>∃ p1 c1 cs,v=vS p1 l c1/\hx=[hO Int (vS p1 l c1) cs]/\(RL I' cs l)),.p (vP b 1) [],.p (vI a0.Const) [1],.x (fun I' v hx=>∃ p11 c11 cs1,v=vA [vS p11 l c11,vI a0.Const]/\hx=[hO Int (vS p11 l c11) cs1]/\(RL I' cs1 l))] [[],[],[(1,false)],[(0,true),(2,false)],[],[(4,false)],[(3,true),(5,false)]] [hB b1 [z0,vI 0],hB b (cAff a0 p c)] [] [(6,true)] (zY [0,1]) ?_ ?_
 · refine Ox ?_<|Op<|Op<|Ox ?_<|Op<|Op<|Ox ?_<|On
   · intro I1 hf le1;refine dS []<|tK [] Int ?_;intro b2 hb2;have h1:RL I1 [] ([]:List Int):=rfl;exact yL [hO Int (vS (some ⟨b2,0,none⟩) ([]:List Int) 0) []] iR ⟨_,rfl,rfl,h1⟩
   · rintro I1 hf le1 _ _ ⟨b2,rfl,rfl,h1⟩;refine yV [10,12] rfl ?_;have h:=h.mono le1;obtain ⟨ccs,k0,k01⟩:=h;have h:SL I1 (vS p a0.Coefs c) a0.Coefs:=⟨_,k0,k01⟩;exact qD 3 1 0 rfl rfl rfl h1 (.inl k0) k01 hy fun p1 c1 cs h2=>vH (hs':=(hO Int (vS p1 l c1) cs::hB b1 [z0,vI 0]::hB b (cAff a0 p c)::hf)) rfl<|yL [hO Int (vS p1 l c1) cs] iR ⟨_,_,_,rfl,rfl,h2⟩
   rintro I1 hf le1 _ _ ⟨p1,c1,cs,rfl,rfl,h2⟩;exact yV [13,15] rfl<|qA 7 [(16,vA [vS p1 l c1,vI a0.Const])]<|yL [hO Int (vS p1 l c1) cs] iR ⟨_,_,_,rfl,rfl,h2⟩
 rintro I0 le _ _ ⟨p11,c11,cs1,rfl,rfl,h21⟩;refine yV [2,16] rfl ?_;refine yZ 1 [vS p11 l c11,vI a0.Const] rfl<|zX rfl<|xI<|xE 0 rfl ?_;intro I01 le1 hl0;have h3:=SL.of_frozen hl0 le1 h21;obtain rfl:=zC N;exact xC ⟨_,_,(.cell 0 rfl rfl (by kernel_rfl) ResV.nil),zQ,⟨_,rfl,rfl,⟨_,rfl,(yI ⟨_,rfl,h3⟩)⟩⟩⟩
def zC0 (r:zG):KT:=fun kk I' hs' v=>
  ∃ a0_1 c0_1 s0_1,hs'=[.osl (.slice a0_1 r.Subs.length c0_1) (Rp.sz zA) s0_1]/\v=tupV [(.agg ⟨[.string ⟨⟨r.Array.l⟩⟩,.slice a0_1 r.Subs.length c0_1]⟩)]/\RepL (Rp.rep I') (Rp.sz zA) s0_1 r.Subs
def vD (a0:zG) (i:Int) (Subs:List zA):Option (List zA):=do
 if (decide (i<(a0.Subs.length:Int))) then
  let x<-idx a0.Subs i
  let y<-rQ x
  let l<-app 32 Subs ([y]:List zA)
  vD a0 (W (i+1)) l
 else
  pure (id Subs)
 partial_fixpoint
theorem zBx (a0:zG):∀ (i:Int) (Subs:List zA) (o:List zA),vD a0 i Subs=some o->∀ {B}{I0 I:Imm}{Q p c}{b:Nat}{b1:Nat}{b2:Nat}{p1 c1 cs},I0.le I->(S4 I p a0.Subs c)->(RL I cs Subs)->NG Q->NO Q->(∀ (I':Imm) (Subs1:List zA) (p2:Option Addr) (c2:Nat) (cs1:List Value),o=Subs1->I0.le I'->(RL I' cs1 Subs1)->T 27 B Q (.exit 0) I' [hO zA (vS p2 Subs1 c2) cs1,hB b2 [vT a0.Array.l,vS p2 Subs1 c2],hB b1 [vT ([]),z0]] [(2,vP b1 0),(3,vP b2 0)])->J Tryz.prog 27 B (nav (bodyOf Tryz.f90) [1,1,0,1,0]) Q I [hO zA (vS p1 Subs c1) cs,hB b2 [vT a0.Array.l,vS p1 Subs c1],hB b1 [vT ([]),z0],hB b (cAccess a0 p c)] [(1,vP b 0),(2,vP b1 0),(3,vP b2 0),(4,vI i)]:=by
 refine vD.partial_correctness a0 _ fun self ih i Subs o N B I0 I Q p c b b1 b2 p1 c1 cs H h h2 hg ho hx=>yU hg ho<|yD<|yC<|yM [3] [12] rfl<|zK<|yG N ?_ ?_
 · intro hc N;refine zS<|zZ<|yF ?_;obtain ⟨x,hy,N⟩:=zB N;obtain ⟨y,hy1,N⟩:=zB N;obtain ⟨l,hy2,N⟩:=zB N;refine wP [.p (vP b2 1) [],.p (vS p1 Subs c1) [0],.p (vP b 1) [],.p (vS p a0.Subs c) [2],.p (vI i) [],.x (ePAff x),.x (eVAff x),.x (eVAff y),.x (fun I' v hx=>∃ b3,v=vS (some ⟨b3,0,none⟩) ([y]:List zA) 1/\hx=[]/\(SL I' (vS (some ⟨b3,0,none⟩) ([y]:List zA) 1) ([y]:List zA))),.x (fun I' v hx=>∃ p5 c5 cs3,v=vS p5 l c5/\hx=[hO zA (vS p5 l c5) cs3]/\(RL I' cs3 l))] [[],[(0,false)],[],[(2,false)],[],[(3,false),(4,false)],[(5,false)],[(6,false)],[(7,false)],[(1,false),(8,false),(12,true)]] [hB b2 [vT a0.Array.l,vS p1 Subs c1],hB b1 [vT ([]),z0],hB b (cAccess a0 p c)] [[hO zA (vS p1 Subs c1) cs]] [(9,true)] (zY [1,2,3,0]) ?_ ?_
   · refine Op<|Op<|Op<|Op<|Op<|Ox ?_<|Ox ?_<|Ox ?_<|Ox ?_<|Ox ?_<|On
     · intro I1 hf le1;refine yV [18,19] rfl ?_;have h:=h.mono le1;refine xT rfl rfl h hy ?_;intro ad ccs hat hrep;obtain ⟨p3,c3,rfl,h4⟩:=yB hrep;exact yL [] iR ⟨_,_,_,rfl,rfl,hat,h4⟩
     · rintro I1 hf le1 _ _ ⟨ad,p3,c3,rfl,rfl,hat,h4⟩;exact yV [20] rfl<|xO 0 hat (cAff x p3 c3) (vA (cAff x p3 c3)) rfl<|yL [] iR ⟨_,_,rfl,rfl,h4⟩
     · rintro I1 hf le1 _ _ ⟨p31,c31,rfl,rfl,h41⟩;refine yV [21] rfl ?_;have H:=iS I1;refine xH (zAc x _ hy1 h41) ?_;rintro I0 hs2 v2 k2 le - ⟨v01,rfl,rfl,⟨cs2,rfl,h5⟩⟩ -;have H:=H.trans le;obtain ⟨p4,c4,rfl,h6⟩:=yB h5;exact yL [] H ⟨_,_,rfl,rfl,h6⟩
     · rintro I1 hf le1 _ _ ⟨p4,c4,rfl,rfl,h6⟩;refine yV [22] rfl ?_;have H:=iS I1;refine mU (rc y (yI ⟨_,rfl,h6⟩) rN) ?_;intro b3 I01 le1 h8;have H:=H.trans le1;exact yL [] H ⟨_,rfl,rfl,h8⟩
     rintro I1 hf le1 _ _ ⟨rfl,rfl⟩ _ _ ⟨b3,rfl,rfl,h8⟩ _ _ rfl;refine yV [16,23] rfl ?_;have h2:=iM le1 h2;obtain ⟨ccs1,k0,k01⟩:=h8;have h8:SL I1 (vS (some ⟨b3,0,none⟩) ([y]:List zA) 1) ([y]:List zA):=⟨_,k0,k01⟩;exact qD 69 2 0 rfl rfl rfl h2 (.inl k0) k01 hy2 fun p5 c5 cs3 h9=>vH (hs':=(hO zA (vS p5 l c5) cs3::hB b2 [vT a0.Array.l,vS p1 Subs c1]::hB b1 [vT ([]),z0]::hB b (cAccess a0 p c)::hf)) rfl<|yL [hO zA (vS p5 l c5) cs3] iR ⟨_,_,_,rfl,rfl,h9⟩
   rintro I02 le2 _ _ ⟨p5,c5,cs3,rfl,rfl,h9⟩;refine yV [1,2,3,4,24] rfl ?_;have ⟨h,H⟩:=m2 le2 h H;exact yE 11 [] [25] rfl<|yZ 1 [vT a0.Array.l,vS p5 l c5] rfl<|zX rfl<|zO<|zK<|zM<|yM [] [4] rfl<|yT<|nT<|ih (W (i+1)) l _ N H h h9 hg ho hx
 intro hc N;exact wW<|wG (zW [0,1,2] rfl (by decide))<|yW<|hx _ _ _ _ _ (zC N).symm H h2
def tU (a0:zG):Option (zG):=do
 let Subs1<-vD a0 0 ([]:List zA)
 pure (zG.mk a0.Array Subs1)
theorem eW:∀ a0 r,tU a0=some r->∀ {I:Imm}{p c},(S4 I p a0.Subs c)->RT 90 [vA (cAccess a0 p c)] I [] (zC0  r):=by
 intro a0 r N I p c h;unfold tU at N;refine yJ Tryz.func90 fun B=>yC<|vK (cAccess a0 p c) ?_;intro b hb;refine xU [vT ([]),z0] ?_;intro b1 hb1;refine zX rfl<|yX<|tZ 3 [1] [(7,vA [vT a0.Array.l,z0])]<|xU [vT ([]),z0] ?_;intro b2 hb2;refine yZ 0 [vT a0.Array.l,z0] rfl<|zX rfl<|zZ<|yH [4] rfl<|wK<|pM [(1,vP b 0),(2,vP b1 0),(3,vP b2 0),(4,vI 0)]<|zAb zA fun h1=>?_;obtain ⟨o0,ho0,hMl⟩:=zB N;refine zBx a0 0 ([]:List zA) o0 ho0 iR h h1 (fun _ _ _ h=>h) (fun _ _ h=>h) ?_;intro I03 Subs1 p2 c2 cs1 heq le3 h3;subst o0;refine zR<|yX<|tZ 1 [1] [(26,vA [vT a0.Array.l,vS p2 Subs1 c2])]<|yZ 2 [vT a0.Array.l,vS p2 Subs1 c2] rfl<|zX rfl<|zK<|xD ?_;obtain rfl:=zC hMl;exact xC ⟨_,_,(.cell 2 rfl rfl (by kernel_rfl) ResV.nil),(zW [0] rfl (by decide)),⟨_,_,_,rfl,rfl,h3⟩⟩
def zAd (r:zH):KT:=fun kk I' hs' v=>
  ∃ a0_2 c0_2 a0_5 c0_5 a0_6 c0_6 s0_6,hs'=[.osl (.slice a0_6 r.Kids.length c0_6) (Rp.sz zH) s0_6]/\v=tupV [(.agg ⟨[.int .i64 r.Kind,.int .i64 r.Num,.slice a0_2 r.Index.Coefs.length c0_2,.int .i64 r.Index.Const,.string ⟨⟨r.Read.Array.l⟩⟩,.slice a0_5 r.Read.Subs.length c0_5,.slice a0_6 r.Kids.length c0_6]⟩)]/\SL I' (.slice a0_2 r.Index.Coefs.length c0_2) r.Index.Coefs/\SL I' (.slice a0_5 r.Read.Subs.length c0_5) r.Read.Subs/\RepL (Rp.rep I') (Rp.sz zH) s0_6 r.Kids
mutual
def oO (e0:zH):Option (zH):=do
 let y<-rQ e0.Index
 let y1<-tU e0.Read
 let Kids1<-tE (same e0) (same 0) ([]:List zH)
 pure (zH.mk e0.Kind e0.Num y (zG.mk y1.Array y1.Subs) Kids1)
 partial_fixpoint
def tE (e0:zH) (i:Int) (Kids:List zH):Option (List zH):=do
 if (decide (i<(e0.Kids.length:Int))) then
  let x<-idx e0.Kids i
  let y2<-oO (same x)
  let l<-app 112 Kids ([y2]:List zH)
  tE (same e0) (W (i+1)) (same l)
 else
  pure (id Kids)
 partial_fixpoint
end
theorem zDq:(∀ (e0:zH) r,oO e0=some r->∀ {I:Imm}{p c p1 c1 p2 c2},(S4 I p e0.Index.Coefs c)->(S4 I p1 e0.Read.Subs c1)->(S4 I p2 e0.Kids c2)->RT 112 [vA (cExpr e0 p c p1 c1 p2 c2)] I [] (zAd  r))/\(∀ (e0:zH) (i:Int) (Kids:List zH) o,tE e0 i Kids=some o->∀ {B}{I0 I:Imm}{Q}{y:zA}{y1:zG}{p c p1 c1 p2 c2}{b:Nat}{b1:Nat}{p31 c31 p41 c41 cs11}{b2:Nat}{p5 c5 cs2},I0.le I->(S4 I p31 y.Coefs c31)->(RL I cs11 y1.Subs)->(S4 I p e0.Index.Coefs c)->(S4 I p1 e0.Read.Subs c1)->(S4 I p2 e0.Kids c2)->(RL I cs2 Kids)->NG Q->NO Q->(∀ (I':Imm) (Kids1:List zH) (p6:Option Addr) (c6:Nat) (cs3:List Value),o=Kids1->I0.le I'->(RL I' cs3 Kids1)->T 35 B Q (.exit 0) I' [hO zH (vS p6 Kids1 c6) cs3,hB b2 [vI e0.Kind,vI e0.Num,vS p31 y.Coefs c31,vI y.Const,vT y1.Array.l,vS p41 y1.Subs c41,vS p6 Kids1 c6],hO zA (vS p41 y1.Subs c41) cs11,hB b1 zExpr] [(2,vP b1 0),(3,vP b2 0)])->J Tryz.prog 35 B (nav (bodyOf Tryz.f112) [1,1,0,1,0]) Q I [hO zH (vS p5 Kids c5) cs2,hB b2 [vI e0.Kind,vI e0.Num,vS p31 y.Coefs c31,vI y.Const,vT y1.Array.l,vS p41 y1.Subs c41,vS p5 Kids c5],hO zA (vS p41 y1.Subs c41) cs11,hB b1 zExpr,hB b (cExpr e0 p c p1 c1 p2 c2)] [(1,vP b 0),(2,vP b1 0),(3,vP b2 0),(4,vI i)]):=by
  refine oO.mutual_partial_correctness _ _ ?_ ?_
  · intro F_spec_l3CopyExpr_l1 ih_spec_l3CopyExpr_l1 e0 r N I p c p1 c1 p2 c2 h h1 h2;refine yJ Tryz.func112 fun B=>?_;have H:=iS I;refine yC<|vK (cExpr e0 p c p1 c1 p2 c2) ?_;intro b hb;refine xU zExpr ?_;intro b1 hb1;refine zX rfl<|zK<|yD ?_;obtain ⟨y,hy,N⟩:=zB N;obtain ⟨y1,hy1,N⟩:=zB N;refine wP [.p (vP b 0) [],.p (vI e0.Kind) [1],.p (vP b 1) [],.p (vI e0.Num) [1],.p (vP b 2) [],.p (vA (cAff e0.Index p c)) [1],.x (eVAff y),.p (vP b 4) [],.p (vA (cAccess e0.Read p1 c1)) [1],.x (fun I' v hx=>∃ p4 c4 cs1,v=vA (cAccess y1 p4 c4)/\hx=[hO zA (vS p4 y1.Subs c4) cs1]/\(RL I' cs1 y1.Subs)),.x (fun I' v hx=>∃ p31 c31 p41 c41 cs11,v=vA [vI e0.Kind,vI e0.Num,vS p31 y.Coefs c31,vI y.Const,vT y1.Array.l,vS p41 y1.Subs c41,z0]/\hx=[hO zA (vS p41 y1.Subs c41) cs11]/\(S4 I' p31 y.Coefs c31)/\(RL I' cs11 y1.Subs)),.x (fun I' v hx=>∃ b2,v=vP b2 0/\hx=[hB b2 zExpr])] [[],[(0,false)],[],[(2,false)],[],[(4,false)],[(5,false)],[],[(7,false)],[(8,false)],[(1,false),(3,false),(6,false),(9,true)],[]] [hB b1 zExpr,hB b (cExpr e0 p c p1 c1 p2 c2)] [] [(10,true),(11,true)] (zY [0,1]) ?_ ?_
    · refine Op<|Op<|Op<|Op<|Op<|Op<|Ox ?_<|Op<|Op<|Ox ?_<|Ox ?_<|Ox ?_<|On
      · intro I1 hf le1;refine yV [10] rfl ?_;have H:=iS I1;have h:=h.mono le1;refine xH (zAc e0.Index _ hy h) ?_;rintro I0 hs2 v2 k2 le - ⟨v0,rfl,rfl,⟨cs,rfl,h3⟩⟩ -;have H:=H.trans le;obtain ⟨p3,c3,rfl,h4⟩:=yB h3;exact yL [] H ⟨_,_,rfl,rfl,h4⟩
      · intro I1 hf le1;refine yV [13] rfl ?_;have H:=iS I1;have h1:=h1.mono le1;refine xH (eW e0.Read _ hy1 h1) ?_;rintro I01 hs2 v2 k2 le1 - ⟨p4,c4,cs1,rfl,rfl,h5⟩ -;have H:=H.trans le1;exact yL [hO zA (vS p4 y1.Subs c4) cs1] H ⟨_,_,_,rfl,rfl,h5⟩
      · rintro I1 hf le1 _ _ ⟨rfl,rfl⟩ _ _ ⟨rfl,rfl⟩ _ _ ⟨p3,c3,rfl,rfl,h4⟩ _ _ ⟨p4,c4,cs1,rfl,rfl,h5⟩;exact yV [6,8,11,14] rfl<|qA 11 [(15,vA [vI e0.Kind,vI e0.Num,vS p3 y.Coefs c3,vI y.Const,vT y1.Array.l,vS p4 y1.Subs c4,z0])]<|yL [hO zA (vS p4 y1.Subs c4) cs1] iR ⟨_,_,_,_,_,rfl,rfl,h4,h5⟩
      intro I1 hf le1;refine dS []<|xU zExpr ?_;intro b2 hb2;exact yL [hB b2 zExpr] iR ⟨_,rfl,rfl⟩
    rintro I02 le2 _ _ ⟨p31,c31,p41,c41,cs11,rfl,rfl,h41,h51⟩ _ _ ⟨b2,rfl,rfl⟩;refine yV [1,2,3,15] rfl ?_;have ⟨h,h1,h2⟩:=m3 le2 h h1 h2;refine yZ 0 [vI e0.Kind,vI e0.Num,vS p31 y.Coefs c31,vI y.Const,vT y1.Array.l,vS p41 y1.Subs c41,z0] rfl<|zX rfl<|zZ<|yH [4] rfl<|wK<|pM [(1,vP b 0),(2,vP b1 0),(3,vP b2 0),(4,vI 0)]<|zAb zH fun h6=>?_;obtain ⟨o0,ho0,hMl⟩:=zB N;refine ih_spec_l3CopyExpr_l1 e0 0 ([]:List zH) o0 ho0 iR h41 h51 h h1 h2 h6 (fun _ _ _ h=>h) (fun _ _ h=>h) ?_;intro I07 Kids1 p6 c6 cs3 heq le7 h8;subst o0;have ⟨h41,h51⟩:=m2 le7 h41 h51;refine zR<|yX<|tZ 1 [1] [(34,vA [vI e0.Kind,vI e0.Num,vS p31 y.Coefs c31,vI y.Const,vT y1.Array.l,vS p41 y1.Subs c41,vS p6 Kids1 c6])]<|yZ 3 [vI e0.Kind,vI e0.Num,vS p31 y.Coefs c31,vI y.Const,vT y1.Array.l,vS p41 y1.Subs c41,vS p6 Kids1 c6] rfl<|zX rfl<|xI<|xE 2 rfl ?_;intro I08 le8 hl02;have h19:=SL.of_frozen hl02 le8 h51;have ⟨h8,h41⟩:=m2 le8 h8 h41;obtain rfl:=zC hMl;exact xC ⟨_,_,(.cell 2 rfl rfl (by kernel_rfl) ResV.nil),(zW [0] rfl (by decide)),⟨_,_,_,_,_,_,_,rfl,rfl,h41,h19,h8⟩⟩
  intro F_spec_l3CopyExpr F_spec_l3CopyExpr_l1 ih_spec_l3CopyExpr ih_spec_l3CopyExpr_l1 e0 i Kids o N B I0 I Q y y1 p c p1 c1 p2 c2 b b1 p31 c31 p41 c41 cs11 b2 p5 c5 cs2 H h41 h51 h h1 h2 h7 hg ho hx;refine yU hg ho<|yD<|yC<|yM [4] [20] rfl<|zK<|yG N ?_ ?_
  · intro hc N;refine zS<|zZ<|yF ?_;obtain ⟨x,hy2,N⟩:=zB N;obtain ⟨y2,hy3,N⟩:=zB N;obtain ⟨l,hy4,N⟩:=zB N;refine wP [.p (vP b2 6) [],.p (vS p5 Kids c5) [0],.p (vP b 6) [],.p (vS p2 e0.Kids c2) [3],.p (vI i) [],.x (ePExpr x),.x (eVExpr x),.x (fun I' v hx=>∃ p10 c10 p11 c11 p12 c12 cs4,v=vA (cExpr y2 p10 c10 p11 c11 p12 c12)/\hx=[hO zH (vS p12 y2.Kids c12) cs4]/\(S4 I' p10 y2.Index.Coefs c10)/\(S4 I' p11 y2.Read.Subs c11)/\(RL I' cs4 y2.Kids)),.x (fun I' v hx=>∃ b3,v=vS (some ⟨b3,0,none⟩) ([y2]:List zH) 1/\hx=[]/\(SL I' (vS (some ⟨b3,0,none⟩) ([y2]:List zH) 1) ([y2]:List zH))),.x (fun I' v hx=>∃ p13 c13 cs5,v=vS p13 l c13/\hx=[hO zH (vS p13 l c13) cs5]/\(RL I' cs5 l))] [[],[(0,false)],[],[(2,false)],[],[(3,false),(4,false)],[(5,false)],[(6,false)],[(7,true)],[(1,false),(8,false),(12,true)]] [hB b2 [vI e0.Kind,vI e0.Num,vS p31 y.Coefs c31,vI y.Const,vT y1.Array.l,vS p41 y1.Subs c41,vS p5 Kids c5],hO zA (vS p41 y1.Subs c41) cs11,hB b1 zExpr,hB b (cExpr e0 p c p1 c1 p2 c2)] [[hO zH (vS p5 Kids c5) cs2]] [(9,true)] (zY [1,2,3,4,0]) ?_ ?_
    · refine Op<|Op<|Op<|Op<|Op<|Ox ?_<|Ox ?_<|Ox ?_<|Ox ?_<|Ox ?_<|On
      · intro I1 hf le1;refine yV [26,27] rfl ?_;have h2:=h2.mono le1;refine xT rfl rfl h2 hy2 ?_;intro ad ccs hat hrep;obtain ⟨p7,c7,p8,c8,p9,c9,rfl,h9,h10,h11⟩:=wT hrep;exact yL [] iR ⟨_,_,_,_,_,_,_,rfl,rfl,hat,h9,h10,h11⟩
      · rintro I1 hf le1 _ _ ⟨ad,p7,c7,p8,c8,p9,c9,rfl,rfl,hat,h9,h10,h11⟩;exact yV [28] rfl<|xO 0 hat (cExpr x p7 c7 p8 c8 p9 c9) (vA (cExpr x p7 c7 p8 c8 p9 c9)) rfl<|yL [] iR ⟨_,_,_,_,_,_,rfl,rfl,h9,h10,h11⟩
      · rintro I1 hf le1 _ _ ⟨p71,c71,p81,c81,p91,c91,rfl,rfl,h91,h101,h111⟩;refine yV [29] rfl ?_;have H:=iS I1;refine xH (ih_spec_l3CopyExpr x _ hy3 h91 h101 h111) ?_;rintro I03 hs2 v2 k2 le3 - ⟨p10,c10,p11,c11,p12,c12,cs4,rfl,rfl,h12,h13,h14⟩ -;have H:=H.trans le3;exact yL [hO zH (vS p12 y2.Kids c12) cs4] H ⟨_,_,_,_,_,_,_,rfl,rfl,h12,h13,h14⟩
      · rintro I1 hf le1 _ _ ⟨p10,c10,p11,c11,p12,c12,cs4,rfl,rfl,h12,h13,h14⟩;refine yV [30] rfl ?_;have H:=iS I1;refine xX 0 rfl ?_;intro I04 le4 hl0;have h15:=SL.of_frozen hl0 le4 h14;have ⟨h12,h13,H⟩:=m3 le4 h12 h13 H;refine mU (rc y2 (wB ⟨_,_,_,rfl,h12,h13,h15⟩) rN) ?_;intro b3 I05 le5 h17;have H:=H.trans le5;exact yL [] H ⟨_,rfl,rfl,h17⟩
      rintro I1 hf le1 _ _ ⟨rfl,rfl⟩ _ _ ⟨b3,rfl,rfl,h17⟩ _ _ rfl;refine yV [24,31] rfl ?_;have h7:=iM le1 h7;obtain ⟨ccs1,k0,k01⟩:=h17;have h17:SL I1 (vS (some ⟨b3,0,none⟩) ([y2]:List zH) 1) ([y2]:List zH):=⟨_,k0,k01⟩;exact qD 72 7 0 rfl rfl rfl h7 (.inl k0) k01 hy4 fun p13 c13 cs5 h18=>vH (hs':=(hO zH (vS p13 l c13) cs5::hB b2 [vI e0.Kind,vI e0.Num,vS p31 y.Coefs c31,vI y.Const,vT y1.Array.l,vS p41 y1.Subs c41,vS p5 Kids c5]::hO zA (vS p41 y1.Subs c41) cs11::hB b1 zExpr::hB b (cExpr e0 p c p1 c1 p2 c2)::hf)) rfl<|yL [hO zH (vS p13 l c13) cs5] iR ⟨_,_,_,rfl,rfl,h18⟩
    rintro I06 le6 _ _ ⟨p13,c13,cs5,rfl,rfl,h18⟩;refine yV [1,2,3,4,32] rfl ?_;have ⟨h41,h51,h,h1,h2,H⟩:=m6 le6 h41 h51 h h1 h2 H;exact yE 11 [] [33] rfl<|yZ 1 [vI e0.Kind,vI e0.Num,vS p31 y.Coefs c31,vI y.Const,vT y1.Array.l,vS p41 y1.Subs c41,vS p13 l c13] rfl<|zX rfl<|zO<|zK<|zM<|yM [] [4] rfl<|yT<|nT<|ih_spec_l3CopyExpr_l1 e0 (W (i+1)) l _ N H h41 h51 h h1 h2 h18 hg ho hx
  intro hc N;exact wW<|wG (zW [0,1,2,3] rfl (by decide))<|yW<|hx _ _ _ _ _ (zC N).symm H h7
theorem zEV:∀ e0 r,oO e0=some r->∀ {I:Imm}{p c p1 c1 p2 c2},(S4 I p e0.Index.Coefs c)->(S4 I p1 e0.Read.Subs c1)->(S4 I p2 e0.Kids c2)->RT 112 [vA (cExpr e0 p c p1 c1 p2 c2)] I [] (zAd  r):=zDq.1
def zGA (r:zJ):KT:=fun kk I' hs' v=>
  ∃ a0_1 c0_1 s0_1 a0_4 c0_4 a0_7 c0_7 a0_8 c0_8 s0_8,hs'=[.osl (.slice a0_1 r.Write.Subs.length c0_1) (Rp.sz zA) s0_1,.osl (.slice a0_8 r.Value.Kids.length c0_8) (Rp.sz zH) s0_8]/\v=tupV [(.agg ⟨[.string ⟨⟨r.Write.Array.l⟩⟩,.slice a0_1 r.Write.Subs.length c0_1,.int .i64 r.Value.Kind,.int .i64 r.Value.Num,.slice a0_4 r.Value.Index.Coefs.length c0_4,.int .i64 r.Value.Index.Const,.string ⟨⟨r.Value.Read.Array.l⟩⟩,.slice a0_7 r.Value.Read.Subs.length c0_7,.slice a0_8 r.Value.Kids.length c0_8]⟩)]/\RepL (Rp.rep I') (Rp.sz zA) s0_1 r.Write.Subs/\SL I' (.slice a0_4 r.Value.Index.Coefs.length c0_4) r.Value.Index.Coefs/\SL I' (.slice a0_7 r.Value.Read.Subs.length c0_7) r.Value.Read.Subs/\RepL (Rp.rep I') (Rp.sz zH) s0_8 r.Value.Kids
def eF (s:zJ):Option (zJ):=do
 let y<-tU s.Write
 let y1<-oO s.Value
 pure (zJ.mk y y1)
theorem zDP:∀ s r,eF s=some r->∀ {I:Imm}{p c p1 c1 p2 c2 p3 c3},(S4 I p s.Write.Subs c)->(S4 I p1 s.Value.Index.Coefs c1)->(S4 I p2 s.Value.Read.Subs c2)->(S4 I p3 s.Value.Kids c3)->RT 71 [vA (cStmt s p c p1 c1 p2 c2 p3 c3)] I [] (zGA  r):=by
 intro s r N I p c p1 c1 p2 c2 p3 c3 h h1 h2 h3;unfold eF at N;refine yJ Tryz.func71 fun B=>?_;have H:=iS I;refine yC<|vK (cStmt s p c p1 c1 p2 c2 p3 c3) ?_;intro b hb;refine xU [vT ([]),z0,vI 0,vI 0,z0,vI 0,vT ([]),z0,z0] ?_;intro b1 hb1;refine zX rfl<|zK<|yD ?_;obtain ⟨y,hy,N⟩:=zB N;obtain ⟨y1,hy1,N⟩:=zB N;refine wP [.p (vP b 0) [],.p (vA (cAccess s.Write p c)) [1],.x (fun I' v hx=>∃ p4 c4 cs,v=vA (cAccess y p4 c4)/\hx=[hO zA (vS p4 y.Subs c4) cs]/\(RL I' cs y.Subs)),.p (vP b 2) [],.p (vA (cExpr s.Value p1 c1 p2 c2 p3 c3)) [1],.x (fun I' v hx=>∃ p5 c5 p6 c6 p7 c7 cs1,v=vA (cExpr y1 p5 c5 p6 c6 p7 c7)/\hx=[hO zH (vS p7 y1.Kids c7) cs1]/\(S4 I' p5 y1.Index.Coefs c5)/\(S4 I' p6 y1.Read.Subs c6)/\(RL I' cs1 y1.Kids)),.x (fun I' v hx=>∃ p41 c41 p51 c51 p61 c61 p71 c71 cs11 cs2,v=vA [vT y.Array.l,vS p41 y.Subs c41,vI y1.Kind,vI y1.Num,vS p51 y1.Index.Coefs c51,vI y1.Index.Const,vT y1.Read.Array.l,vS p61 y1.Read.Subs c61,vS p71 y1.Kids c71]/\hx=[hO zH (vS p71 y1.Kids c71) cs11,hO zA (vS p41 y.Subs c41) cs2]/\(RL I' cs2 y.Subs)/\(S4 I' p51 y1.Index.Coefs c51)/\(S4 I' p61 y1.Read.Subs c61)/\(RL I' cs11 y1.Kids))] [[],[(0,false)],[(1,false)],[],[(3,false)],[(4,false)],[(2,true),(5,true)]] [hB b1 [vT ([]),z0,vI 0,vI 0,z0,vI 0,vT ([]),z0,z0],hB b (cStmt s p c p1 c1 p2 c2 p3 c3)] [] [(6,true)] (zY [0,1]) ?_ ?_
 · refine Op<|Op<|Ox ?_<|Op<|Op<|Ox ?_<|Ox ?_<|On
   · intro I1 hf le1;refine yV [4] rfl ?_;have H:=iS I1;have h:=h.mono le1;refine xH (eW s.Write _ hy h) ?_;rintro I0 hs2 v2 k2 le - ⟨p4,c4,cs,rfl,rfl,h4⟩ -;have H:=H.trans le;exact yL [hO zA (vS p4 y.Subs c4) cs] H ⟨_,_,_,rfl,rfl,h4⟩
   · intro I1 hf le1;refine yV [7] rfl ?_;have H:=iS I1;have ⟨h1,h2,h3⟩:=m3 le1 h1 h2 h3;refine xH (zEV s.Value _ hy1 h1 h2 h3) ?_;rintro I01 hs2 v2 k2 le1 - ⟨p5,c5,p6,c6,p7,c7,cs1,rfl,rfl,h5,h6,h7⟩ -;have H:=H.trans le1;exact yL [hO zH (vS p7 y1.Kids c7) cs1] H ⟨_,_,_,_,_,_,_,rfl,rfl,h5,h6,h7⟩
   rintro I1 hf le1 _ _ ⟨p4,c4,cs,rfl,rfl,h4⟩ _ _ ⟨p5,c5,p6,c6,p7,c7,cs1,rfl,rfl,h5,h6,h7⟩;exact yV [5,8] rfl<|qA 7 [(9,vA [vT y.Array.l,vS p4 y.Subs c4,vI y1.Kind,vI y1.Num,vS p5 y1.Index.Coefs c5,vI y1.Index.Const,vT y1.Read.Array.l,vS p6 y1.Read.Subs c6,vS p7 y1.Kids c7])]<|yL [hO zH (vS p7 y1.Kids c7) cs1,hO zA (vS p4 y.Subs c4) cs] iR ⟨_,_,_,_,_,_,_,_,_,_,rfl,rfl,h4,h5,h6,h7⟩
 rintro I02 le2 _ _ ⟨p41,c41,p51,c51,p61,c61,p71,c71,cs11,cs2,rfl,rfl,h41,h51,h61,h71⟩;refine yV [2,9] rfl ?_;refine yZ 2 [vT y.Array.l,vS p41 y.Subs c41,vI y1.Kind,vI y1.Num,vS p51 y1.Index.Coefs c51,vI y1.Index.Const,vT y1.Read.Array.l,vS p61 y1.Read.Subs c61,vS p71 y1.Kids c71] rfl<|zX rfl<|zK<|xD ?_;obtain rfl:=zC N;exact xC ⟨_,_,(.cell 2 rfl rfl (by kernel_rfl) ResV.nil),(zW [1,0] rfl (by decide)),⟨_,_,_,_,_,_,_,_,_,_,rfl,rfl,h41,h51,h61,h71⟩⟩
def zGB (r:zF):KT:=fun kk I' hs' v=>
  ∃ a0_0 c0_0 s0_0 a0_1 c0_1 s0_1,hs'=[.osl (.slice a0_0 r.Arrays.length c0_0) (Rp.sz zD) s0_0,.osl (.slice a0_1 r.Parts.length c0_1) (Rp.sz zI) s0_1]/\v=tupV [(.agg ⟨[.slice a0_0 r.Arrays.length c0_0,.slice a0_1 r.Parts.length c0_1]⟩)]/\RepL (Rp.rep I') (Rp.sz zD) s0_0 r.Arrays/\RepL (Rp.rep I') (Rp.sz zI) s0_1 r.Parts
def sB (p:zF) (i:Int) (Arrays:List zD):Option (List zD):=do
 if (decide (i<(p.Arrays.length:Int))) then
  let x<-idx p.Arrays i
  let x1<-idx p.Arrays i
  let l<-app 8 ([]:List Int) x1.Dims
  let l1<-app 40 Arrays ([(zD.mk x.Name l)]:List zD)
  sB p (W (i+1)) l1
 else
  pure (id Arrays)
 partial_fixpoint
theorem zB4 (p:zF):∀ (i:Int) (Arrays:List zD) (o:List zD),sB p i Arrays=some o->∀ {B}{I0 I:Imm}{Q p1 c p2 c1}{b:Nat}{b1:Nat}{b2:Nat}{p3 c2 cs},I0.le I->(S4 I p1 p.Arrays c)->(S4 I p2 p.Parts c1)->(RL I cs Arrays)->NG Q->NO Q->(∀ (I':Imm) (Arrays1:List zD) (p4:Option Addr) (c3:Nat) (cs1:List Value),o=Arrays1->I0.le I'->(RL I' cs1 Arrays1)->T 84 B Q (.exit 0) I' [hO zD (vS p4 Arrays1 c3) cs1,hB b2 [vS p4 Arrays1 c3,z0],hB b1 zTwo,hB b (cProg p p1 c p2 c1)] [(1,vP b 0),(2,vP b1 0),(3,vP b2 0)])->J Tryz.prog 84 B (nav (bodyOf Tryz.f34) [1,1,0,1,0]) Q I [hO zD (vS p3 Arrays c2) cs,hB b2 [vS p3 Arrays c2,z0],hB b1 zTwo,hB b (cProg p p1 c p2 c1)] [(1,vP b 0),(2,vP b1 0),(3,vP b2 0),(4,vI i)]:=by
 refine sB.partial_correctness p _ fun self ih i Arrays o N B I0 I Q p1 c p2 c1 b b1 b2 p3 c2 cs H h h1 h3 hg ho hx=>yU hg ho<|yD<|yC<|yM [3] [13] rfl<|zK<|yG N ?_ ?_
 · intro hc N;refine zS<|zZ<|yF ?_;obtain ⟨x,hy,N⟩:=zB N;obtain ⟨x1,hy1,N⟩:=zB N;obtain ⟨l,hy2,N⟩:=zB N;obtain ⟨l1,hy3,N⟩:=zB N;refine wP [.p (vP b2 0) [],.p (vS p3 Arrays c2) [0],.p (vP b 0) [],.p (vS p1 p.Arrays c) [2],.p (vI i) [],.x (ePArr x),.x (ePArr x),.q (vT x.Name.l),.x (fun I' v hx=>∃ b3,v=vS (some ⟨b3,0,none⟩) ([]:List Int) 0/\hx=[hO Int (vS (some ⟨b3,0,none⟩) ([]:List Int) 0) []]/\(RL I' [] ([]:List Int))),.p (vP b 0) [],.p (vS p1 p.Arrays c) [2],.p (vI i) [],.x (ePArr x1),.x (eQArr 1 x1),.x (eS x1.Dims),.x (fun I' v hx=>∃ p7 c6 cs2,v=vS p7 l c6/\hx=[hO Int (vS p7 l c6) cs2]/\(RL I' cs2 l)),.x (fun I' v hx=>∃ p71 c61 cs21,v=vA [vT x.Name.l,vS p71 l c61]/\hx=[hO Int (vS p71 l c61) cs21]/\(RL I' cs21 l)),.x (fun I' v hx=>∃ b4,v=vS (some ⟨b4,0,none⟩) ([(zD.mk x.Name l)]:List zD) 1/\hx=[]/\(SL I' (vS (some ⟨b4,0,none⟩) ([(zD.mk x.Name l)]:List zD) 1) ([(zD.mk x.Name l)]:List zD))),.x (fun I' v hx=>∃ p8 c7 cs3,v=vS p8 l1 c7/\hx=[hO zD (vS p8 l1 c7) cs3]/\(RL I' cs3 l1))] [[],[(0,false)],[],[(2,false)],[],[(3,false),(4,false)],[(5,false)],[(6,false)],[],[],[(9,false)],[],[(10,false),(11,false)],[(12,false)],[(13,false)],[(8,true),(14,false)],[(7,false),(15,true)],[(16,true)],[(1,false),(17,false),(21,true)]] [hB b2 [vS p3 Arrays c2,z0],hB b1 zTwo,hB b (cProg p p1 c p2 c1)] [[hO zD (vS p3 Arrays c2) cs]] [(18,true)] (zY [1,2,3,0]) ?_ ?_
   · refine Op<|Op<|Op<|Op<|Op<|Ox ?_<|Ox ?_<|Oq ?_<|Ox ?_<|Op<|Op<|Op<|Ox ?_<|Ox ?_<|Ox ?_<|Ox ?_<|Ox ?_<|Ox ?_<|Ox ?_<|On
     · intro I1 hf le1;refine yV [19,20] rfl ?_;have h:=h.mono le1;refine xT rfl rfl h hy ?_;intro ad ccs hat hrep;obtain ⟨p5,c4,rfl,h5⟩:=xL hrep;exact yL [] iR ⟨_,_,_,rfl,rfl,hat,h5⟩
     · rintro I1 hf le1 _ _ ⟨ad,p5,c4,rfl,rfl,hat,h5⟩;exact yV [21] rfl<|qA 7 [(22,.pointer (some ad))]<|yL [] iR ⟨_,_,_,rfl,rfl,hat,h5⟩
     · rintro I1 hf le1 _ _ ⟨ad1,p51,c41,rfl,rfl,hat1,h51⟩;exact yV [22] rfl<|xO 0 hat1 [vT x.Name.l] (vT x.Name.l) rfl<|xB iR
     · intro I1 hf le1;refine dS []<|tK [] Int ?_;intro b3 hb3;have h6:RL I1 [] ([]:List Int):=rfl;exact yL [hO Int (vS (some ⟨b3,0,none⟩) ([]:List Int) 0) []] iR ⟨_,rfl,rfl,h6⟩
     · intro I1 hf le1;refine yV [26,27] rfl ?_;have h:=h.mono le1;refine xT rfl rfl h hy1 ?_;intro ad2 ccs1 hat2 hrep1;obtain ⟨p6,c5,rfl,h7⟩:=xL hrep1;exact yL [] iR ⟨_,_,_,rfl,rfl,hat2,h7⟩
     · rintro I1 hf le1 _ _ ⟨ad2,p6,c5,rfl,rfl,hat2,h7⟩;exact yV [28] rfl<|qA 14 [(29,.pointer (some (ad2.add 1)))]<|yL [] iR ⟨_,_,_,rfl,rfl,hat2,h7⟩
     · rintro I1 hf le1 _ _ ⟨ad21,p61,c51,rfl,rfl,hat21,h71⟩;exact yV [29] rfl<|xO 1 hat21 [vS p61 x1.Dims c51] (vS p61 x1.Dims c51) rfl<|yL [] iR ⟨_,_,rfl,rfl,h71⟩
     · rintro I1 hf le1 _ _ ⟨b3,rfl,rfl,h6⟩ _ _ ⟨p611,c511,rfl,rfl,h711⟩;refine yV [24,30] rfl ?_;obtain ⟨ccs2,k0,k01⟩:=h711;have h711:SL I1 (vS p611 x1.Dims c511) x1.Dims:=⟨_,k0,k01⟩;exact qD 3 1 0 rfl rfl rfl h6 (.inl k0) k01 hy2 fun p7 c6 cs2 h8=>vH (hs':=(hO Int (vS p7 l c6) cs2::hB b2 [vS p3 Arrays c2,z0]::hB b1 zTwo::hB b (cProg p p1 c p2 c1)::hf)) rfl<|yL [hO Int (vS p7 l c6) cs2] iR ⟨_,_,_,rfl,rfl,h8⟩
     · rintro I1 hf le1 _ _ ⟨rfl,rfl⟩ _ _ ⟨p7,c6,cs2,rfl,rfl,h8⟩;exact yV [23,31] rfl<|qA 17 [(32,vA [vT x.Name.l,vS p7 l c6])]<|yL [hO Int (vS p7 l c6) cs2] iR ⟨_,_,_,rfl,rfl,h8⟩
     · rintro I1 hf le1 _ _ ⟨p71,c61,cs21,rfl,rfl,h81⟩;refine yV [32] rfl ?_;have H:=iS I1;refine xX 0 rfl ?_;intro I0 le hl0;have h9:=SL.of_frozen hl0 le h81;have H:=H.trans le;refine mU (rc (zD.mk x.Name l) (uO ⟨_,rfl,h9⟩) rN) ?_;intro b4 I01 le1 h11;have H:=H.trans le1;exact yL [] H ⟨_,rfl,rfl,h11⟩
     rintro I1 hf le1 _ _ ⟨rfl,rfl⟩ _ _ ⟨b4,rfl,rfl,h11⟩ _ _ rfl;refine yV [17,33] rfl ?_;have h3:=iM le1 h3;obtain ⟨ccs3,k02,k03⟩:=h11;have h11:SL I1 (vS (some ⟨b4,0,none⟩) ([(zD.mk x.Name l)]:List zD) 1) ([(zD.mk x.Name l)]:List zD):=⟨_,k02,k03⟩;exact qD 60 2 0 rfl rfl rfl h3 (.inl k02) k03 hy3 fun p8 c7 cs3 h12=>vH (hs':=(hO zD (vS p8 l1 c7) cs3::hB b2 [vS p3 Arrays c2,z0]::hB b1 zTwo::hB b (cProg p p1 c p2 c1)::hf)) rfl<|yL [hO zD (vS p8 l1 c7) cs3] iR ⟨_,_,_,rfl,rfl,h12⟩
   rintro I02 le2 _ _ ⟨p8,c7,cs3,rfl,rfl,h12⟩;refine yV [1,2,3,4,34] rfl ?_;have ⟨h,h1,H⟩:=m3 le2 h h1 H;exact yE 20 [] [35] rfl<|yZ 1 [vS p8 l1 c7,z0] rfl<|zX rfl<|zO<|zK<|zM<|yM [] [4] rfl<|yT<|nT<|ih (W (i+1)) l1 _ N H h h1 h12 hg ho hx
 intro hc N;exact wW<|yW<|hx _ _ _ _ _ (zC N).symm H h3
def qQ (p:zF) (i1:Int) (k04:Int) (Body:List zJ):Option (List zJ):=do
 let x3<-idx p.Parts i1
 if (decide (k04<(x3.Body.length:Int))) then
  let x4<-idx p.Parts i1
  let x5<-idx x4.Body k04
  let y1<-eF x5
  let l2<-app 152 Body ([y1]:List zJ)
  qQ p i1 (W (k04+1)) l2
 else
  pure (id Body)
 partial_fixpoint
theorem zB5 (p:zF) (i1:Int):∀ (k04:Int) (Body:List zJ) (o:List zJ),qQ p i1 k04 Body=some o->∀ {B}{I0 I:Imm}{Q}{τ:Type} [Rp τ] {Arrays1:List τ}{Parts:List zI}{y:(List zE)}{p1 c p2 c1}{b:Nat}{b1:Nat}{b2:Nat}{p4 c3 cs1 p9 c8 cs4 p13 c12}{b5:Nat}{p14 c13 cs6},I0.le I->(S4 I p13 y c12)->(RL I cs4 Parts)->(RL I cs1 Arrays1)->(S4 I p1 p.Arrays c)->(S4 I p2 p.Parts c1)->(RL I cs6 Body)->NG Q->NO Q->(∀ (I':Imm) (Body1:List zJ) (p15:Option Addr) (c14:Nat) (cs7:List Value),o=Body1->I0.le I'->(RL I' cs7 Body1)->T 84 B Q (.exit 4) I' [hO zJ (vS p15 Body1 c14) cs7,hB b5 [vS p13 y c12,vS p15 Body1 c14],hO zI (vS p9 Parts c8) cs4,hO τ (vS p4 Arrays1 c3) cs1,hB b2 [vS p4 Arrays1 c3,vS p9 Parts c8],hB b1 zTwo,hB b (cProg p p1 c p2 c1)] [(1,vP b 0),(2,vP b1 0),(3,vP b2 0),(5,vI i1),(6,vP b5 0)])->J Tryz.prog 84 B (nav (bodyOf Tryz.f34) [1,1,1,0,1,0,0,1,0,0,1,0,1,0]) Q I [hO zJ (vS p14 Body c13) cs6,hB b5 [vS p13 y c12,vS p14 Body c13],hO zI (vS p9 Parts c8) cs4,hO τ (vS p4 Arrays1 c3) cs1,hB b2 [vS p4 Arrays1 c3,vS p9 Parts c8],hB b1 zTwo,hB b (cProg p p1 c p2 c1)] [(1,vP b 0),(2,vP b1 0),(3,vP b2 0),(5,vI i1),(6,vP b5 0),(7,vI k04)]:=by
 refine qQ.partial_correctness p i1 _ fun self ih k04 Body o N B I0 I Q τ _ Arrays1 Parts y p1 c p2 c1 b b1 b2 p4 c3 cs1 p9 c8 cs4 p13 c12 b5 p14 c13 cs6 H h18 h14 h4 h h1 h20 hg ho hx=>yU hg ho<|yD<|yC<|yE 4 [6] [51,53,54] rfl<|bE N fun x3 hy6 N=>xT rfl rfl h1 hy6 ?_;intro ad4 ccs5 hat4 hrep3;obtain ⟨p16,c15,p17,c16,rfl,h22,h23⟩:=wH hrep3;refine yE 6 [] [56] rfl<|xO 1 hat4 [vS p17 x3.Body c16] (vS p17 x3.Body c16) rfl<|yM [] [59] rfl<|zK<|yG N ?_ ?_
 · intro hc2 N;refine zS<|zZ<|yF ?_;obtain ⟨x4,hy7,N⟩:=zB N;obtain ⟨x5,hy8,N⟩:=zB N;obtain ⟨y1,hy9,N⟩:=zB N;obtain ⟨l2,hy10,N⟩:=zB N;refine wP [.p (vP b5 1) [],.p (vS p14 Body c13) [0],.p (vP b 1) [],.p (vS p2 p.Parts c1) [5],.p (vI i1) [],.x (ePPart x4),.x (eQPart 1 x4),.x (eS x4.Body),.p (vI k04) [],.x (ePStmt x5),.x (eVStmt x5),.x (fun I' v hx=>∃ p24 c23 p25 c24 p26 c25 p27 c26 cs8 cs9,v=vA (cStmt y1 p24 c23 p25 c24 p26 c25 p27 c26)/\hx=[hO zA (vS p24 y1.Write.Subs c23) cs8,hO zH (vS p27 y1.Value.Kids c26) cs9]/\(RL I' cs8 y1.Write.Subs)/\(S4 I' p25 y1.Value.Index.Coefs c24)/\(S4 I' p26 y1.Value.Read.Subs c25)/\(RL I' cs9 y1.Value.Kids)),.x (fun I' v hx=>∃ b6,v=vS (some ⟨b6,0,none⟩) ([y1]:List zJ) 1/\hx=[]/\(SL I' (vS (some ⟨b6,0,none⟩) ([y1]:List zJ) 1) ([y1]:List zJ))),.x (fun I' v hx=>∃ p28 c27 cs10,v=vS p28 l2 c27/\hx=[hO zJ (vS p28 l2 c27) cs10]/\(RL I' cs10 l2))] [[],[(0,false)],[],[(2,false)],[],[(3,false),(4,false)],[(5,false)],[(6,false)],[],[(7,false),(8,false)],[(9,false)],[(10,false)],[(11,true)],[(1,false),(12,false),(16,true)]] [hB b5 [vS p13 y c12,vS p14 Body c13],hO zI (vS p9 Parts c8) cs4,hO τ (vS p4 Arrays1 c3) cs1,hB b2 [vS p4 Arrays1 c3,vS p9 Parts c8],hB b1 zTwo,hB b (cProg p p1 c p2 c1)] [[hO zJ (vS p14 Body c13) cs6]] [(13,true)] (zY [1,2,3,4,5,6,0]) ?_ ?_
   · refine Op<|Op<|Op<|Op<|Op<|Ox ?_<|Ox ?_<|Ox ?_<|Op<|Ox ?_<|Ox ?_<|Ox ?_<|Ox ?_<|Ox ?_<|On
     · intro I1 hf le1;refine yV [65,66] rfl ?_;have h1:=h1.mono le1;refine xT rfl rfl h1 hy7 ?_;intro ad5 ccs6 hat5 hrep4;obtain ⟨p18,c17,p19,c18,rfl,h24,h25⟩:=wH hrep4;exact yL [] iR ⟨_,_,_,_,_,rfl,rfl,hat5,h24,h25⟩
     · rintro I1 hf le1 _ _ ⟨ad5,p18,c17,p19,c18,rfl,rfl,hat5,h24,h25⟩;exact yV [67] rfl<|qA 7 [(68,.pointer (some (ad5.add 1)))]<|yL [] iR ⟨_,_,_,_,_,rfl,rfl,hat5,h24,h25⟩
     · rintro I1 hf le1 _ _ ⟨ad51,p181,c171,p191,c181,rfl,rfl,hat51,h241,h251⟩;exact yV [68] rfl<|xO 1 hat51 [vS p191 x4.Body c181] (vS p191 x4.Body c181) rfl<|yL [] iR ⟨_,_,rfl,rfl,h251⟩
     · rintro I1 hf le1 _ _ ⟨p1911,c1811,rfl,rfl,h2511⟩;refine yV [69,70] rfl<|xT rfl rfl h2511 hy8 ?_;intro ad6 ccs7 hat6 hrep5;obtain ⟨p20,c19,p21,c20,p22,c21,p23,c22,rfl,h26,h27,h28,h29⟩:=vC hrep5;exact yL [] iR ⟨_,_,_,_,_,_,_,_,_,rfl,rfl,hat6,h26,h27,h28,h29⟩
     · rintro I1 hf le1 _ _ ⟨ad6,p20,c19,p21,c20,p22,c21,p23,c22,rfl,rfl,hat6,h26,h27,h28,h29⟩;exact yV [71] rfl<|xO 0 hat6 (cStmt x5 p20 c19 p21 c20 p22 c21 p23 c22) (vA (cStmt x5 p20 c19 p21 c20 p22 c21 p23 c22)) rfl<|yL [] iR ⟨_,_,_,_,_,_,_,_,rfl,rfl,h26,h27,h28,h29⟩
     · rintro I1 hf le1 _ _ ⟨p201,c191,p211,c201,p221,c211,p231,c221,rfl,rfl,h261,h271,h281,h291⟩;refine yV [72] rfl ?_;have H:=iS I1;refine xH (zDP x5 _ hy9 h261 h271 h281 h291) ?_;rintro I05 hs2 v2 k2 le5 - ⟨p24,c23,cs8,p25,c24,p26,c25,p27,c26,cs9,rfl,rfl,h30,h31,h32,h33⟩ -;have H:=H.trans le5;exact yL [hO zA (vS p24 y1.Write.Subs c23) cs8,hO zH (vS p27 y1.Value.Kids c26) cs9] H ⟨_,_,_,_,_,_,_,_,_,_,rfl,rfl,h30,h31,h32,h33⟩
     · rintro I1 hf le1 _ _ ⟨p24,c23,p25,c24,p26,c25,p27,c26,cs8,cs9,rfl,rfl,h30,h31,h32,h33⟩;refine yV [73] rfl ?_;have H:=iS I1;refine xX 0 rfl ?_;intro I06 le6 hl02;have h34:=SL.of_frozen hl02 le6 h30;have ⟨h31,h32,h33,H⟩:=m4 le6 h31 h32 h33 H;refine xX 0 rfl ?_;intro I07 le7 hl03;have h35:=SL.of_frozen hl03 le7 h33;have ⟨h34,h31,h32,H⟩:=m4 le7 h34 h31 h32 H;refine mU (rc y1 (wC ⟨_,_,_,_,rfl,h34,h31,h32,h35⟩) rN) ?_;intro b6 I08 le8 h37;have H:=H.trans le8;exact yL [] H ⟨_,rfl,rfl,h37⟩
     rintro I1 hf le1 _ _ ⟨rfl,rfl⟩ _ _ ⟨b6,rfl,rfl,h37⟩ _ _ rfl;refine yV [63,74] rfl ?_;have h20:=iM le1 h20;obtain ⟨ccs8,k05,k06⟩:=h37;have h37:SL I1 (vS (some ⟨b6,0,none⟩) ([y1]:List zJ) 1) ([y1]:List zJ):=⟨_,k05,k06⟩;exact qD 74 9 0 rfl rfl rfl h20 (.inl k05) k06 hy10 fun p28 c27 cs10 h38=>vH (hs':=(hO zJ (vS p28 l2 c27) cs10::hB b5 [vS p13 y c12,vS p14 Body c13]::hO zI (vS p9 Parts c8) cs4::hO τ (vS p4 Arrays1 c3) cs1::hB b2 [vS p4 Arrays1 c3,vS p9 Parts c8]::hB b1 zTwo::hB b (cProg p p1 c p2 c1)::hf)) rfl<|yL [hO zJ (vS p28 l2 c27) cs10] iR ⟨_,_,_,rfl,rfl,h38⟩
   rintro I09 le9 _ _ ⟨p28,c27,cs10,rfl,rfl,h38⟩;refine yV [1,2,3,5,6,7,75] rfl ?_;have ⟨h18,h14,h4,h,h1,H⟩:=m6 le9 h18 h14 h4 h h1 H;exact yE 15 [] [76] rfl<|yZ 1 [vS p13 y c12,vS p28 l2 c27] rfl<|zX rfl<|zO<|zK<|zM<|yM [] [7] rfl<|yT<|nT<|ih (W (k04+1)) l2 _ N H h18 h14 h4 h h1 h38 hg ho hx
 intro hc2 N;exact wW<|yW<|hx _ _ _ _ _ (zC N).symm H h20
def sC (p:zF) (i1:Int) (Parts:List zI):Option (List zI):=do
 if (decide (i1<(p.Parts.length:Int))) then
  let x2<-idx p.Parts i1
  let y<-kY x2.Nest
  let Body1<-qQ p i1 0 ([]:List zJ)
  let l3<-app 48 Parts ([(zI.mk y Body1)]:List zI)
  sC p (W (i1+1)) l3
 else
  pure (id Parts)
 partial_fixpoint
theorem zB6 (p:zF):∀ (i1:Int) (Parts:List zI) (o:List zI),sC p i1 Parts=some o->∀ {B}{I0 I:Imm}{Q}{τ:Type} [Rp τ] {Arrays1:List τ}{p1 c p2 c1}{b:Nat}{b1:Nat}{b2:Nat}{p4 c3 cs1 p9 c8 cs4},I0.le I->(RL I cs1 Arrays1)->(S4 I p1 p.Arrays c)->(S4 I p2 p.Parts c1)->(RL I cs4 Parts)->NG Q->NO Q->(∀ (I':Imm) (Parts1:List zI) (p10:Option Addr) (c9:Nat) (cs5:List Value),o=Parts1->I0.le I'->(RL I' cs5 Parts1)->T 84 B Q (.exit 2) I' [hO zI (vS p10 Parts1 c9) cs5,hO τ (vS p4 Arrays1 c3) cs1,hB b2 [vS p4 Arrays1 c3,vS p10 Parts1 c9],hB b1 zTwo] [(2,vP b1 0),(3,vP b2 0)])->J Tryz.prog 84 B (nav (bodyOf Tryz.f34) [1,1,1,0,1,0]) Q I [hO zI (vS p9 Parts c8) cs4,hO τ (vS p4 Arrays1 c3) cs1,hB b2 [vS p4 Arrays1 c3,vS p9 Parts c8],hB b1 zTwo,hB b (cProg p p1 c p2 c1)] [(1,vP b 0),(2,vP b1 0),(3,vP b2 0),(5,vI i1)]:=by
 refine sC.partial_correctness p _ fun self ih i1 Parts o N B I0 I Q τ _ Arrays1 p1 c p2 c1 b b1 b2 p4 c3 cs1 p9 c8 cs4 H h4 h h1 h14 hg ho hx=>yU hg ho<|yD<|yC<|yM [4] [40] rfl<|zK<|yG N ?_ ?_
 · intro hc1 N;refine zS<|zZ<|yF<|yC<|yE 3 [4] [44,45] rfl<|bE N fun x2 hy4 N=>xT rfl rfl h1 hy4 ?_;intro ad3 ccs4 hat3 hrep2;obtain ⟨p11,c10,p12,c11,rfl,h16,h17⟩:=wH hrep2;refine yE 5 [] [47] rfl<|xO 0 hat3 [vS p11 x2.Nest c10] (vS p11 x2.Nest c10) rfl<|bE N fun y hy5 N=>xH (zDO x2.Nest _ hy5 h16) ?_;rintro I04 hs2 v2 k2 le4 - ⟨v04,rfl,rfl,h18⟩ -;have ⟨h14,h4,h,h1,H⟩:=m5 le4 h14 h4 h h1 H;obtain ⟨p13,c12,rfl⟩:=h18.form;refine yE 8 [] [50] rfl<|xU zTwo ?_;intro b5 hb5;refine yZ 0 [vS p13 y c12,z0] rfl<|zX rfl<|zZ<|yH [7] rfl<|wK<|pM [(1,vP b 0),(2,vP b1 0),(3,vP b2 0),(5,vI i1),(6,vP b5 0),(7,vI 0)]<|zAb zJ fun h19=>?_;obtain ⟨o01,ho01,hMl1⟩:=zB N;refine zB5 p i1 0 ([]:List zJ) o01 ho01 iR h18 h14 h4 h h1 h19 (fun _ _ _ h=>hg _ _ _ h) (fun _ _ h=>ho _ _ h) ?_;intro I010 Body1 p15 c14 cs7 heq1 le10 h21;subst o01;have ⟨h18,h14,h4,h,h1,H⟩:=m6 le10 h18 h14 h4 h h1 H;refine zR<|zK<|zM<|tZ 3 [4,1] [(78,vS p9 Parts c8),(79,vA [vS p13 y c12,vS p15 Body1 c14])]<|xX 0 rfl ?_;intro I011 le11 hl05;have h39:=SL.of_frozen hl05 le11 h21;have ⟨h14,h18,h4,h,h1,H⟩:=m6 le11 h14 h18 h4 h h1 H;refine tK [vS p13 y c12,vS p15 Body1 c14] zI ?_;intro b7 hb7;have h40:RL I011 [vS p13 y c12,vS p15 Body1 c14] ([(zI.mk y Body1)]:List zI):=⟨[vS p13 y c12,vS p15 Body1 c14],_,rfl,rfl,(uQ ⟨_,_,rfl,h18,h39⟩),rfl⟩;obtain ⟨l3,hy11,N⟩:=zB hMl1;refine qD 85 2 2 rfl rfl rfl h14 (.inr ⟨0,rfl⟩) h40 hy11 ?_;intro p29 c28 cs11 h41;exact sW (zY [1,2,3,4,5,6] (hs':=[hB b5 [vS p13 y c12,vS p15 Body1 c14],hO zI (vS p29 l3 c28) cs11,hO τ (vS p4 Arrays1 c3) cs1,hB b2 [vS p4 Arrays1 c3,vS p9 Parts c8],hB b1 zTwo,hB b (cProg p p1 c p2 c1)]))<|yE 6 [] [82] rfl<|yZ 3 [vS p4 Arrays1 c3,vS p29 l3 c28] rfl<|zX rfl<|zO<|zK<|zM<|yM [] [5] rfl<|yT<|pL (zW [1,2,3,4,5] rfl (by decide))<|nT<|ih (W (i1+1)) l3 _ N H h4 h h1 h41 hg ho hx
 intro hc1 N;exact wW<|wG (zW [0,1,2,3] rfl (by decide))<|yW<|hx _ _ _ _ _ (zC N).symm H h14
def rK (p:zF):Option (zF):=do
 let Arrays1<-sB p 0 ([]:List zD)
 let Parts1<-sC p 0 ([]:List zI)
 pure (zF.mk Arrays1 Parts1)
theorem zH4:∀ p r,rK p=some r->∀ {I:Imm}{p1 c p2 c1},(S4 I p1 p.Arrays c)->(S4 I p2 p.Parts c1)->RT 34 [vA (cProg p p1 c p2 c1)] I [] (zGB  r):=by
 intro p r N I p1 c p2 c1 h h1;unfold rK at N;refine yJ Tryz.func34 fun B=>yC<|vK (cProg p p1 c p2 c1) ?_;intro b hb;refine xU zTwo ?_;intro b1 hb1;refine zX rfl<|yX<|yE 1 [] [8] rfl<|xU zTwo ?_;intro b2 hb2;refine eQ 0 zTwo [hB b2 zTwo,hB b1 zTwo,hB b (cProg p p1 c p2 c1)] rfl rfl rfl rfl<|zX rfl<|zZ<|yH [4] rfl<|wK<|pM [(1,vP b 0),(2,vP b1 0),(3,vP b2 0),(4,vI 0)]<|zAb zD fun h2=>?_;obtain ⟨o0,ho0,hMl⟩:=zB N;refine zB4 p 0 ([]:List zD) o0 ho0 iR h h1 h2 (fun _ _ _ h=>h) (fun _ _ h=>h) ?_;intro I03 Arrays1 p4 c3 cs1 heq le3 h4;subst o0;have ⟨h,h1⟩:=m2 le3 h h1;refine zR<|zZ<|yH [5] rfl<|wK<|pM [(1,vP b 0),(2,vP b1 0),(3,vP b2 0),(5,vI 0)]<|zAb zI fun h13=>?_;obtain ⟨o02,ho02,hMl2⟩:=zB hMl;refine zB6 p 0 ([]:List zI) o02 ho02 iR h4 h h1 h13 (fun _ _ _ h=>h) (fun _ _ h=>h) ?_;intro I012 Parts1 p10 c9 cs5 heq2 le12 h15;subst o02;have h4:=iM le12 h4;refine zR<|yX<|tZ 1 [2] [(83,vA [vS p4 Arrays1 c3,vS p10 Parts1 c9])]<|yZ 3 [vS p4 Arrays1 c3,vS p10 Parts1 c9] rfl<|zX rfl<|zK<|xD ?_;obtain rfl:=zC hMl2;exact xC ⟨_,_,(.cell 3 rfl rfl (by kernel_rfl) ResV.nil),(zW [1,0] rfl (by decide)),⟨_,_,_,_,_,_,rfl,rfl,h4,h15⟩⟩
theorem zEW (p:zF):∀ (i:Int) (Arrays:List zD) (o:List zD),sB p i Arrays=some o->∀ {B}{I0 I:Imm}{Q p1 c p2 c1}{b:Nat}{b1:Nat}{b2:Nat}{p3 c2 cs}{xs:List ND},I0.le I->(S4 I p1 p.Arrays c)->(S4 I p2 p.Parts c1)->Arrays=xs.map ND.a->(∀ x∈xs,x.ok I)->(RL I cs (xs.map ND.raw))->NG Q->NO Q->(∀ (I':Imm) (xs1:List ND) (p4:Option Addr) (c3:Nat) (cs1:List Value),o=xs1.map ND.a->I0.le I'->(∀ x∈xs1,x.ok I')->RL I' cs1 (xs1.map ND.raw)->T 84 B Q (.exit 0) I' (hO Raw2 (vS p4 (xs1.map ND.raw) c3) cs1::hB b2 [vS p4 (xs1.map ND.raw) c3,z0]::hB b1 zTwo::hB b (cProg p p1 c p2 c1)::NDs xs1) [(1,vP b 0),(2,vP b1 0),(3,vP b2 0)])->J Tryz.prog 84 B (nav (bodyOf Tryz.f34) [1,1,0,1,0]) Q I (hO Raw2 (vS p3 (xs.map ND.raw) c2) cs::hB b2 [vS p3 (xs.map ND.raw) c2,z0]::hB b1 zTwo::hB b (cProg p p1 c p2 c1)::NDs xs) [(1,vP b 0),(2,vP b1 0),(3,vP b2 0),(4,vI i)]:=by
 refine sB.partial_correctness p _ fun self ih i Arrays o N B I0 I Q p1 c p2 c1 b b1 b2 p3 c2 cs xs H h h1 hA hxs h3 hg ho hx=>yU hg ho<|yD<|yC<|yM [3] [13] rfl<|zK<|yG N ?_ ?_
 · intro hc N;refine zS<|zZ<|yF ?_;obtain ⟨x,hy,N⟩:=zB N;obtain ⟨x1,hy1,N⟩:=zB N;obtain ⟨l,hy2,N⟩:=zB N;obtain ⟨l1,hy3,N⟩:=zB N;refine zLj (hs:=[hO Raw2 (vS p3 (xs.map ND.raw) c2) cs,hB b2 [vS p3 (xs.map ND.raw) c2,z0],hB b1 zTwo,hB b (cProg p p1 c p2 c1)]) (L:=NDs xs) .normal (fun I' hs' m'=>∃ p8 c7 cs3 pq cq csq,hs'=[hO Int (vS pq l cq) csq,hO Raw2 (vS p8 (xs.map ND.raw++[(⟨vT x.Name.l,vS pq l cq⟩:Raw2)]) c7) cs3,hB b2 [vS p8 (xs.map ND.raw++[(⟨vT x.Name.l,vS pq l cq⟩:Raw2)]) c7,z0],hB b1 zTwo,hB b (cProg p p1 c p2 c1)]/\m'=[(1,vP b 0),(2,vP b1 0),(3,vP b2 0),(4,vI i)]/\RL I' cs3 (xs.map ND.raw++[(⟨vT x.Name.l,vS pq l cq⟩:Raw2)])/\RL I' csq l) (fun B0=>?_) ?_
   · refine wP [.p (vP b2 0) [],.p (vS p3 (xs.map ND.raw) c2) [0],.p (vP b 0) [],.p (vS p1 p.Arrays c) [2],.p (vI i) [],.x (ePArr x),.x (ePArr x),.q (vT x.Name.l),.x (fun I' v hx=>∃ b3,v=vS (some ⟨b3,0,none⟩) ([]:List Int) 0/\hx=[hO Int (vS (some ⟨b3,0,none⟩) ([]:List Int) 0) []]/\(RL I' [] ([]:List Int))),.p (vP b 0) [],.p (vS p1 p.Arrays c) [2],.p (vI i) [],.x (ePArr x1),.x (eQArr 1 x1),.x (eS x1.Dims),.x (fun I' v hx=>∃ p7 c6 cs2,v=vS p7 l c6/\hx=[hO Int (vS p7 l c6) cs2]/\(RL I' cs2 l)),.x (fun I' v hx=>∃ p71 c61 cs21,v=vA [vT x.Name.l,vS p71 l c61]/\hx=[hO Int (vS p71 l c61) cs21]/\(RL I' cs21 l)),.x (fun I' v hx=>∃ b4 pq cq csq,v=vS (some ⟨b4,0,none⟩) [(⟨vT x.Name.l,vS pq l cq⟩:Raw2)] 1/\hx=[hO Int (vS pq l cq) csq]/\RL I' csq l/\SL I' (vS (some ⟨b4,0,none⟩) [(⟨vT x.Name.l,vS pq l cq⟩:Raw2)] 1) [(⟨vT x.Name.l,vS pq l cq⟩:Raw2)]),.x (fun I' v hx=>∃ p8 c7 cs3 pq cq csq,v=vS p8 (xs.map ND.raw++[(⟨vT x.Name.l,vS pq l cq⟩:Raw2)]) c7/\hx=[hO Raw2 (vS p8 (xs.map ND.raw++[(⟨vT x.Name.l,vS pq l cq⟩:Raw2)]) c7) cs3,hO Int (vS pq l cq) csq]/\RL I' cs3 (xs.map ND.raw++[(⟨vT x.Name.l,vS pq l cq⟩:Raw2)])/\RL I' csq l)] [[],[(0,false)],[],[(2,false)],[],[(3,false),(4,false)],[(5,false)],[(6,false)],[],[],[(9,false)],[],[(10,false),(11,false)],[(12,false)],[(13,false)],[(8,true),(14,false)],[(7,false),(15,true)],[(16,true)],[(1,false),(17,true),(21,true)]] [hB b2 [vS p3 (xs.map ND.raw) c2,z0],hB b1 zTwo,hB b (cProg p p1 c p2 c1)] [[hO Raw2 (vS p3 (xs.map ND.raw) c2) cs]] [(18,true)] (zY [1,2,3,0]) ?_ ?_
     · refine Op<|Op<|Op<|Op<|Op<|Ox ?_<|Ox ?_<|Oq ?_<|Ox ?_<|Op<|Op<|Op<|Ox ?_<|Ox ?_<|Ox ?_<|Ox ?_<|Ox ?_<|Ox ?_<|Ox ?_<|On
       · intro I1 hf le1;refine yV [19,20] rfl ?_;have h:=h.mono le1;refine xT rfl rfl h hy ?_;intro ad ccs hat hrep;obtain ⟨p5,c4,rfl,h5⟩:=xL hrep;exact yL [] iR ⟨_,_,_,rfl,rfl,hat,h5⟩
       · rintro I1 hf le1 _ _ ⟨ad,p5,c4,rfl,rfl,hat,h5⟩;exact yV [21] rfl<|qA 7 [(22,.pointer (some ad))]<|yL [] iR ⟨_,_,_,rfl,rfl,hat,h5⟩
       · rintro I1 hf le1 _ _ ⟨ad1,p51,c41,rfl,rfl,hat1,h51⟩;exact yV [22] rfl<|xO 0 hat1 [vT x.Name.l] (vT x.Name.l) rfl<|xB iR
       · intro I1 hf le1;refine dS []<|tK [] Int ?_;intro b3 hb3;have h6:RL I1 [] ([]:List Int):=rfl;exact yL [hO Int (vS (some ⟨b3,0,none⟩) ([]:List Int) 0) []] iR ⟨_,rfl,rfl,h6⟩
       · intro I1 hf le1;refine yV [26,27] rfl ?_;have h:=h.mono le1;refine xT rfl rfl h hy1 ?_;intro ad2 ccs1 hat2 hrep1;obtain ⟨p6,c5,rfl,h7⟩:=xL hrep1;exact yL [] iR ⟨_,_,_,rfl,rfl,hat2,h7⟩
       · rintro I1 hf le1 _ _ ⟨ad2,p6,c5,rfl,rfl,hat2,h7⟩;exact yV [28] rfl<|qA 14 [(29,.pointer (some (ad2.add 1)))]<|yL [] iR ⟨_,_,_,rfl,rfl,hat2,h7⟩
       · rintro I1 hf le1 _ _ ⟨ad21,p61,c51,rfl,rfl,hat21,h71⟩;exact yV [29] rfl<|xO 1 hat21 [vS p61 x1.Dims c51] (vS p61 x1.Dims c51) rfl<|yL [] iR ⟨_,_,rfl,rfl,h71⟩
       · rintro I1 hf le1 _ _ ⟨b3,rfl,rfl,h6⟩ _ _ ⟨p611,c511,rfl,rfl,h711⟩;refine yV [24,30] rfl ?_;obtain ⟨ccs2,k0,k01⟩:=h711;have h711:SL I1 (vS p611 x1.Dims c511) x1.Dims:=⟨_,k0,k01⟩;exact qD 3 1 0 rfl rfl rfl h6 (.inl k0) k01 hy2 fun p7 c6 cs2 h8=>vH (hs':=(hO Int (vS p7 l c6) cs2::hB b2 [vS p3 (xs.map ND.raw) c2,z0]::hB b1 zTwo::hB b (cProg p p1 c p2 c1)::hf)) rfl<|yL [hO Int (vS p7 l c6) cs2] iR ⟨_,_,_,rfl,rfl,h8⟩
       · rintro I1 hf le1 _ _ ⟨rfl,rfl⟩ _ _ ⟨p7,c6,cs2,rfl,rfl,h8⟩;exact yV [23,31] rfl<|qA 17 [(32,vA [vT x.Name.l,vS p7 l c6])]<|yL [hO Int (vS p7 l c6) cs2] iR ⟨_,_,_,rfl,rfl,h8⟩
       · rintro I1 hf le1 _ _ ⟨p71,c61,cs21,rfl,rfl,h81⟩;refine yV [32] rfl<|tK [vT x.Name.l,vS p71 l c61] Raw2 ?_;intro b4 hb4;have h8:RL I1 [vT x.Name.l,vS p71 l c61] [(⟨vT x.Name.l,vS p71 l c61⟩:Raw2)]:=⟨[vT x.Name.l,vS p71 l c61],[],rfl,rfl,⟨rfl,rfl,rfl⟩,rfl⟩;refine xX 0 rfl ?_;intro I02 le2 hl01;have h9:SL I02 (vS (some ⟨b4,0,none⟩) [(⟨vT x.Name.l,vS p71 l c61⟩:Raw2)] 1) [(⟨vT x.Name.l,vS p71 l c61⟩:Raw2)]:=SL.of_frozen hl01 le2 h8;exact yL [hO Int (vS p71 l c61) cs21] le2 ⟨_,_,_,_,rfl,rfl,iM le2 h81,h9⟩
       rintro I1 hf le1 _ _ ⟨rfl,rfl⟩ _ _ ⟨b4,pq,cq,csq,rfl,rfl,hq,h9⟩ _ _ rfl;refine yV [17,33] rfl ?_;have h3:=iM le1 h3;obtain ⟨ccs1,k0,k01⟩:=h9;refine qD (α:=Raw2) 60 2 0 rfl rfl rfl h3 (.inl k0) k01 (zFG (l':=xs.map ND.raw) (m':=[(⟨vT x.Name.l,vS pq l cq⟩:Raw2)]) hy3 (by rw [hA]; simp) rfl) ?_;intro p8 c7 cs3 h10;exact vH (hs':=(hO Raw2 (vS p8 (xs.map ND.raw++[(⟨vT x.Name.l,vS pq l cq⟩:Raw2)]) c7) cs3::hO Int (vS pq l cq) csq::hB b2 [vS p3 (xs.map ND.raw) c2,z0]::hB b1 zTwo::hB b (cProg p p1 c p2 c1)::hf)) rfl<|yL [hO Raw2 (vS p8 (xs.map ND.raw++[(⟨vT x.Name.l,vS pq l cq⟩:Raw2)]) c7) cs3,hO Int (vS pq l cq) csq] iR ⟨_,_,_,_,_,_,rfl,rfl,h10,hq⟩
     rintro I02 le2 _ _ ⟨p8,c7,cs3,pq,cq,csq,rfl,rfl,h10,hq⟩;exact pT<|zAl [(1,vP b 0),(2,vP b1 0),(3,vP b2 0),(4,vI i),(34,vS p8 (xs.map ND.raw++[(⟨vT x.Name.l,vS pq l cq⟩:Raw2)]) c7)]<|yE 20 [] [35] rfl<|yZ 2 [vS p8 (xs.map ND.raw++[(⟨vT x.Name.l,vS pq l cq⟩:Raw2)]) c7,z0] rfl<|zX rfl<|wG (zY [1,0,2,3,4] (hs':=[hO Int (vS pq l cq) csq,hO Raw2 (vS p8 (xs.map ND.raw++[(⟨vT x.Name.l,vS pq l cq⟩:Raw2)]) c7) cs3,hB b2 [vS p8 (xs.map ND.raw++[(⟨vT x.Name.l,vS pq l cq⟩:Raw2)]) c7,z0],hB b1 zTwo,hB b (cProg p p1 c p2 c1)]))<|T_w [(1,vP b 0),(2,vP b1 0),(3,vP b2 0),(4,vI i)]<|zLk ⟨_,_,_,_,_,_,rfl,rfl,h10,hq⟩
   rintro I5 hs5 m5 ⟨p8,c7,cs3,pq,cq,csq,rfl,rfl,h10,hq⟩ le5;have e1:(xs++[(⟨x.Name,pq,l,cq,csq⟩:ND)]).map ND.raw=xs.map ND.raw++[(⟨vT x.Name.l,vS pq l cq⟩:Raw2)]:=by rw [List.map_append]; rfl
   have e2:l1=(xs++[(⟨x.Name,pq,l,cq,csq⟩:ND)]).map ND.a:=by rw [List.map_append,<- hA]; exact (zAa hy3).2.symm
   have e3:NDs (xs++[(⟨x.Name,pq,l,cq,csq⟩:ND)])=NDs xs++[hO Int (vS pq l cq) csq]:=List.map_append ..;rw [<- e1] at h10 ⊢;refine zM0 ([hO Raw2 (vS p8 ((xs++[(⟨x.Name,pq,l,cq,csq⟩:ND)]).map ND.raw) c7) cs3,hB b2 [vS p8 ((xs++[(⟨x.Name,pq,l,cq,csq⟩:ND)]).map ND.raw) c7,z0],hB b1 zTwo,hB b (cProg p p1 c p2 c1)]++(NDs xs++[hO Int (vS pq l cq) csq])) (zIp _ _ _) ?_;rw [<- e3];exact zO<|zK<|zM<|yM [] [4] rfl<|yT<|nT<|ih (W (i+1)) l1 _ N (H.trans le5) (h.mono le5) (h1.mono le5) e2 (zLO (fun x hx=>(hxs x hx).mono le5) hq) h10 hg ho hx
 intro hc N;exact wW<|yW<|hx _ xs _ _ _ ((zC N).symm.trans hA) H hxs h3
def zFJ (r:zF):KT:=fun kk I' hs' v=>
  ∃ (xs:List ND) (pa:Option Addr) (ca:Nat) (csa:List Value) (pp:Option Addr) (cp:Nat),hs'=hO Raw2 (vS pa (xs.map ND.raw) ca) csa::NDs xs/\v=tupV [vA [vS pa (xs.map ND.raw) ca,vS pp r.Parts cp]]/\r.Arrays=xs.map ND.a/\(∀ x∈xs,x.ok I')/\RL I' csa (xs.map ND.raw)/\SL I' (vS pp r.Parts cp) r.Parts
theorem zGa:∀ (p:zF) r,rK p=some r->∀ {I:Imm}{p1 c p2 c1},(S4 I p1 p.Arrays c)->(S4 I p2 p.Parts c1)->RT 34 [vA (cProg p p1 c p2 c1)] I [] (zFJ r):=by
 intro p r N I p1 c p2 c1 h h1;unfold rK at N;refine yJ Tryz.func34 fun B=>yC<|vK (cProg p p1 c p2 c1) ?_;intro b hb;refine xU zTwo ?_;intro b1 hb1;refine zX rfl<|yX<|yE 1 [] [8] rfl<|xU zTwo ?_;intro b2 hb2;refine eQ 0 zTwo [hB b2 zTwo,hB b1 zTwo,hB b (cProg p p1 c p2 c1)] rfl rfl rfl rfl<|zX rfl<|zZ<|yH [4] rfl<|wK<|pM [(1,vP b 0),(2,vP b1 0),(3,vP b2 0),(4,vI 0)]<|pL (gZ (Rp.sz Raw2)) ?_;obtain ⟨o0,ho0,hMl⟩:=zB N;refine zEW p 0 ([]:List zD) o0 ho0 (xs:=[]) iR h h1 rfl (fun _ h=>by cases h) RepL.nil (fun _ _ _ h=>h) (fun _ _ h=>h) ?_;intro I03 xs p4 c3 cs1 heq le3 hxs h4;subst o0;have ⟨h,h1⟩:=m2 le3 h h1;obtain ⟨o02,ho02,hMl2⟩:=zB hMl;refine zR<|zZ<|zLj (hs:=[hO Raw2 (vS p4 (xs.map ND.raw) c3) cs1,hB b2 [vS p4 (xs.map ND.raw) c3,z0],hB b1 zTwo,hB b (cProg p p1 c p2 c1)]) (L:=NDs xs) .normal (fun I' hs' m'=>∃ p10 c9 cs5,hs'=[hO zI (vS p10 o02 c9) cs5,hO Raw2 (vS p4 (xs.map ND.raw) c3) cs1,hB b2 [vS p4 (xs.map ND.raw) c3,vS p10 o02 c9],hB b1 zTwo]/\m'=[(2,vP b1 0),(3,vP b2 0)]/\RL I' cs5 o02/\RL I' cs1 (xs.map ND.raw)) (fun B0=>?_) ?_
 · refine yH [5] rfl<|wK<|pM [(1,vP b 0),(2,vP b1 0),(3,vP b2 0),(5,vI 0)]<|zAb zI fun h13=>?_;refine zB6 p 0 ([]:List zI) o02 ho02 iR h4 h h1 h13 (fun _ _ _ h=>by cases h.1) (fun _ _ h=>by cases h.1) ?_;intro I012 Parts1 p10 c9 cs5 heq2 le12 h15;subst o02;exact zR<|zLk ⟨_,_,_,rfl,rfl,h15,iM le12 h4⟩
 rintro I5 hs5 m5 ⟨p10,c9,cs5,rfl,rfl,h15,h5⟩ le5;refine yX<|tZ 1 [2] [(83,vA [vS p4 (xs.map ND.raw) c3,vS p10 o02 c9])]<|eQ 3 [vS p4 (xs.map ND.raw) c3,vS p10 o02 c9] (hO zI (vS p10 o02 c9) cs5::hO Raw2 (vS p4 (xs.map ND.raw) c3) cs1::hB b2 [vS p4 (xs.map ND.raw) c3,vS p10 o02 c9]::hB b1 [vS p4 (xs.map ND.raw) c3,vS p10 o02 c9]::NDs xs) rfl rfl rfl rfl<|zX rfl<|xI<|xE 0 rfl ?_;intro I6 le6 hl6;have h22:=SL.of_frozen hl6 le6 h15;obtain rfl:=zC hMl2;exact xC ⟨_,_,(.cell 2 rfl rfl (by kernel_rfl) ResV.nil),(kM [hO Raw2 (vS p4 (xs.map ND.raw) c3) cs1,hB b2 [vS p4 (xs.map ND.raw) c3,vS p10 o02 c9],hB b1 [vS p4 (xs.map ND.raw) c3,vS p10 o02 c9]] (NDs xs) [0] rfl (by decide)),⟨xs,_,_,_,_,_,rfl,rfl,rfl,(fun x hx=>(hxs x hx).mono (le5.trans le6)),iM le6 h5,h22⟩⟩
def zDr (b0:Nat) (r:Int×zP):KT:=fun kk I' hs' v=>
  ∃ v0 k0,hs'=[.blk b0 ⟨k0⟩]/\v=tupV [v0]/\v0=.int .i64 r.1/\Rp.rep I' k0 r.2
def xG (r0:zP) (list:(List Int)):Option (Int×zP):=do
 let (y1,y2)<-xF r0 (list.length:Int)
 let x<-idx list y1
 pure (x,y2)
theorem xR:∀ r0 list r,xG r0 list=some r->∀ {I:Imm}{r01:Nat}{p c p1 c1},(S4 I p r0.b c)->(S4 I p1 list c1)->RT 55 [vP r01 0,vS p1 list c1] I [hB r01 (cRd r0 p c)] (zDr r01 r):=by
 intro r0 list r N I r01 p c p1 c1 h h1;unfold xG at N;refine yJ Tryz.func55 fun B=>vM []<|yX<|yE 4 [] [5,6,8] rfl ?_;obtain ⟨⟨y1,y2⟩,hy,N⟩:=zB N;refine rS (wD r0 (list.length:Int) _ hy h) rfl ?_;rintro I0 hs2 v2 k2 le - ⟨v0,kk,rfl,rfl,rfl,h3⟩ -;have h1:=h1.mono le;obtain ⟨p2,c2,rfl,h4⟩:=yA h3;obtain ⟨x,hy1,N⟩:=zB N;refine xT rfl rfl h1 hy1 ?_;intro ad ccs hat hrep;obtain rfl:=hrep;refine xO 0 hat [vI x] (vI x) rfl<|yM [] [4] rfl<|zK<|xD ?_;obtain rfl:=zC N;exact xC ⟨_,_,(.tmp rfl ResV.nil),(zW [0] rfl (by decide)),⟨_,_,rfl,rfl,rfl,(yY ⟨_,rfl,h4⟩)⟩⟩
def zBy (r:zA):KT:=fun kk I' hs' v=>
  ∃ a0_0 c0_0 s0_0,hs'=[.osl (.slice a0_0 r.Coefs.length c0_0) (Rp.sz Int) s0_0]/\v=tupV [(.agg ⟨[.slice a0_0 r.Coefs.length c0_0,.int .i64 r.Const]⟩)]/\RepL (Rp.rep I') (Rp.sz Int) s0_0 r.Coefs
def mV :Option (zA):=do
 pure (zA.mk ([0,0,0,0]:List Int) 0)
theorem fD:∀ r,mV =some r->∀ {I:Imm} ,RT 117 [] I [] (zBy  r):=by
 intro  r N I;unfold mV at N;refine yJ Tryz.func117 fun B=>yC<|xU [z0,vI 0] ?_;intro b hb;refine zX rfl<|yX<|tK [vI 0,vI 0,vI 0,vI 0] Int ?_;intro b1 hb1;have h:RL I [vI 0,vI 0,vI 0,vI 0] ([0,0,0,0]:List Int):=rI [0,0,0,0];refine yE 2 [] [2] rfl<|yZ 1 [vS (some ⟨b1,0,none⟩) ([0,0,0,0]:List Int) 4,vI 0] rfl<|zX rfl<|zK<|xD ?_;obtain rfl:=zC N;exact xC ⟨_,_,(.cell 1 rfl rfl (by kernel_rfl) ResV.nil),(zW [0] rfl (by decide)),⟨_,_,_,rfl,rfl,h⟩⟩
def kW (v0:Int):Option (zA):=do
 let y<-mV
 let x<-idx y.Coefs v0
 let l<-pure (y.Coefs.set v0.toNat 1)
 pure (zA.mk l y.Const)
theorem dX:∀ v0 r,kW v0=some r->∀ {I:Imm} ,RT 115 [vI v0] I [] (oN  r):=by
 intro v0 r N I;unfold kW at N;refine yJ Tryz.func115 fun B=>yC<|xU [z0,vI 0] ?_;intro b hb;refine zX rfl<|yX<|bE N fun y hy N=>xH (fD  _ hy ) ?_;rintro I0 hs2 v2 k2 le - ⟨p,c,cs,rfl,rfl,h⟩ -;refine xU [z0,vI 0] ?_;intro b1 hb1;refine yZ 0 (cAff y p c) rfl<|zX rfl<|yX<|yE 3 [0] [6,7] rfl<|bE N fun x hy1 N=>nU 1 rfl rfl rfl h hy1 ?_;intro ad ccs hat hcc hrep;obtain rfl:=hrep;obtain ⟨l,hy2,N⟩:=zB N;refine qE (c:=[vI 1]) (x':=1) 1 0 rfl rfl rfl hat rfl rfl hcc (by kernel_rfl) (by kernel_rfl) (by kernel_rfl) h hy1 (by kernel_rfl) rfl ?_;rw [show y.Coefs.set v0.toNat 1=l from zC hy2];intro cs1 h1 hl0;refine fY (m':=[(2,vP b 0),(3,vP b1 0),(6,vS p y.Coefs c),(7,vI v0)]) ⟨rfl,rfl,rfl,rfl,trivial⟩<|zCX (hs':=[hB b1 [vS p l c,vI y.Const],hO Int (vS p l c) cs1,hB b [z0,vI 0]]) (m':=[(2,vP b 0),(3,vP b1 0),(6,vS p l c),(7,vI v0)]) (by first | rfl | simp only [vS,hl0,List.nil_append,List.cons_append,List.set_cons_zero,List.set_cons_succ,List.eraseIdx_cons_zero,List.eraseIdx_cons_succ]) (by first | rfl | simp only [vS,hl0])<|zX rfl<|yX<|tZ 1 [0] [(9,vA [vS p l c,vI y.Const])]<|yZ 2 [vS p l c,vI y.Const] rfl<|zX rfl<|xI<|xE 1 rfl ?_;intro I01 le1 hl01;have h2:=SL.of_frozen hl01 le1 h1;obtain rfl:=zC N;exact xC ⟨_,_,(.cell 1 rfl rfl (by kernel_rfl) ResV.nil),zQ,⟨_,rfl,rfl,⟨_,rfl,(yI ⟨_,rfl,h2⟩)⟩⟩⟩
def uC (n0:Int):Option (zA):=do
 let y<-mV
 pure (zA.mk y.Coefs n0)
theorem tX:∀ n0 r,uC n0=some r->∀ {I:Imm} ,RT 116 [vI n0] I [] (zBy  r):=by
 intro n0 r N I;unfold uC at N;refine yJ Tryz.func116 fun B=>yC<|xU [z0,vI 0] ?_;intro b hb;refine zX rfl<|yX<|bE N fun y hy N=>xH (fD  _ hy ) ?_;rintro I0 hs2 v2 k2 le - ⟨p,c,cs,rfl,rfl,h⟩ -;refine xU [z0,vI 0] ?_;intro b1 hb1;refine yZ 0 (cAff y p c) rfl<|zX rfl<|yX<|yE 2 [] [5,6] rfl<|yZ 0 [vS p y.Coefs c,vI n0] rfl<|zX rfl<|yX<|tZ 1 [0] [(7,vA [vS p y.Coefs c,vI n0])]<|yZ 2 [vS p y.Coefs c,vI n0] rfl<|zX rfl<|zK<|xD ?_;obtain rfl:=zC N;exact xC ⟨_,_,(.cell 2 rfl rfl (by kernel_rfl) ResV.nil),(zW [1] rfl (by decide)),⟨_,_,_,rfl,rfl,h⟩⟩
theorem zM6 (xs:List NL) (x:NL):(x.ha++NLs xs).Perm (NLs (xs++[x])):=by
  simp only [NLs,List.flatMap_append,List.flatMap_cons,List.flatMap_nil,List.append_nil];exact List.perm_append_comm
theorem zEX (nest:(List zE)):∀ (out:List zE) (i:Int) (o:List zE),sA nest out i=some o->∀ {B}{I0 I:Imm}{Q p c p1 c1 cs}{xs:List NL},I0.le I->(S4 I p nest c)->(RL I cs (xs.map NL.raw))->out=xs.map NL.d->(∀ x∈xs,x.ok I)->(∀ l a w,¬Q (.goto l) a w)->(∀ a w,¬Q .outgrown a w)->(∀ (I':Imm) (p2:Option Addr) (c2:Nat) (cs1:List Value) (ys:List NL),I0.le I'->o=ys.map NL.d->(RL I' cs1 (ys.map NL.raw))->(∀ x∈ys,x.ok I')->T 83 B Q (.exit 0) I' (hO Raw2 (vS p2 (ys.map NL.raw) c2) cs1::NLs ys) [(3,vS p2 (ys.map NL.raw) c2)])->J Tryz.prog 83 B (nav (bodyOf Tryz.f70) [1,1,0,1,0]) Q I (hO Raw2 (vS p1 (xs.map NL.raw) c1) cs::NLs xs) [(0,vS p nest c),(3,vS p1 (xs.map NL.raw) c1),(4,vI i)]:=by
 refine sA.partial_correctness nest _ fun self ih out i o N B I0 I Q p c p1 c1 cs xs H h h2 hout hxs hg ho hx=>yU hg ho<|yD<|yH [14] rfl<|zK<|yG N ?_ ?_
 · intro hc N;refine zS<|zZ<|yF<|yC<|yE 1 [] [17] rfl<|xU zTwo ?_;intro b1 hb1;refine eQ 0 zTwo (hB b1 zTwo::hO Raw2 (vS p1 (xs.map NL.raw) c1) cs::NLs xs) rfl rfl rfl rfl<|zX rfl<|zZ<|yH [6] rfl<|wK<|pM [(0,vS p nest c),(3,vS p1 (xs.map NL.raw) c1),(4,vI i),(5,vP b1 0),(6,vI 0)]<|zAb zA fun h4=>?_;obtain ⟨o0,ho0,hMl⟩:=zB N;refine zLj (hs:=[hO zA (vS none ([]:List zA) 0) [],hB b1 zTwo,hO Raw2 (vS p1 (xs.map NL.raw) c1) cs]) (L:=NLs xs) (.exit 2) (fun I' hs' m'=>∃ p4 c4 cs3,RL I' cs3 o0/\hs'=[hO zA (vS p4 o0 c4) cs3,hB b1 [vS p4 o0 c4,z0],hO Raw2 (vS p1 (xs.map NL.raw) c1) cs]/\m'=[(0,vS p nest c),(3,vS p1 (xs.map NL.raw) c1),(4,vI i),(5,vP b1 0)]) (fun B'=>?_) ?_
   · refine zB2 nest i 0 ([]:List zA) o0 ho0 iR h h2 h4 (fun _ _ _ h=>by cases h.1) (fun _ _ h=>by cases h.1) ?_;intro I03 Lo1 p4 c4 cs3 heq le3 h6;subst o0;exact zLk ⟨_,_,_,h6,rfl,rfl⟩
   rintro I03 _ _ ⟨p4,c4,cs3,h6,rfl,rfl⟩ le3;have ⟨h,h2⟩:=m2 le3 h h2;have hxs:=fun x hx=>(hxs x hx).mono le3;have H:=H.trans le3;refine zR<|zZ<|yH [8] rfl<|wK<|pM [(0,vS p nest c),(3,vS p1 (xs.map NL.raw) c1),(4,vI i),(5,vP b1 0),(8,vI 0)]<|zAb zA fun h18=>?_;obtain ⟨o01,ho01,hMl1⟩:=zB hMl;refine zLj (hs:=[hO zA (vS none ([]:List zA) 0) [],hO zA (vS p4 o0 c4) cs3,hB b1 [vS p4 o0 c4,z0],hO Raw2 (vS p1 (xs.map NL.raw) c1) cs]) (L:=NLs xs) (.exit 4) (fun I' hs' m'=>∃ p13 c13 cs7,RL I' cs7 o01/\hs'=[hO zA (vS p13 o01 c13) cs7,hO zA (vS p4 o0 c4) cs3,hB b1 [vS p4 o0 c4,vS p13 o01 c13],hO Raw2 (vS p1 (xs.map NL.raw) c1) cs]/\m'=[(0,vS p nest c),(3,vS p1 (xs.map NL.raw) c1),(4,vI i),(5,vP b1 0)]) (fun B'=>?_) ?_
   · refine zB3 nest i 0 ([]:List zA) o01 ho01 iR h h2 h6 h18 (fun _ _ _ h=>by cases h.1) (fun _ _ h=>by cases h.1) ?_;intro I07 Hi1 p13 c13 cs7 heq1 le7 h20;subst o01;exact zLk ⟨_,_,_,h20,rfl,rfl⟩
   rintro I07 _ _ ⟨p13,c13,cs7,h20,rfl,rfl⟩ le7;have ⟨h,h2,h6⟩:=m3 le7 h h2 h6;have hxs:=fun x hx=>(hxs x hx).mono le7;have H:=H.trans le7;obtain ⟨out2,hy10,N⟩:=zB hMl1;have hy11:=zFG (l':=xs.map NL.raw) (m':=[(⟨vS p4 o0 c4,vS p13 o01 c13⟩:Raw2)]) hy10 (by simp [hout]) rfl;obtain ⟨_,rfl⟩:=zAa hy10;have h34:RL I07 [vS p4 o0 c4,vS p13 o01 c13] [(⟨vS p4 o0 c4,vS p13 o01 c13⟩:Raw2)]:=⟨[vS p4 o0 c4,vS p13 o01 c13],[],rfl,rfl,⟨rfl,rfl,rfl⟩,rfl⟩;refine zR<|zK<|zM<|tZ 2 [2] [(78,vS p1 (xs.map NL.raw) c1),(79,vA [vS p4 o0 c4,vS p13 o01 c13])]<|tK [vS p4 o0 c4,vS p13 o01 c13] Raw2 ?_;intro b8 hb8;refine qD 130 2 4 rfl rfl rfl h2 (.inr ⟨0,rfl⟩) h34 hy11 ?_;intro p21 c21 cs10 h35;have eR:xs.map NL.raw++[(⟨vS p4 o0 c4,vS p13 o01 c13⟩:Raw2)]=(xs++[(⟨p4,o0,c4,cs3,p13,o01,c13,cs7⟩:NL)]).map NL.raw:=by simp [NL.raw,NL.vl,NL.vh]
   have eD:out++[(⟨o0,o01⟩:zE)]=(xs++[(⟨p4,o0,c4,cs3,p13,o01,c13,cs7⟩:NL)]).map NL.d:=by simp [hout,NL.d]
   rw [eR] at h35 ⊢;refine yM [] [3] rfl<|zO<|zK<|zM<|yM [] [4] rfl<|yT<|pL (zFq 0 rfl)<|pL (zFq 2 rfl)<|zDM _ ?_<|pM [(0,vS p nest c),(3,vS p21 ((xs++[(⟨p4,o0,c4,cs3,p13,o01,c13,cs7⟩:NL)]).map NL.raw) c21),(4,vI (W (i+1)))]<|ih _ (W (i+1)) _ N H h h35 eD ?_ hg ho hx
   · show List.Perm _ (hO zA (vS p13 o01 c13) cs7::hO zA (vS p4 o0 c4) cs3::hO Raw2 (vS p21 ((xs++[(⟨p4,o0,c4,cs3,p13,o01,c13,cs7⟩:NL)]).map NL.raw) c21) cs10::NLs xs);exact List.Perm.trans ((zM6 xs ⟨p4,o0,c4,cs3,p13,o01,c13,cs7⟩).symm.cons _)<|(List.Perm.swap _ _ _).trans (List.Perm.cons _ (List.Perm.swap _ _ _))
   intro x hx';rcases List.mem_append.1 hx' with hx' | hx'
   · exact hxs x hx'
   rw [List.mem_singleton.1 hx']; exact ⟨h6,h20⟩
 intro hc N;have:=zC N;simp only [id] at this;exact wW<|yW<|hx _ _ _ _ _ H (by rw [<- this,hout]) h2 hxs
def zFK (r:(List zE)):KT:=fun kk I' hs' v=>
  ∃ (p:Option Addr) (c:Nat) (cs:List Value) (xs:List NL),hs'=hO Raw2 (vS p (xs.map NL.raw) c) cs::NLs xs/\v=tupV [vS p (xs.map NL.raw) c]/\RL I' cs (xs.map NL.raw)/\r=xs.map NL.d/\∀ x∈xs,x.ok I'
theorem zGb:∀ (nest:(List zE)) r,kY nest=some r->∀ {I:Imm}{p c},(S4 I p nest c)->RT 70 [vS p nest c] I [] (zFK  r):=by
 intro nest r N I p c h;unfold kY at N;refine yJ Tryz.func70 fun B=>vM []<|yX<|tK [] zE ?_;intro b hb;have h1:RL I [] (([]:List NL).map NL.raw):=rfl;refine yM [] [3] rfl<|zZ<|yH [4] rfl<|wK<|pM [(0,vS p nest c),(3,vS (some ⟨b,0,none⟩) (([]:List NL).map NL.raw) 0),(4,vI 0)] ?_;obtain ⟨o02,ho02,hMl2⟩:=zB N;refine zEX nest ([]:List zE) 0 o02 ho02 (xs:=[]) iR h h1 rfl (fun _ h=>by cases h) (fun _ _ _ h=>h) (fun _ _ h=>h) ?_;intro I1 p2 c2 cs1 ys le10 ho h3 hok;have:=zC hMl2;simp only [id] at this;subst this;exact zR<|uN [2] rfl<|xI<|xC ⟨_,_,(.tmp rfl ResV.nil),(fun _ g=>g),⟨_,_,_,ys,rfl,rfl,h3,ho,hok⟩⟩
def pX (out:List zE):Option (List zE):=do
 if (decide ((out.length:Int)<=4)) then
  let x<-idx out 0
  let l<-app 48 out ([x]:List zE)
  pX l
 else
  pure (id out)
 partial_fixpoint
def kO (r0:zP) (nest:(List zE)):Option ((List zE)×zP):=do
 let y<-kY nest
 if ((y.length:Int)==0) then
  pure (y,r0)
 else
  let (y2,y3)<-xF r0 40
  if (y2==0) then
   let x<-idx y 0
   let (y5,y6)<-xF y3 2
   let y7<-kW y5
   let l<-app 32 x.Lo ([y7]:List zA)
   pure (y.set 0 (zE.mk l x.Hi),y6)
  else
   if (y2==1) then
    let x<-idx y (W ((y.length:Int) - 1))
    pure (y.set (W ((y.length:Int) - 1)).toNat (zE.mk x.Lo []),y3)
   else
    if (y2==2) then
     let x<-idx y (W ((y.length:Int) - 1))
     let y7<-uC 1
     let y8<-uC 2
     let l<-app 32 x.Hi ([y7,y8]:List zA)
     pure (y.set (W ((y.length:Int) - 1)).toNat (zE.mk x.Lo l),y3)
    else
     if (y2==3) then
      let y7<-uC 99
      let x<-idx y 0
      pure (y.set 0 (zE.mk x.Lo [y7]),y3)
     else
      if (y2==4) then
       let z<-pX y
       pure (z,y3)
      else
       pure (y,y3)
theorem zDs:∀ (out:List zE) (o:List zE),pX out=some o->∀ {B}{I0 I:Imm}{Q}{K:HA}{p1 c1 cs},I0.le I->RL I cs out->(∀ l a w,¬Q (.goto l) a w)->(∀ a w,¬Q .outgrown a w)->(∀ (I':Imm) (p2:Option Addr) (c2:Nat) (cs1:List Value),I0.le I'->RL I' cs1 o->T 73 B Q (.exit 1) I' [hO zE (vS p2 o c2) cs1,K] [(5,vS p2 o c2)])->J Tryz.prog 73 B (nav (bodyOf Tryz.f83) [1,1,1,1,0,1,0,1,1,1,1,1,1,1,1,1,0,0]) Q I [hO zE (vS p1 out c1) cs,K] [(5,vS p1 out c1)]:=by
 refine pX.partial_correctness _ fun self ih out o N B I0 I Q K p1 c1 cs H h hg ho hx=>yU hg ho<|yD<|yH [65] rfl<|zK<|yG N ?_ ?_
 · intro hc N;obtain ⟨x,hy,N⟩:=zB N;obtain ⟨l,hy1,N⟩:=zB N;refine zS<|wK<|zM<|yE 2 [] [66,67] rfl<|nU 0 rfl rfl rfl h hy ?_;intro ad ccs hat hcc hrep;obtain ⟨p3,c3,p4,c4,rfl,h1,h2⟩:=wZ hrep;refine zBu 0 0 hat hcc (cLoop x p3 c3 p4 c4) (vA (cLoop x p3 c3 p4 c4)) rfl rfl<|tK (cLoop x p3 c3 p4 c4) zE ?_;intro b2 hb2;have h3:RL I (cLoop x p3 c3 p4 c4) ([x]:List zE):=⟨(cLoop x p3 c3 p4 c4),[],rfl,rfl,uP ⟨_,_,rfl,h1,h2⟩,rfl⟩;exact qD 130 2 1 rfl rfl rfl h (.inr ⟨0,rfl⟩) h3 hy1 fun p5 c5 cs5 h5=>yM [] [5] rfl<|zO<|yT<|pL (zFq 0 rfl)<|nT<|ih l _ N H h5 hg ho hx
 intro hc N;have:=zC N;simp only [id] at this;subst this;exact wW<|yW<|hx _ _ _ _ H h
def zBF (b0:Nat) (r:(List zE)×zP):KT:=fun kk I' hs' v=>
  ∃ v0 k0,hs'=[.blk b0 ⟨k0⟩]/\v=tupV [v0]/\SL I' v0 r.1/\Rp.rep I' k0 r.2
theorem zBz {B:Base}{I:Imm}{out:List zE}{p1 c1 cs}{r01:Nat}{kl:List Value}{y3:zP} (h:RL I cs out) (hk:Rp.rep I kl y3) :
    J Tryz.prog 73 B (nav (bodyOf Tryz.f83) [1,1,1,1,1]) (QB Tryz.prog Tryz.f83 B (zBF r01 (out,y3))) I [hO zE (vS p1 out c1) cs,hB r01 kl] [(5,vS p1 out c1)]:=by
 refine yH [4] rfl<|xI<|xE 0 rfl ?_
 intro I1 le1 hl
 have h1:=SL.of_frozen hl le1 h
 exact xC ⟨_,_,(.tmp rfl ResV.nil),(fun _ g=>g),⟨_,_,rfl,rfl,h1,Rp.mono le1 hk⟩⟩
theorem zM7 (xs:List NL):((xs.map NL.d).length:Int)=((xs.map NL.raw).length:Int):=by simp
theorem zN3 {p c} (xs:List NL):vS p (xs.map NL.raw) c=vS p (xs.map NL.d) c:=by simp [vS]
theorem zA3:∀ r0 nest r,kO r0 nest=some r->∀ {I:Imm}{r01:Nat}{p c p1 c1},(S4 I p r0.b c)->(S4 I p1 nest c1)->RT 83 [vP r01 0,vS p1 nest c1] I [hB r01 (cRd r0 p c)] (zBF r01 r):=by
 intro r0 nest r N I r01 p c p1 c1 h h1;unfold kO at N;refine yJ Tryz.func83 fun B=>?_;have H:=iS I;obtain ⟨y,hy,N⟩:=zB N;refine yH [0,1] rfl<|yX<|yE 1 [] [7] rfl<|xH (zGb nest _ hy h1) ?_;rintro I1 hs2 v2 k2 le1 - ⟨p2,c2,cs,xs,rfl,rfl,h2,rfl,hxs⟩ -;have h:=h.mono le1;clear h1 H;simp only [zM7] at N;refine sW (hs':=hO Raw2 (vS p2 (xs.map NL.raw) c2) cs::hB r01 (cRd r0 p c)::NLs xs) (fun w g=>g.perm (List.Perm.cons _ (List.perm_append_comm (l₁:=[hB r01 (cRd r0 p c)]) (l₂:=NLs xs))))<|yM [] [0,5] rfl<|uN [0,5,6] rfl<|zZ<|yH [0,5,6,12] rfl<|zK<|yG N ?_ ?_
 · intro hc N;obtain rfl:=zC N;refine zDM (NLs xs++[hO Raw2 (vS p2 (xs.map NL.raw) c2) cs,hB r01 (cRd r0 p c)]) (List.perm_append_comm)<|zBw xs hxs ?_;intro I2 le2 hfz;have h:=h.mono le2;have h3:=zH2 hfz;rw [<- fC h2] at h3;refine yH [4] rfl<|xI<|zL<|xE 0 rfl ?_;intro I3 le3 hl;have h4:SL I3 (vS p2 (xs.map NL.raw) c2) (xs.map NL.d):=SL.of_frozen (l:=xs.map NL.d) hl le3 h3;exact xC ⟨_,_,(.tmp rfl ResV.nil),(fun _ g=>g),⟨_,_,rfl,rfl,h4,yY ⟨_,rfl,h.mono le3⟩⟩⟩
 intro hc N;obtain ⟨⟨y2,y3⟩,hy1,N⟩:=zB N;refine zS<|zZ<|yC<|yE 1 [] [14] rfl<|sW (hs':=hB r01 (cRd r0 p c)::hO Raw2 (vS p2 (xs.map NL.raw) c2) cs::NLs xs) (fun w g=>g.perm (List.Perm.swap _ _ _))<|rS (wD r0 40 _ hy1 h) rfl ?_;rintro I2 hs2 v2 k2 le2 - ⟨v0,kk,rfl,rfl,rfl,h3⟩ -;obtain ⟨p3,c3,rfl,h4⟩:=yA h3;clear h3 h;have h2:=iM le2 h2;have hxs:=fun x hx=>(hxs x hx).mono le2;refine yM [] [0,5,6,15] rfl<|wK<|yH [0,5,6,15,16] rfl<|zK<|zDM (NLs xs++[hO Raw2 (vS p2 (xs.map NL.raw) c2) cs,hB r01 (cRd y3 p3 c3)]) ((List.perm_append_comm).trans (List.Perm.swap _ _ _))<|yG N ?_ ?_
 · intro hc0 N;obtain ⟨x,hx,N⟩:=zB N;obtain ⟨⟨y5,y6⟩,hy5,N⟩:=zB N;obtain ⟨y7,hy7,N⟩:=zB N;obtain ⟨l,hl,N⟩:=zB N;obtain ⟨x,hx2,rfl⟩:=zDn hx;have hx:=hx2; clear hx2;refine zM3 hx hxs ?_;intro I3 le3 hfz;obtain ⟨xlo,xhi⟩:=hxs x (rE hx |>.2.2 |> List.mem_of_getElem?);replace xlo:=iM le3 xlo;replace xhi:=iM le3 xhi;have ⟨h2,h4⟩:=m2 le3 h2 h4;clear hxs;refine qX 0 rfl ?_;intro I4 le4 hl4;have khi:=SL.of_frozen hl4 le4 xhi;replace xlo:=iM le4 xlo;have ⟨h2,h4⟩:=m2 le4 h2 h4;have hfz:=fun j y hj hy=>(hfz j y hj hy).mono le4;have hxr:=zBE (f:=NL.raw) hx;refine pM [(0,vP r01 0),(5,vS p2 (xs.map NL.raw) c2)]<|wP [.p (vS p2 (xs.map NL.raw) c2) [],.p (vS p2 (xs.map NL.raw) c2) [],.x (fun I' v hx'=>∃ ad,v=.pointer (some ad)/\hx'=[]/\AtO (vS p2 (xs.map NL.raw) c2) 2 0 ad),.x (fun I' v hx'=>∃ ad,v=.pointer (some ad)/\hx'=[]/\AtO (vS p2 (xs.map NL.raw) c2) 2 0 ad),.x (fun I' v hx'=>v=x.vl/\hx'=[]),.p (vP r01 0) [],.x (fun I' v hx'=>∃ kk,v=vI y5/\hx'=[hB r01 kk]/\Rp.rep I' kk y6),.x (fun I' v hx'=>∃ p5 c5,v=vA (cAff y7 p5 c5)/\hx'=[]/\SL I' (vS p5 y7.Coefs c5) y7.Coefs),.x (fun I' v hx'=>∃ b4,v=vS (some ⟨b4,0,none⟩) ([y7]:List zA) 1/\hx'=[]/\SL I' (vS (some ⟨b4,0,none⟩) ([y7]:List zA) 1) ([y7]:List zA)),.x (fun I' v hx'=>∃ p6 c6 cs6,v=vS p6 l c6/\hx'=[hO zA (vS p6 l c6) cs6]/\RL I' cs6 l)]
     [[],[],[(1,false)],[(2,false)],[(3,false)],[],[(5,false),(13,true)],[(6,false)],[(7,false)],[(4,false),(8,false),(14,true)]]
     [hO Raw2 (vS p2 (xs.map NL.raw) c2) cs] [[hB r01 (cRd y3 p3 c3)],[hO zA x.vl x.csl]] [(0,false),(6,true),(9,true)] (zY [1,2,0]) ?_ ?_
   · refine Op<|Op<|Ox ?_<|Ox ?_<|Ox ?_<|Op<|Ox ?_<|Ox ?_<|Ox ?_<|Ox ?_<|On
     · intro I1 hf le1;exact yV [19] rfl<|nU 0 rfl rfl rfl (iM le1 h2) hxr fun ad ccs hat hcc hrep=>yL [] iR ⟨_,rfl,rfl,hat⟩
     · rintro I1 hf le1 _ _ ⟨ad,rfl,rfl,hat⟩;exact pT<|zAl [(20,.pointer (some ad))]<|qA 4 [(21,.pointer (some ad))]<|yL [] iR ⟨_,rfl,rfl,hat⟩
     · rintro I1 hf le1 _ _ ⟨ad,rfl,rfl,hat⟩;refine yV [21] rfl ?_;have hrep:=h2.at (i:=0) (rE hxr).2.2;obtain ⟨⟨hcc,o1,o2⟩,_⟩:=hrep;exact zBu 0 0 hat hcc [x.vl] x.vl rfl rfl<|xB iR
     · rintro I1 hf le1 _ _ ⟨rfl,rfl⟩ _ _ rfl;refine yV [23] rfl<|rS (wD y3 2 _ hy5 (h4.mono le1)) rfl ?_;rintro I02 hs2 v2 k2 le2 - ⟨v0,kk,rfl,rfl,rfl,h5⟩ -;exact yL [hB r01 kk] le2 ⟨_,rfl,rfl,h5⟩
     · rintro I1 hf le1 _ _ ⟨kk,rfl,rfl,h5⟩;refine yV [24] rfl<|xH (dX y5 _ hy7) ?_;rintro I02 hs2 v2 k2 le2 - ⟨v0,rfl,rfl,⟨cs2,rfl,h6⟩⟩ -;obtain ⟨p5,c5,rfl,h7⟩:=yB h6;exact yL [] le2 ⟨_,_,rfl,rfl,h7⟩
     · rintro I1 hf le1 _ _ ⟨p5,c5,rfl,rfl,h7⟩;refine yV [25] rfl<|tK (cAff y7 p5 c5) zA ?_;intro b4 hb4;have h15:RL I1 (cAff y7 p5 c5) ([y7]:List zA):=⟨(cAff y7 p5 c5),_,rfl,rfl,(yI ⟨_,rfl,h7⟩),rfl⟩;exact xX 0 rfl fun I01 le01 hl01=>yL [] le01 ⟨_,rfl,rfl,SL.of_frozen hl01 le01 h15⟩
     rintro I1 hf le1 _ _ ⟨rfl,rfl⟩ _ _ ⟨b4,rfl,rfl,h16⟩ _ _ rfl;refine yV [22,26] rfl ?_;obtain ⟨ccs4,k03,k04⟩:=h16;exact qD 69 2 0 rfl rfl rfl (iM le1 xlo) (.inl k03) k04 hl fun p11 c11 cs5 h17=>vH (hs':=(hO zA (vS p11 l c11) cs5::hO Raw2 (vS p2 (xs.map NL.raw) c2) cs::hf)) rfl<|yL [hO zA (vS p11 l c11) cs5] iR ⟨_,_,_,rfl,rfl,h17⟩
   rintro I5 le5 _ _ ⟨rfl,rfl⟩ _ _ ⟨kk,rfl,rfl,h5⟩ _ _ ⟨p6,c6,cs6,rfl,rfl,h6⟩;have h2:=iM le5 h2;refine yV [5,18,27] rfl<|nU 2 rfl rfl rfl h2 hxr ?_;intro ad ccs hat hcc hrep;obtain ⟨rfl,o1,o2⟩:=hrep;refine yE 12 [] [29] rfl<|qE (c:=[vS p6 l c6,x.vh]) (x':=(⟨vS p6 l c6,x.vh⟩:Raw2)) 2 0 rfl rfl rfl hat rfl rfl hcc (by kernel_rfl) (by kernel_rfl) (by kernel_rfl) h2 hxr (by kernel_rfl) ⟨rfl,rfl,rfl⟩ fun cs7 h7 hlen=>vH (hs':=[hO zA (vS p6 l c6) cs6,hB r01 kk,hO Raw2 (vS p2 (xs.map NL.raw) c2) cs7]) rfl<|xX 0 rfl ?_;intro I6 le6 hl6;have klo:=SL.of_frozen hl6 le6 h6;have hpw:=zJE (r:=⟨vS p6 l c6,x.vh⟩) (d:=⟨l,x.hi⟩) (fun j y hj hy=>((hfz j y hj hy).mono le5).mono le6) ⟨klo,(khi.mono le5).mono le6⟩;have h8:=hpw.rl;have e8:=fC h7;obtain rfl:=zC N;have eL:vS p2 (xs.map NL.raw) c2=vS p2 ((xs.map NL.d).set 0 (⟨l,x.hi⟩:zE)) c2:=by simp [vS]
   rw [show (0:Int).toNat=0 from rfl] at e8 h8;rw [<- e8] at h8;rw [eL];exact sW (zY [1,0] (hs':=[hO zE (vS p2 ((xs.map NL.d).set 0 (⟨l,x.hi⟩:zE)) c2) cs7,hB r01 kk]))<|yM [] [5] rfl<|zO<|zK<|pM [(5,vS p2 ((xs.map NL.d).set 0 (⟨l,x.hi⟩:zE)) c2)]<|zBz h8 (Rp.mono le6 h5)
 intro hc0 N;refine yH [0,5,6,15,30] rfl<|zK<|yG N ?_ ?_
 · intro hc1 N;obtain ⟨x,hx,N⟩:=zB N;obtain ⟨x,hx2,rfl⟩:=zDn hx;have hx:=hx2; clear hx2;have hxr:=zBE (f:=NL.raw) hx;refine zBw xs hxs ?_;intro I3 le3 hfz;obtain ⟨flo,fhi⟩:=hfz x (List.mem_of_getElem? (rE hx).2.2);have ⟨h2,h4⟩:=m2 le3 h2 h4;refine zM<|yE 3 [] [32,34] rfl<|nU 0 rfl rfl rfl h2 hxr ?_;intro ad ccs hat hcc hrep;obtain ⟨rfl,o1,o2⟩:=hrep;refine yE 5 [] [36] rfl<|qE (c:=[x.vl,z0]) (x':=(⟨x.vl,z0⟩:Raw2)) 0 1 rfl rfl rfl hat rfl rfl hcc (by kernel_rfl) (by kernel_rfl) (by kernel_rfl) h2 hxr (by kernel_rfl) ⟨rfl,rfl,rfl⟩ ?_;intro cs7 h7 hlen;have hpw:=zJE (k:=(W (((xs.map NL.raw).length:Int) - 1)).toNat) (r:=⟨x.vl,z0⟩) (d:=⟨x.lo,[]⟩) (fun j y hj hy=>hfz y (List.mem_of_getElem? hy)) ⟨flo,SL.nil _⟩;have h8:=hpw.rl;rw [<- fC h7] at h8;obtain rfl:=zC N;have eL:vS p2 (xs.map NL.raw) c2=vS p2 ((xs.map NL.d).set (W (((xs.map NL.raw).length:Int) - 1)).toNat (⟨x.lo,[]⟩:zE)) c2:=by simp only [vS,List.length_set,List.length_map]
   rw [eL];exact vH (hs':=[hO zE (vS p2 ((xs.map NL.d).set (W (((xs.map NL.raw).length:Int) - 1)).toNat (⟨x.lo,[]⟩:zE)) c2) cs7,hB r01 (cRd y3 p3 c3)]) rfl<|yM [] [5] rfl<|zO<|zK<|pM [(5,vS p2 ((xs.map NL.d).set (W (((xs.map NL.raw).length:Int) - 1)).toNat (⟨x.lo,[]⟩:zE)) c2)]<|zBz h8 (yY ⟨_,rfl,h4⟩)
 intro hc1 N;refine yH [0,5,6,15,37] rfl<|zK<|yG N ?_ ?_
 · intro hc2 N;obtain ⟨x,hx,N⟩:=zB N;obtain ⟨y7,hy7,N⟩:=zB N;obtain ⟨y8,hy8,N⟩:=zB N;obtain ⟨l,hl,N⟩:=zB N;obtain ⟨x,hx2,rfl⟩:=zDn hx;have hx:=hx2; clear hx2;refine zM3 hx hxs ?_;intro I3 le3 hfz;obtain ⟨xlo,xhi⟩:=hxs x (rE hx |>.2.2 |> List.mem_of_getElem?);replace xlo:=iM le3 xlo;replace xhi:=iM le3 xhi;have ⟨h2,h4⟩:=m2 le3 h2 h4;clear hxs;refine qX 1 rfl ?_;intro I4 le4 hl4;have klo:=SL.of_frozen hl4 le4 xlo;replace xhi:=iM le4 xhi;have ⟨h2,h4⟩:=m2 le4 h2 h4;have hfz:=fun j y hj hy=>(hfz j y hj hy).mono le4;have hxr:=zBE (f:=NL.raw) hx;refine pM [(5,vS p2 (xs.map NL.raw) c2),(6,vI ((xs.map NL.raw).length:Int))]<|wP [.p (vS p2 (xs.map NL.raw) c2) [],.p (vI ((xs.map NL.raw).length:Int)) [],.p (vI (W (((xs.map NL.raw).length:Int) - 1))) [],.p (vS p2 (xs.map NL.raw) c2) [],.p (vI ((xs.map NL.raw).length:Int)) [],.p (vI (W (((xs.map NL.raw).length:Int) - 1))) [],.x (fun I' v hx'=>∃ ad,v=.pointer (some ad)/\hx'=[]/\AtO (vS p2 (xs.map NL.raw) c2) 2 (W (((xs.map NL.raw).length:Int) - 1)).toNat ad),.x (fun I' v hx'=>∃ ad,v=.pointer (some (ad.add 1))/\hx'=[]/\AtO (vS p2 (xs.map NL.raw) c2) 2 (W (((xs.map NL.raw).length:Int) - 1)).toNat ad),.x (fun I' v hx'=>v=x.vh/\hx'=[]),.x (fun I' v hx'=>∃ p5 c5,v=vA (cAff y7 p5 c5)/\hx'=[]/\SL I' (vS p5 y7.Coefs c5) y7.Coefs),.x (fun I' v hx'=>∃ p5 c5,v=vA (cAff y8 p5 c5)/\hx'=[]/\SL I' (vS p5 y8.Coefs c5) y8.Coefs),.x (fun I' v hx'=>∃ b4,v=vS (some ⟨b4,0,none⟩) ([y7,y8]:List zA) 2/\hx'=[]/\SL I' (vS (some ⟨b4,0,none⟩) ([y7,y8]:List zA) 2) ([y7,y8]:List zA)),.x (fun I' v hx'=>∃ p6 c6 cs6,v=vS p6 l c6/\hx'=[hO zA (vS p6 l c6) cs6]/\RL I' cs6 l)]
     [[],[],[(1,false)],[],[],[(4,false)],[(3,false),(5,false)],[(6,false)],[(7,false)],[],[],[(9,false),(10,false)],[(8,false),(11,false),(16,true)]]
     [hO Raw2 (vS p2 (xs.map NL.raw) c2) cs,hB r01 (cRd y3 p3 c3)] [[hO zA x.vh x.csh]] [(0,false),(2,false),(12,true)] (zY [1,2,0]) ?_ ?_
   · refine Op<|Op<|Op<|Op<|Op<|Op<|Ox ?_<|Ox ?_<|Ox ?_<|Ox ?_<|Ox ?_<|Ox ?_<|Ox ?_<|On
     · intro I1 hf le1;exact yV [42,44] rfl<|nU 0 rfl rfl rfl (iM le1 h2) hxr fun ad ccs hat hcc hrep=>yL [] iR ⟨_,rfl,rfl,hat⟩
     · rintro I1 hf le1 _ _ ⟨ad,rfl,rfl,hat⟩;exact pT<|zAl [(45,.pointer (some ad))]<|qA 8 [(46,.pointer (some (ad.add 1)))]<|yL [] iR ⟨_,rfl,rfl,hat⟩
     · rintro I1 hf le1 _ _ ⟨ad,rfl,rfl,hat⟩;refine yV [46] rfl ?_;have hrep:=h2.at (rE hxr).2.2;obtain ⟨⟨hcc,o1,o2⟩,_⟩:=hrep;exact zBu 0 1 hat hcc [x.vh] x.vh rfl rfl<|xB iR
     · intro I1 hf le1;refine dS []<|xH (tX 1 _ hy7) ?_;rintro I02 hs2 v2 k2 le2 - ⟨p5,c5,cs5,rfl,rfl,h5⟩ -;exact xX 0 rfl fun I03 le3 hl3=>zG3 (hx:=[]) rfl (le2.trans le3) rfl (zHS rfl) ⟨_,_,rfl,rfl,SL.of_frozen hl3 le3 h5⟩
     · intro I1 hf le1;refine dS []<|xH (tX 2 _ hy8) ?_;rintro I02 hs2 v2 k2 le2 - ⟨p5,c5,cs5,rfl,rfl,h5⟩ -;exact xX 0 rfl fun I03 le3 hl3=>zG3 (hx:=[]) rfl (le2.trans le3) rfl (zHS rfl) ⟨_,_,rfl,rfl,SL.of_frozen hl3 le3 h5⟩
     · rintro I1 hf le1 _ _ ⟨p5,c5,rfl,rfl,h7⟩ _ _ ⟨p6,c6,rfl,rfl,h8⟩;refine yV [48,49] rfl<|tK [vS p5 y7.Coefs c5,vI y7.Const,vS p6 y8.Coefs c6,vI y8.Const] zA ?_;intro b4 hb4;have h15:RL I1 [vS p5 y7.Coefs c5,vI y7.Const,vS p6 y8.Coefs c6,vI y8.Const] ([y7,y8]:List zA):=⟨(cAff y7 p5 c5),_,rfl,rfl,(yI ⟨_,rfl,h7⟩),⟨(cAff y8 p6 c6),_,rfl,rfl,(yI ⟨_,rfl,h8⟩),rfl⟩⟩;exact xX 0 rfl fun I01 le01 hl01=>yL [] le01 ⟨_,rfl,rfl,SL.of_frozen hl01 le01 h15⟩
     rintro I1 hf le1 _ _ ⟨rfl,rfl⟩ _ _ ⟨b4,rfl,rfl,h16⟩ _ _ rfl;refine yV [47,50] rfl ?_;obtain ⟨ccs4,k03,k04⟩:=h16;exact qD 69 2 0 rfl rfl rfl (iM le1 xhi) (.inl k03) k04 hl fun p11 c11 cs5 h17=>vH (hs':=(hO zA (vS p11 l c11) cs5::hO Raw2 (vS p2 (xs.map NL.raw) c2) cs::hB r01 (cRd y3 p3 c3)::hf)) rfl<|yL [hO zA (vS p11 l c11) cs5] iR ⟨_,_,_,rfl,rfl,h17⟩
   rintro I5 le5 _ _ ⟨rfl,rfl⟩ _ _ ⟨rfl,rfl⟩ _ _ ⟨p6,c6,cs6,rfl,rfl,h6⟩;have h2:=iM le5 h2;refine yV [5,39,41,51] rfl<|nU 1 rfl rfl rfl h2 hxr ?_;intro ad ccs hat hcc hrep;obtain ⟨rfl,o1,o2⟩:=hrep;refine yE 15 [] [53] rfl<|qE (c:=[x.vl,vS p6 l c6]) (x':=(⟨x.vl,vS p6 l c6⟩:Raw2)) 1 1 rfl rfl rfl hat rfl rfl hcc (by kernel_rfl) (by kernel_rfl) (by kernel_rfl) h2 hxr (by kernel_rfl) ⟨rfl,rfl,rfl⟩ fun cs7 h7 hlen=>vH (hs':=[hO zA (vS p6 l c6) cs6,hO Raw2 (vS p2 (xs.map NL.raw) c2) cs7,hB r01 (cRd y3 p3 c3)]) rfl<|xX 0 rfl ?_;intro I6 le6 hl6;have khi:=SL.of_frozen hl6 le6 h6;have hpw:=zJE (k:=(W (((xs.map NL.raw).length:Int) - 1)).toNat) (r:=⟨x.vl,vS p6 l c6⟩) (d:=⟨x.lo,l⟩) (fun j y hj hy=>((hfz j y hj hy).mono le5).mono le6) ⟨(klo.mono le5).mono le6,khi⟩;have h8:=hpw.rl;rw [<- fC h7] at h8;obtain rfl:=zC N;have eL:vS p2 (xs.map NL.raw) c2=vS p2 ((xs.map NL.d).set (W (((xs.map NL.raw).length:Int) - 1)).toNat (⟨x.lo,l⟩:zE)) c2:=by simp only [vS,List.length_set,List.length_map]
   rw [eL];exact vH (hs':=[hO zE (vS p2 ((xs.map NL.d).set (W (((xs.map NL.raw).length:Int) - 1)).toNat (⟨x.lo,l⟩:zE)) c2) cs7,hB r01 (cRd y3 p3 c3)]) rfl<|yM [] [5] rfl<|zO<|zK<|pM [(5,vS p2 ((xs.map NL.d).set (W (((xs.map NL.raw).length:Int) - 1)).toNat (⟨x.lo,l⟩:zE)) c2)]<|zBz h8 (yY ⟨_,rfl,(h4.mono le5).mono le6⟩)
 intro hc2 N;refine zBw xs hxs ?_;intro I3 le3 hfz;have ⟨h2,h4⟩:=m2 le3 h2 h4;clear hxs;refine yH [0,5,6,15,54] rfl<|zK<|yG N ?_ ?_
 · intro hc3 N;obtain ⟨y7,hy7,N⟩:=zB N;obtain ⟨x,hx,N⟩:=zB N;obtain ⟨x,hx2,rfl⟩:=zDn hx;have hx:=hx2; clear hx2;have hxr:=zBE (f:=NL.raw) hx;refine zM<|yE 1 [] [56] rfl<|xH (tX 99 _ hy7) ?_;rintro I4 hs2 v2 k2 le4 - ⟨p5,c5,cs5,rfl,rfl,h5⟩ -;refine xX 0 rfl ?_;intro I5 le5 hl5;have h7:=SL.of_frozen hl5 le5 h5;refine tK (cAff y7 p5 c5) zA ?_;intro b4 hb4;have h15:RL I5 (cAff y7 p5 c5) ([y7]:List zA):=⟨(cAff y7 p5 c5),_,rfl,rfl,(yI ⟨_,rfl,h7⟩),rfl⟩;refine xX 0 rfl ?_;intro I6 le6 hl6;have khi:SL I6 (vS (some ⟨b4,0,none⟩) ([y7]:List zA) 1) [y7]:=SL.of_frozen hl6 le6 h15;have le:=(le4.trans le5).trans le6;have ⟨h2,h4⟩:=m2 le h2 h4;have hfz:=fun x hx=>(hfz x hx).mono le;obtain ⟨flo,fhi⟩:=hfz x (List.mem_of_getElem? (rE hx).2.2);refine nU 0 rfl rfl rfl h2 hxr ?_;intro ad ccs hat hcc hrep;obtain ⟨rfl,o1,o2⟩:=hrep;refine yE 5 [] [60] rfl<|qE (c:=[x.vl,vS (some ⟨b4,0,none⟩) ([y7]:List zA) 1]) (x':=(⟨x.vl,vS (some ⟨b4,0,none⟩) ([y7]:List zA) 1⟩:Raw2)) 0 1 rfl rfl rfl hat rfl rfl hcc (by kernel_rfl) (by kernel_rfl) (by kernel_rfl) h2 hxr (by kernel_rfl) ⟨rfl,rfl,rfl⟩ ?_;intro cs7 h7 hlen;have hpw:=zJE (k:=0) (r:=⟨x.vl,vS (some ⟨b4,0,none⟩) ([y7]:List zA) 1⟩) (d:=⟨x.lo,[y7]⟩) (fun j y hj hy=>hfz y (List.mem_of_getElem? hy)) ⟨flo,khi⟩;have h8:=hpw.rl;have e8:=fC h7;rw [show (0:Int).toNat=0 from rfl] at e8;rw [<- e8] at h8;obtain rfl:=zC N;have eL:vS p2 (xs.map NL.raw) c2=vS p2 ((xs.map NL.d).set 0 (⟨x.lo,[y7]⟩:zE)) c2:=by simp only [vS,List.length_set,List.length_map]
   rw [eL];exact vH (hs':=[hO zE (vS p2 ((xs.map NL.d).set 0 (⟨x.lo,[y7]⟩:zE)) c2) cs7,hB r01 (cRd y3 p3 c3)]) rfl<|yM [] [5] rfl<|zO<|zK<|pM [(5,vS p2 ((xs.map NL.d).set 0 (⟨x.lo,[y7]⟩:zE)) c2)]<|zBz h8 (yY ⟨_,rfl,h4⟩)
 intro hc3 N;have h8:=zH2 hfz;rw [<- fC h2] at h8;rw [zN3];refine yH [0,5,15,61] rfl<|zK<|yG N ?_ ?_
 · intro hc4 N;obtain ⟨z,hz,N⟩:=zB N;obtain rfl:=zC N;exact yF<|pM [(5,vS p2 (xs.map NL.d) c2)]<|zDs (xs.map NL.d) z hz iR h8 (fun _ _ _ h=>h) (fun _ _ h=>h) fun I4 p6 c6 cs6 le4 h9=>zR<|zO<|zK<|pM [(5,vS p6 z c6)]<|zBz h9 (yY ⟨_,rfl,h4.mono le4⟩)
 intro hc4 N;obtain rfl:=zC N;exact zS<|zO<|zK<|pM [(5,vS p2 (xs.map NL.d) c2)]<|zBz h8 (yY ⟨_,rfl,h4⟩)
def zEY (b0:Nat) (r:zJ×zP):KT:=fun kk I' hs' v=>
  ∃ v0 k0,hs'=[.blk b0 ⟨k0⟩]/\v=tupV [v0]/\(∃ cs,v0=.agg ⟨cs⟩/\Rp.rep I' cs r.1)/\Rp.rep I' k0 r.2
def qL (r0:zP) (s:zJ):Option (zJ×zP):=do
 let y<-eF s
 let (y2,y3)<-xF r0 40
 let (WriteArray,WriteSubs,ValueKind,ValueNum,ValueKids,x)<-(do
   if (y2==0) then
    let (y5,y6)<-qK y3 ([(⟨[69]⟩:Str),(⟨[]⟩:Str),(⟨[65,66]⟩:Str),(⟨[97]⟩:Str)]:List Str)
    pure (y5,y.Write.Subs,y.Value.Kind,y.Value.Num,y.Value.Kids,y6)
   else
    let (WriteSubs1,ValueKind1,ValueNum1,ValueKids1,x1)<-(do
      if (y2==1) then
       let y7<-kW 3
       let y8<-mV
       let l<-app 32 y.Write.Subs ([y7,y8]:List zA)
       pure (l,y.Value.Kind,y.Value.Num,y.Value.Kids,y3)
      else
       let (ValueKind2,ValueNum2,ValueKids2,x2)<-(do
         if (y2==2) then
          let (y10,y11)<-xG y3 ([0,7,1,4,2]:List Int)
          pure (y10,y.Value.Num,y.Value.Kids,y11)
         else
          let (ValueNum3,ValueKids3,x3)<-(do
            if (y2==3) then
             let (y13,y14)<-xG y3 ([100,(-1),1]:List Int)
             pure (y13,y.Value.Kids,y14)
            else
             let ValueKids4<-(do
               if (y2==4) then
                let l1<-app 112 y.Value.Kids ([(zH.mk 1 0 (zA.mk ([]:List Int) 0) (zG.mk (⟨[]⟩:Str) ([]:List zA)) ([]:List zH))]:List zH)
                pure (id l1)
               else
                pure y.Value.Kids
                 : Option (List zH))
             pure (y.Value.Num,ValueKids4,y3)
              : Option (Int×List zH×zP))
          pure (y.Value.Kind,ValueNum3,ValueKids3,x3)
           : Option (Int×Int×List zH×zP))
       pure (y.Write.Subs,ValueKind2,ValueNum2,ValueKids2,x2)
        : Option (List zA×Int×Int×List zH×zP))
    pure (y.Write.Array,WriteSubs1,ValueKind1,ValueNum1,ValueKids1,x1)
     : Option (Str×List zA×Int×Int×List zH×zP))
 pure ((zJ.mk (zG.mk WriteArray WriteSubs) (zH.mk ValueKind ValueNum y.Value.Index y.Value.Read ValueKids)),x)
theorem zA4:∀ r0 s r,qL r0 s=some r->∀ {I:Imm}{r01:Nat}{p c p1 c1 p2 c2 p3 c3 p4 c4},(S4 I p r0.b c)->(S4 I p1 s.Write.Subs c1)->(S4 I p2 s.Value.Index.Coefs c2)->(S4 I p3 s.Value.Read.Subs c3)->(S4 I p4 s.Value.Kids c4)->RT 84 [vP r01 0,vA (cStmt s p1 c1 p2 c2 p3 c3 p4 c4)] I [hB r01 (cRd r0 p c)] (zEY r01 r):=by
 intro r0 s r N I r01 p c p1 c1 p2 c2 p3 c3 p4 c4 h h1 h2 h3 h4;unfold qL at N;refine yJ Tryz.func84 fun B=>?_;have H:=iS I;refine yC<|vK (cStmt s p1 c1 p2 c2 p3 c3 p4 c4) ?_;intro b hb;refine xU [vT ([]),z0,vI 0,vI 0,z0,vI 0,vT ([]),z0,z0] ?_;intro b1 hb1;refine zX rfl<|yX<|tZ 1 [1] [(6,vA (cStmt s p1 c1 p2 c2 p3 c3 p4 c4))]<|bE N fun y hy N=>xH (zDP s _ hy h1 h2 h3 h4) ?_;rintro I0 hs2 v2 k2 le - ⟨p5,c5,cs,p6,c6,p7,c7,p8,c8,cs1,rfl,rfl,h5,h6,h7,h8⟩ -;have ⟨h,H⟩:=m2 le h H;refine xU [vT ([]),z0,vI 0,vI 0,z0,vI 0,vT ([]),z0,z0] ?_;intro b2 hb2;refine yZ 0 (cStmt y p5 c5 p6 c6 p7 c7 p8 c8) rfl<|zX rfl<|zZ<|yC<|yE 1 [] [8] rfl<|sW (zY [5,0,1,2,3,4] (hs':=[hB r01 (cRd r0 p c),hB b2 (cStmt y p5 c5 p6 c6 p7 c7 p8 c8),hO zA (vS p5 y.Write.Subs c5) cs,hO zH (vS p8 y.Value.Kids c8) cs1,hB b1 [vT ([]),z0,vI 0,vI 0,z0,vI 0,vT ([]),z0,z0],hB b (cStmt s p1 c1 p2 c2 p3 c3 p4 c4)])) ?_;obtain ⟨⟨y2,y3⟩,hy1,N⟩:=zB N;refine rS (wD r0 40 _ hy1 h) rfl ?_;rintro I01 hs2 v2 k2 le1 - ⟨v0,kk,rfl,rfl,rfl,h10⟩ -;have ⟨h5,h6,h7,h8,H⟩:=m5 le1 h5 h6 h7 h8 H;obtain ⟨p9,c9,rfl,h11⟩:=yA h10;refine zX rfl<|wK<|yH [10] rfl<|zK<|qX 5 rfl ?_;intro I02 le2 hl0;have hat:At I02 ⟨b,0,none⟩ (cStmt s p1 c1 p2 c2 p3 c3 p4 c4):=At.of_blk hl0;have ⟨h11,h5,h6,h7,h8,H⟩:=m6 le2 h11 h5 h6 h7 h8 H;obtain ⟨o0,ho0,hMc⟩:=zB N;refine nN (fun I' hs' m'=>∃ (WriteArray:Str) (WriteSubs:List zA) (ValueKind:Int) (ValueNum:Int) (ValueKids:List zH) (x:zP) (p10:Option Addr) (c10:Nat) (cs2:List Value) (p11:Option Addr) (c11:Nat) (cs3:List Value) (p12:Option Addr) (c12:Nat),o0=(WriteArray,WriteSubs,ValueKind,ValueNum,ValueKids,x)/\I02.le I'/\(RL I' cs2 WriteSubs)/\(RL I' cs3 ValueKids)/\(S4 I' p12 x.b c12)/\hs'=[hB r01 (cRd x p12 c12),hB b2 [vT WriteArray.l,vS p10 WriteSubs c10,vI ValueKind,vI ValueNum,vS p6 y.Value.Index.Coefs c6,vI y.Value.Index.Const,vT y.Value.Read.Array.l,vS p7 y.Value.Read.Subs c7,vS p11 ValueKids c11],hO zA (vS p10 WriteSubs c10) cs2,hO zH (vS p11 ValueKids c11) cs3,hB b1 [vT ([]),z0,vI 0,vI 0,z0,vI 0,vT ([]),z0,z0]]/\m'=[(4,vP b1 0),(5,vP b2 0)]) ?_ ?_
 · have H:=iS I02;refine yG ho0 ?_ ?_
   · intro hc N;refine zM<|yE 1 [] [12] rfl<|mU (rT [(⟨[69]⟩:Str),(⟨[]⟩:Str),(⟨[65,66]⟩:Str),(⟨[97]⟩:Str)]) ?_;intro b3 I04 le3 h16;have ⟨h11,h5,h8,H⟩:=m4 le3 h11 h5 h8 H;obtain ⟨⟨y5,y6⟩,hy2,N⟩:=zB N;refine rS (jB y3 ([(⟨[69]⟩:Str),(⟨[]⟩:Str),(⟨[65,66]⟩:Str),(⟨[97]⟩:Str)]:List Str) _ hy2 h11 h16) rfl ?_;rintro I05 hs2 v2 k2 le4 - ⟨v02,kk1,rfl,rfl,rfl,h18⟩ -;have ⟨h5,h8,H⟩:=m3 le4 h5 h8 H;obtain ⟨p13,c13,rfl,h19⟩:=yA h18;exact yE 5 [] [16] rfl<|yZ 1 [vT y5.l,vS p5 y.Write.Subs c5,vI y.Value.Kind,vI y.Value.Num,vS p6 y.Value.Index.Coefs c6,vI y.Value.Index.Const,vT y.Value.Read.Array.l,vS p7 y.Value.Read.Subs c7,vS p8 y.Value.Kids c8] rfl<|zX rfl<|yW<|zU ⟨_,_,_,_,_,_,_,_,_,_,_,_,_,_,(zC N).symm,H,h5,h8,h19,rfl,rfl⟩
   intro hc N;refine yH [17] rfl<|zK ?_;obtain ⟨o01,ho01,hMc1⟩:=zB N;refine nN (fun I' hs' m'=>∃ (WriteSubs1:List zA) (ValueKind1:Int) (ValueNum1:Int) (ValueKids1:List zH) (x1:zP) (p14:Option Addr) (c14:Nat) (cs4:List Value) (p15:Option Addr) (c15:Nat) (cs5:List Value) (p16:Option Addr) (c16:Nat),o01=(WriteSubs1,ValueKind1,ValueNum1,ValueKids1,x1)/\I02.le I'/\(RL I' cs4 WriteSubs1)/\(RL I' cs5 ValueKids1)/\(S4 I' p16 x1.b c16)/\hs'=[hB r01 (cRd x1 p16 c16),hB b2 [vT y.Write.Array.l,vS p14 WriteSubs1 c14,vI ValueKind1,vI ValueNum1,vS p6 y.Value.Index.Coefs c6,vI y.Value.Index.Const,vT y.Value.Read.Array.l,vS p7 y.Value.Read.Subs c7,vS p15 ValueKids1 c15],hO zA (vS p14 WriteSubs1 c14) cs4,hO zH (vS p15 ValueKids1 c15) cs5,hB b1 [vT ([]),z0,vI 0,vI 0,z0,vI 0,vT ([]),z0,z0]]/\m'=[(4,vP b1 0),(5,vP b2 0)]) ?_ ?_
   · have H:=iS I02;refine yG ho01 ?_ ?_
     · intro hc1 N;obtain ⟨y7,hy3,N⟩:=zB N;obtain ⟨y8,hy4,N⟩:=zB N;obtain ⟨l,hy5,N⟩:=zB N;refine wP [.p (vP b2 0) [],.p (vP b2 1) [],.p (vS p5 y.Write.Subs c5) [1],.x (eVAff y7),.x (fun I' v hx=>∃ p18 c18 cs7,v=vA (cAff y8 p18 c18)/\hx=[hO Int (vS p18 y8.Coefs c18) cs7]/\(RL I' cs7 y8.Coefs)),.x (fun I' v hx=>∃ b4,v=vS (some ⟨b4,0,none⟩) ([y7,y8]:List zA) 2/\hx=[]/\(SL I' (vS (some ⟨b4,0,none⟩) ([y7,y8]:List zA) 2) ([y7,y8]:List zA))),.x (fun I' v hx=>∃ p19 c19 cs8,v=vS p19 l c19/\hx=[hO zA (vS p19 l c19) cs8]/\(RL I' cs8 l))] [[],[(0,false)],[(1,false)],[],[],[(3,false),(4,true)],[(2,false),(5,false),(10,true)]] [hB r01 (cRd y3 p9 c9),hB b2 (cStmt y p5 c5 p6 c6 p7 c7 p8 c8),hO zH (vS p8 y.Value.Kids c8) cs1,hB b1 [vT ([]),z0,vI 0,vI 0,z0,vI 0,vT ([]),z0,z0]] [[hO zA (vS p5 y.Write.Subs c5) cs]] [(6,true)] (zY [0,1,3,4,2]) ?_ ?_
       · refine Op<|Op<|Op<|Ox ?_<|Ox ?_<|Ox ?_<|Ox ?_<|On
         · intro I1 hf le1;refine dS [] ?_;have H:=iS I1;refine xH (dX 3 _ hy3 ) ?_;rintro I07 hs2 v2 k2 le5 - ⟨v04,rfl,rfl,⟨cs6,rfl,h23⟩⟩ -;have H:=H.trans le5;obtain ⟨p17,c17,rfl,h24⟩:=yB h23;exact yL [] H ⟨_,_,rfl,rfl,h24⟩
         · intro I1 hf le1;refine dS [] ?_;have H:=iS I1;refine xH (fD  _ hy4 ) ?_;rintro I08 hs2 v2 k2 le6 - ⟨p18,c18,cs7,rfl,rfl,h25⟩ -;have H:=H.trans le6;exact yL [hO Int (vS p18 y8.Coefs c18) cs7] H ⟨_,_,_,rfl,rfl,h25⟩
         · rintro I1 hf le1 _ _ ⟨p17,c17,rfl,rfl,h24⟩ _ _ ⟨p18,c18,cs7,rfl,rfl,h25⟩;refine yV [22,23] rfl ?_;have H:=iS I1;refine xX 0 rfl ?_;intro I09 le7 hl02;have h26:=SL.of_frozen hl02 le7 h25;have ⟨h24,H⟩:=m2 le7 h24 H;refine mU (rc y7 (yI ⟨_,rfl,h24⟩) (rc y8 (yI ⟨_,rfl,h26⟩) rN)) ?_;intro b4 I010 le8 h28;have H:=H.trans le8;exact yL [] H ⟨_,rfl,rfl,h28⟩
         rintro I1 hf le1 _ _ ⟨rfl,rfl⟩ _ _ ⟨b4,rfl,rfl,h28⟩ _ _ rfl;refine yV [21,24] rfl ?_;have h5:=iM le1 h5;obtain ⟨ccs,k0,k01⟩:=h28;have h28:SL I1 (vS (some ⟨b4,0,none⟩) ([y7,y8]:List zA) 2) ([y7,y8]:List zA):=⟨_,k0,k01⟩;exact qD 69 2 0 rfl rfl rfl h5 (.inl k0) k01 hy5 fun p19 c19 cs8 h29=>vH (hs':=(hO zA (vS p19 l c19) cs8::hB r01 (cRd y3 p9 c9)::hB b2 (cStmt y p5 c5 p6 c6 p7 c7 p8 c8)::hO zH (vS p8 y.Value.Kids c8) cs1::hB b1 [vT ([]),z0,vI 0,vI 0,z0,vI 0,vT ([]),z0,z0]::hf)) rfl<|yL [hO zA (vS p19 l c19) cs8] iR ⟨_,_,_,rfl,rfl,h29⟩
       rintro I011 le9 _ _ ⟨p19,c19,cs8,rfl,rfl,h29⟩;refine yV [4,5,25] rfl ?_;have ⟨h11,h8,H⟩:=m3 le9 h11 h8 H;exact yE 9 [] [27] rfl<|yZ 2 [vT y.Write.Array.l,vS p19 l c19,vI y.Value.Kind,vI y.Value.Num,vS p6 y.Value.Index.Coefs c6,vI y.Value.Index.Const,vT y.Value.Read.Array.l,vS p7 y.Value.Read.Subs c7,vS p8 y.Value.Kids c8] rfl<|zX rfl<|wG (zW [1,2,0,3,4] rfl (by decide))<|yW<|zU ⟨_,_,_,_,_,_,_,_,_,_,_,_,_,(zC N).symm,H,h29,h8,h11,rfl,rfl⟩
     intro hc1 N;refine yH [28] rfl<|zK ?_;obtain ⟨o02,ho02,hMc2⟩:=zB N;refine nN (fun I' hs' m'=>∃ (ValueKind2:Int) (ValueNum2:Int) (ValueKids2:List zH) (x2:zP) (p20:Option Addr) (c20:Nat) (cs9:List Value) (p21:Option Addr) (c21:Nat),o02=(ValueKind2,ValueNum2,ValueKids2,x2)/\I02.le I'/\(RL I' cs9 ValueKids2)/\(S4 I' p21 x2.b c21)/\hs'=[hB r01 (cRd x2 p21 c21),hB b2 [vT y.Write.Array.l,vS p5 y.Write.Subs c5,vI ValueKind2,vI ValueNum2,vS p6 y.Value.Index.Coefs c6,vI y.Value.Index.Const,vT y.Value.Read.Array.l,vS p7 y.Value.Read.Subs c7,vS p20 ValueKids2 c20],hO zA (vS p5 y.Write.Subs c5) cs,hO zH (vS p20 ValueKids2 c20) cs9,hB b1 [vT ([]),z0,vI 0,vI 0,z0,vI 0,vT ([]),z0,z0]]/\m'=[(4,vP b1 0),(5,vP b2 0)]) ?_ ?_
     · have H:=iS I02;refine yG ho02 ?_ ?_
       · intro hc2 N;refine zM<|yE 1 [] [30] rfl<|mU (rI [0,7,1,4,2]) ?_;intro b5 I013 le10 h33;have ⟨h11,h8,H⟩:=m3 le10 h11 h8 H;obtain ⟨⟨y10,y11⟩,hy6,N⟩:=zB N;refine rS (xR y3 ([0,7,1,4,2]:List Int) _ hy6 h11 h33) rfl ?_;rintro I014 hs2 v2 k2 le11 - ⟨v06,kk2,rfl,rfl,rfl,h35⟩ -;have ⟨h8,H⟩:=m2 le11 h8 H;obtain ⟨p22,c22,rfl,h36⟩:=yA h35;exact yE 5 [] [34] rfl<|yZ 1 [vT y.Write.Array.l,vS p5 y.Write.Subs c5,vI y10,vI y.Value.Num,vS p6 y.Value.Index.Coefs c6,vI y.Value.Index.Const,vT y.Value.Read.Array.l,vS p7 y.Value.Read.Subs c7,vS p8 y.Value.Kids c8] rfl<|zX rfl<|yW<|zU ⟨_,_,_,_,_,_,_,_,_,(zC N).symm,H,h8,h36,rfl,rfl⟩
       intro hc2 N;refine yH [35] rfl<|zK ?_;obtain ⟨o03,ho03,hMc3⟩:=zB N;refine nN (fun I' hs' m'=>∃ (ValueNum3:Int) (ValueKids3:List zH) (x3:zP) (p23:Option Addr) (c23:Nat) (cs10:List Value) (p24:Option Addr) (c24:Nat),o03=(ValueNum3,ValueKids3,x3)/\I02.le I'/\(RL I' cs10 ValueKids3)/\(S4 I' p24 x3.b c24)/\hs'=[hB r01 (cRd x3 p24 c24),hB b2 [vT y.Write.Array.l,vS p5 y.Write.Subs c5,vI y.Value.Kind,vI ValueNum3,vS p6 y.Value.Index.Coefs c6,vI y.Value.Index.Const,vT y.Value.Read.Array.l,vS p7 y.Value.Read.Subs c7,vS p23 ValueKids3 c23],hO zA (vS p5 y.Write.Subs c5) cs,hO zH (vS p23 ValueKids3 c23) cs10,hB b1 [vT ([]),z0,vI 0,vI 0,z0,vI 0,vT ([]),z0,z0]]/\m'=[(4,vP b1 0),(5,vP b2 0)]) ?_ ?_
       · have H:=iS I02;refine yG ho03 ?_ ?_
         · intro hc3 N;refine zM<|yE 1 [] [37] rfl<|mU (rI [100,(-1),1]) ?_;intro b6 I016 le12 h40;have ⟨h11,h8,H⟩:=m3 le12 h11 h8 H;obtain ⟨⟨y13,y14⟩,hy7,N⟩:=zB N;refine rS (xR y3 ([100,(-1),1]:List Int) _ hy7 h11 h40) rfl ?_;rintro I017 hs2 v2 k2 le13 - ⟨v08,kk3,rfl,rfl,rfl,h42⟩ -;have ⟨h8,H⟩:=m2 le13 h8 H;obtain ⟨p25,c25,rfl,h43⟩:=yA h42;exact yE 5 [] [41] rfl<|yZ 1 [vT y.Write.Array.l,vS p5 y.Write.Subs c5,vI y.Value.Kind,vI y13,vS p6 y.Value.Index.Coefs c6,vI y.Value.Index.Const,vT y.Value.Read.Array.l,vS p7 y.Value.Read.Subs c7,vS p8 y.Value.Kids c8] rfl<|zX rfl<|yW<|zU ⟨_,_,_,_,_,_,_,_,(zC N).symm,H,h8,h43,rfl,rfl⟩
         intro hc3 N;refine yH [42] rfl<|zK ?_;obtain ⟨o04,ho04,hMc4⟩:=zB N;refine nN (fun I' hs' m'=>∃ (ValueKids4:List zH) (p26:Option Addr) (c26:Nat) (cs11:List Value),o04=ValueKids4/\I02.le I'/\(RL I' cs11 ValueKids4)/\hs'=[hB r01 (cRd y3 p9 c9),hB b2 [vT y.Write.Array.l,vS p5 y.Write.Subs c5,vI y.Value.Kind,vI y.Value.Num,vS p6 y.Value.Index.Coefs c6,vI y.Value.Index.Const,vT y.Value.Read.Array.l,vS p7 y.Value.Read.Subs c7,vS p26 ValueKids4 c26],hO zA (vS p5 y.Write.Subs c5) cs,hO zH (vS p26 ValueKids4 c26) cs11,hB b1 [vT ([]),z0,vI 0,vI 0,z0,vI 0,vT ([]),z0,z0]]/\m'=[(4,vP b1 0),(5,vP b2 0)]) ?_ ?_
         · have H:=iS I02;refine yG ho04 ?_ ?_
           · intro hc4 N;refine zM<|tZ 4 [1] [(46,vS p8 y.Value.Kids c8),(47,vA [vI 1,vI 0,z0,vI 0,vT ([]),z0,z0])]<|tK [vI 1,vI 0,z0,vI 0,vT ([]),z0,z0] zH ?_;intro b7 hb7;have h45:RL I02 [vI 1,vI 0,z0,vI 0,vT ([]),z0,z0] ([(zH.mk 1 0 (zA.mk ([]:List Int) 0) (zG.mk (⟨[]⟩:Str) ([]:List zA)) ([]:List zH))]:List zH):=⟨[vI 1,vI 0,z0,vI 0,vT ([]),z0,z0],_,rfl,rfl,(wB ⟨_,_,_,rfl,(SL.nil _),(SL.nil _),(SL.nil _)⟩),rfl⟩;obtain ⟨l1,hy8,N⟩:=zB N;refine qD 72 7 4 rfl rfl rfl h8 (.inr ⟨0,rfl⟩) h45 hy8 ?_;intro p27 c27 cs12 h46;exact sW (zY [1,2,3,4,5] (hs':=[hB r01 (cRd y3 p9 c9),hB b2 (cStmt y p5 c5 p6 c6 p7 c7 p8 c8),hO zA (vS p5 y.Write.Subs c5) cs,hO zH (vS p27 l1 c27) cs12,hB b1 [vT ([]),z0,vI 0,vI 0,z0,vI 0,vT ([]),z0,z0]]))<|yE 8 [] [51] rfl<|yZ 1 [vT y.Write.Array.l,vS p5 y.Write.Subs c5,vI y.Value.Kind,vI y.Value.Num,vS p6 y.Value.Index.Coefs c6,vI y.Value.Index.Const,vT y.Value.Read.Array.l,vS p7 y.Value.Read.Subs c7,vS p27 l1 c27] rfl<|zX rfl<|yW<|zU ⟨_,_,_,_,(zC N).symm,H,h46,rfl,rfl⟩
           intro hc4 N;exact zS<|yW<|zU ⟨_,_,_,_,(zC N).symm,H,h8,rfl,rfl⟩
         rintro I018 hs2 m2 ⟨ValueKids4,p26,c26,cs11,heq,le14,h44,rfl,rfl⟩;subst o04;have ⟨h11,H⟩:=m2 le14 h11 H;exact yW<|zU ⟨_,_,_,_,_,_,_,_,(zC hMc4).symm,H,h44,h11,rfl,rfl⟩
       rintro I015 hs2 m2 ⟨ValueNum3,ValueKids3,x3,p23,c23,cs10,p24,c24,heq1,le15,h37,h38,rfl,rfl⟩;subst o03;have H:=H.trans le15;exact yW<|zU ⟨_,_,_,_,_,_,_,_,_,(zC hMc3).symm,H,h37,h38,rfl,rfl⟩
     rintro I012 hs2 m2 ⟨ValueKind2,ValueNum2,ValueKids2,x2,p20,c20,cs9,p21,c21,heq2,le16,h30,h31,rfl,rfl⟩;subst o02;have ⟨h5,H⟩:=m2 le16 h5 H;exact yW<|zU ⟨_,_,_,_,_,_,_,_,_,_,_,_,_,(zC hMc2).symm,H,h5,h30,h31,rfl,rfl⟩
   rintro I06 hs2 m2 ⟨WriteSubs1,ValueKind1,ValueNum1,ValueKids1,x1,p14,c14,cs4,p15,c15,cs5,p16,c16,heq3,le17,h20,h21,h22,rfl,rfl⟩;subst o01;have H:=H.trans le17;exact yW<|zU ⟨_,_,_,_,_,_,_,_,_,_,_,_,_,_,(zC hMc1).symm,H,h20,h21,h22,rfl,rfl⟩
 rintro I03 hs2 m2 ⟨WriteArray,WriteSubs,ValueKind,ValueNum,ValueKids,x,p10,c10,cs2,p11,c11,cs3,p12,c12,heq4,le18,h12,h13,h14,rfl,rfl⟩;subst o0;have ⟨h6,h7⟩:=m2 le18 h6 h7;refine zO<|yX<|tZ 1 [1] [(52,vA [vT WriteArray.l,vS p10 WriteSubs c10,vI ValueKind,vI ValueNum,vS p6 y.Value.Index.Coefs c6,vI y.Value.Index.Const,vT y.Value.Read.Array.l,vS p7 y.Value.Read.Subs c7,vS p11 ValueKids c11])]<|yZ 4 [vT WriteArray.l,vS p10 WriteSubs c10,vI ValueKind,vI ValueNum,vS p6 y.Value.Index.Coefs c6,vI y.Value.Index.Const,vT y.Value.Read.Array.l,vS p7 y.Value.Read.Subs c7,vS p11 ValueKids c11] rfl<|zX rfl<|xI<|xE 2 rfl ?_;intro I019 le19 hl06;have h47:=SL.of_frozen hl06 le19 h12;have ⟨h14,h6,h7,h13⟩:=m4 le19 h14 h6 h7 h13;refine xE 2 rfl ?_;intro I020 le20 hl07;have h48:=SL.of_frozen hl07 le20 h13;have ⟨h14,h47,h6,h7⟩:=m4 le20 h14 h47 h6 h7;obtain rfl:=zC hMc;exact xC ⟨_,_,(.cell 2 rfl rfl (by kernel_rfl) ResV.nil),(zW [0] rfl (by decide)),⟨_,_,rfl,rfl,⟨_,rfl,(wC ⟨_,_,_,_,rfl,h47,h6,h7,h48⟩)⟩,(yY ⟨_,rfl,h14⟩)⟩⟩
end Go.LN
