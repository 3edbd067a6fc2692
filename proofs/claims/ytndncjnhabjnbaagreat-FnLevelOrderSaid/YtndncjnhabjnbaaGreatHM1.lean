/- Helper of the proof (see the last text). -/
import Derived.Test.YtndncjnhabjnbaaGreatLnP
import Derived.Test.YtndncjnhabjnbaaGreatST0
import Derived.Test.YtndncjnhabjnbaaGreatTryzShelf
set_option linter.unusedVariables false
set_option linter.unusedSimpArgs false
namespace Go.LN
open Go.Proofs Go.Proofs.Tryz
set_option maxRecDepth 20000
abbrev eS{α:Type}[Rp α](l:List α):Imm->Value->List HA->Prop:=λI' v hx=>∃p c,v=vS p l c/\hx=[]/\S4 I' p l c
abbrev ePExpr(x:zF):Imm->Value->List HA->Prop:=λI' v hx=>∃ad p0 c0 p1 c1 p2 c2,v=.pointer (some ad)/\hx=[]/\At I' ad (cExpr x p0 c0 p1 c1 p2 c2)/\S4 I' p0 x.Index.Coefs c0/\S4 I' p1 x.Read.Subs c1/\S4 I' p2 x.Kids c2
abbrev eVExpr(x:zF):Imm->Value->List HA->Prop:=λI' v hx=>∃p0 c0 p1 c1 p2 c2,v=vA (cExpr x p0 c0 p1 c1 p2 c2)/\hx=[]/\S4 I' p0 x.Index.Coefs c0/\S4 I' p1 x.Read.Subs c1/\S4 I' p2 x.Kids c2
abbrev ePStmt(x:zQ):Imm->Value->List HA->Prop:=λI' v hx=>∃ad p0 c0 p1 c1 p2 c2 p3 c3,v=.pointer (some ad)/\hx=[]/\At I' ad (cStmt x p0 c0 p1 c1 p2 c2 p3 c3)/\S4 I' p0 x.Write.Subs c0/\S4 I' p1 x.Value.Index.Coefs c1/\S4 I' p2 x.Value.Read.Subs c2/\S4 I' p3 x.Value.Kids c3
abbrev eVStmt(x:zQ):Imm->Value->List HA->Prop:=λI' v hx=>∃p0 c0 p1 c1 p2 c2 p3 c3,v=vA (cStmt x p0 c0 p1 c1 p2 c2 p3 c3)/\hx=[]/\S4 I' p0 x.Write.Subs c0/\S4 I' p1 x.Value.Index.Coefs c1/\S4 I' p2 x.Value.Read.Subs c2/\S4 I' p3 x.Value.Kids c3
abbrev ePAff(x:zA):Imm->Value->List HA->Prop:=λI' v hx=>∃ad p0 c0,v=.pointer (some ad)/\hx=[]/\At I' ad (cAff x p0 c0)/\S4 I' p0 x.Coefs c0
abbrev eVAff(x:zA):Imm->Value->List HA->Prop:=λI' v hx=>∃p0 c0,v=vA (cAff x p0 c0)/\hx=[]/\S4 I' p0 x.Coefs c0
abbrev ePArr(x:zG):Imm->Value->List HA->Prop:=λI' v hx=>∃ad p0 c0,v=.pointer (some ad)/\hx=[]/\At I' ad (cArr x p0 c0)/\S4 I' p0 x.Dims c0
abbrev eQArr(k:Nat)(x:zG):Imm->Value->List HA->Prop:=λI' v hx=>∃ad p0 c0,v=.pointer (some (ad.add k))/\hx=[]/\At I' ad (cArr x p0 c0)/\S4 I' p0 x.Dims c0
abbrev ePInst(x:zM):Imm->Value->List HA->Prop:=λI' v hx=>∃ad p0 c0,v=.pointer (some ad)/\hx=[]/\At I' ad (cInst x p0 c0)/\S4 I' p0 x.Point c0
abbrev eQInst(k:Nat)(x:zM):Imm->Value->List HA->Prop:=λI' v hx=>∃ad p0 c0,v=.pointer (some (ad.add k))/\hx=[]/\At I' ad (cInst x p0 c0)/\S4 I' p0 x.Point c0
abbrev ePPart(x:zN):Imm->Value->List HA->Prop:=λI' v hx=>∃ad p0 c0 p1 c1,v=.pointer (some ad)/\hx=[]/\At I' ad (cPart x p0 c0 p1 c1)/\S4 I' p0 x.Nest c0/\S4 I' p1 x.Body c1
abbrev eQPart(k:Nat)(x:zN):Imm->Value->List HA->Prop:=λI' v hx=>∃ad p0 c0 p1 c1,v=.pointer (some (ad.add k))/\hx=[]/\At I' ad (cPart x p0 c0 p1 c1)/\S4 I' p0 x.Nest c0/\S4 I' p1 x.Body c1
abbrev eVPart(x:zN):Imm->Value->List HA->Prop:=λI' v hx=>∃p0 c0 p1 c1,v=vA (cPart x p0 c0 p1 c1)/\hx=[]/\S4 I' p0 x.Nest c0/\S4 I' p1 x.Body c1
instance {i j:Imm}{au:List Raw2}{parts:List zN}{vN vB:Value}{nl:List zE}{bl:List zQ}:Mo (LP i au parts vN nl vB bl) i j (LP j au parts vN nl vB bl):=⟨λh x=>x.mono h⟩
abbrev RT:=Ret Tryz.prog
def zDR(r:zL):KT:=λkk I' ah v=>
 ∃b_0 a0_0 c0_0,ah=[.blk b_0 ⟨[.slice a0_0 r.b.length c0_0,.int .i64 r.p]⟩]/\v=tupV [(.pointer (some ⟨b_0,0,none⟩))]/\SL I' (.slice a0_0 r.b.length c0_0) r.b
def jW(code:(List UInt8)):Option (zL):=do
 let code1<-(do
  if(decide ((code.length:Int)>2000)) then
   let l<-slc code 0 2000
   pure (id l)
  else
   pure (id code)
    : Option (List UInt8))
 pure (zL.mk code1 0)
theorem zEx:∀code r,jW code=some r->∀{I:Imm}{p c},(S4 I p code c)->RT 39 [vS p code c] I [] (zDR  r):=by
 intro code r N I p c h;unfold jW at N;refine yJ func39 λB=>?_;have H:=iS I;refine vK []<|zZ<|yG [5] rfl<|zJ ?_;obtain⟨o0,aB,aN⟩:=zB N;refine pZ (λI' ah m'=>∃(code1:List UInt8) (p1:Option Addr) (c1:Nat),o0=code1/\I.le I'/\(S4 I' p1 code1 c1)/\ah=[]/\m'=[(0,vS p1 code1 c1)]) ?_ ?_
 ·have H:=iS I;refine yD aB ?_ ?_
  ·intro hc N;refine zK<|yF 1 [] [6] rfl<|bE N λl hy N=>zNm rfl h hy ?_;intro v0 h2;obtain⟨p2,c2,rfl⟩:=h2.form;exact yI [] [0] rfl<|yN<|zT ⟨_,_,_,(zC N).symm,H,h2,rfl,rfl⟩
  intro hc N;exact zU<|yN<|zT ⟨_,_,_,(zC N).symm,H,h,rfl,rfl⟩
 rintro I0 ax m2 ⟨code1,p1,c1,heq,le,h1,rfl,rfl⟩;subst o0;refine xA<|yF 2 [] [9] rfl<|uH [vS p1 code1 c1,vI 0] ?_;intro b hb;refine yI [] [2] rfl<|zJ<|yZ ?_;obtain rfl:=zC aN;exact xC ⟨_,_,(.tmp rfl ResV.nil),(zW [0] rfl (by decide)),⟨_,_,_,rfl,rfl,h1⟩⟩
def zBc(b0:Nat)(r:Int×zL):KT:=λkk I' ah v=>
 ∃v0 k0,ah=[.blk b0 ⟨k0⟩]/\v=tupV [v0]/\v0=.int .i64 r.1/\Rp.rep I' k0 r.2
def yW(r0:zL)(n0:Int):Option (Int×zL):=do
 let t24<-(do
  if(decide (n0<1)) then
   pure true
  else
   pure ((r0.b.length:Int)==0)
    : Option Bool)
 if t24 then
  pure (0,(zL.mk r0.b (W (r0.p+1))))
 else
  if(decide ((W ((W (r0.p+1)) - 1))<(r0.b.length:Int))) then
   let x<-idx r0.b (W ((W (r0.p+1)) - 1))
   let q<-rem (W (x.toNat:Int)) n0
   pure (q,(zL.mk r0.b (W (r0.p+1))))
  else
   let q1<-rem (W ((W (r0.p+1)) - 1)) (r0.b.length:Int)
   let x1<-idx r0.b q1
   let q2<-rem (W ((W ((W ((W (r0.p+1)) - 1))*7))+3)) (r0.b.length:Int)
   let x2<-idx r0.b q2
   let q3<-quo (W ((W (r0.p+1)) - 1)) (r0.b.length:Int)
   let q4<-rem (W (BitVec.ofInt IntKind.i64.bits (W ((W ((W ((W ((W (x1.toNat:Int))*131))+(W ((W (x2.toNat:Int))*1117))))+(W ((W ((W (r0.p+1)) - 1))*29))))+(W (q3*53)))) ^^^ BitVec.ofInt IntKind.i64.bits (W ((W ((W ((W ((W ((W (x1.toNat:Int))*131))+(W ((W (x2.toNat:Int))*1117))))+(W ((W ((W (r0.p+1)) - 1))*29))))+(W (q3*53)))).tdiv 64))).toNat) n0
   pure (q4,(zL.mk r0.b (W (r0.p+1))))
theorem xR:∀r0 n0 r,yW r0 n0=some r->∀{I:Imm}{aq:Nat}{p c},(S4 I p r0.b c)->RT 72 [vP aq 0,vI n0] I [hB aq (cRd r0 p c)] (zBc aq r):=by
 intro r0 n0 r N I aq p c h;unfold yW at N;refine yJ func72 λB=>?_;have H:=iS I;refine vK []<|xA<|yF 8 [0] [12,14] rfl<|xP 0 [vS p r0.b c,vI (W (r0.p+1))] rfl<|yC rfl<|zZ<|yA ?_;refine wE N [hB aq [vS p r0.b c,vI (W (r0.p+1))]] (λt24=>[(0,vP aq 0),(1,vI n0),(24,.bool t24)]) (λo0 aB=>?_) ?_
 ·have H:=iS I;refine zK<|yF 3 [] [17] rfl<|xW [17] aB ?_ ?_
  ·intro hc N;exact wG [] [(24,vY)]<|yN<|zT (ct N H)
  intro hc N;exact yI [0] [24] rfl<|yN<|zT (ct N H)
 intro t24 I0 le aN;have h:=h.mono le;refine zJ<|yD aN ?_ ?_
 ·intro aF N;refine yG [4] rfl<|xF<|zH ?_;obtain rfl:=zC N;exact xC ⟨_,_,(.tmp rfl ResV.nil),(zW [0] rfl (by decide)),⟨_,_,rfl,rfl,rfl,(yU ⟨_,rfl,h⟩)⟩⟩
 intro aF N;refine zU<|xA<|yI [0] [5] rfl<|zZ<|yE<|yI [0] [36] rfl<|zJ<|yD N ?_ ?_
 ·intro bd N;refine yE<|yF 5 [0] [40,41] rfl<|bE N λx hy N=>xN rfl rfl h hy ?_;intro ad aL ap al;obtain rfl:=al;refine xE 0 ap [.int .u8 (x.toNat:Int)] (.int .u8 (x.toNat:Int)) rfl<|yF 9 [] [44,45] rfl<|bE N λq ay N=>zNH rfl ay<|yI [] [4] rfl<|xF<|zH ?_;obtain rfl:=zC N;exact xC ⟨_,_,(.tmp rfl ResV.nil),(zW [0] rfl (by decide)),⟨_,_,rfl,rfl,rfl,(yU ⟨_,rfl,h⟩)⟩⟩
 intro bd N;refine zU<|zZ<|nP (by kernel_rfl) (by kernel_rfl)<|gN 10 [0,0] [50,51,56] rfl<|bE N λq1 aJ N=>zMo rfl aJ<|bE N λx1 bb N=>gT rfl rfl h bb ?_;intro ad1 bv ar az;obtain rfl:=az;refine kF 0 ar [.int .u8 (x1.toNat:Int)] (.int .u8 (x1.toNat:Int)) rfl<|gN 27 [0,0] [61,65,68,73] rfl<|bE N λq2 bt N=>zMo rfl bt<|bE N λx2 bH N=>gT rfl rfl h bH ?_;intro ad2 bM aP aW;obtain rfl:=aW;refine kF 0 aP [.int .u8 (x2.toNat:Int)] (.int .u8 (x2.toNat:Int)) rfl<|gN 42 [0] [82,83,88] rfl<|bE N λq3 hy6 N=>zNn rfl hy6<|zEw [] [6] rfl<|wW [6] rfl<|xA<|yF 2 [] [96,97] rfl<|bE N λq4 hy7 N=>zNH rfl hy7<|yI [] [4] rfl<|zJ<|yZ ?_;obtain rfl:=zC N;exact xC ⟨_,_,(.tmp rfl ResV.nil),(zW [0] rfl (by decide)),⟨_,_,rfl,rfl,rfl,(yU ⟨_,rfl,h⟩)⟩⟩
def zCL(b0:Nat)(r:Int×zL):KT:=λkk I' ah v=>
 ∃v0 k0,ah=[.blk b0 ⟨k0⟩]/\v=tupV [v0]/\v0=.int .i64 r.1/\Rp.rep I' k0 r.2
def yV(r0:zL)(list:(List Int)):Option (Int×zL):=do
 let (y1,y2)<-yW r0 (list.length:Int)
 let x<-idx list y1
 pure (x,y2)
theorem xJ:∀r0 list r,yV r0 list=some r->∀{I:Imm}{aq:Nat}{p c p1 c1},(S4 I p r0.b c)->(S4 I p1 list c1)->RT 59 [vP aq 0,vS p1 list c1] I [hB aq (cRd r0 p c)] (zCL aq r):=by
 intro r0 list r N I aq p c p1 c1 h h1;unfold yV at N;refine yJ func59 λB=>vK []<|xA<|yF 4 [] [5,6,8] rfl ?_;obtain⟨⟨y1,y2⟩,hy,N⟩:=zB N;refine rC (xR r0 (list.length:Int) _ hy h) rfl ?_;rintro I0 ax v2 k2 le - ⟨v0,kk,rfl,rfl,rfl,h3⟩ -;have h1:=h1.mono le;obtain⟨p2,c2,rfl,h4⟩:=yB h3;obtain⟨x,ay,N⟩:=zB N;refine xN rfl rfl h1 ay ?_;intro ad aL ap al;obtain rfl:=al;refine xE 0 ap [vI x] (vI x) rfl<|yI [] [4] rfl<|zJ<|yZ ?_;obtain rfl:=zC N;exact xC ⟨_,_,(.tmp rfl ResV.nil),(zW [0] rfl (by decide)),⟨_,_,rfl,rfl,rfl,(yU ⟨_,rfl,h4⟩)⟩⟩
def zEQ(r:(List zE)):KT:=λkk I' ah v=>
 ∃v0,ah=[]/\v=tupV [v0]/\SL I' v0 r
def sJ(nest:(List zE))(i:Int)(k0:Int)(Lo:List zA):Option (List zA):=do
 let x<-idx nest i
 if(decide (k0<(x.Lo.length:Int))) then
  let x1<-idx nest i
  let x2<-idx x1.Lo k0
  let l<-app 8 ([]:List Int) x2.Coefs
  let l1<-app 32 Lo ([(zA.mk l x2.Const)]:List zA)
  sJ nest i (W (k0+1)) l1
 else
  pure (id Lo)
 partial_fixpoint
theorem zAR(nest:(List zE))(i:Int):∀(k0:Int) (Lo:List zA) (o:List zA),sJ nest i k0 Lo=some o->∀{B}{I0 I:Imm}{Q}{τ:Type} [Rp τ] {out:List τ}{p c p1 c1 cs}{b1:Nat}{p3 c3 aO},I0.le I->(S4 I p nest c)->(RL I cs out)->(RL I aO Lo)->NG Q->NO Q->(∀(I':Imm) (Lo1:List zA) (p4:Option Addr) (c4:Nat) (aT:List Value),o=Lo1->I0.le I'->(RL I' aT Lo1)->T 83 B Q (.exit 2) I' [hO zA (vS p4 Lo1 c4) aT,hB b1 [vS p4 Lo1 c4,z0],hO τ (vS p1 out c1) cs] [(0,vS p nest c),(3,vS p1 out c1),(4,vI i),(5,vP b1 0)])->J Tryz.prog 83 B (nav (bodyOf f107) [1,1,0,1,0,0,1,0,0,1,0,1,0]) Q I [hO zA (vS p3 Lo c3) aO,hB b1 [vS p3 Lo c3,z0],hO τ (vS p1 out c1) cs] [(0,vS p nest c),(3,vS p1 out c1),(4,vI i),(5,vP b1 0),(6,vI k0)]:=by
 refine sJ.partial_correctness nest i _ λaI ih k0 Lo o N B I0 I Q τ _ out p c p1 c1 cs b1 p3 c3 aO H h h2 h5 hg ho hx=>yR hg ho<|yA<|yE<|yF 3 [] [18,19,20] rfl<|bE N λx hy N=>xN rfl rfl h hy ?_;intro ad aL ap al;obtain⟨p5,c5,p6,c6,rfl,h7,h8⟩:=rG al;refine yF 5 [] [22] rfl<|xE 0 ap [vS p5 x.Lo c5] (vS p5 x.Lo c5) rfl<|yI [] [25] rfl<|zJ<|yD N ?_ ?_
 ·intro aF N;refine zU<|zZ<|yH<|yE<|yF 2 [] [28,29] rfl<|bE N λx1 ay N=>xN rfl rfl h ay ?_;intro ad1 bv ar az;obtain⟨p7,c7,p8,c8,rfl,h9,h10⟩:=rG az;refine yF 4 [] [31] rfl<|xE 0 ar [vS p7 x1.Lo c7] (vS p7 x1.Lo c7) rfl<|yF 6 [] [33] rfl<|bE N λx2 aJ N=>xN rfl rfl h9 aJ ?_;intro ad2 bM aP aW;obtain⟨p9,c9,rfl,h11⟩:=yO aW;refine xE 0 aP (cAff x2 p9 c9) (vA (cAff x2 p9 c9)) rfl<|uB [z0,vI 0] ?_;intro b2 hb2;refine xP 0 (cAff x2 p9 c9) rfl<|yC rfl<|zJ ?_;obtain⟨l,bb,N⟩:=zB N;obtain⟨l1,bt,N⟩:=zB N;refine wX [.p (vP b1 0) [],.p (vS p3 Lo c3) [1],.x (λI' v hx=>∃b3,v=vS (some ⟨b3,0,none⟩) ([]:List Int) 0/\hx=[hO Int (vS (some ⟨b3,0,none⟩) ([]:List Int) 0) []]/\(RL I' [] ([]:List Int))),.p (vP b2 0) [],.p (vS p9 x2.Coefs c9) [0],.x (λI' v hx=>∃aZ bh br,v=vS aZ l bh/\hx=[hO Int (vS aZ l bh) br]/\(RL I' br l)),.p (vP b2 1) [],.p (vI x2.Const) [0],.x (λI' v hx=>∃p101 c101 cs41,v=vA [vS p101 l c101,vI x2.Const]/\hx=[hO Int (vS p101 l c101) cs41]/\(RL I' cs41 l)),.x (λI' v hx=>∃b4,v=vS (some ⟨b4,0,none⟩) ([(zA.mk l x2.Const)]:List zA) 1/\hx=[]/\(SL I' (vS (some ⟨b4,0,none⟩) ([(zA.mk l x2.Const)]:List zA) 1) ([(zA.mk l x2.Const)]:List zA))),.x (λI' v hx=>∃aV bj bC,v=vS aV l1 bj/\hx=[hO zA (vS aV l1 bj) bC]/\(RL I' bC l1))] [[],[(0,false)],[],[],[(3,false)],[(2,true),(4,false)],[],[(6,false)],[(5,true),(7,false)],[(8,true)],[(1,false),(9,false),(13,true)]] [hB b2 (cAff x2 p9 c9),hB b1 [vS p3 Lo c3,z0],hO τ (vS p1 out c1) cs] [[hO zA (vS p3 Lo c3) aO]] [(10,true)] (zX [0,2,3,1]) ?_ ?_
  ·refine Op<|Op<|Ox ?_<|Op<|Op<|Ox ?_<|Op<|Op<|Ox ?_<|Ox ?_<|Ox ?_<|On
   ·intro I1 hf af;refine dE []<|tU [] Int ?_;intro b3 hb3;have h12:RL I1 [] ([]:List Int):=rfl;exact yK [hO Int (vS (some ⟨b3,0,none⟩) ([]:List Int) 0) []] iR ⟨_,rfl,rfl,h12⟩
   ·rintro I1 hf af _ _ ⟨b3,rfl,rfl,h12⟩;refine yP [38,40] rfl ?_;have h11:=h11.mono af;obtain⟨ccs3,k01,k02⟩:=h11;have h11:SL I1 (vS p9 x2.Coefs c9) x2.Coefs:=⟨_,k01,k02⟩;exact pC 3 1 0 rfl rfl rfl h12 (.inl k01) k02 bb λaZ bh br h13=>uW (ah:=(hO Int (vS aZ l bh) br::hB b2 (cAff x2 p9 c9)::hB b1 [vS p3 Lo c3,z0]::hO τ (vS p1 out c1) cs::hf)) rfl<|yK [hO Int (vS aZ l bh) br] iR ⟨_,_,_,rfl,rfl,h13⟩
   ·rintro I1 hf af _ _ ⟨aZ,bh,br,rfl,rfl,h13⟩;exact yP [41,43] rfl<|rS 9 [(44,vA [vS aZ l bh,vI x2.Const])]<|yK [hO Int (vS aZ l bh) br] iR ⟨_,_,_,rfl,rfl,h13⟩
   ·rintro I1 hf af _ _ ⟨p101,c101,cs41,rfl,rfl,h131⟩;refine yP [44] rfl ?_;have H:=iS I1;refine xM 0 rfl ?_;intro I0 le hl0;have h14:=SL.of_frozen hl0 le h131;have H:=H.trans le;refine nV (rc (zA.mk l x2.Const) (yL ⟨_,rfl,h14⟩) rN) ?_;intro b4 aU af h16;have H:=H.trans af;exact yK [] H ⟨_,rfl,rfl,h16⟩
   rintro I1 hf af _ _ ⟨rfl,rfl⟩ _ _ ⟨b4,rfl,rfl,h16⟩ _ _ rfl;refine yP [37,45] rfl ?_;have h5:=iM af h5;obtain⟨ccs4,k03,k04⟩:=h16;have h16:SL I1 (vS (some ⟨b4,0,none⟩) ([(zA.mk l x2.Const)]:List zA) 1) ([(zA.mk l x2.Const)]:List zA):=⟨_,k03,k04⟩;exact pC 78 2 0 rfl rfl rfl h5 (.inl k03) k04 bt λaV bj bC h17=>uW (ah:=(hO zA (vS aV l1 bj) bC::hB b2 (cAff x2 p9 c9)::hB b1 [vS p3 Lo c3,z0]::hO τ (vS p1 out c1) cs::hf)) rfl<|yK [hO zA (vS aV l1 bj) bC] iR ⟨_,_,_,rfl,rfl,h17⟩
  rintro aQ aE _ _ ⟨aV,bj,bC,rfl,rfl,h17⟩;refine yP [0,3,4,5,6,46] rfl ?_;have ⟨h,h2,H⟩:=m3 aE h h2 H;exact yF 12 [] [47] rfl<|xP 2 [vS aV l1 bj,z0] rfl<|yC rfl<|zP<|zJ<|zK<|yI [] [6] rfl<|yS<|jU (zW [0,2,3] rfl (by decide))<|nU<|ih (W (k0+1)) l1 _ N H h h2 h17 hg ho hx
 intro aF N;exact wZ<|yN<|hx _ _ _ _ _ (zC N).symm H h5
def sK(nest:(List zE))(i:Int)(k05:Int)(Hi:List zA):Option (List zA):=do
 let x3<-idx nest i
 if(decide (k05<(x3.Hi.length:Int))) then
  let x4<-idx nest i
  let x5<-idx x4.Hi k05
  let l2<-app 8 ([]:List Int) x5.Coefs
  let l3<-app 32 Hi ([(zA.mk l2 x5.Const)]:List zA)
  sK nest i (W (k05+1)) l3
 else
  pure (id Hi)
 partial_fixpoint
theorem zAS(nest:(List zE))(i:Int):∀(k05:Int) (Hi:List zA) (o:List zA),sK nest i k05 Hi=some o->∀{B}{I0 I:Imm}{Q}{τ:Type} [Rp τ] {out:List τ}{Lo1:List zA}{p c p1 c1 cs}{b1:Nat}{p4 c4 aT bB bo cs6},I0.le I->(S4 I p nest c)->(RL I cs out)->(RL I aT Lo1)->(RL I cs6 Hi)->NG Q->NO Q->(∀(I':Imm) (Hi1:List zA) (bm:Option Addr) (bu:Nat) (cs7:List Value),o=Hi1->I0.le I'->(RL I' cs7 Hi1)->T 83 B Q (.exit 4) I' [hO zA (vS bm Hi1 bu) cs7,hO zA (vS p4 Lo1 c4) aT,hB b1 [vS p4 Lo1 c4,vS bm Hi1 bu],hO τ (vS p1 out c1) cs] [(0,vS p nest c),(3,vS p1 out c1),(4,vI i),(5,vP b1 0)])->J Tryz.prog 83 B (nav (bodyOf f107) [1,1,0,1,0,0,1,0,0,1,1,0,1,0]) Q I [hO zA (vS bB Hi bo) cs6,hO zA (vS p4 Lo1 c4) aT,hB b1 [vS p4 Lo1 c4,vS bB Hi bo],hO τ (vS p1 out c1) cs] [(0,vS p nest c),(3,vS p1 out c1),(4,vI i),(5,vP b1 0),(8,vI k05)]:=by
 refine sK.partial_correctness nest i _ λaI ih k05 Hi o N B I0 I Q τ _ out Lo1 p c p1 c1 cs b1 p4 c4 aT bB bo cs6 H h h2 h6 h19 hg ho hx=>yR hg ho<|yA<|yE<|yF 3 [] [48,49,50] rfl<|bE N λx3 bH N=>xN rfl rfl h bH ?_;intro ad3 ccs5 hat3 bq;obtain⟨p14,c14,p15,c15,rfl,h21,h22⟩:=rG bq;refine yF 5 [] [52] rfl<|xE 1 hat3 [vS p15 x3.Hi c15] (vS p15 x3.Hi c15) rfl<|yI [] [55] rfl<|zJ<|yD N ?_ ?_
 ·intro bd N;refine zU<|zZ<|yH<|yE<|yF 2 [] [58,59] rfl<|bE N λx4 hy6 N=>xN rfl rfl h hy6 ?_;intro ad4 ccs6 hat4 hrep4;obtain⟨p16,c16,p17,c17,rfl,h23,h24⟩:=rG hrep4;refine yF 4 [] [61] rfl<|xE 1 hat4 [vS p17 x4.Hi c17] (vS p17 x4.Hi c17) rfl<|yF 6 [] [63] rfl<|bE N λx5 hy7 N=>xN rfl rfl h24 hy7 ?_;intro ad5 ccs7 hat5 hrep5;obtain⟨p18,c18,rfl,h25⟩:=yO hrep5;refine xE 0 hat5 (cAff x5 p18 c18) (vA (cAff x5 p18 c18)) rfl<|uB [z0,vI 0] ?_;intro b5 hb5;refine xP 0 (cAff x5 p18 c18) rfl<|yC rfl<|zJ ?_;obtain⟨l2,hy8,N⟩:=zB N;obtain⟨l3,hy9,N⟩:=zB N;refine wX [.p (vP b1 1) [],.p (vS bB Hi bo) [2],.x (λI' v hx=>∃b6,v=vS (some ⟨b6,0,none⟩) ([]:List Int) 0/\hx=[hO Int (vS (some ⟨b6,0,none⟩) ([]:List Int) 0) []]/\(RL I' [] ([]:List Int))),.p (vP b5 0) [],.p (vS p18 x5.Coefs c18) [0],.x (λI' v hx=>∃p19 c19 cs8,v=vS p19 l2 c19/\hx=[hO Int (vS p19 l2 c19) cs8]/\(RL I' cs8 l2)),.p (vP b5 1) [],.p (vI x5.Const) [0],.x (λI' v hx=>∃p191 c191 cs81,v=vA [vS p191 l2 c191,vI x5.Const]/\hx=[hO Int (vS p191 l2 c191) cs81]/\(RL I' cs81 l2)),.x (λI' v hx=>∃b7,v=vS (some ⟨b7,0,none⟩) ([(zA.mk l2 x5.Const)]:List zA) 1/\hx=[]/\(SL I' (vS (some ⟨b7,0,none⟩) ([(zA.mk l2 x5.Const)]:List zA) 1) ([(zA.mk l2 x5.Const)]:List zA))),.x (λI' v hx=>∃p20 c20 cs9,v=vS p20 l3 c20/\hx=[hO zA (vS p20 l3 c20) cs9]/\(RL I' cs9 l3))] [[],[(0,false)],[],[],[(3,false)],[(2,true),(4,false)],[],[(6,false)],[(5,true),(7,false)],[(8,true)],[(1,false),(9,false),(13,true)]] [hB b5 (cAff x5 p18 c18),hO zA (vS p4 Lo1 c4) aT,hB b1 [vS p4 Lo1 c4,vS bB Hi bo],hO τ (vS p1 out c1) cs] [[hO zA (vS bB Hi bo) cs6]] [(10,true)] (zX [0,2,3,4,1]) ?_ ?_
  ·refine Op<|Op<|Ox ?_<|Op<|Op<|Ox ?_<|Op<|Op<|Ox ?_<|Ox ?_<|Ox ?_<|On
   ·intro I1 hf af;refine dE []<|tU [] Int ?_;intro b6 hb6;have h26:RL I1 [] ([]:List Int):=rfl;exact yK [hO Int (vS (some ⟨b6,0,none⟩) ([]:List Int) 0) []] iR ⟨_,rfl,rfl,h26⟩
   ·rintro I1 hf af _ _ ⟨b6,rfl,rfl,h26⟩;refine yP [68,70] rfl ?_;have h25:=h25.mono af;obtain⟨ccs8,k06,k07⟩:=h25;have h25:SL I1 (vS p18 x5.Coefs c18) x5.Coefs:=⟨_,k06,k07⟩;exact pC 3 1 0 rfl rfl rfl h26 (.inl k06) k07 hy8 λp19 c19 cs8 h27=>uW (ah:=(hO Int (vS p19 l2 c19) cs8::hB b5 (cAff x5 p18 c18)::hO zA (vS p4 Lo1 c4) aT::hB b1 [vS p4 Lo1 c4,vS bB Hi bo]::hO τ (vS p1 out c1) cs::hf)) rfl<|yK [hO Int (vS p19 l2 c19) cs8] iR ⟨_,_,_,rfl,rfl,h27⟩
   ·rintro I1 hf af _ _ ⟨p19,c19,cs8,rfl,rfl,h27⟩;exact yP [71,73] rfl<|rS 9 [(74,vA [vS p19 l2 c19,vI x5.Const])]<|yK [hO Int (vS p19 l2 c19) cs8] iR ⟨_,_,_,rfl,rfl,h27⟩
   ·rintro I1 hf af _ _ ⟨p191,c191,cs81,rfl,rfl,h271⟩;refine yP [74] rfl ?_;have H:=iS I1;refine xM 0 rfl ?_;intro bK bi hl02;have h28:=SL.of_frozen hl02 bi h271;have H:=H.trans bi;refine nV (rc (zA.mk l2 x5.Const) (yL ⟨_,rfl,h28⟩) rN) ?_;intro b7 bO bw h30;have H:=H.trans bw;exact yK [] H ⟨_,rfl,rfl,h30⟩
   rintro I1 hf af _ _ ⟨rfl,rfl⟩ _ _ ⟨b7,rfl,rfl,h30⟩ _ _ rfl;refine yP [67,75] rfl ?_;have h19:=iM af h19;obtain⟨ccs9,k08,k09⟩:=h30;have h30:SL I1 (vS (some ⟨b7,0,none⟩) ([(zA.mk l2 x5.Const)]:List zA) 1) ([(zA.mk l2 x5.Const)]:List zA):=⟨_,k08,k09⟩;exact pC 78 2 0 rfl rfl rfl h19 (.inl k08) k09 hy9 λp20 c20 cs9 h31=>uW (ah:=(hO zA (vS p20 l3 c20) cs9::hB b5 (cAff x5 p18 c18)::hO zA (vS p4 Lo1 c4) aT::hB b1 [vS p4 Lo1 c4,vS bB Hi bo]::hO τ (vS p1 out c1) cs::hf)) rfl<|yK [hO zA (vS p20 l3 c20) cs9] iR ⟨_,_,_,rfl,rfl,h31⟩
  rintro I06 bD _ _ ⟨p20,c20,cs9,rfl,rfl,h31⟩;refine yP [0,3,4,5,8,76] rfl ?_;have ⟨h,h2,h6,H⟩:=m4 bD h h2 h6 H;exact yF 12 [] [77] rfl<|xP 3 [vS p4 Lo1 c4,vS p20 l3 c20] rfl<|yC rfl<|zP<|zJ<|zK<|yI [] [8] rfl<|yS<|jU (zW [0,2,3,4] rfl (by decide))<|nU<|ih (W (k05+1)) l3 _ N H h h2 h6 h31 hg ho hx
 intro bd N;exact wZ<|yN<|hx _ _ _ _ _ (zC N).symm H h19
def uI(nest:(List zE))(out:List zE)(i:Int):Option (List zE):=do
 if(decide (i<(nest.length:Int))) then
  let Lo1<-sJ nest i 0 ([]:List zA)
  let Hi1<-sK nest i 0 ([]:List zA)
  let am<-app 48 out ([(zE.mk Lo1 Hi1)]:List zE)
  uI nest am (W (i+1))
 else
  pure (id out)
 partial_fixpoint
theorem zDS(nest:(List zE)):∀(out:List zE) (i:Int) (o:List zE),uI nest out i=some o->∀{B}{I0 I:Imm}{Q p c p1 c1 cs},I0.le I->(S4 I p nest c)->(RL I cs out)->NG Q->NO Q->(∀(I':Imm) (aj:List zE) (p2:Option Addr) (c2:Nat) (aC:List Value),o=aj->I0.le I'->(RL I' aC aj)->T 83 B Q (.exit 0) I' [hO zE (vS p2 aj c2) aC] [(3,vS p2 aj c2)])->J Tryz.prog 83 B (nav (bodyOf f107) [1,1,0,1,0]) Q I [hO zE (vS p1 out c1) cs] [(0,vS p nest c),(3,vS p1 out c1),(4,vI i)]:=by
 refine uI.partial_correctness nest _ λaI ih out i o N B I0 I Q p c p1 c1 cs H h h2 hg ho hx=>yR hg ho<|yA<|yG [14] rfl<|zJ<|yD N ?_ ?_
 ·intro hc N;refine zU<|zZ<|yH<|yE<|yF 1 [] [17] rfl<|uB zTwo ?_;intro b1 hb1;refine zEs 0 zTwo [hB b1 zTwo,hO zE (vS p1 out c1) cs] rfl rfl rfl rfl<|yC rfl<|zZ<|yG [6] rfl<|wC<|oA [(0,vS p nest c),(3,vS p1 out c1),(4,vI i),(5,vP b1 0),(6,vI 0)]<|dW zA λh4=>?_;obtain⟨o0,aB,aH⟩:=zB N;refine zAR nest i 0 ([]:List zA) o0 aB iR h h2 h4 (λ_ _ _ h=>hg _ _ _ h) (λ_ _ h=>ho _ _ h) ?_;intro bz Lo1 p4 c4 aT heq aK h6;subst o0;have ⟨h,h2,H⟩:=m3 aK h h2 H;refine zR<|zZ<|yG [8] rfl<|wC<|oA [(0,vS p nest c),(3,vS p1 out c1),(4,vI i),(5,vP b1 0),(8,vI 0)]<|dW zA λh18=>?_;obtain⟨aM,aA,hMl1⟩:=zB aH;refine zAS nest i 0 ([]:List zA) aM aA iR h h2 h6 h18 (λ_ _ _ h=>hg _ _ _ h) (λ_ _ h=>ho _ _ h) ?_;intro I07 Hi1 bm bu cs7 heq1 le7 h20;subst aM;have ⟨h,h2,h6,H⟩:=m4 le7 h h2 h6 H;refine zR<|zJ<|zK<|qA 2 [2] [(78,vS p1 out c1),(79,vA [vS p4 Lo1 c4,vS bm Hi1 bu])]<|xM 1 rfl ?_;intro I08 le8 hl04;have h32:=SL.of_frozen hl04 le8 h6;have ⟨h,h2,h20,H⟩:=m4 le8 h h2 h20 H;refine xM 0 rfl ?_;intro I09 le9 hl05;have h33:=SL.of_frozen hl05 le9 h20;have ⟨h,h2,h32,H⟩:=m4 le9 h h2 h32 H;refine tU [vS p4 Lo1 c4,vS bm Hi1 bu] zE ?_;intro b8 hb8;have h34:RL I09 [vS p4 Lo1 c4,vS bm Hi1 bu] ([(zE.mk Lo1 Hi1)]:List zE):=⟨[vS p4 Lo1 c4,vS bm Hi1 bu],_,rfl,rfl,(nQ ⟨_,_,rfl,h32,h33⟩),rfl⟩;obtain⟨am,hy10,N⟩:=zB hMl1;exact pC 150 2 2 rfl rfl rfl h2 (.inr ⟨0,rfl⟩) h34 hy10 λp21 c21 cs10 h35=>qE (zX [1,2] (ah:=[hB b1 [vS p4 Lo1 c4,vS bm Hi1 bu],hO zE (vS p21 am c21) cs10]))<|yI [] [3] rfl<|zP<|zJ<|zK<|yI [] [4] rfl<|yS<|jU (zW [1] rfl (by decide))<|nU<|ih am (W (i+1)) _ N H h h35 hg ho hx
 intro hc N;exact wZ<|yN<|hx _ _ _ _ _ (zC N).symm H h2
def nH(nest:(List zE)):Option ((List zE)):=do
 let aj<-uI nest ([]:List zE) 0
 pure (id aj)
theorem zBd:∀nest r,nH nest=some r->∀{I:Imm}{p c},(S4 I p nest c)->RT 107 [vS p nest c] I [] (zEQ  r):=by
 intro nest r N I p c h;unfold nH at N;refine yJ func107 λB=>vK []<|xA<|tU [] zE ?_;intro b hb;have h1:RL I [] ([]:List zE):=rfl;refine yI [] [3] rfl<|zZ<|yG [4] rfl<|wC<|oA [(0,vS p nest c),(3,vS (some ⟨b,0,none⟩) ([]:List zE) 0),(4,vI 0)] ?_;obtain⟨o02,ho02,hMl2⟩:=zB N;refine zDS nest ([]:List zE) 0 o02 ho02 iR h h1 (λ_ _ _ h=>h) (λ_ _ h=>h) ?_;intro bR aj p2 c2 aC heq2 le10 h3;subst o02;refine zR<|wW [2] rfl<|xF<|xB 0 rfl ?_;intro bV le11 hl06;have h36:=SL.of_frozen hl06 le11 h3;obtain rfl:=zC hMl2;exact xC ⟨_,_,(.tmp rfl ResV.nil),zO,⟨_,rfl,rfl,h36⟩⟩
def kW(r:zA):KT:=λkk I' ah v=>
 ∃v0,ah=[]/\v=tupV [v0]/\(∃cs,v0=.agg ⟨cs⟩/\Rp.rep I' cs r)
def tL(a0:zA):Option (zA):=do
 if((a0.Coefs.length:Int)==0) then
  pure (zA.mk ([]:List Int) a0.Const)
 else
  let l<-app 8 ([]:List Int) a0.Coefs
  pure (zA.mk l a0.Const)
theorem eN:∀a0 r,tL a0=some r->∀{I:Imm}{p c},(S4 I p a0.Coefs c)->RT 176 [vA (cAff a0 p c)] I [] (kW  r):=by
 intro a0 r N I p c h;unfold tL at N;refine yJ func176 λB=>yE<|uH (cAff a0 p c) ?_;intro b hb;refine uB [z0,vI 0] ?_;intro b1 hb1;refine yC rfl<|zZ<|yE<|yI [1] [6] rfl<|zJ<|yD N ?_ ?_
 ·intro hc N;refine yE<|qA 3 [1] [(9,vA [z0,vI a0.Const])]<|xP 0 [z0,vI a0.Const] rfl<|yC rfl<|xF<|zH ?_;obtain rfl:=zC N;exact xC ⟨_,_,(.cell 0 rfl rfl (by kernel_rfl) ResV.nil),zO,⟨_,rfl,rfl,⟨_,rfl,(yL ⟨_,rfl,(SL.nil _)⟩)⟩⟩⟩
 intro hc N;refine zU<|zZ<|bE N λl hy N=>wX [.x (λI' v hx=>∃b2,v=vS (some ⟨b2,0,none⟩) ([]:List Int) 0/\hx=[hO Int (vS (some ⟨b2,0,none⟩) ([]:List Int) 0) []]/\(RL I' [] ([]:List Int))),.p (vP b 0) [],.p (vS p a0.Coefs c) [1],.x (λI' v hx=>∃p1 c1 cs,v=vS p1 l c1/\hx=[hO Int (vS p1 l c1) cs]/\(RL I' cs l)),.p (vP b 1) [],.p (vI a0.Const) [1],.x (λI' v hx=>∃aV bj aC,v=vA [vS aV l bj,vI a0.Const]/\hx=[hO Int (vS aV l bj) aC]/\(RL I' aC l))] [[],[],[(1,false)],[(0,true),(2,false)],[],[(4,false)],[(3,true),(5,false)]] [hB b1 [z0,vI 0],hB b (cAff a0 p c)] [] [(6,true)] (zX [0,1]) ?_ ?_
 ·refine Ox ?_<|Op<|Op<|Ox ?_<|Op<|Op<|Ox ?_<|On
  ·intro I1 hf af;refine dE []<|tU [] Int ?_;intro b2 hb2;have h1:RL I1 [] ([]:List Int):=rfl;exact yK [hO Int (vS (some ⟨b2,0,none⟩) ([]:List Int) 0) []] iR ⟨_,rfl,rfl,h1⟩
  ·rintro I1 hf af _ _ ⟨b2,rfl,rfl,h1⟩;refine yP [10,12] rfl ?_;have h:=h.mono af;obtain⟨aL,k0,k01⟩:=h;have h:SL I1 (vS p a0.Coefs c) a0.Coefs:=⟨_,k0,k01⟩;exact pC 3 1 0 rfl rfl rfl h1 (.inl k0) k01 hy λp1 c1 cs h2=>uW (ah:=(hO Int (vS p1 l c1) cs::hB b1 [z0,vI 0]::hB b (cAff a0 p c)::hf)) rfl<|yK [hO Int (vS p1 l c1) cs] iR ⟨_,_,_,rfl,rfl,h2⟩
  rintro I1 hf af _ _ ⟨p1,c1,cs,rfl,rfl,h2⟩;exact yP [13,15] rfl<|rS 7 [(16,vA [vS p1 l c1,vI a0.Const])]<|yK [hO Int (vS p1 l c1) cs] iR ⟨_,_,_,rfl,rfl,h2⟩
 rintro I0 le _ _ ⟨aV,bj,aC,rfl,rfl,h21⟩;refine yP [2,16] rfl ?_;refine xP 1 [vS aV l bj,vI a0.Const] rfl<|yC rfl<|xF<|xB 0 rfl ?_;intro aU af hl0;have h3:=SL.of_frozen hl0 af h21;obtain rfl:=zC N;exact xC ⟨_,_,(.cell 0 rfl rfl (by kernel_rfl) ResV.nil),zO,⟨_,rfl,rfl,⟨_,rfl,(yL ⟨_,rfl,h3⟩)⟩⟩⟩
def zBA(r:zI):KT:=λkk I' ah v=>
 ∃a0_1 c0_1 s0_1,ah=[.osl (.slice a0_1 r.Subs.length c0_1) (Rp.sz zA) s0_1]/\v=tupV [(.agg ⟨[.string ⟨⟨r.Array.l⟩⟩,.slice a0_1 r.Subs.length c0_1]⟩)]/\RepL (Rp.rep I') (Rp.sz zA) s0_1 r.Subs
def wA(a0:zI)(i:Int)(Subs:List zA):Option (List zA):=do
 if(decide (i<(a0.Subs.length:Int))) then
  let x<-idx a0.Subs i
  let y<-tL x
  let l<-app 32 Subs ([y]:List zA)
  wA a0 (W (i+1)) l
 else
  pure (id Subs)
 partial_fixpoint
theorem zAc(a0:zI):∀(i:Int) (Subs:List zA) (o:List zA),wA a0 i Subs=some o->∀{B}{I0 I:Imm}{Q p c}{b:Nat}{b1:Nat}{b2:Nat}{p1 c1 cs},I0.le I->(S4 I p a0.Subs c)->(RL I cs Subs)->NG Q->NO Q->(∀(I':Imm) (Subs1:List zA) (p2:Option Addr) (c2:Nat) (aC:List Value),o=Subs1->I0.le I'->(RL I' aC Subs1)->T 27 B Q (.exit 0) I' [hO zA (vS p2 Subs1 c2) aC,hB b2 [vT a0.Array.l,vS p2 Subs1 c2],hB b1 [vT ([]),z0]] [(2,vP b1 0),(3,vP b2 0)])->J Tryz.prog 27 B (nav (bodyOf f144) [1,1,0,1,0]) Q I [hO zA (vS p1 Subs c1) cs,hB b2 [vT a0.Array.l,vS p1 Subs c1],hB b1 [vT ([]),z0],hB b (cAccess a0 p c)] [(1,vP b 0),(2,vP b1 0),(3,vP b2 0),(4,vI i)]:=by
 refine wA.partial_correctness a0 _ λaI ih i Subs o N B I0 I Q p c b b1 b2 p1 c1 cs H h h2 hg ho hx=>yR hg ho<|yA<|yE<|yI [3] [12] rfl<|zJ<|yD N ?_ ?_
 ·intro hc N;refine zU<|zZ<|yH ?_;obtain⟨x,hy,N⟩:=zB N;obtain⟨y,ay,N⟩:=zB N;obtain⟨l,aJ,N⟩:=zB N;refine wX [.p (vP b2 1) [],.p (vS p1 Subs c1) [0],.p (vP b 1) [],.p (vS p a0.Subs c) [2],.p (vI i) [],.x (ePAff x),.x (eVAff x),.x (eVAff y),.x (λI' v hx=>∃b3,v=vS (some ⟨b3,0,none⟩) ([y]:List zA) 1/\hx=[]/\(SL I' (vS (some ⟨b3,0,none⟩) ([y]:List zA) 1) ([y]:List zA))),.x (λI' v hx=>∃p5 c5 aT,v=vS p5 l c5/\hx=[hO zA (vS p5 l c5) aT]/\(RL I' aT l))] [[],[(0,false)],[],[(2,false)],[],[(3,false),(4,false)],[(5,false)],[(6,false)],[(7,false)],[(1,false),(8,false),(12,true)]] [hB b2 [vT a0.Array.l,vS p1 Subs c1],hB b1 [vT ([]),z0],hB b (cAccess a0 p c)] [[hO zA (vS p1 Subs c1) cs]] [(9,true)] (zX [1,2,3,0]) ?_ ?_
  ·refine Op<|Op<|Op<|Op<|Op<|Ox ?_<|Ox ?_<|Ox ?_<|Ox ?_<|Ox ?_<|On
   ·intro I1 hf af;refine yP [18,19] rfl ?_;have h:=h.mono af;refine xN rfl rfl h hy ?_;intro ad aL ap al;obtain⟨p3,c3,rfl,h4⟩:=yO al;exact yK [] iR ⟨_,_,_,rfl,rfl,ap,h4⟩
   ·rintro I1 hf af _ _ ⟨ad,p3,c3,rfl,rfl,ap,h4⟩;exact yP [20] rfl<|xE 0 ap (cAff x p3 c3) (vA (cAff x p3 c3)) rfl<|yK [] iR ⟨_,_,rfl,rfl,h4⟩
   ·rintro I1 hf af _ _ ⟨p31,c31,rfl,rfl,h41⟩;refine yP [21] rfl ?_;have H:=iS I1;refine xO (eN x _ ay h41) ?_;rintro I0 ax v2 k2 le - ⟨v01,rfl,rfl,⟨aO,rfl,h5⟩⟩ -;have H:=H.trans le;obtain⟨p4,c4,rfl,h6⟩:=yO h5;exact yK [] H ⟨_,_,rfl,rfl,h6⟩
   ·rintro I1 hf af _ _ ⟨p4,c4,rfl,rfl,h6⟩;refine yP [22] rfl ?_;have H:=iS I1;refine nV (rc y (yL ⟨_,rfl,h6⟩) rN) ?_;intro b3 aU af h8;have H:=H.trans af;exact yK [] H ⟨_,rfl,rfl,h8⟩
   rintro I1 hf af _ _ ⟨rfl,rfl⟩ _ _ ⟨b3,rfl,rfl,h8⟩ _ _ rfl;refine yP [16,23] rfl ?_;have h2:=iM af h2;obtain⟨bv,k0,k01⟩:=h8;have h8:SL I1 (vS (some ⟨b3,0,none⟩) ([y]:List zA) 1) ([y]:List zA):=⟨_,k0,k01⟩;exact pC 78 2 0 rfl rfl rfl h2 (.inl k0) k01 aJ λp5 c5 aT h9=>uW (ah:=(hO zA (vS p5 l c5) aT::hB b2 [vT a0.Array.l,vS p1 Subs c1]::hB b1 [vT ([]),z0]::hB b (cAccess a0 p c)::hf)) rfl<|yK [hO zA (vS p5 l c5) aT] iR ⟨_,_,_,rfl,rfl,h9⟩
  rintro aQ aE _ _ ⟨p5,c5,aT,rfl,rfl,h9⟩;refine yP [1,2,3,4,24] rfl ?_;have ⟨h,H⟩:=m2 aE h H;exact yF 11 [] [25] rfl<|xP 1 [vT a0.Array.l,vS p5 l c5] rfl<|yC rfl<|zP<|zJ<|zK<|yI [] [4] rfl<|yS<|nU<|ih (W (i+1)) l _ N H h h9 hg ho hx
 intro hc N;exact wZ<|xV (zW [0,1,2] rfl (by decide))<|yN<|hx _ _ _ _ _ (zC N).symm H h2
def uD(a0:zI):Option (zI):=do
 let Subs1<-wA a0 0 ([]:List zA)
 pure (zI.mk a0.Array Subs1)
theorem jX:∀a0 r,uD a0=some r->∀{I:Imm}{p c},(S4 I p a0.Subs c)->RT 144 [vA (cAccess a0 p c)] I [] (zBA  r):=by
 intro a0 r N I p c h;unfold uD at N;refine yJ func144 λB=>yE<|uH (cAccess a0 p c) ?_;intro b hb;refine uB [vT ([]),z0] ?_;intro b1 hb1;refine yC rfl<|xA<|qA 3 [1] [(7,vA [vT a0.Array.l,z0])]<|uB [vT ([]),z0] ?_;intro b2 hb2;refine xP 0 [vT a0.Array.l,z0] rfl<|yC rfl<|zZ<|yG [4] rfl<|wC<|oA [(1,vP b 0),(2,vP b1 0),(3,vP b2 0),(4,vI 0)]<|dW zA λh1=>?_;obtain⟨o0,aB,aH⟩:=zB N;refine zAc a0 0 ([]:List zA) o0 aB iR h h1 (λ_ _ _ h=>h) (λ_ _ h=>h) ?_;intro bz Subs1 p2 c2 aC heq aK h3;subst o0;refine zR<|xA<|qA 1 [1] [(26,vA [vT a0.Array.l,vS p2 Subs1 c2])]<|xP 2 [vT a0.Array.l,vS p2 Subs1 c2] rfl<|yC rfl<|zJ<|yZ ?_;obtain rfl:=zC aH;exact xC ⟨_,_,(.cell 2 rfl rfl (by kernel_rfl) ResV.nil),(zW [0] rfl (by decide)),⟨_,_,_,rfl,rfl,h3⟩⟩
def eO(r:zF):KT:=λkk I' ah v=>
 ∃a0_2 c0_2 a0_5 c0_5 a0_6 c0_6 s0_6,ah=[.osl (.slice a0_6 r.Kids.length c0_6) (Rp.sz zF) s0_6]/\v=tupV [(.agg ⟨[.int .i64 r.Kind,.int .i64 r.Num,.slice a0_2 r.Index.Coefs.length c0_2,.int .i64 r.Index.Const,.string ⟨⟨r.Read.Array.l⟩⟩,.slice a0_5 r.Read.Subs.length c0_5,.slice a0_6 r.Kids.length c0_6]⟩)]/\SL I' (.slice a0_2 r.Index.Coefs.length c0_2) r.Index.Coefs/\SL I' (.slice a0_5 r.Read.Subs.length c0_5) r.Read.Subs/\RepL (Rp.rep I') (Rp.sz zF) s0_6 r.Kids
mutual
def qG(e0:zF):Option (zF):=do
 let y<-tL e0.Index
 let y1<-uD e0.Read
 let Kids1<-vL (same e0) (same 0) ([]:List zF)
 pure (zF.mk e0.Kind e0.Num y (zI.mk y1.Array y1.Subs) Kids1)
 partial_fixpoint
def vL(e0:zF)(i:Int)(Kids:List zF):Option (List zF):=do
 if(decide (i<(e0.Kids.length:Int))) then
  let x<-idx e0.Kids i
  let y2<-qG (same x)
  let l<-app 112 Kids ([y2]:List zF)
  vL (same e0) (W (i+1)) (same l)
 else
  pure (id Kids)
 partial_fixpoint
end
theorem zCM:(∀(e0:zF) r,qG e0=some r->∀{I:Imm}{p c p1 c1 p2 c2},(S4 I p e0.Index.Coefs c)->(S4 I p1 e0.Read.Subs c1)->(S4 I p2 e0.Kids c2)->RT 145 [vA (cExpr e0 p c p1 c1 p2 c2)] I [] (eO  r))/\(∀(e0:zF) (i:Int) (Kids:List zF) o,vL e0 i Kids=some o->∀{B}{I0 I:Imm}{Q}{y:zA}{y1:zI}{p c p1 c1 p2 c2}{b:Nat}{b1:Nat}{p31 c31 p41 c41 cs11}{b2:Nat}{p5 c5 aO},I0.le I->(S4 I p31 y.Coefs c31)->(RL I cs11 y1.Subs)->(S4 I p e0.Index.Coefs c)->(S4 I p1 e0.Read.Subs c1)->(S4 I p2 e0.Kids c2)->(RL I aO Kids)->NG Q->NO Q->(∀(I':Imm) (Kids1:List zF) (p6:Option Addr) (c6:Nat) (aT:List Value),o=Kids1->I0.le I'->(RL I' aT Kids1)->T 35 B Q (.exit 0) I' [hO zF (vS p6 Kids1 c6) aT,hB b2 [vI e0.Kind,vI e0.Num,vS p31 y.Coefs c31,vI y.Const,vT y1.Array.l,vS p41 y1.Subs c41,vS p6 Kids1 c6],hO zA (vS p41 y1.Subs c41) cs11,hB b1 zExpr] [(2,vP b1 0),(3,vP b2 0)])->J Tryz.prog 35 B (nav (bodyOf f145) [1,1,0,1,0]) Q I [hO zF (vS p5 Kids c5) aO,hB b2 [vI e0.Kind,vI e0.Num,vS p31 y.Coefs c31,vI y.Const,vT y1.Array.l,vS p41 y1.Subs c41,vS p5 Kids c5],hO zA (vS p41 y1.Subs c41) cs11,hB b1 zExpr,hB b (cExpr e0 p c p1 c1 p2 c2)] [(1,vP b 0),(2,vP b1 0),(3,vP b2 0),(4,vI i)]):=by
 refine qG.mutual_partial_correctness _ _ ?_ ?_
 ·intro F_spec_l3CopyExpr_l1 ih_spec_l3CopyExpr_l1 e0 r N I p c p1 c1 p2 c2 h h1 h2;refine yJ func145 λB=>?_;have H:=iS I;refine yE<|uH (cExpr e0 p c p1 c1 p2 c2) ?_;intro b hb;refine uB zExpr ?_;intro b1 hb1;refine yC rfl<|zJ<|yA ?_;obtain⟨y,hy,N⟩:=zB N;obtain⟨y1,ay,N⟩:=zB N;refine wX [.p (vP b 0) [],.p (vI e0.Kind) [1],.p (vP b 1) [],.p (vI e0.Num) [1],.p (vP b 2) [],.p (vA (cAff e0.Index p c)) [1],.x (eVAff y),.p (vP b 4) [],.p (vA (cAccess e0.Read p1 c1)) [1],.x (λI' v hx=>∃p4 c4 aC,v=vA (cAccess y1 p4 c4)/\hx=[hO zA (vS p4 y1.Subs c4) aC]/\(RL I' aC y1.Subs)),.x (λI' v hx=>∃p31 c31 p41 c41 cs11,v=vA [vI e0.Kind,vI e0.Num,vS p31 y.Coefs c31,vI y.Const,vT y1.Array.l,vS p41 y1.Subs c41,z0]/\hx=[hO zA (vS p41 y1.Subs c41) cs11]/\(S4 I' p31 y.Coefs c31)/\(RL I' cs11 y1.Subs)),.x (λI' v hx=>∃b2,v=vP b2 0/\hx=[hB b2 zExpr])] [[],[(0,false)],[],[(2,false)],[],[(4,false)],[(5,false)],[],[(7,false)],[(8,false)],[(1,false),(3,false),(6,false),(9,true)],[]] [hB b1 zExpr,hB b (cExpr e0 p c p1 c1 p2 c2)] [] [(10,true),(11,true)] (zX [0,1]) ?_ ?_
  ·refine Op<|Op<|Op<|Op<|Op<|Op<|Ox ?_<|Op<|Op<|Ox ?_<|Ox ?_<|Ox ?_<|On
   ·intro I1 hf af;refine yP [10] rfl ?_;have H:=iS I1;have h:=h.mono af;refine xO (eN e0.Index _ hy h) ?_;rintro I0 ax v2 k2 le - ⟨v0,rfl,rfl,⟨cs,rfl,h3⟩⟩ -;have H:=H.trans le;obtain⟨p3,c3,rfl,h4⟩:=yO h3;exact yK [] H ⟨_,_,rfl,rfl,h4⟩
   ·intro I1 hf af;refine yP [13] rfl ?_;have H:=iS I1;have h1:=h1.mono af;refine xO (jX e0.Read _ ay h1) ?_;rintro aU ax v2 k2 af - ⟨p4,c4,aC,rfl,rfl,h5⟩ -;have H:=H.trans af;exact yK [hO zA (vS p4 y1.Subs c4) aC] H ⟨_,_,_,rfl,rfl,h5⟩
   ·rintro I1 hf af _ _ ⟨rfl,rfl⟩ _ _ ⟨rfl,rfl⟩ _ _ ⟨p3,c3,rfl,rfl,h4⟩ _ _ ⟨p4,c4,aC,rfl,rfl,h5⟩;exact yP [6,8,11,14] rfl<|rS 11 [(15,vA [vI e0.Kind,vI e0.Num,vS p3 y.Coefs c3,vI y.Const,vT y1.Array.l,vS p4 y1.Subs c4,z0])]<|yK [hO zA (vS p4 y1.Subs c4) aC] iR ⟨_,_,_,_,_,rfl,rfl,h4,h5⟩
   intro I1 hf af;refine dE []<|uB zExpr ?_;intro b2 hb2;exact yK [hB b2 zExpr] iR ⟨_,rfl,rfl⟩
  rintro aQ aE _ _ ⟨p31,c31,p41,c41,cs11,rfl,rfl,h41,h51⟩ _ _ ⟨b2,rfl,rfl⟩;refine yP [1,2,3,15] rfl ?_;have ⟨h,h1,h2⟩:=m3 aE h h1 h2;refine xP 0 [vI e0.Kind,vI e0.Num,vS p31 y.Coefs c31,vI y.Const,vT y1.Array.l,vS p41 y1.Subs c41,z0] rfl<|yC rfl<|zZ<|yG [4] rfl<|wC<|oA [(1,vP b 0),(2,vP b1 0),(3,vP b2 0),(4,vI 0)]<|dW zF λh6=>?_;obtain⟨o0,aB,aH⟩:=zB N;refine ih_spec_l3CopyExpr_l1 e0 0 ([]:List zF) o0 aB iR h41 h51 h h1 h2 h6 (λ_ _ _ h=>h) (λ_ _ h=>h) ?_;intro I07 Kids1 p6 c6 aT heq le7 h8;subst o0;have ⟨h41,h51⟩:=m2 le7 h41 h51;refine zR<|xA<|qA 1 [1] [(34,vA [vI e0.Kind,vI e0.Num,vS p31 y.Coefs c31,vI y.Const,vT y1.Array.l,vS p41 y1.Subs c41,vS p6 Kids1 c6])]<|xP 3 [vI e0.Kind,vI e0.Num,vS p31 y.Coefs c31,vI y.Const,vT y1.Array.l,vS p41 y1.Subs c41,vS p6 Kids1 c6] rfl<|yC rfl<|xF<|xB 2 rfl ?_;intro I08 le8 hl02;have h19:=SL.of_frozen hl02 le8 h51;have ⟨h8,h41⟩:=m2 le8 h8 h41;obtain rfl:=zC aH;exact xC ⟨_,_,(.cell 2 rfl rfl (by kernel_rfl) ResV.nil),(zW [0] rfl (by decide)),⟨_,_,_,_,_,_,_,rfl,rfl,h41,h19,h8⟩⟩
 intro F_spec_l3CopyExpr F_spec_l3CopyExpr_l1 ih_spec_l3CopyExpr ih_spec_l3CopyExpr_l1 e0 i Kids o N B I0 I Q y y1 p c p1 c1 p2 c2 b b1 p31 c31 p41 c41 cs11 b2 p5 c5 aO H h41 h51 h h1 h2 h7 hg ho hx;refine yR hg ho<|yA<|yE<|yI [4] [20] rfl<|zJ<|yD N ?_ ?_
 ·intro hc N;refine zU<|zZ<|yH ?_;obtain⟨x,aJ,N⟩:=zB N;obtain⟨y2,bb,N⟩:=zB N;obtain⟨l,bt,N⟩:=zB N;refine wX [.p (vP b2 6) [],.p (vS p5 Kids c5) [0],.p (vP b 6) [],.p (vS p2 e0.Kids c2) [3],.p (vI i) [],.x (ePExpr x),.x (eVExpr x),.x (λI' v hx=>∃aZ bh aV bj bB bo br,v=vA (cExpr y2 aZ bh aV bj bB bo)/\hx=[hO zF (vS bB y2.Kids bo) br]/\(S4 I' aZ y2.Index.Coefs bh)/\(S4 I' aV y2.Read.Subs bj)/\(RL I' br y2.Kids)),.x (λI' v hx=>∃b3,v=vS (some ⟨b3,0,none⟩) ([y2]:List zF) 1/\hx=[]/\(SL I' (vS (some ⟨b3,0,none⟩) ([y2]:List zF) 1) ([y2]:List zF))),.x (λI' v hx=>∃bm bu bC,v=vS bm l bu/\hx=[hO zF (vS bm l bu) bC]/\(RL I' bC l))] [[],[(0,false)],[],[(2,false)],[],[(3,false),(4,false)],[(5,false)],[(6,false)],[(7,true)],[(1,false),(8,false),(12,true)]] [hB b2 [vI e0.Kind,vI e0.Num,vS p31 y.Coefs c31,vI y.Const,vT y1.Array.l,vS p41 y1.Subs c41,vS p5 Kids c5],hO zA (vS p41 y1.Subs c41) cs11,hB b1 zExpr,hB b (cExpr e0 p c p1 c1 p2 c2)] [[hO zF (vS p5 Kids c5) aO]] [(9,true)] (zX [1,2,3,4,0]) ?_ ?_
  ·refine Op<|Op<|Op<|Op<|Op<|Ox ?_<|Ox ?_<|Ox ?_<|Ox ?_<|Ox ?_<|On
   ·intro I1 hf af;refine yP [26,27] rfl ?_;have h2:=h2.mono af;refine xN rfl rfl h2 aJ ?_;intro ad aL ap al;obtain⟨p7,c7,p8,c8,p9,c9,rfl,h9,h10,h11⟩:=tA al;exact yK [] iR ⟨_,_,_,_,_,_,_,rfl,rfl,ap,h9,h10,h11⟩
   ·rintro I1 hf af _ _ ⟨ad,p7,c7,p8,c8,p9,c9,rfl,rfl,ap,h9,h10,h11⟩;exact yP [28] rfl<|xE 0 ap (cExpr x p7 c7 p8 c8 p9 c9) (vA (cExpr x p7 c7 p8 c8 p9 c9)) rfl<|yK [] iR ⟨_,_,_,_,_,_,rfl,rfl,h9,h10,h11⟩
   ·rintro I1 hf af _ _ ⟨p71,c71,p81,c81,p91,c91,rfl,rfl,h91,h101,h111⟩;refine yP [29] rfl ?_;have H:=iS I1;refine xO (ih_spec_l3CopyExpr x _ bb h91 h101 h111) ?_;rintro bz ax v2 k2 aK - ⟨aZ,bh,aV,bj,bB,bo,br,rfl,rfl,h12,h13,h14⟩ -;have H:=H.trans aK;exact yK [hO zF (vS bB y2.Kids bo) br] H ⟨_,_,_,_,_,_,_,rfl,rfl,h12,h13,h14⟩
   ·rintro I1 hf af _ _ ⟨aZ,bh,aV,bj,bB,bo,br,rfl,rfl,h12,h13,h14⟩;refine yP [30] rfl ?_;have H:=iS I1;refine xM 0 rfl ?_;intro bK bi hl0;have h15:=SL.of_frozen hl0 bi h14;have ⟨h12,h13,H⟩:=m3 bi h12 h13 H;refine nV (rc y2 (xT ⟨_,_,_,rfl,h12,h13,h15⟩) rN) ?_;intro b3 bO bw h17;have H:=H.trans bw;exact yK [] H ⟨_,rfl,rfl,h17⟩
   rintro I1 hf af _ _ ⟨rfl,rfl⟩ _ _ ⟨b3,rfl,rfl,h17⟩ _ _ rfl;refine yP [24,31] rfl ?_;have h7:=iM af h7;obtain⟨bv,k0,k01⟩:=h17;have h17:SL I1 (vS (some ⟨b3,0,none⟩) ([y2]:List zF) 1) ([y2]:List zF):=⟨_,k0,k01⟩;exact pC 81 7 0 rfl rfl rfl h7 (.inl k0) k01 bt λbm bu bC h18=>uW (ah:=(hO zF (vS bm l bu) bC::hB b2 [vI e0.Kind,vI e0.Num,vS p31 y.Coefs c31,vI y.Const,vT y1.Array.l,vS p41 y1.Subs c41,vS p5 Kids c5]::hO zA (vS p41 y1.Subs c41) cs11::hB b1 zExpr::hB b (cExpr e0 p c p1 c1 p2 c2)::hf)) rfl<|yK [hO zF (vS bm l bu) bC] iR ⟨_,_,_,rfl,rfl,h18⟩
  rintro I06 bD _ _ ⟨bm,bu,bC,rfl,rfl,h18⟩;refine yP [1,2,3,4,32] rfl ?_;have ⟨h41,h51,h,h1,h2,H⟩:=m6 bD h41 h51 h h1 h2 H;exact yF 11 [] [33] rfl<|xP 1 [vI e0.Kind,vI e0.Num,vS p31 y.Coefs c31,vI y.Const,vT y1.Array.l,vS p41 y1.Subs c41,vS bm l bu] rfl<|yC rfl<|zP<|zJ<|zK<|yI [] [4] rfl<|yS<|nU<|ih_spec_l3CopyExpr_l1 e0 (W (i+1)) l _ N H h41 h51 h h1 h2 h18 hg ho hx
 intro hc N;exact wZ<|xV (zW [0,1,2,3] rfl (by decide))<|yN<|hx _ _ _ _ _ (zC N).symm H h7
theorem zCg:∀e0 r,qG e0=some r->∀{I:Imm}{p c p1 c1 p2 c2},(S4 I p e0.Index.Coefs c)->(S4 I p1 e0.Read.Subs c1)->(S4 I p2 e0.Kids c2)->RT 145 [vA (cExpr e0 p c p1 c1 p2 c2)] I [] (eO  r):=zCM.1
def zER(r:zQ):KT:=λkk I' ah v=>
 ∃a0_1 c0_1 s0_1 a0_4 c0_4 a0_7 c0_7 a0_8 c0_8 s0_8,ah=[.osl (.slice a0_1 r.Write.Subs.length c0_1) (Rp.sz zA) s0_1,.osl (.slice a0_8 r.Value.Kids.length c0_8) (Rp.sz zF) s0_8]/\v=tupV [(.agg ⟨[.string ⟨⟨r.Write.Array.l⟩⟩,.slice a0_1 r.Write.Subs.length c0_1,.int .i64 r.Value.Kind,.int .i64 r.Value.Num,.slice a0_4 r.Value.Index.Coefs.length c0_4,.int .i64 r.Value.Index.Const,.string ⟨⟨r.Value.Read.Array.l⟩⟩,.slice a0_7 r.Value.Read.Subs.length c0_7,.slice a0_8 r.Value.Kids.length c0_8]⟩)]/\RepL (Rp.rep I') (Rp.sz zA) s0_1 r.Write.Subs/\SL I' (.slice a0_4 r.Value.Index.Coefs.length c0_4) r.Value.Index.Coefs/\SL I' (.slice a0_7 r.Value.Read.Subs.length c0_7) r.Value.Read.Subs/\RepL (Rp.rep I') (Rp.sz zF) s0_8 r.Value.Kids
def jJ(s:zQ):Option (zQ):=do
 let y<-uD s.Write
 let y1<-qG s.Value
 pure (zQ.mk y y1)
theorem zBe:∀s r,jJ s=some r->∀{I:Imm}{p c p1 c1 p2 c2 p3 c3},(S4 I p s.Write.Subs c)->(S4 I p1 s.Value.Index.Coefs c1)->(S4 I p2 s.Value.Read.Subs c2)->(S4 I p3 s.Value.Kids c3)->RT 108 [vA (cStmt s p c p1 c1 p2 c2 p3 c3)] I [] (zER  r):=by
 intro s r N I p c p1 c1 p2 c2 p3 c3 h h1 h2 h3;unfold jJ at N;refine yJ func108 λB=>?_;have H:=iS I;refine yE<|uH (cStmt s p c p1 c1 p2 c2 p3 c3) ?_;intro b hb;refine uB [vT ([]),z0,vI 0,vI 0,z0,vI 0,vT ([]),z0,z0] ?_;intro b1 hb1;refine yC rfl<|zJ<|yA ?_;obtain⟨y,hy,N⟩:=zB N;obtain⟨y1,ay,N⟩:=zB N;refine wX [.p (vP b 0) [],.p (vA (cAccess s.Write p c)) [1],.x (λI' v hx=>∃p4 c4 cs,v=vA (cAccess y p4 c4)/\hx=[hO zA (vS p4 y.Subs c4) cs]/\(RL I' cs y.Subs)),.p (vP b 2) [],.p (vA (cExpr s.Value p1 c1 p2 c2 p3 c3)) [1],.x (λI' v hx=>∃p5 c5 p6 c6 p7 c7 aC,v=vA (cExpr y1 p5 c5 p6 c6 p7 c7)/\hx=[hO zF (vS p7 y1.Kids c7) aC]/\(S4 I' p5 y1.Index.Coefs c5)/\(S4 I' p6 y1.Read.Subs c6)/\(RL I' aC y1.Kids)),.x (λI' v hx=>∃p41 c41 p51 c51 p61 c61 p71 c71 cs11 aO,v=vA [vT y.Array.l,vS p41 y.Subs c41,vI y1.Kind,vI y1.Num,vS p51 y1.Index.Coefs c51,vI y1.Index.Const,vT y1.Read.Array.l,vS p61 y1.Read.Subs c61,vS p71 y1.Kids c71]/\hx=[hO zF (vS p71 y1.Kids c71) cs11,hO zA (vS p41 y.Subs c41) aO]/\(RL I' aO y.Subs)/\(S4 I' p51 y1.Index.Coefs c51)/\(S4 I' p61 y1.Read.Subs c61)/\(RL I' cs11 y1.Kids))] [[],[(0,false)],[(1,false)],[],[(3,false)],[(4,false)],[(2,true),(5,true)]] [hB b1 [vT ([]),z0,vI 0,vI 0,z0,vI 0,vT ([]),z0,z0],hB b (cStmt s p c p1 c1 p2 c2 p3 c3)] [] [(6,true)] (zX [0,1]) ?_ ?_
 ·refine Op<|Op<|Ox ?_<|Op<|Op<|Ox ?_<|Ox ?_<|On
  ·intro I1 hf af;refine yP [4] rfl ?_;have H:=iS I1;have h:=h.mono af;refine xO (jX s.Write _ hy h) ?_;rintro I0 ax v2 k2 le - ⟨p4,c4,cs,rfl,rfl,h4⟩ -;have H:=H.trans le;exact yK [hO zA (vS p4 y.Subs c4) cs] H ⟨_,_,_,rfl,rfl,h4⟩
  ·intro I1 hf af;refine yP [7] rfl ?_;have H:=iS I1;have ⟨h1,h2,h3⟩:=m3 af h1 h2 h3;refine xO (zCg s.Value _ ay h1 h2 h3) ?_;rintro aU ax v2 k2 af - ⟨p5,c5,p6,c6,p7,c7,aC,rfl,rfl,h5,h6,h7⟩ -;have H:=H.trans af;exact yK [hO zF (vS p7 y1.Kids c7) aC] H ⟨_,_,_,_,_,_,_,rfl,rfl,h5,h6,h7⟩
  rintro I1 hf af _ _ ⟨p4,c4,cs,rfl,rfl,h4⟩ _ _ ⟨p5,c5,p6,c6,p7,c7,aC,rfl,rfl,h5,h6,h7⟩;exact yP [5,8] rfl<|rS 7 [(9,vA [vT y.Array.l,vS p4 y.Subs c4,vI y1.Kind,vI y1.Num,vS p5 y1.Index.Coefs c5,vI y1.Index.Const,vT y1.Read.Array.l,vS p6 y1.Read.Subs c6,vS p7 y1.Kids c7])]<|yK [hO zF (vS p7 y1.Kids c7) aC,hO zA (vS p4 y.Subs c4) cs] iR ⟨_,_,_,_,_,_,_,_,_,_,rfl,rfl,h4,h5,h6,h7⟩
 rintro aQ aE _ _ ⟨p41,c41,p51,c51,p61,c61,p71,c71,cs11,aO,rfl,rfl,h41,h51,h61,h71⟩;refine yP [2,9] rfl ?_;refine xP 2 [vT y.Array.l,vS p41 y.Subs c41,vI y1.Kind,vI y1.Num,vS p51 y1.Index.Coefs c51,vI y1.Index.Const,vT y1.Read.Array.l,vS p61 y1.Read.Subs c61,vS p71 y1.Kids c71] rfl<|yC rfl<|zJ<|yZ ?_;obtain rfl:=zC N;exact xC ⟨_,_,(.cell 2 rfl rfl (by kernel_rfl) ResV.nil),(zW [1,0] rfl (by decide)),⟨_,_,_,_,_,_,_,_,_,_,rfl,rfl,h41,h51,h61,h71⟩⟩
def zES(r:zD):KT:=λkk I' ah v=>
 ∃a0_0 c0_0 s0_0 a0_1 c0_1 s0_1,ah=[.osl (.slice a0_0 r.Arrays.length c0_0) (Rp.sz zG) s0_0,.osl (.slice a0_1 r.Parts.length c0_1) (Rp.sz zN) s0_1]/\v=tupV [(.agg ⟨[.slice a0_0 r.Arrays.length c0_0,.slice a0_1 r.Parts.length c0_1]⟩)]/\RepL (Rp.rep I') (Rp.sz zG) s0_0 r.Arrays/\RepL (Rp.rep I') (Rp.sz zN) s0_1 r.Parts
def sL(p:zD)(i:Int)(Arrays:List zG):Option (List zG):=do
 if(decide (i<(p.Arrays.length:Int))) then
  let x<-idx p.Arrays i
  let x1<-idx p.Arrays i
  let l<-app 8 ([]:List Int) x1.Dims
  let l1<-app 40 Arrays ([(zG.mk x.Name l)]:List zG)
  sL p (W (i+1)) l1
 else
  pure (id Arrays)
 partial_fixpoint
theorem zAT(p:zD):∀(i:Int) (Arrays:List zG) (o:List zG),sL p i Arrays=some o->∀{B}{I0 I:Imm}{Q p1 c p2 c1}{b:Nat}{b1:Nat}{b2:Nat}{p3 c2 cs},I0.le I->(S4 I p1 p.Arrays c)->(S4 I p2 p.Parts c1)->(RL I cs Arrays)->NG Q->NO Q->(∀(I':Imm) (av:List zG) (p4:Option Addr) (c3:Nat) (aC:List Value),o=av->I0.le I'->(RL I' aC av)->T 84 B Q (.exit 0) I' [hO zG (vS p4 av c3) aC,hB b2 [vS p4 av c3,z0],hB b1 zTwo,hB b (cProg p p1 c p2 c1)] [(1,vP b 0),(2,vP b1 0),(3,vP b2 0)])->J Tryz.prog 84 B (nav (bodyOf f71) [1,1,0,1,0]) Q I [hO zG (vS p3 Arrays c2) cs,hB b2 [vS p3 Arrays c2,z0],hB b1 zTwo,hB b (cProg p p1 c p2 c1)] [(1,vP b 0),(2,vP b1 0),(3,vP b2 0),(4,vI i)]:=by
 refine sL.partial_correctness p _ λaI ih i Arrays o N B I0 I Q p1 c p2 c1 b b1 b2 p3 c2 cs H h h1 h3 hg ho hx=>yR hg ho<|yA<|yE<|yI [3] [13] rfl<|zJ<|yD N ?_ ?_
 ·intro hc N;refine zU<|zZ<|yH ?_;obtain⟨x,hy,N⟩:=zB N;obtain⟨x1,ay,N⟩:=zB N;obtain⟨l,aJ,N⟩:=zB N;obtain⟨l1,bb,N⟩:=zB N;refine wX [.p (vP b2 0) [],.p (vS p3 Arrays c2) [0],.p (vP b 0) [],.p (vS p1 p.Arrays c) [2],.p (vI i) [],.x (ePArr x),.x (ePArr x),.q (vT x.Name.l),.x (λI' v hx=>∃b3,v=vS (some ⟨b3,0,none⟩) ([]:List Int) 0/\hx=[hO Int (vS (some ⟨b3,0,none⟩) ([]:List Int) 0) []]/\(RL I' [] ([]:List Int))),.p (vP b 0) [],.p (vS p1 p.Arrays c) [2],.p (vI i) [],.x (ePArr x1),.x (eQArr 1 x1),.x (eS x1.Dims),.x (λI' v hx=>∃p7 c6 aO,v=vS p7 l c6/\hx=[hO Int (vS p7 l c6) aO]/\(RL I' aO l)),.x (λI' v hx=>∃p71 c61 cs21,v=vA [vT x.Name.l,vS p71 l c61]/\hx=[hO Int (vS p71 l c61) cs21]/\(RL I' cs21 l)),.x (λI' v hx=>∃b4,v=vS (some ⟨b4,0,none⟩) ([(zG.mk x.Name l)]:List zG) 1/\hx=[]/\(SL I' (vS (some ⟨b4,0,none⟩) ([(zG.mk x.Name l)]:List zG) 1) ([(zG.mk x.Name l)]:List zG))),.x (λI' v hx=>∃p8 c7 aT,v=vS p8 l1 c7/\hx=[hO zG (vS p8 l1 c7) aT]/\(RL I' aT l1))] [[],[(0,false)],[],[(2,false)],[],[(3,false),(4,false)],[(5,false)],[(6,false)],[],[],[(9,false)],[],[(10,false),(11,false)],[(12,false)],[(13,false)],[(8,true),(14,false)],[(7,false),(15,true)],[(16,true)],[(1,false),(17,false),(21,true)]] [hB b2 [vS p3 Arrays c2,z0],hB b1 zTwo,hB b (cProg p p1 c p2 c1)] [[hO zG (vS p3 Arrays c2) cs]] [(18,true)] (zX [1,2,3,0]) ?_ ?_
  ·refine Op<|Op<|Op<|Op<|Op<|Ox ?_<|Ox ?_<|Oq ?_<|Ox ?_<|Op<|Op<|Op<|Ox ?_<|Ox ?_<|Ox ?_<|Ox ?_<|Ox ?_<|Ox ?_<|Ox ?_<|On
   ·intro I1 hf af;refine yP [19,20] rfl ?_;have h:=h.mono af;refine xN rfl rfl h hy ?_;intro ad aL ap al;obtain⟨p5,c4,rfl,h5⟩:=vU al;exact yK [] iR ⟨_,_,_,rfl,rfl,ap,h5⟩
   ·rintro I1 hf af _ _ ⟨ad,p5,c4,rfl,rfl,ap,h5⟩;exact yP [21] rfl<|rS 7 [(22,.pointer (some ad))]<|yK [] iR ⟨_,_,_,rfl,rfl,ap,h5⟩
   ·rintro I1 hf af _ _ ⟨ad1,p51,c41,rfl,rfl,ar,h51⟩;exact yP [22] rfl<|xE 0 ar [vT x.Name.l] (vT x.Name.l) rfl<|yT iR
   ·intro I1 hf af;refine dE []<|tU [] Int ?_;intro b3 hb3;have h6:RL I1 [] ([]:List Int):=rfl;exact yK [hO Int (vS (some ⟨b3,0,none⟩) ([]:List Int) 0) []] iR ⟨_,rfl,rfl,h6⟩
   ·intro I1 hf af;refine yP [26,27] rfl ?_;have h:=h.mono af;refine xN rfl rfl h ay ?_;intro ad2 bv aP az;obtain⟨p6,c5,rfl,h7⟩:=vU az;exact yK [] iR ⟨_,_,_,rfl,rfl,aP,h7⟩
   ·rintro I1 hf af _ _ ⟨ad2,p6,c5,rfl,rfl,aP,h7⟩;exact yP [28] rfl<|rS 14 [(29,.pointer (some (ad2.add 1)))]<|yK [] iR ⟨_,_,_,rfl,rfl,aP,h7⟩
   ·rintro I1 hf af _ _ ⟨ad21,p61,c51,rfl,rfl,hat21,h71⟩;exact yP [29] rfl<|xE 1 hat21 [vS p61 x1.Dims c51] (vS p61 x1.Dims c51) rfl<|yK [] iR ⟨_,_,rfl,rfl,h71⟩
   ·rintro I1 hf af _ _ ⟨b3,rfl,rfl,h6⟩ _ _ ⟨p611,c511,rfl,rfl,h711⟩;refine yP [24,30] rfl ?_;obtain⟨bM,k0,k01⟩:=h711;have h711:SL I1 (vS p611 x1.Dims c511) x1.Dims:=⟨_,k0,k01⟩;exact pC 3 1 0 rfl rfl rfl h6 (.inl k0) k01 aJ λp7 c6 aO h8=>uW (ah:=(hO Int (vS p7 l c6) aO::hB b2 [vS p3 Arrays c2,z0]::hB b1 zTwo::hB b (cProg p p1 c p2 c1)::hf)) rfl<|yK [hO Int (vS p7 l c6) aO] iR ⟨_,_,_,rfl,rfl,h8⟩
   ·rintro I1 hf af _ _ ⟨rfl,rfl⟩ _ _ ⟨p7,c6,aO,rfl,rfl,h8⟩;exact yP [23,31] rfl<|rS 17 [(32,vA [vT x.Name.l,vS p7 l c6])]<|yK [hO Int (vS p7 l c6) aO] iR ⟨_,_,_,rfl,rfl,h8⟩
   ·rintro I1 hf af _ _ ⟨p71,c61,cs21,rfl,rfl,h81⟩;refine yP [32] rfl ?_;have H:=iS I1;refine xM 0 rfl ?_;intro I0 le hl0;have h9:=SL.of_frozen hl0 le h81;have H:=H.trans le;refine nV (rc (zG.mk x.Name l) (oQ ⟨_,rfl,h9⟩) rN) ?_;intro b4 aU af h11;have H:=H.trans af;exact yK [] H ⟨_,rfl,rfl,h11⟩
   rintro I1 hf af _ _ ⟨rfl,rfl⟩ _ _ ⟨b4,rfl,rfl,h11⟩ _ _ rfl;refine yP [17,33] rfl ?_;have h3:=iM af h3;obtain⟨ccs3,k02,k03⟩:=h11;have h11:SL I1 (vS (some ⟨b4,0,none⟩) ([(zG.mk x.Name l)]:List zG) 1) ([(zG.mk x.Name l)]:List zG):=⟨_,k02,k03⟩;exact pC 111 2 0 rfl rfl rfl h3 (.inl k02) k03 bb λp8 c7 aT h12=>uW (ah:=(hO zG (vS p8 l1 c7) aT::hB b2 [vS p3 Arrays c2,z0]::hB b1 zTwo::hB b (cProg p p1 c p2 c1)::hf)) rfl<|yK [hO zG (vS p8 l1 c7) aT] iR ⟨_,_,_,rfl,rfl,h12⟩
  rintro aQ aE _ _ ⟨p8,c7,aT,rfl,rfl,h12⟩;refine yP [1,2,3,4,34] rfl ?_;have ⟨h,h1,H⟩:=m3 aE h h1 H;exact yF 20 [] [35] rfl<|xP 1 [vS p8 l1 c7,z0] rfl<|yC rfl<|zP<|zJ<|zK<|yI [] [4] rfl<|yS<|nU<|ih (W (i+1)) l1 _ N H h h1 h12 hg ho hx
 intro hc N;exact wZ<|yN<|hx _ _ _ _ _ (zC N).symm H h3
def sM(p:zD)(i1:Int)(k04:Int)(Body:List zQ):Option (List zQ):=do
 let x3<-idx p.Parts i1
 if(decide (k04<(x3.Body.length:Int))) then
  let x4<-idx p.Parts i1
  let x5<-idx x4.Body k04
  let y1<-jJ x5
  let l2<-app 152 Body ([y1]:List zQ)
  sM p i1 (W (k04+1)) l2
 else
  pure (id Body)
 partial_fixpoint
theorem zAU(p:zD)(i1:Int):∀(k04:Int) (Body:List zQ) (o:List zQ),sM p i1 k04 Body=some o->∀{B}{I0 I:Imm}{Q}{av:List zG}{Parts:List zN}{y:(List zE)}{p1 c p2 c1}{b:Nat}{b1:Nat}{b2:Nat}{p4 c3 aC p9 c8 br bm bo}{b5:Nat}{p14 bu cs6},I0.le I->(S4 I bm y bo)->(RL I br Parts)->(RL I aC av)->(S4 I p1 p.Arrays c)->(S4 I p2 p.Parts c1)->(RL I cs6 Body)->NG Q->NO Q->(∀(I':Imm) (bk:List zQ) (p15:Option Addr) (c14:Nat) (cs7:List Value),o=bk->I0.le I'->(RL I' cs7 bk)->T 84 B Q (.exit 4) I' [hO zQ (vS p15 bk c14) cs7,hB b5 [vS bm y bo,vS p15 bk c14],hO zN (vS p9 Parts c8) br,hO zG (vS p4 av c3) aC,hB b2 [vS p4 av c3,vS p9 Parts c8],hB b1 zTwo,hB b (cProg p p1 c p2 c1)] [(1,vP b 0),(2,vP b1 0),(3,vP b2 0),(5,vI i1),(6,vP b5 0)])->J Tryz.prog 84 B (nav (bodyOf f71) [1,1,1,0,1,0,0,1,0,0,1,0,1,0]) Q I [hO zQ (vS p14 Body bu) cs6,hB b5 [vS bm y bo,vS p14 Body bu],hO zN (vS p9 Parts c8) br,hO zG (vS p4 av c3) aC,hB b2 [vS p4 av c3,vS p9 Parts c8],hB b1 zTwo,hB b (cProg p p1 c p2 c1)] [(1,vP b 0),(2,vP b1 0),(3,vP b2 0),(5,vI i1),(6,vP b5 0),(7,vI k04)]:=by
 refine sM.partial_correctness p i1 _ λaI ih k04 Body o N B I0 I Q av Parts y p1 c p2 c1 b b1 b2 p4 c3 aC p9 c8 br bm bo b5 p14 bu cs6 H h18 h14 h4 h h1 h20 hg ho hx=>yR hg ho<|yA<|yE<|yF 4 [6] [51,53,54] rfl<|bE N λx3 hy6 N=>xN rfl rfl h1 hy6 ?_;intro ad4 ccs5 hat4 bq;obtain⟨p16,c15,p17,c16,rfl,h22,h23⟩:=tB bq;refine yF 6 [] [56] rfl<|xE 1 hat4 [vS p17 x3.Body c16] (vS p17 x3.Body c16) rfl<|yI [] [59] rfl<|zJ<|yD N ?_ ?_
 ·intro bd N;refine zU<|zZ<|yH ?_;obtain⟨x4,hy7,N⟩:=zB N;obtain⟨x5,hy8,N⟩:=zB N;obtain⟨y1,hy9,N⟩:=zB N;obtain⟨l2,hy10,N⟩:=zB N;refine wX [.p (vP b5 1) [],.p (vS p14 Body bu) [0],.p (vP b 1) [],.p (vS p2 p.Parts c1) [5],.p (vI i1) [],.x (ePPart x4),.x (eQPart 1 x4),.x (eS x4.Body),.p (vI k04) [],.x (ePStmt x5),.x (eVStmt x5),.x (λI' v hx=>∃p24 c23 p25 c24 p26 c25 p27 c26 cs8 cs9,v=vA (cStmt y1 p24 c23 p25 c24 p26 c25 p27 c26)/\hx=[hO zA (vS p24 y1.Write.Subs c23) cs8,hO zF (vS p27 y1.Value.Kids c26) cs9]/\(RL I' cs8 y1.Write.Subs)/\(S4 I' p25 y1.Value.Index.Coefs c24)/\(S4 I' p26 y1.Value.Read.Subs c25)/\(RL I' cs9 y1.Value.Kids)),.x (λI' v hx=>∃b6,v=vS (some ⟨b6,0,none⟩) ([y1]:List zQ) 1/\hx=[]/\(SL I' (vS (some ⟨b6,0,none⟩) ([y1]:List zQ) 1) ([y1]:List zQ))),.x (λI' v hx=>∃p28 c27 cs10,v=vS p28 l2 c27/\hx=[hO zQ (vS p28 l2 c27) cs10]/\(RL I' cs10 l2))] [[],[(0,false)],[],[(2,false)],[],[(3,false),(4,false)],[(5,false)],[(6,false)],[],[(7,false),(8,false)],[(9,false)],[(10,false)],[(11,true)],[(1,false),(12,false),(16,true)]] [hB b5 [vS bm y bo,vS p14 Body bu],hO zN (vS p9 Parts c8) br,hO zG (vS p4 av c3) aC,hB b2 [vS p4 av c3,vS p9 Parts c8],hB b1 zTwo,hB b (cProg p p1 c p2 c1)] [[hO zQ (vS p14 Body bu) cs6]] [(13,true)] (zX [1,2,3,4,5,6,0]) ?_ ?_
  ·refine Op<|Op<|Op<|Op<|Op<|Ox ?_<|Ox ?_<|Ox ?_<|Op<|Ox ?_<|Ox ?_<|Ox ?_<|Ox ?_<|Ox ?_<|On
   ·intro I1 hf af;refine yP [65,66] rfl ?_;have h1:=h1.mono af;refine xN rfl rfl h1 hy7 ?_;intro ad5 ccs6 hat5 hrep4;obtain⟨p18,c17,p19,c18,rfl,h24,h25⟩:=tB hrep4;exact yK [] iR ⟨_,_,_,_,_,rfl,rfl,hat5,h24,h25⟩
   ·rintro I1 hf af _ _ ⟨ad5,p18,c17,p19,c18,rfl,rfl,hat5,h24,h25⟩;exact yP [67] rfl<|rS 7 [(68,.pointer (some (ad5.add 1)))]<|yK [] iR ⟨_,_,_,_,_,rfl,rfl,hat5,h24,h25⟩
   ·rintro I1 hf af _ _ ⟨ad51,p181,c171,p191,c181,rfl,rfl,hat51,h241,h251⟩;exact yP [68] rfl<|xE 1 hat51 [vS p191 x4.Body c181] (vS p191 x4.Body c181) rfl<|yK [] iR ⟨_,_,rfl,rfl,h251⟩
   ·rintro I1 hf af _ _ ⟨p1911,c1811,rfl,rfl,h2511⟩;refine yP [69,70] rfl<|xN rfl rfl h2511 hy8 ?_;intro ad6 ccs7 hat6 hrep5;obtain⟨p20,c19,p21,c20,p22,c21,p23,c22,rfl,h26,h27,h28,h29⟩:=qF hrep5;exact yK [] iR ⟨_,_,_,_,_,_,_,_,_,rfl,rfl,hat6,h26,h27,h28,h29⟩
   ·rintro I1 hf af _ _ ⟨ad6,p20,c19,p21,c20,p22,c21,p23,c22,rfl,rfl,hat6,h26,h27,h28,h29⟩;exact yP [71] rfl<|xE 0 hat6 (cStmt x5 p20 c19 p21 c20 p22 c21 p23 c22) (vA (cStmt x5 p20 c19 p21 c20 p22 c21 p23 c22)) rfl<|yK [] iR ⟨_,_,_,_,_,_,_,_,rfl,rfl,h26,h27,h28,h29⟩
   ·rintro I1 hf af _ _ ⟨p201,c191,p211,c201,p221,c211,p231,c221,rfl,rfl,h261,h271,h281,h291⟩;refine yP [72] rfl ?_;have H:=iS I1;refine xO (zBe x5 _ hy9 h261 h271 h281 h291) ?_;rintro bO ax v2 k2 bw - ⟨p24,c23,cs8,p25,c24,p26,c25,p27,c26,cs9,rfl,rfl,h30,h31,h32,h33⟩ -;have H:=H.trans bw;exact yK [hO zA (vS p24 y1.Write.Subs c23) cs8,hO zF (vS p27 y1.Value.Kids c26) cs9] H ⟨_,_,_,_,_,_,_,_,_,_,rfl,rfl,h30,h31,h32,h33⟩
   ·rintro I1 hf af _ _ ⟨p24,c23,p25,c24,p26,c25,p27,c26,cs8,cs9,rfl,rfl,h30,h31,h32,h33⟩;refine yP [73] rfl ?_;have H:=iS I1;refine xM 0 rfl ?_;intro I06 bD hl02;have h34:=SL.of_frozen hl02 bD h30;have ⟨h31,h32,h33,H⟩:=m4 bD h31 h32 h33 H;refine xM 0 rfl ?_;intro I07 le7 hl03;have h35:=SL.of_frozen hl03 le7 h33;have ⟨h34,h31,h32,H⟩:=m4 le7 h34 h31 h32 H;refine nV (rc y1 (wY ⟨_,_,_,_,rfl,h34,h31,h32,h35⟩) rN) ?_;intro b6 I08 le8 h37;have H:=H.trans le8;exact yK [] H ⟨_,rfl,rfl,h37⟩
   rintro I1 hf af _ _ ⟨rfl,rfl⟩ _ _ ⟨b6,rfl,rfl,h37⟩ _ _ rfl;refine yP [63,74] rfl ?_;have h20:=iM af h20;obtain⟨ccs8,k05,k06⟩:=h37;have h37:SL I1 (vS (some ⟨b6,0,none⟩) ([y1]:List zQ) 1) ([y1]:List zQ):=⟨_,k05,k06⟩;exact pC 83 9 0 rfl rfl rfl h20 (.inl k05) k06 hy10 λp28 c27 cs10 h38=>uW (ah:=(hO zQ (vS p28 l2 c27) cs10::hB b5 [vS bm y bo,vS p14 Body bu]::hO zN (vS p9 Parts c8) br::hO zG (vS p4 av c3) aC::hB b2 [vS p4 av c3,vS p9 Parts c8]::hB b1 zTwo::hB b (cProg p p1 c p2 c1)::hf)) rfl<|yK [hO zQ (vS p28 l2 c27) cs10] iR ⟨_,_,_,rfl,rfl,h38⟩
  rintro I09 le9 _ _ ⟨p28,c27,cs10,rfl,rfl,h38⟩;refine yP [1,2,3,5,6,7,75] rfl ?_;have ⟨h18,h14,h4,h,h1,H⟩:=m6 le9 h18 h14 h4 h h1 H;exact yF 15 [] [76] rfl<|xP 1 [vS bm y bo,vS p28 l2 c27] rfl<|yC rfl<|zP<|zJ<|zK<|yI [] [7] rfl<|yS<|nU<|ih (W (k04+1)) l2 _ N H h18 h14 h4 h h1 h38 hg ho hx
 intro bd N;exact wZ<|yN<|hx _ _ _ _ _ (zC N).symm H h20
def uJ(p:zD)(i1:Int)(Parts:List zN):Option (List zN):=do
 if(decide (i1<(p.Parts.length:Int))) then
  let x2<-idx p.Parts i1
  let y<-nH x2.Nest
  let bk<-sM p i1 0 ([]:List zQ)
  let l3<-app 48 Parts ([(zN.mk y bk)]:List zN)
  uJ p (W (i1+1)) l3
 else
  pure (id Parts)
 partial_fixpoint
theorem zDT(p:zD):∀(i1:Int) (Parts:List zN) (o:List zN),uJ p i1 Parts=some o->∀{B}{I0 I:Imm}{Q}{av:List zG}{p1 c p2 c1}{b:Nat}{b1:Nat}{b2:Nat}{p4 c3 aC p9 c8 br},I0.le I->(RL I aC av)->(S4 I p1 p.Arrays c)->(S4 I p2 p.Parts c1)->(RL I br Parts)->NG Q->NO Q->(∀(I':Imm) (aX:List zN) (aZ:Option Addr) (c9:Nat) (bC:List Value),o=aX->I0.le I'->(RL I' bC aX)->T 84 B Q (.exit 2) I' [hO zN (vS aZ aX c9) bC,hO zG (vS p4 av c3) aC,hB b2 [vS p4 av c3,vS aZ aX c9],hB b1 zTwo] [(2,vP b1 0),(3,vP b2 0)])->J Tryz.prog 84 B (nav (bodyOf f71) [1,1,1,0,1,0]) Q I [hO zN (vS p9 Parts c8) br,hO zG (vS p4 av c3) aC,hB b2 [vS p4 av c3,vS p9 Parts c8],hB b1 zTwo,hB b (cProg p p1 c p2 c1)] [(1,vP b 0),(2,vP b1 0),(3,vP b2 0),(5,vI i1)]:=by
 refine uJ.partial_correctness p _ λaI ih i1 Parts o N B I0 I Q av p1 c p2 c1 b b1 b2 p4 c3 aC p9 c8 br H h4 h h1 h14 hg ho hx=>yR hg ho<|yA<|yE<|yI [4] [40] rfl<|zJ<|yD N ?_ ?_
 ·intro aF N;refine zU<|zZ<|yH<|yE<|yF 3 [4] [44,45] rfl<|bE N λx2 bt N=>xN rfl rfl h1 bt ?_;intro ad3 ccs4 hat3 aW;obtain⟨aV,bh,bB,bj,rfl,h16,h17⟩:=tB aW;refine yF 5 [] [47] rfl<|xE 0 hat3 [vS aV x2.Nest bh] (vS aV x2.Nest bh) rfl<|bE N λy bH N=>xO (zBd x2.Nest _ bH h16) ?_;rintro bK ax v2 k2 bi - ⟨v04,rfl,rfl,h18⟩ -;have ⟨h14,h4,h,h1,H⟩:=m5 bi h14 h4 h h1 H;obtain⟨bm,bo,rfl⟩:=h18.form;refine yF 8 [] [50] rfl<|uB zTwo ?_;intro b5 hb5;refine xP 0 [vS bm y bo,z0] rfl<|yC rfl<|zZ<|yG [7] rfl<|wC<|oA [(1,vP b 0),(2,vP b1 0),(3,vP b2 0),(5,vI i1),(6,vP b5 0),(7,vI 0)]<|dW zQ λh19=>?_;obtain⟨aM,aA,hMl1⟩:=zB N;refine zAU p i1 0 ([]:List zQ) aM aA iR h18 h14 h4 h h1 h19 (λ_ _ _ h=>hg _ _ _ h) (λ_ _ h=>ho _ _ h) ?_;intro bR bk p15 c14 cs7 heq1 le10 h21;subst aM;have ⟨h18,h14,h4,h,h1,H⟩:=m6 le10 h18 h14 h4 h h1 H;refine zR<|zJ<|zK<|qA 3 [4,1] [(78,vS p9 Parts c8),(79,vA [vS bm y bo,vS p15 bk c14])]<|xM 0 rfl ?_;intro bV le11 hl05;have h39:=SL.of_frozen hl05 le11 h21;have ⟨h14,h18,h4,h,h1,H⟩:=m6 le11 h14 h18 h4 h h1 H;refine tU [vS bm y bo,vS p15 bk c14] zN ?_;intro b7 hb7;have h40:RL bV [vS bm y bo,vS p15 bk c14] ([(zN.mk y bk)]:List zN):=⟨[vS bm y bo,vS p15 bk c14],_,rfl,rfl,(rB ⟨_,_,rfl,h18,h39⟩),rfl⟩;obtain⟨l3,hy11,N⟩:=zB hMl1;refine pC 70 2 2 rfl rfl rfl h14 (.inr ⟨0,rfl⟩) h40 hy11 ?_;intro p29 c28 cs11 h41;exact qE (zX [1,2,3,4,5,6] (ah:=[hB b5 [vS bm y bo,vS p15 bk c14],hO zN (vS p29 l3 c28) cs11,hO zG (vS p4 av c3) aC,hB b2 [vS p4 av c3,vS p9 Parts c8],hB b1 zTwo,hB b (cProg p p1 c p2 c1)]))<|yF 6 [] [82] rfl<|xP 3 [vS p4 av c3,vS p29 l3 c28] rfl<|yC rfl<|zP<|zJ<|zK<|yI [] [5] rfl<|yS<|jU (zW [1,2,3,4,5] rfl (by decide))<|nU<|ih (W (i1+1)) l3 _ N H h4 h h1 h41 hg ho hx
 intro aF N;exact wZ<|xV (zW [0,1,2,3] rfl (by decide))<|yN<|hx _ _ _ _ _ (zC N).symm H h14
def qB(p:zD):Option (zD):=do
 let av<-sL p 0 ([]:List zG)
 let aX<-uJ p 0 ([]:List zN)
 pure (zD.mk av aX)
theorem zFs:∀p r,qB p=some r->∀{I:Imm}{p1 c p2 c1},(S4 I p1 p.Arrays c)->(S4 I p2 p.Parts c1)->RT 71 [vA (cProg p p1 c p2 c1)] I [] (zES  r):=by
 intro p r N I p1 c p2 c1 h h1;unfold qB at N;refine yJ func71 λB=>yE<|uH (cProg p p1 c p2 c1) ?_;intro b hb;refine uB zTwo ?_;intro b1 hb1;refine yC rfl<|xA<|yF 1 [] [8] rfl<|uB zTwo ?_;intro b2 hb2;refine zEs 0 zTwo [hB b2 zTwo,hB b1 zTwo,hB b (cProg p p1 c p2 c1)] rfl rfl rfl rfl<|yC rfl<|zZ<|yG [4] rfl<|wC<|oA [(1,vP b 0),(2,vP b1 0),(3,vP b2 0),(4,vI 0)]<|dW zG λh2=>?_;obtain⟨o0,aB,aH⟩:=zB N;refine zAT p 0 ([]:List zG) o0 aB iR h h1 h2 (λ_ _ _ h=>h) (λ_ _ h=>h) ?_;intro bz av p4 c3 aC heq aK h4;subst o0;have ⟨h,h1⟩:=m2 aK h h1;refine zR<|zZ<|yG [5] rfl<|wC<|oA [(1,vP b 0),(2,vP b1 0),(3,vP b2 0),(5,vI 0)]<|dW zN λh13=>?_;obtain⟨o02,ho02,hMl2⟩:=zB aH;refine zDT p 0 ([]:List zN) o02 ho02 iR h4 h h1 h13 (λ_ _ _ h=>h) (λ_ _ h=>h) ?_;intro bU aX aZ c9 bC heq2 le12 h15;subst o02;have h4:=iM le12 h4;refine zR<|xA<|qA 1 [2] [(83,vA [vS p4 av c3,vS aZ aX c9])]<|xP 3 [vS p4 av c3,vS aZ aX c9] rfl<|yC rfl<|zJ<|yZ ?_;obtain rfl:=zC hMl2;exact xC ⟨_,_,(.cell 3 rfl rfl (by kernel_rfl) ResV.nil),(zW [1,0] rfl (by decide)),⟨_,_,_,_,_,_,rfl,rfl,h4,h15⟩⟩
def zCh(b0:Nat)(r:Str×zL):KT:=λkk I' ah v=>
 ∃v0 k0,ah=[.blk b0 ⟨k0⟩]/\v=tupV [v0]/\v0=.string ⟨⟨r.1.l⟩⟩/\Rp.rep I' k0 r.2
def oR(r0:zL)(list:(List Str)):Option (Str×zL):=do
 let (y1,y2)<-yW r0 (list.length:Int)
 let x<-idx list y1
 pure (x,y2)
theorem fY:∀r0 list r,oR r0 list=some r->∀{I:Imm}{aq:Nat}{p c p1 c1},(S4 I p r0.b c)->(S4 I p1 list c1)->RT 73 [vP aq 0,vS p1 list c1] I [hB aq (cRd r0 p c)] (zCh aq r):=by
 intro r0 list r N I aq p c p1 c1 h h1;unfold oR at N;refine yJ func73 λB=>vK []<|xA<|yF 4 [] [5,6,8] rfl ?_;obtain⟨⟨y1,y2⟩,hy,N⟩:=zB N;refine rC (xR r0 (list.length:Int) _ hy h) rfl ?_;rintro I0 ax v2 k2 le - ⟨v0,kk,rfl,rfl,rfl,h3⟩ -;have h1:=h1.mono le;obtain⟨p2,c2,rfl,h4⟩:=yB h3;obtain⟨x,ay,N⟩:=zB N;refine xN rfl rfl h1 ay ?_;intro ad aL ap al;obtain rfl:=al;refine xE 0 ap [vT x.l] (vT x.l) rfl<|yI [] [4] rfl<|zJ<|yZ ?_;obtain rfl:=zC N;exact xC ⟨_,_,(.tmp rfl ResV.nil),(zW [0] rfl (by decide)),⟨_,_,rfl,rfl,rfl,(yU ⟨_,rfl,h4⟩)⟩⟩
def zAd(r:zA):KT:=λkk I' ah v=>
 ∃a0_0 c0_0 s0_0,ah=[.osl (.slice a0_0 r.Coefs.length c0_0) (Rp.sz Int) s0_0]/\v=tupV [(.agg ⟨[.slice a0_0 r.Coefs.length c0_0,.int .i64 r.Const]⟩)]/\RepL (Rp.rep I') (Rp.sz Int) s0_0 r.Coefs
def oE :Option (zA):=do
 pure (zA.mk ([0,0,0,0]:List Int) 0)
theorem kH:∀r,oE =some r->∀{I:Imm} ,RT 111 [] I [] (zAd  r):=by
 intro  r N I;unfold oE at N;refine yJ func111 λB=>yE<|uB [z0,vI 0] ?_;intro b hb;refine yC rfl<|xA<|tU [vI 0,vI 0,vI 0,vI 0] Int ?_;intro b1 hb1;have h:RL I [vI 0,vI 0,vI 0,vI 0] ([0,0,0,0]:List Int):=rI [0,0,0,0];refine yF 2 [] [2] rfl<|xP 1 [vS (some ⟨b1,0,none⟩) ([0,0,0,0]:List Int) 4,vI 0] rfl<|yC rfl<|zJ<|yZ ?_;obtain rfl:=zC N;exact xC ⟨_,_,(.cell 1 rfl rfl (by kernel_rfl) ResV.nil),(zW [0] rfl (by decide)),⟨_,_,_,rfl,rfl,h⟩⟩
def nF(v0:Int):Option (zA):=do
 let y<-oE
 let x<-idx y.Coefs v0
 let l<-pure (y.Coefs.set v0.toNat 1)
 pure (zA.mk l y.Const)
theorem gU:∀v0 r,nF v0=some r->∀{I:Imm} ,RT 109 [vI v0] I [] (kW  r):=by
 intro v0 r N I;unfold nF at N;refine yJ func109 λB=>yE<|uB [z0,vI 0] ?_;intro b hb;refine yC rfl<|xA<|bE N λy hy N=>xO (kH  _ hy ) ?_;rintro I0 ax v2 k2 le - ⟨p,c,cs,rfl,rfl,h⟩ -;refine uB [z0,vI 0] ?_;intro b1 hb1;refine xP 0 (cAff y p c) rfl<|yC rfl<|xA<|yF 3 [0] [6,7] rfl<|bE N λx ay N=>nA 1 rfl rfl rfl h ay ?_;intro ad aL ap bG al;obtain rfl:=al;obtain⟨l,aJ,N⟩:=zB N;refine tW (c:=[vI 1]) (x':=1) 1 0 rfl rfl rfl ap rfl rfl bG (by kernel_rfl) (by kernel_rfl) (by kernel_rfl) h ay (by kernel_rfl) rfl ?_;rw[show y.Coefs.set v0.toNat 1=l from zC aJ];intro aC h1 hl0;refine oZ (m':=[(2,vP b 0),(3,vP b1 0),(6,vS p y.Coefs c),(7,vI v0)]) ⟨rfl,rfl,rfl,rfl,trivial⟩<|fX (ah:=[hB b1 [vS p l c,vI y.Const],hO Int (vS p l c) aC,hB b [z0,vI 0]]) (m':=[(2,vP b 0),(3,vP b1 0),(6,vS p l c),(7,vI v0)]) (by first|rfl|simp only[vS,hl0,cr,cU,cW,cQ,cH,cI]) (by first|rfl|simp only[vS,hl0])<|yC rfl<|xA<|qA 1 [0] [(9,vA [vS p l c,vI y.Const])]<|xP 2 [vS p l c,vI y.Const] rfl<|yC rfl<|xF<|xB 1 rfl ?_;intro aU af hl01;have h2:=SL.of_frozen hl01 af h1;obtain rfl:=zC N;exact xC ⟨_,_,(.cell 1 rfl rfl (by kernel_rfl) ResV.nil),zO,⟨_,rfl,rfl,⟨_,rfl,(yL ⟨_,rfl,h2⟩)⟩⟩⟩
def wM(n0:Int):Option (zA):=do
 let y<-oE
 pure (zA.mk y.Coefs n0)
theorem uF:∀n0 r,wM n0=some r->∀{I:Imm} ,RT 110 [vI n0] I [] (zAd  r):=by
 intro n0 r N I;unfold wM at N;refine yJ func110 λB=>yE<|uB [z0,vI 0] ?_;intro b hb;refine yC rfl<|xA<|bE N λy hy N=>xO (kH  _ hy ) ?_;rintro I0 ax v2 k2 le - ⟨p,c,cs,rfl,rfl,h⟩ -;refine uB [z0,vI 0] ?_;intro b1 hb1;refine xP 0 (cAff y p c) rfl<|yC rfl<|xA<|yF 2 [] [5,6] rfl<|xP 0 [vS p y.Coefs c,vI n0] rfl<|yC rfl<|xA<|qA 1 [0] [(7,vA [vS p y.Coefs c,vI n0])]<|xP 2 [vS p y.Coefs c,vI n0] rfl<|yC rfl<|zJ<|yZ ?_;obtain rfl:=zC N;exact xC ⟨_,_,(.cell 2 rfl rfl (by kernel_rfl) ResV.nil),(zW [1] rfl (by decide)),⟨_,_,_,rfl,rfl,h⟩⟩
theorem zLY(xs:List NL)(x:NL):(x.ha++NLs xs).Perm (NLs (xs++[x])):=by
 simp only[NLs,dn,ci,fa,cu];exact dt
theorem zCi(nest:(List zE)):∀(out:List zE) (i:Int) (o:List zE),uI nest out i=some o->∀{B}{I0 I:Imm}{Q p c p1 c1 cs}{xs:List NL},I0.le I->(S4 I p nest c)->(RL I cs (xs.map NL.raw))->out=xs.map NL.d->(∀x∈xs,x.ok I)->(∀l a w,¬Q (.goto l) a w)->(∀a w,¬Q .outgrown a w)->(∀(I':Imm) (p2:Option Addr) (c2:Nat) (aC:List Value) (ys:List NL),I0.le I'->o=ys.map NL.d->(RL I' aC (ys.map NL.raw))->(∀x∈ys,x.ok I')->T 83 B Q (.exit 0) I' (hO Raw2 (vS p2 (ys.map NL.raw) c2) aC::NLs ys) [(3,vS p2 (ys.map NL.raw) c2)])->J Tryz.prog 83 B (nav (bodyOf f107) [1,1,0,1,0]) Q I (hO Raw2 (vS p1 (xs.map NL.raw) c1) cs::NLs xs) [(0,vS p nest c),(3,vS p1 (xs.map NL.raw) c1),(4,vI i)]:=by
 refine uI.partial_correctness nest _ λaI ih out i o N B I0 I Q p c p1 c1 cs xs H h h2 hout bX hg ho hx=>yR hg ho<|yA<|yG [14] rfl<|zJ<|yD N ?_ ?_
 ·intro hc N;refine zU<|zZ<|yH<|yE<|yF 1 [] [17] rfl<|uB zTwo ?_;intro b1 hb1;refine zEs 0 zTwo (hB b1 zTwo::hO Raw2 (vS p1 (xs.map NL.raw) c1) cs::NLs xs) rfl rfl rfl rfl<|yC rfl<|zZ<|yG [6] rfl<|wC<|oA [(0,vS p nest c),(3,vS p1 (xs.map NL.raw) c1),(4,vI i),(5,vP b1 0),(6,vI 0)]<|dW zA λh4=>?_;obtain⟨o0,aB,aH⟩:=zB N;refine zNp (hs:=[hO zA (vS none ([]:List zA) 0) [],hB b1 zTwo,hO Raw2 (vS p1 (xs.map NL.raw) c1) cs]) (L:=NLs xs) (.exit 2) (λI' ah m'=>∃p4 c4 aT,RL I' aT o0/\ah=[hO zA (vS p4 o0 c4) aT,hB b1 [vS p4 o0 c4,z0],hO Raw2 (vS p1 (xs.map NL.raw) c1) cs]/\m'=[(0,vS p nest c),(3,vS p1 (xs.map NL.raw) c1),(4,vI i),(5,vP b1 0)]) (λB'=>?_) ?_
  ·refine zAR nest i 0 ([]:List zA) o0 aB iR h h2 h4 (λ_ _ _ h=>by cases h.1) (λ_ _ h=>by cases h.1) ?_;intro bz Lo1 p4 c4 aT heq aK h6;subst o0;exact zNq ⟨_,_,_,h6,rfl,rfl⟩
  rintro bz _ _ ⟨p4,c4,aT,h6,rfl,rfl⟩ aK;have ⟨h,h2⟩:=m2 aK h h2;have bX:=λx hx=>(bX x hx).mono aK;have H:=H.trans aK;refine zR<|zZ<|yG [8] rfl<|wC<|oA [(0,vS p nest c),(3,vS p1 (xs.map NL.raw) c1),(4,vI i),(5,vP b1 0),(8,vI 0)]<|dW zA λh18=>?_;obtain⟨aM,aA,hMl1⟩:=zB aH;refine zNp (hs:=[hO zA (vS none ([]:List zA) 0) [],hO zA (vS p4 o0 c4) aT,hB b1 [vS p4 o0 c4,z0],hO Raw2 (vS p1 (xs.map NL.raw) c1) cs]) (L:=NLs xs) (.exit 4) (λI' ah m'=>∃bm bu cs7,RL I' cs7 aM/\ah=[hO zA (vS bm aM bu) cs7,hO zA (vS p4 o0 c4) aT,hB b1 [vS p4 o0 c4,vS bm aM bu],hO Raw2 (vS p1 (xs.map NL.raw) c1) cs]/\m'=[(0,vS p nest c),(3,vS p1 (xs.map NL.raw) c1),(4,vI i),(5,vP b1 0)]) (λB'=>?_) ?_
  ·refine zAS nest i 0 ([]:List zA) aM aA iR h h2 h6 h18 (λ_ _ _ h=>by cases h.1) (λ_ _ h=>by cases h.1) ?_;intro I07 Hi1 bm bu cs7 heq1 le7 h20;subst aM;exact zNq ⟨_,_,_,h20,rfl,rfl⟩
  rintro I07 _ _ ⟨bm,bu,cs7,h20,rfl,rfl⟩ le7;have ⟨h,h2,h6⟩:=m3 le7 h h2 h6;have bX:=λx hx=>(bX x hx).mono le7;have H:=H.trans le7;obtain⟨am,hy10,N⟩:=zB hMl1;have hy11:=zJn (l':=xs.map NL.raw) (m':=[(⟨vS p4 o0 c4,vS bm aM bu⟩:Raw2)]) hy10 (by simp[hout]) rfl;obtain⟨_,rfl⟩:=zA9 hy10;have h34:RL I07 [vS p4 o0 c4,vS bm aM bu] [(⟨vS p4 o0 c4,vS bm aM bu⟩:Raw2)]:=⟨[vS p4 o0 c4,vS bm aM bu],[],rfl,rfl,⟨rfl,rfl,rfl⟩,rfl⟩;refine zR<|zJ<|zK<|qA 2 [2] [(78,vS p1 (xs.map NL.raw) c1),(79,vA [vS p4 o0 c4,vS bm aM bu])]<|tU [vS p4 o0 c4,vS bm aM bu] Raw2 ?_;intro b8 hb8;refine pC 150 2 4 rfl rfl rfl h2 (.inr ⟨0,rfl⟩) h34 hy11 ?_;intro p21 c21 cs10 h35;have eR:xs.map NL.raw++[(⟨vS p4 o0 c4,vS bm aM bu⟩:Raw2)]=(xs++[(⟨p4,o0,c4,aT,bm,aM,bu,cs7⟩:NL)]).map NL.raw:=by simp[NL.raw,NL.vl,NL.vh]
  have eD:out++[(⟨o0,aM⟩:zE)]=(xs++[(⟨p4,o0,c4,aT,bm,aM,bu,cs7⟩:NL)]).map NL.d:=by simp[hout,NL.d]
  rw[eR] at h35 ⊢;refine yI [] [3] rfl<|zP<|zJ<|zK<|yI [] [4] rfl<|yS<|jU (zEF 0 rfl)<|jU (zEF 2 rfl)<|zHf _ ?_<|oA [(0,vS p nest c),(3,vS p21 ((xs++[(⟨p4,o0,c4,aT,bm,aM,bu,cs7⟩:NL)]).map NL.raw) c21),(4,vI (W (i+1)))]<|ih _ (W (i+1)) _ N H h h35 eD ?_ hg ho hx
  ·show List.Perm _ (hO zA (vS bm aM bu) cs7::hO zA (vS p4 o0 c4) aT::hO Raw2 (vS p21 ((xs++[(⟨p4,o0,c4,aT,bm,aM,bu,cs7⟩:NL)]).map NL.raw) c21) cs10::NLs xs);exact List.Perm.trans ((zLY xs ⟨p4,o0,c4,aT,bm,aM,bu,cs7⟩).symm.cons _)<|(List.Perm.swap _ _ _).trans (List.Perm.cons _ (List.Perm.swap _ _ _))
  intro x hx';rcases dx.1 hx' with hx' | hx'
  ·exact bX x hx'
  rw[cx.1 hx'];exact⟨h6,h20⟩
 intro hc N;have:=zC N;simp only[id] at this;exact wZ<|yN<|hx _ _ _ _ _ H (by rw[<- this,hout]) h2 bX
def zDU(r:(List zE)):KT:=λkk I' ah v=>
 ∃(p:Option Addr) (c:Nat) (cs:List Value) (xs:List NL),ah=hO Raw2 (vS p (xs.map NL.raw) c) cs::NLs xs/\v=tupV [vS p (xs.map NL.raw) c]/\RL I' cs (xs.map NL.raw)/\r=xs.map NL.d/\∀x∈xs,x.ok I'
theorem zEy:∀(nest:(List zE)) r,nH nest=some r->∀{I:Imm}{p c},(S4 I p nest c)->RT 107 [vS p nest c] I [] (zDU  r):=by
 intro nest r N I p c h;unfold nH at N;refine yJ func107 λB=>vK []<|xA<|tU [] zE ?_;intro b hb;have h1:RL I [] (([]:List NL).map NL.raw):=rfl;refine yI [] [3] rfl<|zZ<|yG [4] rfl<|wC<|oA [(0,vS p nest c),(3,vS (some ⟨b,0,none⟩) (([]:List NL).map NL.raw) 0),(4,vI 0)] ?_;obtain⟨o02,ho02,hMl2⟩:=zB N;refine zCi nest ([]:List zE) 0 o02 ho02 (xs:=[]) iR h h1 rfl (λ_ h=>by cases h) (λ_ _ _ h=>h) (λ_ _ h=>h) ?_;intro I1 p2 c2 aC ys le10 ho h3 hok;have:=zC hMl2;simp only[id] at this;subst this;exact zR<|wW [2] rfl<|xF<|xC ⟨_,_,(.tmp rfl ResV.nil),(λ_ g=>g),⟨_,_,_,ys,rfl,rfl,h3,ho,hok⟩⟩
def rL(out:List zE):Option (List zE):=do
 if(decide ((out.length:Int)<=4)) then
  let x<-idx out 0
  let l<-app 48 out ([x]:List zE)
  rL l
 else
  pure (id out)
 partial_fixpoint
def oT(r0:zL)(nest:(List zE)):Option ((List zE)×zL):=do
 let y<-nH nest
 if((y.length:Int)==0) then
  pure (y,r0)
 else
  let (y2,y3)<-yW r0 40
  if(y2==0) then
   let x<-idx y 0
   let (y5,y6)<-yW y3 2
   let y7<-nF y5
   let l<-app 32 x.Lo ([y7]:List zA)
   pure (y.set 0 (zE.mk l x.Hi),y6)
  else
   if(y2==1) then
    let x<-idx y (W ((y.length:Int) - 1))
    pure (y.set (W ((y.length:Int) - 1)).toNat (zE.mk x.Lo []),y3)
   else
    if(y2==2) then
     let x<-idx y (W ((y.length:Int) - 1))
     let y7<-wM 1
     let y8<-wM 2
     let l<-app 32 x.Hi ([y7,y8]:List zA)
     pure (y.set (W ((y.length:Int) - 1)).toNat (zE.mk x.Lo l),y3)
    else
     if(y2==3) then
      let y7<-wM 99
      let x<-idx y 0
      pure (y.set 0 (zE.mk x.Lo [y7]),y3)
     else
      if(y2==4) then
       let z<-rL y
       pure (z,y3)
      else
       pure (y,y3)
theorem zCN:∀(out:List zE) (o:List zE),rL out=some o->∀{B}{I0 I:Imm}{Q}{K:HA}{p1 c1 cs},I0.le I->RL I cs out->(∀l a w,¬Q (.goto l) a w)->(∀a w,¬Q .outgrown a w)->(∀(I':Imm) (p2:Option Addr) (c2:Nat) (aC:List Value),I0.le I'->RL I' aC o->T 73 B Q (.exit 1) I' [hO zE (vS p2 o c2) aC,K] [(5,vS p2 o c2)])->J Tryz.prog 73 B (nav (bodyOf f74) [1,1,1,1,0,1,0,1,1,1,1,1,1,1,1,1,0,0]) Q I [hO zE (vS p1 out c1) cs,K] [(5,vS p1 out c1)]:=by
 refine rL.partial_correctness _ λaI ih out o N B I0 I Q K p1 c1 cs H h hg ho hx=>yR hg ho<|yA<|yG [65] rfl<|zJ<|yD N ?_ ?_
 ·intro hc N;obtain⟨x,hy,N⟩:=zB N;obtain⟨l,ay,N⟩:=zB N;refine zU<|wC<|zK<|yF 2 [] [66,67] rfl<|nA 0 rfl rfl rfl h hy ?_;intro ad aL ap bG al;obtain⟨p3,c3,p4,c4,rfl,h1,h2⟩:=rG al;refine zCJ 0 0 ap bG (cLoop x p3 c3 p4 c4) (vA (cLoop x p3 c3 p4 c4)) rfl rfl<|tU (cLoop x p3 c3 p4 c4) zE ?_;intro b2 hb2;have h3:RL I (cLoop x p3 c3 p4 c4) ([x]:List zE):=⟨(cLoop x p3 c3 p4 c4),[],rfl,rfl,nQ ⟨_,_,rfl,h1,h2⟩,rfl⟩;exact pC 150 2 1 rfl rfl rfl h (.inr ⟨0,rfl⟩) h3 ay λp5 c5 bC h5=>yI [] [5] rfl<|zP<|yS<|jU (zEF 0 rfl)<|nU<|ih l _ N H h5 hg ho hx
 intro hc N;have:=zC N;simp only[id] at this;subst this;exact wZ<|yN<|hx _ _ _ _ H h
def dY(b0:Nat)(r:(List zE)×zL):KT:=λkk I' ah v=>
 ∃v0 k0,ah=[.blk b0 ⟨k0⟩]/\v=tupV [v0]/\SL I' v0 r.1/\Rp.rep I' k0 r.2
theorem zAe{B:Base}{I:Imm}{out:List zE}{p1 c1 cs}{aq:Nat}{kl:List Value}{y3:zL}(h:RL I cs out)(hk:Rp.rep I kl y3):
 J Tryz.prog 73 B (nav (bodyOf f74) [1,1,1,1,1]) (QB Tryz.prog f74 B (dY aq (out,y3))) I [hO zE (vS p1 out c1) cs,hB aq kl] [(5,vS p1 out c1)]:=by
 refine yG [4] rfl<|xF<|xB 0 rfl ?_
 intro I1 af hl
 have h1:=SL.of_frozen hl af h
 exact xC ⟨_,_,(.tmp rfl ResV.nil),(λ_ g=>g),⟨_,_,rfl,rfl,h1,Rp.mono af hk⟩⟩
theorem zLZ(xs:List NL):((xs.map NL.d).length:Int)=((xs.map NL.raw).length:Int):=by simp
theorem zMU{p c}(xs:List NL):vS p (xs.map NL.raw) c=vS p (xs.map NL.d) c:=by simp[vS]
theorem fZ:∀r0 nest r,oT r0 nest=some r->∀{I:Imm}{aq:Nat}{p c p1 c1},(S4 I p r0.b c)->(S4 I p1 nest c1)->RT 74 [vP aq 0,vS p1 nest c1] I [hB aq (cRd r0 p c)] (dY aq r):=by
 intro r0 nest r N I aq p c p1 c1 h h1;unfold oT at N;refine yJ func74 λB=>?_;have H:=iS I;obtain⟨y,hy,N⟩:=zB N;refine yG [0,1] rfl<|xA<|yF 1 [] [7] rfl<|xO (zEy nest _ hy h1) ?_;rintro I1 ax v2 k2 af - ⟨p2,c2,cs,xs,rfl,rfl,h2,rfl,bX⟩ -;have h:=h.mono af;clear h1 H;simp only[zLZ] at N;refine qE (ah:=hO Raw2 (vS p2 (xs.map NL.raw) c2) cs::hB aq (cRd r0 p c)::NLs xs) (λw g=>g.perm (List.Perm.cons _ (dt (l₁:=[hB aq (cRd r0 p c)]) (l₂:=NLs xs))))<|yI [] [0,5] rfl<|wW [0,5,6] rfl<|zZ<|yG [0,5,6,12] rfl<|zJ<|yD N ?_ ?_
 ·intro hc N;obtain rfl:=zC N;refine zHf (NLs xs++[hO Raw2 (vS p2 (xs.map NL.raw) c2) cs,hB aq (cRd r0 p c)]) (dt)<|zAa xs bX ?_;intro I2 aE hfz;have h:=h.mono aE;have h3:=zFn hfz;rw[<- jI h2] at h3;refine yG [4] rfl<|xF<|zH<|xB 0 rfl ?_;intro I3 aK hl;have h4:SL I3 (vS p2 (xs.map NL.raw) c2) (xs.map NL.d):=SL.of_frozen (l:=xs.map NL.d) hl aK h3;exact xC ⟨_,_,(.tmp rfl ResV.nil),(λ_ g=>g),⟨_,_,rfl,rfl,h4,yU ⟨_,rfl,h.mono aK⟩⟩⟩
 intro hc N;obtain⟨⟨y2,y3⟩,ay,N⟩:=zB N;refine zU<|zZ<|yE<|yF 1 [] [14] rfl<|qE (ah:=hB aq (cRd r0 p c)::hO Raw2 (vS p2 (xs.map NL.raw) c2) cs::NLs xs) (λw g=>g.perm (List.Perm.swap _ _ _))<|rC (xR r0 40 _ ay h) rfl ?_;rintro I2 ax v2 k2 aE - ⟨v0,kk,rfl,rfl,rfl,h3⟩ -;obtain⟨p3,c3,rfl,h4⟩:=yB h3;clear h3 h;have h2:=iM aE h2;have bX:=λx hx=>(bX x hx).mono aE;refine yI [] [0,5,6,15] rfl<|wC<|yG [0,5,6,15,16] rfl<|zJ<|zHf (NLs xs++[hO Raw2 (vS p2 (xs.map NL.raw) c2) cs,hB aq (cRd y3 p3 c3)]) ((dt).trans (List.Perm.swap _ _ _))<|yD N ?_ ?_
 ·intro hc0 N;obtain⟨x,hx,N⟩:=zB N;obtain⟨⟨y5,y6⟩,bH,N⟩:=zB N;obtain⟨y7,hy7,N⟩:=zB N;obtain⟨l,hl,N⟩:=zB N;obtain⟨x,hx2,rfl⟩:=zFX hx;have hx:=hx2;clear hx2;refine zLQ hx bX ?_;intro I3 aK hfz;obtain⟨xlo,xhi⟩:=bX x (uX hx |>.2.2 |> cM);replace xlo:=iM aK xlo;replace xhi:=iM aK xhi;have ⟨h2,h4⟩:=m2 aK h2 h4;clear bX;refine nO 0 rfl ?_;intro I4 bi hl4;have khi:=SL.of_frozen hl4 bi xhi;replace xlo:=iM bi xlo;have ⟨h2,h4⟩:=m2 bi h2 h4;have hfz:=λj y hj hy=>(hfz j y hj hy).mono bi;have hxr:=zAy (f:=NL.raw) hx;refine oA [(0,vP aq 0),(5,vS p2 (xs.map NL.raw) c2)]<|wX [.p (vS p2 (xs.map NL.raw) c2) [],.p (vS p2 (xs.map NL.raw) c2) [],.x (λI' v hx'=>∃ad,v=.pointer (some ad)/\hx'=[]/\AtO (vS p2 (xs.map NL.raw) c2) 2 0 ad),.x (λI' v hx'=>∃ad,v=.pointer (some ad)/\hx'=[]/\AtO (vS p2 (xs.map NL.raw) c2) 2 0 ad),.x (λI' v hx'=>v=x.vl/\hx'=[]),.p (vP aq 0) [],.x (λI' v hx'=>∃kk,v=vI y5/\hx'=[hB aq kk]/\Rp.rep I' kk y6),.x (λI' v hx'=>∃p5 c5,v=vA (cAff y7 p5 c5)/\hx'=[]/\SL I' (vS p5 y7.Coefs c5) y7.Coefs),.x (λI' v hx'=>∃b4,v=vS (some ⟨b4,0,none⟩) ([y7]:List zA) 1/\hx'=[]/\SL I' (vS (some ⟨b4,0,none⟩) ([y7]:List zA) 1) ([y7]:List zA)),.x (λI' v hx'=>∃p6 c6 cs6,v=vS p6 l c6/\hx'=[hO zA (vS p6 l c6) cs6]/\RL I' cs6 l)]
   [[],[],[(1,false)],[(2,false)],[(3,false)],[],[(5,false),(13,true)],[(6,false)],[(7,false)],[(4,false),(8,false),(14,true)]]
   [hO Raw2 (vS p2 (xs.map NL.raw) c2) cs] [[hB aq (cRd y3 p3 c3)],[hO zA x.vl x.csl]] [(0,false),(6,true),(9,true)] (zX [1,2,0]) ?_ ?_
  ·refine Op<|Op<|Ox ?_<|Ox ?_<|Ox ?_<|Op<|Ox ?_<|Ox ?_<|Ox ?_<|Ox ?_<|On
   ·intro I1 hf af;exact yP [19] rfl<|nA 0 rfl rfl rfl (iM af h2) hxr λad aL ap bG al=>yK [] iR ⟨_,rfl,rfl,ap⟩
   ·rintro I1 hf af _ _ ⟨ad,rfl,rfl,ap⟩;exact kA<|zCK [(20,.pointer (some ad))]<|rS 4 [(21,.pointer (some ad))]<|yK [] iR ⟨_,rfl,rfl,ap⟩
   ·rintro I1 hf af _ _ ⟨ad,rfl,rfl,ap⟩;refine yP [21] rfl ?_;have al:=h2.at (i:=0) (uX hxr).2.2;obtain⟨⟨bG,o1,o2⟩,_⟩:=al;exact zCJ 0 0 ap bG [x.vl] x.vl rfl rfl<|yT iR
   ·rintro I1 hf af _ _ ⟨rfl,rfl⟩ _ _ rfl;refine yP [23] rfl<|rC (xR y3 2 _ bH (h4.mono af)) rfl ?_;rintro aQ ax v2 k2 aE - ⟨v0,kk,rfl,rfl,rfl,h5⟩ -;exact yK [hB aq kk] aE ⟨_,rfl,rfl,h5⟩
   ·rintro I1 hf af _ _ ⟨kk,rfl,rfl,h5⟩;refine yP [24] rfl<|xO (gU y5 _ hy7) ?_;rintro aQ ax v2 k2 aE - ⟨v0,rfl,rfl,⟨aO,rfl,h6⟩⟩ -;obtain⟨p5,c5,rfl,h7⟩:=yO h6;exact yK [] aE ⟨_,_,rfl,rfl,h7⟩
   ·rintro I1 hf af _ _ ⟨p5,c5,rfl,rfl,h7⟩;refine yP [25] rfl<|tU (cAff y7 p5 c5) zA ?_;intro b4 hb4;have h15:RL I1 (cAff y7 p5 c5) ([y7]:List zA):=⟨(cAff y7 p5 c5),_,rfl,rfl,(yL ⟨_,rfl,h7⟩),rfl⟩;exact xM 0 rfl λaU le01 hl01=>yK [] le01 ⟨_,rfl,rfl,SL.of_frozen hl01 le01 h15⟩
   rintro I1 hf af _ _ ⟨rfl,rfl⟩ _ _ ⟨b4,rfl,rfl,h16⟩ _ _ rfl;refine yP [22,26] rfl ?_;obtain⟨ccs4,k03,k04⟩:=h16;exact pC 78 2 0 rfl rfl rfl (iM af xlo) (.inl k03) k04 hl λaV bj bC h17=>uW (ah:=(hO zA (vS aV l bj) bC::hO Raw2 (vS p2 (xs.map NL.raw) c2) cs::hf)) rfl<|yK [hO zA (vS aV l bj) bC] iR ⟨_,_,_,rfl,rfl,h17⟩
  rintro I5 bw _ _ ⟨rfl,rfl⟩ _ _ ⟨kk,rfl,rfl,h5⟩ _ _ ⟨p6,c6,cs6,rfl,rfl,h6⟩;have h2:=iM bw h2;refine yP [5,18,27] rfl<|nA 2 rfl rfl rfl h2 hxr ?_;intro ad aL ap bG al;obtain⟨rfl,o1,o2⟩:=al;refine yF 12 [] [29] rfl<|tW (c:=[vS p6 l c6,x.vh]) (x':=(⟨vS p6 l c6,x.vh⟩:Raw2)) 2 0 rfl rfl rfl ap rfl rfl bG (by kernel_rfl) (by kernel_rfl) (by kernel_rfl) h2 hxr (by kernel_rfl) ⟨rfl,rfl,rfl⟩ λcs7 h7 aG=>uW (ah:=[hO zA (vS p6 l c6) cs6,hB aq kk,hO Raw2 (vS p2 (xs.map NL.raw) c2) cs7]) rfl<|xM 0 rfl ?_;intro I6 bD hl6;have klo:=SL.of_frozen hl6 bD h6;have hpw:=zHg (r:=⟨vS p6 l c6,x.vh⟩) (d:=⟨l,x.hi⟩) (λj y hj hy=>((hfz j y hj hy).mono bw).mono bD) ⟨klo,(khi.mono bw).mono bD⟩;have h8:=hpw.rl;have e8:=jI h7;obtain rfl:=zC N;have eL:vS p2 (xs.map NL.raw) c2=vS p2 ((xs.map NL.d).set 0 (⟨l,x.hi⟩:zE)) c2:=by simp[vS]
  rw[show (0:Int).toNat=0 from rfl] at e8 h8;rw[<- e8] at h8;rw[eL];exact qE (zX [1,0] (ah:=[hO zE (vS p2 ((xs.map NL.d).set 0 (⟨l,x.hi⟩:zE)) c2) cs7,hB aq kk]))<|yI [] [5] rfl<|zP<|zJ<|oA [(5,vS p2 ((xs.map NL.d).set 0 (⟨l,x.hi⟩:zE)) c2)]<|zAe h8 (Rp.mono bD h5)
 intro hc0 N;refine yG [0,5,6,15,30] rfl<|zJ<|yD N ?_ ?_
 ·intro aF N;obtain⟨x,hx,N⟩:=zB N;obtain⟨x,hx2,rfl⟩:=zFX hx;have hx:=hx2;clear hx2;have hxr:=zAy (f:=NL.raw) hx;refine zAa xs bX ?_;intro I3 aK hfz;obtain⟨flo,fhi⟩:=hfz x (cM (uX hx).2.2);have ⟨h2,h4⟩:=m2 aK h2 h4;refine zK<|yF 3 [] [32,34] rfl<|nA 0 rfl rfl rfl h2 hxr ?_;intro ad aL ap bG al;obtain⟨rfl,o1,o2⟩:=al;refine yF 5 [] [36] rfl<|tW (c:=[x.vl,z0]) (x':=(⟨x.vl,z0⟩:Raw2)) 0 1 rfl rfl rfl ap rfl rfl bG (by kernel_rfl) (by kernel_rfl) (by kernel_rfl) h2 hxr (by kernel_rfl) ⟨rfl,rfl,rfl⟩ ?_;intro cs7 h7 aG;have hpw:=zHg (k:=(W (((xs.map NL.raw).length:Int) - 1)).toNat) (r:=⟨x.vl,z0⟩) (d:=⟨x.lo,[]⟩) (λj y hj hy=>hfz y (cM hy)) ⟨flo,SL.nil _⟩;have h8:=hpw.rl;rw[<- jI h7] at h8;obtain rfl:=zC N;have eL:vS p2 (xs.map NL.raw) c2=vS p2 ((xs.map NL.d).set (W (((xs.map NL.raw).length:Int) - 1)).toNat (⟨x.lo,[]⟩:zE)) c2:=by simp only[vS,cL,dh]
  rw[eL];exact uW (ah:=[hO zE (vS p2 ((xs.map NL.d).set (W (((xs.map NL.raw).length:Int) - 1)).toNat (⟨x.lo,[]⟩:zE)) c2) cs7,hB aq (cRd y3 p3 c3)]) rfl<|yI [] [5] rfl<|zP<|zJ<|oA [(5,vS p2 ((xs.map NL.d).set (W (((xs.map NL.raw).length:Int) - 1)).toNat (⟨x.lo,[]⟩:zE)) c2)]<|zAe h8 (yU ⟨_,rfl,h4⟩)
 intro aF N;refine yG [0,5,6,15,37] rfl<|zJ<|yD N ?_ ?_
 ·intro bd N;obtain⟨x,hx,N⟩:=zB N;obtain⟨y7,hy7,N⟩:=zB N;obtain⟨y8,hy8,N⟩:=zB N;obtain⟨l,hl,N⟩:=zB N;obtain⟨x,hx2,rfl⟩:=zFX hx;have hx:=hx2;clear hx2;refine zLQ hx bX ?_;intro I3 aK hfz;obtain⟨xlo,xhi⟩:=bX x (uX hx |>.2.2 |> cM);replace xlo:=iM aK xlo;replace xhi:=iM aK xhi;have ⟨h2,h4⟩:=m2 aK h2 h4;clear bX;refine nO 1 rfl ?_;intro I4 bi hl4;have klo:=SL.of_frozen hl4 bi xlo;replace xhi:=iM bi xhi;have ⟨h2,h4⟩:=m2 bi h2 h4;have hfz:=λj y hj hy=>(hfz j y hj hy).mono bi;have hxr:=zAy (f:=NL.raw) hx;refine oA [(5,vS p2 (xs.map NL.raw) c2),(6,vI ((xs.map NL.raw).length:Int))]<|wX [.p (vS p2 (xs.map NL.raw) c2) [],.p (vI ((xs.map NL.raw).length:Int)) [],.p (vI (W (((xs.map NL.raw).length:Int) - 1))) [],.p (vS p2 (xs.map NL.raw) c2) [],.p (vI ((xs.map NL.raw).length:Int)) [],.p (vI (W (((xs.map NL.raw).length:Int) - 1))) [],.x (λI' v hx'=>∃ad,v=.pointer (some ad)/\hx'=[]/\AtO (vS p2 (xs.map NL.raw) c2) 2 (W (((xs.map NL.raw).length:Int) - 1)).toNat ad),.x (λI' v hx'=>∃ad,v=.pointer (some (ad.add 1))/\hx'=[]/\AtO (vS p2 (xs.map NL.raw) c2) 2 (W (((xs.map NL.raw).length:Int) - 1)).toNat ad),.x (λI' v hx'=>v=x.vh/\hx'=[]),.x (λI' v hx'=>∃p5 c5,v=vA (cAff y7 p5 c5)/\hx'=[]/\SL I' (vS p5 y7.Coefs c5) y7.Coefs),.x (λI' v hx'=>∃p5 c5,v=vA (cAff y8 p5 c5)/\hx'=[]/\SL I' (vS p5 y8.Coefs c5) y8.Coefs),.x (λI' v hx'=>∃b4,v=vS (some ⟨b4,0,none⟩) ([y7,y8]:List zA) 2/\hx'=[]/\SL I' (vS (some ⟨b4,0,none⟩) ([y7,y8]:List zA) 2) ([y7,y8]:List zA)),.x (λI' v hx'=>∃p6 c6 cs6,v=vS p6 l c6/\hx'=[hO zA (vS p6 l c6) cs6]/\RL I' cs6 l)]
   [[],[],[(1,false)],[],[],[(4,false)],[(3,false),(5,false)],[(6,false)],[(7,false)],[],[],[(9,false),(10,false)],[(8,false),(11,false),(16,true)]]
   [hO Raw2 (vS p2 (xs.map NL.raw) c2) cs,hB aq (cRd y3 p3 c3)] [[hO zA x.vh x.csh]] [(0,false),(2,false),(12,true)] (zX [1,2,0]) ?_ ?_
  ·refine Op<|Op<|Op<|Op<|Op<|Op<|Ox ?_<|Ox ?_<|Ox ?_<|Ox ?_<|Ox ?_<|Ox ?_<|Ox ?_<|On
   ·intro I1 hf af;exact yP [42,44] rfl<|nA 0 rfl rfl rfl (iM af h2) hxr λad aL ap bG al=>yK [] iR ⟨_,rfl,rfl,ap⟩
   ·rintro I1 hf af _ _ ⟨ad,rfl,rfl,ap⟩;exact kA<|zCK [(45,.pointer (some ad))]<|rS 8 [(46,.pointer (some (ad.add 1)))]<|yK [] iR ⟨_,rfl,rfl,ap⟩
   ·rintro I1 hf af _ _ ⟨ad,rfl,rfl,ap⟩;refine yP [46] rfl ?_;have al:=h2.at (uX hxr).2.2;obtain⟨⟨bG,o1,o2⟩,_⟩:=al;exact zCJ 0 1 ap bG [x.vh] x.vh rfl rfl<|yT iR
   ·intro I1 hf af;refine dE []<|xO (uF 1 _ hy7) ?_;rintro aQ ax v2 k2 aE - ⟨p5,c5,bC,rfl,rfl,h5⟩ -;exact xM 0 rfl λbz aK hl3=>zFc (hx:=[]) rfl (aE.trans aK) rfl (zFd rfl) ⟨_,_,rfl,rfl,SL.of_frozen hl3 aK h5⟩
   ·intro I1 hf af;refine dE []<|xO (uF 2 _ hy8) ?_;rintro aQ ax v2 k2 aE - ⟨p5,c5,bC,rfl,rfl,h5⟩ -;exact xM 0 rfl λbz aK hl3=>zFc (hx:=[]) rfl (aE.trans aK) rfl (zFd rfl) ⟨_,_,rfl,rfl,SL.of_frozen hl3 aK h5⟩
   ·rintro I1 hf af _ _ ⟨p5,c5,rfl,rfl,h7⟩ _ _ ⟨p6,c6,rfl,rfl,h8⟩;refine yP [48,49] rfl<|tU [vS p5 y7.Coefs c5,vI y7.Const,vS p6 y8.Coefs c6,vI y8.Const] zA ?_;intro b4 hb4;have h15:RL I1 [vS p5 y7.Coefs c5,vI y7.Const,vS p6 y8.Coefs c6,vI y8.Const] ([y7,y8]:List zA):=⟨(cAff y7 p5 c5),_,rfl,rfl,(yL ⟨_,rfl,h7⟩),⟨(cAff y8 p6 c6),_,rfl,rfl,(yL ⟨_,rfl,h8⟩),rfl⟩⟩;exact xM 0 rfl λaU le01 hl01=>yK [] le01 ⟨_,rfl,rfl,SL.of_frozen hl01 le01 h15⟩
   rintro I1 hf af _ _ ⟨rfl,rfl⟩ _ _ ⟨b4,rfl,rfl,h16⟩ _ _ rfl;refine yP [47,50] rfl ?_;obtain⟨ccs4,k03,k04⟩:=h16;exact pC 78 2 0 rfl rfl rfl (iM af xhi) (.inl k03) k04 hl λaV bj bC h17=>uW (ah:=(hO zA (vS aV l bj) bC::hO Raw2 (vS p2 (xs.map NL.raw) c2) cs::hB aq (cRd y3 p3 c3)::hf)) rfl<|yK [hO zA (vS aV l bj) bC] iR ⟨_,_,_,rfl,rfl,h17⟩
  rintro I5 bw _ _ ⟨rfl,rfl⟩ _ _ ⟨rfl,rfl⟩ _ _ ⟨p6,c6,cs6,rfl,rfl,h6⟩;have h2:=iM bw h2;refine yP [5,39,41,51] rfl<|nA 1 rfl rfl rfl h2 hxr ?_;intro ad aL ap bG al;obtain⟨rfl,o1,o2⟩:=al;refine yF 15 [] [53] rfl<|tW (c:=[x.vl,vS p6 l c6]) (x':=(⟨x.vl,vS p6 l c6⟩:Raw2)) 1 1 rfl rfl rfl ap rfl rfl bG (by kernel_rfl) (by kernel_rfl) (by kernel_rfl) h2 hxr (by kernel_rfl) ⟨rfl,rfl,rfl⟩ λcs7 h7 aG=>uW (ah:=[hO zA (vS p6 l c6) cs6,hO Raw2 (vS p2 (xs.map NL.raw) c2) cs7,hB aq (cRd y3 p3 c3)]) rfl<|xM 0 rfl ?_;intro I6 bD hl6;have khi:=SL.of_frozen hl6 bD h6;have hpw:=zHg (k:=(W (((xs.map NL.raw).length:Int) - 1)).toNat) (r:=⟨x.vl,vS p6 l c6⟩) (d:=⟨x.lo,l⟩) (λj y hj hy=>((hfz j y hj hy).mono bw).mono bD) ⟨(klo.mono bw).mono bD,khi⟩;have h8:=hpw.rl;rw[<- jI h7] at h8;obtain rfl:=zC N;have eL:vS p2 (xs.map NL.raw) c2=vS p2 ((xs.map NL.d).set (W (((xs.map NL.raw).length:Int) - 1)).toNat (⟨x.lo,l⟩:zE)) c2:=by simp only[vS,cL,dh]
  rw[eL];exact uW (ah:=[hO zE (vS p2 ((xs.map NL.d).set (W (((xs.map NL.raw).length:Int) - 1)).toNat (⟨x.lo,l⟩:zE)) c2) cs7,hB aq (cRd y3 p3 c3)]) rfl<|yI [] [5] rfl<|zP<|zJ<|oA [(5,vS p2 ((xs.map NL.d).set (W (((xs.map NL.raw).length:Int) - 1)).toNat (⟨x.lo,l⟩:zE)) c2)]<|zAe h8 (yU ⟨_,rfl,(h4.mono bw).mono bD⟩)
 intro bd N;refine zAa xs bX ?_;intro I3 aK hfz;have ⟨h2,h4⟩:=m2 aK h2 h4;clear bX;refine yG [0,5,6,15,54] rfl<|zJ<|yD N ?_ ?_
 ·intro bI N;obtain⟨y7,hy7,N⟩:=zB N;obtain⟨x,hx,N⟩:=zB N;obtain⟨x,hx2,rfl⟩:=zFX hx;have hx:=hx2;clear hx2;have hxr:=zAy (f:=NL.raw) hx;refine zK<|yF 1 [] [56] rfl<|xO (uF 99 _ hy7) ?_;rintro I4 ax v2 k2 bi - ⟨p5,c5,bC,rfl,rfl,h5⟩ -;refine xM 0 rfl ?_;intro I5 bw hl5;have h7:=SL.of_frozen hl5 bw h5;refine tU (cAff y7 p5 c5) zA ?_;intro b4 hb4;have h15:RL I5 (cAff y7 p5 c5) ([y7]:List zA):=⟨(cAff y7 p5 c5),_,rfl,rfl,(yL ⟨_,rfl,h7⟩),rfl⟩;refine xM 0 rfl ?_;intro I6 bD hl6;have khi:SL I6 (vS (some ⟨b4,0,none⟩) ([y7]:List zA) 1) [y7]:=SL.of_frozen hl6 bD h15;have le:=(bi.trans bw).trans bD;have ⟨h2,h4⟩:=m2 le h2 h4;have hfz:=λx hx=>(hfz x hx).mono le;obtain⟨flo,fhi⟩:=hfz x (cM (uX hx).2.2);refine nA 0 rfl rfl rfl h2 hxr ?_;intro ad aL ap bG al;obtain⟨rfl,o1,o2⟩:=al;refine yF 5 [] [60] rfl<|tW (c:=[x.vl,vS (some ⟨b4,0,none⟩) ([y7]:List zA) 1]) (x':=(⟨x.vl,vS (some ⟨b4,0,none⟩) ([y7]:List zA) 1⟩:Raw2)) 0 1 rfl rfl rfl ap rfl rfl bG (by kernel_rfl) (by kernel_rfl) (by kernel_rfl) h2 hxr (by kernel_rfl) ⟨rfl,rfl,rfl⟩ ?_;intro cs7 h7 aG;have hpw:=zHg (k:=0) (r:=⟨x.vl,vS (some ⟨b4,0,none⟩) ([y7]:List zA) 1⟩) (d:=⟨x.lo,[y7]⟩) (λj y hj hy=>hfz y (cM hy)) ⟨flo,khi⟩;have h8:=hpw.rl;have e8:=jI h7;rw[show (0:Int).toNat=0 from rfl] at e8;rw[<- e8] at h8;obtain rfl:=zC N;have eL:vS p2 (xs.map NL.raw) c2=vS p2 ((xs.map NL.d).set 0 (⟨x.lo,[y7]⟩:zE)) c2:=by simp only[vS,cL,dh]
  rw[eL];exact uW (ah:=[hO zE (vS p2 ((xs.map NL.d).set 0 (⟨x.lo,[y7]⟩:zE)) c2) cs7,hB aq (cRd y3 p3 c3)]) rfl<|yI [] [5] rfl<|zP<|zJ<|oA [(5,vS p2 ((xs.map NL.d).set 0 (⟨x.lo,[y7]⟩:zE)) c2)]<|zAe h8 (yU ⟨_,rfl,h4⟩)
 intro bI N;have h8:=zFn hfz;rw[<- jI h2] at h8;rw[zMU];refine yG [0,5,15,61] rfl<|zJ<|yD N ?_ ?_
 ·intro bN N;obtain⟨z,hz,N⟩:=zB N;obtain rfl:=zC N;exact yH<|oA [(5,vS p2 (xs.map NL.d) c2)]<|zCN (xs.map NL.d) z hz iR h8 (λ_ _ _ h=>h) (λ_ _ h=>h) λI4 p6 c6 cs6 bi h9=>zR<|zP<|zJ<|oA [(5,vS p6 z c6)]<|zAe h9 (yU ⟨_,rfl,h4.mono bi⟩)
 intro bN N;obtain rfl:=zC N;exact zU<|zP<|zJ<|oA [(5,vS p2 (xs.map NL.d) c2)]<|zAe h8 (yU ⟨_,rfl,h4⟩)
def zCj(b0:Nat)(r:zQ×zL):KT:=λkk I' ah v=>
 ∃v0 k0,ah=[.blk b0 ⟨k0⟩]/\v=tupV [v0]/\(∃cs,v0=.agg ⟨cs⟩/\Rp.rep I' cs r.1)/\Rp.rep I' k0 r.2
def sG(r0:zL)(s:zQ):Option (zQ×zL):=do
 let y<-jJ s
 let (y2,y3)<-yW r0 40
 let (WriteArray,WriteSubs,ValueKind,ValueNum,ValueKids,x)<-(do
  if(y2==0) then
   let (y5,y6)<-oR y3 ([(⟨[69]⟩:Str),(⟨[]⟩:Str),(⟨[65,66]⟩:Str),(⟨[97]⟩:Str)]:List Str)
   pure (y5,y.Write.Subs,y.Value.Kind,y.Value.Num,y.Value.Kids,y6)
  else
   let (WriteSubs1,ValueKind1,ValueNum1,ValueKids1,x1)<-(do
    if(y2==1) then
     let y7<-nF 3
     let y8<-oE
     let l<-app 32 y.Write.Subs ([y7,y8]:List zA)
     pure (l,y.Value.Kind,y.Value.Num,y.Value.Kids,y3)
    else
     let (ValueKind2,ValueNum2,ValueKids2,x2)<-(do
      if(y2==2) then
       let (y10,y11)<-yV y3 ([0,7,1,4,2]:List Int)
       pure (y10,y.Value.Num,y.Value.Kids,y11)
      else
       let (ValueNum3,ValueKids3,x3)<-(do
        if(y2==3) then
         let (y13,y14)<-yV y3 ([100,(-1),1]:List Int)
         pure (y13,y.Value.Kids,y14)
        else
         let ValueKids4<-(do
          if(y2==4) then
           let l1<-app 112 y.Value.Kids ([(zF.mk 1 0 (zA.mk ([]:List Int) 0) (zI.mk (⟨[]⟩:Str) ([]:List zA)) ([]:List zF))]:List zF)
           pure (id l1)
          else
           pure y.Value.Kids
            : Option (List zF))
         pure (y.Value.Num,ValueKids4,y3)
          : Option (Int×List zF×zL))
       pure (y.Value.Kind,ValueNum3,ValueKids3,x3)
        : Option (Int×Int×List zF×zL))
     pure (y.Write.Subs,ValueKind2,ValueNum2,ValueKids2,x2)
      : Option (List zA×Int×Int×List zF×zL))
   pure (y.Write.Array,WriteSubs1,ValueKind1,ValueNum1,ValueKids1,x1)
    : Option (Str×List zA×Int×Int×List zF×zL))
 pure ((zQ.mk (zI.mk WriteArray WriteSubs) (zF.mk ValueKind ValueNum y.Value.Index y.Value.Read ValueKids)),x)
theorem eA:∀r0 s r,sG r0 s=some r->∀{I:Imm}{aq:Nat}{p c p1 c1 p2 c2 p3 c3 p4 c4},(S4 I p r0.b c)->(S4 I p1 s.Write.Subs c1)->(S4 I p2 s.Value.Index.Coefs c2)->(S4 I p3 s.Value.Read.Subs c3)->(S4 I p4 s.Value.Kids c4)->RT 75 [vP aq 0,vA (cStmt s p1 c1 p2 c2 p3 c3 p4 c4)] I [hB aq (cRd r0 p c)] (zCj aq r):=by
 intro r0 s r N I aq p c p1 c1 p2 c2 p3 c3 p4 c4 h h1 h2 h3 h4;unfold sG at N;refine yJ func75 λB=>?_;have H:=iS I;refine yE<|uH (cStmt s p1 c1 p2 c2 p3 c3 p4 c4) ?_;intro b hb;refine uB [vT ([]),z0,vI 0,vI 0,z0,vI 0,vT ([]),z0,z0] ?_;intro b1 hb1;refine yC rfl<|xA<|qA 1 [1] [(6,vA (cStmt s p1 c1 p2 c2 p3 c3 p4 c4))]<|bE N λy hy N=>xO (zBe s _ hy h1 h2 h3 h4) ?_;rintro I0 ax v2 k2 le - ⟨p5,c5,cs,p6,c6,p7,c7,p8,c8,aC,rfl,rfl,h5,h6,h7,h8⟩ -;have ⟨h,H⟩:=m2 le h H;refine uB [vT ([]),z0,vI 0,vI 0,z0,vI 0,vT ([]),z0,z0] ?_;intro b2 hb2;refine xP 0 (cStmt y p5 c5 p6 c6 p7 c7 p8 c8) rfl<|yC rfl<|zZ<|yE<|yF 1 [] [8] rfl<|qE (zX [5,0,1,2,3,4] (ah:=[hB aq (cRd r0 p c),hB b2 (cStmt y p5 c5 p6 c6 p7 c7 p8 c8),hO zA (vS p5 y.Write.Subs c5) cs,hO zF (vS p8 y.Value.Kids c8) aC,hB b1 [vT ([]),z0,vI 0,vI 0,z0,vI 0,vT ([]),z0,z0],hB b (cStmt s p1 c1 p2 c2 p3 c3 p4 c4)])) ?_;obtain⟨⟨y2,y3⟩,ay,N⟩:=zB N;refine rC (xR r0 40 _ ay h) rfl ?_;rintro aU ax v2 k2 af - ⟨v0,kk,rfl,rfl,rfl,h10⟩ -;have ⟨h5,h6,h7,h8,H⟩:=m5 af h5 h6 h7 h8 H;obtain⟨p9,c9,rfl,h11⟩:=yB h10;refine yC rfl<|wC<|yG [10] rfl<|zJ<|nO 5 rfl ?_;intro aQ aE hl0;have ap:At aQ ⟨b,0,none⟩ (cStmt s p1 c1 p2 c2 p3 c3 p4 c4):=At.of_blk hl0;have ⟨h11,h5,h6,h7,h8,H⟩:=m6 aE h11 h5 h6 h7 h8 H;obtain⟨o0,aB,aN⟩:=zB N;refine pZ (λI' ah m'=>∃(WriteArray:Str) (WriteSubs:List zA) (ValueKind:Int) (ValueNum:Int) (ValueKids:List zF) (x:zL) (aZ:Option Addr) (bh:Nat) (aO:List Value) (aV:Option Addr) (bj:Nat) (aT:List Value) (bB:Option Addr) (bo:Nat),o0=(WriteArray,WriteSubs,ValueKind,ValueNum,ValueKids,x)/\aQ.le I'/\(RL I' aO WriteSubs)/\(RL I' aT ValueKids)/\(S4 I' bB x.b bo)/\ah=[hB aq (cRd x bB bo),hB b2 [vT WriteArray.l,vS aZ WriteSubs bh,vI ValueKind,vI ValueNum,vS p6 y.Value.Index.Coefs c6,vI y.Value.Index.Const,vT y.Value.Read.Array.l,vS p7 y.Value.Read.Subs c7,vS aV ValueKids bj],hO zA (vS aZ WriteSubs bh) aO,hO zF (vS aV ValueKids bj) aT,hB b1 [vT ([]),z0,vI 0,vI 0,z0,vI 0,vT ([]),z0,z0]]/\m'=[(4,vP b1 0),(5,vP b2 0)]) ?_ ?_
 ·have H:=iS aQ;refine yD aB ?_ ?_
  ·intro hc N;refine zK<|yF 1 [] [12] rfl<|nV (rT [(⟨[69]⟩:Str),(⟨[]⟩:Str),(⟨[65,66]⟩:Str),(⟨[97]⟩:Str)]) ?_;intro b3 bK aK h16;have ⟨h11,h5,h8,H⟩:=m4 aK h11 h5 h8 H;obtain⟨⟨y5,y6⟩,aJ,N⟩:=zB N;refine rC (fY y3 ([(⟨[69]⟩:Str),(⟨[]⟩:Str),(⟨[65,66]⟩:Str),(⟨[97]⟩:Str)]:List Str) _ aJ h11 h16) rfl ?_;rintro bO ax v2 k2 bi - ⟨v02,kk1,rfl,rfl,rfl,h18⟩ -;have ⟨h5,h8,H⟩:=m3 bi h5 h8 H;obtain⟨bm,bu,rfl,h19⟩:=yB h18;exact yF 5 [] [16] rfl<|xP 1 [vT y5.l,vS p5 y.Write.Subs c5,vI y.Value.Kind,vI y.Value.Num,vS p6 y.Value.Index.Coefs c6,vI y.Value.Index.Const,vT y.Value.Read.Array.l,vS p7 y.Value.Read.Subs c7,vS p8 y.Value.Kids c8] rfl<|yC rfl<|yN<|zT ⟨_,_,_,_,_,_,_,_,_,_,_,_,_,_,(zC N).symm,H,h5,h8,h19,rfl,rfl⟩
  intro hc N;refine yG [17] rfl<|zJ ?_;obtain⟨aM,aA,hMc1⟩:=zB N;refine pZ (λI' ah m'=>∃(WriteSubs1:List zA) (ValueKind1:Int) (ValueNum1:Int) (ValueKids1:List zF) (x1:zL) (p14:Option Addr) (c14:Nat) (br:List Value) (p15:Option Addr) (c15:Nat) (bC:List Value) (p16:Option Addr) (c16:Nat),aM=(WriteSubs1,ValueKind1,ValueNum1,ValueKids1,x1)/\aQ.le I'/\(RL I' br WriteSubs1)/\(RL I' bC ValueKids1)/\(S4 I' p16 x1.b c16)/\ah=[hB aq (cRd x1 p16 c16),hB b2 [vT y.Write.Array.l,vS p14 WriteSubs1 c14,vI ValueKind1,vI ValueNum1,vS p6 y.Value.Index.Coefs c6,vI y.Value.Index.Const,vT y.Value.Read.Array.l,vS p7 y.Value.Read.Subs c7,vS p15 ValueKids1 c15],hO zA (vS p14 WriteSubs1 c14) br,hO zF (vS p15 ValueKids1 c15) bC,hB b1 [vT ([]),z0,vI 0,vI 0,z0,vI 0,vT ([]),z0,z0]]/\m'=[(4,vP b1 0),(5,vP b2 0)]) ?_ ?_
  ·have H:=iS aQ;refine yD aA ?_ ?_
   ·intro aF N;obtain⟨y7,bb,N⟩:=zB N;obtain⟨y8,bt,N⟩:=zB N;obtain⟨l,bH,N⟩:=zB N;refine wX [.p (vP b2 0) [],.p (vP b2 1) [],.p (vS p5 y.Write.Subs c5) [1],.x (eVAff y7),.x (λI' v hx=>∃p18 c18 cs7,v=vA (cAff y8 p18 c18)/\hx=[hO Int (vS p18 y8.Coefs c18) cs7]/\(RL I' cs7 y8.Coefs)),.x (λI' v hx=>∃b4,v=vS (some ⟨b4,0,none⟩) ([y7,y8]:List zA) 2/\hx=[]/\(SL I' (vS (some ⟨b4,0,none⟩) ([y7,y8]:List zA) 2) ([y7,y8]:List zA))),.x (λI' v hx=>∃p19 c19 cs8,v=vS p19 l c19/\hx=[hO zA (vS p19 l c19) cs8]/\(RL I' cs8 l))] [[],[(0,false)],[(1,false)],[],[],[(3,false),(4,true)],[(2,false),(5,false),(10,true)]] [hB aq (cRd y3 p9 c9),hB b2 (cStmt y p5 c5 p6 c6 p7 c7 p8 c8),hO zF (vS p8 y.Value.Kids c8) aC,hB b1 [vT ([]),z0,vI 0,vI 0,z0,vI 0,vT ([]),z0,z0]] [[hO zA (vS p5 y.Write.Subs c5) cs]] [(6,true)] (zX [0,1,3,4,2]) ?_ ?_
    ·refine Op<|Op<|Op<|Ox ?_<|Ox ?_<|Ox ?_<|Ox ?_<|On
     ·intro I1 hf af;refine dE [] ?_;have H:=iS I1;refine xO (gU 3 _ bb ) ?_;rintro I07 ax v2 k2 bw - ⟨v04,rfl,rfl,⟨cs6,rfl,h23⟩⟩ -;have H:=H.trans bw;obtain⟨p17,c17,rfl,h24⟩:=yO h23;exact yK [] H ⟨_,_,rfl,rfl,h24⟩
     ·intro I1 hf af;refine dE [] ?_;have H:=iS I1;refine xO (kH  _ bt ) ?_;rintro I08 ax v2 k2 bD - ⟨p18,c18,cs7,rfl,rfl,h25⟩ -;have H:=H.trans bD;exact yK [hO Int (vS p18 y8.Coefs c18) cs7] H ⟨_,_,_,rfl,rfl,h25⟩
     ·rintro I1 hf af _ _ ⟨p17,c17,rfl,rfl,h24⟩ _ _ ⟨p18,c18,cs7,rfl,rfl,h25⟩;refine yP [22,23] rfl ?_;have H:=iS I1;refine xM 0 rfl ?_;intro I09 le7 hl02;have h26:=SL.of_frozen hl02 le7 h25;have ⟨h24,H⟩:=m2 le7 h24 H;refine nV (rc y7 (yL ⟨_,rfl,h24⟩) (rc y8 (yL ⟨_,rfl,h26⟩) rN)) ?_;intro b4 bR le8 h28;have H:=H.trans le8;exact yK [] H ⟨_,rfl,rfl,h28⟩
     rintro I1 hf af _ _ ⟨rfl,rfl⟩ _ _ ⟨b4,rfl,rfl,h28⟩ _ _ rfl;refine yP [21,24] rfl ?_;have h5:=iM af h5;obtain⟨aL,k0,k01⟩:=h28;have h28:SL I1 (vS (some ⟨b4,0,none⟩) ([y7,y8]:List zA) 2) ([y7,y8]:List zA):=⟨_,k0,k01⟩;exact pC 78 2 0 rfl rfl rfl h5 (.inl k0) k01 bH λp19 c19 cs8 h29=>uW (ah:=(hO zA (vS p19 l c19) cs8::hB aq (cRd y3 p9 c9)::hB b2 (cStmt y p5 c5 p6 c6 p7 c7 p8 c8)::hO zF (vS p8 y.Value.Kids c8) aC::hB b1 [vT ([]),z0,vI 0,vI 0,z0,vI 0,vT ([]),z0,z0]::hf)) rfl<|yK [hO zA (vS p19 l c19) cs8] iR ⟨_,_,_,rfl,rfl,h29⟩
    rintro bV le9 _ _ ⟨p19,c19,cs8,rfl,rfl,h29⟩;refine yP [4,5,25] rfl ?_;have ⟨h11,h8,H⟩:=m3 le9 h11 h8 H;exact yF 9 [] [27] rfl<|xP 2 [vT y.Write.Array.l,vS p19 l c19,vI y.Value.Kind,vI y.Value.Num,vS p6 y.Value.Index.Coefs c6,vI y.Value.Index.Const,vT y.Value.Read.Array.l,vS p7 y.Value.Read.Subs c7,vS p8 y.Value.Kids c8] rfl<|yC rfl<|xV (zW [1,2,0,3,4] rfl (by decide))<|yN<|zT ⟨_,_,_,_,_,_,_,_,_,_,_,_,_,(zC N).symm,H,h29,h8,h11,rfl,rfl⟩
   intro aF N;refine yG [28] rfl<|zJ ?_;obtain⟨o02,ho02,hMc2⟩:=zB N;refine pZ (λI' ah m'=>∃(ValueKind2:Int) (ValueNum2:Int) (ValueKids2:List zF) (x2:zL) (p20:Option Addr) (c20:Nat) (cs9:List Value) (p21:Option Addr) (c21:Nat),o02=(ValueKind2,ValueNum2,ValueKids2,x2)/\aQ.le I'/\(RL I' cs9 ValueKids2)/\(S4 I' p21 x2.b c21)/\ah=[hB aq (cRd x2 p21 c21),hB b2 [vT y.Write.Array.l,vS p5 y.Write.Subs c5,vI ValueKind2,vI ValueNum2,vS p6 y.Value.Index.Coefs c6,vI y.Value.Index.Const,vT y.Value.Read.Array.l,vS p7 y.Value.Read.Subs c7,vS p20 ValueKids2 c20],hO zA (vS p5 y.Write.Subs c5) cs,hO zF (vS p20 ValueKids2 c20) cs9,hB b1 [vT ([]),z0,vI 0,vI 0,z0,vI 0,vT ([]),z0,z0]]/\m'=[(4,vP b1 0),(5,vP b2 0)]) ?_ ?_
   ·have H:=iS aQ;refine yD ho02 ?_ ?_
    ·intro bd N;refine zK<|yF 1 [] [30] rfl<|nV (rI [0,7,1,4,2]) ?_;intro b5 I013 le10 h33;have ⟨h11,h8,H⟩:=m3 le10 h11 h8 H;obtain⟨⟨y10,y11⟩,hy6,N⟩:=zB N;refine rC (xJ y3 ([0,7,1,4,2]:List Int) _ hy6 h11 h33) rfl ?_;rintro I014 ax v2 k2 le11 - ⟨v06,kk2,rfl,rfl,rfl,h35⟩ -;have ⟨h8,H⟩:=m2 le11 h8 H;obtain⟨p22,c22,rfl,h36⟩:=yB h35;exact yF 5 [] [34] rfl<|xP 1 [vT y.Write.Array.l,vS p5 y.Write.Subs c5,vI y10,vI y.Value.Num,vS p6 y.Value.Index.Coefs c6,vI y.Value.Index.Const,vT y.Value.Read.Array.l,vS p7 y.Value.Read.Subs c7,vS p8 y.Value.Kids c8] rfl<|yC rfl<|yN<|zT ⟨_,_,_,_,_,_,_,_,_,(zC N).symm,H,h8,h36,rfl,rfl⟩
    intro bd N;refine yG [35] rfl<|zJ ?_;obtain⟨o03,ho03,hMc3⟩:=zB N;refine pZ (λI' ah m'=>∃(ValueNum3:Int) (ValueKids3:List zF) (x3:zL) (p23:Option Addr) (c23:Nat) (cs10:List Value) (p24:Option Addr) (c24:Nat),o03=(ValueNum3,ValueKids3,x3)/\aQ.le I'/\(RL I' cs10 ValueKids3)/\(S4 I' p24 x3.b c24)/\ah=[hB aq (cRd x3 p24 c24),hB b2 [vT y.Write.Array.l,vS p5 y.Write.Subs c5,vI y.Value.Kind,vI ValueNum3,vS p6 y.Value.Index.Coefs c6,vI y.Value.Index.Const,vT y.Value.Read.Array.l,vS p7 y.Value.Read.Subs c7,vS p23 ValueKids3 c23],hO zA (vS p5 y.Write.Subs c5) cs,hO zF (vS p23 ValueKids3 c23) cs10,hB b1 [vT ([]),z0,vI 0,vI 0,z0,vI 0,vT ([]),z0,z0]]/\m'=[(4,vP b1 0),(5,vP b2 0)]) ?_ ?_
    ·have H:=iS aQ;refine yD ho03 ?_ ?_
     ·intro bI N;refine zK<|yF 1 [] [37] rfl<|nV (rI [100,(-1),1]) ?_;intro b6 I016 le12 h40;have ⟨h11,h8,H⟩:=m3 le12 h11 h8 H;obtain⟨⟨y13,y14⟩,hy7,N⟩:=zB N;refine rC (xJ y3 ([100,(-1),1]:List Int) _ hy7 h11 h40) rfl ?_;rintro I017 ax v2 k2 le13 - ⟨v08,kk3,rfl,rfl,rfl,h42⟩ -;have ⟨h8,H⟩:=m2 le13 h8 H;obtain⟨p25,c25,rfl,h43⟩:=yB h42;exact yF 5 [] [41] rfl<|xP 1 [vT y.Write.Array.l,vS p5 y.Write.Subs c5,vI y.Value.Kind,vI y13,vS p6 y.Value.Index.Coefs c6,vI y.Value.Index.Const,vT y.Value.Read.Array.l,vS p7 y.Value.Read.Subs c7,vS p8 y.Value.Kids c8] rfl<|yC rfl<|yN<|zT ⟨_,_,_,_,_,_,_,_,(zC N).symm,H,h8,h43,rfl,rfl⟩
     intro bI N;refine yG [42] rfl<|zJ ?_;obtain⟨o04,ho04,hMc4⟩:=zB N;refine pZ (λI' ah m'=>∃(ValueKids4:List zF) (p26:Option Addr) (c26:Nat) (cs11:List Value),o04=ValueKids4/\aQ.le I'/\(RL I' cs11 ValueKids4)/\ah=[hB aq (cRd y3 p9 c9),hB b2 [vT y.Write.Array.l,vS p5 y.Write.Subs c5,vI y.Value.Kind,vI y.Value.Num,vS p6 y.Value.Index.Coefs c6,vI y.Value.Index.Const,vT y.Value.Read.Array.l,vS p7 y.Value.Read.Subs c7,vS p26 ValueKids4 c26],hO zA (vS p5 y.Write.Subs c5) cs,hO zF (vS p26 ValueKids4 c26) cs11,hB b1 [vT ([]),z0,vI 0,vI 0,z0,vI 0,vT ([]),z0,z0]]/\m'=[(4,vP b1 0),(5,vP b2 0)]) ?_ ?_
     ·have H:=iS aQ;refine yD ho04 ?_ ?_
      ·intro bN N;refine zK<|qA 4 [1] [(46,vS p8 y.Value.Kids c8),(47,vA [vI 1,vI 0,z0,vI 0,vT ([]),z0,z0])]<|tU [vI 1,vI 0,z0,vI 0,vT ([]),z0,z0] zF ?_;intro b7 hb7;have h45:RL aQ [vI 1,vI 0,z0,vI 0,vT ([]),z0,z0] ([(zF.mk 1 0 (zA.mk ([]:List Int) 0) (zI.mk (⟨[]⟩:Str) ([]:List zA)) ([]:List zF))]:List zF):=⟨[vI 1,vI 0,z0,vI 0,vT ([]),z0,z0],_,rfl,rfl,(xT ⟨_,_,_,rfl,(SL.nil _),(SL.nil _),(SL.nil _)⟩),rfl⟩;obtain⟨l1,hy8,N⟩:=zB N;refine pC 81 7 4 rfl rfl rfl h8 (.inr ⟨0,rfl⟩) h45 hy8 ?_;intro p27 c27 cs12 h46;exact qE (zX [1,2,3,4,5] (ah:=[hB aq (cRd y3 p9 c9),hB b2 (cStmt y p5 c5 p6 c6 p7 c7 p8 c8),hO zA (vS p5 y.Write.Subs c5) cs,hO zF (vS p27 l1 c27) cs12,hB b1 [vT ([]),z0,vI 0,vI 0,z0,vI 0,vT ([]),z0,z0]]))<|yF 8 [] [51] rfl<|xP 1 [vT y.Write.Array.l,vS p5 y.Write.Subs c5,vI y.Value.Kind,vI y.Value.Num,vS p6 y.Value.Index.Coefs c6,vI y.Value.Index.Const,vT y.Value.Read.Array.l,vS p7 y.Value.Read.Subs c7,vS p27 l1 c27] rfl<|yC rfl<|yN<|zT ⟨_,_,_,_,(zC N).symm,H,h46,rfl,rfl⟩
      intro bN N;exact zU<|yN<|zT ⟨_,_,_,_,(zC N).symm,H,h8,rfl,rfl⟩
     rintro I018 ax m2 ⟨ValueKids4,p26,c26,cs11,heq,le14,h44,rfl,rfl⟩;subst o04;have ⟨h11,H⟩:=m2 le14 h11 H;exact yN<|zT ⟨_,_,_,_,_,_,_,_,(zC hMc4).symm,H,h44,h11,rfl,rfl⟩
    rintro I015 ax m2 ⟨ValueNum3,ValueKids3,x3,p23,c23,cs10,p24,c24,heq1,le15,h37,h38,rfl,rfl⟩;subst o03;have H:=H.trans le15;exact yN<|zT ⟨_,_,_,_,_,_,_,_,_,(zC hMc3).symm,H,h37,h38,rfl,rfl⟩
   rintro bU ax m2 ⟨ValueKind2,ValueNum2,ValueKids2,x2,p20,c20,cs9,p21,c21,heq2,le16,h30,h31,rfl,rfl⟩;subst o02;have ⟨h5,H⟩:=m2 le16 h5 H;exact yN<|zT ⟨_,_,_,_,_,_,_,_,_,_,_,_,_,(zC hMc2).symm,H,h5,h30,h31,rfl,rfl⟩
  rintro I06 ax m2 ⟨WriteSubs1,ValueKind1,ValueNum1,ValueKids1,x1,p14,c14,br,p15,c15,bC,p16,c16,heq3,le17,h20,h21,h22,rfl,rfl⟩;subst aM;have H:=H.trans le17;exact yN<|zT ⟨_,_,_,_,_,_,_,_,_,_,_,_,_,_,(zC hMc1).symm,H,h20,h21,h22,rfl,rfl⟩
 rintro bz ax m2 ⟨WriteArray,WriteSubs,ValueKind,ValueNum,ValueKids,x,aZ,bh,aO,aV,bj,aT,bB,bo,heq4,le18,h12,h13,h14,rfl,rfl⟩;subst o0;have ⟨h6,h7⟩:=m2 le18 h6 h7;refine zP<|xA<|qA 1 [1] [(52,vA [vT WriteArray.l,vS aZ WriteSubs bh,vI ValueKind,vI ValueNum,vS p6 y.Value.Index.Coefs c6,vI y.Value.Index.Const,vT y.Value.Read.Array.l,vS p7 y.Value.Read.Subs c7,vS aV ValueKids bj])]<|xP 4 [vT WriteArray.l,vS aZ WriteSubs bh,vI ValueKind,vI ValueNum,vS p6 y.Value.Index.Coefs c6,vI y.Value.Index.Const,vT y.Value.Read.Array.l,vS p7 y.Value.Read.Subs c7,vS aV ValueKids bj] rfl<|yC rfl<|xF<|xB 2 rfl ?_;intro I019 le19 hl06;have h47:=SL.of_frozen hl06 le19 h12;have ⟨h14,h6,h7,h13⟩:=m4 le19 h14 h6 h7 h13;refine xB 2 rfl ?_;intro I020 le20 hl07;have h48:=SL.of_frozen hl07 le20 h13;have ⟨h14,h47,h6,h7⟩:=m4 le20 h14 h47 h6 h7;obtain rfl:=zC aN;exact xC ⟨_,_,(.cell 2 rfl rfl (by kernel_rfl) ResV.nil),(zW [0] rfl (by decide)),⟨_,_,rfl,rfl,⟨_,rfl,(wY ⟨_,_,_,_,rfl,h47,h6,h7,h48⟩)⟩,(yU ⟨_,rfl,h14⟩)⟩⟩
end Go.LN
