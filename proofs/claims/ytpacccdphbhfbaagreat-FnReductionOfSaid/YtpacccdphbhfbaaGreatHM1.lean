/- Helper of the proof (see the last text). -/
import Derived.Test.YtpacccdphbhfbaaGreatLnN
import Derived.Test.YtpacccdphbhfbaaGreatTryzShelf
set_option linter.unusedVariables false
set_option linter.unusedSimpArgs false
namespace Go.LN
open Go.Proofs
set_option maxRecDepth 20000
abbrev eS {α:Type} [Rp α] (l:List α):Imm→Value→List HA→Prop:=fun I' v hx=>∃ p c,v=vS p l c∧hx=[]∧S4 I' p l c
abbrev ePExpr (x:zD):Imm→Value→List HA→Prop:=fun I' v hx=>∃ ad p0 c0 p1 c1 p2 c2,v=.pointer (some ad)∧hx=[]∧At I' ad (cExpr x p0 c0 p1 c1 p2 c2)∧S4 I' p0 x.Index.Coefs c0∧S4 I' p1 x.Read.Subs c1∧S4 I' p2 x.Kids c2
abbrev eQExpr (k:Nat) (x:zD):Imm→Value→List HA→Prop:=fun I' v hx=>∃ ad p0 c0 p1 c1 p2 c2,v=.pointer (some (ad.add k))∧hx=[]∧At I' ad (cExpr x p0 c0 p1 c1 p2 c2)∧S4 I' p0 x.Index.Coefs c0∧S4 I' p1 x.Read.Subs c1∧S4 I' p2 x.Kids c2
abbrev eVExpr (x:zD):Imm→Value→List HA→Prop:=fun I' v hx=>∃ p0 c0 p1 c1 p2 c2,v=vA (cExpr x p0 c0 p1 c1 p2 c2)∧hx=[]∧S4 I' p0 x.Index.Coefs c0∧S4 I' p1 x.Read.Subs c1∧S4 I' p2 x.Kids c2
abbrev ePStmt (x:zK):Imm→Value→List HA→Prop:=fun I' v hx=>∃ ad p0 c0 p1 c1 p2 c2 p3 c3,v=.pointer (some ad)∧hx=[]∧At I' ad (cStmt x p0 c0 p1 c1 p2 c2 p3 c3)∧S4 I' p0 x.Write.Subs c0∧S4 I' p1 x.Value.Index.Coefs c1∧S4 I' p2 x.Value.Read.Subs c2∧S4 I' p3 x.Value.Kids c3
abbrev eVStmt (x:zK):Imm→Value→List HA→Prop:=fun I' v hx=>∃ p0 c0 p1 c1 p2 c2 p3 c3,v=vA (cStmt x p0 c0 p1 c1 p2 c2 p3 c3)∧hx=[]∧S4 I' p0 x.Write.Subs c0∧S4 I' p1 x.Value.Index.Coefs c1∧S4 I' p2 x.Value.Read.Subs c2∧S4 I' p3 x.Value.Kids c3
abbrev ePAff (x:zA):Imm→Value→List HA→Prop:=fun I' v hx=>∃ ad p0 c0,v=.pointer (some ad)∧hx=[]∧At I' ad (cAff x p0 c0)∧S4 I' p0 x.Coefs c0
abbrev eVAff (x:zA):Imm→Value→List HA→Prop:=fun I' v hx=>∃ p0 c0,v=vA (cAff x p0 c0)∧hx=[]∧S4 I' p0 x.Coefs c0
abbrev eVArr (x:zN):Imm→Value→List HA→Prop:=fun I' v hx=>∃ p0 c0,v=vA (cArr x p0 c0)∧hx=[]∧S4 I' p0 x.Dims c0
abbrev ePPart (x:zS):Imm→Value→List HA→Prop:=fun I' v hx=>∃ ad p0 c0 p1 c1,v=.pointer (some ad)∧hx=[]∧At I' ad (cPart x p0 c0 p1 c1)∧S4 I' p0 x.Nest c0∧S4 I' p1 x.Body c1
abbrev eVPart (x:zS):Imm→Value→List HA→Prop:=fun I' v hx=>∃ p0 c0 p1 c1,v=vA (cPart x p0 c0 p1 c1)∧hx=[]∧S4 I' p0 x.Nest c0∧S4 I' p1 x.Body c1
abbrev ePLoop (x:zG):Imm→Value→List HA→Prop:=fun I' v hx=>∃ ad p0 c0 p1 c1,v=.pointer (some ad)∧hx=[]∧At I' ad (cLoop x p0 c0 p1 c1)∧S4 I' p0 x.Lo c0∧S4 I' p1 x.Hi c1
abbrev eQLoop (k:Nat) (x:zG):Imm→Value→List HA→Prop:=fun I' v hx=>∃ ad p0 c0 p1 c1,v=.pointer (some (ad.add k))∧hx=[]∧At I' ad (cLoop x p0 c0 p1 c1)∧S4 I' p0 x.Lo c0∧S4 I' p1 x.Hi c1
abbrev eVLoop (x:zG):Imm→Value→List HA→Prop:=fun I' v hx=>∃ p0 c0 p1 c1,v=vA (cLoop x p0 c0 p1 c1)∧hx=[]∧S4 I' p0 x.Lo c0∧S4 I' p1 x.Hi c1
abbrev ePAccess (x:zF):Imm→Value→List HA→Prop:=fun I' v hx=>∃ ad p0 c0,v=.pointer (some ad)∧hx=[]∧At I' ad (cAccess x p0 c0)∧S4 I' p0 x.Subs c0
abbrev eVAccess (x:zF):Imm→Value→List HA→Prop:=fun I' v hx=>∃ p0 c0,v=vA (cAccess x p0 c0)∧hx=[]∧S4 I' p0 x.Subs c0
instance {i j:Imm}{raws:List Raw2}{parts:List zS}{vN vB:Value}{nl:List zG}{bl:List zK}:Mo (LP i raws parts vN nl vB bl) i j (LP j raws parts vN nl vB bl):=⟨fun h x=>x.mono h⟩
abbrev RT:=Ret Tryz.prog
def zBH (r:zJ):KT:=fun kk I' hs' v=>
  ∃ b_0 a0_0 c0_0,hs'=[.blk b_0 ⟨[.slice a0_0 r.b.length c0_0,.int .i64 r.p]⟩]∧v=tupV [(.pointer (some ⟨b_0,0,none⟩))]∧SL I' (.slice a0_0 r.b.length c0_0) r.b
def nP (code:(List UInt8)):Option (zJ):=do
 let code1←(do
   if (decide ((code.length:Int) > 2000)) then
    let l←slc code 0 2000
    pure (id l)
   else
    pure (id code)
     : Option (List UInt8))
 pure (zJ.mk code1 0)
theorem zC2:∀ code r,nP code=some r→∀ {I:Imm}{p c},(S4 I p code c)→RT 41 [vS p code c] I [] (zBH  r):=by
 intro code r N I p c h;unfold nP at N;refine yI Tryz.func41 fun B=>?_;have H:=iS I;refine uA []<|yE<|yO [5] rfl<|zI ?_;obtain ⟨o0,ho0,hMc⟩:=zC N;refine oH (fun I' hs' m'=>∃ (code1:List UInt8) (p1:Option Addr) (c1:Nat),o0=code1∧I.le I'∧(S4 I' p1 code1 c1)∧hs'=[]∧m'=[(0,vS p1 code1 c1)]) ?_ ?_
 · have H:=iS I;refine yH ho0 ?_ ?_
   · intro hc N;refine zM<|yF 1 [] [6] rfl<|bE N fun l hy N=>zJP rfl h hy ?_;intro v0 h2;obtain ⟨p2,c2,rfl⟩:=h2.form;exact yL [] [0] rfl<|yM<|zR ⟨_,_,_,(zB N).symm,H,h2,rfl,rfl⟩
   intro hc N;exact zT<|yM<|zR ⟨_,_,_,(zB N).symm,H,h,rfl,rfl⟩
 rintro I0 hs2 m2 ⟨code1,p1,c1,heq,le,h1,rfl,rfl⟩;subst o0;refine yX<|yF 2 [] [9] rfl<|uG [vS p1 code1 c1,vI 0] ?_;intro b hb;refine yL [] [2] rfl<|zI<|yS ?_;obtain rfl:=zB hMc;exact xB ⟨_,_,(.tmp rfl ResV.nil),(zX [0] rfl (by decide)),⟨_,_,_,rfl,rfl,h1⟩⟩
def dM (b0:Nat) (r:Int×zJ):KT:=fun kk I' hs' v=>
  ∃ v0 k0,hs'=[.blk b0 ⟨k0⟩]∧v=tupV [v0]∧v0=.int .i64 r.1∧Rp.rep I' k0 r.2
def yU (r0:zJ) (n0:Int):Option (Int×zJ):=do
 let t24←(do
   if (decide (n0 < 1)) then
    pure true
   else
    pure ((r0.b.length:Int) == 0)
     : Option Bool)
 if t24 then
  pure (0,(zJ.mk r0.b (W (r0.p + 1))))
 else
  if (decide ((W ((W (r0.p + 1)) - 1)) < (r0.b.length:Int))) then
   let x←idx r0.b (W ((W (r0.p + 1)) - 1))
   let q←rem (W (x.toNat:Int)) n0
   pure (q,(zJ.mk r0.b (W (r0.p + 1))))
  else
   let q1←rem (W ((W (r0.p + 1)) - 1)) (r0.b.length:Int)
   let x1←idx r0.b q1
   let q2←rem (W ((W ((W ((W (r0.p + 1)) - 1)) * 7)) + 3)) (r0.b.length:Int)
   let x2←idx r0.b q2
   let q3←quo (W ((W (r0.p + 1)) - 1)) (r0.b.length:Int)
   let q4←rem (W (BitVec.ofInt IntKind.i64.bits (W ((W ((W ((W ((W (x1.toNat:Int)) * 131)) + (W ((W (x2.toNat:Int)) * 1117)))) + (W ((W ((W (r0.p + 1)) - 1)) * 29)))) + (W (q3 * 53)))) ^^^ BitVec.ofInt IntKind.i64.bits (W ((W ((W ((W ((W ((W (x1.toNat:Int)) * 131)) + (W ((W (x2.toNat:Int)) * 1117)))) + (W ((W ((W (r0.p + 1)) - 1)) * 29)))) + (W (q3 * 53)))).tdiv 64))).toNat) n0
   pure (q4,(zJ.mk r0.b (W (r0.p + 1))))
theorem xL:∀ r0 n0 r,yU r0 n0=some r→∀ {I:Imm}{r01:Nat}{p c},(S4 I p r0.b c)→RT 43 [vP r01 0,vI n0] I [hB r01 (cRd r0 p c)] (dM r01 r):=by
 intro r0 n0 r N I r01 p c h;unfold yU at N;refine yI Tryz.func43 fun B=>?_;have H:=iS I;refine uA []<|yX<|yF 8 [0] [12,14] rfl<|yZ 0 [vS p r0.b c,vI (W (r0.p + 1))] rfl<|zZ rfl<|yE<|yA ?_;refine wI N [hB r01 [vS p r0.b c,vI (W (r0.p + 1))]] (fun t24=>[(0,vP r01 0),(1,vI n0),(24,.bool t24)]) (fun o0 ho0=>?_) ?_
 · have H:=iS I;refine zM<|yF 3 [] [17] rfl<|xP [17] ho0 ?_ ?_
   · intro hc N;exact wC [] [(24,vY)]<|yM<|zR (ct N H)
   intro hc N;exact yL [0] [24] rfl<|yM<|zR (ct N H)
 intro t24 I0 le hMc;have h:=h.mono le;refine zI<|yH hMc ?_ ?_
 · intro hc1 N;refine yO [4] rfl<|xE<|zH ?_;obtain rfl:=zB N;exact xB ⟨_,_,(.tmp rfl ResV.nil),(zX [0] rfl (by decide)),⟨_,_,rfl,rfl,rfl,(yR ⟨_,rfl,h⟩)⟩⟩
 intro hc1 N;refine zT<|yX<|yL [0] [5] rfl<|yE<|yG<|yL [0] [36] rfl<|zI<|yH N ?_ ?_
 · intro hc2 N;refine yG<|yF 5 [0] [40,41] rfl<|bE N fun x hy N=>wF rfl rfl h hy ?_;intro ad ccs hat hrep;obtain rfl:=hrep;refine xT 0 hat [.int .u8 (x.toNat:Int)] (.int .u8 (x.toNat:Int)) rfl<|yF 9 [] [44,45] rfl<|bE N fun q hy1 N=>zJR rfl hy1<|yL [] [4] rfl<|xE<|zH ?_;obtain rfl:=zB N;exact xB ⟨_,_,(.tmp rfl ResV.nil),(zX [0] rfl (by decide)),⟨_,_,rfl,rfl,rfl,(yR ⟨_,rfl,h⟩)⟩⟩
 intro hc2 N;refine zT<|yE<|mU (by kernel_rfl) (by kernel_rfl)<|gN 10 [0,0] [50,51,56] rfl<|bE N fun q1 hy2 N=>zI1 rfl hy2<|bE N fun x1 hy3 N=>dJ rfl rfl h hy3 ?_;intro ad1 ccs1 hat1 hrep1;obtain rfl:=hrep1;refine dI 0 hat1 [.int .u8 (x1.toNat:Int)] (.int .u8 (x1.toNat:Int)) rfl<|gN 27 [0,0] [61,65,68,73] rfl<|bE N fun q2 hy4 N=>zI1 rfl hy4<|bE N fun x2 hy5 N=>dJ rfl rfl h hy5 ?_;intro ad2 ccs2 hat2 hrep2;obtain rfl:=hrep2;refine dI 0 hat2 [.int .u8 (x2.toNat:Int)] (.int .u8 (x2.toNat:Int)) rfl<|gN 42 [0] [82,83,88] rfl<|bE N fun q3 hy6 N=>zJQ rfl hy6<|zFQ [] [6] rfl<|sI [6] rfl<|yX<|yF 2 [] [96,97] rfl<|bE N fun q4 hy7 N=>zJR rfl hy7<|yL [] [4] rfl<|zI<|yS ?_;obtain rfl:=zB N;exact xB ⟨_,_,(.tmp rfl ResV.nil),(zX [0] rfl (by decide)),⟨_,_,rfl,rfl,rfl,(yR ⟨_,rfl,h⟩)⟩⟩
def zAa (b0:Nat) (r:Str×zJ):KT:=fun kk I' hs' v=>
  ∃ v0 k0,hs'=[.blk b0 ⟨k0⟩]∧v=tupV [v0]∧v0=.string ⟨⟨r.1.l⟩⟩∧Rp.rep I' k0 r.2
def sX (r0:zJ) (list:(List Str)):Option (Str×zJ):=do
 let (y1,y2)←yU r0 (list.length:Int)
 let x←idx list y1
 pure (x,y2)
theorem mD:∀ r0 list r,sX r0 list=some r→∀ {I:Imm}{r01:Nat}{p c p1 c1},(S4 I p r0.b c)→(S4 I p1 list c1)→RT 95 [vP r01 0,vS p1 list c1] I [hB r01 (cRd r0 p c)] (zAa r01 r):=by
 intro r0 list r N I r01 p c p1 c1 h h1;unfold sX at N;refine yI Tryz.func95 fun B=>uA []<|yX<|yF 4 [] [5,6,8] rfl ?_;obtain ⟨⟨y1,y2⟩,hy,N⟩:=zC N;refine rA (xL r0 (list.length:Int) _ hy h) rfl ?_;rintro I0 hs2 v2 k2 le - ⟨v0,kk,rfl,rfl,rfl,h3⟩ -;have h1:=h1.mono le;obtain ⟨p2,c2,rfl,h4⟩:=zY h3;obtain ⟨x,hy1,N⟩:=zC N;refine wF rfl rfl h1 hy1 ?_;intro ad ccs hat hrep;obtain rfl:=hrep;refine xT 0 hat [vT x.l] (vT x.l) rfl<|yL [] [4] rfl<|zI<|yS ?_;obtain rfl:=zB N;exact xB ⟨_,_,(.tmp rfl ResV.nil),(zX [0] rfl (by decide)),⟨_,_,rfl,rfl,rfl,(yR ⟨_,rfl,h4⟩)⟩⟩
def tF (r:zA):KT:=fun kk I' hs' v=>
  ∃ v0,hs'=[]∧v=tupV [v0]∧(∃ cs,v0=.agg ⟨cs⟩∧Rp.rep I' cs r)
def uP (a0:zA):Option (zA):=do
 if ((a0.Coefs.length:Int) == 0) then
  pure (zA.mk ([]:List Int) a0.Const)
 else
  let l←app 8 ([]:List Int) a0.Coefs
  pure (zA.mk l a0.Const)
theorem jF:∀ a0 r,uP a0=some r→∀ {I:Imm}{p c},(S4 I p a0.Coefs c)→RT 206 [vA (cAff a0 p c)] I [] (tF  r):=by
 intro a0 r N I p c h;unfold uP at N;refine yI Tryz.func206 fun B=>yG<|uG (cAff a0 p c) ?_;intro b hb;refine wK [z0,vI 0] ?_;intro b1 hb1;refine zZ rfl<|yE<|yG<|yL [1] [6] rfl<|zI<|yH N ?_ ?_
 · intro hc N;refine yG<|sH 3 [1] [(9,vA [z0,vI a0.Const])]<|yZ 0 [z0,vI a0.Const] rfl<|zZ rfl<|xE<|zH ?_;obtain rfl:=zB N;exact xB ⟨_,_,(.cell 0 rfl rfl (by kernel_rfl) ResV.nil),zL,⟨_,rfl,rfl,⟨_,rfl,(yC ⟨_,rfl,(SL.nil _)⟩)⟩⟩⟩
 intro hc N;refine zT<|yE<|bE N fun l hy N=>wZ [.x (fun I' v hx=>∃ b2,v=vS (some ⟨b2,0,none⟩) ([]:List Int) 0∧hx=[hO Int (vS (some ⟨b2,0,none⟩) ([]:List Int) 0) []]∧(RL I' [] ([]:List Int))),.p (vP b 0) [],.p (vS p a0.Coefs c) [1],.x (fun I' v hx=>∃ p1 c1 cs,v=vS p1 l c1∧hx=[hO Int (vS p1 l c1) cs]∧(RL I' cs l)),.p (vP b 1) [],.p (vI a0.Const) [1],.x (fun I' v hx=>∃ p11 c11 cs1,v=vA [vS p11 l c11,vI a0.Const]∧hx=[hO Int (vS p11 l c11) cs1]∧(RL I' cs1 l))] [[],[],[(1,false)],[(0,true),(2,false)],[],[(4,false)],[(3,true),(5,false)]] [hB b1 [z0,vI 0],hB b (cAff a0 p c)] [] [(6,true)] (yB [0,1]) ?_ ?_
 · refine Ox ?_<|Op<|Op<|Ox ?_<|Op<|Op<|Ox ?_<|On
   · intro I1 hf le1;refine jM []<|qB [] Int ?_;intro b2 hb2;have h1:RL I1 [] ([]:List Int):=rfl;exact yW [hO Int (vS (some ⟨b2,0,none⟩) ([]:List Int) 0) []] iR ⟨_,rfl,rfl,h1⟩
   · rintro I1 hf le1 _ _ ⟨b2,rfl,rfl,h1⟩;refine yY [10,12] rfl ?_;have h:=h.mono le1;obtain ⟨ccs,k0,k01⟩:=h;have h:SL I1 (vS p a0.Coefs c) a0.Coefs:=⟨_,k0,k01⟩;exact nO 3 1 0 rfl rfl rfl h1 (.inl k0) k01 hy fun p1 c1 cs h2=>qI (hs':=(hO Int (vS p1 l c1) cs::hB b1 [z0,vI 0]::hB b (cAff a0 p c)::hf)) rfl<|yW [hO Int (vS p1 l c1) cs] iR ⟨_,_,_,rfl,rfl,h2⟩
   rintro I1 hf le1 _ _ ⟨p1,c1,cs,rfl,rfl,h2⟩;exact yY [13,15] rfl<|qE 7 [(16,vA [vS p1 l c1,vI a0.Const])]<|yW [hO Int (vS p1 l c1) cs] iR ⟨_,_,_,rfl,rfl,h2⟩
 rintro I0 le _ _ ⟨p11,c11,cs1,rfl,rfl,h21⟩;refine yY [2,16] rfl ?_;refine yZ 1 [vS p11 l c11,vI a0.Const] rfl<|zZ rfl<|xE<|xN 0 rfl ?_;intro I01 le1 hl0;have h3:=SL.of_frozen hl0 le1 h21;obtain rfl:=zB N;exact xB ⟨_,_,(.cell 0 rfl rfl (by kernel_rfl) ResV.nil),zL,⟨_,rfl,rfl,⟨_,rfl,(yC ⟨_,rfl,h3⟩)⟩⟩⟩
def eI (r:zF):KT:=fun kk I' hs' v=>
  ∃ a0_1 c0_1 s0_1,hs'=[.osl (.slice a0_1 r.Subs.length c0_1) (Rp.sz zA) s0_1]∧v=tupV [(.agg ⟨[.string ⟨⟨r.Array.l⟩⟩,.slice a0_1 r.Subs.length c0_1]⟩)]∧RepL (Rp.rep I') (Rp.sz zA) s0_1 r.Subs
def xR (a0:zF) (i:Int) (Subs:List zA):Option (List zA):=do
 if (decide (i < (a0.Subs.length:Int))) then
  let x←idx a0.Subs i
  let y←uP x
  let l←app 32 Subs ([y]:List zA)
  xR a0 (W (i + 1)) l
 else
  pure (id Subs)
 partial_fixpoint
theorem fR (a0:zF):∀ (i:Int) (Subs:List zA) (o:List zA),xR a0 i Subs=some o→∀ {B}{I0 I:Imm}{Q p c}{b:Nat}{b1:Nat}{b2:Nat}{p1 c1 cs},I0.le I→(S4 I p a0.Subs c)→(RL I cs Subs)→NG Q→NO Q→(∀ (I':Imm) (Subs1:List zA) (p2:Option Addr) (c2:Nat) (cs1:List Value),o=Subs1→I0.le I'→(RL I' cs1 Subs1)→T 27 B Q (.exit 0) I' [hO zA (vS p2 Subs1 c2) cs1,hB b2 [vT a0.Array.l,vS p2 Subs1 c2],hB b1 [vT ([]),z0]] [(2,vP b1 0),(3,vP b2 0)])→J Tryz.prog 27 B (nav (bodyOf Tryz.f160) [1,1,0,1,0]) Q I [hO zA (vS p1 Subs c1) cs,hB b2 [vT a0.Array.l,vS p1 Subs c1],hB b1 [vT ([]),z0],hB b (cAccess a0 p c)] [(1,vP b 0),(2,vP b1 0),(3,vP b2 0),(4,vI i)]:=by
 refine xR.partial_correctness a0 _ fun self ih i Subs o N B I0 I Q p c b b1 b2 p1 c1 cs H h h2 hg ho hx=>xH hg ho<|yA<|yG<|yL [3] [12] rfl<|zI<|yH N ?_ ?_
 · intro hc N;refine zT<|yE<|yN ?_;obtain ⟨x,hy,N⟩:=zC N;obtain ⟨y,hy1,N⟩:=zC N;obtain ⟨l,hy2,N⟩:=zC N;refine wZ [.p (vP b2 1) [],.p (vS p1 Subs c1) [0],.p (vP b 1) [],.p (vS p a0.Subs c) [2],.p (vI i) [],.x (ePAff x),.x (eVAff x),.x (eVAff y),.x (fun I' v hx=>∃ b3,v=vS (some ⟨b3,0,none⟩) ([y]:List zA) 1∧hx=[]∧(SL I' (vS (some ⟨b3,0,none⟩) ([y]:List zA) 1) ([y]:List zA))),.x (fun I' v hx=>∃ p5 c5 cs3,v=vS p5 l c5∧hx=[hO zA (vS p5 l c5) cs3]∧(RL I' cs3 l))] [[],[(0,false)],[],[(2,false)],[],[(3,false),(4,false)],[(5,false)],[(6,false)],[(7,false)],[(1,false),(8,false),(12,true)]] [hB b2 [vT a0.Array.l,vS p1 Subs c1],hB b1 [vT ([]),z0],hB b (cAccess a0 p c)] [[hO zA (vS p1 Subs c1) cs]] [(9,true)] (yB [1,2,3,0]) ?_ ?_
   · refine Op<|Op<|Op<|Op<|Op<|Ox ?_<|Ox ?_<|Ox ?_<|Ox ?_<|Ox ?_<|On
     · intro I1 hf le1;refine yY [18,19] rfl ?_;have h:=h.mono le1;refine wF rfl rfl h hy ?_;intro ad ccs hat hrep;obtain ⟨p3,c3,rfl,h4⟩:=yD hrep;exact yW [] iR ⟨_,_,_,rfl,rfl,hat,h4⟩
     · rintro I1 hf le1 _ _ ⟨ad,p3,c3,rfl,rfl,hat,h4⟩;exact yY [20] rfl<|xT 0 hat (cAff x p3 c3) (vA (cAff x p3 c3)) rfl<|yW [] iR ⟨_,_,rfl,rfl,h4⟩
     · rintro I1 hf le1 _ _ ⟨p31,c31,rfl,rfl,h41⟩;refine yY [21] rfl ?_;have H:=iS I1;refine xM (jF x _ hy1 h41) ?_;rintro I0 hs2 v2 k2 le - ⟨v01,rfl,rfl,⟨cs2,rfl,h5⟩⟩ -;have H:=H.trans le;obtain ⟨p4,c4,rfl,h6⟩:=yD h5;exact yW [] H ⟨_,_,rfl,rfl,h6⟩
     · rintro I1 hf le1 _ _ ⟨p4,c4,rfl,rfl,h6⟩;refine yY [22] rfl ?_;have H:=iS I1;refine nM (rc y (yC ⟨_,rfl,h6⟩) rN) ?_;intro b3 I01 le1 h8;have H:=H.trans le1;exact yW [] H ⟨_,rfl,rfl,h8⟩
     rintro I1 hf le1 _ _ ⟨rfl,rfl⟩ _ _ ⟨b3,rfl,rfl,h8⟩ _ _ rfl;refine yY [16,23] rfl ?_;have h2:=iM le1 h2;obtain ⟨ccs1,k0,k01⟩:=h8;have h8:SL I1 (vS (some ⟨b3,0,none⟩) ([y]:List zA) 1) ([y]:List zA):=⟨_,k0,k01⟩;exact nO 43 2 0 rfl rfl rfl h2 (.inl k0) k01 hy2 fun p5 c5 cs3 h9=>qI (hs':=(hO zA (vS p5 l c5) cs3::hB b2 [vT a0.Array.l,vS p1 Subs c1]::hB b1 [vT ([]),z0]::hB b (cAccess a0 p c)::hf)) rfl<|yW [hO zA (vS p5 l c5) cs3] iR ⟨_,_,_,rfl,rfl,h9⟩
   rintro I02 le2 _ _ ⟨p5,c5,cs3,rfl,rfl,h9⟩;refine yY [1,2,3,4,24] rfl ?_;have ⟨h,H⟩:=m2 le2 h H;exact yF 11 [] [25] rfl<|yZ 1 [vT a0.Array.l,vS p5 l c5] rfl<|zZ rfl<|zQ<|zI<|zM<|yL [] [4] rfl<|xF<|mJ<|ih (W (i + 1)) l _ N H h h9 hg ho hx
 intro hc N;exact tS<|xQ (zX [0,1,2] rfl (by decide))<|yM<|hx _ _ _ _ _ (zB N).symm H h2
def vD (a0:zF):Option (zF):=do
 let Subs1←xR a0 0 ([]:List zA)
 pure (zF.mk a0.Array Subs1)
theorem nQ:∀ a0 r,vD a0=some r→∀ {I:Imm}{p c},(S4 I p a0.Subs c)→RT 160 [vA (cAccess a0 p c)] I [] (eI  r):=by
 intro a0 r N I p c h;unfold vD at N;refine yI Tryz.func160 fun B=>yG<|uG (cAccess a0 p c) ?_;intro b hb;refine wK [vT ([]),z0] ?_;intro b1 hb1;refine zZ rfl<|yX<|sH 3 [1] [(7,vA [vT a0.Array.l,z0])]<|wK [vT ([]),z0] ?_;intro b2 hb2;refine yZ 0 [vT a0.Array.l,z0] rfl<|zZ rfl<|yE<|yO [4] rfl<|uV<|mH [(1,vP b 0),(2,vP b1 0),(3,vP b2 0),(4,vI 0)]<|zDQ zA fun h1=>?_;obtain ⟨o0,ho0,hMl⟩:=zC N;refine fR a0 0 ([]:List zA) o0 ho0 iR h h1 (fun _ _ _ h=>h) (fun _ _ h=>h) ?_;intro I03 Subs1 p2 c2 cs1 heq le3 h3;subst o0;refine zU<|yX<|sH 1 [1] [(26,vA [vT a0.Array.l,vS p2 Subs1 c2])]<|yZ 2 [vT a0.Array.l,vS p2 Subs1 c2] rfl<|zZ rfl<|zI<|yS ?_;obtain rfl:=zB hMl;exact xB ⟨_,_,(.cell 2 rfl rfl (by kernel_rfl) ResV.nil),(zX [0] rfl (by decide)),⟨_,_,_,rfl,rfl,h3⟩⟩
def jG (r:zD):KT:=fun kk I' hs' v=>
  ∃ a0_2 c0_2 a0_5 c0_5 a0_6 c0_6 s0_6,hs'=[.osl (.slice a0_6 r.Kids.length c0_6) (Rp.sz zD) s0_6]∧v=tupV [(.agg ⟨[.int .i64 r.Kind,.int .i64 r.Num,.slice a0_2 r.Index.Coefs.length c0_2,.int .i64 r.Index.Const,.string ⟨⟨r.Read.Array.l⟩⟩,.slice a0_5 r.Read.Subs.length c0_5,.slice a0_6 r.Kids.length c0_6]⟩)]∧SL I' (.slice a0_2 r.Index.Coefs.length c0_2) r.Index.Coefs∧SL I' (.slice a0_5 r.Read.Subs.length c0_5) r.Read.Subs∧RepL (Rp.rep I') (Rp.sz zD) s0_6 r.Kids
mutual
def sL (e0:zD):Option (zD):=do
 let y←uP e0.Index
 let y1←vD e0.Read
 let Kids1←wS (same e0) (same 0) ([]:List zD)
 pure (zD.mk e0.Kind e0.Num y (zF.mk y1.Array y1.Subs) Kids1)
 partial_fixpoint
def wS (e0:zD) (i:Int) (Kids:List zD):Option (List zD):=do
 if (decide (i < (e0.Kids.length:Int))) then
  let x←idx e0.Kids i
  let y2←sL (same x)
  let l←app 112 Kids ([y2]:List zD)
  wS (same e0) (W (i + 1)) (same l)
 else
  pure (id Kids)
 partial_fixpoint
end
theorem zAN:(∀ (e0:zD) r,sL e0=some r→∀ {I:Imm}{p c p1 c1 p2 c2},(S4 I p e0.Index.Coefs c)→(S4 I p1 e0.Read.Subs c1)→(S4 I p2 e0.Kids c2)→RT 161 [vA (cExpr e0 p c p1 c1 p2 c2)] I [] (jG  r))∧(∀ (e0:zD) (i:Int) (Kids:List zD) o,wS e0 i Kids=some o→∀ {B}{I0 I:Imm}{Q}{y:zA}{y1:zF}{p c p1 c1 p2 c2}{b:Nat}{b1:Nat}{p31 c31 p41 c41 cs11}{b2:Nat}{p5 c5 cs2},I0.le I→(S4 I p31 y.Coefs c31)→(RL I cs11 y1.Subs)→(S4 I p e0.Index.Coefs c)→(S4 I p1 e0.Read.Subs c1)→(S4 I p2 e0.Kids c2)→(RL I cs2 Kids)→NG Q→NO Q→(∀ (I':Imm) (Kids1:List zD) (p6:Option Addr) (c6:Nat) (cs3:List Value),o=Kids1→I0.le I'→(RL I' cs3 Kids1)→T 35 B Q (.exit 0) I' [hO zD (vS p6 Kids1 c6) cs3,hB b2 [vI e0.Kind,vI e0.Num,vS p31 y.Coefs c31,vI y.Const,vT y1.Array.l,vS p41 y1.Subs c41,vS p6 Kids1 c6],hO zA (vS p41 y1.Subs c41) cs11,hB b1 zExpr] [(2,vP b1 0),(3,vP b2 0)])→J Tryz.prog 35 B (nav (bodyOf Tryz.f161) [1,1,0,1,0]) Q I [hO zD (vS p5 Kids c5) cs2,hB b2 [vI e0.Kind,vI e0.Num,vS p31 y.Coefs c31,vI y.Const,vT y1.Array.l,vS p41 y1.Subs c41,vS p5 Kids c5],hO zA (vS p41 y1.Subs c41) cs11,hB b1 zExpr,hB b (cExpr e0 p c p1 c1 p2 c2)] [(1,vP b 0),(2,vP b1 0),(3,vP b2 0),(4,vI i)]):=by
  refine sL.mutual_partial_correctness _ _ ?_ ?_
  · intro F_spec_l3CopyExpr_l1 ih_spec_l3CopyExpr_l1 e0 r N I p c p1 c1 p2 c2 h h1 h2;refine yI Tryz.func161 fun B=>?_;have H:=iS I;refine yG<|uG (cExpr e0 p c p1 c1 p2 c2) ?_;intro b hb;refine wK zExpr ?_;intro b1 hb1;refine zZ rfl<|zI<|yA ?_;obtain ⟨y,hy,N⟩:=zC N;obtain ⟨y1,hy1,N⟩:=zC N;refine wZ [.p (vP b 0) [],.p (vI e0.Kind) [1],.p (vP b 1) [],.p (vI e0.Num) [1],.p (vP b 2) [],.p (vA (cAff e0.Index p c)) [1],.x (eVAff y),.p (vP b 4) [],.p (vA (cAccess e0.Read p1 c1)) [1],.x (fun I' v hx=>∃ p4 c4 cs1,v=vA (cAccess y1 p4 c4)∧hx=[hO zA (vS p4 y1.Subs c4) cs1]∧(RL I' cs1 y1.Subs)),.x (fun I' v hx=>∃ p31 c31 p41 c41 cs11,v=vA [vI e0.Kind,vI e0.Num,vS p31 y.Coefs c31,vI y.Const,vT y1.Array.l,vS p41 y1.Subs c41,z0]∧hx=[hO zA (vS p41 y1.Subs c41) cs11]∧(S4 I' p31 y.Coefs c31)∧(RL I' cs11 y1.Subs)),.x (fun I' v hx=>∃ b2,v=vP b2 0∧hx=[hB b2 zExpr])] [[],[(0,false)],[],[(2,false)],[],[(4,false)],[(5,false)],[],[(7,false)],[(8,false)],[(1,false),(3,false),(6,false),(9,true)],[]] [hB b1 zExpr,hB b (cExpr e0 p c p1 c1 p2 c2)] [] [(10,true),(11,true)] (yB [0,1]) ?_ ?_
    · refine Op<|Op<|Op<|Op<|Op<|Op<|Ox ?_<|Op<|Op<|Ox ?_<|Ox ?_<|Ox ?_<|On
      · intro I1 hf le1;refine yY [10] rfl ?_;have H:=iS I1;have h:=h.mono le1;refine xM (jF e0.Index _ hy h) ?_;rintro I0 hs2 v2 k2 le - ⟨v0,rfl,rfl,⟨cs,rfl,h3⟩⟩ -;have H:=H.trans le;obtain ⟨p3,c3,rfl,h4⟩:=yD h3;exact yW [] H ⟨_,_,rfl,rfl,h4⟩
      · intro I1 hf le1;refine yY [13] rfl ?_;have H:=iS I1;have h1:=h1.mono le1;refine xM (nQ e0.Read _ hy1 h1) ?_;rintro I01 hs2 v2 k2 le1 - ⟨p4,c4,cs1,rfl,rfl,h5⟩ -;have H:=H.trans le1;exact yW [hO zA (vS p4 y1.Subs c4) cs1] H ⟨_,_,_,rfl,rfl,h5⟩
      · rintro I1 hf le1 _ _ ⟨rfl,rfl⟩ _ _ ⟨rfl,rfl⟩ _ _ ⟨p3,c3,rfl,rfl,h4⟩ _ _ ⟨p4,c4,cs1,rfl,rfl,h5⟩;exact yY [6,8,11,14] rfl<|qE 11 [(15,vA [vI e0.Kind,vI e0.Num,vS p3 y.Coefs c3,vI y.Const,vT y1.Array.l,vS p4 y1.Subs c4,z0])]<|yW [hO zA (vS p4 y1.Subs c4) cs1] iR ⟨_,_,_,_,_,rfl,rfl,h4,h5⟩
      intro I1 hf le1;refine jM []<|wK zExpr ?_;intro b2 hb2;exact yW [hB b2 zExpr] iR ⟨_,rfl,rfl⟩
    rintro I02 le2 _ _ ⟨p31,c31,p41,c41,cs11,rfl,rfl,h41,h51⟩ _ _ ⟨b2,rfl,rfl⟩;refine yY [1,2,3,15] rfl ?_;have ⟨h,h1,h2⟩:=m3 le2 h h1 h2;refine yZ 0 [vI e0.Kind,vI e0.Num,vS p31 y.Coefs c31,vI y.Const,vT y1.Array.l,vS p41 y1.Subs c41,z0] rfl<|zZ rfl<|yE<|yO [4] rfl<|uV<|mH [(1,vP b 0),(2,vP b1 0),(3,vP b2 0),(4,vI 0)]<|zDQ zD fun h6=>?_;obtain ⟨o0,ho0,hMl⟩:=zC N;refine ih_spec_l3CopyExpr_l1 e0 0 ([]:List zD) o0 ho0 iR h41 h51 h h1 h2 h6 (fun _ _ _ h=>h) (fun _ _ h=>h) ?_;intro I07 Kids1 p6 c6 cs3 heq le7 h8;subst o0;have ⟨h41,h51⟩:=m2 le7 h41 h51;refine zU<|yX<|sH 1 [1] [(34,vA [vI e0.Kind,vI e0.Num,vS p31 y.Coefs c31,vI y.Const,vT y1.Array.l,vS p41 y1.Subs c41,vS p6 Kids1 c6])]<|yZ 3 [vI e0.Kind,vI e0.Num,vS p31 y.Coefs c31,vI y.Const,vT y1.Array.l,vS p41 y1.Subs c41,vS p6 Kids1 c6] rfl<|zZ rfl<|xE<|xN 2 rfl ?_;intro I08 le8 hl02;have h19:=SL.of_frozen hl02 le8 h51;have ⟨h8,h41⟩:=m2 le8 h8 h41;obtain rfl:=zB hMl;exact xB ⟨_,_,(.cell 2 rfl rfl (by kernel_rfl) ResV.nil),(zX [0] rfl (by decide)),⟨_,_,_,_,_,_,_,rfl,rfl,h41,h19,h8⟩⟩
  intro F_spec_l3CopyExpr F_spec_l3CopyExpr_l1 ih_spec_l3CopyExpr ih_spec_l3CopyExpr_l1 e0 i Kids o N B I0 I Q y y1 p c p1 c1 p2 c2 b b1 p31 c31 p41 c41 cs11 b2 p5 c5 cs2 H h41 h51 h h1 h2 h7 hg ho hx;refine xH hg ho<|yA<|yG<|yL [4] [20] rfl<|zI<|yH N ?_ ?_
  · intro hc N;refine zT<|yE<|yN ?_;obtain ⟨x,hy2,N⟩:=zC N;obtain ⟨y2,hy3,N⟩:=zC N;obtain ⟨l,hy4,N⟩:=zC N;refine wZ [.p (vP b2 6) [],.p (vS p5 Kids c5) [0],.p (vP b 6) [],.p (vS p2 e0.Kids c2) [3],.p (vI i) [],.x (ePExpr x),.x (eVExpr x),.x (fun I' v hx=>∃ p10 c10 p11 c11 p12 c12 cs4,v=vA (cExpr y2 p10 c10 p11 c11 p12 c12)∧hx=[hO zD (vS p12 y2.Kids c12) cs4]∧(S4 I' p10 y2.Index.Coefs c10)∧(S4 I' p11 y2.Read.Subs c11)∧(RL I' cs4 y2.Kids)),.x (fun I' v hx=>∃ b3,v=vS (some ⟨b3,0,none⟩) ([y2]:List zD) 1∧hx=[]∧(SL I' (vS (some ⟨b3,0,none⟩) ([y2]:List zD) 1) ([y2]:List zD))),.x (fun I' v hx=>∃ p13 c13 cs5,v=vS p13 l c13∧hx=[hO zD (vS p13 l c13) cs5]∧(RL I' cs5 l))] [[],[(0,false)],[],[(2,false)],[],[(3,false),(4,false)],[(5,false)],[(6,false)],[(7,true)],[(1,false),(8,false),(12,true)]] [hB b2 [vI e0.Kind,vI e0.Num,vS p31 y.Coefs c31,vI y.Const,vT y1.Array.l,vS p41 y1.Subs c41,vS p5 Kids c5],hO zA (vS p41 y1.Subs c41) cs11,hB b1 zExpr,hB b (cExpr e0 p c p1 c1 p2 c2)] [[hO zD (vS p5 Kids c5) cs2]] [(9,true)] (yB [1,2,3,4,0]) ?_ ?_
    · refine Op<|Op<|Op<|Op<|Op<|Ox ?_<|Ox ?_<|Ox ?_<|Ox ?_<|Ox ?_<|On
      · intro I1 hf le1;refine yY [26,27] rfl ?_;have h2:=h2.mono le1;refine wF rfl rfl h2 hy2 ?_;intro ad ccs hat hrep;obtain ⟨p7,c7,p8,c8,p9,c9,rfl,h9,h10,h11⟩:=yV hrep;exact yW [] iR ⟨_,_,_,_,_,_,_,rfl,rfl,hat,h9,h10,h11⟩
      · rintro I1 hf le1 _ _ ⟨ad,p7,c7,p8,c8,p9,c9,rfl,rfl,hat,h9,h10,h11⟩;exact yY [28] rfl<|xT 0 hat (cExpr x p7 c7 p8 c8 p9 c9) (vA (cExpr x p7 c7 p8 c8 p9 c9)) rfl<|yW [] iR ⟨_,_,_,_,_,_,rfl,rfl,h9,h10,h11⟩
      · rintro I1 hf le1 _ _ ⟨p71,c71,p81,c81,p91,c91,rfl,rfl,h91,h101,h111⟩;refine yY [29] rfl ?_;have H:=iS I1;refine xM (ih_spec_l3CopyExpr x _ hy3 h91 h101 h111) ?_;rintro I03 hs2 v2 k2 le3 - ⟨p10,c10,p11,c11,p12,c12,cs4,rfl,rfl,h12,h13,h14⟩ -;have H:=H.trans le3;exact yW [hO zD (vS p12 y2.Kids c12) cs4] H ⟨_,_,_,_,_,_,_,rfl,rfl,h12,h13,h14⟩
      · rintro I1 hf le1 _ _ ⟨p10,c10,p11,c11,p12,c12,cs4,rfl,rfl,h12,h13,h14⟩;refine yY [30] rfl ?_;have H:=iS I1;refine vZ 0 rfl ?_;intro I04 le4 hl0;have h15:=SL.of_frozen hl0 le4 h14;have ⟨h12,h13,H⟩:=m3 le4 h12 h13 H;refine nM (rc y2 (xI ⟨_,_,_,rfl,h12,h13,h15⟩) rN) ?_;intro b3 I05 le5 h17;have H:=H.trans le5;exact yW [] H ⟨_,rfl,rfl,h17⟩
      rintro I1 hf le1 _ _ ⟨rfl,rfl⟩ _ _ ⟨b3,rfl,rfl,h17⟩ _ _ rfl;refine yY [24,31] rfl ?_;have h7:=iM le1 h7;obtain ⟨ccs1,k0,k01⟩:=h17;have h17:SL I1 (vS (some ⟨b3,0,none⟩) ([y2]:List zD) 1) ([y2]:List zD):=⟨_,k0,k01⟩;exact nO 46 7 0 rfl rfl rfl h7 (.inl k0) k01 hy4 fun p13 c13 cs5 h18=>qI (hs':=(hO zD (vS p13 l c13) cs5::hB b2 [vI e0.Kind,vI e0.Num,vS p31 y.Coefs c31,vI y.Const,vT y1.Array.l,vS p41 y1.Subs c41,vS p5 Kids c5]::hO zA (vS p41 y1.Subs c41) cs11::hB b1 zExpr::hB b (cExpr e0 p c p1 c1 p2 c2)::hf)) rfl<|yW [hO zD (vS p13 l c13) cs5] iR ⟨_,_,_,rfl,rfl,h18⟩
    rintro I06 le6 _ _ ⟨p13,c13,cs5,rfl,rfl,h18⟩;refine yY [1,2,3,4,32] rfl ?_;have ⟨h41,h51,h,h1,h2,H⟩:=m6 le6 h41 h51 h h1 h2 H;exact yF 11 [] [33] rfl<|yZ 1 [vI e0.Kind,vI e0.Num,vS p31 y.Coefs c31,vI y.Const,vT y1.Array.l,vS p41 y1.Subs c41,vS p13 l c13] rfl<|zZ rfl<|zQ<|zI<|zM<|yL [] [4] rfl<|xF<|mJ<|ih_spec_l3CopyExpr_l1 e0 (W (i + 1)) l _ N H h41 h51 h h1 h2 h18 hg ho hx
  intro hc N;exact tS<|xQ (zX [0,1,2,3] rfl (by decide))<|yM<|hx _ _ _ _ _ (zB N).symm H h7
theorem zAb:∀ e0 r,sL e0=some r→∀ {I:Imm}{p c p1 c1 p2 c2},(S4 I p e0.Index.Coefs c)→(S4 I p1 e0.Read.Subs c1)→(S4 I p2 e0.Kids c2)→RT 161 [vA (cExpr e0 p c p1 c1 p2 c2)] I [] (jG  r):=zAN.1
def zBs (r:zK):KT:=fun kk I' hs' v=>
  ∃ a0_1 c0_1 s0_1 a0_4 c0_4 a0_7 c0_7 a0_8 c0_8 s0_8,hs'=[.osl (.slice a0_1 r.Write.Subs.length c0_1) (Rp.sz zA) s0_1,.osl (.slice a0_8 r.Value.Kids.length c0_8) (Rp.sz zD) s0_8]∧v=tupV [(.agg ⟨[.string ⟨⟨r.Write.Array.l⟩⟩,.slice a0_1 r.Write.Subs.length c0_1,.int .i64 r.Value.Kind,.int .i64 r.Value.Num,.slice a0_4 r.Value.Index.Coefs.length c0_4,.int .i64 r.Value.Index.Const,.string ⟨⟨r.Value.Read.Array.l⟩⟩,.slice a0_7 r.Value.Read.Subs.length c0_7,.slice a0_8 r.Value.Kids.length c0_8]⟩)]∧RepL (Rp.rep I') (Rp.sz zA) s0_1 r.Write.Subs∧SL I' (.slice a0_4 r.Value.Index.Coefs.length c0_4) r.Value.Index.Coefs∧SL I' (.slice a0_7 r.Value.Read.Subs.length c0_7) r.Value.Read.Subs∧RepL (Rp.rep I') (Rp.sz zD) s0_8 r.Value.Kids
def mL (s:zK):Option (zK):=do
 let y←vD s.Write
 let y1←sL s.Value
 pure (zK.mk y y1)
theorem zDR:∀ s r,mL s=some r→∀ {I:Imm}{p c p1 c1 p2 c2 p3 c3},(S4 I p s.Write.Subs c)→(S4 I p1 s.Value.Index.Coefs c1)→(S4 I p2 s.Value.Read.Subs c2)→(S4 I p3 s.Value.Kids c3)→RT 98 [vA (cStmt s p c p1 c1 p2 c2 p3 c3)] I [] (zBs  r):=by
 intro s r N I p c p1 c1 p2 c2 p3 c3 h h1 h2 h3;unfold mL at N;refine yI Tryz.func98 fun B=>?_;have H:=iS I;refine yG<|uG (cStmt s p c p1 c1 p2 c2 p3 c3) ?_;intro b hb;refine wK [vT ([]),z0,vI 0,vI 0,z0,vI 0,vT ([]),z0,z0] ?_;intro b1 hb1;refine zZ rfl<|zI<|yA ?_;obtain ⟨y,hy,N⟩:=zC N;obtain ⟨y1,hy1,N⟩:=zC N;refine wZ [.p (vP b 0) [],.p (vA (cAccess s.Write p c)) [1],.x (fun I' v hx=>∃ p4 c4 cs,v=vA (cAccess y p4 c4)∧hx=[hO zA (vS p4 y.Subs c4) cs]∧(RL I' cs y.Subs)),.p (vP b 2) [],.p (vA (cExpr s.Value p1 c1 p2 c2 p3 c3)) [1],.x (fun I' v hx=>∃ p5 c5 p6 c6 p7 c7 cs1,v=vA (cExpr y1 p5 c5 p6 c6 p7 c7)∧hx=[hO zD (vS p7 y1.Kids c7) cs1]∧(S4 I' p5 y1.Index.Coefs c5)∧(S4 I' p6 y1.Read.Subs c6)∧(RL I' cs1 y1.Kids)),.x (fun I' v hx=>∃ p41 c41 p51 c51 p61 c61 p71 c71 cs11 cs2,v=vA [vT y.Array.l,vS p41 y.Subs c41,vI y1.Kind,vI y1.Num,vS p51 y1.Index.Coefs c51,vI y1.Index.Const,vT y1.Read.Array.l,vS p61 y1.Read.Subs c61,vS p71 y1.Kids c71]∧hx=[hO zD (vS p71 y1.Kids c71) cs11,hO zA (vS p41 y.Subs c41) cs2]∧(RL I' cs2 y.Subs)∧(S4 I' p51 y1.Index.Coefs c51)∧(S4 I' p61 y1.Read.Subs c61)∧(RL I' cs11 y1.Kids))] [[],[(0,false)],[(1,false)],[],[(3,false)],[(4,false)],[(2,true),(5,true)]] [hB b1 [vT ([]),z0,vI 0,vI 0,z0,vI 0,vT ([]),z0,z0],hB b (cStmt s p c p1 c1 p2 c2 p3 c3)] [] [(6,true)] (yB [0,1]) ?_ ?_
 · refine Op<|Op<|Ox ?_<|Op<|Op<|Ox ?_<|Ox ?_<|On
   · intro I1 hf le1;refine yY [4] rfl ?_;have H:=iS I1;have h:=h.mono le1;refine xM (nQ s.Write _ hy h) ?_;rintro I0 hs2 v2 k2 le - ⟨p4,c4,cs,rfl,rfl,h4⟩ -;have H:=H.trans le;exact yW [hO zA (vS p4 y.Subs c4) cs] H ⟨_,_,_,rfl,rfl,h4⟩
   · intro I1 hf le1;refine yY [7] rfl ?_;have H:=iS I1;have ⟨h1,h2,h3⟩:=m3 le1 h1 h2 h3;refine xM (zAb s.Value _ hy1 h1 h2 h3) ?_;rintro I01 hs2 v2 k2 le1 - ⟨p5,c5,p6,c6,p7,c7,cs1,rfl,rfl,h5,h6,h7⟩ -;have H:=H.trans le1;exact yW [hO zD (vS p7 y1.Kids c7) cs1] H ⟨_,_,_,_,_,_,_,rfl,rfl,h5,h6,h7⟩
   rintro I1 hf le1 _ _ ⟨p4,c4,cs,rfl,rfl,h4⟩ _ _ ⟨p5,c5,p6,c6,p7,c7,cs1,rfl,rfl,h5,h6,h7⟩;exact yY [5,8] rfl<|qE 7 [(9,vA [vT y.Array.l,vS p4 y.Subs c4,vI y1.Kind,vI y1.Num,vS p5 y1.Index.Coefs c5,vI y1.Index.Const,vT y1.Read.Array.l,vS p6 y1.Read.Subs c6,vS p7 y1.Kids c7])]<|yW [hO zD (vS p7 y1.Kids c7) cs1,hO zA (vS p4 y.Subs c4) cs] iR ⟨_,_,_,_,_,_,_,_,_,_,rfl,rfl,h4,h5,h6,h7⟩
 rintro I02 le2 _ _ ⟨p41,c41,p51,c51,p61,c61,p71,c71,cs11,cs2,rfl,rfl,h41,h51,h61,h71⟩;refine yY [2,9] rfl ?_;refine yZ 2 [vT y.Array.l,vS p41 y.Subs c41,vI y1.Kind,vI y1.Num,vS p51 y1.Index.Coefs c51,vI y1.Index.Const,vT y1.Read.Array.l,vS p61 y1.Read.Subs c61,vS p71 y1.Kids c71] rfl<|zZ rfl<|zI<|yS ?_;obtain rfl:=zB N;exact xB ⟨_,_,(.cell 2 rfl rfl (by kernel_rfl) ResV.nil),(zX [1,0] rfl (by decide)),⟨_,_,_,_,_,_,_,_,_,_,rfl,rfl,h41,h51,h61,h71⟩⟩
def kS (r:zA):KT:=fun kk I' hs' v=>
  ∃ a0_0 c0_0 s0_0,hs'=[.osl (.slice a0_0 r.Coefs.length c0_0) (Rp.sz Int) s0_0]∧v=tupV [(.agg ⟨[.slice a0_0 r.Coefs.length c0_0,.int .i64 r.Const]⟩)]∧RepL (Rp.rep I') (Rp.sz Int) s0_0 r.Coefs
def rW :Option (zA):=do
 pure (zA.mk ([0,0,0,0]:List Int) 0)
theorem oK:∀ r,rW =some r→∀ {I:Imm} ,RT 100 [] I [] (kS  r):=by
 intro  r N I;unfold rW at N;refine yI Tryz.func100 fun B=>yG<|wK [z0,vI 0] ?_;intro b hb;refine zZ rfl<|yX<|qB [vI 0,vI 0,vI 0,vI 0] Int ?_;intro b1 hb1;have h:RL I [vI 0,vI 0,vI 0,vI 0] ([0,0,0,0]:List Int):=rI [0,0,0,0];refine yF 2 [] [2] rfl<|yZ 1 [vS (some ⟨b1,0,none⟩) ([0,0,0,0]:List Int) 4,vI 0] rfl<|zZ rfl<|zI<|yS ?_;obtain rfl:=zB N;exact xB ⟨_,_,(.cell 1 rfl rfl (by kernel_rfl) ResV.nil),(zX [0] rfl (by decide)),⟨_,_,_,rfl,rfl,h⟩⟩
def pI (v0:Int):Option (zA):=do
 let y←rW
 let x←idx y.Coefs v0
 let l←pure (y.Coefs.set v0.toNat 1)
 pure (zA.mk l y.Const)
theorem jC:∀ v0 r,pI v0=some r→∀ {I:Imm} ,RT 99 [vI v0] I [] (tF  r):=by
 intro v0 r N I;unfold pI at N;refine yI Tryz.func99 fun B=>yG<|wK [z0,vI 0] ?_;intro b hb;refine zZ rfl<|yX<|bE N fun y hy N=>xM (oK  _ hy ) ?_;rintro I0 hs2 v2 k2 le - ⟨p,c,cs,rfl,rfl,h⟩ -;refine wK [z0,vI 0] ?_;intro b1 hb1;refine yZ 0 (cAff y p c) rfl<|zZ rfl<|yX<|yF 3 [0] [6,7] rfl<|bE N fun x hy1 N=>fP 1 rfl rfl rfl h hy1 ?_;intro ad ccs hat hcc hrep;obtain rfl:=hrep;obtain ⟨l,hy2,N⟩:=zC N;refine mV (c:=[vI 1]) (x':=1) 1 0 rfl rfl rfl hat rfl rfl hcc (by kernel_rfl) (by kernel_rfl) (by kernel_rfl) h hy1 (by kernel_rfl) rfl ?_;rw [show y.Coefs.set v0.toNat 1=l from zB hy2];intro cs1 h1 hl0;refine jD (m':=[(2,vP b 0),(3,vP b1 0),(6,vS p y.Coefs c),(7,vI v0)]) ⟨rfl,rfl,rfl,rfl,trivial⟩<|zDJ (hs':=[hB b1 [vS p l c,vI y.Const],hO Int (vS p l c) cs1,hB b [z0,vI 0]]) (m':=[(2,vP b 0),(3,vP b1 0),(6,vS p l c),(7,vI v0)]) (by first | rfl | simp only [vS,hl0,List.nil_append,List.cons_append,List.set_cons_zero,List.set_cons_succ,List.eraseIdx_cons_zero,List.eraseIdx_cons_succ]) (by first | rfl | simp only [vS,hl0])<|zZ rfl<|yX<|sH 1 [0] [(9,vA [vS p l c,vI y.Const])]<|yZ 2 [vS p l c,vI y.Const] rfl<|zZ rfl<|xE<|xN 1 rfl ?_;intro I01 le1 hl01;have h2:=SL.of_frozen hl01 le1 h1;obtain rfl:=zB N;exact xB ⟨_,_,(.cell 1 rfl rfl (by kernel_rfl) ResV.nil),zL,⟨_,rfl,rfl,⟨_,rfl,(yC ⟨_,rfl,h2⟩)⟩⟩⟩
def zAO (b0:Nat) (r:Int×zJ):KT:=fun kk I' hs' v=>
  ∃ v0 k0,hs'=[.blk b0 ⟨k0⟩]∧v=tupV [v0]∧v0=.int .i64 r.1∧Rp.rep I' k0 r.2
def yT (r0:zJ) (list:(List Int)):Option (Int×zJ):=do
 let (y1,y2)←yU r0 (list.length:Int)
 let x←idx list y1
 pure (x,y2)
theorem xG:∀ r0 list r,yT r0 list=some r→∀ {I:Imm}{r01:Nat}{p c p1 c1},(S4 I p r0.b c)→(S4 I p1 list c1)→RT 101 [vP r01 0,vS p1 list c1] I [hB r01 (cRd r0 p c)] (zAO r01 r):=by
 intro r0 list r N I r01 p c p1 c1 h h1;unfold yT at N;refine yI Tryz.func101 fun B=>uA []<|yX<|yF 4 [] [5,6,8] rfl ?_;obtain ⟨⟨y1,y2⟩,hy,N⟩:=zC N;refine rA (xL r0 (list.length:Int) _ hy h) rfl ?_;rintro I0 hs2 v2 k2 le - ⟨v0,kk,rfl,rfl,rfl,h3⟩ -;have h1:=h1.mono le;obtain ⟨p2,c2,rfl,h4⟩:=zY h3;obtain ⟨x,hy1,N⟩:=zC N;refine wF rfl rfl h1 hy1 ?_;intro ad ccs hat hrep;obtain rfl:=hrep;refine xT 0 hat [vI x] (vI x) rfl<|yL [] [4] rfl<|zI<|yS ?_;obtain rfl:=zB N;exact xB ⟨_,_,(.tmp rfl ResV.nil),(zX [0] rfl (by decide)),⟨_,_,rfl,rfl,rfl,(yR ⟨_,rfl,h4⟩)⟩⟩
def zAc (b0:Nat) (r:zK×zJ):KT:=fun kk I' hs' v=>
  ∃ v0 k0,hs'=[.blk b0 ⟨k0⟩]∧v=tupV [v0]∧(∃ cs,v0=.agg ⟨cs⟩∧Rp.rep I' cs r.1)∧Rp.rep I' k0 r.2
def nE (r0:zJ) (s:zK):Option (zK×zJ):=do
 let y←mL s
 let (y2,y3)←yU r0 40
 let (WriteArray,WriteSubs,ValueKind,ValueNum,ValueKids,x)←(do
   if (y2 == 0) then
    let (y5,y6)←sX y3 ([(⟨[69]⟩:Str),(⟨[]⟩:Str),(⟨[65,66]⟩:Str),(⟨[97]⟩:Str)]:List Str)
    pure (y5,y.Write.Subs,y.Value.Kind,y.Value.Num,y.Value.Kids,y6)
   else
    let (WriteSubs1,ValueKind1,ValueNum1,ValueKids1,x1)←(do
      if (y2 == 1) then
       let y7←pI 3
       let y8←rW
       let l←app 32 y.Write.Subs ([y7,y8]:List zA)
       pure (l,y.Value.Kind,y.Value.Num,y.Value.Kids,y3)
      else
       let (ValueKind2,ValueNum2,ValueKids2,x2)←(do
         if (y2 == 2) then
          let (y10,y11)←yT y3 ([0,7,1,4,2]:List Int)
          pure (y10,y.Value.Num,y.Value.Kids,y11)
         else
          let (ValueNum3,ValueKids3,x3)←(do
            if (y2 == 3) then
             let (y13,y14)←yT y3 ([100,(-1),1]:List Int)
             pure (y13,y.Value.Kids,y14)
            else
             let ValueKids4←(do
               if (y2 == 4) then
                let l1←app 112 y.Value.Kids ([(zD.mk 1 0 (zA.mk ([]:List Int) 0) (zF.mk (⟨[]⟩:Str) ([]:List zA)) ([]:List zD))]:List zD)
                pure (id l1)
               else
                pure y.Value.Kids
                 : Option (List zD))
             pure (y.Value.Num,ValueKids4,y3)
              : Option (Int×List zD×zJ))
          pure (y.Value.Kind,ValueNum3,ValueKids3,x3)
           : Option (Int×Int×List zD×zJ))
       pure (y.Write.Subs,ValueKind2,ValueNum2,ValueKids2,x2)
        : Option (List zA×Int×Int×List zD×zJ))
    pure (y.Write.Array,WriteSubs1,ValueKind1,ValueNum1,ValueKids1,x1)
     : Option (Str×List zA×Int×Int×List zD×zJ))
 pure ((zK.mk (zF.mk WriteArray WriteSubs) (zD.mk ValueKind ValueNum y.Value.Index y.Value.Read ValueKids)),x)
theorem zBt:∀ r0 s r,nE r0 s=some r→∀ {I:Imm}{r01:Nat}{p c p1 c1 p2 c2 p3 c3 p4 c4},(S4 I p r0.b c)→(S4 I p1 s.Write.Subs c1)→(S4 I p2 s.Value.Index.Coefs c2)→(S4 I p3 s.Value.Read.Subs c3)→(S4 I p4 s.Value.Kids c4)→RT 44 [vP r01 0,vA (cStmt s p1 c1 p2 c2 p3 c3 p4 c4)] I [hB r01 (cRd r0 p c)] (zAc r01 r):=by
 intro r0 s r N I r01 p c p1 c1 p2 c2 p3 c3 p4 c4 h h1 h2 h3 h4;unfold nE at N;refine yI Tryz.func44 fun B=>?_;have H:=iS I;refine yG<|uG (cStmt s p1 c1 p2 c2 p3 c3 p4 c4) ?_;intro b hb;refine wK [vT ([]),z0,vI 0,vI 0,z0,vI 0,vT ([]),z0,z0] ?_;intro b1 hb1;refine zZ rfl<|yX<|sH 1 [1] [(6,vA (cStmt s p1 c1 p2 c2 p3 c3 p4 c4))]<|bE N fun y hy N=>xM (zDR s _ hy h1 h2 h3 h4) ?_;rintro I0 hs2 v2 k2 le - ⟨p5,c5,cs,p6,c6,p7,c7,p8,c8,cs1,rfl,rfl,h5,h6,h7,h8⟩ -;have ⟨h,H⟩:=m2 le h H;refine wK [vT ([]),z0,vI 0,vI 0,z0,vI 0,vT ([]),z0,z0] ?_;intro b2 hb2;refine yZ 0 (cStmt y p5 c5 p6 c6 p7 c7 p8 c8) rfl<|zZ rfl<|yE<|yG<|yF 1 [] [8] rfl<|qH (yB [5,0,1,2,3,4] (hs':=[hB r01 (cRd r0 p c),hB b2 (cStmt y p5 c5 p6 c6 p7 c7 p8 c8),hO zA (vS p5 y.Write.Subs c5) cs,hO zD (vS p8 y.Value.Kids c8) cs1,hB b1 [vT ([]),z0,vI 0,vI 0,z0,vI 0,vT ([]),z0,z0],hB b (cStmt s p1 c1 p2 c2 p3 c3 p4 c4)])) ?_;obtain ⟨⟨y2,y3⟩,hy1,N⟩:=zC N;refine rA (xL r0 40 _ hy1 h) rfl ?_;rintro I01 hs2 v2 k2 le1 - ⟨v0,kk,rfl,rfl,rfl,h10⟩ -;have ⟨h5,h6,h7,h8,H⟩:=m5 le1 h5 h6 h7 h8 H;obtain ⟨p9,c9,rfl,h11⟩:=zY h10;refine zZ rfl<|uV<|yO [10] rfl<|zI<|mK 5 rfl ?_;intro I02 le2 hl0;have hat:At I02 ⟨b,0,none⟩ (cStmt s p1 c1 p2 c2 p3 c3 p4 c4):=At.of_blk hl0;have ⟨h11,h5,h6,h7,h8,H⟩:=m6 le2 h11 h5 h6 h7 h8 H;obtain ⟨o0,ho0,hMc⟩:=zC N;refine oH (fun I' hs' m'=>∃ (WriteArray:Str) (WriteSubs:List zA) (ValueKind:Int) (ValueNum:Int) (ValueKids:List zD) (x:zJ) (p10:Option Addr) (c10:Nat) (cs2:List Value) (p11:Option Addr) (c11:Nat) (cs3:List Value) (p12:Option Addr) (c12:Nat),o0=(WriteArray,WriteSubs,ValueKind,ValueNum,ValueKids,x)∧I02.le I'∧(RL I' cs2 WriteSubs)∧(RL I' cs3 ValueKids)∧(S4 I' p12 x.b c12)∧hs'=[hB r01 (cRd x p12 c12),hB b2 [vT WriteArray.l,vS p10 WriteSubs c10,vI ValueKind,vI ValueNum,vS p6 y.Value.Index.Coefs c6,vI y.Value.Index.Const,vT y.Value.Read.Array.l,vS p7 y.Value.Read.Subs c7,vS p11 ValueKids c11],hO zA (vS p10 WriteSubs c10) cs2,hO zD (vS p11 ValueKids c11) cs3,hB b1 [vT ([]),z0,vI 0,vI 0,z0,vI 0,vT ([]),z0,z0]]∧m'=[(4,vP b1 0),(5,vP b2 0)]) ?_ ?_
 · have H:=iS I02;refine yH ho0 ?_ ?_
   · intro hc N;refine zM<|yF 1 [] [12] rfl<|nM (rT [(⟨[69]⟩:Str),(⟨[]⟩:Str),(⟨[65,66]⟩:Str),(⟨[97]⟩:Str)]) ?_;intro b3 I04 le3 h16;have ⟨h11,h5,h8,H⟩:=m4 le3 h11 h5 h8 H;obtain ⟨⟨y5,y6⟩,hy2,N⟩:=zC N;refine rA (mD y3 ([(⟨[69]⟩:Str),(⟨[]⟩:Str),(⟨[65,66]⟩:Str),(⟨[97]⟩:Str)]:List Str) _ hy2 h11 h16) rfl ?_;rintro I05 hs2 v2 k2 le4 - ⟨v02,kk1,rfl,rfl,rfl,h18⟩ -;have ⟨h5,h8,H⟩:=m3 le4 h5 h8 H;obtain ⟨p13,c13,rfl,h19⟩:=zY h18;exact yF 5 [] [16] rfl<|yZ 1 [vT y5.l,vS p5 y.Write.Subs c5,vI y.Value.Kind,vI y.Value.Num,vS p6 y.Value.Index.Coefs c6,vI y.Value.Index.Const,vT y.Value.Read.Array.l,vS p7 y.Value.Read.Subs c7,vS p8 y.Value.Kids c8] rfl<|zZ rfl<|yM<|zR ⟨_,_,_,_,_,_,_,_,_,_,_,_,_,_,(zB N).symm,H,h5,h8,h19,rfl,rfl⟩
   intro hc N;refine yO [17] rfl<|zI ?_;obtain ⟨o01,ho01,hMc1⟩:=zC N;refine oH (fun I' hs' m'=>∃ (WriteSubs1:List zA) (ValueKind1:Int) (ValueNum1:Int) (ValueKids1:List zD) (x1:zJ) (p14:Option Addr) (c14:Nat) (cs4:List Value) (p15:Option Addr) (c15:Nat) (cs5:List Value) (p16:Option Addr) (c16:Nat),o01=(WriteSubs1,ValueKind1,ValueNum1,ValueKids1,x1)∧I02.le I'∧(RL I' cs4 WriteSubs1)∧(RL I' cs5 ValueKids1)∧(S4 I' p16 x1.b c16)∧hs'=[hB r01 (cRd x1 p16 c16),hB b2 [vT y.Write.Array.l,vS p14 WriteSubs1 c14,vI ValueKind1,vI ValueNum1,vS p6 y.Value.Index.Coefs c6,vI y.Value.Index.Const,vT y.Value.Read.Array.l,vS p7 y.Value.Read.Subs c7,vS p15 ValueKids1 c15],hO zA (vS p14 WriteSubs1 c14) cs4,hO zD (vS p15 ValueKids1 c15) cs5,hB b1 [vT ([]),z0,vI 0,vI 0,z0,vI 0,vT ([]),z0,z0]]∧m'=[(4,vP b1 0),(5,vP b2 0)]) ?_ ?_
   · have H:=iS I02;refine yH ho01 ?_ ?_
     · intro hc1 N;obtain ⟨y7,hy3,N⟩:=zC N;obtain ⟨y8,hy4,N⟩:=zC N;obtain ⟨l,hy5,N⟩:=zC N;refine wZ [.p (vP b2 0) [],.p (vP b2 1) [],.p (vS p5 y.Write.Subs c5) [1],.x (eVAff y7),.x (fun I' v hx=>∃ p18 c18 cs7,v=vA (cAff y8 p18 c18)∧hx=[hO Int (vS p18 y8.Coefs c18) cs7]∧(RL I' cs7 y8.Coefs)),.x (fun I' v hx=>∃ b4,v=vS (some ⟨b4,0,none⟩) ([y7,y8]:List zA) 2∧hx=[]∧(SL I' (vS (some ⟨b4,0,none⟩) ([y7,y8]:List zA) 2) ([y7,y8]:List zA))),.x (fun I' v hx=>∃ p19 c19 cs8,v=vS p19 l c19∧hx=[hO zA (vS p19 l c19) cs8]∧(RL I' cs8 l))] [[],[(0,false)],[(1,false)],[],[],[(3,false),(4,true)],[(2,false),(5,false),(10,true)]] [hB r01 (cRd y3 p9 c9),hB b2 (cStmt y p5 c5 p6 c6 p7 c7 p8 c8),hO zD (vS p8 y.Value.Kids c8) cs1,hB b1 [vT ([]),z0,vI 0,vI 0,z0,vI 0,vT ([]),z0,z0]] [[hO zA (vS p5 y.Write.Subs c5) cs]] [(6,true)] (yB [0,1,3,4,2]) ?_ ?_
       · refine Op<|Op<|Op<|Ox ?_<|Ox ?_<|Ox ?_<|Ox ?_<|On
         · intro I1 hf le1;refine jM [] ?_;have H:=iS I1;refine xM (jC 3 _ hy3 ) ?_;rintro I07 hs2 v2 k2 le5 - ⟨v04,rfl,rfl,⟨cs6,rfl,h23⟩⟩ -;have H:=H.trans le5;obtain ⟨p17,c17,rfl,h24⟩:=yD h23;exact yW [] H ⟨_,_,rfl,rfl,h24⟩
         · intro I1 hf le1;refine jM [] ?_;have H:=iS I1;refine xM (oK  _ hy4 ) ?_;rintro I08 hs2 v2 k2 le6 - ⟨p18,c18,cs7,rfl,rfl,h25⟩ -;have H:=H.trans le6;exact yW [hO Int (vS p18 y8.Coefs c18) cs7] H ⟨_,_,_,rfl,rfl,h25⟩
         · rintro I1 hf le1 _ _ ⟨p17,c17,rfl,rfl,h24⟩ _ _ ⟨p18,c18,cs7,rfl,rfl,h25⟩;refine yY [22,23] rfl ?_;have H:=iS I1;refine vZ 0 rfl ?_;intro I09 le7 hl02;have h26:=SL.of_frozen hl02 le7 h25;have ⟨h24,H⟩:=m2 le7 h24 H;refine nM (rc y7 (yC ⟨_,rfl,h24⟩) (rc y8 (yC ⟨_,rfl,h26⟩) rN)) ?_;intro b4 I010 le8 h28;have H:=H.trans le8;exact yW [] H ⟨_,rfl,rfl,h28⟩
         rintro I1 hf le1 _ _ ⟨rfl,rfl⟩ _ _ ⟨b4,rfl,rfl,h28⟩ _ _ rfl;refine yY [21,24] rfl ?_;have h5:=iM le1 h5;obtain ⟨ccs,k0,k01⟩:=h28;have h28:SL I1 (vS (some ⟨b4,0,none⟩) ([y7,y8]:List zA) 2) ([y7,y8]:List zA):=⟨_,k0,k01⟩;exact nO 43 2 0 rfl rfl rfl h5 (.inl k0) k01 hy5 fun p19 c19 cs8 h29=>qI (hs':=(hO zA (vS p19 l c19) cs8::hB r01 (cRd y3 p9 c9)::hB b2 (cStmt y p5 c5 p6 c6 p7 c7 p8 c8)::hO zD (vS p8 y.Value.Kids c8) cs1::hB b1 [vT ([]),z0,vI 0,vI 0,z0,vI 0,vT ([]),z0,z0]::hf)) rfl<|yW [hO zA (vS p19 l c19) cs8] iR ⟨_,_,_,rfl,rfl,h29⟩
       rintro I011 le9 _ _ ⟨p19,c19,cs8,rfl,rfl,h29⟩;refine yY [4,5,25] rfl ?_;have ⟨h11,h8,H⟩:=m3 le9 h11 h8 H;exact yF 9 [] [27] rfl<|yZ 2 [vT y.Write.Array.l,vS p19 l c19,vI y.Value.Kind,vI y.Value.Num,vS p6 y.Value.Index.Coefs c6,vI y.Value.Index.Const,vT y.Value.Read.Array.l,vS p7 y.Value.Read.Subs c7,vS p8 y.Value.Kids c8] rfl<|zZ rfl<|xQ (zX [1,2,0,3,4] rfl (by decide))<|yM<|zR ⟨_,_,_,_,_,_,_,_,_,_,_,_,_,(zB N).symm,H,h29,h8,h11,rfl,rfl⟩
     intro hc1 N;refine yO [28] rfl<|zI ?_;obtain ⟨o02,ho02,hMc2⟩:=zC N;refine oH (fun I' hs' m'=>∃ (ValueKind2:Int) (ValueNum2:Int) (ValueKids2:List zD) (x2:zJ) (p20:Option Addr) (c20:Nat) (cs9:List Value) (p21:Option Addr) (c21:Nat),o02=(ValueKind2,ValueNum2,ValueKids2,x2)∧I02.le I'∧(RL I' cs9 ValueKids2)∧(S4 I' p21 x2.b c21)∧hs'=[hB r01 (cRd x2 p21 c21),hB b2 [vT y.Write.Array.l,vS p5 y.Write.Subs c5,vI ValueKind2,vI ValueNum2,vS p6 y.Value.Index.Coefs c6,vI y.Value.Index.Const,vT y.Value.Read.Array.l,vS p7 y.Value.Read.Subs c7,vS p20 ValueKids2 c20],hO zA (vS p5 y.Write.Subs c5) cs,hO zD (vS p20 ValueKids2 c20) cs9,hB b1 [vT ([]),z0,vI 0,vI 0,z0,vI 0,vT ([]),z0,z0]]∧m'=[(4,vP b1 0),(5,vP b2 0)]) ?_ ?_
     · have H:=iS I02;refine yH ho02 ?_ ?_
       · intro hc2 N;refine zM<|yF 1 [] [30] rfl<|nM (rI [0,7,1,4,2]) ?_;intro b5 I013 le10 h33;have ⟨h11,h8,H⟩:=m3 le10 h11 h8 H;obtain ⟨⟨y10,y11⟩,hy6,N⟩:=zC N;refine rA (xG y3 ([0,7,1,4,2]:List Int) _ hy6 h11 h33) rfl ?_;rintro I014 hs2 v2 k2 le11 - ⟨v06,kk2,rfl,rfl,rfl,h35⟩ -;have ⟨h8,H⟩:=m2 le11 h8 H;obtain ⟨p22,c22,rfl,h36⟩:=zY h35;exact yF 5 [] [34] rfl<|yZ 1 [vT y.Write.Array.l,vS p5 y.Write.Subs c5,vI y10,vI y.Value.Num,vS p6 y.Value.Index.Coefs c6,vI y.Value.Index.Const,vT y.Value.Read.Array.l,vS p7 y.Value.Read.Subs c7,vS p8 y.Value.Kids c8] rfl<|zZ rfl<|yM<|zR ⟨_,_,_,_,_,_,_,_,_,(zB N).symm,H,h8,h36,rfl,rfl⟩
       intro hc2 N;refine yO [35] rfl<|zI ?_;obtain ⟨o03,ho03,hMc3⟩:=zC N;refine oH (fun I' hs' m'=>∃ (ValueNum3:Int) (ValueKids3:List zD) (x3:zJ) (p23:Option Addr) (c23:Nat) (cs10:List Value) (p24:Option Addr) (c24:Nat),o03=(ValueNum3,ValueKids3,x3)∧I02.le I'∧(RL I' cs10 ValueKids3)∧(S4 I' p24 x3.b c24)∧hs'=[hB r01 (cRd x3 p24 c24),hB b2 [vT y.Write.Array.l,vS p5 y.Write.Subs c5,vI y.Value.Kind,vI ValueNum3,vS p6 y.Value.Index.Coefs c6,vI y.Value.Index.Const,vT y.Value.Read.Array.l,vS p7 y.Value.Read.Subs c7,vS p23 ValueKids3 c23],hO zA (vS p5 y.Write.Subs c5) cs,hO zD (vS p23 ValueKids3 c23) cs10,hB b1 [vT ([]),z0,vI 0,vI 0,z0,vI 0,vT ([]),z0,z0]]∧m'=[(4,vP b1 0),(5,vP b2 0)]) ?_ ?_
       · have H:=iS I02;refine yH ho03 ?_ ?_
         · intro hc3 N;refine zM<|yF 1 [] [37] rfl<|nM (rI [100,(-1),1]) ?_;intro b6 I016 le12 h40;have ⟨h11,h8,H⟩:=m3 le12 h11 h8 H;obtain ⟨⟨y13,y14⟩,hy7,N⟩:=zC N;refine rA (xG y3 ([100,(-1),1]:List Int) _ hy7 h11 h40) rfl ?_;rintro I017 hs2 v2 k2 le13 - ⟨v08,kk3,rfl,rfl,rfl,h42⟩ -;have ⟨h8,H⟩:=m2 le13 h8 H;obtain ⟨p25,c25,rfl,h43⟩:=zY h42;exact yF 5 [] [41] rfl<|yZ 1 [vT y.Write.Array.l,vS p5 y.Write.Subs c5,vI y.Value.Kind,vI y13,vS p6 y.Value.Index.Coefs c6,vI y.Value.Index.Const,vT y.Value.Read.Array.l,vS p7 y.Value.Read.Subs c7,vS p8 y.Value.Kids c8] rfl<|zZ rfl<|yM<|zR ⟨_,_,_,_,_,_,_,_,(zB N).symm,H,h8,h43,rfl,rfl⟩
         intro hc3 N;refine yO [42] rfl<|zI ?_;obtain ⟨o04,ho04,hMc4⟩:=zC N;refine oH (fun I' hs' m'=>∃ (ValueKids4:List zD) (p26:Option Addr) (c26:Nat) (cs11:List Value),o04=ValueKids4∧I02.le I'∧(RL I' cs11 ValueKids4)∧hs'=[hB r01 (cRd y3 p9 c9),hB b2 [vT y.Write.Array.l,vS p5 y.Write.Subs c5,vI y.Value.Kind,vI y.Value.Num,vS p6 y.Value.Index.Coefs c6,vI y.Value.Index.Const,vT y.Value.Read.Array.l,vS p7 y.Value.Read.Subs c7,vS p26 ValueKids4 c26],hO zA (vS p5 y.Write.Subs c5) cs,hO zD (vS p26 ValueKids4 c26) cs11,hB b1 [vT ([]),z0,vI 0,vI 0,z0,vI 0,vT ([]),z0,z0]]∧m'=[(4,vP b1 0),(5,vP b2 0)]) ?_ ?_
         · have H:=iS I02;refine yH ho04 ?_ ?_
           · intro hc4 N;refine zM<|sH 4 [1] [(46,vS p8 y.Value.Kids c8),(47,vA [vI 1,vI 0,z0,vI 0,vT ([]),z0,z0])]<|qB [vI 1,vI 0,z0,vI 0,vT ([]),z0,z0] zD ?_;intro b7 hb7;have h45:RL I02 [vI 1,vI 0,z0,vI 0,vT ([]),z0,z0] ([(zD.mk 1 0 (zA.mk ([]:List Int) 0) (zF.mk (⟨[]⟩:Str) ([]:List zA)) ([]:List zD))]:List zD):=⟨[vI 1,vI 0,z0,vI 0,vT ([]),z0,z0],_,rfl,rfl,(xI ⟨_,_,_,rfl,(SL.nil _),(SL.nil _),(SL.nil _)⟩),rfl⟩;obtain ⟨l1,hy8,N⟩:=zC N;refine nO 46 7 4 rfl rfl rfl h8 (.inr ⟨0,rfl⟩) h45 hy8 ?_;intro p27 c27 cs12 h46;exact qH (yB [1,2,3,4,5] (hs':=[hB r01 (cRd y3 p9 c9),hB b2 (cStmt y p5 c5 p6 c6 p7 c7 p8 c8),hO zA (vS p5 y.Write.Subs c5) cs,hO zD (vS p27 l1 c27) cs12,hB b1 [vT ([]),z0,vI 0,vI 0,z0,vI 0,vT ([]),z0,z0]]))<|yF 8 [] [51] rfl<|yZ 1 [vT y.Write.Array.l,vS p5 y.Write.Subs c5,vI y.Value.Kind,vI y.Value.Num,vS p6 y.Value.Index.Coefs c6,vI y.Value.Index.Const,vT y.Value.Read.Array.l,vS p7 y.Value.Read.Subs c7,vS p27 l1 c27] rfl<|zZ rfl<|yM<|zR ⟨_,_,_,_,(zB N).symm,H,h46,rfl,rfl⟩
           intro hc4 N;exact zT<|yM<|zR ⟨_,_,_,_,(zB N).symm,H,h8,rfl,rfl⟩
         rintro I018 hs2 m2 ⟨ValueKids4,p26,c26,cs11,heq,le14,h44,rfl,rfl⟩;subst o04;have ⟨h11,H⟩:=m2 le14 h11 H;exact yM<|zR ⟨_,_,_,_,_,_,_,_,(zB hMc4).symm,H,h44,h11,rfl,rfl⟩
       rintro I015 hs2 m2 ⟨ValueNum3,ValueKids3,x3,p23,c23,cs10,p24,c24,heq1,le15,h37,h38,rfl,rfl⟩;subst o03;have H:=H.trans le15;exact yM<|zR ⟨_,_,_,_,_,_,_,_,_,(zB hMc3).symm,H,h37,h38,rfl,rfl⟩
     rintro I012 hs2 m2 ⟨ValueKind2,ValueNum2,ValueKids2,x2,p20,c20,cs9,p21,c21,heq2,le16,h30,h31,rfl,rfl⟩;subst o02;have ⟨h5,H⟩:=m2 le16 h5 H;exact yM<|zR ⟨_,_,_,_,_,_,_,_,_,_,_,_,_,(zB hMc2).symm,H,h5,h30,h31,rfl,rfl⟩
   rintro I06 hs2 m2 ⟨WriteSubs1,ValueKind1,ValueNum1,ValueKids1,x1,p14,c14,cs4,p15,c15,cs5,p16,c16,heq3,le17,h20,h21,h22,rfl,rfl⟩;subst o01;have H:=H.trans le17;exact yM<|zR ⟨_,_,_,_,_,_,_,_,_,_,_,_,_,_,(zB hMc1).symm,H,h20,h21,h22,rfl,rfl⟩
 rintro I03 hs2 m2 ⟨WriteArray,WriteSubs,ValueKind,ValueNum,ValueKids,x,p10,c10,cs2,p11,c11,cs3,p12,c12,heq4,le18,h12,h13,h14,rfl,rfl⟩;subst o0;have ⟨h6,h7⟩:=m2 le18 h6 h7;refine zQ<|yX<|sH 1 [1] [(52,vA [vT WriteArray.l,vS p10 WriteSubs c10,vI ValueKind,vI ValueNum,vS p6 y.Value.Index.Coefs c6,vI y.Value.Index.Const,vT y.Value.Read.Array.l,vS p7 y.Value.Read.Subs c7,vS p11 ValueKids c11])]<|yZ 4 [vT WriteArray.l,vS p10 WriteSubs c10,vI ValueKind,vI ValueNum,vS p6 y.Value.Index.Coefs c6,vI y.Value.Index.Const,vT y.Value.Read.Array.l,vS p7 y.Value.Read.Subs c7,vS p11 ValueKids c11] rfl<|zZ rfl<|xE<|xN 2 rfl ?_;intro I019 le19 hl06;have h47:=SL.of_frozen hl06 le19 h12;have ⟨h14,h6,h7,h13⟩:=m4 le19 h14 h6 h7 h13;refine xN 2 rfl ?_;intro I020 le20 hl07;have h48:=SL.of_frozen hl07 le20 h13;have ⟨h14,h47,h6,h7⟩:=m4 le20 h14 h47 h6 h7;obtain rfl:=zB hMc;exact xB ⟨_,_,(.cell 2 rfl rfl (by kernel_rfl) ResV.nil),(zX [0] rfl (by decide)),⟨_,_,rfl,rfl,⟨_,rfl,(xU ⟨_,_,_,_,rfl,h47,h6,h7,h48⟩)⟩,(yR ⟨_,rfl,h14⟩)⟩⟩
def vH (n0:Int):Option (zA):=do
 let y←rW
 pure (zA.mk y.Coefs n0)
theorem sA:∀ n0 r,vH n0=some r→∀ {I:Imm} ,RT 169 [vI n0] I [] (kS  r):=by
 intro n0 r N I;unfold vH at N;refine yI Tryz.func169 fun B=>yG<|wK [z0,vI 0] ?_;intro b hb;refine zZ rfl<|yX<|bE N fun y hy N=>xM (oK  _ hy ) ?_;rintro I0 hs2 v2 k2 le - ⟨p,c,cs,rfl,rfl,h⟩ -;refine wK [z0,vI 0] ?_;intro b1 hb1;refine yZ 0 (cAff y p c) rfl<|zZ rfl<|yX<|yF 2 [] [5,6] rfl<|yZ 0 [vS p y.Coefs c,vI n0] rfl<|zZ rfl<|yX<|sH 1 [0] [(7,vA [vS p y.Coefs c,vI n0])]<|yZ 2 [vS p y.Coefs c,vI n0] rfl<|zZ rfl<|zI<|yS ?_;obtain rfl:=zB N;exact xB ⟨_,_,(.cell 2 rfl rfl (by kernel_rfl) ResV.nil),(zX [1] rfl (by decide)),⟨_,_,_,rfl,rfl,h⟩⟩
end Go.LN
