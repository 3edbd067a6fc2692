/- Helper of the proof (see the last text). -/
import Derived.Test.YtgempbddefdamaaGreatLnA
import Derived.Test.YtgempbddefdamaaGreatLnI
import Derived.Test.YtgempbddefdamaaGreatLnP
import Derived.Test.YtgempbddefdamaaGreatTryzShelf
import Derived.Test.YtgempbddefdamaaGreatHM1
import Derived.Test.YtgempbddefdamaaGreatHM2
import Derived.Test.YtgempbddefdamaaGreatHM3
import Derived.Test.YtgempbddefdamaaGreatHM4
import Derived.Test.YtgempbddefdamaaGreatHM5
import Derived.Test.YtgempbddefdamaaGreatHM6
import Derived.Test.YtgempbddefdamaaGreatHM7
import Derived.Test.YtgempbddefdamaaGreatHM8
import Derived.Test.YtgempbddefdamaaGreatQT
import Derived.Test.YtgempbddefdamaaGreatQZ
import Derived.Test.YtgempbddefdamaaGreatVB1
import Derived.Test.YtgempbddefdamaaGreatVB8
import Derived.Test.YtgempbddefdamaaGreatLnR
set_option linter.unusedVariables false
set_option linter.unusedSimpArgs false
namespace Go.LN
structure spec_l6Use where
  reads:List Int
  write:Int
instance:Rp spec_l6Use where
  sz:=2
  pos:=by decide
  rep i cs s:=∃ v0:Value,cs=[v0,.int .i64 s.write]∧SL i v0 s.reads
  len h:=by obtain ⟨v0,rfl,h0⟩:=h; rfl
  mono hm h:=by obtain ⟨v0,e,h0⟩:=h; exact ⟨v0,e,h0.mono hm⟩
  one h:=by obtain ⟨v0,rfl,h0⟩:=h; simp [zAQ,h0.one]
theorem spec_l6Use_open {i:Imm}{cs:List Value}{s:spec_l6Use} (h:Rp.rep i cs s):∃ v0:Value,cs=[v0,.int .i64 s.write]∧SL i v0 s.reads:=h
theorem spec_l6Use_shut {i:Imm}{cs:List Value}{s:spec_l6Use} (h:∃ v0:Value,cs=[v0,.int .i64 s.write]∧SL i v0 s.reads):Rp.rep i cs s:=h
instance:Vr spec_l6Use:=⟨fun i v a=>∃ cs,v=.agg ⟨cs⟩∧Rp.rep i cs a,fun hl ⟨cs,e,h⟩=>⟨cs,e,Rp.mono hl h⟩⟩
end Go.LN
namespace Go.LN
open Go.Proofs
set_option maxRecDepth 20000
def laws_lnInts_post (r:Bool):KT:=fun kk imm' hs' v=>
  ∃ v0,hs'=[]∧v=tupV [v0]∧v0=.bool r
def M.laws_lnInts_l1 (a0:(List Int)) (b:(List Int)) (i:Int):Option (Out Unit (Bool)):=do
 if (decide (i < (a0.length:Int))) then
  let x←idx a0 i
  let x1←idx b i
  if (x != x1) then
   pure (.ret false)
  else
   M.laws_lnInts_l1 a0 b (W (i + 1))
 else
  pure (.done ())
 partial_fixpoint
theorem laws_lnInts_l1_ok (a0:(List Int)) (b:(List Int)):∀ (i:Int) (o:Out Unit (Bool)),M.laws_lnInts_l1 a0 b i=some o→∀ {B}{imm0 imm:Imm}{Q p c p1 c1},imm0.le imm→(S4 imm p a0 c)→(S4 imm p1 b c1)→(∀ gl a w,¬Q (.goto gl) a w)→(∀ a w,¬Q .outgrown a w)→(∀ (imm':Imm) ,o=(.done ())→imm0.le imm'→T 26 B Q (.exit 0) imm' [] [])→(∀ r imm' hs' m',o=(.ret r)→imm0.le imm'→RS Tryz.prog Tryz.f12 B (laws_lnInts_post  r) imm' hs' m'→T 26 B Q .ret imm' hs' m')→J Tryz.prog 26 B (nav (bodyOf Tryz.f12) [1,1,0,1,0]) Q imm [] [(0,vS p a0 c),(1,vS p1 b c1),(5,vI i)]:=by
 refine M.laws_lnInts_l1.partial_correctness a0 b _ ?_;intro self ih i o hM B imm0 imm Q p c p1 c1 hle h h1 hg ho hx hr;refine xC hg ho<|zF<|zF<|zB<|yA [] [(14,.bool (decide (i < (a0.length:Int))))]<|zE<|yO hM ?_ ?_
 · intro hc1 hM;refine yE<|zE<|zF<|yC<|zF<|jF (by kernel_rfl) (by kernel_rfl)<|eU 2 [] [(17,vS p a0 c),(18,vI i)] ?_;obtain ⟨x,hy,hM⟩:=zC hM;refine zDb rfl rfl h hy ?_;intro ad ccs hat hrep;obtain rfl:=hrep;refine zDa 0 hat [vI x] (vI x) rfl<|eU 6 [] [(21,vS p1 b c1),(22,vI i)] ?_;obtain ⟨x1,hy1,hM⟩:=zC hM;refine zDb rfl rfl h1 hy1 ?_;intro ad1 ccs1 hat1 hrep1;obtain rfl:=hrep1;refine zDa 0 hat1 [vI x1] (vI x1) rfl<|zCt [] [(25,.bool (x != x1))]<|zE<|yO hM ?_ ?_
   · intro hc2 hM;exact zF<|zB<|yA [] [(4,.bool false)]<|zE<|yJ<|yF<|zR<|zR<|hr _ _ _ _ (zD hM).symm hle ⟨_,_,(.tmp rfl ResV.nil),zX,⟨_,rfl,rfl,rfl⟩⟩
   intro hc2 hM;exact yE<|zY<|zE<|zB<|yA [] [(5,vI (W (i + 1)))]<|xD<|vQ [(0,vS p a0 c),(1,vS p1 b c1),(5,vI (W (i + 1)))]<|ih (W (i + 1)) _ hM hle h h1 hg ho hx hr
 intro hc1 hM;exact xA<|zS<|zS<|yT []<|hx _  (zD hM).symm hle
def M.laws_lnInts (a0:(List Int)) (b:(List Int)):Option (Bool):=do
 if ((a0.length:Int) != (b.length:Int)) then
  pure false
 else
  match←M.laws_lnInts_l1 a0 b 0 with
  | .ret r0=>pure r0
  | .done _ =>
   pure true
theorem laws_lnInts_ok:∀ (a0:(List Int)) (b:(List Int)) r,M.laws_lnInts a0 b=some r→∀ {imm:Imm}{p c p1 c1},(S4 imm p a0 c)→(S4 imm p1 b c1)→Ret Tryz.prog 12 [vS p a0 c,vS p1 b c1] imm [] (laws_lnInts_post  r):=by
 intro a0 b r hM imm p c p1 c1 h h1;unfold M.laws_lnInts at hM;refine yG (fn:=Tryz.f12) (c:=(bodyOf Tryz.f12)) Tryz.func12 rfl rfl ?_;rintro B - -;refine zF<|zB<|yA [] []<|zE<|zF<|zF<|zB<|yA [] [(10,.bool ((a0.length:Int) != (b.length:Int)))]<|zE<|yO hM ?_ ?_
 · intro hc hM;refine zF<|zB<|yA [] [(4,.bool false)]<|zE<|yJ<|zR ?_;obtain rfl:=zD hM;exact yQ ⟨_,_,(.tmp rfl ResV.nil),zX,⟨_,rfl,rfl,rfl⟩⟩
 intro hc hM;refine yE<|zE<|zF<|zF<|zB<|yA [] [(5,vI 0)]<|zE<|yC<|vQ [(0,vS p a0 c),(1,vS p1 b c1),(5,vI 0)] ?_;obtain ⟨o0,ho0,hMl⟩:=zC hM;refine laws_lnInts_l1_ok a0 b 0 o0 ho0 iR h h1 (fun _ _ _ h=>h) (fun _ _ h=>h) ?_ ?_
 · intro imm0  heq le;subst o0;refine yD<|zE<|zF<|zB<|yA [] [(4,.bool true)]<|zE<|yJ ?_;obtain rfl:=zD hMl;exact yQ ⟨_,_,(.tmp rfl ResV.nil),zX,⟨_,rfl,rfl,rfl⟩⟩
 intro r0 imm9 hs9 m9 heq9 le9 hrs9;subst heq9;refine yF<|zR ?_;obtain rfl:=zD hMl;exact yQ hrs9
def spec_ProgramInstances_post (r:(List zT)):KT:=fun kk imm' hs' v=>
  ∃ v0,hs'=[]∧v=tupV [v0]∧SL imm' v0 r
def M.spec_ProgramInstances (p:zV):Option ((List zT)):=do
 let y←tK p
 if (!y) then
  pure ([]:List zT)
 else
  let y1←rS p
  pure (id y1)
theorem spec_ProgramInstances_ok:∀ (p:zV) r,M.spec_ProgramInstances p=some r→∀ {imm:Imm}{p1 c p2 c1},(S4 imm p1 p.Arrays c)→(S4 imm p2 p.Parts c1)→Ret Tryz.prog 89 [vA (cProg p p1 c p2 c1)] imm [] (spec_ProgramInstances_post  r):=by
 intro p r hM imm p1 c p2 c1 h h1;unfold M.spec_ProgramInstances at hM;refine yG (fn:=Tryz.f89) (c:=(bodyOf Tryz.f89)) Tryz.func89 rfl rfl ?_;rintro B - -;refine zF<|zB<|tR (cProg p p1 c p2 c1) ?_;intro b hb;refine yA [] []<|zE<|zF<|zF<|zB<|yK 1 [0] [(3,vA (cProg p p1 c p2 c1))] ?_;obtain ⟨y,hy,hM⟩:=zC hM;refine yR (dT p _ hy h h1) ?_;rintro imm0 hs2 v2 k2 le - ⟨v0,rfl,rfl,rfl⟩ -;have h:=h.mono le;have h1:=h1.mono le;refine yA [] [(5,.bool (!y))]<|zE<|yO hM ?_ ?_
 · intro hc hM;refine zF<|zB<|xQ [] zT ?_;intro b1 hb1;have h3:RL imm0 [] ([]:List zT):=rfl;refine yA [] [(2,vS (some ⟨b1,0,none⟩) ([]:List zT) 0)]<|zE<|yJ<|zR<|xI 0 rfl ?_;intro imm01 le1 hl0;have h4:=SL.of_frozen hl0 le1 h3;obtain rfl:=zD hM;exact yQ ⟨_,_,(.tmp rfl ResV.nil),zX,⟨_,rfl,rfl,h4⟩⟩
 intro hc hM;refine yE<|zE<|zF<|zB<|yK 1 [0] [(7,vA (cProg p p1 c p2 c1))] ?_;obtain ⟨y1,hy1,hM⟩:=zC hM;refine yR (zGB p _ hy1 h h1) ?_;rintro imm02 hs2 v2 k2 le2 - ⟨v01,rfl,rfl,h5⟩ -;obtain ⟨p3,c2,rfl⟩:=h5.form;refine yA [] [(2,vS p3 y1 c2)]<|zE<|yJ ?_;obtain rfl:=zD hM;exact yQ ⟨_,_,(.tmp rfl ResV.nil),zX,⟨_,rfl,rfl,h5⟩⟩
def spec_l6Index_post (b0:Nat) (r:Int×zO):KT:=fun kk imm' hs' v=>
  ∃ v0 k0,hs'=[.blk b0 ⟨k0⟩]∧v=tupV [v0]∧v0=.int .i64 r.1∧Rp.rep imm' k0 r.2
def M.spec_l6Index (r0:zO) (p1:zV):Option (Int×zO):=do
 let y←M.spec_ProgramInstances p1
 let (t15,x)←(do
   if (decide ((y.length:Int) > 0)) then
    let (y2,y3)←yW r0 8
    pure ((decide (y2 > 0)),y3)
   else
    pure (false,r0)
     : Option (Bool×zO))
 if t15 then
  let (y5,y6)←yW x (y.length:Int)
  pure (y5,y6)
 else
  let (y8,y9)←yV x ([(-1),0,200,9223372036854775807]:List Int)
  pure (y8,y9)
theorem spec_l6Index_ok:∀ (r0:zO) (p1:zV) r,M.spec_l6Index r0 p1=some r→∀ {imm:Imm}{r01:Nat}{p c p2 c1 p3 c2},(S4 imm p r0.b c)→(S4 imm p2 p1.Arrays c1)→(S4 imm p3 p1.Parts c2)→Ret Tryz.prog 51 [vP r01 0,vA (cProg p1 p2 c1 p3 c2)] imm [hB r01 (cRd r0 p c)] (spec_l6Index_post r01 r):=by
 intro r0 p1 r hM imm r01 p c p2 c1 p3 c2 h h1 h2;unfold M.spec_l6Index at hM;refine yG (fn:=Tryz.f51) (c:=(bodyOf Tryz.f51)) Tryz.func51 rfl rfl ?_;rintro B - -;have hle:=iS imm;refine zF<|zB<|tR (cProg p1 p2 c1 p3 c2) ?_;intro b hb;refine yA [] []<|zE<|zF<|zB<|yK 1 [0] [(6,vA (cProg p1 p2 c1 p3 c2))] ?_;obtain ⟨y,hy,hM⟩:=zC hM;refine yR (spec_ProgramInstances_ok p1 _ hy h1 h2) ?_;rintro imm0 hs2 v2 k2 le - ⟨v0,rfl,rfl,h3⟩ -;have h:=h.mono le;have hle:=hle.trans le;obtain ⟨p4,c3,rfl⟩:=h3.form;refine yA [] [(5,vI (y.length:Int))]<|zE<|zF<|zF ?_;obtain ⟨o0,ho0,hMc⟩:=zC hM;refine yU (fun imm' hs' m'=>∃ (t15:Bool) (x:zO) (p5:Option Addr) (c4:Nat),o0=(t15,x)∧imm0.le imm'∧(S4 imm' p5 x.b c4)∧hs'=[hB r01 (cRd x p5 c4)]∧m'=[(0,vP r01 0),(5,vI (y.length:Int)),(15,.bool t15)]) ?_ ?_
 · have hle:=iS imm0;refine zB<|yK 3 [] [(11,.bool (decide ((y.length:Int) > 0)))] ?_;cases hc:(decide ((y.length:Int) > 0)) with
   | true =>
    have hM0:=zW hc ho0
    try rw [hc]
    refine yK 4 [] [(12,vP r01 0)]<|rX (zK [1,0] (hs':=[hB r01 (cRd r0 p c),hB b (cProg p1 p2 c1 p3 c2)]) rfl (by decide)) ?_;obtain ⟨⟨y2,y3⟩,hy1,hM⟩:=zC hM0;refine sD [hB r01 (cRd r0 p c)] [hB b (cProg p1 p2 c1 p3 c2)] (xL r0 8 _ hy1 h) ?_;rintro imm02 hs2 v2 k2 le1 - ⟨v01,kk,rfl,rfl,rfl,h6⟩ -;have hle:=hle.trans le1;obtain ⟨v02,rfl,h7⟩:=yI h6;obtain ⟨p6,c5,rfl⟩:=h7.form;exact yA [] [(15,.bool (decide (y2 > 0)))]<|wD (zK [0] rfl (by decide))<|yT [(0,vP r01 0),(5,vI (y.length:Int)),(15,.bool (decide (y2 > 0)))]<|yB ⟨_,_,_,_,(zD hM).symm,hle,h7,rfl,rfl⟩
   | false =>
    have hM01:=zU hc ho0
    try rw [hc]
    exact yA [] [(15,.bool false)]<|wD (zK [1] rfl (by decide))<|yT [(0,vP r01 0),(5,vI (y.length:Int)),(15,.bool false)]<|yB ⟨_,_,_,_,(zD hM01).symm,hle,h,rfl,rfl⟩
 rintro imm01 hs2 m2 ⟨t15,x,p5,c4,heq,le2,h4,rfl,rfl⟩;subst o0;refine zE<|yO hMc ?_ ?_
 · intro hc1 hM;refine zF<|zB<|yK 2 [] [(16,vP r01 0),(17,vI (y.length:Int))] ?_;obtain ⟨⟨y5,y6⟩,hy2,hM⟩:=zC hM;refine sD [hB r01 (cRd x p5 c4)] [] (xL x (y.length:Int) _ hy2 h4) ?_;rintro imm03 hs2 v2 k2 le3 - ⟨v03,kk1,rfl,rfl,rfl,h9⟩ -;obtain ⟨v04,rfl,h10⟩:=yI h9;obtain ⟨p7,c6,rfl⟩:=h10.form;refine yA [] [(4,vI y5)]<|zE<|yJ<|zR ?_;obtain rfl:=zD hM;exact yQ ⟨_,_,(.tmp rfl ResV.nil),(zK [0] rfl (by decide)),⟨_,_,rfl,rfl,rfl,(yS ⟨_,rfl,h10⟩)⟩⟩
 intro hc1 hM;refine yE<|zE<|zF<|zB<|yK 1 [] [(19,vP r01 0)]<|xQ [vI (-1),vI 0,vI 200,vI 9223372036854775807] Int ?_;intro b1 hb1;have h11:RL imm01 [vI (-1),vI 0,vI 200,vI 9223372036854775807] ([(-1),0,200,9223372036854775807]:List Int):=⟨[vI (-1)],_,rfl,rfl,rfl,⟨[vI 0],_,rfl,rfl,rfl,⟨[vI 200],_,rfl,rfl,rfl,⟨[vI 9223372036854775807],_,rfl,rfl,rfl,rfl⟩⟩⟩⟩;refine yL 0 rfl ?_;intro imm04 le4 hl0;have h12:=SL.of_frozen hl0 le4 h11;have h4:=h4.mono le4;obtain ⟨⟨y8,y9⟩,hy3,hM⟩:=zC hM;refine sD [hB r01 (cRd x p5 c4)] [] (xF x ([(-1),0,200,9223372036854775807]:List Int) _ hy3 h4 h12) ?_;rintro imm05 hs2 v2 k2 le5 - ⟨v05,kk2,rfl,rfl,rfl,h14⟩ -;obtain ⟨v06,rfl,h15⟩:=yI h14;obtain ⟨p8,c7,rfl⟩:=h15.form;refine yA [] [(4,vI y8)]<|zE<|yJ ?_;obtain rfl:=zD hM;exact yQ ⟨_,_,(.tmp rfl ResV.nil),(zK [0] rfl (by decide)),⟨_,_,rfl,rfl,rfl,(yS ⟨_,rfl,h15⟩)⟩⟩
def spec_DrawFlowSources_post (r:zV×Int):KT:=fun kk imm' hs' v=>
  ∃ v0 v1,hs'=[]∧v=tupV [v0,v1]∧(∃ cs,v0=.agg ⟨cs⟩∧Rp.rep imm' cs r.1)∧v1=.int .i64 r.2
def M.spec_DrawFlowSources (code:(List UInt8)):Option (zV×Int):=do
 let y←mH code
 let (y2,y3)←kI y
 let (y5,y6)←qD y3 y2
 let (y8,y9)←M.spec_l6Index y6 y5
 pure (y5,y8)
theorem spec_DrawFlowSources_ok:∀ (code:(List UInt8)) r,M.spec_DrawFlowSources code=some r→∀ {imm:Imm}{p c},(S4 imm p code c)→Ret Tryz.prog 16 [vS p code c] imm [] (spec_DrawFlowSources_post  r):=by
 intro code r hM imm p c h;unfold M.spec_DrawFlowSources at hM;refine yG (fn:=Tryz.f16) (c:=(bodyOf Tryz.f16)) Tryz.func16 rfl rfl ?_;rintro B - -;have hle:=iS imm;refine zF<|zB<|uD zTwo ?_;intro b hb;refine yA [] []<|zE<|zF<|zB<|yK 1 [] [(6,vS p code c)] ?_;obtain ⟨y,hy,hM⟩:=zC hM;refine yR (zHG code _ hy h) ?_;rintro imm0 hs2 v2 k2 le - ⟨b1,p1,c1,rfl,rfl,h1⟩ -;have hle:=hle.trans le;refine yA [] [(4,vP b1 0)]<|zE<|zF<|zB<|yK 2 [] [(8,vP b1 0),(9,vP b1 0)] ?_;obtain ⟨⟨y2,y3⟩,hy1,hM⟩:=zC hM;refine sD [hB b1 (cRd y p1 c1)] [hB b zTwo] (zHb y _ hy1 h1) ?_;rintro imm01 hs2 v2 k2 le1 - ⟨v0,kk,rfl,rfl,⟨cs,rfl,h2⟩,h3⟩ -;have hle:=hle.trans le1;obtain ⟨v01,v02,rfl,h4,h5⟩:=zG6 h2;obtain ⟨p2,c2,rfl⟩:=h4.form;obtain ⟨p3,c3,rfl⟩:=h5.form;obtain ⟨v03,rfl,h6⟩:=yI h3;obtain ⟨p4,c4,rfl⟩:=h6.form;obtain ⟨⟨y5,y6⟩,hy2,hM⟩:=zC hM;refine sD [hB b1 (cRd y3 p4 c4)] [hB b zTwo] (zGs y3 y2 _ hy2 h6 h4 h5) ?_;rintro imm02 hs2 v2 k2 le2 - ⟨v04,kk1,rfl,rfl,⟨cs1,rfl,h7⟩,h8⟩ -;have hle:=hle.trans le2;obtain ⟨v05,v06,rfl,h9,h10⟩:=zG6 h7;obtain ⟨p5,c5,rfl⟩:=h9.form;obtain ⟨p6,c6,rfl⟩:=h10.form;obtain ⟨v07,rfl,h11⟩:=yI h8;obtain ⟨p7,c7,rfl⟩:=h11.form;refine uD zTwo ?_;intro b2 hb1;refine xJ 0 (cProg y5 p5 c5 p6 c6) [hB b2 (cProg y5 p5 c5 p6 c6),hB b1 (cRd y6 p7 c7),hB b zTwo] rfl rfl rfl rfl<|yN rfl<|zE<|zF ?_;obtain ⟨⟨y8,y9⟩,hy3,hM⟩:=zC hM;refine uA [.p (vA (cProg y5 p5 c5 p6 c6)) [0],.p (vP b1 0) [],.p (vA (cProg y5 p5 c5 p6 c6)) [0],.x (fun imm' v hx=>∃ p8 c8,v=vI y8∧hx=[hB b1 (cRd y9 p8 c8)]∧(S4 imm' p8 y9.b c8)),.x (fun imm' v hx=>hx=[hB b (cProg y5 p5 c5 p6 c6)])] [[],[],[],[(1,false),(2,false),(6,true)],[(0,false),(7,true)]] [hB b2 (cProg y5 p5 c5 p6 c6)] [[hB b1 (cRd y6 p7 c7)],[hB b zTwo]] [(3,true),(4,true)] (zK [0,1,2] rfl (by decide)) ?_ ?_
 · refine Op<|Op<|Op<|Ox ?_<|Ox ?_<|On
   · intro imm1 hf le1;refine zG ?_;rintro _ _ ⟨rfl,rfl⟩;refine zG ?_;rintro _ _ ⟨rfl,rfl⟩;refine zG ?_;rintro _ _ rfl;refine zN<|yH [(13,vP b1 0),(14,vA (cProg y5 p5 c5 p6 c6))] ?_;have hle:=iS imm1;have h9:=h9.mono le1;have h10:=h10.mono le1;have h11:=h11.mono le1;refine sD [hB b1 (cRd y6 p7 c7)] (hB b2 (cProg y5 p5 c5 p6 c6)::hf) (spec_l6Index_ok y6 y5 _ hy3 h11 h9 h10) ?_;rintro imm03 hs2 v2 k2 le3 - ⟨v08,kk2,rfl,rfl,rfl,h13⟩ -;have hle:=hle.trans le3;obtain ⟨v09,rfl,h14⟩:=yI h13;obtain ⟨p8,c8,rfl⟩:=h14.form;exact zZ (hx:=[hB b1 (cRd y9 p8 c8)]) rfl hle rfl (zM rfl) ⟨_,_,rfl,rfl,h14⟩
   intro imm1 hf le1;refine zG ?_;rintro _ _ ⟨rfl,rfl⟩;refine zG ?_;rintro _ _ rfl;refine zN<|yH [(2,vP b 0),(12,vA (cProg y5 p5 c5 p6 c6))] ?_;have hle:=iS imm1;exact xJ 0 (cProg y5 p5 c5 p6 c6) (hB b (cProg y5 p5 c5 p6 c6)::hB b2 (cProg y5 p5 c5 p6 c6)::hf) rfl rfl rfl rfl<|zZ (hx:=[hB b (cProg y5 p5 c5 p6 c6)]) rfl hle rfl (zF3 (v:=undef)) rfl
 intro imm04 le4;refine zG ?_;rintro _ _ ⟨p8,c8,rfl,rfl,h14⟩;refine zG ?_;rintro _ _ rfl;refine zN<|yH [(2,vP b 0),(15,vI y8)] ?_;have h9:=h9.mono le4;have h10:=h10.mono le4;refine yA [] [(3,vI y8)]<|zE<|yJ ?_;obtain rfl:=zD hM;exact yQ ⟨_,_,(.cell 0 rfl rfl (by kernel_rfl) (.tmp rfl ResV.nil)),zX,⟨_,_,rfl,rfl,⟨_,rfl,(nH ⟨_,_,rfl,h9,h10⟩)⟩,rfl⟩⟩
def impl_traced_sources_post (r:(List Int)):KT:=fun kk imm' hs' v=>
  ∃ v0,hs'=[]∧v=tupV [v0]∧SL imm' v0 r
def M.impl_traced_sources_l2 (t:oS) (x1:Int) (from0:Int):Option (Int):=do
 let t35←(do
   if (decide (from0 ≥ 0)) then
    let x2←idx t.writes from0
    pure (x2 != x1)
   else
    pure false
     : Option Bool)
 if t35 then
  M.impl_traced_sources_l2 t x1 (W (from0 - 1))
 else
  pure (id from0)
 partial_fixpoint
theorem impl_traced_sources_l2_ok (t:oS) (x1:Int):∀ (from0:Int) (o:Int),M.impl_traced_sources_l2 t x1 from0=some o→∀ {B}{imm0 imm:Imm}{Q}{to0:Int}{x:(List Int)}{out:List Int}{t17:Int}{ad:Addr}{p c p1 c1 p2 c2 p3 c3 p4 c4 p5 c5 p6 c6 cs},imm0.le imm→(S4 imm p t.Program.Arrays c)→(S4 imm p1 t.Program.Parts c1)→(S4 imm p2 t.list c2)→(S4 imm p3 t.reads c3)→(S4 imm p4 t.writes c4)→(At imm ad [vS p t.Program.Arrays c,vS p1 t.Program.Parts c1,vS p2 t.list c2,vS p3 t.reads c3,vS p4 t.writes c4])→(RL imm cs out)→(S4 imm p5 x c5)→(∀ gl a w,¬Q (.goto gl) a w)→(∀ a w,¬Q .outgrown a w)→(∀ (imm':Imm) (from01:Int),o=from01→imm0.le imm'→T 44 B Q (.exit 2) imm' [hO Int (vS p6 out c6) cs] [(0,.pointer (some ad)),(1,vI to0),(5,vS p6 out c6),(8,vI from01),(15,vS p5 x c5),(16,vI (x.length:Int)),(17,vI t17)])→J Tryz.prog 44 B (nav (bodyOf Tryz.f53) [1,1,0,1,0,0,1,1,0,0,1,1,0,0]) Q imm [hO Int (vS p6 out c6) cs] [(0,.pointer (some ad)),(1,vI to0),(5,vS p6 out c6),(7,vI x1),(8,vI from0),(15,vS p5 x c5),(16,vI (x.length:Int)),(17,vI t17)]:=by
 refine M.impl_traced_sources_l2.partial_correctness t x1 _ ?_;intro self ih from0 o hM B imm0 imm Q to0 x out t17 ad p c p1 c1 p2 c2 p3 c3 p4 c4 p5 c5 p6 c6 cs hle h h1 h2 h3 h4 hat h7 h5 hg ho hx;refine xC hg ho<|zF<|zF ?_;obtain ⟨o0,ho0,hMc⟩:=zC hM;refine yU (fun imm' hs' m'=>∃ (t35:Bool),o0=t35∧imm.le imm'∧hs'=[hO Int (vS p6 out c6) cs]∧m'=[(0,.pointer (some ad)),(1,vI to0),(5,vS p6 out c6),(7,vI x1),(8,vI from0),(15,vS p5 x c5),(16,vI (x.length:Int)),(17,vI t17),(35,.bool t35)]) ?_ ?_
 · have hle:=iS imm;refine zB<|yK 3 [] [(25,.bool (decide (from0 ≥ 0)))] ?_;cases hc1:(decide (from0 ≥ 0)) with
   | true =>
    have hM0:=zW hc1 ho0
    try rw [hc1]
    refine yK 6 [] [(28,.pointer (some (ad.add 4)))]<|xS 4 hat [vS p4 t.writes c4] (vS p4 t.writes c4) rfl<|yK 8 [] [(30,vI from0)] ?_;obtain ⟨x2,hy2,hM⟩:=zC hM0;refine wJ rfl rfl h4 hy2 ?_;intro ad3 ccs2 hat3 hrep2;obtain rfl:=hrep2;exact xS 0 hat3 [vI x2] (vI x2) rfl<|yA [] [(35,.bool (x2 != x1))]<|yT [(0,.pointer (some ad)),(1,vI to0),(5,vS p6 out c6),(7,vI x1),(8,vI from0),(15,vS p5 x c5),(16,vI (x.length:Int)),(17,vI t17),(35,.bool (x2 != x1))]<|yB ⟨_,(zD hM).symm,hle,rfl,rfl⟩
   | false =>
    have hM01:=zU hc1 ho0
    try rw [hc1]
    exact yA [] [(35,.bool false)]<|yT [(0,.pointer (some ad)),(1,vI to0),(5,vS p6 out c6),(7,vI x1),(8,vI from0),(15,vS p5 x c5),(16,vI (x.length:Int)),(17,vI t17),(35,.bool false)]<|yB ⟨_,(zD hM01).symm,hle,rfl,rfl⟩
 rintro imm0 hs2 m2 ⟨t35,heq,le,rfl,rfl⟩;subst o0;have h:=h.mono le;have h1:=h1.mono le;have h2:=h2.mono le;have h3:=h3.mono le;have h4:=h4.mono le;have hat:=hat.mono le;have h7:=iM le h7;have h5:=h5.mono le;have hle:=hle.trans le;refine zE<|yO hMc ?_ ?_
 · intro hc2 hM;exact yE<|zE<|yC<|zB<|yA [] [(8,vI (W (from0 - 1)))]<|zY<|xD<|vQ [(0,.pointer (some ad)),(1,vI to0),(5,vS p6 out c6),(7,vI x1),(8,vI (W (from0 - 1))),(15,vS p5 x c5),(16,vI (x.length:Int)),(17,vI t17)]<|ih (W (from0 - 1)) _ hM hle h h1 h2 h3 h4 hat h7 h5 hg ho hx
 intro hc2 hM;exact xA<|zS<|zS<|yT [(0,.pointer (some ad)),(1,vI to0),(5,vS p6 out c6),(8,vI from0),(15,vS p5 x c5),(16,vI (x.length:Int)),(17,vI t17)]<|hx _ _ (zD hM).symm hle
def M.impl_traced_sources_l1 (t:oS) (to0:Int) (x:(List Int)) (out:List Int) (t17:Int):Option (List Int):=do
 if (decide (t17 < (x.length:Int))) then
  let x1←idx x t17
  let from01←M.impl_traced_sources_l2 t x1 (W (to0 - 1))
  let out2←app 8 out ([from01]:List Int)
  M.impl_traced_sources_l1 t to0 x out2 (W (t17 + 1))
 else
  pure (id out)
 partial_fixpoint
theorem impl_traced_sources_l1_ok (t:oS) (to0:Int) (x:(List Int)):∀ (out:List Int) (t17:Int) (o:List Int),M.impl_traced_sources_l1 t to0 x out t17=some o→∀ {B}{imm0 imm:Imm}{Q}  {ad:Addr}{p c p1 c1 p2 c2 p3 c3 p4 c4 p5 c5 p6 c6 cs},imm0.le imm→(S4 imm p t.Program.Arrays c)→(S4 imm p1 t.Program.Parts c1)→(S4 imm p2 t.list c2)→(S4 imm p3 t.reads c3)→(S4 imm p4 t.writes c4)→(At imm ad [vS p t.Program.Arrays c,vS p1 t.Program.Parts c1,vS p2 t.list c2,vS p3 t.reads c3,vS p4 t.writes c4])→(S4 imm p5 x c5)→(RL imm cs out)→(∀ gl a w,¬Q (.goto gl) a w)→(∀ a w,¬Q .outgrown a w)→(∀ (imm':Imm) (out1:List Int) (p7:Option Addr) (c7:Nat) (cs1:List Value),o=out1→imm0.le imm'→(RL imm' cs1 out1)→T 44 B Q (.exit 0) imm' [hO Int (vS p7 out1 c7) cs1] [(5,vS p7 out1 c7)])→J Tryz.prog 44 B (nav (bodyOf Tryz.f53) [1,1,0,1,0]) Q imm [hO Int (vS p6 out c6) cs] [(0,.pointer (some ad)),(1,vI to0),(5,vS p6 out c6),(15,vS p5 x c5),(16,vI (x.length:Int)),(17,vI t17)]:=by
 refine M.impl_traced_sources_l1.partial_correctness t to0 x _ ?_;intro self ih out t17 o hM B imm0 imm Q ad p c p1 c1 p2 c2 p3 c3 p4 c4 p5 c5 p6 c6 cs hle h h1 h2 h3 h4 hat h5 h7 hg ho hx;refine xC hg ho<|zF<|zB<|yA [] [(18,.bool (decide (t17 < (x.length:Int))))]<|zE<|zF<|yO hM ?_ ?_
 · intro hc hM;refine yE<|zE<|zF<|yC<|zF<|zB ?_;obtain ⟨x1,hy1,hM⟩:=zC hM;refine wJ rfl rfl h5 hy1 ?_;intro ad2 ccs1 hat2 hrep1;obtain rfl:=hrep1;refine xS 0 hat2 [vI x1] (vI x1) rfl<|yA [] [(7,vI x1)]<|zE<|zF<|zB<|yA [] [(8,vI (W (to0 - 1)))]<|zE<|zF<|yC<|vQ [(0,.pointer (some ad)),(1,vI to0),(5,vS p6 out c6),(7,vI x1),(8,vI (W (to0 - 1))),(15,vS p5 x c5),(16,vI (x.length:Int)),(17,vI t17)] ?_;obtain ⟨o01,ho01,hMl⟩:=zC hM;refine impl_traced_sources_l2_ok t x1 (W (to0 - 1)) o01 ho01 iR h h1 h2 h3 h4 hat h7 h5 (fun _ _ _ h=>hg _ _ _ h) (fun _ _ h=>ho _ _ h) ?_;intro imm01 from01 heq1 le1;subst o01;have h:=h.mono le1;have h1:=h1.mono le1;have h2:=h2.mono le1;have h3:=h3.mono le1;have h4:=h4.mono le1;have hat:=hat.mono le1;have h7:=iM le1 h7;have h5:=h5.mono le1;have hle:=hle.trans le1;refine yD<|zE<|zB<|yK 2 [] [(38,vS p6 out c6),(39,vI from01)]<|xQ [vI from01] Int ?_;intro b hb;have h9:RL imm01 [vI from01] ([from01]:List Int):=⟨[vI from01],_,rfl,rfl,rfl,rfl⟩;obtain ⟨out2,hy3,hM⟩:=zC hMl;refine qI 3 1 1 rfl rfl rfl h7 (.inr ⟨0,rfl⟩) h9 hy3 ?_;intro p8 c8 cs2 h10;exact rX (zK [1] (hs':=[hO Int (vS p8 out2 c8) cs2]) rfl (by decide))<|yA [] [(5,vS p8 out2 c8)]<|zY<|zE<|zB<|yA [] [(17,vI (W (t17 + 1)))]<|xD<|vQ [(0,.pointer (some ad)),(1,vI to0),(5,vS p8 out2 c8),(15,vS p5 x c5),(16,vI (x.length:Int)),(17,vI (W (t17 + 1)))]<|ih out2 (W (t17 + 1)) _ hM hle h h1 h2 h3 h4 hat h5 h10 hg ho hx
 intro hc hM;exact xA<|zS<|zS<|yT [(5,vS p6 out c6)]<|hx _ _ _ _ _ (zD hM).symm hle h7
def M.impl_traced_sources (t:oS) (to0:Int):Option ((List Int)):=do
 let x←idx t.reads to0
 let out1←M.impl_traced_sources_l1 t to0 x ([]:List Int) 0
 pure (id out1)
theorem impl_traced_sources_ok:∀ (t:oS) (to0:Int) r,M.impl_traced_sources t to0=some r→∀ {imm:Imm}{ad:Addr}{p c p1 c1 p2 c2 p3 c3 p4 c4},(S4 imm p t.Program.Arrays c)→(S4 imm p1 t.Program.Parts c1)→(S4 imm p2 t.list c2)→(S4 imm p3 t.reads c3)→(S4 imm p4 t.writes c4)→(At imm ad [vS p t.Program.Arrays c,vS p1 t.Program.Parts c1,vS p2 t.list c2,vS p3 t.reads c3,vS p4 t.writes c4])→Ret Tryz.prog 53 [.pointer (some ad),vI to0] imm [] (impl_traced_sources_post  r):=by
 intro t to0 r hM imm ad p c p1 c1 p2 c2 p3 c3 p4 c4 h h1 h2 h3 h4 hat;unfold M.impl_traced_sources at hM;refine yG (fn:=Tryz.f53) (c:=(bodyOf Tryz.f53)) Tryz.func53 rfl rfl ?_;rintro B - -;refine zF<|zB<|yA [] []<|zE<|zF<|zB<|yA [] [(5,z0)]<|zE<|zF<|zF<|zB<|yK 3 [] [(11,.pointer (some (ad.add 3)))]<|xS 3 hat [vS p3 t.reads c3] (vS p3 t.reads c3) rfl<|yK 5 [] [(13,vI to0)] ?_;obtain ⟨x,hy,hM⟩:=zC hM;refine wJ rfl rfl h3 hy ?_;intro ad1 ccs hat1 hrep;obtain ⟨v0,rfl,h5⟩:=hrep;obtain ⟨p5,c5,rfl⟩:=h5.form;refine xS 0 hat1 [vS p5 x c5] (vS p5 x c5) rfl<|yA [] [(16,vI (x.length:Int)),(17,vI 0)]<|zE<|yC<|vQ [(0,.pointer (some ad)),(1,vI to0),(5,z0),(15,vS p5 x c5),(16,vI (x.length:Int)),(17,vI 0)]<|qA (uI (Rp.sz Int)) ?_;have h6:RL imm [] ([]:List Int):=RepL.nil;obtain ⟨o02,ho02,hMl1⟩:=zC hM;refine impl_traced_sources_l1_ok t to0 x ([]:List Int) 0 o02 ho02 iR h h1 h2 h3 h4 hat h5 h6 (fun _ _ _ h=>h) (fun _ _ h=>h) ?_;intro imm02 out1 p7 c7 cs1 heq2 le2 h8;subst o02;refine yD<|zE<|zF<|zB<|yA [] [(4,vS p7 out1 c7)]<|zE<|yJ<|xI 0 rfl ?_;intro imm03 le3 hl0;have h11:=SL.of_frozen hl0 le3 h8;obtain rfl:=zD hMl1;exact yQ ⟨_,_,(.tmp rfl ResV.nil),zX,⟨_,rfl,rfl,h11⟩⟩
def impl_FlowSources_post (r:(List Int)×Bool):KT:=fun kk imm' hs' v=>
  ∃ v0 v1,hs'=[]∧v=tupV [v0,v1]∧SL imm' v0 r.1∧v1=.bool r.2
def M.impl_FlowSources (p:zV) (to0:Int):Option ((List Int)×Bool):=do
 let (y1,y2)←jC p
 let t25←(do
   if (!y2) then
    pure true
   else
    let t←y1
    let y3←xV to0 0 (W ((t.list.length:Int) - 1))
    pure (!y3)
     : Option Bool)
 if t25 then
  pure (([]:List Int),false)
 else
  let t1←y1
  let y4←M.impl_traced_sources t1 to0
  pure (y4,true)
theorem impl_FlowSources_ok:∀ (p:zV) (to0:Int) r,M.impl_FlowSources p to0=some r→∀ {imm:Imm}{p1 c p2 c1},(S4 imm p1 p.Arrays c)→(S4 imm p2 p.Parts c1)→Ret Tryz.prog 17 [vA (cProg p p1 c p2 c1),vI to0] imm [] (impl_FlowSources_post  r):=by
 intro p to0 r hM imm p1 c p2 c1 h h1;unfold M.impl_FlowSources at hM;refine yG (fn:=Tryz.f17) (c:=(bodyOf Tryz.f17)) Tryz.func17 rfl rfl ?_;rintro B - -;have hle:=iS imm;refine zF<|zB<|tR (cProg p p1 c p2 c1) ?_;intro b hb;refine yA [] []<|zE<|zF<|zB<|yK 1 [0] [(9,vA (cProg p p1 c p2 c1))] ?_;obtain ⟨⟨y1,y2⟩,hy,hM⟩:=zC hM;refine yR (zHu p _ hy h h1) ?_;rintro imm0 hs2 v2 k2 le - ⟨v0,v01,rfl,rfl,h2,rfl⟩ -;have hle:=hle.trans le;refine yA [] [(6,v0),(7,.bool y2)]<|zE<|zF<|zF ?_;obtain ⟨o0,ho0,hMc⟩:=zC hM;refine yU (fun imm' hs' m'=>∃ (t25:Bool),o0=t25∧imm0.le imm'∧hs'=[]∧m'=[(1,vI to0),(6,v0),(25,.bool t25)]) ?_ ?_
 · have hle:=iS imm0;refine zB<|yK 3 [] [(15,.bool (!y2))] ?_;cases hc:(!y2) with
   | true =>
    have hM0:=zW hc ho0
    try rw [hc]
    exact yA [] [(25,.bool true)]<|wD (zK [] rfl (by decide))<|yT [(1,vI to0),(6,v0),(25,.bool true)]<|yB ⟨_,(zD hM0).symm,hle,rfl,rfl⟩
   | false =>
    have hM01:=zU hc ho0
    try rw [hc]
    refine yK 5 [] [(16,vI to0),(17,v0)] ?_;obtain ⟨t,hy1,hM⟩:=zC hM01;obtain ⟨ad,ccs,rfl,hat,hrep⟩:=zJZ h2 hy1;obtain ⟨v02,v03,v04,v05,v06,rfl,h4,h5,h6,h7,h8⟩:=zGq hrep;obtain ⟨p3,c2,rfl⟩:=h4.form;obtain ⟨p4,c3,rfl⟩:=h5.form;obtain ⟨p5,c4,rfl⟩:=h6.form;obtain ⟨p6,c5,rfl⟩:=h7.form;obtain ⟨p7,c6,rfl⟩:=h8.form;refine yK 7 [] [(19,.pointer (some (ad.add 2)))]<|xS 2 hat [vS p5 t.list c4] (vS p5 t.list c4) rfl<|yK 10 [] [(22,vI (W ((t.list.length:Int) - 1)))] ?_;obtain ⟨y3,hy2,hM⟩:=zC hM;refine yR (wN to0 0 (W ((t.list.length:Int) - 1)) _ hy2 ) ?_;rintro imm02 hs2 v2 k2 le1 - ⟨v07,rfl,rfl,rfl⟩ -;have hle:=hle.trans le1;exact yA [] [(25,.bool (!y3))]<|wD (zK [] rfl (by decide))<|yT [(1,vI to0),(6,.pointer (some ad)),(25,.bool (!y3))]<|yB ⟨_,(zD hM).symm,hle,rfl,rfl⟩
 rintro imm01 hs2 m2 ⟨t25,heq,le2,rfl,rfl⟩;subst o0;have h2:=h2.mono le2;refine zE<|yO hMc ?_ ?_
 · intro hc1 hM;refine zF<|zB<|yA [] [(4,z0),(5,.bool false)]<|zE<|yJ<|zR ?_;obtain rfl:=zD hM;exact yQ ⟨_,_,(.tmp rfl (.tmp rfl ResV.nil)),zX,⟨_,_,rfl,rfl,(SL.nil _),rfl⟩⟩
 intro hc1 hM;refine yE<|zE<|zF<|zB<|yK 2 [] [(26,v0),(27,vI to0)] ?_;obtain ⟨t1,hy3,hM⟩:=zC hM;obtain ⟨ad1,ccs1,rfl,hat1,hrep1⟩:=zJZ h2 hy3;obtain ⟨v08,v09,v010,v011,v012,rfl,h10,h11,h12,h13,h14⟩:=zGq hrep1;obtain ⟨p8,c7,rfl⟩:=h10.form;obtain ⟨p9,c8,rfl⟩:=h11.form;obtain ⟨p10,c9,rfl⟩:=h12.form;obtain ⟨p11,c10,rfl⟩:=h13.form;obtain ⟨p12,c11,rfl⟩:=h14.form;obtain ⟨y4,hy4,hM⟩:=zC hM;refine yR (impl_traced_sources_ok t1 to0 _ hy4 h10 h11 h12 h13 h14 hat1) ?_;rintro imm03 hs2 v2 k2 le3 - ⟨v013,rfl,rfl,h15⟩ -;obtain ⟨p13,c12,rfl⟩:=h15.form;refine yA [] [(4,vS p13 y4 c12),(5,.bool true)]<|zE<|yJ ?_;obtain rfl:=zD hM;exact yQ ⟨_,_,(.tmp rfl (.tmp rfl ResV.nil)),zX,⟨_,_,rfl,rfl,h15,rfl⟩⟩
def spec_l6Uses_post (r:(List spec_l6Use)):KT:=fun kk imm' hs' v=>
  ∃ v0,hs'=[]∧v=tupV [v0]∧SL imm' v0 r
def M.spec_l6Uses_l1 (p:zV) (y:(List zT)) (out:List spec_l6Use) (i:Int):Option (List spec_l6Use):=do
 if (decide (i < (y.length:Int))) then
  let x←idx y i
  let x1←idx p.Parts x.Part
  let x2←idx y i
  let x3←idx x1.Body x2.Stmt
  let x4←idx y i
  let (y2,y3,y4)←qZ p.Arrays x3 x4.Point
  let out2←app 32 out ([(spec_l6Use.mk y2 y3)]:List spec_l6Use)
  M.spec_l6Uses_l1 p y out2 (W (i + 1))
 else
  pure (id out)
 partial_fixpoint
theorem spec_l6Uses_l1_ok (p:zV) (y:(List zT)):∀ (out:List spec_l6Use) (i:Int) (o:List spec_l6Use),M.spec_l6Uses_l1 p y out i=some o→∀ {B}{imm0 imm:Imm}{Q p1 c p2 c1}{b:Nat}{p3 c2 p4 c3 cs},imm0.le imm→(S4 imm p3 y c2)→(S4 imm p1 p.Arrays c)→(S4 imm p2 p.Parts c1)→(RL imm cs out)→(∀ gl a w,¬Q (.goto gl) a w)→(∀ a w,¬Q .outgrown a w)→(∀ (imm':Imm) (out1:List spec_l6Use) (p5:Option Addr) (c4:Nat) (cs1:List Value),o=out1→imm0.le imm'→(RL imm' cs1 out1)→T 54 B Q (.exit 0) imm' [hO spec_l6Use (vS p5 out1 c4) cs1] [(3,vS p5 out1 c4)])→J Tryz.prog 54 B (nav (bodyOf Tryz.f54) [1,1,1,0,1,0]) Q imm [hO spec_l6Use (vS p4 out c3) cs,hB b (cProg p p1 c p2 c1)] [(1,vP b 0),(3,vS p4 out c3),(4,vS p3 y c2),(5,vI i)]:=by
 refine M.spec_l6Uses_l1.partial_correctness p y _ ?_;intro self ih out i o hM B imm0 imm Q p1 c p2 c1 b p3 c2 p4 c3 cs hle h3 h h1 h4 hg ho hx;refine xC hg ho<|zF<|zF<|zB<|yA [] [(15,.bool (decide (i < (y.length:Int))))]<|zE<|yO hM ?_ ?_
 · intro hc hM;refine yE<|zE<|zF<|yC<|zF ?_;obtain ⟨x,hy1,hM⟩:=zC hM;obtain ⟨x1,hy2,hM⟩:=zC hM;obtain ⟨x2,hy3,hM⟩:=zC hM;obtain ⟨x3,hy4,hM⟩:=zC hM;obtain ⟨x4,hy5,hM⟩:=zC hM;obtain ⟨⟨y2,y3,y4⟩,hy6,hM⟩:=zC hM;refine uA [.p (vP b 0) [],.p (vS p1 p.Arrays c) [1],.p (vP b 1) [],.p (vS p2 p.Parts c1) [1],.p (vS p3 y c2) [],.p (vI i) [],.x (fun imm' v hx=>∃ ad p6 c5,v=.pointer (some ad)∧hx=[]∧(At imm' ad (cInst x p6 c5))∧(S4 imm' p6 x.Point c5)),.x (fun imm' v hx=>∃ ad1 p61 c51,v=.pointer (some ad1)∧hx=[]∧(At imm' ad1 (cInst x p61 c51))∧(S4 imm' p61 x.Point c51)),.q (vI x.Part),.x (fun imm' v hx=>∃ ad2 p7 c6 p8 c7,v=.pointer (some ad2)∧hx=[]∧(At imm' ad2 (cPart x1 p7 c6 p8 c7))∧(S4 imm' p7 x1.Nest c6)∧(S4 imm' p8 x1.Body c7)),.x (fun imm' v hx=>∃ ad21 p71 c61 p81 c71,v=.pointer (some (ad21.add 1))∧hx=[]∧(At imm' ad21 (cPart x1 p71 c61 p81 c71))∧(S4 imm' p71 x1.Nest c61)∧(S4 imm' p81 x1.Body c71)),.x (fun imm' v hx=>∃ p811 c711,v=vS p811 x1.Body c711∧hx=[]∧(S4 imm' p811 x1.Body c711)),.p (vS p3 y c2) [],.p (vI i) [],.x (fun imm' v hx=>∃ ad3 p9 c8,v=.pointer (some ad3)∧hx=[]∧(At imm' ad3 (cInst x2 p9 c8))∧(S4 imm' p9 x2.Point c8)),.x (fun imm' v hx=>∃ ad31 p91 c81,v=.pointer (some (ad31.add 1))∧hx=[]∧(At imm' ad31 (cInst x2 p91 c81))∧(S4 imm' p91 x2.Point c81)),.q (vI x2.Stmt),.x (fun imm' v hx=>∃ ad4 p10 c9 p11 c10 p12 c11 p13 c12,v=.pointer (some ad4)∧hx=[]∧(At imm' ad4 (cStmt x3 p10 c9 p11 c10 p12 c11 p13 c12))∧(S4 imm' p10 x3.Write.Subs c9)∧(S4 imm' p11 x3.Value.Index.Coefs c10)∧(S4 imm' p12 x3.Value.Read.Subs c11)∧(S4 imm' p13 x3.Value.Kids c12)),.x (fun imm' v hx=>∃ p101 c91 p111 c101 p121 c111 p131 c121,v=vA (cStmt x3 p101 c91 p111 c101 p121 c111 p131 c121)∧hx=[]∧(S4 imm' p101 x3.Write.Subs c91)∧(S4 imm' p111 x3.Value.Index.Coefs c101)∧(S4 imm' p121 x3.Value.Read.Subs c111)∧(S4 imm' p131 x3.Value.Kids c121)),.p (vS p3 y c2) [],.p (vI i) [],.x (fun imm' v hx=>∃ ad5 p14 c13,v=.pointer (some ad5)∧hx=[]∧(At imm' ad5 (cInst x4 p14 c13))∧(S4 imm' p14 x4.Point c13)),.x (fun imm' v hx=>∃ ad51 p141 c131,v=.pointer (some (ad51.add 2))∧hx=[]∧(At imm' ad51 (cInst x4 p141 c131))∧(S4 imm' p141 x4.Point c131)),.x (fun imm' v hx=>∃ p1411 c1311,v=vS p1411 x4.Point c1311∧hx=[]∧(S4 imm' p1411 x4.Point c1311)),.x (fun imm' v hx=>∃ p15 c14,v=.tuple ⟨[vS p15 y2 c14,vI y3,.bool y4]⟩∧hx=[]∧(S4 imm' p15 y2 c14)),.x (fun imm' v hx=>∃ p151 c141,v=.tuple ⟨[vS p151 y2 c141,vI y3,.bool y4]⟩∧hx=[]∧(S4 imm' p151 y2 c141)),.x (fun imm' v hx=>∃ p1511 c1411,v=vS p1511 y2 c1411∧hx=[]∧(S4 imm' p1511 y2 c1411)),.q (vI y3),.q (.bool y4),.x (fun imm' v hx=>∃ p15111 c14111,v=vS p15111 y2 c14111∧hx=[]∧(S4 imm' p15111 y2 c14111)),.p (vI y3) []] [[],[(0,false)],[],[(2,false)],[],[],[(4,false),(5,false)],[(6,false)],[(7,false)],[(3,false),(8,false)],[(9,false)],[(10,false)],[],[],[(12,false),(13,false)],[(14,false)],[(15,false)],[(11,false),(16,false)],[(17,false)],[],[],[(19,false),(20,false)],[(21,false)],[(22,false)],[(1,false),(18,false),(23,false)],[(24,false)],[(25,false)],[(25,false)],[(25,false)],[(26,false)],[(27,false)]] [hO spec_l6Use (vS p4 out c3) cs,hB b (cProg p p1 c p2 c1)] [] [(28,false),(29,false),(30,false)] (zK [0,1] rfl (by decide)) ?_ ?_
   · refine Op<|Op<|Op<|Op<|Op<|Op<|Ox ?_<|Ox ?_<|Oq ?_<|Ox ?_<|Ox ?_<|Ox ?_<|Op<|Op<|Ox ?_<|Ox ?_<|Oq ?_<|Ox ?_<|Ox ?_<|Op<|Op<|Ox ?_<|Ox ?_<|Ox ?_<|Ox ?_<|Ox ?_<|Ox ?_<|Oq ?_<|Oq ?_<|Ox ?_<|Op<|On
     · intro imm1 hf le1;refine zG ?_;rintro _ _ ⟨rfl,rfl⟩;refine zG ?_;rintro _ _ ⟨rfl,rfl⟩;refine zN<|yH [(23,vS p3 y c2),(24,vI i)] ?_;have hle:=iS imm1;have h3:=h3.mono le1;refine wJ rfl rfl h3 hy1 ?_;intro ad ccs hat hrep;obtain ⟨v01,rfl,h6⟩:=zAm hrep;obtain ⟨p6,c5,rfl⟩:=h6.form;exact zZ (hx:=[]) rfl hle rfl (zM rfl) ⟨_,_,_,rfl,rfl,hat,h6⟩
     · intro imm1 hf le1;refine zG ?_;rintro _ _ ⟨ad,p6,c5,rfl,rfl,hat,h6⟩;refine zN<|yH [(25,.pointer (some ad))] ?_;have hle:=iS imm1;exact qV 8 [(26,.pointer (some ad))]<|zZ (hx:=[]) rfl hle rfl (zM rfl) ⟨_,_,_,rfl,rfl,hat,h6⟩
     · intro imm1 hf le1;refine zG ?_;rintro _ _ ⟨ad1,p61,c51,rfl,rfl,hat1,h61⟩;refine zN<|yH [(26,.pointer (some ad1))] ?_;have hle:=iS imm1;exact xS 0 hat1 [vI x.Part] (vI x.Part) rfl<|zZ (hx:=[]) rfl hle rfl (zM rfl) ⟨rfl,rfl⟩
     · intro imm1 hf le1;refine zG ?_;rintro _ _ ⟨rfl,rfl⟩;refine zG ?_;rintro _ _ ⟨rfl,rfl⟩;refine zN<|yH [(22,vS p2 p.Parts c1),(27,vI x.Part)] ?_;have hle:=iS imm1;have h1:=h1.mono le1;refine wJ rfl rfl h1 hy2 ?_;intro ad2 ccs1 hat2 hrep1;obtain ⟨v02,v03,rfl,h7,h8⟩:=wS hrep1;obtain ⟨p7,c6,rfl⟩:=h7.form;obtain ⟨p8,c7,rfl⟩:=h8.form;exact zZ (hx:=[]) rfl hle rfl (zM rfl) ⟨_,_,_,_,_,rfl,rfl,hat2,h7,h8⟩
     · intro imm1 hf le1;refine zG ?_;rintro _ _ ⟨ad2,p7,c6,p8,c7,rfl,rfl,hat2,h7,h8⟩;refine zN<|yH [(28,.pointer (some ad2))] ?_;have hle:=iS imm1;exact qV 11 [(29,.pointer (some (ad2.add 1)))]<|zZ (hx:=[]) rfl hle rfl (zM rfl) ⟨_,_,_,_,_,rfl,rfl,hat2,h7,h8⟩
     · intro imm1 hf le1;refine zG ?_;rintro _ _ ⟨ad21,p71,c61,p81,c71,rfl,rfl,hat21,h71,h81⟩;refine zN<|yH [(29,.pointer (some (ad21.add 1)))] ?_;have hle:=iS imm1;exact xS 1 hat21 [vS p81 x1.Body c71] (vS p81 x1.Body c71) rfl<|zZ (hx:=[]) rfl hle rfl (zM rfl) ⟨_,_,rfl,rfl,h81⟩
     · intro imm1 hf le1;refine zG ?_;rintro _ _ ⟨rfl,rfl⟩;refine zG ?_;rintro _ _ ⟨rfl,rfl⟩;refine zN<|yH [(31,vS p3 y c2),(32,vI i)] ?_;have hle:=iS imm1;have h3:=h3.mono le1;refine wJ rfl rfl h3 hy3 ?_;intro ad3 ccs2 hat3 hrep2;obtain ⟨v04,rfl,h9⟩:=zAm hrep2;obtain ⟨p9,c8,rfl⟩:=h9.form;exact zZ (hx:=[]) rfl hle rfl (zM rfl) ⟨_,_,_,rfl,rfl,hat3,h9⟩
     · intro imm1 hf le1;refine zG ?_;rintro _ _ ⟨ad3,p9,c8,rfl,rfl,hat3,h9⟩;refine zN<|yH [(33,.pointer (some ad3))] ?_;have hle:=iS imm1;exact qV 16 [(34,.pointer (some (ad3.add 1)))]<|zZ (hx:=[]) rfl hle rfl (zM rfl) ⟨_,_,_,rfl,rfl,hat3,h9⟩
     · intro imm1 hf le1;refine zG ?_;rintro _ _ ⟨ad31,p91,c81,rfl,rfl,hat31,h91⟩;refine zN<|yH [(34,.pointer (some (ad31.add 1)))] ?_;have hle:=iS imm1;exact xS 1 hat31 [vI x2.Stmt] (vI x2.Stmt) rfl<|zZ (hx:=[]) rfl hle rfl (zM rfl) ⟨rfl,rfl⟩
     · intro imm1 hf le1;refine zG ?_;rintro _ _ ⟨p811,c711,rfl,rfl,h811⟩;refine zG ?_;rintro _ _ ⟨rfl,rfl⟩;refine zN<|yH [(30,vS p811 x1.Body c711),(35,vI x2.Stmt)] ?_;have hle:=iS imm1;refine wJ rfl rfl h811 hy4 ?_;intro ad4 ccs3 hat4 hrep3;obtain ⟨v05,v06,v07,v08,rfl,h10,h11,h12,h13⟩:=wA hrep3;obtain ⟨p10,c9,rfl⟩:=h10.form;obtain ⟨p11,c10,rfl⟩:=h11.form;obtain ⟨p12,c11,rfl⟩:=h12.form;obtain ⟨p13,c12,rfl⟩:=h13.form;exact zZ (hx:=[]) rfl hle rfl (zM rfl) ⟨_,_,_,_,_,_,_,_,_,rfl,rfl,hat4,h10,h11,h12,h13⟩
     · intro imm1 hf le1;refine zG ?_;rintro _ _ ⟨ad4,p10,c9,p11,c10,p12,c11,p13,c12,rfl,rfl,hat4,h10,h11,h12,h13⟩;refine zN<|yH [(36,.pointer (some ad4))] ?_;have hle:=iS imm1;exact xS 0 hat4 (cStmt x3 p10 c9 p11 c10 p12 c11 p13 c12) (vA (cStmt x3 p10 c9 p11 c10 p12 c11 p13 c12)) rfl<|zZ (hx:=[]) rfl hle rfl (zM rfl) ⟨_,_,_,_,_,_,_,_,rfl,rfl,h10,h11,h12,h13⟩
     · intro imm1 hf le1;refine zG ?_;rintro _ _ ⟨rfl,rfl⟩;refine zG ?_;rintro _ _ ⟨rfl,rfl⟩;refine zN<|yH [(38,vS p3 y c2),(39,vI i)] ?_;have hle:=iS imm1;have h3:=h3.mono le1;refine wJ rfl rfl h3 hy5 ?_;intro ad5 ccs4 hat5 hrep4;obtain ⟨v09,rfl,h14⟩:=zAm hrep4;obtain ⟨p14,c13,rfl⟩:=h14.form;exact zZ (hx:=[]) rfl hle rfl (zM rfl) ⟨_,_,_,rfl,rfl,hat5,h14⟩
     · intro imm1 hf le1;refine zG ?_;rintro _ _ ⟨ad5,p14,c13,rfl,rfl,hat5,h14⟩;refine zN<|yH [(40,.pointer (some ad5))] ?_;have hle:=iS imm1;exact qV 23 [(41,.pointer (some (ad5.add 2)))]<|zZ (hx:=[]) rfl hle rfl (zM rfl) ⟨_,_,_,rfl,rfl,hat5,h14⟩
     · intro imm1 hf le1;refine zG ?_;rintro _ _ ⟨ad51,p141,c131,rfl,rfl,hat51,h141⟩;refine zN<|yH [(41,.pointer (some (ad51.add 2)))] ?_;have hle:=iS imm1;exact xS 2 hat51 [vS p141 x4.Point c131] (vS p141 x4.Point c131) rfl<|zZ (hx:=[]) rfl hle rfl (zM rfl) ⟨_,_,rfl,rfl,h141⟩
     · intro imm1 hf le1;refine zG ?_;rintro _ _ ⟨rfl,rfl⟩;refine zG ?_;rintro _ _ ⟨p101,c91,p111,c101,p121,c111,p131,c121,rfl,rfl,h101,h111,h121,h131⟩;refine zG ?_;rintro _ _ ⟨p1411,c1311,rfl,rfl,h1411⟩;refine zN<|yH [(20,vS p1 p.Arrays c),(37,vA (cStmt x3 p101 c91 p111 c101 p121 c111 p131 c121)),(42,vS p1411 x4.Point c1311)] ?_;have hle:=iS imm1;have h:=h.mono le1;refine yR (zCz p.Arrays x3 x4.Point _ hy6 h h101 h111 h121 h131 h1411) ?_;rintro imm01 hs2 v2 k2 le1 - ⟨v010,v011,v012,rfl,rfl,h15,rfl,rfl⟩ -;have hle:=hle.trans le1;obtain ⟨p15,c14,rfl⟩:=h15.form;exact zZ (hx:=[]) rfl hle rfl (zM rfl) ⟨_,_,rfl,rfl,h15⟩
     · intro imm1 hf le1;refine zG ?_;rintro _ _ ⟨p15,c14,rfl,rfl,h15⟩;refine zN<|yH [(43,.tuple ⟨[vS p15 y2 c14,vI y3,.bool y4]⟩)] ?_;have hle:=iS imm1;exact qV 26 [(18,.tuple ⟨[vS p15 y2 c14,vI y3,.bool y4]⟩)]<|zZ (hx:=[]) rfl hle rfl (zM rfl) ⟨_,_,rfl,rfl,h15⟩
     · intro imm1 hf le1;refine zG ?_;rintro _ _ ⟨p151,c141,rfl,rfl,h151⟩;refine zN<|yH [(18,.tuple ⟨[vS p151 y2 c141,vI y3,.bool y4]⟩)] ?_;have hle:=iS imm1;exact qV 27 [(44,vS p151 y2 c141)]<|zZ (hx:=[]) rfl hle rfl (zM rfl) ⟨_,_,rfl,rfl,h151⟩
     · intro imm1 hf le1;refine zG ?_;rintro _ _ ⟨p151,c141,rfl,rfl,h151⟩;refine zN<|yH [(18,.tuple ⟨[vS p151 y2 c141,vI y3,.bool y4]⟩)] ?_;have hle:=iS imm1;exact qV 28 [(45,vI y3)]<|zZ (hx:=[]) rfl hle rfl (zM rfl) ⟨rfl,rfl⟩
     · intro imm1 hf le1;refine zG ?_;rintro _ _ ⟨p151,c141,rfl,rfl,h151⟩;refine zN<|yH [(18,.tuple ⟨[vS p151 y2 c141,vI y3,.bool y4]⟩)] ?_;have hle:=iS imm1;exact qV 29 [(46,.bool y4)]<|zZ (hx:=[]) rfl hle rfl (zM rfl) ⟨rfl,rfl⟩
     intro imm1 hf le1;refine zG ?_;rintro _ _ ⟨p1511,c1411,rfl,rfl,h1511⟩;refine zN<|yH [(44,vS p1511 y2 c1411)] ?_;have hle:=iS imm1;exact qV 30 [(6,vS p1511 y2 c1411)]<|zZ (hx:=[]) rfl hle rfl (zM rfl) ⟨_,_,rfl,rfl,h1511⟩
   intro imm02 le2;refine zG ?_;rintro _ _ ⟨rfl,rfl⟩;refine zG ?_;rintro _ _ ⟨p15111,c14111,rfl,rfl,h15111⟩;refine zG ?_;rintro _ _ ⟨rfl,rfl⟩;refine zN<|yH [(1,vP b 0),(3,vS p4 out c3),(4,vS p3 y c2),(5,vI i),(6,vS p15111 y2 c14111),(7,vI y3),(46,.bool y4)] ?_;have h4:=iM le2 h4;have h3:=h3.mono le2;have h:=h.mono le2;have h1:=h1.mono le2;have hle:=hle.trans le2;refine yA [] []<|zE<|zB<|yK 4 [] [(47,vS p4 out c3),(50,vA [vS p15111 y2 c14111,vI y3])]<|xQ [vS p15111 y2 c14111,vI y3] spec_l6Use ?_;intro b2 hb2;have h18:RL imm02 [vS p15111 y2 c14111,vI y3] ([(spec_l6Use.mk y2 y3)]:List spec_l6Use):=⟨[vS p15111 y2 c14111,vI y3],_,rfl,rfl,(spec_l6Use_shut ⟨_,rfl,h15111⟩),rfl⟩;obtain ⟨out2,hy7,hM⟩:=zC hM;refine qI 95 2 1 rfl rfl rfl h4 (.inr ⟨0,rfl⟩) h18 hy7 ?_;intro p16 c15 cs2 h19;exact rX (zK [1,2] (hs':=[hO spec_l6Use (vS p16 out2 c15) cs2,hB b (cProg p p1 c p2 c1)]) rfl (by decide))<|yA [] [(3,vS p16 out2 c15)]<|zY<|zE<|zB<|yA [] [(5,vI (W (i + 1)))]<|xD<|vQ [(1,vP b 0),(3,vS p16 out2 c15),(4,vS p3 y c2),(5,vI (W (i + 1)))]<|ih out2 (W (i + 1)) _ hM hle h3 h h1 h19 hg ho hx
 intro hc hM;exact xA<|zS<|zS<|wD (zK [0] rfl (by decide))<|yT [(3,vS p4 out c3)]<|hx _ _ _ _ _ (zD hM).symm hle h4
def M.spec_l6Uses (p:zV):Option ((List spec_l6Use)):=do
 let y←rS p
 let out1←M.spec_l6Uses_l1 p y ([]:List spec_l6Use) 0
 pure (id out1)
theorem spec_l6Uses_ok:∀ (p:zV) r,M.spec_l6Uses p=some r→∀ {imm:Imm}{p1 c p2 c1},(S4 imm p1 p.Arrays c)→(S4 imm p2 p.Parts c1)→Ret Tryz.prog 54 [vA (cProg p p1 c p2 c1)] imm [] (spec_l6Uses_post  r):=by
 intro p r hM imm p1 c p2 c1 h h1;unfold M.spec_l6Uses at hM;refine yG (fn:=Tryz.f54) (c:=(bodyOf Tryz.f54)) Tryz.func54 rfl rfl ?_;rintro B - -;refine zF<|zB<|tR (cProg p p1 c p2 c1) ?_;intro b hb;refine yA [] []<|zE<|zF<|zB<|xQ [] spec_l6Use ?_;intro b1 hb1;have h2:RL imm [] ([]:List spec_l6Use):=rfl;refine yA [] [(3,vS (some ⟨b1,0,none⟩) ([]:List spec_l6Use) 0)]<|zE<|zF<|zB<|yK 1 [1] [(10,vA (cProg p p1 c p2 c1))] ?_;obtain ⟨y,hy,hM⟩:=zC hM;refine yR (zGB p _ hy h h1) ?_;rintro imm0 hs2 v2 k2 le - ⟨v0,rfl,rfl,h3⟩ -;have h2:=iM le h2;have h:=h.mono le;have h1:=h1.mono le;obtain ⟨p3,c2,rfl⟩:=h3.form;refine yA [] [(4,vS p3 y c2)]<|zE<|zF<|zF<|zB<|yA [] [(5,vI 0)]<|zE<|yC<|vQ [(1,vP b 0),(3,vS (some ⟨b1,0,none⟩) ([]:List spec_l6Use) 0),(4,vS p3 y c2),(5,vI 0)] ?_;obtain ⟨o0,ho0,hMl⟩:=zC hM;refine spec_l6Uses_l1_ok p y ([]:List spec_l6Use) 0 o0 ho0 iR h3 h h1 h2 (fun _ _ _ h=>h) (fun _ _ h=>h) ?_;intro imm03 out1 p5 c4 cs1 heq le3 h5;subst o0;refine yD<|zE<|zF<|zB<|yA [] [(2,vS p5 out1 c4)]<|zE<|yJ<|xI 0 rfl ?_;intro imm04 le4 hl0;have h20:=SL.of_frozen hl0 le4 h5;obtain rfl:=zD hMl;exact yQ ⟨_,_,(.tmp rfl ResV.nil),zX,⟨_,rfl,rfl,h20⟩⟩
def spec_l6Source_post (r:Int):KT:=fun kk imm' hs' v=>
  ∃ v0,hs'=[]∧v=tupV [v0]∧v0=.int .i64 r
def M.spec_l6Source_l1 (uses:(List spec_l6Use)) (cell:Int) (i:Int):Option (Out Unit (Int)):=do
 if (decide (i ≥ 0)) then
  let x←idx uses i
  if (x.write == cell) then
   pure (.ret i)
  else
   M.spec_l6Source_l1 uses cell (W (i - 1))
 else
  pure (.done ())
 partial_fixpoint
theorem spec_l6Source_l1_ok (uses:(List spec_l6Use)) (cell:Int):∀ (i:Int) (o:Out Unit (Int)),M.spec_l6Source_l1 uses cell i=some o→∀ {B}{imm0 imm:Imm}{Q p c},imm0.le imm→(S4 imm p uses c)→(∀ gl a w,¬Q (.goto gl) a w)→(∀ a w,¬Q .outgrown a w)→(∀ (imm':Imm) ,o=(.done ())→imm0.le imm'→T 22 B Q (.exit 0) imm' [] [])→(∀ r imm' hs' m',o=(.ret r)→imm0.le imm'→RS Tryz.prog Tryz.f55 B (spec_l6Source_post  r) imm' hs' m'→T 22 B Q .ret imm' hs' m')→J Tryz.prog 22 B (nav (bodyOf Tryz.f55) [1,0,1,0]) Q imm [] [(0,vS p uses c),(2,vI cell),(7,vI i)]:=by
 refine M.spec_l6Source_l1.partial_correctness uses cell _ ?_;intro self ih i o hM B imm0 imm Q p c hle h hg ho hx hr;refine xC hg ho<|zF<|zF<|zB<|yA [] [(11,.bool (decide (i ≥ 0)))]<|zE<|yO hM ?_ ?_
 · intro hc hM;refine yE<|zE<|zF<|yC<|zF<|zB<|yK 2 [] [(14,vS p uses c),(15,vI i)] ?_;obtain ⟨x,hy,hM⟩:=zC hM;refine wJ rfl rfl h hy ?_;intro ad ccs hat hrep;obtain ⟨v0,rfl,h1⟩:=spec_l6Use_open hrep;obtain ⟨p1,c1,rfl⟩:=h1.form;refine yK 4 [] [(17,.pointer (some (ad.add 1)))]<|xS 1 hat [vI x.write] (vI x.write) rfl<|yA [] [(20,.bool (x.write == cell))]<|zE<|yO hM ?_ ?_
   · intro hc1 hM;exact zF<|zB<|yA [] [(6,vI i)]<|zE<|yJ<|yF<|zR<|zR<|hr _ _ _ _ (zD hM).symm hle ⟨_,_,(.tmp rfl ResV.nil),zX,⟨_,rfl,rfl,rfl⟩⟩
   intro hc1 hM;exact yE<|zY<|zE<|zB<|yA [] [(7,vI (W (i - 1)))]<|xD<|vQ [(0,vS p uses c),(2,vI cell),(7,vI (W (i - 1)))]<|ih (W (i - 1)) _ hM hle h hg ho hx hr
 intro hc hM;exact xA<|zS<|zS<|yT []<|hx _  (zD hM).symm hle
def M.spec_l6Source (uses:(List spec_l6Use)) (to0:Int) (cell:Int):Option (Int):=do
 match←M.spec_l6Source_l1 uses cell (W (to0 - 1)) with
 | .ret r0=>pure r0
 | .done _ =>
  pure (-1)
theorem spec_l6Source_ok:∀ (uses:(List spec_l6Use)) (to0:Int) (cell:Int) r,M.spec_l6Source uses to0 cell=some r→∀ {imm:Imm}{p c},(S4 imm p uses c)→Ret Tryz.prog 55 [vS p uses c,vI to0,vI cell] imm [] (spec_l6Source_post  r):=by
 intro uses to0 cell r hM imm p c h;unfold M.spec_l6Source at hM;refine yG (fn:=Tryz.f55) (c:=(bodyOf Tryz.f55)) Tryz.func55 rfl rfl ?_;rintro B - -;refine zF<|zB<|yA [] []<|zE<|zF<|zF<|zB<|yA [] [(7,vI (W (to0 - 1)))]<|zE<|yC<|vQ [(0,vS p uses c),(2,vI cell),(7,vI (W (to0 - 1)))] ?_;obtain ⟨o0,ho0,hMl⟩:=zC hM;refine spec_l6Source_l1_ok uses cell (W (to0 - 1)) o0 ho0 iR h (fun _ _ _ h=>h) (fun _ _ h=>h) ?_ ?_
 · intro imm0  heq le;subst o0;refine yD<|zE<|zF<|zB<|yA [] [(6,vI (-1))]<|zE<|yJ ?_;obtain rfl:=zD hMl;exact yQ ⟨_,_,(.tmp rfl ResV.nil),zX,⟨_,rfl,rfl,rfl⟩⟩
 intro r0 imm9 hs9 m9 heq9 le9 hrs9;subst heq9;refine yF<|zR ?_;obtain rfl:=zD hMl;exact yQ hrs9
end Go.LN
namespace Go.LN
open Go.Proofs
set_option maxRecDepth 20000
def spec_FlowSources_post (r:(List Int)×Bool):KT:=fun kk imm' hs' v=>
  ∃ v0 v1,hs'=[]∧v=tupV [v0,v1]∧SL imm' v0 r.1∧v1=.bool r.2
def M.spec_FlowSources_l1 (to0:Int) (y1:(List spec_l6Use)) (out:List Int) (i:Int):Option (List Int):=do
 let x←idx y1 to0
 if (decide (i < (x.reads.length:Int))) then
  let x1←idx y1 to0
  let x2←idx x1.reads i
  let y2←M.spec_l6Source y1 to0 x2
  let out2←app 8 out ([y2]:List Int)
  M.spec_FlowSources_l1 to0 y1 out2 (W (i + 1))
 else
  pure (id out)
 partial_fixpoint
set_option maxHeartbeats 4000000 in
theorem spec_FlowSources_l1_ok (to0:Int) (y1:(List spec_l6Use)):∀ (out:List Int) (i:Int) (o:List Int),M.spec_FlowSources_l1 to0 y1 out i=some o→∀ {B}{imm0 imm:Imm}{Q p3 c2 p4 c3 cs},imm0.le imm→(S4 imm p3 y1 c2)→(RL imm cs out)→(∀ gl a w,¬Q (.goto gl) a w)→(∀ a w,¬Q .outgrown a w)→(∀ (imm':Imm) (out1:List Int) (p5:Option Addr) (c4:Nat) (cs1:List Value),o=out1→imm0.le imm'→(RL imm' cs1 out1)→T 50 B Q (.exit 0) imm' [hO Int (vS p5 out1 c4) cs1] [(6,vS p5 out1 c4)])→J Tryz.prog 50 B (nav (bodyOf Tryz.f18) [1,1,1,1,1,0,1,0]) Q imm [hO Int (vS p4 out c3) cs] [(1,vI to0),(6,vS p4 out c3),(7,vS p3 y1 c2),(8,vI i)]:=by
 refine M.spec_FlowSources_l1.partial_correctness to0 y1 _ ?_;intro self ih out i o hM B imm0 imm Q p3 c2 p4 c3 cs hle h5 h7 hg ho hx;refine xC hg ho<|zF<|zF<|zB<|yK 3 [] [(25,vI i),(26,vS p3 y1 c2),(27,vI to0)] ?_;obtain ⟨x,hy2,hM⟩:=zC hM;refine wJ rfl rfl h5 hy2 ?_;intro ad ccs hat hrep;obtain ⟨v02,rfl,h9⟩:=spec_l6Use_open hrep;obtain ⟨p6,c5,rfl⟩:=h9.form;refine yK 5 [] [(29,.pointer (some ad))]<|xS 0 hat [vS p6 x.reads c5] (vS p6 x.reads c5) rfl<|yA [] [(32,.bool (decide (i < (x.reads.length:Int))))]<|zE<|yO hM ?_ ?_
 · intro hc3 hM;refine yE<|zE<|zF<|yC<|zB<|yK 5 [] [(35,vS p4 out c3),(36,vS p3 y1 c2),(37,vI to0),(38,vS p3 y1 c2),(39,vI to0)] ?_;obtain ⟨x1,hy3,hM⟩:=zC hM;refine wJ rfl rfl h5 hy3 ?_;intro ad1 ccs1 hat1 hrep1;obtain ⟨v03,rfl,h10⟩:=spec_l6Use_open hrep1;obtain ⟨p7,c6,rfl⟩:=h10.form;refine yK 7 [] [(41,.pointer (some ad1))]<|xS 0 hat1 [vS p7 x1.reads c6] (vS p7 x1.reads c6) rfl<|yK 9 [] [(43,vI i)] ?_;obtain ⟨x2,hy4,hM⟩:=zC hM;refine wJ rfl rfl h10 hy4 ?_;intro ad2 ccs2 hat2 hrep2;obtain rfl:=hrep2;refine xS 0 hat2 [vI x2] (vI x2) rfl ?_;obtain ⟨y2,hy5,hM⟩:=zC hM;refine yR (spec_l6Source_ok y1 to0 x2 _ hy5 h5) ?_;rintro imm05 hs2 v2 k2 le5 - ⟨v04,rfl,rfl,rfl⟩ -;have h5:=h5.mono le5;have h7:=iM le5 h7;have hle:=hle.trans le5;refine xQ [vI y2] Int ?_;intro b2 hb2;have h12:RL imm05 [vI y2] ([y2]:List Int):=⟨[vI y2],_,rfl,rfl,rfl,rfl⟩;obtain ⟨out2,hy6,hM⟩:=zC hM;refine qI 3 1 1 rfl rfl rfl h7 (.inr ⟨0,rfl⟩) h12 hy6 ?_;intro p8 c7 cs2 h13;exact rX (zK [1] (hs':=[hO Int (vS p8 out2 c7) cs2]) rfl (by decide))<|yA [] [(6,vS p8 out2 c7)]<|zY<|zE<|zB<|yA [] [(8,vI (W (i + 1)))]<|xD<|vQ [(1,vI to0),(6,vS p8 out2 c7),(7,vS p3 y1 c2),(8,vI (W (i + 1)))]<|ih out2 (W (i + 1)) _ hM hle h5 h13 hg ho hx
 intro hc3 hM;exact xA<|zS<|zS<|yT [(6,vS p4 out c3)]<|hx _ _ _ _ _ (zD hM).symm hle h7
def M.spec_FlowSources (p:zV) (to0:Int):Option ((List Int)×Bool):=do
 let y←tK p
 if (!y) then
  pure (([]:List Int),false)
 else
  let y1←M.spec_l6Uses p
  let t23←(do
    if (decide (to0 < 0)) then
     pure true
    else
     pure (decide (to0 ≥ (y1.length:Int)))
      : Option Bool)
  if t23 then
   pure (([]:List Int),false)
  else
   let out1←M.spec_FlowSources_l1 to0 y1 ([]:List Int) 0
   pure (out1,true)
theorem spec_FlowSources_ok:∀ (p:zV) (to0:Int) r,M.spec_FlowSources p to0=some r→∀ {imm:Imm}{p1 c p2 c1},(S4 imm p1 p.Arrays c)→(S4 imm p2 p.Parts c1)→Ret Tryz.prog 18 [vA (cProg p p1 c p2 c1),vI to0] imm [] (spec_FlowSources_post  r):=by
 intro p to0 r hM imm p1 c p2 c1 h h1;unfold M.spec_FlowSources at hM;refine yG (fn:=Tryz.f18) (c:=(bodyOf Tryz.f18)) Tryz.func18 rfl rfl ?_;rintro B - -;have hle:=iS imm;refine zF<|zB<|tR (cProg p p1 c p2 c1) ?_;intro b hb;refine yA [] []<|zE<|zF<|zB<|xQ [] Int ?_;intro b1 hb1;have h2:RL imm [] ([]:List Int):=rfl;refine yA [] [(6,vS (some ⟨b1,0,none⟩) ([]:List Int) 0)]<|zE<|zF<|zF<|zB<|yK 1 [1] [(10,vA (cProg p p1 c p2 c1))] ?_;obtain ⟨y,hy,hM⟩:=zC hM;refine yR (dT p _ hy h h1) ?_;rintro imm0 hs2 v2 k2 le - ⟨v0,rfl,rfl,rfl⟩ -;have h2:=iM le h2;have h:=h.mono le;have h1:=h1.mono le;have hle:=hle.trans le;refine yA [] [(12,.bool (!y))]<|zE<|yO hM ?_ ?_
 · intro hc hM;refine zF<|zB<|yA [] [(4,vS (some ⟨b1,0,none⟩) ([]:List Int) 0),(5,.bool false)]<|zE<|yJ<|zR<|xI 0 rfl ?_;intro imm01 le1 hl0;have h4:=SL.of_frozen hl0 le1 h2;obtain rfl:=zD hM;exact yQ ⟨_,_,(.tmp rfl (.tmp rfl ResV.nil)),zX,⟨_,_,rfl,rfl,h4,rfl⟩⟩
 intro hc hM;refine yE<|zE<|zF<|zB<|yK 1 [1] [(14,vA (cProg p p1 c p2 c1))] ?_;obtain ⟨y1,hy1,hM⟩:=zC hM;refine yR (spec_l6Uses_ok p _ hy1 h h1) ?_;rintro imm02 hs2 v2 k2 le2 - ⟨v01,rfl,rfl,h5⟩ -;have h2:=iM le2 h2;have h:=h.mono le2;have hle:=hle.trans le2;obtain ⟨p3,c2,rfl⟩:=h5.form;refine yA [] [(7,vS p3 y1 c2)]<|zE<|zF<|zF ?_;obtain ⟨o0,ho0,hMc⟩:=zC hM;refine yU (fun imm' hs' m'=>∃ (t23:Bool),o0=t23∧imm02.le imm'∧hs'=[hO Int (vS (some ⟨b1,0,none⟩) ([]:List Int) 0) []]∧m'=[(1,vI to0),(6,vS (some ⟨b1,0,none⟩) ([]:List Int) 0),(7,vS p3 y1 c2),(23,.bool t23)]) ?_ ?_
 · have hle:=iS imm02;refine zB<|yK 3 [] [(18,.bool (decide (to0 < 0)))] ?_;cases hc1:(decide (to0 < 0)) with
   | true =>
    have hM0:=zW hc1 ho0
    try rw [hc1]
    exact yA [] [(23,.bool true)]<|wD (zK [0] rfl (by decide))<|yT [(1,vI to0),(6,vS (some ⟨b1,0,none⟩) ([]:List Int) 0),(7,vS p3 y1 c2),(23,.bool true)]<|yB ⟨_,(zD hM0).symm,hle,rfl,rfl⟩
   | false =>
    have hM01:=zU hc1 ho0
    try rw [hc1]
    exact yA [] [(23,.bool (decide (to0 ≥ (y1.length:Int))))]<|wD (zK [0] rfl (by decide))<|yT [(1,vI to0),(6,vS (some ⟨b1,0,none⟩) ([]:List Int) 0),(7,vS p3 y1 c2),(23,.bool (decide (to0 ≥ (y1.length:Int))))]<|yB ⟨_,(zD hM01).symm,hle,rfl,rfl⟩
 rintro imm03 hs2 m2 ⟨t23,heq,le3,rfl,rfl⟩;subst o0;have h2:=iM le3 h2;have h5:=h5.mono le3;refine zE<|yO hMc ?_ ?_
 · intro hc2 hM;refine zF<|zB<|yA [] [(4,vS (some ⟨b1,0,none⟩) ([]:List Int) 0),(5,.bool false)]<|zE<|yJ<|zR<|xI 0 rfl ?_;intro imm04 le4 hl01;have h6:=SL.of_frozen hl01 le4 h2;obtain rfl:=zD hM;exact yQ ⟨_,_,(.tmp rfl (.tmp rfl ResV.nil)),zX,⟨_,_,rfl,rfl,h6,rfl⟩⟩
 intro hc2 hM;refine yE<|zE<|zF<|zF<|zB<|yA [] [(8,vI 0)]<|zE<|yC<|vQ [(1,vI to0),(6,vS (some ⟨b1,0,none⟩) ([]:List Int) 0),(7,vS p3 y1 c2),(8,vI 0)] ?_;obtain ⟨o01,ho01,hMl⟩:=zC hM;refine spec_FlowSources_l1_ok to0 y1 ([]:List Int) 0 o01 ho01 iR h5 h2 (fun _ _ _ h=>h) (fun _ _ h=>h) ?_;intro imm06 out1 p5 c4 cs1 heq1 le6 h8;subst o01;refine yD<|zE<|zF<|zB<|yA [] [(4,vS p5 out1 c4),(5,.bool true)]<|zE<|yJ<|xI 0 rfl ?_;intro imm07 le7 hl02;have h14:=SL.of_frozen hl02 le7 h8;obtain rfl:=zD hMl;exact yQ ⟨_,_,(.tmp rfl (.tmp rfl ResV.nil)),zX,⟨_,_,rfl,rfl,h14,rfl⟩⟩
def impl_ProgramInstances_post (r:(List zT)):KT:=fun kk imm' hs' v=>
  ∃ v0,hs'=[]∧v=tupV [v0]∧SL imm' v0 r
def M.impl_ProgramInstances (p:zV):Option ((List zT)):=do
 let (y1,y2)←tV p
 if (!y2) then
  pure ([]:List zT)
 else
  pure (id y1)
theorem impl_ProgramInstances_ok:∀ (p:zV) r,M.impl_ProgramInstances p=some r→∀ {imm:Imm}{p1 c p2 c1},(S4 imm p1 p.Arrays c)→(S4 imm p2 p.Parts c1)→Ret Tryz.prog 24 [vA (cProg p p1 c p2 c1)] imm [] (impl_ProgramInstances_post  r):=by
 intro p r hM imm p1 c p2 c1 h h1;unfold M.impl_ProgramInstances at hM;refine yG (fn:=Tryz.f24) (c:=(bodyOf Tryz.f24)) Tryz.func24 rfl rfl ?_;rintro B - -;refine zF<|zB<|tR (cProg p p1 c p2 c1) ?_;intro b hb;refine yA [] []<|zE<|zF<|zB<|yK 1 [0] [(6,vA (cProg p p1 c p2 c1))] ?_;obtain ⟨⟨y1,y2⟩,hy,hM⟩:=zC hM;refine yR (jX p _ hy h h1) ?_;rintro imm0 hs2 v2 k2 le - ⟨v0,v01,rfl,rfl,h2,rfl⟩ -;obtain ⟨p3,c2,rfl⟩:=h2.form;refine yA [] [(3,vS p3 y1 c2),(4,.bool y2)]<|zE<|zF<|zF<|zB<|yA [] [(11,.bool (!y2))]<|zE<|yO hM ?_ ?_
 · intro hc hM;refine zF<|zB<|yA [] [(2,z0)]<|zE<|yJ<|zR ?_;obtain rfl:=zD hM;exact yQ ⟨_,_,(.tmp rfl ResV.nil),zX,⟨_,rfl,rfl,(SL.nil _)⟩⟩
 intro hc hM;refine yE<|zE<|zF<|zB<|yA [] [(2,vS p3 y1 c2)]<|zE<|yJ ?_;obtain rfl:=zD hM;exact yQ ⟨_,_,(.tmp rfl ResV.nil),zX,⟨_,rfl,rfl,h2⟩⟩
def impl_ProgramValid_post (r:Bool):KT:=fun kk imm' hs' v=>
  ∃ v0,hs'=[]∧v=tupV [v0]∧v0=.bool r
def M.impl_ProgramValid (p:zV):Option (Bool):=do
 let (y1,y2)←tV p
 pure (id y2)
theorem impl_ProgramValid_ok:∀ (p:zV) r,M.impl_ProgramValid p=some r→∀ {imm:Imm}{p1 c p2 c1},(S4 imm p1 p.Arrays c)→(S4 imm p2 p.Parts c1)→Ret Tryz.prog 57 [vA (cProg p p1 c p2 c1)] imm [] (impl_ProgramValid_post  r):=by
 intro p r hM imm p1 c p2 c1 h h1;unfold M.impl_ProgramValid at hM;refine yG (fn:=Tryz.f57) (c:=(bodyOf Tryz.f57)) Tryz.func57 rfl rfl ?_;rintro B - -;refine zF<|zB<|tR (cProg p p1 c p2 c1) ?_;intro b hb;refine yA [] []<|zE<|zF<|zB<|yK 1 [0] [(6,vA (cProg p p1 c p2 c1))] ?_;obtain ⟨⟨y1,y2⟩,hy,hM⟩:=zC hM;refine yR (jX p _ hy h h1) ?_;rintro imm0 hs2 v2 k2 le - ⟨v0,v01,rfl,rfl,h2,rfl⟩ -;obtain ⟨p3,c2,rfl⟩:=h2.form;refine yA [] [(4,.bool y2)]<|zE<|zF<|zB<|yA [] [(2,.bool y2)]<|zE<|yJ ?_;obtain rfl:=zD hM;exact yQ ⟨_,_,(.tmp rfl ResV.nil),zX,⟨_,rfl,rfl,rfl⟩⟩
def impl_PointIn_post (r:Bool):KT:=fun kk imm' hs' v=>
  ∃ v0,hs'=[]∧v=tupV [v0]∧v0=.bool r
theorem impl_PointIn_l1_ok (nest:(List zI)) (p1:(List Int)):∀ (t26:Int) (o:Out Unit (Bool)),pV nest p1 t26=some o→∀ {B}{imm0 imm:Imm}{Q p c p2 c1},imm0.le imm→(S4 imm p2 p1 c1)→(S4 imm p nest c)→(∀ gl a w,¬Q (.goto gl) a w)→(∀ a w,¬Q .outgrown a w)→(∀ (imm':Imm) ,o=(.done ())→imm0.le imm'→T 54 B Q (.exit 0) imm' [] [])→(∀ r imm' hs' m',o=(.ret r)→imm0.le imm'→RS Tryz.prog Tryz.f91 B (impl_PointIn_post  r) imm' hs' m'→T 54 B Q .ret imm' hs' m')→J Tryz.prog 54 B (nav (bodyOf Tryz.f91) [1,1,0,1,0]) Q imm [] [(1,vS p2 p1 c1),(24,vS p nest c),(25,vI (nest.length:Int)),(26,vI t26)]:=by
 refine pV.partial_correctness nest p1 _ ?_;intro self ih t26 o hM B imm0 imm Q p c p2 c1 hle h1 h hg ho hx hr;refine xC hg ho<|zF<|zB<|yA [] [(27,.bool (decide (t26 < (nest.length:Int))))]<|zE<|zF<|yO hM ?_ ?_
 · intro hc3 hM;refine yE<|zE<|zF<|yC<|zF<|zB<|yK 1 [] [(28,vI t26)] ?_;obtain ⟨x,hy2,hM⟩:=zC hM;refine wJ rfl rfl h hy2 ?_;intro ad ccs hat hrep;obtain ⟨v02,v03,rfl,h4,h5⟩:=uJ hrep;obtain ⟨p3,c2,rfl⟩:=h4.form;obtain ⟨p4,c3,rfl⟩:=h5.form;refine xS 0 hat (cLoop x p3 c2 p4 c3) (vA (cLoop x p3 c2 p4 c3)) rfl<|uD zTwo ?_;intro b hb;refine yK 5 [] [(5,vI t26)]<|xJ 0 (cLoop x p3 c2 p4 c3) [hB b (cLoop x p3 c2 p4 c3)] rfl rfl rfl rfl<|yN rfl<|zE<|zF ?_;obtain ⟨l,hy3,hM⟩:=zC hM;obtain ⟨⟨y3,y4⟩,hy4,hM⟩:=zC hM;refine uA [.p (vA (cLoop x p3 c2 p4 c3)) [0],.p (vS p2 p1 c1) [],.p (vI t26) [],.x (fun imm' v hx=>∃ p5 c4,v=vS p5 l c4∧hx=[]∧(S4 imm' p5 l c4)),.q (.tuple ⟨[vI y3,vI y4]⟩),.p (.tuple ⟨[vI y3,vI y4]⟩) [],.p (vI y3) [],.p (vI y4) [],.p (vI y3) []] [[],[],[],[(1,false),(2,false)],[(0,false),(3,false)],[(4,false)],[(5,false)],[(5,false)],[(6,false)]] [hB b (cLoop x p3 c2 p4 c3)] [] [(7,false),(8,false)] (zK [0] rfl (by decide)) ?_ ?_
   · refine Op<|Op<|Op<|Ox ?_<|Oq ?_<|Op<|Op<|Op<|Op<|On
     · intro imm1 hf le1;refine zG ?_;rintro _ _ ⟨rfl,rfl⟩;refine zG ?_;rintro _ _ ⟨rfl,rfl⟩;refine zN<|yH [(33,vS p2 p1 c1),(34,vI t26)] ?_;have hle:=iS imm1;have h1:=h1.mono le1;refine zJS rfl h1 hy3 ?_;intro v04 h6;obtain ⟨p5,c4,rfl⟩:=h6.form;exact zZ (hx:=[]) rfl hle rfl (zM rfl) ⟨_,_,rfl,rfl,h6⟩
     intro imm1 hf le1;refine zG ?_;rintro _ _ ⟨rfl,rfl⟩;refine zG ?_;rintro _ _ ⟨p5,c4,rfl,rfl,h6⟩;refine zN<|yH [(32,vA (cLoop x p3 c2 p4 c3)),(35,vS p5 l c4)] ?_;have hle:=iS imm1;have h4:=h4.mono le1;have h5:=h5.mono le1;refine yR (zBy x l _ hy4 h4 h5 h6) ?_;rintro imm03 hs2 v2 k2 le3 - ⟨v05,v06,rfl,rfl,rfl,rfl⟩ -;have hle:=hle.trans le3;exact zZ (hx:=[]) rfl hle rfl (zM rfl) ⟨rfl,rfl⟩
   intro imm04 le4;refine zG ?_;rintro _ _ ⟨rfl,rfl⟩;refine zG ?_;rintro _ _ ⟨rfl,rfl⟩;refine zN<|yH [(1,vS p2 p1 c1),(5,vI t26),(7,vI y3),(24,vS p nest c),(25,vI (nest.length:Int)),(26,vI t26),(38,vI y4)] ?_;have h1:=h1.mono le4;have h:=h.mono le4;have hle:=hle.trans le4;refine yA [] [(8,vI y4)]<|zE<|zF ?_;obtain ⟨o01,ho01,hMc1⟩:=zC hM;refine yU (fun imm' hs' m'=>∃ (t52:Bool),o01=t52∧imm04.le imm'∧hs'=[]∧m'=[(1,vS p2 p1 c1),(24,vS p nest c),(25,vI (nest.length:Int)),(26,vI t26),(52,.bool t52)]) ?_ ?_
   · have hle:=iS imm04;refine zB<|yK 2 [] [(39,vS p2 p1 c1),(40,vI t26)] ?_;obtain ⟨x1,hy5,hM⟩:=zC ho01;refine wJ rfl rfl h1 hy5 ?_;intro ad1 ccs1 hat1 hrep1;obtain rfl:=hrep1;refine xS 0 hat1 [vI x1] (vI x1) rfl<|yK 7 [] [(45,.bool (decide (x1 < y3)))] ?_;cases hc4:(decide (x1 < y3)) with
     | true =>
      have hM04:=zW hc4 hM
      try rw [hc4]
      exact yA [] [(52,.bool true)]<|wD (zK [] rfl (by decide))<|yT [(1,vS p2 p1 c1),(24,vS p nest c),(25,vI (nest.length:Int)),(26,vI t26),(52,.bool true)]<|yB ⟨_,(zD hM04).symm,hle,rfl,rfl⟩
     | false =>
      have hM05:=zU hc4 hM
      try rw [hc4]
      refine yK 9 [] [(46,vS p2 p1 c1),(47,vI t26)] ?_;obtain ⟨x2,hy6,hM⟩:=zC hM05;refine wJ rfl rfl h1 hy6 ?_;intro ad2 ccs2 hat2 hrep2;obtain rfl:=hrep2;exact xS 0 hat2 [vI x2] (vI x2) rfl<|yA [] [(52,.bool (decide (x2 ≥ y4)))]<|wD (zK [] rfl (by decide))<|yT [(1,vS p2 p1 c1),(24,vS p nest c),(25,vI (nest.length:Int)),(26,vI t26),(52,.bool (decide (x2 ≥ y4)))]<|yB ⟨_,(zD hM).symm,hle,rfl,rfl⟩
   rintro imm05 hs2 m2 ⟨t52,heq1,le5,rfl,rfl⟩;subst o01;have h1:=h1.mono le5;have h:=h.mono le5;have hle:=hle.trans le5;refine zE<|yO hMc1 ?_ ?_
   · intro hc5 hM;exact zF<|zB<|yA [] [(4,.bool false)]<|zE<|yJ<|yF<|zR<|zR<|hr _ _ _ _ (zD hM).symm hle ⟨_,_,(.tmp rfl ResV.nil),zX,⟨_,rfl,rfl,rfl⟩⟩
   intro hc5 hM;exact yE<|zY<|zE<|zB<|yA [] [(26,vI (W (t26 + 1)))]<|xD<|vQ [(1,vS p2 p1 c1),(24,vS p nest c),(25,vI (nest.length:Int)),(26,vI (W (t26 + 1)))]<|ih (W (t26 + 1)) _ hM hle h1 h hg ho hx hr
 intro hc3 hM;exact xA<|zS<|zS<|yT []<|hx _  (zD hM).symm hle
theorem impl_PointIn_ok:∀ (nest:(List zI)) (p1:(List Int)) r,jU nest p1=some r→∀ {imm:Imm}{p c p2 c1},(S4 imm p nest c)→(S4 imm p2 p1 c1)→Ret Tryz.prog 91 [vS p nest c,vS p2 p1 c1] imm [] (impl_PointIn_post  r):=by
 intro nest p1 r hM imm p c p2 c1 h h1;unfold jU at hM;refine yG (fn:=Tryz.f91) (c:=(bodyOf Tryz.f91)) Tryz.func91 rfl rfl ?_;rintro B - -;have hle:=iS imm;refine zF<|zB<|yA [] []<|zE<|zF<|zF ?_;obtain ⟨o0,ho0,hMc⟩:=zC hM;refine yU (fun imm' hs' m'=>∃ (t23:Bool),o0=t23∧imm.le imm'∧hs'=[]∧m'=[(0,vS p nest c),(1,vS p2 p1 c1),(23,.bool t23)]) ?_ ?_
 · have hle:=iS imm;refine zB<|yK 1 [] [(9,vS p nest c)] ?_;obtain ⟨y,hy,hM⟩:=zC ho0;refine yR (zBx nest _ hy h) ?_;rintro imm01 hs2 v2 k2 le - ⟨v0,rfl,rfl,rfl⟩ -;have h1:=h1.mono le;have hle:=hle.trans le;refine yK 4 [] [(12,.bool (!y))] ?_;cases hc:(!y) with
   | true =>
    have hM0:=zW hc hM
    try rw [hc]
    exact yA [] [(23,.bool true)]<|yT [(0,vS p nest c),(1,vS p2 p1 c1),(23,.bool true)]<|yB ⟨_,(zD hM0).symm,hle,rfl,rfl⟩
   | false =>
    have hM01:=zU hc hM
    try rw [hc]
    refine yK 5 [] [(13,vS p2 p1 c1)] ?_;obtain ⟨y1,hy1,hM⟩:=zC hM01;refine yR (zDK p1 _ hy1 h1) ?_;rintro imm02 hs2 v2 k2 le1 - ⟨v01,rfl,rfl,rfl⟩ -;have hle:=hle.trans le1;refine yK 9 [] [(17,.bool (!y1))] ?_;cases hc1:(!y1) with
    | true =>
     have hM02:=zW hc1 hM
     try rw [hc1]
     exact yA [] [(23,.bool true)]<|yT [(0,vS p nest c),(1,vS p2 p1 c1),(23,.bool true)]<|yB ⟨_,(zD hM02).symm,hle,rfl,rfl⟩
    | false =>
     have hM03:=zU hc1 hM
     try rw [hc1]
     exact yA [] [(23,.bool ((p1.length:Int) != (nest.length:Int)))]<|yT [(0,vS p nest c),(1,vS p2 p1 c1),(23,.bool ((p1.length:Int) != (nest.length:Int)))]<|yB ⟨_,(zD hM03).symm,hle,rfl,rfl⟩
 rintro imm0 hs2 m2 ⟨t23,heq,le2,rfl,rfl⟩;subst o0;have h:=h.mono le2;have h1:=h1.mono le2;refine zE<|yO hMc ?_ ?_
 · intro hc2 hM;refine zF<|zB<|yA [] [(4,.bool false)]<|zE<|yJ<|zR ?_;obtain rfl:=zD hM;exact yQ ⟨_,_,(.tmp rfl ResV.nil),zX,⟨_,rfl,rfl,rfl⟩⟩
 intro hc2 hM;refine yE<|zE<|zF<|zF<|zB<|yA [] [(24,vS p nest c),(25,vI (nest.length:Int)),(26,vI 0)]<|zE<|yC<|vQ [(1,vS p2 p1 c1),(24,vS p nest c),(25,vI (nest.length:Int)),(26,vI 0)] ?_;obtain ⟨o02,ho02,hMl⟩:=zC hM;refine impl_PointIn_l1_ok nest p1 0 o02 ho02 iR h1 h (fun _ _ _ h=>h) (fun _ _ h=>h) ?_ ?_
 · intro imm06  heq2 le6;subst o02;refine yD<|zE<|zF<|zB<|yA [] [(4,.bool true)]<|zE<|yJ ?_;obtain rfl:=zD hMl;exact yQ ⟨_,_,(.tmp rfl ResV.nil),zX,⟨_,rfl,rfl,rfl⟩⟩
 intro r0 imm9 hs9 m9 heq9 le9 hrs9;subst heq9;refine yF<|zR ?_;obtain rfl:=zD hMl;exact yQ hrs9
def impl_Program_isInstance_post (r:Bool):KT:=fun kk imm' hs' v=>
  ∃ v0,hs'=[]∧v=tupV [v0]∧v0=.bool r
def M.impl_Program_isInstance (p:zV) (x:zT):Option (Bool):=do
 let t4←(do
   let y←xV x.Part 0 (W ((p.Parts.length:Int) - 1))
   if y then
    let x1←idx p.Parts x.Part
    let y1←xV x.Stmt 0 (W ((x1.Body.length:Int) - 1))
    if y1 then
     let x2←idx p.Parts x.Part
     let y2←jU x2.Nest x.Point
     pure (id y2)
    else
     pure false
   else
    pure false
     : Option Bool)
 pure (id t4)
theorem impl_Program_isInstance_ok:∀ (p:zV) (x:zT) r,M.impl_Program_isInstance p x=some r→∀ {imm:Imm}{p1 c p2 c1 p3 c2},(S4 imm p1 p.Arrays c)→(S4 imm p2 p.Parts c1)→(S4 imm p3 x.Point c2)→Ret Tryz.prog 58 [vA (cProg p p1 c p2 c1),vA (cInst x p3 c2)] imm [] (impl_Program_isInstance_post  r):=by
 intro p x r hM imm p1 c p2 c1 p3 c2 h h1 h2;unfold M.impl_Program_isInstance at hM;refine yG (fn:=Tryz.f58) (c:=(bodyOf Tryz.f58)) Tryz.func58 rfl rfl ?_;rintro B - -;have hle:=iS imm;refine zF<|zB<|tR (cProg p p1 c p2 c1) ?_;intro b hb;refine tR (cInst x p3 c2) ?_;intro b1 hb1;refine yA [] []<|zE<|zF ?_;obtain ⟨o0,ho0,hMc⟩:=zC hM;refine yU (fun imm' hs' m'=>∃ (t4:Bool),o0=t4∧imm.le imm'∧hs'=[]∧m'=[(4,.bool t4)]) ?_ ?_
 · have hle:=iS imm;obtain ⟨y,hy,hM⟩:=zC ho0;cases hc:y with
   | true =>
    have hM0:=zW hc hM;obtain ⟨x1,hy1,hM⟩:=zC hM0;obtain ⟨y1,hy2,hM⟩:=zC hM;cases hc1:y1 with
    | true =>
     have hM01:=zW hc1 hM;obtain ⟨x2,hy3,hM⟩:=zC hM01;obtain ⟨y2,hy4,hM⟩:=zC hM;refine uA [.p (vP b1 0) [],.p (vI x.Part) [0],.p (vP b 1) [],.p (vS p2 p.Parts c1) [1],.p (vI (p.Parts.length:Int)) [],.p (vI (W ((p.Parts.length:Int) - 1))) [],.q (.bool true),.q (.bool true),.p (vP b1 1) [],.p (vI x.Stmt) [0],.p (vP b 1) [],.p (vS p2 p.Parts c1) [1],.p (vP b1 0) [],.p (vI x.Part) [0],.x (fun imm' v hx=>∃ ad p4 c3 p5 c4,v=.pointer (some ad)∧hx=[]∧(At imm' ad (cPart x1 p4 c3 p5 c4))∧(S4 imm' p4 x1.Nest c3)∧(S4 imm' p5 x1.Body c4)),.x (fun imm' v hx=>∃ ad1 p41 c31 p51 c41,v=.pointer (some (ad1.add 1))∧hx=[]∧(At imm' ad1 (cPart x1 p41 c31 p51 c41))∧(S4 imm' p41 x1.Nest c31)∧(S4 imm' p51 x1.Body c41)),.x (fun imm' v hx=>∃ p511 c411,v=vS p511 x1.Body c411∧hx=[]∧(S4 imm' p511 x1.Body c411)),.q (vI (x1.Body.length:Int)),.p (vI (W ((x1.Body.length:Int) - 1))) [],.q (.bool true),.q (.bool true),.q (.bool true),.p (vP b 1) [],.p (vS p2 p.Parts c1) [1],.p (vP b1 0) [],.p (vI x.Part) [0],.x (fun imm' v hx=>∃ ad2 p6 c5 p7 c6,v=.pointer (some ad2)∧hx=[]∧(At imm' ad2 (cPart x2 p6 c5 p7 c6))∧(S4 imm' p6 x2.Nest c5)∧(S4 imm' p7 x2.Body c6)),.x (fun imm' v hx=>∃ ad21 p61 c51 p71 c61,v=.pointer (some ad21)∧hx=[]∧(At imm' ad21 (cPart x2 p61 c51 p71 c61))∧(S4 imm' p61 x2.Nest c51)∧(S4 imm' p71 x2.Body c61)),.x (fun imm' v hx=>∃ p611 c511,v=vS p611 x2.Nest c511∧hx=[]∧(S4 imm' p611 x2.Nest c511)),.p (vP b1 2) [],.p (vS p3 x.Point c2) [0],.q (.bool y2),.p (.bool y2) []] [[],[(0,false)],[],[(2,false)],[(3,false)],[(4,false)],[(1,false),(5,false)],[(6,false)],[(7,false)],[(7,false),(8,false)],[(7,false)],[(7,false),(10,false)],[(7,false)],[(7,false),(12,false)],[(7,false),(11,false),(13,false)],[(7,false),(14,false)],[(7,false),(15,false)],[(7,false),(16,false)],[(7,false),(17,false)],[(7,false),(9,false),(18,false)],[(7,false),(19,false)],[(20,false)],[(21,false)],[(21,false),(22,false)],[(21,false)],[(21,false),(24,false)],[(21,false),(23,false),(25,false)],[(21,false),(26,false)],[(21,false),(27,false)],[(21,false)],[(21,false),(29,false)],[(21,false),(28,false),(30,false)],[(21,false),(31,false)]] [hB b1 (cInst x p3 c2),hB b (cProg p p1 c p2 c1)] [] [(32,false)] (zK [0,1] rfl (by decide)) ?_ ?_
     · refine Op<|Op<|Op<|Op<|Op<|Op<|Oq ?_<|Oq ?_<|Op<|Op<|Op<|Op<|Op<|Op<|Ox ?_<|Ox ?_<|Ox ?_<|Oq ?_<|Op<|Oq ?_<|Oq ?_<|Oq ?_<|Op<|Op<|Op<|Op<|Ox ?_<|Ox ?_<|Ox ?_<|Op<|Op<|Oq ?_<|Op<|On
       · intro imm1 hf le1;refine zG ?_;rintro _ _ ⟨rfl,rfl⟩;refine zG ?_;rintro _ _ ⟨rfl,rfl⟩;refine zN<|yH [(6,vI x.Part),(10,vI (W ((p.Parts.length:Int) - 1)))] ?_;have hle:=iS imm1;refine yR (wN x.Part 0 (W ((p.Parts.length:Int) - 1)) _ hy ) ?_;rintro imm01 hs2 v2 k2 le - ⟨v0,rfl,rfl,rfl⟩ -;have hle:=hle.trans le;rw [hc];exact zZ (hx:=[]) rfl hle rfl (zM rfl) ⟨rfl,rfl⟩
       · intro imm1 hf le1;refine zG ?_;rintro _ _ ⟨rfl,rfl⟩;refine zN<|yH [(11,.bool true)] ?_;have hle:=iS imm1;exact qV 8 [(12,.bool true)]<|zZ (hx:=[]) rfl hle rfl (zM rfl) ⟨rfl,rfl⟩
       · intro imm1 hf le1;refine zG ?_;rintro _ _ ⟨rfl,rfl⟩;refine zG ?_;rintro _ _ ⟨rfl,rfl⟩;refine zG ?_;rintro _ _ ⟨rfl,rfl⟩;refine zN<|yH [(12,.bool true),(16,vS p2 p.Parts c1),(18,vI x.Part)] ?_;have hle:=iS imm1;have h1:=h1.mono le1;refine wJ rfl rfl h1 hy1 ?_;intro ad ccs hat hrep;obtain ⟨v01,v02,rfl,h4,h5⟩:=wS hrep;obtain ⟨p4,c3,rfl⟩:=h4.form;obtain ⟨p5,c4,rfl⟩:=h5.form;exact zZ (hx:=[]) rfl hle rfl (zM rfl) ⟨_,_,_,_,_,rfl,rfl,hat,h4,h5⟩
       · intro imm1 hf le1;refine zG ?_;rintro _ _ ⟨rfl,rfl⟩;refine zG ?_;rintro _ _ ⟨ad,p4,c3,p5,c4,rfl,rfl,hat,h4,h5⟩;refine zN<|yH [(12,.bool true),(19,.pointer (some ad))] ?_;have hle:=iS imm1;exact qV 16 [(20,.pointer (some (ad.add 1)))]<|zZ (hx:=[]) rfl hle rfl (zM rfl) ⟨_,_,_,_,_,rfl,rfl,hat,h4,h5⟩
       · intro imm1 hf le1;refine zG ?_;rintro _ _ ⟨rfl,rfl⟩;refine zG ?_;rintro _ _ ⟨ad1,p41,c31,p51,c41,rfl,rfl,hat1,h41,h51⟩;refine zN<|yH [(12,.bool true),(20,.pointer (some (ad1.add 1)))] ?_;have hle:=iS imm1;exact xS 1 hat1 [vS p51 x1.Body c41] (vS p51 x1.Body c41) rfl<|zZ (hx:=[]) rfl hle rfl (zM rfl) ⟨_,_,rfl,rfl,h51⟩
       · intro imm1 hf le1;refine zG ?_;rintro _ _ ⟨rfl,rfl⟩;refine zG ?_;rintro _ _ ⟨p511,c411,rfl,rfl,h511⟩;refine zN<|yH [(12,.bool true),(21,vS p511 x1.Body c411)] ?_;have hle:=iS imm1;exact qV 18 [(22,vI (x1.Body.length:Int))]<|zZ (hx:=[]) rfl hle rfl (zM rfl) ⟨rfl,rfl⟩
       · intro imm1 hf le1;refine zG ?_;rintro _ _ ⟨rfl,rfl⟩;refine zG ?_;rintro _ _ ⟨rfl,rfl⟩;refine zG ?_;rintro _ _ ⟨rfl,rfl⟩;refine zN<|yH [(12,.bool true),(14,vI x.Stmt),(23,vI (W ((x1.Body.length:Int) - 1)))] ?_;have hle:=iS imm1;refine yR (wN x.Stmt 0 (W ((x1.Body.length:Int) - 1)) _ hy2 ) ?_;rintro imm02 hs2 v2 k2 le1 - ⟨v03,rfl,rfl,rfl⟩ -;have hle:=hle.trans le1;rw [hc1];exact zZ (hx:=[]) rfl hle rfl (zM rfl) ⟨rfl,rfl⟩
       · intro imm1 hf le1;refine zG ?_;rintro _ _ ⟨rfl,rfl⟩;refine zG ?_;rintro _ _ ⟨rfl,rfl⟩;refine zN<|yH [(12,.bool true),(24,.bool true)] ?_;have hle:=iS imm1;exact qV 21 [(25,.bool true)]<|zZ (hx:=[]) rfl hle rfl (zM rfl) ⟨rfl,rfl⟩
       · intro imm1 hf le1;refine zG ?_;rintro _ _ ⟨rfl,rfl⟩;refine zN<|yH [(25,.bool true)] ?_;have hle:=iS imm1;exact qV 22 [(26,.bool true)]<|zZ (hx:=[]) rfl hle rfl (zM rfl) ⟨rfl,rfl⟩
       · intro imm1 hf le1;refine zG ?_;rintro _ _ ⟨rfl,rfl⟩;refine zG ?_;rintro _ _ ⟨rfl,rfl⟩;refine zG ?_;rintro _ _ ⟨rfl,rfl⟩;refine zN<|yH [(26,.bool true),(28,vS p2 p.Parts c1),(30,vI x.Part)] ?_;have hle:=iS imm1;have h1:=h1.mono le1;refine wJ rfl rfl h1 hy3 ?_;intro ad2 ccs1 hat2 hrep1;obtain ⟨v04,v05,rfl,h7,h8⟩:=wS hrep1;obtain ⟨p6,c5,rfl⟩:=h7.form;obtain ⟨p7,c6,rfl⟩:=h8.form;exact zZ (hx:=[]) rfl hle rfl (zM rfl) ⟨_,_,_,_,_,rfl,rfl,hat2,h7,h8⟩
       · intro imm1 hf le1;refine zG ?_;rintro _ _ ⟨rfl,rfl⟩;refine zG ?_;rintro _ _ ⟨ad2,p6,c5,p7,c6,rfl,rfl,hat2,h7,h8⟩;refine zN<|yH [(26,.bool true),(31,.pointer (some ad2))] ?_;have hle:=iS imm1;exact qV 28 [(32,.pointer (some ad2))]<|zZ (hx:=[]) rfl hle rfl (zM rfl) ⟨_,_,_,_,_,rfl,rfl,hat2,h7,h8⟩
       · intro imm1 hf le1;refine zG ?_;rintro _ _ ⟨rfl,rfl⟩;refine zG ?_;rintro _ _ ⟨ad21,p61,c51,p71,c61,rfl,rfl,hat21,h71,h81⟩;refine zN<|yH [(26,.bool true),(32,.pointer (some ad21))] ?_;have hle:=iS imm1;exact xS 0 hat21 [vS p61 x2.Nest c51] (vS p61 x2.Nest c51) rfl<|zZ (hx:=[]) rfl hle rfl (zM rfl) ⟨_,_,rfl,rfl,h71⟩
       intro imm1 hf le1;refine zG ?_;rintro _ _ ⟨rfl,rfl⟩;refine zG ?_;rintro _ _ ⟨p611,c511,rfl,rfl,h711⟩;refine zG ?_;rintro _ _ ⟨rfl,rfl⟩;refine zN<|yH [(26,.bool true),(33,vS p611 x2.Nest c511),(35,vS p3 x.Point c2)] ?_;have hle:=iS imm1;have h2:=h2.mono le1;refine yR (impl_PointIn_ok x2.Nest x.Point _ hy4 h711 h2) ?_;rintro imm03 hs2 v2 k2 le2 - ⟨v06,rfl,rfl,rfl⟩ -;have hle:=hle.trans le2;exact zZ (hx:=[]) rfl hle rfl (zM rfl) ⟨rfl,rfl⟩
     intro imm04 le3;refine zG ?_;rintro _ _ ⟨rfl,rfl⟩;refine zN<|yH [(37,.bool y2)] ?_;have hle:=hle.trans le3;exact yA [] [(4,.bool y2)]<|wD (zK [] rfl (by decide))<|yT [(4,.bool y2)]<|yB ⟨_,(zD hM).symm,hle,rfl,rfl⟩
    | false =>
     have hM02:=zU hc1 hM;refine uA [.p (vP b1 0) [],.p (vI x.Part) [0],.p (vP b 1) [],.p (vS p2 p.Parts c1) [1],.p (vI (p.Parts.length:Int)) [],.p (vI (W ((p.Parts.length:Int) - 1))) [],.q (.bool true),.q (.bool true),.p (vP b1 1) [],.p (vI x.Stmt) [0],.p (vP b 1) [],.p (vS p2 p.Parts c1) [1],.p (vP b1 0) [],.p (vI x.Part) [0],.x (fun imm' v hx=>∃ ad p4 c3 p5 c4,v=.pointer (some ad)∧hx=[]∧(At imm' ad (cPart x1 p4 c3 p5 c4))∧(S4 imm' p4 x1.Nest c3)∧(S4 imm' p5 x1.Body c4)),.x (fun imm' v hx=>∃ ad1 p41 c31 p51 c41,v=.pointer (some (ad1.add 1))∧hx=[]∧(At imm' ad1 (cPart x1 p41 c31 p51 c41))∧(S4 imm' p41 x1.Nest c31)∧(S4 imm' p51 x1.Body c41)),.x (fun imm' v hx=>∃ p511 c411,v=vS p511 x1.Body c411∧hx=[]∧(S4 imm' p511 x1.Body c411)),.q (vI (x1.Body.length:Int)),.p (vI (W ((x1.Body.length:Int) - 1))) [],.q (.bool false),.q (.bool false),.q (.bool false),.p undef [],.p undef [],.p undef [],.p undef [],.p undef [],.p undef [],.p undef [],.p undef [],.p undef [],.p undef [],.p (.bool false) []] [[],[(0,false)],[],[(2,false)],[(3,false)],[(4,false)],[(1,false),(5,false)],[(6,false)],[(7,false)],[(7,false),(8,false)],[(7,false)],[(7,false),(10,false)],[(7,false)],[(7,false),(12,false)],[(7,false),(11,false),(13,false)],[(7,false),(14,false)],[(7,false),(15,false)],[(7,false),(16,false)],[(7,false),(17,false)],[(7,false),(9,false),(18,false)],[(7,false),(19,false)],[(20,false)],[(21,false)],[(21,false),(22,false)],[(21,false)],[(21,false),(24,false)],[(21,false),(23,false),(25,false)],[(21,false),(26,false)],[(21,false),(27,false)],[(21,false)],[(21,false),(29,false)],[(21,false),(28,false),(30,false)],[(21,false),(31,false)]] [hB b1 (cInst x p3 c2),hB b (cProg p p1 c p2 c1)] [] [(32,false)] (zK [0,1] rfl (by decide)) ?_ ?_
     · refine Op<|Op<|Op<|Op<|Op<|Op<|Oq ?_<|Oq ?_<|Op<|Op<|Op<|Op<|Op<|Op<|Ox ?_<|Ox ?_<|Ox ?_<|Oq ?_<|Op<|Oq ?_<|Oq ?_<|Oq ?_<|Op<|Op<|Op<|Op<|Op<|Op<|Op<|Op<|Op<|Op<|Op<|On
       · intro imm1 hf le1;refine zG ?_;rintro _ _ ⟨rfl,rfl⟩;refine zG ?_;rintro _ _ ⟨rfl,rfl⟩;refine zN<|yH [(6,vI x.Part),(10,vI (W ((p.Parts.length:Int) - 1)))] ?_;have hle:=iS imm1;refine yR (wN x.Part 0 (W ((p.Parts.length:Int) - 1)) _ hy ) ?_;rintro imm01 hs2 v2 k2 le - ⟨v0,rfl,rfl,rfl⟩ -;have hle:=hle.trans le;rw [hc];exact zZ (hx:=[]) rfl hle rfl (zM rfl) ⟨rfl,rfl⟩
       · intro imm1 hf le1;refine zG ?_;rintro _ _ ⟨rfl,rfl⟩;refine zN<|yH [(11,.bool true)] ?_;have hle:=iS imm1;exact qV 8 [(12,.bool true)]<|zZ (hx:=[]) rfl hle rfl (zM rfl) ⟨rfl,rfl⟩
       · intro imm1 hf le1;refine zG ?_;rintro _ _ ⟨rfl,rfl⟩;refine zG ?_;rintro _ _ ⟨rfl,rfl⟩;refine zG ?_;rintro _ _ ⟨rfl,rfl⟩;refine zN<|yH [(12,.bool true),(16,vS p2 p.Parts c1),(18,vI x.Part)] ?_;have hle:=iS imm1;have h1:=h1.mono le1;refine wJ rfl rfl h1 hy1 ?_;intro ad ccs hat hrep;obtain ⟨v01,v02,rfl,h4,h5⟩:=wS hrep;obtain ⟨p4,c3,rfl⟩:=h4.form;obtain ⟨p5,c4,rfl⟩:=h5.form;exact zZ (hx:=[]) rfl hle rfl (zM rfl) ⟨_,_,_,_,_,rfl,rfl,hat,h4,h5⟩
       · intro imm1 hf le1;refine zG ?_;rintro _ _ ⟨rfl,rfl⟩;refine zG ?_;rintro _ _ ⟨ad,p4,c3,p5,c4,rfl,rfl,hat,h4,h5⟩;refine zN<|yH [(12,.bool true),(19,.pointer (some ad))] ?_;have hle:=iS imm1;exact qV 16 [(20,.pointer (some (ad.add 1)))]<|zZ (hx:=[]) rfl hle rfl (zM rfl) ⟨_,_,_,_,_,rfl,rfl,hat,h4,h5⟩
       · intro imm1 hf le1;refine zG ?_;rintro _ _ ⟨rfl,rfl⟩;refine zG ?_;rintro _ _ ⟨ad1,p41,c31,p51,c41,rfl,rfl,hat1,h41,h51⟩;refine zN<|yH [(12,.bool true),(20,.pointer (some (ad1.add 1)))] ?_;have hle:=iS imm1;exact xS 1 hat1 [vS p51 x1.Body c41] (vS p51 x1.Body c41) rfl<|zZ (hx:=[]) rfl hle rfl (zM rfl) ⟨_,_,rfl,rfl,h51⟩
       · intro imm1 hf le1;refine zG ?_;rintro _ _ ⟨rfl,rfl⟩;refine zG ?_;rintro _ _ ⟨p511,c411,rfl,rfl,h511⟩;refine zN<|yH [(12,.bool true),(21,vS p511 x1.Body c411)] ?_;have hle:=iS imm1;exact qV 18 [(22,vI (x1.Body.length:Int))]<|zZ (hx:=[]) rfl hle rfl (zM rfl) ⟨rfl,rfl⟩
       · intro imm1 hf le1;refine zG ?_;rintro _ _ ⟨rfl,rfl⟩;refine zG ?_;rintro _ _ ⟨rfl,rfl⟩;refine zG ?_;rintro _ _ ⟨rfl,rfl⟩;refine zN<|yH [(12,.bool true),(14,vI x.Stmt),(23,vI (W ((x1.Body.length:Int) - 1)))] ?_;have hle:=iS imm1;refine yR (wN x.Stmt 0 (W ((x1.Body.length:Int) - 1)) _ hy2 ) ?_;rintro imm02 hs2 v2 k2 le1 - ⟨v03,rfl,rfl,rfl⟩ -;have hle:=hle.trans le1;rw [hc1];exact zZ (hx:=[]) rfl hle rfl (zM rfl) ⟨rfl,rfl⟩
       · intro imm1 hf le1;refine zG ?_;rintro _ _ ⟨rfl,rfl⟩;refine zG ?_;rintro _ _ ⟨rfl,rfl⟩;refine zN<|yH [(12,.bool true),(24,.bool false)] ?_;have hle:=iS imm1;exact qV 21 [(25,.bool false)]<|zZ (hx:=[]) rfl hle rfl (zM rfl) ⟨rfl,rfl⟩
       intro imm1 hf le1;refine zG ?_;rintro _ _ ⟨rfl,rfl⟩;refine zN<|yH [(25,.bool false)] ?_;have hle:=iS imm1;exact qV 22 [(26,.bool false)]<|zZ (hx:=[]) rfl hle rfl (zM rfl) ⟨rfl,rfl⟩
     intro imm05 le4;refine zG ?_;rintro _ _ ⟨rfl,rfl⟩;refine zN<|yH [(37,.bool false)] ?_;have hle:=hle.trans le4;exact yA [] [(4,.bool false)]<|wD (zK [] rfl (by decide))<|yT [(4,.bool false)]<|yB ⟨_,(zD hM02).symm,hle,rfl,rfl⟩
   | false =>
    have hM03:=zU hc hM;refine uA [.p (vP b1 0) [],.p (vI x.Part) [0],.p (vP b 1) [],.p (vS p2 p.Parts c1) [1],.p (vI (p.Parts.length:Int)) [],.p (vI (W ((p.Parts.length:Int) - 1))) [],.q (.bool false),.q (.bool false),.p undef [],.p undef [],.p undef [],.p undef [],.p undef [],.p undef [],.p undef [],.p undef [],.p undef [],.p undef [],.p undef [],.p undef [],.p (.bool false) [],.p (.bool false) [],.p undef [],.p undef [],.p undef [],.p undef [],.p undef [],.p undef [],.p undef [],.p undef [],.p undef [],.p undef [],.p (.bool false) []] [[],[(0,false)],[],[(2,false)],[(3,false)],[(4,false)],[(1,false),(5,false)],[(6,false)],[(7,false)],[(7,false),(8,false)],[(7,false)],[(7,false),(10,false)],[(7,false)],[(7,false),(12,false)],[(7,false),(11,false),(13,false)],[(7,false),(14,false)],[(7,false),(15,false)],[(7,false),(16,false)],[(7,false),(17,false)],[(7,false),(9,false),(18,false)],[(7,false),(19,false)],[(20,false)],[(21,false)],[(21,false),(22,false)],[(21,false)],[(21,false),(24,false)],[(21,false),(23,false),(25,false)],[(21,false),(26,false)],[(21,false),(27,false)],[(21,false)],[(21,false),(29,false)],[(21,false),(28,false),(30,false)],[(21,false),(31,false)]] [hB b1 (cInst x p3 c2),hB b (cProg p p1 c p2 c1)] [] [(32,false)] (zK [0,1] rfl (by decide)) ?_ ?_
    · refine Op<|Op<|Op<|Op<|Op<|Op<|Oq ?_<|Oq ?_<|Op<|Op<|Op<|Op<|Op<|Op<|Op<|Op<|Op<|Op<|Op<|Op<|Op<|Op<|Op<|Op<|Op<|Op<|Op<|Op<|Op<|Op<|Op<|Op<|Op<|On
      · intro imm1 hf le1;refine zG ?_;rintro _ _ ⟨rfl,rfl⟩;refine zG ?_;rintro _ _ ⟨rfl,rfl⟩;refine zN<|yH [(6,vI x.Part),(10,vI (W ((p.Parts.length:Int) - 1)))] ?_;have hle:=iS imm1;refine yR (wN x.Part 0 (W ((p.Parts.length:Int) - 1)) _ hy ) ?_;rintro imm01 hs2 v2 k2 le - ⟨v0,rfl,rfl,rfl⟩ -;have hle:=hle.trans le;rw [hc];exact zZ (hx:=[]) rfl hle rfl (zM rfl) ⟨rfl,rfl⟩
      intro imm1 hf le1;refine zG ?_;rintro _ _ ⟨rfl,rfl⟩;refine zN<|yH [(11,.bool false)] ?_;have hle:=iS imm1;exact qV 8 [(12,.bool false)]<|zZ (hx:=[]) rfl hle rfl (zM rfl) ⟨rfl,rfl⟩
    intro imm06 le5;refine zG ?_;rintro _ _ ⟨rfl,rfl⟩;refine zN<|yH [(37,.bool false)] ?_;have hle:=hle.trans le5;exact yA [] [(4,.bool false)]<|wD (zK [] rfl (by decide))<|yT [(4,.bool false)]<|yB ⟨_,(zD hM03).symm,hle,rfl,rfl⟩
 rintro imm0 hs2 m2 ⟨t4,heq,le6,rfl,rfl⟩;subst o0;refine zE<|yJ ?_;obtain rfl:=zD hMc;exact yQ ⟨_,_,(.tmp rfl ResV.nil),zX,⟨_,rfl,rfl,rfl⟩⟩
def impl_InstanceCells_post (r:(List Int)×Int×Bool):KT:=fun kk imm' hs' v=>
  ∃ v0 v1 v2,hs'=[]∧v=tupV [v0,v1,v2]∧SL imm' v0 r.1∧v1=.int .i64 r.2.1∧v2=.bool r.2.2
def M.impl_InstanceCells (p:zV) (x:zT):Option ((List Int)×Int×Bool):=do
 let t17←(do
   let y←M.impl_ProgramValid p
   if (!y) then
    pure true
   else
    let y1←M.impl_Program_isInstance p x
    pure (!y1)
     : Option Bool)
 if t17 then
  pure (([]:List Int),0,false)
 else
  let (y3,y4)←sX p x
  pure (y3,y4,true)
theorem impl_InstanceCells_ok:∀ (p:zV) (x:zT) r,M.impl_InstanceCells p x=some r→∀ {imm:Imm}{p1 c p2 c1 p3 c2},(S4 imm p1 p.Arrays c)→(S4 imm p2 p.Parts c1)→(S4 imm p3 x.Point c2)→Ret Tryz.prog 25 [vA (cProg p p1 c p2 c1),vA (cInst x p3 c2)] imm [] (impl_InstanceCells_post  r):=by
 intro p x r hM imm p1 c p2 c1 p3 c2 h h1 h2;unfold M.impl_InstanceCells at hM;refine yG (fn:=Tryz.f25) (c:=(bodyOf Tryz.f25)) Tryz.func25 rfl rfl ?_;rintro B - -;have hle:=iS imm;refine zF<|zB<|tR (cProg p p1 c p2 c1) ?_;intro b hb;refine tR (cInst x p3 c2) ?_;intro b1 hb1;refine yA [] []<|zE<|zF<|zF ?_;obtain ⟨o0,ho0,hMc⟩:=zC hM;refine yU (fun imm' hs' m'=>∃ (t17:Bool),o0=t17∧imm.le imm'∧hs'=[hB b1 (cInst x p3 c2),hB b (cProg p p1 c p2 c1)]∧m'=[(2,vP b 0),(3,vP b1 0),(17,.bool t17)]) ?_ ?_
 · have hle:=iS imm;refine zB<|yK 1 [1] [(9,vA (cProg p p1 c p2 c1))] ?_;obtain ⟨y,hy,hM⟩:=zC ho0;refine yR (impl_ProgramValid_ok p _ hy h h1) ?_;rintro imm01 hs2 v2 k2 le - ⟨v0,rfl,rfl,rfl⟩ -;have h2:=h2.mono le;have h:=h.mono le;have h1:=h1.mono le;have hle:=hle.trans le;refine yK 4 [] [(12,.bool (!y))] ?_;cases hc:(!y) with
   | true =>
    have hM0:=zW hc hM
    try rw [hc]
    exact yA [] [(17,.bool true)]<|yT [(2,vP b 0),(3,vP b1 0),(17,.bool true)]<|yB ⟨_,(zD hM0).symm,hle,rfl,rfl⟩
   | false =>
    have hM01:=zU hc hM
    try rw [hc]
    refine yK 6 [1,0] [(13,vA (cProg p p1 c p2 c1)),(14,vA (cInst x p3 c2))] ?_;obtain ⟨y1,hy1,hM⟩:=zC hM01;refine yR (impl_Program_isInstance_ok p x _ hy1 h h1 h2) ?_;rintro imm02 hs2 v2 k2 le1 - ⟨v01,rfl,rfl,rfl⟩ -;have hle:=hle.trans le1;exact yA [] [(17,.bool (!y1))]<|yT [(2,vP b 0),(3,vP b1 0),(17,.bool (!y1))]<|yB ⟨_,(zD hM).symm,hle,rfl,rfl⟩
 rintro imm0 hs2 m2 ⟨t17,heq,le2,rfl,rfl⟩;subst o0;have h2:=h2.mono le2;have h:=h.mono le2;have h1:=h1.mono le2;refine zE<|yO hMc ?_ ?_
 · intro hc1 hM;refine zF<|zB<|yA [] [(4,z0),(5,vI 0),(6,.bool false)]<|zE<|yJ<|zR ?_;obtain rfl:=zD hM;exact yQ ⟨_,_,(.tmp rfl (.tmp rfl (.tmp rfl ResV.nil))),zX,⟨_,_,_,rfl,rfl,(SL.nil _),rfl,rfl⟩⟩
 intro hc1 hM;refine yE<|zE<|zF<|zB<|yK 2 [1,0] [(19,vA (cProg p p1 c p2 c1)),(20,vA (cInst x p3 c2))] ?_;obtain ⟨⟨y3,y4⟩,hy2,hM⟩:=zC hM;refine yR (fQ p x _ hy2 h h1 h2) ?_;rintro imm03 hs2 v2 k2 le3 - ⟨v02,v03,rfl,rfl,h5,rfl⟩ -;obtain ⟨p4,c3,rfl⟩:=h5.form;refine yA [] [(7,vS p4 y3 c3),(8,vI y4)]<|zE<|zF<|zB<|yA [] [(4,vS p4 y3 c3),(5,vI y4),(6,.bool true)]<|zE<|yJ ?_;obtain rfl:=zD hM;exact yQ ⟨_,_,(.tmp rfl (.tmp rfl (.tmp rfl ResV.nil))),zX,⟨_,_,_,rfl,rfl,h5,rfl,rfl⟩⟩
def laws_FnFlowSources_post (r:Bool):KT:=fun kk imm' hs' v=>
  ∃ v0,hs'=[]∧v=tupV [v0]∧v0=.bool r
def M.laws_FnFlowSources_l2 (y1:zV) (y2:Int) (y4:(List Int)) (y11:(List zT)) (y13:(List Int)) (i:Int) (k0:Int):Option (Out Unit (Bool)):=do
 if (decide (k0 < y2)) then
  if (decide (k0 < 0)) then
   M.laws_FnFlowSources_l2 y1 y2 y4 y11 y13 i (W (k0 + 1))
  else
   let x3←idx y11 k0
   let (y17,y18,y19)←M.impl_InstanceCells y1 x3
   let x4←idx y13 i
   let x5←idx y4 i
   if (!((y18 == x4) == (k0 == x5))) then
    pure (.ret false)
   else
    M.laws_FnFlowSources_l2 y1 y2 y4 y11 y13 i (W (k0 + 1))
 else
  pure (.done ())
 partial_fixpoint
theorem laws_FnFlowSources_l2_ok (y1:zV) (y2:Int) (y4:(List Int)) (y11:(List zT)) (y13:(List Int)) (i:Int):∀ (k0:Int) (o:Out Unit (Bool)),M.laws_FnFlowSources_l2 y1 y2 y4 y11 y13 i k0=some o→∀ {B}{imm0 imm:Imm}{Q p1 c1 p2 c2}{b:Nat}{p3 c3 p5 c5 p7111 c7111},imm0.le imm→(S4 imm p3 y4 c3)→(S4 imm p5 y11 c5)→(S4 imm p7111 y13 c7111)→(S4 imm p1 y1.Arrays c1)→(S4 imm p2 y1.Parts c2)→(∀ gl a w,¬Q (.goto gl) a w)→(∀ a w,¬Q .outgrown a w)→(∀ (imm':Imm) ,o=(.done ())→imm0.le imm'→T 124 B Q (.exit 2) imm' [hB b (cProg y1 p1 c1 p2 c2)] [(3,vP b 0),(4,vI y2),(5,vS p3 y4 c3),(9,vS p5 y11 c5),(10,vS p7111 y13 c7111),(13,vI i)])→(∀ r imm' hs' m',o=(.ret r)→imm0.le imm'→RS Tryz.prog Tryz.f6 B (laws_FnFlowSources_post  r) imm' hs' m'→T 124 B Q .ret imm' hs' m')→J Tryz.prog 124 B (nav (bodyOf Tryz.f6) [1,1,1,1,1,1,1,1,0,1,0,0,1,0,0,1,1,0]) Q imm [hB b (cProg y1 p1 c1 p2 c2)] [(3,vP b 0),(4,vI y2),(5,vS p3 y4 c3),(9,vS p5 y11 c5),(10,vS p7111 y13 c7111),(13,vI i),(14,vI k0)]:=by
 refine M.laws_FnFlowSources_l2.partial_correctness y1 y2 y4 y11 y13 i _ ?_;intro self ih k0 o hM B imm0 imm Q p1 c1 p2 c2 b p3 c3 p5 c5 p7111 c7111 hle h5 h11 h13111 h3 h4 hg ho hx hr;refine xC hg ho<|zF<|zF<|zB<|yA [] [(96,.bool (decide (k0 < y2)))]<|zE<|yO hM ?_ ?_
 · intro hc8 hM;refine yE<|zE<|zF<|yC<|zF<|zF<|zB<|yA [] [(100,.bool (decide (k0 < 0)))]<|zE<|yO hM ?_ ?_
   · intro hc9 hM;exact xA<|zS<|yD<|zE<|zB<|yA [] [(14,vI (W (k0 + 1)))]<|xD<|vQ [(3,vP b 0),(4,vI y2),(5,vS p3 y4 c3),(9,vS p5 y11 c5),(10,vS p7111 y13 c7111),(13,vI i),(14,vI (W (k0 + 1)))]<|ih (W (k0 + 1)) _ hM hle h5 h11 h13111 h3 h4 hg ho hx hr
   intro hc9 hM;refine yE<|zE<|zF ?_;obtain ⟨x3,hy10,hM⟩:=zC hM;obtain ⟨⟨y17,y18,y19⟩,hy11,hM⟩:=zC hM;refine uA [.p (vA (cProg y1 p1 c1 p2 c2)) [0],.p (vS p5 y11 c5) [],.p (vI k0) [],.x (fun imm' v hx=>∃ ad3 p8 c8,v=.pointer (some ad3)∧hx=[]∧(At imm' ad3 (cInst x3 p8 c8))∧(S4 imm' p8 x3.Point c8)),.x (fun imm' v hx=>∃ p81 c81,v=vA (cInst x3 p81 c81)∧hx=[]∧(S4 imm' p81 x3.Point c81)),.x (fun imm' v hx=>∃ p9 c9,v=.tuple ⟨[vS p9 y17 c9,vI y18,.bool y19]⟩∧hx=[]∧(S4 imm' p9 y17 c9)),.x (fun imm' v hx=>∃ p91 c91,v=.tuple ⟨[vS p91 y17 c91,vI y18,.bool y19]⟩∧hx=[]∧(S4 imm' p91 y17 c91)),.x (fun imm' v hx=>∃ p911 c911,v=vS p911 y17 c911∧hx=[]∧(S4 imm' p911 y17 c911)),.q (vI y18),.q (.bool y19),.x (fun imm' v hx=>∃ p9111 c9111,v=vS p9111 y17 c9111∧hx=[]∧(S4 imm' p9111 y17 c9111)),.p (vI y18) []] [[],[],[],[(1,false),(2,false)],[(3,false)],[(0,false),(4,false)],[(5,false)],[(6,false)],[(6,false)],[(6,false)],[(7,false)],[(8,false)]] [hB b (cProg y1 p1 c1 p2 c2)] [] [(9,false),(11,false)] (zK [0] rfl (by decide)) ?_ ?_
   · refine Op<|Op<|Op<|Ox ?_<|Ox ?_<|Ox ?_<|Ox ?_<|Ox ?_<|Oq ?_<|Oq ?_<|Ox ?_<|Op<|On
     · intro imm1 hf le1;refine zG ?_;rintro _ _ ⟨rfl,rfl⟩;refine zG ?_;rintro _ _ ⟨rfl,rfl⟩;refine zN<|yH [(103,vS p5 y11 c5),(104,vI k0)] ?_;have hle:=iS imm1;have h11:=h11.mono le1;refine wJ rfl rfl h11 hy10 ?_;intro ad3 ccs3 hat3 hrep3;obtain ⟨v015,rfl,h16⟩:=zAm hrep3;obtain ⟨p8,c8,rfl⟩:=h16.form;exact zZ (hx:=[]) rfl hle rfl (zM rfl) ⟨_,_,_,rfl,rfl,hat3,h16⟩
     · intro imm1 hf le1;refine zG ?_;rintro _ _ ⟨ad3,p8,c8,rfl,rfl,hat3,h16⟩;refine zN<|yH [(105,.pointer (some ad3))] ?_;have hle:=iS imm1;exact xS 0 hat3 (cInst x3 p8 c8) (vA (cInst x3 p8 c8)) rfl<|zZ (hx:=[]) rfl hle rfl (zM rfl) ⟨_,_,rfl,rfl,h16⟩
     · intro imm1 hf le1;refine zG ?_;rintro _ _ ⟨rfl,rfl⟩;refine zG ?_;rintro _ _ ⟨p81,c81,rfl,rfl,h161⟩;refine zN<|yH [(102,vA (cProg y1 p1 c1 p2 c2)),(106,vA (cInst x3 p81 c81))] ?_;have hle:=iS imm1;have h3:=h3.mono le1;have h4:=h4.mono le1;refine yR (impl_InstanceCells_ok y1 x3 _ hy11 h3 h4 h161) ?_;rintro imm011 hs2 v2 k2 le11 - ⟨v016,v017,v018,rfl,rfl,h17,rfl,rfl⟩ -;have hle:=hle.trans le11;obtain ⟨p9,c9,rfl⟩:=h17.form;exact zZ (hx:=[]) rfl hle rfl (zM rfl) ⟨_,_,rfl,rfl,h17⟩
     · intro imm1 hf le1;refine zG ?_;rintro _ _ ⟨p9,c9,rfl,rfl,h17⟩;refine zN<|yH [(107,.tuple ⟨[vS p9 y17 c9,vI y18,.bool y19]⟩)] ?_;have hle:=iS imm1;exact qV 7 [(101,.tuple ⟨[vS p9 y17 c9,vI y18,.bool y19]⟩)]<|zZ (hx:=[]) rfl hle rfl (zM rfl) ⟨_,_,rfl,rfl,h17⟩
     · intro imm1 hf le1;refine zG ?_;rintro _ _ ⟨p91,c91,rfl,rfl,h171⟩;refine zN<|yH [(101,.tuple ⟨[vS p91 y17 c91,vI y18,.bool y19]⟩)] ?_;have hle:=iS imm1;exact qV 8 [(108,vS p91 y17 c91)]<|zZ (hx:=[]) rfl hle rfl (zM rfl) ⟨_,_,rfl,rfl,h171⟩
     · intro imm1 hf le1;refine zG ?_;rintro _ _ ⟨p91,c91,rfl,rfl,h171⟩;refine zN<|yH [(101,.tuple ⟨[vS p91 y17 c91,vI y18,.bool y19]⟩)] ?_;have hle:=iS imm1;exact qV 9 [(109,vI y18)]<|zZ (hx:=[]) rfl hle rfl (zM rfl) ⟨rfl,rfl⟩
     · intro imm1 hf le1;refine zG ?_;rintro _ _ ⟨p91,c91,rfl,rfl,h171⟩;refine zN<|yH [(101,.tuple ⟨[vS p91 y17 c91,vI y18,.bool y19]⟩)] ?_;have hle:=iS imm1;exact qV 10 [(110,.bool y19)]<|zZ (hx:=[]) rfl hle rfl (zM rfl) ⟨rfl,rfl⟩
     intro imm1 hf le1;refine zG ?_;rintro _ _ ⟨p911,c911,rfl,rfl,h1711⟩;refine zN<|yH [(108,vS p911 y17 c911)] ?_;have hle:=iS imm1;exact qV 11 [(15,vS p911 y17 c911)]<|zZ (hx:=[]) rfl hle rfl (zM rfl) ⟨_,_,rfl,rfl,h1711⟩
   intro imm012 le12;refine zG ?_;rintro _ _ ⟨rfl,rfl⟩;refine zG ?_;rintro _ _ ⟨rfl,rfl⟩;refine zN<|yH [(3,vP b 0),(4,vI y2),(5,vS p3 y4 c3),(9,vS p5 y11 c5),(10,vS p7111 y13 c7111),(13,vI i),(14,vI k0),(16,vI y18),(110,.bool y19)] ?_;have h5:=h5.mono le12;have h11:=h11.mono le12;have h13111:=h13111.mono le12;have h3:=h3.mono le12;have h4:=h4.mono le12;have hle:=hle.trans le12;refine yA [] []<|zE<|zF<|jF (by kernel_rfl) (by kernel_rfl)<|eU 3 [] [(111,vI y18),(112,vS p7111 y13 c7111),(113,vI i)] ?_;obtain ⟨x4,hy12,hM⟩:=zC hM;refine zDb rfl rfl h13111 hy12 ?_;intro ad4 ccs4 hat4 hrep4;obtain rfl:=hrep4;refine zDa 0 hat4 [vI x4] (vI x4) rfl<|eU 9 [] [(116,.bool (y18 == x4)),(117,vI k0),(118,vS p3 y4 c3),(119,vI i)] ?_;obtain ⟨x5,hy13,hM⟩:=zC hM;refine zDb rfl rfl h5 hy13 ?_;intro ad5 ccs5 hat5 hrep5;obtain rfl:=hrep5;refine zDa 0 hat5 [vI x5] (vI x5) rfl<|zCt [] [(123,.bool (!((y18 == x4) == (k0 == x5))))]<|zE<|yO hM ?_ ?_
   · intro hc10 hM;exact zF<|zB<|yA [] [(2,.bool false)]<|zE<|yJ<|yF<|zR<|zR<|hr _ _ _ _ (zD hM).symm hle ⟨_,_,(.tmp rfl ResV.nil),zX,⟨_,rfl,rfl,rfl⟩⟩
   intro hc10 hM;exact yE<|zY<|zE<|zB<|yA [] [(14,vI (W (k0 + 1)))]<|xD<|vQ [(3,vP b 0),(4,vI y2),(5,vS p3 y4 c3),(9,vS p5 y11 c5),(10,vS p7111 y13 c7111),(13,vI i),(14,vI (W (k0 + 1)))]<|ih (W (k0 + 1)) _ hM hle h5 h11 h13111 h3 h4 hg ho hx hr
 intro hc8 hM;exact xA<|zS<|zS<|yT [(3,vP b 0),(4,vI y2),(5,vS p3 y4 c3),(9,vS p5 y11 c5),(10,vS p7111 y13 c7111),(13,vI i)]<|hx _  (zD hM).symm hle
def M.laws_FnFlowSources_l1 (y1:zV) (y2:Int) (y4:(List Int)) (y11:(List zT)) (y13:(List Int)) (i:Int):Option (Out Unit (Bool)):=do
 if (decide (i < (y4.length:Int))) then
  let t89←(do
    if ((y4.length:Int) != (y13.length:Int)) then
     pure true
    else
     let x1←idx y4 i
     pure (decide (x1 ≥ y2))
      : Option Bool)
  if t89 then
   pure (.ret false)
  else
   let x2←idx y4 i
   match←M.laws_FnFlowSources_l2 y1 y2 y4 y11 y13 i x2 with
   | .ret r0=>pure (.ret r0)
   | .done _ =>
    M.laws_FnFlowSources_l1 y1 y2 y4 y11 y13 (W (i + 1))
 else
  pure (.done ())
 partial_fixpoint
theorem laws_FnFlowSources_l1_ok (y1:zV) (y2:Int) (y4:(List Int)) (y11:(List zT)) (y13:(List Int)):∀ (i:Int) (o:Out Unit (Bool)),M.laws_FnFlowSources_l1 y1 y2 y4 y11 y13 i=some o→∀ {B}{imm0 imm:Imm}{Q p1 c1 p2 c2}{b:Nat}{p3 c3 p5 c5 p7111 c7111},imm0.le imm→(S4 imm p3 y4 c3)→(S4 imm p5 y11 c5)→(S4 imm p7111 y13 c7111)→(S4 imm p1 y1.Arrays c1)→(S4 imm p2 y1.Parts c2)→(∀ gl a w,¬Q (.goto gl) a w)→(∀ a w,¬Q .outgrown a w)→(∀ (imm':Imm) ,o=(.done ())→imm0.le imm'→T 124 B Q (.exit 0) imm' [] [])→(∀ r imm' hs' m',o=(.ret r)→imm0.le imm'→RS Tryz.prog Tryz.f6 B (laws_FnFlowSources_post  r) imm' hs' m'→T 124 B Q .ret imm' hs' m')→J Tryz.prog 124 B (nav (bodyOf Tryz.f6) [1,1,1,1,1,1,1,1,0,1,0]) Q imm [hB b (cProg y1 p1 c1 p2 c2)] [(3,vP b 0),(4,vI y2),(5,vS p3 y4 c3),(9,vS p5 y11 c5),(10,vS p7111 y13 c7111),(13,vI i)]:=by
 refine M.laws_FnFlowSources_l1.partial_correctness y1 y2 y4 y11 y13 _ ?_;intro self ih i o hM B imm0 imm Q p1 c1 p2 c2 b p3 c3 p5 c5 p7111 c7111 hle h5 h11 h13111 h3 h4 hg ho hx hr;refine xC hg ho<|zF<|zF<|zB<|yA [] [(74,.bool (decide (i < (y4.length:Int))))]<|zE<|yO hM ?_ ?_
 · intro hc5 hM;refine yE<|zE<|zF<|yC<|zF<|zF ?_;obtain ⟨o02,ho02,hMc2⟩:=zC hM;refine yU (fun imm' hs' m'=>∃ (t89:Bool),o02=t89∧imm.le imm'∧hs'=[hB b (cProg y1 p1 c1 p2 c2)]∧m'=[(3,vP b 0),(4,vI y2),(5,vS p3 y4 c3),(9,vS p5 y11 c5),(10,vS p7111 y13 c7111),(13,vI i),(89,.bool t89)]) ?_ ?_
   · have hle:=iS imm;refine zB<|yK 6 [] [(82,.bool ((y4.length:Int) != (y13.length:Int)))] ?_;cases hc6:((y4.length:Int) != (y13.length:Int)) with
     | true =>
      have hM06:=zW hc6 ho02
      try rw [hc6]
      exact yA [] [(89,.bool true)]<|yT [(3,vP b 0),(4,vI y2),(5,vS p3 y4 c3),(9,vS p5 y11 c5),(10,vS p7111 y13 c7111),(13,vI i),(89,.bool true)]<|yB ⟨_,(zD hM06).symm,hle,rfl,rfl⟩
     | false =>
      have hM07:=zU hc6 ho02
      try rw [hc6]
      refine yK 8 [] [(83,vS p3 y4 c3),(84,vI i)] ?_;obtain ⟨x1,hy8,hM⟩:=zC hM07;refine wJ rfl rfl h5 hy8 ?_;intro ad1 ccs1 hat1 hrep1;obtain rfl:=hrep1;exact xS 0 hat1 [vI x1] (vI x1) rfl<|yA [] [(89,.bool (decide (x1 ≥ y2)))]<|yT [(3,vP b 0),(4,vI y2),(5,vS p3 y4 c3),(9,vS p5 y11 c5),(10,vS p7111 y13 c7111),(13,vI i),(89,.bool (decide (x1 ≥ y2)))]<|yB ⟨_,(zD hM).symm,hle,rfl,rfl⟩
   rintro imm010 hs2 m2 ⟨t89,heq2,le10,rfl,rfl⟩;subst o02;have h5:=h5.mono le10;have h11:=h11.mono le10;have h13111:=h13111.mono le10;have h3:=h3.mono le10;have h4:=h4.mono le10;have hle:=hle.trans le10;refine zE<|yO hMc2 ?_ ?_
   · intro hc7 hM;exact zF<|zB<|yA [] [(2,.bool false)]<|zE<|yJ<|zR<|yF<|zR<|zR<|hr _ _ _ _ (zD hM).symm hle ⟨_,_,(.tmp rfl ResV.nil),zX,⟨_,rfl,rfl,rfl⟩⟩
   intro hc7 hM;refine yE<|zE<|zF<|zB<|yK 2 [] [(90,vS p3 y4 c3),(91,vI i)] ?_;obtain ⟨x2,hy9,hM⟩:=zC hM;refine wJ rfl rfl h5 hy9 ?_;intro ad2 ccs2 hat2 hrep2;obtain rfl:=hrep2;refine xS 0 hat2 [vI x2] (vI x2) rfl<|yA [] [(14,vI x2)]<|zE<|yC<|vQ [(3,vP b 0),(4,vI y2),(5,vS p3 y4 c3),(9,vS p5 y11 c5),(10,vS p7111 y13 c7111),(13,vI i),(14,vI x2)] ?_;obtain ⟨o03,ho03,hMl⟩:=zC hM;refine laws_FnFlowSources_l2_ok y1 y2 y4 y11 y13 i x2 o03 ho03 iR h5 h11 h13111 h3 h4 (fun _ _ _ h=>hg _ _ _ h) (fun _ _ h=>ho _ _ h) ?_ ?_
   · intro imm013  heq3 le13;subst o03;have h5:=h5.mono le13;have h11:=h11.mono le13;have h13111:=h13111.mono le13;have h3:=h3.mono le13;have h4:=h4.mono le13;have hle:=hle.trans le13;exact yD<|zY<|zE<|zB<|yA [] [(13,vI (W (i + 1)))]<|xD<|vQ [(3,vP b 0),(4,vI y2),(5,vS p3 y4 c3),(9,vS p5 y11 c5),(10,vS p7111 y13 c7111),(13,vI (W (i + 1)))]<|ih (W (i + 1)) _ hMl hle h5 h11 h13111 h3 h4 hg ho hx hr
   intro r0 imm9 hs9 m9 heq9 le9 hrs9;subst heq9;exact yF<|yF<|zR<|zR<|hr _ _ _ _ (zD hMl).symm (hle.trans le9) hrs9
 intro hc5 hM;exact xA<|zS<|zS<|wD (zK [] rfl (by decide))<|yT []<|hx _  (zD hM).symm hle
def M.laws_FnFlowSources (code:(List UInt8)):Option (Bool):=do
 if (decide ((code.length:Int) > 1048576)) then
  pure true
 else
  let (y1,y2)←M.spec_DrawFlowSources code
  let (y4,y5)←M.impl_FlowSources y1 y2
  let (y7,y8)←M.spec_FlowSources y1 y2
  let t50←(do
    if (!(y5 == y8)) then
     pure true
    else
     let y9←M.laws_lnInts y4 y7
     if (!y9) then
      pure true
     else
      pure (!y5)
      : Option Bool)
  if t50 then
   let t2←(do
     if (y5 == y8) then
      let y10←M.laws_lnInts y4 y7
      pure (id y10)
     else
      pure false
       : Option Bool)
   pure (id t2)
  else
   let y11←M.impl_ProgramInstances y1
   let x←idx y11 y2
   let (y13,y14,y15)←M.impl_InstanceCells y1 x
   match←M.laws_FnFlowSources_l1 y1 y2 y4 y11 y13 0 with
   | .ret r0=>pure r0
   | .done _ =>
    pure true
theorem laws_FnFlowSources_ok:∀ (code:(List UInt8)) r,M.laws_FnFlowSources code=some r→∀ {imm:Imm}{p c},(S4 imm p code c)→Ret Tryz.prog 6 [vS p code c] imm [] (laws_FnFlowSources_post  r):=by
 intro code r hM imm p c h;unfold M.laws_FnFlowSources at hM;refine yG (fn:=Tryz.f6) (c:=(bodyOf Tryz.f6)) Tryz.func6 rfl rfl ?_;rintro B - -;have hle:=iS imm;refine zF<|zB<|yA [] []<|zE<|zF<|zF<|zB<|yA [] [(20,.bool (decide ((code.length:Int) > 1048576)))]<|zE<|yO hM ?_ ?_
 · intro hc hM;refine zF<|zB<|yA [] [(2,.bool true)]<|zE<|yJ<|zR ?_;obtain rfl:=zD hM;exact yQ ⟨_,_,(.tmp rfl ResV.nil),zX,⟨_,rfl,rfl,rfl⟩⟩
 intro hc hM;refine yE<|zE<|zF<|zB<|yK 1 [] [(22,vS p code c)] ?_;obtain ⟨⟨y1,y2⟩,hy,hM⟩:=zC hM;refine yR (spec_DrawFlowSources_ok code _ hy h) ?_;rintro imm0 hs2 v2 k2 le - ⟨v0,v01,rfl,rfl,⟨cs,rfl,h1⟩,rfl⟩ -;have hle:=hle.trans le;obtain ⟨v02,v03,rfl,h3,h4⟩:=zG6 h1;obtain ⟨p1,c1,rfl⟩:=h3.form;obtain ⟨p2,c2,rfl⟩:=h4.form;refine yK 5 [] [(24,vA (cProg y1 p1 c1 p2 c2)),(25,vI y2)]<|uD zTwo ?_;intro b hb;refine xJ 0 (cProg y1 p1 c1 p2 c2) [hB b (cProg y1 p1 c1 p2 c2)] rfl rfl rfl rfl<|yA [] [(4,vI y2)]<|zE<|zF<|zB<|yK 2 [0] [(27,vA (cProg y1 p1 c1 p2 c2)),(28,vI y2)] ?_;obtain ⟨⟨y4,y5⟩,hy1,hM⟩:=zC hM;refine yR (impl_FlowSources_ok y1 y2 _ hy1 h3 h4) ?_;rintro imm01 hs2 v2 k2 le1 - ⟨v04,v05,rfl,rfl,h5,rfl⟩ -;have h3:=h3.mono le1;have h4:=h4.mono le1;have hle:=hle.trans le1;obtain ⟨p3,c3,rfl⟩:=h5.form;refine yA [] [(5,vS p3 y4 c3),(6,.bool y5)]<|zE<|zF<|zB<|yK 2 [0] [(33,vA (cProg y1 p1 c1 p2 c2)),(34,vI y2)] ?_;obtain ⟨⟨y7,y8⟩,hy2,hM⟩:=zC hM;refine yR (spec_FlowSources_ok y1 y2 _ hy2 h3 h4) ?_;rintro imm02 hs2 v2 k2 le2 - ⟨v06,v07,rfl,rfl,h7,rfl⟩ -;have h5:=h5.mono le2;have h3:=h3.mono le2;have h4:=h4.mono le2;have hle:=hle.trans le2;obtain ⟨p4,c4,rfl⟩:=h7.form;refine yA [] [(7,vS p4 y7 c4),(8,.bool y8)]<|zE<|zF<|zF ?_;obtain ⟨o0,ho0,hMc⟩:=zC hM;refine yU (fun imm' hs' m'=>∃ (t50:Bool),o0=t50∧imm02.le imm'∧hs'=[hB b (cProg y1 p1 c1 p2 c2)]∧m'=[(3,vP b 0),(4,vI y2),(5,vS p3 y4 c3),(6,.bool y5),(7,vS p4 y7 c4),(8,.bool y8),(50,.bool t50)]) ?_ ?_
 · have hle:=iS imm02;refine zB<|yK 4 [] [(41,.bool (!(y5 == y8)))] ?_;cases hc1:(!(y5 == y8)) with
   | true =>
    have hM0:=zW hc1 ho0
    try rw [hc1]
    exact yA [] [(50,.bool true)]<|yT [(3,vP b 0),(4,vI y2),(5,vS p3 y4 c3),(6,.bool y5),(7,vS p4 y7 c4),(8,.bool y8),(50,.bool true)]<|yB ⟨_,(zD hM0).symm,hle,rfl,rfl⟩
   | false =>
    have hM01:=zU hc1 ho0
    try rw [hc1]
    refine yK 6 [] [(42,vS p3 y4 c3),(43,vS p4 y7 c4)] ?_;obtain ⟨y9,hy3,hM⟩:=zC hM01;refine yR (laws_lnInts_ok y4 y7 _ hy3 h5 h7) ?_;rintro imm04 hs2 v2 k2 le3 - ⟨v08,rfl,rfl,rfl⟩ -;have hle:=hle.trans le3;refine yK 10 [] [(47,.bool (!y9))] ?_;cases hc2:(!y9) with
    | true =>
     have hM02:=zW hc2 hM
     try rw [hc2]
     exact yA [] [(50,.bool true)]<|yT [(3,vP b 0),(4,vI y2),(5,vS p3 y4 c3),(6,.bool y5),(7,vS p4 y7 c4),(8,.bool y8),(50,.bool true)]<|yB ⟨_,(zD hM02).symm,hle,rfl,rfl⟩
    | false =>
     have hM03:=zU hc2 hM
     try rw [hc2]
     exact yA [] [(50,.bool (!y5))]<|yT [(3,vP b 0),(4,vI y2),(5,vS p3 y4 c3),(6,.bool y5),(7,vS p4 y7 c4),(8,.bool y8),(50,.bool (!y5))]<|yB ⟨_,(zD hM03).symm,hle,rfl,rfl⟩
 rintro imm03 hs2 m2 ⟨t50,heq,le4,rfl,rfl⟩;subst o0;have h5:=h5.mono le4;have h7:=h7.mono le4;have h3:=h3.mono le4;have h4:=h4.mono le4;have hle:=hle.trans le4;refine zE<|yO hMc ?_ ?_
 · intro hc3 hM;refine zF ?_;obtain ⟨o01,ho01,hMc1⟩:=zC hM;refine yU (fun imm' hs' m'=>∃ (t2:Bool),o01=t2∧imm03.le imm'∧hs'=[]∧m'=[(2,.bool t2)]) ?_ ?_
   · have hle:=iS imm03;refine zB<|yK 4 [] [(54,.bool (y5 == y8))] ?_;cases hc4:(y5 == y8) with
     | true =>
      have hM04:=zW hc4 ho01
      try rw [hc4]
      refine yK 6 [] [(55,vS p3 y4 c3),(56,vS p4 y7 c4)] ?_;obtain ⟨y10,hy4,hM⟩:=zC hM04;refine yR (laws_lnInts_ok y4 y7 _ hy4 h5 h7) ?_;rintro imm06 hs2 v2 k2 le5 - ⟨v09,rfl,rfl,rfl⟩ -;have hle:=hle.trans le5;exact yA [] [(2,.bool y10)]<|wD (zK [] rfl (by decide))<|yT [(2,.bool y10)]<|yB ⟨_,(zD hM).symm,hle,rfl,rfl⟩
     | false =>
      have hM05:=zU hc4 ho01
      try rw [hc4]
      exact yA [] [(2,.bool false)]<|wD (zK [] rfl (by decide))<|yT [(2,.bool false)]<|yB ⟨_,(zD hM05).symm,hle,rfl,rfl⟩
   rintro imm05 hs2 m2 ⟨t2,heq1,le6,rfl,rfl⟩;subst o01;refine zE<|yJ<|zR ?_;obtain rfl:=zD hMc1;exact yQ ⟨_,_,(.tmp rfl ResV.nil),zX,⟨_,rfl,rfl,rfl⟩⟩
 intro hc3 hM;refine yE<|zE<|zF<|zB<|yK 1 [0] [(59,vA (cProg y1 p1 c1 p2 c2))] ?_;obtain ⟨y11,hy5,hM⟩:=zC hM;refine yR (impl_ProgramInstances_ok y1 _ hy5 h3 h4) ?_;rintro imm07 hs2 v2 k2 le7 - ⟨v010,rfl,rfl,h11⟩ -;have h5:=h5.mono le7;have h3:=h3.mono le7;have h4:=h4.mono le7;have hle:=hle.trans le7;obtain ⟨p5,c5,rfl⟩:=h11.form;refine yA [] [(9,vS p5 y11 c5)]<|zE<|zF ?_;obtain ⟨x,hy6,hM⟩:=zC hM;obtain ⟨⟨y13,y14,y15⟩,hy7,hM⟩:=zC hM;refine uA [.p (vA (cProg y1 p1 c1 p2 c2)) [0],.p (vS p5 y11 c5) [],.p (vI y2) [],.x (fun imm' v hx=>∃ ad p6 c6,v=.pointer (some ad)∧hx=[]∧(At imm' ad (cInst x p6 c6))∧(S4 imm' p6 x.Point c6)),.x (fun imm' v hx=>∃ p61 c61,v=vA (cInst x p61 c61)∧hx=[]∧(S4 imm' p61 x.Point c61)),.x (fun imm' v hx=>∃ p7 c7,v=.tuple ⟨[vS p7 y13 c7,vI y14,.bool y15]⟩∧hx=[]∧(S4 imm' p7 y13 c7)),.x (fun imm' v hx=>∃ p71 c71,v=.tuple ⟨[vS p71 y13 c71,vI y14,.bool y15]⟩∧hx=[]∧(S4 imm' p71 y13 c71)),.x (fun imm' v hx=>∃ p711 c711,v=vS p711 y13 c711∧hx=[]∧(S4 imm' p711 y13 c711)),.q (vI y14),.q (.bool y15),.x (fun imm' v hx=>∃ p7111 c7111,v=vS p7111 y13 c7111∧hx=[]∧(S4 imm' p7111 y13 c7111)),.p (vI y14) []] [[],[],[],[(1,false),(2,false)],[(3,false)],[(0,false),(4,false)],[(5,false)],[(6,false)],[(6,false)],[(6,false)],[(7,false)],[(8,false)]] [hB b (cProg y1 p1 c1 p2 c2)] [] [(9,false),(10,false)] (zK [0] rfl (by decide)) ?_ ?_
 · refine Op<|Op<|Op<|Ox ?_<|Ox ?_<|Ox ?_<|Ox ?_<|Ox ?_<|Oq ?_<|Oq ?_<|Ox ?_<|Op<|On
   · intro imm1 hf le1;refine zG ?_;rintro _ _ ⟨rfl,rfl⟩;refine zG ?_;rintro _ _ ⟨rfl,rfl⟩;refine zN<|yH [(63,vS p5 y11 c5),(64,vI y2)] ?_;have hle:=iS imm1;have h11:=h11.mono le1;refine wJ rfl rfl h11 hy6 ?_;intro ad ccs hat hrep;obtain ⟨v011,rfl,h12⟩:=zAm hrep;obtain ⟨p6,c6,rfl⟩:=h12.form;exact zZ (hx:=[]) rfl hle rfl (zM rfl) ⟨_,_,_,rfl,rfl,hat,h12⟩
   · intro imm1 hf le1;refine zG ?_;rintro _ _ ⟨ad,p6,c6,rfl,rfl,hat,h12⟩;refine zN<|yH [(65,.pointer (some ad))] ?_;have hle:=iS imm1;exact xS 0 hat (cInst x p6 c6) (vA (cInst x p6 c6)) rfl<|zZ (hx:=[]) rfl hle rfl (zM rfl) ⟨_,_,rfl,rfl,h12⟩
   · intro imm1 hf le1;refine zG ?_;rintro _ _ ⟨rfl,rfl⟩;refine zG ?_;rintro _ _ ⟨p61,c61,rfl,rfl,h121⟩;refine zN<|yH [(62,vA (cProg y1 p1 c1 p2 c2)),(66,vA (cInst x p61 c61))] ?_;have hle:=iS imm1;have h3:=h3.mono le1;have h4:=h4.mono le1;refine yR (impl_InstanceCells_ok y1 x _ hy7 h3 h4 h121) ?_;rintro imm08 hs2 v2 k2 le8 - ⟨v012,v013,v014,rfl,rfl,h13,rfl,rfl⟩ -;have hle:=hle.trans le8;obtain ⟨p7,c7,rfl⟩:=h13.form;exact zZ (hx:=[]) rfl hle rfl (zM rfl) ⟨_,_,rfl,rfl,h13⟩
   · intro imm1 hf le1;refine zG ?_;rintro _ _ ⟨p7,c7,rfl,rfl,h13⟩;refine zN<|yH [(67,.tuple ⟨[vS p7 y13 c7,vI y14,.bool y15]⟩)] ?_;have hle:=iS imm1;exact qV 7 [(61,.tuple ⟨[vS p7 y13 c7,vI y14,.bool y15]⟩)]<|zZ (hx:=[]) rfl hle rfl (zM rfl) ⟨_,_,rfl,rfl,h13⟩
   · intro imm1 hf le1;refine zG ?_;rintro _ _ ⟨p71,c71,rfl,rfl,h131⟩;refine zN<|yH [(61,.tuple ⟨[vS p71 y13 c71,vI y14,.bool y15]⟩)] ?_;have hle:=iS imm1;exact qV 8 [(68,vS p71 y13 c71)]<|zZ (hx:=[]) rfl hle rfl (zM rfl) ⟨_,_,rfl,rfl,h131⟩
   · intro imm1 hf le1;refine zG ?_;rintro _ _ ⟨p71,c71,rfl,rfl,h131⟩;refine zN<|yH [(61,.tuple ⟨[vS p71 y13 c71,vI y14,.bool y15]⟩)] ?_;have hle:=iS imm1;exact qV 9 [(69,vI y14)]<|zZ (hx:=[]) rfl hle rfl (zM rfl) ⟨rfl,rfl⟩
   · intro imm1 hf le1;refine zG ?_;rintro _ _ ⟨p71,c71,rfl,rfl,h131⟩;refine zN<|yH [(61,.tuple ⟨[vS p71 y13 c71,vI y14,.bool y15]⟩)] ?_;have hle:=iS imm1;exact qV 10 [(70,.bool y15)]<|zZ (hx:=[]) rfl hle rfl (zM rfl) ⟨rfl,rfl⟩
   intro imm1 hf le1;refine zG ?_;rintro _ _ ⟨p711,c711,rfl,rfl,h1311⟩;refine zN<|yH [(68,vS p711 y13 c711)] ?_;have hle:=iS imm1;exact qV 11 [(10,vS p711 y13 c711)]<|zZ (hx:=[]) rfl hle rfl (zM rfl) ⟨_,_,rfl,rfl,h1311⟩
 intro imm09 le9;refine zG ?_;rintro _ _ ⟨rfl,rfl⟩;refine zG ?_;rintro _ _ ⟨p7111,c7111,rfl,rfl,h13111⟩;refine zN<|yH [(3,vP b 0),(4,vI y2),(5,vS p3 y4 c3),(9,vS p5 y11 c5),(10,vS p7111 y13 c7111),(70,.bool y15)] ?_;have h5:=h5.mono le9;have h11:=h11.mono le9;have h3:=h3.mono le9;have h4:=h4.mono le9;refine yA [] []<|zE<|zF<|zF<|zB<|yA [] [(13,vI 0)]<|zE<|yC<|vQ [(3,vP b 0),(4,vI y2),(5,vS p3 y4 c3),(9,vS p5 y11 c5),(10,vS p7111 y13 c7111),(13,vI 0)] ?_;obtain ⟨o04,ho04,hMl1⟩:=zC hM;refine laws_FnFlowSources_l1_ok y1 y2 y4 y11 y13 0 o04 ho04 iR h5 h11 h13111 h3 h4 (fun _ _ _ h=>h) (fun _ _ h=>h) ?_ ?_
 · intro imm014  heq4 le14;subst o04;refine yD<|zE<|zF<|zB<|yA [] [(2,.bool true)]<|zE<|yJ ?_;obtain rfl:=zD hMl1;exact yQ ⟨_,_,(.tmp rfl ResV.nil),zX,⟨_,rfl,rfl,rfl⟩⟩
 intro r0 imm9 hs9 m9 heq9 le9 hrs9;subst heq9;refine yF<|zR ?_;obtain rfl:=zD hMl1;exact yQ hrs9
end Go.LN
namespace Go.LN
theorem implValidP (P:zV) (h:BG P):M.impl_ProgramValid P=some (validP P):=by
  unfold M.impl_ProgramValid validP;rw [implInstances P h];cases progB P <;> rfl
theorem implInstP (P:zV) (h:BG P):M.impl_ProgramInstances P=some (if validP P then progI P else []):=by
  unfold M.impl_ProgramInstances validP;rw [implInstances P h];cases progB P with
  | false=>rfl
  | true=>cases hd:decide ((progI P).length ≤ 120) <;> simp [hd]
end Go.LN
namespace Go.LN
theorem specInstP (P:zV) (h:BG P):M.spec_ProgramInstances P=some (if validP P then progI P else []):=by
  unfold M.spec_ProgramInstances;rw [specValidP P h];cases hv:validP P with
  | false=>rfl
  | true =>
    obtain ⟨_,v2,v3,_⟩:=zCr hv;have hl:=zFz P v2 v3 _ 0 [] (Nat.zero_add _) (by simp);rw [Int.natCast_zero,List.nil_append] at hl;simp only [Bool.not_true,Bool.false_eq_true,if_false,Option.bind_eq_bind,Option.bind_some,rS,hl,Option.pure_def,id,if_true];rfl
end Go.LN
namespace Go.LN
theorem intsV (a b:List Int) (h:a.length ≤ 1048576):M.laws_lnInts a b=some (decide (a=b)):=by
  unfold M.laws_lnInts;by_cases hl:a.length=b.length
  · have hf:=mS (n:=a.length) (f:=M.laws_lnInts_l1 a b) (P:=fun i=>a.getD i 0 == b.getD i 0) (fun i hi=>by
      rw [M.laws_lnInts_l1];have h1:((i:Int) < (a.length:Int)):=by omega
      have hib:i < b.length:=by omega
      have g1:a.getD i 0=a[i]:=by simp [hi]
      have g2:b.getD i 0=b[i]:=by simp [hib]
      simp only [h1,decide_true,if_true,yZ hi,yZ hib,Option.bind_eq_bind,Option.bind_some,Option.pure_def,g1,g2];by_cases e:a[i]=b[i]
      · simp only [e,bne_self_eq_false,Bool.false_eq_true,if_false,beq_self_eq_true,if_true];rw [uY (by omega)]
      · simp [e]) (by rw [M.laws_lnInts_l1]; simp)
    rw [hf];have hlb:((a.length:Int) != (b.length:Int))=false:=by simp [hl]
    simp only [hlb,Bool.false_eq_true,if_false,Option.bind_eq_bind,Option.bind_some];by_cases e:a=b
    · subst e; simp
    · have:((List.range a.length).all fun i=>a.getD i 0 == b.getD i 0)=false:=by
        cases hq:((List.range a.length).all fun i=>a.getD i 0 == b.getD i 0) with
        | false=>rfl
        | true =>
          refine absurd (List.ext_getElem hl fun i h1 h2=>?_) e;have:=List.all_eq_true.1 hq i (List.mem_range.2 h1);simpa [h1,h2] using this
      simp only [this,Bool.false_eq_true,if_false,e,decide_false,Option.pure_def]
  · have hlb:((a.length:Int) != (b.length:Int))=true:=by simp; omega
    have e:a ≠ b:=fun e=>hl (by rw [e]);simp [hlb,e]
end Go.LN
namespace Go.LN
theorem within_idx {i n:Nat} (h:i < n) (hn:n ≤ 1000000):xV (i:Int) 0 (W ((n:Int) - 1))=some true:=by
  rw [pL,sE (by omega) (by omega)];have h1:(0:Int) ≤ (i:Int):=by omega
  have h2:(i:Int) ≤ (n:Int) - 1:=by omega
  simp [h1,h2]
end Go.LN
namespace Go.LN
theorem cellsV {P:zV} (hb:BG P) (hv:validP P=true) {z:zT} (h:InP P z):M.impl_InstanceCells P z=some (rdI P z,wrI P z,true):=by
  have hpl:=hb.2.1;have hB:(gP P z.Part.toNat).Body.length ≤ 100000:=by
    have hp:=h.part;have hi:z.Part.toNat < P.Parts.length:=by omega
    have hg:gP P z.Part.toNat=P.Parts[z.Part.toNat]:=by simp [gP,hi]
    rw [hg]; exact (hb.2.2 _ (List.getElem_mem hi)).2.1
  have e1:xV z.Part 0 (W ((P.Parts.length:Int) - 1))=some true:=by
    have:=h.part;rw [show z.Part=(z.Part.toNat:Int) by omega];exact within_idx (by omega) (by omega)
  have e2:xV z.Stmt 0 (W (((gP P z.Part.toNat).Body.length:Int) - 1))=some true:=by
    have:=h.stmt;rw [show z.Stmt=(z.Stmt.toNat:Int) by omega];exact within_idx (by omega) (by omega)
  unfold M.impl_InstanceCells M.impl_Program_isInstance;simp only [implValidP P hb,hv,e1,e2,h.idxP,h.pin,touchedV hb hv h,Option.bind_eq_bind,Option.bind_some,Option.pure_def,Bool.not_true,Bool.false_eq_true,if_false,if_true,id]
def useI (P:zV) (z:zT):spec_l6Use:=⟨rdI P z,wrI P z⟩
theorem uses_l1 {P:zV} (hb:BG P) (hv:validP P=true):∀ (j i:Nat) (o:List spec_l6Use),i + j=(progI P).length→o.length=i→M.spec_l6Uses_l1 P (progI P) o (i:Int)=some (o ++ ((progI P).drop i).map (useI P)):=by
  have hlen:=(zCr hv).2.2.2;have hR:=zHr hb hv;intro j
  induction j with
  | zero =>
    intro i o hi ho;rw [M.spec_l6Uses_l1];have:¬((i:Int) < ((progI P).length:Int)):=by omega
    simp only [this,decide_false,Bool.false_eq_true,if_false,Option.pure_def,id];rw [List.drop_eq_nil_iff.2 (by omega),List.map_nil,List.append_nil]
  | succ j ih =>
    intro i o hi ho;rw [M.spec_l6Uses_l1];have hlt:i < (progI P).length:=by omega
    have hc:((i:Int) < ((progI P).length:Int)):=by omega
    have hz:=zJJ hb hv (List.getElem_mem hlt);obtain ⟨d,hd⟩:=hz.st;have hcl:=specCells P.Arrays (stI P (progI P)[i]) (progI P)[i].Point hd hz.bs hz.pt hR;rw [if_pos hz.ok] at hcl;simp only [hc,decide_true,if_true,yZ hlt,hz.idxP,hz.idxS,hcl,Option.bind_eq_bind,Option.bind_some,pD (show (o.length + [spec_l6Use.mk ((readsF 5 (stI P (progI P)[i]).Value).map (cellA P.Arrays (progI P)[i].Point)) (cellA P.Arrays (progI P)[i].Point (stI P (progI P)[i]).Write)].length) * 32 ≤ 140737488355328 by simp; omega)];rw [uY (by omega),ih (i + 1) _ (by omega) (by rw [List.length_append]; simp; omega),List.drop_eq_getElem_cons hlt,List.map_cons,List.append_assoc];rfl
theorem specUses (P:zV) (hb:BG P) (hv:validP P=true):M.spec_l6Uses P=some ((progI P).map (useI P)):=by
  unfold M.spec_l6Uses;have hl:=uses_l1 hb hv _ 0 [] (Nat.zero_add _) rfl;rw [Int.natCast_zero,List.drop_zero,List.nil_append] at hl;simp only [specInsts P hv,hl,Option.bind_eq_bind,Option.bind_some,Option.pure_def,id]
end Go.LN
namespace Go.LN
def srcN (ws:List Int) (c:Int):Nat→Int
  | 0=>-1
  | k + 1=>if ws.getD k 0 == c then (k:Int) else srcN ws c k
theorem srcN_spec (ws:List Int) (c:Int):∀ n:Nat,(srcN ws c n=-1∧∀ k,k < n→ws.getD k 0 ≠ c)∨∃ m:Nat,m < n∧srcN ws c n=(m:Int)∧ws.getD m 0=c∧∀ k,m < k→k < n→ws.getD k 0 ≠ c
  | 0=>.inl ⟨rfl,fun k hk=>by omega⟩
  | n + 1=>by
    rw [srcN]
    by_cases h:ws.getD n 0=c
    · refine .inr ⟨n,by omega,?_,h,fun k h1 h2=>by omega⟩
      rw [if_pos (by rw [h]; simp)]
    · rw [if_neg (by simpa using h)]
      rcases srcN_spec ws c n with ⟨h1,h2⟩ | ⟨m,h1,h2,h3,h4⟩
      · refine .inl ⟨h1,fun k hk=>?_⟩
        rcases Nat.lt_or_ge k n with hk' | hk'
        · exact h2 k hk'
        · rw [show k=n by omega]; exact h
      · refine .inr ⟨m,by omega,h2,h3,fun k hk1 hk2=>?_⟩
        rcases Nat.lt_or_ge k n with hk' | hk'
        · exact h4 k hk1 hk'
        · rw [show k=n by omega]; exact h
theorem srcN_rng (ws:List Int) (c:Int) (n:Nat):-1 ≤ srcN ws c n∧srcN ws c n < (n:Int):=by
  rcases srcN_spec ws c n with ⟨h1,_⟩ | ⟨m,h1,h2,_⟩ <;> omega
end Go.LN
namespace Go.LN
def zIns (P:zV) (a:Nat):zT:=(progI P).getD a ⟨0,0,[]⟩
theorem zI_get {P:zV}{a:Nat} (h:a < (progI P).length):zIns P a=(progI P)[a]:=by simp [zIns,h]
theorem zI_in {P:zV}{a:Nat} (h:a < (progI P).length):zIns P a ∈ progI P:=by rw [zI_get h]; exact List.getElem_mem h
theorem reads_at {P:zV}{a:Nat} (h:a < (progI P).length):idx ((progI P).map (rdI P)) (a:Int)=some (rdI P (zIns P a)):=by rw [yZ (by rw [List.length_map]; exact h),zI_get h]; simp
theorem writes_at {P:zV}{a:Nat} (h:a < (progI P).length):idx ((progI P).map (wrI P)) (a:Int)=some (wrI P (zIns P a)):=by rw [yZ (by rw [List.length_map]; exact h),zI_get h]; simp
theorem uses_at {P:zV}{a:Nat} (h:a < (progI P).length):idx ((progI P).map (useI P)) (a:Int)=some (useI P (zIns P a)):=by rw [yZ (by rw [List.length_map]; exact h),zI_get h]; simp
theorem uses_at' {P:zV}{a:Nat} (h:a < (progI P).length):idx ((progI P).map (useI P)) (a:Int)=some ⟨rdI P (zIns P a),wrI P (zIns P a)⟩:=uses_at h
theorem index_ok (r:zO) (P:zV) (hb:BG P) (h0:0 ≤ r.p) (h1:r.p ≤ 800000000):Ok (M.spec_l6Index r P) (fun y=>0 ≤ y.2.p∧y.2.p ≤ r.p + 2):=by
  unfold M.spec_l6Index;rw [specInstP P hb];refine Ok.bind_some (Ok.bind (φ:=fun z:Bool×zO=>0 ≤ z.2.p∧z.2.p ≤ r.p + 1) (Ok.ite_dec (fun _=>Ok.call (mR r _) ⟨h0,by omega⟩ fun y s k1 k2 k3=>Ok.pure ⟨by dsimp only; omega,by dsimp only; omega⟩) fun _=>Ok.pure ⟨h0,by dsimp only; omega⟩) fun z hz=>?_);obtain ⟨b,t⟩:=z;obtain ⟨z1,z2⟩:=hz;dsimp only at z1 z2;exact Ok.ite (fun _=>Ok.call (mR t _) ⟨z1,by omega⟩ fun y s k1 k2 k3=>Ok.pure ⟨by dsimp only; omega,by dsimp only; omega⟩) fun _=>Ok.call (vZ t _) ⟨by decide,z1,by omega,by decide⟩ fun y s _ _ k3=>Ok.pure ⟨by dsimp only; omega,by dsimp only; omega⟩
end Go.LN
namespace Go.LN
def wsP (P:zV):List Int:=(progI P).map (wrI P)
theorem wsP_get {P:zV}{k:Nat} (h:k < (progI P).length):(wsP P).getD k 0=wrI P (zIns P k):=by
  unfold wsP;rw [zI_get h]; simp [h]
theorem src_l2 {P:zV} (c:Int) (hlen:(progI P).length ≤ 120):∀ k:Nat,k ≤ (progI P).length→M.impl_traced_sources_l2 (trcP P) c ((k:Int) - 1)=some (srcN (wsP P) c k)
  | 0,_=>by
    rw [M.impl_traced_sources_l2]
    simp [srcN]
  | k + 1,hk=>by
    rw [M.impl_traced_sources_l2,srcN,wsP_get (by omega)]
    have h1:(((k + 1:Nat):Int) - 1)=(k:Int):=by omega
    have h2:((k:Int) ≥ 0):=by omega
    rw [h1]
    simp only [h2,decide_true,if_true,trcP,writes_at (show k < (progI P).length by omega),Option.bind_eq_bind,Option.bind_some,Option.pure_def,id]
    by_cases e:wrI P (zIns P k)=c
    · simp [e]
    · have e1:(wrI P (zIns P k) != c)=true:=by simpa using e
      have e2:(wrI P (zIns P k) == c)=false:=by simpa using e
      simp only [e1,e2,if_true,Bool.false_eq_true,if_false]
      rw [sE (by omega) (by omega)]
      exact src_l2 c hlen k (by omega)
theorem src_l1 {P:zV} (hlen:(progI P).length ≤ 120) (to:Nat) (ht:to < (progI P).length) (x:List Int) (hx:x.length ≤ 1048576):∀ (j i:Nat) (o:List Int),i + j=x.length→o.length=i→M.impl_traced_sources_l1 (trcP P) (to:Int) x o (i:Int)=some (o ++ (x.drop i).map fun c=>srcN (wsP P) c to):=by
  intro j
  induction j with
  | zero =>
    intro i o hi ho;rw [M.impl_traced_sources_l1];have:¬((i:Int) < (x.length:Int)):=by omega
    simp only [this,decide_false,Bool.false_eq_true,if_false,Option.pure_def,id];rw [List.drop_eq_nil_iff.2 (by omega),List.map_nil,List.append_nil]
  | succ j ih =>
    intro i o hi ho;rw [M.impl_traced_sources_l1];have hlt:i < x.length:=by omega
    have hc:((i:Int) < (x.length:Int)):=by omega
    have h2:=src_l2 (P:=P) x[i] hlen to (by omega);rw [sE (x:=(to:Int) - 1) (by omega) (by omega)];simp only [hc,decide_true,if_true,yZ hlt,h2,Option.bind_eq_bind,Option.bind_some,pD (show (o.length + [srcN (wsP P) x[i] to].length) * 8 ≤ 140737488355328 by simp; omega)];rw [uY (by omega),ih (i + 1) _ (by omega) (by rw [List.length_append]; simp; omega),List.drop_eq_getElem_cons hlt,List.map_cons,List.append_assoc];rfl
theorem srcS_l1 {P:zV} (c:Int) (hlen:(progI P).length ≤ 120):∀ k:Nat,k ≤ (progI P).length→∃ x,M.spec_l6Source_l1 ((progI P).map (useI P)) c ((k:Int) - 1)=some x∧(match x with | .ret r=>r | .done _=>-1)=srcN (wsP P) c k
  | 0,_=>by
    rw [M.spec_l6Source_l1]
    exact ⟨.done (),by simp,rfl⟩
  | k + 1,hk=>by
    rw [M.spec_l6Source_l1,srcN,wsP_get (by omega)]
    have h1:(((k + 1:Nat):Int) - 1)=(k:Int):=by omega
    have h2:((k:Int) ≥ 0):=by omega
    rw [h1]
    simp only [h2,decide_true,if_true,uses_at' (show k < (progI P).length by omega),Option.bind_eq_bind,Option.bind_some,Option.pure_def]
    by_cases e:wrI P (zIns P k)=c
    · exact ⟨.ret (k:Int),by simp [e],by simp [e]⟩
    · have e2:(wrI P (zIns P k) == c)=false:=by simpa using e
      simp only [e2,Bool.false_eq_true,if_false]
      rw [sE (by omega) (by omega)]
      exact srcS_l1 c hlen k (by omega)
theorem srcS {P:zV} (c:Int) (hlen:(progI P).length ≤ 120) (to:Nat) (ht:to < (progI P).length):M.spec_l6Source ((progI P).map (useI P)) (to:Int) c=some (srcN (wsP P) c to):=by
  unfold M.spec_l6Source;rw [sE (x:=(to:Int) - 1) (by omega) (by omega)];obtain ⟨x,hx,hr⟩:=srcS_l1 c hlen to (by omega);rw [hx];cases x with
  | ret r=>rw [← hr]; rfl
  | done u=>rw [← hr]; rfl
theorem fsS_l1 {P:zV} (hlen:(progI P).length ≤ 120) (to:Nat) (ht:to < (progI P).length) (hx:(rdI P (zIns P to)).length ≤ 1048576):∀ (j i:Nat) (o:List Int),i + j=(rdI P (zIns P to)).length→o.length=i→M.spec_FlowSources_l1 (to:Int) ((progI P).map (useI P)) o (i:Int)=some (o ++ ((rdI P (zIns P to)).drop i).map fun c=>srcN (wsP P) c to):=by
  intro j
  induction j with
  | zero =>
    intro i o hi ho;rw [M.spec_FlowSources_l1];have:¬((i:Int) < ((rdI P (zIns P to)).length:Int)):=by omega
    simp only [uses_at' ht,this,decide_false,Bool.false_eq_true,if_false,Option.bind_eq_bind,Option.bind_some,Option.pure_def,id];rw [List.drop_eq_nil_iff.2 (by omega),List.map_nil,List.append_nil]
  | succ j ih =>
    intro i o hi ho;rw [M.spec_FlowSources_l1];have hlt:i < (rdI P (zIns P to)).length:=by omega
    have hc:((i:Int) < ((rdI P (zIns P to)).length:Int)):=by omega
    have hs:=srcS (P:=P) (rdI P (zIns P to))[i] hlen to ht;have hn:=ih (i + 1) (o ++ [srcN (wsP P) (rdI P (zIns P to))[i] to]) (by omega) (by rw [List.length_append]; simp; omega);have hu:=uses_at' (P:=P) ht;simp only [hu,hc,decide_true,if_true,yZ hlt,hs,Option.bind_eq_bind,Option.bind_some,pD (show (o.length + [srcN (wsP P) (rdI P (zIns P to))[i] to].length) * 8 ≤ 140737488355328 by simp; omega)];rw [uY (by omega),hn,List.drop_eq_getElem_cons hlt,List.map_cons,List.append_assoc];rfl
def srcL (P:zV) (to:Nat):List Int:=(rdI P (zIns P to)).map fun c=>srcN (wsP P) c to
def fsF (P:zV) (to:Int):List Int×Bool:=if validP P=true∧0 ≤ to∧to < ((progI P).length:Int) then (srcL P to.toNat,true) else ([],false)
theorem implFs (P:zV) (hb:BG P) (to:Int):M.impl_FlowSources P to=some (fsF P to):=by
  unfold M.impl_FlowSources fsF;rw [implTrace P hb];cases hv:validP P with
  | false=>simp
  | true =>
    have hlen:=(zCr hv).2.2.2;have hi:∀ z ∈ progI P,InP P z:=fun z hz=>zJJ hb hv hz;have hW:W (((trcP P).list.length:Int) - 1)=((progI P).length:Int) - 1:=by show W (((progI P).length:Int) - 1)=_; rw [sE (by omega) (by omega)]
    simp only [if_true,Option.bind_eq_bind,Option.bind_some,Option.pure_def,Bool.not_true,Bool.false_eq_true,if_false,pL,hW,true_and];by_cases h:0 ≤ to∧to < ((progI P).length:Int)
    · rw [if_pos h];obtain ⟨k,rfl⟩:∃ k:Nat,to=(k:Int):=⟨to.toNat,by omega⟩;have hk:k < (progI P).length:=by omega
      have e1:(0:Int) ≤ (k:Int):=by omega
      have e2:(k:Int) ≤ ((progI P).length:Int) - 1:=by omega
      have hrl:=zJ0 (hi _ (zI_in hk));have hl:=src_l1 hlen k hk (rdI P (zIns P k)) (by omega) _ 0 [] (Nat.zero_add _) rfl;rw [Int.natCast_zero,List.drop_zero,List.nil_append] at hl;have hs:M.impl_traced_sources (trcP P) (k:Int)=some (srcL P k):=by
        unfold M.impl_traced_sources;have hr:=reads_at (P:=P) hk;rw [show (trcP P).reads=(progI P).map (rdI P) from rfl,hr];simp only [Option.bind_eq_bind,Option.bind_some,hl,Option.pure_def,id];rfl
      simp only [e1,e2,decide_true,Bool.and_self,Bool.not_true,Bool.false_eq_true,if_false,Option.bind_some,hs,Int.toNat_natCast]
    · rw [if_neg h];have e4:(!(decide (0 ≤ to) && decide (to ≤ ((progI P).length:Int) - 1)))=true:=by simp; omega
      simp only [e4,Option.bind_some,if_true]
theorem specFs (P:zV) (hb:BG P) (to:Int):M.spec_FlowSources P to=some (fsF P to):=by
  unfold M.spec_FlowSources fsF;rw [specValidP P hb];cases hv:validP P with
  | false=>simp
  | true =>
    have hlen:=(zCr hv).2.2.2;have hi:∀ z ∈ progI P,InP P z:=fun z hz=>zJJ hb hv hz;simp only [specUses P hb hv,Option.bind_eq_bind,Option.bind_some,Option.pure_def,Bool.not_true,Bool.false_eq_true,if_false,true_and,List.length_map];by_cases h:0 ≤ to∧to < ((progI P).length:Int)
    · rw [if_pos h];obtain ⟨k,rfl⟩:∃ k:Nat,to=(k:Int):=⟨to.toNat,by omega⟩;have hk:k < (progI P).length:=by omega
      have e1:¬((k:Int) < 0):=by omega
      have e2:¬((k:Int) ≥ ((progI P).length:Int)):=by omega
      have hrl:=zJ0 (hi _ (zI_in hk));have hl:=fsS_l1 hlen k hk (by omega) _ 0 [] (Nat.zero_add _) rfl;rw [Int.natCast_zero,List.drop_zero,List.nil_append] at hl;simp only [e1,e2,decide_false,Bool.false_eq_true,if_false,Option.bind_some,hl,Int.toNat_natCast];rfl
    · rw [if_neg h];by_cases h1:to < 0
      · simp [h1]
      · have h2:to ≥ ((progI P).length:Int):=by omega
        simp [h1,h2]
theorem drawFs (code:List UInt8):Ok (M.spec_DrawFlowSources code) (fun y=>BG y.1):=by
  unfold M.spec_DrawFlowSources;refine Ok.call (zIf code) trivial fun s hs=>Ok.call (zJE s) ⟨by omega,by omega⟩ fun a t g1 g2 g3=>?_;refine Ok.bind (mut4 t a g1.dp (by omega) (by omega)) fun p hp=>?_;obtain ⟨P,r⟩:=p;obtain ⟨⟨hp1,_⟩,hp2,hp3⟩:=hp;dsimp only at hp2 hp3;refine Ok.bind (index_ok r P hp1 hp2 (by omega)) fun q hq=>?_;obtain ⟨k,r2⟩:=q;exact Ok.pure hp1
theorem srcL_at {P:zV}{to:Nat}{i:Nat} (hi:i < (srcL P to).length):∃ hj:i < (rdI P (zIns P to)).length,(srcL P to)[i]=srcN (wsP P) (rdI P (zIns P to))[i] to:=by
  unfold srcL at hi ⊢;rw [List.length_map] at hi;exact ⟨hi,by simp⟩
theorem flowsrc_l2 {P:zV} (hb:BG P) (hv:validP P=true) (to:Nat) (ht:to < (progI P).length) (i:Nat) (hi:i < (srcL P to).length):∀ (j k:Nat),k + j=to→srcN (wsP P) ((rdI P (zIns P to)).getD i 0) to ≤ (k:Int)→M.laws_FnFlowSources_l2 P (to:Int) (srcL P to) (progI P) (rdI P (zIns P to)) (i:Int) (k:Int)=some (.done ()):=by
  have hlen:=(zCr hv).2.2.2;have hin:∀ z ∈ progI P,InP P z:=fun z hz=>zJJ hb hv hz;obtain ⟨hj,he⟩:=srcL_at hi;have hg:(rdI P (zIns P to)).getD i 0=(rdI P (zIns P to))[i]:=by simp [hj]
  rw [hg];intro j
  induction j with
  | zero =>
    intro k hk hs;rw [M.laws_FnFlowSources_l2];have:¬((k:Int) < (to:Int)):=by omega
    simp only [this,decide_false,Bool.false_eq_true,if_false,Option.pure_def]
  | succ j ih =>
    intro k hk hs;rw [M.laws_FnFlowSources_l2];have hc:((k:Int) < (to:Int)):=by omega
    have h0:¬((k:Int) < 0):=by omega
    have hkn:k < (progI P).length:=by omega
    have g1:idx (progI P) (k:Int)=some (zIns P k):=by rw [yZ hkn,zI_get hkn]
    have heq:(!((wrI P (zIns P k) == (rdI P (zIns P to))[i]) == ((k:Int) == srcN (wsP P) (rdI P (zIns P to))[i] to)))=false:=by
      rcases srcN_spec (wsP P) (rdI P (zIns P to))[i] to with ⟨h1,h2⟩ | ⟨m,h1,h2,h3,h4⟩
      · have:=h2 k (by omega);rw [wsP_get hkn] at this;have e1:(wrI P (zIns P k) == (rdI P (zIns P to))[i])=false:=by simpa using this
        have e2:((k:Int) == srcN (wsP P) (rdI P (zIns P to))[i] to)=false:=by rw [h1,beq_eq_false_iff_ne]; omega
        rw [e1,e2]; rfl
      · by_cases hkm:k=m
        · subst hkm;rw [wsP_get hkn] at h3;rw [h2,h3]; simp
        · have:=h4 k (by omega) (by omega);rw [wsP_get hkn] at this;have e1:(wrI P (zIns P k) == (rdI P (zIns P to))[i])=false:=by simpa using this
          have e2:((k:Int) == srcN (wsP P) (rdI P (zIns P to))[i] to)=false:=by rw [h2,beq_eq_false_iff_ne]; omega
          rw [e1,e2]; rfl
    simp only [hc,h0,decide_true,decide_false,if_true,Bool.false_eq_true,if_false,g1,cellsV hb hv (hin _ (zI_in hkn)),yZ hj,yZ hi,he,heq,Option.bind_eq_bind,Option.bind_some,Option.pure_def];rw [uY (by omega)];exact ih (k + 1) (by omega) (by omega)
theorem flowsrc_l1 {P:zV} (hb:BG P) (hv:validP P=true) (to:Nat) (ht:to < (progI P).length) (hl:(srcL P to).length ≤ 1048576):∀ (j i:Nat),i + j=(srcL P to).length→M.laws_FnFlowSources_l1 P (to:Int) (srcL P to) (progI P) (rdI P (zIns P to)) (i:Int)=some (.done ()):=by
  have hlen:=(zCr hv).2.2.2;intro j
  induction j with
  | zero =>
    intro i hi;rw [M.laws_FnFlowSources_l1];have:¬((i:Int) < ((srcL P to).length:Int)):=by omega
    simp only [this,decide_false,Bool.false_eq_true,if_false,Option.pure_def]
  | succ j ih =>
    intro i hi;rw [M.laws_FnFlowSources_l1];have hlt:i < (srcL P to).length:=by omega
    have hc:((i:Int) < ((srcL P to).length:Int)):=by omega
    have hll:(srcL P to).length=(rdI P (zIns P to)).length:=by unfold srcL; rw [List.length_map]
    have hlb:(((srcL P to).length:Int) != ((rdI P (zIns P to)).length:Int))=false:=by rw [hll,bne_self_eq_false]
    obtain ⟨hj,he⟩:=srcL_at hlt;have hg:(rdI P (zIns P to)).getD i 0=(rdI P (zIns P to))[i]:=by simp [hj]
    have hrg:=srcN_rng (wsP P) (rdI P (zIns P to))[i] to;have hge:¬(srcN (wsP P) (rdI P (zIns P to))[i] to ≥ (to:Int)):=by omega
    have h2:M.laws_FnFlowSources_l2 P (to:Int) (srcL P to) (progI P) (rdI P (zIns P to)) (i:Int) (srcN (wsP P) (rdI P (zIns P to))[i] to)=some (.done ()):=by
      by_cases hm:srcN (wsP P) (rdI P (zIns P to))[i] to=-1
      · rw [hm,M.laws_FnFlowSources_l2];have hc1:((-1:Int) < (to:Int)):=by omega
        have hc2:((-1:Int) < 0):=by omega
        simp only [hc1,hc2,decide_true,if_true];rw [show W ((-1:Int) + 1)=((0:Nat):Int) from rfl];exact flowsrc_l2 hb hv to ht i hlt to 0 (by omega) (by rw [hg,hm]; omega)
      · obtain ⟨m,hm'⟩:∃ m:Nat,srcN (wsP P) (rdI P (zIns P to))[i] to=(m:Int):=⟨(srcN (wsP P) (rdI P (zIns P to))[i] to).toNat,by omega⟩;rw [hm'];exact flowsrc_l2 hb hv to ht i hlt (to - m) m (by omega) (by rw [hg,hm']; omega)
    simp only [hc,decide_true,if_true,hlb,Bool.false_eq_true,if_false,yZ hlt,he,hge,decide_false,h2,Option.bind_eq_bind,Option.bind_some,Option.pure_def];rw [uY (by omega)];exact ih (i + 1) (by omega)
theorem law_FlowSources (code:List UInt8):∃ r,M.laws_FnFlowSources code=some r∧r=true:=by
  obtain ⟨⟨P,to⟩,hy,hb⟩:=drawFs code;dsimp only at hb;unfold M.laws_FnFlowSources;refine ⟨true,?_,rfl⟩;by_cases h1:(code.length:Int) > 1048576
  · simp [h1]
  · simp only [h1,decide_false,Bool.false_eq_true,if_false,hy,implFs P hb,specFs P hb,Option.pure_def,Option.bind_eq_bind,Option.bind_some,beq_self_eq_true,Bool.not_true];unfold fsF;by_cases h:validP P=true∧0 ≤ to∧to < ((progI P).length:Int)
    · rw [if_pos h];obtain ⟨hv,h2,h3⟩:=h;obtain ⟨k,rfl⟩:∃ k:Nat,to=(k:Int):=⟨to.toNat,by omega⟩;have hk:k < (progI P).length:=by omega
      have hz:=zJJ hb hv (zI_in hk);have hrl:=zJ0 hz;have hsl:(srcL P k).length ≤ 32:=by unfold srcL; rw [List.length_map]; omega
      have hr:=intsV (srcL P k) (srcL P k) (by omega);have hl:=flowsrc_l1 hb hv k hk (by omega) _ 0 (Nat.zero_add _);rw [Int.natCast_zero] at hl;have g1:idx (progI P) (k:Int)=some (zIns P k):=by rw [yZ hk,zI_get hk]
      simp only [Int.toNat_natCast,hr,hl,decide_true,Option.bind_some,Bool.not_true,Bool.false_eq_true,if_false,implInstP P hb,hv,if_true,g1,cellsV hb hv hz]
    · rw [if_neg h];have hr:=intsV [] [] (by simp);simp [hr]
end Go.LN
