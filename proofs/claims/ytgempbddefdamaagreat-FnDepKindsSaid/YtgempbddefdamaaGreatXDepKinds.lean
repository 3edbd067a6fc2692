/- Helper of the proof (see the last text). -/
import Derived.Test.YtgempbddefdamaaGreatLnA
import Derived.Test.YtgempbddefdamaaGreatLnI
import Derived.Test.YtgempbddefdamaaGreatLnP
import Derived.Test.YtgempbddefdamaaGreatTryzShelf
import Derived.Test.YtgempbddefdamaaGreatHM1
import Derived.Test.YtgempbddefdamaaGreatHM2
import Derived.Test.YtgempbddefdamaaGreatHM3
import Derived.Test.YtgempbddefdamaaGreatHM4
import Derived.Test.YtgempbddefdamaaGreatHM5
import Derived.Test.YtgempbddefdamaaGreatHM6
import Derived.Test.YtgempbddefdamaaGreatHM7
import Derived.Test.YtgempbddefdamaaGreatHM8
import Derived.Test.YtgempbddefdamaaGreatQT
import Derived.Test.YtgempbddefdamaaGreatQZ
import Derived.Test.YtgempbddefdamaaGreatVB1
import Derived.Test.YtgempbddefdamaaGreatVB8
import Derived.Test.YtgempbddefdamaaGreatLnR
set_option linter.unusedVariables false
set_option linter.unusedSimpArgs false
namespace Go.LN
structure spec_l6Use where
  reads:List Int
  write:Int
instance:Rp spec_l6Use where
  sz:=2
  pos:=by decide
  rep i cs s:=∃ v0:Value,cs=[v0,.int .i64 s.write]∧SL i v0 s.reads
  len h:=by obtain ⟨v0,rfl,h0⟩:=h; rfl
  mono hm h:=by obtain ⟨v0,e,h0⟩:=h; exact ⟨v0,e,h0.mono hm⟩
  one h:=by obtain ⟨v0,rfl,h0⟩:=h; simp [zAQ,h0.one]
theorem spec_l6Use_open {i:Imm}{cs:List Value}{s:spec_l6Use} (h:Rp.rep i cs s):∃ v0:Value,cs=[v0,.int .i64 s.write]∧SL i v0 s.reads:=h
theorem spec_l6Use_shut {i:Imm}{cs:List Value}{s:spec_l6Use} (h:∃ v0:Value,cs=[v0,.int .i64 s.write]∧SL i v0 s.reads):Rp.rep i cs s:=h
instance:Vr spec_l6Use:=⟨fun i v a=>∃ cs,v=.agg ⟨cs⟩∧Rp.rep i cs a,fun hl ⟨cs,e,h⟩=>⟨cs,e,Rp.mono hl h⟩⟩
end Go.LN
namespace Go.LN
open Go.Proofs
set_option maxRecDepth 20000
def laws_lnHas_post (r:Bool):KT:=fun kk imm' hs' v=>
  ∃ v0,hs'=[]∧v=tupV [v0]∧v0=.bool r
def M.laws_lnHas_l1 (list:(List Int)) (n0:Int) (i:Int):Option (Out Unit (Bool)):=do
 if (decide (i < (list.length:Int))) then
  let x←idx list i
  if (x == n0) then
   pure (.ret true)
  else
   M.laws_lnHas_l1 list n0 (W (i + 1))
 else
  pure (.done ())
 partial_fixpoint
theorem laws_lnHas_l1_ok (list:(List Int)) (n0:Int):∀ (i:Int) (o:Out Unit (Bool)),M.laws_lnHas_l1 list n0 i=some o→∀ {B}{imm0 imm:Imm}{Q p c},imm0.le imm→(S4 imm p list c)→(∀ gl a w,¬Q (.goto gl) a w)→(∀ a w,¬Q .outgrown a w)→(∀ (imm':Imm) ,o=(.done ())→imm0.le imm'→T 18 B Q (.exit 0) imm' [] [])→(∀ r imm' hs' m',o=(.ret r)→imm0.le imm'→RS Tryz.prog Tryz.f15 B (laws_lnHas_post  r) imm' hs' m'→T 18 B Q .ret imm' hs' m')→J Tryz.prog 18 B (nav (bodyOf Tryz.f15) [1,0,1,0]) Q imm [] [(0,vS p list c),(1,vI n0),(5,vI i)]:=by
 refine M.laws_lnHas_l1.partial_correctness list n0 _ ?_;intro self ih i o hM B imm0 imm Q p c hle h hg ho hx hr;refine xC hg ho<|zF<|zF<|zB<|yA [] [(9,.bool (decide (i < (list.length:Int))))]<|zE<|yO hM ?_ ?_
 · intro hc hM;refine yE<|zE<|zF<|yC<|zF<|zB<|yK 2 [] [(12,vS p list c),(13,vI i)] ?_;obtain ⟨x,hy,hM⟩:=zC hM;refine wJ rfl rfl h hy ?_;intro ad ccs hat hrep;obtain rfl:=hrep;refine xS 0 hat [vI x] (vI x) rfl<|yA [] [(17,.bool (x == n0))]<|zE<|yO hM ?_ ?_
   · intro hc1 hM;exact zF<|zB<|yA [] [(4,.bool true)]<|zE<|yJ<|yF<|zR<|zR<|hr _ _ _ _ (zD hM).symm hle ⟨_,_,(.tmp rfl ResV.nil),zX,⟨_,rfl,rfl,rfl⟩⟩
   intro hc1 hM;exact yE<|zY<|zE<|zB<|yA [] [(5,vI (W (i + 1)))]<|xD<|vQ [(0,vS p list c),(1,vI n0),(5,vI (W (i + 1)))]<|ih (W (i + 1)) _ hM hle h hg ho hx hr
 intro hc hM;exact xA<|zS<|zS<|yT []<|hx _  (zD hM).symm hle
def M.laws_lnHas (list:(List Int)) (n0:Int):Option (Bool):=do
 match←M.laws_lnHas_l1 list n0 0 with
 | .ret r0=>pure r0
 | .done _ =>
  pure false
theorem laws_lnHas_ok:∀ (list:(List Int)) (n0:Int) r,M.laws_lnHas list n0=some r→∀ {imm:Imm}{p c},(S4 imm p list c)→Ret Tryz.prog 15 [vS p list c,vI n0] imm [] (laws_lnHas_post  r):=by
 intro list n0 r hM imm p c h;unfold M.laws_lnHas at hM;refine yG (fn:=Tryz.f15) (c:=(bodyOf Tryz.f15)) Tryz.func15 rfl rfl ?_;rintro B - -;refine zF<|zB<|yA [] []<|zE<|zF<|zF<|zB<|yA [] [(5,vI 0)]<|zE<|yC<|vQ [(0,vS p list c),(1,vI n0),(5,vI 0)] ?_;obtain ⟨o0,ho0,hMl⟩:=zC hM;refine laws_lnHas_l1_ok list n0 0 o0 ho0 iR h (fun _ _ _ h=>h) (fun _ _ h=>h) ?_ ?_
 · intro imm0  heq le;subst o0;refine yD<|zE<|zF<|zB<|yA [] [(4,.bool false)]<|zE<|yJ ?_;obtain rfl:=zD hMl;exact yQ ⟨_,_,(.tmp rfl ResV.nil),zX,⟨_,rfl,rfl,rfl⟩⟩
 intro r0 imm9 hs9 m9 heq9 le9 hrs9;subst heq9;refine yF<|zR ?_;obtain rfl:=zD hMl;exact yQ hrs9
def spec_ProgramInstances_post (r:(List zT)):KT:=fun kk imm' hs' v=>
  ∃ v0,hs'=[]∧v=tupV [v0]∧SL imm' v0 r
def M.spec_ProgramInstances (p:zV):Option ((List zT)):=do
 let y←tK p
 if (!y) then
  pure ([]:List zT)
 else
  let y1←rS p
  pure (id y1)
theorem spec_ProgramInstances_ok:∀ (p:zV) r,M.spec_ProgramInstances p=some r→∀ {imm:Imm}{p1 c p2 c1},(S4 imm p1 p.Arrays c)→(S4 imm p2 p.Parts c1)→Ret Tryz.prog 89 [vA (cProg p p1 c p2 c1)] imm [] (spec_ProgramInstances_post  r):=by
 intro p r hM imm p1 c p2 c1 h h1;unfold M.spec_ProgramInstances at hM;refine yG (fn:=Tryz.f89) (c:=(bodyOf Tryz.f89)) Tryz.func89 rfl rfl ?_;rintro B - -;refine zF<|zB<|tR (cProg p p1 c p2 c1) ?_;intro b hb;refine yA [] []<|zE<|zF<|zF<|zB<|yK 1 [0] [(3,vA (cProg p p1 c p2 c1))] ?_;obtain ⟨y,hy,hM⟩:=zC hM;refine yR (dT p _ hy h h1) ?_;rintro imm0 hs2 v2 k2 le - ⟨v0,rfl,rfl,rfl⟩ -;have h:=h.mono le;have h1:=h1.mono le;refine yA [] [(5,.bool (!y))]<|zE<|yO hM ?_ ?_
 · intro hc hM;refine zF<|zB<|xQ [] zT ?_;intro b1 hb1;have h3:RL imm0 [] ([]:List zT):=rfl;refine yA [] [(2,vS (some ⟨b1,0,none⟩) ([]:List zT) 0)]<|zE<|yJ<|zR<|xI 0 rfl ?_;intro imm01 le1 hl0;have h4:=SL.of_frozen hl0 le1 h3;obtain rfl:=zD hM;exact yQ ⟨_,_,(.tmp rfl ResV.nil),zX,⟨_,rfl,rfl,h4⟩⟩
 intro hc hM;refine yE<|zE<|zF<|zB<|yK 1 [0] [(7,vA (cProg p p1 c p2 c1))] ?_;obtain ⟨y1,hy1,hM⟩:=zC hM;refine yR (zGB p _ hy1 h h1) ?_;rintro imm02 hs2 v2 k2 le2 - ⟨v01,rfl,rfl,h5⟩ -;obtain ⟨p3,c2,rfl⟩:=h5.form;refine yA [] [(2,vS p3 y1 c2)]<|zE<|yJ ?_;obtain rfl:=zD hM;exact yQ ⟨_,_,(.tmp rfl ResV.nil),zX,⟨_,rfl,rfl,h5⟩⟩
def spec_l6Index_post (b0:Nat) (r:Int×zO):KT:=fun kk imm' hs' v=>
  ∃ v0 k0,hs'=[.blk b0 ⟨k0⟩]∧v=tupV [v0]∧v0=.int .i64 r.1∧Rp.rep imm' k0 r.2
def M.spec_l6Index (r0:zO) (p1:zV):Option (Int×zO):=do
 let y←M.spec_ProgramInstances p1
 let (t15,x)←(do
   if (decide ((y.length:Int) > 0)) then
    let (y2,y3)←yW r0 8
    pure ((decide (y2 > 0)),y3)
   else
    pure (false,r0)
     : Option (Bool×zO))
 if t15 then
  let (y5,y6)←yW x (y.length:Int)
  pure (y5,y6)
 else
  let (y8,y9)←yV x ([(-1),0,200,9223372036854775807]:List Int)
  pure (y8,y9)
theorem spec_l6Index_ok:∀ (r0:zO) (p1:zV) r,M.spec_l6Index r0 p1=some r→∀ {imm:Imm}{r01:Nat}{p c p2 c1 p3 c2},(S4 imm p r0.b c)→(S4 imm p2 p1.Arrays c1)→(S4 imm p3 p1.Parts c2)→Ret Tryz.prog 51 [vP r01 0,vA (cProg p1 p2 c1 p3 c2)] imm [hB r01 (cRd r0 p c)] (spec_l6Index_post r01 r):=by
 intro r0 p1 r hM imm r01 p c p2 c1 p3 c2 h h1 h2;unfold M.spec_l6Index at hM;refine yG (fn:=Tryz.f51) (c:=(bodyOf Tryz.f51)) Tryz.func51 rfl rfl ?_;rintro B - -;have hle:=iS imm;refine zF<|zB<|tR (cProg p1 p2 c1 p3 c2) ?_;intro b hb;refine yA [] []<|zE<|zF<|zB<|yK 1 [0] [(6,vA (cProg p1 p2 c1 p3 c2))] ?_;obtain ⟨y,hy,hM⟩:=zC hM;refine yR (spec_ProgramInstances_ok p1 _ hy h1 h2) ?_;rintro imm0 hs2 v2 k2 le - ⟨v0,rfl,rfl,h3⟩ -;have h:=h.mono le;have hle:=hle.trans le;obtain ⟨p4,c3,rfl⟩:=h3.form;refine yA [] [(5,vI (y.length:Int))]<|zE<|zF<|zF ?_;obtain ⟨o0,ho0,hMc⟩:=zC hM;refine yU (fun imm' hs' m'=>∃ (t15:Bool) (x:zO) (p5:Option Addr) (c4:Nat),o0=(t15,x)∧imm0.le imm'∧(S4 imm' p5 x.b c4)∧hs'=[hB r01 (cRd x p5 c4)]∧m'=[(0,vP r01 0),(5,vI (y.length:Int)),(15,.bool t15)]) ?_ ?_
 · have hle:=iS imm0;refine zB<|yK 3 [] [(11,.bool (decide ((y.length:Int) > 0)))] ?_;cases hc:(decide ((y.length:Int) > 0)) with
   | true =>
    have hM0:=zW hc ho0
    try rw [hc]
    refine yK 4 [] [(12,vP r01 0)]<|rX (zK [1,0] (hs':=[hB r01 (cRd r0 p c),hB b (cProg p1 p2 c1 p3 c2)]) rfl (by decide)) ?_;obtain ⟨⟨y2,y3⟩,hy1,hM⟩:=zC hM0;refine sD [hB r01 (cRd r0 p c)] [hB b (cProg p1 p2 c1 p3 c2)] (xL r0 8 _ hy1 h) ?_;rintro imm02 hs2 v2 k2 le1 - ⟨v01,kk,rfl,rfl,rfl,h6⟩ -;have hle:=hle.trans le1;obtain ⟨v02,rfl,h7⟩:=yI h6;obtain ⟨p6,c5,rfl⟩:=h7.form;exact yA [] [(15,.bool (decide (y2 > 0)))]<|wD (zK [0] rfl (by decide))<|yT [(0,vP r01 0),(5,vI (y.length:Int)),(15,.bool (decide (y2 > 0)))]<|yB ⟨_,_,_,_,(zD hM).symm,hle,h7,rfl,rfl⟩
   | false =>
    have hM01:=zU hc ho0
    try rw [hc]
    exact yA [] [(15,.bool false)]<|wD (zK [1] rfl (by decide))<|yT [(0,vP r01 0),(5,vI (y.length:Int)),(15,.bool false)]<|yB ⟨_,_,_,_,(zD hM01).symm,hle,h,rfl,rfl⟩
 rintro imm01 hs2 m2 ⟨t15,x,p5,c4,heq,le2,h4,rfl,rfl⟩;subst o0;refine zE<|yO hMc ?_ ?_
 · intro hc1 hM;refine zF<|zB<|yK 2 [] [(16,vP r01 0),(17,vI (y.length:Int))] ?_;obtain ⟨⟨y5,y6⟩,hy2,hM⟩:=zC hM;refine sD [hB r01 (cRd x p5 c4)] [] (xL x (y.length:Int) _ hy2 h4) ?_;rintro imm03 hs2 v2 k2 le3 - ⟨v03,kk1,rfl,rfl,rfl,h9⟩ -;obtain ⟨v04,rfl,h10⟩:=yI h9;obtain ⟨p7,c6,rfl⟩:=h10.form;refine yA [] [(4,vI y5)]<|zE<|yJ<|zR ?_;obtain rfl:=zD hM;exact yQ ⟨_,_,(.tmp rfl ResV.nil),(zK [0] rfl (by decide)),⟨_,_,rfl,rfl,rfl,(yS ⟨_,rfl,h10⟩)⟩⟩
 intro hc1 hM;refine yE<|zE<|zF<|zB<|yK 1 [] [(19,vP r01 0)]<|xQ [vI (-1),vI 0,vI 200,vI 9223372036854775807] Int ?_;intro b1 hb1;have h11:RL imm01 [vI (-1),vI 0,vI 200,vI 9223372036854775807] ([(-1),0,200,9223372036854775807]:List Int):=⟨[vI (-1)],_,rfl,rfl,rfl,⟨[vI 0],_,rfl,rfl,rfl,⟨[vI 200],_,rfl,rfl,rfl,⟨[vI 9223372036854775807],_,rfl,rfl,rfl,rfl⟩⟩⟩⟩;refine yL 0 rfl ?_;intro imm04 le4 hl0;have h12:=SL.of_frozen hl0 le4 h11;have h4:=h4.mono le4;obtain ⟨⟨y8,y9⟩,hy3,hM⟩:=zC hM;refine sD [hB r01 (cRd x p5 c4)] [] (xF x ([(-1),0,200,9223372036854775807]:List Int) _ hy3 h4 h12) ?_;rintro imm05 hs2 v2 k2 le5 - ⟨v05,kk2,rfl,rfl,rfl,h14⟩ -;obtain ⟨v06,rfl,h15⟩:=yI h14;obtain ⟨p8,c7,rfl⟩:=h15.form;refine yA [] [(4,vI y8)]<|zE<|yJ ?_;obtain rfl:=zD hM;exact yQ ⟨_,_,(.tmp rfl ResV.nil),(zK [0] rfl (by decide)),⟨_,_,rfl,rfl,rfl,(yS ⟨_,rfl,h15⟩)⟩⟩
def spec_l6Uses_post (r:(List spec_l6Use)):KT:=fun kk imm' hs' v=>
  ∃ v0,hs'=[]∧v=tupV [v0]∧SL imm' v0 r
def M.spec_l6Uses_l1 (p:zV) (y:(List zT)) (out:List spec_l6Use) (i:Int):Option (List spec_l6Use):=do
 if (decide (i < (y.length:Int))) then
  let x←idx y i
  let x1←idx p.Parts x.Part
  let x2←idx y i
  let x3←idx x1.Body x2.Stmt
  let x4←idx y i
  let (y2,y3,y4)←qZ p.Arrays x3 x4.Point
  let out2←app 32 out ([(spec_l6Use.mk y2 y3)]:List spec_l6Use)
  M.spec_l6Uses_l1 p y out2 (W (i + 1))
 else
  pure (id out)
 partial_fixpoint
theorem spec_l6Uses_l1_ok (p:zV) (y:(List zT)):∀ (out:List spec_l6Use) (i:Int) (o:List spec_l6Use),M.spec_l6Uses_l1 p y out i=some o→∀ {B}{imm0 imm:Imm}{Q p1 c p2 c1}{b:Nat}{p3 c2 p4 c3 cs},imm0.le imm→(S4 imm p3 y c2)→(S4 imm p1 p.Arrays c)→(S4 imm p2 p.Parts c1)→(RL imm cs out)→(∀ gl a w,¬Q (.goto gl) a w)→(∀ a w,¬Q .outgrown a w)→(∀ (imm':Imm) (out1:List spec_l6Use) (p5:Option Addr) (c4:Nat) (cs1:List Value),o=out1→imm0.le imm'→(RL imm' cs1 out1)→T 54 B Q (.exit 0) imm' [hO spec_l6Use (vS p5 out1 c4) cs1] [(3,vS p5 out1 c4)])→J Tryz.prog 54 B (nav (bodyOf Tryz.f54) [1,1,1,0,1,0]) Q imm [hO spec_l6Use (vS p4 out c3) cs,hB b (cProg p p1 c p2 c1)] [(1,vP b 0),(3,vS p4 out c3),(4,vS p3 y c2),(5,vI i)]:=by
 refine M.spec_l6Uses_l1.partial_correctness p y _ ?_;intro self ih out i o hM B imm0 imm Q p1 c p2 c1 b p3 c2 p4 c3 cs hle h3 h h1 h4 hg ho hx;refine xC hg ho<|zF<|zF<|zB<|yA [] [(15,.bool (decide (i < (y.length:Int))))]<|zE<|yO hM ?_ ?_
 · intro hc hM;refine yE<|zE<|zF<|yC<|zF ?_;obtain ⟨x,hy1,hM⟩:=zC hM;obtain ⟨x1,hy2,hM⟩:=zC hM;obtain ⟨x2,hy3,hM⟩:=zC hM;obtain ⟨x3,hy4,hM⟩:=zC hM;obtain ⟨x4,hy5,hM⟩:=zC hM;obtain ⟨⟨y2,y3,y4⟩,hy6,hM⟩:=zC hM;refine uA [.p (vP b 0) [],.p (vS p1 p.Arrays c) [1],.p (vP b 1) [],.p (vS p2 p.Parts c1) [1],.p (vS p3 y c2) [],.p (vI i) [],.x (fun imm' v hx=>∃ ad p6 c5,v=.pointer (some ad)∧hx=[]∧(At imm' ad (cInst x p6 c5))∧(S4 imm' p6 x.Point c5)),.x (fun imm' v hx=>∃ ad1 p61 c51,v=.pointer (some ad1)∧hx=[]∧(At imm' ad1 (cInst x p61 c51))∧(S4 imm' p61 x.Point c51)),.q (vI x.Part),.x (fun imm' v hx=>∃ ad2 p7 c6 p8 c7,v=.pointer (some ad2)∧hx=[]∧(At imm' ad2 (cPart x1 p7 c6 p8 c7))∧(S4 imm' p7 x1.Nest c6)∧(S4 imm' p8 x1.Body c7)),.x (fun imm' v hx=>∃ ad21 p71 c61 p81 c71,v=.pointer (some (ad21.add 1))∧hx=[]∧(At imm' ad21 (cPart x1 p71 c61 p81 c71))∧(S4 imm' p71 x1.Nest c61)∧(S4 imm' p81 x1.Body c71)),.x (fun imm' v hx=>∃ p811 c711,v=vS p811 x1.Body c711∧hx=[]∧(S4 imm' p811 x1.Body c711)),.p (vS p3 y c2) [],.p (vI i) [],.x (fun imm' v hx=>∃ ad3 p9 c8,v=.pointer (some ad3)∧hx=[]∧(At imm' ad3 (cInst x2 p9 c8))∧(S4 imm' p9 x2.Point c8)),.x (fun imm' v hx=>∃ ad31 p91 c81,v=.pointer (some (ad31.add 1))∧hx=[]∧(At imm' ad31 (cInst x2 p91 c81))∧(S4 imm' p91 x2.Point c81)),.q (vI x2.Stmt),.x (fun imm' v hx=>∃ ad4 p10 c9 p11 c10 p12 c11 p13 c12,v=.pointer (some ad4)∧hx=[]∧(At imm' ad4 (cStmt x3 p10 c9 p11 c10 p12 c11 p13 c12))∧(S4 imm' p10 x3.Write.Subs c9)∧(S4 imm' p11 x3.Value.Index.Coefs c10)∧(S4 imm' p12 x3.Value.Read.Subs c11)∧(S4 imm' p13 x3.Value.Kids c12)),.x (fun imm' v hx=>∃ p101 c91 p111 c101 p121 c111 p131 c121,v=vA (cStmt x3 p101 c91 p111 c101 p121 c111 p131 c121)∧hx=[]∧(S4 imm' p101 x3.Write.Subs c91)∧(S4 imm' p111 x3.Value.Index.Coefs c101)∧(S4 imm' p121 x3.Value.Read.Subs c111)∧(S4 imm' p131 x3.Value.Kids c121)),.p (vS p3 y c2) [],.p (vI i) [],.x (fun imm' v hx=>∃ ad5 p14 c13,v=.pointer (some ad5)∧hx=[]∧(At imm' ad5 (cInst x4 p14 c13))∧(S4 imm' p14 x4.Point c13)),.x (fun imm' v hx=>∃ ad51 p141 c131,v=.pointer (some (ad51.add 2))∧hx=[]∧(At imm' ad51 (cInst x4 p141 c131))∧(S4 imm' p141 x4.Point c131)),.x (fun imm' v hx=>∃ p1411 c1311,v=vS p1411 x4.Point c1311∧hx=[]∧(S4 imm' p1411 x4.Point c1311)),.x (fun imm' v hx=>∃ p15 c14,v=.tuple ⟨[vS p15 y2 c14,vI y3,.bool y4]⟩∧hx=[]∧(S4 imm' p15 y2 c14)),.x (fun imm' v hx=>∃ p151 c141,v=.tuple ⟨[vS p151 y2 c141,vI y3,.bool y4]⟩∧hx=[]∧(S4 imm' p151 y2 c141)),.x (fun imm' v hx=>∃ p1511 c1411,v=vS p1511 y2 c1411∧hx=[]∧(S4 imm' p1511 y2 c1411)),.q (vI y3),.q (.bool y4),.x (fun imm' v hx=>∃ p15111 c14111,v=vS p15111 y2 c14111∧hx=[]∧(S4 imm' p15111 y2 c14111)),.p (vI y3) []] [[],[(0,false)],[],[(2,false)],[],[],[(4,false),(5,false)],[(6,false)],[(7,false)],[(3,false),(8,false)],[(9,false)],[(10,false)],[],[],[(12,false),(13,false)],[(14,false)],[(15,false)],[(11,false),(16,false)],[(17,false)],[],[],[(19,false),(20,false)],[(21,false)],[(22,false)],[(1,false),(18,false),(23,false)],[(24,false)],[(25,false)],[(25,false)],[(25,false)],[(26,false)],[(27,false)]] [hO spec_l6Use (vS p4 out c3) cs,hB b (cProg p p1 c p2 c1)] [] [(28,false),(29,false),(30,false)] (zK [0,1] rfl (by decide)) ?_ ?_
   · refine Op<|Op<|Op<|Op<|Op<|Op<|Ox ?_<|Ox ?_<|Oq ?_<|Ox ?_<|Ox ?_<|Ox ?_<|Op<|Op<|Ox ?_<|Ox ?_<|Oq ?_<|Ox ?_<|Ox ?_<|Op<|Op<|Ox ?_<|Ox ?_<|Ox ?_<|Ox ?_<|Ox ?_<|Ox ?_<|Oq ?_<|Oq ?_<|Ox ?_<|Op<|On
     · intro imm1 hf le1;refine zG ?_;rintro _ _ ⟨rfl,rfl⟩;refine zG ?_;rintro _ _ ⟨rfl,rfl⟩;refine zN<|yH [(23,vS p3 y c2),(24,vI i)] ?_;have hle:=iS imm1;have h3:=h3.mono le1;refine wJ rfl rfl h3 hy1 ?_;intro ad ccs hat hrep;obtain ⟨v01,rfl,h6⟩:=zAm hrep;obtain ⟨p6,c5,rfl⟩:=h6.form;exact zZ (hx:=[]) rfl hle rfl (zM rfl) ⟨_,_,_,rfl,rfl,hat,h6⟩
     · intro imm1 hf le1;refine zG ?_;rintro _ _ ⟨ad,p6,c5,rfl,rfl,hat,h6⟩;refine zN<|yH [(25,.pointer (some ad))] ?_;have hle:=iS imm1;exact qV 8 [(26,.pointer (some ad))]<|zZ (hx:=[]) rfl hle rfl (zM rfl) ⟨_,_,_,rfl,rfl,hat,h6⟩
     · intro imm1 hf le1;refine zG ?_;rintro _ _ ⟨ad1,p61,c51,rfl,rfl,hat1,h61⟩;refine zN<|yH [(26,.pointer (some ad1))] ?_;have hle:=iS imm1;exact xS 0 hat1 [vI x.Part] (vI x.Part) rfl<|zZ (hx:=[]) rfl hle rfl (zM rfl) ⟨rfl,rfl⟩
     · intro imm1 hf le1;refine zG ?_;rintro _ _ ⟨rfl,rfl⟩;refine zG ?_;rintro _ _ ⟨rfl,rfl⟩;refine zN<|yH [(22,vS p2 p.Parts c1),(27,vI x.Part)] ?_;have hle:=iS imm1;have h1:=h1.mono le1;refine wJ rfl rfl h1 hy2 ?_;intro ad2 ccs1 hat2 hrep1;obtain ⟨v02,v03,rfl,h7,h8⟩:=wS hrep1;obtain ⟨p7,c6,rfl⟩:=h7.form;obtain ⟨p8,c7,rfl⟩:=h8.form;exact zZ (hx:=[]) rfl hle rfl (zM rfl) ⟨_,_,_,_,_,rfl,rfl,hat2,h7,h8⟩
     · intro imm1 hf le1;refine zG ?_;rintro _ _ ⟨ad2,p7,c6,p8,c7,rfl,rfl,hat2,h7,h8⟩;refine zN<|yH [(28,.pointer (some ad2))] ?_;have hle:=iS imm1;exact qV 11 [(29,.pointer (some (ad2.add 1)))]<|zZ (hx:=[]) rfl hle rfl (zM rfl) ⟨_,_,_,_,_,rfl,rfl,hat2,h7,h8⟩
     · intro imm1 hf le1;refine zG ?_;rintro _ _ ⟨ad21,p71,c61,p81,c71,rfl,rfl,hat21,h71,h81⟩;refine zN<|yH [(29,.pointer (some (ad21.add 1)))] ?_;have hle:=iS imm1;exact xS 1 hat21 [vS p81 x1.Body c71] (vS p81 x1.Body c71) rfl<|zZ (hx:=[]) rfl hle rfl (zM rfl) ⟨_,_,rfl,rfl,h81⟩
     · intro imm1 hf le1;refine zG ?_;rintro _ _ ⟨rfl,rfl⟩;refine zG ?_;rintro _ _ ⟨rfl,rfl⟩;refine zN<|yH [(31,vS p3 y c2),(32,vI i)] ?_;have hle:=iS imm1;have h3:=h3.mono le1;refine wJ rfl rfl h3 hy3 ?_;intro ad3 ccs2 hat3 hrep2;obtain ⟨v04,rfl,h9⟩:=zAm hrep2;obtain ⟨p9,c8,rfl⟩:=h9.form;exact zZ (hx:=[]) rfl hle rfl (zM rfl) ⟨_,_,_,rfl,rfl,hat3,h9⟩
     · intro imm1 hf le1;refine zG ?_;rintro _ _ ⟨ad3,p9,c8,rfl,rfl,hat3,h9⟩;refine zN<|yH [(33,.pointer (some ad3))] ?_;have hle:=iS imm1;exact qV 16 [(34,.pointer (some (ad3.add 1)))]<|zZ (hx:=[]) rfl hle rfl (zM rfl) ⟨_,_,_,rfl,rfl,hat3,h9⟩
     · intro imm1 hf le1;refine zG ?_;rintro _ _ ⟨ad31,p91,c81,rfl,rfl,hat31,h91⟩;refine zN<|yH [(34,.pointer (some (ad31.add 1)))] ?_;have hle:=iS imm1;exact xS 1 hat31 [vI x2.Stmt] (vI x2.Stmt) rfl<|zZ (hx:=[]) rfl hle rfl (zM rfl) ⟨rfl,rfl⟩
     · intro imm1 hf le1;refine zG ?_;rintro _ _ ⟨p811,c711,rfl,rfl,h811⟩;refine zG ?_;rintro _ _ ⟨rfl,rfl⟩;refine zN<|yH [(30,vS p811 x1.Body c711),(35,vI x2.Stmt)] ?_;have hle:=iS imm1;refine wJ rfl rfl h811 hy4 ?_;intro ad4 ccs3 hat4 hrep3;obtain ⟨v05,v06,v07,v08,rfl,h10,h11,h12,h13⟩:=wA hrep3;obtain ⟨p10,c9,rfl⟩:=h10.form;obtain ⟨p11,c10,rfl⟩:=h11.form;obtain ⟨p12,c11,rfl⟩:=h12.form;obtain ⟨p13,c12,rfl⟩:=h13.form;exact zZ (hx:=[]) rfl hle rfl (zM rfl) ⟨_,_,_,_,_,_,_,_,_,rfl,rfl,hat4,h10,h11,h12,h13⟩
     · intro imm1 hf le1;refine zG ?_;rintro _ _ ⟨ad4,p10,c9,p11,c10,p12,c11,p13,c12,rfl,rfl,hat4,h10,h11,h12,h13⟩;refine zN<|yH [(36,.pointer (some ad4))] ?_;have hle:=iS imm1;exact xS 0 hat4 (cStmt x3 p10 c9 p11 c10 p12 c11 p13 c12) (vA (cStmt x3 p10 c9 p11 c10 p12 c11 p13 c12)) rfl<|zZ (hx:=[]) rfl hle rfl (zM rfl) ⟨_,_,_,_,_,_,_,_,rfl,rfl,h10,h11,h12,h13⟩
     · intro imm1 hf le1;refine zG ?_;rintro _ _ ⟨rfl,rfl⟩;refine zG ?_;rintro _ _ ⟨rfl,rfl⟩;refine zN<|yH [(38,vS p3 y c2),(39,vI i)] ?_;have hle:=iS imm1;have h3:=h3.mono le1;refine wJ rfl rfl h3 hy5 ?_;intro ad5 ccs4 hat5 hrep4;obtain ⟨v09,rfl,h14⟩:=zAm hrep4;obtain ⟨p14,c13,rfl⟩:=h14.form;exact zZ (hx:=[]) rfl hle rfl (zM rfl) ⟨_,_,_,rfl,rfl,hat5,h14⟩
     · intro imm1 hf le1;refine zG ?_;rintro _ _ ⟨ad5,p14,c13,rfl,rfl,hat5,h14⟩;refine zN<|yH [(40,.pointer (some ad5))] ?_;have hle:=iS imm1;exact qV 23 [(41,.pointer (some (ad5.add 2)))]<|zZ (hx:=[]) rfl hle rfl (zM rfl) ⟨_,_,_,rfl,rfl,hat5,h14⟩
     · intro imm1 hf le1;refine zG ?_;rintro _ _ ⟨ad51,p141,c131,rfl,rfl,hat51,h141⟩;refine zN<|yH [(41,.pointer (some (ad51.add 2)))] ?_;have hle:=iS imm1;exact xS 2 hat51 [vS p141 x4.Point c131] (vS p141 x4.Point c131) rfl<|zZ (hx:=[]) rfl hle rfl (zM rfl) ⟨_,_,rfl,rfl,h141⟩
     · intro imm1 hf le1;refine zG ?_;rintro _ _ ⟨rfl,rfl⟩;refine zG ?_;rintro _ _ ⟨p101,c91,p111,c101,p121,c111,p131,c121,rfl,rfl,h101,h111,h121,h131⟩;refine zG ?_;rintro _ _ ⟨p1411,c1311,rfl,rfl,h1411⟩;refine zN<|yH [(20,vS p1 p.Arrays c),(37,vA (cStmt x3 p101 c91 p111 c101 p121 c111 p131 c121)),(42,vS p1411 x4.Point c1311)] ?_;have hle:=iS imm1;have h:=h.mono le1;refine yR (zCz p.Arrays x3 x4.Point _ hy6 h h101 h111 h121 h131 h1411) ?_;rintro imm01 hs2 v2 k2 le1 - ⟨v010,v011,v012,rfl,rfl,h15,rfl,rfl⟩ -;have hle:=hle.trans le1;obtain ⟨p15,c14,rfl⟩:=h15.form;exact zZ (hx:=[]) rfl hle rfl (zM rfl) ⟨_,_,rfl,rfl,h15⟩
     · intro imm1 hf le1;refine zG ?_;rintro _ _ ⟨p15,c14,rfl,rfl,h15⟩;refine zN<|yH [(43,.tuple ⟨[vS p15 y2 c14,vI y3,.bool y4]⟩)] ?_;have hle:=iS imm1;exact qV 26 [(18,.tuple ⟨[vS p15 y2 c14,vI y3,.bool y4]⟩)]<|zZ (hx:=[]) rfl hle rfl (zM rfl) ⟨_,_,rfl,rfl,h15⟩
     · intro imm1 hf le1;refine zG ?_;rintro _ _ ⟨p151,c141,rfl,rfl,h151⟩;refine zN<|yH [(18,.tuple ⟨[vS p151 y2 c141,vI y3,.bool y4]⟩)] ?_;have hle:=iS imm1;exact qV 27 [(44,vS p151 y2 c141)]<|zZ (hx:=[]) rfl hle rfl (zM rfl) ⟨_,_,rfl,rfl,h151⟩
     · intro imm1 hf le1;refine zG ?_;rintro _ _ ⟨p151,c141,rfl,rfl,h151⟩;refine zN<|yH [(18,.tuple ⟨[vS p151 y2 c141,vI y3,.bool y4]⟩)] ?_;have hle:=iS imm1;exact qV 28 [(45,vI y3)]<|zZ (hx:=[]) rfl hle rfl (zM rfl) ⟨rfl,rfl⟩
     · intro imm1 hf le1;refine zG ?_;rintro _ _ ⟨p151,c141,rfl,rfl,h151⟩;refine zN<|yH [(18,.tuple ⟨[vS p151 y2 c141,vI y3,.bool y4]⟩)] ?_;have hle:=iS imm1;exact qV 29 [(46,.bool y4)]<|zZ (hx:=[]) rfl hle rfl (zM rfl) ⟨rfl,rfl⟩
     intro imm1 hf le1;refine zG ?_;rintro _ _ ⟨p1511,c1411,rfl,rfl,h1511⟩;refine zN<|yH [(44,vS p1511 y2 c1411)] ?_;have hle:=iS imm1;exact qV 30 [(6,vS p1511 y2 c1411)]<|zZ (hx:=[]) rfl hle rfl (zM rfl) ⟨_,_,rfl,rfl,h1511⟩
   intro imm02 le2;refine zG ?_;rintro _ _ ⟨rfl,rfl⟩;refine zG ?_;rintro _ _ ⟨p15111,c14111,rfl,rfl,h15111⟩;refine zG ?_;rintro _ _ ⟨rfl,rfl⟩;refine zN<|yH [(1,vP b 0),(3,vS p4 out c3),(4,vS p3 y c2),(5,vI i),(6,vS p15111 y2 c14111),(7,vI y3),(46,.bool y4)] ?_;have h4:=iM le2 h4;have h3:=h3.mono le2;have h:=h.mono le2;have h1:=h1.mono le2;have hle:=hle.trans le2;refine yA [] []<|zE<|zB<|yK 4 [] [(47,vS p4 out c3),(50,vA [vS p15111 y2 c14111,vI y3])]<|xQ [vS p15111 y2 c14111,vI y3] spec_l6Use ?_;intro b2 hb2;have h18:RL imm02 [vS p15111 y2 c14111,vI y3] ([(spec_l6Use.mk y2 y3)]:List spec_l6Use):=⟨[vS p15111 y2 c14111,vI y3],_,rfl,rfl,(spec_l6Use_shut ⟨_,rfl,h15111⟩),rfl⟩;obtain ⟨out2,hy7,hM⟩:=zC hM;refine qI 95 2 1 rfl rfl rfl h4 (.inr ⟨0,rfl⟩) h18 hy7 ?_;intro p16 c15 cs2 h19;exact rX (zK [1,2] (hs':=[hO spec_l6Use (vS p16 out2 c15) cs2,hB b (cProg p p1 c p2 c1)]) rfl (by decide))<|yA [] [(3,vS p16 out2 c15)]<|zY<|zE<|zB<|yA [] [(5,vI (W (i + 1)))]<|xD<|vQ [(1,vP b 0),(3,vS p16 out2 c15),(4,vS p3 y c2),(5,vI (W (i + 1)))]<|ih out2 (W (i + 1)) _ hM hle h3 h h1 h19 hg ho hx
 intro hc hM;exact xA<|zS<|zS<|wD (zK [0] rfl (by decide))<|yT [(3,vS p4 out c3)]<|hx _ _ _ _ _ (zD hM).symm hle h4
def M.spec_l6Uses (p:zV):Option ((List spec_l6Use)):=do
 let y←rS p
 let out1←M.spec_l6Uses_l1 p y ([]:List spec_l6Use) 0
 pure (id out1)
theorem spec_l6Uses_ok:∀ (p:zV) r,M.spec_l6Uses p=some r→∀ {imm:Imm}{p1 c p2 c1},(S4 imm p1 p.Arrays c)→(S4 imm p2 p.Parts c1)→Ret Tryz.prog 54 [vA (cProg p p1 c p2 c1)] imm [] (spec_l6Uses_post  r):=by
 intro p r hM imm p1 c p2 c1 h h1;unfold M.spec_l6Uses at hM;refine yG (fn:=Tryz.f54) (c:=(bodyOf Tryz.f54)) Tryz.func54 rfl rfl ?_;rintro B - -;refine zF<|zB<|tR (cProg p p1 c p2 c1) ?_;intro b hb;refine yA [] []<|zE<|zF<|zB<|xQ [] spec_l6Use ?_;intro b1 hb1;have h2:RL imm [] ([]:List spec_l6Use):=rfl;refine yA [] [(3,vS (some ⟨b1,0,none⟩) ([]:List spec_l6Use) 0)]<|zE<|zF<|zB<|yK 1 [1] [(10,vA (cProg p p1 c p2 c1))] ?_;obtain ⟨y,hy,hM⟩:=zC hM;refine yR (zGB p _ hy h h1) ?_;rintro imm0 hs2 v2 k2 le - ⟨v0,rfl,rfl,h3⟩ -;have h2:=iM le h2;have h:=h.mono le;have h1:=h1.mono le;obtain ⟨p3,c2,rfl⟩:=h3.form;refine yA [] [(4,vS p3 y c2)]<|zE<|zF<|zF<|zB<|yA [] [(5,vI 0)]<|zE<|yC<|vQ [(1,vP b 0),(3,vS (some ⟨b1,0,none⟩) ([]:List spec_l6Use) 0),(4,vS p3 y c2),(5,vI 0)] ?_;obtain ⟨o0,ho0,hMl⟩:=zC hM;refine spec_l6Uses_l1_ok p y ([]:List spec_l6Use) 0 o0 ho0 iR h3 h h1 h2 (fun _ _ _ h=>h) (fun _ _ h=>h) ?_;intro imm03 out1 p5 c4 cs1 heq le3 h5;subst o0;refine yD<|zE<|zF<|zB<|yA [] [(2,vS p5 out1 c4)]<|zE<|yJ<|xI 0 rfl ?_;intro imm04 le4 hl0;have h20:=SL.of_frozen hl0 le4 h5;obtain rfl:=zD hMl;exact yQ ⟨_,_,(.tmp rfl ResV.nil),zX,⟨_,rfl,rfl,h20⟩⟩
end Go.LN
namespace Go.LN
open Go.Proofs
set_option maxRecDepth 20000
def slices_Index_int_int_post (r:Int):KT:=fun kk imm' hs' v=>
  ∃ v0,hs'=[]∧v=tupV [v0]∧v0=.int .i64 r
def M.slices_Index_int_int_l1 (s:(List Int)) (v0:Int) (t8:Int):Option (Out Unit (Int)):=do
 if (decide (t8 < (s.length:Int))) then
  let x←idx s t8
  if (v0 == x) then
   pure (.ret t8)
  else
   M.slices_Index_int_int_l1 s v0 (W (t8 + 1))
 else
  pure (.done ())
 partial_fixpoint
theorem slices_Index_int_int_l1_ok (s:(List Int)) (v0:Int):∀ (t8:Int) (o:Out Unit (Int)),M.slices_Index_int_int_l1 s v0 t8=some o→∀ {B}{imm0 imm:Imm}{Q p c},imm0.le imm→(S4 imm p s c)→(∀ gl a w,¬Q (.goto gl) a w)→(∀ a w,¬Q .outgrown a w)→(∀ (imm':Imm) ,o=(.done ())→imm0.le imm'→T 19 B Q (.exit 0) imm' [] [])→(∀ r imm' hs' m',o=(.ret r)→imm0.le imm'→RS Tryz.prog Tryz.f120 B (slices_Index_int_int_post  r) imm' hs' m'→T 19 B Q .ret imm' hs' m')→J Tryz.prog 19 B (nav (bodyOf Tryz.f120) [1,0,1,0]) Q imm [] [(0,vS p s c),(1,vI v0),(7,vI (s.length:Int)),(8,vI t8)]:=by
 refine M.slices_Index_int_int_l1.partial_correctness s v0 _ ?_;intro self ih t8 o hM B imm0 imm Q p c hle h hg ho hx hr;refine xC hg ho<|zF<|zB<|yA [] [(9,.bool (decide (t8 < (s.length:Int))))]<|zE<|zF<|yO hM ?_ ?_
 · intro hc hM;refine yE<|zE<|zF<|yC<|zF<|zB<|yA [] [(5,vI t8)]<|zE<|zF<|zB<|yK 3 [] [(11,vI v0),(12,vS p s c),(13,vI t8)] ?_;obtain ⟨x,hy,hM⟩:=zC hM;refine wJ rfl rfl h hy ?_;intro ad ccs hat hrep;obtain rfl:=hrep;refine xS 0 hat [vI x] (vI x) rfl<|yA [] [(16,.bool (v0 == x))]<|zE<|yO hM ?_ ?_
   · intro hc1 hM;exact zF<|zB<|yA [] [(4,vI t8)]<|zE<|yJ<|yF<|zR<|zR<|hr _ _ _ _ (zD hM).symm hle ⟨_,_,(.tmp rfl ResV.nil),zX,⟨_,rfl,rfl,rfl⟩⟩
   intro hc1 hM;exact yE<|zY<|zE<|zB<|yA [] [(8,vI (W (t8 + 1)))]<|xD<|vQ [(0,vS p s c),(1,vI v0),(7,vI (s.length:Int)),(8,vI (W (t8 + 1)))]<|ih (W (t8 + 1)) _ hM hle h hg ho hx hr
 intro hc hM;exact xA<|zS<|zS<|yT []<|hx _  (zD hM).symm hle
def M.slices_Index_int_int (s:(List Int)) (v0:Int):Option (Int):=do
 match←M.slices_Index_int_int_l1 s v0 0 with
 | .ret r0=>pure r0
 | .done _ =>
  pure (-1)
theorem slices_Index_int_int_ok:∀ (s:(List Int)) (v0:Int) r,M.slices_Index_int_int s v0=some r→∀ {imm:Imm}{p c},(S4 imm p s c)→Ret Tryz.prog 120 [vS p s c,vI v0] imm [] (slices_Index_int_int_post  r):=by
 intro s v0 r hM imm p c h;unfold M.slices_Index_int_int at hM;refine yG (fn:=Tryz.f120) (c:=(bodyOf Tryz.f120)) Tryz.func120 rfl rfl ?_;rintro B - -;refine zF<|zB<|yA [] []<|zE<|zF<|zF<|zB<|yA [] [(7,vI (s.length:Int)),(8,vI 0)]<|zE<|yC<|vQ [(0,vS p s c),(1,vI v0),(7,vI (s.length:Int)),(8,vI 0)] ?_;obtain ⟨o0,ho0,hMl⟩:=zC hM;refine slices_Index_int_int_l1_ok s v0 0 o0 ho0 iR h (fun _ _ _ h=>h) (fun _ _ h=>h) ?_ ?_
 · intro imm0  heq le;subst o0;refine yD<|zE<|zF<|zB<|yA [] [(4,vI (-1))]<|zE<|yJ ?_;obtain rfl:=zD hMl;exact yQ ⟨_,_,(.tmp rfl ResV.nil),zX,⟨_,rfl,rfl,rfl⟩⟩
 intro r0 imm9 hs9 m9 heq9 le9 hrs9;subst heq9;refine yF<|zR ?_;obtain rfl:=zD hMl;exact yQ hrs9
def slices_Contains_int_int_post (r:Bool):KT:=fun kk imm' hs' v=>
  ∃ v0,hs'=[]∧v=tupV [v0]∧v0=.bool r
def M.slices_Contains_int_int (s:(List Int)) (v0:Int):Option (Bool):=do
 let y←M.slices_Index_int_int s v0
 pure (decide (y ≥ 0))
theorem slices_Contains_int_int_ok:∀ (s:(List Int)) (v0:Int) r,M.slices_Contains_int_int s v0=some r→∀ {imm:Imm}{p c},(S4 imm p s c)→Ret Tryz.prog 90 [vS p s c,vI v0] imm [] (slices_Contains_int_int_post  r):=by
 intro s v0 r hM imm p c h;unfold M.slices_Contains_int_int at hM;refine yG (fn:=Tryz.f90) (c:=(bodyOf Tryz.f90)) Tryz.func90 rfl rfl ?_;rintro B - -;refine zF<|zB<|yA [] []<|zE<|zF<|zB<|yK 2 [] [(5,vS p s c),(6,vI v0)] ?_;obtain ⟨y,hy,hM⟩:=zC hM;refine yR (slices_Index_int_int_ok s v0 _ hy h) ?_;rintro imm0 hs2 v2 k2 le - ⟨v01,rfl,rfl,rfl⟩ -;refine yA [] [(4,.bool (decide (y ≥ 0)))]<|zE<|yJ ?_;obtain rfl:=zD hM;exact yQ ⟨_,_,(.tmp rfl ResV.nil),zX,⟨_,rfl,rfl,rfl⟩⟩
def impl_traced_between_post (r:Int):KT:=fun kk imm' hs' v=>
  ∃ v0,hs'=[]∧v=tupV [v0]∧v0=.int .i64 r
def M.impl_traced_between (t:oS) (from0:Int) (to0:Int):Option (Int):=do
 let x←idx t.reads to0
 let x1←idx t.writes from0
 let y←M.slices_Contains_int_int x x1
 let kinds←(do
   if y then
    pure (W (0 + 1))
   else
    pure (id 0)
     : Option Int)
 let x2←idx t.reads from0
 let x3←idx t.writes to0
 let y1←M.slices_Contains_int_int x2 x3
 let kinds1←(do
   if y1 then
    pure (W (kinds + 2))
   else
    pure (id kinds)
     : Option Int)
 let x4←idx t.writes from0
 let x5←idx t.writes to0
 let kinds2←(do
   if (x4 == x5) then
    pure (W (kinds1 + 4))
   else
    pure (id kinds1)
     : Option Int)
 pure (id kinds2)
theorem impl_traced_between_ok:∀ (t:oS) (from0:Int) (to0:Int) r,M.impl_traced_between t from0 to0=some r→∀ {imm:Imm}{ad:Addr}{p c p1 c1 p2 c2 p3 c3 p4 c4},(S4 imm p t.Program.Arrays c)→(S4 imm p1 t.Program.Parts c1)→(S4 imm p2 t.list c2)→(S4 imm p3 t.reads c3)→(S4 imm p4 t.writes c4)→(At imm ad [vS p t.Program.Arrays c,vS p1 t.Program.Parts c1,vS p2 t.list c2,vS p3 t.reads c3,vS p4 t.writes c4])→Ret Tryz.prog 56 [.pointer (some ad),vI from0,vI to0] imm [] (impl_traced_between_post  r):=by
 intro t from0 to0 r hM imm ad p c p1 c1 p2 c2 p3 c3 p4 c4 h h1 h2 h3 h4 hat;unfold M.impl_traced_between at hM;refine yG (fn:=Tryz.f56) (c:=(bodyOf Tryz.f56)) Tryz.func56 rfl rfl ?_;rintro B - -;have hle:=iS imm;refine zF<|zB<|yA [] []<|zE<|zF<|zB<|yA [] [(7,vI 0)]<|zE<|zF<|zF ?_;obtain ⟨x,hy,hM⟩:=zC hM;obtain ⟨x1,hy1,hM⟩:=zC hM;obtain ⟨y,hy2,hM⟩:=zC hM;refine uA [.p (.pointer (some ad)) [],.p (.pointer (some ad)) [],.p (.pointer (some (ad.add 3))) [],.q (vS p3 t.reads c3),.p (vI to0) [],.x (fun imm' v hx=>∃ ad1 p5 c5,v=.pointer (some ad1)∧hx=[]∧(At imm' ad1 [vS p5 x c5])∧(S4 imm' p5 x c5)),.x (fun imm' v hx=>∃ p51 c51,v=vS p51 x c51∧hx=[]∧(S4 imm' p51 x c51)),.p (.pointer (some ad)) [],.p (.pointer (some ad)) [],.p (.pointer (some (ad.add 4))) [],.q (vS p4 t.writes c4),.p (vI from0) [],.x (fun imm' v hx=>∃ ad2,v=.pointer (some ad2)∧hx=[]∧(At imm' ad2 [vI x1])),.q (vI x1),.q (.bool y)] [[],[(0,false)],[(1,false)],[(2,false)],[],[(3,false),(4,false)],[(5,false)],[],[(7,false)],[(8,false)],[(9,false)],[],[(10,false),(11,false)],[(12,false)],[(6,false),(13,false)]] [] [] [(14,false)] (zK [] rfl (by decide)) ?_ ?_
 · refine Op<|Op<|Op<|Oq ?_<|Op<|Ox ?_<|Ox ?_<|Op<|Op<|Op<|Oq ?_<|Op<|Ox ?_<|Oq ?_<|Oq ?_<|On
   · intro imm1 hf le1;refine zG ?_;rintro _ _ ⟨rfl,rfl⟩;refine zN<|yH [(10,.pointer (some (ad.add 3)))] ?_;have hle:=iS imm1;have hat:=hat.mono le1;exact xS 3 hat [vS p3 t.reads c3] (vS p3 t.reads c3) rfl<|zZ (hx:=[]) rfl hle rfl (zM rfl) ⟨rfl,rfl⟩
   · intro imm1 hf le1;refine zG ?_;rintro _ _ ⟨rfl,rfl⟩;refine zG ?_;rintro _ _ ⟨rfl,rfl⟩;refine zN<|yH [(11,vS p3 t.reads c3),(12,vI to0)] ?_;have hle:=iS imm1;have h3:=h3.mono le1;refine wJ rfl rfl h3 hy ?_;intro ad1 ccs hat1 hrep;obtain ⟨v0,rfl,h5⟩:=hrep;obtain ⟨p5,c5,rfl⟩:=h5.form;exact zZ (hx:=[]) rfl hle rfl (zM rfl) ⟨_,_,_,rfl,rfl,hat1,h5⟩
   · intro imm1 hf le1;refine zG ?_;rintro _ _ ⟨ad1,p5,c5,rfl,rfl,hat1,h5⟩;refine zN<|yH [(13,.pointer (some ad1))] ?_;have hle:=iS imm1;exact xS 0 hat1 [vS p5 x c5] (vS p5 x c5) rfl<|zZ (hx:=[]) rfl hle rfl (zM rfl) ⟨_,_,rfl,rfl,h5⟩
   · intro imm1 hf le1;refine zG ?_;rintro _ _ ⟨rfl,rfl⟩;refine zN<|yH [(17,.pointer (some (ad.add 4)))] ?_;have hle:=iS imm1;have hat:=hat.mono le1;exact xS 4 hat [vS p4 t.writes c4] (vS p4 t.writes c4) rfl<|zZ (hx:=[]) rfl hle rfl (zM rfl) ⟨rfl,rfl⟩
   · intro imm1 hf le1;refine zG ?_;rintro _ _ ⟨rfl,rfl⟩;refine zG ?_;rintro _ _ ⟨rfl,rfl⟩;refine zN<|yH [(18,vS p4 t.writes c4),(19,vI from0)] ?_;have hle:=iS imm1;have h4:=h4.mono le1;refine wJ rfl rfl h4 hy1 ?_;intro ad2 ccs1 hat2 hrep1;obtain rfl:=hrep1;exact zZ (hx:=[]) rfl hle rfl (zM rfl) ⟨_,rfl,rfl,hat2⟩
   · intro imm1 hf le1;refine zG ?_;rintro _ _ ⟨ad2,rfl,rfl,hat2⟩;refine zN<|yH [(20,.pointer (some ad2))] ?_;have hle:=iS imm1;exact xS 0 hat2 [vI x1] (vI x1) rfl<|zZ (hx:=[]) rfl hle rfl (zM rfl) ⟨rfl,rfl⟩
   intro imm1 hf le1;refine zG ?_;rintro _ _ ⟨p51,c51,rfl,rfl,h51⟩;refine zG ?_;rintro _ _ ⟨rfl,rfl⟩;refine zN<|yH [(14,vS p51 x c51),(21,vI x1)] ?_;have hle:=iS imm1;refine yR (slices_Contains_int_int_ok x x1 _ hy2 h51) ?_;rintro imm0 hs2 v2 k2 le - ⟨v01,rfl,rfl,rfl⟩ -;have hle:=hle.trans le;exact zZ (hx:=[]) rfl hle rfl (zM rfl) ⟨rfl,rfl⟩
 intro imm01 le1;refine zG ?_;rintro _ _ ⟨rfl,rfl⟩;refine zN<|yH [(0,.pointer (some ad)),(1,vI from0),(2,vI to0),(7,vI 0),(22,.bool y)] ?_;have h3:=h3.mono le1;have h4:=h4.mono le1;have hat:=hat.mono le1;have hle:=hle.trans le1;refine yN rfl<|zE ?_;obtain ⟨o0,ho0,hMc⟩:=zC hM;refine yU (fun imm' hs' m'=>∃ (kinds:Int),o0=kinds∧imm01.le imm'∧hs'=[]∧m'=[(0,.pointer (some ad)),(1,vI from0),(2,vI to0),(7,vI kinds)]) ?_ ?_
 · have hle:=iS imm01;refine yO ho0 ?_ ?_
   · intro hc hM;exact zB<|yA [] [(7,vI (W (0 + 1)))]<|yT [(0,.pointer (some ad)),(1,vI from0),(2,vI to0),(7,vI (W (0 + 1)))]<|yB ⟨_,(zD hM).symm,hle,rfl,rfl⟩
   intro hc hM;exact yE<|yT [(0,.pointer (some ad)),(1,vI from0),(2,vI to0),(7,vI 0)]<|yB ⟨_,(zD hM).symm,hle,rfl,rfl⟩
 rintro imm02 hs2 m2 ⟨kinds,heq,le2,rfl,rfl⟩;subst o0;have h3:=h3.mono le2;have h4:=h4.mono le2;have hat:=hat.mono le2;have hle:=hle.trans le2;refine zE<|zF<|zF ?_;obtain ⟨x2,hy3,hM⟩:=zC hMc;obtain ⟨x3,hy4,hM⟩:=zC hM;obtain ⟨y1,hy5,hM⟩:=zC hM;refine uA [.p (.pointer (some ad)) [],.p (.pointer (some ad)) [],.p (.pointer (some (ad.add 3))) [],.q (vS p3 t.reads c3),.p (vI from0) [],.x (fun imm' v hx=>∃ ad3 p6 c6,v=.pointer (some ad3)∧hx=[]∧(At imm' ad3 [vS p6 x2 c6])∧(S4 imm' p6 x2 c6)),.x (fun imm' v hx=>∃ p61 c61,v=vS p61 x2 c61∧hx=[]∧(S4 imm' p61 x2 c61)),.p (.pointer (some ad)) [],.p (.pointer (some ad)) [],.p (.pointer (some (ad.add 4))) [],.q (vS p4 t.writes c4),.p (vI to0) [],.x (fun imm' v hx=>∃ ad4,v=.pointer (some ad4)∧hx=[]∧(At imm' ad4 [vI x3])),.q (vI x3),.q (.bool y1)] [[],[(0,false)],[(1,false)],[(2,false)],[],[(3,false),(4,false)],[(5,false)],[],[(7,false)],[(8,false)],[(9,false)],[],[(10,false),(11,false)],[(12,false)],[(6,false),(13,false)]] [] [] [(14,false)] (zK [] rfl (by decide)) ?_ ?_
 · refine Op<|Op<|Op<|Oq ?_<|Op<|Ox ?_<|Ox ?_<|Op<|Op<|Op<|Oq ?_<|Op<|Ox ?_<|Oq ?_<|Oq ?_<|On
   · intro imm1 hf le1;refine zG ?_;rintro _ _ ⟨rfl,rfl⟩;refine zN<|yH [(27,.pointer (some (ad.add 3)))] ?_;have hle:=iS imm1;have hat:=hat.mono le1;exact xS 3 hat [vS p3 t.reads c3] (vS p3 t.reads c3) rfl<|zZ (hx:=[]) rfl hle rfl (zM rfl) ⟨rfl,rfl⟩
   · intro imm1 hf le1;refine zG ?_;rintro _ _ ⟨rfl,rfl⟩;refine zG ?_;rintro _ _ ⟨rfl,rfl⟩;refine zN<|yH [(28,vS p3 t.reads c3),(29,vI from0)] ?_;have hle:=iS imm1;have h3:=h3.mono le1;refine wJ rfl rfl h3 hy3 ?_;intro ad3 ccs2 hat3 hrep2;obtain ⟨v02,rfl,h7⟩:=hrep2;obtain ⟨p6,c6,rfl⟩:=h7.form;exact zZ (hx:=[]) rfl hle rfl (zM rfl) ⟨_,_,_,rfl,rfl,hat3,h7⟩
   · intro imm1 hf le1;refine zG ?_;rintro _ _ ⟨ad3,p6,c6,rfl,rfl,hat3,h7⟩;refine zN<|yH [(30,.pointer (some ad3))] ?_;have hle:=iS imm1;exact xS 0 hat3 [vS p6 x2 c6] (vS p6 x2 c6) rfl<|zZ (hx:=[]) rfl hle rfl (zM rfl) ⟨_,_,rfl,rfl,h7⟩
   · intro imm1 hf le1;refine zG ?_;rintro _ _ ⟨rfl,rfl⟩;refine zN<|yH [(34,.pointer (some (ad.add 4)))] ?_;have hle:=iS imm1;have hat:=hat.mono le1;exact xS 4 hat [vS p4 t.writes c4] (vS p4 t.writes c4) rfl<|zZ (hx:=[]) rfl hle rfl (zM rfl) ⟨rfl,rfl⟩
   · intro imm1 hf le1;refine zG ?_;rintro _ _ ⟨rfl,rfl⟩;refine zG ?_;rintro _ _ ⟨rfl,rfl⟩;refine zN<|yH [(35,vS p4 t.writes c4),(36,vI to0)] ?_;have hle:=iS imm1;have h4:=h4.mono le1;refine wJ rfl rfl h4 hy4 ?_;intro ad4 ccs3 hat4 hrep3;obtain rfl:=hrep3;exact zZ (hx:=[]) rfl hle rfl (zM rfl) ⟨_,rfl,rfl,hat4⟩
   · intro imm1 hf le1;refine zG ?_;rintro _ _ ⟨ad4,rfl,rfl,hat4⟩;refine zN<|yH [(37,.pointer (some ad4))] ?_;have hle:=iS imm1;exact xS 0 hat4 [vI x3] (vI x3) rfl<|zZ (hx:=[]) rfl hle rfl (zM rfl) ⟨rfl,rfl⟩
   intro imm1 hf le1;refine zG ?_;rintro _ _ ⟨p61,c61,rfl,rfl,h71⟩;refine zG ?_;rintro _ _ ⟨rfl,rfl⟩;refine zN<|yH [(31,vS p61 x2 c61),(38,vI x3)] ?_;have hle:=iS imm1;refine yR (slices_Contains_int_int_ok x2 x3 _ hy5 h71) ?_;rintro imm03 hs2 v2 k2 le3 - ⟨v03,rfl,rfl,rfl⟩ -;have hle:=hle.trans le3;exact zZ (hx:=[]) rfl hle rfl (zM rfl) ⟨rfl,rfl⟩
 intro imm04 le4;refine zG ?_;rintro _ _ ⟨rfl,rfl⟩;refine zN<|yH [(0,.pointer (some ad)),(1,vI from0),(2,vI to0),(7,vI kinds),(39,.bool y1)] ?_;have h4:=h4.mono le4;have hat:=hat.mono le4;have hle:=hle.trans le4;refine yN rfl<|zE ?_;obtain ⟨o01,ho01,hMc1⟩:=zC hM;refine yU (fun imm' hs' m'=>∃ (kinds1:Int),o01=kinds1∧imm04.le imm'∧hs'=[]∧m'=[(0,.pointer (some ad)),(1,vI from0),(2,vI to0),(7,vI kinds1)]) ?_ ?_
 · have hle:=iS imm04;refine yO ho01 ?_ ?_
   · intro hc1 hM;exact zB<|yA [] [(7,vI (W (kinds + 2)))]<|yT [(0,.pointer (some ad)),(1,vI from0),(2,vI to0),(7,vI (W (kinds + 2)))]<|yB ⟨_,(zD hM).symm,hle,rfl,rfl⟩
   intro hc1 hM;exact yE<|yT [(0,.pointer (some ad)),(1,vI from0),(2,vI to0),(7,vI kinds)]<|yB ⟨_,(zD hM).symm,hle,rfl,rfl⟩
 rintro imm05 hs2 m2 ⟨kinds1,heq1,le5,rfl,rfl⟩;subst o01;have h4:=h4.mono le5;have hat:=hat.mono le5;have hle:=hle.trans le5;refine zE<|zF<|zF<|jF (by kernel_rfl) (by kernel_rfl)<|eU 3 [] [(44,.pointer (some (ad.add 4)))]<|zDa 4 hat [vS p4 t.writes c4] (vS p4 t.writes c4) rfl<|eU 5 [] [(46,vI from0)] ?_;obtain ⟨x4,hy6,hM⟩:=zC hMc1;refine zDb rfl rfl h4 hy6 ?_;intro ad5 ccs4 hat5 hrep4;obtain rfl:=hrep4;refine zDa 0 hat5 [vI x4] (vI x4) rfl<|eU 10 [] [(51,.pointer (some (ad.add 4)))]<|zDa 4 hat [vS p4 t.writes c4] (vS p4 t.writes c4) rfl<|eU 12 [] [(53,vI to0)] ?_;obtain ⟨x5,hy7,hM⟩:=zC hM;refine zDb rfl rfl h4 hy7 ?_;intro ad6 ccs5 hat6 hrep5;obtain rfl:=hrep5;refine zDa 0 hat6 [vI x5] (vI x5) rfl<|zCt [] [(56,.bool (x4 == x5))]<|zE ?_;obtain ⟨o02,ho02,hMc2⟩:=zC hM;refine yU (fun imm' hs' m'=>∃ (kinds2:Int),o02=kinds2∧imm05.le imm'∧hs'=[]∧m'=[(7,vI kinds2)]) ?_ ?_
 · have hle:=iS imm05;refine yO ho02 ?_ ?_
   · intro hc2 hM;exact zB<|yA [] [(7,vI (W (kinds1 + 4)))]<|yT [(7,vI (W (kinds1 + 4)))]<|yB ⟨_,(zD hM).symm,hle,rfl,rfl⟩
   intro hc2 hM;exact yE<|yT [(7,vI kinds1)]<|yB ⟨_,(zD hM).symm,hle,rfl,rfl⟩
 rintro imm06 hs2 m2 ⟨kinds2,heq2,le6,rfl,rfl⟩;subst o02;refine zE<|zF<|zB<|yA [] [(6,vI kinds2)]<|zE<|yJ ?_;obtain rfl:=zD hMc2;exact yQ ⟨_,_,(.tmp rfl ResV.nil),zX,⟨_,rfl,rfl,rfl⟩⟩
def impl_DepBetween_post (r:Int):KT:=fun kk imm' hs' v=>
  ∃ v0,hs'=[]∧v=tupV [v0]∧v0=.int .i64 r
def M.impl_DepBetween (p:zV) (from0:Int) (to0:Int):Option (Int):=do
 let (y1,y2)←jC p
 let t42←(do
   if (!y2) then
    pure true
   else
    let t←y1
    let y3←xV from0 0 (W ((t.list.length:Int) - 1))
    if (!y3) then
     pure true
    else
     let y4←xV to0 0 (W ((t.list.length:Int) - 1))
     if (!y4) then
      pure true
     else
      pure (decide (from0 ≥ to0))
     : Option Bool)
 if t42 then
  pure (id 0)
 else
  let t1←y1
  let y5←M.impl_traced_between t1 from0 to0
  pure (id y5)
theorem impl_DepBetween_ok:∀ (p:zV) (from0:Int) (to0:Int) r,M.impl_DepBetween p from0 to0=some r→∀ {imm:Imm}{p1 c p2 c1},(S4 imm p1 p.Arrays c)→(S4 imm p2 p.Parts c1)→Ret Tryz.prog 19 [vA (cProg p p1 c p2 c1),vI from0,vI to0] imm [] (impl_DepBetween_post  r):=by
 intro p from0 to0 r hM imm p1 c p2 c1 h h1;unfold M.impl_DepBetween at hM;refine yG (fn:=Tryz.f19) (c:=(bodyOf Tryz.f19)) Tryz.func19 rfl rfl ?_;rintro B - -;have hle:=iS imm;refine zF<|zB<|tR (cProg p p1 c p2 c1) ?_;intro b hb;refine yA [] []<|zE<|zF<|zB<|yK 1 [0] [(10,vA (cProg p p1 c p2 c1))] ?_;obtain ⟨⟨y1,y2⟩,hy,hM⟩:=zC hM;refine yR (zHu p _ hy h h1) ?_;rintro imm0 hs2 v2 k2 le - ⟨v0,v01,rfl,rfl,h2,rfl⟩ -;have hle:=hle.trans le;refine yA [] [(7,v0),(8,.bool y2)]<|zE<|zF<|zF ?_;obtain ⟨o0,ho0,hMc⟩:=zC hM;refine yU (fun imm' hs' m'=>∃ (t42:Bool),o0=t42∧imm0.le imm'∧hs'=[]∧m'=[(1,vI from0),(2,vI to0),(7,v0),(42,.bool t42)]) ?_ ?_
 · have hle:=iS imm0;refine zB<|yK 3 [] [(16,.bool (!y2))] ?_;cases hc:(!y2) with
   | true =>
    have hM0:=zW hc ho0
    try rw [hc]
    exact yA [] [(42,.bool true)]<|wD (zK [] rfl (by decide))<|yT [(1,vI from0),(2,vI to0),(7,v0),(42,.bool true)]<|yB ⟨_,(zD hM0).symm,hle,rfl,rfl⟩
   | false =>
    have hM01:=zU hc ho0
    try rw [hc]
    refine yK 5 [] [(17,vI from0),(18,v0)] ?_;obtain ⟨t,hy1,hM⟩:=zC hM01;obtain ⟨ad,ccs,rfl,hat,hrep⟩:=zJZ h2 hy1;obtain ⟨v02,v03,v04,v05,v06,rfl,h4,h5,h6,h7,h8⟩:=zGq hrep;obtain ⟨p3,c2,rfl⟩:=h4.form;obtain ⟨p4,c3,rfl⟩:=h5.form;obtain ⟨p5,c4,rfl⟩:=h6.form;obtain ⟨p6,c5,rfl⟩:=h7.form;obtain ⟨p7,c6,rfl⟩:=h8.form;refine yK 7 [] [(20,.pointer (some (ad.add 2)))]<|xS 2 hat [vS p5 t.list c4] (vS p5 t.list c4) rfl<|yK 10 [] [(23,vI (W ((t.list.length:Int) - 1)))] ?_;obtain ⟨y3,hy2,hM⟩:=zC hM;refine yR (wN from0 0 (W ((t.list.length:Int) - 1)) _ hy2 ) ?_;rintro imm02 hs2 v2 k2 le1 - ⟨v07,rfl,rfl,rfl⟩ -;have hat:=hat.mono le1;have hle:=hle.trans le1;refine yK 14 [] [(27,.bool (!y3))] ?_;cases hc1:(!y3) with
    | true =>
     have hM02:=zW hc1 hM
     try rw [hc1]
     exact yA [] [(42,.bool true)]<|wD (zK [] rfl (by decide))<|yT [(1,vI from0),(2,vI to0),(7,.pointer (some ad)),(42,.bool true)]<|yB ⟨_,(zD hM02).symm,hle,rfl,rfl⟩
    | false =>
     have hM03:=zU hc1 hM
     try rw [hc1]
     refine yK 18 [] [(28,vI to0),(31,.pointer (some (ad.add 2)))]<|xS 2 hat [vS p5 t.list c4] (vS p5 t.list c4) rfl<|yK 21 [] [(34,vI (W ((t.list.length:Int) - 1)))] ?_;obtain ⟨y4,hy3,hM⟩:=zC hM03;refine yR (wN to0 0 (W ((t.list.length:Int) - 1)) _ hy3 ) ?_;rintro imm03 hs2 v2 k2 le2 - ⟨v08,rfl,rfl,rfl⟩ -;have hle:=hle.trans le2;refine yK 25 [] [(38,.bool (!y4))] ?_;cases hc2:(!y4) with
     | true =>
      have hM04:=zW hc2 hM
      try rw [hc2]
      exact yA [] [(42,.bool true)]<|wD (zK [] rfl (by decide))<|yT [(1,vI from0),(2,vI to0),(7,.pointer (some ad)),(42,.bool true)]<|yB ⟨_,(zD hM04).symm,hle,rfl,rfl⟩
     | false =>
      have hM05:=zU hc2 hM
      try rw [hc2]
      exact yA [] [(42,.bool (decide (from0 ≥ to0)))]<|wD (zK [] rfl (by decide))<|yT [(1,vI from0),(2,vI to0),(7,.pointer (some ad)),(42,.bool (decide (from0 ≥ to0)))]<|yB ⟨_,(zD hM05).symm,hle,rfl,rfl⟩
 rintro imm01 hs2 m2 ⟨t42,heq,le3,rfl,rfl⟩;subst o0;have h2:=h2.mono le3;refine zE<|yO hMc ?_ ?_
 · intro hc3 hM;refine zF<|zB<|yA [] [(6,vI 0)]<|zE<|yJ<|zR ?_;obtain rfl:=zD hM;exact yQ ⟨_,_,(.tmp rfl ResV.nil),zX,⟨_,rfl,rfl,rfl⟩⟩
 intro hc3 hM;refine yE<|zE<|zF<|zB<|yK 3 [] [(43,v0),(44,vI from0),(45,vI to0)] ?_;obtain ⟨t1,hy4,hM⟩:=zC hM;obtain ⟨ad1,ccs1,rfl,hat1,hrep1⟩:=zJZ h2 hy4;obtain ⟨v09,v010,v011,v012,v013,rfl,h11,h12,h13,h14,h15⟩:=zGq hrep1;obtain ⟨p8,c7,rfl⟩:=h11.form;obtain ⟨p9,c8,rfl⟩:=h12.form;obtain ⟨p10,c9,rfl⟩:=h13.form;obtain ⟨p11,c10,rfl⟩:=h14.form;obtain ⟨p12,c11,rfl⟩:=h15.form;obtain ⟨y5,hy5,hM⟩:=zC hM;refine yR (impl_traced_between_ok t1 from0 to0 _ hy5 h11 h12 h13 h14 h15 hat1) ?_;rintro imm04 hs2 v2 k2 le4 - ⟨v014,rfl,rfl,rfl⟩ -;refine yA [] [(6,vI y5)]<|zE<|yJ ?_;obtain rfl:=zD hM;exact yQ ⟨_,_,(.tmp rfl ResV.nil),zX,⟨_,rfl,rfl,rfl⟩⟩
def impl_ProgramInstances_post (r:(List zT)):KT:=fun kk imm' hs' v=>
  ∃ v0,hs'=[]∧v=tupV [v0]∧SL imm' v0 r
def M.impl_ProgramInstances (p:zV):Option ((List zT)):=do
 let (y1,y2)←tV p
 if (!y2) then
  pure ([]:List zT)
 else
  pure (id y1)
theorem impl_ProgramInstances_ok:∀ (p:zV) r,M.impl_ProgramInstances p=some r→∀ {imm:Imm}{p1 c p2 c1},(S4 imm p1 p.Arrays c)→(S4 imm p2 p.Parts c1)→Ret Tryz.prog 24 [vA (cProg p p1 c p2 c1)] imm [] (impl_ProgramInstances_post  r):=by
 intro p r hM imm p1 c p2 c1 h h1;unfold M.impl_ProgramInstances at hM;refine yG (fn:=Tryz.f24) (c:=(bodyOf Tryz.f24)) Tryz.func24 rfl rfl ?_;rintro B - -;refine zF<|zB<|tR (cProg p p1 c p2 c1) ?_;intro b hb;refine yA [] []<|zE<|zF<|zB<|yK 1 [0] [(6,vA (cProg p p1 c p2 c1))] ?_;obtain ⟨⟨y1,y2⟩,hy,hM⟩:=zC hM;refine yR (jX p _ hy h h1) ?_;rintro imm0 hs2 v2 k2 le - ⟨v0,v01,rfl,rfl,h2,rfl⟩ -;obtain ⟨p3,c2,rfl⟩:=h2.form;refine yA [] [(3,vS p3 y1 c2),(4,.bool y2)]<|zE<|zF<|zF<|zB<|yA [] [(11,.bool (!y2))]<|zE<|yO hM ?_ ?_
 · intro hc hM;refine zF<|zB<|yA [] [(2,z0)]<|zE<|yJ<|zR ?_;obtain rfl:=zD hM;exact yQ ⟨_,_,(.tmp rfl ResV.nil),zX,⟨_,rfl,rfl,(SL.nil _)⟩⟩
 intro hc hM;refine yE<|zE<|zF<|zB<|yA [] [(2,vS p3 y1 c2)]<|zE<|yJ ?_;obtain rfl:=zD hM;exact yQ ⟨_,_,(.tmp rfl ResV.nil),zX,⟨_,rfl,rfl,h2⟩⟩
def impl_ProgramValid_post (r:Bool):KT:=fun kk imm' hs' v=>
  ∃ v0,hs'=[]∧v=tupV [v0]∧v0=.bool r
def M.impl_ProgramValid (p:zV):Option (Bool):=do
 let (y1,y2)←tV p
 pure (id y2)
theorem impl_ProgramValid_ok:∀ (p:zV) r,M.impl_ProgramValid p=some r→∀ {imm:Imm}{p1 c p2 c1},(S4 imm p1 p.Arrays c)→(S4 imm p2 p.Parts c1)→Ret Tryz.prog 57 [vA (cProg p p1 c p2 c1)] imm [] (impl_ProgramValid_post  r):=by
 intro p r hM imm p1 c p2 c1 h h1;unfold M.impl_ProgramValid at hM;refine yG (fn:=Tryz.f57) (c:=(bodyOf Tryz.f57)) Tryz.func57 rfl rfl ?_;rintro B - -;refine zF<|zB<|tR (cProg p p1 c p2 c1) ?_;intro b hb;refine yA [] []<|zE<|zF<|zB<|yK 1 [0] [(6,vA (cProg p p1 c p2 c1))] ?_;obtain ⟨⟨y1,y2⟩,hy,hM⟩:=zC hM;refine yR (jX p _ hy h h1) ?_;rintro imm0 hs2 v2 k2 le - ⟨v0,v01,rfl,rfl,h2,rfl⟩ -;obtain ⟨p3,c2,rfl⟩:=h2.form;refine yA [] [(4,.bool y2)]<|zE<|zF<|zB<|yA [] [(2,.bool y2)]<|zE<|yJ ?_;obtain rfl:=zD hM;exact yQ ⟨_,_,(.tmp rfl ResV.nil),zX,⟨_,rfl,rfl,rfl⟩⟩
def impl_PointIn_post (r:Bool):KT:=fun kk imm' hs' v=>
  ∃ v0,hs'=[]∧v=tupV [v0]∧v0=.bool r
theorem impl_PointIn_l1_ok (nest:(List zI)) (p1:(List Int)):∀ (t26:Int) (o:Out Unit (Bool)),pV nest p1 t26=some o→∀ {B}{imm0 imm:Imm}{Q p c p2 c1},imm0.le imm→(S4 imm p2 p1 c1)→(S4 imm p nest c)→(∀ gl a w,¬Q (.goto gl) a w)→(∀ a w,¬Q .outgrown a w)→(∀ (imm':Imm) ,o=(.done ())→imm0.le imm'→T 54 B Q (.exit 0) imm' [] [])→(∀ r imm' hs' m',o=(.ret r)→imm0.le imm'→RS Tryz.prog Tryz.f91 B (impl_PointIn_post  r) imm' hs' m'→T 54 B Q .ret imm' hs' m')→J Tryz.prog 54 B (nav (bodyOf Tryz.f91) [1,1,0,1,0]) Q imm [] [(1,vS p2 p1 c1),(24,vS p nest c),(25,vI (nest.length:Int)),(26,vI t26)]:=by
 refine pV.partial_correctness nest p1 _ ?_;intro self ih t26 o hM B imm0 imm Q p c p2 c1 hle h1 h hg ho hx hr;refine xC hg ho<|zF<|zB<|yA [] [(27,.bool (decide (t26 < (nest.length:Int))))]<|zE<|zF<|yO hM ?_ ?_
 · intro hc3 hM;refine yE<|zE<|zF<|yC<|zF<|zB<|yK 1 [] [(28,vI t26)] ?_;obtain ⟨x,hy2,hM⟩:=zC hM;refine wJ rfl rfl h hy2 ?_;intro ad ccs hat hrep;obtain ⟨v02,v03,rfl,h4,h5⟩:=uJ hrep;obtain ⟨p3,c2,rfl⟩:=h4.form;obtain ⟨p4,c3,rfl⟩:=h5.form;refine xS 0 hat (cLoop x p3 c2 p4 c3) (vA (cLoop x p3 c2 p4 c3)) rfl<|uD zTwo ?_;intro b hb;refine yK 5 [] [(5,vI t26)]<|xJ 0 (cLoop x p3 c2 p4 c3) [hB b (cLoop x p3 c2 p4 c3)] rfl rfl rfl rfl<|yN rfl<|zE<|zF ?_;obtain ⟨l,hy3,hM⟩:=zC hM;obtain ⟨⟨y3,y4⟩,hy4,hM⟩:=zC hM;refine uA [.p (vA (cLoop x p3 c2 p4 c3)) [0],.p (vS p2 p1 c1) [],.p (vI t26) [],.x (fun imm' v hx=>∃ p5 c4,v=vS p5 l c4∧hx=[]∧(S4 imm' p5 l c4)),.q (.tuple ⟨[vI y3,vI y4]⟩),.p (.tuple ⟨[vI y3,vI y4]⟩) [],.p (vI y3) [],.p (vI y4) [],.p (vI y3) []] [[],[],[],[(1,false),(2,false)],[(0,false),(3,false)],[(4,false)],[(5,false)],[(5,false)],[(6,false)]] [hB b (cLoop x p3 c2 p4 c3)] [] [(7,false),(8,false)] (zK [0] rfl (by decide)) ?_ ?_
   · refine Op<|Op<|Op<|Ox ?_<|Oq ?_<|Op<|Op<|Op<|Op<|On
     · intro imm1 hf le1;refine zG ?_;rintro _ _ ⟨rfl,rfl⟩;refine zG ?_;rintro _ _ ⟨rfl,rfl⟩;refine zN<|yH [(33,vS p2 p1 c1),(34,vI t26)] ?_;have hle:=iS imm1;have h1:=h1.mono le1;refine zJS rfl h1 hy3 ?_;intro v04 h6;obtain ⟨p5,c4,rfl⟩:=h6.form;exact zZ (hx:=[]) rfl hle rfl (zM rfl) ⟨_,_,rfl,rfl,h6⟩
     intro imm1 hf le1;refine zG ?_;rintro _ _ ⟨rfl,rfl⟩;refine zG ?_;rintro _ _ ⟨p5,c4,rfl,rfl,h6⟩;refine zN<|yH [(32,vA (cLoop x p3 c2 p4 c3)),(35,vS p5 l c4)] ?_;have hle:=iS imm1;have h4:=h4.mono le1;have h5:=h5.mono le1;refine yR (zBy x l _ hy4 h4 h5 h6) ?_;rintro imm03 hs2 v2 k2 le3 - ⟨v05,v06,rfl,rfl,rfl,rfl⟩ -;have hle:=hle.trans le3;exact zZ (hx:=[]) rfl hle rfl (zM rfl) ⟨rfl,rfl⟩
   intro imm04 le4;refine zG ?_;rintro _ _ ⟨rfl,rfl⟩;refine zG ?_;rintro _ _ ⟨rfl,rfl⟩;refine zN<|yH [(1,vS p2 p1 c1),(5,vI t26),(7,vI y3),(24,vS p nest c),(25,vI (nest.length:Int)),(26,vI t26),(38,vI y4)] ?_;have h1:=h1.mono le4;have h:=h.mono le4;have hle:=hle.trans le4;refine yA [] [(8,vI y4)]<|zE<|zF ?_;obtain ⟨o01,ho01,hMc1⟩:=zC hM;refine yU (fun imm' hs' m'=>∃ (t52:Bool),o01=t52∧imm04.le imm'∧hs'=[]∧m'=[(1,vS p2 p1 c1),(24,vS p nest c),(25,vI (nest.length:Int)),(26,vI t26),(52,.bool t52)]) ?_ ?_
   · have hle:=iS imm04;refine zB<|yK 2 [] [(39,vS p2 p1 c1),(40,vI t26)] ?_;obtain ⟨x1,hy5,hM⟩:=zC ho01;refine wJ rfl rfl h1 hy5 ?_;intro ad1 ccs1 hat1 hrep1;obtain rfl:=hrep1;refine xS 0 hat1 [vI x1] (vI x1) rfl<|yK 7 [] [(45,.bool (decide (x1 < y3)))] ?_;cases hc4:(decide (x1 < y3)) with
     | true =>
      have hM04:=zW hc4 hM
      try rw [hc4]
      exact yA [] [(52,.bool true)]<|wD (zK [] rfl (by decide))<|yT [(1,vS p2 p1 c1),(24,vS p nest c),(25,vI (nest.length:Int)),(26,vI t26),(52,.bool true)]<|yB ⟨_,(zD hM04).symm,hle,rfl,rfl⟩
     | false =>
      have hM05:=zU hc4 hM
      try rw [hc4]
      refine yK 9 [] [(46,vS p2 p1 c1),(47,vI t26)] ?_;obtain ⟨x2,hy6,hM⟩:=zC hM05;refine wJ rfl rfl h1 hy6 ?_;intro ad2 ccs2 hat2 hrep2;obtain rfl:=hrep2;exact xS 0 hat2 [vI x2] (vI x2) rfl<|yA [] [(52,.bool (decide (x2 ≥ y4)))]<|wD (zK [] rfl (by decide))<|yT [(1,vS p2 p1 c1),(24,vS p nest c),(25,vI (nest.length:Int)),(26,vI t26),(52,.bool (decide (x2 ≥ y4)))]<|yB ⟨_,(zD hM).symm,hle,rfl,rfl⟩
   rintro imm05 hs2 m2 ⟨t52,heq1,le5,rfl,rfl⟩;subst o01;have h1:=h1.mono le5;have h:=h.mono le5;have hle:=hle.trans le5;refine zE<|yO hMc1 ?_ ?_
   · intro hc5 hM;exact zF<|zB<|yA [] [(4,.bool false)]<|zE<|yJ<|yF<|zR<|zR<|hr _ _ _ _ (zD hM).symm hle ⟨_,_,(.tmp rfl ResV.nil),zX,⟨_,rfl,rfl,rfl⟩⟩
   intro hc5 hM;exact yE<|zY<|zE<|zB<|yA [] [(26,vI (W (t26 + 1)))]<|xD<|vQ [(1,vS p2 p1 c1),(24,vS p nest c),(25,vI (nest.length:Int)),(26,vI (W (t26 + 1)))]<|ih (W (t26 + 1)) _ hM hle h1 h hg ho hx hr
 intro hc3 hM;exact xA<|zS<|zS<|yT []<|hx _  (zD hM).symm hle
theorem impl_PointIn_ok:∀ (nest:(List zI)) (p1:(List Int)) r,jU nest p1=some r→∀ {imm:Imm}{p c p2 c1},(S4 imm p nest c)→(S4 imm p2 p1 c1)→Ret Tryz.prog 91 [vS p nest c,vS p2 p1 c1] imm [] (impl_PointIn_post  r):=by
 intro nest p1 r hM imm p c p2 c1 h h1;unfold jU at hM;refine yG (fn:=Tryz.f91) (c:=(bodyOf Tryz.f91)) Tryz.func91 rfl rfl ?_;rintro B - -;have hle:=iS imm;refine zF<|zB<|yA [] []<|zE<|zF<|zF ?_;obtain ⟨o0,ho0,hMc⟩:=zC hM;refine yU (fun imm' hs' m'=>∃ (t23:Bool),o0=t23∧imm.le imm'∧hs'=[]∧m'=[(0,vS p nest c),(1,vS p2 p1 c1),(23,.bool t23)]) ?_ ?_
 · have hle:=iS imm;refine zB<|yK 1 [] [(9,vS p nest c)] ?_;obtain ⟨y,hy,hM⟩:=zC ho0;refine yR (zBx nest _ hy h) ?_;rintro imm01 hs2 v2 k2 le - ⟨v0,rfl,rfl,rfl⟩ -;have h1:=h1.mono le;have hle:=hle.trans le;refine yK 4 [] [(12,.bool (!y))] ?_;cases hc:(!y) with
   | true =>
    have hM0:=zW hc hM
    try rw [hc]
    exact yA [] [(23,.bool true)]<|yT [(0,vS p nest c),(1,vS p2 p1 c1),(23,.bool true)]<|yB ⟨_,(zD hM0).symm,hle,rfl,rfl⟩
   | false =>
    have hM01:=zU hc hM
    try rw [hc]
    refine yK 5 [] [(13,vS p2 p1 c1)] ?_;obtain ⟨y1,hy1,hM⟩:=zC hM01;refine yR (zDK p1 _ hy1 h1) ?_;rintro imm02 hs2 v2 k2 le1 - ⟨v01,rfl,rfl,rfl⟩ -;have hle:=hle.trans le1;refine yK 9 [] [(17,.bool (!y1))] ?_;cases hc1:(!y1) with
    | true =>
     have hM02:=zW hc1 hM
     try rw [hc1]
     exact yA [] [(23,.bool true)]<|yT [(0,vS p nest c),(1,vS p2 p1 c1),(23,.bool true)]<|yB ⟨_,(zD hM02).symm,hle,rfl,rfl⟩
    | false =>
     have hM03:=zU hc1 hM
     try rw [hc1]
     exact yA [] [(23,.bool ((p1.length:Int) != (nest.length:Int)))]<|yT [(0,vS p nest c),(1,vS p2 p1 c1),(23,.bool ((p1.length:Int) != (nest.length:Int)))]<|yB ⟨_,(zD hM03).symm,hle,rfl,rfl⟩
 rintro imm0 hs2 m2 ⟨t23,heq,le2,rfl,rfl⟩;subst o0;have h:=h.mono le2;have h1:=h1.mono le2;refine zE<|yO hMc ?_ ?_
 · intro hc2 hM;refine zF<|zB<|yA [] [(4,.bool false)]<|zE<|yJ<|zR ?_;obtain rfl:=zD hM;exact yQ ⟨_,_,(.tmp rfl ResV.nil),zX,⟨_,rfl,rfl,rfl⟩⟩
 intro hc2 hM;refine yE<|zE<|zF<|zF<|zB<|yA [] [(24,vS p nest c),(25,vI (nest.length:Int)),(26,vI 0)]<|zE<|yC<|vQ [(1,vS p2 p1 c1),(24,vS p nest c),(25,vI (nest.length:Int)),(26,vI 0)] ?_;obtain ⟨o02,ho02,hMl⟩:=zC hM;refine impl_PointIn_l1_ok nest p1 0 o02 ho02 iR h1 h (fun _ _ _ h=>h) (fun _ _ h=>h) ?_ ?_
 · intro imm06  heq2 le6;subst o02;refine yD<|zE<|zF<|zB<|yA [] [(4,.bool true)]<|zE<|yJ ?_;obtain rfl:=zD hMl;exact yQ ⟨_,_,(.tmp rfl ResV.nil),zX,⟨_,rfl,rfl,rfl⟩⟩
 intro r0 imm9 hs9 m9 heq9 le9 hrs9;subst heq9;refine yF<|zR ?_;obtain rfl:=zD hMl;exact yQ hrs9
def impl_Program_isInstance_post (r:Bool):KT:=fun kk imm' hs' v=>
  ∃ v0,hs'=[]∧v=tupV [v0]∧v0=.bool r
def M.impl_Program_isInstance (p:zV) (x:zT):Option (Bool):=do
 let t4←(do
   let y←xV x.Part 0 (W ((p.Parts.length:Int) - 1))
   if y then
    let x1←idx p.Parts x.Part
    let y1←xV x.Stmt 0 (W ((x1.Body.length:Int) - 1))
    if y1 then
     let x2←idx p.Parts x.Part
     let y2←jU x2.Nest x.Point
     pure (id y2)
    else
     pure false
   else
    pure false
     : Option Bool)
 pure (id t4)
theorem impl_Program_isInstance_ok:∀ (p:zV) (x:zT) r,M.impl_Program_isInstance p x=some r→∀ {imm:Imm}{p1 c p2 c1 p3 c2},(S4 imm p1 p.Arrays c)→(S4 imm p2 p.Parts c1)→(S4 imm p3 x.Point c2)→Ret Tryz.prog 58 [vA (cProg p p1 c p2 c1),vA (cInst x p3 c2)] imm [] (impl_Program_isInstance_post  r):=by
 intro p x r hM imm p1 c p2 c1 p3 c2 h h1 h2;unfold M.impl_Program_isInstance at hM;refine yG (fn:=Tryz.f58) (c:=(bodyOf Tryz.f58)) Tryz.func58 rfl rfl ?_;rintro B - -;have hle:=iS imm;refine zF<|zB<|tR (cProg p p1 c p2 c1) ?_;intro b hb;refine tR (cInst x p3 c2) ?_;intro b1 hb1;refine yA [] []<|zE<|zF ?_;obtain ⟨o0,ho0,hMc⟩:=zC hM;refine yU (fun imm' hs' m'=>∃ (t4:Bool),o0=t4∧imm.le imm'∧hs'=[]∧m'=[(4,.bool t4)]) ?_ ?_
 · have hle:=iS imm;obtain ⟨y,hy,hM⟩:=zC ho0;cases hc:y with
   | true =>
    have hM0:=zW hc hM;obtain ⟨x1,hy1,hM⟩:=zC hM0;obtain ⟨y1,hy2,hM⟩:=zC hM;cases hc1:y1 with
    | true =>
     have hM01:=zW hc1 hM;obtain ⟨x2,hy3,hM⟩:=zC hM01;obtain ⟨y2,hy4,hM⟩:=zC hM;refine uA [.p (vP b1 0) [],.p (vI x.Part) [0],.p (vP b 1) [],.p (vS p2 p.Parts c1) [1],.p (vI (p.Parts.length:Int)) [],.p (vI (W ((p.Parts.length:Int) - 1))) [],.q (.bool true),.q (.bool true),.p (vP b1 1) [],.p (vI x.Stmt) [0],.p (vP b 1) [],.p (vS p2 p.Parts c1) [1],.p (vP b1 0) [],.p (vI x.Part) [0],.x (fun imm' v hx=>∃ ad p4 c3 p5 c4,v=.pointer (some ad)∧hx=[]∧(At imm' ad (cPart x1 p4 c3 p5 c4))∧(S4 imm' p4 x1.Nest c3)∧(S4 imm' p5 x1.Body c4)),.x (fun imm' v hx=>∃ ad1 p41 c31 p51 c41,v=.pointer (some (ad1.add 1))∧hx=[]∧(At imm' ad1 (cPart x1 p41 c31 p51 c41))∧(S4 imm' p41 x1.Nest c31)∧(S4 imm' p51 x1.Body c41)),.x (fun imm' v hx=>∃ p511 c411,v=vS p511 x1.Body c411∧hx=[]∧(S4 imm' p511 x1.Body c411)),.q (vI (x1.Body.length:Int)),.p (vI (W ((x1.Body.length:Int) - 1))) [],.q (.bool true),.q (.bool true),.q (.bool true),.p (vP b 1) [],.p (vS p2 p.Parts c1) [1],.p (vP b1 0) [],.p (vI x.Part) [0],.x (fun imm' v hx=>∃ ad2 p6 c5 p7 c6,v=.pointer (some ad2)∧hx=[]∧(At imm' ad2 (cPart x2 p6 c5 p7 c6))∧(S4 imm' p6 x2.Nest c5)∧(S4 imm' p7 x2.Body c6)),.x (fun imm' v hx=>∃ ad21 p61 c51 p71 c61,v=.pointer (some ad21)∧hx=[]∧(At imm' ad21 (cPart x2 p61 c51 p71 c61))∧(S4 imm' p61 x2.Nest c51)∧(S4 imm' p71 x2.Body c61)),.x (fun imm' v hx=>∃ p611 c511,v=vS p611 x2.Nest c511∧hx=[]∧(S4 imm' p611 x2.Nest c511)),.p (vP b1 2) [],.p (vS p3 x.Point c2) [0],.q (.bool y2),.p (.bool y2) []] [[],[(0,false)],[],[(2,false)],[(3,false)],[(4,false)],[(1,false),(5,false)],[(6,false)],[(7,false)],[(7,false),(8,false)],[(7,false)],[(7,false),(10,false)],[(7,false)],[(7,false),(12,false)],[(7,false),(11,false),(13,false)],[(7,false),(14,false)],[(7,false),(15,false)],[(7,false),(16,false)],[(7,false),(17,false)],[(7,false),(9,false),(18,false)],[(7,false),(19,false)],[(20,false)],[(21,false)],[(21,false),(22,false)],[(21,false)],[(21,false),(24,false)],[(21,false),(23,false),(25,false)],[(21,false),(26,false)],[(21,false),(27,false)],[(21,false)],[(21,false),(29,false)],[(21,false),(28,false),(30,false)],[(21,false),(31,false)]] [hB b1 (cInst x p3 c2),hB b (cProg p p1 c p2 c1)] [] [(32,false)] (zK [0,1] rfl (by decide)) ?_ ?_
     · refine Op<|Op<|Op<|Op<|Op<|Op<|Oq ?_<|Oq ?_<|Op<|Op<|Op<|Op<|Op<|Op<|Ox ?_<|Ox ?_<|Ox ?_<|Oq ?_<|Op<|Oq ?_<|Oq ?_<|Oq ?_<|Op<|Op<|Op<|Op<|Ox ?_<|Ox ?_<|Ox ?_<|Op<|Op<|Oq ?_<|Op<|On
       · intro imm1 hf le1;refine zG ?_;rintro _ _ ⟨rfl,rfl⟩;refine zG ?_;rintro _ _ ⟨rfl,rfl⟩;refine zN<|yH [(6,vI x.Part),(10,vI (W ((p.Parts.length:Int) - 1)))] ?_;have hle:=iS imm1;refine yR (wN x.Part 0 (W ((p.Parts.length:Int) - 1)) _ hy ) ?_;rintro imm01 hs2 v2 k2 le - ⟨v0,rfl,rfl,rfl⟩ -;have hle:=hle.trans le;rw [hc];exact zZ (hx:=[]) rfl hle rfl (zM rfl) ⟨rfl,rfl⟩
       · intro imm1 hf le1;refine zG ?_;rintro _ _ ⟨rfl,rfl⟩;refine zN<|yH [(11,.bool true)] ?_;have hle:=iS imm1;exact qV 8 [(12,.bool true)]<|zZ (hx:=[]) rfl hle rfl (zM rfl) ⟨rfl,rfl⟩
       · intro imm1 hf le1;refine zG ?_;rintro _ _ ⟨rfl,rfl⟩;refine zG ?_;rintro _ _ ⟨rfl,rfl⟩;refine zG ?_;rintro _ _ ⟨rfl,rfl⟩;refine zN<|yH [(12,.bool true),(16,vS p2 p.Parts c1),(18,vI x.Part)] ?_;have hle:=iS imm1;have h1:=h1.mono le1;refine wJ rfl rfl h1 hy1 ?_;intro ad ccs hat hrep;obtain ⟨v01,v02,rfl,h4,h5⟩:=wS hrep;obtain ⟨p4,c3,rfl⟩:=h4.form;obtain ⟨p5,c4,rfl⟩:=h5.form;exact zZ (hx:=[]) rfl hle rfl (zM rfl) ⟨_,_,_,_,_,rfl,rfl,hat,h4,h5⟩
       · intro imm1 hf le1;refine zG ?_;rintro _ _ ⟨rfl,rfl⟩;refine zG ?_;rintro _ _ ⟨ad,p4,c3,p5,c4,rfl,rfl,hat,h4,h5⟩;refine zN<|yH [(12,.bool true),(19,.pointer (some ad))] ?_;have hle:=iS imm1;exact qV 16 [(20,.pointer (some (ad.add 1)))]<|zZ (hx:=[]) rfl hle rfl (zM rfl) ⟨_,_,_,_,_,rfl,rfl,hat,h4,h5⟩
       · intro imm1 hf le1;refine zG ?_;rintro _ _ ⟨rfl,rfl⟩;refine zG ?_;rintro _ _ ⟨ad1,p41,c31,p51,c41,rfl,rfl,hat1,h41,h51⟩;refine zN<|yH [(12,.bool true),(20,.pointer (some (ad1.add 1)))] ?_;have hle:=iS imm1;exact xS 1 hat1 [vS p51 x1.Body c41] (vS p51 x1.Body c41) rfl<|zZ (hx:=[]) rfl hle rfl (zM rfl) ⟨_,_,rfl,rfl,h51⟩
       · intro imm1 hf le1;refine zG ?_;rintro _ _ ⟨rfl,rfl⟩;refine zG ?_;rintro _ _ ⟨p511,c411,rfl,rfl,h511⟩;refine zN<|yH [(12,.bool true),(21,vS p511 x1.Body c411)] ?_;have hle:=iS imm1;exact qV 18 [(22,vI (x1.Body.length:Int))]<|zZ (hx:=[]) rfl hle rfl (zM rfl) ⟨rfl,rfl⟩
       · intro imm1 hf le1;refine zG ?_;rintro _ _ ⟨rfl,rfl⟩;refine zG ?_;rintro _ _ ⟨rfl,rfl⟩;refine zG ?_;rintro _ _ ⟨rfl,rfl⟩;refine zN<|yH [(12,.bool true),(14,vI x.Stmt),(23,vI (W ((x1.Body.length:Int) - 1)))] ?_;have hle:=iS imm1;refine yR (wN x.Stmt 0 (W ((x1.Body.length:Int) - 1)) _ hy2 ) ?_;rintro imm02 hs2 v2 k2 le1 - ⟨v03,rfl,rfl,rfl⟩ -;have hle:=hle.trans le1;rw [hc1];exact zZ (hx:=[]) rfl hle rfl (zM rfl) ⟨rfl,rfl⟩
       · intro imm1 hf le1;refine zG ?_;rintro _ _ ⟨rfl,rfl⟩;refine zG ?_;rintro _ _ ⟨rfl,rfl⟩;refine zN<|yH [(12,.bool true),(24,.bool true)] ?_;have hle:=iS imm1;exact qV 21 [(25,.bool true)]<|zZ (hx:=[]) rfl hle rfl (zM rfl) ⟨rfl,rfl⟩
       · intro imm1 hf le1;refine zG ?_;rintro _ _ ⟨rfl,rfl⟩;refine zN<|yH [(25,.bool true)] ?_;have hle:=iS imm1;exact qV 22 [(26,.bool true)]<|zZ (hx:=[]) rfl hle rfl (zM rfl) ⟨rfl,rfl⟩
       · intro imm1 hf le1;refine zG ?_;rintro _ _ ⟨rfl,rfl⟩;refine zG ?_;rintro _ _ ⟨rfl,rfl⟩;refine zG ?_;rintro _ _ ⟨rfl,rfl⟩;refine zN<|yH [(26,.bool true),(28,vS p2 p.Parts c1),(30,vI x.Part)] ?_;have hle:=iS imm1;have h1:=h1.mono le1;refine wJ rfl rfl h1 hy3 ?_;intro ad2 ccs1 hat2 hrep1;obtain ⟨v04,v05,rfl,h7,h8⟩:=wS hrep1;obtain ⟨p6,c5,rfl⟩:=h7.form;obtain ⟨p7,c6,rfl⟩:=h8.form;exact zZ (hx:=[]) rfl hle rfl (zM rfl) ⟨_,_,_,_,_,rfl,rfl,hat2,h7,h8⟩
       · intro imm1 hf le1;refine zG ?_;rintro _ _ ⟨rfl,rfl⟩;refine zG ?_;rintro _ _ ⟨ad2,p6,c5,p7,c6,rfl,rfl,hat2,h7,h8⟩;refine zN<|yH [(26,.bool true),(31,.pointer (some ad2))] ?_;have hle:=iS imm1;exact qV 28 [(32,.pointer (some ad2))]<|zZ (hx:=[]) rfl hle rfl (zM rfl) ⟨_,_,_,_,_,rfl,rfl,hat2,h7,h8⟩
       · intro imm1 hf le1;refine zG ?_;rintro _ _ ⟨rfl,rfl⟩;refine zG ?_;rintro _ _ ⟨ad21,p61,c51,p71,c61,rfl,rfl,hat21,h71,h81⟩;refine zN<|yH [(26,.bool true),(32,.pointer (some ad21))] ?_;have hle:=iS imm1;exact xS 0 hat21 [vS p61 x2.Nest c51] (vS p61 x2.Nest c51) rfl<|zZ (hx:=[]) rfl hle rfl (zM rfl) ⟨_,_,rfl,rfl,h71⟩
       intro imm1 hf le1;refine zG ?_;rintro _ _ ⟨rfl,rfl⟩;refine zG ?_;rintro _ _ ⟨p611,c511,rfl,rfl,h711⟩;refine zG ?_;rintro _ _ ⟨rfl,rfl⟩;refine zN<|yH [(26,.bool true),(33,vS p611 x2.Nest c511),(35,vS p3 x.Point c2)] ?_;have hle:=iS imm1;have h2:=h2.mono le1;refine yR (impl_PointIn_ok x2.Nest x.Point _ hy4 h711 h2) ?_;rintro imm03 hs2 v2 k2 le2 - ⟨v06,rfl,rfl,rfl⟩ -;have hle:=hle.trans le2;exact zZ (hx:=[]) rfl hle rfl (zM rfl) ⟨rfl,rfl⟩
     intro imm04 le3;refine zG ?_;rintro _ _ ⟨rfl,rfl⟩;refine zN<|yH [(37,.bool y2)] ?_;have hle:=hle.trans le3;exact yA [] [(4,.bool y2)]<|wD (zK [] rfl (by decide))<|yT [(4,.bool y2)]<|yB ⟨_,(zD hM).symm,hle,rfl,rfl⟩
    | false =>
     have hM02:=zU hc1 hM;refine uA [.p (vP b1 0) [],.p (vI x.Part) [0],.p (vP b 1) [],.p (vS p2 p.Parts c1) [1],.p (vI (p.Parts.length:Int)) [],.p (vI (W ((p.Parts.length:Int) - 1))) [],.q (.bool true),.q (.bool true),.p (vP b1 1) [],.p (vI x.Stmt) [0],.p (vP b 1) [],.p (vS p2 p.Parts c1) [1],.p (vP b1 0) [],.p (vI x.Part) [0],.x (fun imm' v hx=>∃ ad p4 c3 p5 c4,v=.pointer (some ad)∧hx=[]∧(At imm' ad (cPart x1 p4 c3 p5 c4))∧(S4 imm' p4 x1.Nest c3)∧(S4 imm' p5 x1.Body c4)),.x (fun imm' v hx=>∃ ad1 p41 c31 p51 c41,v=.pointer (some (ad1.add 1))∧hx=[]∧(At imm' ad1 (cPart x1 p41 c31 p51 c41))∧(S4 imm' p41 x1.Nest c31)∧(S4 imm' p51 x1.Body c41)),.x (fun imm' v hx=>∃ p511 c411,v=vS p511 x1.Body c411∧hx=[]∧(S4 imm' p511 x1.Body c411)),.q (vI (x1.Body.length:Int)),.p (vI (W ((x1.Body.length:Int) - 1))) [],.q (.bool false),.q (.bool false),.q (.bool false),.p undef [],.p undef [],.p undef [],.p undef [],.p undef [],.p undef [],.p undef [],.p undef [],.p undef [],.p undef [],.p (.bool false) []] [[],[(0,false)],[],[(2,false)],[(3,false)],[(4,false)],[(1,false),(5,false)],[(6,false)],[(7,false)],[(7,false),(8,false)],[(7,false)],[(7,false),(10,false)],[(7,false)],[(7,false),(12,false)],[(7,false),(11,false),(13,false)],[(7,false),(14,false)],[(7,false),(15,false)],[(7,false),(16,false)],[(7,false),(17,false)],[(7,false),(9,false),(18,false)],[(7,false),(19,false)],[(20,false)],[(21,false)],[(21,false),(22,false)],[(21,false)],[(21,false),(24,false)],[(21,false),(23,false),(25,false)],[(21,false),(26,false)],[(21,false),(27,false)],[(21,false)],[(21,false),(29,false)],[(21,false),(28,false),(30,false)],[(21,false),(31,false)]] [hB b1 (cInst x p3 c2),hB b (cProg p p1 c p2 c1)] [] [(32,false)] (zK [0,1] rfl (by decide)) ?_ ?_
     · refine Op<|Op<|Op<|Op<|Op<|Op<|Oq ?_<|Oq ?_<|Op<|Op<|Op<|Op<|Op<|Op<|Ox ?_<|Ox ?_<|Ox ?_<|Oq ?_<|Op<|Oq ?_<|Oq ?_<|Oq ?_<|Op<|Op<|Op<|Op<|Op<|Op<|Op<|Op<|Op<|Op<|Op<|On
       · intro imm1 hf le1;refine zG ?_;rintro _ _ ⟨rfl,rfl⟩;refine zG ?_;rintro _ _ ⟨rfl,rfl⟩;refine zN<|yH [(6,vI x.Part),(10,vI (W ((p.Parts.length:Int) - 1)))] ?_;have hle:=iS imm1;refine yR (wN x.Part 0 (W ((p.Parts.length:Int) - 1)) _ hy ) ?_;rintro imm01 hs2 v2 k2 le - ⟨v0,rfl,rfl,rfl⟩ -;have hle:=hle.trans le;rw [hc];exact zZ (hx:=[]) rfl hle rfl (zM rfl) ⟨rfl,rfl⟩
       · intro imm1 hf le1;refine zG ?_;rintro _ _ ⟨rfl,rfl⟩;refine zN<|yH [(11,.bool true)] ?_;have hle:=iS imm1;exact qV 8 [(12,.bool true)]<|zZ (hx:=[]) rfl hle rfl (zM rfl) ⟨rfl,rfl⟩
       · intro imm1 hf le1;refine zG ?_;rintro _ _ ⟨rfl,rfl⟩;refine zG ?_;rintro _ _ ⟨rfl,rfl⟩;refine zG ?_;rintro _ _ ⟨rfl,rfl⟩;refine zN<|yH [(12,.bool true),(16,vS p2 p.Parts c1),(18,vI x.Part)] ?_;have hle:=iS imm1;have h1:=h1.mono le1;refine wJ rfl rfl h1 hy1 ?_;intro ad ccs hat hrep;obtain ⟨v01,v02,rfl,h4,h5⟩:=wS hrep;obtain ⟨p4,c3,rfl⟩:=h4.form;obtain ⟨p5,c4,rfl⟩:=h5.form;exact zZ (hx:=[]) rfl hle rfl (zM rfl) ⟨_,_,_,_,_,rfl,rfl,hat,h4,h5⟩
       · intro imm1 hf le1;refine zG ?_;rintro _ _ ⟨rfl,rfl⟩;refine zG ?_;rintro _ _ ⟨ad,p4,c3,p5,c4,rfl,rfl,hat,h4,h5⟩;refine zN<|yH [(12,.bool true),(19,.pointer (some ad))] ?_;have hle:=iS imm1;exact qV 16 [(20,.pointer (some (ad.add 1)))]<|zZ (hx:=[]) rfl hle rfl (zM rfl) ⟨_,_,_,_,_,rfl,rfl,hat,h4,h5⟩
       · intro imm1 hf le1;refine zG ?_;rintro _ _ ⟨rfl,rfl⟩;refine zG ?_;rintro _ _ ⟨ad1,p41,c31,p51,c41,rfl,rfl,hat1,h41,h51⟩;refine zN<|yH [(12,.bool true),(20,.pointer (some (ad1.add 1)))] ?_;have hle:=iS imm1;exact xS 1 hat1 [vS p51 x1.Body c41] (vS p51 x1.Body c41) rfl<|zZ (hx:=[]) rfl hle rfl (zM rfl) ⟨_,_,rfl,rfl,h51⟩
       · intro imm1 hf le1;refine zG ?_;rintro _ _ ⟨rfl,rfl⟩;refine zG ?_;rintro _ _ ⟨p511,c411,rfl,rfl,h511⟩;refine zN<|yH [(12,.bool true),(21,vS p511 x1.Body c411)] ?_;have hle:=iS imm1;exact qV 18 [(22,vI (x1.Body.length:Int))]<|zZ (hx:=[]) rfl hle rfl (zM rfl) ⟨rfl,rfl⟩
       · intro imm1 hf le1;refine zG ?_;rintro _ _ ⟨rfl,rfl⟩;refine zG ?_;rintro _ _ ⟨rfl,rfl⟩;refine zG ?_;rintro _ _ ⟨rfl,rfl⟩;refine zN<|yH [(12,.bool true),(14,vI x.Stmt),(23,vI (W ((x1.Body.length:Int) - 1)))] ?_;have hle:=iS imm1;refine yR (wN x.Stmt 0 (W ((x1.Body.length:Int) - 1)) _ hy2 ) ?_;rintro imm02 hs2 v2 k2 le1 - ⟨v03,rfl,rfl,rfl⟩ -;have hle:=hle.trans le1;rw [hc1];exact zZ (hx:=[]) rfl hle rfl (zM rfl) ⟨rfl,rfl⟩
       · intro imm1 hf le1;refine zG ?_;rintro _ _ ⟨rfl,rfl⟩;refine zG ?_;rintro _ _ ⟨rfl,rfl⟩;refine zN<|yH [(12,.bool true),(24,.bool false)] ?_;have hle:=iS imm1;exact qV 21 [(25,.bool false)]<|zZ (hx:=[]) rfl hle rfl (zM rfl) ⟨rfl,rfl⟩
       intro imm1 hf le1;refine zG ?_;rintro _ _ ⟨rfl,rfl⟩;refine zN<|yH [(25,.bool false)] ?_;have hle:=iS imm1;exact qV 22 [(26,.bool false)]<|zZ (hx:=[]) rfl hle rfl (zM rfl) ⟨rfl,rfl⟩
     intro imm05 le4;refine zG ?_;rintro _ _ ⟨rfl,rfl⟩;refine zN<|yH [(37,.bool false)] ?_;have hle:=hle.trans le4;exact yA [] [(4,.bool false)]<|wD (zK [] rfl (by decide))<|yT [(4,.bool false)]<|yB ⟨_,(zD hM02).symm,hle,rfl,rfl⟩
   | false =>
    have hM03:=zU hc hM;refine uA [.p (vP b1 0) [],.p (vI x.Part) [0],.p (vP b 1) [],.p (vS p2 p.Parts c1) [1],.p (vI (p.Parts.length:Int)) [],.p (vI (W ((p.Parts.length:Int) - 1))) [],.q (.bool false),.q (.bool false),.p undef [],.p undef [],.p undef [],.p undef [],.p undef [],.p undef [],.p undef [],.p undef [],.p undef [],.p undef [],.p undef [],.p undef [],.p (.bool false) [],.p (.bool false) [],.p undef [],.p undef [],.p undef [],.p undef [],.p undef [],.p undef [],.p undef [],.p undef [],.p undef [],.p undef [],.p (.bool false) []] [[],[(0,false)],[],[(2,false)],[(3,false)],[(4,false)],[(1,false),(5,false)],[(6,false)],[(7,false)],[(7,false),(8,false)],[(7,false)],[(7,false),(10,false)],[(7,false)],[(7,false),(12,false)],[(7,false),(11,false),(13,false)],[(7,false),(14,false)],[(7,false),(15,false)],[(7,false),(16,false)],[(7,false),(17,false)],[(7,false),(9,false),(18,false)],[(7,false),(19,false)],[(20,false)],[(21,false)],[(21,false),(22,false)],[(21,false)],[(21,false),(24,false)],[(21,false),(23,false),(25,false)],[(21,false),(26,false)],[(21,false),(27,false)],[(21,false)],[(21,false),(29,false)],[(21,false),(28,false),(30,false)],[(21,false),(31,false)]] [hB b1 (cInst x p3 c2),hB b (cProg p p1 c p2 c1)] [] [(32,false)] (zK [0,1] rfl (by decide)) ?_ ?_
    · refine Op<|Op<|Op<|Op<|Op<|Op<|Oq ?_<|Oq ?_<|Op<|Op<|Op<|Op<|Op<|Op<|Op<|Op<|Op<|Op<|Op<|Op<|Op<|Op<|Op<|Op<|Op<|Op<|Op<|Op<|Op<|Op<|Op<|Op<|Op<|On
      · intro imm1 hf le1;refine zG ?_;rintro _ _ ⟨rfl,rfl⟩;refine zG ?_;rintro _ _ ⟨rfl,rfl⟩;refine zN<|yH [(6,vI x.Part),(10,vI (W ((p.Parts.length:Int) - 1)))] ?_;have hle:=iS imm1;refine yR (wN x.Part 0 (W ((p.Parts.length:Int) - 1)) _ hy ) ?_;rintro imm01 hs2 v2 k2 le - ⟨v0,rfl,rfl,rfl⟩ -;have hle:=hle.trans le;rw [hc];exact zZ (hx:=[]) rfl hle rfl (zM rfl) ⟨rfl,rfl⟩
      intro imm1 hf le1;refine zG ?_;rintro _ _ ⟨rfl,rfl⟩;refine zN<|yH [(11,.bool false)] ?_;have hle:=iS imm1;exact qV 8 [(12,.bool false)]<|zZ (hx:=[]) rfl hle rfl (zM rfl) ⟨rfl,rfl⟩
    intro imm06 le5;refine zG ?_;rintro _ _ ⟨rfl,rfl⟩;refine zN<|yH [(37,.bool false)] ?_;have hle:=hle.trans le5;exact yA [] [(4,.bool false)]<|wD (zK [] rfl (by decide))<|yT [(4,.bool false)]<|yB ⟨_,(zD hM03).symm,hle,rfl,rfl⟩
 rintro imm0 hs2 m2 ⟨t4,heq,le6,rfl,rfl⟩;subst o0;refine zE<|yJ ?_;obtain rfl:=zD hMc;exact yQ ⟨_,_,(.tmp rfl ResV.nil),zX,⟨_,rfl,rfl,rfl⟩⟩
def impl_InstanceCells_post (r:(List Int)×Int×Bool):KT:=fun kk imm' hs' v=>
  ∃ v0 v1 v2,hs'=[]∧v=tupV [v0,v1,v2]∧SL imm' v0 r.1∧v1=.int .i64 r.2.1∧v2=.bool r.2.2
def M.impl_InstanceCells (p:zV) (x:zT):Option ((List Int)×Int×Bool):=do
 let t17←(do
   let y←M.impl_ProgramValid p
   if (!y) then
    pure true
   else
    let y1←M.impl_Program_isInstance p x
    pure (!y1)
     : Option Bool)
 if t17 then
  pure (([]:List Int),0,false)
 else
  let (y3,y4)←sX p x
  pure (y3,y4,true)
theorem impl_InstanceCells_ok:∀ (p:zV) (x:zT) r,M.impl_InstanceCells p x=some r→∀ {imm:Imm}{p1 c p2 c1 p3 c2},(S4 imm p1 p.Arrays c)→(S4 imm p2 p.Parts c1)→(S4 imm p3 x.Point c2)→Ret Tryz.prog 25 [vA (cProg p p1 c p2 c1),vA (cInst x p3 c2)] imm [] (impl_InstanceCells_post  r):=by
 intro p x r hM imm p1 c p2 c1 p3 c2 h h1 h2;unfold M.impl_InstanceCells at hM;refine yG (fn:=Tryz.f25) (c:=(bodyOf Tryz.f25)) Tryz.func25 rfl rfl ?_;rintro B - -;have hle:=iS imm;refine zF<|zB<|tR (cProg p p1 c p2 c1) ?_;intro b hb;refine tR (cInst x p3 c2) ?_;intro b1 hb1;refine yA [] []<|zE<|zF<|zF ?_;obtain ⟨o0,ho0,hMc⟩:=zC hM;refine yU (fun imm' hs' m'=>∃ (t17:Bool),o0=t17∧imm.le imm'∧hs'=[hB b1 (cInst x p3 c2),hB b (cProg p p1 c p2 c1)]∧m'=[(2,vP b 0),(3,vP b1 0),(17,.bool t17)]) ?_ ?_
 · have hle:=iS imm;refine zB<|yK 1 [1] [(9,vA (cProg p p1 c p2 c1))] ?_;obtain ⟨y,hy,hM⟩:=zC ho0;refine yR (impl_ProgramValid_ok p _ hy h h1) ?_;rintro imm01 hs2 v2 k2 le - ⟨v0,rfl,rfl,rfl⟩ -;have h2:=h2.mono le;have h:=h.mono le;have h1:=h1.mono le;have hle:=hle.trans le;refine yK 4 [] [(12,.bool (!y))] ?_;cases hc:(!y) with
   | true =>
    have hM0:=zW hc hM
    try rw [hc]
    exact yA [] [(17,.bool true)]<|yT [(2,vP b 0),(3,vP b1 0),(17,.bool true)]<|yB ⟨_,(zD hM0).symm,hle,rfl,rfl⟩
   | false =>
    have hM01:=zU hc hM
    try rw [hc]
    refine yK 6 [1,0] [(13,vA (cProg p p1 c p2 c1)),(14,vA (cInst x p3 c2))] ?_;obtain ⟨y1,hy1,hM⟩:=zC hM01;refine yR (impl_Program_isInstance_ok p x _ hy1 h h1 h2) ?_;rintro imm02 hs2 v2 k2 le1 - ⟨v01,rfl,rfl,rfl⟩ -;have hle:=hle.trans le1;exact yA [] [(17,.bool (!y1))]<|yT [(2,vP b 0),(3,vP b1 0),(17,.bool (!y1))]<|yB ⟨_,(zD hM).symm,hle,rfl,rfl⟩
 rintro imm0 hs2 m2 ⟨t17,heq,le2,rfl,rfl⟩;subst o0;have h2:=h2.mono le2;have h:=h.mono le2;have h1:=h1.mono le2;refine zE<|yO hMc ?_ ?_
 · intro hc1 hM;refine zF<|zB<|yA [] [(4,z0),(5,vI 0),(6,.bool false)]<|zE<|yJ<|zR ?_;obtain rfl:=zD hM;exact yQ ⟨_,_,(.tmp rfl (.tmp rfl (.tmp rfl ResV.nil))),zX,⟨_,_,_,rfl,rfl,(SL.nil _),rfl,rfl⟩⟩
 intro hc1 hM;refine yE<|zE<|zF<|zB<|yK 2 [1,0] [(19,vA (cProg p p1 c p2 c1)),(20,vA (cInst x p3 c2))] ?_;obtain ⟨⟨y3,y4⟩,hy2,hM⟩:=zC hM;refine yR (fQ p x _ hy2 h h1 h2) ?_;rintro imm03 hs2 v2 k2 le3 - ⟨v02,v03,rfl,rfl,h5,rfl⟩ -;obtain ⟨p4,c3,rfl⟩:=h5.form;refine yA [] [(7,vS p4 y3 c3),(8,vI y4)]<|zE<|zF<|zB<|yA [] [(4,vS p4 y3 c3),(5,vI y4),(6,.bool true)]<|zE<|yJ ?_;obtain rfl:=zD hM;exact yQ ⟨_,_,(.tmp rfl (.tmp rfl (.tmp rfl ResV.nil))),zX,⟨_,_,_,rfl,rfl,h5,rfl,rfl⟩⟩
def spec_l6Has_post (r:Bool):KT:=fun kk imm' hs' v=>
  ∃ v0,hs'=[]∧v=tupV [v0]∧v0=.bool r
def M.spec_l6Has_l1 (list:(List Int)) (n0:Int) (i:Int):Option (Out Unit (Bool)):=do
 if (decide (i < (list.length:Int))) then
  let x←idx list i
  if (x == n0) then
   pure (.ret true)
  else
   M.spec_l6Has_l1 list n0 (W (i + 1))
 else
  pure (.done ())
 partial_fixpoint
theorem spec_l6Has_l1_ok (list:(List Int)) (n0:Int):∀ (i:Int) (o:Out Unit (Bool)),M.spec_l6Has_l1 list n0 i=some o→∀ {B}{imm0 imm:Imm}{Q p c},imm0.le imm→(S4 imm p list c)→(∀ gl a w,¬Q (.goto gl) a w)→(∀ a w,¬Q .outgrown a w)→(∀ (imm':Imm) ,o=(.done ())→imm0.le imm'→T 18 B Q (.exit 0) imm' [] [])→(∀ r imm' hs' m',o=(.ret r)→imm0.le imm'→RS Tryz.prog Tryz.f92 B (spec_l6Has_post  r) imm' hs' m'→T 18 B Q .ret imm' hs' m')→J Tryz.prog 18 B (nav (bodyOf Tryz.f92) [1,0,1,0]) Q imm [] [(0,vS p list c),(1,vI n0),(5,vI i)]:=by
 refine M.spec_l6Has_l1.partial_correctness list n0 _ ?_;intro self ih i o hM B imm0 imm Q p c hle h hg ho hx hr;refine xC hg ho<|zF<|zF<|zB<|yA [] [(9,.bool (decide (i < (list.length:Int))))]<|zE<|yO hM ?_ ?_
 · intro hc hM;refine yE<|zE<|zF<|yC<|zF<|zB<|yK 2 [] [(12,vS p list c),(13,vI i)] ?_;obtain ⟨x,hy,hM⟩:=zC hM;refine wJ rfl rfl h hy ?_;intro ad ccs hat hrep;obtain rfl:=hrep;refine xS 0 hat [vI x] (vI x) rfl<|yA [] [(17,.bool (x == n0))]<|zE<|yO hM ?_ ?_
   · intro hc1 hM;exact zF<|zB<|yA [] [(4,.bool true)]<|zE<|yJ<|yF<|zR<|zR<|hr _ _ _ _ (zD hM).symm hle ⟨_,_,(.tmp rfl ResV.nil),zX,⟨_,rfl,rfl,rfl⟩⟩
   intro hc1 hM;exact yE<|zY<|zE<|zB<|yA [] [(5,vI (W (i + 1)))]<|xD<|vQ [(0,vS p list c),(1,vI n0),(5,vI (W (i + 1)))]<|ih (W (i + 1)) _ hM hle h hg ho hx hr
 intro hc hM;exact xA<|zS<|zS<|yT []<|hx _  (zD hM).symm hle
def M.spec_l6Has (list:(List Int)) (n0:Int):Option (Bool):=do
 match←M.spec_l6Has_l1 list n0 0 with
 | .ret r0=>pure r0
 | .done _ =>
  pure false
theorem spec_l6Has_ok:∀ (list:(List Int)) (n0:Int) r,M.spec_l6Has list n0=some r→∀ {imm:Imm}{p c},(S4 imm p list c)→Ret Tryz.prog 92 [vS p list c,vI n0] imm [] (spec_l6Has_post  r):=by
 intro list n0 r hM imm p c h;unfold M.spec_l6Has at hM;refine yG (fn:=Tryz.f92) (c:=(bodyOf Tryz.f92)) Tryz.func92 rfl rfl ?_;rintro B - -;refine zF<|zB<|yA [] []<|zE<|zF<|zF<|zB<|yA [] [(5,vI 0)]<|zE<|yC<|vQ [(0,vS p list c),(1,vI n0),(5,vI 0)] ?_;obtain ⟨o0,ho0,hMl⟩:=zC hM;refine spec_l6Has_l1_ok list n0 0 o0 ho0 iR h (fun _ _ _ h=>h) (fun _ _ h=>h) ?_ ?_
 · intro imm0  heq le;subst o0;refine yD<|zE<|zF<|zB<|yA [] [(4,.bool false)]<|zE<|yJ ?_;obtain rfl:=zD hMl;exact yQ ⟨_,_,(.tmp rfl ResV.nil),zX,⟨_,rfl,rfl,rfl⟩⟩
 intro r0 imm9 hs9 m9 heq9 le9 hrs9;subst heq9;refine yF<|zR ?_;obtain rfl:=zD hMl;exact yQ hrs9
def spec_l6Kinds_post (r:Int):KT:=fun kk imm' hs' v=>
  ∃ v0,hs'=[]∧v=tupV [v0]∧v0=.int .i64 r
def M.spec_l6Kinds (a0:spec_l6Use) (b:spec_l6Use):Option (Int):=do
 let y←M.spec_l6Has b.reads a0.write
 let n0←(do
   if y then
    pure (W (0 + 1))
   else
    pure (id 0)
     : Option Int)
 let y1←M.spec_l6Has a0.reads b.write
 let n01←(do
   if y1 then
    pure (W (n0 + 2))
   else
    pure (id n0)
     : Option Int)
 let n02←(do
   if (a0.write == b.write) then
    pure (W (n01 + 4))
   else
    pure (id n01)
     : Option Int)
 pure (id n02)
theorem spec_l6Kinds_ok:∀ (a0:spec_l6Use) (b:spec_l6Use) r,M.spec_l6Kinds a0 b=some r→∀ {imm:Imm}{p c p1 c1},(S4 imm p a0.reads c)→(S4 imm p1 b.reads c1)→Ret Tryz.prog 61 [vA [vS p a0.reads c,vI a0.write],vA [vS p1 b.reads c1,vI b.write]] imm [] (spec_l6Kinds_post  r):=by
 intro a0 b r hM imm p c p1 c1 h h1;unfold M.spec_l6Kinds at hM;refine yG (fn:=Tryz.f61) (c:=(bodyOf Tryz.f61)) Tryz.func61 rfl rfl ?_;rintro B - -;have hle:=iS imm;refine zF<|zB<|tR [vS p a0.reads c,vI a0.write] ?_;intro b1 hb;refine tR [vS p1 b.reads c1,vI b.write] ?_;intro b2 hb1;refine yA [] []<|zE<|zF<|zB<|yA [] [(5,vI 0)]<|zE<|zF<|zF<|zB<|yK 4 [0,1] [(7,vS p1 b.reads c1),(9,vI a0.write)] ?_;obtain ⟨y,hy,hM⟩:=zC hM;refine yR (spec_l6Has_ok b.reads a0.write _ hy h1) ?_;rintro imm0 hs2 v2 k2 le - ⟨v0,rfl,rfl,rfl⟩ -;have h:=h.mono le;have hle:=hle.trans le;refine yN rfl<|zE ?_;obtain ⟨o0,ho0,hMc⟩:=zC hM;refine yU (fun imm' hs' m'=>∃ (n0:Int),o0=n0∧imm0.le imm'∧hs'=[hB b2 [vS p1 b.reads c1,vI b.write],hB b1 [vS p a0.reads c,vI a0.write]]∧m'=[(2,vP b1 0),(3,vP b2 0),(5,vI n0)]) ?_ ?_
 · have hle:=iS imm0;refine yO ho0 ?_ ?_
   · intro hc hM;exact zB<|yA [] [(5,vI (W (0 + 1)))]<|yT [(2,vP b1 0),(3,vP b2 0),(5,vI (W (0 + 1)))]<|yB ⟨_,(zD hM).symm,hle,rfl,rfl⟩
   intro hc hM;exact yE<|yT [(2,vP b1 0),(3,vP b2 0),(5,vI 0)]<|yB ⟨_,(zD hM).symm,hle,rfl,rfl⟩
 rintro imm01 hs2 m2 ⟨n0,heq,le1,rfl,rfl⟩;subst o0;have h:=h.mono le1;have hle:=hle.trans le1;refine zE<|zF<|zF<|zB<|yK 4 [1,0] [(14,vS p a0.reads c),(16,vI b.write)] ?_;obtain ⟨y1,hy1,hM⟩:=zC hMc;refine yR (spec_l6Has_ok a0.reads b.write _ hy1 h) ?_;rintro imm02 hs2 v2 k2 le2 - ⟨v01,rfl,rfl,rfl⟩ -;have hle:=hle.trans le2;refine yN rfl<|zE ?_;obtain ⟨o01,ho01,hMc1⟩:=zC hM;refine yU (fun imm' hs' m'=>∃ (n01:Int),o01=n01∧imm02.le imm'∧hs'=[hB b2 [vS p1 b.reads c1,vI b.write],hB b1 [vS p a0.reads c,vI a0.write]]∧m'=[(2,vP b1 0),(3,vP b2 0),(5,vI n01)]) ?_ ?_
 · have hle:=iS imm02;refine yO ho01 ?_ ?_
   · intro hc1 hM;exact zB<|yA [] [(5,vI (W (n0 + 2)))]<|yT [(2,vP b1 0),(3,vP b2 0),(5,vI (W (n0 + 2)))]<|yB ⟨_,(zD hM).symm,hle,rfl,rfl⟩
   intro hc1 hM;exact yE<|yT [(2,vP b1 0),(3,vP b2 0),(5,vI n0)]<|yB ⟨_,(zD hM).symm,hle,rfl,rfl⟩
 rintro imm03 hs2 m2 ⟨n01,heq1,le3,rfl,rfl⟩;subst o01;have hle:=hle.trans le3;refine zE<|zF<|zF<|zB<|yA [1,0] [(24,.bool (a0.write == b.write))]<|zE ?_;obtain ⟨o02,ho02,hMc2⟩:=zC hMc1;refine yU (fun imm' hs' m'=>∃ (n02:Int),o02=n02∧imm03.le imm'∧hs'=[]∧m'=[(5,vI n02)]) ?_ ?_
 · have hle:=iS imm03;refine yO ho02 ?_ ?_
   · intro hc2 hM;exact zB<|yA [] [(5,vI (W (n01 + 4)))]<|wD (zK [] rfl (by decide))<|yT [(5,vI (W (n01 + 4)))]<|yB ⟨_,(zD hM).symm,hle,rfl,rfl⟩
   intro hc2 hM;exact yE<|wD (zK [] rfl (by decide))<|yT [(5,vI n01)]<|yB ⟨_,(zD hM).symm,hle,rfl,rfl⟩
 rintro imm04 hs2 m2 ⟨n02,heq2,le4,rfl,rfl⟩;subst o02;refine zE<|zF<|zB<|yA [] [(4,vI n02)]<|zE<|yJ ?_;obtain rfl:=zD hMc2;exact yQ ⟨_,_,(.tmp rfl ResV.nil),zX,⟨_,rfl,rfl,rfl⟩⟩
end Go.LN
namespace Go.LN
open Go.Proofs
set_option maxRecDepth 20000
def spec_DrawDepBetween_post (r:zV×Int×Int):KT:=fun kk imm' hs' v=>
  ∃ v0 v1 v2,hs'=[]∧v=tupV [v0,v1,v2]∧(∃ cs,v0=.agg ⟨cs⟩∧Rp.rep imm' cs r.1)∧v1=.int .i64 r.2.1∧v2=.int .i64 r.2.2
def M.spec_DrawDepBetween (code:(List UInt8)):Option (zV×Int×Int):=do
 let y←mH code
 let (y2,y3)←kI y
 let (y5,y6)←qD y3 y2
 let (y8,y9)←M.spec_l6Index y6 y5
 let (y11,y12)←M.spec_l6Index y9 y5
 pure (y5,y8,y11)
theorem spec_DrawDepBetween_ok:∀ (code:(List UInt8)) r,M.spec_DrawDepBetween code=some r→∀ {imm:Imm}{p c},(S4 imm p code c)→Ret Tryz.prog 30 [vS p code c] imm [] (spec_DrawDepBetween_post  r):=by
 intro code r hM imm p c h;unfold M.spec_DrawDepBetween at hM;refine yG (fn:=Tryz.f30) (c:=(bodyOf Tryz.f30)) Tryz.func30 rfl rfl ?_;rintro B - -;have hle:=iS imm;refine zF<|zB<|uD zTwo ?_;intro b hb;refine yA [] []<|zE<|zF<|zB<|yK 1 [] [(8,vS p code c)] ?_;obtain ⟨y,hy,hM⟩:=zC hM;refine yR (zHG code _ hy h) ?_;rintro imm0 hs2 v2 k2 le - ⟨b1,p1,c1,rfl,rfl,h1⟩ -;have hle:=hle.trans le;refine yA [] [(5,vP b1 0)]<|zE<|zF<|zB<|yK 2 [] [(10,vP b1 0),(11,vP b1 0)] ?_;obtain ⟨⟨y2,y3⟩,hy1,hM⟩:=zC hM;refine sD [hB b1 (cRd y p1 c1)] [hB b zTwo] (zHb y _ hy1 h1) ?_;rintro imm01 hs2 v2 k2 le1 - ⟨v0,kk,rfl,rfl,⟨cs,rfl,h2⟩,h3⟩ -;have hle:=hle.trans le1;obtain ⟨v01,v02,rfl,h4,h5⟩:=zG6 h2;obtain ⟨p2,c2,rfl⟩:=h4.form;obtain ⟨p3,c3,rfl⟩:=h5.form;obtain ⟨v03,rfl,h6⟩:=yI h3;obtain ⟨p4,c4,rfl⟩:=h6.form;obtain ⟨⟨y5,y6⟩,hy2,hM⟩:=zC hM;refine sD [hB b1 (cRd y3 p4 c4)] [hB b zTwo] (zGs y3 y2 _ hy2 h6 h4 h5) ?_;rintro imm02 hs2 v2 k2 le2 - ⟨v04,kk1,rfl,rfl,⟨cs1,rfl,h7⟩,h8⟩ -;have hle:=hle.trans le2;obtain ⟨v05,v06,rfl,h9,h10⟩:=zG6 h7;obtain ⟨p5,c5,rfl⟩:=h9.form;obtain ⟨p6,c6,rfl⟩:=h10.form;obtain ⟨v07,rfl,h11⟩:=yI h8;obtain ⟨p7,c7,rfl⟩:=h11.form;refine uD zTwo ?_;intro b2 hb1;refine xJ 0 (cProg y5 p5 c5 p6 c6) [hB b2 (cProg y5 p5 c5 p6 c6),hB b1 (cRd y6 p7 c7),hB b zTwo] rfl rfl rfl rfl<|yN rfl<|zE<|zF<|zB<|yK 2 [0] [(14,vP b1 0),(15,vA (cProg y5 p5 c5 p6 c6))]<|rX (zK [1,0,2] (hs':=[hB b1 (cRd y6 p7 c7),hB b2 (cProg y5 p5 c5 p6 c6),hB b zTwo]) rfl (by decide)) ?_;obtain ⟨⟨y8,y9⟩,hy3,hM⟩:=zC hM;refine sD [hB b1 (cRd y6 p7 c7)] [hB b2 (cProg y5 p5 c5 p6 c6),hB b zTwo] (spec_l6Index_ok y6 y5 _ hy3 h11 h9 h10) ?_;rintro imm03 hs2 v2 k2 le3 - ⟨v08,kk2,rfl,rfl,rfl,h13⟩ -;have h9:=h9.mono le3;have h10:=h10.mono le3;have hle:=hle.trans le3;obtain ⟨v09,rfl,h14⟩:=yI h13;obtain ⟨p8,c8,rfl⟩:=h14.form;refine yA [] [(7,vI y8)]<|zE<|zF ?_;obtain ⟨⟨y11,y12⟩,hy4,hM⟩:=zC hM;refine uA [.p (vA (cProg y5 p5 c5 p6 c6)) [0],.p (vI y8) [],.p (vP b1 0) [],.p (vA (cProg y5 p5 c5 p6 c6)) [0],.x (fun imm' v hx=>∃ p9 c9,v=vI y11∧hx=[hB b1 (cRd y12 p9 c9)]∧(S4 imm' p9 y12.b c9)),.x (fun imm' v hx=>hx=[hB b (cProg y5 p5 c5 p6 c6)]),.p (vI y8) []] [[],[],[],[],[(2,false),(3,false),(8,true)],[(0,false),(9,true)],[(1,false)]] [hB b2 (cProg y5 p5 c5 p6 c6)] [[hB b1 (cRd y9 p8 c8)],[hB b zTwo]] [(4,true),(5,true),(6,false)] (zK [1,0,2] rfl (by decide)) ?_ ?_
 · refine Op<|Op<|Op<|Op<|Ox ?_<|Ox ?_<|Op<|On
   · intro imm1 hf le1;refine zG ?_;rintro _ _ ⟨rfl,rfl⟩;refine zG ?_;rintro _ _ ⟨rfl,rfl⟩;refine zG ?_;rintro _ _ rfl;refine zN<|yH [(19,vP b1 0),(20,vA (cProg y5 p5 c5 p6 c6))] ?_;have hle:=iS imm1;have h14:=h14.mono le1;have h9:=h9.mono le1;have h10:=h10.mono le1;refine sD [hB b1 (cRd y9 p8 c8)] (hB b2 (cProg y5 p5 c5 p6 c6)::hf) (spec_l6Index_ok y9 y5 _ hy4 h14 h9 h10) ?_;rintro imm04 hs2 v2 k2 le4 - ⟨v010,kk3,rfl,rfl,rfl,h16⟩ -;have hle:=hle.trans le4;obtain ⟨v011,rfl,h17⟩:=yI h16;obtain ⟨p9,c9,rfl⟩:=h17.form;exact zZ (hx:=[hB b1 (cRd y12 p9 c9)]) rfl hle rfl (zM rfl) ⟨_,_,rfl,rfl,h17⟩
   intro imm1 hf le1;refine zG ?_;rintro _ _ ⟨rfl,rfl⟩;refine zG ?_;rintro _ _ rfl;refine zN<|yH [(2,vP b 0),(17,vA (cProg y5 p5 c5 p6 c6))] ?_;have hle:=iS imm1;exact xJ 0 (cProg y5 p5 c5 p6 c6) (hB b (cProg y5 p5 c5 p6 c6)::hB b2 (cProg y5 p5 c5 p6 c6)::hf) rfl rfl rfl rfl<|zZ (hx:=[hB b (cProg y5 p5 c5 p6 c6)]) rfl hle rfl (zF3 (v:=undef)) rfl
 intro imm05 le5;refine zG ?_;rintro _ _ ⟨p9,c9,rfl,rfl,h17⟩;refine zG ?_;rintro _ _ rfl;refine zG ?_;rintro _ _ ⟨rfl,rfl⟩;refine zN<|yH [(2,vP b 0),(3,vI y8),(21,vI y11)] ?_;have h9:=h9.mono le5;have h10:=h10.mono le5;refine yA [] [(4,vI y11)]<|zE<|yJ ?_;obtain rfl:=zD hM;exact yQ ⟨_,_,(.cell 0 rfl rfl (by kernel_rfl) (.tmp rfl (.tmp rfl ResV.nil))),zX,⟨_,_,_,rfl,rfl,⟨_,rfl,(nH ⟨_,_,rfl,h9,h10⟩)⟩,rfl,rfl⟩⟩
def spec_DepBetween_post (r:Int):KT:=fun kk imm' hs' v=>
  ∃ v0,hs'=[]∧v=tupV [v0]∧v0=.int .i64 r
def M.spec_DepBetween (p:zV) (from0:Int) (to0:Int):Option (Int):=do
 let y←tK p
 if (!y) then
  pure (id 0)
 else
  let y1←M.spec_l6Uses p
  let t25←(do
    if (decide (from0 < 0)) then
     pure true
    else
     if (decide (from0 ≥ to0)) then
      pure true
     else
      pure (decide (to0 ≥ (y1.length:Int)))
      : Option Bool)
  if t25 then
   pure (id 0)
  else
   let x←idx y1 from0
   let x1←idx y1 to0
   let y2←M.spec_l6Kinds x x1
   pure (id y2)
theorem spec_DepBetween_ok:∀ (p:zV) (from0:Int) (to0:Int) r,M.spec_DepBetween p from0 to0=some r→∀ {imm:Imm}{p1 c p2 c1},(S4 imm p1 p.Arrays c)→(S4 imm p2 p.Parts c1)→Ret Tryz.prog 31 [vA (cProg p p1 c p2 c1),vI from0,vI to0] imm [] (spec_DepBetween_post  r):=by
 intro p from0 to0 r hM imm p1 c p2 c1 h h1;unfold M.spec_DepBetween at hM;refine yG (fn:=Tryz.f31) (c:=(bodyOf Tryz.f31)) Tryz.func31 rfl rfl ?_;rintro B - -;have hle:=iS imm;refine zF<|zB<|tR (cProg p p1 c p2 c1) ?_;intro b hb;refine yA [] []<|zE<|zF<|zF<|zB<|yK 1 [0] [(8,vA (cProg p p1 c p2 c1))] ?_;obtain ⟨y,hy,hM⟩:=zC hM;refine yR (dT p _ hy h h1) ?_;rintro imm0 hs2 v2 k2 le - ⟨v0,rfl,rfl,rfl⟩ -;have h:=h.mono le;have h1:=h1.mono le;have hle:=hle.trans le;refine yA [] [(10,.bool (!y))]<|zE<|yO hM ?_ ?_
 · intro hc hM;refine zF<|zB<|yA [] [(6,vI 0)]<|zE<|yJ<|zR ?_;obtain rfl:=zD hM;exact yQ ⟨_,_,(.tmp rfl ResV.nil),zX,⟨_,rfl,rfl,rfl⟩⟩
 intro hc hM;refine yE<|zE<|zF<|zB<|yK 1 [0] [(11,vA (cProg p p1 c p2 c1))] ?_;obtain ⟨y1,hy1,hM⟩:=zC hM;refine yR (spec_l6Uses_ok p _ hy1 h h1) ?_;rintro imm01 hs2 v2 k2 le1 - ⟨v01,rfl,rfl,h3⟩ -;have hle:=hle.trans le1;obtain ⟨p3,c2,rfl⟩:=h3.form;refine yA [] [(7,vS p3 y1 c2)]<|zE<|zF<|zF ?_;obtain ⟨o0,ho0,hMc⟩:=zC hM;refine yU (fun imm' hs' m'=>∃ (t25:Bool),o0=t25∧imm01.le imm'∧hs'=[]∧m'=[(1,vI from0),(2,vI to0),(7,vS p3 y1 c2),(25,.bool t25)]) ?_ ?_
 · have hle:=iS imm01;refine zB<|yK 3 [] [(15,.bool (decide (from0 < 0)))] ?_;cases hc1:(decide (from0 < 0)) with
   | true =>
    have hM0:=zW hc1 ho0
    try rw [hc1]
    exact yA [] [(25,.bool true)]<|wD (zK [] rfl (by decide))<|yT [(1,vI from0),(2,vI to0),(7,vS p3 y1 c2),(25,.bool true)]<|yB ⟨_,(zD hM0).symm,hle,rfl,rfl⟩
   | false =>
    have hM01:=zU hc1 ho0
    try rw [hc1]
    refine yK 8 [] [(20,.bool (decide (from0 ≥ to0)))] ?_;cases hc2:(decide (from0 ≥ to0)) with
    | true =>
     have hM02:=zW hc2 hM01
     try rw [hc2]
     exact yA [] [(25,.bool true)]<|wD (zK [] rfl (by decide))<|yT [(1,vI from0),(2,vI to0),(7,vS p3 y1 c2),(25,.bool true)]<|yB ⟨_,(zD hM02).symm,hle,rfl,rfl⟩
    | false =>
     have hM03:=zU hc2 hM01
     try rw [hc2]
     exact yA [] [(25,.bool (decide (to0 ≥ (y1.length:Int))))]<|wD (zK [] rfl (by decide))<|yT [(1,vI from0),(2,vI to0),(7,vS p3 y1 c2),(25,.bool (decide (to0 ≥ (y1.length:Int))))]<|yB ⟨_,(zD hM03).symm,hle,rfl,rfl⟩
 rintro imm02 hs2 m2 ⟨t25,heq,le2,rfl,rfl⟩;subst o0;have h3:=h3.mono le2;have hle:=hle.trans le2;refine zE<|yO hMc ?_ ?_
 · intro hc3 hM;refine zF<|zB<|yA [] [(6,vI 0)]<|zE<|yJ<|zR ?_;obtain rfl:=zD hM;exact yQ ⟨_,_,(.tmp rfl ResV.nil),zX,⟨_,rfl,rfl,rfl⟩⟩
 intro hc3 hM;refine yE<|zE<|zF ?_;obtain ⟨x,hy2,hM⟩:=zC hM;obtain ⟨x1,hy3,hM⟩:=zC hM;obtain ⟨y2,hy4,hM⟩:=zC hM;refine uA [.p (vS p3 y1 c2) [],.p (vI from0) [],.x (fun imm' v hx=>∃ ad p4 c3,v=.pointer (some ad)∧hx=[]∧(At imm' ad [vS p4 x.reads c3,vI x.write])∧(S4 imm' p4 x.reads c3)),.x (fun imm' v hx=>∃ p41 c31,v=vA [vS p41 x.reads c31,vI x.write]∧hx=[]∧(S4 imm' p41 x.reads c31)),.p (vS p3 y1 c2) [],.p (vI to0) [],.x (fun imm' v hx=>∃ ad1 p5 c4,v=.pointer (some ad1)∧hx=[]∧(At imm' ad1 [vS p5 x1.reads c4,vI x1.write])∧(S4 imm' p5 x1.reads c4)),.x (fun imm' v hx=>∃ p51 c41,v=vA [vS p51 x1.reads c41,vI x1.write]∧hx=[]∧(S4 imm' p51 x1.reads c41)),.q (vI y2)] [[],[],[(0,false),(1,false)],[(2,false)],[],[],[(4,false),(5,false)],[(6,false)],[(3,false),(7,false)]] [] [] [(8,false)] (zK [] rfl (by decide)) ?_ ?_
 · refine Op<|Op<|Ox ?_<|Ox ?_<|Op<|Op<|Ox ?_<|Ox ?_<|Oq ?_<|On
   · intro imm1 hf le1;refine zG ?_;rintro _ _ ⟨rfl,rfl⟩;refine zG ?_;rintro _ _ ⟨rfl,rfl⟩;refine zN<|yH [(26,vS p3 y1 c2),(27,vI from0)] ?_;have hle:=iS imm1;have h3:=h3.mono le1;refine wJ rfl rfl h3 hy2 ?_;intro ad ccs hat hrep;obtain ⟨v02,rfl,h4⟩:=spec_l6Use_open hrep;obtain ⟨p4,c3,rfl⟩:=h4.form;exact zZ (hx:=[]) rfl hle rfl (zM rfl) ⟨_,_,_,rfl,rfl,hat,h4⟩
   · intro imm1 hf le1;refine zG ?_;rintro _ _ ⟨ad,p4,c3,rfl,rfl,hat,h4⟩;refine zN<|yH [(28,.pointer (some ad))] ?_;have hle:=iS imm1;exact xS 0 hat [vS p4 x.reads c3,vI x.write] (vA [vS p4 x.reads c3,vI x.write]) rfl<|zZ (hx:=[]) rfl hle rfl (zM rfl) ⟨_,_,rfl,rfl,h4⟩
   · intro imm1 hf le1;refine zG ?_;rintro _ _ ⟨rfl,rfl⟩;refine zG ?_;rintro _ _ ⟨rfl,rfl⟩;refine zN<|yH [(30,vS p3 y1 c2),(31,vI to0)] ?_;have hle:=iS imm1;have h3:=h3.mono le1;refine wJ rfl rfl h3 hy3 ?_;intro ad1 ccs1 hat1 hrep1;obtain ⟨v03,rfl,h5⟩:=spec_l6Use_open hrep1;obtain ⟨p5,c4,rfl⟩:=h5.form;exact zZ (hx:=[]) rfl hle rfl (zM rfl) ⟨_,_,_,rfl,rfl,hat1,h5⟩
   · intro imm1 hf le1;refine zG ?_;rintro _ _ ⟨ad1,p5,c4,rfl,rfl,hat1,h5⟩;refine zN<|yH [(32,.pointer (some ad1))] ?_;have hle:=iS imm1;exact xS 0 hat1 [vS p5 x1.reads c4,vI x1.write] (vA [vS p5 x1.reads c4,vI x1.write]) rfl<|zZ (hx:=[]) rfl hle rfl (zM rfl) ⟨_,_,rfl,rfl,h5⟩
   intro imm1 hf le1;refine zG ?_;rintro _ _ ⟨p41,c31,rfl,rfl,h41⟩;refine zG ?_;rintro _ _ ⟨p51,c41,rfl,rfl,h51⟩;refine zN<|yH [(29,vA [vS p41 x.reads c31,vI x.write]),(33,vA [vS p51 x1.reads c41,vI x1.write])] ?_;have hle:=iS imm1;refine yR (spec_l6Kinds_ok x x1 _ hy4 h41 h51) ?_;rintro imm03 hs2 v2 k2 le3 - ⟨v04,rfl,rfl,rfl⟩ -;have hle:=hle.trans le3;exact zZ (hx:=[]) rfl hle rfl (zM rfl) ⟨rfl,rfl⟩
 intro imm04 le4;refine zG ?_;rintro _ _ ⟨rfl,rfl⟩;refine zN<|yH [(34,vI y2)] ?_;refine yA [] [(6,vI y2)]<|zE<|yJ ?_;obtain rfl:=zD hM;exact yQ ⟨_,_,(.tmp rfl ResV.nil),zX,⟨_,rfl,rfl,rfl⟩⟩
def laws_FnDepKinds_post (r:Bool):KT:=fun kk imm' hs' v=>
  ∃ v0,hs'=[]∧v=tupV [v0]∧v0=.bool r
def M.laws_FnDepKinds (code:(List UInt8)):Option (Bool):=do
 if (decide ((code.length:Int) > 1048576)) then
  pure true
 else
  let (y1,y2,y3)←M.spec_DrawDepBetween code
  let y4←M.impl_DepBetween y1 y2 y3
  let y5←M.impl_ProgramInstances y1
  let t50←(do
    let y6←M.spec_DepBetween y1 y2 y3
    if (y4 != y6) then
     pure true
    else
     if (decide (y2 < 0)) then
      pure true
     else
      if (decide (y2 ≥ y3)) then
       pure true
      else
       pure (decide (y3 ≥ (y5.length:Int)))
      : Option Bool)
  if t50 then
   let y7←M.spec_DepBetween y1 y2 y3
   pure (y4 == y7)
  else
   let x←idx y5 y2
   let (y9,y10,y11)←M.impl_InstanceCells y1 x
   let x1←idx y5 y3
   let (y13,y14,y15)←M.impl_InstanceCells y1 x1
   let y16←M.laws_lnHas y13 y10
   let want←(do
     if y16 then
      pure (W (0 + 1))
     else
      pure (id 0)
       : Option Int)
   let y17←M.laws_lnHas y9 y14
   let want1←(do
     if y17 then
      pure (W (want + 2))
     else
      pure (id want)
       : Option Int)
   let want2←(do
     if (y10 == y14) then
      pure (W (want1 + 4))
     else
      pure (id want1)
       : Option Int)
   let t2←(do
     if y11 then
      if y15 then
       pure (y4 == want2)
      else
       pure false
     else
      pure false
       : Option Bool)
   pure (id t2)
theorem laws_FnDepKinds_ok:∀ (code:(List UInt8)) r,M.laws_FnDepKinds code=some r→∀ {imm:Imm}{p c},(S4 imm p code c)→Ret Tryz.prog 8 [vS p code c] imm [] (laws_FnDepKinds_post  r):=by
 intro code r hM imm p c h;unfold M.laws_FnDepKinds at hM;refine yG (fn:=Tryz.f8) (c:=(bodyOf Tryz.f8)) Tryz.func8 rfl rfl ?_;rintro B - -;have hle:=iS imm;refine zF<|zB<|yA [] []<|zE<|zF<|zF<|zB<|yA [] [(17,.bool (decide ((code.length:Int) > 1048576)))]<|zE<|yO hM ?_ ?_
 · intro hc hM;refine zF<|zB<|yA [] [(2,.bool true)]<|zE<|yJ<|zR ?_;obtain rfl:=zD hM;exact yQ ⟨_,_,(.tmp rfl ResV.nil),zX,⟨_,rfl,rfl,rfl⟩⟩
 intro hc hM;refine yE<|zE<|zF<|zB<|yK 1 [] [(19,vS p code c)] ?_;obtain ⟨⟨y1,y2,y3⟩,hy,hM⟩:=zC hM;refine yR (spec_DrawDepBetween_ok code _ hy h) ?_;rintro imm0 hs2 v2 k2 le - ⟨v0,v01,v02,rfl,rfl,⟨cs,rfl,h1⟩,rfl,rfl⟩ -;have hle:=hle.trans le;obtain ⟨v03,v04,rfl,h4,h5⟩:=zG6 h1;obtain ⟨p1,c1,rfl⟩:=h4.form;obtain ⟨p2,c2,rfl⟩:=h5.form;refine yK 6 [] [(21,vA (cProg y1 p1 c1 p2 c2)),(22,vI y2),(23,vI y3)]<|uD zTwo ?_;intro b hb;refine xJ 0 (cProg y1 p1 c1 p2 c2) [hB b (cProg y1 p1 c1 p2 c2)] rfl rfl rfl rfl<|yA [] [(4,vI y2),(5,vI y3)]<|zE<|zF<|zB<|yK 3 [0] [(24,vA (cProg y1 p1 c1 p2 c2)),(25,vI y2),(26,vI y3)] ?_;obtain ⟨y4,hy1,hM⟩:=zC hM;refine yR (impl_DepBetween_ok y1 y2 y3 _ hy1 h4 h5) ?_;rintro imm01 hs2 v2 k2 le1 - ⟨v05,rfl,rfl,rfl⟩ -;have h4:=h4.mono le1;have h5:=h5.mono le1;have hle:=hle.trans le1;refine yA [] [(6,vI y4)]<|zE<|zF<|zB<|yK 1 [0] [(28,vA (cProg y1 p1 c1 p2 c2))] ?_;obtain ⟨y5,hy2,hM⟩:=zC hM;refine yR (impl_ProgramInstances_ok y1 _ hy2 h4 h5) ?_;rintro imm02 hs2 v2 k2 le2 - ⟨v06,rfl,rfl,h7⟩ -;have h4:=h4.mono le2;have h5:=h5.mono le2;have hle:=hle.trans le2;obtain ⟨p3,c3,rfl⟩:=h7.form;refine yA [] [(7,vS p3 y5 c3)]<|zE<|zF<|zF ?_;obtain ⟨o0,ho0,hMc⟩:=zC hM;refine yU (fun imm' hs' m'=>∃ (t50:Bool),o0=t50∧imm02.le imm'∧hs'=[hB b (cProg y1 p1 c1 p2 c2)]∧m'=[(3,vP b 0),(4,vI y2),(5,vI y3),(6,vI y4),(7,vS p3 y5 c3),(50,.bool t50)]) ?_ ?_
 · have hle:=iS imm02;refine zB<|yK 4 [0] [(30,vI y4),(31,vA (cProg y1 p1 c1 p2 c2)),(32,vI y2),(33,vI y3)] ?_;obtain ⟨y6,hy3,hM⟩:=zC ho0;refine yR (spec_DepBetween_ok y1 y2 y3 _ hy3 h4 h5) ?_;rintro imm04 hs2 v2 k2 le3 - ⟨v07,rfl,rfl,rfl⟩ -;have hle:=hle.trans le3;refine yK 7 [] [(36,.bool (y4 != y6))] ?_;cases hc1:(y4 != y6) with
   | true =>
    have hM0:=zW hc1 hM
    try rw [hc1]
    exact yA [] [(50,.bool true)]<|yT [(3,vP b 0),(4,vI y2),(5,vI y3),(6,vI y4),(7,vS p3 y5 c3),(50,.bool true)]<|yB ⟨_,(zD hM0).symm,hle,rfl,rfl⟩
   | false =>
    have hM01:=zU hc1 hM
    try rw [hc1]
    refine yK 11 [] [(40,.bool (decide (y2 < 0)))] ?_;cases hc2:(decide (y2 < 0)) with
    | true =>
     have hM02:=zW hc2 hM01
     try rw [hc2]
     exact yA [] [(50,.bool true)]<|yT [(3,vP b 0),(4,vI y2),(5,vI y3),(6,vI y4),(7,vS p3 y5 c3),(50,.bool true)]<|yB ⟨_,(zD hM02).symm,hle,rfl,rfl⟩
    | false =>
     have hM03:=zU hc2 hM01
     try rw [hc2]
     refine yK 16 [] [(45,.bool (decide (y2 ≥ y3)))] ?_;cases hc3:(decide (y2 ≥ y3)) with
     | true =>
      have hM04:=zW hc3 hM03
      try rw [hc3]
      exact yA [] [(50,.bool true)]<|yT [(3,vP b 0),(4,vI y2),(5,vI y3),(6,vI y4),(7,vS p3 y5 c3),(50,.bool true)]<|yB ⟨_,(zD hM04).symm,hle,rfl,rfl⟩
     | false =>
      have hM05:=zU hc3 hM03
      try rw [hc3]
      exact yA [] [(50,.bool (decide (y3 ≥ (y5.length:Int))))]<|yT [(3,vP b 0),(4,vI y2),(5,vI y3),(6,vI y4),(7,vS p3 y5 c3),(50,.bool (decide (y3 ≥ (y5.length:Int))))]<|yB ⟨_,(zD hM05).symm,hle,rfl,rfl⟩
 rintro imm03 hs2 m2 ⟨t50,heq,le4,rfl,rfl⟩;subst o0;have h7:=h7.mono le4;have h4:=h4.mono le4;have h5:=h5.mono le4;have hle:=hle.trans le4;refine zE<|yO hMc ?_ ?_
 · intro hc4 hM;refine zF<|zB<|yK 4 [0] [(51,vI y4),(52,vA (cProg y1 p1 c1 p2 c2)),(53,vI y2),(54,vI y3)] ?_;obtain ⟨y7,hy4,hM⟩:=zC hM;refine yR (spec_DepBetween_ok y1 y2 y3 _ hy4 h4 h5) ?_;rintro imm05 hs2 v2 k2 le5 - ⟨v08,rfl,rfl,rfl⟩ -;refine yA [] [(2,.bool (y4 == y7))]<|zE<|yJ<|zR ?_;obtain rfl:=zD hM;exact yQ ⟨_,_,(.tmp rfl ResV.nil),zX,⟨_,rfl,rfl,rfl⟩⟩
 intro hc4 hM;refine yE<|zE<|zF ?_;obtain ⟨x,hy5,hM⟩:=zC hM;obtain ⟨⟨y9,y10,y11⟩,hy6,hM⟩:=zC hM;refine uA [.p (vA (cProg y1 p1 c1 p2 c2)) [0],.p (vS p3 y5 c3) [],.p (vI y2) [],.x (fun imm' v hx=>∃ ad p4 c4,v=.pointer (some ad)∧hx=[]∧(At imm' ad (cInst x p4 c4))∧(S4 imm' p4 x.Point c4)),.x (fun imm' v hx=>∃ p41 c41,v=vA (cInst x p41 c41)∧hx=[]∧(S4 imm' p41 x.Point c41)),.x (fun imm' v hx=>∃ p5 c5,v=.tuple ⟨[vS p5 y9 c5,vI y10,.bool y11]⟩∧hx=[]∧(S4 imm' p5 y9 c5)),.x (fun imm' v hx=>∃ p51 c51,v=.tuple ⟨[vS p51 y9 c51,vI y10,.bool y11]⟩∧hx=[]∧(S4 imm' p51 y9 c51)),.x (fun imm' v hx=>∃ p511 c511,v=vS p511 y9 c511∧hx=[]∧(S4 imm' p511 y9 c511)),.q (vI y10),.q (.bool y11),.x (fun imm' v hx=>∃ p5111 c5111,v=vS p5111 y9 c5111∧hx=[]∧(S4 imm' p5111 y9 c5111)),.p (vI y10) []] [[],[],[],[(1,false),(2,false)],[(3,false)],[(0,false),(4,false)],[(5,false)],[(6,false)],[(6,false)],[(6,false)],[(7,false)],[(8,false)]] [hB b (cProg y1 p1 c1 p2 c2)] [] [(9,false),(10,false),(11,false)] (zK [0] rfl (by decide)) ?_ ?_
 · refine Op<|Op<|Op<|Ox ?_<|Ox ?_<|Ox ?_<|Ox ?_<|Ox ?_<|Oq ?_<|Oq ?_<|Ox ?_<|Op<|On
   · intro imm1 hf le1;refine zG ?_;rintro _ _ ⟨rfl,rfl⟩;refine zG ?_;rintro _ _ ⟨rfl,rfl⟩;refine zN<|yH [(59,vS p3 y5 c3),(60,vI y2)] ?_;have hle:=iS imm1;have h7:=h7.mono le1;refine wJ rfl rfl h7 hy5 ?_;intro ad ccs hat hrep;obtain ⟨v09,rfl,h10⟩:=zAm hrep;obtain ⟨p4,c4,rfl⟩:=h10.form;exact zZ (hx:=[]) rfl hle rfl (zM rfl) ⟨_,_,_,rfl,rfl,hat,h10⟩
   · intro imm1 hf le1;refine zG ?_;rintro _ _ ⟨ad,p4,c4,rfl,rfl,hat,h10⟩;refine zN<|yH [(61,.pointer (some ad))] ?_;have hle:=iS imm1;exact xS 0 hat (cInst x p4 c4) (vA (cInst x p4 c4)) rfl<|zZ (hx:=[]) rfl hle rfl (zM rfl) ⟨_,_,rfl,rfl,h10⟩
   · intro imm1 hf le1;refine zG ?_;rintro _ _ ⟨rfl,rfl⟩;refine zG ?_;rintro _ _ ⟨p41,c41,rfl,rfl,h101⟩;refine zN<|yH [(58,vA (cProg y1 p1 c1 p2 c2)),(62,vA (cInst x p41 c41))] ?_;have hle:=iS imm1;have h4:=h4.mono le1;have h5:=h5.mono le1;refine yR (impl_InstanceCells_ok y1 x _ hy6 h4 h5 h101) ?_;rintro imm06 hs2 v2 k2 le6 - ⟨v010,v011,v012,rfl,rfl,h11,rfl,rfl⟩ -;have hle:=hle.trans le6;obtain ⟨p5,c5,rfl⟩:=h11.form;exact zZ (hx:=[]) rfl hle rfl (zM rfl) ⟨_,_,rfl,rfl,h11⟩
   · intro imm1 hf le1;refine zG ?_;rintro _ _ ⟨p5,c5,rfl,rfl,h11⟩;refine zN<|yH [(63,.tuple ⟨[vS p5 y9 c5,vI y10,.bool y11]⟩)] ?_;have hle:=iS imm1;exact qV 7 [(57,.tuple ⟨[vS p5 y9 c5,vI y10,.bool y11]⟩)]<|zZ (hx:=[]) rfl hle rfl (zM rfl) ⟨_,_,rfl,rfl,h11⟩
   · intro imm1 hf le1;refine zG ?_;rintro _ _ ⟨p51,c51,rfl,rfl,h111⟩;refine zN<|yH [(57,.tuple ⟨[vS p51 y9 c51,vI y10,.bool y11]⟩)] ?_;have hle:=iS imm1;exact qV 8 [(64,vS p51 y9 c51)]<|zZ (hx:=[]) rfl hle rfl (zM rfl) ⟨_,_,rfl,rfl,h111⟩
   · intro imm1 hf le1;refine zG ?_;rintro _ _ ⟨p51,c51,rfl,rfl,h111⟩;refine zN<|yH [(57,.tuple ⟨[vS p51 y9 c51,vI y10,.bool y11]⟩)] ?_;have hle:=iS imm1;exact qV 9 [(65,vI y10)]<|zZ (hx:=[]) rfl hle rfl (zM rfl) ⟨rfl,rfl⟩
   · intro imm1 hf le1;refine zG ?_;rintro _ _ ⟨p51,c51,rfl,rfl,h111⟩;refine zN<|yH [(57,.tuple ⟨[vS p51 y9 c51,vI y10,.bool y11]⟩)] ?_;have hle:=iS imm1;exact qV 10 [(66,.bool y11)]<|zZ (hx:=[]) rfl hle rfl (zM rfl) ⟨rfl,rfl⟩
   intro imm1 hf le1;refine zG ?_;rintro _ _ ⟨p511,c511,rfl,rfl,h1111⟩;refine zN<|yH [(64,vS p511 y9 c511)] ?_;have hle:=iS imm1;exact qV 11 [(8,vS p511 y9 c511)]<|zZ (hx:=[]) rfl hle rfl (zM rfl) ⟨_,_,rfl,rfl,h1111⟩
 intro imm07 le7;refine zG ?_;rintro _ _ ⟨rfl,rfl⟩;refine zG ?_;rintro _ _ ⟨p5111,c5111,rfl,rfl,h11111⟩;refine zG ?_;rintro _ _ ⟨rfl,rfl⟩;refine zN<|yH [(3,vP b 0),(5,vI y3),(6,vI y4),(7,vS p3 y5 c3),(8,vS p5111 y9 c5111),(9,vI y10),(66,.bool y11)] ?_;have h7:=h7.mono le7;have h4:=h4.mono le7;have h5:=h5.mono le7;have hle:=hle.trans le7;refine yA [] [(10,.bool y11)]<|zE<|zF ?_;obtain ⟨x1,hy7,hM⟩:=zC hM;obtain ⟨⟨y13,y14,y15⟩,hy8,hM⟩:=zC hM;refine uA [.p (vA (cProg y1 p1 c1 p2 c2)) [0],.p (vS p3 y5 c3) [],.p (vI y3) [],.x (fun imm' v hx=>∃ ad1 p6 c6,v=.pointer (some ad1)∧hx=[]∧(At imm' ad1 (cInst x1 p6 c6))∧(S4 imm' p6 x1.Point c6)),.x (fun imm' v hx=>∃ p61 c61,v=vA (cInst x1 p61 c61)∧hx=[]∧(S4 imm' p61 x1.Point c61)),.x (fun imm' v hx=>∃ p7 c7,v=.tuple ⟨[vS p7 y13 c7,vI y14,.bool y15]⟩∧hx=[]∧(S4 imm' p7 y13 c7)),.x (fun imm' v hx=>∃ p71 c71,v=.tuple ⟨[vS p71 y13 c71,vI y14,.bool y15]⟩∧hx=[]∧(S4 imm' p71 y13 c71)),.x (fun imm' v hx=>∃ p711 c711,v=vS p711 y13 c711∧hx=[]∧(S4 imm' p711 y13 c711)),.q (vI y14),.q (.bool y15),.x (fun imm' v hx=>∃ p7111 c7111,v=vS p7111 y13 c7111∧hx=[]∧(S4 imm' p7111 y13 c7111)),.p (vI y14) []] [[],[],[],[(1,false),(2,false)],[(3,false)],[(0,false),(4,false)],[(5,false)],[(6,false)],[(6,false)],[(6,false)],[(7,false)],[(8,false)]] [hB b (cProg y1 p1 c1 p2 c2)] [] [(9,false),(10,false),(11,false)] (zK [0] rfl (by decide)) ?_ ?_
 · refine Op<|Op<|Op<|Ox ?_<|Ox ?_<|Ox ?_<|Ox ?_<|Ox ?_<|Oq ?_<|Oq ?_<|Ox ?_<|Op<|On
   · intro imm1 hf le1;refine zG ?_;rintro _ _ ⟨rfl,rfl⟩;refine zG ?_;rintro _ _ ⟨rfl,rfl⟩;refine zN<|yH [(69,vS p3 y5 c3),(70,vI y3)] ?_;have hle:=iS imm1;have h7:=h7.mono le1;refine wJ rfl rfl h7 hy7 ?_;intro ad1 ccs1 hat1 hrep1;obtain ⟨v013,rfl,h14⟩:=zAm hrep1;obtain ⟨p6,c6,rfl⟩:=h14.form;exact zZ (hx:=[]) rfl hle rfl (zM rfl) ⟨_,_,_,rfl,rfl,hat1,h14⟩
   · intro imm1 hf le1;refine zG ?_;rintro _ _ ⟨ad1,p6,c6,rfl,rfl,hat1,h14⟩;refine zN<|yH [(71,.pointer (some ad1))] ?_;have hle:=iS imm1;exact xS 0 hat1 (cInst x1 p6 c6) (vA (cInst x1 p6 c6)) rfl<|zZ (hx:=[]) rfl hle rfl (zM rfl) ⟨_,_,rfl,rfl,h14⟩
   · intro imm1 hf le1;refine zG ?_;rintro _ _ ⟨rfl,rfl⟩;refine zG ?_;rintro _ _ ⟨p61,c61,rfl,rfl,h141⟩;refine zN<|yH [(68,vA (cProg y1 p1 c1 p2 c2)),(72,vA (cInst x1 p61 c61))] ?_;have hle:=iS imm1;have h4:=h4.mono le1;have h5:=h5.mono le1;refine yR (impl_InstanceCells_ok y1 x1 _ hy8 h4 h5 h141) ?_;rintro imm08 hs2 v2 k2 le8 - ⟨v014,v015,v016,rfl,rfl,h15,rfl,rfl⟩ -;have hle:=hle.trans le8;obtain ⟨p7,c7,rfl⟩:=h15.form;exact zZ (hx:=[]) rfl hle rfl (zM rfl) ⟨_,_,rfl,rfl,h15⟩
   · intro imm1 hf le1;refine zG ?_;rintro _ _ ⟨p7,c7,rfl,rfl,h15⟩;refine zN<|yH [(73,.tuple ⟨[vS p7 y13 c7,vI y14,.bool y15]⟩)] ?_;have hle:=iS imm1;exact qV 7 [(67,.tuple ⟨[vS p7 y13 c7,vI y14,.bool y15]⟩)]<|zZ (hx:=[]) rfl hle rfl (zM rfl) ⟨_,_,rfl,rfl,h15⟩
   · intro imm1 hf le1;refine zG ?_;rintro _ _ ⟨p71,c71,rfl,rfl,h151⟩;refine zN<|yH [(67,.tuple ⟨[vS p71 y13 c71,vI y14,.bool y15]⟩)] ?_;have hle:=iS imm1;exact qV 8 [(74,vS p71 y13 c71)]<|zZ (hx:=[]) rfl hle rfl (zM rfl) ⟨_,_,rfl,rfl,h151⟩
   · intro imm1 hf le1;refine zG ?_;rintro _ _ ⟨p71,c71,rfl,rfl,h151⟩;refine zN<|yH [(67,.tuple ⟨[vS p71 y13 c71,vI y14,.bool y15]⟩)] ?_;have hle:=iS imm1;exact qV 9 [(75,vI y14)]<|zZ (hx:=[]) rfl hle rfl (zM rfl) ⟨rfl,rfl⟩
   · intro imm1 hf le1;refine zG ?_;rintro _ _ ⟨p71,c71,rfl,rfl,h151⟩;refine zN<|yH [(67,.tuple ⟨[vS p71 y13 c71,vI y14,.bool y15]⟩)] ?_;have hle:=iS imm1;exact qV 10 [(76,.bool y15)]<|zZ (hx:=[]) rfl hle rfl (zM rfl) ⟨rfl,rfl⟩
   intro imm1 hf le1;refine zG ?_;rintro _ _ ⟨p711,c711,rfl,rfl,h1511⟩;refine zN<|yH [(74,vS p711 y13 c711)] ?_;have hle:=iS imm1;exact qV 11 [(11,vS p711 y13 c711)]<|zZ (hx:=[]) rfl hle rfl (zM rfl) ⟨_,_,rfl,rfl,h1511⟩
 intro imm09 le9;refine zG ?_;rintro _ _ ⟨rfl,rfl⟩;refine zG ?_;rintro _ _ ⟨p7111,c7111,rfl,rfl,h15111⟩;refine zG ?_;rintro _ _ ⟨rfl,rfl⟩;refine zN<|yH [(6,vI y4),(8,vS p5111 y9 c5111),(9,vI y10),(10,.bool y11),(11,vS p7111 y13 c7111),(12,vI y14),(76,.bool y15)] ?_;have h11111:=h11111.mono le9;have hle:=hle.trans le9;refine yA [] [(13,.bool y15)]<|zE<|zF<|zB<|yA [] [(14,vI 0)]<|zE<|zF<|zF<|zB<|yK 2 [] [(77,vS p7111 y13 c7111),(78,vI y10)] ?_;obtain ⟨y16,hy9,hM⟩:=zC hM;refine yR (laws_lnHas_ok y13 y10 _ hy9 h15111) ?_;rintro imm010 hs2 v2 k2 le10 - ⟨v017,rfl,rfl,rfl⟩ -;have h11111:=h11111.mono le10;have hle:=hle.trans le10;refine yN rfl<|zE ?_;obtain ⟨o01,ho01,hMc1⟩:=zC hM;refine yU (fun imm' hs' m'=>∃ (want:Int),o01=want∧imm010.le imm'∧hs'=[]∧m'=[(6,vI y4),(8,vS p5111 y9 c5111),(9,vI y10),(10,.bool y11),(12,vI y14),(13,.bool y15),(14,vI want)]) ?_ ?_
 · have hle:=iS imm010;refine yO ho01 ?_ ?_
   · intro hc5 hM;exact zB<|yA [] [(14,vI (W (0 + 1)))]<|wD (zK [] rfl (by decide))<|yT [(6,vI y4),(8,vS p5111 y9 c5111),(9,vI y10),(10,.bool y11),(12,vI y14),(13,.bool y15),(14,vI (W (0 + 1)))]<|yB ⟨_,(zD hM).symm,hle,rfl,rfl⟩
   intro hc5 hM;exact yE<|wD (zK [] rfl (by decide))<|yT [(6,vI y4),(8,vS p5111 y9 c5111),(9,vI y10),(10,.bool y11),(12,vI y14),(13,.bool y15),(14,vI 0)]<|yB ⟨_,(zD hM).symm,hle,rfl,rfl⟩
 rintro imm011 hs2 m2 ⟨want,heq1,le11,rfl,rfl⟩;subst o01;have h11111:=h11111.mono le11;have hle:=hle.trans le11;refine zE<|zF<|zF<|zB<|yK 2 [] [(82,vS p5111 y9 c5111),(83,vI y14)] ?_;obtain ⟨y17,hy10,hM⟩:=zC hMc1;refine yR (laws_lnHas_ok y9 y14 _ hy10 h11111) ?_;rintro imm012 hs2 v2 k2 le12 - ⟨v018,rfl,rfl,rfl⟩ -;have hle:=hle.trans le12;refine yN rfl<|zE ?_;obtain ⟨o02,ho02,hMc2⟩:=zC hM;refine yU (fun imm' hs' m'=>∃ (want1:Int),o02=want1∧imm012.le imm'∧hs'=[]∧m'=[(6,vI y4),(9,vI y10),(10,.bool y11),(12,vI y14),(13,.bool y15),(14,vI want1)]) ?_ ?_
 · have hle:=iS imm012;refine yO ho02 ?_ ?_
   · intro hc6 hM;exact zB<|yA [] [(14,vI (W (want + 2)))]<|yT [(6,vI y4),(9,vI y10),(10,.bool y11),(12,vI y14),(13,.bool y15),(14,vI (W (want + 2)))]<|yB ⟨_,(zD hM).symm,hle,rfl,rfl⟩
   intro hc6 hM;exact yE<|yT [(6,vI y4),(9,vI y10),(10,.bool y11),(12,vI y14),(13,.bool y15),(14,vI want)]<|yB ⟨_,(zD hM).symm,hle,rfl,rfl⟩
 rintro imm013 hs2 m2 ⟨want1,heq2,le13,rfl,rfl⟩;subst o02;have hle:=hle.trans le13;refine zE<|zF<|zF<|zB<|yA [] [(89,.bool (y10 == y14))]<|zE ?_;obtain ⟨o03,ho03,hMc3⟩:=zC hMc2;refine yU (fun imm' hs' m'=>∃ (want2:Int),o03=want2∧imm013.le imm'∧hs'=[]∧m'=[(6,vI y4),(10,.bool y11),(13,.bool y15),(14,vI want2)]) ?_ ?_
 · have hle:=iS imm013;refine yO ho03 ?_ ?_
   · intro hc7 hM;exact zB<|yA [] [(14,vI (W (want1 + 4)))]<|yT [(6,vI y4),(10,.bool y11),(13,.bool y15),(14,vI (W (want1 + 4)))]<|yB ⟨_,(zD hM).symm,hle,rfl,rfl⟩
   intro hc7 hM;exact yE<|yT [(6,vI y4),(10,.bool y11),(13,.bool y15),(14,vI want1)]<|yB ⟨_,(zD hM).symm,hle,rfl,rfl⟩
 rintro imm014 hs2 m2 ⟨want2,heq3,le14,rfl,rfl⟩;subst o03;have hle:=hle.trans le14;refine zE<|zF ?_;obtain ⟨o04,ho04,hMc4⟩:=zC hMc3;refine yU (fun imm' hs' m'=>∃ (t2:Bool),o04=t2∧imm014.le imm'∧hs'=[]∧m'=[(2,.bool t2)]) ?_ ?_
 · have hle:=iS imm014;refine zB<|yK 2 [] [(93,.bool y11)] ?_;cases hc8:y11 with
   | true =>
    have hM06:=zW hc8 ho04
    try rw [hc8]
    refine yK 5 [] [(96,.bool y15)] ?_;cases hc9:y15 with
    | true =>
     have hM07:=zW hc9 hM06
     try rw [hc9]
     exact yA [] [(2,.bool (y4 == want2))]<|yT [(2,.bool (y4 == want2))]<|yB ⟨_,(zD hM07).symm,hle,rfl,rfl⟩
    | false =>
     have hM08:=zU hc9 hM06
     try rw [hc9]
     exact yA [] [(2,.bool false)]<|yT [(2,.bool false)]<|yB ⟨_,(zD hM08).symm,hle,rfl,rfl⟩
   | false =>
    have hM09:=zU hc8 ho04
    try rw [hc8]
    exact yA [] [(2,.bool false)]<|yT [(2,.bool false)]<|yB ⟨_,(zD hM09).symm,hle,rfl,rfl⟩
 rintro imm015 hs2 m2 ⟨t2,heq4,le15,rfl,rfl⟩;subst o04;refine zE<|yJ ?_;obtain rfl:=zD hMc4;exact yQ ⟨_,_,(.tmp rfl ResV.nil),zX,⟨_,rfl,rfl,rfl⟩⟩
end Go.LN
namespace Go.LN
theorem implValidP (P:zV) (h:BG P):M.impl_ProgramValid P=some (validP P):=by
  unfold M.impl_ProgramValid validP;rw [implInstances P h];cases progB P <;> rfl
theorem implInstP (P:zV) (h:BG P):M.impl_ProgramInstances P=some (if validP P then progI P else []):=by
  unfold M.impl_ProgramInstances validP;rw [implInstances P h];cases progB P with
  | false=>rfl
  | true=>cases hd:decide ((progI P).length ≤ 120) <;> simp [hd]
end Go.LN
namespace Go.LN
theorem specInstP (P:zV) (h:BG P):M.spec_ProgramInstances P=some (if validP P then progI P else []):=by
  unfold M.spec_ProgramInstances;rw [specValidP P h];cases hv:validP P with
  | false=>rfl
  | true =>
    obtain ⟨_,v2,v3,_⟩:=zCr hv;have hl:=zFz P v2 v3 _ 0 [] (Nat.zero_add _) (by simp);rw [Int.natCast_zero,List.nil_append] at hl;simp only [Bool.not_true,Bool.false_eq_true,if_false,Option.bind_eq_bind,Option.bind_some,rS,hl,Option.pure_def,id,if_true];rfl
end Go.LN
namespace Go.LN
theorem within_idx {i n:Nat} (h:i < n) (hn:n ≤ 1000000):xV (i:Int) 0 (W ((n:Int) - 1))=some true:=by
  rw [pL,sE (by omega) (by omega)];have h1:(0:Int) ≤ (i:Int):=by omega
  have h2:(i:Int) ≤ (n:Int) - 1:=by omega
  simp [h1,h2]
end Go.LN
namespace Go.LN
theorem cellsV {P:zV} (hb:BG P) (hv:validP P=true) {z:zT} (h:InP P z):M.impl_InstanceCells P z=some (rdI P z,wrI P z,true):=by
  have hpl:=hb.2.1;have hB:(gP P z.Part.toNat).Body.length ≤ 100000:=by
    have hp:=h.part;have hi:z.Part.toNat < P.Parts.length:=by omega
    have hg:gP P z.Part.toNat=P.Parts[z.Part.toNat]:=by simp [gP,hi]
    rw [hg]; exact (hb.2.2 _ (List.getElem_mem hi)).2.1
  have e1:xV z.Part 0 (W ((P.Parts.length:Int) - 1))=some true:=by
    have:=h.part;rw [show z.Part=(z.Part.toNat:Int) by omega];exact within_idx (by omega) (by omega)
  have e2:xV z.Stmt 0 (W (((gP P z.Part.toNat).Body.length:Int) - 1))=some true:=by
    have:=h.stmt;rw [show z.Stmt=(z.Stmt.toNat:Int) by omega];exact within_idx (by omega) (by omega)
  unfold M.impl_InstanceCells M.impl_Program_isInstance;simp only [implValidP P hb,hv,e1,e2,h.idxP,h.pin,touchedV hb hv h,Option.bind_eq_bind,Option.bind_some,Option.pure_def,Bool.not_true,Bool.false_eq_true,if_false,if_true,id]
def useI (P:zV) (z:zT):spec_l6Use:=⟨rdI P z,wrI P z⟩
theorem uses_l1 {P:zV} (hb:BG P) (hv:validP P=true):∀ (j i:Nat) (o:List spec_l6Use),i + j=(progI P).length→o.length=i→M.spec_l6Uses_l1 P (progI P) o (i:Int)=some (o ++ ((progI P).drop i).map (useI P)):=by
  have hlen:=(zCr hv).2.2.2;have hR:=zHr hb hv;intro j
  induction j with
  | zero =>
    intro i o hi ho;rw [M.spec_l6Uses_l1];have:¬((i:Int) < ((progI P).length:Int)):=by omega
    simp only [this,decide_false,Bool.false_eq_true,if_false,Option.pure_def,id];rw [List.drop_eq_nil_iff.2 (by omega),List.map_nil,List.append_nil]
  | succ j ih =>
    intro i o hi ho;rw [M.spec_l6Uses_l1];have hlt:i < (progI P).length:=by omega
    have hc:((i:Int) < ((progI P).length:Int)):=by omega
    have hz:=zJJ hb hv (List.getElem_mem hlt);obtain ⟨d,hd⟩:=hz.st;have hcl:=specCells P.Arrays (stI P (progI P)[i]) (progI P)[i].Point hd hz.bs hz.pt hR;rw [if_pos hz.ok] at hcl;simp only [hc,decide_true,if_true,yZ hlt,hz.idxP,hz.idxS,hcl,Option.bind_eq_bind,Option.bind_some,pD (show (o.length + [spec_l6Use.mk ((readsF 5 (stI P (progI P)[i]).Value).map (cellA P.Arrays (progI P)[i].Point)) (cellA P.Arrays (progI P)[i].Point (stI P (progI P)[i]).Write)].length) * 32 ≤ 140737488355328 by simp; omega)];rw [uY (by omega),ih (i + 1) _ (by omega) (by rw [List.length_append]; simp; omega),List.drop_eq_getElem_cons hlt,List.map_cons,List.append_assoc];rfl
theorem specUses (P:zV) (hb:BG P) (hv:validP P=true):M.spec_l6Uses P=some ((progI P).map (useI P)):=by
  unfold M.spec_l6Uses;have hl:=uses_l1 hb hv _ 0 [] (Nat.zero_add _) rfl;rw [Int.natCast_zero,List.drop_zero,List.nil_append] at hl;simp only [specInsts P hv,hl,Option.bind_eq_bind,Option.bind_some,Option.pure_def,id]
end Go.LN
namespace Go.LN
def hasB (l:List Int) (n:Int):Bool:=l.any (fun x=>x == n)
theorem hasB_cons (x:Int) (l:List Int) (n:Int):hasB (x::l) n=(x == n || hasB l n):=by unfold hasB; rw [List.any_cons]
def kindF (r1:List Int) (w1:Int) (r2:List Int) (w2:Int):Int:=(if hasB r2 w1 then 1 else 0) + (if hasB r1 w2 then 2 else 0) + (if w1 == w2 then 4 else 0)
theorem loop_any {R:Type}{r0:R}{n:Nat}{f:Int→Option (Out Unit R)}{P:Nat→Bool} (step:∀ i,i < n→f (i:Int)=if P i then some (.ret r0) else f ((i + 1:Nat):Int)) (fin:f (n:Int)=some (.done ())):f 0=some (if (List.range n).any P then .ret r0 else .done ()):=by
  have key:∀ (j i:Nat),i + j=n→f (i:Int)=some (if (List.range' i j).any P then .ret r0 else .done ()):=by
    intro j
    induction j with
    | zero=>intro i hi; rw [show i=n by omega,fin]; simp
    | succ j ih =>
      intro i hi;rw [step i (by omega),ih (i + 1) (by omega),List.range'_succ,List.any_cons];cases P i <;> rfl
  have:=key n 0 (Nat.zero_add _);rw [Int.natCast_zero] at this;rw [this,List.range_eq_range']
theorem any_range {α:Type} (l:List α) (P:α→Bool) (d:α):(List.range l.length).any (fun i=>P (l.getD i d))=l.any P:=by
  rw [Bool.eq_iff_iff,List.any_eq_true,List.any_eq_true];constructor
  · rintro ⟨i,hi,h⟩;have hi:=List.mem_range.1 hi;have hg:l.getD i d=l[i]:=by simp [hi]
    rw [hg] at h;exact ⟨_,List.getElem_mem hi,h⟩
  · rintro ⟨x,hx,h⟩;obtain ⟨i,hi,rfl⟩:=List.mem_iff_getElem.1 hx;exact ⟨i,List.mem_range.2 hi,by simpa [hi] using h⟩
end Go.LN
namespace Go.LN
theorem specHas (l:List Int) (n:Int) (hl:l.length ≤ 1048576):M.spec_l6Has l n=some (hasB l n):=by
  unfold M.spec_l6Has;have h:=loop_any (R:=Bool) (r0:=true) (n:=l.length) (f:=M.spec_l6Has_l1 l n) (P:=fun i=>l.getD i 0 == n) (fun i hi=>by
      rw [M.spec_l6Has_l1];have h1:((i:Int) < (l.length:Int)):=by omega
      have hg:l.getD i 0=l[i]:=by simp [hi]
      simp only [h1,decide_true,if_true,yZ hi,Option.bind_eq_bind,Option.bind_some,Option.pure_def,hg];rw [uY (by omega)]) (by rw [M.spec_l6Has_l1]; simp)
  rw [any_range l (fun x=>x == n) 0] at h;rw [h];unfold hasB;cases l.any fun x=>x == n <;> rfl
theorem lnHasV (l:List Int) (n:Int) (hl:l.length ≤ 1048576):M.laws_lnHas l n=some (hasB l n):=by
  unfold M.laws_lnHas;have h:=loop_any (R:=Bool) (r0:=true) (n:=l.length) (f:=M.laws_lnHas_l1 l n) (P:=fun i=>l.getD i 0 == n) (fun i hi=>by
      rw [M.laws_lnHas_l1];have h1:((i:Int) < (l.length:Int)):=by omega
      have hg:l.getD i 0=l[i]:=by simp [hi]
      simp only [h1,decide_true,if_true,yZ hi,Option.bind_eq_bind,Option.bind_some,Option.pure_def,hg];rw [uY (by omega)]) (by rw [M.laws_lnHas_l1]; simp)
  rw [any_range l (fun x=>x == n) 0] at h;rw [h];unfold hasB;cases l.any fun x=>x == n <;> rfl
theorem index_l (l:List Int) (v:Int) (hl:l.length ≤ 1048576):∀ (j i:Nat),i + j=l.length→∃ x,M.slices_Index_int_int_l1 l v (i:Int)=some x∧((hasB (l.drop i) v=true∧∃ k:Nat,x=.ret (k:Int))∨(hasB (l.drop i) v=false∧x=.done ())):=by
  intro j
  induction j with
  | zero =>
    intro i hi;rw [M.slices_Index_int_int_l1];have:¬((i:Int) < (l.length:Int)):=by omega
    refine ⟨_,by simp only [this,decide_false,Bool.false_eq_true,if_false,Option.pure_def],.inr ⟨?_,rfl⟩⟩;rw [List.drop_eq_nil_iff.2 (by omega)]; rfl
  | succ j ih =>
    intro i hi;rw [M.slices_Index_int_int_l1];have hlt:i < l.length:=by omega
    have hc:((i:Int) < (l.length:Int)):=by omega
    rw [List.drop_eq_getElem_cons hlt,hasB_cons];by_cases e:v=l[i]
    · refine ⟨_,by simp only [hc,decide_true,if_true,yZ hlt,Option.bind_eq_bind,Option.bind_some,Option.pure_def,e,beq_self_eq_true],.inl ⟨?_,i,rfl⟩⟩;rw [e,beq_self_eq_true,Bool.true_or]
    · have e1:(v == l[i])=false:=by simpa using e
      have e2:(l[i] == v)=false:=by simpa using fun h=>e h.symm
      obtain ⟨x,hx,hr⟩:=ih (i + 1) (by omega);refine ⟨x,?_,by rw [e2,Bool.false_or]; exact hr⟩;simp only [hc,decide_true,if_true,yZ hlt,Option.bind_eq_bind,Option.bind_some,Option.pure_def,e1,Bool.false_eq_true,if_false];rw [uY (by omega),hx]
theorem containsV (l:List Int) (v:Int) (hl:l.length ≤ 1048576):M.slices_Contains_int_int l v=some (hasB l v):=by
  unfold M.slices_Contains_int_int M.slices_Index_int_int;obtain ⟨x,hx,hr⟩:=index_l l v hl l.length 0 (Nat.zero_add _);rw [Int.natCast_zero] at hx;rw [List.drop_zero] at hr;rw [hx];rcases hr with ⟨h,k,rfl⟩ | ⟨h,rfl⟩
  · have:((k:Int) ≥ 0):=by omega
    simp [h,this]
  · rw [h]; rfl
def zIns (P:zV) (a:Nat):zT:=(progI P).getD a ⟨0,0,[]⟩
theorem zI_get {P:zV}{a:Nat} (h:a < (progI P).length):zIns P a=(progI P)[a]:=by simp [zIns,h]
theorem zI_in {P:zV}{a:Nat} (h:a < (progI P).length):zIns P a ∈ progI P:=by rw [zI_get h]; exact List.getElem_mem h
theorem reads_at {P:zV}{a:Nat} (h:a < (progI P).length):idx ((progI P).map (rdI P)) (a:Int)=some (rdI P (zIns P a)):=by rw [yZ (by rw [List.length_map]; exact h),zI_get h]; simp
theorem writes_at {P:zV}{a:Nat} (h:a < (progI P).length):idx ((progI P).map (wrI P)) (a:Int)=some (wrI P (zIns P a)):=by rw [yZ (by rw [List.length_map]; exact h),zI_get h]; simp
theorem uses_at {P:zV}{a:Nat} (h:a < (progI P).length):idx ((progI P).map (useI P)) (a:Int)=some (useI P (zIns P a)):=by rw [yZ (by rw [List.length_map]; exact h),zI_get h]; simp
def kindI (P:zV) (a b:Nat):Int:=kindF (rdI P (zIns P a)) (wrI P (zIns P a)) (rdI P (zIns P b)) (wrI P (zIns P b))
theorem betweenV {P:zV} (hi:∀ z ∈ progI P,InP P z) {a b:Nat} (ha:a < (progI P).length) (hb:b < (progI P).length):M.impl_traced_between (trcP P) (a:Int) (b:Int)=some (kindI P a b):=by
  have l1:=zJ0 (hi _ (zI_in ha));have l2:=zJ0 (hi _ (zI_in hb));unfold M.impl_traced_between kindI kindF;simp only [trcP,reads_at ha,reads_at hb,writes_at ha,writes_at hb,containsV _ _ (show (rdI P (zIns P a)).length ≤ 1048576 by omega),containsV _ _ (show (rdI P (zIns P b)).length ≤ 1048576 by omega),Option.bind_eq_bind,Option.bind_some,Option.pure_def,id];by_cases e:wrI P (zIns P a)=wrI P (zIns P b)
  · have e1:(wrI P (zIns P a) == wrI P (zIns P b))=true:=by simpa using e
    simp only [e1,if_true];cases hasB (rdI P (zIns P b)) (wrI P (zIns P a)) <;> cases hasB (rdI P (zIns P a)) (wrI P (zIns P b)) <;> rfl
  · have e1:(wrI P (zIns P a) == wrI P (zIns P b))=false:=by simpa using e
    simp only [e1,Bool.false_eq_true,if_false];cases hasB (rdI P (zIns P b)) (wrI P (zIns P a)) <;> cases hasB (rdI P (zIns P a)) (wrI P (zIns P b)) <;> rfl
theorem kindsV {P:zV} (hi:∀ z ∈ progI P,InP P z) {a b:Nat} (ha:a < (progI P).length) (hb:b < (progI P).length):M.spec_l6Kinds (useI P (zIns P a)) (useI P (zIns P b))=some (kindI P a b):=by
  have l1:=zJ0 (hi _ (zI_in ha));have l2:=zJ0 (hi _ (zI_in hb));unfold M.spec_l6Kinds kindI kindF;simp only [useI,specHas _ _ (show (rdI P (zIns P a)).length ≤ 1048576 by omega),specHas _ _ (show (rdI P (zIns P b)).length ≤ 1048576 by omega),Option.bind_eq_bind,Option.bind_some,Option.pure_def,id];by_cases e:wrI P (zIns P a)=wrI P (zIns P b)
  · have e1:(wrI P (zIns P a) == wrI P (zIns P b))=true:=by simpa using e
    simp only [e1,if_true];cases hasB (rdI P (zIns P b)) (wrI P (zIns P a)) <;> cases hasB (rdI P (zIns P a)) (wrI P (zIns P b)) <;> rfl
  · have e1:(wrI P (zIns P a) == wrI P (zIns P b))=false:=by simpa using e
    simp only [e1,Bool.false_eq_true,if_false];cases hasB (rdI P (zIns P b)) (wrI P (zIns P a)) <;> cases hasB (rdI P (zIns P a)) (wrI P (zIns P b)) <;> rfl
def dpb (P:zV) (a b:Int):Int:=if validP P=true∧0 ≤ a∧a < b∧b < ((progI P).length:Int) then kindI P a.toNat b.toNat else 0
theorem implDep (P:zV) (hb:BG P) (a b:Int):M.impl_DepBetween P a b=some (dpb P a b):=by
  unfold M.impl_DepBetween dpb;rw [implTrace P hb];cases hv:validP P with
  | false=>simp
  | true =>
    have hlen:=(zCr hv).2.2.2;have hi:∀ z ∈ progI P,InP P z:=fun z hz=>zJJ hb hv hz;have hW:W (((trcP P).list.length:Int) - 1)=((progI P).length:Int) - 1:=by show W (((progI P).length:Int) - 1)=_; rw [sE (by omega) (by omega)]
    simp only [if_true,Option.bind_eq_bind,Option.bind_some,Option.pure_def,Bool.not_true,Bool.false_eq_true,if_false,pL,hW,true_and,id];by_cases h:0 ≤ a∧a < b∧b < ((progI P).length:Int)
    · rw [if_pos h];obtain ⟨k,rfl⟩:∃ k:Nat,a=(k:Int):=⟨a.toNat,by omega⟩;obtain ⟨m,rfl⟩:∃ m:Nat,b=(m:Int):=⟨b.toNat,by omega⟩;have e1:(0:Int) ≤ (k:Int):=by omega
      have e2:(k:Int) ≤ ((progI P).length:Int) - 1:=by omega
      have e3:(0:Int) ≤ (m:Int):=by omega
      have e4:(m:Int) ≤ ((progI P).length:Int) - 1:=by omega
      have e5:¬((k:Int) ≥ (m:Int)):=by omega
      simp only [e1,e2,e3,e4,e5,decide_true,decide_false,Bool.and_self,Bool.not_true,Bool.false_eq_true,if_false,Option.bind_some,betweenV hi (show k < (progI P).length by omega) (show m < (progI P).length by omega),Int.toNat_natCast]
    · rw [if_neg h];by_cases h1:0 ≤ a∧a ≤ ((progI P).length:Int) - 1
      · by_cases h2:0 ≤ b∧b ≤ ((progI P).length:Int) - 1
        · have e5:a ≥ b:=by omega
          simp only [h1.1,h1.2,h2.1,h2.2,e5,decide_true,Bool.and_self,Bool.not_true,Bool.false_eq_true,if_false,Option.bind_some,if_true]
        · have e4:(!(decide (0 ≤ b) && decide (b ≤ ((progI P).length:Int) - 1)))=true:=by simp; omega
          simp only [h1.1,h1.2,e4,decide_true,Bool.and_self,Bool.not_true,Bool.false_eq_true,if_false,Option.bind_some,if_true]
      · have e4:(!(decide (0 ≤ a) && decide (a ≤ ((progI P).length:Int) - 1)))=true:=by simp; omega
        simp only [e4,Option.bind_some,if_true]
theorem specDep (P:zV) (hb:BG P) (a b:Int):M.spec_DepBetween P a b=some (dpb P a b):=by
  unfold M.spec_DepBetween dpb;rw [specValidP P hb];cases hv:validP P with
  | false=>simp
  | true =>
    have hlen:=(zCr hv).2.2.2;have hi:∀ z ∈ progI P,InP P z:=fun z hz=>zJJ hb hv hz;simp only [specUses P hb hv,Option.bind_eq_bind,Option.bind_some,Option.pure_def,Bool.not_true,Bool.false_eq_true,if_false,true_and,id,List.length_map];by_cases h:0 ≤ a∧a < b∧b < ((progI P).length:Int)
    · rw [if_pos h];obtain ⟨k,rfl⟩:∃ k:Nat,a=(k:Int):=⟨a.toNat,by omega⟩;obtain ⟨m,rfl⟩:∃ m:Nat,b=(m:Int):=⟨b.toNat,by omega⟩;have hk:k < (progI P).length:=by omega
      have hm:m < (progI P).length:=by omega
      have e1:¬((k:Int) < 0):=by omega
      have e2:¬((k:Int) ≥ (m:Int)):=by omega
      have e3:¬((m:Int) ≥ ((progI P).length:Int)):=by omega
      simp only [e1,e2,e3,decide_false,Bool.false_eq_true,if_false,Option.bind_some,uses_at hk,uses_at hm,kindsV hi hk hm,Int.toNat_natCast]
    · rw [if_neg h];by_cases h1:a < 0
      · simp [h1]
      · by_cases h2:a ≥ b
        · simp [h1,h2]
        · have h3:b ≥ ((progI P).length:Int):=by omega
          simp [h1,h2,h3]
theorem index_ok (r:zO) (P:zV) (hb:BG P) (h0:0 ≤ r.p) (h1:r.p ≤ 800000000):Ok (M.spec_l6Index r P) (fun y=>0 ≤ y.2.p∧y.2.p ≤ r.p + 2):=by
  unfold M.spec_l6Index;rw [specInstP P hb];refine Ok.bind_some (Ok.bind (φ:=fun z:Bool×zO=>0 ≤ z.2.p∧z.2.p ≤ r.p + 1) (Ok.ite_dec (fun _=>Ok.call (mR r _) ⟨h0,by omega⟩ fun y s k1 k2 k3=>Ok.pure ⟨by dsimp only; omega,by dsimp only; omega⟩) fun _=>Ok.pure ⟨h0,by dsimp only; omega⟩) fun z hz=>?_);obtain ⟨b,t⟩:=z;obtain ⟨z1,z2⟩:=hz;dsimp only at z1 z2;exact Ok.ite (fun _=>Ok.call (mR t _) ⟨z1,by omega⟩ fun y s k1 k2 k3=>Ok.pure ⟨by dsimp only; omega,by dsimp only; omega⟩) fun _=>Ok.call (vZ t _) ⟨by decide,z1,by omega,by decide⟩ fun y s _ _ k3=>Ok.pure ⟨by dsimp only; omega,by dsimp only; omega⟩
theorem drawDep (code:List UInt8):Ok (M.spec_DrawDepBetween code) (fun y=>BG y.1):=by
  unfold M.spec_DrawDepBetween;refine Ok.call (zIf code) trivial fun s hs=>Ok.call (zJE s) ⟨by omega,by omega⟩ fun a t g1 g2 g3=>?_;refine Ok.bind (mut4 t a g1.dp (by omega) (by omega)) fun p hp=>?_;obtain ⟨P,r⟩:=p;obtain ⟨⟨hp1,_⟩,hp2,hp3⟩:=hp;dsimp only at hp2 hp3;refine Ok.bind (index_ok r P hp1 hp2 (by omega)) fun q hq=>?_;obtain ⟨k,r2⟩:=q;obtain ⟨q1,q2⟩:=hq;dsimp only at q1 q2;refine Ok.bind (index_ok r2 P hp1 q1 (by omega)) fun w hw=>?_;obtain ⟨k2,r3⟩:=w;exact Ok.pure hp1
theorem law_DepKinds (code:List UInt8):∃ r,M.laws_FnDepKinds code=some r∧r=true:=by
  obtain ⟨⟨P,a,b⟩,hy,hb⟩:=drawDep code;dsimp only at hb;unfold M.laws_FnDepKinds;refine ⟨true,?_,rfl⟩;by_cases h1:(code.length:Int) > 1048576
  · simp [h1]
  · simp only [h1,decide_false,Bool.false_eq_true,if_false,hy,implDep P hb,specDep P hb,implInstP P hb,Option.pure_def,Option.bind_eq_bind,Option.bind_some,bne_self_eq_false,beq_self_eq_true];by_cases h2:a < 0
    · simp [h2]
    · by_cases h3:a ≥ b
      · simp [h2,h3]
      · by_cases h4:b ≥ ((if validP P then progI P else []).length:Int)
        · simp only [h2,h3,h4,decide_false,decide_true,Bool.false_eq_true,if_false,if_true,Option.bind_some]
        · simp only [h2,h3,h4,decide_false,Bool.false_eq_true,if_false,Option.bind_some];have hv:validP P=true:=by
            cases hv:validP P with
            | true=>rfl
            | false=>rw [hv] at h4; simp at h4; omega
          rw [hv] at h4 ⊢;simp only [if_true] at h4 ⊢;have hlen:=(zCr hv).2.2.2;have hi:∀ z ∈ progI P,InP P z:=fun z hz=>zJJ hb hv hz;obtain ⟨k,rfl⟩:∃ k:Nat,a=(k:Int):=⟨a.toNat,by omega⟩;obtain ⟨m,rfl⟩:∃ m:Nat,b=(m:Int):=⟨b.toNat,by omega⟩;have hk:k < (progI P).length:=by omega
          have hm:m < (progI P).length:=by omega
          have l1:=zJ0 (hi _ (zI_in hk));have l2:=zJ0 (hi _ (zI_in hm));have hd:dpb P (k:Int) (m:Int)=kindI P k m:=by unfold dpb; rw [if_pos ⟨hv,by omega,by omega,by omega⟩,Int.toNat_natCast,Int.toNat_natCast]
          have g1:idx (progI P) (k:Int)=some (zIns P k):=by rw [yZ hk,zI_get hk]
          have g2:idx (progI P) (m:Int)=some (zIns P m):=by rw [yZ hm,zI_get hm]
          simp only [g1,g2,cellsV hb hv (hi _ (zI_in hk)),cellsV hb hv (hi _ (zI_in hm)),lnHasV _ _ (show (rdI P (zIns P k)).length ≤ 1048576 by omega),lnHasV _ _ (show (rdI P (zIns P m)).length ≤ 1048576 by omega),Option.bind_some,if_true,hd,id];unfold kindI kindF;by_cases e:wrI P (zIns P k)=wrI P (zIns P m)
          · have e1:(wrI P (zIns P k) == wrI P (zIns P m))=true:=by simpa using e
            simp only [e1,if_true];cases hasB (rdI P (zIns P m)) (wrI P (zIns P k)) <;> cases hasB (rdI P (zIns P k)) (wrI P (zIns P m)) <;> rfl
          · have e1:(wrI P (zIns P k) == wrI P (zIns P m))=false:=by simpa using e
            simp only [e1,Bool.false_eq_true,if_false];cases hasB (rdI P (zIns P m)) (wrI P (zIns P k)) <;> cases hasB (rdI P (zIns P k)) (wrI P (zIns P m)) <;> rfl
end Go.LN
