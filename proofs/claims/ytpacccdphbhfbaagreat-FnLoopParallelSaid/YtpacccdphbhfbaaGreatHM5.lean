/- Helper of the proof (see the last text). -/
import Derived.Test.YtpacccdphbhfbaaGreatHM4
set_option linter.unusedVariables false
set_option linter.unusedSimpArgs false
namespace Go.LN
open Go.Proofs
set_option maxRecDepth 20000
def uY (p:zD) (i:Int) (out2:Str) (k0:Int):Option (Str):=do
 let x1←idx p.Arrays i
 if (decide (k0 < (x1.Dims.length:Int))) then
  let s2←cat out2 (⟨[32]⟩:Str)
  let x2←idx p.Arrays i
  let x3←idx x2.Dims k0
  let y1←qD x3
  let s3←cat s2 y1
  uY p i s3 (W (k0 + 1))
 else
  pure (id out2)
 partial_fixpoint
theorem zAp (p:zD) (i:Int):∀ (out2:Str) (k0:Int) (o:Str),uY p i out2 k0=some o→∀ {B}{I0 I:Imm}{Q p1 c p2 c1}{b:Nat},I0.le I→(S4 I p1 p.Arrays c)→(S4 I p2 p.Parts c1)→NG Q→NO Q→(∀ (I':Imm) (out3:Str),o=out3→I0.le I'→T 103 B Q (.exit 2) I' [hB b (cProg p p1 c p2 c1)] [(1,vP b 0),(3,vT out3.l),(4,vI i)])→J Tryz.prog 103 B (nav (bodyOf Tryz.f159) [1,1,1,0,1,0,0,1,0,0,1,0,1,0]) Q I [hB b (cProg p p1 c p2 c1)] [(1,vP b 0),(3,vT out2.l),(4,vI i),(5,vI k0)]:=by
 refine uY.partial_correctness p i _ fun self ih out2 k0 o N B I0 I Q p1 c p2 c1 b H h h1 hg ho hx=>yQ hg ho<|zZ<|yD<|yE 4 [0] [28,30,31] rfl<|bE N fun x1 hy4 N=>xK rfl rfl h hy4 ?_;intro ad1 ccs1 hat1 hrep1;obtain ⟨p4,c3,rfl,h4⟩:=wO hrep1;refine yE 6 [] [33] rfl<|xF 1 hat1 [vS p4 x1.Dims c3] (vS p4 x1.Dims c3) rfl<|yI [] [36] rfl<|zI<|yC N ?_ ?_
 · intro hc2 N;refine zS<|zY<|yG<|zK<|yE 1 [] [39] rfl<|bE N fun s2 hy5 N=>jH rfl hy5<|yE 5 [0] [42,43] rfl<|bE N fun x2 hy6 N=>xK rfl rfl h hy6 ?_;intro ad2 ccs2 hat2 hrep2;obtain ⟨p5,c4,rfl,h5⟩:=wO hrep2;refine yE 7 [] [45] rfl<|xF 1 hat2 [vS p5 x2.Dims c4] (vS p5 x2.Dims c4) rfl<|yE 9 [] [47] rfl<|bE N fun x3 hy7 N=>xK rfl rfl h5 hy7 ?_;intro ad3 ccs3 hat3 hrep3;obtain rfl:=hrep3;refine xF 0 hat3 [vI x3] (vI x3) rfl<|bE N fun y1 hy8 N=>xP (eG x3 _ hy8 ) ?_;rintro I01 hs2 v2 k2 le1 - ⟨v04,rfl,rfl,rfl⟩ -;have ⟨h,h1,H⟩:=m3 le1 h h1 H;obtain ⟨s3,hy9,N⟩:=zB N;exact jH rfl hy9<|yI [] [3] rfl<|zO<|zI<|zK<|yI [] [5] rfl<|yO<|nF<|ih s3 (W (k0 + 1)) _ N H h h1 hg ho hx
 intro hc2 N;exact wJ<|yN<|hx _ _ (zC N).symm H
def uZ (p:zD) (out:Str) (i:Int):Option (Str):=do
 if (decide (i < (p.Arrays.length:Int))) then
  let s←cat out (⟨[97,114,114,97,121,32]⟩:Str)
  let x←idx p.Arrays i
  let s1←cat s x.Name
  let out3←uY p i s1 0
  let s4←cat out3 (⟨[10]⟩:Str)
  uZ p s4 (W (i + 1))
 else
  pure (id out)
 partial_fixpoint
theorem zAq (p:zD):∀ (out:Str) (i:Int) (o:Str),uZ p out i=some o→∀ {B}{I0 I:Imm}{Q p1 c p2 c1}{b:Nat},I0.le I→(S4 I p1 p.Arrays c)→(S4 I p2 p.Parts c1)→NG Q→NO Q→(∀ (I':Imm) (out1:Str),o=out1→I0.le I'→T 103 B Q (.exit 0) I' [hB b (cProg p p1 c p2 c1)] [(1,vP b 0),(3,vT out1.l)])→J Tryz.prog 103 B (nav (bodyOf Tryz.f159) [1,1,1,0,1,0]) Q I [hB b (cProg p p1 c p2 c1)] [(1,vP b 0),(3,vT out.l),(4,vI i)]:=by
 refine uZ.partial_correctness p _ fun self ih out i o N B I0 I Q p1 c p2 c1 b H h h1 hg ho hx=>yQ hg ho<|zZ<|yD<|yI [0] [16] rfl<|zI<|yC N ?_ ?_
 · intro hc1 N;refine zS<|zY<|yG<|yD<|yE 1 [] [19] rfl<|bE N fun s hy1 N=>jH rfl hy1<|yE 5 [0] [22,23] rfl<|bE N fun x hy2 N=>xK rfl rfl h hy2 ?_;intro ad ccs hat hrep;obtain ⟨p3,c2,rfl,h3⟩:=wO hrep;refine yE 7 [] [25] rfl<|xF 0 hat [vT x.Name.l] (vT x.Name.l) rfl<|bE N fun s1 hy3 N=>jH rfl hy3<|yI [] [3] rfl<|zY<|yF [5] rfl<|xW<|qW [(1,vP b 0),(3,vT s1.l),(4,vI i),(5,vI 0)] ?_;obtain ⟨o0,ho0,hMl⟩:=zB N;refine zAp p i s1 0 o0 ho0 iR h h1 (fun _ _ _ h=>hg _ _ _ h) (fun _ _ h=>ho _ _ h) ?_;intro I02 out3 heq le2;subst o0;have ⟨h,h1,H⟩:=m3 le2 h h1 H;refine zR<|zI<|zK<|yE 1 [] [52] rfl ?_;obtain ⟨s4,hy10,N⟩:=zB hMl;exact jH rfl hy10<|yI [] [3] rfl<|zO<|zI<|zK<|yI [] [4] rfl<|yO<|nF<|ih s4 (W (i + 1)) _ N H h h1 hg ho hx
 intro hc1 N;exact wJ<|yN<|hx _ _ (zC N).symm H
def tA (p:zD) (i1:Int) (out6:Str) (k01:Int):Option (Str):=do
 let x5←idx p.Parts i1
 if (decide (k01 < (x5.Body.length:Int))) then
  let x6←idx p.Parts i1
  let x7←idx x6.Body k01
  let y3←rK x7.Write
  let s7←cat out6 y3
  let s8←cat s7 (⟨[61]⟩:Str)
  let y4←qE x7.Value
  let s9←cat s8 y4
  let s10←cat s9 (⟨[10]⟩:Str)
  tA p i1 s10 (W (k01 + 1))
 else
  pure (id out6)
 partial_fixpoint
theorem zAr (p:zD) (i1:Int):∀ (out6:Str) (k01:Int) (o:Str),tA p i1 out6 k01=some o→∀ {B}{I0 I:Imm}{Q p1 c p2 c1}{b:Nat},I0.le I→(S4 I p1 p.Arrays c)→(S4 I p2 p.Parts c1)→NG Q→NO Q→(∀ (I':Imm) (out7:Str),o=out7→I0.le I'→T 103 B Q (.exit 6) I' [hB b (cProg p p1 c p2 c1)] [(1,vP b 0),(3,vT out7.l),(6,vI i1)])→J Tryz.prog 103 B (nav (bodyOf Tryz.f159) [1,1,1,1,0,1,0,0,1,0,0,1,1,0]) Q I [hB b (cProg p p1 c p2 c1)] [(1,vP b 0),(3,vT out6.l),(6,vI i1),(7,vI k01)]:=by
 refine tA.partial_correctness p i1 _ fun self ih out6 k01 o N B I0 I Q p1 c p2 c1 b H h h1 hg ho hx=>yQ hg ho<|zZ<|yD<|yE 4 [0] [71,73,74] rfl<|bE N fun x5 hy15 N=>xK rfl rfl h1 hy15 ?_;intro ad5 ccs5 hat5 hrep5;obtain ⟨p8,c7,p9,c8,rfl,h10,h11⟩:=wL hrep5;refine yE 6 [] [76] rfl<|xF 1 hat5 [vS p9 x5.Body c8] (vS p9 x5.Body c8) rfl<|yI [] [79] rfl<|zI<|yC N ?_ ?_
 · intro hc4 N;refine zS<|zY<|yG<|yD<|yE 3 [0] [83,84] rfl<|bE N fun x6 hy16 N=>xK rfl rfl h1 hy16 ?_;intro ad6 ccs6 hat6 hrep6;obtain ⟨p10,c9,p11,c10,rfl,h12,h13⟩:=wL hrep6;refine yE 5 [] [86] rfl<|xF 1 hat6 [vS p11 x6.Body c10] (vS p11 x6.Body c10) rfl<|yE 7 [] [88] rfl<|bE N fun x7 hy17 N=>xK rfl rfl h13 hy17 ?_;intro ad7 ccs7 hat7 hrep7;obtain ⟨p12,c11,p13,c12,p14,c13,p15,c14,rfl,h14,h15,h16,h17⟩:=qH hrep7;refine xF 0 hat7 (cStmt x7 p12 c11 p13 c12 p14 c13 p15 c14) (vA (cStmt x7 p12 c11 p13 c12 p14 c13 p15 c14)) rfl<|wY [vT ([]),z0,vI 0,vI 0,z0,vI 0,vT ([]),z0,z0] ?_;intro b1 hb1;refine xJ 0 (cStmt x7 p12 c11 p13 c12 p14 c13 p15 c14) rfl<|yB rfl<|zI ?_;obtain ⟨y3,hy18,N⟩:=zB N;obtain ⟨s7,hy19,N⟩:=zB N;obtain ⟨s8,hy20,N⟩:=zB N;obtain ⟨y4,hy21,N⟩:=zB N;obtain ⟨s9,hy22,N⟩:=zB N;obtain ⟨s10,hy23,N⟩:=zB N;refine wK [.p (vT out6.l) [],.p (vP b1 0) [],.p (vA (cAccess x7.Write p12 c11)) [0],.q (vT y3.l),.q (vT s7.l),.q (vT s8.l),.p (vP b1 2) [],.p (vA (cExpr x7.Value p13 c12 p14 c13 p15 c14)) [0],.q (vT y4.l),.q (vT s9.l),.q (vT s10.l)] [[],[],[(1,false)],[(2,false)],[(0,false),(3,false)],[(4,false)],[],[(6,false)],[(7,false)],[(5,false),(8,false)],[(9,false)]] [hB b1 (cStmt x7 p12 c11 p13 c12 p14 c13 p15 c14),hB b (cProg p p1 c p2 c1)] [] [(10,false)] (zX [0,1]) ?_ ?_
   · refine Op<|Op<|Op<|Oq ?_<|Oq ?_<|Oq ?_<|Op<|Op<|Oq ?_<|Oq ?_<|Oq ?_<|On
     · intro I1 hf le1;refine yR [93] rfl ?_;have H:=iS I1;have h14:=h14.mono le1;refine xP (gQ x7.Write _ hy18 h14) ?_;rintro I05 hs2 v2 k2 le5 - ⟨v016,rfl,rfl,rfl⟩ -;have H:=H.trans le5;exact xE H
     · intro I1 hf le1;exact yR [91,94] rfl<|jH rfl hy19<|xE iR
     · intro I1 hf le1;exact yR [95] rfl<|jH rfl hy20<|xE iR
     · intro I1 hf le1;refine yR [98] rfl ?_;have H:=iS I1;have ⟨h15,h16,h17⟩:=m3 le1 h15 h16 h17;refine xP (zCZ x7.Value _ hy21 h15 h16 h17) ?_;rintro I06 hs2 v2 k2 le6 - ⟨v017,rfl,rfl,rfl⟩ -;have H:=H.trans le6;exact xE H
     · intro I1 hf le1;exact yR [96,99] rfl<|jH rfl hy22<|xE iR
     intro I1 hf le1;exact yR [100] rfl<|jH rfl hy23<|xE iR
   intro I07 le7;refine yR [1,6,7,101] rfl ?_;have ⟨h,h1,H⟩:=m3 le7 h h1 H;exact yI [] [3] rfl<|zO<|zI<|zK<|yI [] [7] rfl<|yO<|jG (zW [1] rfl (by decide))<|nF<|ih s10 (W (k01 + 1)) _ N H h h1 hg ho hx
 intro hc4 N;exact wJ<|yN<|hx _ _ (zC N).symm H
def tB (p:zD) (out4:Str) (i1:Int):Option (Str):=do
 if (decide (i1 < (p.Parts.length:Int))) then
  let s5←cat out4 (⟨[112,97,114,116,10]⟩:Str)
  let x4←idx p.Parts i1
  let y2←fL x4.Nest
  let s6←cat s5 y2
  let out7←tA p i1 s6 0
  tB p out7 (W (i1 + 1))
 else
  pure (id out4)
 partial_fixpoint
theorem zAs (p:zD):∀ (out4:Str) (i1:Int) (o:Str),tB p out4 i1=some o→∀ {B}{I0 I:Imm}{Q p1 c p2 c1}{b:Nat},I0.le I→(S4 I p1 p.Arrays c)→(S4 I p2 p.Parts c1)→NG Q→NO Q→(∀ (I':Imm) (out5:Str),o=out5→I0.le I'→T 103 B Q (.exit 4) I' [] [(3,vT out5.l)])→J Tryz.prog 103 B (nav (bodyOf Tryz.f159) [1,1,1,1,0,1,0]) Q I [hB b (cProg p p1 c p2 c1)] [(1,vP b 0),(3,vT out4.l),(6,vI i1)]:=by
 refine tB.partial_correctness p _ fun self ih out4 i1 o N B I0 I Q p1 c p2 c1 b H h h1 hg ho hx=>yQ hg ho<|zZ<|yD<|yI [0] [58] rfl<|zI<|yC N ?_ ?_
 · intro hc3 N;refine zS<|zY<|yG<|yD<|yE 1 [] [61] rfl<|bE N fun s5 hy11 N=>jH rfl hy11<|yE 5 [0] [64,65] rfl<|bE N fun x4 hy12 N=>xK rfl rfl h1 hy12 ?_;intro ad4 ccs4 hat4 hrep4;obtain ⟨p6,c5,p7,c6,rfl,h7,h8⟩:=wL hrep4;refine yE 7 [] [67] rfl<|xF 0 hat4 [vS p6 x4.Nest c5] (vS p6 x4.Nest c5) rfl<|bE N fun y2 hy13 N=>xP (zGw x4.Nest _ hy13 h7) ?_;rintro I04 hs2 v2 k2 le4 - ⟨v07,rfl,rfl,rfl⟩ -;have ⟨h,h1,H⟩:=m3 le4 h h1 H;obtain ⟨s6,hy14,N⟩:=zB N;refine jH rfl hy14<|yI [] [3] rfl<|wH [7] rfl<|xW<|qW [(1,vP b 0),(3,vT s6.l),(6,vI i1),(7,vI 0)] ?_;obtain ⟨o02,ho02,hMl2⟩:=zB N;refine zAr p i1 s6 0 o02 ho02 iR h h1 (fun _ _ _ h=>hg _ _ _ h) (fun _ _ h=>ho _ _ h) ?_;intro I08 out7 heq2 le8;subst o02;have ⟨h,h1,H⟩:=m3 le8 h h1 H;exact zR<|zO<|zI<|zK<|yI [] [6] rfl<|yO<|nF<|ih out7 (W (i1 + 1)) _ hMl2 H h h1 hg ho hx
 intro hc3 N;exact wJ<|xY zQ<|yN<|hx _ _ (zC N).symm H
def nD (p:zD):Option (Str):=do
 let y←vR p
 if (!y) then
  pure (⟨[]⟩:Str)
 else
  let out1←uZ p (⟨[112,114,111,103,114,97,109,10]⟩:Str) 0
  let out5←tB p out1 0
  pure (id out5)
theorem zCA:∀ p r,nD p=some r→∀ {I:Imm}{p1 c p2 c1},(S4 I p1 p.Arrays c)→(S4 I p2 p.Parts c1)→RT 159 [vA (cProg p p1 c p2 c1)] I [] (tY  r):=by
 intro p r N I p1 c p2 c1 h h1;unfold nD at N;refine yL Tryz.func159 fun B=>yD<|tS (cProg p p1 c p2 c1) ?_;intro b hb;refine wI [] []<|zY<|yD<|qL 1 [0] [(9,vA (cProg p p1 c p2 c1))]<|bE N fun y hy N=>uH (mT p _ hy h h1) ?_;intro I0 le;have ⟨h,h1⟩:=m2 le h h1;refine yI [] [11] rfl<|zI<|yC N ?_ ?_
 · intro hc N;refine yF [2] rfl<|xG<|zG ?_;obtain rfl:=zC N;exact wM
 intro hc N;refine zS<|wH [3] rfl<|zY<|yF [4] rfl<|xW<|qW [(1,vP b 0),(3,vT ([112,114,111,103,114,97,109,10])),(4,vI 0)] ?_;obtain ⟨o01,ho01,hMl1⟩:=zB N;refine zAq p (⟨[112,114,111,103,114,97,109,10]⟩:Str) 0 o01 ho01 iR h h1 (fun _ _ _ h=>h) (fun _ _ h=>h) ?_;intro I03 out1 heq1 le3;subst o01;have ⟨h,h1⟩:=m2 le3 h h1;refine zR<|zY<|yF [6] rfl<|xW<|qW [(1,vP b 0),(3,vT out1.l),(6,vI 0)] ?_;obtain ⟨o03,ho03,hMl3⟩:=zB hMl1;refine zAs p out1 0 o03 ho03 iR h h1 (fun _ _ _ h=>h) (fun _ _ h=>h) ?_;intro I09 out5 heq3 le9;subst o03;refine zR<|wH [2] rfl<|zI<|yW ?_;obtain rfl:=zC hMl3;exact wM
instance zLv {cs}{arr:List zF}{cs1}{raws:List Raw2}{parts:List zN}{vN:Value}{nl:List zE}{vB:Value}{bl:List zP}{csN csB:List Value}:MonoI (fun i=>L4 i cs arr cs1 raws parts vN nl vB bl csN csB):=⟨fun _ _ hl h=>h.mono hl⟩
def zBa (r:zD×Bool):KT:=fun kk I' hs' v=>
  ∃ (v0 v1:Value),hs'=[]∧v=tupV [v0,v1]∧(∃ cs,v0=.agg ⟨cs⟩∧Rp.rep I' cs r.1)∧v1=.bool r.2
def rA (y:List Str) (p:zD) (i:Int):Option zD:=do
 if (decide ((W (i + 1)) < (y.length:Int))) then
  let x←idx y i
  let p1←fK p x
  rA y p1 (W (i + 1))
 else
  pure p
 partial_fixpoint
theorem zBP (y:List Str):∀ (p:zD) (i:Int) (o:zD),rA y p i=some o→∀ {B}{I0 I:Imm}{Q}{text:Str}{pl:Option Addr}{cl:Nat}{b b1:Nat}{p1 c cs p2 c1 cs1}{raws:List Raw2}{vN vB:Value}{nl:List zE}{bl:List zP}{csN csB:List Value},I0.le I→(S4 I pl y cl)→L4 I cs p.Arrays cs1 raws p.Parts vN nl vB bl csN csB→(∀ l a w,¬Q (.goto l) a w)→(∀ a w,¬Q .outgrown a w) →
   (∀ (I':Imm) (p1:Option Addr) (c:Nat) (cs:List Value) (p2:Option Addr) (c1:Nat) (cs1:List Value) (raws:List Raw2) (vN vB:Value) (nl:List zE) (bl:List zP) (csN csB:List Value),I0.le I'→L4 I' cs o.Arrays cs1 raws o.Parts vN nl vB bl csN csB→T 37 B Q (.exit 0) I' [hO zF (vS p1 o.Arrays c) cs,hO Raw2 (vS p2 raws c1) cs1,hO zE vN csN,hO zP vB csB,hB b1 [vS p1 o.Arrays c,vS p2 raws c1],hB b zTwo] [(0,vT text.l),(2,vP b 0),(5,vP b1 0)]) →
   J Tryz.prog 37 B (nav (bodyOf Tryz.f96) [1,1,1,1,0,1,0]) Q I [hO zF (vS p1 p.Arrays c) cs,hO Raw2 (vS p2 raws c1) cs1,hO zE vN csN,hO zP vB csB,hB b1 [vS p1 p.Arrays c,vS p2 raws c1],hB b zTwo] [(0,vT text.l),(2,vP b 0),(4,vS pl y cl),(5,vP b1 0),(6,vI i)]:=by
 refine rA.partial_correctness y _ ?_
 intro self ih p i o N B I0 I Q text pl cl b b1 p1 c cs p2 c1 cs1 raws vN vB nl bl csN csB H h hQ hg ho hx
 refine yQ hg ho<|zZ<|yF [18] rfl<|zI<|yC N ?_ ?_
 · intro hc1 N
   refine zS<|zY<|yG ?_
   obtain ⟨x,hy,N⟩:=zB N
   obtain ⟨q,hy1,N⟩:=zB N
   refine wK [.p (vA [vS p1 p.Arrays c,vS p2 raws c1]) [0],.p (vS pl y cl) [],.p (vI i) [],.x (fun I' v hx=>∃ ad,v=.pointer (some ad)∧hx=[]∧(At I' ad [vT x.l])),.x (fun I' v hx=>v=vT x.l∧hx=[]),.x (fun I' v hx=>∃ (p1:Option Addr) (c:Nat) (cs:List Value) (p2:Option Addr) (c1:Nat) (cs1:List Value) (raws:List Raw2) (vN vB:Value) (nl:List zE) (bl:List zP) (csN csB:List Value),v=vA [vS p1 q.Arrays c,vS p2 raws c1]∧hx=[hO zF (vS p1 q.Arrays c) cs,hO Raw2 (vS p2 raws c1) cs1,hO zE vN csN,hO zP vB csB]∧L4 I' cs q.Arrays cs1 raws q.Parts vN nl vB bl csN csB)] [[],[],[],[(1,false),(2,false)],[(3,false)],[(0,false),(4,false),(7,true)]] [hB b1 [vS p1 p.Arrays c,vS p2 raws c1],hB b zTwo] [[hO zF (vS p1 p.Arrays c) cs,hO Raw2 (vS p2 raws c1) cs1,hO zE vN csN,hO zP vB csB]] [(5,true)] (zX [4,5,0,1,2,3]) ?_ ?_
   · refine Op<|Op<|Op<|Ox ?_<|Ox ?_<|Ox (hm:=fun v hx=>by repeat' (first | exact zFj | exact zLv | refine @zIz _ _ (fun _=>?_) | refine @zIG _ _ ?_ ?_)) ?_<|On
     · intro I1 hf le1
       refine yR [22,23] rfl<|xK rfl rfl (h.mono le1) hy ?_
       intro ad ccs hat hrep
       obtain rfl:=hrep
       exact yK [] iR ⟨_,rfl,rfl,hat⟩
     · intro I1 hf le1
       refine wA ?_
       rintro _ _ ⟨ad,rfl,rfl,hat⟩
       exact mG<|zBw [(24,.pointer (some ad))]<|xF 0 hat [vT x.l] (vT x.l) rfl<|xE iR
     intro I1 hf le1
     refine wA ?_
     rintro _ _ ⟨rfl,rfl⟩
     refine wA ?_
     rintro _ _ ⟨rfl,rfl⟩
     refine wA ?_
     rintro _ _ rfl
     refine yR [21,25] rfl<|sJ (zGv p x _ hy1 (hQ.mono le1)) rfl ?_
     rintro I02 hs2 v2 k2 le2 - ⟨p3,c2,cs2,p4,c3,cs3,raws1,vN1,vB1,nl1,bl1,csN1,csB1,rfl,rfl,hq⟩ -
     exact yK [hO zF (vS p3 q.Arrays c2) cs2,hO Raw2 (vS p4 raws1 c3) cs3,hO zE vN1 csN1,hO zP vB1 csB1] le2 ⟨_,_,_,_,_,_,_,_,_,_,_,_,_,rfl,rfl,hq⟩
   intro I04 le4
   refine wA ?_
   rintro _ _ ⟨p3,c2,cs2,p4,c3,cs3,raws1,vN1,vB1,nl1,bl1,csN1,csB1,rfl,rfl,hq⟩
   exact mG<|zBw [(0,vT text.l),(2,vP b 0),(4,vS pl y cl),(5,vP b1 0),(6,vI i),(26,vA [vS p3 q.Arrays c2,vS p4 raws1 c3])]<|xJ 4 [vS p3 q.Arrays c2,vS p4 raws1 c3] rfl<|yB rfl<|zO<|zI<|zK<|yI [] [6] rfl<|yO<|nF<|ih _ _ _ N (H.trans le4) (h.mono le4) hq hg ho hx
 intro hc1 N
 obtain rfl:=zC N
 exact wJ<|yN<|hx _ _ _ _ _ _ _ _ _ _ _ _ _ _ H hQ
def nP (text:Str):Option (zD×Bool):=do
 let y←kK text (10:UInt8)
 if (decide ((y.length:Int) > 42)) then
  pure ((zD.mk [] []),false)
 else
  let p←rA y (zD.mk [] []) 1
  let t34←(do
    if (text.l == ([]:List UInt8)) then
     pure true
    else
     let z←nD p
     pure (!(z.l == text.l))
      : Option Bool)
  if t34 then
   pure ((zD.mk [] []),false)
  else
   pure (p,true)
theorem zC0:∀ text r,nP text=some r→∀ {I:Imm},RT 96 [vT text.l] I [] (zBa r):=by
 intro text r N I;unfold nP at N;refine yL Tryz.func96 fun B=>yD<|wY zTwo ?_;intro b hb;refine wI [] []<|yX<|yE 1 [] [7] rfl<|bE N fun y hy N=>xP (zAT text (10:UInt8) _ hy) ?_;rintro I0 hs2 v2 k2 le - ⟨v0,rfl,rfl,h⟩ -;obtain ⟨pl,cl,rfl⟩:=h.form;refine yI [] [4] rfl<|yX<|yE 1 [] [9] rfl<|wY zTwo ?_;intro b1 hb1;refine zB4 0 zTwo [hB b1 zTwo,hB b zTwo] rfl rfl rfl rfl<|yB rfl<|zY<|yF [12] rfl<|zI<|yC N ?_ ?_
 · intro hc N;refine yD<|qL 1 [0] [(13,vA zTwo)]<|zB4 1 zTwo [hB b1 zTwo,hB b zTwo] rfl rfl rfl rfl<|wI [] [(3,vF)]<|xG<|zG ?_;obtain rfl:=zC N;exact xA ⟨_,_,(.cell 1 rfl rfl (by kernel_rfl) (.tmp rfl ResV.nil)),zQ,⟨_,_,rfl,rfl,⟨_,rfl,(uB ⟨_,_,rfl,(SL.nil _),(SL.nil _)⟩)⟩,rfl⟩⟩
 intro hc N;refine zS<|zY<|yF [6] rfl<|xW<|qW [(0,vT text.l),(2,vP b 0),(4,vS pl y cl),(5,vP b1 0),(6,vI 1)]<|jG (gI (Rp.sz zP))<|jG (gI (Rp.sz zE))<|jG (gI (Rp.sz Raw2))<|jG (gI (Rp.sz zF))<|bE N fun p hy1 N=>zBP (raws:=[]) (vN:=z0) (vB:=z0) (nl:=[]) (bl:=[]) y (zD.mk [] []) 1 p hy1 iR h ⟨RepL.nil,RepL.nil,⟨by decide,rfl,.inl ⟨rfl,rfl⟩⟩,RepL.nil,RepL.nil⟩ (fun _ _ _ h=>h) (fun _ _ h=>h) fun I1 p1 c cs p2 c1 cs1 raws vN vB nl bl csN csB le1 hQ=>yV 2 rfl ?_;intro I2 le2 hl2;have kN:=SL.of_frozen hl2 le2 hQ.n;have hQ:=hQ.mono le2;refine yV 2 rfl ?_;intro I3 le3 hl3;have kB:=SL.of_frozen hl3 le3 hQ.b;replace kN:=kN.mono le3;have hQ:=hQ.mono le3;refine yV 0 rfl ?_;intro I4 le4 hl4;have kA:=SL.of_frozen hl4 le4 hQ.arr;replace kN:=kN.mono le4;replace kB:=kB.mono le4;have hQ:=hQ.mono le4;refine yV 0 rfl ?_;intro I5 le5 hl5;have kP:SL I5 (vS p2 raws c1) p.Parts:=⟨cs1,hl5,by
   rw [jZ hQ.raw];exact (hQ.lp.done kN kB).mono fun _ _=>Rp.mono le5⟩
 have e0:vS p2 raws c1=vS p2 p.Parts c1:=by simp only [vS,hQ.lp.2.1]
 rw [e0] at kP ⊢;clear e0 hl5 hl4 hl3 hl2 hQ;replace kA:=kA.mono le5;refine zR<|zY<|zZ<|bE N fun t34 ht N=>qA (K1 t34 I5 [hB b1 (cProg p p1 c p2 c1),hB b zTwo] fun o=>[(2,vP b 0),(5,vP b1 0),(34,.bool o)]) ?_ ?_
 · refine zK<|qL 3 [] [(29,.bool (text.l == ([]:List UInt8)))] ?_;cases hc2:(text.l == ([]:List UInt8)) with
   | true =>
    have hM0:=sT hc2 ht;exact wI [] [(34,vY)]<|yN<|zT ⟨_,(zC hM0).symm,Imm.le.refl _,rfl,rfl⟩
   | false =>
    have hM0:=tU hc2 ht;obtain ⟨z,hz,hM0⟩:=zB hM0;refine qL 4 [0] [(30,vA (cProg p p1 c p2 c1))]<|xP (zCA p _ hz kA kP) ?_;rintro I6 hs2 v2 k2 le6 - ⟨v0,rfl,rfl,rfl⟩ -;exact yI [] [34] rfl<|yN<|zT (ct hM0 le6)
 rintro I6 hs2 m2 ⟨o,rfl,le6,rfl,rfl⟩;replace kA:=kA.mono le6;replace kP:=kP.mono le6;refine zI<|yC N ?_ ?_
 · intro hc2 N;refine yD<|yE 1 [] [35] rfl<|zB4 1 zTwo [hB b1 (cProg p p1 c p2 c1),hB b zTwo] rfl rfl rfl rfl<|wI [] [(3,vF)]<|xG<|zG ?_;obtain rfl:=zC N;exact xA ⟨_,_,(.cell 1 rfl rfl (by kernel_rfl) (.tmp rfl ResV.nil)),zQ,⟨_,_,rfl,rfl,⟨_,rfl,(uB ⟨_,_,rfl,(SL.nil _),(SL.nil _)⟩)⟩,rfl⟩⟩
 intro hc2 N;refine zS<|yX<|qL 1 [0] [(36,vA (cProg p p1 c p2 c1))]<|xJ 1 (cProg p p1 c p2 c1) rfl<|wI [] [(3,vY)]<|zI<|yW ?_;obtain rfl:=zC N;exact xA ⟨_,_,(.cell 1 rfl rfl (by kernel_rfl) (.tmp rfl ResV.nil)),zQ,⟨_,_,rfl,rfl,⟨_,rfl,(uB ⟨_,_,rfl,kA,kP⟩)⟩,rfl⟩⟩
def zFX (b0:Nat) (r:zD×zM):KT:=fun kk I' hs' v=>
  ∃ v0 k0,hs'=[.blk b0 ⟨k0⟩]∧v=tupV [v0]∧(∃ cs,v0=.agg ⟨cs⟩∧Rp.rep I' cs r.1)∧Rp.rep I' k0 r.2
def fM (r0:zM):Option (zD×zM):=do
 let (y1,y2)←pO r0 ([(⟨[112,97,114,116,10,102,111,114,32,48,32,51,10,102,111,114,32,48,32,52,10,66,91,105,44,106,93,61,40,66,91,105,44,106,93,43,123,50,42,105,43,106,125,41,10]⟩:Str),(⟨[112,97,114,116,10,102,111,114,32,48,32,51,10,102,111,114,32,48,32,52,10,66,91,105,44,106,43,49,93,61,40,66,91,105,44,106,93,43,49,41,10]⟩:Str),(⟨[112,97,114,116,10,102,111,114,32,48,32,51,10,102,111,114,32,49,32,52,10,66,91,105,43,49,44,106,45,49,93,61,40,66,91,105,44,106,93,42,50,41,10]⟩:Str),(⟨[112,97,114,116,10,102,111,114,32,48,32,51,10,102,111,114,32,49,32,53,10,66,91,105,43,49,44,106,93,61,40,66,91,105,44,106,45,49,93,43,66,91,105,44,106,93,41,10,65,91,105,93,61,123,106,125,10]⟩:Str),(⟨[112,97,114,116,10,102,111,114,32,48,32,52,10,65,91,105,93,61,40,123,105,125,42,50,41,10,112,97,114,116,10,102,111,114,32,48,32,52,10,65,91,105,43,49,93,61,40,65,91,105,93,43,67,91,48,93,41,10]⟩:Str),(⟨[112,97,114,116,10,102,111,114,32,48,32,53,10,65,91,105,93,61,40,65,91,105,93,43,51,41,10,66,91,48,44,105,93,61,65,91,105,93,10]⟩:Str),(⟨[112,97,114,116,10,102,111,114,32,48,32,51,10,102,111,114,32,48,32,51,10,67,91,105,93,61,40,67,91,105,93,43,66,91,105,44,106,93,41,10,112,97,114,116,10,102,111,114,32,48,32,51,10,102,111,114,32,48,32,51,10,65,91,106,93,61,40,65,91,106,93,45,66,91,106,44,105,93,41,10]⟩:Str),(⟨[112,97,114,116,10,102,111,114,32,48,32,52,10,102,111,114,32,48,32,105,43,49,10,66,91,105,44,106,93,61,40,65,91,106,93,42,67,91,48,93,41,10]⟩:Str)]:List Str)
 let s←cat (⟨[112,114,111,103,114,97,109,10,97,114,114,97,121,32,65,32,54,10,97,114,114,97,121,32,66,32,52,32,53,10,97,114,114,97,121,32,67,32,51,10]⟩:Str) y1
 let (y4,y5)←nP s
 let (t20,x)←(do
   if y5 then
    let (y7,y8)←yZ y2 3
    pure ((decide (y7 > 0)),y8)
   else
    pure (false,y2)
     : Option (Bool×zM))
 if t20 then
  pure (y4,x)
 else
  let (y10,y11)←fI x
  pure (y10,y11)
theorem zGx:∀ r0 r,fM r0=some r→∀ {I:Imm}{r01:Nat}{p c},(S4 I p r0.b c)→RT 97 [vP r01 0] I [hB r01 (cRd r0 p c)] (zFX r01 r):=by
 intro r0 r N I r01 p c h;unfold fM at N;refine yL Tryz.func97 fun B=>?_;have H:=iS I;refine yD<|wY zTwo ?_;intro b hb;refine yB rfl<|yX<|yE 1 [] [6] rfl<|nH (rT [(⟨[112,97,114,116,10,102,111,114,32,48,32,51,10,102,111,114,32,48,32,52,10,66,91,105,44,106,93,61,40,66,91,105,44,106,93,43,123,50,42,105,43,106,125,41,10]⟩:Str),(⟨[112,97,114,116,10,102,111,114,32,48,32,51,10,102,111,114,32,48,32,52,10,66,91,105,44,106,43,49,93,61,40,66,91,105,44,106,93,43,49,41,10]⟩:Str),(⟨[112,97,114,116,10,102,111,114,32,48,32,51,10,102,111,114,32,49,32,52,10,66,91,105,43,49,44,106,45,49,93,61,40,66,91,105,44,106,93,42,50,41,10]⟩:Str),(⟨[112,97,114,116,10,102,111,114,32,48,32,51,10,102,111,114,32,49,32,53,10,66,91,105,43,49,44,106,93,61,40,66,91,105,44,106,45,49,93,43,66,91,105,44,106,93,41,10,65,91,105,93,61,123,106,125,10]⟩:Str),(⟨[112,97,114,116,10,102,111,114,32,48,32,52,10,65,91,105,93,61,40,123,105,125,42,50,41,10,112,97,114,116,10,102,111,114,32,48,32,52,10,65,91,105,43,49,93,61,40,65,91,105,93,43,67,91,48,93,41,10]⟩:Str),(⟨[112,97,114,116,10,102,111,114,32,48,32,53,10,65,91,105,93,61,40,65,91,105,93,43,51,41,10,66,91,48,44,105,93,61,65,91,105,93,10]⟩:Str),(⟨[112,97,114,116,10,102,111,114,32,48,32,51,10,102,111,114,32,48,32,51,10,67,91,105,93,61,40,67,91,105,93,43,66,91,105,44,106,93,41,10,112,97,114,116,10,102,111,114,32,48,32,51,10,102,111,114,32,48,32,51,10,65,91,106,93,61,40,65,91,106,93,45,66,91,106,44,105,93,41,10]⟩:Str),(⟨[112,97,114,116,10,102,111,114,32,48,32,52,10,102,111,114,32,48,32,105,43,49,10,66,91,105,44,106,93,61,40,65,91,106,93,42,67,91,48,93,41,10]⟩:Str)]) ?_;intro b1 I0 le h2;have ⟨h,H⟩:=m2 le h H;refine sK (zX [1,0] (hs':=[hB r01 (cRd r0 p c),hB b zTwo])) ?_;obtain ⟨⟨y1,y2⟩,hy,N⟩:=zB N;refine sJ (gZ r0 ([(⟨[112,97,114,116,10,102,111,114,32,48,32,51,10,102,111,114,32,48,32,52,10,66,91,105,44,106,93,61,40,66,91,105,44,106,93,43,123,50,42,105,43,106,125,41,10]⟩:Str),(⟨[112,97,114,116,10,102,111,114,32,48,32,51,10,102,111,114,32,48,32,52,10,66,91,105,44,106,43,49,93,61,40,66,91,105,44,106,93,43,49,41,10]⟩:Str),(⟨[112,97,114,116,10,102,111,114,32,48,32,51,10,102,111,114,32,49,32,52,10,66,91,105,43,49,44,106,45,49,93,61,40,66,91,105,44,106,93,42,50,41,10]⟩:Str),(⟨[112,97,114,116,10,102,111,114,32,48,32,51,10,102,111,114,32,49,32,53,10,66,91,105,43,49,44,106,93,61,40,66,91,105,44,106,45,49,93,43,66,91,105,44,106,93,41,10,65,91,105,93,61,123,106,125,10]⟩:Str),(⟨[112,97,114,116,10,102,111,114,32,48,32,52,10,65,91,105,93,61,40,123,105,125,42,50,41,10,112,97,114,116,10,102,111,114,32,48,32,52,10,65,91,105,43,49,93,61,40,65,91,105,93,43,67,91,48,93,41,10]⟩:Str),(⟨[112,97,114,116,10,102,111,114,32,48,32,53,10,65,91,105,93,61,40,65,91,105,93,43,51,41,10,66,91,48,44,105,93,61,65,91,105,93,10]⟩:Str),(⟨[112,97,114,116,10,102,111,114,32,48,32,51,10,102,111,114,32,48,32,51,10,67,91,105,93,61,40,67,91,105,93,43,66,91,105,44,106,93,41,10,112,97,114,116,10,102,111,114,32,48,32,51,10,102,111,114,32,48,32,51,10,65,91,106,93,61,40,65,91,106,93,45,66,91,106,44,105,93,41,10]⟩:Str),(⟨[112,97,114,116,10,102,111,114,32,48,32,52,10,102,111,114,32,48,32,105,43,49,10,66,91,105,44,106,93,61,40,65,91,106,93,42,67,91,48,93,41,10]⟩:Str)]:List Str) _ hy h h2) rfl ?_;rintro I01 hs2 v2 k2 le1 - ⟨v0,kk,rfl,rfl,rfl,h4⟩ -;have H:=H.trans le1;obtain ⟨p1,c1,rfl,h5⟩:=yA h4;refine yI [] [3] rfl<|yX<|yE 1 [] [10] rfl<|bE N fun s hy1 N=>jH rfl hy1 ?_;obtain ⟨⟨y4,y5⟩,hy2,N⟩:=zB N;refine xP (zC0 s _ hy2 ) ?_;rintro I02 hs2 v2 k2 le2 - ⟨v02,v03,rfl,rfl,⟨cs,rfl,h6⟩,rfl⟩ -;have ⟨h5,H⟩:=m2 le2 h5 H;obtain ⟨p2,c2,p3,c3,rfl,h8,h9⟩:=jX h6;refine yE 6 [] [13,14] rfl<|wY zTwo ?_;intro b2 hb2;refine xJ 0 (cProg y4 p2 c2 p3 c3) rfl<|yI [] [5] rfl<|zY<|zZ ?_;obtain ⟨o0,ho0,hMc⟩:=zB N;refine qA (fun I' hs' m'=>∃ (t20:Bool) (x:zM) (p4:Option Addr) (c4:Nat),o0=(t20,x)∧I02.le I'∧(S4 I' p4 x.b c4)∧hs'=[hB b2 (cProg y4 p2 c2 p3 c3),hB r01 (cRd x p4 c4),hB b zTwo]∧m'=[(0,vP r01 0),(2,vP b 0),(4,vP b2 0),(20,.bool t20)]) ?_ ?_
 · have H:=iS I02;refine zK<|yE 2 [] [16] rfl<|xZ [16] ho0 ?_ ?_
   · intro hc N;refine yE 3 [] [17] rfl<|sK (zX [1,0,2] (hs':=[hB r01 (cRd y2 p1 c1),hB b2 (cProg y4 p2 c2 p3 c3),hB b zTwo])) ?_;obtain ⟨⟨y7,y8⟩,hy3,N⟩:=zB N;refine sJ (xQ y2 3 _ hy3 h5) rfl ?_;rintro I04 hs2 v2 k2 le3 - ⟨v06,kk1,rfl,rfl,rfl,h12⟩ -;have H:=H.trans le3;obtain ⟨p5,c5,rfl,h13⟩:=yA h12;exact yI [] [20] rfl<|xY (zW [1,0,2] rfl (by decide))<|yN<|zT ⟨_,_,_,_,(zC N).symm,H,h13,rfl,rfl⟩
   intro hc N;exact wI [] [(20,vF)]<|yN<|zT ⟨_,_,_,_,(zC N).symm,H,h5,rfl,rfl⟩
 rintro I03 hs2 m2 ⟨t20,x,p4,c4,heq,le4,h10,rfl,rfl⟩;subst o0;have ⟨h8,h9⟩:=m2 le4 h8 h9;refine zI<|yC hMc ?_ ?_
 · intro hc1 N;refine yD<|qL 1 [0] [(21,vA (cProg y4 p2 c2 p3 c3))]<|xJ 2 (cProg y4 p2 c2 p3 c3) rfl<|yB rfl<|xG<|zG ?_;obtain rfl:=zC N;exact xA ⟨_,_,(.cell 2 rfl rfl (by kernel_rfl) ResV.nil),(zW [1] rfl (by decide)),⟨_,_,rfl,rfl,⟨_,rfl,(uB ⟨_,_,rfl,h8,h9⟩)⟩,(yT ⟨_,rfl,h10⟩)⟩⟩
 intro hc1 N;refine zS<|yX<|yE 1 [] [22] rfl<|sK (zX [1,0,2] (hs':=[hB r01 (cRd x p4 c4),hB b2 (cProg y4 p2 c2 p3 c3),hB b zTwo])) ?_;obtain ⟨⟨y10,y11⟩,hy4,N⟩:=zB N;refine sJ (zGt x _ hy4 h10) rfl ?_;rintro I05 hs2 v2 k2 le5 - ⟨v08,kk2,rfl,rfl,⟨cs1,rfl,h14⟩,h15⟩ -;obtain ⟨p6,c6,p7,c7,rfl,h16,h17⟩:=jX h14;obtain ⟨p8,c8,rfl,h18⟩:=yA h15;refine xJ 2 (cProg y10 p6 c6 p7 c7) rfl<|yB rfl<|zI<|yW ?_;obtain rfl:=zC N;exact xA ⟨_,_,(.cell 2 rfl rfl (by kernel_rfl) ResV.nil),(zW [0] rfl (by decide)),⟨_,_,rfl,rfl,⟨_,rfl,(uB ⟨_,_,rfl,h16,h17⟩)⟩,(yT ⟨_,rfl,h18⟩)⟩⟩
def zFY (b0:Nat) (r:zD×Int×Int×Int×zM):KT:=fun kk I' hs' v=>
  ∃ v0 v1 v2 v3 k0,hs'=[.blk b0 ⟨k0⟩]∧v=tupV [v0,v1,v2,v3]∧(∃ cs,v0=.agg ⟨cs⟩∧Rp.rep I' cs r.1)∧v1=.int .i64 r.2.1∧v2=.int .i64 r.2.2.1∧v3=.int .i64 r.2.2.2.1∧Rp.rep I' k0 r.2.2.2.2
def dI (r0:zM):Option (zD×Int×Int×Int×zM):=do
 let (y1,y2)←fM r0
 let (y4,y5)←pP y2 y1
 let (y7,y8)←yU y5 ([0,0,0,1,(-1),9]:List Int)
 let (y10,y11)←yU y8 ([0,0,1,0,2,(-1),9]:List Int)
 let (y13,y14)←yU y11 ([1,2,3,(-1),(-2),0,6,7,(-9223372036854775808)]:List Int)
 pure (y4,y7,y10,y13,y14)
theorem zGy:∀ r0 r,dI r0=some r→∀ {I:Imm}{r01:Nat}{p c},(S4 I p r0.b c)→RT 141 [vP r01 0] I [hB r01 (cRd r0 p c)] (zFY r01 r):=by
 intro r0 r N I r01 p c h;unfold dI at N;refine yL Tryz.func141 fun B=>?_;have H:=iS I;refine yD<|wY zTwo ?_;intro b hb;refine wI [] []<|yX<|yE 2 [] [8,9] rfl<|sK (zX [1,0] (hs':=[hB r01 (cRd r0 p c),hB b zTwo])) ?_;obtain ⟨⟨y1,y2⟩,hy,N⟩:=zB N;refine sJ (zGx r0 _ hy h) rfl ?_;rintro I0 hs2 v2 k2 le - ⟨v0,kk,rfl,rfl,⟨cs,rfl,h1⟩,h2⟩ -;have H:=H.trans le;obtain ⟨p1,c1,p2,c2,rfl,h3,h4⟩:=jX h1;obtain ⟨p3,c3,rfl,h5⟩:=yA h2;obtain ⟨⟨y4,y5⟩,hy1,N⟩:=zB N;refine sJ (zFH y2 y1 _ hy1 h5 h3 h4) rfl ?_;rintro I01 hs2 v2 k2 le1 - ⟨v04,kk1,rfl,rfl,⟨cs1,rfl,h6⟩,h7⟩ -;have H:=H.trans le1;obtain ⟨p4,c4,p5,c5,rfl,h8,h9⟩:=jX h6;obtain ⟨p6,c6,rfl,h10⟩:=yA h7;refine wY zTwo ?_;intro b1 hb1;refine xJ 0 (cProg y4 p4 c4 p5 c5) rfl<|yB rfl<|yX<|yE 1 [] [12] rfl<|nH (rI [0,0,0,1,(-1),9]) ?_;intro b2 I02 le2 h12;have ⟨h8,h9,h10,H⟩:=m4 le2 h8 h9 h10 H;refine sK (zX [1,0,2] (hs':=[hB r01 (cRd y5 p6 c6),hB b1 (cProg y4 p4 c4 p5 c5),hB b zTwo])) ?_;obtain ⟨⟨y7,y8⟩,hy2,N⟩:=zB N;refine sJ (xB y5 ([0,0,0,1,(-1),9]:List Int) _ hy2 h10 h12) rfl ?_;rintro I03 hs2 v2 k2 le3 - ⟨v08,kk2,rfl,rfl,rfl,h14⟩ -;have ⟨h8,h9,H⟩:=m3 le3 h8 h9 H;obtain ⟨p7,c7,rfl,h15⟩:=yA h14;refine yI [] [7] rfl<|zI<|zZ ?_;obtain ⟨⟨y10,y11⟩,hy3,N⟩:=zB N;obtain ⟨⟨y13,y14⟩,hy4,N⟩:=zB N;refine wK [.p (vA (cProg y4 p4 c4 p5 c5)) [0],.p (vI y7) [],.p (vP r01 0) [],.x (fun I' v hx=>∃ b3,v=vS (some ⟨b3,0,none⟩) ([0,0,1,0,2,(-1),9]:List Int) 7∧hx=[]∧(SL I' (vS (some ⟨b3,0,none⟩) ([0,0,1,0,2,(-1),9]:List Int) 7) ([0,0,1,0,2,(-1),9]:List Int))),.x (fun I' v hx=>∃ p8 c8,v=vI y10∧hx=[hB r01 (cRd y11 p8 c8)]∧(S4 I' p8 y11.b c8)),.p (vP r01 0) [],.x (fun I' v hx=>∃ b4,v=vS (some ⟨b4,0,none⟩) ([1,2,3,(-1),(-2),0,6,7,(-9223372036854775808)]:List Int) 9∧hx=[]∧(SL I' (vS (some ⟨b4,0,none⟩) ([1,2,3,(-1),(-2),0,6,7,(-9223372036854775808)]:List Int) 9) ([1,2,3,(-1),(-2),0,6,7,(-9223372036854775808)]:List Int))),.x (fun I' v hx=>∃ p9 c9,v=vI y13∧hx=[hB r01 (cRd y14 p9 c9)]∧(S4 I' p9 y14.b c9)),.x (fun I' v hx=>hx=[hB b (cProg y4 p4 c4 p5 c5)]),.p (vI y7) [],.q (vI y10)] [[],[],[],[],[(2,false),(3,false),(12,true)],[],[],[(5,false),(6,false),(4,true)],[(0,false),(13,true)],[(1,false)],[(4,false)]] [hB b1 (cProg y4 p4 c4 p5 c5)] [[hB r01 (cRd y8 p7 c7)],[hB b zTwo]] [(7,true),(8,true),(9,false),(10,false)] (zX [1,0,2]) ?_ ?_
 · refine Op<|Op<|Op<|Ox ?_<|Ox ?_<|Op<|Ox ?_<|Ox ?_<|Ox ?_<|Op<|Oq ?_<|On
   · intro I1 hf le1;refine I_h [] ?_;have H:=iS I1;refine nH (rI [0,0,1,0,2,(-1),9]) ?_;intro b3 I04 le4 h17;have H:=H.trans le4;exact yK [] H ⟨_,rfl,rfl,h17⟩
   · rintro I1 hf le1 _ _ ⟨rfl,rfl⟩ _ _ ⟨b3,rfl,rfl,h17⟩ _ _ rfl;refine yR [17,18] rfl ?_;have H:=iS I1;have h15:=h15.mono le1;refine sJ (xB y8 ([0,0,1,0,2,(-1),9]:List Int) _ hy3 h15 h17) rfl ?_;rintro I05 hs2 v2 k2 le5 - ⟨v010,kk3,rfl,rfl,rfl,h19⟩ -;have H:=H.trans le5;obtain ⟨p8,c8,rfl,h20⟩:=yA h19;exact yK [hB r01 (cRd y11 p8 c8)] H ⟨_,_,rfl,rfl,h20⟩
   · intro I1 hf le1;refine I_h [] ?_;have H:=iS I1;refine nH (rI [1,2,3,(-1),(-2),0,6,7,(-9223372036854775808)]) ?_;intro b4 I06 le6 h22;have H:=H.trans le6;exact yK [] H ⟨_,rfl,rfl,h22⟩
   · rintro I1 hf le1 _ _ ⟨rfl,rfl⟩ _ _ ⟨b4,rfl,rfl,h22⟩ _ _ ⟨p8,c8,rfl,rfl,h20⟩;refine yR [20,21] rfl ?_;have H:=iS I1;refine sJ (xB y11 ([1,2,3,(-1),(-2),0,6,7,(-9223372036854775808)]:List Int) _ hy4 h20 h22) rfl ?_;rintro I07 hs2 v2 k2 le7 - ⟨v012,kk4,rfl,rfl,rfl,h24⟩ -;have H:=H.trans le7;obtain ⟨p9,c9,rfl,h25⟩:=yA h24;exact yK [hB r01 (cRd y14 p9 c9)] H ⟨_,_,rfl,rfl,h25⟩
   · rintro I1 hf le1 _ _ ⟨rfl,rfl⟩ _ _ rfl;refine yR [2,15] rfl ?_;have H:=iS I1;exact zB4 0 (cProg y4 p4 c4 p5 c5) (hB b (cProg y4 p4 c4 p5 c5)::hB b1 (cProg y4 p4 c4 p5 c5)::hf) rfl rfl rfl rfl<|zFh (hx:=[hB b (cProg y4 p4 c4 p5 c5)]) rfl H rfl (zG9 (v:=undef)) rfl
   rintro I1 hf le1 _ _ ⟨p8,c8,rfl,rfl,h20⟩;exact yR [19] rfl<|oY 11 [(4,vI y10)]<|xE iR
 rintro I08 le8 _ _ ⟨p9,c9,rfl,rfl,h25⟩ _ _ rfl;refine yR [2,3,4,22] rfl ?_;have ⟨h8,h9⟩:=m2 le8 h8 h9;refine yI [] [5] rfl<|zI<|yW ?_;obtain rfl:=zC N;exact xA ⟨_,_,(.cell 0 rfl rfl (by kernel_rfl) (.tmp rfl (.tmp rfl (.tmp rfl ResV.nil)))),(zW [1] rfl (by decide)),⟨_,_,_,_,_,rfl,rfl,⟨_,rfl,(uB ⟨_,_,rfl,h8,h9⟩)⟩,rfl,rfl,rfl,(yT ⟨_,rfl,h25⟩)⟩⟩
def zFZ (b0:Nat) (r:zD×Int×Int×zM):KT:=fun kk I' hs' v=>
  ∃ v0 v1 v2 k0,hs'=[.blk b0 ⟨k0⟩]∧v=tupV [v0,v1,v2]∧(∃ cs,v0=.agg ⟨cs⟩∧Rp.rep I' cs r.1)∧v1=.int .i64 r.2.1∧v2=.int .i64 r.2.2.1∧Rp.rep I' k0 r.2.2.2
def dJ (r0:zM):Option (zD×Int×Int×zM):=do
 let (y1,y2,y3,y4,y5)←dI r0
 pure (y1,y2,y3,y5)
theorem zLw:∀ r0 r,dJ r0=some r→∀ {I:Imm}{r01:Nat}{p c},(S4 I p r0.b c)→RT 81 [vP r01 0] I [hB r01 (cRd r0 p c)] (zFZ r01 r):=by
 intro r0 r N I r01 p c h;unfold dJ at N;refine yL Tryz.func81 fun B=>yD<|wY zTwo ?_;intro b hb;refine wI [] []<|yX<|yE 1 [] [10] rfl<|sK (zX [1,0] (hs':=[hB r01 (cRd r0 p c),hB b zTwo])) ?_;obtain ⟨⟨y1,y2,y3,y4,y5⟩,hy,N⟩:=zB N;refine sJ (zGy r0 _ hy h) rfl ?_;rintro I0 hs2 v2 k2 le - ⟨v0,v01,v02,v03,kk,rfl,rfl,⟨cs,rfl,h1⟩,rfl,rfl,rfl,h5⟩ -;obtain ⟨p1,c1,p2,c2,rfl,h6,h7⟩:=jX h1;obtain ⟨p3,c3,rfl,h8⟩:=yA h5;refine yE 7 [] [12,13,14,15] rfl<|wY zTwo ?_;intro b1 hb1;refine xJ 0 (cProg y1 p1 c1 p2 c2) rfl<|yI [] [6,7] rfl<|yX<|qL 3 [0] [(16,vA (cProg y1 p1 c1 p2 c2)),(17,vI y2),(18,vI y3)]<|xJ 2 (cProg y1 p1 c1 p2 c2) rfl<|yI [] [3,4] rfl<|zI<|yW ?_;obtain rfl:=zC N;exact xA ⟨_,_,(.cell 2 rfl rfl (by kernel_rfl) (.tmp rfl (.tmp rfl ResV.nil))),(zW [1] rfl (by decide)),⟨_,_,_,_,rfl,rfl,⟨_,rfl,(uB ⟨_,_,rfl,h6,h7⟩)⟩,rfl,rfl,(yT ⟨_,rfl,h8⟩)⟩⟩
def wG (n0:Int) (low:Int) (high:Int):Option (Bool):=do
 let t6←(do
   if (decide (low ≤ n0)) then
    pure (decide (n0 ≤ high))
   else
    pure false
     : Option Bool)
 pure (id t6)
theorem wX:∀ n0 low high r,wG n0 low high=some r→∀ {I:Imm} ,RT 84 [vI n0,vI low,vI high] I [] (zU  r):=by
 intro n0 low high r N I;unfold wG at N;refine yL Tryz.func84 fun B=>?_;have H:=iS I;refine vJ []<|zI<|zZ ?_;refine wT N [] (fun t6=>[(6,.bool t6)]) (fun o0 ho0=>?_) ?_
 · have H:=iS I;refine zK<|yE 4 [] [10] rfl<|xZ [10] ho0 ?_ ?_
   · intro hc N;exact yI [] [6] rfl<|yN<|zT (ct N H)
   intro hc N;exact wI [] [(6,vF)]<|yN<|zT (ct N H)
 intro t6 I0 le hMc;refine zI<|yW ?_;obtain rfl:=zC hMc;exact wM
def jL (hsF:List HA) (r:Int):KT:=fun kk I' hs' v=>
  ∃ v0,hsF=hs'∧v=tupV [v0]∧v0=.int .i64 r
def xM (s:(List Int)) (f0:(Int→Option Bool)) (t8:Int):Option (Out Unit (Int)):=do
 if (decide (t8 < (s.length:Int))) then
  let x←idx s t8
  let y←f0 x
  if y then
   pure (.ret t8)
  else
   xM s f0 (W (t8 + 1))
 else
  pure (.done ())
 partial_fixpoint
theorem eZ (s:(List Int)) (f0:(Int→Option Bool)):∀ (t8:Int) (o:Out Unit (Int)),xM s f0 t8=some o→∀ {B}{I0 I:Imm}{Q p c}{fv:Value}{hsF:List HA},I0.le I→(S4 I p s c)→(FV1 Tryz.prog I hsF fv f0)→NG Q→NO Q→(∀ (I':Imm) ,o=(.done ())→I0.le I'→T 19 B Q (.exit 0) I' hsF [])→(∀ r I' hs' m',o=(.ret r)→I0.le I'→RS Tryz.prog Tryz.f136 B (jL hsF r) I' hs' m'→T 19 B Q .ret I' hs' m')→J Tryz.prog 19 B (nav (bodyOf Tryz.f136) [1,0,1,0]) Q I hsF [(0,vS p s c),(1,fv),(7,vI (s.length:Int)),(8,vI t8)]:=by
 refine xM.partial_correctness s f0 _ fun self ih t8 o N B I0 I Q p c fv hsF H h h1 hg ho hx hr=>yQ hg ho<|yF [9] rfl<|zY<|yC N ?_ ?_
 · intro hc N;refine zS<|zY<|yG<|yF [5] rfl<|yX<|yE 3 [] [11,12,13] rfl<|bE N fun x hy N=>xK rfl rfl h hy ?_;intro ad ccs hat hrep;obtain rfl:=hrep;refine xF 0 hat [vI x] (vI x) rfl<|bE N fun y hy1 N=>zK2 rfl rfl h1 hy1 rfl (List.append_nil _).symm ?_;rintro I0 v0 le rfl;refine vK (hs':=hsF) (List.append_nil _) ?_;have ⟨h,h1,H⟩:=m3 le h h1 H;refine yB rfl<|zI<|yC N ?_ ?_
   · intro hc1 N;exact yF [4] rfl<|xG<|zV<|zG<|zG<|hr _ _ _ _ (zC N).symm H ⟨_,_,(.tmp rfl ResV.nil),(fun _ h=>h),⟨_,rfl,rfl,rfl⟩⟩
   intro hc1 N;exact zS<|zO<|zI<|zK<|yI [] [8] rfl<|yO<|nF<|ih (W (t8 + 1)) _ N H h h1 hg ho hx hr
 intro hc N;exact wJ<|yN<|hx _  (zC N).symm H
def tC (s:(List Int)) (f0:(Int→Option Bool)):Option (Int):=do
 match←xM s f0 0 with
 | .ret r0=>pure r0
 | .done _ =>
  pure (-1)
theorem gG:∀ s f0 r,tC s f0=some r→∀ {I:Imm}{p c}{fv:Value}{hsF:List HA},(S4 I p s c)→(FV1 Tryz.prog I hsF fv f0)→RT 136 [vS p s c,fv] I hsF (jL hsF r):=by
 intro s f0 r N I p c fv hsF h h1;unfold tC at N;refine yL Tryz.func136 fun B=>vJ []<|zY<|yF [7,8] rfl<|xW<|qW [(0,vS p s c),(1,fv),(7,vI (s.length:Int)),(8,vI 0)] ?_;obtain ⟨o0,ho0,hMl⟩:=zB N;refine eZ s f0 0 o0 ho0 iR h h1 (fun _ _ _ h=>h) (fun _ _ h=>h) ?_ ?_
 · intro I01  heq le1;subst o0;refine zR<|wH [4] rfl<|zI<|yW ?_;obtain rfl:=zC hMl;exact xA ⟨_,_,(.tmp rfl ResV.nil),(fun _ h=>h),⟨_,rfl,rfl,rfl⟩⟩
 intro r0 I9 hs9 m9 heq9 le9 hrs9;subst heq9;refine zV<|zG ?_;obtain rfl:=zC hMl;exact xA hrs9
def eI (hsF:List HA) (r:Bool):KT:=fun kk I' hs' v=>
  ∃ v0,hsF=hs'∧v=tupV [v0]∧v0=.bool r
def xN (s:(List Int)) (f0:(Int→Option Bool)):Option (Bool):=do
 let y←tC s f0
 pure (decide (y ≥ 0))
theorem rB:∀ s f0 r,xN s f0=some r→∀ {I:Imm}{p c}{fv:Value}{hsF:List HA},(S4 I p s c)→(FV1 Tryz.prog I hsF fv f0)→RT 71 [vS p s c,fv] I hsF (eI hsF r):=by
 intro s f0 r N I p c fv hsF h h1;unfold xN at N;refine yL Tryz.func71 fun B=>vJ []<|yX<|yE 2 [] [5,6] rfl<|bE N fun y hy N=>zEu (hs1:=hsF) (rest:=[]) rfl rfl rfl rfl (by kernel_rfl) rfl (List.append_nil _).symm (gG s f0 _ hy h h1) ?_;rintro I0 hs2 v2 k2 le - ⟨v0,rfl,rfl,rfl⟩ -;refine vK (hs':=hsF) (List.append_nil _) ?_;refine yI [] [4] rfl<|zI<|yW ?_;obtain rfl:=zC N;exact xA ⟨_,_,(.tmp rfl ResV.nil),(fun _ h=>h),⟨_,rfl,rfl,rfl⟩⟩
def jQ (s:Str) (substr:Str):Option Bool:=match substr.l with | [c]=>some (decide (0 ≤ Lib.indexByte s.l c)) | _=>none
theorem zCz:∀ (s substr:Str) r,jQ s substr=some r→∀ {I:Imm},RT 197 [vT s.l,vT substr.l] I [] (zU r):=by
 intro s substr r N I;unfold jQ at N;split at N
 · rename_i c hc;cases N
   rw [hc];exact zKz (fun w g=>(Tryz.strings_Contains_one ⟨⟨s.l⟩⟩ c w).mono fun e w' ⟨h1,h2⟩=>⟨h1,h2 ▸ RowKit.Below.refl _ _,Nat.le_of_eq (by rw [h2])⟩) fun k=>⟨_,rfl,rfl,rfl⟩
 cases N
def kY (s:Str):Option (Bool):=do
 let t2←(do
   if ((s.l.length:Int) == 1) then
    let y←jQ (⟨[65,66,67,68]⟩:Str) s
    pure (id y)
   else
    pure false
     : Option Bool)
 pure (id t2)
theorem nK:∀ s r,kY s=some r→∀ {I:Imm} ,RT 150 [vT s.l] I [] (zU  r):=by
 intro s r N I;unfold kY at N;refine yL Tryz.func150 fun B=>?_;have H:=iS I;refine vJ []<|zI<|zZ ?_;refine wT N [] (fun t2=>[(2,.bool t2)]) (fun o0 ho0=>?_) ?_
 · have H:=iS I;refine zK<|yE 4 [] [6] rfl<|xZ [6] ho0 ?_ ?_
   · intro hc N;refine yE 5 [] [7] rfl<|bE N fun y hy N=>uH (zCz (⟨[65,66,67,68]⟩:Str) s _ hy ) ?_;intro I01 le;have H:=H.trans le;exact yI [] [2] rfl<|yN<|zT (ct N H)
   intro hc N;exact wI [] [(2,vF)]<|yN<|zT (ct N H)
 intro t2 I0 le1 hMc;refine zI<|yW ?_;obtain rfl:=zC hMc;exact wM
def tK (n0:Int):Option (Bool):=do
 let y←wG n0 1 6
 pure (!y)
theorem zAV:∀ n0 r,tK n0=some r→∀ {I:Imm} ,RT 151 [vI n0] I [] (zU  r):=by
 intro n0 r N I;unfold tK at N;refine yL Tryz.func151 fun B=>vJ []<|yX<|yE 1 [] [3] rfl<|bE N fun y hy N=>uH (wX n0 1 6 _ hy ) fun I0 le=>wI [] [(2,.bool (!y))]<|zI<|yW ?_;obtain rfl:=zC N;exact wM
def qQ (list:(List zF)) (t7:Int):Option (Out Unit (Bool)):=do
 if (decide (t7 < (list.length:Int))) then
  let x←idx list t7
  let t42←(do
    let y←kY x.Name
    if (!y) then
     pure true
    else
     if (decide (t7 > 0)) then
      let x1←idx list (W (t7 - 1))
      if (!(Op.bytesLess x1.Name.l x.Name.l)) then
       pure true
      else
       let y1←wG (x.Dims.length:Int) 1 2
       if (!y1) then
        pure true
       else
        let y2←xN x.Dims tK
        pure (id y2)
     else
      let y3←wG (x.Dims.length:Int) 1 2
      if (!y3) then
       pure true
      else
       let y4←xN x.Dims tK
       pure (id y4)
      : Option Bool)
  if t42 then
   pure (.ret false)
  else
   qQ list (W (t7 + 1))
 else
  pure (.done ())
 partial_fixpoint
theorem zDA (list:(List zF)):∀ (t7:Int) (o:Out Unit (Bool)),qQ list t7=some o→∀ {B}{I0 I:Imm}{Q p c},I0.le I→(S4 I p list c)→NG Q→NO Q→(∀ (I':Imm) ,o=(.done ())→I0.le I'→T 47 B Q (.exit 0) I' [] [(0,vS p list c)])→(∀ r I' hs' m',o=(.ret r)→I0.le I'→RS Tryz.prog Tryz.f88 B (zU  r) I' hs' m'→T 47 B Q .ret I' hs' m')→J Tryz.prog 47 B (nav (bodyOf Tryz.f88) [1,0,1,0]) Q I [] [(0,vS p list c),(5,vS p list c),(6,vI (list.length:Int)),(7,vI t7)]:=by
 refine qQ.partial_correctness list _ fun self ih t7 o N B I0 I Q p c H h hg ho hx hr=>yQ hg ho<|yF [8] rfl<|zY<|yC N ?_ ?_
 · intro hc N;refine zS<|zY<|yG<|yD<|yE 1 [] [9] rfl<|bE N fun x hy N=>xK rfl rfl h hy ?_;intro ad ccs hat hrep;obtain ⟨p1,c1,rfl,h1⟩:=wO hrep;refine xF 0 hat (cArr x p1 c1) (vA (cArr x p1 c1)) rfl<|wY [vT ([]),z0] ?_;intro b hb;refine yE 5 [] [3] rfl<|xJ 0 (cArr x p1 c1) rfl<|yB rfl<|zI<|zZ ?_;refine wT N [] (fun t42=>[(0,vS p list c),(5,vS p list c),(6,vI (list.length:Int)),(7,vI t7),(42,.bool t42)]) (fun o0 ho0=>?_) ?_
   · have H:=iS I;obtain ⟨y,hy1,N⟩:=zB ho0;cases hc1:(!y) with
     | true =>
      have hM0:=sT hc1 N;refine wK [.p (vP b 0) [],.p (vT x.Name.l) [0],.q (.bool y),.q vY,.q vY,.p undef [],.p undef [],.p undef [],.p undef [],.p undef [],.p undef [],.p undef [],.p undef [],.p undef [],.p undef [],.p undef [],.p undef [],.p undef [],.p vY [],.p vY [],.p undef [],.p undef [],.p undef [],.p undef [],.p undef [],.p vY [],.p vY [],.p undef [],.p undef [],.p undef [],.p vY []] [[],[(0,false)],[(1,false)],[(2,false)],[(3,false)],[(4,false)],[(4,false),(5,false)],[(4,false),(6,false)],[(7,false)],[(7,false)],[(7,false),(9,false)],[(7,false),(8,false),(10,false)],[(7,false),(11,false)],[(7,false),(12,false)],[(7,false)],[(7,false),(14,false)],[(7,false),(13,false),(15,false)],[(4,false),(7,false),(16,false)],[(4,false),(17,false)],[(18,false)],[(19,false)],[(19,false),(20,false)],[(19,false),(21,false)],[(19,false),(22,false)],[(19,false),(23,false)],[(19,false),(24,false)],[(25,false)],[(26,false)],[(26,false),(27,false)],[(26,false),(28,false)],[(26,false),(29,false)]] [hB b (cArr x p1 c1)] [] [(30,false)] (zX [0]) ?_ ?_
      · refine Op<|Op<|Oq ?_<|Oq ?_<|Oq ?_<|Op<|Op<|Op<|Op<|Op<|Op<|Op<|Op<|Op<|Op<|Op<|Op<|Op<|Op<|Op<|Op<|Op<|Op<|Op<|Op<|Op<|Op<|Op<|Op<|Op<|Op<|On
        · intro I1 hf le1;refine yR [13] rfl ?_;have H:=iS I1;refine uH (nK x.Name _ hy1 ) ?_;intro I01 le;have H:=H.trans le;exact xE H
        · intro I1 hf le1;refine yR [14] rfl<|oY 4 [(15,.bool (!y))] ?_;rw [hc1];exact xE iR
        intro I1 hf le1;exact I_h [(15,vY)]<|oY 5 [(16,vY)]<|xE iR
      intro I02 le1;refine yR [0,5,6,7,42] rfl ?_;have H:=H.trans le1;exact yB rfl<|xY zQ<|yN<|zT (ct hM0 H)
     | false =>
      have hM01:=tU hc1 N;cases hc2:(decide (t7 > 0)) with
      | true =>
       have hM02:=sT hc2 hM01;obtain ⟨x1,hy2,N⟩:=zB hM02;cases hc3:(!(Op.bytesLess x1.Name.l x.Name.l)) with
       | true =>
        have hM03:=sT hc3 N;refine wK [.p (vP b 0) [],.p (vT x.Name.l) [0],.q (.bool y),.q vF,.q vF,.p (vI t7) [],.q vY,.q vY,.p (vS p list c) [],.p (vI t7) [],.p (vI (W (t7 - 1))) [],.x (ePArr x1),.x (ePArr x1),.q (vT x1.Name.l),.p (vP b 0) [],.p (vT x.Name.l) [0],.q vY,.q vY,.q vY,.q vY,.p undef [],.p undef [],.p undef [],.p undef [],.p undef [],.p vY [],.p vY [],.p undef [],.p undef [],.p undef [],.p vY []] [[],[(0,false)],[(1,false)],[(2,false)],[(3,false)],[(4,false)],[(4,false),(5,false)],[(4,false),(6,false)],[(7,false)],[(7,false)],[(7,false),(9,false)],[(7,false),(8,false),(10,false)],[(7,false),(11,false)],[(7,false),(12,false)],[(7,false)],[(7,false),(14,false)],[(7,false),(13,false),(15,false)],[(4,false),(7,false),(16,false)],[(4,false),(17,false)],[(18,false)],[(19,false)],[(19,false),(20,false)],[(19,false),(21,false)],[(19,false),(22,false)],[(19,false),(23,false)],[(19,false),(24,false)],[(25,false)],[(26,false)],[(26,false),(27,false)],[(26,false),(28,false)],[(26,false),(29,false)]] [hB b (cArr x p1 c1)] [] [(30,false)] (zX [0]) ?_ ?_
        · refine Op<|Op<|Oq ?_<|Oq ?_<|Oq ?_<|Op<|Oq ?_<|Oq ?_<|Op<|Op<|Op<|Ox ?_<|Ox ?_<|Oq ?_<|Op<|Op<|Oq ?_<|Oq ?_<|Oq ?_<|Oq ?_<|Op<|Op<|Op<|Op<|Op<|Op<|Op<|Op<|Op<|Op<|Op<|On
          · intro I1 hf le1;refine yR [13] rfl ?_;have H:=iS I1;refine uH (nK x.Name _ hy1 ) ?_;intro I01 le;have H:=H.trans le;exact xE H
          · intro I1 hf le1;refine yR [14] rfl<|oY 4 [(15,.bool (!y))] ?_;rw [hc1];exact xE iR
          · intro I1 hf le1;exact I_h [(15,vF)]<|oY 5 [(16,vF)]<|xE iR
          · intro I1 hf le1;refine yR [16,17] rfl<|oY 7 [(18,.bool (decide (t7 > 0)))] ?_;rw [hc2];exact xE iR
          · intro I1 hf le1;exact yR [16,18] rfl<|oY 8 [(19,vY)]<|xE iR
          · intro I1 hf le1;refine yR [19,20,22] rfl ?_;have h:=h.mono le1;refine xK rfl rfl h hy2 ?_;intro ad1 ccs1 hat1 hrep1;obtain ⟨p2,c2,rfl,h3⟩:=wO hrep1;exact yK [] iR ⟨_,_,_,rfl,rfl,hat1,h3⟩
          · rintro I1 hf le1 _ _ ⟨rfl,rfl⟩ _ _ ⟨ad1,p2,c2,rfl,rfl,hat1,h3⟩;exact yR [19,23] rfl<|oY 13 [(24,.pointer (some ad1))]<|yK [] iR ⟨_,_,_,rfl,rfl,hat1,h3⟩
          · rintro I1 hf le1 _ _ ⟨rfl,rfl⟩ _ _ ⟨ad11,p21,c21,rfl,rfl,hat11,h31⟩;exact yR [19,24] rfl<|xF 0 hat11 [vT x1.Name.l] (vT x1.Name.l) rfl<|xE iR
          · intro I1 hf le1;refine yR [19,25,27] rfl<|oY 17 [(28,.bool (!(Op.bytesLess x1.Name.l x.Name.l)))] ?_;rw [hc3];exact xE iR
          · intro I1 hf le1;exact yR [16,19,28] rfl<|oY 18 [(29,vY)]<|xE iR
          · intro I1 hf le1;exact yR [16,29] rfl<|oY 19 [(30,vY)]<|xE iR
          intro I1 hf le1;exact I_h [(30,vY)]<|oY 20 [(31,vY)]<|xE iR
        intro I03 le2;refine yR [0,5,6,7,42] rfl ?_;have H:=H.trans le2;exact yB rfl<|xY zQ<|yN<|zT (ct hM03 H)
       | false =>
        have hM04:=tU hc3 N;obtain ⟨y1,hy3,N⟩:=zB hM04;cases hc4:(!y1) with
        | true =>
         have hM05:=sT hc4 N;refine wK [.p (vP b 0) [],.p (vT x.Name.l) [0],.q (.bool y),.q vF,.q vF,.p (vI t7) [],.q vY,.q vY,.p (vS p list c) [],.p (vI t7) [],.p (vI (W (t7 - 1))) [],.x (ePArr x1),.x (ePArr x1),.q (vT x1.Name.l),.p (vP b 0) [],.p (vT x.Name.l) [0],.q vF,.q vF,.q vF,.q vF,.p (vP b 1) [],.p (vS p1 x.Dims c1) [0],.p (vI (x.Dims.length:Int)) [],.q (.bool y1),.q vY,.q vY,.q vY,.p undef [],.p undef [],.p undef [],.p vY []] [[],[(0,false)],[(1,false)],[(2,false)],[(3,false)],[(4,false)],[(4,false),(5,false)],[(4,false),(6,false)],[(7,false)],[(7,false)],[(7,false),(9,false)],[(7,false),(8,false),(10,false)],[(7,false),(11,false)],[(7,false),(12,false)],[(7,false)],[(7,false),(14,false)],[(7,false),(13,false),(15,false)],[(4,false),(7,false),(16,false)],[(4,false),(17,false)],[(18,false)],[(19,false)],[(19,false),(20,false)],[(19,false),(21,false)],[(19,false),(22,false)],[(19,false),(23,false)],[(19,false),(24,false)],[(25,false)],[(26,false)],[(26,false),(27,false)],[(26,false),(28,false)],[(26,false),(29,false)]] [hB b (cArr x p1 c1)] [] [(30,false)] (zX [0]) ?_ ?_
         · refine Op<|Op<|Oq ?_<|Oq ?_<|Oq ?_<|Op<|Oq ?_<|Oq ?_<|Op<|Op<|Op<|Ox ?_<|Ox ?_<|Oq ?_<|Op<|Op<|Oq ?_<|Oq ?_<|Oq ?_<|Oq ?_<|Op<|Op<|Op<|Oq ?_<|Oq ?_<|Oq ?_<|Oq ?_<|Op<|Op<|Op<|Op<|On
           · intro I1 hf le1;refine yR [13] rfl ?_;have H:=iS I1;refine uH (nK x.Name _ hy1 ) ?_;intro I01 le;have H:=H.trans le;exact xE H
           · intro I1 hf le1;refine yR [14] rfl<|oY 4 [(15,.bool (!y))] ?_;rw [hc1];exact xE iR
           · intro I1 hf le1;exact I_h [(15,vF)]<|oY 5 [(16,vF)]<|xE iR
           · intro I1 hf le1;refine yR [16,17] rfl<|oY 7 [(18,.bool (decide (t7 > 0)))] ?_;rw [hc2];exact xE iR
           · intro I1 hf le1;exact yR [16,18] rfl<|oY 8 [(19,vY)]<|xE iR
           · intro I1 hf le1;refine yR [19,20,22] rfl ?_;have h:=h.mono le1;refine xK rfl rfl h hy2 ?_;intro ad1 ccs1 hat1 hrep1;obtain ⟨p2,c2,rfl,h3⟩:=wO hrep1;exact yK [] iR ⟨_,_,_,rfl,rfl,hat1,h3⟩
           · rintro I1 hf le1 _ _ ⟨rfl,rfl⟩ _ _ ⟨ad1,p2,c2,rfl,rfl,hat1,h3⟩;exact yR [19,23] rfl<|oY 13 [(24,.pointer (some ad1))]<|yK [] iR ⟨_,_,_,rfl,rfl,hat1,h3⟩
           · rintro I1 hf le1 _ _ ⟨rfl,rfl⟩ _ _ ⟨ad11,p21,c21,rfl,rfl,hat11,h31⟩;exact yR [19,24] rfl<|xF 0 hat11 [vT x1.Name.l] (vT x1.Name.l) rfl<|xE iR
           · intro I1 hf le1;refine yR [19,25,27] rfl<|oY 17 [(28,.bool (!(Op.bytesLess x1.Name.l x.Name.l)))] ?_;rw [hc3];exact xE iR
           · intro I1 hf le1;exact yR [16,19,28] rfl<|oY 18 [(29,vF)]<|xE iR
           · intro I1 hf le1;exact yR [16,29] rfl<|oY 19 [(30,vF)]<|xE iR
           · intro I1 hf le1;exact I_h [(30,vF)]<|oY 20 [(31,vF)]<|xE iR
           · intro I1 hf le1;refine yR [31,34] rfl ?_;have H:=iS I1;refine uH (wX (x.Dims.length:Int) 1 2 _ hy3 ) ?_;intro I04 le3;have H:=H.trans le3;exact xE H
           · intro I1 hf le1;refine yR [31,35] rfl<|oY 25 [(36,.bool (!y1))] ?_;rw [hc4];exact xE iR
           · intro I1 hf le1;exact yR [31,36] rfl<|oY 26 [(37,vY)]<|xE iR
           intro I1 hf le1;exact I_h [(37,vY)]<|oY 27 [(38,vY)]<|xE iR
         intro I05 le4;refine yR [0,5,6,7,42] rfl ?_;have H:=H.trans le4;exact yB rfl<|xY zQ<|yN<|zT (ct hM05 H)
        | false =>
         have hM06:=tU hc4 N;obtain ⟨y2,hy4,N⟩:=zB hM06;refine wK [.p (vP b 0) [],.p (vT x.Name.l) [0],.q (.bool y),.q vF,.q vF,.p (vI t7) [],.q vY,.q vY,.p (vS p list c) [],.p (vI t7) [],.p (vI (W (t7 - 1))) [],.x (ePArr x1),.x (ePArr x1),.q (vT x1.Name.l),.p (vP b 0) [],.p (vT x.Name.l) [0],.q vF,.q vF,.q vF,.q vF,.p (vP b 1) [],.p (vS p1 x.Dims c1) [0],.p (vI (x.Dims.length:Int)) [],.q (.bool y1),.q vF,.q vF,.q vF,.p (vP b 1) [],.p (vS p1 x.Dims c1) [0],.q (.bool y2),.p (.bool y2) []] [[],[(0,false)],[(1,false)],[(2,false)],[(3,false)],[(4,false)],[(4,false),(5,false)],[(4,false),(6,false)],[(7,false)],[(7,false)],[(7,false),(9,false)],[(7,false),(8,false),(10,false)],[(7,false),(11,false)],[(7,false),(12,false)],[(7,false)],[(7,false),(14,false)],[(7,false),(13,false),(15,false)],[(4,false),(7,false),(16,false)],[(4,false),(17,false)],[(18,false)],[(19,false)],[(19,false),(20,false)],[(19,false),(21,false)],[(19,false),(22,false)],[(19,false),(23,false)],[(19,false),(24,false)],[(25,false)],[(26,false)],[(26,false),(27,false)],[(26,false),(28,false)],[(26,false),(29,false)]] [hB b (cArr x p1 c1)] [] [(30,false)] (zX [0]) ?_ ?_
         · refine Op<|Op<|Oq ?_<|Oq ?_<|Oq ?_<|Op<|Oq ?_<|Oq ?_<|Op<|Op<|Op<|Ox ?_<|Ox ?_<|Oq ?_<|Op<|Op<|Oq ?_<|Oq ?_<|Oq ?_<|Oq ?_<|Op<|Op<|Op<|Oq ?_<|Oq ?_<|Oq ?_<|Oq ?_<|Op<|Op<|Oq ?_<|Op<|On
           · intro I1 hf le1;refine yR [13] rfl ?_;have H:=iS I1;refine uH (nK x.Name _ hy1 ) ?_;intro I01 le;have H:=H.trans le;exact xE H
           · intro I1 hf le1;refine yR [14] rfl<|oY 4 [(15,.bool (!y))] ?_;rw [hc1];exact xE iR
           · intro I1 hf le1;exact I_h [(15,vF)]<|oY 5 [(16,vF)]<|xE iR
           · intro I1 hf le1;refine yR [16,17] rfl<|oY 7 [(18,.bool (decide (t7 > 0)))] ?_;rw [hc2];exact xE iR
           · intro I1 hf le1;exact yR [16,18] rfl<|oY 8 [(19,vY)]<|xE iR
           · intro I1 hf le1;refine yR [19,20,22] rfl ?_;have h:=h.mono le1;refine xK rfl rfl h hy2 ?_;intro ad1 ccs1 hat1 hrep1;obtain ⟨p2,c2,rfl,h3⟩:=wO hrep1;exact yK [] iR ⟨_,_,_,rfl,rfl,hat1,h3⟩
           · rintro I1 hf le1 _ _ ⟨rfl,rfl⟩ _ _ ⟨ad1,p2,c2,rfl,rfl,hat1,h3⟩;exact yR [19,23] rfl<|oY 13 [(24,.pointer (some ad1))]<|yK [] iR ⟨_,_,_,rfl,rfl,hat1,h3⟩
           · rintro I1 hf le1 _ _ ⟨rfl,rfl⟩ _ _ ⟨ad11,p21,c21,rfl,rfl,hat11,h31⟩;exact yR [19,24] rfl<|xF 0 hat11 [vT x1.Name.l] (vT x1.Name.l) rfl<|xE iR
           · intro I1 hf le1;refine yR [19,25,27] rfl<|oY 17 [(28,.bool (!(Op.bytesLess x1.Name.l x.Name.l)))] ?_;rw [hc3];exact xE iR
           · intro I1 hf le1;exact yR [16,19,28] rfl<|oY 18 [(29,vF)]<|xE iR
           · intro I1 hf le1;exact yR [16,29] rfl<|oY 19 [(30,vF)]<|xE iR
           · intro I1 hf le1;exact I_h [(30,vF)]<|oY 20 [(31,vF)]<|xE iR
           · intro I1 hf le1;refine yR [31,34] rfl ?_;have H:=iS I1;refine uH (wX (x.Dims.length:Int) 1 2 _ hy3 ) ?_;intro I04 le3;have H:=H.trans le3;exact xE H
           · intro I1 hf le1;refine yR [31,35] rfl<|oY 25 [(36,.bool (!y1))] ?_;rw [hc4];exact xE iR
           · intro I1 hf le1;exact yR [31,36] rfl<|oY 26 [(37,vF)]<|xE iR
           · intro I1 hf le1;exact I_h [(37,vF)]<|oY 27 [(38,vF)]<|xE iR
           intro I1 hf le1;refine yR [38,40] rfl ?_;have H:=iS I1;have ⟨h,h1⟩:=m2 le1 h h1;have hf0:FV1 Tryz.prog I1 [] (.func (.func 151) ⟨[]⟩ ⟨[]⟩) tK:=by
             refine FV1.intro ?_;intro I1 le1 x0 r u0 hF k0;obtain rfl:=k0;exact (zAV x0 r hF ).mono (by rintro k i hs u ⟨v0,rfl,rfl,h⟩; exact ⟨rfl,h⟩)
           refine xP (rB x.Dims tK _ hy4 h1 hf0) ?_;rintro I06 hs2 v2 k2 le5 - ⟨v04,rfl,rfl,rfl⟩ -;have H:=H.trans le5;exact xE H
         intro I07 le6;refine yR [0,5,6,7,42] rfl ?_;have H:=H.trans le6;exact yB rfl<|xY zQ<|yN<|zT (ct N H)
      | false =>
       have hM07:=tU hc2 hM01;obtain ⟨y3,hy5,N⟩:=zB hM07;cases hc5:(!y3) with
       | true =>
        have hM08:=sT hc5 N;refine wK [.p (vP b 0) [],.p (vT x.Name.l) [0],.q (.bool y),.q vF,.q vF,.p (vI t7) [],.q vF,.q vF,.p undef [],.p undef [],.p undef [],.p undef [],.p undef [],.p undef [],.p undef [],.p undef [],.p undef [],.p vF [],.p vF [],.p vF [],.p (vP b 1) [],.p (vS p1 x.Dims c1) [0],.p (vI (x.Dims.length:Int)) [],.q (.bool y3),.q vY,.q vY,.q vY,.p undef [],.p undef [],.p undef [],.p vY []] [[],[(0,false)],[(1,false)],[(2,false)],[(3,false)],[(4,false)],[(4,false),(5,false)],[(4,false),(6,false)],[(7,false)],[(7,false)],[(7,false),(9,false)],[(7,false),(8,false),(10,false)],[(7,false),(11,false)],[(7,false),(12,false)],[(7,false)],[(7,false),(14,false)],[(7,false),(13,false),(15,false)],[(4,false),(7,false),(16,false)],[(4,false),(17,false)],[(18,false)],[(19,false)],[(19,false),(20,false)],[(19,false),(21,false)],[(19,false),(22,false)],[(19,false),(23,false)],[(19,false),(24,false)],[(25,false)],[(26,false)],[(26,false),(27,false)],[(26,false),(28,false)],[(26,false),(29,false)]] [hB b (cArr x p1 c1)] [] [(30,false)] (zX [0]) ?_ ?_
        · refine Op<|Op<|Oq ?_<|Oq ?_<|Oq ?_<|Op<|Oq ?_<|Oq ?_<|Op<|Op<|Op<|Op<|Op<|Op<|Op<|Op<|Op<|Op<|Op<|Op<|Op<|Op<|Op<|Oq ?_<|Oq ?_<|Oq ?_<|Oq ?_<|Op<|Op<|Op<|Op<|On
          · intro I1 hf le1;refine yR [13] rfl ?_;have H:=iS I1;refine uH (nK x.Name _ hy1 ) ?_;intro I01 le;have H:=H.trans le;exact xE H
          · intro I1 hf le1;refine yR [14] rfl<|oY 4 [(15,.bool (!y))] ?_;rw [hc1];exact xE iR
          · intro I1 hf le1;exact I_h [(15,vF)]<|oY 5 [(16,vF)]<|xE iR
          · intro I1 hf le1;refine yR [16,17] rfl<|oY 7 [(18,.bool (decide (t7 > 0)))] ?_;rw [hc2];exact xE iR
          · intro I1 hf le1;exact yR [16,18] rfl<|oY 8 [(19,vF)]<|xE iR
          · intro I1 hf le1;refine yR [31,34] rfl ?_;have H:=iS I1;refine uH (wX (x.Dims.length:Int) 1 2 _ hy5 ) ?_;intro I08 le7;have H:=H.trans le7;exact xE H
          · intro I1 hf le1;refine yR [31,35] rfl<|oY 25 [(36,.bool (!y3))] ?_;rw [hc5];exact xE iR
          · intro I1 hf le1;exact yR [31,36] rfl<|oY 26 [(37,vY)]<|xE iR
          intro I1 hf le1;exact I_h [(37,vY)]<|oY 27 [(38,vY)]<|xE iR
        intro I09 le8;refine yR [0,5,6,7,42] rfl ?_;have H:=H.trans le8;exact yB rfl<|xY zQ<|yN<|zT (ct hM08 H)
       | false =>
        have hM09:=tU hc5 N;obtain ⟨y4,hy6,N⟩:=zB hM09;refine wK [.p (vP b 0) [],.p (vT x.Name.l) [0],.q (.bool y),.q vF,.q vF,.p (vI t7) [],.q vF,.q vF,.p undef [],.p undef [],.p undef [],.p undef [],.p undef [],.p undef [],.p undef [],.p undef [],.p undef [],.p vF [],.p vF [],.p vF [],.p (vP b 1) [],.p (vS p1 x.Dims c1) [0],.p (vI (x.Dims.length:Int)) [],.q (.bool y3),.q vF,.q vF,.q vF,.p (vP b 1) [],.p (vS p1 x.Dims c1) [0],.q (.bool y4),.p (.bool y4) []] [[],[(0,false)],[(1,false)],[(2,false)],[(3,false)],[(4,false)],[(4,false),(5,false)],[(4,false),(6,false)],[(7,false)],[(7,false)],[(7,false),(9,false)],[(7,false),(8,false),(10,false)],[(7,false),(11,false)],[(7,false),(12,false)],[(7,false)],[(7,false),(14,false)],[(7,false),(13,false),(15,false)],[(4,false),(7,false),(16,false)],[(4,false),(17,false)],[(18,false)],[(19,false)],[(19,false),(20,false)],[(19,false),(21,false)],[(19,false),(22,false)],[(19,false),(23,false)],[(19,false),(24,false)],[(25,false)],[(26,false)],[(26,false),(27,false)],[(26,false),(28,false)],[(26,false),(29,false)]] [hB b (cArr x p1 c1)] [] [(30,false)] (zX [0]) ?_ ?_
        · refine Op<|Op<|Oq ?_<|Oq ?_<|Oq ?_<|Op<|Oq ?_<|Oq ?_<|Op<|Op<|Op<|Op<|Op<|Op<|Op<|Op<|Op<|Op<|Op<|Op<|Op<|Op<|Op<|Oq ?_<|Oq ?_<|Oq ?_<|Oq ?_<|Op<|Op<|Oq ?_<|Op<|On
          · intro I1 hf le1;refine yR [13] rfl ?_;have H:=iS I1;refine uH (nK x.Name _ hy1 ) ?_;intro I01 le;have H:=H.trans le;exact xE H
          · intro I1 hf le1;refine yR [14] rfl<|oY 4 [(15,.bool (!y))] ?_;rw [hc1];exact xE iR
          · intro I1 hf le1;exact I_h [(15,vF)]<|oY 5 [(16,vF)]<|xE iR
          · intro I1 hf le1;refine yR [16,17] rfl<|oY 7 [(18,.bool (decide (t7 > 0)))] ?_;rw [hc2];exact xE iR
          · intro I1 hf le1;exact yR [16,18] rfl<|oY 8 [(19,vF)]<|xE iR
          · intro I1 hf le1;refine yR [31,34] rfl ?_;have H:=iS I1;refine uH (wX (x.Dims.length:Int) 1 2 _ hy5 ) ?_;intro I08 le7;have H:=H.trans le7;exact xE H
          · intro I1 hf le1;refine yR [31,35] rfl<|oY 25 [(36,.bool (!y3))] ?_;rw [hc5];exact xE iR
          · intro I1 hf le1;exact yR [31,36] rfl<|oY 26 [(37,vF)]<|xE iR
          · intro I1 hf le1;exact I_h [(37,vF)]<|oY 27 [(38,vF)]<|xE iR
          intro I1 hf le1;refine yR [38,40] rfl ?_;have H:=iS I1;have ⟨h,h1⟩:=m2 le1 h h1;have hf01:FV1 Tryz.prog I1 [] (.func (.func 151) ⟨[]⟩ ⟨[]⟩) tK:=by
            refine FV1.intro ?_;intro I1 le1 x0 r u0 hF k0;obtain rfl:=k0;exact (zAV x0 r hF ).mono (by rintro k i hs u ⟨v0,rfl,rfl,h⟩; exact ⟨rfl,h⟩)
          refine xP (rB x.Dims tK _ hy6 h1 hf01) ?_;rintro I010 hs2 v2 k2 le9 - ⟨v06,rfl,rfl,rfl⟩ -;have H:=H.trans le9;exact xE H
        intro I011 le10;refine yR [0,5,6,7,42] rfl ?_;have H:=H.trans le10;exact yB rfl<|xY zQ<|yN<|zT (ct N H)
   intro t42 I0 le11 hMc;have ⟨h,H⟩:=m2 le11 h H;refine zI<|yC hMc ?_ ?_
   · intro hc6 N;exact vJ [(2,vF)]<|xG<|zV<|zG<|zG<|hr _ _ _ _ (zC N).symm H ⟨_,_,(.tmp rfl ResV.nil),zQ,⟨_,rfl,rfl,rfl⟩⟩
   intro hc6 N;exact zS<|zO<|zI<|zK<|yI [] [7] rfl<|yO<|nF<|ih (W (t7 + 1)) _ N H h hg ho hx hr
 intro hc N;exact wJ<|yN<|hx _  (zC N).symm H
def jY (list:(List zF)):Option (Bool):=do
 match←qQ list 0 with
 | .ret r0=>pure r0
 | .done _ =>
  pure (decide ((list.length:Int) ≤ 4))
theorem zF0:∀ list r,jY list=some r→∀ {I:Imm}{p c},(S4 I p list c)→RT 88 [vS p list c] I [] (zU  r):=by
 intro list r N I p c h;unfold jY at N;refine yL Tryz.func88 fun B=>vJ []<|zY<|yF [5,6,7] rfl<|xW<|qW [(0,vS p list c),(5,vS p list c),(6,vI (list.length:Int)),(7,vI 0)] ?_;obtain ⟨o01,ho01,hMl⟩:=zB N;refine zDA list 0 o01 ho01 iR h (fun _ _ _ h=>h) (fun _ _ h=>h) ?_ ?_
 · intro I012  heq1 le12;subst o01;refine zR<|wH [2] rfl<|zI<|yW ?_;obtain rfl:=zC hMl;exact wM
 intro r0 I9 hs9 m9 heq9 le9 hrs9;subst heq9;refine zV<|zG ?_;obtain rfl:=zC hMl;exact xA hrs9
def qI (hsF:List HA) (r:Int):KT:=fun kk I' hs' v=>
  ∃ v0,hsF=hs'∧v=tupV [v0]∧v0=.int .i64 r
def xC (s:(List zA)) (f0:(zA→Option Bool)) (t8:Int):Option (Out Unit (Int)):=do
 if (decide (t8 < (s.length:Int))) then
  let x←idx s t8
  let y←f0 x
  if y then
   pure (.ret t8)
  else
   xC s f0 (W (t8 + 1))
 else
  pure (.done ())
 partial_fixpoint
theorem kM (s:(List zA)) (f0:(zA→Option Bool)):∀ (t8:Int) (o:Out Unit (Int)),xC s f0 t8=some o→∀ {B}{I0 I:Imm}{Q p c}{fv:Value}{hsF:List HA},I0.le I→(S4 I p s c)→(FV1 Tryz.prog I hsF fv f0)→NG Q→NO Q→(∀ (I':Imm) ,o=(.done ())→I0.le I'→T 19 B Q (.exit 0) I' hsF [])→(∀ r I' hs' m',o=(.ret r)→I0.le I'→RS Tryz.prog Tryz.f218 B (qI hsF r) I' hs' m'→T 19 B Q .ret I' hs' m')→J Tryz.prog 19 B (nav (bodyOf Tryz.f218) [1,0,1,0]) Q I hsF [(0,vS p s c),(1,fv),(7,vI (s.length:Int)),(8,vI t8)]:=by
 refine xC.partial_correctness s f0 _ fun self ih t8 o N B I0 I Q p c fv hsF H h h1 hg ho hx hr=>yQ hg ho<|yF [9] rfl<|zY<|yC N ?_ ?_
 · intro hc N;refine zS<|zY<|yG<|yF [5] rfl<|yX<|yE 3 [] [11,12,13] rfl<|bE N fun x hy N=>xK rfl rfl h hy ?_;intro ad ccs hat hrep;obtain ⟨p1,c1,rfl,h2⟩:=yS hrep;refine xF 0 hat (cAff x p1 c1) (vA (cAff x p1 c1)) rfl<|bE N fun y hy1 N=>zK2 rfl rfl h1 hy1 ⟨_,rfl,(yP ⟨_,rfl,h2⟩)⟩ (List.append_nil _).symm ?_;rintro I0 v01 le rfl;refine vK (hs':=hsF) (List.append_nil _) ?_;have ⟨h,h1,H⟩:=m3 le h h1 H;refine yB rfl<|zI<|yC N ?_ ?_
   · intro hc1 N;exact yF [4] rfl<|xG<|zV<|zG<|zG<|hr _ _ _ _ (zC N).symm H ⟨_,_,(.tmp rfl ResV.nil),(fun _ h=>h),⟨_,rfl,rfl,rfl⟩⟩
   intro hc1 N;exact zS<|zO<|zI<|zK<|yI [] [8] rfl<|yO<|nF<|ih (W (t8 + 1)) _ N H h h1 hg ho hx hr
 intro hc N;exact wJ<|yN<|hx _  (zC N).symm H
def wZ (s:(List zA)) (f0:(zA→Option Bool)):Option (Int):=do
 match←xC s f0 0 with
 | .ret r0=>pure r0
 | .done _ =>
  pure (-1)
theorem jI:∀ s f0 r,wZ s f0=some r→∀ {I:Imm}{p c}{fv:Value}{hsF:List HA},(S4 I p s c)→(FV1 Tryz.prog I hsF fv f0)→RT 218 [vS p s c,fv] I hsF (qI hsF r):=by
 intro s f0 r N I p c fv hsF h h1;unfold wZ at N;refine yL Tryz.func218 fun B=>vJ []<|zY<|yF [7,8] rfl<|xW<|qW [(0,vS p s c),(1,fv),(7,vI (s.length:Int)),(8,vI 0)] ?_;obtain ⟨o0,ho0,hMl⟩:=zB N;refine kM s f0 0 o0 ho0 iR h h1 (fun _ _ _ h=>h) (fun _ _ h=>h) ?_ ?_
 · intro I01  heq le1;subst o0;refine zR<|wH [4] rfl<|zI<|yW ?_;obtain rfl:=zC hMl;exact xA ⟨_,_,(.tmp rfl ResV.nil),(fun _ h=>h),⟨_,rfl,rfl,rfl⟩⟩
 intro r0 I9 hs9 m9 heq9 le9 hrs9;subst heq9;refine zV<|zG ?_;obtain rfl:=zC hMl;exact xA hrs9
def mJ (hsF:List HA) (r:Bool):KT:=fun kk I' hs' v=>
  ∃ v0,hsF=hs'∧v=tupV [v0]∧v0=.bool r
def xL (s:(List zA)) (f0:(zA→Option Bool)):Option (Bool):=do
 let y←wZ s f0
 pure (decide (y ≥ 0))
theorem qF:∀ s f0 r,xL s f0=some r→∀ {I:Imm}{p c}{fv:Value}{hsF:List HA},(S4 I p s c)→(FV1 Tryz.prog I hsF fv f0)→RT 180 [vS p s c,fv] I hsF (mJ hsF r):=by
 intro s f0 r N I p c fv hsF h h1;unfold xL at N;refine yL Tryz.func180 fun B=>vJ []<|yX<|yE 2 [] [5,6] rfl<|bE N fun y hy N=>zEu (hs1:=hsF) (rest:=[]) rfl rfl rfl rfl (by kernel_rfl) rfl (List.append_nil _).symm (jI s f0 _ hy h h1) ?_;rintro I0 hs2 v2 k2 le - ⟨v0,rfl,rfl,rfl⟩ -;refine vK (hs':=hsF) (List.append_nil _) ?_;refine yI [] [4] rfl<|zI<|yW ?_;obtain rfl:=zC N;exact xA ⟨_,_,(.tmp rfl ResV.nil),(fun _ h=>h),⟨_,rfl,rfl,rfl⟩⟩
def eJ (n0:Int):Option (Bool):=do
 let y←wG n0 (-99) 99
 pure (id y)
theorem zGE:∀ n0 r,eJ n0=some r→∀ {I:Imm} ,RT 73 [vI n0] I [] (zU  r):=by
 intro n0 r N I;unfold eJ at N;refine yL Tryz.func73 fun B=>vJ []<|yX<|yE 1 [] [3] rfl<|bE N fun y hy N=>uH (wX n0 (-99) 99 _ hy ) fun I0 le=>wI [] [(2,.bool y)]<|zI<|yW ?_;obtain rfl:=zC N;exact wM
def sO (c:Int):Option (Bool):=do
 let y←wG c (-9) 9
 pure (!y)
theorem zCB:∀ c r,sO c=some r→∀ {I:Imm} ,RT 110 [vI c] I [] (zU  r):=by
 intro c r N I;unfold sO at N;refine yL Tryz.func110 fun B=>vJ []<|yX<|yE 1 [] [3] rfl<|bE N fun y hy N=>uH (wX c (-9) 9 _ hy ) fun I0 le=>wI [] [(2,.bool (!y))]<|zI<|yW ?_;obtain rfl:=zC N;exact wM
def qR (a0:zA):Option (Bool):=do
 let t2←(do
   if ((a0.Coefs.length:Int) == 4) then
    let y←eJ a0.Const
    if y then
     let y1←xN a0.Coefs sO
     pure (!y1)
    else
     pure false
   else
    pure false
     : Option Bool)
 pure (id t2)
theorem nQ:∀ a0 r,qR a0=some r→∀ {I:Imm}{p c},(S4 I p a0.Coefs c)→RT 51 [vA (cAff a0 p c)] I [] (zU  r):=by
 intro a0 r N I p c h;unfold qR at N;refine yL Tryz.func51 fun B=>?_;have H:=iS I;refine yD<|tS (cAff a0 p c) ?_;intro b hb;refine wI [] []<|zI<|zZ ?_;refine wT N [] (fun t2=>[(2,.bool t2)]) (fun o0 ho0=>?_) ?_
 · have H:=iS I;refine zK<|yE 5 [0] [7] rfl<|xZ [7] ho0 ?_ ?_
   · intro hc N;refine yE 7 [0] [9] rfl<|bE N fun y hy N=>uH (zGE a0.Const _ hy ) ?_;intro I01 le;have ⟨h,H⟩:=m2 le h H;refine yE 10 [] [12] rfl<|xZ [12] N ?_ ?_
     · intro hc1 N;refine yE 12 [0] [14] rfl ?_;have hf0:FV1 Tryz.prog I01 [] (.func (.func 110) ⟨[]⟩ ⟨[]⟩) sO:=by
         refine FV1.intro ?_;intro I1 le1 x0 r u0 hF k0;obtain rfl:=k0;exact (zCB x0 r hF ).mono (by rintro k i hs u ⟨v0,rfl,rfl,h⟩; exact ⟨rfl,h⟩)
       obtain ⟨y1,hy1,N⟩:=zB N;refine xP (rB a0.Coefs sO _ hy1 h hf0) ?_;rintro I02 hs2 v2 k2 le1 - ⟨v01,rfl,rfl,rfl⟩ -;have H:=H.trans le1;exact yI [] [2] rfl<|xY zQ<|yN<|zT (ct N H)
     intro hc1 N;exact wI [] [(2,vF)]<|xY zQ<|yN<|zT (ct N H)
   intro hc N;exact wI [] [(2,vF)]<|xY zQ<|yN<|zT (ct N H)
 intro t2 I0 le2 hMc;refine zI<|yW ?_;obtain rfl:=zC hMc;exact wM
def tP (a0:zA) (n0:Int):Option (Int):=do
 let t17←(do
   if (decide (n0 > 0)) then
    let x←idx a0.Coefs (W (n0 - 1))
    pure (x == 0)
   else
    pure false
     : Option Bool)
 if t17 then
  tP a0 (W (n0 - 1))
 else
  pure (id n0)
 partial_fixpoint
theorem zBQ (a0:zA):∀ (n0:Int) (o:Int),tP a0 n0=some o→∀ {B}{I0 I:Imm}{Q p c}{b:Nat},I0.le I→(S4 I p a0.Coefs c)→NG Q→NO Q→(∀ (I':Imm) (n01:Int),o=n01→I0.le I'→T 21 B Q (.exit 0) I' [] [(3,vI n01)])→J Tryz.prog 21 B (nav (bodyOf Tryz.f182) [1,1,0,0]) Q I [hB b (cAff a0 p c)] [(1,vP b 0),(3,vI n0)]:=by
 refine tP.partial_correctness a0 _ fun self ih n0 o N B I0 I Q p c b H h hg ho hx=>yQ hg ho<|zZ<|zZ ?_;refine wT N [hB b (cAff a0 p c)] (fun t17=>[(1,vP b 0),(3,vI n0),(17,.bool t17)]) (fun o0 ho0=>?_) ?_
 · have H:=iS I;refine zK<|yE 3 [] [9] rfl<|xZ [9] ho0 ?_ ?_
   · intro hc N;refine yE 7 [0] [11,13] rfl<|bE N fun x hy N=>xK rfl rfl h hy ?_;intro ad ccs hat hrep;obtain rfl:=hrep;exact xF 0 hat [vI x] (vI x) rfl<|yI [] [17] rfl<|yN<|zT (ct N H)
   intro hc N;exact wI [] [(17,vF)]<|yN<|zT (ct N H)
 intro t17 I0 le hMc;have ⟨h,H⟩:=m2 le h H;refine zI<|yC hMc ?_ ?_
 · intro hc1 N;exact zS<|xW<|zK<|yI [] [3] rfl<|zO<|yO<|nF<|ih (W (n0 - 1)) _ N H h hg ho hx
 intro hc1 N;exact wJ<|xY zQ<|yN<|hx _ _ (zC N).symm H
def rL (a0:zA):Option (Int):=do
 let n01←tP a0 (a0.Coefs.length:Int)
 pure (id n01)
theorem gT:∀ a0 r,rL a0=some r→∀ {I:Imm}{p c},(S4 I p a0.Coefs c)→RT 182 [vA (cAff a0 p c)] I [] (yM  r):=by
 intro a0 r N I p c h;unfold rL at N;refine yL Tryz.func182 fun B=>yD<|tS (cAff a0 p c) ?_;intro b hb;refine wI [] []<|yX<|yI [0] [3] rfl<|zY<|yG<|qW [(1,vP b 0),(3,vI (a0.Coefs.length:Int))] ?_;obtain ⟨o01,ho01,hMl⟩:=zB N;refine zBQ a0 (a0.Coefs.length:Int) o01 ho01 iR h (fun _ _ _ h=>h) (fun _ _ h=>h) ?_;intro I01 n01 heq1 le1;subst o01;refine zR<|wH [2] rfl<|zI<|yW ?_;obtain rfl:=zC hMl;exact wM
def rV (a0:zA) (x:Int):Option (Bool):=do
 let t3←(do
   let y←qR a0
   if (!y) then
    pure true
   else
    let y1←rL a0
    pure (decide (y1 > x))
     : Option Bool)
 pure (id t3)
theorem zDa:∀ a0 x r,rV a0 x=some r→∀ {I:Imm}{p c}{ad:Addr},(S4 I p a0.Coefs c)→(At I ad [vI x])→RT 234 [vA (cAff a0 p c),.pointer (some ad)] I [] (zU  r):=by
 intro a0 x r N I p c ad h hat;unfold rV at N;refine yL Tryz.func234 fun B=>?_;have H:=iS I;refine yD<|tS (cAff a0 p c) ?_;intro b hb;refine wI [] []<|zI<|zZ ?_;refine wT N [] (fun t3=>[(3,.bool t3)]) (fun o0 ho0=>?_) ?_
 · have H:=iS I;obtain ⟨y,hy,N⟩:=zB ho0;cases hc:(!y) with
   | true =>
    have hM0:=sT hc N;refine wK [.p (vA (cAff a0 p c)) [0],.q (.bool y),.q vY,.q vY,.p undef [],.p undef [],.p undef [],.p undef [],.p vY []] [[],[(0,false)],[(1,false)],[(2,false)],[(3,false)],[(3,false),(4,false)],[(3,false)],[(3,false),(5,false),(6,false)],[(3,false),(7,false)]] [hB b (cAff a0 p c)] [] [(8,false)] (zX [0]) ?_ ?_
    · refine Op<|Oq ?_<|Oq ?_<|Oq ?_<|Op<|Op<|Op<|Op<|Op<|On
      · intro I1 hf le1;refine yR [4] rfl ?_;have H:=iS I1;have h:=h.mono le1;refine uH (nQ a0 _ hy h) ?_;intro I01 le;have H:=H.trans le;exact xE H
      · intro I1 hf le1;refine yR [5] rfl<|oY 3 [(6,.bool (!y))] ?_;rw [hc];exact xE iR
      intro I1 hf le1;exact I_h [(6,vY)]<|oY 4 [(7,vY)]<|xE iR
    intro I02 le1;refine I_h [(12,vY)] ?_;have H:=H.trans le1;exact wI [] [(3,vY)]<|xY zQ<|yN<|zT (ct hM0 H)
   | false =>
    have hM01:=tU hc N;obtain ⟨y1,hy1,N⟩:=zB hM01;refine wK [.p (vA (cAff a0 p c)) [0],.q (.bool y),.q vF,.q vF,.p (vA (cAff a0 p c)) [0],.q (vI y1),.q (vI x),.p (.bool (decide (y1 > x))) [],.p (.bool (decide (y1 > x))) []] [[],[(0,false)],[(1,false)],[(2,false)],[(3,false)],[(3,false),(4,false)],[(3,false)],[(3,false),(5,false),(6,false)],[(3,false),(7,false)]] [hB b (cAff a0 p c)] [] [(8,false)] (zX [0]) ?_ ?_
    · refine Op<|Oq ?_<|Oq ?_<|Oq ?_<|Op<|Oq ?_<|Oq ?_<|Op<|Op<|On
      · intro I1 hf le1;refine yR [4] rfl ?_;have H:=iS I1;have h:=h.mono le1;refine uH (nQ a0 _ hy h) ?_;intro I01 le;have H:=H.trans le;exact xE H
      · intro I1 hf le1;refine yR [5] rfl<|oY 3 [(6,.bool (!y))] ?_;rw [hc];exact xE iR
      · intro I1 hf le1;exact I_h [(6,vF)]<|oY 4 [(7,vF)]<|xE iR
      · intro I1 hf le1;refine yR [7,8] rfl ?_;have H:=iS I1;have h:=h.mono le1;refine gF (gT a0 _ hy1 h) ?_;intro I03 le2;have H:=H.trans le2;exact xE H
      intro I1 hf le1;refine yR [1,7] rfl ?_;have hat:=hat.mono le1;exact xF 0 hat [vI x] (vI x) rfl<|xE iR
    intro I04 le3;refine yR [12] rfl ?_;have H:=H.trans le3;exact yI [] [3] rfl<|xY zQ<|yN<|zT (ct N H)
 intro t3 I0 le4 hMc;refine zI<|yW ?_;obtain rfl:=zC hMc;exact wM
def mO (list:(List zA)) (depth:Int):Option (Bool):=do
 let t4←(do
   let y←wG (list.length:Int) 1 2
   if y then
    let y1←xL list (fun x0=>rV x0 depth)
    pure (!y1)
   else
    pure false
     : Option Bool)
 pure (id t4)
theorem zBR:∀ list depth r,mO list depth=some r→∀ {I:Imm}{p c},(S4 I p list c)→RT 198 [vS p list c,vI depth] I [] (zU  r):=by
 intro list depth r N I p c h;unfold mO at N;refine yL Tryz.func198 fun B=>?_;have H:=iS I;refine yD<|tS [vI depth] ?_;intro b hb;refine xO 0 rfl ?_;intro I0 le hl0;have hat:At I0 ⟨b,0,none⟩ [vI depth]:=At.of_blk hl0;have ⟨h,H⟩:=m2 le h H;refine wI [] []<|zI<|zZ ?_;refine wT N [] (fun t4=>[(4,.bool t4)]) (fun o0 ho0=>?_) ?_
 · have H:=iS I0;refine zK<|yE 2 [] [6] rfl ?_;obtain ⟨y,hy,N⟩:=zB ho0;refine uH (wX (list.length:Int) 1 2 _ hy ) ?_;intro I02 le1;have ⟨h,hat,H⟩:=m3 le1 h hat H;refine yE 4 [] [8] rfl<|xZ [8] N ?_ ?_
   · intro hc N;refine yE 6 [] [9,10] rfl ?_;have hf0:FV1 Tryz.prog I02 [] (.func (.func 234) ⟨[]⟩ ⟨[vP b 0]⟩) (fun x0=>rV x0 depth):=by
       refine FV1.intro ?_;intro I1 le1 x0 r u0 hF k0;obtain ⟨_,rfl,k0⟩:=k0;obtain ⟨p1,c1,rfl,h2⟩:=yS k0;exact (zDa x0 depth r hF h2 (hat.mono le1)).mono (by rintro k i hs u ⟨v0,rfl,rfl,h⟩; exact ⟨rfl,h⟩)
     obtain ⟨y1,hy1,N⟩:=zB N;refine xP (qF list (fun x0=>rV x0 depth) _ hy1 h hf0) ?_;rintro I03 hs2 v2 k2 le2 - ⟨v02,rfl,rfl,rfl⟩ -;have H:=H.trans le2;exact yI [] [4] rfl<|yN<|zT (ct N H)
   intro hc N;exact wI [] [(4,vF)]<|yN<|zT (ct N H)
 intro t4 I01 le3 hMc;refine zI<|yW ?_;obtain rfl:=zC hMc;exact wM
def rM (nest:(List zE)) (t7:Int):Option (Out Unit (Bool)):=do
 if (decide (t7 < (nest.length:Int))) then
  let x←idx nest t7
  let t23←(do
    let y←mO x.Lo t7
    if (!y) then
     pure true
    else
     let y1←mO x.Hi t7
     pure (!y1)
      : Option Bool)
  if t23 then
   pure (.ret false)
  else
   rM nest (W (t7 + 1))
 else
  pure (.done ())
 partial_fixpoint
theorem zC1 (nest:(List zE)):∀ (t7:Int) (o:Out Unit (Bool)),rM nest t7=some o→∀ {B}{I0 I:Imm}{Q p c},I0.le I→(S4 I p nest c)→NG Q→NO Q→(∀ (I':Imm) ,o=(.done ())→I0.le I'→T 28 B Q (.exit 0) I' [] [(0,vS p nest c)])→(∀ r I' hs' m',o=(.ret r)→I0.le I'→RS Tryz.prog Tryz.f152 B (zU  r) I' hs' m'→T 28 B Q .ret I' hs' m')→J Tryz.prog 28 B (nav (bodyOf Tryz.f152) [1,0,1,0]) Q I [] [(0,vS p nest c),(5,vS p nest c),(6,vI (nest.length:Int)),(7,vI t7)]:=by
 refine rM.partial_correctness nest _ fun self ih t7 o N B I0 I Q p c H h hg ho hx hr=>yQ hg ho<|yF [8] rfl<|zY<|yC N ?_ ?_
 · intro hc N;refine zS<|zY<|yG<|yD<|yE 1 [] [9] rfl<|bE N fun x hy N=>xK rfl rfl h hy ?_;intro ad ccs hat hrep;obtain ⟨p1,c1,p2,c2,rfl,h1,h2⟩:=sH hrep;refine xF 0 hat (cLoop x p1 c1 p2 c2) (vA (cLoop x p1 c1 p2 c2)) rfl<|wY zTwo ?_;intro b hb;refine yE 5 [] [3] rfl<|xJ 0 (cLoop x p1 c1 p2 c2) rfl<|yB rfl<|zI<|zZ ?_;refine wT N [] (fun t23=>[(0,vS p nest c),(5,vS p nest c),(6,vI (nest.length:Int)),(7,vI t7),(23,.bool t23)]) (fun o0 ho0=>?_) ?_
   · have H:=iS I;refine zK<|yE 3 [0] [13,14] rfl ?_;obtain ⟨y,hy1,N⟩:=zB ho0;refine uH (zBR x.Lo t7 _ hy1 h1) ?_;intro I01 le;have ⟨h2,H⟩:=m2 le h2 H;refine yE 6 [] [17] rfl<|xZ [17] N ?_ ?_
     · intro hc1 N;exact wI [] [(23,vY)]<|xY zQ<|yN<|zT (ct N H)
     intro hc1 N;refine yE 9 [0] [19,20] rfl<|bE N fun y1 hy2 N=>uH (zBR x.Hi t7 _ hy2 h2) ?_;intro I02 le1;have H:=H.trans le1;exact yI [] [23] rfl<|xY zQ<|yN<|zT (ct N H)
   intro t23 I0 le2 hMc;have ⟨h,H⟩:=m2 le2 h H;refine zI<|yC hMc ?_ ?_
   · intro hc2 N;exact vJ [(2,vF)]<|xG<|zV<|zG<|zG<|hr _ _ _ _ (zC N).symm H ⟨_,_,(.tmp rfl ResV.nil),zQ,⟨_,rfl,rfl,rfl⟩⟩
   intro hc2 N;exact zS<|zO<|zI<|zK<|yI [] [7] rfl<|yO<|nF<|ih (W (t7 + 1)) _ N H h hg ho hx hr
 intro hc N;exact wJ<|yN<|hx _  (zC N).symm H
def kZ (nest:(List zE)):Option (Bool):=do
 match←rM nest 0 with
 | .ret r0=>pure r0
 | .done _ =>
  pure (decide ((nest.length:Int) ≤ 4))
theorem zE4:∀ nest r,kZ nest=some r→∀ {I:Imm}{p c},(S4 I p nest c)→RT 152 [vS p nest c] I [] (zU  r):=by
 intro nest r N I p c h;unfold kZ at N;refine yL Tryz.func152 fun B=>vJ []<|zY<|yF [5,6,7] rfl<|xW<|qW [(0,vS p nest c),(5,vS p nest c),(6,vI (nest.length:Int)),(7,vI 0)] ?_;obtain ⟨o01,ho01,hMl⟩:=zB N;refine zC1 nest 0 o01 ho01 iR h (fun _ _ _ h=>h) (fun _ _ h=>h) ?_ ?_
 · intro I03  heq1 le3;subst o01;refine zR<|wH [2] rfl<|zI<|yW ?_;obtain rfl:=zC hMl;exact wM
 intro r0 I9 hs9 m9 heq9 le9 hrs9;subst heq9;refine zV<|zG ?_;obtain rfl:=zC hMl;exact xA hrs9
def zA1 (r:List Int):KT:=fun kk I' hs' v=>
  ∃ a0 c0 s0,hs'=[.osl (.slice a0 r.length c0) (Rp.sz Int) s0]∧v=tupV [(.slice a0 r.length c0)]∧RepL (Rp.rep I') (Rp.sz Int) s0 r
def rC (s:List Int):Option (List Int):=app 8 ([]:List Int) s
theorem jA:∀ s r,rC s=some r→∀ {I:Imm}{p c},SL I (vS p s c) s→RT 94 [vS p s c] I [] (zA1 r):=by
 intro s r N I p c h;unfold rC at N;obtain ⟨ccs,k0,k01⟩:=h;refine yL Tryz.func94 fun B=>?_;cases p with
 | none =>
  have hs:s=[]:=by
    rcases k0 with ⟨hv,rfl⟩ | ⟨b0,off,len,cap,cc,hv,k2⟩
    · cases s with
      | nil=>rfl
      | cons _ _=>simp at hv
    simp at hv
  subst hs;obtain ⟨_,rfl⟩:=zBB N;refine yF [0,2] rfl<|zY<|yD<|yE 1 [] [3] rfl<|zOU true rfl rfl ?_ rfl;exact wI [] [(4,vY)]<|zI<|zCI rfl<|vJ [(2,z0)]<|xG<|zG<|xY (gI (Rp.sz Int))<|xA ⟨_,_,(.tmp rfl ResV.nil),(zW [0] rfl (by decide)),⟨none,0,[],rfl,rfl,rfl⟩⟩
 | some ad =>
  refine yF [0,2] rfl<|zY<|yD<|yE 1 [] [3] rfl<|zOU false rfl rfl ?_ rfl;refine yI [] [0,4] rfl<|zI<|zAF rfl<|zS<|yX<|uN [] Int ?_;intro b2 hb2;have h1:RL I [] ([]:List Int):=rfl;exact yE 2 [] [6] rfl<|rX 3 1 0 rfl rfl rfl h1 (.inl k0) k01 N fun p1 c1 cs h2=>yI [] [2] rfl<|xG<|xA ⟨_,_,(.tmp rfl ResV.nil),(zW [0] rfl (by decide)),⟨_,_,_,rfl,rfl,h2⟩⟩
def sE (a0:zA) (point:(List Int)) (sum:Int) (t12:Int):Option (Int):=do
 if (decide (t12 < (point.length:Int))) then
  let x←idx point t12
  let x1←idx a0.Coefs t12
  sE a0 point (W (sum + (W (x1 * x)))) (W (t12 + 1))
 else
  pure (id sum)
 partial_fixpoint
theorem zBb (a0:zA) (point:(List Int)):∀ (sum:Int) (t12:Int) (o:Int),sE a0 point sum t12=some o→∀ {B}{I0 I:Imm}{Q p c p1 c1}{b:Nat},I0.le I→(S4 I p1 point c1)→(S4 I p a0.Coefs c)→NG Q→NO Q→(∀ (I':Imm) (sum1:Int),o=sum1→I0.le I'→T 28 B Q (.exit 0) I' [] [(5,vI sum1)])→J Tryz.prog 28 B (nav (bodyOf Tryz.f76) [1,1,0,1,0]) Q I [hB b (cAff a0 p c)] [(2,vP b 0),(5,vI sum),(10,vS p1 point c1),(11,vI (point.length:Int)),(12,vI t12)]:=by
 refine sE.partial_correctness a0 point _ fun self ih sum t12 o N B I0 I Q p c p1 c1 b H h1 h hg ho hx=>yQ hg ho<|yF [13] rfl<|zY<|yC N ?_ ?_
 · intro hc N;refine zS<|zY<|yG<|yD<|yE 1 [] [14] rfl<|bE N fun x hy N=>xK rfl rfl h1 hy ?_;intro ad ccs hat hrep;obtain rfl:=hrep;refine xF 0 hat [vI x] (vI x) rfl<|yI [] [6,7] rfl<|zI<|zK<|yE 4 [0] [17,19,20] rfl<|bE N fun x1 hy1 N=>xK rfl rfl h hy1 ?_;intro ad1 ccs1 hat1 hrep1;obtain rfl:=hrep1;exact xF 0 hat1 [vI x1] (vI x1) rfl<|yI [] [5] rfl<|zO<|zI<|zK<|yI [] [12] rfl<|yO<|nF<|ih (W (sum + (W (x1 * x)))) (W (t12 + 1)) _ N H h1 h hg ho hx
 intro hc N;exact wJ<|xY zQ<|yN<|hx _ _ (zC N).symm H
def tQ (a0:zA) (point:(List Int)):Option (Int):=do
 let sum1←sE a0 point a0.Const 0
 pure (id sum1)
theorem nR:∀ a0 point r,tQ a0 point=some r→∀ {I:Imm}{p c p1 c1},(S4 I p a0.Coefs c)→(S4 I p1 point c1)→RT 76 [vA (cAff a0 p c),vS p1 point c1] I [] (yM  r):=by
 intro a0 point r N I p c p1 c1 h h1;unfold tQ at N;refine yL Tryz.func76 fun B=>yD<|tS (cAff a0 p c) ?_;intro b hb;refine wI [] []<|yX<|yI [0] [5] rfl<|zY<|yF [10,11,12] rfl<|xW<|qW [(2,vP b 0),(5,vI a0.Const),(10,vS p1 point c1),(11,vI (point.length:Int)),(12,vI 0)] ?_;obtain ⟨o0,ho0,hMl⟩:=zB N;refine zBb a0 point a0.Const 0 o0 ho0 iR h1 h (fun _ _ _ h=>h) (fun _ _ h=>h) ?_;intro I0 sum1 heq le;subst o0;refine zR<|wH [4] rfl<|zI<|yW ?_;obtain rfl:=zC hMl;exact wM
def rO (l:zE) (point:(List Int)) (lo:Int) (t27:Int):Option (Int):=do
 if (decide (t27 < (l.Lo.length:Int))) then
  let x2←idx l.Lo t27
  let y2←tQ x2 point
  rO l point (if y2 > lo then y2 else lo) (W (t27 + 1))
 else
  pure (id lo)
 partial_fixpoint
theorem zC2 (l:zE) (point:(List Int)):∀ (lo:Int) (t27:Int) (o:Int),rO l point lo t27=some o→∀ {B}{I0 I:Imm}{Q}{y1:Int}{p c p1 c1 p2 c2}{b:Nat},I0.le I→(S4 I p2 point c2)→(S4 I p l.Lo c)→(S4 I p1 l.Hi c1)→NG Q→NO Q→(∀ (I':Imm) (lo1:Int),o=lo1→I0.le I'→T 52 B Q (.exit 0) I' [hB b (cLoop l p c p1 c1)] [(1,vS p2 point c2),(2,vP b 0),(6,vI lo1),(7,vI y1)])→J Tryz.prog 52 B (nav (bodyOf Tryz.f175) [1,1,0,1,0]) Q I [hB b (cLoop l p c p1 c1)] [(1,vS p2 point c2),(2,vP b 0),(6,vI lo),(7,vI y1),(25,vS p l.Lo c),(26,vI (l.Lo.length:Int)),(27,vI t27)]:=by
 refine rO.partial_correctness l point _ fun self ih lo t27 o N B I0 I Q y1 p c p1 c1 p2 c2 b H h2 h h1 hg ho hx=>yQ hg ho<|yF [28] rfl<|zY<|yC N ?_ ?_
 · intro hc N;refine zS<|zY<|yG<|yD<|bE N fun x2 hy4 N=>xK rfl rfl h hy4 ?_;intro ad2 ccs2 hat2 hrep2;obtain ⟨p5,c5,rfl,h7⟩:=yS hrep2;refine xF 0 hat2 (cAff x2 p5 c5) (vA (cAff x2 p5 c5)) rfl<|wY [z0,vI 0] ?_;intro b1 hb1;refine xJ 0 (cAff x2 p5 c5) rfl<|yB rfl<|zI<|zK<|qL 3 [0] [(31,vI lo),(32,vA (cAff x2 p5 c5)),(33,vS p2 point c2)]<|bE N fun y2 hy5 N=>gF (nR x2 point _ hy5 h7 h2) ?_;intro I03 le3;have ⟨h2,h,h1,H⟩:=m4 le3 h2 h h1 H;exact yI [] [6] rfl<|zO<|zI<|zK<|yI [] [27] rfl<|yO<|jG (zW [1] rfl (by decide))<|nF<|ih (if y2 > lo then y2 else lo) (W (t27 + 1)) _ N H h2 h h1 hg ho hx
 intro hc N;exact wJ<|yN<|hx _ _ (zC N).symm H
def rP (l:zE) (point:(List Int)) (hi:Int) (t40:Int):Option (Int):=do
 if (decide (t40 < (l.Hi.length:Int))) then
  let x3←idx l.Hi t40
  let y3←tQ x3 point
  rP l point (if y3 < hi then y3 else hi) (W (t40 + 1))
 else
  pure (id hi)
 partial_fixpoint
theorem zC3 (l:zE) (point:(List Int)):∀ (hi:Int) (t40:Int) (o:Int),rP l point hi t40=some o→∀ {B}{I0 I:Imm}{Q}{lo1:Int}{p1 c1 p2 c2},I0.le I→(S4 I p2 point c2)→(S4 I p1 l.Hi c1)→NG Q→NO Q→(∀ (I':Imm) (hi1:Int),o=hi1→I0.le I'→T 52 B Q (.exit 2) I' [] [(6,vI lo1),(7,vI hi1)])→J Tryz.prog 52 B (nav (bodyOf Tryz.f175) [1,1,1,0,1,0]) Q I [] [(1,vS p2 point c2),(6,vI lo1),(7,vI hi),(38,vS p1 l.Hi c1),(39,vI (l.Hi.length:Int)),(40,vI t40)]:=by
 refine rP.partial_correctness l point _ fun self ih hi t40 o N B I0 I Q lo1 p1 c1 p2 c2 H h2 h1 hg ho hx=>yQ hg ho<|yF [41] rfl<|zY<|yC N ?_ ?_
 · intro hc1 N;refine zS<|zY<|yG<|yD<|bE N fun x3 hy6 N=>xK rfl rfl h1 hy6 ?_;intro ad3 ccs3 hat3 hrep3;obtain ⟨p6,c6,rfl,h9⟩:=yS hrep3;refine xF 0 hat3 (cAff x3 p6 c6) (vA (cAff x3 p6 c6)) rfl<|wY [z0,vI 0] ?_;intro b2 hb2;refine xJ 0 (cAff x3 p6 c6) rfl<|yB rfl<|zI<|zK<|qL 3 [0] [(44,vI hi),(45,vA (cAff x3 p6 c6)),(46,vS p2 point c2)]<|bE N fun y3 hy7 N=>gF (nR x3 point _ hy7 h9 h2) ?_;intro I05 le5;have ⟨h2,h1,H⟩:=m3 le5 h2 h1 H;exact yI [] [7] rfl<|zO<|zI<|zK<|yI [] [40] rfl<|yO<|jG zQ<|nF<|ih (if y3 < hi then y3 else hi) (W (t40 + 1)) _ N H h2 h1 hg ho hx
 intro hc1 N;exact wJ<|yN<|hx _ _ (zC N).symm H
def jB (l:zE) (point:(List Int)):Option (Int×Int):=do
 let x←idx l.Lo 0
 let y←tQ x point
 let x1←idx l.Hi 0
 let y1←tQ x1 point
 let lo1←rO l point y 0
 let hi1←rP l point y1 0
 pure (lo1,hi1)
theorem zE5:∀ l point r,jB l point=some r→∀ {I:Imm}{p c p1 c1 p2 c2},(S4 I p l.Lo c)→(S4 I p1 l.Hi c1)→(S4 I p2 point c2)→RT 175 [vA (cLoop l p c p1 c1),vS p2 point c2] I [] (eE  r):=by
 intro l point r N I p c p1 c1 p2 c2 h h1 h2;unfold jB at N;refine yL Tryz.func175 fun B=>?_;have H:=iS I;refine yD<|tS (cLoop l p c p1 c1) ?_;intro b hb;refine wI [] []<|zI<|zZ ?_;obtain ⟨x,hy,N⟩:=zB N;obtain ⟨y,hy1,N⟩:=zB N;obtain ⟨x1,hy2,N⟩:=zB N;obtain ⟨y1,hy3,N⟩:=zB N;refine wK [.p (vP b 0) [],.p (vS p l.Lo c) [0],.x (ePAff x),.x (eVAff x),.p (vS p2 point c2) [],.q (vI y),.p (vP b 1) [],.p (vS p1 l.Hi c1) [0],.x (ePAff x1),.x (eVAff x1),.p (vS p2 point c2) [],.q (vI y1),.p (vI y) []] [[],[(0,false)],[(1,false)],[(2,false)],[],[(3,false),(4,false)],[],[(6,false)],[(7,false)],[(8,false)],[],[(9,false),(10,false)],[(5,false)]] [hB b (cLoop l p c p1 c1)] [] [(11,false),(12,false)] (zX [0]) ?_ ?_
 · refine Op<|Op<|Ox ?_<|Ox ?_<|Op<|Oq ?_<|Op<|Op<|Ox ?_<|Ox ?_<|Op<|Oq ?_<|Op<|On
   · intro I1 hf le1;refine yR [13] rfl ?_;have h:=h.mono le1;refine xK rfl rfl h hy ?_;intro ad ccs hat hrep;obtain ⟨p3,c3,rfl,h3⟩:=yS hrep;exact yK [] iR ⟨_,_,_,rfl,rfl,hat,h3⟩
   · rintro I1 hf le1 _ _ ⟨ad,p3,c3,rfl,rfl,hat,h3⟩;exact yR [14] rfl<|xF 0 hat (cAff x p3 c3) (vA (cAff x p3 c3)) rfl<|yK [] iR ⟨_,_,rfl,rfl,h3⟩
   · rintro I1 hf le1 _ _ ⟨p31,c31,rfl,rfl,h31⟩;refine yR [15,16] rfl ?_;have H:=iS I1;have h2:=h2.mono le1;refine gF (nR x point _ hy1 h31 h2) ?_;intro I0 le;have H:=H.trans le;exact xE H
   · intro I1 hf le1;refine yR [19] rfl ?_;have h1:=h1.mono le1;refine xK rfl rfl h1 hy2 ?_;intro ad1 ccs1 hat1 hrep1;obtain ⟨p4,c4,rfl,h5⟩:=yS hrep1;exact yK [] iR ⟨_,_,_,rfl,rfl,hat1,h5⟩
   · rintro I1 hf le1 _ _ ⟨ad1,p4,c4,rfl,rfl,hat1,h5⟩;exact yR [20] rfl<|xF 0 hat1 (cAff x1 p4 c4) (vA (cAff x1 p4 c4)) rfl<|yK [] iR ⟨_,_,rfl,rfl,h5⟩
   rintro I1 hf le1 _ _ ⟨p41,c41,rfl,rfl,h51⟩;refine yR [21,22] rfl ?_;have H:=iS I1;have h2:=h2.mono le1;refine gF (nR x1 point _ hy3 h51 h2) ?_;intro I01 le1;have H:=H.trans le1;exact xE H
 intro I02 le2;refine yR [1,2,6,23] rfl ?_;have ⟨h2,h,h1⟩:=m3 le2 h2 h h1;refine yI [] [7] rfl<|zY<|yD<|yI [0] [25,26,27] rfl<|xW<|qW [(1,vS p2 point c2),(2,vP b 0),(6,vI y),(7,vI y1),(25,vS p l.Lo c),(26,vI (l.Lo.length:Int)),(27,vI 0)] ?_;obtain ⟨o0,ho0,hMl⟩:=zB N;refine zC2 l point y 0 o0 ho0 iR h2 h h1 (fun _ _ _ h=>h) (fun _ _ h=>h) ?_;intro I04 lo1 heq le4;subst o0;have ⟨h2,h,h1⟩:=m3 le4 h2 h h1;refine zR<|zY<|yD<|yI [0] [38,39,40] rfl<|xW<|jG (zX [] (hs':=[]))<|qW [(1,vS p2 point c2),(6,vI lo1),(7,vI y1),(38,vS p1 l.Hi c1),(39,vI (l.Hi.length:Int)),(40,vI 0)] ?_;obtain ⟨o01,ho01,hMl1⟩:=zB hMl;refine zC3 l point y1 0 o01 ho01 iR h2 h1 (fun _ _ _ h=>h) (fun _ _ h=>h) ?_;intro I06 hi1 heq1 le6;subst o01;refine zR<|wH [4,5] rfl<|zI<|yW ?_;obtain rfl:=zC hMl1;exact xA ⟨_,_,(.tmp rfl (.tmp rfl ResV.nil)),zQ,⟨_,_,rfl,rfl,rfl,rfl⟩⟩
def jR (b0:Nat) (r:Bool×sI):KT:=fun kk I' hs' v=>
  ∃ v0 x0_0 y0_0 x0_2 y0_2 z0_2,hs'=[.blk b0 ⟨[.slice x0_0 r.2.nest.length y0_0,.int .i64 r.2.steps,.slice x0_2 r.2.out.length y0_2]⟩,.osl (.slice x0_2 r.2.out.length y0_2) (Rp.sz (List Int)) z0_2]∧v=tupV [v0]∧v0=.bool r.1∧SL I' (.slice x0_0 r.2.nest.length y0_0) r.2.nest∧RepL (Rp.rep I') (Rp.sz (List Int)) z0_2 r.2.out
mutual
def sB (w0:sI) (point:(List Int)):Option (Bool×sI):=do
 if ((point.length:Int) == (w0.nest.length:Int)) then
  let y←rC point
  let l←app 24 w0.out ([y]:List (List Int))
  pure ((decide ((l.length:Int) ≤ 120)),(sI.mk w0.nest w0.steps l))
 else
  let x←idx w0.nest (point.length:Int)
  let (y2,y3)←jB x point
  match←rD (same point) (same y3) (same y2) w0.nest w0.steps w0.out with
  | .ret r0=>pure r0
  | .done (nest1,steps1,out1) =>
   pure (true,(sI.mk nest1 steps1 out1))
 partial_fixpoint
def rD (point:(List Int)) (y3:Int) (n0:Int) (nest:List zE) (steps:Int) (out:List (List Int)):Option (Out (List zE×Int×List (List Int)) (Bool×sI)):=do
 if (decide (n0 < y3)) then
  let (t74,nest2,steps2,out2)←(do
    if (decide ((W ((W (steps + 1)) + 1)) > 1200)) then
     pure (true,nest,(W (steps + 1)),out)
    else
     let y4←rC point
     let l1←app 8 y4 ([n0]:List Int)
     let (y6,y7)←sB (sI.mk nest (W (steps + 1)) out) (same l1)
     pure ((!y6),y7.nest,y7.steps,y7.out)
      : Option (Bool×List zE×Int×List (List Int)))
  if t74 then
   pure (.ret (false,(sI.mk nest2 steps2 out2)))
  else
   rD (same point) (same y3) (W (n0 + 1)) (same nest2) (same steps2) (same out2)
 else
  pure (.done (nest,steps,out))
 partial_fixpoint
end
theorem zCC:(∀ (w0:sI) (point:(List Int)) r,sB w0 point=some r→∀ {I:Imm}{r0:Nat}{p c p1 c1 cs p2 c2},(S4 I p w0.nest c)→(RL I cs w0.out)→(S4 I p2 point c2)→RT 153 [vP r0 0,vS p2 point c2] I [hB r0 [vS p w0.nest c,vI w0.steps,vS p1 w0.out c1],hO (List Int) (vS p1 w0.out c1) cs] (jR r0 r))∧(∀ (point:(List Int)) (y3:Int) (n0:Int) (nest:List zE) (steps:Int) (out:List (List Int)) o,rD point y3 n0 nest steps out=some o→∀ {B}{I0 I:Imm}{Q}  {r0:Nat}{p2 c2 p7 c7 p8 c8 cs3},I0.le I→(S4 I p2 point c2)→(S4 I p7 nest c7)→(RL I cs3 out)→NG Q→NO Q→(∀ (I':Imm) (nest1:List zE) (steps1:Int) (out1:List (List Int)) (p9:Option Addr) (c9:Nat) (p10:Option Addr) (c10:Nat) (cs4:List Value),o=(.done (nest1,steps1,out1))→I0.le I'→(S4 I' p9 nest1 c9)→(RL I' cs4 out1)→T 75 B Q (.exit 0) I' [hB r0 [vS p9 nest1 c9,vI steps1,vS p10 out1 c10],hO (List Int) (vS p10 out1 c10) cs4] [])→(∀ r I' hs' m',o=(.ret r)→I0.le I'→RS Tryz.prog Tryz.f153 B (jR r0 r) I' hs' m'→T 75 B Q .ret I' hs' m')→J Tryz.prog 75 B (nav (bodyOf Tryz.f153) [1,1,1,0,1,0]) Q I [hB r0 [vS p7 nest c7,vI steps,vS p8 out c8],hO (List Int) (vS p8 out c8) cs3] [(0,vP r0 0),(1,vS p2 point c2),(6,vI y3),(7,vI n0)]):=by
  refine sB.mutual_partial_correctness _ _ ?_ ?_
  · intro F_impl_walking_walk_l1 ih_impl_walking_walk_l1 w0 point r N I r0 p c p1 c1 cs p2 c2 h h1 h2;refine yL Tryz.func153 fun B=>?_;have H:=iS I;refine vJ []<|zY<|yD<|yI [0] [15] rfl<|zI<|yC N ?_ ?_
    · intro hc N;refine zZ ?_;obtain ⟨y,hy,N⟩:=zB N;obtain ⟨l,hy1,N⟩:=zB N;refine wK [.p (vP r0 0) [],.p (vP r0 0) [],.p (vP r0 0) [],.p (vP r0 2) [],.p (vS p1 w0.out c1) [0],.p (vS p2 point c2) [],.x (fun I' v hx=>∃ p3 c3 cs1,v=vS p3 y c3∧hx=[hO Int (vS p3 y c3) cs1]∧(RL I' cs1 y)),.x (fun I' v hx=>∃ b,v=vS (some ⟨b,0,none⟩) ([y]:List (List Int)) 1∧hx=[]∧(SL I' (vS (some ⟨b,0,none⟩) ([y]:List (List Int)) 1) ([y]:List (List Int)))),.x (fun I' v hx=>∃ p4 c4 cs2,v=vS p4 l c4∧hx=[hO (List Int) (vS p4 l c4) cs2]∧(RL I' cs2 l))] [[],[],[(1,false)],[(2,false)],[(3,false)],[],[(5,false)],[(6,true)],[(4,false),(7,false),(12,true)]] [hB r0 [vS p w0.nest c,vI w0.steps,vS p1 w0.out c1]] [[hO (List Int) (vS p1 w0.out c1) cs]] [(0,false),(8,true)] (zX [0,1]) ?_ ?_
      · refine Op<|Op<|Op<|Op<|Op<|Op<|Ox ?_<|Ox ?_<|Ox ?_<|On
        · intro I1 hf le1;refine yR [21] rfl ?_;have H:=iS I1;have h2:=h2.mono le1;refine xP (jA point _ hy h2) ?_;rintro I0 hs2 v2 k2 le - ⟨p3,c3,cs1,rfl,rfl,h3⟩ -;have H:=H.trans le;exact yK [hO Int (vS p3 y c3) cs1] H ⟨_,_,_,rfl,rfl,h3⟩
        · rintro I1 hf le1 _ _ ⟨p3,c3,cs1,rfl,rfl,h3⟩;refine yR [22] rfl ?_;have H:=iS I1;refine xO 0 rfl ?_;intro I01 le1 hl0;have h4:=SL.of_frozen hl0 le1 h3;have H:=H.trans le1;refine nH (rc y ⟨_,rfl,h4⟩ rN) ?_;intro b I02 le2 h6;have H:=H.trans le2;exact yK [] H ⟨_,rfl,rfl,h6⟩
        rintro I1 hf le1 _ _ ⟨rfl,rfl⟩ _ _ ⟨b,rfl,rfl,h6⟩ _ _ rfl;refine yR [20,23] rfl ?_;have h1:=iM le1 h1;obtain ⟨ccs,k0,k01⟩:=h6;have h6:SL I1 (vS (some ⟨b,0,none⟩) ([y]:List (List Int)) 1) ([y]:List (List Int)):=⟨_,k0,k01⟩;exact rX 29 1 0 rfl rfl rfl h1 (.inl k0) k01 hy1 fun p4 c4 cs2 h7=>vK (hs':=(hO (List Int) (vS p4 l c4) cs2::hB r0 [vS p w0.nest c,vI w0.steps,vS p1 w0.out c1]::hf)) rfl<|yK [hO (List Int) (vS p4 l c4) cs2] iR ⟨_,_,_,rfl,rfl,h7⟩
      rintro I03 le3 _ _ ⟨rfl,rfl⟩ _ _ ⟨p4,c4,cs2,rfl,rfl,h7⟩;refine yR [0,16,24] rfl ?_;have h:=h.mono le3;refine yE 11 [] [26] rfl<|xJ 1 [vS p w0.nest c,vI w0.steps,vS p4 l c4] rfl<|yB rfl<|yX<|yI [1] [4] rfl<|xG<|zG ?_;obtain rfl:=zC N;exact xA ⟨_,_,(.tmp rfl ResV.nil),(zW [1,0] rfl (by decide)),⟨_,_,_,_,_,_,rfl,rfl,rfl,h,h7⟩⟩
    intro hc N;refine zS<|yX<|yE 6 [0] [37,39] rfl<|bE N fun x hy2 N=>xK rfl rfl h hy2 ?_;intro ad ccs1 hat hrep;obtain ⟨p5,c5,p6,c6,rfl,h8,h9⟩:=sH hrep;refine xF 0 hat (cLoop x p5 c5 p6 c6) (vA (cLoop x p5 c5 p6 c6)) rfl<|yE 9 [] [42] rfl ?_;obtain ⟨⟨y2,y3⟩,hy3,N⟩:=zB N;refine xP (zE5 x point _ hy3 h8 h9 h2) ?_;rintro I04 hs2 v2 k2 le4 - ⟨v02,v03,rfl,rfl,rfl,rfl⟩ -;have ⟨h2,h,h1⟩:=m3 le4 h2 h h1;refine yI [] [5,6] rfl<|zY<|yF [7] rfl<|xW<|qW [(0,vP r0 0),(1,vS p2 point c2),(6,vI y3),(7,vI y2)] ?_;obtain ⟨o01,ho01,hMl⟩:=zB N;refine ih_impl_walking_walk_l1 point y3 y2 w0.nest w0.steps w0.out o01 ho01 iR h2 h h1 (fun _ _ _ h=>h) (fun _ _ h=>h) ?_ ?_
    · intro I09 nest1 steps1 out1 p9 c9 p10 c10 cs4 heq1 le9 h14 h15;subst o01;refine zR<|zFr [(4,vY)]<|zI<|yW ?_;obtain rfl:=zC hMl;exact xA ⟨_,_,(.tmp rfl ResV.nil),(zW [0,1] rfl (by decide)),⟨_,_,_,_,_,_,rfl,rfl,rfl,h14,h15⟩⟩
    intro r0 I9 hs9 m9 heq9 le9 hrs9;subst heq9;refine zV<|zG ?_;obtain rfl:=zC hMl;exact xA hrs9
  intro F_impl_walking_walk F_impl_walking_walk_l1 ih_impl_walking_walk ih_impl_walking_walk_l1 point y3 n0 nest steps out o N B I0 I Q r0 p2 c2 p7 c7 p8 c8 cs3 H h2 h12 h13 hg ho hx hr;refine yQ hg ho<|zZ<|yF [49] rfl<|zI<|yC N ?_ ?_
  · intro hc1 N;refine zS<|zY<|yG<|yD<|yE 7 [0] [56,58] rfl<|xJ 0 [vS p7 nest c7,vI (W (steps + 1)),vS p8 out c8] rfl<|yB rfl<|zI<|zZ ?_;obtain ⟨o0,ho0,hMc⟩:=zB N;refine qA (fun I' hs' m'=>∃ (t74:Bool) (nest2:List zE) (steps2:Int) (out2:List (List Int)) (p11:Option Addr) (c11:Nat) (p12:Option Addr) (c12:Nat) (cs5:List Value),o0=(t74,nest2,steps2,out2)∧I.le I'∧(S4 I' p11 nest2 c11)∧(RL I' cs5 out2)∧hs'=[hB r0 [vS p11 nest2 c11,vI steps2,vS p12 out2 c12],hO (List Int) (vS p12 out2 c12) cs5]∧m'=[(0,vP r0 0),(1,vS p2 point c2),(6,vI y3),(7,vI n0),(74,.bool t74)]) ?_ ?_
    · have H:=iS I;refine zK<|yE 7 [0] [65] rfl<|xZ [65] ho0 ?_ ?_
      · intro hc2 N;exact wI [] [(74,vY)]<|yN<|zT ⟨_,_,_,_,_,_,_,_,_,(zC N).symm,H,h12,h13,rfl,rfl⟩
      intro hc2 N;refine yE 9 [] [66,67] rfl<|bE N fun y4 hy4 N=>xP (jA point _ hy4 h2) ?_;rintro I06 hs2 v2 k2 le5 - ⟨p13,c13,cs6,rfl,rfl,h18⟩ -;have ⟨h12,h13,H⟩:=m3 le5 h12 h13 H;refine yE 11 [] [69] rfl<|uN [vI n0] Int ?_;intro b1 hb1;have h19:RL I06 [vI n0] ([n0]:List Int):=rI [n0];obtain ⟨l1,hy5,N⟩:=zB N;refine rX 3 1 1 rfl rfl rfl h18 (.inr ⟨0,rfl⟩) h19 hy5 fun p14 c14 cs7 h20=>sK (zX [1,2,3] (hs':=[hO Int (vS p14 l1 c14) cs7,hB r0 [vS p7 nest c7,vI (W (steps + 1)),vS p8 out c8],hO (List Int) (vS p8 out c8) cs3]))<|xO 0 rfl ?_;intro I07 le6 hl02;have h21:=SL.of_frozen hl02 le6 h20;have ⟨h12,h13,H⟩:=m3 le6 h12 h13 H;obtain ⟨⟨y6,y7⟩,hy6,N⟩:=zB N;refine sJ (ih_impl_walking_walk (sI.mk nest (W (steps + 1)) out) l1 _ hy6 h12 h13 h21) rfl ?_;rintro I08 hs2 v2 k2 le7 - ⟨v04,p15,c15,p16,c16,cs8,rfl,rfl,rfl,h23,h24⟩ -;have H:=H.trans le7;exact yI [] [74] rfl<|yN<|zT ⟨_,_,_,_,_,_,_,_,_,(zC N).symm,H,h23,h24,rfl,rfl⟩
    rintro I05 hs2 m2 ⟨t74,nest2,steps2,out2,p11,c11,p12,c12,cs5,heq,le8,h16,h17,rfl,rfl⟩;subst o0;have ⟨h2,H⟩:=m2 le8 h2 H;refine zI<|yC hMc ?_ ?_
    · intro hc3 N;exact vJ [(4,vF)]<|xG<|zV<|zG<|zG<|hr _ _ _ _ (zC N).symm H ⟨_,_,(.tmp rfl ResV.nil),(zW [0,1] rfl (by decide)),⟨_,_,_,_,_,_,rfl,rfl,rfl,h16,h17⟩⟩
    intro hc3 N;exact zS<|zO<|zI<|zK<|yI [] [7] rfl<|yO<|nF<|ih_impl_walking_walk_l1 point y3 (W (n0 + 1)) nest2 steps2 out2 _ N H h2 h16 h17 hg ho hx hr
  intro hc1 N;exact wJ<|yN<|hx _ _ _ _ _ _ _ _ _ (zC N).symm H h12 h13
theorem zC4:∀ w0 point r,sB w0 point=some r→∀ {I:Imm}{r0:Nat}{p c p1 c1 cs p2 c2},(S4 I p w0.nest c)→(RL I cs w0.out)→(S4 I p2 point c2)→RT 153 [vP r0 0,vS p2 point c2] I [hB r0 [vS p w0.nest c,vI w0.steps,vS p1 w0.out c1],hO (List Int) (vS p1 w0.out c1) cs] (jR r0 r):=zCC.1
def mV (nest:(List zE)):Option ((List (List Int))×Bool):=do
 let y←kZ nest
 if (!y) then
  pure (([]:List (List Int)),false)
 else
  let (y2,y3)←sB (sI.mk nest 0 ([]:List (List Int))) ([]:List Int)
  if (!y2) then
   pure (([]:List (List Int)),false)
  else
   pure (y3.out,true)
theorem zDb:∀ nest r,mV nest=some r→∀ {I:Imm}{p c},(S4 I p nest c)→RT 89 [vS p nest c] I [] (dO  r):=by
 intro nest r N I p c h;unfold mV at N;refine yL Tryz.func89 fun B=>vJ []<|zY<|yD<|yE 1 [] [5] rfl<|bE N fun y hy N=>uH (zE4 nest _ hy h) ?_;intro I0 le;have h:=h.mono le;refine yI [] [7] rfl<|zI<|yC N ?_ ?_
 · intro hc N;refine yF [2,3] rfl<|xG<|zG ?_;obtain rfl:=zC N;exact xA ⟨_,_,(.tmp rfl (.tmp rfl ResV.nil)),zQ,⟨_,_,rfl,rfl,(SL.nil _),rfl⟩⟩
 intro hc N;refine zS<|yX<|yE 2 [] [9] rfl<|tS [vS p nest c,vI 0,z0] ?_;intro b hb;refine yI [] [4] rfl<|zY<|yD<|yE 1 [] [11] rfl<|zO6 (List Int) fun h2=>?_;refine sK (zX [1,0] (hs':=[hB b [vS p nest c,vI 0,vS none ([]:List (List Int)) 0],hO (List Int) (vS none ([]:List (List Int)) 0) []])) ?_;obtain ⟨⟨y2,y3⟩,hy1,N⟩:=zB N;refine sJ (zC4 (sI.mk nest 0 ([]:List (List Int))) ([]:List Int) _ hy1 h h2 (SL.nil _)) rfl ?_;rintro I01 hs2 v2 k2 le1 - ⟨v01,p1,c1,p2,c2,cs,rfl,rfl,rfl,h4,h5⟩ -;refine yI [] [13] rfl<|zI<|yC N ?_ ?_
 · intro hc1 N;refine yF [2,3] rfl<|xG<|zG ?_;obtain rfl:=zC N;exact xA ⟨_,_,(.tmp rfl (.tmp rfl ResV.nil)),zQ,⟨_,_,rfl,rfl,(SL.nil _),rfl⟩⟩
 intro hc1 N;refine zS<|yX<|yI [0] [2,3] rfl<|xG<|yV 1 rfl ?_;intro I02 le2 hl0;have h6:=SL.of_frozen hl0 le2 h5;obtain rfl:=zC N;exact xA ⟨_,_,(.tmp rfl (.tmp rfl ResV.nil)),zQ,⟨_,_,rfl,rfl,h6,rfl⟩⟩
def pR (hsF:List HA) (r:Int):KT:=fun kk I' hs' v=>
  ∃ v0,hsF=hs'∧v=tupV [v0]∧v0=.int .i64 r
def xH (s:(List zP)) (f0:(zP→Option Bool)) (t8:Int):Option (Out Unit (Int)):=do
 if (decide (t8 < (s.length:Int))) then
  let x←idx s t8
  let y←f0 x
  if y then
   pure (.ret t8)
  else
   xH s f0 (W (t8 + 1))
 else
  pure (.done ())
 partial_fixpoint
theorem jS (s:(List zP)) (f0:(zP→Option Bool)):∀ (t8:Int) (o:Out Unit (Int)),xH s f0 t8=some o→∀ {B}{I0 I:Imm}{Q p c}{fv:Value}{hsF:List HA},I0.le I→(S4 I p s c)→(FV1 Tryz.prog I hsF fv f0)→NG Q→NO Q→(∀ (I':Imm) ,o=(.done ())→I0.le I'→T 19 B Q (.exit 0) I' hsF [])→(∀ r I' hs' m',o=(.ret r)→I0.le I'→RS Tryz.prog Tryz.f154 B (pR hsF r) I' hs' m'→T 19 B Q .ret I' hs' m')→J Tryz.prog 19 B (nav (bodyOf Tryz.f154) [1,0,1,0]) Q I hsF [(0,vS p s c),(1,fv),(7,vI (s.length:Int)),(8,vI t8)]:=by
 refine xH.partial_correctness s f0 _ fun self ih t8 o N B I0 I Q p c fv hsF H h h1 hg ho hx hr=>yQ hg ho<|yF [9] rfl<|zY<|yC N ?_ ?_
 · intro hc N;refine zS<|zY<|yG<|yF [5] rfl<|yX<|yE 3 [] [11,12,13] rfl<|bE N fun x hy N=>xK rfl rfl h hy ?_;intro ad ccs hat hrep;obtain ⟨p1,c1,p2,c2,p3,c3,p4,c4,rfl,h2,h3,h4,h5⟩:=qH hrep;refine xF 0 hat (cStmt x p1 c1 p2 c2 p3 c3 p4 c4) (vA (cStmt x p1 c1 p2 c2 p3 c3 p4 c4)) rfl<|bE N fun y hy1 N=>zK2 rfl rfl h1 hy1 ⟨_,rfl,(wU ⟨_,_,_,_,rfl,h2,h3,h4,h5⟩)⟩ (List.append_nil _).symm ?_;rintro I0 v04 le rfl;refine vK (hs':=hsF) (List.append_nil _) ?_;have ⟨h,h1,H⟩:=m3 le h h1 H;refine yB rfl<|zI<|yC N ?_ ?_
   · intro hc1 N;exact yF [4] rfl<|xG<|zV<|zG<|zG<|hr _ _ _ _ (zC N).symm H ⟨_,_,(.tmp rfl ResV.nil),(fun _ h=>h),⟨_,rfl,rfl,rfl⟩⟩
   intro hc1 N;exact zS<|zO<|zI<|zK<|yI [] [8] rfl<|yO<|nF<|ih (W (t8 + 1)) _ N H h h1 hg ho hx hr
 intro hc N;exact wJ<|yN<|hx _  (zC N).symm H
def uF (s:(List zP)) (f0:(zP→Option Bool)):Option (Int):=do
 match←xH s f0 0 with
 | .ret r0=>pure r0
 | .done _ =>
  pure (-1)
theorem gH:∀ s f0 r,uF s f0=some r→∀ {I:Imm}{p c}{fv:Value}{hsF:List HA},(S4 I p s c)→(FV1 Tryz.prog I hsF fv f0)→RT 154 [vS p s c,fv] I hsF (pR hsF r):=by
 intro s f0 r N I p c fv hsF h h1;unfold uF at N;refine yL Tryz.func154 fun B=>vJ []<|zY<|yF [7,8] rfl<|xW<|qW [(0,vS p s c),(1,fv),(7,vI (s.length:Int)),(8,vI 0)] ?_;obtain ⟨o0,ho0,hMl⟩:=zB N;refine jS s f0 0 o0 ho0 iR h h1 (fun _ _ _ h=>h) (fun _ _ h=>h) ?_ ?_
 · intro I01  heq le1;subst o0;refine zR<|wH [4] rfl<|zI<|yW ?_;obtain rfl:=zC hMl;exact xA ⟨_,_,(.tmp rfl ResV.nil),(fun _ h=>h),⟨_,rfl,rfl,rfl⟩⟩
 intro r0 I9 hs9 m9 heq9 le9 hrs9;subst heq9;refine zV<|zG ?_;obtain rfl:=zC hMl;exact xA hrs9
def jC (hsF:List HA) (r:Bool):KT:=fun kk I' hs' v=>
  ∃ v0,hsF=hs'∧v=tupV [v0]∧v0=.bool r
def wB (s:(List zP)) (f0:(zP→Option Bool)):Option (Bool):=do
 let y←uF s f0
 pure (decide (y ≥ 0))
theorem jT:∀ s f0 r,wB s f0=some r→∀ {I:Imm}{p c}{fv:Value}{hsF:List HA},(S4 I p s c)→(FV1 Tryz.prog I hsF fv f0)→RT 90 [vS p s c,fv] I hsF (jC hsF r):=by
 intro s f0 r N I p c fv hsF h h1;unfold wB at N;refine yL Tryz.func90 fun B=>vJ []<|yX<|yE 2 [] [5,6] rfl<|bE N fun y hy N=>zEu (hs1:=hsF) (rest:=[]) rfl rfl rfl rfl (by kernel_rfl) rfl (List.append_nil _).symm (gH s f0 _ hy h h1) ?_;rintro I0 hs2 v2 k2 le - ⟨v0,rfl,rfl,rfl⟩ -;refine vK (hs':=hsF) (List.append_nil _) ?_;refine yI [] [4] rfl<|zI<|yW ?_;obtain rfl:=zC N;exact xA ⟨_,_,(.tmp rfl ResV.nil),(fun _ h=>h),⟨_,rfl,rfl,rfl⟩⟩
def pJ (s:zA) (x:Int):Option (Bool):=do
 let t3←(do
   let y←qR s
   if (!y) then
    pure true
   else
    let y1←rL s
    pure (decide (y1 > x))
     : Option Bool)
 pure (id t3)
theorem zDc:∀ s x r,pJ s x=some r→∀ {I:Imm}{p c}{ad:Addr},(S4 I p s.Coefs c)→(At I ad [vI x])→RT 181 [vA (cAff s p c),.pointer (some ad)] I [] (zU  r):=by
 intro s x r N I p c ad h hat;unfold pJ at N;refine yL Tryz.func181 fun B=>?_;have H:=iS I;refine yD<|tS (cAff s p c) ?_;intro b hb;refine wI [] []<|zI<|zZ ?_;refine wT N [] (fun t3=>[(3,.bool t3)]) (fun o0 ho0=>?_) ?_
 · have H:=iS I;obtain ⟨y,hy,N⟩:=zB ho0;cases hc:(!y) with
   | true =>
    have hM0:=sT hc N;refine wK [.p (vA (cAff s p c)) [0],.q (.bool y),.q vY,.q vY,.p undef [],.p undef [],.p undef [],.p undef [],.p vY []] [[],[(0,false)],[(1,false)],[(2,false)],[(3,false)],[(3,false),(4,false)],[(3,false)],[(3,false),(5,false),(6,false)],[(3,false),(7,false)]] [hB b (cAff s p c)] [] [(8,false)] (zX [0]) ?_ ?_
    · refine Op<|Oq ?_<|Oq ?_<|Oq ?_<|Op<|Op<|Op<|Op<|Op<|On
      · intro I1 hf le1;refine yR [4] rfl ?_;have H:=iS I1;have h:=h.mono le1;refine uH (nQ s _ hy h) ?_;intro I01 le;have H:=H.trans le;exact xE H
      · intro I1 hf le1;refine yR [5] rfl<|oY 3 [(6,.bool (!y))] ?_;rw [hc];exact xE iR
      intro I1 hf le1;exact I_h [(6,vY)]<|oY 4 [(7,vY)]<|xE iR
    intro I02 le1;refine I_h [(12,vY)] ?_;have H:=H.trans le1;exact wI [] [(3,vY)]<|xY zQ<|yN<|zT (ct hM0 H)
   | false =>
    have hM01:=tU hc N;obtain ⟨y1,hy1,N⟩:=zB hM01;refine wK [.p (vA (cAff s p c)) [0],.q (.bool y),.q vF,.q vF,.p (vA (cAff s p c)) [0],.q (vI y1),.q (vI x),.p (.bool (decide (y1 > x))) [],.p (.bool (decide (y1 > x))) []] [[],[(0,false)],[(1,false)],[(2,false)],[(3,false)],[(3,false),(4,false)],[(3,false)],[(3,false),(5,false),(6,false)],[(3,false),(7,false)]] [hB b (cAff s p c)] [] [(8,false)] (zX [0]) ?_ ?_
    · refine Op<|Oq ?_<|Oq ?_<|Oq ?_<|Op<|Oq ?_<|Oq ?_<|Op<|Op<|On
      · intro I1 hf le1;refine yR [4] rfl ?_;have H:=iS I1;have h:=h.mono le1;refine uH (nQ s _ hy h) ?_;intro I01 le;have H:=H.trans le;exact xE H
      · intro I1 hf le1;refine yR [5] rfl<|oY 3 [(6,.bool (!y))] ?_;rw [hc];exact xE iR
      · intro I1 hf le1;exact I_h [(6,vF)]<|oY 4 [(7,vF)]<|xE iR
      · intro I1 hf le1;refine yR [7,8] rfl ?_;have H:=iS I1;have h:=h.mono le1;refine gF (gT s _ hy1 h) ?_;intro I03 le2;have H:=H.trans le2;exact xE H
      intro I1 hf le1;refine yR [1,7] rfl ?_;have hat:=hat.mono le1;exact xF 0 hat [vI x] (vI x) rfl<|xE iR
    intro I04 le3;refine yR [12] rfl ?_;have H:=H.trans le3;exact yI [] [3] rfl<|xY zQ<|yN<|zT (ct N H)
 intro t3 I0 le4 hMc;refine zI<|yW ?_;obtain rfl:=zC hMc;exact wM
def mP (a0:zJ) (depth:Int):Option (Bool):=do
 let t4←(do
   let y←kY a0.Array
   if y then
    let y1←wG (a0.Subs.length:Int) 1 2
    if y1 then
     let y2←xL a0.Subs (fun x0=>pJ x0 depth)
     pure (!y2)
    else
     pure false
   else
    pure false
     : Option Bool)
 pure (id t4)
theorem zBS:∀ a0 depth r,mP a0 depth=some r→∀ {I:Imm}{p c},(S4 I p a0.Subs c)→RT 134 [vA (cAccess a0 p c),vI depth] I [] (zU  r):=by
 intro a0 depth r N I p c h;unfold mP at N;refine yL Tryz.func134 fun B=>?_;have H:=iS I;refine yD<|tS (cAccess a0 p c) ?_;intro b hb;refine tS [vI depth] ?_;intro b1 hb1;refine xO 0 rfl ?_;intro I0 le hl0;have hat:At I0 ⟨b1,0,none⟩ [vI depth]:=At.of_blk hl0;have ⟨h,H⟩:=m2 le h H;refine wI [] []<|zI<|zZ ?_;refine wT N [] (fun t4=>[(4,.bool t4)]) (fun o0 ho0=>?_) ?_
 · have H:=iS I0;refine zK<|yE 2 [0] [6] rfl ?_;obtain ⟨y,hy,N⟩:=zB ho0;refine uH (nK a0.Array _ hy ) ?_;intro I02 le1;have ⟨hat,h,H⟩:=m3 le1 hat h H;refine yE 4 [] [8] rfl<|xZ [8] N ?_ ?_
   · intro hc N;refine yE 7 [0] [11] rfl<|bE N fun y1 hy1 N=>uH (wX (a0.Subs.length:Int) 1 2 _ hy1 ) ?_;intro I03 le2;have ⟨hat,h,H⟩:=m3 le2 hat h H;refine yE 10 [] [14] rfl<|xZ [14] N ?_ ?_
     · intro hc1 N;refine yE 13 [0] [16,17] rfl ?_;have hf0:FV1 Tryz.prog I03 [] (.func (.func 181) ⟨[]⟩ ⟨[vP b1 0]⟩) (fun x0=>pJ x0 depth):=by
         refine FV1.intro ?_;intro I1 le1 x0 r u0 hF k0;obtain ⟨_,rfl,k0⟩:=k0;obtain ⟨p1,c1,rfl,h3⟩:=yS k0;exact (zDc x0 depth r hF h3 (hat.mono le1)).mono (by rintro k i hs u ⟨v0,rfl,rfl,h⟩; exact ⟨rfl,h⟩)
       obtain ⟨y2,hy2,N⟩:=zB N;refine xP (qF a0.Subs (fun x0=>pJ x0 depth) _ hy2 h hf0) ?_;rintro I04 hs2 v2 k2 le3 - ⟨v03,rfl,rfl,rfl⟩ -;have H:=H.trans le3;exact yI [] [4] rfl<|xY zQ<|yN<|zT (ct N H)
     intro hc1 N;exact wI [] [(4,vF)]<|xY zQ<|yN<|zT (ct N H)
   intro hc N;exact wI [] [(4,vF)]<|xY zQ<|yN<|zT (ct N H)
 intro t4 I01 le4 hMc;refine zI<|yW ?_;obtain rfl:=zC hMc;exact wM
def mQ (a0:zA):Option (Bool):=do
 let t2←(do
   if ((a0.Coefs.length:Int) == 0) then
    pure (a0.Const == 0)
   else
    pure false
     : Option Bool)
 pure (id t2)
theorem zBT:∀ a0 r,mQ a0=some r→∀ {I:Imm}{p c},(S4 I p a0.Coefs c)→RT 183 [vA (cAff a0 p c)] I [] (zU  r):=by
 intro a0 r N I p c h;unfold mQ at N;refine yL Tryz.func183 fun B=>?_;have H:=iS I;refine yD<|tS (cAff a0 p c) ?_;intro b hb;refine wI [] []<|zI<|zZ ?_;refine wT N [] (fun t2=>[(2,.bool t2)]) (fun o0 ho0=>?_) ?_
 · have H:=iS I;refine zK<|yE 5 [0] [7] rfl<|xZ [7] ho0 ?_ ?_
   · intro hc N;exact yI [0] [2] rfl<|xY zQ<|yN<|zT (ct N H)
   intro hc N;exact wI [] [(2,vF)]<|xY zQ<|yN<|zT (ct N H)
 intro t2 I0 le hMc;refine zI<|yW ?_;obtain rfl:=zC hMc;exact wM
def pS (a0:zJ):Option (Bool):=do
 let t2←(do
   if (a0.Array.l == ([]:List UInt8)) then
    pure ((a0.Subs.length:Int) == 0)
   else
    pure false
     : Option Bool)
 pure (id t2)
theorem fA:∀ a0 r,pS a0=some r→∀ {I:Imm}{p c},(S4 I p a0.Subs c)→RT 184 [vA (cAccess a0 p c)] I [] (zU  r):=by
 intro a0 r N I p c h;unfold pS at N;refine yL Tryz.func184 fun B=>?_;have H:=iS I;refine yD<|tS (cAccess a0 p c) ?_;intro b hb;refine wI [] []<|zI<|zZ ?_;refine wT N [] (fun t2=>[(2,.bool t2)]) (fun o0 ho0=>?_) ?_
 · have H:=iS I;refine zK<|yE 4 [0] [6] rfl<|xZ [6] ho0 ?_ ?_
   · intro hc N;exact yI [0] [2] rfl<|xY zQ<|yN<|zT (ct N H)
   intro hc N;exact wI [] [(2,vF)]<|xY zQ<|yN<|zT (ct N H)
 intro t2 I0 le hMc;refine zI<|yW ?_;obtain rfl:=zC hMc;exact wM
def dP (kind:Int):Option (Bool):=do
 let y←wG kind 4 6
 pure (id y)
theorem zI2:∀ kind r,dP kind=some r→∀ {I:Imm} ,RT 185 [vI kind] I [] (zU  r):=by
 intro kind r N I;unfold dP at N;refine yL Tryz.func185 fun B=>vJ []<|yX<|yE 1 [] [3] rfl<|bE N fun y hy N=>uH (wX kind 4 6 _ hy ) fun I0 le=>wI [] [(2,.bool y)]<|zI<|yW ?_;obtain rfl:=zC N;exact wM
end Go.LN
