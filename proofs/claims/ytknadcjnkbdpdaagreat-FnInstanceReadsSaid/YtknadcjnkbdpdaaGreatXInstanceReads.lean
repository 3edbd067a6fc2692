/- Helper of the proof (see the last text). -/
import Derived.Test.YtknadcjnkbdpdaaGreatLnA
import Derived.Test.YtknadcjnkbdpdaaGreatLnI
import Derived.Test.YtknadcjnkbdpdaaGreatLnQ
import Derived.Test.YtknadcjnkbdpdaaGreatTryzShelf
import Derived.Test.YtknadcjnkbdpdaaGreatHM1
import Derived.Test.YtknadcjnkbdpdaaGreatHM2
import Derived.Test.YtknadcjnkbdpdaaGreatHM3
import Derived.Test.YtknadcjnkbdpdaaGreatHM4
import Derived.Test.YtknadcjnkbdpdaaGreatHM5
import Derived.Test.YtknadcjnkbdpdaaGreatHM6
import Derived.Test.YtknadcjnkbdpdaaGreatHM7
import Derived.Test.YtknadcjnkbdpdaaGreatHM8
import Derived.Test.YtknadcjnkbdpdaaGreatQT
import Derived.Test.YtknadcjnkbdpdaaGreatQZ
import Derived.Test.YtknadcjnkbdpdaaGreatVB1
import Derived.Test.YtknadcjnkbdpdaaGreatVB8
import Derived.Test.YtknadcjnkbdpdaaGreatLnR
set_option linter.unusedVariables false
set_option linter.unusedSimpArgs false
namespace Go.LN
open Go.Proofs
set_option maxRecDepth 20000
def spec_l5Bend_post (b0:Nat) (r:(List Int)×zJ):KT:=fun kk I' hs' v=>
  ∃ v0 k0,hs'=[.blk b0 ⟨k0⟩]∧v=tupV [v0]∧SL I' v0 r.1∧Rp.rep I' k0 r.2
def M.spec_l5Bend (r0:zJ) (m0:(List Int)):Option ((List Int)×zJ):=do
 let out←app 8 ([]:List Int) m0
 let (y1,y2)←yT r0 40
 let (out1,x)←(do
   if (y1 == 0) then
    let out2←app 8 out ([0]:List Int)
    pure (out2,y2)
   else
    let (out3,x1)←(do
      if (y1 == 1) then
       let (out4,x2)←(do
         if (decide ((out.length:Int) > 0)) then
          let (y4,y5)←yT y2 (out.length:Int)
          let (y7,y8)←yR y5 ([1000,(-1),9223372036854775807]:List Int)
          let x3←idx out y4
          let l←pure (out.set y4.toNat y7)
          pure (l,y8)
         else
          pure (out,y2)
           : Option (List Int×zJ))
       pure (out4,x2)
      else
       pure (out,y2)
        : Option (List Int×zJ))
    pure (out3,x1)
     : Option (List Int×zJ))
 pure (out1,x)
theorem spec_l5Bend_ok:∀ r0 m0 r,M.spec_l5Bend r0 m0=some r→∀ {I:Imm}{r01:Nat}{p c p1 c1},(S4 I p r0.b c)→(S4 I p1 m0 c1)→Ret Tryz.prog 37 [vP r01 0,vS p1 m0 c1] I [hB r01 (cRd r0 p c)] (spec_l5Bend_post r01 r):=by
 intro r0 m0 r N I r01 p c p1 c1 h h1;unfold M.spec_l5Bend at N;refine yB (fn:=Tryz.f37) (c:=(bodyOf Tryz.f37)) Tryz.func37 rfl rfl ?_;rintro B - -;have H:=iS I;refine yI []<|xP<|xW [] Int ?_;intro b hb;have h2:RL I [] ([]:List Int):=rfl;refine yG 2 [] [(7,vS p1 m0 c1)] ?_;obtain ⟨ccs,k0,k01⟩:=h1;have h1:SL I (vS p1 m0 c1) m0:=⟨_,k0,k01⟩;obtain ⟨out,hy,N⟩:=zC N;refine qZ 3 1 0 rfl rfl rfl h2 (.inl k0) k01 hy fun p2 c2 cs h3=>rP (yH [0,1] (hs':=[hO Int (vS p2 out c2) cs,hB r01 (cRd r0 p c)]))<|yF [] [(5,vS p2 out c2)]<|yL<|yM<|yG 1 [] [(9,vP r01 0)]<|rP (yH [1,0] (hs':=[hB r01 (cRd r0 p c),hO Int (vS p2 out c2) cs])) ?_;obtain ⟨⟨y1,y2⟩,hy1,N⟩:=zC N;refine tF [hB r01 (cRd r0 p c)] [hO Int (vS p2 out c2) cs] (xG r0 40 _ hy1 h) ?_;rintro I0 hs2 v2 k2 le - ⟨v0,kk,rfl,rfl,rfl,h5⟩ -;have h3:=iM le h3;have H:=H.trans le;obtain ⟨p3,c3,rfl,h6⟩:=yE h5;refine yN rfl<|zE<|zX<|yI [(11,.bool (y1 == 0))]<|zE ?_;obtain ⟨o0,ho0,hMc⟩:=zC N;refine yU (fun I' hs' m'=>∃ (out1:List Int) (x:zJ) (p4:Option Addr) (c4:Nat) (cs1:List Value) (p5:Option Addr) (c5:Nat),o0=(out1,x)∧I0.le I'∧(RL I' cs1 out1)∧(S4 I' p5 x.b c5)∧hs'=[hB r01 (cRd x p5 c5),hO Int (vS p4 out1 c4) cs1]∧m'=[(5,vS p4 out1 c4)]) ?_ ?_
 · have H:=iS I0;refine yO ho0 ?_ ?_
   · intro hc N;refine zR<|yG 1 [] [(13,vS p2 out c2)]<|xW [vI 0] Int ?_;intro b1 hb1;have h9:RL I0 [vI 0] ([0]:List Int):=⟨[vI 0],_,rfl,rfl,rfl,rfl⟩;obtain ⟨out2,hy2,N⟩:=zC N;exact qZ 3 1 2 rfl rfl rfl h3 (.inr ⟨0,rfl⟩) h9 hy2 fun p6 c6 cs2 h10=>rP (yH [1,2] (hs':=[hB r01 (cRd y2 p3 c3),hO Int (vS p6 out2 c6) cs2]))<|yF [] [(5,vS p6 out2 c6)]<|yV [(5,vS p6 out2 c6)]<|zV ⟨_,_,_,_,_,_,_,(zB N).symm,H,h10,h6,rfl,rfl⟩
   intro hc N;refine yI [(16,.bool (y1 == 1))]<|zE ?_;obtain ⟨o01,ho01,hMc1⟩:=zC N;refine yU (fun I' hs' m'=>∃ (out3:List Int) (x1:zJ) (p7:Option Addr) (c7:Nat) (cs3:List Value) (p8:Option Addr) (c8:Nat),o01=(out3,x1)∧I0.le I'∧(RL I' cs3 out3)∧(S4 I' p8 x1.b c8)∧hs'=[hB r01 (cRd x1 p8 c8),hO Int (vS p7 out3 c7) cs3]∧m'=[(5,vS p7 out3 c7)]) ?_ ?_
   · have H:=iS I0;refine yO ho01 ?_ ?_
     · intro hc1 N;refine yI [(20,.bool (decide ((out.length:Int) > 0)))]<|zE ?_;obtain ⟨o02,ho02,hMc2⟩:=zC N;refine yU (fun I' hs' m'=>∃ (out4:List Int) (x2:zJ) (p9:Option Addr) (c9:Nat) (cs4:List Value) (p10:Option Addr) (c10:Nat),o02=(out4,x2)∧I0.le I'∧(RL I' cs4 out4)∧(S4 I' p10 x2.b c10)∧hs'=[hB r01 (cRd x2 p10 c10),hO Int (vS p9 out4 c9) cs4]∧m'=[(5,vS p9 out4 c9)]) ?_ ?_
       · have H:=iS I0;refine yO ho02 ?_ ?_
         · intro hc2 N;refine zR<|yG 4 [] [(21,vS p2 out c2),(22,vP r01 0),(24,vI (out.length:Int))] ?_;obtain ⟨⟨y4,y5⟩,hy3,N⟩:=zC N;refine tF [hB r01 (cRd y2 p3 c3)] [hO Int (vS p2 out c2) cs] (xG y2 (out.length:Int) _ hy3 h6) ?_;rintro I04 hs2 v2 k2 le1 - ⟨v02,kk1,rfl,rfl,rfl,h16⟩ -;have h3:=iM le1 h3;have H:=H.trans le1;obtain ⟨p11,c11,rfl,h17⟩:=yE h16;refine yG 6 [] [(26,vP r01 0)]<|xW [vI 1000,vI (-1),vI 9223372036854775807] Int ?_;intro b2 hb2;have h18:RL I04 [vI 1000,vI (-1),vI 9223372036854775807] ([1000,(-1),9223372036854775807]:List Int):=⟨[vI 1000],_,rfl,rfl,rfl,⟨[vI (-1)],_,rfl,rfl,rfl,⟨[vI 9223372036854775807],_,rfl,rfl,rfl,rfl⟩⟩⟩;refine yJ 0 rfl ?_;intro I05 le2 hl0;have h19:=SL.of_frozen hl0 le2 h18;have h3:=iM le2 h3;have h17:=h17.mono le2;have H:=H.trans le2;obtain ⟨⟨y7,y8⟩,hy4,N⟩:=zC N;refine tF [hB r01 (cRd y5 p11 c11)] [hO Int (vS p2 out c2) cs] (yW y5 ([1000,(-1),9223372036854775807]:List Int) _ hy4 h17 h19) ?_;rintro I06 hs2 v2 k2 le3 - ⟨v04,kk2,rfl,rfl,rfl,h21⟩ -;have h3:=iM le3 h3;have H:=H.trans le3;obtain ⟨p12,c12,rfl,h22⟩:=yE h21;obtain ⟨x3,hy5,N⟩:=zC N;refine mH 1 rfl rfl rfl h3 hy5 ?_;intro ad ccs1 hat hcc hrep;obtain rfl:=hrep;obtain ⟨l,hy6,N⟩:=zC N;refine pR (c:=[vI y7]) (x':=y7) 1 0 rfl rfl rfl hat rfl rfl hcc (by kernel_rfl) (by kernel_rfl) (by kernel_rfl) h3 hy5 (by kernel_rfl) rfl ?_;rw [show out.set y4.toNat y7=l from zB hy6];intro cs5 h23 hl01;exact kH (m':=[(5,vS p2 out c2),(21,vS p2 out c2),(25,vI y4),(28,vI y7)]) ⟨rfl,rfl,rfl,rfl,trivial⟩<|zCF (hs':=[hB r01 (cRd y8 p12 c12),hO Int (vS p2 l c2) cs5]) (m':=[(5,vS p2 l c2),(21,vS p2 l c2),(25,vI y4),(28,vI y7)]) (by first | rfl | simp only [vS,hl01,List.nil_append,List.cons_append,List.set_cons_zero,List.set_cons_succ,List.eraseIdx_cons_zero,List.eraseIdx_cons_succ]) (by first | rfl | simp only [vS,hl01])<|yN rfl<|yV [(5,vS p2 l c2)]<|zV ⟨_,_,_,_,_,_,_,(zB N).symm,H,h23,h22,rfl,rfl⟩
         intro hc2 N;exact zZ<|yV [(5,vS p2 out c2)]<|zV ⟨_,_,_,_,_,_,_,(zB N).symm,H,h3,h6,rfl,rfl⟩
       rintro I03 hs2 m2 ⟨out4,x2,p9,c9,cs4,p10,c10,heq,le4,h13,h14,rfl,rfl⟩;subst o02;have H:=H.trans le4;exact yV [(5,vS p9 out4 c9)]<|zV ⟨_,_,_,_,_,_,_,(zB hMc2).symm,H,h13,h14,rfl,rfl⟩
     intro hc1 N;exact zZ<|yV [(5,vS p2 out c2)]<|zV ⟨_,_,_,_,_,_,_,(zB N).symm,H,h3,h6,rfl,rfl⟩
   rintro I02 hs2 m2 ⟨out3,x1,p7,c7,cs3,p8,c8,heq1,le5,h11,h12,rfl,rfl⟩;subst o01;have H:=H.trans le5;exact yV [(5,vS p7 out3 c7)]<|zV ⟨_,_,_,_,_,_,_,(zB hMc1).symm,H,h11,h12,rfl,rfl⟩
 rintro I01 hs2 m2 ⟨out1,x,p4,c4,cs1,p5,c5,heq2,le6,h7,h8,rfl,rfl⟩;subst o0;refine zU<|vO [(4,vS p4 out1 c4)]<|zE<|yC<|xO 1 rfl ?_;intro I07 le7 hl02;have h24:=SL.of_frozen hl02 le7 h7;have h8:=h8.mono le7;obtain rfl:=zB hMc;exact xM ⟨_,_,(.tmp rfl ResV.nil),(yD [0] rfl (by decide)),⟨_,_,rfl,rfl,h24,(yS ⟨_,rfl,h8⟩)⟩⟩
def M.spec_l4Total_l1 (p:zS) (n0:Int) (i:Int):Option (Int):=do
 if (decide (i < (p.Arrays.length:Int))) then
  let x←idx p.Arrays i
  let y←oN x
  M.spec_l4Total_l1 p (W (n0 + y)) (W (i + 1))
 else
  pure (id n0)
 partial_fixpoint
theorem spec_l4Total_l1_ok (p:zS):∀ (n0:Int) (i:Int) (o:Int),M.spec_l4Total_l1 p n0 i=some o→∀ {B}{I0 I:Imm}{Q p1 c p2 c1}{b:Nat},I0.le I→(S4 I p1 p.Arrays c)→(S4 I p2 p.Parts c1)→NG Q→NO Q→(∀ (I':Imm) (n01:Int),o=n01→I0.le I'→T 21 B Q (.exit 0) I' [] [(3,vI n01)])→J Tryz.prog 21 B (nav (bodyOf Tryz.f94) [1,1,0,1,0]) Q I [hB b (cProg p p1 c p2 c1)] [(1,vP b 0),(3,vI n0),(4,vI i)]:=by
 refine M.spec_l4Total_l1.partial_correctness p _ fun self ih n0 i o N B I0 I Q p1 c p2 c1 b H h h1 hg ho hx=>xD hg ho<|yK<|yM<|yF [0] [(9,.bool (decide (i < (p.Arrays.length:Int))))]<|zE<|yO N ?_ ?_
 · intro hc N;refine zZ<|yL<|zX<|zR<|yG 4 [0] [(12,vI n0),(14,vS p1 p.Arrays c),(15,vI i)]<|bE N fun x hy N=>wD rfl rfl h hy ?_;intro ad ccs hat hrep;obtain ⟨p3,c2,rfl,h2⟩:=vE hrep;refine xT 0 hat (cArr x p3 c2) (vA (cArr x p3 c2)) rfl<|bE N fun y hy1 N=>kD (zD2 x _ hy1 h2) ?_;intro I0 le;have h:=h.mono le;have h1:=h1.mono le;have H:=H.trans le;exact yF [] [(3,vI (W (n0 + y)))]<|zU<|zE<|zR<|yF [] [(4,vI (W (i + 1)))]<|xE<|vM [(1,vP b 0),(3,vI (W (n0 + y))),(4,vI (W (i + 1)))]<|ih (W (n0 + y)) (W (i + 1)) _ N H h h1 hg ho hx
 intro hc N;exact xC<|zO<|zO<|wB zT<|yV [(3,vI n0)]<|hx _ _ (zB N).symm H
def M.spec_l4Total (p:zS):Option (Int):=do
 let n01←M.spec_l4Total_l1 p 0 0
 pure (id n01)
theorem spec_l4Total_ok:∀ p r,M.spec_l4Total p=some r→∀ {I:Imm}{p1 c p2 c1},(S4 I p1 p.Arrays c)→(S4 I p2 p.Parts c1)→Ret Tryz.prog 94 [vA (cProg p p1 c p2 c1)] I [] (xK  r):=by
 intro p r N I p1 c p2 c1 h h1;unfold M.spec_l4Total at N;refine yB (fn:=Tryz.f94) (c:=(bodyOf Tryz.f94)) Tryz.func94 rfl rfl ?_;rintro B - -;refine yM<|tD (cProg p p1 c p2 c1) ?_;intro b hb;refine yF [] []<|vO [(3,vI 0)]<|yL<|yI [(4,vI 0)]<|zE<|zX<|vM [(1,vP b 0),(3,vI 0),(4,vI 0)] ?_;obtain ⟨o0,ho0,hMl⟩:=zC N;refine spec_l4Total_l1_ok p 0 0 o0 ho0 iR h h1 (fun _ _ _ h=>h) (fun _ _ h=>h) ?_;intro I01 n01 heq le1;subst o0;refine zY<|vO [(2,vI n01)]<|zE<|yC ?_;obtain rfl:=zB hMl;exact vQ
def M.spec_CountCells (p:zS):Option (Int):=do
 let y←uV p
 if (!y) then
  pure (id 0)
 else
  let y1←M.spec_l4Total p
  pure (id y1)
theorem spec_CountCells_ok:∀ p r,M.spec_CountCells p=some r→∀ {I:Imm}{p1 c p2 c1},(S4 I p1 p.Arrays c)→(S4 I p2 p.Parts c1)→Ret Tryz.prog 87 [vA (cProg p p1 c p2 c1)] I [] (xK  r):=by
 intro p r N I p1 c p2 c1 h h1;unfold M.spec_CountCells at N;refine yB (fn:=Tryz.f87) (c:=(bodyOf Tryz.f87)) Tryz.func87 rfl rfl ?_;rintro B - -;refine yM<|tD (cProg p p1 c p2 c1) ?_;intro b hb;refine yF [] []<|yL<|yM<|yG 1 [0] [(3,vA (cProg p p1 c p2 c1))]<|bE N fun y hy N=>vL (jG p _ hy h h1) ?_;intro I0 le;have h:=h.mono le;have h1:=h1.mono le;refine yF [] [(5,.bool (!y))]<|zE<|yO N ?_ ?_
 · intro hc N;refine yI [(2,vI 0)]<|zE<|yC<|zK ?_;obtain rfl:=zB N;exact vQ
 intro hc N;refine zZ<|xP<|yG 1 [0] [(6,vA (cProg p p1 c p2 c1))]<|bE N fun y1 hy1 N=>kD (spec_l4Total_ok p _ hy1 h h1) fun I01 le1=>yF [] [(2,vI y1)]<|zE<|yC ?_;obtain rfl:=zB N;exact vQ
def spec_l5Memory_post (b0:Nat) (r:(List Int)×zJ):KT:=fun kk I' hs' v=>
  ∃ v0 k0,hs'=[.blk b0 ⟨k0⟩]∧v=tupV [v0]∧SL I' v0 r.1∧Rp.rep I' k0 r.2
def M.spec_l5Memory_l1 (out:List Int) (i:Int) (x:zJ):Option ((List Int×zJ)):=do
 if (decide (i > 0)) then
  let (y2,y3)←yR x ([1,2,5,0,7,999,10]:List Int)
  let out2←app 8 out ([y2]:List Int)
  M.spec_l5Memory_l1 out2 (W (i - 1)) y3
 else
  pure (out,x)
 partial_fixpoint
theorem spec_l5Memory_l1_ok :∀ (out:List Int) (i:Int) (x:zJ) (o:(List Int×zJ)),M.spec_l5Memory_l1 out i x=some o→∀ {B}{I0 I:Imm}{Q}  {r01:Nat}{p4 c3 cs p5 c4},I0.le I→(RL I cs out)→(S4 I p5 x.b c4)→NG Q→NO Q→(∀ (I':Imm) (out1:List Int) (x1:zJ) (p6:Option Addr) (c5:Nat) (cs1:List Value) (p7:Option Addr) (c6:Nat),o=(out1,x1)→I0.le I'→(RL I' cs1 out1)→(S4 I' p7 x1.b c6)→T 21 B Q (.exit 0) I' [hO Int (vS p6 out1 c5) cs1,hB r01 (cRd x1 p7 c6)] [(5,vS p6 out1 c5)])→J Tryz.prog 21 B (nav (bodyOf Tryz.f38) [1,1,0,1,0]) Q I [hO Int (vS p4 out c3) cs,hB r01 (cRd x p5 c4)] [(0,vP r01 0),(5,vS p4 out c3),(6,vI i)]:=by
 refine M.spec_l5Memory_l1.partial_correctness  _ fun self ih out i x o N B I0 I Q r01 p4 c3 cs p5 c4 H h5 h6 hg ho hx=>xD hg ho<|yK<|yI [(11,.bool (decide (i > 0)))]<|zE<|yO N ?_ ?_
 · intro hc N;refine zZ<|yL<|zX<|zR<|yG 2 [] [(14,vS p4 out c3),(15,vP r01 0)]<|xW [vI 1,vI 2,vI 5,vI 0,vI 7,vI 999,vI 10] Int ?_;intro b2 hb2;have h9:RL I [vI 1,vI 2,vI 5,vI 0,vI 7,vI 999,vI 10] ([1,2,5,0,7,999,10]:List Int):=⟨[vI 1],_,rfl,rfl,rfl,⟨[vI 2],_,rfl,rfl,rfl,⟨[vI 5],_,rfl,rfl,rfl,⟨[vI 0],_,rfl,rfl,rfl,⟨[vI 7],_,rfl,rfl,rfl,⟨[vI 999],_,rfl,rfl,rfl,⟨[vI 10],_,rfl,rfl,rfl,rfl⟩⟩⟩⟩⟩⟩⟩;refine yJ 0 rfl ?_;intro I01 le1 hl0;have h10:=SL.of_frozen hl0 le1 h9;have h5:=iM le1 h5;have h6:=h6.mono le1;have H:=H.trans le1;refine rP (yH [1,0] (hs':=[hB r01 (cRd x p5 c4),hO Int (vS p4 out c3) cs])) ?_;obtain ⟨⟨y2,y3⟩,hy1,N⟩:=zC N;refine tF [hB r01 (cRd x p5 c4)] [hO Int (vS p4 out c3) cs] (yW x ([1,2,5,0,7,999,10]:List Int) _ hy1 h6 h10) ?_;rintro I02 hs2 v2 k2 le2 - ⟨v01,kk,rfl,rfl,rfl,h12⟩ -;have h5:=iM le2 h5;have H:=H.trans le2;obtain ⟨p8,c7,rfl,h13⟩:=yE h12;refine xW [vI y2] Int ?_;intro b3 hb3;have h14:RL I02 [vI y2] ([y2]:List Int):=⟨[vI y2],_,rfl,rfl,rfl,rfl⟩;obtain ⟨out2,hy2,N⟩:=zC N;exact qZ 3 1 2 rfl rfl rfl h5 (.inr ⟨0,rfl⟩) h14 hy2 fun p9 c8 cs2 h15=>rP (yH [1,2] (hs':=[hB r01 (cRd y3 p8 c7),hO Int (vS p9 out2 c8) cs2]))<|yF [] [(5,vS p9 out2 c8)]<|zU<|zE<|zR<|yF [] [(6,vI (W (i - 1)))]<|xE<|pJ (yD [1,0] rfl (by decide))<|vM [(0,vP r01 0),(5,vS p9 out2 c8),(6,vI (W (i - 1)))]<|ih out2 (W (i - 1)) y3 _ N H h15 h13 hg ho hx
 intro hc N;exact xC<|zO<|zO<|yV [(5,vS p4 out c3)]<|hx _ _ _ _ _ _ _ _ (zB N).symm H h5 h6
def M.spec_l5Memory (r0:zJ) (p1:zS):Option ((List Int)×zJ):=do
 let y←M.spec_CountCells p1
 let (out1,x1)←M.spec_l5Memory_l1 ([]:List Int) y r0
 pure (out1,x1)
theorem spec_l5Memory_ok:∀ r0 p1 r,M.spec_l5Memory r0 p1=some r→∀ {I:Imm}{r01:Nat}{p c p2 c1 p3 c2},(S4 I p r0.b c)→(S4 I p2 p1.Arrays c1)→(S4 I p3 p1.Parts c2)→Ret Tryz.prog 38 [vP r01 0,vA (cProg p1 p2 c1 p3 c2)] I [hB r01 (cRd r0 p c)] (spec_l5Memory_post r01 r):=by
 intro r0 p1 r N I r01 p c p2 c1 p3 c2 h h1 h2;unfold M.spec_l5Memory at N;refine yB (fn:=Tryz.f38) (c:=(bodyOf Tryz.f38)) Tryz.func38 rfl rfl ?_;rintro B - -;refine yM<|tD (cProg p1 p2 c1 p3 c2) ?_;intro b hb;refine yF [] []<|xP<|xW [] Int ?_;intro b1 hb1;have h3:RL I [] ([]:List Int):=rfl;refine yF [] [(5,vS (some ⟨b1,0,none⟩) ([]:List Int) 0)]<|yL<|yM<|yG 1 [1] [(8,vA (cProg p1 p2 c1 p3 c2))]<|bE N fun y hy N=>kD (spec_CountCells_ok p1 _ hy h1 h2) ?_;intro I0 le;have h3:=iM le h3;have h:=h.mono le;refine yF [] [(6,vI y)]<|zE<|zX<|pJ (yH [0,2] (hs':=[hO Int (vS (some ⟨b1,0,none⟩) ([]:List Int) 0) [],hB r01 (cRd r0 p c)]))<|vM [(0,vP r01 0),(5,vS (some ⟨b1,0,none⟩) ([]:List Int) 0),(6,vI y)] ?_;obtain ⟨o0,ho0,hMl⟩:=zC N;refine spec_l5Memory_l1_ok ([]:List Int) y r0 o0 ho0 iR h3 h (fun _ _ _ h=>h) (fun _ _ h=>h) ?_;intro I03 out1 x1 p6 c5 cs1 p7 c6 heq le3 h7 h8;subst o0;refine zY<|vO [(4,vS p6 out1 c5)]<|zE<|yC<|xO 0 rfl ?_;intro I04 le4 hl01;have h16:=SL.of_frozen hl01 le4 h7;have h8:=h8.mono le4;obtain rfl:=zB hMl;exact xM ⟨_,_,(.tmp rfl ResV.nil),(yD [0] rfl (by decide)),⟨_,_,rfl,rfl,h16,(yS ⟨_,rfl,h8⟩)⟩⟩
end Go.LN
namespace Go.LN
open Go.Proofs
set_option maxRecDepth 20000
def spec_DrawInstanceValue_post (r:zS×(List Int)×zM):KT:=fun kk I' hs' v=>
  ∃ v0 v1 v2,hs'=[]∧v=tupV [v0,v1,v2]∧(∃ cs,v0=.agg ⟨cs⟩∧Rp.rep I' cs r.1)∧SL I' v1 r.2.1∧(∃ cs,v2=.agg ⟨cs⟩∧Rp.rep I' cs r.2.2)
def M.spec_DrawInstanceValue (code:(List UInt8)):Option (zS×(List Int)×zM):=do
 let y←kI code
 let (y2,y3)←jC y
 let (y5,y6)←qV y3 y2
 let (y8,y9)←M.spec_l5Memory y6 y5
 let (y11,y12)←M.spec_l5Bend y9 y8
 let (y14,y15)←jU y12 y5
 pure (y5,y11,y14)
theorem spec_DrawInstanceValue_ok:∀ code r,M.spec_DrawInstanceValue code=some r→∀ {I:Imm}{p c},(S4 I p code c)→Ret Tryz.prog 9 [vS p code c] I [] (spec_DrawInstanceValue_post  r):=by
 intro code r N I p c h;unfold M.spec_DrawInstanceValue at N;refine yB (fn:=Tryz.f9) (c:=(bodyOf Tryz.f9)) Tryz.func9 rfl rfl ?_;rintro B - -;have H:=iS I;refine yM<|uK zTwo ?_;intro b hb;refine yG 2 [] []<|uK [vI 0,vI 0,z0] ?_;intro b1 hb1;refine yN rfl<|xP<|yG 1 [] [(8,vS p code c)]<|bE N fun y hy N=>xX (zGv code _ hy h) ?_;rintro I0 hs2 v2 k2 le - ⟨b2,p1,c1,rfl,rfl,h1⟩ -;have H:=H.trans le;refine yF [] [(5,vP b2 0)]<|xP<|yG 2 [] [(10,vP b2 0),(11,vP b2 0)] ?_;obtain ⟨⟨y2,y3⟩,hy1,N⟩:=zC N;refine tF [hB b2 (cRd y p1 c1)] [hB b1 [vI 0,vI 0,z0],hB b zTwo] (zH1 y _ hy1 h1) ?_;rintro I01 hs2 v2 k2 le1 - ⟨v0,kk,rfl,rfl,⟨cs,rfl,h2⟩,h3⟩ -;have H:=H.trans le1;obtain ⟨p2,c2,p3,c3,rfl,h4,h5⟩:=zGu h2;obtain ⟨p4,c4,rfl,h6⟩:=yE h3;obtain ⟨⟨y5,y6⟩,hy2,N⟩:=zC N;refine tF [hB b2 (cRd y3 p4 c4)] [hB b1 [vI 0,vI 0,z0],hB b zTwo] (zGg y3 y2 _ hy2 h6 h4 h5) ?_;rintro I02 hs2 v2 k2 le2 - ⟨v04,kk1,rfl,rfl,⟨cs1,rfl,h7⟩,h8⟩ -;have H:=H.trans le2;obtain ⟨p5,c5,p6,c6,rfl,h9,h10⟩:=zGu h7;obtain ⟨p7,c7,rfl,h11⟩:=yE h8;refine uK zTwo ?_;intro b3 hb2;refine xN 0 (cProg y5 p5 c5 p6 c6) [hB b3 (cProg y5 p5 c5 p6 c6),hB b2 (cRd y6 p7 c7),hB b1 [vI 0,vI 0,z0],hB b zTwo] rfl rfl rfl rfl<|yN rfl<|xP<|yG 3 [0] [(14,vP b2 0),(15,vP b2 0),(16,vA (cProg y5 p5 c5 p6 c6))]<|rP (yH [1,0,2,3] (hs':=[hB b2 (cRd y6 p7 c7),hB b3 (cProg y5 p5 c5 p6 c6),hB b1 [vI 0,vI 0,z0],hB b zTwo])) ?_;obtain ⟨⟨y8,y9⟩,hy3,N⟩:=zC N;refine tF [hB b2 (cRd y6 p7 c7)] [hB b3 (cProg y5 p5 c5 p6 c6),hB b1 [vI 0,vI 0,z0],hB b zTwo] (spec_l5Memory_ok y6 y5 _ hy3 h11 h9 h10) ?_;rintro I03 hs2 v2 k2 le3 - ⟨v08,kk2,rfl,rfl,h12,h13⟩ -;have h9:=h9.mono le3;have h10:=h10.mono le3;have H:=H.trans le3;obtain ⟨p8,c8,rfl⟩:=h12.form;obtain ⟨p9,c9,rfl,h14⟩:=yE h13;obtain ⟨⟨y11,y12⟩,hy4,N⟩:=zC N;refine tF [hB b2 (cRd y9 p9 c9)] [hB b3 (cProg y5 p5 c5 p6 c6),hB b1 [vI 0,vI 0,z0],hB b zTwo] (spec_l5Bend_ok y9 y8 _ hy4 h14 h12) ?_;rintro I04 hs2 v2 k2 le4 - ⟨v010,kk3,rfl,rfl,h15,h16⟩ -;have h9:=h9.mono le4;have h10:=h10.mono le4;have H:=H.trans le4;obtain ⟨p10,c10,rfl⟩:=h15.form;obtain ⟨p11,c11,rfl,h17⟩:=yE h16;refine yF [] [(7,vS p10 y11 c10)]<|zE<|yK ?_;obtain ⟨⟨y14,y15⟩,hy5,N⟩:=zC N;refine vK [.p (vA (cProg y5 p5 c5 p6 c6)) [0],.p (vS p10 y11 c10) [],.p (vP b2 0) [],.p (vA (cProg y5 p5 c5 p6 c6)) [0],.x (fun I' v hx=>∃ p12 c12 p13 c13,v=vA (cInst y14 p12 c12)∧hx=[hB b2 (cRd y15 p13 c13)]∧(S4 I' p12 y14.Point c12)∧(S4 I' p13 y15.b c13)),.x (fun I' v hx=>hx=[hB b (cProg y5 p5 c5 p6 c6)]),.p (vS p10 y11 c10) []] [[],[],[],[],[(2,false),(3,false),(8,true)],[(0,false),(9,true)],[(1,false)]] [hB b3 (cProg y5 p5 c5 p6 c6),hB b1 [vI 0,vI 0,z0]] [[hB b2 (cRd y12 p11 c11)],[hB b zTwo]] [(4,true),(5,true),(6,false)] (yH [1,2,0,3]) ?_ ?_
 · refine Op<|Op<|Op<|Op<|Ox ?_<|Ox ?_<|Op<|On
   · intro I1 hf le1;refine zH ?_;rintro _ _ ⟨rfl,rfl⟩;refine zH ?_;rintro _ _ ⟨rfl,rfl⟩;refine zH ?_;rintro _ _ rfl;refine yX [(21,vP b2 0),(22,vA (cProg y5 p5 c5 p6 c6))] ?_;have H:=iS I1;have h17:=h17.mono le1;have h9:=h9.mono le1;have h10:=h10.mono le1;refine tF [hB b2 (cRd y12 p11 c11)] (hB b3 (cProg y5 p5 c5 p6 c6)::hB b1 [vI 0,vI 0,z0]::hf) (zHn y12 y5 _ hy5 h17 h9 h10) ?_;rintro I05 hs2 v2 k2 le5 - ⟨v012,kk4,rfl,rfl,⟨cs2,rfl,h18⟩,h19⟩ -;have H:=H.trans le5;obtain ⟨p12,c12,rfl,h20⟩:=zCL h18;obtain ⟨p13,c13,rfl,h21⟩:=yE h19;exact yY [hB b2 (cRd y15 p13 c13)] H ⟨_,_,_,_,rfl,rfl,h20,h21⟩
   intro I1 hf le1;refine zH ?_;rintro _ _ ⟨rfl,rfl⟩;refine zH ?_;rintro _ _ rfl;refine yX [(2,vP b 0),(19,vA (cProg y5 p5 c5 p6 c6))] ?_;have H:=iS I1;exact xN 0 (cProg y5 p5 c5 p6 c6) (hB b (cProg y5 p5 c5 p6 c6)::hB b3 (cProg y5 p5 c5 p6 c6)::hB b1 [vI 0,vI 0,z0]::hf) rfl rfl rfl rfl<|zE4 (hx:=[hB b (cProg y5 p5 c5 p6 c6)]) rfl H rfl (zHM (v:=undef)) rfl
 intro I06 le6;refine zH ?_;rintro _ _ ⟨p12,c12,p13,c13,rfl,rfl,h20,h21⟩;refine zH ?_;rintro _ _ rfl;refine yX [(2,vP b 0),(3,vS p10 y11 c10),(4,vP b1 0),(23,vA (cInst y14 p12 c12))] ?_;have h15:=h15.mono le6;have h9:=h9.mono le6;have h10:=h10.mono le6;refine xN 3 (cInst y14 p12 c12) [hB b (cProg y5 p5 c5 p6 c6),hB b2 (cRd y15 p13 c13),hB b3 (cProg y5 p5 c5 p6 c6),hB b1 (cInst y14 p12 c12)] rfl rfl rfl rfl<|yN rfl<|zE<|yC ?_;obtain rfl:=zB N;exact xM ⟨_,_,(.cell 0 rfl rfl (by kernel_rfl) (.tmp rfl (.cell 3 rfl rfl (by kernel_rfl) ResV.nil))),zT,⟨_,_,_,rfl,rfl,⟨_,rfl,(mE ⟨_,_,rfl,h9,h10⟩)⟩,h15,⟨_,rfl,(nN ⟨_,rfl,h20⟩)⟩⟩⟩
end Go.LN
namespace Go.LN
open Go.Proofs
set_option maxRecDepth 20000
def M.impl_Program_cells_l1 (p:zS) (n0:Int) (t9:Int):Option (Int):=do
 if (decide (t9 < (p.Arrays.length:Int))) then
  let x←idx p.Arrays t9
  let y←oJ x
  M.impl_Program_cells_l1 p (W (n0 + y)) (W (t9 + 1))
 else
  pure (id n0)
 partial_fixpoint
theorem impl_Program_cells_l1_ok (p:zS):∀ (n0:Int) (t9:Int) (o:Int),M.impl_Program_cells_l1 p n0 t9=some o→∀ {B}{I0 I:Imm}{Q p1 c},I0.le I→(S4 I p1 p.Arrays c)→NG Q→NO Q→(∀ (I':Imm) (n01:Int),o=n01→I0.le I'→T 19 B Q (.exit 0) I' [] [(3,vI n01)])→J Tryz.prog 19 B (nav (bodyOf Tryz.f90) [1,1,0,1,0]) Q I [] [(3,vI n0),(7,vS p1 p.Arrays c),(8,vI (p.Arrays.length:Int)),(9,vI t9)]:=by
 refine M.impl_Program_cells_l1.partial_correctness p _ fun self ih n0 t9 o N B I0 I Q p1 c H h hg ho hx=>xD hg ho<|yI [(10,.bool (decide (t9 < (p.Arrays.length:Int))))]<|yL<|yO N ?_ ?_
 · intro hc N;refine zZ<|yL<|zX<|yM<|bE N fun x hy N=>wD rfl rfl h hy ?_;intro ad ccs hat hrep;obtain ⟨p3,c2,rfl,h2⟩:=vE hrep;refine xT 0 hat (cArr x p3 c2) (vA (cArr x p3 c2)) rfl<|uK [vT ([]),z0] ?_;intro b1 hb1;refine xN 0 (cArr x p3 c2) [hB b1 (cArr x p3 c2)] rfl rfl rfl rfl<|yN rfl<|zE<|zR<|yG 2 [0] [(13,vI n0),(14,vA (cArr x p3 c2))]<|bE N fun y hy1 N=>kD (zBJ x _ hy1 h2) ?_;intro I0 le;have h:=h.mono le;have H:=H.trans le;exact yF [] [(3,vI (W (n0 + y)))]<|zU<|zE<|zR<|yF [] [(9,vI (W (t9 + 1)))]<|xE<|pJ zT<|vM [(3,vI (W (n0 + y))),(7,vS p1 p.Arrays c),(8,vI (p.Arrays.length:Int)),(9,vI (W (t9 + 1)))]<|ih (W (n0 + y)) (W (t9 + 1)) _ N H h hg ho hx
 intro hc N;exact xC<|zO<|zO<|yV [(3,vI n0)]<|hx _ _ (zB N).symm H
def M.impl_Program_cells (p:zS):Option (Int):=do
 let n01←M.impl_Program_cells_l1 p 0 0
 pure (id n01)
theorem impl_Program_cells_ok:∀ p r,M.impl_Program_cells p=some r→∀ {I:Imm}{p1 c p2 c1},(S4 I p1 p.Arrays c)→(S4 I p2 p.Parts c1)→Ret Tryz.prog 90 [vA (cProg p p1 c p2 c1)] I [] (xK  r):=by
 intro p r N I p1 c p2 c1 h h1;unfold M.impl_Program_cells at N;refine yB (fn:=Tryz.f90) (c:=(bodyOf Tryz.f90)) Tryz.func90 rfl rfl ?_;rintro B - -;refine yM<|tD (cProg p p1 c p2 c1) ?_;intro b hb;refine yF [] []<|vO [(3,vI 0)]<|yL<|yM<|yF [0] [(7,vS p1 p.Arrays c),(8,vI (p.Arrays.length:Int)),(9,vI 0)]<|zE<|zX<|pJ (yH [] (hs':=[]))<|vM [(3,vI 0),(7,vS p1 p.Arrays c),(8,vI (p.Arrays.length:Int)),(9,vI 0)] ?_;obtain ⟨o0,ho0,hMl⟩:=zC N;refine impl_Program_cells_l1_ok p 0 0 o0 ho0 iR h (fun _ _ _ h=>h) (fun _ _ h=>h) ?_;intro I01 n01 heq le1;subst o0;refine zY<|vO [(2,vI n01)]<|zE<|yC ?_;obtain rfl:=zB hMl;exact vQ
def M.impl_MemoryValid_1 (n0:Int):Option (Bool):=do
 let y←xV n0 0 999
 pure (!y)
theorem impl_MemoryValid_1_ok:∀ n0 r,M.impl_MemoryValid_1 n0=some r→∀ {I:Imm} ,Ret Tryz.prog 91 [vI n0] I [] (zW  r):=by
 intro n0 r N I;unfold M.impl_MemoryValid_1 at N;refine yB (fn:=Tryz.f91) (c:=(bodyOf Tryz.f91)) Tryz.func91 rfl rfl ?_;rintro B - -;refine yI []<|xP<|yG 1 [] [(3,vI n0)]<|bE N fun y hy N=>vL (xR n0 0 999 _ hy ) fun I0 le=>yF [] [(2,.bool (!y))]<|zE<|yC ?_;obtain rfl:=zB N;exact vQ
def M.impl_MemoryValid (p:zS) (m0:(List Int)):Option (Bool):=do
 let t4←(do
   let y←pE p
   if y then
    let y1←M.impl_Program_cells p
    if ((m0.length:Int) == y1) then
     let y2←xI m0 M.impl_MemoryValid_1
     pure (!y2)
    else
     pure false
   else
    pure false
     : Option Bool)
 pure (id t4)
theorem impl_MemoryValid_ok:∀ p m0 r,M.impl_MemoryValid p m0=some r→∀ {I:Imm}{p1 c p2 c1 p3 c2},(S4 I p1 p.Arrays c)→(S4 I p2 p.Parts c1)→(S4 I p3 m0 c2)→Ret Tryz.prog 40 [vA (cProg p p1 c p2 c1),vS p3 m0 c2] I [] (zW  r):=by
 intro p m0 r N I p1 c p2 c1 p3 c2 h h1 h2;unfold M.impl_MemoryValid at N;refine yB (fn:=Tryz.f40) (c:=(bodyOf Tryz.f40)) Tryz.func40 rfl rfl ?_;rintro B - -;have H:=iS I;refine yM<|tD (cProg p p1 c p2 c1) ?_;intro b hb;refine yF [] []<|zE<|yK ?_;obtain ⟨o0,ho0,hMc⟩:=zC N;refine yU (fun I' hs' m'=>∃ (t4:Bool),o0=t4∧I.le I'∧hs'=[]∧m'=[(4,.bool t4)]) ?_ ?_
 · have H:=iS I;refine zR<|yG 1 [0] [(5,vA (cProg p p1 c p2 c1))] ?_;obtain ⟨y,hy,N⟩:=zC ho0;refine vL (zAO p _ hy h h1) ?_;intro I01 le;have h2:=h2.mono le;have h:=h.mono le;have h1:=h1.mono le;have H:=H.trans le;refine yG 3 [] [(7,.bool y)] ?_;cases hc:y with
   | true =>
    have hM0:=zQ hc N
    try rw [hc]
    refine yG 6 [0] [(9,vI (m0.length:Int)),(10,vA (cProg p p1 c p2 c1))] ?_;obtain ⟨y1,hy1,N⟩:=zC hM0;refine kD (impl_Program_cells_ok p _ hy1 h h1) ?_;intro I02 le1;have h2:=h2.mono le1;have h:=h.mono le1;have H:=H.trans le1;refine yG 10 [] [(14,.bool ((m0.length:Int) == y1))] ?_;cases hc1:((m0.length:Int) == y1) with
    | true =>
     have hM01:=zQ hc1 N
     try rw [hc1]
     refine yG 11 [] [(15,vS p3 m0 c2)] ?_;have hf0:FV1 Tryz.prog I02 [] (.func (.func 91) ⟨[]⟩ ⟨[]⟩) M.impl_MemoryValid_1:=by
       refine FV1.intro ?_;intro I1 le1 x0 r u0 hF k0;obtain rfl:=k0;exact (impl_MemoryValid_1_ok x0 r hF ).mono (by rintro k i hs u ⟨v0,rfl,rfl,h⟩; exact ⟨rfl,h⟩)
     obtain ⟨y2,hy2,N⟩:=zC hM01;refine xX (tU m0 M.impl_MemoryValid_1 _ hy2 h2 hf0) ?_;rintro I03 hs2 v2 k2 le2 - ⟨v02,rfl,rfl,rfl⟩ -;have H:=H.trans le2;exact yF [] [(4,.bool (!y2))]<|wB zT<|yV [(4,.bool (!y2))]<|zV ⟨_,(zB N).symm,H,rfl,rfl⟩
    | false =>
     have hM02:=zN hc1 N
     try rw [hc1]
     exact yF [] [(4,vF)]<|wB zT<|yV [(4,vF)]<|zV ⟨_,(zB hM02).symm,H,rfl,rfl⟩
   | false =>
    have hM03:=zN hc N
    try rw [hc]
    exact yF [] [(4,vF)]<|wB zT<|yV [(4,vF)]<|zV ⟨_,(zB hM03).symm,H,rfl,rfl⟩
 rintro I0 hs2 m2 ⟨t4,heq,le3,rfl,rfl⟩;subst o0;refine zE<|yC ?_;obtain rfl:=zB hMc;exact vQ
def M.impl_modulo (n0:Int):Option (Int):=do
 pure ((W ((W ((n0.tmod 1000) + 999)) + 1)).tmod 1000)
theorem impl_modulo_ok:∀ n0 r,M.impl_modulo n0=some r→∀ {I:Imm} ,Ret Tryz.prog 93 [vI n0] I [] (xK  r):=by
 intro n0 r N I;unfold M.impl_modulo at N;refine yB (fn:=Tryz.f93) (c:=(bodyOf Tryz.f93)) Tryz.func93 rfl rfl ?_;rintro B - -;refine yI []<|vO [(2,vI ((W ((W ((n0.tmod 1000) + 999)) + 1)).tmod 1000))]<|zE<|yC ?_;obtain rfl:=zB N;exact vQ
def M.impl_Program_value (p:zS) (m0:(List Int)) (e0:zF) (point:(List Int)):Option (Int):=do
 if (e0.Kind == 1) then
  pure e0.Num
 else
  if (e0.Kind == 2) then
   let y←uO e0.Index point
   let y1←M.impl_modulo y
   pure (id y1)
  else
   if (e0.Kind == 3) then
    let y2←uX p e0.Read point
    let x←idx m0 y2
    pure (id x)
   else
    let x1←idx e0.Kids 0
    let y3←M.impl_Program_value (same p) (same m0) (same x1) (same point)
    let x2←idx e0.Kids 1
    let y4←M.impl_Program_value (same p) (same m0) (same x2) (same point)
    if (e0.Kind == 4) then
     let y5←M.impl_modulo (W (y3 + y4))
     pure (id y5)
    else
     if (e0.Kind == 5) then
      let y6←M.impl_modulo (W (y3 - y4))
      pure (id y6)
     else
      let y7←M.impl_modulo (W (y3 * y4))
      pure (id y7)
 partial_fixpoint
theorem impl_Program_value_ok:∀ p m0 e0 point r,M.impl_Program_value p m0 e0 point=some r→∀ {I:Imm}{p1 c p2 c1 p3 c2 p4 c3 p5 c4 p6 c5 p7 c6},(S4 I p1 p.Arrays c)→(S4 I p2 p.Parts c1)→(S4 I p3 m0 c2)→(S4 I p4 e0.Index.Coefs c3)→(S4 I p5 e0.Read.Subs c4)→(S4 I p6 e0.Kids c5)→(S4 I p7 point c6)→Ret Tryz.prog 42 [vA (cProg p p1 c p2 c1),vS p3 m0 c2,vA (cExpr e0 p4 c3 p5 c4 p6 c5),vS p7 point c6] I [] (xK  r):=by
 refine M.impl_Program_value.partial_correctness _ fun F_impl_Program_value ih_impl_Program_value p m0 e0 point r N I p1 c p2 c1 p3 c2 p4 c3 p5 c4 p6 c5 p7 c6 h h1 h2 h3 h4 h5 h6=>yB (fn:=Tryz.f42) (c:=(bodyOf Tryz.f42)) Tryz.func42 rfl rfl ?_;rintro B - -;have H:=iS I;refine yM<|tD (cProg p p1 c p2 c1) ?_;intro b hb;refine tD (cExpr e0 p4 c3 p5 c4 p6 c5) ?_;intro b1 hb1;refine yF [] []<|yL<|yM<|yF [0] [(12,vI e0.Kind)]<|zE<|zX<|yI [(13,.bool (e0.Kind == 1))]<|zE<|yO N ?_ ?_
 · intro hc N;refine yM<|yF [0] [(8,vI e0.Num)]<|zE<|yC<|yA<|zK ?_;obtain rfl:=zB N;exact vQ
 intro hc N;refine yI [(17,.bool (e0.Kind == 2))]<|zE<|yO N ?_ ?_
 · intro hc1 N;refine yM<|yG 3 [0] [(20,vA (cAff e0.Index p4 c3)),(21,vS p7 point c6)]<|bE N fun y hy N=>kD (pD e0.Index point _ hy h3 h6) ?_;intro I0 le;obtain ⟨y1,hy1,N⟩:=zC N;refine kD (impl_modulo_ok y _ hy1 ) fun I01 le1=>yF [] [(8,vI y1)]<|zE<|yC<|yA<|zK ?_;obtain rfl:=zB N;exact vQ
 intro hc1 N;refine yI [(24,.bool (e0.Kind == 3))]<|zE<|yO N ?_ ?_
 · intro hc2 N;refine yM<|yG 5 [1,0] [(26,vS p3 m0 c2),(27,vA (cProg p p1 c p2 c1)),(29,vA (cAccess e0.Read p5 c4)),(30,vS p7 point c6)]<|bE N fun y2 hy2 N=>kD (oK p e0.Read point _ hy2 h h1 h4 h6) ?_;intro I02 le2;have h2:=h2.mono le2;obtain ⟨x,hy3,N⟩:=zC N;refine wD rfl rfl h2 hy3 ?_;intro ad ccs hat hrep;obtain rfl:=hrep;refine xT 0 hat [vI x] (vI x) rfl<|yF [] [(8,vI x)]<|zE<|yC<|yA<|zK ?_;obtain rfl:=zB N;exact vQ
 intro hc2 N;refine zZ<|zU<|zE<|yK ?_;obtain ⟨x1,hy4,N⟩:=zC N;obtain ⟨y3,hy5,N⟩:=zC N;obtain ⟨x2,hy6,N⟩:=zC N;obtain ⟨y4,hy7,N⟩:=zC N;refine vK [.p (vA (cProg p p1 c p2 c1)) [1],.p (vS p3 m0 c2) [],.p (vP b1 6) [],.p (vS p6 e0.Kids c5) [0],.x (fun I' v hx=>∃ ad1 p8 c7 p9 c8 p10 c9,v=.pointer (some ad1)∧hx=[]∧(At I' ad1 (cExpr x1 p8 c7 p9 c8 p10 c9))∧(S4 I' p8 x1.Index.Coefs c7)∧(S4 I' p9 x1.Read.Subs c8)∧(S4 I' p10 x1.Kids c9)),.x (fun I' v hx=>∃ p81 c71 p91 c81 p101 c91,v=vA (cExpr x1 p81 c71 p91 c81 p101 c91)∧hx=[]∧(S4 I' p81 x1.Index.Coefs c71)∧(S4 I' p91 x1.Read.Subs c81)∧(S4 I' p101 x1.Kids c91)),.p (vS p7 point c6) [],.q (vI y3),.p (vA (cProg p p1 c p2 c1)) [1],.p (vS p3 m0 c2) [],.p (vP b1 6) [],.p (vS p6 e0.Kids c5) [0],.x (fun I' v hx=>∃ ad2 p11 c10 p12 c11 p13 c12,v=.pointer (some ad2)∧hx=[]∧(At I' ad2 (cExpr x2 p11 c10 p12 c11 p13 c12))∧(S4 I' p11 x2.Index.Coefs c10)∧(S4 I' p12 x2.Read.Subs c11)∧(S4 I' p13 x2.Kids c12)),.x (fun I' v hx=>∃ p111 c101 p121 c111 p131 c121,v=vA (cExpr x2 p111 c101 p121 c111 p131 c121)∧hx=[]∧(S4 I' p111 x2.Index.Coefs c101)∧(S4 I' p121 x2.Read.Subs c111)∧(S4 I' p131 x2.Kids c121)),.p (vS p7 point c6) [],.q (vI y4),.p (vI y3) []] [[],[],[],[(2,false)],[(3,false)],[(4,false)],[],[(0,false),(1,false),(5,false),(6,false)],[],[],[],[(10,false)],[(11,false)],[(12,false)],[],[(8,false),(9,false),(13,false),(14,false)],[(7,false)]] [hB b1 (cExpr e0 p4 c3 p5 c4 p6 c5),hB b (cProg p p1 c p2 c1)] [] [(15,false),(16,false)] (yH [0,1]) ?_ ?_
 · refine Op<|Op<|Op<|Op<|Ox ?_<|Ox ?_<|Op<|Oq ?_<|Op<|Op<|Op<|Op<|Ox ?_<|Ox ?_<|Op<|Oq ?_<|Op<|On
   · intro I1 hf le1;refine yX [(37,vS p6 e0.Kids c5)] ?_;have h5:=h5.mono le1;refine wD rfl rfl h5 hy4 ?_;intro ad1 ccs1 hat1 hrep1;obtain ⟨p8,c7,p9,c8,p10,c9,rfl,h10,h11,h12⟩:=uL hrep1;exact yY [] iR ⟨_,_,_,_,_,_,_,rfl,rfl,hat1,h10,h11,h12⟩
   · intro I1 hf le1;refine zH ?_;rintro _ _ ⟨ad1,p8,c7,p9,c8,p10,c9,rfl,rfl,hat1,h10,h11,h12⟩;exact yX [(38,.pointer (some ad1))]<|xT 0 hat1 (cExpr x1 p8 c7 p9 c8 p10 c9) (vA (cExpr x1 p8 c7 p9 c8 p10 c9)) rfl<|yY [] iR ⟨_,_,_,_,_,_,rfl,rfl,h10,h11,h12⟩
   · intro I1 hf le1;refine zH ?_;rintro _ _ ⟨rfl,rfl⟩;refine zH ?_;rintro _ _ ⟨rfl,rfl⟩;refine zH ?_;rintro _ _ ⟨p81,c71,p91,c81,p101,c91,rfl,rfl,h101,h111,h121⟩;refine yX [(34,vA (cProg p p1 c p2 c1)),(35,vS p3 m0 c2),(39,vA (cExpr x1 p81 c71 p91 c81 p101 c91)),(40,vS p7 point c6)] ?_;have H:=iS I1;have h2:=h2.mono le1;have h6:=h6.mono le1;have h:=h.mono le1;have h1:=h1.mono le1;refine xX (ih_impl_Program_value p m0 x1 point _ hy5 h h1 h2 h101 h111 h121 h6) ?_;rintro I03 hs2 v2 k2 le3 - ⟨v06,rfl,rfl,rfl⟩ -;have H:=H.trans le3;exact xJ H
   · intro I1 hf le1;refine yX [(45,vS p6 e0.Kids c5)] ?_;have h5:=h5.mono le1;refine wD rfl rfl h5 hy6 ?_;intro ad2 ccs2 hat2 hrep2;obtain ⟨p11,c10,p12,c11,p13,c12,rfl,h14,h15,h16⟩:=uL hrep2;exact yY [] iR ⟨_,_,_,_,_,_,_,rfl,rfl,hat2,h14,h15,h16⟩
   · intro I1 hf le1;refine zH ?_;rintro _ _ ⟨ad2,p11,c10,p12,c11,p13,c12,rfl,rfl,hat2,h14,h15,h16⟩;exact yX [(46,.pointer (some ad2))]<|xT 0 hat2 (cExpr x2 p11 c10 p12 c11 p13 c12) (vA (cExpr x2 p11 c10 p12 c11 p13 c12)) rfl<|yY [] iR ⟨_,_,_,_,_,_,rfl,rfl,h14,h15,h16⟩
   intro I1 hf le1;refine zH ?_;rintro _ _ ⟨rfl,rfl⟩;refine zH ?_;rintro _ _ ⟨rfl,rfl⟩;refine zH ?_;rintro _ _ ⟨p111,c101,p121,c111,p131,c121,rfl,rfl,h141,h151,h161⟩;refine yX [(42,vA (cProg p p1 c p2 c1)),(43,vS p3 m0 c2),(47,vA (cExpr x2 p111 c101 p121 c111 p131 c121)),(48,vS p7 point c6)] ?_;have H:=iS I1;have h2:=h2.mono le1;have h6:=h6.mono le1;have h:=h.mono le1;have h1:=h1.mono le1;refine xX (ih_impl_Program_value p m0 x2 point _ hy7 h h1 h2 h141 h151 h161 h6) ?_;rintro I04 hs2 v2 k2 le4 - ⟨v010,rfl,rfl,rfl⟩ -;have H:=H.trans le4;exact xJ H
 intro I05 le5;refine yX [(6,vP b1 0),(9,vI y3),(49,vI y4)] ?_;refine yF [] [(10,vI y4)]<|yL<|yM<|yF [0] [(51,vI e0.Kind)]<|zE<|zX<|yI [(52,.bool (e0.Kind == 4))]<|zE<|yO N ?_ ?_
 · intro hc3 N;refine yM<|yG 3 [] [(56,vI (W (y3 + y4)))]<|bE N fun y5 hy8 N=>kD (impl_modulo_ok (W (y3 + y4)) _ hy8 ) fun I06 le6=>yF [] [(8,vI y5)]<|zE<|yC<|yA<|zK ?_;obtain rfl:=zB N;exact vQ
 intro hc3 N;refine yI [(58,.bool (e0.Kind == 5))]<|zE<|yO N ?_ ?_
 · intro hc4 N;refine yM<|yG 3 [] [(62,vI (W (y3 - y4)))]<|bE N fun y6 hy9 N=>kD (impl_modulo_ok (W (y3 - y4)) _ hy9 ) fun I07 le7=>yF [] [(8,vI y6)]<|zE<|yC<|yA<|zK ?_;obtain rfl:=zB N;exact vQ
 intro hc4 N;refine zZ<|zU<|xP<|yG 3 [] [(66,vI (W (y3 * y4)))]<|bE N fun y7 hy10 N=>kD (impl_modulo_ok (W (y3 * y4)) _ hy10 ) fun I08 le8=>yF [] [(8,vI y7)]<|zE<|yC ?_;obtain rfl:=zB N;exact vQ
def M.impl_InstanceValue (p:zS) (m0:(List Int)) (x:zM):Option (Int×Bool):=do
 let t17←(do
   let y←M.impl_MemoryValid p m0
   if (!y) then
    pure true
   else
    let y1←tX p x
    pure (!y1)
     : Option Bool)
 if t17 then
  pure (0,false)
 else
  let y2←oZ p x
  let y3←M.impl_Program_value p m0 y2.Value x.Point
  pure (y3,true)
theorem impl_InstanceValue_ok:∀ p m0 x r,M.impl_InstanceValue p m0 x=some r→∀ {I:Imm}{p1 c p2 c1 p3 c2 p4 c3},(S4 I p1 p.Arrays c)→(S4 I p2 p.Parts c1)→(S4 I p3 m0 c2)→(S4 I p4 x.Point c3)→Ret Tryz.prog 10 [vA (cProg p p1 c p2 c1),vS p3 m0 c2,vA (cInst x p4 c3)] I [] (nB  r):=by
 intro p m0 x r N I p1 c p2 c1 p3 c2 p4 c3 h h1 h2 h3;unfold M.impl_InstanceValue at N;refine yB (fn:=Tryz.f10) (c:=(bodyOf Tryz.f10)) Tryz.func10 rfl rfl ?_;rintro B - -;have H:=iS I;refine yM<|tD (cProg p p1 c p2 c1) ?_;intro b hb;refine tD (cInst x p4 c3) ?_;intro b1 hb1;refine yF [] []<|yL<|yK ?_;obtain ⟨o0,ho0,hMc⟩:=zC N;refine yU (fun I' hs' m'=>∃ (t17:Bool),o0=t17∧I.le I'∧hs'=[hB b1 (cInst x p4 c3),hB b (cProg p p1 c p2 c1)]∧m'=[(1,vS p3 m0 c2),(3,vP b 0),(5,vP b1 0),(17,.bool t17)]) ?_ ?_
 · have H:=iS I;refine zR<|yG 2 [1] [(8,vA (cProg p p1 c p2 c1)),(9,vS p3 m0 c2)] ?_;obtain ⟨y,hy,N⟩:=zC ho0;refine vL (impl_MemoryValid_ok p m0 _ hy h h1 h2) ?_;intro I01 le;have h3:=h3.mono le;have h:=h.mono le;have h1:=h1.mono le;have H:=H.trans le;refine yG 5 [] [(12,.bool (!y))] ?_;cases hc:(!y) with
   | true =>
    have hM0:=zQ hc N
    try rw [hc]
    exact yF [] [(17,vY)]<|yV [(1,vS p3 m0 c2),(3,vP b 0),(5,vP b1 0),(17,vY)]<|zV ⟨_,(zB hM0).symm,H,rfl,rfl⟩
   | false =>
    have hM01:=zN hc N
    try rw [hc]
    refine yG 7 [1,0] [(13,vA (cProg p p1 c p2 c1)),(14,vA (cInst x p4 c3))] ?_;obtain ⟨y1,hy1,N⟩:=zC hM01;refine vL (gK p x _ hy1 h h1 h3) ?_;intro I02 le1;have H:=H.trans le1;exact yF [] [(17,.bool (!y1))]<|yV [(1,vS p3 m0 c2),(3,vP b 0),(5,vP b1 0),(17,.bool (!y1))]<|zV ⟨_,(zB N).symm,H,rfl,rfl⟩
 rintro I0 hs2 m2 ⟨t17,heq,le2,rfl,rfl⟩;subst o0;have h2:=h2.mono le2;have h3:=h3.mono le2;have h:=h.mono le2;have h1:=h1.mono le2;have H:=H.trans le2;refine zE<|yO hMc ?_ ?_
 · intro hc1 N;refine yI [(6,vI 0),(7,vF)]<|zE<|yC<|zK ?_;obtain rfl:=zB N;exact xM ⟨_,_,(.tmp rfl (.tmp rfl ResV.nil)),zT,⟨_,_,rfl,rfl,rfl,rfl⟩⟩
 intro hc1 N;refine zZ<|zE<|yK ?_;obtain ⟨y2,hy2,N⟩:=zC N;obtain ⟨y3,hy3,N⟩:=zC N;refine vK [.p (vA (cProg p p1 c p2 c1)) [1],.p (vS p3 m0 c2) [],.p (vA (cProg p p1 c p2 c1)) [1],.p (vA (cInst x p4 c3)) [0],.x (fun I' v hx=>∃ p5 c4 p6 c5 p7 c6 p8 c7,v=vA (cStmt y2 p5 c4 p6 c5 p7 c6 p8 c7)∧hx=[]∧(S4 I' p5 y2.Write.Subs c4)∧(S4 I' p6 y2.Value.Index.Coefs c5)∧(S4 I' p7 y2.Value.Read.Subs c6)∧(S4 I' p8 y2.Value.Kids c7)),.x (fun I' v hx=>∃ p61 c51 p71 c61 p81 c71,v=vA (cExpr y2.Value p61 c51 p71 c61 p81 c71)∧hx=[]∧(S4 I' p61 y2.Value.Index.Coefs c51)∧(S4 I' p71 y2.Value.Read.Subs c61)∧(S4 I' p81 y2.Value.Kids c71)),.p (vP b1 2) [],.p (vS p4 x.Point c3) [0],.q (vI y3)] [[],[],[],[],[(2,false),(3,false)],[(4,false)],[],[(6,false)],[(0,false),(1,false),(5,false),(7,false)]] [hB b1 (cInst x p4 c3),hB b (cProg p p1 c p2 c1)] [] [(8,false)] (yH [0,1]) ?_ ?_
 · refine Op<|Op<|Op<|Op<|Ox ?_<|Ox ?_<|Op<|Op<|Oq ?_<|On
   · intro I1 hf le1;refine yX [(20,vA (cProg p p1 c p2 c1)),(21,vA (cInst x p4 c3))] ?_;have H:=iS I1;have h3:=h3.mono le1;have h:=h.mono le1;have h1:=h1.mono le1;refine xX (zAP p x _ hy2 h h1 h3) ?_;rintro I03 hs2 v2 k2 le3 - ⟨v02,rfl,rfl,⟨cs,rfl,h6⟩⟩ -;have H:=H.trans le3;obtain ⟨p5,c4,p6,c5,p7,c6,p8,c7,rfl,h7,h8,h9,h10⟩:=qK h6;exact yY [] H ⟨_,_,_,_,_,_,_,_,rfl,rfl,h7,h8,h9,h10⟩
   · intro I1 hf le1;refine zH ?_;rintro _ _ ⟨p5,c4,p6,c5,p7,c6,p8,c7,rfl,rfl,h7,h8,h9,h10⟩;exact yX [(22,vA (cStmt y2 p5 c4 p6 c5 p7 c6 p8 c7))]<|qO 6 [(23,vA (cExpr y2.Value p6 c5 p7 c6 p8 c7))]<|yY [] iR ⟨_,_,_,_,_,_,rfl,rfl,h8,h9,h10⟩
   intro I1 hf le1;refine zH ?_;rintro _ _ ⟨rfl,rfl⟩;refine zH ?_;rintro _ _ ⟨rfl,rfl⟩;refine zH ?_;rintro _ _ ⟨p61,c51,p71,c61,p81,c71,rfl,rfl,h81,h91,h101⟩;refine yX [(18,vA (cProg p p1 c p2 c1)),(19,vS p3 m0 c2),(23,vA (cExpr y2.Value p61 c51 p71 c61 p81 c71)),(25,vS p4 x.Point c3)] ?_;have H:=iS I1;have h2:=h2.mono le1;have h3:=h3.mono le1;have h:=h.mono le1;have h1:=h1.mono le1;refine kD (impl_Program_value_ok p m0 y2.Value x.Point _ hy3 h h1 h2 h81 h91 h101 h3) ?_;intro I04 le4;have H:=H.trans le4;exact xJ H
 intro I05 le5;refine yX [(26,vI y3)] ?_;refine yF [] [(6,vI y3),(7,vY)]<|zE<|yC ?_;obtain rfl:=zB N;exact xM ⟨_,_,(.tmp rfl (.tmp rfl ResV.nil)),zT,⟨_,_,rfl,rfl,rfl,rfl⟩⟩
def M.spec_MemoryValid_l1 (m0:(List Int)) (i:Int):Option (Out Unit (Bool)):=do
 if (decide (i < (m0.length:Int))) then
  let t23←(do
    let x←idx m0 i
    if (decide (x < 0)) then
     pure true
    else
     let x1←idx m0 i
     pure (decide (x1 > 999))
      : Option Bool)
  if t23 then
   pure (.ret false)
  else
   M.spec_MemoryValid_l1 m0 (W (i + 1))
 else
  pure (.done ())
 partial_fixpoint
theorem spec_MemoryValid_l1_ok (m0:(List Int)):∀ (i:Int) (o:Out Unit (Bool)),M.spec_MemoryValid_l1 m0 i=some o→∀ {B}{I0 I:Imm}{Q}{p:zS}{p1 c p2 c1 p3 c2}{b:Nat},I0.le I→(S4 I p3 m0 c2)→(S4 I p1 p.Arrays c)→(S4 I p2 p.Parts c1)→NG Q→NO Q→(∀ (I':Imm) ,o=(.done ())→I0.le I'→T 33 B Q (.exit 0) I' [hB b (cProg p p1 c p2 c1)] [(1,vS p3 m0 c2),(2,vP b 0)])→(∀ r I' hs' m',o=(.ret r)→I0.le I'→RS Tryz.prog Tryz.f44 B (zW  r) I' hs' m'→T 33 B Q .ret I' hs' m')→J Tryz.prog 33 B (nav (bodyOf Tryz.f44) [1,0,1,0]) Q I [hB b (cProg p p1 c p2 c1)] [(1,vS p3 m0 c2),(2,vP b 0),(5,vI i)]:=by
 refine M.spec_MemoryValid_l1.partial_correctness m0 _ fun self ih i o N B I0 I Q p p1 c p2 c1 p3 c2 b H h2 h h1 hg ho hx hr=>xD hg ho<|yK<|yI [(9,.bool (decide (i < (m0.length:Int))))]<|zE<|yO N ?_ ?_
 · intro hc N;refine zZ<|yL<|zX<|yK ?_;obtain ⟨o0,ho0,hMc⟩:=zC N;refine yU (fun I' hs' m'=>∃ (t23:Bool),o0=t23∧I.le I'∧hs'=[hB b (cProg p p1 c p2 c1)]∧m'=[(1,vS p3 m0 c2),(2,vP b 0),(5,vI i),(23,.bool t23)]) ?_ ?_
   · have H:=iS I;refine zR<|yG 2 [] [(12,vS p3 m0 c2),(13,vI i)] ?_;obtain ⟨x,hy,N⟩:=zC ho0;refine wD rfl rfl h2 hy ?_;intro ad ccs hat hrep;obtain rfl:=hrep;refine xT 0 hat [vI x] (vI x) rfl<|yG 6 [] [(17,.bool (decide (x < 0)))] ?_;cases hc1:(decide (x < 0)) with
     | true =>
      have hM0:=zQ hc1 N
      try rw [hc1]
      exact yF [] [(23,vY)]<|yV [(1,vS p3 m0 c2),(2,vP b 0),(5,vI i),(23,vY)]<|zV ⟨_,(zB hM0).symm,H,rfl,rfl⟩
     | false =>
      have hM01:=zN hc1 N
      try rw [hc1]
      refine yG 8 [] [(18,vS p3 m0 c2),(19,vI i)] ?_;obtain ⟨x1,hy1,N⟩:=zC hM01;refine wD rfl rfl h2 hy1 ?_;intro ad1 ccs1 hat1 hrep1;obtain rfl:=hrep1;exact xT 0 hat1 [vI x1] (vI x1) rfl<|yF [] [(23,.bool (decide (x1 > 999)))]<|yV [(1,vS p3 m0 c2),(2,vP b 0),(5,vI i),(23,.bool (decide (x1 > 999)))]<|zV ⟨_,(zB N).symm,H,rfl,rfl⟩
   rintro I0 hs2 m2 ⟨t23,heq,le,rfl,rfl⟩;subst o0;have h2:=h2.mono le;have h:=h.mono le;have h1:=h1.mono le;have H:=H.trans le;refine zE<|yO hMc ?_ ?_
   · intro hc2 N;exact yI [(4,vF)]<|zE<|yC<|yA<|zK<|zK<|hr _ _ _ _ (zB N).symm H ⟨_,_,(.tmp rfl ResV.nil),zT,⟨_,rfl,rfl,rfl⟩⟩
   intro hc2 N;exact zZ<|zU<|zE<|zR<|yF [] [(5,vI (W (i + 1)))]<|xE<|vM [(1,vS p3 m0 c2),(2,vP b 0),(5,vI (W (i + 1)))]<|ih (W (i + 1)) _ N H h2 h h1 hg ho hx hr
 intro hc N;exact xC<|zO<|zO<|yV [(1,vS p3 m0 c2),(2,vP b 0)]<|hx _  (zB N).symm H
def M.spec_MemoryValid (p:zS) (m0:(List Int)):Option (Bool):=do
 match←M.spec_MemoryValid_l1 m0 0 with
 | .ret r0=>pure r0
 | .done _ =>
  let t4←(do
    let y←uV p
    if y then
     let y1←M.spec_l4Total p
     pure ((m0.length:Int) == y1)
    else
     pure false
      : Option Bool)
  pure (id t4)
theorem spec_MemoryValid_ok:∀ p m0 r,M.spec_MemoryValid p m0=some r→∀ {I:Imm}{p1 c p2 c1 p3 c2},(S4 I p1 p.Arrays c)→(S4 I p2 p.Parts c1)→(S4 I p3 m0 c2)→Ret Tryz.prog 44 [vA (cProg p p1 c p2 c1),vS p3 m0 c2] I [] (zW  r):=by
 intro p m0 r N I p1 c p2 c1 p3 c2 h h1 h2;unfold M.spec_MemoryValid at N;refine yB (fn:=Tryz.f44) (c:=(bodyOf Tryz.f44)) Tryz.func44 rfl rfl ?_;rintro B - -;have H:=iS I;refine yM<|tD (cProg p p1 c p2 c1) ?_;intro b hb;refine yF [] []<|yL<|yI [(5,vI 0)]<|zE<|zX<|vM [(1,vS p3 m0 c2),(2,vP b 0),(5,vI 0)] ?_;obtain ⟨o01,ho01,hMl⟩:=zC N;refine spec_MemoryValid_l1_ok m0 0 o01 ho01 iR h2 h h1 (fun _ _ _ h=>h) (fun _ _ h=>h) ?_ ?_
 · intro I01  heq1 le1;subst o01;have h:=h.mono le1;have h1:=h1.mono le1;have H:=H.trans le1;refine zY<|zE<|yK ?_;obtain ⟨o02,ho02,hMc1⟩:=zC hMl;refine yU (fun I' hs' m'=>∃ (t4:Bool),o02=t4∧I01.le I'∧hs'=[]∧m'=[(4,.bool t4)]) ?_ ?_
   · have H:=iS I01;refine zR<|yG 1 [0] [(24,vA (cProg p p1 c p2 c1))] ?_;obtain ⟨y,hy2,N⟩:=zC ho02;refine vL (jG p _ hy2 h h1) ?_;intro I03 le2;have h:=h.mono le2;have h1:=h1.mono le2;have H:=H.trans le2;refine yG 3 [] [(26,.bool y)] ?_;cases hc3:y with
     | true =>
      have hM02:=zQ hc3 N
      try rw [hc3]
      refine yG 6 [0] [(28,vI (m0.length:Int)),(29,vA (cProg p p1 c p2 c1))] ?_;obtain ⟨y1,hy3,N⟩:=zC hM02;refine kD (spec_l4Total_ok p _ hy3 h h1) ?_;intro I04 le3;have H:=H.trans le3;exact yF [] [(4,.bool ((m0.length:Int) == y1))]<|wB zT<|yV [(4,.bool ((m0.length:Int) == y1))]<|zV ⟨_,(zB N).symm,H,rfl,rfl⟩
     | false =>
      have hM03:=zN hc3 N
      try rw [hc3]
      exact yF [] [(4,vF)]<|wB zT<|yV [(4,vF)]<|zV ⟨_,(zB hM03).symm,H,rfl,rfl⟩
   rintro I02 hs2 m2 ⟨t4,heq2,le4,rfl,rfl⟩;subst o02;refine zE<|yC ?_;obtain rfl:=zB hMc1;exact vQ
 intro r0 I9 hs9 m9 heq9 le9 hrs9;subst heq9;refine yA<|zK ?_;obtain rfl:=zB hMl;exact xM hrs9
def M.spec_l5Wrap (n0:Int):Option (Int):=do
 if (decide ((n0.tmod 1000) < 0)) then
  pure (W ((W ((n0.tmod 1000) + 999)) + 1))
 else
  pure (n0.tmod 1000)
theorem spec_l5Wrap_ok:∀ n0 r,M.spec_l5Wrap n0=some r→∀ {I:Imm} ,Ret Tryz.prog 96 [vI n0] I [] (xK  r):=by
 intro n0 r N I;unfold M.spec_l5Wrap at N;refine yB (fn:=Tryz.f96) (c:=(bodyOf Tryz.f96)) Tryz.func96 rfl rfl ?_;rintro B - -;refine yI []<|vO [(0,vI (n0.tmod 1000))]<|yL<|yI [(6,.bool (decide ((n0.tmod 1000) < 0)))]<|zE<|yO N ?_ ?_
 · intro hc N;refine yI [(2,vI (W ((W ((n0.tmod 1000) + 999)) + 1)))]<|zE<|yC<|zK ?_;obtain rfl:=zB N;exact vQ
 intro hc N;refine zZ<|vO [(2,vI (n0.tmod 1000))]<|zE<|yC ?_;obtain rfl:=zB N;exact vQ
def M.spec_l5Eval (list:(List zG)) (m0:(List Int)) (e0:zF) (point:(List Int)):Option (Int):=do
 if (e0.Kind == 1) then
  pure e0.Num
 else
  if (e0.Kind == 2) then
   let y←sG e0.Index point
   let y1←M.spec_l5Wrap y
   pure (id y1)
  else
   if (e0.Kind == 3) then
    let y2←pH list e0.Read point
    let x←idx m0 y2
    pure (id x)
   else
    let x1←idx e0.Kids 0
    let y3←M.spec_l5Eval (same list) (same m0) (same x1) (same point)
    let x2←idx e0.Kids 1
    let y4←M.spec_l5Eval (same list) (same m0) (same x2) (same point)
    if (e0.Kind == 4) then
     let y5←M.spec_l5Wrap (W (y3 + y4))
     pure (id y5)
    else
     if (e0.Kind == 5) then
      let y6←M.spec_l5Wrap (W (y3 - y4))
      pure (id y6)
     else
      let y7←M.spec_l5Wrap (W (y3 * y4))
      pure (id y7)
 partial_fixpoint
theorem spec_l5Eval_ok:∀ list m0 e0 point r,M.spec_l5Eval list m0 e0 point=some r→∀ {I:Imm}{p c p1 c1 p2 c2 p3 c3 p4 c4 p5 c5},(S4 I p list c)→(S4 I p1 m0 c1)→(S4 I p2 e0.Index.Coefs c2)→(S4 I p3 e0.Read.Subs c3)→(S4 I p4 e0.Kids c4)→(S4 I p5 point c5)→Ret Tryz.prog 46 [vS p list c,vS p1 m0 c1,vA (cExpr e0 p2 c2 p3 c3 p4 c4),vS p5 point c5] I [] (xK  r):=by
 refine M.spec_l5Eval.partial_correctness _ fun F_spec_l5Eval ih_spec_l5Eval list m0 e0 point r N I p c p1 c1 p2 c2 p3 c3 p4 c4 p5 c5 h h1 h2 h3 h4 h5=>yB (fn:=Tryz.f46) (c:=(bodyOf Tryz.f46)) Tryz.func46 rfl rfl ?_;rintro B - -;refine yM<|tD (cExpr e0 p2 c2 p3 c3 p4 c4) ?_;intro b hb;refine yF [] []<|yL<|yM<|yF [0] [(12,vI e0.Kind)]<|zE<|zX<|yI [(13,.bool (e0.Kind == 1))]<|zE<|yO N ?_ ?_
 · intro hc N;refine yM<|yF [0] [(8,vI e0.Num)]<|zE<|yC<|yA<|zK ?_;obtain rfl:=zB N;exact vQ
 intro hc N;refine yI [(17,.bool (e0.Kind == 2))]<|zE<|yO N ?_ ?_
 · intro hc1 N;refine yM<|yG 3 [0] [(20,vA (cAff e0.Index p2 c2)),(21,vS p5 point c5)]<|bE N fun y hy N=>kD (mJ e0.Index point _ hy h2 h5) ?_;intro I0 le;obtain ⟨y1,hy1,N⟩:=zC N;refine kD (spec_l5Wrap_ok y _ hy1 ) fun I01 le1=>yF [] [(8,vI y1)]<|zE<|yC<|yA<|zK ?_;obtain rfl:=zB N;exact vQ
 intro hc1 N;refine yI [(24,.bool (e0.Kind == 3))]<|zE<|yO N ?_ ?_
 · intro hc2 N;refine yM<|yG 5 [0] [(26,vS p1 m0 c1),(27,vS p list c),(29,vA (cAccess e0.Read p3 c3)),(30,vS p5 point c5)]<|bE N fun y2 hy2 N=>kD (zAC list e0.Read point _ hy2 h h3 h5) ?_;intro I02 le2;have h1:=h1.mono le2;obtain ⟨x,hy3,N⟩:=zC N;refine wD rfl rfl h1 hy3 ?_;intro ad ccs hat hrep;obtain rfl:=hrep;refine xT 0 hat [vI x] (vI x) rfl<|yF [] [(8,vI x)]<|zE<|yC<|yA<|zK ?_;obtain rfl:=zB N;exact vQ
 intro hc2 N;refine zZ<|zU<|xP<|yG 4 [0] [(34,vS p list c),(35,vS p1 m0 c1),(37,vS p4 e0.Kids c4)]<|bE N fun x1 hy4 N=>wD rfl rfl h4 hy4 ?_;intro ad1 ccs1 hat1 hrep1;obtain ⟨p6,c6,p7,c7,p8,c8,rfl,h9,h10,h11⟩:=uL hrep1;refine xT 0 hat1 (cExpr x1 p6 c6 p7 c7 p8 c8) (vA (cExpr x1 p6 c6 p7 c7 p8 c8)) rfl<|yG 7 [] [(40,vS p5 point c5)]<|bE N fun y3 hy5 N=>xX (ih_spec_l5Eval list m0 x1 point _ hy5 h h1 h9 h10 h11 h5) ?_;rintro I03 hs2 v2 k2 le3 - ⟨v06,rfl,rfl,rfl⟩ -;have h:=h.mono le3;have h1:=h1.mono le3;have h5:=h5.mono le3;have h4:=h4.mono le3;refine yF [] [(9,vI y3)]<|xP<|yG 4 [0] [(42,vS p list c),(43,vS p1 m0 c1),(45,vS p4 e0.Kids c4)]<|bE N fun x2 hy6 N=>wD rfl rfl h4 hy6 ?_;intro ad2 ccs2 hat2 hrep2;obtain ⟨p9,c9,p10,c10,p11,c11,rfl,h13,h14,h15⟩:=uL hrep2;refine xT 0 hat2 (cExpr x2 p9 c9 p10 c10 p11 c11) (vA (cExpr x2 p9 c9 p10 c10 p11 c11)) rfl<|yG 7 [] [(48,vS p5 point c5)]<|bE N fun y4 hy7 N=>xX (ih_spec_l5Eval list m0 x2 point _ hy7 h h1 h13 h14 h15 h5) ?_;rintro I04 hs2 v2 k2 le4 - ⟨v010,rfl,rfl,rfl⟩ -;refine yF [] [(10,vI y4)]<|yL<|yM<|yF [0] [(51,vI e0.Kind)]<|zE<|zX<|yI [(52,.bool (e0.Kind == 4))]<|zE<|yO N ?_ ?_
 · intro hc3 N;refine yM<|yG 3 [] [(56,vI (W (y3 + y4)))]<|bE N fun y5 hy8 N=>kD (spec_l5Wrap_ok (W (y3 + y4)) _ hy8 ) fun I05 le5=>yF [] [(8,vI y5)]<|zE<|yC<|yA<|zK ?_;obtain rfl:=zB N;exact vQ
 intro hc3 N;refine yI [(58,.bool (e0.Kind == 5))]<|zE<|yO N ?_ ?_
 · intro hc4 N;refine yM<|yG 3 [] [(62,vI (W (y3 - y4)))]<|bE N fun y6 hy9 N=>kD (spec_l5Wrap_ok (W (y3 - y4)) _ hy9 ) fun I06 le6=>yF [] [(8,vI y6)]<|zE<|yC<|yA<|zK ?_;obtain rfl:=zB N;exact vQ
 intro hc4 N;refine zZ<|zU<|xP<|yG 3 [] [(66,vI (W (y3 * y4)))]<|bE N fun y7 hy10 N=>kD (spec_l5Wrap_ok (W (y3 * y4)) _ hy10 ) fun I07 le7=>yF [] [(8,vI y7)]<|zE<|yC ?_;obtain rfl:=zB N;exact vQ
def M.spec_InstanceValue (p:zS) (m0:(List Int)) (x:zM):Option (Int×Bool):=do
 let t17←(do
   let y←M.spec_MemoryValid p m0
   if (!y) then
    pure true
   else
    let y1←fH p x
    pure (!y1)
     : Option Bool)
 if t17 then
  pure (0,false)
 else
  let x1←idx p.Parts x.Part
  let x2←idx x1.Body x.Stmt
  let y2←M.spec_l5Eval p.Arrays m0 x2.Value x.Point
  pure (y2,true)
theorem spec_InstanceValue_ok:∀ p m0 x r,M.spec_InstanceValue p m0 x=some r→∀ {I:Imm}{p1 c p2 c1 p3 c2 p4 c3},(S4 I p1 p.Arrays c)→(S4 I p2 p.Parts c1)→(S4 I p3 m0 c2)→(S4 I p4 x.Point c3)→Ret Tryz.prog 11 [vA (cProg p p1 c p2 c1),vS p3 m0 c2,vA (cInst x p4 c3)] I [] (nB  r):=by
 intro p m0 x r N I p1 c p2 c1 p3 c2 p4 c3 h h1 h2 h3;unfold M.spec_InstanceValue at N;refine yB (fn:=Tryz.f11) (c:=(bodyOf Tryz.f11)) Tryz.func11 rfl rfl ?_;rintro B - -;have H:=iS I;refine yM<|tD (cProg p p1 c p2 c1) ?_;intro b hb;refine tD (cInst x p4 c3) ?_;intro b1 hb1;refine yF [] []<|yL<|yK ?_;obtain ⟨o0,ho0,hMc⟩:=zC N;refine yU (fun I' hs' m'=>∃ (t17:Bool),o0=t17∧I.le I'∧hs'=[hB b1 (cInst x p4 c3),hB b (cProg p p1 c p2 c1)]∧m'=[(1,vS p3 m0 c2),(3,vP b 0),(5,vP b1 0),(17,.bool t17)]) ?_ ?_
 · have H:=iS I;refine zR<|yG 2 [1] [(8,vA (cProg p p1 c p2 c1)),(9,vS p3 m0 c2)] ?_;obtain ⟨y,hy,N⟩:=zC ho0;refine vL (spec_MemoryValid_ok p m0 _ hy h h1 h2) ?_;intro I01 le;have h3:=h3.mono le;have h:=h.mono le;have h1:=h1.mono le;have H:=H.trans le;refine yG 5 [] [(12,.bool (!y))] ?_;cases hc:(!y) with
   | true =>
    have hM0:=zQ hc N
    try rw [hc]
    exact yF [] [(17,vY)]<|yV [(1,vS p3 m0 c2),(3,vP b 0),(5,vP b1 0),(17,vY)]<|zV ⟨_,(zB hM0).symm,H,rfl,rfl⟩
   | false =>
    have hM01:=zN hc N
    try rw [hc]
    refine yG 7 [1,0] [(13,vA (cProg p p1 c p2 c1)),(14,vA (cInst x p4 c3))] ?_;obtain ⟨y1,hy1,N⟩:=zC hM01;refine vL (zIL p x _ hy1 h h1 h3) ?_;intro I02 le1;have H:=H.trans le1;exact yF [] [(17,.bool (!y1))]<|yV [(1,vS p3 m0 c2),(3,vP b 0),(5,vP b1 0),(17,.bool (!y1))]<|zV ⟨_,(zB N).symm,H,rfl,rfl⟩
 rintro I0 hs2 m2 ⟨t17,heq,le2,rfl,rfl⟩;subst o0;have h2:=h2.mono le2;have h3:=h3.mono le2;have h:=h.mono le2;have h1:=h1.mono le2;have H:=H.trans le2;refine zE<|yO hMc ?_ ?_
 · intro hc1 N;refine yI [(6,vI 0),(7,vF)]<|zE<|yC<|zK ?_;obtain rfl:=zB N;exact xM ⟨_,_,(.tmp rfl (.tmp rfl ResV.nil)),zT,⟨_,_,rfl,rfl,rfl,rfl⟩⟩
 intro hc1 N;refine zZ<|zE<|yK ?_;obtain ⟨x1,hy2,N⟩:=zC N;obtain ⟨x2,hy3,N⟩:=zC N;obtain ⟨y2,hy4,N⟩:=zC N;refine vK [.p (vP b 0) [],.p (vS p1 p.Arrays c) [1],.p (vS p3 m0 c2) [],.p (vP b 1) [],.p (vS p2 p.Parts c1) [1],.p (vP b1 0) [],.p (vI x.Part) [0],.x (fun I' v hx=>∃ ad p5 c4 p6 c5,v=.pointer (some ad)∧hx=[]∧(At I' ad (cPart x1 p5 c4 p6 c5))∧(S4 I' p5 x1.Nest c4)∧(S4 I' p6 x1.Body c5)),.x (fun I' v hx=>∃ ad1 p51 c41 p61 c51,v=.pointer (some (ad1.add 1))∧hx=[]∧(At I' ad1 (cPart x1 p51 c41 p61 c51))∧(S4 I' p51 x1.Nest c41)∧(S4 I' p61 x1.Body c51)),.x (fun I' v hx=>∃ p611 c511,v=vS p611 x1.Body c511∧hx=[]∧(S4 I' p611 x1.Body c511)),.p (vP b1 1) [],.p (vI x.Stmt) [0],.x (fun I' v hx=>∃ ad2 p7 c6 p8 c7 p9 c8 p10 c9,v=.pointer (some ad2)∧hx=[]∧(At I' ad2 (cStmt x2 p7 c6 p8 c7 p9 c8 p10 c9))∧(S4 I' p7 x2.Write.Subs c6)∧(S4 I' p8 x2.Value.Index.Coefs c7)∧(S4 I' p9 x2.Value.Read.Subs c8)∧(S4 I' p10 x2.Value.Kids c9)),.x (fun I' v hx=>∃ ad21 p71 c61 p81 c71 p91 c81 p101 c91,v=.pointer (some (ad21.add 2))∧hx=[]∧(At I' ad21 (cStmt x2 p71 c61 p81 c71 p91 c81 p101 c91))∧(S4 I' p71 x2.Write.Subs c61)∧(S4 I' p81 x2.Value.Index.Coefs c71)∧(S4 I' p91 x2.Value.Read.Subs c81)∧(S4 I' p101 x2.Value.Kids c91)),.x (fun I' v hx=>∃ p811 c711 p911 c811 p1011 c911,v=vA (cExpr x2.Value p811 c711 p911 c811 p1011 c911)∧hx=[]∧(S4 I' p811 x2.Value.Index.Coefs c711)∧(S4 I' p911 x2.Value.Read.Subs c811)∧(S4 I' p1011 x2.Value.Kids c911)),.p (vP b1 2) [],.p (vS p4 x.Point c3) [0],.q (vI y2)] [[],[(0,false)],[],[],[(3,false)],[],[(5,false)],[(4,false),(6,false)],[(7,false)],[(8,false)],[],[(10,false)],[(9,false),(11,false)],[(12,false)],[(13,false)],[],[(15,false)],[(1,false),(2,false),(14,false),(16,false)]] [hB b1 (cInst x p4 c3),hB b (cProg p p1 c p2 c1)] [] [(17,false)] (yH [0,1]) ?_ ?_
 · refine Op<|Op<|Op<|Op<|Op<|Op<|Op<|Ox ?_<|Ox ?_<|Ox ?_<|Op<|Op<|Ox ?_<|Ox ?_<|Ox ?_<|Op<|Op<|Oq ?_<|On
   · intro I1 hf le1;refine yX [(22,vS p2 p.Parts c1),(24,vI x.Part)] ?_;have h1:=h1.mono le1;refine wD rfl rfl h1 hy2 ?_;intro ad ccs hat hrep;obtain ⟨p5,c4,p6,c5,rfl,h6,h7⟩:=wT hrep;exact yY [] iR ⟨_,_,_,_,_,rfl,rfl,hat,h6,h7⟩
   · intro I1 hf le1;refine zH ?_;rintro _ _ ⟨ad,p5,c4,p6,c5,rfl,rfl,hat,h6,h7⟩;exact yX [(25,.pointer (some ad))]<|qO 9 [(26,.pointer (some (ad.add 1)))]<|yY [] iR ⟨_,_,_,_,_,rfl,rfl,hat,h6,h7⟩
   · intro I1 hf le1;refine zH ?_;rintro _ _ ⟨ad1,p51,c41,p61,c51,rfl,rfl,hat1,h61,h71⟩;exact yX [(26,.pointer (some (ad1.add 1)))]<|xT 1 hat1 [vS p61 x1.Body c51] (vS p61 x1.Body c51) rfl<|yY [] iR ⟨_,_,rfl,rfl,h71⟩
   · intro I1 hf le1;refine zH ?_;rintro _ _ ⟨p611,c511,rfl,rfl,h711⟩;refine yX [(27,vS p611 x1.Body c511),(29,vI x.Stmt)]<|wD rfl rfl h711 hy3 ?_;intro ad2 ccs1 hat2 hrep1;obtain ⟨p7,c6,p8,c7,p9,c8,p10,c9,rfl,h8,h9,h10,h11⟩:=qK hrep1;exact yY [] iR ⟨_,_,_,_,_,_,_,_,_,rfl,rfl,hat2,h8,h9,h10,h11⟩
   · intro I1 hf le1;refine zH ?_;rintro _ _ ⟨ad2,p7,c6,p8,c7,p9,c8,p10,c9,rfl,rfl,hat2,h8,h9,h10,h11⟩;exact yX [(30,.pointer (some ad2))]<|qO 14 [(31,.pointer (some (ad2.add 2)))]<|yY [] iR ⟨_,_,_,_,_,_,_,_,_,rfl,rfl,hat2,h8,h9,h10,h11⟩
   · intro I1 hf le1;refine zH ?_;rintro _ _ ⟨ad21,p71,c61,p81,c71,p91,c81,p101,c91,rfl,rfl,hat21,h81,h91,h101,h111⟩;exact yX [(31,.pointer (some (ad21.add 2)))]<|xT 2 hat21 (cExpr x2.Value p81 c71 p91 c81 p101 c91) (vA (cExpr x2.Value p81 c71 p91 c81 p101 c91)) rfl<|yY [] iR ⟨_,_,_,_,_,_,rfl,rfl,h91,h101,h111⟩
   intro I1 hf le1;refine zH ?_;rintro _ _ ⟨rfl,rfl⟩;refine zH ?_;rintro _ _ ⟨rfl,rfl⟩;refine zH ?_;rintro _ _ ⟨p811,c711,p911,c811,p1011,c911,rfl,rfl,h911,h1011,h1111⟩;refine yX [(19,vS p1 p.Arrays c),(20,vS p3 m0 c2),(32,vA (cExpr x2.Value p811 c711 p911 c811 p1011 c911)),(34,vS p4 x.Point c3)] ?_;have H:=iS I1;have h2:=h2.mono le1;have h3:=h3.mono le1;have h:=h.mono le1;refine kD (spec_l5Eval_ok p.Arrays m0 x2.Value x.Point _ hy4 h h2 h911 h1011 h1111 h3) ?_;intro I03 le3;have H:=H.trans le3;exact xJ H
 intro I04 le4;refine yX [(35,vI y2)] ?_;refine yF [] [(6,vI y2),(7,vY)]<|zE<|yC ?_;obtain rfl:=zB N;exact xM ⟨_,_,(.tmp rfl (.tmp rfl ResV.nil)),zT,⟨_,_,rfl,rfl,rfl,rfl⟩⟩
def M.laws_FnInstanceReads_l1 (more:(List UInt8)) (other1:List Int) (i:Int):Option (List Int):=do
 if (decide (i < (other1.length:Int))) then
  let x←idx other1 i
  let x1←idx other1 i
  let l←pure (other1.set i.toNat ((W ((W (x + 1)) + ((more.length:Int).tmod 7))).tmod 1000))
  M.laws_FnInstanceReads_l1 more l (W (i + 1))
 else
  pure (id other1)
 partial_fixpoint
theorem laws_FnInstanceReads_l1_ok (more:(List UInt8)):∀ (other1:List Int) (i:Int) (o:List Int),M.laws_FnInstanceReads_l1 more other1 i=some o→∀ {B}{I0 I:Imm}{Q}{y1:zS}{y2:(List Int)}{y3:zM}{y5:Int}{y11:(List Int)}{y13:Bool}{p1 c1 p2 c2 p3 c3 p4 c4 p5 c5}{b:Nat}{b1:Nat}{p6 c6 p8 c8 cs3},I0.le I→(S4 I p1 more c1)→(S4 I p4 y2 c4)→(S4 I p6 y11 c6)→(S4 I p5 y3.Point c5)→(S4 I p2 y1.Arrays c2)→(S4 I p3 y1.Parts c3)→(RL I cs3 other1)→NG Q→NO Q→(∀ (I':Imm) (other2:List Int) (p9:Option Addr) (c9:Nat) (cs4:List Value),o=other2→I0.le I'→(RL I' cs4 other2)→T 132 B Q (.exit 0) I' [hO Int (vS p9 other2 c9) cs4,hB b1 (cInst y3 p5 c5),hB b (cProg y1 p2 c2 p3 c3)] [(5,vP b 0),(6,vS p4 y2 c4),(7,vP b1 0),(8,vI y5),(12,vS p6 y11 c6),(14,.bool y13),(15,vS p9 other2 c9)])→J Tryz.prog 132 B (nav (bodyOf Tryz.f3) [1,1,1,1,1,1,1,1,0,1,0]) Q I [hO Int (vS p8 other1 c8) cs3,hB b1 (cInst y3 p5 c5),hB b (cProg y1 p2 c2 p3 c3)] [(1,vS p1 more c1),(5,vP b 0),(6,vS p4 y2 c4),(7,vP b1 0),(8,vI y5),(12,vS p6 y11 c6),(14,.bool y13),(15,vS p8 other1 c8),(16,vI i)]:=by
 refine M.laws_FnInstanceReads_l1.partial_correctness more _ fun self ih other1 i o N B I0 I Q y1 y2 y3 y5 y11 y13 p1 c1 p2 c2 p3 c3 p4 c4 p5 c5 b b1 p6 c6 p8 c8 cs3 H h1 h3 h12 h7 h5 h6 h17 hg ho hx=>xD hg ho<|yK<|yI [(81,.bool (decide (i < (other1.length:Int))))]<|zE<|yO N ?_ ?_
 · intro hc6 N;refine zZ<|yL<|zX<|zR<|yG 4 [] [(84,vS p8 other1 c8),(85,vI i),(86,vS p8 other1 c8),(87,vI i)]<|bE N fun x hy5 N=>mH 0 rfl rfl rfl h17 hy5 ?_;intro ad ccs1 hat hcc hrep;obtain rfl:=hrep;refine zCe 0 0 hat hcc [vI x] (vI x) rfl rfl<|yG 12 [] [(95,vI ((W ((W (x + 1)) + ((more.length:Int).tmod 7))).tmod 1000))]<|bE N fun x1 hy6 N=>mH 0 rfl rfl rfl h17 hy6 ?_;intro ad1 ccs2 hat1 hcc1 hrep1;obtain rfl:=hrep1;obtain ⟨l,hy7,N⟩:=zC N;refine pR (c:=[vI ((W ((W (x + 1)) + ((more.length:Int).tmod 7))).tmod 1000)]) (x':=((W ((W (x + 1)) + ((more.length:Int).tmod 7))).tmod 1000)) 0 0 rfl rfl rfl hat1 rfl rfl hcc1 (by kernel_rfl) (by kernel_rfl) (by kernel_rfl) h17 hy6 (by kernel_rfl) rfl ?_;rw [show other1.set i.toNat ((W ((W (x + 1)) + ((more.length:Int).tmod 7))).tmod 1000)=l from zB hy7];intro cs5 h19 hl0;exact kH (m':=[(1,vS p1 more c1),(5,vP b 0),(6,vS p4 y2 c4),(7,vP b1 0),(8,vI y5),(12,vS p6 y11 c6),(14,.bool y13),(15,vS p8 other1 c8),(16,vI i),(84,vS p8 other1 c8),(85,vI i),(95,vI ((W ((W (x + 1)) + ((more.length:Int).tmod 7))).tmod 1000))]) ⟨rfl,rfl,rfl,rfl,rfl,rfl,rfl,rfl,rfl,rfl,rfl,rfl,trivial⟩<|zCF (hs':=[hO Int (vS p8 l c8) cs5,hB b1 (cInst y3 p5 c5),hB b (cProg y1 p2 c2 p3 c3)]) (m':=[(1,vS p1 more c1),(5,vP b 0),(6,vS p4 y2 c4),(7,vP b1 0),(8,vI y5),(12,vS p6 y11 c6),(14,.bool y13),(15,vS p8 l c8),(16,vI i),(84,vS p8 l c8),(85,vI i),(95,vI ((W ((W (x + 1)) + ((more.length:Int).tmod 7))).tmod 1000))]) (by first | rfl | simp only [vS,hl0,List.nil_append,List.cons_append,List.set_cons_zero,List.set_cons_succ,List.eraseIdx_cons_zero,List.eraseIdx_cons_succ]) (by first | rfl | simp only [vS,hl0])<|yN rfl<|zU<|zE<|zR<|yF [] [(16,vI (W (i + 1)))]<|xE<|vM [(1,vS p1 more c1),(5,vP b 0),(6,vS p4 y2 c4),(7,vP b1 0),(8,vI y5),(12,vS p6 y11 c6),(14,.bool y13),(15,vS p8 l c8),(16,vI (W (i + 1)))]<|ih l (W (i + 1)) _ N H h1 h3 h12 h7 h5 h6 h19 hg ho hx
 intro hc6 N;exact xC<|zO<|zO<|yV [(5,vP b 0),(6,vS p4 y2 c4),(7,vP b1 0),(8,vI y5),(12,vS p6 y11 c6),(14,.bool y13),(15,vS p8 other1 c8)]<|hx _ _ _ _ _ (zB N).symm H h17
def M.laws_FnInstanceReads_l2 (y2:(List Int)) (y11:(List Int)) (other3:List Int) (i1:Int):Option (List Int):=do
 if (decide (i1 < (y11.length:Int))) then
  let x2←idx y11 i1
  let x3←idx y11 i1
  let x4←idx y2 x3
  let x5←idx other3 x2
  let l1←pure (other3.set x2.toNat x4)
  M.laws_FnInstanceReads_l2 y2 y11 l1 (W (i1 + 1))
 else
  pure (id other3)
 partial_fixpoint
theorem laws_FnInstanceReads_l2_ok (y2:(List Int)) (y11:(List Int)):∀ (other3:List Int) (i1:Int) (o:List Int),M.laws_FnInstanceReads_l2 y2 y11 other3 i1=some o→∀ {B}{I0 I:Imm}{Q}{y1:zS}{y3:zM}{y5:Int}{y13:Bool}{p2 c2 p3 c3 p4 c4 p5 c5}{b:Nat}{b1:Nat}{p6 c6 p10 c10 cs6},I0.le I→(S4 I p4 y2 c4)→(S4 I p6 y11 c6)→(S4 I p5 y3.Point c5)→(S4 I p2 y1.Arrays c2)→(S4 I p3 y1.Parts c3)→(RL I cs6 other3)→NG Q→NO Q→(∀ (I':Imm) (other4:List Int) (p11:Option Addr) (c11:Nat) (cs7:List Value),o=other4→I0.le I'→(RL I' cs7 other4)→T 132 B Q (.exit 2) I' [hO Int (vS p11 other4 c11) cs7,hB b1 (cInst y3 p5 c5),hB b (cProg y1 p2 c2 p3 c3)] [(5,vP b 0),(7,vP b1 0),(8,vI y5),(14,.bool y13),(15,vS p11 other4 c11)])→J Tryz.prog 132 B (nav (bodyOf Tryz.f3) [1,1,1,1,1,1,1,1,1,0,1,0]) Q I [hO Int (vS p10 other3 c10) cs6,hB b1 (cInst y3 p5 c5),hB b (cProg y1 p2 c2 p3 c3)] [(5,vP b 0),(6,vS p4 y2 c4),(7,vP b1 0),(8,vI y5),(12,vS p6 y11 c6),(14,.bool y13),(15,vS p10 other3 c10),(17,vI i1)]:=by
 refine M.laws_FnInstanceReads_l2.partial_correctness y2 y11 _ fun self ih other3 i1 o N B I0 I Q y1 y3 y5 y13 p2 c2 p3 c3 p4 c4 p5 c5 b b1 p6 c6 p10 c10 cs6 H h3 h12 h7 h5 h6 h20 hg ho hx=>xD hg ho<|yK<|yI [(100,.bool (decide (i1 < (y11.length:Int))))]<|zE<|yO N ?_ ?_
 · intro hc7 N;refine zZ<|yL<|zX ?_;obtain ⟨x2,hy8,N⟩:=zC N;obtain ⟨x3,hy9,N⟩:=zC N;obtain ⟨x4,hy10,N⟩:=zC N;refine vK [.p (vS p10 other3 c10) [],.p (vS p6 y11 c6) [],.p (vI i1) [],.x (fun I' v hx=>∃ ad2,v=.pointer (some ad2)∧hx=[]∧(At I' ad2 [vI x2])),.q (vI x2),.p (vS p4 y2 c4) [],.p (vS p6 y11 c6) [],.p (vI i1) [],.x (fun I' v hx=>∃ ad3,v=.pointer (some ad3)∧hx=[]∧(At I' ad3 [vI x3])),.q (vI x3),.x (fun I' v hx=>∃ ad4,v=.pointer (some ad4)∧hx=[]∧(At I' ad4 [vI x4])),.q (vI x4)] [[],[],[],[(1,false),(2,false)],[(3,false)],[],[],[],[(6,false),(7,false)],[(8,false)],[(5,false),(9,false)],[(10,false)]] [hO Int (vS p10 other3 c10) cs6,hB b1 (cInst y3 p5 c5),hB b (cProg y1 p2 c2 p3 c3)] [] [(0,false),(4,false),(11,false)] (yH [0,1,2]) ?_ ?_
   · refine Op<|Op<|Op<|Ox ?_<|Oq ?_<|Op<|Op<|Op<|Ox ?_<|Oq ?_<|Ox ?_<|Oq ?_<|On
     · intro I1 hf le1;refine yX [(104,vS p6 y11 c6),(105,vI i1)] ?_;have h12:=h12.mono le1;refine wD rfl rfl h12 hy8 ?_;intro ad2 ccs3 hat2 hrep2;obtain rfl:=hrep2;exact yY [] iR ⟨_,rfl,rfl,hat2⟩
     · intro I1 hf le1;refine zH ?_;rintro _ _ ⟨ad2,rfl,rfl,hat2⟩;exact yX [(106,.pointer (some ad2))]<|xT 0 hat2 [vI x2] (vI x2) rfl<|xJ iR
     · intro I1 hf le1;refine yX [(109,vS p6 y11 c6),(110,vI i1)] ?_;have h12:=h12.mono le1;refine wD rfl rfl h12 hy9 ?_;intro ad3 ccs4 hat3 hrep3;obtain rfl:=hrep3;exact yY [] iR ⟨_,rfl,rfl,hat3⟩
     · intro I1 hf le1;refine zH ?_;rintro _ _ ⟨ad3,rfl,rfl,hat3⟩;exact yX [(111,.pointer (some ad3))]<|xT 0 hat3 [vI x3] (vI x3) rfl<|xJ iR
     · intro I1 hf le1;refine yX [(108,vS p4 y2 c4),(112,vI x3)] ?_;have h3:=h3.mono le1;refine wD rfl rfl h3 hy10 ?_;intro ad4 ccs5 hat4 hrep4;obtain rfl:=hrep4;exact yY [] iR ⟨_,rfl,rfl,hat4⟩
     intro I1 hf le1;refine zH ?_;rintro _ _ ⟨ad4,rfl,rfl,hat4⟩;exact yX [(113,.pointer (some ad4))]<|xT 0 hat4 [vI x4] (vI x4) rfl<|xJ iR
   intro I08 le8;refine yX [(5,vP b 0),(6,vS p4 y2 c4),(7,vP b1 0),(8,vI y5),(12,vS p6 y11 c6),(14,.bool y13),(15,vS p10 other3 c10),(17,vI i1),(103,vS p10 other3 c10),(107,vI x2),(114,vI x4)] ?_;have h3:=h3.mono le8;have h12:=h12.mono le8;have h20:=iM le8 h20;have h7:=h7.mono le8;have h5:=h5.mono le8;have h6:=h6.mono le8;have H:=H.trans le8;obtain ⟨x5,hy11,N⟩:=zC N;refine mH 0 rfl rfl rfl h20 hy11 ?_;intro ad5 ccs6 hat5 hcc2 hrep5;obtain rfl:=hrep5;obtain ⟨l1,hy12,N⟩:=zC N;refine pR (c:=[vI x4]) (x':=x4) 0 0 rfl rfl rfl hat5 rfl rfl hcc2 (by kernel_rfl) (by kernel_rfl) (by kernel_rfl) h20 hy11 (by kernel_rfl) rfl ?_;rw [show other3.set x2.toNat x4=l1 from zB hy12];intro cs8 h22 hl01;exact kH (m':=[(5,vP b 0),(6,vS p4 y2 c4),(7,vP b1 0),(8,vI y5),(12,vS p6 y11 c6),(14,.bool y13),(15,vS p10 other3 c10),(17,vI i1),(103,vS p10 other3 c10),(107,vI x2),(114,vI x4)]) ⟨rfl,rfl,rfl,rfl,rfl,rfl,rfl,rfl,rfl,rfl,rfl,trivial⟩<|zCF (hs':=[hO Int (vS p10 l1 c10) cs8,hB b1 (cInst y3 p5 c5),hB b (cProg y1 p2 c2 p3 c3)]) (m':=[(5,vP b 0),(6,vS p4 y2 c4),(7,vP b1 0),(8,vI y5),(12,vS p6 y11 c6),(14,.bool y13),(15,vS p10 l1 c10),(17,vI i1),(103,vS p10 l1 c10),(107,vI x2),(114,vI x4)]) (by first | rfl | simp only [vS,hl01,List.nil_append,List.cons_append,List.set_cons_zero,List.set_cons_succ,List.eraseIdx_cons_zero,List.eraseIdx_cons_succ]) (by first | rfl | simp only [vS,hl01])<|yN rfl<|zU<|zE<|zR<|yF [] [(17,vI (W (i1 + 1)))]<|xE<|vM [(5,vP b 0),(6,vS p4 y2 c4),(7,vP b1 0),(8,vI y5),(12,vS p6 y11 c6),(14,.bool y13),(15,vS p10 l1 c10),(17,vI (W (i1 + 1)))]<|ih l1 (W (i1 + 1)) _ N H h3 h12 h7 h5 h6 h22 hg ho hx
 intro hc7 N;exact xC<|zO<|zO<|yV [(5,vP b 0),(7,vP b1 0),(8,vI y5),(14,.bool y13),(15,vS p10 other3 c10)]<|hx _ _ _ _ _ (zB N).symm H h20
def M.laws_FnInstanceReads (code:(List UInt8)) (more:(List UInt8)):Option (Bool):=do
 let t27←(do
   if (decide ((code.length:Int) > 1048576)) then
    pure true
   else
    pure (decide ((more.length:Int) > 1048576))
     : Option Bool)
 if t27 then
  pure true
 else
  let (y1,y2,y3)←M.spec_DrawInstanceValue code
  let (y5,y6)←M.impl_InstanceValue y1 y2 y3
  let (y8,y9)←M.spec_InstanceValue y1 y2 y3
  let t59←(do
    if (!(y6 == y9)) then
     pure true
    else
     if (y5 != y8) then
      pure true
     else
      pure (!y6)
      : Option Bool)
  if t59 then
   let t4←(do
     if (y6 == y9) then
      pure (y5 == y8)
     else
      pure false
       : Option Bool)
   pure (id t4)
  else
   let (y11,y12,y13)←jJ y1 y3
   let other←app 8 ([]:List Int) y2
   let other2←M.laws_FnInstanceReads_l1 more other 0
   let other4←M.laws_FnInstanceReads_l2 y2 y11 other2 0
   let (y15,y16)←M.impl_InstanceValue y1 other4 y3
   let t41←(do
     if y13 then
      if y16 then
       pure (y15 == y5)
      else
       pure false
     else
      pure false
       : Option Bool)
   pure (id t41)
theorem laws_FnInstanceReads_ok:∀ code more r,M.laws_FnInstanceReads code more=some r→∀ {I:Imm}{p c p1 c1},(S4 I p code c)→(S4 I p1 more c1)→Ret Tryz.prog 3 [vS p code c,vS p1 more c1] I [] (zW  r):=by
 intro code more r N I p c p1 c1 h h1;unfold M.laws_FnInstanceReads at N;refine yB (fn:=Tryz.f3) (c:=(bodyOf Tryz.f3)) Tryz.func3 rfl rfl ?_;rintro B - -;have H:=iS I;refine yI []<|yL<|yK ?_;obtain ⟨o0,ho0,hMc⟩:=zC N;refine yU (fun I' hs' m'=>∃ (t27:Bool),o0=t27∧I.le I'∧hs'=[]∧m'=[(0,vS p code c),(1,vS p1 more c1),(27,.bool t27)]) ?_ ?_
 · have H:=iS I;refine zR<|yG 4 [] [(23,.bool (decide ((code.length:Int) > 1048576)))] ?_;cases hc:(decide ((code.length:Int) > 1048576)) with
   | true =>
    have hM0:=zQ hc ho0
    try rw [hc]
    exact yF [] [(27,vY)]<|yV [(0,vS p code c),(1,vS p1 more c1),(27,vY)]<|zV ⟨_,(zB hM0).symm,H,rfl,rfl⟩
   | false =>
    have hM01:=zN hc ho0
    try rw [hc]
    exact yF [] [(27,.bool (decide ((more.length:Int) > 1048576)))]<|yV [(0,vS p code c),(1,vS p1 more c1),(27,.bool (decide ((more.length:Int) > 1048576)))]<|zV ⟨_,(zB hM01).symm,H,rfl,rfl⟩
 rintro I0 hs2 m2 ⟨t27,heq,le,rfl,rfl⟩;subst o0;have h:=h.mono le;have h1:=h1.mono le;have H:=H.trans le;refine zE<|yO hMc ?_ ?_
 · intro hc1 N;refine yI [(4,vY)]<|zE<|yC<|zK ?_;obtain rfl:=zB N;exact vQ
 intro hc1 N;refine zZ<|xP<|yG 1 [] [(29,vS p code c)] ?_;obtain ⟨⟨y1,y2,y3⟩,hy,N⟩:=zC N;refine xX (spec_DrawInstanceValue_ok code _ hy h) ?_;rintro I01 hs2 v2 k2 le1 - ⟨v0,v01,v02,rfl,rfl,⟨cs,rfl,h2⟩,h3,⟨cs1,rfl,h4⟩⟩ -;have h1:=h1.mono le1;have H:=H.trans le1;obtain ⟨p2,c2,p3,c3,rfl,h5,h6⟩:=zGu h2;obtain ⟨p4,c4,rfl⟩:=h3.form;obtain ⟨p5,c5,rfl,h7⟩:=zCL h4;refine yG 6 [] [(31,vA (cProg y1 p2 c2 p3 c3)),(32,vS p4 y2 c4),(33,vA (cInst y3 p5 c5))]<|uK zTwo ?_;intro b hb;refine uK [vI 0,vI 0,z0] ?_;intro b1 hb1;refine xN 1 (cProg y1 p2 c2 p3 c3) [hB b1 [vI 0,vI 0,z0],hB b (cProg y1 p2 c2 p3 c3)] rfl rfl rfl rfl<|yG 10 [] [(6,vS p4 y2 c4)]<|xN 0 (cInst y3 p5 c5) [hB b1 (cInst y3 p5 c5),hB b (cProg y1 p2 c2 p3 c3)] rfl rfl rfl rfl<|yN rfl<|xP<|yG 3 [1,0] [(35,vA (cProg y1 p2 c2 p3 c3)),(36,vS p4 y2 c4),(37,vA (cInst y3 p5 c5))] ?_;obtain ⟨⟨y5,y6⟩,hy1,N⟩:=zC N;refine xX (impl_InstanceValue_ok y1 y2 y3 _ hy1 h5 h6 h3 h7) ?_;rintro I02 hs2 v2 k2 le2 - ⟨v06,v07,rfl,rfl,rfl,rfl⟩ -;have h1:=h1.mono le2;have h3:=h3.mono le2;have h7:=h7.mono le2;have h5:=h5.mono le2;have h6:=h6.mono le2;have H:=H.trans le2;refine yF [] [(8,vI y5),(9,.bool y6)]<|xP<|yG 3 [1,0] [(42,vA (cProg y1 p2 c2 p3 c3)),(43,vS p4 y2 c4),(44,vA (cInst y3 p5 c5))] ?_;obtain ⟨⟨y8,y9⟩,hy2,N⟩:=zC N;refine xX (spec_InstanceValue_ok y1 y2 y3 _ hy2 h5 h6 h3 h7) ?_;rintro I03 hs2 v2 k2 le3 - ⟨v08,v09,rfl,rfl,rfl,rfl⟩ -;have h1:=h1.mono le3;have h3:=h3.mono le3;have h7:=h7.mono le3;have h5:=h5.mono le3;have h6:=h6.mono le3;have H:=H.trans le3;refine yF [] [(10,vI y8),(11,.bool y9)]<|yL<|yK ?_;obtain ⟨o01,ho01,hMc1⟩:=zC N;refine yU (fun I' hs' m'=>∃ (t59:Bool),o01=t59∧I03.le I'∧hs'=[hB b1 (cInst y3 p5 c5),hB b (cProg y1 p2 c2 p3 c3)]∧m'=[(1,vS p1 more c1),(5,vP b 0),(6,vS p4 y2 c4),(7,vP b1 0),(8,vI y5),(9,.bool y6),(10,vI y8),(11,.bool y9),(59,.bool t59)]) ?_ ?_
 · have H:=iS I03;refine zR<|yG 4 [] [(51,.bool (!(y6 == y9)))] ?_;cases hc2:(!(y6 == y9)) with
   | true =>
    have hM02:=zQ hc2 ho01
    try rw [hc2]
    exact yF [] [(59,vY)]<|yV [(1,vS p1 more c1),(5,vP b 0),(6,vS p4 y2 c4),(7,vP b1 0),(8,vI y5),(9,.bool y6),(10,vI y8),(11,.bool y9),(59,vY)]<|zV ⟨_,(zB hM02).symm,H,rfl,rfl⟩
   | false =>
    have hM03:=zN hc2 ho01
    try rw [hc2]
    refine yG 9 [] [(56,.bool (y5 != y8))] ?_;cases hc3:(y5 != y8) with
    | true =>
     have hM04:=zQ hc3 hM03
     try rw [hc3]
     exact yF [] [(59,vY)]<|yV [(1,vS p1 more c1),(5,vP b 0),(6,vS p4 y2 c4),(7,vP b1 0),(8,vI y5),(9,.bool y6),(10,vI y8),(11,.bool y9),(59,vY)]<|zV ⟨_,(zB hM04).symm,H,rfl,rfl⟩
    | false =>
     have hM05:=zN hc3 hM03
     try rw [hc3]
     exact yF [] [(59,.bool (!y6))]<|yV [(1,vS p1 more c1),(5,vP b 0),(6,vS p4 y2 c4),(7,vP b1 0),(8,vI y5),(9,.bool y6),(10,vI y8),(11,.bool y9),(59,.bool (!y6))]<|zV ⟨_,(zB hM05).symm,H,rfl,rfl⟩
 rintro I04 hs2 m2 ⟨t59,heq1,le4,rfl,rfl⟩;subst o01;have h1:=h1.mono le4;have h3:=h3.mono le4;have h7:=h7.mono le4;have h5:=h5.mono le4;have h6:=h6.mono le4;have H:=H.trans le4;refine zE<|yO hMc1 ?_ ?_
 · intro hc4 N;refine yK ?_;obtain ⟨o02,ho02,hMc2⟩:=zC N;refine yU (fun I' hs' m'=>∃ (t4:Bool),o02=t4∧I04.le I'∧hs'=[]∧m'=[(4,.bool t4)]) ?_ ?_
   · have H:=iS I04;refine zR<|yG 4 [] [(63,.bool (y6 == y9))] ?_;cases hc5:(y6 == y9) with
     | true =>
      have hM06:=zQ hc5 ho02
      try rw [hc5]
      exact yF [] [(4,.bool (y5 == y8))]<|wB zT<|yV [(4,.bool (y5 == y8))]<|zV ⟨_,(zB hM06).symm,H,rfl,rfl⟩
     | false =>
      have hM07:=zN hc5 ho02
      try rw [hc5]
      exact yF [] [(4,vF)]<|wB zT<|yV [(4,vF)]<|zV ⟨_,(zB hM07).symm,H,rfl,rfl⟩
   rintro I05 hs2 m2 ⟨t4,heq2,le5,rfl,rfl⟩;subst o02;refine zE<|yC<|zK ?_;obtain rfl:=zB hMc2;exact vQ
 intro hc4 N;refine zZ<|xP<|yG 2 [1,0] [(69,vA (cProg y1 p2 c2 p3 c3)),(70,vA (cInst y3 p5 c5))] ?_;obtain ⟨⟨y11,y12,y13⟩,hy3,N⟩:=zC N;refine xX (zFC y1 y3 _ hy3 h5 h6 h7) ?_;rintro I06 hs2 v2 k2 le6 - ⟨v010,v011,v012,rfl,rfl,h12,rfl,rfl⟩ -;have h1:=h1.mono le6;have h3:=h3.mono le6;have h7:=h7.mono le6;have h5:=h5.mono le6;have h6:=h6.mono le6;have H:=H.trans le6;obtain ⟨p6,c6,rfl⟩:=h12.form;refine yF [] [(12,vS p6 y11 c6),(14,.bool y13)]<|xP<|xW [] Int ?_;intro b2 hb2;have h15:RL I06 [] ([]:List Int):=rfl;refine yG 2 [] [(76,vS p4 y2 c4)] ?_;obtain ⟨ccs,k0,k01⟩:=h3;have h3:SL I06 (vS p4 y2 c4) y2:=⟨_,k0,k01⟩;obtain ⟨other,hy4,N⟩:=zC N;refine qZ 3 1 0 rfl rfl rfl h15 (.inl k0) k01 hy4 fun p7 c7 cs2 h16=>rP (yH [0,1,2] (hs':=[hO Int (vS p7 other c7) cs2,hB b1 (cInst y3 p5 c5),hB b (cProg y1 p2 c2 p3 c3)]))<|yF [] [(15,vS p7 other c7)]<|yL<|yI [(16,vI 0)]<|zE<|zX<|vM [(1,vS p1 more c1),(5,vP b 0),(6,vS p4 y2 c4),(7,vP b1 0),(8,vI y5),(12,vS p6 y11 c6),(14,.bool y13),(15,vS p7 other c7),(16,vI 0)] ?_;obtain ⟨o03,ho03,hMl⟩:=zC N;refine laws_FnInstanceReads_l1_ok more other 0 o03 ho03 iR h1 h3 h12 h7 h5 h6 h16 (fun _ _ _ h=>h) (fun _ _ h=>h) ?_;intro I07 other2 p9 c9 cs4 heq3 le7 h18;subst o03;have h3:=h3.mono le7;have h12:=h12.mono le7;have h7:=h7.mono le7;have h5:=h5.mono le7;have h6:=h6.mono le7;have H:=H.trans le7;refine zY<|yL<|yI [(17,vI 0)]<|zE<|zX<|vM [(5,vP b 0),(6,vS p4 y2 c4),(7,vP b1 0),(8,vI y5),(12,vS p6 y11 c6),(14,.bool y13),(15,vS p9 other2 c9),(17,vI 0)] ?_;obtain ⟨o04,ho04,hMl1⟩:=zC hMl;refine laws_FnInstanceReads_l2_ok y2 y11 other2 0 o04 ho04 iR h3 h12 h7 h5 h6 h18 (fun _ _ _ h=>h) (fun _ _ h=>h) ?_;intro I09 other4 p11 c11 cs7 heq4 le9 h21;subst o04;have h7:=h7.mono le9;have h5:=h5.mono le9;have h6:=h6.mono le9;have H:=H.trans le9;refine zY<|xP<|yG 3 [2,1] [(117,vA (cProg y1 p2 c2 p3 c3)),(118,vS p11 other4 c11),(119,vA (cInst y3 p5 c5))]<|yJ 0 rfl ?_;intro I010 le10 hl02;have h23:=SL.of_frozen hl02 le10 h21;have h5:=h5.mono le10;have h6:=h6.mono le10;have h7:=h7.mono le10;have H:=H.trans le10;obtain ⟨⟨y15,y16⟩,hy13,N⟩:=zC hMl1;refine xX (impl_InstanceValue_ok y1 other4 y3 _ hy13 h5 h6 h23 h7) ?_;rintro I011 hs2 v2 k2 le11 - ⟨v013,v014,rfl,rfl,rfl,rfl⟩ -;have H:=H.trans le11;refine yF [] [(18,vI y15),(19,.bool y16)]<|zE<|yK ?_;obtain ⟨o05,ho05,hMc3⟩:=zC N;refine yU (fun I' hs' m'=>∃ (t41:Bool),o05=t41∧I011.le I'∧hs'=[]∧m'=[(4,.bool t41)]) ?_ ?_
 · have H:=iS I011;refine zR<|yG 2 [] [(124,.bool y13)] ?_;cases hc8:y13 with
   | true =>
    have hM08:=zQ hc8 ho05
    try rw [hc8]
    refine yG 5 [] [(127,.bool y16)] ?_;cases hc9:y16 with
    | true =>
     have hM09:=zQ hc9 hM08
     try rw [hc9]
     exact yF [] [(4,.bool (y15 == y5))]<|wB zT<|yV [(4,.bool (y15 == y5))]<|zV ⟨_,(zB hM09).symm,H,rfl,rfl⟩
    | false =>
     have hM010:=zN hc9 hM08
     try rw [hc9]
     exact yF [] [(4,vF)]<|wB zT<|yV [(4,vF)]<|zV ⟨_,(zB hM010).symm,H,rfl,rfl⟩
   | false =>
    have hM011:=zN hc8 ho05
    try rw [hc8]
    exact yF [] [(4,vF)]<|wB zT<|yV [(4,vF)]<|zV ⟨_,(zB hM011).symm,H,rfl,rfl⟩
 rintro I012 hs2 m2 ⟨t41,heq5,le12,rfl,rfl⟩;subst o05;refine zE<|yC ?_;obtain rfl:=zB hMc3;exact vQ
end Go.LN
namespace Go.LN
def totL:List zG→Int→Int
  | [],n=>n
  | x::l,n=>totL l (W (n + sizeF x))
theorem implCells (P:zS) (h:BR P.Arrays):M.impl_Program_cells P=some (totL P.Arrays 0):=by
  unfold M.impl_Program_cells;obtain ⟨h1,h2⟩:=h;have key:∀ (j i:Nat) (n:Int),i + j=P.Arrays.length→M.impl_Program_cells_l1 P n (i:Int)=some (totL (P.Arrays.drop i) n):=by
    intro j
    induction j with
    | zero =>
      intro i n hi;rw [M.impl_Program_cells_l1];have:¬((i:Int) < (P.Arrays.length:Int)):=by omega
      simp only [this,dF,bF,if_false];rw [dN.2 (by omega)]; rfl
    | succ j ih =>
      intro i n hi;rw [M.impl_Program_cells_l1];have hlt:i < P.Arrays.length:=by omega
      have hc:((i:Int) < (P.Arrays.length:Int)):=by omega
      have hd:=h2 _ (gM hlt);simp only [hc,dT,if_true,xB hlt,oB,oS,implSize _ (show P.Arrays[i].Dims.length ≤ 1048576 by omega)];rw [tL (by omega),ih (i + 1) _ (by omega),gC hlt,totL]
  have:=key _ 0 0 (Nat.zero_add _);rw [nZ,List.drop_zero] at this;rw [this]; rfl
theorem specTotal (P:zS) (h:BR P.Arrays):M.spec_l4Total P=some (totL P.Arrays 0):=by
  unfold M.spec_l4Total;obtain ⟨h1,h2⟩:=h;have key:∀ (j i:Nat) (n:Int),i + j=P.Arrays.length→M.spec_l4Total_l1 P n (i:Int)=some (totL (P.Arrays.drop i) n):=by
    intro j
    induction j with
    | zero =>
      intro i n hi;rw [M.spec_l4Total_l1];have:¬((i:Int) < (P.Arrays.length:Int)):=by omega
      simp only [this,dF,bF,if_false];rw [dN.2 (by omega)]; rfl
    | succ j ih =>
      intro i n hi;rw [M.spec_l4Total_l1];have hlt:i < P.Arrays.length:=by omega
      have hc:((i:Int) < (P.Arrays.length:Int)):=by omega
      have hd:=h2 _ (gM hlt);simp only [hc,dT,if_true,xB hlt,oB,oS,specSize _ (show P.Arrays[i].Dims.length ≤ 1048576 by omega)];rw [tL (by omega),ih (i + 1) _ (by omega),gC hlt,totL]
  have:=key _ 0 0 (Nat.zero_add _);rw [nZ,List.drop_zero] at this;rw [this]; rfl
theorem specCountC (P:zS) (h:BG P):M.spec_CountCells P=some (if validP P then totL P.Arrays 0 else 0):=by
  unfold M.spec_CountCells;rw [specValidP P h,specTotal P h.1];cases validP P <;> rfl
end Go.LN
namespace Go.LN
def GA (l:List zG):Prop:=l.length ≤ 4∧(∀ x ∈ l,DA x)∧l.Pairwise fun x y=>x.Name.l ≠ y.Name.l
def sumS:List zG→Int
  | []=>0
  | x::l=>sizeF x + sumS l
theorem sumS_rng:∀ {l:List zG},(∀ x ∈ l,DA x)→0 ≤ sumS l∧sumS l ≤ 36 * (l.length:Int)
  | [],_=>⟨Int.le_refl _,Int.le_refl _⟩
  | x::l,h=>by
    have h1:=(h x (List.mem_cons_self ..)).size
    have h2:=sumS_rng (l:=l) fun y hy=>h y (List.mem_cons_of_mem _ hy)
    rw [sumS,List.length_cons]; omega
theorem tot_sum:∀ {l:List zG}{n:Int},(∀ x ∈ l,DA x)→0 ≤ n→n + 36 * (l.length:Int) ≤ 1000000→totL l n=n + sumS l
  | [],n,_,_,_=>by rw [totL,sumS]; omega
  | x::l,n,h,h0,h1=>by
    have hs:=(h x (List.mem_cons_self ..)).size
    rw [List.length_cons] at h1
    rw [totL,sF (by omega) (by omega),tot_sum (fun y hy=>h y (List.mem_cons_of_mem _ hy)) (by omega) (by omega),sumS]; omega
theorem lt_chain {n:Nat}{f:Nat→Nat} (h:∀ i,i + 1 < n→f i < f (i + 1)):∀ (d i:Nat),i + d + 1 < n→f i < f (i + d + 1)
  | 0,i,hi=>h i hi
  | d + 1,i,hi=>Nat.lt_trans (lt_chain h d i (by omega)) (h (i + d + 1) hi)
theorem name_one {l:List UInt8} (h:nameL l=true):∃ c,l=[c]:=by
  match l with
  | []=>cases h
  | [c]=>exact ⟨c,rfl⟩
  | c::d::r=>cases h
theorem arr_good {l:List zG} (h:arrB l=true):GA l:=by
  simp only [arrB,bA,decide_eq_true_eq] at h;obtain ⟨h4,hall⟩:=h;have hi:∀ i,i < l.length→arrI l i=true:=fun i hi=>List.all_eq_true.1 hall i (List.mem_range.2 hi);refine ⟨h4,fun x hx=>?_,?_⟩
  · obtain ⟨i,hi',rfl⟩:=List.mem_iff_getElem.1 hx;have:=hi i hi';have hg:l.getD i ⟨⟨[]⟩,[]⟩=l[i]:=by simp [hi']
    simp only [arrI,hg,bA,decide_eq_true_eq] at this;obtain ⟨⟨_,h1,h2⟩,h3⟩:=this;have h3:=List.all_eq_true.1 h3
    match hd:l[i].Dims with
    | []=>rw [hd] at h1; simp at h1
    | [d] =>
      have:=h3 d (by rw [hd]; simp);simp only [dimB,bA,decide_eq_true_eq] at this;exact .inl ⟨d,hd,this⟩
    | [d,e] =>
      have k1:=h3 d (by rw [hd]; simp);have k2:=h3 e (by rw [hd]; simp);simp only [dimB,bA,decide_eq_true_eq] at k1 k2;exact .inr ⟨d,e,hd,k1,k2⟩
    | d::e::f::r=>rw [hd] at h2; simp at h2
  · have hlt:∀ i,i + 1 < l.length→nm l i < nm l (i + 1):=by
      intro i hi1;have a1:=hi i (by omega);have a2:=hi (i + 1) hi1;simp only [arrI,bA,Bool.or_eq_true,decide_eq_true_eq] at a1 a2;obtain ⟨c,hc⟩:=name_one a1.1.1.1;obtain ⟨d,hd⟩:=name_one a2.1.1.1;have hb:=a2.1.1.2;rw [show i + 1 - 1=i by omega] at hb;unfold nm;rw [hc,hd] at hb;rw [hc,hd];rcases hb with hb | hb
      · omega
      · simp only [Op.bytesLess,Bool.and_false,Bool.or_false,decide_eq_true_eq] at hb;exact hb
    refine List.pairwise_iff_getElem.2 fun i j hi1 hj1 hij e=>?_;have hk:=lt_chain (n:=l.length) (f:=nm l) hlt (j - i - 1) i (by omega);rw [show i + (j - i - 1) + 1=j by omega] at hk;have g1:l.getD i ⟨⟨[]⟩,[]⟩=l[i]:=by simp [hi1]
    have g2:l.getD j ⟨⟨[]⟩,[]⟩=l[j]:=by simp [hj1]
    unfold nm at hk;rw [g1,g2,e] at hk;exact Nat.lt_irrefl _ hk
theorem valid_good {P:zS} (h:validP P=true):GA P.Arrays:=by
  simp only [validP,progB,bA] at h;exact arr_good h.1.1.1
theorem valid_tot {P:zS} (h:validP P=true):totL P.Arrays 0=sumS P.Arrays∧0 ≤ sumS P.Arrays∧sumS P.Arrays ≤ 144:=by
  obtain ⟨h1,h2,_⟩:=valid_good h;have:=sumS_rng h2;rw [tot_sum h2 (Int.le_refl _) (by omega)];omega
theorem cellS1 {p:List Int}{d:Int}{s:zA} (h1:1 ≤ d) (h2:d ≤ 6):cellS p [d] [s] 0=if 0 ≤ evA s p∧evA s p < d then some (evA s p) else none:=by
  rw [cellS];by_cases h:0 ≤ evA s p∧evA s p < d
  · rw [if_pos h,if_pos h,cellS,Int.zero_mul,sF (x:=0) (by omega) (by omega),sF (by omega) (by omega),Int.zero_add]
  · rw [if_neg h,if_neg h]
theorem cellS2 {p:List Int}{d e:Int}{s t:zA} (h1:1 ≤ d) (h2:d ≤ 6) (h3:1 ≤ e) (h4:e ≤ 6):cellS p [d,e] [s,t] 0=if 0 ≤ evA s p∧evA s p < d then (if 0 ≤ evA t p∧evA t p < e then some (evA s p * e + evA t p) else none) else none:=by
  rw [cellS];by_cases h:0 ≤ evA s p∧evA s p < d
  · rw [if_pos h,if_pos h,cellS,Int.zero_mul,sF (x:=0) (by omega) (by omega),sF (x:=0 + evA s p) (by omega) (by omega),Int.zero_add];by_cases hk:0 ≤ evA t p∧evA t p < e
    · have hm:0 ≤ evA s p * e∧evA s p * e ≤ 36:=by
        have:evA s p=0∨evA s p=1∨evA s p=2∨evA s p=3∨evA s p=4∨evA s p=5:=by omega
        rcases this with e | e | e | e | e | e <;> rw [e] <;> omega
      rw [if_pos hk,if_pos hk,cellS,sF (x:=evA s p * e) (by omega) (by omega),sF (by omega) (by omega)]
    · rw [if_neg hk,if_neg hk]
  · rw [if_neg h,if_neg h]
theorem rows_lt {d e i j:Int} (hi:0 ≤ i∧i < d) (hd:d ≤ 6) (hj:0 ≤ j∧j < e) (he:e ≤ 6):0 ≤ i * e + j∧i * e + j < d * e:=by
  have h1:i=0∨i=1∨i=2∨i=3∨i=4∨i=5:=by omega
  have h2:d=1∨d=2∨d=3∨d=4∨d=5∨d=6:=by omega
  rcases h1 with rfl | rfl | rfl | rfl | rfl | rfl <;> rcases h2 with rfl | rfl | rfl | rfl | rfl | rfl <;> omega
theorem one_sub {l:List zA}{d:Int} (h:l.length=[d].length):∃ s,l=[s]:=by
  match l with
  | []=>cases h
  | [s]=>exact ⟨s,rfl⟩
  | a::b::r=>simp at h
theorem two_sub {l:List zA}{d e:Int} (h:l.length=[d,e].length):∃ s t,l=[s,t]:=by
  match l with
  | []=>cases h
  | [s]=>cases h
  | [s,t]=>exact ⟨s,t,rfl⟩
  | a::b::c::r=>simp at h
theorem cellS_rng {x:zG}{subs:List zA}{p:List Int}{n:Int} (h:DA x) (hl:subs.length=x.Dims.length) (hc:cellS p x.Dims subs 0=some n):0 ≤ n∧n < sizeF x:=by
  rcases h with ⟨d,h,h1,h2⟩ | ⟨d,e,h,⟨h1,h2⟩,h3,h4⟩
  · rw [h] at hl hc;obtain ⟨s,rfl⟩:=one_sub hl;rw [zIx h h1 h2];rw [cellS1 h1 h2] at hc;split at hc
    · cases hc; assumption
    · cases hc
  · rw [h] at hl hc;obtain ⟨s,t,rfl⟩:=two_sub hl;rw [zIy h h1 h2 h3 h4];rw [cellS2 h1 h2 h3 h4] at hc;split at hc
    · split at hc
      · cases hc
        exact rows_lt ‹_› h2 ‹_› h4
      · cases hc
    · cases hc
theorem cell_rng (a:zI) (p:List Int):∀ (l:List zG) (first:Int),(∀ x ∈ l,DA x)→0 ≤ first→first + sumS l ≤ 1000000→cellF a p l first=-1∨(first ≤ cellF a p l first∧cellF a p l first < first + sumS l)
  | [],first,_,_,_=>.inl rfl
  | x::l,first,h,h0,h1=>by
    have hx:=h x (List.mem_cons_self ..)
    have hs:=hx.size
    have hl:=sumS_rng (l:=l) fun y hy=>h y (List.mem_cons_of_mem _ hy)
    rw [sumS] at h1 ⊢
    rw [cellF]
    by_cases hn:x.Name.l=a.Array.l
    · rw [if_pos hn]
      by_cases hd:a.Subs.length=x.Dims.length
      · rw [if_pos hd]
        cases hc:cellS p x.Dims a.Subs 0 with
        | none=>exact .inl rfl
        | some n =>
          have:=cellS_rng hx hd hc
          refine .inr ?_
          dsimp only
          rw [sF (by omega) (by omega)]; omega
      · rw [if_neg hd]; exact .inl rfl
    · rw [if_neg hn,sF (by omega) (by omega)]
      rcases cell_rng a p l (first + sizeF x) (fun y hy=>h y (List.mem_cons_of_mem _ hy)) (by omega) (by omega) with k | k
      · exact .inl k
      · exact .inr (by omega)
theorem cell_lt {P:zS} (h:validP P=true) (a:zI) (p:List Int):-1 ≤ cellF a p P.Arrays 0∧cellF a p P.Arrays 0 < totL P.Arrays 0:=by
  obtain ⟨h1,h2,h3⟩:=valid_tot h;rcases cell_rng a p P.Arrays 0 (valid_good h).2.1 (Int.le_refl _) (by omega) with k | k <;> omega
end Go.LN
namespace Go.LN
def valB (n:Int):Bool:=decide (0 ≤ n) && decide (n ≤ 999)
def memB (P:zS) (m:List Int):Bool:=validP P && (decide ((m.length:Int)=totL P.Arrays 0) && m.all valB)
theorem implMem (P:zS) (h:BG P) (m:List Int) (hm:m.length ≤ 1048576):M.impl_MemoryValid P m=some (memB P m):=by
  unfold M.impl_MemoryValid memB;have hc:=zAQ (f:=M.impl_MemoryValid_1) (p:=fun n=>!(valB n)) m (fun x _=>by unfold M.impl_MemoryValid_1; rw [qS]; rfl) (by omega);rw [implValidP P h,implCells P h.1,hc];cases validP P with
  | false=>rfl
  | true =>
    by_cases e:(m.length:Int)=totL P.Arrays 0
    · simp [e,List.all_eq_not_any_not]
    · simp [e]
theorem specMem (P:zS) (h:BG P) (m:List Int) (hm:m.length ≤ 1048576):M.spec_MemoryValid P m=some (memB P m):=by
  unfold M.spec_MemoryValid memB;have hl:=kQ (n:=m.length) (f:=M.spec_MemoryValid_l1 m) (P:=fun i=>valB (m.getD i 0)) (fun i hi=>by
      rw [M.spec_MemoryValid_l1];have h1:((i:Int) < (m.length:Int)):=by omega
      have hg:m.getD i 0=m[i]:=by simp [hi]
      simp only [h1,dT,if_true,xB hi,oB,oS,oP,hg,valB];by_cases h2:m[i] < 0
      · have h3:¬(0 ≤ m[i]):=by omega
        simp [h2,h3]
      · have h3:0 ≤ m[i]:=by omega
        by_cases h4:m[i] > 999
        · have h5:¬(m[i] ≤ 999):=by omega
          simp [h2,h3,h4,h5]
        · have h5:m[i] ≤ 999:=by omega
          simp only [h2,h3,h4,h5,dT,dF,bF,if_false,oS,Bool.and_self,if_true];rw [tL (by omega)]) (by rw [M.spec_MemoryValid_l1]; simp)
  rw [kZ m valB 0] at hl;rw [hl];cases hv:m.all valB with
  | false=>simp
  | true =>
    simp only [oB,oS,if_true,specValidP P h,specTotal P h.1,Bool.and_true];cases validP P with
    | false=>rfl
    | true =>
      by_cases e:(m.length:Int)=totL P.Arrays 0
      · simp [e]
      · simp [e]
theorem memory_l1:∀ (n:Nat) (out:List Int) (x:zJ),0 ≤ x.p→x.p + (n:Int) ≤ 900000000→out.length + n ≤ 1000000→Ok (M.spec_l5Memory_l1 out (n:Int) x) (fun y=>y.1.length=out.length + n∧0 ≤ y.2.p∧y.2.p ≤ x.p + (n:Int))
  | 0,out,x,h0,h1,ho=>by
    rw [M.spec_l5Memory_l1]
    exact ⟨(out,x),rfl,rfl,h0,by dsimp only; omega⟩
  | n + 1,out,x,h0,h1,ho=>by
    rw [M.spec_l5Memory_l1]
    refine Ok.ite_dec (fun hc=>?_) fun hc=>absurd hc (by omega)
    refine Ok.call (wA x _) ⟨by decide,h0,by omega,by decide⟩ fun y s _ _ g3=>Ok.app (by simp; omega) ?_
    rw [show W (((n + 1:Nat):Int) - 1)=(n:Int) by rw [sF (by omega) (by omega)]; omega]
    refine Ok.mono (memory_l1 n _ s (by omega) (by omega) (by rw [lA]; simp; omega)) fun r hr=>⟨by rw [hr.1,lA]; simp; omega,hr.2.1,by have:=hr.2.2; omega⟩
theorem drawMem1 (r:zJ) (P:zS) (h:BG P) (hr:RD r):Ok (M.spec_l5Memory r P) (fun y=>y.1.length ≤ 144∧0 ≤ y.2.p∧y.2.p ≤ 800000000):=by
  obtain ⟨h0,h1⟩:=hr;unfold M.spec_l5Memory;rw [specCountC P h];obtain ⟨n,hn,hn2⟩:∃ n:Nat,(if validP P then totL P.Arrays 0 else 0)=(n:Int)∧n ≤ 144:=by
    cases hv:validP P with
    | false=>exact ⟨0,rfl,by omega⟩
    | true =>
      obtain ⟨t1,t2,t3⟩:=valid_tot hv;refine ⟨(sumS P.Arrays).toNat,?_,by omega⟩;simp only [if_true];rw [t1]; omega
  rw [hn];refine Ok.bind_some (Ok.bind (memory_l1 n [] r h0 (by omega) (by simp; omega)) fun z hz=>?_);obtain ⟨o,s⟩:=z;obtain ⟨z1,z2,z3⟩:=hz;exact Ok.pure ⟨by dsimp only at z1 ⊢; simp at z1; omega,z2,by dsimp only at z3 ⊢; omega⟩
def BK (z:List Int×zJ):Prop:=z.1.length ≤ 145∧0 ≤ z.2.p∧z.2.p ≤ 800001000
theorem bend_ok (r:zJ) (m:List Int) (hm:m.length ≤ 144) (h0:0 ≤ r.p) (h1:r.p ≤ 800000000):Ok (M.spec_l5Bend r m) BK:=by
  unfold M.spec_l5Bend;rw [jX m (by omega)];refine Ok.bind_some (Ok.call (nW r _) ⟨h0,by omega⟩ fun y s k1 k2 k3=>?_);refine Ok.bind (φ:=BK) ?_ fun z hz=>by
    obtain ⟨o,t⟩:=z;exact Ok.pure hz
  refine Ok.ite_beq (fun _=>Ok.app (by simp; omega) (Ok.pure ⟨by show (_ ++ _:List Int).length ≤ _; rw [lA]; simp; omega,by dsimp only; omega,by dsimp only; omega⟩)) fun _=>?_;refine Ok.bind (φ:=BK) ?_ fun z hz=>by
    obtain ⟨o,t⟩:=z;exact Ok.pure hz
  refine Ok.ite_beq (fun _=>?_) fun _=>Ok.pure ⟨by dsimp only; omega,by dsimp only; omega,by dsimp only; omega⟩;refine Ok.bind (φ:=BK) ?_ fun z hz=>by
    obtain ⟨o,t⟩:=z;exact Ok.pure hz
  refine Ok.ite_dec (fun hc=>?_) fun _=>Ok.pure ⟨by dsimp only; omega,by dsimp only; omega,by dsimp only; omega⟩;exact Ok.call (nW s _) ⟨by omega,by omega⟩ fun z t g1 g2 g3=>Ok.call (wA t _) ⟨by decide,by omega,by omega,by decide⟩ fun z2 t2 _ k4 k5=>Ok.idx (by omega) (by omega) fun x _ _=>Ok.bind_pure (Ok.pure ⟨by show (List.set _ _ _).length ≤ _; rw [List.length_set]; omega,by dsimp only; omega,by dsimp only; omega⟩)
end Go.LN
namespace Go.LN
theorem rdI_rng {P:zS}{z:zM} (hv:validP P=true) (h:InP P z):(∀ c ∈ rdI P z,0 ≤ c∧c < totL P.Arrays 0)∧0 ≤ wrI P z∧wrI P z < totL P.Arrays 0:=by
  have hst:=h.ok;simp only [stOk,bA,decide_eq_true_eq] at hst;refine ⟨fun c hc=>?_,hst.1,(cell_lt hv _ _).2⟩;obtain ⟨a,ha,rfl⟩:=List.mem_map.1 hc;exact ⟨of_decide_eq_true (List.all_eq_true.1 hst.2 a ha),(cell_lt hv _ _).2⟩
end Go.LN
namespace Go.LN
def upd (g:Nat→Int) (m:Nat) (v:Int):Nat→Int:=fun x=>if x=m then v else g x
def stL (n:Nat) (g:Nat→Int):List Int:=(List.range n).map g
theorem stL_len (n:Nat) (g:Nat→Int):(stL n g).length=n:=by unfold stL; rw [lM,List.length_range]
theorem stL_get {n m:Nat}{g:Nat→Int} (h:m < n):idx (stL n g) (m:Int)=some (g m):=by
  rw [xB (by rw [stL_len]; exact h)];simp [stL]
theorem stL_at {n i:Nat}{g:Nat→Int} (h:i < (stL n g).length):(stL n g)[i]=g i:=by simp [stL]
theorem stL_set {n m:Nat}{g:Nat→Int}{v:Int} (h:m < n):(stL n g).set m v=stL n (upd g m v):=by
  refine List.ext_getElem (by rw [List.length_set,stL_len,stL_len]) fun i h1 h2=>?_;rw [List.getElem_set,stL_at,stL_at];unfold upd;by_cases e:m=i
  · rw [if_pos e,if_pos e.symm]
  · rw [if_neg e,if_neg fun h=>e h.symm]
theorem stL_congr {n:Nat}{f g:Nat→Int} (h:∀ m,m < n→f m=g m):stL n f=stL n g:=by
  unfold stL;exact List.map_congr_left fun m hm=>h m (List.mem_range.1 hm)
end Go.LN
namespace Go.LN
def wrM (q:Int):Int:=if q.tmod 1000 < 0 then q.tmod 1000 + 1000 else q.tmod 1000
theorem tm_rng (q:Int):-1000 < q.tmod 1000∧q.tmod 1000 < 1000:=by
  have h1:=Int.tmod_lt_of_pos q (show (0:Int) < 1000 by omega);have h2:=Int.lt_tmod_of_pos q (show (0:Int) < 1000 by omega);omega
theorem tm_id {q:Int} (h0:0 ≤ q) (h1:q < 1000):q.tmod 1000=q:=by rw [Int.tmod_eq_emod_of_nonneg h0]; omega
theorem tm_k {q:Int} (h0:1000 ≤ q) (h1:q < 2000):q.tmod 1000=q - 1000:=by rw [Int.tmod_eq_emod_of_nonneg (by omega)]; omega
theorem implMod (q:Int):M.impl_modulo q=some (wrM q):=by
  have h:=tm_rng q;unfold M.impl_modulo wrM;rw [sF (show -9223372036854775808 ≤ q.tmod 1000 + 999 by omega) (by omega),sF (by omega) (by omega)];by_cases h0:q.tmod 1000 < 0
  · rw [if_pos h0,tm_id (by omega) (by omega)];exact congrArg some (by omega)
  · rw [if_neg h0,tm_k (by omega) (by omega)];exact congrArg some (by omega)
theorem specMod (q:Int):M.spec_l5Wrap q=some (wrM q):=by
  have h:=tm_rng q;unfold M.spec_l5Wrap wrM;by_cases h0:q.tmod 1000 < 0
  · rw [if_pos h0,if_pos (by simpa using h0),sF (show -9223372036854775808 ≤ q.tmod 1000 + 999 by omega) (by omega),sF (by omega) (by omega)];exact congrArg some (by omega)
  · rw [if_neg h0,if_neg (by simpa using h0)]; rfl
def evF (A:List zG) (m:List Int) (p:List Int):Nat→zF→Int
  | 0,_=>0
  | n + 1,e =>
    if e.Kind=1 then e.Num
    else if e.Kind=2 then wrM (evA e.Index p)
    else if e.Kind=3 then m.getD (cellA A p e.Read).toNat 0
    else match e.Kids with
      | [a,b]=>if e.Kind=4 then wrM (W (evF A m p n a + evF A m p n b)) else if e.Kind=5 then wrM (W (evF A m p n a - evF A m p n b)) else wrM (W (evF A m p n a * evF A m p n b))
      | _=>0
theorem evF_congr {d:Int}{A:List zG}{m m2 p:List Int}:∀ (n:Nat) (e:zF),shapeB d n e=true→(∀ a ∈ readsF n e,m.getD (cellA A p a).toNat 0=m2.getD (cellA A p a).toNat 0)→evF A m p n e=evF A m2 p n e
  | 0,e,_,_=>rfl
  | n + 1,e,h,hr=>by
    rw [readsF] at hr
    rw [evF,evF]
    by_cases h3:e.Kind=3
    · rw [if_pos h3] at hr
      have:=hr _ (List.mem_singleton.2 rfl)
      rw [if_neg (show ¬e.Kind=1 by omega),if_neg (show ¬e.Kind=2 by omega),if_pos h3,if_neg (show ¬e.Kind=1 by omega),if_neg (show ¬e.Kind=2 by omega),if_pos h3,this]
    · rw [if_neg h3] at hr
      rcases zIz h with hk | ⟨hk,a,b,hab⟩
      · rcases hk with k | k | k
        · rw [if_pos k,if_pos k]
        · rw [if_neg (show ¬e.Kind=1 by omega),if_neg (show ¬e.Kind=1 by omega),if_pos k,if_pos k]
        · exact absurd k h3
      · have h2:=(jA h).2
        rw [hab] at h2 hr ⊢
        have ea:=evF_congr (m:=m) (m2:=m2) n a (h2 a (by simp)) fun x hx=>hr x (List.mem_flatMap.2 ⟨a,by simp,hx⟩)
        have eb:=evF_congr (m:=m) (m2:=m2) n b (h2 b (by simp)) fun x hx=>hr x (List.mem_flatMap.2 ⟨b,by simp,hx⟩)
        dsimp only
        rw [ea,eb,if_neg (show ¬e.Kind=3 by omega),if_neg (show ¬e.Kind=3 by omega)]
def RdIn (A:List zG) (m p:List Int) (l:List zI):Prop:=∀ a ∈ l,0 ≤ cellA A p a∧cellA A p a < (m.length:Int)
theorem implVal {d:Int} (P:zS) (m p:List Int) (hp:p.length ≤ 4) (hR:RV P.Arrays):∀ (n:Nat) (e:zF),shapeB d n e=true→RdIn P.Arrays m p (readsF n e)→M.impl_Program_value P m e p=some (evF P.Arrays m p n e)
  | 0,e,h,_=>by cases h
  | n + 1,e,h,hr=>by
    rw [M.impl_Program_value,evF]
    rw [readsF] at hr
    rcases zIz h with hk | ⟨hk,a,b,hab⟩
    · rcases hk with k | k | k
      · have e1:(e.Kind == 1)=true:=by simpa using k
        rw [if_pos k]
        simp [e1]
      · have e1:(e.Kind == 1)=false:=by simp; omega
        have e2:(e.Kind == 2)=true:=by simpa using k
        have hc:=zJR (zI9 h k)
        rw [if_neg (show ¬e.Kind=1 by omega),if_pos k]
        simp [e1,e2,implEval e.Index p (by omega) (by omega),implMod]
      · have e1:(e.Kind == 1)=false:=by simp; omega
        have e2:(e.Kind == 2)=false:=by simp; omega
        have e3:(e.Kind == 3)=true:=by simpa using k
        rw [if_pos k] at hr
        obtain ⟨c0,c1⟩:=hr _ (List.mem_singleton.2 rfl)
        have hav:=AV.of (zDt h k).2
        rw [if_neg (show ¬e.Kind=1 by omega),if_neg (show ¬e.Kind=2 by omega),if_pos k]
        have hcl:=implCell P e.Read p hav hp hR
        obtain ⟨c,hcc⟩:∃ c:Nat,cellA P.Arrays p e.Read=(c:Int):=⟨(cellA P.Arrays p e.Read).toNat,by omega⟩
        have hcl:uX P e.Read p=some (c:Int):=by rw [hcl]; exact congrArg some hcc
        have hlt:c < m.length:=by omega
        rw [hcc,iN]
        simp [e1,e2,e3,hcl,xB hlt,hlt]
    · have e1:(e.Kind == 1)=false:=by simp; omega
      have e2:(e.Kind == 2)=false:=by simp; omega
      have e3:(e.Kind == 3)=false:=by simp; omega
      have h2:=(jA h).2
      rw [if_neg (show ¬e.Kind=3 by omega)] at hr
      rw [hab] at h2 hr ⊢
      have ea:=implVal P m p hp hR n a (h2 a (by simp)) fun x hx=>hr x (List.mem_flatMap.2 ⟨a,by simp,hx⟩)
      have eb:=implVal P m p hp hR n b (h2 b (by simp)) fun x hx=>hr x (List.mem_flatMap.2 ⟨b,by simp,hx⟩)
      have i0:idx [a,b] 0=some a:=rfl
      have i1:idx [a,b] 1=some b:=rfl
      rw [if_neg (show ¬e.Kind=1 by omega),if_neg (show ¬e.Kind=2 by omega),if_neg (show ¬e.Kind=3 by omega)]
      dsimp only
      by_cases k4:e.Kind=4
      · have e4:(e.Kind == 4)=true:=by simpa using k4
        rw [if_pos k4]
        simp [e1,e2,e3,e4,i0,i1,same,ea,eb,implMod]
      · have e4:(e.Kind == 4)=false:=by simpa using k4
        rw [if_neg k4]
        by_cases k5:e.Kind=5
        · have e5:(e.Kind == 5)=true:=by simpa using k5
          rw [if_pos k5]
          simp [e1,e2,e3,e4,e5,i0,i1,same,ea,eb,implMod]
        · have e5:(e.Kind == 5)=false:=by simpa using k5
          rw [if_neg k5]
          simp [e1,e2,e3,e4,e5,i0,i1,same,ea,eb,implMod]
theorem specVal {d:Int} (A:List zG) (m p:List Int) (hp:p.length ≤ 4) (hR:RV A):∀ (n:Nat) (e:zF),shapeB d n e=true→RdIn A m p (readsF n e)→M.spec_l5Eval A m e p=some (evF A m p n e)
  | 0,e,h,_=>by cases h
  | n + 1,e,h,hr=>by
    rw [M.spec_l5Eval,evF]
    rw [readsF] at hr
    rcases zIz h with hk | ⟨hk,a,b,hab⟩
    · rcases hk with k | k | k
      · have e1:(e.Kind == 1)=true:=by simpa using k
        rw [if_pos k]
        simp [e1]
      · have e1:(e.Kind == 1)=false:=by simp; omega
        have e2:(e.Kind == 2)=true:=by simpa using k
        have hc:=zJR (zI9 h k)
        rw [if_neg (show ¬e.Kind=1 by omega),if_pos k]
        simp [e1,e2,specEval e.Index p (by omega) (by omega),specMod]
      · have e1:(e.Kind == 1)=false:=by simp; omega
        have e2:(e.Kind == 2)=false:=by simp; omega
        have e3:(e.Kind == 3)=true:=by simpa using k
        rw [if_pos k] at hr
        obtain ⟨c0,c1⟩:=hr _ (List.mem_singleton.2 rfl)
        have hav:=AV.of (zDt h k).2
        rw [if_neg (show ¬e.Kind=1 by omega),if_neg (show ¬e.Kind=2 by omega),if_pos k]
        have hcl:=specCell A e.Read p hav hp hR
        obtain ⟨c,hcc⟩:∃ c:Nat,cellA A p e.Read=(c:Int):=⟨(cellA A p e.Read).toNat,by omega⟩
        have hcl:pH A e.Read p=some (c:Int):=by rw [hcl]; exact congrArg some hcc
        have hlt:c < m.length:=by omega
        rw [hcc,iN]
        simp [e1,e2,e3,hcl,xB hlt,hlt]
    · have e1:(e.Kind == 1)=false:=by simp; omega
      have e2:(e.Kind == 2)=false:=by simp; omega
      have e3:(e.Kind == 3)=false:=by simp; omega
      have h2:=(jA h).2
      rw [if_neg (show ¬e.Kind=3 by omega)] at hr
      rw [hab] at h2 hr ⊢
      have ea:=specVal A m p hp hR n a (h2 a (by simp)) fun x hx=>hr x (List.mem_flatMap.2 ⟨a,by simp,hx⟩)
      have eb:=specVal A m p hp hR n b (h2 b (by simp)) fun x hx=>hr x (List.mem_flatMap.2 ⟨b,by simp,hx⟩)
      have i0:idx [a,b] 0=some a:=rfl
      have i1:idx [a,b] 1=some b:=rfl
      rw [if_neg (show ¬e.Kind=1 by omega),if_neg (show ¬e.Kind=2 by omega),if_neg (show ¬e.Kind=3 by omega)]
      dsimp only
      by_cases k4:e.Kind=4
      · have e4:(e.Kind == 4)=true:=by simpa using k4
        rw [if_pos k4]
        simp [e1,e2,e3,e4,i0,i1,same,ea,eb,specMod]
      · have e4:(e.Kind == 4)=false:=by simpa using k4
        rw [if_neg k4]
        by_cases k5:e.Kind=5
        · have e5:(e.Kind == 5)=true:=by simpa using k5
          rw [if_pos k5]
          simp [e1,e2,e3,e4,e5,i0,i1,same,ea,eb,specMod]
        · have e5:(e.Kind == 5)=false:=by simpa using k5
          rw [if_neg k5]
          simp [e1,e2,e3,e4,e5,i0,i1,same,ea,eb,specMod]
def ivF (P:zS) (m:List Int) (x:zM):Int×Bool:=if memB P m && isB P x then (evF P.Arrays m x.Point 5 (stI P x).Value,true) else (0,false)
theorem rd_in {P:zS}{m:List Int} (hm:memB P m=true) {x:zM} (h:InP P x):RdIn P.Arrays m x.Point (readsF 5 (stI P x).Value):=by
  simp only [memB,bA,decide_eq_true_eq] at hm;intro a ha;have:=(rdI_rng hm.1 h).1 (cellA P.Arrays x.Point a) (List.mem_map.2 ⟨a,ha,rfl⟩);omega
theorem implIV (P:zS) (hb:BG P) (m:List Int) (hm:m.length ≤ 1048576) (x:zM) (hx:x.Point.length ≤ 1048576):M.impl_InstanceValue P m x=some (ivF P m x):=by
  unfold M.impl_InstanceValue ivF;rw [implMem P hb m hm];cases hmb:memB P m with
  | false=>simp
  | true =>
    have hv:validP P=true:=by simp only [memB,bA] at hmb; exact hmb.1
    rw [implIs P hb x hx];cases hi:isB P x with
    | false=>simp
    | true =>
      have h:=zJQ hb hv hi;obtain ⟨d,hd⟩:=h.st;have hvl:=implVal P m x.Point h.pt (zHi hb hv) 5 (stI P x).Value (dD hd).2.1 (rd_in hmb h);unfold oZ;simp [h.idxP,h.idxS,hvl]
theorem specIV (P:zS) (hb:BG P) (m:List Int) (hm:m.length ≤ 1048576) (x:zM) (hx:x.Point.length ≤ 1048576):M.spec_InstanceValue P m x=some (ivF P m x):=by
  unfold M.spec_InstanceValue ivF;rw [specMem P hb m hm];cases hmb:memB P m with
  | false=>simp
  | true =>
    have hv:validP P=true:=by simp only [memB,bA] at hmb; exact hmb.1
    rw [specIs P hb x hx];cases hi:isB P x with
    | false=>simp
    | true =>
      have h:=zJQ hb hv hi;obtain ⟨d,hd⟩:=h.st;have hvl:=specVal P.Arrays m x.Point h.pt (zHi hb hv) 5 (stI P x).Value (dD hd).2.1 (rd_in hmb h);simp [h.idxP,h.idxS,hvl]
end Go.LN
namespace Go.LN
theorem drawIV (code:List UInt8):Ok (M.spec_DrawInstanceValue code) (fun y=>BG y.1∧y.2.1.length ≤ 145∧y.2.2.Point.length ≤ 100):=by
  unfold M.spec_DrawInstanceValue;refine Ok.call (zI8 code) trivial fun s hs=>Ok.call (zIw s) ⟨by omega,by omega⟩ fun a t g1 g2 g3=>?_;refine Ok.bind (mut4 t a g1.dp (by omega) (by omega)) fun p hp=>?_;obtain ⟨P,r⟩:=p;refine Ok.bind (drawMem1 r P hp.1.1 hp.2) fun q hq=>?_;obtain ⟨l,r2⟩:=q;refine Ok.bind (bend_ok r2 l hq.1 hq.2.1 hq.2.2) fun w hw=>?_;obtain ⟨l2,r3⟩:=w;obtain ⟨w1,w2,w3⟩:=hw;refine Ok.bind (zJS r3 P hp.1.1 w2 w3) fun o ho=>?_;obtain ⟨x,r4⟩:=o;exact Ok.pure ⟨hp.1.1,w1,ho⟩
end Go.LN
namespace Go.LN
def icF (P:zS) (x:zM):List Int×Int×Bool:=if validP P && isB P x then (rdI P x,wrI P x,true) else ([],0,false)
theorem implIC (P:zS) (hb:BG P) (x:zM) (hx:x.Point.length ≤ 1048576):jJ P x=some (icF P x):=by
  unfold jJ icF;rw [implValidP P hb];cases hv:validP P with
  | false=>simp
  | true =>
    rw [implIs P hb x hx];cases hi:isB P x with
    | false=>simp
    | true=>simp [touchedV hb hv (zJQ hb hv hi)]
theorem list_stL (m:List Int):m=stL m.length fun i=>m.getD i 0:=by
  refine List.ext_getElem (by rw [stL_len]) fun i h1 h2=>?_;rw [stL_at];simp [h1]
theorem stL_getD {n k:Nat}{g:Nat→Int}:(stL n g).getD k 0=if k < n then g k else 0:=by
  rw [List.getD_eq_getElem?_getD];by_cases h:k < n
  · rw [List.getElem?_eq_getElem (by rw [stL_len]; exact h),stL_at,if_pos h]; rfl
  · rw [List.getElem?_eq_none (by rw [stL_len]; omega),if_neg h]; rfl
def othF (more:List UInt8) (v:Int):Int:=(W (W (v + 1) + ((more.length:Int).tmod 7))).tmod 1000
theorem oth_val {more:List UInt8}{v:Int} (h:valB v=true):valB (othF more v)=true:=by
  simp only [valB,bA,decide_eq_true_eq] at h ⊢;have h1:=Int.tmod_lt_of_pos (more.length:Int) (show (0:Int) < 7 by omega);have h2:0 ≤ (more.length:Int).tmod 7:=Int.tmod_nonneg 7 (by omega);unfold othF;rw [sF (show -9223372036854775808 ≤ v + 1 by omega) (by omega),sF (by omega) (by omega)];have h3:=Int.tmod_lt_of_pos (v + 1 + (more.length:Int).tmod 7) (show (0:Int) < 1000 by omega);have h4:0 ≤ (v + 1 + (more.length:Int).tmod 7).tmod 1000:=Int.tmod_nonneg 1000 (by omega);omega
theorem oth_l1 (more:List UInt8) {n:Nat} (hn:n ≤ 1000000) (g:Nat→Int):∀ (j i:Nat),i + j=n→M.laws_FnInstanceReads_l1 more (stL n fun x=>if x < i then othF more (g x) else g x) (i:Int)=some (stL n fun x=>othF more (g x)):=by
  intro j
  induction j with
  | zero =>
    intro i hi;rw [M.laws_FnInstanceReads_l1];have:¬((i:Int) < ((stL n fun x=>if x < i then othF more (g x) else g x).length:Int)):=by rw [stL_len]; omega
    simp only [this,dF,bF,if_false,oP,id];exact congrArg some (stL_congr fun x hx=>by rw [if_pos (by omega)])
  | succ j ih =>
    intro i hi;rw [M.laws_FnInstanceReads_l1];have hc:((i:Int) < ((stL n fun x=>if x < i then othF more (g x) else g x).length:Int)):=by rw [stL_len]; omega
    have hlt:i < n:=by omega
    simp only [hc,dT,if_true,stL_get hlt,Nat.lt_irrefl,if_false,oB,oS,oP,iN,stL_set hlt];rw [tL (show i < 9223372036854775807 by omega),← ih (i + 1) (by omega)]
    congr 1
    refine stL_congr fun x hx=>?_;unfold upd;by_cases e:x=i
    · rw [if_pos e,if_pos (by omega),e]; rfl
    · rw [if_neg e];dsimp only;by_cases e2:x < i
      · rw [if_pos e2,if_pos (by omega)]
      · rw [if_neg e2,if_neg (by omega)]
def rstF (g0:Nat→Int) (g:Nat→Int) (c:Int):Nat→Int:=upd g c.toNat (g0 c.toNat)
theorem rst_fold (g0:Nat→Int) (x:Nat):∀ (L:List Int) (g:Nat→Int),L.foldl (rstF g0) g x=if (L.any fun c=>c.toNat == x)=true then g0 x else g x
  | [],g=>rfl
  | c::L,g=>by
    rw [List.foldl_cons,rst_fold g0 x L,List.any_cons]
    unfold rstF upd
    by_cases e:c.toNat=x
    · have e1:(c.toNat == x)=true:=by simpa using e
      rw [e1,Bool.true_or,if_pos (c:=true=true) rfl,if_pos (c:=x=c.toNat) e.symm,e]
      split <;> rfl
    · have e1:(c.toNat == x)=false:=by simpa using e
      rw [e1,Bool.false_or,if_neg (c:=x=c.toNat) fun h=>e h.symm]
theorem rst_l2 {n:Nat}{m:List Int} (hm:m.length=n) (hn:n ≤ 1000000) {L:List Int} (hL:∀ c ∈ L,0 ≤ c∧c < (n:Int)) (hl:L.length ≤ 1000000):∀ (j q:Nat) (g:Nat→Int),q + j=L.length→M.laws_FnInstanceReads_l2 m L (stL n g) (q:Int)=some (stL n ((L.drop q).foldl (rstF fun i=>m.getD i 0) g)):=by
  intro j
  induction j with
  | zero =>
    intro q g hq;rw [M.laws_FnInstanceReads_l2];have:¬((q:Int) < (L.length:Int)):=by omega
    simp only [this,dF,bF,if_false,oP,id];rw [dN.2 (by omega)]; rfl
  | succ j ih =>
    intro q g hq;rw [M.laws_FnInstanceReads_l2];have hlt:q < L.length:=by omega
    have hc:((q:Int) < (L.length:Int)):=by omega
    obtain ⟨c,hcc⟩:∃ c:Nat,L[q]=(c:Int):=⟨L[q].toNat,by have:=hL _ (gM hlt); omega⟩;have hcn:c < n:=by have:=hL _ (gM hlt); omega
    have hg:m[c]'(by omega)=m.getD c 0:=by simp [show c < m.length by omega]
    rw [gC hlt,List.foldl_cons];have es:rstF (fun i=>m.getD i 0) g L[q]=upd g c (m.getD c 0):=by unfold rstF; rw [hcc,iN]
    rw [es];simp only [hc,dT,if_true,xB hlt,hcc,xB (show c < m.length by omega),hg,stL_get hcn,oB,oS,oP,iN,stL_set hcn];rw [tL (show q < 9223372036854775807 by omega)];exact ih (q + 1) _ (by omega)
theorem law_InstanceReads (code more:List UInt8):∃ r,M.laws_FnInstanceReads code more=some r∧r=true:=by
  obtain ⟨⟨P,m,x⟩,hy,hb,hm,hx⟩:=drawIV code;dsimp only at hb hm hx;unfold M.laws_FnInstanceReads;refine ⟨true,?_,rfl⟩;by_cases h1:(code.length:Int) > 1048576
  · simp [h1]
  · by_cases h2:(more.length:Int) > 1048576
    · simp [h1,h2]
    · simp only [h1,h2,dF,bF,if_false,hy,implIV P hb m (by omega) x (by omega),specIV P hb m (by omega) x (by omega),implIC P hb x (by omega),oP,oB,oS,id];unfold ivF icF;cases hc:(memB P m && isB P x) with
      | false=>simp
      | true =>
        rw [bA] at hc;obtain ⟨hmb,hi⟩:=hc;have hmb':=hmb;simp only [memB,bA,decide_eq_true_eq] at hmb';obtain ⟨hv,hml,hmv⟩:=hmb';have h:=zJQ hb hv hi;obtain ⟨d,hd⟩:=h.st;have hrl:=zJP h;have hrr:=(rdI_rng hv h).1;have happ:app 8 ([]:List Int) m=some m:=by rw [oX (by simp; omega)]; rfl
        have e0:(stL m.length fun x=>if x < 0 then othF more (m.getD x 0) else m.getD x 0)=m:=by
          rw [stL_congr (g:=fun i=>m.getD i 0) fun x hx=>by rw [if_neg (by omega)]];exact (list_stL m).symm
        have o1:=oth_l1 more (show m.length ≤ 1000000 by omega) (fun i=>m.getD i 0) m.length 0 (Nat.zero_add _);rw [e0,nZ] at o1;have o2:=rst_l2 (m:=m) rfl (by omega) (L:=rdI P x) (fun c hc=>by have:=hrr c hc; omega) (by omega) _ 0 (fun x=>othF more (m.getD x 0)) (Nat.zero_add _);rw [nZ,List.drop_zero] at o2;generalize hh:(rdI P x).foldl (rstF fun i=>m.getD i 0) (fun x=>othF more (m.getD x 0))=g at o2;have hg:∀ k,g k=if ((rdI P x).any fun c=>c.toNat == k)=true then m.getD k 0 else othF more (m.getD k 0):=fun k=>by rw [← hh,rst_fold]
        have hvm:∀ k,k < m.length→valB (m.getD k 0)=true:=fun k hk=>by
          have:m.getD k 0=m[k]:=by simp [hk]
          rw [this]; exact List.all_eq_true.1 hmv _ (gM hk)
        have hmo:memB P (stL m.length g)=true:=by
          unfold memB;rw [hv,stL_len,Bool.true_and,bA,decide_eq_true_eq,List.all_eq_true];refine ⟨hml,fun v hv2=>?_⟩;obtain ⟨k,hk,rfl⟩:=List.mem_map.1 hv2;have hk:=List.mem_range.1 hk;rw [hg];split
          · exact hvm k hk
          · exact oth_val (hvm k hk)
        have hev:evF P.Arrays (stL m.length g) x.Point 5 (stI P x).Value=evF P.Arrays m x.Point 5 (stI P x).Value:=by
          refine evF_congr 5 _ (dD hd).2.1 fun a ha=>?_;have hmem:cellA P.Arrays x.Point a ∈ rdI P x:=List.mem_map.2 ⟨a,ha,rfl⟩;have hr:=hrr _ hmem;rw [stL_getD,if_pos (by omega),hg,if_pos];rw [List.any_eq_true];exact ⟨_,hmem,by simp⟩
        have hiv:M.impl_InstanceValue P (stL m.length g) x=some (evF P.Arrays m x.Point 5 (stI P x).Value,true):=by
          rw [implIV P hb _ (by rw [stL_len]; omega) x (by omega)];unfold ivF;rw [hmo,hi,Bool.and_self,if_pos rfl,hev]
        rw [hv,hi,Bool.and_self,if_pos rfl];simp only [if_true,happ,o1,o2,hiv,bQ,bne_self_eq_false,bT,bF,if_false,oS]
end Go.LN
