/- Helper of the proof (see the last text). -/
import Derived.Test.YtpacccdphbhfbaaGreatHM1
set_option linter.unusedVariables false
set_option linter.unusedSimpArgs false
namespace Go.LN
open Go.Proofs
set_option maxRecDepth 20000
def zP (r:Bool):KT:=fun kk I' hs' v=>
  ∃ v0,hs'=[]∧v=tupV [v0]∧v0=.bool r
def wL (x:zN) (k0:Int):Option (Out Unit (Bool)):=do
 if (decide (k0 < (x.Dims.length:Int))) then
  let t77←(do
    let x2←idx x.Dims k0
    if (decide (x2 < 1)) then
     pure true
    else
     let x3←idx x.Dims k0
     pure (decide (x3 > 6))
      : Option Bool)
  if t77 then
   pure (.ret false)
  else
   wL x (W (k0 + 1))
 else
  pure (.done ())
 partial_fixpoint
theorem zAP (x:zN):∀ (k0:Int) (o:Out Unit (Bool)),wL x k0=some o→∀ {B}{I0 I:Imm}{Q}{list:(List zN)}{i:Int}{p c p1 c1}{b:Nat},I0.le I→(S4 I p list c)→(S4 I p1 x.Dims c1)→NG Q→NO Q→(∀ (I':Imm) ,o=(.done ())→I0.le I'→T 81 B Q (.exit 2) I' [] [(0,vS p list c),(3,vI i)])→(∀ r I' hs' m',o=(.ret r)→I0.le I'→RS Tryz.prog Tryz.f144 B (zP  r) I' hs' m'→T 81 B Q .ret I' hs' m')→J Tryz.prog 81 B (nav (bodyOf Tryz.f144) [1,0,1,0,0,1,0,0,1,1,1,0]) Q I [hB b (cArr x p1 c1)] [(0,vS p list c),(3,vI i),(4,vP b 0),(5,vI k0)]:=by
 refine wL.partial_correctness x _ fun self ih k0 o N B I0 I Q list i p c p1 c1 b H h h1 hg ho hx hr=>xH hg ho<|yA<|yG<|yL [0] [61] rfl<|zI<|yH N ?_ ?_
 · intro hc9 N;refine zT<|yE<|yN<|yA ?_;refine wI N [hB b (cArr x p1 c1)] (fun t77=>[(0,vS p list c),(3,vI i),(4,vP b 0),(5,vI k0),(77,.bool t77)]) (fun o01 ho01=>?_) ?_
   · have H:=iS I;refine zM<|yF 3 [0] [65,66] rfl ?_;obtain ⟨x2,hy2,N⟩:=zC ho01;refine wF rfl rfl h1 hy2 ?_;intro ad2 ccs2 hat2 hrep2;obtain rfl:=hrep2;refine xT 0 hat2 [vI x2] (vI x2) rfl<|yF 7 [] [70] rfl<|xP [70] N ?_ ?_
     · intro hc10 N;exact wC [] [(77,vY)]<|yM<|zR (ct N H)
     intro hc10 N;refine yF 10 [0] [72,73] rfl<|bE N fun x3 hy3 N=>wF rfl rfl h1 hy3 ?_;intro ad3 ccs3 hat3 hrep3;obtain rfl:=hrep3;exact xT 0 hat3 [vI x3] (vI x3) rfl<|yL [] [77] rfl<|yM<|zR (ct N H)
   intro t77 I01 le1 hMc1;have ⟨h,h1,H⟩:=m3 le1 h h1 H;refine zI<|yH hMc1 ?_ ?_
   · intro hc11 N;exact uA [(2,vF)]<|xE<|zV<|zH<|zH<|hr _ _ _ _ (zB N).symm H ⟨_,_,(.tmp rfl ResV.nil),zL,⟨_,rfl,rfl,rfl⟩⟩
   intro hc11 N;exact zT<|zQ<|zI<|zM<|yL [] [5] rfl<|xF<|mJ<|ih (W (k0 + 1)) _ N H h h1 hg ho hx hr
 intro hc9 N;exact tS<|xQ zL<|yM<|hx _  (zB N).symm H
def wW (list:(List zN)) (i:Int):Option (Out Unit (Bool)):=do
 if (decide (i < (list.length:Int))) then
  let x←idx list i
  let t56←(do
    if ((x.Name.l.length:Int) != 1) then
     pure true
    else
     if (Op.bytesLess x.Name.l ([65]:List UInt8)) then
      pure true
     else
      if (!(Op.bytesLess x.Name.l ([68]:List UInt8) || x.Name.l == ([68]:List UInt8))) then
       pure true
      else
       if (decide (i > 0)) then
        let x1←idx list (W (i - 1))
        if (!(Op.bytesLess x1.Name.l x.Name.l)) then
         pure true
        else
         if (decide ((x.Dims.length:Int) < 1)) then
          pure true
         else
          pure (decide ((x.Dims.length:Int) > 2))
       else
        if (decide ((x.Dims.length:Int) < 1)) then
         pure true
        else
         pure (decide ((x.Dims.length:Int) > 2))
      : Option Bool)
  if t56 then
   pure (.ret false)
  else
   match←wL x 0 with
   | .ret r0=>pure (.ret r0)
   | .done _ =>
    wW list (W (i + 1))
 else
  pure (.done ())
 partial_fixpoint
theorem zAQ (list:(List zN)):∀ (i:Int) (o:Out Unit (Bool)),wW list i=some o→∀ {B}{I0 I:Imm}{Q p c},I0.le I→(S4 I p list c)→NG Q→NO Q→(∀ (I':Imm) ,o=(.done ())→I0.le I'→T 81 B Q (.exit 0) I' [] [(0,vS p list c)])→(∀ r I' hs' m',o=(.ret r)→I0.le I'→RS Tryz.prog Tryz.f144 B (zP  r) I' hs' m'→T 81 B Q .ret I' hs' m')→J Tryz.prog 81 B (nav (bodyOf Tryz.f144) [1,0,1,0]) Q I [] [(0,vS p list c),(3,vI i)]:=by
 refine wW.partial_correctness list _ fun self ih i o N B I0 I Q p c H h hg ho hx hr=>xH hg ho<|yA<|yO [9] rfl<|zI<|yH N ?_ ?_
 · intro hc N;refine zT<|yE<|yN<|yG<|yF 2 [] [12,13] rfl<|bE N fun x hy N=>wF rfl rfl h hy ?_;intro ad ccs hat hrep;obtain ⟨p1,c1,rfl,h1⟩:=sK hrep;refine xT 0 hat (cArr x p1 c1) (vA (cArr x p1 c1)) rfl<|wK [vT ([]),z0] ?_;intro b hb;refine yZ 0 (cArr x p1 c1) rfl<|zZ rfl<|yE<|yA ?_;refine wI N [hB b (cArr x p1 c1)] (fun t56=>[(0,vS p list c),(3,vI i),(4,vP b 0),(56,.bool t56)]) (fun o0 ho0=>?_) ?_
   · have H:=iS I;refine mU (by kernel_rfl) (by kernel_rfl)<|gN 5 [0] [20] rfl<|zDP [20] ho0 ?_ ?_
     · intro hc1 N;exact zFt [] [(56,vY)]<|yM<|zR (ct N H)
     intro hc1 N;refine gN 10 [0] [25] rfl<|zDP [25] N ?_ ?_
     · intro hc2 N;exact zFt [] [(56,vY)]<|yM<|zR (ct N H)
     intro hc2 N;refine gN 15 [0] [30] rfl<|zDP [30] N ?_ ?_
     · intro hc3 N;exact zFt [] [(56,vY)]<|yM<|zR (ct N H)
     intro hc3 N;refine gN 18 [] [33] rfl<|zDP [33] N ?_ ?_
     · intro hc4 N;refine gN 21 [] [34,36] rfl<|bE N fun x1 hy1 N=>dJ rfl rfl h hy1 ?_;intro ad1 ccs1 hat1 hrep1;obtain ⟨p2,c2,rfl,h2⟩:=sK hrep1;refine gN 23 [] [38] rfl<|dI 0 hat1 [vT x1.Name.l] (vT x1.Name.l) rfl<|gN 30 [0] [45] rfl<|zDP [45] N ?_ ?_
       · intro hc5 N;exact zFt [] [(56,vY)]<|yM<|zR (ct N H)
       intro hc5 N;refine gN 36 [0] [51] rfl<|zDP [51] N ?_ ?_
       · intro hc6 N;exact zFt [] [(56,vY)]<|yM<|zR (ct N H)
       intro hc6 N;exact zFQ [0] [56] rfl<|yM<|zR (ct N H)
     intro hc4 N;refine gN 36 [0] [51] rfl<|zDP [51] N ?_ ?_
     · intro hc7 N;exact zFt [] [(56,vY)]<|yM<|zR (ct N H)
     intro hc7 N;exact zFQ [0] [56] rfl<|yM<|zR (ct N H)
   intro t56 I0 le hMc;have ⟨h,h1,H⟩:=m3 le h h1 H;refine zI<|yH hMc ?_ ?_
   · intro hc8 N;exact uA [(2,vF)]<|xE<|zH<|zV<|zH<|zH<|hr _ _ _ _ (zB N).symm H ⟨_,_,(.tmp rfl ResV.nil),zL,⟨_,rfl,rfl,rfl⟩⟩
   intro hc8 N;refine zT<|sI [5] rfl<|uV<|mH [(0,vS p list c),(3,vI i),(4,vP b 0),(5,vI 0)] ?_;obtain ⟨o02,ho02,hMl⟩:=zC N;refine zAP x 0 o02 ho02 iR h h1 (fun _ _ _ h=>hg _ _ _ h) (fun _ _ h=>ho _ _ h) ?_ ?_
   · intro I02  heq2 le2;subst o02;have ⟨h,H⟩:=m2 le2 h H;exact zU<|zQ<|zI<|zM<|yL [] [3] rfl<|xF<|mJ<|ih (W (i + 1)) _ hMl H h hg ho hx hr
   intro r0 I9 hs9 m9 heq9 le9 hrs9;subst heq9;exact zV<|zV<|zH<|zH<|hr _ _ _ _ (zB hMl).symm (H.trans le9) hrs9
 intro hc N;exact tS<|yM<|hx _  (zB N).symm H
def qC (list:(List zN)):Option (Bool):=do
 match←wW list 0 with
 | .ret r0=>pure r0
 | .done _ =>
  pure (decide ((list.length:Int) ≤ 4))
theorem zBu:∀ list r,qC list=some r→∀ {I:Imm}{p c},(S4 I p list c)→RT 144 [vS p list c] I [] (zP  r):=by
 intro list r N I p c h;unfold qC at N;refine yI Tryz.func144 fun B=>uA []<|yE<|yO [3] rfl<|uV<|mH [(0,vS p list c),(3,vI 0)] ?_;obtain ⟨o03,ho03,hMl1⟩:=zC N;refine zAQ list 0 o03 ho03 iR h (fun _ _ _ h=>h) (fun _ _ h=>h) ?_ ?_
 · intro I03  heq3 le3;subst o03;refine zU<|sI [2] rfl<|zI<|yS ?_;obtain rfl:=zB hMl1;exact wM
 intro r0 I9 hs9 m9 heq9 le9 hrs9;subst heq9;refine zV<|zH ?_;obtain rfl:=zB hMl1;exact xB hrs9
def wR (n0:Int) (most:Int):Option (Bool):=do
 let t4←(do
   if (decide (n0 ≥ (W (0 - most)))) then
    pure (decide (n0 ≤ most))
   else
    pure false
     : Option Bool)
 pure (id t4)
theorem kT:∀ n0 most r,wR n0 most=some r→∀ {I:Imm} ,RT 207 [vI n0,vI most] I [] (zP  r):=by
 intro n0 most r N I;unfold wR at N;refine yI Tryz.func207 fun B=>?_;have H:=iS I;refine uA []<|zI<|yA ?_;refine wI N [] (fun t4=>[(4,.bool t4)]) (fun o0 ho0=>?_) ?_
 · have H:=iS I;refine zM<|yF 5 [] [9] rfl<|xP [9] ho0 ?_ ?_
   · intro hc N;exact yL [] [4] rfl<|yM<|zR (ct N H)
   intro hc N;exact wC [] [(4,vF)]<|yM<|zR (ct N H)
 intro t4 I0 le hMc;refine zI<|yS ?_;obtain rfl:=zB hMc;exact wM
def wB (a0:zA) (i:Int):Option (Out Unit (Bool)):=do
 if (decide (i < (a0.Coefs.length:Int))) then
  let x←idx a0.Coefs i
  let y←wR x 9
  if (!y) then
   pure (.ret false)
  else
   wB a0 (W (i + 1))
 else
  pure (.done ())
 partial_fixpoint
theorem eJ (a0:zA):∀ (i:Int) (o:Out Unit (Bool)),wB a0 i=some o→∀ {B}{I0 I:Imm}{Q p c}{b:Nat},I0.le I→(S4 I p a0.Coefs c)→NG Q→NO Q→(∀ (I':Imm) ,o=(.done ())→I0.le I'→T 27 B Q (.exit 0) I' [hB b (cAff a0 p c)] [(1,vP b 0)])→(∀ r I' hs' m',o=(.ret r)→I0.le I'→RS Tryz.prog Tryz.f163 B (zP  r) I' hs' m'→T 27 B Q .ret I' hs' m')→J Tryz.prog 27 B (nav (bodyOf Tryz.f163) [1,0,1,0]) Q I [hB b (cAff a0 p c)] [(1,vP b 0),(3,vI i)]:=by
 refine wB.partial_correctness a0 _ fun self ih i o N B I0 I Q p c b H h hg ho hx hr=>xH hg ho<|yA<|yG<|yL [0] [8] rfl<|zI<|yH N ?_ ?_
 · intro hc N;refine zT<|yE<|yN<|yG<|yF 3 [0] [12,13] rfl<|bE N fun x hy N=>wF rfl rfl h hy ?_;intro ad ccs hat hrep;obtain rfl:=hrep;refine xT 0 hat [vI x] (vI x) rfl<|bE N fun y hy1 N=>uB (kT x 9 _ hy1 ) ?_;intro I0 le;have ⟨h,H⟩:=m2 le h H;refine yL [] [17] rfl<|zI<|yH N ?_ ?_
   · intro hc1 N;exact uA [(2,vF)]<|xE<|zV<|zH<|zH<|hr _ _ _ _ (zB N).symm H ⟨_,_,(.tmp rfl ResV.nil),zL,⟨_,rfl,rfl,rfl⟩⟩
   intro hc1 N;exact zT<|zQ<|zI<|zM<|yL [] [3] rfl<|xF<|mJ<|ih (W (i + 1)) _ N H h hg ho hx hr
 intro hc N;exact tS<|yM<|hx _  (zB N).symm H
def wX (a0:zA):Option (Bool):=do
 match←wB a0 0 with
 | .ret r0=>pure r0
 | .done _ =>
  let t2←(do
    if ((a0.Coefs.length:Int) == 4) then
     let y1←wR a0.Const 99
     pure (id y1)
    else
     pure false
      : Option Bool)
  pure (id t2)
theorem oF:∀ a0 r,wX a0=some r→∀ {I:Imm}{p c},(S4 I p a0.Coefs c)→RT 163 [vA (cAff a0 p c)] I [] (zP  r):=by
 intro a0 r N I p c h;unfold wX at N;refine yI Tryz.func163 fun B=>?_;have H:=iS I;refine yG<|uG (cAff a0 p c) ?_;intro b hb;refine wC [] []<|yE<|yO [3] rfl<|uV<|mH [(1,vP b 0),(3,vI 0)] ?_;obtain ⟨o0,ho0,hMl⟩:=zC N;refine eJ a0 0 o0 ho0 iR h (fun _ _ _ h=>h) (fun _ _ h=>h) ?_ ?_
 · intro I01  heq le1;subst o0;have H:=H.trans le1;refine zU<|zI<|yA ?_;refine wI hMl [] (fun t2=>[(2,.bool t2)]) (fun o01 ho01=>?_) ?_
   · have H:=iS I01;refine zM<|yF 5 [0] [22] rfl<|xP [22] ho01 ?_ ?_
     · intro hc2 N;refine yF 7 [0] [24] rfl<|bE N fun y1 hy2 N=>uB (kT a0.Const 99 _ hy2 ) ?_;intro I03 le2;have H:=H.trans le2;exact yL [] [2] rfl<|xQ zL<|yM<|zR (ct N H)
     intro hc2 N;exact wC [] [(2,vF)]<|xQ zL<|yM<|zR (ct N H)
   intro t2 I02 le3 hMc;refine zI<|yS ?_;obtain rfl:=zB hMc;exact wM
 intro r0 I9 hs9 m9 heq9 le9 hrs9;subst heq9;refine zV<|zH ?_;obtain rfl:=zB hMl;exact xB hrs9
def xO (r:Int):KT:=fun kk I' hs' v=>
  ∃ v0,hs'=[]∧v=tupV [v0]∧v0=.int .i64 r
def vQ (a0:zA) (n0:Int) (i:Int):Option (Int):=do
 if (decide (i < (a0.Coefs.length:Int))) then
  let x←idx a0.Coefs i
  let n02←(do
    if (x != 0) then
     pure (W (i + 1))
    else
     pure (id n0)
      : Option Int)
  vQ a0 n02 (W (i + 1))
 else
  pure (id n0)
 partial_fixpoint
theorem zAd (a0:zA):∀ (n0:Int) (i:Int) (o:Int),vQ a0 n0 i=some o→∀ {B}{I0 I:Imm}{Q p c}{b:Nat},I0.le I→(S4 I p a0.Coefs c)→NG Q→NO Q→(∀ (I':Imm) (n01:Int),o=n01→I0.le I'→T 21 B Q (.exit 0) I' [] [(3,vI n01)])→J Tryz.prog 21 B (nav (bodyOf Tryz.f164) [1,1,0,1,0]) Q I [hB b (cAff a0 p c)] [(1,vP b 0),(3,vI n0),(4,vI i)]:=by
 refine vQ.partial_correctness a0 _ fun self ih n0 i o N B I0 I Q p c b H h hg ho hx=>xH hg ho<|yA<|yG<|yL [0] [9] rfl<|zI<|yH N ?_ ?_
 · intro hc N;refine zT<|yE<|yN<|yG<|yF 3 [0] [13,14] rfl<|bE N fun x hy N=>wF rfl rfl h hy ?_;intro ad ccs hat hrep;obtain rfl:=hrep;refine xT 0 hat [vI x] (vI x) rfl<|yL [] [17] rfl<|zI ?_;refine wI N [hB b (cAff a0 p c)] (fun n02=>[(1,vP b 0),(3,vI n02),(4,vI i)]) (fun o0 ho0=>?_) ?_
   · have H:=iS I;refine yH ho0 ?_ ?_
     · intro hc1 N;exact zM<|yL [] [3] rfl<|yM<|zR (ct N H)
     intro hc1 N;exact zT<|yM<|zR (ct N H)
   intro n02 I0 le hMc;have ⟨h,H⟩:=m2 le h H;exact zQ<|zI<|zM<|yL [] [4] rfl<|xF<|mJ<|ih n02 (W (i + 1)) _ hMc H h hg ho hx
 intro hc N;exact tS<|xQ zL<|yM<|hx _ _ (zB N).symm H
def sM (a0:zA):Option (Int):=do
 let n01←vQ a0 0 0
 pure (id n01)
theorem jN:∀ a0 r,sM a0=some r→∀ {I:Imm}{p c},(S4 I p a0.Coefs c)→RT 164 [vA (cAff a0 p c)] I [] (xO  r):=by
 intro a0 r N I p c h;unfold sM at N;refine yI Tryz.func164 fun B=>yG<|uG (cAff a0 p c) ?_;intro b hb;refine wC [] []<|sI [3] rfl<|yE<|yO [4] rfl<|uV<|mH [(1,vP b 0),(3,vI 0),(4,vI 0)] ?_;obtain ⟨o01,ho01,hMl⟩:=zC N;refine zAd a0 0 0 o01 ho01 iR h (fun _ _ _ h=>h) (fun _ _ h=>h) ?_;intro I01 n01 heq1 le1;subst o01;refine zU<|sI [2] rfl<|zI<|yS ?_;obtain rfl:=zB hMl;exact wM
def wY (a0:zF) (depth:Int) (i:Int):Option (Out Unit (Bool)):=do
 if (decide (i < (a0.Subs.length:Int))) then
  let t29←(do
    let x←idx a0.Subs i
    let y←wX x
    if (!y) then
     pure true
    else
     let x1←idx a0.Subs i
     let y1←sM x1
     pure (decide (y1 > depth))
      : Option Bool)
  if t29 then
   pure (.ret false)
  else
   wY a0 depth (W (i + 1))
 else
  pure (.done ())
 partial_fixpoint
theorem zAR (a0:zF) (depth:Int):∀ (i:Int) (o:Out Unit (Bool)),wY a0 depth i=some o→∀ {B}{I0 I:Imm}{Q p c}{b:Nat},I0.le I→(S4 I p a0.Subs c)→NG Q→NO Q→(∀ (I':Imm) ,o=(.done ())→I0.le I'→T 56 B Q (.exit 0) I' [hB b (cAccess a0 p c)] [(2,vP b 0)])→(∀ r I' hs' m',o=(.ret r)→I0.le I'→RS Tryz.prog Tryz.f104 B (zP  r) I' hs' m'→T 56 B Q .ret I' hs' m')→J Tryz.prog 56 B (nav (bodyOf Tryz.f104) [1,0,1,0]) Q I [hB b (cAccess a0 p c)] [(1,vI depth),(2,vP b 0),(5,vI i)]:=by
 refine wY.partial_correctness a0 depth _ fun self ih i o N B I0 I Q p c b H h hg ho hx hr=>xH hg ho<|yA<|yG<|yL [0] [10] rfl<|zI<|yH N ?_ ?_
 · intro hc N;refine zT<|yE<|yN<|yA ?_;refine wI N [hB b (cAccess a0 p c)] (fun t29=>[(1,vI depth),(2,vP b 0),(5,vI i),(29,.bool t29)]) (fun o0 ho0=>?_) ?_
   · have H:=iS I;refine zM<|yF 3 [0] [14,15] rfl ?_;obtain ⟨x,hy,N⟩:=zC ho0;refine wF rfl rfl h hy ?_;intro ad ccs hat hrep;obtain ⟨p1,c1,rfl,h1⟩:=yD hrep;refine xT 0 hat (cAff x p1 c1) (vA (cAff x p1 c1)) rfl<|bE N fun y hy1 N=>uB (oF x _ hy1 h1) ?_;intro I01 le;have ⟨h,H⟩:=m2 le h H;refine yF 8 [] [20] rfl<|xP [20] N ?_ ?_
     · intro hc1 N;exact wC [] [(29,vY)]<|yM<|zR (ct N H)
     intro hc1 N;refine yF 11 [0] [22,23] rfl<|bE N fun x1 hy2 N=>wF rfl rfl h hy2 ?_;intro ad1 ccs1 hat1 hrep1;obtain ⟨p2,c2,rfl,h3⟩:=yD hrep1;refine xT 0 hat1 (cAff x1 p2 c2) (vA (cAff x1 p2 c2)) rfl<|bE N fun y1 hy3 N=>fQ (jN x1 _ hy3 h3) ?_;intro I02 le1;have H:=H.trans le1;exact yL [] [29] rfl<|yM<|zR (ct N H)
   intro t29 I0 le2 hMc;have ⟨h,H⟩:=m2 le2 h H;refine zI<|yH hMc ?_ ?_
   · intro hc2 N;exact uA [(4,vF)]<|xE<|zV<|zH<|zH<|hr _ _ _ _ (zB N).symm H ⟨_,_,(.tmp rfl ResV.nil),zL,⟨_,rfl,rfl,rfl⟩⟩
   intro hc2 N;exact zT<|zQ<|zI<|zM<|yL [] [5] rfl<|xF<|mJ<|ih (W (i + 1)) _ N H h hg ho hx hr
 intro hc N;exact tS<|yM<|hx _  (zB N).symm H
def sY (a0:zF) (depth:Int):Option (Bool):=do
 match←wY a0 depth 0 with
 | .ret r0=>pure r0
 | .done _ =>
  let t4←(do
    if ((a0.Array.l.length:Int) == 1) then
     if (!(Op.bytesLess a0.Array.l ([65]:List UInt8))) then
      if (Op.bytesLess a0.Array.l ([68]:List UInt8) || a0.Array.l == ([68]:List UInt8)) then
       if (decide ((a0.Subs.length:Int) ≥ 1)) then
        pure (decide ((a0.Subs.length:Int) ≤ 2))
       else
        pure false
      else
       pure false
     else
      pure false
    else
     pure false
      : Option Bool)
  pure (id t4)
theorem fS:∀ a0 depth r,sY a0 depth=some r→∀ {I:Imm}{p c},(S4 I p a0.Subs c)→RT 104 [vA (cAccess a0 p c),vI depth] I [] (zP  r):=by
 intro a0 depth r N I p c h;unfold sY at N;refine yI Tryz.func104 fun B=>?_;have H:=iS I;refine yG<|uG (cAccess a0 p c) ?_;intro b hb;refine wC [] []<|yE<|yO [5] rfl<|uV<|mH [(1,vI depth),(2,vP b 0),(5,vI 0)] ?_;obtain ⟨o01,ho01,hMl⟩:=zC N;refine zAR a0 depth 0 o01 ho01 iR h (fun _ _ _ h=>h) (fun _ _ h=>h) ?_ ?_
 · intro I03  heq1 le3;subst o01;have H:=H.trans le3;refine zU<|zI<|yA ?_;refine wI hMl [] (fun t4=>[(4,.bool t4)]) (fun o02 ho02=>?_) ?_
   · have H:=iS I03;refine zM<|yF 5 [0] [34] rfl<|xP [34] ho02 ?_ ?_
     · intro hc3 N;refine yF 10 [0] [39] rfl<|xP [39] N ?_ ?_
       · intro hc4 N;refine yF 15 [0] [44] rfl<|xP [44] N ?_ ?_
         · intro hc5 N;refine yF 21 [0] [50] rfl<|xP [50] N ?_ ?_
           · intro hc6 N;exact yL [0] [4] rfl<|xQ zL<|yM<|zR (ct N H)
           intro hc6 N;exact wC [] [(4,vF)]<|xQ zL<|yM<|zR (ct N H)
         intro hc5 N;exact wC [] [(4,vF)]<|xQ zL<|yM<|zR (ct N H)
       intro hc4 N;exact wC [] [(4,vF)]<|xQ zL<|yM<|zR (ct N H)
     intro hc3 N;exact wC [] [(4,vF)]<|xQ zL<|yM<|zR (ct N H)
   intro t4 I04 le4 hMc1;refine zI<|yS ?_;obtain rfl:=zB hMc1;exact wM
 intro r0 I9 hs9 m9 heq9 le9 hrs9;subst heq9;refine zV<|zH ?_;obtain rfl:=zB hMl;exact xB hrs9
def pP (kind:Int):Option (Int):=do
 let t4←(do
   if (kind == 1) then
    pure (kind == 1)
   else
    let t41←(do
      if (kind == 2) then
       pure (kind == 2)
      else
       pure (kind == 3)
        : Option Bool)
    pure (id t41)
     : Option Bool)
 if t4 then
  pure (id 0)
 else
  let t8←(do
    if (kind == 4) then
     pure (kind == 4)
    else
     let t81←(do
       if (kind == 5) then
        pure (kind == 5)
       else
        pure (kind == 6)
         : Option Bool)
     pure (id t81)
      : Option Bool)
  if t8 then
   pure (id 2)
  else
   pure (-1)
theorem dO:∀ kind r,pP kind=some r→∀ {I:Imm} ,RT 165 [vI kind] I [] (xO  r):=by
 intro kind r N I;unfold pP at N;refine yI Tryz.func165 fun B=>?_;have H:=iS I;refine uA []<|yE<|yO [3] rfl<|uV<|yA<|yO [4] rfl<|zI ?_;refine wI N [] (fun t4=>[(3,vI kind),(4,.bool t4)]) (fun o0 ho0=>?_) ?_
 · have H:=iS I;refine yH ho0 ?_ ?_
   · intro hc N;exact zT<|yM<|zR (ct N H)
   intro hc N;refine yO [4] rfl<|zI ?_;refine wI N [] (fun t41=>[(3,vI kind),(4,.bool t41)]) (fun o01 ho01=>?_) ?_
   · have H:=iS I;refine yH ho01 ?_ ?_
     · intro hc1 N;exact zT<|yM<|zR (ct N H)
     intro hc1 N;exact zM<|yL [] [4] rfl<|yM<|zR (ct N H)
   intro t41 I01 le hMc1;have H:=H.trans le;exact yM<|zR (ct hMc1 H)
 intro t4 I0 le1 hMc;have H:=H.trans le1;refine zI<|yH hMc ?_ ?_
 · intro hc2 N;refine yO [2] rfl<|xE<|zV<|zH ?_;obtain rfl:=zB N;exact wM
 intro hc2 N;refine yA<|yO [8] rfl<|zI ?_;refine wI N [] (fun t8=>[(8,.bool t8)]) (fun o02 ho02=>?_) ?_
 · have H:=iS I0;refine yH ho02 ?_ ?_
   · intro hc3 N;exact zT<|yM<|zR (ct N H)
   intro hc3 N;refine yO [8] rfl<|zI ?_;refine wI N [] (fun t81=>[(8,.bool t81)]) (fun o03 ho03=>?_) ?_
   · have H:=iS I0;refine yH ho03 ?_ ?_
     · intro hc4 N;exact zT<|yM<|zR (ct N H)
     intro hc4 N;exact zM<|yL [] [8] rfl<|yM<|zR (ct N H)
   intro t81 I03 le2 hMc3;have H:=H.trans le2;exact yM<|zR (ct hMc3 H)
 intro t8 I02 le3 hMc2;refine zI<|yH hMc2 ?_ ?_
 · intro hc5 N;refine yO [2] rfl<|xE<|zV<|zH ?_;obtain rfl:=zB N;exact wM
 intro hc5 N;refine zT<|zQ<|sI [2] rfl<|zI<|yS ?_;obtain rfl:=zB N;exact wM
def sN (a0:zF):Option (Bool):=do
 let t2←(do
   if (a0.Array.l == ([]:List UInt8)) then
    pure ((a0.Subs.length:Int) == 0)
   else
    pure false
     : Option Bool)
 pure (id t2)
theorem jO:∀ a0 r,sN a0=some r→∀ {I:Imm}{p c},(S4 I p a0.Subs c)→RT 208 [vA (cAccess a0 p c)] I [] (zP  r):=by
 intro a0 r N I p c h;unfold sN at N;refine yI Tryz.func208 fun B=>?_;have H:=iS I;refine yG<|uG (cAccess a0 p c) ?_;intro b hb;refine wC [] []<|zI<|yA ?_;refine wI N [] (fun t2=>[(2,.bool t2)]) (fun o0 ho0=>?_) ?_
 · have H:=iS I;refine zM<|yF 4 [0] [6] rfl<|xP [6] ho0 ?_ ?_
   · intro hc N;exact yL [0] [2] rfl<|xQ zL<|yM<|zR (ct N H)
   intro hc N;exact wC [] [(2,vF)]<|xQ zL<|yM<|zR (ct N H)
 intro t2 I0 le hMc;refine zI<|yS ?_;obtain rfl:=zB hMc;exact wM
def rX (a0:zA):Option (Bool):=do
 let t2←(do
   if ((a0.Coefs.length:Int) == 0) then
    pure (a0.Const == 0)
   else
    pure false
     : Option Bool)
 pure (id t2)
theorem gD:∀ a0 r,rX a0=some r→∀ {I:Imm}{p c},(S4 I p a0.Coefs c)→RT 209 [vA (cAff a0 p c)] I [] (zP  r):=by
 intro a0 r N I p c h;unfold rX at N;refine yI Tryz.func209 fun B=>?_;have H:=iS I;refine yG<|uG (cAff a0 p c) ?_;intro b hb;refine wC [] []<|zI<|yA ?_;refine wI N [] (fun t2=>[(2,.bool t2)]) (fun o0 ho0=>?_) ?_
 · have H:=iS I;refine zM<|yF 5 [0] [7] rfl<|xP [7] ho0 ?_ ?_
   · intro hc N;exact yL [0] [2] rfl<|xQ zL<|yM<|zR (ct N H)
   intro hc N;exact wC [] [(2,vF)]<|xQ zL<|yM<|zR (ct N H)
 intro t2 I0 le hMc;refine zI<|yS ?_;obtain rfl:=zB hMc;exact wM
def oY (e0:zD) (depth:Int):Option (Bool):=do
 if (e0.Kind == 2) then
  let t4←(do
    if (e0.Num == 0) then
     let y←sN e0.Read
     if y then
      let y1←wX e0.Index
      if y1 then
       let y2←sM e0.Index
       pure (decide (y2 ≤ depth))
      else
       pure false
     else
      pure false
    else
     pure false
      : Option Bool)
  pure (id t4)
 else
  if (e0.Kind == 3) then
   let t41←(do
     if (e0.Num == 0) then
      let y3←rX e0.Index
      if y3 then
       let y4←sY e0.Read depth
       pure (id y4)
      else
       pure false
     else
      pure false
       : Option Bool)
   pure (id t41)
  else
   if (e0.Kind == 1) then
    let t42←(do
      if (decide (e0.Num ≥ 0)) then
       if (decide (e0.Num ≤ 99)) then
        let y5←rX e0.Index
        if y5 then
         let y6←sN e0.Read
         pure (id y6)
        else
         pure false
       else
        pure false
      else
       pure false
        : Option Bool)
    pure (id t42)
   else
    let t43←(do
      if (e0.Num == 0) then
       let y7←rX e0.Index
       if y7 then
        let y8←sN e0.Read
        pure (id y8)
       else
        pure false
      else
       pure false
        : Option Bool)
    pure (id t43)
theorem zDw:∀ e0 depth r,oY e0 depth=some r→∀ {I:Imm}{p c p1 c1 p2 c2},(S4 I p e0.Index.Coefs c)→(S4 I p1 e0.Read.Subs c1)→(S4 I p2 e0.Kids c2)→RT 166 [vA (cExpr e0 p c p1 c1 p2 c2),vI depth] I [] (zP  r):=by
 intro e0 depth r N I p c p1 c1 p2 c2 h h1 h2;unfold oY at N;refine yI Tryz.func166 fun B=>?_;have H:=iS I;refine yG<|uG (cExpr e0 p c p1 c1 p2 c2) ?_;intro b hb;refine wC [] []<|yE<|yG<|yL [0] [7] rfl<|zI<|yH N ?_ ?_
 · intro hc N;refine yA ?_;refine wI N [] (fun t4=>[(4,.bool t4)]) (fun o0 ho0=>?_) ?_
   · have H:=iS I;refine zM<|yF 4 [0] [11] rfl<|xP [11] ho0 ?_ ?_
     · intro hc1 N;refine sH 6 [0] [(13,vA (cAccess e0.Read p1 c1))]<|bE N fun y hy N=>uB (jO e0.Read _ hy h1) ?_;intro I01 le;have ⟨h,H⟩:=m2 le h H;refine yF 9 [] [16] rfl<|xP [16] N ?_ ?_
       · intro hc2 N;refine sH 11 [0] [(18,vA (cAff e0.Index p c))]<|bE N fun y1 hy1 N=>uB (oF e0.Index _ hy1 h) ?_;intro I02 le1;have ⟨h,H⟩:=m2 le1 h H;refine yF 14 [] [21] rfl<|xP [21] N ?_ ?_
         · intro hc3 N;refine sH 16 [0] [(23,vA (cAff e0.Index p c))]<|bE N fun y2 hy2 N=>fQ (jN e0.Index _ hy2 h) ?_;intro I03 le2;have H:=H.trans le2;exact yL [] [4] rfl<|xQ zL<|yM<|zR (ct N H)
         intro hc3 N;exact wC [] [(4,vF)]<|xQ zL<|yM<|zR (ct N H)
       intro hc2 N;exact wC [] [(4,vF)]<|xQ zL<|yM<|zR (ct N H)
     intro hc1 N;exact wC [] [(4,vF)]<|xQ zL<|yM<|zR (ct N H)
   intro t4 I0 le3 hMc;refine xE<|zH ?_;obtain rfl:=zB hMc;exact wM
 intro hc N;refine zT<|yE<|yG<|yL [0] [30] rfl<|zI<|yH N ?_ ?_
 · intro hc4 N;refine yA ?_;refine wI N [] (fun t41=>[(4,.bool t41)]) (fun o01 ho01=>?_) ?_
   · have H:=iS I;refine zM<|yF 4 [0] [34] rfl<|xP [34] ho01 ?_ ?_
     · intro hc5 N;refine sH 6 [0] [(36,vA (cAff e0.Index p c))]<|bE N fun y3 hy3 N=>uB (gD e0.Index _ hy3 h) ?_;intro I05 le4;have ⟨h1,H⟩:=m2 le4 h1 H;refine yF 9 [] [39] rfl<|xP [39] N ?_ ?_
       · intro hc6 N;refine sH 12 [0] [(41,vA (cAccess e0.Read p1 c1)),(42,vI depth)]<|bE N fun y4 hy4 N=>uB (fS e0.Read depth _ hy4 h1) ?_;intro I06 le5;have H:=H.trans le5;exact yL [] [4] rfl<|xQ zL<|yM<|zR (ct N H)
       intro hc6 N;exact wC [] [(4,vF)]<|xQ zL<|yM<|zR (ct N H)
     intro hc5 N;exact wC [] [(4,vF)]<|xQ zL<|yM<|zR (ct N H)
   intro t41 I04 le6 hMc1;refine xE<|zH ?_;obtain rfl:=zB hMc1;exact wM
 intro hc4 N;refine zT<|yE<|yG<|yL [0] [47] rfl<|zI<|yH N ?_ ?_
 · intro hc7 N;refine yA ?_;refine wI N [] (fun t42=>[(4,.bool t42)]) (fun o02 ho02=>?_) ?_
   · have H:=iS I;refine zM<|yF 4 [0] [51] rfl<|xP [51] ho02 ?_ ?_
     · intro hc8 N;refine yF 9 [0] [56] rfl<|xP [56] N ?_ ?_
       · intro hc9 N;refine sH 11 [0] [(58,vA (cAff e0.Index p c))]<|bE N fun y5 hy5 N=>uB (gD e0.Index _ hy5 h) ?_;intro I08 le7;have ⟨h1,H⟩:=m2 le7 h1 H;refine yF 14 [] [61] rfl<|xP [61] N ?_ ?_
         · intro hc10 N;refine sH 16 [0] [(63,vA (cAccess e0.Read p1 c1))]<|bE N fun y6 hy6 N=>uB (jO e0.Read _ hy6 h1) ?_;intro I09 le8;have H:=H.trans le8;exact yL [] [4] rfl<|xQ zL<|yM<|zR (ct N H)
         intro hc10 N;exact wC [] [(4,vF)]<|xQ zL<|yM<|zR (ct N H)
       intro hc9 N;exact wC [] [(4,vF)]<|xQ zL<|yM<|zR (ct N H)
     intro hc8 N;exact wC [] [(4,vF)]<|xQ zL<|yM<|zR (ct N H)
   intro t42 I07 le9 hMc2;refine xE<|zH ?_;obtain rfl:=zB hMc2;exact wM
 intro hc7 N;refine zT<|zI<|yA ?_;refine wI N [] (fun t43=>[(4,.bool t43)]) (fun o03 ho03=>?_) ?_
 · have H:=iS I;refine zM<|yF 4 [0] [69] rfl<|xP [69] ho03 ?_ ?_
   · intro hc11 N;refine sH 6 [0] [(71,vA (cAff e0.Index p c))]<|bE N fun y7 hy7 N=>uB (gD e0.Index _ hy7 h) ?_;intro I011 le10;have ⟨h1,H⟩:=m2 le10 h1 H;refine yF 9 [] [74] rfl<|xP [74] N ?_ ?_
     · intro hc12 N;refine sH 11 [0] [(76,vA (cAccess e0.Read p1 c1))]<|bE N fun y8 hy8 N=>uB (jO e0.Read _ hy8 h1) ?_;intro I012 le11;have H:=H.trans le11;exact yL [] [4] rfl<|xQ zL<|yM<|zR (ct N H)
     intro hc12 N;exact wC [] [(4,vF)]<|xQ zL<|yM<|zR (ct N H)
   intro hc11 N;exact wC [] [(4,vF)]<|xQ zL<|yM<|zR (ct N H)
 intro t43 I010 le12 hMc3;refine zI<|yS ?_;obtain rfl:=zB hMc3;exact wM
mutual
def uF (e0:zD) (depth:Int) (levels:Int):Option (Bool):=do
 let t24←(do
   if (decide (levels < 1)) then
    pure true
   else
    let y←pP e0.Kind
    if (y != (e0.Kids.length:Int)) then
     pure true
    else
     let y1←oY e0 depth
     pure (!y1)
     : Option Bool)
 if t24 then
  pure false
 else
  match←wT (same e0) (same depth) (same levels) (same 0) with
  | .ret r0=>pure r0
  | .done _ =>
   pure true
 partial_fixpoint
def wT (e0:zD) (depth:Int) (levels:Int) (i:Int):Option (Out Unit (Bool)):=do
 if (decide (i < (e0.Kids.length:Int))) then
  let x←idx e0.Kids i
  let y2←uF (same x) (same depth) (W (levels - 1))
  if (!y2) then
   pure (.ret false)
  else
   wT (same e0) (same depth) (same levels) (W (i + 1))
 else
  pure (.done ())
 partial_fixpoint
end
theorem zBv:(∀ (e0:zD) (depth:Int) (levels:Int) r,uF e0 depth levels=some r→∀ {I:Imm}{p c p1 c1 p2 c2},(S4 I p e0.Index.Coefs c)→(S4 I p1 e0.Read.Subs c1)→(S4 I p2 e0.Kids c2)→RT 105 [vA (cExpr e0 p c p1 c1 p2 c2),vI depth,vI levels] I [] (zP  r))∧(∀ (e0:zD) (depth:Int) (levels:Int) (i:Int) o,wT e0 depth levels i=some o→∀ {B}{I0 I:Imm}{Q p c p1 c1 p2 c2}{b:Nat},I0.le I→(S4 I p e0.Index.Coefs c)→(S4 I p1 e0.Read.Subs c1)→(S4 I p2 e0.Kids c2)→NG Q→NO Q→(∀ (I':Imm) ,o=(.done ())→I0.le I'→T 42 B Q (.exit 0) I' [] [])→(∀ r I' hs' m',o=(.ret r)→I0.le I'→RS Tryz.prog Tryz.f105 B (zP  r) I' hs' m'→T 42 B Q .ret I' hs' m')→J Tryz.prog 42 B (nav (bodyOf Tryz.f105) [1,1,0,1,0]) Q I [hB b (cExpr e0 p c p1 c1 p2 c2)] [(1,vI depth),(2,vI levels),(3,vP b 0),(7,vI i)]):=by
  refine uF.mutual_partial_correctness _ _ ?_ ?_
  · intro F_spec_l3Shape_l1 ih_spec_l3Shape_l1 e0 depth levels r N I p c p1 c1 p2 c2 h h1 h2;refine yI Tryz.func105 fun B=>?_;have H:=iS I;refine yG<|uG (cExpr e0 p c p1 c1 p2 c2) ?_;intro b hb;refine wC [] []<|yE<|yA ?_;refine wI N [hB b (cExpr e0 p c p1 c1 p2 c2)] (fun t24=>[(1,vI depth),(2,vI levels),(3,vP b 0),(24,.bool t24)]) (fun o0 ho0=>?_) ?_
    · have H:=iS I;cases hc:(decide (levels < 1)) with
      | true =>
       have hM0:=vC hc ho0;refine wZ [.p (vI levels) [],.q vY,.q vY,.p undef [],.p undef [],.p undef [],.p undef [],.p undef [],.p undef [],.p undef [],.p vY [],.p vY [],.p undef [],.p undef [],.p undef [],.p undef [],.p vY []] [[],[(0,false)],[(1,false)],[(2,false)],[(2,false),(3,false)],[(2,false),(4,false)],[(2,false)],[(2,false),(6,false)],[(2,false),(7,false)],[(2,false),(5,false),(8,false)],[(2,false),(9,false)],[(10,false)],[(11,false)],[(11,false)],[(11,false),(12,false),(13,false)],[(11,false),(14,false)],[(11,false),(15,false)]] [hB b (cExpr e0 p c p1 c1 p2 c2)] [] [(16,false)] (yB [0]) ?_ ?_
       · refine Op<|Oq ?_<|Oq ?_<|Op<|Op<|Op<|Op<|Op<|Op<|Op<|Op<|Op<|Op<|Op<|Op<|Op<|Op<|On
         · intro I1 hf le1;refine yY [8] rfl<|qE 2 [(9,.bool (decide (levels < 1)))] ?_;rw [hc];exact xC iR
         intro I1 hf le1;exact jM [(9,vY)]<|qE 3 [(10,vY)]<|xC iR
       intro I01 le;refine yY [1,2,3,24] rfl ?_;have H:=H.trans le;exact zZ rfl<|yM<|zR (ct hM0 H)
      | false =>
       have hM01:=wP hc ho0;obtain ⟨y,hy,N⟩:=zC hM01;cases hc1:(y != (e0.Kids.length:Int)) with
       | true =>
        have hM02:=vC hc1 N;refine wZ [.p (vI levels) [],.q vF,.q vF,.p (vP b 0) [],.p (vI e0.Kind) [0],.q (vI y),.p (vP b 6) [],.p (vS p2 e0.Kids c2) [0],.p (vI (e0.Kids.length:Int)) [],.q vY,.q vY,.q vY,.p undef [],.p undef [],.p undef [],.p undef [],.p vY []] [[],[(0,false)],[(1,false)],[(2,false)],[(2,false),(3,false)],[(2,false),(4,false)],[(2,false)],[(2,false),(6,false)],[(2,false),(7,false)],[(2,false),(5,false),(8,false)],[(2,false),(9,false)],[(10,false)],[(11,false)],[(11,false)],[(11,false),(12,false),(13,false)],[(11,false),(14,false)],[(11,false),(15,false)]] [hB b (cExpr e0 p c p1 c1 p2 c2)] [] [(16,false)] (yB [0]) ?_ ?_
        · refine Op<|Oq ?_<|Oq ?_<|Op<|Op<|Oq ?_<|Op<|Op<|Op<|Oq ?_<|Oq ?_<|Oq ?_<|Op<|Op<|Op<|Op<|Op<|On
          · intro I1 hf le1;refine yY [8] rfl<|qE 2 [(9,.bool (decide (levels < 1)))] ?_;rw [hc];exact xC iR
          · intro I1 hf le1;exact jM [(9,vF)]<|qE 3 [(10,vF)]<|xC iR
          · intro I1 hf le1;refine yY [10,12] rfl ?_;have H:=iS I1;refine fQ (dO e0.Kind _ hy ) ?_;intro I02 le1;have H:=H.trans le1;exact xC H
          · intro I1 hf le1;refine yY [10,13,16] rfl<|qE 10 [(17,.bool (y != (e0.Kids.length:Int)))] ?_;rw [hc1];exact xC iR
          · intro I1 hf le1;exact yY [10,17] rfl<|qE 11 [(18,vY)]<|xC iR
          intro I1 hf le1;exact jM [(18,vY)]<|qE 12 [(19,vY)]<|xC iR
        intro I03 le2;refine yY [1,2,3,24] rfl ?_;have H:=H.trans le2;exact zZ rfl<|yM<|zR (ct hM02 H)
       | false =>
        have hM03:=wP hc1 N;obtain ⟨y1,hy1,N⟩:=zC hM03;refine wZ [.p (vI levels) [],.q vF,.q vF,.p (vP b 0) [],.p (vI e0.Kind) [0],.q (vI y),.p (vP b 6) [],.p (vS p2 e0.Kids c2) [0],.p (vI (e0.Kids.length:Int)) [],.q vF,.q vF,.q vF,.p (vA (cExpr e0 p c p1 c1 p2 c2)) [0],.p (vI depth) [],.q (.bool y1),.p (.bool (!y1)) [],.p (.bool (!y1)) []] [[],[(0,false)],[(1,false)],[(2,false)],[(2,false),(3,false)],[(2,false),(4,false)],[(2,false)],[(2,false),(6,false)],[(2,false),(7,false)],[(2,false),(5,false),(8,false)],[(2,false),(9,false)],[(10,false)],[(11,false)],[(11,false)],[(11,false),(12,false),(13,false)],[(11,false),(14,false)],[(11,false),(15,false)]] [hB b (cExpr e0 p c p1 c1 p2 c2)] [] [(16,false)] (yB [0]) ?_ ?_
        · refine Op<|Oq ?_<|Oq ?_<|Op<|Op<|Oq ?_<|Op<|Op<|Op<|Oq ?_<|Oq ?_<|Oq ?_<|Op<|Op<|Oq ?_<|Op<|Op<|On
          · intro I1 hf le1;refine yY [8] rfl<|qE 2 [(9,.bool (decide (levels < 1)))] ?_;rw [hc];exact xC iR
          · intro I1 hf le1;exact jM [(9,vF)]<|qE 3 [(10,vF)]<|xC iR
          · intro I1 hf le1;refine yY [10,12] rfl ?_;have H:=iS I1;refine fQ (dO e0.Kind _ hy ) ?_;intro I02 le1;have H:=H.trans le1;exact xC H
          · intro I1 hf le1;refine yY [10,13,16] rfl<|qE 10 [(17,.bool (y != (e0.Kids.length:Int)))] ?_;rw [hc1];exact xC iR
          · intro I1 hf le1;exact yY [10,17] rfl<|qE 11 [(18,vF)]<|xC iR
          · intro I1 hf le1;exact jM [(18,vF)]<|qE 12 [(19,vF)]<|xC iR
          intro I1 hf le1;refine yY [19,20,21] rfl ?_;have H:=iS I1;have ⟨h,h1,h2⟩:=m3 le1 h h1 h2;refine uB (zDw e0 depth _ hy1 h h1 h2) ?_;intro I04 le3;have H:=H.trans le3;exact xC H
        intro I05 le4;refine yY [1,2,3,24] rfl ?_;have H:=H.trans le4;exact zZ rfl<|yM<|zR (ct N H)
    intro t24 I0 le5 hMc;have ⟨h,h1,h2⟩:=m3 le5 h h1 h2;refine zI<|yH hMc ?_ ?_
    · intro hc2 N;refine uA [(6,vF)]<|xE<|zH ?_;obtain rfl:=zB N;exact wM
    intro hc2 N;refine zT<|yE<|yO [7] rfl<|uV<|mH [(1,vI depth),(2,vI levels),(3,vP b 0),(7,vI 0)] ?_;obtain ⟨o01,ho01,hMl⟩:=zC N;refine ih_spec_l3Shape_l1 e0 depth levels 0 o01 ho01 iR h h1 h2 (fun _ _ _ h=>h) (fun _ _ h=>h) ?_ ?_
    · intro I07  heq1 le7;subst o01;refine zU<|zFP [(6,vY)]<|zI<|yS ?_;obtain rfl:=zB hMl;exact wM
    intro r0 I9 hs9 m9 heq9 le9 hrs9;subst heq9;refine zV<|zH ?_;obtain rfl:=zB hMl;exact xB hrs9
  intro F_spec_l3Shape F_spec_l3Shape_l1 ih_spec_l3Shape ih_spec_l3Shape_l1 e0 depth levels i o N B I0 I Q p c p1 c1 p2 c2 b H h h1 h2 hg ho hx hr;refine xH hg ho<|yA<|yG<|yL [0] [29] rfl<|zI<|yH N ?_ ?_
  · intro hc3 N;refine zT<|yE<|yN<|yG<|yF 3 [0] [33,34] rfl<|bE N fun x hy2 N=>wF rfl rfl h2 hy2 ?_;intro ad ccs hat hrep;obtain ⟨p3,c3,p4,c4,p5,c5,rfl,h5,h6,h7⟩:=yV hrep;refine xT 0 hat (cExpr x p3 c3 p4 c4 p5 c5) (vA (cExpr x p3 c3 p4 c4 p5 c5)) rfl<|yF 8 [] [37,39] rfl<|bE N fun y2 hy3 N=>xM (ih_spec_l3Shape x depth (W (levels - 1)) _ hy3 h5 h6 h7) ?_;rintro I06 hs2 v2 k2 le6 - ⟨v05,rfl,rfl,rfl⟩ -;have ⟨h,h1,h2,H⟩:=m4 le6 h h1 h2 H;refine yL [] [41] rfl<|zI<|yH N ?_ ?_
    · intro hc4 N;exact uA [(6,vF)]<|xE<|zV<|zH<|zH<|hr _ _ _ _ (zB N).symm H ⟨_,_,(.tmp rfl ResV.nil),zL,⟨_,rfl,rfl,rfl⟩⟩
    intro hc4 N;exact zT<|zQ<|zI<|zM<|yL [] [7] rfl<|xF<|mJ<|ih_spec_l3Shape_l1 e0 depth levels (W (i + 1)) _ N H h h1 h2 hg ho hx hr
  intro hc3 N;exact tS<|xQ zL<|yM<|hx _  (zB N).symm H
theorem zC3:∀ e0 depth levels r,uF e0 depth levels=some r→∀ {I:Imm}{p c p1 c1 p2 c2},(S4 I p e0.Index.Coefs c)→(S4 I p1 e0.Read.Subs c1)→(S4 I p2 e0.Kids c2)→RT 105 [vA (cExpr e0 p c p1 c1 p2 c2),vI depth,vI levels] I [] (zP  r):=zBv.1
mutual
def uW (e0:zD) (levels:Int):Option (Int):=do
 let n01←wU (same e0) (same levels) (same 1) (same 0)
 pure (id n01)
 partial_fixpoint
def wU (e0:zD) (levels:Int) (n0:Int) (i:Int):Option (Int):=do
 let t15←(do
   if (decide (i < (e0.Kids.length:Int))) then
    pure (decide (levels > 0))
   else
    pure false
     : Option Bool)
 if t15 then
  let x←idx e0.Kids i
  let y←uW (same x) (W (levels - 1))
  wU (same e0) (same levels) (W (n0 + y)) (W (i + 1))
 else
  pure (id n0)
 partial_fixpoint
end
theorem zBw:(∀ (e0:zD) (levels:Int) r,uW e0 levels=some r→∀ {I:Imm}{p c p1 c1 p2 c2},(S4 I p e0.Index.Coefs c)→(S4 I p1 e0.Read.Subs c1)→(S4 I p2 e0.Kids c2)→RT 106 [vA (cExpr e0 p c p1 c1 p2 c2),vI levels] I [] (xO  r))∧(∀ (e0:zD) (levels:Int) (n0:Int) (i:Int) o,wU e0 levels n0 i=some o→∀ {B}{I0 I:Imm}{Q p c p1 c1 p2 c2}{b:Nat},I0.le I→(S4 I p e0.Index.Coefs c)→(S4 I p1 e0.Read.Subs c1)→(S4 I p2 e0.Kids c2)→NG Q→NO Q→(∀ (I':Imm) (n01:Int),o=n01→I0.le I'→T 29 B Q (.exit 0) I' [] [(5,vI n01)])→J Tryz.prog 29 B (nav (bodyOf Tryz.f106) [1,1,0,1,0]) Q I [hB b (cExpr e0 p c p1 c1 p2 c2)] [(1,vI levels),(2,vP b 0),(5,vI n0),(6,vI i)]):=by
  refine uW.mutual_partial_correctness _ _ ?_ ?_
  · intro F_spec_l3Count_l1 ih_spec_l3Count_l1 e0 levels r N I p c p1 c1 p2 c2 h h1 h2;refine yI Tryz.func106 fun B=>yG<|uG (cExpr e0 p c p1 c1 p2 c2) ?_;intro b hb;refine wC [] []<|sI [5] rfl<|yE<|yO [6] rfl<|uV<|mH [(1,vI levels),(2,vP b 0),(5,vI 1),(6,vI 0)] ?_;obtain ⟨o01,ho01,hMl⟩:=zC N;refine ih_spec_l3Count_l1 e0 levels 1 0 o01 ho01 iR h h1 h2 (fun _ _ _ h=>h) (fun _ _ h=>h) ?_;intro I02 n01 heq1 le2;subst o01;refine zU<|sI [4] rfl<|zI<|yS ?_;obtain rfl:=zB hMl;exact wM
  intro F_spec_l3Count F_spec_l3Count_l1 ih_spec_l3Count ih_spec_l3Count_l1 e0 levels n0 i o N B I0 I Q p c p1 c1 p2 c2 b H h h1 h2 hg ho hx;refine xH hg ho<|yA<|yA ?_;refine wI N [hB b (cExpr e0 p c p1 c1 p2 c2)] (fun t15=>[(1,vI levels),(2,vP b 0),(5,vI n0),(6,vI i),(15,.bool t15)]) (fun o0 ho0=>?_) ?_
  · have H:=iS I;refine zM<|yF 6 [0] [12] rfl<|xP [12] ho0 ?_ ?_
    · intro hc N;exact yL [] [15] rfl<|yM<|zR (ct N H)
    intro hc N;exact wC [] [(15,vF)]<|yM<|zR (ct N H)
  intro t15 I0 le hMc;have ⟨h,h1,h2,H⟩:=m4 le h h1 h2 H;refine zI<|yH hMc ?_ ?_
  · intro hc1 N;refine zT<|yE<|yN<|zM<|yF 4 [0] [18,20,21] rfl<|bE N fun x hy N=>wF rfl rfl h2 hy ?_;intro ad ccs hat hrep;obtain ⟨p3,c3,p4,c4,p5,c5,rfl,h3,h4,h5⟩:=yV hrep;refine xT 0 hat (cExpr x p3 c3 p4 c4 p5 c5) (vA (cExpr x p3 c3 p4 c4 p5 c5)) rfl<|yF 8 [] [25] rfl<|bE N fun y hy1 N=>xM (ih_spec_l3Count x (W (levels - 1)) _ hy1 h3 h4 h5) ?_;rintro I01 hs2 v2 k2 le1 - ⟨v03,rfl,rfl,rfl⟩ -;have ⟨h,h1,h2,H⟩:=m4 le1 h h1 h2 H;exact yL [] [5] rfl<|zQ<|zI<|zM<|yL [] [6] rfl<|xF<|mJ<|ih_spec_l3Count_l1 e0 levels (W (n0 + y)) (W (i + 1)) _ N H h h1 h2 hg ho hx
  intro hc1 N;exact tS<|xQ zL<|yM<|hx _ _ (zB N).symm H
theorem zC4:∀ e0 levels r,uW e0 levels=some r→∀ {I:Imm}{p c p1 c1 p2 c2},(S4 I p e0.Index.Coefs c)→(S4 I p1 e0.Read.Subs c1)→(S4 I p2 e0.Kids c2)→RT 106 [vA (cExpr e0 p c p1 c1 p2 c2),vI levels] I [] (xO  r):=zBw.1
def uH (s:zK) (depth:Int):Option (Bool):=do
 let t24←(do
   if (decide (depth < 0)) then
    pure true
   else
    if (decide (depth > 4)) then
     pure true
    else
     let y←sY s.Write depth
     if (!y) then
      pure true
     else
      let y1←uF s.Value depth 5
      pure (!y1)
     : Option Bool)
 if t24 then
  pure false
 else
  let y2←uW s.Value 5
  pure (decide (y2 ≤ 12))
theorem nK:∀ s depth r,uH s depth=some r→∀ {I:Imm}{p c p1 c1 p2 c2 p3 c3},(S4 I p s.Write.Subs c)→(S4 I p1 s.Value.Index.Coefs c1)→(S4 I p2 s.Value.Read.Subs c2)→(S4 I p3 s.Value.Kids c3)→RT 47 [vA (cStmt s p c p1 c1 p2 c2 p3 c3),vI depth] I [] (zP  r):=by
 intro s depth r N I p c p1 c1 p2 c2 p3 c3 h h1 h2 h3;unfold uH at N;refine yI Tryz.func47 fun B=>?_;have H:=iS I;refine yG<|uG (cStmt s p c p1 c1 p2 c2 p3 c3) ?_;intro b hb;refine wC [] []<|yE<|yA ?_;refine wI N [hB b (cStmt s p c p1 c1 p2 c2 p3 c3)] (fun t24=>[(2,vP b 0),(24,.bool t24)]) (fun o0 ho0=>?_) ?_
 · have H:=iS I;refine zM<|yF 3 [] [7] rfl<|xP [7] ho0 ?_ ?_
   · intro hc N;exact wC [] [(24,vY)]<|yM<|zR (ct N H)
   intro hc N;refine yF 7 [] [11] rfl<|xP [11] N ?_ ?_
   · intro hc1 N;exact wC [] [(24,vY)]<|yM<|zR (ct N H)
   intro hc1 N;refine sH 10 [0] [(13,vA (cAccess s.Write p c)),(14,vI depth)]<|bE N fun y hy N=>uB (fS s.Write depth _ hy h) ?_;intro I01 le;have ⟨h1,h2,h3,H⟩:=m4 le h1 h2 h3 H;refine yF 14 [] [18] rfl<|xP [18] N ?_ ?_
   · intro hc2 N;exact wC [] [(24,vY)]<|yM<|zR (ct N H)
   intro hc2 N;refine sH 17 [0] [(20,vA (cExpr s.Value p1 c1 p2 c2 p3 c3)),(21,vI depth)]<|bE N fun y1 hy1 N=>uB (zC3 s.Value depth 5 _ hy1 h1 h2 h3) ?_;intro I02 le1;have H:=H.trans le1;exact yL [] [24] rfl<|yM<|zR (ct N H)
 intro t24 I0 le2 hMc;have ⟨h1,h2,h3⟩:=m3 le2 h1 h2 h3;refine zI<|yH hMc ?_ ?_
 · intro hc3 N;refine uA [(4,vF)]<|xE<|zH ?_;obtain rfl:=zB N;exact wM
 intro hc3 N;refine zT<|yX<|sH 2 [0] [(26,vA (cExpr s.Value p1 c1 p2 c2 p3 c3))]<|bE N fun y2 hy2 N=>fQ (zC4 s.Value 5 _ hy2 h1 h2 h3) fun I03 le3=>wC [] [(4,.bool (decide (y2 ≤ 12)))]<|zI<|yS ?_;obtain rfl:=zB N;exact wM
def vR (p:(List Int)) (i:Int):Option (Out Unit (Bool)):=do
 if (decide (i < (p.length:Int))) then
  let x←idx p i
  let y←wR x 9999
  if (!y) then
   pure (.ret false)
  else
   vR p (W (i + 1))
 else
  pure (.done ())
 partial_fixpoint
theorem zAe (p:(List Int)):∀ (i:Int) (o:Out Unit (Bool)),vR p i=some o→∀ {B}{I0 I:Imm}{Q p1 c},I0.le I→(S4 I p1 p c)→NG Q→NO Q→(∀ (I':Imm) ,o=(.done ())→I0.le I'→T 19 B Q (.exit 0) I' [] [(0,vS p1 p c)])→(∀ r I' hs' m',o=(.ret r)→I0.le I'→RS Tryz.prog Tryz.f178 B (zP  r) I' hs' m'→T 19 B Q .ret I' hs' m')→J Tryz.prog 19 B (nav (bodyOf Tryz.f178) [1,0,1,0]) Q I [] [(0,vS p1 p c),(3,vI i)]:=by
 refine vR.partial_correctness p _ fun self ih i o N B I0 I Q p1 c H h hg ho hx hr=>xH hg ho<|yA<|yO [7] rfl<|zI<|yH N ?_ ?_
 · intro hc N;refine zT<|yE<|yN<|yG<|yF 2 [] [10,11] rfl<|bE N fun x hy N=>wF rfl rfl h hy ?_;intro ad ccs hat hrep;obtain rfl:=hrep;refine xT 0 hat [vI x] (vI x) rfl<|bE N fun y hy1 N=>uB (kT x 9999 _ hy1 ) ?_;intro I0 le;have ⟨h,H⟩:=m2 le h H;refine yL [] [15] rfl<|zI<|yH N ?_ ?_
   · intro hc1 N;exact uA [(2,vF)]<|xE<|zV<|zH<|zH<|hr _ _ _ _ (zB N).symm H ⟨_,_,(.tmp rfl ResV.nil),zL,⟨_,rfl,rfl,rfl⟩⟩
   intro hc1 N;exact zT<|zQ<|zI<|zM<|yL [] [3] rfl<|xF<|mJ<|ih (W (i + 1)) _ N H h hg ho hx hr
 intro hc N;exact tS<|yM<|hx _  (zB N).symm H
def qT (p:(List Int)):Option (Bool):=do
 match←vR p 0 with
 | .ret r0=>pure r0
 | .done _ =>
  pure (decide ((p.length:Int) ≤ 4))
theorem zC5:∀ p r,qT p=some r→∀ {I:Imm}{p1 c},(S4 I p1 p c)→RT 178 [vS p1 p c] I [] (zP  r):=by
 intro p r N I p1 c h;unfold qT at N;refine yI Tryz.func178 fun B=>uA []<|yE<|yO [3] rfl<|uV<|mH [(0,vS p1 p c),(3,vI 0)] ?_;obtain ⟨o0,ho0,hMl⟩:=zC N;refine zAe p 0 o0 ho0 iR h (fun _ _ _ h=>h) (fun _ _ h=>h) ?_ ?_
 · intro I01  heq le1;subst o0;refine zU<|sI [2] rfl<|zI<|yS ?_;obtain rfl:=zB hMl;exact wM
 intro r0 I9 hs9 m9 heq9 le9 hrs9;subst heq9;refine zV<|zH ?_;obtain rfl:=zB hMl;exact xB hrs9
def uI (list:(List zA)) (depth:Int) (i:Int):Option (Out Unit (Bool)):=do
 if (decide (i < (list.length:Int))) then
  let t26←(do
    let x←idx list i
    let y←wX x
    if (!y) then
     pure true
    else
     let x1←idx list i
     let y1←sM x1
     pure (decide (y1 > depth))
      : Option Bool)
  if t26 then
   pure (.ret false)
  else
   uI list depth (W (i + 1))
 else
  pure (.done ())
 partial_fixpoint
theorem zBI (list:(List zA)) (depth:Int):∀ (i:Int) (o:Out Unit (Bool)),uI list depth i=some o→∀ {B}{I0 I:Imm}{Q p c},I0.le I→(S4 I p list c)→NG Q→NO Q→(∀ (I':Imm) ,o=(.done ())→I0.le I'→T 35 B Q (.exit 0) I' [] [(0,vS p list c)])→(∀ r I' hs' m',o=(.ret r)→I0.le I'→RS Tryz.prog Tryz.f217 B (zP  r) I' hs' m'→T 35 B Q .ret I' hs' m')→J Tryz.prog 35 B (nav (bodyOf Tryz.f217) [1,0,1,0]) Q I [] [(0,vS p list c),(1,vI depth),(5,vI i)]:=by
 refine uI.partial_correctness list depth _ fun self ih i o N B I0 I Q p c H h hg ho hx hr=>xH hg ho<|yA<|yO [9] rfl<|zI<|yH N ?_ ?_
 · intro hc N;refine zT<|yE<|yN<|yA ?_;refine wI N [] (fun t26=>[(0,vS p list c),(1,vI depth),(5,vI i),(26,.bool t26)]) (fun o0 ho0=>?_) ?_
   · have H:=iS I;refine zM<|yF 2 [] [12,13] rfl ?_;obtain ⟨x,hy,N⟩:=zC ho0;refine wF rfl rfl h hy ?_;intro ad ccs hat hrep;obtain ⟨p1,c1,rfl,h1⟩:=yD hrep;refine xT 0 hat (cAff x p1 c1) (vA (cAff x p1 c1)) rfl<|bE N fun y hy1 N=>uB (oF x _ hy1 h1) ?_;intro I01 le;have ⟨h,H⟩:=m2 le h H;refine yF 7 [] [18] rfl<|xP [18] N ?_ ?_
     · intro hc1 N;exact wC [] [(26,vY)]<|yM<|zR (ct N H)
     intro hc1 N;refine yF 9 [] [19,20] rfl<|bE N fun x1 hy2 N=>wF rfl rfl h hy2 ?_;intro ad1 ccs1 hat1 hrep1;obtain ⟨p2,c2,rfl,h3⟩:=yD hrep1;refine xT 0 hat1 (cAff x1 p2 c2) (vA (cAff x1 p2 c2)) rfl<|bE N fun y1 hy3 N=>fQ (jN x1 _ hy3 h3) ?_;intro I02 le1;have H:=H.trans le1;exact yL [] [26] rfl<|yM<|zR (ct N H)
   intro t26 I0 le2 hMc;have ⟨h,H⟩:=m2 le2 h H;refine zI<|yH hMc ?_ ?_
   · intro hc2 N;exact uA [(4,vF)]<|xE<|zV<|zH<|zH<|hr _ _ _ _ (zB N).symm H ⟨_,_,(.tmp rfl ResV.nil),zL,⟨_,rfl,rfl,rfl⟩⟩
   intro hc2 N;exact zT<|zQ<|zI<|zM<|yL [] [5] rfl<|xF<|mJ<|ih (W (i + 1)) _ N H h hg ho hx hr
 intro hc N;exact tS<|yM<|hx _  (zB N).symm H
def qK (list:(List zA)) (depth:Int):Option (Bool):=do
 match←uI list depth 0 with
 | .ret r0=>pure r0
 | .done _ =>
  let t4←(do
    if (decide ((list.length:Int) ≥ 1)) then
     pure (decide ((list.length:Int) ≤ 2))
    else
     pure false
      : Option Bool)
  pure (id t4)
theorem dP:∀ list depth r,qK list depth=some r→∀ {I:Imm}{p c},(S4 I p list c)→RT 217 [vS p list c,vI depth] I [] (zP  r):=by
 intro list depth r N I p c h;unfold qK at N;refine yI Tryz.func217 fun B=>?_;have H:=iS I;refine uA []<|yE<|yO [5] rfl<|uV<|mH [(0,vS p list c),(1,vI depth),(5,vI 0)] ?_;obtain ⟨o01,ho01,hMl⟩:=zC N;refine zBI list depth 0 o01 ho01 iR h (fun _ _ _ h=>h) (fun _ _ h=>h) ?_ ?_
 · intro I03  heq1 le3;subst o01;have H:=H.trans le3;refine zU<|zI<|yA ?_;refine wI hMl [] (fun t4=>[(4,.bool t4)]) (fun o02 ho02=>?_) ?_
   · have H:=iS I03;refine zM<|yF 4 [] [30] rfl<|xP [30] ho02 ?_ ?_
     · intro hc3 N;exact yL [] [4] rfl<|yM<|zR (ct N H)
     intro hc3 N;exact wC [] [(4,vF)]<|yM<|zR (ct N H)
   intro t4 I04 le4 hMc1;refine zI<|yS ?_;obtain rfl:=zB hMc1;exact wM
 intro r0 I9 hs9 m9 heq9 le9 hrs9;subst heq9;refine zV<|zH ?_;obtain rfl:=zB hMl;exact xB hrs9
def wD (nest:(List zG)) (i:Int):Option (Out Unit (Bool)):=do
 let t12←(do
   if (decide (i < (nest.length:Int))) then
    pure (decide ((nest.length:Int) ≤ 4))
   else
    pure false
     : Option Bool)
 if t12 then
  let t32←(do
    let x←idx nest i
    let y←qK x.Lo i
    if (!y) then
     pure true
    else
     let x1←idx nest i
     let y1←qK x1.Hi i
     pure (!y1)
      : Option Bool)
  if t32 then
   pure (.ret false)
  else
   wD nest (W (i + 1))
 else
  pure (.done ())
 partial_fixpoint
theorem dQ (nest:(List zG)):∀ (i:Int) (o:Out Unit (Bool)),wD nest i=some o→∀ {B}{I0 I:Imm}{Q p c},I0.le I→(S4 I p nest c)→NG Q→NO Q→(∀ (I':Imm) ,o=(.done ())→I0.le I'→T 36 B Q (.exit 0) I' [] [(0,vS p nest c)])→(∀ r I' hs' m',o=(.ret r)→I0.le I'→RS Tryz.prog Tryz.f177 B (zP  r) I' hs' m'→T 36 B Q .ret I' hs' m')→J Tryz.prog 36 B (nav (bodyOf Tryz.f177) [1,0,1,0]) Q I [] [(0,vS p nest c),(3,vI i)]:=by
 refine wD.partial_correctness nest _ fun self ih i o N B I0 I Q p c H h hg ho hx hr=>xH hg ho<|yA<|yA ?_;refine wI N [] (fun t12=>[(0,vS p nest c),(3,vI i),(12,.bool t12)]) (fun o0 ho0=>?_) ?_
 · have H:=iS I;refine zM<|yF 5 [] [8] rfl<|xP [8] ho0 ?_ ?_
   · intro hc N;exact yL [] [12] rfl<|yM<|zR (ct N H)
   intro hc N;exact wC [] [(12,vF)]<|yM<|zR (ct N H)
 intro t12 I0 le hMc;have ⟨h,H⟩:=m2 le h H;refine zI<|yH hMc ?_ ?_
 · intro hc1 N;refine zT<|yE<|yN<|yA ?_;refine wI N [] (fun t32=>[(0,vS p nest c),(3,vI i),(32,.bool t32)]) (fun o01 ho01=>?_) ?_
   · have H:=iS I0;refine zM<|yF 2 [] [15,16] rfl ?_;obtain ⟨x,hy,N⟩:=zC ho01;refine wF rfl rfl h hy ?_;intro ad ccs hat hrep;obtain ⟨p1,c1,p2,c2,rfl,h1,h2⟩:=oW hrep;refine yF 4 [] [18] rfl<|xT 0 hat [vS p1 x.Lo c1] (vS p1 x.Lo c1) rfl<|yF 6 [] [20] rfl<|bE N fun y hy1 N=>uB (dP x.Lo i _ hy1 h1) ?_;intro I02 le1;have ⟨h,H⟩:=m2 le1 h H;refine yF 9 [] [23] rfl<|xP [23] N ?_ ?_
     · intro hc2 N;exact wC [] [(32,vY)]<|yM<|zR (ct N H)
     intro hc2 N;refine yF 11 [] [24,25] rfl<|bE N fun x1 hy2 N=>wF rfl rfl h hy2 ?_;intro ad1 ccs1 hat1 hrep1;obtain ⟨p3,c3,p4,c4,rfl,h4,h5⟩:=oW hrep1;refine yF 13 [] [27] rfl<|xT 1 hat1 [vS p4 x1.Hi c4] (vS p4 x1.Hi c4) rfl<|yF 15 [] [29] rfl<|bE N fun y1 hy3 N=>uB (dP x1.Hi i _ hy3 h5) ?_;intro I03 le2;have H:=H.trans le2;exact yL [] [32] rfl<|yM<|zR (ct N H)
   intro t32 I01 le3 hMc1;have ⟨h,H⟩:=m2 le3 h H;refine zI<|yH hMc1 ?_ ?_
   · intro hc3 N;exact uA [(2,vF)]<|xE<|zV<|zH<|zH<|hr _ _ _ _ (zB N).symm H ⟨_,_,(.tmp rfl ResV.nil),zL,⟨_,rfl,rfl,rfl⟩⟩
   intro hc3 N;exact zT<|zQ<|zI<|zM<|yL [] [3] rfl<|xF<|mJ<|ih (W (i + 1)) _ N H h hg ho hx hr
 intro hc1 N;exact tS<|yM<|hx _  (zB N).symm H
def rE (nest:(List zG)):Option (Bool):=do
 match←wD nest 0 with
 | .ret r0=>pure r0
 | .done _ =>
  pure (decide ((nest.length:Int) ≤ 4))
theorem zBJ:∀ nest r,rE nest=some r→∀ {I:Imm}{p c},(S4 I p nest c)→RT 177 [vS p nest c] I [] (zP  r):=by
 intro nest r N I p c h;unfold rE at N;refine yI Tryz.func177 fun B=>uA []<|yE<|yO [3] rfl<|uV<|mH [(0,vS p nest c),(3,vI 0)] ?_;obtain ⟨o02,ho02,hMl⟩:=zC N;refine dQ nest 0 o02 ho02 iR h (fun _ _ _ h=>h) (fun _ _ h=>h) ?_ ?_
 · intro I04  heq2 le4;subst o02;refine zU<|sI [2] rfl<|zI<|yS ?_;obtain rfl:=zB hMl;exact wM
 intro r0 I9 hs9 m9 heq9 le9 hrs9;subst heq9;refine zV<|zH ?_;obtain rfl:=zB hMl;exact xB hrs9
def uJ (a0:zA) (point:(List Int)) (n0:Int) (i:Int):Option (Int):=do
 let t19←(do
   if (decide (i < (point.length:Int))) then
    pure (decide (i < (a0.Coefs.length:Int)))
   else
    pure false
     : Option Bool)
 if t19 then
  let x←idx a0.Coefs i
  let x1←idx point i
  uJ a0 point (W (n0 + (W (x * x1)))) (W (i + 1))
 else
  pure (id n0)
 partial_fixpoint
theorem zBK (a0:zA) (point:(List Int)):∀ (n0:Int) (i:Int) (o:Int),uJ a0 point n0 i=some o→∀ {B}{I0 I:Imm}{Q p c p1 c1}{b:Nat},I0.le I→(S4 I p1 point c1)→(S4 I p a0.Coefs c)→NG Q→NO Q→(∀ (I':Imm) (n01:Int),o=n01→I0.le I'→T 35 B Q (.exit 0) I' [] [(5,vI n01)])→J Tryz.prog 35 B (nav (bodyOf Tryz.f132) [1,1,0,1,0]) Q I [hB b (cAff a0 p c)] [(1,vS p1 point c1),(2,vP b 0),(5,vI n0),(6,vI i)]:=by
 refine uJ.partial_correctness a0 point _ fun self ih n0 i o N B I0 I Q p c p1 c1 b H h1 h hg ho hx=>xH hg ho<|yA<|yA ?_;refine wI N [hB b (cAff a0 p c)] (fun t19=>[(1,vS p1 point c1),(2,vP b 0),(5,vI n0),(6,vI i),(19,.bool t19)]) (fun o0 ho0=>?_) ?_
 · have H:=iS I;refine zM<|yF 5 [] [13] rfl<|xP [13] ho0 ?_ ?_
   · intro hc N;exact yL [0] [19] rfl<|yM<|zR (ct N H)
   intro hc N;exact wC [] [(19,vF)]<|yM<|zR (ct N H)
 intro t19 I0 le hMc;have ⟨h1,h,H⟩:=m3 le h1 h H;refine zI<|yH hMc ?_ ?_
 · intro hc1 N;refine zT<|yE<|yN<|mU (by kernel_rfl) (by kernel_rfl)<|gN 4 [0] [22,24,25] rfl<|bE N fun x hy N=>dJ rfl rfl h hy ?_;intro ad ccs hat hrep;obtain rfl:=hrep;refine dI 0 hat [vI x] (vI x) rfl<|gN 8 [] [28,29] rfl<|bE N fun x1 hy1 N=>dJ rfl rfl h1 hy1 ?_;intro ad1 ccs1 hat1 hrep1;obtain rfl:=hrep1;exact dI 0 hat1 [vI x1] (vI x1) rfl<|zFQ [] [5] rfl<|zQ<|zI<|zM<|yL [] [6] rfl<|xF<|mJ<|ih (W (n0 + (W (x * x1)))) (W (i + 1)) _ N H h1 h hg ho hx
 intro hc1 N;exact tS<|xQ zL<|yM<|hx _ _ (zB N).symm H
def tV (a0:zA) (point:(List Int)):Option (Int):=do
 let n01←uJ a0 point a0.Const 0
 pure (id n01)
theorem nR:∀ a0 point r,tV a0 point=some r→∀ {I:Imm}{p c p1 c1},(S4 I p a0.Coefs c)→(S4 I p1 point c1)→RT 132 [vA (cAff a0 p c),vS p1 point c1] I [] (xO  r):=by
 intro a0 point r N I p c p1 c1 h h1;unfold tV at N;refine yI Tryz.func132 fun B=>yG<|uG (cAff a0 p c) ?_;intro b hb;refine wC [] []<|yX<|yL [0] [5] rfl<|yE<|yO [6] rfl<|uV<|mH [(1,vS p1 point c1),(2,vP b 0),(5,vI a0.Const),(6,vI 0)] ?_;obtain ⟨o01,ho01,hMl⟩:=zC N;refine zBK a0 point a0.Const 0 o01 ho01 iR h1 h (fun _ _ _ h=>h) (fun _ _ h=>h) ?_;intro I01 n01 heq1 le1;subst o01;refine zU<|sI [4] rfl<|zI<|yS ?_;obtain rfl:=zB hMl;exact wM
def gU (r:Int×Int):KT:=fun kk I' hs' v=>
  ∃ v0 v1,hs'=[]∧v=tupV [v0,v1]∧v0=.int .i64 r.1∧v1=.int .i64 r.2
def vU (loop:zG) (p2:(List Int)) (lo:Int) (i:Int):Option (Int):=do
 if (decide (i < (loop.Lo.length:Int))) then
  let x2←idx loop.Lo i
  let y2←tV x2 p2
  let lo2←(do
    if (decide (y2 > lo)) then
     pure (id y2)
    else
     pure (id lo)
      : Option Int)
  vU loop p2 lo2 (W (i + 1))
 else
  pure (id lo)
 partial_fixpoint
theorem zAf (loop:zG) (p2:(List Int)):∀ (lo:Int) (i:Int) (o:Int),vU loop p2 lo i=some o→∀ {B}{I0 I:Imm}{Q}{y1:Int}{p c p1 c1 p3 c2}{b:Nat},I0.le I→(S4 I p3 p2 c2)→(S4 I p loop.Lo c)→(S4 I p1 loop.Hi c1)→NG Q→NO Q→(∀ (I':Imm) (lo1:Int),o=lo1→I0.le I'→T 62 B Q (.exit 0) I' [hB b (cLoop loop p c p1 c1)] [(1,vS p3 p2 c2),(2,vP b 0),(6,vI lo1),(7,vI y1)])→J Tryz.prog 62 B (nav (bodyOf Tryz.f179) [1,1,1,0,1,0]) Q I [hB b (cLoop loop p c p1 c1)] [(1,vS p3 p2 c2),(2,vP b 0),(6,vI lo),(7,vI y1),(8,vI i)]:=by
 refine vU.partial_correctness loop p2 _ fun self ih lo i o N B I0 I Q y1 p c p1 c1 p3 c2 b H h2 h h1 hg ho hx=>xH hg ho<|yA<|yG<|yL [0] [28] rfl<|zI<|yH N ?_ ?_
 · intro hc N;refine zT<|yE<|yN<|yG<|yF 3 [0] [32,33] rfl<|bE N fun x2 hy4 N=>wF rfl rfl h hy4 ?_;intro ad2 ccs2 hat2 hrep2;obtain ⟨p6,c5,rfl,h7⟩:=yD hrep2;refine xT 0 hat2 (cAff x2 p6 c5) (vA (cAff x2 p6 c5)) rfl<|yF 6 [] [36] rfl<|bE N fun y2 hy5 N=>fQ (nR x2 p2 _ hy5 h7 h2) ?_;intro I02 le2;have ⟨h2,h,h1,H⟩:=m4 le2 h2 h h1 H;refine yL [] [9] rfl<|sI [40] rfl<|zI ?_;refine wI N [hB b (cLoop loop p c p1 c1)] (fun lo2=>[(1,vS p3 p2 c2),(2,vP b 0),(6,vI lo2),(7,vI y1),(8,vI i)]) (fun o0 ho0=>?_) ?_
   · have H:=iS I02;refine yH ho0 ?_ ?_
     · intro hc1 N;exact zM<|yL [] [6] rfl<|yM<|zR (ct N H)
     intro hc1 N;exact zT<|yM<|zR (ct N H)
   intro lo2 I03 le3 hMc;have ⟨h2,h,h1,H⟩:=m4 le3 h2 h h1 H;exact zQ<|zI<|zM<|yL [] [8] rfl<|xF<|mJ<|ih lo2 (W (i + 1)) _ hMc H h2 h h1 hg ho hx
 intro hc N;exact tS<|yM<|hx _ _ (zB N).symm H
def vV (loop:zG) (p2:(List Int)) (hi:Int) (i1:Int):Option (Int):=do
 if (decide (i1 < (loop.Hi.length:Int))) then
  let x3←idx loop.Hi i1
  let y3←tV x3 p2
  let hi2←(do
    if (decide (y3 < hi)) then
     pure (id y3)
    else
     pure (id hi)
      : Option Int)
  vV loop p2 hi2 (W (i1 + 1))
 else
  pure (id hi)
 partial_fixpoint
theorem zAg (loop:zG) (p2:(List Int)):∀ (hi:Int) (i1:Int) (o:Int),vV loop p2 hi i1=some o→∀ {B}{I0 I:Imm}{Q}{lo1:Int}{p c p1 c1 p3 c2}{b:Nat},I0.le I→(S4 I p3 p2 c2)→(S4 I p loop.Lo c)→(S4 I p1 loop.Hi c1)→NG Q→NO Q→(∀ (I':Imm) (hi1:Int),o=hi1→I0.le I'→T 62 B Q (.exit 2) I' [] [(6,vI lo1),(7,vI hi1)])→J Tryz.prog 62 B (nav (bodyOf Tryz.f179) [1,1,1,1,0,1,0]) Q I [hB b (cLoop loop p c p1 c1)] [(1,vS p3 p2 c2),(2,vP b 0),(6,vI lo1),(7,vI hi),(10,vI i1)]:=by
 refine vV.partial_correctness loop p2 _ fun self ih hi i1 o N B I0 I Q lo1 p c p1 c1 p3 c2 b H h2 h h1 hg ho hx=>xH hg ho<|yA<|yG<|yL [0] [46] rfl<|zI<|yH N ?_ ?_
 · intro hc2 N;refine zT<|yE<|yN<|yG<|yF 3 [0] [50,51] rfl<|bE N fun x3 hy6 N=>wF rfl rfl h1 hy6 ?_;intro ad3 ccs3 hat3 hrep3;obtain ⟨p7,c6,rfl,h9⟩:=yD hrep3;refine xT 0 hat3 (cAff x3 p7 c6) (vA (cAff x3 p7 c6)) rfl<|yF 6 [] [54] rfl<|bE N fun y3 hy7 N=>fQ (nR x3 p2 _ hy7 h9 h2) ?_;intro I05 le5;have ⟨h2,h,h1,H⟩:=m4 le5 h2 h h1 H;refine yL [] [11] rfl<|sI [58] rfl<|zI ?_;refine wI N [hB b (cLoop loop p c p1 c1)] (fun hi2=>[(1,vS p3 p2 c2),(2,vP b 0),(6,vI lo1),(7,vI hi2),(10,vI i1)]) (fun o02 ho02=>?_) ?_
   · have H:=iS I05;refine yH ho02 ?_ ?_
     · intro hc3 N;exact zM<|yL [] [7] rfl<|yM<|zR (ct N H)
     intro hc3 N;exact zT<|yM<|zR (ct N H)
   intro hi2 I06 le6 hMc1;have ⟨h2,h,h1,H⟩:=m4 le6 h2 h h1 H;exact zQ<|zI<|zM<|yL [] [10] rfl<|xF<|mJ<|ih hi2 (W (i1 + 1)) _ hMc1 H h2 h h1 hg ho hx
 intro hc2 N;exact tS<|xQ zL<|yM<|hx _ _ (zB N).symm H
def rZ (loop:zG) (p2:(List Int)):Option (Int×Int):=do
 let x←idx loop.Lo 0
 let y←tV x p2
 let x1←idx loop.Hi 0
 let y1←tV x1 p2
 let lo1←vU loop p2 y 1
 let hi1←vV loop p2 y1 1
 pure (lo1,hi1)
theorem eR:∀ loop p2 r,rZ loop p2=some r→∀ {I:Imm}{p c p1 c1 p3 c2},(S4 I p loop.Lo c)→(S4 I p1 loop.Hi c1)→(S4 I p3 p2 c2)→RT 179 [vA (cLoop loop p c p1 c1),vS p3 p2 c2] I [] (gU  r):=by
 intro loop p2 r N I p c p1 c1 p3 c2 h h1 h2;unfold rZ at N;refine yI Tryz.func179 fun B=>yG<|uG (cLoop loop p c p1 c1) ?_;intro b hb;refine wC [] []<|yX<|yF 2 [0] [13] rfl<|bE N fun x hy N=>wF rfl rfl h hy ?_;intro ad ccs hat hrep;obtain ⟨p4,c3,rfl,h3⟩:=yD hrep;refine xT 0 hat (cAff x p4 c3) (vA (cAff x p4 c3)) rfl<|yF 5 [] [16] rfl<|bE N fun y hy1 N=>fQ (nR x p2 _ hy1 h3 h2) ?_;intro I0 le;have ⟨h2,h,h1⟩:=m3 le h2 h h1;refine yL [] [6] rfl<|yX<|yF 2 [0] [19] rfl<|bE N fun x1 hy2 N=>wF rfl rfl h1 hy2 ?_;intro ad1 ccs1 hat1 hrep1;obtain ⟨p5,c4,rfl,h5⟩:=yD hrep1;refine xT 0 hat1 (cAff x1 p5 c4) (vA (cAff x1 p5 c4)) rfl<|yF 5 [] [22] rfl<|bE N fun y1 hy3 N=>fQ (nR x1 p2 _ hy3 h5 h2) ?_;intro I01 le1;have ⟨h2,h,h1⟩:=m3 le1 h2 h h1;refine yL [] [7] rfl<|yE<|yO [8] rfl<|uV<|mH [(1,vS p3 p2 c2),(2,vP b 0),(6,vI y),(7,vI y1),(8,vI 1)] ?_;obtain ⟨o01,ho01,hMl⟩:=zC N;refine zAf loop p2 y 1 o01 ho01 iR h2 h h1 (fun _ _ _ h=>h) (fun _ _ h=>h) ?_;intro I04 lo1 heq1 le4;subst o01;have ⟨h2,h,h1⟩:=m3 le4 h2 h h1;refine zU<|yE<|yO [10] rfl<|uV<|mH [(1,vS p3 p2 c2),(2,vP b 0),(6,vI lo1),(7,vI y1),(10,vI 1)] ?_;obtain ⟨o03,ho03,hMl1⟩:=zC hMl;refine zAg loop p2 y1 1 o03 ho03 iR h2 h h1 (fun _ _ _ h=>h) (fun _ _ h=>h) ?_;intro I07 hi1 heq3 le7;subst o03;refine zU<|sI [4,5] rfl<|zI<|yS ?_;obtain rfl:=zB hMl1;exact xB ⟨_,_,(.tmp rfl (.tmp rfl ResV.nil)),zL,⟨_,_,rfl,rfl,rfl,rfl⟩⟩
def gE (r:(List (List Int))):KT:=fun kk I' hs' v=>
  ∃ a0 c0 s0,hs'=[.osl (.slice a0 r.length c0) (Rp.sz (List Int)) s0]∧v=tupV [(.slice a0 r.length c0)]∧RepL (Rp.rep I') (Rp.sz (List Int)) s0 r
mutual
def vE (out:(List (List Int))) (nest:(List zG)) (p2:(List Int)):Option ((List (List Int))):=do
 if ((p2.length:Int) == (nest.length:Int)) then
  let l←app 8 ([]:List Int) p2
  let t6←app 24 out ([l]:List (List Int))
  pure (id t6)
 else
  let x←idx nest (p2.length:Int)
  let (y1,y2)←rZ x p2
  let out2←uC (same nest) (same p2) (same y2) (same out) (same y1)
  pure (id out2)
 partial_fixpoint
def uC (nest:(List zG)) (p2:(List Int)) (y2:Int) (out1:List (List Int)) (v04:Int):Option (List (List Int)):=do
 let t39←(do
   if (decide (v04 < y2)) then
    pure (decide ((out1.length:Int) ≤ 120))
   else
    pure false
     : Option Bool)
 if t39 then
  let l1←app 8 ([]:List Int) p2
  let l2←app 8 l1 ([v04]:List Int)
  let y3←vE (same out1) (same nest) (same l2)
  uC (same nest) (same p2) (same y2) (same y3) (W (v04 + 1))
 else
  pure (id out1)
 partial_fixpoint
end
theorem zBL:(∀ (out:(List (List Int))) (nest:(List zG)) (p2:(List Int)) r,vE out nest p2=some r→∀ {I:Imm}{p c cs p1 c1 p3 c2},(RL I cs out)→(S4 I p1 nest c1)→(S4 I p3 p2 c2)→RT 192 [vS p out c,vS p1 nest c1,vS p3 p2 c2] I [hO (List Int) (vS p out c) cs] (gE  r))∧(∀ (nest:(List zG)) (p2:(List Int)) (y2:Int) (out1:List (List Int)) (v04:Int) o,uC nest p2 y2 out1 v04=some o→∀ {B}{I0 I:Imm}{Q p1 c1 p3 c2 p8 c7 cs3},I0.le I→(S4 I p1 nest c1)→(S4 I p3 p2 c2)→(RL I cs3 out1)→NG Q→NO Q→(∀ (I':Imm) (out2:List (List Int)) (p9:Option Addr) (c8:Nat) (cs4:List Value),o=out2→I0.le I'→(RL I' cs4 out2)→T 52 B Q (.exit 0) I' [hO (List Int) (vS p9 out2 c8) cs4] [(0,vS p9 out2 c8)])→J Tryz.prog 52 B (nav (bodyOf Tryz.f192) [1,1,1,0,1,0]) Q I [hO (List Int) (vS p8 out1 c7) cs3] [(0,vS p8 out1 c7),(1,vS p1 nest c1),(2,vS p3 p2 c2),(8,vI y2),(9,vI v04)]):=by
  refine vE.mutual_partial_correctness _ _ ?_ ?_
  · intro F_spec_l2Points_l1 ih_spec_l2Points_l1 out nest p2 r N I p c cs p1 c1 p3 c2 h h1 h2;refine yI Tryz.func192 fun B=>uA []<|yE<|yO [14] rfl<|zI<|yH N ?_ ?_
    · intro hc N;refine yG<|yF 1 [] [15] rfl<|qB [] Int ?_;intro b hb;have h3:RL I [] ([]:List Int):=rfl;refine yF 3 [] [17] rfl ?_;obtain ⟨ccs,k0,k01⟩:=h2;have h2:SL I (vS p3 p2 c2) p2:=⟨_,k0,k01⟩;obtain ⟨l,hy,N⟩:=zC N;refine nO 3 1 0 rfl rfl rfl h3 (.inl k0) k01 hy fun p4 c3 cs1 h4=>qH (yB [0,1] (hs':=[hO Int (vS p4 l c3) cs1,hO (List Int) (vS p out c) cs]))<|vZ 0 rfl ?_;intro I0 le hl0;have h5:=SL.of_frozen hl0 le h4;have h:=iM le h;refine qB [vS p4 l c3] (List Int) ?_;intro b1 hb1;have h6:RL I0 [vS p4 l c3] ([l]:List (List Int)):=⟨[vS p4 l c3],_,rfl,rfl,⟨_,rfl,h5⟩,rfl⟩;obtain ⟨t6,hy1,N⟩:=zC N;refine nO 29 1 1 rfl rfl rfl h (.inr ⟨0,rfl⟩) h6 hy1 fun p5 c4 cs2 h7=>qH (yB [1] (hs':=[hO (List Int) (vS p5 t6 c4) cs2]))<|yL [] [6] rfl<|xE<|zH ?_;obtain rfl:=zB N;exact xB ⟨_,_,(.tmp rfl ResV.nil),(zX [0] rfl (by decide)),⟨_,_,_,rfl,rfl,h7⟩⟩
    intro hc N;refine zT<|yX<|yF 3 [] [22,24] rfl<|bE N fun x hy2 N=>wF rfl rfl h1 hy2 ?_;intro ad ccs1 hat hrep;obtain ⟨p6,c5,p7,c6,rfl,h8,h9⟩:=oW hrep;refine xT 0 hat (cLoop x p6 c5 p7 c6) (vA (cLoop x p6 c5 p7 c6)) rfl<|yF 6 [] [27] rfl ?_;obtain ⟨⟨y1,y2⟩,hy3,N⟩:=zC N;refine xM (eR x p2 _ hy3 h8 h9 h2) ?_;rintro I01 hs2 v2 k2 le1 - ⟨v02,v03,rfl,rfl,rfl,rfl⟩ -;have ⟨h,h1,h2⟩:=m3 le1 h h1 h2;refine yL [] [7,8] rfl<|yE<|yO [9] rfl<|uV<|mH [(0,vS p out c),(1,vS p1 nest c1),(2,vS p3 p2 c2),(8,vI y2),(9,vI y1)] ?_;obtain ⟨o01,ho01,hMl⟩:=zC N;refine ih_spec_l2Points_l1 nest p2 y2 out y1 o01 ho01 iR h1 h2 h (fun _ _ _ h=>h) (fun _ _ h=>h) ?_;intro I05 out2 p9 c8 cs4 heq1 le5 h13;subst o01;refine zU<|sI [6] rfl<|zI<|yS ?_;obtain rfl:=zB hMl;exact xB ⟨_,_,(.tmp rfl ResV.nil),(zX [0] rfl (by decide)),⟨_,_,_,rfl,rfl,h13⟩⟩
  intro F_spec_l2Points F_spec_l2Points_l1 ih_spec_l2Points ih_spec_l2Points_l1 nest p2 y2 out1 v04 o N B I0 I Q p1 c1 p3 c2 p8 c7 cs3 H h1 h2 h12 hg ho hx;refine xH hg ho<|yA<|yA ?_;refine wI N [hO (List Int) (vS p8 out1 c7) cs3] (fun t39=>[(0,vS p8 out1 c7),(1,vS p1 nest c1),(2,vS p3 p2 c2),(8,vI y2),(9,vI v04),(39,.bool t39)]) (fun o0 ho0=>?_) ?_
  · have H:=iS I;refine zM<|yF 4 [] [35] rfl<|xP [35] ho0 ?_ ?_
    · intro hc1 N;exact yL [] [39] rfl<|yM<|zR (ct N H)
    intro hc1 N;exact wC [] [(39,vF)]<|yM<|zR (ct N H)
  intro t39 I02 le2 hMc;have ⟨h12,h1,h2,H⟩:=m4 le2 h12 h1 h2 H;refine zI<|yH hMc ?_ ?_
  · intro hc2 N;refine zT<|yE<|yN<|zM<|yF 2 [] [42,43] rfl<|qB [] Int ?_;intro b2 hb2;have h14:RL I02 [] ([]:List Int):=rfl;refine yF 4 [] [45] rfl ?_;obtain ⟨ccs2,k02,k03⟩:=h2;have h2:SL I02 (vS p3 p2 c2) p2:=⟨_,k02,k03⟩;obtain ⟨l1,hy4,N⟩:=zC N;refine nO 3 1 0 rfl rfl rfl h14 (.inl k02) k03 hy4 fun p10 c9 cs5 h15=>qH (yB [0,1] (hs':=[hO Int (vS p10 l1 c9) cs5,hO (List Int) (vS p8 out1 c7) cs3]))<|yF 6 [] [47] rfl<|qB [vI v04] Int ?_;intro b3 hb3;have h16:RL I02 [vI v04] ([v04]:List Int):=rI [v04];obtain ⟨l2,hy5,N⟩:=zC N;refine nO 3 1 1 rfl rfl rfl h15 (.inr ⟨0,rfl⟩) h16 hy5 fun p11 c10 cs6 h17=>qH (yB [1,2] (hs':=[hO Int (vS p11 l2 c10) cs6,hO (List Int) (vS p8 out1 c7) cs3]))<|vZ 0 rfl ?_;intro I03 le3 hl01;have h18:=SL.of_frozen hl01 le3 h17;have ⟨h1,h2,h12,H⟩:=m4 le3 h1 h2 h12 H;obtain ⟨y3,hy6,N⟩:=zC N;refine rA (ih_spec_l2Points out1 nest l2 _ hy6 h12 h1 h18) rfl ?_;rintro I04 hs2 v2 k2 le4 - ⟨p12,c11,cs7,rfl,rfl,h19⟩ -;have ⟨h1,h2,H⟩:=m3 le4 h1 h2 H;exact yL [] [0] rfl<|zQ<|zI<|zM<|yL [] [9] rfl<|xF<|mJ<|ih_spec_l2Points_l1 nest p2 y2 y3 (W (v04 + 1)) _ N H h1 h2 h19 hg ho hx
  intro hc2 N;exact tS<|yM<|hx _ _ _ _ _ (zB N).symm H h12
theorem zBx:∀ out nest p2 r,vE out nest p2=some r→∀ {I:Imm}{p c cs p1 c1 p3 c2},(RL I cs out)→(S4 I p1 nest c1)→(S4 I p3 p2 c2)→RT 192 [vS p out c,vS p1 nest c1,vS p3 p2 c2] I [hO (List Int) (vS p out c) cs] (gE  r):=zBL.1
mutual
def tE (nest:(List zG)) (p1:(List Int)) (most:Int):Option (Int):=do
 if ((p1.length:Int) == (nest.length:Int)) then
  pure (id 1)
 else
  let x←idx nest (p1.length:Int)
  let (y1,y2)←rZ x p1
  let n01←tG (same nest) (same p1) (same most) (same y2) (same 1) (same y1)
  pure (id n01)
 partial_fixpoint
def tG (nest:(List zG)) (p1:(List Int)) (most:Int) (y2:Int) (n0:Int) (v04:Int):Option (Int):=do
 let t35←(do
   if (decide (v04 < y2)) then
    pure (decide (n0 ≤ most))
   else
    pure false
     : Option Bool)
 if t35 then
  let l←app 8 ([]:List Int) p1
  let l1←app 8 l ([v04]:List Int)
  let y3←tE (same nest) (same l1) (W (most - n0))
  tG (same nest) (same p1) (same most) (same y2) (W (n0 + y3)) (W (v04 + 1))
 else
  pure (id n0)
 partial_fixpoint
end
theorem zC6:(∀ (nest:(List zG)) (p1:(List Int)) (most:Int) r,tE nest p1 most=some r→∀ {I:Imm}{p c p2 c1},(S4 I p nest c)→(S4 I p2 p1 c1)→RT 231 [vS p nest c,vS p2 p1 c1,vI most] I [] (xO  r))∧(∀ (nest:(List zG)) (p1:(List Int)) (most:Int) (y2:Int) (n0:Int) (v04:Int) o,tG nest p1 most y2 n0 v04=some o→∀ {B}{I0 I:Imm}{Q p c p2 c1},I0.le I→(S4 I p nest c)→(S4 I p2 p1 c1)→NG Q→NO Q→(∀ (I':Imm) (n01:Int),o=n01→I0.le I'→T 52 B Q (.exit 0) I' [] [(7,vI n01)])→J Tryz.prog 52 B (nav (bodyOf Tryz.f231) [1,1,1,1,0,1,0]) Q I [] [(0,vS p nest c),(1,vS p2 p1 c1),(2,vI most),(7,vI n0),(9,vI y2),(10,vI v04)]):=by
  refine tE.mutual_partial_correctness _ _ ?_ ?_
  · intro F_spec_l2Work_l1 ih_spec_l2Work_l1 nest p1 most r N I p c p2 c1 h h1;refine yI Tryz.func231 fun B=>uA []<|sI [7] rfl<|yE<|yO [15] rfl<|zI<|yH N ?_ ?_
    · intro hc N;refine yO [6] rfl<|xE<|zH ?_;obtain rfl:=zB N;exact wM
    intro hc N;refine zT<|yX<|yF 3 [] [18,20] rfl<|bE N fun x hy N=>wF rfl rfl h hy ?_;intro ad ccs hat hrep;obtain ⟨p3,c2,p4,c3,rfl,h2,h3⟩:=oW hrep;refine xT 0 hat (cLoop x p3 c2 p4 c3) (vA (cLoop x p3 c2 p4 c3)) rfl<|yF 6 [] [23] rfl ?_;obtain ⟨⟨y1,y2⟩,hy1,N⟩:=zC N;refine xM (eR x p1 _ hy1 h2 h3 h1) ?_;rintro I0 hs2 v2 k2 le - ⟨v02,v03,rfl,rfl,rfl,rfl⟩ -;have ⟨h,h1⟩:=m2 le h h1;refine yL [] [8,9] rfl<|yE<|yO [10] rfl<|uV<|mH [(0,vS p nest c),(1,vS p2 p1 c1),(2,vI most),(7,vI 1),(9,vI y2),(10,vI y1)] ?_;obtain ⟨o01,ho01,hMl⟩:=zC N;refine ih_spec_l2Work_l1 nest p1 most y2 1 y1 o01 ho01 iR h h1 (fun _ _ _ h=>h) (fun _ _ h=>h) ?_;intro I04 n01 heq1 le4;subst o01;refine zU<|sI [6] rfl<|zI<|yS ?_;obtain rfl:=zB hMl;exact wM
  intro F_spec_l2Work F_spec_l2Work_l1 ih_spec_l2Work ih_spec_l2Work_l1 nest p1 most y2 n0 v04 o N B I0 I Q p c p2 c1 H h h1 hg ho hx;refine xH hg ho<|yA<|yA ?_;refine wI N [] (fun t35=>[(0,vS p nest c),(1,vS p2 p1 c1),(2,vI most),(7,vI n0),(9,vI y2),(10,vI v04),(35,.bool t35)]) (fun o0 ho0=>?_) ?_
  · have H:=iS I;refine zM<|yF 4 [] [31] rfl<|xP [31] ho0 ?_ ?_
    · intro hc1 N;exact yL [] [35] rfl<|yM<|zR (ct N H)
    intro hc1 N;exact wC [] [(35,vF)]<|yM<|zR (ct N H)
  intro t35 I01 le1 hMc;have ⟨h,h1,H⟩:=m3 le1 h h1 H;refine zI<|yH hMc ?_ ?_
  · intro hc2 N;refine zT<|yE<|yN<|zM<|yF 2 [] [38,39] rfl<|qB [] Int ?_;intro b hb;have h6:RL I01 [] ([]:List Int):=rfl;refine yF 4 [] [41] rfl ?_;obtain ⟨ccs1,k0,k01⟩:=h1;have h1:SL I01 (vS p2 p1 c1) p1:=⟨_,k0,k01⟩;obtain ⟨l,hy2,N⟩:=zC N;refine nO 3 1 0 rfl rfl rfl h6 (.inl k0) k01 hy2 fun p5 c4 cs h7=>qH (yB [0] (hs':=[hO Int (vS p5 l c4) cs]))<|yF 6 [] [43] rfl<|qB [vI v04] Int ?_;intro b1 hb1;have h8:RL I01 [vI v04] ([v04]:List Int):=rI [v04];obtain ⟨l1,hy3,N⟩:=zC N;refine nO 3 1 1 rfl rfl rfl h7 (.inr ⟨0,rfl⟩) h8 hy3 fun p6 c5 cs1 h9=>qH (yB [1] (hs':=[hO Int (vS p6 l1 c5) cs1]))<|yF 11 [] [48] rfl<|vZ 0 rfl ?_;intro I02 le2 hl0;have h10:=SL.of_frozen hl0 le2 h9;have ⟨h,h1,H⟩:=m3 le2 h h1 H;obtain ⟨y3,hy4,N⟩:=zC N;refine xM (ih_spec_l2Work nest l1 (W (most - n0)) _ hy4 h h10) ?_;rintro I03 hs2 v2 k2 le3 - ⟨v05,rfl,rfl,rfl⟩ -;have ⟨h,h1,H⟩:=m3 le3 h h1 H;exact yL [] [7] rfl<|zQ<|zI<|zM<|yL [] [10] rfl<|xF<|mJ<|ih_spec_l2Work_l1 nest p1 most y2 (W (n0 + y3)) (W (v04 + 1)) _ N H h h1 hg ho hx
  intro hc2 N;exact tS<|yM<|hx _ _ (zB N).symm H
theorem zDS:∀ nest p1 most r,tE nest p1 most=some r→∀ {I:Imm}{p c p2 c1},(S4 I p nest c)→(S4 I p2 p1 c1)→RT 231 [vS p nest c,vS p2 p1 c1,vI most] I [] (xO  r):=zC6.1
def dR (r:(List (List Int))×Bool):KT:=fun kk I' hs' v=>
  ∃ v0 v1,hs'=[]∧v=tupV [v0,v1]∧SL I' v0 r.1∧v1=.bool r.2
def sO (nest:(List zG)):Option ((List (List Int))×Bool):=do
 let t12←(do
   let y←rE nest
   if (!y) then
    pure true
   else
    let y1←tE nest ([]:List Int) 1200
    pure (decide (y1 > 1200))
     : Option Bool)
 if t12 then
  pure (([]:List (List Int)),false)
 else
  let y2←vE ([]:List (List Int)) nest ([]:List Int)
  if (decide ((y2.length:Int) > 120)) then
   pure (([]:List (List Int)),false)
  else
   pure (y2,true)
theorem zAh:∀ nest r,sO nest=some r→∀ {I:Imm}{p c},(S4 I p nest c)→RT 190 [vS p nest c] I [] (dR  r):=by
 intro nest r N I p c h;unfold sO at N;refine yI Tryz.func190 fun B=>?_;have H:=iS I;refine uA []<|yE<|yA ?_;refine wI N [] (fun t12=>[(0,vS p nest c),(12,.bool t12)]) (fun o0 ho0=>?_) ?_
 · have H:=iS I;refine zM<|yF 1 [] [5] rfl ?_;obtain ⟨y,hy,N⟩:=zC ho0;refine uB (zBJ nest _ hy h) ?_;intro I01 le;have ⟨h,H⟩:=m2 le h H;refine yF 4 [] [8] rfl<|xP [8] N ?_ ?_
   · intro hc N;exact wC [] [(12,vY)]<|yM<|zR (ct N H)
   intro hc N;refine yF 5 [] [9] rfl<|bE N fun y1 hy1 N=>fQ (zDS nest ([]:List Int) 1200 _ hy1 h (SL.nil _)) ?_;intro I02 le1;have H:=H.trans le1;exact yL [] [12] rfl<|yM<|zR (ct N H)
 intro t12 I0 le2 hMc;have h:=h.mono le2;refine zI<|yH hMc ?_ ?_
 · intro hc1 N;refine yG<|qB [] (List Int) ?_;intro b hb;have h3:RL I0 [] ([]:List (List Int)):=rfl;refine yL [] [2,3] rfl<|xE<|zH<|xN 0 rfl ?_;intro I03 le3 hl0;have h4:=SL.of_frozen hl0 le3 h3;obtain rfl:=zB N;exact xB ⟨_,_,(.tmp rfl (.tmp rfl ResV.nil)),zL,⟨_,_,rfl,rfl,h4,rfl⟩⟩
 intro hc1 N;refine zT<|yX<|qB [] (List Int) ?_;intro b1 hb1;have h5:RL I0 [] ([]:List (List Int)):=rfl;refine yF 2 [] [15] rfl<|bE N fun y2 hy2 N=>rA (zBx ([]:List (List Int)) nest ([]:List Int) _ hy2 h5 h (SL.nil _)) rfl ?_;rintro I04 hs2 v2 k2 le4 - ⟨p1,c1,cs,rfl,rfl,h6⟩ -;refine yL [] [4] rfl<|yE<|yO [19] rfl<|zI<|yH N ?_ ?_
 · intro hc2 N;refine yG<|qB [] (List Int) ?_;intro b2 hb2;have h7:RL I04 [] ([]:List (List Int)):=rfl;refine yL [] [2,3] rfl<|xE<|zH<|xN 0 rfl ?_;intro I05 le5 hl01;have h8:=SL.of_frozen hl01 le5 h7;obtain rfl:=zB N;exact xB ⟨_,_,(.tmp rfl (.tmp rfl ResV.nil)),zL,⟨_,_,rfl,rfl,h8,rfl⟩⟩
 intro hc2 N;refine zT<|sI [2,3] rfl<|xE<|xN 0 rfl ?_;intro I06 le6 hl02;have h9:=SL.of_frozen hl02 le6 h6;obtain rfl:=zB N;exact xB ⟨_,_,(.tmp rfl (.tmp rfl ResV.nil)),zL,⟨_,_,rfl,rfl,h9,rfl⟩⟩
def uK (a0:zN) (n0:Int) (i:Int):Option (Int):=do
 if (decide (i < (a0.Dims.length:Int))) then
  let x←idx a0.Dims i
  uK a0 (W (n0 * x)) (W (i + 1))
 else
  pure (id n0)
 partial_fixpoint
theorem zBM (a0:zN):∀ (n0:Int) (i:Int) (o:Int),uK a0 n0 i=some o→∀ {B}{I0 I:Imm}{Q p c}{b:Nat},I0.le I→(S4 I p a0.Dims c)→NG Q→NO Q→(∀ (I':Imm) (n01:Int),o=n01→I0.le I'→T 20 B Q (.exit 0) I' [] [(3,vI n01)])→J Tryz.prog 20 B (nav (bodyOf Tryz.f176) [1,1,0,1,0]) Q I [hB b (cArr a0 p c)] [(1,vP b 0),(3,vI n0),(4,vI i)]:=by
 refine uK.partial_correctness a0 _ fun self ih n0 i o N B I0 I Q p c b H h hg ho hx=>xH hg ho<|yA<|yG<|yL [0] [9] rfl<|zI<|yH N ?_ ?_
 · intro hc N;refine zT<|yE<|yN<|zM<|yF 4 [0] [12,14,15] rfl<|bE N fun x hy N=>wF rfl rfl h hy ?_;intro ad ccs hat hrep;obtain rfl:=hrep;exact xT 0 hat [vI x] (vI x) rfl<|yL [] [3] rfl<|zQ<|zI<|zM<|yL [] [4] rfl<|xF<|mJ<|ih (W (n0 * x)) (W (i + 1)) _ N H h hg ho hx
 intro hc N;exact tS<|xQ zL<|yM<|hx _ _ (zB N).symm H
def pQ (a0:zN):Option (Int):=do
 let n01←uK a0 1 0
 pure (id n01)
theorem zDT:∀ a0 r,pQ a0=some r→∀ {I:Imm}{p c},(S4 I p a0.Dims c)→RT 176 [vA (cArr a0 p c)] I [] (xO  r):=by
 intro a0 r N I p c h;unfold pQ at N;refine yI Tryz.func176 fun B=>yG<|uG (cArr a0 p c) ?_;intro b hb;refine wC [] []<|sI [3] rfl<|yE<|yO [4] rfl<|uV<|mH [(1,vP b 0),(3,vI 1),(4,vI 0)] ?_;obtain ⟨o0,ho0,hMl⟩:=zC N;refine zBM a0 1 0 o0 ho0 iR h (fun _ _ _ h=>h) (fun _ _ h=>h) ?_;intro I0 n01 heq le;subst o0;refine zU<|sI [2] rfl<|zI<|yS ?_;obtain rfl:=zB hMl;exact wM
def vJ (list:(List zN)) (a0:zF) (point:(List Int)) (i:Int) (n0:Int) (k0:Int):Option (Out Int (Int)):=do
 if (decide (k0 < (a0.Subs.length:Int))) then
  let x2←idx list i
  if ((a0.Subs.length:Int) != (x2.Dims.length:Int)) then
   pure (.ret (-1))
  else
   let x3←idx a0.Subs k0
   let y1←tV x3 point
   let t70←(do
     if (decide (y1 < 0)) then
      pure true
     else
      let x4←idx list i
      let x5←idx x4.Dims k0
      pure (decide (y1 ≥ x5))
       : Option Bool)
   if t70 then
    pure (.ret (-1))
   else
    let x6←idx list i
    let x7←idx x6.Dims k0
    vJ list a0 point i (W ((W (n0 * x7)) + y1)) (W (k0 + 1))
 else
  pure (.done n0)
 partial_fixpoint
theorem zBN (list:(List zN)) (a0:zF) (point:(List Int)) (i:Int):∀ (n0:Int) (k0:Int) (o:Out Int (Int)),vJ list a0 point i n0 k0=some o→∀ {B}{I0 I:Imm}{Q}{base:Int}{p c p1 c1 p2 c2}{b:Nat},I0.le I→(S4 I p list c)→(S4 I p2 point c2)→(S4 I p1 a0.Subs c1)→NG Q→NO Q→(∀ (I':Imm) (n01:Int),o=(.done n01)→I0.le I'→T 86 B Q (.exit 2) I' [] [(7,vI base),(9,vI n01)])→(∀ r I' hs' m',o=(.ret r)→I0.le I'→RS Tryz.prog Tryz.f133 B (xO  r) I' hs' m'→T 86 B Q .ret I' hs' m')→J Tryz.prog 86 B (nav (bodyOf Tryz.f133) [1,1,0,1,0,0,1,0,0,1,1,0,1,0]) Q I [hB b (cAccess a0 p1 c1)] [(0,vS p list c),(2,vS p2 point c2),(4,vP b 0),(7,vI base),(8,vI i),(9,vI n0),(10,vI k0)]:=by
 refine vJ.partial_correctness list a0 point i _ fun self ih n0 k0 o N B I0 I Q base p c p1 c1 p2 c2 b H h h2 h1 hg ho hx hr=>xH hg ho<|yA<|yG<|yL [0] [37] rfl<|zI<|yH N ?_ ?_
 · intro hc2 N;refine zT<|yE<|yN<|yA<|yA<|mU (by kernel_rfl) (by kernel_rfl)<|gN 5 [0] [42,43,44] rfl<|bE N fun x2 hy3 N=>dJ rfl rfl h hy3 ?_;intro ad2 ccs2 hat2 hrep2;obtain ⟨p5,c5,rfl,h6⟩:=sK hrep2;refine gN 7 [] [46] rfl<|dI 1 hat2 [vS p5 x2.Dims c5] (vS p5 x2.Dims c5) rfl<|zFQ [] [49] rfl<|zI<|yH N ?_ ?_
   · intro hc3 N;exact yO [6] rfl<|xE<|zH<|zV<|zH<|zH<|hr _ _ _ _ (zB N).symm H ⟨_,_,(.tmp rfl ResV.nil),zL,⟨_,rfl,rfl,rfl⟩⟩
   intro hc3 N;refine zT<|yX<|yF 3 [0] [51,52] rfl<|bE N fun x3 hy4 N=>wF rfl rfl h1 hy4 ?_;intro ad3 ccs3 hat3 hrep3;obtain ⟨p6,c6,rfl,h7⟩:=yD hrep3;refine xT 0 hat3 (cAff x3 p6 c6) (vA (cAff x3 p6 c6)) rfl<|yF 6 [] [55] rfl<|bE N fun y1 hy5 N=>fQ (nR x3 point _ hy5 h7 h2) ?_;intro I01 le1;have ⟨h,h2,h1,H⟩:=m4 le1 h h2 h1 H;refine yL [] [11] rfl<|yE<|yA ?_;refine wI N [hB b (cAccess a0 p1 c1)] (fun t70=>[(0,vS p list c),(2,vS p2 point c2),(4,vP b 0),(7,vI base),(8,vI i),(9,vI n0),(10,vI k0),(11,vI y1),(70,.bool t70)]) (fun o0 ho0=>?_) ?_
   · have H:=iS I01;refine zM<|yF 3 [] [59] rfl<|xP [59] ho0 ?_ ?_
     · intro hc4 N;exact wC [] [(70,vY)]<|yM<|zR (ct N H)
     intro hc4 N;refine yF 6 [] [60,61,62] rfl<|bE N fun x4 hy6 N=>wF rfl rfl h hy6 ?_;intro ad4 ccs4 hat4 hrep4;obtain ⟨p7,c7,rfl,h9⟩:=sK hrep4;refine yF 8 [] [64] rfl<|xT 1 hat4 [vS p7 x4.Dims c7] (vS p7 x4.Dims c7) rfl<|yF 10 [] [66] rfl<|bE N fun x5 hy7 N=>wF rfl rfl h9 hy7 ?_;intro ad5 ccs5 hat5 hrep5;obtain rfl:=hrep5;exact xT 0 hat5 [vI x5] (vI x5) rfl<|yL [] [70] rfl<|yM<|zR (ct N H)
   intro t70 I02 le2 hMc;have ⟨h,h2,h1,H⟩:=m4 le2 h h2 h1 H;refine zI<|yH hMc ?_ ?_
   · intro hc5 N;exact yO [6] rfl<|xE<|zH<|zV<|zH<|zH<|hr _ _ _ _ (zB N).symm H ⟨_,_,(.tmp rfl ResV.nil),zL,⟨_,rfl,rfl,rfl⟩⟩
   intro hc5 N;refine zT<|zI<|zM<|yF 3 [] [71,72,73] rfl<|bE N fun x6 hy8 N=>wF rfl rfl h hy8 ?_;intro ad6 ccs6 hat6 hrep6;obtain ⟨p8,c8,rfl,h10⟩:=sK hrep6;refine yF 5 [] [75] rfl<|xT 1 hat6 [vS p8 x6.Dims c8] (vS p8 x6.Dims c8) rfl<|yF 7 [] [77] rfl<|bE N fun x7 hy9 N=>wF rfl rfl h10 hy9 ?_;intro ad7 ccs7 hat7 hrep7;obtain rfl:=hrep7;exact xT 0 hat7 [vI x7] (vI x7) rfl<|yL [] [9] rfl<|zQ<|zI<|zM<|yL [] [10] rfl<|xF<|mJ<|ih (W ((W (n0 * x7)) + y1)) (W (k0 + 1)) _ N H h h2 h1 hg ho hx hr
 intro hc2 N;exact tS<|xQ zL<|yM<|hx _ _ (zB N).symm H
def vK (list:(List zN)) (a0:zF) (point:(List Int)) (base:Int) (i:Int):Option (Out Unit (Int)):=do
 if (decide (i < (list.length:Int))) then
  let x←idx list i
  if (!(x.Name.l == a0.Array.l)) then
   let x1←idx list i
   let y←pQ x1
   vK list a0 point (W (base + y)) (W (i + 1))
  else
   match←vJ list a0 point i 0 0 with
   | .ret r0=>pure (.ret r0)
   | .done n01 =>
    pure (.ret (W (base + n01)))
 else
  pure (.done ())
 partial_fixpoint
theorem zBO (list:(List zN)) (a0:zF) (point:(List Int)):∀ (base:Int) (i:Int) (o:Out Unit (Int)),vK list a0 point base i=some o→∀ {B}{I0 I:Imm}{Q p c p1 c1 p2 c2}{b:Nat},I0.le I→(S4 I p list c)→(S4 I p2 point c2)→(S4 I p1 a0.Subs c1)→NG Q→NO Q→(∀ (I':Imm) ,o=(.done ())→I0.le I'→T 86 B Q (.exit 0) I' [] [])→(∀ r I' hs' m',o=(.ret r)→I0.le I'→RS Tryz.prog Tryz.f133 B (xO  r) I' hs' m'→T 86 B Q .ret I' hs' m')→J Tryz.prog 86 B (nav (bodyOf Tryz.f133) [1,1,0,1,0]) Q I [hB b (cAccess a0 p1 c1)] [(0,vS p list c),(2,vS p2 point c2),(4,vP b 0),(7,vI base),(8,vI i)]:=by
 refine vK.partial_correctness list a0 point _ fun self ih base i o N B I0 I Q p c p1 c1 p2 c2 b H h h2 h1 hg ho hx hr=>xH hg ho<|yA<|yO [15] rfl<|zI<|yH N ?_ ?_
 · intro hc N;refine zT<|yE<|yN<|yA<|yA<|mU (by kernel_rfl) (by kernel_rfl)<|gN 2 [] [18,19] rfl<|bE N fun x hy N=>dJ rfl rfl h hy ?_;intro ad ccs hat hrep;obtain ⟨p3,c3,rfl,h3⟩:=sK hrep;refine gN 4 [] [21] rfl<|dI 0 hat [vT x.Name.l] (vT x.Name.l) rfl<|zFQ [0] [25] rfl<|zI<|yH N ?_ ?_
   · intro hc1 N;refine yG<|yF 3 [] [26,27,28] rfl<|bE N fun x1 hy1 N=>wF rfl rfl h hy1 ?_;intro ad1 ccs1 hat1 hrep1;obtain ⟨p4,c4,rfl,h4⟩:=sK hrep1;refine xT 0 hat1 (cArr x1 p4 c4) (vA (cArr x1 p4 c4)) rfl<|bE N fun y hy2 N=>fQ (zDT x1 _ hy2 h4) ?_;intro I0 le;have ⟨h,h2,h1,H⟩:=m4 le h h2 h1 H;exact yL [] [7] rfl<|zI<|zEe<|mZ<|zU<|zI<|zM<|yL [] [8] rfl<|xF<|mJ<|ih (W (base + y)) (W (i + 1)) _ N H h h2 h1 hg ho hx hr
   intro hc1 N;refine zT<|sI [9] rfl<|yE<|yO [10] rfl<|uV<|mH [(0,vS p list c),(2,vS p2 point c2),(4,vP b 0),(7,vI base),(8,vI i),(9,vI 0),(10,vI 0)] ?_;obtain ⟨o01,ho01,hMl⟩:=zC N;refine zBN list a0 point i 0 0 o01 ho01 iR h h2 h1 (fun _ _ _ h=>hg _ _ _ h) (fun _ _ h=>ho _ _ h) ?_ ?_
   · intro I03 n01 heq1 le3;subst o01;have H:=H.trans le3;exact zU<|sI [6] rfl<|xE<|zV<|zH<|zH<|hr _ _ _ _ (zB hMl).symm H ⟨_,_,(.tmp rfl ResV.nil),zL,⟨_,rfl,rfl,rfl⟩⟩
   intro r0 I9 hs9 m9 heq9 le9 hrs9;subst heq9;exact zV<|zH<|zV<|zH<|zH<|hr _ _ _ _ (zB hMl).symm (H.trans le9) hrs9
 intro hc N;exact tS<|xQ zL<|yM<|hx _  (zB N).symm H
def qL (list:(List zN)) (a0:zF) (point:(List Int)):Option (Int):=do
 match←vK list a0 point 0 0 with
 | .ret r0=>pure r0
 | .done _ =>
  pure (-1)
theorem dS:∀ list a0 point r,qL list a0 point=some r→∀ {I:Imm}{p c p1 c1 p2 c2},(S4 I p list c)→(S4 I p1 a0.Subs c1)→(S4 I p2 point c2)→RT 133 [vS p list c,vA (cAccess a0 p1 c1),vS p2 point c2] I [] (xO  r):=by
 intro list a0 point r N I p c p1 c1 p2 c2 h h1 h2;unfold qL at N;refine yI Tryz.func133 fun B=>yG<|uG (cAccess a0 p1 c1) ?_;intro b hb;refine wC [] []<|sI [7] rfl<|yE<|yO [8] rfl<|uV<|mH [(0,vS p list c),(2,vS p2 point c2),(4,vP b 0),(7,vI 0),(8,vI 0)] ?_;obtain ⟨o02,ho02,hMl1⟩:=zC N;refine zBO list a0 point 0 0 o02 ho02 iR h h2 h1 (fun _ _ _ h=>h) (fun _ _ h=>h) ?_ ?_
 · intro I04  heq2 le4;subst o02;refine zU<|sI [6] rfl<|zI<|yS ?_;obtain rfl:=zB hMl1;exact wM
 intro r0 I9 hs9 m9 heq9 le9 hrs9;subst heq9;refine zV<|zH ?_;obtain rfl:=zB hMl1;exact xB hrs9
end Go.LN
