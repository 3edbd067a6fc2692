/- Helper of the proof (see the last text). -/
import Derived.Test.YtpacccdphbhfbaaGreatHM7
set_option linter.unusedVariables false
set_option linter.unusedSimpArgs false
namespace Go.LN
open Go.Proofs
set_option maxRecDepth 20000
def rR (s:zK):Option (Bool):=do
 let t2←(do
   let y←rY s
   if y then
    let y1←nY s
    pure (id y1)
   else
    pure false
     : Option Bool)
 pure (id t2)
theorem jU:∀ s r,rR s=some r→∀ {I:Imm}{p c p1 c1 p2 c2 p3 c3},(S4 I p s.Write.Subs c)→(S4 I p1 s.Value.Index.Coefs c1)→(S4 I p2 s.Value.Read.Subs c2)→(S4 I p3 s.Value.Kids c3)→RT 17 [vA (cStmt s p c p1 c1 p2 c2 p3 c3)] I [] (zP  r):=by
 intro s r N I p c p1 c1 p2 c2 p3 c3 h h1 h2 h3;unfold rR at N;refine yI Tryz.func17 fun B=>?_;have H:=iS I;refine yG<|uG (cStmt s p c p1 c1 p2 c2 p3 c3) ?_;intro b hb;refine wC [] []<|zI<|yA ?_;refine wI N [] (fun t2=>[(2,.bool t2)]) (fun o0 ho0=>?_) ?_
 · have H:=iS I;refine zM<|sH 1 [0] [(3,vA (cStmt s p c p1 c1 p2 c2 p3 c3))] ?_;obtain ⟨y,hy,N⟩:=zC ho0;refine uB (kK s _ hy h h1 h2 h3) ?_;intro I01 le;have ⟨h,h1,h2,h3,H⟩:=m5 le h h1 h2 h3 H;refine yF 3 [] [5] rfl<|xP [5] N ?_ ?_
   · intro hc N;refine sH 4 [0] [(6,vA (cStmt s p c p1 c1 p2 c2 p3 c3))]<|bE N fun y1 hy1 N=>uB (zCi s _ hy1 h h1 h2 h3) ?_;intro I02 le1;have H:=H.trans le1;exact yL [] [2] rfl<|xQ zL<|yM<|zR (ct N H)
   intro hc N;exact wC [] [(2,vF)]<|xQ zL<|yM<|zR (ct N H)
 intro t2 I0 le2 hMc;refine zI<|yS ?_;obtain rfl:=zB hMc;exact wM
def rS (a0:(List Int)) (b:(List Int)) (i:Int):Option (Out Unit (Bool)):=do
 if (decide (i < (a0.length:Int))) then
  let x←idx a0 i
  let x1←idx b i
  if (x != x1) then
   pure (.ret false)
  else
   rS a0 b (W (i + 1))
 else
  pure (.done ())
 partial_fixpoint
theorem zB8 (a0:(List Int)) (b:(List Int)):∀ (i:Int) (o:Out Unit (Bool)),rS a0 b i=some o→∀ {B}{I0 I:Imm}{Q p c p1 c1},I0.le I→(S4 I p a0 c)→(S4 I p1 b c1)→NG Q→NO Q→(∀ (I':Imm) ,o=(.done ())→I0.le I'→T 26 B Q (.exit 0) I' [] [])→(∀ r I' hs' m',o=(.ret r)→I0.le I'→RS Tryz.prog Tryz.f195 B (zP  r) I' hs' m'→T 26 B Q .ret I' hs' m')→J Tryz.prog 26 B (nav (bodyOf Tryz.f195) [1,1,0,1,0]) Q I [] [(0,vS p a0 c),(1,vS p1 b c1),(5,vI i)]:=by
 refine rS.partial_correctness a0 b _ fun self ih i o N B I0 I Q p c p1 c1 H h h1 hg ho hx hr=>xH hg ho<|yA<|yO [14] rfl<|zI<|yH N ?_ ?_
 · intro hc1 N;refine zT<|yE<|yN<|yA<|mU (by kernel_rfl) (by kernel_rfl)<|gN 2 [] [17,18] rfl<|bE N fun x hy N=>dJ rfl rfl h hy ?_;intro ad ccs hat hrep;obtain rfl:=hrep;refine dI 0 hat [vI x] (vI x) rfl<|gN 6 [] [21,22] rfl<|bE N fun x1 hy1 N=>dJ rfl rfl h1 hy1 ?_;intro ad1 ccs1 hat1 hrep1;obtain rfl:=hrep1;refine dI 0 hat1 [vI x1] (vI x1) rfl<|zFQ [] [25] rfl<|zI<|yH N ?_ ?_
   · intro hc2 N;exact uA [(4,vF)]<|xE<|zV<|zH<|zH<|hr _ _ _ _ (zB N).symm H ⟨_,_,(.tmp rfl ResV.nil),zL,⟨_,rfl,rfl,rfl⟩⟩
   intro hc2 N;exact zT<|zQ<|zI<|zM<|yL [] [5] rfl<|xF<|mJ<|ih (W (i + 1)) _ N H h h1 hg ho hx hr
 intro hc1 N;exact tS<|yM<|hx _  (zB N).symm H
def mT (a0:(List Int)) (b:(List Int)):Option (Bool):=do
 if ((a0.length:Int) != (b.length:Int)) then
  pure false
 else
  match←rS a0 b 0 with
  | .ret r0=>pure r0
  | .done _ =>
   pure true
theorem zD6:∀ a0 b r,mT a0 b=some r→∀ {I:Imm}{p c p1 c1},(S4 I p a0 c)→(S4 I p1 b c1)→RT 195 [vS p a0 c,vS p1 b c1] I [] (zP  r):=by
 intro a0 b r N I p c p1 c1 h h1;unfold mT at N;refine yI Tryz.func195 fun B=>uA []<|yE<|yO [10] rfl<|zI<|yH N ?_ ?_
 · intro hc N;refine uA [(4,vF)]<|xE<|zH ?_;obtain rfl:=zB N;exact wM
 intro hc N;refine zT<|yE<|yO [5] rfl<|uV<|mH [(0,vS p a0 c),(1,vS p1 b c1),(5,vI 0)] ?_;obtain ⟨o0,ho0,hMl⟩:=zC N;refine zB8 a0 b 0 o0 ho0 iR h h1 (fun _ _ _ h=>h) (fun _ _ h=>h) ?_ ?_
 · intro I0  heq le;subst o0;refine zU<|zFP [(4,vY)]<|zI<|yS ?_;obtain rfl:=zB hMl;exact wM
 intro r0 I9 hs9 m9 heq9 le9 hrs9;subst heq9;refine zV<|zH ?_;obtain rfl:=zB hMl;exact xB hrs9
def pL (a0:zA) (b:zA):Option (Bool):=do
 let t4←(do
   if (a0.Const == b.Const) then
    let y←mT a0.Coefs b.Coefs
    pure (id y)
   else
    pure false
     : Option Bool)
 pure (id t4)
theorem zAp:∀ a0 b r,pL a0 b=some r→∀ {I:Imm}{p c p1 c1},(S4 I p a0.Coefs c)→(S4 I p1 b.Coefs c1)→RT 210 [vA (cAff a0 p c),vA (cAff b p1 c1)] I [] (zP  r):=by
 intro a0 b r N I p c p1 c1 h h1;unfold pL at N;refine yI Tryz.func210 fun B=>?_;have H:=iS I;refine yG<|uG (cAff a0 p c) ?_;intro b1 hb;refine uG (cAff b p1 c1) ?_;intro b2 hb1;refine wC [] []<|zI<|yA ?_;refine wI N [] (fun t4=>[(4,.bool t4)]) (fun o0 ho0=>?_) ?_
 · have H:=iS I;refine zM<|yF 6 [1,0] [10] rfl<|xP [10] ho0 ?_ ?_
   · intro hc N;refine yF 10 [1,0] [12,14] rfl<|bE N fun y hy N=>uB (zD6 a0.Coefs b.Coefs _ hy h h1) ?_;intro I01 le;have H:=H.trans le;exact yL [] [4] rfl<|xQ zL<|yM<|zR (ct N H)
   intro hc N;exact wC [] [(4,vF)]<|xQ zL<|yM<|zR (ct N H)
 intro t4 I0 le1 hMc;refine zI<|yS ?_;obtain rfl:=zB hMc;exact wM
def tC (a0:(List zA)) (b:(List zA)) (i:Int):Option (Out Unit (Bool)):=do
 if (decide (i < (a0.length:Int))) then
  let x←idx a0 i
  let x1←idx b i
  let y←pL x x1
  if (!y) then
   pure (.ret false)
  else
   tC a0 b (W (i + 1))
 else
  pure (.done ())
 partial_fixpoint
theorem dA (a0:(List zA)) (b:(List zA)):∀ (i:Int) (o:Out Unit (Bool)),tC a0 b i=some o→∀ {B}{I0 I:Imm}{Q p c p1 c1},I0.le I→(S4 I p a0 c)→(S4 I p1 b c1)→NG Q→NO Q→(∀ (I':Imm) ,o=(.done ())→I0.le I'→T 27 B Q (.exit 0) I' [] [])→(∀ r I' hs' m',o=(.ret r)→I0.le I'→RS Tryz.prog Tryz.f167 B (zP  r) I' hs' m'→T 27 B Q .ret I' hs' m')→J Tryz.prog 27 B (nav (bodyOf Tryz.f167) [1,1,0,1,0]) Q I [] [(0,vS p a0 c),(1,vS p1 b c1),(5,vI i)]:=by
 refine tC.partial_correctness a0 b _ fun self ih i o N B I0 I Q p c p1 c1 H h h1 hg ho hx hr=>xH hg ho<|yA<|yO [14] rfl<|zI<|yH N ?_ ?_
 · intro hc1 N;refine zT<|yE<|yN<|yA ?_;obtain ⟨x,hy,N⟩:=zC N;obtain ⟨x1,hy1,N⟩:=zC N;obtain ⟨y,hy2,N⟩:=zC N;refine wZ [.p (vS p a0 c) [],.p (vI i) [],.x (ePAff x),.x (eVAff x),.p (vS p1 b c1) [],.p (vI i) [],.x (ePAff x1),.x (eVAff x1),.q (.bool y),.p (.bool (!y)) []] [[],[],[(0,false),(1,false)],[(2,false)],[],[],[(4,false),(5,false)],[(6,false)],[(3,false),(7,false)],[(8,false)]] [] [] [(9,false)] zL ?_ ?_
   · refine Op<|Op<|Ox ?_<|Ox ?_<|Op<|Op<|Ox ?_<|Ox ?_<|Oq ?_<|Op<|On
     · intro I1 hf le1;refine yY [17,18] rfl ?_;have h:=h.mono le1;refine wF rfl rfl h hy ?_;intro ad ccs hat hrep;obtain ⟨p2,c2,rfl,h2⟩:=yD hrep;exact yW [] iR ⟨_,_,_,rfl,rfl,hat,h2⟩
     · rintro I1 hf le1 _ _ ⟨ad,p2,c2,rfl,rfl,hat,h2⟩;exact yY [19] rfl<|xT 0 hat (cAff x p2 c2) (vA (cAff x p2 c2)) rfl<|yW [] iR ⟨_,_,rfl,rfl,h2⟩
     · intro I1 hf le1;refine yY [21,22] rfl ?_;have h1:=h1.mono le1;refine wF rfl rfl h1 hy1 ?_;intro ad1 ccs1 hat1 hrep1;obtain ⟨p3,c3,rfl,h3⟩:=yD hrep1;exact yW [] iR ⟨_,_,_,rfl,rfl,hat1,h3⟩
     · rintro I1 hf le1 _ _ ⟨ad1,p3,c3,rfl,rfl,hat1,h3⟩;exact yY [23] rfl<|xT 0 hat1 (cAff x1 p3 c3) (vA (cAff x1 p3 c3)) rfl<|yW [] iR ⟨_,_,rfl,rfl,h3⟩
     rintro I1 hf le1 _ _ ⟨p21,c21,rfl,rfl,h21⟩ _ _ ⟨p31,c31,rfl,rfl,h31⟩;refine yY [20,24] rfl ?_;have H:=iS I1;refine uB (zAp x x1 _ hy2 h21 h31) ?_;intro I0 le;have H:=H.trans le;exact xC H
   intro I01 le1;refine yY [0,1,5,26] rfl ?_;have ⟨h,h1,H⟩:=m3 le1 h h1 H;refine zZ rfl<|zI<|yH N ?_ ?_
   · intro hc2 N;exact uA [(4,vF)]<|xE<|zV<|zH<|zH<|hr _ _ _ _ (zB N).symm H ⟨_,_,(.tmp rfl ResV.nil),zL,⟨_,rfl,rfl,rfl⟩⟩
   intro hc2 N;exact zT<|zQ<|zI<|zM<|yL [] [5] rfl<|xF<|mJ<|ih (W (i + 1)) _ N H h h1 hg ho hx hr
 intro hc1 N;exact tS<|yM<|hx _  (zB N).symm H
def nL (a0:(List zA)) (b:(List zA)):Option (Bool):=do
 if ((a0.length:Int) != (b.length:Int)) then
  pure false
 else
  match←tC a0 b 0 with
  | .ret r0=>pure r0
  | .done _ =>
   pure true
theorem zAq:∀ a0 b r,nL a0 b=some r→∀ {I:Imm}{p c p1 c1},(S4 I p a0 c)→(S4 I p1 b c1)→RT 167 [vS p a0 c,vS p1 b c1] I [] (zP  r):=by
 intro a0 b r N I p c p1 c1 h h1;unfold nL at N;refine yI Tryz.func167 fun B=>uA []<|yE<|yO [10] rfl<|zI<|yH N ?_ ?_
 · intro hc N;refine uA [(4,vF)]<|xE<|zH ?_;obtain rfl:=zB N;exact wM
 intro hc N;refine zT<|yE<|yO [5] rfl<|uV<|mH [(0,vS p a0 c),(1,vS p1 b c1),(5,vI 0)] ?_;obtain ⟨o0,ho0,hMl⟩:=zC N;refine dA a0 b 0 o0 ho0 iR h h1 (fun _ _ _ h=>h) (fun _ _ h=>h) ?_ ?_
 · intro I02  heq le2;subst o0;refine zU<|zFP [(4,vY)]<|zI<|yS ?_;obtain rfl:=zB hMl;exact wM
 intro r0 I9 hs9 m9 heq9 le9 hrs9;subst heq9;refine zV<|zH ?_;obtain rfl:=zB hMl;exact xB hrs9
def qG (a0:zF) (b:zF):Option (Bool):=do
 let t4←(do
   if (a0.Array.l == b.Array.l) then
    let y←nL a0.Subs b.Subs
    pure (id y)
   else
    pure false
     : Option Bool)
 pure (id t4)
theorem jL:∀ a0 b r,qG a0 b=some r→∀ {I:Imm}{p c p1 c1},(S4 I p a0.Subs c)→(S4 I p1 b.Subs c1)→RT 107 [vA (cAccess a0 p c),vA (cAccess b p1 c1)] I [] (zP  r):=by
 intro a0 b r N I p c p1 c1 h h1;unfold qG at N;refine yI Tryz.func107 fun B=>?_;have H:=iS I;refine yG<|uG (cAccess a0 p c) ?_;intro b1 hb;refine uG (cAccess b p1 c1) ?_;intro b2 hb1;refine wC [] []<|zI<|yA ?_;refine wI N [] (fun t4=>[(4,.bool t4)]) (fun o0 ho0=>?_) ?_
 · have H:=iS I;refine zM<|yF 6 [1,0] [10] rfl<|xP [10] ho0 ?_ ?_
   · intro hc N;refine yF 10 [1,0] [12,14] rfl<|bE N fun y hy N=>uB (zAq a0.Subs b.Subs _ hy h h1) ?_;intro I01 le;have H:=H.trans le;exact yL [] [4] rfl<|xQ zL<|yM<|zR (ct N H)
   intro hc N;exact wC [] [(4,vF)]<|xQ zL<|yM<|zR (ct N H)
 intro t4 I0 le1 hMc;refine zI<|yS ?_;obtain rfl:=zB hMc;exact wM
mutual
def qY (e0:zD) (name:Str):Option (Bool):=do
 let t15←(do
   if (e0.Kind == 3) then
    pure (e0.Read.Array.l == name.l)
   else
    pure false
     : Option Bool)
 if t15 then
  pure true
 else
  match←xZ (same e0) (same name) (same 0) with
  | .ret r0=>pure r0
  | .done _ =>
   pure false
 partial_fixpoint
def xZ (e0:zD) (name:Str) (i:Int):Option (Out Unit (Bool)):=do
 if (decide (i < (e0.Kids.length:Int))) then
  let x←idx e0.Kids i
  let y←qY (same x) (same name)
  if y then
   pure (.ret true)
  else
   xZ (same e0) (same name) (W (i + 1))
 else
  pure (.done ())
 partial_fixpoint
end
theorem zCN:(∀ (e0:zD) (name:Str) r,qY e0 name=some r→∀ {I:Imm}{p c p1 c1 p2 c2},(S4 I p e0.Index.Coefs c)→(S4 I p1 e0.Read.Subs c1)→(S4 I p2 e0.Kids c2)→RT 108 [vA (cExpr e0 p c p1 c1 p2 c2),vT name.l] I [] (zP  r))∧(∀ (e0:zD) (name:Str) (i:Int) o,xZ e0 name i=some o→∀ {B}{I0 I:Imm}{Q p c p1 c1 p2 c2}{b:Nat},I0.le I→(S4 I p e0.Index.Coefs c)→(S4 I p1 e0.Read.Subs c1)→(S4 I p2 e0.Kids c2)→NG Q→NO Q→(∀ (I':Imm) ,o=(.done ())→I0.le I'→T 30 B Q (.exit 0) I' [] [])→(∀ r I' hs' m',o=(.ret r)→I0.le I'→RS Tryz.prog Tryz.f108 B (zP  r) I' hs' m'→T 30 B Q .ret I' hs' m')→J Tryz.prog 30 B (nav (bodyOf Tryz.f108) [1,1,0,1,0]) Q I [hB b (cExpr e0 p c p1 c1 p2 c2)] [(1,vT name.l),(2,vP b 0),(5,vI i)]):=by
  refine qY.mutual_partial_correctness _ _ ?_ ?_
  · intro F_spec_l12Uses_l1 ih_spec_l12Uses_l1 e0 name r N I p c p1 c1 p2 c2 h h1 h2;refine yI Tryz.func108 fun B=>?_;have H:=iS I;refine yG<|uG (cExpr e0 p c p1 c1 p2 c2) ?_;intro b hb;refine wC [] []<|yE<|yA ?_;refine wI N [hB b (cExpr e0 p c p1 c1 p2 c2)] (fun t15=>[(1,vT name.l),(2,vP b 0),(15,.bool t15)]) (fun o0 ho0=>?_) ?_
    · have H:=iS I;refine zM<|yF 4 [0] [9] rfl<|xP [9] ho0 ?_ ?_
      · intro hc N;exact yL [0] [15] rfl<|yM<|zR (ct N H)
      intro hc N;exact wC [] [(15,vF)]<|yM<|zR (ct N H)
    intro t15 I0 le hMc;have ⟨h,h1,h2⟩:=m3 le h h1 h2;refine zI<|yH hMc ?_ ?_
    · intro hc1 N;refine uA [(4,vY)]<|xE<|zH ?_;obtain rfl:=zB N;exact wM
    intro hc1 N;refine zT<|yE<|yO [5] rfl<|uV<|mH [(1,vT name.l),(2,vP b 0),(5,vI 0)] ?_;obtain ⟨o01,ho01,hMl⟩:=zC N;refine ih_spec_l12Uses_l1 e0 name 0 o01 ho01 iR h h1 h2 (fun _ _ _ h=>h) (fun _ _ h=>h) ?_ ?_
    · intro I02  heq1 le2;subst o01;refine zU<|zFP [(4,vF)]<|zI<|yS ?_;obtain rfl:=zB hMl;exact wM
    intro r0 I9 hs9 m9 heq9 le9 hrs9;subst heq9;refine zV<|zH ?_;obtain rfl:=zB hMl;exact xB hrs9
  intro F_spec_l12Uses F_spec_l12Uses_l1 ih_spec_l12Uses ih_spec_l12Uses_l1 e0 name i o N B I0 I Q p c p1 c1 p2 c2 b H h h1 h2 hg ho hx hr;refine xH hg ho<|yA<|yG<|yL [0] [20] rfl<|zI<|yH N ?_ ?_
  · intro hc2 N;refine zT<|yE<|yN<|yG<|yF 3 [0] [24,25] rfl<|bE N fun x hy N=>wF rfl rfl h2 hy ?_;intro ad ccs hat hrep;obtain ⟨p3,c3,p4,c4,p5,c5,rfl,h3,h4,h5⟩:=yV hrep;refine xT 0 hat (cExpr x p3 c3 p4 c4 p5 c5) (vA (cExpr x p3 c3 p4 c4 p5 c5)) rfl<|yF 6 [] [28] rfl<|bE N fun y hy1 N=>xM (ih_spec_l12Uses x name _ hy1 h3 h4 h5) ?_;rintro I01 hs2 v2 k2 le1 - ⟨v03,rfl,rfl,rfl⟩ -;have ⟨h,h1,h2,H⟩:=m4 le1 h h1 h2 H;refine zZ rfl<|zI<|yH N ?_ ?_
    · intro hc3 N;exact uA [(4,vY)]<|xE<|zV<|zH<|zH<|hr _ _ _ _ (zB N).symm H ⟨_,_,(.tmp rfl ResV.nil),zL,⟨_,rfl,rfl,rfl⟩⟩
    intro hc3 N;exact zT<|zQ<|zI<|zM<|yL [] [5] rfl<|xF<|mJ<|ih_spec_l12Uses_l1 e0 name (W (i + 1)) _ N H h h1 h2 hg ho hx hr
  intro hc2 N;exact tS<|xQ zL<|yM<|hx _  (zB N).symm H
theorem zCj:∀ e0 name r,qY e0 name=some r→∀ {I:Imm}{p c p1 c1 p2 c2},(S4 I p e0.Index.Coefs c)→(S4 I p1 e0.Read.Subs c1)→(S4 I p2 e0.Kids c2)→RT 108 [vA (cExpr e0 p c p1 c1 p2 c2),vT name.l] I [] (zP  r):=zCN.1
def kL (s:zK):Option (Bool):=do
 let t14←(do
   if (s.Value.Kind != 4) then
    pure (s.Value.Kind != 5)
   else
    pure false
     : Option Bool)
 if t14 then
  pure false
 else
  let x←idx s.Value.Kids 0
  let t2←(do
    if (x.Kind == 3) then
     let y←qG x.Read s.Write
     if y then
      let x1←idx s.Value.Kids 1
      let y1←qY x1 s.Write.Array
      pure (!y1)
     else
      pure false
    else
     pure false
      : Option Bool)
  pure (id t2)
theorem zDx:∀ s r,kL s=some r→∀ {I:Imm}{p c p1 c1 p2 c2 p3 c3},(S4 I p s.Write.Subs c)→(S4 I p1 s.Value.Index.Coefs c1)→(S4 I p2 s.Value.Read.Subs c2)→(S4 I p3 s.Value.Kids c3)→RT 48 [vA (cStmt s p c p1 c1 p2 c2 p3 c3)] I [] (zP  r):=by
 intro s r N I p c p1 c1 p2 c2 p3 c3 h h1 h2 h3;unfold kL at N;refine yI Tryz.func48 fun B=>?_;have H:=iS I;refine yG<|uG (cStmt s p c p1 c1 p2 c2 p3 c3) ?_;intro b hb;refine wC [] []<|yX<|sH 2 [0] [(6,vA (cExpr s.Value p1 c1 p2 c2 p3 c3))]<|wK zExpr ?_;intro b1 hb1;refine yZ 0 (cExpr s.Value p1 c1 p2 c2 p3 c3) rfl<|zZ rfl<|yE<|yA ?_;refine wI N [hB b1 (cExpr s.Value p1 c1 p2 c2 p3 c3),hB b (cStmt s p c p1 c1 p2 c2 p3 c3)] (fun t14=>[(1,vP b 0),(3,vP b1 0),(14,.bool t14)]) (fun o0 ho0=>?_) ?_
 · have H:=iS I;refine zM<|yF 4 [0] [10] rfl<|xP [10] ho0 ?_ ?_
   · intro hc N;exact yL [0] [14] rfl<|yM<|zR (ct N H)
   intro hc N;exact wC [] [(14,vF)]<|yM<|zR (ct N H)
 intro t14 I0 le hMc;have ⟨h3,h,H⟩:=m3 le h3 h H;refine zI<|yH hMc ?_ ?_
 · intro hc1 N;refine uA [(2,vF)]<|xE<|zH ?_;obtain rfl:=zB N;exact wM
 intro hc1 N;refine zT<|yX<|yF 2 [0] [16] rfl<|bE N fun x hy N=>wF rfl rfl h3 hy ?_;intro ad ccs hat hrep;obtain ⟨p4,c4,p5,c5,p6,c6,rfl,h4,h5,h6⟩:=yV hrep;refine xT 0 hat (cExpr x p4 c4 p5 c5 p6 c6) (vA (cExpr x p4 c4 p5 c5 p6 c6)) rfl<|wK zExpr ?_;intro b2 hb2;refine yZ 0 (cExpr x p4 c4 p5 c5 p6 c6) rfl<|zZ rfl<|zI<|yA ?_;refine wI N [] (fun t2=>[(2,.bool t2)]) (fun o01 ho01=>?_) ?_
 · have H:=iS I0;cases hc2:(x.Kind == 3) with
   | true =>
    have hM0:=vC hc2 ho01;obtain ⟨y,hy1,N⟩:=zC hM0;cases hc3:y with
    | true =>
     have hM01:=vC hc3 N;obtain ⟨x1,hy2,N⟩:=zC hM01;obtain ⟨y1,hy3,N⟩:=zC N;refine wZ [.p (vP b2 0) [],.p (vI x.Kind) [0],.q vY,.q vY,.p (vP b2 4) [],.p (vA (cAccess x.Read p5 c5)) [0],.p (vP b 0) [],.p (vA (cAccess s.Write p c)) [2],.q vY,.q vY,.q vY,.p (vP b1 6) [],.p (vS p3 s.Value.Kids c3) [1],.x (ePExpr x1),.x (eVExpr x1),.p (vP b 0) [],.p (vP b 0) [],.p (vT s.Write.Array.l) [2],.q (.bool y1),.p (.bool (!y1)) [],.p (.bool (!y1)) []] [[],[(0,false)],[(1,false)],[(2,false)],[(3,false)],[(3,false),(4,false)],[(3,false)],[(3,false),(6,false)],[(3,false),(5,false),(7,false)],[(3,false),(8,false)],[(9,false)],[(10,false)],[(10,false),(11,false)],[(10,false),(12,false)],[(10,false),(13,false)],[(10,false)],[(10,false),(15,false)],[(10,false),(16,false)],[(10,false),(14,false),(17,false)],[(10,false),(18,false)],[(10,false),(19,false)]] [hB b2 (cExpr x p4 c4 p5 c5 p6 c6),hB b1 (cExpr s.Value p1 c1 p2 c2 p3 c3),hB b (cStmt s p c p1 c1 p2 c2 p3 c3)] [] [(20,false)] (yB [0,1,2]) ?_ ?_
     · refine Op<|Op<|Oq ?_<|Oq ?_<|Op<|Op<|Op<|Op<|Oq ?_<|Oq ?_<|Oq ?_<|Op<|Op<|Ox ?_<|Ox ?_<|Op<|Op<|Op<|Oq ?_<|Op<|Op<|On
       · intro I1 hf le1;refine yY [20] rfl<|qE 3 [(21,.bool (x.Kind == 3))] ?_;rw [hc2];exact xC iR
       · intro I1 hf le1;exact jM [(21,vY)]<|qE 4 [(22,vY)]<|xC iR
       · intro I1 hf le1;refine yY [22,24,26] rfl ?_;have H:=iS I1;have ⟨h5,h⟩:=m2 le1 h5 h;refine uB (jL x.Read s.Write _ hy1 h5 h) ?_;intro I02 le1;have H:=H.trans le1;rw [hc3];exact xC H
       · intro I1 hf le1;exact yY [22,27] rfl<|qE 10 [(28,vY)]<|xC iR
       · intro I1 hf le1;exact jM [(28,vY)]<|qE 11 [(29,vY)]<|xC iR
       · intro I1 hf le1;refine yY [29,31] rfl ?_;have h3:=h3.mono le1;refine wF rfl rfl h3 hy2 ?_;intro ad1 ccs1 hat1 hrep1;obtain ⟨p7,c7,p8,c8,p9,c9,rfl,h8,h9,h10⟩:=yV hrep1;exact yW [] iR ⟨_,_,_,_,_,_,_,rfl,rfl,hat1,h8,h9,h10⟩
       · rintro I1 hf le1 _ _ ⟨rfl,rfl⟩ _ _ ⟨ad1,p7,c7,p8,c8,p9,c9,rfl,rfl,hat1,h8,h9,h10⟩;exact yY [29,32] rfl<|xT 0 hat1 (cExpr x1 p7 c7 p8 c8 p9 c9) (vA (cExpr x1 p7 c7 p8 c8 p9 c9)) rfl<|yW [] iR ⟨_,_,_,_,_,_,rfl,rfl,h8,h9,h10⟩
       rintro I1 hf le1 _ _ ⟨rfl,rfl⟩ _ _ ⟨p71,c71,p81,c81,p91,c91,rfl,rfl,h81,h91,h101⟩;refine yY [29,33,36] rfl ?_;have H:=iS I1;refine uB (zCj x1 s.Write.Array _ hy3 h81 h91 h101) ?_;intro I03 le2;have H:=H.trans le2;exact xC H
     intro I04 le3;refine yY [39] rfl ?_;have H:=H.trans le3;exact yL [] [2] rfl<|xQ zL<|yM<|zR (ct N H)
    | false =>
     have hM02:=wP hc3 N;refine wZ [.p (vP b2 0) [],.p (vI x.Kind) [0],.q vY,.q vY,.p (vP b2 4) [],.p (vA (cAccess x.Read p5 c5)) [0],.p (vP b 0) [],.p (vA (cAccess s.Write p c)) [2],.q vF,.q vF,.q vF,.p undef [],.p undef [],.p undef [],.p undef [],.p undef [],.p undef [],.p undef [],.p undef [],.p undef [],.p vF []] [[],[(0,false)],[(1,false)],[(2,false)],[(3,false)],[(3,false),(4,false)],[(3,false)],[(3,false),(6,false)],[(3,false),(5,false),(7,false)],[(3,false),(8,false)],[(9,false)],[(10,false)],[(10,false),(11,false)],[(10,false),(12,false)],[(10,false),(13,false)],[(10,false)],[(10,false),(15,false)],[(10,false),(16,false)],[(10,false),(14,false),(17,false)],[(10,false),(18,false)],[(10,false),(19,false)]] [hB b2 (cExpr x p4 c4 p5 c5 p6 c6),hB b1 (cExpr s.Value p1 c1 p2 c2 p3 c3),hB b (cStmt s p c p1 c1 p2 c2 p3 c3)] [] [(20,false)] (yB [0,1,2]) ?_ ?_
     · refine Op<|Op<|Oq ?_<|Oq ?_<|Op<|Op<|Op<|Op<|Oq ?_<|Oq ?_<|Oq ?_<|Op<|Op<|Op<|Op<|Op<|Op<|Op<|Op<|Op<|Op<|On
       · intro I1 hf le1;refine yY [20] rfl<|qE 3 [(21,.bool (x.Kind == 3))] ?_;rw [hc2];exact xC iR
       · intro I1 hf le1;exact jM [(21,vY)]<|qE 4 [(22,vY)]<|xC iR
       · intro I1 hf le1;refine yY [22,24,26] rfl ?_;have H:=iS I1;have ⟨h5,h⟩:=m2 le1 h5 h;refine uB (jL x.Read s.Write _ hy1 h5 h) ?_;intro I02 le1;have H:=H.trans le1;rw [hc3];exact xC H
       · intro I1 hf le1;exact yY [22,27] rfl<|qE 10 [(28,vF)]<|xC iR
       intro I1 hf le1;exact jM [(28,vF)]<|qE 11 [(29,vF)]<|xC iR
     intro I05 le4;refine jM [(39,vF)] ?_;have H:=H.trans le4;exact wC [] [(2,vF)]<|xQ zL<|yM<|zR (ct hM02 H)
   | false =>
    have hM03:=wP hc2 ho01;refine wZ [.p (vP b2 0) [],.p (vI x.Kind) [0],.q vF,.q vF,.p undef [],.p undef [],.p undef [],.p undef [],.p undef [],.p vF [],.p vF [],.p undef [],.p undef [],.p undef [],.p undef [],.p undef [],.p undef [],.p undef [],.p undef [],.p undef [],.p vF []] [[],[(0,false)],[(1,false)],[(2,false)],[(3,false)],[(3,false),(4,false)],[(3,false)],[(3,false),(6,false)],[(3,false),(5,false),(7,false)],[(3,false),(8,false)],[(9,false)],[(10,false)],[(10,false),(11,false)],[(10,false),(12,false)],[(10,false),(13,false)],[(10,false)],[(10,false),(15,false)],[(10,false),(16,false)],[(10,false),(14,false),(17,false)],[(10,false),(18,false)],[(10,false),(19,false)]] [hB b2 (cExpr x p4 c4 p5 c5 p6 c6),hB b1 (cExpr s.Value p1 c1 p2 c2 p3 c3),hB b (cStmt s p c p1 c1 p2 c2 p3 c3)] [] [(20,false)] (yB [0,1,2]) ?_ ?_
    · refine Op<|Op<|Oq ?_<|Oq ?_<|Op<|Op<|Op<|Op<|Op<|Op<|Op<|Op<|Op<|Op<|Op<|Op<|Op<|Op<|Op<|Op<|Op<|On
      · intro I1 hf le1;refine yY [20] rfl<|qE 3 [(21,.bool (x.Kind == 3))] ?_;rw [hc2];exact xC iR
      intro I1 hf le1;exact jM [(21,vF)]<|qE 4 [(22,vF)]<|xC iR
    intro I06 le5;refine jM [(39,vF)] ?_;have H:=H.trans le5;exact wC [] [(2,vF)]<|xQ zL<|yM<|zR (ct hM03 H)
 intro t2 I01 le6 hMc1;refine zI<|yS ?_;obtain rfl:=zB hMc1;exact wM
def rU (s:zK):Option (Bool):=do
 let t2←(do
   let y←uH s 4
   if y then
    let y1←kL s
    pure (id y1)
   else
    pure false
     : Option Bool)
 pure (id t2)
theorem jV:∀ s r,rU s=some r→∀ {I:Imm}{p c p1 c1 p2 c2 p3 c3},(S4 I p s.Write.Subs c)→(S4 I p1 s.Value.Index.Coefs c1)→(S4 I p2 s.Value.Read.Subs c2)→(S4 I p3 s.Value.Kids c3)→RT 18 [vA (cStmt s p c p1 c1 p2 c2 p3 c3)] I [] (zP  r):=by
 intro s r N I p c p1 c1 p2 c2 p3 c3 h h1 h2 h3;unfold rU at N;refine yI Tryz.func18 fun B=>?_;have H:=iS I;refine yG<|uG (cStmt s p c p1 c1 p2 c2 p3 c3) ?_;intro b hb;refine wC [] []<|zI<|yA ?_;refine wI N [] (fun t2=>[(2,.bool t2)]) (fun o0 ho0=>?_) ?_
 · have H:=iS I;refine zM<|sH 1 [0] [(3,vA (cStmt s p c p1 c1 p2 c2 p3 c3))] ?_;obtain ⟨y,hy,N⟩:=zC ho0;refine uB (nK s 4 _ hy h h1 h2 h3) ?_;intro I01 le;have ⟨h,h1,h2,h3,H⟩:=m5 le h h1 h2 h3 H;refine yF 3 [] [5] rfl<|xP [5] N ?_ ?_
   · intro hc N;refine sH 4 [0] [(6,vA (cStmt s p c p1 c1 p2 c2 p3 c3))]<|bE N fun y1 hy1 N=>uB (zDx s _ hy1 h h1 h2 h3) ?_;intro I02 le1;have H:=H.trans le1;exact yL [] [2] rfl<|xQ zL<|yM<|zR (ct N H)
   intro hc N;exact wC [] [(2,vF)]<|xQ zL<|yM<|zR (ct N H)
 intro t2 I0 le2 hMc;refine zI<|yS ?_;obtain rfl:=zB hMc;exact wM
def uO (a0:zA):Option (zA):=do
 let y←qJ a0.Coefs
 pure (zA.mk y a0.Const)
theorem kM:∀ a0 r,uO a0=some r→∀ {I:Imm}{p c},(S4 I p a0.Coefs c)→RT 109 [vA (cAff a0 p c)] I [] (kS  r):=by
 intro a0 r N I p c h;unfold uO at N;refine yI Tryz.func109 fun B=>?_;have H:=iS I;refine yG<|uG (cAff a0 p c) ?_;intro b hb;refine wK [z0,vI 0] ?_;intro b1 hb1;refine zZ rfl<|yE<|bE N fun y hy N=>wZ [.p (vP b 0) [],.p (vS p a0.Coefs c) [1],.x (fun I' v hx=>∃ p1 c1 cs,v=vS p1 y c1∧hx=[hO Int (vS p1 y c1) cs]∧(RL I' cs y)),.p (vP b 1) [],.p (vI a0.Const) [1],.x (fun I' v hx=>∃ p11 c11 cs1,v=vA [vS p11 y c11,vI a0.Const]∧hx=[hO Int (vS p11 y c11) cs1]∧(RL I' cs1 y))] [[],[(0,false)],[(1,false)],[],[(3,false)],[(2,true),(4,false)]] [hB b1 [z0,vI 0],hB b (cAff a0 p c)] [] [(5,true)] (yB [0,1]) ?_ ?_
 · refine Op<|Op<|Ox ?_<|Op<|Op<|Ox ?_<|On
   · intro I1 hf le1;refine yY [4] rfl ?_;have H:=iS I1;have h:=h.mono le1;refine xM (fZ a0.Coefs _ hy h) ?_;rintro I0 hs2 v2 k2 le - ⟨p1,c1,cs,rfl,rfl,h1⟩ -;have H:=H.trans le;exact yW [hO Int (vS p1 y c1) cs] H ⟨_,_,_,rfl,rfl,h1⟩
   rintro I1 hf le1 _ _ ⟨p1,c1,cs,rfl,rfl,h1⟩;exact yY [5,7] rfl<|qE 6 [(8,vA [vS p1 y c1,vI a0.Const])]<|yW [hO Int (vS p1 y c1) cs] iR ⟨_,_,_,rfl,rfl,h1⟩
 rintro I01 le1 _ _ ⟨p11,c11,cs1,rfl,rfl,h11⟩;refine yY [2,8] rfl ?_;refine yZ 1 [vS p11 y c11,vI a0.Const] rfl<|zZ rfl<|zI<|yS ?_;obtain rfl:=zB N;exact xB ⟨_,_,(.cell 1 rfl rfl (by kernel_rfl) ResV.nil),(zX [0] rfl (by decide)),⟨_,_,_,rfl,rfl,h11⟩⟩
def kO (s:zK):Option (zK):=do
 let y←oO s uO
 pure (id y)
theorem zCk:∀ s r,kO s=some r→∀ {I:Imm}{p c p1 c1 p2 c2 p3 c3},(S4 I p s.Write.Subs c)→(S4 I p1 s.Value.Index.Coefs c1)→(S4 I p2 s.Value.Read.Subs c2)→(S4 I p3 s.Value.Kids c3)→RT 50 [vA (cStmt s p c p1 c1 p2 c2 p3 c3)] I [] (nA  r):=by
 intro s r N I p c p1 c1 p2 c2 p3 c3 h h1 h2 h3;unfold kO at N;refine yI Tryz.func50 fun B=>yG<|uG (cStmt s p c p1 c1 p2 c2 p3 c3) ?_;intro b hb;refine wK [vT ([]),z0,vI 0,vI 0,z0,vI 0,vT ([]),z0,z0] ?_;intro b1 hb1;refine zZ rfl<|yX<|sH 1 [1] [(3,vA (cStmt s p c p1 c1 p2 c2 p3 c3))] ?_;have hf0:FV1 Tryz.prog I [] (.func (.func 109) ⟨[]⟩ ⟨[]⟩) uO:=by
   refine FV1.intro ?_;intro I1 le1 x0 r u0 hF k0;obtain ⟨_,rfl,k0⟩:=k0;obtain ⟨p4,c4,rfl,h4⟩:=yD k0;exact Ret.fz (kM x0 r hF h4) (by rintro k i hs u ⟨a9,c9,s9,rfl,rfl,h9⟩; exact ⟨_,[],rfl,rfl,fun i9 le9 hl9=>⟨rfl,_,rfl,yC ⟨_,rfl,SL.of_frozen hl9 le9 h9⟩⟩⟩)
 obtain ⟨y,hy,N⟩:=zC N;refine xM (eU s uO _ hy h h1 h2 h3 hf0) ?_;rintro I0 hs2 v2 k2 le - ⟨v01,rfl,rfl,⟨cs,rfl,h5⟩⟩ -;obtain ⟨p5,c5,p6,c6,p7,c7,p8,c8,rfl,h6,h7,h8,h9⟩:=tZ h5;refine yZ 0 (cStmt y p5 c5 p6 c6 p7 c7 p8 c8) rfl<|zZ rfl<|zI<|yS ?_;obtain rfl:=zB N;exact xB ⟨_,_,(.cell 0 rfl rfl (by kernel_rfl) ResV.nil),zL,⟨_,rfl,rfl,⟨_,rfl,(xU ⟨_,_,_,_,rfl,h6,h7,h8,h9⟩)⟩⟩⟩
def oQ (s:zK):Option ((List zF)):=do
 let y←rY s
 if (!y) then
  pure ([]:List zF)
 else
  let y1←kO s
  let y2←pK y1.Value
  pure (id y2)
theorem zB9:∀ s r,oQ s=some r→∀ {I:Imm}{p c p1 c1 p2 c2 p3 c3},(S4 I p s.Write.Subs c)→(S4 I p1 s.Value.Index.Coefs c1)→(S4 I p2 s.Value.Read.Subs c2)→(S4 I p3 s.Value.Kids c3)→RT 19 [vA (cStmt s p c p1 c1 p2 c2 p3 c3)] I [] (jP  r):=by
 intro s r N I p c p1 c1 p2 c2 p3 c3 h h1 h2 h3;unfold oQ at N;refine yI Tryz.func19 fun B=>yG<|uG (cStmt s p c p1 c1 p2 c2 p3 c3) ?_;intro b hb;refine wC [] []<|yE<|yG<|sH 1 [0] [(3,vA (cStmt s p c p1 c1 p2 c2 p3 c3))]<|bE N fun y hy N=>uB (kK s _ hy h h1 h2 h3) ?_;intro I0 le;have ⟨h,h1,h2,h3⟩:=m4 le h h1 h2 h3;refine yL [] [5] rfl<|zI<|yH N ?_ ?_
 · intro hc N;refine uA [(2,z0)]<|xE<|zH ?_;obtain rfl:=zB N;exact xB ⟨_,_,(.tmp rfl ResV.nil),zL,⟨_,rfl,rfl,(SL.nil _)⟩⟩
 intro hc N;refine zT<|yX<|sH 1 [0] [(6,vA (cStmt s p c p1 c1 p2 c2 p3 c3))]<|bE N fun y1 hy1 N=>xM (zCk s _ hy1 h h1 h2 h3) ?_;rintro I01 hs2 v2 k2 le1 - ⟨v01,rfl,rfl,⟨cs,rfl,h5⟩⟩ -;obtain ⟨p4,c4,p5,c5,p6,c6,p7,c7,rfl,h6,h7,h8,h9⟩:=tZ h5;refine yF 3 [] [8] rfl<|bE N fun y2 hy2 N=>xM (zA3 y1.Value _ hy2 h7 h8 h9) ?_;rintro I02 hs2 v2 k2 le2 - ⟨v06,rfl,rfl,h10⟩ -;obtain ⟨p8,c8,rfl⟩:=h10.form;refine yL [] [2] rfl<|zI<|yS ?_;obtain rfl:=zB N;exact xB ⟨_,_,(.tmp rfl ResV.nil),zL,⟨_,rfl,rfl,h10⟩⟩
def jY (v0:Int):Option (Bool):=do
 let y←tY v0 0 3
 pure (id y)
theorem zDy:∀ v0 r,jY v0=some r→∀ {I:Imm} ,RT 52 [vI v0] I [] (zP  r):=by
 intro v0 r N I;unfold jY at N;refine yI Tryz.func52 fun B=>uA []<|yX<|yF 1 [] [3] rfl<|bE N fun y hy N=>uB (qV v0 0 3 _ hy ) fun I0 le=>wC [] [(2,.bool y)]<|zI<|yS ?_;obtain rfl:=zB N;exact wM
def oD (k0:Int) (b:zA) (t15:Int) (Coefs:List Int):Option (List Int):=do
 if (decide (t15 < (b.Coefs.length:Int))) then
  let x←idx b.Coefs t15
  let x1←idx Coefs t15
  let x2←idx Coefs t15
  let l←pure (Coefs.set t15.toNat (W (x1 + (W (k0 * x)))))
  oD k0 b (W (t15 + 1)) l
 else
  pure (id Coefs)
 partial_fixpoint
theorem zD7 (k0:Int) (b:zA):∀ (t15:Int) (Coefs:List Int) (o:List Int),oD k0 b t15 Coefs=some o→∀ {B}{I0 I:Imm}{Q}{y:zA}{p1 c1}{b2:Nat}{b3:Nat}{b4:Nat}{p3 c3 cs1},I0.le I→(S4 I p1 b.Coefs c1)→(RL I cs1 Coefs)→NG Q→NO Q→(∀ (I':Imm) (Coefs1:List Int) (p4:Option Addr) (c4:Nat) (cs2:List Value),o=Coefs1→I0.le I'→(RL I' cs2 Coefs1)→T 40 B Q (.exit 0) I' [hB b4 [vS p4 Coefs1 c4,vI y.Const],hO Int (vS p4 Coefs1 c4) cs2,hB b3 [z0,vI 0],hB b2 (cAff b p1 c1)] [(1,vI k0),(5,vP b2 0),(6,vP b3 0),(7,vP b4 0)])→J Tryz.prog 40 B (nav (bodyOf Tryz.f113) [1,1,0,1,0]) Q I [hB b4 [vS p3 Coefs c3,vI y.Const],hO Int (vS p3 Coefs c3) cs1,hB b3 [z0,vI 0],hB b2 (cAff b p1 c1)] [(1,vI k0),(5,vP b2 0),(6,vP b3 0),(7,vP b4 0),(13,vS p1 b.Coefs c1),(14,vI (b.Coefs.length:Int)),(15,vI t15)]:=by
 refine oD.partial_correctness k0 b _ fun self ih t15 Coefs o N B I0 I Q y p1 c1 b2 b3 b4 p3 c3 cs1 H h1 h3 hg ho hx=>xH hg ho<|yO [16] rfl<|yE<|yH N ?_ ?_
 · intro hc N;refine zT<|yE<|yN<|yG<|yF 1 [] [17] rfl<|bE N fun x hy1 N=>wF rfl rfl h1 hy1 ?_;intro ad ccs hat hrep;obtain rfl:=hrep;refine xT 0 hat [vI x] (vI x) rfl<|yL [] [8,9] rfl<|zI<|zM<|yF 3 [0] [21,22] rfl<|bE N fun x1 hy2 N=>fP 1 rfl rfl rfl h3 hy2 ?_;intro ad1 ccs1 hat1 hcc hrep1;obtain rfl:=hrep1;refine zGf 1 0 hat1 hcc [vI x1] (vI x1) rfl rfl<|yF 9 [] [28] rfl<|bE N fun x2 hy3 N=>fP 1 rfl rfl rfl h3 hy3 ?_;intro ad2 ccs2 hat2 hcc1 hrep2;obtain rfl:=hrep2;obtain ⟨l,hy4,N⟩:=zC N;refine mV (c:=[vI (W (x1 + (W (k0 * x))))]) (x':=(W (x1 + (W (k0 * x))))) 1 0 rfl rfl rfl hat2 rfl rfl hcc1 (by kernel_rfl) (by kernel_rfl) (by kernel_rfl) h3 hy3 (by kernel_rfl) rfl ?_;rw [show Coefs.set t15.toNat (W (x1 + (W (k0 * x))))=l from zB hy4];intro cs3 h5 hl0;exact jD (m':=[(1,vI k0),(5,vP b2 0),(6,vP b3 0),(7,vP b4 0),(13,vS p1 b.Coefs c1),(14,vI (b.Coefs.length:Int)),(15,vI t15),(21,vS p3 Coefs c3),(22,vI t15),(28,vI (W (x1 + (W (k0 * x)))))]) ⟨rfl,rfl,rfl,rfl,rfl,rfl,rfl,rfl,rfl,rfl,trivial⟩<|zDJ (hs':=[hB b4 [vS p3 l c3,vI y.Const],hO Int (vS p3 l c3) cs3,hB b3 [z0,vI 0],hB b2 (cAff b p1 c1)]) (m':=[(1,vI k0),(5,vP b2 0),(6,vP b3 0),(7,vP b4 0),(13,vS p1 b.Coefs c1),(14,vI (b.Coefs.length:Int)),(15,vI t15),(21,vS p3 l c3),(22,vI t15),(28,vI (W (x1 + (W (k0 * x)))))]) (by first | rfl | simp only [vS,hl0,List.nil_append,List.cons_append,List.set_cons_zero,List.set_cons_succ,List.eraseIdx_cons_zero,List.eraseIdx_cons_succ]) (by first | rfl | simp only [vS,hl0])<|zZ rfl<|zQ<|zI<|zM<|yL [] [15] rfl<|xF<|mJ<|ih (W (t15 + 1)) l _ N H h1 h5 hg ho hx
 intro hc N;exact tS<|yM<|hx _ _ _ _ _ (zB N).symm H h3
def eN (a0:zA) (k0:Int) (b:zA):Option (zA):=do
 let y←uO a0
 let Coefs1←oD k0 b 0 y.Coefs
 pure (zA.mk Coefs1 (W (y.Const + (W (k0 * b.Const)))))
theorem zFR:∀ a0 k0 b r,eN a0 k0 b=some r→∀ {I:Imm}{p c p1 c1},(S4 I p a0.Coefs c)→(S4 I p1 b.Coefs c1)→RT 113 [vA (cAff a0 p c),vI k0,vA (cAff b p1 c1)] I [] (tF  r):=by
 intro a0 k0 b r N I p c p1 c1 h h1;unfold eN at N;refine yI Tryz.func113 fun B=>yG<|uG (cAff a0 p c) ?_;intro b1 hb;refine uG (cAff b p1 c1) ?_;intro b2 hb1;refine wK [z0,vI 0] ?_;intro b3 hb2;refine zZ rfl<|yX<|sH 1 [2] [(10,vA (cAff a0 p c))]<|bE N fun y hy N=>xM (kM a0 _ hy h) ?_;rintro I0 hs2 v2 k2 le - ⟨p2,c2,cs,rfl,rfl,h2⟩ -;have ⟨h1,h⟩:=m2 le h1 h;refine wK [z0,vI 0] ?_;intro b4 hb3;refine yZ 0 (cAff y p2 c2) rfl<|zZ rfl<|yE<|yG<|yL [3] [13,14,15] rfl<|uV<|gA (yB [0,1,2,3] (hs':=[hB b4 (cAff y p2 c2),hO Int (vS p2 y.Coefs c2) cs,hB b3 [z0,vI 0],hB b2 (cAff b p1 c1)]))<|mH [(1,vI k0),(5,vP b2 0),(6,vP b3 0),(7,vP b4 0),(13,vS p1 b.Coefs c1),(14,vI (b.Coefs.length:Int)),(15,vI 0)] ?_;obtain ⟨o0,ho0,hMl⟩:=zC N;refine zD7 k0 b 0 y.Coefs o0 ho0 iR h1 h2 (fun _ _ _ h=>h) (fun _ _ h=>h) ?_;intro I01 Coefs1 p4 c4 cs2 heq le1 h4;subst o0;refine zU<|yX<|yF 8 [0,3] [37,38] rfl<|yZ 0 [vS p4 Coefs1 c4,vI (W (y.Const + (W (k0 * b.Const))))] rfl<|zZ rfl<|yX<|sH 1 [0] [(39,vA [vS p4 Coefs1 c4,vI (W (y.Const + (W (k0 * b.Const))))])]<|yZ 2 [vS p4 Coefs1 c4,vI (W (y.Const + (W (k0 * b.Const))))] rfl<|zZ rfl<|xE<|xN 1 rfl ?_;intro I02 le2 hl01;have h6:=SL.of_frozen hl01 le2 h4;obtain rfl:=zB hMl;exact xB ⟨_,_,(.cell 1 rfl rfl (by kernel_rfl) ResV.nil),zL,⟨_,rfl,rfl,⟨_,rfl,(yC ⟨_,rfl,h6⟩)⟩⟩⟩
def mF (a0:zA) (v0:Int) (b:zA):Option (zA):=do
 let y←uO a0
 let x←idx y.Coefs v0
 let x1←idx y.Coefs v0
 let l←pure (y.Coefs.set v0.toNat 0)
 let y1←eN (zA.mk l y.Const) x b
 pure (id y1)
theorem zDz:∀ a0 v0 b r,mF a0 v0 b=some r→∀ {I:Imm}{p c p1 c1},(S4 I p a0.Coefs c)→(S4 I p1 b.Coefs c1)→RT 55 [vA (cAff a0 p c),vI v0,vA (cAff b p1 c1)] I [] (tF  r):=by
 intro a0 v0 b r N I p c p1 c1 h h1;unfold mF at N;refine yI Tryz.func55 fun B=>yG<|uG (cAff a0 p c) ?_;intro b1 hb;refine uG (cAff b p1 c1) ?_;intro b2 hb1;refine wK [z0,vI 0] ?_;intro b3 hb2;refine zZ rfl<|yX<|sH 1 [2] [(9,vA (cAff a0 p c))]<|bE N fun y hy N=>xM (kM a0 _ hy h) ?_;rintro I0 hs2 v2 k2 le - ⟨p2,c2,cs,rfl,rfl,h2⟩ -;have h1:=h1.mono le;refine wK [z0,vI 0] ?_;intro b4 hb3;refine yZ 0 (cAff y p2 c2) rfl<|zZ rfl<|yX<|yF 3 [0] [12,13] rfl<|bE N fun x hy1 N=>fP 1 rfl rfl rfl h2 hy1 ?_;intro ad ccs hat hcc hrep;obtain rfl:=hrep;refine zGf 1 0 hat hcc [vI x] (vI x) rfl rfl<|yL [] [8] rfl<|yX<|yF 3 [0] [17,18] rfl<|bE N fun x1 hy2 N=>fP 1 rfl rfl rfl h2 hy2 ?_;intro ad1 ccs1 hat1 hcc1 hrep1;obtain rfl:=hrep1;obtain ⟨l,hy3,N⟩:=zC N;refine mV (c:=[vI 0]) (x':=0) 1 0 rfl rfl rfl hat1 rfl rfl hcc1 (by kernel_rfl) (by kernel_rfl) (by kernel_rfl) h2 hy2 (by kernel_rfl) rfl ?_;rw [show y.Coefs.set v0.toNat 0=l from zB hy3];intro cs1 h3 hl0;refine jD (m':=[(5,vP b2 0),(6,vP b3 0),(7,vP b4 0),(8,vI x),(17,vS p2 y.Coefs c2),(18,vI v0)]) ⟨rfl,rfl,rfl,rfl,rfl,rfl,trivial⟩<|zDJ (hs':=[hB b4 [vS p2 l c2,vI y.Const],hO Int (vS p2 l c2) cs1,hB b3 [z0,vI 0],hB b2 (cAff b p1 c1),hB b1 (cAff a0 p c)]) (m':=[(5,vP b2 0),(6,vP b3 0),(7,vP b4 0),(8,vI x),(17,vS p2 l c2),(18,vI v0)]) (by first | rfl | simp only [vS,hl0,List.nil_append,List.cons_append,List.set_cons_zero,List.set_cons_succ,List.eraseIdx_cons_zero,List.eraseIdx_cons_succ]) (by first | rfl | simp only [vS,hl0])<|zZ rfl<|yX<|sH 3 [0,3] [(20,vA [vS p2 l c2,vI y.Const]),(21,vI x),(22,vA (cAff b p1 c1))]<|vZ 1 rfl ?_;intro I01 le1 hl01;have h4:=SL.of_frozen hl01 le1 h3;have h1:=h1.mono le1;obtain ⟨y1,hy4,N⟩:=zC N;refine xM (zFR (zA.mk l y.Const) x b _ hy4 h4 h1) ?_;rintro I02 hs2 v2 k2 le2 - ⟨v01,rfl,rfl,⟨cs2,rfl,h5⟩⟩ -;obtain ⟨p3,c3,rfl,h6⟩:=yD h5;refine yZ 1 (cAff y1 p3 c3) rfl<|zZ rfl<|zI<|yS ?_;obtain rfl:=zB N;exact xB ⟨_,_,(.cell 1 rfl rfl (by kernel_rfl) ResV.nil),zL,⟨_,rfl,rfl,⟨_,rfl,(yC ⟨_,rfl,h6⟩)⟩⟩⟩
def tD (b:zA) (x:Int) (x1:zA):Option (zA):=do
 let y←mF b x x1
 pure (id y)
theorem zAW:∀ b x x1 r,tD b x x1=some r→∀ {I:Imm}{p c}{ad:Addr}{ad1:Addr}{p1 c1},(S4 I p b.Coefs c)→(At I ad [vI x])→(S4 I p1 x1.Coefs c1)→(At I ad1 (cAff x1 p1 c1))→RT 54 [vA (cAff b p c),.pointer (some ad),.pointer (some ad1)] I [] (tF  r):=by
 intro b x x1 r N I p c ad ad1 p1 c1 h hat h1 hat1;unfold tD at N;refine yI Tryz.func54 fun B=>yG<|uG (cAff b p c) ?_;intro b1 hb;refine wK [z0,vI 0] ?_;intro b2 hb1;refine zZ rfl<|yX<|sH 1 [1] [(5,vA (cAff b p c))]<|xT 0 hat [vI x] (vI x) rfl<|xT 0 hat1 (cAff x1 p1 c1) (vA (cAff x1 p1 c1)) rfl<|bE N fun y hy N=>xM (zDz b x x1 _ hy h h1) ?_;rintro I0 hs2 v2 k2 le - ⟨v0,rfl,rfl,⟨cs,rfl,h2⟩⟩ -;obtain ⟨p2,c2,rfl,h3⟩:=yD h2;refine yZ 0 (cAff y p2 c2) rfl<|zZ rfl<|zI<|yS ?_;obtain rfl:=zB N;exact xB ⟨_,_,(.cell 0 rfl rfl (by kernel_rfl) ResV.nil),zL,⟨_,rfl,rfl,⟨_,rfl,(yC ⟨_,rfl,h3⟩)⟩⟩⟩
def oR (s:zK) (v0:Int) (a0:zA):Option (zK×Bool):=do
 let t21←(do
   let y←rY s
   if (!y) then
    pure true
   else
    let y1←tA a0
    if (!y1) then
     pure true
    else
     let y2←jY v0
     pure (!y2)
     : Option Bool)
 if t21 then
  pure ((zK.mk (zF.mk (⟨[]⟩:Str) ([]:List zA)) (zD.mk 0 0 (zA.mk ([]:List Int) 0) (zF.mk (⟨[]⟩:Str) ([]:List zA)) ([]:List zD))),false)
 else
  let y3←oO s (fun x0=>tD x0 v0 a0)
  let y4←rY y3
  if (!y4) then
   pure ((zK.mk (zF.mk (⟨[]⟩:Str) ([]:List zA)) (zD.mk 0 0 (zA.mk ([]:List Int) 0) (zF.mk (⟨[]⟩:Str) ([]:List zA)) ([]:List zD))),false)
  else
   pure (y3,true)
theorem zBa:∀ s v0 a0 r,oR s v0 a0=some r→∀ {I:Imm}{p c p1 c1 p2 c2 p3 c3 p4 c4},(S4 I p s.Write.Subs c)→(S4 I p1 s.Value.Index.Coefs c1)→(S4 I p2 s.Value.Read.Subs c2)→(S4 I p3 s.Value.Kids c3)→(S4 I p4 a0.Coefs c4)→RT 20 [vA (cStmt s p c p1 c1 p2 c2 p3 c3),vI v0,vA (cAff a0 p4 c4)] I [] (jT  r):=by
 intro s v0 a0 r N I p c p1 c1 p2 c2 p3 c3 p4 c4 h h1 h2 h3 h4;unfold oR at N;refine yI Tryz.func20 fun B=>?_;have H:=iS I;refine yG<|uG (cStmt s p c p1 c1 p2 c2 p3 c3) ?_;intro b hb;refine uG [vI v0] ?_;intro b1 hb1;refine vZ 0 rfl ?_;intro I0 le hl0;have hat:At I0 ⟨b1,0,none⟩ [vI v0]:=At.of_blk hl0;have ⟨h,h1,h2,h3,h4,H⟩:=m6 le h h1 h2 h3 h4 H;refine uG (cAff a0 p4 c4) ?_;intro b2 hb2;refine vZ 0 rfl ?_;intro I01 le1 hl01;have hat1:At I01 ⟨b2,0,none⟩ (cAff a0 p4 c4):=At.of_blk hl01;have ⟨h,h1,h2,h3,h4,hat⟩:=m6 le1 h h1 h2 h3 h4 hat;have H:=H.trans le1;refine wK [vT ([]),z0,vI 0,vI 0,z0,vI 0,vT ([]),z0,z0] ?_;intro b3 hb3;refine wC [] []<|yE<|yA ?_;refine wI N [hB b3 [vT ([]),z0,vI 0,vI 0,z0,vI 0,vT ([]),z0,z0],hB b (cStmt s p c p1 c1 p2 c2 p3 c3)] (fun t21=>[(3,vP b 0),(4,vP b1 0),(5,vP b2 0),(6,vP b3 0),(21,.bool t21)]) (fun o0 ho0=>?_) ?_
 · have H:=iS I01;refine zM<|sH 1 [1] [(9,vA (cStmt s p c p1 c1 p2 c2 p3 c3))] ?_;obtain ⟨y,hy,N⟩:=zC ho0;refine uB (kK s _ hy h h1 h2 h3) ?_;intro I03 le2;have ⟨hat,h4,hat1,H⟩:=m4 le2 hat h4 hat1 H;refine yF 4 [] [12] rfl<|xP [12] N ?_ ?_
   · intro hc N;exact wC [] [(21,vY)]<|yM<|zR (ct N H)
   intro hc N;refine xT 0 hat1 (cAff a0 p4 c4) (vA (cAff a0 p4 c4)) rfl<|bE N fun y1 hy1 N=>uB (oG a0 _ hy1 h4) ?_;intro I04 le3;have ⟨hat,H⟩:=m2 le3 hat H;refine yF 9 [] [17] rfl<|xP [17] N ?_ ?_
   · intro hc1 N;exact wC [] [(21,vY)]<|yM<|zR (ct N H)
   intro hc1 N;refine xT 0 hat [vI v0] (vI v0) rfl<|bE N fun y2 hy2 N=>uB (zDy v0 _ hy2 ) ?_;intro I05 le4;have H:=H.trans le4;exact yL [] [21] rfl<|yM<|zR (ct N H)
 intro t21 I02 le5 hMc;have ⟨hat,h4,hat1,h,h1,h2⟩:=m6 le5 hat h4 hat1 h h1 h2;have h3:=h3.mono le5;refine zI<|yH hMc ?_ ?_
 · intro hc2 N;refine yG<|yF 1 [] [22] rfl<|yZ 0 [vT ([]),z0,vI 0,vI 0,z0,vI 0,vT ([]),z0,z0] rfl<|wC [] [(7,vF)]<|xE<|zH ?_;obtain rfl:=zB N;exact xB ⟨_,_,(.cell 0 rfl rfl (by kernel_rfl) (.tmp rfl ResV.nil)),zL,⟨_,_,rfl,rfl,⟨_,rfl,(xU ⟨_,_,_,_,rfl,(SL.nil _),(SL.nil _),(SL.nil _),(SL.nil _)⟩)⟩,rfl⟩⟩
 intro hc2 N;refine zT<|yX<|sH 2 [1] [(23,vA (cStmt s p c p1 c1 p2 c2 p3 c3)),(24,.func (.func 54) ⟨[]⟩ ⟨[vP b1 0,vP b2 0]⟩)] ?_;have hf0:FV1 Tryz.prog I02 [] (.func (.func 54) ⟨[]⟩ ⟨[vP b1 0,vP b2 0]⟩) (fun x0=>tD x0 v0 a0):=by
   refine FV1.intro ?_;intro I1 le1 x0 r u0 hF k0;obtain ⟨_,rfl,k0⟩:=k0;obtain ⟨p5,c5,rfl,h8⟩:=yD k0;exact (zAW x0 v0 a0 r hF h8 (hat.mono le1) (h4.mono le1) (hat1.mono le1)).mono (by rintro k i hs u ⟨v0,rfl,rfl,h⟩; exact ⟨rfl,h⟩)
 obtain ⟨y3,hy3,N⟩:=zC N;refine xM (eU s (fun x0=>tD x0 v0 a0) _ hy3 h h1 h2 h3 hf0) ?_;rintro I06 hs2 v2 k2 le6 - ⟨v05,rfl,rfl,⟨cs,rfl,h9⟩⟩ -;obtain ⟨p6,c6,p7,c7,p8,c8,p9,c9,rfl,h10,h11,h12,h13⟩:=tZ h9;refine wK [vT ([]),z0,vI 0,vI 0,z0,vI 0,vT ([]),z0,z0] ?_;intro b4 hb4;refine yZ 0 (cStmt y3 p6 c6 p7 c7 p8 c8 p9 c9) rfl<|zZ rfl<|yE<|yG<|sH 1 [0] [(26,vA (cStmt y3 p6 c6 p7 c7 p8 c8 p9 c9))]<|bE N fun y4 hy4 N=>uB (kK y3 _ hy4 h10 h11 h12 h13) ?_;intro I07 le7;have ⟨h10,h11,h12,h13⟩:=m4 le7 h10 h11 h12 h13;refine yL [] [28] rfl<|zI<|yH N ?_ ?_
 · intro hc3 N;refine yG<|yF 1 [] [29] rfl<|yZ 1 [vT ([]),z0,vI 0,vI 0,z0,vI 0,vT ([]),z0,z0] rfl<|wC [] [(7,vF)]<|xE<|zH ?_;obtain rfl:=zB N;exact xB ⟨_,_,(.cell 1 rfl rfl (by kernel_rfl) (.tmp rfl ResV.nil)),zL,⟨_,_,rfl,rfl,⟨_,rfl,(xU ⟨_,_,_,_,rfl,(SL.nil _),(SL.nil _),(SL.nil _),(SL.nil _)⟩)⟩,rfl⟩⟩
 intro hc3 N;refine zT<|yX<|sH 1 [0] [(30,vA (cStmt y3 p6 c6 p7 c7 p8 c8 p9 c9))]<|yZ 1 (cStmt y3 p6 c6 p7 c7 p8 c8 p9 c9) rfl<|wC [] [(7,vY)]<|zI<|yS ?_;obtain rfl:=zB N;exact xB ⟨_,_,(.cell 1 rfl rfl (by kernel_rfl) (.tmp rfl ResV.nil)),zL,⟨_,_,rfl,rfl,⟨_,rfl,(xU ⟨_,_,_,_,rfl,h10,h11,h12,h13⟩)⟩,rfl⟩⟩
mutual
def yJ (s1:(List zD)) (s2:(List zD)):Option (Bool):=do
 if ((s1.length:Int) != (s2.length:Int)) then
  pure false
 else
  match←xA (same s1) (same s2) (same 0) with
  | .ret r0=>pure r0
  | .done _ =>
   pure true
 partial_fixpoint
def xA (s1:(List zD)) (s2:(List zD)) (t17:Int):Option (Out Unit (Bool)):=do
 if (decide (t17 < (s1.length:Int))) then
  let x←idx s1 t17
  let x1←idx s2 t17
  let y←pF (same x) (same x1)
  if (!y) then
   pure (.ret false)
  else
   xA (same s1) (same s2) (W (t17 + 1))
 else
  pure (.done ())
 partial_fixpoint
def pF (a0:zD) (b:zD):Option (Bool):=do
 let t4←(do
   if (a0.Kind == b.Kind) then
    if (a0.Num == b.Num) then
     let y←wJ a0.Index b.Index
     if y then
      let y1←wV a0.Read b.Read
      if y1 then
       let y2←yJ a0.Kids b.Kids
       pure (id y2)
      else
       pure false
     else
      pure false
    else
     pure false
   else
    pure false
     : Option Bool)
 pure (id t4)
 partial_fixpoint
end
theorem rB:(∀ (s1:(List zD)) (s2:(List zD)) r,yJ s1 s2=some r→∀ {I:Imm}{p c p1 c1},(S4 I p s1 c)→(S4 I p1 s2 c1)→RT 116 [vS p s1 c,vS p1 s2 c1,.func (.func 57) ⟨[]⟩ ⟨[]⟩] I [] (zP  r))∧(∀ (s1:(List zD)) (s2:(List zD)) (t17:Int) o,xA s1 s2 t17=some o→∀ {B}{I0 I:Imm}{Q p c p1 c1},I0.le I→(S4 I p1 s2 c1)→(S4 I p s1 c)→NG Q→NO Q→(∀ (I':Imm) ,o=(.done ())→I0.le I'→T 32 B Q (.exit 0) I' [] [])→(∀ r I' hs' m',o=(.ret r)→I0.le I'→RS Tryz.prog Tryz.f116 B (zP  r) I' hs' m'→T 32 B Q .ret I' hs' m')→J Tryz.prog 32 B (nav (bodyOf Tryz.f116) [1,1,0,1,0]) Q I [] [(1,vS p1 s2 c1),(2,.func (.func 57) ⟨[]⟩ ⟨[]⟩),(15,vS p s1 c),(16,vI (s1.length:Int)),(17,vI t17)])∧(∀ (a0:zD) (b:zD) r,pF a0 b=some r→∀ {I:Imm}{p c p1 c1 p2 c2 p3 c3 p4 c4 p5 c5},(S4 I p a0.Index.Coefs c)→(S4 I p1 a0.Read.Subs c1)→(S4 I p2 a0.Kids c2)→(S4 I p3 b.Index.Coefs c3)→(S4 I p4 b.Read.Subs c4)→(S4 I p5 b.Kids c5)→RT 57 [vA (cExpr a0 p c p1 c1 p2 c2),vA (cExpr b p3 c3 p4 c4 p5 c5)] I [] (zP  r)):=by
  refine yJ.mutual_partial_correctness _ _ _ ?_ ?_ ?_
  · intro F_slices_EqualFunc_impl_Expr_impl_Expr_impl_Expr_impl_Expr_l1 ih_slices_EqualFunc_impl_Expr_impl_Expr_impl_Expr_impl_Expr_l1 s1 s2 r N I p c p1 c1 h h1;refine yI Tryz.func116 fun B=>uA []<|yE<|yO [14] rfl<|zI<|yH N ?_ ?_
    · intro hc N;refine uA [(6,vF)]<|xE<|zH ?_;obtain rfl:=zB N;exact wM
    intro hc N;refine zT<|yE<|yO [15,16,17] rfl<|uV<|mH [(1,vS p1 s2 c1),(2,.func (.func 57) ⟨[]⟩ ⟨[]⟩),(15,vS p s1 c),(16,vI (s1.length:Int)),(17,vI 0)] ?_;obtain ⟨o0,ho0,hMl⟩:=zC N;refine ih_slices_EqualFunc_impl_Expr_impl_Expr_impl_Expr_impl_Expr_l1 s1 s2 0 o0 ho0 iR h1 h (fun _ _ _ h=>h) (fun _ _ h=>h) ?_ ?_
    · intro I01  heq le1;subst o0;refine zU<|zFP [(6,vY)]<|zI<|yS ?_;obtain rfl:=zB hMl;exact wM
    intro r0 I9 hs9 m9 heq9 le9 hrs9;subst heq9;refine zV<|zH ?_;obtain rfl:=zB hMl;exact xB hrs9
  · intro F_slices_EqualFunc_impl_Expr_impl_Expr_impl_Expr_impl_Expr_l1 F_impl_exprSame ih_slices_EqualFunc_impl_Expr_impl_Expr_impl_Expr_impl_Expr_l1 ih_impl_exprSame s1 s2 t17 o N B I0 I Q p c p1 c1 H h1 h hg ho hx hr;refine xH hg ho<|yO [18] rfl<|yE<|yH N ?_ ?_
    · intro hc1 N;refine zT<|yE<|yN<|yG<|yF 1 [] [19] rfl<|bE N fun x hy N=>wF rfl rfl h hy ?_;intro ad ccs hat hrep;obtain ⟨p2,c2,p3,c3,p4,c4,rfl,h2,h3,h4⟩:=yV hrep;refine xT 0 hat (cExpr x p2 c2 p3 c3 p4 c4) (vA (cExpr x p2 c2 p3 c3 p4 c4)) rfl<|wK zExpr ?_;intro b hb;refine yF 5 [] [7] rfl<|yZ 0 (cExpr x p2 c2 p3 c3 p4 c4) rfl<|zZ rfl<|yX<|yF 2 [] [22,23] rfl<|bE N fun x1 hy1 N=>wF rfl rfl h1 hy1 ?_;intro ad1 ccs1 hat1 hrep1;obtain ⟨p5,c5,p6,c6,p7,c7,rfl,h5,h6,h7⟩:=yV hrep1;refine xT 0 hat1 (cExpr x1 p5 c5 p6 c6 p7 c7) (vA (cExpr x1 p5 c5 p6 c6 p7 c7)) rfl<|wK zExpr ?_;intro b1 hb1;refine yZ 0 (cExpr x1 p5 c5 p6 c6 p7 c7) rfl<|zZ rfl<|yX<|sH 3 [1,0] [(26,.func (.func 57) ⟨[]⟩ ⟨[]⟩),(27,vA (cExpr x p2 c2 p3 c3 p4 c4)),(28,vA (cExpr x1 p5 c5 p6 c6 p7 c7))]<|bE N fun y hy2 N=>xM (ih_impl_exprSame x x1 _ hy2 h2 h3 h4 h5 h6 h7) ?_;rintro I0 hs2 v2 k2 le - ⟨v06,rfl,rfl,rfl⟩ -;have ⟨h1,h,H⟩:=m3 le h1 h H;refine yL [] [30] rfl<|zI<|yH N ?_ ?_
      · intro hc2 N;exact uA [(6,vF)]<|xE<|zV<|zH<|zH<|hr _ _ _ _ (zB N).symm H ⟨_,_,(.tmp rfl ResV.nil),zL,⟨_,rfl,rfl,rfl⟩⟩
      intro hc2 N;exact zT<|zQ<|zI<|zM<|yL [] [17] rfl<|xF<|gA zL<|mH [(1,vS p1 s2 c1),(2,.func (.func 57) ⟨[]⟩ ⟨[]⟩),(15,vS p s1 c),(16,vI (s1.length:Int)),(17,vI (W (t17 + 1)))]<|ih_slices_EqualFunc_impl_Expr_impl_Expr_impl_Expr_impl_Expr_l1 s1 s2 (W (t17 + 1)) _ N H h1 h hg ho hx hr
    intro hc1 N;exact tS<|yM<|hx _  (zB N).symm H
  intro F_slices_EqualFunc_impl_Expr_impl_Expr_impl_Expr_impl_Expr ih_slices_EqualFunc_impl_Expr_impl_Expr_impl_Expr_impl_Expr a0 b r N I p c p1 c1 p2 c2 p3 c3 p4 c4 p5 c5 h h1 h2 h3 h4 h5;refine yI Tryz.func57 fun B=>?_;have H:=iS I;refine yG<|uG (cExpr a0 p c p1 c1 p2 c2) ?_;intro b1 hb;refine uG (cExpr b p3 c3 p4 c4 p5 c5) ?_;intro b2 hb1;refine wC [] []<|zI<|yA ?_;refine wI N [] (fun t4=>[(4,.bool t4)]) (fun o0 ho0=>?_) ?_
  · have H:=iS I;refine zM<|yF 6 [1,0] [10] rfl<|xP [10] ho0 ?_ ?_
    · intro hc N;refine yF 13 [1,0] [17] rfl<|xP [17] N ?_ ?_
      · intro hc1 N;refine sH 17 [1,0] [(19,vA (cAff a0.Index p c)),(21,vA (cAff b.Index p3 c3))]<|bE N fun y hy N=>uB (gJ a0.Index b.Index _ hy h h3) ?_;intro I01 le;have ⟨h4,h5,h1,h2,H⟩:=m5 le h4 h5 h1 h2 H;refine yF 20 [] [24] rfl<|xP [24] N ?_ ?_
        · intro hc2 N;refine sH 24 [1,0] [(26,vA (cAccess a0.Read p1 c1)),(28,vA (cAccess b.Read p4 c4))]<|bE N fun y1 hy1 N=>uB (nB a0.Read b.Read _ hy1 h1 h4) ?_;intro I02 le1;have ⟨h5,h2,H⟩:=m3 le1 h5 h2 H;refine yF 27 [] [31] rfl<|xP [31] N ?_ ?_
          · intro hc3 N;refine yF 31 [1,0] [33,35] rfl<|bE N fun y2 hy2 N=>xM (ih_slices_EqualFunc_impl_Expr_impl_Expr_impl_Expr_impl_Expr a0.Kids b.Kids _ hy2 h2 h5) ?_;rintro I03 hs2 v2 k2 le2 - ⟨v02,rfl,rfl,rfl⟩ -;have H:=H.trans le2;exact yL [] [4] rfl<|xQ zL<|yM<|zR (ct N H)
          intro hc3 N;exact wC [] [(4,vF)]<|xQ zL<|yM<|zR (ct N H)
        intro hc2 N;exact wC [] [(4,vF)]<|xQ zL<|yM<|zR (ct N H)
      intro hc1 N;exact wC [] [(4,vF)]<|xQ zL<|yM<|zR (ct N H)
    intro hc N;exact wC [] [(4,vF)]<|xQ zL<|yM<|zR (ct N H)
  intro t4 I0 le3 hMc;refine zI<|yS ?_;obtain rfl:=zB hMc;exact wM
theorem zCO:∀ a0 b r,pF a0 b=some r→∀ {I:Imm}{p c p1 c1 p2 c2 p3 c3 p4 c4 p5 c5},(S4 I p a0.Index.Coefs c)→(S4 I p1 a0.Read.Subs c1)→(S4 I p2 a0.Kids c2)→(S4 I p3 b.Index.Coefs c3)→(S4 I p4 b.Read.Subs c4)→(S4 I p5 b.Kids c5)→RT 57 [vA (cExpr a0 p c p1 c1 p2 c2),vA (cExpr b p3 c3 p4 c4 p5 c5)] I [] (zP  r):=rB.2.2
def pG (a0:zK) (b:zK):Option (Bool):=do
 let t4←(do
   let y←wV a0.Write b.Write
   if y then
    let y1←pF a0.Value b.Value
    pure (id y1)
   else
    pure false
     : Option Bool)
 pure (id t4)
theorem kW:∀ a0 b r,pG a0 b=some r→∀ {I:Imm}{p c p1 c1 p2 c2 p3 c3 p4 c4 p5 c5 p6 c6 p7 c7},(S4 I p a0.Write.Subs c)→(S4 I p1 a0.Value.Index.Coefs c1)→(S4 I p2 a0.Value.Read.Subs c2)→(S4 I p3 a0.Value.Kids c3)→(S4 I p4 b.Write.Subs c4)→(S4 I p5 b.Value.Index.Coefs c5)→(S4 I p6 b.Value.Read.Subs c6)→(S4 I p7 b.Value.Kids c7)→RT 21 [vA (cStmt a0 p c p1 c1 p2 c2 p3 c3),vA (cStmt b p4 c4 p5 c5 p6 c6 p7 c7)] I [] (zP  r):=by
 intro a0 b r N I p c p1 c1 p2 c2 p3 c3 p4 c4 p5 c5 p6 c6 p7 c7 h h1 h2 h3 h4 h5 h6 h7;unfold pG at N;refine yI Tryz.func21 fun B=>?_;have H:=iS I;refine yG<|uG (cStmt a0 p c p1 c1 p2 c2 p3 c3) ?_;intro b1 hb;refine uG (cStmt b p4 c4 p5 c5 p6 c6 p7 c7) ?_;intro b2 hb1;refine wC [] []<|zI<|yA ?_;refine wI N [] (fun t4=>[(4,.bool t4)]) (fun o0 ho0=>?_) ?_
 · have H:=iS I;refine zM<|sH 4 [1,0] [(6,vA (cAccess a0.Write p c)),(8,vA (cAccess b.Write p4 c4))] ?_;obtain ⟨y,hy,N⟩:=zC ho0;refine uB (nB a0.Write b.Write _ hy h h4) ?_;intro I01 le;have ⟨h5,h6,h7,h1,h2,h3⟩:=m6 le h5 h6 h7 h1 h2 h3;have H:=H.trans le;refine yF 6 [] [10] rfl<|xP [10] N ?_ ?_
   · intro hc N;refine sH 10 [1,0] [(12,vA (cExpr a0.Value p1 c1 p2 c2 p3 c3)),(14,vA (cExpr b.Value p5 c5 p6 c6 p7 c7))]<|bE N fun y1 hy1 N=>uB (zCO a0.Value b.Value _ hy1 h1 h2 h3 h5 h6 h7) ?_;intro I02 le1;have H:=H.trans le1;exact yL [] [4] rfl<|xQ zL<|yM<|zR (ct N H)
   intro hc N;exact wC [] [(4,vF)]<|xQ zL<|yM<|zR (ct N H)
 intro t4 I0 le2 hMc;refine zI<|yS ?_;obtain rfl:=zB hMc;exact wM
def pM (code:(List UInt8)) (more:(List UInt8)):Option (Bool):=do
 let t17←(do
   if (decide ((code.length:Int) > 1048576)) then
    pure true
   else
    pure (decide ((more.length:Int) > 1048576))
     : Option Bool)
 if t17 then
  pure true
 else
  let y←sW code
  let y1←rR y
  let t29←(do
    let y2←rU y
    if (!(y1 == y2)) then
     pure true
    else
     pure (!y1)
      : Option Bool)
  if t29 then
   let y3←rU y
   pure (y1 == y3)
  else
   let y4←oQ y
   let (y6,y7)←oR y ((more.length:Int).tmod 4) (zA.mk ([0,1,0,0]:List Int) 1)
   let t4←(do
     if (decide ((y4.length:Int) > 0)) then
      let x←idx y4 0
      let y8←pG (zK.mk x (zD.mk 0 0 (zA.mk ([]:List Int) 0) (zF.mk (⟨[]⟩:Str) ([]:List zA)) ([]:List zD))) (zK.mk y.Write (zD.mk 0 0 (zA.mk ([]:List Int) 0) (zF.mk (⟨[]⟩:Str) ([]:List zA)) ([]:List zD)))
      if y8 then
       if (!y7) then
        pure true
       else
        let y9←rR y6
        pure (id y9)
      else
       pure false
     else
      pure false
       : Option Bool)
   pure (id t4)
theorem zEy:∀ code more r,pM code more=some r→∀ {I:Imm}{p c p1 c1},(S4 I p code c)→(S4 I p1 more c1)→RT 4 [vS p code c,vS p1 more c1] I [] (zP  r):=by
 intro code more r N I p c p1 c1 h h1;unfold pM at N;refine yI Tryz.func4 fun B=>?_;have H:=iS I;refine uA []<|yE<|yA ?_;refine wI N [] (fun t17=>[(0,vS p code c),(1,vS p1 more c1),(17,.bool t17)]) (fun o0 ho0=>?_) ?_
 · have H:=iS I;refine zM<|yF 4 [] [13] rfl<|xP [13] ho0 ?_ ?_
   · intro hc N;exact wC [] [(17,vY)]<|yM<|zR (ct N H)
   intro hc N;exact yL [] [17] rfl<|yM<|zR (ct N H)
 intro t17 I0 le hMc;have ⟨h,H⟩:=m2 le h H;refine zI<|yH hMc ?_ ?_
 · intro hc1 N;refine uA [(4,vY)]<|xE<|zH ?_;obtain rfl:=zB N;exact wM
 intro hc1 N;refine zT<|yX<|yF 1 [] [18] rfl<|bE N fun y hy N=>xM (eE code _ hy h) ?_;rintro I01 hs2 v2 k2 le1 - ⟨v0,rfl,rfl,⟨cs,rfl,h2⟩⟩ -;have H:=H.trans le1;obtain ⟨p2,c2,p3,c3,p4,c4,p5,c5,rfl,h3,h4,h5,h6⟩:=tZ h2;refine wK [vT ([]),z0,vI 0,vI 0,z0,vI 0,vT ([]),z0,z0] ?_;intro b hb;refine yZ 0 (cStmt y p2 c2 p3 c3 p4 c4 p5 c5) rfl<|zZ rfl<|yX<|sH 1 [0] [(20,vA (cStmt y p2 c2 p3 c3 p4 c4 p5 c5))]<|bE N fun y1 hy1 N=>uB (jU y _ hy1 h3 h4 h5 h6) ?_;intro I02 le2;have ⟨h3,h4,h5,h6,H⟩:=m5 le2 h3 h4 h5 h6 H;refine yL [] [6] rfl<|yE<|yA ?_;refine wI N [hB b (cStmt y p2 c2 p3 c3 p4 c4 p5 c5)] (fun t29=>[(1,vS p1 more c1),(5,vP b 0),(6,.bool y1),(29,.bool t29)]) (fun o01 ho01=>?_) ?_
 · have H:=iS I02;refine zM<|sH 2 [0] [(22,.bool y1),(23,vA (cStmt y p2 c2 p3 c3 p4 c4 p5 c5))] ?_;obtain ⟨y2,hy2,N⟩:=zC ho01;refine uB (jV y _ hy2 h3 h4 h5 h6) ?_;intro I04 le3;have H:=H.trans le3;refine yF 5 [] [26] rfl<|xP [26] N ?_ ?_
   · intro hc2 N;exact wC [] [(29,vY)]<|yM<|zR (ct N H)
   intro hc2 N;exact yL [] [29] rfl<|yM<|zR (ct N H)
 intro t29 I03 le4 hMc1;have ⟨h3,h4,h5,h6,H⟩:=m5 le4 h3 h4 h5 h6 H;refine zI<|yH hMc1 ?_ ?_
 · intro hc3 N;refine yG<|sH 2 [0] [(30,.bool y1),(31,vA (cStmt y p2 c2 p3 c3 p4 c4 p5 c5))]<|bE N fun y3 hy3 N=>uB (jV y _ hy3 h3 h4 h5 h6) fun I05 le5=>wC [] [(4,.bool (y1 == y3))]<|xE<|zH ?_;obtain rfl:=zB N;exact wM
 intro hc3 N;refine zT<|yX<|sH 1 [0] [(34,vA (cStmt y p2 c2 p3 c3 p4 c4 p5 c5))]<|bE N fun y4 hy4 N=>xM (zB9 y _ hy4 h3 h4 h5 h6) ?_;rintro I06 hs2 v2 k2 le6 - ⟨v08,rfl,rfl,h10⟩ -;have ⟨h3,h4,h5,h6,H⟩:=m5 le6 h3 h4 h5 h6 H;obtain ⟨p6,c6,rfl⟩:=h10.form;refine yL [] [7] rfl<|yX<|sH 4 [0] [(37,vA (cStmt y p2 c2 p3 c3 p4 c4 p5 c5)),(40,vI ((more.length:Int).tmod 4))]<|qB [vI 0,vI 1,vI 0,vI 0] Int ?_;intro b1 hb1;have h11:RL I06 [vI 0,vI 1,vI 0,vI 0] ([0,1,0,0]:List Int):=rI [0,1,0,0];refine yF 6 [] [42] rfl<|vZ 0 rfl ?_;intro I07 le7 hl0;have h12:=SL.of_frozen hl0 le7 h11;have ⟨h10,h3,h4,h5,h6,H⟩:=m6 le7 h10 h3 h4 h5 h6 H;obtain ⟨⟨y6,y7⟩,hy5,N⟩:=zC N;refine xM (zBa y ((more.length:Int).tmod 4) (zA.mk ([0,1,0,0]:List Int) 1) _ hy5 h3 h4 h5 h6 h12) ?_;rintro I08 hs2 v2 k2 le8 - ⟨v09,v010,rfl,rfl,⟨cs1,rfl,h13⟩,rfl⟩ -;have ⟨h10,h3,H⟩:=m3 le8 h10 h3 H;obtain ⟨p7,c7,p8,c8,p9,c9,p10,c10,rfl,h15,h16,h17,h18⟩:=tZ h13;refine yF 10 [] [44,45] rfl<|wK [vT ([]),z0,vI 0,vI 0,z0,vI 0,vT ([]),z0,z0] ?_;intro b2 hb2;refine yZ 0 (cStmt y6 p7 c7 p8 c8 p9 c9 p10 c10) rfl<|yL [] [9] rfl<|zI<|yA ?_;refine wI N [] (fun t4=>[(4,.bool t4)]) (fun o02 ho02=>?_) ?_
 · have H:=iS I08;cases hc4:(decide ((y4.length:Int) > 0)) with
   | true =>
    have hM0:=vC hc4 ho02;obtain ⟨x,hy6,N⟩:=zC hM0;obtain ⟨y8,hy7,N⟩:=zC N;cases hc5:y8 with
    | true =>
     have hM01:=vC hc5 N;cases hc6:(!y7) with
     | true =>
      have hM02:=vC hc6 hM01;refine wZ [.p (vS p6 y4 c6) [],.p (vI (y4.length:Int)) [],.q vY,.q vY,.p (vS p6 y4 c6) [],.x (ePAccess x),.x (eVAccess x),.x (fun I' v hx=>∃ p1111 c1111,v=vA [vT x.Array.l,vS p1111 x.Subs c1111,vI 0,vI 0,z0,vI 0,vT ([]),z0,z0]∧hx=[]∧(S4 I' p1111 x.Subs c1111)),.p (vP b 0) [],.p (vA (cAccess y.Write p2 c2)) [1],.p (vA [vT y.Write.Array.l,vS p2 y.Write.Subs c2,vI 0,vI 0,z0,vI 0,vT ([]),z0,z0]) [],.q vY,.q vY,.q vY,.p (.bool y7) [],.q vY,.q vY,.p undef [],.p undef [],.p vY [],.p vY []] [[],[(0,false)],[(1,false)],[(2,false)],[(3,false)],[(3,false),(4,false)],[(3,false),(5,false)],[(3,false),(6,false)],[(3,false)],[(3,false),(8,false)],[(3,false),(9,false)],[(3,false),(7,false),(10,false)],[(3,false),(11,false)],[(12,false)],[(13,false)],[(13,false),(14,false)],[(13,false),(15,false)],[(16,false)],[(16,false),(17,false)],[(13,false),(16,false),(18,false)],[(13,false),(19,false)]] [hB b2 (cStmt y6 p7 c7 p8 c8 p9 c9 p10 c10),hB b (cStmt y p2 c2 p3 c3 p4 c4 p5 c5)] [] [(20,false)] (yB [0,1]) ?_ ?_
      · refine Op<|Op<|Oq ?_<|Oq ?_<|Op<|Ox ?_<|Ox ?_<|Ox ?_<|Op<|Op<|Op<|Oq ?_<|Oq ?_<|Oq ?_<|Op<|Oq ?_<|Oq ?_<|Op<|Op<|Op<|Op<|On
        · intro I1 hf le1;refine yY [47] rfl<|qE 3 [(48,.bool (decide ((y4.length:Int) > 0)))] ?_;rw [hc4];exact xC iR
        · intro I1 hf le1;exact jM [(48,vY)]<|qE 4 [(49,vY)]<|xC iR
        · intro I1 hf le1;refine yY [49,50] rfl ?_;have h10:=h10.mono le1;refine wF rfl rfl h10 hy6 ?_;intro ad ccs hat hrep;obtain ⟨p11,c11,rfl,h19⟩:=uE hrep;exact yW [] iR ⟨_,_,_,rfl,rfl,hat,h19⟩
        · rintro I1 hf le1 _ _ ⟨rfl,rfl⟩ _ _ ⟨ad,p11,c11,rfl,rfl,hat,h19⟩;exact yY [49,51] rfl<|xT 0 hat (cAccess x p11 c11) (vA (cAccess x p11 c11)) rfl<|yW [] iR ⟨_,_,rfl,rfl,h19⟩
        · rintro I1 hf le1 _ _ ⟨rfl,rfl⟩ _ _ ⟨p111,c111,rfl,rfl,h191⟩;exact yY [49,52] rfl<|qE 8 [(53,vA [vT x.Array.l,vS p111 x.Subs c111,vI 0,vI 0,z0,vI 0,vT ([]),z0,z0])]<|yW [] iR ⟨_,_,rfl,rfl,h191⟩
        · rintro I1 hf le1 _ _ ⟨rfl,rfl⟩ _ _ ⟨p1111,c1111,rfl,rfl,h1911⟩;refine yY [49,53,56] rfl ?_;have H:=iS I1;have h3:=h3.mono le1;refine uB (kW (zK.mk x (zD.mk 0 0 (zA.mk ([]:List Int) 0) (zF.mk (⟨[]⟩:Str) ([]:List zA)) ([]:List zD))) (zK.mk y.Write (zD.mk 0 0 (zA.mk ([]:List Int) 0) (zF.mk (⟨[]⟩:Str) ([]:List zA)) ([]:List zD))) _ hy7 h1911 (SL.nil _) (SL.nil _) (SL.nil _) h3 (SL.nil _) (SL.nil _) (SL.nil _)) ?_;intro I010 le9;have H:=H.trans le9;rw [hc5];exact xC H
        · intro I1 hf le1;exact yY [49,57] rfl<|qE 13 [(58,vY)]<|xC iR
        · intro I1 hf le1;exact jM [(58,vY)]<|qE 14 [(59,vY)]<|xC iR
        · intro I1 hf le1;refine yY [59,60] rfl<|qE 16 [(61,.bool (!y7))] ?_;rw [hc6];exact xC iR
        intro I1 hf le1;exact yY [59,61] rfl<|qE 17 [(62,vY)]<|xC iR
      intro I011 le10;refine jM [(66,vY)] ?_;have H:=H.trans le10;exact wC [] [(4,vY)]<|xQ zL<|yM<|zR (ct hM02 H)
     | false =>
      have hM03:=wP hc6 hM01;obtain ⟨y9,hy8,N⟩:=zC hM03;refine wZ [.p (vS p6 y4 c6) [],.p (vI (y4.length:Int)) [],.q vY,.q vY,.p (vS p6 y4 c6) [],.x (ePAccess x),.x (eVAccess x),.x (fun I' v hx=>∃ p1111 c1111,v=vA [vT x.Array.l,vS p1111 x.Subs c1111,vI 0,vI 0,z0,vI 0,vT ([]),z0,z0]∧hx=[]∧(S4 I' p1111 x.Subs c1111)),.p (vP b 0) [],.p (vA (cAccess y.Write p2 c2)) [1],.p (vA [vT y.Write.Array.l,vS p2 y.Write.Subs c2,vI 0,vI 0,z0,vI 0,vT ([]),z0,z0]) [],.q vY,.q vY,.q vY,.p (.bool y7) [],.q vF,.q vF,.p (vA (cStmt y6 p7 c7 p8 c8 p9 c9 p10 c10)) [0],.q (.bool y9),.p (.bool y9) [],.p (.bool y9) []] [[],[(0,false)],[(1,false)],[(2,false)],[(3,false)],[(3,false),(4,false)],[(3,false),(5,false)],[(3,false),(6,false)],[(3,false)],[(3,false),(8,false)],[(3,false),(9,false)],[(3,false),(7,false),(10,false)],[(3,false),(11,false)],[(12,false)],[(13,false)],[(13,false),(14,false)],[(13,false),(15,false)],[(16,false)],[(16,false),(17,false)],[(13,false),(16,false),(18,false)],[(13,false),(19,false)]] [hB b2 (cStmt y6 p7 c7 p8 c8 p9 c9 p10 c10),hB b (cStmt y p2 c2 p3 c3 p4 c4 p5 c5)] [] [(20,false)] (yB [0,1]) ?_ ?_
      · refine Op<|Op<|Oq ?_<|Oq ?_<|Op<|Ox ?_<|Ox ?_<|Ox ?_<|Op<|Op<|Op<|Oq ?_<|Oq ?_<|Oq ?_<|Op<|Oq ?_<|Oq ?_<|Op<|Oq ?_<|Op<|Op<|On
        · intro I1 hf le1;refine yY [47] rfl<|qE 3 [(48,.bool (decide ((y4.length:Int) > 0)))] ?_;rw [hc4];exact xC iR
        · intro I1 hf le1;exact jM [(48,vY)]<|qE 4 [(49,vY)]<|xC iR
        · intro I1 hf le1;refine yY [49,50] rfl ?_;have h10:=h10.mono le1;refine wF rfl rfl h10 hy6 ?_;intro ad ccs hat hrep;obtain ⟨p11,c11,rfl,h19⟩:=uE hrep;exact yW [] iR ⟨_,_,_,rfl,rfl,hat,h19⟩
        · rintro I1 hf le1 _ _ ⟨rfl,rfl⟩ _ _ ⟨ad,p11,c11,rfl,rfl,hat,h19⟩;exact yY [49,51] rfl<|xT 0 hat (cAccess x p11 c11) (vA (cAccess x p11 c11)) rfl<|yW [] iR ⟨_,_,rfl,rfl,h19⟩
        · rintro I1 hf le1 _ _ ⟨rfl,rfl⟩ _ _ ⟨p111,c111,rfl,rfl,h191⟩;exact yY [49,52] rfl<|qE 8 [(53,vA [vT x.Array.l,vS p111 x.Subs c111,vI 0,vI 0,z0,vI 0,vT ([]),z0,z0])]<|yW [] iR ⟨_,_,rfl,rfl,h191⟩
        · rintro I1 hf le1 _ _ ⟨rfl,rfl⟩ _ _ ⟨p1111,c1111,rfl,rfl,h1911⟩;refine yY [49,53,56] rfl ?_;have H:=iS I1;have h3:=h3.mono le1;refine uB (kW (zK.mk x (zD.mk 0 0 (zA.mk ([]:List Int) 0) (zF.mk (⟨[]⟩:Str) ([]:List zA)) ([]:List zD))) (zK.mk y.Write (zD.mk 0 0 (zA.mk ([]:List Int) 0) (zF.mk (⟨[]⟩:Str) ([]:List zA)) ([]:List zD))) _ hy7 h1911 (SL.nil _) (SL.nil _) (SL.nil _) h3 (SL.nil _) (SL.nil _) (SL.nil _)) ?_;intro I010 le9;have H:=H.trans le9;rw [hc5];exact xC H
        · intro I1 hf le1;exact yY [49,57] rfl<|qE 13 [(58,vY)]<|xC iR
        · intro I1 hf le1;exact jM [(58,vY)]<|qE 14 [(59,vY)]<|xC iR
        · intro I1 hf le1;refine yY [59,60] rfl<|qE 16 [(61,.bool (!y7))] ?_;rw [hc6];exact xC iR
        · intro I1 hf le1;exact yY [59,61] rfl<|qE 17 [(62,vF)]<|xC iR
        intro I1 hf le1;refine yY [62,63] rfl ?_;have H:=iS I1;have ⟨h15,h16,h17,h18⟩:=m4 le1 h15 h16 h17 h18;refine uB (jU y6 _ hy8 h15 h16 h17 h18) ?_;intro I012 le11;have H:=H.trans le11;exact xC H
      intro I013 le12;refine yY [66] rfl ?_;have H:=H.trans le12;exact yL [] [4] rfl<|xQ zL<|yM<|zR (ct N H)
    | false =>
     have hM04:=wP hc5 N;refine wZ [.p (vS p6 y4 c6) [],.p (vI (y4.length:Int)) [],.q vY,.q vY,.p (vS p6 y4 c6) [],.x (ePAccess x),.x (eVAccess x),.x (fun I' v hx=>∃ p1111 c1111,v=vA [vT x.Array.l,vS p1111 x.Subs c1111,vI 0,vI 0,z0,vI 0,vT ([]),z0,z0]∧hx=[]∧(S4 I' p1111 x.Subs c1111)),.p (vP b 0) [],.p (vA (cAccess y.Write p2 c2)) [1],.p (vA [vT y.Write.Array.l,vS p2 y.Write.Subs c2,vI 0,vI 0,z0,vI 0,vT ([]),z0,z0]) [],.q vF,.q vF,.q vF,.p undef [],.p undef [],.p undef [],.p undef [],.p undef [],.p undef [],.p vF []] [[],[(0,false)],[(1,false)],[(2,false)],[(3,false)],[(3,false),(4,false)],[(3,false),(5,false)],[(3,false),(6,false)],[(3,false)],[(3,false),(8,false)],[(3,false),(9,false)],[(3,false),(7,false),(10,false)],[(3,false),(11,false)],[(12,false)],[(13,false)],[(13,false),(14,false)],[(13,false),(15,false)],[(16,false)],[(16,false),(17,false)],[(13,false),(16,false),(18,false)],[(13,false),(19,false)]] [hB b2 (cStmt y6 p7 c7 p8 c8 p9 c9 p10 c10),hB b (cStmt y p2 c2 p3 c3 p4 c4 p5 c5)] [] [(20,false)] (yB [0,1]) ?_ ?_
     · refine Op<|Op<|Oq ?_<|Oq ?_<|Op<|Ox ?_<|Ox ?_<|Ox ?_<|Op<|Op<|Op<|Oq ?_<|Oq ?_<|Oq ?_<|Op<|Op<|Op<|Op<|Op<|Op<|Op<|On
       · intro I1 hf le1;refine yY [47] rfl<|qE 3 [(48,.bool (decide ((y4.length:Int) > 0)))] ?_;rw [hc4];exact xC iR
       · intro I1 hf le1;exact jM [(48,vY)]<|qE 4 [(49,vY)]<|xC iR
       · intro I1 hf le1;refine yY [49,50] rfl ?_;have h10:=h10.mono le1;refine wF rfl rfl h10 hy6 ?_;intro ad ccs hat hrep;obtain ⟨p11,c11,rfl,h19⟩:=uE hrep;exact yW [] iR ⟨_,_,_,rfl,rfl,hat,h19⟩
       · rintro I1 hf le1 _ _ ⟨rfl,rfl⟩ _ _ ⟨ad,p11,c11,rfl,rfl,hat,h19⟩;exact yY [49,51] rfl<|xT 0 hat (cAccess x p11 c11) (vA (cAccess x p11 c11)) rfl<|yW [] iR ⟨_,_,rfl,rfl,h19⟩
       · rintro I1 hf le1 _ _ ⟨rfl,rfl⟩ _ _ ⟨p111,c111,rfl,rfl,h191⟩;exact yY [49,52] rfl<|qE 8 [(53,vA [vT x.Array.l,vS p111 x.Subs c111,vI 0,vI 0,z0,vI 0,vT ([]),z0,z0])]<|yW [] iR ⟨_,_,rfl,rfl,h191⟩
       · rintro I1 hf le1 _ _ ⟨rfl,rfl⟩ _ _ ⟨p1111,c1111,rfl,rfl,h1911⟩;refine yY [49,53,56] rfl ?_;have H:=iS I1;have h3:=h3.mono le1;refine uB (kW (zK.mk x (zD.mk 0 0 (zA.mk ([]:List Int) 0) (zF.mk (⟨[]⟩:Str) ([]:List zA)) ([]:List zD))) (zK.mk y.Write (zD.mk 0 0 (zA.mk ([]:List Int) 0) (zF.mk (⟨[]⟩:Str) ([]:List zA)) ([]:List zD))) _ hy7 h1911 (SL.nil _) (SL.nil _) (SL.nil _) h3 (SL.nil _) (SL.nil _) (SL.nil _)) ?_;intro I010 le9;have H:=H.trans le9;rw [hc5];exact xC H
       · intro I1 hf le1;exact yY [49,57] rfl<|qE 13 [(58,vF)]<|xC iR
       intro I1 hf le1;exact jM [(58,vF)]<|qE 14 [(59,vF)]<|xC iR
     intro I014 le13;refine jM [(66,vF)] ?_;have H:=H.trans le13;exact wC [] [(4,vF)]<|xQ zL<|yM<|zR (ct hM04 H)
   | false =>
    have hM05:=wP hc4 ho02;refine wZ [.p (vS p6 y4 c6) [],.p (vI (y4.length:Int)) [],.q vF,.q vF,.p undef [],.p undef [],.p undef [],.p undef [],.p undef [],.p undef [],.p undef [],.p undef [],.p vF [],.p vF [],.p undef [],.p undef [],.p undef [],.p undef [],.p undef [],.p undef [],.p vF []] [[],[(0,false)],[(1,false)],[(2,false)],[(3,false)],[(3,false),(4,false)],[(3,false),(5,false)],[(3,false),(6,false)],[(3,false)],[(3,false),(8,false)],[(3,false),(9,false)],[(3,false),(7,false),(10,false)],[(3,false),(11,false)],[(12,false)],[(13,false)],[(13,false),(14,false)],[(13,false),(15,false)],[(16,false)],[(16,false),(17,false)],[(13,false),(16,false),(18,false)],[(13,false),(19,false)]] [hB b2 (cStmt y6 p7 c7 p8 c8 p9 c9 p10 c10),hB b (cStmt y p2 c2 p3 c3 p4 c4 p5 c5)] [] [(20,false)] (yB [0,1]) ?_ ?_
    · refine Op<|Op<|Oq ?_<|Oq ?_<|Op<|Op<|Op<|Op<|Op<|Op<|Op<|Op<|Op<|Op<|Op<|Op<|Op<|Op<|Op<|Op<|Op<|On
      · intro I1 hf le1;refine yY [47] rfl<|qE 3 [(48,.bool (decide ((y4.length:Int) > 0)))] ?_;rw [hc4];exact xC iR
      intro I1 hf le1;exact jM [(48,vF)]<|qE 4 [(49,vF)]<|xC iR
    intro I015 le14;refine jM [(66,vF)] ?_;have H:=H.trans le14;exact wC [] [(4,vF)]<|xQ zL<|yM<|zR (ct hM05 H)
 intro t4 I09 le15 hMc2;refine zI<|yS ?_;obtain rfl:=zB hMc2;exact wM
end Go.LN
