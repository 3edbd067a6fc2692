/- Helper of the proof (see the last text). -/
import Derived.Test.YtaflkghnfcjahaaGreatLnN
import Derived.Test.YtaflkghnfcjahaaGreatTryzShelf
set_option linter.unusedVariables false
set_option linter.unusedSimpArgs false
namespace Go.LN
open Go.Proofs
set_option maxRecDepth 20000
abbrev eS {α:Type} [Rp α] (l:List α):Imm→Value→List HA→Prop:=fun I' v hx=>∃ p c,v=vS p l c∧hx=[]∧S4 I' p l c
abbrev ePExpr (x:zG):Imm→Value→List HA→Prop:=fun I' v hx=>∃ ad p0 c0 p1 c1 p2 c2,v=.pointer (some ad)∧hx=[]∧At I' ad (cExpr x p0 c0 p1 c1 p2 c2)∧S4 I' p0 x.Index.Coefs c0∧S4 I' p1 x.Read.Subs c1∧S4 I' p2 x.Kids c2
abbrev eQExpr (k:Nat) (x:zG):Imm→Value→List HA→Prop:=fun I' v hx=>∃ ad p0 c0 p1 c1 p2 c2,v=.pointer (some (ad.add k))∧hx=[]∧At I' ad (cExpr x p0 c0 p1 c1 p2 c2)∧S4 I' p0 x.Index.Coefs c0∧S4 I' p1 x.Read.Subs c1∧S4 I' p2 x.Kids c2
abbrev eVExpr (x:zG):Imm→Value→List HA→Prop:=fun I' v hx=>∃ p0 c0 p1 c1 p2 c2,v=vA (cExpr x p0 c0 p1 c1 p2 c2)∧hx=[]∧S4 I' p0 x.Index.Coefs c0∧S4 I' p1 x.Read.Subs c1∧S4 I' p2 x.Kids c2
abbrev ePStmt (x:zN):Imm→Value→List HA→Prop:=fun I' v hx=>∃ ad p0 c0 p1 c1 p2 c2 p3 c3,v=.pointer (some ad)∧hx=[]∧At I' ad (cStmt x p0 c0 p1 c1 p2 c2 p3 c3)∧S4 I' p0 x.Write.Subs c0∧S4 I' p1 x.Value.Index.Coefs c1∧S4 I' p2 x.Value.Read.Subs c2∧S4 I' p3 x.Value.Kids c3
abbrev eVStmt (x:zN):Imm→Value→List HA→Prop:=fun I' v hx=>∃ p0 c0 p1 c1 p2 c2 p3 c3,v=vA (cStmt x p0 c0 p1 c1 p2 c2 p3 c3)∧hx=[]∧S4 I' p0 x.Write.Subs c0∧S4 I' p1 x.Value.Index.Coefs c1∧S4 I' p2 x.Value.Read.Subs c2∧S4 I' p3 x.Value.Kids c3
abbrev ePAff (x:zA):Imm→Value→List HA→Prop:=fun I' v hx=>∃ ad p0 c0,v=.pointer (some ad)∧hx=[]∧At I' ad (cAff x p0 c0)∧S4 I' p0 x.Coefs c0
abbrev eVAff (x:zA):Imm→Value→List HA→Prop:=fun I' v hx=>∃ p0 c0,v=vA (cAff x p0 c0)∧hx=[]∧S4 I' p0 x.Coefs c0
abbrev ePArr (x:zF):Imm→Value→List HA→Prop:=fun I' v hx=>∃ ad p0 c0,v=.pointer (some ad)∧hx=[]∧At I' ad (cArr x p0 c0)∧S4 I' p0 x.Dims c0
abbrev eQArr (k:Nat) (x:zF):Imm→Value→List HA→Prop:=fun I' v hx=>∃ ad p0 c0,v=.pointer (some (ad.add k))∧hx=[]∧At I' ad (cArr x p0 c0)∧S4 I' p0 x.Dims c0
abbrev eVArr (x:zF):Imm→Value→List HA→Prop:=fun I' v hx=>∃ p0 c0,v=vA (cArr x p0 c0)∧hx=[]∧S4 I' p0 x.Dims c0
abbrev ePInst (x:zO):Imm→Value→List HA→Prop:=fun I' v hx=>∃ ad p0 c0,v=.pointer (some ad)∧hx=[]∧At I' ad (cInst x p0 c0)∧S4 I' p0 x.Point c0
abbrev eQInst (k:Nat) (x:zO):Imm→Value→List HA→Prop:=fun I' v hx=>∃ ad p0 c0,v=.pointer (some (ad.add k))∧hx=[]∧At I' ad (cInst x p0 c0)∧S4 I' p0 x.Point c0
abbrev eVInst (x:zO):Imm→Value→List HA→Prop:=fun I' v hx=>∃ p0 c0,v=vA (cInst x p0 c0)∧hx=[]∧S4 I' p0 x.Point c0
abbrev ePPart (x:zM):Imm→Value→List HA→Prop:=fun I' v hx=>∃ ad p0 c0 p1 c1,v=.pointer (some ad)∧hx=[]∧At I' ad (cPart x p0 c0 p1 c1)∧S4 I' p0 x.Nest c0∧S4 I' p1 x.Body c1
abbrev eQPart (k:Nat) (x:zM):Imm→Value→List HA→Prop:=fun I' v hx=>∃ ad p0 c0 p1 c1,v=.pointer (some (ad.add k))∧hx=[]∧At I' ad (cPart x p0 c0 p1 c1)∧S4 I' p0 x.Nest c0∧S4 I' p1 x.Body c1
abbrev eVPart (x:zM):Imm→Value→List HA→Prop:=fun I' v hx=>∃ p0 c0 p1 c1,v=vA (cPart x p0 c0 p1 c1)∧hx=[]∧S4 I' p0 x.Nest c0∧S4 I' p1 x.Body c1
abbrev ePLoop (x:zD):Imm→Value→List HA→Prop:=fun I' v hx=>∃ ad p0 c0 p1 c1,v=.pointer (some ad)∧hx=[]∧At I' ad (cLoop x p0 c0 p1 c1)∧S4 I' p0 x.Lo c0∧S4 I' p1 x.Hi c1
abbrev eQLoop (k:Nat) (x:zD):Imm→Value→List HA→Prop:=fun I' v hx=>∃ ad p0 c0 p1 c1,v=.pointer (some (ad.add k))∧hx=[]∧At I' ad (cLoop x p0 c0 p1 c1)∧S4 I' p0 x.Lo c0∧S4 I' p1 x.Hi c1
abbrev eVLoop (x:zD):Imm→Value→List HA→Prop:=fun I' v hx=>∃ p0 c0 p1 c1,v=vA (cLoop x p0 c0 p1 c1)∧hx=[]∧S4 I' p0 x.Lo c0∧S4 I' p1 x.Hi c1
abbrev eVAccess (x:zJ):Imm→Value→List HA→Prop:=fun I' v hx=>∃ p0 c0,v=vA (cAccess x p0 c0)∧hx=[]∧S4 I' p0 x.Subs c0
instance {i j:Imm}{raws:List Raw2}{parts:List zM}{vN vB:Value}{nl:List zD}{bl:List zN}:Mo (LP i raws parts vN nl vB bl) i j (LP j raws parts vN nl vB bl):=⟨fun h x=>x.mono h⟩
abbrev RT:=Ret Tryz.prog
def zU (r:Bool):KT:=fun kk I' hs' v=>
  ∃ v0,hs'=[]∧v=tupV [v0]∧v0=.bool r
def wK (n0:Int) (low:Int) (high:Int):Option (Bool):=do
 let t6←(do
   if (decide (low ≤ n0)) then
    pure (decide (n0 ≤ high))
   else
    pure false
     : Option Bool)
 pure (id t6)
theorem vK:∀ n0 low high r,wK n0 low high=some r→∀ {I:Imm} ,RT 51 [vI n0,vI low,vI high] I [] (zU  r):=by
 intro n0 low high r N I;unfold wK at N;refine yM Tryz.func51 fun B=>?_;have H:=iS I;refine vJ []<|zI<|yC ?_;refine wE N [] (fun t6=>[(6,.bool t6)]) (fun o0 ho0=>?_) ?_
 · have H:=iS I;refine zK<|yB 4 [] [10] rfl<|xW [10] ho0 ?_ ?_
   · intro hc N;exact yJ [] [6] rfl<|yQ<|zT (ct N H)
   intro hc N;exact wG [] [(6,vF)]<|yQ<|zT (ct N H)
 intro t6 I0 le hMc;refine zI<|yW ?_;obtain rfl:=zC hMc;exact wP
def jA (s:Str) (substr:Str):Option Bool:=match substr.l with | [c]=>some (decide (0 ≤ Lib.indexByte s.l c)) | _=>none
theorem zCb:∀ (s substr:Str) r,jA s substr=some r→∀ {I:Imm},RT 193 [vT s.l,vT substr.l] I [] (zU r):=by
 intro s substr r N I;unfold jA at N;split at N
 · rename_i c hc;cases N
   rw [hc];exact zJu (fun w g=>(Tryz.strings_Contains_one ⟨⟨s.l⟩⟩ c w).mono fun e w' ⟨h1,h2⟩=>⟨h1,h2 ▸ RowKit.Below.refl _ _⟩) fun k=>⟨_,rfl,rfl,rfl⟩
 cases N
def kH (s:Str):Option (Bool):=do
 let t2←(do
   if ((s.l.length:Int) == 1) then
    let y←jA (⟨[65,66,67,68]⟩:Str) s
    pure (id y)
   else
    pure false
     : Option Bool)
 pure (id t2)
theorem oW:∀ s r,kH s=some r→∀ {I:Imm} ,RT 149 [vT s.l] I [] (zU  r):=by
 intro s r N I;unfold kH at N;refine yM Tryz.func149 fun B=>?_;have H:=iS I;refine vJ []<|zI<|yC ?_;refine wE N [] (fun t2=>[(2,.bool t2)]) (fun o0 ho0=>?_) ?_
 · have H:=iS I;refine zK<|yB 4 [] [6] rfl<|xW [6] ho0 ?_ ?_
   · intro hc N;refine yB 5 [] [7] rfl<|bE N fun y hy N=>vZ (zCb (⟨[65,66,67,68]⟩:Str) s _ hy ) ?_;intro I01 le;have H:=H.trans le;exact yJ [] [2] rfl<|yQ<|zT (ct N H)
   intro hc N;exact wG [] [(2,vF)]<|yQ<|zT (ct N H)
 intro t2 I0 le1 hMc;refine zI<|yW ?_;obtain rfl:=zC hMc;exact wP
def kW (hsF:List HA) (r:Int):KT:=fun kk I' hs' v=>
  ∃ v0,hsF=hs'∧v=tupV [v0]∧v0=.int .i64 r
def wF (s:(List Int)) (f0:(Int→Option Bool)) (t8:Int):Option (Out Unit (Int)):=do
 if (decide (t8 < (s.length:Int))) then
  let x←idx s t8
  let y←f0 x
  if y then
   pure (.ret t8)
  else
   wF s f0 (W (t8 + 1))
 else
  pure (.done ())
 partial_fixpoint
theorem eO (s:(List Int)) (f0:(Int→Option Bool)):∀ (t8:Int) (o:Out Unit (Int)),wF s f0 t8=some o→∀ {B}{I0 I:Imm}{Q p c}{fv:Value}{hsF:List HA},I0.le I→(S4 I p s c)→(FV1 Tryz.prog I hsF fv f0)→NG Q→NO Q→(∀ (I':Imm) ,o=(.done ())→I0.le I'→T 19 B Q (.exit 0) I' hsF [])→(∀ r I' hs' m',o=(.ret r)→I0.le I'→RS Tryz.prog Tryz.f88 B (kW hsF r) I' hs' m'→T 19 B Q .ret I' hs' m')→J Tryz.prog 19 B (nav (bodyOf Tryz.f88) [1,0,1,0]) Q I hsF [(0,vS p s c),(1,fv),(7,vI (s.length:Int)),(8,vI t8)]:=by
 refine wF.partial_correctness s f0 _ fun self ih t8 o N B I0 I Q p c fv hsF H h h1 hg ho hx hr=>yT hg ho<|yG [9] rfl<|zZ<|yE N ?_ ?_
 · intro hc N;refine zS<|zZ<|yH<|yG [5] rfl<|yV<|yB 3 [] [11,12,13] rfl<|bE N fun x hy N=>xJ rfl rfl h hy ?_;intro ad ccs hat hrep;obtain rfl:=hrep;refine yX 0 hat [vI x] (vI x) rfl<|bE N fun y hy1 N=>zH7 rfl rfl h1 hy1 rfl (List.append_nil _).symm ?_;rintro I0 v0 le rfl;refine vH (hs':=hsF) (List.append_nil _) ?_;have ⟨h,h1,H⟩:=m3 le h h1 H;refine yA rfl<|zI<|yE N ?_ ?_
   · intro hc1 N;exact yG [4] rfl<|xG<|zW<|zH<|zH<|hr _ _ _ _ (zC N).symm H ⟨_,_,(.tmp rfl ResV.nil),(fun _ h=>h),⟨_,rfl,rfl,rfl⟩⟩
   intro hc1 N;exact zS<|zP<|zI<|zK<|yJ [] [8] rfl<|yS<|nG<|ih (W (t8 + 1)) _ N H h h1 hg ho hx hr
 intro hc N;exact wT<|yQ<|hx _  (zC N).symm H
def qP (s:(List Int)) (f0:(Int→Option Bool)):Option (Int):=do
 match←wF s f0 0 with
 | .ret r0=>pure r0
 | .done _ =>
  pure (-1)
theorem dY:∀ s f0 r,qP s f0=some r→∀ {I:Imm}{p c}{fv:Value}{hsF:List HA},(S4 I p s c)→(FV1 Tryz.prog I hsF fv f0)→RT 88 [vS p s c,fv] I hsF (kW hsF r):=by
 intro s f0 r N I p c fv hsF h h1;unfold qP at N;refine yM Tryz.func88 fun B=>vJ []<|zZ<|yG [7,8] rfl<|xZ<|pJ [(0,vS p s c),(1,fv),(7,vI (s.length:Int)),(8,vI 0)] ?_;obtain ⟨o0,ho0,hMl⟩:=zB N;refine eO s f0 0 o0 ho0 iR h h1 (fun _ _ _ h=>h) (fun _ _ h=>h) ?_ ?_
 · intro I01  heq le1;subst o0;refine zR<|vG [4] rfl<|zI<|yW ?_;obtain rfl:=zC hMl;exact xA ⟨_,_,(.tmp rfl ResV.nil),(fun _ h=>h),⟨_,rfl,rfl,rfl⟩⟩
 intro r0 I9 hs9 m9 heq9 le9 hrs9;subst heq9;refine zW<|zH ?_;obtain rfl:=zC hMl;exact xA hrs9
def fX (hsF:List HA) (r:Bool):KT:=fun kk I' hs' v=>
  ∃ v0,hsF=hs'∧v=tupV [v0]∧v0=.bool r
def xO (s:(List Int)) (f0:(Int→Option Bool)):Option (Bool):=do
 let y←qP s f0
 pure (decide (y ≥ 0))
theorem sO:∀ s f0 r,xO s f0=some r→∀ {I:Imm}{p c}{fv:Value}{hsF:List HA},(S4 I p s c)→(FV1 Tryz.prog I hsF fv f0)→RT 150 [vS p s c,fv] I hsF (fX hsF r):=by
 intro s f0 r N I p c fv hsF h h1;unfold xO at N;refine yM Tryz.func150 fun B=>vJ []<|yV<|yB 2 [] [5,6] rfl<|bE N fun y hy N=>zE9 (hs1:=hsF) (rest:=[]) rfl rfl rfl rfl (by kernel_rfl) rfl (List.append_nil _).symm (dY s f0 _ hy h h1) ?_;rintro I0 hs2 v2 k2 le - ⟨v0,rfl,rfl,rfl⟩ -;refine vH (hs':=hsF) (List.append_nil _) ?_;refine yJ [] [4] rfl<|zI<|yW ?_;obtain rfl:=zC N;exact xA ⟨_,_,(.tmp rfl ResV.nil),(fun _ h=>h),⟨_,rfl,rfl,rfl⟩⟩
def uX (n0:Int):Option (Bool):=do
 let y←wK n0 1 6
 pure (!y)
theorem zAF:∀ n0 r,uX n0=some r→∀ {I:Imm} ,RT 151 [vI n0] I [] (zU  r):=by
 intro n0 r N I;unfold uX at N;refine yM Tryz.func151 fun B=>vJ []<|yV<|yB 1 [] [3] rfl<|bE N fun y hy N=>vZ (vK n0 1 6 _ hy ) fun I0 le=>yJ [] [2] rfl<|zI<|yW ?_;obtain rfl:=zC N;exact wP
def rZ (list:(List zF)) (t7:Int):Option (Out Unit (Bool)):=do
 if (decide (t7 < (list.length:Int))) then
  let x←idx list t7
  let t42←(do
    let y←kH x.Name
    if (!y) then
     pure true
    else
     if (decide (t7 > 0)) then
      let x1←idx list (W (t7 - 1))
      if (!(Op.bytesLess x1.Name.l x.Name.l)) then
       pure true
      else
       let y1←wK (x.Dims.length:Int) 1 2
       if (!y1) then
        pure true
       else
        let y2←xO x.Dims uX
        pure (id y2)
     else
      let y3←wK (x.Dims.length:Int) 1 2
      if (!y3) then
       pure true
      else
       let y4←xO x.Dims uX
       pure (id y4)
      : Option Bool)
  if t42 then
   pure (.ret false)
  else
   rZ list (W (t7 + 1))
 else
  pure (.done ())
 partial_fixpoint
theorem zCc (list:(List zF)):∀ (t7:Int) (o:Out Unit (Bool)),rZ list t7=some o→∀ {B}{I0 I:Imm}{Q p c},I0.le I→(S4 I p list c)→NG Q→NO Q→(∀ (I':Imm) ,o=(.done ())→I0.le I'→T 47 B Q (.exit 0) I' [] [(0,vS p list c)])→(∀ r I' hs' m',o=(.ret r)→I0.le I'→RS Tryz.prog Tryz.f101 B (zU  r) I' hs' m'→T 47 B Q .ret I' hs' m')→J Tryz.prog 47 B (nav (bodyOf Tryz.f101) [1,0,1,0]) Q I [] [(0,vS p list c),(5,vS p list c),(6,vI (list.length:Int)),(7,vI t7)]:=by
 refine rZ.partial_correctness list _ fun self ih t7 o N B I0 I Q p c H h hg ho hx hr=>yT hg ho<|yG [8] rfl<|zZ<|yE N ?_ ?_
 · intro hc N;refine zS<|zZ<|yH<|yF<|yB 1 [] [9] rfl<|bE N fun x hy N=>xJ rfl rfl h hy ?_;intro ad ccs hat hrep;obtain ⟨p1,c1,rfl,h1⟩:=wJ hrep;refine yX 0 hat (cArr x p1 c1) (vA (cArr x p1 c1)) rfl<|wH [vT ([]),z0] ?_;intro b hb;refine yB 5 [] [3] rfl<|xI 0 (cArr x p1 c1) rfl<|yA rfl<|zI<|yC ?_;refine wE N [] (fun t42=>[(0,vS p list c),(5,vS p list c),(6,vI (list.length:Int)),(7,vI t7),(42,.bool t42)]) (fun o0 ho0=>?_) ?_
   · have H:=iS I;obtain ⟨y,hy1,N⟩:=zB ho0;cases hc1:(!y) with
     | true =>
      have hM0:=wV hc1 N;refine wA [.p (vP b 0) [],.p (vT x.Name.l) [0],.q (.bool y),.q vY,.q vY,.p undef [],.p undef [],.p undef [],.p undef [],.p undef [],.p undef [],.p undef [],.p undef [],.p undef [],.p undef [],.p undef [],.p undef [],.p undef [],.p vY [],.p vY [],.p undef [],.p undef [],.p undef [],.p undef [],.p undef [],.p vY [],.p vY [],.p undef [],.p undef [],.p undef [],.p vY []] [[],[(0,false)],[(1,false)],[(2,false)],[(3,false)],[(4,false)],[(4,false),(5,false)],[(4,false),(6,false)],[(7,false)],[(7,false)],[(7,false),(9,false)],[(7,false),(8,false),(10,false)],[(7,false),(11,false)],[(7,false),(12,false)],[(7,false)],[(7,false),(14,false)],[(7,false),(13,false),(15,false)],[(4,false),(7,false),(16,false)],[(4,false),(17,false)],[(18,false)],[(19,false)],[(19,false),(20,false)],[(19,false),(21,false)],[(19,false),(22,false)],[(19,false),(23,false)],[(19,false),(24,false)],[(25,false)],[(26,false)],[(26,false),(27,false)],[(26,false),(28,false)],[(26,false),(29,false)]] [hB b (cArr x p1 c1)] [] [(30,false)] (zY [0]) ?_ ?_
      · refine Op<|Op<|Oq ?_<|Oq ?_<|Oq ?_<|Op<|Op<|Op<|Op<|Op<|Op<|Op<|Op<|Op<|Op<|Op<|Op<|Op<|Op<|Op<|Op<|Op<|Op<|Op<|Op<|Op<|Op<|Op<|Op<|Op<|Op<|On
        · intro I1 hf le1;refine yN [13] rfl ?_;have H:=iS I1;refine vZ (oW x.Name _ hy1 ) ?_;intro I01 le;have H:=H.trans le;exact yP H
        · intro I1 hf le1;refine yN [14] rfl<|tM 4 [(15,.bool (!y))] ?_;rw [hc1];exact yP iR
        intro I1 hf le1;exact gY [(15,vY)]<|tM 5 [(16,vY)]<|yP iR
      intro I02 le1;refine yN [0,5,6,7,42] rfl ?_;have H:=H.trans le1;exact yA rfl<|xT zQ<|yQ<|zT (ct hM0 H)
     | false =>
      have hM01:=wB hc1 N;cases hc2:(decide (t7 > 0)) with
      | true =>
       have hM02:=wV hc2 hM01;obtain ⟨x1,hy2,N⟩:=zB hM02;cases hc3:(!(Op.bytesLess x1.Name.l x.Name.l)) with
       | true =>
        have hM03:=wV hc3 N;refine wA [.p (vP b 0) [],.p (vT x.Name.l) [0],.q (.bool y),.q vF,.q vF,.p (vI t7) [],.q vY,.q vY,.p (vS p list c) [],.p (vI t7) [],.p (vI (W (t7 - 1))) [],.x (ePArr x1),.x (ePArr x1),.q (vT x1.Name.l),.p (vP b 0) [],.p (vT x.Name.l) [0],.q vY,.q vY,.q vY,.q vY,.p undef [],.p undef [],.p undef [],.p undef [],.p undef [],.p vY [],.p vY [],.p undef [],.p undef [],.p undef [],.p vY []] [[],[(0,false)],[(1,false)],[(2,false)],[(3,false)],[(4,false)],[(4,false),(5,false)],[(4,false),(6,false)],[(7,false)],[(7,false)],[(7,false),(9,false)],[(7,false),(8,false),(10,false)],[(7,false),(11,false)],[(7,false),(12,false)],[(7,false)],[(7,false),(14,false)],[(7,false),(13,false),(15,false)],[(4,false),(7,false),(16,false)],[(4,false),(17,false)],[(18,false)],[(19,false)],[(19,false),(20,false)],[(19,false),(21,false)],[(19,false),(22,false)],[(19,false),(23,false)],[(19,false),(24,false)],[(25,false)],[(26,false)],[(26,false),(27,false)],[(26,false),(28,false)],[(26,false),(29,false)]] [hB b (cArr x p1 c1)] [] [(30,false)] (zY [0]) ?_ ?_
        · refine Op<|Op<|Oq ?_<|Oq ?_<|Oq ?_<|Op<|Oq ?_<|Oq ?_<|Op<|Op<|Op<|Ox ?_<|Ox ?_<|Oq ?_<|Op<|Op<|Oq ?_<|Oq ?_<|Oq ?_<|Oq ?_<|Op<|Op<|Op<|Op<|Op<|Op<|Op<|Op<|Op<|Op<|Op<|On
          · intro I1 hf le1;refine yN [13] rfl ?_;have H:=iS I1;refine vZ (oW x.Name _ hy1 ) ?_;intro I01 le;have H:=H.trans le;exact yP H
          · intro I1 hf le1;refine yN [14] rfl<|tM 4 [(15,.bool (!y))] ?_;rw [hc1];exact yP iR
          · intro I1 hf le1;exact gY [(15,vF)]<|tM 5 [(16,vF)]<|yP iR
          · intro I1 hf le1;refine yN [16,17] rfl<|tM 7 [(18,.bool (decide (t7 > 0)))] ?_;rw [hc2];exact yP iR
          · intro I1 hf le1;exact yN [16,18] rfl<|tM 8 [(19,vY)]<|yP iR
          · intro I1 hf le1;refine yN [19,20,22] rfl ?_;have h:=h.mono le1;refine xJ rfl rfl h hy2 ?_;intro ad1 ccs1 hat1 hrep1;obtain ⟨p2,c2,rfl,h3⟩:=wJ hrep1;exact yI [] iR ⟨_,_,_,rfl,rfl,hat1,h3⟩
          · rintro I1 hf le1 _ _ ⟨rfl,rfl⟩ _ _ ⟨ad1,p2,c2,rfl,rfl,hat1,h3⟩;exact yN [19,23] rfl<|tM 13 [(24,.pointer (some ad1))]<|yI [] iR ⟨_,_,_,rfl,rfl,hat1,h3⟩
          · rintro I1 hf le1 _ _ ⟨rfl,rfl⟩ _ _ ⟨ad11,p21,c21,rfl,rfl,hat11,h31⟩;exact yN [19,24] rfl<|yX 0 hat11 [vT x1.Name.l] (vT x1.Name.l) rfl<|yP iR
          · intro I1 hf le1;refine yN [19,25,27] rfl<|tM 17 [(28,.bool (!(Op.bytesLess x1.Name.l x.Name.l)))] ?_;rw [hc3];exact yP iR
          · intro I1 hf le1;exact yN [16,19,28] rfl<|tM 18 [(29,vY)]<|yP iR
          · intro I1 hf le1;exact yN [16,29] rfl<|tM 19 [(30,vY)]<|yP iR
          intro I1 hf le1;exact gY [(30,vY)]<|tM 20 [(31,vY)]<|yP iR
        intro I03 le2;refine yN [0,5,6,7,42] rfl ?_;have H:=H.trans le2;exact yA rfl<|xT zQ<|yQ<|zT (ct hM03 H)
       | false =>
        have hM04:=wB hc3 N;obtain ⟨y1,hy3,N⟩:=zB hM04;cases hc4:(!y1) with
        | true =>
         have hM05:=wV hc4 N;refine wA [.p (vP b 0) [],.p (vT x.Name.l) [0],.q (.bool y),.q vF,.q vF,.p (vI t7) [],.q vY,.q vY,.p (vS p list c) [],.p (vI t7) [],.p (vI (W (t7 - 1))) [],.x (ePArr x1),.x (ePArr x1),.q (vT x1.Name.l),.p (vP b 0) [],.p (vT x.Name.l) [0],.q vF,.q vF,.q vF,.q vF,.p (vP b 1) [],.p (vS p1 x.Dims c1) [0],.p (vI (x.Dims.length:Int)) [],.q (.bool y1),.q vY,.q vY,.q vY,.p undef [],.p undef [],.p undef [],.p vY []] [[],[(0,false)],[(1,false)],[(2,false)],[(3,false)],[(4,false)],[(4,false),(5,false)],[(4,false),(6,false)],[(7,false)],[(7,false)],[(7,false),(9,false)],[(7,false),(8,false),(10,false)],[(7,false),(11,false)],[(7,false),(12,false)],[(7,false)],[(7,false),(14,false)],[(7,false),(13,false),(15,false)],[(4,false),(7,false),(16,false)],[(4,false),(17,false)],[(18,false)],[(19,false)],[(19,false),(20,false)],[(19,false),(21,false)],[(19,false),(22,false)],[(19,false),(23,false)],[(19,false),(24,false)],[(25,false)],[(26,false)],[(26,false),(27,false)],[(26,false),(28,false)],[(26,false),(29,false)]] [hB b (cArr x p1 c1)] [] [(30,false)] (zY [0]) ?_ ?_
         · refine Op<|Op<|Oq ?_<|Oq ?_<|Oq ?_<|Op<|Oq ?_<|Oq ?_<|Op<|Op<|Op<|Ox ?_<|Ox ?_<|Oq ?_<|Op<|Op<|Oq ?_<|Oq ?_<|Oq ?_<|Oq ?_<|Op<|Op<|Op<|Oq ?_<|Oq ?_<|Oq ?_<|Oq ?_<|Op<|Op<|Op<|Op<|On
           · intro I1 hf le1;refine yN [13] rfl ?_;have H:=iS I1;refine vZ (oW x.Name _ hy1 ) ?_;intro I01 le;have H:=H.trans le;exact yP H
           · intro I1 hf le1;refine yN [14] rfl<|tM 4 [(15,.bool (!y))] ?_;rw [hc1];exact yP iR
           · intro I1 hf le1;exact gY [(15,vF)]<|tM 5 [(16,vF)]<|yP iR
           · intro I1 hf le1;refine yN [16,17] rfl<|tM 7 [(18,.bool (decide (t7 > 0)))] ?_;rw [hc2];exact yP iR
           · intro I1 hf le1;exact yN [16,18] rfl<|tM 8 [(19,vY)]<|yP iR
           · intro I1 hf le1;refine yN [19,20,22] rfl ?_;have h:=h.mono le1;refine xJ rfl rfl h hy2 ?_;intro ad1 ccs1 hat1 hrep1;obtain ⟨p2,c2,rfl,h3⟩:=wJ hrep1;exact yI [] iR ⟨_,_,_,rfl,rfl,hat1,h3⟩
           · rintro I1 hf le1 _ _ ⟨rfl,rfl⟩ _ _ ⟨ad1,p2,c2,rfl,rfl,hat1,h3⟩;exact yN [19,23] rfl<|tM 13 [(24,.pointer (some ad1))]<|yI [] iR ⟨_,_,_,rfl,rfl,hat1,h3⟩
           · rintro I1 hf le1 _ _ ⟨rfl,rfl⟩ _ _ ⟨ad11,p21,c21,rfl,rfl,hat11,h31⟩;exact yN [19,24] rfl<|yX 0 hat11 [vT x1.Name.l] (vT x1.Name.l) rfl<|yP iR
           · intro I1 hf le1;refine yN [19,25,27] rfl<|tM 17 [(28,.bool (!(Op.bytesLess x1.Name.l x.Name.l)))] ?_;rw [hc3];exact yP iR
           · intro I1 hf le1;exact yN [16,19,28] rfl<|tM 18 [(29,vF)]<|yP iR
           · intro I1 hf le1;exact yN [16,29] rfl<|tM 19 [(30,vF)]<|yP iR
           · intro I1 hf le1;exact gY [(30,vF)]<|tM 20 [(31,vF)]<|yP iR
           · intro I1 hf le1;refine yN [31,34] rfl ?_;have H:=iS I1;refine vZ (vK (x.Dims.length:Int) 1 2 _ hy3 ) ?_;intro I04 le3;have H:=H.trans le3;exact yP H
           · intro I1 hf le1;refine yN [31,35] rfl<|tM 25 [(36,.bool (!y1))] ?_;rw [hc4];exact yP iR
           · intro I1 hf le1;exact yN [31,36] rfl<|tM 26 [(37,vY)]<|yP iR
           intro I1 hf le1;exact gY [(37,vY)]<|tM 27 [(38,vY)]<|yP iR
         intro I05 le4;refine yN [0,5,6,7,42] rfl ?_;have H:=H.trans le4;exact yA rfl<|xT zQ<|yQ<|zT (ct hM05 H)
        | false =>
         have hM06:=wB hc4 N;obtain ⟨y2,hy4,N⟩:=zB hM06;refine wA [.p (vP b 0) [],.p (vT x.Name.l) [0],.q (.bool y),.q vF,.q vF,.p (vI t7) [],.q vY,.q vY,.p (vS p list c) [],.p (vI t7) [],.p (vI (W (t7 - 1))) [],.x (ePArr x1),.x (ePArr x1),.q (vT x1.Name.l),.p (vP b 0) [],.p (vT x.Name.l) [0],.q vF,.q vF,.q vF,.q vF,.p (vP b 1) [],.p (vS p1 x.Dims c1) [0],.p (vI (x.Dims.length:Int)) [],.q (.bool y1),.q vF,.q vF,.q vF,.p (vP b 1) [],.p (vS p1 x.Dims c1) [0],.q (.bool y2),.p (.bool y2) []] [[],[(0,false)],[(1,false)],[(2,false)],[(3,false)],[(4,false)],[(4,false),(5,false)],[(4,false),(6,false)],[(7,false)],[(7,false)],[(7,false),(9,false)],[(7,false),(8,false),(10,false)],[(7,false),(11,false)],[(7,false),(12,false)],[(7,false)],[(7,false),(14,false)],[(7,false),(13,false),(15,false)],[(4,false),(7,false),(16,false)],[(4,false),(17,false)],[(18,false)],[(19,false)],[(19,false),(20,false)],[(19,false),(21,false)],[(19,false),(22,false)],[(19,false),(23,false)],[(19,false),(24,false)],[(25,false)],[(26,false)],[(26,false),(27,false)],[(26,false),(28,false)],[(26,false),(29,false)]] [hB b (cArr x p1 c1)] [] [(30,false)] (zY [0]) ?_ ?_
         · refine Op<|Op<|Oq ?_<|Oq ?_<|Oq ?_<|Op<|Oq ?_<|Oq ?_<|Op<|Op<|Op<|Ox ?_<|Ox ?_<|Oq ?_<|Op<|Op<|Oq ?_<|Oq ?_<|Oq ?_<|Oq ?_<|Op<|Op<|Op<|Oq ?_<|Oq ?_<|Oq ?_<|Oq ?_<|Op<|Op<|Oq ?_<|Op<|On
           · intro I1 hf le1;refine yN [13] rfl ?_;have H:=iS I1;refine vZ (oW x.Name _ hy1 ) ?_;intro I01 le;have H:=H.trans le;exact yP H
           · intro I1 hf le1;refine yN [14] rfl<|tM 4 [(15,.bool (!y))] ?_;rw [hc1];exact yP iR
           · intro I1 hf le1;exact gY [(15,vF)]<|tM 5 [(16,vF)]<|yP iR
           · intro I1 hf le1;refine yN [16,17] rfl<|tM 7 [(18,.bool (decide (t7 > 0)))] ?_;rw [hc2];exact yP iR
           · intro I1 hf le1;exact yN [16,18] rfl<|tM 8 [(19,vY)]<|yP iR
           · intro I1 hf le1;refine yN [19,20,22] rfl ?_;have h:=h.mono le1;refine xJ rfl rfl h hy2 ?_;intro ad1 ccs1 hat1 hrep1;obtain ⟨p2,c2,rfl,h3⟩:=wJ hrep1;exact yI [] iR ⟨_,_,_,rfl,rfl,hat1,h3⟩
           · rintro I1 hf le1 _ _ ⟨rfl,rfl⟩ _ _ ⟨ad1,p2,c2,rfl,rfl,hat1,h3⟩;exact yN [19,23] rfl<|tM 13 [(24,.pointer (some ad1))]<|yI [] iR ⟨_,_,_,rfl,rfl,hat1,h3⟩
           · rintro I1 hf le1 _ _ ⟨rfl,rfl⟩ _ _ ⟨ad11,p21,c21,rfl,rfl,hat11,h31⟩;exact yN [19,24] rfl<|yX 0 hat11 [vT x1.Name.l] (vT x1.Name.l) rfl<|yP iR
           · intro I1 hf le1;refine yN [19,25,27] rfl<|tM 17 [(28,.bool (!(Op.bytesLess x1.Name.l x.Name.l)))] ?_;rw [hc3];exact yP iR
           · intro I1 hf le1;exact yN [16,19,28] rfl<|tM 18 [(29,vF)]<|yP iR
           · intro I1 hf le1;exact yN [16,29] rfl<|tM 19 [(30,vF)]<|yP iR
           · intro I1 hf le1;exact gY [(30,vF)]<|tM 20 [(31,vF)]<|yP iR
           · intro I1 hf le1;refine yN [31,34] rfl ?_;have H:=iS I1;refine vZ (vK (x.Dims.length:Int) 1 2 _ hy3 ) ?_;intro I04 le3;have H:=H.trans le3;exact yP H
           · intro I1 hf le1;refine yN [31,35] rfl<|tM 25 [(36,.bool (!y1))] ?_;rw [hc4];exact yP iR
           · intro I1 hf le1;exact yN [31,36] rfl<|tM 26 [(37,vF)]<|yP iR
           · intro I1 hf le1;exact gY [(37,vF)]<|tM 27 [(38,vF)]<|yP iR
           intro I1 hf le1;refine yN [38,40] rfl ?_;have H:=iS I1;have ⟨h,h1⟩:=m2 le1 h h1;have hf0:FV1 Tryz.prog I1 [] (.func (.func 151) ⟨[]⟩ ⟨[]⟩) uX:=by
             refine FV1.intro ?_;intro I1 le1 x0 r u0 hF k0;obtain rfl:=k0;exact (zAF x0 r hF ).mono (by rintro k i hs u ⟨v0,rfl,rfl,h⟩; exact ⟨rfl,h⟩)
           refine xQ (sO x.Dims uX _ hy4 h1 hf0) ?_;rintro I06 hs2 v2 k2 le5 - ⟨v04,rfl,rfl,rfl⟩ -;have H:=H.trans le5;exact yP H
         intro I07 le6;refine yN [0,5,6,7,42] rfl ?_;have H:=H.trans le6;exact yA rfl<|xT zQ<|yQ<|zT (ct N H)
      | false =>
       have hM07:=wB hc2 hM01;obtain ⟨y3,hy5,N⟩:=zB hM07;cases hc5:(!y3) with
       | true =>
        have hM08:=wV hc5 N;refine wA [.p (vP b 0) [],.p (vT x.Name.l) [0],.q (.bool y),.q vF,.q vF,.p (vI t7) [],.q vF,.q vF,.p undef [],.p undef [],.p undef [],.p undef [],.p undef [],.p undef [],.p undef [],.p undef [],.p undef [],.p vF [],.p vF [],.p vF [],.p (vP b 1) [],.p (vS p1 x.Dims c1) [0],.p (vI (x.Dims.length:Int)) [],.q (.bool y3),.q vY,.q vY,.q vY,.p undef [],.p undef [],.p undef [],.p vY []] [[],[(0,false)],[(1,false)],[(2,false)],[(3,false)],[(4,false)],[(4,false),(5,false)],[(4,false),(6,false)],[(7,false)],[(7,false)],[(7,false),(9,false)],[(7,false),(8,false),(10,false)],[(7,false),(11,false)],[(7,false),(12,false)],[(7,false)],[(7,false),(14,false)],[(7,false),(13,false),(15,false)],[(4,false),(7,false),(16,false)],[(4,false),(17,false)],[(18,false)],[(19,false)],[(19,false),(20,false)],[(19,false),(21,false)],[(19,false),(22,false)],[(19,false),(23,false)],[(19,false),(24,false)],[(25,false)],[(26,false)],[(26,false),(27,false)],[(26,false),(28,false)],[(26,false),(29,false)]] [hB b (cArr x p1 c1)] [] [(30,false)] (zY [0]) ?_ ?_
        · refine Op<|Op<|Oq ?_<|Oq ?_<|Oq ?_<|Op<|Oq ?_<|Oq ?_<|Op<|Op<|Op<|Op<|Op<|Op<|Op<|Op<|Op<|Op<|Op<|Op<|Op<|Op<|Op<|Oq ?_<|Oq ?_<|Oq ?_<|Oq ?_<|Op<|Op<|Op<|Op<|On
          · intro I1 hf le1;refine yN [13] rfl ?_;have H:=iS I1;refine vZ (oW x.Name _ hy1 ) ?_;intro I01 le;have H:=H.trans le;exact yP H
          · intro I1 hf le1;refine yN [14] rfl<|tM 4 [(15,.bool (!y))] ?_;rw [hc1];exact yP iR
          · intro I1 hf le1;exact gY [(15,vF)]<|tM 5 [(16,vF)]<|yP iR
          · intro I1 hf le1;refine yN [16,17] rfl<|tM 7 [(18,.bool (decide (t7 > 0)))] ?_;rw [hc2];exact yP iR
          · intro I1 hf le1;exact yN [16,18] rfl<|tM 8 [(19,vF)]<|yP iR
          · intro I1 hf le1;refine yN [31,34] rfl ?_;have H:=iS I1;refine vZ (vK (x.Dims.length:Int) 1 2 _ hy5 ) ?_;intro I08 le7;have H:=H.trans le7;exact yP H
          · intro I1 hf le1;refine yN [31,35] rfl<|tM 25 [(36,.bool (!y3))] ?_;rw [hc5];exact yP iR
          · intro I1 hf le1;exact yN [31,36] rfl<|tM 26 [(37,vY)]<|yP iR
          intro I1 hf le1;exact gY [(37,vY)]<|tM 27 [(38,vY)]<|yP iR
        intro I09 le8;refine yN [0,5,6,7,42] rfl ?_;have H:=H.trans le8;exact yA rfl<|xT zQ<|yQ<|zT (ct hM08 H)
       | false =>
        have hM09:=wB hc5 N;obtain ⟨y4,hy6,N⟩:=zB hM09;refine wA [.p (vP b 0) [],.p (vT x.Name.l) [0],.q (.bool y),.q vF,.q vF,.p (vI t7) [],.q vF,.q vF,.p undef [],.p undef [],.p undef [],.p undef [],.p undef [],.p undef [],.p undef [],.p undef [],.p undef [],.p vF [],.p vF [],.p vF [],.p (vP b 1) [],.p (vS p1 x.Dims c1) [0],.p (vI (x.Dims.length:Int)) [],.q (.bool y3),.q vF,.q vF,.q vF,.p (vP b 1) [],.p (vS p1 x.Dims c1) [0],.q (.bool y4),.p (.bool y4) []] [[],[(0,false)],[(1,false)],[(2,false)],[(3,false)],[(4,false)],[(4,false),(5,false)],[(4,false),(6,false)],[(7,false)],[(7,false)],[(7,false),(9,false)],[(7,false),(8,false),(10,false)],[(7,false),(11,false)],[(7,false),(12,false)],[(7,false)],[(7,false),(14,false)],[(7,false),(13,false),(15,false)],[(4,false),(7,false),(16,false)],[(4,false),(17,false)],[(18,false)],[(19,false)],[(19,false),(20,false)],[(19,false),(21,false)],[(19,false),(22,false)],[(19,false),(23,false)],[(19,false),(24,false)],[(25,false)],[(26,false)],[(26,false),(27,false)],[(26,false),(28,false)],[(26,false),(29,false)]] [hB b (cArr x p1 c1)] [] [(30,false)] (zY [0]) ?_ ?_
        · refine Op<|Op<|Oq ?_<|Oq ?_<|Oq ?_<|Op<|Oq ?_<|Oq ?_<|Op<|Op<|Op<|Op<|Op<|Op<|Op<|Op<|Op<|Op<|Op<|Op<|Op<|Op<|Op<|Oq ?_<|Oq ?_<|Oq ?_<|Oq ?_<|Op<|Op<|Oq ?_<|Op<|On
          · intro I1 hf le1;refine yN [13] rfl ?_;have H:=iS I1;refine vZ (oW x.Name _ hy1 ) ?_;intro I01 le;have H:=H.trans le;exact yP H
          · intro I1 hf le1;refine yN [14] rfl<|tM 4 [(15,.bool (!y))] ?_;rw [hc1];exact yP iR
          · intro I1 hf le1;exact gY [(15,vF)]<|tM 5 [(16,vF)]<|yP iR
          · intro I1 hf le1;refine yN [16,17] rfl<|tM 7 [(18,.bool (decide (t7 > 0)))] ?_;rw [hc2];exact yP iR
          · intro I1 hf le1;exact yN [16,18] rfl<|tM 8 [(19,vF)]<|yP iR
          · intro I1 hf le1;refine yN [31,34] rfl ?_;have H:=iS I1;refine vZ (vK (x.Dims.length:Int) 1 2 _ hy5 ) ?_;intro I08 le7;have H:=H.trans le7;exact yP H
          · intro I1 hf le1;refine yN [31,35] rfl<|tM 25 [(36,.bool (!y3))] ?_;rw [hc5];exact yP iR
          · intro I1 hf le1;exact yN [31,36] rfl<|tM 26 [(37,vF)]<|yP iR
          · intro I1 hf le1;exact gY [(37,vF)]<|tM 27 [(38,vF)]<|yP iR
          intro I1 hf le1;refine yN [38,40] rfl ?_;have H:=iS I1;have ⟨h,h1⟩:=m2 le1 h h1;have hf01:FV1 Tryz.prog I1 [] (.func (.func 151) ⟨[]⟩ ⟨[]⟩) uX:=by
            refine FV1.intro ?_;intro I1 le1 x0 r u0 hF k0;obtain rfl:=k0;exact (zAF x0 r hF ).mono (by rintro k i hs u ⟨v0,rfl,rfl,h⟩; exact ⟨rfl,h⟩)
          refine xQ (sO x.Dims uX _ hy6 h1 hf01) ?_;rintro I010 hs2 v2 k2 le9 - ⟨v06,rfl,rfl,rfl⟩ -;have H:=H.trans le9;exact yP H
        intro I011 le10;refine yN [0,5,6,7,42] rfl ?_;have H:=H.trans le10;exact yA rfl<|xT zQ<|yQ<|zT (ct N H)
   intro t42 I0 le11 hMc;have ⟨h,H⟩:=m2 le11 h H;refine zI<|yE hMc ?_ ?_
   · intro hc6 N;exact vJ [(2,vF)]<|xG<|zW<|zH<|zH<|hr _ _ _ _ (zC N).symm H ⟨_,_,(.tmp rfl ResV.nil),zQ,⟨_,rfl,rfl,rfl⟩⟩
   intro hc6 N;exact zS<|zP<|zI<|zK<|yJ [] [7] rfl<|yS<|nG<|ih (W (t7 + 1)) _ N H h hg ho hx hr
 intro hc N;exact wT<|yQ<|hx _  (zC N).symm H
def jK (list:(List zF)):Option (Bool):=do
 match←rZ list 0 with
 | .ret r0=>pure r0
 | .done _ =>
  pure (decide ((list.length:Int) ≤ 4))
theorem zEj:∀ list r,jK list=some r→∀ {I:Imm}{p c},(S4 I p list c)→RT 101 [vS p list c] I [] (zU  r):=by
 intro list r N I p c h;unfold jK at N;refine yM Tryz.func101 fun B=>vJ []<|zZ<|yG [5,6,7] rfl<|xZ<|pJ [(0,vS p list c),(5,vS p list c),(6,vI (list.length:Int)),(7,vI 0)] ?_;obtain ⟨o01,ho01,hMl⟩:=zB N;refine zCc list 0 o01 ho01 iR h (fun _ _ _ h=>h) (fun _ _ h=>h) ?_ ?_
 · intro I012  heq1 le12;subst o01;refine zR<|vG [2] rfl<|zI<|yW ?_;obtain rfl:=zC hMl;exact wP
 intro r0 I9 hs9 m9 heq9 le9 hrs9;subst heq9;refine zW<|zH ?_;obtain rfl:=zC hMl;exact xA hrs9
def rX (hsF:List HA) (r:Int):KT:=fun kk I' hs' v=>
  ∃ v0,hsF=hs'∧v=tupV [v0]∧v0=.int .i64 r
def xC (s:(List zA)) (f0:(zA→Option Bool)) (t8:Int):Option (Out Unit (Int)):=do
 if (decide (t8 < (s.length:Int))) then
  let x←idx s t8
  let y←f0 x
  if y then
   pure (.ret t8)
  else
   xC s f0 (W (t8 + 1))
 else
  pure (.done ())
 partial_fixpoint
theorem mS (s:(List zA)) (f0:(zA→Option Bool)):∀ (t8:Int) (o:Out Unit (Int)),xC s f0 t8=some o→∀ {B}{I0 I:Imm}{Q p c}{fv:Value}{hsF:List HA},I0.le I→(S4 I p s c)→(FV1 Tryz.prog I hsF fv f0)→NG Q→NO Q→(∀ (I':Imm) ,o=(.done ())→I0.le I'→T 19 B Q (.exit 0) I' hsF [])→(∀ r I' hs' m',o=(.ret r)→I0.le I'→RS Tryz.prog Tryz.f239 B (rX hsF r) I' hs' m'→T 19 B Q .ret I' hs' m')→J Tryz.prog 19 B (nav (bodyOf Tryz.f239) [1,0,1,0]) Q I hsF [(0,vS p s c),(1,fv),(7,vI (s.length:Int)),(8,vI t8)]:=by
 refine xC.partial_correctness s f0 _ fun self ih t8 o N B I0 I Q p c fv hsF H h h1 hg ho hx hr=>yT hg ho<|yG [9] rfl<|zZ<|yE N ?_ ?_
 · intro hc N;refine zS<|zZ<|yH<|yG [5] rfl<|yV<|yB 3 [] [11,12,13] rfl<|bE N fun x hy N=>xJ rfl rfl h hy ?_;intro ad ccs hat hrep;obtain ⟨p1,c1,rfl,h2⟩:=yL hrep;refine yX 0 hat (cAff x p1 c1) (vA (cAff x p1 c1)) rfl<|bE N fun y hy1 N=>zH7 rfl rfl h1 hy1 ⟨_,rfl,(yO ⟨_,rfl,h2⟩)⟩ (List.append_nil _).symm ?_;rintro I0 v01 le rfl;refine vH (hs':=hsF) (List.append_nil _) ?_;have ⟨h,h1,H⟩:=m3 le h h1 H;refine yA rfl<|zI<|yE N ?_ ?_
   · intro hc1 N;exact yG [4] rfl<|xG<|zW<|zH<|zH<|hr _ _ _ _ (zC N).symm H ⟨_,_,(.tmp rfl ResV.nil),(fun _ h=>h),⟨_,rfl,rfl,rfl⟩⟩
   intro hc1 N;exact zS<|zP<|zI<|zK<|yJ [] [8] rfl<|yS<|nG<|ih (W (t8 + 1)) _ N H h h1 hg ho hx hr
 intro hc N;exact wT<|yQ<|hx _  (zC N).symm H
def wX (s:(List zA)) (f0:(zA→Option Bool)):Option (Int):=do
 match←xC s f0 0 with
 | .ret r0=>pure r0
 | .done _ =>
  pure (-1)
theorem kU:∀ s f0 r,wX s f0=some r→∀ {I:Imm}{p c}{fv:Value}{hsF:List HA},(S4 I p s c)→(FV1 Tryz.prog I hsF fv f0)→RT 239 [vS p s c,fv] I hsF (rX hsF r):=by
 intro s f0 r N I p c fv hsF h h1;unfold wX at N;refine yM Tryz.func239 fun B=>vJ []<|zZ<|yG [7,8] rfl<|xZ<|pJ [(0,vS p s c),(1,fv),(7,vI (s.length:Int)),(8,vI 0)] ?_;obtain ⟨o0,ho0,hMl⟩:=zB N;refine mS s f0 0 o0 ho0 iR h h1 (fun _ _ _ h=>h) (fun _ _ h=>h) ?_ ?_
 · intro I01  heq le1;subst o0;refine zR<|vG [4] rfl<|zI<|yW ?_;obtain rfl:=zC hMl;exact xA ⟨_,_,(.tmp rfl ResV.nil),(fun _ h=>h),⟨_,rfl,rfl,rfl⟩⟩
 intro r0 I9 hs9 m9 heq9 le9 hrs9;subst heq9;refine zW<|zH ?_;obtain rfl:=zC hMl;exact xA hrs9
def nU (hsF:List HA) (r:Bool):KT:=fun kk I' hs' v=>
  ∃ v0,hsF=hs'∧v=tupV [v0]∧v0=.bool r
def xL (s:(List zA)) (f0:(zA→Option Bool)):Option (Bool):=do
 let y←wX s f0
 pure (decide (y ≥ 0))
theorem rM:∀ s f0 r,xL s f0=some r→∀ {I:Imm}{p c}{fv:Value}{hsF:List HA},(S4 I p s c)→(FV1 Tryz.prog I hsF fv f0)→RT 196 [vS p s c,fv] I hsF (nU hsF r):=by
 intro s f0 r N I p c fv hsF h h1;unfold xL at N;refine yM Tryz.func196 fun B=>vJ []<|yV<|yB 2 [] [5,6] rfl<|bE N fun y hy N=>zE9 (hs1:=hsF) (rest:=[]) rfl rfl rfl rfl (by kernel_rfl) rfl (List.append_nil _).symm (kU s f0 _ hy h h1) ?_;rintro I0 hs2 v2 k2 le - ⟨v0,rfl,rfl,rfl⟩ -;refine vH (hs':=hsF) (List.append_nil _) ?_;refine yJ [] [4] rfl<|zI<|yW ?_;obtain rfl:=zC N;exact xA ⟨_,_,(.tmp rfl ResV.nil),(fun _ h=>h),⟨_,rfl,rfl,rfl⟩⟩
def fY (n0:Int):Option (Bool):=do
 let y←wK n0 (-99) 99
 pure (id y)
theorem zF1:∀ n0 r,fY n0=some r→∀ {I:Imm} ,RT 240 [vI n0] I [] (zU  r):=by
 intro n0 r N I;unfold fY at N;refine yM Tryz.func240 fun B=>vJ []<|yV<|yB 1 [] [3] rfl<|bE N fun y hy N=>vZ (vK n0 (-99) 99 _ hy ) fun I0 le=>yJ [] [2] rfl<|zI<|yW ?_;obtain rfl:=zC N;exact wP
def sG (c:Int):Option (Bool):=do
 let y←wK c (-9) 9
 pure (!y)
theorem zBi:∀ c r,sG c=some r→∀ {I:Imm} ,RT 241 [vI c] I [] (zU  r):=by
 intro c r N I;unfold sG at N;refine yM Tryz.func241 fun B=>vJ []<|yV<|yB 1 [] [3] rfl<|bE N fun y hy N=>vZ (vK c (-9) 9 _ hy ) fun I0 le=>yJ [] [2] rfl<|zI<|yW ?_;obtain rfl:=zC N;exact wP
def qA (a0:zA):Option (Bool):=do
 let t2←(do
   if ((a0.Coefs.length:Int) == 4) then
    let y←fY a0.Const
    if y then
     let y1←xO a0.Coefs sG
     pure (!y1)
    else
     pure false
   else
    pure false
     : Option Bool)
 pure (id t2)
theorem nC:∀ a0 r,qA a0=some r→∀ {I:Imm}{p c},(S4 I p a0.Coefs c)→RT 198 [vA (cAff a0 p c)] I [] (zU  r):=by
 intro a0 r N I p c h;unfold qA at N;refine yM Tryz.func198 fun B=>?_;have H:=iS I;refine yF<|vX (cAff a0 p c) ?_;intro b hb;refine wG [] []<|zI<|yC ?_;refine wE N [] (fun t2=>[(2,.bool t2)]) (fun o0 ho0=>?_) ?_
 · have H:=iS I;refine zK<|yB 5 [0] [7] rfl<|xW [7] ho0 ?_ ?_
   · intro hc N;refine yB 7 [0] [9] rfl<|bE N fun y hy N=>vZ (zF1 a0.Const _ hy ) ?_;intro I01 le;have ⟨h,H⟩:=m2 le h H;refine yB 10 [] [12] rfl<|xW [12] N ?_ ?_
     · intro hc1 N;refine yB 12 [0] [14] rfl ?_;have hf0:FV1 Tryz.prog I01 [] (.func (.func 241) ⟨[]⟩ ⟨[]⟩) sG:=by
         refine FV1.intro ?_;intro I1 le1 x0 r u0 hF k0;obtain rfl:=k0;exact (zBi x0 r hF ).mono (by rintro k i hs u ⟨v0,rfl,rfl,h⟩; exact ⟨rfl,h⟩)
       obtain ⟨y1,hy1,N⟩:=zB N;refine xQ (sO a0.Coefs sG _ hy1 h hf0) ?_;rintro I02 hs2 v2 k2 le1 - ⟨v01,rfl,rfl,rfl⟩ -;have H:=H.trans le1;exact yJ [] [2] rfl<|xT zQ<|yQ<|zT (ct N H)
     intro hc1 N;exact wG [] [(2,vF)]<|xT zQ<|yQ<|zT (ct N H)
   intro hc N;exact wG [] [(2,vF)]<|xT zQ<|yQ<|zT (ct N H)
 intro t2 I0 le2 hMc;refine zI<|yW ?_;obtain rfl:=zC hMc;exact wP
def yK (r:Int):KT:=fun kk I' hs' v=>
  ∃ v0,hs'=[]∧v=tupV [v0]∧v0=.int .i64 r
def tI (a0:zA) (n0:Int):Option (Int):=do
 let t17←(do
   if (decide (n0 > 0)) then
    let x←idx a0.Coefs (W (n0 - 1))
    pure (x == 0)
   else
    pure false
     : Option Bool)
 if t17 then
  tI a0 (W (n0 - 1))
 else
  pure (id n0)
 partial_fixpoint
theorem zAs (a0:zA):∀ (n0:Int) (o:Int),tI a0 n0=some o→∀ {B}{I0 I:Imm}{Q p c}{b:Nat},I0.le I→(S4 I p a0.Coefs c)→NG Q→NO Q→(∀ (I':Imm) (n01:Int),o=n01→I0.le I'→T 21 B Q (.exit 0) I' [] [(3,vI n01)])→J Tryz.prog 21 B (nav (bodyOf Tryz.f199) [1,1,0,0]) Q I [hB b (cAff a0 p c)] [(1,vP b 0),(3,vI n0)]:=by
 refine tI.partial_correctness a0 _ fun self ih n0 o N B I0 I Q p c b H h hg ho hx=>yT hg ho<|yC<|yC ?_;refine wE N [hB b (cAff a0 p c)] (fun t17=>[(1,vP b 0),(3,vI n0),(17,.bool t17)]) (fun o0 ho0=>?_) ?_
 · have H:=iS I;refine zK<|yB 3 [] [9] rfl<|xW [9] ho0 ?_ ?_
   · intro hc N;refine yB 7 [0] [11,13] rfl<|bE N fun x hy N=>xJ rfl rfl h hy ?_;intro ad ccs hat hrep;obtain rfl:=hrep;exact yX 0 hat [vI x] (vI x) rfl<|yJ [] [17] rfl<|yQ<|zT (ct N H)
   intro hc N;exact wG [] [(17,vF)]<|yQ<|zT (ct N H)
 intro t17 I0 le hMc;have ⟨h,H⟩:=m2 le h H;refine zI<|yE hMc ?_ ?_
 · intro hc1 N;exact zS<|xZ<|zK<|yJ [] [3] rfl<|zP<|yS<|nG<|ih (W (n0 - 1)) _ N H h hg ho hx
 intro hc1 N;exact wT<|xT zQ<|yQ<|hx _ _ (zC N).symm H
def sZ (a0:zA):Option (Int):=do
 let n01←tI a0 (a0.Coefs.length:Int)
 pure (id n01)
theorem jZ:∀ a0 r,sZ a0=some r→∀ {I:Imm}{p c},(S4 I p a0.Coefs c)→RT 199 [vA (cAff a0 p c)] I [] (yK  r):=by
 intro a0 r N I p c h;unfold sZ at N;refine yM Tryz.func199 fun B=>yF<|vX (cAff a0 p c) ?_;intro b hb;refine wG [] []<|yV<|yJ [0] [3] rfl<|zZ<|yH<|pJ [(1,vP b 0),(3,vI (a0.Coefs.length:Int))] ?_;obtain ⟨o01,ho01,hMl⟩:=zB N;refine zAs a0 (a0.Coefs.length:Int) o01 ho01 iR h (fun _ _ _ h=>h) (fun _ _ h=>h) ?_;intro I01 n01 heq1 le1;subst o01;refine zR<|vG [2] rfl<|zI<|yW ?_;obtain rfl:=zC hMl;exact wP
def rH (a0:zA) (x:Int):Option (Bool):=do
 let t3←(do
   let y←qA a0
   if (!y) then
    pure true
   else
    let y1←sZ a0
    pure (decide (y1 > x))
     : Option Bool)
 pure (id t3)
theorem zDG:∀ a0 x r,rH a0 x=some r→∀ {I:Imm}{p c}{ad:Addr},(S4 I p a0.Coefs c)→(At I ad [vI x])→RT 238 [vA (cAff a0 p c),.pointer (some ad)] I [] (zU  r):=by
 intro a0 x r N I p c ad h hat;unfold rH at N;refine yM Tryz.func238 fun B=>?_;have H:=iS I;refine yF<|vX (cAff a0 p c) ?_;intro b hb;refine wG [] []<|zI<|yC ?_;refine wE N [] (fun t3=>[(3,.bool t3)]) (fun o0 ho0=>?_) ?_
 · have H:=iS I;obtain ⟨y,hy,N⟩:=zB ho0;cases hc:(!y) with
   | true =>
    have hM0:=wV hc N;refine wA [.p (vA (cAff a0 p c)) [0],.q (.bool y),.q vY,.q vY,.p undef [],.p undef [],.p undef [],.p undef [],.p vY []] [[],[(0,false)],[(1,false)],[(2,false)],[(3,false)],[(3,false),(4,false)],[(3,false)],[(3,false),(5,false),(6,false)],[(3,false),(7,false)]] [hB b (cAff a0 p c)] [] [(8,false)] (zY [0]) ?_ ?_
    · refine Op<|Oq ?_<|Oq ?_<|Oq ?_<|Op<|Op<|Op<|Op<|Op<|On
      · intro I1 hf le1;refine yN [4] rfl ?_;have H:=iS I1;have h:=h.mono le1;refine vZ (nC a0 _ hy h) ?_;intro I01 le;have H:=H.trans le;exact yP H
      · intro I1 hf le1;refine yN [5] rfl<|tM 3 [(6,.bool (!y))] ?_;rw [hc];exact yP iR
      intro I1 hf le1;exact gY [(6,vY)]<|tM 4 [(7,vY)]<|yP iR
    intro I02 le1;refine gY [(12,vY)] ?_;have H:=H.trans le1;exact wG [] [(3,vY)]<|xT zQ<|yQ<|zT (ct hM0 H)
   | false =>
    have hM01:=wB hc N;obtain ⟨y1,hy1,N⟩:=zB hM01;refine wA [.p (vA (cAff a0 p c)) [0],.q (.bool y),.q vF,.q vF,.p (vA (cAff a0 p c)) [0],.q (vI y1),.q (vI x),.p (.bool (decide (y1 > x))) [],.p (.bool (decide (y1 > x))) []] [[],[(0,false)],[(1,false)],[(2,false)],[(3,false)],[(3,false),(4,false)],[(3,false)],[(3,false),(5,false),(6,false)],[(3,false),(7,false)]] [hB b (cAff a0 p c)] [] [(8,false)] (zY [0]) ?_ ?_
    · refine Op<|Oq ?_<|Oq ?_<|Oq ?_<|Op<|Oq ?_<|Oq ?_<|Op<|Op<|On
      · intro I1 hf le1;refine yN [4] rfl ?_;have H:=iS I1;have h:=h.mono le1;refine vZ (nC a0 _ hy h) ?_;intro I01 le;have H:=H.trans le;exact yP H
      · intro I1 hf le1;refine yN [5] rfl<|tM 3 [(6,.bool (!y))] ?_;rw [hc];exact yP iR
      · intro I1 hf le1;exact gY [(6,vF)]<|tM 4 [(7,vF)]<|yP iR
      · intro I1 hf le1;refine yN [7,8] rfl ?_;have H:=iS I1;have h:=h.mono le1;refine gS (jZ a0 _ hy1 h) ?_;intro I03 le2;have H:=H.trans le2;exact yP H
      intro I1 hf le1;refine yN [1,7] rfl ?_;have hat:=hat.mono le1;exact yX 0 hat [vI x] (vI x) rfl<|yP iR
    intro I04 le3;refine yN [12] rfl ?_;have H:=H.trans le3;exact yJ [] [3] rfl<|xT zQ<|yQ<|zT (ct N H)
 intro t3 I0 le4 hMc;refine zI<|yW ?_;obtain rfl:=zC hMc;exact wP
def nX (list:(List zA)) (depth:Int):Option (Bool):=do
 let t4←(do
   let y←wK (list.length:Int) 1 2
   if y then
    let y1←xL list (fun x0=>rH x0 depth)
    pure (!y1)
   else
    pure false
     : Option Bool)
 pure (id t4)
theorem zAt:∀ list depth r,nX list depth=some r→∀ {I:Imm}{p c},(S4 I p list c)→RT 194 [vS p list c,vI depth] I [] (zU  r):=by
 intro list depth r N I p c h;unfold nX at N;refine yM Tryz.func194 fun B=>?_;have H:=iS I;refine yF<|vX [vI depth] ?_;intro b hb;refine xP 0 rfl ?_;intro I0 le hl0;have hat:At I0 ⟨b,0,none⟩ [vI depth]:=At.of_blk hl0;have ⟨h,H⟩:=m2 le h H;refine wG [] []<|zI<|yC ?_;refine wE N [] (fun t4=>[(4,.bool t4)]) (fun o0 ho0=>?_) ?_
 · have H:=iS I0;refine zK<|yB 2 [] [6] rfl ?_;obtain ⟨y,hy,N⟩:=zB ho0;refine vZ (vK (list.length:Int) 1 2 _ hy ) ?_;intro I02 le1;have ⟨h,hat,H⟩:=m3 le1 h hat H;refine yB 4 [] [8] rfl<|xW [8] N ?_ ?_
   · intro hc N;refine yB 6 [] [9,10] rfl ?_;have hf0:FV1 Tryz.prog I02 [] (.func (.func 238) ⟨[]⟩ ⟨[vP b 0]⟩) (fun x0=>rH x0 depth):=by
       refine FV1.intro ?_;intro I1 le1 x0 r u0 hF k0;obtain ⟨_,rfl,k0⟩:=k0;obtain ⟨p1,c1,rfl,h2⟩:=yL k0;exact (zDG x0 depth r hF h2 (hat.mono le1)).mono (by rintro k i hs u ⟨v0,rfl,rfl,h⟩; exact ⟨rfl,h⟩)
     obtain ⟨y1,hy1,N⟩:=zB N;refine xQ (rM list (fun x0=>rH x0 depth) _ hy1 h hf0) ?_;rintro I03 hs2 v2 k2 le2 - ⟨v02,rfl,rfl,rfl⟩ -;have H:=H.trans le2;exact yJ [] [4] rfl<|yQ<|zT (ct N H)
   intro hc N;exact wG [] [(4,vF)]<|yQ<|zT (ct N H)
 intro t4 I01 le3 hMc;refine zI<|yW ?_;obtain rfl:=zC hMc;exact wP
def rA (nest:(List zD)) (t7:Int):Option (Out Unit (Bool)):=do
 if (decide (t7 < (nest.length:Int))) then
  let x←idx nest t7
  let t23←(do
    let y←nX x.Lo t7
    if (!y) then
     pure true
    else
     let y1←nX x.Hi t7
     pure (!y1)
      : Option Bool)
  if t23 then
   pure (.ret false)
  else
   rA nest (W (t7 + 1))
 else
  pure (.done ())
 partial_fixpoint
theorem zCC (nest:(List zD)):∀ (t7:Int) (o:Out Unit (Bool)),rA nest t7=some o→∀ {B}{I0 I:Imm}{Q p c},I0.le I→(S4 I p nest c)→NG Q→NO Q→(∀ (I':Imm) ,o=(.done ())→I0.le I'→T 28 B Q (.exit 0) I' [] [(0,vS p nest c)])→(∀ r I' hs' m',o=(.ret r)→I0.le I'→RS Tryz.prog Tryz.f152 B (zU  r) I' hs' m'→T 28 B Q .ret I' hs' m')→J Tryz.prog 28 B (nav (bodyOf Tryz.f152) [1,0,1,0]) Q I [] [(0,vS p nest c),(5,vS p nest c),(6,vI (nest.length:Int)),(7,vI t7)]:=by
 refine rA.partial_correctness nest _ fun self ih t7 o N B I0 I Q p c H h hg ho hx hr=>yT hg ho<|yG [8] rfl<|zZ<|yE N ?_ ?_
 · intro hc N;refine zS<|zZ<|yH<|yF<|yB 1 [] [9] rfl<|bE N fun x hy N=>xJ rfl rfl h hy ?_;intro ad ccs hat hrep;obtain ⟨p1,c1,p2,c2,rfl,h1,h2⟩:=sB hrep;refine yX 0 hat (cLoop x p1 c1 p2 c2) (vA (cLoop x p1 c1 p2 c2)) rfl<|wH zTwo ?_;intro b hb;refine yB 5 [] [3] rfl<|xI 0 (cLoop x p1 c1 p2 c2) rfl<|yA rfl<|zI<|yC ?_;refine wE N [] (fun t23=>[(0,vS p nest c),(5,vS p nest c),(6,vI (nest.length:Int)),(7,vI t7),(23,.bool t23)]) (fun o0 ho0=>?_) ?_
   · have H:=iS I;refine zK<|yB 3 [0] [13,14] rfl ?_;obtain ⟨y,hy1,N⟩:=zB ho0;refine vZ (zAt x.Lo t7 _ hy1 h1) ?_;intro I01 le;have ⟨h2,H⟩:=m2 le h2 H;refine yB 6 [] [17] rfl<|xW [17] N ?_ ?_
     · intro hc1 N;exact wG [] [(23,vY)]<|xT zQ<|yQ<|zT (ct N H)
     intro hc1 N;refine yB 9 [0] [19,20] rfl<|bE N fun y1 hy2 N=>vZ (zAt x.Hi t7 _ hy2 h2) ?_;intro I02 le1;have H:=H.trans le1;exact yJ [] [23] rfl<|xT zQ<|yQ<|zT (ct N H)
   intro t23 I0 le2 hMc;have ⟨h,H⟩:=m2 le2 h H;refine zI<|yE hMc ?_ ?_
   · intro hc2 N;exact vJ [(2,vF)]<|xG<|zW<|zH<|zH<|hr _ _ _ _ (zC N).symm H ⟨_,_,(.tmp rfl ResV.nil),zQ,⟨_,rfl,rfl,rfl⟩⟩
   intro hc2 N;exact zS<|zP<|zI<|zK<|yJ [] [7] rfl<|yS<|nG<|ih (W (t7 + 1)) _ N H h hg ho hx hr
 intro hc N;exact wT<|yQ<|hx _  (zC N).symm H
def kI (nest:(List zD)):Option (Bool):=do
 match←rA nest 0 with
 | .ret r0=>pure r0
 | .done _ =>
  pure (decide ((nest.length:Int) ≤ 4))
theorem zDi:∀ nest r,kI nest=some r→∀ {I:Imm}{p c},(S4 I p nest c)→RT 152 [vS p nest c] I [] (zU  r):=by
 intro nest r N I p c h;unfold kI at N;refine yM Tryz.func152 fun B=>vJ []<|zZ<|yG [5,6,7] rfl<|xZ<|pJ [(0,vS p nest c),(5,vS p nest c),(6,vI (nest.length:Int)),(7,vI 0)] ?_;obtain ⟨o01,ho01,hMl⟩:=zB N;refine zCC nest 0 o01 ho01 iR h (fun _ _ _ h=>h) (fun _ _ h=>h) ?_ ?_
 · intro I03  heq1 le3;subst o01;refine zR<|vG [2] rfl<|zI<|yW ?_;obtain rfl:=zC hMl;exact wP
 intro r0 I9 hs9 m9 heq9 le9 hrs9;subst heq9;refine zW<|zH ?_;obtain rfl:=zC hMl;exact xA hrs9
def zAS (r:List Int):KT:=fun kk I' hs' v=>
  ∃ a0 c0 s0,hs'=[.osl (.slice a0 r.length c0) (Rp.sz Int) s0]∧v=tupV [(.slice a0 r.length c0)]∧RepL (Rp.rep I') (Rp.sz Int) s0 r
def sP (s:List Int):Option (List Int):=app 8 ([]:List Int) s
theorem kJ:∀ s r,sP s=some r→∀ {I:Imm}{p c},SL I (vS p s c) s→RT 108 [vS p s c] I [] (zAS r):=by
 intro s r N I p c h;unfold sP at N;obtain ⟨ccs,k0,k01⟩:=h;refine yM Tryz.func108 fun B=>?_;cases p with
 | none =>
  have hs:s=[]:=by
    rcases k0 with ⟨hv,rfl⟩ | ⟨b0,off,len,cap,cc,hv,k2⟩
    · cases s with
      | nil=>rfl
      | cons _ _=>simp at hv
    simp at hv
  subst hs;obtain ⟨_,rfl⟩:=zAq N;refine yG [0,2] rfl<|zZ<|yF<|yB 1 [] [3] rfl<|zMa true rfl rfl ?_ rfl;exact wG [] [(4,vY)]<|zI<|zBu rfl<|vJ [(2,z0)]<|xG<|zH<|xT (jX (Rp.sz Int))<|xA ⟨_,_,(.tmp rfl ResV.nil),(zX [0] rfl (by decide)),⟨none,0,[],rfl,rfl,rfl⟩⟩
 | some ad =>
  refine yG [0,2] rfl<|zZ<|yF<|yB 1 [] [3] rfl<|zMa false rfl rfl ?_ rfl;refine yJ [] [0,4] rfl<|zI<|dX rfl<|zS<|yV<|tH [] Int ?_;intro b2 hb2;have h1:RL I [] ([]:List Int):=rfl;exact yB 2 [] [6] rfl<|qI 3 1 0 rfl rfl rfl h1 (.inl k0) k01 N fun p1 c1 cs h2=>yJ [] [2] rfl<|xG<|xA ⟨_,_,(.tmp rfl ResV.nil),(zX [0] rfl (by decide)),⟨_,_,_,rfl,rfl,h2⟩⟩
def tX (a0:zA) (point:(List Int)) (sum:Int) (t12:Int):Option (Int):=do
 if (decide (t12 < (point.length:Int))) then
  let x←idx point t12
  let x1←idx a0.Coefs t12
  tX a0 point (W (sum + (W (x1 * x)))) (W (t12 + 1))
 else
  pure (id sum)
 partial_fixpoint
theorem zBR (a0:zA) (point:(List Int)):∀ (sum:Int) (t12:Int) (o:Int),tX a0 point sum t12=some o→∀ {B}{I0 I:Imm}{Q p c p1 c1}{b:Nat},I0.le I→(S4 I p1 point c1)→(S4 I p a0.Coefs c)→NG Q→NO Q→(∀ (I':Imm) (sum1:Int),o=sum1→I0.le I'→T 28 B Q (.exit 0) I' [] [(5,vI sum1)])→J Tryz.prog 28 B (nav (bodyOf Tryz.f204) [1,1,0,1,0]) Q I [hB b (cAff a0 p c)] [(2,vP b 0),(5,vI sum),(10,vS p1 point c1),(11,vI (point.length:Int)),(12,vI t12)]:=by
 refine tX.partial_correctness a0 point _ fun self ih sum t12 o N B I0 I Q p c p1 c1 b H h1 h hg ho hx=>yT hg ho<|yG [13] rfl<|zZ<|yE N ?_ ?_
 · intro hc N;refine zS<|zZ<|yH<|yF<|yB 1 [] [14] rfl<|bE N fun x hy N=>xJ rfl rfl h1 hy ?_;intro ad ccs hat hrep;obtain rfl:=hrep;refine yX 0 hat [vI x] (vI x) rfl<|yJ [] [6,7] rfl<|zI<|zK<|yB 4 [0] [17,19,20] rfl<|bE N fun x1 hy1 N=>xJ rfl rfl h hy1 ?_;intro ad1 ccs1 hat1 hrep1;obtain rfl:=hrep1;exact yX 0 hat1 [vI x1] (vI x1) rfl<|yJ [] [5] rfl<|zP<|zI<|zK<|yJ [] [12] rfl<|yS<|nG<|ih (W (sum + (W (x1 * x)))) (W (t12 + 1)) _ N H h1 h hg ho hx
 intro hc N;exact wT<|xT zQ<|yQ<|hx _ _ (zC N).symm H
def tJ (a0:zA) (point:(List Int)):Option (Int):=do
 let sum1←tX a0 point a0.Const 0
 pure (id sum1)
theorem nD:∀ a0 point r,tJ a0 point=some r→∀ {I:Imm}{p c p1 c1},(S4 I p a0.Coefs c)→(S4 I p1 point c1)→RT 204 [vA (cAff a0 p c),vS p1 point c1] I [] (yK  r):=by
 intro a0 point r N I p c p1 c1 h h1;unfold tJ at N;refine yM Tryz.func204 fun B=>yF<|vX (cAff a0 p c) ?_;intro b hb;refine wG [] []<|yV<|yJ [0] [5] rfl<|zZ<|yG [10,11,12] rfl<|xZ<|pJ [(2,vP b 0),(5,vI a0.Const),(10,vS p1 point c1),(11,vI (point.length:Int)),(12,vI 0)] ?_;obtain ⟨o0,ho0,hMl⟩:=zB N;refine zBR a0 point a0.Const 0 o0 ho0 iR h1 h (fun _ _ _ h=>h) (fun _ _ h=>h) ?_;intro I0 sum1 heq le;subst o0;refine zR<|vG [4] rfl<|zI<|yW ?_;obtain rfl:=zC hMl;exact wP
def gZ (r:Int×Int):KT:=fun kk I' hs' v=>
  ∃ v0 v1,hs'=[]∧v=tupV [v0,v1]∧v0=.int .i64 r.1∧v1=.int .i64 r.2
def rB (l:zD) (point:(List Int)) (lo:Int) (t27:Int):Option (Int):=do
 if (decide (t27 < (l.Lo.length:Int))) then
  let x2←idx l.Lo t27
  let y2←tJ x2 point
  rB l point (if y2 > lo then y2 else lo) (W (t27 + 1))
 else
  pure (id lo)
 partial_fixpoint
theorem zCD (l:zD) (point:(List Int)):∀ (lo:Int) (t27:Int) (o:Int),rB l point lo t27=some o→∀ {B}{I0 I:Imm}{Q}{y1:Int}{p c p1 c1 p2 c2}{b:Nat},I0.le I→(S4 I p2 point c2)→(S4 I p l.Lo c)→(S4 I p1 l.Hi c1)→NG Q→NO Q→(∀ (I':Imm) (lo1:Int),o=lo1→I0.le I'→T 52 B Q (.exit 0) I' [hB b (cLoop l p c p1 c1)] [(1,vS p2 point c2),(2,vP b 0),(6,vI lo1),(7,vI y1)])→J Tryz.prog 52 B (nav (bodyOf Tryz.f195) [1,1,0,1,0]) Q I [hB b (cLoop l p c p1 c1)] [(1,vS p2 point c2),(2,vP b 0),(6,vI lo),(7,vI y1),(25,vS p l.Lo c),(26,vI (l.Lo.length:Int)),(27,vI t27)]:=by
 refine rB.partial_correctness l point _ fun self ih lo t27 o N B I0 I Q y1 p c p1 c1 p2 c2 b H h2 h h1 hg ho hx=>yT hg ho<|yG [28] rfl<|zZ<|yE N ?_ ?_
 · intro hc N;refine zS<|zZ<|yH<|yF<|bE N fun x2 hy4 N=>xJ rfl rfl h hy4 ?_;intro ad2 ccs2 hat2 hrep2;obtain ⟨p5,c5,rfl,h7⟩:=yL hrep2;refine yX 0 hat2 (cAff x2 p5 c5) (vA (cAff x2 p5 c5)) rfl<|wH [z0,vI 0] ?_;intro b1 hb1;refine xI 0 (cAff x2 p5 c5) rfl<|yA rfl<|zI<|zK<|yB 3 [0] [31,32,33] rfl<|bE N fun y2 hy5 N=>gS (nD x2 point _ hy5 h7 h2) ?_;intro I03 le3;have ⟨h2,h,h1,H⟩:=m4 le3 h2 h h1 H;exact yJ [] [6] rfl<|zP<|zI<|zK<|yJ [] [27] rfl<|yS<|kX (zX [1] rfl (by decide))<|nG<|ih (if y2 > lo then y2 else lo) (W (t27 + 1)) _ N H h2 h h1 hg ho hx
 intro hc N;exact wT<|yQ<|hx _ _ (zC N).symm H
def rC (l:zD) (point:(List Int)) (hi:Int) (t40:Int):Option (Int):=do
 if (decide (t40 < (l.Hi.length:Int))) then
  let x3←idx l.Hi t40
  let y3←tJ x3 point
  rC l point (if y3 < hi then y3 else hi) (W (t40 + 1))
 else
  pure (id hi)
 partial_fixpoint
theorem zCE (l:zD) (point:(List Int)):∀ (hi:Int) (t40:Int) (o:Int),rC l point hi t40=some o→∀ {B}{I0 I:Imm}{Q}{lo1:Int}{p1 c1 p2 c2},I0.le I→(S4 I p2 point c2)→(S4 I p1 l.Hi c1)→NG Q→NO Q→(∀ (I':Imm) (hi1:Int),o=hi1→I0.le I'→T 52 B Q (.exit 2) I' [] [(6,vI lo1),(7,vI hi1)])→J Tryz.prog 52 B (nav (bodyOf Tryz.f195) [1,1,1,0,1,0]) Q I [] [(1,vS p2 point c2),(6,vI lo1),(7,vI hi),(38,vS p1 l.Hi c1),(39,vI (l.Hi.length:Int)),(40,vI t40)]:=by
 refine rC.partial_correctness l point _ fun self ih hi t40 o N B I0 I Q lo1 p1 c1 p2 c2 H h2 h1 hg ho hx=>yT hg ho<|yG [41] rfl<|zZ<|yE N ?_ ?_
 · intro hc1 N;refine zS<|zZ<|yH<|yF<|bE N fun x3 hy6 N=>xJ rfl rfl h1 hy6 ?_;intro ad3 ccs3 hat3 hrep3;obtain ⟨p6,c6,rfl,h9⟩:=yL hrep3;refine yX 0 hat3 (cAff x3 p6 c6) (vA (cAff x3 p6 c6)) rfl<|wH [z0,vI 0] ?_;intro b2 hb2;refine xI 0 (cAff x3 p6 c6) rfl<|yA rfl<|zI<|zK<|yB 3 [0] [44,45,46] rfl<|bE N fun y3 hy7 N=>gS (nD x3 point _ hy7 h9 h2) ?_;intro I05 le5;have ⟨h2,h1,H⟩:=m3 le5 h2 h1 H;exact yJ [] [7] rfl<|zP<|zI<|zK<|yJ [] [40] rfl<|yS<|kX zQ<|nG<|ih (if y3 < hi then y3 else hi) (W (t40 + 1)) _ N H h2 h1 hg ho hx
 intro hc1 N;exact wT<|yQ<|hx _ _ (zC N).symm H
def kK (l:zD) (point:(List Int)):Option (Int×Int):=do
 let x←idx l.Lo 0
 let y←tJ x point
 let x1←idx l.Hi 0
 let y1←tJ x1 point
 let lo1←rB l point y 0
 let hi1←rC l point y1 0
 pure (lo1,hi1)
theorem zDj:∀ l point r,kK l point=some r→∀ {I:Imm}{p c p1 c1 p2 c2},(S4 I p l.Lo c)→(S4 I p1 l.Hi c1)→(S4 I p2 point c2)→RT 195 [vA (cLoop l p c p1 c1),vS p2 point c2] I [] (gZ  r):=by
 intro l point r N I p c p1 c1 p2 c2 h h1 h2;unfold kK at N;refine yM Tryz.func195 fun B=>?_;have H:=iS I;refine yF<|vX (cLoop l p c p1 c1) ?_;intro b hb;refine wG [] []<|zI<|yC ?_;obtain ⟨x,hy,N⟩:=zB N;obtain ⟨y,hy1,N⟩:=zB N;obtain ⟨x1,hy2,N⟩:=zB N;obtain ⟨y1,hy3,N⟩:=zB N;refine wA [.p (vP b 0) [],.p (vS p l.Lo c) [0],.x (ePAff x),.x (eVAff x),.p (vS p2 point c2) [],.q (vI y),.p (vP b 1) [],.p (vS p1 l.Hi c1) [0],.x (ePAff x1),.x (eVAff x1),.p (vS p2 point c2) [],.q (vI y1),.p (vI y) []] [[],[(0,false)],[(1,false)],[(2,false)],[],[(3,false),(4,false)],[],[(6,false)],[(7,false)],[(8,false)],[],[(9,false),(10,false)],[(5,false)]] [hB b (cLoop l p c p1 c1)] [] [(11,false),(12,false)] (zY [0]) ?_ ?_
 · refine Op<|Op<|Ox ?_<|Ox ?_<|Op<|Oq ?_<|Op<|Op<|Ox ?_<|Ox ?_<|Op<|Oq ?_<|Op<|On
   · intro I1 hf le1;refine yN [13] rfl ?_;have h:=h.mono le1;refine xJ rfl rfl h hy ?_;intro ad ccs hat hrep;obtain ⟨p3,c3,rfl,h3⟩:=yL hrep;exact yI [] iR ⟨_,_,_,rfl,rfl,hat,h3⟩
   · rintro I1 hf le1 _ _ ⟨ad,p3,c3,rfl,rfl,hat,h3⟩;exact yN [14] rfl<|yX 0 hat (cAff x p3 c3) (vA (cAff x p3 c3)) rfl<|yI [] iR ⟨_,_,rfl,rfl,h3⟩
   · rintro I1 hf le1 _ _ ⟨p31,c31,rfl,rfl,h31⟩;refine yN [15,16] rfl ?_;have H:=iS I1;have h2:=h2.mono le1;refine gS (nD x point _ hy1 h31 h2) ?_;intro I0 le;have H:=H.trans le;exact yP H
   · intro I1 hf le1;refine yN [19] rfl ?_;have h1:=h1.mono le1;refine xJ rfl rfl h1 hy2 ?_;intro ad1 ccs1 hat1 hrep1;obtain ⟨p4,c4,rfl,h5⟩:=yL hrep1;exact yI [] iR ⟨_,_,_,rfl,rfl,hat1,h5⟩
   · rintro I1 hf le1 _ _ ⟨ad1,p4,c4,rfl,rfl,hat1,h5⟩;exact yN [20] rfl<|yX 0 hat1 (cAff x1 p4 c4) (vA (cAff x1 p4 c4)) rfl<|yI [] iR ⟨_,_,rfl,rfl,h5⟩
   rintro I1 hf le1 _ _ ⟨p41,c41,rfl,rfl,h51⟩;refine yN [21,22] rfl ?_;have H:=iS I1;have h2:=h2.mono le1;refine gS (nD x1 point _ hy3 h51 h2) ?_;intro I01 le1;have H:=H.trans le1;exact yP H
 intro I02 le2;refine yN [1,2,6,23] rfl ?_;have ⟨h2,h,h1⟩:=m3 le2 h2 h h1;refine yJ [] [7] rfl<|zZ<|yF<|yJ [0] [25,26,27] rfl<|xZ<|pJ [(1,vS p2 point c2),(2,vP b 0),(6,vI y),(7,vI y1),(25,vS p l.Lo c),(26,vI (l.Lo.length:Int)),(27,vI 0)] ?_;obtain ⟨o0,ho0,hMl⟩:=zB N;refine zCD l point y 0 o0 ho0 iR h2 h h1 (fun _ _ _ h=>h) (fun _ _ h=>h) ?_;intro I04 lo1 heq le4;subst o0;have ⟨h2,h,h1⟩:=m3 le4 h2 h h1;refine zR<|zZ<|yF<|yJ [0] [38,39,40] rfl<|xZ<|kX (zY [] (hs':=[]))<|pJ [(1,vS p2 point c2),(6,vI lo1),(7,vI y1),(38,vS p1 l.Hi c1),(39,vI (l.Hi.length:Int)),(40,vI 0)] ?_;obtain ⟨o01,ho01,hMl1⟩:=zB hMl;refine zCE l point y1 0 o01 ho01 iR h2 h1 (fun _ _ _ h=>h) (fun _ _ h=>h) ?_;intro I06 hi1 heq1 le6;subst o01;refine zR<|vG [4,5] rfl<|zI<|yW ?_;obtain rfl:=zC hMl1;exact xA ⟨_,_,(.tmp rfl (.tmp rfl ResV.nil)),zQ,⟨_,_,rfl,rfl,rfl,rfl⟩⟩
def jB (b0:Nat) (r:Bool×sC):KT:=fun kk I' hs' v=>
  ∃ v0 x0_0 y0_0 x0_2 y0_2 z0_2,hs'=[.blk b0 ⟨[.slice x0_0 r.2.nest.length y0_0,.int .i64 r.2.steps,.slice x0_2 r.2.out.length y0_2]⟩,.osl (.slice x0_2 r.2.out.length y0_2) (Rp.sz (List Int)) z0_2]∧v=tupV [v0]∧v0=.bool r.1∧SL I' (.slice x0_0 r.2.nest.length y0_0) r.2.nest∧RepL (Rp.rep I') (Rp.sz (List Int)) z0_2 r.2.out
mutual
def tU (w0:sC) (point:(List Int)):Option (Bool×sC):=do
 if ((point.length:Int) == (w0.nest.length:Int)) then
  let y←sP point
  let l←app 24 w0.out ([y]:List (List Int))
  pure ((decide ((l.length:Int) ≤ 120)),(sC.mk w0.nest w0.steps l))
 else
  let x←idx w0.nest (point.length:Int)
  let (y2,y3)←kK x point
  match←sQ (same point) (same y3) (same y2) w0.nest w0.steps w0.out with
  | .ret r0=>pure r0
  | .done (nest1,steps1,out1) =>
   pure (true,(sC.mk nest1 steps1 out1))
 partial_fixpoint
def sQ (point:(List Int)) (y3:Int) (n0:Int) (nest:List zD) (steps:Int) (out:List (List Int)):Option (Out (List zD×Int×List (List Int)) (Bool×sC)):=do
 if (decide (n0 < y3)) then
  let (t74,nest2,steps2,out2)←(do
    if (decide ((W ((W (steps + 1)) + 1)) > 1200)) then
     pure (true,nest,(W (steps + 1)),out)
    else
     let y4←sP point
     let l1←app 8 y4 ([n0]:List Int)
     let (y6,y7)←tU (sC.mk nest (W (steps + 1)) out) (same l1)
     pure ((!y6),y7.nest,y7.steps,y7.out)
      : Option (Bool×List zD×Int×List (List Int)))
  if t74 then
   pure (.ret (false,(sC.mk nest2 steps2 out2)))
  else
   sQ (same point) (same y3) (W (n0 + 1)) (same nest2) (same steps2) (same out2)
 else
  pure (.done (nest,steps,out))
 partial_fixpoint
end
theorem zBj:(∀ (w0:sC) (point:(List Int)) r,tU w0 point=some r→∀ {I:Imm}{r0:Nat}{p c p1 c1 cs p2 c2},(S4 I p w0.nest c)→(RL I cs w0.out)→(S4 I p2 point c2)→RT 153 [vP r0 0,vS p2 point c2] I [hB r0 [vS p w0.nest c,vI w0.steps,vS p1 w0.out c1],hO (List Int) (vS p1 w0.out c1) cs] (jB r0 r))∧(∀ (point:(List Int)) (y3:Int) (n0:Int) (nest:List zD) (steps:Int) (out:List (List Int)) o,sQ point y3 n0 nest steps out=some o→∀ {B}{I0 I:Imm}{Q}  {r0:Nat}{p2 c2 p7 c7 p8 c8 cs3},I0.le I→(S4 I p2 point c2)→(S4 I p7 nest c7)→(RL I cs3 out)→NG Q→NO Q→(∀ (I':Imm) (nest1:List zD) (steps1:Int) (out1:List (List Int)) (p9:Option Addr) (c9:Nat) (p10:Option Addr) (c10:Nat) (cs4:List Value),o=(.done (nest1,steps1,out1))→I0.le I'→(S4 I' p9 nest1 c9)→(RL I' cs4 out1)→T 75 B Q (.exit 0) I' [hB r0 [vS p9 nest1 c9,vI steps1,vS p10 out1 c10],hO (List Int) (vS p10 out1 c10) cs4] [])→(∀ r I' hs' m',o=(.ret r)→I0.le I'→RS Tryz.prog Tryz.f153 B (jB r0 r) I' hs' m'→T 75 B Q .ret I' hs' m')→J Tryz.prog 75 B (nav (bodyOf Tryz.f153) [1,1,1,0,1,0]) Q I [hB r0 [vS p7 nest c7,vI steps,vS p8 out c8],hO (List Int) (vS p8 out c8) cs3] [(0,vP r0 0),(1,vS p2 point c2),(6,vI y3),(7,vI n0)]):=by
  refine tU.mutual_partial_correctness _ _ ?_ ?_
  · intro F_impl_walking_walk_l1 ih_impl_walking_walk_l1 w0 point r N I r0 p c p1 c1 cs p2 c2 h h1 h2;refine yM Tryz.func153 fun B=>?_;have H:=iS I;refine vJ []<|zZ<|yF<|yJ [0] [15] rfl<|zI<|yE N ?_ ?_
    · intro hc N;refine yC ?_;obtain ⟨y,hy,N⟩:=zB N;obtain ⟨l,hy1,N⟩:=zB N;refine wA [.p (vP r0 0) [],.p (vP r0 0) [],.p (vP r0 0) [],.p (vP r0 2) [],.p (vS p1 w0.out c1) [0],.p (vS p2 point c2) [],.x (fun I' v hx=>∃ p3 c3 cs1,v=vS p3 y c3∧hx=[hO Int (vS p3 y c3) cs1]∧(RL I' cs1 y)),.x (fun I' v hx=>∃ b,v=vS (some ⟨b,0,none⟩) ([y]:List (List Int)) 1∧hx=[]∧(SL I' (vS (some ⟨b,0,none⟩) ([y]:List (List Int)) 1) ([y]:List (List Int)))),.x (fun I' v hx=>∃ p4 c4 cs2,v=vS p4 l c4∧hx=[hO (List Int) (vS p4 l c4) cs2]∧(RL I' cs2 l))] [[],[],[(1,false)],[(2,false)],[(3,false)],[],[(5,false)],[(6,true)],[(4,false),(7,false),(12,true)]] [hB r0 [vS p w0.nest c,vI w0.steps,vS p1 w0.out c1]] [[hO (List Int) (vS p1 w0.out c1) cs]] [(0,false),(8,true)] (zY [0,1]) ?_ ?_
      · refine Op<|Op<|Op<|Op<|Op<|Op<|Ox ?_<|Ox ?_<|Ox ?_<|On
        · intro I1 hf le1;refine yN [21] rfl ?_;have H:=iS I1;have h2:=h2.mono le1;refine xQ (kJ point _ hy h2) ?_;rintro I0 hs2 v2 k2 le - ⟨p3,c3,cs1,rfl,rfl,h3⟩ -;have H:=H.trans le;exact yI [hO Int (vS p3 y c3) cs1] H ⟨_,_,_,rfl,rfl,h3⟩
        · rintro I1 hf le1 _ _ ⟨p3,c3,cs1,rfl,rfl,h3⟩;refine yN [22] rfl ?_;have H:=iS I1;refine xP 0 rfl ?_;intro I01 le1 hl0;have h4:=SL.of_frozen hl0 le1 h3;have H:=H.trans le1;refine nQ (rc y ⟨_,rfl,h4⟩ rN) ?_;intro b I02 le2 h6;have H:=H.trans le2;exact yI [] H ⟨_,rfl,rfl,h6⟩
        rintro I1 hf le1 _ _ ⟨rfl,rfl⟩ _ _ ⟨b,rfl,rfl,h6⟩ _ _ rfl;refine yN [20,23] rfl ?_;have h1:=iM le1 h1;obtain ⟨ccs,k0,k01⟩:=h6;have h6:SL I1 (vS (some ⟨b,0,none⟩) ([y]:List (List Int)) 1) ([y]:List (List Int)):=⟨_,k0,k01⟩;exact qI 36 1 0 rfl rfl rfl h1 (.inl k0) k01 hy1 fun p4 c4 cs2 h7=>vH (hs':=(hO (List Int) (vS p4 l c4) cs2::hB r0 [vS p w0.nest c,vI w0.steps,vS p1 w0.out c1]::hf)) rfl<|yI [hO (List Int) (vS p4 l c4) cs2] iR ⟨_,_,_,rfl,rfl,h7⟩
      rintro I03 le3 _ _ ⟨rfl,rfl⟩ _ _ ⟨p4,c4,cs2,rfl,rfl,h7⟩;refine yN [0,16,24] rfl ?_;have h:=h.mono le3;refine yB 11 [] [26] rfl<|xI 1 [vS p w0.nest c,vI w0.steps,vS p4 l c4] rfl<|yA rfl<|yV<|yJ [1] [4] rfl<|xG<|zH ?_;obtain rfl:=zC N;exact xA ⟨_,_,(.tmp rfl ResV.nil),(zX [1,0] rfl (by decide)),⟨_,_,_,_,_,_,rfl,rfl,rfl,h,h7⟩⟩
    intro hc N;refine zS<|yV<|yB 6 [0] [37,39] rfl<|bE N fun x hy2 N=>xJ rfl rfl h hy2 ?_;intro ad ccs1 hat hrep;obtain ⟨p5,c5,p6,c6,rfl,h8,h9⟩:=sB hrep;refine yX 0 hat (cLoop x p5 c5 p6 c6) (vA (cLoop x p5 c5 p6 c6)) rfl<|yB 9 [] [42] rfl ?_;obtain ⟨⟨y2,y3⟩,hy3,N⟩:=zB N;refine xQ (zDj x point _ hy3 h8 h9 h2) ?_;rintro I04 hs2 v2 k2 le4 - ⟨v02,v03,rfl,rfl,rfl,rfl⟩ -;have ⟨h2,h,h1⟩:=m3 le4 h2 h h1;refine yJ [] [5,6] rfl<|zZ<|yG [7] rfl<|xZ<|pJ [(0,vP r0 0),(1,vS p2 point c2),(6,vI y3),(7,vI y2)] ?_;obtain ⟨o01,ho01,hMl⟩:=zB N;refine ih_impl_walking_walk_l1 point y3 y2 w0.nest w0.steps w0.out o01 ho01 iR h2 h h1 (fun _ _ _ h=>h) (fun _ _ h=>h) ?_ ?_
    · intro I09 nest1 steps1 out1 p9 c9 p10 c10 cs4 heq1 le9 h14 h15;subst o01;refine zR<|zF0 [(4,vY)]<|zI<|yW ?_;obtain rfl:=zC hMl;exact xA ⟨_,_,(.tmp rfl ResV.nil),(zX [0,1] rfl (by decide)),⟨_,_,_,_,_,_,rfl,rfl,rfl,h14,h15⟩⟩
    intro r0 I9 hs9 m9 heq9 le9 hrs9;subst heq9;refine zW<|zH ?_;obtain rfl:=zC hMl;exact xA hrs9
  intro F_impl_walking_walk F_impl_walking_walk_l1 ih_impl_walking_walk ih_impl_walking_walk_l1 point y3 n0 nest steps out o N B I0 I Q r0 p2 c2 p7 c7 p8 c8 cs3 H h2 h12 h13 hg ho hx hr;refine yT hg ho<|yC<|yG [49] rfl<|zI<|yE N ?_ ?_
  · intro hc1 N;refine zS<|zZ<|yH<|yF<|yB 7 [0] [56,58] rfl<|xI 0 [vS p7 nest c7,vI (W (steps + 1)),vS p8 out c8] rfl<|yA rfl<|zI<|yC ?_;obtain ⟨o0,ho0,hMc⟩:=zB N;refine qL (fun I' hs' m'=>∃ (t74:Bool) (nest2:List zD) (steps2:Int) (out2:List (List Int)) (p11:Option Addr) (c11:Nat) (p12:Option Addr) (c12:Nat) (cs5:List Value),o0=(t74,nest2,steps2,out2)∧I.le I'∧(S4 I' p11 nest2 c11)∧(RL I' cs5 out2)∧hs'=[hB r0 [vS p11 nest2 c11,vI steps2,vS p12 out2 c12],hO (List Int) (vS p12 out2 c12) cs5]∧m'=[(0,vP r0 0),(1,vS p2 point c2),(6,vI y3),(7,vI n0),(74,.bool t74)]) ?_ ?_
    · have H:=iS I;refine zK<|yB 7 [0] [65] rfl<|xW [65] ho0 ?_ ?_
      · intro hc2 N;exact wG [] [(74,vY)]<|yQ<|zT ⟨_,_,_,_,_,_,_,_,_,(zC N).symm,H,h12,h13,rfl,rfl⟩
      intro hc2 N;refine yB 9 [] [66,67] rfl<|bE N fun y4 hy4 N=>xQ (kJ point _ hy4 h2) ?_;rintro I06 hs2 v2 k2 le5 - ⟨p13,c13,cs6,rfl,rfl,h18⟩ -;have ⟨h12,h13,H⟩:=m3 le5 h12 h13 H;refine yB 11 [] [69] rfl<|tH [vI n0] Int ?_;intro b1 hb1;have h19:RL I06 [vI n0] ([n0]:List Int):=rI [n0];obtain ⟨l1,hy5,N⟩:=zB N;refine qI 3 1 1 rfl rfl rfl h18 (.inr ⟨0,rfl⟩) h19 hy5 fun p14 c14 cs7 h20=>sD (zY [1,2,3] (hs':=[hO Int (vS p14 l1 c14) cs7,hB r0 [vS p7 nest c7,vI (W (steps + 1)),vS p8 out c8],hO (List Int) (vS p8 out c8) cs3]))<|xP 0 rfl ?_;intro I07 le6 hl02;have h21:=SL.of_frozen hl02 le6 h20;have ⟨h12,h13,H⟩:=m3 le6 h12 h13 H;obtain ⟨⟨y6,y7⟩,hy6,N⟩:=zB N;refine sE (ih_impl_walking_walk (sC.mk nest (W (steps + 1)) out) l1 _ hy6 h12 h13 h21) rfl ?_;rintro I08 hs2 v2 k2 le7 - ⟨v04,p15,c15,p16,c16,cs8,rfl,rfl,rfl,h23,h24⟩ -;have H:=H.trans le7;exact yJ [] [74] rfl<|yQ<|zT ⟨_,_,_,_,_,_,_,_,_,(zC N).symm,H,h23,h24,rfl,rfl⟩
    rintro I05 hs2 m2 ⟨t74,nest2,steps2,out2,p11,c11,p12,c12,cs5,heq,le8,h16,h17,rfl,rfl⟩;subst o0;have ⟨h2,H⟩:=m2 le8 h2 H;refine zI<|yE hMc ?_ ?_
    · intro hc3 N;exact vJ [(4,vF)]<|xG<|zW<|zH<|zH<|hr _ _ _ _ (zC N).symm H ⟨_,_,(.tmp rfl ResV.nil),(zX [0,1] rfl (by decide)),⟨_,_,_,_,_,_,rfl,rfl,rfl,h16,h17⟩⟩
    intro hc3 N;exact zS<|zP<|zI<|zK<|yJ [] [7] rfl<|yS<|nG<|ih_impl_walking_walk_l1 point y3 (W (n0 + 1)) nest2 steps2 out2 _ N H h2 h16 h17 hg ho hx hr
  intro hc1 N;exact wT<|yQ<|hx _ _ _ _ _ _ _ _ _ (zC N).symm H h12 h13
theorem zCF:∀ w0 point r,tU w0 point=some r→∀ {I:Imm}{r0:Nat}{p c p1 c1 cs p2 c2},(S4 I p w0.nest c)→(RL I cs w0.out)→(S4 I p2 point c2)→RT 153 [vP r0 0,vS p2 point c2] I [hB r0 [vS p w0.nest c,vI w0.steps,vS p1 w0.out c1],hO (List Int) (vS p1 w0.out c1) cs] (jB r0 r):=zBj.1
def dB (r:(List (List Int))×Bool):KT:=fun kk I' hs' v=>
  ∃ v0 v1,hs'=[]∧v=tupV [v0,v1]∧SL I' v0 r.1∧v1=.bool r.2
def mG (nest:(List zD)):Option ((List (List Int))×Bool):=do
 let y←kI nest
 if (!y) then
  pure (([]:List (List Int)),false)
 else
  let (y2,y3)←tU (sC.mk nest 0 ([]:List (List Int))) ([]:List Int)
  if (!y2) then
   pure (([]:List (List Int)),false)
  else
   pure (y3.out,true)
theorem zDH:∀ nest r,mG nest=some r→∀ {I:Imm}{p c},(S4 I p nest c)→RT 102 [vS p nest c] I [] (dB  r):=by
 intro nest r N I p c h;unfold mG at N;refine yM Tryz.func102 fun B=>vJ []<|zZ<|yF<|yB 1 [] [5] rfl<|bE N fun y hy N=>vZ (zDi nest _ hy h) ?_;intro I0 le;have h:=h.mono le;refine yJ [] [7] rfl<|zI<|yE N ?_ ?_
 · intro hc N;refine yG [2,3] rfl<|xG<|zH ?_;obtain rfl:=zC N;exact xA ⟨_,_,(.tmp rfl (.tmp rfl ResV.nil)),zQ,⟨_,_,rfl,rfl,(SL.nil _),rfl⟩⟩
 intro hc N;refine zS<|yV<|yB 2 [] [9] rfl<|vX [vS p nest c,vI 0,z0] ?_;intro b hb;refine yJ [] [4] rfl<|zZ<|yF<|yB 1 [] [11] rfl<|zMk (List Int) fun h2=>?_;refine sD (zY [1,0] (hs':=[hB b [vS p nest c,vI 0,vS none ([]:List (List Int)) 0],hO (List Int) (vS none ([]:List (List Int)) 0) []])) ?_;obtain ⟨⟨y2,y3⟩,hy1,N⟩:=zB N;refine sE (zCF (sC.mk nest 0 ([]:List (List Int))) ([]:List Int) _ hy1 h h2 (SL.nil _)) rfl ?_;rintro I01 hs2 v2 k2 le1 - ⟨v01,p1,c1,p2,c2,cs,rfl,rfl,rfl,h4,h5⟩ -;refine yJ [] [13] rfl<|zI<|yE N ?_ ?_
 · intro hc1 N;refine yG [2,3] rfl<|xG<|zH ?_;obtain rfl:=zC N;exact xA ⟨_,_,(.tmp rfl (.tmp rfl ResV.nil)),zQ,⟨_,_,rfl,rfl,(SL.nil _),rfl⟩⟩
 intro hc1 N;refine zS<|yV<|yJ [0] [2,3] rfl<|xG<|yY 1 rfl ?_;intro I02 le2 hl0;have h6:=SL.of_frozen hl0 le2 h5;obtain rfl:=zC N;exact xA ⟨_,_,(.tmp rfl (.tmp rfl ResV.nil)),zQ,⟨_,_,rfl,rfl,h6,rfl⟩⟩
def pF (hsF:List HA) (r:Int):KT:=fun kk I' hs' v=>
  ∃ v0,hsF=hs'∧v=tupV [v0]∧v0=.int .i64 r
def xH (s:(List zN)) (f0:(zN→Option Bool)) (t8:Int):Option (Out Unit (Int)):=do
 if (decide (t8 < (s.length:Int))) then
  let x←idx s t8
  let y←f0 x
  if y then
   pure (.ret t8)
  else
   xH s f0 (W (t8 + 1))
 else
  pure (.done ())
 partial_fixpoint
theorem jC (s:(List zN)) (f0:(zN→Option Bool)):∀ (t8:Int) (o:Out Unit (Int)),xH s f0 t8=some o→∀ {B}{I0 I:Imm}{Q p c}{fv:Value}{hsF:List HA},I0.le I→(S4 I p s c)→(FV1 Tryz.prog I hsF fv f0)→NG Q→NO Q→(∀ (I':Imm) ,o=(.done ())→I0.le I'→T 19 B Q (.exit 0) I' hsF [])→(∀ r I' hs' m',o=(.ret r)→I0.le I'→RS Tryz.prog Tryz.f154 B (pF hsF r) I' hs' m'→T 19 B Q .ret I' hs' m')→J Tryz.prog 19 B (nav (bodyOf Tryz.f154) [1,0,1,0]) Q I hsF [(0,vS p s c),(1,fv),(7,vI (s.length:Int)),(8,vI t8)]:=by
 refine xH.partial_correctness s f0 _ fun self ih t8 o N B I0 I Q p c fv hsF H h h1 hg ho hx hr=>yT hg ho<|yG [9] rfl<|zZ<|yE N ?_ ?_
 · intro hc N;refine zS<|zZ<|yH<|yG [5] rfl<|yV<|yB 3 [] [11,12,13] rfl<|bE N fun x hy N=>xJ rfl rfl h hy ?_;intro ad ccs hat hrep;obtain ⟨p1,c1,p2,c2,p3,c3,p4,c4,rfl,h2,h3,h4,h5⟩:=tG hrep;refine yX 0 hat (cStmt x p1 c1 p2 c2 p3 c3 p4 c4) (vA (cStmt x p1 c1 p2 c2 p3 c3 p4 c4)) rfl<|bE N fun y hy1 N=>zH7 rfl rfl h1 hy1 ⟨_,rfl,(wQ ⟨_,_,_,_,rfl,h2,h3,h4,h5⟩)⟩ (List.append_nil _).symm ?_;rintro I0 v04 le rfl;refine vH (hs':=hsF) (List.append_nil _) ?_;have ⟨h,h1,H⟩:=m3 le h h1 H;refine yA rfl<|zI<|yE N ?_ ?_
   · intro hc1 N;exact yG [4] rfl<|xG<|zW<|zH<|zH<|hr _ _ _ _ (zC N).symm H ⟨_,_,(.tmp rfl ResV.nil),(fun _ h=>h),⟨_,rfl,rfl,rfl⟩⟩
   intro hc1 N;exact zS<|zP<|zI<|zK<|yJ [] [8] rfl<|yS<|nG<|ih (W (t8 + 1)) _ N H h h1 hg ho hx hr
 intro hc N;exact wT<|yQ<|hx _  (zC N).symm H
def uA (s:(List zN)) (f0:(zN→Option Bool)):Option (Int):=do
 match←xH s f0 0 with
 | .ret r0=>pure r0
 | .done _ =>
  pure (-1)
theorem jU:∀ s f0 r,uA s f0=some r→∀ {I:Imm}{p c}{fv:Value}{hsF:List HA},(S4 I p s c)→(FV1 Tryz.prog I hsF fv f0)→RT 154 [vS p s c,fv] I hsF (pF hsF r):=by
 intro s f0 r N I p c fv hsF h h1;unfold uA at N;refine yM Tryz.func154 fun B=>vJ []<|zZ<|yG [7,8] rfl<|xZ<|pJ [(0,vS p s c),(1,fv),(7,vI (s.length:Int)),(8,vI 0)] ?_;obtain ⟨o0,ho0,hMl⟩:=zB N;refine jC s f0 0 o0 ho0 iR h h1 (fun _ _ _ h=>h) (fun _ _ h=>h) ?_ ?_
 · intro I01  heq le1;subst o0;refine zR<|vG [4] rfl<|zI<|yW ?_;obtain rfl:=zC hMl;exact xA ⟨_,_,(.tmp rfl ResV.nil),(fun _ h=>h),⟨_,rfl,rfl,rfl⟩⟩
 intro r0 I9 hs9 m9 heq9 le9 hrs9;subst heq9;refine zW<|zH ?_;obtain rfl:=zC hMl;exact xA hrs9
def kL (hsF:List HA) (r:Bool):KT:=fun kk I' hs' v=>
  ∃ v0,hsF=hs'∧v=tupV [v0]∧v0=.bool r
def xY (s:(List zN)) (f0:(zN→Option Bool)):Option (Bool):=do
 let y←uA s f0
 pure (decide (y ≥ 0))
theorem jD:∀ s f0 r,xY s f0=some r→∀ {I:Imm}{p c}{fv:Value}{hsF:List HA},(S4 I p s c)→(FV1 Tryz.prog I hsF fv f0)→RT 103 [vS p s c,fv] I hsF (kL hsF r):=by
 intro s f0 r N I p c fv hsF h h1;unfold xY at N;refine yM Tryz.func103 fun B=>vJ []<|yV<|yB 2 [] [5,6] rfl<|bE N fun y hy N=>zE9 (hs1:=hsF) (rest:=[]) rfl rfl rfl rfl (by kernel_rfl) rfl (List.append_nil _).symm (jU s f0 _ hy h h1) ?_;rintro I0 hs2 v2 k2 le - ⟨v0,rfl,rfl,rfl⟩ -;refine vH (hs':=hsF) (List.append_nil _) ?_;refine yJ [] [4] rfl<|zI<|yW ?_;obtain rfl:=zC N;exact xA ⟨_,_,(.tmp rfl ResV.nil),(fun _ h=>h),⟨_,rfl,rfl,rfl⟩⟩
def qQ (s:zA) (x:Int):Option (Bool):=do
 let t3←(do
   let y←qA s
   if (!y) then
    pure true
   else
    let y1←sZ s
    pure (decide (y1 > x))
     : Option Bool)
 pure (id t3)
theorem zDI:∀ s x r,qQ s x=some r→∀ {I:Imm}{p c}{ad:Addr},(S4 I p s.Coefs c)→(At I ad [vI x])→RT 197 [vA (cAff s p c),.pointer (some ad)] I [] (zU  r):=by
 intro s x r N I p c ad h hat;unfold qQ at N;refine yM Tryz.func197 fun B=>?_;have H:=iS I;refine yF<|vX (cAff s p c) ?_;intro b hb;refine wG [] []<|zI<|yC ?_;refine wE N [] (fun t3=>[(3,.bool t3)]) (fun o0 ho0=>?_) ?_
 · have H:=iS I;obtain ⟨y,hy,N⟩:=zB ho0;cases hc:(!y) with
   | true =>
    have hM0:=wV hc N;refine wA [.p (vA (cAff s p c)) [0],.q (.bool y),.q vY,.q vY,.p undef [],.p undef [],.p undef [],.p undef [],.p vY []] [[],[(0,false)],[(1,false)],[(2,false)],[(3,false)],[(3,false),(4,false)],[(3,false)],[(3,false),(5,false),(6,false)],[(3,false),(7,false)]] [hB b (cAff s p c)] [] [(8,false)] (zY [0]) ?_ ?_
    · refine Op<|Oq ?_<|Oq ?_<|Oq ?_<|Op<|Op<|Op<|Op<|Op<|On
      · intro I1 hf le1;refine yN [4] rfl ?_;have H:=iS I1;have h:=h.mono le1;refine vZ (nC s _ hy h) ?_;intro I01 le;have H:=H.trans le;exact yP H
      · intro I1 hf le1;refine yN [5] rfl<|tM 3 [(6,.bool (!y))] ?_;rw [hc];exact yP iR
      intro I1 hf le1;exact gY [(6,vY)]<|tM 4 [(7,vY)]<|yP iR
    intro I02 le1;refine gY [(12,vY)] ?_;have H:=H.trans le1;exact wG [] [(3,vY)]<|xT zQ<|yQ<|zT (ct hM0 H)
   | false =>
    have hM01:=wB hc N;obtain ⟨y1,hy1,N⟩:=zB hM01;refine wA [.p (vA (cAff s p c)) [0],.q (.bool y),.q vF,.q vF,.p (vA (cAff s p c)) [0],.q (vI y1),.q (vI x),.p (.bool (decide (y1 > x))) [],.p (.bool (decide (y1 > x))) []] [[],[(0,false)],[(1,false)],[(2,false)],[(3,false)],[(3,false),(4,false)],[(3,false)],[(3,false),(5,false),(6,false)],[(3,false),(7,false)]] [hB b (cAff s p c)] [] [(8,false)] (zY [0]) ?_ ?_
    · refine Op<|Oq ?_<|Oq ?_<|Oq ?_<|Op<|Oq ?_<|Oq ?_<|Op<|Op<|On
      · intro I1 hf le1;refine yN [4] rfl ?_;have H:=iS I1;have h:=h.mono le1;refine vZ (nC s _ hy h) ?_;intro I01 le;have H:=H.trans le;exact yP H
      · intro I1 hf le1;refine yN [5] rfl<|tM 3 [(6,.bool (!y))] ?_;rw [hc];exact yP iR
      · intro I1 hf le1;exact gY [(6,vF)]<|tM 4 [(7,vF)]<|yP iR
      · intro I1 hf le1;refine yN [7,8] rfl ?_;have H:=iS I1;have h:=h.mono le1;refine gS (jZ s _ hy1 h) ?_;intro I03 le2;have H:=H.trans le2;exact yP H
      intro I1 hf le1;refine yN [1,7] rfl ?_;have hat:=hat.mono le1;exact yX 0 hat [vI x] (vI x) rfl<|yP iR
    intro I04 le3;refine yN [12] rfl ?_;have H:=H.trans le3;exact yJ [] [3] rfl<|xT zQ<|yQ<|zT (ct N H)
 intro t3 I0 le4 hMc;refine zI<|yW ?_;obtain rfl:=zC hMc;exact wP
def nY (a0:zJ) (depth:Int):Option (Bool):=do
 let t4←(do
   let y←kH a0.Array
   if y then
    let y1←wK (a0.Subs.length:Int) 1 2
    if y1 then
     let y2←xL a0.Subs (fun x0=>qQ x0 depth)
     pure (!y2)
    else
     pure false
   else
    pure false
     : Option Bool)
 pure (id t4)
theorem zAu:∀ a0 depth r,nY a0 depth=some r→∀ {I:Imm}{p c},(S4 I p a0.Subs c)→RT 155 [vA (cAccess a0 p c),vI depth] I [] (zU  r):=by
 intro a0 depth r N I p c h;unfold nY at N;refine yM Tryz.func155 fun B=>?_;have H:=iS I;refine yF<|vX (cAccess a0 p c) ?_;intro b hb;refine vX [vI depth] ?_;intro b1 hb1;refine xP 0 rfl ?_;intro I0 le hl0;have hat:At I0 ⟨b1,0,none⟩ [vI depth]:=At.of_blk hl0;have ⟨h,H⟩:=m2 le h H;refine wG [] []<|zI<|yC ?_;refine wE N [] (fun t4=>[(4,.bool t4)]) (fun o0 ho0=>?_) ?_
 · have H:=iS I0;refine zK<|yB 2 [0] [6] rfl ?_;obtain ⟨y,hy,N⟩:=zB ho0;refine vZ (oW a0.Array _ hy ) ?_;intro I02 le1;have ⟨hat,h,H⟩:=m3 le1 hat h H;refine yB 4 [] [8] rfl<|xW [8] N ?_ ?_
   · intro hc N;refine yB 7 [0] [11] rfl<|bE N fun y1 hy1 N=>vZ (vK (a0.Subs.length:Int) 1 2 _ hy1 ) ?_;intro I03 le2;have ⟨hat,h,H⟩:=m3 le2 hat h H;refine yB 10 [] [14] rfl<|xW [14] N ?_ ?_
     · intro hc1 N;refine yB 13 [0] [16,17] rfl ?_;have hf0:FV1 Tryz.prog I03 [] (.func (.func 197) ⟨[]⟩ ⟨[vP b1 0]⟩) (fun x0=>qQ x0 depth):=by
         refine FV1.intro ?_;intro I1 le1 x0 r u0 hF k0;obtain ⟨_,rfl,k0⟩:=k0;obtain ⟨p1,c1,rfl,h3⟩:=yL k0;exact (zDI x0 depth r hF h3 (hat.mono le1)).mono (by rintro k i hs u ⟨v0,rfl,rfl,h⟩; exact ⟨rfl,h⟩)
       obtain ⟨y2,hy2,N⟩:=zB N;refine xQ (rM a0.Subs (fun x0=>qQ x0 depth) _ hy2 h hf0) ?_;rintro I04 hs2 v2 k2 le3 - ⟨v03,rfl,rfl,rfl⟩ -;have H:=H.trans le3;exact yJ [] [4] rfl<|xT zQ<|yQ<|zT (ct N H)
     intro hc1 N;exact wG [] [(4,vF)]<|xT zQ<|yQ<|zT (ct N H)
   intro hc N;exact wG [] [(4,vF)]<|xT zQ<|yQ<|zT (ct N H)
 intro t4 I01 le4 hMc;refine zI<|yW ?_;obtain rfl:=zC hMc;exact wP
def mA (a0:zA):Option (Bool):=do
 let t2←(do
   if ((a0.Coefs.length:Int) == 0) then
    pure (a0.Const == 0)
   else
    pure false
     : Option Bool)
 pure (id t2)
theorem zAv:∀ a0 r,mA a0=some r→∀ {I:Imm}{p c},(S4 I p a0.Coefs c)→RT 200 [vA (cAff a0 p c)] I [] (zU  r):=by
 intro a0 r N I p c h;unfold mA at N;refine yM Tryz.func200 fun B=>?_;have H:=iS I;refine yF<|vX (cAff a0 p c) ?_;intro b hb;refine wG [] []<|zI<|yC ?_;refine wE N [] (fun t2=>[(2,.bool t2)]) (fun o0 ho0=>?_) ?_
 · have H:=iS I;refine zK<|yB 5 [0] [7] rfl<|xW [7] ho0 ?_ ?_
   · intro hc N;exact yJ [0] [2] rfl<|xT zQ<|yQ<|zT (ct N H)
   intro hc N;exact wG [] [(2,vF)]<|xT zQ<|yQ<|zT (ct N H)
 intro t2 I0 le hMc;refine zI<|yW ?_;obtain rfl:=zC hMc;exact wP
def pG (a0:zJ):Option (Bool):=do
 let t2←(do
   if (a0.Array.l == ([]:List UInt8)) then
    pure ((a0.Subs.length:Int) == 0)
   else
    pure false
     : Option Bool)
 pure (id t2)
theorem gT:∀ a0 r,pG a0=some r→∀ {I:Imm}{p c},(S4 I p a0.Subs c)→RT 201 [vA (cAccess a0 p c)] I [] (zU  r):=by
 intro a0 r N I p c h;unfold pG at N;refine yM Tryz.func201 fun B=>?_;have H:=iS I;refine yF<|vX (cAccess a0 p c) ?_;intro b hb;refine wG [] []<|zI<|yC ?_;refine wE N [] (fun t2=>[(2,.bool t2)]) (fun o0 ho0=>?_) ?_
 · have H:=iS I;refine zK<|yB 4 [0] [6] rfl<|xW [6] ho0 ?_ ?_
   · intro hc N;exact yJ [0] [2] rfl<|xT zQ<|yQ<|zT (ct N H)
   intro hc N;exact wG [] [(2,vF)]<|xT zQ<|yQ<|zT (ct N H)
 intro t2 I0 le hMc;refine zI<|yW ?_;obtain rfl:=zC hMc;exact wP
def dC (kind:Int):Option (Bool):=do
 let y←wK kind 4 6
 pure (id y)
theorem zHp:∀ kind r,dC kind=some r→∀ {I:Imm} ,RT 202 [vI kind] I [] (zU  r):=by
 intro kind r N I;unfold dC at N;refine yM Tryz.func202 fun B=>vJ []<|yV<|yB 1 [] [3] rfl<|bE N fun y hy N=>vZ (vK kind 4 6 _ hy ) fun I0 le=>yJ [] [2] rfl<|zI<|yW ?_;obtain rfl:=zC N;exact wP
def zDJ (b0:Nat) (r:Bool×Int):KT:=fun kk I' hs' v=>
  ∃ v0 k0,hs'=[.blk b0 ⟨k0⟩]∧v=tupV [v0]∧v0=.bool r.1∧Rp.rep I' k0 r.2
def uK (e0:zG) (depth:Int) (deep:Int) (count:Int):Option (Bool×Int):=do
 let t21←(do
   if (decide ((W (count + 1)) > 12)) then
    pure true
   else
    pure (decide (deep > 5))
     : Option Bool)
 if t21 then
  pure (false,(W (count + 1)))
 else
  let t51←(do
    if (e0.Kind != 1) then
     if (e0.Num != 0) then
      pure true
     else
      if (e0.Kind != 2) then
       let y←mA e0.Index
       if (!y) then
        pure true
       else
        if (e0.Kind != 3) then
         let y1←pG e0.Read
         pure (!y1)
        else
         pure false
      else
       if (e0.Kind != 3) then
        let y2←pG e0.Read
        pure (!y2)
       else
        pure false
    else
     if (e0.Kind != 2) then
      let y3←mA e0.Index
      if (!y3) then
       pure true
      else
       if (e0.Kind != 3) then
        let y4←pG e0.Read
        pure (!y4)
       else
        pure false
     else
      if (e0.Kind != 3) then
       let y5←pG e0.Read
       pure (!y5)
      else
       pure false
      : Option Bool)
  if t51 then
   pure (false,(W (count + 1)))
  else
   if (e0.Kind == 1) then
    let t8←(do
      let y6←wK e0.Num 0 99
      if y6 then
       pure ((e0.Kids.length:Int) == 0)
      else
       pure false
        : Option Bool)
    pure (t8,(W (count + 1)))
   else
    if (e0.Kind == 2) then
     let t81←(do
       let y7←qA e0.Index
       if y7 then
        let y8←sZ e0.Index
        if (decide (y8 ≤ depth)) then
         pure ((e0.Kids.length:Int) == 0)
        else
         pure false
       else
        pure false
         : Option Bool)
     pure (t81,(W (count + 1)))
    else
     if (e0.Kind == 3) then
      let t82←(do
        let y9←nY e0.Read depth
        if y9 then
         pure ((e0.Kids.length:Int) == 0)
        else
         pure false
          : Option Bool)
      pure (t82,(W (count + 1)))
     else
      let t99←(do
        let y10←dC e0.Kind
        if (!y10) then
         pure true
        else
         pure ((e0.Kids.length:Int) != 2)
          : Option Bool)
      if t99 then
       pure (false,(W (count + 1)))
      else
       let (t83,x)←(do
         let x1←idx e0.Kids 0
         let (y12,y13)←uK (same x1) (same depth) (W (deep + 1)) (W (count + 1))
         if y12 then
          let x2←idx e0.Kids 1
          let (y15,y16)←uK (same x2) (same depth) (W (deep + 1)) (same y13)
          pure (y15,y16)
         else
          pure (false,y13)
           : Option (Bool×Int))
       pure (t83,x)
 partial_fixpoint
theorem zEk:∀ e0 depth deep count r,uK e0 depth deep count=some r→∀ {I:Imm}{p c p1 c1 p2 c2}{r0:Nat},(S4 I p e0.Index.Coefs c)→(S4 I p1 e0.Read.Subs c1)→(S4 I p2 e0.Kids c2)→RT 156 [vA (cExpr e0 p c p1 c1 p2 c2),vI depth,vI deep,vP r0 0] I [hB r0 [vI count]] (zDJ r0 r):=by
 refine uK.partial_correctness _ fun F_impl_exprScan ih_impl_exprScan e0 depth deep count r N I p c p1 c1 p2 c2 r0 h h1 h2=>yM Tryz.func156 fun B=>?_;have H:=iS I;refine yF<|vX (cExpr e0 p c p1 c1 p2 c2) ?_;intro b hb;refine wG [] []<|yV<|yB 5 [1] [12,13] rfl<|xI 1 [vI (W (count + 1))] rfl<|yA rfl<|zZ<|yC ?_;refine wE N [hB b (cExpr e0 p c p1 c1 p2 c2),hB r0 [vI (W (count + 1))]] (fun t21=>[(1,vI depth),(2,vI deep),(3,vP r0 0),(4,vP b 0),(21,.bool t21)]) (fun o0 ho0=>?_) ?_
 · have H:=iS I;refine zK<|yB 5 [1] [18] rfl<|xW [18] ho0 ?_ ?_
   · intro hc N;exact wG [] [(21,vY)]<|yQ<|zT (ct N H)
   intro hc N;exact yJ [] [21] rfl<|yQ<|zT (ct N H)
 intro t21 I0 le hMc;have ⟨h,h1,h2,H⟩:=m4 le h h1 h2 H;refine zI<|yE hMc ?_ ?_
 · intro hc1 N;refine vJ [(8,vF)]<|xG<|zH ?_;obtain rfl:=zC N;exact xA ⟨_,_,(.tmp rfl ResV.nil),(zX [1] rfl (by decide)),⟨_,_,rfl,rfl,rfl,rfl⟩⟩
 intro hc1 N;refine zS<|zZ<|yC ?_;refine wE N [hB b (cExpr e0 p c p1 c1 p2 c2),hB r0 [vI (W (count + 1))]] (fun t51=>[(1,vI depth),(2,vI deep),(3,vP r0 0),(4,vP b 0),(51,.bool t51)]) (fun o01 ho01=>?_) ?_
 · have H:=iS I0;refine zK<|yB 4 [0] [25] rfl<|xW [25] ho01 ?_ ?_
   · intro hc2 N;refine yB 9 [0] [30] rfl<|xW [30] N ?_ ?_
     · intro hc3 N;exact wG [] [(51,vY)]<|yQ<|zT (ct N H)
     intro hc3 N;refine yB 13 [0] [34] rfl<|xW [34] N ?_ ?_
     · intro hc4 N;refine yB 15 [0] [36] rfl<|bE N fun y hy N=>vZ (zAv e0.Index _ hy h) ?_;intro I02 le1;have ⟨h1,H⟩:=m2 le1 h1 H;refine yB 20 [] [41] rfl<|xW [41] N ?_ ?_
       · intro hc5 N;exact wG [] [(51,vY)]<|yQ<|zT (ct N H)
       intro hc5 N;refine yB 24 [0] [45] rfl<|xW [45] N ?_ ?_
       · intro hc6 N;refine yB 26 [0] [47] rfl<|bE N fun y1 hy1 N=>vZ (gT e0.Read _ hy1 h1) ?_;intro I03 le2;have H:=H.trans le2;exact yJ [] [51] rfl<|yQ<|zT (ct N H)
       intro hc6 N;exact wG [] [(51,vF)]<|yQ<|zT (ct N H)
     intro hc4 N;refine yB 24 [0] [41,45] rfl<|xW [45] N ?_ ?_
     · intro hc7 N;refine yB 26 [0] [47] rfl<|bE N fun y2 hy2 N=>vZ (gT e0.Read _ hy2 h1) ?_;intro I04 le3;have H:=H.trans le3;exact yJ [] [51] rfl<|yQ<|zT (ct N H)
     intro hc7 N;exact wG [] [(51,vF)]<|yQ<|zT (ct N H)
   intro hc2 N;refine yB 13 [0] [30,34] rfl<|xW [34] N ?_ ?_
   · intro hc8 N;refine yB 15 [0] [36] rfl<|bE N fun y3 hy3 N=>vZ (zAv e0.Index _ hy3 h) ?_;intro I05 le4;have ⟨h1,H⟩:=m2 le4 h1 H;refine yB 20 [] [41] rfl<|xW [41] N ?_ ?_
     · intro hc9 N;exact wG [] [(51,vY)]<|yQ<|zT (ct N H)
     intro hc9 N;refine yB 24 [0] [45] rfl<|xW [45] N ?_ ?_
     · intro hc10 N;refine yB 26 [0] [47] rfl<|bE N fun y4 hy4 N=>vZ (gT e0.Read _ hy4 h1) ?_;intro I06 le5;have H:=H.trans le5;exact yJ [] [51] rfl<|yQ<|zT (ct N H)
     intro hc10 N;exact wG [] [(51,vF)]<|yQ<|zT (ct N H)
   intro hc8 N;refine yB 24 [0] [41,45] rfl<|xW [45] N ?_ ?_
   · intro hc11 N;refine yB 26 [0] [47] rfl<|bE N fun y5 hy5 N=>vZ (gT e0.Read _ hy5 h1) ?_;intro I07 le6;have H:=H.trans le6;exact yJ [] [51] rfl<|yQ<|zT (ct N H)
   intro hc11 N;exact wG [] [(51,vF)]<|yQ<|zT (ct N H)
 intro t51 I01 le7 hMc1;have ⟨h,h1,h2,H⟩:=m4 le7 h h1 h2 H;refine zI<|yE hMc1 ?_ ?_
 · intro hc12 N;refine vJ [(8,vF)]<|xG<|zH ?_;obtain rfl:=zC N;exact xA ⟨_,_,(.tmp rfl ResV.nil),(zX [1] rfl (by decide)),⟨_,_,rfl,rfl,rfl,rfl⟩⟩
 intro hc12 N;refine zS<|zZ<|yH<|yF<|yJ [0] [52] rfl<|zI<|yE N ?_ ?_
 · intro hc13 N;refine yC ?_;refine wE N [hB r0 [vI (W (count + 1))]] (fun t8=>[(8,.bool t8)]) (fun o02 ho02=>?_) ?_
   · have H:=iS I01;refine zK<|yB 2 [0] [57] rfl ?_;obtain ⟨y6,hy6,N⟩:=zB ho02;refine vZ (vK e0.Num 0 99 _ hy6 ) ?_;intro I09 le8;have H:=H.trans le8;refine yB 4 [] [59] rfl<|xW [59] N ?_ ?_
     · intro hc14 N;exact yJ [0] [8] rfl<|xT (zX [1] rfl (by decide))<|yQ<|zT (ct N H)
     intro hc14 N;exact wG [] [(8,vF)]<|xT (zX [1] rfl (by decide))<|yQ<|zT (ct N H)
   intro t8 I08 le9 hMc2;refine xG<|zW<|zH ?_;obtain rfl:=zC hMc2;exact xA ⟨_,_,(.tmp rfl ResV.nil),(zX [0] rfl (by decide)),⟨_,_,rfl,rfl,rfl,rfl⟩⟩
 intro hc13 N;refine yF<|yJ [0] [65] rfl<|zI<|yE N ?_ ?_
 · intro hc15 N;refine yC ?_;refine wE N [hB r0 [vI (W (count + 1))]] (fun t81=>[(8,.bool t81)]) (fun o03 ho03=>?_) ?_
   · have H:=iS I01;refine zK<|yB 2 [0] [70] rfl ?_;obtain ⟨y7,hy7,N⟩:=zB ho03;refine vZ (nC e0.Index _ hy7 h) ?_;intro I011 le10;have ⟨h,H⟩:=m2 le10 h H;refine yB 4 [] [72] rfl<|xW [72] N ?_ ?_
     · intro hc16 N;refine yB 6 [0] [74] rfl<|bE N fun y8 hy8 N=>gS (jZ e0.Index _ hy8 h) ?_;intro I012 le11;have H:=H.trans le11;refine yB 11 [] [79] rfl<|xW [79] N ?_ ?_
       · intro hc17 N;exact yJ [0] [8] rfl<|xT (zX [1] rfl (by decide))<|yQ<|zT (ct N H)
       intro hc17 N;exact wG [] [(8,vF)]<|xT (zX [1] rfl (by decide))<|yQ<|zT (ct N H)
     intro hc16 N;exact wG [] [(8,vF)]<|xT (zX [1] rfl (by decide))<|yQ<|zT (ct N H)
   intro t81 I010 le12 hMc3;refine xG<|zW<|zH ?_;obtain rfl:=zC hMc3;exact xA ⟨_,_,(.tmp rfl ResV.nil),(zX [0] rfl (by decide)),⟨_,_,rfl,rfl,rfl,rfl⟩⟩
 intro hc15 N;refine yF<|yJ [0] [85] rfl<|zI<|yE N ?_ ?_
 · intro hc18 N;refine yC ?_;refine wE N [hB r0 [vI (W (count + 1))]] (fun t82=>[(8,.bool t82)]) (fun o04 ho04=>?_) ?_
   · have H:=iS I01;refine zK<|yB 3 [0] [90,91] rfl ?_;obtain ⟨y9,hy9,N⟩:=zB ho04;refine vZ (zAu e0.Read depth _ hy9 h1) ?_;intro I014 le13;have H:=H.trans le13;refine yB 5 [] [93] rfl<|xW [93] N ?_ ?_
     · intro hc19 N;exact yJ [0] [8] rfl<|xT (zX [1] rfl (by decide))<|yQ<|zT (ct N H)
     intro hc19 N;exact wG [] [(8,vF)]<|xT (zX [1] rfl (by decide))<|yQ<|zT (ct N H)
   intro t82 I013 le14 hMc4;refine xG<|zW<|zH ?_;obtain rfl:=zC hMc4;exact xA ⟨_,_,(.tmp rfl ResV.nil),(zX [0] rfl (by decide)),⟨_,_,rfl,rfl,rfl,rfl⟩⟩
 intro hc18 N;refine yC ?_;refine wE N [hB b (cExpr e0 p c p1 c1 p2 c2),hB r0 [vI (W (count + 1))]] (fun t99=>[(1,vI depth),(2,vI deep),(3,vP r0 0),(4,vP b 0),(99,.bool t99)]) (fun o05 ho05=>?_) ?_
 · have H:=iS I01;refine zK<|yB 2 [0] [101] rfl ?_;obtain ⟨y10,hy10,N⟩:=zB ho05;refine vZ (zHp e0.Kind _ hy10 ) ?_;intro I016 le15;have H:=H.trans le15;refine yB 5 [] [104] rfl<|xW [104] N ?_ ?_
   · intro hc20 N;exact wG [] [(99,vY)]<|yQ<|zT (ct N H)
   intro hc20 N;exact yJ [0] [99] rfl<|yQ<|zT (ct N H)
 intro t99 I015 le16 hMc5;have ⟨h2,H⟩:=m2 le16 h2 H;refine zI<|yE hMc5 ?_ ?_
 · intro hc21 N;refine vJ [(8,vF)]<|xG<|zW<|zH ?_;obtain rfl:=zC N;exact xA ⟨_,_,(.tmp rfl ResV.nil),(zX [1] rfl (by decide)),⟨_,_,rfl,rfl,rfl,rfl⟩⟩
 intro hc21 N;refine zS<|zP<|zI<|yC ?_;obtain ⟨o06,ho06,hMc6⟩:=zB N;refine qL (fun I' hs' m'=>∃ (t83:Bool) (x:Int),o06=(t83,x)∧I015.le I'∧hs'=[hB r0 [vI x]]∧m'=[(8,.bool t83)]) ?_ ?_
 · have H:=iS I015;refine zK<|yB 2 [0] [111] rfl ?_;obtain ⟨x1,hy11,N⟩:=zB ho06;refine xJ rfl rfl h2 hy11 ?_;intro ad ccs hat hrep;obtain ⟨p3,c3,p4,c4,p5,c5,rfl,h14,h15,h16⟩:=xS hrep;refine yX 0 hat (cExpr x1 p3 c3 p4 c4 p5 c5) (vA (cExpr x1 p3 c3 p4 c4 p5 c5)) rfl<|yB 8 [] [114,116,117] rfl<|sD (zY [1,0] (hs':=[hB r0 [vI (W (count + 1))],hB b (cExpr e0 p c p1 c1 p2 c2)])) ?_;obtain ⟨⟨y12,y13⟩,hy12,N⟩:=zB N;refine sE (ih_impl_exprScan x1 depth (W (deep + 1)) (W (count + 1)) _ hy12 h14 h15 h16) rfl ?_;rintro I018 hs2 v2 k2 le17 - ⟨v014,kk,rfl,rfl,rfl,h18⟩ -;have ⟨h2,H⟩:=m2 le17 h2 H;obtain rfl:=h18;refine yB 10 [] [119] rfl<|xW [119] N ?_ ?_
   · intro hc22 N;refine yB 12 [1] [121] rfl<|bE N fun x2 hy13 N=>xJ rfl rfl h2 hy13 ?_;intro ad1 ccs1 hat1 hrep1;obtain ⟨p6,c6,p7,c7,p8,c8,rfl,h19,h20,h21⟩:=xS hrep1;refine yX 0 hat1 (cExpr x2 p6 c6 p7 c7 p8 c8) (vA (cExpr x2 p6 c6 p7 c7 p8 c8)) rfl<|yB 18 [] [124,126,127] rfl ?_;obtain ⟨⟨y15,y16⟩,hy14,N⟩:=zB N;refine sE (ih_impl_exprScan x2 depth (W (deep + 1)) y13 _ hy14 h19 h20 h21) rfl ?_;rintro I019 hs2 v2 k2 le18 - ⟨v018,kk1,rfl,rfl,rfl,h23⟩ -;have H:=H.trans le18;obtain rfl:=h23;exact yJ [] [8] rfl<|xT (zX [0] rfl (by decide))<|yQ<|zT ⟨_,_,(zC N).symm,H,rfl,rfl⟩
   intro hc22 N;exact wG [] [(8,vF)]<|xT (zX [0] rfl (by decide))<|yQ<|zT ⟨_,_,(zC N).symm,H,rfl,rfl⟩
 rintro I017 hs2 m2 ⟨t83,x,heq6,le19,rfl,rfl⟩;subst o06;refine zI<|yW ?_;obtain rfl:=zC hMc6;exact xA ⟨_,_,(.tmp rfl ResV.nil),(zX [0] rfl (by decide)),⟨_,_,rfl,rfl,rfl,rfl⟩⟩
def kM (s:zN) (depth:Int):Option (Bool):=do
 let t4←(do
   let y←wK depth 0 4
   if y then
    let y1←nY s.Write depth
    if y1 then
     let (y3,y4)←uK s.Value depth 1 0
     pure (id y3)
    else
     pure false
   else
    pure false
     : Option Bool)
 pure (id t4)
theorem zDk:∀ s depth r,kM s depth=some r→∀ {I:Imm}{p c p1 c1 p2 c2 p3 c3},(S4 I p s.Write.Subs c)→(S4 I p1 s.Value.Index.Coefs c1)→(S4 I p2 s.Value.Read.Subs c2)→(S4 I p3 s.Value.Kids c3)→RT 105 [vA (cStmt s p c p1 c1 p2 c2 p3 c3),vI depth] I [] (zU  r):=by
 intro s depth r N I p c p1 c1 p2 c2 p3 c3 h h1 h2 h3;unfold kM at N;refine yM Tryz.func105 fun B=>?_;have H:=iS I;refine yF<|vX (cStmt s p c p1 c1 p2 c2 p3 c3) ?_;intro b hb;refine wG [] []<|yV<|wH [vI 0] ?_;intro b1 hb1;refine xI 0 [vI 0] rfl<|yA rfl<|zI<|yC ?_;refine wE N [] (fun t4=>[(4,.bool t4)]) (fun o0 ho0=>?_) ?_
 · have H:=iS I;refine zK<|yB 1 [] [6] rfl ?_;obtain ⟨y,hy,N⟩:=zB ho0;refine vZ (vK depth 0 4 _ hy ) ?_;intro I01 le;have ⟨h,h1,h2,h3,H⟩:=m5 le h h1 h2 h3 H;refine yB 3 [] [8] rfl<|xW [8] N ?_ ?_
   · intro hc N;refine yB 6 [1] [10,11] rfl<|bE N fun y1 hy1 N=>vZ (zAu s.Write depth _ hy1 h) ?_;intro I02 le1;have ⟨h1,h2,h3,H⟩:=m4 le1 h1 h2 h3 H;refine yB 9 [] [14] rfl<|xW [14] N ?_ ?_
     · intro hc1 N;refine yB 12 [1] [16,17] rfl ?_;obtain ⟨⟨y3,y4⟩,hy2,N⟩:=zB N;refine sE (zEk s.Value depth 1 0 _ hy2 h1 h2 h3) rfl ?_;rintro I03 hs2 v2 k2 le2 - ⟨v02,kk,rfl,rfl,rfl,h7⟩ -;have H:=H.trans le2;obtain rfl:=h7;exact yJ [] [4] rfl<|xT zQ<|yQ<|zT (ct N H)
     intro hc1 N;exact wG [] [(4,vF)]<|xT zQ<|yQ<|zT (ct N H)
   intro hc N;exact wG [] [(4,vF)]<|xT zQ<|yQ<|zT (ct N H)
 intro t4 I0 le3 hMc;refine zI<|yW ?_;obtain rfl:=zC hMc;exact wP
def vL (s:zN) (x:zM):Option (Bool):=do
 let y←kM s (x.Nest.length:Int)
 pure (!y)
theorem dZ:∀ s x r,vL s x=some r→∀ {I:Imm}{p c p1 c1 p2 c2 p3 c3}{ad:Addr}{p4 c4 p5 c5},(S4 I p s.Write.Subs c)→(S4 I p1 s.Value.Index.Coefs c1)→(S4 I p2 s.Value.Read.Subs c2)→(S4 I p3 s.Value.Kids c3)→(S4 I p4 x.Nest c4)→(S4 I p5 x.Body c5)→(At I ad (cPart x p4 c4 p5 c5))→RT 104 [vA (cStmt s p c p1 c1 p2 c2 p3 c3),.pointer (some ad)] I [] (zU  r):=by
 intro s x r N I p c p1 c1 p2 c2 p3 c3 ad p4 c4 p5 c5 h h1 h2 h3 h4 h5 hat;unfold vL at N;refine yM Tryz.func104 fun B=>yF<|vX (cStmt s p c p1 c1 p2 c2 p3 c3) ?_;intro b hb;refine wG [] []<|yV<|yB 2 [0] [4,5] rfl<|yX 0 hat [vS p4 x.Nest c4] (vS p4 x.Nest c4) rfl<|yB 4 [] [7] rfl<|bE N fun y hy N=>vZ (zDk s (x.Nest.length:Int) _ hy h h1 h2 h3) fun I0 le=>yJ [] [3] rfl<|zI<|yW ?_;obtain rfl:=zC N;exact wP
def pP (n0:Int):Option (Bool):=do
 let y←wK n0 (-9999) 9999
 pure (!y)
theorem zDl:∀ n0 r,pP n0=some r→∀ {I:Imm} ,RT 157 [vI n0] I [] (zU  r):=by
 intro n0 r N I;unfold pP at N;refine yM Tryz.func157 fun B=>vJ []<|yV<|yB 1 [] [3] rfl<|bE N fun y hy N=>vZ (vK n0 (-9999) 9999 _ hy ) fun I0 le=>yJ [] [2] rfl<|zI<|yW ?_;obtain rfl:=zC N;exact wP
def gA (point:(List Int)):Option (Bool):=do
 let t2←(do
   if (decide ((point.length:Int) ≤ 4)) then
    let y←xO point pP
    pure (!y)
   else
    pure false
     : Option Bool)
 pure (id t2)
theorem zF2:∀ point r,gA point=some r→∀ {I:Imm}{p c},(S4 I p point c)→RT 106 [vS p point c] I [] (zU  r):=by
 intro point r N I p c h;unfold gA at N;refine yM Tryz.func106 fun B=>?_;have H:=iS I;refine vJ []<|zI<|yC ?_;refine wE N [] (fun t2=>[(2,.bool t2)]) (fun o0 ho0=>?_) ?_
 · have H:=iS I;refine zK<|yB 4 [] [6] rfl<|xW [6] ho0 ?_ ?_
   · intro hc N;refine yB 5 [] [7] rfl ?_;have hf0:FV1 Tryz.prog I [] (.func (.func 157) ⟨[]⟩ ⟨[]⟩) pP:=by
       refine FV1.intro ?_;intro I1 le1 x0 r u0 hF k0;obtain rfl:=k0;exact (zDl x0 r hF ).mono (by rintro k i hs u ⟨v0,rfl,rfl,h⟩; exact ⟨rfl,h⟩)
     obtain ⟨y,hy,N⟩:=zB N;refine xQ (sO point pP _ hy h hf0) ?_;rintro I01 hs2 v2 k2 le - ⟨v0,rfl,rfl,rfl⟩ -;have H:=H.trans le;exact yJ [] [2] rfl<|yQ<|zT (ct N H)
   intro hc N;exact wG [] [(2,vF)]<|yQ<|zT (ct N H)
 intro t2 I0 le1 hMc;refine zI<|yW ?_;obtain rfl:=zC hMc;exact wP
def rY (hsF:List HA) (r:Int):KT:=fun kk I' hs' v=>
  ∃ v0,hsF=hs'∧v=tupV [v0]∧v0=.int .i64 r
def xD (s:(List zJ)) (f0:(zJ→Option Bool)) (t8:Int):Option (Out Unit (Int)):=do
 if (decide (t8 < (s.length:Int))) then
  let x←idx s t8
  let y←f0 x
  if y then
   pure (.ret t8)
  else
   xD s f0 (W (t8 + 1))
 else
  pure (.done ())
 partial_fixpoint
theorem mT (s:(List zJ)) (f0:(zJ→Option Bool)):∀ (t8:Int) (o:Out Unit (Int)),xD s f0 t8=some o→∀ {B}{I0 I:Imm}{Q p c}{fv:Value}{hsF:List HA},I0.le I→(S4 I p s c)→(FV1 Tryz.prog I hsF fv f0)→NG Q→NO Q→(∀ (I':Imm) ,o=(.done ())→I0.le I'→T 19 B Q (.exit 0) I' hsF [])→(∀ r I' hs' m',o=(.ret r)→I0.le I'→RS Tryz.prog Tryz.f162 B (rY hsF r) I' hs' m'→T 19 B Q .ret I' hs' m')→J Tryz.prog 19 B (nav (bodyOf Tryz.f162) [1,0,1,0]) Q I hsF [(0,vS p s c),(1,fv),(7,vI (s.length:Int)),(8,vI t8)]:=by
 refine xD.partial_correctness s f0 _ fun self ih t8 o N B I0 I Q p c fv hsF H h h1 hg ho hx hr=>yT hg ho<|yG [9] rfl<|zZ<|yE N ?_ ?_
 · intro hc N;refine zS<|zZ<|yH<|yG [5] rfl<|yV<|yB 3 [] [11,12,13] rfl<|bE N fun x hy N=>xJ rfl rfl h hy ?_;intro ad ccs hat hrep;obtain ⟨p1,c1,rfl,h2⟩:=qN hrep;refine yX 0 hat (cAccess x p1 c1) (vA (cAccess x p1 c1)) rfl<|bE N fun y hy1 N=>zH7 rfl rfl h1 hy1 ⟨_,rfl,(nN ⟨_,rfl,h2⟩)⟩ (List.append_nil _).symm ?_;rintro I0 v01 le rfl;refine vH (hs':=hsF) (List.append_nil _) ?_;have ⟨h,h1,H⟩:=m3 le h h1 H;refine yA rfl<|zI<|yE N ?_ ?_
   · intro hc1 N;exact yG [4] rfl<|xG<|zW<|zH<|zH<|hr _ _ _ _ (zC N).symm H ⟨_,_,(.tmp rfl ResV.nil),(fun _ h=>h),⟨_,rfl,rfl,rfl⟩⟩
   intro hc1 N;exact zS<|zP<|zI<|zK<|yJ [] [8] rfl<|yS<|nG<|ih (W (t8 + 1)) _ N H h h1 hg ho hx hr
 intro hc N;exact wT<|yQ<|hx _  (zC N).symm H
def wY (s:(List zJ)) (f0:(zJ→Option Bool)):Option (Int):=do
 match←xD s f0 0 with
 | .ret r0=>pure r0
 | .done _ =>
  pure (-1)
theorem kV:∀ s f0 r,wY s f0=some r→∀ {I:Imm}{p c}{fv:Value}{hsF:List HA},(S4 I p s c)→(FV1 Tryz.prog I hsF fv f0)→RT 162 [vS p s c,fv] I hsF (rY hsF r):=by
 intro s f0 r N I p c fv hsF h h1;unfold wY at N;refine yM Tryz.func162 fun B=>vJ []<|zZ<|yG [7,8] rfl<|xZ<|pJ [(0,vS p s c),(1,fv),(7,vI (s.length:Int)),(8,vI 0)] ?_;obtain ⟨o0,ho0,hMl⟩:=zB N;refine mT s f0 0 o0 ho0 iR h h1 (fun _ _ _ h=>h) (fun _ _ h=>h) ?_ ?_
 · intro I01  heq le1;subst o0;refine zR<|vG [4] rfl<|zI<|yW ?_;obtain rfl:=zC hMl;exact xA ⟨_,_,(.tmp rfl ResV.nil),(fun _ h=>h),⟨_,rfl,rfl,rfl⟩⟩
 intro r0 I9 hs9 m9 heq9 le9 hrs9;subst heq9;refine zW<|zH ?_;obtain rfl:=zC hMl;exact xA hrs9
def nV (hsF:List HA) (r:Bool):KT:=fun kk I' hs' v=>
  ∃ v0,hsF=hs'∧v=tupV [v0]∧v0=.bool r
def xM (s:(List zJ)) (f0:(zJ→Option Bool)):Option (Bool):=do
 let y←wY s f0
 pure (decide (y ≥ 0))
theorem rO:∀ s f0 r,xM s f0=some r→∀ {I:Imm}{p c}{fv:Value}{hsF:List HA},(S4 I p s c)→(FV1 Tryz.prog I hsF fv f0)→RT 110 [vS p s c,fv] I hsF (nV hsF r):=by
 intro s f0 r N I p c fv hsF h h1;unfold xM at N;refine yM Tryz.func110 fun B=>vJ []<|yV<|yB 2 [] [5,6] rfl<|bE N fun y hy N=>zE9 (hs1:=hsF) (rest:=[]) rfl rfl rfl rfl (by kernel_rfl) rfl (List.append_nil _).symm (kV s f0 _ hy h h1) ?_;rintro I0 hs2 v2 k2 le - ⟨v0,rfl,rfl,rfl⟩ -;refine vH (hs':=hsF) (List.append_nil _) ?_;refine yJ [] [4] rfl<|zI<|yW ?_;obtain rfl:=zC N;exact xA ⟨_,_,(.tmp rfl ResV.nil),(fun _ h=>h),⟨_,rfl,rfl,rfl⟩⟩
def zBc (r:(List zJ)):KT:=fun kk I' hs' v=>
  ∃ v0,hs'=[]∧v=tupV [v0]∧SL I' v0 r
mutual
def nH (e0:zG):Option ((List zJ)):=do
 if (e0.Kind == 3) then
  pure ([e0.Read]:List zJ)
 else
  let out1←oX (same e0) ([]:List zJ) (same 0)
  pure (id out1)
 partial_fixpoint
def oX (e0:zG) (out:List zJ) (t15:Int):Option (List zJ):=do
 if (decide (t15 < (e0.Kids.length:Int))) then
  let x←idx e0.Kids t15
  let y←nH (same x)
  let out2←app 40 out y
  oX (same e0) (same out2) (W (t15 + 1))
 else
  pure (id out)
 partial_fixpoint
end
theorem zGP:(∀ (e0:zG) r,nH e0=some r→∀ {I:Imm}{p c p1 c1 p2 c2},(S4 I p e0.Index.Coefs c)→(S4 I p1 e0.Read.Subs c1)→(S4 I p2 e0.Kids c2)→RT 111 [vA (cExpr e0 p c p1 c1 p2 c2)] I [] (zBc  r))∧(∀ (e0:zG) (out:List zJ) (t15:Int) o,oX e0 out t15=some o→∀ {B}{I0 I:Imm}{Q p2 c2 p3 c3 cs},I0.le I→(S4 I p2 e0.Kids c2)→(RL I cs out)→NG Q→NO Q→(∀ (I':Imm) (out1:List zJ) (p4:Option Addr) (c4:Nat) (cs1:List Value),o=out1→I0.le I'→(RL I' cs1 out1)→T 25 B Q (.exit 0) I' [hO zJ (vS p4 out1 c4) cs1] [(3,vS p4 out1 c4)])→J Tryz.prog 25 B (nav (bodyOf Tryz.f111) [1,1,1,0,1,0]) Q I [hO zJ (vS p3 out c3) cs] [(3,vS p3 out c3),(13,vS p2 e0.Kids c2),(14,vI (e0.Kids.length:Int)),(15,vI t15)]):=by
  refine nH.mutual_partial_correctness _ _ ?_ ?_
  · intro F_impl_reads_l1 ih_impl_reads_l1 e0 r N I p c p1 c1 p2 c2 h h1 h2;refine yM Tryz.func111 fun B=>yF<|vX (cExpr e0 p c p1 c1 p2 c2) ?_;intro b hb;refine wG [] []<|zZ<|yF<|yJ [0] [8] rfl<|zI<|yE N ?_ ?_
    · intro hc N;refine yF<|yB 2 [0] [10] rfl<|tH (cAccess e0.Read p1 c1) zJ ?_;intro b1 hb1;have h3:RL I (cAccess e0.Read p1 c1) ([e0.Read]:List zJ):=⟨(cAccess e0.Read p1 c1),_,rfl,rfl,(nN ⟨_,rfl,h1⟩),rfl⟩;refine yJ [] [2] rfl<|xG<|zH<|yY 0 rfl ?_;intro I0 le hl0;have h4:=SL.of_frozen hl0 le h3;obtain rfl:=zC N;exact xA ⟨_,_,(.tmp rfl ResV.nil),zQ,⟨_,rfl,rfl,h4⟩⟩
    intro hc N;refine zS<|zF0 [(3,z0)]<|zZ<|yF<|yJ [0] [13,14,15] rfl<|xZ<|kX (zY [] (hs':=[]))<|pJ [(3,z0),(13,vS p2 e0.Kids c2),(14,vI (e0.Kids.length:Int)),(15,vI 0)]<|zAE zJ fun h5=>?_;obtain ⟨o0,ho0,hMl⟩:=zB N;refine ih_impl_reads_l1 e0 ([]:List zJ) 0 o0 ho0 iR h2 h5 (fun _ _ _ h=>h) (fun _ _ h=>h) ?_;intro I02 out1 p4 c4 cs1 heq le2 h7;subst o0;refine zR<|vG [2] rfl<|xG<|yY 0 rfl ?_;intro I03 le3 hl01;have h13:=SL.of_frozen hl01 le3 h7;obtain rfl:=zC hMl;exact xA ⟨_,_,(.tmp rfl ResV.nil),zQ,⟨_,rfl,rfl,h13⟩⟩
  intro F_impl_reads F_impl_reads_l1 ih_impl_reads ih_impl_reads_l1 e0 out t15 o N B I0 I Q p2 c2 p3 c3 cs H h2 h6 hg ho hx;refine yT hg ho<|yG [16] rfl<|zZ<|yE N ?_ ?_
  · intro hc1 N;refine zS<|zZ<|yH<|yF<|bE N fun x hy N=>xJ rfl rfl h2 hy ?_;intro ad ccs hat hrep;obtain ⟨p5,c5,p6,c6,p7,c7,rfl,h8,h9,h10⟩:=xS hrep;refine yX 0 hat (cExpr x p5 c5 p6 c6 p7 c7) (vA (cExpr x p5 c5 p6 c6 p7 c7)) rfl<|wH zExpr ?_;intro b2 hb2;refine xI 0 (cExpr x p5 c5 p6 c6 p7 c7) rfl<|yA rfl<|zI<|zK<|yB 2 [0] [19,20] rfl<|bE N fun y hy1 N=>xQ (ih_impl_reads x _ hy1 h8 h9 h10) ?_;rintro I01 hs2 v2 k2 le1 - ⟨v03,rfl,rfl,h11⟩ -;have ⟨h2,h6,H⟩:=m3 le1 h2 h6 H;obtain ⟨p8,c8,rfl⟩:=h11.form;obtain ⟨ccs1,k0,k01⟩:=h11;have h11:SL I01 (vS p8 y c8) y:=⟨_,k0,k01⟩;obtain ⟨out2,hy2,N⟩:=zB N;exact qI 35 2 1 rfl rfl rfl h6 (.inl k0) k01 hy2 fun p9 c9 cs2 h12=>sD (zY [0,1] (hs':=[hB b2 (cExpr x p5 c5 p6 c6 p7 c7),hO zJ (vS p9 out2 c9) cs2]))<|yJ [] [3] rfl<|zP<|zI<|zK<|yJ [] [15] rfl<|yS<|kX (zX [1] rfl (by decide))<|nG<|ih_impl_reads_l1 e0 out2 (W (t15 + 1)) _ N H h2 h12 hg ho hx
  intro hc1 N;exact wT<|yQ<|hx _ _ _ _ _ (zC N).symm H h6
theorem zAg:∀ e0 r,nH e0=some r→∀ {I:Imm}{p c p1 c1 p2 c2},(S4 I p e0.Index.Coefs c)→(S4 I p1 e0.Read.Subs c1)→(S4 I p2 e0.Kids c2)→RT 111 [vA (cExpr e0 p c p1 c1 p2 c2)] I [] (zBc  r):=zGP.1
def sH (a0:zF) (n0:Int) (t9:Int):Option (Int):=do
 if (decide (t9 < (a0.Dims.length:Int))) then
  let x←idx a0.Dims t9
  sH a0 (W (n0 * x)) (W (t9 + 1))
 else
  pure (id n0)
 partial_fixpoint
theorem zBk (a0:zF):∀ (n0:Int) (t9:Int) (o:Int),sH a0 n0 t9=some o→∀ {B}{I0 I:Imm}{Q p c},I0.le I→(S4 I p a0.Dims c)→NG Q→NO Q→(∀ (I':Imm) (n01:Int),o=n01→I0.le I'→T 18 B Q (.exit 0) I' [] [(3,vI n01)])→J Tryz.prog 18 B (nav (bodyOf Tryz.f203) [1,1,0,1,0]) Q I [] [(3,vI n0),(7,vS p a0.Dims c),(8,vI (a0.Dims.length:Int)),(9,vI t9)]:=by
 refine sH.partial_correctness a0 _ fun self ih n0 t9 o N B I0 I Q p c H h hg ho hx=>yT hg ho<|yG [10] rfl<|zZ<|yE N ?_ ?_
 · intro hc N;refine zS<|zZ<|yH<|yF<|bE N fun x hy N=>xJ rfl rfl h hy ?_;intro ad ccs hat hrep;obtain rfl:=hrep;exact yX 0 hat [vI x] (vI x) rfl<|yJ [] [5] rfl<|zI<|zK<|yJ [] [3] rfl<|zP<|zI<|zK<|yJ [] [9] rfl<|yS<|nG<|ih (W (n0 * x)) (W (t9 + 1)) _ N H h hg ho hx
 intro hc N;exact wT<|yQ<|hx _ _ (zC N).symm H
def mH (a0:zF):Option (Int):=do
 let n01←sH a0 1 0
 pure (id n01)
theorem zDK:∀ a0 r,mH a0=some r→∀ {I:Imm}{p c},(S4 I p a0.Dims c)→RT 203 [vA (cArr a0 p c)] I [] (yK  r):=by
 intro a0 r N I p c h;unfold mH at N;refine yM Tryz.func203 fun B=>yF<|vX (cArr a0 p c) ?_;intro b hb;refine wG [] []<|vG [3] rfl<|zZ<|yF<|yJ [0] [7,8,9] rfl<|xZ<|kX (zY [] (hs':=[]))<|pJ [(3,vI 1),(7,vS p a0.Dims c),(8,vI (a0.Dims.length:Int)),(9,vI 0)] ?_;obtain ⟨o0,ho0,hMl⟩:=zB N;refine zBk a0 1 0 o0 ho0 iR h (fun _ _ _ h=>h) (fun _ _ h=>h) ?_;intro I0 n01 heq le;subst o0;refine zR<|vG [2] rfl<|zI<|yW ?_;obtain rfl:=zC hMl;exact wP
def tK (a0:zJ) (point:(List Int)) (x:zF) (at0:Int) (t40:Int):Option (Out Int (Int)):=do
 if (decide (t40 < (a0.Subs.length:Int))) then
  let x1←idx a0.Subs t40
  let y1←tJ x1 point
  let x2←idx x.Dims t40
  let y2←wK y1 0 (W (x2 - 1))
  if (!y2) then
   pure (.ret (-1))
  else
   let x3←idx x.Dims t40
   tK a0 point x (W ((W (at0 * x3)) + y1)) (W (t40 + 1))
 else
  pure (.done at0)
 partial_fixpoint
theorem zAw (a0:zJ) (point:(List Int)) (x:zF):∀ (at0:Int) (t40:Int) (o:Out Int (Int)),tK a0 point x at0 t40=some o→∀ {B}{I0 I:Imm}{Q}{first:Int}{p3 c2 p4 c3 p5 c4}{b2:Nat},I0.le I→(S4 I p4 point c3)→(S4 I p3 a0.Subs c2)→(S4 I p5 x.Dims c4)→NG Q→NO Q→(∀ (I':Imm) (at01:Int),o=(.done at01)→I0.le I'→T 71 B Q (.exit 2) I' [] [(7,vI first),(10,vI at01)])→(∀ r I' hs' m',o=(.ret r)→I0.le I'→RS Tryz.prog Tryz.f158 B (yK  r) I' hs' m'→T 71 B Q .ret I' hs' m')→J Tryz.prog 71 B (nav (bodyOf Tryz.f158) [1,1,0,1,0,0,1,1,0,0,1,1,1,1,0,1,0]) Q I [hB b2 (cArr x p5 c4)] [(2,vS p4 point c3),(7,vI first),(9,vP b2 0),(10,vI at0),(38,vS p3 a0.Subs c2),(39,vI (a0.Subs.length:Int)),(40,vI t40)]:=by
 refine tK.partial_correctness a0 point x _ fun self ih at0 t40 o N B I0 I Q first p3 c2 p4 c3 p5 c4 b2 H h3 h2 h4 hg ho hx hr=>yT hg ho<|yG [41] rfl<|zZ<|yE N ?_ ?_
 · intro hc3 N;refine zS<|zZ<|yH<|yF<|yB 1 [] [42] rfl<|bE N fun x1 hy2 N=>xJ rfl rfl h2 hy2 ?_;intro ad1 ccs1 hat1 hrep1;obtain ⟨p6,c5,rfl,h6⟩:=yL hrep1;refine yX 0 hat1 (cAff x1 p6 c5) (vA (cAff x1 p6 c5)) rfl<|wH [z0,vI 0] ?_;intro b3 hb3;refine yB 5 [] [11] rfl<|xI 0 (cAff x1 p6 c5) rfl<|yA rfl<|yV<|yB 2 [0] [45,46] rfl<|bE N fun y1 hy3 N=>gS (nD x1 point _ hy3 h6 h3) ?_;intro I01 le1;have ⟨h3,h2,h4,H⟩:=m4 le1 h3 h2 h4 H;refine yJ [] [13] rfl<|zZ<|yF<|yB 4 [1] [48,50,51] rfl<|bE N fun x2 hy4 N=>xJ rfl rfl h4 hy4 ?_;intro ad2 ccs2 hat2 hrep2;obtain rfl:=hrep2;refine yX 0 hat2 [vI x2] (vI x2) rfl<|yB 7 [] [54] rfl<|bE N fun y2 hy5 N=>vZ (vK y1 0 (W (x2 - 1)) _ hy5 ) ?_;intro I02 le2;have ⟨h3,h2,h4,H⟩:=m4 le2 h3 h2 h4 H;refine yJ [] [56] rfl<|zI<|yE N ?_ ?_
   · intro hc4 N;exact yG [6] rfl<|xG<|zH<|zW<|zH<|zH<|hr _ _ _ _ (zC N).symm H ⟨_,_,(.tmp rfl ResV.nil),zQ,⟨_,rfl,rfl,rfl⟩⟩
   intro hc4 N;refine zS<|zI<|zK<|yB 4 [1] [57,59,60] rfl<|bE N fun x3 hy6 N=>xJ rfl rfl h4 hy6 ?_;intro ad3 ccs3 hat3 hrep3;obtain rfl:=hrep3;exact yX 0 hat3 [vI x3] (vI x3) rfl<|yJ [] [10] rfl<|zP<|zI<|zK<|yJ [] [40] rfl<|yS<|kX (zX [1] rfl (by decide))<|nG<|ih (W ((W (at0 * x3)) + y1)) (W (t40 + 1)) _ N H h3 h2 h4 hg ho hx hr
 intro hc3 N;exact wT<|xT zQ<|yQ<|hx _ _ (zC N).symm H
def uB (p:zE) (a0:zJ) (point:(List Int)) (first:Int) (t17:Int):Option (Out Unit (Int)):=do
 if (decide (t17 < (p.Arrays.length:Int))) then
  let x←idx p.Arrays t17
  if (!(x.Name.l == a0.Array.l)) then
   let y←mH x
   uB p a0 point (W (first + y)) (W (t17 + 1))
  else
   if ((a0.Subs.length:Int) != (x.Dims.length:Int)) then
    pure (.ret (-1))
   else
    match←tK a0 point x 0 0 with
    | .ret r0=>pure (.ret r0)
    | .done at01 =>
     pure (.ret (W (first + at01)))
 else
  pure (.done ())
 partial_fixpoint
theorem zAx (p:zE) (a0:zJ) (point:(List Int)):∀ (first:Int) (t17:Int) (o:Out Unit (Int)),uB p a0 point first t17=some o→∀ {B}{I0 I:Imm}{Q p1 c p3 c2 p4 c3}{b1:Nat},I0.le I→(S4 I p4 point c3)→(S4 I p1 p.Arrays c)→(S4 I p3 a0.Subs c2)→NG Q→NO Q→(∀ (I':Imm) ,o=(.done ())→I0.le I'→T 71 B Q (.exit 0) I' [] [])→(∀ r I' hs' m',o=(.ret r)→I0.le I'→RS Tryz.prog Tryz.f158 B (yK  r) I' hs' m'→T 71 B Q .ret I' hs' m')→J Tryz.prog 71 B (nav (bodyOf Tryz.f158) [1,1,0,1,0]) Q I [hB b1 (cAccess a0 p3 c2)] [(2,vS p4 point c3),(4,vP b1 0),(7,vI first),(15,vS p1 p.Arrays c),(16,vI (p.Arrays.length:Int)),(17,vI t17)]:=by
 refine uB.partial_correctness p a0 point _ fun self ih first t17 o N B I0 I Q p1 c p3 c2 p4 c3 b1 H h3 h h2 hg ho hx hr=>yT hg ho<|yG [18] rfl<|zZ<|yE N ?_ ?_
 · intro hc N;refine zS<|zZ<|yH<|yF<|bE N fun x hy N=>xJ rfl rfl h hy ?_;intro ad ccs hat hrep;obtain ⟨p5,c4,rfl,h4⟩:=wJ hrep;refine yX 0 hat (cArr x p5 c4) (vA (cArr x p5 c4)) rfl<|wH [vT ([]),z0] ?_;intro b2 hb2;refine xI 0 (cArr x p5 c4) rfl<|yA rfl<|zZ<|yF<|yJ [0,1] [25] rfl<|zI<|yE N ?_ ?_
   · intro hc1 N;refine yF<|yB 2 [0] [26,27] rfl<|bE N fun y hy1 N=>gS (zDK x _ hy1 h4) ?_;intro I0 le;have ⟨h3,h,h2,H⟩:=m4 le h3 h h2 H;exact yJ [] [7] rfl<|zI<|zGB<|jV<|zR<|zI<|zK<|yJ [] [17] rfl<|yS<|kX (zX [1] rfl (by decide))<|nG<|ih (W (first + y)) (W (t17 + 1)) _ N H h3 h h2 hg ho hx hr
   intro hc1 N;refine zS<|zZ<|yF<|yJ [1,0] [36] rfl<|zI<|yE N ?_ ?_
   · intro hc2 N;exact yG [6] rfl<|xG<|zH<|zW<|zH<|zH<|hr _ _ _ _ (zC N).symm H ⟨_,_,(.tmp rfl ResV.nil),zQ,⟨_,rfl,rfl,rfl⟩⟩
   intro hc2 N;refine zS<|vG [10] rfl<|zZ<|yF<|yJ [1] [38,39,40] rfl<|xZ<|kX (zY [0] (hs':=[hB b2 (cArr x p5 c4)]))<|pJ [(2,vS p4 point c3),(7,vI first),(9,vP b2 0),(10,vI 0),(38,vS p3 a0.Subs c2),(39,vI (a0.Subs.length:Int)),(40,vI 0)] ?_;obtain ⟨o0,ho0,hMl⟩:=zB N;refine zAw a0 point x 0 0 o0 ho0 iR h3 h2 h4 (fun _ _ _ h=>hg _ _ _ h) (fun _ _ h=>ho _ _ h) ?_ ?_
   · intro I03 at01 heq le3;subst o0;have H:=H.trans le3;exact zR<|vG [6] rfl<|xG<|zW<|zH<|zH<|hr _ _ _ _ (zC hMl).symm H ⟨_,_,(.tmp rfl ResV.nil),zQ,⟨_,rfl,rfl,rfl⟩⟩
   intro r0 I9 hs9 m9 heq9 le9 hrs9;subst heq9;exact zW<|zH<|zW<|zH<|zH<|hr _ _ _ _ (zC hMl).symm (H.trans le9) hrs9
 intro hc N;exact wT<|xT zQ<|yQ<|hx _  (zC N).symm H
def tV (p:zE) (a0:zJ) (point:(List Int)):Option (Int):=do
 match←uB p a0 point 0 0 with
 | .ret r0=>pure r0
 | .done _ =>
  pure (-1)
theorem mI:∀ p a0 point r,tV p a0 point=some r→∀ {I:Imm}{p1 c p2 c1 p3 c2 p4 c3},(S4 I p1 p.Arrays c)→(S4 I p2 p.Parts c1)→(S4 I p3 a0.Subs c2)→(S4 I p4 point c3)→RT 158 [vA (cProg p p1 c p2 c1),vA (cAccess a0 p3 c2),vS p4 point c3] I [] (yK  r):=by
 intro p a0 point r N I p1 c p2 c1 p3 c2 p4 c3 h h1 h2 h3;unfold tV at N;refine yM Tryz.func158 fun B=>yF<|vX (cProg p p1 c p2 c1) ?_;intro b hb;refine vX (cAccess a0 p3 c2) ?_;intro b1 hb1;refine wG [] []<|vG [7] rfl<|zZ<|yF<|yJ [1] [15,16,17] rfl<|xZ<|kX (zY [0] (hs':=[hB b1 (cAccess a0 p3 c2)]))<|pJ [(2,vS p4 point c3),(4,vP b1 0),(7,vI 0),(15,vS p1 p.Arrays c),(16,vI (p.Arrays.length:Int)),(17,vI 0)] ?_;obtain ⟨o01,ho01,hMl1⟩:=zB N;refine zAx p a0 point 0 0 o01 ho01 iR h3 h h2 (fun _ _ _ h=>h) (fun _ _ h=>h) ?_ ?_
 · intro I04  heq1 le4;subst o01;refine zR<|vG [6] rfl<|zI<|yW ?_;obtain rfl:=zC hMl1;exact wP
 intro r0 I9 hs9 m9 heq9 le9 hrs9;subst heq9;refine zW<|zH ?_;obtain rfl:=zC hMl1;exact xA hrs9
def uM (a0:zJ) (x:zE) (x1:(List Int)):Option (Bool):=do
 let y←tV x a0 x1
 pure (decide (y < 0))
theorem zAh:∀ a0 x x1 r,uM a0 x x1=some r→∀ {I:Imm}{p c}{ad:Addr}{p1 c1 p2 c2}{ad1:Addr}{p3 c3},(S4 I p a0.Subs c)→(S4 I p1 x.Arrays c1)→(S4 I p2 x.Parts c2)→(At I ad (cProg x p1 c1 p2 c2))→(S4 I p3 x1 c3)→(At I ad1 [vS p3 x1 c3])→RT 159 [vA (cAccess a0 p c),.pointer (some ad),.pointer (some ad1)] I [] (zU  r):=by
 intro a0 x x1 r N I p c ad p1 c1 p2 c2 ad1 p3 c3 h h1 h2 hat h3 hat1;unfold uM at N;refine yM Tryz.func159 fun B=>yF<|vX (cAccess a0 p c) ?_;intro b hb;refine wG [] []<|yV<|yX 0 hat (cProg x p1 c1 p2 c2) (vA (cProg x p1 c1 p2 c2)) rfl<|yB 2 [0] [6] rfl<|yX 0 hat1 [vS p3 x1 c3] (vS p3 x1 c3) rfl<|bE N fun y hy N=>gS (mI x a0 x1 _ hy h1 h2 h h3) fun I0 le=>yJ [] [4] rfl<|zI<|yW ?_;obtain rfl:=zC N;exact wP
def pL (p:zE) (s:zN) (point:(List Int)):Option (Bool):=do
 let t6←(do
   let y←tV p s.Write point
   if (decide (y ≥ 0)) then
    let y1←nH s.Value
    let y2←xM y1 (fun x0=>uM x0 p point)
    pure (!y2)
   else
    pure false
     : Option Bool)
 pure (id t6)
theorem zBS:∀ p s point r,pL p s point=some r→∀ {I:Imm}{p1 c p2 c1 p3 c2 p4 c3 p5 c4 p6 c5 p7 c6},(S4 I p1 p.Arrays c)→(S4 I p2 p.Parts c1)→(S4 I p3 s.Write.Subs c2)→(S4 I p4 s.Value.Index.Coefs c3)→(S4 I p5 s.Value.Read.Subs c4)→(S4 I p6 s.Value.Kids c5)→(S4 I p7 point c6)→RT 107 [vA (cProg p p1 c p2 c1),vA (cStmt s p3 c2 p4 c3 p5 c4 p6 c5),vS p7 point c6] I [] (zU  r):=by
 intro p s point r N I p1 c p2 c1 p3 c2 p4 c3 p5 c4 p6 c5 p7 c6 h h1 h2 h3 h4 h5 h6;unfold pL at N;refine yM Tryz.func107 fun B=>?_;have H:=iS I;refine yF<|vX (cProg p p1 c p2 c1) ?_;intro b hb;refine xP 0 rfl ?_;intro I0 le hl0;have hat:At I0 ⟨b,0,none⟩ (cProg p p1 c p2 c1):=At.of_blk hl0;have ⟨h,h1,h2,h3,h4,h5⟩:=m6 le h h1 h2 h3 h4 h5;have ⟨h6,H⟩:=m2 le h6 H;refine vX (cStmt s p3 c2 p4 c3 p5 c4 p6 c5) ?_;intro b1 hb1;refine vX [vS p7 point c6] ?_;intro b2 hb2;refine xP 0 rfl ?_;intro I01 le1 hl01;have hat1:At I01 ⟨b2,0,none⟩ [vS p7 point c6]:=At.of_blk hl01;have ⟨h,h1,h2,h3,h4,h5⟩:=m6 le1 h h1 h2 h3 h4 h5;have ⟨h6,hat,H⟩:=m3 le1 h6 hat H;refine wG [] []<|zI<|yC ?_;refine wE N [] (fun t6=>[(6,.bool t6)]) (fun o0 ho0=>?_) ?_
 · have H:=iS I01;refine zK<|yX 0 hat (cProg p p1 c p2 c1) (vA (cProg p p1 c p2 c1)) rfl<|yB 3 [0] [9] rfl<|yX 0 hat1 [vS p7 point c6] (vS p7 point c6) rfl ?_;obtain ⟨y,hy,N⟩:=zB ho0;refine gS (mI p s.Write point _ hy h h1 h2 h6) ?_;intro I03 le2;have ⟨h,h1,hat,h6,hat1,h3⟩:=m6 le2 h h1 hat h6 hat1 h3;have ⟨h4,h5,H⟩:=m3 le2 h4 h5 H;refine yB 7 [] [13] rfl<|xW [13] N ?_ ?_
   · intro hc N;refine yB 9 [0] [15] rfl<|bE N fun y1 hy1 N=>xQ (zAg s.Value _ hy1 h3 h4 h5) ?_;rintro I04 hs2 v2 k2 le3 - ⟨v01,rfl,rfl,h8⟩ -;have ⟨h,h1,hat,h6,hat1,H⟩:=m6 le3 h h1 hat h6 hat1 H;obtain ⟨p8,c7,rfl⟩:=h8.form;refine yB 11 [] [17] rfl ?_;have hf0:FV1 Tryz.prog I04 [] (.func (.func 159) ⟨[]⟩ ⟨[vP b 0,vP b2 0]⟩) (fun x0=>uM x0 p point):=by
       refine FV1.intro ?_;intro I1 le1 x0 r u0 hF k0;obtain ⟨_,rfl,k0⟩:=k0;obtain ⟨p9,c8,rfl,h9⟩:=qN k0;exact (zAh x0 p point r hF h9 (h.mono le1) (h1.mono le1) (hat.mono le1) (h6.mono le1) (hat1.mono le1)).mono (by rintro k i hs u ⟨v0,rfl,rfl,h⟩; exact ⟨rfl,h⟩)
     obtain ⟨y2,hy2,N⟩:=zB N;refine xQ (rO y1 (fun x0=>uM x0 p point) _ hy2 h8 hf0) ?_;rintro I05 hs2 v2 k2 le4 - ⟨v03,rfl,rfl,rfl⟩ -;have H:=H.trans le4;exact yJ [] [6] rfl<|xT zQ<|yQ<|zT (ct N H)
   intro hc N;exact wG [] [(6,vF)]<|xT zQ<|yQ<|zT (ct N H)
 intro t6 I02 le5 hMc;refine zI<|yW ?_;obtain rfl:=zC hMc;exact wP
end Go.LN
