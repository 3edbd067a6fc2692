/- Helper of the proof (see the last text). -/
import Derived.Test.YtknadcjnkbdpdaaGreatHM4
set_option linter.unusedVariables false
set_option linter.unusedSimpArgs false
namespace Go.LN
open Go.Proofs
set_option maxRecDepth 20000
def mO (hsF:List HA) (r:Int):KT:=fun kk I' hs' v=>
  ∃ v0,hsF=hs'∧v=tupV [v0]∧v0=.int .i64 r
def wB (s:(List Int)) (f0:(Int→Option Bool)) (t8:Int):Option (Out Unit (Int)):=do
 if (decide (t8 < (s.length:Int))) then
  let x←idx s t8
  let y←f0 x
  if y then
   pure (.ret t8)
  else
   wB s f0 (W (t8 + 1))
 else
  pure (.done ())
 partial_fixpoint
theorem gJ (s:(List Int)) (f0:(Int→Option Bool)):∀ (t8:Int) (o:Out Unit (Int)),wB s f0 t8=some o→∀ {B}{I0 I:Imm}{Q p c}{fv:Value}{hsF:List HA},I0.le I→(S4 I p s c)→(FV1 Tryz.prog I hsF fv f0)→NG Q→NO Q→(∀ (I':Imm) ,o=(.done ())→I0.le I'→T 19 B Q (.exit 0) I' hsF [])→(∀ r I' hs' m',o=(.ret r)→I0.le I'→RS Tryz.prog Tryz.f111 B (mO hsF r) I' hs' m'→T 19 B Q .ret I' hs' m')→J Tryz.prog 19 B (nav (bodyOf Tryz.f111) [1,0,1,0]) Q I hsF [(0,vS p s c),(1,fv),(7,vI (s.length:Int)),(8,vI t8)]:=by
 refine wB.partial_correctness s f0 _ fun self ih t8 o N B I0 I Q p c fv hsF H h h1 hg ho hx hr=>yW hg ho<|yF [(9,.bool (decide (t8 < (s.length:Int))))]<|yG<|yL N ?_ ?_
 · intro hc N;refine zV<|yG<|yM<|yF [(5,vI t8)]<|xD<|yC 3 [] [(11,fv),(12,vS p s c),(13,vI t8)]<|bE N fun x hy N=>xR rfl rfl h hy ?_;intro ad ccs hat hrep;obtain rfl:=hrep;refine xN 0 hat [vI x] (vI x) rfl<|bE N fun y hy1 N=>zIA rfl rfl h1 hy1 rfl (List.append_nil _).symm ?_;rintro I0 v0 le rfl;refine vJ (hs':=hsF) (List.append_nil _) ?_;have h:=h.mono le;have h1:=h1.mono le;have H:=H.trans le;refine yH rfl<|zL<|yL N ?_ ?_
   · intro hc1 N;exact yF [(4,vI t8)]<|xP<|yA<|zN<|zN<|hr _ _ _ _ (zC N).symm H ⟨_,_,(.tmp rfl ResV.nil),(fun _ h=>h),⟨_,rfl,rfl,rfl⟩⟩
   intro hc1 N;exact zV<|zR<|zL<|zP<|yB [] [(8,vI (W (t8 + 1)))]<|yT<|wN [(0,vS p s c),(1,fv),(7,vI (s.length:Int)),(8,vI (W (t8 + 1)))]<|ih (W (t8 + 1)) _ N H h h1 hg ho hx hr
 intro hc N;exact vD<|yS []<|hx _  (zC N).symm H
def qE (s:(List Int)) (f0:(Int→Option Bool)):Option (Int):=do
 match←wB s f0 0 with
 | .ret r0=>pure r0
 | .done _ =>
  pure (-1)
theorem fJ:∀ s f0 r,qE s f0=some r→∀ {I:Imm}{p c}{fv:Value}{hsF:List HA},(S4 I p s c)→(FV1 Tryz.prog I hsF fv f0)→RT 111 [vS p s c,fv] I hsF (mO hsF r):=by
 intro s f0 r N I p c fv hsF h h1;unfold qE at N;refine zX (fn:=Tryz.f111) (c:=(bodyOf Tryz.f111)) Tryz.func111 rfl rfl ?_;rintro B - -;refine yF []<|yG<|yF [(7,vI (s.length:Int)),(8,vI 0)]<|wD<|wN [(0,vS p s c),(1,fv),(7,vI (s.length:Int)),(8,vI 0)] ?_;obtain ⟨o0,ho0,hMl⟩:=zB N;refine gJ s f0 0 o0 ho0 iR h h1 (fun _ _ _ h=>h) (fun _ _ h=>h) ?_ ?_
 · intro I01  heq le1;subst o0;refine zU<|wW [(4,vI (-1))]<|zL<|xG ?_;obtain rfl:=zC hMl;exact xF ⟨_,_,(.tmp rfl ResV.nil),(fun _ h=>h),⟨_,rfl,rfl,rfl⟩⟩
 intro r0 I9 hs9 m9 heq9 le9 hrs9;subst heq9;refine yA<|zN ?_;obtain rfl:=zC hMl;exact xF hrs9
def jX (hsF:List HA) (r:Bool):KT:=fun kk I' hs' v=>
  ∃ v0,hsF=hs'∧v=tupV [v0]∧v0=.bool r
def xM (s:(List Int)) (f0:(Int→Option Bool)):Option (Bool):=do
 let y←qE s f0
 pure (decide (y ≥ 0))
theorem sI:∀ s f0 r,xM s f0=some r→∀ {I:Imm}{p c}{fv:Value}{hsF:List HA},(S4 I p s c)→(FV1 Tryz.prog I hsF fv f0)→RT 58 [vS p s c,fv] I hsF (jX hsF r):=by
 intro s f0 r N I p c fv hsF h h1;unfold xM at N;refine zX (fn:=Tryz.f58) (c:=(bodyOf Tryz.f58)) Tryz.func58 rfl rfl ?_;rintro B - -;refine yF []<|xD<|yC 2 [] [(5,vS p s c),(6,fv)]<|bE N fun y hy N=>zDR (hs1:=hsF) (rest:=[]) rfl rfl rfl rfl (by kernel_rfl) rfl (List.append_nil _).symm (fJ s f0 _ hy h h1) ?_;rintro I0 hs2 v2 k2 le - ⟨v0,rfl,rfl,rfl⟩ -;refine vJ (hs':=hsF) (List.append_nil _) ?_;refine yB [] [(4,.bool (decide (y ≥ 0)))]<|zL<|xG ?_;obtain rfl:=zC N;exact xF ⟨_,_,(.tmp rfl ResV.nil),(fun _ h=>h),⟨_,rfl,rfl,rfl⟩⟩
def wA (n0:Int) (low:Int) (high:Int):Option (Bool):=do
 let t6←(do
   if (decide (low ≤ n0)) then
    pure (decide (n0 ≤ high))
   else
    pure false
     : Option Bool)
 pure (id t6)
theorem wM:∀ n0 low high r,wA n0 low high=some r→∀ {I:Imm} ,RT 68 [vI n0,vI low,vI high] I [] (zY  r):=by
 intro n0 low high r N I;unfold wA at N;refine zX (fn:=Tryz.f68) (c:=(bodyOf Tryz.f68)) Tryz.func68 rfl rfl ?_;rintro B - -;have H:=iS I;refine yF []<|zL<|yI ?_;obtain ⟨o0,ho0,hMc⟩:=zB N;refine yU (fun I' hs' m'=>∃ (t6:Bool),o0=t6∧I.le I'∧hs'=[]∧m'=[(6,.bool t6)]) ?_ ?_
 · have H:=iS I;refine zP<|yC 4 [] [(10,.bool (decide (low ≤ n0)))] ?_;cases hc:(decide (low ≤ n0)) with
   | true =>
    have hM0:=zS hc ho0
    try rw [hc]
    exact yB [] [(6,.bool (decide (n0 ≤ high)))]<|yS [(6,.bool (decide (n0 ≤ high)))]<|zW (ct hM0 H)
   | false =>
    have hM01:=zQ hc ho0
    try rw [hc]
    exact yB [] [(6,vF)]<|yS [(6,vF)]<|zW (ct hM01 H)
 rintro I0 hs2 m2 ⟨t6,heq,le,rfl,rfl⟩;subst o0;refine zL<|xG ?_;obtain rfl:=zC hMc;exact uM
def pE (n0:Int):Option (Bool):=do
 let y←wA n0 (-9999) 9999
 pure (!y)
theorem zCx:∀ n0 r,pE n0=some r→∀ {I:Imm} ,RT 108 [vI n0] I [] (zY  r):=by
 intro n0 r N I;unfold pE at N;refine zX (fn:=Tryz.f108) (c:=(bodyOf Tryz.f108)) Tryz.func108 rfl rfl ?_;rintro B - -;refine yF []<|xD<|yC 1 [] [(3,vI n0)]<|bE N fun y hy N=>tQ (wM n0 (-9999) 9999 _ hy ) fun I0 le=>yB [] [(2,.bool (!y))]<|zL<|xG ?_;obtain rfl:=zC N;exact uM
def kU (point:(List Int)):Option (Bool):=do
 let t2←(do
   if (decide ((point.length:Int) ≤ 4)) then
    let y←xM point pE
    pure (!y)
   else
    pure false
     : Option Bool)
 pure (id t2)
theorem zEP:∀ point r,kU point=some r→∀ {I:Imm}{p c},(S4 I p point c)→RT 55 [vS p point c] I [] (zY  r):=by
 intro point r N I p c h;unfold kU at N;refine zX (fn:=Tryz.f55) (c:=(bodyOf Tryz.f55)) Tryz.func55 rfl rfl ?_;rintro B - -;have H:=iS I;refine yF []<|zL<|yI ?_;obtain ⟨o0,ho0,hMc⟩:=zB N;refine yU (fun I' hs' m'=>∃ (t2:Bool),o0=t2∧I.le I'∧hs'=[]∧m'=[(2,.bool t2)]) ?_ ?_
 · have H:=iS I;refine zP<|yC 4 [] [(6,.bool (decide ((point.length:Int) ≤ 4)))] ?_;cases hc:(decide ((point.length:Int) ≤ 4)) with
   | true =>
    have hM0:=zS hc ho0
    try rw [hc]
    refine yC 5 [] [(7,vS p point c)] ?_;have hf0:FV1 Tryz.prog I [] (.func (.func 108) ⟨[]⟩ ⟨[]⟩) pE:=by
      refine FV1.intro ?_;intro I1 le1 x0 r u0 hF k0;obtain rfl:=k0;exact (zCx x0 r hF ).mono (by rintro k i hs u ⟨v0,rfl,rfl,h⟩; exact ⟨rfl,h⟩)
    obtain ⟨y,hy,N⟩:=zB hM0;refine xS (sI point pE _ hy h hf0) ?_;rintro I01 hs2 v2 k2 le - ⟨v0,rfl,rfl,rfl⟩ -;have H:=H.trans le;exact yB [] [(2,.bool (!y))]<|yS [(2,.bool (!y))]<|zW (ct N H)
   | false =>
    have hM01:=zQ hc ho0
    try rw [hc]
    exact yB [] [(2,vF)]<|yS [(2,vF)]<|zW (ct hM01 H)
 rintro I0 hs2 m2 ⟨t2,heq,le1,rfl,rfl⟩;subst o0;refine zL<|xG ?_;obtain rfl:=zC hMc;exact uM
def mT (s:Str) (substr:Str):Option Bool:=match substr.l with | [c]=>some (decide (0 ≤ Lib.indexByte s.l c)) | _=>none
theorem zBc:∀ (s substr:Str) r,mT s substr=some r→∀ {I:Imm},RT 150 [vT s.l,vT substr.l] I [] (zY r):=by
 intro s substr r N I;unfold mT at N;split at N
 · rename_i c hc;cases N
   rw [hc];exact zIU (fun w g=>(Tryz.strings_Contains_one ⟨⟨s.l⟩⟩ c w).mono fun e w' ⟨h1,h2⟩=>⟨h1,h2 ▸ RowKit.Below.refl _ _⟩) fun k=>⟨_,rfl,rfl,rfl⟩
 cases N
def mG (s:Str):Option (Bool):=do
 let t2←(do
   if ((s.l.length:Int) == 1) then
    let y←mT (⟨[65,66,67,68]⟩:Str) s
    pure (id y)
   else
    pure false
     : Option Bool)
 pure (id t2)
theorem oA:∀ s r,mG s=some r→∀ {I:Imm} ,RT 103 [vT s.l] I [] (zY  r):=by
 intro s r N I;unfold mG at N;refine zX (fn:=Tryz.f103) (c:=(bodyOf Tryz.f103)) Tryz.func103 rfl rfl ?_;rintro B - -;have H:=iS I;refine yF []<|zL<|yI ?_;obtain ⟨o0,ho0,hMc⟩:=zB N;refine yU (fun I' hs' m'=>∃ (t2:Bool),o0=t2∧I.le I'∧hs'=[]∧m'=[(2,.bool t2)]) ?_ ?_
 · have H:=iS I;refine zP<|yC 4 [] [(6,.bool ((s.l.length:Int) == 1))] ?_;cases hc:((s.l.length:Int) == 1) with
   | true =>
    have hM0:=zS hc ho0
    try rw [hc]
    refine yC 5 [] [(7,vT s.l)] ?_;obtain ⟨y,hy,N⟩:=zB hM0;refine tQ (zBc (⟨[65,66,67,68]⟩:Str) s _ hy ) ?_;intro I01 le;have H:=H.trans le;exact yB [] [(2,.bool y)]<|yS [(2,.bool y)]<|zW (ct N H)
   | false =>
    have hM01:=zQ hc ho0
    try rw [hc]
    exact yB [] [(2,vF)]<|yS [(2,vF)]<|zW (ct hM01 H)
 rintro I0 hs2 m2 ⟨t2,heq,le1,rfl,rfl⟩;subst o0;refine zL<|xG ?_;obtain rfl:=zC hMc;exact uM
def uS (n0:Int):Option (Bool):=do
 let y←wA n0 1 6
 pure (!y)
theorem fY:∀ n0 r,uS n0=some r→∀ {I:Imm} ,RT 159 [vI n0] I [] (zY  r):=by
 intro n0 r N I;unfold uS at N;refine zX (fn:=Tryz.f159) (c:=(bodyOf Tryz.f159)) Tryz.func159 rfl rfl ?_;rintro B - -;refine yF []<|xD<|yC 1 [] [(3,vI n0)]<|bE N fun y hy N=>tQ (wM n0 1 6 _ hy ) fun I0 le=>yB [] [(2,.bool (!y))]<|zL<|xG ?_;obtain rfl:=zC N;exact uM
def rJ (list:(List zD)) (t7:Int):Option (Out Unit (Bool)):=do
 if (decide (t7 < (list.length:Int))) then
  let x←idx list t7
  let t42←(do
    let y←mG x.Name
    if (!y) then
     pure true
    else
     if (decide (t7 > 0)) then
      let x1←idx list (W (t7 - 1))
      if (!(Op.bytesLess x1.Name.l x.Name.l)) then
       pure true
      else
       let y1←wA (x.Dims.length:Int) 1 2
       if (!y1) then
        pure true
       else
        let y2←xM x.Dims uS
        pure (id y2)
     else
      let y3←wA (x.Dims.length:Int) 1 2
      if (!y3) then
       pure true
      else
       let y4←xM x.Dims uS
       pure (id y4)
      : Option Bool)
  if t42 then
   pure (.ret false)
  else
   rJ list (W (t7 + 1))
 else
  pure (.done ())
 partial_fixpoint
theorem zBd (list:(List zD)):∀ (t7:Int) (o:Out Unit (Bool)),rJ list t7=some o→∀ {B}{I0 I:Imm}{Q p c},I0.le I→(S4 I p list c)→NG Q→NO Q→(∀ (I':Imm) ,o=(.done ())→I0.le I'→T 47 B Q (.exit 0) I' [] [(0,vS p list c)])→(∀ r I' hs' m',o=(.ret r)→I0.le I'→RS Tryz.prog Tryz.f116 B (zY  r) I' hs' m'→T 47 B Q .ret I' hs' m')→J Tryz.prog 47 B (nav (bodyOf Tryz.f116) [1,0,1,0]) Q I [] [(0,vS p list c),(5,vS p list c),(6,vI (list.length:Int)),(7,vI t7)]:=by
 refine rJ.partial_correctness list _ fun self ih t7 o N B I0 I Q p c H h hg ho hx hr=>yW hg ho<|yF [(8,.bool (decide (t7 < (list.length:Int))))]<|yG<|yL N ?_ ?_
 · intro hc N;refine zV<|yG<|yM<|yK<|yC 1 [] [(9,vI t7)]<|bE N fun x hy N=>xR rfl rfl h hy ?_;intro ad ccs hat hrep;obtain ⟨p1,c1,rfl,h1⟩:=xX hrep;refine xN 0 hat (cArr x p1 c1) (vA (cArr x p1 c1)) rfl<|wU [vT ([]),z0] ?_;intro b hb;refine yC 5 [] [(3,vI t7)]<|xB 0 (cArr x p1 c1) [hB b (cArr x p1 c1)] rfl rfl rfl rfl<|yH rfl<|zL<|yI ?_;obtain ⟨o0,ho0,hMc⟩:=zB N;refine yU (fun I' hs' m'=>∃ (t42:Bool),o0=t42∧I.le I'∧hs'=[]∧m'=[(0,vS p list c),(5,vS p list c),(6,vI (list.length:Int)),(7,vI t7),(42,.bool t42)]) ?_ ?_
   · have H:=iS I;obtain ⟨y,hy1,N⟩:=zB ho0;cases hc1:(!y) with
     | true =>
      have hM0:=zS hc1 N;refine vC [.p (vP b 0) [],.p (vT x.Name.l) [0],.q (.bool y),.q vY,.q vY,.p undef [],.p undef [],.p undef [],.p undef [],.p undef [],.p undef [],.p undef [],.p undef [],.p undef [],.p undef [],.p undef [],.p undef [],.p undef [],.p vY [],.p vY [],.p undef [],.p undef [],.p undef [],.p undef [],.p undef [],.p vY [],.p vY [],.p undef [],.p undef [],.p undef [],.p vY []] [[],[(0,false)],[(1,false)],[(2,false)],[(3,false)],[(4,false)],[(4,false),(5,false)],[(4,false),(6,false)],[(7,false)],[(7,false)],[(7,false),(9,false)],[(7,false),(8,false),(10,false)],[(7,false),(11,false)],[(7,false),(12,false)],[(7,false)],[(7,false),(14,false)],[(7,false),(13,false),(15,false)],[(4,false),(7,false),(16,false)],[(4,false),(17,false)],[(18,false)],[(19,false)],[(19,false),(20,false)],[(19,false),(21,false)],[(19,false),(22,false)],[(19,false),(23,false)],[(19,false),(24,false)],[(25,false)],[(26,false)],[(26,false),(27,false)],[(26,false),(28,false)],[(26,false),(29,false)]] [hB b (cArr x p1 c1)] [] [(30,false)] (yD [0]) ?_ ?_
      · refine Op<|Op<|Oq ?_<|Oq ?_<|Oq ?_<|Op<|Op<|Op<|Op<|Op<|Op<|Op<|Op<|Op<|Op<|Op<|Op<|Op<|Op<|Op<|Op<|Op<|Op<|Op<|Op<|Op<|Op<|Op<|Op<|Op<|Op<|On
        · intro I1 hf le1;refine yR [(13,vT x.Name.l)] ?_;have H:=iS I1;refine tQ (oA x.Name _ hy1 ) ?_;intro I01 le;have H:=H.trans le;exact xI H
        · intro I1 hf le1;refine yR [(14,.bool y)]<|pM 4 [(15,.bool (!y))] ?_;rw [hc1];exact xI iR
        intro I1 hf le1;exact yR [(15,vY)]<|pM 5 [(16,vY)]<|xI iR
      intro I02 le1;refine yR [(0,vS p list c),(5,vS p list c),(6,vI (list.length:Int)),(7,vI t7),(42,vY)] ?_;have H:=H.trans le1;exact yH rfl<|wC zT<|yS [(0,vS p list c),(5,vS p list c),(6,vI (list.length:Int)),(7,vI t7),(42,vY)]<|zW (ct hM0 H)
     | false =>
      have hM01:=zQ hc1 N;cases hc2:(decide (t7 > 0)) with
      | true =>
       have hM02:=zS hc2 hM01;obtain ⟨x1,hy2,N⟩:=zB hM02;cases hc3:(!(Op.bytesLess x1.Name.l x.Name.l)) with
       | true =>
        have hM03:=zS hc3 N;refine vC [.p (vP b 0) [],.p (vT x.Name.l) [0],.q (.bool y),.q vF,.q vF,.p (vI t7) [],.q vY,.q vY,.p (vS p list c) [],.p (vI t7) [],.p (vI (W (t7 - 1))) [],.x (fun I' v hx=>∃ ad1 p2 c2,v=.pointer (some ad1)∧hx=[]∧(At I' ad1 (cArr x1 p2 c2))∧(S4 I' p2 x1.Dims c2)),.x (fun I' v hx=>∃ ad11 p21 c21,v=.pointer (some ad11)∧hx=[]∧(At I' ad11 (cArr x1 p21 c21))∧(S4 I' p21 x1.Dims c21)),.q (vT x1.Name.l),.p (vP b 0) [],.p (vT x.Name.l) [0],.q vY,.q vY,.q vY,.q vY,.p undef [],.p undef [],.p undef [],.p undef [],.p undef [],.p vY [],.p vY [],.p undef [],.p undef [],.p undef [],.p vY []] [[],[(0,false)],[(1,false)],[(2,false)],[(3,false)],[(4,false)],[(4,false),(5,false)],[(4,false),(6,false)],[(7,false)],[(7,false)],[(7,false),(9,false)],[(7,false),(8,false),(10,false)],[(7,false),(11,false)],[(7,false),(12,false)],[(7,false)],[(7,false),(14,false)],[(7,false),(13,false),(15,false)],[(4,false),(7,false),(16,false)],[(4,false),(17,false)],[(18,false)],[(19,false)],[(19,false),(20,false)],[(19,false),(21,false)],[(19,false),(22,false)],[(19,false),(23,false)],[(19,false),(24,false)],[(25,false)],[(26,false)],[(26,false),(27,false)],[(26,false),(28,false)],[(26,false),(29,false)]] [hB b (cArr x p1 c1)] [] [(30,false)] (yD [0]) ?_ ?_
        · refine Op<|Op<|Oq ?_<|Oq ?_<|Oq ?_<|Op<|Oq ?_<|Oq ?_<|Op<|Op<|Op<|Ox ?_<|Ox ?_<|Oq ?_<|Op<|Op<|Oq ?_<|Oq ?_<|Oq ?_<|Oq ?_<|Op<|Op<|Op<|Op<|Op<|Op<|Op<|Op<|Op<|Op<|Op<|On
          · intro I1 hf le1;refine yR [(13,vT x.Name.l)] ?_;have H:=iS I1;refine tQ (oA x.Name _ hy1 ) ?_;intro I01 le;have H:=H.trans le;exact xI H
          · intro I1 hf le1;refine yR [(14,.bool y)]<|pM 4 [(15,.bool (!y))] ?_;rw [hc1];exact xI iR
          · intro I1 hf le1;exact yR [(15,vF)]<|pM 5 [(16,vF)]<|xI iR
          · intro I1 hf le1;refine yR [(16,vF),(17,vI t7)]<|pM 7 [(18,.bool (decide (t7 > 0)))] ?_;rw [hc2];exact xI iR
          · intro I1 hf le1;exact yR [(16,vF),(18,vY)]<|pM 8 [(19,vY)]<|xI iR
          · intro I1 hf le1;refine yR [(19,vY),(20,vS p list c),(22,vI (W (t7 - 1)))] ?_;have h:=h.mono le1;refine xR rfl rfl h hy2 ?_;intro ad1 ccs1 hat1 hrep1;obtain ⟨p2,c2,rfl,h3⟩:=xX hrep1;exact yP [] iR ⟨_,_,_,rfl,rfl,hat1,h3⟩
          · intro I1 hf le1;refine zF ?_;rintro _ _ ⟨rfl,rfl⟩;refine zF ?_;rintro _ _ ⟨ad1,p2,c2,rfl,rfl,hat1,h3⟩;exact yR [(19,vY),(23,.pointer (some ad1))]<|pM 13 [(24,.pointer (some ad1))]<|yP [] iR ⟨_,_,_,rfl,rfl,hat1,h3⟩
          · intro I1 hf le1;refine zF ?_;rintro _ _ ⟨rfl,rfl⟩;refine zF ?_;rintro _ _ ⟨ad11,p21,c21,rfl,rfl,hat11,h31⟩;exact yR [(19,vY),(24,.pointer (some ad11))]<|xN 0 hat11 [vT x1.Name.l] (vT x1.Name.l) rfl<|xI iR
          · intro I1 hf le1;refine yR [(19,vY),(25,vT x1.Name.l),(27,vT x.Name.l)]<|pM 17 [(28,.bool (!(Op.bytesLess x1.Name.l x.Name.l)))] ?_;rw [hc3];exact xI iR
          · intro I1 hf le1;exact yR [(16,vF),(19,vY),(28,vY)]<|pM 18 [(29,vY)]<|xI iR
          · intro I1 hf le1;exact yR [(16,vF),(29,vY)]<|pM 19 [(30,vY)]<|xI iR
          intro I1 hf le1;exact yR [(30,vY)]<|pM 20 [(31,vY)]<|xI iR
        intro I03 le2;refine yR [(0,vS p list c),(5,vS p list c),(6,vI (list.length:Int)),(7,vI t7),(42,vY)] ?_;have H:=H.trans le2;exact yH rfl<|wC zT<|yS [(0,vS p list c),(5,vS p list c),(6,vI (list.length:Int)),(7,vI t7),(42,vY)]<|zW (ct hM03 H)
       | false =>
        have hM04:=zQ hc3 N;obtain ⟨y1,hy3,N⟩:=zB hM04;cases hc4:(!y1) with
        | true =>
         have hM05:=zS hc4 N;refine vC [.p (vP b 0) [],.p (vT x.Name.l) [0],.q (.bool y),.q vF,.q vF,.p (vI t7) [],.q vY,.q vY,.p (vS p list c) [],.p (vI t7) [],.p (vI (W (t7 - 1))) [],.x (fun I' v hx=>∃ ad1 p2 c2,v=.pointer (some ad1)∧hx=[]∧(At I' ad1 (cArr x1 p2 c2))∧(S4 I' p2 x1.Dims c2)),.x (fun I' v hx=>∃ ad11 p21 c21,v=.pointer (some ad11)∧hx=[]∧(At I' ad11 (cArr x1 p21 c21))∧(S4 I' p21 x1.Dims c21)),.q (vT x1.Name.l),.p (vP b 0) [],.p (vT x.Name.l) [0],.q vF,.q vF,.q vF,.q vF,.p (vP b 1) [],.p (vS p1 x.Dims c1) [0],.p (vI (x.Dims.length:Int)) [],.q (.bool y1),.q vY,.q vY,.q vY,.p undef [],.p undef [],.p undef [],.p vY []] [[],[(0,false)],[(1,false)],[(2,false)],[(3,false)],[(4,false)],[(4,false),(5,false)],[(4,false),(6,false)],[(7,false)],[(7,false)],[(7,false),(9,false)],[(7,false),(8,false),(10,false)],[(7,false),(11,false)],[(7,false),(12,false)],[(7,false)],[(7,false),(14,false)],[(7,false),(13,false),(15,false)],[(4,false),(7,false),(16,false)],[(4,false),(17,false)],[(18,false)],[(19,false)],[(19,false),(20,false)],[(19,false),(21,false)],[(19,false),(22,false)],[(19,false),(23,false)],[(19,false),(24,false)],[(25,false)],[(26,false)],[(26,false),(27,false)],[(26,false),(28,false)],[(26,false),(29,false)]] [hB b (cArr x p1 c1)] [] [(30,false)] (yD [0]) ?_ ?_
         · refine Op<|Op<|Oq ?_<|Oq ?_<|Oq ?_<|Op<|Oq ?_<|Oq ?_<|Op<|Op<|Op<|Ox ?_<|Ox ?_<|Oq ?_<|Op<|Op<|Oq ?_<|Oq ?_<|Oq ?_<|Oq ?_<|Op<|Op<|Op<|Oq ?_<|Oq ?_<|Oq ?_<|Oq ?_<|Op<|Op<|Op<|Op<|On
           · intro I1 hf le1;refine yR [(13,vT x.Name.l)] ?_;have H:=iS I1;refine tQ (oA x.Name _ hy1 ) ?_;intro I01 le;have H:=H.trans le;exact xI H
           · intro I1 hf le1;refine yR [(14,.bool y)]<|pM 4 [(15,.bool (!y))] ?_;rw [hc1];exact xI iR
           · intro I1 hf le1;exact yR [(15,vF)]<|pM 5 [(16,vF)]<|xI iR
           · intro I1 hf le1;refine yR [(16,vF),(17,vI t7)]<|pM 7 [(18,.bool (decide (t7 > 0)))] ?_;rw [hc2];exact xI iR
           · intro I1 hf le1;exact yR [(16,vF),(18,vY)]<|pM 8 [(19,vY)]<|xI iR
           · intro I1 hf le1;refine yR [(19,vY),(20,vS p list c),(22,vI (W (t7 - 1)))] ?_;have h:=h.mono le1;refine xR rfl rfl h hy2 ?_;intro ad1 ccs1 hat1 hrep1;obtain ⟨p2,c2,rfl,h3⟩:=xX hrep1;exact yP [] iR ⟨_,_,_,rfl,rfl,hat1,h3⟩
           · intro I1 hf le1;refine zF ?_;rintro _ _ ⟨rfl,rfl⟩;refine zF ?_;rintro _ _ ⟨ad1,p2,c2,rfl,rfl,hat1,h3⟩;exact yR [(19,vY),(23,.pointer (some ad1))]<|pM 13 [(24,.pointer (some ad1))]<|yP [] iR ⟨_,_,_,rfl,rfl,hat1,h3⟩
           · intro I1 hf le1;refine zF ?_;rintro _ _ ⟨rfl,rfl⟩;refine zF ?_;rintro _ _ ⟨ad11,p21,c21,rfl,rfl,hat11,h31⟩;exact yR [(19,vY),(24,.pointer (some ad11))]<|xN 0 hat11 [vT x1.Name.l] (vT x1.Name.l) rfl<|xI iR
           · intro I1 hf le1;refine yR [(19,vY),(25,vT x1.Name.l),(27,vT x.Name.l)]<|pM 17 [(28,.bool (!(Op.bytesLess x1.Name.l x.Name.l)))] ?_;rw [hc3];exact xI iR
           · intro I1 hf le1;exact yR [(16,vF),(19,vY),(28,vF)]<|pM 18 [(29,vF)]<|xI iR
           · intro I1 hf le1;exact yR [(16,vF),(29,vF)]<|pM 19 [(30,vF)]<|xI iR
           · intro I1 hf le1;exact yR [(30,vF)]<|pM 20 [(31,vF)]<|xI iR
           · intro I1 hf le1;refine yR [(31,vF),(34,vI (x.Dims.length:Int))] ?_;have H:=iS I1;refine tQ (wM (x.Dims.length:Int) 1 2 _ hy3 ) ?_;intro I04 le3;have H:=H.trans le3;exact xI H
           · intro I1 hf le1;refine yR [(31,vF),(35,.bool y1)]<|pM 25 [(36,.bool (!y1))] ?_;rw [hc4];exact xI iR
           · intro I1 hf le1;exact yR [(31,vF),(36,vY)]<|pM 26 [(37,vY)]<|xI iR
           intro I1 hf le1;exact yR [(37,vY)]<|pM 27 [(38,vY)]<|xI iR
         intro I05 le4;refine yR [(0,vS p list c),(5,vS p list c),(6,vI (list.length:Int)),(7,vI t7),(42,vY)] ?_;have H:=H.trans le4;exact yH rfl<|wC zT<|yS [(0,vS p list c),(5,vS p list c),(6,vI (list.length:Int)),(7,vI t7),(42,vY)]<|zW (ct hM05 H)
        | false =>
         have hM06:=zQ hc4 N;obtain ⟨y2,hy4,N⟩:=zB hM06;refine vC [.p (vP b 0) [],.p (vT x.Name.l) [0],.q (.bool y),.q vF,.q vF,.p (vI t7) [],.q vY,.q vY,.p (vS p list c) [],.p (vI t7) [],.p (vI (W (t7 - 1))) [],.x (fun I' v hx=>∃ ad1 p2 c2,v=.pointer (some ad1)∧hx=[]∧(At I' ad1 (cArr x1 p2 c2))∧(S4 I' p2 x1.Dims c2)),.x (fun I' v hx=>∃ ad11 p21 c21,v=.pointer (some ad11)∧hx=[]∧(At I' ad11 (cArr x1 p21 c21))∧(S4 I' p21 x1.Dims c21)),.q (vT x1.Name.l),.p (vP b 0) [],.p (vT x.Name.l) [0],.q vF,.q vF,.q vF,.q vF,.p (vP b 1) [],.p (vS p1 x.Dims c1) [0],.p (vI (x.Dims.length:Int)) [],.q (.bool y1),.q vF,.q vF,.q vF,.p (vP b 1) [],.p (vS p1 x.Dims c1) [0],.q (.bool y2),.p (.bool y2) []] [[],[(0,false)],[(1,false)],[(2,false)],[(3,false)],[(4,false)],[(4,false),(5,false)],[(4,false),(6,false)],[(7,false)],[(7,false)],[(7,false),(9,false)],[(7,false),(8,false),(10,false)],[(7,false),(11,false)],[(7,false),(12,false)],[(7,false)],[(7,false),(14,false)],[(7,false),(13,false),(15,false)],[(4,false),(7,false),(16,false)],[(4,false),(17,false)],[(18,false)],[(19,false)],[(19,false),(20,false)],[(19,false),(21,false)],[(19,false),(22,false)],[(19,false),(23,false)],[(19,false),(24,false)],[(25,false)],[(26,false)],[(26,false),(27,false)],[(26,false),(28,false)],[(26,false),(29,false)]] [hB b (cArr x p1 c1)] [] [(30,false)] (yD [0]) ?_ ?_
         · refine Op<|Op<|Oq ?_<|Oq ?_<|Oq ?_<|Op<|Oq ?_<|Oq ?_<|Op<|Op<|Op<|Ox ?_<|Ox ?_<|Oq ?_<|Op<|Op<|Oq ?_<|Oq ?_<|Oq ?_<|Oq ?_<|Op<|Op<|Op<|Oq ?_<|Oq ?_<|Oq ?_<|Oq ?_<|Op<|Op<|Oq ?_<|Op<|On
           · intro I1 hf le1;refine yR [(13,vT x.Name.l)] ?_;have H:=iS I1;refine tQ (oA x.Name _ hy1 ) ?_;intro I01 le;have H:=H.trans le;exact xI H
           · intro I1 hf le1;refine yR [(14,.bool y)]<|pM 4 [(15,.bool (!y))] ?_;rw [hc1];exact xI iR
           · intro I1 hf le1;exact yR [(15,vF)]<|pM 5 [(16,vF)]<|xI iR
           · intro I1 hf le1;refine yR [(16,vF),(17,vI t7)]<|pM 7 [(18,.bool (decide (t7 > 0)))] ?_;rw [hc2];exact xI iR
           · intro I1 hf le1;exact yR [(16,vF),(18,vY)]<|pM 8 [(19,vY)]<|xI iR
           · intro I1 hf le1;refine yR [(19,vY),(20,vS p list c),(22,vI (W (t7 - 1)))] ?_;have h:=h.mono le1;refine xR rfl rfl h hy2 ?_;intro ad1 ccs1 hat1 hrep1;obtain ⟨p2,c2,rfl,h3⟩:=xX hrep1;exact yP [] iR ⟨_,_,_,rfl,rfl,hat1,h3⟩
           · intro I1 hf le1;refine zF ?_;rintro _ _ ⟨rfl,rfl⟩;refine zF ?_;rintro _ _ ⟨ad1,p2,c2,rfl,rfl,hat1,h3⟩;exact yR [(19,vY),(23,.pointer (some ad1))]<|pM 13 [(24,.pointer (some ad1))]<|yP [] iR ⟨_,_,_,rfl,rfl,hat1,h3⟩
           · intro I1 hf le1;refine zF ?_;rintro _ _ ⟨rfl,rfl⟩;refine zF ?_;rintro _ _ ⟨ad11,p21,c21,rfl,rfl,hat11,h31⟩;exact yR [(19,vY),(24,.pointer (some ad11))]<|xN 0 hat11 [vT x1.Name.l] (vT x1.Name.l) rfl<|xI iR
           · intro I1 hf le1;refine yR [(19,vY),(25,vT x1.Name.l),(27,vT x.Name.l)]<|pM 17 [(28,.bool (!(Op.bytesLess x1.Name.l x.Name.l)))] ?_;rw [hc3];exact xI iR
           · intro I1 hf le1;exact yR [(16,vF),(19,vY),(28,vF)]<|pM 18 [(29,vF)]<|xI iR
           · intro I1 hf le1;exact yR [(16,vF),(29,vF)]<|pM 19 [(30,vF)]<|xI iR
           · intro I1 hf le1;exact yR [(30,vF)]<|pM 20 [(31,vF)]<|xI iR
           · intro I1 hf le1;refine yR [(31,vF),(34,vI (x.Dims.length:Int))] ?_;have H:=iS I1;refine tQ (wM (x.Dims.length:Int) 1 2 _ hy3 ) ?_;intro I04 le3;have H:=H.trans le3;exact xI H
           · intro I1 hf le1;refine yR [(31,vF),(35,.bool y1)]<|pM 25 [(36,.bool (!y1))] ?_;rw [hc4];exact xI iR
           · intro I1 hf le1;exact yR [(31,vF),(36,vF)]<|pM 26 [(37,vF)]<|xI iR
           · intro I1 hf le1;exact yR [(37,vF)]<|pM 27 [(38,vF)]<|xI iR
           intro I1 hf le1;refine yR [(38,vF),(40,vS p1 x.Dims c1)] ?_;have H:=iS I1;have h:=h.mono le1;have h1:=h1.mono le1;have hf0:FV1 Tryz.prog I1 [] (.func (.func 159) ⟨[]⟩ ⟨[]⟩) uS:=by
             refine FV1.intro ?_;intro I1 le1 x0 r u0 hF k0;obtain rfl:=k0;exact (fY x0 r hF ).mono (by rintro k i hs u ⟨v0,rfl,rfl,h⟩; exact ⟨rfl,h⟩)
           refine xS (sI x.Dims uS _ hy4 h1 hf0) ?_;rintro I06 hs2 v2 k2 le5 - ⟨v04,rfl,rfl,rfl⟩ -;have H:=H.trans le5;exact xI H
         intro I07 le6;refine yR [(0,vS p list c),(5,vS p list c),(6,vI (list.length:Int)),(7,vI t7),(42,.bool y2)] ?_;have H:=H.trans le6;exact yH rfl<|wC zT<|yS [(0,vS p list c),(5,vS p list c),(6,vI (list.length:Int)),(7,vI t7),(42,.bool y2)]<|zW (ct N H)
      | false =>
       have hM07:=zQ hc2 hM01;obtain ⟨y3,hy5,N⟩:=zB hM07;cases hc5:(!y3) with
       | true =>
        have hM08:=zS hc5 N;refine vC [.p (vP b 0) [],.p (vT x.Name.l) [0],.q (.bool y),.q vF,.q vF,.p (vI t7) [],.q vF,.q vF,.p undef [],.p undef [],.p undef [],.p undef [],.p undef [],.p undef [],.p undef [],.p undef [],.p undef [],.p vF [],.p vF [],.p vF [],.p (vP b 1) [],.p (vS p1 x.Dims c1) [0],.p (vI (x.Dims.length:Int)) [],.q (.bool y3),.q vY,.q vY,.q vY,.p undef [],.p undef [],.p undef [],.p vY []] [[],[(0,false)],[(1,false)],[(2,false)],[(3,false)],[(4,false)],[(4,false),(5,false)],[(4,false),(6,false)],[(7,false)],[(7,false)],[(7,false),(9,false)],[(7,false),(8,false),(10,false)],[(7,false),(11,false)],[(7,false),(12,false)],[(7,false)],[(7,false),(14,false)],[(7,false),(13,false),(15,false)],[(4,false),(7,false),(16,false)],[(4,false),(17,false)],[(18,false)],[(19,false)],[(19,false),(20,false)],[(19,false),(21,false)],[(19,false),(22,false)],[(19,false),(23,false)],[(19,false),(24,false)],[(25,false)],[(26,false)],[(26,false),(27,false)],[(26,false),(28,false)],[(26,false),(29,false)]] [hB b (cArr x p1 c1)] [] [(30,false)] (yD [0]) ?_ ?_
        · refine Op<|Op<|Oq ?_<|Oq ?_<|Oq ?_<|Op<|Oq ?_<|Oq ?_<|Op<|Op<|Op<|Op<|Op<|Op<|Op<|Op<|Op<|Op<|Op<|Op<|Op<|Op<|Op<|Oq ?_<|Oq ?_<|Oq ?_<|Oq ?_<|Op<|Op<|Op<|Op<|On
          · intro I1 hf le1;refine yR [(13,vT x.Name.l)] ?_;have H:=iS I1;refine tQ (oA x.Name _ hy1 ) ?_;intro I01 le;have H:=H.trans le;exact xI H
          · intro I1 hf le1;refine yR [(14,.bool y)]<|pM 4 [(15,.bool (!y))] ?_;rw [hc1];exact xI iR
          · intro I1 hf le1;exact yR [(15,vF)]<|pM 5 [(16,vF)]<|xI iR
          · intro I1 hf le1;refine yR [(16,vF),(17,vI t7)]<|pM 7 [(18,.bool (decide (t7 > 0)))] ?_;rw [hc2];exact xI iR
          · intro I1 hf le1;exact yR [(16,vF),(18,vF)]<|pM 8 [(19,vF)]<|xI iR
          · intro I1 hf le1;refine yR [(31,vF),(34,vI (x.Dims.length:Int))] ?_;have H:=iS I1;refine tQ (wM (x.Dims.length:Int) 1 2 _ hy5 ) ?_;intro I08 le7;have H:=H.trans le7;exact xI H
          · intro I1 hf le1;refine yR [(31,vF),(35,.bool y3)]<|pM 25 [(36,.bool (!y3))] ?_;rw [hc5];exact xI iR
          · intro I1 hf le1;exact yR [(31,vF),(36,vY)]<|pM 26 [(37,vY)]<|xI iR
          intro I1 hf le1;exact yR [(37,vY)]<|pM 27 [(38,vY)]<|xI iR
        intro I09 le8;refine yR [(0,vS p list c),(5,vS p list c),(6,vI (list.length:Int)),(7,vI t7),(42,vY)] ?_;have H:=H.trans le8;exact yH rfl<|wC zT<|yS [(0,vS p list c),(5,vS p list c),(6,vI (list.length:Int)),(7,vI t7),(42,vY)]<|zW (ct hM08 H)
       | false =>
        have hM09:=zQ hc5 N;obtain ⟨y4,hy6,N⟩:=zB hM09;refine vC [.p (vP b 0) [],.p (vT x.Name.l) [0],.q (.bool y),.q vF,.q vF,.p (vI t7) [],.q vF,.q vF,.p undef [],.p undef [],.p undef [],.p undef [],.p undef [],.p undef [],.p undef [],.p undef [],.p undef [],.p vF [],.p vF [],.p vF [],.p (vP b 1) [],.p (vS p1 x.Dims c1) [0],.p (vI (x.Dims.length:Int)) [],.q (.bool y3),.q vF,.q vF,.q vF,.p (vP b 1) [],.p (vS p1 x.Dims c1) [0],.q (.bool y4),.p (.bool y4) []] [[],[(0,false)],[(1,false)],[(2,false)],[(3,false)],[(4,false)],[(4,false),(5,false)],[(4,false),(6,false)],[(7,false)],[(7,false)],[(7,false),(9,false)],[(7,false),(8,false),(10,false)],[(7,false),(11,false)],[(7,false),(12,false)],[(7,false)],[(7,false),(14,false)],[(7,false),(13,false),(15,false)],[(4,false),(7,false),(16,false)],[(4,false),(17,false)],[(18,false)],[(19,false)],[(19,false),(20,false)],[(19,false),(21,false)],[(19,false),(22,false)],[(19,false),(23,false)],[(19,false),(24,false)],[(25,false)],[(26,false)],[(26,false),(27,false)],[(26,false),(28,false)],[(26,false),(29,false)]] [hB b (cArr x p1 c1)] [] [(30,false)] (yD [0]) ?_ ?_
        · refine Op<|Op<|Oq ?_<|Oq ?_<|Oq ?_<|Op<|Oq ?_<|Oq ?_<|Op<|Op<|Op<|Op<|Op<|Op<|Op<|Op<|Op<|Op<|Op<|Op<|Op<|Op<|Op<|Oq ?_<|Oq ?_<|Oq ?_<|Oq ?_<|Op<|Op<|Oq ?_<|Op<|On
          · intro I1 hf le1;refine yR [(13,vT x.Name.l)] ?_;have H:=iS I1;refine tQ (oA x.Name _ hy1 ) ?_;intro I01 le;have H:=H.trans le;exact xI H
          · intro I1 hf le1;refine yR [(14,.bool y)]<|pM 4 [(15,.bool (!y))] ?_;rw [hc1];exact xI iR
          · intro I1 hf le1;exact yR [(15,vF)]<|pM 5 [(16,vF)]<|xI iR
          · intro I1 hf le1;refine yR [(16,vF),(17,vI t7)]<|pM 7 [(18,.bool (decide (t7 > 0)))] ?_;rw [hc2];exact xI iR
          · intro I1 hf le1;exact yR [(16,vF),(18,vF)]<|pM 8 [(19,vF)]<|xI iR
          · intro I1 hf le1;refine yR [(31,vF),(34,vI (x.Dims.length:Int))] ?_;have H:=iS I1;refine tQ (wM (x.Dims.length:Int) 1 2 _ hy5 ) ?_;intro I08 le7;have H:=H.trans le7;exact xI H
          · intro I1 hf le1;refine yR [(31,vF),(35,.bool y3)]<|pM 25 [(36,.bool (!y3))] ?_;rw [hc5];exact xI iR
          · intro I1 hf le1;exact yR [(31,vF),(36,vF)]<|pM 26 [(37,vF)]<|xI iR
          · intro I1 hf le1;exact yR [(37,vF)]<|pM 27 [(38,vF)]<|xI iR
          intro I1 hf le1;refine yR [(38,vF),(40,vS p1 x.Dims c1)] ?_;have H:=iS I1;have h:=h.mono le1;have h1:=h1.mono le1;have hf01:FV1 Tryz.prog I1 [] (.func (.func 159) ⟨[]⟩ ⟨[]⟩) uS:=by
            refine FV1.intro ?_;intro I1 le1 x0 r u0 hF k0;obtain rfl:=k0;exact (fY x0 r hF ).mono (by rintro k i hs u ⟨v0,rfl,rfl,h⟩; exact ⟨rfl,h⟩)
          refine xS (sI x.Dims uS _ hy6 h1 hf01) ?_;rintro I010 hs2 v2 k2 le9 - ⟨v06,rfl,rfl,rfl⟩ -;have H:=H.trans le9;exact xI H
        intro I011 le10;refine yR [(0,vS p list c),(5,vS p list c),(6,vI (list.length:Int)),(7,vI t7),(42,.bool y4)] ?_;have H:=H.trans le10;exact yH rfl<|wC zT<|yS [(0,vS p list c),(5,vS p list c),(6,vI (list.length:Int)),(7,vI t7),(42,.bool y4)]<|zW (ct N H)
   rintro I0 hs2 m2 ⟨t42,heq,le11,rfl,rfl⟩;subst o0;have h:=h.mono le11;have H:=H.trans le11;refine zL<|yL hMc ?_ ?_
   · intro hc6 N;exact yF [(2,vF)]<|xP<|yA<|zN<|zN<|hr _ _ _ _ (zC N).symm H ⟨_,_,(.tmp rfl ResV.nil),zT,⟨_,rfl,rfl,rfl⟩⟩
   intro hc6 N;exact zV<|zR<|zL<|zP<|yB [] [(7,vI (W (t7 + 1)))]<|yT<|wN [(0,vS p list c),(5,vS p list c),(6,vI (list.length:Int)),(7,vI (W (t7 + 1)))]<|ih (W (t7 + 1)) _ N H h hg ho hx hr
 intro hc N;exact vD<|yS [(0,vS p list c)]<|hx _  (zC N).symm H
def mZ (list:(List zD)):Option (Bool):=do
 match←rJ list 0 with
 | .ret r0=>pure r0
 | .done _ =>
  pure (decide ((list.length:Int) ≤ 4))
theorem zDh:∀ list r,mZ list=some r→∀ {I:Imm}{p c},(S4 I p list c)→RT 116 [vS p list c] I [] (zY  r):=by
 intro list r N I p c h;unfold mZ at N;refine zX (fn:=Tryz.f116) (c:=(bodyOf Tryz.f116)) Tryz.func116 rfl rfl ?_;rintro B - -;refine yF []<|yG<|yF [(5,vS p list c),(6,vI (list.length:Int)),(7,vI 0)]<|wD<|wN [(0,vS p list c),(5,vS p list c),(6,vI (list.length:Int)),(7,vI 0)] ?_;obtain ⟨o01,ho01,hMl⟩:=zB N;refine zBd list 0 o01 ho01 iR h (fun _ _ _ h=>h) (fun _ _ h=>h) ?_ ?_
 · intro I012  heq1 le12;subst o01;refine zU<|wW [(2,.bool (decide ((list.length:Int) ≤ 4)))]<|zL<|xG ?_;obtain rfl:=zC hMl;exact uM
 intro r0 I9 hs9 m9 heq9 le9 hrs9;subst heq9;refine yA<|zN ?_;obtain rfl:=zC hMl;exact xF hrs9
def rE (hsF:List HA) (r:Int):KT:=fun kk I' hs' v=>
  ∃ v0,hsF=hs'∧v=tupV [v0]∧v0=.int .i64 r
def yY (s:(List zA)) (f0:(zA→Option Bool)) (t8:Int):Option (Out Unit (Int)):=do
 if (decide (t8 < (s.length:Int))) then
  let x←idx s t8
  let y←f0 x
  if y then
   pure (.ret t8)
  else
   yY s f0 (W (t8 + 1))
 else
  pure (.done ())
 partial_fixpoint
theorem nS (s:(List zA)) (f0:(zA→Option Bool)):∀ (t8:Int) (o:Out Unit (Int)),yY s f0 t8=some o→∀ {B}{I0 I:Imm}{Q p c}{fv:Value}{hsF:List HA},I0.le I→(S4 I p s c)→(FV1 Tryz.prog I hsF fv f0)→NG Q→NO Q→(∀ (I':Imm) ,o=(.done ())→I0.le I'→T 19 B Q (.exit 0) I' hsF [])→(∀ r I' hs' m',o=(.ret r)→I0.le I'→RS Tryz.prog Tryz.f151 B (rE hsF r) I' hs' m'→T 19 B Q .ret I' hs' m')→J Tryz.prog 19 B (nav (bodyOf Tryz.f151) [1,0,1,0]) Q I hsF [(0,vS p s c),(1,fv),(7,vI (s.length:Int)),(8,vI t8)]:=by
 refine yY.partial_correctness s f0 _ fun self ih t8 o N B I0 I Q p c fv hsF H h h1 hg ho hx hr=>yW hg ho<|yF [(9,.bool (decide (t8 < (s.length:Int))))]<|yG<|yL N ?_ ?_
 · intro hc N;refine zV<|yG<|yM<|yF [(5,vI t8)]<|xD<|yC 3 [] [(11,fv),(12,vS p s c),(13,vI t8)]<|bE N fun x hy N=>xR rfl rfl h hy ?_;intro ad ccs hat hrep;obtain ⟨p1,c1,rfl,h2⟩:=yQ hrep;refine xN 0 hat (cAff x p1 c1) (vA (cAff x p1 c1)) rfl<|bE N fun y hy1 N=>zIA rfl rfl h1 hy1 ⟨_,rfl,(yN ⟨_,rfl,h2⟩)⟩ (List.append_nil _).symm ?_;rintro I0 v01 le rfl;refine vJ (hs':=hsF) (List.append_nil _) ?_;have h:=h.mono le;have h1:=h1.mono le;have H:=H.trans le;refine yH rfl<|zL<|yL N ?_ ?_
   · intro hc1 N;exact yF [(4,vI t8)]<|xP<|yA<|zN<|zN<|hr _ _ _ _ (zC N).symm H ⟨_,_,(.tmp rfl ResV.nil),(fun _ h=>h),⟨_,rfl,rfl,rfl⟩⟩
   intro hc1 N;exact zV<|zR<|zL<|zP<|yB [] [(8,vI (W (t8 + 1)))]<|yT<|wN [(0,vS p s c),(1,fv),(7,vI (s.length:Int)),(8,vI (W (t8 + 1)))]<|ih (W (t8 + 1)) _ N H h h1 hg ho hx hr
 intro hc N;exact vD<|yS []<|hx _  (zC N).symm H
def wO (s:(List zA)) (f0:(zA→Option Bool)):Option (Int):=do
 match←yY s f0 0 with
 | .ret r0=>pure r0
 | .done _ =>
  pure (-1)
theorem mM:∀ s f0 r,wO s f0=some r→∀ {I:Imm}{p c}{fv:Value}{hsF:List HA},(S4 I p s c)→(FV1 Tryz.prog I hsF fv f0)→RT 151 [vS p s c,fv] I hsF (rE hsF r):=by
 intro s f0 r N I p c fv hsF h h1;unfold wO at N;refine zX (fn:=Tryz.f151) (c:=(bodyOf Tryz.f151)) Tryz.func151 rfl rfl ?_;rintro B - -;refine yF []<|yG<|yF [(7,vI (s.length:Int)),(8,vI 0)]<|wD<|wN [(0,vS p s c),(1,fv),(7,vI (s.length:Int)),(8,vI 0)] ?_;obtain ⟨o0,ho0,hMl⟩:=zB N;refine nS s f0 0 o0 ho0 iR h h1 (fun _ _ _ h=>h) (fun _ _ h=>h) ?_ ?_
 · intro I01  heq le1;subst o0;refine zU<|wW [(4,vI (-1))]<|zL<|xG ?_;obtain rfl:=zC hMl;exact xF ⟨_,_,(.tmp rfl ResV.nil),(fun _ h=>h),⟨_,rfl,rfl,rfl⟩⟩
 intro r0 I9 hs9 m9 heq9 le9 hrs9;subst heq9;refine yA<|zN ?_;obtain rfl:=zC hMl;exact xF hrs9
def oX (hsF:List HA) (r:Bool):KT:=fun kk I' hs' v=>
  ∃ v0,hsF=hs'∧v=tupV [v0]∧v0=.bool r
def xK (s:(List zA)) (f0:(zA→Option Bool)):Option (Bool):=do
 let y←wO s f0
 pure (decide (y ≥ 0))
theorem rA:∀ s f0 r,xK s f0=some r→∀ {I:Imm}{p c}{fv:Value}{hsF:List HA},(S4 I p s c)→(FV1 Tryz.prog I hsF fv f0)→RT 104 [vS p s c,fv] I hsF (oX hsF r):=by
 intro s f0 r N I p c fv hsF h h1;unfold xK at N;refine zX (fn:=Tryz.f104) (c:=(bodyOf Tryz.f104)) Tryz.func104 rfl rfl ?_;rintro B - -;refine yF []<|xD<|yC 2 [] [(5,vS p s c),(6,fv)]<|bE N fun y hy N=>zDR (hs1:=hsF) (rest:=[]) rfl rfl rfl rfl (by kernel_rfl) rfl (List.append_nil _).symm (mM s f0 _ hy h h1) ?_;rintro I0 hs2 v2 k2 le - ⟨v0,rfl,rfl,rfl⟩ -;refine vJ (hs':=hsF) (List.append_nil _) ?_;refine yB [] [(4,.bool (decide (y ≥ 0)))]<|zL<|xG ?_;obtain rfl:=zC N;exact xF ⟨_,_,(.tmp rfl ResV.nil),(fun _ h=>h),⟨_,rfl,rfl,rfl⟩⟩
def jY (n0:Int):Option (Bool):=do
 let y←wA n0 (-99) 99
 pure (id y)
theorem zEQ:∀ n0 r,jY n0=some r→∀ {I:Imm} ,RT 60 [vI n0] I [] (zY  r):=by
 intro n0 r N I;unfold jY at N;refine zX (fn:=Tryz.f60) (c:=(bodyOf Tryz.f60)) Tryz.func60 rfl rfl ?_;rintro B - -;refine yF []<|xD<|yC 1 [] [(3,vI n0)]<|bE N fun y hy N=>tQ (wM n0 (-99) 99 _ hy ) fun I0 le=>yB [] [(2,.bool y)]<|zL<|xG ?_;obtain rfl:=zC N;exact uM
def tY (c:Int):Option (Bool):=do
 let y←wA c (-9) 9
 pure (!y)
theorem zAi:∀ c r,tY c=some r→∀ {I:Imm} ,RT 152 [vI c] I [] (zY  r):=by
 intro c r N I;unfold tY at N;refine zX (fn:=Tryz.f152) (c:=(bodyOf Tryz.f152)) Tryz.func152 rfl rfl ?_;rintro B - -;refine yF []<|xD<|yC 1 [] [(3,vI c)]<|bE N fun y hy N=>tQ (wM c (-9) 9 _ hy ) fun I0 le=>yB [] [(2,.bool (!y))]<|zL<|xG ?_;obtain rfl:=zC N;exact uM
def rK (a0:zA):Option (Bool):=do
 let t2←(do
   if ((a0.Coefs.length:Int) == 4) then
    let y←jY a0.Const
    if y then
     let y1←xM a0.Coefs tY
     pure (!y1)
    else
     pure false
   else
    pure false
     : Option Bool)
 pure (id t2)
theorem oF:∀ a0 r,rK a0=some r→∀ {I:Imm}{p c},(S4 I p a0.Coefs c)→RT 106 [vA (cAff a0 p c)] I [] (zY  r):=by
 intro a0 r N I p c h;unfold rK at N;refine zX (fn:=Tryz.f106) (c:=(bodyOf Tryz.f106)) Tryz.func106 rfl rfl ?_;rintro B - -;have H:=iS I;refine yK<|tO (cAff a0 p c) ?_;intro b hb;refine yB [] []<|zL<|yI ?_;obtain ⟨o0,ho0,hMc⟩:=zB N;refine yU (fun I' hs' m'=>∃ (t2:Bool),o0=t2∧I.le I'∧hs'=[]∧m'=[(2,.bool t2)]) ?_ ?_
 · have H:=iS I;refine zP<|yC 5 [0] [(7,.bool ((a0.Coefs.length:Int) == 4))] ?_;cases hc:((a0.Coefs.length:Int) == 4) with
   | true =>
    have hM0:=zS hc ho0
    try rw [hc]
    refine yC 7 [0] [(9,vI a0.Const)] ?_;obtain ⟨y,hy,N⟩:=zB hM0;refine tQ (zEQ a0.Const _ hy ) ?_;intro I01 le;have h:=h.mono le;have H:=H.trans le;refine yC 10 [] [(12,.bool y)] ?_;cases hc1:y with
    | true =>
     have hM01:=zS hc1 N
     try rw [hc1]
     refine yC 12 [0] [(14,vS p a0.Coefs c)] ?_;have hf0:FV1 Tryz.prog I01 [] (.func (.func 152) ⟨[]⟩ ⟨[]⟩) tY:=by
       refine FV1.intro ?_;intro I1 le1 x0 r u0 hF k0;obtain rfl:=k0;exact (zAi x0 r hF ).mono (by rintro k i hs u ⟨v0,rfl,rfl,h⟩; exact ⟨rfl,h⟩)
     obtain ⟨y1,hy1,N⟩:=zB hM01;refine xS (sI a0.Coefs tY _ hy1 h hf0) ?_;rintro I02 hs2 v2 k2 le1 - ⟨v01,rfl,rfl,rfl⟩ -;have H:=H.trans le1;exact yB [] [(2,.bool (!y1))]<|wC zT<|yS [(2,.bool (!y1))]<|zW (ct N H)
    | false =>
     have hM02:=zQ hc1 N
     try rw [hc1]
     exact yB [] [(2,vF)]<|wC zT<|yS [(2,vF)]<|zW (ct hM02 H)
   | false =>
    have hM03:=zQ hc ho0
    try rw [hc]
    exact yB [] [(2,vF)]<|wC zT<|yS [(2,vF)]<|zW (ct hM03 H)
 rintro I0 hs2 m2 ⟨t2,heq,le2,rfl,rfl⟩;subst o0;refine zL<|xG ?_;obtain rfl:=zC hMc;exact uM
def uW (a0:zA) (n0:Int):Option (Int):=do
 let t17←(do
   if (decide (n0 > 0)) then
    let x←idx a0.Coefs (W (n0 - 1))
    pure (x == 0)
   else
    pure false
     : Option Bool)
 if t17 then
  uW a0 (W (n0 - 1))
 else
  pure (id n0)
 partial_fixpoint
theorem zAE (a0:zA):∀ (n0:Int) (o:Int),uW a0 n0=some o→∀ {B}{I0 I:Imm}{Q p c}{b:Nat},I0.le I→(S4 I p a0.Coefs c)→NG Q→NO Q→(∀ (I':Imm) (n01:Int),o=n01→I0.le I'→T 21 B Q (.exit 0) I' [] [(3,vI n01)])→J Tryz.prog 21 B (nav (bodyOf Tryz.f107) [1,1,0,0]) Q I [hB b (cAff a0 p c)] [(1,vP b 0),(3,vI n0)]:=by
 refine uW.partial_correctness a0 _ fun self ih n0 o N B I0 I Q p c b H h hg ho hx=>yW hg ho<|yI<|yI ?_;obtain ⟨o0,ho0,hMc⟩:=zB N;refine yU (fun I' hs' m'=>∃ (t17:Bool),o0=t17∧I.le I'∧hs'=[hB b (cAff a0 p c)]∧m'=[(1,vP b 0),(3,vI n0),(17,.bool t17)]) ?_ ?_
 · have H:=iS I;refine zP<|yC 3 [] [(9,.bool (decide (n0 > 0)))] ?_;cases hc:(decide (n0 > 0)) with
   | true =>
    have hM0:=zS hc ho0
    try rw [hc]
    refine yC 7 [0] [(11,vS p a0.Coefs c),(13,vI (W (n0 - 1)))] ?_;obtain ⟨x,hy,N⟩:=zB hM0;refine xR rfl rfl h hy ?_;intro ad ccs hat hrep;obtain rfl:=hrep;exact xN 0 hat [vI x] (vI x) rfl<|yB [] [(17,.bool (x == 0))]<|yS [(1,vP b 0),(3,vI n0),(17,.bool (x == 0))]<|zW (ct N H)
   | false =>
    have hM01:=zQ hc ho0
    try rw [hc]
    exact yB [] [(17,vF)]<|yS [(1,vP b 0),(3,vI n0),(17,vF)]<|zW (ct hM01 H)
 rintro I0 hs2 m2 ⟨t17,heq,le,rfl,rfl⟩;subst o0;have h:=h.mono le;have H:=H.trans le;refine zL<|yL hMc ?_ ?_
 · intro hc1 N;exact zV<|wD<|zP<|yB [] [(3,vI (W (n0 - 1)))]<|zR<|yT<|wN [(1,vP b 0),(3,vI (W (n0 - 1)))]<|ih (W (n0 - 1)) _ N H h hg ho hx
 intro hc1 N;exact vD<|wC zT<|yS [(3,vI n0)]<|hx _ _ (zC N).symm H
def sO (a0:zA):Option (Int):=do
 let n01←uW a0 (a0.Coefs.length:Int)
 pure (id n01)
theorem kV:∀ a0 r,sO a0=some r→∀ {I:Imm}{p c},(S4 I p a0.Coefs c)→RT 107 [vA (cAff a0 p c)] I [] (xE  r):=by
 intro a0 r N I p c h;unfold sO at N;refine zX (fn:=Tryz.f107) (c:=(bodyOf Tryz.f107)) Tryz.func107 rfl rfl ?_;rintro B - -;refine yK<|tO (cAff a0 p c) ?_;intro b hb;refine yB [] []<|xD<|yB [0] [(3,vI (a0.Coefs.length:Int))]<|yG<|yM<|wN [(1,vP b 0),(3,vI (a0.Coefs.length:Int))] ?_;obtain ⟨o01,ho01,hMl⟩:=zB N;refine zAE a0 (a0.Coefs.length:Int) o01 ho01 iR h (fun _ _ _ h=>h) (fun _ _ h=>h) ?_;intro I01 n01 heq1 le1;subst o01;refine zU<|wW [(2,vI n01)]<|zL<|xG ?_;obtain rfl:=zC hMl;exact uM
def sS (a0:zA) (x:Int):Option (Bool):=do
 let t3←(do
   let y←rK a0
   if (!y) then
    pure true
   else
    let y1←sO a0
    pure (decide (y1 > x))
     : Option Bool)
 pure (id t3)
theorem zCL:∀ a0 x r,sS a0 x=some r→∀ {I:Imm}{p c}{ad:Addr},(S4 I p a0.Coefs c)→(At I ad [vI x])→RT 203 [vA (cAff a0 p c),.pointer (some ad)] I [] (zY  r):=by
 intro a0 x r N I p c ad h hat;unfold sS at N;refine zX (fn:=Tryz.f203) (c:=(bodyOf Tryz.f203)) Tryz.func203 rfl rfl ?_;rintro B - -;have H:=iS I;refine yK<|tO (cAff a0 p c) ?_;intro b hb;refine yB [] []<|zL<|yI ?_;obtain ⟨o0,ho0,hMc⟩:=zB N;refine yU (fun I' hs' m'=>∃ (t3:Bool),o0=t3∧I.le I'∧hs'=[]∧m'=[(3,.bool t3)]) ?_ ?_
 · have H:=iS I;obtain ⟨y,hy,N⟩:=zB ho0;cases hc:(!y) with
   | true =>
    have hM0:=zS hc N;refine vC [.p (vA (cAff a0 p c)) [0],.q (.bool y),.q vY,.q vY,.p undef [],.p undef [],.p undef [],.p undef [],.p vY []] [[],[(0,false)],[(1,false)],[(2,false)],[(3,false)],[(3,false),(4,false)],[(3,false)],[(3,false),(5,false),(6,false)],[(3,false),(7,false)]] [hB b (cAff a0 p c)] [] [(8,false)] (yD [0]) ?_ ?_
    · refine Op<|Oq ?_<|Oq ?_<|Oq ?_<|Op<|Op<|Op<|Op<|Op<|On
      · intro I1 hf le1;refine yR [(4,vA (cAff a0 p c))] ?_;have H:=iS I1;have h:=h.mono le1;refine tQ (oF a0 _ hy h) ?_;intro I01 le;have H:=H.trans le;exact xI H
      · intro I1 hf le1;refine yR [(5,.bool y)]<|pM 3 [(6,.bool (!y))] ?_;rw [hc];exact xI iR
      intro I1 hf le1;exact yR [(6,vY)]<|pM 4 [(7,vY)]<|xI iR
    intro I02 le1;refine yR [(12,vY)] ?_;have H:=H.trans le1;exact yB [] [(3,vY)]<|wC zT<|yS [(3,vY)]<|zW (ct hM0 H)
   | false =>
    have hM01:=zQ hc N;obtain ⟨y1,hy1,N⟩:=zB hM01;refine vC [.p (vA (cAff a0 p c)) [0],.q (.bool y),.q vF,.q vF,.p (vA (cAff a0 p c)) [0],.q (vI y1),.q (vI x),.p (.bool (decide (y1 > x))) [],.p (.bool (decide (y1 > x))) []] [[],[(0,false)],[(1,false)],[(2,false)],[(3,false)],[(3,false),(4,false)],[(3,false)],[(3,false),(5,false),(6,false)],[(3,false),(7,false)]] [hB b (cAff a0 p c)] [] [(8,false)] (yD [0]) ?_ ?_
    · refine Op<|Oq ?_<|Oq ?_<|Oq ?_<|Op<|Oq ?_<|Oq ?_<|Op<|Op<|On
      · intro I1 hf le1;refine yR [(4,vA (cAff a0 p c))] ?_;have H:=iS I1;have h:=h.mono le1;refine tQ (oF a0 _ hy h) ?_;intro I01 le;have H:=H.trans le;exact xI H
      · intro I1 hf le1;refine yR [(5,.bool y)]<|pM 3 [(6,.bool (!y))] ?_;rw [hc];exact xI iR
      · intro I1 hf le1;exact yR [(6,vF)]<|pM 4 [(7,vF)]<|xI iR
      · intro I1 hf le1;refine yR [(7,vF),(8,vA (cAff a0 p c))] ?_;have H:=iS I1;have h:=h.mono le1;refine kI (kV a0 _ hy1 h) ?_;intro I03 le2;have H:=H.trans le2;exact xI H
      intro I1 hf le1;refine yR [(1,.pointer (some ad)),(7,vF)] ?_;have hat:=hat.mono le1;exact xN 0 hat [vI x] (vI x) rfl<|xI iR
    intro I04 le3;refine yR [(12,.bool (decide (y1 > x)))] ?_;have H:=H.trans le3;exact yB [] [(3,.bool (decide (y1 > x)))]<|wC zT<|yS [(3,.bool (decide (y1 > x)))]<|zW (ct N H)
 rintro I0 hs2 m2 ⟨t3,heq,le4,rfl,rfl⟩;subst o0;refine zL<|xG ?_;obtain rfl:=zC hMc;exact uM
def nB (list:(List zA)) (depth:Int):Option (Bool):=do
 let t4←(do
   let y←wA (list.length:Int) 1 2
   if y then
    let y1←xK list (fun x0=>sS x0 depth)
    pure (!y1)
   else
    pure false
     : Option Bool)
 pure (id t4)
theorem zAF:∀ list depth r,nB list depth=some r→∀ {I:Imm}{p c},(S4 I p list c)→RT 177 [vS p list c,vI depth] I [] (zY  r):=by
 intro list depth r N I p c h;unfold nB at N;refine zX (fn:=Tryz.f177) (c:=(bodyOf Tryz.f177)) Tryz.func177 rfl rfl ?_;rintro B - -;have H:=iS I;refine yK<|tO [vI depth] ?_;intro b hb;refine yJ 0 rfl ?_;intro I0 le hl0;have hat:At I0 ⟨b,0,none⟩ [vI depth]:=At.of_blk hl0;have h:=h.mono le;have H:=H.trans le;refine yB [] []<|zL<|yI ?_;obtain ⟨o0,ho0,hMc⟩:=zB N;refine yU (fun I' hs' m'=>∃ (t4:Bool),o0=t4∧I0.le I'∧hs'=[]∧m'=[(4,.bool t4)]) ?_ ?_
 · have H:=iS I0;refine zP<|yC 2 [] [(6,vI (list.length:Int))] ?_;obtain ⟨y,hy,N⟩:=zB ho0;refine tQ (wM (list.length:Int) 1 2 _ hy ) ?_;intro I02 le1;have h:=h.mono le1;have hat:=hat.mono le1;have H:=H.trans le1;refine yC 4 [] [(8,.bool y)] ?_;cases hc:y with
   | true =>
    have hM0:=zS hc N
    try rw [hc]
    refine yC 6 [] [(9,vS p list c),(10,.func (.func 203) ⟨[]⟩ ⟨[vP b 0]⟩)] ?_;have hf0:FV1 Tryz.prog I02 [] (.func (.func 203) ⟨[]⟩ ⟨[vP b 0]⟩) (fun x0=>sS x0 depth):=by
      refine FV1.intro ?_;intro I1 le1 x0 r u0 hF k0;obtain ⟨_,rfl,k0⟩:=k0;obtain ⟨p1,c1,rfl,h2⟩:=yQ k0;exact (zCL x0 depth r hF h2 (hat.mono le1)).mono (by rintro k i hs u ⟨v0,rfl,rfl,h⟩; exact ⟨rfl,h⟩)
    obtain ⟨y1,hy1,N⟩:=zB hM0;refine xS (rA list (fun x0=>sS x0 depth) _ hy1 h hf0) ?_;rintro I03 hs2 v2 k2 le2 - ⟨v02,rfl,rfl,rfl⟩ -;have H:=H.trans le2;exact yB [] [(4,.bool (!y1))]<|yS [(4,.bool (!y1))]<|zW (ct N H)
   | false =>
    have hM01:=zQ hc N
    try rw [hc]
    exact yB [] [(4,vF)]<|yS [(4,vF)]<|zW (ct hM01 H)
 rintro I01 hs2 m2 ⟨t4,heq,le3,rfl,rfl⟩;subst o0;refine zL<|xG ?_;obtain rfl:=zC hMc;exact uM
def sP (nest:(List zE)) (t7:Int):Option (Out Unit (Bool)):=do
 if (decide (t7 < (nest.length:Int))) then
  let x←idx nest t7
  let t23←(do
    let y←nB x.Lo t7
    if (!y) then
     pure true
    else
     let y1←nB x.Hi t7
     pure (!y1)
      : Option Bool)
  if t23 then
   pure (.ret false)
  else
   sP nest (W (t7 + 1))
 else
  pure (.done ())
 partial_fixpoint
theorem zBH (nest:(List zE)):∀ (t7:Int) (o:Out Unit (Bool)),sP nest t7=some o→∀ {B}{I0 I:Imm}{Q p c},I0.le I→(S4 I p nest c)→NG Q→NO Q→(∀ (I':Imm) ,o=(.done ())→I0.le I'→T 28 B Q (.exit 0) I' [] [(0,vS p nest c)])→(∀ r I' hs' m',o=(.ret r)→I0.le I'→RS Tryz.prog Tryz.f141 B (zY  r) I' hs' m'→T 28 B Q .ret I' hs' m')→J Tryz.prog 28 B (nav (bodyOf Tryz.f141) [1,0,1,0]) Q I [] [(0,vS p nest c),(5,vS p nest c),(6,vI (nest.length:Int)),(7,vI t7)]:=by
 refine sP.partial_correctness nest _ fun self ih t7 o N B I0 I Q p c H h hg ho hx hr=>yW hg ho<|yF [(8,.bool (decide (t7 < (nest.length:Int))))]<|yG<|yL N ?_ ?_
 · intro hc N;refine zV<|yG<|yM<|yK<|yC 1 [] [(9,vI t7)]<|bE N fun x hy N=>xR rfl rfl h hy ?_;intro ad ccs hat hrep;obtain ⟨p1,c1,p2,c2,rfl,h1,h2⟩:=tM hrep;refine xN 0 hat (cLoop x p1 c1 p2 c2) (vA (cLoop x p1 c1 p2 c2)) rfl<|wU zTwo ?_;intro b hb;refine yC 5 [] [(3,vI t7)]<|xB 0 (cLoop x p1 c1 p2 c2) [hB b (cLoop x p1 c1 p2 c2)] rfl rfl rfl rfl<|yH rfl<|zL<|yI ?_;obtain ⟨o0,ho0,hMc⟩:=zB N;refine yU (fun I' hs' m'=>∃ (t23:Bool),o0=t23∧I.le I'∧hs'=[]∧m'=[(0,vS p nest c),(5,vS p nest c),(6,vI (nest.length:Int)),(7,vI t7),(23,.bool t23)]) ?_ ?_
   · have H:=iS I;refine zP<|yC 3 [0] [(13,vS p1 x.Lo c1),(14,vI t7)] ?_;obtain ⟨y,hy1,N⟩:=zB ho0;refine tQ (zAF x.Lo t7 _ hy1 h1) ?_;intro I01 le;have h2:=h2.mono le;have H:=H.trans le;refine yC 6 [] [(17,.bool (!y))] ?_;cases hc1:(!y) with
     | true =>
      have hM0:=zS hc1 N
      try rw [hc1]
      exact yB [] [(23,vY)]<|wC zT<|yS [(0,vS p nest c),(5,vS p nest c),(6,vI (nest.length:Int)),(7,vI t7),(23,vY)]<|zW (ct hM0 H)
     | false =>
      have hM01:=zQ hc1 N
      try rw [hc1]
      refine yC 9 [0] [(19,vS p2 x.Hi c2),(20,vI t7)] ?_;obtain ⟨y1,hy2,N⟩:=zB hM01;refine tQ (zAF x.Hi t7 _ hy2 h2) ?_;intro I02 le1;have H:=H.trans le1;exact yB [] [(23,.bool (!y1))]<|wC zT<|yS [(0,vS p nest c),(5,vS p nest c),(6,vI (nest.length:Int)),(7,vI t7),(23,.bool (!y1))]<|zW (ct N H)
   rintro I0 hs2 m2 ⟨t23,heq,le2,rfl,rfl⟩;subst o0;have h:=h.mono le2;have H:=H.trans le2;refine zL<|yL hMc ?_ ?_
   · intro hc2 N;exact yF [(2,vF)]<|xP<|yA<|zN<|zN<|hr _ _ _ _ (zC N).symm H ⟨_,_,(.tmp rfl ResV.nil),zT,⟨_,rfl,rfl,rfl⟩⟩
   intro hc2 N;exact zV<|zR<|zL<|zP<|yB [] [(7,vI (W (t7 + 1)))]<|yT<|wN [(0,vS p nest c),(5,vS p nest c),(6,vI (nest.length:Int)),(7,vI (W (t7 + 1)))]<|ih (W (t7 + 1)) _ N H h hg ho hx hr
 intro hc N;exact vD<|yS [(0,vS p nest c)]<|hx _  (zC N).symm H
def mH (nest:(List zE)):Option (Bool):=do
 match←sP nest 0 with
 | .ret r0=>pure r0
 | .done _ =>
  pure (decide ((nest.length:Int) ≤ 4))
theorem zCy:∀ nest r,mH nest=some r→∀ {I:Imm}{p c},(S4 I p nest c)→RT 141 [vS p nest c] I [] (zY  r):=by
 intro nest r N I p c h;unfold mH at N;refine zX (fn:=Tryz.f141) (c:=(bodyOf Tryz.f141)) Tryz.func141 rfl rfl ?_;rintro B - -;refine yF []<|yG<|yF [(5,vS p nest c),(6,vI (nest.length:Int)),(7,vI 0)]<|wD<|wN [(0,vS p nest c),(5,vS p nest c),(6,vI (nest.length:Int)),(7,vI 0)] ?_;obtain ⟨o01,ho01,hMl⟩:=zB N;refine zBH nest 0 o01 ho01 iR h (fun _ _ _ h=>h) (fun _ _ h=>h) ?_ ?_
 · intro I03  heq1 le3;subst o01;refine zU<|wW [(2,.bool (decide ((nest.length:Int) ≤ 4)))]<|zL<|xG ?_;obtain rfl:=zC hMl;exact uM
 intro r0 I9 hs9 m9 heq9 le9 hrs9;subst heq9;refine yA<|zN ?_;obtain rfl:=zC hMl;exact xF hrs9
def eF (r:List Int):KT:=fun kk I' hs' v=>
  ∃ a0 c0 s0,hs'=[.osl (.slice a0 r.length c0) (Rp.sz Int) s0]∧v=tupV [(.slice a0 r.length c0)]∧RepL (Rp.rep I') (Rp.sz Int) s0 r
def sJ (s:List Int):Option (List Int):=app 8 ([]:List Int) s
theorem mI:∀ s r,sJ s=some r→∀ {I:Imm}{p c},SL I (vS p s c) s→RT 121 [vS p s c] I [] (eF r):=by
 intro s r N I p c h;unfold sJ at N;obtain ⟨ccs,k0,k01⟩:=h;refine zX (fn:=Tryz.f121) (c:=(bodyOf Tryz.f121)) Tryz.func121 rfl rfl ?_;rintro B - -;cases p with
 | none =>
  have hs:s=[]:=by
    rcases k0 with ⟨hv,rfl⟩ | ⟨b0,off,len,cap,cc,hv,k2⟩
    · cases s with
      | nil=>rfl
      | cons _ _=>simp at hv
    simp at hv
  subst hs;obtain ⟨_,rfl⟩:=dR N;refine yF [(0,vS none ([]:List Int) c),(2,z0)]<|yG<|yK<|yC 1 [] [(3,vS none ([]:List Int) c)]<|zLB true rfl rfl ?_ rfl;exact yB [] [(4,vY)]<|zL<|zAo rfl<|yF [(2,z0)]<|xP<|zN<|wC (wT (Rp.sz Int))<|xF ⟨_,_,(.tmp rfl ResV.nil),(zZ [0] rfl (by decide)),⟨none,0,[],rfl,rfl,rfl⟩⟩
 | some ad =>
  refine yF [(0,vS (some ad) s c),(2,z0)]<|yG<|yK<|yC 1 [] [(3,vS (some ad) s c)]<|zLB false rfl rfl ?_ rfl;refine yB [] [(0,vS (some ad) s c),(4,vF)]<|zL<|fI rfl<|zV<|xD<|xU [] Int ?_;intro b2 hb2;have h1:RL I [] ([]:List Int):=rfl;exact yC 2 [] [(6,vS (some ad) s c)]<|qI 3 1 0 rfl rfl rfl h1 (.inl k0) k01 N fun p1 c1 cs h2=>yB [] [(2,vS p1 r c1)]<|xP<|xF ⟨_,_,(.tmp rfl ResV.nil),(zZ [0] rfl (by decide)),⟨_,_,_,rfl,rfl,h2⟩⟩
def tL (a0:zA) (point:(List Int)) (sum:Int) (t12:Int):Option (Int):=do
 if (decide (t12 < (point.length:Int))) then
  let x←idx point t12
  let x1←idx a0.Coefs t12
  tL a0 point (W (sum + (W (x1 * x)))) (W (t12 + 1))
 else
  pure (id sum)
 partial_fixpoint
theorem zAY (a0:zA) (point:(List Int)):∀ (sum:Int) (t12:Int) (o:Int),tL a0 point sum t12=some o→∀ {B}{I0 I:Imm}{Q p c p1 c1}{b:Nat},I0.le I→(S4 I p1 point c1)→(S4 I p a0.Coefs c)→NG Q→NO Q→(∀ (I':Imm) (sum1:Int),o=sum1→I0.le I'→T 28 B Q (.exit 0) I' [] [(5,vI sum1)])→J Tryz.prog 28 B (nav (bodyOf Tryz.f64) [1,1,0,1,0]) Q I [hB b (cAff a0 p c)] [(2,vP b 0),(5,vI sum),(10,vS p1 point c1),(11,vI (point.length:Int)),(12,vI t12)]:=by
 refine tL.partial_correctness a0 point _ fun self ih sum t12 o N B I0 I Q p c p1 c1 b H h1 h hg ho hx=>yW hg ho<|yF [(13,.bool (decide (t12 < (point.length:Int))))]<|yG<|yL N ?_ ?_
 · intro hc N;refine zV<|yG<|yM<|yK<|yC 1 [] [(14,vI t12)]<|bE N fun x hy N=>xR rfl rfl h1 hy ?_;intro ad ccs hat hrep;obtain rfl:=hrep;refine xN 0 hat [vI x] (vI x) rfl<|yB [] [(6,vI t12),(7,vI x)]<|zL<|zP<|yC 4 [0] [(17,vI sum),(19,vS p a0.Coefs c),(20,vI t12)]<|bE N fun x1 hy1 N=>xR rfl rfl h hy1 ?_;intro ad1 ccs1 hat1 hrep1;obtain rfl:=hrep1;exact xN 0 hat1 [vI x1] (vI x1) rfl<|yB [] [(5,vI (W (sum + (W (x1 * x)))))]<|zR<|zL<|zP<|yB [] [(12,vI (W (t12 + 1)))]<|yT<|wN [(2,vP b 0),(5,vI (W (sum + (W (x1 * x))))),(10,vS p1 point c1),(11,vI (point.length:Int)),(12,vI (W (t12 + 1)))]<|ih (W (sum + (W (x1 * x)))) (W (t12 + 1)) _ N H h1 h hg ho hx
 intro hc N;exact vD<|wC zT<|yS [(5,vI sum)]<|hx _ _ (zC N).symm H
def uX (a0:zA) (point:(List Int)):Option (Int):=do
 let sum1←tL a0 point a0.Const 0
 pure (id sum1)
theorem oG:∀ a0 point r,uX a0 point=some r→∀ {I:Imm}{p c p1 c1},(S4 I p a0.Coefs c)→(S4 I p1 point c1)→RT 64 [vA (cAff a0 p c),vS p1 point c1] I [] (xE  r):=by
 intro a0 point r N I p c p1 c1 h h1;unfold uX at N;refine zX (fn:=Tryz.f64) (c:=(bodyOf Tryz.f64)) Tryz.func64 rfl rfl ?_;rintro B - -;refine yK<|tO (cAff a0 p c) ?_;intro b hb;refine yB [] []<|xD<|yB [0] [(5,vI a0.Const)]<|yG<|yF [(10,vS p1 point c1),(11,vI (point.length:Int)),(12,vI 0)]<|wD<|wN [(2,vP b 0),(5,vI a0.Const),(10,vS p1 point c1),(11,vI (point.length:Int)),(12,vI 0)] ?_;obtain ⟨o0,ho0,hMl⟩:=zB N;refine zAY a0 point a0.Const 0 o0 ho0 iR h1 h (fun _ _ _ h=>h) (fun _ _ h=>h) ?_;intro I0 sum1 heq le;subst o0;refine zU<|wW [(4,vI sum1)]<|zL<|xG ?_;obtain rfl:=zC hMl;exact uM
def sQ (l:zE) (point:(List Int)) (lo:Int) (t27:Int):Option (Int):=do
 if (decide (t27 < (l.Lo.length:Int))) then
  let x2←idx l.Lo t27
  let y2←uX x2 point
  sQ l point (if y2 > lo then y2 else lo) (W (t27 + 1))
 else
  pure (id lo)
 partial_fixpoint
theorem zBI (l:zE) (point:(List Int)):∀ (lo:Int) (t27:Int) (o:Int),sQ l point lo t27=some o→∀ {B}{I0 I:Imm}{Q}{y1:Int}{p c p1 c1 p2 c2}{b:Nat},I0.le I→(S4 I p2 point c2)→(S4 I p l.Lo c)→(S4 I p1 l.Hi c1)→NG Q→NO Q→(∀ (I':Imm) (lo1:Int),o=lo1→I0.le I'→T 52 B Q (.exit 0) I' [hB b (cLoop l p c p1 c1)] [(1,vS p2 point c2),(2,vP b 0),(6,vI lo1),(7,vI y1)])→J Tryz.prog 52 B (nav (bodyOf Tryz.f142) [1,1,0,1,0]) Q I [hB b (cLoop l p c p1 c1)] [(1,vS p2 point c2),(2,vP b 0),(6,vI lo),(7,vI y1),(25,vS p l.Lo c),(26,vI (l.Lo.length:Int)),(27,vI t27)]:=by
 refine sQ.partial_correctness l point _ fun self ih lo t27 o N B I0 I Q y1 p c p1 c1 p2 c2 b H h2 h h1 hg ho hx=>yW hg ho<|yF [(28,.bool (decide (t27 < (l.Lo.length:Int))))]<|yG<|yL N ?_ ?_
 · intro hc N;refine zV<|yG<|yM<|yK<|bE N fun x2 hy4 N=>xR rfl rfl h hy4 ?_;intro ad2 ccs2 hat2 hrep2;obtain ⟨p5,c5,rfl,h7⟩:=yQ hrep2;refine xN 0 hat2 (cAff x2 p5 c5) (vA (cAff x2 p5 c5)) rfl<|wU [z0,vI 0] ?_;intro b1 hb1;refine xB 0 (cAff x2 p5 c5) [hB b1 (cAff x2 p5 c5),hB b (cLoop l p c p1 c1)] rfl rfl rfl rfl<|yH rfl<|zL<|zP<|yC 3 [0] [(31,vI lo),(32,vA (cAff x2 p5 c5)),(33,vS p2 point c2)]<|bE N fun y2 hy5 N=>kI (oG x2 point _ hy5 h7 h2) ?_;intro I03 le3;have h2:=h2.mono le3;have h:=h.mono le3;have h1:=h1.mono le3;have H:=H.trans le3;exact yB [] [(6,vI (if y2 > lo then y2 else lo))]<|zR<|zL<|zP<|yB [] [(27,vI (W (t27 + 1)))]<|yT<|rM (zZ [1] rfl (by decide))<|wN [(1,vS p2 point c2),(2,vP b 0),(6,vI (if y2 > lo then y2 else lo)),(7,vI y1),(25,vS p l.Lo c),(26,vI (l.Lo.length:Int)),(27,vI (W (t27 + 1)))]<|ih (if y2 > lo then y2 else lo) (W (t27 + 1)) _ N H h2 h h1 hg ho hx
 intro hc N;exact vD<|yS [(1,vS p2 point c2),(2,vP b 0),(6,vI lo),(7,vI y1)]<|hx _ _ (zC N).symm H
def sR (l:zE) (point:(List Int)) (hi:Int) (t40:Int):Option (Int):=do
 if (decide (t40 < (l.Hi.length:Int))) then
  let x3←idx l.Hi t40
  let y3←uX x3 point
  sR l point (if y3 < hi then y3 else hi) (W (t40 + 1))
 else
  pure (id hi)
 partial_fixpoint
theorem zBJ (l:zE) (point:(List Int)):∀ (hi:Int) (t40:Int) (o:Int),sR l point hi t40=some o→∀ {B}{I0 I:Imm}{Q}{lo1:Int}{p1 c1 p2 c2},I0.le I→(S4 I p2 point c2)→(S4 I p1 l.Hi c1)→NG Q→NO Q→(∀ (I':Imm) (hi1:Int),o=hi1→I0.le I'→T 52 B Q (.exit 2) I' [] [(6,vI lo1),(7,vI hi1)])→J Tryz.prog 52 B (nav (bodyOf Tryz.f142) [1,1,1,0,1,0]) Q I [] [(1,vS p2 point c2),(6,vI lo1),(7,vI hi),(38,vS p1 l.Hi c1),(39,vI (l.Hi.length:Int)),(40,vI t40)]:=by
 refine sR.partial_correctness l point _ fun self ih hi t40 o N B I0 I Q lo1 p1 c1 p2 c2 H h2 h1 hg ho hx=>yW hg ho<|yF [(41,.bool (decide (t40 < (l.Hi.length:Int))))]<|yG<|yL N ?_ ?_
 · intro hc1 N;refine zV<|yG<|yM<|yK<|bE N fun x3 hy6 N=>xR rfl rfl h1 hy6 ?_;intro ad3 ccs3 hat3 hrep3;obtain ⟨p6,c6,rfl,h9⟩:=yQ hrep3;refine xN 0 hat3 (cAff x3 p6 c6) (vA (cAff x3 p6 c6)) rfl<|wU [z0,vI 0] ?_;intro b2 hb2;refine xB 0 (cAff x3 p6 c6) [hB b2 (cAff x3 p6 c6)] rfl rfl rfl rfl<|yH rfl<|zL<|zP<|yC 3 [0] [(44,vI hi),(45,vA (cAff x3 p6 c6)),(46,vS p2 point c2)]<|bE N fun y3 hy7 N=>kI (oG x3 point _ hy7 h9 h2) ?_;intro I05 le5;have h2:=h2.mono le5;have h1:=h1.mono le5;have H:=H.trans le5;exact yB [] [(7,vI (if y3 < hi then y3 else hi))]<|zR<|zL<|zP<|yB [] [(40,vI (W (t40 + 1)))]<|yT<|rM zT<|wN [(1,vS p2 point c2),(6,vI lo1),(7,vI (if y3 < hi then y3 else hi)),(38,vS p1 l.Hi c1),(39,vI (l.Hi.length:Int)),(40,vI (W (t40 + 1)))]<|ih (if y3 < hi then y3 else hi) (W (t40 + 1)) _ N H h2 h1 hg ho hx
 intro hc1 N;exact vD<|yS [(6,vI lo1),(7,vI hi)]<|hx _ _ (zC N).symm H
def mJ (l:zE) (point:(List Int)):Option (Int×Int):=do
 let x←idx l.Lo 0
 let y←uX x point
 let x1←idx l.Hi 0
 let y1←uX x1 point
 let lo1←sQ l point y 0
 let hi1←sR l point y1 0
 pure (lo1,hi1)
theorem zCz:∀ l point r,mJ l point=some r→∀ {I:Imm}{p c p1 c1 p2 c2},(S4 I p l.Lo c)→(S4 I p1 l.Hi c1)→(S4 I p2 point c2)→RT 142 [vA (cLoop l p c p1 c1),vS p2 point c2] I [] (jS  r):=by
 intro l point r N I p c p1 c1 p2 c2 h h1 h2;unfold mJ at N;refine zX (fn:=Tryz.f142) (c:=(bodyOf Tryz.f142)) Tryz.func142 rfl rfl ?_;rintro B - -;have H:=iS I;refine yK<|tO (cLoop l p c p1 c1) ?_;intro b hb;refine yB [] []<|zL<|yI ?_;obtain ⟨x,hy,N⟩:=zB N;obtain ⟨y,hy1,N⟩:=zB N;obtain ⟨x1,hy2,N⟩:=zB N;obtain ⟨y1,hy3,N⟩:=zB N;refine vC [.p (vP b 0) [],.p (vS p l.Lo c) [0],.x (fun I' v hx=>∃ ad p3 c3,v=.pointer (some ad)∧hx=[]∧(At I' ad (cAff x p3 c3))∧(S4 I' p3 x.Coefs c3)),.x (fun I' v hx=>∃ p31 c31,v=vA (cAff x p31 c31)∧hx=[]∧(S4 I' p31 x.Coefs c31)),.p (vS p2 point c2) [],.q (vI y),.p (vP b 1) [],.p (vS p1 l.Hi c1) [0],.x (fun I' v hx=>∃ ad1 p4 c4,v=.pointer (some ad1)∧hx=[]∧(At I' ad1 (cAff x1 p4 c4))∧(S4 I' p4 x1.Coefs c4)),.x (fun I' v hx=>∃ p41 c41,v=vA (cAff x1 p41 c41)∧hx=[]∧(S4 I' p41 x1.Coefs c41)),.p (vS p2 point c2) [],.q (vI y1),.p (vI y) []] [[],[(0,false)],[(1,false)],[(2,false)],[],[(3,false),(4,false)],[],[(6,false)],[(7,false)],[(8,false)],[],[(9,false),(10,false)],[(5,false)]] [hB b (cLoop l p c p1 c1)] [] [(11,false),(12,false)] (yD [0]) ?_ ?_
 · refine Op<|Op<|Ox ?_<|Ox ?_<|Op<|Oq ?_<|Op<|Op<|Ox ?_<|Ox ?_<|Op<|Oq ?_<|Op<|On
   · intro I1 hf le1;refine yR [(13,vS p l.Lo c)] ?_;have h:=h.mono le1;refine xR rfl rfl h hy ?_;intro ad ccs hat hrep;obtain ⟨p3,c3,rfl,h3⟩:=yQ hrep;exact yP [] iR ⟨_,_,_,rfl,rfl,hat,h3⟩
   · intro I1 hf le1;refine zF ?_;rintro _ _ ⟨ad,p3,c3,rfl,rfl,hat,h3⟩;exact yR [(14,.pointer (some ad))]<|xN 0 hat (cAff x p3 c3) (vA (cAff x p3 c3)) rfl<|yP [] iR ⟨_,_,rfl,rfl,h3⟩
   · intro I1 hf le1;refine zF ?_;rintro _ _ ⟨p31,c31,rfl,rfl,h31⟩;refine yR [(15,vA (cAff x p31 c31)),(16,vS p2 point c2)] ?_;have H:=iS I1;have h2:=h2.mono le1;refine kI (oG x point _ hy1 h31 h2) ?_;intro I0 le;have H:=H.trans le;exact xI H
   · intro I1 hf le1;refine yR [(19,vS p1 l.Hi c1)] ?_;have h1:=h1.mono le1;refine xR rfl rfl h1 hy2 ?_;intro ad1 ccs1 hat1 hrep1;obtain ⟨p4,c4,rfl,h5⟩:=yQ hrep1;exact yP [] iR ⟨_,_,_,rfl,rfl,hat1,h5⟩
   · intro I1 hf le1;refine zF ?_;rintro _ _ ⟨ad1,p4,c4,rfl,rfl,hat1,h5⟩;exact yR [(20,.pointer (some ad1))]<|xN 0 hat1 (cAff x1 p4 c4) (vA (cAff x1 p4 c4)) rfl<|yP [] iR ⟨_,_,rfl,rfl,h5⟩
   intro I1 hf le1;refine zF ?_;rintro _ _ ⟨p41,c41,rfl,rfl,h51⟩;refine yR [(21,vA (cAff x1 p41 c41)),(22,vS p2 point c2)] ?_;have H:=iS I1;have h2:=h2.mono le1;refine kI (oG x1 point _ hy3 h51 h2) ?_;intro I01 le1;have H:=H.trans le1;exact xI H
 intro I02 le2;refine yR [(1,vS p2 point c2),(2,vP b 0),(6,vI y),(23,vI y1)] ?_;have h2:=h2.mono le2;have h:=h.mono le2;have h1:=h1.mono le2;refine yB [] [(7,vI y1)]<|yG<|yK<|yB [0] [(25,vS p l.Lo c),(26,vI (l.Lo.length:Int)),(27,vI 0)]<|wD<|wN [(1,vS p2 point c2),(2,vP b 0),(6,vI y),(7,vI y1),(25,vS p l.Lo c),(26,vI (l.Lo.length:Int)),(27,vI 0)] ?_;obtain ⟨o0,ho0,hMl⟩:=zB N;refine zBI l point y 0 o0 ho0 iR h2 h h1 (fun _ _ _ h=>h) (fun _ _ h=>h) ?_;intro I04 lo1 heq le4;subst o0;have h2:=h2.mono le4;have h:=h.mono le4;have h1:=h1.mono le4;refine zU<|yG<|yK<|yB [0] [(38,vS p1 l.Hi c1),(39,vI (l.Hi.length:Int)),(40,vI 0)]<|wD<|rM (yD [] (hs':=[]))<|wN [(1,vS p2 point c2),(6,vI lo1),(7,vI y1),(38,vS p1 l.Hi c1),(39,vI (l.Hi.length:Int)),(40,vI 0)] ?_;obtain ⟨o01,ho01,hMl1⟩:=zB hMl;refine zBJ l point y1 0 o01 ho01 iR h2 h1 (fun _ _ _ h=>h) (fun _ _ h=>h) ?_;intro I06 hi1 heq1 le6;subst o01;refine zU<|wW [(4,vI lo1),(5,vI hi1)]<|zL<|xG ?_;obtain rfl:=zC hMl1;exact xF ⟨_,_,(.tmp rfl (.tmp rfl ResV.nil)),zT,⟨_,_,rfl,rfl,rfl,rfl⟩⟩
def mU (b0:Nat) (r:Bool×tN):KT:=fun kk I' hs' v=>
  ∃ v0 x0_0 y0_0 x0_2 y0_2 z0_2,hs'=[.blk b0 ⟨[.slice x0_0 r.2.nest.length y0_0,.int .i64 r.2.steps,.slice x0_2 r.2.out.length y0_2]⟩,.osl (.slice x0_2 r.2.out.length y0_2) (Rp.sz (List Int)) z0_2]∧v=tupV [v0]∧v0=.bool r.1∧SL I' (.slice x0_0 r.2.nest.length y0_0) r.2.nest∧RepL (Rp.rep I') (Rp.sz (List Int)) z0_2 r.2.out
mutual
def tI (w0:tN) (point:(List Int)):Option (Bool×tN):=do
 if ((point.length:Int) == (w0.nest.length:Int)) then
  let y←sJ point
  let l←app 24 w0.out ([y]:List (List Int))
  pure ((decide ((l.length:Int) ≤ 120)),(tN.mk w0.nest w0.steps l))
 else
  let x←idx w0.nest (point.length:Int)
  let (y2,y3)←mJ x point
  match←sK (same point) (same y3) (same y2) w0.nest w0.steps w0.out with
  | .ret r0=>pure r0
  | .done (nest1,steps1,out1) =>
   pure (true,(tN.mk nest1 steps1 out1))
 partial_fixpoint
def sK (point:(List Int)) (y3:Int) (n0:Int) (nest:List zE) (steps:Int) (out:List (List Int)):Option (Out (List zE×Int×List (List Int)) (Bool×tN)):=do
 if (decide (n0 < y3)) then
  let (t74,nest2,steps2,out2)←(do
    if (decide ((W ((W (steps + 1)) + 1)) > 1200)) then
     pure (true,nest,(W (steps + 1)),out)
    else
     let y4←sJ point
     let l1←app 8 y4 ([n0]:List Int)
     let (y6,y7)←tI (tN.mk nest (W (steps + 1)) out) (same l1)
     pure ((!y6),y7.nest,y7.steps,y7.out)
      : Option (Bool×List zE×Int×List (List Int)))
  if t74 then
   pure (.ret (false,(tN.mk nest2 steps2 out2)))
  else
   sK (same point) (same y3) (W (n0 + 1)) (same nest2) (same steps2) (same out2)
 else
  pure (.done (nest,steps,out))
 partial_fixpoint
end
theorem zAj:(∀ (w0:tN) (point:(List Int)) r,tI w0 point=some r→∀ {I:Imm}{r0:Nat}{p c p1 c1 cs p2 c2},(S4 I p w0.nest c)→(RL I cs w0.out)→(S4 I p2 point c2)→RT 160 [vP r0 0,vS p2 point c2] I [hB r0 [vS p w0.nest c,vI w0.steps,vS p1 w0.out c1],hO (List Int) (vS p1 w0.out c1) cs] (mU r0 r))∧(∀ (point:(List Int)) (y3:Int) (n0:Int) (nest:List zE) (steps:Int) (out:List (List Int)) o,sK point y3 n0 nest steps out=some o→∀ {B}{I0 I:Imm}{Q}  {r0:Nat}{p2 c2 p7 c7 p8 c8 cs3},I0.le I→(S4 I p2 point c2)→(S4 I p7 nest c7)→(RL I cs3 out)→NG Q→NO Q→(∀ (I':Imm) (nest1:List zE) (steps1:Int) (out1:List (List Int)) (p9:Option Addr) (c9:Nat) (p10:Option Addr) (c10:Nat) (cs4:List Value),o=(.done (nest1,steps1,out1))→I0.le I'→(S4 I' p9 nest1 c9)→(RL I' cs4 out1)→T 75 B Q (.exit 0) I' [hB r0 [vS p9 nest1 c9,vI steps1,vS p10 out1 c10],hO (List Int) (vS p10 out1 c10) cs4] [])→(∀ r I' hs' m',o=(.ret r)→I0.le I'→RS Tryz.prog Tryz.f160 B (mU r0 r) I' hs' m'→T 75 B Q .ret I' hs' m')→J Tryz.prog 75 B (nav (bodyOf Tryz.f160) [1,1,1,0,1,0]) Q I [hB r0 [vS p7 nest c7,vI steps,vS p8 out c8],hO (List Int) (vS p8 out c8) cs3] [(0,vP r0 0),(1,vS p2 point c2),(6,vI y3),(7,vI n0)]):=by
  refine tI.mutual_partial_correctness _ _ ?_ ?_
  · intro F_impl_walking_walk_l1 ih_impl_walking_walk_l1 w0 point r N I r0 p c p1 c1 cs p2 c2 h h1 h2;refine zX (fn:=Tryz.f160) (c:=(bodyOf Tryz.f160)) Tryz.func160 rfl rfl ?_;rintro B - -;have H:=iS I;refine yF []<|yG<|yK<|yB [0] [(15,.bool ((point.length:Int) == (w0.nest.length:Int)))]<|zL<|yL N ?_ ?_
    · intro hc N;refine yI ?_;obtain ⟨y,hy,N⟩:=zB N;obtain ⟨l,hy1,N⟩:=zB N;refine vC [.p (vP r0 0) [],.p (vP r0 0) [],.p (vP r0 0) [],.p (vP r0 2) [],.p (vS p1 w0.out c1) [0],.p (vS p2 point c2) [],.x (fun I' v hx=>∃ p3 c3 cs1,v=vS p3 y c3∧hx=[hO Int (vS p3 y c3) cs1]∧(RL I' cs1 y)),.x (fun I' v hx=>∃ b,v=vS (some ⟨b,0,none⟩) ([y]:List (List Int)) 1∧hx=[]∧(SL I' (vS (some ⟨b,0,none⟩) ([y]:List (List Int)) 1) ([y]:List (List Int)))),.x (fun I' v hx=>∃ p4 c4 cs2,v=vS p4 l c4∧hx=[hO (List Int) (vS p4 l c4) cs2]∧(RL I' cs2 l))] [[],[],[(1,false)],[(2,false)],[(3,false)],[],[(5,false)],[(6,true)],[(4,false),(7,false),(12,true)]] [hB r0 [vS p w0.nest c,vI w0.steps,vS p1 w0.out c1]] [[hO (List Int) (vS p1 w0.out c1) cs]] [(0,false),(8,true)] (yD [0,1]) ?_ ?_
      · refine Op<|Op<|Op<|Op<|Op<|Op<|Ox ?_<|Ox ?_<|Ox ?_<|On
        · intro I1 hf le1;refine yR [(21,vS p2 point c2)] ?_;have H:=iS I1;have h2:=h2.mono le1;refine xS (mI point _ hy h2) ?_;rintro I0 hs2 v2 k2 le - ⟨p3,c3,cs1,rfl,rfl,h3⟩ -;have H:=H.trans le;exact yP [hO Int (vS p3 y c3) cs1] H ⟨_,_,_,rfl,rfl,h3⟩
        · intro I1 hf le1;refine zF ?_;rintro _ _ ⟨p3,c3,cs1,rfl,rfl,h3⟩;refine yR [(22,vS p3 y c3)] ?_;have H:=iS I1;refine yJ 0 rfl ?_;intro I01 le1 hl0;have h4:=SL.of_frozen hl0 le1 h3;have H:=H.trans le1;refine xU [vS p3 y c3] (List Int) ?_;intro b hb;have h5:RL I01 [vS p3 y c3] ([y]:List (List Int)):=⟨[vS p3 y c3],_,rfl,rfl,⟨_,rfl,h4⟩,rfl⟩;refine yJ 0 rfl ?_;intro I02 le2 hl01;have h6:=SL.of_frozen hl01 le2 h5;have H:=H.trans le2;exact yP [] H ⟨_,rfl,rfl,h6⟩
        intro I1 hf le1;refine zF ?_;rintro _ _ ⟨rfl,rfl⟩;refine zF ?_;rintro _ _ ⟨b,rfl,rfl,h6⟩;refine zF ?_;rintro _ _ rfl;refine yR [(20,vS p1 w0.out c1),(23,vS (some ⟨b,0,none⟩) ([y]:List (List Int)) 1)] ?_;have h1:=iM le1 h1;obtain ⟨ccs,k0,k01⟩:=h6;have h6:SL I1 (vS (some ⟨b,0,none⟩) ([y]:List (List Int)) 1) ([y]:List (List Int)):=⟨_,k0,k01⟩;exact qI 27 1 0 rfl rfl rfl h1 (.inl k0) k01 hy1 fun p4 c4 cs2 h7=>vJ (hs':=(hO (List Int) (vS p4 l c4) cs2::hB r0 [vS p w0.nest c,vI w0.steps,vS p1 w0.out c1]::hf)) rfl<|yP [hO (List Int) (vS p4 l c4) cs2] iR ⟨_,_,_,rfl,rfl,h7⟩
      intro I03 le3;refine zF ?_;rintro _ _ ⟨rfl,rfl⟩;refine zF ?_;rintro _ _ ⟨p4,c4,cs2,rfl,rfl,h7⟩;refine yR [(0,vP r0 0),(16,vP r0 0),(24,vS p4 l c4)] ?_;have h:=h.mono le3;refine yC 11 [] [(26,vP r0 2)]<|xB 1 [vS p w0.nest c,vI w0.steps,vS p4 l c4] [hO (List Int) (vS p4 l c4) cs2,hB r0 [vS p w0.nest c,vI w0.steps,vS p4 l c4]] rfl rfl rfl rfl<|yH rfl<|xD<|yB [1] [(4,.bool (decide ((l.length:Int) ≤ 120)))]<|xP<|zN ?_;obtain rfl:=zC N;exact xF ⟨_,_,(.tmp rfl ResV.nil),(zZ [1,0] rfl (by decide)),⟨_,_,_,_,_,_,rfl,rfl,rfl,h,h7⟩⟩
    intro hc N;refine zV<|xD<|yC 6 [0] [(37,vS p w0.nest c),(39,vI (point.length:Int))]<|bE N fun x hy2 N=>xR rfl rfl h hy2 ?_;intro ad ccs1 hat hrep;obtain ⟨p5,c5,p6,c6,rfl,h8,h9⟩:=tM hrep;refine xN 0 hat (cLoop x p5 c5 p6 c6) (vA (cLoop x p5 c5 p6 c6)) rfl<|yC 9 [] [(42,vS p2 point c2)] ?_;obtain ⟨⟨y2,y3⟩,hy3,N⟩:=zB N;refine xS (zCz x point _ hy3 h8 h9 h2) ?_;rintro I04 hs2 v2 k2 le4 - ⟨v02,v03,rfl,rfl,rfl,rfl⟩ -;have h2:=h2.mono le4;have h:=h.mono le4;have h1:=iM le4 h1;refine yB [] [(5,vI y2),(6,vI y3)]<|yG<|yF [(7,vI y2)]<|wD<|wN [(0,vP r0 0),(1,vS p2 point c2),(6,vI y3),(7,vI y2)] ?_;obtain ⟨o01,ho01,hMl⟩:=zB N;refine ih_impl_walking_walk_l1 point y3 y2 w0.nest w0.steps w0.out o01 ho01 iR h2 h h1 (fun _ _ _ h=>h) (fun _ _ h=>h) ?_ ?_
    · intro I09 nest1 steps1 out1 p9 c9 p10 c10 cs4 heq1 le9 h14 h15;subst o01;refine zU<|wW [(4,vY)]<|zL<|xG ?_;obtain rfl:=zC hMl;exact xF ⟨_,_,(.tmp rfl ResV.nil),(zZ [0,1] rfl (by decide)),⟨_,_,_,_,_,_,rfl,rfl,rfl,h14,h15⟩⟩
    intro r0 I9 hs9 m9 heq9 le9 hrs9;subst heq9;refine yA<|zN ?_;obtain rfl:=zC hMl;exact xF hrs9
  intro F_impl_walking_walk F_impl_walking_walk_l1 ih_impl_walking_walk ih_impl_walking_walk_l1 point y3 n0 nest steps out o N B I0 I Q r0 p2 c2 p7 c7 p8 c8 cs3 H h2 h12 h13 hg ho hx hr;refine yW hg ho<|yI<|yF [(49,.bool (decide (n0 < y3)))]<|zL<|yL N ?_ ?_
  · intro hc1 N;refine zV<|yG<|yM<|yK<|yC 7 [0] [(56,vI (W (steps + 1))),(58,vP r0 1)]<|xB 0 [vS p7 nest c7,vI (W (steps + 1)),vS p8 out c8] [hB r0 [vS p7 nest c7,vI (W (steps + 1)),vS p8 out c8],hO (List Int) (vS p8 out c8) cs3] rfl rfl rfl rfl<|yH rfl<|zL<|yI ?_;obtain ⟨o0,ho0,hMc⟩:=zB N;refine yU (fun I' hs' m'=>∃ (t74:Bool) (nest2:List zE) (steps2:Int) (out2:List (List Int)) (p11:Option Addr) (c11:Nat) (p12:Option Addr) (c12:Nat) (cs5:List Value),o0=(t74,nest2,steps2,out2)∧I.le I'∧(S4 I' p11 nest2 c11)∧(RL I' cs5 out2)∧hs'=[hB r0 [vS p11 nest2 c11,vI steps2,vS p12 out2 c12],hO (List Int) (vS p12 out2 c12) cs5]∧m'=[(0,vP r0 0),(1,vS p2 point c2),(6,vI y3),(7,vI n0),(74,.bool t74)]) ?_ ?_
    · have H:=iS I;refine zP<|yC 7 [0] [(65,.bool (decide ((W ((W (steps + 1)) + 1)) > 1200)))] ?_;cases hc2:(decide ((W ((W (steps + 1)) + 1)) > 1200)) with
      | true =>
       have hM0:=zS hc2 ho0
       try rw [hc2]
       exact yB [] [(74,vY)]<|yS [(0,vP r0 0),(1,vS p2 point c2),(6,vI y3),(7,vI n0),(74,vY)]<|zW ⟨_,_,_,_,_,_,_,_,_,(zC hM0).symm,H,h12,h13,rfl,rfl⟩
      | false =>
       have hM01:=zQ hc2 ho0
       try rw [hc2]
       refine yC 9 [] [(66,vP r0 0),(67,vS p2 point c2)] ?_;obtain ⟨y4,hy4,N⟩:=zB hM01;refine xS (mI point _ hy4 h2) ?_;rintro I06 hs2 v2 k2 le5 - ⟨p13,c13,cs6,rfl,rfl,h18⟩ -;have h12:=h12.mono le5;have h13:=iM le5 h13;have H:=H.trans le5;refine yC 11 [] [(69,vI n0)]<|xU [vI n0] Int ?_;intro b1 hb1;have h19:RL I06 [vI n0] ([n0]:List Int):=⟨[vI n0],_,rfl,rfl,rfl,rfl⟩;obtain ⟨l1,hy5,N⟩:=zB N;refine qI 3 1 1 rfl rfl rfl h18 (.inr ⟨0,rfl⟩) h19 hy5 fun p14 c14 cs7 h20=>sU (yD [1,2,3] (hs':=[hO Int (vS p14 l1 c14) cs7,hB r0 [vS p7 nest c7,vI (W (steps + 1)),vS p8 out c8],hO (List Int) (vS p8 out c8) cs3]))<|yJ 0 rfl ?_;intro I07 le6 hl02;have h21:=SL.of_frozen hl02 le6 h20;have h12:=h12.mono le6;have h13:=iM le6 h13;have H:=H.trans le6;obtain ⟨⟨y6,y7⟩,hy6,N⟩:=zB N;refine tS [hB r0 [vS p7 nest c7,vI (W (steps + 1)),vS p8 out c8],hO (List Int) (vS p8 out c8) cs3] [] (ih_impl_walking_walk (tN.mk nest (W (steps + 1)) out) l1 _ hy6 h12 h13 h21) ?_;rintro I08 hs2 v2 k2 le7 - ⟨v04,p15,c15,p16,c16,cs8,rfl,rfl,rfl,h23,h24⟩ -;have H:=H.trans le7;exact yB [] [(74,.bool (!y6))]<|yS [(0,vP r0 0),(1,vS p2 point c2),(6,vI y3),(7,vI n0),(74,.bool (!y6))]<|zW ⟨_,_,_,_,_,_,_,_,_,(zC N).symm,H,h23,h24,rfl,rfl⟩
    rintro I05 hs2 m2 ⟨t74,nest2,steps2,out2,p11,c11,p12,c12,cs5,heq,le8,h16,h17,rfl,rfl⟩;subst o0;have h2:=h2.mono le8;have H:=H.trans le8;refine zL<|yL hMc ?_ ?_
    · intro hc3 N;exact yF [(4,vF)]<|xP<|yA<|zN<|zN<|hr _ _ _ _ (zC N).symm H ⟨_,_,(.tmp rfl ResV.nil),(zZ [0,1] rfl (by decide)),⟨_,_,_,_,_,_,rfl,rfl,rfl,h16,h17⟩⟩
    intro hc3 N;exact zV<|zR<|zL<|zP<|yB [] [(7,vI (W (n0 + 1)))]<|yT<|wN [(0,vP r0 0),(1,vS p2 point c2),(6,vI y3),(7,vI (W (n0 + 1)))]<|ih_impl_walking_walk_l1 point y3 (W (n0 + 1)) nest2 steps2 out2 _ N H h2 h16 h17 hg ho hx hr
  intro hc1 N;exact vD<|yS []<|hx _ _ _ _ _ _ _ _ _ (zC N).symm H h12 h13
theorem zBK:∀ w0 point r,tI w0 point=some r→∀ {I:Imm}{r0:Nat}{p c p1 c1 cs p2 c2},(S4 I p w0.nest c)→(RL I cs w0.out)→(S4 I p2 point c2)→RT 160 [vP r0 0,vS p2 point c2] I [hB r0 [vS p w0.nest c,vI w0.steps,vS p1 w0.out c1],hO (List Int) (vS p1 w0.out c1) cs] (mU r0 r):=zAj.1
def nI (nest:(List zE)):Option ((List (List Int))×Bool):=do
 let y←mH nest
 if (!y) then
  pure (([]:List (List Int)),false)
 else
  let (y2,y3)←tI (tN.mk nest 0 ([]:List (List Int))) ([]:List Int)
  if (!y2) then
   pure (([]:List (List Int)),false)
  else
   pure (y3.out,true)
theorem zCM:∀ nest r,nI nest=some r→∀ {I:Imm}{p c},(S4 I p nest c)→RT 117 [vS p nest c] I [] (gU  r):=by
 intro nest r N I p c h;unfold nI at N;refine zX (fn:=Tryz.f117) (c:=(bodyOf Tryz.f117)) Tryz.func117 rfl rfl ?_;rintro B - -;refine yF []<|yG<|yK<|yC 1 [] [(5,vS p nest c)]<|bE N fun y hy N=>tQ (zCy nest _ hy h) ?_;intro I0 le;have h:=h.mono le;refine yB [] [(7,.bool (!y))]<|zL<|yL N ?_ ?_
 · intro hc N;refine yF [(2,z0),(3,vF)]<|xP<|zN ?_;obtain rfl:=zC N;exact xF ⟨_,_,(.tmp rfl (.tmp rfl ResV.nil)),zT,⟨_,_,rfl,rfl,(SL.nil _),rfl⟩⟩
 intro hc N;refine zV<|xD<|yC 2 [] [(9,vA [vS p nest c,vI 0,z0])]<|tO [vS p nest c,vI 0,z0] ?_;intro b hb;refine yB [] [(4,vP b 0)]<|yG<|yK<|yC 1 [] [(11,vP b 0)]<|sU (wT (Rp.sz (List Int))) ?_;have h2:RL I0 [] ([]:List (List Int)):=RepL.nil;refine sU (yD [1,0] (hs':=[hB b [vS p nest c,vI 0,vS none ([]:List (List Int)) 0],hO (List Int) (vS none ([]:List (List Int)) 0) []])) ?_;obtain ⟨⟨y2,y3⟩,hy1,N⟩:=zB N;refine tS [hB b [vS p nest c,vI 0,vS none ([]:List (List Int)) 0],hO (List Int) (vS none ([]:List (List Int)) 0) []] [] (zBK (tN.mk nest 0 ([]:List (List Int))) ([]:List Int) _ hy1 h h2 (SL.nil _)) ?_;rintro I01 hs2 v2 k2 le1 - ⟨v01,p1,c1,p2,c2,cs,rfl,rfl,rfl,h4,h5⟩ -;refine yB [] [(13,.bool (!y2))]<|zL<|yL N ?_ ?_
 · intro hc1 N;refine yF [(2,z0),(3,vF)]<|xP<|zN ?_;obtain rfl:=zC N;exact xF ⟨_,_,(.tmp rfl (.tmp rfl ResV.nil)),zT,⟨_,_,rfl,rfl,(SL.nil _),rfl⟩⟩
 intro hc1 N;refine zV<|xD<|yB [0] [(2,vS p2 y3.out c2),(3,vY)]<|xP<|xA 1 rfl ?_;intro I02 le2 hl0;have h6:=SL.of_frozen hl0 le2 h5;obtain rfl:=zC N;exact xF ⟨_,_,(.tmp rfl (.tmp rfl ResV.nil)),zT,⟨_,_,rfl,rfl,h6,rfl⟩⟩
def qM (hsF:List HA) (r:Int):KT:=fun kk I' hs' v=>
  ∃ v0,hsF=hs'∧v=tupV [v0]∧v0=.int .i64 r
def xJ (s:(List zJ)) (f0:(zJ→Option Bool)) (t8:Int):Option (Out Unit (Int)):=do
 if (decide (t8 < (s.length:Int))) then
  let x←idx s t8
  let y←f0 x
  if y then
   pure (.ret t8)
  else
   xJ s f0 (W (t8 + 1))
 else
  pure (.done ())
 partial_fixpoint
theorem mV (s:(List zJ)) (f0:(zJ→Option Bool)):∀ (t8:Int) (o:Out Unit (Int)),xJ s f0 t8=some o→∀ {B}{I0 I:Imm}{Q p c}{fv:Value}{hsF:List HA},I0.le I→(S4 I p s c)→(FV1 Tryz.prog I hsF fv f0)→NG Q→NO Q→(∀ (I':Imm) ,o=(.done ())→I0.le I'→T 19 B Q (.exit 0) I' hsF [])→(∀ r I' hs' m',o=(.ret r)→I0.le I'→RS Tryz.prog Tryz.f161 B (qM hsF r) I' hs' m'→T 19 B Q .ret I' hs' m')→J Tryz.prog 19 B (nav (bodyOf Tryz.f161) [1,0,1,0]) Q I hsF [(0,vS p s c),(1,fv),(7,vI (s.length:Int)),(8,vI t8)]:=by
 refine xJ.partial_correctness s f0 _ fun self ih t8 o N B I0 I Q p c fv hsF H h h1 hg ho hx hr=>yW hg ho<|yF [(9,.bool (decide (t8 < (s.length:Int))))]<|yG<|yL N ?_ ?_
 · intro hc N;refine zV<|yG<|yM<|yF [(5,vI t8)]<|xD<|yC 3 [] [(11,fv),(12,vS p s c),(13,vI t8)]<|bE N fun x hy N=>xR rfl rfl h hy ?_;intro ad ccs hat hrep;obtain ⟨p1,c1,p2,c2,p3,c3,p4,c4,rfl,h2,h3,h4,h5⟩:=rC hrep;refine xN 0 hat (cStmt x p1 c1 p2 c2 p3 c3 p4 c4) (vA (cStmt x p1 c1 p2 c2 p3 c3 p4 c4)) rfl<|bE N fun y hy1 N=>zIA rfl rfl h1 hy1 ⟨_,rfl,(wJ ⟨_,_,_,_,rfl,h2,h3,h4,h5⟩)⟩ (List.append_nil _).symm ?_;rintro I0 v04 le rfl;refine vJ (hs':=hsF) (List.append_nil _) ?_;have h:=h.mono le;have h1:=h1.mono le;have H:=H.trans le;refine yH rfl<|zL<|yL N ?_ ?_
   · intro hc1 N;exact yF [(4,vI t8)]<|xP<|yA<|zN<|zN<|hr _ _ _ _ (zC N).symm H ⟨_,_,(.tmp rfl ResV.nil),(fun _ h=>h),⟨_,rfl,rfl,rfl⟩⟩
   intro hc1 N;exact zV<|zR<|zL<|zP<|yB [] [(8,vI (W (t8 + 1)))]<|yT<|wN [(0,vS p s c),(1,fv),(7,vI (s.length:Int)),(8,vI (W (t8 + 1)))]<|ih (W (t8 + 1)) _ N H h h1 hg ho hx hr
 intro hc N;exact vD<|yS []<|hx _  (zC N).symm H
def vO (s:(List zJ)) (f0:(zJ→Option Bool)):Option (Int):=do
 match←xJ s f0 0 with
 | .ret r0=>pure r0
 | .done _ =>
  pure (-1)
theorem kJ:∀ s f0 r,vO s f0=some r→∀ {I:Imm}{p c}{fv:Value}{hsF:List HA},(S4 I p s c)→(FV1 Tryz.prog I hsF fv f0)→RT 161 [vS p s c,fv] I hsF (qM hsF r):=by
 intro s f0 r N I p c fv hsF h h1;unfold vO at N;refine zX (fn:=Tryz.f161) (c:=(bodyOf Tryz.f161)) Tryz.func161 rfl rfl ?_;rintro B - -;refine yF []<|yG<|yF [(7,vI (s.length:Int)),(8,vI 0)]<|wD<|wN [(0,vS p s c),(1,fv),(7,vI (s.length:Int)),(8,vI 0)] ?_;obtain ⟨o0,ho0,hMl⟩:=zB N;refine mV s f0 0 o0 ho0 iR h h1 (fun _ _ _ h=>h) (fun _ _ h=>h) ?_ ?_
 · intro I01  heq le1;subst o0;refine zU<|wW [(4,vI (-1))]<|zL<|xG ?_;obtain rfl:=zC hMl;exact xF ⟨_,_,(.tmp rfl ResV.nil),(fun _ h=>h),⟨_,rfl,rfl,rfl⟩⟩
 intro r0 I9 hs9 m9 heq9 le9 hrs9;subst heq9;refine yA<|zN ?_;obtain rfl:=zC hMl;exact xF hrs9
def mK (hsF:List HA) (r:Bool):KT:=fun kk I' hs' v=>
  ∃ v0,hsF=hs'∧v=tupV [v0]∧v0=.bool r
def xW (s:(List zJ)) (f0:(zJ→Option Bool)):Option (Bool):=do
 let y←vO s f0
 pure (decide (y ≥ 0))
theorem mW:∀ s f0 r,xW s f0=some r→∀ {I:Imm}{p c}{fv:Value}{hsF:List HA},(S4 I p s c)→(FV1 Tryz.prog I hsF fv f0)→RT 118 [vS p s c,fv] I hsF (mK hsF r):=by
 intro s f0 r N I p c fv hsF h h1;unfold xW at N;refine zX (fn:=Tryz.f118) (c:=(bodyOf Tryz.f118)) Tryz.func118 rfl rfl ?_;rintro B - -;refine yF []<|xD<|yC 2 [] [(5,vS p s c),(6,fv)]<|bE N fun y hy N=>zDR (hs1:=hsF) (rest:=[]) rfl rfl rfl rfl (by kernel_rfl) rfl (List.append_nil _).symm (kJ s f0 _ hy h h1) ?_;rintro I0 hs2 v2 k2 le - ⟨v0,rfl,rfl,rfl⟩ -;refine vJ (hs':=hsF) (List.append_nil _) ?_;refine yB [] [(4,.bool (decide (y ≥ 0)))]<|zL<|xG ?_;obtain rfl:=zC N;exact xF ⟨_,_,(.tmp rfl ResV.nil),(fun _ h=>h),⟨_,rfl,rfl,rfl⟩⟩
def qF (s:zA) (x:Int):Option (Bool):=do
 let t3←(do
   let y←rK s
   if (!y) then
    pure true
   else
    let y1←sO s
    pure (decide (y1 > x))
     : Option Bool)
 pure (id t3)
theorem zCN:∀ s x r,qF s x=some r→∀ {I:Imm}{p c}{ad:Addr},(S4 I p s.Coefs c)→(At I ad [vI x])→RT 105 [vA (cAff s p c),.pointer (some ad)] I [] (zY  r):=by
 intro s x r N I p c ad h hat;unfold qF at N;refine zX (fn:=Tryz.f105) (c:=(bodyOf Tryz.f105)) Tryz.func105 rfl rfl ?_;rintro B - -;have H:=iS I;refine yK<|tO (cAff s p c) ?_;intro b hb;refine yB [] []<|zL<|yI ?_;obtain ⟨o0,ho0,hMc⟩:=zB N;refine yU (fun I' hs' m'=>∃ (t3:Bool),o0=t3∧I.le I'∧hs'=[]∧m'=[(3,.bool t3)]) ?_ ?_
 · have H:=iS I;obtain ⟨y,hy,N⟩:=zB ho0;cases hc:(!y) with
   | true =>
    have hM0:=zS hc N;refine vC [.p (vA (cAff s p c)) [0],.q (.bool y),.q vY,.q vY,.p undef [],.p undef [],.p undef [],.p undef [],.p vY []] [[],[(0,false)],[(1,false)],[(2,false)],[(3,false)],[(3,false),(4,false)],[(3,false)],[(3,false),(5,false),(6,false)],[(3,false),(7,false)]] [hB b (cAff s p c)] [] [(8,false)] (yD [0]) ?_ ?_
    · refine Op<|Oq ?_<|Oq ?_<|Oq ?_<|Op<|Op<|Op<|Op<|Op<|On
      · intro I1 hf le1;refine yR [(4,vA (cAff s p c))] ?_;have H:=iS I1;have h:=h.mono le1;refine tQ (oF s _ hy h) ?_;intro I01 le;have H:=H.trans le;exact xI H
      · intro I1 hf le1;refine yR [(5,.bool y)]<|pM 3 [(6,.bool (!y))] ?_;rw [hc];exact xI iR
      intro I1 hf le1;exact yR [(6,vY)]<|pM 4 [(7,vY)]<|xI iR
    intro I02 le1;refine yR [(12,vY)] ?_;have H:=H.trans le1;exact yB [] [(3,vY)]<|wC zT<|yS [(3,vY)]<|zW (ct hM0 H)
   | false =>
    have hM01:=zQ hc N;obtain ⟨y1,hy1,N⟩:=zB hM01;refine vC [.p (vA (cAff s p c)) [0],.q (.bool y),.q vF,.q vF,.p (vA (cAff s p c)) [0],.q (vI y1),.q (vI x),.p (.bool (decide (y1 > x))) [],.p (.bool (decide (y1 > x))) []] [[],[(0,false)],[(1,false)],[(2,false)],[(3,false)],[(3,false),(4,false)],[(3,false)],[(3,false),(5,false),(6,false)],[(3,false),(7,false)]] [hB b (cAff s p c)] [] [(8,false)] (yD [0]) ?_ ?_
    · refine Op<|Oq ?_<|Oq ?_<|Oq ?_<|Op<|Oq ?_<|Oq ?_<|Op<|Op<|On
      · intro I1 hf le1;refine yR [(4,vA (cAff s p c))] ?_;have H:=iS I1;have h:=h.mono le1;refine tQ (oF s _ hy h) ?_;intro I01 le;have H:=H.trans le;exact xI H
      · intro I1 hf le1;refine yR [(5,.bool y)]<|pM 3 [(6,.bool (!y))] ?_;rw [hc];exact xI iR
      · intro I1 hf le1;exact yR [(6,vF)]<|pM 4 [(7,vF)]<|xI iR
      · intro I1 hf le1;refine yR [(7,vF),(8,vA (cAff s p c))] ?_;have H:=iS I1;have h:=h.mono le1;refine kI (kV s _ hy1 h) ?_;intro I03 le2;have H:=H.trans le2;exact xI H
      intro I1 hf le1;refine yR [(1,.pointer (some ad)),(7,vF)] ?_;have hat:=hat.mono le1;exact xN 0 hat [vI x] (vI x) rfl<|xI iR
    intro I04 le3;refine yR [(12,.bool (decide (y1 > x)))] ?_;have H:=H.trans le3;exact yB [] [(3,.bool (decide (y1 > x)))]<|wC zT<|yS [(3,.bool (decide (y1 > x)))]<|zW (ct N H)
 rintro I0 hs2 m2 ⟨t3,heq,le4,rfl,rfl⟩;subst o0;refine zL<|xG ?_;obtain rfl:=zC hMc;exact uM
def nC (a0:zI) (depth:Int):Option (Bool):=do
 let t4←(do
   let y←mG a0.Array
   if y then
    let y1←wA (a0.Subs.length:Int) 1 2
    if y1 then
     let y2←xK a0.Subs (fun x0=>qF x0 depth)
     pure (!y2)
    else
     pure false
   else
    pure false
     : Option Bool)
 pure (id t4)
theorem zAG:∀ a0 depth r,nC a0 depth=some r→∀ {I:Imm}{p c},(S4 I p a0.Subs c)→RT 54 [vA (cAccess a0 p c),vI depth] I [] (zY  r):=by
 intro a0 depth r N I p c h;unfold nC at N;refine zX (fn:=Tryz.f54) (c:=(bodyOf Tryz.f54)) Tryz.func54 rfl rfl ?_;rintro B - -;have H:=iS I;refine yK<|tO (cAccess a0 p c) ?_;intro b hb;refine tO [vI depth] ?_;intro b1 hb1;refine yJ 0 rfl ?_;intro I0 le hl0;have hat:At I0 ⟨b1,0,none⟩ [vI depth]:=At.of_blk hl0;have h:=h.mono le;have H:=H.trans le;refine yB [] []<|zL<|yI ?_;obtain ⟨o0,ho0,hMc⟩:=zB N;refine yU (fun I' hs' m'=>∃ (t4:Bool),o0=t4∧I0.le I'∧hs'=[]∧m'=[(4,.bool t4)]) ?_ ?_
 · have H:=iS I0;refine zP<|yC 2 [0] [(6,vT a0.Array.l)] ?_;obtain ⟨y,hy,N⟩:=zB ho0;refine tQ (oA a0.Array _ hy ) ?_;intro I02 le1;have hat:=hat.mono le1;have h:=h.mono le1;have H:=H.trans le1;refine yC 4 [] [(8,.bool y)] ?_;cases hc:y with
   | true =>
    have hM0:=zS hc N
    try rw [hc]
    refine yC 7 [0] [(11,vI (a0.Subs.length:Int))] ?_;obtain ⟨y1,hy1,N⟩:=zB hM0;refine tQ (wM (a0.Subs.length:Int) 1 2 _ hy1 ) ?_;intro I03 le2;have hat:=hat.mono le2;have h:=h.mono le2;have H:=H.trans le2;refine yC 10 [] [(14,.bool y1)] ?_;cases hc1:y1 with
    | true =>
     have hM01:=zS hc1 N
     try rw [hc1]
     refine yC 13 [0] [(16,vS p a0.Subs c),(17,.func (.func 105) ⟨[]⟩ ⟨[vP b1 0]⟩)] ?_;have hf0:FV1 Tryz.prog I03 [] (.func (.func 105) ⟨[]⟩ ⟨[vP b1 0]⟩) (fun x0=>qF x0 depth):=by
       refine FV1.intro ?_;intro I1 le1 x0 r u0 hF k0;obtain ⟨_,rfl,k0⟩:=k0;obtain ⟨p1,c1,rfl,h3⟩:=yQ k0;exact (zCN x0 depth r hF h3 (hat.mono le1)).mono (by rintro k i hs u ⟨v0,rfl,rfl,h⟩; exact ⟨rfl,h⟩)
     obtain ⟨y2,hy2,N⟩:=zB hM01;refine xS (rA a0.Subs (fun x0=>qF x0 depth) _ hy2 h hf0) ?_;rintro I04 hs2 v2 k2 le3 - ⟨v03,rfl,rfl,rfl⟩ -;have H:=H.trans le3;exact yB [] [(4,.bool (!y2))]<|wC zT<|yS [(4,.bool (!y2))]<|zW (ct N H)
    | false =>
     have hM02:=zQ hc1 N
     try rw [hc1]
     exact yB [] [(4,vF)]<|wC zT<|yS [(4,vF)]<|zW (ct hM02 H)
   | false =>
    have hM03:=zQ hc N
    try rw [hc]
    exact yB [] [(4,vF)]<|wC zT<|yS [(4,vF)]<|zW (ct hM03 H)
 rintro I01 hs2 m2 ⟨t4,heq,le4,rfl,rfl⟩;subst o0;refine zL<|xG ?_;obtain rfl:=zC hMc;exact uM
def nD (a0:zA):Option (Bool):=do
 let t2←(do
   if ((a0.Coefs.length:Int) == 0) then
    pure (a0.Const == 0)
   else
    pure false
     : Option Bool)
 pure (id t2)
theorem zAH:∀ a0 r,nD a0=some r→∀ {I:Imm}{p c},(S4 I p a0.Coefs c)→RT 153 [vA (cAff a0 p c)] I [] (zY  r):=by
 intro a0 r N I p c h;unfold nD at N;refine zX (fn:=Tryz.f153) (c:=(bodyOf Tryz.f153)) Tryz.func153 rfl rfl ?_;rintro B - -;have H:=iS I;refine yK<|tO (cAff a0 p c) ?_;intro b hb;refine yB [] []<|zL<|yI ?_;obtain ⟨o0,ho0,hMc⟩:=zB N;refine yU (fun I' hs' m'=>∃ (t2:Bool),o0=t2∧I.le I'∧hs'=[]∧m'=[(2,.bool t2)]) ?_ ?_
 · have H:=iS I;refine zP<|yC 5 [0] [(7,.bool ((a0.Coefs.length:Int) == 0))] ?_;cases hc:((a0.Coefs.length:Int) == 0) with
   | true =>
    have hM0:=zS hc ho0
    try rw [hc]
    exact yB [0] [(2,.bool (a0.Const == 0))]<|wC zT<|yS [(2,.bool (a0.Const == 0))]<|zW (ct hM0 H)
   | false =>
    have hM01:=zQ hc ho0
    try rw [hc]
    exact yB [] [(2,vF)]<|wC zT<|yS [(2,vF)]<|zW (ct hM01 H)
 rintro I0 hs2 m2 ⟨t2,heq,le,rfl,rfl⟩;subst o0;refine zL<|xG ?_;obtain rfl:=zC hMc;exact uM
def qN (a0:zI):Option (Bool):=do
 let t2←(do
   if (a0.Array.l == ([]:List UInt8)) then
    pure ((a0.Subs.length:Int) == 0)
   else
    pure false
     : Option Bool)
 pure (id t2)
theorem kX:∀ a0 r,qN a0=some r→∀ {I:Imm}{p c},(S4 I p a0.Subs c)→RT 154 [vA (cAccess a0 p c)] I [] (zY  r):=by
 intro a0 r N I p c h;unfold qN at N;refine zX (fn:=Tryz.f154) (c:=(bodyOf Tryz.f154)) Tryz.func154 rfl rfl ?_;rintro B - -;have H:=iS I;refine yK<|tO (cAccess a0 p c) ?_;intro b hb;refine yB [] []<|zL<|yI ?_;obtain ⟨o0,ho0,hMc⟩:=zB N;refine yU (fun I' hs' m'=>∃ (t2:Bool),o0=t2∧I.le I'∧hs'=[]∧m'=[(2,.bool t2)]) ?_ ?_
 · have H:=iS I;refine zP<|yC 4 [0] [(6,.bool (a0.Array.l == ([]:List UInt8)))] ?_;cases hc:(a0.Array.l == ([]:List UInt8)) with
   | true =>
    have hM0:=zS hc ho0
    try rw [hc]
    exact yB [0] [(2,.bool ((a0.Subs.length:Int) == 0))]<|wC zT<|yS [(2,.bool ((a0.Subs.length:Int) == 0))]<|zW (ct hM0 H)
   | false =>
    have hM01:=zQ hc ho0
    try rw [hc]
    exact yB [] [(2,vF)]<|wC zT<|yS [(2,vF)]<|zW (ct hM01 H)
 rintro I0 hs2 m2 ⟨t2,heq,le,rfl,rfl⟩;subst o0;refine zL<|xG ?_;obtain rfl:=zC hMc;exact uM
def gW (kind:Int):Option (Bool):=do
 let y←wA kind 4 6
 pure (id y)
theorem zGZ:∀ kind r,gW kind=some r→∀ {I:Imm} ,RT 155 [vI kind] I [] (zY  r):=by
 intro kind r N I;unfold gW at N;refine zX (fn:=Tryz.f155) (c:=(bodyOf Tryz.f155)) Tryz.func155 rfl rfl ?_;rintro B - -;refine yF []<|xD<|yC 1 [] [(3,vI kind)]<|bE N fun y hy N=>tQ (wM kind 4 6 _ hy ) fun I0 le=>yB [] [(2,.bool y)]<|zL<|xG ?_;obtain rfl:=zC N;exact uM
def zCO (b0:Nat) (r:Bool×Int):KT:=fun kk I' hs' v=>
  ∃ v0 k0,hs'=[.blk b0 ⟨k0⟩]∧v=tupV [v0]∧v0=.bool r.1∧Rp.rep I' k0 r.2
def vZ (e0:zG) (depth:Int) (deep:Int) (count:Int):Option (Bool×Int):=do
 let t21←(do
   if (decide ((W (count + 1)) > 12)) then
    pure true
   else
    pure (decide (deep > 5))
     : Option Bool)
 if t21 then
  pure (false,(W (count + 1)))
 else
  let t51←(do
    if (e0.Kind != 1) then
     if (e0.Num != 0) then
      pure true
     else
      if (e0.Kind != 2) then
       let y←nD e0.Index
       if (!y) then
        pure true
       else
        if (e0.Kind != 3) then
         let y1←qN e0.Read
         pure (!y1)
        else
         pure false
      else
       if (e0.Kind != 3) then
        let y2←qN e0.Read
        pure (!y2)
       else
        pure false
    else
     if (e0.Kind != 2) then
      let y3←nD e0.Index
      if (!y3) then
       pure true
      else
       if (e0.Kind != 3) then
        let y4←qN e0.Read
        pure (!y4)
       else
        pure false
     else
      if (e0.Kind != 3) then
       let y5←qN e0.Read
       pure (!y5)
      else
       pure false
      : Option Bool)
  if t51 then
   pure (false,(W (count + 1)))
  else
   if (e0.Kind == 1) then
    let t8←(do
      let y6←wA e0.Num 0 99
      if y6 then
       pure ((e0.Kids.length:Int) == 0)
      else
       pure false
        : Option Bool)
    pure (t8,(W (count + 1)))
   else
    if (e0.Kind == 2) then
     let t81←(do
       let y7←rK e0.Index
       if y7 then
        let y8←sO e0.Index
        if (decide (y8 ≤ depth)) then
         pure ((e0.Kids.length:Int) == 0)
        else
         pure false
       else
        pure false
         : Option Bool)
     pure (t81,(W (count + 1)))
    else
     if (e0.Kind == 3) then
      let t82←(do
        let y9←nC e0.Read depth
        if y9 then
         pure ((e0.Kids.length:Int) == 0)
        else
         pure false
          : Option Bool)
      pure (t82,(W (count + 1)))
     else
      let t99←(do
        let y10←gW e0.Kind
        if (!y10) then
         pure true
        else
         pure ((e0.Kids.length:Int) != 2)
          : Option Bool)
      if t99 then
       pure (false,(W (count + 1)))
      else
       let (t83,x)←(do
         let x1←idx e0.Kids 0
         let (y12,y13)←vZ (same x1) (same depth) (W (deep + 1)) (W (count + 1))
         if y12 then
          let x2←idx e0.Kids 1
          let (y15,y16)←vZ (same x2) (same depth) (W (deep + 1)) (same y13)
          pure (y15,y16)
         else
          pure (false,y13)
           : Option (Bool×Int))
       pure (t83,x)
 partial_fixpoint
theorem zDi:∀ e0 depth deep count r,vZ e0 depth deep count=some r→∀ {I:Imm}{p c p1 c1 p2 c2}{r0:Nat},(S4 I p e0.Index.Coefs c)→(S4 I p1 e0.Read.Subs c1)→(S4 I p2 e0.Kids c2)→RT 110 [vA (cExpr e0 p c p1 c1 p2 c2),vI depth,vI deep,vP r0 0] I [hB r0 [vI count]] (zCO r0 r):=by
 refine vZ.partial_correctness _ fun F_impl_exprScan ih_impl_exprScan e0 depth deep count r N I p c p1 c1 p2 c2 r0 h h1 h2=>zX (fn:=Tryz.f110) (c:=(bodyOf Tryz.f110)) Tryz.func110 rfl rfl ?_;rintro B - -;have H:=iS I;refine yK<|tO (cExpr e0 p c p1 c1 p2 c2) ?_;intro b hb;refine yB [] []<|xD<|yC 5 [1] [(12,vI (W (count + 1))),(13,vP r0 0)]<|xB 1 [vI (W (count + 1))] [hB b (cExpr e0 p c p1 c1 p2 c2),hB r0 [vI (W (count + 1))]] rfl rfl rfl rfl<|yH rfl<|yG<|yI ?_;obtain ⟨o0,ho0,hMc⟩:=zB N;refine yU (fun I' hs' m'=>∃ (t21:Bool),o0=t21∧I.le I'∧hs'=[hB b (cExpr e0 p c p1 c1 p2 c2),hB r0 [vI (W (count + 1))]]∧m'=[(1,vI depth),(2,vI deep),(3,vP r0 0),(4,vP b 0),(21,.bool t21)]) ?_ ?_
 · have H:=iS I;refine zP<|yC 5 [1] [(18,.bool (decide ((W (count + 1)) > 12)))] ?_;cases hc:(decide ((W (count + 1)) > 12)) with
   | true =>
    have hM0:=zS hc ho0
    try rw [hc]
    exact yB [] [(21,vY)]<|yS [(1,vI depth),(2,vI deep),(3,vP r0 0),(4,vP b 0),(21,vY)]<|zW (ct hM0 H)
   | false =>
    have hM01:=zQ hc ho0
    try rw [hc]
    exact yB [] [(21,.bool (decide (deep > 5)))]<|yS [(1,vI depth),(2,vI deep),(3,vP r0 0),(4,vP b 0),(21,.bool (decide (deep > 5)))]<|zW (ct hM01 H)
 rintro I0 hs2 m2 ⟨t21,heq,le,rfl,rfl⟩;subst o0;have h:=h.mono le;have h1:=h1.mono le;have h2:=h2.mono le;have H:=H.trans le;refine zL<|yL hMc ?_ ?_
 · intro hc1 N;refine yF [(8,vF)]<|xP<|zN ?_;obtain rfl:=zC N;exact xF ⟨_,_,(.tmp rfl ResV.nil),(zZ [1] rfl (by decide)),⟨_,_,rfl,rfl,rfl,rfl⟩⟩
 intro hc1 N;refine zV<|yG<|yI ?_;obtain ⟨o01,ho01,hMc1⟩:=zB N;refine yU (fun I' hs' m'=>∃ (t51:Bool),o01=t51∧I0.le I'∧hs'=[hB b (cExpr e0 p c p1 c1 p2 c2),hB r0 [vI (W (count + 1))]]∧m'=[(1,vI depth),(2,vI deep),(3,vP r0 0),(4,vP b 0),(51,.bool t51)]) ?_ ?_
 · have H:=iS I0;refine zP<|yC 4 [0] [(25,.bool (e0.Kind != 1))] ?_;cases hc2:(e0.Kind != 1) with
   | true =>
    have hM02:=zS hc2 ho01
    try rw [hc2]
    refine yC 9 [0] [(30,.bool (e0.Num != 0))] ?_;cases hc3:(e0.Num != 0) with
    | true =>
     have hM03:=zS hc3 hM02
     try rw [hc3]
     exact yB [] [(51,vY)]<|yS [(1,vI depth),(2,vI deep),(3,vP r0 0),(4,vP b 0),(51,vY)]<|zW (ct hM03 H)
    | false =>
     have hM04:=zQ hc3 hM02
     try rw [hc3]
     refine yC 13 [0] [(34,.bool (e0.Kind != 2))] ?_;cases hc4:(e0.Kind != 2) with
     | true =>
      have hM05:=zS hc4 hM04
      try rw [hc4]
      refine yC 15 [0] [(36,vA (cAff e0.Index p c))] ?_;obtain ⟨y,hy,N⟩:=zB hM05;refine tQ (zAH e0.Index _ hy h) ?_;intro I02 le1;have h1:=h1.mono le1;have H:=H.trans le1;refine yC 20 [] [(41,.bool (!y))] ?_;cases hc5:(!y) with
      | true =>
       have hM06:=zS hc5 N
       try rw [hc5]
       exact yB [] [(51,vY)]<|yS [(1,vI depth),(2,vI deep),(3,vP r0 0),(4,vP b 0),(51,vY)]<|zW (ct hM06 H)
      | false =>
       have hM07:=zQ hc5 N
       try rw [hc5]
       refine yC 24 [0] [(45,.bool (e0.Kind != 3))] ?_;cases hc6:(e0.Kind != 3) with
       | true =>
        have hM08:=zS hc6 hM07
        try rw [hc6]
        refine yC 26 [0] [(47,vA (cAccess e0.Read p1 c1))] ?_;obtain ⟨y1,hy1,N⟩:=zB hM08;refine tQ (kX e0.Read _ hy1 h1) ?_;intro I03 le2;have H:=H.trans le2;exact yB [] [(51,.bool (!y1))]<|yS [(1,vI depth),(2,vI deep),(3,vP r0 0),(4,vP b 0),(51,.bool (!y1))]<|zW (ct N H)
       | false =>
        have hM09:=zQ hc6 hM07
        try rw [hc6]
        exact yB [] [(51,vF)]<|yS [(1,vI depth),(2,vI deep),(3,vP r0 0),(4,vP b 0),(51,vF)]<|zW (ct hM09 H)
     | false =>
      have hM010:=zQ hc4 hM04
      try rw [hc4]
      refine yC 24 [0] [(41,vF),(45,.bool (e0.Kind != 3))] ?_;cases hc7:(e0.Kind != 3) with
      | true =>
       have hM011:=zS hc7 hM010
       try rw [hc7]
       refine yC 26 [0] [(47,vA (cAccess e0.Read p1 c1))] ?_;obtain ⟨y2,hy2,N⟩:=zB hM011;refine tQ (kX e0.Read _ hy2 h1) ?_;intro I04 le3;have H:=H.trans le3;exact yB [] [(51,.bool (!y2))]<|yS [(1,vI depth),(2,vI deep),(3,vP r0 0),(4,vP b 0),(51,.bool (!y2))]<|zW (ct N H)
      | false =>
       have hM012:=zQ hc7 hM010
       try rw [hc7]
       exact yB [] [(51,vF)]<|yS [(1,vI depth),(2,vI deep),(3,vP r0 0),(4,vP b 0),(51,vF)]<|zW (ct hM012 H)
   | false =>
    have hM013:=zQ hc2 ho01
    try rw [hc2]
    refine yC 13 [0] [(30,vF),(34,.bool (e0.Kind != 2))] ?_;cases hc8:(e0.Kind != 2) with
    | true =>
     have hM014:=zS hc8 hM013
     try rw [hc8]
     refine yC 15 [0] [(36,vA (cAff e0.Index p c))] ?_;obtain ⟨y3,hy3,N⟩:=zB hM014;refine tQ (zAH e0.Index _ hy3 h) ?_;intro I05 le4;have h1:=h1.mono le4;have H:=H.trans le4;refine yC 20 [] [(41,.bool (!y3))] ?_;cases hc9:(!y3) with
     | true =>
      have hM015:=zS hc9 N
      try rw [hc9]
      exact yB [] [(51,vY)]<|yS [(1,vI depth),(2,vI deep),(3,vP r0 0),(4,vP b 0),(51,vY)]<|zW (ct hM015 H)
     | false =>
      have hM016:=zQ hc9 N
      try rw [hc9]
      refine yC 24 [0] [(45,.bool (e0.Kind != 3))] ?_;cases hc10:(e0.Kind != 3) with
      | true =>
       have hM017:=zS hc10 hM016
       try rw [hc10]
       refine yC 26 [0] [(47,vA (cAccess e0.Read p1 c1))] ?_;obtain ⟨y4,hy4,N⟩:=zB hM017;refine tQ (kX e0.Read _ hy4 h1) ?_;intro I06 le5;have H:=H.trans le5;exact yB [] [(51,.bool (!y4))]<|yS [(1,vI depth),(2,vI deep),(3,vP r0 0),(4,vP b 0),(51,.bool (!y4))]<|zW (ct N H)
      | false =>
       have hM018:=zQ hc10 hM016
       try rw [hc10]
       exact yB [] [(51,vF)]<|yS [(1,vI depth),(2,vI deep),(3,vP r0 0),(4,vP b 0),(51,vF)]<|zW (ct hM018 H)
    | false =>
     have hM019:=zQ hc8 hM013
     try rw [hc8]
     refine yC 24 [0] [(41,vF),(45,.bool (e0.Kind != 3))] ?_;cases hc11:(e0.Kind != 3) with
     | true =>
      have hM020:=zS hc11 hM019
      try rw [hc11]
      refine yC 26 [0] [(47,vA (cAccess e0.Read p1 c1))] ?_;obtain ⟨y5,hy5,N⟩:=zB hM020;refine tQ (kX e0.Read _ hy5 h1) ?_;intro I07 le6;have H:=H.trans le6;exact yB [] [(51,.bool (!y5))]<|yS [(1,vI depth),(2,vI deep),(3,vP r0 0),(4,vP b 0),(51,.bool (!y5))]<|zW (ct N H)
     | false =>
      have hM021:=zQ hc11 hM019
      try rw [hc11]
      exact yB [] [(51,vF)]<|yS [(1,vI depth),(2,vI deep),(3,vP r0 0),(4,vP b 0),(51,vF)]<|zW (ct hM021 H)
 rintro I01 hs2 m2 ⟨t51,heq1,le7,rfl,rfl⟩;subst o01;have h:=h.mono le7;have h1:=h1.mono le7;have h2:=h2.mono le7;have H:=H.trans le7;refine zL<|yL hMc1 ?_ ?_
 · intro hc12 N;refine yF [(8,vF)]<|xP<|zN ?_;obtain rfl:=zC N;exact xF ⟨_,_,(.tmp rfl ResV.nil),(zZ [1] rfl (by decide)),⟨_,_,rfl,rfl,rfl,rfl⟩⟩
 intro hc12 N;refine zV<|yG<|yM<|yK<|yB [0] [(52,.bool (e0.Kind == 1))]<|zL<|yL N ?_ ?_
 · intro hc13 N;refine yI ?_;obtain ⟨o02,ho02,hMc2⟩:=zB N;refine yU (fun I' hs' m'=>∃ (t8:Bool),o02=t8∧I01.le I'∧hs'=[hB r0 [vI (W (count + 1))]]∧m'=[(8,.bool t8)]) ?_ ?_
   · have H:=iS I01;refine zP<|yC 2 [0] [(57,vI e0.Num)] ?_;obtain ⟨y6,hy6,N⟩:=zB ho02;refine tQ (wM e0.Num 0 99 _ hy6 ) ?_;intro I09 le8;have H:=H.trans le8;refine yC 4 [] [(59,.bool y6)] ?_;cases hc14:y6 with
     | true =>
      have hM022:=zS hc14 N
      try rw [hc14]
      exact yB [0] [(8,.bool ((e0.Kids.length:Int) == 0))]<|wC (zZ [1] rfl (by decide))<|yS [(8,.bool ((e0.Kids.length:Int) == 0))]<|zW (ct hM022 H)
     | false =>
      have hM023:=zQ hc14 N
      try rw [hc14]
      exact yB [] [(8,vF)]<|wC (zZ [1] rfl (by decide))<|yS [(8,vF)]<|zW (ct hM023 H)
   rintro I08 hs2 m2 ⟨t8,heq2,le9,rfl,rfl⟩;subst o02;refine xP<|yA<|zN ?_;obtain rfl:=zC hMc2;exact xF ⟨_,_,(.tmp rfl ResV.nil),(zZ [0] rfl (by decide)),⟨_,_,rfl,rfl,rfl,rfl⟩⟩
 intro hc13 N;refine yK<|yB [0] [(65,.bool (e0.Kind == 2))]<|zL<|yL N ?_ ?_
 · intro hc15 N;refine yI ?_;obtain ⟨o03,ho03,hMc3⟩:=zB N;refine yU (fun I' hs' m'=>∃ (t81:Bool),o03=t81∧I01.le I'∧hs'=[hB r0 [vI (W (count + 1))]]∧m'=[(8,.bool t81)]) ?_ ?_
   · have H:=iS I01;refine zP<|yC 2 [0] [(70,vA (cAff e0.Index p c))] ?_;obtain ⟨y7,hy7,N⟩:=zB ho03;refine tQ (oF e0.Index _ hy7 h) ?_;intro I011 le10;have h:=h.mono le10;have H:=H.trans le10;refine yC 4 [] [(72,.bool y7)] ?_;cases hc16:y7 with
     | true =>
      have hM024:=zS hc16 N
      try rw [hc16]
      refine yC 6 [0] [(74,vA (cAff e0.Index p c))] ?_;obtain ⟨y8,hy8,N⟩:=zB hM024;refine kI (kV e0.Index _ hy8 h) ?_;intro I012 le11;have H:=H.trans le11;refine yC 11 [] [(79,.bool (decide (y8 ≤ depth)))] ?_;cases hc17:(decide (y8 ≤ depth)) with
      | true =>
       have hM025:=zS hc17 N
       try rw [hc17]
       exact yB [0] [(8,.bool ((e0.Kids.length:Int) == 0))]<|wC (zZ [1] rfl (by decide))<|yS [(8,.bool ((e0.Kids.length:Int) == 0))]<|zW (ct hM025 H)
      | false =>
       have hM026:=zQ hc17 N
       try rw [hc17]
       exact yB [] [(8,vF)]<|wC (zZ [1] rfl (by decide))<|yS [(8,vF)]<|zW (ct hM026 H)
     | false =>
      have hM027:=zQ hc16 N
      try rw [hc16]
      exact yB [] [(8,vF)]<|wC (zZ [1] rfl (by decide))<|yS [(8,vF)]<|zW (ct hM027 H)
   rintro I010 hs2 m2 ⟨t81,heq3,le12,rfl,rfl⟩;subst o03;refine xP<|yA<|zN ?_;obtain rfl:=zC hMc3;exact xF ⟨_,_,(.tmp rfl ResV.nil),(zZ [0] rfl (by decide)),⟨_,_,rfl,rfl,rfl,rfl⟩⟩
 intro hc15 N;refine yK<|yB [0] [(85,.bool (e0.Kind == 3))]<|zL<|yL N ?_ ?_
 · intro hc18 N;refine yI ?_;obtain ⟨o04,ho04,hMc4⟩:=zB N;refine yU (fun I' hs' m'=>∃ (t82:Bool),o04=t82∧I01.le I'∧hs'=[hB r0 [vI (W (count + 1))]]∧m'=[(8,.bool t82)]) ?_ ?_
   · have H:=iS I01;refine zP<|yC 3 [0] [(90,vA (cAccess e0.Read p1 c1)),(91,vI depth)] ?_;obtain ⟨y9,hy9,N⟩:=zB ho04;refine tQ (zAG e0.Read depth _ hy9 h1) ?_;intro I014 le13;have H:=H.trans le13;refine yC 5 [] [(93,.bool y9)] ?_;cases hc19:y9 with
     | true =>
      have hM028:=zS hc19 N
      try rw [hc19]
      exact yB [0] [(8,.bool ((e0.Kids.length:Int) == 0))]<|wC (zZ [1] rfl (by decide))<|yS [(8,.bool ((e0.Kids.length:Int) == 0))]<|zW (ct hM028 H)
     | false =>
      have hM029:=zQ hc19 N
      try rw [hc19]
      exact yB [] [(8,vF)]<|wC (zZ [1] rfl (by decide))<|yS [(8,vF)]<|zW (ct hM029 H)
   rintro I013 hs2 m2 ⟨t82,heq4,le14,rfl,rfl⟩;subst o04;refine xP<|yA<|zN ?_;obtain rfl:=zC hMc4;exact xF ⟨_,_,(.tmp rfl ResV.nil),(zZ [0] rfl (by decide)),⟨_,_,rfl,rfl,rfl,rfl⟩⟩
 intro hc18 N;refine yI ?_;obtain ⟨o05,ho05,hMc5⟩:=zB N;refine yU (fun I' hs' m'=>∃ (t99:Bool),o05=t99∧I01.le I'∧hs'=[hB b (cExpr e0 p c p1 c1 p2 c2),hB r0 [vI (W (count + 1))]]∧m'=[(1,vI depth),(2,vI deep),(3,vP r0 0),(4,vP b 0),(99,.bool t99)]) ?_ ?_
 · have H:=iS I01;refine zP<|yC 2 [0] [(101,vI e0.Kind)] ?_;obtain ⟨y10,hy10,N⟩:=zB ho05;refine tQ (zGZ e0.Kind _ hy10 ) ?_;intro I016 le15;have H:=H.trans le15;refine yC 5 [] [(104,.bool (!y10))] ?_;cases hc20:(!y10) with
   | true =>
    have hM030:=zS hc20 N
    try rw [hc20]
    exact yB [] [(99,vY)]<|yS [(1,vI depth),(2,vI deep),(3,vP r0 0),(4,vP b 0),(99,vY)]<|zW (ct hM030 H)
   | false =>
    have hM031:=zQ hc20 N
    try rw [hc20]
    exact yB [0] [(99,.bool ((e0.Kids.length:Int) != 2))]<|yS [(1,vI depth),(2,vI deep),(3,vP r0 0),(4,vP b 0),(99,.bool ((e0.Kids.length:Int) != 2))]<|zW (ct hM031 H)
 rintro I015 hs2 m2 ⟨t99,heq5,le16,rfl,rfl⟩;subst o05;have h2:=h2.mono le16;have H:=H.trans le16;refine zL<|yL hMc5 ?_ ?_
 · intro hc21 N;refine yF [(8,vF)]<|xP<|yA<|zN ?_;obtain rfl:=zC N;exact xF ⟨_,_,(.tmp rfl ResV.nil),(zZ [1] rfl (by decide)),⟨_,_,rfl,rfl,rfl,rfl⟩⟩
 intro hc21 N;refine zV<|zR<|zL<|yI ?_;obtain ⟨o06,ho06,hMc6⟩:=zB N;refine yU (fun I' hs' m'=>∃ (t83:Bool) (x:Int),o06=(t83,x)∧I015.le I'∧hs'=[hB r0 [vI x]]∧m'=[(8,.bool t83)]) ?_ ?_
 · have H:=iS I015;refine zP<|yC 2 [0] [(111,vS p2 e0.Kids c2)] ?_;obtain ⟨x1,hy11,N⟩:=zB ho06;refine xR rfl rfl h2 hy11 ?_;intro ad ccs hat hrep;obtain ⟨p3,c3,p4,c4,p5,c5,rfl,h14,h15,h16⟩:=uU hrep;refine xN 0 hat (cExpr x1 p3 c3 p4 c4 p5 c5) (vA (cExpr x1 p3 c3 p4 c4 p5 c5)) rfl<|yC 8 [] [(114,vI depth),(116,vI (W (deep + 1))),(117,vP r0 0)]<|sU (yD [1,0] (hs':=[hB r0 [vI (W (count + 1))],hB b (cExpr e0 p c p1 c1 p2 c2)])) ?_;obtain ⟨⟨y12,y13⟩,hy12,N⟩:=zB N;refine tS [hB r0 [vI (W (count + 1))]] [hB b (cExpr e0 p c p1 c1 p2 c2)] (ih_impl_exprScan x1 depth (W (deep + 1)) (W (count + 1)) _ hy12 h14 h15 h16) ?_;rintro I018 hs2 v2 k2 le17 - ⟨v014,kk,rfl,rfl,rfl,h18⟩ -;have h2:=h2.mono le17;have H:=H.trans le17;obtain rfl:=h18;refine yC 10 [] [(119,.bool y12)] ?_;cases hc22:y12 with
   | true =>
    have hM032:=zS hc22 N
    try rw [hc22]
    refine yC 12 [1] [(121,vS p2 e0.Kids c2)] ?_;obtain ⟨x2,hy13,N⟩:=zB hM032;refine xR rfl rfl h2 hy13 ?_;intro ad1 ccs1 hat1 hrep1;obtain ⟨p6,c6,p7,c7,p8,c8,rfl,h19,h20,h21⟩:=uU hrep1;refine xN 0 hat1 (cExpr x2 p6 c6 p7 c7 p8 c8) (vA (cExpr x2 p6 c6 p7 c7 p8 c8)) rfl<|yC 18 [] [(124,vI depth),(126,vI (W (deep + 1))),(127,vP r0 0)] ?_;obtain ⟨⟨y15,y16⟩,hy14,N⟩:=zB N;refine tS [hB r0 [vI y13]] [hB b (cExpr e0 p c p1 c1 p2 c2)] (ih_impl_exprScan x2 depth (W (deep + 1)) y13 _ hy14 h19 h20 h21) ?_;rintro I019 hs2 v2 k2 le18 - ⟨v018,kk1,rfl,rfl,rfl,h23⟩ -;have H:=H.trans le18;obtain rfl:=h23;exact yB [] [(8,.bool y15)]<|wC (zZ [0] rfl (by decide))<|yS [(8,.bool y15)]<|zW ⟨_,_,(zC N).symm,H,rfl,rfl⟩
   | false =>
    have hM033:=zQ hc22 N
    try rw [hc22]
    exact yB [] [(8,vF)]<|wC (zZ [0] rfl (by decide))<|yS [(8,vF)]<|zW ⟨_,_,(zC hM033).symm,H,rfl,rfl⟩
 rintro I017 hs2 m2 ⟨t83,x,heq6,le19,rfl,rfl⟩;subst o06;refine zL<|xG ?_;obtain rfl:=zC hMc6;exact xF ⟨_,_,(.tmp rfl ResV.nil),(zZ [0] rfl (by decide)),⟨_,_,rfl,rfl,rfl,rfl⟩⟩
def mL (s:zJ) (depth:Int):Option (Bool):=do
 let t4←(do
   let y←wA depth 0 4
   if y then
    let y1←nC s.Write depth
    if y1 then
     let (y3,y4)←vZ s.Value depth 1 0
     pure (id y3)
    else
     pure false
   else
    pure false
     : Option Bool)
 pure (id t4)
theorem zDA:∀ s depth r,mL s depth=some r→∀ {I:Imm}{p c p1 c1 p2 c2 p3 c3},(S4 I p s.Write.Subs c)→(S4 I p1 s.Value.Index.Coefs c1)→(S4 I p2 s.Value.Read.Subs c2)→(S4 I p3 s.Value.Kids c3)→RT 57 [vA (cStmt s p c p1 c1 p2 c2 p3 c3),vI depth] I [] (zY  r):=by
 intro s depth r N I p c p1 c1 p2 c2 p3 c3 h h1 h2 h3;unfold mL at N;refine zX (fn:=Tryz.f57) (c:=(bodyOf Tryz.f57)) Tryz.func57 rfl rfl ?_;rintro B - -;have H:=iS I;refine yK<|tO (cStmt s p c p1 c1 p2 c2 p3 c3) ?_;intro b hb;refine yB [] []<|xD<|wU [vI 0] ?_;intro b1 hb1;refine xB 0 [vI 0] [hB b1 [vI 0],hB b (cStmt s p c p1 c1 p2 c2 p3 c3)] rfl rfl rfl rfl<|yH rfl<|zL<|yI ?_;obtain ⟨o0,ho0,hMc⟩:=zB N;refine yU (fun I' hs' m'=>∃ (t4:Bool),o0=t4∧I.le I'∧hs'=[]∧m'=[(4,.bool t4)]) ?_ ?_
 · have H:=iS I;refine zP<|yC 1 [] [(6,vI depth)] ?_;obtain ⟨y,hy,N⟩:=zB ho0;refine tQ (wM depth 0 4 _ hy ) ?_;intro I01 le;have h:=h.mono le;have h1:=h1.mono le;have h2:=h2.mono le;have h3:=h3.mono le;have H:=H.trans le;refine yC 3 [] [(8,.bool y)] ?_;cases hc:y with
   | true =>
    have hM0:=zS hc N
    try rw [hc]
    refine yC 6 [1] [(10,vA (cAccess s.Write p c)),(11,vI depth)] ?_;obtain ⟨y1,hy1,N⟩:=zB hM0;refine tQ (zAG s.Write depth _ hy1 h) ?_;intro I02 le1;have h1:=h1.mono le1;have h2:=h2.mono le1;have h3:=h3.mono le1;have H:=H.trans le1;refine yC 9 [] [(14,.bool y1)] ?_;cases hc1:y1 with
    | true =>
     have hM01:=zS hc1 N
     try rw [hc1]
     refine yC 12 [1] [(16,vA (cExpr s.Value p1 c1 p2 c2 p3 c3)),(17,vI depth)] ?_;obtain ⟨⟨y3,y4⟩,hy2,N⟩:=zB hM01;refine tS [hB b1 [vI 0]] [hB b (cStmt s p c p1 c1 p2 c2 p3 c3)] (zDi s.Value depth 1 0 _ hy2 h1 h2 h3) ?_;rintro I03 hs2 v2 k2 le2 - ⟨v02,kk,rfl,rfl,rfl,h7⟩ -;have H:=H.trans le2;obtain rfl:=h7;exact yB [] [(4,.bool y3)]<|wC zT<|yS [(4,.bool y3)]<|zW (ct N H)
    | false =>
     have hM02:=zQ hc1 N
     try rw [hc1]
     exact yB [] [(4,vF)]<|wC zT<|yS [(4,vF)]<|zW (ct hM02 H)
   | false =>
    have hM03:=zQ hc N
    try rw [hc]
    exact yB [] [(4,vF)]<|wC zT<|yS [(4,vF)]<|zW (ct hM03 H)
 rintro I0 hs2 m2 ⟨t4,heq,le3,rfl,rfl⟩;subst o0;refine zL<|xG ?_;obtain rfl:=zC hMc;exact uM
def wY (s:zJ) (x:zK):Option (Bool):=do
 let y←mL s (x.Nest.length:Int)
 pure (!y)
theorem fK:∀ s x r,wY s x=some r→∀ {I:Imm}{p c p1 c1 p2 c2 p3 c3}{ad:Addr}{p4 c4 p5 c5},(S4 I p s.Write.Subs c)→(S4 I p1 s.Value.Index.Coefs c1)→(S4 I p2 s.Value.Read.Subs c2)→(S4 I p3 s.Value.Kids c3)→(S4 I p4 x.Nest c4)→(S4 I p5 x.Body c5)→(At I ad (cPart x p4 c4 p5 c5))→RT 119 [vA (cStmt s p c p1 c1 p2 c2 p3 c3),.pointer (some ad)] I [] (zY  r):=by
 intro s x r N I p c p1 c1 p2 c2 p3 c3 ad p4 c4 p5 c5 h h1 h2 h3 h4 h5 hat;unfold wY at N;refine zX (fn:=Tryz.f119) (c:=(bodyOf Tryz.f119)) Tryz.func119 rfl rfl ?_;rintro B - -;refine yK<|tO (cStmt s p c p1 c1 p2 c2 p3 c3) ?_;intro b hb;refine yB [] []<|xD<|yC 2 [0] [(4,vA (cStmt s p c p1 c1 p2 c2 p3 c3)),(5,.pointer (some ad))]<|xN 0 hat [vS p4 x.Nest c4] (vS p4 x.Nest c4) rfl<|yC 4 [] [(7,vI (x.Nest.length:Int))]<|bE N fun y hy N=>tQ (zDA s (x.Nest.length:Int) _ hy h h1 h2 h3) fun I0 le=>yB [] [(3,.bool (!y))]<|zL<|xG ?_;obtain rfl:=zC N;exact uM
def zAb (r:(List zI)):KT:=fun kk I' hs' v=>
  ∃ v0,hs'=[]∧v=tupV [v0]∧SL I' v0 r
mutual
def nJ (e0:zG):Option ((List zI)):=do
 if (e0.Kind == 3) then
  pure ([e0.Read]:List zI)
 else
  let out1←oC (same e0) ([]:List zI) (same 0)
  pure (id out1)
 partial_fixpoint
def oC (e0:zG) (out:List zI) (t15:Int):Option (List zI):=do
 if (decide (t15 < (e0.Kids.length:Int))) then
  let x←idx e0.Kids t15
  let y←nJ (same x)
  let out2←app 40 out y
  oC (same e0) (same out2) (W (t15 + 1))
 else
  pure (id out)
 partial_fixpoint
end
theorem zFB:(∀ (e0:zG) r,nJ e0=some r→∀ {I:Imm}{p c p1 c1 p2 c2},(S4 I p e0.Index.Coefs c)→(S4 I p1 e0.Read.Subs c1)→(S4 I p2 e0.Kids c2)→RT 52 [vA (cExpr e0 p c p1 c1 p2 c2)] I [] (zAb  r))∧(∀ (e0:zG) (out:List zI) (t15:Int) o,oC e0 out t15=some o→∀ {B}{I0 I:Imm}{Q p2 c2 p3 c3 cs},I0.le I→(S4 I p2 e0.Kids c2)→(RL I cs out)→NG Q→NO Q→(∀ (I':Imm) (out1:List zI) (p4:Option Addr) (c4:Nat) (cs1:List Value),o=out1→I0.le I'→(RL I' cs1 out1)→T 25 B Q (.exit 0) I' [hO zI (vS p4 out1 c4) cs1] [(3,vS p4 out1 c4)])→J Tryz.prog 25 B (nav (bodyOf Tryz.f52) [1,1,1,0,1,0]) Q I [hO zI (vS p3 out c3) cs] [(3,vS p3 out c3),(13,vS p2 e0.Kids c2),(14,vI (e0.Kids.length:Int)),(15,vI t15)]):=by
  refine nJ.mutual_partial_correctness _ _ ?_ ?_
  · intro F_impl_reads_l1 ih_impl_reads_l1 e0 r N I p c p1 c1 p2 c2 h h1 h2;refine zX (fn:=Tryz.f52) (c:=(bodyOf Tryz.f52)) Tryz.func52 rfl rfl ?_;rintro B - -;refine yK<|tO (cExpr e0 p c p1 c1 p2 c2) ?_;intro b hb;refine yB [] []<|yG<|yK<|yB [0] [(8,.bool (e0.Kind == 3))]<|zL<|yL N ?_ ?_
    · intro hc N;refine yK<|yC 2 [0] [(10,vA (cAccess e0.Read p1 c1))]<|xU (cAccess e0.Read p1 c1) zI ?_;intro b1 hb1;have h3:RL I (cAccess e0.Read p1 c1) ([e0.Read]:List zI):=⟨(cAccess e0.Read p1 c1),_,rfl,rfl,(oO ⟨_,rfl,h1⟩),rfl⟩;refine yB [] [(2,vS (some ⟨b1,0,none⟩) ([e0.Read]:List zI) 1)]<|xP<|zN<|xA 0 rfl ?_;intro I0 le hl0;have h4:=SL.of_frozen hl0 le h3;obtain rfl:=zC N;exact xF ⟨_,_,(.tmp rfl ResV.nil),zT,⟨_,rfl,rfl,h4⟩⟩
    intro hc N;refine zV<|wW [(3,z0)]<|yG<|yK<|yB [0] [(13,vS p2 e0.Kids c2),(14,vI (e0.Kids.length:Int)),(15,vI 0)]<|wD<|rM (yD [] (hs':=[]))<|wN [(3,z0),(13,vS p2 e0.Kids c2),(14,vI (e0.Kids.length:Int)),(15,vI 0)]<|rM (wT (Rp.sz zI)) ?_;have h5:RL I [] ([]:List zI):=RepL.nil;obtain ⟨o0,ho0,hMl⟩:=zB N;refine ih_impl_reads_l1 e0 ([]:List zI) 0 o0 ho0 iR h2 h5 (fun _ _ _ h=>h) (fun _ _ h=>h) ?_;intro I02 out1 p4 c4 cs1 heq le2 h7;subst o0;refine zU<|wW [(2,vS p4 out1 c4)]<|xP<|xA 0 rfl ?_;intro I03 le3 hl01;have h13:=SL.of_frozen hl01 le3 h7;obtain rfl:=zC hMl;exact xF ⟨_,_,(.tmp rfl ResV.nil),zT,⟨_,rfl,rfl,h13⟩⟩
  intro F_impl_reads F_impl_reads_l1 ih_impl_reads ih_impl_reads_l1 e0 out t15 o N B I0 I Q p2 c2 p3 c3 cs H h2 h6 hg ho hx;refine yW hg ho<|yF [(16,.bool (decide (t15 < (e0.Kids.length:Int))))]<|yG<|yL N ?_ ?_
  · intro hc1 N;refine zV<|yG<|yM<|yK<|bE N fun x hy N=>xR rfl rfl h2 hy ?_;intro ad ccs hat hrep;obtain ⟨p5,c5,p6,c6,p7,c7,rfl,h8,h9,h10⟩:=uU hrep;refine xN 0 hat (cExpr x p5 c5 p6 c6 p7 c7) (vA (cExpr x p5 c5 p6 c6 p7 c7)) rfl<|wU zExpr ?_;intro b2 hb2;refine xB 0 (cExpr x p5 c5 p6 c6 p7 c7) [hB b2 (cExpr x p5 c5 p6 c6 p7 c7),hO zI (vS p3 out c3) cs] rfl rfl rfl rfl<|yH rfl<|zL<|zP<|yC 2 [0] [(19,vS p3 out c3),(20,vA (cExpr x p5 c5 p6 c6 p7 c7))]<|bE N fun y hy1 N=>xS (ih_impl_reads x _ hy1 h8 h9 h10) ?_;rintro I01 hs2 v2 k2 le1 - ⟨v03,rfl,rfl,h11⟩ -;have h2:=h2.mono le1;have h6:=iM le1 h6;have H:=H.trans le1;obtain ⟨p8,c8,rfl⟩:=h11.form;obtain ⟨ccs1,k0,k01⟩:=h11;have h11:SL I01 (vS p8 y c8) y:=⟨_,k0,k01⟩;obtain ⟨out2,hy2,N⟩:=zB N;exact qI 42 2 1 rfl rfl rfl h6 (.inl k0) k01 hy2 fun p9 c9 cs2 h12=>sU (yD [0,1] (hs':=[hB b2 (cExpr x p5 c5 p6 c6 p7 c7),hO zI (vS p9 out2 c9) cs2]))<|yB [] [(3,vS p9 out2 c9)]<|zR<|zL<|zP<|yB [] [(15,vI (W (t15 + 1)))]<|yT<|rM (zZ [1] rfl (by decide))<|wN [(3,vS p9 out2 c9),(13,vS p2 e0.Kids c2),(14,vI (e0.Kids.length:Int)),(15,vI (W (t15 + 1)))]<|ih_impl_reads_l1 e0 out2 (W (t15 + 1)) _ N H h2 h12 hg ho hx
  intro hc1 N;exact vD<|yS [(3,vS p3 out c3)]<|hx _ _ _ _ _ (zC N).symm H h6
theorem zBo:∀ e0 r,nJ e0=some r→∀ {I:Imm}{p c p1 c1 p2 c2},(S4 I p e0.Index.Coefs c)→(S4 I p1 e0.Read.Subs c1)→(S4 I p2 e0.Kids c2)→RT 52 [vA (cExpr e0 p c p1 c1 p2 c2)] I [] (zAb  r):=zFB.1
def tZ (a0:zD) (n0:Int) (t9:Int):Option (Int):=do
 if (decide (t9 < (a0.Dims.length:Int))) then
  let x←idx a0.Dims t9
  tZ a0 (W (n0 * x)) (W (t9 + 1))
 else
  pure (id n0)
 partial_fixpoint
theorem zAk (a0:zD):∀ (n0:Int) (t9:Int) (o:Int),tZ a0 n0 t9=some o→∀ {B}{I0 I:Imm}{Q p c},I0.le I→(S4 I p a0.Dims c)→NG Q→NO Q→(∀ (I':Imm) (n01:Int),o=n01→I0.le I'→T 18 B Q (.exit 0) I' [] [(3,vI n01)])→J Tryz.prog 18 B (nav (bodyOf Tryz.f109) [1,1,0,1,0]) Q I [] [(3,vI n0),(7,vS p a0.Dims c),(8,vI (a0.Dims.length:Int)),(9,vI t9)]:=by
 refine tZ.partial_correctness a0 _ fun self ih n0 t9 o N B I0 I Q p c H h hg ho hx=>yW hg ho<|yF [(10,.bool (decide (t9 < (a0.Dims.length:Int))))]<|yG<|yL N ?_ ?_
 · intro hc N;refine zV<|yG<|yM<|yK<|bE N fun x hy N=>xR rfl rfl h hy ?_;intro ad ccs hat hrep;obtain rfl:=hrep;exact xN 0 hat [vI x] (vI x) rfl<|yB [] [(5,vI x)]<|zL<|zP<|yB [] [(3,vI (W (n0 * x)))]<|zR<|zL<|zP<|yB [] [(9,vI (W (t9 + 1)))]<|yT<|wN [(3,vI (W (n0 * x))),(7,vS p a0.Dims c),(8,vI (a0.Dims.length:Int)),(9,vI (W (t9 + 1)))]<|ih (W (n0 * x)) (W (t9 + 1)) _ N H h hg ho hx
 intro hc N;exact vD<|yS [(3,vI n0)]<|hx _ _ (zC N).symm H
def pV (a0:zD):Option (Int):=do
 let n01←tZ a0 1 0
 pure (id n01)
theorem fZ:∀ a0 r,pV a0=some r→∀ {I:Imm}{p c},(S4 I p a0.Dims c)→RT 109 [vA (cArr a0 p c)] I [] (xE  r):=by
 intro a0 r N I p c h;unfold pV at N;refine zX (fn:=Tryz.f109) (c:=(bodyOf Tryz.f109)) Tryz.func109 rfl rfl ?_;rintro B - -;refine yK<|tO (cArr a0 p c) ?_;intro b hb;refine yB [] []<|wW [(3,vI 1)]<|yG<|yK<|yB [0] [(7,vS p a0.Dims c),(8,vI (a0.Dims.length:Int)),(9,vI 0)]<|wD<|rM (yD [] (hs':=[]))<|wN [(3,vI 1),(7,vS p a0.Dims c),(8,vI (a0.Dims.length:Int)),(9,vI 0)] ?_;obtain ⟨o0,ho0,hMl⟩:=zB N;refine zAk a0 1 0 o0 ho0 iR h (fun _ _ _ h=>h) (fun _ _ h=>h) ?_;intro I0 n01 heq le;subst o0;refine zU<|wW [(2,vI n01)]<|zL<|xG ?_;obtain rfl:=zC hMl;exact uM
def uY (a0:zI) (point:(List Int)) (x:zD) (at0:Int) (t40:Int):Option (Out Int (Int)):=do
 if (decide (t40 < (a0.Subs.length:Int))) then
  let x1←idx a0.Subs t40
  let y1←uX x1 point
  let x2←idx x.Dims t40
  let y2←wA y1 0 (W (x2 - 1))
  if (!y2) then
   pure (.ret (-1))
  else
   let x3←idx x.Dims t40
   uY a0 point x (W ((W (at0 * x3)) + y1)) (W (t40 + 1))
 else
  pure (.done at0)
 partial_fixpoint
theorem zAI (a0:zI) (point:(List Int)) (x:zD):∀ (at0:Int) (t40:Int) (o:Out Int (Int)),uY a0 point x at0 t40=some o→∀ {B}{I0 I:Imm}{Q}{first:Int}{p3 c2 p4 c3 p5 c4}{b2:Nat},I0.le I→(S4 I p4 point c3)→(S4 I p3 a0.Subs c2)→(S4 I p5 x.Dims c4)→NG Q→NO Q→(∀ (I':Imm) (at01:Int),o=(.done at01)→I0.le I'→T 71 B Q (.exit 2) I' [] [(7,vI first),(10,vI at01)])→(∀ r I' hs' m',o=(.ret r)→I0.le I'→RS Tryz.prog Tryz.f56 B (xE  r) I' hs' m'→T 71 B Q .ret I' hs' m')→J Tryz.prog 71 B (nav (bodyOf Tryz.f56) [1,1,0,1,0,0,1,1,0,0,1,1,1,1,0,1,0]) Q I [hB b2 (cArr x p5 c4)] [(2,vS p4 point c3),(7,vI first),(9,vP b2 0),(10,vI at0),(38,vS p3 a0.Subs c2),(39,vI (a0.Subs.length:Int)),(40,vI t40)]:=by
 refine uY.partial_correctness a0 point x _ fun self ih at0 t40 o N B I0 I Q first p3 c2 p4 c3 p5 c4 b2 H h3 h2 h4 hg ho hx hr=>yW hg ho<|yF [(41,.bool (decide (t40 < (a0.Subs.length:Int))))]<|yG<|yL N ?_ ?_
 · intro hc3 N;refine zV<|yG<|yM<|yK<|yC 1 [] [(42,vI t40)]<|bE N fun x1 hy2 N=>xR rfl rfl h2 hy2 ?_;intro ad1 ccs1 hat1 hrep1;obtain ⟨p6,c5,rfl,h6⟩:=yQ hrep1;refine xN 0 hat1 (cAff x1 p6 c5) (vA (cAff x1 p6 c5)) rfl<|wU [z0,vI 0] ?_;intro b3 hb3;refine yC 5 [] [(11,vI t40)]<|xB 0 (cAff x1 p6 c5) [hB b3 (cAff x1 p6 c5),hB b2 (cArr x p5 c4)] rfl rfl rfl rfl<|yH rfl<|xD<|yC 2 [0] [(45,vA (cAff x1 p6 c5)),(46,vS p4 point c3)]<|bE N fun y1 hy3 N=>kI (oG x1 point _ hy3 h6 h3) ?_;intro I01 le1;have h3:=h3.mono le1;have h2:=h2.mono le1;have h4:=h4.mono le1;have H:=H.trans le1;refine yB [] [(13,vI y1)]<|yG<|yK<|yC 4 [1] [(48,vI y1),(50,vS p5 x.Dims c4),(51,vI t40)]<|bE N fun x2 hy4 N=>xR rfl rfl h4 hy4 ?_;intro ad2 ccs2 hat2 hrep2;obtain rfl:=hrep2;refine xN 0 hat2 [vI x2] (vI x2) rfl<|yC 7 [] [(54,vI (W (x2 - 1)))]<|bE N fun y2 hy5 N=>tQ (wM y1 0 (W (x2 - 1)) _ hy5 ) ?_;intro I02 le2;have h3:=h3.mono le2;have h2:=h2.mono le2;have h4:=h4.mono le2;have H:=H.trans le2;refine yB [] [(56,.bool (!y2))]<|zL<|yL N ?_ ?_
   · intro hc4 N;exact yF [(6,vI (-1))]<|xP<|zN<|yA<|zN<|zN<|hr _ _ _ _ (zC N).symm H ⟨_,_,(.tmp rfl ResV.nil),zT,⟨_,rfl,rfl,rfl⟩⟩
   intro hc4 N;refine zV<|zL<|zP<|yC 4 [1] [(57,vI at0),(59,vS p5 x.Dims c4),(60,vI t40)]<|bE N fun x3 hy6 N=>xR rfl rfl h4 hy6 ?_;intro ad3 ccs3 hat3 hrep3;obtain rfl:=hrep3;exact xN 0 hat3 [vI x3] (vI x3) rfl<|yB [] [(10,vI (W ((W (at0 * x3)) + y1)))]<|zR<|zL<|zP<|yB [] [(40,vI (W (t40 + 1)))]<|yT<|rM (zZ [1] rfl (by decide))<|wN [(2,vS p4 point c3),(7,vI first),(9,vP b2 0),(10,vI (W ((W (at0 * x3)) + y1))),(38,vS p3 a0.Subs c2),(39,vI (a0.Subs.length:Int)),(40,vI (W (t40 + 1)))]<|ih (W ((W (at0 * x3)) + y1)) (W (t40 + 1)) _ N H h3 h2 h4 hg ho hx hr
 intro hc3 N;exact vD<|wC zT<|yS [(7,vI first),(10,vI at0)]<|hx _ _ (zC N).symm H
def vQ (p:zH) (a0:zI) (point:(List Int)) (first:Int) (t17:Int):Option (Out Unit (Int)):=do
 if (decide (t17 < (p.Arrays.length:Int))) then
  let x←idx p.Arrays t17
  if (!(x.Name.l == a0.Array.l)) then
   let y←pV x
   vQ p a0 point (W (first + y)) (W (t17 + 1))
  else
   if ((a0.Subs.length:Int) != (x.Dims.length:Int)) then
    pure (.ret (-1))
   else
    match←uY a0 point x 0 0 with
    | .ret r0=>pure (.ret r0)
    | .done at01 =>
     pure (.ret (W (first + at01)))
 else
  pure (.done ())
 partial_fixpoint
theorem zAJ (p:zH) (a0:zI) (point:(List Int)):∀ (first:Int) (t17:Int) (o:Out Unit (Int)),vQ p a0 point first t17=some o→∀ {B}{I0 I:Imm}{Q p1 c p3 c2 p4 c3}{b1:Nat},I0.le I→(S4 I p4 point c3)→(S4 I p1 p.Arrays c)→(S4 I p3 a0.Subs c2)→NG Q→NO Q→(∀ (I':Imm) ,o=(.done ())→I0.le I'→T 71 B Q (.exit 0) I' [] [])→(∀ r I' hs' m',o=(.ret r)→I0.le I'→RS Tryz.prog Tryz.f56 B (xE  r) I' hs' m'→T 71 B Q .ret I' hs' m')→J Tryz.prog 71 B (nav (bodyOf Tryz.f56) [1,1,0,1,0]) Q I [hB b1 (cAccess a0 p3 c2)] [(2,vS p4 point c3),(4,vP b1 0),(7,vI first),(15,vS p1 p.Arrays c),(16,vI (p.Arrays.length:Int)),(17,vI t17)]:=by
 refine vQ.partial_correctness p a0 point _ fun self ih first t17 o N B I0 I Q p1 c p3 c2 p4 c3 b1 H h3 h h2 hg ho hx hr=>yW hg ho<|yF [(18,.bool (decide (t17 < (p.Arrays.length:Int))))]<|yG<|yL N ?_ ?_
 · intro hc N;refine zV<|yG<|yM<|yK<|bE N fun x hy N=>xR rfl rfl h hy ?_;intro ad ccs hat hrep;obtain ⟨p5,c4,rfl,h4⟩:=xX hrep;refine xN 0 hat (cArr x p5 c4) (vA (cArr x p5 c4)) rfl<|wU [vT ([]),z0] ?_;intro b2 hb2;refine xB 0 (cArr x p5 c4) [hB b2 (cArr x p5 c4),hB b1 (cAccess a0 p3 c2)] rfl rfl rfl rfl<|yH rfl<|yG<|yK<|yB [0,1] [(25,.bool (!(x.Name.l == a0.Array.l)))]<|zL<|yL N ?_ ?_
   · intro hc1 N;refine yK<|yC 2 [0] [(26,vI first),(27,vA (cArr x p5 c4))]<|bE N fun y hy1 N=>kI (fZ x _ hy1 h4) ?_;intro I0 le;have h3:=h3.mono le;have h:=h.mono le;have h2:=h2.mono le;have H:=H.trans le;exact yB [] [(7,vI (W (first + y)))]<|zL<|zAn<|oJ<|zU<|zL<|zP<|yB [] [(17,vI (W (t17 + 1)))]<|yT<|rM (zZ [1] rfl (by decide))<|wN [(2,vS p4 point c3),(4,vP b1 0),(7,vI (W (first + y))),(15,vS p1 p.Arrays c),(16,vI (p.Arrays.length:Int)),(17,vI (W (t17 + 1)))]<|ih (W (first + y)) (W (t17 + 1)) _ N H h3 h h2 hg ho hx hr
   intro hc1 N;refine zV<|yG<|yK<|yB [1,0] [(36,.bool ((a0.Subs.length:Int) != (x.Dims.length:Int)))]<|zL<|yL N ?_ ?_
   · intro hc2 N;exact yF [(6,vI (-1))]<|xP<|zN<|yA<|zN<|zN<|hr _ _ _ _ (zC N).symm H ⟨_,_,(.tmp rfl ResV.nil),zT,⟨_,rfl,rfl,rfl⟩⟩
   intro hc2 N;refine zV<|wW [(10,vI 0)]<|yG<|yK<|yB [1] [(38,vS p3 a0.Subs c2),(39,vI (a0.Subs.length:Int)),(40,vI 0)]<|wD<|rM (yD [0] (hs':=[hB b2 (cArr x p5 c4)]))<|wN [(2,vS p4 point c3),(7,vI first),(9,vP b2 0),(10,vI 0),(38,vS p3 a0.Subs c2),(39,vI (a0.Subs.length:Int)),(40,vI 0)] ?_;obtain ⟨o0,ho0,hMl⟩:=zB N;refine zAI a0 point x 0 0 o0 ho0 iR h3 h2 h4 (fun _ _ _ h=>hg _ _ _ h) (fun _ _ h=>ho _ _ h) ?_ ?_
   · intro I03 at01 heq le3;subst o0;have H:=H.trans le3;exact zU<|wW [(6,vI (W (first + at01)))]<|xP<|yA<|zN<|zN<|hr _ _ _ _ (zC hMl).symm H ⟨_,_,(.tmp rfl ResV.nil),zT,⟨_,rfl,rfl,rfl⟩⟩
   intro r0 I9 hs9 m9 heq9 le9 hrs9;subst heq9;exact yA<|zN<|yA<|zN<|zN<|hr _ _ _ _ (zC hMl).symm (H.trans le9) hrs9
 intro hc N;exact vD<|wC zT<|yS []<|hx _  (zC N).symm H
def tJ (p:zH) (a0:zI) (point:(List Int)):Option (Int):=do
 match←vQ p a0 point 0 0 with
 | .ret r0=>pure r0
 | .done _ =>
  pure (-1)
theorem nK:∀ p a0 point r,tJ p a0 point=some r→∀ {I:Imm}{p1 c p2 c1 p3 c2 p4 c3},(S4 I p1 p.Arrays c)→(S4 I p2 p.Parts c1)→(S4 I p3 a0.Subs c2)→(S4 I p4 point c3)→RT 56 [vA (cProg p p1 c p2 c1),vA (cAccess a0 p3 c2),vS p4 point c3] I [] (xE  r):=by
 intro p a0 point r N I p1 c p2 c1 p3 c2 p4 c3 h h1 h2 h3;unfold tJ at N;refine zX (fn:=Tryz.f56) (c:=(bodyOf Tryz.f56)) Tryz.func56 rfl rfl ?_;rintro B - -;refine yK<|tO (cProg p p1 c p2 c1) ?_;intro b hb;refine tO (cAccess a0 p3 c2) ?_;intro b1 hb1;refine yB [] []<|wW [(7,vI 0)]<|yG<|yK<|yB [1] [(15,vS p1 p.Arrays c),(16,vI (p.Arrays.length:Int)),(17,vI 0)]<|wD<|rM (yD [0] (hs':=[hB b1 (cAccess a0 p3 c2)]))<|wN [(2,vS p4 point c3),(4,vP b1 0),(7,vI 0),(15,vS p1 p.Arrays c),(16,vI (p.Arrays.length:Int)),(17,vI 0)] ?_;obtain ⟨o01,ho01,hMl1⟩:=zB N;refine zAJ p a0 point 0 0 o01 ho01 iR h3 h h2 (fun _ _ _ h=>h) (fun _ _ h=>h) ?_ ?_
 · intro I04  heq1 le4;subst o01;refine zU<|wW [(6,vI (-1))]<|zL<|xG ?_;obtain rfl:=zC hMl1;exact uM
 intro r0 I9 hs9 m9 heq9 le9 hrs9;subst heq9;refine yA<|zN ?_;obtain rfl:=zC hMl1;exact xF hrs9
end Go.LN
