/- Helper of the proof (see the last text). -/
import Derived.Test.YtknadcjnkbdpdaaGreatHM2
set_option linter.unusedVariables false
set_option linter.unusedSimpArgs false
namespace Go.LN
open Go.Proofs
set_option maxRecDepth 20000
def mM (e0:zG) (depth:Int):Option (Bool):=do
 if (e0.Kind == 2) then
  let t4←(do
    if (e0.Num == 0) then
     let y←rX e0.Read
     if y then
      let y1←vX e0.Index
      if y1 then
       let y2←rW e0.Index
       pure (decide (y2 ≤ depth))
      else
       pure false
     else
      pure false
    else
     pure false
      : Option Bool)
  pure (id t4)
 else
  if (e0.Kind == 3) then
   let t41←(do
     if (e0.Num == 0) then
      let y3←pI e0.Index
      if y3 then
       let y4←qI e0.Read depth
       pure (id y4)
      else
       pure false
     else
      pure false
       : Option Bool)
   pure (id t41)
  else
   if (e0.Kind == 1) then
    let t42←(do
      if (decide (e0.Num ≥ 0)) then
       if (decide (e0.Num ≤ 99)) then
        let y5←pI e0.Index
        if y5 then
         let y6←rX e0.Read
         pure (id y6)
        else
         pure false
       else
        pure false
      else
       pure false
        : Option Bool)
    pure (id t42)
   else
    let t43←(do
      if (e0.Num == 0) then
       let y7←pI e0.Index
       if y7 then
        let y8←rX e0.Read
        pure (id y8)
       else
        pure false
      else
       pure false
        : Option Bool)
    pure (id t43)
theorem zFi:∀ e0 depth r,mM e0 depth=some r→∀ {I:Imm}{p c p1 c1 p2 c2},(S4 I p e0.Index.Coefs c)→(S4 I p1 e0.Read.Subs c1)→(S4 I p2 e0.Kids c2)→RT 207 [vA (cExpr e0 p c p1 c1 p2 c2),vI depth] I [] (zU  r):=by
 intro e0 depth r N I p c p1 c1 p2 c2 h h1 h2;unfold mM at N;refine zY (fn:=Tryz.f207) (c:=(bodyOf Tryz.f207)) Tryz.func207 rfl rfl ?_;rintro B - -;have H:=iS I;refine yK<|uD (cExpr e0 p c p1 c1 p2 c2) ?_;intro b hb;refine yC [] []<|yI<|yK<|yC [0] [(7,.bool (e0.Kind == 2))]<|zM<|yL N ?_ ?_
 · intro hc N;refine yG ?_;obtain ⟨o0,ho0,hMc⟩:=zB N;refine yU (fun I' hs' m'=>∃ (t4:Bool),o0=t4∧I.le I'∧hs'=[]∧m'=[(4,.bool t4)]) ?_ ?_
   · have H:=iS I;refine zQ<|yD 4 [0] [(11,.bool (e0.Num == 0))] ?_;cases hc1:(e0.Num == 0) with
     | true =>
      have hM0:=zP hc1 ho0
      try rw [hc1]
      refine yD 6 [0] [(13,vA (cAccess e0.Read p1 c1))] ?_;obtain ⟨y,hy,N⟩:=zB hM0;refine vJ (fJ e0.Read _ hy h1) ?_;intro I01 le;have h:=h.mono le;have H:=H.trans le;refine yD 9 [] [(16,.bool y)] ?_;cases hc2:y with
      | true =>
       have hM01:=zP hc2 N
       try rw [hc2]
       refine yD 11 [0] [(18,vA (cAff e0.Index p c))] ?_;obtain ⟨y1,hy1,N⟩:=zB hM01;refine vJ (nR e0.Index _ hy1 h) ?_;intro I02 le1;have h:=h.mono le1;have H:=H.trans le1;refine yD 14 [] [(21,.bool y1)] ?_;cases hc3:y1 with
       | true =>
        have hM02:=zP hc3 N
        try rw [hc3]
        refine yD 16 [0] [(23,vA (cAff e0.Index p c))] ?_;obtain ⟨y2,hy2,N⟩:=zB hM02;refine gB (fI e0.Index _ hy2 h) ?_;intro I03 le2;have H:=H.trans le2;exact yC [] [(4,.bool (decide (y2 ≤ depth)))]<|xU zR<|yT [(4,.bool (decide (y2 ≤ depth)))]<|zV (ct N H)
       | false =>
        have hM03:=zL hc3 N
        try rw [hc3]
        exact yC [] [(4,vF)]<|xU zR<|yT [(4,vF)]<|zV (ct hM03 H)
      | false =>
       have hM04:=zL hc2 N
       try rw [hc2]
       exact yC [] [(4,vF)]<|xU zR<|yT [(4,vF)]<|zV (ct hM04 H)
     | false =>
      have hM05:=zL hc1 ho0
      try rw [hc1]
      exact yC [] [(4,vF)]<|xU zR<|yT [(4,vF)]<|zV (ct hM05 H)
   rintro I0 hs2 m2 ⟨t4,heq,le3,rfl,rfl⟩;subst o0;refine xG<|zH ?_;obtain rfl:=zC hMc;exact wN
 intro hc N;refine zW<|yI<|yK<|yC [0] [(30,.bool (e0.Kind == 3))]<|zM<|yL N ?_ ?_
 · intro hc4 N;refine yG ?_;obtain ⟨o01,ho01,hMc1⟩:=zB N;refine yU (fun I' hs' m'=>∃ (t41:Bool),o01=t41∧I.le I'∧hs'=[]∧m'=[(4,.bool t41)]) ?_ ?_
   · have H:=iS I;refine zQ<|yD 4 [0] [(34,.bool (e0.Num == 0))] ?_;cases hc5:(e0.Num == 0) with
     | true =>
      have hM06:=zP hc5 ho01
      try rw [hc5]
      refine yD 6 [0] [(36,vA (cAff e0.Index p c))] ?_;obtain ⟨y3,hy3,N⟩:=zB hM06;refine vJ (eG e0.Index _ hy3 h) ?_;intro I05 le4;have h1:=h1.mono le4;have H:=H.trans le4;refine yD 9 [] [(39,.bool y3)] ?_;cases hc6:y3 with
      | true =>
       have hM07:=zP hc6 N
       try rw [hc6]
       refine yD 12 [0] [(41,vA (cAccess e0.Read p1 c1)),(42,vI depth)] ?_;obtain ⟨y4,hy4,N⟩:=zB hM07;refine vJ (zAJ e0.Read depth _ hy4 h1) ?_;intro I06 le5;have H:=H.trans le5;exact yC [] [(4,.bool y4)]<|xU zR<|yT [(4,.bool y4)]<|zV (ct N H)
      | false =>
       have hM08:=zL hc6 N
       try rw [hc6]
       exact yC [] [(4,vF)]<|xU zR<|yT [(4,vF)]<|zV (ct hM08 H)
     | false =>
      have hM09:=zL hc5 ho01
      try rw [hc5]
      exact yC [] [(4,vF)]<|xU zR<|yT [(4,vF)]<|zV (ct hM09 H)
   rintro I04 hs2 m2 ⟨t41,heq1,le6,rfl,rfl⟩;subst o01;refine xG<|zH ?_;obtain rfl:=zC hMc1;exact wN
 intro hc4 N;refine zW<|yI<|yK<|yC [0] [(47,.bool (e0.Kind == 1))]<|zM<|yL N ?_ ?_
 · intro hc7 N;refine yG ?_;obtain ⟨o02,ho02,hMc2⟩:=zB N;refine yU (fun I' hs' m'=>∃ (t42:Bool),o02=t42∧I.le I'∧hs'=[]∧m'=[(4,.bool t42)]) ?_ ?_
   · have H:=iS I;refine zQ<|yD 4 [0] [(51,.bool (decide (e0.Num ≥ 0)))] ?_;cases hc8:(decide (e0.Num ≥ 0)) with
     | true =>
      have hM010:=zP hc8 ho02
      try rw [hc8]
      refine yD 9 [0] [(56,.bool (decide (e0.Num ≤ 99)))] ?_;cases hc9:(decide (e0.Num ≤ 99)) with
      | true =>
       have hM011:=zP hc9 hM010
       try rw [hc9]
       refine yD 11 [0] [(58,vA (cAff e0.Index p c))] ?_;obtain ⟨y5,hy5,N⟩:=zB hM011;refine vJ (eG e0.Index _ hy5 h) ?_;intro I08 le7;have h1:=h1.mono le7;have H:=H.trans le7;refine yD 14 [] [(61,.bool y5)] ?_;cases hc10:y5 with
       | true =>
        have hM012:=zP hc10 N
        try rw [hc10]
        refine yD 16 [0] [(63,vA (cAccess e0.Read p1 c1))] ?_;obtain ⟨y6,hy6,N⟩:=zB hM012;refine vJ (fJ e0.Read _ hy6 h1) ?_;intro I09 le8;have H:=H.trans le8;exact yC [] [(4,.bool y6)]<|xU zR<|yT [(4,.bool y6)]<|zV (ct N H)
       | false =>
        have hM013:=zL hc10 N
        try rw [hc10]
        exact yC [] [(4,vF)]<|xU zR<|yT [(4,vF)]<|zV (ct hM013 H)
      | false =>
       have hM014:=zL hc9 hM010
       try rw [hc9]
       exact yC [] [(4,vF)]<|xU zR<|yT [(4,vF)]<|zV (ct hM014 H)
     | false =>
      have hM015:=zL hc8 ho02
      try rw [hc8]
      exact yC [] [(4,vF)]<|xU zR<|yT [(4,vF)]<|zV (ct hM015 H)
   rintro I07 hs2 m2 ⟨t42,heq2,le9,rfl,rfl⟩;subst o02;refine xG<|zH ?_;obtain rfl:=zC hMc2;exact wN
 intro hc7 N;refine zW<|zM<|yG ?_;obtain ⟨o03,ho03,hMc3⟩:=zB N;refine yU (fun I' hs' m'=>∃ (t43:Bool),o03=t43∧I.le I'∧hs'=[]∧m'=[(4,.bool t43)]) ?_ ?_
 · have H:=iS I;refine zQ<|yD 4 [0] [(69,.bool (e0.Num == 0))] ?_;cases hc11:(e0.Num == 0) with
   | true =>
    have hM016:=zP hc11 ho03
    try rw [hc11]
    refine yD 6 [0] [(71,vA (cAff e0.Index p c))] ?_;obtain ⟨y7,hy7,N⟩:=zB hM016;refine vJ (eG e0.Index _ hy7 h) ?_;intro I011 le10;have h1:=h1.mono le10;have H:=H.trans le10;refine yD 9 [] [(74,.bool y7)] ?_;cases hc12:y7 with
    | true =>
     have hM017:=zP hc12 N
     try rw [hc12]
     refine yD 11 [0] [(76,vA (cAccess e0.Read p1 c1))] ?_;obtain ⟨y8,hy8,N⟩:=zB hM017;refine vJ (fJ e0.Read _ hy8 h1) ?_;intro I012 le11;have H:=H.trans le11;exact yC [] [(4,.bool y8)]<|xU zR<|yT [(4,.bool y8)]<|zV (ct N H)
    | false =>
     have hM018:=zL hc12 N
     try rw [hc12]
     exact yC [] [(4,vF)]<|xU zR<|yT [(4,vF)]<|zV (ct hM018 H)
   | false =>
    have hM019:=zL hc11 ho03
    try rw [hc11]
    exact yC [] [(4,vF)]<|xU zR<|yT [(4,vF)]<|zV (ct hM019 H)
 rintro I010 hs2 m2 ⟨t43,heq3,le12,rfl,rfl⟩;subst o03;refine zM<|yX ?_;obtain rfl:=zC hMc3;exact wN
mutual
def tE (e0:zG) (depth:Int) (levels:Int):Option (Bool):=do
 let t24←(do
   if (decide (levels < 1)) then
    pure true
   else
    let y←nK e0.Kind
    if (y != (e0.Kids.length:Int)) then
     pure true
    else
     let y1←mM e0 depth
     pure (!y1)
     : Option Bool)
 if t24 then
  pure false
 else
  match←vQ (same e0) (same depth) (same levels) (same 0) with
  | .ret r0=>pure r0
  | .done _ =>
   pure true
 partial_fixpoint
def vQ (e0:zG) (depth:Int) (levels:Int) (i:Int):Option (Out Unit (Bool)):=do
 if (decide (i < (e0.Kids.length:Int))) then
  let x←idx e0.Kids i
  let y2←tE (same x) (same depth) (W (levels - 1))
  if (!y2) then
   pure (.ret false)
  else
   vQ (same e0) (same depth) (same levels) (W (i + 1))
 else
  pure (.done ())
 partial_fixpoint
end
theorem zDe:(∀ (e0:zG) (depth:Int) (levels:Int) r,tE e0 depth levels=some r→∀ {I:Imm}{p c p1 c1 p2 c2},(S4 I p e0.Index.Coefs c)→(S4 I p1 e0.Read.Subs c1)→(S4 I p2 e0.Kids c2)→RT 182 [vA (cExpr e0 p c p1 c1 p2 c2),vI depth,vI levels] I [] (zU  r))∧(∀ (e0:zG) (depth:Int) (levels:Int) (i:Int) o,vQ e0 depth levels i=some o→∀ {B}{I0 I:Imm}{Q p c p1 c1 p2 c2}{b:Nat},I0.le I→(S4 I p e0.Index.Coefs c)→(S4 I p1 e0.Read.Subs c1)→(S4 I p2 e0.Kids c2)→NG Q→NO Q→(∀ (I':Imm) ,o=(.done ())→I0.le I'→T 42 B Q (.exit 0) I' [] [])→(∀ r I' hs' m',o=(.ret r)→I0.le I'→RS Tryz.prog Tryz.f182 B (zU  r) I' hs' m'→T 42 B Q .ret I' hs' m')→J Tryz.prog 42 B (nav (bodyOf Tryz.f182) [1,1,0,1,0]) Q I [hB b (cExpr e0 p c p1 c1 p2 c2)] [(1,vI depth),(2,vI levels),(3,vP b 0),(7,vI i)]):=by
  refine tE.mutual_partial_correctness _ _ ?_ ?_
  · intro F_spec_l3Shape_l1 ih_spec_l3Shape_l1 e0 depth levels r N I p c p1 c1 p2 c2 h h1 h2;refine zY (fn:=Tryz.f182) (c:=(bodyOf Tryz.f182)) Tryz.func182 rfl rfl ?_;rintro B - -;have H:=iS I;refine yK<|uD (cExpr e0 p c p1 c1 p2 c2) ?_;intro b hb;refine yC [] []<|yI<|yG ?_;obtain ⟨o0,ho0,hMc⟩:=zB N;refine yU (fun I' hs' m'=>∃ (t24:Bool),o0=t24∧I.le I'∧hs'=[hB b (cExpr e0 p c p1 c1 p2 c2)]∧m'=[(1,vI depth),(2,vI levels),(3,vP b 0),(24,.bool t24)]) ?_ ?_
    · have H:=iS I;cases hc:(decide (levels < 1)) with
      | true =>
       have hM0:=zP hc ho0;refine wA [.p (vI levels) [],.q vY,.q vY,.p undef [],.p undef [],.p undef [],.p undef [],.p undef [],.p undef [],.p undef [],.p vY [],.p vY [],.p undef [],.p undef [],.p undef [],.p undef [],.p vY []] [[],[(0,false)],[(1,false)],[(2,false)],[(2,false),(3,false)],[(2,false),(4,false)],[(2,false)],[(2,false),(6,false)],[(2,false),(7,false)],[(2,false),(5,false),(8,false)],[(2,false),(9,false)],[(10,false)],[(11,false)],[(11,false)],[(11,false),(12,false),(13,false)],[(11,false),(14,false)],[(11,false),(15,false)]] [hB b (cExpr e0 p c p1 c1 p2 c2)] [] [(16,false)] (yB [0]) ?_ ?_
       · refine Op<|Oq ?_<|Oq ?_<|Op<|Op<|Op<|Op<|Op<|Op<|Op<|Op<|Op<|Op<|Op<|Op<|Op<|Op<|On
         · intro I1 hf le1;refine yM [(8,vI levels)]<|uS 2 [(9,.bool (decide (levels < 1)))] ?_;rw [hc];exact yS iR
         intro I1 hf le1;exact yM [(9,vY)]<|uS 3 [(10,vY)]<|yS iR
       intro I01 le;refine yM [(1,vI depth),(2,vI levels),(3,vP b 0),(24,vY)] ?_;have H:=H.trans le;exact yH rfl<|yT [(1,vI depth),(2,vI levels),(3,vP b 0),(24,vY)]<|zV (ct hM0 H)
      | false =>
       have hM01:=zL hc ho0;obtain ⟨y,hy,N⟩:=zB hM01;cases hc1:(y != (e0.Kids.length:Int)) with
       | true =>
        have hM02:=zP hc1 N;refine wA [.p (vI levels) [],.q vF,.q vF,.p (vP b 0) [],.p (vI e0.Kind) [0],.q (vI y),.p (vP b 6) [],.p (vS p2 e0.Kids c2) [0],.p (vI (e0.Kids.length:Int)) [],.q vY,.q vY,.q vY,.p undef [],.p undef [],.p undef [],.p undef [],.p vY []] [[],[(0,false)],[(1,false)],[(2,false)],[(2,false),(3,false)],[(2,false),(4,false)],[(2,false)],[(2,false),(6,false)],[(2,false),(7,false)],[(2,false),(5,false),(8,false)],[(2,false),(9,false)],[(10,false)],[(11,false)],[(11,false)],[(11,false),(12,false),(13,false)],[(11,false),(14,false)],[(11,false),(15,false)]] [hB b (cExpr e0 p c p1 c1 p2 c2)] [] [(16,false)] (yB [0]) ?_ ?_
        · refine Op<|Oq ?_<|Oq ?_<|Op<|Op<|Oq ?_<|Op<|Op<|Op<|Oq ?_<|Oq ?_<|Oq ?_<|Op<|Op<|Op<|Op<|Op<|On
          · intro I1 hf le1;refine yM [(8,vI levels)]<|uS 2 [(9,.bool (decide (levels < 1)))] ?_;rw [hc];exact yS iR
          · intro I1 hf le1;exact yM [(9,vF)]<|uS 3 [(10,vF)]<|yS iR
          · intro I1 hf le1;refine yM [(10,vF),(12,vI e0.Kind)] ?_;have H:=iS I1;refine gB (zBI e0.Kind _ hy ) ?_;intro I02 le1;have H:=H.trans le1;exact yS H
          · intro I1 hf le1;refine yM [(10,vF),(13,vI y),(16,vI (e0.Kids.length:Int))]<|uS 10 [(17,.bool (y != (e0.Kids.length:Int)))] ?_;rw [hc1];exact yS iR
          · intro I1 hf le1;exact yM [(10,vF),(17,vY)]<|uS 11 [(18,vY)]<|yS iR
          intro I1 hf le1;exact yM [(18,vY)]<|uS 12 [(19,vY)]<|yS iR
        intro I03 le2;refine yM [(1,vI depth),(2,vI levels),(3,vP b 0),(24,vY)] ?_;have H:=H.trans le2;exact yH rfl<|yT [(1,vI depth),(2,vI levels),(3,vP b 0),(24,vY)]<|zV (ct hM02 H)
       | false =>
        have hM03:=zL hc1 N;obtain ⟨y1,hy1,N⟩:=zB hM03;refine wA [.p (vI levels) [],.q vF,.q vF,.p (vP b 0) [],.p (vI e0.Kind) [0],.q (vI y),.p (vP b 6) [],.p (vS p2 e0.Kids c2) [0],.p (vI (e0.Kids.length:Int)) [],.q vF,.q vF,.q vF,.p (vA (cExpr e0 p c p1 c1 p2 c2)) [0],.p (vI depth) [],.q (.bool y1),.p (.bool (!y1)) [],.p (.bool (!y1)) []] [[],[(0,false)],[(1,false)],[(2,false)],[(2,false),(3,false)],[(2,false),(4,false)],[(2,false)],[(2,false),(6,false)],[(2,false),(7,false)],[(2,false),(5,false),(8,false)],[(2,false),(9,false)],[(10,false)],[(11,false)],[(11,false)],[(11,false),(12,false),(13,false)],[(11,false),(14,false)],[(11,false),(15,false)]] [hB b (cExpr e0 p c p1 c1 p2 c2)] [] [(16,false)] (yB [0]) ?_ ?_
        · refine Op<|Oq ?_<|Oq ?_<|Op<|Op<|Oq ?_<|Op<|Op<|Op<|Oq ?_<|Oq ?_<|Oq ?_<|Op<|Op<|Oq ?_<|Op<|Op<|On
          · intro I1 hf le1;refine yM [(8,vI levels)]<|uS 2 [(9,.bool (decide (levels < 1)))] ?_;rw [hc];exact yS iR
          · intro I1 hf le1;exact yM [(9,vF)]<|uS 3 [(10,vF)]<|yS iR
          · intro I1 hf le1;refine yM [(10,vF),(12,vI e0.Kind)] ?_;have H:=iS I1;refine gB (zBI e0.Kind _ hy ) ?_;intro I02 le1;have H:=H.trans le1;exact yS H
          · intro I1 hf le1;refine yM [(10,vF),(13,vI y),(16,vI (e0.Kids.length:Int))]<|uS 10 [(17,.bool (y != (e0.Kids.length:Int)))] ?_;rw [hc1];exact yS iR
          · intro I1 hf le1;exact yM [(10,vF),(17,vF)]<|uS 11 [(18,vF)]<|yS iR
          · intro I1 hf le1;exact yM [(18,vF)]<|uS 12 [(19,vF)]<|yS iR
          intro I1 hf le1;refine yM [(19,vF),(20,vA (cExpr e0 p c p1 c1 p2 c2)),(21,vI depth)] ?_;have H:=iS I1;have h:=h.mono le1;have h1:=h1.mono le1;have h2:=h2.mono le1;refine vJ (zFi e0 depth _ hy1 h h1 h2) ?_;intro I04 le3;have H:=H.trans le3;exact yS H
        intro I05 le4;refine yM [(1,vI depth),(2,vI levels),(3,vP b 0),(24,.bool (!y1))] ?_;have H:=H.trans le4;exact yH rfl<|yT [(1,vI depth),(2,vI levels),(3,vP b 0),(24,.bool (!y1))]<|zV (ct N H)
    rintro I0 hs2 m2 ⟨t24,heq,le5,rfl,rfl⟩;subst o0;have h:=h.mono le5;have h1:=h1.mono le5;have h2:=h2.mono le5;refine zM<|yL hMc ?_ ?_
    · intro hc2 N;refine yF [(6,vF)]<|xG<|zH ?_;obtain rfl:=zC N;exact wN
    intro hc2 N;refine zW<|yI<|yF [(7,vI 0)]<|wO<|vE [(1,vI depth),(2,vI levels),(3,vP b 0),(7,vI 0)] ?_;obtain ⟨o01,ho01,hMl⟩:=zB N;refine ih_spec_l3Shape_l1 e0 depth levels 0 o01 ho01 iR h h1 h2 (fun _ _ _ h=>h) (fun _ _ h=>h) ?_ ?_
    · intro I07  heq1 le7;subst o01;refine zX<|vH [(6,vY)]<|zM<|yX ?_;obtain rfl:=zC hMl;exact wN
    intro r0 I9 hs9 m9 heq9 le9 hrs9;subst heq9;refine zZ<|zH ?_;obtain rfl:=zC hMl;exact xC hrs9
  intro F_spec_l3Shape F_spec_l3Shape_l1 ih_spec_l3Shape ih_spec_l3Shape_l1 e0 depth levels i o N B I0 I Q p c p1 c1 p2 c2 b H h h1 h2 hg ho hx hr;refine yZ hg ho<|yG<|yK<|yC [0] [(29,.bool (decide (i < (e0.Kids.length:Int))))]<|zM<|yL N ?_ ?_
  · intro hc3 N;refine zW<|yI<|yP<|yK<|yD 3 [0] [(33,vS p2 e0.Kids c2),(34,vI i)]<|bE N fun x hy2 N=>xS rfl rfl h2 hy2 ?_;intro ad ccs hat hrep;obtain ⟨p3,c3,p4,c4,p5,c5,rfl,h5,h6,h7⟩:=xV hrep;refine xM 0 hat (cExpr x p3 c3 p4 c4 p5 c5) (vA (cExpr x p3 c3 p4 c4 p5 c5)) rfl<|yD 8 [] [(37,vI depth),(39,vI (W (levels - 1)))]<|bE N fun y2 hy3 N=>xT (ih_spec_l3Shape x depth (W (levels - 1)) _ hy3 h5 h6 h7) ?_;rintro I06 hs2 v2 k2 le6 - ⟨v05,rfl,rfl,rfl⟩ -;have h:=h.mono le6;have h1:=h1.mono le6;have h2:=h2.mono le6;have H:=H.trans le6;refine yC [] [(41,.bool (!y2))]<|zM<|yL N ?_ ?_
    · intro hc4 N;exact yF [(6,vF)]<|xG<|zZ<|zH<|zH<|hr _ _ _ _ (zC N).symm H ⟨_,_,(.tmp rfl ResV.nil),zR,⟨_,rfl,rfl,rfl⟩⟩
    intro hc4 N;exact zW<|zT<|zM<|zQ<|yC [] [(7,vI (W (i + 1)))]<|yY<|vE [(1,vI depth),(2,vI levels),(3,vP b 0),(7,vI (W (i + 1)))]<|ih_spec_l3Shape_l1 e0 depth levels (W (i + 1)) _ N H h h1 h2 hg ho hx hr
  intro hc3 N;exact vW<|xU zR<|yT []<|hx _  (zC N).symm H
theorem zEP:∀ e0 depth levels r,tE e0 depth levels=some r→∀ {I:Imm}{p c p1 c1 p2 c2},(S4 I p e0.Index.Coefs c)→(S4 I p1 e0.Read.Subs c1)→(S4 I p2 e0.Kids c2)→RT 182 [vA (cExpr e0 p c p1 c1 p2 c2),vI depth,vI levels] I [] (zU  r):=zDe.1
mutual
def tS (e0:zG) (levels:Int):Option (Int):=do
 let n01←vR (same e0) (same levels) (same 1) (same 0)
 pure (id n01)
 partial_fixpoint
def vR (e0:zG) (levels:Int) (n0:Int) (i:Int):Option (Int):=do
 let t15←(do
   if (decide (i < (e0.Kids.length:Int))) then
    pure (decide (levels > 0))
   else
    pure false
     : Option Bool)
 if t15 then
  let x←idx e0.Kids i
  let y←tS (same x) (W (levels - 1))
  vR (same e0) (same levels) (W (n0 + y)) (W (i + 1))
 else
  pure (id n0)
 partial_fixpoint
end
theorem zDf:(∀ (e0:zG) (levels:Int) r,tS e0 levels=some r→∀ {I:Imm}{p c p1 c1 p2 c2},(S4 I p e0.Index.Coefs c)→(S4 I p1 e0.Read.Subs c1)→(S4 I p2 e0.Kids c2)→RT 183 [vA (cExpr e0 p c p1 c1 p2 c2),vI levels] I [] (xJ  r))∧(∀ (e0:zG) (levels:Int) (n0:Int) (i:Int) o,vR e0 levels n0 i=some o→∀ {B}{I0 I:Imm}{Q p c p1 c1 p2 c2}{b:Nat},I0.le I→(S4 I p e0.Index.Coefs c)→(S4 I p1 e0.Read.Subs c1)→(S4 I p2 e0.Kids c2)→NG Q→NO Q→(∀ (I':Imm) (n01:Int),o=n01→I0.le I'→T 29 B Q (.exit 0) I' [] [(5,vI n01)])→J Tryz.prog 29 B (nav (bodyOf Tryz.f183) [1,1,0,1,0]) Q I [hB b (cExpr e0 p c p1 c1 p2 c2)] [(1,vI levels),(2,vP b 0),(5,vI n0),(6,vI i)]):=by
  refine tS.mutual_partial_correctness _ _ ?_ ?_
  · intro F_spec_l3Count_l1 ih_spec_l3Count_l1 e0 levels r N I p c p1 c1 p2 c2 h h1 h2;refine zY (fn:=Tryz.f183) (c:=(bodyOf Tryz.f183)) Tryz.func183 rfl rfl ?_;rintro B - -;refine yK<|uD (cExpr e0 p c p1 c1 p2 c2) ?_;intro b hb;refine yC [] []<|vH [(5,vI 1)]<|yI<|yF [(6,vI 0)]<|wO<|vE [(1,vI levels),(2,vP b 0),(5,vI 1),(6,vI 0)] ?_;obtain ⟨o01,ho01,hMl⟩:=zB N;refine ih_spec_l3Count_l1 e0 levels 1 0 o01 ho01 iR h h1 h2 (fun _ _ _ h=>h) (fun _ _ h=>h) ?_;intro I02 n01 heq1 le2;subst o01;refine zX<|vH [(4,vI n01)]<|zM<|yX ?_;obtain rfl:=zC hMl;exact wN
  intro F_spec_l3Count F_spec_l3Count_l1 ih_spec_l3Count ih_spec_l3Count_l1 e0 levels n0 i o N B I0 I Q p c p1 c1 p2 c2 b H h h1 h2 hg ho hx;refine yZ hg ho<|yG<|yG ?_;obtain ⟨o0,ho0,hMc⟩:=zB N;refine yU (fun I' hs' m'=>∃ (t15:Bool),o0=t15∧I.le I'∧hs'=[hB b (cExpr e0 p c p1 c1 p2 c2)]∧m'=[(1,vI levels),(2,vP b 0),(5,vI n0),(6,vI i),(15,.bool t15)]) ?_ ?_
  · have H:=iS I;refine zQ<|yD 6 [0] [(12,.bool (decide (i < (e0.Kids.length:Int))))] ?_;cases hc:(decide (i < (e0.Kids.length:Int))) with
    | true =>
     have hM0:=zP hc ho0
     try rw [hc]
     exact yC [] [(15,.bool (decide (levels > 0)))]<|yT [(1,vI levels),(2,vP b 0),(5,vI n0),(6,vI i),(15,.bool (decide (levels > 0)))]<|zV (ct hM0 H)
    | false =>
     have hM01:=zL hc ho0
     try rw [hc]
     exact yC [] [(15,vF)]<|yT [(1,vI levels),(2,vP b 0),(5,vI n0),(6,vI i),(15,vF)]<|zV (ct hM01 H)
  rintro I0 hs2 m2 ⟨t15,heq,le,rfl,rfl⟩;subst o0;have h:=h.mono le;have h1:=h1.mono le;have h2:=h2.mono le;have H:=H.trans le;refine zM<|yL hMc ?_ ?_
  · intro hc1 N;refine zW<|yI<|yP<|zQ<|yD 4 [0] [(18,vI n0),(20,vS p2 e0.Kids c2),(21,vI i)]<|bE N fun x hy N=>xS rfl rfl h2 hy ?_;intro ad ccs hat hrep;obtain ⟨p3,c3,p4,c4,p5,c5,rfl,h3,h4,h5⟩:=xV hrep;refine xM 0 hat (cExpr x p3 c3 p4 c4 p5 c5) (vA (cExpr x p3 c3 p4 c4 p5 c5)) rfl<|yD 8 [] [(25,vI (W (levels - 1)))]<|bE N fun y hy1 N=>xT (ih_spec_l3Count x (W (levels - 1)) _ hy1 h3 h4 h5) ?_;rintro I01 hs2 v2 k2 le1 - ⟨v03,rfl,rfl,rfl⟩ -;have h:=h.mono le1;have h1:=h1.mono le1;have h2:=h2.mono le1;have H:=H.trans le1;exact yC [] [(5,vI (W (n0 + y)))]<|zT<|zM<|zQ<|yC [] [(6,vI (W (i + 1)))]<|yY<|vE [(1,vI levels),(2,vP b 0),(5,vI (W (n0 + y))),(6,vI (W (i + 1)))]<|ih_spec_l3Count_l1 e0 levels (W (n0 + y)) (W (i + 1)) _ N H h h1 h2 hg ho hx
  intro hc1 N;exact vW<|xU zR<|yT [(5,vI n0)]<|hx _ _ (zC N).symm H
theorem zEQ:∀ e0 levels r,tS e0 levels=some r→∀ {I:Imm}{p c p1 c1 p2 c2},(S4 I p e0.Index.Coefs c)→(S4 I p1 e0.Read.Subs c1)→(S4 I p2 e0.Kids c2)→RT 183 [vA (cExpr e0 p c p1 c1 p2 c2),vI levels] I [] (xJ  r):=zDf.1
def sD (s:zI) (depth:Int):Option (Bool):=do
 let t24←(do
   if (decide (depth < 0)) then
    pure true
   else
    if (decide (depth > 4)) then
     pure true
    else
     let y←qI s.Write depth
     if (!y) then
      pure true
     else
      let y1←tE s.Value depth 5
      pure (!y1)
     : Option Bool)
 if t24 then
  pure false
 else
  let y2←tS s.Value 5
  pure (decide (y2 ≤ 12))
theorem gF:∀ s depth r,sD s depth=some r→∀ {I:Imm}{p c p1 c1 p2 c2 p3 c3},(S4 I p s.Write.Subs c)→(S4 I p1 s.Value.Index.Coefs c1)→(S4 I p2 s.Value.Read.Subs c2)→(S4 I p3 s.Value.Kids c3)→RT 148 [vA (cStmt s p c p1 c1 p2 c2 p3 c3),vI depth] I [] (zU  r):=by
 intro s depth r N I p c p1 c1 p2 c2 p3 c3 h h1 h2 h3;unfold sD at N;refine zY (fn:=Tryz.f148) (c:=(bodyOf Tryz.f148)) Tryz.func148 rfl rfl ?_;rintro B - -;have H:=iS I;refine yK<|uD (cStmt s p c p1 c1 p2 c2 p3 c3) ?_;intro b hb;refine yC [] []<|yI<|yG ?_;obtain ⟨o0,ho0,hMc⟩:=zB N;refine yU (fun I' hs' m'=>∃ (t24:Bool),o0=t24∧I.le I'∧hs'=[hB b (cStmt s p c p1 c1 p2 c2 p3 c3)]∧m'=[(2,vP b 0),(24,.bool t24)]) ?_ ?_
 · have H:=iS I;refine zQ<|yD 3 [] [(7,.bool (decide (depth < 0)))] ?_;cases hc:(decide (depth < 0)) with
   | true =>
    have hM0:=zP hc ho0
    try rw [hc]
    exact yC [] [(24,vY)]<|yT [(2,vP b 0),(24,vY)]<|zV (ct hM0 H)
   | false =>
    have hM01:=zL hc ho0
    try rw [hc]
    refine yD 7 [] [(11,.bool (decide (depth > 4)))] ?_;cases hc1:(decide (depth > 4)) with
    | true =>
     have hM02:=zP hc1 hM01
     try rw [hc1]
     exact yC [] [(24,vY)]<|yT [(2,vP b 0),(24,vY)]<|zV (ct hM02 H)
    | false =>
     have hM03:=zL hc1 hM01
     try rw [hc1]
     refine yD 10 [0] [(13,vA (cAccess s.Write p c)),(14,vI depth)] ?_;obtain ⟨y,hy,N⟩:=zB hM03;refine vJ (zAJ s.Write depth _ hy h) ?_;intro I01 le;have h1:=h1.mono le;have h2:=h2.mono le;have h3:=h3.mono le;have H:=H.trans le;refine yD 14 [] [(18,.bool (!y))] ?_;cases hc2:(!y) with
     | true =>
      have hM04:=zP hc2 N
      try rw [hc2]
      exact yC [] [(24,vY)]<|yT [(2,vP b 0),(24,vY)]<|zV (ct hM04 H)
     | false =>
      have hM05:=zL hc2 N
      try rw [hc2]
      refine yD 17 [0] [(20,vA (cExpr s.Value p1 c1 p2 c2 p3 c3)),(21,vI depth)] ?_;obtain ⟨y1,hy1,N⟩:=zB hM05;refine vJ (zEP s.Value depth 5 _ hy1 h1 h2 h3) ?_;intro I02 le1;have H:=H.trans le1;exact yC [] [(24,.bool (!y1))]<|yT [(2,vP b 0),(24,.bool (!y1))]<|zV (ct N H)
 rintro I0 hs2 m2 ⟨t24,heq,le2,rfl,rfl⟩;subst o0;have h1:=h1.mono le2;have h2:=h2.mono le2;have h3:=h3.mono le2;refine zM<|yL hMc ?_ ?_
 · intro hc3 N;refine yF [(4,vF)]<|xG<|zH ?_;obtain rfl:=zC N;exact wN
 intro hc3 N;refine zW<|xD<|yD 2 [0] [(26,vA (cExpr s.Value p1 c1 p2 c2 p3 c3))]<|bE N fun y2 hy2 N=>gB (zEQ s.Value 5 _ hy2 h1 h2 h3) fun I03 le3=>yC [] [(4,.bool (decide (y2 ≤ 12)))]<|zM<|yX ?_;obtain rfl:=zC N;exact wN
def tT (list:(List zA)) (out:Str) (i:Int):Option (Str):=do
 if (decide (i < (list.length:Int))) then
  let out2←(do
    if (decide (i > 0)) then
     let s←cat out (⟨[44]⟩:Str)
     pure (id s)
    else
     pure (id out)
      : Option Str)
  let x←idx list i
  let y←nJ x
  let s1←cat out2 y
  tT list s1 (W (i + 1))
 else
  pure (id out)
 partial_fixpoint
theorem zAo (list:(List zA)):∀ (out:Str) (i:Int) (o:Str),tT list out i=some o→∀ {B}{I0 I:Imm}{Q p c},I0.le I→(S4 I p list c)→NG Q→NO Q→(∀ (I':Imm) (out1:Str),o=out1→I0.le I'→T 23 B Q (.exit 0) I' [] [(3,vT out1.l)])→J Tryz.prog 23 B (nav (bodyOf Tryz.f210) [1,1,0,1,0]) Q I [] [(0,vS p list c),(3,vT out.l),(4,vI i)]:=by
 refine tT.partial_correctness list _ fun self ih out i o N B I0 I Q p c H h hg ho hx=>yZ hg ho<|yG<|yF [(8,.bool (decide (i < (list.length:Int))))]<|zM<|yL N ?_ ?_
 · intro hc N;refine zW<|yI<|yP<|yG<|yF [(12,.bool (decide (i > 0)))]<|zM ?_;obtain ⟨o0,ho0,hMc⟩:=zB N;refine yU (fun I' hs' m'=>∃ (out2:Str),o0=out2∧I.le I'∧hs'=[]∧m'=[(0,vS p list c),(3,vT out2.l),(4,vI i)]) ?_ ?_
   · have H:=iS I;refine yL ho0 ?_ ?_
     · intro hc1 N;exact zQ<|yD 1 [] [(13,vT out.l)]<|bE N fun s hy N=>nU rfl hy<|yC [] [(3,vT s.l)]<|yT [(0,vS p list c),(3,vT s.l),(4,vI i)]<|zV (ct N H)
     intro hc1 N;exact zW<|yT [(0,vS p list c),(3,vT out.l),(4,vI i)]<|zV (ct N H)
   rintro I0 hs2 m2 ⟨out2,heq,le,rfl,rfl⟩;subst o0;have h:=h.mono le;have H:=H.trans le;refine zM<|zQ<|yD 3 [] [(15,vT out2.l),(16,vS p list c),(17,vI i)] ?_;obtain ⟨x,hy1,N⟩:=zB hMc;refine xS rfl rfl h hy1 ?_;intro ad ccs hat hrep;obtain ⟨p1,c1,rfl,h1⟩:=yN hrep;refine xM 0 hat (cAff x p1 c1) (vA (cAff x p1 c1)) rfl<|bE N fun y hy2 N=>xT (eF x _ hy2 h1) ?_;rintro I01 hs2 v2 k2 le1 - ⟨v01,rfl,rfl,rfl⟩ -;have h:=h.mono le1;have H:=H.trans le1;obtain ⟨s1,hy3,N⟩:=zB N;exact nU rfl hy3<|yC [] [(3,vT s1.l)]<|zT<|zM<|zQ<|yC [] [(4,vI (W (i + 1)))]<|yY<|vE [(0,vS p list c),(3,vT s1.l),(4,vI (W (i + 1)))]<|ih s1 (W (i + 1)) _ N H h hg ho hx
 intro hc N;exact vW<|yT [(3,vT out.l)]<|hx _ _ (zC N).symm H
def rY (list:(List zA)):Option (Str):=do
 let out1←tT list (⟨[]⟩:Str) 0
 pure (id out1)
theorem jU:∀ list r,rY list=some r→∀ {I:Imm}{p c},(S4 I p list c)→RT 210 [vS p list c] I [] (tF  r):=by
 intro list r N I p c h;unfold rY at N;refine zY (fn:=Tryz.f210) (c:=(bodyOf Tryz.f210)) Tryz.func210 rfl rfl ?_;rintro B - -;refine yF []<|vH [(3,vT ([]))]<|yI<|yF [(4,vI 0)]<|wO<|vE [(0,vS p list c),(3,vT ([])),(4,vI 0)] ?_;obtain ⟨o01,ho01,hMl⟩:=zB N;refine zAo list (⟨[]⟩:Str) 0 o01 ho01 iR h (fun _ _ _ h=>h) (fun _ _ h=>h) ?_;intro I02 out1 heq1 le2;subst o01;refine zX<|vH [(2,vT out1.l)]<|zM<|yX ?_;obtain rfl:=zC hMl;exact wN
def sJ (a0:zJ):Option (Str):=do
 let s←cat a0.Array (⟨[91]⟩:Str)
 let y←rY a0.Subs
 let s1←cat s y
 let s2←cat s1 (⟨[93]⟩:Str)
 pure (id s2)
theorem kR:∀ a0 r,sJ a0=some r→∀ {I:Imm}{p c},(S4 I p a0.Subs c)→RT 191 [vA (cAccess a0 p c)] I [] (tF  r):=by
 intro a0 r N I p c h;unfold sJ at N;refine zY (fn:=Tryz.f191) (c:=(bodyOf Tryz.f191)) Tryz.func191 rfl rfl ?_;rintro B - -;have H:=iS I;refine yK<|uD (cAccess a0 p c) ?_;intro b hb;refine yC [] []<|zM<|yG ?_;obtain ⟨s,hy,N⟩:=zB N;obtain ⟨y,hy1,N⟩:=zB N;obtain ⟨s1,hy2,N⟩:=zB N;obtain ⟨s2,hy3,N⟩:=zB N;refine wA [.p (vP b 0) [],.p (vT a0.Array.l) [0],.q (vT s.l),.p (vP b 1) [],.p (vS p a0.Subs c) [0],.q (vT y.l),.q (vT s1.l),.q (vT s2.l)] [[],[(0,false)],[(1,false)],[],[(3,false)],[(4,false)],[(2,false),(5,false)],[(6,false)]] [hB b (cAccess a0 p c)] [] [(7,false)] (yB [0]) ?_ ?_
 · refine Op<|Op<|Oq ?_<|Op<|Op<|Oq ?_<|Oq ?_<|Oq ?_<|On
   · intro I1 hf le1;exact yM [(4,vT a0.Array.l)]<|nU rfl hy<|yS iR
   · intro I1 hf le1;refine yM [(7,vS p a0.Subs c)] ?_;have H:=iS I1;have h:=h.mono le1;refine xT (jU a0.Subs _ hy1 h) ?_;rintro I0 hs2 v2 k2 le - ⟨v0,rfl,rfl,rfl⟩ -;have H:=H.trans le;exact yS H
   · intro I1 hf le1;exact yM [(5,vT s.l),(8,vT y.l)]<|nU rfl hy2<|yS iR
   intro I1 hf le1;exact yM [(9,vT s1.l)]<|nU rfl hy3<|yS iR
 intro I01 le1;refine yM [(10,vT s2.l)] ?_;refine yC [] [(2,vT s2.l)]<|zM<|yX ?_;obtain rfl:=zC N;exact wN
def sX (e0:zG):Option (Str):=do
 if (e0.Kind == 1) then
  let y←sW e0.Num
  pure (id y)
 else
  if (e0.Kind == 2) then
   let y1←nJ e0.Index
   let s←cat (⟨[123]⟩:Str) y1
   let s1←cat s (⟨[125]⟩:Str)
   pure (id s1)
  else
   if (e0.Kind == 3) then
    let y2←sJ e0.Read
    pure (id y2)
   else
    let x←idx e0.Kids 0
    let y3←sX (same x)
    let s2←cat (⟨[40]⟩:Str) y3
    let s3←sslc (⟨[43,45,42]⟩:Str) (W (e0.Kind - 4)) (W ((W (e0.Kind - 4)) + 1))
    let s4←cat s2 s3
    let x1←idx e0.Kids 1
    let y4←sX (same x1)
    let s5←cat s4 y4
    let s6←cat s5 (⟨[41]⟩:Str)
    pure (id s6)
 partial_fixpoint
theorem zBJ:∀ e0 r,sX e0=some r→∀ {I:Imm}{p c p1 c1 p2 c2},(S4 I p e0.Index.Coefs c)→(S4 I p1 e0.Read.Subs c1)→(S4 I p2 e0.Kids c2)→RT 192 [vA (cExpr e0 p c p1 c1 p2 c2)] I [] (tF  r):=by
 refine sX.partial_correctness _ fun F_spec_l3Text ih_spec_l3Text e0 r N I p c p1 c1 p2 c2 h h1 h2=>zY (fn:=Tryz.f192) (c:=(bodyOf Tryz.f192)) Tryz.func192 rfl rfl ?_;rintro B - -;have H:=iS I;refine yK<|uD (cExpr e0 p c p1 c1 p2 c2) ?_;intro b hb;refine yC [] []<|yI<|yK<|yC [0] [(4,vI e0.Kind)]<|wO<|yF [(5,.bool (e0.Kind == 1))]<|zM<|yL N ?_ ?_
 · intro hc N;refine yK<|yD 2 [0] [(8,vI e0.Num)]<|bE N fun y hy N=>xT (gD e0.Num _ hy ) ?_;rintro I0 hs2 v2 k2 le - ⟨v0,rfl,rfl,rfl⟩ -;refine yC [] [(2,vT y.l)]<|xG<|zZ<|zH ?_;obtain rfl:=zC N;exact wN
 intro hc N;refine yF [(10,.bool (e0.Kind == 2))]<|zM<|yL N ?_ ?_
 · intro hc1 N;refine yK<|yD 2 [0] [(13,vA (cAff e0.Index p c))]<|bE N fun y1 hy1 N=>xT (eF e0.Index _ hy1 h) ?_;rintro I01 hs2 v2 k2 le1 - ⟨v01,rfl,rfl,rfl⟩ -;obtain ⟨s,hy2,N⟩:=zB N;refine nU rfl hy2<|bE N fun s1 hy3 N=>nU rfl hy3<|yC [] [(2,vT s1.l)]<|xG<|zZ<|zH ?_;obtain rfl:=zC N;exact wN
 intro hc1 N;refine yF [(17,.bool (e0.Kind == 3))]<|zM<|yL N ?_ ?_
 · intro hc2 N;refine yK<|yD 2 [0] [(20,vA (cAccess e0.Read p1 c1))]<|bE N fun y2 hy4 N=>xT (kR e0.Read _ hy4 h1) ?_;rintro I02 hs2 v2 k2 le2 - ⟨v02,rfl,rfl,rfl⟩ -;refine yC [] [(2,vT y2.l)]<|xG<|zZ<|zH ?_;obtain rfl:=zC N;exact wN
 intro hc2 N;refine zW<|zT<|zM<|yG ?_;obtain ⟨x,hy5,N⟩:=zB N;obtain ⟨y3,hy6,N⟩:=zB N;obtain ⟨s2,hy7,N⟩:=zB N;obtain ⟨s3,hy8,N⟩:=zB N;obtain ⟨s4,hy9,N⟩:=zB N;obtain ⟨x1,hy10,N⟩:=zB N;obtain ⟨y4,hy11,N⟩:=zB N;obtain ⟨s5,hy12,N⟩:=zB N;obtain ⟨s6,hy13,N⟩:=zB N;refine wA [.p (vP b 6) [],.p (vS p2 e0.Kids c2) [0],.x (fun I' v hx=>∃ ad p3 c3 p4 c4 p5 c5,v=.pointer (some ad)∧hx=[]∧(At I' ad (cExpr x p3 c3 p4 c4 p5 c5))∧(S4 I' p3 x.Index.Coefs c3)∧(S4 I' p4 x.Read.Subs c4)∧(S4 I' p5 x.Kids c5)),.x (fun I' v hx=>∃ p31 c31 p41 c41 p51 c51,v=vA (cExpr x p31 c31 p41 c41 p51 c51)∧hx=[]∧(S4 I' p31 x.Index.Coefs c31)∧(S4 I' p41 x.Read.Subs c41)∧(S4 I' p51 x.Kids c51)),.q (vT y3.l),.q (vT s2.l),.p (vP b 0) [],.p (vI e0.Kind) [0],.p (vI (W (e0.Kind - 4))) [],.p (vP b 0) [],.p (vI e0.Kind) [0],.p (vI (W (e0.Kind - 4))) [],.p (vI (W ((W (e0.Kind - 4)) + 1))) [],.q (vT s3.l),.q (vT s4.l),.p (vP b 6) [],.p (vS p2 e0.Kids c2) [0],.x (fun I' v hx=>∃ ad1 p6 c6 p7 c7 p8 c8,v=.pointer (some ad1)∧hx=[]∧(At I' ad1 (cExpr x1 p6 c6 p7 c7 p8 c8))∧(S4 I' p6 x1.Index.Coefs c6)∧(S4 I' p7 x1.Read.Subs c7)∧(S4 I' p8 x1.Kids c8)),.x (fun I' v hx=>∃ p61 c61 p71 c71 p81 c81,v=vA (cExpr x1 p61 c61 p71 c71 p81 c81)∧hx=[]∧(S4 I' p61 x1.Index.Coefs c61)∧(S4 I' p71 x1.Read.Subs c71)∧(S4 I' p81 x1.Kids c81)),.q (vT y4.l),.q (vT s5.l),.q (vT s6.l)] [[],[(0,false)],[(1,false)],[(2,false)],[(3,false)],[(4,false)],[],[(6,false)],[(7,false)],[],[(9,false)],[(10,false)],[(11,false)],[(8,false),(12,false)],[(5,false),(13,false)],[],[(15,false)],[(16,false)],[(17,false)],[(18,false)],[(14,false),(19,false)],[(20,false)]] [hB b (cExpr e0 p c p1 c1 p2 c2)] [] [(21,false)] (yB [0]) ?_ ?_
 · refine Op<|Op<|Ox ?_<|Ox ?_<|Oq ?_<|Oq ?_<|Op<|Op<|Op<|Op<|Op<|Op<|Op<|Oq ?_<|Oq ?_<|Op<|Op<|Ox ?_<|Ox ?_<|Oq ?_<|Oq ?_<|Oq ?_<|On
   · intro I1 hf le1;refine yM [(23,vS p2 e0.Kids c2)] ?_;have h2:=h2.mono le1;refine xS rfl rfl h2 hy5 ?_;intro ad ccs hat hrep;obtain ⟨p3,c3,p4,c4,p5,c5,rfl,h6,h7,h8⟩:=xV hrep;exact yO [] iR ⟨_,_,_,_,_,_,_,rfl,rfl,hat,h6,h7,h8⟩
   · intro I1 hf le1;refine zF ?_;rintro _ _ ⟨ad,p3,c3,p4,c4,p5,c5,rfl,rfl,hat,h6,h7,h8⟩;exact yM [(24,.pointer (some ad))]<|xM 0 hat (cExpr x p3 c3 p4 c4 p5 c5) (vA (cExpr x p3 c3 p4 c4 p5 c5)) rfl<|yO [] iR ⟨_,_,_,_,_,_,rfl,rfl,h6,h7,h8⟩
   · intro I1 hf le1;refine zF ?_;rintro _ _ ⟨p31,c31,p41,c41,p51,c51,rfl,rfl,h61,h71,h81⟩;refine yM [(25,vA (cExpr x p31 c31 p41 c41 p51 c51))] ?_;have H:=iS I1;refine xT (ih_spec_l3Text x _ hy6 h61 h71 h81) ?_;rintro I03 hs2 v2 k2 le3 - ⟨v06,rfl,rfl,rfl⟩ -;have H:=H.trans le3;exact yS H
   · intro I1 hf le1;exact yM [(26,vT y3.l)]<|nU rfl hy7<|yS iR
   · intro I1 hf le1;exact yM [(30,vI (W (e0.Kind - 4))),(34,vI (W ((W (e0.Kind - 4)) + 1)))]<|zFh rfl hy8<|yS iR
   · intro I1 hf le1;exact yM [(27,vT s2.l),(35,vT s3.l)]<|nU rfl hy9<|yS iR
   · intro I1 hf le1;refine yM [(38,vS p2 e0.Kids c2)] ?_;have h2:=h2.mono le1;refine xS rfl rfl h2 hy10 ?_;intro ad1 ccs1 hat1 hrep1;obtain ⟨p6,c6,p7,c7,p8,c8,rfl,h10,h11,h12⟩:=xV hrep1;exact yO [] iR ⟨_,_,_,_,_,_,_,rfl,rfl,hat1,h10,h11,h12⟩
   · intro I1 hf le1;refine zF ?_;rintro _ _ ⟨ad1,p6,c6,p7,c7,p8,c8,rfl,rfl,hat1,h10,h11,h12⟩;exact yM [(39,.pointer (some ad1))]<|xM 0 hat1 (cExpr x1 p6 c6 p7 c7 p8 c8) (vA (cExpr x1 p6 c6 p7 c7 p8 c8)) rfl<|yO [] iR ⟨_,_,_,_,_,_,rfl,rfl,h10,h11,h12⟩
   · intro I1 hf le1;refine zF ?_;rintro _ _ ⟨p61,c61,p71,c71,p81,c81,rfl,rfl,h101,h111,h121⟩;refine yM [(40,vA (cExpr x1 p61 c61 p71 c71 p81 c81))] ?_;have H:=iS I1;refine xT (ih_spec_l3Text x1 _ hy11 h101 h111 h121) ?_;rintro I04 hs2 v2 k2 le4 - ⟨v010,rfl,rfl,rfl⟩ -;have H:=H.trans le4;exact yS H
   · intro I1 hf le1;exact yM [(36,vT s4.l),(41,vT y4.l)]<|nU rfl hy12<|yS iR
   intro I1 hf le1;exact yM [(42,vT s5.l)]<|nU rfl hy13<|yS iR
 intro I05 le5;refine yM [(43,vT s6.l)] ?_;refine yC [] [(2,vT s6.l)]<|zM<|yX ?_;obtain rfl:=zC N;exact wN
def oZ (s:zI):Option (Str):=do
 let y←sD s 4
 if (!y) then
  pure (⟨[]⟩:Str)
 else
  let y1←sJ s.Write
  let s1←cat y1 (⟨[61]⟩:Str)
  let y2←sX s.Value
  let s2←cat s1 y2
  pure (id s2)
theorem zCJ:∀ s r,oZ s=some r→∀ {I:Imm}{p c p1 c1 p2 c2 p3 c3},(S4 I p s.Write.Subs c)→(S4 I p1 s.Value.Index.Coefs c1)→(S4 I p2 s.Value.Read.Subs c2)→(S4 I p3 s.Value.Kids c3)→RT 176 [vA (cStmt s p c p1 c1 p2 c2 p3 c3)] I [] (tF  r):=by
 intro s r N I p c p1 c1 p2 c2 p3 c3 h h1 h2 h3;unfold oZ at N;refine zY (fn:=Tryz.f176) (c:=(bodyOf Tryz.f176)) Tryz.func176 rfl rfl ?_;rintro B - -;have H:=iS I;refine yK<|uD (cStmt s p c p1 c1 p2 c2 p3 c3) ?_;intro b hb;refine yC [] []<|yI<|yK<|yD 1 [0] [(3,vA (cStmt s p c p1 c1 p2 c2 p3 c3))]<|bE N fun y hy N=>vJ (gF s 4 _ hy h h1 h2 h3) ?_;intro I0 le;have h:=h.mono le;have h1:=h1.mono le;have h2:=h2.mono le;have h3:=h3.mono le;have H:=H.trans le;refine yC [] [(5,.bool (!y))]<|zM<|yL N ?_ ?_
 · intro hc N;refine yF [(2,vT ([]))]<|xG<|zH ?_;obtain rfl:=zC N;exact wN
 intro hc N;refine zW<|zM<|yG ?_;obtain ⟨y1,hy1,N⟩:=zB N;obtain ⟨s1,hy2,N⟩:=zB N;obtain ⟨y2,hy3,N⟩:=zB N;obtain ⟨s2,hy4,N⟩:=zB N;refine wA [.p (vP b 0) [],.p (vA (cAccess s.Write p c)) [0],.q (vT y1.l),.q (vT s1.l),.p (vP b 2) [],.p (vA (cExpr s.Value p1 c1 p2 c2 p3 c3)) [0],.q (vT y2.l),.q (vT s2.l)] [[],[(0,false)],[(1,false)],[(2,false)],[],[(4,false)],[(5,false)],[(3,false),(6,false)]] [hB b (cStmt s p c p1 c1 p2 c2 p3 c3)] [] [(7,false)] (yB [0]) ?_ ?_
 · refine Op<|Op<|Oq ?_<|Oq ?_<|Op<|Op<|Oq ?_<|Oq ?_<|On
   · intro I1 hf le1;refine yM [(7,vA (cAccess s.Write p c))] ?_;have H:=iS I1;have h:=h.mono le1;refine xT (kR s.Write _ hy1 h) ?_;rintro I01 hs2 v2 k2 le1 - ⟨v01,rfl,rfl,rfl⟩ -;have H:=H.trans le1;exact yS H
   · intro I1 hf le1;exact yM [(8,vT y1.l)]<|nU rfl hy2<|yS iR
   · intro I1 hf le1;refine yM [(11,vA (cExpr s.Value p1 c1 p2 c2 p3 c3))] ?_;have H:=iS I1;have h1:=h1.mono le1;have h2:=h2.mono le1;have h3:=h3.mono le1;refine xT (zBJ s.Value _ hy3 h1 h2 h3) ?_;rintro I02 hs2 v2 k2 le2 - ⟨v02,rfl,rfl,rfl⟩ -;have H:=H.trans le2;exact yS H
   intro I1 hf le1;exact yM [(9,vT s1.l),(12,vT y2.l)]<|nU rfl hy4<|yS iR
 intro I03 le3;refine yM [(13,vT s2.l)] ?_;refine yC [] [(2,vT s2.l)]<|zM<|yX ?_;obtain rfl:=zC N;exact wN
def zBf (r:zI×Bool):KT:=fun kk I' hs' v=>
  ∃ v0 v1,hs'=[]∧v=tupV [v0,v1]∧(∃ cs,v0=.agg ⟨cs⟩∧Rp.rep I' cs r.1)∧v1=.bool r.2
def oH (text:Str):Option (zI×Bool):=do
 if (decide ((text.l.length:Int) < 4)) then
  pure ((zI.mk (zJ.mk (⟨[]⟩:Str) ([]:List zA)) (zG.mk 0 0 (zA.mk ([]:List Int) 0) (zJ.mk (⟨[]⟩:Str) ([]:List zA)) ([]:List zG))),false)
 else
  let (y1,y2)←rM text 0
  let t25←(do
    if (decide (y2 < 0)) then
     pure true
    else
     pure (decide (y2 ≥ (text.l.length:Int)))
      : Option Bool)
  if t25 then
   pure ((zI.mk (zJ.mk (⟨[]⟩:Str) ([]:List zA)) (zG.mk 0 0 (zA.mk ([]:List Int) 0) (zJ.mk (⟨[]⟩:Str) ([]:List zA)) ([]:List zG))),false)
  else
   let (y4,y5)←rV text (W (y2 + 1)) 5
   let y6←oZ (zI.mk y1 y4)
   if (!(y6.l == text.l)) then
    pure ((zI.mk (zJ.mk (⟨[]⟩:Str) ([]:List zA)) (zG.mk 0 0 (zA.mk ([]:List Int) 0) (zJ.mk (⟨[]⟩:Str) ([]:List zA)) ([]:List zG))),false)
   else
    pure ((zI.mk y1 y4),true)
theorem dD:∀ text r,oH text=some r→∀ {I:Imm} ,RT 139 [vT text.l] I [] (zBf  r):=by
 intro text r N I;unfold oH at N;refine zY (fn:=Tryz.f139) (c:=(bodyOf Tryz.f139)) Tryz.func139 rfl rfl ?_;rintro B - -;have H:=iS I;refine yK<|wR [vT ([]),z0,vI 0,vI 0,z0,vI 0,vT ([]),z0,z0] ?_;intro b hb;refine yC [] []<|yI<|yF [(11,.bool (decide ((text.l.length:Int) < 4)))]<|zM<|yL N ?_ ?_
 · intro hc N;refine yK<|yD 1 [] [(12,vA [vT ([]),z0,vI 0,vI 0,z0,vI 0,vT ([]),z0,z0])]<|xE 0 [vT ([]),z0,vI 0,vI 0,z0,vI 0,vT ([]),z0,z0] [hB b [vT ([]),z0,vI 0,vI 0,z0,vI 0,vT ([]),z0,z0]] rfl rfl rfl rfl<|yC [] [(3,vF)]<|xG<|zH ?_;obtain rfl:=zC N;exact xC ⟨_,_,(.cell 0 rfl rfl (by kernel_rfl) (.tmp rfl ResV.nil)),zR,⟨_,_,rfl,rfl,⟨_,rfl,(wM ⟨_,_,_,_,rfl,(SL.nil _),(SL.nil _),(SL.nil _),(SL.nil _)⟩)⟩,rfl⟩⟩
 intro hc N;refine zW<|xD<|yD 1 [] [(14,vT text.l)] ?_;obtain ⟨⟨y1,y2⟩,hy,N⟩:=zB N;refine xT (gQ text 0 _ hy ) ?_;rintro I0 hs2 v2 k2 le - ⟨v0,v01,rfl,rfl,⟨cs,rfl,h⟩,rfl⟩ -;have H:=H.trans le;obtain ⟨p,c,rfl,h2⟩:=pM h;refine yD 5 [] [(16,vA (cAccess y1 p c)),(17,vI y2)]<|wR [vT ([]),z0] ?_;intro b1 hb1;refine xE 0 (cAccess y1 p c) [hB b1 (cAccess y1 p c),hB b [vT ([]),z0,vI 0,vI 0,z0,vI 0,vT ([]),z0,z0]] rfl rfl rfl rfl<|yC [] [(5,vI y2)]<|yI<|yG ?_;obtain ⟨o0,ho0,hMc⟩:=zB N;refine yU (fun I' hs' m'=>∃ (t25:Bool),o0=t25∧I0.le I'∧hs'=[hB b1 (cAccess y1 p c),hB b [vT ([]),z0,vI 0,vI 0,z0,vI 0,vT ([]),z0,z0]]∧m'=[(0,vT text.l),(2,vP b 0),(4,vP b1 0),(5,vI y2),(25,.bool t25)]) ?_ ?_
 · have H:=iS I0;refine zQ<|yD 3 [] [(20,.bool (decide (y2 < 0)))] ?_;cases hc1:(decide (y2 < 0)) with
   | true =>
    have hM0:=zP hc1 ho0
    try rw [hc1]
    exact yC [] [(25,vY)]<|yT [(0,vT text.l),(2,vP b 0),(4,vP b1 0),(5,vI y2),(25,vY)]<|zV (ct hM0 H)
   | false =>
    have hM01:=zL hc1 ho0
    try rw [hc1]
    exact yC [] [(25,.bool (decide (y2 ≥ (text.l.length:Int))))]<|yT [(0,vT text.l),(2,vP b 0),(4,vP b1 0),(5,vI y2),(25,.bool (decide (y2 ≥ (text.l.length:Int))))]<|zV (ct hM01 H)
 rintro I01 hs2 m2 ⟨t25,heq,le1,rfl,rfl⟩;subst o0;have h2:=h2.mono le1;refine zM<|yL hMc ?_ ?_
 · intro hc2 N;refine yK<|yD 1 [] [(26,vA [vT ([]),z0,vI 0,vI 0,z0,vI 0,vT ([]),z0,z0])]<|xE 1 [vT ([]),z0,vI 0,vI 0,z0,vI 0,vT ([]),z0,z0] [hB b1 (cAccess y1 p c),hB b [vT ([]),z0,vI 0,vI 0,z0,vI 0,vT ([]),z0,z0]] rfl rfl rfl rfl<|yC [] [(3,vF)]<|xG<|zH ?_;obtain rfl:=zC N;exact xC ⟨_,_,(.cell 1 rfl rfl (by kernel_rfl) (.tmp rfl ResV.nil)),zR,⟨_,_,rfl,rfl,⟨_,rfl,(wM ⟨_,_,_,_,rfl,(SL.nil _),(SL.nil _),(SL.nil _),(SL.nil _)⟩)⟩,rfl⟩⟩
 intro hc2 N;refine zW<|xD<|yD 3 [] [(28,vT text.l),(30,vI (W (y2 + 1)))] ?_;obtain ⟨⟨y4,y5⟩,hy1,N⟩:=zB N;refine xT (zEO text (W (y2 + 1)) 5 _ hy1 ) ?_;rintro I02 hs2 v2 k2 le2 - ⟨v03,v04,rfl,rfl,⟨cs1,rfl,h3⟩,rfl⟩ -;have h2:=h2.mono le2;obtain ⟨p1,c1,p2,c2,p3,c3,rfl,h5,h6,h7⟩:=xV h3;refine yD 7 [] [(32,vA (cExpr y4 p1 c1 p2 c2 p3 c3)),(33,vI y5)]<|wR zExpr ?_;intro b2 hb2;refine xE 0 (cExpr y4 p1 c1 p2 c2 p3 c3) [hB b2 (cExpr y4 p1 c1 p2 c2 p3 c3),hB b1 (cAccess y1 p c),hB b [vT ([]),z0,vI 0,vI 0,z0,vI 0,vT ([]),z0,z0]] rfl rfl rfl rfl<|yC [] []<|xD<|yD 3 [1,0] [(36,vA [vT y1.Array.l,vS p y1.Subs c,vI y4.Kind,vI y4.Num,vS p1 y4.Index.Coefs c1,vI y4.Index.Const,vT y4.Read.Array.l,vS p2 y4.Read.Subs c2,vS p3 y4.Kids c3])]<|wR [vT ([]),z0,vI 0,vI 0,z0,vI 0,vT ([]),z0,z0] ?_;intro b3 hb3;refine xE 0 [vT y1.Array.l,vS p y1.Subs c,vI y4.Kind,vI y4.Num,vS p1 y4.Index.Coefs c1,vI y4.Index.Const,vT y4.Read.Array.l,vS p2 y4.Read.Subs c2,vS p3 y4.Kids c3] [hB b3 [vT y1.Array.l,vS p y1.Subs c,vI y4.Kind,vI y4.Num,vS p1 y4.Index.Coefs c1,vI y4.Index.Const,vT y4.Read.Array.l,vS p2 y4.Read.Subs c2,vS p3 y4.Kids c3],hB b2 (cExpr y4 p1 c1 p2 c2 p3 c3),hB b1 (cAccess y1 p c),hB b [vT ([]),z0,vI 0,vI 0,z0,vI 0,vT ([]),z0,z0]] rfl rfl rfl rfl<|yH rfl<|yI<|yK<|yD 1 [0] [(37,vA [vT y1.Array.l,vS p y1.Subs c,vI y4.Kind,vI y4.Num,vS p1 y4.Index.Coefs c1,vI y4.Index.Const,vT y4.Read.Array.l,vS p2 y4.Read.Subs c2,vS p3 y4.Kids c3])]<|bE N fun y6 hy2 N=>xT (zCJ (zI.mk y1 y4) _ hy2 h2 h5 h6 h7) ?_;rintro I03 hs2 v2 k2 le3 - ⟨v08,rfl,rfl,rfl⟩ -;have h2:=h2.mono le3;have h5:=h5.mono le3;have h6:=h6.mono le3;have h7:=h7.mono le3;refine yC [] [(40,.bool (!(y6.l == text.l)))]<|zM<|yL N ?_ ?_
 · intro hc3 N;refine yK<|yD 1 [] [(41,vA [vT ([]),z0,vI 0,vI 0,z0,vI 0,vT ([]),z0,z0])]<|xE 3 [vT ([]),z0,vI 0,vI 0,z0,vI 0,vT ([]),z0,z0] [hB b3 [vT y1.Array.l,vS p y1.Subs c,vI y4.Kind,vI y4.Num,vS p1 y4.Index.Coefs c1,vI y4.Index.Const,vT y4.Read.Array.l,vS p2 y4.Read.Subs c2,vS p3 y4.Kids c3],hB b2 (cExpr y4 p1 c1 p2 c2 p3 c3),hB b1 (cAccess y1 p c),hB b [vT ([]),z0,vI 0,vI 0,z0,vI 0,vT ([]),z0,z0]] rfl rfl rfl rfl<|yC [] [(3,vF)]<|xG<|zH ?_;obtain rfl:=zC N;exact xC ⟨_,_,(.cell 3 rfl rfl (by kernel_rfl) (.tmp rfl ResV.nil)),zR,⟨_,_,rfl,rfl,⟨_,rfl,(wM ⟨_,_,_,_,rfl,(SL.nil _),(SL.nil _),(SL.nil _),(SL.nil _)⟩)⟩,rfl⟩⟩
 intro hc3 N;refine zW<|xD<|yD 1 [0] [(42,vA [vT y1.Array.l,vS p y1.Subs c,vI y4.Kind,vI y4.Num,vS p1 y4.Index.Coefs c1,vI y4.Index.Const,vT y4.Read.Array.l,vS p2 y4.Read.Subs c2,vS p3 y4.Kids c3])]<|xE 3 [vT y1.Array.l,vS p y1.Subs c,vI y4.Kind,vI y4.Num,vS p1 y4.Index.Coefs c1,vI y4.Index.Const,vT y4.Read.Array.l,vS p2 y4.Read.Subs c2,vS p3 y4.Kids c3] [hB b3 [vT y1.Array.l,vS p y1.Subs c,vI y4.Kind,vI y4.Num,vS p1 y4.Index.Coefs c1,vI y4.Index.Const,vT y4.Read.Array.l,vS p2 y4.Read.Subs c2,vS p3 y4.Kids c3],hB b2 (cExpr y4 p1 c1 p2 c2 p3 c3),hB b1 (cAccess y1 p c),hB b [vT y1.Array.l,vS p y1.Subs c,vI y4.Kind,vI y4.Num,vS p1 y4.Index.Coefs c1,vI y4.Index.Const,vT y4.Read.Array.l,vS p2 y4.Read.Subs c2,vS p3 y4.Kids c3]] rfl rfl rfl rfl<|yC [] [(3,vY)]<|zM<|yX ?_;obtain rfl:=zC N;exact xC ⟨_,_,(.cell 3 rfl rfl (by kernel_rfl) (.tmp rfl ResV.nil)),zR,⟨_,_,rfl,rfl,⟨_,rfl,(wM ⟨_,_,_,_,rfl,h2,h5,h6,h7⟩)⟩,rfl⟩⟩
def rJ (y:(List Str)) (out:List Str) (i:Int):Option (List Str):=do
 if (decide (i < (y.length:Int))) then
  let x←idx y i
  let out2←(do
    if (!(x.l == ([]:List UInt8))) then
     let x1←idx y i
     let out3←app 16 out ([x1]:List Str)
     pure (id out3)
    else
     pure (id out)
      : Option (List Str))
  rJ y out2 (W (i + 1))
 else
  pure (id out)
 partial_fixpoint
theorem zBg (y:(List Str)):∀ (out:List Str) (i:Int) (o:List Str),rJ y out i=some o→∀ {B}{I0 I:Imm}{Q p c p1 c1 cs},I0.le I→(S4 I p y c)→(RL I cs out)→NG Q→NO Q→(∀ (I':Imm) (out1:List Str) (p2:Option Addr) (c2:Nat) (cs1:List Value),o=out1→I0.le I'→(RL I' cs1 out1)→T 28 B Q (.exit 0) I' [hO Str (vS p2 out1 c2) cs1] [(4,vS p2 out1 c2)])→J Tryz.prog 28 B (nav (bodyOf Tryz.f186) [1,1,1,0,1,0]) Q I [hO Str (vS p1 out c1) cs] [(3,vS p y c),(4,vS p1 out c1),(5,vI i)]:=by
 refine rJ.partial_correctness y _ fun self ih out i o N B I0 I Q p c p1 c1 cs H h h2 hg ho hx=>yZ hg ho<|yG<|yF [(12,.bool (decide (i < (y.length:Int))))]<|zM<|yL N ?_ ?_
 · intro hc N;refine zW<|yI<|yP<|yK<|yD 2 [] [(15,vS p y c),(16,vI i)]<|bE N fun x hy1 N=>xS rfl rfl h hy1 ?_;intro ad ccs hat hrep;obtain rfl:=hrep;refine xM 0 hat [vT x.l] (vT x.l) rfl<|yC [] [(19,.bool (!(x.l == ([]:List UInt8))))]<|zM ?_;obtain ⟨o0,ho0,hMc⟩:=zB N;refine yU (fun I' hs' m'=>∃ (out2:List Str) (p3:Option Addr) (c3:Nat) (cs2:List Value),o0=out2∧I.le I'∧(RL I' cs2 out2)∧hs'=[hO Str (vS p3 out2 c3) cs2]∧m'=[(3,vS p y c),(4,vS p3 out2 c3),(5,vI i)]) ?_ ?_
   · have H:=iS I;refine yL ho0 ?_ ?_
     · intro hc1 N;refine zQ<|yD 3 [] [(20,vS p1 out c1),(21,vS p y c),(22,vI i)]<|bE N fun x1 hy2 N=>xS rfl rfl h hy2 ?_;intro ad1 ccs1 hat1 hrep1;obtain rfl:=hrep1;refine xM 0 hat1 [vT x1.l] (vT x1.l) rfl<|xY [vT x1.l] Str ?_;intro b1 hb1;have h5:RL I [vT x1.l] ([x1]:List Str):=⟨[vT x1.l],_,rfl,rfl,rfl,rfl⟩;obtain ⟨out3,hy3,N⟩:=zB N;exact pG 9 1 1 rfl rfl rfl h2 (.inr ⟨0,rfl⟩) h5 hy3 fun p4 c4 cs3 h6=>sU (yB [1] (hs':=[hO Str (vS p4 out3 c4) cs3]))<|yC [] [(4,vS p4 out3 c4)]<|yT [(3,vS p y c),(4,vS p4 out3 c4),(5,vI i)]<|zV ⟨_,_,_,_,(zC N).symm,H,h6,rfl,rfl⟩
     intro hc1 N;exact zW<|yT [(3,vS p y c),(4,vS p1 out c1),(5,vI i)]<|zV ⟨_,_,_,_,(zC N).symm,H,h2,rfl,rfl⟩
   rintro I01 hs2 m2 ⟨out2,p3,c3,cs2,heq,le1,h4,rfl,rfl⟩;subst o0;have h:=h.mono le1;have H:=H.trans le1;exact zT<|zM<|zQ<|yC [] [(5,vI (W (i + 1)))]<|yY<|vE [(3,vS p y c),(4,vS p3 out2 c3),(5,vI (W (i + 1)))]<|ih out2 (W (i + 1)) _ hMc H h h4 hg ho hx
 intro hc N;exact vW<|yT [(4,vS p1 out c1)]<|hx _ _ _ _ _ (zC N).symm H h2
def oT (s:Str):Option ((List Str)):=do
 let y←nI s (32:UInt8)
 let out1←rJ y ([]:List Str) 0
 pure (id out1)
theorem zAK:∀ s r,oT s=some r→∀ {I:Imm} ,RT 186 [vT s.l] I [] (gT  r):=by
 intro s r N I;unfold oT at N;refine zY (fn:=Tryz.f186) (c:=(bodyOf Tryz.f186)) Tryz.func186 rfl rfl ?_;rintro B - -;refine yF []<|xD<|yD 1 [] [(6,vT s.l)]<|bE N fun y hy N=>xT (eE s (32:UInt8) _ hy ) ?_;rintro I0 hs2 v2 k2 le - ⟨v0,rfl,rfl,h⟩ -;obtain ⟨p,c,rfl⟩:=h.form;refine yC [] [(3,vS p y c)]<|xD<|xY [] Str ?_;intro b hb;have h1:RL I0 [] ([]:List Str):=rfl;refine yC [] [(4,vS (some ⟨b,0,none⟩) ([]:List Str) 0)]<|yI<|yF [(5,vI 0)]<|wO<|vE [(3,vS p y c),(4,vS (some ⟨b,0,none⟩) ([]:List Str) 0),(5,vI 0)] ?_;obtain ⟨o01,ho01,hMl⟩:=zB N;refine zBg y ([]:List Str) 0 o01 ho01 iR h h1 (fun _ _ _ h=>h) (fun _ _ h=>h) ?_;intro I02 out1 p2 c2 cs1 heq1 le2 h3;subst o01;refine zX<|vH [(2,vS p2 out1 c2)]<|xG<|xP 0 rfl ?_;intro I03 le3 hl0;have h7:=SL.of_frozen hl0 le3 h3;obtain rfl:=zC hMl;exact xC ⟨_,_,(.tmp rfl ResV.nil),zR,⟨_,rfl,rfl,h7⟩⟩
def zCs (r:zE):KT:=fun kk I' hs' v=>
  ∃ v0,hs'=[]∧v=tupV [v0]∧(∃ cs,v0=.agg ⟨cs⟩∧Rp.rep I' cs r)
def sQ (w0:(List Str)) (i:Int) (Name:Str) (Dims:List Int):Option ((Str×List Int)):=do
 let t15←(do
   if (decide (i < (w0.length:Int))) then
    pure (decide (i ≤ 4))
   else
    pure false
     : Option Bool)
 if t15 then
  if (i == 1) then
   let x←idx w0 1
   sQ w0 (W (i + 1)) x Dims
  else
   let x1←idx w0 i
   let (y1,y2)←mY x1
   let l←app 8 Dims ([y1]:List Int)
   sQ w0 (W (i + 1)) Name l
 else
  pure (Name,Dims)
 partial_fixpoint
theorem zCK (w0:(List Str)):∀ (i:Int) (Name:Str) (Dims:List Int) (o:(Str×List Int)),sQ w0 i Name Dims=some o→∀ {B}{I0 I:Imm}{Q p c}{b:Nat}{b1:Nat}{p1 c1 cs},I0.le I→(S4 I p w0 c)→(RL I cs Dims)→NG Q→NO Q→(∀ (I':Imm) (Name1:Str) (Dims1:List Int) (p2:Option Addr) (c2:Nat) (cs1:List Value),o=(Name1,Dims1)→I0.le I'→(RL I' cs1 Dims1)→T 39 B Q (.exit 0) I' [hO Int (vS p2 Dims1 c2) cs1,hB b1 [vT Name1.l,vS p2 Dims1 c2],hB b [vT ([]),z0]] [(2,vP b 0),(3,vP b1 0)])→J Tryz.prog 39 B (nav (bodyOf Tryz.f187) [1,1,0,1,0]) Q I [hO Int (vS p1 Dims c1) cs,hB b1 [vT Name.l,vS p1 Dims c1],hB b [vT ([]),z0]] [(0,vS p w0 c),(2,vP b 0),(3,vP b1 0),(4,vI i)]:=by
 refine sQ.partial_correctness w0 _ fun self ih i Name Dims o N B I0 I Q p c b b1 p1 c1 cs H h h2 hg ho hx=>yZ hg ho<|yG<|yG ?_;obtain ⟨o0,ho0,hMc⟩:=zB N;refine yU (fun I' hs' m'=>∃ (t15:Bool),o0=t15∧I.le I'∧hs'=[hO Int (vS p1 Dims c1) cs,hB b1 [vT Name.l,vS p1 Dims c1],hB b [vT ([]),z0]]∧m'=[(0,vS p w0 c),(2,vP b 0),(3,vP b1 0),(4,vI i),(15,.bool t15)]) ?_ ?_
 · have H:=iS I;refine zQ<|yD 5 [] [(12,.bool (decide (i < (w0.length:Int))))] ?_;cases hc:(decide (i < (w0.length:Int))) with
   | true =>
    have hM0:=zP hc ho0
    try rw [hc]
    exact yC [] [(15,.bool (decide (i ≤ 4)))]<|yT [(0,vS p w0 c),(2,vP b 0),(3,vP b1 0),(4,vI i),(15,.bool (decide (i ≤ 4)))]<|zV (ct hM0 H)
   | false =>
    have hM01:=zL hc ho0
    try rw [hc]
    exact yC [] [(15,vF)]<|yT [(0,vS p w0 c),(2,vP b 0),(3,vP b1 0),(4,vI i),(15,vF)]<|zV (ct hM01 H)
 rintro I0 hs2 m2 ⟨t15,heq,le,rfl,rfl⟩;subst o0;have h:=h.mono le;have h2:=iM le h2;have H:=H.trans le;refine zM<|yL hMc ?_ ?_
 · intro hc1 N;refine zW<|yI<|yP<|yG<|yF [(19,.bool (i == 1))]<|zM<|yL N ?_ ?_
   · intro hc2 N;refine yK<|yD 1 [] [(20,vS p w0 c)]<|bE N fun x hy N=>xS rfl rfl h hy ?_;intro ad ccs hat hrep;obtain rfl:=hrep;exact xM 0 hat [vT x.l] (vT x.l) rfl<|yD 4 [] [(23,vP b1 0)]<|xE 1 [vT x.l,vS p1 Dims c1] [hO Int (vS p1 Dims c1) cs,hB b1 [vT x.l,vS p1 Dims c1],hB b [vT ([]),z0]] rfl rfl rfl rfl<|yH rfl<|zM<|zEj<|kJ<|zX<|zM<|zQ<|yC [] [(4,vI (W (i + 1)))]<|yY<|vE [(0,vS p w0 c),(2,vP b 0),(3,vP b1 0),(4,vI (W (i + 1)))]<|ih (W (i + 1)) x Dims _ N H h h2 hg ho hx
   intro hc2 N;refine zW<|xD<|yD 2 [] [(25,vS p w0 c),(26,vI i)]<|bE N fun x1 hy1 N=>xS rfl rfl h hy1 ?_;intro ad1 ccs1 hat1 hrep1;obtain rfl:=hrep1;refine xM 0 hat1 [vT x1.l] (vT x1.l) rfl ?_;obtain ⟨⟨y1,y2⟩,hy2,N⟩:=zB N;refine xT (zBF x1 _ hy2 ) ?_;rintro I01 hs2 v2 k2 le1 - ⟨v0,v01,rfl,rfl,rfl,rfl⟩ -;have h:=h.mono le1;have h2:=iM le1 h2;have H:=H.trans le1;refine yC [] [(5,vI y1)]<|zM<|zQ<|yD 3 [1] [(33,vS p1 Dims c1),(34,vI y1)]<|xY [vI y1] Int ?_;intro b2 hb2;have h6:RL I01 [vI y1] ([y1]:List Int):=⟨[vI y1],_,rfl,rfl,rfl,rfl⟩;obtain ⟨l,hy3,N⟩:=zB N;refine pG 3 1 1 rfl rfl rfl h2 (.inr ⟨0,rfl⟩) h6 hy3 ?_;intro p3 c3 cs2 h7;exact sU (yB [1,2,3] (hs':=[hO Int (vS p3 l c3) cs2,hB b1 [vT Name.l,vS p1 Dims c1],hB b [vT ([]),z0]]))<|yD 6 [] [(37,vP b1 1)]<|xE 1 [vT Name.l,vS p3 l c3] [hO Int (vS p3 l c3) cs2,hB b1 [vT Name.l,vS p3 l c3],hB b [vT ([]),z0]] rfl rfl rfl rfl<|yH rfl<|zT<|zM<|zQ<|yC [] [(4,vI (W (i + 1)))]<|yY<|vE [(0,vS p w0 c),(2,vP b 0),(3,vP b1 0),(4,vI (W (i + 1)))]<|ih (W (i + 1)) Name l _ N H h h7 hg ho hx
 intro hc1 N;exact vW<|yT [(2,vP b 0),(3,vP b1 0)]<|hx _ _ _ _ _ _ (zC N).symm H h2
def kS (w0:(List Str)):Option (zE):=do
 let (Name1,Dims1)←sQ w0 1 (⟨[]⟩:Str) ([]:List Int)
 pure (zE.mk Name1 Dims1)
theorem zER:∀ w0 r,kS w0=some r→∀ {I:Imm}{p c},(S4 I p w0 c)→RT 187 [vS p w0 c] I [] (zCs  r):=by
 intro w0 r N I p c h;unfold kS at N;refine zY (fn:=Tryz.f187) (c:=(bodyOf Tryz.f187)) Tryz.func187 rfl rfl ?_;rintro B - -;refine yK<|wR [vT ([]),z0] ?_;intro b hb;refine yH rfl<|xD<|yD 1 [] [(7,vA [vT ([]),z0])]<|wR [vT ([]),z0] ?_;intro b1 hb1;refine xE 0 [vT ([]),z0] [hB b1 [vT ([]),z0],hB b [vT ([]),z0]] rfl rfl rfl rfl<|yH rfl<|yI<|yF [(4,vI 1)]<|wO<|vE [(0,vS p w0 c),(2,vP b 0),(3,vP b1 0),(4,vI 1)]<|pK (vM (Rp.sz Int)) ?_;have h1:RL I [] ([]:List Int):=RepL.nil;obtain ⟨o01,ho01,hMl⟩:=zB N;refine zCK w0 1 (⟨[]⟩:Str) ([]:List Int) o01 ho01 iR h h1 (fun _ _ _ h=>h) (fun _ _ h=>h) ?_;intro I02 Name1 Dims1 p2 c2 cs1 heq1 le2 h3;subst o01;refine zX<|xD<|yD 1 [1] [(38,vA [vT Name1.l,vS p2 Dims1 c2])]<|xE 2 [vT Name1.l,vS p2 Dims1 c2] [hO Int (vS p2 Dims1 c2) cs1,hB b1 [vT Name1.l,vS p2 Dims1 c2],hB b [vT Name1.l,vS p2 Dims1 c2]] rfl rfl rfl rfl<|yH rfl<|xG<|xP 0 rfl ?_;intro I03 le3 hl0;have h8:=SL.of_frozen hl0 le3 h3;obtain rfl:=zC hMl;exact xC ⟨_,_,(.cell 1 rfl rfl (by kernel_rfl) ResV.nil),zR,⟨_,rfl,rfl,⟨_,rfl,(qG ⟨_,rfl,h8⟩)⟩⟩⟩
def zDg (r:zD):KT:=fun kk I' hs' v=>
  ∃ v0,hs'=[]∧v=tupV [v0]∧(∃ cs,v0=.agg ⟨cs⟩∧Rp.rep I' cs r)
def jG (line:Str):Option (zD):=do
 let y←oT line
 if ((y.length:Int) != 3) then
  pure (zD.mk ([]:List zA) ([]:List zA))
 else
  let x←idx y 1
  let y1←rI x
  let x1←idx y 2
  let y2←rI x1
  pure (zD.mk y1 y2)
theorem zFB:∀ line r,jG line=some r→∀ {I:Imm} ,RT 188 [vT line.l] I [] (zDg  r):=by
 intro line r N I;unfold jG at N;refine zY (fn:=Tryz.f188) (c:=(bodyOf Tryz.f188)) Tryz.func188 rfl rfl ?_;rintro B - -;have H:=iS I;refine yK<|wR zTwo ?_;intro b hb;refine yH rfl<|xD<|yD 1 [] [(4,vT line.l)]<|bE N fun y hy N=>xT (zAK line _ hy ) ?_;rintro I0 hs2 v2 k2 le - ⟨v0,rfl,rfl,h⟩ -;have H:=H.trans le;obtain ⟨p,c,rfl⟩:=h.form;refine yC [] [(3,vS p y c)]<|yI<|yF [(8,.bool ((y.length:Int) != 3))]<|zM<|yL N ?_ ?_
 · intro hc N;refine yK<|yD 1 [] [(9,vA zTwo)]<|xE 0 zTwo [hB b zTwo] rfl rfl rfl rfl<|yH rfl<|xG<|zH ?_;obtain rfl:=zC N;exact xC ⟨_,_,(.cell 0 rfl rfl (by kernel_rfl) ResV.nil),zR,⟨_,rfl,rfl,⟨_,rfl,(sV ⟨_,_,rfl,(SL.nil _),(SL.nil _)⟩)⟩⟩⟩
 intro hc N;refine zW<|zM<|yG ?_;obtain ⟨x,hy1,N⟩:=zB N;obtain ⟨y1,hy2,N⟩:=zB N;obtain ⟨x1,hy3,N⟩:=zB N;obtain ⟨y2,hy4,N⟩:=zB N;refine wA [.p (vS p y c) [],.x (fun I' v hx=>∃ ad,v=.pointer (some ad)∧hx=[]∧(At I' ad [vT x.l])),.q (vT x.l),.x (fun I' v hx=>∃ p1 c1,v=vS p1 y1 c1∧hx=[]∧(S4 I' p1 y1 c1)),.p (vS p y c) [],.x (fun I' v hx=>∃ ad1,v=.pointer (some ad1)∧hx=[]∧(At I' ad1 [vT x1.l])),.q (vT x1.l),.x (fun I' v hx=>∃ p2 c2,v=vS p2 y2 c2∧hx=[]∧(S4 I' p2 y2 c2)),.x (fun I' v hx=>∃ p11 c11 p21 c21,v=vA [vS p11 y1 c11,vS p21 y2 c21]∧hx=[]∧(S4 I' p11 y1 c11)∧(S4 I' p21 y2 c21))] [[],[(0,false)],[(1,false)],[(2,false)],[],[(4,false)],[(5,false)],[(6,false)],[(3,false),(7,false)]] [hB b zTwo] [] [(8,false)] (yB [0]) ?_ ?_
 · refine Op<|Ox ?_<|Oq ?_<|Ox ?_<|Op<|Ox ?_<|Oq ?_<|Ox ?_<|Ox ?_<|On
   · intro I1 hf le1;refine yM [(10,vS p y c)] ?_;have h:=h.mono le1;refine xS rfl rfl h hy1 ?_;intro ad ccs hat hrep;obtain rfl:=hrep;exact yO [] iR ⟨_,rfl,rfl,hat⟩
   · intro I1 hf le1;refine zF ?_;rintro _ _ ⟨ad,rfl,rfl,hat⟩;exact yM [(11,.pointer (some ad))]<|xM 0 hat [vT x.l] (vT x.l) rfl<|yS iR
   · intro I1 hf le1;refine yM [(12,vT x.l)] ?_;have H:=iS I1;refine xT (jC x _ hy2 ) ?_;rintro I01 hs2 v2 k2 le1 - ⟨v01,rfl,rfl,h1⟩ -;have H:=H.trans le1;obtain ⟨p1,c1,rfl⟩:=h1.form;exact yO [] H ⟨_,_,rfl,rfl,h1⟩
   · intro I1 hf le1;refine yM [(14,vS p y c)] ?_;have h:=h.mono le1;refine xS rfl rfl h hy3 ?_;intro ad1 ccs1 hat1 hrep1;obtain rfl:=hrep1;exact yO [] iR ⟨_,rfl,rfl,hat1⟩
   · intro I1 hf le1;refine zF ?_;rintro _ _ ⟨ad1,rfl,rfl,hat1⟩;exact yM [(15,.pointer (some ad1))]<|xM 0 hat1 [vT x1.l] (vT x1.l) rfl<|yS iR
   · intro I1 hf le1;refine yM [(16,vT x1.l)] ?_;have H:=iS I1;refine xT (jC x1 _ hy4 ) ?_;rintro I02 hs2 v2 k2 le2 - ⟨v02,rfl,rfl,h2⟩ -;have H:=H.trans le2;obtain ⟨p2,c2,rfl⟩:=h2.form;exact yO [] H ⟨_,_,rfl,rfl,h2⟩
   intro I1 hf le1;refine zF ?_;rintro _ _ ⟨p1,c1,rfl,rfl,h1⟩;refine zF ?_;rintro _ _ ⟨p2,c2,rfl,rfl,h2⟩;exact yM [(13,vS p1 y1 c1),(17,vS p2 y2 c2)]<|uS 9 [(18,vA [vS p1 y1 c1,vS p2 y2 c2])]<|yO [] iR ⟨_,_,_,_,rfl,rfl,h1,h2⟩
 intro I03 le3;refine zF ?_;rintro _ _ ⟨p11,c11,p21,c21,rfl,rfl,h11,h21⟩;refine yM [(2,vP b 0),(18,vA [vS p11 y1 c11,vS p21 y2 c21])] ?_;refine xE 0 [vS p11 y1 c11,vS p21 y2 c21] [hB b [vS p11 y1 c11,vS p21 y2 c21]] rfl rfl rfl rfl<|yH rfl<|zM<|yX ?_;obtain rfl:=zC N;exact xC ⟨_,_,(.cell 0 rfl rfl (by kernel_rfl) ResV.nil),zR,⟨_,rfl,rfl,⟨_,rfl,(sV ⟨_,_,rfl,h11,h21⟩)⟩⟩⟩
def zDh (r:zK):KT:=fun kk I' hs' v=>
  ∃ (a0:Option Addr) (c0:Nat) (s0:List Value) (a1:Option Addr) (c1:Nat) (s1:List Value) (raws:List Raw2) (vN vB:Value) (nl:List zD) (bl:List zI) (csN csB:List Value),
    hs'=[hO zE (vS a0 r.Arrays c0) s0,hO Raw2 (vS a1 raws c1) s1,hO zD vN csN,hO zI vB csB]∧v=tupV [vA [vS a0 r.Arrays c0,vS a1 raws c1]]∧L4 I' s0 r.Arrays s1 raws r.Parts vN nl vB bl csN csB
def jH (p:zK) (line:Str):Option (zK):=do
 let y←oT line
 let t17←(do
   if (decide ((y.length:Int) > 0)) then
    let x←idx y 0
    pure (x.l == ([97,114,114,97,121]:List UInt8))
   else
    pure false
     : Option Bool)
 if t17 then
  let y1←kS y
  let l←app 40 p.Arrays ([y1]:List zE)
  pure (zK.mk l p.Parts)
 else
  if (line.l == ([112,97,114,116]:List UInt8)) then
   let l1←app 48 p.Parts ([(zN.mk ([]:List zD) ([]:List zI))]:List zN)
   pure (zK.mk p.Arrays l1)
  else
   let t43←(do
     if (decide ((W ((p.Parts.length:Int) - 1)) ≥ 0)) then
      if (decide ((y.length:Int) > 0)) then
       let x1←idx y 0
       pure (x1.l == ([102,111,114]:List UInt8))
      else
       pure false
     else
      pure false
       : Option Bool)
   if t43 then
    let x2←idx p.Parts (W ((p.Parts.length:Int) - 1))
    let y2←jG line
    let l2←app 48 x2.Nest ([y2]:List zD)
    pure (zK.mk p.Arrays (p.Parts.set (W ((p.Parts.length:Int) - 1)).toNat (zN.mk l2 x2.Body)))
   else
    if (decide ((W ((p.Parts.length:Int) - 1)) ≥ 0)) then
     let x4←idx p.Parts (W ((p.Parts.length:Int) - 1))
     let (y4,y5)←oH line
     let l3←app 152 x4.Body ([y4]:List zI)
     pure (zK.mk p.Arrays (p.Parts.set (W ((p.Parts.length:Int) - 1)).toNat (zN.mk x4.Nest l3)))
    else
     pure (id p)
theorem zFC:∀ p line r,jH p line=some r→∀ {I:Imm}{p1 c cs p2 c1 cs1}{raws:List Raw2}{vN vB:Value}{nl:List zD}{bl:List zI}{csN csB:List Value},
    L4 I cs p.Arrays cs1 raws p.Parts vN nl vB bl csN csB→RT 157 [vA [vS p1 p.Arrays c,vS p2 raws c1],vT line.l] I [hO zE (vS p1 p.Arrays c) cs,hO Raw2 (vS p2 raws c1) cs1,hO zD vN csN,hO zI vB csB] (zDh r):=by
 intro p line r N I p1 c cs p2 c1 cs1 raws vN vB nl bl csN csB hQ
 unfold jH at N
 simp only [hQ.lp.len] at N
 refine zJv Tryz.func157 fun B=>yK<|uD [vS p1 p.Arrays c,vS p2 raws c1] ?_
 intro b hb
 refine wR zTwo ?_
 intro b1 hb1
 refine yH rfl<|xD<|yD 1 [] [(11,vT line.l)] ?_
 obtain ⟨y,hy,N⟩:=zB N
 refine xT (zAK line _ hy ) ?_
 rintro I0 hs2 v2 k2 le - ⟨v0,rfl,rfl,h2⟩ -
 have hQ:=hQ.mono le
 obtain ⟨p3,c2,rfl⟩:=h2.form
 refine yC [] [(5,vS p3 y c2)]<|xD<|yC [1] [(6,vI (W ((raws.length:Int) - 1)))]<|yI<|yP<|yG ?_
 obtain ⟨o0,ho0,N⟩:=zB N
 refine yU (fun I' hs' m'=>∃ (t17:Bool),o0=t17∧I0.le I'∧hs'=[hB b1 zTwo,hB b [vS p1 p.Arrays c,vS p2 raws c1],hO zE (vS p1 p.Arrays c) cs,hO Raw2 (vS p2 raws c1) cs1,hO zD vN csN,hO zI vB csB]∧m'=[(1,vT line.l),(2,vP b 0),(4,vP b1 0),(5,vS p3 y c2),(6,vI (W ((raws.length:Int) - 1))),(17,.bool t17)]) ?_ ?_
 · refine zQ<|yD 4 [] [(21,.bool (decide ((y.length:Int) > 0)))] ?_
   cases hc:(decide ((y.length:Int) > 0)) with
   | true =>
    have hM0:=zP hc ho0
    refine yD 5 [] [(22,vS p3 y c2)] ?_
    obtain ⟨x,hy1,N⟩:=zB hM0
    refine xS rfl rfl h2 hy1 ?_
    intro ad ccs hat hrep
    obtain rfl:=hrep
    exact xM 0 hat [vT x.l] (vT x.l) rfl<|yC [] [(17,.bool (x.l == ([97,114,114,97,121]:List UInt8)))]<|yT [(1,vT line.l),(2,vP b 0),(4,vP b1 0),(5,vS p3 y c2),(6,vI (W ((raws.length:Int) - 1))),(17,.bool (x.l == ([97,114,114,97,121]:List UInt8)))]<|zV ⟨_,(zC N).symm,Imm.le.refl _,rfl,rfl⟩
   | false =>
    have hM01:=zL hc ho0
    exact yC [] [(17,vF)]<|yT [(1,vT line.l),(2,vP b 0),(4,vP b1 0),(5,vS p3 y c2),(6,vI (W ((raws.length:Int) - 1))),(17,vF)]<|zV ⟨_,(zC hM01).symm,Imm.le.refl _,rfl,rfl⟩
 rintro I01 hs2 m2 ⟨t17,heq,le1,rfl,rfl⟩
 subst o0
 have h2:=h2.mono le1
 have hQ:=hQ.mono le1
 refine zM<|yL N ?_ ?_
 · intro hc1 N
   obtain ⟨y1,hy2,N⟩:=zB N
   obtain ⟨l,hy3,N⟩:=zB N
   refine wA [.p (vP b 0) [],.p (vS p1 p.Arrays c) [1],.p (vS p3 y c2) [],.x (fun I' v hx=>∃ p4 c3,v=vA (cArr y1 p4 c3)∧hx=[]∧(S4 I' p4 y1.Dims c3)),.x (fun I' v hx=>∃ b2,v=vS (some ⟨b2,0,none⟩) ([y1]:List zE) 1∧hx=[]∧(SL I' (vS (some ⟨b2,0,none⟩) ([y1]:List zE) 1) ([y1]:List zE))),.x (fun I' v hx=>∃ p5 c4 cs3,v=vS p5 l c4∧hx=[hO zE (vS p5 l c4) cs3]∧(RL I' cs3 l))] [[],[(0,false)],[],[(2,false)],[(3,false)],[(1,false),(4,false),(8,true)]] [hB b1 zTwo,hB b [vS p1 p.Arrays c,vS p2 raws c1],hO Raw2 (vS p2 raws c1) cs1,hO zD vN csN,hO zI vB csB] [[hO zE (vS p1 p.Arrays c) cs]] [(5,true)] (yB [0,1,3,4,5,2]) ?_ ?_
   · refine Op<|Op<|Op<|Ox ?_<|Ox ?_<|Ox ?_<|On
     · intro I1 hf le1
       refine yM [(29,vS p3 y c2)]<|xT (zER y _ hy2 (h2.mono le1)) ?_
       rintro I02 hs2 v2 k2 le2 - ⟨v01,rfl,rfl,⟨cs2,rfl,h3⟩⟩ -
       obtain ⟨v02,rfl,h4⟩:=zAh h3
       obtain ⟨p4,c3,rfl⟩:=h4.form
       exact yO [] le2 ⟨_,_,rfl,rfl,h4⟩
     · intro I1 hf le1
       refine zF ?_
       rintro _ _ ⟨p4,c3,rfl,rfl,h4⟩
       refine yM [(30,vA (cArr y1 p4 c3))]<|xY (cArr y1 p4 c3) zE ?_
       intro b2 hb2
       have h5:RL I1 (cArr y1 p4 c3) ([y1]:List zE):=⟨(cArr y1 p4 c3),_,rfl,rfl,(qG ⟨_,rfl,h4⟩),rfl⟩
       refine yJ 0 rfl ?_
       intro I03 le3 hl0
       exact yO [] le3 ⟨_,rfl,rfl,SL.of_frozen hl0 le3 h5⟩
     intro I1 hf le1
     refine zF ?_
     rintro _ _ ⟨rfl,rfl⟩
     refine zF ?_
     rintro _ _ ⟨b2,rfl,rfl,h6⟩
     refine zF ?_
     rintro _ _ rfl
     refine yM [(28,vS p1 p.Arrays c),(31,vS (some ⟨b2,0,none⟩) ([y1]:List zE) 1)] ?_
     obtain ⟨ccs1,k0,k01⟩:=h6
     refine pG 127 2 0 rfl rfl rfl (hQ.mono le1).arr (.inl k0) k01 hy3 ?_
     intro p5 c4 cs3 h7
     exact uC (hs':=(hO zE (vS p5 l c4) cs3::(hB b1 zTwo::hB b [vS p1 p.Arrays c,vS p2 raws c1]::hO Raw2 (vS p2 raws c1) cs1::hO zD vN csN::hO zI vB csB::hf))) rfl<|yO [hO zE (vS p5 l c4) cs3] iR ⟨_,_,_,rfl,rfl,h7⟩
   intro I04 le4
   refine zF ?_
   rintro _ _ ⟨p5,c4,cs3,rfl,rfl,h7⟩
   refine yM [(2,vP b 0),(4,vP b1 0),(32,vS p5 l c4)] ?_
   have hQ:=hQ.mono le4
   refine yD 7 [] [(33,vP b 0)]<|xE 2 [vS p5 l c4,vS p2 raws c1] [hO zE (vS p5 l c4) cs3,hB b1 zTwo,hB b [vS p5 l c4,vS p2 raws c1],hO Raw2 (vS p2 raws c1) cs1,hO zD vN csN,hO zI vB csB] rfl rfl rfl rfl<|yH rfl<|zT<|xD<|yD 1 [2] [(98,vA [vS p5 l c4,vS p2 raws c1])]<|xE 1 [vS p5 l c4,vS p2 raws c1] [hO zE (vS p5 l c4) cs3,hB b1 [vS p5 l c4,vS p2 raws c1],hB b [vS p5 l c4,vS p2 raws c1],hO Raw2 (vS p2 raws c1) cs1,hO zD vN csN,hO zI vB csB] rfl rfl rfl rfl<|yH rfl<|zM<|yX ?_
   obtain rfl:=zC N
   exact xC ⟨_,_,(.cell 1 rfl rfl (by kernel_rfl) ResV.nil),(yA [0,3,4,5] rfl (by decide)),⟨_,_,_,_,_,_,_,_,_,_,_,_,_,rfl,rfl,⟨h7,hQ.raw,hQ.lp,hQ.n,hQ.b⟩⟩⟩
 intro hc1 N
 refine yF [(34,.bool (line.l == ([112,97,114,116]:List UInt8)))]<|zM<|yL N ?_ ?_
 · intro hc2 N
   refine pL 4 rfl ?_
   intro I05 le5 hl5
   have kN:=SL.of_frozen hl5 le5 hQ.n
   have hQ:=hQ.mono le5
   refine pL 4 rfl ?_
   intro I06 le6 hl6
   have kB:=SL.of_frozen hl6 le6 hQ.b
   replace kN:=kN.mono le6
   have hQ:=hQ.mono le6
   obtain ⟨l1,hy4,N⟩:=zB N
   have hy5:=zG3 (l':=raws) (m':=[(⟨z0,z0⟩:Raw2)]) hy4 hQ.lp.2.1 rfl
   have hLP:=hQ.lp.part kN kB hy4
   refine zQ<|uC (hs':=[hB b1 zTwo,hB b [vS p1 p.Arrays c,vS p2 raws c1],hO zE (vS p1 p.Arrays c) cs,hO Raw2 (vS p2 raws c1) cs1]) rfl<|yD 3 [1] [(38,vS p2 raws c1),(39,vA zTwo)]<|xY zTwo Raw2 ?_
   intro b3 hb3
   have h8:RL I06 zTwo [(⟨z0,z0⟩:Raw2)]:=⟨zTwo,[],rfl,rfl,⟨rfl,rfl,rfl⟩,rfl⟩
   refine pG 53 2 4 rfl rfl rfl hQ.raw (.inr ⟨0,rfl⟩) h8 hy5 ?_
   intro p6 c5 cs4 h9
   refine sU (yB [1,2,3,4] (hs':=[hB b1 zTwo,hB b [vS p1 p.Arrays c,vS p2 raws c1],hO zE (vS p1 p.Arrays c) cs,hO Raw2 (vS p6 (raws ++ [(⟨z0,z0⟩:Raw2)]) c5) cs4]))<|yD 6 [] [(42,vP b 1)]<|xE 1 [vS p1 p.Arrays c,vS p6 (raws ++ [(⟨z0,z0⟩:Raw2)]) c5] [hB b1 zTwo,hB b [vS p1 p.Arrays c,vS p6 (raws ++ [(⟨z0,z0⟩:Raw2)]) c5],hO zE (vS p1 p.Arrays c) cs,hO Raw2 (vS p6 (raws ++ [(⟨z0,z0⟩:Raw2)]) c5) cs4] rfl rfl rfl rfl<|yH rfl<|zT<|xD<|yD 1 [1] [(98,vA [vS p1 p.Arrays c,vS p6 (raws ++ [(⟨z0,z0⟩:Raw2)]) c5])]<|xE 0 [vS p1 p.Arrays c,vS p6 (raws ++ [(⟨z0,z0⟩:Raw2)]) c5] [hB b1 [vS p1 p.Arrays c,vS p6 (raws ++ [(⟨z0,z0⟩:Raw2)]) c5],hB b [vS p1 p.Arrays c,vS p6 (raws ++ [(⟨z0,z0⟩:Raw2)]) c5],hO zE (vS p1 p.Arrays c) cs,hO Raw2 (vS p6 (raws ++ [(⟨z0,z0⟩:Raw2)]) c5) cs4] rfl rfl rfl rfl<|yH rfl<|xG<|xU (vM (Rp.sz zI))<|xU (vM (Rp.sz zD)) ?_
   obtain rfl:=zC N
   exact xC ⟨_,_,(.cell 2 rfl rfl (by kernel_rfl) ResV.nil),(yA [4,5,0,1] rfl (by decide)),⟨_,_,_,_,_,_,_,_,_,_,_,_,_,rfl,rfl,⟨hQ.arr,h9,hLP,RepL.nil,RepL.nil⟩⟩⟩
 intro hc2 N
 refine yG ?_
 obtain ⟨o01,ho01,N⟩:=zB N
 refine yU (fun I' hs' m'=>∃ (t43:Bool),o01=t43∧I01.le I'∧hs'=[hB b1 zTwo,hB b [vS p1 p.Arrays c,vS p2 raws c1],hO zE (vS p1 p.Arrays c) cs,hO Raw2 (vS p2 raws c1) cs1,hO zD vN csN,hO zI vB csB]∧m'=[(1,vT line.l),(2,vP b 0),(4,vP b1 0),(6,vI (W ((raws.length:Int) - 1))),(43,.bool t43)]) ?_ ?_
 · refine zQ<|yD 3 [] [(46,.bool (decide ((W ((raws.length:Int) - 1)) ≥ 0)))] ?_
   cases hc3:(decide ((W ((raws.length:Int) - 1)) ≥ 0)) with
   | true =>
    have hM02:=zP hc3 ho01
    refine yD 8 [] [(51,.bool (decide ((y.length:Int) > 0)))] ?_
    cases hc4:(decide ((y.length:Int) > 0)) with
    | true =>
     have hM03:=zP hc4 hM02
     refine yD 9 [] [(52,vS p3 y c2)] ?_
     obtain ⟨x1,hy5,N⟩:=zB hM03
     refine xS rfl rfl h2 hy5 ?_
     intro ad1 ccs2 hat1 hrep1
     obtain rfl:=hrep1
     exact xM 0 hat1 [vT x1.l] (vT x1.l) rfl<|yC [] [(43,.bool (x1.l == ([102,111,114]:List UInt8)))]<|yT [(1,vT line.l),(2,vP b 0),(4,vP b1 0),(6,vI (W ((raws.length:Int) - 1))),(43,.bool (x1.l == ([102,111,114]:List UInt8)))]<|zV ⟨_,(zC N).symm,Imm.le.refl _,rfl,rfl⟩
    | false =>
     have hM04:=zL hc4 hM02
     exact yC [] [(43,vF)]<|yT [(1,vT line.l),(2,vP b 0),(4,vP b1 0),(6,vI (W ((raws.length:Int) - 1))),(43,vF)]<|zV ⟨_,(zC hM04).symm,Imm.le.refl _,rfl,rfl⟩
   | false =>
    have hM05:=zL hc3 ho01
    exact yC [] [(43,vF)]<|yT [(1,vT line.l),(2,vP b 0),(4,vP b1 0),(6,vI (W ((raws.length:Int) - 1))),(43,vF)]<|zV ⟨_,(zC hM05).symm,Imm.le.refl _,rfl,rfl⟩
 rintro I05 hs2 m2 ⟨t43,heq1,le5,rfl,rfl⟩
 subst o01
 have hQ:=hQ.mono le5
 refine zM<|yL N ?_ ?_
 · intro hc5 N
   refine yK<|yD 3 [1] [(58,vS p2 raws c1),(59,vI (W ((raws.length:Int) - 1)))] ?_
   obtain ⟨x2,hy6,N⟩:=zB N
   obtain ⟨rfl,hyr,hset⟩:=hQ.lp.last hy6
   refine nT 3 rfl rfl rfl hQ.raw hyr ?_
   intro ad2 ccs3 hat2 hcc hrep2
   obtain ⟨rfl,o1,o2⟩:=hrep2
   refine zCe 3 0 hat2 hcc [vN,vB] (vA [vN,vB]) rfl rfl<|wR zTwo ?_
   intro b4 hb4
   refine zJw 0 [vN,vB] (hB b4 [vN,vB]::[hB b1 zTwo,hB b [vS p1 p.Arrays c,vS p2 raws c1],hO zE (vS p1 p.Arrays c) cs,hO Raw2 (vS p2 raws c1) cs1,hO zD vN csN,hO zI vB csB]) rfl rfl rfl rfl (by simp [Value.cells,o1,o2])<|yH rfl<|zM<|yG ?_
   obtain ⟨y2,hy7,N⟩:=zB N
   obtain ⟨l2,hy8,N⟩:=zB N
   refine wA [.p (vP b4 0) [],.p vN [0],.p (vT line.l) [],.x (fun I' v hx=>∃ p9 c8 p10 c9,v=vA (cLoop y2 p9 c8 p10 c9)∧hx=[]∧(S4 I' p9 y2.Lo c8)∧(S4 I' p10 y2.Hi c9)),.x (fun I' v hx=>∃ b5,v=vS (some ⟨b5,0,none⟩) ([y2]:List zD) 1∧hx=[]∧(SL I' (vS (some ⟨b5,0,none⟩) ([y2]:List zD) 1) ([y2]:List zD))),.x (fun I' v hx=>∃ p11 c10 cs3,v=vS p11 l2 c10∧hx=[hO zD (vS p11 l2 c10) cs3]∧(RL I' cs3 l2))] [[],[(0,false)],[],[(2,false)],[(3,false)],[(1,false),(4,false),(8,true)]] [hB b4 [vN,vB],hB b1 zTwo,hB b [vS p1 p.Arrays c,vS p2 raws c1],hO zE (vS p1 p.Arrays c) cs,hO Raw2 (vS p2 raws c1) cs1,hO zI vB csB] [[hO zD vN csN]] [(5,true)] (yB [0,1,2,3,4,6,5]) ?_ ?_
   · refine Op<|Op<|Op<|Ox ?_<|Ox ?_<|Ox ?_<|On
     · intro I1 hf le1
       refine yM [(64,vT line.l)]<|xT (zFB line _ hy7 ) ?_
       rintro I06 hs2 v2 k2 le6 - ⟨v05,rfl,rfl,⟨cs5,rfl,h12⟩⟩ -
       obtain ⟨v06,v07,rfl,h13,h14⟩:=zBB h12
       obtain ⟨p9,c8,rfl⟩:=h13.form
       obtain ⟨p10,c9,rfl⟩:=h14.form
       exact yO [] le6 ⟨_,_,_,_,rfl,rfl,h13,h14⟩
     · intro I1 hf le1
       refine zF ?_
       rintro _ _ ⟨p9,c8,p10,c9,rfl,rfl,h13,h14⟩
       refine yM [(65,vA (cLoop y2 p9 c8 p10 c9))]<|xY (cLoop y2 p9 c8 p10 c9) zD ?_
       intro b5 hb5
       have h15:RL I1 (cLoop y2 p9 c8 p10 c9) ([y2]:List zD):=⟨(cLoop y2 p9 c8 p10 c9),_,rfl,rfl,(sV ⟨_,_,rfl,h13,h14⟩),rfl⟩
       refine yJ 0 rfl ?_
       intro I07 le7 hl01
       exact yO [] le7 ⟨_,rfl,rfl,SL.of_frozen hl01 le7 h15⟩
     intro I1 hf le1
     refine zF ?_
     rintro u _ ⟨hu,rfl⟩
     have hu:=hu.symm
     subst hu
     refine zF ?_
     rintro _ _ ⟨b5,rfl,rfl,h16⟩
     refine zF ?_
     rintro _ _ rfl
     refine yM [(63,vN),(66,vS (some ⟨b5,0,none⟩) ([y2]:List zD) 1)] ?_
     obtain ⟨ccs4,k0,k01⟩:=h16
     refine pG 169 2 0 rfl rfl rfl (hQ.mono le1).n (.inl k0) k01 hy8 ?_
     intro p11 c10 cs3 h17
     exact uC (hs':=(hO zD (vS p11 l2 c10) cs3::(hB b4 [vN,vB]::hB b1 zTwo::hB b [vS p1 p.Arrays c,vS p2 raws c1]::hO zE (vS p1 p.Arrays c) cs::hO Raw2 (vS p2 raws c1) cs1::hO zI vB csB::hf))) rfl<|yO [hO zD (vS p11 l2 c10) cs3] iR ⟨_,_,_,rfl,rfl,h17⟩
   intro I08 le8
   refine zF ?_
   rintro _ _ ⟨p11,c10,cs3,rfl,rfl,h17⟩
   refine yM [(2,vP b 0),(4,vP b1 0),(6,vI (W ((raws.length:Int) - 1))),(7,vP b4 0),(67,vS p11 l2 c10)] ?_
   have hQ:=hQ.mono le8
   refine yD 7 [] [(68,vP b4 0)]<|xE 1 [vS p11 l2 c10,vB] [hO zD (vS p11 l2 c10) cs3,hB b4 [vS p11 l2 c10,vB],hB b1 zTwo,hB b [vS p1 p.Arrays c,vS p2 raws c1],hO zE (vS p1 p.Arrays c) cs,hO Raw2 (vS p2 raws c1) cs1,hO zI vB csB] rfl rfl rfl rfl<|yH rfl<|zM<|zQ<|yD 4 [3,1] [(70,vS p2 raws c1),(71,vI (W ((raws.length:Int) - 1))),(72,vA [vS p11 l2 c10,vB])]<|nT 5 rfl rfl rfl hQ.raw hyr ?_
   intro ad3 ccs5 hat3 hcc1 hrep3
   obtain ⟨rfl,-⟩:=hrep3
   refine qO (α:=Raw2) (c:=[vS p11 l2 c10,vB]) (x':=⟨vS p11 l2 c10,vB⟩) 5 0 rfl rfl rfl hat3 rfl rfl hcc1 (by kernel_rfl) (by kernel_rfl) (by simp [Value.cells,o2]; rfl) hQ.raw hyr (by kernel_rfl) ⟨rfl,rfl,o2⟩ ?_
   intro cs6 h19 hl02
   refine uC (hs':=[hO zD (vS p11 l2 c10) cs3,hB b4 [vS p11 l2 c10,vB],hB b1 zTwo,hB b [vS p1 p.Arrays c,vS p2 raws c1],hO zE (vS p1 p.Arrays c) cs,hO Raw2 (vS p2 raws c1) cs6,hO zI vB csB]) rfl<|yH rfl<|zT<|xD<|yD 1 [3] [(98,vA [vS p1 p.Arrays c,vS p2 raws c1])]<|xE 2 [vS p1 p.Arrays c,vS p2 raws c1] [hO zD (vS p11 l2 c10) cs3,hB b4 [vS p11 l2 c10,vB],hB b1 [vS p1 p.Arrays c,vS p2 raws c1],hB b [vS p1 p.Arrays c,vS p2 raws c1],hO zE (vS p1 p.Arrays c) cs,hO Raw2 (vS p2 raws c1) cs6,hO zI vB csB] rfl rfl rfl rfl<|yH rfl<|zM<|yX ?_
   obtain rfl:=zC N
   exact xC ⟨[vA [vS p1 p.Arrays c,vS p2 raws c1]],_,(.cell 2 rfl rfl (by kernel_rfl) ResV.nil),(yA [4,5,0,6] rfl (by decide)),⟨p1,c,cs,p2,c1,cs6,raws.set (W ((raws.length:Int) - 1)).toNat ⟨vS p11 l2 c10,vB⟩,vS p11 l2 c10,vB,l2,bl,cs3,csB,(by simp only [vS,hl02]),(by simp only [vS,hl02]),⟨hQ.arr,h19,(hset _ _ _ _).mono le8,h17,hQ.b⟩⟩⟩
 intro hc5 N
 refine yF [(74,.bool (decide ((W ((raws.length:Int) - 1)) ≥ 0)))]<|zM<|yL N ?_ ?_
 · intro hc6 N
   refine yK<|yD 3 [1] [(78,vS p2 raws c1),(79,vI (W ((raws.length:Int) - 1)))] ?_
   obtain ⟨x4,hy10,N⟩:=zB N
   obtain ⟨rfl,hyr,hset⟩:=hQ.lp.last hy10
   refine nT 3 rfl rfl rfl hQ.raw hyr ?_
   intro ad4 ccs5 hat4 hcc2 hrep4
   obtain ⟨rfl,o1,o2⟩:=hrep4
   refine zCe 3 0 hat4 hcc2 [vN,vB] (vA [vN,vB]) rfl rfl<|wR zTwo ?_
   intro b6 hb6
   refine zJw 0 [vN,vB] (hB b6 [vN,vB]::[hB b1 zTwo,hB b [vS p1 p.Arrays c,vS p2 raws c1],hO zE (vS p1 p.Arrays c) cs,hO Raw2 (vS p2 raws c1) cs1,hO zD vN csN,hO zI vB csB]) rfl rfl rfl rfl (by simp [Value.cells,o1,o2])<|yH rfl<|xD<|yD 1 [] [(83,vT line.l)] ?_
   obtain ⟨⟨y4,y5⟩,hy11,N⟩:=zB N
   refine xT (dD line _ hy11 ) ?_
   rintro I09 hs2 v2 k2 le9 - ⟨v012,v013,rfl,rfl,⟨cs7,rfl,h22⟩,rfl⟩ -
   have hQ:=hQ.mono le9
   obtain ⟨v014,v015,v016,v017,rfl,h24,h25,h26,h27⟩:=pO h22
   obtain ⟨p15,c14,rfl⟩:=h24.form
   obtain ⟨p16,c15,rfl⟩:=h25.form
   obtain ⟨p17,c16,rfl⟩:=h26.form
   obtain ⟨p18,c17,rfl⟩:=h27.form
   refine yD 5 [] [(85,vA (cStmt y4 p15 c14 p16 c15 p17 c16 p18 c17)),(86,.bool y5)]<|wR [vT ([]),z0,vI 0,vI 0,z0,vI 0,vT ([]),z0,z0] ?_
   intro b7 hb7
   refine xE 0 (cStmt y4 p15 c14 p16 c15 p17 c16 p18 c17) (hB b7 (cStmt y4 p15 c14 p16 c15 p17 c16 p18 c17)::hB b6 [vN,vB]::[hB b1 zTwo,hB b [vS p1 p.Arrays c,vS p2 raws c1],hO zE (vS p1 p.Arrays c) cs,hO Raw2 (vS p2 raws c1) cs1,hO zD vN csN,hO zI vB csB]) rfl rfl rfl rfl<|yC [] []<|xD<|yD 3 [1,0] [(88,vB),(89,vA (cStmt y4 p15 c14 p16 c15 p17 c16 p18 c17))]<|xY (cStmt y4 p15 c14 p16 c15 p17 c16 p18 c17) zI ?_
   intro b8 hb8
   have h28:RL I09 (cStmt y4 p15 c14 p16 c15 p17 c16 p18 c17) ([y4]:List zI):=⟨(cStmt y4 p15 c14 p16 c15 p17 c16 p18 c17),_,rfl,rfl,(wM ⟨_,_,_,_,rfl,h24,h25,h26,h27⟩),rfl⟩
   obtain ⟨l3,hy12,N⟩:=zB N
   refine pG 49 9 8 rfl rfl rfl hQ.b (.inr ⟨0,rfl⟩) h28 hy12 ?_
   intro p19 c18 cs9 h29
   refine sU (yB [2,3,4,5,6,7,8] (hs':=[hB b6 [vN,vB],hB b1 zTwo,hB b [vS p1 p.Arrays c,vS p2 raws c1],hO zE (vS p1 p.Arrays c) cs,hO Raw2 (vS p2 raws c1) cs1,hO zD vN csN,hO zI (vS p19 l3 c18) cs9]))<|yD 6 [] [(92,vP b6 1)]<|xE 0 [vN,vS p19 l3 c18] [hB b6 [vN,vS p19 l3 c18],hB b1 zTwo,hB b [vS p1 p.Arrays c,vS p2 raws c1],hO zE (vS p1 p.Arrays c) cs,hO Raw2 (vS p2 raws c1) cs1,hO zD vN csN,hO zI (vS p19 l3 c18) cs9] rfl rfl rfl rfl<|yH rfl<|zM<|zQ<|yD 4 [2,0] [(94,vS p2 raws c1),(95,vI (W ((raws.length:Int) - 1))),(96,vA [vN,vS p19 l3 c18])]<|nT 4 rfl rfl rfl hQ.raw hyr ?_
   intro ad5 ccs6 hat5 hcc3 hrep5
   obtain ⟨rfl,-⟩:=hrep5
   refine qO (α:=Raw2) (c:=[vN,vS p19 l3 c18]) (x':=⟨vN,vS p19 l3 c18⟩) 4 0 rfl rfl rfl hat5 rfl rfl hcc3 (by kernel_rfl) (by kernel_rfl) (by simp [Value.cells,o1]; rfl) hQ.raw hyr (by kernel_rfl) ⟨rfl,o1,rfl⟩ ?_
   intro cs8 h31 hl03
   refine uC (hs':=[hB b6 [vN,vS p19 l3 c18],hB b1 zTwo,hB b [vS p1 p.Arrays c,vS p2 raws c1],hO zE (vS p1 p.Arrays c) cs,hO Raw2 (vS p2 raws c1) cs8,hO zD vN csN,hO zI (vS p19 l3 c18) cs9]) rfl<|yH rfl<|zT<|xD<|yD 1 [2] [(98,vA [vS p1 p.Arrays c,vS p2 raws c1])]<|xE 1 [vS p1 p.Arrays c,vS p2 raws c1] [hB b6 [vN,vS p19 l3 c18],hB b1 [vS p1 p.Arrays c,vS p2 raws c1],hB b [vS p1 p.Arrays c,vS p2 raws c1],hO zE (vS p1 p.Arrays c) cs,hO Raw2 (vS p2 raws c1) cs8,hO zD vN csN,hO zI (vS p19 l3 c18) cs9] rfl rfl rfl rfl<|yH rfl<|zM<|yX ?_
   obtain rfl:=zC N
   exact xC ⟨[vA [vS p1 p.Arrays c,vS p2 raws c1]],_,(.cell 1 rfl rfl (by kernel_rfl) ResV.nil),(yA [3,4,5,6] rfl (by decide)),⟨p1,c,cs,p2,c1,cs8,raws.set (W ((raws.length:Int) - 1)).toNat ⟨vN,vS p19 l3 c18⟩,vN,vS p19 l3 c18,nl,l3,csN,cs9,(by simp only [vS,hl03]),(by simp only [vS,hl03]),⟨hQ.arr,h31,(hset _ _ _ _).mono le9,hQ.n,h29⟩⟩⟩
 intro hc6 N
 refine zW<|zT<|xD<|yD 1 [1] [(98,vA [vS p1 p.Arrays c,vS p2 raws c1])]<|xE 0 [vS p1 p.Arrays c,vS p2 raws c1] [hB b1 [vS p1 p.Arrays c,vS p2 raws c1],hB b [vS p1 p.Arrays c,vS p2 raws c1],hO zE (vS p1 p.Arrays c) cs,hO Raw2 (vS p2 raws c1) cs1,hO zD vN csN,hO zI vB csB] rfl rfl rfl rfl<|yH rfl<|zM<|yX ?_
 obtain rfl:=zC N
 exact xC ⟨_,_,(.cell 0 rfl rfl (by kernel_rfl) ResV.nil),(yA [2,3,4,5] rfl (by decide)),⟨_,_,_,_,_,_,_,_,_,_,_,_,_,rfl,rfl,hQ⟩⟩
def vC (x:zE) (k0:Int):Option (Out Unit (Bool)):=do
 if (decide (k0 < (x.Dims.length:Int))) then
  let t77←(do
    let x2←idx x.Dims k0
    if (decide (x2 < 1)) then
     pure true
    else
     let x3←idx x.Dims k0
     pure (decide (x3 > 6))
      : Option Bool)
  if t77 then
   pure (.ret false)
  else
   vC x (W (k0 + 1))
 else
  pure (.done ())
 partial_fixpoint
theorem zBh (x:zE):∀ (k0:Int) (o:Out Unit (Bool)),vC x k0=some o→∀ {B}{I0 I:Imm}{Q}{list:(List zE)}{i:Int}{p c p1 c1}{b:Nat},I0.le I→(S4 I p list c)→(S4 I p1 x.Dims c1)→NG Q→NO Q→(∀ (I':Imm) ,o=(.done ())→I0.le I'→T 81 B Q (.exit 2) I' [] [(0,vS p list c),(3,vI i)])→(∀ r I' hs' m',o=(.ret r)→I0.le I'→RS Tryz.prog Tryz.f99 B (zU  r) I' hs' m'→T 81 B Q .ret I' hs' m')→J Tryz.prog 81 B (nav (bodyOf Tryz.f99) [1,0,1,0,0,1,0,0,1,1,1,0]) Q I [hB b (cArr x p1 c1)] [(0,vS p list c),(3,vI i),(4,vP b 0),(5,vI k0)]:=by
 refine vC.partial_correctness x _ fun self ih k0 o N B I0 I Q list i p c p1 c1 b H h h1 hg ho hx hr=>yZ hg ho<|yG<|yK<|yC [0] [(61,.bool (decide (k0 < (x.Dims.length:Int))))]<|zM<|yL N ?_ ?_
 · intro hc9 N;refine zW<|yI<|yP<|yG ?_;obtain ⟨o01,ho01,hMc1⟩:=zB N;refine yU (fun I' hs' m'=>∃ (t77:Bool),o01=t77∧I.le I'∧hs'=[hB b (cArr x p1 c1)]∧m'=[(0,vS p list c),(3,vI i),(4,vP b 0),(5,vI k0),(77,.bool t77)]) ?_ ?_
   · have H:=iS I;refine zQ<|yD 3 [0] [(65,vS p1 x.Dims c1),(66,vI k0)] ?_;obtain ⟨x2,hy2,N⟩:=zB ho01;refine xS rfl rfl h1 hy2 ?_;intro ad2 ccs2 hat2 hrep2;obtain rfl:=hrep2;refine xM 0 hat2 [vI x2] (vI x2) rfl<|yD 7 [] [(70,.bool (decide (x2 < 1)))] ?_;cases hc10:(decide (x2 < 1)) with
     | true =>
      have hM014:=zP hc10 N
      try rw [hc10]
      exact yC [] [(77,vY)]<|yT [(0,vS p list c),(3,vI i),(4,vP b 0),(5,vI k0),(77,vY)]<|zV (ct hM014 H)
     | false =>
      have hM015:=zL hc10 N
      try rw [hc10]
      refine yD 10 [0] [(72,vS p1 x.Dims c1),(73,vI k0)] ?_;obtain ⟨x3,hy3,N⟩:=zB hM015;refine xS rfl rfl h1 hy3 ?_;intro ad3 ccs3 hat3 hrep3;obtain rfl:=hrep3;exact xM 0 hat3 [vI x3] (vI x3) rfl<|yC [] [(77,.bool (decide (x3 > 6)))]<|yT [(0,vS p list c),(3,vI i),(4,vP b 0),(5,vI k0),(77,.bool (decide (x3 > 6)))]<|zV (ct N H)
   rintro I01 hs2 m2 ⟨t77,heq1,le1,rfl,rfl⟩;subst o01;have h:=h.mono le1;have h1:=h1.mono le1;have H:=H.trans le1;refine zM<|yL hMc1 ?_ ?_
   · intro hc11 N;exact yF [(2,vF)]<|xG<|zZ<|zH<|zH<|hr _ _ _ _ (zC N).symm H ⟨_,_,(.tmp rfl ResV.nil),zR,⟨_,rfl,rfl,rfl⟩⟩
   intro hc11 N;exact zW<|zT<|zM<|zQ<|yC [] [(5,vI (W (k0 + 1)))]<|yY<|vE [(0,vS p list c),(3,vI i),(4,vP b 0),(5,vI (W (k0 + 1)))]<|ih (W (k0 + 1)) _ N H h h1 hg ho hx hr
 intro hc9 N;exact vW<|xU zR<|yT [(0,vS p list c),(3,vI i)]<|hx _  (zC N).symm H
def uA (list:(List zE)) (i:Int):Option (Out Unit (Bool)):=do
 if (decide (i < (list.length:Int))) then
  let x←idx list i
  let t56←(do
    if ((x.Name.l.length:Int) != 1) then
     pure true
    else
     if (Op.bytesLess x.Name.l ([65]:List UInt8)) then
      pure true
     else
      if (!(Op.bytesLess x.Name.l ([68]:List UInt8) || x.Name.l == ([68]:List UInt8))) then
       pure true
      else
       if (decide (i > 0)) then
        let x1←idx list (W (i - 1))
        if (!(Op.bytesLess x1.Name.l x.Name.l)) then
         pure true
        else
         if (decide ((x.Dims.length:Int) < 1)) then
          pure true
         else
          pure (decide ((x.Dims.length:Int) > 2))
       else
        if (decide ((x.Dims.length:Int) < 1)) then
         pure true
        else
         pure (decide ((x.Dims.length:Int) > 2))
      : Option Bool)
  if t56 then
   pure (.ret false)
  else
   match←vC x 0 with
   | .ret r0=>pure (.ret r0)
   | .done _ =>
    uA list (W (i + 1))
 else
  pure (.done ())
 partial_fixpoint
theorem zBi (list:(List zE)):∀ (i:Int) (o:Out Unit (Bool)),uA list i=some o→∀ {B}{I0 I:Imm}{Q p c},I0.le I→(S4 I p list c)→NG Q→NO Q→(∀ (I':Imm) ,o=(.done ())→I0.le I'→T 81 B Q (.exit 0) I' [] [(0,vS p list c)])→(∀ r I' hs' m',o=(.ret r)→I0.le I'→RS Tryz.prog Tryz.f99 B (zU  r) I' hs' m'→T 81 B Q .ret I' hs' m')→J Tryz.prog 81 B (nav (bodyOf Tryz.f99) [1,0,1,0]) Q I [] [(0,vS p list c),(3,vI i)]:=by
 refine uA.partial_correctness list _ fun self ih i o N B I0 I Q p c H h hg ho hx hr=>yZ hg ho<|yG<|yF [(9,.bool (decide (i < (list.length:Int))))]<|zM<|yL N ?_ ?_
 · intro hc N;refine zW<|yI<|yP<|yK<|yD 2 [] [(12,vS p list c),(13,vI i)]<|bE N fun x hy N=>xS rfl rfl h hy ?_;intro ad ccs hat hrep;obtain ⟨p1,c1,rfl,h1⟩:=wH hrep;refine xM 0 hat (cArr x p1 c1) (vA (cArr x p1 c1)) rfl<|wR [vT ([]),z0] ?_;intro b hb;refine xE 0 (cArr x p1 c1) [hB b (cArr x p1 c1)] rfl rfl rfl rfl<|yH rfl<|yI<|yG ?_;obtain ⟨o0,ho0,hMc⟩:=zB N;refine yU (fun I' hs' m'=>∃ (t56:Bool),o0=t56∧I.le I'∧hs'=[hB b (cArr x p1 c1)]∧m'=[(0,vS p list c),(3,vI i),(4,vP b 0),(56,.bool t56)]) ?_ ?_
   · have H:=iS I;refine jR (by kernel_rfl) (by kernel_rfl)<|eQ 5 [0] [(20,.bool ((x.Name.l.length:Int) != 1))] ?_;cases hc1:((x.Name.l.length:Int) != 1) with
     | true =>
      have hM0:=zP hc1 ho0
      try rw [hc1]
      exact zCc [] [(56,vY)]<|yT [(0,vS p list c),(3,vI i),(4,vP b 0),(56,vY)]<|zV (ct hM0 H)
     | false =>
      have hM01:=zL hc1 ho0
      try rw [hc1]
      refine eQ 10 [0] [(25,.bool (Op.bytesLess x.Name.l ([65]:List UInt8)))] ?_;cases hc2:(Op.bytesLess x.Name.l ([65]:List UInt8)) with
      | true =>
       have hM02:=zP hc2 hM01
       try rw [hc2]
       exact zCc [] [(56,vY)]<|yT [(0,vS p list c),(3,vI i),(4,vP b 0),(56,vY)]<|zV (ct hM02 H)
      | false =>
       have hM03:=zL hc2 hM01
       try rw [hc2]
       refine eQ 15 [0] [(30,.bool (!(Op.bytesLess x.Name.l ([68]:List UInt8) || x.Name.l == ([68]:List UInt8))))] ?_;cases hc3:(!(Op.bytesLess x.Name.l ([68]:List UInt8) || x.Name.l == ([68]:List UInt8))) with
       | true =>
        have hM04:=zP hc3 hM03
        try rw [hc3]
        exact zCc [] [(56,vY)]<|yT [(0,vS p list c),(3,vI i),(4,vP b 0),(56,vY)]<|zV (ct hM04 H)
       | false =>
        have hM05:=zL hc3 hM03
        try rw [hc3]
        refine eQ 18 [] [(33,.bool (decide (i > 0)))] ?_;cases hc4:(decide (i > 0)) with
        | true =>
         have hM06:=zP hc4 hM05
         try rw [hc4]
         refine eQ 21 [] [(34,vS p list c),(36,vI (W (i - 1)))] ?_;obtain ⟨x1,hy1,N⟩:=zB hM06;refine zBA rfl rfl h hy1 ?_;intro ad1 ccs1 hat1 hrep1;obtain ⟨p2,c2,rfl,h2⟩:=wH hrep1;refine eQ 23 [] [(38,.pointer (some ad1))]<|zAz 0 hat1 [vT x1.Name.l] (vT x1.Name.l) rfl<|eQ 30 [0] [(45,.bool (!(Op.bytesLess x1.Name.l x.Name.l)))] ?_;cases hc5:(!(Op.bytesLess x1.Name.l x.Name.l)) with
         | true =>
          have hM07:=zP hc5 N
          try rw [hc5]
          exact zCc [] [(56,vY)]<|yT [(0,vS p list c),(3,vI i),(4,vP b 0),(56,vY)]<|zV (ct hM07 H)
         | false =>
          have hM08:=zL hc5 N
          try rw [hc5]
          refine eQ 36 [0] [(51,.bool (decide ((x.Dims.length:Int) < 1)))] ?_;cases hc6:(decide ((x.Dims.length:Int) < 1)) with
          | true =>
           have hM09:=zP hc6 hM08
           try rw [hc6]
           exact zCc [] [(56,vY)]<|yT [(0,vS p list c),(3,vI i),(4,vP b 0),(56,vY)]<|zV (ct hM09 H)
          | false =>
           have hM010:=zL hc6 hM08
           try rw [hc6]
           exact zCc [0] [(56,.bool (decide ((x.Dims.length:Int) > 2)))]<|yT [(0,vS p list c),(3,vI i),(4,vP b 0),(56,.bool (decide ((x.Dims.length:Int) > 2)))]<|zV (ct hM010 H)
        | false =>
         have hM011:=zL hc4 hM05
         try rw [hc4]
         refine eQ 36 [0] [(51,.bool (decide ((x.Dims.length:Int) < 1)))] ?_;cases hc7:(decide ((x.Dims.length:Int) < 1)) with
         | true =>
          have hM012:=zP hc7 hM011
          try rw [hc7]
          exact zCc [] [(56,vY)]<|yT [(0,vS p list c),(3,vI i),(4,vP b 0),(56,vY)]<|zV (ct hM012 H)
         | false =>
          have hM013:=zL hc7 hM011
          try rw [hc7]
          exact zCc [0] [(56,.bool (decide ((x.Dims.length:Int) > 2)))]<|yT [(0,vS p list c),(3,vI i),(4,vP b 0),(56,.bool (decide ((x.Dims.length:Int) > 2)))]<|zV (ct hM013 H)
   rintro I0 hs2 m2 ⟨t56,heq,le,rfl,rfl⟩;subst o0;have h:=h.mono le;have h1:=h1.mono le;have H:=H.trans le;refine zM<|yL hMc ?_ ?_
   · intro hc8 N;exact yF [(2,vF)]<|xG<|zH<|zZ<|zH<|zH<|hr _ _ _ _ (zC N).symm H ⟨_,_,(.tmp rfl ResV.nil),zR,⟨_,rfl,rfl,rfl⟩⟩
   intro hc8 N;refine zW<|vH [(5,vI 0)]<|wO<|vE [(0,vS p list c),(3,vI i),(4,vP b 0),(5,vI 0)] ?_;obtain ⟨o02,ho02,hMl⟩:=zB N;refine zBh x 0 o02 ho02 iR h h1 (fun _ _ _ h=>hg _ _ _ h) (fun _ _ h=>ho _ _ h) ?_ ?_
   · intro I02  heq2 le2;subst o02;have h:=h.mono le2;have H:=H.trans le2;exact zX<|zT<|zM<|zQ<|yC [] [(3,vI (W (i + 1)))]<|yY<|vE [(0,vS p list c),(3,vI (W (i + 1)))]<|ih (W (i + 1)) _ hMl H h hg ho hx hr
   intro r0 I9 hs9 m9 heq9 le9 hrs9;subst heq9;exact zZ<|zZ<|zH<|zH<|hr _ _ _ _ (zC hMl).symm (H.trans le9) hrs9
 intro hc N;exact vW<|yT [(0,vS p list c)]<|hx _  (zC N).symm H
def pU (list:(List zE)):Option (Bool):=do
 match←uA list 0 with
 | .ret r0=>pure r0
 | .done _ =>
  pure (decide ((list.length:Int) ≤ 4))
theorem zDi:∀ list r,pU list=some r→∀ {I:Imm}{p c},(S4 I p list c)→RT 99 [vS p list c] I [] (zU  r):=by
 intro list r N I p c h;unfold pU at N;refine zY (fn:=Tryz.f99) (c:=(bodyOf Tryz.f99)) Tryz.func99 rfl rfl ?_;rintro B - -;refine yF []<|yI<|yF [(3,vI 0)]<|wO<|vE [(0,vS p list c),(3,vI 0)] ?_;obtain ⟨o03,ho03,hMl1⟩:=zB N;refine zBi list 0 o03 ho03 iR h (fun _ _ _ h=>h) (fun _ _ h=>h) ?_ ?_
 · intro I03  heq3 le3;subst o03;refine zX<|vH [(2,.bool (decide ((list.length:Int) ≤ 4)))]<|zM<|yX ?_;obtain rfl:=zC hMl1;exact wN
 intro r0 I9 hs9 m9 heq9 le9 hrs9;subst heq9;refine zZ<|zH ?_;obtain rfl:=zC hMl1;exact xC hrs9
def tG (a0:zA) (point:(List Int)) (n0:Int) (i:Int):Option (Int):=do
 let t19←(do
   if (decide (i < (point.length:Int))) then
    pure (decide (i < (a0.Coefs.length:Int)))
   else
    pure false
     : Option Bool)
 if t19 then
  let x←idx a0.Coefs i
  let x1←idx point i
  tG a0 point (W (n0 + (W (x * x1)))) (W (i + 1))
 else
  pure (id n0)
 partial_fixpoint
theorem zCt (a0:zA) (point:(List Int)):∀ (n0:Int) (i:Int) (o:Int),tG a0 point n0 i=some o→∀ {B}{I0 I:Imm}{Q p c p1 c1}{b:Nat},I0.le I→(S4 I p1 point c1)→(S4 I p a0.Coefs c)→NG Q→NO Q→(∀ (I':Imm) (n01:Int),o=n01→I0.le I'→T 35 B Q (.exit 0) I' [] [(5,vI n01)])→J Tryz.prog 35 B (nav (bodyOf Tryz.f97) [1,1,0,1,0]) Q I [hB b (cAff a0 p c)] [(1,vS p1 point c1),(2,vP b 0),(5,vI n0),(6,vI i)]:=by
 refine tG.partial_correctness a0 point _ fun self ih n0 i o N B I0 I Q p c p1 c1 b H h1 h hg ho hx=>yZ hg ho<|yG<|yG ?_;obtain ⟨o0,ho0,hMc⟩:=zB N;refine yU (fun I' hs' m'=>∃ (t19:Bool),o0=t19∧I.le I'∧hs'=[hB b (cAff a0 p c)]∧m'=[(1,vS p1 point c1),(2,vP b 0),(5,vI n0),(6,vI i),(19,.bool t19)]) ?_ ?_
 · have H:=iS I;refine zQ<|yD 5 [] [(13,.bool (decide (i < (point.length:Int))))] ?_;cases hc:(decide (i < (point.length:Int))) with
   | true =>
    have hM0:=zP hc ho0
    try rw [hc]
    exact yC [0] [(19,.bool (decide (i < (a0.Coefs.length:Int))))]<|yT [(1,vS p1 point c1),(2,vP b 0),(5,vI n0),(6,vI i),(19,.bool (decide (i < (a0.Coefs.length:Int))))]<|zV (ct hM0 H)
   | false =>
    have hM01:=zL hc ho0
    try rw [hc]
    exact yC [] [(19,vF)]<|yT [(1,vS p1 point c1),(2,vP b 0),(5,vI n0),(6,vI i),(19,vF)]<|zV (ct hM01 H)
 rintro I0 hs2 m2 ⟨t19,heq,le,rfl,rfl⟩;subst o0;have h1:=h1.mono le;have h:=h.mono le;have H:=H.trans le;refine zM<|yL hMc ?_ ?_
 · intro hc1 N;refine zW<|yI<|yP<|jR (by kernel_rfl) (by kernel_rfl)<|eQ 4 [0] [(22,vI n0),(24,vS p a0.Coefs c),(25,vI i)]<|bE N fun x hy N=>zBA rfl rfl h hy ?_;intro ad ccs hat hrep;obtain rfl:=hrep;refine zAz 0 hat [vI x] (vI x) rfl<|eQ 8 [] [(28,vS p1 point c1),(29,vI i)]<|bE N fun x1 hy1 N=>zBA rfl rfl h1 hy1 ?_;intro ad1 ccs1 hat1 hrep1;obtain rfl:=hrep1;exact zAz 0 hat1 [vI x1] (vI x1) rfl<|zCc [] [(5,vI (W (n0 + (W (x * x1)))))]<|zT<|zM<|zQ<|yC [] [(6,vI (W (i + 1)))]<|yY<|vE [(1,vS p1 point c1),(2,vP b 0),(5,vI (W (n0 + (W (x * x1))))),(6,vI (W (i + 1)))]<|ih (W (n0 + (W (x * x1)))) (W (i + 1)) _ N H h1 h hg ho hx
 intro hc1 N;exact vW<|xU zR<|yT [(5,vI n0)]<|hx _ _ (zC N).symm H
def sY (a0:zA) (point:(List Int)):Option (Int):=do
 let n01←tG a0 point a0.Const 0
 pure (id n01)
theorem kT:∀ a0 point r,sY a0 point=some r→∀ {I:Imm}{p c p1 c1},(S4 I p a0.Coefs c)→(S4 I p1 point c1)→RT 97 [vA (cAff a0 p c),vS p1 point c1] I [] (xJ  r):=by
 intro a0 point r N I p c p1 c1 h h1;unfold sY at N;refine zY (fn:=Tryz.f97) (c:=(bodyOf Tryz.f97)) Tryz.func97 rfl rfl ?_;rintro B - -;refine yK<|uD (cAff a0 p c) ?_;intro b hb;refine yC [] []<|xD<|yC [0] [(5,vI a0.Const)]<|yI<|yF [(6,vI 0)]<|wO<|vE [(1,vS p1 point c1),(2,vP b 0),(5,vI a0.Const),(6,vI 0)] ?_;obtain ⟨o01,ho01,hMl⟩:=zB N;refine zCt a0 point a0.Const 0 o01 ho01 iR h1 h (fun _ _ _ h=>h) (fun _ _ h=>h) ?_;intro I01 n01 heq1 le1;subst o01;refine zX<|vH [(4,vI n01)]<|zM<|yX ?_;obtain rfl:=zC hMl;exact wN
def tH (a0:zE) (n0:Int) (i:Int):Option (Int):=do
 if (decide (i < (a0.Dims.length:Int))) then
  let x←idx a0.Dims i
  tH a0 (W (n0 * x)) (W (i + 1))
 else
  pure (id n0)
 partial_fixpoint
theorem zCu (a0:zE):∀ (n0:Int) (i:Int) (o:Int),tH a0 n0 i=some o→∀ {B}{I0 I:Imm}{Q p c}{b:Nat},I0.le I→(S4 I p a0.Dims c)→NG Q→NO Q→(∀ (I':Imm) (n01:Int),o=n01→I0.le I'→T 20 B Q (.exit 0) I' [] [(3,vI n01)])→J Tryz.prog 20 B (nav (bodyOf Tryz.f143) [1,1,0,1,0]) Q I [hB b (cArr a0 p c)] [(1,vP b 0),(3,vI n0),(4,vI i)]:=by
 refine tH.partial_correctness a0 _ fun self ih n0 i o N B I0 I Q p c b H h hg ho hx=>yZ hg ho<|yG<|yK<|yC [0] [(9,.bool (decide (i < (a0.Dims.length:Int))))]<|zM<|yL N ?_ ?_
 · intro hc N;refine zW<|yI<|yP<|zQ<|yD 4 [0] [(12,vI n0),(14,vS p a0.Dims c),(15,vI i)]<|bE N fun x hy N=>xS rfl rfl h hy ?_;intro ad ccs hat hrep;obtain rfl:=hrep;exact xM 0 hat [vI x] (vI x) rfl<|yC [] [(3,vI (W (n0 * x)))]<|zT<|zM<|zQ<|yC [] [(4,vI (W (i + 1)))]<|yY<|vE [(1,vP b 0),(3,vI (W (n0 * x))),(4,vI (W (i + 1)))]<|ih (W (n0 * x)) (W (i + 1)) _ N H h hg ho hx
 intro hc N;exact vW<|xU zR<|yT [(3,vI n0)]<|hx _ _ (zC N).symm H
def nL (a0:zE):Option (Int):=do
 let n01←tH a0 1 0
 pure (id n01)
theorem zFD:∀ a0 r,nL a0=some r→∀ {I:Imm}{p c},(S4 I p a0.Dims c)→RT 143 [vA (cArr a0 p c)] I [] (xJ  r):=by
 intro a0 r N I p c h;unfold nL at N;refine zY (fn:=Tryz.f143) (c:=(bodyOf Tryz.f143)) Tryz.func143 rfl rfl ?_;rintro B - -;refine yK<|uD (cArr a0 p c) ?_;intro b hb;refine yC [] []<|vH [(3,vI 1)]<|yI<|yF [(4,vI 0)]<|wO<|vE [(1,vP b 0),(3,vI 1),(4,vI 0)] ?_;obtain ⟨o0,ho0,hMl⟩:=zB N;refine zCu a0 1 0 o0 ho0 iR h (fun _ _ _ h=>h) (fun _ _ h=>h) ?_;intro I0 n01 heq le;subst o0;refine zX<|vH [(2,vI n01)]<|zM<|yX ?_;obtain rfl:=zC hMl;exact wN
def uJ (list:(List zE)) (a0:zJ) (point:(List Int)) (i:Int) (n0:Int) (k0:Int):Option (Out Int (Int)):=do
 if (decide (k0 < (a0.Subs.length:Int))) then
  let x2←idx list i
  if ((a0.Subs.length:Int) != (x2.Dims.length:Int)) then
   pure (.ret (-1))
  else
   let x3←idx a0.Subs k0
   let y1←sY x3 point
   let t70←(do
     if (decide (y1 < 0)) then
      pure true
     else
      let x4←idx list i
      let x5←idx x4.Dims k0
      pure (decide (y1 ≥ x5))
       : Option Bool)
   if t70 then
    pure (.ret (-1))
   else
    let x6←idx list i
    let x7←idx x6.Dims k0
    uJ list a0 point i (W ((W (n0 * x7)) + y1)) (W (k0 + 1))
 else
  pure (.done n0)
 partial_fixpoint
theorem zCv (list:(List zE)) (a0:zJ) (point:(List Int)) (i:Int):∀ (n0:Int) (k0:Int) (o:Out Int (Int)),uJ list a0 point i n0 k0=some o→∀ {B}{I0 I:Imm}{Q}{base:Int}{p c p1 c1 p2 c2}{b:Nat},I0.le I→(S4 I p list c)→(S4 I p2 point c2)→(S4 I p1 a0.Subs c1)→NG Q→NO Q→(∀ (I':Imm) (n01:Int),o=(.done n01)→I0.le I'→T 86 B Q (.exit 2) I' [] [(7,vI base),(9,vI n01)])→(∀ r I' hs' m',o=(.ret r)→I0.le I'→RS Tryz.prog Tryz.f98 B (xJ  r) I' hs' m'→T 86 B Q .ret I' hs' m')→J Tryz.prog 86 B (nav (bodyOf Tryz.f98) [1,1,0,1,0,0,1,0,0,1,1,0,1,0]) Q I [hB b (cAccess a0 p1 c1)] [(0,vS p list c),(2,vS p2 point c2),(4,vP b 0),(7,vI base),(8,vI i),(9,vI n0),(10,vI k0)]:=by
 refine uJ.partial_correctness list a0 point i _ fun self ih n0 k0 o N B I0 I Q base p c p1 c1 p2 c2 b H h h2 h1 hg ho hx hr=>yZ hg ho<|yG<|yK<|yC [0] [(37,.bool (decide (k0 < (a0.Subs.length:Int))))]<|zM<|yL N ?_ ?_
 · intro hc2 N;refine zW<|yI<|yP<|yG<|yG<|jR (by kernel_rfl) (by kernel_rfl)<|eQ 5 [0] [(42,vI (a0.Subs.length:Int)),(43,vS p list c),(44,vI i)]<|bE N fun x2 hy3 N=>zBA rfl rfl h hy3 ?_;intro ad2 ccs2 hat2 hrep2;obtain ⟨p5,c5,rfl,h6⟩:=wH hrep2;refine eQ 7 [] [(46,.pointer (some (ad2.add 1)))]<|zAz 1 hat2 [vS p5 x2.Dims c5] (vS p5 x2.Dims c5) rfl<|zCc [] [(49,.bool ((a0.Subs.length:Int) != (x2.Dims.length:Int)))]<|zM<|yL N ?_ ?_
   · intro hc3 N;exact yF [(6,vI (-1))]<|xG<|zH<|zZ<|zH<|zH<|hr _ _ _ _ (zC N).symm H ⟨_,_,(.tmp rfl ResV.nil),zR,⟨_,rfl,rfl,rfl⟩⟩
   intro hc3 N;refine zW<|xD<|yD 3 [0] [(51,vS p1 a0.Subs c1),(52,vI k0)]<|bE N fun x3 hy4 N=>xS rfl rfl h1 hy4 ?_;intro ad3 ccs3 hat3 hrep3;obtain ⟨p6,c6,rfl,h7⟩:=yN hrep3;refine xM 0 hat3 (cAff x3 p6 c6) (vA (cAff x3 p6 c6)) rfl<|yD 6 [] [(55,vS p2 point c2)]<|bE N fun y1 hy5 N=>gB (kT x3 point _ hy5 h7 h2) ?_;intro I01 le1;have h:=h.mono le1;have h2:=h2.mono le1;have h1:=h1.mono le1;have H:=H.trans le1;refine yC [] [(11,vI y1)]<|yI<|yG ?_;obtain ⟨o0,ho0,hMc⟩:=zB N;refine yU (fun I' hs' m'=>∃ (t70:Bool),o0=t70∧I01.le I'∧hs'=[hB b (cAccess a0 p1 c1)]∧m'=[(0,vS p list c),(2,vS p2 point c2),(4,vP b 0),(7,vI base),(8,vI i),(9,vI n0),(10,vI k0),(11,vI y1),(70,.bool t70)]) ?_ ?_
   · have H:=iS I01;refine zQ<|yD 3 [] [(59,.bool (decide (y1 < 0)))] ?_;cases hc4:(decide (y1 < 0)) with
     | true =>
      have hM0:=zP hc4 ho0
      try rw [hc4]
      exact yC [] [(70,vY)]<|yT [(0,vS p list c),(2,vS p2 point c2),(4,vP b 0),(7,vI base),(8,vI i),(9,vI n0),(10,vI k0),(11,vI y1),(70,vY)]<|zV (ct hM0 H)
     | false =>
      have hM01:=zL hc4 ho0
      try rw [hc4]
      refine yD 6 [] [(60,vI y1),(61,vS p list c),(62,vI i)] ?_;obtain ⟨x4,hy6,N⟩:=zB hM01;refine xS rfl rfl h hy6 ?_;intro ad4 ccs4 hat4 hrep4;obtain ⟨p7,c7,rfl,h9⟩:=wH hrep4;refine yD 8 [] [(64,.pointer (some (ad4.add 1)))]<|xM 1 hat4 [vS p7 x4.Dims c7] (vS p7 x4.Dims c7) rfl<|yD 10 [] [(66,vI k0)]<|bE N fun x5 hy7 N=>xS rfl rfl h9 hy7 ?_;intro ad5 ccs5 hat5 hrep5;obtain rfl:=hrep5;exact xM 0 hat5 [vI x5] (vI x5) rfl<|yC [] [(70,.bool (decide (y1 ≥ x5)))]<|yT [(0,vS p list c),(2,vS p2 point c2),(4,vP b 0),(7,vI base),(8,vI i),(9,vI n0),(10,vI k0),(11,vI y1),(70,.bool (decide (y1 ≥ x5)))]<|zV (ct N H)
   rintro I02 hs2 m2 ⟨t70,heq,le2,rfl,rfl⟩;subst o0;have h:=h.mono le2;have h2:=h2.mono le2;have h1:=h1.mono le2;have H:=H.trans le2;refine zM<|yL hMc ?_ ?_
   · intro hc5 N;exact yF [(6,vI (-1))]<|xG<|zH<|zZ<|zH<|zH<|hr _ _ _ _ (zC N).symm H ⟨_,_,(.tmp rfl ResV.nil),zR,⟨_,rfl,rfl,rfl⟩⟩
   intro hc5 N;refine zW<|zM<|zQ<|yD 3 [] [(71,vI n0),(72,vS p list c),(73,vI i)]<|bE N fun x6 hy8 N=>xS rfl rfl h hy8 ?_;intro ad6 ccs6 hat6 hrep6;obtain ⟨p8,c8,rfl,h10⟩:=wH hrep6;refine yD 5 [] [(75,.pointer (some (ad6.add 1)))]<|xM 1 hat6 [vS p8 x6.Dims c8] (vS p8 x6.Dims c8) rfl<|yD 7 [] [(77,vI k0)]<|bE N fun x7 hy9 N=>xS rfl rfl h10 hy9 ?_;intro ad7 ccs7 hat7 hrep7;obtain rfl:=hrep7;exact xM 0 hat7 [vI x7] (vI x7) rfl<|yC [] [(9,vI (W ((W (n0 * x7)) + y1)))]<|zT<|zM<|zQ<|yC [] [(10,vI (W (k0 + 1)))]<|yY<|vE [(0,vS p list c),(2,vS p2 point c2),(4,vP b 0),(7,vI base),(8,vI i),(9,vI (W ((W (n0 * x7)) + y1))),(10,vI (W (k0 + 1)))]<|ih (W ((W (n0 * x7)) + y1)) (W (k0 + 1)) _ N H h h2 h1 hg ho hx hr
 intro hc2 N;exact vW<|xU zR<|yT [(7,vI base),(9,vI n0)]<|hx _ _ (zC N).symm H
def uK (list:(List zE)) (a0:zJ) (point:(List Int)) (base:Int) (i:Int):Option (Out Unit (Int)):=do
 if (decide (i < (list.length:Int))) then
  let x←idx list i
  if (!(x.Name.l == a0.Array.l)) then
   let x1←idx list i
   let y←nL x1
   uK list a0 point (W (base + y)) (W (i + 1))
  else
   match←uJ list a0 point i 0 0 with
   | .ret r0=>pure (.ret r0)
   | .done n01 =>
    pure (.ret (W (base + n01)))
 else
  pure (.done ())
 partial_fixpoint
theorem zCw (list:(List zE)) (a0:zJ) (point:(List Int)):∀ (base:Int) (i:Int) (o:Out Unit (Int)),uK list a0 point base i=some o→∀ {B}{I0 I:Imm}{Q p c p1 c1 p2 c2}{b:Nat},I0.le I→(S4 I p list c)→(S4 I p2 point c2)→(S4 I p1 a0.Subs c1)→NG Q→NO Q→(∀ (I':Imm) ,o=(.done ())→I0.le I'→T 86 B Q (.exit 0) I' [] [])→(∀ r I' hs' m',o=(.ret r)→I0.le I'→RS Tryz.prog Tryz.f98 B (xJ  r) I' hs' m'→T 86 B Q .ret I' hs' m')→J Tryz.prog 86 B (nav (bodyOf Tryz.f98) [1,1,0,1,0]) Q I [hB b (cAccess a0 p1 c1)] [(0,vS p list c),(2,vS p2 point c2),(4,vP b 0),(7,vI base),(8,vI i)]:=by
 refine uK.partial_correctness list a0 point _ fun self ih base i o N B I0 I Q p c p1 c1 p2 c2 b H h h2 h1 hg ho hx hr=>yZ hg ho<|yG<|yF [(15,.bool (decide (i < (list.length:Int))))]<|zM<|yL N ?_ ?_
 · intro hc N;refine zW<|yI<|yP<|yG<|yG<|jR (by kernel_rfl) (by kernel_rfl)<|eQ 2 [] [(18,vS p list c),(19,vI i)]<|bE N fun x hy N=>zBA rfl rfl h hy ?_;intro ad ccs hat hrep;obtain ⟨p3,c3,rfl,h3⟩:=wH hrep;refine eQ 4 [] [(21,.pointer (some ad))]<|zAz 0 hat [vT x.Name.l] (vT x.Name.l) rfl<|zCc [0] [(25,.bool (!(x.Name.l == a0.Array.l)))]<|zM<|yL N ?_ ?_
   · intro hc1 N;refine yK<|yD 3 [] [(26,vI base),(27,vS p list c),(28,vI i)]<|bE N fun x1 hy1 N=>xS rfl rfl h hy1 ?_;intro ad1 ccs1 hat1 hrep1;obtain ⟨p4,c4,rfl,h4⟩:=wH hrep1;refine xM 0 hat1 (cArr x1 p4 c4) (vA (cArr x1 p4 c4)) rfl<|bE N fun y hy2 N=>gB (zFD x1 _ hy2 h4) ?_;intro I0 le;have h:=h.mono le;have h2:=h2.mono le;have h1:=h1.mono le;have H:=H.trans le;exact yC [] [(7,vI (W (base + y)))]<|zM<|zEj<|kJ<|zX<|zM<|zQ<|yC [] [(8,vI (W (i + 1)))]<|yY<|vE [(0,vS p list c),(2,vS p2 point c2),(4,vP b 0),(7,vI (W (base + y))),(8,vI (W (i + 1)))]<|ih (W (base + y)) (W (i + 1)) _ N H h h2 h1 hg ho hx hr
   intro hc1 N;refine zW<|vH [(9,vI 0)]<|yI<|yF [(10,vI 0)]<|wO<|vE [(0,vS p list c),(2,vS p2 point c2),(4,vP b 0),(7,vI base),(8,vI i),(9,vI 0),(10,vI 0)] ?_;obtain ⟨o01,ho01,hMl⟩:=zB N;refine zCv list a0 point i 0 0 o01 ho01 iR h h2 h1 (fun _ _ _ h=>hg _ _ _ h) (fun _ _ h=>ho _ _ h) ?_ ?_
   · intro I03 n01 heq1 le3;subst o01;have H:=H.trans le3;exact zX<|vH [(6,vI (W (base + n01)))]<|xG<|zZ<|zH<|zH<|hr _ _ _ _ (zC hMl).symm H ⟨_,_,(.tmp rfl ResV.nil),zR,⟨_,rfl,rfl,rfl⟩⟩
   intro r0 I9 hs9 m9 heq9 le9 hrs9;subst heq9;exact zZ<|zH<|zZ<|zH<|zH<|hr _ _ _ _ (zC hMl).symm (H.trans le9) hrs9
 intro hc N;exact vW<|xU zR<|yT []<|hx _  (zC N).symm H
def oD (list:(List zE)) (a0:zJ) (point:(List Int)):Option (Int):=do
 match←uK list a0 point 0 0 with
 | .ret r0=>pure r0
 | .done _ =>
  pure (-1)
theorem zBK:∀ list a0 point r,oD list a0 point=some r→∀ {I:Imm}{p c p1 c1 p2 c2},(S4 I p list c)→(S4 I p1 a0.Subs c1)→(S4 I p2 point c2)→RT 98 [vS p list c,vA (cAccess a0 p1 c1),vS p2 point c2] I [] (xJ  r):=by
 intro list a0 point r N I p c p1 c1 p2 c2 h h1 h2;unfold oD at N;refine zY (fn:=Tryz.f98) (c:=(bodyOf Tryz.f98)) Tryz.func98 rfl rfl ?_;rintro B - -;refine yK<|uD (cAccess a0 p1 c1) ?_;intro b hb;refine yC [] []<|vH [(7,vI 0)]<|yI<|yF [(8,vI 0)]<|wO<|vE [(0,vS p list c),(2,vS p2 point c2),(4,vP b 0),(7,vI 0),(8,vI 0)] ?_;obtain ⟨o02,ho02,hMl1⟩:=zB N;refine zCw list a0 point 0 0 o02 ho02 iR h h2 h1 (fun _ _ _ h=>h) (fun _ _ h=>h) ?_ ?_
 · intro I04  heq2 le4;subst o02;refine zX<|vH [(6,vI (-1))]<|zM<|yX ?_;obtain rfl:=zC hMl1;exact wN
 intro r0 I9 hs9 m9 heq9 le9 hrs9;subst heq9;refine zZ<|zH ?_;obtain rfl:=zC hMl1;exact xC hrs9
def dE (r:(List zJ)):KT:=fun kk I' hs' v=>
  ∃ a0 c0 s0,hs'=[.osl (.slice a0 r.length c0) (Rp.sz zJ) s0]∧v=tupV [(.slice a0 r.length c0)]∧RepL (Rp.rep I') (Rp.sz zJ) s0 r
mutual
def tU (out:(List zJ)) (e0:zG):Option ((List zJ)):=do
 let out1←(do
   if (e0.Kind == 3) then
    let y←uE e0.Read
    let out2←app 40 out ([y]:List zJ)
    pure (id out2)
   else
    pure (id out)
     : Option (List zJ))
 let out4←wG (same e0) (same out1) (same 0)
 pure (id out4)
 partial_fixpoint
def wG (e0:zG) (out3:List zJ) (i:Int):Option (List zJ):=do
 if (decide (i < (e0.Kids.length:Int))) then
  let x←idx e0.Kids i
  let y1←tU (same out3) (same x)
  wG (same e0) (same y1) (W (i + 1))
 else
  pure (id out3)
 partial_fixpoint
end
theorem zDj:(∀ (out:(List zJ)) (e0:zG) r,tU out e0=some r→∀ {I:Imm}{p c cs p1 c1 p2 c2 p3 c3},(RL I cs out)→(S4 I p1 e0.Index.Coefs c1)→(S4 I p2 e0.Read.Subs c2)→(S4 I p3 e0.Kids c3)→RT 101 [vS p out c,vA (cExpr e0 p1 c1 p2 c2 p3 c3)] I [hO zJ (vS p out c) cs] (dE  r))∧(∀ (e0:zG) (out3:List zJ) (i:Int) o,wG e0 out3 i=some o→∀ {B}{I0 I:Imm}{Q p1 c1 p2 c2 p3 c3}{b:Nat}{p7 c7 cs4},I0.le I→(S4 I p1 e0.Index.Coefs c1)→(S4 I p2 e0.Read.Subs c2)→(S4 I p3 e0.Kids c3)→(RL I cs4 out3)→NG Q→NO Q→(∀ (I':Imm) (out4:List zJ) (p8:Option Addr) (c8:Nat) (cs5:List Value),o=out4→I0.le I'→(RL I' cs5 out4)→T 30 B Q (.exit 0) I' [hO zJ (vS p8 out4 c8) cs5] [(0,vS p8 out4 c8)])→J Tryz.prog 30 B (nav (bodyOf Tryz.f101) [1,1,0,1,0]) Q I [hB b (cExpr e0 p1 c1 p2 c2 p3 c3),hO zJ (vS p7 out3 c7) cs4] [(0,vS p7 out3 c7),(3,vP b 0),(5,vI i)]):=by
  refine tU.mutual_partial_correctness _ _ ?_ ?_
  · intro F_spec_l3Reads_l1 ih_spec_l3Reads_l1 out e0 r N I p c cs p1 c1 p2 c2 p3 c3 h h1 h2 h3;refine zY (fn:=Tryz.f101) (c:=(bodyOf Tryz.f101)) Tryz.func101 rfl rfl ?_;rintro B - -;have H:=iS I;refine yK<|uD (cExpr e0 p1 c1 p2 c2 p3 c3) ?_;intro b hb;refine yC [] []<|yI<|yK<|yC [0] [(8,.bool (e0.Kind == 3))]<|zM ?_;obtain ⟨o0,ho0,hMc⟩:=zB N;refine yU (fun I' hs' m'=>∃ (out1:List zJ) (p4:Option Addr) (c4:Nat) (cs1:List Value),o0=out1∧I.le I'∧(RL I' cs1 out1)∧hs'=[hB b (cExpr e0 p1 c1 p2 c2 p3 c3),hO zJ (vS p4 out1 c4) cs1]∧m'=[(0,vS p4 out1 c4),(3,vP b 0)]) ?_ ?_
    · have H:=iS I;refine yL ho0 ?_ ?_
      · intro hc N;refine zQ<|yD 3 [0] [(9,vS p out c),(11,vA (cAccess e0.Read p2 c2))]<|bE N fun y hy N=>xT (kM e0.Read _ hy h2) ?_;rintro I01 hs2 v2 k2 le - ⟨p5,c5,cs2,rfl,rfl,h5⟩ -;have h:=iM le h;have H:=H.trans le;refine yJ 0 rfl ?_;intro I02 le1 hl0;have h6:=SL.of_frozen hl0 le1 h5;have h:=iM le1 h;have H:=H.trans le1;refine xY (cAccess y p5 c5) zJ ?_;intro b1 hb1;have h7:RL I02 (cAccess y p5 c5) ([y]:List zJ):=⟨(cAccess y p5 c5),_,rfl,rfl,(oF ⟨_,rfl,h6⟩),rfl⟩;obtain ⟨out2,hy1,N⟩:=zB N;exact pG 42 2 2 rfl rfl rfl h (.inr ⟨0,rfl⟩) h7 hy1 fun p6 c6 cs3 h8=>sU (yB [1,2] (hs':=[hB b (cExpr e0 p1 c1 p2 c2 p3 c3),hO zJ (vS p6 out2 c6) cs3]))<|yC [] [(0,vS p6 out2 c6)]<|yT [(0,vS p6 out2 c6),(3,vP b 0)]<|zV ⟨_,_,_,_,(zC N).symm,H,h8,rfl,rfl⟩
      intro hc N;exact zW<|yT [(0,vS p out c),(3,vP b 0)]<|zV ⟨_,_,_,_,(zC N).symm,H,h,rfl,rfl⟩
    rintro I0 hs2 m2 ⟨out1,p4,c4,cs1,heq,le2,h4,rfl,rfl⟩;subst o0;have h1:=h1.mono le2;have h2:=h2.mono le2;have h3:=h3.mono le2;refine yI<|yF [(5,vI 0)]<|wO<|vE [(0,vS p4 out1 c4),(3,vP b 0),(5,vI 0)] ?_;obtain ⟨o01,ho01,hMl⟩:=zB hMc;refine ih_spec_l3Reads_l1 e0 out1 0 o01 ho01 iR h1 h2 h3 h4 (fun _ _ _ h=>h) (fun _ _ h=>h) ?_;intro I04 out4 p8 c8 cs5 heq1 le4 h10;subst o01;refine zX<|vH [(4,vS p8 out4 c8)]<|zM<|yX ?_;obtain rfl:=zC hMl;exact xC ⟨_,_,(.tmp rfl ResV.nil),(yA [0] rfl (by decide)),⟨_,_,_,rfl,rfl,h10⟩⟩
  intro F_spec_l3Reads F_spec_l3Reads_l1 ih_spec_l3Reads ih_spec_l3Reads_l1 e0 out3 i o N B I0 I Q p1 c1 p2 c2 p3 c3 b p7 c7 cs4 H h1 h2 h3 h9 hg ho hx;refine yZ hg ho<|yG<|yK<|yC [0] [(19,.bool (decide (i < (e0.Kids.length:Int))))]<|zM<|yL N ?_ ?_
  · intro hc1 N;refine zW<|yI<|yP<|zQ<|yD 4 [0] [(22,vS p7 out3 c7),(24,vS p3 e0.Kids c3),(25,vI i)]<|bE N fun x hy2 N=>xS rfl rfl h3 hy2 ?_;intro ad ccs hat hrep;obtain ⟨p9,c9,p10,c10,p11,c11,rfl,h11,h12,h13⟩:=xV hrep;refine xM 0 hat (cExpr x p9 c9 p10 c10 p11 c11) (vA (cExpr x p9 c9 p10 c10 p11 c11)) rfl<|sU (yB [1,0] (hs':=[hO zJ (vS p7 out3 c7) cs4,hB b (cExpr e0 p1 c1 p2 c2 p3 c3)]))<|bE N fun y1 hy3 N=>tM [hO zJ (vS p7 out3 c7) cs4] [hB b (cExpr e0 p1 c1 p2 c2 p3 c3)] (ih_spec_l3Reads out3 x _ hy3 h9 h11 h12 h13) ?_;rintro I03 hs2 v2 k2 le3 - ⟨p12,c12,cs6,rfl,rfl,h14⟩ -;have h1:=h1.mono le3;have h2:=h2.mono le3;have h3:=h3.mono le3;have H:=H.trans le3;exact yC [] [(0,vS p12 y1 c12)]<|zT<|zM<|zQ<|yC [] [(5,vI (W (i + 1)))]<|yY<|pK (yA [1,0] rfl (by decide))<|vE [(0,vS p12 y1 c12),(3,vP b 0),(5,vI (W (i + 1)))]<|ih_spec_l3Reads_l1 e0 y1 (W (i + 1)) _ N H h1 h2 h3 h14 hg ho hx
  intro hc1 N;exact vW<|xU (yA [1] rfl (by decide))<|yT [(0,vS p7 out3 c7)]<|hx _ _ _ _ _ (zC N).symm H h9
theorem zES:∀ out e0 r,tU out e0=some r→∀ {I:Imm}{p c cs p1 c1 p2 c2 p3 c3},(RL I cs out)→(S4 I p1 e0.Index.Coefs c1)→(S4 I p2 e0.Read.Subs c2)→(S4 I p3 e0.Kids c3)→RT 101 [vS p out c,vA (cExpr e0 p1 c1 p2 c2 p3 c3)] I [hO zJ (vS p out c) cs] (dE  r):=zDj.1
def dG (r:(List Int)×Int×Bool):KT:=fun kk I' hs' v=>
  ∃ v0 v1 v2,hs'=[]∧v=tupV [v0,v1,v2]∧SL I' v0 r.1∧v1=.int .i64 r.2.1∧v2=.bool r.2.2
def uU (list:(List zE)) (point:(List Int)) (y:(List zJ)) (out:List Int) (i:Int):Option (Out (List Int) ((List Int)×Int×Bool)):=do
 if (decide (i < (y.length:Int))) then
  let x←idx y i
  let y1←oD list x point
  if (decide (y1 < 0)) then
   pure (.ret (([]:List Int),0,false))
  else
   let out2←app 8 out ([y1]:List Int)
   uU list point y out2 (W (i + 1))
 else
  pure (.done out)
 partial_fixpoint
theorem zCL (list:(List zE)) (point:(List Int)) (y:(List zJ)):∀ (out:List Int) (i:Int) (o:Out (List Int) ((List Int)×Int×Bool)),uU list point y out i=some o→∀ {B}{I0 I:Imm}{Q}{s:zI}{p c p1 c1 p2 c2 p3 c3 p4 c4 p5 c5}{b:Nat}{p6 c6 cs p7 c7 cs1},I0.le I→(S4 I p list c)→(S4 I p5 point c5)→(RL I cs y)→(S4 I p1 s.Write.Subs c1)→(S4 I p2 s.Value.Index.Coefs c2)→(S4 I p3 s.Value.Read.Subs c3)→(S4 I p4 s.Value.Kids c4)→(RL I cs1 out)→NG Q→NO Q→(∀ (I':Imm) (out1:List Int) (p8:Option Addr) (c8:Nat) (cs2:List Value),o=(.done out1)→I0.le I'→(RL I' cs2 out1)→T 49 B Q (.exit 0) I' [hO Int (vS p8 out1 c8) cs2,hB b (cStmt s p1 c1 p2 c2 p3 c3 p4 c4)] [(0,vS p list c),(2,vS p5 point c5),(4,vP b 0),(9,vS p8 out1 c8)])→(∀ r I' hs' m',o=(.ret r)→I0.le I'→RS Tryz.prog Tryz.f50 B (dG  r) I' hs' m'→T 49 B Q .ret I' hs' m')→J Tryz.prog 49 B (nav (bodyOf Tryz.f50) [1,1,1,0,1,0]) Q I [hO zJ (vS p6 y c6) cs,hO Int (vS p7 out c7) cs1,hB b (cStmt s p1 c1 p2 c2 p3 c3 p4 c4)] [(0,vS p list c),(2,vS p5 point c5),(4,vP b 0),(9,vS p7 out c7),(10,vS p6 y c6),(11,vI i)]:=by
 refine uU.partial_correctness list point y _ fun self ih out i o N B I0 I Q s p c p1 c1 p2 c2 p3 c3 p4 c4 p5 c5 b p6 c6 cs p7 c7 cs1 H h h5 h8 h1 h2 h3 h4 h9 hg ho hx hr=>yZ hg ho<|yG<|yF [(22,.bool (decide (i < (y.length:Int))))]<|zM<|yL N ?_ ?_
 · intro hc N;refine zW<|yI<|yP<|yK<|yD 3 [] [(25,vS p list c),(26,vS p6 y c6),(27,vI i)]<|bE N fun x hy1 N=>nT 0 rfl rfl rfl h8 hy1 ?_;intro ad ccs hat hcc hrep;obtain ⟨p9,c9,rfl,h11⟩:=pM hrep;refine zCe 0 0 hat hcc (cAccess x p9 c9) (vA (cAccess x p9 c9)) rfl rfl<|yD 6 [] [(30,vS p5 point c5)]<|bE N fun y1 hy2 N=>gB (zBK list x point _ hy2 h h11 h5) ?_;intro I01 le1;have h:=h.mono le1;have h5:=h5.mono le1;have h9:=iM le1 h9;have h8:=iM le1 h8;have h1:=h1.mono le1;have h2:=h2.mono le1;have h3:=h3.mono le1;have h4:=h4.mono le1;have H:=H.trans le1;refine yC [] [(12,vI y1)]<|yI<|yF [(33,.bool (decide (y1 < 0)))]<|zM<|yL N ?_ ?_
   · intro hc1 N;refine yK<|xY [] Int ?_;intro b3 hb3;have h13:RL I01 [] ([]:List Int):=rfl;refine yC [] [(6,vS (some ⟨b3,0,none⟩) ([]:List Int) 0),(7,vI 0),(8,vF)]<|xG<|zH<|zZ<|zH<|zH<|xP 0 rfl ?_;intro I02 le2 hl0;have h14:=SL.of_frozen hl0 le2 h13;have H:=H.trans le2;exact hr _ _ _ _ (zC N).symm H ⟨_,_,(.tmp rfl (.tmp rfl (.tmp rfl ResV.nil))),zR,⟨_,_,_,rfl,rfl,h14,rfl,rfl⟩⟩
   intro hc1 N;refine zW<|zM<|zQ<|yD 2 [] [(35,vS p7 out c7),(36,vI y1)]<|xY [vI y1] Int ?_;intro b4 hb4;have h15:RL I01 [vI y1] ([y1]:List Int):=⟨[vI y1],_,rfl,rfl,rfl,rfl⟩;obtain ⟨out2,hy3,N⟩:=zB N;exact pG 3 1 2 rfl rfl rfl h9 (.inr ⟨0,rfl⟩) h15 hy3 fun p10 c10 cs3 h16=>sU (yB [1,2,3] (hs':=[hO zJ (vS p6 y c6) cs,hO Int (vS p10 out2 c10) cs3,hB b (cStmt s p1 c1 p2 c2 p3 c3 p4 c4)]))<|yC [] [(9,vS p10 out2 c10)]<|zT<|zM<|zQ<|yC [] [(11,vI (W (i + 1)))]<|yY<|vE [(0,vS p list c),(2,vS p5 point c5),(4,vP b 0),(9,vS p10 out2 c10),(10,vS p6 y c6),(11,vI (W (i + 1)))]<|ih out2 (W (i + 1)) _ N H h h5 h8 h1 h2 h3 h4 h16 hg ho hx hr
 intro hc N;exact vW<|xU (yA [1,2] rfl (by decide))<|yT [(0,vS p list c),(2,vS p5 point c5),(4,vP b 0),(9,vS p7 out c7)]<|hx _ _ _ _ _ (zC N).symm H h9
def oL (list:(List zE)) (s:zI) (point:(List Int)):Option ((List Int)×Int×Bool):=do
 let y←tU ([]:List zJ) s.Value
 match←uU list point y ([]:List Int) 0 with
 | .ret r0=>pure r0
 | .done out1 =>
  let y2←oD list s.Write point
  if (decide (y2 < 0)) then
   pure (([]:List Int),0,false)
  else
   pure (out1,y2,true)
theorem zET:∀ list s point r,oL list s point=some r→∀ {I:Imm}{p c p1 c1 p2 c2 p3 c3 p4 c4 p5 c5},(S4 I p list c)→(S4 I p1 s.Write.Subs c1)→(S4 I p2 s.Value.Index.Coefs c2)→(S4 I p3 s.Value.Read.Subs c3)→(S4 I p4 s.Value.Kids c4)→(S4 I p5 point c5)→RT 50 [vS p list c,vA (cStmt s p1 c1 p2 c2 p3 c3 p4 c4),vS p5 point c5] I [] (dG  r):=by
 intro list s point r N I p c p1 c1 p2 c2 p3 c3 p4 c4 p5 c5 h h1 h2 h3 h4 h5;unfold oL at N;refine zY (fn:=Tryz.f50) (c:=(bodyOf Tryz.f50)) Tryz.func50 rfl rfl ?_;rintro B - -;refine yK<|uD (cStmt s p1 c1 p2 c2 p3 c3 p4 c4) ?_;intro b hb;refine yC [] []<|xD<|xY [] Int ?_;intro b1 hb1;have h6:RL I [] ([]:List Int):=rfl;refine yC [] [(9,vS (some ⟨b1,0,none⟩) ([]:List Int) 0)]<|xD<|xY [] zJ ?_;intro b2 hb2;have h7:RL I [] ([]:List zJ):=rfl;refine yD 3 [2] [(17,vA (cExpr s.Value p2 c2 p3 c3 p4 c4))]<|bE N fun y hy N=>tM [hO zJ (vS (some ⟨b2,0,none⟩) ([]:List zJ) 0) []] [hO Int (vS (some ⟨b1,0,none⟩) ([]:List Int) 0) [],hB b (cStmt s p1 c1 p2 c2 p3 c3 p4 c4)] (zES ([]:List zJ) s.Value _ hy h7 h2 h3 h4) ?_;rintro I0 hs2 v2 k2 le - ⟨p6,c6,cs,rfl,rfl,h8⟩ -;have h:=h.mono le;have h5:=h5.mono le;have h6:=iM le h6;have h1:=h1.mono le;have h2:=h2.mono le;have h3:=h3.mono le;have h4:=h4.mono le;refine yC [] [(10,vS p6 y c6)]<|yI<|yF [(11,vI 0)]<|wO<|vE [(0,vS p list c),(2,vS p5 point c5),(4,vP b 0),(9,vS (some ⟨b1,0,none⟩) ([]:List Int) 0),(10,vS p6 y c6),(11,vI 0)] ?_;obtain ⟨o0,ho0,hMl⟩:=zB N;refine zCL list point y ([]:List Int) 0 o0 ho0 iR h h5 h8 h1 h2 h3 h4 h6 (fun _ _ _ h=>h) (fun _ _ h=>h) ?_ ?_
 · intro I03 out1 p8 c8 cs2 heq le3 h10;subst o0;have h:=h.mono le3;have h5:=h5.mono le3;have h1:=h1.mono le3;refine zX<|xD<|yD 4 [1] [(39,vS p list c),(41,vA (cAccess s.Write p1 c1)),(42,vS p5 point c5)] ?_;obtain ⟨y2,hy4,N⟩:=zB hMl;refine gB (zBK list s.Write point _ hy4 h h1 h5) ?_;intro I04 le4;have h10:=iM le4 h10;refine yC [] [(13,vI y2)]<|yI<|yF [(45,.bool (decide (y2 < 0)))]<|zM<|yL N ?_ ?_
   · intro hc2 N;refine yK<|xY [] Int ?_;intro b5 hb5;have h18:RL I04 [] ([]:List Int):=rfl;refine yC [] [(6,vS (some ⟨b5,0,none⟩) ([]:List Int) 0),(7,vI 0),(8,vF)]<|xG<|zH<|xP 0 rfl ?_;intro I05 le5 hl01;have h19:=SL.of_frozen hl01 le5 h18;obtain rfl:=zC N;exact xC ⟨_,_,(.tmp rfl (.tmp rfl (.tmp rfl ResV.nil))),zR,⟨_,_,_,rfl,rfl,h19,rfl,rfl⟩⟩
   intro hc2 N;refine zW<|vH [(6,vS p8 out1 c8),(7,vI y2),(8,vY)]<|xG<|xP 0 rfl ?_;intro I06 le6 hl02;have h20:=SL.of_frozen hl02 le6 h10;obtain rfl:=zC N;exact xC ⟨_,_,(.tmp rfl (.tmp rfl (.tmp rfl ResV.nil))),zR,⟨_,_,_,rfl,rfl,h20,rfl,rfl⟩⟩
 intro r0 I9 hs9 m9 heq9 le9 hrs9;subst heq9;refine zZ<|zH ?_;obtain rfl:=zC hMl;exact xC hrs9
def uV (p:(List Int)) (i:Int):Option (Out Unit (Bool)):=do
 if (decide (i < (p.length:Int))) then
  let x←idx p i
  let y←vK x 9999
  if (!y) then
   pure (.ret false)
  else
   uV p (W (i + 1))
 else
  pure (.done ())
 partial_fixpoint
theorem zCM (p:(List Int)):∀ (i:Int) (o:Out Unit (Bool)),uV p i=some o→∀ {B}{I0 I:Imm}{Q p1 c},I0.le I→(S4 I p1 p c)→NG Q→NO Q→(∀ (I':Imm) ,o=(.done ())→I0.le I'→T 19 B Q (.exit 0) I' [] [(0,vS p1 p c)])→(∀ r I' hs' m',o=(.ret r)→I0.le I'→RS Tryz.prog Tryz.f145 B (zU  r) I' hs' m'→T 19 B Q .ret I' hs' m')→J Tryz.prog 19 B (nav (bodyOf Tryz.f145) [1,0,1,0]) Q I [] [(0,vS p1 p c),(3,vI i)]:=by
 refine uV.partial_correctness p _ fun self ih i o N B I0 I Q p1 c H h hg ho hx hr=>yZ hg ho<|yG<|yF [(7,.bool (decide (i < (p.length:Int))))]<|zM<|yL N ?_ ?_
 · intro hc N;refine zW<|yI<|yP<|yK<|yD 2 [] [(10,vS p1 p c),(11,vI i)]<|bE N fun x hy N=>xS rfl rfl h hy ?_;intro ad ccs hat hrep;obtain rfl:=hrep;refine xM 0 hat [vI x] (vI x) rfl<|bE N fun y hy1 N=>vJ (gU x 9999 _ hy1 ) ?_;intro I0 le;have h:=h.mono le;have H:=H.trans le;refine yC [] [(15,.bool (!y))]<|zM<|yL N ?_ ?_
   · intro hc1 N;exact yF [(2,vF)]<|xG<|zZ<|zH<|zH<|hr _ _ _ _ (zC N).symm H ⟨_,_,(.tmp rfl ResV.nil),zR,⟨_,rfl,rfl,rfl⟩⟩
   intro hc1 N;exact zW<|zT<|zM<|zQ<|yC [] [(3,vI (W (i + 1)))]<|yY<|vE [(0,vS p1 p c),(3,vI (W (i + 1)))]<|ih (W (i + 1)) _ N H h hg ho hx hr
 intro hc N;exact vW<|yT [(0,vS p1 p c)]<|hx _  (zC N).symm H
def oM (p:(List Int)):Option (Bool):=do
 match←uV p 0 with
 | .ret r0=>pure r0
 | .done _ =>
  pure (decide ((p.length:Int) ≤ 4))
theorem zEU:∀ p r,oM p=some r→∀ {I:Imm}{p1 c},(S4 I p1 p c)→RT 145 [vS p1 p c] I [] (zU  r):=by
 intro p r N I p1 c h;unfold oM at N;refine zY (fn:=Tryz.f145) (c:=(bodyOf Tryz.f145)) Tryz.func145 rfl rfl ?_;rintro B - -;refine yF []<|yI<|yF [(3,vI 0)]<|wO<|vE [(0,vS p1 p c),(3,vI 0)] ?_;obtain ⟨o0,ho0,hMl⟩:=zB N;refine zCM p 0 o0 ho0 iR h (fun _ _ _ h=>h) (fun _ _ h=>h) ?_ ?_
 · intro I01  heq le1;subst o0;refine zX<|vH [(2,.bool (decide ((p.length:Int) ≤ 4)))]<|zM<|yX ?_;obtain rfl:=zC hMl;exact wN
 intro r0 I9 hs9 m9 heq9 le9 hrs9;subst heq9;refine zZ<|zH ?_;obtain rfl:=zC hMl;exact xC hrs9
def tI (list:(List zA)) (depth:Int) (i:Int):Option (Out Unit (Bool)):=do
 if (decide (i < (list.length:Int))) then
  let t26←(do
    let x←idx list i
    let y←vX x
    if (!y) then
     pure true
    else
     let x1←idx list i
     let y1←rW x1
     pure (decide (y1 > depth))
      : Option Bool)
  if t26 then
   pure (.ret false)
  else
   tI list depth (W (i + 1))
 else
  pure (.done ())
 partial_fixpoint
theorem zCx (list:(List zA)) (depth:Int):∀ (i:Int) (o:Out Unit (Bool)),tI list depth i=some o→∀ {B}{I0 I:Imm}{Q p c},I0.le I→(S4 I p list c)→NG Q→NO Q→(∀ (I':Imm) ,o=(.done ())→I0.le I'→T 35 B Q (.exit 0) I' [] [(0,vS p list c)])→(∀ r I' hs' m',o=(.ret r)→I0.le I'→RS Tryz.prog Tryz.f178 B (zU  r) I' hs' m'→T 35 B Q .ret I' hs' m')→J Tryz.prog 35 B (nav (bodyOf Tryz.f178) [1,0,1,0]) Q I [] [(0,vS p list c),(1,vI depth),(5,vI i)]:=by
 refine tI.partial_correctness list depth _ fun self ih i o N B I0 I Q p c H h hg ho hx hr=>yZ hg ho<|yG<|yF [(9,.bool (decide (i < (list.length:Int))))]<|zM<|yL N ?_ ?_
 · intro hc N;refine zW<|yI<|yP<|yG ?_;obtain ⟨o0,ho0,hMc⟩:=zB N;refine yU (fun I' hs' m'=>∃ (t26:Bool),o0=t26∧I.le I'∧hs'=[]∧m'=[(0,vS p list c),(1,vI depth),(5,vI i),(26,.bool t26)]) ?_ ?_
   · have H:=iS I;refine zQ<|yD 2 [] [(12,vS p list c),(13,vI i)] ?_;obtain ⟨x,hy,N⟩:=zB ho0;refine xS rfl rfl h hy ?_;intro ad ccs hat hrep;obtain ⟨p1,c1,rfl,h1⟩:=yN hrep;refine xM 0 hat (cAff x p1 c1) (vA (cAff x p1 c1)) rfl<|bE N fun y hy1 N=>vJ (nR x _ hy1 h1) ?_;intro I01 le;have h:=h.mono le;have H:=H.trans le;refine yD 7 [] [(18,.bool (!y))] ?_;cases hc1:(!y) with
     | true =>
      have hM0:=zP hc1 N
      try rw [hc1]
      exact yC [] [(26,vY)]<|yT [(0,vS p list c),(1,vI depth),(5,vI i),(26,vY)]<|zV (ct hM0 H)
     | false =>
      have hM01:=zL hc1 N
      try rw [hc1]
      refine yD 9 [] [(19,vS p list c),(20,vI i)] ?_;obtain ⟨x1,hy2,N⟩:=zB hM01;refine xS rfl rfl h hy2 ?_;intro ad1 ccs1 hat1 hrep1;obtain ⟨p2,c2,rfl,h3⟩:=yN hrep1;refine xM 0 hat1 (cAff x1 p2 c2) (vA (cAff x1 p2 c2)) rfl<|bE N fun y1 hy3 N=>gB (fI x1 _ hy3 h3) ?_;intro I02 le1;have H:=H.trans le1;exact yC [] [(26,.bool (decide (y1 > depth)))]<|yT [(0,vS p list c),(1,vI depth),(5,vI i),(26,.bool (decide (y1 > depth)))]<|zV (ct N H)
   rintro I0 hs2 m2 ⟨t26,heq,le2,rfl,rfl⟩;subst o0;have h:=h.mono le2;have H:=H.trans le2;refine zM<|yL hMc ?_ ?_
   · intro hc2 N;exact yF [(4,vF)]<|xG<|zZ<|zH<|zH<|hr _ _ _ _ (zC N).symm H ⟨_,_,(.tmp rfl ResV.nil),zR,⟨_,rfl,rfl,rfl⟩⟩
   intro hc2 N;exact zW<|zT<|zM<|zQ<|yC [] [(5,vI (W (i + 1)))]<|yY<|vE [(0,vS p list c),(1,vI depth),(5,vI (W (i + 1)))]<|ih (W (i + 1)) _ N H h hg ho hx hr
 intro hc N;exact vW<|yT [(0,vS p list c)]<|hx _  (zC N).symm H
def oE (list:(List zA)) (depth:Int):Option (Bool):=do
 match←tI list depth 0 with
 | .ret r0=>pure r0
 | .done _ =>
  let t4←(do
    if (decide ((list.length:Int) ≥ 1)) then
     pure (decide ((list.length:Int) ≤ 2))
    else
     pure false
      : Option Bool)
  pure (id t4)
theorem zBL:∀ list depth r,oE list depth=some r→∀ {I:Imm}{p c},(S4 I p list c)→RT 178 [vS p list c,vI depth] I [] (zU  r):=by
 intro list depth r N I p c h;unfold oE at N;refine zY (fn:=Tryz.f178) (c:=(bodyOf Tryz.f178)) Tryz.func178 rfl rfl ?_;rintro B - -;have H:=iS I;refine yF []<|yI<|yF [(5,vI 0)]<|wO<|vE [(0,vS p list c),(1,vI depth),(5,vI 0)] ?_;obtain ⟨o01,ho01,hMl⟩:=zB N;refine zCx list depth 0 o01 ho01 iR h (fun _ _ _ h=>h) (fun _ _ h=>h) ?_ ?_
 · intro I03  heq1 le3;subst o01;have H:=H.trans le3;refine zX<|zM<|yG ?_;obtain ⟨o02,ho02,hMc1⟩:=zB hMl;refine yU (fun I' hs' m'=>∃ (t4:Bool),o02=t4∧I03.le I'∧hs'=[]∧m'=[(4,.bool t4)]) ?_ ?_
   · have H:=iS I03;refine zQ<|yD 4 [] [(30,.bool (decide ((list.length:Int) ≥ 1)))] ?_;cases hc3:(decide ((list.length:Int) ≥ 1)) with
     | true =>
      have hM02:=zP hc3 ho02
      try rw [hc3]
      exact yC [] [(4,.bool (decide ((list.length:Int) ≤ 2)))]<|yT [(4,.bool (decide ((list.length:Int) ≤ 2)))]<|zV (ct hM02 H)
     | false =>
      have hM03:=zL hc3 ho02
      try rw [hc3]
      exact yC [] [(4,vF)]<|yT [(4,vF)]<|zV (ct hM03 H)
   rintro I04 hs2 m2 ⟨t4,heq2,le4,rfl,rfl⟩;subst o02;refine zM<|yX ?_;obtain rfl:=zC hMc1;exact wN
 intro r0 I9 hs9 m9 heq9 le9 hrs9;subst heq9;refine zZ<|zH ?_;obtain rfl:=zC hMl;exact xC hrs9
def wQ (nest:(List zD)) (i:Int):Option (Out Unit (Bool)):=do
 let t12←(do
   if (decide (i < (nest.length:Int))) then
    pure (decide ((nest.length:Int) ≤ 4))
   else
    pure false
     : Option Bool)
 if t12 then
  let t32←(do
    let x←idx nest i
    let y←oE x.Lo i
    if (!y) then
     pure true
    else
     let x1←idx nest i
     let y1←oE x1.Hi i
     pure (!y1)
      : Option Bool)
  if t32 then
   pure (.ret false)
  else
   wQ nest (W (i + 1))
 else
  pure (.done ())
 partial_fixpoint
theorem zBM (nest:(List zD)):∀ (i:Int) (o:Out Unit (Bool)),wQ nest i=some o→∀ {B}{I0 I:Imm}{Q p c},I0.le I→(S4 I p nest c)→NG Q→NO Q→(∀ (I':Imm) ,o=(.done ())→I0.le I'→T 36 B Q (.exit 0) I' [] [(0,vS p nest c)])→(∀ r I' hs' m',o=(.ret r)→I0.le I'→RS Tryz.prog Tryz.f144 B (zU  r) I' hs' m'→T 36 B Q .ret I' hs' m')→J Tryz.prog 36 B (nav (bodyOf Tryz.f144) [1,0,1,0]) Q I [] [(0,vS p nest c),(3,vI i)]:=by
 refine wQ.partial_correctness nest _ fun self ih i o N B I0 I Q p c H h hg ho hx hr=>yZ hg ho<|yG<|yG ?_;obtain ⟨o0,ho0,hMc⟩:=zB N;refine yU (fun I' hs' m'=>∃ (t12:Bool),o0=t12∧I.le I'∧hs'=[]∧m'=[(0,vS p nest c),(3,vI i),(12,.bool t12)]) ?_ ?_
 · have H:=iS I;refine zQ<|yD 5 [] [(8,.bool (decide (i < (nest.length:Int))))] ?_;cases hc:(decide (i < (nest.length:Int))) with
   | true =>
    have hM0:=zP hc ho0
    try rw [hc]
    exact yC [] [(12,.bool (decide ((nest.length:Int) ≤ 4)))]<|yT [(0,vS p nest c),(3,vI i),(12,.bool (decide ((nest.length:Int) ≤ 4)))]<|zV (ct hM0 H)
   | false =>
    have hM01:=zL hc ho0
    try rw [hc]
    exact yC [] [(12,vF)]<|yT [(0,vS p nest c),(3,vI i),(12,vF)]<|zV (ct hM01 H)
 rintro I0 hs2 m2 ⟨t12,heq,le,rfl,rfl⟩;subst o0;have h:=h.mono le;have H:=H.trans le;refine zM<|yL hMc ?_ ?_
 · intro hc1 N;refine zW<|yI<|yP<|yG ?_;obtain ⟨o01,ho01,hMc1⟩:=zB N;refine yU (fun I' hs' m'=>∃ (t32:Bool),o01=t32∧I0.le I'∧hs'=[]∧m'=[(0,vS p nest c),(3,vI i),(32,.bool t32)]) ?_ ?_
   · have H:=iS I0;refine zQ<|yD 2 [] [(15,vS p nest c),(16,vI i)] ?_;obtain ⟨x,hy,N⟩:=zB ho01;refine xS rfl rfl h hy ?_;intro ad ccs hat hrep;obtain ⟨p1,c1,p2,c2,rfl,h1,h2⟩:=tP hrep;refine yD 4 [] [(18,.pointer (some ad))]<|xM 0 hat [vS p1 x.Lo c1] (vS p1 x.Lo c1) rfl<|yD 6 [] [(20,vI i)]<|bE N fun y hy1 N=>vJ (zBL x.Lo i _ hy1 h1) ?_;intro I02 le1;have h:=h.mono le1;have H:=H.trans le1;refine yD 9 [] [(23,.bool (!y))] ?_;cases hc2:(!y) with
     | true =>
      have hM02:=zP hc2 N
      try rw [hc2]
      exact yC [] [(32,vY)]<|yT [(0,vS p nest c),(3,vI i),(32,vY)]<|zV (ct hM02 H)
     | false =>
      have hM03:=zL hc2 N
      try rw [hc2]
      refine yD 11 [] [(24,vS p nest c),(25,vI i)] ?_;obtain ⟨x1,hy2,N⟩:=zB hM03;refine xS rfl rfl h hy2 ?_;intro ad1 ccs1 hat1 hrep1;obtain ⟨p3,c3,p4,c4,rfl,h4,h5⟩:=tP hrep1;refine yD 13 [] [(27,.pointer (some (ad1.add 1)))]<|xM 1 hat1 [vS p4 x1.Hi c4] (vS p4 x1.Hi c4) rfl<|yD 15 [] [(29,vI i)]<|bE N fun y1 hy3 N=>vJ (zBL x1.Hi i _ hy3 h5) ?_;intro I03 le2;have H:=H.trans le2;exact yC [] [(32,.bool (!y1))]<|yT [(0,vS p nest c),(3,vI i),(32,.bool (!y1))]<|zV (ct N H)
   rintro I01 hs2 m2 ⟨t32,heq1,le3,rfl,rfl⟩;subst o01;have h:=h.mono le3;have H:=H.trans le3;refine zM<|yL hMc1 ?_ ?_
   · intro hc3 N;exact yF [(2,vF)]<|xG<|zZ<|zH<|zH<|hr _ _ _ _ (zC N).symm H ⟨_,_,(.tmp rfl ResV.nil),zR,⟨_,rfl,rfl,rfl⟩⟩
   intro hc3 N;exact zW<|zT<|zM<|zQ<|yC [] [(3,vI (W (i + 1)))]<|yY<|vE [(0,vS p nest c),(3,vI (W (i + 1)))]<|ih (W (i + 1)) _ N H h hg ho hx hr
 intro hc1 N;exact vW<|yT [(0,vS p nest c)]<|hx _  (zC N).symm H
def qU (nest:(List zD)):Option (Bool):=do
 match←wQ nest 0 with
 | .ret r0=>pure r0
 | .done _ =>
  pure (decide ((nest.length:Int) ≤ 4))
theorem zCy:∀ nest r,qU nest=some r→∀ {I:Imm}{p c},(S4 I p nest c)→RT 144 [vS p nest c] I [] (zU  r):=by
 intro nest r N I p c h;unfold qU at N;refine zY (fn:=Tryz.f144) (c:=(bodyOf Tryz.f144)) Tryz.func144 rfl rfl ?_;rintro B - -;refine yF []<|yI<|yF [(3,vI 0)]<|wO<|vE [(0,vS p nest c),(3,vI 0)] ?_;obtain ⟨o02,ho02,hMl⟩:=zB N;refine zBM nest 0 o02 ho02 iR h (fun _ _ _ h=>h) (fun _ _ h=>h) ?_ ?_
 · intro I04  heq2 le4;subst o02;refine zX<|vH [(2,.bool (decide ((nest.length:Int) ≤ 4)))]<|zM<|yX ?_;obtain rfl:=zC hMl;exact wN
 intro r0 I9 hs9 m9 heq9 le9 hrs9;subst heq9;refine zZ<|zH ?_;obtain rfl:=zC hMl;exact xC hrs9
def uW (loop:zD) (p2:(List Int)) (lo:Int) (i:Int):Option (Int):=do
 if (decide (i < (loop.Lo.length:Int))) then
  let x2←idx loop.Lo i
  let y2←sY x2 p2
  let lo2←(do
    if (decide (y2 > lo)) then
     pure (id y2)
    else
     pure (id lo)
      : Option Int)
  uW loop p2 lo2 (W (i + 1))
 else
  pure (id lo)
 partial_fixpoint
theorem zCN (loop:zD) (p2:(List Int)):∀ (lo:Int) (i:Int) (o:Int),uW loop p2 lo i=some o→∀ {B}{I0 I:Imm}{Q}{y1:Int}{p c p1 c1 p3 c2}{b:Nat},I0.le I→(S4 I p3 p2 c2)→(S4 I p loop.Lo c)→(S4 I p1 loop.Hi c1)→NG Q→NO Q→(∀ (I':Imm) (lo1:Int),o=lo1→I0.le I'→T 62 B Q (.exit 0) I' [hB b (cLoop loop p c p1 c1)] [(1,vS p3 p2 c2),(2,vP b 0),(6,vI lo1),(7,vI y1)])→J Tryz.prog 62 B (nav (bodyOf Tryz.f146) [1,1,1,0,1,0]) Q I [hB b (cLoop loop p c p1 c1)] [(1,vS p3 p2 c2),(2,vP b 0),(6,vI lo),(7,vI y1),(8,vI i)]:=by
 refine uW.partial_correctness loop p2 _ fun self ih lo i o N B I0 I Q y1 p c p1 c1 p3 c2 b H h2 h h1 hg ho hx=>yZ hg ho<|yG<|yK<|yC [0] [(28,.bool (decide (i < (loop.Lo.length:Int))))]<|zM<|yL N ?_ ?_
 · intro hc N;refine zW<|yI<|yP<|yK<|yD 3 [0] [(32,vS p loop.Lo c),(33,vI i)]<|bE N fun x2 hy4 N=>xS rfl rfl h hy4 ?_;intro ad2 ccs2 hat2 hrep2;obtain ⟨p6,c5,rfl,h7⟩:=yN hrep2;refine xM 0 hat2 (cAff x2 p6 c5) (vA (cAff x2 p6 c5)) rfl<|yD 6 [] [(36,vS p3 p2 c2)]<|bE N fun y2 hy5 N=>gB (kT x2 p2 _ hy5 h7 h2) ?_;intro I02 le2;have h2:=h2.mono le2;have h:=h.mono le2;have h1:=h1.mono le2;have H:=H.trans le2;refine yC [] [(9,vI y2)]<|vH [(40,.bool (decide (y2 > lo)))]<|zM ?_;obtain ⟨o0,ho0,hMc⟩:=zB N;refine yU (fun I' hs' m'=>∃ (lo2:Int),o0=lo2∧I02.le I'∧hs'=[hB b (cLoop loop p c p1 c1)]∧m'=[(1,vS p3 p2 c2),(2,vP b 0),(6,vI lo2),(7,vI y1),(8,vI i)]) ?_ ?_
   · have H:=iS I02;refine yL ho0 ?_ ?_
     · intro hc1 N;exact zQ<|yC [] [(6,vI y2)]<|yT [(1,vS p3 p2 c2),(2,vP b 0),(6,vI y2),(7,vI y1),(8,vI i)]<|zV (ct N H)
     intro hc1 N;exact zW<|yT [(1,vS p3 p2 c2),(2,vP b 0),(6,vI lo),(7,vI y1),(8,vI i)]<|zV (ct N H)
   rintro I03 hs2 m2 ⟨lo2,heq,le3,rfl,rfl⟩;subst o0;have h2:=h2.mono le3;have h:=h.mono le3;have h1:=h1.mono le3;have H:=H.trans le3;exact zT<|zM<|zQ<|yC [] [(8,vI (W (i + 1)))]<|yY<|vE [(1,vS p3 p2 c2),(2,vP b 0),(6,vI lo2),(7,vI y1),(8,vI (W (i + 1)))]<|ih lo2 (W (i + 1)) _ hMc H h2 h h1 hg ho hx
 intro hc N;exact vW<|yT [(1,vS p3 p2 c2),(2,vP b 0),(6,vI lo),(7,vI y1)]<|hx _ _ (zC N).symm H
def uX (loop:zD) (p2:(List Int)) (hi:Int) (i1:Int):Option (Int):=do
 if (decide (i1 < (loop.Hi.length:Int))) then
  let x3←idx loop.Hi i1
  let y3←sY x3 p2
  let hi2←(do
    if (decide (y3 < hi)) then
     pure (id y3)
    else
     pure (id hi)
      : Option Int)
  uX loop p2 hi2 (W (i1 + 1))
 else
  pure (id hi)
 partial_fixpoint
theorem zCO (loop:zD) (p2:(List Int)):∀ (hi:Int) (i1:Int) (o:Int),uX loop p2 hi i1=some o→∀ {B}{I0 I:Imm}{Q}{lo1:Int}{p c p1 c1 p3 c2}{b:Nat},I0.le I→(S4 I p3 p2 c2)→(S4 I p loop.Lo c)→(S4 I p1 loop.Hi c1)→NG Q→NO Q→(∀ (I':Imm) (hi1:Int),o=hi1→I0.le I'→T 62 B Q (.exit 2) I' [] [(6,vI lo1),(7,vI hi1)])→J Tryz.prog 62 B (nav (bodyOf Tryz.f146) [1,1,1,1,0,1,0]) Q I [hB b (cLoop loop p c p1 c1)] [(1,vS p3 p2 c2),(2,vP b 0),(6,vI lo1),(7,vI hi),(10,vI i1)]:=by
 refine uX.partial_correctness loop p2 _ fun self ih hi i1 o N B I0 I Q lo1 p c p1 c1 p3 c2 b H h2 h h1 hg ho hx=>yZ hg ho<|yG<|yK<|yC [0] [(46,.bool (decide (i1 < (loop.Hi.length:Int))))]<|zM<|yL N ?_ ?_
 · intro hc2 N;refine zW<|yI<|yP<|yK<|yD 3 [0] [(50,vS p1 loop.Hi c1),(51,vI i1)]<|bE N fun x3 hy6 N=>xS rfl rfl h1 hy6 ?_;intro ad3 ccs3 hat3 hrep3;obtain ⟨p7,c6,rfl,h9⟩:=yN hrep3;refine xM 0 hat3 (cAff x3 p7 c6) (vA (cAff x3 p7 c6)) rfl<|yD 6 [] [(54,vS p3 p2 c2)]<|bE N fun y3 hy7 N=>gB (kT x3 p2 _ hy7 h9 h2) ?_;intro I05 le5;have h2:=h2.mono le5;have h:=h.mono le5;have h1:=h1.mono le5;have H:=H.trans le5;refine yC [] [(11,vI y3)]<|vH [(58,.bool (decide (y3 < hi)))]<|zM ?_;obtain ⟨o02,ho02,hMc1⟩:=zB N;refine yU (fun I' hs' m'=>∃ (hi2:Int),o02=hi2∧I05.le I'∧hs'=[hB b (cLoop loop p c p1 c1)]∧m'=[(1,vS p3 p2 c2),(2,vP b 0),(6,vI lo1),(7,vI hi2),(10,vI i1)]) ?_ ?_
   · have H:=iS I05;refine yL ho02 ?_ ?_
     · intro hc3 N;exact zQ<|yC [] [(7,vI y3)]<|yT [(1,vS p3 p2 c2),(2,vP b 0),(6,vI lo1),(7,vI y3),(10,vI i1)]<|zV (ct N H)
     intro hc3 N;exact zW<|yT [(1,vS p3 p2 c2),(2,vP b 0),(6,vI lo1),(7,vI hi),(10,vI i1)]<|zV (ct N H)
   rintro I06 hs2 m2 ⟨hi2,heq2,le6,rfl,rfl⟩;subst o02;have h2:=h2.mono le6;have h:=h.mono le6;have h1:=h1.mono le6;have H:=H.trans le6;exact zT<|zM<|zQ<|yC [] [(10,vI (W (i1 + 1)))]<|yY<|vE [(1,vS p3 p2 c2),(2,vP b 0),(6,vI lo1),(7,vI hi2),(10,vI (W (i1 + 1)))]<|ih hi2 (W (i1 + 1)) _ hMc1 H h2 h h1 hg ho hx
 intro hc2 N;exact vW<|xU zR<|yT [(6,vI lo1),(7,vI hi)]<|hx _ _ (zC N).symm H
def pP (loop:zD) (p2:(List Int)):Option (Int×Int):=do
 let x←idx loop.Lo 0
 let y←sY x p2
 let x1←idx loop.Hi 0
 let y1←sY x1 p2
 let lo1←uW loop p2 y 1
 let hi1←uX loop p2 y1 1
 pure (lo1,hi1)
theorem zAj:∀ loop p2 r,pP loop p2=some r→∀ {I:Imm}{p c p1 c1 p3 c2},(S4 I p loop.Lo c)→(S4 I p1 loop.Hi c1)→(S4 I p3 p2 c2)→RT 146 [vA (cLoop loop p c p1 c1),vS p3 p2 c2] I [] (jT  r):=by
 intro loop p2 r N I p c p1 c1 p3 c2 h h1 h2;unfold pP at N;refine zY (fn:=Tryz.f146) (c:=(bodyOf Tryz.f146)) Tryz.func146 rfl rfl ?_;rintro B - -;refine yK<|uD (cLoop loop p c p1 c1) ?_;intro b hb;refine yC [] []<|xD<|yD 2 [0] [(13,vS p loop.Lo c)]<|bE N fun x hy N=>xS rfl rfl h hy ?_;intro ad ccs hat hrep;obtain ⟨p4,c3,rfl,h3⟩:=yN hrep;refine xM 0 hat (cAff x p4 c3) (vA (cAff x p4 c3)) rfl<|yD 5 [] [(16,vS p3 p2 c2)]<|bE N fun y hy1 N=>gB (kT x p2 _ hy1 h3 h2) ?_;intro I0 le;have h2:=h2.mono le;have h:=h.mono le;have h1:=h1.mono le;refine yC [] [(6,vI y)]<|xD<|yD 2 [0] [(19,vS p1 loop.Hi c1)]<|bE N fun x1 hy2 N=>xS rfl rfl h1 hy2 ?_;intro ad1 ccs1 hat1 hrep1;obtain ⟨p5,c4,rfl,h5⟩:=yN hrep1;refine xM 0 hat1 (cAff x1 p5 c4) (vA (cAff x1 p5 c4)) rfl<|yD 5 [] [(22,vS p3 p2 c2)]<|bE N fun y1 hy3 N=>gB (kT x1 p2 _ hy3 h5 h2) ?_;intro I01 le1;have h2:=h2.mono le1;have h:=h.mono le1;have h1:=h1.mono le1;refine yC [] [(7,vI y1)]<|yI<|yF [(8,vI 1)]<|wO<|vE [(1,vS p3 p2 c2),(2,vP b 0),(6,vI y),(7,vI y1),(8,vI 1)] ?_;obtain ⟨o01,ho01,hMl⟩:=zB N;refine zCN loop p2 y 1 o01 ho01 iR h2 h h1 (fun _ _ _ h=>h) (fun _ _ h=>h) ?_;intro I04 lo1 heq1 le4;subst o01;have h2:=h2.mono le4;have h:=h.mono le4;have h1:=h1.mono le4;refine zX<|yI<|yF [(10,vI 1)]<|wO<|vE [(1,vS p3 p2 c2),(2,vP b 0),(6,vI lo1),(7,vI y1),(10,vI 1)] ?_;obtain ⟨o03,ho03,hMl1⟩:=zB hMl;refine zCO loop p2 y1 1 o03 ho03 iR h2 h h1 (fun _ _ _ h=>h) (fun _ _ h=>h) ?_;intro I07 hi1 heq3 le7;subst o03;refine zX<|vH [(4,vI lo1),(5,vI hi1)]<|zM<|yX ?_;obtain rfl:=zC hMl1;exact xC ⟨_,_,(.tmp rfl (.tmp rfl ResV.nil)),zR,⟨_,_,rfl,rfl,rfl,rfl⟩⟩
def eH (r:(List (List Int))):KT:=fun kk I' hs' v=>
  ∃ a0 c0 s0,hs'=[.osl (.slice a0 r.length c0) (Rp.sz (List Int)) s0]∧v=tupV [(.slice a0 r.length c0)]∧RepL (Rp.rep I') (Rp.sz (List Int)) s0 r
mutual
def vL (out:(List (List Int))) (nest:(List zD)) (p2:(List Int)):Option ((List (List Int))):=do
 if ((p2.length:Int) == (nest.length:Int)) then
  let l←app 8 ([]:List Int) p2
  let t6←app 24 out ([l]:List (List Int))
  pure (id t6)
 else
  let x←idx nest (p2.length:Int)
  let (y1,y2)←pP x p2
  let out2←uZ (same nest) (same p2) (same y2) (same out) (same y1)
  pure (id out2)
 partial_fixpoint
def uZ (nest:(List zD)) (p2:(List Int)) (y2:Int) (out1:List (List Int)) (v04:Int):Option (List (List Int)):=do
 let t39←(do
   if (decide (v04 < y2)) then
    pure (decide ((out1.length:Int) ≤ 120))
   else
    pure false
     : Option Bool)
 if t39 then
  let l1←app 8 ([]:List Int) p2
  let l2←app 8 l1 ([v04]:List Int)
  let y3←vL (same out1) (same nest) (same l2)
  uZ (same nest) (same p2) (same y2) (same y3) (W (v04 + 1))
 else
  pure (id out1)
 partial_fixpoint
end
theorem zCz:(∀ (out:(List (List Int))) (nest:(List zD)) (p2:(List Int)) r,vL out nest p2=some r→∀ {I:Imm}{p c cs p1 c1 p3 c2},(RL I cs out)→(S4 I p1 nest c1)→(S4 I p3 p2 c2)→RT 166 [vS p out c,vS p1 nest c1,vS p3 p2 c2] I [hO (List Int) (vS p out c) cs] (eH  r))∧(∀ (nest:(List zD)) (p2:(List Int)) (y2:Int) (out1:List (List Int)) (v04:Int) o,uZ nest p2 y2 out1 v04=some o→∀ {B}{I0 I:Imm}{Q p1 c1 p3 c2 p8 c7 cs3},I0.le I→(S4 I p1 nest c1)→(S4 I p3 p2 c2)→(RL I cs3 out1)→NG Q→NO Q→(∀ (I':Imm) (out2:List (List Int)) (p9:Option Addr) (c8:Nat) (cs4:List Value),o=out2→I0.le I'→(RL I' cs4 out2)→T 52 B Q (.exit 0) I' [hO (List Int) (vS p9 out2 c8) cs4] [(0,vS p9 out2 c8)])→J Tryz.prog 52 B (nav (bodyOf Tryz.f166) [1,1,1,0,1,0]) Q I [hO (List Int) (vS p8 out1 c7) cs3] [(0,vS p8 out1 c7),(1,vS p1 nest c1),(2,vS p3 p2 c2),(8,vI y2),(9,vI v04)]):=by
  refine vL.mutual_partial_correctness _ _ ?_ ?_
  · intro F_spec_l2Points_l1 ih_spec_l2Points_l1 out nest p2 r N I p c cs p1 c1 p3 c2 h h1 h2;refine zY (fn:=Tryz.f166) (c:=(bodyOf Tryz.f166)) Tryz.func166 rfl rfl ?_;rintro B - -;refine yF []<|yI<|yF [(14,.bool ((p2.length:Int) == (nest.length:Int)))]<|zM<|yL N ?_ ?_
    · intro hc N;refine yK<|yD 1 [] [(15,vS p out c)]<|xY [] Int ?_;intro b hb;have h3:RL I [] ([]:List Int):=rfl;refine yD 3 [] [(17,vS p3 p2 c2)] ?_;obtain ⟨ccs,k0,k01⟩:=h2;have h2:SL I (vS p3 p2 c2) p2:=⟨_,k0,k01⟩;obtain ⟨l,hy,N⟩:=zB N;refine pG 3 1 0 rfl rfl rfl h3 (.inl k0) k01 hy fun p4 c3 cs1 h4=>sU (yB [0,1] (hs':=[hO Int (vS p4 l c3) cs1,hO (List Int) (vS p out c) cs]))<|yJ 0 rfl ?_;intro I0 le hl0;have h5:=SL.of_frozen hl0 le h4;have h:=iM le h;refine xY [vS p4 l c3] (List Int) ?_;intro b1 hb1;have h6:RL I0 [vS p4 l c3] ([l]:List (List Int)):=⟨[vS p4 l c3],_,rfl,rfl,⟨_,rfl,h5⟩,rfl⟩;obtain ⟨t6,hy1,N⟩:=zB N;refine pG 27 1 1 rfl rfl rfl h (.inr ⟨0,rfl⟩) h6 hy1 fun p5 c4 cs2 h7=>sU (yB [1] (hs':=[hO (List Int) (vS p5 t6 c4) cs2]))<|yC [] [(6,vS p5 t6 c4)]<|xG<|zH ?_;obtain rfl:=zC N;exact xC ⟨_,_,(.tmp rfl ResV.nil),(yA [0] rfl (by decide)),⟨_,_,_,rfl,rfl,h7⟩⟩
    intro hc N;refine zW<|xD<|yD 3 [] [(22,vS p1 nest c1),(24,vI (p2.length:Int))]<|bE N fun x hy2 N=>xS rfl rfl h1 hy2 ?_;intro ad ccs1 hat hrep;obtain ⟨p6,c5,p7,c6,rfl,h8,h9⟩:=tP hrep;refine xM 0 hat (cLoop x p6 c5 p7 c6) (vA (cLoop x p6 c5 p7 c6)) rfl<|yD 6 [] [(27,vS p3 p2 c2)] ?_;obtain ⟨⟨y1,y2⟩,hy3,N⟩:=zB N;refine xT (zAj x p2 _ hy3 h8 h9 h2) ?_;rintro I01 hs2 v2 k2 le1 - ⟨v02,v03,rfl,rfl,rfl,rfl⟩ -;have h:=iM le1 h;have h1:=h1.mono le1;have h2:=h2.mono le1;refine yC [] [(7,vI y1),(8,vI y2)]<|yI<|yF [(9,vI y1)]<|wO<|vE [(0,vS p out c),(1,vS p1 nest c1),(2,vS p3 p2 c2),(8,vI y2),(9,vI y1)] ?_;obtain ⟨o01,ho01,hMl⟩:=zB N;refine ih_spec_l2Points_l1 nest p2 y2 out y1 o01 ho01 iR h1 h2 h (fun _ _ _ h=>h) (fun _ _ h=>h) ?_;intro I05 out2 p9 c8 cs4 heq1 le5 h13;subst o01;refine zX<|vH [(6,vS p9 out2 c8)]<|zM<|yX ?_;obtain rfl:=zC hMl;exact xC ⟨_,_,(.tmp rfl ResV.nil),(yA [0] rfl (by decide)),⟨_,_,_,rfl,rfl,h13⟩⟩
  intro F_spec_l2Points F_spec_l2Points_l1 ih_spec_l2Points ih_spec_l2Points_l1 nest p2 y2 out1 v04 o N B I0 I Q p1 c1 p3 c2 p8 c7 cs3 H h1 h2 h12 hg ho hx;refine yZ hg ho<|yG<|yG ?_;obtain ⟨o0,ho0,hMc⟩:=zB N;refine yU (fun I' hs' m'=>∃ (t39:Bool),o0=t39∧I.le I'∧hs'=[hO (List Int) (vS p8 out1 c7) cs3]∧m'=[(0,vS p8 out1 c7),(1,vS p1 nest c1),(2,vS p3 p2 c2),(8,vI y2),(9,vI v04),(39,.bool t39)]) ?_ ?_
  · have H:=iS I;refine zQ<|yD 4 [] [(35,.bool (decide (v04 < y2)))] ?_;cases hc1:(decide (v04 < y2)) with
    | true =>
     have hM0:=zP hc1 ho0
     try rw [hc1]
     exact yC [] [(39,.bool (decide ((out1.length:Int) ≤ 120)))]<|yT [(0,vS p8 out1 c7),(1,vS p1 nest c1),(2,vS p3 p2 c2),(8,vI y2),(9,vI v04),(39,.bool (decide ((out1.length:Int) ≤ 120)))]<|zV (ct hM0 H)
    | false =>
     have hM01:=zL hc1 ho0
     try rw [hc1]
     exact yC [] [(39,vF)]<|yT [(0,vS p8 out1 c7),(1,vS p1 nest c1),(2,vS p3 p2 c2),(8,vI y2),(9,vI v04),(39,vF)]<|zV (ct hM01 H)
  rintro I02 hs2 m2 ⟨t39,heq,le2,rfl,rfl⟩;subst o0;have h12:=iM le2 h12;have h1:=h1.mono le2;have h2:=h2.mono le2;have H:=H.trans le2;refine zM<|yL hMc ?_ ?_
  · intro hc2 N;refine zW<|yI<|yP<|zQ<|yD 2 [] [(42,vS p8 out1 c7),(43,vS p1 nest c1)]<|xY [] Int ?_;intro b2 hb2;have h14:RL I02 [] ([]:List Int):=rfl;refine yD 4 [] [(45,vS p3 p2 c2)] ?_;obtain ⟨ccs2,k02,k03⟩:=h2;have h2:SL I02 (vS p3 p2 c2) p2:=⟨_,k02,k03⟩;obtain ⟨l1,hy4,N⟩:=zB N;refine pG 3 1 0 rfl rfl rfl h14 (.inl k02) k03 hy4 fun p10 c9 cs5 h15=>sU (yB [0,1] (hs':=[hO Int (vS p10 l1 c9) cs5,hO (List Int) (vS p8 out1 c7) cs3]))<|yD 6 [] [(47,vI v04)]<|xY [vI v04] Int ?_;intro b3 hb3;have h16:RL I02 [vI v04] ([v04]:List Int):=⟨[vI v04],_,rfl,rfl,rfl,rfl⟩;obtain ⟨l2,hy5,N⟩:=zB N;refine pG 3 1 1 rfl rfl rfl h15 (.inr ⟨0,rfl⟩) h16 hy5 fun p11 c10 cs6 h17=>sU (yB [1,2] (hs':=[hO Int (vS p11 l2 c10) cs6,hO (List Int) (vS p8 out1 c7) cs3]))<|yJ 0 rfl ?_;intro I03 le3 hl01;have h18:=SL.of_frozen hl01 le3 h17;have h1:=h1.mono le3;have h2:=h2.mono le3;have h12:=iM le3 h12;have H:=H.trans le3;obtain ⟨y3,hy6,N⟩:=zB N;refine tM [hO (List Int) (vS p8 out1 c7) cs3] [] (ih_spec_l2Points out1 nest l2 _ hy6 h12 h1 h18) ?_;rintro I04 hs2 v2 k2 le4 - ⟨p12,c11,cs7,rfl,rfl,h19⟩ -;have h1:=h1.mono le4;have h2:=h2.mono le4;have H:=H.trans le4;exact yC [] [(0,vS p12 y3 c11)]<|zT<|zM<|zQ<|yC [] [(9,vI (W (v04 + 1)))]<|yY<|vE [(0,vS p12 y3 c11),(1,vS p1 nest c1),(2,vS p3 p2 c2),(8,vI y2),(9,vI (W (v04 + 1)))]<|ih_spec_l2Points_l1 nest p2 y2 y3 (W (v04 + 1)) _ N H h1 h2 h19 hg ho hx
  intro hc2 N;exact vW<|yT [(0,vS p8 out1 c7)]<|hx _ _ _ _ _ (zC N).symm H h12
theorem zAL:∀ out nest p2 r,vL out nest p2=some r→∀ {I:Imm}{p c cs p1 c1 p3 c2},(RL I cs out)→(S4 I p1 nest c1)→(S4 I p3 p2 c2)→RT 166 [vS p out c,vS p1 nest c1,vS p3 p2 c2] I [hO (List Int) (vS p out c) cs] (eH  r):=zCz.1
mutual
def tY (nest:(List zD)) (p1:(List Int)) (most:Int):Option (Int):=do
 if ((p1.length:Int) == (nest.length:Int)) then
  pure (id 1)
 else
  let x←idx nest (p1.length:Int)
  let (y1,y2)←pP x p1
  let n01←sE (same nest) (same p1) (same most) (same y2) (same 1) (same y1)
  pure (id n01)
 partial_fixpoint
def sE (nest:(List zD)) (p1:(List Int)) (most:Int) (y2:Int) (n0:Int) (v04:Int):Option (Int):=do
 let t35←(do
   if (decide (v04 < y2)) then
    pure (decide (n0 ≤ most))
   else
    pure false
     : Option Bool)
 if t35 then
  let l←app 8 ([]:List Int) p1
  let l1←app 8 l ([v04]:List Int)
  let y3←tY (same nest) (same l1) (W (most - n0))
  sE (same nest) (same p1) (same most) (same y2) (W (n0 + y3)) (W (v04 + 1))
 else
  pure (id n0)
 partial_fixpoint
end
theorem zEV:(∀ (nest:(List zD)) (p1:(List Int)) (most:Int) r,tY nest p1 most=some r→∀ {I:Imm}{p c p2 c1},(S4 I p nest c)→(S4 I p2 p1 c1)→RT 180 [vS p nest c,vS p2 p1 c1,vI most] I [] (xJ  r))∧(∀ (nest:(List zD)) (p1:(List Int)) (most:Int) (y2:Int) (n0:Int) (v04:Int) o,sE nest p1 most y2 n0 v04=some o→∀ {B}{I0 I:Imm}{Q p c p2 c1},I0.le I→(S4 I p nest c)→(S4 I p2 p1 c1)→NG Q→NO Q→(∀ (I':Imm) (n01:Int),o=n01→I0.le I'→T 52 B Q (.exit 0) I' [] [(7,vI n01)])→J Tryz.prog 52 B (nav (bodyOf Tryz.f180) [1,1,1,1,0,1,0]) Q I [] [(0,vS p nest c),(1,vS p2 p1 c1),(2,vI most),(7,vI n0),(9,vI y2),(10,vI v04)]):=by
  refine tY.mutual_partial_correctness _ _ ?_ ?_
  · intro F_spec_l2Work_l1 ih_spec_l2Work_l1 nest p1 most r N I p c p2 c1 h h1;refine zY (fn:=Tryz.f180) (c:=(bodyOf Tryz.f180)) Tryz.func180 rfl rfl ?_;rintro B - -;refine yF []<|vH [(7,vI 1)]<|yI<|yF [(15,.bool ((p1.length:Int) == (nest.length:Int)))]<|zM<|yL N ?_ ?_
    · intro hc N;refine yF [(6,vI 1)]<|xG<|zH ?_;obtain rfl:=zC N;exact wN
    intro hc N;refine zW<|xD<|yD 3 [] [(18,vS p nest c),(20,vI (p1.length:Int))]<|bE N fun x hy N=>xS rfl rfl h hy ?_;intro ad ccs hat hrep;obtain ⟨p3,c2,p4,c3,rfl,h2,h3⟩:=tP hrep;refine xM 0 hat (cLoop x p3 c2 p4 c3) (vA (cLoop x p3 c2 p4 c3)) rfl<|yD 6 [] [(23,vS p2 p1 c1)] ?_;obtain ⟨⟨y1,y2⟩,hy1,N⟩:=zB N;refine xT (zAj x p1 _ hy1 h2 h3 h1) ?_;rintro I0 hs2 v2 k2 le - ⟨v02,v03,rfl,rfl,rfl,rfl⟩ -;have h:=h.mono le;have h1:=h1.mono le;refine yC [] [(8,vI y1),(9,vI y2)]<|yI<|yF [(10,vI y1)]<|wO<|vE [(0,vS p nest c),(1,vS p2 p1 c1),(2,vI most),(7,vI 1),(9,vI y2),(10,vI y1)] ?_;obtain ⟨o01,ho01,hMl⟩:=zB N;refine ih_spec_l2Work_l1 nest p1 most y2 1 y1 o01 ho01 iR h h1 (fun _ _ _ h=>h) (fun _ _ h=>h) ?_;intro I04 n01 heq1 le4;subst o01;refine zX<|vH [(6,vI n01)]<|zM<|yX ?_;obtain rfl:=zC hMl;exact wN
  intro F_spec_l2Work F_spec_l2Work_l1 ih_spec_l2Work ih_spec_l2Work_l1 nest p1 most y2 n0 v04 o N B I0 I Q p c p2 c1 H h h1 hg ho hx;refine yZ hg ho<|yG<|yG ?_;obtain ⟨o0,ho0,hMc⟩:=zB N;refine yU (fun I' hs' m'=>∃ (t35:Bool),o0=t35∧I.le I'∧hs'=[]∧m'=[(0,vS p nest c),(1,vS p2 p1 c1),(2,vI most),(7,vI n0),(9,vI y2),(10,vI v04),(35,.bool t35)]) ?_ ?_
  · have H:=iS I;refine zQ<|yD 4 [] [(31,.bool (decide (v04 < y2)))] ?_;cases hc1:(decide (v04 < y2)) with
    | true =>
     have hM0:=zP hc1 ho0
     try rw [hc1]
     exact yC [] [(35,.bool (decide (n0 ≤ most)))]<|yT [(0,vS p nest c),(1,vS p2 p1 c1),(2,vI most),(7,vI n0),(9,vI y2),(10,vI v04),(35,.bool (decide (n0 ≤ most)))]<|zV (ct hM0 H)
    | false =>
     have hM01:=zL hc1 ho0
     try rw [hc1]
     exact yC [] [(35,vF)]<|yT [(0,vS p nest c),(1,vS p2 p1 c1),(2,vI most),(7,vI n0),(9,vI y2),(10,vI v04),(35,vF)]<|zV (ct hM01 H)
  rintro I01 hs2 m2 ⟨t35,heq,le1,rfl,rfl⟩;subst o0;have h:=h.mono le1;have h1:=h1.mono le1;have H:=H.trans le1;refine zM<|yL hMc ?_ ?_
  · intro hc2 N;refine zW<|yI<|yP<|zQ<|yD 2 [] [(38,vI n0),(39,vS p nest c)]<|xY [] Int ?_;intro b hb;have h6:RL I01 [] ([]:List Int):=rfl;refine yD 4 [] [(41,vS p2 p1 c1)] ?_;obtain ⟨ccs1,k0,k01⟩:=h1;have h1:SL I01 (vS p2 p1 c1) p1:=⟨_,k0,k01⟩;obtain ⟨l,hy2,N⟩:=zB N;refine pG 3 1 0 rfl rfl rfl h6 (.inl k0) k01 hy2 fun p5 c4 cs h7=>sU (yB [0] (hs':=[hO Int (vS p5 l c4) cs]))<|yD 6 [] [(43,vI v04)]<|xY [vI v04] Int ?_;intro b1 hb1;have h8:RL I01 [vI v04] ([v04]:List Int):=⟨[vI v04],_,rfl,rfl,rfl,rfl⟩;obtain ⟨l1,hy3,N⟩:=zB N;refine pG 3 1 1 rfl rfl rfl h7 (.inr ⟨0,rfl⟩) h8 hy3 fun p6 c5 cs1 h9=>sU (yB [1] (hs':=[hO Int (vS p6 l1 c5) cs1]))<|yD 11 [] [(48,vI (W (most - n0)))]<|yJ 0 rfl ?_;intro I02 le2 hl0;have h10:=SL.of_frozen hl0 le2 h9;have h:=h.mono le2;have h1:=h1.mono le2;have H:=H.trans le2;obtain ⟨y3,hy4,N⟩:=zB N;refine xT (ih_spec_l2Work nest l1 (W (most - n0)) _ hy4 h h10) ?_;rintro I03 hs2 v2 k2 le3 - ⟨v05,rfl,rfl,rfl⟩ -;have h:=h.mono le3;have h1:=h1.mono le3;have H:=H.trans le3;exact yC [] [(7,vI (W (n0 + y3)))]<|zT<|zM<|zQ<|yC [] [(10,vI (W (v04 + 1)))]<|yY<|vE [(0,vS p nest c),(1,vS p2 p1 c1),(2,vI most),(7,vI (W (n0 + y3))),(9,vI y2),(10,vI (W (v04 + 1)))]<|ih_spec_l2Work_l1 nest p1 most y2 (W (n0 + y3)) (W (v04 + 1)) _ N H h h1 hg ho hx
  intro hc2 N;exact vW<|yT [(7,vI n0)]<|hx _ _ (zC N).symm H
theorem zFE:∀ nest p1 most r,tY nest p1 most=some r→∀ {I:Imm}{p c p2 c1},(S4 I p nest c)→(S4 I p2 p1 c1)→RT 180 [vS p nest c,vS p2 p1 c1,vI most] I [] (xJ  r):=zEV.1
end Go.LN
