/- Helper of the proof (see the last text). -/
import Derived.Test.YtmjfehjlgmdfhaaDoorGA1
namespace Go.LN
set_option linter.unusedVariables false
set_option linter.unusedSimpArgs false
open Go.Proofs
set_option maxRecDepth 20000
def laws_FnAffineText_post (r : Bool) : Nat → Imm → List HA → Value → Prop := fun kk imm' hs' v =>
  ∃ (v0 : Value), hs' = [] ∧ v = tupV [v0] ∧ v0 = .bool r
def M.laws_FnAffineText (code : (List UInt8)) (more : (List UInt8)) : Option (Bool) := do
 let t21 ← (do
   if (decide ((code.length : Int) > 1048576)) then
    pure true
   else
    pure (decide ((more.length : Int) > 1048576))
     : Option Bool)
 if t21 then
  pure true
 else
  let y ← M.spec_DrawFormatAffine code
  let y1 ← M.impl_FormatAffine y
  let (y3, y4) ← M.impl_ParseAffine y1
  let t56 ← (do
    let y5 ← M.spec_FormatAffine y
    if (!(y1.l == y5.l)) then
     pure true
    else
     let y6 ← M.impl_AffineValid y
     let y7 ← M.spec_AffineValid y
     if (!(y6 == y7)) then
      pure true
     else
      let y8 ← M.spec_AffineValid y
      if (!(y4 == y8)) then
       pure true
      else
       if y4 then
        let y9 ← M.impl_AffineSame y3 y
        pure (!y9)
       else
        pure false
      : Option Bool)
  if t56 then
   pure false
  else
   let y10 ← M.spec_DrawParseAffine more
   let (y12, y13) ← M.impl_ParseAffine y10
   let (y15, y16) ← M.spec_ParseAffine y10
   let t4 ← (do
     if (y13 == y16) then
      let y17 ← M.impl_AffineSame y12 y15
      if y17 then
       if (!y13) then
        pure true
       else
        let y18 ← M.impl_FormatAffine y12
        pure (y18.l == y10.l)
      else
       pure false
     else
      pure false
       : Option Bool)
   pure (id t4)
theorem laws_FnAffineText_ok : ∀ (code : (List UInt8)) (more : (List UInt8)) r, M.laws_FnAffineText code more = some r → ∀ {imm : Imm} {p : Option Addr} {c : Nat} {p1 : Option Addr} {c1 : Nat}, (SL imm (vS p code c) code) → (SL imm (vS p1 more c1) more) → (GH Tryd.prog imm) → Ret Tryd.prog 3 [vS p code c, vS p1 more c1] imm [] (laws_FnAffineText_post  r) := by
 intro code more r hM imm p c p1 c1 h h1 hG
 unfold M.laws_FnAffineText at hM
 refine ret_of_J (fn := Tryd.f3) (c := (bodyOf Tryd.f3)) Tryd.func3 rfl rfl ?_
 rintro B - -
 have hle : imm.le imm := Imm.le.refl _
 refine J_seq <| J_region <| R_z [] [] <| T_seq <| J_seq <| J_seq ?_
 obtain ⟨o0, ho0, hMc⟩ := bind_some hM
 refine J_cut (fun imm' hs' m' => ∃ (t21 : Bool), o0 = t21 ∧ imm.le imm' ∧ hs' = [] ∧ m' = [(0, vS p code c), (1, vS p1 more c1), (21, .bool t21)]) ?_ ?_
 · have hle0 := hle
   have hle : imm.le imm := Imm.le.refl _
   refine J_region <| R_d 4 [] [(17, .bool (decide ((code.length : Int) > 1048576)))] ?_
   cases hc : (decide ((code.length : Int) > 1048576)) with
   | true =>
    have hM0 := if_some_true hc ho0
    try rw [hc]
    exact R_z [] [(21, .bool true)] <| T_w [(0, vS p code c), (1, vS p1 more c1), (21, .bool true)] <| T_cut ⟨_, (pure_some hM0).symm, hle, rfl, rfl⟩
   | false =>
    have hM01 := if_some_false hc ho0
    try rw [hc]
    exact R_z [] [(21, .bool (decide ((more.length : Int) > 1048576)))] <| T_w [(0, vS p code c), (1, vS p1 more c1), (21, .bool (decide ((more.length : Int) > 1048576)))] <| T_cut ⟨_, (pure_some hM01).symm, hle, rfl, rfl⟩
 · rintro imm0 hs2 m2 ⟨t21, heq, le, rfl, rfl⟩
   subst o0
   replace h := h.mono le
   replace h1 := h1.mono le
   replace hG := hG.mono le
   replace hle := hle.trans le
   refine T_seq <| J_cd hMc ?_ ?_
   · intro hc1 hM
     refine J_seq <| J_region <| R_z [] [(4, .bool true)] <| T_seq <| J_ret <| T_then_ret ?_
     obtain rfl := pure_some hM
     exact T_RS ⟨_, _, (.tmp rfl ResV.nil), good_none, ⟨_, rfl, rfl, rfl⟩⟩
   · intro hc1 hM
     refine J_skip <| T_seq <| J_seq <| J_region <| R_d 1 [] [(22, vS p code c)] ?_
     obtain ⟨y, hy, hM⟩ := bind_some hM
     refine R_call (hs1 := []) (rest := []) rfl rfl rfl rfl (by kernel_rfl) rfl rfl (spec_DrawFormatAffine_ok code _ hy h) ?_
     rintro imm01 hs2 v2 k2 le1 - ⟨v0, rfl, rfl, ⟨cs, rfl, h2⟩⟩ -
     replace h1 := h1.mono le1
     replace hG := hG.mono le1
     replace hle := hle.trans le1
     obtain ⟨v01, rfl, h3⟩ := impl_Affine_open h2
     obtain ⟨p2, c2, rfl⟩ := h3.form
     refine R_alloc (c := ⟨[.slice none 0 0, vI 0]⟩) rfl rfl rfl (by kernel_rfl) ?_
     intro b hb
     refine R_sb 0 [vS p2 y.Coefs c2, vI y.Const] [hB b [vS p2 y.Coefs c2, vI y.Const]] rfl rfl rfl rfl <| R_end rfl <| T_seq <| J_seq <| J_region <| R_d 1 [0] [(24, vA [vS p2 y.Coefs c2, vI y.Const])] ?_
     obtain ⟨y1, hy1, hM⟩ := bind_some hM
     refine R_call (hs1 := []) (rest := [hB b [vS p2 y.Coefs c2, vI y.Const]]) rfl rfl rfl rfl (by kernel_rfl) rfl rfl (impl_FormatAffine_ok y _ hy1 h3 hG) ?_
     rintro imm02 hs2 v2 k2 le2 - ⟨v02, rfl, rfl, rfl⟩ -
     replace h1 := h1.mono le2
     replace h3 := h3.mono le2
     replace hG := hG.mono le2
     replace hle := hle.trans le2
     refine R_z [] [(6, vT y1.l)] <| T_seq <| J_seq <| J_region <| R_d 1 [] [(27, vT y1.l)] ?_
     obtain ⟨⟨y3, y4⟩, hy2, hM⟩ := bind_some hM
     refine R_call (hs1 := []) (rest := [hB b [vS p2 y.Coefs c2, vI y.Const]]) rfl rfl rfl rfl (by kernel_rfl) rfl rfl (impl_ParseAffine_ok y1 _ hy2 hG) ?_
     rintro imm03 hs2 v2 k2 le3 - ⟨v03, v04, rfl, rfl, ⟨cs1, rfl, h5⟩, rfl⟩ -
     replace h1 := h1.mono le3
     replace h3 := h3.mono le3
     replace hG := hG.mono le3
     replace hle := hle.trans le3
     obtain ⟨v05, rfl, h7⟩ := impl_Affine_open h5
     obtain ⟨p3, c3, rfl⟩ := h7.form
     refine R_d 5 [] [(29, vA [vS p3 y3.Coefs c3, vI y3.Const]), (30, .bool y4)] <| R_alloc (c := ⟨[.slice none 0 0, vI 0]⟩) rfl rfl rfl (by kernel_rfl) ?_
     intro b1 hb1
     refine R_sb 0 [vS p3 y3.Coefs c3, vI y3.Const] [hB b1 [vS p3 y3.Coefs c3, vI y3.Const], hB b [vS p2 y.Coefs c2, vI y.Const]] rfl rfl rfl rfl <| R_z [] [(8, .bool y4)] <| T_seq <| J_seq <| J_seq ?_
     obtain ⟨o01, ho01, hMc1⟩ := bind_some hM
     refine J_cut (fun imm' hs' m' => ∃ (t56 : Bool), o01 = t56 ∧ imm03.le imm' ∧ hs' = [] ∧ m' = [(1, vS p1 more c1), (56, .bool t56)]) ?_ ?_
     · have hle01 := hle
       have hle : imm03.le imm03 := Imm.le.refl _
       obtain ⟨y5, hy3, hM⟩ := bind_some ho01
       cases hc2 : (!(y1.l == y5.l)) with
       | true =>
        have hM02 := if_some_true hc2 hM
        refine J_any [.p (vT y1.l) [], .p (vA [vS p2 y.Coefs c2, vI y.Const]) [1], .q (vT y5.l), .q (.bool true), .q (.bool true), .p undef [], .p undef [], .p undef [], .p undef [], .p undef [], .p (.bool true) [], .p (.bool true) [], .p undef [], .p undef [], .p undef [], .p undef [], .p (.bool true) [], .p (.bool true) [], .p undef [], .p undef [], .p undef [], .p undef [], .p undef [], .p undef [], .p undef [], .p (.bool true) []] [[], [], [(1, false)], [(0, false), (2, false)], [(3, false)], [(4, false)], [(4, false), (5, false)], [(4, false)], [(4, false), (7, false)], [(4, false), (6, false), (8, false)], [(4, false), (9, false)], [(10, false)], [(11, false)], [(11, false)], [(11, false), (13, false)], [(11, false), (12, false), (14, false)], [(11, false), (15, false)], [(16, false)], [(17, false)], [(17, false), (18, false)], [(19, false)], [(19, false)], [(19, false), (20, false), (21, false)], [(19, false), (22, false)], [(17, false), (19, false), (23, false)], [(17, false), (24, false)]] [hB b1 [vS p3 y3.Coefs c3, vI y3.Const], hB b [vS p2 y.Coefs c2, vI y.Const]] [] [(25, false)] (good_pick [0, 1] rfl (by decide)) ?_ ?_
        · refine Op <| Op <| Oq ?_ <| Oq ?_ <| Oq ?_ <| Op <| Op <| Op <| Op <| Op <| Op <| Op <| Op <| Op <| Op <| Op <| Op <| Op <| Op <| Op <| Op <| Op <| Op <| Op <| Op <| Op <| On
          · intro imm1 hf le1
            refine Ins_cons ?_
            rintro _ _ ⟨rfl, rfl⟩
            refine Ins_nil <| R_isw (hB b1 [vS p3 y3.Coefs c3, vI y3.Const] :: hB b [vS p2 y.Coefs c2, vI y.Const] :: hf) [(32, vA [vS p2 y.Coefs c2, vI y.Const])] ?_
            have hle := Imm.le.refl imm1
            replace h7 := h7.mono le1
            replace h3 := h3.mono le1
            replace hG := hG.mono le1
            refine R_call (hs1 := []) (rest := (hB b1 [vS p3 y3.Coefs c3, vI y3.Const] :: hB b [vS p2 y.Coefs c2, vI y.Const] :: hf)) rfl rfl rfl rfl (by kernel_rfl) rfl rfl (spec_FormatAffine_ok y _ hy3 h3) ?_
            rintro imm05 hs2 v2 k2 le4 - ⟨v06, rfl, rfl, rfl⟩ -
            replace h3 := h3.mono le4
            replace h7 := h7.mono le4
            replace hG := hG.mono le4
            replace hle := hle.trans le4
            exact R_out (hx := []) rfl hle rfl (out_some rfl) ⟨rfl, rfl⟩
          · intro imm1 hf le1
            refine Ins_cons ?_
            rintro _ _ ⟨rfl, rfl⟩
            refine Ins_cons ?_
            rintro _ _ ⟨rfl, rfl⟩
            refine Ins_nil <| R_isw (hB b1 [vS p3 y3.Coefs c3, vI y3.Const] :: hB b [vS p2 y.Coefs c2, vI y.Const] :: hf) [(31, vT y1.l), (33, vT y5.l)] ?_
            have hle := Imm.le.refl imm1
            refine R_p 4 [(34, .bool (!(y1.l == y5.l)))] ?_
            rw [hc2]
            exact R_out (hx := []) rfl hle rfl (out_some rfl) ⟨rfl, rfl⟩
          · intro imm1 hf le1
            refine Ins_cons ?_
            rintro _ _ ⟨rfl, rfl⟩
            refine Ins_nil <| R_isw (hB b1 [vS p3 y3.Coefs c3, vI y3.Const] :: hB b [vS p2 y.Coefs c2, vI y.Const] :: hf) [(34, .bool true)] ?_
            have hle := Imm.le.refl imm1
            exact R_p 5 [(35, .bool true)] <| R_out (hx := []) rfl hle rfl (out_some rfl) ⟨rfl, rfl⟩
        · intro imm06 le5
          refine Ins_cons ?_
          rintro _ _ ⟨rfl, rfl⟩
          refine Ins_nil <| R_isw [hB b1 [vS p3 y3.Coefs c3, vI y3.Const], hB b [vS p2 y.Coefs c2, vI y.Const]] [(1, vS p1 more c1), (56, .bool true)] ?_
          replace h1 := h1.mono le5
          replace h7 := h7.mono le5
          replace h3 := h3.mono le5
          replace hG := hG.mono le5
          replace hle := hle.trans le5
          exact R_end rfl <| T_hs (good_pick [] rfl (by decide)) <| T_w [(1, vS p1 more c1), (56, .bool true)] <| T_cut ⟨_, (pure_some hM02).symm, hle, rfl, rfl⟩
       | false =>
        have hM03 := if_some_false hc2 hM
        obtain ⟨y6, hy4, hM⟩ := bind_some hM03
        obtain ⟨y7, hy5, hM⟩ := bind_some hM
        cases hc3 : (!(y6 == y7)) with
        | true =>
         have hM04 := if_some_true hc3 hM
         refine J_any [.p (vT y1.l) [], .p (vA [vS p2 y.Coefs c2, vI y.Const]) [1], .q (vT y5.l), .q (.bool false), .q (.bool false), .p (vA [vS p2 y.Coefs c2, vI y.Const]) [1], .q (.bool y6), .p (vA [vS p2 y.Coefs c2, vI y.Const]) [1], .q (.bool y7), .q (.bool true), .q (.bool true), .q (.bool true), .p undef [], .p undef [], .p undef [], .p undef [], .p (.bool true) [], .p (.bool true) [], .p undef [], .p undef [], .p undef [], .p undef [], .p undef [], .p undef [], .p undef [], .p (.bool true) []] [[], [], [(1, false)], [(0, false), (2, false)], [(3, false)], [(4, false)], [(4, false), (5, false)], [(4, false)], [(4, false), (7, false)], [(4, false), (6, false), (8, false)], [(4, false), (9, false)], [(10, false)], [(11, false)], [(11, false)], [(11, false), (13, false)], [(11, false), (12, false), (14, false)], [(11, false), (15, false)], [(16, false)], [(17, false)], [(17, false), (18, false)], [(19, false)], [(19, false)], [(19, false), (20, false), (21, false)], [(19, false), (22, false)], [(17, false), (19, false), (23, false)], [(17, false), (24, false)]] [hB b1 [vS p3 y3.Coefs c3, vI y3.Const], hB b [vS p2 y.Coefs c2, vI y.Const]] [] [(25, false)] (good_pick [0, 1] rfl (by decide)) ?_ ?_
         · refine Op <| Op <| Oq ?_ <| Oq ?_ <| Oq ?_ <| Op <| Oq ?_ <| Op <| Oq ?_ <| Oq ?_ <| Oq ?_ <| Oq ?_ <| Op <| Op <| Op <| Op <| Op <| Op <| Op <| Op <| Op <| Op <| Op <| Op <| Op <| Op <| On
           · intro imm1 hf le1
             refine Ins_cons ?_
             rintro _ _ ⟨rfl, rfl⟩
             refine Ins_nil <| R_isw (hB b1 [vS p3 y3.Coefs c3, vI y3.Const] :: hB b [vS p2 y.Coefs c2, vI y.Const] :: hf) [(32, vA [vS p2 y.Coefs c2, vI y.Const])] ?_
             have hle := Imm.le.refl imm1
             replace h7 := h7.mono le1
             replace h3 := h3.mono le1
             replace hG := hG.mono le1
             refine R_call (hs1 := []) (rest := (hB b1 [vS p3 y3.Coefs c3, vI y3.Const] :: hB b [vS p2 y.Coefs c2, vI y.Const] :: hf)) rfl rfl rfl rfl (by kernel_rfl) rfl rfl (spec_FormatAffine_ok y _ hy3 h3) ?_
             rintro imm05 hs2 v2 k2 le4 - ⟨v06, rfl, rfl, rfl⟩ -
             replace h3 := h3.mono le4
             replace h7 := h7.mono le4
             replace hG := hG.mono le4
             replace hle := hle.trans le4
             exact R_out (hx := []) rfl hle rfl (out_some rfl) ⟨rfl, rfl⟩
           · intro imm1 hf le1
             refine Ins_cons ?_
             rintro _ _ ⟨rfl, rfl⟩
             refine Ins_cons ?_
             rintro _ _ ⟨rfl, rfl⟩
             refine Ins_nil <| R_isw (hB b1 [vS p3 y3.Coefs c3, vI y3.Const] :: hB b [vS p2 y.Coefs c2, vI y.Const] :: hf) [(31, vT y1.l), (33, vT y5.l)] ?_
             have hle := Imm.le.refl imm1
             refine R_p 4 [(34, .bool (!(y1.l == y5.l)))] ?_
             rw [hc2]
             exact R_out (hx := []) rfl hle rfl (out_some rfl) ⟨rfl, rfl⟩
           · intro imm1 hf le1
             refine Ins_cons ?_
             rintro _ _ ⟨rfl, rfl⟩
             refine Ins_nil <| R_isw (hB b1 [vS p3 y3.Coefs c3, vI y3.Const] :: hB b [vS p2 y.Coefs c2, vI y.Const] :: hf) [(34, .bool false)] ?_
             have hle := Imm.le.refl imm1
             exact R_p 5 [(35, .bool false)] <| R_out (hx := []) rfl hle rfl (out_some rfl) ⟨rfl, rfl⟩
           · intro imm1 hf le1
             refine Ins_cons ?_
             rintro _ _ ⟨rfl, rfl⟩
             refine Ins_cons ?_
             rintro _ _ ⟨rfl, rfl⟩
             refine Ins_nil <| R_isw (hB b1 [vS p3 y3.Coefs c3, vI y3.Const] :: hB b [vS p2 y.Coefs c2, vI y.Const] :: hf) [(35, .bool false), (36, vA [vS p2 y.Coefs c2, vI y.Const])] ?_
             have hle := Imm.le.refl imm1
             replace h7 := h7.mono le1
             replace h3 := h3.mono le1
             replace hG := hG.mono le1
             refine R_call (hs1 := []) (rest := (hB b1 [vS p3 y3.Coefs c3, vI y3.Const] :: hB b [vS p2 y.Coefs c2, vI y.Const] :: hf)) rfl rfl rfl rfl (by kernel_rfl) rfl rfl (impl_AffineValid_ok y _ hy4 h3) ?_
             rintro imm07 hs2 v2 k2 le6 - ⟨v07, rfl, rfl, rfl⟩ -
             replace h3 := h3.mono le6
             replace h7 := h7.mono le6
             replace hG := hG.mono le6
             replace hle := hle.trans le6
             exact R_out (hx := []) rfl hle rfl (out_some rfl) ⟨rfl, rfl⟩
           · intro imm1 hf le1
             refine Ins_cons ?_
             rintro _ _ ⟨rfl, rfl⟩
             refine Ins_cons ?_
             rintro _ _ ⟨rfl, rfl⟩
             refine Ins_nil <| R_isw (hB b1 [vS p3 y3.Coefs c3, vI y3.Const] :: hB b [vS p2 y.Coefs c2, vI y.Const] :: hf) [(35, .bool false), (38, vA [vS p2 y.Coefs c2, vI y.Const])] ?_
             have hle := Imm.le.refl imm1
             replace h7 := h7.mono le1
             replace h3 := h3.mono le1
             replace hG := hG.mono le1
             refine R_call (hs1 := []) (rest := (hB b1 [vS p3 y3.Coefs c3, vI y3.Const] :: hB b [vS p2 y.Coefs c2, vI y.Const] :: hf)) rfl rfl rfl rfl (by kernel_rfl) rfl rfl (spec_AffineValid_ok y _ hy5 h3) ?_
             rintro imm08 hs2 v2 k2 le7 - ⟨v08, rfl, rfl, rfl⟩ -
             replace h3 := h3.mono le7
             replace h7 := h7.mono le7
             replace hG := hG.mono le7
             replace hle := hle.trans le7
             exact R_out (hx := []) rfl hle rfl (out_some rfl) ⟨rfl, rfl⟩
           · intro imm1 hf le1
             refine Ins_cons ?_
             rintro _ _ ⟨rfl, rfl⟩
             refine Ins_cons ?_
             rintro _ _ ⟨rfl, rfl⟩
             refine Ins_cons ?_
             rintro _ _ ⟨rfl, rfl⟩
             refine Ins_nil <| R_isw (hB b1 [vS p3 y3.Coefs c3, vI y3.Const] :: hB b [vS p2 y.Coefs c2, vI y.Const] :: hf) [(35, .bool false), (37, .bool y6), (39, .bool y7)] ?_
             have hle := Imm.le.refl imm1
             refine R_p 10 [(40, .bool (!(y6 == y7)))] ?_
             rw [hc3]
             exact R_out (hx := []) rfl hle rfl (out_some rfl) ⟨rfl, rfl⟩
           · intro imm1 hf le1
             refine Ins_cons ?_
             rintro _ _ ⟨rfl, rfl⟩
             refine Ins_cons ?_
             rintro _ _ ⟨rfl, rfl⟩
             refine Ins_nil <| R_isw (hB b1 [vS p3 y3.Coefs c3, vI y3.Const] :: hB b [vS p2 y.Coefs c2, vI y.Const] :: hf) [(35, .bool false), (40, .bool true)] ?_
             have hle := Imm.le.refl imm1
             exact R_p 11 [(41, .bool true)] <| R_out (hx := []) rfl hle rfl (out_some rfl) ⟨rfl, rfl⟩
           · intro imm1 hf le1
             refine Ins_cons ?_
             rintro _ _ ⟨rfl, rfl⟩
             refine Ins_nil <| R_isw (hB b1 [vS p3 y3.Coefs c3, vI y3.Const] :: hB b [vS p2 y.Coefs c2, vI y.Const] :: hf) [(41, .bool true)] ?_
             have hle := Imm.le.refl imm1
             exact R_p 12 [(42, .bool true)] <| R_out (hx := []) rfl hle rfl (out_some rfl) ⟨rfl, rfl⟩
         · intro imm09 le8
           refine Ins_cons ?_
           rintro _ _ ⟨rfl, rfl⟩
           refine Ins_nil <| R_isw [hB b1 [vS p3 y3.Coefs c3, vI y3.Const], hB b [vS p2 y.Coefs c2, vI y.Const]] [(1, vS p1 more c1), (56, .bool true)] ?_
           replace h1 := h1.mono le8
           replace h7 := h7.mono le8
           replace h3 := h3.mono le8
           replace hG := hG.mono le8
           replace hle := hle.trans le8
           exact R_end rfl <| T_hs (good_pick [] rfl (by decide)) <| T_w [(1, vS p1 more c1), (56, .bool true)] <| T_cut ⟨_, (pure_some hM04).symm, hle, rfl, rfl⟩
        | false =>
         have hM05 := if_some_false hc3 hM
         obtain ⟨y8, hy6, hM⟩ := bind_some hM05
         cases hc4 : (!(y4 == y8)) with
         | true =>
          have hM06 := if_some_true hc4 hM
          refine J_any [.p (vT y1.l) [], .p (vA [vS p2 y.Coefs c2, vI y.Const]) [1], .q (vT y5.l), .q (.bool false), .q (.bool false), .p (vA [vS p2 y.Coefs c2, vI y.Const]) [1], .q (.bool y6), .p (vA [vS p2 y.Coefs c2, vI y.Const]) [1], .q (.bool y7), .q (.bool false), .q (.bool false), .q (.bool false), .p (.bool y4) [], .p (vA [vS p2 y.Coefs c2, vI y.Const]) [1], .q (.bool y8), .q (.bool true), .q (.bool true), .q (.bool true), .p undef [], .p undef [], .p undef [], .p undef [], .p undef [], .p undef [], .p undef [], .p (.bool true) []] [[], [], [(1, false)], [(0, false), (2, false)], [(3, false)], [(4, false)], [(4, false), (5, false)], [(4, false)], [(4, false), (7, false)], [(4, false), (6, false), (8, false)], [(4, false), (9, false)], [(10, false)], [(11, false)], [(11, false)], [(11, false), (13, false)], [(11, false), (12, false), (14, false)], [(11, false), (15, false)], [(16, false)], [(17, false)], [(17, false), (18, false)], [(19, false)], [(19, false)], [(19, false), (20, false), (21, false)], [(19, false), (22, false)], [(17, false), (19, false), (23, false)], [(17, false), (24, false)]] [hB b1 [vS p3 y3.Coefs c3, vI y3.Const], hB b [vS p2 y.Coefs c2, vI y.Const]] [] [(25, false)] (good_pick [0, 1] rfl (by decide)) ?_ ?_
          · refine Op <| Op <| Oq ?_ <| Oq ?_ <| Oq ?_ <| Op <| Oq ?_ <| Op <| Oq ?_ <| Oq ?_ <| Oq ?_ <| Oq ?_ <| Op <| Op <| Oq ?_ <| Oq ?_ <| Oq ?_ <| Oq ?_ <| Op <| Op <| Op <| Op <| Op <| Op <| Op <| Op <| On
            · intro imm1 hf le1
              refine Ins_cons ?_
              rintro _ _ ⟨rfl, rfl⟩
              refine Ins_nil <| R_isw (hB b1 [vS p3 y3.Coefs c3, vI y3.Const] :: hB b [vS p2 y.Coefs c2, vI y.Const] :: hf) [(32, vA [vS p2 y.Coefs c2, vI y.Const])] ?_
              have hle := Imm.le.refl imm1
              replace h7 := h7.mono le1
              replace h3 := h3.mono le1
              replace hG := hG.mono le1
              refine R_call (hs1 := []) (rest := (hB b1 [vS p3 y3.Coefs c3, vI y3.Const] :: hB b [vS p2 y.Coefs c2, vI y.Const] :: hf)) rfl rfl rfl rfl (by kernel_rfl) rfl rfl (spec_FormatAffine_ok y _ hy3 h3) ?_
              rintro imm05 hs2 v2 k2 le4 - ⟨v06, rfl, rfl, rfl⟩ -
              replace h3 := h3.mono le4
              replace h7 := h7.mono le4
              replace hG := hG.mono le4
              replace hle := hle.trans le4
              exact R_out (hx := []) rfl hle rfl (out_some rfl) ⟨rfl, rfl⟩
            · intro imm1 hf le1
              refine Ins_cons ?_
              rintro _ _ ⟨rfl, rfl⟩
              refine Ins_cons ?_
              rintro _ _ ⟨rfl, rfl⟩
              refine Ins_nil <| R_isw (hB b1 [vS p3 y3.Coefs c3, vI y3.Const] :: hB b [vS p2 y.Coefs c2, vI y.Const] :: hf) [(31, vT y1.l), (33, vT y5.l)] ?_
              have hle := Imm.le.refl imm1
              refine R_p 4 [(34, .bool (!(y1.l == y5.l)))] ?_
              rw [hc2]
              exact R_out (hx := []) rfl hle rfl (out_some rfl) ⟨rfl, rfl⟩
            · intro imm1 hf le1
              refine Ins_cons ?_
              rintro _ _ ⟨rfl, rfl⟩
              refine Ins_nil <| R_isw (hB b1 [vS p3 y3.Coefs c3, vI y3.Const] :: hB b [vS p2 y.Coefs c2, vI y.Const] :: hf) [(34, .bool false)] ?_
              have hle := Imm.le.refl imm1
              exact R_p 5 [(35, .bool false)] <| R_out (hx := []) rfl hle rfl (out_some rfl) ⟨rfl, rfl⟩
            · intro imm1 hf le1
              refine Ins_cons ?_
              rintro _ _ ⟨rfl, rfl⟩
              refine Ins_cons ?_
              rintro _ _ ⟨rfl, rfl⟩
              refine Ins_nil <| R_isw (hB b1 [vS p3 y3.Coefs c3, vI y3.Const] :: hB b [vS p2 y.Coefs c2, vI y.Const] :: hf) [(35, .bool false), (36, vA [vS p2 y.Coefs c2, vI y.Const])] ?_
              have hle := Imm.le.refl imm1
              replace h7 := h7.mono le1
              replace h3 := h3.mono le1
              replace hG := hG.mono le1
              refine R_call (hs1 := []) (rest := (hB b1 [vS p3 y3.Coefs c3, vI y3.Const] :: hB b [vS p2 y.Coefs c2, vI y.Const] :: hf)) rfl rfl rfl rfl (by kernel_rfl) rfl rfl (impl_AffineValid_ok y _ hy4 h3) ?_
              rintro imm07 hs2 v2 k2 le6 - ⟨v07, rfl, rfl, rfl⟩ -
              replace h3 := h3.mono le6
              replace h7 := h7.mono le6
              replace hG := hG.mono le6
              replace hle := hle.trans le6
              exact R_out (hx := []) rfl hle rfl (out_some rfl) ⟨rfl, rfl⟩
            · intro imm1 hf le1
              refine Ins_cons ?_
              rintro _ _ ⟨rfl, rfl⟩
              refine Ins_cons ?_
              rintro _ _ ⟨rfl, rfl⟩
              refine Ins_nil <| R_isw (hB b1 [vS p3 y3.Coefs c3, vI y3.Const] :: hB b [vS p2 y.Coefs c2, vI y.Const] :: hf) [(35, .bool false), (38, vA [vS p2 y.Coefs c2, vI y.Const])] ?_
              have hle := Imm.le.refl imm1
              replace h7 := h7.mono le1
              replace h3 := h3.mono le1
              replace hG := hG.mono le1
              refine R_call (hs1 := []) (rest := (hB b1 [vS p3 y3.Coefs c3, vI y3.Const] :: hB b [vS p2 y.Coefs c2, vI y.Const] :: hf)) rfl rfl rfl rfl (by kernel_rfl) rfl rfl (spec_AffineValid_ok y _ hy5 h3) ?_
              rintro imm08 hs2 v2 k2 le7 - ⟨v08, rfl, rfl, rfl⟩ -
              replace h3 := h3.mono le7
              replace h7 := h7.mono le7
              replace hG := hG.mono le7
              replace hle := hle.trans le7
              exact R_out (hx := []) rfl hle rfl (out_some rfl) ⟨rfl, rfl⟩
            · intro imm1 hf le1
              refine Ins_cons ?_
              rintro _ _ ⟨rfl, rfl⟩
              refine Ins_cons ?_
              rintro _ _ ⟨rfl, rfl⟩
              refine Ins_cons ?_
              rintro _ _ ⟨rfl, rfl⟩
              refine Ins_nil <| R_isw (hB b1 [vS p3 y3.Coefs c3, vI y3.Const] :: hB b [vS p2 y.Coefs c2, vI y.Const] :: hf) [(35, .bool false), (37, .bool y6), (39, .bool y7)] ?_
              have hle := Imm.le.refl imm1
              refine R_p 10 [(40, .bool (!(y6 == y7)))] ?_
              rw [hc3]
              exact R_out (hx := []) rfl hle rfl (out_some rfl) ⟨rfl, rfl⟩
            · intro imm1 hf le1
              refine Ins_cons ?_
              rintro _ _ ⟨rfl, rfl⟩
              refine Ins_cons ?_
              rintro _ _ ⟨rfl, rfl⟩
              refine Ins_nil <| R_isw (hB b1 [vS p3 y3.Coefs c3, vI y3.Const] :: hB b [vS p2 y.Coefs c2, vI y.Const] :: hf) [(35, .bool false), (40, .bool false)] ?_
              have hle := Imm.le.refl imm1
              exact R_p 11 [(41, .bool false)] <| R_out (hx := []) rfl hle rfl (out_some rfl) ⟨rfl, rfl⟩
            · intro imm1 hf le1
              refine Ins_cons ?_
              rintro _ _ ⟨rfl, rfl⟩
              refine Ins_nil <| R_isw (hB b1 [vS p3 y3.Coefs c3, vI y3.Const] :: hB b [vS p2 y.Coefs c2, vI y.Const] :: hf) [(41, .bool false)] ?_
              have hle := Imm.le.refl imm1
              exact R_p 12 [(42, .bool false)] <| R_out (hx := []) rfl hle rfl (out_some rfl) ⟨rfl, rfl⟩
            · intro imm1 hf le1
              refine Ins_cons ?_
              rintro _ _ ⟨rfl, rfl⟩
              refine Ins_cons ?_
              rintro _ _ ⟨rfl, rfl⟩
              refine Ins_nil <| R_isw (hB b1 [vS p3 y3.Coefs c3, vI y3.Const] :: hB b [vS p2 y.Coefs c2, vI y.Const] :: hf) [(42, .bool false), (44, vA [vS p2 y.Coefs c2, vI y.Const])] ?_
              have hle := Imm.le.refl imm1
              replace h7 := h7.mono le1
              replace h3 := h3.mono le1
              replace hG := hG.mono le1
              refine R_call (hs1 := []) (rest := (hB b1 [vS p3 y3.Coefs c3, vI y3.Const] :: hB b [vS p2 y.Coefs c2, vI y.Const] :: hf)) rfl rfl rfl rfl (by kernel_rfl) rfl rfl (spec_AffineValid_ok y _ hy6 h3) ?_
              rintro imm010 hs2 v2 k2 le9 - ⟨v09, rfl, rfl, rfl⟩ -
              replace h3 := h3.mono le9
              replace h7 := h7.mono le9
              replace hG := hG.mono le9
              replace hle := hle.trans le9
              exact R_out (hx := []) rfl hle rfl (out_some rfl) ⟨rfl, rfl⟩
            · intro imm1 hf le1
              refine Ins_cons ?_
              rintro _ _ ⟨rfl, rfl⟩
              refine Ins_cons ?_
              rintro _ _ ⟨rfl, rfl⟩
              refine Ins_cons ?_
              rintro _ _ ⟨rfl, rfl⟩
              refine Ins_nil <| R_isw (hB b1 [vS p3 y3.Coefs c3, vI y3.Const] :: hB b [vS p2 y.Coefs c2, vI y.Const] :: hf) [(42, .bool false), (43, .bool y4), (45, .bool y8)] ?_
              have hle := Imm.le.refl imm1
              refine R_p 16 [(46, .bool (!(y4 == y8)))] ?_
              rw [hc4]
              exact R_out (hx := []) rfl hle rfl (out_some rfl) ⟨rfl, rfl⟩
            · intro imm1 hf le1
              refine Ins_cons ?_
              rintro _ _ ⟨rfl, rfl⟩
              refine Ins_cons ?_
              rintro _ _ ⟨rfl, rfl⟩
              refine Ins_nil <| R_isw (hB b1 [vS p3 y3.Coefs c3, vI y3.Const] :: hB b [vS p2 y.Coefs c2, vI y.Const] :: hf) [(42, .bool false), (46, .bool true)] ?_
              have hle := Imm.le.refl imm1
              exact R_p 17 [(47, .bool true)] <| R_out (hx := []) rfl hle rfl (out_some rfl) ⟨rfl, rfl⟩
            · intro imm1 hf le1
              refine Ins_cons ?_
              rintro _ _ ⟨rfl, rfl⟩
              refine Ins_nil <| R_isw (hB b1 [vS p3 y3.Coefs c3, vI y3.Const] :: hB b [vS p2 y.Coefs c2, vI y.Const] :: hf) [(47, .bool true)] ?_
              have hle := Imm.le.refl imm1
              exact R_p 18 [(48, .bool true)] <| R_out (hx := []) rfl hle rfl (out_some rfl) ⟨rfl, rfl⟩
          · intro imm011 le10
            refine Ins_cons ?_
            rintro _ _ ⟨rfl, rfl⟩
            refine Ins_nil <| R_isw [hB b1 [vS p3 y3.Coefs c3, vI y3.Const], hB b [vS p2 y.Coefs c2, vI y.Const]] [(1, vS p1 more c1), (56, .bool true)] ?_
            replace h1 := h1.mono le10
            replace h7 := h7.mono le10
            replace h3 := h3.mono le10
            replace hG := hG.mono le10
            replace hle := hle.trans le10
            exact R_end rfl <| T_hs (good_pick [] rfl (by decide)) <| T_w [(1, vS p1 more c1), (56, .bool true)] <| T_cut ⟨_, (pure_some hM06).symm, hle, rfl, rfl⟩
         | false =>
          have hM07 := if_some_false hc4 hM
          cases hc5 : y4 with
          | true =>
           have hc6 := hc4
           rw [hc5] at hc6
           have hM08 := if_some_true hc5 hM07
           obtain ⟨y9, hy7, hM⟩ := bind_some hM08
           refine J_any [.p (vT y1.l) [], .p (vA [vS p2 y.Coefs c2, vI y.Const]) [1], .q (vT y5.l), .q (.bool false), .q (.bool false), .p (vA [vS p2 y.Coefs c2, vI y.Const]) [1], .q (.bool y6), .p (vA [vS p2 y.Coefs c2, vI y.Const]) [1], .q (.bool y7), .q (.bool false), .q (.bool false), .q (.bool false), .q (.bool true), .p (vA [vS p2 y.Coefs c2, vI y.Const]) [1], .q (.bool y8), .q (.bool false), .q (.bool false), .q (.bool false), .q (.bool true), .q (.bool true), .p (vA [vS p3 y3.Coefs c3, vI y3.Const]) [0], .p (vA [vS p2 y.Coefs c2, vI y.Const]) [1], .q (.bool y9), .p (.bool (!y9)) [], .p (.bool (!y9)) [], .p (.bool (!y9)) []] [[], [], [(1, false)], [(0, false), (2, false)], [(3, false)], [(4, false)], [(4, false), (5, false)], [(4, false)], [(4, false), (7, false)], [(4, false), (6, false), (8, false)], [(4, false), (9, false)], [(10, false)], [(11, false)], [(11, false)], [(11, false), (13, false)], [(11, false), (12, false), (14, false)], [(11, false), (15, false)], [(16, false)], [(17, false)], [(17, false), (18, false)], [(19, false)], [(19, false)], [(19, false), (20, false), (21, false)], [(19, false), (22, false)], [(17, false), (19, false), (23, false)], [(17, false), (24, false)]] [hB b1 [vS p3 y3.Coefs c3, vI y3.Const], hB b [vS p2 y.Coefs c2, vI y.Const]] [] [(25, false)] (good_pick [0, 1] rfl (by decide)) ?_ ?_
           · refine Op <| Op <| Oq ?_ <| Oq ?_ <| Oq ?_ <| Op <| Oq ?_ <| Op <| Oq ?_ <| Oq ?_ <| Oq ?_ <| Oq ?_ <| Oq ?_ <| Op <| Oq ?_ <| Oq ?_ <| Oq ?_ <| Oq ?_ <| Oq ?_ <| Oq ?_ <| Op <| Op <| Oq ?_ <| Op <| Op <| Op <| On
             · intro imm1 hf le1
               refine Ins_cons ?_
               rintro _ _ ⟨rfl, rfl⟩
               refine Ins_nil <| R_isw (hB b1 [vS p3 y3.Coefs c3, vI y3.Const] :: hB b [vS p2 y.Coefs c2, vI y.Const] :: hf) [(32, vA [vS p2 y.Coefs c2, vI y.Const])] ?_
               have hle := Imm.le.refl imm1
               replace h7 := h7.mono le1
               replace h3 := h3.mono le1
               replace hG := hG.mono le1
               refine R_call (hs1 := []) (rest := (hB b1 [vS p3 y3.Coefs c3, vI y3.Const] :: hB b [vS p2 y.Coefs c2, vI y.Const] :: hf)) rfl rfl rfl rfl (by kernel_rfl) rfl rfl (spec_FormatAffine_ok y _ hy3 h3) ?_
               rintro imm05 hs2 v2 k2 le4 - ⟨v06, rfl, rfl, rfl⟩ -
               replace h3 := h3.mono le4
               replace h7 := h7.mono le4
               replace hG := hG.mono le4
               replace hle := hle.trans le4
               exact R_out (hx := []) rfl hle rfl (out_some rfl) ⟨rfl, rfl⟩
             · intro imm1 hf le1
               refine Ins_cons ?_
               rintro _ _ ⟨rfl, rfl⟩
               refine Ins_cons ?_
               rintro _ _ ⟨rfl, rfl⟩
               refine Ins_nil <| R_isw (hB b1 [vS p3 y3.Coefs c3, vI y3.Const] :: hB b [vS p2 y.Coefs c2, vI y.Const] :: hf) [(31, vT y1.l), (33, vT y5.l)] ?_
               have hle := Imm.le.refl imm1
               refine R_p 4 [(34, .bool (!(y1.l == y5.l)))] ?_
               rw [hc2]
               exact R_out (hx := []) rfl hle rfl (out_some rfl) ⟨rfl, rfl⟩
             · intro imm1 hf le1
               refine Ins_cons ?_
               rintro _ _ ⟨rfl, rfl⟩
               refine Ins_nil <| R_isw (hB b1 [vS p3 y3.Coefs c3, vI y3.Const] :: hB b [vS p2 y.Coefs c2, vI y.Const] :: hf) [(34, .bool false)] ?_
               have hle := Imm.le.refl imm1
               exact R_p 5 [(35, .bool false)] <| R_out (hx := []) rfl hle rfl (out_some rfl) ⟨rfl, rfl⟩
             · intro imm1 hf le1
               refine Ins_cons ?_
               rintro _ _ ⟨rfl, rfl⟩
               refine Ins_cons ?_
               rintro _ _ ⟨rfl, rfl⟩
               refine Ins_nil <| R_isw (hB b1 [vS p3 y3.Coefs c3, vI y3.Const] :: hB b [vS p2 y.Coefs c2, vI y.Const] :: hf) [(35, .bool false), (36, vA [vS p2 y.Coefs c2, vI y.Const])] ?_
               have hle := Imm.le.refl imm1
               replace h7 := h7.mono le1
               replace h3 := h3.mono le1
               replace hG := hG.mono le1
               refine R_call (hs1 := []) (rest := (hB b1 [vS p3 y3.Coefs c3, vI y3.Const] :: hB b [vS p2 y.Coefs c2, vI y.Const] :: hf)) rfl rfl rfl rfl (by kernel_rfl) rfl rfl (impl_AffineValid_ok y _ hy4 h3) ?_
               rintro imm07 hs2 v2 k2 le6 - ⟨v07, rfl, rfl, rfl⟩ -
               replace h3 := h3.mono le6
               replace h7 := h7.mono le6
               replace hG := hG.mono le6
               replace hle := hle.trans le6
               exact R_out (hx := []) rfl hle rfl (out_some rfl) ⟨rfl, rfl⟩
             · intro imm1 hf le1
               refine Ins_cons ?_
               rintro _ _ ⟨rfl, rfl⟩
               refine Ins_cons ?_
               rintro _ _ ⟨rfl, rfl⟩
               refine Ins_nil <| R_isw (hB b1 [vS p3 y3.Coefs c3, vI y3.Const] :: hB b [vS p2 y.Coefs c2, vI y.Const] :: hf) [(35, .bool false), (38, vA [vS p2 y.Coefs c2, vI y.Const])] ?_
               have hle := Imm.le.refl imm1
               replace h7 := h7.mono le1
               replace h3 := h3.mono le1
               replace hG := hG.mono le1
               refine R_call (hs1 := []) (rest := (hB b1 [vS p3 y3.Coefs c3, vI y3.Const] :: hB b [vS p2 y.Coefs c2, vI y.Const] :: hf)) rfl rfl rfl rfl (by kernel_rfl) rfl rfl (spec_AffineValid_ok y _ hy5 h3) ?_
               rintro imm08 hs2 v2 k2 le7 - ⟨v08, rfl, rfl, rfl⟩ -
               replace h3 := h3.mono le7
               replace h7 := h7.mono le7
               replace hG := hG.mono le7
               replace hle := hle.trans le7
               exact R_out (hx := []) rfl hle rfl (out_some rfl) ⟨rfl, rfl⟩
             · intro imm1 hf le1
               refine Ins_cons ?_
               rintro _ _ ⟨rfl, rfl⟩
               refine Ins_cons ?_
               rintro _ _ ⟨rfl, rfl⟩
               refine Ins_cons ?_
               rintro _ _ ⟨rfl, rfl⟩
               refine Ins_nil <| R_isw (hB b1 [vS p3 y3.Coefs c3, vI y3.Const] :: hB b [vS p2 y.Coefs c2, vI y.Const] :: hf) [(35, .bool false), (37, .bool y6), (39, .bool y7)] ?_
               have hle := Imm.le.refl imm1
               refine R_p 10 [(40, .bool (!(y6 == y7)))] ?_
               rw [hc3]
               exact R_out (hx := []) rfl hle rfl (out_some rfl) ⟨rfl, rfl⟩
             · intro imm1 hf le1
               refine Ins_cons ?_
               rintro _ _ ⟨rfl, rfl⟩
               refine Ins_cons ?_
               rintro _ _ ⟨rfl, rfl⟩
               refine Ins_nil <| R_isw (hB b1 [vS p3 y3.Coefs c3, vI y3.Const] :: hB b [vS p2 y.Coefs c2, vI y.Const] :: hf) [(35, .bool false), (40, .bool false)] ?_
               have hle := Imm.le.refl imm1
               exact R_p 11 [(41, .bool false)] <| R_out (hx := []) rfl hle rfl (out_some rfl) ⟨rfl, rfl⟩
             · intro imm1 hf le1
               refine Ins_cons ?_
               rintro _ _ ⟨rfl, rfl⟩
               refine Ins_nil <| R_isw (hB b1 [vS p3 y3.Coefs c3, vI y3.Const] :: hB b [vS p2 y.Coefs c2, vI y.Const] :: hf) [(41, .bool false)] ?_
               have hle := Imm.le.refl imm1
               exact R_p 12 [(42, .bool false)] <| R_out (hx := []) rfl hle rfl (out_some rfl) ⟨rfl, rfl⟩
             · intro imm1 hf le1
               refine Ins_cons ?_
               rintro _ _ ⟨rfl, rfl⟩
               refine Ins_nil <| R_isw (hB b1 [vS p3 y3.Coefs c3, vI y3.Const] :: hB b [vS p2 y.Coefs c2, vI y.Const] :: hf) [(8, .bool true), (42, .bool false)] ?_
               have hle := Imm.le.refl imm1
               exact R_p 13 [(43, .bool true)] <| R_out (hx := []) rfl hle rfl (out_some rfl) ⟨rfl, rfl⟩
             · intro imm1 hf le1
               refine Ins_cons ?_
               rintro _ _ ⟨rfl, rfl⟩
               refine Ins_cons ?_
               rintro _ _ ⟨rfl, rfl⟩
               refine Ins_nil <| R_isw (hB b1 [vS p3 y3.Coefs c3, vI y3.Const] :: hB b [vS p2 y.Coefs c2, vI y.Const] :: hf) [(42, .bool false), (44, vA [vS p2 y.Coefs c2, vI y.Const])] ?_
               have hle := Imm.le.refl imm1
               replace h7 := h7.mono le1
               replace h3 := h3.mono le1
               replace hG := hG.mono le1
               refine R_call (hs1 := []) (rest := (hB b1 [vS p3 y3.Coefs c3, vI y3.Const] :: hB b [vS p2 y.Coefs c2, vI y.Const] :: hf)) rfl rfl rfl rfl (by kernel_rfl) rfl rfl (spec_AffineValid_ok y _ hy6 h3) ?_
               rintro imm010 hs2 v2 k2 le9 - ⟨v09, rfl, rfl, rfl⟩ -
               replace h3 := h3.mono le9
               replace h7 := h7.mono le9
               replace hG := hG.mono le9
               replace hle := hle.trans le9
               exact R_out (hx := []) rfl hle rfl (out_some rfl) ⟨rfl, rfl⟩
             · intro imm1 hf le1
               refine Ins_cons ?_
               rintro _ _ ⟨rfl, rfl⟩
               refine Ins_cons ?_
               rintro _ _ ⟨rfl, rfl⟩
               refine Ins_cons ?_
               rintro _ _ ⟨rfl, rfl⟩
               refine Ins_nil <| R_isw (hB b1 [vS p3 y3.Coefs c3, vI y3.Const] :: hB b [vS p2 y.Coefs c2, vI y.Const] :: hf) [(42, .bool false), (43, .bool true), (45, .bool y8)] ?_
               have hle := Imm.le.refl imm1
               refine R_p 16 [(46, .bool (!(true == y8)))] ?_
               rw [hc6]
               exact R_out (hx := []) rfl hle rfl (out_some rfl) ⟨rfl, rfl⟩
             · intro imm1 hf le1
               refine Ins_cons ?_
               rintro _ _ ⟨rfl, rfl⟩
               refine Ins_cons ?_
               rintro _ _ ⟨rfl, rfl⟩
               refine Ins_nil <| R_isw (hB b1 [vS p3 y3.Coefs c3, vI y3.Const] :: hB b [vS p2 y.Coefs c2, vI y.Const] :: hf) [(42, .bool false), (46, .bool false)] ?_
               have hle := Imm.le.refl imm1
               exact R_p 17 [(47, .bool false)] <| R_out (hx := []) rfl hle rfl (out_some rfl) ⟨rfl, rfl⟩
             · intro imm1 hf le1
               refine Ins_cons ?_
               rintro _ _ ⟨rfl, rfl⟩
               refine Ins_nil <| R_isw (hB b1 [vS p3 y3.Coefs c3, vI y3.Const] :: hB b [vS p2 y.Coefs c2, vI y.Const] :: hf) [(47, .bool false)] ?_
               have hle := Imm.le.refl imm1
               exact R_p 18 [(48, .bool false)] <| R_out (hx := []) rfl hle rfl (out_some rfl) ⟨rfl, rfl⟩
             · intro imm1 hf le1
               refine Ins_cons ?_
               rintro _ _ ⟨rfl, rfl⟩
               refine Ins_nil <| R_isw (hB b1 [vS p3 y3.Coefs c3, vI y3.Const] :: hB b [vS p2 y.Coefs c2, vI y.Const] :: hf) [(8, .bool true), (48, .bool false)] ?_
               have hle := Imm.le.refl imm1
               exact R_p 19 [(49, .bool true)] <| R_out (hx := []) rfl hle rfl (out_some rfl) ⟨rfl, rfl⟩
             · intro imm1 hf le1
               refine Ins_cons ?_
               rintro _ _ ⟨rfl, rfl⟩
               refine Ins_cons ?_
               rintro _ _ ⟨rfl, rfl⟩
               refine Ins_nil <| R_isw (hB b1 [vS p3 y3.Coefs c3, vI y3.Const] :: hB b [vS p2 y.Coefs c2, vI y.Const] :: hf) [(48, .bool false), (49, .bool true)] ?_
               have hle := Imm.le.refl imm1
               exact R_p 20 [(50, .bool true)] <| R_out (hx := []) rfl hle rfl (out_some rfl) ⟨rfl, rfl⟩
             · intro imm1 hf le1
               refine Ins_cons ?_
               rintro _ _ ⟨rfl, rfl⟩
               refine Ins_cons ?_
               rintro _ _ ⟨rfl, rfl⟩
               refine Ins_cons ?_
               rintro _ _ ⟨rfl, rfl⟩
               refine Ins_nil <| R_isw (hB b1 [vS p3 y3.Coefs c3, vI y3.Const] :: hB b [vS p2 y.Coefs c2, vI y.Const] :: hf) [(50, .bool true), (51, vA [vS p3 y3.Coefs c3, vI y3.Const]), (52, vA [vS p2 y.Coefs c2, vI y.Const])] ?_
               have hle := Imm.le.refl imm1
               replace h7 := h7.mono le1
               replace h3 := h3.mono le1
               replace hG := hG.mono le1
               refine R_call (hs1 := []) (rest := (hB b1 [vS p3 y3.Coefs c3, vI y3.Const] :: hB b [vS p2 y.Coefs c2, vI y.Const] :: hf)) rfl rfl rfl rfl (by kernel_rfl) rfl rfl (impl_AffineSame_ok y3 y _ hy7 h7 h3) ?_
               rintro imm012 hs2 v2 k2 le11 - ⟨v010, rfl, rfl, rfl⟩ -
               replace h7 := h7.mono le11
               replace h3 := h3.mono le11
               replace hG := hG.mono le11
               replace hle := hle.trans le11
               exact R_out (hx := []) rfl hle rfl (out_some rfl) ⟨rfl, rfl⟩
           · intro imm013 le12
             refine Ins_cons ?_
             rintro _ _ ⟨rfl, rfl⟩
             refine Ins_nil <| R_isw [hB b1 [vS p3 y3.Coefs c3, vI y3.Const], hB b [vS p2 y.Coefs c2, vI y.Const]] [(1, vS p1 more c1), (56, .bool (!y9))] ?_
             replace h1 := h1.mono le12
             replace h7 := h7.mono le12
             replace h3 := h3.mono le12
             replace hG := hG.mono le12
             replace hle := hle.trans le12
             exact R_end rfl <| T_hs (good_pick [] rfl (by decide)) <| T_w [(1, vS p1 more c1), (56, .bool (!y9))] <| T_cut ⟨_, (pure_some hM).symm, hle, rfl, rfl⟩
          | false =>
           have hc7 := hc4
           rw [hc5] at hc7
           have hM09 := if_some_false hc5 hM07
           refine J_any [.p (vT y1.l) [], .p (vA [vS p2 y.Coefs c2, vI y.Const]) [1], .q (vT y5.l), .q (.bool false), .q (.bool false), .p (vA [vS p2 y.Coefs c2, vI y.Const]) [1], .q (.bool y6), .p (vA [vS p2 y.Coefs c2, vI y.Const]) [1], .q (.bool y7), .q (.bool false), .q (.bool false), .q (.bool false), .q (.bool false), .p (vA [vS p2 y.Coefs c2, vI y.Const]) [1], .q (.bool y8), .q (.bool false), .q (.bool false), .q (.bool false), .q (.bool false), .q (.bool false), .p undef [], .p undef [], .p undef [], .p undef [], .p (.bool false) [], .p (.bool false) []] [[], [], [(1, false)], [(0, false), (2, false)], [(3, false)], [(4, false)], [(4, false), (5, false)], [(4, false)], [(4, false), (7, false)], [(4, false), (6, false), (8, false)], [(4, false), (9, false)], [(10, false)], [(11, false)], [(11, false)], [(11, false), (13, false)], [(11, false), (12, false), (14, false)], [(11, false), (15, false)], [(16, false)], [(17, false)], [(17, false), (18, false)], [(19, false)], [(19, false)], [(19, false), (20, false), (21, false)], [(19, false), (22, false)], [(17, false), (19, false), (23, false)], [(17, false), (24, false)]] [hB b1 [vS p3 y3.Coefs c3, vI y3.Const], hB b [vS p2 y.Coefs c2, vI y.Const]] [] [(25, false)] (good_pick [0, 1] rfl (by decide)) ?_ ?_
           · refine Op <| Op <| Oq ?_ <| Oq ?_ <| Oq ?_ <| Op <| Oq ?_ <| Op <| Oq ?_ <| Oq ?_ <| Oq ?_ <| Oq ?_ <| Oq ?_ <| Op <| Oq ?_ <| Oq ?_ <| Oq ?_ <| Oq ?_ <| Oq ?_ <| Oq ?_ <| Op <| Op <| Op <| Op <| Op <| Op <| On
             · intro imm1 hf le1
               refine Ins_cons ?_
               rintro _ _ ⟨rfl, rfl⟩
               refine Ins_nil <| R_isw (hB b1 [vS p3 y3.Coefs c3, vI y3.Const] :: hB b [vS p2 y.Coefs c2, vI y.Const] :: hf) [(32, vA [vS p2 y.Coefs c2, vI y.Const])] ?_
               have hle := Imm.le.refl imm1
               replace h7 := h7.mono le1
               replace h3 := h3.mono le1
               replace hG := hG.mono le1
               refine R_call (hs1 := []) (rest := (hB b1 [vS p3 y3.Coefs c3, vI y3.Const] :: hB b [vS p2 y.Coefs c2, vI y.Const] :: hf)) rfl rfl rfl rfl (by kernel_rfl) rfl rfl (spec_FormatAffine_ok y _ hy3 h3) ?_
               rintro imm05 hs2 v2 k2 le4 - ⟨v06, rfl, rfl, rfl⟩ -
               replace h3 := h3.mono le4
               replace h7 := h7.mono le4
               replace hG := hG.mono le4
               replace hle := hle.trans le4
               exact R_out (hx := []) rfl hle rfl (out_some rfl) ⟨rfl, rfl⟩
             · intro imm1 hf le1
               refine Ins_cons ?_
               rintro _ _ ⟨rfl, rfl⟩
               refine Ins_cons ?_
               rintro _ _ ⟨rfl, rfl⟩
               refine Ins_nil <| R_isw (hB b1 [vS p3 y3.Coefs c3, vI y3.Const] :: hB b [vS p2 y.Coefs c2, vI y.Const] :: hf) [(31, vT y1.l), (33, vT y5.l)] ?_
               have hle := Imm.le.refl imm1
               refine R_p 4 [(34, .bool (!(y1.l == y5.l)))] ?_
               rw [hc2]
               exact R_out (hx := []) rfl hle rfl (out_some rfl) ⟨rfl, rfl⟩
             · intro imm1 hf le1
               refine Ins_cons ?_
               rintro _ _ ⟨rfl, rfl⟩
               refine Ins_nil <| R_isw (hB b1 [vS p3 y3.Coefs c3, vI y3.Const] :: hB b [vS p2 y.Coefs c2, vI y.Const] :: hf) [(34, .bool false)] ?_
               have hle := Imm.le.refl imm1
               exact R_p 5 [(35, .bool false)] <| R_out (hx := []) rfl hle rfl (out_some rfl) ⟨rfl, rfl⟩
             · intro imm1 hf le1
               refine Ins_cons ?_
               rintro _ _ ⟨rfl, rfl⟩
               refine Ins_cons ?_
               rintro _ _ ⟨rfl, rfl⟩
               refine Ins_nil <| R_isw (hB b1 [vS p3 y3.Coefs c3, vI y3.Const] :: hB b [vS p2 y.Coefs c2, vI y.Const] :: hf) [(35, .bool false), (36, vA [vS p2 y.Coefs c2, vI y.Const])] ?_
               have hle := Imm.le.refl imm1
               replace h7 := h7.mono le1
               replace h3 := h3.mono le1
               replace hG := hG.mono le1
               refine R_call (hs1 := []) (rest := (hB b1 [vS p3 y3.Coefs c3, vI y3.Const] :: hB b [vS p2 y.Coefs c2, vI y.Const] :: hf)) rfl rfl rfl rfl (by kernel_rfl) rfl rfl (impl_AffineValid_ok y _ hy4 h3) ?_
               rintro imm07 hs2 v2 k2 le6 - ⟨v07, rfl, rfl, rfl⟩ -
               replace h3 := h3.mono le6
               replace h7 := h7.mono le6
               replace hG := hG.mono le6
               replace hle := hle.trans le6
               exact R_out (hx := []) rfl hle rfl (out_some rfl) ⟨rfl, rfl⟩
             · intro imm1 hf le1
               refine Ins_cons ?_
               rintro _ _ ⟨rfl, rfl⟩
               refine Ins_cons ?_
               rintro _ _ ⟨rfl, rfl⟩
               refine Ins_nil <| R_isw (hB b1 [vS p3 y3.Coefs c3, vI y3.Const] :: hB b [vS p2 y.Coefs c2, vI y.Const] :: hf) [(35, .bool false), (38, vA [vS p2 y.Coefs c2, vI y.Const])] ?_
               have hle := Imm.le.refl imm1
               replace h7 := h7.mono le1
               replace h3 := h3.mono le1
               replace hG := hG.mono le1
               refine R_call (hs1 := []) (rest := (hB b1 [vS p3 y3.Coefs c3, vI y3.Const] :: hB b [vS p2 y.Coefs c2, vI y.Const] :: hf)) rfl rfl rfl rfl (by kernel_rfl) rfl rfl (spec_AffineValid_ok y _ hy5 h3) ?_
               rintro imm08 hs2 v2 k2 le7 - ⟨v08, rfl, rfl, rfl⟩ -
               replace h3 := h3.mono le7
               replace h7 := h7.mono le7
               replace hG := hG.mono le7
               replace hle := hle.trans le7
               exact R_out (hx := []) rfl hle rfl (out_some rfl) ⟨rfl, rfl⟩
             · intro imm1 hf le1
               refine Ins_cons ?_
               rintro _ _ ⟨rfl, rfl⟩
               refine Ins_cons ?_
               rintro _ _ ⟨rfl, rfl⟩
               refine Ins_cons ?_
               rintro _ _ ⟨rfl, rfl⟩
               refine Ins_nil <| R_isw (hB b1 [vS p3 y3.Coefs c3, vI y3.Const] :: hB b [vS p2 y.Coefs c2, vI y.Const] :: hf) [(35, .bool false), (37, .bool y6), (39, .bool y7)] ?_
               have hle := Imm.le.refl imm1
               refine R_p 10 [(40, .bool (!(y6 == y7)))] ?_
               rw [hc3]
               exact R_out (hx := []) rfl hle rfl (out_some rfl) ⟨rfl, rfl⟩
             · intro imm1 hf le1
               refine Ins_cons ?_
               rintro _ _ ⟨rfl, rfl⟩
               refine Ins_cons ?_
               rintro _ _ ⟨rfl, rfl⟩
               refine Ins_nil <| R_isw (hB b1 [vS p3 y3.Coefs c3, vI y3.Const] :: hB b [vS p2 y.Coefs c2, vI y.Const] :: hf) [(35, .bool false), (40, .bool false)] ?_
               have hle := Imm.le.refl imm1
               exact R_p 11 [(41, .bool false)] <| R_out (hx := []) rfl hle rfl (out_some rfl) ⟨rfl, rfl⟩
             · intro imm1 hf le1
               refine Ins_cons ?_
               rintro _ _ ⟨rfl, rfl⟩
               refine Ins_nil <| R_isw (hB b1 [vS p3 y3.Coefs c3, vI y3.Const] :: hB b [vS p2 y.Coefs c2, vI y.Const] :: hf) [(41, .bool false)] ?_
               have hle := Imm.le.refl imm1
               exact R_p 12 [(42, .bool false)] <| R_out (hx := []) rfl hle rfl (out_some rfl) ⟨rfl, rfl⟩
             · intro imm1 hf le1
               refine Ins_cons ?_
               rintro _ _ ⟨rfl, rfl⟩
               refine Ins_nil <| R_isw (hB b1 [vS p3 y3.Coefs c3, vI y3.Const] :: hB b [vS p2 y.Coefs c2, vI y.Const] :: hf) [(8, .bool false), (42, .bool false)] ?_
               have hle := Imm.le.refl imm1
               exact R_p 13 [(43, .bool false)] <| R_out (hx := []) rfl hle rfl (out_some rfl) ⟨rfl, rfl⟩
             · intro imm1 hf le1
               refine Ins_cons ?_
               rintro _ _ ⟨rfl, rfl⟩
               refine Ins_cons ?_
               rintro _ _ ⟨rfl, rfl⟩
               refine Ins_nil <| R_isw (hB b1 [vS p3 y3.Coefs c3, vI y3.Const] :: hB b [vS p2 y.Coefs c2, vI y.Const] :: hf) [(42, .bool false), (44, vA [vS p2 y.Coefs c2, vI y.Const])] ?_
               have hle := Imm.le.refl imm1
               replace h7 := h7.mono le1
               replace h3 := h3.mono le1
               replace hG := hG.mono le1
               refine R_call (hs1 := []) (rest := (hB b1 [vS p3 y3.Coefs c3, vI y3.Const] :: hB b [vS p2 y.Coefs c2, vI y.Const] :: hf)) rfl rfl rfl rfl (by kernel_rfl) rfl rfl (spec_AffineValid_ok y _ hy6 h3) ?_
               rintro imm010 hs2 v2 k2 le9 - ⟨v09, rfl, rfl, rfl⟩ -
               replace h3 := h3.mono le9
               replace h7 := h7.mono le9
               replace hG := hG.mono le9
               replace hle := hle.trans le9
               exact R_out (hx := []) rfl hle rfl (out_some rfl) ⟨rfl, rfl⟩
             · intro imm1 hf le1
               refine Ins_cons ?_
               rintro _ _ ⟨rfl, rfl⟩
               refine Ins_cons ?_
               rintro _ _ ⟨rfl, rfl⟩
               refine Ins_cons ?_
               rintro _ _ ⟨rfl, rfl⟩
               refine Ins_nil <| R_isw (hB b1 [vS p3 y3.Coefs c3, vI y3.Const] :: hB b [vS p2 y.Coefs c2, vI y.Const] :: hf) [(42, .bool false), (43, .bool false), (45, .bool y8)] ?_
               have hle := Imm.le.refl imm1
               refine R_p 16 [(46, .bool (!(false == y8)))] ?_
               rw [hc7]
               exact R_out (hx := []) rfl hle rfl (out_some rfl) ⟨rfl, rfl⟩
             · intro imm1 hf le1
               refine Ins_cons ?_
               rintro _ _ ⟨rfl, rfl⟩
               refine Ins_cons ?_
               rintro _ _ ⟨rfl, rfl⟩
               refine Ins_nil <| R_isw (hB b1 [vS p3 y3.Coefs c3, vI y3.Const] :: hB b [vS p2 y.Coefs c2, vI y.Const] :: hf) [(42, .bool false), (46, .bool false)] ?_
               have hle := Imm.le.refl imm1
               exact R_p 17 [(47, .bool false)] <| R_out (hx := []) rfl hle rfl (out_some rfl) ⟨rfl, rfl⟩
             · intro imm1 hf le1
               refine Ins_cons ?_
               rintro _ _ ⟨rfl, rfl⟩
               refine Ins_nil <| R_isw (hB b1 [vS p3 y3.Coefs c3, vI y3.Const] :: hB b [vS p2 y.Coefs c2, vI y.Const] :: hf) [(47, .bool false)] ?_
               have hle := Imm.le.refl imm1
               exact R_p 18 [(48, .bool false)] <| R_out (hx := []) rfl hle rfl (out_some rfl) ⟨rfl, rfl⟩
             · intro imm1 hf le1
               refine Ins_cons ?_
               rintro _ _ ⟨rfl, rfl⟩
               refine Ins_nil <| R_isw (hB b1 [vS p3 y3.Coefs c3, vI y3.Const] :: hB b [vS p2 y.Coefs c2, vI y.Const] :: hf) [(8, .bool false), (48, .bool false)] ?_
               have hle := Imm.le.refl imm1
               exact R_p 19 [(49, .bool false)] <| R_out (hx := []) rfl hle rfl (out_some rfl) ⟨rfl, rfl⟩
             · intro imm1 hf le1
               refine Ins_cons ?_
               rintro _ _ ⟨rfl, rfl⟩
               refine Ins_cons ?_
               rintro _ _ ⟨rfl, rfl⟩
               refine Ins_nil <| R_isw (hB b1 [vS p3 y3.Coefs c3, vI y3.Const] :: hB b [vS p2 y.Coefs c2, vI y.Const] :: hf) [(48, .bool false), (49, .bool false)] ?_
               have hle := Imm.le.refl imm1
               exact R_p 20 [(50, .bool false)] <| R_out (hx := []) rfl hle rfl (out_some rfl) ⟨rfl, rfl⟩
           · intro imm014 le13
             refine Ins_cons ?_
             rintro _ _ ⟨rfl, rfl⟩
             refine Ins_nil <| R_isw [hB b1 [vS p3 y3.Coefs c3, vI y3.Const], hB b [vS p2 y.Coefs c2, vI y.Const]] [(1, vS p1 more c1), (56, .bool false)] ?_
             replace h1 := h1.mono le13
             replace h7 := h7.mono le13
             replace h3 := h3.mono le13
             replace hG := hG.mono le13
             replace hle := hle.trans le13
             exact R_end rfl <| T_hs (good_pick [] rfl (by decide)) <| T_w [(1, vS p1 more c1), (56, .bool false)] <| T_cut ⟨_, (pure_some hM09).symm, hle, rfl, rfl⟩
     · rintro imm04 hs2 m2 ⟨t56, heq1, le14, rfl, rfl⟩
       subst o01
       replace h1 := h1.mono le14
       replace hG := hG.mono le14
       replace hle := hle.trans le14
       refine T_seq <| J_cd hMc1 ?_ ?_
       · intro hc8 hM
         refine J_seq <| J_region <| R_z [] [(4, .bool false)] <| T_seq <| J_ret <| T_then_ret ?_
         obtain rfl := pure_some hM
         exact T_RS ⟨_, _, (.tmp rfl ResV.nil), good_none, ⟨_, rfl, rfl, rfl⟩⟩
       · intro hc8 hM
         refine J_skip <| T_seq <| J_seq <| J_region <| R_d 1 [] [(57, vS p1 more c1)] ?_
         obtain ⟨y10, hy8, hM⟩ := bind_some hM
         refine R_call (hs1 := []) (rest := []) rfl rfl rfl rfl (by kernel_rfl) rfl rfl (spec_DrawParseAffine_ok more _ hy8 h1) ?_
         rintro imm015 hs2 v2 k2 le15 - ⟨v011, rfl, rfl, rfl⟩ -
         replace hG := hG.mono le15
         replace hle := hle.trans le15
         refine R_z [] [(9, vT y10.l)] <| T_seq <| J_seq <| J_region <| R_d 1 [] [(60, vT y10.l)] ?_
         obtain ⟨⟨y12, y13⟩, hy9, hM⟩ := bind_some hM
         refine R_call (hs1 := []) (rest := []) rfl rfl rfl rfl (by kernel_rfl) rfl rfl (impl_ParseAffine_ok y10 _ hy9 hG) ?_
         rintro imm016 hs2 v2 k2 le16 - ⟨v012, v013, rfl, rfl, ⟨cs2, rfl, h14⟩, rfl⟩ -
         replace hG := hG.mono le16
         replace hle := hle.trans le16
         obtain ⟨v014, rfl, h16⟩ := impl_Affine_open h14
         obtain ⟨p4, c4, rfl⟩ := h16.form
         refine R_d 5 [] [(62, vA [vS p4 y12.Coefs c4, vI y12.Const]), (63, .bool y13)] <| R_alloc (c := ⟨[.slice none 0 0, vI 0]⟩) rfl rfl rfl (by kernel_rfl) ?_
         intro b2 hb2
         refine R_sb 0 [vS p4 y12.Coefs c4, vI y12.Const] [hB b2 [vS p4 y12.Coefs c4, vI y12.Const]] rfl rfl rfl rfl <| R_z [] [(11, .bool y13)] <| T_seq <| J_seq <| J_region <| R_d 1 [] [(65, vT y10.l)] ?_
         obtain ⟨⟨y15, y16⟩, hy10, hM⟩ := bind_some hM
         refine R_call (hs1 := []) (rest := [hB b2 [vS p4 y12.Coefs c4, vI y12.Const]]) rfl rfl rfl rfl (by kernel_rfl) rfl rfl (spec_ParseAffine_ok y10 _ hy10 ) ?_
         rintro imm017 hs2 v2 k2 le17 - ⟨v015, v016, rfl, rfl, ⟨cs3, rfl, h17⟩, rfl⟩ -
         replace h16 := h16.mono le17
         replace hG := hG.mono le17
         replace hle := hle.trans le17
         obtain ⟨v017, rfl, h19⟩ := impl_Affine_open h17
         obtain ⟨p5, c5, rfl⟩ := h19.form
         refine R_d 5 [] [(67, vA [vS p5 y15.Coefs c5, vI y15.Const]), (68, .bool y16)] <| R_alloc (c := ⟨[.slice none 0 0, vI 0]⟩) rfl rfl rfl (by kernel_rfl) ?_
         intro b3 hb3
         refine R_sb 0 [vS p5 y15.Coefs c5, vI y15.Const] [hB b3 [vS p5 y15.Coefs c5, vI y15.Const], hB b2 [vS p4 y12.Coefs c4, vI y12.Const]] rfl rfl rfl rfl <| R_z [] [(13, .bool y16)] <| T_seq <| J_seq ?_
         obtain ⟨o02, ho02, hMc2⟩ := bind_some hM
         refine J_cut (fun imm' hs' m' => ∃ (t4 : Bool), o02 = t4 ∧ imm017.le imm' ∧ hs' = [] ∧ m' = [(4, .bool t4)]) ?_ ?_
         · have hle02 := hle
           have hle : imm017.le imm017 := Imm.le.refl _
           refine J_region <| R_d 4 [] [(72, .bool (y13 == y16))] ?_
           cases hc9 : (y13 == y16) with
           | true =>
            have hM010 := if_some_true hc9 ho02
            try rw [hc9]
            refine R_d 6 [1, 0] [(73, vA [vS p4 y12.Coefs c4, vI y12.Const]), (74, vA [vS p5 y15.Coefs c5, vI y15.Const])] ?_
            obtain ⟨y17, hy11, hM⟩ := bind_some hM010
            refine R_call (hs1 := []) (rest := [hB b3 [vS p5 y15.Coefs c5, vI y15.Const], hB b2 [vS p4 y12.Coefs c4, vI y12.Const]]) rfl rfl rfl rfl (by kernel_rfl) rfl rfl (impl_AffineSame_ok y12 y15 _ hy11 h16 h19) ?_
            rintro imm019 hs2 v2 k2 le18 - ⟨v018, rfl, rfl, rfl⟩ -
            replace h19 := h19.mono le18
            replace h16 := h16.mono le18
            replace hG := hG.mono le18
            replace hle := hle.trans le18
            refine R_d 9 [] [(77, .bool y17)] ?_
            cases hc10 : y17 with
            | true =>
             have hM011 := if_some_true hc10 hM
             try rw [hc10]
             refine R_d 12 [] [(80, .bool (!y13))] ?_
             cases hc11 : (!y13) with
             | true =>
              have hM012 := if_some_true hc11 hM011
              try rw [hc11]
              exact R_z [] [(4, .bool true)] <| T_hs (good_pick [] rfl (by decide)) <| T_w [(4, .bool true)] <| T_cut ⟨_, (pure_some hM012).symm, hle, rfl, rfl⟩
             | false =>
              have hM013 := if_some_false hc11 hM011
              try rw [hc11]
              refine R_d 13 [1] [(81, vA [vS p4 y12.Coefs c4, vI y12.Const])] ?_
              obtain ⟨y18, hy12, hM⟩ := bind_some hM013
              refine R_call (hs1 := []) (rest := [hB b3 [vS p5 y15.Coefs c5, vI y15.Const], hB b2 [vS p4 y12.Coefs c4, vI y12.Const]]) rfl rfl rfl rfl (by kernel_rfl) rfl rfl (impl_FormatAffine_ok y12 _ hy12 h16 hG) ?_
              rintro imm020 hs2 v2 k2 le19 - ⟨v019, rfl, rfl, rfl⟩ -
              replace h19 := h19.mono le19
              replace h16 := h16.mono le19
              replace hG := hG.mono le19
              replace hle := hle.trans le19
              exact R_z [] [(4, .bool (y18.l == y10.l))] <| T_hs (good_pick [] rfl (by decide)) <| T_w [(4, .bool (y18.l == y10.l))] <| T_cut ⟨_, (pure_some hM).symm, hle, rfl, rfl⟩
            | false =>
             have hM014 := if_some_false hc10 hM
             try rw [hc10]
             exact R_z [] [(4, .bool false)] <| T_hs (good_pick [] rfl (by decide)) <| T_w [(4, .bool false)] <| T_cut ⟨_, (pure_some hM014).symm, hle, rfl, rfl⟩
           | false =>
            have hM015 := if_some_false hc9 ho02
            try rw [hc9]
            exact R_z [] [(4, .bool false)] <| T_hs (good_pick [] rfl (by decide)) <| T_w [(4, .bool false)] <| T_cut ⟨_, (pure_some hM015).symm, hle, rfl, rfl⟩
         · rintro imm018 hs2 m2 ⟨t4, heq2, le20, rfl, rfl⟩
           subst o02
           replace hG := hG.mono le20
           replace hle := hle.trans le20
           refine T_seq <| J_ret ?_
           obtain rfl := pure_some hMc2
           exact T_RS ⟨_, _, (.tmp rfl ResV.nil), good_none, ⟨_, rfl, rfl, rfl⟩⟩
end Go.LN
