/- Helper of the proof (see the last text). -/
import Derived.Test.YtbgdegfnaofkfaaGB2
namespace Go.LN
set_option linter.unusedVariables false
set_option linter.unusedSimpArgs false
open Go.Proofs
set_option maxRecDepth 20000
def spec_l4Line_post (r : impl_Program) : Nat → Imm → List HA → Value → Prop := fun kk imm' hs' v =>
  ∃ (a0 : Option Addr) (c0 : Nat) (s0 : List Value) (a1 : Option Addr) (c1 : Nat) (s1 : List Value) (raws : List Raw2) (vN vB : Value) (nl : List impl_Loop) (bl : List impl_Stmt) (csN csB : List Value),
    hs' = [hO impl_Array (vS a0 r.Arrays c0) s0, hO Raw2 (vS a1 raws c1) s1, hO impl_Loop vN csN, hO impl_Stmt vB csB] ∧ v = tupV [vA [vS a0 r.Arrays c0, vS a1 raws c1]] ∧ L4 imm' s0 r.Arrays s1 raws r.Parts vN nl vB bl csN csB
def M.spec_l4Line (p : impl_Program) (line : Str) : Option (impl_Program) := do
 let y ← M.spec_l16Words line
 let t17 ← (do
   if (decide ((y.length : Int) > 0)) then
    let x ← idx y 0
    pure (x.l == ([97, 114, 114, 97, 121] : List UInt8))
   else
    pure false
     : Option Bool)
 if t17 then
  let y1 ← M.spec_l4Array y
  let l ← app 40 p.Arrays ([y1] : List impl_Array)
  pure (impl_Program.mk l p.Parts)
 else
  if (line.l == ([112, 97, 114, 116] : List UInt8)) then
   let l1 ← app 48 p.Parts ([(impl_Part.mk ([] : List impl_Loop) ([] : List impl_Stmt))] : List impl_Part)
   pure (impl_Program.mk p.Arrays l1)
  else
   let t43 ← (do
     if (decide ((W ((p.Parts.length : Int) - 1)) ≥ 0)) then
      if (decide ((y.length : Int) > 0)) then
       let x1 ← idx y 0
       pure (x1.l == ([102, 111, 114] : List UInt8))
      else
       pure false
     else
      pure false
       : Option Bool)
   if t43 then
    let x2 ← idx p.Parts (W ((p.Parts.length : Int) - 1))
    let y2 ← M.spec_l2Line line
    let l2 ← app 48 x2.Nest ([y2] : List impl_Loop)
    pure (impl_Program.mk p.Arrays (p.Parts.set (W ((p.Parts.length : Int) - 1)).toNat (impl_Part.mk l2 x2.Body)))
   else
    if (decide ((W ((p.Parts.length : Int) - 1)) ≥ 0)) then
     let x4 ← idx p.Parts (W ((p.Parts.length : Int) - 1))
     let (y4, y5) ← M.spec_ParseStmt line
     let l3 ← app 152 x4.Body ([y4] : List impl_Stmt)
     pure (impl_Program.mk p.Arrays (p.Parts.set (W ((p.Parts.length : Int) - 1)).toNat (impl_Part.mk x4.Nest l3)))
    else
     pure (id p)
theorem spec_l4Line_ok : ∀ (p : impl_Program) (line : Str) r, M.spec_l4Line p line = some r → ∀ {imm : Imm} {p1 : Option Addr} {c : Nat} {cs : List Value} {p2 : Option Addr} {c1 : Nat} {cs1 : List Value} {raws : List Raw2} {vN vB : Value} {nl : List impl_Loop} {bl : List impl_Stmt} {csN csB : List Value},
    L4 imm cs p.Arrays cs1 raws p.Parts vN nl vB bl csN csB → Ret Try.prog 45 [vA [vS p1 p.Arrays c, vS p2 raws c1], vT line.l] imm [hO impl_Array (vS p1 p.Arrays c) cs, hO Raw2 (vS p2 raws c1) cs1, hO impl_Loop vN csN, hO impl_Stmt vB csB] (spec_l4Line_post r) := by
 intro p line r hM imm p1 c cs p2 c1 cs1 raws vN vB nl bl csN csB hQ
 unfold M.spec_l4Line at hM
 simp only [hQ.lp.len] at hM
 refine ret_of_J (fn := Try.f45) (c := (bodyOf Try.f45)) Try.func45 rfl rfl ?_
 rintro B - -
 refine J_seq <| J_region <| R_box (c := ⟨[vS p1 p.Arrays c, vS p2 raws c1]⟩) rfl rfl rfl rfl rfl ?_
 intro b hb
 refine R_alloc (c := ⟨[.slice none 0 0, .slice none 0 0]⟩) rfl rfl rfl (by kernel_rfl) ?_
 intro b1 hb1
 refine R_end rfl <| T_seq <| J_seq <| J_region <| R_d 1 [] [(11, vT line.l)] ?_
 obtain ⟨y, hy, hM⟩ := bind_some hM
 refine R_call (hs1 := []) (rest := [hB b1 [.slice none 0 0, .slice none 0 0], hB b [vS p1 p.Arrays c, vS p2 raws c1], hO impl_Array (vS p1 p.Arrays c) cs, hO Raw2 (vS p2 raws c1) cs1, hO impl_Loop vN csN, hO impl_Stmt vB csB]) rfl rfl rfl rfl (by kernel_rfl) rfl rfl (spec_l16Words_ok line _ hy ) ?_
 rintro imm0 hs2 v2 k2 le - ⟨v0, rfl, rfl, h2⟩ -
 replace hQ := hQ.mono le
 obtain ⟨p3, c2, rfl⟩ := h2.form
 refine R_z [] [(5, vS p3 y c2)] <| T_seq <| J_seq <| J_region <| R_z [1] [(6, vI (W ((raws.length : Int) - 1)))] <| T_seq <| J_seq <| J_block <| J_seq ?_
 obtain ⟨o0, ho0, hM⟩ := bind_some hM
 refine J_cut (fun imm' hs' m' => ∃ (t17 : Bool), o0 = t17 ∧ imm0.le imm' ∧ hs' = [hB b1 [.slice none 0 0, .slice none 0 0], hB b [vS p1 p.Arrays c, vS p2 raws c1], hO impl_Array (vS p1 p.Arrays c) cs, hO Raw2 (vS p2 raws c1) cs1, hO impl_Loop vN csN, hO impl_Stmt vB csB] ∧ m' = [(1, vT line.l), (2, vP b 0), (4, vP b1 0), (5, vS p3 y c2), (6, vI (W ((raws.length : Int) - 1))), (17, .bool t17)]) ?_ ?_
 · refine J_region <| R_d 4 [] [(21, .bool (decide ((y.length : Int) > 0)))] ?_
   cases hc : (decide ((y.length : Int) > 0)) with
   | true =>
    have hM0 := if_some_true hc ho0
    refine R_d 5 [] [(22, vS p3 y c2)] ?_
    obtain ⟨x, hy1, hM⟩ := bind_some hM0
    refine R_ix rfl rfl h2 hy1 ?_
    intro ad ccs hat hrep
    obtain rfl := hrep
    exact R_la 0 hat [vT x.l] (vT x.l) rfl <| R_z [] [(17, .bool (x.l == ([97, 114, 114, 97, 121] : List UInt8)))] <| T_w [(1, vT line.l), (2, vP b 0), (4, vP b1 0), (5, vS p3 y c2), (6, vI (W ((raws.length : Int) - 1))), (17, .bool (x.l == ([97, 114, 114, 97, 121] : List UInt8)))] <| T_cut ⟨_, (pure_some hM).symm, Imm.le.refl _, rfl, rfl⟩
   | false =>
    have hM01 := if_some_false hc ho0
    exact R_z [] [(17, .bool false)] <| T_w [(1, vT line.l), (2, vP b 0), (4, vP b1 0), (5, vS p3 y c2), (6, vI (W ((raws.length : Int) - 1))), (17, .bool false)] <| T_cut ⟨_, (pure_some hM01).symm, Imm.le.refl _, rfl, rfl⟩
 · rintro imm01 hs2 m2 ⟨t17, heq, le1, rfl, rfl⟩
   subst o0
   replace h2 := h2.mono le1
   replace hQ := hQ.mono le1
   refine T_seq <| J_cd hM ?_ ?_
   · intro hc1 hM
     obtain ⟨y1, hy2, hM⟩ := bind_some hM
     obtain ⟨l, hy3, hM⟩ := bind_some hM
     refine J_any [.p (vP b 0) [], .p (vS p1 p.Arrays c) [1], .p (vS p3 y c2) [], .x (fun imm' v hx => ∃ (p4 : Option Addr) (c3 : Nat), v = vA [vT y1.Name.l, vS p4 y1.Dims c3] ∧ hx = [] ∧ (SL imm' (vS p4 y1.Dims c3) y1.Dims)), .x (fun imm' v hx => ∃ (b2 : Nat), v = vS (some ⟨b2, 0, none⟩) ([y1] : List impl_Array) 1 ∧ hx = [] ∧ (SL imm' (vS (some ⟨b2, 0, none⟩) ([y1] : List impl_Array) 1) ([y1] : List impl_Array))), .x (fun imm' v hx => ∃ (p5 : Option Addr) (c4 : Nat) (cs3 : List Value), v = vS p5 l c4 ∧ hx = [hO impl_Array (vS p5 l c4) cs3] ∧ (RL imm' cs3 l))] [[], [(0, false)], [], [(2, false)], [(3, false)], [(1, false), (4, false), (8, true)]] [hB b1 [.slice none 0 0, .slice none 0 0], hB b [vS p1 p.Arrays c, vS p2 raws c1], hO Raw2 (vS p2 raws c1) cs1, hO impl_Loop vN csN, hO impl_Stmt vB csB] [[hO impl_Array (vS p1 p.Arrays c) cs]] [(5, true)] (good_pick [0, 1, 3, 4, 5, 2] rfl (by decide)) ?_ ?_
     · refine Op <| Op <| Op <| Ox ?_ <| Ox ?_ <| Ox ?_ <| On
       · intro imm1 hf le1
         refine Ins_cons ?_
         rintro _ _ ⟨rfl, rfl⟩
         refine Ins_nil <| R_isw (hB b1 [.slice none 0 0, .slice none 0 0] :: hB b [vS p1 p.Arrays c, vS p2 raws c1] :: hO Raw2 (vS p2 raws c1) cs1 :: hO impl_Loop vN csN :: hO impl_Stmt vB csB :: hf) [(29, vS p3 y c2)] <| R_call (hs1 := []) (rest := (hB b1 [.slice none 0 0, .slice none 0 0] :: hB b [vS p1 p.Arrays c, vS p2 raws c1] :: hO Raw2 (vS p2 raws c1) cs1 :: hO impl_Loop vN csN :: hO impl_Stmt vB csB :: hf)) rfl rfl rfl rfl (by kernel_rfl) rfl rfl (spec_l4Array_ok y _ hy2 (h2.mono le1)) ?_
         rintro imm02 hs2 v2 k2 le2 - ⟨v01, rfl, rfl, ⟨cs2, rfl, h3⟩⟩ -
         obtain ⟨v02, rfl, h4⟩ := impl_Array_open h3
         obtain ⟨p4, c3, rfl⟩ := h4.form
         exact R_out (hx := []) rfl le2 rfl (out_some rfl) ⟨_, _, rfl, rfl, h4⟩
       · intro imm1 hf le1
         refine Ins_cons ?_
         rintro _ _ ⟨p4, c3, rfl, rfl, h4⟩
         refine Ins_nil <| R_isw (hB b1 [.slice none 0 0, .slice none 0 0] :: hB b [vS p1 p.Arrays c, vS p2 raws c1] :: hO Raw2 (vS p2 raws c1) cs1 :: hO impl_Loop vN csN :: hO impl_Stmt vB csB :: hf) [(30, vA [vT y1.Name.l, vS p4 y1.Dims c3])] <| R_buildSlice (cs := [vT y1.Name.l, vS p4 y1.Dims c3]) (Rp.sz impl_Array) rfl rfl rfl rfl (by kernel_rfl) (by kernel_rfl) ?_
         intro b2 hb2
         have h5 : RL imm1 [vT y1.Name.l, vS p4 y1.Dims c3] ([y1] : List impl_Array) := ⟨[vT y1.Name.l, vS p4 y1.Dims c3], _, rfl, rfl, (impl_Array_shut ⟨_, rfl, h4⟩), rfl⟩
         refine R_freeze 0 rfl ?_
         intro imm03 le3 hl0
         exact R_out (hx := []) rfl le3 rfl (out_some rfl) ⟨_, rfl, rfl, SL.of_frozen hl0 le3 h5⟩
       · intro imm1 hf le1
         refine Ins_cons ?_
         rintro _ _ ⟨rfl, rfl⟩
         refine Ins_cons ?_
         rintro _ _ ⟨b2, rfl, rfl, h6⟩
         refine Ins_cons ?_
         rintro _ _ rfl
         refine Ins_nil <| R_isw (hO impl_Array (vS p1 p.Arrays c) cs :: hB b1 [.slice none 0 0, .slice none 0 0] :: hB b [vS p1 p.Arrays c, vS p2 raws c1] :: hO Raw2 (vS p2 raws c1) cs1 :: hO impl_Loop vN csN :: hO impl_Stmt vB csB :: hf) [(28, vS p1 p.Arrays c), (31, vS (some ⟨b2, 0, none⟩) ([y1] : List impl_Array) 1)] ?_
         obtain ⟨ccs1, k0, k01⟩ := h6
         refine R_ap 89 2 0 rfl rfl rfl (hQ.mono le1).arr (.inl k0) k01 hy3 ?_
         intro p5 c4 cs3 h7
         exact R_hseq (hs' := (hO impl_Array (vS p5 l c4) cs3 :: (hB b1 [.slice none 0 0, .slice none 0 0] :: hB b [vS p1 p.Arrays c, vS p2 raws c1] :: hO Raw2 (vS p2 raws c1) cs1 :: hO impl_Loop vN csN :: hO impl_Stmt vB csB :: hf))) rfl <| R_out (hx := [hO impl_Array (vS p5 l c4) cs3]) rfl (Imm.le.refl _) rfl (out_some rfl) ⟨_, _, _, rfl, rfl, h7⟩
     · intro imm04 le4
       refine Ins_cons ?_
       rintro _ _ ⟨p5, c4, cs3, rfl, rfl, h7⟩
       refine Ins_nil <| R_isw (hO impl_Array (vS p5 l c4) cs3 :: [hB b1 [.slice none 0 0, .slice none 0 0], hB b [vS p1 p.Arrays c, vS p2 raws c1], hO Raw2 (vS p2 raws c1) cs1, hO impl_Loop vN csN, hO impl_Stmt vB csB]) [(2, vP b 0), (4, vP b1 0), (32, vS p5 l c4)] ?_
       replace hQ := hQ.mono le4
       refine R_d 7 [] [(33, vP b 0)] <| R_sb 2 [vS p5 l c4, vS p2 raws c1] [hO impl_Array (vS p5 l c4) cs3, hB b1 [.slice none 0 0, .slice none 0 0], hB b [vS p5 l c4, vS p2 raws c1], hO Raw2 (vS p2 raws c1) cs1, hO impl_Loop vN csN, hO impl_Stmt vB csB] rfl rfl rfl rfl <| R_end rfl <| T_block_normal <| T_seq <| J_seq <| J_region <| R_d 1 [2] [(98, vA [vS p5 l c4, vS p2 raws c1])] <| R_sb 1 [vS p5 l c4, vS p2 raws c1] [hO impl_Array (vS p5 l c4) cs3, hB b1 [vS p5 l c4, vS p2 raws c1], hB b [vS p5 l c4, vS p2 raws c1], hO Raw2 (vS p2 raws c1) cs1, hO impl_Loop vN csN, hO impl_Stmt vB csB] rfl rfl rfl rfl <| R_end rfl <| T_seq <| J_ret ?_
       obtain rfl := pure_some hM
       exact T_RS ⟨_, _, (.cell 1 rfl rfl (by kernel_rfl) ResV.nil), (good_pick [0, 3, 4, 5] rfl (by decide)), ⟨_, _, _, _, _, _, _, _, _, _, _, _, _, rfl, rfl, ⟨h7, hQ.raw, hQ.lp, hQ.n, hQ.b⟩⟩⟩
   · intro hc1 hM
     refine J_seq <| J_region <| R_z [] [(34, .bool (line.l == ([112, 97, 114, 116] : List UInt8)))] <| T_seq <| J_cd hM ?_ ?_
     · intro hc2 hM
       refine J_freeze 4 rfl ?_
       intro imm05 le5 hl5
       have kN := SL.of_frozen hl5 le5 hQ.n
       replace hQ := hQ.mono le5
       refine J_freeze 4 rfl ?_
       intro imm06 le6 hl6
       have kB := SL.of_frozen hl6 le6 hQ.b
       replace kN := kN.mono le6
       replace hQ := hQ.mono le6
       obtain ⟨l1, hy4, hM⟩ := bind_some hM
       have hy5 := app_raw (l' := raws) (m' := [(⟨.slice none 0 0, .slice none 0 0⟩ : Raw2)]) hy4 hQ.lp.2.1 rfl
       have hLP := hQ.lp.part kN kB hy4
       refine J_region <| R_hseq (hs' := [hB b1 [.slice none 0 0, .slice none 0 0], hB b [vS p1 p.Arrays c, vS p2 raws c1], hO impl_Array (vS p1 p.Arrays c) cs, hO Raw2 (vS p2 raws c1) cs1]) rfl <| R_d 3 [1] [(38, vS p2 raws c1), (39, vA [.slice none 0 0, .slice none 0 0])] <| R_buildSlice (cs := [.slice none 0 0, .slice none 0 0]) (Rp.sz Raw2) rfl rfl rfl rfl (by kernel_rfl) (by kernel_rfl) ?_
       intro b3 hb3
       have h8 : RL imm06 [.slice none 0 0, .slice none 0 0] [(⟨.slice none 0 0, .slice none 0 0⟩ : Raw2)] := ⟨[.slice none 0 0, .slice none 0 0], [], rfl, rfl, ⟨rfl, rfl, rfl⟩, rfl⟩
       refine R_ap 66 2 4 rfl rfl rfl hQ.raw (.inr ⟨0, rfl⟩) h8 hy5 ?_
       intro p6 c5 cs4 h9
       refine R_hs (good_pick [1, 2, 3, 4] (hs' := [hB b1 [.slice none 0 0, .slice none 0 0], hB b [vS p1 p.Arrays c, vS p2 raws c1], hO impl_Array (vS p1 p.Arrays c) cs, hO Raw2 (vS p6 (raws ++ [(⟨.slice none 0 0, .slice none 0 0⟩ : Raw2)]) c5) cs4]) rfl (by decide)) <| R_d 6 [] [(42, vP b 1)] <| R_sb 1 [vS p1 p.Arrays c, vS p6 (raws ++ [(⟨.slice none 0 0, .slice none 0 0⟩ : Raw2)]) c5] [hB b1 [.slice none 0 0, .slice none 0 0], hB b [vS p1 p.Arrays c, vS p6 (raws ++ [(⟨.slice none 0 0, .slice none 0 0⟩ : Raw2)]) c5], hO impl_Array (vS p1 p.Arrays c) cs, hO Raw2 (vS p6 (raws ++ [(⟨.slice none 0 0, .slice none 0 0⟩ : Raw2)]) c5) cs4] rfl rfl rfl rfl <| R_end rfl <| T_block_normal <| T_seq <| J_seq <| J_region <| R_d 1 [1] [(98, vA [vS p1 p.Arrays c, vS p6 (raws ++ [(⟨.slice none 0 0, .slice none 0 0⟩ : Raw2)]) c5])] <| R_sb 0 [vS p1 p.Arrays c, vS p6 (raws ++ [(⟨.slice none 0 0, .slice none 0 0⟩ : Raw2)]) c5] [hB b1 [vS p1 p.Arrays c, vS p6 (raws ++ [(⟨.slice none 0 0, .slice none 0 0⟩ : Raw2)]) c5], hB b [vS p1 p.Arrays c, vS p6 (raws ++ [(⟨.slice none 0 0, .slice none 0 0⟩ : Raw2)]) c5], hO impl_Array (vS p1 p.Arrays c) cs, hO Raw2 (vS p6 (raws ++ [(⟨.slice none 0 0, .slice none 0 0⟩ : Raw2)]) c5) cs4] rfl rfl rfl rfl <| R_end rfl <| T_seq <| J_ret <| T_hs (good_nil (Rp.sz impl_Stmt)) <| T_hs (good_nil (Rp.sz impl_Loop)) ?_
       obtain rfl := pure_some hM
       exact T_RS ⟨_, _, (.cell 2 rfl rfl (by kernel_rfl) ResV.nil), (good_pick [4, 5, 0, 1] rfl (by decide)), ⟨_, _, _, _, _, _, _, _, _, _, _, _, _, rfl, rfl, ⟨hQ.arr, h9, hLP, RepL.nil, RepL.nil⟩⟩⟩
     · intro hc2 hM
       refine J_seq ?_
       obtain ⟨o01, ho01, hM⟩ := bind_some hM
       refine J_cut (fun imm' hs' m' => ∃ (t43 : Bool), o01 = t43 ∧ imm01.le imm' ∧ hs' = [hB b1 [.slice none 0 0, .slice none 0 0], hB b [vS p1 p.Arrays c, vS p2 raws c1], hO impl_Array (vS p1 p.Arrays c) cs, hO Raw2 (vS p2 raws c1) cs1, hO impl_Loop vN csN, hO impl_Stmt vB csB] ∧ m' = [(1, vT line.l), (2, vP b 0), (4, vP b1 0), (6, vI (W ((raws.length : Int) - 1))), (43, .bool t43)]) ?_ ?_
       · refine J_region <| R_d 3 [] [(46, .bool (decide ((W ((raws.length : Int) - 1)) ≥ 0)))] ?_
         cases hc3 : (decide ((W ((raws.length : Int) - 1)) ≥ 0)) with
         | true =>
          have hM02 := if_some_true hc3 ho01
          refine R_d 8 [] [(51, .bool (decide ((y.length : Int) > 0)))] ?_
          cases hc4 : (decide ((y.length : Int) > 0)) with
          | true =>
           have hM03 := if_some_true hc4 hM02
           refine R_d 9 [] [(52, vS p3 y c2)] ?_
           obtain ⟨x1, hy5, hM⟩ := bind_some hM03
           refine R_ix rfl rfl h2 hy5 ?_
           intro ad1 ccs2 hat1 hrep1
           obtain rfl := hrep1
           exact R_la 0 hat1 [vT x1.l] (vT x1.l) rfl <| R_z [] [(43, .bool (x1.l == ([102, 111, 114] : List UInt8)))] <| T_w [(1, vT line.l), (2, vP b 0), (4, vP b1 0), (6, vI (W ((raws.length : Int) - 1))), (43, .bool (x1.l == ([102, 111, 114] : List UInt8)))] <| T_cut ⟨_, (pure_some hM).symm, Imm.le.refl _, rfl, rfl⟩
          | false =>
           have hM04 := if_some_false hc4 hM02
           exact R_z [] [(43, .bool false)] <| T_w [(1, vT line.l), (2, vP b 0), (4, vP b1 0), (6, vI (W ((raws.length : Int) - 1))), (43, .bool false)] <| T_cut ⟨_, (pure_some hM04).symm, Imm.le.refl _, rfl, rfl⟩
         | false =>
          have hM05 := if_some_false hc3 ho01
          exact R_z [] [(43, .bool false)] <| T_w [(1, vT line.l), (2, vP b 0), (4, vP b1 0), (6, vI (W ((raws.length : Int) - 1))), (43, .bool false)] <| T_cut ⟨_, (pure_some hM05).symm, Imm.le.refl _, rfl, rfl⟩
       · rintro imm05 hs2 m2 ⟨t43, heq1, le5, rfl, rfl⟩
         subst o01
         replace hQ := hQ.mono le5
         refine T_seq <| J_cd hM ?_ ?_
         · intro hc5 hM
           refine J_seq <| J_region <| R_d 3 [1] [(58, vS p2 raws c1), (59, vI (W ((raws.length : Int) - 1)))] ?_
           obtain ⟨x2, hy6, hM⟩ := bind_some hM
           obtain ⟨rfl, hyr, hset⟩ := hQ.lp.last hy6
           refine R_ixo 3 rfl rfl rfl hQ.raw hyr ?_
           intro ad2 ccs3 hat2 hcc hrep2
           obtain ⟨rfl, o1, o2⟩ := hrep2
           refine R_lo 3 0 hat2 hcc [vN, vB] (vA [vN, vB]) rfl rfl <| R_alloc (c := ⟨[.slice none 0 0, .slice none 0 0]⟩) rfl rfl rfl (by kernel_rfl) ?_
           intro b4 hb4
           refine R_sb0 0 [vN, vB] (hB b4 [vN, vB] :: [hB b1 [.slice none 0 0, .slice none 0 0], hB b [vS p1 p.Arrays c, vS p2 raws c1], hO impl_Array (vS p1 p.Arrays c) cs, hO Raw2 (vS p2 raws c1) cs1, hO impl_Loop vN csN, hO impl_Stmt vB csB]) rfl rfl rfl rfl (by simp [Value.cells, o1, o2]) <| R_end rfl <| T_seq <| J_seq ?_
           obtain ⟨y2, hy7, hM⟩ := bind_some hM
           obtain ⟨l2, hy8, hM⟩ := bind_some hM
           refine J_any [.p (vP b4 0) [], .p vN [0], .p (vT line.l) [], .x (fun imm' v hx => ∃ (p9 : Option Addr) (c8 : Nat) (p10 : Option Addr) (c9 : Nat), v = vA [vS p9 y2.Lo c8, vS p10 y2.Hi c9] ∧ hx = [] ∧ (SL imm' (vS p9 y2.Lo c8) y2.Lo) ∧ (SL imm' (vS p10 y2.Hi c9) y2.Hi)), .x (fun imm' v hx => ∃ (b5 : Nat), v = vS (some ⟨b5, 0, none⟩) ([y2] : List impl_Loop) 1 ∧ hx = [] ∧ (SL imm' (vS (some ⟨b5, 0, none⟩) ([y2] : List impl_Loop) 1) ([y2] : List impl_Loop))), .x (fun imm' v hx => ∃ (p11 : Option Addr) (c10 : Nat) (cs3 : List Value), v = vS p11 l2 c10 ∧ hx = [hO impl_Loop (vS p11 l2 c10) cs3] ∧ (RL imm' cs3 l2))] [[], [(0, false)], [], [(2, false)], [(3, false)], [(1, false), (4, false), (8, true)]] [hB b4 [vN, vB], hB b1 [.slice none 0 0, .slice none 0 0], hB b [vS p1 p.Arrays c, vS p2 raws c1], hO impl_Array (vS p1 p.Arrays c) cs, hO Raw2 (vS p2 raws c1) cs1, hO impl_Stmt vB csB] [[hO impl_Loop vN csN]] [(5, true)] (good_pick [0, 1, 2, 3, 4, 6, 5] rfl (by decide)) ?_ ?_
           · refine Op <| Op <| Op <| Ox ?_ <| Ox ?_ <| Ox ?_ <| On
             · intro imm1 hf le1
               refine Ins_cons ?_
               rintro _ _ ⟨rfl, rfl⟩
               refine Ins_nil <| R_isw (hB b4 [vN, vB] :: hB b1 [.slice none 0 0, .slice none 0 0] :: hB b [vS p1 p.Arrays c, vS p2 raws c1] :: hO impl_Array (vS p1 p.Arrays c) cs :: hO Raw2 (vS p2 raws c1) cs1 :: hO impl_Stmt vB csB :: hf) [(64, vT line.l)] <| R_call (hs1 := []) (rest := (hB b4 [vN, vB] :: hB b1 [.slice none 0 0, .slice none 0 0] :: hB b [vS p1 p.Arrays c, vS p2 raws c1] :: hO impl_Array (vS p1 p.Arrays c) cs :: hO Raw2 (vS p2 raws c1) cs1 :: hO impl_Stmt vB csB :: hf)) rfl rfl rfl rfl (by kernel_rfl) rfl rfl (spec_l2Line_ok line _ hy7 ) ?_
               rintro imm06 hs2 v2 k2 le6 - ⟨v05, rfl, rfl, ⟨cs5, rfl, h12⟩⟩ -
               obtain ⟨v06, v07, rfl, h13, h14⟩ := impl_Loop_open h12
               obtain ⟨p9, c8, rfl⟩ := h13.form
               obtain ⟨p10, c9, rfl⟩ := h14.form
               exact R_out (hx := []) rfl le6 rfl (out_some rfl) ⟨_, _, _, _, rfl, rfl, h13, h14⟩
             · intro imm1 hf le1
               refine Ins_cons ?_
               rintro _ _ ⟨p9, c8, p10, c9, rfl, rfl, h13, h14⟩
               refine Ins_nil <| R_isw (hB b4 [vN, vB] :: hB b1 [.slice none 0 0, .slice none 0 0] :: hB b [vS p1 p.Arrays c, vS p2 raws c1] :: hO impl_Array (vS p1 p.Arrays c) cs :: hO Raw2 (vS p2 raws c1) cs1 :: hO impl_Stmt vB csB :: hf) [(65, vA [vS p9 y2.Lo c8, vS p10 y2.Hi c9])] <| R_buildSlice (cs := [vS p9 y2.Lo c8, vS p10 y2.Hi c9]) (Rp.sz impl_Loop) rfl rfl rfl rfl (by kernel_rfl) (by kernel_rfl) ?_
               intro b5 hb5
               have h15 : RL imm1 [vS p9 y2.Lo c8, vS p10 y2.Hi c9] ([y2] : List impl_Loop) := ⟨[vS p9 y2.Lo c8, vS p10 y2.Hi c9], _, rfl, rfl, (impl_Loop_shut ⟨_, _, rfl, h13, h14⟩), rfl⟩
               refine R_freeze 0 rfl ?_
               intro imm07 le7 hl01
               exact R_out (hx := []) rfl le7 rfl (out_some rfl) ⟨_, rfl, rfl, SL.of_frozen hl01 le7 h15⟩
             · intro imm1 hf le1
               refine Ins_cons ?_
               rintro u _ ⟨hu, rfl⟩
               replace hu := hu.symm
               subst hu
               refine Ins_cons ?_
               rintro _ _ ⟨b5, rfl, rfl, h16⟩
               refine Ins_cons ?_
               rintro _ _ rfl
               refine Ins_nil <| R_isw (hO impl_Loop vN csN :: hB b4 [vN, vB] :: hB b1 [.slice none 0 0, .slice none 0 0] :: hB b [vS p1 p.Arrays c, vS p2 raws c1] :: hO impl_Array (vS p1 p.Arrays c) cs :: hO Raw2 (vS p2 raws c1) cs1 :: hO impl_Stmt vB csB :: hf) [(63, vN), (66, vS (some ⟨b5, 0, none⟩) ([y2] : List impl_Loop) 1)] ?_
               obtain ⟨ccs4, k0, k01⟩ := h16
               refine R_ap 101 2 0 rfl rfl rfl (hQ.mono le1).n (.inl k0) k01 hy8 ?_
               intro p11 c10 cs3 h17
               exact R_hseq (hs' := (hO impl_Loop (vS p11 l2 c10) cs3 :: (hB b4 [vN, vB] :: hB b1 [.slice none 0 0, .slice none 0 0] :: hB b [vS p1 p.Arrays c, vS p2 raws c1] :: hO impl_Array (vS p1 p.Arrays c) cs :: hO Raw2 (vS p2 raws c1) cs1 :: hO impl_Stmt vB csB :: hf))) rfl <| R_out (hx := [hO impl_Loop (vS p11 l2 c10) cs3]) rfl (Imm.le.refl _) rfl (out_some rfl) ⟨_, _, _, rfl, rfl, h17⟩
           · intro imm08 le8
             refine Ins_cons ?_
             rintro _ _ ⟨p11, c10, cs3, rfl, rfl, h17⟩
             refine Ins_nil <| R_isw (hO impl_Loop (vS p11 l2 c10) cs3 :: [hB b4 [vN, vB], hB b1 [.slice none 0 0, .slice none 0 0], hB b [vS p1 p.Arrays c, vS p2 raws c1], hO impl_Array (vS p1 p.Arrays c) cs, hO Raw2 (vS p2 raws c1) cs1, hO impl_Stmt vB csB]) [(2, vP b 0), (4, vP b1 0), (6, vI (W ((raws.length : Int) - 1))), (7, vP b4 0), (67, vS p11 l2 c10)] ?_
             replace hQ := hQ.mono le8
             refine R_d 7 [] [(68, vP b4 0)] <| R_sb 1 [vS p11 l2 c10, vB] [hO impl_Loop (vS p11 l2 c10) cs3, hB b4 [vS p11 l2 c10, vB], hB b1 [.slice none 0 0, .slice none 0 0], hB b [vS p1 p.Arrays c, vS p2 raws c1], hO impl_Array (vS p1 p.Arrays c) cs, hO Raw2 (vS p2 raws c1) cs1, hO impl_Stmt vB csB] rfl rfl rfl rfl <| R_end rfl <| T_seq <| J_region <| R_d 4 [3, 1] [(70, vS p2 raws c1), (71, vI (W ((raws.length : Int) - 1))), (72, vA [vS p11 l2 c10, vB])] <| R_ixo 5 rfl rfl rfl hQ.raw hyr ?_
             intro ad3 ccs5 hat3 hcc1 hrep3
             obtain ⟨rfl, -⟩ := hrep3
             refine R_store_el (α := Raw2) (c := [vS p11 l2 c10, vB]) (x' := ⟨vS p11 l2 c10, vB⟩) 5 0 rfl rfl rfl hat3 rfl rfl hcc1 (by kernel_rfl) (by kernel_rfl) (by simp [Value.cells, o2]; rfl) hQ.raw hyr (by kernel_rfl) ⟨rfl, rfl, o2⟩ ?_
             intro cs6 h19 hl02
             refine R_hseq (hs' := [hO impl_Loop (vS p11 l2 c10) cs3, hB b4 [vS p11 l2 c10, vB], hB b1 [.slice none 0 0, .slice none 0 0], hB b [vS p1 p.Arrays c, vS p2 raws c1], hO impl_Array (vS p1 p.Arrays c) cs, hO Raw2 (vS p2 raws c1) cs6, hO impl_Stmt vB csB]) rfl <| R_end rfl <| T_block_normal <| T_seq <| J_seq <| J_region <| R_d 1 [3] [(98, vA [vS p1 p.Arrays c, vS p2 raws c1])] <| R_sb 2 [vS p1 p.Arrays c, vS p2 raws c1] [hO impl_Loop (vS p11 l2 c10) cs3, hB b4 [vS p11 l2 c10, vB], hB b1 [vS p1 p.Arrays c, vS p2 raws c1], hB b [vS p1 p.Arrays c, vS p2 raws c1], hO impl_Array (vS p1 p.Arrays c) cs, hO Raw2 (vS p2 raws c1) cs6, hO impl_Stmt vB csB] rfl rfl rfl rfl <| R_end rfl <| T_seq <| J_ret ?_
             obtain rfl := pure_some hM
             exact T_RS ⟨[vA [vS p1 p.Arrays c, vS p2 raws c1]], _, (.cell 2 rfl rfl (by kernel_rfl) ResV.nil), (good_pick [4, 5, 0, 6] rfl (by decide)), ⟨p1, c, cs, p2, c1, cs6, raws.set (W ((raws.length : Int) - 1)).toNat ⟨vS p11 l2 c10, vB⟩, vS p11 l2 c10, vB, l2, bl, cs3, csB, (by simp only [vS, hl02]), (by simp only [vS, hl02]), ⟨hQ.arr, h19, (hset _ _ _ _).mono le8, h17, hQ.b⟩⟩⟩
         · intro hc5 hM
           refine J_seq <| J_region <| R_z [] [(74, .bool (decide ((W ((raws.length : Int) - 1)) ≥ 0)))] <| T_seq <| J_cd hM ?_ ?_
           · intro hc6 hM
             refine J_seq <| J_region <| R_d 3 [1] [(78, vS p2 raws c1), (79, vI (W ((raws.length : Int) - 1)))] ?_
             obtain ⟨x4, hy10, hM⟩ := bind_some hM
             obtain ⟨rfl, hyr, hset⟩ := hQ.lp.last hy10
             refine R_ixo 3 rfl rfl rfl hQ.raw hyr ?_
             intro ad4 ccs5 hat4 hcc2 hrep4
             obtain ⟨rfl, o1, o2⟩ := hrep4
             refine R_lo 3 0 hat4 hcc2 [vN, vB] (vA [vN, vB]) rfl rfl <| R_alloc (c := ⟨[.slice none 0 0, .slice none 0 0]⟩) rfl rfl rfl (by kernel_rfl) ?_
             intro b6 hb6
             refine R_sb0 0 [vN, vB] (hB b6 [vN, vB] :: [hB b1 [.slice none 0 0, .slice none 0 0], hB b [vS p1 p.Arrays c, vS p2 raws c1], hO impl_Array (vS p1 p.Arrays c) cs, hO Raw2 (vS p2 raws c1) cs1, hO impl_Loop vN csN, hO impl_Stmt vB csB]) rfl rfl rfl rfl (by simp [Value.cells, o1, o2]) <| R_end rfl <| T_seq <| J_seq <| J_region <| R_d 1 [] [(83, vT line.l)] ?_
             obtain ⟨⟨y4, y5⟩, hy11, hM⟩ := bind_some hM
             refine R_call (hs1 := []) (rest := (hB b6 [vN, vB] :: [hB b1 [.slice none 0 0, .slice none 0 0], hB b [vS p1 p.Arrays c, vS p2 raws c1], hO impl_Array (vS p1 p.Arrays c) cs, hO Raw2 (vS p2 raws c1) cs1, hO impl_Loop vN csN, hO impl_Stmt vB csB])) rfl rfl rfl rfl (by kernel_rfl) rfl rfl (spec_ParseStmt_ok line _ hy11 ) ?_
             rintro imm09 hs2 v2 k2 le9 - ⟨v012, v013, rfl, rfl, ⟨cs7, rfl, h22⟩, rfl⟩ -
             replace hQ := hQ.mono le9
             obtain ⟨v014, v015, v016, v017, rfl, h24, h25, h26, h27⟩ := impl_Stmt_open h22
             obtain ⟨p15, c14, rfl⟩ := h24.form
             obtain ⟨p16, c15, rfl⟩ := h25.form
             obtain ⟨p17, c16, rfl⟩ := h26.form
             obtain ⟨p18, c17, rfl⟩ := h27.form
             refine R_d 5 [] [(85, vA [vT y4.Write.Array.l, vS p15 y4.Write.Subs c14, vI y4.Value.Kind, vI y4.Value.Num, vS p16 y4.Value.Index.Coefs c15, vI y4.Value.Index.Const, vT y4.Value.Read.Array.l, vS p17 y4.Value.Read.Subs c16, vS p18 y4.Value.Kids c17]), (86, .bool y5)] <| R_alloc (c := ⟨[vT ([]), .slice none 0 0, vI 0, vI 0, .slice none 0 0, vI 0, vT ([]), .slice none 0 0, .slice none 0 0]⟩) rfl rfl rfl (by kernel_rfl) ?_
             intro b7 hb7
             refine R_sb 0 [vT y4.Write.Array.l, vS p15 y4.Write.Subs c14, vI y4.Value.Kind, vI y4.Value.Num, vS p16 y4.Value.Index.Coefs c15, vI y4.Value.Index.Const, vT y4.Value.Read.Array.l, vS p17 y4.Value.Read.Subs c16, vS p18 y4.Value.Kids c17] (hB b7 [vT y4.Write.Array.l, vS p15 y4.Write.Subs c14, vI y4.Value.Kind, vI y4.Value.Num, vS p16 y4.Value.Index.Coefs c15, vI y4.Value.Index.Const, vT y4.Value.Read.Array.l, vS p17 y4.Value.Read.Subs c16, vS p18 y4.Value.Kids c17] :: hB b6 [vN, vB] :: [hB b1 [.slice none 0 0, .slice none 0 0], hB b [vS p1 p.Arrays c, vS p2 raws c1], hO impl_Array (vS p1 p.Arrays c) cs, hO Raw2 (vS p2 raws c1) cs1, hO impl_Loop vN csN, hO impl_Stmt vB csB]) rfl rfl rfl rfl <| R_z [] [] <| T_seq <| J_seq <| J_region <| R_d 3 [1, 0] [(88, vB), (89, vA [vT y4.Write.Array.l, vS p15 y4.Write.Subs c14, vI y4.Value.Kind, vI y4.Value.Num, vS p16 y4.Value.Index.Coefs c15, vI y4.Value.Index.Const, vT y4.Value.Read.Array.l, vS p17 y4.Value.Read.Subs c16, vS p18 y4.Value.Kids c17])] <| R_buildSlice (cs := [vT y4.Write.Array.l, vS p15 y4.Write.Subs c14, vI y4.Value.Kind, vI y4.Value.Num, vS p16 y4.Value.Index.Coefs c15, vI y4.Value.Index.Const, vT y4.Value.Read.Array.l, vS p17 y4.Value.Read.Subs c16, vS p18 y4.Value.Kids c17]) (Rp.sz impl_Stmt) rfl rfl rfl rfl (by kernel_rfl) (by kernel_rfl) ?_
             intro b8 hb8
             have h28 : RL imm09 [vT y4.Write.Array.l, vS p15 y4.Write.Subs c14, vI y4.Value.Kind, vI y4.Value.Num, vS p16 y4.Value.Index.Coefs c15, vI y4.Value.Index.Const, vT y4.Value.Read.Array.l, vS p17 y4.Value.Read.Subs c16, vS p18 y4.Value.Kids c17] ([y4] : List impl_Stmt) := ⟨[vT y4.Write.Array.l, vS p15 y4.Write.Subs c14, vI y4.Value.Kind, vI y4.Value.Num, vS p16 y4.Value.Index.Coefs c15, vI y4.Value.Index.Const, vT y4.Value.Read.Array.l, vS p17 y4.Value.Read.Subs c16, vS p18 y4.Value.Kids c17], _, rfl, rfl, (impl_Stmt_shut ⟨_, _, _, _, rfl, h24, h25, h26, h27⟩), rfl⟩
             obtain ⟨l3, hy12, hM⟩ := bind_some hM
             refine R_ap 80 9 8 rfl rfl rfl hQ.b (.inr ⟨0, rfl⟩) h28 hy12 ?_
             intro p19 c18 cs9 h29
             refine R_hs (good_pick [2, 3, 4, 5, 6, 7, 8] (hs' := [hB b6 [vN, vB], hB b1 [.slice none 0 0, .slice none 0 0], hB b [vS p1 p.Arrays c, vS p2 raws c1], hO impl_Array (vS p1 p.Arrays c) cs, hO Raw2 (vS p2 raws c1) cs1, hO impl_Loop vN csN, hO impl_Stmt (vS p19 l3 c18) cs9]) rfl (by decide)) <| R_d 6 [] [(92, vP b6 1)] <| R_sb 0 [vN, vS p19 l3 c18] [hB b6 [vN, vS p19 l3 c18], hB b1 [.slice none 0 0, .slice none 0 0], hB b [vS p1 p.Arrays c, vS p2 raws c1], hO impl_Array (vS p1 p.Arrays c) cs, hO Raw2 (vS p2 raws c1) cs1, hO impl_Loop vN csN, hO impl_Stmt (vS p19 l3 c18) cs9] rfl rfl rfl rfl <| R_end rfl <| T_seq <| J_region <| R_d 4 [2, 0] [(94, vS p2 raws c1), (95, vI (W ((raws.length : Int) - 1))), (96, vA [vN, vS p19 l3 c18])] <| R_ixo 4 rfl rfl rfl hQ.raw hyr ?_
             intro ad5 ccs6 hat5 hcc3 hrep5
             obtain ⟨rfl, -⟩ := hrep5
             refine R_store_el (α := Raw2) (c := [vN, vS p19 l3 c18]) (x' := ⟨vN, vS p19 l3 c18⟩) 4 0 rfl rfl rfl hat5 rfl rfl hcc3 (by kernel_rfl) (by kernel_rfl) (by simp [Value.cells, o1]; rfl) hQ.raw hyr (by kernel_rfl) ⟨rfl, o1, rfl⟩ ?_
             intro cs8 h31 hl03
             refine R_hseq (hs' := [hB b6 [vN, vS p19 l3 c18], hB b1 [.slice none 0 0, .slice none 0 0], hB b [vS p1 p.Arrays c, vS p2 raws c1], hO impl_Array (vS p1 p.Arrays c) cs, hO Raw2 (vS p2 raws c1) cs8, hO impl_Loop vN csN, hO impl_Stmt (vS p19 l3 c18) cs9]) rfl <| R_end rfl <| T_block_normal <| T_seq <| J_seq <| J_region <| R_d 1 [2] [(98, vA [vS p1 p.Arrays c, vS p2 raws c1])] <| R_sb 1 [vS p1 p.Arrays c, vS p2 raws c1] [hB b6 [vN, vS p19 l3 c18], hB b1 [vS p1 p.Arrays c, vS p2 raws c1], hB b [vS p1 p.Arrays c, vS p2 raws c1], hO impl_Array (vS p1 p.Arrays c) cs, hO Raw2 (vS p2 raws c1) cs8, hO impl_Loop vN csN, hO impl_Stmt (vS p19 l3 c18) cs9] rfl rfl rfl rfl <| R_end rfl <| T_seq <| J_ret ?_
             obtain rfl := pure_some hM
             exact T_RS ⟨[vA [vS p1 p.Arrays c, vS p2 raws c1]], _, (.cell 1 rfl rfl (by kernel_rfl) ResV.nil), (good_pick [3, 4, 5, 6] rfl (by decide)), ⟨p1, c, cs, p2, c1, cs8, raws.set (W ((raws.length : Int) - 1)).toNat ⟨vN, vS p19 l3 c18⟩, vN, vS p19 l3 c18, nl, l3, csN, cs9, (by simp only [vS, hl03]), (by simp only [vS, hl03]), ⟨hQ.arr, h31, (hset _ _ _ _).mono le9, hQ.n, h29⟩⟩⟩
           · intro hc6 hM
             refine J_skip <| T_block_normal <| T_seq <| J_seq <| J_region <| R_d 1 [1] [(98, vA [vS p1 p.Arrays c, vS p2 raws c1])] <| R_sb 0 [vS p1 p.Arrays c, vS p2 raws c1] [hB b1 [vS p1 p.Arrays c, vS p2 raws c1], hB b [vS p1 p.Arrays c, vS p2 raws c1], hO impl_Array (vS p1 p.Arrays c) cs, hO Raw2 (vS p2 raws c1) cs1, hO impl_Loop vN csN, hO impl_Stmt vB csB] rfl rfl rfl rfl <| R_end rfl <| T_seq <| J_ret ?_
             obtain rfl := pure_some hM
             exact T_RS ⟨_, _, (.cell 0 rfl rfl (by kernel_rfl) ResV.nil), (good_pick [2, 3, 4, 5] rfl (by decide)), ⟨_, _, _, _, _, _, _, _, _, _, _, _, _, rfl, rfl, hQ⟩⟩
def spec_l2Text_post (r : Str) : Nat → Imm → List HA → Value → Prop := fun kk imm' hs' v =>
  ∃ (v0 : Value), hs' = [] ∧ v = tupV [v0] ∧ v0 = .string ⟨⟨r.l⟩⟩
def M.spec_l2Text_l1 (nest : (List impl_Loop)) (out : Str) (i : Int) : Option (Str) := do
 if (decide (i < (nest.length : Int))) then
  let s ← cat out (⟨[102, 111, 114, 32]⟩ : Str)
  let x ← idx nest i
  let y ← M.spec_l2SideText x.Lo
  let s1 ← cat s y
  let s2 ← cat s1 (⟨[32]⟩ : Str)
  let x1 ← idx nest i
  let y1 ← M.spec_l2SideText x1.Hi
  let s3 ← cat s2 y1
  let s4 ← cat s3 (⟨[10]⟩ : Str)
  M.spec_l2Text_l1 nest s4 (W (i + 1))
 else
  pure (id out)
 partial_fixpoint
theorem spec_l2Text_l1_ok (nest : (List impl_Loop)) : ∀ (out : Str) (i : Int) (o : Str), M.spec_l2Text_l1 nest out i = some o → ∀ {B : Base} {imm0 imm : Imm} {Q : Exit → Act → World → Prop}  {p : Option Addr} {c : Nat}, imm0.le imm → (SL imm (vS p nest c) nest) → (∀ l a w, ¬ Q (.goto l) a w) → (∀ a w, ¬ Q .outgrown a w) → (∀ (imm' : Imm) (out1 : Str), o = out1 → imm0.le imm' → T 30 B Q (.exit 0) imm' [] [(3, vT out1.l)]) → J Try.prog 30 B (nav (bodyOf Try.f60) [1, 1, 0, 1, 0]) Q imm [] [(0, vS p nest c), (3, vT out.l), (4, vI i)] := by
 refine M.spec_l2Text_l1.partial_correctness nest _ ?_
 intro self ih out i o hM B imm0 imm Q p c hle h hg ho hx
 refine J_loop hg ho <| J_seq <| J_seq <| J_region <| R_z [] [(8, .bool (decide (i < (nest.length : Int))))] <| T_seq <| J_cd hM ?_ ?_
 · intro hc hM
   refine J_skip <| T_seq <| J_seq <| J_block ?_
   obtain ⟨s, hy, hM⟩ := bind_some hM
   obtain ⟨x, hy1, hM⟩ := bind_some hM
   obtain ⟨y, hy2, hM⟩ := bind_some hM
   obtain ⟨s1, hy3, hM⟩ := bind_some hM
   obtain ⟨s2, hy4, hM⟩ := bind_some hM
   obtain ⟨x1, hy5, hM⟩ := bind_some hM
   obtain ⟨y1, hy6, hM⟩ := bind_some hM
   obtain ⟨s3, hy7, hM⟩ := bind_some hM
   obtain ⟨s4, hy8, hM⟩ := bind_some hM
   refine J_any [.p (vT out.l) [], .q (vT s.l), .p (vS p nest c) [], .p (vI i) [], .x (fun imm' v hx => ∃ (ad : Addr) (p1 : Option Addr) (c1 : Nat) (p2 : Option Addr) (c2 : Nat), v = .pointer (some ad) ∧ hx = [] ∧ (At imm' ad [vS p1 x.Lo c1, vS p2 x.Hi c2]) ∧ (SL imm' (vS p1 x.Lo c1) x.Lo) ∧ (SL imm' (vS p2 x.Hi c2) x.Hi)), .x (fun imm' v hx => ∃ (ad1 : Addr) (p11 : Option Addr) (c11 : Nat) (p21 : Option Addr) (c21 : Nat), v = .pointer (some ad1) ∧ hx = [] ∧ (At imm' ad1 [vS p11 x.Lo c11, vS p21 x.Hi c21]) ∧ (SL imm' (vS p11 x.Lo c11) x.Lo) ∧ (SL imm' (vS p21 x.Hi c21) x.Hi)), .x (fun imm' v hx => ∃ (p111 : Option Addr) (c111 : Nat), v = vS p111 x.Lo c111 ∧ hx = [] ∧ (SL imm' (vS p111 x.Lo c111) x.Lo)), .q (vT y.l), .q (vT s1.l), .q (vT s2.l), .p (vS p nest c) [], .p (vI i) [], .x (fun imm' v hx => ∃ (ad2 : Addr) (p3 : Option Addr) (c3 : Nat) (p4 : Option Addr) (c4 : Nat), v = .pointer (some ad2) ∧ hx = [] ∧ (At imm' ad2 [vS p3 x1.Lo c3, vS p4 x1.Hi c4]) ∧ (SL imm' (vS p3 x1.Lo c3) x1.Lo) ∧ (SL imm' (vS p4 x1.Hi c4) x1.Hi)), .x (fun imm' v hx => ∃ (ad21 : Addr) (p31 : Option Addr) (c31 : Nat) (p41 : Option Addr) (c41 : Nat), v = .pointer (some (ad21.add 1)) ∧ hx = [] ∧ (At imm' ad21 [vS p31 x1.Lo c31, vS p41 x1.Hi c41]) ∧ (SL imm' (vS p31 x1.Lo c31) x1.Lo) ∧ (SL imm' (vS p41 x1.Hi c41) x1.Hi)), .x (fun imm' v hx => ∃ (p411 : Option Addr) (c411 : Nat), v = vS p411 x1.Hi c411 ∧ hx = [] ∧ (SL imm' (vS p411 x1.Hi c411) x1.Hi)), .q (vT y1.l), .q (vT s3.l), .q (vT s4.l)] [[], [(0, false)], [], [], [(2, false), (3, false)], [(4, false)], [(5, false)], [(6, false)], [(1, false), (7, false)], [(8, false)], [], [], [(10, false), (11, false)], [(12, false)], [(13, false)], [(14, false)], [(9, false), (15, false)], [(16, false)]] [] [] [(17, false)] (good_pick [] rfl (by decide)) ?_ ?_
   · refine Op <| Oq ?_ <| Op <| Op <| Ox ?_ <| Ox ?_ <| Ox ?_ <| Oq ?_ <| Oq ?_ <| Oq ?_ <| Op <| Op <| Ox ?_ <| Ox ?_ <| Ox ?_ <| Oq ?_ <| Oq ?_ <| Oq ?_ <| On
     · intro imm1 hf le1
       refine Ins_cons ?_
       rintro _ _ ⟨rfl, rfl⟩
       refine Ins_nil <| R_isw (hf) [(11, vT out.l)] ?_
       have hle := Imm.le.refl imm1
       exact R_ca rfl hy <| R_out (hx := []) rfl hle rfl (out_some rfl) ⟨rfl, rfl⟩
     · intro imm1 hf le1
       refine Ins_cons ?_
       rintro _ _ ⟨rfl, rfl⟩
       refine Ins_cons ?_
       rintro _ _ ⟨rfl, rfl⟩
       refine Ins_nil <| R_isw (hf) [(13, vS p nest c), (14, vI i)] ?_
       have hle := Imm.le.refl imm1
       replace h := h.mono le1
       refine R_ix rfl rfl h hy1 ?_
       intro ad ccs hat hrep
       obtain ⟨v0, v01, rfl, h1, h2⟩ := impl_Loop_open hrep
       obtain ⟨p1, c1, rfl⟩ := h1.form
       obtain ⟨p2, c2, rfl⟩ := h2.form
       exact R_out (hx := []) rfl hle rfl (out_some rfl) ⟨_, _, _, _, _, rfl, rfl, hat, h1, h2⟩
     · intro imm1 hf le1
       refine Ins_cons ?_
       rintro _ _ ⟨ad, p1, c1, p2, c2, rfl, rfl, hat, h1, h2⟩
       refine Ins_nil <| R_isw (hf) [(15, .pointer (some ad))] ?_
       have hle := Imm.le.refl imm1
       exact R_p 6 [(16, .pointer (some ad))] <| R_out (hx := []) rfl hle rfl (out_some rfl) ⟨_, _, _, _, _, rfl, rfl, hat, h1, h2⟩
     · intro imm1 hf le1
       refine Ins_cons ?_
       rintro _ _ ⟨ad1, p11, c11, p21, c21, rfl, rfl, hat1, h11, h21⟩
       refine Ins_nil <| R_isw (hf) [(16, .pointer (some ad1))] ?_
       have hle := Imm.le.refl imm1
       exact R_la 0 hat1 [vS p11 x.Lo c11] (vS p11 x.Lo c11) rfl <| R_out (hx := []) rfl hle rfl (out_some rfl) ⟨_, _, rfl, rfl, h11⟩
     · intro imm1 hf le1
       refine Ins_cons ?_
       rintro _ _ ⟨p111, c111, rfl, rfl, h111⟩
       refine Ins_nil <| R_isw (hf) [(17, vS p111 x.Lo c111)] ?_
       have hle := Imm.le.refl imm1
       refine R_call (hs1 := []) (rest := (hf)) rfl rfl rfl rfl (by kernel_rfl) rfl rfl (spec_l2SideText_ok x.Lo _ hy2 h111) ?_
       rintro imm0 hs2 v2 k2 le - ⟨v02, rfl, rfl, rfl⟩ -
       replace h111 := h111.mono le
       replace hle := hle.trans le
       exact R_out (hx := []) rfl hle rfl (out_some rfl) ⟨rfl, rfl⟩
     · intro imm1 hf le1
       refine Ins_cons ?_
       rintro _ _ ⟨rfl, rfl⟩
       refine Ins_cons ?_
       rintro _ _ ⟨rfl, rfl⟩
       refine Ins_nil <| R_isw (hf) [(12, vT s.l), (18, vT y.l)] ?_
       have hle := Imm.le.refl imm1
       exact R_ca rfl hy3 <| R_out (hx := []) rfl hle rfl (out_some rfl) ⟨rfl, rfl⟩
     · intro imm1 hf le1
       refine Ins_cons ?_
       rintro _ _ ⟨rfl, rfl⟩
       refine Ins_nil <| R_isw (hf) [(19, vT s1.l)] ?_
       have hle := Imm.le.refl imm1
       exact R_ca rfl hy4 <| R_out (hx := []) rfl hle rfl (out_some rfl) ⟨rfl, rfl⟩
     · intro imm1 hf le1
       refine Ins_cons ?_
       rintro _ _ ⟨rfl, rfl⟩
       refine Ins_cons ?_
       rintro _ _ ⟨rfl, rfl⟩
       refine Ins_nil <| R_isw (hf) [(21, vS p nest c), (22, vI i)] ?_
       have hle := Imm.le.refl imm1
       replace h := h.mono le1
       refine R_ix rfl rfl h hy5 ?_
       intro ad2 ccs1 hat2 hrep1
       obtain ⟨v03, v04, rfl, h4, h5⟩ := impl_Loop_open hrep1
       obtain ⟨p3, c3, rfl⟩ := h4.form
       obtain ⟨p4, c4, rfl⟩ := h5.form
       exact R_out (hx := []) rfl hle rfl (out_some rfl) ⟨_, _, _, _, _, rfl, rfl, hat2, h4, h5⟩
     · intro imm1 hf le1
       refine Ins_cons ?_
       rintro _ _ ⟨ad2, p3, c3, p4, c4, rfl, rfl, hat2, h4, h5⟩
       refine Ins_nil <| R_isw (hf) [(23, .pointer (some ad2))] ?_
       have hle := Imm.le.refl imm1
       exact R_p 14 [(24, .pointer (some (ad2.add 1)))] <| R_out (hx := []) rfl hle rfl (out_some rfl) ⟨_, _, _, _, _, rfl, rfl, hat2, h4, h5⟩
     · intro imm1 hf le1
       refine Ins_cons ?_
       rintro _ _ ⟨ad21, p31, c31, p41, c41, rfl, rfl, hat21, h41, h51⟩
       refine Ins_nil <| R_isw (hf) [(24, .pointer (some (ad21.add 1)))] ?_
       have hle := Imm.le.refl imm1
       exact R_la 1 hat21 [vS p41 x1.Hi c41] (vS p41 x1.Hi c41) rfl <| R_out (hx := []) rfl hle rfl (out_some rfl) ⟨_, _, rfl, rfl, h51⟩
     · intro imm1 hf le1
       refine Ins_cons ?_
       rintro _ _ ⟨p411, c411, rfl, rfl, h511⟩
       refine Ins_nil <| R_isw (hf) [(25, vS p411 x1.Hi c411)] ?_
       have hle := Imm.le.refl imm1
       refine R_call (hs1 := []) (rest := (hf)) rfl rfl rfl rfl (by kernel_rfl) rfl rfl (spec_l2SideText_ok x1.Hi _ hy6 h511) ?_
       rintro imm01 hs2 v2 k2 le1 - ⟨v05, rfl, rfl, rfl⟩ -
       replace h511 := h511.mono le1
       replace hle := hle.trans le1
       exact R_out (hx := []) rfl hle rfl (out_some rfl) ⟨rfl, rfl⟩
     · intro imm1 hf le1
       refine Ins_cons ?_
       rintro _ _ ⟨rfl, rfl⟩
       refine Ins_cons ?_
       rintro _ _ ⟨rfl, rfl⟩
       refine Ins_nil <| R_isw (hf) [(20, vT s2.l), (26, vT y1.l)] ?_
       have hle := Imm.le.refl imm1
       exact R_ca rfl hy7 <| R_out (hx := []) rfl hle rfl (out_some rfl) ⟨rfl, rfl⟩
     · intro imm1 hf le1
       refine Ins_cons ?_
       rintro _ _ ⟨rfl, rfl⟩
       refine Ins_nil <| R_isw (hf) [(27, vT s3.l)] ?_
       have hle := Imm.le.refl imm1
       exact R_ca rfl hy8 <| R_out (hx := []) rfl hle rfl (out_some rfl) ⟨rfl, rfl⟩
   · intro imm02 le2
     refine Ins_cons ?_
     rintro _ _ ⟨rfl, rfl⟩
     refine Ins_nil <| R_isw [] [(0, vS p nest c), (4, vI i), (28, vT s4.l)] ?_
     replace h := h.mono le2
     replace hle := hle.trans le2
     exact R_z [] [(3, vT s4.l)] <| T_block_normal <| T_seq <| J_region <| R_z [] [(4, vI (W (i + 1)))] <| T_loop <| J_w [(0, vS p nest c), (3, vT s4.l), (4, vI (W (i + 1)))] <| ih s4 (W (i + 1)) _ hM hle h hg ho hx
 · intro hc hM
   exact J_exit <| T_then_exit <| T_then_exit <| T_w [(3, vT out.l)] <| hx _ _ (pure_some hM).symm hle
def M.spec_l2Text (nest : (List impl_Loop)) : Option (Str) := do
 let out1 ← M.spec_l2Text_l1 nest (⟨[]⟩ : Str) 0
 pure (id out1)
theorem spec_l2Text_ok : ∀ (nest : (List impl_Loop)) r, M.spec_l2Text nest = some r → ∀ {imm : Imm} {p : Option Addr} {c : Nat}, (SL imm (vS p nest c) nest) → Ret Try.prog 60 [vS p nest c] imm [] (spec_l2Text_post  r) := by
 intro nest r hM imm p c h
 unfold M.spec_l2Text at hM
 refine ret_of_J (fn := Try.f60) (c := (bodyOf Try.f60)) Try.func60 rfl rfl ?_
 rintro B - -
 have hle : imm.le imm := Imm.le.refl _
 refine J_seq <| J_region <| R_z [] [] <| T_seq <| J_seq <| J_region <| R_z [] [(3, vT ([]))] <| T_seq <| J_seq <| J_seq <| J_region <| R_z [] [(4, vI 0)] <| T_seq <| J_block <| J_w [(0, vS p nest c), (3, vT ([])), (4, vI 0)] ?_
 obtain ⟨o0, ho0, hM⟩ := bind_some hM
 refine spec_l2Text_l1_ok nest (⟨[]⟩ : Str) 0 o0 ho0 (Imm.le.refl _) h (fun _ _ _ h => h) (fun _ _ h => h) ?_
 intro imm03 out1 heq le3
 subst o0
 replace hle := hle.trans le3
 refine T_block_here <| T_seq <| J_seq <| J_region <| R_z [] [(2, vT out1.l)] <| T_seq <| J_ret ?_
 obtain rfl := pure_some hM
 exact T_RS ⟨_, _, (.tmp rfl ResV.nil), good_none, ⟨_, rfl, rfl, rfl⟩⟩
def spec_FormatProgram_post (r : Str) : Nat → Imm → List HA → Value → Prop := fun kk imm' hs' v =>
  ∃ (v0 : Value), hs' = [] ∧ v = tupV [v0] ∧ v0 = .string ⟨⟨r.l⟩⟩
def M.spec_FormatProgram_l2 (p : impl_Program) (i : Int) (out2 : Str) (k0 : Int) : Option (Str) := do
 let x1 ← idx p.Arrays i
 if (decide (k0 < (x1.Dims.length : Int))) then
  let s2 ← cat out2 (⟨[32]⟩ : Str)
  let x2 ← idx p.Arrays i
  let x3 ← idx x2.Dims k0
  let y1 ← M.spec_l16Dec x3
  let s3 ← cat s2 y1
  M.spec_FormatProgram_l2 p i s3 (W (k0 + 1))
 else
  pure (id out2)
 partial_fixpoint
theorem spec_FormatProgram_l2_ok (p : impl_Program) (i : Int) : ∀ (out2 : Str) (k0 : Int) (o : Str), M.spec_FormatProgram_l2 p i out2 k0 = some o → ∀ {B : Base} {imm0 imm : Imm} {Q : Exit → Act → World → Prop}  {p1 : Option Addr} {c : Nat} {p2 : Option Addr} {c1 : Nat} {b : Nat}, imm0.le imm → (SL imm (vS p1 p.Arrays c) p.Arrays) → (SL imm (vS p2 p.Parts c1) p.Parts) → (∀ l a w, ¬ Q (.goto l) a w) → (∀ a w, ¬ Q .outgrown a w) → (∀ (imm' : Imm) (out3 : Str), o = out3 → imm0.le imm' → T 103 B Q (.exit 2) imm' [hB b [vS p1 p.Arrays c, vS p2 p.Parts c1]] [(1, vP b 0), (3, vT out3.l), (4, vI i)]) → J Try.prog 103 B (nav (bodyOf Try.f46) [1, 1, 1, 0, 1, 0, 0, 1, 0, 0, 1, 0, 1, 0]) Q imm [hB b [vS p1 p.Arrays c, vS p2 p.Parts c1]] [(1, vP b 0), (3, vT out2.l), (4, vI i), (5, vI k0)] := by
 refine M.spec_FormatProgram_l2.partial_correctness p i _ ?_
 intro self ih out2 k0 o hM B imm0 imm Q p1 c p2 c1 b hle h h1 hg ho hx
 refine J_loop hg ho <| J_seq <| J_seq <| J_region <| R_d 4 [0] [(28, vI k0), (30, vS p1 p.Arrays c), (31, vI i)] ?_
 obtain ⟨x1, hy4, hM⟩ := bind_some hM
 refine R_ix rfl rfl h hy4 ?_
 intro ad1 ccs1 hat1 hrep1
 obtain ⟨v02, rfl, h4⟩ := impl_Array_open hrep1
 obtain ⟨p4, c3, rfl⟩ := h4.form
 refine R_d 6 [] [(33, .pointer (some (ad1.add 1)))] <| R_la 1 hat1 [vS p4 x1.Dims c3] (vS p4 x1.Dims c3) rfl <| R_z [] [(36, .bool (decide (k0 < (x1.Dims.length : Int))))] <| T_seq <| J_cd hM ?_ ?_
 · intro hc2 hM
   refine J_skip <| T_seq <| J_seq <| J_block <| J_region <| R_d 1 [] [(39, vT out2.l)] ?_
   obtain ⟨s2, hy5, hM⟩ := bind_some hM
   refine R_ca rfl hy5 <| R_d 5 [0] [(42, vS p1 p.Arrays c), (43, vI i)] ?_
   obtain ⟨x2, hy6, hM⟩ := bind_some hM
   refine R_ix rfl rfl h hy6 ?_
   intro ad2 ccs2 hat2 hrep2
   obtain ⟨v03, rfl, h5⟩ := impl_Array_open hrep2
   obtain ⟨p5, c4, rfl⟩ := h5.form
   refine R_d 7 [] [(45, .pointer (some (ad2.add 1)))] <| R_la 1 hat2 [vS p5 x2.Dims c4] (vS p5 x2.Dims c4) rfl <| R_d 9 [] [(47, vI k0)] ?_
   obtain ⟨x3, hy7, hM⟩ := bind_some hM
   refine R_ix rfl rfl h5 hy7 ?_
   intro ad3 ccs3 hat3 hrep3
   obtain rfl := hrep3
   refine R_la 0 hat3 [vI x3] (vI x3) rfl ?_
   obtain ⟨y1, hy8, hM⟩ := bind_some hM
   refine R_call (hs1 := []) (rest := [hB b [vS p1 p.Arrays c, vS p2 p.Parts c1]]) rfl rfl rfl rfl (by kernel_rfl) rfl rfl (spec_l16Dec_ok x3 _ hy8 ) ?_
   rintro imm01 hs2 v2 k2 le1 - ⟨v04, rfl, rfl, rfl⟩ -
   replace h := h.mono le1
   replace h1 := h1.mono le1
   replace hle := hle.trans le1
   obtain ⟨s3, hy9, hM⟩ := bind_some hM
   exact R_ca rfl hy9 <| R_z [] [(3, vT s3.l)] <| T_block_normal <| T_seq <| J_region <| R_z [] [(5, vI (W (k0 + 1)))] <| T_loop <| J_w [(1, vP b 0), (3, vT s3.l), (4, vI i), (5, vI (W (k0 + 1)))] <| ih s3 (W (k0 + 1)) _ hM hle h h1 hg ho hx
 · intro hc2 hM
   exact J_exit <| T_then_exit <| T_then_exit <| T_w [(1, vP b 0), (3, vT out2.l), (4, vI i)] <| hx _ _ (pure_some hM).symm hle
def M.spec_FormatProgram_l1 (p : impl_Program) (out : Str) (i : Int) : Option (Str) := do
 if (decide (i < (p.Arrays.length : Int))) then
  let s ← cat out (⟨[97, 114, 114, 97, 121, 32]⟩ : Str)
  let x ← idx p.Arrays i
  let s1 ← cat s x.Name
  let out3 ← M.spec_FormatProgram_l2 p i s1 0
  let s4 ← cat out3 (⟨[10]⟩ : Str)
  M.spec_FormatProgram_l1 p s4 (W (i + 1))
 else
  pure (id out)
 partial_fixpoint
theorem spec_FormatProgram_l1_ok (p : impl_Program) : ∀ (out : Str) (i : Int) (o : Str), M.spec_FormatProgram_l1 p out i = some o → ∀ {B : Base} {imm0 imm : Imm} {Q : Exit → Act → World → Prop}  {p1 : Option Addr} {c : Nat} {p2 : Option Addr} {c1 : Nat} {b : Nat}, imm0.le imm → (SL imm (vS p1 p.Arrays c) p.Arrays) → (SL imm (vS p2 p.Parts c1) p.Parts) → (∀ l a w, ¬ Q (.goto l) a w) → (∀ a w, ¬ Q .outgrown a w) → (∀ (imm' : Imm) (out1 : Str), o = out1 → imm0.le imm' → T 103 B Q (.exit 0) imm' [hB b [vS p1 p.Arrays c, vS p2 p.Parts c1]] [(1, vP b 0), (3, vT out1.l)]) → J Try.prog 103 B (nav (bodyOf Try.f46) [1, 1, 1, 0, 1, 0]) Q imm [hB b [vS p1 p.Arrays c, vS p2 p.Parts c1]] [(1, vP b 0), (3, vT out.l), (4, vI i)] := by
 refine M.spec_FormatProgram_l1.partial_correctness p _ ?_
 intro self ih out i o hM B imm0 imm Q p1 c p2 c1 b hle h h1 hg ho hx
 refine J_loop hg ho <| J_seq <| J_seq <| J_region <| R_z [0] [(16, .bool (decide (i < (p.Arrays.length : Int))))] <| T_seq <| J_cd hM ?_ ?_
 · intro hc1 hM
   refine J_skip <| T_seq <| J_seq <| J_block <| J_seq <| J_region <| R_d 1 [] [(19, vT out.l)] ?_
   obtain ⟨s, hy1, hM⟩ := bind_some hM
   refine R_ca rfl hy1 <| R_d 5 [0] [(22, vS p1 p.Arrays c), (23, vI i)] ?_
   obtain ⟨x, hy2, hM⟩ := bind_some hM
   refine R_ix rfl rfl h hy2 ?_
   intro ad ccs hat hrep
   obtain ⟨v01, rfl, h3⟩ := impl_Array_open hrep
   obtain ⟨p3, c2, rfl⟩ := h3.form
   refine R_d 7 [] [(25, .pointer (some ad))] <| R_la 0 hat [vT x.Name.l] (vT x.Name.l) rfl ?_
   obtain ⟨s1, hy3, hM⟩ := bind_some hM
   refine R_ca rfl hy3 <| R_z [] [(3, vT s1.l)] <| T_seq <| J_seq <| J_seq <| J_region <| R_z [] [(5, vI 0)] <| T_seq <| J_block <| J_w [(1, vP b 0), (3, vT s1.l), (4, vI i), (5, vI 0)] ?_
   obtain ⟨o0, ho0, hM⟩ := bind_some hM
   refine spec_FormatProgram_l2_ok p i s1 0 o0 ho0 (Imm.le.refl _) h h1 (fun _ _ _ h => hg _ _ _ h) (fun _ _ h => ho _ _ h) ?_
   intro imm02 out3 heq le2
   subst o0
   replace h := h.mono le2
   replace h1 := h1.mono le2
   replace hle := hle.trans le2
   refine T_block_here <| T_seq <| J_region <| R_d 1 [] [(52, vT out3.l)] ?_
   obtain ⟨s4, hy10, hM⟩ := bind_some hM
   exact R_ca rfl hy10 <| R_z [] [(3, vT s4.l)] <| T_block_normal <| T_seq <| J_region <| R_z [] [(4, vI (W (i + 1)))] <| T_loop <| J_w [(1, vP b 0), (3, vT s4.l), (4, vI (W (i + 1)))] <| ih s4 (W (i + 1)) _ hM hle h h1 hg ho hx
 · intro hc1 hM
   exact J_exit <| T_then_exit <| T_then_exit <| T_w [(1, vP b 0), (3, vT out.l)] <| hx _ _ (pure_some hM).symm hle
def M.spec_FormatProgram_l4 (p : impl_Program) (i1 : Int) (out6 : Str) (k01 : Int) : Option (Str) := do
 let x5 ← idx p.Parts i1
 if (decide (k01 < (x5.Body.length : Int))) then
  let x6 ← idx p.Parts i1
  let x7 ← idx x6.Body k01
  let y3 ← M.spec_l3AccessText x7.Write
  let s7 ← cat out6 y3
  let s8 ← cat s7 (⟨[61]⟩ : Str)
  let y4 ← M.spec_l3Text x7.Value
  let s9 ← cat s8 y4
  let s10 ← cat s9 (⟨[10]⟩ : Str)
  M.spec_FormatProgram_l4 p i1 s10 (W (k01 + 1))
 else
  pure (id out6)
 partial_fixpoint
theorem spec_FormatProgram_l4_ok (p : impl_Program) (i1 : Int) : ∀ (out6 : Str) (k01 : Int) (o : Str), M.spec_FormatProgram_l4 p i1 out6 k01 = some o → ∀ {B : Base} {imm0 imm : Imm} {Q : Exit → Act → World → Prop}  {p1 : Option Addr} {c : Nat} {p2 : Option Addr} {c1 : Nat} {b : Nat}, imm0.le imm → (SL imm (vS p1 p.Arrays c) p.Arrays) → (SL imm (vS p2 p.Parts c1) p.Parts) → (∀ l a w, ¬ Q (.goto l) a w) → (∀ a w, ¬ Q .outgrown a w) → (∀ (imm' : Imm) (out7 : Str), o = out7 → imm0.le imm' → T 103 B Q (.exit 6) imm' [hB b [vS p1 p.Arrays c, vS p2 p.Parts c1]] [(1, vP b 0), (3, vT out7.l), (6, vI i1)]) → J Try.prog 103 B (nav (bodyOf Try.f46) [1, 1, 1, 1, 0, 1, 0, 0, 1, 0, 0, 1, 1, 0]) Q imm [hB b [vS p1 p.Arrays c, vS p2 p.Parts c1]] [(1, vP b 0), (3, vT out6.l), (6, vI i1), (7, vI k01)] := by
 refine M.spec_FormatProgram_l4.partial_correctness p i1 _ ?_
 intro self ih out6 k01 o hM B imm0 imm Q p1 c p2 c1 b hle h h1 hg ho hx
 refine J_loop hg ho <| J_seq <| J_seq <| J_region <| R_d 4 [0] [(71, vI k01), (73, vS p2 p.Parts c1), (74, vI i1)] ?_
 obtain ⟨x5, hy15, hM⟩ := bind_some hM
 refine R_ix rfl rfl h1 hy15 ?_
 intro ad5 ccs5 hat5 hrep5
 obtain ⟨v08, v09, rfl, h10, h11⟩ := impl_Part_open hrep5
 obtain ⟨p8, c7, rfl⟩ := h10.form
 obtain ⟨p9, c8, rfl⟩ := h11.form
 refine R_d 6 [] [(76, .pointer (some (ad5.add 1)))] <| R_la 1 hat5 [vS p9 x5.Body c8] (vS p9 x5.Body c8) rfl <| R_z [] [(79, .bool (decide (k01 < (x5.Body.length : Int))))] <| T_seq <| J_cd hM ?_ ?_
 · intro hc4 hM
   refine J_skip <| T_seq <| J_seq <| J_block <| J_seq <| J_region <| R_d 3 [0] [(83, vS p2 p.Parts c1), (84, vI i1)] ?_
   obtain ⟨x6, hy16, hM⟩ := bind_some hM
   refine R_ix rfl rfl h1 hy16 ?_
   intro ad6 ccs6 hat6 hrep6
   obtain ⟨v010, v011, rfl, h12, h13⟩ := impl_Part_open hrep6
   obtain ⟨p10, c9, rfl⟩ := h12.form
   obtain ⟨p11, c10, rfl⟩ := h13.form
   refine R_d 5 [] [(86, .pointer (some (ad6.add 1)))] <| R_la 1 hat6 [vS p11 x6.Body c10] (vS p11 x6.Body c10) rfl <| R_d 7 [] [(88, vI k01)] ?_
   obtain ⟨x7, hy17, hM⟩ := bind_some hM
   refine R_ix rfl rfl h13 hy17 ?_
   intro ad7 ccs7 hat7 hrep7
   obtain ⟨v012, v013, v014, v015, rfl, h14, h15, h16, h17⟩ := impl_Stmt_open hrep7
   obtain ⟨p12, c11, rfl⟩ := h14.form
   obtain ⟨p13, c12, rfl⟩ := h15.form
   obtain ⟨p14, c13, rfl⟩ := h16.form
   obtain ⟨p15, c14, rfl⟩ := h17.form
   refine R_la 0 hat7 [vT x7.Write.Array.l, vS p12 x7.Write.Subs c11, vI x7.Value.Kind, vI x7.Value.Num, vS p13 x7.Value.Index.Coefs c12, vI x7.Value.Index.Const, vT x7.Value.Read.Array.l, vS p14 x7.Value.Read.Subs c13, vS p15 x7.Value.Kids c14] (vA [vT x7.Write.Array.l, vS p12 x7.Write.Subs c11, vI x7.Value.Kind, vI x7.Value.Num, vS p13 x7.Value.Index.Coefs c12, vI x7.Value.Index.Const, vT x7.Value.Read.Array.l, vS p14 x7.Value.Read.Subs c13, vS p15 x7.Value.Kids c14]) rfl <| R_alloc (c := ⟨[vT ([]), .slice none 0 0, vI 0, vI 0, .slice none 0 0, vI 0, vT ([]), .slice none 0 0, .slice none 0 0]⟩) rfl rfl rfl (by kernel_rfl) ?_
   intro b1 hb1
   refine R_sb 0 [vT x7.Write.Array.l, vS p12 x7.Write.Subs c11, vI x7.Value.Kind, vI x7.Value.Num, vS p13 x7.Value.Index.Coefs c12, vI x7.Value.Index.Const, vT x7.Value.Read.Array.l, vS p14 x7.Value.Read.Subs c13, vS p15 x7.Value.Kids c14] [hB b1 [vT x7.Write.Array.l, vS p12 x7.Write.Subs c11, vI x7.Value.Kind, vI x7.Value.Num, vS p13 x7.Value.Index.Coefs c12, vI x7.Value.Index.Const, vT x7.Value.Read.Array.l, vS p14 x7.Value.Read.Subs c13, vS p15 x7.Value.Kids c14], hB b [vS p1 p.Arrays c, vS p2 p.Parts c1]] rfl rfl rfl rfl <| R_end rfl <| T_seq ?_
   obtain ⟨y3, hy18, hM⟩ := bind_some hM
   obtain ⟨s7, hy19, hM⟩ := bind_some hM
   obtain ⟨s8, hy20, hM⟩ := bind_some hM
   obtain ⟨y4, hy21, hM⟩ := bind_some hM
   obtain ⟨s9, hy22, hM⟩ := bind_some hM
   obtain ⟨s10, hy23, hM⟩ := bind_some hM
   refine J_any [.p (vT out6.l) [], .p (vP b1 0) [], .p (vA [vT x7.Write.Array.l, vS p12 x7.Write.Subs c11]) [0], .q (vT y3.l), .q (vT s7.l), .q (vT s8.l), .p (vP b1 2) [], .p (vA [vI x7.Value.Kind, vI x7.Value.Num, vS p13 x7.Value.Index.Coefs c12, vI x7.Value.Index.Const, vT x7.Value.Read.Array.l, vS p14 x7.Value.Read.Subs c13, vS p15 x7.Value.Kids c14]) [0], .q (vT y4.l), .q (vT s9.l), .q (vT s10.l)] [[], [], [(1, false)], [(2, false)], [(0, false), (3, false)], [(4, false)], [], [(6, false)], [(7, false)], [(5, false), (8, false)], [(9, false)]] [hB b1 [vT x7.Write.Array.l, vS p12 x7.Write.Subs c11, vI x7.Value.Kind, vI x7.Value.Num, vS p13 x7.Value.Index.Coefs c12, vI x7.Value.Index.Const, vT x7.Value.Read.Array.l, vS p14 x7.Value.Read.Subs c13, vS p15 x7.Value.Kids c14], hB b [vS p1 p.Arrays c, vS p2 p.Parts c1]] [] [(10, false)] (good_pick [0, 1] rfl (by decide)) ?_ ?_
   · refine Op <| Op <| Op <| Oq ?_ <| Oq ?_ <| Oq ?_ <| Op <| Op <| Oq ?_ <| Oq ?_ <| Oq ?_ <| On
     · intro imm1 hf le1
       refine Ins_cons ?_
       rintro _ _ ⟨rfl, rfl⟩
       refine Ins_nil <| R_isw (hB b1 [vT x7.Write.Array.l, vS p12 x7.Write.Subs c11, vI x7.Value.Kind, vI x7.Value.Num, vS p13 x7.Value.Index.Coefs c12, vI x7.Value.Index.Const, vT x7.Value.Read.Array.l, vS p14 x7.Value.Read.Subs c13, vS p15 x7.Value.Kids c14] :: hB b [vS p1 p.Arrays c, vS p2 p.Parts c1] :: hf) [(93, vA [vT x7.Write.Array.l, vS p12 x7.Write.Subs c11])] ?_
       have hle := Imm.le.refl imm1
       replace h14 := h14.mono le1
       replace h15 := h15.mono le1
       replace h16 := h16.mono le1
       replace h17 := h17.mono le1
       replace h := h.mono le1
       replace h1 := h1.mono le1
       refine R_call (hs1 := []) (rest := (hB b1 [vT x7.Write.Array.l, vS p12 x7.Write.Subs c11, vI x7.Value.Kind, vI x7.Value.Num, vS p13 x7.Value.Index.Coefs c12, vI x7.Value.Index.Const, vT x7.Value.Read.Array.l, vS p14 x7.Value.Read.Subs c13, vS p15 x7.Value.Kids c14] :: hB b [vS p1 p.Arrays c, vS p2 p.Parts c1] :: hf)) rfl rfl rfl rfl (by kernel_rfl) rfl rfl (spec_l3AccessText_ok x7.Write _ hy18 h14) ?_
       rintro imm05 hs2 v2 k2 le5 - ⟨v016, rfl, rfl, rfl⟩ -
       replace h14 := h14.mono le5
       replace h15 := h15.mono le5
       replace h16 := h16.mono le5
       replace h17 := h17.mono le5
       replace h := h.mono le5
       replace h1 := h1.mono le5
       replace hle := hle.trans le5
       exact R_out (hx := []) rfl hle rfl (out_some rfl) ⟨rfl, rfl⟩
     · intro imm1 hf le1
       refine Ins_cons ?_
       rintro _ _ ⟨rfl, rfl⟩
       refine Ins_cons ?_
       rintro _ _ ⟨rfl, rfl⟩
       refine Ins_nil <| R_isw (hB b1 [vT x7.Write.Array.l, vS p12 x7.Write.Subs c11, vI x7.Value.Kind, vI x7.Value.Num, vS p13 x7.Value.Index.Coefs c12, vI x7.Value.Index.Const, vT x7.Value.Read.Array.l, vS p14 x7.Value.Read.Subs c13, vS p15 x7.Value.Kids c14] :: hB b [vS p1 p.Arrays c, vS p2 p.Parts c1] :: hf) [(91, vT out6.l), (94, vT y3.l)] ?_
       have hle := Imm.le.refl imm1
       exact R_ca rfl hy19 <| R_out (hx := []) rfl hle rfl (out_some rfl) ⟨rfl, rfl⟩
     · intro imm1 hf le1
       refine Ins_cons ?_
       rintro _ _ ⟨rfl, rfl⟩
       refine Ins_nil <| R_isw (hB b1 [vT x7.Write.Array.l, vS p12 x7.Write.Subs c11, vI x7.Value.Kind, vI x7.Value.Num, vS p13 x7.Value.Index.Coefs c12, vI x7.Value.Index.Const, vT x7.Value.Read.Array.l, vS p14 x7.Value.Read.Subs c13, vS p15 x7.Value.Kids c14] :: hB b [vS p1 p.Arrays c, vS p2 p.Parts c1] :: hf) [(95, vT s7.l)] ?_
       have hle := Imm.le.refl imm1
       exact R_ca rfl hy20 <| R_out (hx := []) rfl hle rfl (out_some rfl) ⟨rfl, rfl⟩
     · intro imm1 hf le1
       refine Ins_cons ?_
       rintro _ _ ⟨rfl, rfl⟩
       refine Ins_nil <| R_isw (hB b1 [vT x7.Write.Array.l, vS p12 x7.Write.Subs c11, vI x7.Value.Kind, vI x7.Value.Num, vS p13 x7.Value.Index.Coefs c12, vI x7.Value.Index.Const, vT x7.Value.Read.Array.l, vS p14 x7.Value.Read.Subs c13, vS p15 x7.Value.Kids c14] :: hB b [vS p1 p.Arrays c, vS p2 p.Parts c1] :: hf) [(98, vA [vI x7.Value.Kind, vI x7.Value.Num, vS p13 x7.Value.Index.Coefs c12, vI x7.Value.Index.Const, vT x7.Value.Read.Array.l, vS p14 x7.Value.Read.Subs c13, vS p15 x7.Value.Kids c14])] ?_
       have hle := Imm.le.refl imm1
       replace h14 := h14.mono le1
       replace h15 := h15.mono le1
       replace h16 := h16.mono le1
       replace h17 := h17.mono le1
       replace h := h.mono le1
       replace h1 := h1.mono le1
       refine R_call (hs1 := []) (rest := (hB b1 [vT x7.Write.Array.l, vS p12 x7.Write.Subs c11, vI x7.Value.Kind, vI x7.Value.Num, vS p13 x7.Value.Index.Coefs c12, vI x7.Value.Index.Const, vT x7.Value.Read.Array.l, vS p14 x7.Value.Read.Subs c13, vS p15 x7.Value.Kids c14] :: hB b [vS p1 p.Arrays c, vS p2 p.Parts c1] :: hf)) rfl rfl rfl rfl (by kernel_rfl) rfl rfl (spec_l3Text_ok x7.Value _ hy21 h15 h16 h17) ?_
       rintro imm06 hs2 v2 k2 le6 - ⟨v017, rfl, rfl, rfl⟩ -
       replace h15 := h15.mono le6
       replace h16 := h16.mono le6
       replace h17 := h17.mono le6
       replace h14 := h14.mono le6
       replace h := h.mono le6
       replace h1 := h1.mono le6
       replace hle := hle.trans le6
       exact R_out (hx := []) rfl hle rfl (out_some rfl) ⟨rfl, rfl⟩
     · intro imm1 hf le1
       refine Ins_cons ?_
       rintro _ _ ⟨rfl, rfl⟩
       refine Ins_cons ?_
       rintro _ _ ⟨rfl, rfl⟩
       refine Ins_nil <| R_isw (hB b1 [vT x7.Write.Array.l, vS p12 x7.Write.Subs c11, vI x7.Value.Kind, vI x7.Value.Num, vS p13 x7.Value.Index.Coefs c12, vI x7.Value.Index.Const, vT x7.Value.Read.Array.l, vS p14 x7.Value.Read.Subs c13, vS p15 x7.Value.Kids c14] :: hB b [vS p1 p.Arrays c, vS p2 p.Parts c1] :: hf) [(96, vT s8.l), (99, vT y4.l)] ?_
       have hle := Imm.le.refl imm1
       exact R_ca rfl hy22 <| R_out (hx := []) rfl hle rfl (out_some rfl) ⟨rfl, rfl⟩
     · intro imm1 hf le1
       refine Ins_cons ?_
       rintro _ _ ⟨rfl, rfl⟩
       refine Ins_nil <| R_isw (hB b1 [vT x7.Write.Array.l, vS p12 x7.Write.Subs c11, vI x7.Value.Kind, vI x7.Value.Num, vS p13 x7.Value.Index.Coefs c12, vI x7.Value.Index.Const, vT x7.Value.Read.Array.l, vS p14 x7.Value.Read.Subs c13, vS p15 x7.Value.Kids c14] :: hB b [vS p1 p.Arrays c, vS p2 p.Parts c1] :: hf) [(100, vT s9.l)] ?_
       have hle := Imm.le.refl imm1
       exact R_ca rfl hy23 <| R_out (hx := []) rfl hle rfl (out_some rfl) ⟨rfl, rfl⟩
   · intro imm07 le7
     refine Ins_cons ?_
     rintro _ _ ⟨rfl, rfl⟩
     refine Ins_nil <| R_isw [hB b1 [vT x7.Write.Array.l, vS p12 x7.Write.Subs c11, vI x7.Value.Kind, vI x7.Value.Num, vS p13 x7.Value.Index.Coefs c12, vI x7.Value.Index.Const, vT x7.Value.Read.Array.l, vS p14 x7.Value.Read.Subs c13, vS p15 x7.Value.Kids c14], hB b [vS p1 p.Arrays c, vS p2 p.Parts c1]] [(1, vP b 0), (6, vI i1), (7, vI k01), (101, vT s10.l)] ?_
     replace h14 := h14.mono le7
     replace h15 := h15.mono le7
     replace h16 := h16.mono le7
     replace h17 := h17.mono le7
     replace h := h.mono le7
     replace h1 := h1.mono le7
     replace hle := hle.trans le7
     exact R_z [] [(3, vT s10.l)] <| T_block_normal <| T_seq <| J_region <| R_z [] [(7, vI (W (k01 + 1)))] <| T_loop <| J_hs (good_pick [1] rfl (by decide)) <| J_w [(1, vP b 0), (3, vT s10.l), (6, vI i1), (7, vI (W (k01 + 1)))] <| ih s10 (W (k01 + 1)) _ hM hle h h1 hg ho hx
 · intro hc4 hM
   exact J_exit <| T_then_exit <| T_then_exit <| T_w [(1, vP b 0), (3, vT out6.l), (6, vI i1)] <| hx _ _ (pure_some hM).symm hle
def M.spec_FormatProgram_l3 (p : impl_Program) (out4 : Str) (i1 : Int) : Option (Str) := do
 if (decide (i1 < (p.Parts.length : Int))) then
  let s5 ← cat out4 (⟨[112, 97, 114, 116, 10]⟩ : Str)
  let x4 ← idx p.Parts i1
  let y2 ← M.spec_l2Text x4.Nest
  let s6 ← cat s5 y2
  let out7 ← M.spec_FormatProgram_l4 p i1 s6 0
  M.spec_FormatProgram_l3 p out7 (W (i1 + 1))
 else
  pure (id out4)
 partial_fixpoint
theorem spec_FormatProgram_l3_ok (p : impl_Program) : ∀ (out4 : Str) (i1 : Int) (o : Str), M.spec_FormatProgram_l3 p out4 i1 = some o → ∀ {B : Base} {imm0 imm : Imm} {Q : Exit → Act → World → Prop}  {p1 : Option Addr} {c : Nat} {p2 : Option Addr} {c1 : Nat} {b : Nat}, imm0.le imm → (SL imm (vS p1 p.Arrays c) p.Arrays) → (SL imm (vS p2 p.Parts c1) p.Parts) → (∀ l a w, ¬ Q (.goto l) a w) → (∀ a w, ¬ Q .outgrown a w) → (∀ (imm' : Imm) (out5 : Str), o = out5 → imm0.le imm' → T 103 B Q (.exit 4) imm' [] [(3, vT out5.l)]) → J Try.prog 103 B (nav (bodyOf Try.f46) [1, 1, 1, 1, 0, 1, 0]) Q imm [hB b [vS p1 p.Arrays c, vS p2 p.Parts c1]] [(1, vP b 0), (3, vT out4.l), (6, vI i1)] := by
 refine M.spec_FormatProgram_l3.partial_correctness p _ ?_
 intro self ih out4 i1 o hM B imm0 imm Q p1 c p2 c1 b hle h h1 hg ho hx
 refine J_loop hg ho <| J_seq <| J_seq <| J_region <| R_z [0] [(58, .bool (decide (i1 < (p.Parts.length : Int))))] <| T_seq <| J_cd hM ?_ ?_
 · intro hc3 hM
   refine J_skip <| T_seq <| J_seq <| J_block <| J_seq <| J_region <| R_d 1 [] [(61, vT out4.l)] ?_
   obtain ⟨s5, hy11, hM⟩ := bind_some hM
   refine R_ca rfl hy11 <| R_d 5 [0] [(64, vS p2 p.Parts c1), (65, vI i1)] ?_
   obtain ⟨x4, hy12, hM⟩ := bind_some hM
   refine R_ix rfl rfl h1 hy12 ?_
   intro ad4 ccs4 hat4 hrep4
   obtain ⟨v05, v06, rfl, h7, h8⟩ := impl_Part_open hrep4
   obtain ⟨p6, c5, rfl⟩ := h7.form
   obtain ⟨p7, c6, rfl⟩ := h8.form
   refine R_d 7 [] [(67, .pointer (some ad4))] <| R_la 0 hat4 [vS p6 x4.Nest c5] (vS p6 x4.Nest c5) rfl ?_
   obtain ⟨y2, hy13, hM⟩ := bind_some hM
   refine R_call (hs1 := []) (rest := [hB b [vS p1 p.Arrays c, vS p2 p.Parts c1]]) rfl rfl rfl rfl (by kernel_rfl) rfl rfl (spec_l2Text_ok x4.Nest _ hy13 h7) ?_
   rintro imm04 hs2 v2 k2 le4 - ⟨v07, rfl, rfl, rfl⟩ -
   replace h := h.mono le4
   replace h1 := h1.mono le4
   replace hle := hle.trans le4
   obtain ⟨s6, hy14, hM⟩ := bind_some hM
   refine R_ca rfl hy14 <| R_z [] [(3, vT s6.l)] <| T_seq <| J_seq <| J_region <| R_z [] [(7, vI 0)] <| T_seq <| J_block <| J_w [(1, vP b 0), (3, vT s6.l), (6, vI i1), (7, vI 0)] ?_
   obtain ⟨o02, ho02, hM⟩ := bind_some hM
   refine spec_FormatProgram_l4_ok p i1 s6 0 o02 ho02 (Imm.le.refl _) h h1 (fun _ _ _ h => hg _ _ _ h) (fun _ _ h => ho _ _ h) ?_
   intro imm08 out7 heq2 le8
   subst o02
   replace h := h.mono le8
   replace h1 := h1.mono le8
   replace hle := hle.trans le8
   exact T_block_here <| T_block_normal <| T_seq <| J_region <| R_z [] [(6, vI (W (i1 + 1)))] <| T_loop <| J_w [(1, vP b 0), (3, vT out7.l), (6, vI (W (i1 + 1)))] <| ih out7 (W (i1 + 1)) _ hM hle h h1 hg ho hx
 · intro hc3 hM
   exact J_exit <| T_then_exit <| T_then_exit <| T_hs (good_pick [] rfl (by decide)) <| T_w [(3, vT out4.l)] <| hx _ _ (pure_some hM).symm hle
def M.spec_FormatProgram (p : impl_Program) : Option (Str) := do
 let y ← M.spec_ProgramValid p
 if (!y) then
  pure (⟨[]⟩ : Str)
 else
  let out1 ← M.spec_FormatProgram_l1 p (⟨[112, 114, 111, 103, 114, 97, 109, 10]⟩ : Str) 0
  let out5 ← M.spec_FormatProgram_l3 p out1 0
  pure (id out5)
theorem spec_FormatProgram_ok : ∀ (p : impl_Program) r, M.spec_FormatProgram p = some r → ∀ {imm : Imm} {p1 : Option Addr} {c : Nat} {p2 : Option Addr} {c1 : Nat}, (SL imm (vS p1 p.Arrays c) p.Arrays) → (SL imm (vS p2 p.Parts c1) p.Parts) → Ret Try.prog 46 [vA [vS p1 p.Arrays c, vS p2 p.Parts c1]] imm [] (spec_FormatProgram_post  r) := by
 intro p r hM imm p1 c p2 c1 h h1
 unfold M.spec_FormatProgram at hM
 refine ret_of_J (fn := Try.f46) (c := (bodyOf Try.f46)) Try.func46 rfl rfl ?_
 rintro B - -
 have hle : imm.le imm := Imm.le.refl _
 refine J_seq <| J_region <| R_box (c := ⟨[vS p1 p.Arrays c, vS p2 p.Parts c1]⟩) rfl rfl rfl rfl rfl ?_
 intro b hb
 refine R_z [] [] <| T_seq <| J_seq <| J_seq <| J_region <| R_d 1 [0] [(9, vA [vS p1 p.Arrays c, vS p2 p.Parts c1])] ?_
 obtain ⟨y, hy, hM⟩ := bind_some hM
 refine R_call (hs1 := []) (rest := [hB b [vS p1 p.Arrays c, vS p2 p.Parts c1]]) rfl rfl rfl rfl (by kernel_rfl) rfl rfl (spec_ProgramValid_ok p _ hy h h1) ?_
 rintro imm0 hs2 v2 k2 le - ⟨v0, rfl, rfl, rfl⟩ -
 replace h := h.mono le
 replace h1 := h1.mono le
 replace hle := hle.trans le
 refine R_z [] [(11, .bool (!y))] <| T_seq <| J_cd hM ?_ ?_
 · intro hc hM
   refine J_seq <| J_region <| R_z [] [(2, vT ([]))] <| T_seq <| J_ret <| T_then_ret ?_
   obtain rfl := pure_some hM
   exact T_RS ⟨_, _, (.tmp rfl ResV.nil), good_none, ⟨_, rfl, rfl, rfl⟩⟩
 · intro hc hM
   refine J_skip <| T_seq <| J_seq <| J_region <| R_z [] [(3, vT ([112, 114, 111, 103, 114, 97, 109, 10]))] <| T_seq <| J_seq <| J_seq <| J_region <| R_z [] [(4, vI 0)] <| T_seq <| J_block <| J_w [(1, vP b 0), (3, vT ([112, 114, 111, 103, 114, 97, 109, 10])), (4, vI 0)] ?_
   obtain ⟨o01, ho01, hM⟩ := bind_some hM
   refine spec_FormatProgram_l1_ok p (⟨[112, 114, 111, 103, 114, 97, 109, 10]⟩ : Str) 0 o01 ho01 (Imm.le.refl _) h h1 (fun _ _ _ h => h) (fun _ _ h => h) ?_
   intro imm03 out1 heq1 le3
   subst o01
   replace h := h.mono le3
   replace h1 := h1.mono le3
   replace hle := hle.trans le3
   refine T_block_here <| T_seq <| J_seq <| J_seq <| J_region <| R_z [] [(6, vI 0)] <| T_seq <| J_block <| J_w [(1, vP b 0), (3, vT out1.l), (6, vI 0)] ?_
   obtain ⟨o03, ho03, hM⟩ := bind_some hM
   refine spec_FormatProgram_l3_ok p out1 0 o03 ho03 (Imm.le.refl _) h h1 (fun _ _ _ h => h) (fun _ _ h => h) ?_
   intro imm09 out5 heq3 le9
   subst o03
   replace hle := hle.trans le9
   refine T_block_here <| T_seq <| J_seq <| J_region <| R_z [] [(2, vT out5.l)] <| T_seq <| J_ret ?_
   obtain rfl := pure_some hM
   exact T_RS ⟨_, _, (.tmp rfl ResV.nil), good_none, ⟨_, rfl, rfl, rfl⟩⟩
instance MonoI_L4 {cs : List Value} {arr : List impl_Array} {cs1 : List Value} {raws : List Raw2} {parts : List impl_Part} {vN : Value} {nl : List impl_Loop} {vB : Value} {bl : List impl_Stmt} {csN csB : List Value} : MonoI (fun i => L4 i cs arr cs1 raws parts vN nl vB bl csN csB) := ⟨fun _ _ hl h => h.mono hl⟩
def spec_ParseProgram_post (r : impl_Program × Bool) : Nat → Imm → List HA → Value → Prop := fun kk imm' hs' v =>
  ∃ (v0 v1 : Value), hs' = [] ∧ v = tupV [v0, v1] ∧ (∃ cs, v0 = .agg ⟨cs⟩ ∧ Rp.rep imm' cs r.1) ∧ v1 = .bool r.2
def M.spec_ParseProgram_l1 (y : List Str) (p : impl_Program) (i : Int) : Option impl_Program := do
 if (decide ((W (i + 1)) < (y.length : Int))) then
  let x ← idx y i
  let p1 ← M.spec_l4Line p x
  M.spec_ParseProgram_l1 y p1 (W (i + 1))
 else
  pure p
 partial_fixpoint
theorem spec_ParseProgram_l1_ok (y : List Str) : ∀ (p : impl_Program) (i : Int) (o : impl_Program), M.spec_ParseProgram_l1 y p i = some o → ∀ {B : Base} {imm0 imm : Imm} {Q : Exit → Act → World → Prop} {text : Str} {pl : Option Addr} {cl : Nat} {b b1 : Nat} {p1 : Option Addr} {c : Nat} {cs : List Value} {p2 : Option Addr} {c1 : Nat} {cs1 : List Value} {raws : List Raw2} {vN vB : Value} {nl : List impl_Loop} {bl : List impl_Stmt} {csN csB : List Value}, imm0.le imm → (SL imm (vS pl y cl) y) → L4 imm cs p.Arrays cs1 raws p.Parts vN nl vB bl csN csB → (∀ l a w, ¬ Q (.goto l) a w) → (∀ a w, ¬ Q .outgrown a w) →
   (∀ (imm' : Imm) (p1 : Option Addr) (c : Nat) (cs : List Value) (p2 : Option Addr) (c1 : Nat) (cs1 : List Value) (raws : List Raw2) (vN vB : Value) (nl : List impl_Loop) (bl : List impl_Stmt) (csN csB : List Value), imm0.le imm' → L4 imm' cs o.Arrays cs1 raws o.Parts vN nl vB bl csN csB → T 37 B Q (.exit 0) imm' [hO impl_Array (vS p1 o.Arrays c) cs, hO Raw2 (vS p2 raws c1) cs1, hO impl_Loop vN csN, hO impl_Stmt vB csB, hB b1 [vS p1 o.Arrays c, vS p2 raws c1], hB b [.slice none 0 0, .slice none 0 0]] [(0, vT text.l), (2, vP b 0), (5, vP b1 0)]) →
   J Try.prog 37 B (nav (bodyOf Try.f38) [1, 1, 1, 1, 0, 1, 0]) Q imm [hO impl_Array (vS p1 p.Arrays c) cs, hO Raw2 (vS p2 raws c1) cs1, hO impl_Loop vN csN, hO impl_Stmt vB csB, hB b1 [vS p1 p.Arrays c, vS p2 raws c1], hB b [.slice none 0 0, .slice none 0 0]] [(0, vT text.l), (2, vP b 0), (4, vS pl y cl), (5, vP b1 0), (6, vI i)] := by
 refine M.spec_ParseProgram_l1.partial_correctness y _ ?_
 intro self ih p i o hM B imm0 imm Q text pl cl b b1 p1 c cs p2 c1 cs1 raws vN vB nl bl csN csB hle h hQ hg ho hx
 refine J_loop hg ho <| J_seq <| J_seq <| J_region <| R_z [] [(18, .bool (decide ((W (i + 1)) < (y.length : Int))))] <| T_seq <| J_cd hM ?_ ?_
 · intro hc1 hM
   refine J_skip <| T_seq <| J_seq <| J_block ?_
   obtain ⟨x, hy, hM⟩ := bind_some hM
   obtain ⟨q, hy1, hM⟩ := bind_some hM
   refine J_any [.p (vA [vS p1 p.Arrays c, vS p2 raws c1]) [0], .p (vS pl y cl) [], .p (vI i) [], .x (fun imm' v hx => ∃ (ad : Addr), v = .pointer (some ad) ∧ hx = [] ∧ (At imm' ad [vT x.l])), .x (fun imm' v hx => v = vT x.l ∧ hx = []), .x (fun imm' v hx => ∃ (p1 : Option Addr) (c : Nat) (cs : List Value) (p2 : Option Addr) (c1 : Nat) (cs1 : List Value) (raws : List Raw2) (vN vB : Value) (nl : List impl_Loop) (bl : List impl_Stmt) (csN csB : List Value), v = vA [vS p1 q.Arrays c, vS p2 raws c1] ∧ hx = [hO impl_Array (vS p1 q.Arrays c) cs, hO Raw2 (vS p2 raws c1) cs1, hO impl_Loop vN csN, hO impl_Stmt vB csB] ∧ L4 imm' cs q.Arrays cs1 raws q.Parts vN nl vB bl csN csB)] [[], [], [], [(1, false), (2, false)], [(3, false)], [(0, false), (4, false), (7, true)]] [hB b1 [vS p1 p.Arrays c, vS p2 raws c1], hB b [.slice none 0 0, .slice none 0 0]] [[hO impl_Array (vS p1 p.Arrays c) cs, hO Raw2 (vS p2 raws c1) cs1, hO impl_Loop vN csN, hO impl_Stmt vB csB]] [(5, true)] (good_pick [4, 5, 0, 1, 2, 3] rfl (by decide)) ?_ ?_
   · refine Op <| Op <| Op <| Ox ?_ <| Ox ?_ <| Ox (hm := fun v hx => by repeat' (first | exact MonoI_const | exact MonoI_L4 | refine @MonoI_ex _ _ (fun _ => ?_) | refine @MonoI_and _ _ ?_ ?_)) ?_ <| On
     · intro imm1 hf le1
       refine Ins_cons ?_
       rintro _ _ ⟨rfl, rfl⟩
       refine Ins_cons ?_
       rintro _ _ ⟨rfl, rfl⟩
       refine Ins_nil <| R_isw (hB b1 [vS p1 p.Arrays c, vS p2 raws c1] :: hB b [.slice none 0 0, .slice none 0 0] :: hf) [(22, vS pl y cl), (23, vI i)] <| R_ix rfl rfl (h.mono le1) hy ?_
       intro ad ccs hat hrep
       obtain rfl := hrep
       exact R_out (hx := []) rfl (Imm.le.refl _) rfl (out_some rfl) ⟨_, rfl, rfl, hat⟩
     · intro imm1 hf le1
       refine Ins_cons ?_
       rintro _ _ ⟨ad, rfl, rfl, hat⟩
       exact Ins_nil <| R_isw (hB b1 [vS p1 p.Arrays c, vS p2 raws c1] :: hB b [.slice none 0 0, .slice none 0 0] :: hf) [(24, .pointer (some ad))] <| R_la 0 hat [vT x.l] (vT x.l) rfl <| R_out (hx := []) rfl (Imm.le.refl _) rfl (out_some rfl) ⟨rfl, rfl⟩
     · intro imm1 hf le1
       refine Ins_cons ?_
       rintro _ _ ⟨rfl, rfl⟩
       refine Ins_cons ?_
       rintro _ _ ⟨rfl, rfl⟩
       refine Ins_cons ?_
       rintro _ _ rfl
       refine Ins_nil <| R_isw (hO impl_Array (vS p1 p.Arrays c) cs :: hO Raw2 (vS p2 raws c1) cs1 :: hO impl_Loop vN csN :: hO impl_Stmt vB csB :: hB b1 [vS p1 p.Arrays c, vS p2 raws c1] :: hB b [.slice none 0 0, .slice none 0 0] :: hf) [(21, vA [vS p1 p.Arrays c, vS p2 raws c1]), (25, vT x.l)] <| R_call (hs1 := [hO impl_Array (vS p1 p.Arrays c) cs, hO Raw2 (vS p2 raws c1) cs1, hO impl_Loop vN csN, hO impl_Stmt vB csB]) (rest := hB b1 [vS p1 p.Arrays c, vS p2 raws c1] :: hB b [.slice none 0 0, .slice none 0 0] :: hf) rfl rfl rfl rfl (by kernel_rfl) rfl rfl (spec_l4Line_ok p x _ hy1 (hQ.mono le1)) ?_
       rintro imm02 hs2 v2 k2 le2 - ⟨p3, c2, cs2, p4, c3, cs3, raws1, vN1, vB1, nl1, bl1, csN1, csB1, rfl, rfl, hq⟩ -
       exact R_out (hx := [hO impl_Array (vS p3 q.Arrays c2) cs2, hO Raw2 (vS p4 raws1 c3) cs3, hO impl_Loop vN1 csN1, hO impl_Stmt vB1 csB1]) rfl le2 rfl (out_some rfl) ⟨_, _, _, _, _, _, _, _, _, _, _, _, _, rfl, rfl, hq⟩
   · intro imm04 le4
     refine Ins_cons ?_
     rintro _ _ ⟨p3, c2, cs2, p4, c3, cs3, raws1, vN1, vB1, nl1, bl1, csN1, csB1, rfl, rfl, hq⟩
     exact Ins_nil <| R_isw (hO impl_Array (vS p3 q.Arrays c2) cs2 :: hO Raw2 (vS p4 raws1 c3) cs3 :: hO impl_Loop vN1 csN1 :: hO impl_Stmt vB1 csB1 :: [hB b1 [vS p1 p.Arrays c, vS p2 raws c1], hB b [.slice none 0 0, .slice none 0 0]]) [(0, vT text.l), (2, vP b 0), (4, vS pl y cl), (5, vP b1 0), (6, vI i), (26, vA [vS p3 q.Arrays c2, vS p4 raws1 c3])] <| R_sb 4 [vS p3 q.Arrays c2, vS p4 raws1 c3] [hO impl_Array (vS p3 q.Arrays c2) cs2, hO Raw2 (vS p4 raws1 c3) cs3, hO impl_Loop vN1 csN1, hO impl_Stmt vB1 csB1, hB b1 [vS p3 q.Arrays c2, vS p4 raws1 c3], hB b [.slice none 0 0, .slice none 0 0]] rfl rfl rfl rfl <| R_end rfl <| T_block_normal <| T_seq <| J_region <| R_z [] [(6, vI (W (i + 1)))] <| T_loop <| J_w [(0, vT text.l), (2, vP b 0), (4, vS pl y cl), (5, vP b1 0), (6, vI (W (i + 1)))] <| ih _ _ _ hM (hle.trans le4) (h.mono le4) hq hg ho hx
 · intro hc1 hM
   obtain rfl := pure_some hM
   exact J_exit <| T_then_exit <| T_then_exit <| T_w [(0, vT text.l), (2, vP b 0), (5, vP b1 0)] <| hx _ _ _ _ _ _ _ _ _ _ _ _ _ _ hle hQ
def M.spec_ParseProgram (text : Str) : Option (impl_Program × Bool) := do
 let y ← M.spec_l16Cut text (10 : UInt8)
 if (decide ((y.length : Int) > 42)) then
  pure ((impl_Program.mk [] []), false)
 else
  let p ← M.spec_ParseProgram_l1 y (impl_Program.mk [] []) 1
  let t34 ← (do
    if (text.l == ([] : List UInt8)) then
     pure true
    else
     let z ← M.spec_FormatProgram p
     pure (!(z.l == text.l))
      : Option Bool)
  if t34 then
   pure ((impl_Program.mk [] []), false)
  else
   pure (p, true)
theorem spec_ParseProgram_ok : ∀ (text : Str) r, M.spec_ParseProgram text = some r → ∀ {imm : Imm}, Ret Try.prog 38 [vT text.l] imm [] (spec_ParseProgram_post r) := by
 intro text r hM imm
 unfold M.spec_ParseProgram at hM
 refine ret_of_J (fn := Try.f38) (c := (bodyOf Try.f38)) Try.func38 rfl rfl ?_
 rintro B - -
 have hle : imm.le imm := Imm.le.refl _
 refine J_seq <| J_region <| R_alloc (c := ⟨[.slice none 0 0, .slice none 0 0]⟩) rfl rfl rfl (by kernel_rfl) ?_
 intro b hb
 refine R_z [] [] <| T_seq <| J_seq <| J_region <| R_d 1 [] [(7, vT text.l)] ?_
 obtain ⟨y, hy, hM⟩ := bind_some hM
 refine R_call (hs1 := []) (rest := [hB b [.slice none 0 0, .slice none 0 0]]) rfl rfl rfl rfl (by kernel_rfl) rfl rfl (spec_l16Cut_ok text (10 : UInt8) _ hy) ?_
 rintro imm0 hs2 v2 k2 le - ⟨v0, rfl, rfl, h⟩ -
 obtain ⟨pl, cl, rfl⟩ := h.form
 refine R_z [] [(4, vS pl y cl)] <| T_seq <| J_seq <| J_region <| R_d 1 [] [(9, vA [.slice none 0 0, .slice none 0 0])] <| R_alloc (c := ⟨[.slice none 0 0, .slice none 0 0]⟩) rfl rfl rfl (by kernel_rfl) ?_
 intro b1 hb1
 refine R_sb 0 [.slice none 0 0, .slice none 0 0] [hB b1 [.slice none 0 0, .slice none 0 0], hB b [.slice none 0 0, .slice none 0 0]] rfl rfl rfl rfl <| R_end rfl <| T_seq <| J_seq <| J_seq <| J_region <| R_z [] [(12, .bool (decide ((y.length : Int) > 42)))] <| T_seq <| J_cd hM ?_ ?_
 · intro hc hM
   refine J_seq <| J_region <| R_d 1 [0] [(13, vA [.slice none 0 0, .slice none 0 0])] <| R_sb 1 [.slice none 0 0, .slice none 0 0] [hB b1 [.slice none 0 0, .slice none 0 0], hB b [.slice none 0 0, .slice none 0 0]] rfl rfl rfl rfl <| R_z [] [(3, .bool false)] <| T_seq <| J_ret <| T_then_ret ?_
   obtain rfl := pure_some hM
   exact T_RS ⟨_, _, (.cell 1 rfl rfl (by kernel_rfl) (.tmp rfl ResV.nil)), good_none, ⟨_, _, rfl, rfl, ⟨_, rfl, (impl_Program_shut ⟨_, _, rfl, (SL.nil _), (SL.nil _)⟩)⟩, rfl⟩⟩
 · intro hc hM
   refine J_skip <| T_seq <| J_seq <| J_seq <| J_region <| R_z [] [(6, vI 1)] <| T_seq <| J_block <| J_w [(0, vT text.l), (2, vP b 0), (4, vS pl y cl), (5, vP b1 0), (6, vI 1)] <| J_hs (good_nil (Rp.sz impl_Stmt)) <| J_hs (good_nil (Rp.sz impl_Loop)) <| J_hs (good_nil (Rp.sz Raw2)) <| J_hs (good_nil (Rp.sz impl_Array)) ?_
   obtain ⟨p, hy1, hM⟩ := bind_some hM
   refine spec_ParseProgram_l1_ok (raws := []) (vN := .slice none 0 0) (vB := .slice none 0 0) (nl := []) (bl := []) y (impl_Program.mk [] []) 1 p hy1 (Imm.le.refl _) h ⟨RepL.nil, RepL.nil, ⟨by decide, rfl, .inl ⟨rfl, rfl⟩⟩, RepL.nil, RepL.nil⟩ (fun _ _ _ h => h) (fun _ _ h => h) ?_
   intro imm1 p1 c cs p2 c1 cs1 raws vN vB nl bl csN csB le1 hQ
   refine T_freeze 2 rfl ?_
   intro imm2 le2 hl2
   have kN := SL.of_frozen hl2 le2 hQ.n
   replace hQ := hQ.mono le2
   refine T_freeze 2 rfl ?_
   intro imm3 le3 hl3
   have kB := SL.of_frozen hl3 le3 hQ.b
   replace kN := kN.mono le3
   replace hQ := hQ.mono le3
   refine T_freeze 0 rfl ?_
   intro imm4 le4 hl4
   have kA := SL.of_frozen hl4 le4 hQ.arr
   replace kN := kN.mono le4
   replace kB := kB.mono le4
   replace hQ := hQ.mono le4
   refine T_freeze 0 rfl ?_
   intro imm5 le5 hl5
   have kP : SL imm5 (vS p2 raws c1) p.Parts := ⟨cs1, hl5, by
     rw [raw_cells hQ.raw]
     exact (hQ.lp.done kN kB).mono fun _ _ => Rp.mono le5⟩
   have e0 : vS p2 raws c1 = vS p2 p.Parts c1 := by simp only [vS, hQ.lp.2.1]
   rw [e0] at kP ⊢
   clear e0 hl5 hl4 hl3 hl2 hQ
   replace kA := kA.mono le5
   refine T_block_here <| T_seq <| J_seq <| J_seq ?_
   obtain ⟨t34, ht, hM⟩ := bind_some hM
   refine J_cut (fun imm' hs' m' => ∃ (o : Bool), t34 = o ∧ imm5.le imm' ∧ hs' = [hB b1 [vS p1 p.Arrays c, vS p2 p.Parts c1], hB b [.slice none 0 0, .slice none 0 0]] ∧ m' = [(2, vP b 0), (5, vP b1 0), (34, .bool o)]) ?_ ?_
   · refine J_region <| R_d 3 [] [(29, .bool (text.l == ([] : List UInt8)))] ?_
     cases hc2 : (text.l == ([] : List UInt8)) with
     | true =>
      have hM0 := if_some_true hc2 ht
      exact R_z [] [(34, .bool true)] <| T_w [(2, vP b 0), (5, vP b1 0), (34, .bool true)] <| T_cut ⟨_, (pure_some hM0).symm, Imm.le.refl _, rfl, rfl⟩
     | false =>
      have hM0 := if_some_false hc2 ht
      obtain ⟨z, hz, hM0⟩ := bind_some hM0
      refine R_d 4 [0] [(30, vA [vS p1 p.Arrays c, vS p2 p.Parts c1])] <| R_call (hs1 := []) (rest := [hB b1 [vS p1 p.Arrays c, vS p2 p.Parts c1], hB b [.slice none 0 0, .slice none 0 0]]) rfl rfl rfl rfl (by kernel_rfl) rfl rfl (spec_FormatProgram_ok p _ hz kA kP) ?_
      rintro imm6 hs2 v2 k2 le6 - ⟨v0, rfl, rfl, rfl⟩ -
      exact R_z [] [(34, .bool (!(z.l == text.l)))] <| T_w [(2, vP b 0), (5, vP b1 0), (34, .bool (!(z.l == text.l)))] <| T_cut ⟨_, (pure_some hM0).symm, le6, rfl, rfl⟩
   · rintro imm6 hs2 m2 ⟨o, rfl, le6, rfl, rfl⟩
     replace kA := kA.mono le6
     replace kP := kP.mono le6
     refine T_seq <| J_cd hM ?_ ?_
     · intro hc2 hM
       refine J_seq <| J_region <| R_d 1 [] [(35, vA [.slice none 0 0, .slice none 0 0])] <| R_sb 1 [.slice none 0 0, .slice none 0 0] [hB b1 [vS p1 p.Arrays c, vS p2 p.Parts c1], hB b [.slice none 0 0, .slice none 0 0]] rfl rfl rfl rfl <| R_z [] [(3, .bool false)] <| T_seq <| J_ret <| T_then_ret ?_
       obtain rfl := pure_some hM
       exact T_RS ⟨_, _, (.cell 1 rfl rfl (by kernel_rfl) (.tmp rfl ResV.nil)), good_none, ⟨_, _, rfl, rfl, ⟨_, rfl, (impl_Program_shut ⟨_, _, rfl, (SL.nil _), (SL.nil _)⟩)⟩, rfl⟩⟩
     · intro hc2 hM
       refine J_skip <| T_seq <| J_seq <| J_region <| R_d 1 [0] [(36, vA [vS p1 p.Arrays c, vS p2 p.Parts c1])] <| R_sb 1 [vS p1 p.Arrays c, vS p2 p.Parts c1] [hB b1 [vS p1 p.Arrays c, vS p2 p.Parts c1], hB b [vS p1 p.Arrays c, vS p2 p.Parts c1]] rfl rfl rfl rfl <| R_z [] [(3, .bool true)] <| T_seq <| J_ret ?_
       obtain rfl := pure_some hM
       exact T_RS ⟨_, _, (.cell 1 rfl rfl (by kernel_rfl) (.tmp rfl ResV.nil)), good_none, ⟨_, _, rfl, rfl, ⟨_, rfl, (impl_Program_shut ⟨_, _, rfl, kA, kP⟩)⟩, rfl⟩⟩
def spec_l16Rd_num_post (b0 : Nat) (r : Int × spec_l16Rd) : Nat → Imm → List HA → Value → Prop := fun kk imm' hs' v =>
  ∃ (v0 : Value) (k0 : List Value), hs' = [.blk b0 ⟨k0⟩] ∧ v = tupV [v0] ∧ v0 = .int .i64 r.1 ∧ Rp.rep imm' k0 r.2
def M.spec_l16Rd_num (r0 : spec_l16Rd) (list : (List Int)) : Option (Int × spec_l16Rd) := do
 let (y1, y2) ← M.spec_l16Rd_pick r0 (list.length : Int)
 let x ← idx list y1
 pure (x, y2)
theorem spec_l16Rd_num_ok : ∀ (r0 : spec_l16Rd) (list : (List Int)) r, M.spec_l16Rd_num r0 list = some r → ∀ {imm : Imm} {r01 : Nat} {p : Option Addr} {c : Nat} {p1 : Option Addr} {c1 : Nat}, (SL imm (vS p r0.b c) r0.b) → (SL imm (vS p1 list c1) list) → Ret Try.prog 33 [vP r01 0, vS p1 list c1] imm [hB r01 [vS p r0.b c, vI r0.p]] (spec_l16Rd_num_post r01 r) := by
 intro r0 list r hM imm r01 p c p1 c1 h h1
 unfold M.spec_l16Rd_num at hM
 refine ret_of_J (fn := Try.f33) (c := (bodyOf Try.f33)) Try.func33 rfl rfl ?_
 rintro B - -
 have hle : imm.le imm := Imm.le.refl _
 refine J_seq <| J_region <| R_z [] [] <| T_seq <| J_seq <| J_region <| R_d 4 [] [(5, vS p1 list c1), (6, vP r01 0), (8, vI (list.length : Int))] ?_
 obtain ⟨⟨y1, y2⟩, hy, hM⟩ := bind_some hM
 refine R_call (hs1 := [hB r01 [vS p r0.b c, vI r0.p]]) (rest := []) rfl rfl rfl rfl (by kernel_rfl) rfl rfl (spec_l16Rd_pick_ok r0 (list.length : Int) _ hy h) ?_
 rintro imm0 hs2 v2 k2 le - ⟨v0, kk, rfl, rfl, rfl, h3⟩ -
 replace h1 := h1.mono le
 replace hle := hle.trans le
 obtain ⟨v01, rfl, h4⟩ := spec_l16Rd_open h3
 obtain ⟨p2, c2, rfl⟩ := h4.form
 obtain ⟨x, hy1, hM⟩ := bind_some hM
 refine R_ix rfl rfl h1 hy1 ?_
 intro ad ccs hat hrep
 obtain rfl := hrep
 refine R_la 0 hat [vI x] (vI x) rfl <| R_z [] [(4, vI x)] <| T_seq <| J_ret ?_
 obtain rfl := pure_some hM
 exact T_RS ⟨_, _, (.tmp rfl ResV.nil), (good_pick [0] rfl (by decide)), ⟨_, _, rfl, rfl, rfl, (spec_l16Rd_shut ⟨_, rfl, h4⟩)⟩⟩
def spec_l4Some_post (r : (List impl_Array)) : Nat → Imm → List HA → Value → Prop := fun kk imm' hs' v =>
  ∃ (v0 : Value), hs' = [] ∧ v = tupV [v0] ∧ SL imm' v0 r
def M.spec_l4Some  : Option ((List impl_Array)) := do
 pure ([(impl_Array.mk (⟨[65]⟩ : Str) ([6] : List Int)), (impl_Array.mk (⟨[66]⟩ : Str) ([4, 5] : List Int)), (impl_Array.mk (⟨[67]⟩ : Str) ([3] : List Int))] : List impl_Array)
theorem spec_l4Some_ok : ∀ r, M.spec_l4Some  = some r → ∀ {imm : Imm} , Ret Try.prog 47 [] imm [] (spec_l4Some_post  r) := by
 intro  r hM imm
 unfold M.spec_l4Some at hM
 refine ret_of_J (fn := Try.f47) (c := (bodyOf Try.f47)) Try.func47 rfl rfl ?_
 rintro B - -
 have hle : imm.le imm := Imm.le.refl _
 refine J_seq <| J_region <| R_z [] [] <| T_seq <| J_seq <| J_region <| R_buildSlice (cs := [vI 6]) (Rp.sz Int) rfl rfl rfl rfl (by kernel_rfl) (by kernel_rfl) ?_
 intro b hb
 have h : RL imm [vI 6] ([6] : List Int) := ⟨[vI 6], _, rfl, rfl, rfl, rfl⟩
 refine R_d 2 [] [(2, vA [vT ([65]), vS (some ⟨b, 0, none⟩) ([6] : List Int) 1])] <| R_buildSlice (cs := [vI 4, vI 5]) (Rp.sz Int) rfl rfl rfl rfl (by kernel_rfl) (by kernel_rfl) ?_
 intro b1 hb1
 have h1 : RL imm [vI 4, vI 5] ([4, 5] : List Int) := ⟨[vI 4], _, rfl, rfl, rfl, ⟨[vI 5], _, rfl, rfl, rfl, rfl⟩⟩
 refine R_d 4 [] [(4, vA [vT ([66]), vS (some ⟨b1, 0, none⟩) ([4, 5] : List Int) 2])] <| R_buildSlice (cs := [vI 3]) (Rp.sz Int) rfl rfl rfl rfl (by kernel_rfl) (by kernel_rfl) ?_
 intro b2 hb2
 have h2 : RL imm [vI 3] ([3] : List Int) := ⟨[vI 3], _, rfl, rfl, rfl, rfl⟩
 refine R_d 6 [] [(6, vA [vT ([67]), vS (some ⟨b2, 0, none⟩) ([3] : List Int) 1])] <| R_freeze 2 rfl ?_
 intro imm0 le hl0
 have h3 := SL.of_frozen hl0 le h
 replace h1 := RepL.mono (fun _ _ => Rp.mono le) h1
 replace h2 := RepL.mono (fun _ _ => Rp.mono le) h2
 replace hle := hle.trans le
 refine R_freeze 1 rfl ?_
 intro imm01 le1 hl01
 have h4 := SL.of_frozen hl01 le1 h1
 replace h3 := h3.mono le1
 replace h2 := RepL.mono (fun _ _ => Rp.mono le1) h2
 replace hle := hle.trans le1
 refine R_freeze 0 rfl ?_
 intro imm02 le2 hl02
 have h5 := SL.of_frozen hl02 le2 h2
 replace h3 := h3.mono le2
 replace h4 := h4.mono le2
 replace hle := hle.trans le2
 refine R_buildSlice (cs := [vT ([65]), vS (some ⟨b, 0, none⟩) ([6] : List Int) 1, vT ([66]), vS (some ⟨b1, 0, none⟩) ([4, 5] : List Int) 2, vT ([67]), vS (some ⟨b2, 0, none⟩) ([3] : List Int) 1]) (Rp.sz impl_Array) rfl rfl rfl rfl (by kernel_rfl) (by kernel_rfl) ?_
 intro b3 hb3
 have h6 : RL imm02 [vT ([65]), vS (some ⟨b, 0, none⟩) ([6] : List Int) 1, vT ([66]), vS (some ⟨b1, 0, none⟩) ([4, 5] : List Int) 2, vT ([67]), vS (some ⟨b2, 0, none⟩) ([3] : List Int) 1] ([(impl_Array.mk (⟨[65]⟩ : Str) ([6] : List Int)), (impl_Array.mk (⟨[66]⟩ : Str) ([4, 5] : List Int)), (impl_Array.mk (⟨[67]⟩ : Str) ([3] : List Int))] : List impl_Array) := ⟨[vT ([65]), vS (some ⟨b, 0, none⟩) ([6] : List Int) 1], _, rfl, rfl, (impl_Array_shut ⟨_, rfl, h3⟩), ⟨[vT ([66]), vS (some ⟨b1, 0, none⟩) ([4, 5] : List Int) 2], _, rfl, rfl, (impl_Array_shut ⟨_, rfl, h4⟩), ⟨[vT ([67]), vS (some ⟨b2, 0, none⟩) ([3] : List Int) 1], _, rfl, rfl, (impl_Array_shut ⟨_, rfl, h5⟩), rfl⟩⟩⟩
 refine R_z [] [(0, vS (some ⟨b3, 0, none⟩) ([(impl_Array.mk (⟨[65]⟩ : Str) ([6] : List Int)), (impl_Array.mk (⟨[66]⟩ : Str) ([4, 5] : List Int)), (impl_Array.mk (⟨[67]⟩ : Str) ([3] : List Int))] : List impl_Array) 3)] <| T_seq <| J_ret <| T_freeze 0 rfl ?_
 intro imm03 le3 hl03
 have h7 := SL.of_frozen hl03 le3 h6
 replace hle := hle.trans le3
 obtain rfl := pure_some hM
 exact T_RS ⟨_, _, (.tmp rfl ResV.nil), good_none, ⟨_, rfl, rfl, h7⟩⟩
def spec_l1Const_post (r : impl_Affine) : Nat → Imm → List HA → Value → Prop := fun kk imm' hs' v =>
  ∃ (a0_0 : Option Addr) (c0_0 : Nat) (s0_0 : List Value), hs' = [.osl (.slice a0_0 r.Coefs.length c0_0) (Rp.sz Int) s0_0] ∧ v = tupV [(.agg ⟨[.slice a0_0 r.Coefs.length c0_0, .int .i64 r.Const]⟩)] ∧ RepL (Rp.rep imm') (Rp.sz Int) s0_0 r.Coefs
def M.spec_l1Const (n0 : Int) : Option (impl_Affine) := do
 let y ← M.spec_l1Zero
 pure (impl_Affine.mk y.Coefs n0)
theorem spec_l1Const_ok : ∀ (n0 : Int) r, M.spec_l1Const n0 = some r → ∀ {imm : Imm} , Ret Try.prog 87 [vI n0] imm [] (spec_l1Const_post  r) := by
 intro n0 r hM imm
 unfold M.spec_l1Const at hM
 refine ret_of_J (fn := Try.f87) (c := (bodyOf Try.f87)) Try.func87 rfl rfl ?_
 rintro B - -
 have hle : imm.le imm := Imm.le.refl _
 refine J_seq <| J_region <| R_alloc (c := ⟨[.slice none 0 0, vI 0]⟩) rfl rfl rfl (by kernel_rfl) ?_
 intro b hb
 refine R_end rfl <| T_seq <| J_seq <| J_region ?_
 obtain ⟨y, hy, hM⟩ := bind_some hM
 refine R_call (hs1 := []) (rest := [hB b [.slice none 0 0, vI 0]]) rfl rfl rfl rfl (by kernel_rfl) rfl rfl (spec_l1Zero_ok  _ hy ) ?_
 rintro imm0 hs2 v2 k2 le - ⟨p, c, cs, rfl, rfl, h⟩ -
 replace hle := hle.trans le
 refine R_alloc (c := ⟨[.slice none 0 0, vI 0]⟩) rfl rfl rfl (by kernel_rfl) ?_
 intro b1 hb1
 refine R_sb 0 [vS p y.Coefs c, vI y.Const] [hB b1 [vS p y.Coefs c, vI y.Const], hO Int (vS p y.Coefs c) cs, hB b [.slice none 0 0, vI 0]] rfl rfl rfl rfl <| R_end rfl <| T_seq <| J_seq <| J_region <| R_d 2 [] [(5, vI n0), (6, vP b1 1)] <| R_sb 0 [vS p y.Coefs c, vI n0] [hB b1 [vS p y.Coefs c, vI n0], hO Int (vS p y.Coefs c) cs, hB b [.slice none 0 0, vI 0]] rfl rfl rfl rfl <| R_end rfl <| T_seq <| J_seq <| J_region <| R_d 1 [0] [(7, vA [vS p y.Coefs c, vI n0])] <| R_sb 2 [vS p y.Coefs c, vI n0] [hB b1 [vS p y.Coefs c, vI n0], hO Int (vS p y.Coefs c) cs, hB b [vS p y.Coefs c, vI n0]] rfl rfl rfl rfl <| R_end rfl <| T_seq <| J_ret ?_
 obtain rfl := pure_some hM
 exact T_RS ⟨_, _, (.cell 2 rfl rfl (by kernel_rfl) ResV.nil), (good_pick [1] rfl (by decide)), ⟨_, _, _, rfl, rfl, h⟩⟩
def spec_l1Var_post (r : impl_Affine) : Nat → Imm → List HA → Value → Prop := fun kk imm' hs' v =>
  ∃ (v0 : Value), hs' = [] ∧ v = tupV [v0] ∧ (∃ cs, v0 = .agg ⟨cs⟩ ∧ Rp.rep imm' cs r)
def M.spec_l1Var (v0 : Int) : Option (impl_Affine) := do
 let y ← M.spec_l1Zero
 let x ← idx y.Coefs v0
 let l ← pure (y.Coefs.set v0.toNat 1)
 pure (impl_Affine.mk l y.Const)
theorem spec_l1Var_ok : ∀ (v0 : Int) r, M.spec_l1Var v0 = some r → ∀ {imm : Imm} , Ret Try.prog 99 [vI v0] imm [] (spec_l1Var_post  r) := by
 intro v0 r hM imm
 unfold M.spec_l1Var at hM
 refine ret_of_J (fn := Try.f99) (c := (bodyOf Try.f99)) Try.func99 rfl rfl ?_
 rintro B - -
 have hle : imm.le imm := Imm.le.refl _
 refine J_seq <| J_region <| R_alloc (c := ⟨[.slice none 0 0, vI 0]⟩) rfl rfl rfl (by kernel_rfl) ?_
 intro b hb
 refine R_end rfl <| T_seq <| J_seq <| J_region ?_
 obtain ⟨y, hy, hM⟩ := bind_some hM
 refine R_call (hs1 := []) (rest := [hB b [.slice none 0 0, vI 0]]) rfl rfl rfl rfl (by kernel_rfl) rfl rfl (spec_l1Zero_ok  _ hy ) ?_
 rintro imm0 hs2 v2 k2 le - ⟨p, c, cs, rfl, rfl, h⟩ -
 replace hle := hle.trans le
 refine R_alloc (c := ⟨[.slice none 0 0, vI 0]⟩) rfl rfl rfl (by kernel_rfl) ?_
 intro b1 hb1
 refine R_sb 0 [vS p y.Coefs c, vI y.Const] [hB b1 [vS p y.Coefs c, vI y.Const], hO Int (vS p y.Coefs c) cs, hB b [.slice none 0 0, vI 0]] rfl rfl rfl rfl <| R_end rfl <| T_seq <| J_seq <| J_region <| R_d 3 [0] [(6, vS p y.Coefs c), (7, vI v0)] ?_
 obtain ⟨x, hy1, hM⟩ := bind_some hM
 refine R_ixo 1 rfl rfl rfl h hy1 ?_
 intro ad ccs hat hcc hrep
 obtain rfl := hrep
 obtain ⟨l, hy2, hM⟩ := bind_some hM
 refine R_store_el (c := [vI 1]) (x' := 1) 1 0 rfl rfl rfl hat rfl rfl hcc (by kernel_rfl) (by kernel_rfl) (by kernel_rfl) h hy1 (by kernel_rfl) rfl ?_
 rw [show y.Coefs.set v0.toNat 1 = l from pure_some hy2]
 intro cs1 h1 hl0
 refine R_weaken (m' := [(2, vP b 0), (3, vP b1 0), (6, vS p y.Coefs c), (7, vI v0)]) ⟨rfl, rfl, rfl, rfl, trivial⟩ <| R_conv (hs' := [hB b1 [vS p l c, vI y.Const], hO Int (vS p l c) cs1, hB b [.slice none 0 0, vI 0]]) (m' := [(2, vP b 0), (3, vP b1 0), (6, vS p l c), (7, vI v0)]) (by first | rfl | simp only [vS, hl0, List.nil_append, List.cons_append, List.set_cons_zero, List.set_cons_succ]) (by first | rfl | simp only [vS, hl0]) <| R_end rfl <| T_seq <| J_seq <| J_region <| R_d 1 [0] [(9, vA [vS p l c, vI y.Const])] <| R_sb 2 [vS p l c, vI y.Const] [hB b1 [vS p l c, vI y.Const], hO Int (vS p l c) cs1, hB b [vS p l c, vI y.Const]] rfl rfl rfl rfl <| R_end rfl <| T_seq <| J_ret <| T_freeze 1 rfl ?_
 intro imm01 le1 hl01
 have h2 := SL.of_frozen hl01 le1 h1
 replace hle := hle.trans le1
 obtain rfl := pure_some hM
 exact T_RS ⟨_, _, (.cell 1 rfl rfl (by kernel_rfl) ResV.nil), good_none, ⟨_, rfl, rfl, ⟨_, rfl, (impl_Affine_shut ⟨_, rfl, h2⟩)⟩⟩⟩
def spec_l1Combine_post (r : impl_Affine) : Nat → Imm → List HA → Value → Prop := fun kk imm' hs' v =>
  ∃ (v0 : Value), hs' = [] ∧ v = tupV [v0] ∧ (∃ cs, v0 = .agg ⟨cs⟩ ∧ Rp.rep imm' cs r)
def M.spec_l1Combine_l1 (a0 : impl_Affine) (x : Int) (b : impl_Affine) (y : Int) (i : Int) (Coefs : List Int) : Option (List Int) := do
 if (decide (i < 4)) then
  let x1 ← idx a0.Coefs i
  let x2 ← idx b.Coefs i
  let l ← app 8 Coefs ([(W ((W (x * x1)) + (W (y * x2))))] : List Int)
  M.spec_l1Combine_l1 a0 x b y (W (i + 1)) l
 else
  pure (id Coefs)
 partial_fixpoint
theorem spec_l1Combine_l1_ok (a0 : impl_Affine) (x : Int) (b : impl_Affine) (y : Int) : ∀ (i : Int) (Coefs : List Int) (o : List Int), M.spec_l1Combine_l1 a0 x b y i Coefs = some o → ∀ {B : Base} {imm0 imm : Imm} {Q : Exit → Act → World → Prop}  {p : Option Addr} {c : Nat} {p1 : Option Addr} {c1 : Nat} {b1 : Nat} {b2 : Nat} {b3 : Nat} {b4 : Nat} {p2 : Option Addr} {c2 : Nat} {cs : List Value}, imm0.le imm → (SL imm (vS p1 b.Coefs c1) b.Coefs) → (SL imm (vS p a0.Coefs c) a0.Coefs) → (RL imm cs Coefs) → (∀ l a w, ¬ Q (.goto l) a w) → (∀ a w, ¬ Q .outgrown a w) → (∀ (imm' : Imm) (Coefs1 : List Int) (p3 : Option Addr) (c3 : Nat) (cs1 : List Value), o = Coefs1 → imm0.le imm' → (RL imm' cs1 Coefs1) → T 46 B Q (.exit 0) imm' [hO Int (vS p3 Coefs1 c3) cs1, hB b4 [vS p3 Coefs1 c3, vI (W ((W (x * a0.Const)) + (W (y * b.Const))))], hB b3 [.slice none 0 0, vI 0]] [(8, vP b3 0), (9, vP b4 0)]) → J Try.prog 46 B (nav (bodyOf Try.f100) [1, 1, 0, 1, 0]) Q imm [hO Int (vS p2 Coefs c2) cs, hB b4 [vS p2 Coefs c2, vI (W ((W (x * a0.Const)) + (W (y * b.Const))))], hB b3 [.slice none 0 0, vI 0], hB b2 [vS p1 b.Coefs c1, vI b.Const], hB b1 [vS p a0.Coefs c, vI a0.Const]] [(1, vI x), (3, vI y), (4, vP b1 0), (6, vP b2 0), (8, vP b3 0), (9, vP b4 0), (10, vI i)] := by
 refine M.spec_l1Combine_l1.partial_correctness a0 x b y _ ?_
 intro self ih i Coefs o hM B imm0 imm Q p c p1 c1 b1 b2 b3 b4 p2 c2 cs hle h1 h h3 hg ho hx
 refine J_loop hg ho <| J_seq <| J_seq <| J_region <| R_z [] [(22, .bool (decide (i < 4)))] <| T_seq <| J_cd hM ?_ ?_
 · intro hc hM
   refine J_skip <| T_seq <| J_seq <| J_block ?_
   obtain ⟨x1, hy, hM⟩ := bind_some hM
   obtain ⟨x2, hy1, hM⟩ := bind_some hM
   obtain ⟨l, hy2, hM⟩ := bind_some hM
   refine J_any [.p (vP b4 0) [], .p (vS p2 Coefs c2) [0], .p (vI x) [], .p (vP b1 0) [], .p (vS p a0.Coefs c) [3], .p (vI i) [], .x (fun imm' v hx => ∃ (ad : Addr), v = .pointer (some ad) ∧ hx = [] ∧ (At imm' ad [vI x1])), .q (vI x1), .p (vI (W (x * x1))) [], .p (vI y) [], .p (vP b2 0) [], .p (vS p1 b.Coefs c1) [2], .p (vI i) [], .x (fun imm' v hx => ∃ (ad1 : Addr), v = .pointer (some ad1) ∧ hx = [] ∧ (At imm' ad1 [vI x2])), .q (vI x2), .p (vI (W (y * x2))) [], .p (vI (W ((W (x * x1)) + (W (y * x2))))) [], .x (fun imm' v hx => ∃ (b5 : Nat), v = vS (some ⟨b5, 0, none⟩) ([(W ((W (x * x1)) + (W (y * x2))))] : List Int) 1 ∧ hx = [] ∧ (SL imm' (vS (some ⟨b5, 0, none⟩) ([(W ((W (x * x1)) + (W (y * x2))))] : List Int) 1) ([(W ((W (x * x1)) + (W (y * x2))))] : List Int))), .x (fun imm' v hx => ∃ (p4 : Option Addr) (c4 : Nat) (cs2 : List Value), v = vS p4 l c4 ∧ hx = [hO Int (vS p4 l c4) cs2] ∧ (RL imm' cs2 l))] [[], [(0, false)], [], [], [(3, false)], [], [(4, false), (5, false)], [(6, false)], [(2, false), (7, false)], [], [], [(10, false)], [], [(11, false), (12, false)], [(13, false)], [(9, false), (14, false)], [(8, false), (15, false)], [(16, false)], [(1, false), (17, false), (21, true)]] [hB b4 [vS p2 Coefs c2, vI (W ((W (x * a0.Const)) + (W (y * b.Const))))], hB b3 [.slice none 0 0, vI 0], hB b2 [vS p1 b.Coefs c1, vI b.Const], hB b1 [vS p a0.Coefs c, vI a0.Const]] [[hO Int (vS p2 Coefs c2) cs]] [(18, true)] (good_pick [1, 2, 3, 4, 0] rfl (by decide)) ?_ ?_
   · refine Op <| Op <| Op <| Op <| Op <| Op <| Ox ?_ <| Oq ?_ <| Op <| Op <| Op <| Op <| Op <| Ox ?_ <| Oq ?_ <| Op <| Op <| Ox ?_ <| Ox ?_ <| On
     · intro imm1 hf le1
       refine Ins_cons ?_
       rintro _ _ ⟨rfl, rfl⟩
       refine Ins_cons ?_
       rintro _ _ ⟨rfl, rfl⟩
       refine Ins_nil <| R_isw (hB b4 [vS p2 Coefs c2, vI (W ((W (x * a0.Const)) + (W (y * b.Const))))] :: hB b3 [.slice none 0 0, vI 0] :: hB b2 [vS p1 b.Coefs c1, vI b.Const] :: hB b1 [vS p a0.Coefs c, vI a0.Const] :: hf) [(29, vS p a0.Coefs c), (30, vI i)] ?_
       have hle := Imm.le.refl imm1
       replace h := h.mono le1
       refine R_ix rfl rfl h hy ?_
       intro ad ccs hat hrep
       obtain rfl := hrep
       exact R_out (hx := []) rfl hle rfl (out_some rfl) ⟨_, rfl, rfl, hat⟩
     · intro imm1 hf le1
       refine Ins_cons ?_
       rintro _ _ ⟨ad, rfl, rfl, hat⟩
       refine Ins_nil <| R_isw (hB b4 [vS p2 Coefs c2, vI (W ((W (x * a0.Const)) + (W (y * b.Const))))] :: hB b3 [.slice none 0 0, vI 0] :: hB b2 [vS p1 b.Coefs c1, vI b.Const] :: hB b1 [vS p a0.Coefs c, vI a0.Const] :: hf) [(31, .pointer (some ad))] ?_
       have hle := Imm.le.refl imm1
       exact R_la 0 hat [vI x1] (vI x1) rfl <| R_out (hx := []) rfl hle rfl (out_some rfl) ⟨rfl, rfl⟩
     · intro imm1 hf le1
       refine Ins_cons ?_
       rintro _ _ ⟨rfl, rfl⟩
       refine Ins_cons ?_
       rintro _ _ ⟨rfl, rfl⟩
       refine Ins_nil <| R_isw (hB b4 [vS p2 Coefs c2, vI (W ((W (x * a0.Const)) + (W (y * b.Const))))] :: hB b3 [.slice none 0 0, vI 0] :: hB b2 [vS p1 b.Coefs c1, vI b.Const] :: hB b1 [vS p a0.Coefs c, vI a0.Const] :: hf) [(36, vS p1 b.Coefs c1), (37, vI i)] ?_
       have hle := Imm.le.refl imm1
       replace h1 := h1.mono le1
       refine R_ix rfl rfl h1 hy1 ?_
       intro ad1 ccs1 hat1 hrep1
       obtain rfl := hrep1
       exact R_out (hx := []) rfl hle rfl (out_some rfl) ⟨_, rfl, rfl, hat1⟩
     · intro imm1 hf le1
       refine Ins_cons ?_
       rintro _ _ ⟨ad1, rfl, rfl, hat1⟩
       refine Ins_nil <| R_isw (hB b4 [vS p2 Coefs c2, vI (W ((W (x * a0.Const)) + (W (y * b.Const))))] :: hB b3 [.slice none 0 0, vI 0] :: hB b2 [vS p1 b.Coefs c1, vI b.Const] :: hB b1 [vS p a0.Coefs c, vI a0.Const] :: hf) [(38, .pointer (some ad1))] ?_
       have hle := Imm.le.refl imm1
       exact R_la 0 hat1 [vI x2] (vI x2) rfl <| R_out (hx := []) rfl hle rfl (out_some rfl) ⟨rfl, rfl⟩
     · intro imm1 hf le1
       refine Ins_cons ?_
       rintro _ _ ⟨rfl, rfl⟩
       refine Ins_nil <| R_isw (hB b4 [vS p2 Coefs c2, vI (W ((W (x * a0.Const)) + (W (y * b.Const))))] :: hB b3 [.slice none 0 0, vI 0] :: hB b2 [vS p1 b.Coefs c1, vI b.Const] :: hB b1 [vS p a0.Coefs c, vI a0.Const] :: hf) [(41, vI (W ((W (x * x1)) + (W (y * x2)))))] ?_
       have hle := Imm.le.refl imm1
       replace h3 := RepL.mono (fun _ _ => Rp.mono le1) h3
       replace h1 := h1.mono le1
       replace h := h.mono le1
       refine R_buildSlice (cs := [vI (W ((W (x * x1)) + (W (y * x2))))]) (Rp.sz Int) rfl rfl rfl rfl (by kernel_rfl) (by kernel_rfl) ?_
       intro b5 hb4
       have h5 : RL imm1 [vI (W ((W (x * x1)) + (W (y * x2))))] ([(W ((W (x * x1)) + (W (y * x2))))] : List Int) := ⟨[vI (W ((W (x * x1)) + (W (y * x2))))], _, rfl, rfl, rfl, rfl⟩
       refine R_freeze 0 rfl ?_
       intro imm0 le hl0
       have h6 := SL.of_frozen hl0 le h5
       replace h3 := RepL.mono (fun _ _ => Rp.mono le) h3
       replace h1 := h1.mono le
       replace h := h.mono le
       replace hle := hle.trans le
       exact R_out (hx := []) rfl hle rfl (out_some rfl) ⟨_, rfl, rfl, h6⟩
     · intro imm1 hf le1
       refine Ins_cons ?_
       rintro _ _ ⟨rfl, rfl⟩
       refine Ins_cons ?_
       rintro _ _ ⟨b5, rfl, rfl, h6⟩
       refine Ins_cons ?_
       rintro _ _ rfl
       refine Ins_nil <| R_isw (hO Int (vS p2 Coefs c2) cs :: hB b4 [vS p2 Coefs c2, vI (W ((W (x * a0.Const)) + (W (y * b.Const))))] :: hB b3 [.slice none 0 0, vI 0] :: hB b2 [vS p1 b.Coefs c1, vI b.Const] :: hB b1 [vS p a0.Coefs c, vI a0.Const] :: hf) [(26, vS p2 Coefs c2), (42, vS (some ⟨b5, 0, none⟩) ([(W ((W (x * x1)) + (W (y * x2))))] : List Int) 1)] ?_
       have hle := Imm.le.refl imm1
       replace h3 := RepL.mono (fun _ _ => Rp.mono le1) h3
       obtain ⟨ccs2, k0, k01⟩ := h6
       have h6 : SL imm1 (vS (some ⟨b5, 0, none⟩) ([(W ((W (x * x1)) + (W (y * x2))))] : List Int) 1) ([(W ((W (x * x1)) + (W (y * x2))))] : List Int) := ⟨_, k0, k01⟩
       refine R_ap 3 1 0 rfl rfl rfl h3 (.inl k0) k01 hy2 ?_
       intro p4 c4 cs2 h7
       exact R_hseq (hs' := (hO Int (vS p4 l c4) cs2 :: hB b4 [vS p2 Coefs c2, vI (W ((W (x * a0.Const)) + (W (y * b.Const))))] :: hB b3 [.slice none 0 0, vI 0] :: hB b2 [vS p1 b.Coefs c1, vI b.Const] :: hB b1 [vS p a0.Coefs c, vI a0.Const] :: hf)) rfl <| R_out (hx := [hO Int (vS p4 l c4) cs2]) rfl hle rfl (out_some rfl) ⟨_, _, _, rfl, rfl, h7⟩
   · intro imm01 le1
     refine Ins_cons ?_
     rintro _ _ ⟨p4, c4, cs2, rfl, rfl, h7⟩
     refine Ins_nil <| R_isw [hO Int (vS p4 l c4) cs2, hB b4 [vS p2 Coefs c2, vI (W ((W (x * a0.Const)) + (W (y * b.Const))))], hB b3 [.slice none 0 0, vI 0], hB b2 [vS p1 b.Coefs c1, vI b.Const], hB b1 [vS p a0.Coefs c, vI a0.Const]] [(1, vI x), (3, vI y), (4, vP b1 0), (6, vP b2 0), (8, vP b3 0), (9, vP b4 0), (10, vI i), (43, vS p4 l c4)] ?_
     replace h3 := RepL.mono (fun _ _ => Rp.mono le1) h3
     replace h1 := h1.mono le1
     replace h := h.mono le1
     replace hle := hle.trans le1
     exact R_d 20 [] [(44, vP b4 0)] <| R_sb 1 [vS p4 l c4, vI (W ((W (x * a0.Const)) + (W (y * b.Const))))] [hO Int (vS p4 l c4) cs2, hB b4 [vS p4 l c4, vI (W ((W (x * a0.Const)) + (W (y * b.Const))))], hB b3 [.slice none 0 0, vI 0], hB b2 [vS p1 b.Coefs c1, vI b.Const], hB b1 [vS p a0.Coefs c, vI a0.Const]] rfl rfl rfl rfl <| R_end rfl <| T_block_normal <| T_seq <| J_region <| R_z [] [(10, vI (W (i + 1)))] <| T_loop <| J_w [(1, vI x), (3, vI y), (4, vP b1 0), (6, vP b2 0), (8, vP b3 0), (9, vP b4 0), (10, vI (W (i + 1)))] <| ih (W (i + 1)) l _ hM hle h1 h h7 hg ho hx
 · intro hc hM
   exact J_exit <| T_then_exit <| T_then_exit <| T_hs (good_pick [0, 1, 2] rfl (by decide)) <| T_w [(8, vP b3 0), (9, vP b4 0)] <| hx _ _ _ _ _ (pure_some hM).symm hle h3
def M.spec_l1Combine (a0 : impl_Affine) (x : Int) (b : impl_Affine) (y : Int) : Option (impl_Affine) := do
 let Coefs1 ← M.spec_l1Combine_l1 a0 x b y 0 ([] : List Int)
 pure (impl_Affine.mk Coefs1 (W ((W (x * a0.Const)) + (W (y * b.Const)))))
theorem spec_l1Combine_ok : ∀ (a0 : impl_Affine) (x : Int) (b : impl_Affine) (y : Int) r, M.spec_l1Combine a0 x b y = some r → ∀ {imm : Imm} {p : Option Addr} {c : Nat} {p1 : Option Addr} {c1 : Nat}, (SL imm (vS p a0.Coefs c) a0.Coefs) → (SL imm (vS p1 b.Coefs c1) b.Coefs) → Ret Try.prog 100 [vA [vS p a0.Coefs c, vI a0.Const], vI x, vA [vS p1 b.Coefs c1, vI b.Const], vI y] imm [] (spec_l1Combine_post  r) := by
 intro a0 x b y r hM imm p c p1 c1 h h1
 unfold M.spec_l1Combine at hM
 refine ret_of_J (fn := Try.f100) (c := (bodyOf Try.f100)) Try.func100 rfl rfl ?_
 rintro B - -
 have hle : imm.le imm := Imm.le.refl _
 refine J_seq <| J_region <| R_box (c := ⟨[vS p a0.Coefs c, vI a0.Const]⟩) rfl rfl rfl rfl rfl ?_
 intro b1 hb
 refine R_box (c := ⟨[vS p1 b.Coefs c1, vI b.Const]⟩) rfl rfl rfl rfl rfl ?_
 intro b2 hb1
 refine R_alloc (c := ⟨[.slice none 0 0, vI 0]⟩) rfl rfl rfl (by kernel_rfl) ?_
 intro b3 hb2
 refine R_end rfl <| T_seq <| J_seq <| J_region <| R_d 10 [2, 1] [(20, vA [.slice none 0 0, vI (W ((W (x * a0.Const)) + (W (y * b.Const))))])] <| R_alloc (c := ⟨[.slice none 0 0, vI 0]⟩) rfl rfl rfl (by kernel_rfl) ?_
 intro b4 hb3
 refine R_sb 0 [.slice none 0 0, vI (W ((W (x * a0.Const)) + (W (y * b.Const))))] [hB b4 [.slice none 0 0, vI (W ((W (x * a0.Const)) + (W (y * b.Const))))], hB b3 [.slice none 0 0, vI 0], hB b2 [vS p1 b.Coefs c1, vI b.Const], hB b1 [vS p a0.Coefs c, vI a0.Const]] rfl rfl rfl rfl <| R_end rfl <| T_seq <| J_seq <| J_seq <| J_region <| R_z [] [(10, vI 0)] <| T_seq <| J_block <| J_w [(1, vI x), (3, vI y), (4, vP b1 0), (6, vP b2 0), (8, vP b3 0), (9, vP b4 0), (10, vI 0)] <| J_hs (good_nil (Rp.sz Int)) ?_
 have h2 : RL imm [] ([] : List Int) := RepL.nil
 obtain ⟨o0, ho0, hM⟩ := bind_some hM
 refine spec_l1Combine_l1_ok a0 x b y 0 ([] : List Int) o0 ho0 (Imm.le.refl _) h1 h h2 (fun _ _ _ h => h) (fun _ _ h => h) ?_
 intro imm02 Coefs1 p3 c3 cs1 heq le2 h4
 subst o0
 replace hle := hle.trans le2
 refine T_block_here <| T_seq <| J_seq <| J_region <| R_d 1 [1] [(45, vA [vS p3 Coefs1 c3, vI (W ((W (x * a0.Const)) + (W (y * b.Const))))])] <| R_sb 2 [vS p3 Coefs1 c3, vI (W ((W (x * a0.Const)) + (W (y * b.Const))))] [hO Int (vS p3 Coefs1 c3) cs1, hB b4 [vS p3 Coefs1 c3, vI (W ((W (x * a0.Const)) + (W (y * b.Const))))], hB b3 [vS p3 Coefs1 c3, vI (W ((W (x * a0.Const)) + (W (y * b.Const))))]] rfl rfl rfl rfl <| R_end rfl <| T_seq <| J_ret <| T_freeze 0 rfl ?_
 intro imm03 le3 hl01
 have h8 := SL.of_frozen hl01 le3 h4
 replace hle := hle.trans le3
 obtain rfl := pure_some hM
 exact T_RS ⟨_, _, (.cell 1 rfl rfl (by kernel_rfl) ResV.nil), good_none, ⟨_, rfl, rfl, ⟨_, rfl, (impl_Affine_shut ⟨_, rfl, h8⟩)⟩⟩⟩
def spec_l2Loop_post (b0 : Nat) (r : impl_Loop × spec_l16Rd) : Nat → Imm → List HA → Value → Prop := fun kk imm' hs' v =>
  ∃ (v0 : Value) (k0 : List Value), hs' = [.blk b0 ⟨k0⟩] ∧ v = tupV [v0] ∧ (∃ cs, v0 = .agg ⟨cs⟩ ∧ Rp.rep imm' cs r.1) ∧ Rp.rep imm' k0 r.2
def M.spec_l2Loop (r0 : spec_l16Rd) (depth : Int) : Option (impl_Loop × spec_l16Rd) := do
 let (y1, y2) ← M.spec_l16Rd_num r0 ([0, 0, 1, 0, (-1)] : List Int)
 let y3 ← M.spec_l1Const y1
 let (y5, y6) ← M.spec_l16Rd_num y2 ([3, 4, 2, 3, 1] : List Int)
 let y7 ← M.spec_l1Const y5
 let (t23, x) ← (do
   if (decide (depth > 0)) then
    let (y9, y10) ← M.spec_l16Rd_pick y6 4
    pure ((y9 == 0), y10)
   else
    pure (false, y6)
     : Option (Bool × spec_l16Rd))
 let (x1, x2, x3) ← (do
   if t23 then
    let (y12, y13) ← M.spec_l16Rd_pick x depth
    let (y15, y16) ← M.spec_l16Rd_pick y13 2
    let (x4, x5) ← (do
      if (y15 == 0) then
       let y17 ← M.spec_l1Var y12
       pure (y17, (impl_Affine.mk y7.Coefs y7.Const))
      else
       let y18 ← M.spec_l1Var y12
       let y19 ← M.spec_l1Const 1
       let y20 ← M.spec_l1Combine y18 1 y19 1
       pure ((impl_Affine.mk y3.Coefs y3.Const), y20)
        : Option (impl_Affine × impl_Affine))
    pure (x4, x5, y16)
   else
    pure ((impl_Affine.mk y3.Coefs y3.Const), (impl_Affine.mk y7.Coefs y7.Const), x)
     : Option (impl_Affine × impl_Affine × spec_l16Rd))
 let (y22, y23) ← M.spec_l16Rd_pick x3 12
 let (Lo, Hi, x6) ← (do
   if (y22 == 0) then
    let (y25, y26) ← M.spec_l16Rd_num y23 ([3, 2, 4] : List Int)
    let y27 ← M.spec_l1Const y25
    let l ← app 32 ([x2] : List impl_Affine) ([y27] : List impl_Affine)
    pure (([x1] : List impl_Affine), l, y26)
   else
    let (Lo1, x7) ← (do
      if (y22 == 1) then
       let (y29, y30) ← M.spec_l16Rd_num y23 ([0, 1] : List Int)
       let y31 ← M.spec_l1Const y29
       let l1 ← app 32 ([x1] : List impl_Affine) ([y31] : List impl_Affine)
       pure (l1, y30)
      else
       pure (([x1] : List impl_Affine), y23)
        : Option (List impl_Affine × spec_l16Rd))
    pure (Lo1, ([x2] : List impl_Affine), x7)
     : Option (List impl_Affine × List impl_Affine × spec_l16Rd))
 pure ((impl_Loop.mk Lo Hi), x6)
theorem spec_l2Loop_ok : ∀ (r0 : spec_l16Rd) (depth : Int) r, M.spec_l2Loop r0 depth = some r → ∀ {imm : Imm} {r01 : Nat} {p : Option Addr} {c : Nat}, (SL imm (vS p r0.b c) r0.b) → Ret Try.prog 83 [vP r01 0, vI depth] imm [hB r01 [vS p r0.b c, vI r0.p]] (spec_l2Loop_post r01 r) := by
 intro r0 depth r hM imm r01 p c h
 unfold M.spec_l2Loop at hM
 refine ret_of_J (fn := Try.f83) (c := (bodyOf Try.f83)) Try.func83 rfl rfl ?_
 rintro B - -
 have hle : imm.le imm := Imm.le.refl _
 refine J_seq <| J_region <| R_alloc (c := ⟨[.slice none 0 0, .slice none 0 0]⟩) rfl rfl rfl (by kernel_rfl) ?_
 intro b hb
 refine R_end rfl <| T_seq <| J_seq <| J_region <| R_d 1 [] [(9, vP r01 0)] <| R_buildSlice (cs := [vI 0, vI 0, vI 1, vI 0, vI (-1)]) (Rp.sz Int) rfl rfl rfl rfl (by kernel_rfl) (by kernel_rfl) ?_
 intro b1 hb1
 have h1 : RL imm [vI 0, vI 0, vI 1, vI 0, vI (-1)] ([0, 0, 1, 0, (-1)] : List Int) := ⟨[vI 0], _, rfl, rfl, rfl, ⟨[vI 0], _, rfl, rfl, rfl, ⟨[vI 1], _, rfl, rfl, rfl, ⟨[vI 0], _, rfl, rfl, rfl, ⟨[vI (-1)], _, rfl, rfl, rfl, rfl⟩⟩⟩⟩⟩
 refine R_freeze 0 rfl ?_
 intro imm0 le hl0
 have h2 := SL.of_frozen hl0 le h1
 replace h := h.mono le
 replace hle := hle.trans le
 refine R_hs (good_pick [1, 0] (hs' := [hB r01 [vS p r0.b c, vI r0.p], hB b [.slice none 0 0, .slice none 0 0]]) rfl (by decide)) ?_
 obtain ⟨⟨y1, y2⟩, hy, hM⟩ := bind_some hM
 refine R_call (hs1 := [hB r01 [vS p r0.b c, vI r0.p]]) (rest := [hB b [.slice none 0 0, .slice none 0 0]]) rfl rfl rfl rfl (by kernel_rfl) rfl rfl (spec_l16Rd_num_ok r0 ([0, 0, 1, 0, (-1)] : List Int) _ hy h h2) ?_
 rintro imm01 hs2 v2 k2 le1 - ⟨v0, kk, rfl, rfl, rfl, h4⟩ -
 replace hle := hle.trans le1
 obtain ⟨v01, rfl, h5⟩ := spec_l16Rd_open h4
 obtain ⟨p1, c1, rfl⟩ := h5.form
 obtain ⟨y3, hy1, hM⟩ := bind_some hM
 refine R_call (hs1 := []) (rest := [hB r01 [vS p1 y2.b c1, vI y2.p], hB b [.slice none 0 0, .slice none 0 0]]) rfl rfl rfl rfl (by kernel_rfl) rfl rfl (spec_l1Const_ok y1 _ hy1 ) ?_
 rintro imm02 hs2 v2 k2 le2 - ⟨p2, c2, cs, rfl, rfl, h6⟩ -
 replace h5 := h5.mono le2
 replace hle := hle.trans le2
 refine R_alloc (c := ⟨[.slice none 0 0, vI 0]⟩) rfl rfl rfl (by kernel_rfl) ?_
 intro b2 hb2
 refine R_sb 0 [vS p2 y3.Coefs c2, vI y3.Const] [hB b2 [vS p2 y3.Coefs c2, vI y3.Const], hO Int (vS p2 y3.Coefs c2) cs, hB r01 [vS p1 y2.b c1, vI y2.p], hB b [.slice none 0 0, .slice none 0 0]] rfl rfl rfl rfl <| R_end rfl <| T_seq <| J_seq <| J_region <| R_d 1 [] [(13, vP r01 0)] <| R_buildSlice (cs := [vI 3, vI 4, vI 2, vI 3, vI 1]) (Rp.sz Int) rfl rfl rfl rfl (by kernel_rfl) (by kernel_rfl) ?_
 intro b3 hb3
 have h7 : RL imm02 [vI 3, vI 4, vI 2, vI 3, vI 1] ([3, 4, 2, 3, 1] : List Int) := ⟨[vI 3], _, rfl, rfl, rfl, ⟨[vI 4], _, rfl, rfl, rfl, ⟨[vI 2], _, rfl, rfl, rfl, ⟨[vI 3], _, rfl, rfl, rfl, ⟨[vI 1], _, rfl, rfl, rfl, rfl⟩⟩⟩⟩⟩
 refine R_freeze 0 rfl ?_
 intro imm03 le3 hl01
 have h8 := SL.of_frozen hl01 le3 h7
 replace h6 := RepL.mono (fun _ _ => Rp.mono le3) h6
 replace h5 := h5.mono le3
 replace hle := hle.trans le3
 refine R_hs (good_pick [2, 0, 1, 3] (hs' := [hB r01 [vS p1 y2.b c1, vI y2.p], hB b2 [vS p2 y3.Coefs c2, vI y3.Const], hO Int (vS p2 y3.Coefs c2) cs, hB b [.slice none 0 0, .slice none 0 0]]) rfl (by decide)) ?_
 obtain ⟨⟨y5, y6⟩, hy2, hM⟩ := bind_some hM
 refine R_call (hs1 := [hB r01 [vS p1 y2.b c1, vI y2.p]]) (rest := [hB b2 [vS p2 y3.Coefs c2, vI y3.Const], hO Int (vS p2 y3.Coefs c2) cs, hB b [.slice none 0 0, .slice none 0 0]]) rfl rfl rfl rfl (by kernel_rfl) rfl rfl (spec_l16Rd_num_ok y2 ([3, 4, 2, 3, 1] : List Int) _ hy2 h5 h8) ?_
 rintro imm04 hs2 v2 k2 le4 - ⟨v02, kk1, rfl, rfl, rfl, h10⟩ -
 replace h6 := RepL.mono (fun _ _ => Rp.mono le4) h6
 replace hle := hle.trans le4
 obtain ⟨v03, rfl, h11⟩ := spec_l16Rd_open h10
 obtain ⟨p3, c3, rfl⟩ := h11.form
 obtain ⟨y7, hy3, hM⟩ := bind_some hM
 refine R_call (hs1 := []) (rest := [hB r01 [vS p3 y6.b c3, vI y6.p], hB b2 [vS p2 y3.Coefs c2, vI y3.Const], hO Int (vS p2 y3.Coefs c2) cs, hB b [.slice none 0 0, .slice none 0 0]]) rfl rfl rfl rfl (by kernel_rfl) rfl rfl (spec_l1Const_ok y5 _ hy3 ) ?_
 rintro imm05 hs2 v2 k2 le5 - ⟨p4, c4, cs1, rfl, rfl, h12⟩ -
 replace h11 := h11.mono le5
 replace h6 := RepL.mono (fun _ _ => Rp.mono le5) h6
 replace hle := hle.trans le5
 refine R_alloc (c := ⟨[.slice none 0 0, vI 0]⟩) rfl rfl rfl (by kernel_rfl) ?_
 intro b4 hb4
 refine R_sb 0 [vS p4 y7.Coefs c4, vI y7.Const] [hB b4 [vS p4 y7.Coefs c4, vI y7.Const], hO Int (vS p4 y7.Coefs c4) cs1, hB r01 [vS p3 y6.b c3, vI y6.p], hB b2 [vS p2 y3.Coefs c2, vI y3.Const], hO Int (vS p2 y3.Coefs c2) cs, hB b [.slice none 0 0, .slice none 0 0]] rfl rfl rfl rfl <| R_end rfl <| T_seq <| J_seq <| J_seq ?_
 obtain ⟨o0, ho0, hM⟩ := bind_some hM
 refine J_cut (fun imm' hs' m' => ∃ (t23 : Bool) (x : spec_l16Rd) (p5 : Option Addr) (c5 : Nat), o0 = (t23, x) ∧ imm05.le imm' ∧ (SL imm' (vS p5 x.b c5) x.b) ∧ hs' = [hB b4 [vS p4 y7.Coefs c4, vI y7.Const], hO Int (vS p4 y7.Coefs c4) cs1, hB r01 [vS p5 x.b c5, vI x.p], hB b2 [vS p2 y3.Coefs c2, vI y3.Const], hO Int (vS p2 y3.Coefs c2) cs, hB b [.slice none 0 0, .slice none 0 0]] ∧ m' = [(0, vP r01 0), (1, vI depth), (4, vP b 0), (5, vP b2 0), (6, vP b4 0), (23, .bool t23)]) ?_ ?_
 · have hle0 := hle
   have hle : imm05.le imm05 := Imm.le.refl _
   refine J_region <| R_d 3 [] [(19, .bool (decide (depth > 0)))] ?_
   cases hc : (decide (depth > 0)) with
   | true =>
    have hM0 := if_some_true hc ho0
    try rw [hc]
    refine R_d 4 [] [(20, vP r01 0)] <| R_hs (good_pick [2, 0, 1, 3, 4, 5] (hs' := [hB r01 [vS p3 y6.b c3, vI y6.p], hB b4 [vS p4 y7.Coefs c4, vI y7.Const], hO Int (vS p4 y7.Coefs c4) cs1, hB b2 [vS p2 y3.Coefs c2, vI y3.Const], hO Int (vS p2 y3.Coefs c2) cs, hB b [.slice none 0 0, .slice none 0 0]]) rfl (by decide)) ?_
    obtain ⟨⟨y9, y10⟩, hy4, hM⟩ := bind_some hM0
    refine R_call (hs1 := [hB r01 [vS p3 y6.b c3, vI y6.p]]) (rest := [hB b4 [vS p4 y7.Coefs c4, vI y7.Const], hO Int (vS p4 y7.Coefs c4) cs1, hB b2 [vS p2 y3.Coefs c2, vI y3.Const], hO Int (vS p2 y3.Coefs c2) cs, hB b [.slice none 0 0, .slice none 0 0]]) rfl rfl rfl rfl (by kernel_rfl) rfl rfl (spec_l16Rd_pick_ok y6 4 _ hy4 h11) ?_
    rintro imm07 hs2 v2 k2 le6 - ⟨v04, kk2, rfl, rfl, rfl, h15⟩ -
    replace h12 := RepL.mono (fun _ _ => Rp.mono le6) h12
    replace h6 := RepL.mono (fun _ _ => Rp.mono le6) h6
    replace hle := hle.trans le6
    obtain ⟨v05, rfl, h16⟩ := spec_l16Rd_open h15
    obtain ⟨p6, c6, rfl⟩ := h16.form
    exact R_z [] [(23, .bool (y9 == 0))] <| T_hs (good_pick [1, 2, 0, 3, 4, 5] rfl (by decide)) <| T_w [(0, vP r01 0), (1, vI depth), (4, vP b 0), (5, vP b2 0), (6, vP b4 0), (23, .bool (y9 == 0))] <| T_cut ⟨_, _, _, _, (pure_some hM).symm, hle, h16, rfl, rfl⟩
   | false =>
    have hM01 := if_some_false hc ho0
    try rw [hc]
    exact R_z [] [(23, .bool false)] <| T_w [(0, vP r01 0), (1, vI depth), (4, vP b 0), (5, vP b2 0), (6, vP b4 0), (23, .bool false)] <| T_cut ⟨_, _, _, _, (pure_some hM01).symm, hle, h11, rfl, rfl⟩
 · rintro imm06 hs2 m2 ⟨t23, x, p5, c5, heq, le7, h13, rfl, rfl⟩
   subst o0
   replace h12 := RepL.mono (fun _ _ => Rp.mono le7) h12
   replace h6 := RepL.mono (fun _ _ => Rp.mono le7) h6
   replace hle := hle.trans le7
   refine T_seq <| J_freeze 4 rfl ?_
   intro imm08 le8 hl02
   have h17 := SL.of_frozen hl02 le8 h6
   replace h12 := RepL.mono (fun _ _ => Rp.mono le8) h12
   replace h13 := h13.mono le8
   replace hle := hle.trans le8
   refine J_freeze 1 rfl ?_
   intro imm09 le9 hl03
   have h18 := SL.of_frozen hl03 le9 h12
   replace h13 := h13.mono le9
   replace h17 := h17.mono le9
   replace hle := hle.trans le9
   obtain ⟨o01, ho01, hM⟩ := bind_some hM
   refine J_cut (fun imm' hs' m' => ∃ (x1 : impl_Affine) (x2 : impl_Affine) (x3 : spec_l16Rd) (p7 : Option Addr) (c7 : Nat) (p8 : Option Addr) (c8 : Nat) (p9 : Option Addr) (c9 : Nat), o01 = (x1, x2, x3) ∧ imm09.le imm' ∧ (SL imm' (vS p7 x1.Coefs c7) x1.Coefs) ∧ (SL imm' (vS p8 x2.Coefs c8) x2.Coefs) ∧ (SL imm' (vS p9 x3.b c9) x3.b) ∧ hs' = [hB b4 [vS p8 x2.Coefs c8, vI x2.Const], hB r01 [vS p9 x3.b c9, vI x3.p], hB b2 [vS p7 x1.Coefs c7, vI x1.Const], hB b [.slice none 0 0, .slice none 0 0]] ∧ m' = [(0, vP r01 0), (4, vP b 0), (5, vP b2 0), (6, vP b4 0)]) ?_ ?_
   · have hle0 := hle
     have hle : imm09.le imm09 := Imm.le.refl _
     refine J_cd ho01 ?_ ?_
     · intro hc1 hM
       refine J_seq <| J_region <| R_d 2 [] [(24, vP r01 0), (25, vI depth)] <| R_hs (good_pick [1, 0, 2, 3] (hs' := [hB r01 [vS p5 x.b c5, vI x.p], hB b4 [vS p4 y7.Coefs c4, vI y7.Const], hB b2 [vS p2 y3.Coefs c2, vI y3.Const], hB b [.slice none 0 0, .slice none 0 0]]) rfl (by decide)) ?_
       obtain ⟨⟨y12, y13⟩, hy5, hM⟩ := bind_some hM
       refine R_call (hs1 := [hB r01 [vS p5 x.b c5, vI x.p]]) (rest := [hB b4 [vS p4 y7.Coefs c4, vI y7.Const], hB b2 [vS p2 y3.Coefs c2, vI y3.Const], hB b [.slice none 0 0, .slice none 0 0]]) rfl rfl rfl rfl (by kernel_rfl) rfl rfl (spec_l16Rd_pick_ok x depth _ hy5 h13) ?_
       rintro imm011 hs2 v2 k2 le10 - ⟨v06, kk3, rfl, rfl, rfl, h23⟩ -
       replace h18 := h18.mono le10
       replace h17 := h17.mono le10
       replace hle := hle.trans le10
       obtain ⟨v07, rfl, h24⟩ := spec_l16Rd_open h23
       obtain ⟨p10, c10, rfl⟩ := h24.form
       refine R_z [] [(7, vI y12)] <| T_seq <| J_seq <| J_region <| R_d 1 [] [(27, vP r01 0)] ?_
       obtain ⟨⟨y15, y16⟩, hy6, hM⟩ := bind_some hM
       refine R_call (hs1 := [hB r01 [vS p10 y13.b c10, vI y13.p]]) (rest := [hB b4 [vS p4 y7.Coefs c4, vI y7.Const], hB b2 [vS p2 y3.Coefs c2, vI y3.Const], hB b [.slice none 0 0, .slice none 0 0]]) rfl rfl rfl rfl (by kernel_rfl) rfl rfl (spec_l16Rd_pick_ok y13 2 _ hy6 h24) ?_
       rintro imm012 hs2 v2 k2 le11 - ⟨v08, kk4, rfl, rfl, rfl, h26⟩ -
       replace h18 := h18.mono le11
       replace h17 := h17.mono le11
       replace hle := hle.trans le11
       obtain ⟨v09, rfl, h27⟩ := spec_l16Rd_open h26
       obtain ⟨p11, c11, rfl⟩ := h27.form
       refine R_z [] [(29, .bool (y15 == 0))] <| T_seq ?_
       obtain ⟨o02, ho02, hM⟩ := bind_some hM
       refine J_cut (fun imm' hs' m' => ∃ (x4 : impl_Affine) (x5 : impl_Affine) (p12 : Option Addr) (c12 : Nat) (p13 : Option Addr) (c13 : Nat), o02 = (x4, x5) ∧ imm012.le imm' ∧ (SL imm' (vS p12 x4.Coefs c12) x4.Coefs) ∧ (SL imm' (vS p13 x5.Coefs c13) x5.Coefs) ∧ hs' = [hB r01 [vS p11 y16.b c11, vI y16.p], hB b4 [vS p13 x5.Coefs c13, vI x5.Const], hB b2 [vS p12 x4.Coefs c12, vI x4.Const], hB b [.slice none 0 0, .slice none 0 0]] ∧ m' = [(0, vP r01 0), (4, vP b 0), (5, vP b2 0), (6, vP b4 0)]) ?_ ?_
       · have hle0 := hle
         have hle : imm012.le imm012 := Imm.le.refl _
         refine J_cd ho02 ?_ ?_
         · intro hc2 hM
           refine J_region <| R_d 1 [] [(30, vI y12)] ?_
           obtain ⟨y17, hy7, hM⟩ := bind_some hM
           refine R_call (hs1 := []) (rest := [hB r01 [vS p11 y16.b c11, vI y16.p], hB b4 [vS p4 y7.Coefs c4, vI y7.Const], hB b2 [vS p2 y3.Coefs c2, vI y3.Const], hB b [.slice none 0 0, .slice none 0 0]]) rfl rfl rfl rfl (by kernel_rfl) rfl rfl (spec_l1Var_ok y12 _ hy7 ) ?_
           rintro imm014 hs2 v2 k2 le12 - ⟨v010, rfl, rfl, ⟨cs2, rfl, h30⟩⟩ -
           replace h27 := h27.mono le12
           replace h18 := h18.mono le12
           replace h17 := h17.mono le12
           replace hle := hle.trans le12
           obtain ⟨v011, rfl, h31⟩ := impl_Affine_open h30
           obtain ⟨p14, c14, rfl⟩ := h31.form
           exact R_sb 2 [vS p14 y17.Coefs c14, vI y17.Const] [hB r01 [vS p11 y16.b c11, vI y16.p], hB b4 [vS p4 y7.Coefs c4, vI y7.Const], hB b2 [vS p14 y17.Coefs c14, vI y17.Const], hB b [.slice none 0 0, .slice none 0 0]] rfl rfl rfl rfl <| R_end rfl <| T_w [(0, vP r01 0), (4, vP b 0), (5, vP b2 0), (6, vP b4 0)] <| T_cut ⟨_, _, _, _, _, _, (pure_some hM).symm, hle, h31, h18, rfl, rfl⟩
         · intro hc2 hM
           refine J_region <| R_d 1 [] [(32, vI y12)] ?_
           obtain ⟨y18, hy8, hM⟩ := bind_some hM
           refine R_call (hs1 := []) (rest := [hB r01 [vS p11 y16.b c11, vI y16.p], hB b4 [vS p4 y7.Coefs c4, vI y7.Const], hB b2 [vS p2 y3.Coefs c2, vI y3.Const], hB b [.slice none 0 0, .slice none 0 0]]) rfl rfl rfl rfl (by kernel_rfl) rfl rfl (spec_l1Var_ok y12 _ hy8 ) ?_
           rintro imm015 hs2 v2 k2 le13 - ⟨v012, rfl, rfl, ⟨cs3, rfl, h32⟩⟩ -
           replace h27 := h27.mono le13
           replace h18 := h18.mono le13
           replace h17 := h17.mono le13
           replace hle := hle.trans le13
           obtain ⟨v013, rfl, h33⟩ := impl_Affine_open h32
           obtain ⟨p15, c15, rfl⟩ := h33.form
           obtain ⟨y19, hy9, hM⟩ := bind_some hM
           refine R_call (hs1 := []) (rest := [hB r01 [vS p11 y16.b c11, vI y16.p], hB b4 [vS p4 y7.Coefs c4, vI y7.Const], hB b2 [vS p2 y3.Coefs c2, vI y3.Const], hB b [.slice none 0 0, .slice none 0 0]]) rfl rfl rfl rfl (by kernel_rfl) rfl rfl (spec_l1Const_ok 1 _ hy9 ) ?_
           rintro imm016 hs2 v2 k2 le14 - ⟨p16, c16, cs4, rfl, rfl, h34⟩ -
           replace h33 := h33.mono le14
           replace h27 := h27.mono le14
           replace h18 := h18.mono le14
           replace h17 := h17.mono le14
           replace hle := hle.trans le14
           refine R_freeze 0 rfl ?_
           intro imm017 le15 hl04
           have h35 := SL.of_frozen hl04 le15 h34
           replace h33 := h33.mono le15
           replace h27 := h27.mono le15
           replace h18 := h18.mono le15
           replace h17 := h17.mono le15
           replace hle := hle.trans le15
           obtain ⟨y20, hy10, hM⟩ := bind_some hM
           refine R_call (hs1 := []) (rest := [hB r01 [vS p11 y16.b c11, vI y16.p], hB b4 [vS p4 y7.Coefs c4, vI y7.Const], hB b2 [vS p2 y3.Coefs c2, vI y3.Const], hB b [.slice none 0 0, .slice none 0 0]]) rfl rfl rfl rfl (by kernel_rfl) rfl rfl (spec_l1Combine_ok y18 1 y19 1 _ hy10 h33 h35) ?_
           rintro imm018 hs2 v2 k2 le16 - ⟨v014, rfl, rfl, ⟨cs5, rfl, h36⟩⟩ -
           replace h27 := h27.mono le16
           replace h18 := h18.mono le16
           replace h17 := h17.mono le16
           replace hle := hle.trans le16
           obtain ⟨v015, rfl, h37⟩ := impl_Affine_open h36
           obtain ⟨p17, c17, rfl⟩ := h37.form
           exact R_sb 1 [vS p17 y20.Coefs c17, vI y20.Const] [hB r01 [vS p11 y16.b c11, vI y16.p], hB b4 [vS p17 y20.Coefs c17, vI y20.Const], hB b2 [vS p2 y3.Coefs c2, vI y3.Const], hB b [.slice none 0 0, .slice none 0 0]] rfl rfl rfl rfl <| R_end rfl <| T_w [(0, vP r01 0), (4, vP b 0), (5, vP b2 0), (6, vP b4 0)] <| T_cut ⟨_, _, _, _, _, _, (pure_some hM).symm, hle, h17, h37, rfl, rfl⟩
       · rintro imm013 hs2 m2 ⟨x4, x5, p12, c12, p13, c13, heq1, le17, h28, h29, rfl, rfl⟩
         subst o02
         replace h27 := h27.mono le17
         replace hle := hle.trans le17
         exact T_hs (good_pick [1, 0, 2, 3] rfl (by decide)) <| T_w [(0, vP r01 0), (4, vP b 0), (5, vP b2 0), (6, vP b4 0)] <| T_cut ⟨_, _, _, _, _, _, _, _, _, (pure_some hM).symm, hle, h28, h29, h27, rfl, rfl⟩
     · intro hc1 hM
       exact J_skip <| T_w [(0, vP r01 0), (4, vP b 0), (5, vP b2 0), (6, vP b4 0)] <| T_cut ⟨_, _, _, _, _, _, _, _, _, (pure_some hM).symm, hle, h17, h18, h13, rfl, rfl⟩
   · rintro imm010 hs2 m2 ⟨x1, x2, x3, p7, c7, p8, c8, p9, c9, heq2, le18, h19, h20, h21, rfl, rfl⟩
     subst o01
     replace hle := hle.trans le18
     refine T_seq <| J_seq <| J_region <| R_d 1 [2] [(36, vA [vS p7 x1.Coefs c7, vI x1.Const])] <| R_buildSlice (cs := [vS p7 x1.Coefs c7, vI x1.Const]) (Rp.sz impl_Affine) rfl rfl rfl rfl (by kernel_rfl) (by kernel_rfl) ?_
     intro b5 hb5
     have h38 : RL imm010 [vS p7 x1.Coefs c7, vI x1.Const] ([x1] : List impl_Affine) := ⟨[vS p7 x1.Coefs c7, vI x1.Const], _, rfl, rfl, (impl_Affine_shut ⟨_, rfl, h19⟩), rfl⟩
     refine R_d 3 [1] [(38, vA [vS p8 x2.Coefs c8, vI x2.Const])] <| R_buildSlice (cs := [vS p8 x2.Coefs c8, vI x2.Const]) (Rp.sz impl_Affine) rfl rfl rfl rfl (by kernel_rfl) (by kernel_rfl) ?_
     intro b6 hb6
     have h39 : RL imm010 [vS p8 x2.Coefs c8, vI x2.Const] ([x2] : List impl_Affine) := ⟨[vS p8 x2.Coefs c8, vI x2.Const], _, rfl, rfl, (impl_Affine_shut ⟨_, rfl, h20⟩), rfl⟩
     refine R_d 5 [] [(40, vA [vS (some ⟨b5, 0, none⟩) ([x1] : List impl_Affine) 1, vS (some ⟨b6, 0, none⟩) ([x2] : List impl_Affine) 1])] <| R_alloc (c := ⟨[.slice none 0 0, .slice none 0 0]⟩) rfl rfl rfl (by kernel_rfl) ?_
     intro b7 hb7
     refine R_sb 0 [vS (some ⟨b5, 0, none⟩) ([x1] : List impl_Affine) 1, vS (some ⟨b6, 0, none⟩) ([x2] : List impl_Affine) 1] [hB b7 [vS (some ⟨b5, 0, none⟩) ([x1] : List impl_Affine) 1, vS (some ⟨b6, 0, none⟩) ([x2] : List impl_Affine) 1], hO impl_Affine (vS (some ⟨b6, 0, none⟩) ([x2] : List impl_Affine) 1) [vS p8 x2.Coefs c8, vI x2.Const], hO impl_Affine (vS (some ⟨b5, 0, none⟩) ([x1] : List impl_Affine) 1) [vS p7 x1.Coefs c7, vI x1.Const], hB b4 [vS p8 x2.Coefs c8, vI x2.Const], hB r01 [vS p9 x3.b c9, vI x3.p], hB b2 [vS p7 x1.Coefs c7, vI x1.Const], hB b [.slice none 0 0, .slice none 0 0]] rfl rfl rfl rfl <| R_end rfl <| T_seq <| J_seq <| J_seq <| J_region <| R_d 1 [] [(41, vP r01 0)] <| R_hs (good_pick [4, 0, 1, 2, 3, 5, 6] (hs' := [hB r01 [vS p9 x3.b c9, vI x3.p], hB b7 [vS (some ⟨b5, 0, none⟩) ([x1] : List impl_Affine) 1, vS (some ⟨b6, 0, none⟩) ([x2] : List impl_Affine) 1], hO impl_Affine (vS (some ⟨b6, 0, none⟩) ([x2] : List impl_Affine) 1) [vS p8 x2.Coefs c8, vI x2.Const], hO impl_Affine (vS (some ⟨b5, 0, none⟩) ([x1] : List impl_Affine) 1) [vS p7 x1.Coefs c7, vI x1.Const], hB b4 [vS p8 x2.Coefs c8, vI x2.Const], hB b2 [vS p7 x1.Coefs c7, vI x1.Const], hB b [.slice none 0 0, .slice none 0 0]]) rfl (by decide)) ?_
     obtain ⟨⟨y22, y23⟩, hy11, hM⟩ := bind_some hM
     refine R_call (hs1 := [hB r01 [vS p9 x3.b c9, vI x3.p]]) (rest := [hB b7 [vS (some ⟨b5, 0, none⟩) ([x1] : List impl_Affine) 1, vS (some ⟨b6, 0, none⟩) ([x2] : List impl_Affine) 1], hO impl_Affine (vS (some ⟨b6, 0, none⟩) ([x2] : List impl_Affine) 1) [vS p8 x2.Coefs c8, vI x2.Const], hO impl_Affine (vS (some ⟨b5, 0, none⟩) ([x1] : List impl_Affine) 1) [vS p7 x1.Coefs c7, vI x1.Const], hB b4 [vS p8 x2.Coefs c8, vI x2.Const], hB b2 [vS p7 x1.Coefs c7, vI x1.Const], hB b [.slice none 0 0, .slice none 0 0]]) rfl rfl rfl rfl (by kernel_rfl) rfl rfl (spec_l16Rd_pick_ok x3 12 _ hy11 h21) ?_
     rintro imm019 hs2 v2 k2 le19 - ⟨v016, kk5, rfl, rfl, rfl, h41⟩ -
     replace h38 := RepL.mono (fun _ _ => Rp.mono le19) h38
     replace h39 := RepL.mono (fun _ _ => Rp.mono le19) h39
     replace h20 := h20.mono le19
     replace h19 := h19.mono le19
     replace hle := hle.trans le19
     obtain ⟨v017, rfl, h42⟩ := spec_l16Rd_open h41
     obtain ⟨p18, c18, rfl⟩ := h42.form
     refine R_end rfl <| T_seq <| J_block <| J_seq <| J_region <| R_z [] [(43, .bool (y22 == 0))] <| T_seq ?_
     obtain ⟨o03, ho03, hM⟩ := bind_some hM
     refine J_cut (fun imm' hs' m' => ∃ (Lo : List impl_Affine) (Hi : List impl_Affine) (x6 : spec_l16Rd) (p19 : Option Addr) (c19 : Nat) (cs6 : List Value) (p20 : Option Addr) (c20 : Nat) (cs7 : List Value) (p21 : Option Addr) (c21 : Nat), o03 = (Lo, Hi, x6) ∧ imm019.le imm' ∧ (RL imm' cs6 Lo) ∧ (RL imm' cs7 Hi) ∧ (SL imm' (vS p21 x6.b c21) x6.b) ∧ hs' = [hB r01 [vS p21 x6.b c21, vI x6.p], hB b7 [vS p19 Lo c19, vS p20 Hi c20], hO impl_Affine (vS p20 Hi c20) cs7, hO impl_Affine (vS p19 Lo c19) cs6, hB b [.slice none 0 0, .slice none 0 0]] ∧ m' = [(4, vP b 0), (8, vP b7 0)]) ?_ ?_
     · have hle0 := hle
       have hle : imm019.le imm019 := Imm.le.refl _
       refine J_cd ho03 ?_ ?_
       · intro hc3 hM
         obtain ⟨⟨y25, y26⟩, hy12, hM⟩ := bind_some hM
         obtain ⟨y27, hy13, hM⟩ := bind_some hM
         obtain ⟨l, hy14, hM⟩ := bind_some hM
         refine J_any [.p (vP b7 1) [], .p (vS (some ⟨b6, 0, none⟩) ([x2] : List impl_Affine) 1) [0], .p (vP r01 0) [], .x (fun imm' v hx => ∃ (b8 : Nat), v = vS (some ⟨b8, 0, none⟩) ([3, 2, 4] : List Int) 3 ∧ hx = [] ∧ (SL imm' (vS (some ⟨b8, 0, none⟩) ([3, 2, 4] : List Int) 3) ([3, 2, 4] : List Int))), .x (fun imm' v hx => ∃ (p22 : Option Addr) (c22 : Nat), v = vI y25 ∧ hx = [hB r01 [vS p22 y26.b c22, vI y26.p]] ∧ (SL imm' (vS p22 y26.b c22) y26.b)), .x (fun imm' v hx => ∃ (p23 : Option Addr) (c23 : Nat) (cs8 : List Value), v = vA [vS p23 y27.Coefs c23, vI y27.Const] ∧ hx = [hO Int (vS p23 y27.Coefs c23) cs8] ∧ (RL imm' cs8 y27.Coefs)), .x (fun imm' v hx => ∃ (b9 : Nat), v = vS (some ⟨b9, 0, none⟩) ([y27] : List impl_Affine) 1 ∧ hx = [] ∧ (SL imm' (vS (some ⟨b9, 0, none⟩) ([y27] : List impl_Affine) 1) ([y27] : List impl_Affine))), .x (fun imm' v hx => ∃ (p24 : Option Addr) (c24 : Nat) (cs9 : List Value), v = vS p24 l c24 ∧ hx = [hO impl_Affine (vS p24 l c24) cs9] ∧ (RL imm' cs9 l))] [[], [(0, false)], [], [], [(2, false), (3, false), (10, true)], [(4, false)], [(5, true)], [(1, false), (6, false), (11, true)]] [hB b7 [vS (some ⟨b5, 0, none⟩) ([x1] : List impl_Affine) 1, vS (some ⟨b6, 0, none⟩) ([x2] : List impl_Affine) 1], hO impl_Affine (vS (some ⟨b5, 0, none⟩) ([x1] : List impl_Affine) 1) [vS p7 x1.Coefs c7, vI x1.Const], hB b4 [vS p8 x2.Coefs c8, vI x2.Const], hB b2 [vS p7 x1.Coefs c7, vI x1.Const], hB b [.slice none 0 0, .slice none 0 0]] [[hB r01 [vS p18 y23.b c18, vI y23.p]], [hO impl_Affine (vS (some ⟨b6, 0, none⟩) ([x2] : List impl_Affine) 1) [vS p8 x2.Coefs c8, vI x2.Const]]] [(4, true), (7, true)] (good_pick [1, 3, 4, 5, 6, 0, 2] rfl (by decide)) ?_ ?_
         · refine Op <| Op <| Op <| Ox ?_ <| Ox ?_ <| Ox ?_ <| Ox ?_ <| Ox ?_ <| On
           · intro imm1 hf le1
             refine Ins_nil <| R_isw (hB b7 [vS (some ⟨b5, 0, none⟩) ([x1] : List impl_Affine) 1, vS (some ⟨b6, 0, none⟩) ([x2] : List impl_Affine) 1] :: hO impl_Affine (vS (some ⟨b5, 0, none⟩) ([x1] : List impl_Affine) 1) [vS p7 x1.Coefs c7, vI x1.Const] :: hB b4 [vS p8 x2.Coefs c8, vI x2.Const] :: hB b2 [vS p7 x1.Coefs c7, vI x1.Const] :: hB b [.slice none 0 0, .slice none 0 0] :: hf) [] ?_
             have hle := Imm.le.refl imm1
             replace h38 := RepL.mono (fun _ _ => Rp.mono le1) h38
             replace h39 := RepL.mono (fun _ _ => Rp.mono le1) h39
             replace h20 := h20.mono le1
             replace h19 := h19.mono le1
             refine R_buildSlice (cs := [vI 3, vI 2, vI 4]) (Rp.sz Int) rfl rfl rfl rfl (by kernel_rfl) (by kernel_rfl) ?_
             intro b8 hb8
             have h46 : RL imm1 [vI 3, vI 2, vI 4] ([3, 2, 4] : List Int) := ⟨[vI 3], _, rfl, rfl, rfl, ⟨[vI 2], _, rfl, rfl, rfl, ⟨[vI 4], _, rfl, rfl, rfl, rfl⟩⟩⟩
             refine R_freeze 0 rfl ?_
             intro imm021 le20 hl05
             have h47 := SL.of_frozen hl05 le20 h46
             replace h38 := RepL.mono (fun _ _ => Rp.mono le20) h38
             replace h39 := RepL.mono (fun _ _ => Rp.mono le20) h39
             replace h20 := h20.mono le20
             replace h19 := h19.mono le20
             replace hle := hle.trans le20
             exact R_out (hx := []) rfl hle rfl (out_some rfl) ⟨_, rfl, rfl, h47⟩
           · intro imm1 hf le1
             refine Ins_cons ?_
             rintro _ _ ⟨rfl, rfl⟩
             refine Ins_cons ?_
             rintro _ _ ⟨b8, rfl, rfl, h47⟩
             refine Ins_cons ?_
             rintro _ _ rfl
             refine Ins_nil <| R_isw (hB r01 [vS p18 y23.b c18, vI y23.p] :: hB b7 [vS (some ⟨b5, 0, none⟩) ([x1] : List impl_Affine) 1, vS (some ⟨b6, 0, none⟩) ([x2] : List impl_Affine) 1] :: hO impl_Affine (vS (some ⟨b5, 0, none⟩) ([x1] : List impl_Affine) 1) [vS p7 x1.Coefs c7, vI x1.Const] :: hB b4 [vS p8 x2.Coefs c8, vI x2.Const] :: hB b2 [vS p7 x1.Coefs c7, vI x1.Const] :: hB b [.slice none 0 0, .slice none 0 0] :: hf) [(47, vP r01 0), (48, vS (some ⟨b8, 0, none⟩) ([3, 2, 4] : List Int) 3)] ?_
             have hle := Imm.le.refl imm1
             replace h42 := h42.mono le1
             replace h38 := RepL.mono (fun _ _ => Rp.mono le1) h38
             replace h39 := RepL.mono (fun _ _ => Rp.mono le1) h39
             replace h20 := h20.mono le1
             replace h19 := h19.mono le1
             refine R_call (hs1 := [hB r01 [vS p18 y23.b c18, vI y23.p]]) (rest := (hB b7 [vS (some ⟨b5, 0, none⟩) ([x1] : List impl_Affine) 1, vS (some ⟨b6, 0, none⟩) ([x2] : List impl_Affine) 1] :: hO impl_Affine (vS (some ⟨b5, 0, none⟩) ([x1] : List impl_Affine) 1) [vS p7 x1.Coefs c7, vI x1.Const] :: hB b4 [vS p8 x2.Coefs c8, vI x2.Const] :: hB b2 [vS p7 x1.Coefs c7, vI x1.Const] :: hB b [.slice none 0 0, .slice none 0 0] :: hf)) rfl rfl rfl rfl (by kernel_rfl) rfl rfl (spec_l16Rd_num_ok y23 ([3, 2, 4] : List Int) _ hy12 h42 h47) ?_
             rintro imm022 hs2 v2 k2 le21 - ⟨v018, kk6, rfl, rfl, rfl, h49⟩ -
             replace h47 := h47.mono le21
             replace h38 := RepL.mono (fun _ _ => Rp.mono le21) h38
             replace h39 := RepL.mono (fun _ _ => Rp.mono le21) h39
             replace h20 := h20.mono le21
             replace h19 := h19.mono le21
             replace hle := hle.trans le21
             obtain ⟨v019, rfl, h50⟩ := spec_l16Rd_open h49
             obtain ⟨p22, c22, rfl⟩ := h50.form
             exact R_out (hx := [hB r01 [vS p22 y26.b c22, vI y26.p]]) rfl hle rfl (out_some rfl) ⟨_, _, rfl, rfl, h50⟩
           · intro imm1 hf le1
             refine Ins_cons ?_
             rintro _ _ ⟨p22, c22, rfl, rfl, h50⟩
             refine Ins_nil <| R_isw (hB b7 [vS (some ⟨b5, 0, none⟩) ([x1] : List impl_Affine) 1, vS (some ⟨b6, 0, none⟩) ([x2] : List impl_Affine) 1] :: hO impl_Affine (vS (some ⟨b5, 0, none⟩) ([x1] : List impl_Affine) 1) [vS p7 x1.Coefs c7, vI x1.Const] :: hB b4 [vS p8 x2.Coefs c8, vI x2.Const] :: hB b2 [vS p7 x1.Coefs c7, vI x1.Const] :: hB b [.slice none 0 0, .slice none 0 0] :: hf) [(49, vI y25)] ?_
             have hle := Imm.le.refl imm1
             replace h38 := RepL.mono (fun _ _ => Rp.mono le1) h38
             replace h39 := RepL.mono (fun _ _ => Rp.mono le1) h39
             replace h20 := h20.mono le1
             replace h19 := h19.mono le1
             refine R_call (hs1 := []) (rest := (hB b7 [vS (some ⟨b5, 0, none⟩) ([x1] : List impl_Affine) 1, vS (some ⟨b6, 0, none⟩) ([x2] : List impl_Affine) 1] :: hO impl_Affine (vS (some ⟨b5, 0, none⟩) ([x1] : List impl_Affine) 1) [vS p7 x1.Coefs c7, vI x1.Const] :: hB b4 [vS p8 x2.Coefs c8, vI x2.Const] :: hB b2 [vS p7 x1.Coefs c7, vI x1.Const] :: hB b [.slice none 0 0, .slice none 0 0] :: hf)) rfl rfl rfl rfl (by kernel_rfl) rfl rfl (spec_l1Const_ok y25 _ hy13 ) ?_
             rintro imm023 hs2 v2 k2 le22 - ⟨p23, c23, cs8, rfl, rfl, h51⟩ -
             replace h38 := RepL.mono (fun _ _ => Rp.mono le22) h38
             replace h39 := RepL.mono (fun _ _ => Rp.mono le22) h39
             replace h20 := h20.mono le22
             replace h19 := h19.mono le22
             replace hle := hle.trans le22
             exact R_out (hx := [hO Int (vS p23 y27.Coefs c23) cs8]) rfl hle rfl (out_some rfl) ⟨_, _, _, rfl, rfl, h51⟩
           · intro imm1 hf le1
             refine Ins_cons ?_
             rintro _ _ ⟨p23, c23, cs8, rfl, rfl, h51⟩
             refine Ins_nil <| R_isw (hO Int (vS p23 y27.Coefs c23) cs8 :: hB b7 [vS (some ⟨b5, 0, none⟩) ([x1] : List impl_Affine) 1, vS (some ⟨b6, 0, none⟩) ([x2] : List impl_Affine) 1] :: hO impl_Affine (vS (some ⟨b5, 0, none⟩) ([x1] : List impl_Affine) 1) [vS p7 x1.Coefs c7, vI x1.Const] :: hB b4 [vS p8 x2.Coefs c8, vI x2.Const] :: hB b2 [vS p7 x1.Coefs c7, vI x1.Const] :: hB b [.slice none 0 0, .slice none 0 0] :: hf) [(50, vA [vS p23 y27.Coefs c23, vI y27.Const])] ?_
             have hle := Imm.le.refl imm1
             replace h38 := RepL.mono (fun _ _ => Rp.mono le1) h38
             replace h39 := RepL.mono (fun _ _ => Rp.mono le1) h39
             replace h20 := h20.mono le1
             replace h19 := h19.mono le1
             refine R_freeze 0 rfl ?_
             intro imm024 le23 hl06
             have h52 := SL.of_frozen hl06 le23 h51
             replace h38 := RepL.mono (fun _ _ => Rp.mono le23) h38
             replace h39 := RepL.mono (fun _ _ => Rp.mono le23) h39
             replace h20 := h20.mono le23
             replace h19 := h19.mono le23
             replace hle := hle.trans le23
             refine R_buildSlice (cs := [vS p23 y27.Coefs c23, vI y27.Const]) (Rp.sz impl_Affine) rfl rfl rfl rfl (by kernel_rfl) (by kernel_rfl) ?_
             intro b9 hb9
             have h53 : RL imm024 [vS p23 y27.Coefs c23, vI y27.Const] ([y27] : List impl_Affine) := ⟨[vS p23 y27.Coefs c23, vI y27.Const], _, rfl, rfl, (impl_Affine_shut ⟨_, rfl, h52⟩), rfl⟩
             refine R_freeze 0 rfl ?_
             intro imm025 le24 hl07
             have h54 := SL.of_frozen hl07 le24 h53
             replace h52 := h52.mono le24
             replace h38 := RepL.mono (fun _ _ => Rp.mono le24) h38
             replace h39 := RepL.mono (fun _ _ => Rp.mono le24) h39
             replace h20 := h20.mono le24
             replace h19 := h19.mono le24
             replace hle := hle.trans le24
             exact R_out (hx := []) rfl hle rfl (out_some rfl) ⟨_, rfl, rfl, h54⟩
           · intro imm1 hf le1
             refine Ins_cons ?_
             rintro _ _ ⟨rfl, rfl⟩
             refine Ins_cons ?_
             rintro _ _ ⟨b9, rfl, rfl, h54⟩
             refine Ins_cons ?_
             rintro _ _ rfl
             refine Ins_nil <| R_isw (hO impl_Affine (vS (some ⟨b6, 0, none⟩) ([x2] : List impl_Affine) 1) [vS p8 x2.Coefs c8, vI x2.Const] :: hB b7 [vS (some ⟨b5, 0, none⟩) ([x1] : List impl_Affine) 1, vS (some ⟨b6, 0, none⟩) ([x2] : List impl_Affine) 1] :: hO impl_Affine (vS (some ⟨b5, 0, none⟩) ([x1] : List impl_Affine) 1) [vS p7 x1.Coefs c7, vI x1.Const] :: hB b4 [vS p8 x2.Coefs c8, vI x2.Const] :: hB b2 [vS p7 x1.Coefs c7, vI x1.Const] :: hB b [.slice none 0 0, .slice none 0 0] :: hf) [(46, vS (some ⟨b6, 0, none⟩) ([x2] : List impl_Affine) 1), (51, vS (some ⟨b9, 0, none⟩) ([y27] : List impl_Affine) 1)] ?_
             have hle := Imm.le.refl imm1
             replace h39 := RepL.mono (fun _ _ => Rp.mono le1) h39
             obtain ⟨ccs, k0, k01⟩ := h54
             have h54 : SL imm1 (vS (some ⟨b9, 0, none⟩) ([y27] : List impl_Affine) 1) ([y27] : List impl_Affine) := ⟨_, k0, k01⟩
             refine R_ap 75 2 0 rfl rfl rfl h39 (.inl k0) k01 hy14 ?_
             intro p24 c24 cs9 h55
             exact R_hseq (hs' := (hO impl_Affine (vS p24 l c24) cs9 :: hB b7 [vS (some ⟨b5, 0, none⟩) ([x1] : List impl_Affine) 1, vS (some ⟨b6, 0, none⟩) ([x2] : List impl_Affine) 1] :: hO impl_Affine (vS (some ⟨b5, 0, none⟩) ([x1] : List impl_Affine) 1) [vS p7 x1.Coefs c7, vI x1.Const] :: hB b4 [vS p8 x2.Coefs c8, vI x2.Const] :: hB b2 [vS p7 x1.Coefs c7, vI x1.Const] :: hB b [.slice none 0 0, .slice none 0 0] :: hf)) rfl <| R_out (hx := [hO impl_Affine (vS p24 l c24) cs9]) rfl hle rfl (out_some rfl) ⟨_, _, _, rfl, rfl, h55⟩
         · intro imm026 le25
           refine Ins_cons ?_
           rintro _ _ ⟨p22, c22, rfl, rfl, h50⟩
           refine Ins_cons ?_
           rintro _ _ ⟨p24, c24, cs9, rfl, rfl, h55⟩
           refine Ins_nil <| R_isw [hO impl_Affine (vS p24 l c24) cs9, hB r01 [vS p22 y26.b c22, vI y26.p], hB b7 [vS (some ⟨b5, 0, none⟩) ([x1] : List impl_Affine) 1, vS (some ⟨b6, 0, none⟩) ([x2] : List impl_Affine) 1], hO impl_Affine (vS (some ⟨b5, 0, none⟩) ([x1] : List impl_Affine) 1) [vS p7 x1.Coefs c7, vI x1.Const], hB b4 [vS p8 x2.Coefs c8, vI x2.Const], hB b2 [vS p7 x1.Coefs c7, vI x1.Const], hB b [.slice none 0 0, .slice none 0 0]] [(4, vP b 0), (8, vP b7 0), (52, vS p24 l c24)] ?_
           replace h38 := RepL.mono (fun _ _ => Rp.mono le25) h38
           replace h39 := RepL.mono (fun _ _ => Rp.mono le25) h39
           replace h20 := h20.mono le25
           replace h19 := h19.mono le25
           replace hle := hle.trans le25
           exact R_d 9 [] [(53, vP b7 1)] <| R_sb 2 [vS (some ⟨b5, 0, none⟩) ([x1] : List impl_Affine) 1, vS p24 l c24] [hO impl_Affine (vS p24 l c24) cs9, hB r01 [vS p22 y26.b c22, vI y26.p], hB b7 [vS (some ⟨b5, 0, none⟩) ([x1] : List impl_Affine) 1, vS p24 l c24], hO impl_Affine (vS (some ⟨b5, 0, none⟩) ([x1] : List impl_Affine) 1) [vS p7 x1.Coefs c7, vI x1.Const], hB b4 [vS p8 x2.Coefs c8, vI x2.Const], hB b2 [vS p7 x1.Coefs c7, vI x1.Const], hB b [.slice none 0 0, .slice none 0 0]] rfl rfl rfl rfl <| R_end rfl <| T_hs (good_pick [1, 2, 0, 3, 6] rfl (by decide)) <| T_w [(4, vP b 0), (8, vP b7 0)] <| T_cut ⟨_, _, _, _, _, _, _, _, _, _, _, (pure_some hM).symm, hle, h38, h55, h50, rfl, rfl⟩
       · intro hc3 hM
         refine J_seq <| J_region <| R_z [] [(54, .bool (y22 == 1))] <| T_seq ?_
         obtain ⟨o04, ho04, hM⟩ := bind_some hM
         refine J_cut (fun imm' hs' m' => ∃ (Lo1 : List impl_Affine) (x7 : spec_l16Rd) (p25 : Option Addr) (c25 : Nat) (cs10 : List Value) (p26 : Option Addr) (c26 : Nat), o04 = (Lo1, x7) ∧ imm019.le imm' ∧ (RL imm' cs10 Lo1) ∧ (SL imm' (vS p26 x7.b c26) x7.b) ∧ hs' = [hB r01 [vS p26 x7.b c26, vI x7.p], hB b7 [vS p25 Lo1 c25, vS (some ⟨b6, 0, none⟩) ([x2] : List impl_Affine) 1], hO impl_Affine (vS (some ⟨b6, 0, none⟩) ([x2] : List impl_Affine) 1) [vS p8 x2.Coefs c8, vI x2.Const], hO impl_Affine (vS p25 Lo1 c25) cs10, hB b [.slice none 0 0, .slice none 0 0]] ∧ m' = [(4, vP b 0), (8, vP b7 0)]) ?_ ?_
         · have hle0 := hle
           have hle : imm019.le imm019 := Imm.le.refl _
           refine J_cd ho04 ?_ ?_
           · intro hc4 hM
             obtain ⟨⟨y29, y30⟩, hy15, hM⟩ := bind_some hM
             obtain ⟨y31, hy16, hM⟩ := bind_some hM
             obtain ⟨l1, hy17, hM⟩ := bind_some hM
             refine J_any [.p (vP b7 0) [], .p (vS (some ⟨b5, 0, none⟩) ([x1] : List impl_Affine) 1) [0], .p (vP r01 0) [], .x (fun imm' v hx => ∃ (b10 : Nat), v = vS (some ⟨b10, 0, none⟩) ([0, 1] : List Int) 2 ∧ hx = [] ∧ (SL imm' (vS (some ⟨b10, 0, none⟩) ([0, 1] : List Int) 2) ([0, 1] : List Int))), .x (fun imm' v hx => ∃ (p27 : Option Addr) (c27 : Nat), v = vI y29 ∧ hx = [hB r01 [vS p27 y30.b c27, vI y30.p]] ∧ (SL imm' (vS p27 y30.b c27) y30.b)), .x (fun imm' v hx => ∃ (p28 : Option Addr) (c28 : Nat) (cs11 : List Value), v = vA [vS p28 y31.Coefs c28, vI y31.Const] ∧ hx = [hO Int (vS p28 y31.Coefs c28) cs11] ∧ (RL imm' cs11 y31.Coefs)), .x (fun imm' v hx => ∃ (b11 : Nat), v = vS (some ⟨b11, 0, none⟩) ([y31] : List impl_Affine) 1 ∧ hx = [] ∧ (SL imm' (vS (some ⟨b11, 0, none⟩) ([y31] : List impl_Affine) 1) ([y31] : List impl_Affine))), .x (fun imm' v hx => ∃ (p29 : Option Addr) (c29 : Nat) (cs12 : List Value), v = vS p29 l1 c29 ∧ hx = [hO impl_Affine (vS p29 l1 c29) cs12] ∧ (RL imm' cs12 l1))] [[], [(0, false)], [], [], [(2, false), (3, false), (10, true)], [(4, false)], [(5, true)], [(1, false), (6, false), (11, true)]] [hB b7 [vS (some ⟨b5, 0, none⟩) ([x1] : List impl_Affine) 1, vS (some ⟨b6, 0, none⟩) ([x2] : List impl_Affine) 1], hO impl_Affine (vS (some ⟨b6, 0, none⟩) ([x2] : List impl_Affine) 1) [vS p8 x2.Coefs c8, vI x2.Const], hB b4 [vS p8 x2.Coefs c8, vI x2.Const], hB b2 [vS p7 x1.Coefs c7, vI x1.Const], hB b [.slice none 0 0, .slice none 0 0]] [[hB r01 [vS p18 y23.b c18, vI y23.p]], [hO impl_Affine (vS (some ⟨b5, 0, none⟩) ([x1] : List impl_Affine) 1) [vS p7 x1.Coefs c7, vI x1.Const]]] [(4, true), (7, true)] (good_pick [1, 2, 4, 5, 6, 0, 3] rfl (by decide)) ?_ ?_
             · refine Op <| Op <| Op <| Ox ?_ <| Ox ?_ <| Ox ?_ <| Ox ?_ <| Ox ?_ <| On
               · intro imm1 hf le1
                 refine Ins_nil <| R_isw (hB b7 [vS (some ⟨b5, 0, none⟩) ([x1] : List impl_Affine) 1, vS (some ⟨b6, 0, none⟩) ([x2] : List impl_Affine) 1] :: hO impl_Affine (vS (some ⟨b6, 0, none⟩) ([x2] : List impl_Affine) 1) [vS p8 x2.Coefs c8, vI x2.Const] :: hB b4 [vS p8 x2.Coefs c8, vI x2.Const] :: hB b2 [vS p7 x1.Coefs c7, vI x1.Const] :: hB b [.slice none 0 0, .slice none 0 0] :: hf) [] ?_
                 have hle := Imm.le.refl imm1
                 replace h38 := RepL.mono (fun _ _ => Rp.mono le1) h38
                 replace h39 := RepL.mono (fun _ _ => Rp.mono le1) h39
                 replace h20 := h20.mono le1
                 replace h19 := h19.mono le1
                 refine R_buildSlice (cs := [vI 0, vI 1]) (Rp.sz Int) rfl rfl rfl rfl (by kernel_rfl) (by kernel_rfl) ?_
                 intro b10 hb10
                 have h58 : RL imm1 [vI 0, vI 1] ([0, 1] : List Int) := ⟨[vI 0], _, rfl, rfl, rfl, ⟨[vI 1], _, rfl, rfl, rfl, rfl⟩⟩
                 refine R_freeze 0 rfl ?_
                 intro imm028 le26 hl08
                 have h59 := SL.of_frozen hl08 le26 h58
                 replace h38 := RepL.mono (fun _ _ => Rp.mono le26) h38
                 replace h39 := RepL.mono (fun _ _ => Rp.mono le26) h39
                 replace h20 := h20.mono le26
                 replace h19 := h19.mono le26
                 replace hle := hle.trans le26
                 exact R_out (hx := []) rfl hle rfl (out_some rfl) ⟨_, rfl, rfl, h59⟩
               · intro imm1 hf le1
                 refine Ins_cons ?_
                 rintro _ _ ⟨rfl, rfl⟩
                 refine Ins_cons ?_
                 rintro _ _ ⟨b10, rfl, rfl, h59⟩
                 refine Ins_cons ?_
                 rintro _ _ rfl
                 refine Ins_nil <| R_isw (hB r01 [vS p18 y23.b c18, vI y23.p] :: hB b7 [vS (some ⟨b5, 0, none⟩) ([x1] : List impl_Affine) 1, vS (some ⟨b6, 0, none⟩) ([x2] : List impl_Affine) 1] :: hO impl_Affine (vS (some ⟨b6, 0, none⟩) ([x2] : List impl_Affine) 1) [vS p8 x2.Coefs c8, vI x2.Const] :: hB b4 [vS p8 x2.Coefs c8, vI x2.Const] :: hB b2 [vS p7 x1.Coefs c7, vI x1.Const] :: hB b [.slice none 0 0, .slice none 0 0] :: hf) [(58, vP r01 0), (59, vS (some ⟨b10, 0, none⟩) ([0, 1] : List Int) 2)] ?_
                 have hle := Imm.le.refl imm1
                 replace h42 := h42.mono le1
                 replace h38 := RepL.mono (fun _ _ => Rp.mono le1) h38
                 replace h39 := RepL.mono (fun _ _ => Rp.mono le1) h39
                 replace h20 := h20.mono le1
                 replace h19 := h19.mono le1
                 refine R_call (hs1 := [hB r01 [vS p18 y23.b c18, vI y23.p]]) (rest := (hB b7 [vS (some ⟨b5, 0, none⟩) ([x1] : List impl_Affine) 1, vS (some ⟨b6, 0, none⟩) ([x2] : List impl_Affine) 1] :: hO impl_Affine (vS (some ⟨b6, 0, none⟩) ([x2] : List impl_Affine) 1) [vS p8 x2.Coefs c8, vI x2.Const] :: hB b4 [vS p8 x2.Coefs c8, vI x2.Const] :: hB b2 [vS p7 x1.Coefs c7, vI x1.Const] :: hB b [.slice none 0 0, .slice none 0 0] :: hf)) rfl rfl rfl rfl (by kernel_rfl) rfl rfl (spec_l16Rd_num_ok y23 ([0, 1] : List Int) _ hy15 h42 h59) ?_
                 rintro imm029 hs2 v2 k2 le27 - ⟨v020, kk7, rfl, rfl, rfl, h61⟩ -
                 replace h59 := h59.mono le27
                 replace h38 := RepL.mono (fun _ _ => Rp.mono le27) h38
                 replace h39 := RepL.mono (fun _ _ => Rp.mono le27) h39
                 replace h20 := h20.mono le27
                 replace h19 := h19.mono le27
                 replace hle := hle.trans le27
                 obtain ⟨v021, rfl, h62⟩ := spec_l16Rd_open h61
                 obtain ⟨p27, c27, rfl⟩ := h62.form
                 exact R_out (hx := [hB r01 [vS p27 y30.b c27, vI y30.p]]) rfl hle rfl (out_some rfl) ⟨_, _, rfl, rfl, h62⟩
               · intro imm1 hf le1
                 refine Ins_cons ?_
                 rintro _ _ ⟨p27, c27, rfl, rfl, h62⟩
                 refine Ins_nil <| R_isw (hB b7 [vS (some ⟨b5, 0, none⟩) ([x1] : List impl_Affine) 1, vS (some ⟨b6, 0, none⟩) ([x2] : List impl_Affine) 1] :: hO impl_Affine (vS (some ⟨b6, 0, none⟩) ([x2] : List impl_Affine) 1) [vS p8 x2.Coefs c8, vI x2.Const] :: hB b4 [vS p8 x2.Coefs c8, vI x2.Const] :: hB b2 [vS p7 x1.Coefs c7, vI x1.Const] :: hB b [.slice none 0 0, .slice none 0 0] :: hf) [(60, vI y29)] ?_
                 have hle := Imm.le.refl imm1
                 replace h38 := RepL.mono (fun _ _ => Rp.mono le1) h38
                 replace h39 := RepL.mono (fun _ _ => Rp.mono le1) h39
                 replace h20 := h20.mono le1
                 replace h19 := h19.mono le1
                 refine R_call (hs1 := []) (rest := (hB b7 [vS (some ⟨b5, 0, none⟩) ([x1] : List impl_Affine) 1, vS (some ⟨b6, 0, none⟩) ([x2] : List impl_Affine) 1] :: hO impl_Affine (vS (some ⟨b6, 0, none⟩) ([x2] : List impl_Affine) 1) [vS p8 x2.Coefs c8, vI x2.Const] :: hB b4 [vS p8 x2.Coefs c8, vI x2.Const] :: hB b2 [vS p7 x1.Coefs c7, vI x1.Const] :: hB b [.slice none 0 0, .slice none 0 0] :: hf)) rfl rfl rfl rfl (by kernel_rfl) rfl rfl (spec_l1Const_ok y29 _ hy16 ) ?_
                 rintro imm030 hs2 v2 k2 le28 - ⟨p28, c28, cs11, rfl, rfl, h63⟩ -
                 replace h38 := RepL.mono (fun _ _ => Rp.mono le28) h38
                 replace h39 := RepL.mono (fun _ _ => Rp.mono le28) h39
                 replace h20 := h20.mono le28
                 replace h19 := h19.mono le28
                 replace hle := hle.trans le28
                 exact R_out (hx := [hO Int (vS p28 y31.Coefs c28) cs11]) rfl hle rfl (out_some rfl) ⟨_, _, _, rfl, rfl, h63⟩
               · intro imm1 hf le1
                 refine Ins_cons ?_
                 rintro _ _ ⟨p28, c28, cs11, rfl, rfl, h63⟩
                 refine Ins_nil <| R_isw (hO Int (vS p28 y31.Coefs c28) cs11 :: hB b7 [vS (some ⟨b5, 0, none⟩) ([x1] : List impl_Affine) 1, vS (some ⟨b6, 0, none⟩) ([x2] : List impl_Affine) 1] :: hO impl_Affine (vS (some ⟨b6, 0, none⟩) ([x2] : List impl_Affine) 1) [vS p8 x2.Coefs c8, vI x2.Const] :: hB b4 [vS p8 x2.Coefs c8, vI x2.Const] :: hB b2 [vS p7 x1.Coefs c7, vI x1.Const] :: hB b [.slice none 0 0, .slice none 0 0] :: hf) [(61, vA [vS p28 y31.Coefs c28, vI y31.Const])] ?_
                 have hle := Imm.le.refl imm1
                 replace h38 := RepL.mono (fun _ _ => Rp.mono le1) h38
                 replace h39 := RepL.mono (fun _ _ => Rp.mono le1) h39
                 replace h20 := h20.mono le1
                 replace h19 := h19.mono le1
                 refine R_freeze 0 rfl ?_
                 intro imm031 le29 hl09
                 have h64 := SL.of_frozen hl09 le29 h63
                 replace h38 := RepL.mono (fun _ _ => Rp.mono le29) h38
                 replace h39 := RepL.mono (fun _ _ => Rp.mono le29) h39
                 replace h20 := h20.mono le29
                 replace h19 := h19.mono le29
                 replace hle := hle.trans le29
                 refine R_buildSlice (cs := [vS p28 y31.Coefs c28, vI y31.Const]) (Rp.sz impl_Affine) rfl rfl rfl rfl (by kernel_rfl) (by kernel_rfl) ?_
                 intro b11 hb11
                 have h65 : RL imm031 [vS p28 y31.Coefs c28, vI y31.Const] ([y31] : List impl_Affine) := ⟨[vS p28 y31.Coefs c28, vI y31.Const], _, rfl, rfl, (impl_Affine_shut ⟨_, rfl, h64⟩), rfl⟩
                 refine R_freeze 0 rfl ?_
                 intro imm032 le30 hl010
                 have h66 := SL.of_frozen hl010 le30 h65
                 replace h64 := h64.mono le30
                 replace h38 := RepL.mono (fun _ _ => Rp.mono le30) h38
                 replace h39 := RepL.mono (fun _ _ => Rp.mono le30) h39
                 replace h20 := h20.mono le30
                 replace h19 := h19.mono le30
                 replace hle := hle.trans le30
                 exact R_out (hx := []) rfl hle rfl (out_some rfl) ⟨_, rfl, rfl, h66⟩
               · intro imm1 hf le1
                 refine Ins_cons ?_
                 rintro _ _ ⟨rfl, rfl⟩
                 refine Ins_cons ?_
                 rintro _ _ ⟨b11, rfl, rfl, h66⟩
                 refine Ins_cons ?_
                 rintro _ _ rfl
                 refine Ins_nil <| R_isw (hO impl_Affine (vS (some ⟨b5, 0, none⟩) ([x1] : List impl_Affine) 1) [vS p7 x1.Coefs c7, vI x1.Const] :: hB b7 [vS (some ⟨b5, 0, none⟩) ([x1] : List impl_Affine) 1, vS (some ⟨b6, 0, none⟩) ([x2] : List impl_Affine) 1] :: hO impl_Affine (vS (some ⟨b6, 0, none⟩) ([x2] : List impl_Affine) 1) [vS p8 x2.Coefs c8, vI x2.Const] :: hB b4 [vS p8 x2.Coefs c8, vI x2.Const] :: hB b2 [vS p7 x1.Coefs c7, vI x1.Const] :: hB b [.slice none 0 0, .slice none 0 0] :: hf) [(57, vS (some ⟨b5, 0, none⟩) ([x1] : List impl_Affine) 1), (62, vS (some ⟨b11, 0, none⟩) ([y31] : List impl_Affine) 1)] ?_
                 have hle := Imm.le.refl imm1
                 replace h38 := RepL.mono (fun _ _ => Rp.mono le1) h38
                 obtain ⟨ccs1, k02, k03⟩ := h66
                 have h66 : SL imm1 (vS (some ⟨b11, 0, none⟩) ([y31] : List impl_Affine) 1) ([y31] : List impl_Affine) := ⟨_, k02, k03⟩
                 refine R_ap 75 2 0 rfl rfl rfl h38 (.inl k02) k03 hy17 ?_
                 intro p29 c29 cs12 h67
                 exact R_hseq (hs' := (hO impl_Affine (vS p29 l1 c29) cs12 :: hB b7 [vS (some ⟨b5, 0, none⟩) ([x1] : List impl_Affine) 1, vS (some ⟨b6, 0, none⟩) ([x2] : List impl_Affine) 1] :: hO impl_Affine (vS (some ⟨b6, 0, none⟩) ([x2] : List impl_Affine) 1) [vS p8 x2.Coefs c8, vI x2.Const] :: hB b4 [vS p8 x2.Coefs c8, vI x2.Const] :: hB b2 [vS p7 x1.Coefs c7, vI x1.Const] :: hB b [.slice none 0 0, .slice none 0 0] :: hf)) rfl <| R_out (hx := [hO impl_Affine (vS p29 l1 c29) cs12]) rfl hle rfl (out_some rfl) ⟨_, _, _, rfl, rfl, h67⟩
             · intro imm033 le31
               refine Ins_cons ?_
               rintro _ _ ⟨p27, c27, rfl, rfl, h62⟩
               refine Ins_cons ?_
               rintro _ _ ⟨p29, c29, cs12, rfl, rfl, h67⟩
               refine Ins_nil <| R_isw [hO impl_Affine (vS p29 l1 c29) cs12, hB r01 [vS p27 y30.b c27, vI y30.p], hB b7 [vS (some ⟨b5, 0, none⟩) ([x1] : List impl_Affine) 1, vS (some ⟨b6, 0, none⟩) ([x2] : List impl_Affine) 1], hO impl_Affine (vS (some ⟨b6, 0, none⟩) ([x2] : List impl_Affine) 1) [vS p8 x2.Coefs c8, vI x2.Const], hB b4 [vS p8 x2.Coefs c8, vI x2.Const], hB b2 [vS p7 x1.Coefs c7, vI x1.Const], hB b [.slice none 0 0, .slice none 0 0]] [(4, vP b 0), (8, vP b7 0), (63, vS p29 l1 c29)] ?_
               replace h38 := RepL.mono (fun _ _ => Rp.mono le31) h38
               replace h39 := RepL.mono (fun _ _ => Rp.mono le31) h39
               replace h20 := h20.mono le31
               replace h19 := h19.mono le31
               replace hle := hle.trans le31
               exact R_d 9 [] [(64, vP b7 0)] <| R_sb 2 [vS p29 l1 c29, vS (some ⟨b6, 0, none⟩) ([x2] : List impl_Affine) 1] [hO impl_Affine (vS p29 l1 c29) cs12, hB r01 [vS p27 y30.b c27, vI y30.p], hB b7 [vS p29 l1 c29, vS (some ⟨b6, 0, none⟩) ([x2] : List impl_Affine) 1], hO impl_Affine (vS (some ⟨b6, 0, none⟩) ([x2] : List impl_Affine) 1) [vS p8 x2.Coefs c8, vI x2.Const], hB b4 [vS p8 x2.Coefs c8, vI x2.Const], hB b2 [vS p7 x1.Coefs c7, vI x1.Const], hB b [.slice none 0 0, .slice none 0 0]] rfl rfl rfl rfl <| R_end rfl <| T_hs (good_pick [1, 2, 3, 0, 6] rfl (by decide)) <| T_w [(4, vP b 0), (8, vP b7 0)] <| T_cut ⟨_, _, _, _, _, _, _, (pure_some hM).symm, hle, h67, h62, rfl, rfl⟩
           · intro hc4 hM
             exact J_skip <| T_hs (good_pick [0, 1, 2, 3, 6] rfl (by decide)) <| T_w [(4, vP b 0), (8, vP b7 0)] <| T_cut ⟨_, _, _, _, _, _, _, (pure_some hM).symm, hle, h38, h42, rfl, rfl⟩
         · rintro imm027 hs2 m2 ⟨Lo1, x7, p25, c25, cs10, p26, c26, heq3, le32, h56, h57, rfl, rfl⟩
           subst o04
           replace h39 := RepL.mono (fun _ _ => Rp.mono le32) h39
           replace hle := hle.trans le32
           exact T_w [(4, vP b 0), (8, vP b7 0)] <| T_cut ⟨_, _, _, _, _, _, _, _, _, _, _, (pure_some hM).symm, hle, h56, h39, h57, rfl, rfl⟩
     · rintro imm020 hs2 m2 ⟨Lo, Hi, x6, p19, c19, cs6, p20, c20, cs7, p21, c21, heq4, le33, h43, h44, h45, rfl, rfl⟩
       subst o03
       replace hle := hle.trans le33
       refine T_block_normal <| T_seq <| J_seq <| J_region <| R_d 1 [1] [(65, vA [vS p19 Lo c19, vS p20 Hi c20])] <| R_sb 4 [vS p19 Lo c19, vS p20 Hi c20] [hB r01 [vS p21 x6.b c21, vI x6.p], hB b7 [vS p19 Lo c19, vS p20 Hi c20], hO impl_Affine (vS p20 Hi c20) cs7, hO impl_Affine (vS p19 Lo c19) cs6, hB b [vS p19 Lo c19, vS p20 Hi c20]] rfl rfl rfl rfl <| R_end rfl <| T_seq <| J_ret <| T_freeze 3 rfl ?_
       intro imm034 le34 hl011
       have h68 := SL.of_frozen hl011 le34 h43
       replace h45 := h45.mono le34
       replace h44 := RepL.mono (fun _ _ => Rp.mono le34) h44
       replace hle := hle.trans le34
       refine T_freeze 2 rfl ?_
       intro imm035 le35 hl012
       have h69 := SL.of_frozen hl012 le35 h44
       replace h45 := h45.mono le35
       replace h68 := h68.mono le35
       replace hle := hle.trans le35
       obtain rfl := pure_some hM
       exact T_RS ⟨_, _, (.cell 2 rfl rfl (by kernel_rfl) ResV.nil), (good_pick [0] rfl (by decide)), ⟨_, _, rfl, rfl, ⟨_, rfl, (impl_Loop_shut ⟨_, _, rfl, h68, h69⟩)⟩, (spec_l16Rd_shut ⟨_, rfl, h45⟩)⟩⟩
def spec_l2Nest_post (b0 : Nat) (r : (List impl_Loop) × spec_l16Rd) : Nat → Imm → List HA → Value → Prop := fun kk imm' hs' v =>
  ∃ (v0 : Value) (k0 : List Value), hs' = [.blk b0 ⟨k0⟩] ∧ v = tupV [v0] ∧ SL imm' v0 r.1 ∧ Rp.rep imm' k0 r.2
def M.spec_l2Nest_l1 (out : List impl_Loop) (i : Int) (x : spec_l16Rd) : Option ((List impl_Loop × spec_l16Rd)) := do
 if (decide (i > 0)) then
  let (y4, y5) ← M.spec_l2Loop x (out.length : Int)
  let out2 ← app 48 out ([y4] : List impl_Loop)
  M.spec_l2Nest_l1 out2 (W (i - 1)) y5
 else
  pure (out, x)
 partial_fixpoint
theorem spec_l2Nest_l1_ok  : ∀ (out : List impl_Loop) (i : Int) (x : spec_l16Rd) (o : (List impl_Loop × spec_l16Rd)), M.spec_l2Nest_l1 out i x = some o → ∀ {B : Base} {imm0 imm : Imm} {Q : Exit → Act → World → Prop}  {r01 : Nat} {p2 : Option Addr} {c2 : Nat} {cs : List Value} {p3 : Option Addr} {c3 : Nat}, imm0.le imm → (RL imm cs out) → (SL imm (vS p3 x.b c3) x.b) → (∀ l a w, ¬ Q (.goto l) a w) → (∀ a w, ¬ Q .outgrown a w) → (∀ (imm' : Imm) (out1 : List impl_Loop) (x1 : spec_l16Rd) (p4 : Option Addr) (c4 : Nat) (cs1 : List Value) (p5 : Option Addr) (c5 : Nat), o = (out1, x1) → imm0.le imm' → (RL imm' cs1 out1) → (SL imm' (vS p5 x1.b c5) x1.b) → T 21 B Q (.exit 0) imm' [hB r01 [vS p5 x1.b c5, vI x1.p], hO impl_Loop (vS p4 out1 c4) cs1] [(3, vS p4 out1 c4)]) → J Try.prog 21 B (nav (bodyOf Try.f63) [1, 1, 0, 1, 0]) Q imm [hB r01 [vS p3 x.b c3, vI x.p], hO impl_Loop (vS p2 out c2) cs] [(0, vP r01 0), (3, vS p2 out c2), (4, vI i)] := by
 refine M.spec_l2Nest_l1.partial_correctness  _ ?_
 intro self ih out i x o hM B imm0 imm Q r01 p2 c2 cs p3 c3 hle h7 h8 hg ho hx
 refine J_loop hg ho <| J_seq <| J_seq <| J_region <| R_z [] [(10, .bool (decide (i > 0)))] <| T_seq <| J_cd hM ?_ ?_
 · intro hc hM
   refine J_skip <| T_seq <| J_seq <| J_block <| J_region <| R_d 4 [] [(13, vS p2 out c2), (14, vP r01 0), (16, vI (out.length : Int))] ?_
   obtain ⟨⟨y4, y5⟩, hy1, hM⟩ := bind_some hM
   refine R_call (hs1 := [hB r01 [vS p3 x.b c3, vI x.p]]) (rest := [hO impl_Loop (vS p2 out c2) cs]) rfl rfl rfl rfl (by kernel_rfl) rfl rfl (spec_l2Loop_ok x (out.length : Int) _ hy1 h8) ?_
   rintro imm02 hs2 v2 k2 le2 - ⟨v02, kk1, rfl, rfl, ⟨cs2, rfl, h11⟩, h12⟩ -
   replace h7 := RepL.mono (fun _ _ => Rp.mono le2) h7
   replace hle := hle.trans le2
   obtain ⟨v03, v04, rfl, h13, h14⟩ := impl_Loop_open h11
   obtain ⟨p6, c6, rfl⟩ := h13.form
   obtain ⟨p7, c7, rfl⟩ := h14.form
   obtain ⟨v05, rfl, h15⟩ := spec_l16Rd_open h12
   obtain ⟨p8, c8, rfl⟩ := h15.form
   refine R_buildSlice (cs := [vS p6 y4.Lo c6, vS p7 y4.Hi c7]) (Rp.sz impl_Loop) rfl rfl rfl rfl (by kernel_rfl) (by kernel_rfl) ?_
   intro b2 hb2
   have h16 : RL imm02 [vS p6 y4.Lo c6, vS p7 y4.Hi c7] ([y4] : List impl_Loop) := ⟨[vS p6 y4.Lo c6, vS p7 y4.Hi c7], _, rfl, rfl, (impl_Loop_shut ⟨_, _, rfl, h13, h14⟩), rfl⟩
   obtain ⟨out2, hy2, hM⟩ := bind_some hM
   refine R_ap 101 2 2 rfl rfl rfl h7 (.inr ⟨0, rfl⟩) h16 hy2 ?_
   intro p9 c9 cs3 h17
   exact R_hs (good_pick [1, 2] (hs' := [hB r01 [vS p8 y5.b c8, vI y5.p], hO impl_Loop (vS p9 out2 c9) cs3]) rfl (by decide)) <| R_z [] [(3, vS p9 out2 c9)] <| T_block_normal <| T_seq <| J_region <| R_z [] [(4, vI (W (i - 1)))] <| T_loop <| J_w [(0, vP r01 0), (3, vS p9 out2 c9), (4, vI (W (i - 1)))] <| ih out2 (W (i - 1)) y5 _ hM hle h17 h15 hg ho hx
 · intro hc hM
   exact J_exit <| T_then_exit <| T_then_exit <| T_w [(3, vS p2 out c2)] <| hx _ _ _ _ _ _ _ _ (pure_some hM).symm hle h7 h8
def M.spec_l2Nest (r0 : spec_l16Rd) : Option ((List impl_Loop) × spec_l16Rd) := do
 let (y1, y2) ← M.spec_l16Rd_num r0 ([2, 1, 2, 3] : List Int)
 let (out1, x1) ← M.spec_l2Nest_l1 ([] : List impl_Loop) y1 y2
 pure (out1, x1)
theorem spec_l2Nest_ok : ∀ (r0 : spec_l16Rd) r, M.spec_l2Nest r0 = some r → ∀ {imm : Imm} {r01 : Nat} {p : Option Addr} {c : Nat}, (SL imm (vS p r0.b c) r0.b) → Ret Try.prog 63 [vP r01 0] imm [hB r01 [vS p r0.b c, vI r0.p]] (spec_l2Nest_post r01 r) := by
 intro r0 r hM imm r01 p c h
 unfold M.spec_l2Nest at hM
 refine ret_of_J (fn := Try.f63) (c := (bodyOf Try.f63)) Try.func63 rfl rfl ?_
 rintro B - -
 have hle : imm.le imm := Imm.le.refl _
 refine J_seq <| J_region <| R_z [] [] <| T_seq <| J_seq <| J_region <| R_buildSlice (cs := []) (Rp.sz impl_Loop) rfl rfl rfl rfl (by kernel_rfl) (by kernel_rfl) ?_
 intro b hb
 have h1 : RL imm [] ([] : List impl_Loop) := rfl
 refine R_z [] [(3, vS (some ⟨b, 0, none⟩) ([] : List impl_Loop) 0)] <| T_seq <| J_seq <| J_seq <| J_region <| R_d 1 [] [(6, vP r01 0)] <| R_buildSlice (cs := [vI 2, vI 1, vI 2, vI 3]) (Rp.sz Int) rfl rfl rfl rfl (by kernel_rfl) (by kernel_rfl) ?_
 intro b1 hb1
 have h2 : RL imm [vI 2, vI 1, vI 2, vI 3] ([2, 1, 2, 3] : List Int) := ⟨[vI 2], _, rfl, rfl, rfl, ⟨[vI 1], _, rfl, rfl, rfl, ⟨[vI 2], _, rfl, rfl, rfl, ⟨[vI 3], _, rfl, rfl, rfl, rfl⟩⟩⟩⟩
 refine R_freeze 0 rfl ?_
 intro imm0 le hl0
 have h3 := SL.of_frozen hl0 le h2
 replace h1 := RepL.mono (fun _ _ => Rp.mono le) h1
 replace h := h.mono le
 replace hle := hle.trans le
 refine R_hs (good_pick [1, 0] (hs' := [hB r01 [vS p r0.b c, vI r0.p], hO impl_Loop (vS (some ⟨b, 0, none⟩) ([] : List impl_Loop) 0) []]) rfl (by decide)) ?_
 obtain ⟨⟨y1, y2⟩, hy, hM⟩ := bind_some hM
 refine R_call (hs1 := [hB r01 [vS p r0.b c, vI r0.p]]) (rest := [hO impl_Loop (vS (some ⟨b, 0, none⟩) ([] : List impl_Loop) 0) []]) rfl rfl rfl rfl (by kernel_rfl) rfl rfl (spec_l16Rd_num_ok r0 ([2, 1, 2, 3] : List Int) _ hy h h3) ?_
 rintro imm01 hs2 v2 k2 le1 - ⟨v0, kk, rfl, rfl, rfl, h5⟩ -
 replace h1 := RepL.mono (fun _ _ => Rp.mono le1) h1
 replace hle := hle.trans le1
 obtain ⟨v01, rfl, h6⟩ := spec_l16Rd_open h5
 obtain ⟨p1, c1, rfl⟩ := h6.form
 refine R_z [] [(4, vI y1)] <| T_seq <| J_block <| J_w [(0, vP r01 0), (3, vS (some ⟨b, 0, none⟩) ([] : List impl_Loop) 0), (4, vI y1)] ?_
 obtain ⟨o0, ho0, hM⟩ := bind_some hM
 refine spec_l2Nest_l1_ok ([] : List impl_Loop) y1 y2 o0 ho0 (Imm.le.refl _) h1 h6 (fun _ _ _ h => h) (fun _ _ h => h) ?_
 intro imm03 out1 x1 p4 c4 cs1 p5 c5 heq le3 h9 h10
 subst o0
 replace hle := hle.trans le3
 refine T_block_here <| T_seq <| J_seq <| J_region <| R_z [] [(2, vS p4 out1 c4)] <| T_seq <| J_ret <| T_freeze 1 rfl ?_
 intro imm04 le4 hl01
 have h18 := SL.of_frozen hl01 le4 h9
 replace h10 := h10.mono le4
 replace hle := hle.trans le4
 obtain rfl := pure_some hM
 exact T_RS ⟨_, _, (.tmp rfl ResV.nil), (good_pick [0] rfl (by decide)), ⟨_, _, rfl, rfl, h18, (spec_l16Rd_shut ⟨_, rfl, h10⟩)⟩⟩
def spec_l3Elem_post (b0 : Nat) (r : impl_Access × spec_l16Rd) : Nat → Imm → List HA → Value → Prop := fun kk imm' hs' v =>
  ∃ (v0 : Value) (k0 : List Value), hs' = [.blk b0 ⟨k0⟩] ∧ v = tupV [v0] ∧ (∃ cs, v0 = .agg ⟨cs⟩ ∧ Rp.rep imm' cs r.1) ∧ Rp.rep imm' k0 r.2
def M.spec_l3Elem_l1 (depth : Int) (n0 : Int) (i : Int) (Subs : List impl_Affine) (x : spec_l16Rd) : Option ((List impl_Affine × spec_l16Rd)) := do
 if (decide (i < n0)) then
  let (y4, y5) ← M.spec_l16Rd_num x ([0, 1, 0, 2] : List Int)
  let y6 ← M.spec_l1Const y4
  let (t32, x2) ← (do
    if (decide (depth > 0)) then
     let (y8, y9) ← M.spec_l16Rd_pick y5 5
     pure ((decide (y8 > 0)), y9)
    else
     pure (false, y5)
      : Option (Bool × spec_l16Rd))
  let (x3, x4) ← (do
    if t32 then
     let (y11, y12) ← M.spec_l16Rd_pick x2 depth
     let y13 ← M.spec_l1Var y11
     let (y15, y16) ← M.spec_l16Rd_num y12 ([1, 1, 1, 2, (-1)] : List Int)
     let (y18, y19) ← M.spec_l16Rd_num y16 ([0, 1, 0, 0, 2] : List Int)
     let y20 ← M.spec_l1Const y18
     let y21 ← M.spec_l1Combine y13 y15 y20 1
     pure (y21, y19)
    else
     pure ((impl_Affine.mk y6.Coefs y6.Const), x2)
      : Option (impl_Affine × spec_l16Rd))
  let l ← app 32 Subs ([x3] : List impl_Affine)
  M.spec_l3Elem_l1 depth n0 (W (i + 1)) l x4
 else
  pure (Subs, x)
 partial_fixpoint
theorem spec_l3Elem_l1_ok (depth : Int) (n0 : Int) : ∀ (i : Int) (Subs : List impl_Affine) (x : spec_l16Rd) (o : (List impl_Affine × spec_l16Rd)), M.spec_l3Elem_l1 depth n0 i Subs x = some o → ∀ {B : Base} {imm0 imm : Imm} {Q : Exit → Act → World → Prop} {y1 : Str} {r01 : Nat} {b : Nat} {b2 : Nat} {p2 : Option Addr} {c2 : Nat} {cs : List Value} {p3 : Option Addr} {c3 : Nat}, imm0.le imm → (RL imm cs Subs) → (SL imm (vS p3 x.b c3) x.b) → (∀ l a w, ¬ Q (.goto l) a w) → (∀ a w, ¬ Q .outgrown a w) → (∀ (imm' : Imm) (Subs1 : List impl_Affine) (x1 : spec_l16Rd) (p4 : Option Addr) (c4 : Nat) (cs1 : List Value) (p5 : Option Addr) (c5 : Nat), o = (Subs1, x1) → imm0.le imm' → (RL imm' cs1 Subs1) → (SL imm' (vS p5 x1.b c5) x1.b) → T 53 B Q (.exit 0) imm' [hO impl_Affine (vS p4 Subs1 c4) cs1, hB b2 [vT y1.l, vS p4 Subs1 c4], hB r01 [vS p5 x1.b c5, vI x1.p], hB b [vT ([]), .slice none 0 0]] [(4, vP b 0), (5, vP b2 0)]) → J Try.prog 53 B (nav (bodyOf Try.f84) [1, 1, 1, 1, 0, 1, 0]) Q imm [hO impl_Affine (vS p2 Subs c2) cs, hB b2 [vT y1.l, vS p2 Subs c2], hB r01 [vS p3 x.b c3, vI x.p], hB b [vT ([]), .slice none 0 0]] [(0, vP r01 0), (1, vI depth), (4, vP b 0), (5, vP b2 0), (6, vI n0), (7, vI i)] := by
 refine M.spec_l3Elem_l1.partial_correctness depth n0 _ ?_
 intro self ih i Subs x o hM B imm0 imm Q y1 r01 b b2 p2 c2 cs p3 c3 hle h7 h8 hg ho hx
 refine J_loop hg ho <| J_seq <| J_seq <| J_region <| R_z [] [(19, .bool (decide (i < n0)))] <| T_seq <| J_cd hM ?_ ?_
 · intro hc1 hM
   refine J_skip <| T_seq <| J_seq <| J_block <| J_seq <| J_region <| R_d 1 [] [(22, vP r01 0)] <| R_buildSlice (cs := [vI 0, vI 1, vI 0, vI 2]) (Rp.sz Int) rfl rfl rfl rfl (by kernel_rfl) (by kernel_rfl) ?_
   intro b3 hb3
   have h11 : RL imm [vI 0, vI 1, vI 0, vI 2] ([0, 1, 0, 2] : List Int) := ⟨[vI 0], _, rfl, rfl, rfl, ⟨[vI 1], _, rfl, rfl, rfl, ⟨[vI 0], _, rfl, rfl, rfl, ⟨[vI 2], _, rfl, rfl, rfl, rfl⟩⟩⟩⟩
   refine R_freeze 0 rfl ?_
   intro imm03 le3 hl01
   have h12 := SL.of_frozen hl01 le3 h11
   replace h7 := RepL.mono (fun _ _ => Rp.mono le3) h7
   replace h8 := h8.mono le3
   replace hle := hle.trans le3
   refine R_hs (good_pick [2, 0, 1, 3] (hs' := [hB r01 [vS p3 x.b c3, vI x.p], hO impl_Affine (vS p2 Subs c2) cs, hB b2 [vT y1.l, vS p2 Subs c2], hB b [vT ([]), .slice none 0 0]]) rfl (by decide)) ?_
   obtain ⟨⟨y4, y5⟩, hy1, hM⟩ := bind_some hM
   refine R_call (hs1 := [hB r01 [vS p3 x.b c3, vI x.p]]) (rest := [hO impl_Affine (vS p2 Subs c2) cs, hB b2 [vT y1.l, vS p2 Subs c2], hB b [vT ([]), .slice none 0 0]]) rfl rfl rfl rfl (by kernel_rfl) rfl rfl (spec_l16Rd_num_ok x ([0, 1, 0, 2] : List Int) _ hy1 h8 h12) ?_
   rintro imm04 hs2 v2 k2 le4 - ⟨v02, kk1, rfl, rfl, rfl, h14⟩ -
   replace h7 := RepL.mono (fun _ _ => Rp.mono le4) h7
   replace hle := hle.trans le4
   obtain ⟨v03, rfl, h15⟩ := spec_l16Rd_open h14
   obtain ⟨p6, c6, rfl⟩ := h15.form
   obtain ⟨y6, hy2, hM⟩ := bind_some hM
   refine R_call (hs1 := []) (rest := [hB r01 [vS p6 y5.b c6, vI y5.p], hO impl_Affine (vS p2 Subs c2) cs, hB b2 [vT y1.l, vS p2 Subs c2], hB b [vT ([]), .slice none 0 0]]) rfl rfl rfl rfl (by kernel_rfl) rfl rfl (spec_l1Const_ok y4 _ hy2 ) ?_
   rintro imm05 hs2 v2 k2 le5 - ⟨p7, c7, cs2, rfl, rfl, h16⟩ -
   replace h15 := h15.mono le5
   replace h7 := RepL.mono (fun _ _ => Rp.mono le5) h7
   replace hle := hle.trans le5
   refine R_alloc (c := ⟨[.slice none 0 0, vI 0]⟩) rfl rfl rfl (by kernel_rfl) ?_
   intro b4 hb4
   refine R_sb 0 [vS p7 y6.Coefs c7, vI y6.Const] [hB b4 [vS p7 y6.Coefs c7, vI y6.Const], hO Int (vS p7 y6.Coefs c7) cs2, hB r01 [vS p6 y5.b c6, vI y5.p], hO impl_Affine (vS p2 Subs c2) cs, hB b2 [vT y1.l, vS p2 Subs c2], hB b [vT ([]), .slice none 0 0]] rfl rfl rfl rfl <| R_end rfl <| T_seq <| J_seq <| J_seq ?_
   obtain ⟨o01, ho01, hM⟩ := bind_some hM
   refine J_cut (fun imm' hs' m' => ∃ (t32 : Bool) (x2 : spec_l16Rd) (p8 : Option Addr) (c8 : Nat), o01 = (t32, x2) ∧ imm05.le imm' ∧ (SL imm' (vS p8 x2.b c8) x2.b) ∧ hs' = [hB b4 [vS p7 y6.Coefs c7, vI y6.Const], hO Int (vS p7 y6.Coefs c7) cs2, hB r01 [vS p8 x2.b c8, vI x2.p], hO impl_Affine (vS p2 Subs c2) cs, hB b2 [vT y1.l, vS p2 Subs c2], hB b [vT ([]), .slice none 0 0]] ∧ m' = [(0, vP r01 0), (1, vI depth), (4, vP b 0), (5, vP b2 0), (6, vI n0), (7, vI i), (8, vP b4 0), (32, .bool t32)]) ?_ ?_
   · have hle0 := hle
     have hle : imm05.le imm05 := Imm.le.refl _
     refine J_region <| R_d 3 [] [(28, .bool (decide (depth > 0)))] ?_
     cases hc2 : (decide (depth > 0)) with
     | true =>
      have hM0 := if_some_true hc2 ho01
      try rw [hc2]
      refine R_d 4 [] [(29, vP r01 0)] <| R_hs (good_pick [2, 0, 1, 3, 4, 5] (hs' := [hB r01 [vS p6 y5.b c6, vI y5.p], hB b4 [vS p7 y6.Coefs c7, vI y6.Const], hO Int (vS p7 y6.Coefs c7) cs2, hO impl_Affine (vS p2 Subs c2) cs, hB b2 [vT y1.l, vS p2 Subs c2], hB b [vT ([]), .slice none 0 0]]) rfl (by decide)) ?_
      obtain ⟨⟨y8, y9⟩, hy3, hM⟩ := bind_some hM0
      refine R_call (hs1 := [hB r01 [vS p6 y5.b c6, vI y5.p]]) (rest := [hB b4 [vS p7 y6.Coefs c7, vI y6.Const], hO Int (vS p7 y6.Coefs c7) cs2, hO impl_Affine (vS p2 Subs c2) cs, hB b2 [vT y1.l, vS p2 Subs c2], hB b [vT ([]), .slice none 0 0]]) rfl rfl rfl rfl (by kernel_rfl) rfl rfl (spec_l16Rd_pick_ok y5 5 _ hy3 h15) ?_
      rintro imm07 hs2 v2 k2 le6 - ⟨v04, kk2, rfl, rfl, rfl, h19⟩ -
      replace h16 := RepL.mono (fun _ _ => Rp.mono le6) h16
      replace h7 := RepL.mono (fun _ _ => Rp.mono le6) h7
      replace hle := hle.trans le6
      obtain ⟨v05, rfl, h20⟩ := spec_l16Rd_open h19
      obtain ⟨p9, c9, rfl⟩ := h20.form
      exact R_z [] [(32, .bool (decide (y8 > 0)))] <| T_hs (good_pick [1, 2, 0, 3, 4, 5] rfl (by decide)) <| T_w [(0, vP r01 0), (1, vI depth), (4, vP b 0), (5, vP b2 0), (6, vI n0), (7, vI i), (8, vP b4 0), (32, .bool (decide (y8 > 0)))] <| T_cut ⟨_, _, _, _, (pure_some hM).symm, hle, h20, rfl, rfl⟩
     | false =>
      have hM01 := if_some_false hc2 ho01
      try rw [hc2]
      exact R_z [] [(32, .bool false)] <| T_w [(0, vP r01 0), (1, vI depth), (4, vP b 0), (5, vP b2 0), (6, vI n0), (7, vI i), (8, vP b4 0), (32, .bool false)] <| T_cut ⟨_, _, _, _, (pure_some hM01).symm, hle, h15, rfl, rfl⟩
   · rintro imm06 hs2 m2 ⟨t32, x2, p8, c8, heq1, le7, h17, rfl, rfl⟩
     subst o01
     replace h16 := RepL.mono (fun _ _ => Rp.mono le7) h16
     replace h7 := RepL.mono (fun _ _ => Rp.mono le7) h7
     replace hle := hle.trans le7
     refine T_seq <| J_freeze 1 rfl ?_
     intro imm08 le8 hl02
     have h21 := SL.of_frozen hl02 le8 h16
     replace h17 := h17.mono le8
     replace h7 := RepL.mono (fun _ _ => Rp.mono le8) h7
     replace hle := hle.trans le8
     obtain ⟨o02, ho02, hM⟩ := bind_some hM
     refine J_cut (fun imm' hs' m' => ∃ (x3 : impl_Affine) (x4 : spec_l16Rd) (p10 : Option Addr) (c10 : Nat) (p11 : Option Addr) (c11 : Nat), o02 = (x3, x4) ∧ imm08.le imm' ∧ (SL imm' (vS p10 x3.Coefs c10) x3.Coefs) ∧ (SL imm' (vS p11 x4.b c11) x4.b) ∧ hs' = [hB b4 [vS p10 x3.Coefs c10, vI x3.Const], hB r01 [vS p11 x4.b c11, vI x4.p], hO impl_Affine (vS p2 Subs c2) cs, hB b2 [vT y1.l, vS p2 Subs c2], hB b [vT ([]), .slice none 0 0]] ∧ m' = [(0, vP r01 0), (1, vI depth), (4, vP b 0), (5, vP b2 0), (6, vI n0), (7, vI i), (8, vP b4 0)]) ?_ ?_
     · have hle0 := hle
       have hle : imm08.le imm08 := Imm.le.refl _
       refine J_cd ho02 ?_ ?_
       · intro hc3 hM
         refine J_seq <| J_region <| R_d 2 [] [(33, vP r01 0), (34, vI depth)] <| R_hs (good_pick [1, 0, 2, 3, 4] (hs' := [hB r01 [vS p8 x2.b c8, vI x2.p], hB b4 [vS p7 y6.Coefs c7, vI y6.Const], hO impl_Affine (vS p2 Subs c2) cs, hB b2 [vT y1.l, vS p2 Subs c2], hB b [vT ([]), .slice none 0 0]]) rfl (by decide)) ?_
         obtain ⟨⟨y11, y12⟩, hy4, hM⟩ := bind_some hM
         refine R_call (hs1 := [hB r01 [vS p8 x2.b c8, vI x2.p]]) (rest := [hB b4 [vS p7 y6.Coefs c7, vI y6.Const], hO impl_Affine (vS p2 Subs c2) cs, hB b2 [vT y1.l, vS p2 Subs c2], hB b [vT ([]), .slice none 0 0]]) rfl rfl rfl rfl (by kernel_rfl) rfl rfl (spec_l16Rd_pick_ok x2 depth _ hy4 h17) ?_
         rintro imm010 hs2 v2 k2 le9 - ⟨v06, kk3, rfl, rfl, rfl, h25⟩ -
         replace h21 := h21.mono le9
         replace h7 := RepL.mono (fun _ _ => Rp.mono le9) h7
         replace hle := hle.trans le9
         obtain ⟨v07, rfl, h26⟩ := spec_l16Rd_open h25
         obtain ⟨p12, c12, rfl⟩ := h26.form
         refine R_z [] [(9, vI y11)] <| T_seq <| J_region <| R_d 1 [] [(36, vI y11)] ?_
         obtain ⟨y13, hy5, hM⟩ := bind_some hM
         refine R_call (hs1 := []) (rest := [hB r01 [vS p12 y12.b c12, vI y12.p], hB b4 [vS p7 y6.Coefs c7, vI y6.Const], hO impl_Affine (vS p2 Subs c2) cs, hB b2 [vT y1.l, vS p2 Subs c2], hB b [vT ([]), .slice none 0 0]]) rfl rfl rfl rfl (by kernel_rfl) rfl rfl (spec_l1Var_ok y11 _ hy5 ) ?_
         rintro imm011 hs2 v2 k2 le10 - ⟨v08, rfl, rfl, ⟨cs3, rfl, h27⟩⟩ -
         replace h26 := h26.mono le10
         replace h21 := h21.mono le10
         replace h7 := RepL.mono (fun _ _ => Rp.mono le10) h7
         replace hle := hle.trans le10
         obtain ⟨v09, rfl, h28⟩ := impl_Affine_open h27
         obtain ⟨p13, c13, rfl⟩ := h28.form
         refine R_d 3 [] [(38, vP r01 0)] <| R_buildSlice (cs := [vI 1, vI 1, vI 1, vI 2, vI (-1)]) (Rp.sz Int) rfl rfl rfl rfl (by kernel_rfl) (by kernel_rfl) ?_
         intro b5 hb5
         have h29 : RL imm011 [vI 1, vI 1, vI 1, vI 2, vI (-1)] ([1, 1, 1, 2, (-1)] : List Int) := ⟨[vI 1], _, rfl, rfl, rfl, ⟨[vI 1], _, rfl, rfl, rfl, ⟨[vI 1], _, rfl, rfl, rfl, ⟨[vI 2], _, rfl, rfl, rfl, ⟨[vI (-1)], _, rfl, rfl, rfl, rfl⟩⟩⟩⟩⟩
         refine R_freeze 0 rfl ?_
         intro imm012 le11 hl03
         have h30 := SL.of_frozen hl03 le11 h29
         replace h28 := h28.mono le11
         replace h26 := h26.mono le11
         replace h21 := h21.mono le11
         replace h7 := RepL.mono (fun _ _ => Rp.mono le11) h7
         replace hle := hle.trans le11
         obtain ⟨⟨y15, y16⟩, hy6, hM⟩ := bind_some hM
         refine R_call (hs1 := [hB r01 [vS p12 y12.b c12, vI y12.p]]) (rest := [hB b4 [vS p7 y6.Coefs c7, vI y6.Const], hO impl_Affine (vS p2 Subs c2) cs, hB b2 [vT y1.l, vS p2 Subs c2], hB b [vT ([]), .slice none 0 0]]) rfl rfl rfl rfl (by kernel_rfl) rfl rfl (spec_l16Rd_num_ok y12 ([1, 1, 1, 2, (-1)] : List Int) _ hy6 h26 h30) ?_
         rintro imm013 hs2 v2 k2 le12 - ⟨v010, kk4, rfl, rfl, rfl, h32⟩ -
         replace h28 := h28.mono le12
         replace h21 := h21.mono le12
         replace h7 := RepL.mono (fun _ _ => Rp.mono le12) h7
         replace hle := hle.trans le12
         obtain ⟨v011, rfl, h33⟩ := spec_l16Rd_open h32
         obtain ⟨p14, c14, rfl⟩ := h33.form
         refine R_d 6 [] [(41, vP r01 0)] <| R_buildSlice (cs := [vI 0, vI 1, vI 0, vI 0, vI 2]) (Rp.sz Int) rfl rfl rfl rfl (by kernel_rfl) (by kernel_rfl) ?_
         intro b6 hb6
         have h34 : RL imm013 [vI 0, vI 1, vI 0, vI 0, vI 2] ([0, 1, 0, 0, 2] : List Int) := ⟨[vI 0], _, rfl, rfl, rfl, ⟨[vI 1], _, rfl, rfl, rfl, ⟨[vI 0], _, rfl, rfl, rfl, ⟨[vI 0], _, rfl, rfl, rfl, ⟨[vI 2], _, rfl, rfl, rfl, rfl⟩⟩⟩⟩⟩
         refine R_freeze 0 rfl ?_
         intro imm014 le13 hl04
         have h35 := SL.of_frozen hl04 le13 h34
         replace h28 := h28.mono le13
         replace h33 := h33.mono le13
         replace h21 := h21.mono le13
         replace h7 := RepL.mono (fun _ _ => Rp.mono le13) h7
         replace hle := hle.trans le13
         obtain ⟨⟨y18, y19⟩, hy7, hM⟩ := bind_some hM
         refine R_call (hs1 := [hB r01 [vS p14 y16.b c14, vI y16.p]]) (rest := [hB b4 [vS p7 y6.Coefs c7, vI y6.Const], hO impl_Affine (vS p2 Subs c2) cs, hB b2 [vT y1.l, vS p2 Subs c2], hB b [vT ([]), .slice none 0 0]]) rfl rfl rfl rfl (by kernel_rfl) rfl rfl (spec_l16Rd_num_ok y16 ([0, 1, 0, 0, 2] : List Int) _ hy7 h33 h35) ?_
         rintro imm015 hs2 v2 k2 le14 - ⟨v012, kk5, rfl, rfl, rfl, h37⟩ -
         replace h28 := h28.mono le14
         replace h21 := h21.mono le14
         replace h7 := RepL.mono (fun _ _ => Rp.mono le14) h7
         replace hle := hle.trans le14
         obtain ⟨v013, rfl, h38⟩ := spec_l16Rd_open h37
         obtain ⟨p15, c15, rfl⟩ := h38.form
         obtain ⟨y20, hy8, hM⟩ := bind_some hM
         refine R_call (hs1 := []) (rest := [hB r01 [vS p15 y19.b c15, vI y19.p], hB b4 [vS p7 y6.Coefs c7, vI y6.Const], hO impl_Affine (vS p2 Subs c2) cs, hB b2 [vT y1.l, vS p2 Subs c2], hB b [vT ([]), .slice none 0 0]]) rfl rfl rfl rfl (by kernel_rfl) rfl rfl (spec_l1Const_ok y18 _ hy8 ) ?_
         rintro imm016 hs2 v2 k2 le15 - ⟨p16, c16, cs4, rfl, rfl, h39⟩ -
         replace h28 := h28.mono le15
         replace h38 := h38.mono le15
         replace h21 := h21.mono le15
         replace h7 := RepL.mono (fun _ _ => Rp.mono le15) h7
         replace hle := hle.trans le15
         refine R_freeze 0 rfl ?_
         intro imm017 le16 hl05
         have h40 := SL.of_frozen hl05 le16 h39
         replace h28 := h28.mono le16
         replace h38 := h38.mono le16
         replace h21 := h21.mono le16
         replace h7 := RepL.mono (fun _ _ => Rp.mono le16) h7
         replace hle := hle.trans le16
         obtain ⟨y21, hy9, hM⟩ := bind_some hM
         refine R_call (hs1 := []) (rest := [hB r01 [vS p15 y19.b c15, vI y19.p], hB b4 [vS p7 y6.Coefs c7, vI y6.Const], hO impl_Affine (vS p2 Subs c2) cs, hB b2 [vT y1.l, vS p2 Subs c2], hB b [vT ([]), .slice none 0 0]]) rfl rfl rfl rfl (by kernel_rfl) rfl rfl (spec_l1Combine_ok y13 y15 y20 1 _ hy9 h28 h40) ?_
         rintro imm018 hs2 v2 k2 le17 - ⟨v014, rfl, rfl, ⟨cs5, rfl, h41⟩⟩ -
         replace h38 := h38.mono le17
         replace h21 := h21.mono le17
         replace h7 := RepL.mono (fun _ _ => Rp.mono le17) h7
         replace hle := hle.trans le17
         obtain ⟨v015, rfl, h42⟩ := impl_Affine_open h41
         obtain ⟨p17, c17, rfl⟩ := h42.form
         exact R_sb 1 [vS p17 y21.Coefs c17, vI y21.Const] [hB r01 [vS p15 y19.b c15, vI y19.p], hB b4 [vS p17 y21.Coefs c17, vI y21.Const], hO impl_Affine (vS p2 Subs c2) cs, hB b2 [vT y1.l, vS p2 Subs c2], hB b [vT ([]), .slice none 0 0]] rfl rfl rfl rfl <| R_end rfl <| T_hs (good_pick [1, 0, 2, 3, 4] rfl (by decide)) <| T_w [(0, vP r01 0), (1, vI depth), (4, vP b 0), (5, vP b2 0), (6, vI n0), (7, vI i), (8, vP b4 0)] <| T_cut ⟨_, _, _, _, _, _, (pure_some hM).symm, hle, h42, h38, rfl, rfl⟩
       · intro hc3 hM
         exact J_skip <| T_w [(0, vP r01 0), (1, vI depth), (4, vP b 0), (5, vP b2 0), (6, vI n0), (7, vI i), (8, vP b4 0)] <| T_cut ⟨_, _, _, _, _, _, (pure_some hM).symm, hle, h21, h17, rfl, rfl⟩
     · rintro imm09 hs2 m2 ⟨x3, x4, p10, c10, p11, c11, heq2, le18, h22, h23, rfl, rfl⟩
       subst o02
       replace h7 := RepL.mono (fun _ _ => Rp.mono le18) h7
       replace hle := hle.trans le18
       refine T_seq <| J_region <| R_d 3 [3, 0] [(47, vS p2 Subs c2), (48, vA [vS p10 x3.Coefs c10, vI x3.Const])] <| R_buildSlice (cs := [vS p10 x3.Coefs c10, vI x3.Const]) (Rp.sz impl_Affine) rfl rfl rfl rfl (by kernel_rfl) (by kernel_rfl) ?_
       intro b7 hb7
       have h43 : RL imm09 [vS p10 x3.Coefs c10, vI x3.Const] ([x3] : List impl_Affine) := ⟨[vS p10 x3.Coefs c10, vI x3.Const], _, rfl, rfl, (impl_Affine_shut ⟨_, rfl, h22⟩), rfl⟩
       obtain ⟨l, hy10, hM⟩ := bind_some hM
       refine R_ap 75 2 3 rfl rfl rfl h7 (.inr ⟨0, rfl⟩) h43 hy10 ?_
       intro p18 c18 cs6 h44
       exact R_hs (good_pick [1, 2, 3, 4, 5] (hs' := [hB b4 [vS p10 x3.Coefs c10, vI x3.Const], hB r01 [vS p11 x4.b c11, vI x4.p], hO impl_Affine (vS p18 l c18) cs6, hB b2 [vT y1.l, vS p2 Subs c2], hB b [vT ([]), .slice none 0 0]]) rfl (by decide)) <| R_d 6 [] [(51, vP b2 1)] <| R_sb 3 [vT y1.l, vS p18 l c18] [hB b4 [vS p10 x3.Coefs c10, vI x3.Const], hB r01 [vS p11 x4.b c11, vI x4.p], hO impl_Affine (vS p18 l c18) cs6, hB b2 [vT y1.l, vS p18 l c18], hB b [vT ([]), .slice none 0 0]] rfl rfl rfl rfl <| R_end rfl <| T_block_normal <| T_seq <| J_region <| R_z [] [(7, vI (W (i + 1)))] <| T_loop <| J_hs (good_pick [2, 3, 1, 4] rfl (by decide)) <| J_w [(0, vP r01 0), (1, vI depth), (4, vP b 0), (5, vP b2 0), (6, vI n0), (7, vI (W (i + 1)))] <| ih (W (i + 1)) l x4 _ hM hle h44 h23 hg ho hx
 · intro hc1 hM
   exact J_exit <| T_then_exit <| T_then_exit <| T_w [(4, vP b 0), (5, vP b2 0)] <| hx _ _ _ _ _ _ _ _ (pure_some hM).symm hle h7 h8
def M.spec_l3Elem (r0 : spec_l16Rd) (depth : Int) : Option (impl_Access × spec_l16Rd) := do
 let (y1, y2) ← M.spec_l16Rd_of r0 ([(⟨[65]⟩ : Str), (⟨[66]⟩ : Str), (⟨[65]⟩ : Str), (⟨[67]⟩ : Str)] : List Str)
 let n0 ← (do
   if (y1.l == ([66] : List UInt8)) then
    pure (id 2)
   else
    pure (id 1)
     : Option Int)
 let (Subs1, x1) ← M.spec_l3Elem_l1 depth n0 0 ([] : List impl_Affine) y2
 pure ((impl_Access.mk y1 Subs1), x1)
theorem spec_l3Elem_ok : ∀ (r0 : spec_l16Rd) (depth : Int) r, M.spec_l3Elem r0 depth = some r → ∀ {imm : Imm} {r01 : Nat} {p : Option Addr} {c : Nat}, (SL imm (vS p r0.b c) r0.b) → Ret Try.prog 84 [vP r01 0, vI depth] imm [hB r01 [vS p r0.b c, vI r0.p]] (spec_l3Elem_post r01 r) := by
 intro r0 depth r hM imm r01 p c h
 unfold M.spec_l3Elem at hM
 refine ret_of_J (fn := Try.f84) (c := (bodyOf Try.f84)) Try.func84 rfl rfl ?_
 rintro B - -
 have hle : imm.le imm := Imm.le.refl _
 refine J_seq <| J_region <| R_alloc (c := ⟨[vT ([]), .slice none 0 0]⟩) rfl rfl rfl (by kernel_rfl) ?_
 intro b hb
 refine R_end rfl <| T_seq <| J_seq <| J_region <| R_d 1 [] [(10, vP r01 0)] <| R_buildSlice (cs := [vT ([65]), vT ([66]), vT ([65]), vT ([67])]) (Rp.sz Str) rfl rfl rfl rfl (by kernel_rfl) (by kernel_rfl) ?_
 intro b1 hb1
 have h1 : RL imm [vT ([65]), vT ([66]), vT ([65]), vT ([67])] ([(⟨[65]⟩ : Str), (⟨[66]⟩ : Str), (⟨[65]⟩ : Str), (⟨[67]⟩ : Str)] : List Str) := ⟨[vT ([65])], _, rfl, rfl, rfl, ⟨[vT ([66])], _, rfl, rfl, rfl, ⟨[vT ([65])], _, rfl, rfl, rfl, ⟨[vT ([67])], _, rfl, rfl, rfl, rfl⟩⟩⟩⟩
 refine R_freeze 0 rfl ?_
 intro imm0 le hl0
 have h2 := SL.of_frozen hl0 le h1
 replace h := h.mono le
 replace hle := hle.trans le
 refine R_hs (good_pick [1, 0] (hs' := [hB r01 [vS p r0.b c, vI r0.p], hB b [vT ([]), .slice none 0 0]]) rfl (by decide)) ?_
 obtain ⟨⟨y1, y2⟩, hy, hM⟩ := bind_some hM
 refine R_call (hs1 := [hB r01 [vS p r0.b c, vI r0.p]]) (rest := [hB b [vT ([]), .slice none 0 0]]) rfl rfl rfl rfl (by kernel_rfl) rfl rfl (spec_l16Rd_of_ok r0 ([(⟨[65]⟩ : Str), (⟨[66]⟩ : Str), (⟨[65]⟩ : Str), (⟨[67]⟩ : Str)] : List Str) _ hy h h2) ?_
 rintro imm01 hs2 v2 k2 le1 - ⟨v0, kk, rfl, rfl, rfl, h4⟩ -
 replace hle := hle.trans le1
 obtain ⟨v01, rfl, h5⟩ := spec_l16Rd_open h4
 obtain ⟨p1, c1, rfl⟩ := h5.form
 refine R_d 4 [] [(13, vA [vT y1.l, .slice none 0 0])] <| R_alloc (c := ⟨[vT ([]), .slice none 0 0]⟩) rfl rfl rfl (by kernel_rfl) ?_
 intro b2 hb2
 refine R_sb 0 [vT y1.l, .slice none 0 0] [hB b2 [vT y1.l, .slice none 0 0], hB r01 [vS p1 y2.b c1, vI y2.p], hB b [vT ([]), .slice none 0 0]] rfl rfl rfl rfl <| R_end rfl <| T_seq <| J_seq <| J_region <| R_z [] [(6, vI 1)] <| T_seq <| J_seq <| J_seq <| J_region <| R_z [0] [(16, .bool (y1.l == ([66] : List UInt8)))] <| T_seq ?_
 obtain ⟨o0, ho0, hM⟩ := bind_some hM
 refine J_cut (fun imm' hs' m' => ∃ (n0 : Int), o0 = n0 ∧ imm01.le imm' ∧ hs' = [hB b2 [vT y1.l, .slice none 0 0], hB r01 [vS p1 y2.b c1, vI y2.p], hB b [vT ([]), .slice none 0 0]] ∧ m' = [(0, vP r01 0), (1, vI depth), (4, vP b 0), (5, vP b2 0), (6, vI n0)]) ?_ ?_
 · have hle0 := hle
   have hle : imm01.le imm01 := Imm.le.refl _
   refine J_cd ho0 ?_ ?_
   · intro hc hM
     exact J_region <| R_z [] [(6, vI 2)] <| T_w [(0, vP r01 0), (1, vI depth), (4, vP b 0), (5, vP b2 0), (6, vI 2)] <| T_cut ⟨_, (pure_some hM).symm, hle, rfl, rfl⟩
   · intro hc hM
     exact J_skip <| T_w [(0, vP r01 0), (1, vI depth), (4, vP b 0), (5, vP b2 0), (6, vI 1)] <| T_cut ⟨_, (pure_some hM).symm, hle, rfl, rfl⟩
 · rintro imm02 hs2 m2 ⟨n0, heq, le2, rfl, rfl⟩
   subst o0
   replace h5 := h5.mono le2
   replace hle := hle.trans le2
   refine T_seq <| J_seq <| J_seq <| J_region <| R_z [] [(7, vI 0)] <| T_seq <| J_block <| J_w [(0, vP r01 0), (1, vI depth), (4, vP b 0), (5, vP b2 0), (6, vI n0), (7, vI 0)] <| J_hs (good_nil (Rp.sz impl_Affine)) ?_
   have h6 : RL imm02 [] ([] : List impl_Affine) := RepL.nil
   obtain ⟨o03, ho03, hM⟩ := bind_some hM
   refine spec_l3Elem_l1_ok depth n0 0 ([] : List impl_Affine) y2 o03 ho03 (Imm.le.refl _) h6 h5 (fun _ _ _ h => h) (fun _ _ h => h) ?_
   intro imm019 Subs1 x1 p4 c4 cs1 p5 c5 heq3 le19 h9 h10
   subst o03
   replace hle := hle.trans le19
   refine T_block_here <| T_seq <| J_seq <| J_region <| R_d 1 [1] [(52, vA [vT y1.l, vS p4 Subs1 c4])] <| R_sb 3 [vT y1.l, vS p4 Subs1 c4] [hO impl_Affine (vS p4 Subs1 c4) cs1, hB b2 [vT y1.l, vS p4 Subs1 c4], hB r01 [vS p5 x1.b c5, vI x1.p], hB b [vT y1.l, vS p4 Subs1 c4]] rfl rfl rfl rfl <| R_end rfl <| T_seq <| J_ret <| T_freeze 0 rfl ?_
   intro imm020 le20 hl06
   have h45 := SL.of_frozen hl06 le20 h9
   replace h10 := h10.mono le20
   replace hle := hle.trans le20
   obtain rfl := pure_some hM
   exact T_RS ⟨_, _, (.cell 2 rfl rfl (by kernel_rfl) ResV.nil), (good_pick [1] rfl (by decide)), ⟨_, _, rfl, rfl, ⟨_, rfl, (impl_Access_shut ⟨_, rfl, h45⟩)⟩, (spec_l16Rd_shut ⟨_, rfl, h10⟩)⟩⟩
def spec_l1Draw_post (b0 : Nat) (r : impl_Affine × spec_l16Rd) : Nat → Imm → List HA → Value → Prop := fun kk imm' hs' v =>
  ∃ (v0 : Value) (k0 : List Value), hs' = [.blk b0 ⟨k0⟩] ∧ v = tupV [v0] ∧ (∃ cs, v0 = .agg ⟨cs⟩ ∧ Rp.rep imm' cs r.1) ∧ Rp.rep imm' k0 r.2
def M.spec_l1Draw_l1 (depth : Int) (i : Int) (Coefs : List Int) (x : spec_l16Rd) : Option ((List Int × spec_l16Rd)) := do
 if (decide (i < depth)) then
  let (y5, y6) ← M.spec_l16Rd_num x ([0, 1, 0, (-1), 2, 0, 9] : List Int)
  let x2 ← idx Coefs i
  let l ← pure (Coefs.set i.toNat y5)
  M.spec_l1Draw_l1 depth (W (i + 1)) l y6
 else
  pure (Coefs, x)
 partial_fixpoint
theorem spec_l1Draw_l1_ok (depth : Int) : ∀ (i : Int) (Coefs : List Int) (x : spec_l16Rd) (o : (List Int × spec_l16Rd)), M.spec_l1Draw_l1 depth i Coefs x = some o → ∀ {B : Base} {imm0 imm : Imm} {Q : Exit → Act → World → Prop} {y3 : impl_Affine} {r01 : Nat} {b : Nat} {b2 : Nat} {p3 : Option Addr} {c3 : Nat} {cs1 : List Value} {p4 : Option Addr} {c4 : Nat}, imm0.le imm → (RL imm cs1 Coefs) → (SL imm (vS p4 x.b c4) x.b) → (∀ l a w, ¬ Q (.goto l) a w) → (∀ a w, ¬ Q .outgrown a w) → (∀ (imm' : Imm) (Coefs1 : List Int) (x1 : spec_l16Rd) (p5 : Option Addr) (c5 : Nat) (cs2 : List Value) (p6 : Option Addr) (c6 : Nat), o = (Coefs1, x1) → imm0.le imm' → (RL imm' cs2 Coefs1) → (SL imm' (vS p6 x1.b c6) x1.b) → T 24 B Q (.exit 0) imm' [hB b2 [vS p5 Coefs1 c5, vI y3.Const], hO Int (vS p5 Coefs1 c5) cs2, hB r01 [vS p6 x1.b c6, vI x1.p], hB b [.slice none 0 0, vI 0]] [(4, vP b 0), (5, vP b2 0)]) → J Try.prog 24 B (nav (bodyOf Try.f101) [1, 1, 0, 1, 0]) Q imm [hB b2 [vS p3 Coefs c3, vI y3.Const], hO Int (vS p3 Coefs c3) cs1, hB r01 [vS p4 x.b c4, vI x.p], hB b [.slice none 0 0, vI 0]] [(0, vP r01 0), (1, vI depth), (4, vP b 0), (5, vP b2 0), (6, vI i)] := by
 refine M.spec_l1Draw_l1.partial_correctness depth _ ?_
 intro self ih i Coefs x o hM B imm0 imm Q y3 r01 b b2 p3 c3 cs1 p4 c4 hle h7 h8 hg ho hx
 refine J_loop hg ho <| J_seq <| J_seq <| J_region <| R_z [] [(13, .bool (decide (i < depth)))] <| T_seq <| J_cd hM ?_ ?_
 · intro hc hM
   refine J_skip <| T_seq <| J_seq <| J_block ?_
   obtain ⟨⟨y5, y6⟩, hy2, hM⟩ := bind_some hM
   refine J_any [.p (vP b2 0) [], .p (vS p3 Coefs c3) [0], .p (vI i) [], .p (vP r01 0) [], .x (fun imm' v hx => ∃ (b3 : Nat), v = vS (some ⟨b3, 0, none⟩) ([0, 1, 0, (-1), 2, 0, 9] : List Int) 7 ∧ hx = [] ∧ (SL imm' (vS (some ⟨b3, 0, none⟩) ([0, 1, 0, (-1), 2, 0, 9] : List Int) 7) ([0, 1, 0, (-1), 2, 0, 9] : List Int))), .x (fun imm' v hx => ∃ (p7 : Option Addr) (c7 : Nat), v = vI y5 ∧ hx = [hB r01 [vS p7 y6.b c7, vI y6.p]] ∧ (SL imm' (vS p7 y6.b c7) y6.b))] [[], [(0, false)], [], [], [], [(3, false), (4, false), (8, true)]] [hB b2 [vS p3 Coefs c3, vI y3.Const], hO Int (vS p3 Coefs c3) cs1, hB b [.slice none 0 0, vI 0]] [[hB r01 [vS p4 x.b c4, vI x.p]]] [(1, false), (2, false), (5, true)] (good_pick [0, 1, 3, 2] rfl (by decide)) ?_ ?_
   · refine Op <| Op <| Op <| Op <| Ox ?_ <| Ox ?_ <| On
     · intro imm1 hf le1
       refine Ins_nil <| R_isw (hB b2 [vS p3 Coefs c3, vI y3.Const] :: hO Int (vS p3 Coefs c3) cs1 :: hB b [.slice none 0 0, vI 0] :: hf) [] ?_
       have hle := Imm.le.refl imm1
       replace h7 := RepL.mono (fun _ _ => Rp.mono le1) h7
       refine R_buildSlice (cs := [vI 0, vI 1, vI 0, vI (-1), vI 2, vI 0, vI 9]) (Rp.sz Int) rfl rfl rfl rfl (by kernel_rfl) (by kernel_rfl) ?_
       intro b3 hb3
       have h11 : RL imm1 [vI 0, vI 1, vI 0, vI (-1), vI 2, vI 0, vI 9] ([0, 1, 0, (-1), 2, 0, 9] : List Int) := ⟨[vI 0], _, rfl, rfl, rfl, ⟨[vI 1], _, rfl, rfl, rfl, ⟨[vI 0], _, rfl, rfl, rfl, ⟨[vI (-1)], _, rfl, rfl, rfl, ⟨[vI 2], _, rfl, rfl, rfl, ⟨[vI 0], _, rfl, rfl, rfl, ⟨[vI 9], _, rfl, rfl, rfl, rfl⟩⟩⟩⟩⟩⟩⟩
       refine R_freeze 0 rfl ?_
       intro imm03 le3 hl01
       have h12 := SL.of_frozen hl01 le3 h11
       replace h7 := RepL.mono (fun _ _ => Rp.mono le3) h7
       replace hle := hle.trans le3
       exact R_out (hx := []) rfl hle rfl (out_some rfl) ⟨_, rfl, rfl, h12⟩
     · intro imm1 hf le1
       refine Ins_cons ?_
       rintro _ _ ⟨rfl, rfl⟩
       refine Ins_cons ?_
       rintro _ _ ⟨b3, rfl, rfl, h12⟩
       refine Ins_cons ?_
       rintro _ _ rfl
       refine Ins_nil <| R_isw (hB r01 [vS p4 x.b c4, vI x.p] :: hB b2 [vS p3 Coefs c3, vI y3.Const] :: hO Int (vS p3 Coefs c3) cs1 :: hB b [.slice none 0 0, vI 0] :: hf) [(19, vP r01 0), (20, vS (some ⟨b3, 0, none⟩) ([0, 1, 0, (-1), 2, 0, 9] : List Int) 7)] ?_
       have hle := Imm.le.refl imm1
       replace h7 := RepL.mono (fun _ _ => Rp.mono le1) h7
       replace h8 := h8.mono le1
       refine R_call (hs1 := [hB r01 [vS p4 x.b c4, vI x.p]]) (rest := (hB b2 [vS p3 Coefs c3, vI y3.Const] :: hO Int (vS p3 Coefs c3) cs1 :: hB b [.slice none 0 0, vI 0] :: hf)) rfl rfl rfl rfl (by kernel_rfl) rfl rfl (spec_l16Rd_num_ok x ([0, 1, 0, (-1), 2, 0, 9] : List Int) _ hy2 h8 h12) ?_
       rintro imm04 hs2 v2 k2 le4 - ⟨v02, kk1, rfl, rfl, rfl, h14⟩ -
       replace h12 := h12.mono le4
       replace h7 := RepL.mono (fun _ _ => Rp.mono le4) h7
       replace hle := hle.trans le4
       obtain ⟨v03, rfl, h15⟩ := spec_l16Rd_open h14
       obtain ⟨p7, c7, rfl⟩ := h15.form
       exact R_out (hx := [hB r01 [vS p7 y6.b c7, vI y6.p]]) rfl hle rfl (out_some rfl) ⟨_, _, rfl, rfl, h15⟩
   · intro imm05 le5
     refine Ins_cons ?_
     rintro _ _ ⟨rfl, rfl⟩
     refine Ins_cons ?_
     rintro _ _ ⟨rfl, rfl⟩
     refine Ins_cons ?_
     rintro _ _ ⟨p7, c7, rfl, rfl, h15⟩
     refine Ins_nil <| R_isw [hB r01 [vS p7 y6.b c7, vI y6.p], hB b2 [vS p3 Coefs c3, vI y3.Const], hO Int (vS p3 Coefs c3) cs1, hB b [.slice none 0 0, vI 0]] [(0, vP r01 0), (1, vI depth), (4, vP b 0), (5, vP b2 0), (6, vI i), (17, vS p3 Coefs c3), (18, vI i), (21, vI y5)] ?_
     replace h7 := RepL.mono (fun _ _ => Rp.mono le5) h7
     replace hle := hle.trans le5
     obtain ⟨x2, hy3, hM⟩ := bind_some hM
     refine R_ixo 2 rfl rfl rfl h7 hy3 ?_
     intro ad ccs hat hcc hrep
     obtain rfl := hrep
     obtain ⟨l, hy4, hM⟩ := bind_some hM
     refine R_store_el (c := [vI y5]) (x' := y5) 2 0 rfl rfl rfl hat rfl rfl hcc (by kernel_rfl) (by kernel_rfl) (by kernel_rfl) h7 hy3 (by kernel_rfl) rfl ?_
     rw [show Coefs.set i.toNat y5 = l from pure_some hy4]
     intro cs3 h16 hl02
     exact R_weaken (m' := [(0, vP r01 0), (1, vI depth), (4, vP b 0), (5, vP b2 0), (6, vI i), (17, vS p3 Coefs c3), (18, vI i), (21, vI y5)]) ⟨rfl, rfl, rfl, rfl, rfl, rfl, rfl, rfl, trivial⟩ <| R_conv (hs' := [hB r01 [vS p7 y6.b c7, vI y6.p], hB b2 [vS p3 l c3, vI y3.Const], hO Int (vS p3 l c3) cs3, hB b [.slice none 0 0, vI 0]]) (m' := [(0, vP r01 0), (1, vI depth), (4, vP b 0), (5, vP b2 0), (6, vI i), (17, vS p3 l c3), (18, vI i), (21, vI y5)]) (by first | rfl | simp only [vS, hl02, List.nil_append, List.cons_append, List.set_cons_zero, List.set_cons_succ]) (by first | rfl | simp only [vS, hl02]) <| R_end rfl <| T_block_normal <| T_seq <| J_region <| R_z [] [(6, vI (W (i + 1)))] <| T_loop <| J_hs (good_pick [1, 2, 0, 3] rfl (by decide)) <| J_w [(0, vP r01 0), (1, vI depth), (4, vP b 0), (5, vP b2 0), (6, vI (W (i + 1)))] <| ih (W (i + 1)) l y6 _ hM hle h16 h15 hg ho hx
 · intro hc hM
   exact J_exit <| T_then_exit <| T_then_exit <| T_w [(4, vP b 0), (5, vP b2 0)] <| hx _ _ _ _ _ _ _ _ (pure_some hM).symm hle h7 h8
def M.spec_l1Draw (r0 : spec_l16Rd) (depth : Int) : Option (impl_Affine × spec_l16Rd) := do
 let (y1, y2) ← M.spec_l16Rd_num r0 ([0, 1, (-1), 2, 0, 5, (-9), 99] : List Int)
 let y3 ← M.spec_l1Const y1
 let (Coefs1, x1) ← M.spec_l1Draw_l1 depth 0 y3.Coefs y2
 pure ((impl_Affine.mk Coefs1 y3.Const), x1)
theorem spec_l1Draw_ok : ∀ (r0 : spec_l16Rd) (depth : Int) r, M.spec_l1Draw r0 depth = some r → ∀ {imm : Imm} {r01 : Nat} {p : Option Addr} {c : Nat}, (SL imm (vS p r0.b c) r0.b) → Ret Try.prog 101 [vP r01 0, vI depth] imm [hB r01 [vS p r0.b c, vI r0.p]] (spec_l1Draw_post r01 r) := by
 intro r0 depth r hM imm r01 p c h
 unfold M.spec_l1Draw at hM
 refine ret_of_J (fn := Try.f101) (c := (bodyOf Try.f101)) Try.func101 rfl rfl ?_
 rintro B - -
 have hle : imm.le imm := Imm.le.refl _
 refine J_seq <| J_region <| R_alloc (c := ⟨[.slice none 0 0, vI 0]⟩) rfl rfl rfl (by kernel_rfl) ?_
 intro b hb
 refine R_end rfl <| T_seq <| J_seq <| J_region <| R_d 1 [] [(7, vP r01 0)] <| R_buildSlice (cs := [vI 0, vI 1, vI (-1), vI 2, vI 0, vI 5, vI (-9), vI 99]) (Rp.sz Int) rfl rfl rfl rfl (by kernel_rfl) (by kernel_rfl) ?_
 intro b1 hb1
 have h1 : RL imm [vI 0, vI 1, vI (-1), vI 2, vI 0, vI 5, vI (-9), vI 99] ([0, 1, (-1), 2, 0, 5, (-9), 99] : List Int) := ⟨[vI 0], _, rfl, rfl, rfl, ⟨[vI 1], _, rfl, rfl, rfl, ⟨[vI (-1)], _, rfl, rfl, rfl, ⟨[vI 2], _, rfl, rfl, rfl, ⟨[vI 0], _, rfl, rfl, rfl, ⟨[vI 5], _, rfl, rfl, rfl, ⟨[vI (-9)], _, rfl, rfl, rfl, ⟨[vI 99], _, rfl, rfl, rfl, rfl⟩⟩⟩⟩⟩⟩⟩⟩
 refine R_freeze 0 rfl ?_
 intro imm0 le hl0
 have h2 := SL.of_frozen hl0 le h1
 replace h := h.mono le
 replace hle := hle.trans le
 refine R_hs (good_pick [1, 0] (hs' := [hB r01 [vS p r0.b c, vI r0.p], hB b [.slice none 0 0, vI 0]]) rfl (by decide)) ?_
 obtain ⟨⟨y1, y2⟩, hy, hM⟩ := bind_some hM
 refine R_call (hs1 := [hB r01 [vS p r0.b c, vI r0.p]]) (rest := [hB b [.slice none 0 0, vI 0]]) rfl rfl rfl rfl (by kernel_rfl) rfl rfl (spec_l16Rd_num_ok r0 ([0, 1, (-1), 2, 0, 5, (-9), 99] : List Int) _ hy h h2) ?_
 rintro imm01 hs2 v2 k2 le1 - ⟨v0, kk, rfl, rfl, rfl, h4⟩ -
 replace hle := hle.trans le1
 obtain ⟨v01, rfl, h5⟩ := spec_l16Rd_open h4
 obtain ⟨p1, c1, rfl⟩ := h5.form
 obtain ⟨y3, hy1, hM⟩ := bind_some hM
 refine R_call (hs1 := []) (rest := [hB r01 [vS p1 y2.b c1, vI y2.p], hB b [.slice none 0 0, vI 0]]) rfl rfl rfl rfl (by kernel_rfl) rfl rfl (spec_l1Const_ok y1 _ hy1 ) ?_
 rintro imm02 hs2 v2 k2 le2 - ⟨p2, c2, cs, rfl, rfl, h6⟩ -
 replace h5 := h5.mono le2
 replace hle := hle.trans le2
 refine R_alloc (c := ⟨[.slice none 0 0, vI 0]⟩) rfl rfl rfl (by kernel_rfl) ?_
 intro b2 hb2
 refine R_sb 0 [vS p2 y3.Coefs c2, vI y3.Const] [hB b2 [vS p2 y3.Coefs c2, vI y3.Const], hO Int (vS p2 y3.Coefs c2) cs, hB r01 [vS p1 y2.b c1, vI y2.p], hB b [.slice none 0 0, vI 0]] rfl rfl rfl rfl <| R_end rfl <| T_seq <| J_seq <| J_seq <| J_region <| R_z [] [(6, vI 0)] <| T_seq <| J_block <| J_w [(0, vP r01 0), (1, vI depth), (4, vP b 0), (5, vP b2 0), (6, vI 0)] ?_
 obtain ⟨o0, ho0, hM⟩ := bind_some hM
 refine spec_l1Draw_l1_ok depth 0 y3.Coefs y2 o0 ho0 (Imm.le.refl _) h6 h5 (fun _ _ _ h => h) (fun _ _ h => h) ?_
 intro imm06 Coefs1 x1 p5 c5 cs2 p6 c6 heq le6 h9 h10
 subst o0
 replace hle := hle.trans le6
 refine T_block_here <| T_seq <| J_seq <| J_region <| R_d 1 [0] [(23, vA [vS p5 Coefs1 c5, vI y3.Const])] <| R_sb 3 [vS p5 Coefs1 c5, vI y3.Const] [hB b2 [vS p5 Coefs1 c5, vI y3.Const], hO Int (vS p5 Coefs1 c5) cs2, hB r01 [vS p6 x1.b c6, vI x1.p], hB b [vS p5 Coefs1 c5, vI y3.Const]] rfl rfl rfl rfl <| R_end rfl <| T_seq <| J_ret <| T_freeze 1 rfl ?_
 intro imm07 le7 hl03
 have h17 := SL.of_frozen hl03 le7 h9
 replace h10 := h10.mono le7
 replace hle := hle.trans le7
 obtain rfl := pure_some hM
 exact T_RS ⟨_, _, (.cell 2 rfl rfl (by kernel_rfl) ResV.nil), (good_pick [1] rfl (by decide)), ⟨_, _, rfl, rfl, ⟨_, rfl, (impl_Affine_shut ⟨_, rfl, h17⟩)⟩, (spec_l16Rd_shut ⟨_, rfl, h10⟩)⟩⟩
def spec_l3Value_post (b0 : Nat) (r : impl_Expr × spec_l16Rd) : Nat → Imm → List HA → Value → Prop := fun kk imm' hs' v =>
  ∃ (v0 : Value) (k0 : List Value), hs' = [.blk b0 ⟨k0⟩] ∧ v = tupV [v0] ∧ (∃ cs, v0 = .agg ⟨cs⟩ ∧ Rp.rep imm' cs r.1) ∧ Rp.rep imm' k0 r.2
mutual
def M.spec_l3Value (r0 : spec_l16Rd) (depth : Int) (levels : Int) : Option (impl_Expr × spec_l16Rd) := do
 let (t15, x) ← (do
   if (decide (levels < 2)) then
    pure (true, r0)
   else
    let (y1, y2) ← M.spec_l16Rd_pick r0 4
    pure ((y1 == 0), y2)
     : Option (Bool × spec_l16Rd))
 if t15 then
  let (y4, y5) ← M.spec_l16Rd_pick x 4
  if (y4 == 0) then
   let (y7, y8) ← M.spec_l16Rd_num y5 ([1, 2, 0, 99, 3] : List Int)
   pure ((impl_Expr.mk 1 y7 (impl_Affine.mk ([] : List Int) 0) (impl_Access.mk (⟨[]⟩ : Str) ([] : List impl_Affine)) ([] : List impl_Expr)), y8)
  else
   if (y4 == 1) then
    let (y10, y11) ← M.spec_l1Draw y5 depth
    pure ((impl_Expr.mk 2 0 y10 (impl_Access.mk (⟨[]⟩ : Str) ([] : List impl_Affine)) ([] : List impl_Expr)), y11)
   else
    let (y13, y14) ← M.spec_l3Elem y5 depth
    pure ((impl_Expr.mk 3 0 (impl_Affine.mk ([] : List Int) 0) y13 ([] : List impl_Expr)), y14)
 else
  let (y16, y17) ← M.spec_l16Rd_num x ([4, 6, 5, 4] : List Int)
  let (Kids1, x2) ← M.spec_l3Value_l1 (same depth) (same levels) (same 0) ([] : List impl_Expr) (same y17)
  pure ((impl_Expr.mk y16 0 (impl_Affine.mk ([] : List Int) 0) (impl_Access.mk (⟨[]⟩ : Str) ([] : List impl_Affine)) Kids1), x2)
 partial_fixpoint
def M.spec_l3Value_l1 (depth : Int) (levels : Int) (i : Int) (Kids : List impl_Expr) (x1 : spec_l16Rd) : Option ((List impl_Expr × spec_l16Rd)) := do
 if (decide (i < 2)) then
  let (y19, y20) ← M.spec_l3Value (same x1) (same depth) (W (levels - 1))
  let l ← app 112 Kids ([y19] : List impl_Expr)
  M.spec_l3Value_l1 (same depth) (same levels) (W (i + 1)) (same l) (same y20)
 else
  pure (Kids, x1)
 partial_fixpoint
end
theorem grp_spec_l3Value : (∀ (r0 : spec_l16Rd) (depth : Int) (levels : Int) r, M.spec_l3Value r0 depth levels = some r → ∀ {imm : Imm} {r01 : Nat} {p : Option Addr} {c : Nat}, (SL imm (vS p r0.b c) r0.b) → Ret Try.prog 85 [vP r01 0, vI depth, vI levels] imm [hB r01 [vS p r0.b c, vI r0.p]] (spec_l3Value_post r01 r)) ∧ (∀ (depth : Int) (levels : Int) (i : Int) (Kids : List impl_Expr) (x1 : spec_l16Rd) o, M.spec_l3Value_l1 depth levels i Kids x1 = some o → ∀ {B : Base} {imm0 imm : Imm} {Q : Exit → Act → World → Prop} {y16 : Int} {r01 : Nat} {b : Nat} {b3 : Nat} {p10 : Option Addr} {c10 : Nat} {cs2 : List Value} {p11 : Option Addr} {c11 : Nat}, imm0.le imm → (RL imm cs2 Kids) → (SL imm (vS p11 x1.b c11) x1.b) → (∀ l a w, ¬ Q (.goto l) a w) → (∀ a w, ¬ Q .outgrown a w) → (∀ (imm' : Imm) (Kids1 : List impl_Expr) (x2 : spec_l16Rd) (p12 : Option Addr) (c12 : Nat) (cs3 : List Value) (p13 : Option Addr) (c13 : Nat), o = (Kids1, x2) → imm0.le imm' → (RL imm' cs3 Kids1) → (SL imm' (vS p13 x2.b c13) x2.b) → T 53 B Q (.exit 1) imm' [hO impl_Expr (vS p12 Kids1 c12) cs3, hB b3 [vI y16, vI 0, .slice none 0 0, vI 0, vT ([]), .slice none 0 0, vS p12 Kids1 c12], hB r01 [vS p13 x2.b c13, vI x2.p], hB b [vI 0, vI 0, .slice none 0 0, vI 0, vT ([]), .slice none 0 0, .slice none 0 0]] [(6, vP b 0), (7, vP b3 0)]) → J Try.prog 53 B (nav (bodyOf Try.f85) [1, 1, 1, 0, 1, 0]) Q imm [hO impl_Expr (vS p10 Kids c10) cs2, hB b3 [vI y16, vI 0, .slice none 0 0, vI 0, vT ([]), .slice none 0 0, vS p10 Kids c10], hB r01 [vS p11 x1.b c11, vI x1.p], hB b [vI 0, vI 0, .slice none 0 0, vI 0, vT ([]), .slice none 0 0, .slice none 0 0]] [(0, vP r01 0), (1, vI depth), (2, vI levels), (6, vP b 0), (7, vP b3 0), (8, vI i)]) := by
  refine M.spec_l3Value.mutual_partial_correctness (fun r0 depth levels r => ∀ {imm : Imm} {r01 : Nat} {p : Option Addr} {c : Nat}, (SL imm (vS p r0.b c) r0.b) → Ret Try.prog 85 [vP r01 0, vI depth, vI levels] imm [hB r01 [vS p r0.b c, vI r0.p]] (spec_l3Value_post r01 r)) (fun depth levels i Kids x1 o => ∀ {B : Base} {imm0 imm : Imm} {Q : Exit → Act → World → Prop} {y16 : Int} {r01 : Nat} {b : Nat} {b3 : Nat} {p10 : Option Addr} {c10 : Nat} {cs2 : List Value} {p11 : Option Addr} {c11 : Nat}, imm0.le imm → (RL imm cs2 Kids) → (SL imm (vS p11 x1.b c11) x1.b) → (∀ l a w, ¬ Q (.goto l) a w) → (∀ a w, ¬ Q .outgrown a w) → (∀ (imm' : Imm) (Kids1 : List impl_Expr) (x2 : spec_l16Rd) (p12 : Option Addr) (c12 : Nat) (cs3 : List Value) (p13 : Option Addr) (c13 : Nat), o = (Kids1, x2) → imm0.le imm' → (RL imm' cs3 Kids1) → (SL imm' (vS p13 x2.b c13) x2.b) → T 53 B Q (.exit 1) imm' [hO impl_Expr (vS p12 Kids1 c12) cs3, hB b3 [vI y16, vI 0, .slice none 0 0, vI 0, vT ([]), .slice none 0 0, vS p12 Kids1 c12], hB r01 [vS p13 x2.b c13, vI x2.p], hB b [vI 0, vI 0, .slice none 0 0, vI 0, vT ([]), .slice none 0 0, .slice none 0 0]] [(6, vP b 0), (7, vP b3 0)]) → J Try.prog 53 B (nav (bodyOf Try.f85) [1, 1, 1, 0, 1, 0]) Q imm [hO impl_Expr (vS p10 Kids c10) cs2, hB b3 [vI y16, vI 0, .slice none 0 0, vI 0, vT ([]), .slice none 0 0, vS p10 Kids c10], hB r01 [vS p11 x1.b c11, vI x1.p], hB b [vI 0, vI 0, .slice none 0 0, vI 0, vT ([]), .slice none 0 0, .slice none 0 0]] [(0, vP r01 0), (1, vI depth), (2, vI levels), (6, vP b 0), (7, vP b3 0), (8, vI i)]) ?_ ?_
  · intro F_spec_l3Value_l1 ih_spec_l3Value_l1 r0 depth levels r hM imm r01 p c h
    refine ret_of_J (fn := Try.f85) (c := (bodyOf Try.f85)) Try.func85 rfl rfl ?_
    rintro B - -
    have hle : imm.le imm := Imm.le.refl _
    refine J_seq <| J_region <| R_alloc (c := ⟨[vI 0, vI 0, .slice none 0 0, vI 0, vT ([]), .slice none 0 0, .slice none 0 0]⟩) rfl rfl rfl (by kernel_rfl) ?_
    intro b hb
    refine R_end rfl <| T_seq <| J_seq <| J_seq ?_
    obtain ⟨o0, ho0, hM⟩ := bind_some hM
    refine J_cut (fun imm' hs' m' => ∃ (t15 : Bool) (x : spec_l16Rd) (p1 : Option Addr) (c1 : Nat), o0 = (t15, x) ∧ imm.le imm' ∧ (SL imm' (vS p1 x.b c1) x.b) ∧ hs' = [hB b [vI 0, vI 0, .slice none 0 0, vI 0, vT ([]), .slice none 0 0, .slice none 0 0], hB r01 [vS p1 x.b c1, vI x.p]] ∧ m' = [(0, vP r01 0), (1, vI depth), (2, vI levels), (6, vP b 0), (15, .bool t15)]) ?_ ?_
    · have hle0 := hle
      have hle : imm.le imm := Imm.le.refl _
      refine J_region <| R_d 3 [] [(11, .bool (decide (levels < 2)))] ?_
      cases hc : (decide (levels < 2)) with
      | true =>
       have hM0 := if_some_true hc ho0
       try rw [hc]
       exact R_z [] [(15, .bool true)] <| T_w [(0, vP r01 0), (1, vI depth), (2, vI levels), (6, vP b 0), (15, .bool true)] <| T_cut ⟨_, _, _, _, (pure_some hM0).symm, hle, h, rfl, rfl⟩
      | false =>
       have hM01 := if_some_false hc ho0
       try rw [hc]
       refine R_d 4 [] [(12, vP r01 0)] <| R_hs (good_pick [1, 0] (hs' := [hB r01 [vS p r0.b c, vI r0.p], hB b [vI 0, vI 0, .slice none 0 0, vI 0, vT ([]), .slice none 0 0, .slice none 0 0]]) rfl (by decide)) ?_
       obtain ⟨⟨y1, y2⟩, hy, hM⟩ := bind_some hM01
       refine R_call (hs1 := [hB r01 [vS p r0.b c, vI r0.p]]) (rest := [hB b [vI 0, vI 0, .slice none 0 0, vI 0, vT ([]), .slice none 0 0, .slice none 0 0]]) rfl rfl rfl rfl (by kernel_rfl) rfl rfl (spec_l16Rd_pick_ok r0 4 _ hy h) ?_
       rintro imm01 hs2 v2 k2 le - ⟨v0, kk, rfl, rfl, rfl, h3⟩ -
       replace hle := hle.trans le
       obtain ⟨v01, rfl, h4⟩ := spec_l16Rd_open h3
       obtain ⟨p2, c2, rfl⟩ := h4.form
       exact R_z [] [(15, .bool (y1 == 0))] <| T_hs (good_pick [1, 0] rfl (by decide)) <| T_w [(0, vP r01 0), (1, vI depth), (2, vI levels), (6, vP b 0), (15, .bool (y1 == 0))] <| T_cut ⟨_, _, _, _, (pure_some hM).symm, hle, h4, rfl, rfl⟩
    · rintro imm0 hs2 m2 ⟨t15, x, p1, c1, heq, le1, h1, rfl, rfl⟩
      subst o0
      replace hle := hle.trans le1
      refine T_seq <| J_cd hM ?_ ?_
      · intro hc1 hM
        refine J_seq <| J_seq <| J_region <| R_d 1 [] [(16, vP r01 0)] <| R_hs (good_pick [1, 0] (hs' := [hB r01 [vS p1 x.b c1, vI x.p], hB b [vI 0, vI 0, .slice none 0 0, vI 0, vT ([]), .slice none 0 0, .slice none 0 0]]) rfl (by decide)) ?_
        obtain ⟨⟨y4, y5⟩, hy1, hM⟩ := bind_some hM
        refine R_call (hs1 := [hB r01 [vS p1 x.b c1, vI x.p]]) (rest := [hB b [vI 0, vI 0, .slice none 0 0, vI 0, vT ([]), .slice none 0 0, .slice none 0 0]]) rfl rfl rfl rfl (by kernel_rfl) rfl rfl (spec_l16Rd_pick_ok x 4 _ hy1 h1) ?_
        rintro imm02 hs2 v2 k2 le2 - ⟨v02, kk1, rfl, rfl, rfl, h6⟩ -
        replace hle := hle.trans le2
        obtain ⟨v03, rfl, h7⟩ := spec_l16Rd_open h6
        obtain ⟨p3, c3, rfl⟩ := h7.form
        refine R_end rfl <| T_seq <| J_block <| J_seq <| J_region <| R_z [] [(18, .bool (y4 == 0))] <| T_seq <| J_cd hM ?_ ?_
        · intro hc2 hM
          refine J_seq <| J_region <| R_d 1 [] [(20, vP r01 0)] <| R_buildSlice (cs := [vI 1, vI 2, vI 0, vI 99, vI 3]) (Rp.sz Int) rfl rfl rfl rfl (by kernel_rfl) (by kernel_rfl) ?_
          intro b1 hb1
          have h8 : RL imm02 [vI 1, vI 2, vI 0, vI 99, vI 3] ([1, 2, 0, 99, 3] : List Int) := ⟨[vI 1], _, rfl, rfl, rfl, ⟨[vI 2], _, rfl, rfl, rfl, ⟨[vI 0], _, rfl, rfl, rfl, ⟨[vI 99], _, rfl, rfl, rfl, ⟨[vI 3], _, rfl, rfl, rfl, rfl⟩⟩⟩⟩⟩
          refine R_freeze 0 rfl ?_
          intro imm03 le3 hl0
          have h9 := SL.of_frozen hl0 le3 h8
          replace h7 := h7.mono le3
          replace hle := hle.trans le3
          obtain ⟨⟨y7, y8⟩, hy2, hM⟩ := bind_some hM
          refine R_call (hs1 := [hB r01 [vS p3 y5.b c3, vI y5.p]]) (rest := [hB b [vI 0, vI 0, .slice none 0 0, vI 0, vT ([]), .slice none 0 0, .slice none 0 0]]) rfl rfl rfl rfl (by kernel_rfl) rfl rfl (spec_l16Rd_num_ok y5 ([1, 2, 0, 99, 3] : List Int) _ hy2 h7 h9) ?_
          rintro imm04 hs2 v2 k2 le4 - ⟨v04, kk2, rfl, rfl, rfl, h11⟩ -
          replace hle := hle.trans le4
          obtain ⟨v05, rfl, h12⟩ := spec_l16Rd_open h11
          obtain ⟨p4, c4, rfl⟩ := h12.form
          refine R_d 4 [] [(23, vA [vI 1, vI y7, .slice none 0 0, vI 0, vT ([]), .slice none 0 0, .slice none 0 0])] <| R_sb 1 [vI 1, vI y7, .slice none 0 0, vI 0, vT ([]), .slice none 0 0, .slice none 0 0] [hB r01 [vS p4 y8.b c4, vI y8.p], hB b [vI 1, vI y7, .slice none 0 0, vI 0, vT ([]), .slice none 0 0, .slice none 0 0]] rfl rfl rfl rfl <| R_end rfl <| T_seq <| J_ret <| T_block_ret <| T_then_ret <| T_then_ret ?_
          obtain rfl := pure_some hM
          exact T_RS ⟨_, _, (.cell 1 rfl rfl (by kernel_rfl) ResV.nil), (good_pick [0] rfl (by decide)), ⟨_, _, rfl, rfl, ⟨_, rfl, (impl_Expr_shut ⟨_, _, _, rfl, (SL.nil _), (SL.nil _), (SL.nil _)⟩)⟩, (spec_l16Rd_shut ⟨_, rfl, h12⟩)⟩⟩
        · intro hc2 hM
          refine J_seq <| J_region <| R_z [] [(24, .bool (y4 == 1))] <| T_seq <| J_cd hM ?_ ?_
          · intro hc3 hM
            refine J_seq <| J_region <| R_d 2 [] [(26, vP r01 0), (27, vI depth)] ?_
            obtain ⟨⟨y10, y11⟩, hy3, hM⟩ := bind_some hM
            refine R_call (hs1 := [hB r01 [vS p3 y5.b c3, vI y5.p]]) (rest := [hB b [vI 0, vI 0, .slice none 0 0, vI 0, vT ([]), .slice none 0 0, .slice none 0 0]]) rfl rfl rfl rfl (by kernel_rfl) rfl rfl (spec_l1Draw_ok y5 depth _ hy3 h7) ?_
            rintro imm05 hs2 v2 k2 le5 - ⟨v06, kk3, rfl, rfl, ⟨cs, rfl, h13⟩, h14⟩ -
            replace hle := hle.trans le5
            obtain ⟨v07, rfl, h15⟩ := impl_Affine_open h13
            obtain ⟨p5, c5, rfl⟩ := h15.form
            obtain ⟨v08, rfl, h16⟩ := spec_l16Rd_open h14
            obtain ⟨p6, c6, rfl⟩ := h16.form
            refine R_d 4 [] [(29, vA [vI 2, vI 0, vS p5 y10.Coefs c5, vI y10.Const, vT ([]), .slice none 0 0, .slice none 0 0])] <| R_sb 1 [vI 2, vI 0, vS p5 y10.Coefs c5, vI y10.Const, vT ([]), .slice none 0 0, .slice none 0 0] [hB r01 [vS p6 y11.b c6, vI y11.p], hB b [vI 2, vI 0, vS p5 y10.Coefs c5, vI y10.Const, vT ([]), .slice none 0 0, .slice none 0 0]] rfl rfl rfl rfl <| R_end rfl <| T_seq <| J_ret <| T_block_ret <| T_then_ret <| T_then_ret ?_
            obtain rfl := pure_some hM
            exact T_RS ⟨_, _, (.cell 1 rfl rfl (by kernel_rfl) ResV.nil), (good_pick [0] rfl (by decide)), ⟨_, _, rfl, rfl, ⟨_, rfl, (impl_Expr_shut ⟨_, _, _, rfl, h15, (SL.nil _), (SL.nil _)⟩)⟩, (spec_l16Rd_shut ⟨_, rfl, h16⟩)⟩⟩
          · intro hc3 hM
            refine J_skip <| T_block_normal <| T_seq <| J_seq <| J_region <| R_d 2 [] [(30, vP r01 0), (31, vI depth)] ?_
            obtain ⟨⟨y13, y14⟩, hy4, hM⟩ := bind_some hM
            refine R_call (hs1 := [hB r01 [vS p3 y5.b c3, vI y5.p]]) (rest := [hB b [vI 0, vI 0, .slice none 0 0, vI 0, vT ([]), .slice none 0 0, .slice none 0 0]]) rfl rfl rfl rfl (by kernel_rfl) rfl rfl (spec_l3Elem_ok y5 depth _ hy4 h7) ?_
            rintro imm06 hs2 v2 k2 le6 - ⟨v09, kk4, rfl, rfl, ⟨cs1, rfl, h17⟩, h18⟩ -
            replace hle := hle.trans le6
            obtain ⟨v010, rfl, h19⟩ := impl_Access_open h17
            obtain ⟨p7, c7, rfl⟩ := h19.form
            obtain ⟨v011, rfl, h20⟩ := spec_l16Rd_open h18
            obtain ⟨p8, c8, rfl⟩ := h20.form
            refine R_d 4 [] [(33, vA [vI 3, vI 0, .slice none 0 0, vI 0, vT y13.Array.l, vS p7 y13.Subs c7, .slice none 0 0])] <| R_sb 1 [vI 3, vI 0, .slice none 0 0, vI 0, vT y13.Array.l, vS p7 y13.Subs c7, .slice none 0 0] [hB r01 [vS p8 y14.b c8, vI y14.p], hB b [vI 3, vI 0, .slice none 0 0, vI 0, vT y13.Array.l, vS p7 y13.Subs c7, .slice none 0 0]] rfl rfl rfl rfl <| R_end rfl <| T_seq <| J_ret <| T_then_ret ?_
            obtain rfl := pure_some hM
            exact T_RS ⟨_, _, (.cell 1 rfl rfl (by kernel_rfl) ResV.nil), (good_pick [0] rfl (by decide)), ⟨_, _, rfl, rfl, ⟨_, rfl, (impl_Expr_shut ⟨_, _, _, rfl, (SL.nil _), h19, (SL.nil _)⟩)⟩, (spec_l16Rd_shut ⟨_, rfl, h20⟩)⟩⟩
      · intro hc1 hM
        refine J_skip <| T_seq <| J_seq <| J_region <| R_d 1 [] [(34, vP r01 0)] <| R_buildSlice (cs := [vI 4, vI 6, vI 5, vI 4]) (Rp.sz Int) rfl rfl rfl rfl (by kernel_rfl) (by kernel_rfl) ?_
        intro b2 hb2
        have h21 : RL imm0 [vI 4, vI 6, vI 5, vI 4] ([4, 6, 5, 4] : List Int) := ⟨[vI 4], _, rfl, rfl, rfl, ⟨[vI 6], _, rfl, rfl, rfl, ⟨[vI 5], _, rfl, rfl, rfl, ⟨[vI 4], _, rfl, rfl, rfl, rfl⟩⟩⟩⟩
        refine R_freeze 0 rfl ?_
        intro imm07 le7 hl01
        have h22 := SL.of_frozen hl01 le7 h21
        replace h1 := h1.mono le7
        replace hle := hle.trans le7
        refine R_hs (good_pick [1, 0] (hs' := [hB r01 [vS p1 x.b c1, vI x.p], hB b [vI 0, vI 0, .slice none 0 0, vI 0, vT ([]), .slice none 0 0, .slice none 0 0]]) rfl (by decide)) ?_
        obtain ⟨⟨y16, y17⟩, hy5, hM⟩ := bind_some hM
        refine R_call (hs1 := [hB r01 [vS p1 x.b c1, vI x.p]]) (rest := [hB b [vI 0, vI 0, .slice none 0 0, vI 0, vT ([]), .slice none 0 0, .slice none 0 0]]) rfl rfl rfl rfl (by kernel_rfl) rfl rfl (spec_l16Rd_num_ok x ([4, 6, 5, 4] : List Int) _ hy5 h1 h22) ?_
        rintro imm08 hs2 v2 k2 le8 - ⟨v012, kk5, rfl, rfl, rfl, h24⟩ -
        replace hle := hle.trans le8
        obtain ⟨v013, rfl, h25⟩ := spec_l16Rd_open h24
        obtain ⟨p9, c9, rfl⟩ := h25.form
        refine R_d 4 [] [(37, vA [vI y16, vI 0, .slice none 0 0, vI 0, vT ([]), .slice none 0 0, .slice none 0 0])] <| R_alloc (c := ⟨[vI 0, vI 0, .slice none 0 0, vI 0, vT ([]), .slice none 0 0, .slice none 0 0]⟩) rfl rfl rfl (by kernel_rfl) ?_
        intro b3 hb3
        refine R_sb 0 [vI y16, vI 0, .slice none 0 0, vI 0, vT ([]), .slice none 0 0, .slice none 0 0] [hB b3 [vI y16, vI 0, .slice none 0 0, vI 0, vT ([]), .slice none 0 0, .slice none 0 0], hB r01 [vS p9 y17.b c9, vI y17.p], hB b [vI 0, vI 0, .slice none 0 0, vI 0, vT ([]), .slice none 0 0, .slice none 0 0]] rfl rfl rfl rfl <| R_end rfl <| T_seq <| J_seq <| J_seq <| J_region <| R_z [] [(8, vI 0)] <| T_seq <| J_block <| J_w [(0, vP r01 0), (1, vI depth), (2, vI levels), (6, vP b 0), (7, vP b3 0), (8, vI 0)] <| J_hs (good_nil (Rp.sz impl_Expr)) ?_
        have h26 : RL imm08 [] ([] : List impl_Expr) := RepL.nil
        obtain ⟨o01, ho01, hM⟩ := bind_some hM
        refine ih_spec_l3Value_l1 depth levels 0 ([] : List impl_Expr) y17 o01 ho01 (Imm.le.refl _) h26 h25 (fun _ _ _ h => h) (fun _ _ h => h) ?_
        intro imm012 Kids1 x2 p12 c12 cs3 p13 c13 heq1 le12 h29 h30
        subst o01
        replace hle := hle.trans le12
        refine T_block_here <| T_seq <| J_seq <| J_region <| R_d 1 [1] [(52, vA [vI y16, vI 0, .slice none 0 0, vI 0, vT ([]), .slice none 0 0, vS p12 Kids1 c12])] <| R_sb 3 [vI y16, vI 0, .slice none 0 0, vI 0, vT ([]), .slice none 0 0, vS p12 Kids1 c12] [hO impl_Expr (vS p12 Kids1 c12) cs3, hB b3 [vI y16, vI 0, .slice none 0 0, vI 0, vT ([]), .slice none 0 0, vS p12 Kids1 c12], hB r01 [vS p13 x2.b c13, vI x2.p], hB b [vI y16, vI 0, .slice none 0 0, vI 0, vT ([]), .slice none 0 0, vS p12 Kids1 c12]] rfl rfl rfl rfl <| R_end rfl <| T_seq <| J_ret <| T_freeze 0 rfl ?_
        intro imm013 le13 hl03
        have h40 := SL.of_frozen hl03 le13 h29
        replace h30 := h30.mono le13
        replace hle := hle.trans le13
        obtain rfl := pure_some hM
        exact T_RS ⟨_, _, (.cell 2 rfl rfl (by kernel_rfl) ResV.nil), (good_pick [1] rfl (by decide)), ⟨_, _, rfl, rfl, ⟨_, rfl, (impl_Expr_shut ⟨_, _, _, rfl, (SL.nil _), (SL.nil _), h40⟩)⟩, (spec_l16Rd_shut ⟨_, rfl, h30⟩)⟩⟩
  · intro F_spec_l3Value F_spec_l3Value_l1 ih_spec_l3Value ih_spec_l3Value_l1 depth levels i Kids x1 o hM B imm0 imm Q y16 r01 b b3 p10 c10 cs2 p11 c11 hle h27 h28 hg ho hx
    refine J_loop hg ho <| J_seq <| J_seq <| J_region <| R_z [] [(39, .bool (decide (i < 2)))] <| T_seq <| J_cd hM ?_ ?_
    · intro hc4 hM
      refine J_skip <| T_seq <| J_seq <| J_block ?_
      obtain ⟨⟨y19, y20⟩, hy6, hM⟩ := bind_some hM
      obtain ⟨l, hy7, hM⟩ := bind_some hM
      refine J_any [.p (vP b3 6) [], .p (vS p10 Kids c10) [0], .p (vP r01 0) [], .p (vI depth) [], .p (vI levels) [], .p (vI (W (levels - 1))) [], .x (fun imm' v hx => ∃ (p14 : Option Addr) (c14 : Nat) (p15 : Option Addr) (c15 : Nat) (p16 : Option Addr) (c16 : Nat) (p17 : Option Addr) (c17 : Nat), v = vA [vI y19.Kind, vI y19.Num, vS p14 y19.Index.Coefs c14, vI y19.Index.Const, vT y19.Read.Array.l, vS p15 y19.Read.Subs c15, vS p16 y19.Kids c16] ∧ hx = [hB r01 [vS p17 y20.b c17, vI y20.p]] ∧ (SL imm' (vS p14 y19.Index.Coefs c14) y19.Index.Coefs) ∧ (SL imm' (vS p15 y19.Read.Subs c15) y19.Read.Subs) ∧ (SL imm' (vS p16 y19.Kids c16) y19.Kids) ∧ (SL imm' (vS p17 y20.b c17) y20.b)), .x (fun imm' v hx => ∃ (b4 : Nat), v = vS (some ⟨b4, 0, none⟩) ([y19] : List impl_Expr) 1 ∧ hx = [] ∧ (SL imm' (vS (some ⟨b4, 0, none⟩) ([y19] : List impl_Expr) 1) ([y19] : List impl_Expr))), .x (fun imm' v hx => ∃ (p18 : Option Addr) (c18 : Nat) (cs5 : List Value), v = vS p18 l c18 ∧ hx = [hO impl_Expr (vS p18 l c18) cs5] ∧ (RL imm' cs5 l))] [[], [(0, false)], [], [], [], [(4, false)], [(2, false), (3, false), (5, false), (11, true)], [(6, false)], [(1, false), (7, false), (12, true)]] [hB b3 [vI y16, vI 0, .slice none 0 0, vI 0, vT ([]), .slice none 0 0, vS p10 Kids c10], hB b [vI 0, vI 0, .slice none 0 0, vI 0, vT ([]), .slice none 0 0, .slice none 0 0]] [[hB r01 [vS p11 x1.b c11, vI x1.p]], [hO impl_Expr (vS p10 Kids c10) cs2]] [(6, true), (8, true)] (good_pick [1, 3, 2, 0] rfl (by decide)) ?_ ?_
      · refine Op <| Op <| Op <| Op <| Op <| Op <| Ox ?_ <| Ox ?_ <| Ox ?_ <| On
        · intro imm1 hf le1
          refine Ins_cons ?_
          rintro _ _ ⟨rfl, rfl⟩
          refine Ins_cons ?_
          rintro _ _ ⟨rfl, rfl⟩
          refine Ins_cons ?_
          rintro _ _ ⟨rfl, rfl⟩
          refine Ins_cons ?_
          rintro _ _ rfl
          refine Ins_nil <| R_isw (hB r01 [vS p11 x1.b c11, vI x1.p] :: hB b3 [vI y16, vI 0, .slice none 0 0, vI 0, vT ([]), .slice none 0 0, vS p10 Kids c10] :: hB b [vI 0, vI 0, .slice none 0 0, vI 0, vT ([]), .slice none 0 0, .slice none 0 0] :: hf) [(44, vP r01 0), (45, vI depth), (47, vI (W (levels - 1)))] ?_
          have hle := Imm.le.refl imm1
          replace h27 := RepL.mono (fun _ _ => Rp.mono le1) h27
          replace h28 := h28.mono le1
          refine R_call (hs1 := [hB r01 [vS p11 x1.b c11, vI x1.p]]) (rest := (hB b3 [vI y16, vI 0, .slice none 0 0, vI 0, vT ([]), .slice none 0 0, vS p10 Kids c10] :: hB b [vI 0, vI 0, .slice none 0 0, vI 0, vT ([]), .slice none 0 0, .slice none 0 0] :: hf)) rfl rfl rfl rfl (by kernel_rfl) rfl rfl (ih_spec_l3Value x1 depth (W (levels - 1)) _ hy6 h28) ?_
          rintro imm09 hs2 v2 k2 le9 - ⟨v014, kk6, rfl, rfl, ⟨cs4, rfl, h31⟩, h32⟩ -
          replace h27 := RepL.mono (fun _ _ => Rp.mono le9) h27
          replace hle := hle.trans le9
          obtain ⟨v015, v016, v017, rfl, h33, h34, h35⟩ := impl_Expr_open h31
          obtain ⟨p14, c14, rfl⟩ := h33.form
          obtain ⟨p15, c15, rfl⟩ := h34.form
          obtain ⟨p16, c16, rfl⟩ := h35.form
          obtain ⟨v018, rfl, h36⟩ := spec_l16Rd_open h32
          obtain ⟨p17, c17, rfl⟩ := h36.form
          exact R_out (hx := [hB r01 [vS p17 y20.b c17, vI y20.p]]) rfl hle rfl (out_some rfl) ⟨_, _, _, _, _, _, _, _, rfl, rfl, h33, h34, h35, h36⟩
        · intro imm1 hf le1
          refine Ins_cons ?_
          rintro _ _ ⟨p14, c14, p15, c15, p16, c16, p17, c17, rfl, rfl, h33, h34, h35, h36⟩
          refine Ins_nil <| R_isw (hB b3 [vI y16, vI 0, .slice none 0 0, vI 0, vT ([]), .slice none 0 0, vS p10 Kids c10] :: hB b [vI 0, vI 0, .slice none 0 0, vI 0, vT ([]), .slice none 0 0, .slice none 0 0] :: hf) [(48, vA [vI y19.Kind, vI y19.Num, vS p14 y19.Index.Coefs c14, vI y19.Index.Const, vT y19.Read.Array.l, vS p15 y19.Read.Subs c15, vS p16 y19.Kids c16])] ?_
          have hle := Imm.le.refl imm1
          replace h27 := RepL.mono (fun _ _ => Rp.mono le1) h27
          refine R_buildSlice (cs := [vI y19.Kind, vI y19.Num, vS p14 y19.Index.Coefs c14, vI y19.Index.Const, vT y19.Read.Array.l, vS p15 y19.Read.Subs c15, vS p16 y19.Kids c16]) (Rp.sz impl_Expr) rfl rfl rfl rfl (by kernel_rfl) (by kernel_rfl) ?_
          intro b4 hb4
          have h37 : RL imm1 [vI y19.Kind, vI y19.Num, vS p14 y19.Index.Coefs c14, vI y19.Index.Const, vT y19.Read.Array.l, vS p15 y19.Read.Subs c15, vS p16 y19.Kids c16] ([y19] : List impl_Expr) := ⟨[vI y19.Kind, vI y19.Num, vS p14 y19.Index.Coefs c14, vI y19.Index.Const, vT y19.Read.Array.l, vS p15 y19.Read.Subs c15, vS p16 y19.Kids c16], _, rfl, rfl, (impl_Expr_shut ⟨_, _, _, rfl, h33, h34, h35⟩), rfl⟩
          refine R_freeze 0 rfl ?_
          intro imm010 le10 hl02
          have h38 := SL.of_frozen hl02 le10 h37
          replace h33 := h33.mono le10
          replace h34 := h34.mono le10
          replace h35 := h35.mono le10
          replace h27 := RepL.mono (fun _ _ => Rp.mono le10) h27
          replace hle := hle.trans le10
          exact R_out (hx := []) rfl hle rfl (out_some rfl) ⟨_, rfl, rfl, h38⟩
        · intro imm1 hf le1
          refine Ins_cons ?_
          rintro _ _ ⟨rfl, rfl⟩
          refine Ins_cons ?_
          rintro _ _ ⟨b4, rfl, rfl, h38⟩
          refine Ins_cons ?_
          rintro _ _ rfl
          refine Ins_nil <| R_isw (hO impl_Expr (vS p10 Kids c10) cs2 :: hB b3 [vI y16, vI 0, .slice none 0 0, vI 0, vT ([]), .slice none 0 0, vS p10 Kids c10] :: hB b [vI 0, vI 0, .slice none 0 0, vI 0, vT ([]), .slice none 0 0, .slice none 0 0] :: hf) [(43, vS p10 Kids c10), (49, vS (some ⟨b4, 0, none⟩) ([y19] : List impl_Expr) 1)] ?_
          have hle := Imm.le.refl imm1
          replace h27 := RepL.mono (fun _ _ => Rp.mono le1) h27
          obtain ⟨ccs, k0, k01⟩ := h38
          have h38 : SL imm1 (vS (some ⟨b4, 0, none⟩) ([y19] : List impl_Expr) 1) ([y19] : List impl_Expr) := ⟨_, k0, k01⟩
          refine R_ap 78 7 0 rfl rfl rfl h27 (.inl k0) k01 hy7 ?_
          intro p18 c18 cs5 h39
          exact R_hseq (hs' := (hO impl_Expr (vS p18 l c18) cs5 :: hB b3 [vI y16, vI 0, .slice none 0 0, vI 0, vT ([]), .slice none 0 0, vS p10 Kids c10] :: hB b [vI 0, vI 0, .slice none 0 0, vI 0, vT ([]), .slice none 0 0, .slice none 0 0] :: hf)) rfl <| R_out (hx := [hO impl_Expr (vS p18 l c18) cs5]) rfl hle rfl (out_some rfl) ⟨_, _, _, rfl, rfl, h39⟩
      · intro imm011 le11
        refine Ins_cons ?_
        rintro _ _ ⟨p14, c14, p15, c15, p16, c16, p17, c17, rfl, rfl, h33, h34, h35, h36⟩
        refine Ins_cons ?_
        rintro _ _ ⟨p18, c18, cs5, rfl, rfl, h39⟩
        refine Ins_nil <| R_isw [hO impl_Expr (vS p18 l c18) cs5, hB r01 [vS p17 y20.b c17, vI y20.p], hB b3 [vI y16, vI 0, .slice none 0 0, vI 0, vT ([]), .slice none 0 0, vS p10 Kids c10], hB b [vI 0, vI 0, .slice none 0 0, vI 0, vT ([]), .slice none 0 0, .slice none 0 0]] [(0, vP r01 0), (1, vI depth), (2, vI levels), (6, vP b 0), (7, vP b3 0), (8, vI i), (50, vS p18 l c18)] ?_
        replace h27 := RepL.mono (fun _ _ => Rp.mono le11) h27
        replace hle := hle.trans le11
        exact R_d 10 [] [(51, vP b3 6)] <| R_sb 2 [vI y16, vI 0, .slice none 0 0, vI 0, vT ([]), .slice none 0 0, vS p18 l c18] [hO impl_Expr (vS p18 l c18) cs5, hB r01 [vS p17 y20.b c17, vI y20.p], hB b3 [vI y16, vI 0, .slice none 0 0, vI 0, vT ([]), .slice none 0 0, vS p18 l c18], hB b [vI 0, vI 0, .slice none 0 0, vI 0, vT ([]), .slice none 0 0, .slice none 0 0]] rfl rfl rfl rfl <| R_end rfl <| T_block_normal <| T_seq <| J_region <| R_z [] [(8, vI (W (i + 1)))] <| T_loop <| J_hs (good_pick [0, 2, 1, 3] rfl (by decide)) <| J_w [(0, vP r01 0), (1, vI depth), (2, vI levels), (6, vP b 0), (7, vP b3 0), (8, vI (W (i + 1)))] <| ih_spec_l3Value_l1 depth levels (W (i + 1)) l y20 _ hM hle h39 h36 hg ho hx
    · intro hc4 hM
      exact J_exit <| T_then_exit <| T_then_exit <| T_w [(6, vP b 0), (7, vP b3 0)] <| hx _ _ _ _ _ _ _ _ (pure_some hM).symm hle h27 h28
theorem spec_l3Value_ok : ∀ (r0 : spec_l16Rd) (depth : Int) (levels : Int) r, M.spec_l3Value r0 depth levels = some r → ∀ {imm : Imm} {r01 : Nat} {p : Option Addr} {c : Nat}, (SL imm (vS p r0.b c) r0.b) → Ret Try.prog 85 [vP r01 0, vI depth, vI levels] imm [hB r01 [vS p r0.b c, vI r0.p]] (spec_l3Value_post r01 r) := grp_spec_l3Value.1
def spec_l3Stmt_post (b0 : Nat) (r : impl_Stmt × spec_l16Rd) : Nat → Imm → List HA → Value → Prop := fun kk imm' hs' v =>
  ∃ (v0 : Value) (k0 : List Value), hs' = [.blk b0 ⟨k0⟩] ∧ v = tupV [v0] ∧ (∃ cs, v0 = .agg ⟨cs⟩ ∧ Rp.rep imm' cs r.1) ∧ Rp.rep imm' k0 r.2
def M.spec_l3Stmt (r0 : spec_l16Rd) (depth : Int) : Option (impl_Stmt × spec_l16Rd) := do
 let (y1, y2) ← M.spec_l3Elem r0 depth
 let (y4, y5) ← M.spec_l16Rd_num y2 ([2, 3, 1, 2] : List Int)
 let (y7, y8) ← M.spec_l3Value y5 depth y4
 let y9 ← M.spec_StmtValid (impl_Stmt.mk y1 y7) depth
 if y9 then
  pure ((impl_Stmt.mk y1 y7), y8)
 else
  let y10 ← M.spec_l1Zero
  pure ((impl_Stmt.mk (impl_Access.mk (⟨[65]⟩ : Str) ([y10] : List impl_Affine)) (impl_Expr.mk 1 1 (impl_Affine.mk ([] : List Int) 0) (impl_Access.mk (⟨[]⟩ : Str) ([] : List impl_Affine)) ([] : List impl_Expr))), y8)
theorem spec_l3Stmt_ok : ∀ (r0 : spec_l16Rd) (depth : Int) r, M.spec_l3Stmt r0 depth = some r → ∀ {imm : Imm} {r01 : Nat} {p : Option Addr} {c : Nat}, (SL imm (vS p r0.b c) r0.b) → Ret Try.prog 64 [vP r01 0, vI depth] imm [hB r01 [vS p r0.b c, vI r0.p]] (spec_l3Stmt_post r01 r) := by
 intro r0 depth r hM imm r01 p c h
 unfold M.spec_l3Stmt at hM
 refine ret_of_J (fn := Try.f64) (c := (bodyOf Try.f64)) Try.func64 rfl rfl ?_
 rintro B - -
 have hle : imm.le imm := Imm.le.refl _
 refine J_seq <| J_region <| R_alloc (c := ⟨[vT ([]), .slice none 0 0, vI 0, vI 0, .slice none 0 0, vI 0, vT ([]), .slice none 0 0, .slice none 0 0]⟩) rfl rfl rfl (by kernel_rfl) ?_
 intro b hb
 refine R_end rfl <| T_seq <| J_seq <| J_region <| R_d 2 [] [(6, vP r01 0), (7, vI depth)] <| R_hs (good_pick [1, 0] (hs' := [hB r01 [vS p r0.b c, vI r0.p], hB b [vT ([]), .slice none 0 0, vI 0, vI 0, .slice none 0 0, vI 0, vT ([]), .slice none 0 0, .slice none 0 0]]) rfl (by decide)) ?_
 obtain ⟨⟨y1, y2⟩, hy, hM⟩ := bind_some hM
 refine R_call (hs1 := [hB r01 [vS p r0.b c, vI r0.p]]) (rest := [hB b [vT ([]), .slice none 0 0, vI 0, vI 0, .slice none 0 0, vI 0, vT ([]), .slice none 0 0, .slice none 0 0]]) rfl rfl rfl rfl (by kernel_rfl) rfl rfl (spec_l3Elem_ok r0 depth _ hy h) ?_
 rintro imm0 hs2 v2 k2 le - ⟨v0, kk, rfl, rfl, ⟨cs, rfl, h1⟩, h2⟩ -
 replace hle := hle.trans le
 obtain ⟨v01, rfl, h3⟩ := impl_Access_open h1
 obtain ⟨p1, c1, rfl⟩ := h3.form
 obtain ⟨v02, rfl, h4⟩ := spec_l16Rd_open h2
 obtain ⟨p2, c2, rfl⟩ := h4.form
 refine R_d 6 [] [(9, vP r01 0), (10, vI depth), (11, vP r01 0)] <| R_buildSlice (cs := [vI 2, vI 3, vI 1, vI 2]) (Rp.sz Int) rfl rfl rfl rfl (by kernel_rfl) (by kernel_rfl) ?_
 intro b1 hb1
 have h5 : RL imm0 [vI 2, vI 3, vI 1, vI 2] ([2, 3, 1, 2] : List Int) := ⟨[vI 2], _, rfl, rfl, rfl, ⟨[vI 3], _, rfl, rfl, rfl, ⟨[vI 1], _, rfl, rfl, rfl, ⟨[vI 2], _, rfl, rfl, rfl, rfl⟩⟩⟩⟩
 refine R_freeze 0 rfl ?_
 intro imm01 le1 hl0
 have h6 := SL.of_frozen hl0 le1 h5
 replace h3 := h3.mono le1
 replace h4 := h4.mono le1
 replace hle := hle.trans le1
 obtain ⟨⟨y4, y5⟩, hy1, hM⟩ := bind_some hM
 refine R_call (hs1 := [hB r01 [vS p2 y2.b c2, vI y2.p]]) (rest := [hB b [vT ([]), .slice none 0 0, vI 0, vI 0, .slice none 0 0, vI 0, vT ([]), .slice none 0 0, .slice none 0 0]]) rfl rfl rfl rfl (by kernel_rfl) rfl rfl (spec_l16Rd_num_ok y2 ([2, 3, 1, 2] : List Int) _ hy1 h4 h6) ?_
 rintro imm02 hs2 v2 k2 le2 - ⟨v03, kk1, rfl, rfl, rfl, h8⟩ -
 replace h3 := h3.mono le2
 replace hle := hle.trans le2
 obtain ⟨v04, rfl, h9⟩ := spec_l16Rd_open h8
 obtain ⟨p3, c3, rfl⟩ := h9.form
 obtain ⟨⟨y7, y8⟩, hy2, hM⟩ := bind_some hM
 refine R_call (hs1 := [hB r01 [vS p3 y5.b c3, vI y5.p]]) (rest := [hB b [vT ([]), .slice none 0 0, vI 0, vI 0, .slice none 0 0, vI 0, vT ([]), .slice none 0 0, .slice none 0 0]]) rfl rfl rfl rfl (by kernel_rfl) rfl rfl (spec_l3Value_ok y5 depth y4 _ hy2 h9) ?_
 rintro imm03 hs2 v2 k2 le3 - ⟨v05, kk2, rfl, rfl, ⟨cs1, rfl, h10⟩, h11⟩ -
 replace h3 := h3.mono le3
 replace hle := hle.trans le3
 obtain ⟨v06, v07, v08, rfl, h12, h13, h14⟩ := impl_Expr_open h10
 obtain ⟨p4, c4, rfl⟩ := h12.form
 obtain ⟨p5, c5, rfl⟩ := h13.form
 obtain ⟨p6, c6, rfl⟩ := h14.form
 obtain ⟨v09, rfl, h15⟩ := spec_l16Rd_open h11
 obtain ⟨p7, c7, rfl⟩ := h15.form
 refine R_d 10 [] [(15, vA [vT y1.Array.l, vS p1 y1.Subs c1, vI y7.Kind, vI y7.Num, vS p4 y7.Index.Coefs c4, vI y7.Index.Const, vT y7.Read.Array.l, vS p5 y7.Read.Subs c5, vS p6 y7.Kids c6])] <| R_alloc (c := ⟨[vT ([]), .slice none 0 0, vI 0, vI 0, .slice none 0 0, vI 0, vT ([]), .slice none 0 0, .slice none 0 0]⟩) rfl rfl rfl (by kernel_rfl) ?_
 intro b2 hb2
 refine R_sb 0 [vT y1.Array.l, vS p1 y1.Subs c1, vI y7.Kind, vI y7.Num, vS p4 y7.Index.Coefs c4, vI y7.Index.Const, vT y7.Read.Array.l, vS p5 y7.Read.Subs c5, vS p6 y7.Kids c6] [hB b2 [vT y1.Array.l, vS p1 y1.Subs c1, vI y7.Kind, vI y7.Num, vS p4 y7.Index.Coefs c4, vI y7.Index.Const, vT y7.Read.Array.l, vS p5 y7.Read.Subs c5, vS p6 y7.Kids c6], hB r01 [vS p7 y8.b c7, vI y8.p], hB b [vT ([]), .slice none 0 0, vI 0, vI 0, .slice none 0 0, vI 0, vT ([]), .slice none 0 0, .slice none 0 0]] rfl rfl rfl rfl <| R_end rfl <| T_seq <| J_seq <| J_seq <| J_region <| R_d 2 [0] [(16, vA [vT y1.Array.l, vS p1 y1.Subs c1, vI y7.Kind, vI y7.Num, vS p4 y7.Index.Coefs c4, vI y7.Index.Const, vT y7.Read.Array.l, vS p5 y7.Read.Subs c5, vS p6 y7.Kids c6]), (17, vI depth)] ?_
 obtain ⟨y9, hy3, hM⟩ := bind_some hM
 refine R_call (hs1 := []) (rest := [hB b2 [vT y1.Array.l, vS p1 y1.Subs c1, vI y7.Kind, vI y7.Num, vS p4 y7.Index.Coefs c4, vI y7.Index.Const, vT y7.Read.Array.l, vS p5 y7.Read.Subs c5, vS p6 y7.Kids c6], hB r01 [vS p7 y8.b c7, vI y8.p], hB b [vT ([]), .slice none 0 0, vI 0, vI 0, .slice none 0 0, vI 0, vT ([]), .slice none 0 0, .slice none 0 0]]) rfl rfl rfl rfl (by kernel_rfl) rfl rfl (spec_StmtValid_ok (impl_Stmt.mk y1 y7) depth _ hy3 h3 h12 h13 h14) ?_
 rintro imm04 hs2 v2 k2 le4 - ⟨v010, rfl, rfl, rfl⟩ -
 replace h3 := h3.mono le4
 replace h12 := h12.mono le4
 replace h13 := h13.mono le4
 replace h14 := h14.mono le4
 replace h15 := h15.mono le4
 replace hle := hle.trans le4
 refine R_end rfl <| T_seq <| J_cd hM ?_ ?_
 · intro hc hM
   refine J_seq <| J_region <| R_d 1 [0] [(19, vA [vT y1.Array.l, vS p1 y1.Subs c1, vI y7.Kind, vI y7.Num, vS p4 y7.Index.Coefs c4, vI y7.Index.Const, vT y7.Read.Array.l, vS p5 y7.Read.Subs c5, vS p6 y7.Kids c6])] <| R_sb 2 [vT y1.Array.l, vS p1 y1.Subs c1, vI y7.Kind, vI y7.Num, vS p4 y7.Index.Coefs c4, vI y7.Index.Const, vT y7.Read.Array.l, vS p5 y7.Read.Subs c5, vS p6 y7.Kids c6] [hB b2 [vT y1.Array.l, vS p1 y1.Subs c1, vI y7.Kind, vI y7.Num, vS p4 y7.Index.Coefs c4, vI y7.Index.Const, vT y7.Read.Array.l, vS p5 y7.Read.Subs c5, vS p6 y7.Kids c6], hB r01 [vS p7 y8.b c7, vI y8.p], hB b [vT y1.Array.l, vS p1 y1.Subs c1, vI y7.Kind, vI y7.Num, vS p4 y7.Index.Coefs c4, vI y7.Index.Const, vT y7.Read.Array.l, vS p5 y7.Read.Subs c5, vS p6 y7.Kids c6]] rfl rfl rfl rfl <| R_end rfl <| T_seq <| J_ret <| T_then_ret ?_
   obtain rfl := pure_some hM
   exact T_RS ⟨_, _, (.cell 2 rfl rfl (by kernel_rfl) ResV.nil), (good_pick [1] rfl (by decide)), ⟨_, _, rfl, rfl, ⟨_, rfl, (impl_Stmt_shut ⟨_, _, _, _, rfl, h3, h12, h13, h14⟩)⟩, (spec_l16Rd_shut ⟨_, rfl, h15⟩)⟩⟩
 · intro hc hM
   refine J_skip <| T_seq <| J_seq <| J_region ?_
   obtain ⟨y10, hy4, hM⟩ := bind_some hM
   refine R_call (hs1 := []) (rest := [hB b2 [vT y1.Array.l, vS p1 y1.Subs c1, vI y7.Kind, vI y7.Num, vS p4 y7.Index.Coefs c4, vI y7.Index.Const, vT y7.Read.Array.l, vS p5 y7.Read.Subs c5, vS p6 y7.Kids c6], hB r01 [vS p7 y8.b c7, vI y8.p], hB b [vT ([]), .slice none 0 0, vI 0, vI 0, .slice none 0 0, vI 0, vT ([]), .slice none 0 0, .slice none 0 0]]) rfl rfl rfl rfl (by kernel_rfl) rfl rfl (spec_l1Zero_ok  _ hy4 ) ?_
   rintro imm05 hs2 v2 k2 le5 - ⟨p8, c8, cs2, rfl, rfl, h17⟩ -
   replace h3 := h3.mono le5
   replace h12 := h12.mono le5
   replace h13 := h13.mono le5
   replace h14 := h14.mono le5
   replace h15 := h15.mono le5
   replace hle := hle.trans le5
   refine R_freeze 0 rfl ?_
   intro imm06 le6 hl01
   have h18 := SL.of_frozen hl01 le6 h17
   replace h3 := h3.mono le6
   replace h12 := h12.mono le6
   replace h13 := h13.mono le6
   replace h14 := h14.mono le6
   replace h15 := h15.mono le6
   replace hle := hle.trans le6
   refine R_buildSlice (cs := [vS p8 y10.Coefs c8, vI y10.Const]) (Rp.sz impl_Affine) rfl rfl rfl rfl (by kernel_rfl) (by kernel_rfl) ?_
   intro b3 hb3
   have h19 : RL imm06 [vS p8 y10.Coefs c8, vI y10.Const] ([y10] : List impl_Affine) := ⟨[vS p8 y10.Coefs c8, vI y10.Const], _, rfl, rfl, (impl_Affine_shut ⟨_, rfl, h18⟩), rfl⟩
   refine R_d 5 [] [(24, vA [vT ([65]), vS (some ⟨b3, 0, none⟩) ([y10] : List impl_Affine) 1, vI 1, vI 1, .slice none 0 0, vI 0, vT ([]), .slice none 0 0, .slice none 0 0])] <| R_sb 3 [vT ([65]), vS (some ⟨b3, 0, none⟩) ([y10] : List impl_Affine) 1, vI 1, vI 1, .slice none 0 0, vI 0, vT ([]), .slice none 0 0, .slice none 0 0] [hO impl_Affine (vS (some ⟨b3, 0, none⟩) ([y10] : List impl_Affine) 1) [vS p8 y10.Coefs c8, vI y10.Const], hB b2 [vT y1.Array.l, vS p1 y1.Subs c1, vI y7.Kind, vI y7.Num, vS p4 y7.Index.Coefs c4, vI y7.Index.Const, vT y7.Read.Array.l, vS p5 y7.Read.Subs c5, vS p6 y7.Kids c6], hB r01 [vS p7 y8.b c7, vI y8.p], hB b [vT ([65]), vS (some ⟨b3, 0, none⟩) ([y10] : List impl_Affine) 1, vI 1, vI 1, .slice none 0 0, vI 0, vT ([]), .slice none 0 0, .slice none 0 0]] rfl rfl rfl rfl <| R_end rfl <| T_seq <| J_ret <| T_freeze 0 rfl ?_
   intro imm07 le7 hl02
   have h20 := SL.of_frozen hl02 le7 h19
   replace h3 := h3.mono le7
   replace h12 := h12.mono le7
   replace h13 := h13.mono le7
   replace h14 := h14.mono le7
   replace h15 := h15.mono le7
   replace hle := hle.trans le7
   obtain rfl := pure_some hM
   exact T_RS ⟨_, _, (.cell 2 rfl rfl (by kernel_rfl) ResV.nil), (good_pick [1] rfl (by decide)), ⟨_, _, rfl, rfl, ⟨_, rfl, (impl_Stmt_shut ⟨_, _, _, _, rfl, h20, (SL.nil _), (SL.nil _), (SL.nil _)⟩)⟩, (spec_l16Rd_shut ⟨_, rfl, h15⟩)⟩⟩
def spec_BoxNest_post (r : (List impl_Loop) × Bool) : Nat → Imm → List HA → Value → Prop := fun kk imm' hs' v =>
  ∃ (v0 : Value) (v1 : Value), hs' = [] ∧ v = tupV [v0, v1] ∧ SL imm' v0 r.1 ∧ v1 = .bool r.2
def M.spec_BoxNest_l1 (sizes : (List Int)) (out : List impl_Loop) (i : Int) : Option (Out (List impl_Loop) ((List impl_Loop) × Bool)) := do
 if (decide (i < (sizes.length : Int))) then
  let t28 ← (do
    let x ← idx sizes i
    if (decide (x < 0)) then
     pure true
    else
     let x1 ← idx sizes i
     pure (decide (x1 > 99))
      : Option Bool)
  if t28 then
   pure (.ret (([] : List impl_Loop), false))
  else
   let y ← M.spec_l1Zero
   let x2 ← idx sizes i
   let y1 ← M.spec_l1Const x2
   let out2 ← app 48 out ([(impl_Loop.mk ([y] : List impl_Affine) ([y1] : List impl_Affine))] : List impl_Loop)
   M.spec_BoxNest_l1 sizes out2 (W (i + 1))
 else
  pure (.done out)
 partial_fixpoint
theorem spec_BoxNest_l1_ok (sizes : (List Int)) : ∀ (out : List impl_Loop) (i : Int) (o : Out (List impl_Loop) ((List impl_Loop) × Bool)), M.spec_BoxNest_l1 sizes out i = some o → ∀ {B : Base} {imm0 imm : Imm} {Q : Exit → Act → World → Prop}  {p : Option Addr} {c : Nat} {p1 : Option Addr} {c1 : Nat} {cs : List Value}, imm0.le imm → (SL imm (vS p sizes c) sizes) → (RL imm cs out) → (∀ l a w, ¬ Q (.goto l) a w) → (∀ a w, ¬ Q .outgrown a w) → (∀ (imm' : Imm) (out1 : List impl_Loop) (p2 : Option Addr) (c2 : Nat) (cs1 : List Value), o = (.done out1) → imm0.le imm' → (RL imm' cs1 out1) → T 43 B Q (.exit 0) imm' [hO impl_Loop (vS p2 out1 c2) cs1] [(4, vS p2 out1 c2)]) → (∀ r imm' hs' m', o = (.ret r) → imm0.le imm' → RS Try.prog Try.f65 B (spec_BoxNest_post  r) imm' hs' m' → T 43 B Q .ret imm' hs' m') → J Try.prog 43 B (nav (bodyOf Try.f65) [1, 1, 1, 0, 1, 0]) Q imm [hO impl_Loop (vS p1 out c1) cs] [(0, vS p sizes c), (4, vS p1 out c1), (5, vI i)] := by
 refine M.spec_BoxNest_l1.partial_correctness sizes _ ?_
 intro self ih out i o hM B imm0 imm Q p c p1 c1 cs hle h h3 hg ho hx hr
 refine J_loop hg ho <| J_seq <| J_seq <| J_region <| R_z [] [(14, .bool (decide (i < (sizes.length : Int))))] <| T_seq <| J_cd hM ?_ ?_
 · intro hc1 hM
   refine J_skip <| T_seq <| J_seq <| J_block <| J_seq <| J_seq ?_
   obtain ⟨o0, ho0, hM⟩ := bind_some hM
   refine J_cut (fun imm' hs' m' => ∃ (t28 : Bool), o0 = t28 ∧ imm.le imm' ∧ hs' = [hO impl_Loop (vS p1 out c1) cs] ∧ m' = [(0, vS p sizes c), (4, vS p1 out c1), (5, vI i), (28, .bool t28)]) ?_ ?_
   · have hle0 := hle
     have hle : imm.le imm := Imm.le.refl _
     refine J_region <| R_d 2 [] [(17, vS p sizes c), (18, vI i)] ?_
     obtain ⟨x, hy, hM⟩ := bind_some ho0
     refine R_ix rfl rfl h hy ?_
     intro ad ccs hat hrep
     obtain rfl := hrep
     refine R_la 0 hat [vI x] (vI x) rfl <| R_d 6 [] [(22, .bool (decide (x < 0)))] ?_
     cases hc2 : (decide (x < 0)) with
     | true =>
      have hM0 := if_some_true hc2 hM
      try rw [hc2]
      exact R_z [] [(28, .bool true)] <| T_w [(0, vS p sizes c), (4, vS p1 out c1), (5, vI i), (28, .bool true)] <| T_cut ⟨_, (pure_some hM0).symm, hle, rfl, rfl⟩
     | false =>
      have hM01 := if_some_false hc2 hM
      try rw [hc2]
      refine R_d 8 [] [(23, vS p sizes c), (24, vI i)] ?_
      obtain ⟨x1, hy1, hM⟩ := bind_some hM01
      refine R_ix rfl rfl h hy1 ?_
      intro ad1 ccs1 hat1 hrep1
      obtain rfl := hrep1
      exact R_la 0 hat1 [vI x1] (vI x1) rfl <| R_z [] [(28, .bool (decide (x1 > 99)))] <| T_w [(0, vS p sizes c), (4, vS p1 out c1), (5, vI i), (28, .bool (decide (x1 > 99)))] <| T_cut ⟨_, (pure_some hM).symm, hle, rfl, rfl⟩
   · rintro imm01 hs2 m2 ⟨t28, heq, le1, rfl, rfl⟩
     subst o0
     replace h := h.mono le1
     replace h3 := RepL.mono (fun _ _ => Rp.mono le1) h3
     replace hle := hle.trans le1
     refine T_seq <| J_cd hM ?_ ?_
     · intro hc3 hM
       refine J_seq <| J_region <| R_buildSlice (cs := []) (Rp.sz impl_Loop) rfl rfl rfl rfl (by kernel_rfl) (by kernel_rfl) ?_
       intro b1 hb1
       have h5 : RL imm01 [] ([] : List impl_Loop) := rfl
       refine R_z [] [(2, vS (some ⟨b1, 0, none⟩) ([] : List impl_Loop) 0), (3, .bool false)] <| T_seq <| J_ret <| T_then_ret <| T_block_ret <| T_then_ret <| T_then_ret <| T_freeze 0 rfl ?_
       intro imm02 le2 hl01
       have h6 := SL.of_frozen hl01 le2 h5
       replace h3 := RepL.mono (fun _ _ => Rp.mono le2) h3
       replace hle := hle.trans le2
       exact hr _ _ _ _ (pure_some hM).symm hle ⟨_, _, (.tmp rfl (.tmp rfl ResV.nil)), good_none, ⟨_, _, rfl, rfl, h6, rfl⟩⟩
     · intro hc3 hM
       refine J_skip <| T_seq ?_
       obtain ⟨y, hy2, hM⟩ := bind_some hM
       obtain ⟨x2, hy3, hM⟩ := bind_some hM
       obtain ⟨y1, hy4, hM⟩ := bind_some hM
       obtain ⟨out2, hy5, hM⟩ := bind_some hM
       refine J_any [.p (vS p1 out c1) [], .x (fun imm' v hx => ∃ (p3 : Option Addr) (c3 : Nat) (cs2 : List Value), v = vA [vS p3 y.Coefs c3, vI y.Const] ∧ hx = [hO Int (vS p3 y.Coefs c3) cs2] ∧ (RL imm' cs2 y.Coefs)), .x (fun imm' v hx => ∃ (b2 : Nat), v = vS (some ⟨b2, 0, none⟩) ([y] : List impl_Affine) 1 ∧ hx = [] ∧ (SL imm' (vS (some ⟨b2, 0, none⟩) ([y] : List impl_Affine) 1) ([y] : List impl_Affine))), .p (vS p sizes c) [], .p (vI i) [], .x (fun imm' v hx => ∃ (ad2 : Addr), v = .pointer (some ad2) ∧ hx = [] ∧ (At imm' ad2 [vI x2])), .q (vI x2), .x (fun imm' v hx => ∃ (p4 : Option Addr) (c4 : Nat) (cs3 : List Value), v = vA [vS p4 y1.Coefs c4, vI y1.Const] ∧ hx = [hO Int (vS p4 y1.Coefs c4) cs3] ∧ (RL imm' cs3 y1.Coefs)), .x (fun imm' v hx => ∃ (b3 : Nat), v = vS (some ⟨b3, 0, none⟩) ([y1] : List impl_Affine) 1 ∧ hx = [] ∧ (SL imm' (vS (some ⟨b3, 0, none⟩) ([y1] : List impl_Affine) 1) ([y1] : List impl_Affine))), .x (fun imm' v hx => ∃ (b21 : Nat) (b31 : Nat), v = vA [vS (some ⟨b21, 0, none⟩) ([y] : List impl_Affine) 1, vS (some ⟨b31, 0, none⟩) ([y1] : List impl_Affine) 1] ∧ hx = [] ∧ (SL imm' (vS (some ⟨b21, 0, none⟩) ([y] : List impl_Affine) 1) ([y] : List impl_Affine)) ∧ (SL imm' (vS (some ⟨b31, 0, none⟩) ([y1] : List impl_Affine) 1) ([y1] : List impl_Affine))), .x (fun imm' v hx => ∃ (b4 : Nat), v = vS (some ⟨b4, 0, none⟩) ([(impl_Loop.mk ([y] : List impl_Affine) ([y1] : List impl_Affine))] : List impl_Loop) 1 ∧ hx = [] ∧ (SL imm' (vS (some ⟨b4, 0, none⟩) ([(impl_Loop.mk ([y] : List impl_Affine) ([y1] : List impl_Affine))] : List impl_Loop) 1) ([(impl_Loop.mk ([y] : List impl_Affine) ([y1] : List impl_Affine))] : List impl_Loop))), .x (fun imm' v hx => ∃ (p5 : Option Addr) (c5 : Nat) (cs4 : List Value), v = vS p5 out2 c5 ∧ hx = [hO impl_Loop (vS p5 out2 c5) cs4] ∧ (RL imm' cs4 out2))] [[], [], [(1, true)], [], [], [(3, false), (4, false)], [(5, false)], [(6, false)], [(7, true)], [(2, false), (8, false)], [(9, false)], [(0, false), (10, false), (13, true)]] [] [[hO impl_Loop (vS p1 out c1) cs]] [(11, true)] (good_pick [0] rfl (by decide)) ?_ ?_
       · refine Op <| Ox ?_ <| Ox ?_ <| Op <| Op <| Ox ?_ <| Oq ?_ <| Ox ?_ <| Ox ?_ <| Ox ?_ <| Ox ?_ <| Ox ?_ <| On
         · intro imm1 hf le1
           refine Ins_nil <| R_isw (hf) [] ?_
           have hle := Imm.le.refl imm1
           refine R_call (hs1 := []) (rest := (hf)) rfl rfl rfl rfl (by kernel_rfl) rfl rfl (spec_l1Zero_ok  _ hy2 ) ?_
           rintro imm03 hs2 v2 k2 le3 - ⟨p3, c3, cs2, rfl, rfl, h7⟩ -
           replace hle := hle.trans le3
           exact R_out (hx := [hO Int (vS p3 y.Coefs c3) cs2]) rfl hle rfl (out_some rfl) ⟨_, _, _, rfl, rfl, h7⟩
         · intro imm1 hf le1
           refine Ins_cons ?_
           rintro _ _ ⟨p3, c3, cs2, rfl, rfl, h7⟩
           refine Ins_nil <| R_isw (hO Int (vS p3 y.Coefs c3) cs2 :: hf) [(31, vA [vS p3 y.Coefs c3, vI y.Const])] ?_
           have hle := Imm.le.refl imm1
           refine R_freeze 0 rfl ?_
           intro imm04 le4 hl02
           have h8 := SL.of_frozen hl02 le4 h7
           replace hle := hle.trans le4
           refine R_buildSlice (cs := [vS p3 y.Coefs c3, vI y.Const]) (Rp.sz impl_Affine) rfl rfl rfl rfl (by kernel_rfl) (by kernel_rfl) ?_
           intro b2 hb2
           have h9 : RL imm04 [vS p3 y.Coefs c3, vI y.Const] ([y] : List impl_Affine) := ⟨[vS p3 y.Coefs c3, vI y.Const], _, rfl, rfl, (impl_Affine_shut ⟨_, rfl, h8⟩), rfl⟩
           refine R_freeze 0 rfl ?_
           intro imm05 le5 hl03
           have h10 := SL.of_frozen hl03 le5 h9
           replace h8 := h8.mono le5
           replace hle := hle.trans le5
           exact R_out (hx := []) rfl hle rfl (out_some rfl) ⟨_, rfl, rfl, h10⟩
         · intro imm1 hf le1
           refine Ins_cons ?_
           rintro _ _ ⟨rfl, rfl⟩
           refine Ins_cons ?_
           rintro _ _ ⟨rfl, rfl⟩
           refine Ins_nil <| R_isw (hf) [(33, vS p sizes c), (34, vI i)] ?_
           have hle := Imm.le.refl imm1
           replace h := h.mono le1
           refine R_ix rfl rfl h hy3 ?_
           intro ad2 ccs2 hat2 hrep2
           obtain rfl := hrep2
           exact R_out (hx := []) rfl hle rfl (out_some rfl) ⟨_, rfl, rfl, hat2⟩
         · intro imm1 hf le1
           refine Ins_cons ?_
           rintro _ _ ⟨ad2, rfl, rfl, hat2⟩
           refine Ins_nil <| R_isw (hf) [(35, .pointer (some ad2))] ?_
           have hle := Imm.le.refl imm1
           exact R_la 0 hat2 [vI x2] (vI x2) rfl <| R_out (hx := []) rfl hle rfl (out_some rfl) ⟨rfl, rfl⟩
         · intro imm1 hf le1
           refine Ins_cons ?_
           rintro _ _ ⟨rfl, rfl⟩
           refine Ins_nil <| R_isw (hf) [(36, vI x2)] ?_
           have hle := Imm.le.refl imm1
           refine R_call (hs1 := []) (rest := (hf)) rfl rfl rfl rfl (by kernel_rfl) rfl rfl (spec_l1Const_ok x2 _ hy4 ) ?_
           rintro imm06 hs2 v2 k2 le6 - ⟨p4, c4, cs3, rfl, rfl, h11⟩ -
           replace hle := hle.trans le6
           exact R_out (hx := [hO Int (vS p4 y1.Coefs c4) cs3]) rfl hle rfl (out_some rfl) ⟨_, _, _, rfl, rfl, h11⟩
         · intro imm1 hf le1
           refine Ins_cons ?_
           rintro _ _ ⟨p4, c4, cs3, rfl, rfl, h11⟩
           refine Ins_nil <| R_isw (hO Int (vS p4 y1.Coefs c4) cs3 :: hf) [(37, vA [vS p4 y1.Coefs c4, vI y1.Const])] ?_
           have hle := Imm.le.refl imm1
           refine R_freeze 0 rfl ?_
           intro imm07 le7 hl04
           have h12 := SL.of_frozen hl04 le7 h11
           replace hle := hle.trans le7
           refine R_buildSlice (cs := [vS p4 y1.Coefs c4, vI y1.Const]) (Rp.sz impl_Affine) rfl rfl rfl rfl (by kernel_rfl) (by kernel_rfl) ?_
           intro b3 hb3
           have h13 : RL imm07 [vS p4 y1.Coefs c4, vI y1.Const] ([y1] : List impl_Affine) := ⟨[vS p4 y1.Coefs c4, vI y1.Const], _, rfl, rfl, (impl_Affine_shut ⟨_, rfl, h12⟩), rfl⟩
           refine R_freeze 0 rfl ?_
           intro imm08 le8 hl05
           have h14 := SL.of_frozen hl05 le8 h13
           replace h12 := h12.mono le8
           replace hle := hle.trans le8
           exact R_out (hx := []) rfl hle rfl (out_some rfl) ⟨_, rfl, rfl, h14⟩
         · intro imm1 hf le1
           refine Ins_cons ?_
           rintro _ _ ⟨b2, rfl, rfl, h10⟩
           refine Ins_cons ?_
           rintro _ _ ⟨b3, rfl, rfl, h14⟩
           refine Ins_nil <| R_isw (hf) [(32, vS (some ⟨b2, 0, none⟩) ([y] : List impl_Affine) 1), (38, vS (some ⟨b3, 0, none⟩) ([y1] : List impl_Affine) 1)] ?_
           have hle := Imm.le.refl imm1
           exact R_p 10 [(39, vA [vS (some ⟨b2, 0, none⟩) ([y] : List impl_Affine) 1, vS (some ⟨b3, 0, none⟩) ([y1] : List impl_Affine) 1])] <| R_out (hx := []) rfl hle rfl (out_some rfl) ⟨_, _, rfl, rfl, h10, h14⟩
         · intro imm1 hf le1
           refine Ins_cons ?_
           rintro _ _ ⟨b21, b31, rfl, rfl, h101, h141⟩
           refine Ins_nil <| R_isw (hf) [(39, vA [vS (some ⟨b21, 0, none⟩) ([y] : List impl_Affine) 1, vS (some ⟨b31, 0, none⟩) ([y1] : List impl_Affine) 1])] ?_
           have hle := Imm.le.refl imm1
           refine R_buildSlice (cs := [vS (some ⟨b21, 0, none⟩) ([y] : List impl_Affine) 1, vS (some ⟨b31, 0, none⟩) ([y1] : List impl_Affine) 1]) (Rp.sz impl_Loop) rfl rfl rfl rfl (by kernel_rfl) (by kernel_rfl) ?_
           intro b4 hb4
           have h15 : RL imm1 [vS (some ⟨b21, 0, none⟩) ([y] : List impl_Affine) 1, vS (some ⟨b31, 0, none⟩) ([y1] : List impl_Affine) 1] ([(impl_Loop.mk ([y] : List impl_Affine) ([y1] : List impl_Affine))] : List impl_Loop) := ⟨[vS (some ⟨b21, 0, none⟩) ([y] : List impl_Affine) 1, vS (some ⟨b31, 0, none⟩) ([y1] : List impl_Affine) 1], _, rfl, rfl, (impl_Loop_shut ⟨_, _, rfl, h101, h141⟩), rfl⟩
           refine R_freeze 0 rfl ?_
           intro imm09 le9 hl06
           have h16 := SL.of_frozen hl06 le9 h15
           replace h101 := h101.mono le9
           replace h141 := h141.mono le9
           replace hle := hle.trans le9
           exact R_out (hx := []) rfl hle rfl (out_some rfl) ⟨_, rfl, rfl, h16⟩
         · intro imm1 hf le1
           refine Ins_cons ?_
           rintro _ _ ⟨rfl, rfl⟩
           refine Ins_cons ?_
           rintro _ _ ⟨b4, rfl, rfl, h16⟩
           refine Ins_cons ?_
           rintro _ _ rfl
           refine Ins_nil <| R_isw (hO impl_Loop (vS p1 out c1) cs :: hf) [(30, vS p1 out c1), (40, vS (some ⟨b4, 0, none⟩) ([(impl_Loop.mk ([y] : List impl_Affine) ([y1] : List impl_Affine))] : List impl_Loop) 1)] ?_
           have hle := Imm.le.refl imm1
           replace h3 := RepL.mono (fun _ _ => Rp.mono le1) h3
           obtain ⟨ccs3, k0, k01⟩ := h16
           have h16 : SL imm1 (vS (some ⟨b4, 0, none⟩) ([(impl_Loop.mk ([y] : List impl_Affine) ([y1] : List impl_Affine))] : List impl_Loop) 1) ([(impl_Loop.mk ([y] : List impl_Affine) ([y1] : List impl_Affine))] : List impl_Loop) := ⟨_, k0, k01⟩
           refine R_ap 101 2 0 rfl rfl rfl h3 (.inl k0) k01 hy5 ?_
           intro p5 c5 cs4 h17
           exact R_hseq (hs' := (hO impl_Loop (vS p5 out2 c5) cs4 :: hf)) rfl <| R_out (hx := [hO impl_Loop (vS p5 out2 c5) cs4]) rfl hle rfl (out_some rfl) ⟨_, _, _, rfl, rfl, h17⟩
       · intro imm010 le10
         refine Ins_cons ?_
         rintro _ _ ⟨p5, c5, cs4, rfl, rfl, h17⟩
         refine Ins_nil <| R_isw [hO impl_Loop (vS p5 out2 c5) cs4] [(0, vS p sizes c), (5, vI i), (41, vS p5 out2 c5)] ?_
         replace h := h.mono le10
         replace hle := hle.trans le10
         exact R_z [] [(4, vS p5 out2 c5)] <| T_block_normal <| T_seq <| J_region <| R_z [] [(5, vI (W (i + 1)))] <| T_loop <| J_w [(0, vS p sizes c), (4, vS p5 out2 c5), (5, vI (W (i + 1)))] <| ih out2 (W (i + 1)) _ hM hle h h17 hg ho hx hr
 · intro hc1 hM
   exact J_exit <| T_then_exit <| T_then_exit <| T_w [(4, vS p1 out c1)] <| hx _ _ _ _ _ (pure_some hM).symm hle h3
def M.spec_BoxNest (sizes : (List Int)) : Option ((List impl_Loop) × Bool) := do
 if (decide ((sizes.length : Int) > 4)) then
  pure (([] : List impl_Loop), false)
 else
  match ← M.spec_BoxNest_l1 sizes ([] : List impl_Loop) 0 with
  | .ret r0 => pure r0
  | .done out1 =>
   pure (out1, true)
theorem spec_BoxNest_ok : ∀ (sizes : (List Int)) r, M.spec_BoxNest sizes = some r → ∀ {imm : Imm} {p : Option Addr} {c : Nat}, (SL imm (vS p sizes c) sizes) → Ret Try.prog 65 [vS p sizes c] imm [] (spec_BoxNest_post  r) := by
 intro sizes r hM imm p c h
 unfold M.spec_BoxNest at hM
 refine ret_of_J (fn := Try.f65) (c := (bodyOf Try.f65)) Try.func65 rfl rfl ?_
 rintro B - -
 have hle : imm.le imm := Imm.le.refl _
 refine J_seq <| J_region <| R_z [] [] <| T_seq <| J_seq <| J_region <| R_buildSlice (cs := []) (Rp.sz impl_Loop) rfl rfl rfl rfl (by kernel_rfl) (by kernel_rfl) ?_
 intro b hb
 have h1 : RL imm [] ([] : List impl_Loop) := rfl
 refine R_z [] [(4, vS (some ⟨b, 0, none⟩) ([] : List impl_Loop) 0)] <| T_seq <| J_seq <| J_seq <| J_region <| R_z [] [(9, .bool (decide ((sizes.length : Int) > 4)))] <| T_seq <| J_cd hM ?_ ?_
 · intro hc hM
   refine J_seq <| J_region <| R_z [] [(2, vS (some ⟨b, 0, none⟩) ([] : List impl_Loop) 0), (3, .bool false)] <| T_seq <| J_ret <| T_then_ret <| T_freeze 0 rfl ?_
   intro imm0 le hl0
   have h2 := SL.of_frozen hl0 le h1
   replace hle := hle.trans le
   obtain rfl := pure_some hM
   exact T_RS ⟨_, _, (.tmp rfl (.tmp rfl ResV.nil)), good_none, ⟨_, _, rfl, rfl, h2, rfl⟩⟩
 · intro hc hM
   refine J_skip <| T_seq <| J_seq <| J_seq <| J_region <| R_z [] [(5, vI 0)] <| T_seq <| J_block <| J_w [(0, vS p sizes c), (4, vS (some ⟨b, 0, none⟩) ([] : List impl_Loop) 0), (5, vI 0)] ?_
   obtain ⟨o01, ho01, hM⟩ := bind_some hM
   refine spec_BoxNest_l1_ok sizes ([] : List impl_Loop) 0 o01 ho01 (Imm.le.refl _) h h1 (fun _ _ _ h => h) (fun _ _ h => h) ?_ ?_
   · intro imm011 out1 p2 c2 cs1 heq1 le11 h4
     subst o01
     replace hle := hle.trans le11
     refine T_block_here <| T_seq <| J_seq <| J_region <| R_z [] [(2, vS p2 out1 c2), (3, .bool true)] <| T_seq <| J_ret <| T_freeze 0 rfl ?_
     intro imm012 le12 hl07
     have h18 := SL.of_frozen hl07 le12 h4
     replace hle := hle.trans le12
     obtain rfl := pure_some hM
     exact T_RS ⟨_, _, (.tmp rfl (.tmp rfl ResV.nil)), good_none, ⟨_, _, rfl, rfl, h18, rfl⟩⟩
   · intro r0 imm9 hs9 m9 heq9 le9 hrs9
     subst heq9
     refine T_block_ret <| T_then_ret ?_
     obtain rfl := pure_some hM
     exact T_RS hrs9
end Go.LN
