/- Helper of the proof (see the last text). -/
import Derived.Test.YtbgdegfnaofkfaaGB1
namespace Go.LN
set_option linter.unusedVariables false
set_option linter.unusedSimpArgs false
open Go.Proofs
set_option maxRecDepth 20000
def spec_l4Instances_post (r : (List impl_Instance)) : Nat → Imm → List HA → Value → Prop := fun kk imm' hs' v =>
  ∃ (v0 : Value), hs' = [] ∧ v = tupV [v0] ∧ SL imm' v0 r
def M.spec_l4Instances_l3 (p : impl_Program) (i : Int) (y : (List (List Int))) (k0 : Int) (out4 : List impl_Instance) (s : Int) : Option (List impl_Instance) := do
 let x1 ← idx p.Parts i
 if (decide (s < (x1.Body.length : Int))) then
  let x2 ← idx y k0
  let l ← app 8 ([] : List Int) x2
  let out6 ← app 40 out4 ([(impl_Instance.mk i s l)] : List impl_Instance)
  M.spec_l4Instances_l3 p i y k0 out6 (W (s + 1))
 else
  pure (id out4)
 partial_fixpoint
theorem spec_l4Instances_l3_ok (p : impl_Program) (i : Int) (y : (List (List Int))) (k0 : Int) : ∀ (out4 : List impl_Instance) (s : Int) (o : List impl_Instance), M.spec_l4Instances_l3 p i y k0 out4 s = some o → ∀ {B : Base} {imm0 imm : Imm} {Q : Exit → Act → World → Prop}  {p1 : Option Addr} {c : Nat} {p2 : Option Addr} {c1 : Nat} {b : Nat} {p7 : Option Addr} {c6 : Nat} {cs2 : List Value} {p10 : Option Addr} {c9 : Nat} {cs5 : List Value}, imm0.le imm → (RL imm cs2 y) → (SL imm (vS p1 p.Arrays c) p.Arrays) → (SL imm (vS p2 p.Parts c1) p.Parts) → (RL imm cs5 out4) → (∀ l a w, ¬ Q (.goto l) a w) → (∀ a w, ¬ Q .outgrown a w) → (∀ (imm' : Imm) (out5 : List impl_Instance) (p11 : Option Addr) (c10 : Nat) (cs6 : List Value), o = out5 → imm0.le imm' → (RL imm' cs6 out5) → T 54 B Q (.exit 4) imm' [hO (List Int) (vS p7 y c6) cs2, hO impl_Instance (vS p11 out5 c10) cs6, hB b [vS p1 p.Arrays c, vS p2 p.Parts c1]] [(1, vP b 0), (3, vS p11 out5 c10), (4, vI i), (5, vS p7 y c6), (6, vI k0)]) → J Try.prog 54 B (nav (bodyOf Try.f42) [1, 1, 0, 1, 0, 0, 1, 0, 0, 1, 1, 0, 0, 1, 0, 0, 1, 0]) Q imm [hO (List Int) (vS p7 y c6) cs2, hO impl_Instance (vS p10 out4 c9) cs5, hB b [vS p1 p.Arrays c, vS p2 p.Parts c1]] [(1, vP b 0), (3, vS p10 out4 c9), (4, vI i), (5, vS p7 y c6), (6, vI k0), (7, vI s)] := by
 refine M.spec_l4Instances_l3.partial_correctness p i y k0 _ ?_
 intro self ih out4 s o hM B imm0 imm Q p1 c p2 c1 b p7 c6 cs2 p10 c9 cs5 hle h8 h h1 h11 hg ho hx
 refine J_loop hg ho <| J_seq <| J_seq <| J_region <| R_d 4 [2] [(30, vI s), (32, vS p2 p.Parts c1), (33, vI i)] ?_
 obtain ⟨x1, hy2, hM⟩ := bind_some hM
 refine R_ix rfl rfl h1 hy2 ?_
 intro ad1 ccs1 hat1 hrep1
 obtain ⟨v02, v03, rfl, h13, h14⟩ := impl_Part_open hrep1
 obtain ⟨p12, c11, rfl⟩ := h13.form
 obtain ⟨p13, c12, rfl⟩ := h14.form
 refine R_d 6 [] [(35, .pointer (some (ad1.add 1)))] <| R_la 1 hat1 [vS p13 x1.Body c12] (vS p13 x1.Body c12) rfl <| R_z [] [(38, .bool (decide (s < (x1.Body.length : Int))))] <| T_seq <| J_cd hM ?_ ?_
 · intro hc2 hM
   refine J_skip <| T_seq <| J_seq <| J_block <| J_region <| R_d 3 [] [(41, vS p10 out4 c9), (42, vI i), (43, vI s)] <| R_buildSlice (cs := []) (Rp.sz Int) rfl rfl rfl rfl (by kernel_rfl) (by kernel_rfl) ?_
   intro b3 hb3
   have h15 : RL imm [] ([] : List Int) := rfl
   refine R_d 6 [] [(45, vS p7 y c6), (46, vI k0)] ?_
   obtain ⟨x2, hy3, hM⟩ := bind_some hM
   refine R_ixo 1 rfl rfl rfl h8 hy3 ?_
   intro ad2 ccs2 hat2 hcc hrep2
   obtain ⟨v04, rfl, h16⟩ := hrep2
   obtain ⟨p14, c13, rfl⟩ := h16.form
   refine R_lo 1 0 hat2 hcc [vS p14 x2 c13] (vS p14 x2 c13) rfl rfl ?_
   obtain ⟨ccs3, k01, k02⟩ := h16
   have h16 : SL imm (vS p14 x2 c13) x2 := ⟨_, k01, k02⟩
   obtain ⟨l, hy4, hM⟩ := bind_some hM
   refine R_ap 3 1 0 rfl rfl rfl h15 (.inl k01) k02 hy4 ?_
   intro p15 c14 cs7 h17
   refine R_hs (good_pick [0, 1, 2, 3] (hs' := [hO Int (vS p15 l c14) cs7, hO (List Int) (vS p7 y c6) cs2, hO impl_Instance (vS p10 out4 c9) cs5, hB b [vS p1 p.Arrays c, vS p2 p.Parts c1]]) rfl (by decide)) <| R_d 10 [] [(50, vA [vI i, vI s, vS p15 l c14])] <| R_freeze 0 rfl ?_
   intro imm01 le1 hl0
   have h18 := SL.of_frozen hl0 le1 h17
   replace h8 := RepL.mono (fun _ _ => Rp.mono le1) h8
   replace h11 := RepL.mono (fun _ _ => Rp.mono le1) h11
   replace h := h.mono le1
   replace h1 := h1.mono le1
   replace hle := hle.trans le1
   refine R_buildSlice (cs := [vI i, vI s, vS p15 l c14]) (Rp.sz impl_Instance) rfl rfl rfl rfl (by kernel_rfl) (by kernel_rfl) ?_
   intro b4 hb4
   have h19 : RL imm01 [vI i, vI s, vS p15 l c14] ([(impl_Instance.mk i s l)] : List impl_Instance) := ⟨[vI i, vI s, vS p15 l c14], _, rfl, rfl, (impl_Instance_shut ⟨_, rfl, h18⟩), rfl⟩
   obtain ⟨out6, hy5, hM⟩ := bind_some hM
   refine R_ap 82 3 2 rfl rfl rfl h11 (.inr ⟨0, rfl⟩) h19 hy5 ?_
   intro p16 c15 cs8 h20
   exact R_hs (good_pick [1, 2, 3] (hs' := [hO (List Int) (vS p7 y c6) cs2, hO impl_Instance (vS p16 out6 c15) cs8, hB b [vS p1 p.Arrays c, vS p2 p.Parts c1]]) rfl (by decide)) <| R_z [] [(3, vS p16 out6 c15)] <| T_block_normal <| T_seq <| J_region <| R_z [] [(7, vI (W (s + 1)))] <| T_loop <| J_w [(1, vP b 0), (3, vS p16 out6 c15), (4, vI i), (5, vS p7 y c6), (6, vI k0), (7, vI (W (s + 1)))] <| ih out6 (W (s + 1)) _ hM hle h8 h h1 h20 hg ho hx
 · intro hc2 hM
   exact J_exit <| T_then_exit <| T_then_exit <| T_w [(1, vP b 0), (3, vS p10 out4 c9), (4, vI i), (5, vS p7 y c6), (6, vI k0)] <| hx _ _ _ _ _ (pure_some hM).symm hle h11
def M.spec_l4Instances_l2 (p : impl_Program) (i : Int) (y : (List (List Int))) (out2 : List impl_Instance) (k0 : Int) : Option (List impl_Instance) := do
 if (decide (k0 < (y.length : Int))) then
  let out5 ← M.spec_l4Instances_l3 p i y k0 out2 0
  M.spec_l4Instances_l2 p i y out5 (W (k0 + 1))
 else
  pure (id out2)
 partial_fixpoint
theorem spec_l4Instances_l2_ok (p : impl_Program) (i : Int) (y : (List (List Int))) : ∀ (out2 : List impl_Instance) (k0 : Int) (o : List impl_Instance), M.spec_l4Instances_l2 p i y out2 k0 = some o → ∀ {B : Base} {imm0 imm : Imm} {Q : Exit → Act → World → Prop}  {p1 : Option Addr} {c : Nat} {p2 : Option Addr} {c1 : Nat} {b : Nat} {p7 : Option Addr} {c6 : Nat} {cs2 : List Value} {p8 : Option Addr} {c7 : Nat} {cs3 : List Value}, imm0.le imm → (RL imm cs2 y) → (SL imm (vS p1 p.Arrays c) p.Arrays) → (SL imm (vS p2 p.Parts c1) p.Parts) → (RL imm cs3 out2) → (∀ l a w, ¬ Q (.goto l) a w) → (∀ a w, ¬ Q .outgrown a w) → (∀ (imm' : Imm) (out3 : List impl_Instance) (p9 : Option Addr) (c8 : Nat) (cs4 : List Value), o = out3 → imm0.le imm' → (RL imm' cs4 out3) → T 54 B Q (.exit 2) imm' [hO impl_Instance (vS p9 out3 c8) cs4, hB b [vS p1 p.Arrays c, vS p2 p.Parts c1]] [(1, vP b 0), (3, vS p9 out3 c8), (4, vI i)]) → J Try.prog 54 B (nav (bodyOf Try.f42) [1, 1, 0, 1, 0, 0, 1, 0, 0, 1, 1, 0]) Q imm [hO (List Int) (vS p7 y c6) cs2, hO impl_Instance (vS p8 out2 c7) cs3, hB b [vS p1 p.Arrays c, vS p2 p.Parts c1]] [(1, vP b 0), (3, vS p8 out2 c7), (4, vI i), (5, vS p7 y c6), (6, vI k0)] := by
 refine M.spec_l4Instances_l2.partial_correctness p i y _ ?_
 intro self ih out2 k0 o hM B imm0 imm Q p1 c p2 c1 b p7 c6 cs2 p8 c7 cs3 hle h8 h h1 h9 hg ho hx
 refine J_loop hg ho <| J_seq <| J_seq <| J_region <| R_z [] [(27, .bool (decide (k0 < (y.length : Int))))] <| T_seq <| J_cd hM ?_ ?_
 · intro hc1 hM
   refine J_skip <| T_seq <| J_seq <| J_block <| J_seq <| J_region <| R_z [] [(7, vI 0)] <| T_seq <| J_block <| J_w [(1, vP b 0), (3, vS p8 out2 c7), (4, vI i), (5, vS p7 y c6), (6, vI k0), (7, vI 0)] ?_
   obtain ⟨o0, ho0, hM⟩ := bind_some hM
   refine spec_l4Instances_l3_ok p i y k0 out2 0 o0 ho0 (Imm.le.refl _) h8 h h1 h9 (fun _ _ _ h => hg _ _ _ h) (fun _ _ h => ho _ _ h) ?_
   intro imm02 out5 p11 c10 cs6 heq le2 h12
   subst o0
   replace h8 := RepL.mono (fun _ _ => Rp.mono le2) h8
   replace h := h.mono le2
   replace h1 := h1.mono le2
   replace hle := hle.trans le2
   exact T_block_here <| T_block_normal <| T_seq <| J_region <| R_z [] [(6, vI (W (k0 + 1)))] <| T_loop <| J_w [(1, vP b 0), (3, vS p11 out5 c10), (4, vI i), (5, vS p7 y c6), (6, vI (W (k0 + 1)))] <| ih out5 (W (k0 + 1)) _ hM hle h8 h h1 h12 hg ho hx
 · intro hc1 hM
   exact J_exit <| T_then_exit <| T_then_exit <| T_hs (good_pick [1, 2] rfl (by decide)) <| T_w [(1, vP b 0), (3, vS p8 out2 c7), (4, vI i)] <| hx _ _ _ _ _ (pure_some hM).symm hle h9
def M.spec_l4Instances_l1 (p : impl_Program) (out : List impl_Instance) (i : Int) : Option (List impl_Instance) := do
 if (decide (i < (p.Parts.length : Int))) then
  let x ← idx p.Parts i
  let y ← M.spec_l2Points ([] : List (List Int)) x.Nest ([] : List Int)
  let out3 ← M.spec_l4Instances_l2 p i y out 0
  M.spec_l4Instances_l1 p out3 (W (i + 1))
 else
  pure (id out)
 partial_fixpoint
theorem spec_l4Instances_l1_ok (p : impl_Program) : ∀ (out : List impl_Instance) (i : Int) (o : List impl_Instance), M.spec_l4Instances_l1 p out i = some o → ∀ {B : Base} {imm0 imm : Imm} {Q : Exit → Act → World → Prop}  {p1 : Option Addr} {c : Nat} {p2 : Option Addr} {c1 : Nat} {b : Nat} {p3 : Option Addr} {c2 : Nat} {cs : List Value}, imm0.le imm → (SL imm (vS p1 p.Arrays c) p.Arrays) → (SL imm (vS p2 p.Parts c1) p.Parts) → (RL imm cs out) → (∀ l a w, ¬ Q (.goto l) a w) → (∀ a w, ¬ Q .outgrown a w) → (∀ (imm' : Imm) (out1 : List impl_Instance) (p4 : Option Addr) (c3 : Nat) (cs1 : List Value), o = out1 → imm0.le imm' → (RL imm' cs1 out1) → T 54 B Q (.exit 0) imm' [hO impl_Instance (vS p4 out1 c3) cs1] [(3, vS p4 out1 c3)]) → J Try.prog 54 B (nav (bodyOf Try.f42) [1, 1, 0, 1, 0]) Q imm [hO impl_Instance (vS p3 out c2) cs, hB b [vS p1 p.Arrays c, vS p2 p.Parts c1]] [(1, vP b 0), (3, vS p3 out c2), (4, vI i)] := by
 refine M.spec_l4Instances_l1.partial_correctness p _ ?_
 intro self ih out i o hM B imm0 imm Q p1 c p2 c1 b p3 c2 cs hle h h1 h3 hg ho hx
 refine J_loop hg ho <| J_seq <| J_seq <| J_region <| R_z [1] [(13, .bool (decide (i < (p.Parts.length : Int))))] <| T_seq <| J_cd hM ?_ ?_
 · intro hc hM
   refine J_skip <| T_seq <| J_seq <| J_block <| J_seq <| J_region <| R_buildSlice (cs := []) (Rp.sz (List Int)) rfl rfl rfl rfl (by kernel_rfl) (by kernel_rfl) ?_
   intro b2 hb2
   have h5 : RL imm [] ([] : List (List Int)) := rfl
   refine R_d 4 [2] [(18, vS p2 p.Parts c1), (19, vI i)] ?_
   obtain ⟨x, hy, hM⟩ := bind_some hM
   refine R_ix rfl rfl h1 hy ?_
   intro ad ccs hat hrep
   obtain ⟨v0, v01, rfl, h6, h7⟩ := impl_Part_open hrep
   obtain ⟨p5, c4, rfl⟩ := h6.form
   obtain ⟨p6, c5, rfl⟩ := h7.form
   refine R_d 6 [] [(21, .pointer (some ad))] <| R_la 0 hat [vS p5 x.Nest c4] (vS p5 x.Nest c4) rfl ?_
   obtain ⟨y, hy1, hM⟩ := bind_some hM
   refine R_call (hs1 := [hO (List Int) (vS (some ⟨b2, 0, none⟩) ([] : List (List Int)) 0) []]) (rest := [hO impl_Instance (vS p3 out c2) cs, hB b [vS p1 p.Arrays c, vS p2 p.Parts c1]]) rfl rfl rfl rfl (by kernel_rfl) rfl rfl (spec_l2Points_ok ([] : List (List Int)) x.Nest ([] : List Int) _ hy1 h5 h6 (SL.nil _)) ?_
   rintro imm0 hs2 v2 k2 le - ⟨p7, c6, cs2, rfl, rfl, h8⟩ -
   replace h3 := RepL.mono (fun _ _ => Rp.mono le) h3
   replace h := h.mono le
   replace h1 := h1.mono le
   replace hle := hle.trans le
   refine R_z [] [(5, vS p7 y c6)] <| T_seq <| J_seq <| J_region <| R_z [] [(6, vI 0)] <| T_seq <| J_block <| J_w [(1, vP b 0), (3, vS p3 out c2), (4, vI i), (5, vS p7 y c6), (6, vI 0)] ?_
   obtain ⟨o01, ho01, hM⟩ := bind_some hM
   refine spec_l4Instances_l2_ok p i y out 0 o01 ho01 (Imm.le.refl _) h8 h h1 h3 (fun _ _ _ h => hg _ _ _ h) (fun _ _ h => ho _ _ h) ?_
   intro imm03 out3 p9 c8 cs4 heq1 le3 h10
   subst o01
   replace h := h.mono le3
   replace h1 := h1.mono le3
   replace hle := hle.trans le3
   exact T_block_here <| T_block_normal <| T_seq <| J_region <| R_z [] [(4, vI (W (i + 1)))] <| T_loop <| J_w [(1, vP b 0), (3, vS p9 out3 c8), (4, vI (W (i + 1)))] <| ih out3 (W (i + 1)) _ hM hle h h1 h10 hg ho hx
 · intro hc hM
   exact J_exit <| T_then_exit <| T_then_exit <| T_hs (good_pick [0] rfl (by decide)) <| T_w [(3, vS p3 out c2)] <| hx _ _ _ _ _ (pure_some hM).symm hle h3
def M.spec_l4Instances (p : impl_Program) : Option ((List impl_Instance)) := do
 let out1 ← M.spec_l4Instances_l1 p ([] : List impl_Instance) 0
 pure (id out1)
theorem spec_l4Instances_ok : ∀ (p : impl_Program) r, M.spec_l4Instances p = some r → ∀ {imm : Imm} {p1 : Option Addr} {c : Nat} {p2 : Option Addr} {c1 : Nat}, (SL imm (vS p1 p.Arrays c) p.Arrays) → (SL imm (vS p2 p.Parts c1) p.Parts) → Ret Try.prog 42 [vA [vS p1 p.Arrays c, vS p2 p.Parts c1]] imm [] (spec_l4Instances_post  r) := by
 intro p r hM imm p1 c p2 c1 h h1
 unfold M.spec_l4Instances at hM
 refine ret_of_J (fn := Try.f42) (c := (bodyOf Try.f42)) Try.func42 rfl rfl ?_
 rintro B - -
 have hle : imm.le imm := Imm.le.refl _
 refine J_seq <| J_region <| R_box (c := ⟨[vS p1 p.Arrays c, vS p2 p.Parts c1]⟩) rfl rfl rfl rfl rfl ?_
 intro b hb
 refine R_z [] [] <| T_seq <| J_seq <| J_region <| R_buildSlice (cs := []) (Rp.sz impl_Instance) rfl rfl rfl rfl (by kernel_rfl) (by kernel_rfl) ?_
 intro b1 hb1
 have h2 : RL imm [] ([] : List impl_Instance) := rfl
 refine R_z [] [(3, vS (some ⟨b1, 0, none⟩) ([] : List impl_Instance) 0)] <| T_seq <| J_seq <| J_seq <| J_region <| R_z [] [(4, vI 0)] <| T_seq <| J_block <| J_w [(1, vP b 0), (3, vS (some ⟨b1, 0, none⟩) ([] : List impl_Instance) 0), (4, vI 0)] ?_
 obtain ⟨o02, ho02, hM⟩ := bind_some hM
 refine spec_l4Instances_l1_ok p ([] : List impl_Instance) 0 o02 ho02 (Imm.le.refl _) h h1 h2 (fun _ _ _ h => h) (fun _ _ h => h) ?_
 intro imm04 out1 p4 c3 cs1 heq2 le4 h4
 subst o02
 replace hle := hle.trans le4
 refine T_block_here <| T_seq <| J_seq <| J_region <| R_z [] [(2, vS p4 out1 c3)] <| T_seq <| J_ret <| T_freeze 0 rfl ?_
 intro imm05 le5 hl01
 have h21 := SL.of_frozen hl01 le5 h4
 replace hle := hle.trans le5
 obtain rfl := pure_some hM
 exact T_RS ⟨_, _, (.tmp rfl ResV.nil), good_none, ⟨_, rfl, rfl, h21⟩⟩
def spec_l6Uses_post (r : (List spec_l6Use)) : Nat → Imm → List HA → Value → Prop := fun kk imm' hs' v =>
  ∃ (v0 : Value), hs' = [] ∧ v = tupV [v0] ∧ SL imm' v0 r
def M.spec_l6Uses_l1 (p : impl_Program) (y : (List impl_Instance)) (out : List spec_l6Use) (i : Int) : Option (List spec_l6Use) := do
 if (decide (i < (y.length : Int))) then
  let x ← idx y i
  let x1 ← idx p.Parts x.Part
  let x2 ← idx y i
  let x3 ← idx x1.Body x2.Stmt
  let x4 ← idx y i
  let (y2, y3, y4) ← M.spec_l4Cells p.Arrays x3 x4.Point
  let out2 ← app 32 out ([(spec_l6Use.mk y2 y3)] : List spec_l6Use)
  M.spec_l6Uses_l1 p y out2 (W (i + 1))
 else
  pure (id out)
 partial_fixpoint
theorem spec_l6Uses_l1_ok (p : impl_Program) (y : (List impl_Instance)) : ∀ (out : List spec_l6Use) (i : Int) (o : List spec_l6Use), M.spec_l6Uses_l1 p y out i = some o → ∀ {B : Base} {imm0 imm : Imm} {Q : Exit → Act → World → Prop}  {p1 : Option Addr} {c : Nat} {p2 : Option Addr} {c1 : Nat} {b : Nat} {p3 : Option Addr} {c2 : Nat} {p4 : Option Addr} {c3 : Nat} {cs : List Value}, imm0.le imm → (SL imm (vS p3 y c2) y) → (SL imm (vS p1 p.Arrays c) p.Arrays) → (SL imm (vS p2 p.Parts c1) p.Parts) → (RL imm cs out) → (∀ l a w, ¬ Q (.goto l) a w) → (∀ a w, ¬ Q .outgrown a w) → (∀ (imm' : Imm) (out1 : List spec_l6Use) (p5 : Option Addr) (c4 : Nat) (cs1 : List Value), o = out1 → imm0.le imm' → (RL imm' cs1 out1) → T 54 B Q (.exit 0) imm' [hO spec_l6Use (vS p5 out1 c4) cs1] [(3, vS p5 out1 c4)]) → J Try.prog 54 B (nav (bodyOf Try.f36) [1, 1, 1, 0, 1, 0]) Q imm [hO spec_l6Use (vS p4 out c3) cs, hB b [vS p1 p.Arrays c, vS p2 p.Parts c1]] [(1, vP b 0), (3, vS p4 out c3), (4, vS p3 y c2), (5, vI i)] := by
 refine M.spec_l6Uses_l1.partial_correctness p y _ ?_
 intro self ih out i o hM B imm0 imm Q p1 c p2 c1 b p3 c2 p4 c3 cs hle h3 h h1 h4 hg ho hx
 refine J_loop hg ho <| J_seq <| J_seq <| J_region <| R_z [] [(15, .bool (decide (i < (y.length : Int))))] <| T_seq <| J_cd hM ?_ ?_
 · intro hc hM
   refine J_skip <| T_seq <| J_seq <| J_block <| J_seq ?_
   obtain ⟨x, hy1, hM⟩ := bind_some hM
   obtain ⟨x1, hy2, hM⟩ := bind_some hM
   obtain ⟨x2, hy3, hM⟩ := bind_some hM
   obtain ⟨x3, hy4, hM⟩ := bind_some hM
   obtain ⟨x4, hy5, hM⟩ := bind_some hM
   obtain ⟨⟨y2, y3, y4⟩, hy6, hM⟩ := bind_some hM
   refine J_any [.p (vP b 0) [], .p (vS p1 p.Arrays c) [1], .p (vP b 1) [], .p (vS p2 p.Parts c1) [1], .p (vS p3 y c2) [], .p (vI i) [], .x (fun imm' v hx => ∃ (ad : Addr) (p6 : Option Addr) (c5 : Nat), v = .pointer (some ad) ∧ hx = [] ∧ (At imm' ad [vI x.Part, vI x.Stmt, vS p6 x.Point c5]) ∧ (SL imm' (vS p6 x.Point c5) x.Point)), .x (fun imm' v hx => ∃ (ad1 : Addr) (p61 : Option Addr) (c51 : Nat), v = .pointer (some ad1) ∧ hx = [] ∧ (At imm' ad1 [vI x.Part, vI x.Stmt, vS p61 x.Point c51]) ∧ (SL imm' (vS p61 x.Point c51) x.Point)), .q (vI x.Part), .x (fun imm' v hx => ∃ (ad2 : Addr) (p7 : Option Addr) (c6 : Nat) (p8 : Option Addr) (c7 : Nat), v = .pointer (some ad2) ∧ hx = [] ∧ (At imm' ad2 [vS p7 x1.Nest c6, vS p8 x1.Body c7]) ∧ (SL imm' (vS p7 x1.Nest c6) x1.Nest) ∧ (SL imm' (vS p8 x1.Body c7) x1.Body)), .x (fun imm' v hx => ∃ (ad21 : Addr) (p71 : Option Addr) (c61 : Nat) (p81 : Option Addr) (c71 : Nat), v = .pointer (some (ad21.add 1)) ∧ hx = [] ∧ (At imm' ad21 [vS p71 x1.Nest c61, vS p81 x1.Body c71]) ∧ (SL imm' (vS p71 x1.Nest c61) x1.Nest) ∧ (SL imm' (vS p81 x1.Body c71) x1.Body)), .x (fun imm' v hx => ∃ (p811 : Option Addr) (c711 : Nat), v = vS p811 x1.Body c711 ∧ hx = [] ∧ (SL imm' (vS p811 x1.Body c711) x1.Body)), .p (vS p3 y c2) [], .p (vI i) [], .x (fun imm' v hx => ∃ (ad3 : Addr) (p9 : Option Addr) (c8 : Nat), v = .pointer (some ad3) ∧ hx = [] ∧ (At imm' ad3 [vI x2.Part, vI x2.Stmt, vS p9 x2.Point c8]) ∧ (SL imm' (vS p9 x2.Point c8) x2.Point)), .x (fun imm' v hx => ∃ (ad31 : Addr) (p91 : Option Addr) (c81 : Nat), v = .pointer (some (ad31.add 1)) ∧ hx = [] ∧ (At imm' ad31 [vI x2.Part, vI x2.Stmt, vS p91 x2.Point c81]) ∧ (SL imm' (vS p91 x2.Point c81) x2.Point)), .q (vI x2.Stmt), .x (fun imm' v hx => ∃ (ad4 : Addr) (p10 : Option Addr) (c9 : Nat) (p11 : Option Addr) (c10 : Nat) (p12 : Option Addr) (c11 : Nat) (p13 : Option Addr) (c12 : Nat), v = .pointer (some ad4) ∧ hx = [] ∧ (At imm' ad4 [vT x3.Write.Array.l, vS p10 x3.Write.Subs c9, vI x3.Value.Kind, vI x3.Value.Num, vS p11 x3.Value.Index.Coefs c10, vI x3.Value.Index.Const, vT x3.Value.Read.Array.l, vS p12 x3.Value.Read.Subs c11, vS p13 x3.Value.Kids c12]) ∧ (SL imm' (vS p10 x3.Write.Subs c9) x3.Write.Subs) ∧ (SL imm' (vS p11 x3.Value.Index.Coefs c10) x3.Value.Index.Coefs) ∧ (SL imm' (vS p12 x3.Value.Read.Subs c11) x3.Value.Read.Subs) ∧ (SL imm' (vS p13 x3.Value.Kids c12) x3.Value.Kids)), .x (fun imm' v hx => ∃ (p101 : Option Addr) (c91 : Nat) (p111 : Option Addr) (c101 : Nat) (p121 : Option Addr) (c111 : Nat) (p131 : Option Addr) (c121 : Nat), v = vA [vT x3.Write.Array.l, vS p101 x3.Write.Subs c91, vI x3.Value.Kind, vI x3.Value.Num, vS p111 x3.Value.Index.Coefs c101, vI x3.Value.Index.Const, vT x3.Value.Read.Array.l, vS p121 x3.Value.Read.Subs c111, vS p131 x3.Value.Kids c121] ∧ hx = [] ∧ (SL imm' (vS p101 x3.Write.Subs c91) x3.Write.Subs) ∧ (SL imm' (vS p111 x3.Value.Index.Coefs c101) x3.Value.Index.Coefs) ∧ (SL imm' (vS p121 x3.Value.Read.Subs c111) x3.Value.Read.Subs) ∧ (SL imm' (vS p131 x3.Value.Kids c121) x3.Value.Kids)), .p (vS p3 y c2) [], .p (vI i) [], .x (fun imm' v hx => ∃ (ad5 : Addr) (p14 : Option Addr) (c13 : Nat), v = .pointer (some ad5) ∧ hx = [] ∧ (At imm' ad5 [vI x4.Part, vI x4.Stmt, vS p14 x4.Point c13]) ∧ (SL imm' (vS p14 x4.Point c13) x4.Point)), .x (fun imm' v hx => ∃ (ad51 : Addr) (p141 : Option Addr) (c131 : Nat), v = .pointer (some (ad51.add 2)) ∧ hx = [] ∧ (At imm' ad51 [vI x4.Part, vI x4.Stmt, vS p141 x4.Point c131]) ∧ (SL imm' (vS p141 x4.Point c131) x4.Point)), .x (fun imm' v hx => ∃ (p1411 : Option Addr) (c1311 : Nat), v = vS p1411 x4.Point c1311 ∧ hx = [] ∧ (SL imm' (vS p1411 x4.Point c1311) x4.Point)), .x (fun imm' v hx => ∃ (p15 : Option Addr) (c14 : Nat), v = .tuple ⟨[vS p15 y2 c14, vI y3, .bool y4]⟩ ∧ hx = [] ∧ (SL imm' (vS p15 y2 c14) y2)), .x (fun imm' v hx => ∃ (p151 : Option Addr) (c141 : Nat), v = .tuple ⟨[vS p151 y2 c141, vI y3, .bool y4]⟩ ∧ hx = [] ∧ (SL imm' (vS p151 y2 c141) y2)), .x (fun imm' v hx => ∃ (p1511 : Option Addr) (c1411 : Nat), v = vS p1511 y2 c1411 ∧ hx = [] ∧ (SL imm' (vS p1511 y2 c1411) y2)), .q (vI y3), .q (.bool y4), .x (fun imm' v hx => ∃ (p15111 : Option Addr) (c14111 : Nat), v = vS p15111 y2 c14111 ∧ hx = [] ∧ (SL imm' (vS p15111 y2 c14111) y2)), .p (vI y3) []] [[], [(0, false)], [], [(2, false)], [], [], [(4, false), (5, false)], [(6, false)], [(7, false)], [(3, false), (8, false)], [(9, false)], [(10, false)], [], [], [(12, false), (13, false)], [(14, false)], [(15, false)], [(11, false), (16, false)], [(17, false)], [], [], [(19, false), (20, false)], [(21, false)], [(22, false)], [(1, false), (18, false), (23, false)], [(24, false)], [(25, false)], [(25, false)], [(25, false)], [(26, false)], [(27, false)]] [hO spec_l6Use (vS p4 out c3) cs, hB b [vS p1 p.Arrays c, vS p2 p.Parts c1]] [] [(28, false), (29, false), (30, false)] (good_pick [0, 1] rfl (by decide)) ?_ ?_
   · refine Op <| Op <| Op <| Op <| Op <| Op <| Ox ?_ <| Ox ?_ <| Oq ?_ <| Ox ?_ <| Ox ?_ <| Ox ?_ <| Op <| Op <| Ox ?_ <| Ox ?_ <| Oq ?_ <| Ox ?_ <| Ox ?_ <| Op <| Op <| Ox ?_ <| Ox ?_ <| Ox ?_ <| Ox ?_ <| Ox ?_ <| Ox ?_ <| Oq ?_ <| Oq ?_ <| Ox ?_ <| Op <| On
     · intro imm1 hf le1
       refine Ins_cons ?_
       rintro _ _ ⟨rfl, rfl⟩
       refine Ins_cons ?_
       rintro _ _ ⟨rfl, rfl⟩
       refine Ins_nil <| R_isw (hO spec_l6Use (vS p4 out c3) cs :: hB b [vS p1 p.Arrays c, vS p2 p.Parts c1] :: hf) [(23, vS p3 y c2), (24, vI i)] ?_
       have hle := Imm.le.refl imm1
       replace h3 := h3.mono le1
       refine R_ix rfl rfl h3 hy1 ?_
       intro ad ccs hat hrep
       obtain ⟨v01, rfl, h6⟩ := impl_Instance_open hrep
       obtain ⟨p6, c5, rfl⟩ := h6.form
       exact R_out (hx := []) rfl hle rfl (out_some rfl) ⟨_, _, _, rfl, rfl, hat, h6⟩
     · intro imm1 hf le1
       refine Ins_cons ?_
       rintro _ _ ⟨ad, p6, c5, rfl, rfl, hat, h6⟩
       refine Ins_nil <| R_isw (hO spec_l6Use (vS p4 out c3) cs :: hB b [vS p1 p.Arrays c, vS p2 p.Parts c1] :: hf) [(25, .pointer (some ad))] ?_
       have hle := Imm.le.refl imm1
       exact R_p 8 [(26, .pointer (some ad))] <| R_out (hx := []) rfl hle rfl (out_some rfl) ⟨_, _, _, rfl, rfl, hat, h6⟩
     · intro imm1 hf le1
       refine Ins_cons ?_
       rintro _ _ ⟨ad1, p61, c51, rfl, rfl, hat1, h61⟩
       refine Ins_nil <| R_isw (hO spec_l6Use (vS p4 out c3) cs :: hB b [vS p1 p.Arrays c, vS p2 p.Parts c1] :: hf) [(26, .pointer (some ad1))] ?_
       have hle := Imm.le.refl imm1
       exact R_la 0 hat1 [vI x.Part] (vI x.Part) rfl <| R_out (hx := []) rfl hle rfl (out_some rfl) ⟨rfl, rfl⟩
     · intro imm1 hf le1
       refine Ins_cons ?_
       rintro _ _ ⟨rfl, rfl⟩
       refine Ins_cons ?_
       rintro _ _ ⟨rfl, rfl⟩
       refine Ins_nil <| R_isw (hO spec_l6Use (vS p4 out c3) cs :: hB b [vS p1 p.Arrays c, vS p2 p.Parts c1] :: hf) [(22, vS p2 p.Parts c1), (27, vI x.Part)] ?_
       have hle := Imm.le.refl imm1
       replace h1 := h1.mono le1
       refine R_ix rfl rfl h1 hy2 ?_
       intro ad2 ccs1 hat2 hrep1
       obtain ⟨v02, v03, rfl, h7, h8⟩ := impl_Part_open hrep1
       obtain ⟨p7, c6, rfl⟩ := h7.form
       obtain ⟨p8, c7, rfl⟩ := h8.form
       exact R_out (hx := []) rfl hle rfl (out_some rfl) ⟨_, _, _, _, _, rfl, rfl, hat2, h7, h8⟩
     · intro imm1 hf le1
       refine Ins_cons ?_
       rintro _ _ ⟨ad2, p7, c6, p8, c7, rfl, rfl, hat2, h7, h8⟩
       refine Ins_nil <| R_isw (hO spec_l6Use (vS p4 out c3) cs :: hB b [vS p1 p.Arrays c, vS p2 p.Parts c1] :: hf) [(28, .pointer (some ad2))] ?_
       have hle := Imm.le.refl imm1
       exact R_p 11 [(29, .pointer (some (ad2.add 1)))] <| R_out (hx := []) rfl hle rfl (out_some rfl) ⟨_, _, _, _, _, rfl, rfl, hat2, h7, h8⟩
     · intro imm1 hf le1
       refine Ins_cons ?_
       rintro _ _ ⟨ad21, p71, c61, p81, c71, rfl, rfl, hat21, h71, h81⟩
       refine Ins_nil <| R_isw (hO spec_l6Use (vS p4 out c3) cs :: hB b [vS p1 p.Arrays c, vS p2 p.Parts c1] :: hf) [(29, .pointer (some (ad21.add 1)))] ?_
       have hle := Imm.le.refl imm1
       exact R_la 1 hat21 [vS p81 x1.Body c71] (vS p81 x1.Body c71) rfl <| R_out (hx := []) rfl hle rfl (out_some rfl) ⟨_, _, rfl, rfl, h81⟩
     · intro imm1 hf le1
       refine Ins_cons ?_
       rintro _ _ ⟨rfl, rfl⟩
       refine Ins_cons ?_
       rintro _ _ ⟨rfl, rfl⟩
       refine Ins_nil <| R_isw (hO spec_l6Use (vS p4 out c3) cs :: hB b [vS p1 p.Arrays c, vS p2 p.Parts c1] :: hf) [(31, vS p3 y c2), (32, vI i)] ?_
       have hle := Imm.le.refl imm1
       replace h3 := h3.mono le1
       refine R_ix rfl rfl h3 hy3 ?_
       intro ad3 ccs2 hat3 hrep2
       obtain ⟨v04, rfl, h9⟩ := impl_Instance_open hrep2
       obtain ⟨p9, c8, rfl⟩ := h9.form
       exact R_out (hx := []) rfl hle rfl (out_some rfl) ⟨_, _, _, rfl, rfl, hat3, h9⟩
     · intro imm1 hf le1
       refine Ins_cons ?_
       rintro _ _ ⟨ad3, p9, c8, rfl, rfl, hat3, h9⟩
       refine Ins_nil <| R_isw (hO spec_l6Use (vS p4 out c3) cs :: hB b [vS p1 p.Arrays c, vS p2 p.Parts c1] :: hf) [(33, .pointer (some ad3))] ?_
       have hle := Imm.le.refl imm1
       exact R_p 16 [(34, .pointer (some (ad3.add 1)))] <| R_out (hx := []) rfl hle rfl (out_some rfl) ⟨_, _, _, rfl, rfl, hat3, h9⟩
     · intro imm1 hf le1
       refine Ins_cons ?_
       rintro _ _ ⟨ad31, p91, c81, rfl, rfl, hat31, h91⟩
       refine Ins_nil <| R_isw (hO spec_l6Use (vS p4 out c3) cs :: hB b [vS p1 p.Arrays c, vS p2 p.Parts c1] :: hf) [(34, .pointer (some (ad31.add 1)))] ?_
       have hle := Imm.le.refl imm1
       exact R_la 1 hat31 [vI x2.Stmt] (vI x2.Stmt) rfl <| R_out (hx := []) rfl hle rfl (out_some rfl) ⟨rfl, rfl⟩
     · intro imm1 hf le1
       refine Ins_cons ?_
       rintro _ _ ⟨p811, c711, rfl, rfl, h811⟩
       refine Ins_cons ?_
       rintro _ _ ⟨rfl, rfl⟩
       refine Ins_nil <| R_isw (hO spec_l6Use (vS p4 out c3) cs :: hB b [vS p1 p.Arrays c, vS p2 p.Parts c1] :: hf) [(30, vS p811 x1.Body c711), (35, vI x2.Stmt)] ?_
       have hle := Imm.le.refl imm1
       refine R_ix rfl rfl h811 hy4 ?_
       intro ad4 ccs3 hat4 hrep3
       obtain ⟨v05, v06, v07, v08, rfl, h10, h11, h12, h13⟩ := impl_Stmt_open hrep3
       obtain ⟨p10, c9, rfl⟩ := h10.form
       obtain ⟨p11, c10, rfl⟩ := h11.form
       obtain ⟨p12, c11, rfl⟩ := h12.form
       obtain ⟨p13, c12, rfl⟩ := h13.form
       exact R_out (hx := []) rfl hle rfl (out_some rfl) ⟨_, _, _, _, _, _, _, _, _, rfl, rfl, hat4, h10, h11, h12, h13⟩
     · intro imm1 hf le1
       refine Ins_cons ?_
       rintro _ _ ⟨ad4, p10, c9, p11, c10, p12, c11, p13, c12, rfl, rfl, hat4, h10, h11, h12, h13⟩
       refine Ins_nil <| R_isw (hO spec_l6Use (vS p4 out c3) cs :: hB b [vS p1 p.Arrays c, vS p2 p.Parts c1] :: hf) [(36, .pointer (some ad4))] ?_
       have hle := Imm.le.refl imm1
       exact R_la 0 hat4 [vT x3.Write.Array.l, vS p10 x3.Write.Subs c9, vI x3.Value.Kind, vI x3.Value.Num, vS p11 x3.Value.Index.Coefs c10, vI x3.Value.Index.Const, vT x3.Value.Read.Array.l, vS p12 x3.Value.Read.Subs c11, vS p13 x3.Value.Kids c12] (vA [vT x3.Write.Array.l, vS p10 x3.Write.Subs c9, vI x3.Value.Kind, vI x3.Value.Num, vS p11 x3.Value.Index.Coefs c10, vI x3.Value.Index.Const, vT x3.Value.Read.Array.l, vS p12 x3.Value.Read.Subs c11, vS p13 x3.Value.Kids c12]) rfl <| R_out (hx := []) rfl hle rfl (out_some rfl) ⟨_, _, _, _, _, _, _, _, rfl, rfl, h10, h11, h12, h13⟩
     · intro imm1 hf le1
       refine Ins_cons ?_
       rintro _ _ ⟨rfl, rfl⟩
       refine Ins_cons ?_
       rintro _ _ ⟨rfl, rfl⟩
       refine Ins_nil <| R_isw (hO spec_l6Use (vS p4 out c3) cs :: hB b [vS p1 p.Arrays c, vS p2 p.Parts c1] :: hf) [(38, vS p3 y c2), (39, vI i)] ?_
       have hle := Imm.le.refl imm1
       replace h3 := h3.mono le1
       refine R_ix rfl rfl h3 hy5 ?_
       intro ad5 ccs4 hat5 hrep4
       obtain ⟨v09, rfl, h14⟩ := impl_Instance_open hrep4
       obtain ⟨p14, c13, rfl⟩ := h14.form
       exact R_out (hx := []) rfl hle rfl (out_some rfl) ⟨_, _, _, rfl, rfl, hat5, h14⟩
     · intro imm1 hf le1
       refine Ins_cons ?_
       rintro _ _ ⟨ad5, p14, c13, rfl, rfl, hat5, h14⟩
       refine Ins_nil <| R_isw (hO spec_l6Use (vS p4 out c3) cs :: hB b [vS p1 p.Arrays c, vS p2 p.Parts c1] :: hf) [(40, .pointer (some ad5))] ?_
       have hle := Imm.le.refl imm1
       exact R_p 23 [(41, .pointer (some (ad5.add 2)))] <| R_out (hx := []) rfl hle rfl (out_some rfl) ⟨_, _, _, rfl, rfl, hat5, h14⟩
     · intro imm1 hf le1
       refine Ins_cons ?_
       rintro _ _ ⟨ad51, p141, c131, rfl, rfl, hat51, h141⟩
       refine Ins_nil <| R_isw (hO spec_l6Use (vS p4 out c3) cs :: hB b [vS p1 p.Arrays c, vS p2 p.Parts c1] :: hf) [(41, .pointer (some (ad51.add 2)))] ?_
       have hle := Imm.le.refl imm1
       exact R_la 2 hat51 [vS p141 x4.Point c131] (vS p141 x4.Point c131) rfl <| R_out (hx := []) rfl hle rfl (out_some rfl) ⟨_, _, rfl, rfl, h141⟩
     · intro imm1 hf le1
       refine Ins_cons ?_
       rintro _ _ ⟨rfl, rfl⟩
       refine Ins_cons ?_
       rintro _ _ ⟨p101, c91, p111, c101, p121, c111, p131, c121, rfl, rfl, h101, h111, h121, h131⟩
       refine Ins_cons ?_
       rintro _ _ ⟨p1411, c1311, rfl, rfl, h1411⟩
       refine Ins_nil <| R_isw (hO spec_l6Use (vS p4 out c3) cs :: hB b [vS p1 p.Arrays c, vS p2 p.Parts c1] :: hf) [(20, vS p1 p.Arrays c), (37, vA [vT x3.Write.Array.l, vS p101 x3.Write.Subs c91, vI x3.Value.Kind, vI x3.Value.Num, vS p111 x3.Value.Index.Coefs c101, vI x3.Value.Index.Const, vT x3.Value.Read.Array.l, vS p121 x3.Value.Read.Subs c111, vS p131 x3.Value.Kids c121]), (42, vS p1411 x4.Point c1311)] ?_
       have hle := Imm.le.refl imm1
       replace h4 := RepL.mono (fun _ _ => Rp.mono le1) h4
       replace h := h.mono le1
       replace h1 := h1.mono le1
       refine R_call (hs1 := []) (rest := (hO spec_l6Use (vS p4 out c3) cs :: hB b [vS p1 p.Arrays c, vS p2 p.Parts c1] :: hf)) rfl rfl rfl rfl (by kernel_rfl) rfl rfl (spec_l4Cells_ok p.Arrays x3 x4.Point _ hy6 h h101 h111 h121 h131 h1411) ?_
       rintro imm01 hs2 v2 k2 le1 - ⟨v010, v011, v012, rfl, rfl, h15, rfl, rfl⟩ -
       replace h := h.mono le1
       replace h101 := h101.mono le1
       replace h111 := h111.mono le1
       replace h121 := h121.mono le1
       replace h131 := h131.mono le1
       replace h1411 := h1411.mono le1
       replace h4 := RepL.mono (fun _ _ => Rp.mono le1) h4
       replace h1 := h1.mono le1
       replace hle := hle.trans le1
       obtain ⟨p15, c14, rfl⟩ := h15.form
       exact R_out (hx := []) rfl hle rfl (out_some rfl) ⟨_, _, rfl, rfl, h15⟩
     · intro imm1 hf le1
       refine Ins_cons ?_
       rintro _ _ ⟨p15, c14, rfl, rfl, h15⟩
       refine Ins_nil <| R_isw (hO spec_l6Use (vS p4 out c3) cs :: hB b [vS p1 p.Arrays c, vS p2 p.Parts c1] :: hf) [(43, .tuple ⟨[vS p15 y2 c14, vI y3, .bool y4]⟩)] ?_
       have hle := Imm.le.refl imm1
       exact R_p 26 [(18, .tuple ⟨[vS p15 y2 c14, vI y3, .bool y4]⟩)] <| R_out (hx := []) rfl hle rfl (out_some rfl) ⟨_, _, rfl, rfl, h15⟩
     · intro imm1 hf le1
       refine Ins_cons ?_
       rintro _ _ ⟨p151, c141, rfl, rfl, h151⟩
       refine Ins_nil <| R_isw (hO spec_l6Use (vS p4 out c3) cs :: hB b [vS p1 p.Arrays c, vS p2 p.Parts c1] :: hf) [(18, .tuple ⟨[vS p151 y2 c141, vI y3, .bool y4]⟩)] ?_
       have hle := Imm.le.refl imm1
       exact R_p 27 [(44, vS p151 y2 c141)] <| R_out (hx := []) rfl hle rfl (out_some rfl) ⟨_, _, rfl, rfl, h151⟩
     · intro imm1 hf le1
       refine Ins_cons ?_
       rintro _ _ ⟨p151, c141, rfl, rfl, h151⟩
       refine Ins_nil <| R_isw (hO spec_l6Use (vS p4 out c3) cs :: hB b [vS p1 p.Arrays c, vS p2 p.Parts c1] :: hf) [(18, .tuple ⟨[vS p151 y2 c141, vI y3, .bool y4]⟩)] ?_
       have hle := Imm.le.refl imm1
       exact R_p 28 [(45, vI y3)] <| R_out (hx := []) rfl hle rfl (out_some rfl) ⟨rfl, rfl⟩
     · intro imm1 hf le1
       refine Ins_cons ?_
       rintro _ _ ⟨p151, c141, rfl, rfl, h151⟩
       refine Ins_nil <| R_isw (hO spec_l6Use (vS p4 out c3) cs :: hB b [vS p1 p.Arrays c, vS p2 p.Parts c1] :: hf) [(18, .tuple ⟨[vS p151 y2 c141, vI y3, .bool y4]⟩)] ?_
       have hle := Imm.le.refl imm1
       exact R_p 29 [(46, .bool y4)] <| R_out (hx := []) rfl hle rfl (out_some rfl) ⟨rfl, rfl⟩
     · intro imm1 hf le1
       refine Ins_cons ?_
       rintro _ _ ⟨p1511, c1411, rfl, rfl, h1511⟩
       refine Ins_nil <| R_isw (hO spec_l6Use (vS p4 out c3) cs :: hB b [vS p1 p.Arrays c, vS p2 p.Parts c1] :: hf) [(44, vS p1511 y2 c1411)] ?_
       have hle := Imm.le.refl imm1
       exact R_p 30 [(6, vS p1511 y2 c1411)] <| R_out (hx := []) rfl hle rfl (out_some rfl) ⟨_, _, rfl, rfl, h1511⟩
   · intro imm02 le2
     refine Ins_cons ?_
     rintro _ _ ⟨rfl, rfl⟩
     refine Ins_cons ?_
     rintro _ _ ⟨p15111, c14111, rfl, rfl, h15111⟩
     refine Ins_cons ?_
     rintro _ _ ⟨rfl, rfl⟩
     refine Ins_nil <| R_isw [hO spec_l6Use (vS p4 out c3) cs, hB b [vS p1 p.Arrays c, vS p2 p.Parts c1]] [(1, vP b 0), (3, vS p4 out c3), (4, vS p3 y c2), (5, vI i), (6, vS p15111 y2 c14111), (7, vI y3), (46, .bool y4)] ?_
     replace h4 := RepL.mono (fun _ _ => Rp.mono le2) h4
     replace h3 := h3.mono le2
     replace h := h.mono le2
     replace h1 := h1.mono le2
     replace hle := hle.trans le2
     refine R_z [] [] <| T_seq <| J_region <| R_d 4 [] [(47, vS p4 out c3), (50, vA [vS p15111 y2 c14111, vI y3])] <| R_buildSlice (cs := [vS p15111 y2 c14111, vI y3]) (Rp.sz spec_l6Use) rfl rfl rfl rfl (by kernel_rfl) (by kernel_rfl) ?_
     intro b2 hb2
     have h18 : RL imm02 [vS p15111 y2 c14111, vI y3] ([(spec_l6Use.mk y2 y3)] : List spec_l6Use) := ⟨[vS p15111 y2 c14111, vI y3], _, rfl, rfl, (spec_l6Use_shut ⟨_, rfl, h15111⟩), rfl⟩
     obtain ⟨out2, hy7, hM⟩ := bind_some hM
     refine R_ap 55 2 1 rfl rfl rfl h4 (.inr ⟨0, rfl⟩) h18 hy7 ?_
     intro p16 c15 cs2 h19
     exact R_hs (good_pick [1, 2] (hs' := [hO spec_l6Use (vS p16 out2 c15) cs2, hB b [vS p1 p.Arrays c, vS p2 p.Parts c1]]) rfl (by decide)) <| R_z [] [(3, vS p16 out2 c15)] <| T_block_normal <| T_seq <| J_region <| R_z [] [(5, vI (W (i + 1)))] <| T_loop <| J_w [(1, vP b 0), (3, vS p16 out2 c15), (4, vS p3 y c2), (5, vI (W (i + 1)))] <| ih out2 (W (i + 1)) _ hM hle h3 h h1 h19 hg ho hx
 · intro hc hM
   exact J_exit <| T_then_exit <| T_then_exit <| T_hs (good_pick [0] rfl (by decide)) <| T_w [(3, vS p4 out c3)] <| hx _ _ _ _ _ (pure_some hM).symm hle h4
def M.spec_l6Uses (p : impl_Program) : Option ((List spec_l6Use)) := do
 let y ← M.spec_l4Instances p
 let out1 ← M.spec_l6Uses_l1 p y ([] : List spec_l6Use) 0
 pure (id out1)
theorem spec_l6Uses_ok : ∀ (p : impl_Program) r, M.spec_l6Uses p = some r → ∀ {imm : Imm} {p1 : Option Addr} {c : Nat} {p2 : Option Addr} {c1 : Nat}, (SL imm (vS p1 p.Arrays c) p.Arrays) → (SL imm (vS p2 p.Parts c1) p.Parts) → Ret Try.prog 36 [vA [vS p1 p.Arrays c, vS p2 p.Parts c1]] imm [] (spec_l6Uses_post  r) := by
 intro p r hM imm p1 c p2 c1 h h1
 unfold M.spec_l6Uses at hM
 refine ret_of_J (fn := Try.f36) (c := (bodyOf Try.f36)) Try.func36 rfl rfl ?_
 rintro B - -
 have hle : imm.le imm := Imm.le.refl _
 refine J_seq <| J_region <| R_box (c := ⟨[vS p1 p.Arrays c, vS p2 p.Parts c1]⟩) rfl rfl rfl rfl rfl ?_
 intro b hb
 refine R_z [] [] <| T_seq <| J_seq <| J_region <| R_buildSlice (cs := []) (Rp.sz spec_l6Use) rfl rfl rfl rfl (by kernel_rfl) (by kernel_rfl) ?_
 intro b1 hb1
 have h2 : RL imm [] ([] : List spec_l6Use) := rfl
 refine R_z [] [(3, vS (some ⟨b1, 0, none⟩) ([] : List spec_l6Use) 0)] <| T_seq <| J_seq <| J_region <| R_d 1 [1] [(10, vA [vS p1 p.Arrays c, vS p2 p.Parts c1])] ?_
 obtain ⟨y, hy, hM⟩ := bind_some hM
 refine R_call (hs1 := []) (rest := [hO spec_l6Use (vS (some ⟨b1, 0, none⟩) ([] : List spec_l6Use) 0) [], hB b [vS p1 p.Arrays c, vS p2 p.Parts c1]]) rfl rfl rfl rfl (by kernel_rfl) rfl rfl (spec_l4Instances_ok p _ hy h h1) ?_
 rintro imm0 hs2 v2 k2 le - ⟨v0, rfl, rfl, h3⟩ -
 replace h2 := RepL.mono (fun _ _ => Rp.mono le) h2
 replace h := h.mono le
 replace h1 := h1.mono le
 replace hle := hle.trans le
 obtain ⟨p3, c2, rfl⟩ := h3.form
 refine R_z [] [(4, vS p3 y c2)] <| T_seq <| J_seq <| J_seq <| J_region <| R_z [] [(5, vI 0)] <| T_seq <| J_block <| J_w [(1, vP b 0), (3, vS (some ⟨b1, 0, none⟩) ([] : List spec_l6Use) 0), (4, vS p3 y c2), (5, vI 0)] ?_
 obtain ⟨o0, ho0, hM⟩ := bind_some hM
 refine spec_l6Uses_l1_ok p y ([] : List spec_l6Use) 0 o0 ho0 (Imm.le.refl _) h3 h h1 h2 (fun _ _ _ h => h) (fun _ _ h => h) ?_
 intro imm03 out1 p5 c4 cs1 heq le3 h5
 subst o0
 replace hle := hle.trans le3
 refine T_block_here <| T_seq <| J_seq <| J_region <| R_z [] [(2, vS p5 out1 c4)] <| T_seq <| J_ret <| T_freeze 0 rfl ?_
 intro imm04 le4 hl0
 have h20 := SL.of_frozen hl0 le4 h5
 replace hle := hle.trans le4
 obtain rfl := pure_some hM
 exact T_RS ⟨_, _, (.tmp rfl ResV.nil), good_none, ⟨_, rfl, rfl, h20⟩⟩
def spec_AddressTrace_post (r : (List Int)) : Nat → Imm → List HA → Value → Prop := fun kk imm' hs' v =>
  ∃ (v0 : Value), hs' = [] ∧ v = tupV [v0] ∧ SL imm' v0 r
def M.spec_AddressTrace_l1 (y1 : (List spec_l6Use)) (out : List Int) (i : Int) : Option (Out (List Int) ((List Int))) := do
 if (decide (i < (y1.length : Int))) then
  let x ← idx y1 i
  let l ← app 8 out x.reads
  let x1 ← idx y1 i
  let out2 ← app 8 l ([x1.write] : List Int)
  if (decide ((out2.length : Int) > 600)) then
   let l1 ← slc out2 0 600
   let t2 ← app 8 ([] : List Int) l1
   pure (.ret t2)
  else
   M.spec_AddressTrace_l1 y1 out2 (W (i + 1))
 else
  pure (.done out)
 partial_fixpoint
theorem spec_AddressTrace_l1_ok (y1 : (List spec_l6Use)) : ∀ (out : List Int) (i : Int) (o : Out (List Int) ((List Int))), M.spec_AddressTrace_l1 y1 out i = some o → ∀ {B : Base} {imm0 imm : Imm} {Q : Exit → Act → World → Prop}  {p3 : Option Addr} {c2 : Nat} {p4 : Option Addr} {c3 : Nat} {cs : List Value}, imm0.le imm → (SL imm (vS p3 y1 c2) y1) → (RL imm cs out) → (∀ l a w, ¬ Q (.goto l) a w) → (∀ a w, ¬ Q .outgrown a w) → (∀ (imm' : Imm) (out1 : List Int) (p5 : Option Addr) (c4 : Nat) (cs1 : List Value), o = (.done out1) → imm0.le imm' → (RL imm' cs1 out1) → T 41 B Q (.exit 0) imm' [hO Int (vS p5 out1 c4) cs1] [(3, vS p5 out1 c4)]) → (∀ r imm' hs' m', o = (.ret r) → imm0.le imm' → RS Try.prog Try.f31 B (spec_AddressTrace_post  r) imm' hs' m' → T 41 B Q .ret imm' hs' m') → J Try.prog 41 B (nav (bodyOf Try.f31) [1, 1, 1, 1, 0, 1, 0]) Q imm [hO Int (vS p4 out c3) cs] [(3, vS p4 out c3), (4, vS p3 y1 c2), (5, vI i)] := by
 refine M.spec_AddressTrace_l1.partial_correctness y1 _ ?_
 intro self ih out i o hM B imm0 imm Q p3 c2 p4 c3 cs hle h5 h6 hg ho hx hr
 refine J_loop hg ho <| J_seq <| J_seq <| J_region <| R_z [] [(16, .bool (decide (i < (y1.length : Int))))] <| T_seq <| J_cd hM ?_ ?_
 · intro hc1 hM
   refine J_skip <| T_seq <| J_seq <| J_block <| J_seq ?_
   obtain ⟨x, hy2, hM⟩ := bind_some hM
   obtain ⟨l, hy3, hM⟩ := bind_some hM
   obtain ⟨x1, hy4, hM⟩ := bind_some hM
   obtain ⟨out2, hy5, hM⟩ := bind_some hM
   refine J_any [.p (vS p4 out c3) [], .p (vS p3 y1 c2) [], .p (vI i) [], .x (fun imm' v hx => ∃ (ad : Addr) (p6 : Option Addr) (c5 : Nat), v = .pointer (some ad) ∧ hx = [] ∧ (At imm' ad [vS p6 x.reads c5, vI x.write]) ∧ (SL imm' (vS p6 x.reads c5) x.reads)), .x (fun imm' v hx => ∃ (ad1 : Addr) (p61 : Option Addr) (c51 : Nat), v = .pointer (some ad1) ∧ hx = [] ∧ (At imm' ad1 [vS p61 x.reads c51, vI x.write]) ∧ (SL imm' (vS p61 x.reads c51) x.reads)), .x (fun imm' v hx => ∃ (p611 : Option Addr) (c511 : Nat), v = vS p611 x.reads c511 ∧ hx = [] ∧ (SL imm' (vS p611 x.reads c511) x.reads)), .x (fun imm' v hx => ∃ (p7 : Option Addr) (c6 : Nat) (cs2 : List Value), v = vS p7 l c6 ∧ hx = [hO Int (vS p7 l c6) cs2] ∧ (RL imm' cs2 l)), .p (vS p3 y1 c2) [], .p (vI i) [], .x (fun imm' v hx => ∃ (ad2 : Addr) (p8 : Option Addr) (c7 : Nat), v = .pointer (some ad2) ∧ hx = [] ∧ (At imm' ad2 [vS p8 x1.reads c7, vI x1.write]) ∧ (SL imm' (vS p8 x1.reads c7) x1.reads)), .x (fun imm' v hx => ∃ (ad21 : Addr) (p81 : Option Addr) (c71 : Nat), v = .pointer (some (ad21.add 1)) ∧ hx = [] ∧ (At imm' ad21 [vS p81 x1.reads c71, vI x1.write]) ∧ (SL imm' (vS p81 x1.reads c71) x1.reads)), .q (vI x1.write), .x (fun imm' v hx => ∃ (b2 : Nat), v = vS (some ⟨b2, 0, none⟩) ([x1.write] : List Int) 1 ∧ hx = [] ∧ (SL imm' (vS (some ⟨b2, 0, none⟩) ([x1.write] : List Int) 1) ([x1.write] : List Int))), .x (fun imm' v hx => ∃ (p9 : Option Addr) (c8 : Nat) (cs3 : List Value), v = vS p9 out2 c8 ∧ hx = [hO Int (vS p9 out2 c8) cs3] ∧ (RL imm' cs3 out2))] [[], [], [], [(1, false), (2, false)], [(3, false)], [(4, false)], [(0, false), (5, false), (15, true)], [], [], [(7, false), (8, false)], [(9, false)], [(10, false)], [(11, false)], [(6, true), (12, false)]] [] [[hO Int (vS p4 out c3) cs]] [(13, true)] (good_pick [0] rfl (by decide)) ?_ ?_
   · refine Op <| Op <| Op <| Ox ?_ <| Ox ?_ <| Ox ?_ <| Ox ?_ <| Op <| Op <| Ox ?_ <| Ox ?_ <| Oq ?_ <| Ox ?_ <| Ox ?_ <| On
     · intro imm1 hf le1
       refine Ins_cons ?_
       rintro _ _ ⟨rfl, rfl⟩
       refine Ins_cons ?_
       rintro _ _ ⟨rfl, rfl⟩
       refine Ins_nil <| R_isw (hf) [(20, vS p3 y1 c2), (21, vI i)] ?_
       have hle := Imm.le.refl imm1
       replace h5 := h5.mono le1
       refine R_ix rfl rfl h5 hy2 ?_
       intro ad ccs hat hrep
       obtain ⟨v02, rfl, h8⟩ := spec_l6Use_open hrep
       obtain ⟨p6, c5, rfl⟩ := h8.form
       exact R_out (hx := []) rfl hle rfl (out_some rfl) ⟨_, _, _, rfl, rfl, hat, h8⟩
     · intro imm1 hf le1
       refine Ins_cons ?_
       rintro _ _ ⟨ad, p6, c5, rfl, rfl, hat, h8⟩
       refine Ins_nil <| R_isw (hf) [(22, .pointer (some ad))] ?_
       have hle := Imm.le.refl imm1
       exact R_p 5 [(23, .pointer (some ad))] <| R_out (hx := []) rfl hle rfl (out_some rfl) ⟨_, _, _, rfl, rfl, hat, h8⟩
     · intro imm1 hf le1
       refine Ins_cons ?_
       rintro _ _ ⟨ad1, p61, c51, rfl, rfl, hat1, h81⟩
       refine Ins_nil <| R_isw (hf) [(23, .pointer (some ad1))] ?_
       have hle := Imm.le.refl imm1
       exact R_la 0 hat1 [vS p61 x.reads c51] (vS p61 x.reads c51) rfl <| R_out (hx := []) rfl hle rfl (out_some rfl) ⟨_, _, rfl, rfl, h81⟩
     · intro imm1 hf le1
       refine Ins_cons ?_
       rintro _ _ ⟨rfl, rfl⟩
       refine Ins_cons ?_
       rintro _ _ ⟨p611, c511, rfl, rfl, h811⟩
       refine Ins_cons ?_
       rintro _ _ rfl
       refine Ins_nil <| R_isw (hO Int (vS p4 out c3) cs :: hf) [(19, vS p4 out c3), (24, vS p611 x.reads c511)] ?_
       have hle := Imm.le.refl imm1
       replace h6 := RepL.mono (fun _ _ => Rp.mono le1) h6
       obtain ⟨ccs1, k0, k01⟩ := h811
       have h811 : SL imm1 (vS p611 x.reads c511) x.reads := ⟨_, k0, k01⟩
       refine R_ap 3 1 0 rfl rfl rfl h6 (.inl k0) k01 hy3 ?_
       intro p7 c6 cs2 h9
       exact R_hseq (hs' := (hO Int (vS p7 l c6) cs2 :: hf)) rfl <| R_out (hx := [hO Int (vS p7 l c6) cs2]) rfl hle rfl (out_some rfl) ⟨_, _, _, rfl, rfl, h9⟩
     · intro imm1 hf le1
       refine Ins_cons ?_
       rintro _ _ ⟨rfl, rfl⟩
       refine Ins_cons ?_
       rintro _ _ ⟨rfl, rfl⟩
       refine Ins_nil <| R_isw (hf) [(26, vS p3 y1 c2), (27, vI i)] ?_
       have hle := Imm.le.refl imm1
       replace h5 := h5.mono le1
       refine R_ix rfl rfl h5 hy4 ?_
       intro ad2 ccs2 hat2 hrep1
       obtain ⟨v03, rfl, h10⟩ := spec_l6Use_open hrep1
       obtain ⟨p8, c7, rfl⟩ := h10.form
       exact R_out (hx := []) rfl hle rfl (out_some rfl) ⟨_, _, _, rfl, rfl, hat2, h10⟩
     · intro imm1 hf le1
       refine Ins_cons ?_
       rintro _ _ ⟨ad2, p8, c7, rfl, rfl, hat2, h10⟩
       refine Ins_nil <| R_isw (hf) [(28, .pointer (some ad2))] ?_
       have hle := Imm.le.refl imm1
       exact R_p 11 [(29, .pointer (some (ad2.add 1)))] <| R_out (hx := []) rfl hle rfl (out_some rfl) ⟨_, _, _, rfl, rfl, hat2, h10⟩
     · intro imm1 hf le1
       refine Ins_cons ?_
       rintro _ _ ⟨ad21, p81, c71, rfl, rfl, hat21, h101⟩
       refine Ins_nil <| R_isw (hf) [(29, .pointer (some (ad21.add 1)))] ?_
       have hle := Imm.le.refl imm1
       exact R_la 1 hat21 [vI x1.write] (vI x1.write) rfl <| R_out (hx := []) rfl hle rfl (out_some rfl) ⟨rfl, rfl⟩
     · intro imm1 hf le1
       refine Ins_cons ?_
       rintro _ _ ⟨rfl, rfl⟩
       refine Ins_nil <| R_isw (hf) [(30, vI x1.write)] ?_
       have hle := Imm.le.refl imm1
       refine R_buildSlice (cs := [vI x1.write]) (Rp.sz Int) rfl rfl rfl rfl (by kernel_rfl) (by kernel_rfl) ?_
       intro b2 hb2
       have h11 : RL imm1 [vI x1.write] ([x1.write] : List Int) := ⟨[vI x1.write], _, rfl, rfl, rfl, rfl⟩
       refine R_freeze 0 rfl ?_
       intro imm03 le3 hl01
       have h12 := SL.of_frozen hl01 le3 h11
       replace hle := hle.trans le3
       exact R_out (hx := []) rfl hle rfl (out_some rfl) ⟨_, rfl, rfl, h12⟩
     · intro imm1 hf le1
       refine Ins_cons ?_
       rintro _ _ ⟨p7, c6, cs2, rfl, rfl, h9⟩
       refine Ins_cons ?_
       rintro _ _ ⟨b2, rfl, rfl, h12⟩
       refine Ins_nil <| R_isw (hO Int (vS p7 l c6) cs2 :: hf) [(25, vS p7 l c6), (31, vS (some ⟨b2, 0, none⟩) ([x1.write] : List Int) 1)] ?_
       have hle := Imm.le.refl imm1
       obtain ⟨ccs3, k02, k03⟩ := h12
       have h12 : SL imm1 (vS (some ⟨b2, 0, none⟩) ([x1.write] : List Int) 1) ([x1.write] : List Int) := ⟨_, k02, k03⟩
       refine R_ap 3 1 0 rfl rfl rfl h9 (.inl k02) k03 hy5 ?_
       intro p9 c8 cs3 h13
       exact R_hseq (hs' := (hO Int (vS p9 out2 c8) cs3 :: hf)) rfl <| R_out (hx := [hO Int (vS p9 out2 c8) cs3]) rfl hle rfl (out_some rfl) ⟨_, _, _, rfl, rfl, h13⟩
   · intro imm04 le4
     refine Ins_cons ?_
     rintro _ _ ⟨p9, c8, cs3, rfl, rfl, h13⟩
     refine Ins_nil <| R_isw [hO Int (vS p9 out2 c8) cs3] [(4, vS p3 y1 c2), (5, vI i), (32, vS p9 out2 c8)] ?_
     replace h5 := h5.mono le4
     replace hle := hle.trans le4
     refine R_z [] [(3, vS p9 out2 c8)] <| T_seq <| J_seq <| J_region <| R_z [] [(35, .bool (decide ((out2.length : Int) > 600)))] <| T_seq <| J_cd hM ?_ ?_
     · intro hc2 hM
       refine J_seq <| J_region <| R_buildSlice (cs := []) (Rp.sz Int) rfl rfl rfl rfl (by kernel_rfl) (by kernel_rfl) ?_
       intro b3 hb3
       have h14 : RL imm04 [] ([] : List Int) := rfl
       refine R_d 2 [] [(37, vS p9 out2 c8)] ?_
       obtain ⟨l1, hy6, hM⟩ := bind_some hM
       refine R_cut_osl 1 rfl rfl rfl rfl rfl (by kernel_rfl) rfl rfl h13 hy6 ?_
       rintro p10 c9 cs4 - h15
       refine R_hseq (hs' := [hO Int (vS (some ⟨b3, 0, none⟩) ([] : List Int) 0) [], hO Int (vS p10 l1 c9) cs4]) rfl ?_
       obtain ⟨t2, hy7, hM⟩ := bind_some hM
       refine R_ap 3 1 0 rfl rfl rfl h14 (.inr ⟨1, rfl⟩) h15 hy7 ?_
       intro p11 c10 cs5 h16
       refine R_hs (good_pick [0] (hs' := [hO Int (vS p11 t2 c10) cs5]) rfl (by decide)) <| R_z [] [(2, vS p11 t2 c10)] <| T_seq <| J_ret <| T_block_ret <| T_then_ret <| T_then_ret <| T_freeze 0 rfl ?_
       intro imm05 le5 hl02
       have h17 := SL.of_frozen hl02 le5 h16
       replace hle := hle.trans le5
       exact hr _ _ _ _ (pure_some hM).symm hle ⟨_, _, (.tmp rfl ResV.nil), good_none, ⟨_, rfl, rfl, h17⟩⟩
     · intro hc2 hM
       exact J_skip <| T_block_normal <| T_seq <| J_region <| R_z [] [(5, vI (W (i + 1)))] <| T_loop <| J_w [(3, vS p9 out2 c8), (4, vS p3 y1 c2), (5, vI (W (i + 1)))] <| ih out2 (W (i + 1)) _ hM hle h5 h13 hg ho hx hr
 · intro hc1 hM
   exact J_exit <| T_then_exit <| T_then_exit <| T_w [(3, vS p4 out c3)] <| hx _ _ _ _ _ (pure_some hM).symm hle h6
def M.spec_AddressTrace (p : impl_Program) : Option ((List Int)) := do
 let y ← M.spec_ProgramValid p
 if (!y) then
  pure ([] : List Int)
 else
  let y1 ← M.spec_l6Uses p
  match ← M.spec_AddressTrace_l1 y1 ([] : List Int) 0 with
  | .ret r0 => pure r0
  | .done out1 =>
   pure (id out1)
theorem spec_AddressTrace_ok : ∀ (p : impl_Program) r, M.spec_AddressTrace p = some r → ∀ {imm : Imm} {p1 : Option Addr} {c : Nat} {p2 : Option Addr} {c1 : Nat}, (SL imm (vS p1 p.Arrays c) p.Arrays) → (SL imm (vS p2 p.Parts c1) p.Parts) → Ret Try.prog 31 [vA [vS p1 p.Arrays c, vS p2 p.Parts c1]] imm [] (spec_AddressTrace_post  r) := by
 intro p r hM imm p1 c p2 c1 h h1
 unfold M.spec_AddressTrace at hM
 refine ret_of_J (fn := Try.f31) (c := (bodyOf Try.f31)) Try.func31 rfl rfl ?_
 rintro B - -
 have hle : imm.le imm := Imm.le.refl _
 refine J_seq <| J_region <| R_box (c := ⟨[vS p1 p.Arrays c, vS p2 p.Parts c1]⟩) rfl rfl rfl rfl rfl ?_
 intro b hb
 refine R_z [] [] <| T_seq <| J_seq <| J_region <| R_buildSlice (cs := []) (Rp.sz Int) rfl rfl rfl rfl (by kernel_rfl) (by kernel_rfl) ?_
 intro b1 hb1
 have h2 : RL imm [] ([] : List Int) := rfl
 refine R_z [] [(3, vS (some ⟨b1, 0, none⟩) ([] : List Int) 0)] <| T_seq <| J_seq <| J_seq <| J_region <| R_d 1 [1] [(7, vA [vS p1 p.Arrays c, vS p2 p.Parts c1])] ?_
 obtain ⟨y, hy, hM⟩ := bind_some hM
 refine R_call (hs1 := []) (rest := [hO Int (vS (some ⟨b1, 0, none⟩) ([] : List Int) 0) [], hB b [vS p1 p.Arrays c, vS p2 p.Parts c1]]) rfl rfl rfl rfl (by kernel_rfl) rfl rfl (spec_ProgramValid_ok p _ hy h h1) ?_
 rintro imm0 hs2 v2 k2 le - ⟨v0, rfl, rfl, rfl⟩ -
 replace h2 := RepL.mono (fun _ _ => Rp.mono le) h2
 replace h := h.mono le
 replace h1 := h1.mono le
 replace hle := hle.trans le
 refine R_z [] [(9, .bool (!y))] <| T_seq <| J_cd hM ?_ ?_
 · intro hc hM
   refine J_seq <| J_region <| R_z [] [(2, vS (some ⟨b1, 0, none⟩) ([] : List Int) 0)] <| T_seq <| J_ret <| T_then_ret <| T_freeze 0 rfl ?_
   intro imm01 le1 hl0
   have h4 := SL.of_frozen hl0 le1 h2
   replace h := h.mono le1
   replace h1 := h1.mono le1
   replace hle := hle.trans le1
   obtain rfl := pure_some hM
   exact T_RS ⟨_, _, (.tmp rfl ResV.nil), good_none, ⟨_, rfl, rfl, h4⟩⟩
 · intro hc hM
   refine J_skip <| T_seq <| J_seq <| J_region <| R_d 1 [1] [(11, vA [vS p1 p.Arrays c, vS p2 p.Parts c1])] ?_
   obtain ⟨y1, hy1, hM⟩ := bind_some hM
   refine R_call (hs1 := []) (rest := [hO Int (vS (some ⟨b1, 0, none⟩) ([] : List Int) 0) [], hB b [vS p1 p.Arrays c, vS p2 p.Parts c1]]) rfl rfl rfl rfl (by kernel_rfl) rfl rfl (spec_l6Uses_ok p _ hy1 h h1) ?_
   rintro imm02 hs2 v2 k2 le2 - ⟨v01, rfl, rfl, h5⟩ -
   replace h2 := RepL.mono (fun _ _ => Rp.mono le2) h2
   replace h := h.mono le2
   replace h1 := h1.mono le2
   replace hle := hle.trans le2
   obtain ⟨p3, c2, rfl⟩ := h5.form
   refine R_z [] [(4, vS p3 y1 c2)] <| T_seq <| J_seq <| J_seq <| J_region <| R_z [] [(5, vI 0)] <| T_seq <| J_block <| J_hs (good_pick [0] (hs' := [hO Int (vS (some ⟨b1, 0, none⟩) ([] : List Int) 0) []]) rfl (by decide)) <| J_w [(3, vS (some ⟨b1, 0, none⟩) ([] : List Int) 0), (4, vS p3 y1 c2), (5, vI 0)] ?_
   obtain ⟨o0, ho0, hM⟩ := bind_some hM
   refine spec_AddressTrace_l1_ok y1 ([] : List Int) 0 o0 ho0 (Imm.le.refl _) h5 h2 (fun _ _ _ h => h) (fun _ _ h => h) ?_ ?_
   · intro imm06 out1 p5 c4 cs1 heq le6 h7
     subst o0
     replace hle := hle.trans le6
     refine T_block_here <| T_seq <| J_seq <| J_region <| R_z [] [(2, vS p5 out1 c4)] <| T_seq <| J_ret <| T_freeze 0 rfl ?_
     intro imm07 le7 hl03
     have h18 := SL.of_frozen hl03 le7 h7
     replace hle := hle.trans le7
     obtain rfl := pure_some hM
     exact T_RS ⟨_, _, (.tmp rfl ResV.nil), good_none, ⟨_, rfl, rfl, h18⟩⟩
   · intro r0 imm9 hs9 m9 heq9 le9 hrs9
     subst heq9
     refine T_block_ret <| T_then_ret ?_
     obtain rfl := pure_some hM
     exact T_RS hrs9
def spec_l16Rd_of_post (b0 : Nat) (r : Str × spec_l16Rd) : Nat → Imm → List HA → Value → Prop := fun kk imm' hs' v =>
  ∃ (v0 : Value) (k0 : List Value), hs' = [.blk b0 ⟨k0⟩] ∧ v = tupV [v0] ∧ v0 = .string ⟨⟨r.1.l⟩⟩ ∧ Rp.rep imm' k0 r.2
def M.spec_l16Rd_of (r0 : spec_l16Rd) (list : (List Str)) : Option (Str × spec_l16Rd) := do
 let (y1, y2) ← M.spec_l16Rd_pick r0 (list.length : Int)
 let x ← idx list y1
 pure (x, y2)
theorem spec_l16Rd_of_ok : ∀ (r0 : spec_l16Rd) (list : (List Str)) r, M.spec_l16Rd_of r0 list = some r → ∀ {imm : Imm} {r01 : Nat} {p : Option Addr} {c : Nat} {p1 : Option Addr} {c1 : Nat}, (SL imm (vS p r0.b c) r0.b) → (SL imm (vS p1 list c1) list) → Ret Try.prog 37 [vP r01 0, vS p1 list c1] imm [hB r01 [vS p r0.b c, vI r0.p]] (spec_l16Rd_of_post r01 r) := by
 intro r0 list r hM imm r01 p c p1 c1 h h1
 unfold M.spec_l16Rd_of at hM
 refine ret_of_J (fn := Try.f37) (c := (bodyOf Try.f37)) Try.func37 rfl rfl ?_
 rintro B - -
 have hle : imm.le imm := Imm.le.refl _
 refine J_seq <| J_region <| R_z [] [] <| T_seq <| J_seq <| J_region <| R_d 4 [] [(5, vS p1 list c1), (6, vP r01 0), (8, vI (list.length : Int))] ?_
 obtain ⟨⟨y1, y2⟩, hy, hM⟩ := bind_some hM
 refine R_call (hs1 := [hB r01 [vS p r0.b c, vI r0.p]]) (rest := []) rfl rfl rfl rfl (by kernel_rfl) rfl rfl (spec_l16Rd_pick_ok r0 (list.length : Int) _ hy h) ?_
 rintro imm0 hs2 v2 k2 le - ⟨v0, kk, rfl, rfl, rfl, h3⟩ -
 replace h1 := h1.mono le
 replace hle := hle.trans le
 obtain ⟨v01, rfl, h4⟩ := spec_l16Rd_open h3
 obtain ⟨p2, c2, rfl⟩ := h4.form
 obtain ⟨x, hy1, hM⟩ := bind_some hM
 refine R_ix rfl rfl h1 hy1 ?_
 intro ad ccs hat hrep
 obtain rfl := hrep
 refine R_la 0 hat [vT x.l] (vT x.l) rfl <| R_z [] [(4, vT x.l)] <| T_seq <| J_ret ?_
 obtain rfl := pure_some hM
 exact T_RS ⟨_, _, (.tmp rfl ResV.nil), (good_pick [0] rfl (by decide)), ⟨_, _, rfl, rfl, rfl, (spec_l16Rd_shut ⟨_, rfl, h4⟩)⟩⟩
def spec_l16Cut_post (r : (List Str)) : Nat → Imm → List HA → Value → Prop := fun kk imm' hs' v =>
  ∃ (v0 : Value), hs' = [] ∧ v = tupV [v0] ∧ SL imm' v0 r
def M.spec_l16Cut_l1 (s : Str) (c : UInt8) (out : List Str) (from0 : Int) (i : Int) : Option (List Str) := do
 if (decide (i ≤ (s.l.length : Int))) then
  let t25 ← (do
    if (i == (s.l.length : Int)) then
     pure true
    else
     let b1 ← sidx s i
     pure ((b1.toNat : Int) == (c.toNat : Int))
      : Option Bool)
  let (out2, from01) ← (do
    if t25 then
     let s1 ← sslc s from0 i
     let out3 ← app 16 out ([s1] : List Str)
     pure (out3, (W (i + 1)))
    else
     pure (out, from0)
      : Option (List Str × Int))
  M.spec_l16Cut_l1 s c out2 from01 (W (i + 1))
 else
  pure (id out)
 partial_fixpoint
theorem spec_l16Cut_l1_ok (s : Str) (c : UInt8) : ∀ (out : List Str) (from0 : Int) (i : Int) (o : List Str), M.spec_l16Cut_l1 s c out from0 i = some o → ∀ {B : Base} {imm0 imm : Imm} {Q : Exit → Act → World → Prop}  {p : Option Addr} {c1 : Nat} {cs : List Value}, imm0.le imm → (RL imm cs out) → (∀ l a w, ¬ Q (.goto l) a w) → (∀ a w, ¬ Q .outgrown a w) → (∀ (imm' : Imm) (out1 : List Str) (p1 : Option Addr) (c2 : Nat) (cs1 : List Value), o = out1 → imm0.le imm' → (RL imm' cs1 out1) → T 36 B Q (.exit 0) imm' [hO Str (vS p1 out1 c2) cs1] [(5, vS p1 out1 c2)]) → J Try.prog 36 B (nav (bodyOf Try.f44) [1, 1, 1, 0, 1, 0]) Q imm [hO Str (vS p out c1) cs] [(0, vT s.l), (1, .int .u8 (c.toNat : Int)), (5, vS p out c1), (6, vI from0), (7, vI i)] := by
 refine M.spec_l16Cut_l1.partial_correctness s c _ ?_
 intro self ih out from0 i o hM B imm0 imm Q p c1 cs hle h1 hg ho hx
 refine J_loop hg ho <| J_seq <| J_seq <| J_region <| R_z [] [(12, .bool (decide (i ≤ (s.l.length : Int))))] <| T_seq <| J_cd hM ?_ ?_
 · intro hc hM
   refine J_skip <| T_seq <| J_seq <| J_block <| J_seq ?_
   obtain ⟨o0, ho0, hM⟩ := bind_some hM
   refine J_cut (fun imm' hs' m' => ∃ (t25 : Bool), o0 = t25 ∧ imm.le imm' ∧ hs' = [hO Str (vS p out c1) cs] ∧ m' = [(0, vT s.l), (1, .int .u8 (c.toNat : Int)), (5, vS p out c1), (6, vI from0), (7, vI i), (25, .bool t25)]) ?_ ?_
   · have hle0 := hle
     have hle : imm.le imm := Imm.le.refl _
     refine J_region <| R_d 5 [] [(19, .bool (i == (s.l.length : Int)))] ?_
     cases hc1 : (i == (s.l.length : Int)) with
     | true =>
      have hM0 := if_some_true hc1 ho0
      try rw [hc1]
      exact R_z [] [(25, .bool true)] <| T_w [(0, vT s.l), (1, .int .u8 (c.toNat : Int)), (5, vS p out c1), (6, vI from0), (7, vI i), (25, .bool true)] <| T_cut ⟨_, (pure_some hM0).symm, hle, rfl, rfl⟩
     | false =>
      have hM01 := if_some_false hc1 ho0
      try rw [hc1]
      refine R_d 7 [] [(20, vT s.l), (21, vI i)] ?_
      obtain ⟨b1, hy, hM⟩ := bind_some hM01
      exact R_si rfl rfl hy <| R_z [] [(25, .bool ((b1.toNat : Int) == (c.toNat : Int)))] <| T_w [(0, vT s.l), (1, .int .u8 (c.toNat : Int)), (5, vS p out c1), (6, vI from0), (7, vI i), (25, .bool ((b1.toNat : Int) == (c.toNat : Int)))] <| T_cut ⟨_, (pure_some hM).symm, hle, rfl, rfl⟩
   · rintro imm0 hs2 m2 ⟨t25, heq, le, rfl, rfl⟩
     subst o0
     replace h1 := RepL.mono (fun _ _ => Rp.mono le) h1
     replace hle := hle.trans le
     refine T_seq ?_
     obtain ⟨o01, ho01, hM⟩ := bind_some hM
     refine J_cut (fun imm' hs' m' => ∃ (out2 : List Str) (from01 : Int) (p2 : Option Addr) (c3 : Nat) (cs2 : List Value), o01 = (out2, from01) ∧ imm0.le imm' ∧ (RL imm' cs2 out2) ∧ hs' = [hO Str (vS p2 out2 c3) cs2] ∧ m' = [(0, vT s.l), (1, .int .u8 (c.toNat : Int)), (5, vS p2 out2 c3), (6, vI from01), (7, vI i)]) ?_ ?_
     · have hle0 := hle
       have hle : imm0.le imm0 := Imm.le.refl _
       refine J_cd ho01 ?_ ?_
       · intro hc2 hM
         refine J_seq <| J_region <| R_d 4 [] [(26, vS p out c1), (27, vT s.l), (28, vI from0), (29, vI i)] ?_
         obtain ⟨s1, hy1, hM⟩ := bind_some hM
         refine R_ss rfl hy1 <| R_buildSlice (cs := [vT s1.l]) (Rp.sz Str) rfl rfl rfl rfl (by kernel_rfl) (by kernel_rfl) ?_
         intro b2 hb1
         have h4 : RL imm0 [vT s1.l] ([s1] : List Str) := ⟨[vT s1.l], _, rfl, rfl, rfl, rfl⟩
         obtain ⟨out3, hy2, hM⟩ := bind_some hM
         refine R_ap 9 1 1 rfl rfl rfl h1 (.inr ⟨0, rfl⟩) h4 hy2 ?_
         intro p3 c4 cs3 h5
         exact R_hs (good_pick [1] (hs' := [hO Str (vS p3 out3 c4) cs3]) rfl (by decide)) <| R_z [] [(5, vS p3 out3 c4)] <| T_seq <| J_region <| R_z [] [(6, vI (W (i + 1)))] <| T_w [(0, vT s.l), (1, .int .u8 (c.toNat : Int)), (5, vS p3 out3 c4), (6, vI (W (i + 1))), (7, vI i)] <| T_cut ⟨_, _, _, _, _, (pure_some hM).symm, hle, h5, rfl, rfl⟩
       · intro hc2 hM
         exact J_skip <| T_w [(0, vT s.l), (1, .int .u8 (c.toNat : Int)), (5, vS p out c1), (6, vI from0), (7, vI i)] <| T_cut ⟨_, _, _, _, _, (pure_some hM).symm, hle, h1, rfl, rfl⟩
     · rintro imm01 hs2 m2 ⟨out2, from01, p2, c3, cs2, heq1, le1, h3, rfl, rfl⟩
       subst o01
       replace hle := hle.trans le1
       exact T_block_normal <| T_seq <| J_region <| R_z [] [(7, vI (W (i + 1)))] <| T_loop <| J_w [(0, vT s.l), (1, .int .u8 (c.toNat : Int)), (5, vS p2 out2 c3), (6, vI from01), (7, vI (W (i + 1)))] <| ih out2 from01 (W (i + 1)) _ hM hle h3 hg ho hx
 · intro hc hM
   exact J_exit <| T_then_exit <| T_then_exit <| T_w [(5, vS p out c1)] <| hx _ _ _ _ _ (pure_some hM).symm hle h1
def M.spec_l16Cut (s : Str) (c : UInt8) : Option ((List Str)) := do
 let out1 ← M.spec_l16Cut_l1 s c ([] : List Str) 0 0
 pure (id out1)
theorem spec_l16Cut_ok : ∀ (s : Str) (c : UInt8) r, M.spec_l16Cut s c = some r → ∀ {imm : Imm} , Ret Try.prog 44 [vT s.l, .int .u8 (c.toNat : Int)] imm [] (spec_l16Cut_post  r) := by
 intro s c r hM imm
 unfold M.spec_l16Cut at hM
 refine ret_of_J (fn := Try.f44) (c := (bodyOf Try.f44)) Try.func44 rfl rfl ?_
 rintro B - -
 have hle : imm.le imm := Imm.le.refl _
 refine J_seq <| J_region <| R_z [] [] <| T_seq <| J_seq <| J_region <| R_buildSlice (cs := []) (Rp.sz Str) rfl rfl rfl rfl (by kernel_rfl) (by kernel_rfl) ?_
 intro b hb
 have h : RL imm [] ([] : List Str) := rfl
 refine R_z [] [(5, vS (some ⟨b, 0, none⟩) ([] : List Str) 0)] <| T_seq <| J_seq <| J_region <| R_z [] [(6, vI 0)] <| T_seq <| J_seq <| J_seq <| J_region <| R_z [] [(7, vI 0)] <| T_seq <| J_block <| J_w [(0, vT s.l), (1, .int .u8 (c.toNat : Int)), (5, vS (some ⟨b, 0, none⟩) ([] : List Str) 0), (6, vI 0), (7, vI 0)] ?_
 obtain ⟨o02, ho02, hM⟩ := bind_some hM
 refine spec_l16Cut_l1_ok s c ([] : List Str) 0 0 o02 ho02 (Imm.le.refl _) h (fun _ _ _ h => h) (fun _ _ h => h) ?_
 intro imm02 out1 p1 c2 cs1 heq2 le2 h2
 subst o02
 replace hle := hle.trans le2
 refine T_block_here <| T_seq <| J_seq <| J_region <| R_z [] [(4, vS p1 out1 c2)] <| T_seq <| J_ret <| T_freeze 0 rfl ?_
 intro imm03 le3 hl0
 have h6 := SL.of_frozen hl0 le3 h2
 replace hle := hle.trans le3
 obtain rfl := pure_some hM
 exact T_RS ⟨_, _, (.tmp rfl ResV.nil), good_none, ⟨_, rfl, rfl, h6⟩⟩
def spec_l16Words_post (r : (List Str)) : Nat → Imm → List HA → Value → Prop := fun kk imm' hs' v =>
  ∃ (v0 : Value), hs' = [] ∧ v = tupV [v0] ∧ SL imm' v0 r
def M.spec_l16Words_l1 (y : (List Str)) (out : List Str) (i : Int) : Option (List Str) := do
 if (decide (i < (y.length : Int))) then
  let x ← idx y i
  let out2 ← (do
    if (!(x.l == ([] : List UInt8))) then
     let x1 ← idx y i
     let out3 ← app 16 out ([x1] : List Str)
     pure (id out3)
    else
     pure (id out)
      : Option (List Str))
  M.spec_l16Words_l1 y out2 (W (i + 1))
 else
  pure (id out)
 partial_fixpoint
theorem spec_l16Words_l1_ok (y : (List Str)) : ∀ (out : List Str) (i : Int) (o : List Str), M.spec_l16Words_l1 y out i = some o → ∀ {B : Base} {imm0 imm : Imm} {Q : Exit → Act → World → Prop}  {p : Option Addr} {c : Nat} {p1 : Option Addr} {c1 : Nat} {cs : List Value}, imm0.le imm → (SL imm (vS p y c) y) → (RL imm cs out) → (∀ l a w, ¬ Q (.goto l) a w) → (∀ a w, ¬ Q .outgrown a w) → (∀ (imm' : Imm) (out1 : List Str) (p2 : Option Addr) (c2 : Nat) (cs1 : List Value), o = out1 → imm0.le imm' → (RL imm' cs1 out1) → T 28 B Q (.exit 0) imm' [hO Str (vS p2 out1 c2) cs1] [(4, vS p2 out1 c2)]) → J Try.prog 28 B (nav (bodyOf Try.f55) [1, 1, 1, 0, 1, 0]) Q imm [hO Str (vS p1 out c1) cs] [(3, vS p y c), (4, vS p1 out c1), (5, vI i)] := by
 refine M.spec_l16Words_l1.partial_correctness y _ ?_
 intro self ih out i o hM B imm0 imm Q p c p1 c1 cs hle h h2 hg ho hx
 refine J_loop hg ho <| J_seq <| J_seq <| J_region <| R_z [] [(12, .bool (decide (i < (y.length : Int))))] <| T_seq <| J_cd hM ?_ ?_
 · intro hc hM
   refine J_skip <| T_seq <| J_seq <| J_block <| J_seq <| J_region <| R_d 2 [] [(15, vS p y c), (16, vI i)] ?_
   obtain ⟨x, hy1, hM⟩ := bind_some hM
   refine R_ix rfl rfl h hy1 ?_
   intro ad ccs hat hrep
   obtain rfl := hrep
   refine R_la 0 hat [vT x.l] (vT x.l) rfl <| R_z [] [(19, .bool (!(x.l == ([] : List UInt8))))] <| T_seq ?_
   obtain ⟨o0, ho0, hM⟩ := bind_some hM
   refine J_cut (fun imm' hs' m' => ∃ (out2 : List Str) (p3 : Option Addr) (c3 : Nat) (cs2 : List Value), o0 = out2 ∧ imm.le imm' ∧ (RL imm' cs2 out2) ∧ hs' = [hO Str (vS p3 out2 c3) cs2] ∧ m' = [(3, vS p y c), (4, vS p3 out2 c3), (5, vI i)]) ?_ ?_
   · have hle0 := hle
     have hle : imm.le imm := Imm.le.refl _
     refine J_cd ho0 ?_ ?_
     · intro hc1 hM
       refine J_region <| R_d 3 [] [(20, vS p1 out c1), (21, vS p y c), (22, vI i)] ?_
       obtain ⟨x1, hy2, hM⟩ := bind_some hM
       refine R_ix rfl rfl h hy2 ?_
       intro ad1 ccs1 hat1 hrep1
       obtain rfl := hrep1
       refine R_la 0 hat1 [vT x1.l] (vT x1.l) rfl <| R_buildSlice (cs := [vT x1.l]) (Rp.sz Str) rfl rfl rfl rfl (by kernel_rfl) (by kernel_rfl) ?_
       intro b1 hb1
       have h5 : RL imm [vT x1.l] ([x1] : List Str) := ⟨[vT x1.l], _, rfl, rfl, rfl, rfl⟩
       obtain ⟨out3, hy3, hM⟩ := bind_some hM
       refine R_ap 9 1 1 rfl rfl rfl h2 (.inr ⟨0, rfl⟩) h5 hy3 ?_
       intro p4 c4 cs3 h6
       exact R_hs (good_pick [1] (hs' := [hO Str (vS p4 out3 c4) cs3]) rfl (by decide)) <| R_z [] [(4, vS p4 out3 c4)] <| T_w [(3, vS p y c), (4, vS p4 out3 c4), (5, vI i)] <| T_cut ⟨_, _, _, _, (pure_some hM).symm, hle, h6, rfl, rfl⟩
     · intro hc1 hM
       exact J_skip <| T_w [(3, vS p y c), (4, vS p1 out c1), (5, vI i)] <| T_cut ⟨_, _, _, _, (pure_some hM).symm, hle, h2, rfl, rfl⟩
   · rintro imm01 hs2 m2 ⟨out2, p3, c3, cs2, heq, le1, h4, rfl, rfl⟩
     subst o0
     replace h := h.mono le1
     replace hle := hle.trans le1
     exact T_block_normal <| T_seq <| J_region <| R_z [] [(5, vI (W (i + 1)))] <| T_loop <| J_w [(3, vS p y c), (4, vS p3 out2 c3), (5, vI (W (i + 1)))] <| ih out2 (W (i + 1)) _ hM hle h h4 hg ho hx
 · intro hc hM
   exact J_exit <| T_then_exit <| T_then_exit <| T_w [(4, vS p1 out c1)] <| hx _ _ _ _ _ (pure_some hM).symm hle h2
def M.spec_l16Words (s : Str) : Option ((List Str)) := do
 let y ← M.spec_l16Cut s (32 : UInt8)
 let out1 ← M.spec_l16Words_l1 y ([] : List Str) 0
 pure (id out1)
theorem spec_l16Words_ok : ∀ (s : Str) r, M.spec_l16Words s = some r → ∀ {imm : Imm} , Ret Try.prog 55 [vT s.l] imm [] (spec_l16Words_post  r) := by
 intro s r hM imm
 unfold M.spec_l16Words at hM
 refine ret_of_J (fn := Try.f55) (c := (bodyOf Try.f55)) Try.func55 rfl rfl ?_
 rintro B - -
 have hle : imm.le imm := Imm.le.refl _
 refine J_seq <| J_region <| R_z [] [] <| T_seq <| J_seq <| J_region <| R_d 1 [] [(6, vT s.l)] ?_
 obtain ⟨y, hy, hM⟩ := bind_some hM
 refine R_call (hs1 := []) (rest := []) rfl rfl rfl rfl (by kernel_rfl) rfl rfl (spec_l16Cut_ok s (32 : UInt8) _ hy ) ?_
 rintro imm0 hs2 v2 k2 le - ⟨v0, rfl, rfl, h⟩ -
 replace hle := hle.trans le
 obtain ⟨p, c, rfl⟩ := h.form
 refine R_z [] [(3, vS p y c)] <| T_seq <| J_seq <| J_region <| R_buildSlice (cs := []) (Rp.sz Str) rfl rfl rfl rfl (by kernel_rfl) (by kernel_rfl) ?_
 intro b hb
 have h1 : RL imm0 [] ([] : List Str) := rfl
 refine R_z [] [(4, vS (some ⟨b, 0, none⟩) ([] : List Str) 0)] <| T_seq <| J_seq <| J_seq <| J_region <| R_z [] [(5, vI 0)] <| T_seq <| J_block <| J_w [(3, vS p y c), (4, vS (some ⟨b, 0, none⟩) ([] : List Str) 0), (5, vI 0)] ?_
 obtain ⟨o01, ho01, hM⟩ := bind_some hM
 refine spec_l16Words_l1_ok y ([] : List Str) 0 o01 ho01 (Imm.le.refl _) h h1 (fun _ _ _ h => h) (fun _ _ h => h) ?_
 intro imm02 out1 p2 c2 cs1 heq1 le2 h3
 subst o01
 replace hle := hle.trans le2
 refine T_block_here <| T_seq <| J_seq <| J_region <| R_z [] [(2, vS p2 out1 c2)] <| T_seq <| J_ret <| T_freeze 0 rfl ?_
 intro imm03 le3 hl0
 have h7 := SL.of_frozen hl0 le3 h3
 replace hle := hle.trans le3
 obtain rfl := pure_some hM
 exact T_RS ⟨_, _, (.tmp rfl ResV.nil), good_none, ⟨_, rfl, rfl, h7⟩⟩
def spec_l16Num_post (r : Int × Bool) : Nat → Imm → List HA → Value → Prop := fun kk imm' hs' v =>
  ∃ (v0 : Value) (v1 : Value), hs' = [] ∧ v = tupV [v0, v1] ∧ v0 = .int .i64 r.1 ∧ v1 = .bool r.2
def M.spec_l16Num_l1 (s1 : Str) (n0 : Int) (i : Int) : Option (Out Int (Int × Bool)) := do
 if (decide (i < (s1.l.length : Int))) then
  let t54 ← (do
    let b2 ← sidx s1 i
    if (decide ((b2.toNat : Int) < 48)) then
     pure true
    else
     let b3 ← sidx s1 i
     pure (decide ((b3.toNat : Int) > 57))
      : Option Bool)
  if t54 then
   pure (.ret (0, false))
  else
   let b4 ← sidx s1 i
   M.spec_l16Num_l1 s1 (W ((W (n0 * 10)) + (W (IntKind.u8.wrap ((b4.toNat : Int) - 48))))) (W (i + 1))
 else
  pure (.done n0)
 partial_fixpoint
theorem spec_l16Num_l1_ok (s1 : Str) : ∀ (n0 : Int) (i : Int) (o : Out Int (Int × Bool)), M.spec_l16Num_l1 s1 n0 i = some o → ∀ {B : Base} {imm0 imm : Imm} {Q : Exit → Act → World → Prop} {neg : Bool} , imm0.le imm → (∀ l a w, ¬ Q (.goto l) a w) → (∀ a w, ¬ Q .outgrown a w) → (∀ (imm' : Imm) (n01 : Int), o = (.done n01) → imm0.le imm' → T 67 B Q (.exit 0) imm' [] [(4, .bool neg), (5, vI n01)]) → (∀ r imm' hs' m', o = (.ret r) → imm0.le imm' → RS Try.prog Try.f76 B (spec_l16Num_post  r) imm' hs' m' → T 67 B Q .ret imm' hs' m') → J Try.prog 67 B (nav (bodyOf Try.f76) [1, 1, 1, 1, 1, 0, 1, 0]) Q imm [] [(0, vT s1.l), (4, .bool neg), (5, vI n0), (6, vI i)] := by
 refine M.spec_l16Num_l1.partial_correctness s1 _ ?_
 intro self ih n0 i o hM B imm0 imm Q neg hle  hg ho hx hr
 refine J_loop hg ho <| J_seq <| J_seq <| J_region <| R_z [] [(42, .bool (decide (i < (s1.l.length : Int))))] <| T_seq <| J_cd hM ?_ ?_
 · intro hc7 hM
   refine J_skip <| T_seq <| J_seq <| J_block <| J_seq <| J_seq ?_
   obtain ⟨o03, ho03, hM⟩ := bind_some hM
   refine J_cut (fun imm' hs' m' => ∃ (t54 : Bool), o03 = t54 ∧ imm.le imm' ∧ hs' = [] ∧ m' = [(0, vT s1.l), (4, .bool neg), (5, vI n0), (6, vI i), (54, .bool t54)]) ?_ ?_
   · have hle0 := hle
     have hle : imm.le imm := Imm.le.refl _
     refine J_region <| R_d 2 [] [(45, vT s1.l), (46, vI i)] ?_
     obtain ⟨b2, hy3, hM⟩ := bind_some ho03
     refine R_si rfl rfl hy3 <| R_d 5 [] [(49, .bool (decide ((b2.toNat : Int) < 48)))] ?_
     cases hc8 : (decide ((b2.toNat : Int) < 48)) with
     | true =>
      have hM010 := if_some_true hc8 hM
      try rw [hc8]
      exact R_z [] [(54, .bool true)] <| T_w [(0, vT s1.l), (4, .bool neg), (5, vI n0), (6, vI i), (54, .bool true)] <| T_cut ⟨_, (pure_some hM010).symm, hle, rfl, rfl⟩
     | false =>
      have hM011 := if_some_false hc8 hM
      try rw [hc8]
      refine R_d 7 [] [(50, vT s1.l), (51, vI i)] ?_
      obtain ⟨b3, hy4, hM⟩ := bind_some hM011
      exact R_si rfl rfl hy4 <| R_z [] [(54, .bool (decide ((b3.toNat : Int) > 57)))] <| T_w [(0, vT s1.l), (4, .bool neg), (5, vI n0), (6, vI i), (54, .bool (decide ((b3.toNat : Int) > 57)))] <| T_cut ⟨_, (pure_some hM).symm, hle, rfl, rfl⟩
   · rintro imm03 hs2 m2 ⟨t54, heq3, le3, rfl, rfl⟩
     subst o03
     replace hle := hle.trans le3
     refine T_seq <| J_cd hM ?_ ?_
     · intro hc9 hM
       exact J_seq <| J_region <| R_z [] [(2, vI 0), (3, .bool false)] <| T_seq <| J_ret <| T_then_ret <| T_block_ret <| T_then_ret <| T_then_ret <| hr _ _ _ _ (pure_some hM).symm hle ⟨_, _, (.tmp rfl (.tmp rfl ResV.nil)), good_none, ⟨_, _, rfl, rfl, rfl, rfl⟩⟩
     · intro hc9 hM
       refine J_skip <| T_seq <| J_region <| R_d 4 [] [(56, vI (W (n0 * 10))), (57, vT s1.l), (58, vI i)] ?_
       obtain ⟨b4, hy5, hM⟩ := bind_some hM
       exact R_si rfl rfl hy5 <| R_z [] [(5, vI (W ((W (n0 * 10)) + (W (IntKind.u8.wrap ((b4.toNat : Int) - 48))))))] <| T_block_normal <| T_seq <| J_region <| R_z [] [(6, vI (W (i + 1)))] <| T_loop <| J_w [(0, vT s1.l), (4, .bool neg), (5, vI (W ((W (n0 * 10)) + (W (IntKind.u8.wrap ((b4.toNat : Int) - 48)))))), (6, vI (W (i + 1)))] <| ih (W ((W (n0 * 10)) + (W (IntKind.u8.wrap ((b4.toNat : Int) - 48))))) (W (i + 1)) _ hM hle  hg ho hx hr
 · intro hc7 hM
   exact J_exit <| T_then_exit <| T_then_exit <| T_w [(4, .bool neg), (5, vI n0)] <| hx _ _ (pure_some hM).symm hle
def M.spec_l16Num (s : Str) : Option (Int × Bool) := do
 let neg ← (do
   if (decide ((s.l.length : Int) > 0)) then
    let b ← sidx s 0
    pure ((b.toNat : Int) == 45)
   else
    pure false
     : Option Bool)
 let s1 ← (do
   if neg then
    let s2 ← sslc s 1 (s.l.length : Int)
    pure (id s2)
   else
    pure (id s)
     : Option Str)
 let t38 ← (do
   if ((s1.l.length : Int) == 0) then
    pure true
   else
    if (decide ((s1.l.length : Int) > 17)) then
     pure true
    else
     let b1 ← sidx s1 0
     if ((b1.toNat : Int) == 48) then
      if (decide ((s1.l.length : Int) > 1)) then
       pure true
      else
       pure (id neg)
     else
      pure false
     : Option Bool)
 if t38 then
  pure (0, false)
 else
  match ← M.spec_l16Num_l1 s1 0 0 with
  | .ret r0 => pure r0
  | .done n01 =>
   let n02 ← (do
     if neg then
      pure (W (0 - n01))
     else
      pure (id n01)
       : Option Int)
   pure (n02, true)
theorem spec_l16Num_ok : ∀ (s : Str) r, M.spec_l16Num s = some r → ∀ {imm : Imm} , Ret Try.prog 76 [vT s.l] imm [] (spec_l16Num_post  r) := by
 intro s r hM imm
 unfold M.spec_l16Num at hM
 refine ret_of_J (fn := Try.f76) (c := (bodyOf Try.f76)) Try.func76 rfl rfl ?_
 rintro B - -
 have hle : imm.le imm := Imm.le.refl _
 refine J_seq <| J_region <| R_z [] [] <| T_seq <| J_seq ?_
 obtain ⟨o0, ho0, hM⟩ := bind_some hM
 refine J_cut (fun imm' hs' m' => ∃ (neg : Bool), o0 = neg ∧ imm.le imm' ∧ hs' = [] ∧ m' = [(0, vT s.l), (4, .bool neg)]) ?_ ?_
 · have hle0 := hle
   have hle : imm.le imm := Imm.le.refl _
   refine J_region <| R_d 4 [] [(10, .bool (decide ((s.l.length : Int) > 0)))] ?_
   cases hc : (decide ((s.l.length : Int) > 0)) with
   | true =>
    have hM0 := if_some_true hc ho0
    try rw [hc]
    refine R_d 5 [] [(11, vT s.l)] ?_
    obtain ⟨b, hy, hM⟩ := bind_some hM0
    exact R_si rfl rfl hy <| R_z [] [(4, .bool ((b.toNat : Int) == 45))] <| T_w [(0, vT s.l), (4, .bool ((b.toNat : Int) == 45))] <| T_cut ⟨_, (pure_some hM).symm, hle, rfl, rfl⟩
   | false =>
    have hM01 := if_some_false hc ho0
    try rw [hc]
    exact R_z [] [(4, .bool false)] <| T_w [(0, vT s.l), (4, .bool false)] <| T_cut ⟨_, (pure_some hM01).symm, hle, rfl, rfl⟩
 · rintro imm0 hs2 m2 ⟨neg, heq, le, rfl, rfl⟩
   subst o0
   replace hle := hle.trans le
   refine T_seq <| J_seq <| J_seq <| J_region <| R_z [] [(15, .bool neg)] <| T_seq ?_
   obtain ⟨o01, ho01, hM⟩ := bind_some hM
   refine J_cut (fun imm' hs' m' => ∃ (s1 : Str), o01 = s1 ∧ imm0.le imm' ∧ hs' = [] ∧ m' = [(0, vT s1.l), (4, .bool neg)]) ?_ ?_
   · have hle0 := hle
     have hle : imm0.le imm0 := Imm.le.refl _
     refine J_cd ho01 ?_ ?_
     · intro hc1 hM
       refine J_region <| R_d 1 [] [(16, vT s.l)] ?_
       obtain ⟨s2, hy1, hM⟩ := bind_some hM
       exact R_ss rfl hy1 <| R_z [] [(0, vT s2.l)] <| T_w [(0, vT s2.l), (4, .bool neg)] <| T_cut ⟨_, (pure_some hM).symm, hle, rfl, rfl⟩
     · intro hc1 hM
       exact J_skip <| T_w [(0, vT s.l), (4, .bool neg)] <| T_cut ⟨_, (pure_some hM).symm, hle, rfl, rfl⟩
   · rintro imm01 hs2 m2 ⟨s1, heq1, le1, rfl, rfl⟩
     subst o01
     replace hle := hle.trans le1
     refine T_seq <| J_seq <| J_seq ?_
     obtain ⟨o02, ho02, hM⟩ := bind_some hM
     refine J_cut (fun imm' hs' m' => ∃ (t38 : Bool), o02 = t38 ∧ imm01.le imm' ∧ hs' = [] ∧ m' = [(0, vT s1.l), (4, .bool neg), (38, .bool t38)]) ?_ ?_
     · have hle0 := hle
       have hle : imm01.le imm01 := Imm.le.refl _
       refine J_region <| R_d 4 [] [(21, .bool ((s1.l.length : Int) == 0))] ?_
       cases hc2 : ((s1.l.length : Int) == 0) with
       | true =>
        have hM02 := if_some_true hc2 ho02
        try rw [hc2]
        exact R_z [] [(38, .bool true)] <| T_w [(0, vT s1.l), (4, .bool neg), (38, .bool true)] <| T_cut ⟨_, (pure_some hM02).symm, hle, rfl, rfl⟩
       | false =>
        have hM03 := if_some_false hc2 ho02
        try rw [hc2]
        refine R_d 9 [] [(26, .bool (decide ((s1.l.length : Int) > 17)))] ?_
        cases hc3 : (decide ((s1.l.length : Int) > 17)) with
        | true =>
         have hM04 := if_some_true hc3 hM03
         try rw [hc3]
         exact R_z [] [(38, .bool true)] <| T_w [(0, vT s1.l), (4, .bool neg), (38, .bool true)] <| T_cut ⟨_, (pure_some hM04).symm, hle, rfl, rfl⟩
        | false =>
         have hM05 := if_some_false hc3 hM03
         try rw [hc3]
         refine R_d 10 [] [(27, vT s1.l)] ?_
         obtain ⟨b1, hy2, hM⟩ := bind_some hM05
         refine R_si rfl rfl hy2 <| R_d 13 [] [(30, .bool ((b1.toNat : Int) == 48))] ?_
         cases hc4 : ((b1.toNat : Int) == 48) with
         | true =>
          have hM06 := if_some_true hc4 hM
          try rw [hc4]
          refine R_d 17 [] [(34, .bool (decide ((s1.l.length : Int) > 1)))] ?_
          cases hc5 : (decide ((s1.l.length : Int) > 1)) with
          | true =>
           have hM07 := if_some_true hc5 hM06
           try rw [hc5]
           exact R_z [] [(38, .bool true)] <| T_w [(0, vT s1.l), (4, .bool neg), (38, .bool true)] <| T_cut ⟨_, (pure_some hM07).symm, hle, rfl, rfl⟩
          | false =>
           have hM08 := if_some_false hc5 hM06
           try rw [hc5]
           exact R_z [] [(38, .bool neg)] <| T_w [(0, vT s1.l), (4, .bool neg), (38, .bool neg)] <| T_cut ⟨_, (pure_some hM08).symm, hle, rfl, rfl⟩
         | false =>
          have hM09 := if_some_false hc4 hM
          try rw [hc4]
          exact R_z [] [(38, .bool false)] <| T_w [(0, vT s1.l), (4, .bool neg), (38, .bool false)] <| T_cut ⟨_, (pure_some hM09).symm, hle, rfl, rfl⟩
     · rintro imm02 hs2 m2 ⟨t38, heq2, le2, rfl, rfl⟩
       subst o02
       replace hle := hle.trans le2
       refine T_seq <| J_cd hM ?_ ?_
       · intro hc6 hM
         refine J_seq <| J_region <| R_z [] [(2, vI 0), (3, .bool false)] <| T_seq <| J_ret <| T_then_ret ?_
         obtain rfl := pure_some hM
         exact T_RS ⟨_, _, (.tmp rfl (.tmp rfl ResV.nil)), good_none, ⟨_, _, rfl, rfl, rfl, rfl⟩⟩
       · intro hc6 hM
         refine J_skip <| T_seq <| J_seq <| J_region <| R_z [] [(5, vI 0)] <| T_seq <| J_seq <| J_seq <| J_region <| R_z [] [(6, vI 0)] <| T_seq <| J_block <| J_w [(0, vT s1.l), (4, .bool neg), (5, vI 0), (6, vI 0)] ?_
         obtain ⟨o04, ho04, hM⟩ := bind_some hM
         refine spec_l16Num_l1_ok s1 0 0 o04 ho04 (Imm.le.refl _)  (fun _ _ _ h => h) (fun _ _ h => h) ?_ ?_
         · intro imm04 n01 heq4 le4
           subst o04
           replace hle := hle.trans le4
           refine T_block_here <| T_seq <| J_seq <| J_seq <| J_region <| R_z [] [(63, .bool neg)] <| T_seq ?_
           obtain ⟨o05, ho05, hM⟩ := bind_some hM
           refine J_cut (fun imm' hs' m' => ∃ (n02 : Int), o05 = n02 ∧ imm04.le imm' ∧ hs' = [] ∧ m' = [(5, vI n02)]) ?_ ?_
           · have hle0 := hle
             have hle : imm04.le imm04 := Imm.le.refl _
             refine J_cd ho05 ?_ ?_
             · intro hc10 hM
               exact J_region <| R_z [] [(5, vI (W (0 - n01)))] <| T_w [(5, vI (W (0 - n01)))] <| T_cut ⟨_, (pure_some hM).symm, hle, rfl, rfl⟩
             · intro hc10 hM
               exact J_skip <| T_w [(5, vI n01)] <| T_cut ⟨_, (pure_some hM).symm, hle, rfl, rfl⟩
           · rintro imm05 hs2 m2 ⟨n02, heq5, le5, rfl, rfl⟩
             subst o05
             replace hle := hle.trans le5
             refine T_seq <| J_seq <| J_region <| R_z [] [(2, vI n02), (3, .bool true)] <| T_seq <| J_ret ?_
             obtain rfl := pure_some hM
             exact T_RS ⟨_, _, (.tmp rfl (.tmp rfl ResV.nil)), good_none, ⟨_, _, rfl, rfl, rfl, rfl⟩⟩
         · intro r0 imm9 hs9 m9 heq9 le9 hrs9
           subst heq9
           refine T_block_ret <| T_then_ret ?_
           obtain rfl := pure_some hM
           exact T_RS hrs9
def spec_l4Array_post (r : impl_Array) : Nat → Imm → List HA → Value → Prop := fun kk imm' hs' v =>
  ∃ (v0 : Value), hs' = [] ∧ v = tupV [v0] ∧ (∃ cs, v0 = .agg ⟨cs⟩ ∧ Rp.rep imm' cs r)
def M.spec_l4Array_l1 (w0 : (List Str)) (i : Int) (Name : Str) (Dims : List Int) : Option ((Str × List Int)) := do
 let t15 ← (do
   if (decide (i < (w0.length : Int))) then
    pure (decide (i ≤ 4))
   else
    pure false
     : Option Bool)
 if t15 then
  if (i == 1) then
   let x ← idx w0 1
   M.spec_l4Array_l1 w0 (W (i + 1)) x Dims
  else
   let x1 ← idx w0 i
   let (y1, y2) ← M.spec_l16Num x1
   let l ← app 8 Dims ([y1] : List Int)
   M.spec_l4Array_l1 w0 (W (i + 1)) Name l
 else
  pure (Name, Dims)
 partial_fixpoint
theorem spec_l4Array_l1_ok (w0 : (List Str)) : ∀ (i : Int) (Name : Str) (Dims : List Int) (o : (Str × List Int)), M.spec_l4Array_l1 w0 i Name Dims = some o → ∀ {B : Base} {imm0 imm : Imm} {Q : Exit → Act → World → Prop}  {p : Option Addr} {c : Nat} {b : Nat} {b1 : Nat} {p1 : Option Addr} {c1 : Nat} {cs : List Value}, imm0.le imm → (SL imm (vS p w0 c) w0) → (RL imm cs Dims) → (∀ l a w, ¬ Q (.goto l) a w) → (∀ a w, ¬ Q .outgrown a w) → (∀ (imm' : Imm) (Name1 : Str) (Dims1 : List Int) (p2 : Option Addr) (c2 : Nat) (cs1 : List Value), o = (Name1, Dims1) → imm0.le imm' → (RL imm' cs1 Dims1) → T 39 B Q (.exit 0) imm' [hO Int (vS p2 Dims1 c2) cs1, hB b1 [vT Name1.l, vS p2 Dims1 c2], hB b [vT ([]), .slice none 0 0]] [(2, vP b 0), (3, vP b1 0)]) → J Try.prog 39 B (nav (bodyOf Try.f56) [1, 1, 0, 1, 0]) Q imm [hO Int (vS p1 Dims c1) cs, hB b1 [vT Name.l, vS p1 Dims c1], hB b [vT ([]), .slice none 0 0]] [(0, vS p w0 c), (2, vP b 0), (3, vP b1 0), (4, vI i)] := by
 refine M.spec_l4Array_l1.partial_correctness w0 _ ?_
 intro self ih i Name Dims o hM B imm0 imm Q p c b b1 p1 c1 cs hle h h2 hg ho hx
 refine J_loop hg ho <| J_seq <| J_seq ?_
 obtain ⟨o0, ho0, hM⟩ := bind_some hM
 refine J_cut (fun imm' hs' m' => ∃ (t15 : Bool), o0 = t15 ∧ imm.le imm' ∧ hs' = [hO Int (vS p1 Dims c1) cs, hB b1 [vT Name.l, vS p1 Dims c1], hB b [vT ([]), .slice none 0 0]] ∧ m' = [(0, vS p w0 c), (2, vP b 0), (3, vP b1 0), (4, vI i), (15, .bool t15)]) ?_ ?_
 · have hle0 := hle
   have hle : imm.le imm := Imm.le.refl _
   refine J_region <| R_d 5 [] [(12, .bool (decide (i < (w0.length : Int))))] ?_
   cases hc : (decide (i < (w0.length : Int))) with
   | true =>
    have hM0 := if_some_true hc ho0
    try rw [hc]
    exact R_z [] [(15, .bool (decide (i ≤ 4)))] <| T_w [(0, vS p w0 c), (2, vP b 0), (3, vP b1 0), (4, vI i), (15, .bool (decide (i ≤ 4)))] <| T_cut ⟨_, (pure_some hM0).symm, hle, rfl, rfl⟩
   | false =>
    have hM01 := if_some_false hc ho0
    try rw [hc]
    exact R_z [] [(15, .bool false)] <| T_w [(0, vS p w0 c), (2, vP b 0), (3, vP b1 0), (4, vI i), (15, .bool false)] <| T_cut ⟨_, (pure_some hM01).symm, hle, rfl, rfl⟩
 · rintro imm0 hs2 m2 ⟨t15, heq, le, rfl, rfl⟩
   subst o0
   replace h := h.mono le
   replace h2 := RepL.mono (fun _ _ => Rp.mono le) h2
   replace hle := hle.trans le
   refine T_seq <| J_cd hM ?_ ?_
   · intro hc1 hM
     refine J_skip <| T_seq <| J_seq <| J_block <| J_seq <| J_seq <| J_region <| R_z [] [(19, .bool (i == 1))] <| T_seq <| J_cd hM ?_ ?_
     · intro hc2 hM
       refine J_seq <| J_region <| R_d 1 [] [(20, vS p w0 c)] ?_
       obtain ⟨x, hy, hM⟩ := bind_some hM
       refine R_ix rfl rfl h hy ?_
       intro ad ccs hat hrep
       obtain rfl := hrep
       exact R_la 0 hat [vT x.l] (vT x.l) rfl <| R_d 4 [] [(23, vP b1 0)] <| R_sb 1 [vT x.l, vS p1 Dims c1] [hO Int (vS p1 Dims c1) cs, hB b1 [vT x.l, vS p1 Dims c1], hB b [vT ([]), .slice none 0 0]] rfl rfl rfl rfl <| R_end rfl <| T_seq <| J_exit <| T_then_exit <| T_block_here <| T_seq <| J_region <| R_z [] [(4, vI (W (i + 1)))] <| T_loop <| J_w [(0, vS p w0 c), (2, vP b 0), (3, vP b1 0), (4, vI (W (i + 1)))] <| ih (W (i + 1)) x Dims _ hM hle h h2 hg ho hx
     · intro hc2 hM
       refine J_skip <| T_seq <| J_seq <| J_region <| R_d 2 [] [(25, vS p w0 c), (26, vI i)] ?_
       obtain ⟨x1, hy1, hM⟩ := bind_some hM
       refine R_ix rfl rfl h hy1 ?_
       intro ad1 ccs1 hat1 hrep1
       obtain rfl := hrep1
       refine R_la 0 hat1 [vT x1.l] (vT x1.l) rfl ?_
       obtain ⟨⟨y1, y2⟩, hy2, hM⟩ := bind_some hM
       refine R_call (hs1 := []) (rest := [hO Int (vS p1 Dims c1) cs, hB b1 [vT Name.l, vS p1 Dims c1], hB b [vT ([]), .slice none 0 0]]) rfl rfl rfl rfl (by kernel_rfl) rfl rfl (spec_l16Num_ok x1 _ hy2 ) ?_
       rintro imm01 hs2 v2 k2 le1 - ⟨v0, v01, rfl, rfl, rfl, rfl⟩ -
       replace h := h.mono le1
       replace h2 := RepL.mono (fun _ _ => Rp.mono le1) h2
       replace hle := hle.trans le1
       refine R_z [] [(5, vI y1)] <| T_seq <| J_region <| R_d 3 [1] [(33, vS p1 Dims c1), (34, vI y1)] <| R_buildSlice (cs := [vI y1]) (Rp.sz Int) rfl rfl rfl rfl (by kernel_rfl) (by kernel_rfl) ?_
       intro b2 hb2
       have h6 : RL imm01 [vI y1] ([y1] : List Int) := ⟨[vI y1], _, rfl, rfl, rfl, rfl⟩
       obtain ⟨l, hy3, hM⟩ := bind_some hM
       refine R_ap 3 1 1 rfl rfl rfl h2 (.inr ⟨0, rfl⟩) h6 hy3 ?_
       intro p3 c3 cs2 h7
       exact R_hs (good_pick [1, 2, 3] (hs' := [hO Int (vS p3 l c3) cs2, hB b1 [vT Name.l, vS p1 Dims c1], hB b [vT ([]), .slice none 0 0]]) rfl (by decide)) <| R_d 6 [] [(37, vP b1 1)] <| R_sb 1 [vT Name.l, vS p3 l c3] [hO Int (vS p3 l c3) cs2, hB b1 [vT Name.l, vS p3 l c3], hB b [vT ([]), .slice none 0 0]] rfl rfl rfl rfl <| R_end rfl <| T_block_normal <| T_seq <| J_region <| R_z [] [(4, vI (W (i + 1)))] <| T_loop <| J_w [(0, vS p w0 c), (2, vP b 0), (3, vP b1 0), (4, vI (W (i + 1)))] <| ih (W (i + 1)) Name l _ hM hle h h7 hg ho hx
   · intro hc1 hM
     exact J_exit <| T_then_exit <| T_then_exit <| T_w [(2, vP b 0), (3, vP b1 0)] <| hx _ _ _ _ _ _ (pure_some hM).symm hle h2
def M.spec_l4Array (w0 : (List Str)) : Option (impl_Array) := do
 let (Name1, Dims1) ← M.spec_l4Array_l1 w0 1 (⟨[]⟩ : Str) ([] : List Int)
 pure (impl_Array.mk Name1 Dims1)
theorem spec_l4Array_ok : ∀ (w0 : (List Str)) r, M.spec_l4Array w0 = some r → ∀ {imm : Imm} {p : Option Addr} {c : Nat}, (SL imm (vS p w0 c) w0) → Ret Try.prog 56 [vS p w0 c] imm [] (spec_l4Array_post  r) := by
 intro w0 r hM imm p c h
 unfold M.spec_l4Array at hM
 refine ret_of_J (fn := Try.f56) (c := (bodyOf Try.f56)) Try.func56 rfl rfl ?_
 rintro B - -
 have hle : imm.le imm := Imm.le.refl _
 refine J_seq <| J_region <| R_alloc (c := ⟨[vT ([]), .slice none 0 0]⟩) rfl rfl rfl (by kernel_rfl) ?_
 intro b hb
 refine R_end rfl <| T_seq <| J_seq <| J_region <| R_d 1 [] [(7, vA [vT ([]), .slice none 0 0])] <| R_alloc (c := ⟨[vT ([]), .slice none 0 0]⟩) rfl rfl rfl (by kernel_rfl) ?_
 intro b1 hb1
 refine R_sb 0 [vT ([]), .slice none 0 0] [hB b1 [vT ([]), .slice none 0 0], hB b [vT ([]), .slice none 0 0]] rfl rfl rfl rfl <| R_end rfl <| T_seq <| J_seq <| J_seq <| J_region <| R_z [] [(4, vI 1)] <| T_seq <| J_block <| J_w [(0, vS p w0 c), (2, vP b 0), (3, vP b1 0), (4, vI 1)] <| J_hs (good_nil (Rp.sz Int)) ?_
 have h1 : RL imm [] ([] : List Int) := RepL.nil
 obtain ⟨o01, ho01, hM⟩ := bind_some hM
 refine spec_l4Array_l1_ok w0 1 (⟨[]⟩ : Str) ([] : List Int) o01 ho01 (Imm.le.refl _) h h1 (fun _ _ _ h => h) (fun _ _ h => h) ?_
 intro imm02 Name1 Dims1 p2 c2 cs1 heq1 le2 h3
 subst o01
 replace hle := hle.trans le2
 refine T_block_here <| T_seq <| J_seq <| J_region <| R_d 1 [1] [(38, vA [vT Name1.l, vS p2 Dims1 c2])] <| R_sb 2 [vT Name1.l, vS p2 Dims1 c2] [hO Int (vS p2 Dims1 c2) cs1, hB b1 [vT Name1.l, vS p2 Dims1 c2], hB b [vT Name1.l, vS p2 Dims1 c2]] rfl rfl rfl rfl <| R_end rfl <| T_seq <| J_ret <| T_freeze 0 rfl ?_
 intro imm03 le3 hl0
 have h8 := SL.of_frozen hl0 le3 h3
 replace hle := hle.trans le3
 obtain rfl := pure_some hM
 exact T_RS ⟨_, _, (.cell 1 rfl rfl (by kernel_rfl) ResV.nil), good_none, ⟨_, rfl, rfl, ⟨_, rfl, (impl_Array_shut ⟨_, rfl, h8⟩)⟩⟩⟩
def spec_l1Zero_post (r : impl_Affine) : Nat → Imm → List HA → Value → Prop := fun kk imm' hs' v =>
  ∃ (a0_0 : Option Addr) (c0_0 : Nat) (s0_0 : List Value), hs' = [.osl (.slice a0_0 r.Coefs.length c0_0) (Rp.sz Int) s0_0] ∧ v = tupV [(.agg ⟨[.slice a0_0 r.Coefs.length c0_0, .int .i64 r.Const]⟩)] ∧ RepL (Rp.rep imm') (Rp.sz Int) s0_0 r.Coefs
def M.spec_l1Zero  : Option (impl_Affine) := do
 pure (impl_Affine.mk ([0, 0, 0, 0] : List Int) 0)
theorem spec_l1Zero_ok : ∀ r, M.spec_l1Zero  = some r → ∀ {imm : Imm} , Ret Try.prog 86 [] imm [] (spec_l1Zero_post  r) := by
 intro  r hM imm
 unfold M.spec_l1Zero at hM
 refine ret_of_J (fn := Try.f86) (c := (bodyOf Try.f86)) Try.func86 rfl rfl ?_
 rintro B - -
 have hle : imm.le imm := Imm.le.refl _
 refine J_seq <| J_region <| R_alloc (c := ⟨[.slice none 0 0, vI 0]⟩) rfl rfl rfl (by kernel_rfl) ?_
 intro b hb
 refine R_end rfl <| T_seq <| J_seq <| J_region <| R_buildSlice (cs := [vI 0, vI 0, vI 0, vI 0]) (Rp.sz Int) rfl rfl rfl rfl (by kernel_rfl) (by kernel_rfl) ?_
 intro b1 hb1
 have h : RL imm [vI 0, vI 0, vI 0, vI 0] ([0, 0, 0, 0] : List Int) := ⟨[vI 0], _, rfl, rfl, rfl, ⟨[vI 0], _, rfl, rfl, rfl, ⟨[vI 0], _, rfl, rfl, rfl, ⟨[vI 0], _, rfl, rfl, rfl, rfl⟩⟩⟩⟩
 refine R_d 2 [] [(2, vA [vS (some ⟨b1, 0, none⟩) ([0, 0, 0, 0] : List Int) 4, vI 0])] <| R_sb 1 [vS (some ⟨b1, 0, none⟩) ([0, 0, 0, 0] : List Int) 4, vI 0] [hO Int (vS (some ⟨b1, 0, none⟩) ([0, 0, 0, 0] : List Int) 4) [vI 0, vI 0, vI 0, vI 0], hB b [vS (some ⟨b1, 0, none⟩) ([0, 0, 0, 0] : List Int) 4, vI 0]] rfl rfl rfl rfl <| R_end rfl <| T_seq <| J_ret ?_
 obtain rfl := pure_some hM
 exact T_RS ⟨_, _, (.cell 1 rfl rfl (by kernel_rfl) ResV.nil), (good_pick [0] rfl (by decide)), ⟨_, _, _, rfl, rfl, h⟩⟩
def spec_l1Digits_post (r : Int × Int) : Nat → Imm → List HA → Value → Prop := fun kk imm' hs' v =>
  ∃ (v0 : Value) (v1 : Value), hs' = [] ∧ v = tupV [v0, v1] ∧ v0 = .int .i64 r.1 ∧ v1 = .int .i64 r.2
def M.spec_l1Digits_l1 (s : Str) (at0 : Int) (end0 : Int) : Option (Int) := do
 let t31 ← (do
   if (decide (end0 < (s.l.length : Int))) then
    if (decide (end0 < (W (at0 + 2)))) then
     let b ← sidx s end0
     if (decide ((b.toNat : Int) ≥ 48)) then
      let b1 ← sidx s end0
      pure (decide ((b1.toNat : Int) ≤ 57))
     else
      pure false
    else
     pure false
   else
    pure false
     : Option Bool)
 if t31 then
  M.spec_l1Digits_l1 s at0 (W (end0 + 1))
 else
  pure (id end0)
 partial_fixpoint
theorem spec_l1Digits_l1_ok (s : Str) (at0 : Int) : ∀ (end0 : Int) (o : Int), M.spec_l1Digits_l1 s at0 end0 = some o → ∀ {B : Base} {imm0 imm : Imm} {Q : Exit → Act → World → Prop}  , imm0.le imm → (∀ l a w, ¬ Q (.goto l) a w) → (∀ a w, ¬ Q .outgrown a w) → (∀ (imm' : Imm) (end01 : Int), o = end01 → imm0.le imm' → T 47 B Q (.exit 0) imm' [] [(0, vT s.l), (1, vI at0), (6, vI end01)]) → J Try.prog 47 B (nav (bodyOf Try.f97) [1, 1, 0, 0]) Q imm [] [(0, vT s.l), (1, vI at0), (6, vI end0)] := by
 refine M.spec_l1Digits_l1.partial_correctness s at0 _ ?_
 intro self ih end0 o hM B imm0 imm Q  hle  hg ho hx
 refine J_loop hg ho <| J_seq <| J_seq ?_
 obtain ⟨o0, ho0, hM⟩ := bind_some hM
 refine J_cut (fun imm' hs' m' => ∃ (t31 : Bool), o0 = t31 ∧ imm.le imm' ∧ hs' = [] ∧ m' = [(0, vT s.l), (1, vI at0), (6, vI end0), (31, .bool t31)]) ?_ ?_
 · have hle0 := hle
   have hle : imm.le imm := Imm.le.refl _
   refine J_region <| R_d 5 [] [(14, .bool (decide (end0 < (s.l.length : Int))))] ?_
   cases hc : (decide (end0 < (s.l.length : Int))) with
   | true =>
    have hM0 := if_some_true hc ho0
    try rw [hc]
    refine R_d 11 [] [(20, .bool (decide (end0 < (W (at0 + 2)))))] ?_
    cases hc1 : (decide (end0 < (W (at0 + 2)))) with
    | true =>
     have hM01 := if_some_true hc1 hM0
     try rw [hc1]
     refine R_d 13 [] [(21, vT s.l), (22, vI end0)] ?_
     obtain ⟨b, hy, hM⟩ := bind_some hM01
     refine R_si rfl rfl hy <| R_d 17 [] [(26, .bool (decide ((b.toNat : Int) ≥ 48)))] ?_
     cases hc2 : (decide ((b.toNat : Int) ≥ 48)) with
     | true =>
      have hM02 := if_some_true hc2 hM
      try rw [hc2]
      refine R_d 19 [] [(27, vT s.l), (28, vI end0)] ?_
      obtain ⟨b1, hy1, hM⟩ := bind_some hM02
      exact R_si rfl rfl hy1 <| R_z [] [(31, .bool (decide ((b1.toNat : Int) ≤ 57)))] <| T_w [(0, vT s.l), (1, vI at0), (6, vI end0), (31, .bool (decide ((b1.toNat : Int) ≤ 57)))] <| T_cut ⟨_, (pure_some hM).symm, hle, rfl, rfl⟩
     | false =>
      have hM03 := if_some_false hc2 hM
      try rw [hc2]
      exact R_z [] [(31, .bool false)] <| T_w [(0, vT s.l), (1, vI at0), (6, vI end0), (31, .bool false)] <| T_cut ⟨_, (pure_some hM03).symm, hle, rfl, rfl⟩
    | false =>
     have hM04 := if_some_false hc1 hM0
     try rw [hc1]
     exact R_z [] [(31, .bool false)] <| T_w [(0, vT s.l), (1, vI at0), (6, vI end0), (31, .bool false)] <| T_cut ⟨_, (pure_some hM04).symm, hle, rfl, rfl⟩
   | false =>
    have hM05 := if_some_false hc ho0
    try rw [hc]
    exact R_z [] [(31, .bool false)] <| T_w [(0, vT s.l), (1, vI at0), (6, vI end0), (31, .bool false)] <| T_cut ⟨_, (pure_some hM05).symm, hle, rfl, rfl⟩
 · rintro imm0 hs2 m2 ⟨t31, heq, le, rfl, rfl⟩
   subst o0
   replace hle := hle.trans le
   refine T_seq <| J_cd hM ?_ ?_
   · intro hc3 hM
     exact J_skip <| T_seq <| J_block <| J_region <| R_z [] [(6, vI (W (end0 + 1)))] <| T_block_normal <| T_loop <| J_w [(0, vT s.l), (1, vI at0), (6, vI (W (end0 + 1)))] <| ih (W (end0 + 1)) _ hM hle  hg ho hx
   · intro hc3 hM
     exact J_exit <| T_then_exit <| T_then_exit <| T_w [(0, vT s.l), (1, vI at0), (6, vI end0)] <| hx _ _ (pure_some hM).symm hle
def M.spec_l1Digits (s : Str) (at0 : Int) : Option (Int × Int) := do
 let end01 ← M.spec_l1Digits_l1 s at0 at0
 let s1 ← sslc s at0 end01
 let (y1, y2) ← M.spec_l16Num s1
 if (!y2) then
  pure (1, at0)
 else
  pure (y1, end01)
theorem spec_l1Digits_ok : ∀ (s : Str) (at0 : Int) r, M.spec_l1Digits s at0 = some r → ∀ {imm : Imm} , Ret Try.prog 97 [vT s.l, vI at0] imm [] (spec_l1Digits_post  r) := by
 intro s at0 r hM imm
 unfold M.spec_l1Digits at hM
 refine ret_of_J (fn := Try.f97) (c := (bodyOf Try.f97)) Try.func97 rfl rfl ?_
 rintro B - -
 have hle : imm.le imm := Imm.le.refl _
 refine J_seq <| J_region <| R_z [] [] <| T_seq <| J_seq <| J_region <| R_z [] [(6, vI at0)] <| T_seq <| J_seq <| J_block <| J_w [(0, vT s.l), (1, vI at0), (6, vI at0)] ?_
 obtain ⟨o01, ho01, hM⟩ := bind_some hM
 refine spec_l1Digits_l1_ok s at0 at0 o01 ho01 (Imm.le.refl _)  (fun _ _ _ h => h) (fun _ _ h => h) ?_
 intro imm01 end01 heq1 le1
 subst o01
 replace hle := hle.trans le1
 refine T_block_here <| T_seq <| J_seq <| J_region <| R_d 3 [] [(35, vT s.l), (36, vI at0), (37, vI end01)] ?_
 obtain ⟨s1, hy2, hM⟩ := bind_some hM
 refine R_ss rfl hy2 ?_
 obtain ⟨⟨y1, y2⟩, hy3, hM⟩ := bind_some hM
 refine R_call (hs1 := []) (rest := []) rfl rfl rfl rfl (by kernel_rfl) rfl rfl (spec_l16Num_ok s1 _ hy3 ) ?_
 rintro imm02 hs2 v2 k2 le2 - ⟨v0, v01, rfl, rfl, rfl, rfl⟩ -
 replace hle := hle.trans le2
 refine R_z [] [(7, vI y1), (8, .bool y2)] <| T_seq <| J_seq <| J_seq <| J_region <| R_z [] [(43, .bool (!y2))] <| T_seq <| J_cd hM ?_ ?_
 · intro hc4 hM
   refine J_seq <| J_region <| R_z [] [(4, vI 1), (5, vI at0)] <| T_seq <| J_ret <| T_then_ret ?_
   obtain rfl := pure_some hM
   exact T_RS ⟨_, _, (.tmp rfl (.tmp rfl ResV.nil)), good_none, ⟨_, _, rfl, rfl, rfl, rfl⟩⟩
 · intro hc4 hM
   refine J_skip <| T_seq <| J_seq <| J_region <| R_z [] [(4, vI y1), (5, vI end01)] <| T_seq <| J_ret ?_
   obtain rfl := pure_some hM
   exact T_RS ⟨_, _, (.tmp rfl (.tmp rfl ResV.nil)), good_none, ⟨_, _, rfl, rfl, rfl, rfl⟩⟩
def spec_l1Name_post (r : Int) : Nat → Imm → List HA → Value → Prop := fun kk imm' hs' v =>
  ∃ (v0 : Value), hs' = [] ∧ v = tupV [v0] ∧ v0 = .int .i64 r
def M.spec_l1Name (s : Str) (at0 : Int) : Option (Int) := do
 let t20 ← (do
   if (decide (at0 ≥ (s.l.length : Int))) then
    pure true
   else
    let b ← sidx s at0
    if (decide ((b.toNat : Int) < 105)) then
     pure true
    else
     let b1 ← sidx s at0
     pure (decide ((b1.toNat : Int) > 108))
     : Option Bool)
 if t20 then
  pure (-1)
 else
  let b2 ← sidx s at0
  pure (W ((W (b2.toNat : Int)) - 105))
theorem spec_l1Name_ok : ∀ (s : Str) (at0 : Int) r, M.spec_l1Name s at0 = some r → ∀ {imm : Imm} , Ret Try.prog 106 [vT s.l, vI at0] imm [] (spec_l1Name_post  r) := by
 intro s at0 r hM imm
 unfold M.spec_l1Name at hM
 refine ret_of_J (fn := Try.f106) (c := (bodyOf Try.f106)) Try.func106 rfl rfl ?_
 rintro B - -
 have hle : imm.le imm := Imm.le.refl _
 refine J_seq <| J_region <| R_z [] [] <| T_seq <| J_seq <| J_seq ?_
 obtain ⟨o0, ho0, hM⟩ := bind_some hM
 refine J_cut (fun imm' hs' m' => ∃ (t20 : Bool), o0 = t20 ∧ imm.le imm' ∧ hs' = [] ∧ m' = [(0, vT s.l), (1, vI at0), (20, .bool t20)]) ?_ ?_
 · have hle0 := hle
   have hle : imm.le imm := Imm.le.refl _
   refine J_region <| R_d 5 [] [(9, .bool (decide (at0 ≥ (s.l.length : Int))))] ?_
   cases hc : (decide (at0 ≥ (s.l.length : Int))) with
   | true =>
    have hM0 := if_some_true hc ho0
    try rw [hc]
    exact R_z [] [(20, .bool true)] <| T_w [(0, vT s.l), (1, vI at0), (20, .bool true)] <| T_cut ⟨_, (pure_some hM0).symm, hle, rfl, rfl⟩
   | false =>
    have hM01 := if_some_false hc ho0
    try rw [hc]
    refine R_d 7 [] [(10, vT s.l), (11, vI at0)] ?_
    obtain ⟨b, hy, hM⟩ := bind_some hM01
    refine R_si rfl rfl hy <| R_d 11 [] [(15, .bool (decide ((b.toNat : Int) < 105)))] ?_
    cases hc1 : (decide ((b.toNat : Int) < 105)) with
    | true =>
     have hM02 := if_some_true hc1 hM
     try rw [hc1]
     exact R_z [] [(20, .bool true)] <| T_w [(0, vT s.l), (1, vI at0), (20, .bool true)] <| T_cut ⟨_, (pure_some hM02).symm, hle, rfl, rfl⟩
    | false =>
     have hM03 := if_some_false hc1 hM
     try rw [hc1]
     refine R_d 13 [] [(16, vT s.l), (17, vI at0)] ?_
     obtain ⟨b1, hy1, hM⟩ := bind_some hM03
     exact R_si rfl rfl hy1 <| R_z [] [(20, .bool (decide ((b1.toNat : Int) > 108)))] <| T_w [(0, vT s.l), (1, vI at0), (20, .bool (decide ((b1.toNat : Int) > 108)))] <| T_cut ⟨_, (pure_some hM).symm, hle, rfl, rfl⟩
 · rintro imm0 hs2 m2 ⟨t20, heq, le, rfl, rfl⟩
   subst o0
   replace hle := hle.trans le
   refine T_seq <| J_cd hM ?_ ?_
   · intro hc2 hM
     refine J_seq <| J_region <| R_z [] [(4, vI (-1))] <| T_seq <| J_ret <| T_then_ret ?_
     obtain rfl := pure_some hM
     exact T_RS ⟨_, _, (.tmp rfl ResV.nil), good_none, ⟨_, rfl, rfl, rfl⟩⟩
   · intro hc2 hM
     refine J_skip <| T_seq <| J_seq <| J_region <| R_d 2 [] [(21, vT s.l), (22, vI at0)] ?_
     obtain ⟨b2, hy2, hM⟩ := bind_some hM
     refine R_si rfl rfl hy2 <| R_z [] [(4, vI (W ((W (b2.toNat : Int)) - 105)))] <| T_seq <| J_ret ?_
     obtain rfl := pure_some hM
     exact T_RS ⟨_, _, (.tmp rfl ResV.nil), good_none, ⟨_, rfl, rfl, rfl⟩⟩
def spec_l1Parse_post (r : impl_Affine × Int) : Nat → Imm → List HA → Value → Prop := fun kk imm' hs' v =>
  ∃ (v0 : Value) (v1 : Value), hs' = [] ∧ v = tupV [v0, v1] ∧ (∃ cs, v0 = .agg ⟨cs⟩ ∧ Rp.rep imm' cs r.1) ∧ v1 = .int .i64 r.2
def M.spec_l1Parse (a0 : impl_Affine) (s : Str) (at0 : Int) : Option (impl_Affine × Int) := do
 let b2 ← sidx s at0
 let sign ← (do
   if ((b2.toNat : Int) == 45) then
    pure (-1)
   else
    pure (id 1)
     : Option Int)
 let t27 ← (do
   let b3 ← sidx s at0
   if ((b3.toNat : Int) == 45) then
    pure true
   else
    let b4 ← sidx s at0
    pure ((b4.toNat : Int) == 43)
     : Option Bool)
 let at01 ← (do
   if t27 then
    pure (W (at0 + 1))
   else
    pure (id at0)
     : Option Int)
 let (y1, y2) ← M.spec_l1Digits s at01
 let t51 ← (do
   if (decide (y2 > at01)) then
    if (decide (y2 < (s.l.length : Int))) then
     let b5 ← sidx s y2
     pure ((b5.toNat : Int) == 42)
    else
     pure false
   else
    pure false
     : Option Bool)
 let star ← (do
   if t51 then
    pure (W (y2 + 1))
   else
    pure (id y2)
     : Option Int)
 let y3 ← M.spec_l1Name s star
 let l ← app 8 ([] : List Int) a0.Coefs
 let t75 ← (do
   if (decide (y3 ≥ 0)) then
    if (decide (star > y2)) then
     pure true
    else
     pure (y2 == at01)
   else
    pure false
     : Option Bool)
 if t75 then
  let x ← idx l y3
  let x1 ← idx l y3
  let l1 ← pure (l.set y3.toNat (W (x + (W (sign * y1)))))
  pure ((impl_Affine.mk l1 a0.Const), (W (star + 1)))
 else
  if (y2 == at01) then
   pure (a0, (-1))
  else
   pure ((impl_Affine.mk l (W (a0.Const + (W (sign * y1))))), y2)
theorem spec_l1Parse_ok : ∀ (a0 : impl_Affine) (s : Str) (at0 : Int) r, M.spec_l1Parse a0 s at0 = some r → ∀ {imm : Imm} {p : Option Addr} {c : Nat}, (SL imm (vS p a0.Coefs c) a0.Coefs) → Ret Try.prog 104 [vA [vS p a0.Coefs c, vI a0.Const], vT s.l, vI at0] imm [] (spec_l1Parse_post  r) := by
 intro a0 s at0 r hM imm p c h
 unfold M.spec_l1Parse at hM
 refine ret_of_J (fn := Try.f104) (c := (bodyOf Try.f104)) Try.func104 rfl rfl ?_
 rintro B - -
 have hle : imm.le imm := Imm.le.refl _
 refine J_seq <| J_region <| R_box (c := ⟨[vS p a0.Coefs c, vI a0.Const]⟩) rfl rfl rfl rfl rfl ?_
 intro b hb
 refine R_alloc (c := ⟨[.slice none 0 0, vI 0]⟩) rfl rfl rfl (by kernel_rfl) ?_
 intro b1 hb1
 refine R_z [] [] <| T_seq <| J_seq <| J_region <| R_z [] [(8, vI 1)] <| T_seq <| J_seq <| J_seq <| J_region <| R_d 2 [] [(14, vT s.l), (15, vI at0)] ?_
 obtain ⟨b2, hy, hM⟩ := bind_some hM
 refine R_si rfl rfl hy <| R_z [] [(17, .bool ((b2.toNat : Int) == 45))] <| T_seq ?_
 obtain ⟨o0, ho0, hM⟩ := bind_some hM
 refine J_cut (fun imm' hs' m' => ∃ (sign : Int), o0 = sign ∧ imm.le imm' ∧ hs' = [hB b1 [.slice none 0 0, vI 0], hB b [vS p a0.Coefs c, vI a0.Const]] ∧ m' = [(1, vT s.l), (2, vI at0), (3, vP b 0), (6, vP b1 0), (8, vI sign)]) ?_ ?_
 · have hle0 := hle
   have hle : imm.le imm := Imm.le.refl _
   refine J_cd ho0 ?_ ?_
   · intro hc hM
     exact J_region <| R_z [] [(8, vI (-1))] <| T_w [(1, vT s.l), (2, vI at0), (3, vP b 0), (6, vP b1 0), (8, vI (-1))] <| T_cut ⟨_, (pure_some hM).symm, hle, rfl, rfl⟩
   · intro hc hM
     exact J_skip <| T_w [(1, vT s.l), (2, vI at0), (3, vP b 0), (6, vP b1 0), (8, vI 1)] <| T_cut ⟨_, (pure_some hM).symm, hle, rfl, rfl⟩
 · rintro imm0 hs2 m2 ⟨sign, heq, le, rfl, rfl⟩
   subst o0
   replace h := h.mono le
   replace hle := hle.trans le
   refine T_seq <| J_seq <| J_seq ?_
   obtain ⟨o01, ho01, hM⟩ := bind_some hM
   refine J_cut (fun imm' hs' m' => ∃ (t27 : Bool), o01 = t27 ∧ imm0.le imm' ∧ hs' = [hB b1 [.slice none 0 0, vI 0], hB b [vS p a0.Coefs c, vI a0.Const]] ∧ m' = [(1, vT s.l), (2, vI at0), (3, vP b 0), (6, vP b1 0), (8, vI sign), (27, .bool t27)]) ?_ ?_
   · have hle0 := hle
     have hle : imm0.le imm0 := Imm.le.refl _
     refine J_region <| R_d 2 [] [(18, vT s.l), (19, vI at0)] ?_
     obtain ⟨b3, hy1, hM⟩ := bind_some ho01
     refine R_si rfl rfl hy1 <| R_d 5 [] [(22, .bool ((b3.toNat : Int) == 45))] ?_
     cases hc1 : ((b3.toNat : Int) == 45) with
     | true =>
      have hM0 := if_some_true hc1 hM
      try rw [hc1]
      exact R_z [] [(27, .bool true)] <| T_w [(1, vT s.l), (2, vI at0), (3, vP b 0), (6, vP b1 0), (8, vI sign), (27, .bool true)] <| T_cut ⟨_, (pure_some hM0).symm, hle, rfl, rfl⟩
     | false =>
      have hM01 := if_some_false hc1 hM
      try rw [hc1]
      refine R_d 7 [] [(23, vT s.l), (24, vI at0)] ?_
      obtain ⟨b4, hy2, hM⟩ := bind_some hM01
      exact R_si rfl rfl hy2 <| R_z [] [(27, .bool ((b4.toNat : Int) == 43))] <| T_w [(1, vT s.l), (2, vI at0), (3, vP b 0), (6, vP b1 0), (8, vI sign), (27, .bool ((b4.toNat : Int) == 43))] <| T_cut ⟨_, (pure_some hM).symm, hle, rfl, rfl⟩
   · rintro imm01 hs2 m2 ⟨t27, heq1, le1, rfl, rfl⟩
     subst o01
     replace h := h.mono le1
     replace hle := hle.trans le1
     refine T_seq ?_
     obtain ⟨o02, ho02, hM⟩ := bind_some hM
     refine J_cut (fun imm' hs' m' => ∃ (at01 : Int), o02 = at01 ∧ imm01.le imm' ∧ hs' = [hB b1 [.slice none 0 0, vI 0], hB b [vS p a0.Coefs c, vI a0.Const]] ∧ m' = [(1, vT s.l), (2, vI at01), (3, vP b 0), (6, vP b1 0), (8, vI sign)]) ?_ ?_
     · have hle0 := hle
       have hle : imm01.le imm01 := Imm.le.refl _
       refine J_cd ho02 ?_ ?_
       · intro hc2 hM
         exact J_region <| R_z [] [(2, vI (W (at0 + 1)))] <| T_w [(1, vT s.l), (2, vI (W (at0 + 1))), (3, vP b 0), (6, vP b1 0), (8, vI sign)] <| T_cut ⟨_, (pure_some hM).symm, hle, rfl, rfl⟩
       · intro hc2 hM
         exact J_skip <| T_w [(1, vT s.l), (2, vI at0), (3, vP b 0), (6, vP b1 0), (8, vI sign)] <| T_cut ⟨_, (pure_some hM).symm, hle, rfl, rfl⟩
     · rintro imm02 hs2 m2 ⟨at01, heq2, le2, rfl, rfl⟩
       subst o02
       replace h := h.mono le2
       replace hle := hle.trans le2
       refine T_seq <| J_seq <| J_region <| R_d 2 [] [(31, vT s.l), (32, vI at01)] ?_
       obtain ⟨⟨y1, y2⟩, hy3, hM⟩ := bind_some hM
       refine R_call (hs1 := []) (rest := [hB b1 [.slice none 0 0, vI 0], hB b [vS p a0.Coefs c, vI a0.Const]]) rfl rfl rfl rfl (by kernel_rfl) rfl rfl (spec_l1Digits_ok s at01 _ hy3 ) ?_
       rintro imm03 hs2 v2 k2 le3 - ⟨v0, v01, rfl, rfl, rfl, rfl⟩ -
       replace h := h.mono le3
       replace hle := hle.trans le3
       refine R_z [] [(9, vI y1), (10, vI y2)] <| T_seq <| J_seq <| J_region <| R_z [] [(11, vI y2)] <| T_seq <| J_seq <| J_seq ?_
       obtain ⟨o03, ho03, hM⟩ := bind_some hM
       refine J_cut (fun imm' hs' m' => ∃ (t51 : Bool), o03 = t51 ∧ imm03.le imm' ∧ hs' = [hB b1 [.slice none 0 0, vI 0], hB b [vS p a0.Coefs c, vI a0.Const]] ∧ m' = [(1, vT s.l), (2, vI at01), (3, vP b 0), (6, vP b1 0), (8, vI sign), (9, vI y1), (10, vI y2), (11, vI y2), (51, .bool t51)]) ?_ ?_
       · have hle0 := hle
         have hle : imm03.le imm03 := Imm.le.refl _
         refine J_region <| R_d 4 [] [(40, .bool (decide (y2 > at01)))] ?_
         cases hc3 : (decide (y2 > at01)) with
         | true =>
          have hM02 := if_some_true hc3 ho03
          try rw [hc3]
          refine R_d 10 [] [(46, .bool (decide (y2 < (s.l.length : Int))))] ?_
          cases hc4 : (decide (y2 < (s.l.length : Int))) with
          | true =>
           have hM03 := if_some_true hc4 hM02
           try rw [hc4]
           refine R_d 12 [] [(47, vT s.l), (48, vI y2)] ?_
           obtain ⟨b5, hy4, hM⟩ := bind_some hM03
           exact R_si rfl rfl hy4 <| R_z [] [(51, .bool ((b5.toNat : Int) == 42))] <| T_w [(1, vT s.l), (2, vI at01), (3, vP b 0), (6, vP b1 0), (8, vI sign), (9, vI y1), (10, vI y2), (11, vI y2), (51, .bool ((b5.toNat : Int) == 42))] <| T_cut ⟨_, (pure_some hM).symm, hle, rfl, rfl⟩
          | false =>
           have hM04 := if_some_false hc4 hM02
           try rw [hc4]
           exact R_z [] [(51, .bool false)] <| T_w [(1, vT s.l), (2, vI at01), (3, vP b 0), (6, vP b1 0), (8, vI sign), (9, vI y1), (10, vI y2), (11, vI y2), (51, .bool false)] <| T_cut ⟨_, (pure_some hM04).symm, hle, rfl, rfl⟩
         | false =>
          have hM05 := if_some_false hc3 ho03
          try rw [hc3]
          exact R_z [] [(51, .bool false)] <| T_w [(1, vT s.l), (2, vI at01), (3, vP b 0), (6, vP b1 0), (8, vI sign), (9, vI y1), (10, vI y2), (11, vI y2), (51, .bool false)] <| T_cut ⟨_, (pure_some hM05).symm, hle, rfl, rfl⟩
       · rintro imm04 hs2 m2 ⟨t51, heq3, le4, rfl, rfl⟩
         subst o03
         replace h := h.mono le4
         replace hle := hle.trans le4
         refine T_seq ?_
         obtain ⟨o04, ho04, hM⟩ := bind_some hM
         refine J_cut (fun imm' hs' m' => ∃ (star : Int), o04 = star ∧ imm04.le imm' ∧ hs' = [hB b1 [.slice none 0 0, vI 0], hB b [vS p a0.Coefs c, vI a0.Const]] ∧ m' = [(1, vT s.l), (2, vI at01), (3, vP b 0), (6, vP b1 0), (8, vI sign), (9, vI y1), (10, vI y2), (11, vI star)]) ?_ ?_
         · have hle0 := hle
           have hle : imm04.le imm04 := Imm.le.refl _
           refine J_cd ho04 ?_ ?_
           · intro hc5 hM
             exact J_region <| R_z [] [(11, vI (W (y2 + 1)))] <| T_w [(1, vT s.l), (2, vI at01), (3, vP b 0), (6, vP b1 0), (8, vI sign), (9, vI y1), (10, vI y2), (11, vI (W (y2 + 1)))] <| T_cut ⟨_, (pure_some hM).symm, hle, rfl, rfl⟩
           · intro hc5 hM
             exact J_skip <| T_w [(1, vT s.l), (2, vI at01), (3, vP b 0), (6, vP b1 0), (8, vI sign), (9, vI y1), (10, vI y2), (11, vI y2)] <| T_cut ⟨_, (pure_some hM).symm, hle, rfl, rfl⟩
         · rintro imm05 hs2 m2 ⟨star, heq4, le5, rfl, rfl⟩
           subst o04
           replace h := h.mono le5
           replace hle := hle.trans le5
           refine T_seq <| J_seq <| J_region <| R_d 2 [] [(54, vT s.l), (55, vI star)] ?_
           obtain ⟨y3, hy5, hM⟩ := bind_some hM
           refine R_call (hs1 := []) (rest := [hB b1 [.slice none 0 0, vI 0], hB b [vS p a0.Coefs c, vI a0.Const]]) rfl rfl rfl rfl (by kernel_rfl) rfl rfl (spec_l1Name_ok s star _ hy5 ) ?_
           rintro imm06 hs2 v2 k2 le6 - ⟨v02, rfl, rfl, rfl⟩ -
           replace h := h.mono le6
           replace hle := hle.trans le6
           refine R_z [] [(12, vI y3)] <| T_seq <| J_seq ?_
           obtain ⟨l, hy6, hM⟩ := bind_some hM
           refine J_any [.x (fun imm' v hx => ∃ (b6 : Nat), v = vS (some ⟨b6, 0, none⟩) ([] : List Int) 0 ∧ hx = [hO Int (vS (some ⟨b6, 0, none⟩) ([] : List Int) 0) []] ∧ (RL imm' [] ([] : List Int))), .p (vP b 0) [], .p (vS p a0.Coefs c) [1], .x (fun imm' v hx => ∃ (p1 : Option Addr) (c1 : Nat) (cs : List Value), v = vS p1 l c1 ∧ hx = [hO Int (vS p1 l c1) cs] ∧ (RL imm' cs l)), .p (vP b 1) [], .p (vI a0.Const) [1], .x (fun imm' v hx => ∃ (p11 : Option Addr) (c11 : Nat) (cs1 : List Value), v = vA [vS p11 l c11, vI a0.Const] ∧ hx = [hO Int (vS p11 l c11) cs1] ∧ (RL imm' cs1 l)), .x (fun imm' v hx => ∃ (b7 : Nat), v = vP b7 0 ∧ hx = [hB b7 [.slice none 0 0, vI 0]])] [[], [], [(1, false)], [(0, true), (2, false)], [], [(4, false)], [(3, true), (5, false)], []] [hB b1 [.slice none 0 0, vI 0], hB b [vS p a0.Coefs c, vI a0.Const]] [] [(6, true), (7, true)] (good_pick [0, 1] rfl (by decide)) ?_ ?_
           · refine Ox ?_ <| Op <| Op <| Ox ?_ <| Op <| Op <| Ox ?_ <| Ox ?_ <| On
             · intro imm1 hf le1
               refine Ins_nil <| R_isw (hB b1 [.slice none 0 0, vI 0] :: hB b [vS p a0.Coefs c, vI a0.Const] :: hf) [] ?_
               have hle := Imm.le.refl imm1
               refine R_buildSlice (cs := []) (Rp.sz Int) rfl rfl rfl rfl (by kernel_rfl) (by kernel_rfl) ?_
               intro b6 hb2
               have h4 : RL imm1 [] ([] : List Int) := rfl
               exact R_out (hx := [hO Int (vS (some ⟨b6, 0, none⟩) ([] : List Int) 0) []]) rfl hle rfl (out_some rfl) ⟨_, rfl, rfl, h4⟩
             · intro imm1 hf le1
               refine Ins_cons ?_
               rintro _ _ ⟨b6, rfl, rfl, h4⟩
               refine Ins_cons ?_
               rintro _ _ ⟨rfl, rfl⟩
               refine Ins_nil <| R_isw (hO Int (vS (some ⟨b6, 0, none⟩) ([] : List Int) 0) [] :: hB b1 [.slice none 0 0, vI 0] :: hB b [vS p a0.Coefs c, vI a0.Const] :: hf) [(57, vS (some ⟨b6, 0, none⟩) ([] : List Int) 0), (59, vS p a0.Coefs c)] ?_
               have hle := Imm.le.refl imm1
               replace h := h.mono le1
               obtain ⟨ccs, k0, k01⟩ := h
               have h : SL imm1 (vS p a0.Coefs c) a0.Coefs := ⟨_, k0, k01⟩
               refine R_ap 3 1 0 rfl rfl rfl h4 (.inl k0) k01 hy6 ?_
               intro p1 c1 cs h5
               exact R_hseq (hs' := (hO Int (vS p1 l c1) cs :: hB b1 [.slice none 0 0, vI 0] :: hB b [vS p a0.Coefs c, vI a0.Const] :: hf)) rfl <| R_out (hx := [hO Int (vS p1 l c1) cs]) rfl hle rfl (out_some rfl) ⟨_, _, _, rfl, rfl, h5⟩
             · intro imm1 hf le1
               refine Ins_cons ?_
               rintro _ _ ⟨p1, c1, cs, rfl, rfl, h5⟩
               refine Ins_cons ?_
               rintro _ _ ⟨rfl, rfl⟩
               refine Ins_nil <| R_isw (hO Int (vS p1 l c1) cs :: hB b1 [.slice none 0 0, vI 0] :: hB b [vS p a0.Coefs c, vI a0.Const] :: hf) [(60, vS p1 l c1), (62, vI a0.Const)] ?_
               have hle := Imm.le.refl imm1
               exact R_p 7 [(63, vA [vS p1 l c1, vI a0.Const])] <| R_out (hx := [hO Int (vS p1 l c1) cs]) rfl hle rfl (out_some rfl) ⟨_, _, _, rfl, rfl, h5⟩
             · intro imm1 hf le1
               refine Ins_nil <| R_isw (hB b1 [.slice none 0 0, vI 0] :: hB b [vS p a0.Coefs c, vI a0.Const] :: hf) [] ?_
               have hle := Imm.le.refl imm1
               refine R_alloc (c := ⟨[.slice none 0 0, vI 0]⟩) rfl rfl rfl (by kernel_rfl) ?_
               intro b7 hb3
               exact R_out (hx := [hB b7 [.slice none 0 0, vI 0]]) rfl hle rfl (out_some rfl) ⟨_, rfl, rfl⟩
           · intro imm07 le7
             refine Ins_cons ?_
             rintro _ _ ⟨p11, c11, cs1, rfl, rfl, h51⟩
             refine Ins_cons ?_
             rintro _ _ ⟨b7, rfl, rfl⟩
             refine Ins_nil <| R_isw [hB b7 [.slice none 0 0, vI 0], hO Int (vS p11 l c11) cs1, hB b1 [.slice none 0 0, vI 0], hB b [vS p a0.Coefs c, vI a0.Const]] [(2, vI at01), (3, vP b 0), (6, vP b1 0), (8, vI sign), (9, vI y1), (10, vI y2), (11, vI star), (12, vI y3), (13, vP b7 0), (63, vA [vS p11 l c11, vI a0.Const])] ?_
             replace h := h.mono le7
             replace hle := hle.trans le7
             refine R_sb 0 [vS p11 l c11, vI a0.Const] [hB b7 [vS p11 l c11, vI a0.Const], hO Int (vS p11 l c11) cs1, hB b1 [.slice none 0 0, vI 0], hB b [vS p a0.Coefs c, vI a0.Const]] rfl rfl rfl rfl <| R_end rfl <| T_seq <| J_seq <| J_seq ?_
             obtain ⟨o05, ho05, hM⟩ := bind_some hM
             refine J_cut (fun imm' hs' m' => ∃ (t75 : Bool), o05 = t75 ∧ imm07.le imm' ∧ hs' = [hB b7 [vS p11 l c11, vI a0.Const], hO Int (vS p11 l c11) cs1, hB b1 [.slice none 0 0, vI 0], hB b [vS p a0.Coefs c, vI a0.Const]] ∧ m' = [(2, vI at01), (3, vP b 0), (6, vP b1 0), (8, vI sign), (9, vI y1), (10, vI y2), (11, vI star), (12, vI y3), (13, vP b7 0), (75, .bool t75)]) ?_ ?_
             · have hle0 := hle
               have hle : imm07.le imm07 := Imm.le.refl _
               refine J_region <| R_d 3 [] [(66, .bool (decide (y3 ≥ 0)))] ?_
               cases hc6 : (decide (y3 ≥ 0)) with
               | true =>
                have hM06 := if_some_true hc6 ho05
                try rw [hc6]
                refine R_d 7 [] [(70, .bool (decide (star > y2)))] ?_
                cases hc7 : (decide (star > y2)) with
                | true =>
                 have hM07 := if_some_true hc7 hM06
                 try rw [hc7]
                 exact R_z [] [(75, .bool true)] <| T_w [(2, vI at01), (3, vP b 0), (6, vP b1 0), (8, vI sign), (9, vI y1), (10, vI y2), (11, vI star), (12, vI y3), (13, vP b7 0), (75, .bool true)] <| T_cut ⟨_, (pure_some hM07).symm, hle, rfl, rfl⟩
                | false =>
                 have hM08 := if_some_false hc7 hM06
                 try rw [hc7]
                 exact R_z [] [(75, .bool (y2 == at01))] <| T_w [(2, vI at01), (3, vP b 0), (6, vP b1 0), (8, vI sign), (9, vI y1), (10, vI y2), (11, vI star), (12, vI y3), (13, vP b7 0), (75, .bool (y2 == at01))] <| T_cut ⟨_, (pure_some hM08).symm, hle, rfl, rfl⟩
               | false =>
                have hM09 := if_some_false hc6 ho05
                try rw [hc6]
                exact R_z [] [(75, .bool false)] <| T_w [(2, vI at01), (3, vP b 0), (6, vP b1 0), (8, vI sign), (9, vI y1), (10, vI y2), (11, vI star), (12, vI y3), (13, vP b7 0), (75, .bool false)] <| T_cut ⟨_, (pure_some hM09).symm, hle, rfl, rfl⟩
             · rintro imm08 hs2 m2 ⟨t75, heq5, le8, rfl, rfl⟩
               subst o05
               replace h51 := RepL.mono (fun _ _ => Rp.mono le8) h51
               replace h := h.mono le8
               replace hle := hle.trans le8
               refine T_seq <| J_cd hM ?_ ?_
               · intro hc8 hM
                 refine J_seq ?_
                 obtain ⟨x, hy7, hM⟩ := bind_some hM
                 refine J_any [.p (vP b7 0) [], .p (vS p11 l c11) [0], .p (vI y3) [], .p (vP b7 0) [], .p (vS p11 l c11) [0], .p (vI y3) [], .x (fun imm' v hx => ∃ (ad : Addr), v = .pointer (some ad) ∧ hx = [] ∧ (AtO (vS p11 l c11) (Rp.sz Int) y3.toNat ad) ∧ ((cs1.drop (y3.toNat * Rp.sz Int)).take (Rp.sz Int) = [vI x])), .q (vI x), .p (vI sign) [], .p (vI y1) [], .p (vI (W (sign * y1))) [], .p (vI (W (x + (W (sign * y1))))) []] [[], [(0, false)], [], [], [(3, false)], [], [(4, false), (5, false)], [(6, false)], [], [], [(8, false), (9, false)], [(7, false), (10, false)]] [hB b7 [vS p11 l c11, vI a0.Const], hO Int (vS p11 l c11) cs1, hB b1 [.slice none 0 0, vI 0], hB b [vS p a0.Coefs c, vI a0.Const]] [] [(1, false), (2, false), (11, false)] (good_pick [0, 1, 2, 3] rfl (by decide)) ?_ ?_
                 · refine Op <| Op <| Op <| Op <| Op <| Op <| Ox ?_ <| Oq ?_ <| Op <| Op <| Op <| Op <| On
                   · intro imm1 hf le1
                     refine Ins_cons ?_
                     rintro _ _ ⟨rfl, rfl⟩
                     refine Ins_cons ?_
                     rintro _ _ ⟨rfl, rfl⟩
                     refine Ins_nil <| R_isw (hB b7 [vS p11 l c11, vI a0.Const] :: hO Int (vS p11 l c11) cs1 :: hB b1 [.slice none 0 0, vI 0] :: hB b [vS p a0.Coefs c, vI a0.Const] :: hf) [(80, vS p11 l c11), (81, vI y3)] ?_
                     have hle := Imm.le.refl imm1
                     replace h51 := RepL.mono (fun _ _ => Rp.mono le1) h51
                     refine R_ixo 1 rfl rfl rfl h51 hy7 ?_
                     intro ad ccs1 hat hcc hrep
                     obtain rfl := hrep
                     exact R_out (hx := []) rfl hle rfl (out_some rfl) ⟨_, rfl, rfl, hat, hcc⟩
                   · intro imm1 hf le1
                     refine Ins_cons ?_
                     rintro _ _ ⟨ad, rfl, rfl, hat, hcc⟩
                     refine Ins_nil <| R_isw (hB b7 [vS p11 l c11, vI a0.Const] :: hO Int (vS p11 l c11) cs1 :: hB b1 [.slice none 0 0, vI 0] :: hB b [vS p a0.Coefs c, vI a0.Const] :: hf) [(82, .pointer (some ad))] ?_
                     have hle := Imm.le.refl imm1
                     exact R_lo 1 0 hat hcc [vI x] (vI x) rfl rfl <| R_out (hx := []) rfl hle rfl (out_some rfl) ⟨rfl, rfl⟩
                 · intro imm09 le9
                   refine Ins_cons ?_
                   rintro _ _ ⟨rfl, rfl⟩
                   refine Ins_cons ?_
                   rintro _ _ ⟨rfl, rfl⟩
                   refine Ins_cons ?_
                   rintro _ _ ⟨rfl, rfl⟩
                   refine Ins_nil <| R_isw [hB b7 [vS p11 l c11, vI a0.Const], hO Int (vS p11 l c11) cs1, hB b1 [.slice none 0 0, vI 0], hB b [vS p a0.Coefs c, vI a0.Const]] [(6, vP b1 0), (11, vI star), (13, vP b7 0), (77, vS p11 l c11), (78, vI y3), (87, vI (W (x + (W (sign * y1)))))] ?_
                   replace h51 := RepL.mono (fun _ _ => Rp.mono le9) h51
                   replace h := h.mono le9
                   replace hle := hle.trans le9
                   obtain ⟨x1, hy8, hM⟩ := bind_some hM
                   refine R_ixo 1 rfl rfl rfl h51 hy8 ?_
                   intro ad1 ccs2 hat1 hcc1 hrep1
                   obtain rfl := hrep1
                   obtain ⟨l1, hy9, hM⟩ := bind_some hM
                   refine R_store_el (c := [vI (W (x + (W (sign * y1))))]) (x' := (W (x + (W (sign * y1))))) 1 0 rfl rfl rfl hat1 rfl rfl hcc1 (by kernel_rfl) (by kernel_rfl) (by kernel_rfl) h51 hy8 (by kernel_rfl) rfl ?_
                   rw [show l.set y3.toNat (W (x + (W (sign * y1)))) = l1 from pure_some hy9]
                   intro cs2 h6 hl0
                   refine R_weaken (m' := [(6, vP b1 0), (11, vI star), (13, vP b7 0), (77, vS p11 l c11), (78, vI y3), (87, vI (W (x + (W (sign * y1)))))]) ⟨rfl, rfl, rfl, rfl, rfl, rfl, trivial⟩ <| R_conv (hs' := [hB b7 [vS p11 l1 c11, vI a0.Const], hO Int (vS p11 l1 c11) cs2, hB b1 [.slice none 0 0, vI 0], hB b [vS p a0.Coefs c, vI a0.Const]]) (m' := [(6, vP b1 0), (11, vI star), (13, vP b7 0), (77, vS p11 l1 c11), (78, vI y3), (87, vI (W (x + (W (sign * y1)))))]) (by first | rfl | simp only [vS, hl0, List.nil_append, List.cons_append, List.set_cons_zero, List.set_cons_succ]) (by first | rfl | simp only [vS, hl0]) <| R_end rfl <| T_seq <| J_seq <| J_region <| R_d 3 [0] [(89, vA [vS p11 l1 c11, vI a0.Const]), (91, vI (W (star + 1)))] <| R_sb 2 [vS p11 l1 c11, vI a0.Const] [hB b7 [vS p11 l1 c11, vI a0.Const], hO Int (vS p11 l1 c11) cs2, hB b1 [vS p11 l1 c11, vI a0.Const], hB b [vS p a0.Coefs c, vI a0.Const]] rfl rfl rfl rfl <| R_z [] [(7, vI (W (star + 1)))] <| T_seq <| J_ret <| T_then_ret <| T_freeze 1 rfl ?_
                   intro imm010 le10 hl01
                   have h7 := SL.of_frozen hl01 le10 h6
                   replace h := h.mono le10
                   replace hle := hle.trans le10
                   obtain rfl := pure_some hM
                   exact T_RS ⟨_, _, (.cell 1 rfl rfl (by kernel_rfl) (.tmp rfl ResV.nil)), good_none, ⟨_, _, rfl, rfl, ⟨_, rfl, (impl_Affine_shut ⟨_, rfl, h7⟩)⟩, rfl⟩⟩
               · intro hc8 hM
                 refine J_skip <| T_seq <| J_seq <| J_seq <| J_region <| R_z [] [(94, .bool (y2 == at01))] <| T_seq <| J_cd hM ?_ ?_
                 · intro hc9 hM
                   refine J_seq <| J_region <| R_d 1 [3] [(95, vA [vS p a0.Coefs c, vI a0.Const])] <| R_sb 2 [vS p a0.Coefs c, vI a0.Const] [hB b7 [vS p11 l c11, vI a0.Const], hO Int (vS p11 l c11) cs1, hB b1 [vS p a0.Coefs c, vI a0.Const], hB b [vS p a0.Coefs c, vI a0.Const]] rfl rfl rfl rfl <| R_z [] [(7, vI (-1))] <| T_seq <| J_ret <| T_then_ret ?_
                   obtain rfl := pure_some hM
                   exact T_RS ⟨_, _, (.cell 2 rfl rfl (by kernel_rfl) (.tmp rfl ResV.nil)), good_none, ⟨_, _, rfl, rfl, ⟨_, rfl, (impl_Affine_shut ⟨_, rfl, h⟩)⟩, rfl⟩⟩
                 · intro hc9 hM
                   refine J_skip <| T_seq <| J_seq <| J_region <| R_d 7 [0] [(101, vI (W (a0.Const + (W (sign * y1))))), (102, vP b7 1)] <| R_sb 0 [vS p11 l c11, vI (W (a0.Const + (W (sign * y1))))] [hB b7 [vS p11 l c11, vI (W (a0.Const + (W (sign * y1))))], hO Int (vS p11 l c11) cs1, hB b1 [.slice none 0 0, vI 0], hB b [vS p a0.Coefs c, vI a0.Const]] rfl rfl rfl rfl <| R_end rfl <| T_seq <| J_seq <| J_region <| R_d 2 [0] [(103, vA [vS p11 l c11, vI (W (a0.Const + (W (sign * y1))))]), (104, vI y2)] <| R_sb 2 [vS p11 l c11, vI (W (a0.Const + (W (sign * y1))))] [hB b7 [vS p11 l c11, vI (W (a0.Const + (W (sign * y1))))], hO Int (vS p11 l c11) cs1, hB b1 [vS p11 l c11, vI (W (a0.Const + (W (sign * y1))))], hB b [vS p a0.Coefs c, vI a0.Const]] rfl rfl rfl rfl <| R_z [] [(7, vI y2)] <| T_seq <| J_ret <| T_freeze 1 rfl ?_
                   intro imm011 le11 hl02
                   have h8 := SL.of_frozen hl02 le11 h51
                   replace h := h.mono le11
                   replace hle := hle.trans le11
                   obtain rfl := pure_some hM
                   exact T_RS ⟨_, _, (.cell 1 rfl rfl (by kernel_rfl) (.tmp rfl ResV.nil)), good_none, ⟨_, _, rfl, rfl, ⟨_, rfl, (impl_Affine_shut ⟨_, rfl, h8⟩)⟩, rfl⟩⟩
def spec_l16Dec_post (r : Str) : Nat → Imm → List HA → Value → Prop := fun kk imm' hs' v =>
  ∃ (v0 : Value), hs' = [] ∧ v = tupV [v0] ∧ v0 = .string ⟨⟨r.l⟩⟩
def M.spec_l16Dec_l1 (n01 : Int) (out : Str) : Option ((Int × Str)) := do
 if (decide (n01 > 9)) then
  let s1 ← cat (⟨([(u8 (W (48 + (n01.tmod 10))))] : List UInt8)⟩ : Str) out
  M.spec_l16Dec_l1 (W (n01.tdiv 10)) s1
 else
  pure (n01, out)
 partial_fixpoint
theorem spec_l16Dec_l1_ok  : ∀ (n01 : Int) (out : Str) (o : (Int × Str)), M.spec_l16Dec_l1 n01 out = some o → ∀ {B : Base} {imm0 imm : Imm} {Q : Exit → Act → World → Prop}  , imm0.le imm → (∀ l a w, ¬ Q (.goto l) a w) → (∀ a w, ¬ Q .outgrown a w) → (∀ (imm' : Imm) (n02 : Int) (out1 : Str), o = (n02, out1) → imm0.le imm' → T 31 B Q (.exit 0) imm' [] [(0, vI n02), (3, vT out1.l)]) → J Try.prog 31 B (nav (bodyOf Try.f59) [1, 1, 1, 1, 0, 0]) Q imm [] [(0, vI n01), (3, vT out.l)] := by
 refine M.spec_l16Dec_l1.partial_correctness  _ ?_
 intro self ih n01 out o hM B imm0 imm Q  hle  hg ho hx
 refine J_loop hg ho <| J_seq <| J_seq <| J_region <| R_z [] [(13, .bool (decide (n01 > 9)))] <| T_seq <| J_cd hM ?_ ?_
 · intro hc2 hM
   refine J_skip <| T_seq <| J_block <| J_seq <| J_region <| R_d 3 [] [(16, vI (W (48 + (n01.tmod 10))))] <| R_u8 (d := 17) (i := (W (48 + (n01.tmod 10)))) rfl (by kernel_rfl) <| R_buildSlice (cs := [.int .u8 ((u8 (W (48 + (n01.tmod 10)))).toNat : Int)]) (Rp.sz UInt8) rfl rfl rfl rfl (by kernel_rfl) (by kernel_rfl) ?_
   intro b hb
   have h1 : RL imm [.int .u8 ((u8 (W (48 + (n01.tmod 10)))).toNat : Int)] ([(u8 (W (48 + (n01.tmod 10))))] : List UInt8) := ⟨[.int .u8 ((u8 (W (48 + (n01.tmod 10)))).toNat : Int)], _, rfl, rfl, rfl, rfl⟩
   refine R_bytes (l := ([(u8 (W (48 + (n01.tmod 10))))] : List UInt8)) rfl rfl rfl rfl (by kernel_rfl) (by kernel_rfl) (.inr ⟨0, rfl⟩) h1 <| R_d 7 [] [(20, vT out.l)] ?_
   obtain ⟨s1, hy2, hM⟩ := bind_some hM
   exact R_ca rfl hy2 <| R_z [] [(3, vT s1.l)] <| T_seq <| J_region <| R_z [] [(0, vI (W (n01.tdiv 10)))] <| T_block_normal <| T_loop <| J_hs (good_pick [] rfl (by decide)) <| J_w [(0, vI (W (n01.tdiv 10))), (3, vT s1.l)] <| ih (W (n01.tdiv 10)) s1 _ hM hle  hg ho hx
 · intro hc2 hM
   exact J_exit <| T_then_exit <| T_then_exit <| T_w [(0, vI n01), (3, vT out.l)] <| hx _ _ _ (pure_some hM).symm hle
def M.spec_l16Dec (n0 : Int) : Option (Str) := do
 if (decide (n0 < (-9223372036854775807))) then
  pure (⟨[45, 57, 50, 50, 51, 51, 55, 50, 48, 51, 54, 56, 53, 52, 55, 55, 53, 56, 48, 56]⟩ : Str)
 else
  if (decide (n0 < 0)) then
   let y ← M.spec_l16Dec (W (0 - n0))
   let s ← cat (⟨[45]⟩ : Str) y
   pure (id s)
  else
   let (n02, out1) ← M.spec_l16Dec_l1 n0 (⟨[]⟩ : Str)
   let s2 ← cat (⟨([(u8 (W (48 + n02)))] : List UInt8)⟩ : Str) out1
   pure (id s2)
 partial_fixpoint
theorem spec_l16Dec_ok : ∀ (n0 : Int) r, M.spec_l16Dec n0 = some r → ∀ {imm : Imm} , Ret Try.prog 59 [vI n0] imm [] (spec_l16Dec_post  r) := by
 refine M.spec_l16Dec.partial_correctness (fun n0 r => ∀ {imm : Imm} , Ret Try.prog 59 [vI n0] imm [] (spec_l16Dec_post  r)) ?_
 intro F_spec_l16Dec ih_spec_l16Dec n0 r hM imm
 refine ret_of_J (fn := Try.f59) (c := (bodyOf Try.f59)) Try.func59 rfl rfl ?_
 rintro B - -
 have hle : imm.le imm := Imm.le.refl _
 refine J_seq <| J_region <| R_z [] [] <| T_seq <| J_seq <| J_seq <| J_region <| R_z [] [(5, .bool (decide (n0 < (-9223372036854775807))))] <| T_seq <| J_cd hM ?_ ?_
 · intro hc hM
   refine J_seq <| J_region <| R_z [] [(2, vT ([45, 57, 50, 50, 51, 51, 55, 50, 48, 51, 54, 56, 53, 52, 55, 55, 53, 56, 48, 56]))] <| T_seq <| J_ret <| T_then_ret ?_
   obtain rfl := pure_some hM
   exact T_RS ⟨_, _, (.tmp rfl ResV.nil), good_none, ⟨_, rfl, rfl, rfl⟩⟩
 · intro hc hM
   refine J_skip <| T_seq <| J_seq <| J_seq <| J_region <| R_z [] [(7, .bool (decide (n0 < 0)))] <| T_seq <| J_cd hM ?_ ?_
   · intro hc1 hM
     refine J_seq <| J_region <| R_d 2 [] [(9, vI (W (0 - n0)))] ?_
     obtain ⟨y, hy, hM⟩ := bind_some hM
     refine R_call (hs1 := []) (rest := []) rfl rfl rfl rfl (by kernel_rfl) rfl rfl (ih_spec_l16Dec (W (0 - n0)) _ hy ) ?_
     rintro imm0 hs2 v2 k2 le - ⟨v0, rfl, rfl, rfl⟩ -
     replace hle := hle.trans le
     obtain ⟨s, hy1, hM⟩ := bind_some hM
     refine R_ca rfl hy1 <| R_z [] [(2, vT s.l)] <| T_seq <| J_ret <| T_then_ret ?_
     obtain rfl := pure_some hM
     exact T_RS ⟨_, _, (.tmp rfl ResV.nil), good_none, ⟨_, rfl, rfl, rfl⟩⟩
   · intro hc1 hM
     refine J_skip <| T_seq <| J_seq <| J_region <| R_z [] [(3, vT ([]))] <| T_seq <| J_seq <| J_block <| J_w [(0, vI n0), (3, vT ([]))] ?_
     obtain ⟨o0, ho0, hM⟩ := bind_some hM
     refine spec_l16Dec_l1_ok n0 (⟨[]⟩ : Str) o0 ho0 (Imm.le.refl _)  (fun _ _ _ h => h) (fun _ _ h => h) ?_
     intro imm01 n02 out1 heq le1
     subst o0
     replace hle := hle.trans le1
     refine T_block_here <| T_seq <| J_seq <| J_region <| R_d 2 [] [(25, vI (W (48 + n02)))] <| R_u8 (d := 26) (i := (W (48 + n02))) rfl (by kernel_rfl) <| R_buildSlice (cs := [.int .u8 ((u8 (W (48 + n02))).toNat : Int)]) (Rp.sz UInt8) rfl rfl rfl rfl (by kernel_rfl) (by kernel_rfl) ?_
     intro b1 hb1
     have h2 : RL imm01 [.int .u8 ((u8 (W (48 + n02))).toNat : Int)] ([(u8 (W (48 + n02)))] : List UInt8) := ⟨[.int .u8 ((u8 (W (48 + n02))).toNat : Int)], _, rfl, rfl, rfl, rfl⟩
     refine R_bytes (l := ([(u8 (W (48 + n02)))] : List UInt8)) rfl rfl rfl rfl (by kernel_rfl) (by kernel_rfl) (.inr ⟨0, rfl⟩) h2 <| R_d 6 [] [(29, vT out1.l)] ?_
     obtain ⟨s2, hy3, hM⟩ := bind_some hM
     refine R_ca rfl hy3 <| R_z [] [(2, vT s2.l)] <| T_seq <| J_ret ?_
     obtain rfl := pure_some hM
     exact T_RS ⟨_, _, (.tmp rfl ResV.nil), good_none, ⟨_, rfl, rfl, rfl⟩⟩
def spec_l1Term_post (r : Str) : Nat → Imm → List HA → Value → Prop := fun kk imm' hs' v =>
  ∃ (v0 : Value), hs' = [] ∧ v = tupV [v0] ∧ v0 = .string ⟨⟨r.l⟩⟩
def M.spec_l1Term (n0 : Int) (name : Str) : Option (Str) := do
 let (n01, sign) ← (do
   if (decide (n0 < 0)) then
    pure ((W (0 - n0)), (⟨[45]⟩ : Str))
   else
    pure (n0, (⟨[43]⟩ : Str))
     : Option (Int × Str))
 if (name.l == ([] : List UInt8)) then
  let y ← M.spec_l16Dec n01
  let s ← cat sign y
  pure (id s)
 else
  if (n01 == 1) then
   let s1 ← cat sign name
   pure (id s1)
  else
   let y1 ← M.spec_l16Dec n01
   let s2 ← cat sign y1
   let s3 ← cat s2 (⟨[42]⟩ : Str)
   let s4 ← cat s3 name
   pure (id s4)
theorem spec_l1Term_ok : ∀ (n0 : Int) (name : Str) r, M.spec_l1Term n0 name = some r → ∀ {imm : Imm} , Ret Try.prog 98 [vI n0, vT name.l] imm [] (spec_l1Term_post  r) := by
 intro n0 name r hM imm
 unfold M.spec_l1Term at hM
 refine ret_of_J (fn := Try.f98) (c := (bodyOf Try.f98)) Try.func98 rfl rfl ?_
 rintro B - -
 have hle : imm.le imm := Imm.le.refl _
 refine J_seq <| J_region <| R_z [] [] <| T_seq <| J_seq <| J_region <| R_z [] [(5, vT ([43]))] <| T_seq <| J_seq <| J_seq <| J_region <| R_z [] [(7, .bool (decide (n0 < 0)))] <| T_seq ?_
 obtain ⟨o0, ho0, hM⟩ := bind_some hM
 refine J_cut (fun imm' hs' m' => ∃ (n01 : Int) (sign : Str), o0 = (n01, sign) ∧ imm.le imm' ∧ hs' = [] ∧ m' = [(0, vI n01), (1, vT name.l), (5, vT sign.l)]) ?_ ?_
 · have hle0 := hle
   have hle : imm.le imm := Imm.le.refl _
   refine J_cd ho0 ?_ ?_
   · intro hc hM
     exact J_seq <| J_region <| R_z [] [(5, vT ([45]))] <| T_seq <| J_region <| R_z [] [(0, vI (W (0 - n0)))] <| T_w [(0, vI (W (0 - n0))), (1, vT name.l), (5, vT ([45]))] <| T_cut ⟨_, _, (pure_some hM).symm, hle, rfl, rfl⟩
   · intro hc hM
     exact J_skip <| T_w [(0, vI n0), (1, vT name.l), (5, vT ([43]))] <| T_cut ⟨_, _, (pure_some hM).symm, hle, rfl, rfl⟩
 · rintro imm0 hs2 m2 ⟨n01, sign, heq, le, rfl, rfl⟩
   subst o0
   replace hle := hle.trans le
   refine T_seq <| J_seq <| J_seq <| J_region <| R_z [] [(11, .bool (name.l == ([] : List UInt8)))] <| T_seq <| J_cd hM ?_ ?_
   · intro hc1 hM
     refine J_seq <| J_region <| R_d 2 [] [(12, vT sign.l), (13, vI n01)] ?_
     obtain ⟨y, hy, hM⟩ := bind_some hM
     refine R_call (hs1 := []) (rest := []) rfl rfl rfl rfl (by kernel_rfl) rfl rfl (spec_l16Dec_ok n01 _ hy ) ?_
     rintro imm01 hs2 v2 k2 le1 - ⟨v0, rfl, rfl, rfl⟩ -
     replace hle := hle.trans le1
     obtain ⟨s, hy1, hM⟩ := bind_some hM
     refine R_ca rfl hy1 <| R_z [] [(4, vT s.l)] <| T_seq <| J_ret <| T_then_ret ?_
     obtain rfl := pure_some hM
     exact T_RS ⟨_, _, (.tmp rfl ResV.nil), good_none, ⟨_, rfl, rfl, rfl⟩⟩
   · intro hc1 hM
     refine J_skip <| T_seq <| J_seq <| J_seq <| J_region <| R_z [] [(17, .bool (n01 == 1))] <| T_seq <| J_cd hM ?_ ?_
     · intro hc2 hM
       refine J_seq <| J_region <| R_d 2 [] [(18, vT sign.l), (19, vT name.l)] ?_
       obtain ⟨s1, hy2, hM⟩ := bind_some hM
       refine R_ca rfl hy2 <| R_z [] [(4, vT s1.l)] <| T_seq <| J_ret <| T_then_ret ?_
       obtain rfl := pure_some hM
       exact T_RS ⟨_, _, (.tmp rfl ResV.nil), good_none, ⟨_, rfl, rfl, rfl⟩⟩
     · intro hc2 hM
       refine J_skip <| T_seq <| J_seq <| J_region <| R_d 2 [] [(21, vT sign.l), (22, vI n01)] ?_
       obtain ⟨y1, hy3, hM⟩ := bind_some hM
       refine R_call (hs1 := []) (rest := []) rfl rfl rfl rfl (by kernel_rfl) rfl rfl (spec_l16Dec_ok n01 _ hy3 ) ?_
       rintro imm02 hs2 v2 k2 le2 - ⟨v01, rfl, rfl, rfl⟩ -
       replace hle := hle.trans le2
       obtain ⟨s2, hy4, hM⟩ := bind_some hM
       refine R_ca rfl hy4 ?_
       obtain ⟨s3, hy5, hM⟩ := bind_some hM
       refine R_ca rfl hy5 <| R_d 6 [] [(26, vT name.l)] ?_
       obtain ⟨s4, hy6, hM⟩ := bind_some hM
       refine R_ca rfl hy6 <| R_z [] [(4, vT s4.l)] <| T_seq <| J_ret ?_
       obtain rfl := pure_some hM
       exact T_RS ⟨_, _, (.tmp rfl ResV.nil), good_none, ⟨_, rfl, rfl, rfl⟩⟩
def spec_l1Text_post (r : Str) : Nat → Imm → List HA → Value → Prop := fun kk imm' hs' v =>
  ∃ (v0 : Value), hs' = [] ∧ v = tupV [v0] ∧ v0 = .string ⟨⟨r.l⟩⟩
def M.spec_l1Text_l1 (a0 : impl_Affine) (out : Str) (i : Int) : Option (Str) := do
 if (decide (i < (a0.Coefs.length : Int))) then
  let x ← idx a0.Coefs i
  let out2 ← (do
    if (x != 0) then
     let x1 ← idx a0.Coefs i
     let s ← sslc (⟨[105, 106, 107, 108]⟩ : Str) i (W (i + 1))
     let y ← M.spec_l1Term x1 s
     let s1 ← cat out y
     pure (id s1)
    else
     pure (id out)
      : Option Str)
  M.spec_l1Text_l1 a0 out2 (W (i + 1))
 else
  pure (id out)
 partial_fixpoint
theorem spec_l1Text_l1_ok (a0 : impl_Affine) : ∀ (out : Str) (i : Int) (o : Str), M.spec_l1Text_l1 a0 out i = some o → ∀ {B : Base} {imm0 imm : Imm} {Q : Exit → Act → World → Prop}  {p : Option Addr} {c : Nat} {b : Nat}, imm0.le imm → (SL imm (vS p a0.Coefs c) a0.Coefs) → (∀ l a w, ¬ Q (.goto l) a w) → (∀ a w, ¬ Q .outgrown a w) → (∀ (imm' : Imm) (out1 : Str), o = out1 → imm0.le imm' → T 46 B Q (.exit 0) imm' [hB b [vS p a0.Coefs c, vI a0.Const]] [(1, vP b 0), (3, vT out1.l)]) → J Try.prog 46 B (nav (bodyOf Try.f82) [1, 1, 0, 1, 0]) Q imm [hB b [vS p a0.Coefs c, vI a0.Const]] [(1, vP b 0), (3, vT out.l), (4, vI i)] := by
 refine M.spec_l1Text_l1.partial_correctness a0 _ ?_
 intro self ih out i o hM B imm0 imm Q p c b hle h hg ho hx
 refine J_loop hg ho <| J_seq <| J_seq <| J_region <| R_z [0] [(9, .bool (decide (i < (a0.Coefs.length : Int))))] <| T_seq <| J_cd hM ?_ ?_
 · intro hc hM
   refine J_skip <| T_seq <| J_seq <| J_block <| J_seq <| J_region <| R_d 3 [0] [(13, vS p a0.Coefs c), (14, vI i)] ?_
   obtain ⟨x, hy, hM⟩ := bind_some hM
   refine R_ix rfl rfl h hy ?_
   intro ad ccs hat hrep
   obtain rfl := hrep
   refine R_la 0 hat [vI x] (vI x) rfl <| R_z [] [(17, .bool (x != 0))] <| T_seq ?_
   obtain ⟨o0, ho0, hM⟩ := bind_some hM
   refine J_cut (fun imm' hs' m' => ∃ (out2 : Str), o0 = out2 ∧ imm.le imm' ∧ hs' = [hB b [vS p a0.Coefs c, vI a0.Const]] ∧ m' = [(1, vP b 0), (3, vT out2.l), (4, vI i)]) ?_ ?_
   · have hle0 := hle
     have hle : imm.le imm := Imm.le.refl _
     refine J_cd ho0 ?_ ?_
     · intro hc1 hM
       obtain ⟨x1, hy1, hM⟩ := bind_some hM
       obtain ⟨s, hy2, hM⟩ := bind_some hM
       obtain ⟨y, hy3, hM⟩ := bind_some hM
       obtain ⟨s1, hy4, hM⟩ := bind_some hM
       refine J_any [.p (vT out.l) [], .p (vP b 0) [], .p (vS p a0.Coefs c) [0], .p (vI i) [], .x (fun imm' v hx => ∃ (ad1 : Addr), v = .pointer (some ad1) ∧ hx = [] ∧ (At imm' ad1 [vI x1])), .q (vI x1), .p (vI i) [], .p (vI i) [], .p (vI (W (i + 1))) [], .q (vT s.l), .q (vT y.l), .q (vT s1.l)] [[], [], [(1, false)], [], [(2, false), (3, false)], [(4, false)], [], [], [(7, false)], [(6, false), (8, false)], [(5, false), (9, false)], [(0, false), (10, false)]] [hB b [vS p a0.Coefs c, vI a0.Const]] [] [(11, false)] (good_pick [0] rfl (by decide)) ?_ ?_
       · refine Op <| Op <| Op <| Op <| Ox ?_ <| Oq ?_ <| Op <| Op <| Op <| Oq ?_ <| Oq ?_ <| Oq ?_ <| On
         · intro imm1 hf le1
           refine Ins_cons ?_
           rintro _ _ ⟨rfl, rfl⟩
           refine Ins_cons ?_
           rintro _ _ ⟨rfl, rfl⟩
           refine Ins_nil <| R_isw (hB b [vS p a0.Coefs c, vI a0.Const] :: hf) [(20, vS p a0.Coefs c), (21, vI i)] ?_
           have hle := Imm.le.refl imm1
           replace h := h.mono le1
           refine R_ix rfl rfl h hy1 ?_
           intro ad1 ccs1 hat1 hrep1
           obtain rfl := hrep1
           exact R_out (hx := []) rfl hle rfl (out_some rfl) ⟨_, rfl, rfl, hat1⟩
         · intro imm1 hf le1
           refine Ins_cons ?_
           rintro _ _ ⟨ad1, rfl, rfl, hat1⟩
           refine Ins_nil <| R_isw (hB b [vS p a0.Coefs c, vI a0.Const] :: hf) [(22, .pointer (some ad1))] ?_
           have hle := Imm.le.refl imm1
           exact R_la 0 hat1 [vI x1] (vI x1) rfl <| R_out (hx := []) rfl hle rfl (out_some rfl) ⟨rfl, rfl⟩
         · intro imm1 hf le1
           refine Ins_cons ?_
           rintro _ _ ⟨rfl, rfl⟩
           refine Ins_cons ?_
           rintro _ _ ⟨rfl, rfl⟩
           refine Ins_nil <| R_isw (hB b [vS p a0.Coefs c, vI a0.Const] :: hf) [(24, vI i), (26, vI (W (i + 1)))] ?_
           have hle := Imm.le.refl imm1
           exact R_ss rfl hy2 <| R_out (hx := []) rfl hle rfl (out_some rfl) ⟨rfl, rfl⟩
         · intro imm1 hf le1
           refine Ins_cons ?_
           rintro _ _ ⟨rfl, rfl⟩
           refine Ins_cons ?_
           rintro _ _ ⟨rfl, rfl⟩
           refine Ins_nil <| R_isw (hB b [vS p a0.Coefs c, vI a0.Const] :: hf) [(23, vI x1), (27, vT s.l)] ?_
           have hle := Imm.le.refl imm1
           replace h := h.mono le1
           refine R_call (hs1 := []) (rest := (hB b [vS p a0.Coefs c, vI a0.Const] :: hf)) rfl rfl rfl rfl (by kernel_rfl) rfl rfl (spec_l1Term_ok x1 s _ hy3 ) ?_
           rintro imm01 hs2 v2 k2 le - ⟨v0, rfl, rfl, rfl⟩ -
           replace h := h.mono le
           replace hle := hle.trans le
           exact R_out (hx := []) rfl hle rfl (out_some rfl) ⟨rfl, rfl⟩
         · intro imm1 hf le1
           refine Ins_cons ?_
           rintro _ _ ⟨rfl, rfl⟩
           refine Ins_cons ?_
           rintro _ _ ⟨rfl, rfl⟩
           refine Ins_nil <| R_isw (hB b [vS p a0.Coefs c, vI a0.Const] :: hf) [(18, vT out.l), (28, vT y.l)] ?_
           have hle := Imm.le.refl imm1
           exact R_ca rfl hy4 <| R_out (hx := []) rfl hle rfl (out_some rfl) ⟨rfl, rfl⟩
       · intro imm02 le1
         refine Ins_cons ?_
         rintro _ _ ⟨rfl, rfl⟩
         refine Ins_nil <| R_isw [hB b [vS p a0.Coefs c, vI a0.Const]] [(1, vP b 0), (4, vI i), (29, vT s1.l)] ?_
         replace h := h.mono le1
         replace hle := hle.trans le1
         exact R_z [] [(3, vT s1.l)] <| T_w [(1, vP b 0), (3, vT s1.l), (4, vI i)] <| T_cut ⟨_, (pure_some hM).symm, hle, rfl, rfl⟩
     · intro hc1 hM
       exact J_skip <| T_w [(1, vP b 0), (3, vT out.l), (4, vI i)] <| T_cut ⟨_, (pure_some hM).symm, hle, rfl, rfl⟩
   · rintro imm0 hs2 m2 ⟨out2, heq, le2, rfl, rfl⟩
     subst o0
     replace h := h.mono le2
     replace hle := hle.trans le2
     exact T_block_normal <| T_seq <| J_region <| R_z [] [(4, vI (W (i + 1)))] <| T_loop <| J_w [(1, vP b 0), (3, vT out2.l), (4, vI (W (i + 1)))] <| ih out2 (W (i + 1)) _ hM hle h hg ho hx
 · intro hc hM
   exact J_exit <| T_then_exit <| T_then_exit <| T_w [(1, vP b 0), (3, vT out.l)] <| hx _ _ (pure_some hM).symm hle
def M.spec_l1Text (a0 : impl_Affine) : Option (Str) := do
 let out1 ← M.spec_l1Text_l1 a0 (⟨[]⟩ : Str) 0
 let out3 ← (do
   if (a0.Const != 0) then
    let y1 ← M.spec_l1Term a0.Const (⟨[]⟩ : Str)
    let s2 ← cat out1 y1
    pure (id s2)
   else
    pure (id out1)
     : Option Str)
 if (out3.l == ([] : List UInt8)) then
  pure (⟨[48]⟩ : Str)
 else
  let s3 ← sslc out3 0 1
  if (s3.l == ([43] : List UInt8)) then
   let s4 ← sslc out3 1 (out3.l.length : Int)
   pure (id s4)
  else
   pure (id out3)
theorem spec_l1Text_ok : ∀ (a0 : impl_Affine) r, M.spec_l1Text a0 = some r → ∀ {imm : Imm} {p : Option Addr} {c : Nat}, (SL imm (vS p a0.Coefs c) a0.Coefs) → Ret Try.prog 82 [vA [vS p a0.Coefs c, vI a0.Const]] imm [] (spec_l1Text_post  r) := by
 intro a0 r hM imm p c h
 unfold M.spec_l1Text at hM
 refine ret_of_J (fn := Try.f82) (c := (bodyOf Try.f82)) Try.func82 rfl rfl ?_
 rintro B - -
 have hle : imm.le imm := Imm.le.refl _
 refine J_seq <| J_region <| R_box (c := ⟨[vS p a0.Coefs c, vI a0.Const]⟩) rfl rfl rfl rfl rfl ?_
 intro b hb
 refine R_z [] [] <| T_seq <| J_seq <| J_region <| R_z [] [(3, vT ([]))] <| T_seq <| J_seq <| J_seq <| J_region <| R_z [] [(4, vI 0)] <| T_seq <| J_block <| J_w [(1, vP b 0), (3, vT ([])), (4, vI 0)] ?_
 obtain ⟨o01, ho01, hM⟩ := bind_some hM
 refine spec_l1Text_l1_ok a0 (⟨[]⟩ : Str) 0 o01 ho01 (Imm.le.refl _) h (fun _ _ _ h => h) (fun _ _ h => h) ?_
 intro imm03 out1 heq1 le3
 subst o01
 replace h := h.mono le3
 replace hle := hle.trans le3
 refine T_block_here <| T_seq <| J_seq <| J_seq <| J_region <| R_z [0] [(32, .bool (a0.Const != 0))] <| T_seq ?_
 obtain ⟨o02, ho02, hM⟩ := bind_some hM
 refine J_cut (fun imm' hs' m' => ∃ (out3 : Str), o02 = out3 ∧ imm03.le imm' ∧ hs' = [] ∧ m' = [(3, vT out3.l)]) ?_ ?_
 · have hle0 := hle
   have hle : imm03.le imm03 := Imm.le.refl _
   refine J_cd ho02 ?_ ?_
   · intro hc2 hM
     refine J_region <| R_d 3 [0] [(33, vT out1.l), (35, vI a0.Const)] ?_
     obtain ⟨y1, hy5, hM⟩ := bind_some hM
     refine R_call (hs1 := []) (rest := [hB b [vS p a0.Coefs c, vI a0.Const]]) rfl rfl rfl rfl (by kernel_rfl) rfl rfl (spec_l1Term_ok a0.Const (⟨[]⟩ : Str) _ hy5 ) ?_
     rintro imm05 hs2 v2 k2 le4 - ⟨v01, rfl, rfl, rfl⟩ -
     replace h := h.mono le4
     replace hle := hle.trans le4
     obtain ⟨s2, hy6, hM⟩ := bind_some hM
     exact R_ca rfl hy6 <| R_z [] [(3, vT s2.l)] <| T_hs (good_pick [] rfl (by decide)) <| T_w [(3, vT s2.l)] <| T_cut ⟨_, (pure_some hM).symm, hle, rfl, rfl⟩
   · intro hc2 hM
     exact J_skip <| T_hs (good_pick [] rfl (by decide)) <| T_w [(3, vT out1.l)] <| T_cut ⟨_, (pure_some hM).symm, hle, rfl, rfl⟩
 · rintro imm04 hs2 m2 ⟨out3, heq2, le5, rfl, rfl⟩
   subst o02
   replace hle := hle.trans le5
   refine T_seq <| J_seq <| J_seq <| J_region <| R_z [] [(39, .bool (out3.l == ([] : List UInt8)))] <| T_seq <| J_cd hM ?_ ?_
   · intro hc3 hM
     refine J_seq <| J_region <| R_z [] [(2, vT ([48]))] <| T_seq <| J_ret <| T_then_ret ?_
     obtain rfl := pure_some hM
     exact T_RS ⟨_, _, (.tmp rfl ResV.nil), good_none, ⟨_, rfl, rfl, rfl⟩⟩
   · intro hc3 hM
     refine J_skip <| T_seq <| J_seq <| J_seq <| J_region <| R_d 1 [] [(40, vT out3.l)] ?_
     obtain ⟨s3, hy7, hM⟩ := bind_some hM
     refine R_ss rfl hy7 <| R_z [] [(42, .bool (s3.l == ([43] : List UInt8)))] <| T_seq <| J_cd hM ?_ ?_
     · intro hc4 hM
       refine J_seq <| J_region <| R_d 1 [] [(43, vT out3.l)] ?_
       obtain ⟨s4, hy8, hM⟩ := bind_some hM
       refine R_ss rfl hy8 <| R_z [] [(2, vT s4.l)] <| T_seq <| J_ret <| T_then_ret ?_
       obtain rfl := pure_some hM
       exact T_RS ⟨_, _, (.tmp rfl ResV.nil), good_none, ⟨_, rfl, rfl, rfl⟩⟩
     · intro hc4 hM
       refine J_skip <| T_seq <| J_seq <| J_region <| R_z [] [(2, vT out3.l)] <| T_seq <| J_ret ?_
       obtain rfl := pure_some hM
       exact T_RS ⟨_, _, (.tmp rfl ResV.nil), good_none, ⟨_, rfl, rfl, rfl⟩⟩
def spec_FormatAffine_post (r : Str) : Nat → Imm → List HA → Value → Prop := fun kk imm' hs' v =>
  ∃ (v0 : Value), hs' = [] ∧ v = tupV [v0] ∧ v0 = .string ⟨⟨r.l⟩⟩
def M.spec_FormatAffine (a0 : impl_Affine) : Option (Str) := do
 let y ← M.spec_AffineValid a0
 if (!y) then
  pure (⟨[]⟩ : Str)
 else
  let y1 ← M.spec_l1Text a0
  pure (id y1)
theorem spec_FormatAffine_ok : ∀ (a0 : impl_Affine) r, M.spec_FormatAffine a0 = some r → ∀ {imm : Imm} {p : Option Addr} {c : Nat}, (SL imm (vS p a0.Coefs c) a0.Coefs) → Ret Try.prog 105 [vA [vS p a0.Coefs c, vI a0.Const]] imm [] (spec_FormatAffine_post  r) := by
 intro a0 r hM imm p c h
 unfold M.spec_FormatAffine at hM
 refine ret_of_J (fn := Try.f105) (c := (bodyOf Try.f105)) Try.func105 rfl rfl ?_
 rintro B - -
 have hle : imm.le imm := Imm.le.refl _
 refine J_seq <| J_region <| R_box (c := ⟨[vS p a0.Coefs c, vI a0.Const]⟩) rfl rfl rfl rfl rfl ?_
 intro b hb
 refine R_z [] [] <| T_seq <| J_seq <| J_seq <| J_region <| R_d 1 [0] [(3, vA [vS p a0.Coefs c, vI a0.Const])] ?_
 obtain ⟨y, hy, hM⟩ := bind_some hM
 refine R_call (hs1 := []) (rest := [hB b [vS p a0.Coefs c, vI a0.Const]]) rfl rfl rfl rfl (by kernel_rfl) rfl rfl (spec_AffineValid_ok a0 _ hy h) ?_
 rintro imm0 hs2 v2 k2 le - ⟨v0, rfl, rfl, rfl⟩ -
 replace h := h.mono le
 replace hle := hle.trans le
 refine R_z [] [(5, .bool (!y))] <| T_seq <| J_cd hM ?_ ?_
 · intro hc hM
   refine J_seq <| J_region <| R_z [] [(2, vT ([]))] <| T_seq <| J_ret <| T_then_ret ?_
   obtain rfl := pure_some hM
   exact T_RS ⟨_, _, (.tmp rfl ResV.nil), good_none, ⟨_, rfl, rfl, rfl⟩⟩
 · intro hc hM
   refine J_skip <| T_seq <| J_seq <| J_region <| R_d 1 [0] [(6, vA [vS p a0.Coefs c, vI a0.Const])] ?_
   obtain ⟨y1, hy1, hM⟩ := bind_some hM
   refine R_call (hs1 := []) (rest := [hB b [vS p a0.Coefs c, vI a0.Const]]) rfl rfl rfl rfl (by kernel_rfl) rfl rfl (spec_l1Text_ok a0 _ hy1 h) ?_
   rintro imm01 hs2 v2 k2 le1 - ⟨v01, rfl, rfl, rfl⟩ -
   replace h := h.mono le1
   replace hle := hle.trans le1
   refine R_z [] [(2, vT y1.l)] <| T_seq <| J_ret ?_
   obtain rfl := pure_some hM
   exact T_RS ⟨_, _, (.tmp rfl ResV.nil), good_none, ⟨_, rfl, rfl, rfl⟩⟩
def spec_ParseAffine_post (r : impl_Affine × Bool) : Nat → Imm → List HA → Value → Prop := fun kk imm' hs' v =>
  ∃ (v0 : Value) (v1 : Value), hs' = [] ∧ v = tupV [v0, v1] ∧ (∃ cs, v0 = .agg ⟨cs⟩ ∧ Rp.rep imm' cs r.1) ∧ v1 = .bool r.2
def M.spec_ParseAffine_l1 (text : Str) (at0 : Int) (x : impl_Affine) : Option (impl_Affine) := do
 let t18 ← (do
   if (decide (at0 ≥ 0)) then
    pure (decide (at0 < (text.l.length : Int)))
   else
    pure false
     : Option Bool)
 if t18 then
  let (y2, y3) ← M.spec_l1Parse x text at0
  M.spec_ParseAffine_l1 text y3 y2
 else
  pure (id x)
 partial_fixpoint
theorem spec_ParseAffine_l1_ok (text : Str) : ∀ (at0 : Int) (x : impl_Affine) (o : impl_Affine), M.spec_ParseAffine_l1 text at0 x = some o → ∀ {B : Base} {imm0 imm : Imm} {Q : Exit → Act → World → Prop}  {b : Nat} {b1 : Nat} {p1 : Option Addr} {c1 : Nat}, imm0.le imm → (SL imm (vS p1 x.Coefs c1) x.Coefs) → (∀ l a w, ¬ Q (.goto l) a w) → (∀ a w, ¬ Q .outgrown a w) → (∀ (imm' : Imm) (x1 : impl_Affine) (p2 : Option Addr) (c2 : Nat), o = x1 → imm0.le imm' → (SL imm' (vS p2 x1.Coefs c2) x1.Coefs) → T 32 B Q (.exit 0) imm' [hB b1 [vS p2 x1.Coefs c2, vI x1.Const], hB b [.slice none 0 0, vI 0]] [(0, vT text.l), (2, vP b 0), (4, vP b1 0)]) → J Try.prog 32 B (nav (bodyOf Try.f94) [1, 1, 1, 1, 0, 0]) Q imm [hB b1 [vS p1 x.Coefs c1, vI x.Const], hB b [.slice none 0 0, vI 0]] [(0, vT text.l), (2, vP b 0), (4, vP b1 0), (5, vI at0)] := by
 refine M.spec_ParseAffine_l1.partial_correctness text _ ?_
 intro self ih at0 x o hM B imm0 imm Q b b1 p1 c1 hle h2 hg ho hx
 refine J_loop hg ho <| J_seq <| J_seq ?_
 obtain ⟨o0, ho0, hM⟩ := bind_some hM
 refine J_cut (fun imm' hs' m' => ∃ (t18 : Bool), o0 = t18 ∧ imm.le imm' ∧ hs' = [hB b1 [vS p1 x.Coefs c1, vI x.Const], hB b [.slice none 0 0, vI 0]] ∧ m' = [(0, vT text.l), (2, vP b 0), (4, vP b1 0), (5, vI at0), (18, .bool t18)]) ?_ ?_
 · have hle0 := hle
   have hle : imm.le imm := Imm.le.refl _
   refine J_region <| R_d 3 [] [(13, .bool (decide (at0 ≥ 0)))] ?_
   cases hc1 : (decide (at0 ≥ 0)) with
   | true =>
    have hM0 := if_some_true hc1 ho0
    try rw [hc1]
    exact R_z [] [(18, .bool (decide (at0 < (text.l.length : Int))))] <| T_w [(0, vT text.l), (2, vP b 0), (4, vP b1 0), (5, vI at0), (18, .bool (decide (at0 < (text.l.length : Int))))] <| T_cut ⟨_, (pure_some hM0).symm, hle, rfl, rfl⟩
   | false =>
    have hM01 := if_some_false hc1 ho0
    try rw [hc1]
    exact R_z [] [(18, .bool false)] <| T_w [(0, vT text.l), (2, vP b 0), (4, vP b1 0), (5, vI at0), (18, .bool false)] <| T_cut ⟨_, (pure_some hM01).symm, hle, rfl, rfl⟩
 · rintro imm02 hs2 m2 ⟨t18, heq, le2, rfl, rfl⟩
   subst o0
   replace h2 := h2.mono le2
   replace hle := hle.trans le2
   refine T_seq <| J_cd hM ?_ ?_
   · intro hc2 hM
     refine J_skip <| T_seq <| J_block <| J_region <| R_d 3 [0] [(20, vA [vS p1 x.Coefs c1, vI x.Const]), (21, vT text.l), (22, vI at0)] ?_
     obtain ⟨⟨y2, y3⟩, hy1, hM⟩ := bind_some hM
     refine R_call (hs1 := []) (rest := [hB b1 [vS p1 x.Coefs c1, vI x.Const], hB b [.slice none 0 0, vI 0]]) rfl rfl rfl rfl (by kernel_rfl) rfl rfl (spec_l1Parse_ok x text at0 _ hy1 h2) ?_
     rintro imm03 hs2 v2 k2 le3 - ⟨v0, v01, rfl, rfl, ⟨cs1, rfl, h4⟩, rfl⟩ -
     replace h2 := h2.mono le3
     replace hle := hle.trans le3
     obtain ⟨v02, rfl, h6⟩ := impl_Affine_open h4
     obtain ⟨p3, c3, rfl⟩ := h6.form
     exact R_d 7 [] [(24, vA [vS p3 y2.Coefs c3, vI y2.Const]), (25, vI y3)] <| R_sb 0 [vS p3 y2.Coefs c3, vI y2.Const] [hB b1 [vS p3 y2.Coefs c3, vI y2.Const], hB b [.slice none 0 0, vI 0]] rfl rfl rfl rfl <| R_z [] [(5, vI y3)] <| T_block_normal <| T_loop <| J_w [(0, vT text.l), (2, vP b 0), (4, vP b1 0), (5, vI y3)] <| ih y3 y2 _ hM hle h6 hg ho hx
   · intro hc2 hM
     exact J_exit <| T_then_exit <| T_then_exit <| T_w [(0, vT text.l), (2, vP b 0), (4, vP b1 0)] <| hx _ _ _ _ (pure_some hM).symm hle h2
def M.spec_ParseAffine (text : Str) : Option (impl_Affine × Bool) := do
 let y ← M.spec_l1Zero
 if (decide ((text.l.length : Int) > 40)) then
  pure ((impl_Affine.mk ([] : List Int) 0), false)
 else
  let x1 ← M.spec_ParseAffine_l1 text 0 (impl_Affine.mk y.Coefs y.Const)
  let y4 ← M.spec_FormatAffine x1
  if (!(y4.l == text.l)) then
   pure ((impl_Affine.mk ([] : List Int) 0), false)
  else
   pure (x1, true)
theorem spec_ParseAffine_ok : ∀ (text : Str) r, M.spec_ParseAffine text = some r → ∀ {imm : Imm} , Ret Try.prog 94 [vT text.l] imm [] (spec_ParseAffine_post  r) := by
 intro text r hM imm
 unfold M.spec_ParseAffine at hM
 refine ret_of_J (fn := Try.f94) (c := (bodyOf Try.f94)) Try.func94 rfl rfl ?_
 rintro B - -
 have hle : imm.le imm := Imm.le.refl _
 refine J_seq <| J_region <| R_alloc (c := ⟨[.slice none 0 0, vI 0]⟩) rfl rfl rfl (by kernel_rfl) ?_
 intro b hb
 refine R_z [] [] <| T_seq <| J_seq <| J_region ?_
 obtain ⟨y, hy, hM⟩ := bind_some hM
 refine R_call (hs1 := []) (rest := [hB b [.slice none 0 0, vI 0]]) rfl rfl rfl rfl (by kernel_rfl) rfl rfl (spec_l1Zero_ok  _ hy ) ?_
 rintro imm0 hs2 v2 k2 le - ⟨p, c, cs, rfl, rfl, h⟩ -
 replace hle := hle.trans le
 refine R_alloc (c := ⟨[.slice none 0 0, vI 0]⟩) rfl rfl rfl (by kernel_rfl) ?_
 intro b1 hb1
 refine R_sb 0 [vS p y.Coefs c, vI y.Const] [hB b1 [vS p y.Coefs c, vI y.Const], hO Int (vS p y.Coefs c) cs, hB b [.slice none 0 0, vI 0]] rfl rfl rfl rfl <| R_end rfl <| T_seq <| J_seq <| J_seq <| J_region <| R_z [] [(9, .bool (decide ((text.l.length : Int) > 40)))] <| T_seq <| J_cd hM ?_ ?_
 · intro hc hM
   refine J_seq <| J_region <| R_d 1 [] [(10, vA [.slice none 0 0, vI 0])] <| R_sb 2 [.slice none 0 0, vI 0] [hB b1 [vS p y.Coefs c, vI y.Const], hO Int (vS p y.Coefs c) cs, hB b [.slice none 0 0, vI 0]] rfl rfl rfl rfl <| R_z [] [(3, .bool false)] <| T_seq <| J_ret <| T_then_ret ?_
   obtain rfl := pure_some hM
   exact T_RS ⟨_, _, (.cell 2 rfl rfl (by kernel_rfl) (.tmp rfl ResV.nil)), good_none, ⟨_, _, rfl, rfl, ⟨_, rfl, (impl_Affine_shut ⟨_, rfl, (SL.nil _)⟩)⟩, rfl⟩⟩
 · intro hc hM
   refine J_skip <| T_seq <| J_seq <| J_region <| R_z [] [(5, vI 0)] <| T_seq <| J_seq <| J_block <| J_freeze 1 rfl ?_
   intro imm01 le1 hl0
   have h1 := SL.of_frozen hl0 le1 h
   replace hle := hle.trans le1
   refine J_w [(0, vT text.l), (2, vP b 0), (4, vP b1 0), (5, vI 0)] ?_
   obtain ⟨o01, ho01, hM⟩ := bind_some hM
   refine spec_ParseAffine_l1_ok text 0 (impl_Affine.mk y.Coefs y.Const) o01 ho01 (Imm.le.refl _) h1 (fun _ _ _ h => h) (fun _ _ h => h) ?_
   intro imm04 x1 p2 c2 heq1 le4 h3
   subst o01
   replace hle := hle.trans le4
   refine T_block_here <| T_seq <| J_seq <| J_seq <| J_region <| R_d 1 [0] [(26, vA [vS p2 x1.Coefs c2, vI x1.Const])] ?_
   obtain ⟨y4, hy2, hM⟩ := bind_some hM
   refine R_call (hs1 := []) (rest := [hB b1 [vS p2 x1.Coefs c2, vI x1.Const], hB b [.slice none 0 0, vI 0]]) rfl rfl rfl rfl (by kernel_rfl) rfl rfl (spec_FormatAffine_ok x1 _ hy2 h3) ?_
   rintro imm05 hs2 v2 k2 le5 - ⟨v03, rfl, rfl, rfl⟩ -
   replace h3 := h3.mono le5
   replace hle := hle.trans le5
   refine R_z [] [(29, .bool (!(y4.l == text.l)))] <| T_seq <| J_cd hM ?_ ?_
   · intro hc3 hM
     refine J_seq <| J_region <| R_d 1 [] [(30, vA [.slice none 0 0, vI 0])] <| R_sb 1 [.slice none 0 0, vI 0] [hB b1 [vS p2 x1.Coefs c2, vI x1.Const], hB b [.slice none 0 0, vI 0]] rfl rfl rfl rfl <| R_z [] [(3, .bool false)] <| T_seq <| J_ret <| T_then_ret ?_
     obtain rfl := pure_some hM
     exact T_RS ⟨_, _, (.cell 1 rfl rfl (by kernel_rfl) (.tmp rfl ResV.nil)), good_none, ⟨_, _, rfl, rfl, ⟨_, rfl, (impl_Affine_shut ⟨_, rfl, (SL.nil _)⟩)⟩, rfl⟩⟩
   · intro hc3 hM
     refine J_skip <| T_seq <| J_seq <| J_region <| R_d 1 [0] [(31, vA [vS p2 x1.Coefs c2, vI x1.Const])] <| R_sb 1 [vS p2 x1.Coefs c2, vI x1.Const] [hB b1 [vS p2 x1.Coefs c2, vI x1.Const], hB b [vS p2 x1.Coefs c2, vI x1.Const]] rfl rfl rfl rfl <| R_z [] [(3, .bool true)] <| T_seq <| J_ret ?_
     obtain rfl := pure_some hM
     exact T_RS ⟨_, _, (.cell 1 rfl rfl (by kernel_rfl) (.tmp rfl ResV.nil)), good_none, ⟨_, _, rfl, rfl, ⟨_, rfl, (impl_Affine_shut ⟨_, rfl, h3⟩)⟩, rfl⟩⟩
def spec_l2SideParse_post (r : (List impl_Affine)) : Nat → Imm → List HA → Value → Prop := fun kk imm' hs' v =>
  ∃ (v0 : Value), hs' = [] ∧ v = tupV [v0] ∧ SL imm' v0 r
def M.spec_l2SideParse_l1 (y : (List Str)) (out : List impl_Affine) (i : Int) : Option (List impl_Affine) := do
 let t18 ← (do
   if (decide (i < (y.length : Int))) then
    pure (decide (i ≤ 2))
   else
    pure false
     : Option Bool)
 if t18 then
  let x ← idx y i
  let (y2, y3) ← M.spec_ParseAffine x
  let out2 ← app 32 out ([y2] : List impl_Affine)
  M.spec_l2SideParse_l1 y out2 (W (i + 1))
 else
  pure (id out)
 partial_fixpoint
theorem spec_l2SideParse_l1_ok (y : (List Str)) : ∀ (out : List impl_Affine) (i : Int) (o : List impl_Affine), M.spec_l2SideParse_l1 y out i = some o → ∀ {B : Base} {imm0 imm : Imm} {Q : Exit → Act → World → Prop}  {p : Option Addr} {c : Nat} {p1 : Option Addr} {c1 : Nat} {cs : List Value}, imm0.le imm → (SL imm (vS p y c) y) → (RL imm cs out) → (∀ l a w, ¬ Q (.goto l) a w) → (∀ a w, ¬ Q .outgrown a w) → (∀ (imm' : Imm) (out1 : List impl_Affine) (p2 : Option Addr) (c2 : Nat) (cs1 : List Value), o = out1 → imm0.le imm' → (RL imm' cs1 out1) → T 34 B Q (.exit 0) imm' [hO impl_Affine (vS p2 out1 c2) cs1] [(3, vS p2 out1 c2)]) → J Try.prog 34 B (nav (bodyOf Try.f77) [1, 1, 1, 0, 1, 0]) Q imm [hO impl_Affine (vS p1 out c1) cs] [(3, vS p1 out c1), (4, vS p y c), (5, vI i)] := by
 refine M.spec_l2SideParse_l1.partial_correctness y _ ?_
 intro self ih out i o hM B imm0 imm Q p c p1 c1 cs hle h1 h2 hg ho hx
 refine J_loop hg ho <| J_seq <| J_seq ?_
 obtain ⟨o0, ho0, hM⟩ := bind_some hM
 refine J_cut (fun imm' hs' m' => ∃ (t18 : Bool), o0 = t18 ∧ imm.le imm' ∧ hs' = [hO impl_Affine (vS p1 out c1) cs] ∧ m' = [(3, vS p1 out c1), (4, vS p y c), (5, vI i), (18, .bool t18)]) ?_ ?_
 · have hle0 := hle
   have hle : imm.le imm := Imm.le.refl _
   refine J_region <| R_d 5 [] [(15, .bool (decide (i < (y.length : Int))))] ?_
   cases hc : (decide (i < (y.length : Int))) with
   | true =>
    have hM0 := if_some_true hc ho0
    try rw [hc]
    exact R_z [] [(18, .bool (decide (i ≤ 2)))] <| T_w [(3, vS p1 out c1), (4, vS p y c), (5, vI i), (18, .bool (decide (i ≤ 2)))] <| T_cut ⟨_, (pure_some hM0).symm, hle, rfl, rfl⟩
   | false =>
    have hM01 := if_some_false hc ho0
    try rw [hc]
    exact R_z [] [(18, .bool false)] <| T_w [(3, vS p1 out c1), (4, vS p y c), (5, vI i), (18, .bool false)] <| T_cut ⟨_, (pure_some hM01).symm, hle, rfl, rfl⟩
 · rintro imm01 hs2 m2 ⟨t18, heq, le1, rfl, rfl⟩
   subst o0
   replace h2 := RepL.mono (fun _ _ => Rp.mono le1) h2
   replace h1 := h1.mono le1
   replace hle := hle.trans le1
   refine T_seq <| J_cd hM ?_ ?_
   · intro hc1 hM
     refine J_skip <| T_seq <| J_seq <| J_block <| J_seq <| J_region <| R_d 2 [] [(22, vS p y c), (23, vI i)] ?_
     obtain ⟨x, hy1, hM⟩ := bind_some hM
     refine R_ix rfl rfl h1 hy1 ?_
     intro ad ccs hat hrep
     obtain rfl := hrep
     refine R_la 0 hat [vT x.l] (vT x.l) rfl ?_
     obtain ⟨⟨y2, y3⟩, hy2, hM⟩ := bind_some hM
     refine R_call (hs1 := []) (rest := [hO impl_Affine (vS p1 out c1) cs]) rfl rfl rfl rfl (by kernel_rfl) rfl rfl (spec_ParseAffine_ok x _ hy2 ) ?_
     rintro imm02 hs2 v2 k2 le2 - ⟨v01, v02, rfl, rfl, ⟨cs2, rfl, h4⟩, rfl⟩ -
     replace h2 := RepL.mono (fun _ _ => Rp.mono le2) h2
     replace h1 := h1.mono le2
     replace hle := hle.trans le2
     obtain ⟨v03, rfl, h6⟩ := impl_Affine_open h4
     obtain ⟨p3, c3, rfl⟩ := h6.form
     refine R_d 8 [] [(27, vA [vS p3 y2.Coefs c3, vI y2.Const]), (28, .bool y3)] <| R_alloc (c := ⟨[.slice none 0 0, vI 0]⟩) rfl rfl rfl (by kernel_rfl) ?_
     intro b1 hb1
     refine R_sb 0 [vS p3 y2.Coefs c3, vI y2.Const] [hB b1 [vS p3 y2.Coefs c3, vI y2.Const], hO impl_Affine (vS p1 out c1) cs] rfl rfl rfl rfl <| R_z [] [] <| T_seq <| J_region <| R_d 2 [0] [(29, vS p1 out c1), (30, vA [vS p3 y2.Coefs c3, vI y2.Const])] <| R_buildSlice (cs := [vS p3 y2.Coefs c3, vI y2.Const]) (Rp.sz impl_Affine) rfl rfl rfl rfl (by kernel_rfl) (by kernel_rfl) ?_
     intro b2 hb2
     have h7 : RL imm02 [vS p3 y2.Coefs c3, vI y2.Const] ([y2] : List impl_Affine) := ⟨[vS p3 y2.Coefs c3, vI y2.Const], _, rfl, rfl, (impl_Affine_shut ⟨_, rfl, h6⟩), rfl⟩
     obtain ⟨out2, hy3, hM⟩ := bind_some hM
     refine R_ap 75 2 2 rfl rfl rfl h2 (.inr ⟨0, rfl⟩) h7 hy3 ?_
     intro p4 c4 cs3 h8
     exact R_hs (good_pick [1, 2] (hs' := [hB b1 [vS p3 y2.Coefs c3, vI y2.Const], hO impl_Affine (vS p4 out2 c4) cs3]) rfl (by decide)) <| R_z [] [(3, vS p4 out2 c4)] <| T_block_normal <| T_seq <| J_region <| R_z [] [(5, vI (W (i + 1)))] <| T_loop <| J_hs (good_pick [1] rfl (by decide)) <| J_w [(3, vS p4 out2 c4), (4, vS p y c), (5, vI (W (i + 1)))] <| ih out2 (W (i + 1)) _ hM hle h1 h8 hg ho hx
   · intro hc1 hM
     exact J_exit <| T_then_exit <| T_then_exit <| T_w [(3, vS p1 out c1)] <| hx _ _ _ _ _ (pure_some hM).symm hle h2
def M.spec_l2SideParse (text : Str) : Option ((List impl_Affine)) := do
 let y ← M.spec_l16Cut text (44 : UInt8)
 let out1 ← M.spec_l2SideParse_l1 y ([] : List impl_Affine) 0
 pure (id out1)
theorem spec_l2SideParse_ok : ∀ (text : Str) r, M.spec_l2SideParse text = some r → ∀ {imm : Imm} , Ret Try.prog 77 [vT text.l] imm [] (spec_l2SideParse_post  r) := by
 intro text r hM imm
 unfold M.spec_l2SideParse at hM
 refine ret_of_J (fn := Try.f77) (c := (bodyOf Try.f77)) Try.func77 rfl rfl ?_
 rintro B - -
 have hle : imm.le imm := Imm.le.refl _
 refine J_seq <| J_region <| R_z [] [] <| T_seq <| J_seq <| J_region <| R_buildSlice (cs := []) (Rp.sz impl_Affine) rfl rfl rfl rfl (by kernel_rfl) (by kernel_rfl) ?_
 intro b hb
 have h : RL imm [] ([] : List impl_Affine) := rfl
 refine R_z [] [(3, vS (some ⟨b, 0, none⟩) ([] : List impl_Affine) 0)] <| T_seq <| J_seq <| J_region <| R_d 1 [] [(9, vT text.l)] ?_
 obtain ⟨y, hy, hM⟩ := bind_some hM
 refine R_call (hs1 := []) (rest := [hO impl_Affine (vS (some ⟨b, 0, none⟩) ([] : List impl_Affine) 0) []]) rfl rfl rfl rfl (by kernel_rfl) rfl rfl (spec_l16Cut_ok text (44 : UInt8) _ hy ) ?_
 rintro imm0 hs2 v2 k2 le - ⟨v0, rfl, rfl, h1⟩ -
 replace h := RepL.mono (fun _ _ => Rp.mono le) h
 replace hle := hle.trans le
 obtain ⟨p, c, rfl⟩ := h1.form
 refine R_z [] [(4, vS p y c)] <| T_seq <| J_seq <| J_seq <| J_region <| R_z [] [(5, vI 0)] <| T_seq <| J_block <| J_w [(3, vS (some ⟨b, 0, none⟩) ([] : List impl_Affine) 0), (4, vS p y c), (5, vI 0)] ?_
 obtain ⟨o01, ho01, hM⟩ := bind_some hM
 refine spec_l2SideParse_l1_ok y ([] : List impl_Affine) 0 o01 ho01 (Imm.le.refl _) h1 h (fun _ _ _ h => h) (fun _ _ h => h) ?_
 intro imm03 out1 p2 c2 cs1 heq1 le3 h3
 subst o01
 replace hle := hle.trans le3
 refine T_block_here <| T_seq <| J_seq <| J_region <| R_z [] [(2, vS p2 out1 c2)] <| T_seq <| J_ret <| T_freeze 0 rfl ?_
 intro imm04 le4 hl0
 have h9 := SL.of_frozen hl0 le4 h3
 replace hle := hle.trans le4
 obtain rfl := pure_some hM
 exact T_RS ⟨_, _, (.tmp rfl ResV.nil), good_none, ⟨_, rfl, rfl, h9⟩⟩
def spec_l2Line_post (r : impl_Loop) : Nat → Imm → List HA → Value → Prop := fun kk imm' hs' v =>
  ∃ (v0 : Value), hs' = [] ∧ v = tupV [v0] ∧ (∃ cs, v0 = .agg ⟨cs⟩ ∧ Rp.rep imm' cs r)
def M.spec_l2Line (line : Str) : Option (impl_Loop) := do
 let y ← M.spec_l16Words line
 if ((y.length : Int) != 3) then
  pure (impl_Loop.mk ([] : List impl_Affine) ([] : List impl_Affine))
 else
  let x ← idx y 1
  let y1 ← M.spec_l2SideParse x
  let x1 ← idx y 2
  let y2 ← M.spec_l2SideParse x1
  pure (impl_Loop.mk y1 y2)
theorem spec_l2Line_ok : ∀ (line : Str) r, M.spec_l2Line line = some r → ∀ {imm : Imm} , Ret Try.prog 57 [vT line.l] imm [] (spec_l2Line_post  r) := by
 intro line r hM imm
 unfold M.spec_l2Line at hM
 refine ret_of_J (fn := Try.f57) (c := (bodyOf Try.f57)) Try.func57 rfl rfl ?_
 rintro B - -
 have hle : imm.le imm := Imm.le.refl _
 refine J_seq <| J_region <| R_alloc (c := ⟨[.slice none 0 0, .slice none 0 0]⟩) rfl rfl rfl (by kernel_rfl) ?_
 intro b hb
 refine R_end rfl <| T_seq <| J_seq <| J_region <| R_d 1 [] [(4, vT line.l)] ?_
 obtain ⟨y, hy, hM⟩ := bind_some hM
 refine R_call (hs1 := []) (rest := [hB b [.slice none 0 0, .slice none 0 0]]) rfl rfl rfl rfl (by kernel_rfl) rfl rfl (spec_l16Words_ok line _ hy ) ?_
 rintro imm0 hs2 v2 k2 le - ⟨v0, rfl, rfl, h⟩ -
 replace hle := hle.trans le
 obtain ⟨p, c, rfl⟩ := h.form
 refine R_z [] [(3, vS p y c)] <| T_seq <| J_seq <| J_seq <| J_region <| R_z [] [(8, .bool ((y.length : Int) != 3))] <| T_seq <| J_cd hM ?_ ?_
 · intro hc hM
   refine J_seq <| J_region <| R_d 1 [] [(9, vA [.slice none 0 0, .slice none 0 0])] <| R_sb 0 [.slice none 0 0, .slice none 0 0] [hB b [.slice none 0 0, .slice none 0 0]] rfl rfl rfl rfl <| R_end rfl <| T_seq <| J_ret <| T_then_ret ?_
   obtain rfl := pure_some hM
   exact T_RS ⟨_, _, (.cell 0 rfl rfl (by kernel_rfl) ResV.nil), good_none, ⟨_, rfl, rfl, ⟨_, rfl, (impl_Loop_shut ⟨_, _, rfl, (SL.nil _), (SL.nil _)⟩)⟩⟩⟩
 · intro hc hM
   refine J_skip <| T_seq <| J_seq ?_
   obtain ⟨x, hy1, hM⟩ := bind_some hM
   obtain ⟨y1, hy2, hM⟩ := bind_some hM
   obtain ⟨x1, hy3, hM⟩ := bind_some hM
   obtain ⟨y2, hy4, hM⟩ := bind_some hM
   refine J_any [.p (vS p y c) [], .x (fun imm' v hx => ∃ (ad : Addr), v = .pointer (some ad) ∧ hx = [] ∧ (At imm' ad [vT x.l])), .q (vT x.l), .x (fun imm' v hx => ∃ (p1 : Option Addr) (c1 : Nat), v = vS p1 y1 c1 ∧ hx = [] ∧ (SL imm' (vS p1 y1 c1) y1)), .p (vS p y c) [], .x (fun imm' v hx => ∃ (ad1 : Addr), v = .pointer (some ad1) ∧ hx = [] ∧ (At imm' ad1 [vT x1.l])), .q (vT x1.l), .x (fun imm' v hx => ∃ (p2 : Option Addr) (c2 : Nat), v = vS p2 y2 c2 ∧ hx = [] ∧ (SL imm' (vS p2 y2 c2) y2)), .x (fun imm' v hx => ∃ (p11 : Option Addr) (c11 : Nat) (p21 : Option Addr) (c21 : Nat), v = vA [vS p11 y1 c11, vS p21 y2 c21] ∧ hx = [] ∧ (SL imm' (vS p11 y1 c11) y1) ∧ (SL imm' (vS p21 y2 c21) y2))] [[], [(0, false)], [(1, false)], [(2, false)], [], [(4, false)], [(5, false)], [(6, false)], [(3, false), (7, false)]] [hB b [.slice none 0 0, .slice none 0 0]] [] [(8, false)] (good_pick [0] rfl (by decide)) ?_ ?_
   · refine Op <| Ox ?_ <| Oq ?_ <| Ox ?_ <| Op <| Ox ?_ <| Oq ?_ <| Ox ?_ <| Ox ?_ <| On
     · intro imm1 hf le1
       refine Ins_cons ?_
       rintro _ _ ⟨rfl, rfl⟩
       refine Ins_nil <| R_isw (hB b [.slice none 0 0, .slice none 0 0] :: hf) [(10, vS p y c)] ?_
       have hle := Imm.le.refl imm1
       replace h := h.mono le1
       refine R_ix rfl rfl h hy1 ?_
       intro ad ccs hat hrep
       obtain rfl := hrep
       exact R_out (hx := []) rfl hle rfl (out_some rfl) ⟨_, rfl, rfl, hat⟩
     · intro imm1 hf le1
       refine Ins_cons ?_
       rintro _ _ ⟨ad, rfl, rfl, hat⟩
       refine Ins_nil <| R_isw (hB b [.slice none 0 0, .slice none 0 0] :: hf) [(11, .pointer (some ad))] ?_
       have hle := Imm.le.refl imm1
       exact R_la 0 hat [vT x.l] (vT x.l) rfl <| R_out (hx := []) rfl hle rfl (out_some rfl) ⟨rfl, rfl⟩
     · intro imm1 hf le1
       refine Ins_cons ?_
       rintro _ _ ⟨rfl, rfl⟩
       refine Ins_nil <| R_isw (hB b [.slice none 0 0, .slice none 0 0] :: hf) [(12, vT x.l)] ?_
       have hle := Imm.le.refl imm1
       refine R_call (hs1 := []) (rest := (hB b [.slice none 0 0, .slice none 0 0] :: hf)) rfl rfl rfl rfl (by kernel_rfl) rfl rfl (spec_l2SideParse_ok x _ hy2 ) ?_
       rintro imm01 hs2 v2 k2 le1 - ⟨v01, rfl, rfl, h1⟩ -
       replace hle := hle.trans le1
       obtain ⟨p1, c1, rfl⟩ := h1.form
       exact R_out (hx := []) rfl hle rfl (out_some rfl) ⟨_, _, rfl, rfl, h1⟩
     · intro imm1 hf le1
       refine Ins_cons ?_
       rintro _ _ ⟨rfl, rfl⟩
       refine Ins_nil <| R_isw (hB b [.slice none 0 0, .slice none 0 0] :: hf) [(14, vS p y c)] ?_
       have hle := Imm.le.refl imm1
       replace h := h.mono le1
       refine R_ix rfl rfl h hy3 ?_
       intro ad1 ccs1 hat1 hrep1
       obtain rfl := hrep1
       exact R_out (hx := []) rfl hle rfl (out_some rfl) ⟨_, rfl, rfl, hat1⟩
     · intro imm1 hf le1
       refine Ins_cons ?_
       rintro _ _ ⟨ad1, rfl, rfl, hat1⟩
       refine Ins_nil <| R_isw (hB b [.slice none 0 0, .slice none 0 0] :: hf) [(15, .pointer (some ad1))] ?_
       have hle := Imm.le.refl imm1
       exact R_la 0 hat1 [vT x1.l] (vT x1.l) rfl <| R_out (hx := []) rfl hle rfl (out_some rfl) ⟨rfl, rfl⟩
     · intro imm1 hf le1
       refine Ins_cons ?_
       rintro _ _ ⟨rfl, rfl⟩
       refine Ins_nil <| R_isw (hB b [.slice none 0 0, .slice none 0 0] :: hf) [(16, vT x1.l)] ?_
       have hle := Imm.le.refl imm1
       refine R_call (hs1 := []) (rest := (hB b [.slice none 0 0, .slice none 0 0] :: hf)) rfl rfl rfl rfl (by kernel_rfl) rfl rfl (spec_l2SideParse_ok x1 _ hy4 ) ?_
       rintro imm02 hs2 v2 k2 le2 - ⟨v02, rfl, rfl, h2⟩ -
       replace hle := hle.trans le2
       obtain ⟨p2, c2, rfl⟩ := h2.form
       exact R_out (hx := []) rfl hle rfl (out_some rfl) ⟨_, _, rfl, rfl, h2⟩
     · intro imm1 hf le1
       refine Ins_cons ?_
       rintro _ _ ⟨p1, c1, rfl, rfl, h1⟩
       refine Ins_cons ?_
       rintro _ _ ⟨p2, c2, rfl, rfl, h2⟩
       refine Ins_nil <| R_isw (hB b [.slice none 0 0, .slice none 0 0] :: hf) [(13, vS p1 y1 c1), (17, vS p2 y2 c2)] ?_
       have hle := Imm.le.refl imm1
       exact R_p 9 [(18, vA [vS p1 y1 c1, vS p2 y2 c2])] <| R_out (hx := []) rfl hle rfl (out_some rfl) ⟨_, _, _, _, rfl, rfl, h1, h2⟩
   · intro imm03 le3
     refine Ins_cons ?_
     rintro _ _ ⟨p11, c11, p21, c21, rfl, rfl, h11, h21⟩
     refine Ins_nil <| R_isw [hB b [.slice none 0 0, .slice none 0 0]] [(2, vP b 0), (18, vA [vS p11 y1 c11, vS p21 y2 c21])] ?_
     replace hle := hle.trans le3
     refine R_sb 0 [vS p11 y1 c11, vS p21 y2 c21] [hB b [vS p11 y1 c11, vS p21 y2 c21]] rfl rfl rfl rfl <| R_end rfl <| T_seq <| J_ret ?_
     obtain rfl := pure_some hM
     exact T_RS ⟨_, _, (.cell 0 rfl rfl (by kernel_rfl) ResV.nil), good_none, ⟨_, rfl, rfl, ⟨_, rfl, (impl_Loop_shut ⟨_, _, rfl, h11, h21⟩)⟩⟩⟩
def spec_l3Until_post (r : Int) : Nat → Imm → List HA → Value → Prop := fun kk imm' hs' v =>
  ∃ (v0 : Value), hs' = [] ∧ v = tupV [v0] ∧ v0 = .int .i64 r
def M.spec_l3Until_l1 (s : Str) (end0 : UInt8) (i : Int) : Option (Out Unit (Int)) := do
 if (decide (i < (s.l.length : Int))) then
  let b ← sidx s i
  if ((b.toNat : Int) == (end0.toNat : Int)) then
   pure (.ret i)
  else
   M.spec_l3Until_l1 s end0 (W (i + 1))
 else
  pure (.done ())
 partial_fixpoint
theorem spec_l3Until_l1_ok (s : Str) (end0 : UInt8) : ∀ (i : Int) (o : Out Unit (Int)), M.spec_l3Until_l1 s end0 i = some o → ∀ {B : Base} {imm0 imm : Imm} {Q : Exit → Act → World → Prop}  , imm0.le imm → (∀ l a w, ¬ Q (.goto l) a w) → (∀ a w, ¬ Q .outgrown a w) → (∀ (imm' : Imm) , o = (.done ()) → imm0.le imm' → T 21 B Q (.exit 0) imm' [] []) → (∀ r imm' hs' m', o = (.ret r) → imm0.le imm' → RS Try.prog Try.f95 B (spec_l3Until_post  r) imm' hs' m' → T 21 B Q .ret imm' hs' m') → J Try.prog 21 B (nav (bodyOf Try.f95) [1, 0, 1, 0]) Q imm [] [(0, vT s.l), (2, .int .u8 (end0.toNat : Int)), (7, vI i)] := by
 refine M.spec_l3Until_l1.partial_correctness s end0 _ ?_
 intro self ih i o hM B imm0 imm Q  hle  hg ho hx hr
 refine J_loop hg ho <| J_seq <| J_seq <| J_region <| R_z [] [(12, .bool (decide (i < (s.l.length : Int))))] <| T_seq <| J_cd hM ?_ ?_
 · intro hc hM
   refine J_skip <| T_seq <| J_seq <| J_block <| J_seq <| J_region <| R_d 2 [] [(15, vT s.l), (16, vI i)] ?_
   obtain ⟨b, hy, hM⟩ := bind_some hM
   refine R_si rfl rfl hy <| R_z [] [(19, .bool ((b.toNat : Int) == (end0.toNat : Int)))] <| T_seq <| J_cd hM ?_ ?_
   · intro hc1 hM
     exact J_seq <| J_region <| R_z [] [(6, vI i)] <| T_seq <| J_ret <| T_block_ret <| T_then_ret <| T_then_ret <| hr _ _ _ _ (pure_some hM).symm hle ⟨_, _, (.tmp rfl ResV.nil), good_none, ⟨_, rfl, rfl, rfl⟩⟩
   · intro hc1 hM
     exact J_skip <| T_block_normal <| T_seq <| J_region <| R_z [] [(7, vI (W (i + 1)))] <| T_loop <| J_w [(0, vT s.l), (2, .int .u8 (end0.toNat : Int)), (7, vI (W (i + 1)))] <| ih (W (i + 1)) _ hM hle  hg ho hx hr
 · intro hc hM
   exact J_exit <| T_then_exit <| T_then_exit <| T_w [] <| hx _  (pure_some hM).symm hle
def M.spec_l3Until (s : Str) (at0 : Int) (end0 : UInt8) : Option (Int) := do
 match ← M.spec_l3Until_l1 s end0 at0 with
 | .ret r0 => pure r0
 | .done _ =>
  pure (-1)
theorem spec_l3Until_ok : ∀ (s : Str) (at0 : Int) (end0 : UInt8) r, M.spec_l3Until s at0 end0 = some r → ∀ {imm : Imm} , Ret Try.prog 95 [vT s.l, vI at0, .int .u8 (end0.toNat : Int)] imm [] (spec_l3Until_post  r) := by
 intro s at0 end0 r hM imm
 unfold M.spec_l3Until at hM
 refine ret_of_J (fn := Try.f95) (c := (bodyOf Try.f95)) Try.func95 rfl rfl ?_
 rintro B - -
 have hle : imm.le imm := Imm.le.refl _
 refine J_seq <| J_region <| R_z [] [] <| T_seq <| J_seq <| J_seq <| J_region <| R_z [] [(7, vI at0)] <| T_seq <| J_block <| J_w [(0, vT s.l), (2, .int .u8 (end0.toNat : Int)), (7, vI at0)] ?_
 obtain ⟨o0, ho0, hM⟩ := bind_some hM
 refine spec_l3Until_l1_ok s end0 at0 o0 ho0 (Imm.le.refl _)  (fun _ _ _ h => h) (fun _ _ h => h) ?_ ?_
 · intro imm0  heq le
   subst o0
   replace hle := hle.trans le
   refine T_block_here <| T_seq <| J_seq <| J_region <| R_z [] [(6, vI (-1))] <| T_seq <| J_ret ?_
   obtain rfl := pure_some hM
   exact T_RS ⟨_, _, (.tmp rfl ResV.nil), good_none, ⟨_, rfl, rfl, rfl⟩⟩
 · intro r0 imm9 hs9 m9 heq9 le9 hrs9
   subst heq9
   refine T_block_ret <| T_then_ret ?_
   obtain rfl := pure_some hM
   exact T_RS hrs9
def spec_l3ParseAccess_post (r : impl_Access × Int) : Nat → Imm → List HA → Value → Prop := fun kk imm' hs' v =>
  ∃ (v0 : Value) (v1 : Value), hs' = [] ∧ v = tupV [v0, v1] ∧ (∃ cs, v0 = .agg ⟨cs⟩ ∧ Rp.rep imm' cs r.1) ∧ v1 = .int .i64 r.2
def M.spec_l3ParseAccess (s : Str) (at0 : Int) : Option (impl_Access × Int) := do
 let y ← M.spec_l3Until s at0 (93 : UInt8)
 let t20 ← (do
   if (decide (y < (W (at0 + 2)))) then
    pure true
   else
    let b1 ← sidx s (W (at0 + 1))
    pure ((b1.toNat : Int) != 91)
     : Option Bool)
 if t20 then
  pure ((impl_Access.mk (⟨[]⟩ : Str) ([] : List impl_Affine)), (-1))
 else
  let s1 ← sslc s at0 (W (at0 + 1))
  let s2 ← sslc s (W (at0 + 2)) y
  let y1 ← M.spec_l2SideParse s2
  pure ((impl_Access.mk s1 y1), (W (y + 1)))
theorem spec_l3ParseAccess_ok : ∀ (s : Str) (at0 : Int) r, M.spec_l3ParseAccess s at0 = some r → ∀ {imm : Imm} , Ret Try.prog 78 [vT s.l, vI at0] imm [] (spec_l3ParseAccess_post  r) := by
 intro s at0 r hM imm
 unfold M.spec_l3ParseAccess at hM
 refine ret_of_J (fn := Try.f78) (c := (bodyOf Try.f78)) Try.func78 rfl rfl ?_
 rintro B - -
 have hle : imm.le imm := Imm.le.refl _
 refine J_seq <| J_region <| R_alloc (c := ⟨[vT ([]), .slice none 0 0]⟩) rfl rfl rfl (by kernel_rfl) ?_
 intro b hb
 refine R_z [] [] <| T_seq <| J_seq <| J_region <| R_d 2 [] [(7, vT s.l), (8, vI at0)] ?_
 obtain ⟨y, hy, hM⟩ := bind_some hM
 refine R_call (hs1 := []) (rest := [hB b [vT ([]), .slice none 0 0]]) rfl rfl rfl rfl (by kernel_rfl) rfl rfl (spec_l3Until_ok s at0 (93 : UInt8) _ hy ) ?_
 rintro imm0 hs2 v2 k2 le - ⟨v0, rfl, rfl, rfl⟩ -
 replace hle := hle.trans le
 refine R_z [] [(6, vI y)] <| T_seq <| J_seq <| J_seq ?_
 obtain ⟨o0, ho0, hM⟩ := bind_some hM
 refine J_cut (fun imm' hs' m' => ∃ (t20 : Bool), o0 = t20 ∧ imm0.le imm' ∧ hs' = [hB b [vT ([]), .slice none 0 0]] ∧ m' = [(0, vT s.l), (1, vI at0), (4, vP b 0), (6, vI y), (20, .bool t20)]) ?_ ?_
 · have hle0 := hle
   have hle : imm0.le imm0 := Imm.le.refl _
   refine J_region <| R_d 5 [] [(14, .bool (decide (y < (W (at0 + 2)))))] ?_
   cases hc : (decide (y < (W (at0 + 2)))) with
   | true =>
    have hM0 := if_some_true hc ho0
    try rw [hc]
    exact R_z [] [(20, .bool true)] <| T_w [(0, vT s.l), (1, vI at0), (4, vP b 0), (6, vI y), (20, .bool true)] <| T_cut ⟨_, (pure_some hM0).symm, hle, rfl, rfl⟩
   | false =>
    have hM01 := if_some_false hc ho0
    try rw [hc]
    refine R_d 8 [] [(15, vT s.l), (17, vI (W (at0 + 1)))] ?_
    obtain ⟨b1, hy1, hM⟩ := bind_some hM01
    exact R_si rfl rfl hy1 <| R_z [] [(20, .bool ((b1.toNat : Int) != 91))] <| T_w [(0, vT s.l), (1, vI at0), (4, vP b 0), (6, vI y), (20, .bool ((b1.toNat : Int) != 91))] <| T_cut ⟨_, (pure_some hM).symm, hle, rfl, rfl⟩
 · rintro imm01 hs2 m2 ⟨t20, heq, le1, rfl, rfl⟩
   subst o0
   replace hle := hle.trans le1
   refine T_seq <| J_cd hM ?_ ?_
   · intro hc1 hM
     refine J_seq <| J_region <| R_d 1 [] [(21, vA [vT ([]), .slice none 0 0])] <| R_sb 0 [vT ([]), .slice none 0 0] [hB b [vT ([]), .slice none 0 0]] rfl rfl rfl rfl <| R_z [] [(5, vI (-1))] <| T_seq <| J_ret <| T_then_ret ?_
     obtain rfl := pure_some hM
     exact T_RS ⟨_, _, (.cell 0 rfl rfl (by kernel_rfl) (.tmp rfl ResV.nil)), good_none, ⟨_, _, rfl, rfl, ⟨_, rfl, (impl_Access_shut ⟨_, rfl, (SL.nil _)⟩)⟩, rfl⟩⟩
   · intro hc1 hM
     refine J_skip <| T_seq <| J_seq ?_
     obtain ⟨s1, hy2, hM⟩ := bind_some hM
     obtain ⟨s2, hy3, hM⟩ := bind_some hM
     obtain ⟨y1, hy4, hM⟩ := bind_some hM
     refine J_any [.p (vT s.l) [], .p (vI at0) [], .p (vI at0) [], .p (vI (W (at0 + 1))) [], .q (vT s1.l), .p (vT s.l) [], .p (vI at0) [], .p (vI (W (at0 + 2))) [], .p (vI y) [], .q (vT s2.l), .x (fun imm' v hx => ∃ (p : Option Addr) (c : Nat), v = vS p y1 c ∧ hx = [] ∧ (SL imm' (vS p y1 c) y1)), .x (fun imm' v hx => ∃ (p1 : Option Addr) (c1 : Nat), v = vA [vT s1.l, vS p1 y1 c1] ∧ hx = [] ∧ (SL imm' (vS p1 y1 c1) y1)), .p (vI y) [], .p (vI (W (y + 1))) [], .x (fun imm' v hx => ∃ (p11 : Option Addr) (c11 : Nat), hx = [hB b [vT s1.l, vS p11 y1 c11]] ∧ (SL imm' (vS p11 y1 c11) y1))] [[], [], [], [(2, false)], [(0, false), (1, false), (3, false)], [], [], [(6, false)], [], [(5, false), (7, false), (8, false)], [(9, false)], [(4, false), (10, false)], [], [(12, false)], [(11, false), (16, true)]] [] [[hB b [vT ([]), .slice none 0 0]]] [(13, false), (14, true)] (good_pick [0] rfl (by decide)) ?_ ?_
     · refine Op <| Op <| Op <| Op <| Oq ?_ <| Op <| Op <| Op <| Op <| Oq ?_ <| Ox ?_ <| Ox ?_ <| Op <| Op <| Ox ?_ <| On
       · intro imm1 hf le1
         refine Ins_cons ?_
         rintro _ _ ⟨rfl, rfl⟩
         refine Ins_cons ?_
         rintro _ _ ⟨rfl, rfl⟩
         refine Ins_cons ?_
         rintro _ _ ⟨rfl, rfl⟩
         refine Ins_nil <| R_isw (hf) [(22, vT s.l), (23, vI at0), (25, vI (W (at0 + 1)))] ?_
         have hle := Imm.le.refl imm1
         exact R_ss rfl hy2 <| R_out (hx := []) rfl hle rfl (out_some rfl) ⟨rfl, rfl⟩
       · intro imm1 hf le1
         refine Ins_cons ?_
         rintro _ _ ⟨rfl, rfl⟩
         refine Ins_cons ?_
         rintro _ _ ⟨rfl, rfl⟩
         refine Ins_cons ?_
         rintro _ _ ⟨rfl, rfl⟩
         refine Ins_nil <| R_isw (hf) [(27, vT s.l), (29, vI (W (at0 + 2))), (30, vI y)] ?_
         have hle := Imm.le.refl imm1
         exact R_ss rfl hy3 <| R_out (hx := []) rfl hle rfl (out_some rfl) ⟨rfl, rfl⟩
       · intro imm1 hf le1
         refine Ins_cons ?_
         rintro _ _ ⟨rfl, rfl⟩
         refine Ins_nil <| R_isw (hf) [(31, vT s2.l)] ?_
         have hle := Imm.le.refl imm1
         refine R_call (hs1 := []) (rest := (hf)) rfl rfl rfl rfl (by kernel_rfl) rfl rfl (spec_l2SideParse_ok s2 _ hy4 ) ?_
         rintro imm02 hs2 v2 k2 le2 - ⟨v01, rfl, rfl, h1⟩ -
         replace hle := hle.trans le2
         obtain ⟨p, c, rfl⟩ := h1.form
         exact R_out (hx := []) rfl hle rfl (out_some rfl) ⟨_, _, rfl, rfl, h1⟩
       · intro imm1 hf le1
         refine Ins_cons ?_
         rintro _ _ ⟨rfl, rfl⟩
         refine Ins_cons ?_
         rintro _ _ ⟨p, c, rfl, rfl, h1⟩
         refine Ins_nil <| R_isw (hf) [(26, vT s1.l), (32, vS p y1 c)] ?_
         have hle := Imm.le.refl imm1
         exact R_p 12 [(33, vA [vT s1.l, vS p y1 c])] <| R_out (hx := []) rfl hle rfl (out_some rfl) ⟨_, _, rfl, rfl, h1⟩
       · intro imm1 hf le1
         refine Ins_cons ?_
         rintro _ _ ⟨p1, c1, rfl, rfl, h11⟩
         refine Ins_cons ?_
         rintro _ _ rfl
         refine Ins_nil <| R_isw (hB b [vT ([]), .slice none 0 0] :: hf) [(4, vP b 0), (33, vA [vT s1.l, vS p1 y1 c1])] ?_
         have hle := Imm.le.refl imm1
         exact R_sb 0 [vT s1.l, vS p1 y1 c1] (hB b [vT s1.l, vS p1 y1 c1] :: hf) rfl rfl rfl rfl <| R_out (hx := [hB b [vT s1.l, vS p1 y1 c1]]) rfl hle rfl (out_none (v := undef)) ⟨_, _, rfl, h11⟩
     · intro imm03 le3
       refine Ins_cons ?_
       rintro _ _ ⟨rfl, rfl⟩
       refine Ins_cons ?_
       rintro _ _ ⟨p11, c11, rfl, h111⟩
       refine Ins_nil <| R_isw [hB b [vT s1.l, vS p11 y1 c11]] [(4, vP b 0), (35, vI (W (y + 1)))] ?_
       replace hle := hle.trans le3
       refine R_z [] [(5, vI (W (y + 1)))] <| T_seq <| J_ret ?_
       obtain rfl := pure_some hM
       exact T_RS ⟨_, _, (.cell 0 rfl rfl (by kernel_rfl) (.tmp rfl ResV.nil)), good_none, ⟨_, _, rfl, rfl, ⟨_, rfl, (impl_Access_shut ⟨_, rfl, h111⟩)⟩, rfl⟩⟩
def spec_l3Round_post (r : impl_Expr × Int) : Nat → Imm → List HA → Value → Prop := fun kk imm' hs' v =>
  ∃ (v0 : Value) (v1 : Value), hs' = [] ∧ v = tupV [v0, v1] ∧ (∃ cs, v0 = .agg ⟨cs⟩ ∧ Rp.rep imm' cs r.1) ∧ v1 = .int .i64 r.2
def spec_l3Parse_post (r : impl_Expr × Int) : Nat → Imm → List HA → Value → Prop := fun kk imm' hs' v =>
  ∃ (v0 : Value) (v1 : Value), hs' = [] ∧ v = tupV [v0, v1] ∧ (∃ cs, v0 = .agg ⟨cs⟩ ∧ Rp.rep imm' cs r.1) ∧ v1 = .int .i64 r.2
mutual
def M.spec_l3Round (s : Str) (at0 : Int) (levels : Int) : Option (impl_Expr × Int) := do
 let (y1, y2) ← M.spec_l3Parse (same s) (same at0) (same levels)
 let t27 ← (do
   if (decide (y2 < 0)) then
    pure true
   else
    pure (decide (y2 ≥ (s.l.length : Int)))
     : Option Bool)
 if t27 then
  pure ((impl_Expr.mk 0 0 (impl_Affine.mk ([] : List Int) 0) (impl_Access.mk (⟨[]⟩ : Str) ([] : List impl_Affine)) ([] : List impl_Expr)), (-1))
 else
  let b2 ← sidx s y2
  let kind ← (do
    if ((b2.toNat : Int) == 45) then
     pure (id 5)
    else
     let kind1 ← (do
       if ((b2.toNat : Int) == 42) then
        pure (id 6)
       else
        pure (id 4)
         : Option Int)
     pure (id kind1)
      : Option Int)
  let (y4, y5) ← M.spec_l3Parse (same s) (W (y2 + 1)) (same levels)
  let t51 ← (do
    if (decide (y5 < 0)) then
     pure true
    else
     pure (decide (y5 ≥ (s.l.length : Int)))
      : Option Bool)
  if t51 then
   pure ((impl_Expr.mk 0 0 (impl_Affine.mk ([] : List Int) 0) (impl_Access.mk (⟨[]⟩ : Str) ([] : List impl_Affine)) ([] : List impl_Expr)), (-1))
  else
   pure ((impl_Expr.mk kind 0 (impl_Affine.mk ([] : List Int) 0) (impl_Access.mk (⟨[]⟩ : Str) ([] : List impl_Affine)) ([y1, y4] : List impl_Expr)), (W (y5 + 1)))
 partial_fixpoint
def M.spec_l3Parse (s : Str) (at0 : Int) (levels : Int) : Option (impl_Expr × Int) := do
 let t26 ← (do
   if (decide (levels < 1)) then
    pure true
   else
    if (decide (at0 < 0)) then
     pure true
    else
     pure (decide (at0 ≥ (s.l.length : Int)))
     : Option Bool)
 if t26 then
  pure ((impl_Expr.mk 0 0 (impl_Affine.mk ([] : List Int) 0) (impl_Access.mk (⟨[]⟩ : Str) ([] : List impl_Affine)) ([] : List impl_Expr)), (-1))
 else
  let b1 ← sidx s at0
  if ((b1.toNat : Int) == 123) then
   let y ← M.spec_l3Until s at0 (125 : UInt8)
   if (decide (y < 0)) then
    pure ((impl_Expr.mk 0 0 (impl_Affine.mk ([] : List Int) 0) (impl_Access.mk (⟨[]⟩ : Str) ([] : List impl_Affine)) ([] : List impl_Expr)), (-1))
   else
    let s1 ← sslc s (W (at0 + 1)) y
    let (y2, y3) ← M.spec_ParseAffine s1
    pure ((impl_Expr.mk 2 0 y2 (impl_Access.mk (⟨[]⟩ : Str) ([] : List impl_Affine)) ([] : List impl_Expr)), (W (y + 1)))
  else
   let t52 ← (do
     let b3 ← sidx s at0
     if (decide ((b3.toNat : Int) ≥ 65)) then
      let b4 ← sidx s at0
      pure (decide ((b4.toNat : Int) ≤ 68))
     else
      pure false
       : Option Bool)
   if t52 then
    let (y5, y6) ← M.spec_l3ParseAccess s at0
    pure ((impl_Expr.mk 3 0 (impl_Affine.mk ([] : List Int) 0) y5 ([] : List impl_Expr)), y6)
   else
    let b6 ← sidx s at0
    if ((b6.toNat : Int) == 40) then
     let (y8, y9) ← M.spec_l3Round (same s) (W (at0 + 1)) (W (levels - 1))
     pure (y8, y9)
    else
     let (y11, y12) ← M.spec_l1Digits s at0
     if (y12 == at0) then
      pure ((impl_Expr.mk 0 0 (impl_Affine.mk ([] : List Int) 0) (impl_Access.mk (⟨[]⟩ : Str) ([] : List impl_Affine)) ([] : List impl_Expr)), (-1))
     else
      pure ((impl_Expr.mk 1 y11 (impl_Affine.mk ([] : List Int) 0) (impl_Access.mk (⟨[]⟩ : Str) ([] : List impl_Affine)) ([] : List impl_Expr)), y12)
 partial_fixpoint
end
theorem grp_spec_l3Round : (∀ (s : Str) (at0 : Int) (levels : Int) r, M.spec_l3Round s at0 levels = some r → ∀ {imm : Imm} , Ret Try.prog 96 [vT s.l, vI at0, vI levels] imm [] (spec_l3Round_post  r)) ∧ (∀ (s : Str) (at0 : Int) (levels : Int) r, M.spec_l3Parse s at0 levels = some r → ∀ {imm : Imm} , Ret Try.prog 79 [vT s.l, vI at0, vI levels] imm [] (spec_l3Parse_post  r)) := by
  refine M.spec_l3Round.mutual_partial_correctness (fun s at0 levels r => ∀ {imm : Imm} , Ret Try.prog 96 [vT s.l, vI at0, vI levels] imm [] (spec_l3Round_post  r)) (fun s at0 levels r => ∀ {imm : Imm} , Ret Try.prog 79 [vT s.l, vI at0, vI levels] imm [] (spec_l3Parse_post  r)) ?_ ?_
  · intro F_spec_l3Parse ih_spec_l3Parse s at0 levels r hM imm
    refine ret_of_J (fn := Try.f96) (c := (bodyOf Try.f96)) Try.func96 rfl rfl ?_
    rintro B - -
    have hle : imm.le imm := Imm.le.refl _
    refine J_seq <| J_region <| R_alloc (c := ⟨[vI 0, vI 0, .slice none 0 0, vI 0, vT ([]), .slice none 0 0, .slice none 0 0]⟩) rfl rfl rfl (by kernel_rfl) ?_
    intro b hb
    refine R_z [] [] <| T_seq <| J_seq <| J_region <| R_d 3 [] [(14, vT s.l), (15, vI at0), (16, vI levels)] ?_
    obtain ⟨⟨y1, y2⟩, hy, hM⟩ := bind_some hM
    refine R_call (hs1 := []) (rest := [hB b [vI 0, vI 0, .slice none 0 0, vI 0, vT ([]), .slice none 0 0, .slice none 0 0]]) rfl rfl rfl rfl (by kernel_rfl) rfl rfl (ih_spec_l3Parse s at0 levels _ hy ) ?_
    rintro imm0 hs2 v2 k2 le - ⟨v0, v01, rfl, rfl, ⟨cs, rfl, h⟩, rfl⟩ -
    replace hle := hle.trans le
    obtain ⟨v02, v03, v04, rfl, h2, h3, h4⟩ := impl_Expr_open h
    obtain ⟨p, c, rfl⟩ := h2.form
    obtain ⟨p1, c1, rfl⟩ := h3.form
    obtain ⟨p2, c2, rfl⟩ := h4.form
    refine R_d 7 [] [(18, vA [vI y1.Kind, vI y1.Num, vS p y1.Index.Coefs c, vI y1.Index.Const, vT y1.Read.Array.l, vS p1 y1.Read.Subs c1, vS p2 y1.Kids c2]), (19, vI y2)] <| R_alloc (c := ⟨[vI 0, vI 0, .slice none 0 0, vI 0, vT ([]), .slice none 0 0, .slice none 0 0]⟩) rfl rfl rfl (by kernel_rfl) ?_
    intro b1 hb1
    refine R_sb 0 [vI y1.Kind, vI y1.Num, vS p y1.Index.Coefs c, vI y1.Index.Const, vT y1.Read.Array.l, vS p1 y1.Read.Subs c1, vS p2 y1.Kids c2] [hB b1 [vI y1.Kind, vI y1.Num, vS p y1.Index.Coefs c, vI y1.Index.Const, vT y1.Read.Array.l, vS p1 y1.Read.Subs c1, vS p2 y1.Kids c2], hB b [vI 0, vI 0, .slice none 0 0, vI 0, vT ([]), .slice none 0 0, .slice none 0 0]] rfl rfl rfl rfl <| R_z [] [(9, vI y2)] <| T_seq <| J_seq <| J_seq ?_
    obtain ⟨o0, ho0, hM⟩ := bind_some hM
    refine J_cut (fun imm' hs' m' => ∃ (t27 : Bool), o0 = t27 ∧ imm0.le imm' ∧ hs' = [hB b1 [vI y1.Kind, vI y1.Num, vS p y1.Index.Coefs c, vI y1.Index.Const, vT y1.Read.Array.l, vS p1 y1.Read.Subs c1, vS p2 y1.Kids c2], hB b [vI 0, vI 0, .slice none 0 0, vI 0, vT ([]), .slice none 0 0, .slice none 0 0]] ∧ m' = [(0, vT s.l), (2, vI levels), (6, vP b 0), (8, vP b1 0), (9, vI y2), (27, .bool t27)]) ?_ ?_
    · have hle0 := hle
      have hle : imm0.le imm0 := Imm.le.refl _
      refine J_region <| R_d 3 [] [(22, .bool (decide (y2 < 0)))] ?_
      cases hc : (decide (y2 < 0)) with
      | true =>
       have hM0 := if_some_true hc ho0
       try rw [hc]
       exact R_z [] [(27, .bool true)] <| T_w [(0, vT s.l), (2, vI levels), (6, vP b 0), (8, vP b1 0), (9, vI y2), (27, .bool true)] <| T_cut ⟨_, (pure_some hM0).symm, hle, rfl, rfl⟩
      | false =>
       have hM01 := if_some_false hc ho0
       try rw [hc]
       exact R_z [] [(27, .bool (decide (y2 ≥ (s.l.length : Int))))] <| T_w [(0, vT s.l), (2, vI levels), (6, vP b 0), (8, vP b1 0), (9, vI y2), (27, .bool (decide (y2 ≥ (s.l.length : Int))))] <| T_cut ⟨_, (pure_some hM01).symm, hle, rfl, rfl⟩
    · rintro imm01 hs2 m2 ⟨t27, heq, le1, rfl, rfl⟩
      subst o0
      replace h2 := h2.mono le1
      replace h3 := h3.mono le1
      replace h4 := h4.mono le1
      replace hle := hle.trans le1
      refine T_seq <| J_cd hM ?_ ?_
      · intro hc1 hM
        refine J_seq <| J_region <| R_d 1 [] [(28, vA [vI 0, vI 0, .slice none 0 0, vI 0, vT ([]), .slice none 0 0, .slice none 0 0])] <| R_sb 1 [vI 0, vI 0, .slice none 0 0, vI 0, vT ([]), .slice none 0 0, .slice none 0 0] [hB b1 [vI y1.Kind, vI y1.Num, vS p y1.Index.Coefs c, vI y1.Index.Const, vT y1.Read.Array.l, vS p1 y1.Read.Subs c1, vS p2 y1.Kids c2], hB b [vI 0, vI 0, .slice none 0 0, vI 0, vT ([]), .slice none 0 0, .slice none 0 0]] rfl rfl rfl rfl <| R_z [] [(7, vI (-1))] <| T_seq <| J_ret <| T_then_ret ?_
        obtain rfl := pure_some hM
        exact T_RS ⟨_, _, (.cell 1 rfl rfl (by kernel_rfl) (.tmp rfl ResV.nil)), good_none, ⟨_, _, rfl, rfl, ⟨_, rfl, (impl_Expr_shut ⟨_, _, _, rfl, (SL.nil _), (SL.nil _), (SL.nil _)⟩)⟩, rfl⟩⟩
      · intro hc1 hM
        refine J_skip <| T_seq <| J_seq <| J_region <| R_z [] [(10, vI 4)] <| T_seq <| J_seq <| J_seq <| J_region <| R_d 2 [] [(29, vT s.l), (30, vI y2)] ?_
        obtain ⟨b2, hy1, hM⟩ := bind_some hM
        refine R_si rfl rfl hy1 <| R_end rfl <| T_seq <| J_block <| J_seq <| J_region <| R_z [] [(32, .bool ((b2.toNat : Int) == 45))] <| T_seq ?_
        obtain ⟨o01, ho01, hM⟩ := bind_some hM
        refine J_cut (fun imm' hs' m' => ∃ (kind : Int), o01 = kind ∧ imm01.le imm' ∧ hs' = [hB b1 [vI y1.Kind, vI y1.Num, vS p y1.Index.Coefs c, vI y1.Index.Const, vT y1.Read.Array.l, vS p1 y1.Read.Subs c1, vS p2 y1.Kids c2], hB b [vI 0, vI 0, .slice none 0 0, vI 0, vT ([]), .slice none 0 0, .slice none 0 0]] ∧ m' = [(0, vT s.l), (2, vI levels), (6, vP b 0), (8, vP b1 0), (9, vI y2), (10, vI kind)]) ?_ ?_
        · have hle0 := hle
          have hle : imm01.le imm01 := Imm.le.refl _
          refine J_cd ho01 ?_ ?_
          · intro hc2 hM
            exact J_region <| R_z [] [(10, vI 5)] <| T_w [(0, vT s.l), (2, vI levels), (6, vP b 0), (8, vP b1 0), (9, vI y2), (10, vI 5)] <| T_cut ⟨_, (pure_some hM).symm, hle, rfl, rfl⟩
          · intro hc2 hM
            refine J_seq <| J_region <| R_z [] [(34, .bool ((b2.toNat : Int) == 42))] <| T_seq ?_
            obtain ⟨o02, ho02, hM⟩ := bind_some hM
            refine J_cut (fun imm' hs' m' => ∃ (kind1 : Int), o02 = kind1 ∧ imm01.le imm' ∧ hs' = [hB b1 [vI y1.Kind, vI y1.Num, vS p y1.Index.Coefs c, vI y1.Index.Const, vT y1.Read.Array.l, vS p1 y1.Read.Subs c1, vS p2 y1.Kids c2], hB b [vI 0, vI 0, .slice none 0 0, vI 0, vT ([]), .slice none 0 0, .slice none 0 0]] ∧ m' = [(0, vT s.l), (2, vI levels), (6, vP b 0), (8, vP b1 0), (9, vI y2), (10, vI kind1)]) ?_ ?_
            · have hle0 := hle
              have hle : imm01.le imm01 := Imm.le.refl _
              refine J_cd ho02 ?_ ?_
              · intro hc3 hM
                exact J_region <| R_z [] [(10, vI 6)] <| T_w [(0, vT s.l), (2, vI levels), (6, vP b 0), (8, vP b1 0), (9, vI y2), (10, vI 6)] <| T_cut ⟨_, (pure_some hM).symm, hle, rfl, rfl⟩
              · intro hc3 hM
                exact J_skip <| T_w [(0, vT s.l), (2, vI levels), (6, vP b 0), (8, vP b1 0), (9, vI y2), (10, vI 4)] <| T_cut ⟨_, (pure_some hM).symm, hle, rfl, rfl⟩
            · rintro imm03 hs2 m2 ⟨kind1, heq1, le2, rfl, rfl⟩
              subst o02
              replace h2 := h2.mono le2
              replace h3 := h3.mono le2
              replace h4 := h4.mono le2
              replace hle := hle.trans le2
              exact T_w [(0, vT s.l), (2, vI levels), (6, vP b 0), (8, vP b1 0), (9, vI y2), (10, vI kind1)] <| T_cut ⟨_, (pure_some hM).symm, hle, rfl, rfl⟩
        · rintro imm02 hs2 m2 ⟨kind, heq2, le3, rfl, rfl⟩
          subst o01
          replace h2 := h2.mono le3
          replace h3 := h3.mono le3
          replace h4 := h4.mono le3
          replace hle := hle.trans le3
          refine T_block_normal <| T_seq <| J_seq <| J_region <| R_d 4 [] [(37, vT s.l), (39, vI (W (y2 + 1))), (40, vI levels)] ?_
          obtain ⟨⟨y4, y5⟩, hy2, hM⟩ := bind_some hM
          refine R_call (hs1 := []) (rest := [hB b1 [vI y1.Kind, vI y1.Num, vS p y1.Index.Coefs c, vI y1.Index.Const, vT y1.Read.Array.l, vS p1 y1.Read.Subs c1, vS p2 y1.Kids c2], hB b [vI 0, vI 0, .slice none 0 0, vI 0, vT ([]), .slice none 0 0, .slice none 0 0]]) rfl rfl rfl rfl (by kernel_rfl) rfl rfl (ih_spec_l3Parse s (W (y2 + 1)) levels _ hy2 ) ?_
          rintro imm04 hs2 v2 k2 le4 - ⟨v05, v06, rfl, rfl, ⟨cs1, rfl, h5⟩, rfl⟩ -
          replace h2 := h2.mono le4
          replace h3 := h3.mono le4
          replace h4 := h4.mono le4
          replace hle := hle.trans le4
          obtain ⟨v07, v08, v09, rfl, h7, h8, h9⟩ := impl_Expr_open h5
          obtain ⟨p3, c3, rfl⟩ := h7.form
          obtain ⟨p4, c4, rfl⟩ := h8.form
          obtain ⟨p5, c5, rfl⟩ := h9.form
          refine R_d 8 [] [(42, vA [vI y4.Kind, vI y4.Num, vS p3 y4.Index.Coefs c3, vI y4.Index.Const, vT y4.Read.Array.l, vS p4 y4.Read.Subs c4, vS p5 y4.Kids c5]), (43, vI y5)] <| R_alloc (c := ⟨[vI 0, vI 0, .slice none 0 0, vI 0, vT ([]), .slice none 0 0, .slice none 0 0]⟩) rfl rfl rfl (by kernel_rfl) ?_
          intro b3 hb2
          refine R_sb 0 [vI y4.Kind, vI y4.Num, vS p3 y4.Index.Coefs c3, vI y4.Index.Const, vT y4.Read.Array.l, vS p4 y4.Read.Subs c4, vS p5 y4.Kids c5] [hB b3 [vI y4.Kind, vI y4.Num, vS p3 y4.Index.Coefs c3, vI y4.Index.Const, vT y4.Read.Array.l, vS p4 y4.Read.Subs c4, vS p5 y4.Kids c5], hB b1 [vI y1.Kind, vI y1.Num, vS p y1.Index.Coefs c, vI y1.Index.Const, vT y1.Read.Array.l, vS p1 y1.Read.Subs c1, vS p2 y1.Kids c2], hB b [vI 0, vI 0, .slice none 0 0, vI 0, vT ([]), .slice none 0 0, .slice none 0 0]] rfl rfl rfl rfl <| R_z [] [(12, vI y5)] <| T_seq <| J_seq <| J_seq ?_
          obtain ⟨o03, ho03, hM⟩ := bind_some hM
          refine J_cut (fun imm' hs' m' => ∃ (t51 : Bool), o03 = t51 ∧ imm04.le imm' ∧ hs' = [hB b3 [vI y4.Kind, vI y4.Num, vS p3 y4.Index.Coefs c3, vI y4.Index.Const, vT y4.Read.Array.l, vS p4 y4.Read.Subs c4, vS p5 y4.Kids c5], hB b1 [vI y1.Kind, vI y1.Num, vS p y1.Index.Coefs c, vI y1.Index.Const, vT y1.Read.Array.l, vS p1 y1.Read.Subs c1, vS p2 y1.Kids c2], hB b [vI 0, vI 0, .slice none 0 0, vI 0, vT ([]), .slice none 0 0, .slice none 0 0]] ∧ m' = [(6, vP b 0), (8, vP b1 0), (10, vI kind), (11, vP b3 0), (12, vI y5), (51, .bool t51)]) ?_ ?_
          · have hle0 := hle
            have hle : imm04.le imm04 := Imm.le.refl _
            refine J_region <| R_d 3 [] [(46, .bool (decide (y5 < 0)))] ?_
            cases hc4 : (decide (y5 < 0)) with
            | true =>
             have hM02 := if_some_true hc4 ho03
             try rw [hc4]
             exact R_z [] [(51, .bool true)] <| T_w [(6, vP b 0), (8, vP b1 0), (10, vI kind), (11, vP b3 0), (12, vI y5), (51, .bool true)] <| T_cut ⟨_, (pure_some hM02).symm, hle, rfl, rfl⟩
            | false =>
             have hM03 := if_some_false hc4 ho03
             try rw [hc4]
             exact R_z [] [(51, .bool (decide (y5 ≥ (s.l.length : Int))))] <| T_w [(6, vP b 0), (8, vP b1 0), (10, vI kind), (11, vP b3 0), (12, vI y5), (51, .bool (decide (y5 ≥ (s.l.length : Int))))] <| T_cut ⟨_, (pure_some hM03).symm, hle, rfl, rfl⟩
          · rintro imm05 hs2 m2 ⟨t51, heq3, le5, rfl, rfl⟩
            subst o03
            replace h7 := h7.mono le5
            replace h8 := h8.mono le5
            replace h9 := h9.mono le5
            replace h2 := h2.mono le5
            replace h3 := h3.mono le5
            replace h4 := h4.mono le5
            replace hle := hle.trans le5
            refine T_seq <| J_cd hM ?_ ?_
            · intro hc5 hM
              refine J_seq <| J_region <| R_d 1 [] [(52, vA [vI 0, vI 0, .slice none 0 0, vI 0, vT ([]), .slice none 0 0, .slice none 0 0])] <| R_sb 2 [vI 0, vI 0, .slice none 0 0, vI 0, vT ([]), .slice none 0 0, .slice none 0 0] [hB b3 [vI y4.Kind, vI y4.Num, vS p3 y4.Index.Coefs c3, vI y4.Index.Const, vT y4.Read.Array.l, vS p4 y4.Read.Subs c4, vS p5 y4.Kids c5], hB b1 [vI y1.Kind, vI y1.Num, vS p y1.Index.Coefs c, vI y1.Index.Const, vT y1.Read.Array.l, vS p1 y1.Read.Subs c1, vS p2 y1.Kids c2], hB b [vI 0, vI 0, .slice none 0 0, vI 0, vT ([]), .slice none 0 0, .slice none 0 0]] rfl rfl rfl rfl <| R_z [] [(7, vI (-1))] <| T_seq <| J_ret <| T_then_ret ?_
              obtain rfl := pure_some hM
              exact T_RS ⟨_, _, (.cell 2 rfl rfl (by kernel_rfl) (.tmp rfl ResV.nil)), good_none, ⟨_, _, rfl, rfl, ⟨_, rfl, (impl_Expr_shut ⟨_, _, _, rfl, (SL.nil _), (SL.nil _), (SL.nil _)⟩)⟩, rfl⟩⟩
            · intro hc5 hM
              refine J_skip <| T_seq <| J_seq <| J_region <| R_d 3 [1, 0] [(53, vI kind), (54, vA [vI y1.Kind, vI y1.Num, vS p y1.Index.Coefs c, vI y1.Index.Const, vT y1.Read.Array.l, vS p1 y1.Read.Subs c1, vS p2 y1.Kids c2]), (55, vA [vI y4.Kind, vI y4.Num, vS p3 y4.Index.Coefs c3, vI y4.Index.Const, vT y4.Read.Array.l, vS p4 y4.Read.Subs c4, vS p5 y4.Kids c5])] <| R_buildSlice (cs := [vI y1.Kind, vI y1.Num, vS p y1.Index.Coefs c, vI y1.Index.Const, vT y1.Read.Array.l, vS p1 y1.Read.Subs c1, vS p2 y1.Kids c2, vI y4.Kind, vI y4.Num, vS p3 y4.Index.Coefs c3, vI y4.Index.Const, vT y4.Read.Array.l, vS p4 y4.Read.Subs c4, vS p5 y4.Kids c5]) (Rp.sz impl_Expr) rfl rfl rfl rfl (by kernel_rfl) (by kernel_rfl) ?_
              intro b4 hb3
              have h10 : RL imm05 [vI y1.Kind, vI y1.Num, vS p y1.Index.Coefs c, vI y1.Index.Const, vT y1.Read.Array.l, vS p1 y1.Read.Subs c1, vS p2 y1.Kids c2, vI y4.Kind, vI y4.Num, vS p3 y4.Index.Coefs c3, vI y4.Index.Const, vT y4.Read.Array.l, vS p4 y4.Read.Subs c4, vS p5 y4.Kids c5] ([y1, y4] : List impl_Expr) := ⟨[vI y1.Kind, vI y1.Num, vS p y1.Index.Coefs c, vI y1.Index.Const, vT y1.Read.Array.l, vS p1 y1.Read.Subs c1, vS p2 y1.Kids c2], _, rfl, rfl, (impl_Expr_shut ⟨_, _, _, rfl, h2, h3, h4⟩), ⟨[vI y4.Kind, vI y4.Num, vS p3 y4.Index.Coefs c3, vI y4.Index.Const, vT y4.Read.Array.l, vS p4 y4.Read.Subs c4, vS p5 y4.Kids c5], _, rfl, rfl, (impl_Expr_shut ⟨_, _, _, rfl, h7, h8, h9⟩), rfl⟩⟩
              refine R_d 7 [] [(57, vA [vI kind, vI 0, .slice none 0 0, vI 0, vT ([]), .slice none 0 0, vS (some ⟨b4, 0, none⟩) ([y1, y4] : List impl_Expr) 2]), (59, vI (W (y5 + 1)))] <| R_sb 3 [vI kind, vI 0, .slice none 0 0, vI 0, vT ([]), .slice none 0 0, vS (some ⟨b4, 0, none⟩) ([y1, y4] : List impl_Expr) 2] [hO impl_Expr (vS (some ⟨b4, 0, none⟩) ([y1, y4] : List impl_Expr) 2) [vI y1.Kind, vI y1.Num, vS p y1.Index.Coefs c, vI y1.Index.Const, vT y1.Read.Array.l, vS p1 y1.Read.Subs c1, vS p2 y1.Kids c2, vI y4.Kind, vI y4.Num, vS p3 y4.Index.Coefs c3, vI y4.Index.Const, vT y4.Read.Array.l, vS p4 y4.Read.Subs c4, vS p5 y4.Kids c5], hB b3 [vI y4.Kind, vI y4.Num, vS p3 y4.Index.Coefs c3, vI y4.Index.Const, vT y4.Read.Array.l, vS p4 y4.Read.Subs c4, vS p5 y4.Kids c5], hB b1 [vI y1.Kind, vI y1.Num, vS p y1.Index.Coefs c, vI y1.Index.Const, vT y1.Read.Array.l, vS p1 y1.Read.Subs c1, vS p2 y1.Kids c2], hB b [vI kind, vI 0, .slice none 0 0, vI 0, vT ([]), .slice none 0 0, vS (some ⟨b4, 0, none⟩) ([y1, y4] : List impl_Expr) 2]] rfl rfl rfl rfl <| R_z [] [(7, vI (W (y5 + 1)))] <| T_seq <| J_ret <| T_freeze 0 rfl ?_
              intro imm06 le6 hl0
              have h11 := SL.of_frozen hl0 le6 h10
              replace h7 := h7.mono le6
              replace h8 := h8.mono le6
              replace h9 := h9.mono le6
              replace h2 := h2.mono le6
              replace h3 := h3.mono le6
              replace h4 := h4.mono le6
              replace hle := hle.trans le6
              obtain rfl := pure_some hM
              exact T_RS ⟨_, _, (.cell 2 rfl rfl (by kernel_rfl) (.tmp rfl ResV.nil)), good_none, ⟨_, _, rfl, rfl, ⟨_, rfl, (impl_Expr_shut ⟨_, _, _, rfl, (SL.nil _), (SL.nil _), h11⟩)⟩, rfl⟩⟩
  · intro F_spec_l3Round ih_spec_l3Round s at0 levels r hM imm
    refine ret_of_J (fn := Try.f79) (c := (bodyOf Try.f79)) Try.func79 rfl rfl ?_
    rintro B - -
    have hle : imm.le imm := Imm.le.refl _
    refine J_seq <| J_region <| R_alloc (c := ⟨[vI 0, vI 0, .slice none 0 0, vI 0, vT ([]), .slice none 0 0, .slice none 0 0]⟩) rfl rfl rfl (by kernel_rfl) ?_
    intro b hb
    refine R_z [] [] <| T_seq <| J_seq <| J_seq ?_
    obtain ⟨o0, ho0, hM⟩ := bind_some hM
    refine J_cut (fun imm' hs' m' => ∃ (t26 : Bool), o0 = t26 ∧ imm.le imm' ∧ hs' = [hB b [vI 0, vI 0, .slice none 0 0, vI 0, vT ([]), .slice none 0 0, .slice none 0 0]] ∧ m' = [(0, vT s.l), (1, vI at0), (2, vI levels), (6, vP b 0), (26, .bool t26)]) ?_ ?_
    · have hle0 := hle
      have hle : imm.le imm := Imm.le.refl _
      refine J_region <| R_d 3 [] [(17, .bool (decide (levels < 1)))] ?_
      cases hc : (decide (levels < 1)) with
      | true =>
       have hM0 := if_some_true hc ho0
       try rw [hc]
       exact R_z [] [(26, .bool true)] <| T_w [(0, vT s.l), (1, vI at0), (2, vI levels), (6, vP b 0), (26, .bool true)] <| T_cut ⟨_, (pure_some hM0).symm, hle, rfl, rfl⟩
      | false =>
       have hM01 := if_some_false hc ho0
       try rw [hc]
       refine R_d 7 [] [(21, .bool (decide (at0 < 0)))] ?_
       cases hc1 : (decide (at0 < 0)) with
       | true =>
        have hM02 := if_some_true hc1 hM01
        try rw [hc1]
        exact R_z [] [(26, .bool true)] <| T_w [(0, vT s.l), (1, vI at0), (2, vI levels), (6, vP b 0), (26, .bool true)] <| T_cut ⟨_, (pure_some hM02).symm, hle, rfl, rfl⟩
       | false =>
        have hM03 := if_some_false hc1 hM01
        try rw [hc1]
        exact R_z [] [(26, .bool (decide (at0 ≥ (s.l.length : Int))))] <| T_w [(0, vT s.l), (1, vI at0), (2, vI levels), (6, vP b 0), (26, .bool (decide (at0 ≥ (s.l.length : Int))))] <| T_cut ⟨_, (pure_some hM03).symm, hle, rfl, rfl⟩
    · rintro imm0 hs2 m2 ⟨t26, heq, le, rfl, rfl⟩
      subst o0
      replace hle := hle.trans le
      refine T_seq <| J_cd hM ?_ ?_
      · intro hc2 hM
        refine J_seq <| J_region <| R_d 1 [] [(27, vA [vI 0, vI 0, .slice none 0 0, vI 0, vT ([]), .slice none 0 0, .slice none 0 0])] <| R_sb 0 [vI 0, vI 0, .slice none 0 0, vI 0, vT ([]), .slice none 0 0, .slice none 0 0] [hB b [vI 0, vI 0, .slice none 0 0, vI 0, vT ([]), .slice none 0 0, .slice none 0 0]] rfl rfl rfl rfl <| R_z [] [(7, vI (-1))] <| T_seq <| J_ret <| T_then_ret ?_
        obtain rfl := pure_some hM
        exact T_RS ⟨_, _, (.cell 0 rfl rfl (by kernel_rfl) (.tmp rfl ResV.nil)), good_none, ⟨_, _, rfl, rfl, ⟨_, rfl, (impl_Expr_shut ⟨_, _, _, rfl, (SL.nil _), (SL.nil _), (SL.nil _)⟩)⟩, rfl⟩⟩
      · intro hc2 hM
        refine J_skip <| T_seq <| J_seq <| J_block <| J_seq <| J_region <| R_d 2 [] [(29, vT s.l), (30, vI at0)] ?_
        obtain ⟨b1, hy, hM⟩ := bind_some hM
        refine R_si rfl rfl hy <| R_z [] [(28, .bool ((b1.toNat : Int) == 123))] <| T_seq <| J_cd hM ?_ ?_
        · intro hc3 hM
          refine J_seq <| J_region <| R_d 2 [] [(33, vT s.l), (34, vI at0)] ?_
          obtain ⟨y, hy1, hM⟩ := bind_some hM
          refine R_call (hs1 := []) (rest := [hB b [vI 0, vI 0, .slice none 0 0, vI 0, vT ([]), .slice none 0 0, .slice none 0 0]]) rfl rfl rfl rfl (by kernel_rfl) rfl rfl (spec_l3Until_ok s at0 (125 : UInt8) _ hy1 ) ?_
          rintro imm01 hs2 v2 k2 le1 - ⟨v0, rfl, rfl, rfl⟩ -
          replace hle := hle.trans le1
          refine R_z [] [(8, vI y)] <| T_seq <| J_seq <| J_seq <| J_region <| R_z [] [(37, .bool (decide (y < 0)))] <| T_seq <| J_cd hM ?_ ?_
          · intro hc4 hM
            refine J_seq <| J_region <| R_d 1 [] [(38, vA [vI 0, vI 0, .slice none 0 0, vI 0, vT ([]), .slice none 0 0, .slice none 0 0])] <| R_sb 0 [vI 0, vI 0, .slice none 0 0, vI 0, vT ([]), .slice none 0 0, .slice none 0 0] [hB b [vI 0, vI 0, .slice none 0 0, vI 0, vT ([]), .slice none 0 0, .slice none 0 0]] rfl rfl rfl rfl <| R_z [] [(7, vI (-1))] <| T_seq <| J_ret <| T_then_ret <| T_block_ret <| T_then_ret ?_
            obtain rfl := pure_some hM
            exact T_RS ⟨_, _, (.cell 0 rfl rfl (by kernel_rfl) (.tmp rfl ResV.nil)), good_none, ⟨_, _, rfl, rfl, ⟨_, rfl, (impl_Expr_shut ⟨_, _, _, rfl, (SL.nil _), (SL.nil _), (SL.nil _)⟩)⟩, rfl⟩⟩
          · intro hc4 hM
            refine J_skip <| T_seq <| J_seq <| J_region <| R_d 4 [] [(40, vT s.l), (42, vI (W (at0 + 1))), (43, vI y)] ?_
            obtain ⟨s1, hy2, hM⟩ := bind_some hM
            refine R_ss rfl hy2 ?_
            obtain ⟨⟨y2, y3⟩, hy3, hM⟩ := bind_some hM
            refine R_call (hs1 := []) (rest := [hB b [vI 0, vI 0, .slice none 0 0, vI 0, vT ([]), .slice none 0 0, .slice none 0 0]]) rfl rfl rfl rfl (by kernel_rfl) rfl rfl (spec_ParseAffine_ok s1 _ hy3 ) ?_
            rintro imm02 hs2 v2 k2 le2 - ⟨v01, v02, rfl, rfl, ⟨cs, rfl, h1⟩, rfl⟩ -
            replace hle := hle.trans le2
            obtain ⟨v03, rfl, h3⟩ := impl_Affine_open h1
            obtain ⟨p, c, rfl⟩ := h3.form
            refine R_d 9 [] [(46, vA [vS p y2.Coefs c, vI y2.Const]), (47, .bool y3)] <| R_alloc (c := ⟨[.slice none 0 0, vI 0]⟩) rfl rfl rfl (by kernel_rfl) ?_
            intro b2 hb1
            refine R_sb 0 [vS p y2.Coefs c, vI y2.Const] [hB b2 [vS p y2.Coefs c, vI y2.Const], hB b [vI 0, vI 0, .slice none 0 0, vI 0, vT ([]), .slice none 0 0, .slice none 0 0]] rfl rfl rfl rfl <| R_z [] [] <| T_seq <| J_seq <| J_region <| R_d 4 [0] [(49, vA [vI 2, vI 0, vS p y2.Coefs c, vI y2.Const, vT ([]), .slice none 0 0, .slice none 0 0]), (51, vI (W (y + 1)))] <| R_sb 1 [vI 2, vI 0, vS p y2.Coefs c, vI y2.Const, vT ([]), .slice none 0 0, .slice none 0 0] [hB b2 [vS p y2.Coefs c, vI y2.Const], hB b [vI 2, vI 0, vS p y2.Coefs c, vI y2.Const, vT ([]), .slice none 0 0, .slice none 0 0]] rfl rfl rfl rfl <| R_z [] [(7, vI (W (y + 1)))] <| T_seq <| J_ret <| T_block_ret <| T_then_ret ?_
            obtain rfl := pure_some hM
            exact T_RS ⟨_, _, (.cell 1 rfl rfl (by kernel_rfl) (.tmp rfl ResV.nil)), good_none, ⟨_, _, rfl, rfl, ⟨_, rfl, (impl_Expr_shut ⟨_, _, _, rfl, h3, (SL.nil _), (SL.nil _)⟩)⟩, rfl⟩⟩
        · intro hc3 hM
          refine J_seq ?_
          obtain ⟨o01, ho01, hM⟩ := bind_some hM
          refine J_cut (fun imm' hs' m' => ∃ (t52 : Bool), o01 = t52 ∧ imm0.le imm' ∧ hs' = [hB b [vI 0, vI 0, .slice none 0 0, vI 0, vT ([]), .slice none 0 0, .slice none 0 0]] ∧ m' = [(0, vT s.l), (1, vI at0), (2, vI levels), (6, vP b 0), (52, .bool t52)]) ?_ ?_
          · have hle0 := hle
            have hle : imm0.le imm0 := Imm.le.refl _
            refine J_region <| R_d 2 [] [(53, vT s.l), (54, vI at0)] ?_
            obtain ⟨b3, hy4, hM⟩ := bind_some ho01
            refine R_si rfl rfl hy4 <| R_d 5 [] [(57, .bool (decide ((b3.toNat : Int) ≥ 65)))] ?_
            cases hc5 : (decide ((b3.toNat : Int) ≥ 65)) with
            | true =>
             have hM04 := if_some_true hc5 hM
             try rw [hc5]
             refine R_d 7 [] [(58, vT s.l), (59, vI at0)] ?_
             obtain ⟨b4, hy5, hM⟩ := bind_some hM04
             exact R_si rfl rfl hy5 <| R_z [] [(52, .bool (decide ((b4.toNat : Int) ≤ 68)))] <| T_w [(0, vT s.l), (1, vI at0), (2, vI levels), (6, vP b 0), (52, .bool (decide ((b4.toNat : Int) ≤ 68)))] <| T_cut ⟨_, (pure_some hM).symm, hle, rfl, rfl⟩
            | false =>
             have hM05 := if_some_false hc5 hM
             try rw [hc5]
             exact R_z [] [(52, .bool false)] <| T_w [(0, vT s.l), (1, vI at0), (2, vI levels), (6, vP b 0), (52, .bool false)] <| T_cut ⟨_, (pure_some hM05).symm, hle, rfl, rfl⟩
          · rintro imm03 hs2 m2 ⟨t52, heq1, le3, rfl, rfl⟩
            subst o01
            replace hle := hle.trans le3
            refine T_seq <| J_cd hM ?_ ?_
            · intro hc6 hM
              refine J_seq <| J_region <| R_d 2 [] [(64, vT s.l), (65, vI at0)] ?_
              obtain ⟨⟨y5, y6⟩, hy6, hM⟩ := bind_some hM
              refine R_call (hs1 := []) (rest := [hB b [vI 0, vI 0, .slice none 0 0, vI 0, vT ([]), .slice none 0 0, .slice none 0 0]]) rfl rfl rfl rfl (by kernel_rfl) rfl rfl (spec_l3ParseAccess_ok s at0 _ hy6 ) ?_
              rintro imm04 hs2 v2 k2 le4 - ⟨v04, v05, rfl, rfl, ⟨cs1, rfl, h4⟩, rfl⟩ -
              replace hle := hle.trans le4
              obtain ⟨v06, rfl, h6⟩ := impl_Access_open h4
              obtain ⟨p1, c1, rfl⟩ := h6.form
              refine R_d 6 [] [(67, vA [vT y5.Array.l, vS p1 y5.Subs c1]), (68, vI y6)] <| R_alloc (c := ⟨[vT ([]), .slice none 0 0]⟩) rfl rfl rfl (by kernel_rfl) ?_
              intro b5 hb2
              refine R_sb 0 [vT y5.Array.l, vS p1 y5.Subs c1] [hB b5 [vT y5.Array.l, vS p1 y5.Subs c1], hB b [vI 0, vI 0, .slice none 0 0, vI 0, vT ([]), .slice none 0 0, .slice none 0 0]] rfl rfl rfl rfl <| R_z [] [(12, vI y6)] <| T_seq <| J_seq <| J_region <| R_d 3 [0] [(70, vA [vI 3, vI 0, .slice none 0 0, vI 0, vT y5.Array.l, vS p1 y5.Subs c1, .slice none 0 0]), (71, vI y6)] <| R_sb 1 [vI 3, vI 0, .slice none 0 0, vI 0, vT y5.Array.l, vS p1 y5.Subs c1, .slice none 0 0] [hB b5 [vT y5.Array.l, vS p1 y5.Subs c1], hB b [vI 3, vI 0, .slice none 0 0, vI 0, vT y5.Array.l, vS p1 y5.Subs c1, .slice none 0 0]] rfl rfl rfl rfl <| R_z [] [(7, vI y6)] <| T_seq <| J_ret <| T_block_ret <| T_then_ret ?_
              obtain rfl := pure_some hM
              exact T_RS ⟨_, _, (.cell 1 rfl rfl (by kernel_rfl) (.tmp rfl ResV.nil)), good_none, ⟨_, _, rfl, rfl, ⟨_, rfl, (impl_Expr_shut ⟨_, _, _, rfl, (SL.nil _), h6, (SL.nil _)⟩)⟩, rfl⟩⟩
            · intro hc6 hM
              refine J_seq <| J_region <| R_d 2 [] [(73, vT s.l), (74, vI at0)] ?_
              obtain ⟨b6, hy7, hM⟩ := bind_some hM
              refine R_si rfl rfl hy7 <| R_z [] [(72, .bool ((b6.toNat : Int) == 40))] <| T_seq <| J_cd hM ?_ ?_
              · intro hc7 hM
                refine J_seq <| J_region <| R_d 5 [] [(77, vT s.l), (79, vI (W (at0 + 1))), (81, vI (W (levels - 1)))] ?_
                obtain ⟨⟨y8, y9⟩, hy8, hM⟩ := bind_some hM
                refine R_call (hs1 := []) (rest := [hB b [vI 0, vI 0, .slice none 0 0, vI 0, vT ([]), .slice none 0 0, .slice none 0 0]]) rfl rfl rfl rfl (by kernel_rfl) rfl rfl (ih_spec_l3Round s (W (at0 + 1)) (W (levels - 1)) _ hy8 ) ?_
                rintro imm05 hs2 v2 k2 le5 - ⟨v07, v08, rfl, rfl, ⟨cs2, rfl, h7⟩, rfl⟩ -
                replace hle := hle.trans le5
                obtain ⟨v09, v010, v011, rfl, h9, h10, h11⟩ := impl_Expr_open h7
                obtain ⟨p2, c2, rfl⟩ := h9.form
                obtain ⟨p3, c3, rfl⟩ := h10.form
                obtain ⟨p4, c4, rfl⟩ := h11.form
                refine R_d 8 [] [(83, vA [vI y8.Kind, vI y8.Num, vS p2 y8.Index.Coefs c2, vI y8.Index.Const, vT y8.Read.Array.l, vS p3 y8.Read.Subs c3, vS p4 y8.Kids c4]), (84, vI y9)] <| R_sb 0 [vI y8.Kind, vI y8.Num, vS p2 y8.Index.Coefs c2, vI y8.Index.Const, vT y8.Read.Array.l, vS p3 y8.Read.Subs c3, vS p4 y8.Kids c4] [hB b [vI y8.Kind, vI y8.Num, vS p2 y8.Index.Coefs c2, vI y8.Index.Const, vT y8.Read.Array.l, vS p3 y8.Read.Subs c3, vS p4 y8.Kids c4]] rfl rfl rfl rfl <| R_z [] [(7, vI y9)] <| T_seq <| J_ret <| T_block_ret <| T_then_ret ?_
                obtain rfl := pure_some hM
                exact T_RS ⟨_, _, (.cell 0 rfl rfl (by kernel_rfl) (.tmp rfl ResV.nil)), good_none, ⟨_, _, rfl, rfl, ⟨_, rfl, (impl_Expr_shut ⟨_, _, _, rfl, h9, h10, h11⟩)⟩, rfl⟩⟩
              · intro hc7 hM
                refine J_skip <| T_block_normal <| T_seq <| J_seq <| J_region <| R_d 2 [] [(86, vT s.l), (87, vI at0)] ?_
                obtain ⟨⟨y11, y12⟩, hy9, hM⟩ := bind_some hM
                refine R_call (hs1 := []) (rest := [hB b [vI 0, vI 0, .slice none 0 0, vI 0, vT ([]), .slice none 0 0, .slice none 0 0]]) rfl rfl rfl rfl (by kernel_rfl) rfl rfl (spec_l1Digits_ok s at0 _ hy9 ) ?_
                rintro imm06 hs2 v2 k2 le6 - ⟨v012, v013, rfl, rfl, rfl, rfl⟩ -
                replace hle := hle.trans le6
                refine R_z [] [(13, vI y11), (14, vI y12)] <| T_seq <| J_seq <| J_seq <| J_region <| R_z [] [(93, .bool (y12 == at0))] <| T_seq <| J_cd hM ?_ ?_
                · intro hc8 hM
                  refine J_seq <| J_region <| R_d 1 [] [(94, vA [vI 0, vI 0, .slice none 0 0, vI 0, vT ([]), .slice none 0 0, .slice none 0 0])] <| R_sb 0 [vI 0, vI 0, .slice none 0 0, vI 0, vT ([]), .slice none 0 0, .slice none 0 0] [hB b [vI 0, vI 0, .slice none 0 0, vI 0, vT ([]), .slice none 0 0, .slice none 0 0]] rfl rfl rfl rfl <| R_z [] [(7, vI (-1))] <| T_seq <| J_ret <| T_then_ret ?_
                  obtain rfl := pure_some hM
                  exact T_RS ⟨_, _, (.cell 0 rfl rfl (by kernel_rfl) (.tmp rfl ResV.nil)), good_none, ⟨_, _, rfl, rfl, ⟨_, rfl, (impl_Expr_shut ⟨_, _, _, rfl, (SL.nil _), (SL.nil _), (SL.nil _)⟩)⟩, rfl⟩⟩
                · intro hc8 hM
                  refine J_skip <| T_seq <| J_seq <| J_region <| R_d 3 [] [(96, vA [vI 1, vI y11, .slice none 0 0, vI 0, vT ([]), .slice none 0 0, .slice none 0 0]), (97, vI y12)] <| R_sb 0 [vI 1, vI y11, .slice none 0 0, vI 0, vT ([]), .slice none 0 0, .slice none 0 0] [hB b [vI 1, vI y11, .slice none 0 0, vI 0, vT ([]), .slice none 0 0, .slice none 0 0]] rfl rfl rfl rfl <| R_z [] [(7, vI y12)] <| T_seq <| J_ret ?_
                  obtain rfl := pure_some hM
                  exact T_RS ⟨_, _, (.cell 0 rfl rfl (by kernel_rfl) (.tmp rfl ResV.nil)), good_none, ⟨_, _, rfl, rfl, ⟨_, rfl, (impl_Expr_shut ⟨_, _, _, rfl, (SL.nil _), (SL.nil _), (SL.nil _)⟩)⟩, rfl⟩⟩
theorem spec_l3Parse_ok : ∀ (s : Str) (at0 : Int) (levels : Int) r, M.spec_l3Parse s at0 levels = some r → ∀ {imm : Imm} , Ret Try.prog 79 [vT s.l, vI at0, vI levels] imm [] (spec_l3Parse_post  r) := grp_spec_l3Round.2
def spec_l2SideText_post (r : Str) : Nat → Imm → List HA → Value → Prop := fun kk imm' hs' v =>
  ∃ (v0 : Value), hs' = [] ∧ v = tupV [v0] ∧ v0 = .string ⟨⟨r.l⟩⟩
def M.spec_l2SideText_l1 (list : (List impl_Affine)) (out : Str) (i : Int) : Option (Str) := do
 if (decide (i < (list.length : Int))) then
  let out2 ← (do
    if (decide (i > 0)) then
     let s ← cat out (⟨[44]⟩ : Str)
     pure (id s)
    else
     pure (id out)
      : Option Str)
  let x ← idx list i
  let y ← M.spec_l1Text x
  let s1 ← cat out2 y
  M.spec_l2SideText_l1 list s1 (W (i + 1))
 else
  pure (id out)
 partial_fixpoint
theorem spec_l2SideText_l1_ok (list : (List impl_Affine)) : ∀ (out : Str) (i : Int) (o : Str), M.spec_l2SideText_l1 list out i = some o → ∀ {B : Base} {imm0 imm : Imm} {Q : Exit → Act → World → Prop}  {p : Option Addr} {c : Nat}, imm0.le imm → (SL imm (vS p list c) list) → (∀ l a w, ¬ Q (.goto l) a w) → (∀ a w, ¬ Q .outgrown a w) → (∀ (imm' : Imm) (out1 : Str), o = out1 → imm0.le imm' → T 23 B Q (.exit 0) imm' [] [(3, vT out1.l)]) → J Try.prog 23 B (nav (bodyOf Try.f81) [1, 1, 0, 1, 0]) Q imm [] [(0, vS p list c), (3, vT out.l), (4, vI i)] := by
 refine M.spec_l2SideText_l1.partial_correctness list _ ?_
 intro self ih out i o hM B imm0 imm Q p c hle h hg ho hx
 refine J_loop hg ho <| J_seq <| J_seq <| J_region <| R_z [] [(8, .bool (decide (i < (list.length : Int))))] <| T_seq <| J_cd hM ?_ ?_
 · intro hc hM
   refine J_skip <| T_seq <| J_seq <| J_block <| J_seq <| J_seq <| J_region <| R_z [] [(12, .bool (decide (i > 0)))] <| T_seq ?_
   obtain ⟨o0, ho0, hM⟩ := bind_some hM
   refine J_cut (fun imm' hs' m' => ∃ (out2 : Str), o0 = out2 ∧ imm.le imm' ∧ hs' = [] ∧ m' = [(0, vS p list c), (3, vT out2.l), (4, vI i)]) ?_ ?_
   · have hle0 := hle
     have hle : imm.le imm := Imm.le.refl _
     refine J_cd ho0 ?_ ?_
     · intro hc1 hM
       refine J_region <| R_d 1 [] [(13, vT out.l)] ?_
       obtain ⟨s, hy, hM⟩ := bind_some hM
       exact R_ca rfl hy <| R_z [] [(3, vT s.l)] <| T_w [(0, vS p list c), (3, vT s.l), (4, vI i)] <| T_cut ⟨_, (pure_some hM).symm, hle, rfl, rfl⟩
     · intro hc1 hM
       exact J_skip <| T_w [(0, vS p list c), (3, vT out.l), (4, vI i)] <| T_cut ⟨_, (pure_some hM).symm, hle, rfl, rfl⟩
   · rintro imm0 hs2 m2 ⟨out2, heq, le, rfl, rfl⟩
     subst o0
     replace h := h.mono le
     replace hle := hle.trans le
     refine T_seq <| J_region <| R_d 3 [] [(15, vT out2.l), (16, vS p list c), (17, vI i)] ?_
     obtain ⟨x, hy1, hM⟩ := bind_some hM
     refine R_ix rfl rfl h hy1 ?_
     intro ad ccs hat hrep
     obtain ⟨v0, rfl, h1⟩ := impl_Affine_open hrep
     obtain ⟨p1, c1, rfl⟩ := h1.form
     refine R_la 0 hat [vS p1 x.Coefs c1, vI x.Const] (vA [vS p1 x.Coefs c1, vI x.Const]) rfl ?_
     obtain ⟨y, hy2, hM⟩ := bind_some hM
     refine R_call (hs1 := []) (rest := []) rfl rfl rfl rfl (by kernel_rfl) rfl rfl (spec_l1Text_ok x _ hy2 h1) ?_
     rintro imm01 hs2 v2 k2 le1 - ⟨v01, rfl, rfl, rfl⟩ -
     replace h := h.mono le1
     replace hle := hle.trans le1
     obtain ⟨s1, hy3, hM⟩ := bind_some hM
     exact R_ca rfl hy3 <| R_z [] [(3, vT s1.l)] <| T_block_normal <| T_seq <| J_region <| R_z [] [(4, vI (W (i + 1)))] <| T_loop <| J_w [(0, vS p list c), (3, vT s1.l), (4, vI (W (i + 1)))] <| ih s1 (W (i + 1)) _ hM hle h hg ho hx
 · intro hc hM
   exact J_exit <| T_then_exit <| T_then_exit <| T_w [(3, vT out.l)] <| hx _ _ (pure_some hM).symm hle
def M.spec_l2SideText (list : (List impl_Affine)) : Option (Str) := do
 let out1 ← M.spec_l2SideText_l1 list (⟨[]⟩ : Str) 0
 pure (id out1)
theorem spec_l2SideText_ok : ∀ (list : (List impl_Affine)) r, M.spec_l2SideText list = some r → ∀ {imm : Imm} {p : Option Addr} {c : Nat}, (SL imm (vS p list c) list) → Ret Try.prog 81 [vS p list c] imm [] (spec_l2SideText_post  r) := by
 intro list r hM imm p c h
 unfold M.spec_l2SideText at hM
 refine ret_of_J (fn := Try.f81) (c := (bodyOf Try.f81)) Try.func81 rfl rfl ?_
 rintro B - -
 have hle : imm.le imm := Imm.le.refl _
 refine J_seq <| J_region <| R_z [] [] <| T_seq <| J_seq <| J_region <| R_z [] [(3, vT ([]))] <| T_seq <| J_seq <| J_seq <| J_region <| R_z [] [(4, vI 0)] <| T_seq <| J_block <| J_w [(0, vS p list c), (3, vT ([])), (4, vI 0)] ?_
 obtain ⟨o01, ho01, hM⟩ := bind_some hM
 refine spec_l2SideText_l1_ok list (⟨[]⟩ : Str) 0 o01 ho01 (Imm.le.refl _) h (fun _ _ _ h => h) (fun _ _ h => h) ?_
 intro imm02 out1 heq1 le2
 subst o01
 replace hle := hle.trans le2
 refine T_block_here <| T_seq <| J_seq <| J_region <| R_z [] [(2, vT out1.l)] <| T_seq <| J_ret ?_
 obtain rfl := pure_some hM
 exact T_RS ⟨_, _, (.tmp rfl ResV.nil), good_none, ⟨_, rfl, rfl, rfl⟩⟩
def spec_l3AccessText_post (r : Str) : Nat → Imm → List HA → Value → Prop := fun kk imm' hs' v =>
  ∃ (v0 : Value), hs' = [] ∧ v = tupV [v0] ∧ v0 = .string ⟨⟨r.l⟩⟩
def M.spec_l3AccessText (a0 : impl_Access) : Option (Str) := do
 let s ← cat a0.Array (⟨[91]⟩ : Str)
 let y ← M.spec_l2SideText a0.Subs
 let s1 ← cat s y
 let s2 ← cat s1 (⟨[93]⟩ : Str)
 pure (id s2)
theorem spec_l3AccessText_ok : ∀ (a0 : impl_Access) r, M.spec_l3AccessText a0 = some r → ∀ {imm : Imm} {p : Option Addr} {c : Nat}, (SL imm (vS p a0.Subs c) a0.Subs) → Ret Try.prog 61 [vA [vT a0.Array.l, vS p a0.Subs c]] imm [] (spec_l3AccessText_post  r) := by
 intro a0 r hM imm p c h
 unfold M.spec_l3AccessText at hM
 refine ret_of_J (fn := Try.f61) (c := (bodyOf Try.f61)) Try.func61 rfl rfl ?_
 rintro B - -
 have hle : imm.le imm := Imm.le.refl _
 refine J_seq <| J_region <| R_box (c := ⟨[vT a0.Array.l, vS p a0.Subs c]⟩) rfl rfl rfl rfl rfl ?_
 intro b hb
 refine R_z [] [] <| T_seq <| J_seq ?_
 obtain ⟨s, hy, hM⟩ := bind_some hM
 obtain ⟨y, hy1, hM⟩ := bind_some hM
 obtain ⟨s1, hy2, hM⟩ := bind_some hM
 obtain ⟨s2, hy3, hM⟩ := bind_some hM
 refine J_any [.p (vP b 0) [], .p (vT a0.Array.l) [0], .q (vT s.l), .p (vP b 1) [], .p (vS p a0.Subs c) [0], .q (vT y.l), .q (vT s1.l), .q (vT s2.l)] [[], [(0, false)], [(1, false)], [], [(3, false)], [(4, false)], [(2, false), (5, false)], [(6, false)]] [hB b [vT a0.Array.l, vS p a0.Subs c]] [] [(7, false)] (good_pick [0] rfl (by decide)) ?_ ?_
 · refine Op <| Op <| Oq ?_ <| Op <| Op <| Oq ?_ <| Oq ?_ <| Oq ?_ <| On
   · intro imm1 hf le1
     refine Ins_cons ?_
     rintro _ _ ⟨rfl, rfl⟩
     refine Ins_nil <| R_isw (hB b [vT a0.Array.l, vS p a0.Subs c] :: hf) [(4, vT a0.Array.l)] ?_
     have hle := Imm.le.refl imm1
     exact R_ca rfl hy <| R_out (hx := []) rfl hle rfl (out_some rfl) ⟨rfl, rfl⟩
   · intro imm1 hf le1
     refine Ins_cons ?_
     rintro _ _ ⟨rfl, rfl⟩
     refine Ins_nil <| R_isw (hB b [vT a0.Array.l, vS p a0.Subs c] :: hf) [(7, vS p a0.Subs c)] ?_
     have hle := Imm.le.refl imm1
     replace h := h.mono le1
     refine R_call (hs1 := []) (rest := (hB b [vT a0.Array.l, vS p a0.Subs c] :: hf)) rfl rfl rfl rfl (by kernel_rfl) rfl rfl (spec_l2SideText_ok a0.Subs _ hy1 h) ?_
     rintro imm0 hs2 v2 k2 le - ⟨v0, rfl, rfl, rfl⟩ -
     replace h := h.mono le
     replace hle := hle.trans le
     exact R_out (hx := []) rfl hle rfl (out_some rfl) ⟨rfl, rfl⟩
   · intro imm1 hf le1
     refine Ins_cons ?_
     rintro _ _ ⟨rfl, rfl⟩
     refine Ins_cons ?_
     rintro _ _ ⟨rfl, rfl⟩
     refine Ins_nil <| R_isw (hB b [vT a0.Array.l, vS p a0.Subs c] :: hf) [(5, vT s.l), (8, vT y.l)] ?_
     have hle := Imm.le.refl imm1
     exact R_ca rfl hy2 <| R_out (hx := []) rfl hle rfl (out_some rfl) ⟨rfl, rfl⟩
   · intro imm1 hf le1
     refine Ins_cons ?_
     rintro _ _ ⟨rfl, rfl⟩
     refine Ins_nil <| R_isw (hB b [vT a0.Array.l, vS p a0.Subs c] :: hf) [(9, vT s1.l)] ?_
     have hle := Imm.le.refl imm1
     exact R_ca rfl hy3 <| R_out (hx := []) rfl hle rfl (out_some rfl) ⟨rfl, rfl⟩
 · intro imm01 le1
   refine Ins_cons ?_
   rintro _ _ ⟨rfl, rfl⟩
   refine Ins_nil <| R_isw [hB b [vT a0.Array.l, vS p a0.Subs c]] [(10, vT s2.l)] ?_
   replace h := h.mono le1
   replace hle := hle.trans le1
   refine R_z [] [(2, vT s2.l)] <| T_seq <| J_ret ?_
   obtain rfl := pure_some hM
   exact T_RS ⟨_, _, (.tmp rfl ResV.nil), good_none, ⟨_, rfl, rfl, rfl⟩⟩
def spec_l3Text_post (r : Str) : Nat → Imm → List HA → Value → Prop := fun kk imm' hs' v =>
  ∃ (v0 : Value), hs' = [] ∧ v = tupV [v0] ∧ v0 = .string ⟨⟨r.l⟩⟩
def M.spec_l3Text (e0 : impl_Expr) : Option (Str) := do
 if (e0.Kind == 1) then
  let y ← M.spec_l16Dec e0.Num
  pure (id y)
 else
  if (e0.Kind == 2) then
   let y1 ← M.spec_l1Text e0.Index
   let s ← cat (⟨[123]⟩ : Str) y1
   let s1 ← cat s (⟨[125]⟩ : Str)
   pure (id s1)
  else
   if (e0.Kind == 3) then
    let y2 ← M.spec_l3AccessText e0.Read
    pure (id y2)
   else
    let x ← idx e0.Kids 0
    let y3 ← M.spec_l3Text (same x)
    let s2 ← cat (⟨[40]⟩ : Str) y3
    let s3 ← sslc (⟨[43, 45, 42]⟩ : Str) (W (e0.Kind - 4)) (W ((W (e0.Kind - 4)) + 1))
    let s4 ← cat s2 s3
    let x1 ← idx e0.Kids 1
    let y4 ← M.spec_l3Text (same x1)
    let s5 ← cat s4 y4
    let s6 ← cat s5 (⟨[41]⟩ : Str)
    pure (id s6)
 partial_fixpoint
theorem spec_l3Text_ok : ∀ (e0 : impl_Expr) r, M.spec_l3Text e0 = some r → ∀ {imm : Imm} {p : Option Addr} {c : Nat} {p1 : Option Addr} {c1 : Nat} {p2 : Option Addr} {c2 : Nat}, (SL imm (vS p e0.Index.Coefs c) e0.Index.Coefs) → (SL imm (vS p1 e0.Read.Subs c1) e0.Read.Subs) → (SL imm (vS p2 e0.Kids c2) e0.Kids) → Ret Try.prog 62 [vA [vI e0.Kind, vI e0.Num, vS p e0.Index.Coefs c, vI e0.Index.Const, vT e0.Read.Array.l, vS p1 e0.Read.Subs c1, vS p2 e0.Kids c2]] imm [] (spec_l3Text_post  r) := by
 refine M.spec_l3Text.partial_correctness (fun e0 r => ∀ {imm : Imm} {p : Option Addr} {c : Nat} {p1 : Option Addr} {c1 : Nat} {p2 : Option Addr} {c2 : Nat}, (SL imm (vS p e0.Index.Coefs c) e0.Index.Coefs) → (SL imm (vS p1 e0.Read.Subs c1) e0.Read.Subs) → (SL imm (vS p2 e0.Kids c2) e0.Kids) → Ret Try.prog 62 [vA [vI e0.Kind, vI e0.Num, vS p e0.Index.Coefs c, vI e0.Index.Const, vT e0.Read.Array.l, vS p1 e0.Read.Subs c1, vS p2 e0.Kids c2]] imm [] (spec_l3Text_post  r)) ?_
 intro F_spec_l3Text ih_spec_l3Text e0 r hM imm p c p1 c1 p2 c2 h h1 h2
 refine ret_of_J (fn := Try.f62) (c := (bodyOf Try.f62)) Try.func62 rfl rfl ?_
 rintro B - -
 have hle : imm.le imm := Imm.le.refl _
 refine J_seq <| J_region <| R_box (c := ⟨[vI e0.Kind, vI e0.Num, vS p e0.Index.Coefs c, vI e0.Index.Const, vT e0.Read.Array.l, vS p1 e0.Read.Subs c1, vS p2 e0.Kids c2]⟩) rfl rfl rfl rfl rfl ?_
 intro b hb
 refine R_z [] [] <| T_seq <| J_seq <| J_seq <| J_region <| R_z [0] [(4, vI e0.Kind)] <| T_seq <| J_block <| J_seq <| J_region <| R_z [] [(5, .bool (e0.Kind == 1))] <| T_seq <| J_cd hM ?_ ?_
 · intro hc hM
   refine J_seq <| J_region <| R_d 2 [0] [(8, vI e0.Num)] ?_
   obtain ⟨y, hy, hM⟩ := bind_some hM
   refine R_call (hs1 := []) (rest := [hB b [vI e0.Kind, vI e0.Num, vS p e0.Index.Coefs c, vI e0.Index.Const, vT e0.Read.Array.l, vS p1 e0.Read.Subs c1, vS p2 e0.Kids c2]]) rfl rfl rfl rfl (by kernel_rfl) rfl rfl (spec_l16Dec_ok e0.Num _ hy ) ?_
   rintro imm0 hs2 v2 k2 le - ⟨v0, rfl, rfl, rfl⟩ -
   replace h := h.mono le
   replace h1 := h1.mono le
   replace h2 := h2.mono le
   replace hle := hle.trans le
   refine R_z [] [(2, vT y.l)] <| T_seq <| J_ret <| T_block_ret <| T_then_ret ?_
   obtain rfl := pure_some hM
   exact T_RS ⟨_, _, (.tmp rfl ResV.nil), good_none, ⟨_, rfl, rfl, rfl⟩⟩
 · intro hc hM
   refine J_seq <| J_region <| R_z [] [(10, .bool (e0.Kind == 2))] <| T_seq <| J_cd hM ?_ ?_
   · intro hc1 hM
     refine J_seq <| J_region <| R_d 2 [0] [(13, vA [vS p e0.Index.Coefs c, vI e0.Index.Const])] ?_
     obtain ⟨y1, hy1, hM⟩ := bind_some hM
     refine R_call (hs1 := []) (rest := [hB b [vI e0.Kind, vI e0.Num, vS p e0.Index.Coefs c, vI e0.Index.Const, vT e0.Read.Array.l, vS p1 e0.Read.Subs c1, vS p2 e0.Kids c2]]) rfl rfl rfl rfl (by kernel_rfl) rfl rfl (spec_l1Text_ok e0.Index _ hy1 h) ?_
     rintro imm01 hs2 v2 k2 le1 - ⟨v01, rfl, rfl, rfl⟩ -
     replace h := h.mono le1
     replace h1 := h1.mono le1
     replace h2 := h2.mono le1
     replace hle := hle.trans le1
     obtain ⟨s, hy2, hM⟩ := bind_some hM
     refine R_ca rfl hy2 ?_
     obtain ⟨s1, hy3, hM⟩ := bind_some hM
     refine R_ca rfl hy3 <| R_z [] [(2, vT s1.l)] <| T_seq <| J_ret <| T_block_ret <| T_then_ret ?_
     obtain rfl := pure_some hM
     exact T_RS ⟨_, _, (.tmp rfl ResV.nil), good_none, ⟨_, rfl, rfl, rfl⟩⟩
   · intro hc1 hM
     refine J_seq <| J_region <| R_z [] [(17, .bool (e0.Kind == 3))] <| T_seq <| J_cd hM ?_ ?_
     · intro hc2 hM
       refine J_seq <| J_region <| R_d 2 [0] [(20, vA [vT e0.Read.Array.l, vS p1 e0.Read.Subs c1])] ?_
       obtain ⟨y2, hy4, hM⟩ := bind_some hM
       refine R_call (hs1 := []) (rest := [hB b [vI e0.Kind, vI e0.Num, vS p e0.Index.Coefs c, vI e0.Index.Const, vT e0.Read.Array.l, vS p1 e0.Read.Subs c1, vS p2 e0.Kids c2]]) rfl rfl rfl rfl (by kernel_rfl) rfl rfl (spec_l3AccessText_ok e0.Read _ hy4 h1) ?_
       rintro imm02 hs2 v2 k2 le2 - ⟨v02, rfl, rfl, rfl⟩ -
       replace h := h.mono le2
       replace h1 := h1.mono le2
       replace h2 := h2.mono le2
       replace hle := hle.trans le2
       refine R_z [] [(2, vT y2.l)] <| T_seq <| J_ret <| T_block_ret <| T_then_ret ?_
       obtain rfl := pure_some hM
       exact T_RS ⟨_, _, (.tmp rfl ResV.nil), good_none, ⟨_, rfl, rfl, rfl⟩⟩
     · intro hc2 hM
       refine J_skip <| T_block_normal <| T_seq <| J_seq ?_
       obtain ⟨x, hy5, hM⟩ := bind_some hM
       obtain ⟨y3, hy6, hM⟩ := bind_some hM
       obtain ⟨s2, hy7, hM⟩ := bind_some hM
       obtain ⟨s3, hy8, hM⟩ := bind_some hM
       obtain ⟨s4, hy9, hM⟩ := bind_some hM
       obtain ⟨x1, hy10, hM⟩ := bind_some hM
       obtain ⟨y4, hy11, hM⟩ := bind_some hM
       obtain ⟨s5, hy12, hM⟩ := bind_some hM
       obtain ⟨s6, hy13, hM⟩ := bind_some hM
       refine J_any [.p (vP b 6) [], .p (vS p2 e0.Kids c2) [0], .x (fun imm' v hx => ∃ (ad : Addr) (p3 : Option Addr) (c3 : Nat) (p4 : Option Addr) (c4 : Nat) (p5 : Option Addr) (c5 : Nat), v = .pointer (some ad) ∧ hx = [] ∧ (At imm' ad [vI x.Kind, vI x.Num, vS p3 x.Index.Coefs c3, vI x.Index.Const, vT x.Read.Array.l, vS p4 x.Read.Subs c4, vS p5 x.Kids c5]) ∧ (SL imm' (vS p3 x.Index.Coefs c3) x.Index.Coefs) ∧ (SL imm' (vS p4 x.Read.Subs c4) x.Read.Subs) ∧ (SL imm' (vS p5 x.Kids c5) x.Kids)), .x (fun imm' v hx => ∃ (p31 : Option Addr) (c31 : Nat) (p41 : Option Addr) (c41 : Nat) (p51 : Option Addr) (c51 : Nat), v = vA [vI x.Kind, vI x.Num, vS p31 x.Index.Coefs c31, vI x.Index.Const, vT x.Read.Array.l, vS p41 x.Read.Subs c41, vS p51 x.Kids c51] ∧ hx = [] ∧ (SL imm' (vS p31 x.Index.Coefs c31) x.Index.Coefs) ∧ (SL imm' (vS p41 x.Read.Subs c41) x.Read.Subs) ∧ (SL imm' (vS p51 x.Kids c51) x.Kids)), .q (vT y3.l), .q (vT s2.l), .p (vP b 0) [], .p (vI e0.Kind) [0], .p (vI (W (e0.Kind - 4))) [], .p (vP b 0) [], .p (vI e0.Kind) [0], .p (vI (W (e0.Kind - 4))) [], .p (vI (W ((W (e0.Kind - 4)) + 1))) [], .q (vT s3.l), .q (vT s4.l), .p (vP b 6) [], .p (vS p2 e0.Kids c2) [0], .x (fun imm' v hx => ∃ (ad1 : Addr) (p6 : Option Addr) (c6 : Nat) (p7 : Option Addr) (c7 : Nat) (p8 : Option Addr) (c8 : Nat), v = .pointer (some ad1) ∧ hx = [] ∧ (At imm' ad1 [vI x1.Kind, vI x1.Num, vS p6 x1.Index.Coefs c6, vI x1.Index.Const, vT x1.Read.Array.l, vS p7 x1.Read.Subs c7, vS p8 x1.Kids c8]) ∧ (SL imm' (vS p6 x1.Index.Coefs c6) x1.Index.Coefs) ∧ (SL imm' (vS p7 x1.Read.Subs c7) x1.Read.Subs) ∧ (SL imm' (vS p8 x1.Kids c8) x1.Kids)), .x (fun imm' v hx => ∃ (p61 : Option Addr) (c61 : Nat) (p71 : Option Addr) (c71 : Nat) (p81 : Option Addr) (c81 : Nat), v = vA [vI x1.Kind, vI x1.Num, vS p61 x1.Index.Coefs c61, vI x1.Index.Const, vT x1.Read.Array.l, vS p71 x1.Read.Subs c71, vS p81 x1.Kids c81] ∧ hx = [] ∧ (SL imm' (vS p61 x1.Index.Coefs c61) x1.Index.Coefs) ∧ (SL imm' (vS p71 x1.Read.Subs c71) x1.Read.Subs) ∧ (SL imm' (vS p81 x1.Kids c81) x1.Kids)), .q (vT y4.l), .q (vT s5.l), .q (vT s6.l)] [[], [(0, false)], [(1, false)], [(2, false)], [(3, false)], [(4, false)], [], [(6, false)], [(7, false)], [], [(9, false)], [(10, false)], [(11, false)], [(8, false), (12, false)], [(5, false), (13, false)], [], [(15, false)], [(16, false)], [(17, false)], [(18, false)], [(14, false), (19, false)], [(20, false)]] [hB b [vI e0.Kind, vI e0.Num, vS p e0.Index.Coefs c, vI e0.Index.Const, vT e0.Read.Array.l, vS p1 e0.Read.Subs c1, vS p2 e0.Kids c2]] [] [(21, false)] (good_pick [0] rfl (by decide)) ?_ ?_
       · refine Op <| Op <| Ox ?_ <| Ox ?_ <| Oq ?_ <| Oq ?_ <| Op <| Op <| Op <| Op <| Op <| Op <| Op <| Oq ?_ <| Oq ?_ <| Op <| Op <| Ox ?_ <| Ox ?_ <| Oq ?_ <| Oq ?_ <| Oq ?_ <| On
         · intro imm1 hf le1
           refine Ins_cons ?_
           rintro _ _ ⟨rfl, rfl⟩
           refine Ins_nil <| R_isw (hB b [vI e0.Kind, vI e0.Num, vS p e0.Index.Coefs c, vI e0.Index.Const, vT e0.Read.Array.l, vS p1 e0.Read.Subs c1, vS p2 e0.Kids c2] :: hf) [(23, vS p2 e0.Kids c2)] ?_
           have hle := Imm.le.refl imm1
           replace h2 := h2.mono le1
           refine R_ix rfl rfl h2 hy5 ?_
           intro ad ccs hat hrep
           obtain ⟨v03, v04, v05, rfl, h6, h7, h8⟩ := impl_Expr_open hrep
           obtain ⟨p3, c3, rfl⟩ := h6.form
           obtain ⟨p4, c4, rfl⟩ := h7.form
           obtain ⟨p5, c5, rfl⟩ := h8.form
           exact R_out (hx := []) rfl hle rfl (out_some rfl) ⟨_, _, _, _, _, _, _, rfl, rfl, hat, h6, h7, h8⟩
         · intro imm1 hf le1
           refine Ins_cons ?_
           rintro _ _ ⟨ad, p3, c3, p4, c4, p5, c5, rfl, rfl, hat, h6, h7, h8⟩
           refine Ins_nil <| R_isw (hB b [vI e0.Kind, vI e0.Num, vS p e0.Index.Coefs c, vI e0.Index.Const, vT e0.Read.Array.l, vS p1 e0.Read.Subs c1, vS p2 e0.Kids c2] :: hf) [(24, .pointer (some ad))] ?_
           have hle := Imm.le.refl imm1
           exact R_la 0 hat [vI x.Kind, vI x.Num, vS p3 x.Index.Coefs c3, vI x.Index.Const, vT x.Read.Array.l, vS p4 x.Read.Subs c4, vS p5 x.Kids c5] (vA [vI x.Kind, vI x.Num, vS p3 x.Index.Coefs c3, vI x.Index.Const, vT x.Read.Array.l, vS p4 x.Read.Subs c4, vS p5 x.Kids c5]) rfl <| R_out (hx := []) rfl hle rfl (out_some rfl) ⟨_, _, _, _, _, _, rfl, rfl, h6, h7, h8⟩
         · intro imm1 hf le1
           refine Ins_cons ?_
           rintro _ _ ⟨p31, c31, p41, c41, p51, c51, rfl, rfl, h61, h71, h81⟩
           refine Ins_nil <| R_isw (hB b [vI e0.Kind, vI e0.Num, vS p e0.Index.Coefs c, vI e0.Index.Const, vT e0.Read.Array.l, vS p1 e0.Read.Subs c1, vS p2 e0.Kids c2] :: hf) [(25, vA [vI x.Kind, vI x.Num, vS p31 x.Index.Coefs c31, vI x.Index.Const, vT x.Read.Array.l, vS p41 x.Read.Subs c41, vS p51 x.Kids c51])] ?_
           have hle := Imm.le.refl imm1
           replace h := h.mono le1
           replace h1 := h1.mono le1
           replace h2 := h2.mono le1
           refine R_call (hs1 := []) (rest := (hB b [vI e0.Kind, vI e0.Num, vS p e0.Index.Coefs c, vI e0.Index.Const, vT e0.Read.Array.l, vS p1 e0.Read.Subs c1, vS p2 e0.Kids c2] :: hf)) rfl rfl rfl rfl (by kernel_rfl) rfl rfl (ih_spec_l3Text x _ hy6 h61 h71 h81) ?_
           rintro imm03 hs2 v2 k2 le3 - ⟨v06, rfl, rfl, rfl⟩ -
           replace h61 := h61.mono le3
           replace h71 := h71.mono le3
           replace h81 := h81.mono le3
           replace h := h.mono le3
           replace h1 := h1.mono le3
           replace h2 := h2.mono le3
           replace hle := hle.trans le3
           exact R_out (hx := []) rfl hle rfl (out_some rfl) ⟨rfl, rfl⟩
         · intro imm1 hf le1
           refine Ins_cons ?_
           rintro _ _ ⟨rfl, rfl⟩
           refine Ins_nil <| R_isw (hB b [vI e0.Kind, vI e0.Num, vS p e0.Index.Coefs c, vI e0.Index.Const, vT e0.Read.Array.l, vS p1 e0.Read.Subs c1, vS p2 e0.Kids c2] :: hf) [(26, vT y3.l)] ?_
           have hle := Imm.le.refl imm1
           exact R_ca rfl hy7 <| R_out (hx := []) rfl hle rfl (out_some rfl) ⟨rfl, rfl⟩
         · intro imm1 hf le1
           refine Ins_cons ?_
           rintro _ _ ⟨rfl, rfl⟩
           refine Ins_cons ?_
           rintro _ _ ⟨rfl, rfl⟩
           refine Ins_nil <| R_isw (hB b [vI e0.Kind, vI e0.Num, vS p e0.Index.Coefs c, vI e0.Index.Const, vT e0.Read.Array.l, vS p1 e0.Read.Subs c1, vS p2 e0.Kids c2] :: hf) [(30, vI (W (e0.Kind - 4))), (34, vI (W ((W (e0.Kind - 4)) + 1)))] ?_
           have hle := Imm.le.refl imm1
           exact R_ss rfl hy8 <| R_out (hx := []) rfl hle rfl (out_some rfl) ⟨rfl, rfl⟩
         · intro imm1 hf le1
           refine Ins_cons ?_
           rintro _ _ ⟨rfl, rfl⟩
           refine Ins_cons ?_
           rintro _ _ ⟨rfl, rfl⟩
           refine Ins_nil <| R_isw (hB b [vI e0.Kind, vI e0.Num, vS p e0.Index.Coefs c, vI e0.Index.Const, vT e0.Read.Array.l, vS p1 e0.Read.Subs c1, vS p2 e0.Kids c2] :: hf) [(27, vT s2.l), (35, vT s3.l)] ?_
           have hle := Imm.le.refl imm1
           exact R_ca rfl hy9 <| R_out (hx := []) rfl hle rfl (out_some rfl) ⟨rfl, rfl⟩
         · intro imm1 hf le1
           refine Ins_cons ?_
           rintro _ _ ⟨rfl, rfl⟩
           refine Ins_nil <| R_isw (hB b [vI e0.Kind, vI e0.Num, vS p e0.Index.Coefs c, vI e0.Index.Const, vT e0.Read.Array.l, vS p1 e0.Read.Subs c1, vS p2 e0.Kids c2] :: hf) [(38, vS p2 e0.Kids c2)] ?_
           have hle := Imm.le.refl imm1
           replace h2 := h2.mono le1
           refine R_ix rfl rfl h2 hy10 ?_
           intro ad1 ccs1 hat1 hrep1
           obtain ⟨v07, v08, v09, rfl, h10, h11, h12⟩ := impl_Expr_open hrep1
           obtain ⟨p6, c6, rfl⟩ := h10.form
           obtain ⟨p7, c7, rfl⟩ := h11.form
           obtain ⟨p8, c8, rfl⟩ := h12.form
           exact R_out (hx := []) rfl hle rfl (out_some rfl) ⟨_, _, _, _, _, _, _, rfl, rfl, hat1, h10, h11, h12⟩
         · intro imm1 hf le1
           refine Ins_cons ?_
           rintro _ _ ⟨ad1, p6, c6, p7, c7, p8, c8, rfl, rfl, hat1, h10, h11, h12⟩
           refine Ins_nil <| R_isw (hB b [vI e0.Kind, vI e0.Num, vS p e0.Index.Coefs c, vI e0.Index.Const, vT e0.Read.Array.l, vS p1 e0.Read.Subs c1, vS p2 e0.Kids c2] :: hf) [(39, .pointer (some ad1))] ?_
           have hle := Imm.le.refl imm1
           exact R_la 0 hat1 [vI x1.Kind, vI x1.Num, vS p6 x1.Index.Coefs c6, vI x1.Index.Const, vT x1.Read.Array.l, vS p7 x1.Read.Subs c7, vS p8 x1.Kids c8] (vA [vI x1.Kind, vI x1.Num, vS p6 x1.Index.Coefs c6, vI x1.Index.Const, vT x1.Read.Array.l, vS p7 x1.Read.Subs c7, vS p8 x1.Kids c8]) rfl <| R_out (hx := []) rfl hle rfl (out_some rfl) ⟨_, _, _, _, _, _, rfl, rfl, h10, h11, h12⟩
         · intro imm1 hf le1
           refine Ins_cons ?_
           rintro _ _ ⟨p61, c61, p71, c71, p81, c81, rfl, rfl, h101, h111, h121⟩
           refine Ins_nil <| R_isw (hB b [vI e0.Kind, vI e0.Num, vS p e0.Index.Coefs c, vI e0.Index.Const, vT e0.Read.Array.l, vS p1 e0.Read.Subs c1, vS p2 e0.Kids c2] :: hf) [(40, vA [vI x1.Kind, vI x1.Num, vS p61 x1.Index.Coefs c61, vI x1.Index.Const, vT x1.Read.Array.l, vS p71 x1.Read.Subs c71, vS p81 x1.Kids c81])] ?_
           have hle := Imm.le.refl imm1
           replace h := h.mono le1
           replace h1 := h1.mono le1
           replace h2 := h2.mono le1
           refine R_call (hs1 := []) (rest := (hB b [vI e0.Kind, vI e0.Num, vS p e0.Index.Coefs c, vI e0.Index.Const, vT e0.Read.Array.l, vS p1 e0.Read.Subs c1, vS p2 e0.Kids c2] :: hf)) rfl rfl rfl rfl (by kernel_rfl) rfl rfl (ih_spec_l3Text x1 _ hy11 h101 h111 h121) ?_
           rintro imm04 hs2 v2 k2 le4 - ⟨v010, rfl, rfl, rfl⟩ -
           replace h101 := h101.mono le4
           replace h111 := h111.mono le4
           replace h121 := h121.mono le4
           replace h := h.mono le4
           replace h1 := h1.mono le4
           replace h2 := h2.mono le4
           replace hle := hle.trans le4
           exact R_out (hx := []) rfl hle rfl (out_some rfl) ⟨rfl, rfl⟩
         · intro imm1 hf le1
           refine Ins_cons ?_
           rintro _ _ ⟨rfl, rfl⟩
           refine Ins_cons ?_
           rintro _ _ ⟨rfl, rfl⟩
           refine Ins_nil <| R_isw (hB b [vI e0.Kind, vI e0.Num, vS p e0.Index.Coefs c, vI e0.Index.Const, vT e0.Read.Array.l, vS p1 e0.Read.Subs c1, vS p2 e0.Kids c2] :: hf) [(36, vT s4.l), (41, vT y4.l)] ?_
           have hle := Imm.le.refl imm1
           exact R_ca rfl hy12 <| R_out (hx := []) rfl hle rfl (out_some rfl) ⟨rfl, rfl⟩
         · intro imm1 hf le1
           refine Ins_cons ?_
           rintro _ _ ⟨rfl, rfl⟩
           refine Ins_nil <| R_isw (hB b [vI e0.Kind, vI e0.Num, vS p e0.Index.Coefs c, vI e0.Index.Const, vT e0.Read.Array.l, vS p1 e0.Read.Subs c1, vS p2 e0.Kids c2] :: hf) [(42, vT s5.l)] ?_
           have hle := Imm.le.refl imm1
           exact R_ca rfl hy13 <| R_out (hx := []) rfl hle rfl (out_some rfl) ⟨rfl, rfl⟩
       · intro imm05 le5
         refine Ins_cons ?_
         rintro _ _ ⟨rfl, rfl⟩
         refine Ins_nil <| R_isw [hB b [vI e0.Kind, vI e0.Num, vS p e0.Index.Coefs c, vI e0.Index.Const, vT e0.Read.Array.l, vS p1 e0.Read.Subs c1, vS p2 e0.Kids c2]] [(43, vT s6.l)] ?_
         replace h := h.mono le5
         replace h1 := h1.mono le5
         replace h2 := h2.mono le5
         replace hle := hle.trans le5
         refine R_z [] [(2, vT s6.l)] <| T_seq <| J_ret ?_
         obtain rfl := pure_some hM
         exact T_RS ⟨_, _, (.tmp rfl ResV.nil), good_none, ⟨_, rfl, rfl, rfl⟩⟩
def spec_FormatStmt_post (r : Str) : Nat → Imm → List HA → Value → Prop := fun kk imm' hs' v =>
  ∃ (v0 : Value), hs' = [] ∧ v = tupV [v0] ∧ v0 = .string ⟨⟨r.l⟩⟩
def M.spec_FormatStmt (s : impl_Stmt) : Option (Str) := do
 let y ← M.spec_StmtValid s 4
 if (!y) then
  pure (⟨[]⟩ : Str)
 else
  let y1 ← M.spec_l3AccessText s.Write
  let s1 ← cat y1 (⟨[61]⟩ : Str)
  let y2 ← M.spec_l3Text s.Value
  let s2 ← cat s1 y2
  pure (id s2)
theorem spec_FormatStmt_ok : ∀ (s : impl_Stmt) r, M.spec_FormatStmt s = some r → ∀ {imm : Imm} {p : Option Addr} {c : Nat} {p1 : Option Addr} {c1 : Nat} {p2 : Option Addr} {c2 : Nat} {p3 : Option Addr} {c3 : Nat}, (SL imm (vS p s.Write.Subs c) s.Write.Subs) → (SL imm (vS p1 s.Value.Index.Coefs c1) s.Value.Index.Coefs) → (SL imm (vS p2 s.Value.Read.Subs c2) s.Value.Read.Subs) → (SL imm (vS p3 s.Value.Kids c3) s.Value.Kids) → Ret Try.prog 80 [vA [vT s.Write.Array.l, vS p s.Write.Subs c, vI s.Value.Kind, vI s.Value.Num, vS p1 s.Value.Index.Coefs c1, vI s.Value.Index.Const, vT s.Value.Read.Array.l, vS p2 s.Value.Read.Subs c2, vS p3 s.Value.Kids c3]] imm [] (spec_FormatStmt_post  r) := by
 intro s r hM imm p c p1 c1 p2 c2 p3 c3 h h1 h2 h3
 unfold M.spec_FormatStmt at hM
 refine ret_of_J (fn := Try.f80) (c := (bodyOf Try.f80)) Try.func80 rfl rfl ?_
 rintro B - -
 have hle : imm.le imm := Imm.le.refl _
 refine J_seq <| J_region <| R_box (c := ⟨[vT s.Write.Array.l, vS p s.Write.Subs c, vI s.Value.Kind, vI s.Value.Num, vS p1 s.Value.Index.Coefs c1, vI s.Value.Index.Const, vT s.Value.Read.Array.l, vS p2 s.Value.Read.Subs c2, vS p3 s.Value.Kids c3]⟩) rfl rfl rfl rfl rfl ?_
 intro b hb
 refine R_z [] [] <| T_seq <| J_seq <| J_seq <| J_region <| R_d 1 [0] [(3, vA [vT s.Write.Array.l, vS p s.Write.Subs c, vI s.Value.Kind, vI s.Value.Num, vS p1 s.Value.Index.Coefs c1, vI s.Value.Index.Const, vT s.Value.Read.Array.l, vS p2 s.Value.Read.Subs c2, vS p3 s.Value.Kids c3])] ?_
 obtain ⟨y, hy, hM⟩ := bind_some hM
 refine R_call (hs1 := []) (rest := [hB b [vT s.Write.Array.l, vS p s.Write.Subs c, vI s.Value.Kind, vI s.Value.Num, vS p1 s.Value.Index.Coefs c1, vI s.Value.Index.Const, vT s.Value.Read.Array.l, vS p2 s.Value.Read.Subs c2, vS p3 s.Value.Kids c3]]) rfl rfl rfl rfl (by kernel_rfl) rfl rfl (spec_StmtValid_ok s 4 _ hy h h1 h2 h3) ?_
 rintro imm0 hs2 v2 k2 le - ⟨v0, rfl, rfl, rfl⟩ -
 replace h := h.mono le
 replace h1 := h1.mono le
 replace h2 := h2.mono le
 replace h3 := h3.mono le
 replace hle := hle.trans le
 refine R_z [] [(5, .bool (!y))] <| T_seq <| J_cd hM ?_ ?_
 · intro hc hM
   refine J_seq <| J_region <| R_z [] [(2, vT ([]))] <| T_seq <| J_ret <| T_then_ret ?_
   obtain rfl := pure_some hM
   exact T_RS ⟨_, _, (.tmp rfl ResV.nil), good_none, ⟨_, rfl, rfl, rfl⟩⟩
 · intro hc hM
   refine J_skip <| T_seq <| J_seq ?_
   obtain ⟨y1, hy1, hM⟩ := bind_some hM
   obtain ⟨s1, hy2, hM⟩ := bind_some hM
   obtain ⟨y2, hy3, hM⟩ := bind_some hM
   obtain ⟨s2, hy4, hM⟩ := bind_some hM
   refine J_any [.p (vP b 0) [], .p (vA [vT s.Write.Array.l, vS p s.Write.Subs c]) [0], .q (vT y1.l), .q (vT s1.l), .p (vP b 2) [], .p (vA [vI s.Value.Kind, vI s.Value.Num, vS p1 s.Value.Index.Coefs c1, vI s.Value.Index.Const, vT s.Value.Read.Array.l, vS p2 s.Value.Read.Subs c2, vS p3 s.Value.Kids c3]) [0], .q (vT y2.l), .q (vT s2.l)] [[], [(0, false)], [(1, false)], [(2, false)], [], [(4, false)], [(5, false)], [(3, false), (6, false)]] [hB b [vT s.Write.Array.l, vS p s.Write.Subs c, vI s.Value.Kind, vI s.Value.Num, vS p1 s.Value.Index.Coefs c1, vI s.Value.Index.Const, vT s.Value.Read.Array.l, vS p2 s.Value.Read.Subs c2, vS p3 s.Value.Kids c3]] [] [(7, false)] (good_pick [0] rfl (by decide)) ?_ ?_
   · refine Op <| Op <| Oq ?_ <| Oq ?_ <| Op <| Op <| Oq ?_ <| Oq ?_ <| On
     · intro imm1 hf le1
       refine Ins_cons ?_
       rintro _ _ ⟨rfl, rfl⟩
       refine Ins_nil <| R_isw (hB b [vT s.Write.Array.l, vS p s.Write.Subs c, vI s.Value.Kind, vI s.Value.Num, vS p1 s.Value.Index.Coefs c1, vI s.Value.Index.Const, vT s.Value.Read.Array.l, vS p2 s.Value.Read.Subs c2, vS p3 s.Value.Kids c3] :: hf) [(7, vA [vT s.Write.Array.l, vS p s.Write.Subs c])] ?_
       have hle := Imm.le.refl imm1
       replace h := h.mono le1
       replace h1 := h1.mono le1
       replace h2 := h2.mono le1
       replace h3 := h3.mono le1
       refine R_call (hs1 := []) (rest := (hB b [vT s.Write.Array.l, vS p s.Write.Subs c, vI s.Value.Kind, vI s.Value.Num, vS p1 s.Value.Index.Coefs c1, vI s.Value.Index.Const, vT s.Value.Read.Array.l, vS p2 s.Value.Read.Subs c2, vS p3 s.Value.Kids c3] :: hf)) rfl rfl rfl rfl (by kernel_rfl) rfl rfl (spec_l3AccessText_ok s.Write _ hy1 h) ?_
       rintro imm01 hs2 v2 k2 le1 - ⟨v01, rfl, rfl, rfl⟩ -
       replace h := h.mono le1
       replace h1 := h1.mono le1
       replace h2 := h2.mono le1
       replace h3 := h3.mono le1
       replace hle := hle.trans le1
       exact R_out (hx := []) rfl hle rfl (out_some rfl) ⟨rfl, rfl⟩
     · intro imm1 hf le1
       refine Ins_cons ?_
       rintro _ _ ⟨rfl, rfl⟩
       refine Ins_nil <| R_isw (hB b [vT s.Write.Array.l, vS p s.Write.Subs c, vI s.Value.Kind, vI s.Value.Num, vS p1 s.Value.Index.Coefs c1, vI s.Value.Index.Const, vT s.Value.Read.Array.l, vS p2 s.Value.Read.Subs c2, vS p3 s.Value.Kids c3] :: hf) [(8, vT y1.l)] ?_
       have hle := Imm.le.refl imm1
       exact R_ca rfl hy2 <| R_out (hx := []) rfl hle rfl (out_some rfl) ⟨rfl, rfl⟩
     · intro imm1 hf le1
       refine Ins_cons ?_
       rintro _ _ ⟨rfl, rfl⟩
       refine Ins_nil <| R_isw (hB b [vT s.Write.Array.l, vS p s.Write.Subs c, vI s.Value.Kind, vI s.Value.Num, vS p1 s.Value.Index.Coefs c1, vI s.Value.Index.Const, vT s.Value.Read.Array.l, vS p2 s.Value.Read.Subs c2, vS p3 s.Value.Kids c3] :: hf) [(11, vA [vI s.Value.Kind, vI s.Value.Num, vS p1 s.Value.Index.Coefs c1, vI s.Value.Index.Const, vT s.Value.Read.Array.l, vS p2 s.Value.Read.Subs c2, vS p3 s.Value.Kids c3])] ?_
       have hle := Imm.le.refl imm1
       replace h := h.mono le1
       replace h1 := h1.mono le1
       replace h2 := h2.mono le1
       replace h3 := h3.mono le1
       refine R_call (hs1 := []) (rest := (hB b [vT s.Write.Array.l, vS p s.Write.Subs c, vI s.Value.Kind, vI s.Value.Num, vS p1 s.Value.Index.Coefs c1, vI s.Value.Index.Const, vT s.Value.Read.Array.l, vS p2 s.Value.Read.Subs c2, vS p3 s.Value.Kids c3] :: hf)) rfl rfl rfl rfl (by kernel_rfl) rfl rfl (spec_l3Text_ok s.Value _ hy3 h1 h2 h3) ?_
       rintro imm02 hs2 v2 k2 le2 - ⟨v02, rfl, rfl, rfl⟩ -
       replace h1 := h1.mono le2
       replace h2 := h2.mono le2
       replace h3 := h3.mono le2
       replace h := h.mono le2
       replace hle := hle.trans le2
       exact R_out (hx := []) rfl hle rfl (out_some rfl) ⟨rfl, rfl⟩
     · intro imm1 hf le1
       refine Ins_cons ?_
       rintro _ _ ⟨rfl, rfl⟩
       refine Ins_cons ?_
       rintro _ _ ⟨rfl, rfl⟩
       refine Ins_nil <| R_isw (hB b [vT s.Write.Array.l, vS p s.Write.Subs c, vI s.Value.Kind, vI s.Value.Num, vS p1 s.Value.Index.Coefs c1, vI s.Value.Index.Const, vT s.Value.Read.Array.l, vS p2 s.Value.Read.Subs c2, vS p3 s.Value.Kids c3] :: hf) [(9, vT s1.l), (12, vT y2.l)] ?_
       have hle := Imm.le.refl imm1
       exact R_ca rfl hy4 <| R_out (hx := []) rfl hle rfl (out_some rfl) ⟨rfl, rfl⟩
   · intro imm03 le3
     refine Ins_cons ?_
     rintro _ _ ⟨rfl, rfl⟩
     refine Ins_nil <| R_isw [hB b [vT s.Write.Array.l, vS p s.Write.Subs c, vI s.Value.Kind, vI s.Value.Num, vS p1 s.Value.Index.Coefs c1, vI s.Value.Index.Const, vT s.Value.Read.Array.l, vS p2 s.Value.Read.Subs c2, vS p3 s.Value.Kids c3]] [(13, vT s2.l)] ?_
     replace h := h.mono le3
     replace h1 := h1.mono le3
     replace h2 := h2.mono le3
     replace h3 := h3.mono le3
     replace hle := hle.trans le3
     refine R_z [] [(2, vT s2.l)] <| T_seq <| J_ret ?_
     obtain rfl := pure_some hM
     exact T_RS ⟨_, _, (.tmp rfl ResV.nil), good_none, ⟨_, rfl, rfl, rfl⟩⟩
def spec_ParseStmt_post (r : impl_Stmt × Bool) : Nat → Imm → List HA → Value → Prop := fun kk imm' hs' v =>
  ∃ (v0 : Value) (v1 : Value), hs' = [] ∧ v = tupV [v0, v1] ∧ (∃ cs, v0 = .agg ⟨cs⟩ ∧ Rp.rep imm' cs r.1) ∧ v1 = .bool r.2
def M.spec_ParseStmt (text : Str) : Option (impl_Stmt × Bool) := do
 if (decide ((text.l.length : Int) < 4)) then
  pure ((impl_Stmt.mk (impl_Access.mk (⟨[]⟩ : Str) ([] : List impl_Affine)) (impl_Expr.mk 0 0 (impl_Affine.mk ([] : List Int) 0) (impl_Access.mk (⟨[]⟩ : Str) ([] : List impl_Affine)) ([] : List impl_Expr))), false)
 else
  let (y1, y2) ← M.spec_l3ParseAccess text 0
  let t25 ← (do
    if (decide (y2 < 0)) then
     pure true
    else
     pure (decide (y2 ≥ (text.l.length : Int)))
      : Option Bool)
  if t25 then
   pure ((impl_Stmt.mk (impl_Access.mk (⟨[]⟩ : Str) ([] : List impl_Affine)) (impl_Expr.mk 0 0 (impl_Affine.mk ([] : List Int) 0) (impl_Access.mk (⟨[]⟩ : Str) ([] : List impl_Affine)) ([] : List impl_Expr))), false)
  else
   let (y4, y5) ← M.spec_l3Parse text (W (y2 + 1)) 5
   let y6 ← M.spec_FormatStmt (impl_Stmt.mk y1 y4)
   if (!(y6.l == text.l)) then
    pure ((impl_Stmt.mk (impl_Access.mk (⟨[]⟩ : Str) ([] : List impl_Affine)) (impl_Expr.mk 0 0 (impl_Affine.mk ([] : List Int) 0) (impl_Access.mk (⟨[]⟩ : Str) ([] : List impl_Affine)) ([] : List impl_Expr))), false)
   else
    pure ((impl_Stmt.mk y1 y4), true)
theorem spec_ParseStmt_ok : ∀ (text : Str) r, M.spec_ParseStmt text = some r → ∀ {imm : Imm} , Ret Try.prog 58 [vT text.l] imm [] (spec_ParseStmt_post  r) := by
 intro text r hM imm
 unfold M.spec_ParseStmt at hM
 refine ret_of_J (fn := Try.f58) (c := (bodyOf Try.f58)) Try.func58 rfl rfl ?_
 rintro B - -
 have hle : imm.le imm := Imm.le.refl _
 refine J_seq <| J_region <| R_alloc (c := ⟨[vT ([]), .slice none 0 0, vI 0, vI 0, .slice none 0 0, vI 0, vT ([]), .slice none 0 0, .slice none 0 0]⟩) rfl rfl rfl (by kernel_rfl) ?_
 intro b hb
 refine R_z [] [] <| T_seq <| J_seq <| J_seq <| J_region <| R_z [] [(11, .bool (decide ((text.l.length : Int) < 4)))] <| T_seq <| J_cd hM ?_ ?_
 · intro hc hM
   refine J_seq <| J_region <| R_d 1 [] [(12, vA [vT ([]), .slice none 0 0, vI 0, vI 0, .slice none 0 0, vI 0, vT ([]), .slice none 0 0, .slice none 0 0])] <| R_sb 0 [vT ([]), .slice none 0 0, vI 0, vI 0, .slice none 0 0, vI 0, vT ([]), .slice none 0 0, .slice none 0 0] [hB b [vT ([]), .slice none 0 0, vI 0, vI 0, .slice none 0 0, vI 0, vT ([]), .slice none 0 0, .slice none 0 0]] rfl rfl rfl rfl <| R_z [] [(3, .bool false)] <| T_seq <| J_ret <| T_then_ret ?_
   obtain rfl := pure_some hM
   exact T_RS ⟨_, _, (.cell 0 rfl rfl (by kernel_rfl) (.tmp rfl ResV.nil)), good_none, ⟨_, _, rfl, rfl, ⟨_, rfl, (impl_Stmt_shut ⟨_, _, _, _, rfl, (SL.nil _), (SL.nil _), (SL.nil _), (SL.nil _)⟩)⟩, rfl⟩⟩
 · intro hc hM
   refine J_skip <| T_seq <| J_seq <| J_region <| R_d 1 [] [(14, vT text.l)] ?_
   obtain ⟨⟨y1, y2⟩, hy, hM⟩ := bind_some hM
   refine R_call (hs1 := []) (rest := [hB b [vT ([]), .slice none 0 0, vI 0, vI 0, .slice none 0 0, vI 0, vT ([]), .slice none 0 0, .slice none 0 0]]) rfl rfl rfl rfl (by kernel_rfl) rfl rfl (spec_l3ParseAccess_ok text 0 _ hy ) ?_
   rintro imm0 hs2 v2 k2 le - ⟨v0, v01, rfl, rfl, ⟨cs, rfl, h⟩, rfl⟩ -
   replace hle := hle.trans le
   obtain ⟨v02, rfl, h2⟩ := impl_Access_open h
   obtain ⟨p, c, rfl⟩ := h2.form
   refine R_d 5 [] [(16, vA [vT y1.Array.l, vS p y1.Subs c]), (17, vI y2)] <| R_alloc (c := ⟨[vT ([]), .slice none 0 0]⟩) rfl rfl rfl (by kernel_rfl) ?_
   intro b1 hb1
   refine R_sb 0 [vT y1.Array.l, vS p y1.Subs c] [hB b1 [vT y1.Array.l, vS p y1.Subs c], hB b [vT ([]), .slice none 0 0, vI 0, vI 0, .slice none 0 0, vI 0, vT ([]), .slice none 0 0, .slice none 0 0]] rfl rfl rfl rfl <| R_z [] [(5, vI y2)] <| T_seq <| J_seq <| J_seq ?_
   obtain ⟨o0, ho0, hM⟩ := bind_some hM
   refine J_cut (fun imm' hs' m' => ∃ (t25 : Bool), o0 = t25 ∧ imm0.le imm' ∧ hs' = [hB b1 [vT y1.Array.l, vS p y1.Subs c], hB b [vT ([]), .slice none 0 0, vI 0, vI 0, .slice none 0 0, vI 0, vT ([]), .slice none 0 0, .slice none 0 0]] ∧ m' = [(0, vT text.l), (2, vP b 0), (4, vP b1 0), (5, vI y2), (25, .bool t25)]) ?_ ?_
   · have hle0 := hle
     have hle : imm0.le imm0 := Imm.le.refl _
     refine J_region <| R_d 3 [] [(20, .bool (decide (y2 < 0)))] ?_
     cases hc1 : (decide (y2 < 0)) with
     | true =>
      have hM0 := if_some_true hc1 ho0
      try rw [hc1]
      exact R_z [] [(25, .bool true)] <| T_w [(0, vT text.l), (2, vP b 0), (4, vP b1 0), (5, vI y2), (25, .bool true)] <| T_cut ⟨_, (pure_some hM0).symm, hle, rfl, rfl⟩
     | false =>
      have hM01 := if_some_false hc1 ho0
      try rw [hc1]
      exact R_z [] [(25, .bool (decide (y2 ≥ (text.l.length : Int))))] <| T_w [(0, vT text.l), (2, vP b 0), (4, vP b1 0), (5, vI y2), (25, .bool (decide (y2 ≥ (text.l.length : Int))))] <| T_cut ⟨_, (pure_some hM01).symm, hle, rfl, rfl⟩
   · rintro imm01 hs2 m2 ⟨t25, heq, le1, rfl, rfl⟩
     subst o0
     replace h2 := h2.mono le1
     replace hle := hle.trans le1
     refine T_seq <| J_cd hM ?_ ?_
     · intro hc2 hM
       refine J_seq <| J_region <| R_d 1 [] [(26, vA [vT ([]), .slice none 0 0, vI 0, vI 0, .slice none 0 0, vI 0, vT ([]), .slice none 0 0, .slice none 0 0])] <| R_sb 1 [vT ([]), .slice none 0 0, vI 0, vI 0, .slice none 0 0, vI 0, vT ([]), .slice none 0 0, .slice none 0 0] [hB b1 [vT y1.Array.l, vS p y1.Subs c], hB b [vT ([]), .slice none 0 0, vI 0, vI 0, .slice none 0 0, vI 0, vT ([]), .slice none 0 0, .slice none 0 0]] rfl rfl rfl rfl <| R_z [] [(3, .bool false)] <| T_seq <| J_ret <| T_then_ret ?_
       obtain rfl := pure_some hM
       exact T_RS ⟨_, _, (.cell 1 rfl rfl (by kernel_rfl) (.tmp rfl ResV.nil)), good_none, ⟨_, _, rfl, rfl, ⟨_, rfl, (impl_Stmt_shut ⟨_, _, _, _, rfl, (SL.nil _), (SL.nil _), (SL.nil _), (SL.nil _)⟩)⟩, rfl⟩⟩
     · intro hc2 hM
       refine J_skip <| T_seq <| J_seq <| J_region <| R_d 3 [] [(28, vT text.l), (30, vI (W (y2 + 1)))] ?_
       obtain ⟨⟨y4, y5⟩, hy1, hM⟩ := bind_some hM
       refine R_call (hs1 := []) (rest := [hB b1 [vT y1.Array.l, vS p y1.Subs c], hB b [vT ([]), .slice none 0 0, vI 0, vI 0, .slice none 0 0, vI 0, vT ([]), .slice none 0 0, .slice none 0 0]]) rfl rfl rfl rfl (by kernel_rfl) rfl rfl (spec_l3Parse_ok text (W (y2 + 1)) 5 _ hy1 ) ?_
       rintro imm02 hs2 v2 k2 le2 - ⟨v03, v04, rfl, rfl, ⟨cs1, rfl, h3⟩, rfl⟩ -
       replace h2 := h2.mono le2
       replace hle := hle.trans le2
       obtain ⟨v05, v06, v07, rfl, h5, h6, h7⟩ := impl_Expr_open h3
       obtain ⟨p1, c1, rfl⟩ := h5.form
       obtain ⟨p2, c2, rfl⟩ := h6.form
       obtain ⟨p3, c3, rfl⟩ := h7.form
       refine R_d 7 [] [(32, vA [vI y4.Kind, vI y4.Num, vS p1 y4.Index.Coefs c1, vI y4.Index.Const, vT y4.Read.Array.l, vS p2 y4.Read.Subs c2, vS p3 y4.Kids c3]), (33, vI y5)] <| R_alloc (c := ⟨[vI 0, vI 0, .slice none 0 0, vI 0, vT ([]), .slice none 0 0, .slice none 0 0]⟩) rfl rfl rfl (by kernel_rfl) ?_
       intro b2 hb2
       refine R_sb 0 [vI y4.Kind, vI y4.Num, vS p1 y4.Index.Coefs c1, vI y4.Index.Const, vT y4.Read.Array.l, vS p2 y4.Read.Subs c2, vS p3 y4.Kids c3] [hB b2 [vI y4.Kind, vI y4.Num, vS p1 y4.Index.Coefs c1, vI y4.Index.Const, vT y4.Read.Array.l, vS p2 y4.Read.Subs c2, vS p3 y4.Kids c3], hB b1 [vT y1.Array.l, vS p y1.Subs c], hB b [vT ([]), .slice none 0 0, vI 0, vI 0, .slice none 0 0, vI 0, vT ([]), .slice none 0 0, .slice none 0 0]] rfl rfl rfl rfl <| R_z [] [] <| T_seq <| J_seq <| J_region <| R_d 3 [1, 0] [(36, vA [vT y1.Array.l, vS p y1.Subs c, vI y4.Kind, vI y4.Num, vS p1 y4.Index.Coefs c1, vI y4.Index.Const, vT y4.Read.Array.l, vS p2 y4.Read.Subs c2, vS p3 y4.Kids c3])] <| R_alloc (c := ⟨[vT ([]), .slice none 0 0, vI 0, vI 0, .slice none 0 0, vI 0, vT ([]), .slice none 0 0, .slice none 0 0]⟩) rfl rfl rfl (by kernel_rfl) ?_
       intro b3 hb3
       refine R_sb 0 [vT y1.Array.l, vS p y1.Subs c, vI y4.Kind, vI y4.Num, vS p1 y4.Index.Coefs c1, vI y4.Index.Const, vT y4.Read.Array.l, vS p2 y4.Read.Subs c2, vS p3 y4.Kids c3] [hB b3 [vT y1.Array.l, vS p y1.Subs c, vI y4.Kind, vI y4.Num, vS p1 y4.Index.Coefs c1, vI y4.Index.Const, vT y4.Read.Array.l, vS p2 y4.Read.Subs c2, vS p3 y4.Kids c3], hB b2 [vI y4.Kind, vI y4.Num, vS p1 y4.Index.Coefs c1, vI y4.Index.Const, vT y4.Read.Array.l, vS p2 y4.Read.Subs c2, vS p3 y4.Kids c3], hB b1 [vT y1.Array.l, vS p y1.Subs c], hB b [vT ([]), .slice none 0 0, vI 0, vI 0, .slice none 0 0, vI 0, vT ([]), .slice none 0 0, .slice none 0 0]] rfl rfl rfl rfl <| R_end rfl <| T_seq <| J_seq <| J_seq <| J_region <| R_d 1 [0] [(37, vA [vT y1.Array.l, vS p y1.Subs c, vI y4.Kind, vI y4.Num, vS p1 y4.Index.Coefs c1, vI y4.Index.Const, vT y4.Read.Array.l, vS p2 y4.Read.Subs c2, vS p3 y4.Kids c3])] ?_
       obtain ⟨y6, hy2, hM⟩ := bind_some hM
       refine R_call (hs1 := []) (rest := [hB b3 [vT y1.Array.l, vS p y1.Subs c, vI y4.Kind, vI y4.Num, vS p1 y4.Index.Coefs c1, vI y4.Index.Const, vT y4.Read.Array.l, vS p2 y4.Read.Subs c2, vS p3 y4.Kids c3], hB b2 [vI y4.Kind, vI y4.Num, vS p1 y4.Index.Coefs c1, vI y4.Index.Const, vT y4.Read.Array.l, vS p2 y4.Read.Subs c2, vS p3 y4.Kids c3], hB b1 [vT y1.Array.l, vS p y1.Subs c], hB b [vT ([]), .slice none 0 0, vI 0, vI 0, .slice none 0 0, vI 0, vT ([]), .slice none 0 0, .slice none 0 0]]) rfl rfl rfl rfl (by kernel_rfl) rfl rfl (spec_FormatStmt_ok (impl_Stmt.mk y1 y4) _ hy2 h2 h5 h6 h7) ?_
       rintro imm03 hs2 v2 k2 le3 - ⟨v08, rfl, rfl, rfl⟩ -
       replace h2 := h2.mono le3
       replace h5 := h5.mono le3
       replace h6 := h6.mono le3
       replace h7 := h7.mono le3
       replace hle := hle.trans le3
       refine R_z [] [(40, .bool (!(y6.l == text.l)))] <| T_seq <| J_cd hM ?_ ?_
       · intro hc3 hM
         refine J_seq <| J_region <| R_d 1 [] [(41, vA [vT ([]), .slice none 0 0, vI 0, vI 0, .slice none 0 0, vI 0, vT ([]), .slice none 0 0, .slice none 0 0])] <| R_sb 3 [vT ([]), .slice none 0 0, vI 0, vI 0, .slice none 0 0, vI 0, vT ([]), .slice none 0 0, .slice none 0 0] [hB b3 [vT y1.Array.l, vS p y1.Subs c, vI y4.Kind, vI y4.Num, vS p1 y4.Index.Coefs c1, vI y4.Index.Const, vT y4.Read.Array.l, vS p2 y4.Read.Subs c2, vS p3 y4.Kids c3], hB b2 [vI y4.Kind, vI y4.Num, vS p1 y4.Index.Coefs c1, vI y4.Index.Const, vT y4.Read.Array.l, vS p2 y4.Read.Subs c2, vS p3 y4.Kids c3], hB b1 [vT y1.Array.l, vS p y1.Subs c], hB b [vT ([]), .slice none 0 0, vI 0, vI 0, .slice none 0 0, vI 0, vT ([]), .slice none 0 0, .slice none 0 0]] rfl rfl rfl rfl <| R_z [] [(3, .bool false)] <| T_seq <| J_ret <| T_then_ret ?_
         obtain rfl := pure_some hM
         exact T_RS ⟨_, _, (.cell 3 rfl rfl (by kernel_rfl) (.tmp rfl ResV.nil)), good_none, ⟨_, _, rfl, rfl, ⟨_, rfl, (impl_Stmt_shut ⟨_, _, _, _, rfl, (SL.nil _), (SL.nil _), (SL.nil _), (SL.nil _)⟩)⟩, rfl⟩⟩
       · intro hc3 hM
         refine J_skip <| T_seq <| J_seq <| J_region <| R_d 1 [0] [(42, vA [vT y1.Array.l, vS p y1.Subs c, vI y4.Kind, vI y4.Num, vS p1 y4.Index.Coefs c1, vI y4.Index.Const, vT y4.Read.Array.l, vS p2 y4.Read.Subs c2, vS p3 y4.Kids c3])] <| R_sb 3 [vT y1.Array.l, vS p y1.Subs c, vI y4.Kind, vI y4.Num, vS p1 y4.Index.Coefs c1, vI y4.Index.Const, vT y4.Read.Array.l, vS p2 y4.Read.Subs c2, vS p3 y4.Kids c3] [hB b3 [vT y1.Array.l, vS p y1.Subs c, vI y4.Kind, vI y4.Num, vS p1 y4.Index.Coefs c1, vI y4.Index.Const, vT y4.Read.Array.l, vS p2 y4.Read.Subs c2, vS p3 y4.Kids c3], hB b2 [vI y4.Kind, vI y4.Num, vS p1 y4.Index.Coefs c1, vI y4.Index.Const, vT y4.Read.Array.l, vS p2 y4.Read.Subs c2, vS p3 y4.Kids c3], hB b1 [vT y1.Array.l, vS p y1.Subs c], hB b [vT y1.Array.l, vS p y1.Subs c, vI y4.Kind, vI y4.Num, vS p1 y4.Index.Coefs c1, vI y4.Index.Const, vT y4.Read.Array.l, vS p2 y4.Read.Subs c2, vS p3 y4.Kids c3]] rfl rfl rfl rfl <| R_z [] [(3, .bool true)] <| T_seq <| J_ret ?_
         obtain rfl := pure_some hM
         exact T_RS ⟨_, _, (.cell 3 rfl rfl (by kernel_rfl) (.tmp rfl ResV.nil)), good_none, ⟨_, _, rfl, rfl, ⟨_, rfl, (impl_Stmt_shut ⟨_, _, _, _, rfl, h2, h5, h6, h7⟩)⟩, rfl⟩⟩
end Go.LN
