/- Helper of the proof (see the last text). -/
import Derived.Test.YtbgdegfnaofkfaaLnT
import Derived.Test.YtbgdegfnaofkfaaLnS
import Derived.Test.YtbgdegfnaofkfaaTryShelf
namespace Go.LN
set_option linter.unusedVariables false
set_option linter.unusedSimpArgs false
open Go.Proofs
set_option maxRecDepth 20000
def spec_l16Rd_pick_post (b0 : Nat) (r : Int × spec_l16Rd) : Nat → Imm → List HA → Value → Prop := fun kk imm' hs' v =>
  ∃ (v0 : Value) (k0 : List Value), hs' = [.blk b0 ⟨k0⟩] ∧ v = tupV [v0] ∧ v0 = .int .i64 r.1 ∧ Rp.rep imm' k0 r.2
def M.spec_l16Rd_pick (r0 : spec_l16Rd) (n0 : Int) : Option (Int × spec_l16Rd) := do
 let t24 ← (do
   if (decide (n0 < 1)) then
    pure true
   else
    pure ((r0.b.length : Int) == 0)
     : Option Bool)
 if t24 then
  pure (0, (spec_l16Rd.mk r0.b (W (r0.p + 1))))
 else
  if (decide ((W ((W (r0.p + 1)) - 1)) < (r0.b.length : Int))) then
   let x ← idx r0.b (W ((W (r0.p + 1)) - 1))
   let q ← rem (W (x.toNat : Int)) n0
   pure (q, (spec_l16Rd.mk r0.b (W (r0.p + 1))))
  else
   let q1 ← rem (W ((W (r0.p + 1)) - 1)) (r0.b.length : Int)
   let x1 ← idx r0.b q1
   let q2 ← rem (W ((W ((W ((W (r0.p + 1)) - 1)) * 7)) + 3)) (r0.b.length : Int)
   let x2 ← idx r0.b q2
   let q3 ← quo (W ((W (r0.p + 1)) - 1)) (r0.b.length : Int)
   let q4 ← rem (W (BitVec.ofInt IntKind.i64.bits (W ((W ((W ((W ((W (x1.toNat : Int)) * 131)) + (W ((W (x2.toNat : Int)) * 1117)))) + (W ((W ((W (r0.p + 1)) - 1)) * 29)))) + (W (q3 * 53)))) ^^^ BitVec.ofInt IntKind.i64.bits (W ((W ((W ((W ((W ((W (x1.toNat : Int)) * 131)) + (W ((W (x2.toNat : Int)) * 1117)))) + (W ((W ((W (r0.p + 1)) - 1)) * 29)))) + (W (q3 * 53)))).tdiv 64))).toNat) n0
   pure (q4, (spec_l16Rd.mk r0.b (W (r0.p + 1))))
theorem spec_l16Rd_pick_ok : ∀ (r0 : spec_l16Rd) (n0 : Int) r, M.spec_l16Rd_pick r0 n0 = some r → ∀ {imm : Imm} {r01 : Nat} {p : Option Addr} {c : Nat}, (SL imm (vS p r0.b c) r0.b) → Ret Try.prog 30 [vP r01 0, vI n0] imm [hB r01 [vS p r0.b c, vI r0.p]] (spec_l16Rd_pick_post r01 r) := by
 intro r0 n0 r hM imm r01 p c h
 unfold M.spec_l16Rd_pick at hM
 refine ret_of_J (fn := Try.f30) (c := (bodyOf Try.f30)) Try.func30 rfl rfl ?_
 rintro B - -
 have hle : imm.le imm := Imm.le.refl _
 refine J_seq <| J_region <| R_z [] [] <| T_seq <| J_seq <| J_region <| R_d 8 [0] [(12, vI (W (r0.p + 1))), (14, vP r01 1)] <| R_sb 0 [vS p r0.b c, vI (W (r0.p + 1))] [hB r01 [vS p r0.b c, vI (W (r0.p + 1))]] rfl rfl rfl rfl <| R_end rfl <| T_seq <| J_seq <| J_seq ?_
 obtain ⟨o0, ho0, hM⟩ := bind_some hM
 refine J_cut (fun imm' hs' m' => ∃ (t24 : Bool), o0 = t24 ∧ imm.le imm' ∧ hs' = [hB r01 [vS p r0.b c, vI (W (r0.p + 1))]] ∧ m' = [(0, vP r01 0), (1, vI n0), (24, .bool t24)]) ?_ ?_
 · have hle0 := hle
   have hle : imm.le imm := Imm.le.refl _
   refine J_region <| R_d 3 [] [(17, .bool (decide (n0 < 1)))] ?_
   cases hc : (decide (n0 < 1)) with
   | true =>
    have hM0 := if_some_true hc ho0
    try rw [hc]
    exact R_z [] [(24, .bool true)] <| T_w [(0, vP r01 0), (1, vI n0), (24, .bool true)] <| T_cut ⟨_, (pure_some hM0).symm, hle, rfl, rfl⟩
   | false =>
    have hM01 := if_some_false hc ho0
    try rw [hc]
    exact R_z [0] [(24, .bool ((r0.b.length : Int) == 0))] <| T_w [(0, vP r01 0), (1, vI n0), (24, .bool ((r0.b.length : Int) == 0))] <| T_cut ⟨_, (pure_some hM01).symm, hle, rfl, rfl⟩
 · rintro imm0 hs2 m2 ⟨t24, heq, le, rfl, rfl⟩
   subst o0
   replace h := h.mono le
   replace hle := hle.trans le
   refine T_seq <| J_cd hM ?_ ?_
   · intro hc1 hM
     refine J_seq <| J_region <| R_z [] [(4, vI 0)] <| T_seq <| J_ret <| T_then_ret ?_
     obtain rfl := pure_some hM
     exact T_RS ⟨_, _, (.tmp rfl ResV.nil), (good_pick [0] rfl (by decide)), ⟨_, _, rfl, rfl, rfl, (spec_l16Rd_shut ⟨_, rfl, h⟩)⟩⟩
   · intro hc1 hM
     refine J_skip <| T_seq <| J_seq <| J_region <| R_z [0] [(5, vI (W ((W (r0.p + 1)) - 1)))] <| T_seq <| J_seq <| J_seq <| J_region <| R_z [0] [(36, .bool (decide ((W ((W (r0.p + 1)) - 1)) < (r0.b.length : Int))))] <| T_seq <| J_cd hM ?_ ?_
     · intro hc2 hM
       refine J_seq <| J_region <| R_d 5 [0] [(40, vS p r0.b c), (41, vI (W ((W (r0.p + 1)) - 1)))] ?_
       obtain ⟨x, hy, hM⟩ := bind_some hM
       refine R_ix rfl rfl h hy ?_
       intro ad ccs hat hrep
       obtain rfl := hrep
       refine R_la 0 hat [.int .u8 (x.toNat : Int)] (.int .u8 (x.toNat : Int)) rfl <| R_d 9 [] [(44, vI (W (x.toNat : Int))), (45, vI n0)] ?_
       obtain ⟨q, hy1, hM⟩ := bind_some hM
       refine R_re rfl hy1 <| R_z [] [(4, vI q)] <| T_seq <| J_ret <| T_then_ret ?_
       obtain rfl := pure_some hM
       exact T_RS ⟨_, _, (.tmp rfl ResV.nil), (good_pick [0] rfl (by decide)), ⟨_, _, rfl, rfl, rfl, (spec_l16Rd_shut ⟨_, rfl, h⟩)⟩⟩
     · intro hc2 hM
       refine J_skip <| T_seq <| J_seq <| J_region_q (by kernel_rfl) (by kernel_rfl) <| Rq_d 10 [0, 0] [(50, vS p r0.b c), (51, vI (W ((W (r0.p + 1)) - 1))), (56, vI (r0.b.length : Int))] ?_
       obtain ⟨q1, hy2, hM⟩ := bind_some hM
       refine Rq_re rfl hy2 ?_
       obtain ⟨x1, hy3, hM⟩ := bind_some hM
       refine Rq_ix rfl rfl h hy3 ?_
       intro ad1 ccs1 hat1 hrep1
       obtain rfl := hrep1
       refine Rq_la 0 hat1 [.int .u8 (x1.toNat : Int)] (.int .u8 (x1.toNat : Int)) rfl <| Rq_d 27 [0, 0] [(61, vI (W ((W (x1.toNat : Int)) * 131))), (65, vS p r0.b c), (68, vI (W ((W ((W ((W (r0.p + 1)) - 1)) * 7)) + 3))), (73, vI (r0.b.length : Int))] ?_
       obtain ⟨q2, hy4, hM⟩ := bind_some hM
       refine Rq_re rfl hy4 ?_
       obtain ⟨x2, hy5, hM⟩ := bind_some hM
       refine Rq_ix rfl rfl h hy5 ?_
       intro ad2 ccs2 hat2 hrep2
       obtain rfl := hrep2
       refine Rq_la 0 hat2 [.int .u8 (x2.toNat : Int)] (.int .u8 (x2.toNat : Int)) rfl <| Rq_d 42 [0] [(82, vI (W ((W ((W ((W (x1.toNat : Int)) * 131)) + (W ((W (x2.toNat : Int)) * 1117)))) + (W ((W ((W (r0.p + 1)) - 1)) * 29))))), (83, vI (W ((W (r0.p + 1)) - 1))), (88, vI (r0.b.length : Int))] ?_
       obtain ⟨q3, hy6, hM⟩ := bind_some hM
       refine Rq_qu rfl hy6 <| Rq_z [] [(6, vI (W ((W ((W ((W ((W (x1.toNat : Int)) * 131)) + (W ((W (x2.toNat : Int)) * 1117)))) + (W ((W ((W (r0.p + 1)) - 1)) * 29)))) + (W (q3 * 53)))))] <| T_seq <| J_seq <| J_region <| R_z [] [(6, vI (W (BitVec.ofInt IntKind.i64.bits (W ((W ((W ((W ((W (x1.toNat : Int)) * 131)) + (W ((W (x2.toNat : Int)) * 1117)))) + (W ((W ((W (r0.p + 1)) - 1)) * 29)))) + (W (q3 * 53)))) ^^^ BitVec.ofInt IntKind.i64.bits (W ((W ((W ((W ((W ((W (x1.toNat : Int)) * 131)) + (W ((W (x2.toNat : Int)) * 1117)))) + (W ((W ((W (r0.p + 1)) - 1)) * 29)))) + (W (q3 * 53)))).tdiv 64))).toNat))] <| T_seq <| J_seq <| J_region <| R_d 2 [] [(96, vI (W (BitVec.ofInt IntKind.i64.bits (W ((W ((W ((W ((W (x1.toNat : Int)) * 131)) + (W ((W (x2.toNat : Int)) * 1117)))) + (W ((W ((W (r0.p + 1)) - 1)) * 29)))) + (W (q3 * 53)))) ^^^ BitVec.ofInt IntKind.i64.bits (W ((W ((W ((W ((W ((W (x1.toNat : Int)) * 131)) + (W ((W (x2.toNat : Int)) * 1117)))) + (W ((W ((W (r0.p + 1)) - 1)) * 29)))) + (W (q3 * 53)))).tdiv 64))).toNat)), (97, vI n0)] ?_
       obtain ⟨q4, hy7, hM⟩ := bind_some hM
       refine R_re rfl hy7 <| R_z [] [(4, vI q4)] <| T_seq <| J_ret ?_
       obtain rfl := pure_some hM
       exact T_RS ⟨_, _, (.tmp rfl ResV.nil), (good_pick [0] rfl (by decide)), ⟨_, _, rfl, rfl, rfl, (spec_l16Rd_shut ⟨_, rfl, h⟩)⟩⟩
def spec_l4Arrays_post (r : Bool) : Nat → Imm → List HA → Value → Prop := fun kk imm' hs' v =>
  ∃ (v0 : Value), hs' = [] ∧ v = tupV [v0] ∧ v0 = .bool r
def M.spec_l4Arrays_l2 (x : impl_Array) (k0 : Int) : Option (Out Unit (Bool)) := do
 if (decide (k0 < (x.Dims.length : Int))) then
  let t77 ← (do
    let x2 ← idx x.Dims k0
    if (decide (x2 < 1)) then
     pure true
    else
     let x3 ← idx x.Dims k0
     pure (decide (x3 > 6))
      : Option Bool)
  if t77 then
   pure (.ret false)
  else
   M.spec_l4Arrays_l2 x (W (k0 + 1))
 else
  pure (.done ())
 partial_fixpoint
theorem spec_l4Arrays_l2_ok (x : impl_Array) : ∀ (k0 : Int) (o : Out Unit (Bool)), M.spec_l4Arrays_l2 x k0 = some o → ∀ {B : Base} {imm0 imm : Imm} {Q : Exit → Act → World → Prop} {list : (List impl_Array)} {i : Int} {p : Option Addr} {c : Nat} {p1 : Option Addr} {c1 : Nat} {b : Nat}, imm0.le imm → (SL imm (vS p list c) list) → (SL imm (vS p1 x.Dims c1) x.Dims) → (∀ l a w, ¬ Q (.goto l) a w) → (∀ a w, ¬ Q .outgrown a w) → (∀ (imm' : Imm) , o = (.done ()) → imm0.le imm' → T 81 B Q (.exit 2) imm' [] [(0, vS p list c), (3, vI i)]) → (∀ r imm' hs' m', o = (.ret r) → imm0.le imm' → RS Try.prog Try.f40 B (spec_l4Arrays_post  r) imm' hs' m' → T 81 B Q .ret imm' hs' m') → J Try.prog 81 B (nav (bodyOf Try.f40) [1, 0, 1, 0, 0, 1, 0, 0, 1, 1, 1, 0]) Q imm [hB b [vT x.Name.l, vS p1 x.Dims c1]] [(0, vS p list c), (3, vI i), (4, vP b 0), (5, vI k0)] := by
 refine M.spec_l4Arrays_l2.partial_correctness x _ ?_
 intro self ih k0 o hM B imm0 imm Q list i p c p1 c1 b hle h h1 hg ho hx hr
 refine J_loop hg ho <| J_seq <| J_seq <| J_region <| R_z [0] [(61, .bool (decide (k0 < (x.Dims.length : Int))))] <| T_seq <| J_cd hM ?_ ?_
 · intro hc9 hM
   refine J_skip <| T_seq <| J_seq <| J_block <| J_seq ?_
   obtain ⟨o01, ho01, hM⟩ := bind_some hM
   refine J_cut (fun imm' hs' m' => ∃ (t77 : Bool), o01 = t77 ∧ imm.le imm' ∧ hs' = [hB b [vT x.Name.l, vS p1 x.Dims c1]] ∧ m' = [(0, vS p list c), (3, vI i), (4, vP b 0), (5, vI k0), (77, .bool t77)]) ?_ ?_
   · have hle0 := hle
     have hle : imm.le imm := Imm.le.refl _
     refine J_region <| R_d 3 [0] [(65, vS p1 x.Dims c1), (66, vI k0)] ?_
     obtain ⟨x2, hy2, hM⟩ := bind_some ho01
     refine R_ix rfl rfl h1 hy2 ?_
     intro ad2 ccs2 hat2 hrep2
     obtain rfl := hrep2
     refine R_la 0 hat2 [vI x2] (vI x2) rfl <| R_d 7 [] [(70, .bool (decide (x2 < 1)))] ?_
     cases hc10 : (decide (x2 < 1)) with
     | true =>
      have hM014 := if_some_true hc10 hM
      try rw [hc10]
      exact R_z [] [(77, .bool true)] <| T_w [(0, vS p list c), (3, vI i), (4, vP b 0), (5, vI k0), (77, .bool true)] <| T_cut ⟨_, (pure_some hM014).symm, hle, rfl, rfl⟩
     | false =>
      have hM015 := if_some_false hc10 hM
      try rw [hc10]
      refine R_d 10 [0] [(72, vS p1 x.Dims c1), (73, vI k0)] ?_
      obtain ⟨x3, hy3, hM⟩ := bind_some hM015
      refine R_ix rfl rfl h1 hy3 ?_
      intro ad3 ccs3 hat3 hrep3
      obtain rfl := hrep3
      exact R_la 0 hat3 [vI x3] (vI x3) rfl <| R_z [] [(77, .bool (decide (x3 > 6)))] <| T_w [(0, vS p list c), (3, vI i), (4, vP b 0), (5, vI k0), (77, .bool (decide (x3 > 6)))] <| T_cut ⟨_, (pure_some hM).symm, hle, rfl, rfl⟩
   · rintro imm01 hs2 m2 ⟨t77, heq1, le1, rfl, rfl⟩
     subst o01
     replace h := h.mono le1
     replace h1 := h1.mono le1
     replace hle := hle.trans le1
     refine T_seq <| J_cd hM ?_ ?_
     · intro hc11 hM
       exact J_seq <| J_region <| R_z [] [(2, .bool false)] <| T_seq <| J_ret <| T_block_ret <| T_then_ret <| T_then_ret <| hr _ _ _ _ (pure_some hM).symm hle ⟨_, _, (.tmp rfl ResV.nil), good_none, ⟨_, rfl, rfl, rfl⟩⟩
     · intro hc11 hM
       exact J_skip <| T_block_normal <| T_seq <| J_region <| R_z [] [(5, vI (W (k0 + 1)))] <| T_loop <| J_w [(0, vS p list c), (3, vI i), (4, vP b 0), (5, vI (W (k0 + 1)))] <| ih (W (k0 + 1)) _ hM hle h h1 hg ho hx hr
 · intro hc9 hM
   exact J_exit <| T_then_exit <| T_then_exit <| T_hs (good_pick [] rfl (by decide)) <| T_w [(0, vS p list c), (3, vI i)] <| hx _  (pure_some hM).symm hle
def M.spec_l4Arrays_l1 (list : (List impl_Array)) (i : Int) : Option (Out Unit (Bool)) := do
 if (decide (i < (list.length : Int))) then
  let x ← idx list i
  let t56 ← (do
    if ((x.Name.l.length : Int) != 1) then
     pure true
    else
     if (Op.bytesLess x.Name.l ([65] : List UInt8)) then
      pure true
     else
      if (!(Op.bytesLess x.Name.l ([68] : List UInt8) || x.Name.l == ([68] : List UInt8))) then
       pure true
      else
       if (decide (i > 0)) then
        let x1 ← idx list (W (i - 1))
        if (!(Op.bytesLess x1.Name.l x.Name.l)) then
         pure true
        else
         if (decide ((x.Dims.length : Int) < 1)) then
          pure true
         else
          pure (decide ((x.Dims.length : Int) > 2))
       else
        if (decide ((x.Dims.length : Int) < 1)) then
         pure true
        else
         pure (decide ((x.Dims.length : Int) > 2))
      : Option Bool)
  if t56 then
   pure (.ret false)
  else
   match ← M.spec_l4Arrays_l2 x 0 with
   | .ret r0 => pure (.ret r0)
   | .done _ =>
    M.spec_l4Arrays_l1 list (W (i + 1))
 else
  pure (.done ())
 partial_fixpoint
theorem spec_l4Arrays_l1_ok (list : (List impl_Array)) : ∀ (i : Int) (o : Out Unit (Bool)), M.spec_l4Arrays_l1 list i = some o → ∀ {B : Base} {imm0 imm : Imm} {Q : Exit → Act → World → Prop}  {p : Option Addr} {c : Nat}, imm0.le imm → (SL imm (vS p list c) list) → (∀ l a w, ¬ Q (.goto l) a w) → (∀ a w, ¬ Q .outgrown a w) → (∀ (imm' : Imm) , o = (.done ()) → imm0.le imm' → T 81 B Q (.exit 0) imm' [] [(0, vS p list c)]) → (∀ r imm' hs' m', o = (.ret r) → imm0.le imm' → RS Try.prog Try.f40 B (spec_l4Arrays_post  r) imm' hs' m' → T 81 B Q .ret imm' hs' m') → J Try.prog 81 B (nav (bodyOf Try.f40) [1, 0, 1, 0]) Q imm [] [(0, vS p list c), (3, vI i)] := by
 refine M.spec_l4Arrays_l1.partial_correctness list _ ?_
 intro self ih i o hM B imm0 imm Q p c hle h hg ho hx hr
 refine J_loop hg ho <| J_seq <| J_seq <| J_region <| R_z [] [(9, .bool (decide (i < (list.length : Int))))] <| T_seq <| J_cd hM ?_ ?_
 · intro hc hM
   refine J_skip <| T_seq <| J_seq <| J_block <| J_seq <| J_region <| R_d 2 [] [(12, vS p list c), (13, vI i)] ?_
   obtain ⟨x, hy, hM⟩ := bind_some hM
   refine R_ix rfl rfl h hy ?_
   intro ad ccs hat hrep
   obtain ⟨v0, rfl, h1⟩ := impl_Array_open hrep
   obtain ⟨p1, c1, rfl⟩ := h1.form
   refine R_la 0 hat [vT x.Name.l, vS p1 x.Dims c1] (vA [vT x.Name.l, vS p1 x.Dims c1]) rfl <| R_alloc (c := ⟨[vT ([]), .slice none 0 0]⟩) rfl rfl rfl (by kernel_rfl) ?_
   intro b hb
   refine R_sb 0 [vT x.Name.l, vS p1 x.Dims c1] [hB b [vT x.Name.l, vS p1 x.Dims c1]] rfl rfl rfl rfl <| R_end rfl <| T_seq <| J_seq <| J_seq ?_
   obtain ⟨o0, ho0, hM⟩ := bind_some hM
   refine J_cut (fun imm' hs' m' => ∃ (t56 : Bool), o0 = t56 ∧ imm.le imm' ∧ hs' = [hB b [vT x.Name.l, vS p1 x.Dims c1]] ∧ m' = [(0, vS p list c), (3, vI i), (4, vP b 0), (56, .bool t56)]) ?_ ?_
   · have hle0 := hle
     have hle : imm.le imm := Imm.le.refl _
     refine J_region_q (by kernel_rfl) (by kernel_rfl) <| Rq_d 5 [0] [(20, .bool ((x.Name.l.length : Int) != 1))] ?_
     cases hc1 : ((x.Name.l.length : Int) != 1) with
     | true =>
      have hM0 := if_some_true hc1 ho0
      try rw [hc1]
      exact Rq_z [] [(56, .bool true)] <| T_w [(0, vS p list c), (3, vI i), (4, vP b 0), (56, .bool true)] <| T_cut ⟨_, (pure_some hM0).symm, hle, rfl, rfl⟩
     | false =>
      have hM01 := if_some_false hc1 ho0
      try rw [hc1]
      refine Rq_d 10 [0] [(25, .bool (Op.bytesLess x.Name.l ([65] : List UInt8)))] ?_
      cases hc2 : (Op.bytesLess x.Name.l ([65] : List UInt8)) with
      | true =>
       have hM02 := if_some_true hc2 hM01
       try rw [hc2]
       exact Rq_z [] [(56, .bool true)] <| T_w [(0, vS p list c), (3, vI i), (4, vP b 0), (56, .bool true)] <| T_cut ⟨_, (pure_some hM02).symm, hle, rfl, rfl⟩
      | false =>
       have hM03 := if_some_false hc2 hM01
       try rw [hc2]
       refine Rq_d 15 [0] [(30, .bool (!(Op.bytesLess x.Name.l ([68] : List UInt8) || x.Name.l == ([68] : List UInt8))))] ?_
       cases hc3 : (!(Op.bytesLess x.Name.l ([68] : List UInt8) || x.Name.l == ([68] : List UInt8))) with
       | true =>
        have hM04 := if_some_true hc3 hM03
        try rw [hc3]
        exact Rq_z [] [(56, .bool true)] <| T_w [(0, vS p list c), (3, vI i), (4, vP b 0), (56, .bool true)] <| T_cut ⟨_, (pure_some hM04).symm, hle, rfl, rfl⟩
       | false =>
        have hM05 := if_some_false hc3 hM03
        try rw [hc3]
        refine Rq_d 18 [] [(33, .bool (decide (i > 0)))] ?_
        cases hc4 : (decide (i > 0)) with
        | true =>
         have hM06 := if_some_true hc4 hM05
         try rw [hc4]
         refine Rq_d 21 [] [(34, vS p list c), (36, vI (W (i - 1)))] ?_
         obtain ⟨x1, hy1, hM⟩ := bind_some hM06
         refine Rq_ix rfl rfl h hy1 ?_
         intro ad1 ccs1 hat1 hrep1
         obtain ⟨v01, rfl, h2⟩ := impl_Array_open hrep1
         obtain ⟨p2, c2, rfl⟩ := h2.form
         refine Rq_d 23 [] [(38, .pointer (some ad1))] <| Rq_la 0 hat1 [vT x1.Name.l] (vT x1.Name.l) rfl <| Rq_d 30 [0] [(45, .bool (!(Op.bytesLess x1.Name.l x.Name.l)))] ?_
         cases hc5 : (!(Op.bytesLess x1.Name.l x.Name.l)) with
         | true =>
          have hM07 := if_some_true hc5 hM
          try rw [hc5]
          exact Rq_z [] [(56, .bool true)] <| T_w [(0, vS p list c), (3, vI i), (4, vP b 0), (56, .bool true)] <| T_cut ⟨_, (pure_some hM07).symm, hle, rfl, rfl⟩
         | false =>
          have hM08 := if_some_false hc5 hM
          try rw [hc5]
          refine Rq_d 36 [0] [(51, .bool (decide ((x.Dims.length : Int) < 1)))] ?_
          cases hc6 : (decide ((x.Dims.length : Int) < 1)) with
          | true =>
           have hM09 := if_some_true hc6 hM08
           try rw [hc6]
           exact Rq_z [] [(56, .bool true)] <| T_w [(0, vS p list c), (3, vI i), (4, vP b 0), (56, .bool true)] <| T_cut ⟨_, (pure_some hM09).symm, hle, rfl, rfl⟩
          | false =>
           have hM010 := if_some_false hc6 hM08
           try rw [hc6]
           exact Rq_z [0] [(56, .bool (decide ((x.Dims.length : Int) > 2)))] <| T_w [(0, vS p list c), (3, vI i), (4, vP b 0), (56, .bool (decide ((x.Dims.length : Int) > 2)))] <| T_cut ⟨_, (pure_some hM010).symm, hle, rfl, rfl⟩
        | false =>
         have hM011 := if_some_false hc4 hM05
         try rw [hc4]
         refine Rq_d 36 [0] [(51, .bool (decide ((x.Dims.length : Int) < 1)))] ?_
         cases hc7 : (decide ((x.Dims.length : Int) < 1)) with
         | true =>
          have hM012 := if_some_true hc7 hM011
          try rw [hc7]
          exact Rq_z [] [(56, .bool true)] <| T_w [(0, vS p list c), (3, vI i), (4, vP b 0), (56, .bool true)] <| T_cut ⟨_, (pure_some hM012).symm, hle, rfl, rfl⟩
         | false =>
          have hM013 := if_some_false hc7 hM011
          try rw [hc7]
          exact Rq_z [0] [(56, .bool (decide ((x.Dims.length : Int) > 2)))] <| T_w [(0, vS p list c), (3, vI i), (4, vP b 0), (56, .bool (decide ((x.Dims.length : Int) > 2)))] <| T_cut ⟨_, (pure_some hM013).symm, hle, rfl, rfl⟩
   · rintro imm0 hs2 m2 ⟨t56, heq, le, rfl, rfl⟩
     subst o0
     replace h := h.mono le
     replace h1 := h1.mono le
     replace hle := hle.trans le
     refine T_seq <| J_cd hM ?_ ?_
     · intro hc8 hM
       exact J_seq <| J_region <| R_z [] [(2, .bool false)] <| T_seq <| J_ret <| T_then_ret <| T_block_ret <| T_then_ret <| T_then_ret <| hr _ _ _ _ (pure_some hM).symm hle ⟨_, _, (.tmp rfl ResV.nil), good_none, ⟨_, rfl, rfl, rfl⟩⟩
     · intro hc8 hM
       refine J_skip <| T_seq <| J_seq <| J_region <| R_z [] [(5, vI 0)] <| T_seq <| J_block <| J_w [(0, vS p list c), (3, vI i), (4, vP b 0), (5, vI 0)] ?_
       obtain ⟨o02, ho02, hM⟩ := bind_some hM
       refine spec_l4Arrays_l2_ok x 0 o02 ho02 (Imm.le.refl _) h h1 (fun _ _ _ h => hg _ _ _ h) (fun _ _ h => ho _ _ h) ?_ ?_
       · intro imm02  heq2 le2
         subst o02
         replace h := h.mono le2
         replace hle := hle.trans le2
         exact T_block_here <| T_block_normal <| T_seq <| J_region <| R_z [] [(3, vI (W (i + 1)))] <| T_loop <| J_w [(0, vS p list c), (3, vI (W (i + 1)))] <| ih (W (i + 1)) _ hM hle h hg ho hx hr
       · intro r0 imm9 hs9 m9 heq9 le9 hrs9
         subst heq9
         exact T_block_ret <| T_block_ret <| T_then_ret <| T_then_ret <| hr _ _ _ _ (pure_some hM).symm (hle.trans le9) hrs9
 · intro hc hM
   exact J_exit <| T_then_exit <| T_then_exit <| T_w [(0, vS p list c)] <| hx _  (pure_some hM).symm hle
def M.spec_l4Arrays (list : (List impl_Array)) : Option (Bool) := do
 match ← M.spec_l4Arrays_l1 list 0 with
 | .ret r0 => pure r0
 | .done _ =>
  pure (decide ((list.length : Int) ≤ 4))
theorem spec_l4Arrays_ok : ∀ (list : (List impl_Array)) r, M.spec_l4Arrays list = some r → ∀ {imm : Imm} {p : Option Addr} {c : Nat}, (SL imm (vS p list c) list) → Ret Try.prog 40 [vS p list c] imm [] (spec_l4Arrays_post  r) := by
 intro list r hM imm p c h
 unfold M.spec_l4Arrays at hM
 refine ret_of_J (fn := Try.f40) (c := (bodyOf Try.f40)) Try.func40 rfl rfl ?_
 rintro B - -
 have hle : imm.le imm := Imm.le.refl _
 refine J_seq <| J_region <| R_z [] [] <| T_seq <| J_seq <| J_seq <| J_region <| R_z [] [(3, vI 0)] <| T_seq <| J_block <| J_w [(0, vS p list c), (3, vI 0)] ?_
 obtain ⟨o03, ho03, hM⟩ := bind_some hM
 refine spec_l4Arrays_l1_ok list 0 o03 ho03 (Imm.le.refl _) h (fun _ _ _ h => h) (fun _ _ h => h) ?_ ?_
 · intro imm03  heq3 le3
   subst o03
   replace h := h.mono le3
   replace hle := hle.trans le3
   refine T_block_here <| T_seq <| J_seq <| J_region <| R_z [] [(2, .bool (decide ((list.length : Int) ≤ 4)))] <| T_seq <| J_ret ?_
   obtain rfl := pure_some hM
   exact T_RS ⟨_, _, (.tmp rfl ResV.nil), good_none, ⟨_, rfl, rfl, rfl⟩⟩
 · intro r0 imm9 hs9 m9 heq9 le9 hrs9
   subst heq9
   refine T_block_ret <| T_then_ret ?_
   obtain rfl := pure_some hM
   exact T_RS hrs9
def spec_l3CopyAffine_post (r : impl_Affine) : Nat → Imm → List HA → Value → Prop := fun kk imm' hs' v =>
  ∃ (v0 : Value), hs' = [] ∧ v = tupV [v0] ∧ (∃ cs, v0 = .agg ⟨cs⟩ ∧ Rp.rep imm' cs r)
def M.spec_l3CopyAffine (a0 : impl_Affine) : Option (impl_Affine) := do
 if ((a0.Coefs.length : Int) == 0) then
  pure (impl_Affine.mk ([] : List Int) a0.Const)
 else
  let l ← app 8 ([] : List Int) a0.Coefs
  pure (impl_Affine.mk l a0.Const)
theorem spec_l3CopyAffine_ok : ∀ (a0 : impl_Affine) r, M.spec_l3CopyAffine a0 = some r → ∀ {imm : Imm} {p : Option Addr} {c : Nat}, (SL imm (vS p a0.Coefs c) a0.Coefs) → Ret Try.prog 93 [vA [vS p a0.Coefs c, vI a0.Const]] imm [] (spec_l3CopyAffine_post  r) := by
 intro a0 r hM imm p c h
 unfold M.spec_l3CopyAffine at hM
 refine ret_of_J (fn := Try.f93) (c := (bodyOf Try.f93)) Try.func93 rfl rfl ?_
 rintro B - -
 have hle : imm.le imm := Imm.le.refl _
 refine J_seq <| J_region <| R_box (c := ⟨[vS p a0.Coefs c, vI a0.Const]⟩) rfl rfl rfl rfl rfl ?_
 intro b hb
 refine R_alloc (c := ⟨[.slice none 0 0, vI 0]⟩) rfl rfl rfl (by kernel_rfl) ?_
 intro b1 hb1
 refine R_end rfl <| T_seq <| J_seq <| J_seq <| J_region <| R_z [1] [(6, .bool ((a0.Coefs.length : Int) == 0))] <| T_seq <| J_cd hM ?_ ?_
 · intro hc hM
   refine J_seq <| J_region <| R_d 3 [1] [(9, vA [.slice none 0 0, vI a0.Const])] <| R_sb 0 [.slice none 0 0, vI a0.Const] [hB b1 [.slice none 0 0, vI a0.Const], hB b [vS p a0.Coefs c, vI a0.Const]] rfl rfl rfl rfl <| R_end rfl <| T_seq <| J_ret <| T_then_ret ?_
   obtain rfl := pure_some hM
   exact T_RS ⟨_, _, (.cell 0 rfl rfl (by kernel_rfl) ResV.nil), good_none, ⟨_, rfl, rfl, ⟨_, rfl, (impl_Affine_shut ⟨_, rfl, (SL.nil _)⟩)⟩⟩⟩
 · intro hc hM
   refine J_skip <| T_seq <| J_seq ?_
   obtain ⟨l, hy, hM⟩ := bind_some hM
   refine J_any [.x (fun imm' v hx => ∃ (b2 : Nat), v = vS (some ⟨b2, 0, none⟩) ([] : List Int) 0 ∧ hx = [hO Int (vS (some ⟨b2, 0, none⟩) ([] : List Int) 0) []] ∧ (RL imm' [] ([] : List Int))), .p (vP b 0) [], .p (vS p a0.Coefs c) [1], .x (fun imm' v hx => ∃ (p1 : Option Addr) (c1 : Nat) (cs : List Value), v = vS p1 l c1 ∧ hx = [hO Int (vS p1 l c1) cs] ∧ (RL imm' cs l)), .p (vP b 1) [], .p (vI a0.Const) [1], .x (fun imm' v hx => ∃ (p11 : Option Addr) (c11 : Nat) (cs1 : List Value), v = vA [vS p11 l c11, vI a0.Const] ∧ hx = [hO Int (vS p11 l c11) cs1] ∧ (RL imm' cs1 l))] [[], [], [(1, false)], [(0, true), (2, false)], [], [(4, false)], [(3, true), (5, false)]] [hB b1 [.slice none 0 0, vI 0], hB b [vS p a0.Coefs c, vI a0.Const]] [] [(6, true)] (good_pick [0, 1] rfl (by decide)) ?_ ?_
   · refine Ox ?_ <| Op <| Op <| Ox ?_ <| Op <| Op <| Ox ?_ <| On
     · intro imm1 hf le1
       refine Ins_nil <| R_isw (hB b1 [.slice none 0 0, vI 0] :: hB b [vS p a0.Coefs c, vI a0.Const] :: hf) [] ?_
       have hle := Imm.le.refl imm1
       refine R_buildSlice (cs := []) (Rp.sz Int) rfl rfl rfl rfl (by kernel_rfl) (by kernel_rfl) ?_
       intro b2 hb2
       have h1 : RL imm1 [] ([] : List Int) := rfl
       exact R_out (hx := [hO Int (vS (some ⟨b2, 0, none⟩) ([] : List Int) 0) []]) rfl hle rfl (out_some rfl) ⟨_, rfl, rfl, h1⟩
     · intro imm1 hf le1
       refine Ins_cons ?_
       rintro _ _ ⟨b2, rfl, rfl, h1⟩
       refine Ins_cons ?_
       rintro _ _ ⟨rfl, rfl⟩
       refine Ins_nil <| R_isw (hO Int (vS (some ⟨b2, 0, none⟩) ([] : List Int) 0) [] :: hB b1 [.slice none 0 0, vI 0] :: hB b [vS p a0.Coefs c, vI a0.Const] :: hf) [(10, vS (some ⟨b2, 0, none⟩) ([] : List Int) 0), (12, vS p a0.Coefs c)] ?_
       have hle := Imm.le.refl imm1
       replace h := h.mono le1
       obtain ⟨ccs, k0, k01⟩ := h
       have h : SL imm1 (vS p a0.Coefs c) a0.Coefs := ⟨_, k0, k01⟩
       refine R_ap 3 1 0 rfl rfl rfl h1 (.inl k0) k01 hy ?_
       intro p1 c1 cs h2
       exact R_hseq (hs' := (hO Int (vS p1 l c1) cs :: hB b1 [.slice none 0 0, vI 0] :: hB b [vS p a0.Coefs c, vI a0.Const] :: hf)) rfl <| R_out (hx := [hO Int (vS p1 l c1) cs]) rfl hle rfl (out_some rfl) ⟨_, _, _, rfl, rfl, h2⟩
     · intro imm1 hf le1
       refine Ins_cons ?_
       rintro _ _ ⟨p1, c1, cs, rfl, rfl, h2⟩
       refine Ins_cons ?_
       rintro _ _ ⟨rfl, rfl⟩
       refine Ins_nil <| R_isw (hO Int (vS p1 l c1) cs :: hB b1 [.slice none 0 0, vI 0] :: hB b [vS p a0.Coefs c, vI a0.Const] :: hf) [(13, vS p1 l c1), (15, vI a0.Const)] ?_
       have hle := Imm.le.refl imm1
       exact R_p 7 [(16, vA [vS p1 l c1, vI a0.Const])] <| R_out (hx := [hO Int (vS p1 l c1) cs]) rfl hle rfl (out_some rfl) ⟨_, _, _, rfl, rfl, h2⟩
   · intro imm0 le
     refine Ins_cons ?_
     rintro _ _ ⟨p11, c11, cs1, rfl, rfl, h21⟩
     refine Ins_nil <| R_isw [hO Int (vS p11 l c11) cs1, hB b1 [.slice none 0 0, vI 0], hB b [vS p a0.Coefs c, vI a0.Const]] [(2, vP b1 0), (16, vA [vS p11 l c11, vI a0.Const])] ?_
     replace h := h.mono le
     replace hle := hle.trans le
     refine R_sb 1 [vS p11 l c11, vI a0.Const] [hO Int (vS p11 l c11) cs1, hB b1 [vS p11 l c11, vI a0.Const], hB b [vS p a0.Coefs c, vI a0.Const]] rfl rfl rfl rfl <| R_end rfl <| T_seq <| J_ret <| T_freeze 0 rfl ?_
     intro imm01 le1 hl0
     have h3 := SL.of_frozen hl0 le1 h21
     replace h := h.mono le1
     replace hle := hle.trans le1
     obtain rfl := pure_some hM
     exact T_RS ⟨_, _, (.cell 0 rfl rfl (by kernel_rfl) ResV.nil), good_none, ⟨_, rfl, rfl, ⟨_, rfl, (impl_Affine_shut ⟨_, rfl, h3⟩)⟩⟩⟩
def spec_l3CopyAccess_post (r : impl_Access) : Nat → Imm → List HA → Value → Prop := fun kk imm' hs' v =>
  ∃ (v0 : Value), hs' = [] ∧ v = tupV [v0] ∧ (∃ cs, v0 = .agg ⟨cs⟩ ∧ Rp.rep imm' cs r)
def M.spec_l3CopyAccess_l1 (a0 : impl_Access) (i : Int) (Subs : List impl_Affine) : Option (List impl_Affine) := do
 if (decide (i < (a0.Subs.length : Int))) then
  let x ← idx a0.Subs i
  let y ← M.spec_l3CopyAffine x
  let l ← app 32 Subs ([y] : List impl_Affine)
  M.spec_l3CopyAccess_l1 a0 (W (i + 1)) l
 else
  pure (id Subs)
 partial_fixpoint
theorem spec_l3CopyAccess_l1_ok (a0 : impl_Access) : ∀ (i : Int) (Subs : List impl_Affine) (o : List impl_Affine), M.spec_l3CopyAccess_l1 a0 i Subs = some o → ∀ {B : Base} {imm0 imm : Imm} {Q : Exit → Act → World → Prop}  {p : Option Addr} {c : Nat} {b : Nat} {b1 : Nat} {b2 : Nat} {p1 : Option Addr} {c1 : Nat} {cs : List Value}, imm0.le imm → (SL imm (vS p a0.Subs c) a0.Subs) → (RL imm cs Subs) → (∀ l a w, ¬ Q (.goto l) a w) → (∀ a w, ¬ Q .outgrown a w) → (∀ (imm' : Imm) (Subs1 : List impl_Affine) (p2 : Option Addr) (c2 : Nat) (cs1 : List Value), o = Subs1 → imm0.le imm' → (RL imm' cs1 Subs1) → T 27 B Q (.exit 0) imm' [hO impl_Affine (vS p2 Subs1 c2) cs1, hB b2 [vT a0.Array.l, vS p2 Subs1 c2], hB b1 [vT ([]), .slice none 0 0]] [(2, vP b1 0), (3, vP b2 0)]) → J Try.prog 27 B (nav (bodyOf Try.f73) [1, 1, 0, 1, 0]) Q imm [hO impl_Affine (vS p1 Subs c1) cs, hB b2 [vT a0.Array.l, vS p1 Subs c1], hB b1 [vT ([]), .slice none 0 0], hB b [vT a0.Array.l, vS p a0.Subs c]] [(1, vP b 0), (2, vP b1 0), (3, vP b2 0), (4, vI i)] := by
 refine M.spec_l3CopyAccess_l1.partial_correctness a0 _ ?_
 intro self ih i Subs o hM B imm0 imm Q p c b b1 b2 p1 c1 cs hle h h2 hg ho hx
 refine J_loop hg ho <| J_seq <| J_seq <| J_region <| R_z [3] [(12, .bool (decide (i < (a0.Subs.length : Int))))] <| T_seq <| J_cd hM ?_ ?_
 · intro hc hM
   refine J_skip <| T_seq <| J_seq <| J_block ?_
   obtain ⟨x, hy, hM⟩ := bind_some hM
   obtain ⟨y, hy1, hM⟩ := bind_some hM
   obtain ⟨l, hy2, hM⟩ := bind_some hM
   refine J_any [.p (vP b2 1) [], .p (vS p1 Subs c1) [0], .p (vP b 1) [], .p (vS p a0.Subs c) [2], .p (vI i) [], .x (fun imm' v hx => ∃ (ad : Addr) (p3 : Option Addr) (c3 : Nat), v = .pointer (some ad) ∧ hx = [] ∧ (At imm' ad [vS p3 x.Coefs c3, vI x.Const]) ∧ (SL imm' (vS p3 x.Coefs c3) x.Coefs)), .x (fun imm' v hx => ∃ (p31 : Option Addr) (c31 : Nat), v = vA [vS p31 x.Coefs c31, vI x.Const] ∧ hx = [] ∧ (SL imm' (vS p31 x.Coefs c31) x.Coefs)), .x (fun imm' v hx => ∃ (p4 : Option Addr) (c4 : Nat), v = vA [vS p4 y.Coefs c4, vI y.Const] ∧ hx = [] ∧ (SL imm' (vS p4 y.Coefs c4) y.Coefs)), .x (fun imm' v hx => ∃ (b3 : Nat), v = vS (some ⟨b3, 0, none⟩) ([y] : List impl_Affine) 1 ∧ hx = [] ∧ (SL imm' (vS (some ⟨b3, 0, none⟩) ([y] : List impl_Affine) 1) ([y] : List impl_Affine))), .x (fun imm' v hx => ∃ (p5 : Option Addr) (c5 : Nat) (cs3 : List Value), v = vS p5 l c5 ∧ hx = [hO impl_Affine (vS p5 l c5) cs3] ∧ (RL imm' cs3 l))] [[], [(0, false)], [], [(2, false)], [], [(3, false), (4, false)], [(5, false)], [(6, false)], [(7, false)], [(1, false), (8, false), (12, true)]] [hB b2 [vT a0.Array.l, vS p1 Subs c1], hB b1 [vT ([]), .slice none 0 0], hB b [vT a0.Array.l, vS p a0.Subs c]] [[hO impl_Affine (vS p1 Subs c1) cs]] [(9, true)] (good_pick [1, 2, 3, 0] rfl (by decide)) ?_ ?_
   · refine Op <| Op <| Op <| Op <| Op <| Ox ?_ <| Ox ?_ <| Ox ?_ <| Ox ?_ <| Ox ?_ <| On
     · intro imm1 hf le1
       refine Ins_cons ?_
       rintro _ _ ⟨rfl, rfl⟩
       refine Ins_cons ?_
       rintro _ _ ⟨rfl, rfl⟩
       refine Ins_nil <| R_isw (hB b2 [vT a0.Array.l, vS p1 Subs c1] :: hB b1 [vT ([]), .slice none 0 0] :: hB b [vT a0.Array.l, vS p a0.Subs c] :: hf) [(18, vS p a0.Subs c), (19, vI i)] ?_
       have hle := Imm.le.refl imm1
       replace h := h.mono le1
       refine R_ix rfl rfl h hy ?_
       intro ad ccs hat hrep
       obtain ⟨v0, rfl, h4⟩ := impl_Affine_open hrep
       obtain ⟨p3, c3, rfl⟩ := h4.form
       exact R_out (hx := []) rfl hle rfl (out_some rfl) ⟨_, _, _, rfl, rfl, hat, h4⟩
     · intro imm1 hf le1
       refine Ins_cons ?_
       rintro _ _ ⟨ad, p3, c3, rfl, rfl, hat, h4⟩
       refine Ins_nil <| R_isw (hB b2 [vT a0.Array.l, vS p1 Subs c1] :: hB b1 [vT ([]), .slice none 0 0] :: hB b [vT a0.Array.l, vS p a0.Subs c] :: hf) [(20, .pointer (some ad))] ?_
       have hle := Imm.le.refl imm1
       exact R_la 0 hat [vS p3 x.Coefs c3, vI x.Const] (vA [vS p3 x.Coefs c3, vI x.Const]) rfl <| R_out (hx := []) rfl hle rfl (out_some rfl) ⟨_, _, rfl, rfl, h4⟩
     · intro imm1 hf le1
       refine Ins_cons ?_
       rintro _ _ ⟨p31, c31, rfl, rfl, h41⟩
       refine Ins_nil <| R_isw (hB b2 [vT a0.Array.l, vS p1 Subs c1] :: hB b1 [vT ([]), .slice none 0 0] :: hB b [vT a0.Array.l, vS p a0.Subs c] :: hf) [(21, vA [vS p31 x.Coefs c31, vI x.Const])] ?_
       have hle := Imm.le.refl imm1
       replace h2 := RepL.mono (fun _ _ => Rp.mono le1) h2
       replace h := h.mono le1
       refine R_call (hs1 := []) (rest := (hB b2 [vT a0.Array.l, vS p1 Subs c1] :: hB b1 [vT ([]), .slice none 0 0] :: hB b [vT a0.Array.l, vS p a0.Subs c] :: hf)) rfl rfl rfl rfl (by kernel_rfl) rfl rfl (spec_l3CopyAffine_ok x _ hy1 h41) ?_
       rintro imm0 hs2 v2 k2 le - ⟨v01, rfl, rfl, ⟨cs2, rfl, h5⟩⟩ -
       replace h41 := h41.mono le
       replace h2 := RepL.mono (fun _ _ => Rp.mono le) h2
       replace h := h.mono le
       replace hle := hle.trans le
       obtain ⟨v02, rfl, h6⟩ := impl_Affine_open h5
       obtain ⟨p4, c4, rfl⟩ := h6.form
       exact R_out (hx := []) rfl hle rfl (out_some rfl) ⟨_, _, rfl, rfl, h6⟩
     · intro imm1 hf le1
       refine Ins_cons ?_
       rintro _ _ ⟨p4, c4, rfl, rfl, h6⟩
       refine Ins_nil <| R_isw (hB b2 [vT a0.Array.l, vS p1 Subs c1] :: hB b1 [vT ([]), .slice none 0 0] :: hB b [vT a0.Array.l, vS p a0.Subs c] :: hf) [(22, vA [vS p4 y.Coefs c4, vI y.Const])] ?_
       have hle := Imm.le.refl imm1
       replace h2 := RepL.mono (fun _ _ => Rp.mono le1) h2
       replace h := h.mono le1
       refine R_buildSlice (cs := [vS p4 y.Coefs c4, vI y.Const]) (Rp.sz impl_Affine) rfl rfl rfl rfl (by kernel_rfl) (by kernel_rfl) ?_
       intro b3 hb3
       have h7 : RL imm1 [vS p4 y.Coefs c4, vI y.Const] ([y] : List impl_Affine) := ⟨[vS p4 y.Coefs c4, vI y.Const], _, rfl, rfl, (impl_Affine_shut ⟨_, rfl, h6⟩), rfl⟩
       refine R_freeze 0 rfl ?_
       intro imm01 le1 hl0
       have h8 := SL.of_frozen hl0 le1 h7
       replace h6 := h6.mono le1
       replace h2 := RepL.mono (fun _ _ => Rp.mono le1) h2
       replace h := h.mono le1
       replace hle := hle.trans le1
       exact R_out (hx := []) rfl hle rfl (out_some rfl) ⟨_, rfl, rfl, h8⟩
     · intro imm1 hf le1
       refine Ins_cons ?_
       rintro _ _ ⟨rfl, rfl⟩
       refine Ins_cons ?_
       rintro _ _ ⟨b3, rfl, rfl, h8⟩
       refine Ins_cons ?_
       rintro _ _ rfl
       refine Ins_nil <| R_isw (hO impl_Affine (vS p1 Subs c1) cs :: hB b2 [vT a0.Array.l, vS p1 Subs c1] :: hB b1 [vT ([]), .slice none 0 0] :: hB b [vT a0.Array.l, vS p a0.Subs c] :: hf) [(16, vS p1 Subs c1), (23, vS (some ⟨b3, 0, none⟩) ([y] : List impl_Affine) 1)] ?_
       have hle := Imm.le.refl imm1
       replace h2 := RepL.mono (fun _ _ => Rp.mono le1) h2
       obtain ⟨ccs1, k0, k01⟩ := h8
       have h8 : SL imm1 (vS (some ⟨b3, 0, none⟩) ([y] : List impl_Affine) 1) ([y] : List impl_Affine) := ⟨_, k0, k01⟩
       refine R_ap 75 2 0 rfl rfl rfl h2 (.inl k0) k01 hy2 ?_
       intro p5 c5 cs3 h9
       exact R_hseq (hs' := (hO impl_Affine (vS p5 l c5) cs3 :: hB b2 [vT a0.Array.l, vS p1 Subs c1] :: hB b1 [vT ([]), .slice none 0 0] :: hB b [vT a0.Array.l, vS p a0.Subs c] :: hf)) rfl <| R_out (hx := [hO impl_Affine (vS p5 l c5) cs3]) rfl hle rfl (out_some rfl) ⟨_, _, _, rfl, rfl, h9⟩
   · intro imm02 le2
     refine Ins_cons ?_
     rintro _ _ ⟨p5, c5, cs3, rfl, rfl, h9⟩
     refine Ins_nil <| R_isw [hO impl_Affine (vS p5 l c5) cs3, hB b2 [vT a0.Array.l, vS p1 Subs c1], hB b1 [vT ([]), .slice none 0 0], hB b [vT a0.Array.l, vS p a0.Subs c]] [(1, vP b 0), (2, vP b1 0), (3, vP b2 0), (4, vI i), (24, vS p5 l c5)] ?_
     replace h2 := RepL.mono (fun _ _ => Rp.mono le2) h2
     replace h := h.mono le2
     replace hle := hle.trans le2
     exact R_d 11 [] [(25, vP b2 1)] <| R_sb 1 [vT a0.Array.l, vS p5 l c5] [hO impl_Affine (vS p5 l c5) cs3, hB b2 [vT a0.Array.l, vS p5 l c5], hB b1 [vT ([]), .slice none 0 0], hB b [vT a0.Array.l, vS p a0.Subs c]] rfl rfl rfl rfl <| R_end rfl <| T_block_normal <| T_seq <| J_region <| R_z [] [(4, vI (W (i + 1)))] <| T_loop <| J_w [(1, vP b 0), (2, vP b1 0), (3, vP b2 0), (4, vI (W (i + 1)))] <| ih (W (i + 1)) l _ hM hle h h9 hg ho hx
 · intro hc hM
   exact J_exit <| T_then_exit <| T_then_exit <| T_hs (good_pick [0, 1, 2] rfl (by decide)) <| T_w [(2, vP b1 0), (3, vP b2 0)] <| hx _ _ _ _ _ (pure_some hM).symm hle h2
def M.spec_l3CopyAccess (a0 : impl_Access) : Option (impl_Access) := do
 let Subs1 ← M.spec_l3CopyAccess_l1 a0 0 ([] : List impl_Affine)
 pure (impl_Access.mk a0.Array Subs1)
theorem spec_l3CopyAccess_ok : ∀ (a0 : impl_Access) r, M.spec_l3CopyAccess a0 = some r → ∀ {imm : Imm} {p : Option Addr} {c : Nat}, (SL imm (vS p a0.Subs c) a0.Subs) → Ret Try.prog 73 [vA [vT a0.Array.l, vS p a0.Subs c]] imm [] (spec_l3CopyAccess_post  r) := by
 intro a0 r hM imm p c h
 unfold M.spec_l3CopyAccess at hM
 refine ret_of_J (fn := Try.f73) (c := (bodyOf Try.f73)) Try.func73 rfl rfl ?_
 rintro B - -
 have hle : imm.le imm := Imm.le.refl _
 refine J_seq <| J_region <| R_box (c := ⟨[vT a0.Array.l, vS p a0.Subs c]⟩) rfl rfl rfl rfl rfl ?_
 intro b hb
 refine R_alloc (c := ⟨[vT ([]), .slice none 0 0]⟩) rfl rfl rfl (by kernel_rfl) ?_
 intro b1 hb1
 refine R_end rfl <| T_seq <| J_seq <| J_region <| R_d 3 [1] [(7, vA [vT a0.Array.l, .slice none 0 0])] <| R_alloc (c := ⟨[vT ([]), .slice none 0 0]⟩) rfl rfl rfl (by kernel_rfl) ?_
 intro b2 hb2
 refine R_sb 0 [vT a0.Array.l, .slice none 0 0] [hB b2 [vT a0.Array.l, .slice none 0 0], hB b1 [vT ([]), .slice none 0 0], hB b [vT a0.Array.l, vS p a0.Subs c]] rfl rfl rfl rfl <| R_end rfl <| T_seq <| J_seq <| J_seq <| J_region <| R_z [] [(4, vI 0)] <| T_seq <| J_block <| J_w [(1, vP b 0), (2, vP b1 0), (3, vP b2 0), (4, vI 0)] <| J_hs (good_nil (Rp.sz impl_Affine)) ?_
 have h1 : RL imm [] ([] : List impl_Affine) := RepL.nil
 obtain ⟨o0, ho0, hM⟩ := bind_some hM
 refine spec_l3CopyAccess_l1_ok a0 0 ([] : List impl_Affine) o0 ho0 (Imm.le.refl _) h h1 (fun _ _ _ h => h) (fun _ _ h => h) ?_
 intro imm03 Subs1 p2 c2 cs1 heq le3 h3
 subst o0
 replace hle := hle.trans le3
 refine T_block_here <| T_seq <| J_seq <| J_region <| R_d 1 [1] [(26, vA [vT a0.Array.l, vS p2 Subs1 c2])] <| R_sb 2 [vT a0.Array.l, vS p2 Subs1 c2] [hO impl_Affine (vS p2 Subs1 c2) cs1, hB b2 [vT a0.Array.l, vS p2 Subs1 c2], hB b1 [vT a0.Array.l, vS p2 Subs1 c2]] rfl rfl rfl rfl <| R_end rfl <| T_seq <| J_ret <| T_freeze 0 rfl ?_
 intro imm04 le4 hl01
 have h10 := SL.of_frozen hl01 le4 h3
 replace hle := hle.trans le4
 obtain rfl := pure_some hM
 exact T_RS ⟨_, _, (.cell 1 rfl rfl (by kernel_rfl) ResV.nil), good_none, ⟨_, rfl, rfl, ⟨_, rfl, (impl_Access_shut ⟨_, rfl, h10⟩)⟩⟩⟩
def spec_l3Reads_post (r : (List impl_Access)) : Nat → Imm → List HA → Value → Prop := fun kk imm' hs' v =>
  ∃ (a0 : Option Addr) (c0 : Nat) (s0 : List Value), hs' = [.osl (.slice a0 r.length c0) (Rp.sz impl_Access) s0] ∧ v = tupV [(.slice a0 r.length c0)] ∧ RepL (Rp.rep imm') (Rp.sz impl_Access) s0 r
mutual
def M.spec_l3Reads (out : (List impl_Access)) (e0 : impl_Expr) : Option ((List impl_Access)) := do
 let out1 ← (do
   if (e0.Kind == 3) then
    let y ← M.spec_l3CopyAccess e0.Read
    let out2 ← app 40 out ([y] : List impl_Access)
    pure (id out2)
   else
    pure (id out)
     : Option (List impl_Access))
 let out4 ← M.spec_l3Reads_l1 (same e0) (same out1) (same 0)
 pure (id out4)
 partial_fixpoint
def M.spec_l3Reads_l1 (e0 : impl_Expr) (out3 : List impl_Access) (i : Int) : Option (List impl_Access) := do
 if (decide (i < (e0.Kids.length : Int))) then
  let x ← idx e0.Kids i
  let y1 ← M.spec_l3Reads (same out3) (same x)
  M.spec_l3Reads_l1 (same e0) (same y1) (W (i + 1))
 else
  pure (id out3)
 partial_fixpoint
end
theorem grp_spec_l3Reads : (∀ (out : (List impl_Access)) (e0 : impl_Expr) r, M.spec_l3Reads out e0 = some r → ∀ {imm : Imm} {p : Option Addr} {c : Nat} {cs : List Value} {p1 : Option Addr} {c1 : Nat} {p2 : Option Addr} {c2 : Nat} {p3 : Option Addr} {c3 : Nat}, (RL imm cs out) → (SL imm (vS p1 e0.Index.Coefs c1) e0.Index.Coefs) → (SL imm (vS p2 e0.Read.Subs c2) e0.Read.Subs) → (SL imm (vS p3 e0.Kids c3) e0.Kids) → Ret Try.prog 53 [vS p out c, vA [vI e0.Kind, vI e0.Num, vS p1 e0.Index.Coefs c1, vI e0.Index.Const, vT e0.Read.Array.l, vS p2 e0.Read.Subs c2, vS p3 e0.Kids c3]] imm [hO impl_Access (vS p out c) cs] (spec_l3Reads_post  r)) ∧ (∀ (e0 : impl_Expr) (out3 : List impl_Access) (i : Int) o, M.spec_l3Reads_l1 e0 out3 i = some o → ∀ {B : Base} {imm0 imm : Imm} {Q : Exit → Act → World → Prop}  {p1 : Option Addr} {c1 : Nat} {p2 : Option Addr} {c2 : Nat} {p3 : Option Addr} {c3 : Nat} {b : Nat} {p7 : Option Addr} {c7 : Nat} {cs4 : List Value}, imm0.le imm → (SL imm (vS p1 e0.Index.Coefs c1) e0.Index.Coefs) → (SL imm (vS p2 e0.Read.Subs c2) e0.Read.Subs) → (SL imm (vS p3 e0.Kids c3) e0.Kids) → (RL imm cs4 out3) → (∀ l a w, ¬ Q (.goto l) a w) → (∀ a w, ¬ Q .outgrown a w) → (∀ (imm' : Imm) (out4 : List impl_Access) (p8 : Option Addr) (c8 : Nat) (cs5 : List Value), o = out4 → imm0.le imm' → (RL imm' cs5 out4) → T 30 B Q (.exit 0) imm' [hO impl_Access (vS p8 out4 c8) cs5] [(0, vS p8 out4 c8)]) → J Try.prog 30 B (nav (bodyOf Try.f53) [1, 1, 0, 1, 0]) Q imm [hB b [vI e0.Kind, vI e0.Num, vS p1 e0.Index.Coefs c1, vI e0.Index.Const, vT e0.Read.Array.l, vS p2 e0.Read.Subs c2, vS p3 e0.Kids c3], hO impl_Access (vS p7 out3 c7) cs4] [(0, vS p7 out3 c7), (3, vP b 0), (5, vI i)]) := by
  refine M.spec_l3Reads.mutual_partial_correctness (fun out e0 r => ∀ {imm : Imm} {p : Option Addr} {c : Nat} {cs : List Value} {p1 : Option Addr} {c1 : Nat} {p2 : Option Addr} {c2 : Nat} {p3 : Option Addr} {c3 : Nat}, (RL imm cs out) → (SL imm (vS p1 e0.Index.Coefs c1) e0.Index.Coefs) → (SL imm (vS p2 e0.Read.Subs c2) e0.Read.Subs) → (SL imm (vS p3 e0.Kids c3) e0.Kids) → Ret Try.prog 53 [vS p out c, vA [vI e0.Kind, vI e0.Num, vS p1 e0.Index.Coefs c1, vI e0.Index.Const, vT e0.Read.Array.l, vS p2 e0.Read.Subs c2, vS p3 e0.Kids c3]] imm [hO impl_Access (vS p out c) cs] (spec_l3Reads_post  r)) (fun e0 out3 i o => ∀ {B : Base} {imm0 imm : Imm} {Q : Exit → Act → World → Prop}  {p1 : Option Addr} {c1 : Nat} {p2 : Option Addr} {c2 : Nat} {p3 : Option Addr} {c3 : Nat} {b : Nat} {p7 : Option Addr} {c7 : Nat} {cs4 : List Value}, imm0.le imm → (SL imm (vS p1 e0.Index.Coefs c1) e0.Index.Coefs) → (SL imm (vS p2 e0.Read.Subs c2) e0.Read.Subs) → (SL imm (vS p3 e0.Kids c3) e0.Kids) → (RL imm cs4 out3) → (∀ l a w, ¬ Q (.goto l) a w) → (∀ a w, ¬ Q .outgrown a w) → (∀ (imm' : Imm) (out4 : List impl_Access) (p8 : Option Addr) (c8 : Nat) (cs5 : List Value), o = out4 → imm0.le imm' → (RL imm' cs5 out4) → T 30 B Q (.exit 0) imm' [hO impl_Access (vS p8 out4 c8) cs5] [(0, vS p8 out4 c8)]) → J Try.prog 30 B (nav (bodyOf Try.f53) [1, 1, 0, 1, 0]) Q imm [hB b [vI e0.Kind, vI e0.Num, vS p1 e0.Index.Coefs c1, vI e0.Index.Const, vT e0.Read.Array.l, vS p2 e0.Read.Subs c2, vS p3 e0.Kids c3], hO impl_Access (vS p7 out3 c7) cs4] [(0, vS p7 out3 c7), (3, vP b 0), (5, vI i)]) ?_ ?_
  · intro F_spec_l3Reads_l1 ih_spec_l3Reads_l1 out e0 r hM imm p c cs p1 c1 p2 c2 p3 c3 h h1 h2 h3
    refine ret_of_J (fn := Try.f53) (c := (bodyOf Try.f53)) Try.func53 rfl rfl ?_
    rintro B - -
    have hle : imm.le imm := Imm.le.refl _
    refine J_seq <| J_region <| R_box (c := ⟨[vI e0.Kind, vI e0.Num, vS p1 e0.Index.Coefs c1, vI e0.Index.Const, vT e0.Read.Array.l, vS p2 e0.Read.Subs c2, vS p3 e0.Kids c3]⟩) rfl rfl rfl rfl rfl ?_
    intro b hb
    refine R_z [] [] <| T_seq <| J_seq <| J_seq <| J_region <| R_z [0] [(8, .bool (e0.Kind == 3))] <| T_seq ?_
    obtain ⟨o0, ho0, hM⟩ := bind_some hM
    refine J_cut (fun imm' hs' m' => ∃ (out1 : List impl_Access) (p4 : Option Addr) (c4 : Nat) (cs1 : List Value), o0 = out1 ∧ imm.le imm' ∧ (RL imm' cs1 out1) ∧ hs' = [hB b [vI e0.Kind, vI e0.Num, vS p1 e0.Index.Coefs c1, vI e0.Index.Const, vT e0.Read.Array.l, vS p2 e0.Read.Subs c2, vS p3 e0.Kids c3], hO impl_Access (vS p4 out1 c4) cs1] ∧ m' = [(0, vS p4 out1 c4), (3, vP b 0)]) ?_ ?_
    · have hle0 := hle
      have hle : imm.le imm := Imm.le.refl _
      refine J_cd ho0 ?_ ?_
      · intro hc hM
        refine J_region <| R_d 3 [0] [(9, vS p out c), (11, vA [vT e0.Read.Array.l, vS p2 e0.Read.Subs c2])] ?_
        obtain ⟨y, hy, hM⟩ := bind_some hM
        refine R_call (hs1 := []) (rest := [hB b [vI e0.Kind, vI e0.Num, vS p1 e0.Index.Coefs c1, vI e0.Index.Const, vT e0.Read.Array.l, vS p2 e0.Read.Subs c2, vS p3 e0.Kids c3], hO impl_Access (vS p out c) cs]) rfl rfl rfl rfl (by kernel_rfl) rfl rfl (spec_l3CopyAccess_ok e0.Read _ hy h2) ?_
        rintro imm01 hs2 v2 k2 le - ⟨v0, rfl, rfl, ⟨cs2, rfl, h5⟩⟩ -
        replace h := RepL.mono (fun _ _ => Rp.mono le) h
        replace h1 := h1.mono le
        replace h2 := h2.mono le
        replace h3 := h3.mono le
        replace hle := hle.trans le
        obtain ⟨v01, rfl, h6⟩ := impl_Access_open h5
        obtain ⟨p5, c5, rfl⟩ := h6.form
        refine R_buildSlice (cs := [vT y.Array.l, vS p5 y.Subs c5]) (Rp.sz impl_Access) rfl rfl rfl rfl (by kernel_rfl) (by kernel_rfl) ?_
        intro b1 hb1
        have h7 : RL imm01 [vT y.Array.l, vS p5 y.Subs c5] ([y] : List impl_Access) := ⟨[vT y.Array.l, vS p5 y.Subs c5], _, rfl, rfl, (impl_Access_shut ⟨_, rfl, h6⟩), rfl⟩
        obtain ⟨out2, hy1, hM⟩ := bind_some hM
        refine R_ap 73 2 2 rfl rfl rfl h (.inr ⟨0, rfl⟩) h7 hy1 ?_
        intro p6 c6 cs3 h8
        exact R_hs (good_pick [1, 2] (hs' := [hB b [vI e0.Kind, vI e0.Num, vS p1 e0.Index.Coefs c1, vI e0.Index.Const, vT e0.Read.Array.l, vS p2 e0.Read.Subs c2, vS p3 e0.Kids c3], hO impl_Access (vS p6 out2 c6) cs3]) rfl (by decide)) <| R_z [] [(0, vS p6 out2 c6)] <| T_w [(0, vS p6 out2 c6), (3, vP b 0)] <| T_cut ⟨_, _, _, _, (pure_some hM).symm, hle, h8, rfl, rfl⟩
      · intro hc hM
        exact J_skip <| T_w [(0, vS p out c), (3, vP b 0)] <| T_cut ⟨_, _, _, _, (pure_some hM).symm, hle, h, rfl, rfl⟩
    · rintro imm0 hs2 m2 ⟨out1, p4, c4, cs1, heq, le1, h4, rfl, rfl⟩
      subst o0
      replace h1 := h1.mono le1
      replace h2 := h2.mono le1
      replace h3 := h3.mono le1
      replace hle := hle.trans le1
      refine T_seq <| J_seq <| J_seq <| J_region <| R_z [] [(5, vI 0)] <| T_seq <| J_block <| J_w [(0, vS p4 out1 c4), (3, vP b 0), (5, vI 0)] ?_
      obtain ⟨o01, ho01, hM⟩ := bind_some hM
      refine ih_spec_l3Reads_l1 e0 out1 0 o01 ho01 (Imm.le.refl _) h1 h2 h3 h4 (fun _ _ _ h => h) (fun _ _ h => h) ?_
      intro imm03 out4 p8 c8 cs5 heq1 le3 h10
      subst o01
      replace hle := hle.trans le3
      refine T_block_here <| T_seq <| J_seq <| J_region <| R_z [] [(4, vS p8 out4 c8)] <| T_seq <| J_ret ?_
      obtain rfl := pure_some hM
      exact T_RS ⟨_, _, (.tmp rfl ResV.nil), (good_pick [0] rfl (by decide)), ⟨_, _, _, rfl, rfl, h10⟩⟩
  · intro F_spec_l3Reads F_spec_l3Reads_l1 ih_spec_l3Reads ih_spec_l3Reads_l1 e0 out3 i o hM B imm0 imm Q p1 c1 p2 c2 p3 c3 b p7 c7 cs4 hle h1 h2 h3 h9 hg ho hx
    refine J_loop hg ho <| J_seq <| J_seq <| J_region <| R_z [0] [(19, .bool (decide (i < (e0.Kids.length : Int))))] <| T_seq <| J_cd hM ?_ ?_
    · intro hc1 hM
      refine J_skip <| T_seq <| J_seq <| J_block <| J_region <| R_d 4 [0] [(22, vS p7 out3 c7), (24, vS p3 e0.Kids c3), (25, vI i)] ?_
      obtain ⟨x, hy2, hM⟩ := bind_some hM
      refine R_ix rfl rfl h3 hy2 ?_
      intro ad ccs hat hrep
      obtain ⟨v02, v03, v04, rfl, h11, h12, h13⟩ := impl_Expr_open hrep
      obtain ⟨p9, c9, rfl⟩ := h11.form
      obtain ⟨p10, c10, rfl⟩ := h12.form
      obtain ⟨p11, c11, rfl⟩ := h13.form
      refine R_la 0 hat [vI x.Kind, vI x.Num, vS p9 x.Index.Coefs c9, vI x.Index.Const, vT x.Read.Array.l, vS p10 x.Read.Subs c10, vS p11 x.Kids c11] (vA [vI x.Kind, vI x.Num, vS p9 x.Index.Coefs c9, vI x.Index.Const, vT x.Read.Array.l, vS p10 x.Read.Subs c10, vS p11 x.Kids c11]) rfl <| R_hs (good_pick [1, 0] (hs' := [hO impl_Access (vS p7 out3 c7) cs4, hB b [vI e0.Kind, vI e0.Num, vS p1 e0.Index.Coefs c1, vI e0.Index.Const, vT e0.Read.Array.l, vS p2 e0.Read.Subs c2, vS p3 e0.Kids c3]]) rfl (by decide)) ?_
      obtain ⟨y1, hy3, hM⟩ := bind_some hM
      refine R_call (hs1 := [hO impl_Access (vS p7 out3 c7) cs4]) (rest := [hB b [vI e0.Kind, vI e0.Num, vS p1 e0.Index.Coefs c1, vI e0.Index.Const, vT e0.Read.Array.l, vS p2 e0.Read.Subs c2, vS p3 e0.Kids c3]]) rfl rfl rfl rfl (by kernel_rfl) rfl rfl (ih_spec_l3Reads out3 x _ hy3 h9 h11 h12 h13) ?_
      rintro imm02 hs2 v2 k2 le2 - ⟨p12, c12, cs6, rfl, rfl, h14⟩ -
      replace h1 := h1.mono le2
      replace h2 := h2.mono le2
      replace h3 := h3.mono le2
      replace hle := hle.trans le2
      exact R_z [] [(0, vS p12 y1 c12)] <| T_block_normal <| T_seq <| J_region <| R_z [] [(5, vI (W (i + 1)))] <| T_loop <| J_hs (good_pick [1, 0] rfl (by decide)) <| J_w [(0, vS p12 y1 c12), (3, vP b 0), (5, vI (W (i + 1)))] <| ih_spec_l3Reads_l1 e0 y1 (W (i + 1)) _ hM hle h1 h2 h3 h14 hg ho hx
    · intro hc1 hM
      exact J_exit <| T_then_exit <| T_then_exit <| T_hs (good_pick [1] rfl (by decide)) <| T_w [(0, vS p7 out3 c7)] <| hx _ _ _ _ _ (pure_some hM).symm hle h9
theorem spec_l3Reads_ok : ∀ (out : (List impl_Access)) (e0 : impl_Expr) r, M.spec_l3Reads out e0 = some r → ∀ {imm : Imm} {p : Option Addr} {c : Nat} {cs : List Value} {p1 : Option Addr} {c1 : Nat} {p2 : Option Addr} {c2 : Nat} {p3 : Option Addr} {c3 : Nat}, (RL imm cs out) → (SL imm (vS p1 e0.Index.Coefs c1) e0.Index.Coefs) → (SL imm (vS p2 e0.Read.Subs c2) e0.Read.Subs) → (SL imm (vS p3 e0.Kids c3) e0.Kids) → Ret Try.prog 53 [vS p out c, vA [vI e0.Kind, vI e0.Num, vS p1 e0.Index.Coefs c1, vI e0.Index.Const, vT e0.Read.Array.l, vS p2 e0.Read.Subs c2, vS p3 e0.Kids c3]] imm [hO impl_Access (vS p out c) cs] (spec_l3Reads_post  r) := grp_spec_l3Reads.1
def spec_l4Size_post (r : Int) : Nat → Imm → List HA → Value → Prop := fun kk imm' hs' v =>
  ∃ (v0 : Value), hs' = [] ∧ v = tupV [v0] ∧ v0 = .int .i64 r
def M.spec_l4Size_l1 (a0 : impl_Array) (n0 : Int) (i : Int) : Option (Int) := do
 if (decide (i < (a0.Dims.length : Int))) then
  let x ← idx a0.Dims i
  M.spec_l4Size_l1 a0 (W (n0 * x)) (W (i + 1))
 else
  pure (id n0)
 partial_fixpoint
theorem spec_l4Size_l1_ok (a0 : impl_Array) : ∀ (n0 : Int) (i : Int) (o : Int), M.spec_l4Size_l1 a0 n0 i = some o → ∀ {B : Base} {imm0 imm : Imm} {Q : Exit → Act → World → Prop}  {p : Option Addr} {c : Nat} {b : Nat}, imm0.le imm → (SL imm (vS p a0.Dims c) a0.Dims) → (∀ l a w, ¬ Q (.goto l) a w) → (∀ a w, ¬ Q .outgrown a w) → (∀ (imm' : Imm) (n01 : Int), o = n01 → imm0.le imm' → T 20 B Q (.exit 0) imm' [] [(3, vI n01)]) → J Try.prog 20 B (nav (bodyOf Try.f74) [1, 1, 0, 1, 0]) Q imm [hB b [vT a0.Name.l, vS p a0.Dims c]] [(1, vP b 0), (3, vI n0), (4, vI i)] := by
 refine M.spec_l4Size_l1.partial_correctness a0 _ ?_
 intro self ih n0 i o hM B imm0 imm Q p c b hle h hg ho hx
 refine J_loop hg ho <| J_seq <| J_seq <| J_region <| R_z [0] [(9, .bool (decide (i < (a0.Dims.length : Int))))] <| T_seq <| J_cd hM ?_ ?_
 · intro hc hM
   refine J_skip <| T_seq <| J_seq <| J_block <| J_region <| R_d 4 [0] [(12, vI n0), (14, vS p a0.Dims c), (15, vI i)] ?_
   obtain ⟨x, hy, hM⟩ := bind_some hM
   refine R_ix rfl rfl h hy ?_
   intro ad ccs hat hrep
   obtain rfl := hrep
   exact R_la 0 hat [vI x] (vI x) rfl <| R_z [] [(3, vI (W (n0 * x)))] <| T_block_normal <| T_seq <| J_region <| R_z [] [(4, vI (W (i + 1)))] <| T_loop <| J_w [(1, vP b 0), (3, vI (W (n0 * x))), (4, vI (W (i + 1)))] <| ih (W (n0 * x)) (W (i + 1)) _ hM hle h hg ho hx
 · intro hc hM
   exact J_exit <| T_then_exit <| T_then_exit <| T_hs (good_pick [] rfl (by decide)) <| T_w [(3, vI n0)] <| hx _ _ (pure_some hM).symm hle
def M.spec_l4Size (a0 : impl_Array) : Option (Int) := do
 let n01 ← M.spec_l4Size_l1 a0 1 0
 pure (id n01)
theorem spec_l4Size_ok : ∀ (a0 : impl_Array) r, M.spec_l4Size a0 = some r → ∀ {imm : Imm} {p : Option Addr} {c : Nat}, (SL imm (vS p a0.Dims c) a0.Dims) → Ret Try.prog 74 [vA [vT a0.Name.l, vS p a0.Dims c]] imm [] (spec_l4Size_post  r) := by
 intro a0 r hM imm p c h
 unfold M.spec_l4Size at hM
 refine ret_of_J (fn := Try.f74) (c := (bodyOf Try.f74)) Try.func74 rfl rfl ?_
 rintro B - -
 have hle : imm.le imm := Imm.le.refl _
 refine J_seq <| J_region <| R_box (c := ⟨[vT a0.Name.l, vS p a0.Dims c]⟩) rfl rfl rfl rfl rfl ?_
 intro b hb
 refine R_z [] [] <| T_seq <| J_seq <| J_region <| R_z [] [(3, vI 1)] <| T_seq <| J_seq <| J_seq <| J_region <| R_z [] [(4, vI 0)] <| T_seq <| J_block <| J_w [(1, vP b 0), (3, vI 1), (4, vI 0)] ?_
 obtain ⟨o0, ho0, hM⟩ := bind_some hM
 refine spec_l4Size_l1_ok a0 1 0 o0 ho0 (Imm.le.refl _) h (fun _ _ _ h => h) (fun _ _ h => h) ?_
 intro imm0 n01 heq le
 subst o0
 replace hle := hle.trans le
 refine T_block_here <| T_seq <| J_seq <| J_region <| R_z [] [(2, vI n01)] <| T_seq <| J_ret ?_
 obtain rfl := pure_some hM
 exact T_RS ⟨_, _, (.tmp rfl ResV.nil), good_none, ⟨_, rfl, rfl, rfl⟩⟩
def spec_l1Eval_post (r : Int) : Nat → Imm → List HA → Value → Prop := fun kk imm' hs' v =>
  ∃ (v0 : Value), hs' = [] ∧ v = tupV [v0] ∧ v0 = .int .i64 r
def M.spec_l1Eval_l1 (a0 : impl_Affine) (point : (List Int)) (n0 : Int) (i : Int) : Option (Int) := do
 let t19 ← (do
   if (decide (i < (point.length : Int))) then
    pure (decide (i < (a0.Coefs.length : Int)))
   else
    pure false
     : Option Bool)
 if t19 then
  let x ← idx a0.Coefs i
  let x1 ← idx point i
  M.spec_l1Eval_l1 a0 point (W (n0 + (W (x * x1)))) (W (i + 1))
 else
  pure (id n0)
 partial_fixpoint
theorem spec_l1Eval_l1_ok (a0 : impl_Affine) (point : (List Int)) : ∀ (n0 : Int) (i : Int) (o : Int), M.spec_l1Eval_l1 a0 point n0 i = some o → ∀ {B : Base} {imm0 imm : Imm} {Q : Exit → Act → World → Prop}  {p : Option Addr} {c : Nat} {p1 : Option Addr} {c1 : Nat} {b : Nat}, imm0.le imm → (SL imm (vS p1 point c1) point) → (SL imm (vS p a0.Coefs c) a0.Coefs) → (∀ l a w, ¬ Q (.goto l) a w) → (∀ a w, ¬ Q .outgrown a w) → (∀ (imm' : Imm) (n01 : Int), o = n01 → imm0.le imm' → T 35 B Q (.exit 0) imm' [] [(5, vI n01)]) → J Try.prog 35 B (nav (bodyOf Try.f75) [1, 1, 0, 1, 0]) Q imm [hB b [vS p a0.Coefs c, vI a0.Const]] [(1, vS p1 point c1), (2, vP b 0), (5, vI n0), (6, vI i)] := by
 refine M.spec_l1Eval_l1.partial_correctness a0 point _ ?_
 intro self ih n0 i o hM B imm0 imm Q p c p1 c1 b hle h1 h hg ho hx
 refine J_loop hg ho <| J_seq <| J_seq ?_
 obtain ⟨o0, ho0, hM⟩ := bind_some hM
 refine J_cut (fun imm' hs' m' => ∃ (t19 : Bool), o0 = t19 ∧ imm.le imm' ∧ hs' = [hB b [vS p a0.Coefs c, vI a0.Const]] ∧ m' = [(1, vS p1 point c1), (2, vP b 0), (5, vI n0), (6, vI i), (19, .bool t19)]) ?_ ?_
 · have hle0 := hle
   have hle : imm.le imm := Imm.le.refl _
   refine J_region <| R_d 5 [] [(13, .bool (decide (i < (point.length : Int))))] ?_
   cases hc : (decide (i < (point.length : Int))) with
   | true =>
    have hM0 := if_some_true hc ho0
    try rw [hc]
    exact R_z [0] [(19, .bool (decide (i < (a0.Coefs.length : Int))))] <| T_w [(1, vS p1 point c1), (2, vP b 0), (5, vI n0), (6, vI i), (19, .bool (decide (i < (a0.Coefs.length : Int))))] <| T_cut ⟨_, (pure_some hM0).symm, hle, rfl, rfl⟩
   | false =>
    have hM01 := if_some_false hc ho0
    try rw [hc]
    exact R_z [] [(19, .bool false)] <| T_w [(1, vS p1 point c1), (2, vP b 0), (5, vI n0), (6, vI i), (19, .bool false)] <| T_cut ⟨_, (pure_some hM01).symm, hle, rfl, rfl⟩
 · rintro imm0 hs2 m2 ⟨t19, heq, le, rfl, rfl⟩
   subst o0
   replace h1 := h1.mono le
   replace h := h.mono le
   replace hle := hle.trans le
   refine T_seq <| J_cd hM ?_ ?_
   · intro hc1 hM
     refine J_skip <| T_seq <| J_seq <| J_block <| J_region_q (by kernel_rfl) (by kernel_rfl) <| Rq_d 4 [0] [(22, vI n0), (24, vS p a0.Coefs c), (25, vI i)] ?_
     obtain ⟨x, hy, hM⟩ := bind_some hM
     refine Rq_ix rfl rfl h hy ?_
     intro ad ccs hat hrep
     obtain rfl := hrep
     refine Rq_la 0 hat [vI x] (vI x) rfl <| Rq_d 8 [] [(28, vS p1 point c1), (29, vI i)] ?_
     obtain ⟨x1, hy1, hM⟩ := bind_some hM
     refine Rq_ix rfl rfl h1 hy1 ?_
     intro ad1 ccs1 hat1 hrep1
     obtain rfl := hrep1
     exact Rq_la 0 hat1 [vI x1] (vI x1) rfl <| Rq_z [] [(5, vI (W (n0 + (W (x * x1)))))] <| T_block_normal <| T_seq <| J_region <| R_z [] [(6, vI (W (i + 1)))] <| T_loop <| J_w [(1, vS p1 point c1), (2, vP b 0), (5, vI (W (n0 + (W (x * x1))))), (6, vI (W (i + 1)))] <| ih (W (n0 + (W (x * x1)))) (W (i + 1)) _ hM hle h1 h hg ho hx
   · intro hc1 hM
     exact J_exit <| T_then_exit <| T_then_exit <| T_hs (good_pick [] rfl (by decide)) <| T_w [(5, vI n0)] <| hx _ _ (pure_some hM).symm hle
def M.spec_l1Eval (a0 : impl_Affine) (point : (List Int)) : Option (Int) := do
 let n01 ← M.spec_l1Eval_l1 a0 point a0.Const 0
 pure (id n01)
theorem spec_l1Eval_ok : ∀ (a0 : impl_Affine) (point : (List Int)) r, M.spec_l1Eval a0 point = some r → ∀ {imm : Imm} {p : Option Addr} {c : Nat} {p1 : Option Addr} {c1 : Nat}, (SL imm (vS p a0.Coefs c) a0.Coefs) → (SL imm (vS p1 point c1) point) → Ret Try.prog 75 [vA [vS p a0.Coefs c, vI a0.Const], vS p1 point c1] imm [] (spec_l1Eval_post  r) := by
 intro a0 point r hM imm p c p1 c1 h h1
 unfold M.spec_l1Eval at hM
 refine ret_of_J (fn := Try.f75) (c := (bodyOf Try.f75)) Try.func75 rfl rfl ?_
 rintro B - -
 have hle : imm.le imm := Imm.le.refl _
 refine J_seq <| J_region <| R_box (c := ⟨[vS p a0.Coefs c, vI a0.Const]⟩) rfl rfl rfl rfl rfl ?_
 intro b hb
 refine R_z [] [] <| T_seq <| J_seq <| J_region <| R_z [0] [(5, vI a0.Const)] <| T_seq <| J_seq <| J_seq <| J_region <| R_z [] [(6, vI 0)] <| T_seq <| J_block <| J_w [(1, vS p1 point c1), (2, vP b 0), (5, vI a0.Const), (6, vI 0)] ?_
 obtain ⟨o01, ho01, hM⟩ := bind_some hM
 refine spec_l1Eval_l1_ok a0 point a0.Const 0 o01 ho01 (Imm.le.refl _) h1 h (fun _ _ _ h => h) (fun _ _ h => h) ?_
 intro imm01 n01 heq1 le1
 subst o01
 replace hle := hle.trans le1
 refine T_block_here <| T_seq <| J_seq <| J_region <| R_z [] [(4, vI n01)] <| T_seq <| J_ret ?_
 obtain rfl := pure_some hM
 exact T_RS ⟨_, _, (.tmp rfl ResV.nil), good_none, ⟨_, rfl, rfl, rfl⟩⟩
def spec_l4Cell_post (r : Int) : Nat → Imm → List HA → Value → Prop := fun kk imm' hs' v =>
  ∃ (v0 : Value), hs' = [] ∧ v = tupV [v0] ∧ v0 = .int .i64 r
def M.spec_l4Cell_l2 (list : (List impl_Array)) (a0 : impl_Access) (point : (List Int)) (i : Int) (n0 : Int) (k0 : Int) : Option (Out Int (Int)) := do
 if (decide (k0 < (a0.Subs.length : Int))) then
  let x2 ← idx list i
  if ((a0.Subs.length : Int) != (x2.Dims.length : Int)) then
   pure (.ret (-1))
  else
   let x3 ← idx a0.Subs k0
   let y1 ← M.spec_l1Eval x3 point
   let t70 ← (do
     if (decide (y1 < 0)) then
      pure true
     else
      let x4 ← idx list i
      let x5 ← idx x4.Dims k0
      pure (decide (y1 ≥ x5))
       : Option Bool)
   if t70 then
    pure (.ret (-1))
   else
    let x6 ← idx list i
    let x7 ← idx x6.Dims k0
    M.spec_l4Cell_l2 list a0 point i (W ((W (n0 * x7)) + y1)) (W (k0 + 1))
 else
  pure (.done n0)
 partial_fixpoint
theorem spec_l4Cell_l2_ok (list : (List impl_Array)) (a0 : impl_Access) (point : (List Int)) (i : Int) : ∀ (n0 : Int) (k0 : Int) (o : Out Int (Int)), M.spec_l4Cell_l2 list a0 point i n0 k0 = some o → ∀ {B : Base} {imm0 imm : Imm} {Q : Exit → Act → World → Prop} {base : Int} {p : Option Addr} {c : Nat} {p1 : Option Addr} {c1 : Nat} {p2 : Option Addr} {c2 : Nat} {b : Nat}, imm0.le imm → (SL imm (vS p list c) list) → (SL imm (vS p2 point c2) point) → (SL imm (vS p1 a0.Subs c1) a0.Subs) → (∀ l a w, ¬ Q (.goto l) a w) → (∀ a w, ¬ Q .outgrown a w) → (∀ (imm' : Imm) (n01 : Int), o = (.done n01) → imm0.le imm' → T 86 B Q (.exit 2) imm' [] [(7, vI base), (9, vI n01)]) → (∀ r imm' hs' m', o = (.ret r) → imm0.le imm' → RS Try.prog Try.f54 B (spec_l4Cell_post  r) imm' hs' m' → T 86 B Q .ret imm' hs' m') → J Try.prog 86 B (nav (bodyOf Try.f54) [1, 1, 0, 1, 0, 0, 1, 0, 0, 1, 1, 0, 1, 0]) Q imm [hB b [vT a0.Array.l, vS p1 a0.Subs c1]] [(0, vS p list c), (2, vS p2 point c2), (4, vP b 0), (7, vI base), (8, vI i), (9, vI n0), (10, vI k0)] := by
 refine M.spec_l4Cell_l2.partial_correctness list a0 point i _ ?_
 intro self ih n0 k0 o hM B imm0 imm Q base p c p1 c1 p2 c2 b hle h h2 h1 hg ho hx hr
 refine J_loop hg ho <| J_seq <| J_seq <| J_region <| R_z [0] [(37, .bool (decide (k0 < (a0.Subs.length : Int))))] <| T_seq <| J_cd hM ?_ ?_
 · intro hc2 hM
   refine J_skip <| T_seq <| J_seq <| J_block <| J_seq <| J_seq <| J_region_q (by kernel_rfl) (by kernel_rfl) <| Rq_d 5 [0] [(42, vI (a0.Subs.length : Int)), (43, vS p list c), (44, vI i)] ?_
   obtain ⟨x2, hy3, hM⟩ := bind_some hM
   refine Rq_ix rfl rfl h hy3 ?_
   intro ad2 ccs2 hat2 hrep2
   obtain ⟨v03, rfl, h6⟩ := impl_Array_open hrep2
   obtain ⟨p5, c5, rfl⟩ := h6.form
   refine Rq_d 7 [] [(46, .pointer (some (ad2.add 1)))] <| Rq_la 1 hat2 [vS p5 x2.Dims c5] (vS p5 x2.Dims c5) rfl <| Rq_z [] [(49, .bool ((a0.Subs.length : Int) != (x2.Dims.length : Int)))] <| T_seq <| J_cd hM ?_ ?_
   · intro hc3 hM
     exact J_seq <| J_region <| R_z [] [(6, vI (-1))] <| T_seq <| J_ret <| T_then_ret <| T_block_ret <| T_then_ret <| T_then_ret <| hr _ _ _ _ (pure_some hM).symm hle ⟨_, _, (.tmp rfl ResV.nil), good_none, ⟨_, rfl, rfl, rfl⟩⟩
   · intro hc3 hM
     refine J_skip <| T_seq <| J_seq <| J_region <| R_d 3 [0] [(51, vS p1 a0.Subs c1), (52, vI k0)] ?_
     obtain ⟨x3, hy4, hM⟩ := bind_some hM
     refine R_ix rfl rfl h1 hy4 ?_
     intro ad3 ccs3 hat3 hrep3
     obtain ⟨v04, rfl, h7⟩ := impl_Affine_open hrep3
     obtain ⟨p6, c6, rfl⟩ := h7.form
     refine R_la 0 hat3 [vS p6 x3.Coefs c6, vI x3.Const] (vA [vS p6 x3.Coefs c6, vI x3.Const]) rfl <| R_d 6 [] [(55, vS p2 point c2)] ?_
     obtain ⟨y1, hy5, hM⟩ := bind_some hM
     refine R_call (hs1 := []) (rest := [hB b [vT a0.Array.l, vS p1 a0.Subs c1]]) rfl rfl rfl rfl (by kernel_rfl) rfl rfl (spec_l1Eval_ok x3 point _ hy5 h7 h2) ?_
     rintro imm01 hs2 v2 k2 le1 - ⟨v05, rfl, rfl, rfl⟩ -
     replace h := h.mono le1
     replace h2 := h2.mono le1
     replace h1 := h1.mono le1
     replace hle := hle.trans le1
     refine R_z [] [(11, vI y1)] <| T_seq <| J_seq <| J_seq ?_
     obtain ⟨o0, ho0, hM⟩ := bind_some hM
     refine J_cut (fun imm' hs' m' => ∃ (t70 : Bool), o0 = t70 ∧ imm01.le imm' ∧ hs' = [hB b [vT a0.Array.l, vS p1 a0.Subs c1]] ∧ m' = [(0, vS p list c), (2, vS p2 point c2), (4, vP b 0), (7, vI base), (8, vI i), (9, vI n0), (10, vI k0), (11, vI y1), (70, .bool t70)]) ?_ ?_
     · have hle0 := hle
       have hle : imm01.le imm01 := Imm.le.refl _
       refine J_region <| R_d 3 [] [(59, .bool (decide (y1 < 0)))] ?_
       cases hc4 : (decide (y1 < 0)) with
       | true =>
        have hM0 := if_some_true hc4 ho0
        try rw [hc4]
        exact R_z [] [(70, .bool true)] <| T_w [(0, vS p list c), (2, vS p2 point c2), (4, vP b 0), (7, vI base), (8, vI i), (9, vI n0), (10, vI k0), (11, vI y1), (70, .bool true)] <| T_cut ⟨_, (pure_some hM0).symm, hle, rfl, rfl⟩
       | false =>
        have hM01 := if_some_false hc4 ho0
        try rw [hc4]
        refine R_d 6 [] [(60, vI y1), (61, vS p list c), (62, vI i)] ?_
        obtain ⟨x4, hy6, hM⟩ := bind_some hM01
        refine R_ix rfl rfl h hy6 ?_
        intro ad4 ccs4 hat4 hrep4
        obtain ⟨v06, rfl, h9⟩ := impl_Array_open hrep4
        obtain ⟨p7, c7, rfl⟩ := h9.form
        refine R_d 8 [] [(64, .pointer (some (ad4.add 1)))] <| R_la 1 hat4 [vS p7 x4.Dims c7] (vS p7 x4.Dims c7) rfl <| R_d 10 [] [(66, vI k0)] ?_
        obtain ⟨x5, hy7, hM⟩ := bind_some hM
        refine R_ix rfl rfl h9 hy7 ?_
        intro ad5 ccs5 hat5 hrep5
        obtain rfl := hrep5
        exact R_la 0 hat5 [vI x5] (vI x5) rfl <| R_z [] [(70, .bool (decide (y1 ≥ x5)))] <| T_w [(0, vS p list c), (2, vS p2 point c2), (4, vP b 0), (7, vI base), (8, vI i), (9, vI n0), (10, vI k0), (11, vI y1), (70, .bool (decide (y1 ≥ x5)))] <| T_cut ⟨_, (pure_some hM).symm, hle, rfl, rfl⟩
     · rintro imm02 hs2 m2 ⟨t70, heq, le2, rfl, rfl⟩
       subst o0
       replace h := h.mono le2
       replace h2 := h2.mono le2
       replace h1 := h1.mono le2
       replace hle := hle.trans le2
       refine T_seq <| J_cd hM ?_ ?_
       · intro hc5 hM
         exact J_seq <| J_region <| R_z [] [(6, vI (-1))] <| T_seq <| J_ret <| T_then_ret <| T_block_ret <| T_then_ret <| T_then_ret <| hr _ _ _ _ (pure_some hM).symm hle ⟨_, _, (.tmp rfl ResV.nil), good_none, ⟨_, rfl, rfl, rfl⟩⟩
       · intro hc5 hM
         refine J_skip <| T_seq <| J_region <| R_d 3 [] [(71, vI n0), (72, vS p list c), (73, vI i)] ?_
         obtain ⟨x6, hy8, hM⟩ := bind_some hM
         refine R_ix rfl rfl h hy8 ?_
         intro ad6 ccs6 hat6 hrep6
         obtain ⟨v07, rfl, h10⟩ := impl_Array_open hrep6
         obtain ⟨p8, c8, rfl⟩ := h10.form
         refine R_d 5 [] [(75, .pointer (some (ad6.add 1)))] <| R_la 1 hat6 [vS p8 x6.Dims c8] (vS p8 x6.Dims c8) rfl <| R_d 7 [] [(77, vI k0)] ?_
         obtain ⟨x7, hy9, hM⟩ := bind_some hM
         refine R_ix rfl rfl h10 hy9 ?_
         intro ad7 ccs7 hat7 hrep7
         obtain rfl := hrep7
         exact R_la 0 hat7 [vI x7] (vI x7) rfl <| R_z [] [(9, vI (W ((W (n0 * x7)) + y1)))] <| T_block_normal <| T_seq <| J_region <| R_z [] [(10, vI (W (k0 + 1)))] <| T_loop <| J_w [(0, vS p list c), (2, vS p2 point c2), (4, vP b 0), (7, vI base), (8, vI i), (9, vI (W ((W (n0 * x7)) + y1))), (10, vI (W (k0 + 1)))] <| ih (W ((W (n0 * x7)) + y1)) (W (k0 + 1)) _ hM hle h h2 h1 hg ho hx hr
 · intro hc2 hM
   exact J_exit <| T_then_exit <| T_then_exit <| T_hs (good_pick [] rfl (by decide)) <| T_w [(7, vI base), (9, vI n0)] <| hx _ _ (pure_some hM).symm hle
def M.spec_l4Cell_l1 (list : (List impl_Array)) (a0 : impl_Access) (point : (List Int)) (base : Int) (i : Int) : Option (Out Unit (Int)) := do
 if (decide (i < (list.length : Int))) then
  let x ← idx list i
  if (!(x.Name.l == a0.Array.l)) then
   let x1 ← idx list i
   let y ← M.spec_l4Size x1
   M.spec_l4Cell_l1 list a0 point (W (base + y)) (W (i + 1))
  else
   match ← M.spec_l4Cell_l2 list a0 point i 0 0 with
   | .ret r0 => pure (.ret r0)
   | .done n01 =>
    pure (.ret (W (base + n01)))
 else
  pure (.done ())
 partial_fixpoint
theorem spec_l4Cell_l1_ok (list : (List impl_Array)) (a0 : impl_Access) (point : (List Int)) : ∀ (base : Int) (i : Int) (o : Out Unit (Int)), M.spec_l4Cell_l1 list a0 point base i = some o → ∀ {B : Base} {imm0 imm : Imm} {Q : Exit → Act → World → Prop}  {p : Option Addr} {c : Nat} {p1 : Option Addr} {c1 : Nat} {p2 : Option Addr} {c2 : Nat} {b : Nat}, imm0.le imm → (SL imm (vS p list c) list) → (SL imm (vS p2 point c2) point) → (SL imm (vS p1 a0.Subs c1) a0.Subs) → (∀ l a w, ¬ Q (.goto l) a w) → (∀ a w, ¬ Q .outgrown a w) → (∀ (imm' : Imm) , o = (.done ()) → imm0.le imm' → T 86 B Q (.exit 0) imm' [] []) → (∀ r imm' hs' m', o = (.ret r) → imm0.le imm' → RS Try.prog Try.f54 B (spec_l4Cell_post  r) imm' hs' m' → T 86 B Q .ret imm' hs' m') → J Try.prog 86 B (nav (bodyOf Try.f54) [1, 1, 0, 1, 0]) Q imm [hB b [vT a0.Array.l, vS p1 a0.Subs c1]] [(0, vS p list c), (2, vS p2 point c2), (4, vP b 0), (7, vI base), (8, vI i)] := by
 refine M.spec_l4Cell_l1.partial_correctness list a0 point _ ?_
 intro self ih base i o hM B imm0 imm Q p c p1 c1 p2 c2 b hle h h2 h1 hg ho hx hr
 refine J_loop hg ho <| J_seq <| J_seq <| J_region <| R_z [] [(15, .bool (decide (i < (list.length : Int))))] <| T_seq <| J_cd hM ?_ ?_
 · intro hc hM
   refine J_skip <| T_seq <| J_seq <| J_block <| J_seq <| J_seq <| J_region_q (by kernel_rfl) (by kernel_rfl) <| Rq_d 2 [] [(18, vS p list c), (19, vI i)] ?_
   obtain ⟨x, hy, hM⟩ := bind_some hM
   refine Rq_ix rfl rfl h hy ?_
   intro ad ccs hat hrep
   obtain ⟨v0, rfl, h3⟩ := impl_Array_open hrep
   obtain ⟨p3, c3, rfl⟩ := h3.form
   refine Rq_d 4 [] [(21, .pointer (some ad))] <| Rq_la 0 hat [vT x.Name.l] (vT x.Name.l) rfl <| Rq_z [0] [(25, .bool (!(x.Name.l == a0.Array.l)))] <| T_seq <| J_cd hM ?_ ?_
   · intro hc1 hM
     refine J_seq <| J_region <| R_d 3 [] [(26, vI base), (27, vS p list c), (28, vI i)] ?_
     obtain ⟨x1, hy1, hM⟩ := bind_some hM
     refine R_ix rfl rfl h hy1 ?_
     intro ad1 ccs1 hat1 hrep1
     obtain ⟨v01, rfl, h4⟩ := impl_Array_open hrep1
     obtain ⟨p4, c4, rfl⟩ := h4.form
     refine R_la 0 hat1 [vT x1.Name.l, vS p4 x1.Dims c4] (vA [vT x1.Name.l, vS p4 x1.Dims c4]) rfl ?_
     obtain ⟨y, hy2, hM⟩ := bind_some hM
     refine R_call (hs1 := []) (rest := [hB b [vT a0.Array.l, vS p1 a0.Subs c1]]) rfl rfl rfl rfl (by kernel_rfl) rfl rfl (spec_l4Size_ok x1 _ hy2 h4) ?_
     rintro imm0 hs2 v2 k2 le - ⟨v02, rfl, rfl, rfl⟩ -
     replace h := h.mono le
     replace h2 := h2.mono le
     replace h1 := h1.mono le
     replace hle := hle.trans le
     exact R_z [] [(7, vI (W (base + y)))] <| T_seq <| J_exit <| T_then_exit <| T_block_here <| T_seq <| J_region <| R_z [] [(8, vI (W (i + 1)))] <| T_loop <| J_w [(0, vS p list c), (2, vS p2 point c2), (4, vP b 0), (7, vI (W (base + y))), (8, vI (W (i + 1)))] <| ih (W (base + y)) (W (i + 1)) _ hM hle h h2 h1 hg ho hx hr
   · intro hc1 hM
     refine J_skip <| T_seq <| J_seq <| J_region <| R_z [] [(9, vI 0)] <| T_seq <| J_seq <| J_seq <| J_region <| R_z [] [(10, vI 0)] <| T_seq <| J_block <| J_w [(0, vS p list c), (2, vS p2 point c2), (4, vP b 0), (7, vI base), (8, vI i), (9, vI 0), (10, vI 0)] ?_
     obtain ⟨o01, ho01, hM⟩ := bind_some hM
     refine spec_l4Cell_l2_ok list a0 point i 0 0 o01 ho01 (Imm.le.refl _) h h2 h1 (fun _ _ _ h => hg _ _ _ h) (fun _ _ h => ho _ _ h) ?_ ?_
     · intro imm03 n01 heq1 le3
       subst o01
       replace hle := hle.trans le3
       exact T_block_here <| T_seq <| J_seq <| J_region <| R_z [] [(6, vI (W (base + n01)))] <| T_seq <| J_ret <| T_block_ret <| T_then_ret <| T_then_ret <| hr _ _ _ _ (pure_some hM).symm hle ⟨_, _, (.tmp rfl ResV.nil), good_none, ⟨_, rfl, rfl, rfl⟩⟩
     · intro r0 imm9 hs9 m9 heq9 le9 hrs9
       subst heq9
       exact T_block_ret <| T_then_ret <| T_block_ret <| T_then_ret <| T_then_ret <| hr _ _ _ _ (pure_some hM).symm (hle.trans le9) hrs9
 · intro hc hM
   exact J_exit <| T_then_exit <| T_then_exit <| T_hs (good_pick [] rfl (by decide)) <| T_w [] <| hx _  (pure_some hM).symm hle
def M.spec_l4Cell (list : (List impl_Array)) (a0 : impl_Access) (point : (List Int)) : Option (Int) := do
 match ← M.spec_l4Cell_l1 list a0 point 0 0 with
 | .ret r0 => pure r0
 | .done _ =>
  pure (-1)
theorem spec_l4Cell_ok : ∀ (list : (List impl_Array)) (a0 : impl_Access) (point : (List Int)) r, M.spec_l4Cell list a0 point = some r → ∀ {imm : Imm} {p : Option Addr} {c : Nat} {p1 : Option Addr} {c1 : Nat} {p2 : Option Addr} {c2 : Nat}, (SL imm (vS p list c) list) → (SL imm (vS p1 a0.Subs c1) a0.Subs) → (SL imm (vS p2 point c2) point) → Ret Try.prog 54 [vS p list c, vA [vT a0.Array.l, vS p1 a0.Subs c1], vS p2 point c2] imm [] (spec_l4Cell_post  r) := by
 intro list a0 point r hM imm p c p1 c1 p2 c2 h h1 h2
 unfold M.spec_l4Cell at hM
 refine ret_of_J (fn := Try.f54) (c := (bodyOf Try.f54)) Try.func54 rfl rfl ?_
 rintro B - -
 have hle : imm.le imm := Imm.le.refl _
 refine J_seq <| J_region <| R_box (c := ⟨[vT a0.Array.l, vS p1 a0.Subs c1]⟩) rfl rfl rfl rfl rfl ?_
 intro b hb
 refine R_z [] [] <| T_seq <| J_seq <| J_region <| R_z [] [(7, vI 0)] <| T_seq <| J_seq <| J_seq <| J_region <| R_z [] [(8, vI 0)] <| T_seq <| J_block <| J_w [(0, vS p list c), (2, vS p2 point c2), (4, vP b 0), (7, vI 0), (8, vI 0)] ?_
 obtain ⟨o02, ho02, hM⟩ := bind_some hM
 refine spec_l4Cell_l1_ok list a0 point 0 0 o02 ho02 (Imm.le.refl _) h h2 h1 (fun _ _ _ h => h) (fun _ _ h => h) ?_ ?_
 · intro imm04  heq2 le4
   subst o02
   replace hle := hle.trans le4
   refine T_block_here <| T_seq <| J_seq <| J_region <| R_z [] [(6, vI (-1))] <| T_seq <| J_ret ?_
   obtain rfl := pure_some hM
   exact T_RS ⟨_, _, (.tmp rfl ResV.nil), good_none, ⟨_, rfl, rfl, rfl⟩⟩
 · intro r0 imm9 hs9 m9 heq9 le9 hrs9
   subst heq9
   refine T_block_ret <| T_then_ret ?_
   obtain rfl := pure_some hM
   exact T_RS hrs9
def spec_l4Cells_post (r : (List Int) × Int × Bool) : Nat → Imm → List HA → Value → Prop := fun kk imm' hs' v =>
  ∃ (v0 : Value) (v1 : Value) (v2 : Value), hs' = [] ∧ v = tupV [v0, v1, v2] ∧ SL imm' v0 r.1 ∧ v1 = .int .i64 r.2.1 ∧ v2 = .bool r.2.2
def M.spec_l4Cells_l1 (list : (List impl_Array)) (point : (List Int)) (y : (List impl_Access)) (out : List Int) (i : Int) : Option (Out (List Int) ((List Int) × Int × Bool)) := do
 if (decide (i < (y.length : Int))) then
  let x ← idx y i
  let y1 ← M.spec_l4Cell list x point
  if (decide (y1 < 0)) then
   pure (.ret (([] : List Int), 0, false))
  else
   let out2 ← app 8 out ([y1] : List Int)
   M.spec_l4Cells_l1 list point y out2 (W (i + 1))
 else
  pure (.done out)
 partial_fixpoint
theorem spec_l4Cells_l1_ok (list : (List impl_Array)) (point : (List Int)) (y : (List impl_Access)) : ∀ (out : List Int) (i : Int) (o : Out (List Int) ((List Int) × Int × Bool)), M.spec_l4Cells_l1 list point y out i = some o → ∀ {B : Base} {imm0 imm : Imm} {Q : Exit → Act → World → Prop} {s : impl_Stmt} {p : Option Addr} {c : Nat} {p1 : Option Addr} {c1 : Nat} {p2 : Option Addr} {c2 : Nat} {p3 : Option Addr} {c3 : Nat} {p4 : Option Addr} {c4 : Nat} {p5 : Option Addr} {c5 : Nat} {b : Nat} {p6 : Option Addr} {c6 : Nat} {cs : List Value} {p7 : Option Addr} {c7 : Nat} {cs1 : List Value}, imm0.le imm → (SL imm (vS p list c) list) → (SL imm (vS p5 point c5) point) → (RL imm cs y) → (SL imm (vS p1 s.Write.Subs c1) s.Write.Subs) → (SL imm (vS p2 s.Value.Index.Coefs c2) s.Value.Index.Coefs) → (SL imm (vS p3 s.Value.Read.Subs c3) s.Value.Read.Subs) → (SL imm (vS p4 s.Value.Kids c4) s.Value.Kids) → (RL imm cs1 out) → (∀ l a w, ¬ Q (.goto l) a w) → (∀ a w, ¬ Q .outgrown a w) → (∀ (imm' : Imm) (out1 : List Int) (p8 : Option Addr) (c8 : Nat) (cs2 : List Value), o = (.done out1) → imm0.le imm' → (RL imm' cs2 out1) → T 49 B Q (.exit 0) imm' [hO Int (vS p8 out1 c8) cs2, hB b [vT s.Write.Array.l, vS p1 s.Write.Subs c1, vI s.Value.Kind, vI s.Value.Num, vS p2 s.Value.Index.Coefs c2, vI s.Value.Index.Const, vT s.Value.Read.Array.l, vS p3 s.Value.Read.Subs c3, vS p4 s.Value.Kids c4]] [(0, vS p list c), (2, vS p5 point c5), (4, vP b 0), (9, vS p8 out1 c8)]) → (∀ r imm' hs' m', o = (.ret r) → imm0.le imm' → RS Try.prog Try.f43 B (spec_l4Cells_post  r) imm' hs' m' → T 49 B Q .ret imm' hs' m') → J Try.prog 49 B (nav (bodyOf Try.f43) [1, 1, 1, 0, 1, 0]) Q imm [hO impl_Access (vS p6 y c6) cs, hO Int (vS p7 out c7) cs1, hB b [vT s.Write.Array.l, vS p1 s.Write.Subs c1, vI s.Value.Kind, vI s.Value.Num, vS p2 s.Value.Index.Coefs c2, vI s.Value.Index.Const, vT s.Value.Read.Array.l, vS p3 s.Value.Read.Subs c3, vS p4 s.Value.Kids c4]] [(0, vS p list c), (2, vS p5 point c5), (4, vP b 0), (9, vS p7 out c7), (10, vS p6 y c6), (11, vI i)] := by
 refine M.spec_l4Cells_l1.partial_correctness list point y _ ?_
 intro self ih out i o hM B imm0 imm Q s p c p1 c1 p2 c2 p3 c3 p4 c4 p5 c5 b p6 c6 cs p7 c7 cs1 hle h h5 h8 h1 h2 h3 h4 h9 hg ho hx hr
 refine J_loop hg ho <| J_seq <| J_seq <| J_region <| R_z [] [(22, .bool (decide (i < (y.length : Int))))] <| T_seq <| J_cd hM ?_ ?_
 · intro hc hM
   refine J_skip <| T_seq <| J_seq <| J_block <| J_seq <| J_region <| R_d 3 [] [(25, vS p list c), (26, vS p6 y c6), (27, vI i)] ?_
   obtain ⟨x, hy1, hM⟩ := bind_some hM
   refine R_ixo 0 rfl rfl rfl h8 hy1 ?_
   intro ad ccs hat hcc hrep
   obtain ⟨v0, rfl, h11⟩ := impl_Access_open hrep
   obtain ⟨p9, c9, rfl⟩ := h11.form
   refine R_lo 0 0 hat hcc [vT x.Array.l, vS p9 x.Subs c9] (vA [vT x.Array.l, vS p9 x.Subs c9]) rfl rfl <| R_d 6 [] [(30, vS p5 point c5)] ?_
   obtain ⟨y1, hy2, hM⟩ := bind_some hM
   refine R_call (hs1 := []) (rest := [hO impl_Access (vS p6 y c6) cs, hO Int (vS p7 out c7) cs1, hB b [vT s.Write.Array.l, vS p1 s.Write.Subs c1, vI s.Value.Kind, vI s.Value.Num, vS p2 s.Value.Index.Coefs c2, vI s.Value.Index.Const, vT s.Value.Read.Array.l, vS p3 s.Value.Read.Subs c3, vS p4 s.Value.Kids c4]]) rfl rfl rfl rfl (by kernel_rfl) rfl rfl (spec_l4Cell_ok list x point _ hy2 h h11 h5) ?_
   rintro imm01 hs2 v2 k2 le1 - ⟨v01, rfl, rfl, rfl⟩ -
   replace h := h.mono le1
   replace h5 := h5.mono le1
   replace h9 := RepL.mono (fun _ _ => Rp.mono le1) h9
   replace h8 := RepL.mono (fun _ _ => Rp.mono le1) h8
   replace h1 := h1.mono le1
   replace h2 := h2.mono le1
   replace h3 := h3.mono le1
   replace h4 := h4.mono le1
   replace hle := hle.trans le1
   refine R_z [] [(12, vI y1)] <| T_seq <| J_seq <| J_seq <| J_region <| R_z [] [(33, .bool (decide (y1 < 0)))] <| T_seq <| J_cd hM ?_ ?_
   · intro hc1 hM
     refine J_seq <| J_region <| R_buildSlice (cs := []) (Rp.sz Int) rfl rfl rfl rfl (by kernel_rfl) (by kernel_rfl) ?_
     intro b3 hb3
     have h13 : RL imm01 [] ([] : List Int) := rfl
     refine R_z [] [(6, vS (some ⟨b3, 0, none⟩) ([] : List Int) 0), (7, vI 0), (8, .bool false)] <| T_seq <| J_ret <| T_then_ret <| T_block_ret <| T_then_ret <| T_then_ret <| T_freeze 0 rfl ?_
     intro imm02 le2 hl0
     have h14 := SL.of_frozen hl0 le2 h13
     replace h8 := RepL.mono (fun _ _ => Rp.mono le2) h8
     replace h9 := RepL.mono (fun _ _ => Rp.mono le2) h9
     replace h1 := h1.mono le2
     replace h2 := h2.mono le2
     replace h3 := h3.mono le2
     replace h4 := h4.mono le2
     replace hle := hle.trans le2
     exact hr _ _ _ _ (pure_some hM).symm hle ⟨_, _, (.tmp rfl (.tmp rfl (.tmp rfl ResV.nil))), good_none, ⟨_, _, _, rfl, rfl, h14, rfl, rfl⟩⟩
   · intro hc1 hM
     refine J_skip <| T_seq <| J_region <| R_d 2 [] [(35, vS p7 out c7), (36, vI y1)] <| R_buildSlice (cs := [vI y1]) (Rp.sz Int) rfl rfl rfl rfl (by kernel_rfl) (by kernel_rfl) ?_
     intro b4 hb4
     have h15 : RL imm01 [vI y1] ([y1] : List Int) := ⟨[vI y1], _, rfl, rfl, rfl, rfl⟩
     obtain ⟨out2, hy3, hM⟩ := bind_some hM
     refine R_ap 3 1 2 rfl rfl rfl h9 (.inr ⟨0, rfl⟩) h15 hy3 ?_
     intro p10 c10 cs3 h16
     exact R_hs (good_pick [1, 2, 3] (hs' := [hO impl_Access (vS p6 y c6) cs, hO Int (vS p10 out2 c10) cs3, hB b [vT s.Write.Array.l, vS p1 s.Write.Subs c1, vI s.Value.Kind, vI s.Value.Num, vS p2 s.Value.Index.Coefs c2, vI s.Value.Index.Const, vT s.Value.Read.Array.l, vS p3 s.Value.Read.Subs c3, vS p4 s.Value.Kids c4]]) rfl (by decide)) <| R_z [] [(9, vS p10 out2 c10)] <| T_block_normal <| T_seq <| J_region <| R_z [] [(11, vI (W (i + 1)))] <| T_loop <| J_w [(0, vS p list c), (2, vS p5 point c5), (4, vP b 0), (9, vS p10 out2 c10), (10, vS p6 y c6), (11, vI (W (i + 1)))] <| ih out2 (W (i + 1)) _ hM hle h h5 h8 h1 h2 h3 h4 h16 hg ho hx hr
 · intro hc hM
   exact J_exit <| T_then_exit <| T_then_exit <| T_hs (good_pick [1, 2] rfl (by decide)) <| T_w [(0, vS p list c), (2, vS p5 point c5), (4, vP b 0), (9, vS p7 out c7)] <| hx _ _ _ _ _ (pure_some hM).symm hle h9
def M.spec_l4Cells (list : (List impl_Array)) (s : impl_Stmt) (point : (List Int)) : Option ((List Int) × Int × Bool) := do
 let y ← M.spec_l3Reads ([] : List impl_Access) s.Value
 match ← M.spec_l4Cells_l1 list point y ([] : List Int) 0 with
 | .ret r0 => pure r0
 | .done out1 =>
  let y2 ← M.spec_l4Cell list s.Write point
  if (decide (y2 < 0)) then
   pure (([] : List Int), 0, false)
  else
   pure (out1, y2, true)
theorem spec_l4Cells_ok : ∀ (list : (List impl_Array)) (s : impl_Stmt) (point : (List Int)) r, M.spec_l4Cells list s point = some r → ∀ {imm : Imm} {p : Option Addr} {c : Nat} {p1 : Option Addr} {c1 : Nat} {p2 : Option Addr} {c2 : Nat} {p3 : Option Addr} {c3 : Nat} {p4 : Option Addr} {c4 : Nat} {p5 : Option Addr} {c5 : Nat}, (SL imm (vS p list c) list) → (SL imm (vS p1 s.Write.Subs c1) s.Write.Subs) → (SL imm (vS p2 s.Value.Index.Coefs c2) s.Value.Index.Coefs) → (SL imm (vS p3 s.Value.Read.Subs c3) s.Value.Read.Subs) → (SL imm (vS p4 s.Value.Kids c4) s.Value.Kids) → (SL imm (vS p5 point c5) point) → Ret Try.prog 43 [vS p list c, vA [vT s.Write.Array.l, vS p1 s.Write.Subs c1, vI s.Value.Kind, vI s.Value.Num, vS p2 s.Value.Index.Coefs c2, vI s.Value.Index.Const, vT s.Value.Read.Array.l, vS p3 s.Value.Read.Subs c3, vS p4 s.Value.Kids c4], vS p5 point c5] imm [] (spec_l4Cells_post  r) := by
 intro list s point r hM imm p c p1 c1 p2 c2 p3 c3 p4 c4 p5 c5 h h1 h2 h3 h4 h5
 unfold M.spec_l4Cells at hM
 refine ret_of_J (fn := Try.f43) (c := (bodyOf Try.f43)) Try.func43 rfl rfl ?_
 rintro B - -
 have hle : imm.le imm := Imm.le.refl _
 refine J_seq <| J_region <| R_box (c := ⟨[vT s.Write.Array.l, vS p1 s.Write.Subs c1, vI s.Value.Kind, vI s.Value.Num, vS p2 s.Value.Index.Coefs c2, vI s.Value.Index.Const, vT s.Value.Read.Array.l, vS p3 s.Value.Read.Subs c3, vS p4 s.Value.Kids c4]⟩) rfl rfl rfl rfl rfl ?_
 intro b hb
 refine R_z [] [] <| T_seq <| J_seq <| J_region <| R_buildSlice (cs := []) (Rp.sz Int) rfl rfl rfl rfl (by kernel_rfl) (by kernel_rfl) ?_
 intro b1 hb1
 have h6 : RL imm [] ([] : List Int) := rfl
 refine R_z [] [(9, vS (some ⟨b1, 0, none⟩) ([] : List Int) 0)] <| T_seq <| J_seq <| J_region <| R_buildSlice (cs := []) (Rp.sz impl_Access) rfl rfl rfl rfl (by kernel_rfl) (by kernel_rfl) ?_
 intro b2 hb2
 have h7 : RL imm [] ([] : List impl_Access) := rfl
 refine R_d 3 [2] [(17, vA [vI s.Value.Kind, vI s.Value.Num, vS p2 s.Value.Index.Coefs c2, vI s.Value.Index.Const, vT s.Value.Read.Array.l, vS p3 s.Value.Read.Subs c3, vS p4 s.Value.Kids c4])] ?_
 obtain ⟨y, hy, hM⟩ := bind_some hM
 refine R_call (hs1 := [hO impl_Access (vS (some ⟨b2, 0, none⟩) ([] : List impl_Access) 0) []]) (rest := [hO Int (vS (some ⟨b1, 0, none⟩) ([] : List Int) 0) [], hB b [vT s.Write.Array.l, vS p1 s.Write.Subs c1, vI s.Value.Kind, vI s.Value.Num, vS p2 s.Value.Index.Coefs c2, vI s.Value.Index.Const, vT s.Value.Read.Array.l, vS p3 s.Value.Read.Subs c3, vS p4 s.Value.Kids c4]]) rfl rfl rfl rfl (by kernel_rfl) rfl rfl (spec_l3Reads_ok ([] : List impl_Access) s.Value _ hy h7 h2 h3 h4) ?_
 rintro imm0 hs2 v2 k2 le - ⟨p6, c6, cs, rfl, rfl, h8⟩ -
 replace h := h.mono le
 replace h5 := h5.mono le
 replace h6 := RepL.mono (fun _ _ => Rp.mono le) h6
 replace h1 := h1.mono le
 replace h2 := h2.mono le
 replace h3 := h3.mono le
 replace h4 := h4.mono le
 replace hle := hle.trans le
 refine R_z [] [(10, vS p6 y c6)] <| T_seq <| J_seq <| J_seq <| J_region <| R_z [] [(11, vI 0)] <| T_seq <| J_block <| J_w [(0, vS p list c), (2, vS p5 point c5), (4, vP b 0), (9, vS (some ⟨b1, 0, none⟩) ([] : List Int) 0), (10, vS p6 y c6), (11, vI 0)] ?_
 obtain ⟨o0, ho0, hM⟩ := bind_some hM
 refine spec_l4Cells_l1_ok list point y ([] : List Int) 0 o0 ho0 (Imm.le.refl _) h h5 h8 h1 h2 h3 h4 h6 (fun _ _ _ h => h) (fun _ _ h => h) ?_ ?_
 · intro imm03 out1 p8 c8 cs2 heq le3 h10
   subst o0
   replace h := h.mono le3
   replace h5 := h5.mono le3
   replace h1 := h1.mono le3
   replace h2 := h2.mono le3
   replace h3 := h3.mono le3
   replace h4 := h4.mono le3
   replace hle := hle.trans le3
   refine T_block_here <| T_seq <| J_seq <| J_region <| R_d 4 [1] [(39, vS p list c), (41, vA [vT s.Write.Array.l, vS p1 s.Write.Subs c1]), (42, vS p5 point c5)] ?_
   obtain ⟨y2, hy4, hM⟩ := bind_some hM
   refine R_call (hs1 := []) (rest := [hO Int (vS p8 out1 c8) cs2, hB b [vT s.Write.Array.l, vS p1 s.Write.Subs c1, vI s.Value.Kind, vI s.Value.Num, vS p2 s.Value.Index.Coefs c2, vI s.Value.Index.Const, vT s.Value.Read.Array.l, vS p3 s.Value.Read.Subs c3, vS p4 s.Value.Kids c4]]) rfl rfl rfl rfl (by kernel_rfl) rfl rfl (spec_l4Cell_ok list s.Write point _ hy4 h h1 h5) ?_
   rintro imm04 hs2 v2 k2 le4 - ⟨v02, rfl, rfl, rfl⟩ -
   replace h10 := RepL.mono (fun _ _ => Rp.mono le4) h10
   replace h1 := h1.mono le4
   replace h2 := h2.mono le4
   replace h3 := h3.mono le4
   replace h4 := h4.mono le4
   replace hle := hle.trans le4
   refine R_z [] [(13, vI y2)] <| T_seq <| J_seq <| J_seq <| J_region <| R_z [] [(45, .bool (decide (y2 < 0)))] <| T_seq <| J_cd hM ?_ ?_
   · intro hc2 hM
     refine J_seq <| J_region <| R_buildSlice (cs := []) (Rp.sz Int) rfl rfl rfl rfl (by kernel_rfl) (by kernel_rfl) ?_
     intro b5 hb5
     have h18 : RL imm04 [] ([] : List Int) := rfl
     refine R_z [] [(6, vS (some ⟨b5, 0, none⟩) ([] : List Int) 0), (7, vI 0), (8, .bool false)] <| T_seq <| J_ret <| T_then_ret <| T_freeze 0 rfl ?_
     intro imm05 le5 hl01
     have h19 := SL.of_frozen hl01 le5 h18
     replace h10 := RepL.mono (fun _ _ => Rp.mono le5) h10
     replace h1 := h1.mono le5
     replace h2 := h2.mono le5
     replace h3 := h3.mono le5
     replace h4 := h4.mono le5
     replace hle := hle.trans le5
     obtain rfl := pure_some hM
     exact T_RS ⟨_, _, (.tmp rfl (.tmp rfl (.tmp rfl ResV.nil))), good_none, ⟨_, _, _, rfl, rfl, h19, rfl, rfl⟩⟩
   · intro hc2 hM
     refine J_skip <| T_seq <| J_seq <| J_region <| R_z [] [(6, vS p8 out1 c8), (7, vI y2), (8, .bool true)] <| T_seq <| J_ret <| T_freeze 0 rfl ?_
     intro imm06 le6 hl02
     have h20 := SL.of_frozen hl02 le6 h10
     replace h1 := h1.mono le6
     replace h2 := h2.mono le6
     replace h3 := h3.mono le6
     replace h4 := h4.mono le6
     replace hle := hle.trans le6
     obtain rfl := pure_some hM
     exact T_RS ⟨_, _, (.tmp rfl (.tmp rfl (.tmp rfl ResV.nil))), good_none, ⟨_, _, _, rfl, rfl, h20, rfl, rfl⟩⟩
 · intro r0 imm9 hs9 m9 heq9 le9 hrs9
   subst heq9
   refine T_block_ret <| T_then_ret ?_
   obtain rfl := pure_some hM
   exact T_RS hrs9
def spec_l2Range_post (r : Int × Int) : Nat → Imm → List HA → Value → Prop := fun kk imm' hs' v =>
  ∃ (v0 : Value) (v1 : Value), hs' = [] ∧ v = tupV [v0, v1] ∧ v0 = .int .i64 r.1 ∧ v1 = .int .i64 r.2
def M.spec_l2Range_l1 (loop : impl_Loop) (p2 : (List Int)) (lo : Int) (i : Int) : Option (Int) := do
 if (decide (i < (loop.Lo.length : Int))) then
  let x2 ← idx loop.Lo i
  let y2 ← M.spec_l1Eval x2 p2
  let lo2 ← (do
    if (decide (y2 > lo)) then
     pure (id y2)
    else
     pure (id lo)
      : Option Int)
  M.spec_l2Range_l1 loop p2 lo2 (W (i + 1))
 else
  pure (id lo)
 partial_fixpoint
theorem spec_l2Range_l1_ok (loop : impl_Loop) (p2 : (List Int)) : ∀ (lo : Int) (i : Int) (o : Int), M.spec_l2Range_l1 loop p2 lo i = some o → ∀ {B : Base} {imm0 imm : Imm} {Q : Exit → Act → World → Prop} {y1 : Int} {p : Option Addr} {c : Nat} {p1 : Option Addr} {c1 : Nat} {p3 : Option Addr} {c2 : Nat} {b : Nat}, imm0.le imm → (SL imm (vS p3 p2 c2) p2) → (SL imm (vS p loop.Lo c) loop.Lo) → (SL imm (vS p1 loop.Hi c1) loop.Hi) → (∀ l a w, ¬ Q (.goto l) a w) → (∀ a w, ¬ Q .outgrown a w) → (∀ (imm' : Imm) (lo1 : Int), o = lo1 → imm0.le imm' → T 62 B Q (.exit 0) imm' [hB b [vS p loop.Lo c, vS p1 loop.Hi c1]] [(1, vS p3 p2 c2), (2, vP b 0), (6, vI lo1), (7, vI y1)]) → J Try.prog 62 B (nav (bodyOf Try.f72) [1, 1, 1, 0, 1, 0]) Q imm [hB b [vS p loop.Lo c, vS p1 loop.Hi c1]] [(1, vS p3 p2 c2), (2, vP b 0), (6, vI lo), (7, vI y1), (8, vI i)] := by
 refine M.spec_l2Range_l1.partial_correctness loop p2 _ ?_
 intro self ih lo i o hM B imm0 imm Q y1 p c p1 c1 p3 c2 b hle h2 h h1 hg ho hx
 refine J_loop hg ho <| J_seq <| J_seq <| J_region <| R_z [0] [(28, .bool (decide (i < (loop.Lo.length : Int))))] <| T_seq <| J_cd hM ?_ ?_
 · intro hc hM
   refine J_skip <| T_seq <| J_seq <| J_block <| J_seq <| J_region <| R_d 3 [0] [(32, vS p loop.Lo c), (33, vI i)] ?_
   obtain ⟨x2, hy4, hM⟩ := bind_some hM
   refine R_ix rfl rfl h hy4 ?_
   intro ad2 ccs2 hat2 hrep2
   obtain ⟨v04, rfl, h7⟩ := impl_Affine_open hrep2
   obtain ⟨p6, c5, rfl⟩ := h7.form
   refine R_la 0 hat2 [vS p6 x2.Coefs c5, vI x2.Const] (vA [vS p6 x2.Coefs c5, vI x2.Const]) rfl <| R_d 6 [] [(36, vS p3 p2 c2)] ?_
   obtain ⟨y2, hy5, hM⟩ := bind_some hM
   refine R_call (hs1 := []) (rest := [hB b [vS p loop.Lo c, vS p1 loop.Hi c1]]) rfl rfl rfl rfl (by kernel_rfl) rfl rfl (spec_l1Eval_ok x2 p2 _ hy5 h7 h2) ?_
   rintro imm02 hs2 v2 k2 le2 - ⟨v05, rfl, rfl, rfl⟩ -
   replace h2 := h2.mono le2
   replace h := h.mono le2
   replace h1 := h1.mono le2
   replace hle := hle.trans le2
   refine R_z [] [(9, vI y2)] <| T_seq <| J_seq <| J_region <| R_z [] [(40, .bool (decide (y2 > lo)))] <| T_seq ?_
   obtain ⟨o0, ho0, hM⟩ := bind_some hM
   refine J_cut (fun imm' hs' m' => ∃ (lo2 : Int), o0 = lo2 ∧ imm02.le imm' ∧ hs' = [hB b [vS p loop.Lo c, vS p1 loop.Hi c1]] ∧ m' = [(1, vS p3 p2 c2), (2, vP b 0), (6, vI lo2), (7, vI y1), (8, vI i)]) ?_ ?_
   · have hle0 := hle
     have hle : imm02.le imm02 := Imm.le.refl _
     refine J_cd ho0 ?_ ?_
     · intro hc1 hM
       exact J_region <| R_z [] [(6, vI y2)] <| T_w [(1, vS p3 p2 c2), (2, vP b 0), (6, vI y2), (7, vI y1), (8, vI i)] <| T_cut ⟨_, (pure_some hM).symm, hle, rfl, rfl⟩
     · intro hc1 hM
       exact J_skip <| T_w [(1, vS p3 p2 c2), (2, vP b 0), (6, vI lo), (7, vI y1), (8, vI i)] <| T_cut ⟨_, (pure_some hM).symm, hle, rfl, rfl⟩
   · rintro imm03 hs2 m2 ⟨lo2, heq, le3, rfl, rfl⟩
     subst o0
     replace h2 := h2.mono le3
     replace h := h.mono le3
     replace h1 := h1.mono le3
     replace hle := hle.trans le3
     exact T_block_normal <| T_seq <| J_region <| R_z [] [(8, vI (W (i + 1)))] <| T_loop <| J_w [(1, vS p3 p2 c2), (2, vP b 0), (6, vI lo2), (7, vI y1), (8, vI (W (i + 1)))] <| ih lo2 (W (i + 1)) _ hM hle h2 h h1 hg ho hx
 · intro hc hM
   exact J_exit <| T_then_exit <| T_then_exit <| T_w [(1, vS p3 p2 c2), (2, vP b 0), (6, vI lo), (7, vI y1)] <| hx _ _ (pure_some hM).symm hle
def M.spec_l2Range_l2 (loop : impl_Loop) (p2 : (List Int)) (hi : Int) (i1 : Int) : Option (Int) := do
 if (decide (i1 < (loop.Hi.length : Int))) then
  let x3 ← idx loop.Hi i1
  let y3 ← M.spec_l1Eval x3 p2
  let hi2 ← (do
    if (decide (y3 < hi)) then
     pure (id y3)
    else
     pure (id hi)
      : Option Int)
  M.spec_l2Range_l2 loop p2 hi2 (W (i1 + 1))
 else
  pure (id hi)
 partial_fixpoint
theorem spec_l2Range_l2_ok (loop : impl_Loop) (p2 : (List Int)) : ∀ (hi : Int) (i1 : Int) (o : Int), M.spec_l2Range_l2 loop p2 hi i1 = some o → ∀ {B : Base} {imm0 imm : Imm} {Q : Exit → Act → World → Prop} {lo1 : Int} {p : Option Addr} {c : Nat} {p1 : Option Addr} {c1 : Nat} {p3 : Option Addr} {c2 : Nat} {b : Nat}, imm0.le imm → (SL imm (vS p3 p2 c2) p2) → (SL imm (vS p loop.Lo c) loop.Lo) → (SL imm (vS p1 loop.Hi c1) loop.Hi) → (∀ l a w, ¬ Q (.goto l) a w) → (∀ a w, ¬ Q .outgrown a w) → (∀ (imm' : Imm) (hi1 : Int), o = hi1 → imm0.le imm' → T 62 B Q (.exit 2) imm' [] [(6, vI lo1), (7, vI hi1)]) → J Try.prog 62 B (nav (bodyOf Try.f72) [1, 1, 1, 1, 0, 1, 0]) Q imm [hB b [vS p loop.Lo c, vS p1 loop.Hi c1]] [(1, vS p3 p2 c2), (2, vP b 0), (6, vI lo1), (7, vI hi), (10, vI i1)] := by
 refine M.spec_l2Range_l2.partial_correctness loop p2 _ ?_
 intro self ih hi i1 o hM B imm0 imm Q lo1 p c p1 c1 p3 c2 b hle h2 h h1 hg ho hx
 refine J_loop hg ho <| J_seq <| J_seq <| J_region <| R_z [0] [(46, .bool (decide (i1 < (loop.Hi.length : Int))))] <| T_seq <| J_cd hM ?_ ?_
 · intro hc2 hM
   refine J_skip <| T_seq <| J_seq <| J_block <| J_seq <| J_region <| R_d 3 [0] [(50, vS p1 loop.Hi c1), (51, vI i1)] ?_
   obtain ⟨x3, hy6, hM⟩ := bind_some hM
   refine R_ix rfl rfl h1 hy6 ?_
   intro ad3 ccs3 hat3 hrep3
   obtain ⟨v06, rfl, h9⟩ := impl_Affine_open hrep3
   obtain ⟨p7, c6, rfl⟩ := h9.form
   refine R_la 0 hat3 [vS p7 x3.Coefs c6, vI x3.Const] (vA [vS p7 x3.Coefs c6, vI x3.Const]) rfl <| R_d 6 [] [(54, vS p3 p2 c2)] ?_
   obtain ⟨y3, hy7, hM⟩ := bind_some hM
   refine R_call (hs1 := []) (rest := [hB b [vS p loop.Lo c, vS p1 loop.Hi c1]]) rfl rfl rfl rfl (by kernel_rfl) rfl rfl (spec_l1Eval_ok x3 p2 _ hy7 h9 h2) ?_
   rintro imm05 hs2 v2 k2 le5 - ⟨v07, rfl, rfl, rfl⟩ -
   replace h2 := h2.mono le5
   replace h := h.mono le5
   replace h1 := h1.mono le5
   replace hle := hle.trans le5
   refine R_z [] [(11, vI y3)] <| T_seq <| J_seq <| J_region <| R_z [] [(58, .bool (decide (y3 < hi)))] <| T_seq ?_
   obtain ⟨o02, ho02, hM⟩ := bind_some hM
   refine J_cut (fun imm' hs' m' => ∃ (hi2 : Int), o02 = hi2 ∧ imm05.le imm' ∧ hs' = [hB b [vS p loop.Lo c, vS p1 loop.Hi c1]] ∧ m' = [(1, vS p3 p2 c2), (2, vP b 0), (6, vI lo1), (7, vI hi2), (10, vI i1)]) ?_ ?_
   · have hle0 := hle
     have hle : imm05.le imm05 := Imm.le.refl _
     refine J_cd ho02 ?_ ?_
     · intro hc3 hM
       exact J_region <| R_z [] [(7, vI y3)] <| T_w [(1, vS p3 p2 c2), (2, vP b 0), (6, vI lo1), (7, vI y3), (10, vI i1)] <| T_cut ⟨_, (pure_some hM).symm, hle, rfl, rfl⟩
     · intro hc3 hM
       exact J_skip <| T_w [(1, vS p3 p2 c2), (2, vP b 0), (6, vI lo1), (7, vI hi), (10, vI i1)] <| T_cut ⟨_, (pure_some hM).symm, hle, rfl, rfl⟩
   · rintro imm06 hs2 m2 ⟨hi2, heq2, le6, rfl, rfl⟩
     subst o02
     replace h2 := h2.mono le6
     replace h := h.mono le6
     replace h1 := h1.mono le6
     replace hle := hle.trans le6
     exact T_block_normal <| T_seq <| J_region <| R_z [] [(10, vI (W (i1 + 1)))] <| T_loop <| J_w [(1, vS p3 p2 c2), (2, vP b 0), (6, vI lo1), (7, vI hi2), (10, vI (W (i1 + 1)))] <| ih hi2 (W (i1 + 1)) _ hM hle h2 h h1 hg ho hx
 · intro hc2 hM
   exact J_exit <| T_then_exit <| T_then_exit <| T_hs (good_pick [] rfl (by decide)) <| T_w [(6, vI lo1), (7, vI hi)] <| hx _ _ (pure_some hM).symm hle
def M.spec_l2Range (loop : impl_Loop) (p2 : (List Int)) : Option (Int × Int) := do
 let x ← idx loop.Lo 0
 let y ← M.spec_l1Eval x p2
 let x1 ← idx loop.Hi 0
 let y1 ← M.spec_l1Eval x1 p2
 let lo1 ← M.spec_l2Range_l1 loop p2 y 1
 let hi1 ← M.spec_l2Range_l2 loop p2 y1 1
 pure (lo1, hi1)
theorem spec_l2Range_ok : ∀ (loop : impl_Loop) (p2 : (List Int)) r, M.spec_l2Range loop p2 = some r → ∀ {imm : Imm} {p : Option Addr} {c : Nat} {p1 : Option Addr} {c1 : Nat} {p3 : Option Addr} {c2 : Nat}, (SL imm (vS p loop.Lo c) loop.Lo) → (SL imm (vS p1 loop.Hi c1) loop.Hi) → (SL imm (vS p3 p2 c2) p2) → Ret Try.prog 72 [vA [vS p loop.Lo c, vS p1 loop.Hi c1], vS p3 p2 c2] imm [] (spec_l2Range_post  r) := by
 intro loop p2 r hM imm p c p1 c1 p3 c2 h h1 h2
 unfold M.spec_l2Range at hM
 refine ret_of_J (fn := Try.f72) (c := (bodyOf Try.f72)) Try.func72 rfl rfl ?_
 rintro B - -
 have hle : imm.le imm := Imm.le.refl _
 refine J_seq <| J_region <| R_box (c := ⟨[vS p loop.Lo c, vS p1 loop.Hi c1]⟩) rfl rfl rfl rfl rfl ?_
 intro b hb
 refine R_z [] [] <| T_seq <| J_seq <| J_region <| R_d 2 [0] [(13, vS p loop.Lo c)] ?_
 obtain ⟨x, hy, hM⟩ := bind_some hM
 refine R_ix rfl rfl h hy ?_
 intro ad ccs hat hrep
 obtain ⟨v0, rfl, h3⟩ := impl_Affine_open hrep
 obtain ⟨p4, c3, rfl⟩ := h3.form
 refine R_la 0 hat [vS p4 x.Coefs c3, vI x.Const] (vA [vS p4 x.Coefs c3, vI x.Const]) rfl <| R_d 5 [] [(16, vS p3 p2 c2)] ?_
 obtain ⟨y, hy1, hM⟩ := bind_some hM
 refine R_call (hs1 := []) (rest := [hB b [vS p loop.Lo c, vS p1 loop.Hi c1]]) rfl rfl rfl rfl (by kernel_rfl) rfl rfl (spec_l1Eval_ok x p2 _ hy1 h3 h2) ?_
 rintro imm0 hs2 v2 k2 le - ⟨v01, rfl, rfl, rfl⟩ -
 replace h2 := h2.mono le
 replace h := h.mono le
 replace h1 := h1.mono le
 replace hle := hle.trans le
 refine R_z [] [(6, vI y)] <| T_seq <| J_seq <| J_region <| R_d 2 [0] [(19, vS p1 loop.Hi c1)] ?_
 obtain ⟨x1, hy2, hM⟩ := bind_some hM
 refine R_ix rfl rfl h1 hy2 ?_
 intro ad1 ccs1 hat1 hrep1
 obtain ⟨v02, rfl, h5⟩ := impl_Affine_open hrep1
 obtain ⟨p5, c4, rfl⟩ := h5.form
 refine R_la 0 hat1 [vS p5 x1.Coefs c4, vI x1.Const] (vA [vS p5 x1.Coefs c4, vI x1.Const]) rfl <| R_d 5 [] [(22, vS p3 p2 c2)] ?_
 obtain ⟨y1, hy3, hM⟩ := bind_some hM
 refine R_call (hs1 := []) (rest := [hB b [vS p loop.Lo c, vS p1 loop.Hi c1]]) rfl rfl rfl rfl (by kernel_rfl) rfl rfl (spec_l1Eval_ok x1 p2 _ hy3 h5 h2) ?_
 rintro imm01 hs2 v2 k2 le1 - ⟨v03, rfl, rfl, rfl⟩ -
 replace h2 := h2.mono le1
 replace h := h.mono le1
 replace h1 := h1.mono le1
 replace hle := hle.trans le1
 refine R_z [] [(7, vI y1)] <| T_seq <| J_seq <| J_seq <| J_region <| R_z [] [(8, vI 1)] <| T_seq <| J_block <| J_w [(1, vS p3 p2 c2), (2, vP b 0), (6, vI y), (7, vI y1), (8, vI 1)] ?_
 obtain ⟨o01, ho01, hM⟩ := bind_some hM
 refine spec_l2Range_l1_ok loop p2 y 1 o01 ho01 (Imm.le.refl _) h2 h h1 (fun _ _ _ h => h) (fun _ _ h => h) ?_
 intro imm04 lo1 heq1 le4
 subst o01
 replace h2 := h2.mono le4
 replace h := h.mono le4
 replace h1 := h1.mono le4
 replace hle := hle.trans le4
 refine T_block_here <| T_seq <| J_seq <| J_seq <| J_region <| R_z [] [(10, vI 1)] <| T_seq <| J_block <| J_w [(1, vS p3 p2 c2), (2, vP b 0), (6, vI lo1), (7, vI y1), (10, vI 1)] ?_
 obtain ⟨o03, ho03, hM⟩ := bind_some hM
 refine spec_l2Range_l2_ok loop p2 y1 1 o03 ho03 (Imm.le.refl _) h2 h h1 (fun _ _ _ h => h) (fun _ _ h => h) ?_
 intro imm07 hi1 heq3 le7
 subst o03
 replace hle := hle.trans le7
 refine T_block_here <| T_seq <| J_seq <| J_region <| R_z [] [(4, vI lo1), (5, vI hi1)] <| T_seq <| J_ret ?_
 obtain rfl := pure_some hM
 exact T_RS ⟨_, _, (.tmp rfl (.tmp rfl ResV.nil)), good_none, ⟨_, _, rfl, rfl, rfl, rfl⟩⟩
def spec_l2Points_post (r : (List (List Int))) : Nat → Imm → List HA → Value → Prop := fun kk imm' hs' v =>
  ∃ (a0 : Option Addr) (c0 : Nat) (s0 : List Value), hs' = [.osl (.slice a0 r.length c0) (Rp.sz (List Int)) s0] ∧ v = tupV [(.slice a0 r.length c0)] ∧ RepL (Rp.rep imm') (Rp.sz (List Int)) s0 r
mutual
def M.spec_l2Points (out : (List (List Int))) (nest : (List impl_Loop)) (p2 : (List Int)) : Option ((List (List Int))) := do
 if ((p2.length : Int) == (nest.length : Int)) then
  let l ← app 8 ([] : List Int) p2
  let t6 ← app 24 out ([l] : List (List Int))
  pure (id t6)
 else
  let x ← idx nest (p2.length : Int)
  let (y1, y2) ← M.spec_l2Range x p2
  let out2 ← M.spec_l2Points_l1 (same nest) (same p2) (same y2) (same out) (same y1)
  pure (id out2)
 partial_fixpoint
def M.spec_l2Points_l1 (nest : (List impl_Loop)) (p2 : (List Int)) (y2 : Int) (out1 : List (List Int)) (v04 : Int) : Option (List (List Int)) := do
 let t39 ← (do
   if (decide (v04 < y2)) then
    pure (decide ((out1.length : Int) ≤ 120))
   else
    pure false
     : Option Bool)
 if t39 then
  let l1 ← app 8 ([] : List Int) p2
  let l2 ← app 8 l1 ([v04] : List Int)
  let y3 ← M.spec_l2Points (same out1) (same nest) (same l2)
  M.spec_l2Points_l1 (same nest) (same p2) (same y2) (same y3) (W (v04 + 1))
 else
  pure (id out1)
 partial_fixpoint
end
theorem grp_spec_l2Points : (∀ (out : (List (List Int))) (nest : (List impl_Loop)) (p2 : (List Int)) r, M.spec_l2Points out nest p2 = some r → ∀ {imm : Imm} {p : Option Addr} {c : Nat} {cs : List Value} {p1 : Option Addr} {c1 : Nat} {p3 : Option Addr} {c2 : Nat}, (RL imm cs out) → (SL imm (vS p1 nest c1) nest) → (SL imm (vS p3 p2 c2) p2) → Ret Try.prog 52 [vS p out c, vS p1 nest c1, vS p3 p2 c2] imm [hO (List Int) (vS p out c) cs] (spec_l2Points_post  r)) ∧ (∀ (nest : (List impl_Loop)) (p2 : (List Int)) (y2 : Int) (out1 : List (List Int)) (v04 : Int) o, M.spec_l2Points_l1 nest p2 y2 out1 v04 = some o → ∀ {B : Base} {imm0 imm : Imm} {Q : Exit → Act → World → Prop}  {p1 : Option Addr} {c1 : Nat} {p3 : Option Addr} {c2 : Nat} {p8 : Option Addr} {c7 : Nat} {cs3 : List Value}, imm0.le imm → (SL imm (vS p1 nest c1) nest) → (SL imm (vS p3 p2 c2) p2) → (RL imm cs3 out1) → (∀ l a w, ¬ Q (.goto l) a w) → (∀ a w, ¬ Q .outgrown a w) → (∀ (imm' : Imm) (out2 : List (List Int)) (p9 : Option Addr) (c8 : Nat) (cs4 : List Value), o = out2 → imm0.le imm' → (RL imm' cs4 out2) → T 52 B Q (.exit 0) imm' [hO (List Int) (vS p9 out2 c8) cs4] [(0, vS p9 out2 c8)]) → J Try.prog 52 B (nav (bodyOf Try.f52) [1, 1, 1, 0, 1, 0]) Q imm [hO (List Int) (vS p8 out1 c7) cs3] [(0, vS p8 out1 c7), (1, vS p1 nest c1), (2, vS p3 p2 c2), (8, vI y2), (9, vI v04)]) := by
  refine M.spec_l2Points.mutual_partial_correctness (fun out nest p2 r => ∀ {imm : Imm} {p : Option Addr} {c : Nat} {cs : List Value} {p1 : Option Addr} {c1 : Nat} {p3 : Option Addr} {c2 : Nat}, (RL imm cs out) → (SL imm (vS p1 nest c1) nest) → (SL imm (vS p3 p2 c2) p2) → Ret Try.prog 52 [vS p out c, vS p1 nest c1, vS p3 p2 c2] imm [hO (List Int) (vS p out c) cs] (spec_l2Points_post  r)) (fun nest p2 y2 out1 v04 o => ∀ {B : Base} {imm0 imm : Imm} {Q : Exit → Act → World → Prop}  {p1 : Option Addr} {c1 : Nat} {p3 : Option Addr} {c2 : Nat} {p8 : Option Addr} {c7 : Nat} {cs3 : List Value}, imm0.le imm → (SL imm (vS p1 nest c1) nest) → (SL imm (vS p3 p2 c2) p2) → (RL imm cs3 out1) → (∀ l a w, ¬ Q (.goto l) a w) → (∀ a w, ¬ Q .outgrown a w) → (∀ (imm' : Imm) (out2 : List (List Int)) (p9 : Option Addr) (c8 : Nat) (cs4 : List Value), o = out2 → imm0.le imm' → (RL imm' cs4 out2) → T 52 B Q (.exit 0) imm' [hO (List Int) (vS p9 out2 c8) cs4] [(0, vS p9 out2 c8)]) → J Try.prog 52 B (nav (bodyOf Try.f52) [1, 1, 1, 0, 1, 0]) Q imm [hO (List Int) (vS p8 out1 c7) cs3] [(0, vS p8 out1 c7), (1, vS p1 nest c1), (2, vS p3 p2 c2), (8, vI y2), (9, vI v04)]) ?_ ?_
  · intro F_spec_l2Points_l1 ih_spec_l2Points_l1 out nest p2 r hM imm p c cs p1 c1 p3 c2 h h1 h2
    refine ret_of_J (fn := Try.f52) (c := (bodyOf Try.f52)) Try.func52 rfl rfl ?_
    rintro B - -
    have hle : imm.le imm := Imm.le.refl _
    refine J_seq <| J_region <| R_z [] [] <| T_seq <| J_seq <| J_seq <| J_region <| R_z [] [(14, .bool ((p2.length : Int) == (nest.length : Int)))] <| T_seq <| J_cd hM ?_ ?_
    · intro hc hM
      refine J_seq <| J_region <| R_d 1 [] [(15, vS p out c)] <| R_buildSlice (cs := []) (Rp.sz Int) rfl rfl rfl rfl (by kernel_rfl) (by kernel_rfl) ?_
      intro b hb
      have h3 : RL imm [] ([] : List Int) := rfl
      refine R_d 3 [] [(17, vS p3 p2 c2)] ?_
      obtain ⟨ccs, k0, k01⟩ := h2
      have h2 : SL imm (vS p3 p2 c2) p2 := ⟨_, k0, k01⟩
      obtain ⟨l, hy, hM⟩ := bind_some hM
      refine R_ap 3 1 0 rfl rfl rfl h3 (.inl k0) k01 hy ?_
      intro p4 c3 cs1 h4
      refine R_hs (good_pick [0, 1] (hs' := [hO Int (vS p4 l c3) cs1, hO (List Int) (vS p out c) cs]) rfl (by decide)) <| R_freeze 0 rfl ?_
      intro imm0 le hl0
      have h5 := SL.of_frozen hl0 le h4
      replace h := RepL.mono (fun _ _ => Rp.mono le) h
      replace h2 := h2.mono le
      replace hle := hle.trans le
      refine R_buildSlice (cs := [vS p4 l c3]) (Rp.sz (List Int)) rfl rfl rfl rfl (by kernel_rfl) (by kernel_rfl) ?_
      intro b1 hb1
      have h6 : RL imm0 [vS p4 l c3] ([l] : List (List Int)) := ⟨[vS p4 l c3], _, rfl, rfl, ⟨_, rfl, h5⟩, rfl⟩
      obtain ⟨t6, hy1, hM⟩ := bind_some hM
      refine R_ap 23 1 1 rfl rfl rfl h (.inr ⟨0, rfl⟩) h6 hy1 ?_
      intro p5 c4 cs2 h7
      refine R_hs (good_pick [1] (hs' := [hO (List Int) (vS p5 t6 c4) cs2]) rfl (by decide)) <| R_z [] [(6, vS p5 t6 c4)] <| T_seq <| J_ret <| T_then_ret ?_
      obtain rfl := pure_some hM
      exact T_RS ⟨_, _, (.tmp rfl ResV.nil), (good_pick [0] rfl (by decide)), ⟨_, _, _, rfl, rfl, h7⟩⟩
    · intro hc hM
      refine J_skip <| T_seq <| J_seq <| J_region <| R_d 3 [] [(22, vS p1 nest c1), (24, vI (p2.length : Int))] ?_
      obtain ⟨x, hy2, hM⟩ := bind_some hM
      refine R_ix rfl rfl h1 hy2 ?_
      intro ad ccs1 hat hrep
      obtain ⟨v0, v01, rfl, h8, h9⟩ := impl_Loop_open hrep
      obtain ⟨p6, c5, rfl⟩ := h8.form
      obtain ⟨p7, c6, rfl⟩ := h9.form
      refine R_la 0 hat [vS p6 x.Lo c5, vS p7 x.Hi c6] (vA [vS p6 x.Lo c5, vS p7 x.Hi c6]) rfl <| R_d 6 [] [(27, vS p3 p2 c2)] ?_
      obtain ⟨⟨y1, y2⟩, hy3, hM⟩ := bind_some hM
      refine R_call (hs1 := []) (rest := [hO (List Int) (vS p out c) cs]) rfl rfl rfl rfl (by kernel_rfl) rfl rfl (spec_l2Range_ok x p2 _ hy3 h8 h9 h2) ?_
      rintro imm01 hs2 v2 k2 le1 - ⟨v02, v03, rfl, rfl, rfl, rfl⟩ -
      replace h := RepL.mono (fun _ _ => Rp.mono le1) h
      replace h1 := h1.mono le1
      replace h2 := h2.mono le1
      replace hle := hle.trans le1
      refine R_z [] [(7, vI y1), (8, vI y2)] <| T_seq <| J_seq <| J_seq <| J_region <| R_z [] [(9, vI y1)] <| T_seq <| J_block <| J_w [(0, vS p out c), (1, vS p1 nest c1), (2, vS p3 p2 c2), (8, vI y2), (9, vI y1)] ?_
      obtain ⟨o01, ho01, hM⟩ := bind_some hM
      refine ih_spec_l2Points_l1 nest p2 y2 out y1 o01 ho01 (Imm.le.refl _) h1 h2 h (fun _ _ _ h => h) (fun _ _ h => h) ?_
      intro imm05 out2 p9 c8 cs4 heq1 le5 h13
      subst o01
      replace hle := hle.trans le5
      refine T_block_here <| T_seq <| J_seq <| J_region <| R_z [] [(6, vS p9 out2 c8)] <| T_seq <| J_ret ?_
      obtain rfl := pure_some hM
      exact T_RS ⟨_, _, (.tmp rfl ResV.nil), (good_pick [0] rfl (by decide)), ⟨_, _, _, rfl, rfl, h13⟩⟩
  · intro F_spec_l2Points F_spec_l2Points_l1 ih_spec_l2Points ih_spec_l2Points_l1 nest p2 y2 out1 v04 o hM B imm0 imm Q p1 c1 p3 c2 p8 c7 cs3 hle h1 h2 h12 hg ho hx
    refine J_loop hg ho <| J_seq <| J_seq ?_
    obtain ⟨o0, ho0, hM⟩ := bind_some hM
    refine J_cut (fun imm' hs' m' => ∃ (t39 : Bool), o0 = t39 ∧ imm.le imm' ∧ hs' = [hO (List Int) (vS p8 out1 c7) cs3] ∧ m' = [(0, vS p8 out1 c7), (1, vS p1 nest c1), (2, vS p3 p2 c2), (8, vI y2), (9, vI v04), (39, .bool t39)]) ?_ ?_
    · have hle0 := hle
      have hle : imm.le imm := Imm.le.refl _
      refine J_region <| R_d 4 [] [(35, .bool (decide (v04 < y2)))] ?_
      cases hc1 : (decide (v04 < y2)) with
      | true =>
       have hM0 := if_some_true hc1 ho0
       try rw [hc1]
       exact R_z [] [(39, .bool (decide ((out1.length : Int) ≤ 120)))] <| T_w [(0, vS p8 out1 c7), (1, vS p1 nest c1), (2, vS p3 p2 c2), (8, vI y2), (9, vI v04), (39, .bool (decide ((out1.length : Int) ≤ 120)))] <| T_cut ⟨_, (pure_some hM0).symm, hle, rfl, rfl⟩
      | false =>
       have hM01 := if_some_false hc1 ho0
       try rw [hc1]
       exact R_z [] [(39, .bool false)] <| T_w [(0, vS p8 out1 c7), (1, vS p1 nest c1), (2, vS p3 p2 c2), (8, vI y2), (9, vI v04), (39, .bool false)] <| T_cut ⟨_, (pure_some hM01).symm, hle, rfl, rfl⟩
    · rintro imm02 hs2 m2 ⟨t39, heq, le2, rfl, rfl⟩
      subst o0
      replace h12 := RepL.mono (fun _ _ => Rp.mono le2) h12
      replace h1 := h1.mono le2
      replace h2 := h2.mono le2
      replace hle := hle.trans le2
      refine T_seq <| J_cd hM ?_ ?_
      · intro hc2 hM
        refine J_skip <| T_seq <| J_seq <| J_block <| J_region <| R_d 2 [] [(42, vS p8 out1 c7), (43, vS p1 nest c1)] <| R_buildSlice (cs := []) (Rp.sz Int) rfl rfl rfl rfl (by kernel_rfl) (by kernel_rfl) ?_
        intro b2 hb2
        have h14 : RL imm02 [] ([] : List Int) := rfl
        refine R_d 4 [] [(45, vS p3 p2 c2)] ?_
        obtain ⟨ccs2, k02, k03⟩ := h2
        have h2 : SL imm02 (vS p3 p2 c2) p2 := ⟨_, k02, k03⟩
        obtain ⟨l1, hy4, hM⟩ := bind_some hM
        refine R_ap 3 1 0 rfl rfl rfl h14 (.inl k02) k03 hy4 ?_
        intro p10 c9 cs5 h15
        refine R_hs (good_pick [0, 1] (hs' := [hO Int (vS p10 l1 c9) cs5, hO (List Int) (vS p8 out1 c7) cs3]) rfl (by decide)) <| R_d 6 [] [(47, vI v04)] <| R_buildSlice (cs := [vI v04]) (Rp.sz Int) rfl rfl rfl rfl (by kernel_rfl) (by kernel_rfl) ?_
        intro b3 hb3
        have h16 : RL imm02 [vI v04] ([v04] : List Int) := ⟨[vI v04], _, rfl, rfl, rfl, rfl⟩
        obtain ⟨l2, hy5, hM⟩ := bind_some hM
        refine R_ap 3 1 1 rfl rfl rfl h15 (.inr ⟨0, rfl⟩) h16 hy5 ?_
        intro p11 c10 cs6 h17
        refine R_hs (good_pick [1, 2] (hs' := [hO Int (vS p11 l2 c10) cs6, hO (List Int) (vS p8 out1 c7) cs3]) rfl (by decide)) <| R_freeze 0 rfl ?_
        intro imm03 le3 hl01
        have h18 := SL.of_frozen hl01 le3 h17
        replace h1 := h1.mono le3
        replace h2 := h2.mono le3
        replace h12 := RepL.mono (fun _ _ => Rp.mono le3) h12
        replace hle := hle.trans le3
        obtain ⟨y3, hy6, hM⟩ := bind_some hM
        refine R_call (hs1 := [hO (List Int) (vS p8 out1 c7) cs3]) (rest := []) rfl rfl rfl rfl (by kernel_rfl) rfl rfl (ih_spec_l2Points out1 nest l2 _ hy6 h12 h1 h18) ?_
        rintro imm04 hs2 v2 k2 le4 - ⟨p12, c11, cs7, rfl, rfl, h19⟩ -
        replace h1 := h1.mono le4
        replace h2 := h2.mono le4
        replace hle := hle.trans le4
        exact R_z [] [(0, vS p12 y3 c11)] <| T_block_normal <| T_seq <| J_region <| R_z [] [(9, vI (W (v04 + 1)))] <| T_loop <| J_w [(0, vS p12 y3 c11), (1, vS p1 nest c1), (2, vS p3 p2 c2), (8, vI y2), (9, vI (W (v04 + 1)))] <| ih_spec_l2Points_l1 nest p2 y2 y3 (W (v04 + 1)) _ hM hle h1 h2 h19 hg ho hx
      · intro hc2 hM
        exact J_exit <| T_then_exit <| T_then_exit <| T_w [(0, vS p8 out1 c7)] <| hx _ _ _ _ _ (pure_some hM).symm hle h12
theorem spec_l2Points_ok : ∀ (out : (List (List Int))) (nest : (List impl_Loop)) (p2 : (List Int)) r, M.spec_l2Points out nest p2 = some r → ∀ {imm : Imm} {p : Option Addr} {c : Nat} {cs : List Value} {p1 : Option Addr} {c1 : Nat} {p3 : Option Addr} {c2 : Nat}, (RL imm cs out) → (SL imm (vS p1 nest c1) nest) → (SL imm (vS p3 p2 c2) p2) → Ret Try.prog 52 [vS p out c, vS p1 nest c1, vS p3 p2 c2] imm [hO (List Int) (vS p out c) cs] (spec_l2Points_post  r) := grp_spec_l2Points.1
def spec_l1Within_post (r : Bool) : Nat → Imm → List HA → Value → Prop := fun kk imm' hs' v =>
  ∃ (v0 : Value), hs' = [] ∧ v = tupV [v0] ∧ v0 = .bool r
def M.spec_l1Within (n0 : Int) (most : Int) : Option (Bool) := do
 let t4 ← (do
   if (decide (n0 ≥ (W (0 - most)))) then
    pure (decide (n0 ≤ most))
   else
    pure false
     : Option Bool)
 pure (id t4)
theorem spec_l1Within_ok : ∀ (n0 : Int) (most : Int) r, M.spec_l1Within n0 most = some r → ∀ {imm : Imm} , Ret Try.prog 71 [vI n0, vI most] imm [] (spec_l1Within_post  r) := by
 intro n0 most r hM imm
 unfold M.spec_l1Within at hM
 refine ret_of_J (fn := Try.f71) (c := (bodyOf Try.f71)) Try.func71 rfl rfl ?_
 rintro B - -
 have hle : imm.le imm := Imm.le.refl _
 refine J_seq <| J_region <| R_z [] [] <| T_seq <| J_seq ?_
 obtain ⟨o0, ho0, hM⟩ := bind_some hM
 refine J_cut (fun imm' hs' m' => ∃ (t4 : Bool), o0 = t4 ∧ imm.le imm' ∧ hs' = [] ∧ m' = [(4, .bool t4)]) ?_ ?_
 · have hle0 := hle
   have hle : imm.le imm := Imm.le.refl _
   refine J_region <| R_d 5 [] [(9, .bool (decide (n0 ≥ (W (0 - most)))))] ?_
   cases hc : (decide (n0 ≥ (W (0 - most)))) with
   | true =>
    have hM0 := if_some_true hc ho0
    try rw [hc]
    exact R_z [] [(4, .bool (decide (n0 ≤ most)))] <| T_w [(4, .bool (decide (n0 ≤ most)))] <| T_cut ⟨_, (pure_some hM0).symm, hle, rfl, rfl⟩
   | false =>
    have hM01 := if_some_false hc ho0
    try rw [hc]
    exact R_z [] [(4, .bool false)] <| T_w [(4, .bool false)] <| T_cut ⟨_, (pure_some hM01).symm, hle, rfl, rfl⟩
 · rintro imm0 hs2 m2 ⟨t4, heq, le, rfl, rfl⟩
   subst o0
   replace hle := hle.trans le
   refine T_seq <| J_ret ?_
   obtain rfl := pure_some hM
   exact T_RS ⟨_, _, (.tmp rfl ResV.nil), good_none, ⟨_, rfl, rfl, rfl⟩⟩
def spec_AffineValid_post (r : Bool) : Nat → Imm → List HA → Value → Prop := fun kk imm' hs' v =>
  ∃ (v0 : Value), hs' = [] ∧ v = tupV [v0] ∧ v0 = .bool r
def M.spec_AffineValid_l1 (a0 : impl_Affine) (i : Int) : Option (Out Unit (Bool)) := do
 if (decide (i < (a0.Coefs.length : Int))) then
  let x ← idx a0.Coefs i
  let y ← M.spec_l1Within x 9
  if (!y) then
   pure (.ret false)
  else
   M.spec_AffineValid_l1 a0 (W (i + 1))
 else
  pure (.done ())
 partial_fixpoint
theorem spec_AffineValid_l1_ok (a0 : impl_Affine) : ∀ (i : Int) (o : Out Unit (Bool)), M.spec_AffineValid_l1 a0 i = some o → ∀ {B : Base} {imm0 imm : Imm} {Q : Exit → Act → World → Prop}  {p : Option Addr} {c : Nat} {b : Nat}, imm0.le imm → (SL imm (vS p a0.Coefs c) a0.Coefs) → (∀ l a w, ¬ Q (.goto l) a w) → (∀ a w, ¬ Q .outgrown a w) → (∀ (imm' : Imm) , o = (.done ()) → imm0.le imm' → T 27 B Q (.exit 0) imm' [hB b [vS p a0.Coefs c, vI a0.Const]] [(1, vP b 0)]) → (∀ r imm' hs' m', o = (.ret r) → imm0.le imm' → RS Try.prog Try.f89 B (spec_AffineValid_post  r) imm' hs' m' → T 27 B Q .ret imm' hs' m') → J Try.prog 27 B (nav (bodyOf Try.f89) [1, 0, 1, 0]) Q imm [hB b [vS p a0.Coefs c, vI a0.Const]] [(1, vP b 0), (3, vI i)] := by
 refine M.spec_AffineValid_l1.partial_correctness a0 _ ?_
 intro self ih i o hM B imm0 imm Q p c b hle h hg ho hx hr
 refine J_loop hg ho <| J_seq <| J_seq <| J_region <| R_z [0] [(8, .bool (decide (i < (a0.Coefs.length : Int))))] <| T_seq <| J_cd hM ?_ ?_
 · intro hc hM
   refine J_skip <| T_seq <| J_seq <| J_block <| J_seq <| J_region <| R_d 3 [0] [(12, vS p a0.Coefs c), (13, vI i)] ?_
   obtain ⟨x, hy, hM⟩ := bind_some hM
   refine R_ix rfl rfl h hy ?_
   intro ad ccs hat hrep
   obtain rfl := hrep
   refine R_la 0 hat [vI x] (vI x) rfl ?_
   obtain ⟨y, hy1, hM⟩ := bind_some hM
   refine R_call (hs1 := []) (rest := [hB b [vS p a0.Coefs c, vI a0.Const]]) rfl rfl rfl rfl (by kernel_rfl) rfl rfl (spec_l1Within_ok x 9 _ hy1 ) ?_
   rintro imm0 hs2 v2 k2 le - ⟨v0, rfl, rfl, rfl⟩ -
   replace h := h.mono le
   replace hle := hle.trans le
   refine R_z [] [(17, .bool (!y))] <| T_seq <| J_cd hM ?_ ?_
   · intro hc1 hM
     exact J_seq <| J_region <| R_z [] [(2, .bool false)] <| T_seq <| J_ret <| T_block_ret <| T_then_ret <| T_then_ret <| hr _ _ _ _ (pure_some hM).symm hle ⟨_, _, (.tmp rfl ResV.nil), good_none, ⟨_, rfl, rfl, rfl⟩⟩
   · intro hc1 hM
     exact J_skip <| T_block_normal <| T_seq <| J_region <| R_z [] [(3, vI (W (i + 1)))] <| T_loop <| J_w [(1, vP b 0), (3, vI (W (i + 1)))] <| ih (W (i + 1)) _ hM hle h hg ho hx hr
 · intro hc hM
   exact J_exit <| T_then_exit <| T_then_exit <| T_w [(1, vP b 0)] <| hx _  (pure_some hM).symm hle
def M.spec_AffineValid (a0 : impl_Affine) : Option (Bool) := do
 match ← M.spec_AffineValid_l1 a0 0 with
 | .ret r0 => pure r0
 | .done _ =>
  let t2 ← (do
    if ((a0.Coefs.length : Int) == 4) then
     let y1 ← M.spec_l1Within a0.Const 99
     pure (id y1)
    else
     pure false
      : Option Bool)
  pure (id t2)
theorem spec_AffineValid_ok : ∀ (a0 : impl_Affine) r, M.spec_AffineValid a0 = some r → ∀ {imm : Imm} {p : Option Addr} {c : Nat}, (SL imm (vS p a0.Coefs c) a0.Coefs) → Ret Try.prog 89 [vA [vS p a0.Coefs c, vI a0.Const]] imm [] (spec_AffineValid_post  r) := by
 intro a0 r hM imm p c h
 unfold M.spec_AffineValid at hM
 refine ret_of_J (fn := Try.f89) (c := (bodyOf Try.f89)) Try.func89 rfl rfl ?_
 rintro B - -
 have hle : imm.le imm := Imm.le.refl _
 refine J_seq <| J_region <| R_box (c := ⟨[vS p a0.Coefs c, vI a0.Const]⟩) rfl rfl rfl rfl rfl ?_
 intro b hb
 refine R_z [] [] <| T_seq <| J_seq <| J_seq <| J_region <| R_z [] [(3, vI 0)] <| T_seq <| J_block <| J_w [(1, vP b 0), (3, vI 0)] ?_
 obtain ⟨o0, ho0, hM⟩ := bind_some hM
 refine spec_AffineValid_l1_ok a0 0 o0 ho0 (Imm.le.refl _) h (fun _ _ _ h => h) (fun _ _ h => h) ?_ ?_
 · intro imm01  heq le1
   subst o0
   replace h := h.mono le1
   replace hle := hle.trans le1
   refine T_block_here <| T_seq <| J_seq ?_
   obtain ⟨o01, ho01, hM⟩ := bind_some hM
   refine J_cut (fun imm' hs' m' => ∃ (t2 : Bool), o01 = t2 ∧ imm01.le imm' ∧ hs' = [] ∧ m' = [(2, .bool t2)]) ?_ ?_
   · have hle0 := hle
     have hle : imm01.le imm01 := Imm.le.refl _
     refine J_region <| R_d 5 [0] [(22, .bool ((a0.Coefs.length : Int) == 4))] ?_
     cases hc2 : ((a0.Coefs.length : Int) == 4) with
     | true =>
      have hM0 := if_some_true hc2 ho01
      try rw [hc2]
      refine R_d 7 [0] [(24, vI a0.Const)] ?_
      obtain ⟨y1, hy2, hM⟩ := bind_some hM0
      refine R_call (hs1 := []) (rest := [hB b [vS p a0.Coefs c, vI a0.Const]]) rfl rfl rfl rfl (by kernel_rfl) rfl rfl (spec_l1Within_ok a0.Const 99 _ hy2 ) ?_
      rintro imm03 hs2 v2 k2 le2 - ⟨v01, rfl, rfl, rfl⟩ -
      replace h := h.mono le2
      replace hle := hle.trans le2
      exact R_z [] [(2, .bool y1)] <| T_hs (good_pick [] rfl (by decide)) <| T_w [(2, .bool y1)] <| T_cut ⟨_, (pure_some hM).symm, hle, rfl, rfl⟩
     | false =>
      have hM01 := if_some_false hc2 ho01
      try rw [hc2]
      exact R_z [] [(2, .bool false)] <| T_hs (good_pick [] rfl (by decide)) <| T_w [(2, .bool false)] <| T_cut ⟨_, (pure_some hM01).symm, hle, rfl, rfl⟩
   · rintro imm02 hs2 m2 ⟨t2, heq1, le3, rfl, rfl⟩
     subst o01
     replace hle := hle.trans le3
     refine T_seq <| J_ret ?_
     obtain rfl := pure_some hM
     exact T_RS ⟨_, _, (.tmp rfl ResV.nil), good_none, ⟨_, rfl, rfl, rfl⟩⟩
 · intro r0 imm9 hs9 m9 heq9 le9 hrs9
   subst heq9
   refine T_block_ret <| T_then_ret ?_
   obtain rfl := pure_some hM
   exact T_RS hrs9
def spec_l1Depth_post (r : Int) : Nat → Imm → List HA → Value → Prop := fun kk imm' hs' v =>
  ∃ (v0 : Value), hs' = [] ∧ v = tupV [v0] ∧ v0 = .int .i64 r
def M.spec_l1Depth_l1 (a0 : impl_Affine) (n0 : Int) (i : Int) : Option (Int) := do
 if (decide (i < (a0.Coefs.length : Int))) then
  let x ← idx a0.Coefs i
  let n02 ← (do
    if (x != 0) then
     pure (W (i + 1))
    else
     pure (id n0)
      : Option Int)
  M.spec_l1Depth_l1 a0 n02 (W (i + 1))
 else
  pure (id n0)
 partial_fixpoint
theorem spec_l1Depth_l1_ok (a0 : impl_Affine) : ∀ (n0 : Int) (i : Int) (o : Int), M.spec_l1Depth_l1 a0 n0 i = some o → ∀ {B : Base} {imm0 imm : Imm} {Q : Exit → Act → World → Prop}  {p : Option Addr} {c : Nat} {b : Nat}, imm0.le imm → (SL imm (vS p a0.Coefs c) a0.Coefs) → (∀ l a w, ¬ Q (.goto l) a w) → (∀ a w, ¬ Q .outgrown a w) → (∀ (imm' : Imm) (n01 : Int), o = n01 → imm0.le imm' → T 21 B Q (.exit 0) imm' [] [(3, vI n01)]) → J Try.prog 21 B (nav (bodyOf Try.f90) [1, 1, 0, 1, 0]) Q imm [hB b [vS p a0.Coefs c, vI a0.Const]] [(1, vP b 0), (3, vI n0), (4, vI i)] := by
 refine M.spec_l1Depth_l1.partial_correctness a0 _ ?_
 intro self ih n0 i o hM B imm0 imm Q p c b hle h hg ho hx
 refine J_loop hg ho <| J_seq <| J_seq <| J_region <| R_z [0] [(9, .bool (decide (i < (a0.Coefs.length : Int))))] <| T_seq <| J_cd hM ?_ ?_
 · intro hc hM
   refine J_skip <| T_seq <| J_seq <| J_block <| J_seq <| J_region <| R_d 3 [0] [(13, vS p a0.Coefs c), (14, vI i)] ?_
   obtain ⟨x, hy, hM⟩ := bind_some hM
   refine R_ix rfl rfl h hy ?_
   intro ad ccs hat hrep
   obtain rfl := hrep
   refine R_la 0 hat [vI x] (vI x) rfl <| R_z [] [(17, .bool (x != 0))] <| T_seq ?_
   obtain ⟨o0, ho0, hM⟩ := bind_some hM
   refine J_cut (fun imm' hs' m' => ∃ (n02 : Int), o0 = n02 ∧ imm.le imm' ∧ hs' = [hB b [vS p a0.Coefs c, vI a0.Const]] ∧ m' = [(1, vP b 0), (3, vI n02), (4, vI i)]) ?_ ?_
   · have hle0 := hle
     have hle : imm.le imm := Imm.le.refl _
     refine J_cd ho0 ?_ ?_
     · intro hc1 hM
       exact J_region <| R_z [] [(3, vI (W (i + 1)))] <| T_w [(1, vP b 0), (3, vI (W (i + 1))), (4, vI i)] <| T_cut ⟨_, (pure_some hM).symm, hle, rfl, rfl⟩
     · intro hc1 hM
       exact J_skip <| T_w [(1, vP b 0), (3, vI n0), (4, vI i)] <| T_cut ⟨_, (pure_some hM).symm, hle, rfl, rfl⟩
   · rintro imm0 hs2 m2 ⟨n02, heq, le, rfl, rfl⟩
     subst o0
     replace h := h.mono le
     replace hle := hle.trans le
     exact T_block_normal <| T_seq <| J_region <| R_z [] [(4, vI (W (i + 1)))] <| T_loop <| J_w [(1, vP b 0), (3, vI n02), (4, vI (W (i + 1)))] <| ih n02 (W (i + 1)) _ hM hle h hg ho hx
 · intro hc hM
   exact J_exit <| T_then_exit <| T_then_exit <| T_hs (good_pick [] rfl (by decide)) <| T_w [(3, vI n0)] <| hx _ _ (pure_some hM).symm hle
def M.spec_l1Depth (a0 : impl_Affine) : Option (Int) := do
 let n01 ← M.spec_l1Depth_l1 a0 0 0
 pure (id n01)
theorem spec_l1Depth_ok : ∀ (a0 : impl_Affine) r, M.spec_l1Depth a0 = some r → ∀ {imm : Imm} {p : Option Addr} {c : Nat}, (SL imm (vS p a0.Coefs c) a0.Coefs) → Ret Try.prog 90 [vA [vS p a0.Coefs c, vI a0.Const]] imm [] (spec_l1Depth_post  r) := by
 intro a0 r hM imm p c h
 unfold M.spec_l1Depth at hM
 refine ret_of_J (fn := Try.f90) (c := (bodyOf Try.f90)) Try.func90 rfl rfl ?_
 rintro B - -
 have hle : imm.le imm := Imm.le.refl _
 refine J_seq <| J_region <| R_box (c := ⟨[vS p a0.Coefs c, vI a0.Const]⟩) rfl rfl rfl rfl rfl ?_
 intro b hb
 refine R_z [] [] <| T_seq <| J_seq <| J_region <| R_z [] [(3, vI 0)] <| T_seq <| J_seq <| J_seq <| J_region <| R_z [] [(4, vI 0)] <| T_seq <| J_block <| J_w [(1, vP b 0), (3, vI 0), (4, vI 0)] ?_
 obtain ⟨o01, ho01, hM⟩ := bind_some hM
 refine spec_l1Depth_l1_ok a0 0 0 o01 ho01 (Imm.le.refl _) h (fun _ _ _ h => h) (fun _ _ h => h) ?_
 intro imm01 n01 heq1 le1
 subst o01
 replace hle := hle.trans le1
 refine T_block_here <| T_seq <| J_seq <| J_region <| R_z [] [(2, vI n01)] <| T_seq <| J_ret ?_
 obtain rfl := pure_some hM
 exact T_RS ⟨_, _, (.tmp rfl ResV.nil), good_none, ⟨_, rfl, rfl, rfl⟩⟩
def spec_l2Side_post (r : Bool) : Nat → Imm → List HA → Value → Prop := fun kk imm' hs' v =>
  ∃ (v0 : Value), hs' = [] ∧ v = tupV [v0] ∧ v0 = .bool r
def M.spec_l2Side_l1 (list : (List impl_Affine)) (depth : Int) (i : Int) : Option (Out Unit (Bool)) := do
 if (decide (i < (list.length : Int))) then
  let t26 ← (do
    let x ← idx list i
    let y ← M.spec_AffineValid x
    if (!y) then
     pure true
    else
     let x1 ← idx list i
     let y1 ← M.spec_l1Depth x1
     pure (decide (y1 > depth))
      : Option Bool)
  if t26 then
   pure (.ret false)
  else
   M.spec_l2Side_l1 list depth (W (i + 1))
 else
  pure (.done ())
 partial_fixpoint
theorem spec_l2Side_l1_ok (list : (List impl_Affine)) (depth : Int) : ∀ (i : Int) (o : Out Unit (Bool)), M.spec_l2Side_l1 list depth i = some o → ∀ {B : Base} {imm0 imm : Imm} {Q : Exit → Act → World → Prop}  {p : Option Addr} {c : Nat}, imm0.le imm → (SL imm (vS p list c) list) → (∀ l a w, ¬ Q (.goto l) a w) → (∀ a w, ¬ Q .outgrown a w) → (∀ (imm' : Imm) , o = (.done ()) → imm0.le imm' → T 35 B Q (.exit 0) imm' [] [(0, vS p list c)]) → (∀ r imm' hs' m', o = (.ret r) → imm0.le imm' → RS Try.prog Try.f88 B (spec_l2Side_post  r) imm' hs' m' → T 35 B Q .ret imm' hs' m') → J Try.prog 35 B (nav (bodyOf Try.f88) [1, 0, 1, 0]) Q imm [] [(0, vS p list c), (1, vI depth), (5, vI i)] := by
 refine M.spec_l2Side_l1.partial_correctness list depth _ ?_
 intro self ih i o hM B imm0 imm Q p c hle h hg ho hx hr
 refine J_loop hg ho <| J_seq <| J_seq <| J_region <| R_z [] [(9, .bool (decide (i < (list.length : Int))))] <| T_seq <| J_cd hM ?_ ?_
 · intro hc hM
   refine J_skip <| T_seq <| J_seq <| J_block <| J_seq ?_
   obtain ⟨o0, ho0, hM⟩ := bind_some hM
   refine J_cut (fun imm' hs' m' => ∃ (t26 : Bool), o0 = t26 ∧ imm.le imm' ∧ hs' = [] ∧ m' = [(0, vS p list c), (1, vI depth), (5, vI i), (26, .bool t26)]) ?_ ?_
   · have hle0 := hle
     have hle : imm.le imm := Imm.le.refl _
     refine J_region <| R_d 2 [] [(12, vS p list c), (13, vI i)] ?_
     obtain ⟨x, hy, hM⟩ := bind_some ho0
     refine R_ix rfl rfl h hy ?_
     intro ad ccs hat hrep
     obtain ⟨v0, rfl, h1⟩ := impl_Affine_open hrep
     obtain ⟨p1, c1, rfl⟩ := h1.form
     refine R_la 0 hat [vS p1 x.Coefs c1, vI x.Const] (vA [vS p1 x.Coefs c1, vI x.Const]) rfl ?_
     obtain ⟨y, hy1, hM⟩ := bind_some hM
     refine R_call (hs1 := []) (rest := []) rfl rfl rfl rfl (by kernel_rfl) rfl rfl (spec_AffineValid_ok x _ hy1 h1) ?_
     rintro imm01 hs2 v2 k2 le - ⟨v01, rfl, rfl, rfl⟩ -
     replace h := h.mono le
     replace hle := hle.trans le
     refine R_d 7 [] [(18, .bool (!y))] ?_
     cases hc1 : (!y) with
     | true =>
      have hM0 := if_some_true hc1 hM
      try rw [hc1]
      exact R_z [] [(26, .bool true)] <| T_w [(0, vS p list c), (1, vI depth), (5, vI i), (26, .bool true)] <| T_cut ⟨_, (pure_some hM0).symm, hle, rfl, rfl⟩
     | false =>
      have hM01 := if_some_false hc1 hM
      try rw [hc1]
      refine R_d 9 [] [(19, vS p list c), (20, vI i)] ?_
      obtain ⟨x1, hy2, hM⟩ := bind_some hM01
      refine R_ix rfl rfl h hy2 ?_
      intro ad1 ccs1 hat1 hrep1
      obtain ⟨v02, rfl, h3⟩ := impl_Affine_open hrep1
      obtain ⟨p2, c2, rfl⟩ := h3.form
      refine R_la 0 hat1 [vS p2 x1.Coefs c2, vI x1.Const] (vA [vS p2 x1.Coefs c2, vI x1.Const]) rfl ?_
      obtain ⟨y1, hy3, hM⟩ := bind_some hM
      refine R_call (hs1 := []) (rest := []) rfl rfl rfl rfl (by kernel_rfl) rfl rfl (spec_l1Depth_ok x1 _ hy3 h3) ?_
      rintro imm02 hs2 v2 k2 le1 - ⟨v03, rfl, rfl, rfl⟩ -
      replace h := h.mono le1
      replace hle := hle.trans le1
      exact R_z [] [(26, .bool (decide (y1 > depth)))] <| T_w [(0, vS p list c), (1, vI depth), (5, vI i), (26, .bool (decide (y1 > depth)))] <| T_cut ⟨_, (pure_some hM).symm, hle, rfl, rfl⟩
   · rintro imm0 hs2 m2 ⟨t26, heq, le2, rfl, rfl⟩
     subst o0
     replace h := h.mono le2
     replace hle := hle.trans le2
     refine T_seq <| J_cd hM ?_ ?_
     · intro hc2 hM
       exact J_seq <| J_region <| R_z [] [(4, .bool false)] <| T_seq <| J_ret <| T_block_ret <| T_then_ret <| T_then_ret <| hr _ _ _ _ (pure_some hM).symm hle ⟨_, _, (.tmp rfl ResV.nil), good_none, ⟨_, rfl, rfl, rfl⟩⟩
     · intro hc2 hM
       exact J_skip <| T_block_normal <| T_seq <| J_region <| R_z [] [(5, vI (W (i + 1)))] <| T_loop <| J_w [(0, vS p list c), (1, vI depth), (5, vI (W (i + 1)))] <| ih (W (i + 1)) _ hM hle h hg ho hx hr
 · intro hc hM
   exact J_exit <| T_then_exit <| T_then_exit <| T_w [(0, vS p list c)] <| hx _  (pure_some hM).symm hle
def M.spec_l2Side (list : (List impl_Affine)) (depth : Int) : Option (Bool) := do
 match ← M.spec_l2Side_l1 list depth 0 with
 | .ret r0 => pure r0
 | .done _ =>
  let t4 ← (do
    if (decide ((list.length : Int) ≥ 1)) then
     pure (decide ((list.length : Int) ≤ 2))
    else
     pure false
      : Option Bool)
  pure (id t4)
theorem spec_l2Side_ok : ∀ (list : (List impl_Affine)) (depth : Int) r, M.spec_l2Side list depth = some r → ∀ {imm : Imm} {p : Option Addr} {c : Nat}, (SL imm (vS p list c) list) → Ret Try.prog 88 [vS p list c, vI depth] imm [] (spec_l2Side_post  r) := by
 intro list depth r hM imm p c h
 unfold M.spec_l2Side at hM
 refine ret_of_J (fn := Try.f88) (c := (bodyOf Try.f88)) Try.func88 rfl rfl ?_
 rintro B - -
 have hle : imm.le imm := Imm.le.refl _
 refine J_seq <| J_region <| R_z [] [] <| T_seq <| J_seq <| J_seq <| J_region <| R_z [] [(5, vI 0)] <| T_seq <| J_block <| J_w [(0, vS p list c), (1, vI depth), (5, vI 0)] ?_
 obtain ⟨o01, ho01, hM⟩ := bind_some hM
 refine spec_l2Side_l1_ok list depth 0 o01 ho01 (Imm.le.refl _) h (fun _ _ _ h => h) (fun _ _ h => h) ?_ ?_
 · intro imm03  heq1 le3
   subst o01
   replace h := h.mono le3
   replace hle := hle.trans le3
   refine T_block_here <| T_seq <| J_seq ?_
   obtain ⟨o02, ho02, hM⟩ := bind_some hM
   refine J_cut (fun imm' hs' m' => ∃ (t4 : Bool), o02 = t4 ∧ imm03.le imm' ∧ hs' = [] ∧ m' = [(4, .bool t4)]) ?_ ?_
   · have hle0 := hle
     have hle : imm03.le imm03 := Imm.le.refl _
     refine J_region <| R_d 4 [] [(30, .bool (decide ((list.length : Int) ≥ 1)))] ?_
     cases hc3 : (decide ((list.length : Int) ≥ 1)) with
     | true =>
      have hM02 := if_some_true hc3 ho02
      try rw [hc3]
      exact R_z [] [(4, .bool (decide ((list.length : Int) ≤ 2)))] <| T_w [(4, .bool (decide ((list.length : Int) ≤ 2)))] <| T_cut ⟨_, (pure_some hM02).symm, hle, rfl, rfl⟩
     | false =>
      have hM03 := if_some_false hc3 ho02
      try rw [hc3]
      exact R_z [] [(4, .bool false)] <| T_w [(4, .bool false)] <| T_cut ⟨_, (pure_some hM03).symm, hle, rfl, rfl⟩
   · rintro imm04 hs2 m2 ⟨t4, heq2, le4, rfl, rfl⟩
     subst o02
     replace hle := hle.trans le4
     refine T_seq <| J_ret ?_
     obtain rfl := pure_some hM
     exact T_RS ⟨_, _, (.tmp rfl ResV.nil), good_none, ⟨_, rfl, rfl, rfl⟩⟩
 · intro r0 imm9 hs9 m9 heq9 le9 hrs9
   subst heq9
   refine T_block_ret <| T_then_ret ?_
   obtain rfl := pure_some hM
   exact T_RS hrs9
def spec_NestValid_post (r : Bool) : Nat → Imm → List HA → Value → Prop := fun kk imm' hs' v =>
  ∃ (v0 : Value), hs' = [] ∧ v = tupV [v0] ∧ v0 = .bool r
def M.spec_NestValid_l1 (nest : (List impl_Loop)) (i : Int) : Option (Out Unit (Bool)) := do
 let t12 ← (do
   if (decide (i < (nest.length : Int))) then
    pure (decide ((nest.length : Int) ≤ 4))
   else
    pure false
     : Option Bool)
 if t12 then
  let t32 ← (do
    let x ← idx nest i
    let y ← M.spec_l2Side x.Lo i
    if (!y) then
     pure true
    else
     let x1 ← idx nest i
     let y1 ← M.spec_l2Side x1.Hi i
     pure (!y1)
      : Option Bool)
  if t32 then
   pure (.ret false)
  else
   M.spec_NestValid_l1 nest (W (i + 1))
 else
  pure (.done ())
 partial_fixpoint
theorem spec_NestValid_l1_ok (nest : (List impl_Loop)) : ∀ (i : Int) (o : Out Unit (Bool)), M.spec_NestValid_l1 nest i = some o → ∀ {B : Base} {imm0 imm : Imm} {Q : Exit → Act → World → Prop}  {p : Option Addr} {c : Nat}, imm0.le imm → (SL imm (vS p nest c) nest) → (∀ l a w, ¬ Q (.goto l) a w) → (∀ a w, ¬ Q .outgrown a w) → (∀ (imm' : Imm) , o = (.done ()) → imm0.le imm' → T 36 B Q (.exit 0) imm' [] [(0, vS p nest c)]) → (∀ r imm' hs' m', o = (.ret r) → imm0.le imm' → RS Try.prog Try.f66 B (spec_NestValid_post  r) imm' hs' m' → T 36 B Q .ret imm' hs' m') → J Try.prog 36 B (nav (bodyOf Try.f66) [1, 0, 1, 0]) Q imm [] [(0, vS p nest c), (3, vI i)] := by
 refine M.spec_NestValid_l1.partial_correctness nest _ ?_
 intro self ih i o hM B imm0 imm Q p c hle h hg ho hx hr
 refine J_loop hg ho <| J_seq <| J_seq ?_
 obtain ⟨o0, ho0, hM⟩ := bind_some hM
 refine J_cut (fun imm' hs' m' => ∃ (t12 : Bool), o0 = t12 ∧ imm.le imm' ∧ hs' = [] ∧ m' = [(0, vS p nest c), (3, vI i), (12, .bool t12)]) ?_ ?_
 · have hle0 := hle
   have hle : imm.le imm := Imm.le.refl _
   refine J_region <| R_d 5 [] [(8, .bool (decide (i < (nest.length : Int))))] ?_
   cases hc : (decide (i < (nest.length : Int))) with
   | true =>
    have hM0 := if_some_true hc ho0
    try rw [hc]
    exact R_z [] [(12, .bool (decide ((nest.length : Int) ≤ 4)))] <| T_w [(0, vS p nest c), (3, vI i), (12, .bool (decide ((nest.length : Int) ≤ 4)))] <| T_cut ⟨_, (pure_some hM0).symm, hle, rfl, rfl⟩
   | false =>
    have hM01 := if_some_false hc ho0
    try rw [hc]
    exact R_z [] [(12, .bool false)] <| T_w [(0, vS p nest c), (3, vI i), (12, .bool false)] <| T_cut ⟨_, (pure_some hM01).symm, hle, rfl, rfl⟩
 · rintro imm0 hs2 m2 ⟨t12, heq, le, rfl, rfl⟩
   subst o0
   replace h := h.mono le
   replace hle := hle.trans le
   refine T_seq <| J_cd hM ?_ ?_
   · intro hc1 hM
     refine J_skip <| T_seq <| J_seq <| J_block <| J_seq ?_
     obtain ⟨o01, ho01, hM⟩ := bind_some hM
     refine J_cut (fun imm' hs' m' => ∃ (t32 : Bool), o01 = t32 ∧ imm0.le imm' ∧ hs' = [] ∧ m' = [(0, vS p nest c), (3, vI i), (32, .bool t32)]) ?_ ?_
     · have hle0 := hle
       have hle : imm0.le imm0 := Imm.le.refl _
       refine J_region <| R_d 2 [] [(15, vS p nest c), (16, vI i)] ?_
       obtain ⟨x, hy, hM⟩ := bind_some ho01
       refine R_ix rfl rfl h hy ?_
       intro ad ccs hat hrep
       obtain ⟨v0, v01, rfl, h1, h2⟩ := impl_Loop_open hrep
       obtain ⟨p1, c1, rfl⟩ := h1.form
       obtain ⟨p2, c2, rfl⟩ := h2.form
       refine R_d 4 [] [(18, .pointer (some ad))] <| R_la 0 hat [vS p1 x.Lo c1] (vS p1 x.Lo c1) rfl <| R_d 6 [] [(20, vI i)] ?_
       obtain ⟨y, hy1, hM⟩ := bind_some hM
       refine R_call (hs1 := []) (rest := []) rfl rfl rfl rfl (by kernel_rfl) rfl rfl (spec_l2Side_ok x.Lo i _ hy1 h1) ?_
       rintro imm02 hs2 v2 k2 le1 - ⟨v02, rfl, rfl, rfl⟩ -
       replace h := h.mono le1
       replace hle := hle.trans le1
       refine R_d 9 [] [(23, .bool (!y))] ?_
       cases hc2 : (!y) with
       | true =>
        have hM02 := if_some_true hc2 hM
        try rw [hc2]
        exact R_z [] [(32, .bool true)] <| T_w [(0, vS p nest c), (3, vI i), (32, .bool true)] <| T_cut ⟨_, (pure_some hM02).symm, hle, rfl, rfl⟩
       | false =>
        have hM03 := if_some_false hc2 hM
        try rw [hc2]
        refine R_d 11 [] [(24, vS p nest c), (25, vI i)] ?_
        obtain ⟨x1, hy2, hM⟩ := bind_some hM03
        refine R_ix rfl rfl h hy2 ?_
        intro ad1 ccs1 hat1 hrep1
        obtain ⟨v03, v04, rfl, h4, h5⟩ := impl_Loop_open hrep1
        obtain ⟨p3, c3, rfl⟩ := h4.form
        obtain ⟨p4, c4, rfl⟩ := h5.form
        refine R_d 13 [] [(27, .pointer (some (ad1.add 1)))] <| R_la 1 hat1 [vS p4 x1.Hi c4] (vS p4 x1.Hi c4) rfl <| R_d 15 [] [(29, vI i)] ?_
        obtain ⟨y1, hy3, hM⟩ := bind_some hM
        refine R_call (hs1 := []) (rest := []) rfl rfl rfl rfl (by kernel_rfl) rfl rfl (spec_l2Side_ok x1.Hi i _ hy3 h5) ?_
        rintro imm03 hs2 v2 k2 le2 - ⟨v05, rfl, rfl, rfl⟩ -
        replace h := h.mono le2
        replace hle := hle.trans le2
        exact R_z [] [(32, .bool (!y1))] <| T_w [(0, vS p nest c), (3, vI i), (32, .bool (!y1))] <| T_cut ⟨_, (pure_some hM).symm, hle, rfl, rfl⟩
     · rintro imm01 hs2 m2 ⟨t32, heq1, le3, rfl, rfl⟩
       subst o01
       replace h := h.mono le3
       replace hle := hle.trans le3
       refine T_seq <| J_cd hM ?_ ?_
       · intro hc3 hM
         exact J_seq <| J_region <| R_z [] [(2, .bool false)] <| T_seq <| J_ret <| T_block_ret <| T_then_ret <| T_then_ret <| hr _ _ _ _ (pure_some hM).symm hle ⟨_, _, (.tmp rfl ResV.nil), good_none, ⟨_, rfl, rfl, rfl⟩⟩
       · intro hc3 hM
         exact J_skip <| T_block_normal <| T_seq <| J_region <| R_z [] [(3, vI (W (i + 1)))] <| T_loop <| J_w [(0, vS p nest c), (3, vI (W (i + 1)))] <| ih (W (i + 1)) _ hM hle h hg ho hx hr
   · intro hc1 hM
     exact J_exit <| T_then_exit <| T_then_exit <| T_w [(0, vS p nest c)] <| hx _  (pure_some hM).symm hle
def M.spec_NestValid (nest : (List impl_Loop)) : Option (Bool) := do
 match ← M.spec_NestValid_l1 nest 0 with
 | .ret r0 => pure r0
 | .done _ =>
  pure (decide ((nest.length : Int) ≤ 4))
theorem spec_NestValid_ok : ∀ (nest : (List impl_Loop)) r, M.spec_NestValid nest = some r → ∀ {imm : Imm} {p : Option Addr} {c : Nat}, (SL imm (vS p nest c) nest) → Ret Try.prog 66 [vS p nest c] imm [] (spec_NestValid_post  r) := by
 intro nest r hM imm p c h
 unfold M.spec_NestValid at hM
 refine ret_of_J (fn := Try.f66) (c := (bodyOf Try.f66)) Try.func66 rfl rfl ?_
 rintro B - -
 have hle : imm.le imm := Imm.le.refl _
 refine J_seq <| J_region <| R_z [] [] <| T_seq <| J_seq <| J_seq <| J_region <| R_z [] [(3, vI 0)] <| T_seq <| J_block <| J_w [(0, vS p nest c), (3, vI 0)] ?_
 obtain ⟨o02, ho02, hM⟩ := bind_some hM
 refine spec_NestValid_l1_ok nest 0 o02 ho02 (Imm.le.refl _) h (fun _ _ _ h => h) (fun _ _ h => h) ?_ ?_
 · intro imm04  heq2 le4
   subst o02
   replace h := h.mono le4
   replace hle := hle.trans le4
   refine T_block_here <| T_seq <| J_seq <| J_region <| R_z [] [(2, .bool (decide ((nest.length : Int) ≤ 4)))] <| T_seq <| J_ret ?_
   obtain rfl := pure_some hM
   exact T_RS ⟨_, _, (.tmp rfl ResV.nil), good_none, ⟨_, rfl, rfl, rfl⟩⟩
 · intro r0 imm9 hs9 m9 heq9 le9 hrs9
   subst heq9
   refine T_block_ret <| T_then_ret ?_
   obtain rfl := pure_some hM
   exact T_RS hrs9
def spec_l2Work_post (r : Int) : Nat → Imm → List HA → Value → Prop := fun kk imm' hs' v =>
  ∃ (v0 : Value), hs' = [] ∧ v = tupV [v0] ∧ v0 = .int .i64 r
mutual
def M.spec_l2Work (nest : (List impl_Loop)) (p1 : (List Int)) (most : Int) : Option (Int) := do
 if ((p1.length : Int) == (nest.length : Int)) then
  pure (id 1)
 else
  let x ← idx nest (p1.length : Int)
  let (y1, y2) ← M.spec_l2Range x p1
  let n01 ← M.spec_l2Work_l1 (same nest) (same p1) (same most) (same y2) (same 1) (same y1)
  pure (id n01)
 partial_fixpoint
def M.spec_l2Work_l1 (nest : (List impl_Loop)) (p1 : (List Int)) (most : Int) (y2 : Int) (n0 : Int) (v04 : Int) : Option (Int) := do
 let t35 ← (do
   if (decide (v04 < y2)) then
    pure (decide (n0 ≤ most))
   else
    pure false
     : Option Bool)
 if t35 then
  let l ← app 8 ([] : List Int) p1
  let l1 ← app 8 l ([v04] : List Int)
  let y3 ← M.spec_l2Work (same nest) (same l1) (W (most - n0))
  M.spec_l2Work_l1 (same nest) (same p1) (same most) (same y2) (W (n0 + y3)) (W (v04 + 1))
 else
  pure (id n0)
 partial_fixpoint
end
theorem grp_spec_l2Work : (∀ (nest : (List impl_Loop)) (p1 : (List Int)) (most : Int) r, M.spec_l2Work nest p1 most = some r → ∀ {imm : Imm} {p : Option Addr} {c : Nat} {p2 : Option Addr} {c1 : Nat}, (SL imm (vS p nest c) nest) → (SL imm (vS p2 p1 c1) p1) → Ret Try.prog 67 [vS p nest c, vS p2 p1 c1, vI most] imm [] (spec_l2Work_post  r)) ∧ (∀ (nest : (List impl_Loop)) (p1 : (List Int)) (most : Int) (y2 : Int) (n0 : Int) (v04 : Int) o, M.spec_l2Work_l1 nest p1 most y2 n0 v04 = some o → ∀ {B : Base} {imm0 imm : Imm} {Q : Exit → Act → World → Prop}  {p : Option Addr} {c : Nat} {p2 : Option Addr} {c1 : Nat}, imm0.le imm → (SL imm (vS p nest c) nest) → (SL imm (vS p2 p1 c1) p1) → (∀ l a w, ¬ Q (.goto l) a w) → (∀ a w, ¬ Q .outgrown a w) → (∀ (imm' : Imm) (n01 : Int), o = n01 → imm0.le imm' → T 52 B Q (.exit 0) imm' [] [(7, vI n01)]) → J Try.prog 52 B (nav (bodyOf Try.f67) [1, 1, 1, 1, 0, 1, 0]) Q imm [] [(0, vS p nest c), (1, vS p2 p1 c1), (2, vI most), (7, vI n0), (9, vI y2), (10, vI v04)]) := by
  refine M.spec_l2Work.mutual_partial_correctness (fun nest p1 most r => ∀ {imm : Imm} {p : Option Addr} {c : Nat} {p2 : Option Addr} {c1 : Nat}, (SL imm (vS p nest c) nest) → (SL imm (vS p2 p1 c1) p1) → Ret Try.prog 67 [vS p nest c, vS p2 p1 c1, vI most] imm [] (spec_l2Work_post  r)) (fun nest p1 most y2 n0 v04 o => ∀ {B : Base} {imm0 imm : Imm} {Q : Exit → Act → World → Prop}  {p : Option Addr} {c : Nat} {p2 : Option Addr} {c1 : Nat}, imm0.le imm → (SL imm (vS p nest c) nest) → (SL imm (vS p2 p1 c1) p1) → (∀ l a w, ¬ Q (.goto l) a w) → (∀ a w, ¬ Q .outgrown a w) → (∀ (imm' : Imm) (n01 : Int), o = n01 → imm0.le imm' → T 52 B Q (.exit 0) imm' [] [(7, vI n01)]) → J Try.prog 52 B (nav (bodyOf Try.f67) [1, 1, 1, 1, 0, 1, 0]) Q imm [] [(0, vS p nest c), (1, vS p2 p1 c1), (2, vI most), (7, vI n0), (9, vI y2), (10, vI v04)]) ?_ ?_
  · intro F_spec_l2Work_l1 ih_spec_l2Work_l1 nest p1 most r hM imm p c p2 c1 h h1
    refine ret_of_J (fn := Try.f67) (c := (bodyOf Try.f67)) Try.func67 rfl rfl ?_
    rintro B - -
    have hle : imm.le imm := Imm.le.refl _
    refine J_seq <| J_region <| R_z [] [] <| T_seq <| J_seq <| J_region <| R_z [] [(7, vI 1)] <| T_seq <| J_seq <| J_seq <| J_region <| R_z [] [(15, .bool ((p1.length : Int) == (nest.length : Int)))] <| T_seq <| J_cd hM ?_ ?_
    · intro hc hM
      refine J_seq <| J_region <| R_z [] [(6, vI 1)] <| T_seq <| J_ret <| T_then_ret ?_
      obtain rfl := pure_some hM
      exact T_RS ⟨_, _, (.tmp rfl ResV.nil), good_none, ⟨_, rfl, rfl, rfl⟩⟩
    · intro hc hM
      refine J_skip <| T_seq <| J_seq <| J_region <| R_d 3 [] [(18, vS p nest c), (20, vI (p1.length : Int))] ?_
      obtain ⟨x, hy, hM⟩ := bind_some hM
      refine R_ix rfl rfl h hy ?_
      intro ad ccs hat hrep
      obtain ⟨v0, v01, rfl, h2, h3⟩ := impl_Loop_open hrep
      obtain ⟨p3, c2, rfl⟩ := h2.form
      obtain ⟨p4, c3, rfl⟩ := h3.form
      refine R_la 0 hat [vS p3 x.Lo c2, vS p4 x.Hi c3] (vA [vS p3 x.Lo c2, vS p4 x.Hi c3]) rfl <| R_d 6 [] [(23, vS p2 p1 c1)] ?_
      obtain ⟨⟨y1, y2⟩, hy1, hM⟩ := bind_some hM
      refine R_call (hs1 := []) (rest := []) rfl rfl rfl rfl (by kernel_rfl) rfl rfl (spec_l2Range_ok x p1 _ hy1 h2 h3 h1) ?_
      rintro imm0 hs2 v2 k2 le - ⟨v02, v03, rfl, rfl, rfl, rfl⟩ -
      replace h := h.mono le
      replace h1 := h1.mono le
      replace hle := hle.trans le
      refine R_z [] [(8, vI y1), (9, vI y2)] <| T_seq <| J_seq <| J_seq <| J_region <| R_z [] [(10, vI y1)] <| T_seq <| J_block <| J_w [(0, vS p nest c), (1, vS p2 p1 c1), (2, vI most), (7, vI 1), (9, vI y2), (10, vI y1)] ?_
      obtain ⟨o01, ho01, hM⟩ := bind_some hM
      refine ih_spec_l2Work_l1 nest p1 most y2 1 y1 o01 ho01 (Imm.le.refl _) h h1 (fun _ _ _ h => h) (fun _ _ h => h) ?_
      intro imm04 n01 heq1 le4
      subst o01
      replace hle := hle.trans le4
      refine T_block_here <| T_seq <| J_seq <| J_region <| R_z [] [(6, vI n01)] <| T_seq <| J_ret ?_
      obtain rfl := pure_some hM
      exact T_RS ⟨_, _, (.tmp rfl ResV.nil), good_none, ⟨_, rfl, rfl, rfl⟩⟩
  · intro F_spec_l2Work F_spec_l2Work_l1 ih_spec_l2Work ih_spec_l2Work_l1 nest p1 most y2 n0 v04 o hM B imm0 imm Q p c p2 c1 hle h h1 hg ho hx
    refine J_loop hg ho <| J_seq <| J_seq ?_
    obtain ⟨o0, ho0, hM⟩ := bind_some hM
    refine J_cut (fun imm' hs' m' => ∃ (t35 : Bool), o0 = t35 ∧ imm.le imm' ∧ hs' = [] ∧ m' = [(0, vS p nest c), (1, vS p2 p1 c1), (2, vI most), (7, vI n0), (9, vI y2), (10, vI v04), (35, .bool t35)]) ?_ ?_
    · have hle0 := hle
      have hle : imm.le imm := Imm.le.refl _
      refine J_region <| R_d 4 [] [(31, .bool (decide (v04 < y2)))] ?_
      cases hc1 : (decide (v04 < y2)) with
      | true =>
       have hM0 := if_some_true hc1 ho0
       try rw [hc1]
       exact R_z [] [(35, .bool (decide (n0 ≤ most)))] <| T_w [(0, vS p nest c), (1, vS p2 p1 c1), (2, vI most), (7, vI n0), (9, vI y2), (10, vI v04), (35, .bool (decide (n0 ≤ most)))] <| T_cut ⟨_, (pure_some hM0).symm, hle, rfl, rfl⟩
      | false =>
       have hM01 := if_some_false hc1 ho0
       try rw [hc1]
       exact R_z [] [(35, .bool false)] <| T_w [(0, vS p nest c), (1, vS p2 p1 c1), (2, vI most), (7, vI n0), (9, vI y2), (10, vI v04), (35, .bool false)] <| T_cut ⟨_, (pure_some hM01).symm, hle, rfl, rfl⟩
    · rintro imm01 hs2 m2 ⟨t35, heq, le1, rfl, rfl⟩
      subst o0
      replace h := h.mono le1
      replace h1 := h1.mono le1
      replace hle := hle.trans le1
      refine T_seq <| J_cd hM ?_ ?_
      · intro hc2 hM
        refine J_skip <| T_seq <| J_seq <| J_block <| J_region <| R_d 2 [] [(38, vI n0), (39, vS p nest c)] <| R_buildSlice (cs := []) (Rp.sz Int) rfl rfl rfl rfl (by kernel_rfl) (by kernel_rfl) ?_
        intro b hb
        have h6 : RL imm01 [] ([] : List Int) := rfl
        refine R_d 4 [] [(41, vS p2 p1 c1)] ?_
        obtain ⟨ccs1, k0, k01⟩ := h1
        have h1 : SL imm01 (vS p2 p1 c1) p1 := ⟨_, k0, k01⟩
        obtain ⟨l, hy2, hM⟩ := bind_some hM
        refine R_ap 3 1 0 rfl rfl rfl h6 (.inl k0) k01 hy2 ?_
        intro p5 c4 cs h7
        refine R_hs (good_pick [0] (hs' := [hO Int (vS p5 l c4) cs]) rfl (by decide)) <| R_d 6 [] [(43, vI v04)] <| R_buildSlice (cs := [vI v04]) (Rp.sz Int) rfl rfl rfl rfl (by kernel_rfl) (by kernel_rfl) ?_
        intro b1 hb1
        have h8 : RL imm01 [vI v04] ([v04] : List Int) := ⟨[vI v04], _, rfl, rfl, rfl, rfl⟩
        obtain ⟨l1, hy3, hM⟩ := bind_some hM
        refine R_ap 3 1 1 rfl rfl rfl h7 (.inr ⟨0, rfl⟩) h8 hy3 ?_
        intro p6 c5 cs1 h9
        refine R_hs (good_pick [1] (hs' := [hO Int (vS p6 l1 c5) cs1]) rfl (by decide)) <| R_d 11 [] [(48, vI (W (most - n0)))] <| R_freeze 0 rfl ?_
        intro imm02 le2 hl0
        have h10 := SL.of_frozen hl0 le2 h9
        replace h := h.mono le2
        replace h1 := h1.mono le2
        replace hle := hle.trans le2
        obtain ⟨y3, hy4, hM⟩ := bind_some hM
        refine R_call (hs1 := []) (rest := []) rfl rfl rfl rfl (by kernel_rfl) rfl rfl (ih_spec_l2Work nest l1 (W (most - n0)) _ hy4 h h10) ?_
        rintro imm03 hs2 v2 k2 le3 - ⟨v05, rfl, rfl, rfl⟩ -
        replace h := h.mono le3
        replace h1 := h1.mono le3
        replace hle := hle.trans le3
        exact R_z [] [(7, vI (W (n0 + y3)))] <| T_block_normal <| T_seq <| J_region <| R_z [] [(10, vI (W (v04 + 1)))] <| T_loop <| J_w [(0, vS p nest c), (1, vS p2 p1 c1), (2, vI most), (7, vI (W (n0 + y3))), (9, vI y2), (10, vI (W (v04 + 1)))] <| ih_spec_l2Work_l1 nest p1 most y2 (W (n0 + y3)) (W (v04 + 1)) _ hM hle h h1 hg ho hx
      · intro hc2 hM
        exact J_exit <| T_then_exit <| T_then_exit <| T_w [(7, vI n0)] <| hx _ _ (pure_some hM).symm hle
theorem spec_l2Work_ok : ∀ (nest : (List impl_Loop)) (p1 : (List Int)) (most : Int) r, M.spec_l2Work nest p1 most = some r → ∀ {imm : Imm} {p : Option Addr} {c : Nat} {p2 : Option Addr} {c1 : Nat}, (SL imm (vS p nest c) nest) → (SL imm (vS p2 p1 c1) p1) → Ret Try.prog 67 [vS p nest c, vS p2 p1 c1, vI most] imm [] (spec_l2Work_post  r) := grp_spec_l2Work.1
def spec_NestPoints_post (r : (List (List Int)) × Bool) : Nat → Imm → List HA → Value → Prop := fun kk imm' hs' v =>
  ∃ (v0 : Value) (v1 : Value), hs' = [] ∧ v = tupV [v0, v1] ∧ SL imm' v0 r.1 ∧ v1 = .bool r.2
def M.spec_NestPoints (nest : (List impl_Loop)) : Option ((List (List Int)) × Bool) := do
 let t12 ← (do
   let y ← M.spec_NestValid nest
   if (!y) then
    pure true
   else
    let y1 ← M.spec_l2Work nest ([] : List Int) 1200
    pure (decide (y1 > 1200))
     : Option Bool)
 if t12 then
  pure (([] : List (List Int)), false)
 else
  let y2 ← M.spec_l2Points ([] : List (List Int)) nest ([] : List Int)
  if (decide ((y2.length : Int) > 120)) then
   pure (([] : List (List Int)), false)
  else
   pure (y2, true)
theorem spec_NestPoints_ok : ∀ (nest : (List impl_Loop)) r, M.spec_NestPoints nest = some r → ∀ {imm : Imm} {p : Option Addr} {c : Nat}, (SL imm (vS p nest c) nest) → Ret Try.prog 49 [vS p nest c] imm [] (spec_NestPoints_post  r) := by
 intro nest r hM imm p c h
 unfold M.spec_NestPoints at hM
 refine ret_of_J (fn := Try.f49) (c := (bodyOf Try.f49)) Try.func49 rfl rfl ?_
 rintro B - -
 have hle : imm.le imm := Imm.le.refl _
 refine J_seq <| J_region <| R_z [] [] <| T_seq <| J_seq <| J_seq ?_
 obtain ⟨o0, ho0, hM⟩ := bind_some hM
 refine J_cut (fun imm' hs' m' => ∃ (t12 : Bool), o0 = t12 ∧ imm.le imm' ∧ hs' = [] ∧ m' = [(0, vS p nest c), (12, .bool t12)]) ?_ ?_
 · have hle0 := hle
   have hle : imm.le imm := Imm.le.refl _
   refine J_region <| R_d 1 [] [(5, vS p nest c)] ?_
   obtain ⟨y, hy, hM⟩ := bind_some ho0
   refine R_call (hs1 := []) (rest := []) rfl rfl rfl rfl (by kernel_rfl) rfl rfl (spec_NestValid_ok nest _ hy h) ?_
   rintro imm01 hs2 v2 k2 le - ⟨v0, rfl, rfl, rfl⟩ -
   replace h := h.mono le
   replace hle := hle.trans le
   refine R_d 4 [] [(8, .bool (!y))] ?_
   cases hc : (!y) with
   | true =>
    have hM0 := if_some_true hc hM
    try rw [hc]
    exact R_z [] [(12, .bool true)] <| T_w [(0, vS p nest c), (12, .bool true)] <| T_cut ⟨_, (pure_some hM0).symm, hle, rfl, rfl⟩
   | false =>
    have hM01 := if_some_false hc hM
    try rw [hc]
    refine R_d 5 [] [(9, vS p nest c)] ?_
    obtain ⟨y1, hy1, hM⟩ := bind_some hM01
    refine R_call (hs1 := []) (rest := []) rfl rfl rfl rfl (by kernel_rfl) rfl rfl (spec_l2Work_ok nest ([] : List Int) 1200 _ hy1 h (SL.nil _)) ?_
    rintro imm02 hs2 v2 k2 le1 - ⟨v01, rfl, rfl, rfl⟩ -
    replace h := h.mono le1
    replace hle := hle.trans le1
    exact R_z [] [(12, .bool (decide (y1 > 1200)))] <| T_w [(0, vS p nest c), (12, .bool (decide (y1 > 1200)))] <| T_cut ⟨_, (pure_some hM).symm, hle, rfl, rfl⟩
 · rintro imm0 hs2 m2 ⟨t12, heq, le2, rfl, rfl⟩
   subst o0
   replace h := h.mono le2
   replace hle := hle.trans le2
   refine T_seq <| J_cd hM ?_ ?_
   · intro hc1 hM
     refine J_seq <| J_region <| R_buildSlice (cs := []) (Rp.sz (List Int)) rfl rfl rfl rfl (by kernel_rfl) (by kernel_rfl) ?_
     intro b hb
     have h3 : RL imm0 [] ([] : List (List Int)) := rfl
     refine R_z [] [(2, vS (some ⟨b, 0, none⟩) ([] : List (List Int)) 0), (3, .bool false)] <| T_seq <| J_ret <| T_then_ret <| T_freeze 0 rfl ?_
     intro imm03 le3 hl0
     have h4 := SL.of_frozen hl0 le3 h3
     replace hle := hle.trans le3
     obtain rfl := pure_some hM
     exact T_RS ⟨_, _, (.tmp rfl (.tmp rfl ResV.nil)), good_none, ⟨_, _, rfl, rfl, h4, rfl⟩⟩
   · intro hc1 hM
     refine J_skip <| T_seq <| J_seq <| J_region <| R_buildSlice (cs := []) (Rp.sz (List Int)) rfl rfl rfl rfl (by kernel_rfl) (by kernel_rfl) ?_
     intro b1 hb1
     have h5 : RL imm0 [] ([] : List (List Int)) := rfl
     refine R_d 2 [] [(15, vS p nest c)] ?_
     obtain ⟨y2, hy2, hM⟩ := bind_some hM
     refine R_call (hs1 := [hO (List Int) (vS (some ⟨b1, 0, none⟩) ([] : List (List Int)) 0) []]) (rest := []) rfl rfl rfl rfl (by kernel_rfl) rfl rfl (spec_l2Points_ok ([] : List (List Int)) nest ([] : List Int) _ hy2 h5 h (SL.nil _)) ?_
     rintro imm04 hs2 v2 k2 le4 - ⟨p1, c1, cs, rfl, rfl, h6⟩ -
     replace hle := hle.trans le4
     refine R_z [] [(4, vS p1 y2 c1)] <| T_seq <| J_seq <| J_seq <| J_region <| R_z [] [(19, .bool (decide ((y2.length : Int) > 120)))] <| T_seq <| J_cd hM ?_ ?_
     · intro hc2 hM
       refine J_seq <| J_region <| R_buildSlice (cs := []) (Rp.sz (List Int)) rfl rfl rfl rfl (by kernel_rfl) (by kernel_rfl) ?_
       intro b2 hb2
       have h7 : RL imm04 [] ([] : List (List Int)) := rfl
       refine R_z [] [(2, vS (some ⟨b2, 0, none⟩) ([] : List (List Int)) 0), (3, .bool false)] <| T_seq <| J_ret <| T_then_ret <| T_freeze 0 rfl ?_
       intro imm05 le5 hl01
       have h8 := SL.of_frozen hl01 le5 h7
       replace h6 := RepL.mono (fun _ _ => Rp.mono le5) h6
       replace hle := hle.trans le5
       obtain rfl := pure_some hM
       exact T_RS ⟨_, _, (.tmp rfl (.tmp rfl ResV.nil)), good_none, ⟨_, _, rfl, rfl, h8, rfl⟩⟩
     · intro hc2 hM
       refine J_skip <| T_seq <| J_seq <| J_region <| R_z [] [(2, vS p1 y2 c1), (3, .bool true)] <| T_seq <| J_ret <| T_freeze 0 rfl ?_
       intro imm06 le6 hl02
       have h9 := SL.of_frozen hl02 le6 h6
       replace hle := hle.trans le6
       obtain rfl := pure_some hM
       exact T_RS ⟨_, _, (.tmp rfl (.tmp rfl ResV.nil)), good_none, ⟨_, _, rfl, rfl, h9, rfl⟩⟩
def spec_l3Access_post (r : Bool) : Nat → Imm → List HA → Value → Prop := fun kk imm' hs' v =>
  ∃ (v0 : Value), hs' = [] ∧ v = tupV [v0] ∧ v0 = .bool r
def M.spec_l3Access_l1 (a0 : impl_Access) (depth : Int) (i : Int) : Option (Out Unit (Bool)) := do
 if (decide (i < (a0.Subs.length : Int))) then
  let t29 ← (do
    let x ← idx a0.Subs i
    let y ← M.spec_AffineValid x
    if (!y) then
     pure true
    else
     let x1 ← idx a0.Subs i
     let y1 ← M.spec_l1Depth x1
     pure (decide (y1 > depth))
      : Option Bool)
  if t29 then
   pure (.ret false)
  else
   M.spec_l3Access_l1 a0 depth (W (i + 1))
 else
  pure (.done ())
 partial_fixpoint
theorem spec_l3Access_l1_ok (a0 : impl_Access) (depth : Int) : ∀ (i : Int) (o : Out Unit (Bool)), M.spec_l3Access_l1 a0 depth i = some o → ∀ {B : Base} {imm0 imm : Imm} {Q : Exit → Act → World → Prop}  {p : Option Addr} {c : Nat} {b : Nat}, imm0.le imm → (SL imm (vS p a0.Subs c) a0.Subs) → (∀ l a w, ¬ Q (.goto l) a w) → (∀ a w, ¬ Q .outgrown a w) → (∀ (imm' : Imm) , o = (.done ()) → imm0.le imm' → T 56 B Q (.exit 0) imm' [hB b [vT a0.Array.l, vS p a0.Subs c]] [(2, vP b 0)]) → (∀ r imm' hs' m', o = (.ret r) → imm0.le imm' → RS Try.prog Try.f68 B (spec_l3Access_post  r) imm' hs' m' → T 56 B Q .ret imm' hs' m') → J Try.prog 56 B (nav (bodyOf Try.f68) [1, 0, 1, 0]) Q imm [hB b [vT a0.Array.l, vS p a0.Subs c]] [(1, vI depth), (2, vP b 0), (5, vI i)] := by
 refine M.spec_l3Access_l1.partial_correctness a0 depth _ ?_
 intro self ih i o hM B imm0 imm Q p c b hle h hg ho hx hr
 refine J_loop hg ho <| J_seq <| J_seq <| J_region <| R_z [0] [(10, .bool (decide (i < (a0.Subs.length : Int))))] <| T_seq <| J_cd hM ?_ ?_
 · intro hc hM
   refine J_skip <| T_seq <| J_seq <| J_block <| J_seq ?_
   obtain ⟨o0, ho0, hM⟩ := bind_some hM
   refine J_cut (fun imm' hs' m' => ∃ (t29 : Bool), o0 = t29 ∧ imm.le imm' ∧ hs' = [hB b [vT a0.Array.l, vS p a0.Subs c]] ∧ m' = [(1, vI depth), (2, vP b 0), (5, vI i), (29, .bool t29)]) ?_ ?_
   · have hle0 := hle
     have hle : imm.le imm := Imm.le.refl _
     refine J_region <| R_d 3 [0] [(14, vS p a0.Subs c), (15, vI i)] ?_
     obtain ⟨x, hy, hM⟩ := bind_some ho0
     refine R_ix rfl rfl h hy ?_
     intro ad ccs hat hrep
     obtain ⟨v0, rfl, h1⟩ := impl_Affine_open hrep
     obtain ⟨p1, c1, rfl⟩ := h1.form
     refine R_la 0 hat [vS p1 x.Coefs c1, vI x.Const] (vA [vS p1 x.Coefs c1, vI x.Const]) rfl ?_
     obtain ⟨y, hy1, hM⟩ := bind_some hM
     refine R_call (hs1 := []) (rest := [hB b [vT a0.Array.l, vS p a0.Subs c]]) rfl rfl rfl rfl (by kernel_rfl) rfl rfl (spec_AffineValid_ok x _ hy1 h1) ?_
     rintro imm01 hs2 v2 k2 le - ⟨v01, rfl, rfl, rfl⟩ -
     replace h := h.mono le
     replace hle := hle.trans le
     refine R_d 8 [] [(20, .bool (!y))] ?_
     cases hc1 : (!y) with
     | true =>
      have hM0 := if_some_true hc1 hM
      try rw [hc1]
      exact R_z [] [(29, .bool true)] <| T_w [(1, vI depth), (2, vP b 0), (5, vI i), (29, .bool true)] <| T_cut ⟨_, (pure_some hM0).symm, hle, rfl, rfl⟩
     | false =>
      have hM01 := if_some_false hc1 hM
      try rw [hc1]
      refine R_d 11 [0] [(22, vS p a0.Subs c), (23, vI i)] ?_
      obtain ⟨x1, hy2, hM⟩ := bind_some hM01
      refine R_ix rfl rfl h hy2 ?_
      intro ad1 ccs1 hat1 hrep1
      obtain ⟨v02, rfl, h3⟩ := impl_Affine_open hrep1
      obtain ⟨p2, c2, rfl⟩ := h3.form
      refine R_la 0 hat1 [vS p2 x1.Coefs c2, vI x1.Const] (vA [vS p2 x1.Coefs c2, vI x1.Const]) rfl ?_
      obtain ⟨y1, hy3, hM⟩ := bind_some hM
      refine R_call (hs1 := []) (rest := [hB b [vT a0.Array.l, vS p a0.Subs c]]) rfl rfl rfl rfl (by kernel_rfl) rfl rfl (spec_l1Depth_ok x1 _ hy3 h3) ?_
      rintro imm02 hs2 v2 k2 le1 - ⟨v03, rfl, rfl, rfl⟩ -
      replace h := h.mono le1
      replace hle := hle.trans le1
      exact R_z [] [(29, .bool (decide (y1 > depth)))] <| T_w [(1, vI depth), (2, vP b 0), (5, vI i), (29, .bool (decide (y1 > depth)))] <| T_cut ⟨_, (pure_some hM).symm, hle, rfl, rfl⟩
   · rintro imm0 hs2 m2 ⟨t29, heq, le2, rfl, rfl⟩
     subst o0
     replace h := h.mono le2
     replace hle := hle.trans le2
     refine T_seq <| J_cd hM ?_ ?_
     · intro hc2 hM
       exact J_seq <| J_region <| R_z [] [(4, .bool false)] <| T_seq <| J_ret <| T_block_ret <| T_then_ret <| T_then_ret <| hr _ _ _ _ (pure_some hM).symm hle ⟨_, _, (.tmp rfl ResV.nil), good_none, ⟨_, rfl, rfl, rfl⟩⟩
     · intro hc2 hM
       exact J_skip <| T_block_normal <| T_seq <| J_region <| R_z [] [(5, vI (W (i + 1)))] <| T_loop <| J_w [(1, vI depth), (2, vP b 0), (5, vI (W (i + 1)))] <| ih (W (i + 1)) _ hM hle h hg ho hx hr
 · intro hc hM
   exact J_exit <| T_then_exit <| T_then_exit <| T_w [(2, vP b 0)] <| hx _  (pure_some hM).symm hle
def M.spec_l3Access (a0 : impl_Access) (depth : Int) : Option (Bool) := do
 match ← M.spec_l3Access_l1 a0 depth 0 with
 | .ret r0 => pure r0
 | .done _ =>
  let t4 ← (do
    if ((a0.Array.l.length : Int) == 1) then
     if (!(Op.bytesLess a0.Array.l ([65] : List UInt8))) then
      if (Op.bytesLess a0.Array.l ([68] : List UInt8) || a0.Array.l == ([68] : List UInt8)) then
       if (decide ((a0.Subs.length : Int) ≥ 1)) then
        pure (decide ((a0.Subs.length : Int) ≤ 2))
       else
        pure false
      else
       pure false
     else
      pure false
    else
     pure false
      : Option Bool)
  pure (id t4)
theorem spec_l3Access_ok : ∀ (a0 : impl_Access) (depth : Int) r, M.spec_l3Access a0 depth = some r → ∀ {imm : Imm} {p : Option Addr} {c : Nat}, (SL imm (vS p a0.Subs c) a0.Subs) → Ret Try.prog 68 [vA [vT a0.Array.l, vS p a0.Subs c], vI depth] imm [] (spec_l3Access_post  r) := by
 intro a0 depth r hM imm p c h
 unfold M.spec_l3Access at hM
 refine ret_of_J (fn := Try.f68) (c := (bodyOf Try.f68)) Try.func68 rfl rfl ?_
 rintro B - -
 have hle : imm.le imm := Imm.le.refl _
 refine J_seq <| J_region <| R_box (c := ⟨[vT a0.Array.l, vS p a0.Subs c]⟩) rfl rfl rfl rfl rfl ?_
 intro b hb
 refine R_z [] [] <| T_seq <| J_seq <| J_seq <| J_region <| R_z [] [(5, vI 0)] <| T_seq <| J_block <| J_w [(1, vI depth), (2, vP b 0), (5, vI 0)] ?_
 obtain ⟨o01, ho01, hM⟩ := bind_some hM
 refine spec_l3Access_l1_ok a0 depth 0 o01 ho01 (Imm.le.refl _) h (fun _ _ _ h => h) (fun _ _ h => h) ?_ ?_
 · intro imm03  heq1 le3
   subst o01
   replace h := h.mono le3
   replace hle := hle.trans le3
   refine T_block_here <| T_seq <| J_seq ?_
   obtain ⟨o02, ho02, hM⟩ := bind_some hM
   refine J_cut (fun imm' hs' m' => ∃ (t4 : Bool), o02 = t4 ∧ imm03.le imm' ∧ hs' = [] ∧ m' = [(4, .bool t4)]) ?_ ?_
   · have hle0 := hle
     have hle : imm03.le imm03 := Imm.le.refl _
     refine J_region <| R_d 5 [0] [(34, .bool ((a0.Array.l.length : Int) == 1))] ?_
     cases hc3 : ((a0.Array.l.length : Int) == 1) with
     | true =>
      have hM02 := if_some_true hc3 ho02
      try rw [hc3]
      refine R_d 10 [0] [(39, .bool (!(Op.bytesLess a0.Array.l ([65] : List UInt8))))] ?_
      cases hc4 : (!(Op.bytesLess a0.Array.l ([65] : List UInt8))) with
      | true =>
       have hM03 := if_some_true hc4 hM02
       try rw [hc4]
       refine R_d 15 [0] [(44, .bool (Op.bytesLess a0.Array.l ([68] : List UInt8) || a0.Array.l == ([68] : List UInt8)))] ?_
       cases hc5 : (Op.bytesLess a0.Array.l ([68] : List UInt8) || a0.Array.l == ([68] : List UInt8)) with
       | true =>
        have hM04 := if_some_true hc5 hM03
        try rw [hc5]
        refine R_d 21 [0] [(50, .bool (decide ((a0.Subs.length : Int) ≥ 1)))] ?_
        cases hc6 : (decide ((a0.Subs.length : Int) ≥ 1)) with
        | true =>
         have hM05 := if_some_true hc6 hM04
         try rw [hc6]
         exact R_z [0] [(4, .bool (decide ((a0.Subs.length : Int) ≤ 2)))] <| T_hs (good_pick [] rfl (by decide)) <| T_w [(4, .bool (decide ((a0.Subs.length : Int) ≤ 2)))] <| T_cut ⟨_, (pure_some hM05).symm, hle, rfl, rfl⟩
        | false =>
         have hM06 := if_some_false hc6 hM04
         try rw [hc6]
         exact R_z [] [(4, .bool false)] <| T_hs (good_pick [] rfl (by decide)) <| T_w [(4, .bool false)] <| T_cut ⟨_, (pure_some hM06).symm, hle, rfl, rfl⟩
       | false =>
        have hM07 := if_some_false hc5 hM03
        try rw [hc5]
        exact R_z [] [(4, .bool false)] <| T_hs (good_pick [] rfl (by decide)) <| T_w [(4, .bool false)] <| T_cut ⟨_, (pure_some hM07).symm, hle, rfl, rfl⟩
      | false =>
       have hM08 := if_some_false hc4 hM02
       try rw [hc4]
       exact R_z [] [(4, .bool false)] <| T_hs (good_pick [] rfl (by decide)) <| T_w [(4, .bool false)] <| T_cut ⟨_, (pure_some hM08).symm, hle, rfl, rfl⟩
     | false =>
      have hM09 := if_some_false hc3 ho02
      try rw [hc3]
      exact R_z [] [(4, .bool false)] <| T_hs (good_pick [] rfl (by decide)) <| T_w [(4, .bool false)] <| T_cut ⟨_, (pure_some hM09).symm, hle, rfl, rfl⟩
   · rintro imm04 hs2 m2 ⟨t4, heq2, le4, rfl, rfl⟩
     subst o02
     replace hle := hle.trans le4
     refine T_seq <| J_ret ?_
     obtain rfl := pure_some hM
     exact T_RS ⟨_, _, (.tmp rfl ResV.nil), good_none, ⟨_, rfl, rfl, rfl⟩⟩
 · intro r0 imm9 hs9 m9 heq9 le9 hrs9
   subst heq9
   refine T_block_ret <| T_then_ret ?_
   obtain rfl := pure_some hM
   exact T_RS hrs9
def spec_l3Kids_post (r : Int) : Nat → Imm → List HA → Value → Prop := fun kk imm' hs' v =>
  ∃ (v0 : Value), hs' = [] ∧ v = tupV [v0] ∧ v0 = .int .i64 r
def M.spec_l3Kids (kind : Int) : Option (Int) := do
 let t4 ← (do
   if (kind == 1) then
    pure (kind == 1)
   else
    let t41 ← (do
      if (kind == 2) then
       pure (kind == 2)
      else
       pure (kind == 3)
        : Option Bool)
    pure (id t41)
     : Option Bool)
 if t4 then
  pure (id 0)
 else
  let t8 ← (do
    if (kind == 4) then
     pure (kind == 4)
    else
     let t81 ← (do
       if (kind == 5) then
        pure (kind == 5)
       else
        pure (kind == 6)
         : Option Bool)
     pure (id t81)
      : Option Bool)
  if t8 then
   pure (id 2)
  else
   pure (-1)
theorem spec_l3Kids_ok : ∀ (kind : Int) r, M.spec_l3Kids kind = some r → ∀ {imm : Imm} , Ret Try.prog 91 [vI kind] imm [] (spec_l3Kids_post  r) := by
 intro kind r hM imm
 unfold M.spec_l3Kids at hM
 refine ret_of_J (fn := Try.f91) (c := (bodyOf Try.f91)) Try.func91 rfl rfl ?_
 rintro B - -
 have hle : imm.le imm := Imm.le.refl _
 refine J_seq <| J_region <| R_z [] [] <| T_seq <| J_seq <| J_seq <| J_region <| R_z [] [(3, vI kind)] <| T_seq <| J_block <| J_seq <| J_seq <| J_region <| R_z [] [(4, .bool (kind == 1))] <| T_seq ?_
 obtain ⟨o0, ho0, hM⟩ := bind_some hM
 refine J_cut (fun imm' hs' m' => ∃ (t4 : Bool), o0 = t4 ∧ imm.le imm' ∧ hs' = [] ∧ m' = [(3, vI kind), (4, .bool t4)]) ?_ ?_
 · have hle0 := hle
   have hle : imm.le imm := Imm.le.refl _
   refine J_cd ho0 ?_ ?_
   · intro hc hM
     exact J_skip <| T_w [(3, vI kind), (4, .bool (kind == 1))] <| T_cut ⟨_, (pure_some hM).symm, hle, rfl, rfl⟩
   · intro hc hM
     refine J_seq <| J_region <| R_z [] [(4, .bool (kind == 2))] <| T_seq ?_
     obtain ⟨o01, ho01, hM⟩ := bind_some hM
     refine J_cut (fun imm' hs' m' => ∃ (t41 : Bool), o01 = t41 ∧ imm.le imm' ∧ hs' = [] ∧ m' = [(3, vI kind), (4, .bool t41)]) ?_ ?_
     · have hle0 := hle
       have hle : imm.le imm := Imm.le.refl _
       refine J_cd ho01 ?_ ?_
       · intro hc1 hM
         exact J_skip <| T_w [(3, vI kind), (4, .bool (kind == 2))] <| T_cut ⟨_, (pure_some hM).symm, hle, rfl, rfl⟩
       · intro hc1 hM
         exact J_region <| R_z [] [(4, .bool (kind == 3))] <| T_w [(3, vI kind), (4, .bool (kind == 3))] <| T_cut ⟨_, (pure_some hM).symm, hle, rfl, rfl⟩
     · rintro imm01 hs2 m2 ⟨t41, heq, le, rfl, rfl⟩
       subst o01
       replace hle := hle.trans le
       exact T_w [(3, vI kind), (4, .bool t41)] <| T_cut ⟨_, (pure_some hM).symm, hle, rfl, rfl⟩
 · rintro imm0 hs2 m2 ⟨t4, heq1, le1, rfl, rfl⟩
   subst o0
   replace hle := hle.trans le1
   refine T_seq <| J_cd hM ?_ ?_
   · intro hc2 hM
     refine J_seq <| J_region <| R_z [] [(2, vI 0)] <| T_seq <| J_ret <| T_block_ret <| T_then_ret ?_
     obtain rfl := pure_some hM
     exact T_RS ⟨_, _, (.tmp rfl ResV.nil), good_none, ⟨_, rfl, rfl, rfl⟩⟩
   · intro hc2 hM
     refine J_seq <| J_seq <| J_region <| R_z [] [(8, .bool (kind == 4))] <| T_seq ?_
     obtain ⟨o02, ho02, hM⟩ := bind_some hM
     refine J_cut (fun imm' hs' m' => ∃ (t8 : Bool), o02 = t8 ∧ imm0.le imm' ∧ hs' = [] ∧ m' = [(8, .bool t8)]) ?_ ?_
     · have hle0 := hle
       have hle : imm0.le imm0 := Imm.le.refl _
       refine J_cd ho02 ?_ ?_
       · intro hc3 hM
         exact J_skip <| T_w [(8, .bool (kind == 4))] <| T_cut ⟨_, (pure_some hM).symm, hle, rfl, rfl⟩
       · intro hc3 hM
         refine J_seq <| J_region <| R_z [] [(8, .bool (kind == 5))] <| T_seq ?_
         obtain ⟨o03, ho03, hM⟩ := bind_some hM
         refine J_cut (fun imm' hs' m' => ∃ (t81 : Bool), o03 = t81 ∧ imm0.le imm' ∧ hs' = [] ∧ m' = [(8, .bool t81)]) ?_ ?_
         · have hle0 := hle
           have hle : imm0.le imm0 := Imm.le.refl _
           refine J_cd ho03 ?_ ?_
           · intro hc4 hM
             exact J_skip <| T_w [(8, .bool (kind == 5))] <| T_cut ⟨_, (pure_some hM).symm, hle, rfl, rfl⟩
           · intro hc4 hM
             exact J_region <| R_z [] [(8, .bool (kind == 6))] <| T_w [(8, .bool (kind == 6))] <| T_cut ⟨_, (pure_some hM).symm, hle, rfl, rfl⟩
         · rintro imm03 hs2 m2 ⟨t81, heq2, le2, rfl, rfl⟩
           subst o03
           replace hle := hle.trans le2
           exact T_w [(8, .bool t81)] <| T_cut ⟨_, (pure_some hM).symm, hle, rfl, rfl⟩
     · rintro imm02 hs2 m2 ⟨t8, heq3, le3, rfl, rfl⟩
       subst o02
       replace hle := hle.trans le3
       refine T_seq <| J_cd hM ?_ ?_
       · intro hc5 hM
         refine J_seq <| J_region <| R_z [] [(2, vI 2)] <| T_seq <| J_ret <| T_block_ret <| T_then_ret ?_
         obtain rfl := pure_some hM
         exact T_RS ⟨_, _, (.tmp rfl ResV.nil), good_none, ⟨_, rfl, rfl, rfl⟩⟩
       · intro hc5 hM
         refine J_skip <| T_block_normal <| T_seq <| J_seq <| J_region <| R_z [] [(2, vI (-1))] <| T_seq <| J_ret ?_
         obtain rfl := pure_some hM
         exact T_RS ⟨_, _, (.tmp rfl ResV.nil), good_none, ⟨_, rfl, rfl, rfl⟩⟩
def spec_l3Empty_post (r : Bool) : Nat → Imm → List HA → Value → Prop := fun kk imm' hs' v =>
  ∃ (v0 : Value), hs' = [] ∧ v = tupV [v0] ∧ v0 = .bool r
def M.spec_l3Empty (a0 : impl_Access) : Option (Bool) := do
 let t2 ← (do
   if (a0.Array.l == ([] : List UInt8)) then
    pure ((a0.Subs.length : Int) == 0)
   else
    pure false
     : Option Bool)
 pure (id t2)
theorem spec_l3Empty_ok : ∀ (a0 : impl_Access) r, M.spec_l3Empty a0 = some r → ∀ {imm : Imm} {p : Option Addr} {c : Nat}, (SL imm (vS p a0.Subs c) a0.Subs) → Ret Try.prog 102 [vA [vT a0.Array.l, vS p a0.Subs c]] imm [] (spec_l3Empty_post  r) := by
 intro a0 r hM imm p c h
 unfold M.spec_l3Empty at hM
 refine ret_of_J (fn := Try.f102) (c := (bodyOf Try.f102)) Try.func102 rfl rfl ?_
 rintro B - -
 have hle : imm.le imm := Imm.le.refl _
 refine J_seq <| J_region <| R_box (c := ⟨[vT a0.Array.l, vS p a0.Subs c]⟩) rfl rfl rfl rfl rfl ?_
 intro b hb
 refine R_z [] [] <| T_seq <| J_seq ?_
 obtain ⟨o0, ho0, hM⟩ := bind_some hM
 refine J_cut (fun imm' hs' m' => ∃ (t2 : Bool), o0 = t2 ∧ imm.le imm' ∧ hs' = [] ∧ m' = [(2, .bool t2)]) ?_ ?_
 · have hle0 := hle
   have hle : imm.le imm := Imm.le.refl _
   refine J_region <| R_d 4 [0] [(6, .bool (a0.Array.l == ([] : List UInt8)))] ?_
   cases hc : (a0.Array.l == ([] : List UInt8)) with
   | true =>
    have hM0 := if_some_true hc ho0
    try rw [hc]
    exact R_z [0] [(2, .bool ((a0.Subs.length : Int) == 0))] <| T_hs (good_pick [] rfl (by decide)) <| T_w [(2, .bool ((a0.Subs.length : Int) == 0))] <| T_cut ⟨_, (pure_some hM0).symm, hle, rfl, rfl⟩
   | false =>
    have hM01 := if_some_false hc ho0
    try rw [hc]
    exact R_z [] [(2, .bool false)] <| T_hs (good_pick [] rfl (by decide)) <| T_w [(2, .bool false)] <| T_cut ⟨_, (pure_some hM01).symm, hle, rfl, rfl⟩
 · rintro imm0 hs2 m2 ⟨t2, heq, le, rfl, rfl⟩
   subst o0
   replace hle := hle.trans le
   refine T_seq <| J_ret ?_
   obtain rfl := pure_some hM
   exact T_RS ⟨_, _, (.tmp rfl ResV.nil), good_none, ⟨_, rfl, rfl, rfl⟩⟩
def spec_l3None_post (r : Bool) : Nat → Imm → List HA → Value → Prop := fun kk imm' hs' v =>
  ∃ (v0 : Value), hs' = [] ∧ v = tupV [v0] ∧ v0 = .bool r
def M.spec_l3None (a0 : impl_Affine) : Option (Bool) := do
 let t2 ← (do
   if ((a0.Coefs.length : Int) == 0) then
    pure (a0.Const == 0)
   else
    pure false
     : Option Bool)
 pure (id t2)
theorem spec_l3None_ok : ∀ (a0 : impl_Affine) r, M.spec_l3None a0 = some r → ∀ {imm : Imm} {p : Option Addr} {c : Nat}, (SL imm (vS p a0.Coefs c) a0.Coefs) → Ret Try.prog 103 [vA [vS p a0.Coefs c, vI a0.Const]] imm [] (spec_l3None_post  r) := by
 intro a0 r hM imm p c h
 unfold M.spec_l3None at hM
 refine ret_of_J (fn := Try.f103) (c := (bodyOf Try.f103)) Try.func103 rfl rfl ?_
 rintro B - -
 have hle : imm.le imm := Imm.le.refl _
 refine J_seq <| J_region <| R_box (c := ⟨[vS p a0.Coefs c, vI a0.Const]⟩) rfl rfl rfl rfl rfl ?_
 intro b hb
 refine R_z [] [] <| T_seq <| J_seq ?_
 obtain ⟨o0, ho0, hM⟩ := bind_some hM
 refine J_cut (fun imm' hs' m' => ∃ (t2 : Bool), o0 = t2 ∧ imm.le imm' ∧ hs' = [] ∧ m' = [(2, .bool t2)]) ?_ ?_
 · have hle0 := hle
   have hle : imm.le imm := Imm.le.refl _
   refine J_region <| R_d 5 [0] [(7, .bool ((a0.Coefs.length : Int) == 0))] ?_
   cases hc : ((a0.Coefs.length : Int) == 0) with
   | true =>
    have hM0 := if_some_true hc ho0
    try rw [hc]
    exact R_z [0] [(2, .bool (a0.Const == 0))] <| T_hs (good_pick [] rfl (by decide)) <| T_w [(2, .bool (a0.Const == 0))] <| T_cut ⟨_, (pure_some hM0).symm, hle, rfl, rfl⟩
   | false =>
    have hM01 := if_some_false hc ho0
    try rw [hc]
    exact R_z [] [(2, .bool false)] <| T_hs (good_pick [] rfl (by decide)) <| T_w [(2, .bool false)] <| T_cut ⟨_, (pure_some hM01).symm, hle, rfl, rfl⟩
 · rintro imm0 hs2 m2 ⟨t2, heq, le, rfl, rfl⟩
   subst o0
   replace hle := hle.trans le
   refine T_seq <| J_ret ?_
   obtain rfl := pure_some hM
   exact T_RS ⟨_, _, (.tmp rfl ResV.nil), good_none, ⟨_, rfl, rfl, rfl⟩⟩
def spec_l3Own_post (r : Bool) : Nat → Imm → List HA → Value → Prop := fun kk imm' hs' v =>
  ∃ (v0 : Value), hs' = [] ∧ v = tupV [v0] ∧ v0 = .bool r
def M.spec_l3Own (e0 : impl_Expr) (depth : Int) : Option (Bool) := do
 if (e0.Kind == 2) then
  let t4 ← (do
    if (e0.Num == 0) then
     let y ← M.spec_l3Empty e0.Read
     if y then
      let y1 ← M.spec_AffineValid e0.Index
      if y1 then
       let y2 ← M.spec_l1Depth e0.Index
       pure (decide (y2 ≤ depth))
      else
       pure false
     else
      pure false
    else
     pure false
      : Option Bool)
  pure (id t4)
 else
  if (e0.Kind == 3) then
   let t41 ← (do
     if (e0.Num == 0) then
      let y3 ← M.spec_l3None e0.Index
      if y3 then
       let y4 ← M.spec_l3Access e0.Read depth
       pure (id y4)
      else
       pure false
     else
      pure false
       : Option Bool)
   pure (id t41)
  else
   if (e0.Kind == 1) then
    let t42 ← (do
      if (decide (e0.Num ≥ 0)) then
       if (decide (e0.Num ≤ 99)) then
        let y5 ← M.spec_l3None e0.Index
        if y5 then
         let y6 ← M.spec_l3Empty e0.Read
         pure (id y6)
        else
         pure false
       else
        pure false
      else
       pure false
        : Option Bool)
    pure (id t42)
   else
    let t43 ← (do
      if (e0.Num == 0) then
       let y7 ← M.spec_l3None e0.Index
       if y7 then
        let y8 ← M.spec_l3Empty e0.Read
        pure (id y8)
       else
        pure false
      else
       pure false
        : Option Bool)
    pure (id t43)
theorem spec_l3Own_ok : ∀ (e0 : impl_Expr) (depth : Int) r, M.spec_l3Own e0 depth = some r → ∀ {imm : Imm} {p : Option Addr} {c : Nat} {p1 : Option Addr} {c1 : Nat} {p2 : Option Addr} {c2 : Nat}, (SL imm (vS p e0.Index.Coefs c) e0.Index.Coefs) → (SL imm (vS p1 e0.Read.Subs c1) e0.Read.Subs) → (SL imm (vS p2 e0.Kids c2) e0.Kids) → Ret Try.prog 92 [vA [vI e0.Kind, vI e0.Num, vS p e0.Index.Coefs c, vI e0.Index.Const, vT e0.Read.Array.l, vS p1 e0.Read.Subs c1, vS p2 e0.Kids c2], vI depth] imm [] (spec_l3Own_post  r) := by
 intro e0 depth r hM imm p c p1 c1 p2 c2 h h1 h2
 unfold M.spec_l3Own at hM
 refine ret_of_J (fn := Try.f92) (c := (bodyOf Try.f92)) Try.func92 rfl rfl ?_
 rintro B - -
 have hle : imm.le imm := Imm.le.refl _
 refine J_seq <| J_region <| R_box (c := ⟨[vI e0.Kind, vI e0.Num, vS p e0.Index.Coefs c, vI e0.Index.Const, vT e0.Read.Array.l, vS p1 e0.Read.Subs c1, vS p2 e0.Kids c2]⟩) rfl rfl rfl rfl rfl ?_
 intro b hb
 refine R_z [] [] <| T_seq <| J_seq <| J_seq <| J_region <| R_z [0] [(7, .bool (e0.Kind == 2))] <| T_seq <| J_cd hM ?_ ?_
 · intro hc hM
   refine J_seq ?_
   obtain ⟨o0, ho0, hM⟩ := bind_some hM
   refine J_cut (fun imm' hs' m' => ∃ (t4 : Bool), o0 = t4 ∧ imm.le imm' ∧ hs' = [] ∧ m' = [(4, .bool t4)]) ?_ ?_
   · have hle0 := hle
     have hle : imm.le imm := Imm.le.refl _
     refine J_region <| R_d 4 [0] [(11, .bool (e0.Num == 0))] ?_
     cases hc1 : (e0.Num == 0) with
     | true =>
      have hM0 := if_some_true hc1 ho0
      try rw [hc1]
      refine R_d 6 [0] [(13, vA [vT e0.Read.Array.l, vS p1 e0.Read.Subs c1])] ?_
      obtain ⟨y, hy, hM⟩ := bind_some hM0
      refine R_call (hs1 := []) (rest := [hB b [vI e0.Kind, vI e0.Num, vS p e0.Index.Coefs c, vI e0.Index.Const, vT e0.Read.Array.l, vS p1 e0.Read.Subs c1, vS p2 e0.Kids c2]]) rfl rfl rfl rfl (by kernel_rfl) rfl rfl (spec_l3Empty_ok e0.Read _ hy h1) ?_
      rintro imm01 hs2 v2 k2 le - ⟨v0, rfl, rfl, rfl⟩ -
      replace h := h.mono le
      replace h1 := h1.mono le
      replace h2 := h2.mono le
      replace hle := hle.trans le
      refine R_d 9 [] [(16, .bool y)] ?_
      cases hc2 : y with
      | true =>
       have hM01 := if_some_true hc2 hM
       try rw [hc2]
       refine R_d 11 [0] [(18, vA [vS p e0.Index.Coefs c, vI e0.Index.Const])] ?_
       obtain ⟨y1, hy1, hM⟩ := bind_some hM01
       refine R_call (hs1 := []) (rest := [hB b [vI e0.Kind, vI e0.Num, vS p e0.Index.Coefs c, vI e0.Index.Const, vT e0.Read.Array.l, vS p1 e0.Read.Subs c1, vS p2 e0.Kids c2]]) rfl rfl rfl rfl (by kernel_rfl) rfl rfl (spec_AffineValid_ok e0.Index _ hy1 h) ?_
       rintro imm02 hs2 v2 k2 le1 - ⟨v01, rfl, rfl, rfl⟩ -
       replace h := h.mono le1
       replace h1 := h1.mono le1
       replace h2 := h2.mono le1
       replace hle := hle.trans le1
       refine R_d 14 [] [(21, .bool y1)] ?_
       cases hc3 : y1 with
       | true =>
        have hM02 := if_some_true hc3 hM
        try rw [hc3]
        refine R_d 16 [0] [(23, vA [vS p e0.Index.Coefs c, vI e0.Index.Const])] ?_
        obtain ⟨y2, hy2, hM⟩ := bind_some hM02
        refine R_call (hs1 := []) (rest := [hB b [vI e0.Kind, vI e0.Num, vS p e0.Index.Coefs c, vI e0.Index.Const, vT e0.Read.Array.l, vS p1 e0.Read.Subs c1, vS p2 e0.Kids c2]]) rfl rfl rfl rfl (by kernel_rfl) rfl rfl (spec_l1Depth_ok e0.Index _ hy2 h) ?_
        rintro imm03 hs2 v2 k2 le2 - ⟨v02, rfl, rfl, rfl⟩ -
        replace h := h.mono le2
        replace h1 := h1.mono le2
        replace h2 := h2.mono le2
        replace hle := hle.trans le2
        exact R_z [] [(4, .bool (decide (y2 ≤ depth)))] <| T_hs (good_pick [] rfl (by decide)) <| T_w [(4, .bool (decide (y2 ≤ depth)))] <| T_cut ⟨_, (pure_some hM).symm, hle, rfl, rfl⟩
       | false =>
        have hM03 := if_some_false hc3 hM
        try rw [hc3]
        exact R_z [] [(4, .bool false)] <| T_hs (good_pick [] rfl (by decide)) <| T_w [(4, .bool false)] <| T_cut ⟨_, (pure_some hM03).symm, hle, rfl, rfl⟩
      | false =>
       have hM04 := if_some_false hc2 hM
       try rw [hc2]
       exact R_z [] [(4, .bool false)] <| T_hs (good_pick [] rfl (by decide)) <| T_w [(4, .bool false)] <| T_cut ⟨_, (pure_some hM04).symm, hle, rfl, rfl⟩
     | false =>
      have hM05 := if_some_false hc1 ho0
      try rw [hc1]
      exact R_z [] [(4, .bool false)] <| T_hs (good_pick [] rfl (by decide)) <| T_w [(4, .bool false)] <| T_cut ⟨_, (pure_some hM05).symm, hle, rfl, rfl⟩
   · rintro imm0 hs2 m2 ⟨t4, heq, le3, rfl, rfl⟩
     subst o0
     replace hle := hle.trans le3
     refine T_seq <| J_ret <| T_then_ret ?_
     obtain rfl := pure_some hM
     exact T_RS ⟨_, _, (.tmp rfl ResV.nil), good_none, ⟨_, rfl, rfl, rfl⟩⟩
 · intro hc hM
   refine J_skip <| T_seq <| J_seq <| J_seq <| J_region <| R_z [0] [(30, .bool (e0.Kind == 3))] <| T_seq <| J_cd hM ?_ ?_
   · intro hc4 hM
     refine J_seq ?_
     obtain ⟨o01, ho01, hM⟩ := bind_some hM
     refine J_cut (fun imm' hs' m' => ∃ (t41 : Bool), o01 = t41 ∧ imm.le imm' ∧ hs' = [] ∧ m' = [(4, .bool t41)]) ?_ ?_
     · have hle0 := hle
       have hle : imm.le imm := Imm.le.refl _
       refine J_region <| R_d 4 [0] [(34, .bool (e0.Num == 0))] ?_
       cases hc5 : (e0.Num == 0) with
       | true =>
        have hM06 := if_some_true hc5 ho01
        try rw [hc5]
        refine R_d 6 [0] [(36, vA [vS p e0.Index.Coefs c, vI e0.Index.Const])] ?_
        obtain ⟨y3, hy3, hM⟩ := bind_some hM06
        refine R_call (hs1 := []) (rest := [hB b [vI e0.Kind, vI e0.Num, vS p e0.Index.Coefs c, vI e0.Index.Const, vT e0.Read.Array.l, vS p1 e0.Read.Subs c1, vS p2 e0.Kids c2]]) rfl rfl rfl rfl (by kernel_rfl) rfl rfl (spec_l3None_ok e0.Index _ hy3 h) ?_
        rintro imm05 hs2 v2 k2 le4 - ⟨v03, rfl, rfl, rfl⟩ -
        replace h := h.mono le4
        replace h1 := h1.mono le4
        replace h2 := h2.mono le4
        replace hle := hle.trans le4
        refine R_d 9 [] [(39, .bool y3)] ?_
        cases hc6 : y3 with
        | true =>
         have hM07 := if_some_true hc6 hM
         try rw [hc6]
         refine R_d 12 [0] [(41, vA [vT e0.Read.Array.l, vS p1 e0.Read.Subs c1]), (42, vI depth)] ?_
         obtain ⟨y4, hy4, hM⟩ := bind_some hM07
         refine R_call (hs1 := []) (rest := [hB b [vI e0.Kind, vI e0.Num, vS p e0.Index.Coefs c, vI e0.Index.Const, vT e0.Read.Array.l, vS p1 e0.Read.Subs c1, vS p2 e0.Kids c2]]) rfl rfl rfl rfl (by kernel_rfl) rfl rfl (spec_l3Access_ok e0.Read depth _ hy4 h1) ?_
         rintro imm06 hs2 v2 k2 le5 - ⟨v04, rfl, rfl, rfl⟩ -
         replace h := h.mono le5
         replace h1 := h1.mono le5
         replace h2 := h2.mono le5
         replace hle := hle.trans le5
         exact R_z [] [(4, .bool y4)] <| T_hs (good_pick [] rfl (by decide)) <| T_w [(4, .bool y4)] <| T_cut ⟨_, (pure_some hM).symm, hle, rfl, rfl⟩
        | false =>
         have hM08 := if_some_false hc6 hM
         try rw [hc6]
         exact R_z [] [(4, .bool false)] <| T_hs (good_pick [] rfl (by decide)) <| T_w [(4, .bool false)] <| T_cut ⟨_, (pure_some hM08).symm, hle, rfl, rfl⟩
       | false =>
        have hM09 := if_some_false hc5 ho01
        try rw [hc5]
        exact R_z [] [(4, .bool false)] <| T_hs (good_pick [] rfl (by decide)) <| T_w [(4, .bool false)] <| T_cut ⟨_, (pure_some hM09).symm, hle, rfl, rfl⟩
     · rintro imm04 hs2 m2 ⟨t41, heq1, le6, rfl, rfl⟩
       subst o01
       replace hle := hle.trans le6
       refine T_seq <| J_ret <| T_then_ret ?_
       obtain rfl := pure_some hM
       exact T_RS ⟨_, _, (.tmp rfl ResV.nil), good_none, ⟨_, rfl, rfl, rfl⟩⟩
   · intro hc4 hM
     refine J_skip <| T_seq <| J_seq <| J_seq <| J_region <| R_z [0] [(47, .bool (e0.Kind == 1))] <| T_seq <| J_cd hM ?_ ?_
     · intro hc7 hM
       refine J_seq ?_
       obtain ⟨o02, ho02, hM⟩ := bind_some hM
       refine J_cut (fun imm' hs' m' => ∃ (t42 : Bool), o02 = t42 ∧ imm.le imm' ∧ hs' = [] ∧ m' = [(4, .bool t42)]) ?_ ?_
       · have hle0 := hle
         have hle : imm.le imm := Imm.le.refl _
         refine J_region <| R_d 4 [0] [(51, .bool (decide (e0.Num ≥ 0)))] ?_
         cases hc8 : (decide (e0.Num ≥ 0)) with
         | true =>
          have hM010 := if_some_true hc8 ho02
          try rw [hc8]
          refine R_d 9 [0] [(56, .bool (decide (e0.Num ≤ 99)))] ?_
          cases hc9 : (decide (e0.Num ≤ 99)) with
          | true =>
           have hM011 := if_some_true hc9 hM010
           try rw [hc9]
           refine R_d 11 [0] [(58, vA [vS p e0.Index.Coefs c, vI e0.Index.Const])] ?_
           obtain ⟨y5, hy5, hM⟩ := bind_some hM011
           refine R_call (hs1 := []) (rest := [hB b [vI e0.Kind, vI e0.Num, vS p e0.Index.Coefs c, vI e0.Index.Const, vT e0.Read.Array.l, vS p1 e0.Read.Subs c1, vS p2 e0.Kids c2]]) rfl rfl rfl rfl (by kernel_rfl) rfl rfl (spec_l3None_ok e0.Index _ hy5 h) ?_
           rintro imm08 hs2 v2 k2 le7 - ⟨v05, rfl, rfl, rfl⟩ -
           replace h := h.mono le7
           replace h1 := h1.mono le7
           replace h2 := h2.mono le7
           replace hle := hle.trans le7
           refine R_d 14 [] [(61, .bool y5)] ?_
           cases hc10 : y5 with
           | true =>
            have hM012 := if_some_true hc10 hM
            try rw [hc10]
            refine R_d 16 [0] [(63, vA [vT e0.Read.Array.l, vS p1 e0.Read.Subs c1])] ?_
            obtain ⟨y6, hy6, hM⟩ := bind_some hM012
            refine R_call (hs1 := []) (rest := [hB b [vI e0.Kind, vI e0.Num, vS p e0.Index.Coefs c, vI e0.Index.Const, vT e0.Read.Array.l, vS p1 e0.Read.Subs c1, vS p2 e0.Kids c2]]) rfl rfl rfl rfl (by kernel_rfl) rfl rfl (spec_l3Empty_ok e0.Read _ hy6 h1) ?_
            rintro imm09 hs2 v2 k2 le8 - ⟨v06, rfl, rfl, rfl⟩ -
            replace h := h.mono le8
            replace h1 := h1.mono le8
            replace h2 := h2.mono le8
            replace hle := hle.trans le8
            exact R_z [] [(4, .bool y6)] <| T_hs (good_pick [] rfl (by decide)) <| T_w [(4, .bool y6)] <| T_cut ⟨_, (pure_some hM).symm, hle, rfl, rfl⟩
           | false =>
            have hM013 := if_some_false hc10 hM
            try rw [hc10]
            exact R_z [] [(4, .bool false)] <| T_hs (good_pick [] rfl (by decide)) <| T_w [(4, .bool false)] <| T_cut ⟨_, (pure_some hM013).symm, hle, rfl, rfl⟩
          | false =>
           have hM014 := if_some_false hc9 hM010
           try rw [hc9]
           exact R_z [] [(4, .bool false)] <| T_hs (good_pick [] rfl (by decide)) <| T_w [(4, .bool false)] <| T_cut ⟨_, (pure_some hM014).symm, hle, rfl, rfl⟩
         | false =>
          have hM015 := if_some_false hc8 ho02
          try rw [hc8]
          exact R_z [] [(4, .bool false)] <| T_hs (good_pick [] rfl (by decide)) <| T_w [(4, .bool false)] <| T_cut ⟨_, (pure_some hM015).symm, hle, rfl, rfl⟩
       · rintro imm07 hs2 m2 ⟨t42, heq2, le9, rfl, rfl⟩
         subst o02
         replace hle := hle.trans le9
         refine T_seq <| J_ret <| T_then_ret ?_
         obtain rfl := pure_some hM
         exact T_RS ⟨_, _, (.tmp rfl ResV.nil), good_none, ⟨_, rfl, rfl, rfl⟩⟩
     · intro hc7 hM
       refine J_skip <| T_seq <| J_seq ?_
       obtain ⟨o03, ho03, hM⟩ := bind_some hM
       refine J_cut (fun imm' hs' m' => ∃ (t43 : Bool), o03 = t43 ∧ imm.le imm' ∧ hs' = [] ∧ m' = [(4, .bool t43)]) ?_ ?_
       · have hle0 := hle
         have hle : imm.le imm := Imm.le.refl _
         refine J_region <| R_d 4 [0] [(69, .bool (e0.Num == 0))] ?_
         cases hc11 : (e0.Num == 0) with
         | true =>
          have hM016 := if_some_true hc11 ho03
          try rw [hc11]
          refine R_d 6 [0] [(71, vA [vS p e0.Index.Coefs c, vI e0.Index.Const])] ?_
          obtain ⟨y7, hy7, hM⟩ := bind_some hM016
          refine R_call (hs1 := []) (rest := [hB b [vI e0.Kind, vI e0.Num, vS p e0.Index.Coefs c, vI e0.Index.Const, vT e0.Read.Array.l, vS p1 e0.Read.Subs c1, vS p2 e0.Kids c2]]) rfl rfl rfl rfl (by kernel_rfl) rfl rfl (spec_l3None_ok e0.Index _ hy7 h) ?_
          rintro imm011 hs2 v2 k2 le10 - ⟨v07, rfl, rfl, rfl⟩ -
          replace h := h.mono le10
          replace h1 := h1.mono le10
          replace h2 := h2.mono le10
          replace hle := hle.trans le10
          refine R_d 9 [] [(74, .bool y7)] ?_
          cases hc12 : y7 with
          | true =>
           have hM017 := if_some_true hc12 hM
           try rw [hc12]
           refine R_d 11 [0] [(76, vA [vT e0.Read.Array.l, vS p1 e0.Read.Subs c1])] ?_
           obtain ⟨y8, hy8, hM⟩ := bind_some hM017
           refine R_call (hs1 := []) (rest := [hB b [vI e0.Kind, vI e0.Num, vS p e0.Index.Coefs c, vI e0.Index.Const, vT e0.Read.Array.l, vS p1 e0.Read.Subs c1, vS p2 e0.Kids c2]]) rfl rfl rfl rfl (by kernel_rfl) rfl rfl (spec_l3Empty_ok e0.Read _ hy8 h1) ?_
           rintro imm012 hs2 v2 k2 le11 - ⟨v08, rfl, rfl, rfl⟩ -
           replace h := h.mono le11
           replace h1 := h1.mono le11
           replace h2 := h2.mono le11
           replace hle := hle.trans le11
           exact R_z [] [(4, .bool y8)] <| T_hs (good_pick [] rfl (by decide)) <| T_w [(4, .bool y8)] <| T_cut ⟨_, (pure_some hM).symm, hle, rfl, rfl⟩
          | false =>
           have hM018 := if_some_false hc12 hM
           try rw [hc12]
           exact R_z [] [(4, .bool false)] <| T_hs (good_pick [] rfl (by decide)) <| T_w [(4, .bool false)] <| T_cut ⟨_, (pure_some hM018).symm, hle, rfl, rfl⟩
         | false =>
          have hM019 := if_some_false hc11 ho03
          try rw [hc11]
          exact R_z [] [(4, .bool false)] <| T_hs (good_pick [] rfl (by decide)) <| T_w [(4, .bool false)] <| T_cut ⟨_, (pure_some hM019).symm, hle, rfl, rfl⟩
       · rintro imm010 hs2 m2 ⟨t43, heq3, le12, rfl, rfl⟩
         subst o03
         replace hle := hle.trans le12
         refine T_seq <| J_ret ?_
         obtain rfl := pure_some hM
         exact T_RS ⟨_, _, (.tmp rfl ResV.nil), good_none, ⟨_, rfl, rfl, rfl⟩⟩
def spec_l3Shape_post (r : Bool) : Nat → Imm → List HA → Value → Prop := fun kk imm' hs' v =>
  ∃ (v0 : Value), hs' = [] ∧ v = tupV [v0] ∧ v0 = .bool r
mutual
def M.spec_l3Shape (e0 : impl_Expr) (depth : Int) (levels : Int) : Option (Bool) := do
 let t24 ← (do
   if (decide (levels < 1)) then
    pure true
   else
    let y ← M.spec_l3Kids e0.Kind
    if (y != (e0.Kids.length : Int)) then
     pure true
    else
     let y1 ← M.spec_l3Own e0 depth
     pure (!y1)
     : Option Bool)
 if t24 then
  pure false
 else
  match ← M.spec_l3Shape_l1 (same e0) (same depth) (same levels) (same 0) with
  | .ret r0 => pure r0
  | .done _ =>
   pure true
 partial_fixpoint
def M.spec_l3Shape_l1 (e0 : impl_Expr) (depth : Int) (levels : Int) (i : Int) : Option (Out Unit (Bool)) := do
 if (decide (i < (e0.Kids.length : Int))) then
  let x ← idx e0.Kids i
  let y2 ← M.spec_l3Shape (same x) (same depth) (W (levels - 1))
  if (!y2) then
   pure (.ret false)
  else
   M.spec_l3Shape_l1 (same e0) (same depth) (same levels) (W (i + 1))
 else
  pure (.done ())
 partial_fixpoint
end
theorem grp_spec_l3Shape : (∀ (e0 : impl_Expr) (depth : Int) (levels : Int) r, M.spec_l3Shape e0 depth levels = some r → ∀ {imm : Imm} {p : Option Addr} {c : Nat} {p1 : Option Addr} {c1 : Nat} {p2 : Option Addr} {c2 : Nat}, (SL imm (vS p e0.Index.Coefs c) e0.Index.Coefs) → (SL imm (vS p1 e0.Read.Subs c1) e0.Read.Subs) → (SL imm (vS p2 e0.Kids c2) e0.Kids) → Ret Try.prog 69 [vA [vI e0.Kind, vI e0.Num, vS p e0.Index.Coefs c, vI e0.Index.Const, vT e0.Read.Array.l, vS p1 e0.Read.Subs c1, vS p2 e0.Kids c2], vI depth, vI levels] imm [] (spec_l3Shape_post  r)) ∧ (∀ (e0 : impl_Expr) (depth : Int) (levels : Int) (i : Int) o, M.spec_l3Shape_l1 e0 depth levels i = some o → ∀ {B : Base} {imm0 imm : Imm} {Q : Exit → Act → World → Prop}  {p : Option Addr} {c : Nat} {p1 : Option Addr} {c1 : Nat} {p2 : Option Addr} {c2 : Nat} {b : Nat}, imm0.le imm → (SL imm (vS p e0.Index.Coefs c) e0.Index.Coefs) → (SL imm (vS p1 e0.Read.Subs c1) e0.Read.Subs) → (SL imm (vS p2 e0.Kids c2) e0.Kids) → (∀ l a w, ¬ Q (.goto l) a w) → (∀ a w, ¬ Q .outgrown a w) → (∀ (imm' : Imm) , o = (.done ()) → imm0.le imm' → T 42 B Q (.exit 0) imm' [] []) → (∀ r imm' hs' m', o = (.ret r) → imm0.le imm' → RS Try.prog Try.f69 B (spec_l3Shape_post  r) imm' hs' m' → T 42 B Q .ret imm' hs' m') → J Try.prog 42 B (nav (bodyOf Try.f69) [1, 1, 0, 1, 0]) Q imm [hB b [vI e0.Kind, vI e0.Num, vS p e0.Index.Coefs c, vI e0.Index.Const, vT e0.Read.Array.l, vS p1 e0.Read.Subs c1, vS p2 e0.Kids c2]] [(1, vI depth), (2, vI levels), (3, vP b 0), (7, vI i)]) := by
  refine M.spec_l3Shape.mutual_partial_correctness (fun e0 depth levels r => ∀ {imm : Imm} {p : Option Addr} {c : Nat} {p1 : Option Addr} {c1 : Nat} {p2 : Option Addr} {c2 : Nat}, (SL imm (vS p e0.Index.Coefs c) e0.Index.Coefs) → (SL imm (vS p1 e0.Read.Subs c1) e0.Read.Subs) → (SL imm (vS p2 e0.Kids c2) e0.Kids) → Ret Try.prog 69 [vA [vI e0.Kind, vI e0.Num, vS p e0.Index.Coefs c, vI e0.Index.Const, vT e0.Read.Array.l, vS p1 e0.Read.Subs c1, vS p2 e0.Kids c2], vI depth, vI levels] imm [] (spec_l3Shape_post  r)) (fun e0 depth levels i o => ∀ {B : Base} {imm0 imm : Imm} {Q : Exit → Act → World → Prop}  {p : Option Addr} {c : Nat} {p1 : Option Addr} {c1 : Nat} {p2 : Option Addr} {c2 : Nat} {b : Nat}, imm0.le imm → (SL imm (vS p e0.Index.Coefs c) e0.Index.Coefs) → (SL imm (vS p1 e0.Read.Subs c1) e0.Read.Subs) → (SL imm (vS p2 e0.Kids c2) e0.Kids) → (∀ l a w, ¬ Q (.goto l) a w) → (∀ a w, ¬ Q .outgrown a w) → (∀ (imm' : Imm) , o = (.done ()) → imm0.le imm' → T 42 B Q (.exit 0) imm' [] []) → (∀ r imm' hs' m', o = (.ret r) → imm0.le imm' → RS Try.prog Try.f69 B (spec_l3Shape_post  r) imm' hs' m' → T 42 B Q .ret imm' hs' m') → J Try.prog 42 B (nav (bodyOf Try.f69) [1, 1, 0, 1, 0]) Q imm [hB b [vI e0.Kind, vI e0.Num, vS p e0.Index.Coefs c, vI e0.Index.Const, vT e0.Read.Array.l, vS p1 e0.Read.Subs c1, vS p2 e0.Kids c2]] [(1, vI depth), (2, vI levels), (3, vP b 0), (7, vI i)]) ?_ ?_
  · intro F_spec_l3Shape_l1 ih_spec_l3Shape_l1 e0 depth levels r hM imm p c p1 c1 p2 c2 h h1 h2
    refine ret_of_J (fn := Try.f69) (c := (bodyOf Try.f69)) Try.func69 rfl rfl ?_
    rintro B - -
    have hle : imm.le imm := Imm.le.refl _
    refine J_seq <| J_region <| R_box (c := ⟨[vI e0.Kind, vI e0.Num, vS p e0.Index.Coefs c, vI e0.Index.Const, vT e0.Read.Array.l, vS p1 e0.Read.Subs c1, vS p2 e0.Kids c2]⟩) rfl rfl rfl rfl rfl ?_
    intro b hb
    refine R_z [] [] <| T_seq <| J_seq <| J_seq ?_
    obtain ⟨o0, ho0, hM⟩ := bind_some hM
    refine J_cut (fun imm' hs' m' => ∃ (t24 : Bool), o0 = t24 ∧ imm.le imm' ∧ hs' = [hB b [vI e0.Kind, vI e0.Num, vS p e0.Index.Coefs c, vI e0.Index.Const, vT e0.Read.Array.l, vS p1 e0.Read.Subs c1, vS p2 e0.Kids c2]] ∧ m' = [(1, vI depth), (2, vI levels), (3, vP b 0), (24, .bool t24)]) ?_ ?_
    · have hle0 := hle
      have hle : imm.le imm := Imm.le.refl _
      cases hc : (decide (levels < 1)) with
      | true =>
       have hM0 := if_some_true hc ho0
       refine J_any [.p (vI levels) [], .q (.bool true), .q (.bool true), .p undef [], .p undef [], .p undef [], .p undef [], .p undef [], .p undef [], .p undef [], .p (.bool true) [], .p (.bool true) [], .p undef [], .p undef [], .p undef [], .p undef [], .p (.bool true) []] [[], [(0, false)], [(1, false)], [(2, false)], [(2, false), (3, false)], [(2, false), (4, false)], [(2, false)], [(2, false), (6, false)], [(2, false), (7, false)], [(2, false), (5, false), (8, false)], [(2, false), (9, false)], [(10, false)], [(11, false)], [(11, false)], [(11, false), (12, false), (13, false)], [(11, false), (14, false)], [(11, false), (15, false)]] [hB b [vI e0.Kind, vI e0.Num, vS p e0.Index.Coefs c, vI e0.Index.Const, vT e0.Read.Array.l, vS p1 e0.Read.Subs c1, vS p2 e0.Kids c2]] [] [(16, false)] (good_pick [0] rfl (by decide)) ?_ ?_
       · refine Op <| Oq ?_ <| Oq ?_ <| Op <| Op <| Op <| Op <| Op <| Op <| Op <| Op <| Op <| Op <| Op <| Op <| Op <| Op <| On
         · intro imm1 hf le1
           refine Ins_cons ?_
           rintro _ _ ⟨rfl, rfl⟩
           refine Ins_nil <| R_isw (hB b [vI e0.Kind, vI e0.Num, vS p e0.Index.Coefs c, vI e0.Index.Const, vT e0.Read.Array.l, vS p1 e0.Read.Subs c1, vS p2 e0.Kids c2] :: hf) [(8, vI levels)] ?_
           have hle := Imm.le.refl imm1
           refine R_p 2 [(9, .bool (decide (levels < 1)))] ?_
           rw [hc]
           exact R_out (hx := []) rfl hle rfl (out_some rfl) ⟨rfl, rfl⟩
         · intro imm1 hf le1
           refine Ins_cons ?_
           rintro _ _ ⟨rfl, rfl⟩
           refine Ins_nil <| R_isw (hB b [vI e0.Kind, vI e0.Num, vS p e0.Index.Coefs c, vI e0.Index.Const, vT e0.Read.Array.l, vS p1 e0.Read.Subs c1, vS p2 e0.Kids c2] :: hf) [(9, .bool true)] ?_
           have hle := Imm.le.refl imm1
           exact R_p 3 [(10, .bool true)] <| R_out (hx := []) rfl hle rfl (out_some rfl) ⟨rfl, rfl⟩
       · intro imm01 le
         refine Ins_cons ?_
         rintro _ _ ⟨rfl, rfl⟩
         refine Ins_nil <| R_isw [hB b [vI e0.Kind, vI e0.Num, vS p e0.Index.Coefs c, vI e0.Index.Const, vT e0.Read.Array.l, vS p1 e0.Read.Subs c1, vS p2 e0.Kids c2]] [(1, vI depth), (2, vI levels), (3, vP b 0), (24, .bool true)] ?_
         replace h := h.mono le
         replace h1 := h1.mono le
         replace h2 := h2.mono le
         replace hle := hle.trans le
         exact R_end rfl <| T_w [(1, vI depth), (2, vI levels), (3, vP b 0), (24, .bool true)] <| T_cut ⟨_, (pure_some hM0).symm, hle, rfl, rfl⟩
      | false =>
       have hM01 := if_some_false hc ho0
       obtain ⟨y, hy, hM⟩ := bind_some hM01
       cases hc1 : (y != (e0.Kids.length : Int)) with
       | true =>
        have hM02 := if_some_true hc1 hM
        refine J_any [.p (vI levels) [], .q (.bool false), .q (.bool false), .p (vP b 0) [], .p (vI e0.Kind) [0], .q (vI y), .p (vP b 6) [], .p (vS p2 e0.Kids c2) [0], .p (vI (e0.Kids.length : Int)) [], .q (.bool true), .q (.bool true), .q (.bool true), .p undef [], .p undef [], .p undef [], .p undef [], .p (.bool true) []] [[], [(0, false)], [(1, false)], [(2, false)], [(2, false), (3, false)], [(2, false), (4, false)], [(2, false)], [(2, false), (6, false)], [(2, false), (7, false)], [(2, false), (5, false), (8, false)], [(2, false), (9, false)], [(10, false)], [(11, false)], [(11, false)], [(11, false), (12, false), (13, false)], [(11, false), (14, false)], [(11, false), (15, false)]] [hB b [vI e0.Kind, vI e0.Num, vS p e0.Index.Coefs c, vI e0.Index.Const, vT e0.Read.Array.l, vS p1 e0.Read.Subs c1, vS p2 e0.Kids c2]] [] [(16, false)] (good_pick [0] rfl (by decide)) ?_ ?_
        · refine Op <| Oq ?_ <| Oq ?_ <| Op <| Op <| Oq ?_ <| Op <| Op <| Op <| Oq ?_ <| Oq ?_ <| Oq ?_ <| Op <| Op <| Op <| Op <| Op <| On
          · intro imm1 hf le1
            refine Ins_cons ?_
            rintro _ _ ⟨rfl, rfl⟩
            refine Ins_nil <| R_isw (hB b [vI e0.Kind, vI e0.Num, vS p e0.Index.Coefs c, vI e0.Index.Const, vT e0.Read.Array.l, vS p1 e0.Read.Subs c1, vS p2 e0.Kids c2] :: hf) [(8, vI levels)] ?_
            have hle := Imm.le.refl imm1
            refine R_p 2 [(9, .bool (decide (levels < 1)))] ?_
            rw [hc]
            exact R_out (hx := []) rfl hle rfl (out_some rfl) ⟨rfl, rfl⟩
          · intro imm1 hf le1
            refine Ins_cons ?_
            rintro _ _ ⟨rfl, rfl⟩
            refine Ins_nil <| R_isw (hB b [vI e0.Kind, vI e0.Num, vS p e0.Index.Coefs c, vI e0.Index.Const, vT e0.Read.Array.l, vS p1 e0.Read.Subs c1, vS p2 e0.Kids c2] :: hf) [(9, .bool false)] ?_
            have hle := Imm.le.refl imm1
            exact R_p 3 [(10, .bool false)] <| R_out (hx := []) rfl hle rfl (out_some rfl) ⟨rfl, rfl⟩
          · intro imm1 hf le1
            refine Ins_cons ?_
            rintro _ _ ⟨rfl, rfl⟩
            refine Ins_cons ?_
            rintro _ _ ⟨rfl, rfl⟩
            refine Ins_nil <| R_isw (hB b [vI e0.Kind, vI e0.Num, vS p e0.Index.Coefs c, vI e0.Index.Const, vT e0.Read.Array.l, vS p1 e0.Read.Subs c1, vS p2 e0.Kids c2] :: hf) [(10, .bool false), (12, vI e0.Kind)] ?_
            have hle := Imm.le.refl imm1
            replace h := h.mono le1
            replace h1 := h1.mono le1
            replace h2 := h2.mono le1
            refine R_call (hs1 := []) (rest := (hB b [vI e0.Kind, vI e0.Num, vS p e0.Index.Coefs c, vI e0.Index.Const, vT e0.Read.Array.l, vS p1 e0.Read.Subs c1, vS p2 e0.Kids c2] :: hf)) rfl rfl rfl rfl (by kernel_rfl) rfl rfl (spec_l3Kids_ok e0.Kind _ hy ) ?_
            rintro imm02 hs2 v2 k2 le1 - ⟨v0, rfl, rfl, rfl⟩ -
            replace h := h.mono le1
            replace h1 := h1.mono le1
            replace h2 := h2.mono le1
            replace hle := hle.trans le1
            exact R_out (hx := []) rfl hle rfl (out_some rfl) ⟨rfl, rfl⟩
          · intro imm1 hf le1
            refine Ins_cons ?_
            rintro _ _ ⟨rfl, rfl⟩
            refine Ins_cons ?_
            rintro _ _ ⟨rfl, rfl⟩
            refine Ins_cons ?_
            rintro _ _ ⟨rfl, rfl⟩
            refine Ins_nil <| R_isw (hB b [vI e0.Kind, vI e0.Num, vS p e0.Index.Coefs c, vI e0.Index.Const, vT e0.Read.Array.l, vS p1 e0.Read.Subs c1, vS p2 e0.Kids c2] :: hf) [(10, .bool false), (13, vI y), (16, vI (e0.Kids.length : Int))] ?_
            have hle := Imm.le.refl imm1
            refine R_p 10 [(17, .bool (y != (e0.Kids.length : Int)))] ?_
            rw [hc1]
            exact R_out (hx := []) rfl hle rfl (out_some rfl) ⟨rfl, rfl⟩
          · intro imm1 hf le1
            refine Ins_cons ?_
            rintro _ _ ⟨rfl, rfl⟩
            refine Ins_cons ?_
            rintro _ _ ⟨rfl, rfl⟩
            refine Ins_nil <| R_isw (hB b [vI e0.Kind, vI e0.Num, vS p e0.Index.Coefs c, vI e0.Index.Const, vT e0.Read.Array.l, vS p1 e0.Read.Subs c1, vS p2 e0.Kids c2] :: hf) [(10, .bool false), (17, .bool true)] ?_
            have hle := Imm.le.refl imm1
            exact R_p 11 [(18, .bool true)] <| R_out (hx := []) rfl hle rfl (out_some rfl) ⟨rfl, rfl⟩
          · intro imm1 hf le1
            refine Ins_cons ?_
            rintro _ _ ⟨rfl, rfl⟩
            refine Ins_nil <| R_isw (hB b [vI e0.Kind, vI e0.Num, vS p e0.Index.Coefs c, vI e0.Index.Const, vT e0.Read.Array.l, vS p1 e0.Read.Subs c1, vS p2 e0.Kids c2] :: hf) [(18, .bool true)] ?_
            have hle := Imm.le.refl imm1
            exact R_p 12 [(19, .bool true)] <| R_out (hx := []) rfl hle rfl (out_some rfl) ⟨rfl, rfl⟩
        · intro imm03 le2
          refine Ins_cons ?_
          rintro _ _ ⟨rfl, rfl⟩
          refine Ins_nil <| R_isw [hB b [vI e0.Kind, vI e0.Num, vS p e0.Index.Coefs c, vI e0.Index.Const, vT e0.Read.Array.l, vS p1 e0.Read.Subs c1, vS p2 e0.Kids c2]] [(1, vI depth), (2, vI levels), (3, vP b 0), (24, .bool true)] ?_
          replace h := h.mono le2
          replace h1 := h1.mono le2
          replace h2 := h2.mono le2
          replace hle := hle.trans le2
          exact R_end rfl <| T_w [(1, vI depth), (2, vI levels), (3, vP b 0), (24, .bool true)] <| T_cut ⟨_, (pure_some hM02).symm, hle, rfl, rfl⟩
       | false =>
        have hM03 := if_some_false hc1 hM
        obtain ⟨y1, hy1, hM⟩ := bind_some hM03
        refine J_any [.p (vI levels) [], .q (.bool false), .q (.bool false), .p (vP b 0) [], .p (vI e0.Kind) [0], .q (vI y), .p (vP b 6) [], .p (vS p2 e0.Kids c2) [0], .p (vI (e0.Kids.length : Int)) [], .q (.bool false), .q (.bool false), .q (.bool false), .p (vA [vI e0.Kind, vI e0.Num, vS p e0.Index.Coefs c, vI e0.Index.Const, vT e0.Read.Array.l, vS p1 e0.Read.Subs c1, vS p2 e0.Kids c2]) [0], .p (vI depth) [], .q (.bool y1), .p (.bool (!y1)) [], .p (.bool (!y1)) []] [[], [(0, false)], [(1, false)], [(2, false)], [(2, false), (3, false)], [(2, false), (4, false)], [(2, false)], [(2, false), (6, false)], [(2, false), (7, false)], [(2, false), (5, false), (8, false)], [(2, false), (9, false)], [(10, false)], [(11, false)], [(11, false)], [(11, false), (12, false), (13, false)], [(11, false), (14, false)], [(11, false), (15, false)]] [hB b [vI e0.Kind, vI e0.Num, vS p e0.Index.Coefs c, vI e0.Index.Const, vT e0.Read.Array.l, vS p1 e0.Read.Subs c1, vS p2 e0.Kids c2]] [] [(16, false)] (good_pick [0] rfl (by decide)) ?_ ?_
        · refine Op <| Oq ?_ <| Oq ?_ <| Op <| Op <| Oq ?_ <| Op <| Op <| Op <| Oq ?_ <| Oq ?_ <| Oq ?_ <| Op <| Op <| Oq ?_ <| Op <| Op <| On
          · intro imm1 hf le1
            refine Ins_cons ?_
            rintro _ _ ⟨rfl, rfl⟩
            refine Ins_nil <| R_isw (hB b [vI e0.Kind, vI e0.Num, vS p e0.Index.Coefs c, vI e0.Index.Const, vT e0.Read.Array.l, vS p1 e0.Read.Subs c1, vS p2 e0.Kids c2] :: hf) [(8, vI levels)] ?_
            have hle := Imm.le.refl imm1
            refine R_p 2 [(9, .bool (decide (levels < 1)))] ?_
            rw [hc]
            exact R_out (hx := []) rfl hle rfl (out_some rfl) ⟨rfl, rfl⟩
          · intro imm1 hf le1
            refine Ins_cons ?_
            rintro _ _ ⟨rfl, rfl⟩
            refine Ins_nil <| R_isw (hB b [vI e0.Kind, vI e0.Num, vS p e0.Index.Coefs c, vI e0.Index.Const, vT e0.Read.Array.l, vS p1 e0.Read.Subs c1, vS p2 e0.Kids c2] :: hf) [(9, .bool false)] ?_
            have hle := Imm.le.refl imm1
            exact R_p 3 [(10, .bool false)] <| R_out (hx := []) rfl hle rfl (out_some rfl) ⟨rfl, rfl⟩
          · intro imm1 hf le1
            refine Ins_cons ?_
            rintro _ _ ⟨rfl, rfl⟩
            refine Ins_cons ?_
            rintro _ _ ⟨rfl, rfl⟩
            refine Ins_nil <| R_isw (hB b [vI e0.Kind, vI e0.Num, vS p e0.Index.Coefs c, vI e0.Index.Const, vT e0.Read.Array.l, vS p1 e0.Read.Subs c1, vS p2 e0.Kids c2] :: hf) [(10, .bool false), (12, vI e0.Kind)] ?_
            have hle := Imm.le.refl imm1
            replace h := h.mono le1
            replace h1 := h1.mono le1
            replace h2 := h2.mono le1
            refine R_call (hs1 := []) (rest := (hB b [vI e0.Kind, vI e0.Num, vS p e0.Index.Coefs c, vI e0.Index.Const, vT e0.Read.Array.l, vS p1 e0.Read.Subs c1, vS p2 e0.Kids c2] :: hf)) rfl rfl rfl rfl (by kernel_rfl) rfl rfl (spec_l3Kids_ok e0.Kind _ hy ) ?_
            rintro imm02 hs2 v2 k2 le1 - ⟨v0, rfl, rfl, rfl⟩ -
            replace h := h.mono le1
            replace h1 := h1.mono le1
            replace h2 := h2.mono le1
            replace hle := hle.trans le1
            exact R_out (hx := []) rfl hle rfl (out_some rfl) ⟨rfl, rfl⟩
          · intro imm1 hf le1
            refine Ins_cons ?_
            rintro _ _ ⟨rfl, rfl⟩
            refine Ins_cons ?_
            rintro _ _ ⟨rfl, rfl⟩
            refine Ins_cons ?_
            rintro _ _ ⟨rfl, rfl⟩
            refine Ins_nil <| R_isw (hB b [vI e0.Kind, vI e0.Num, vS p e0.Index.Coefs c, vI e0.Index.Const, vT e0.Read.Array.l, vS p1 e0.Read.Subs c1, vS p2 e0.Kids c2] :: hf) [(10, .bool false), (13, vI y), (16, vI (e0.Kids.length : Int))] ?_
            have hle := Imm.le.refl imm1
            refine R_p 10 [(17, .bool (y != (e0.Kids.length : Int)))] ?_
            rw [hc1]
            exact R_out (hx := []) rfl hle rfl (out_some rfl) ⟨rfl, rfl⟩
          · intro imm1 hf le1
            refine Ins_cons ?_
            rintro _ _ ⟨rfl, rfl⟩
            refine Ins_cons ?_
            rintro _ _ ⟨rfl, rfl⟩
            refine Ins_nil <| R_isw (hB b [vI e0.Kind, vI e0.Num, vS p e0.Index.Coefs c, vI e0.Index.Const, vT e0.Read.Array.l, vS p1 e0.Read.Subs c1, vS p2 e0.Kids c2] :: hf) [(10, .bool false), (17, .bool false)] ?_
            have hle := Imm.le.refl imm1
            exact R_p 11 [(18, .bool false)] <| R_out (hx := []) rfl hle rfl (out_some rfl) ⟨rfl, rfl⟩
          · intro imm1 hf le1
            refine Ins_cons ?_
            rintro _ _ ⟨rfl, rfl⟩
            refine Ins_nil <| R_isw (hB b [vI e0.Kind, vI e0.Num, vS p e0.Index.Coefs c, vI e0.Index.Const, vT e0.Read.Array.l, vS p1 e0.Read.Subs c1, vS p2 e0.Kids c2] :: hf) [(18, .bool false)] ?_
            have hle := Imm.le.refl imm1
            exact R_p 12 [(19, .bool false)] <| R_out (hx := []) rfl hle rfl (out_some rfl) ⟨rfl, rfl⟩
          · intro imm1 hf le1
            refine Ins_cons ?_
            rintro _ _ ⟨rfl, rfl⟩
            refine Ins_cons ?_
            rintro _ _ ⟨rfl, rfl⟩
            refine Ins_cons ?_
            rintro _ _ ⟨rfl, rfl⟩
            refine Ins_nil <| R_isw (hB b [vI e0.Kind, vI e0.Num, vS p e0.Index.Coefs c, vI e0.Index.Const, vT e0.Read.Array.l, vS p1 e0.Read.Subs c1, vS p2 e0.Kids c2] :: hf) [(19, .bool false), (20, vA [vI e0.Kind, vI e0.Num, vS p e0.Index.Coefs c, vI e0.Index.Const, vT e0.Read.Array.l, vS p1 e0.Read.Subs c1, vS p2 e0.Kids c2]), (21, vI depth)] ?_
            have hle := Imm.le.refl imm1
            replace h := h.mono le1
            replace h1 := h1.mono le1
            replace h2 := h2.mono le1
            refine R_call (hs1 := []) (rest := (hB b [vI e0.Kind, vI e0.Num, vS p e0.Index.Coefs c, vI e0.Index.Const, vT e0.Read.Array.l, vS p1 e0.Read.Subs c1, vS p2 e0.Kids c2] :: hf)) rfl rfl rfl rfl (by kernel_rfl) rfl rfl (spec_l3Own_ok e0 depth _ hy1 h h1 h2) ?_
            rintro imm04 hs2 v2 k2 le3 - ⟨v01, rfl, rfl, rfl⟩ -
            replace h := h.mono le3
            replace h1 := h1.mono le3
            replace h2 := h2.mono le3
            replace hle := hle.trans le3
            exact R_out (hx := []) rfl hle rfl (out_some rfl) ⟨rfl, rfl⟩
        · intro imm05 le4
          refine Ins_cons ?_
          rintro _ _ ⟨rfl, rfl⟩
          refine Ins_nil <| R_isw [hB b [vI e0.Kind, vI e0.Num, vS p e0.Index.Coefs c, vI e0.Index.Const, vT e0.Read.Array.l, vS p1 e0.Read.Subs c1, vS p2 e0.Kids c2]] [(1, vI depth), (2, vI levels), (3, vP b 0), (24, .bool (!y1))] ?_
          replace h := h.mono le4
          replace h1 := h1.mono le4
          replace h2 := h2.mono le4
          replace hle := hle.trans le4
          exact R_end rfl <| T_w [(1, vI depth), (2, vI levels), (3, vP b 0), (24, .bool (!y1))] <| T_cut ⟨_, (pure_some hM).symm, hle, rfl, rfl⟩
    · rintro imm0 hs2 m2 ⟨t24, heq, le5, rfl, rfl⟩
      subst o0
      replace h := h.mono le5
      replace h1 := h1.mono le5
      replace h2 := h2.mono le5
      replace hle := hle.trans le5
      refine T_seq <| J_cd hM ?_ ?_
      · intro hc2 hM
        refine J_seq <| J_region <| R_z [] [(6, .bool false)] <| T_seq <| J_ret <| T_then_ret ?_
        obtain rfl := pure_some hM
        exact T_RS ⟨_, _, (.tmp rfl ResV.nil), good_none, ⟨_, rfl, rfl, rfl⟩⟩
      · intro hc2 hM
        refine J_skip <| T_seq <| J_seq <| J_seq <| J_region <| R_z [] [(7, vI 0)] <| T_seq <| J_block <| J_w [(1, vI depth), (2, vI levels), (3, vP b 0), (7, vI 0)] ?_
        obtain ⟨o01, ho01, hM⟩ := bind_some hM
        refine ih_spec_l3Shape_l1 e0 depth levels 0 o01 ho01 (Imm.le.refl _) h h1 h2 (fun _ _ _ h => h) (fun _ _ h => h) ?_ ?_
        · intro imm07  heq1 le7
          subst o01
          replace hle := hle.trans le7
          refine T_block_here <| T_seq <| J_seq <| J_region <| R_z [] [(6, .bool true)] <| T_seq <| J_ret ?_
          obtain rfl := pure_some hM
          exact T_RS ⟨_, _, (.tmp rfl ResV.nil), good_none, ⟨_, rfl, rfl, rfl⟩⟩
        · intro r0 imm9 hs9 m9 heq9 le9 hrs9
          subst heq9
          refine T_block_ret <| T_then_ret ?_
          obtain rfl := pure_some hM
          exact T_RS hrs9
  · intro F_spec_l3Shape F_spec_l3Shape_l1 ih_spec_l3Shape ih_spec_l3Shape_l1 e0 depth levels i o hM B imm0 imm Q p c p1 c1 p2 c2 b hle h h1 h2 hg ho hx hr
    refine J_loop hg ho <| J_seq <| J_seq <| J_region <| R_z [0] [(29, .bool (decide (i < (e0.Kids.length : Int))))] <| T_seq <| J_cd hM ?_ ?_
    · intro hc3 hM
      refine J_skip <| T_seq <| J_seq <| J_block <| J_seq <| J_region <| R_d 3 [0] [(33, vS p2 e0.Kids c2), (34, vI i)] ?_
      obtain ⟨x, hy2, hM⟩ := bind_some hM
      refine R_ix rfl rfl h2 hy2 ?_
      intro ad ccs hat hrep
      obtain ⟨v02, v03, v04, rfl, h5, h6, h7⟩ := impl_Expr_open hrep
      obtain ⟨p3, c3, rfl⟩ := h5.form
      obtain ⟨p4, c4, rfl⟩ := h6.form
      obtain ⟨p5, c5, rfl⟩ := h7.form
      refine R_la 0 hat [vI x.Kind, vI x.Num, vS p3 x.Index.Coefs c3, vI x.Index.Const, vT x.Read.Array.l, vS p4 x.Read.Subs c4, vS p5 x.Kids c5] (vA [vI x.Kind, vI x.Num, vS p3 x.Index.Coefs c3, vI x.Index.Const, vT x.Read.Array.l, vS p4 x.Read.Subs c4, vS p5 x.Kids c5]) rfl <| R_d 8 [] [(37, vI depth), (39, vI (W (levels - 1)))] ?_
      obtain ⟨y2, hy3, hM⟩ := bind_some hM
      refine R_call (hs1 := []) (rest := [hB b [vI e0.Kind, vI e0.Num, vS p e0.Index.Coefs c, vI e0.Index.Const, vT e0.Read.Array.l, vS p1 e0.Read.Subs c1, vS p2 e0.Kids c2]]) rfl rfl rfl rfl (by kernel_rfl) rfl rfl (ih_spec_l3Shape x depth (W (levels - 1)) _ hy3 h5 h6 h7) ?_
      rintro imm06 hs2 v2 k2 le6 - ⟨v05, rfl, rfl, rfl⟩ -
      replace h := h.mono le6
      replace h1 := h1.mono le6
      replace h2 := h2.mono le6
      replace hle := hle.trans le6
      refine R_z [] [(41, .bool (!y2))] <| T_seq <| J_cd hM ?_ ?_
      · intro hc4 hM
        exact J_seq <| J_region <| R_z [] [(6, .bool false)] <| T_seq <| J_ret <| T_block_ret <| T_then_ret <| T_then_ret <| hr _ _ _ _ (pure_some hM).symm hle ⟨_, _, (.tmp rfl ResV.nil), good_none, ⟨_, rfl, rfl, rfl⟩⟩
      · intro hc4 hM
        exact J_skip <| T_block_normal <| T_seq <| J_region <| R_z [] [(7, vI (W (i + 1)))] <| T_loop <| J_w [(1, vI depth), (2, vI levels), (3, vP b 0), (7, vI (W (i + 1)))] <| ih_spec_l3Shape_l1 e0 depth levels (W (i + 1)) _ hM hle h h1 h2 hg ho hx hr
    · intro hc3 hM
      exact J_exit <| T_then_exit <| T_then_exit <| T_hs (good_pick [] rfl (by decide)) <| T_w [] <| hx _  (pure_some hM).symm hle
theorem spec_l3Shape_ok : ∀ (e0 : impl_Expr) (depth : Int) (levels : Int) r, M.spec_l3Shape e0 depth levels = some r → ∀ {imm : Imm} {p : Option Addr} {c : Nat} {p1 : Option Addr} {c1 : Nat} {p2 : Option Addr} {c2 : Nat}, (SL imm (vS p e0.Index.Coefs c) e0.Index.Coefs) → (SL imm (vS p1 e0.Read.Subs c1) e0.Read.Subs) → (SL imm (vS p2 e0.Kids c2) e0.Kids) → Ret Try.prog 69 [vA [vI e0.Kind, vI e0.Num, vS p e0.Index.Coefs c, vI e0.Index.Const, vT e0.Read.Array.l, vS p1 e0.Read.Subs c1, vS p2 e0.Kids c2], vI depth, vI levels] imm [] (spec_l3Shape_post  r) := grp_spec_l3Shape.1
def spec_l3Count_post (r : Int) : Nat → Imm → List HA → Value → Prop := fun kk imm' hs' v =>
  ∃ (v0 : Value), hs' = [] ∧ v = tupV [v0] ∧ v0 = .int .i64 r
mutual
def M.spec_l3Count (e0 : impl_Expr) (levels : Int) : Option (Int) := do
 let n01 ← M.spec_l3Count_l1 (same e0) (same levels) (same 1) (same 0)
 pure (id n01)
 partial_fixpoint
def M.spec_l3Count_l1 (e0 : impl_Expr) (levels : Int) (n0 : Int) (i : Int) : Option (Int) := do
 let t15 ← (do
   if (decide (i < (e0.Kids.length : Int))) then
    pure (decide (levels > 0))
   else
    pure false
     : Option Bool)
 if t15 then
  let x ← idx e0.Kids i
  let y ← M.spec_l3Count (same x) (W (levels - 1))
  M.spec_l3Count_l1 (same e0) (same levels) (W (n0 + y)) (W (i + 1))
 else
  pure (id n0)
 partial_fixpoint
end
theorem grp_spec_l3Count : (∀ (e0 : impl_Expr) (levels : Int) r, M.spec_l3Count e0 levels = some r → ∀ {imm : Imm} {p : Option Addr} {c : Nat} {p1 : Option Addr} {c1 : Nat} {p2 : Option Addr} {c2 : Nat}, (SL imm (vS p e0.Index.Coefs c) e0.Index.Coefs) → (SL imm (vS p1 e0.Read.Subs c1) e0.Read.Subs) → (SL imm (vS p2 e0.Kids c2) e0.Kids) → Ret Try.prog 70 [vA [vI e0.Kind, vI e0.Num, vS p e0.Index.Coefs c, vI e0.Index.Const, vT e0.Read.Array.l, vS p1 e0.Read.Subs c1, vS p2 e0.Kids c2], vI levels] imm [] (spec_l3Count_post  r)) ∧ (∀ (e0 : impl_Expr) (levels : Int) (n0 : Int) (i : Int) o, M.spec_l3Count_l1 e0 levels n0 i = some o → ∀ {B : Base} {imm0 imm : Imm} {Q : Exit → Act → World → Prop}  {p : Option Addr} {c : Nat} {p1 : Option Addr} {c1 : Nat} {p2 : Option Addr} {c2 : Nat} {b : Nat}, imm0.le imm → (SL imm (vS p e0.Index.Coefs c) e0.Index.Coefs) → (SL imm (vS p1 e0.Read.Subs c1) e0.Read.Subs) → (SL imm (vS p2 e0.Kids c2) e0.Kids) → (∀ l a w, ¬ Q (.goto l) a w) → (∀ a w, ¬ Q .outgrown a w) → (∀ (imm' : Imm) (n01 : Int), o = n01 → imm0.le imm' → T 29 B Q (.exit 0) imm' [] [(5, vI n01)]) → J Try.prog 29 B (nav (bodyOf Try.f70) [1, 1, 0, 1, 0]) Q imm [hB b [vI e0.Kind, vI e0.Num, vS p e0.Index.Coefs c, vI e0.Index.Const, vT e0.Read.Array.l, vS p1 e0.Read.Subs c1, vS p2 e0.Kids c2]] [(1, vI levels), (2, vP b 0), (5, vI n0), (6, vI i)]) := by
  refine M.spec_l3Count.mutual_partial_correctness (fun e0 levels r => ∀ {imm : Imm} {p : Option Addr} {c : Nat} {p1 : Option Addr} {c1 : Nat} {p2 : Option Addr} {c2 : Nat}, (SL imm (vS p e0.Index.Coefs c) e0.Index.Coefs) → (SL imm (vS p1 e0.Read.Subs c1) e0.Read.Subs) → (SL imm (vS p2 e0.Kids c2) e0.Kids) → Ret Try.prog 70 [vA [vI e0.Kind, vI e0.Num, vS p e0.Index.Coefs c, vI e0.Index.Const, vT e0.Read.Array.l, vS p1 e0.Read.Subs c1, vS p2 e0.Kids c2], vI levels] imm [] (spec_l3Count_post  r)) (fun e0 levels n0 i o => ∀ {B : Base} {imm0 imm : Imm} {Q : Exit → Act → World → Prop}  {p : Option Addr} {c : Nat} {p1 : Option Addr} {c1 : Nat} {p2 : Option Addr} {c2 : Nat} {b : Nat}, imm0.le imm → (SL imm (vS p e0.Index.Coefs c) e0.Index.Coefs) → (SL imm (vS p1 e0.Read.Subs c1) e0.Read.Subs) → (SL imm (vS p2 e0.Kids c2) e0.Kids) → (∀ l a w, ¬ Q (.goto l) a w) → (∀ a w, ¬ Q .outgrown a w) → (∀ (imm' : Imm) (n01 : Int), o = n01 → imm0.le imm' → T 29 B Q (.exit 0) imm' [] [(5, vI n01)]) → J Try.prog 29 B (nav (bodyOf Try.f70) [1, 1, 0, 1, 0]) Q imm [hB b [vI e0.Kind, vI e0.Num, vS p e0.Index.Coefs c, vI e0.Index.Const, vT e0.Read.Array.l, vS p1 e0.Read.Subs c1, vS p2 e0.Kids c2]] [(1, vI levels), (2, vP b 0), (5, vI n0), (6, vI i)]) ?_ ?_
  · intro F_spec_l3Count_l1 ih_spec_l3Count_l1 e0 levels r hM imm p c p1 c1 p2 c2 h h1 h2
    refine ret_of_J (fn := Try.f70) (c := (bodyOf Try.f70)) Try.func70 rfl rfl ?_
    rintro B - -
    have hle : imm.le imm := Imm.le.refl _
    refine J_seq <| J_region <| R_box (c := ⟨[vI e0.Kind, vI e0.Num, vS p e0.Index.Coefs c, vI e0.Index.Const, vT e0.Read.Array.l, vS p1 e0.Read.Subs c1, vS p2 e0.Kids c2]⟩) rfl rfl rfl rfl rfl ?_
    intro b hb
    refine R_z [] [] <| T_seq <| J_seq <| J_region <| R_z [] [(5, vI 1)] <| T_seq <| J_seq <| J_seq <| J_region <| R_z [] [(6, vI 0)] <| T_seq <| J_block <| J_w [(1, vI levels), (2, vP b 0), (5, vI 1), (6, vI 0)] ?_
    obtain ⟨o01, ho01, hM⟩ := bind_some hM
    refine ih_spec_l3Count_l1 e0 levels 1 0 o01 ho01 (Imm.le.refl _) h h1 h2 (fun _ _ _ h => h) (fun _ _ h => h) ?_
    intro imm02 n01 heq1 le2
    subst o01
    replace hle := hle.trans le2
    refine T_block_here <| T_seq <| J_seq <| J_region <| R_z [] [(4, vI n01)] <| T_seq <| J_ret ?_
    obtain rfl := pure_some hM
    exact T_RS ⟨_, _, (.tmp rfl ResV.nil), good_none, ⟨_, rfl, rfl, rfl⟩⟩
  · intro F_spec_l3Count F_spec_l3Count_l1 ih_spec_l3Count ih_spec_l3Count_l1 e0 levels n0 i o hM B imm0 imm Q p c p1 c1 p2 c2 b hle h h1 h2 hg ho hx
    refine J_loop hg ho <| J_seq <| J_seq ?_
    obtain ⟨o0, ho0, hM⟩ := bind_some hM
    refine J_cut (fun imm' hs' m' => ∃ (t15 : Bool), o0 = t15 ∧ imm.le imm' ∧ hs' = [hB b [vI e0.Kind, vI e0.Num, vS p e0.Index.Coefs c, vI e0.Index.Const, vT e0.Read.Array.l, vS p1 e0.Read.Subs c1, vS p2 e0.Kids c2]] ∧ m' = [(1, vI levels), (2, vP b 0), (5, vI n0), (6, vI i), (15, .bool t15)]) ?_ ?_
    · have hle0 := hle
      have hle : imm.le imm := Imm.le.refl _
      refine J_region <| R_d 6 [0] [(12, .bool (decide (i < (e0.Kids.length : Int))))] ?_
      cases hc : (decide (i < (e0.Kids.length : Int))) with
      | true =>
       have hM0 := if_some_true hc ho0
       try rw [hc]
       exact R_z [] [(15, .bool (decide (levels > 0)))] <| T_w [(1, vI levels), (2, vP b 0), (5, vI n0), (6, vI i), (15, .bool (decide (levels > 0)))] <| T_cut ⟨_, (pure_some hM0).symm, hle, rfl, rfl⟩
      | false =>
       have hM01 := if_some_false hc ho0
       try rw [hc]
       exact R_z [] [(15, .bool false)] <| T_w [(1, vI levels), (2, vP b 0), (5, vI n0), (6, vI i), (15, .bool false)] <| T_cut ⟨_, (pure_some hM01).symm, hle, rfl, rfl⟩
    · rintro imm0 hs2 m2 ⟨t15, heq, le, rfl, rfl⟩
      subst o0
      replace h := h.mono le
      replace h1 := h1.mono le
      replace h2 := h2.mono le
      replace hle := hle.trans le
      refine T_seq <| J_cd hM ?_ ?_
      · intro hc1 hM
        refine J_skip <| T_seq <| J_seq <| J_block <| J_region <| R_d 4 [0] [(18, vI n0), (20, vS p2 e0.Kids c2), (21, vI i)] ?_
        obtain ⟨x, hy, hM⟩ := bind_some hM
        refine R_ix rfl rfl h2 hy ?_
        intro ad ccs hat hrep
        obtain ⟨v0, v01, v02, rfl, h3, h4, h5⟩ := impl_Expr_open hrep
        obtain ⟨p3, c3, rfl⟩ := h3.form
        obtain ⟨p4, c4, rfl⟩ := h4.form
        obtain ⟨p5, c5, rfl⟩ := h5.form
        refine R_la 0 hat [vI x.Kind, vI x.Num, vS p3 x.Index.Coefs c3, vI x.Index.Const, vT x.Read.Array.l, vS p4 x.Read.Subs c4, vS p5 x.Kids c5] (vA [vI x.Kind, vI x.Num, vS p3 x.Index.Coefs c3, vI x.Index.Const, vT x.Read.Array.l, vS p4 x.Read.Subs c4, vS p5 x.Kids c5]) rfl <| R_d 8 [] [(25, vI (W (levels - 1)))] ?_
        obtain ⟨y, hy1, hM⟩ := bind_some hM
        refine R_call (hs1 := []) (rest := [hB b [vI e0.Kind, vI e0.Num, vS p e0.Index.Coefs c, vI e0.Index.Const, vT e0.Read.Array.l, vS p1 e0.Read.Subs c1, vS p2 e0.Kids c2]]) rfl rfl rfl rfl (by kernel_rfl) rfl rfl (ih_spec_l3Count x (W (levels - 1)) _ hy1 h3 h4 h5) ?_
        rintro imm01 hs2 v2 k2 le1 - ⟨v03, rfl, rfl, rfl⟩ -
        replace h := h.mono le1
        replace h1 := h1.mono le1
        replace h2 := h2.mono le1
        replace hle := hle.trans le1
        exact R_z [] [(5, vI (W (n0 + y)))] <| T_block_normal <| T_seq <| J_region <| R_z [] [(6, vI (W (i + 1)))] <| T_loop <| J_w [(1, vI levels), (2, vP b 0), (5, vI (W (n0 + y))), (6, vI (W (i + 1)))] <| ih_spec_l3Count_l1 e0 levels (W (n0 + y)) (W (i + 1)) _ hM hle h h1 h2 hg ho hx
      · intro hc1 hM
        exact J_exit <| T_then_exit <| T_then_exit <| T_hs (good_pick [] rfl (by decide)) <| T_w [(5, vI n0)] <| hx _ _ (pure_some hM).symm hle
theorem spec_l3Count_ok : ∀ (e0 : impl_Expr) (levels : Int) r, M.spec_l3Count e0 levels = some r → ∀ {imm : Imm} {p : Option Addr} {c : Nat} {p1 : Option Addr} {c1 : Nat} {p2 : Option Addr} {c2 : Nat}, (SL imm (vS p e0.Index.Coefs c) e0.Index.Coefs) → (SL imm (vS p1 e0.Read.Subs c1) e0.Read.Subs) → (SL imm (vS p2 e0.Kids c2) e0.Kids) → Ret Try.prog 70 [vA [vI e0.Kind, vI e0.Num, vS p e0.Index.Coefs c, vI e0.Index.Const, vT e0.Read.Array.l, vS p1 e0.Read.Subs c1, vS p2 e0.Kids c2], vI levels] imm [] (spec_l3Count_post  r) := grp_spec_l3Count.1
def spec_StmtValid_post (r : Bool) : Nat → Imm → List HA → Value → Prop := fun kk imm' hs' v =>
  ∃ (v0 : Value), hs' = [] ∧ v = tupV [v0] ∧ v0 = .bool r
def M.spec_StmtValid (s : impl_Stmt) (depth : Int) : Option (Bool) := do
 let t24 ← (do
   if (decide (depth < 0)) then
    pure true
   else
    if (decide (depth > 4)) then
     pure true
    else
     let y ← M.spec_l3Access s.Write depth
     if (!y) then
      pure true
     else
      let y1 ← M.spec_l3Shape s.Value depth 5
      pure (!y1)
     : Option Bool)
 if t24 then
  pure false
 else
  let y2 ← M.spec_l3Count s.Value 5
  pure (decide (y2 ≤ 12))
theorem spec_StmtValid_ok : ∀ (s : impl_Stmt) (depth : Int) r, M.spec_StmtValid s depth = some r → ∀ {imm : Imm} {p : Option Addr} {c : Nat} {p1 : Option Addr} {c1 : Nat} {p2 : Option Addr} {c2 : Nat} {p3 : Option Addr} {c3 : Nat}, (SL imm (vS p s.Write.Subs c) s.Write.Subs) → (SL imm (vS p1 s.Value.Index.Coefs c1) s.Value.Index.Coefs) → (SL imm (vS p2 s.Value.Read.Subs c2) s.Value.Read.Subs) → (SL imm (vS p3 s.Value.Kids c3) s.Value.Kids) → Ret Try.prog 50 [vA [vT s.Write.Array.l, vS p s.Write.Subs c, vI s.Value.Kind, vI s.Value.Num, vS p1 s.Value.Index.Coefs c1, vI s.Value.Index.Const, vT s.Value.Read.Array.l, vS p2 s.Value.Read.Subs c2, vS p3 s.Value.Kids c3], vI depth] imm [] (spec_StmtValid_post  r) := by
 intro s depth r hM imm p c p1 c1 p2 c2 p3 c3 h h1 h2 h3
 unfold M.spec_StmtValid at hM
 refine ret_of_J (fn := Try.f50) (c := (bodyOf Try.f50)) Try.func50 rfl rfl ?_
 rintro B - -
 have hle : imm.le imm := Imm.le.refl _
 refine J_seq <| J_region <| R_box (c := ⟨[vT s.Write.Array.l, vS p s.Write.Subs c, vI s.Value.Kind, vI s.Value.Num, vS p1 s.Value.Index.Coefs c1, vI s.Value.Index.Const, vT s.Value.Read.Array.l, vS p2 s.Value.Read.Subs c2, vS p3 s.Value.Kids c3]⟩) rfl rfl rfl rfl rfl ?_
 intro b hb
 refine R_z [] [] <| T_seq <| J_seq <| J_seq ?_
 obtain ⟨o0, ho0, hM⟩ := bind_some hM
 refine J_cut (fun imm' hs' m' => ∃ (t24 : Bool), o0 = t24 ∧ imm.le imm' ∧ hs' = [hB b [vT s.Write.Array.l, vS p s.Write.Subs c, vI s.Value.Kind, vI s.Value.Num, vS p1 s.Value.Index.Coefs c1, vI s.Value.Index.Const, vT s.Value.Read.Array.l, vS p2 s.Value.Read.Subs c2, vS p3 s.Value.Kids c3]] ∧ m' = [(2, vP b 0), (24, .bool t24)]) ?_ ?_
 · have hle0 := hle
   have hle : imm.le imm := Imm.le.refl _
   refine J_region <| R_d 3 [] [(7, .bool (decide (depth < 0)))] ?_
   cases hc : (decide (depth < 0)) with
   | true =>
    have hM0 := if_some_true hc ho0
    try rw [hc]
    exact R_z [] [(24, .bool true)] <| T_w [(2, vP b 0), (24, .bool true)] <| T_cut ⟨_, (pure_some hM0).symm, hle, rfl, rfl⟩
   | false =>
    have hM01 := if_some_false hc ho0
    try rw [hc]
    refine R_d 7 [] [(11, .bool (decide (depth > 4)))] ?_
    cases hc1 : (decide (depth > 4)) with
    | true =>
     have hM02 := if_some_true hc1 hM01
     try rw [hc1]
     exact R_z [] [(24, .bool true)] <| T_w [(2, vP b 0), (24, .bool true)] <| T_cut ⟨_, (pure_some hM02).symm, hle, rfl, rfl⟩
    | false =>
     have hM03 := if_some_false hc1 hM01
     try rw [hc1]
     refine R_d 10 [0] [(13, vA [vT s.Write.Array.l, vS p s.Write.Subs c]), (14, vI depth)] ?_
     obtain ⟨y, hy, hM⟩ := bind_some hM03
     refine R_call (hs1 := []) (rest := [hB b [vT s.Write.Array.l, vS p s.Write.Subs c, vI s.Value.Kind, vI s.Value.Num, vS p1 s.Value.Index.Coefs c1, vI s.Value.Index.Const, vT s.Value.Read.Array.l, vS p2 s.Value.Read.Subs c2, vS p3 s.Value.Kids c3]]) rfl rfl rfl rfl (by kernel_rfl) rfl rfl (spec_l3Access_ok s.Write depth _ hy h) ?_
     rintro imm01 hs2 v2 k2 le - ⟨v0, rfl, rfl, rfl⟩ -
     replace h := h.mono le
     replace h1 := h1.mono le
     replace h2 := h2.mono le
     replace h3 := h3.mono le
     replace hle := hle.trans le
     refine R_d 14 [] [(18, .bool (!y))] ?_
     cases hc2 : (!y) with
     | true =>
      have hM04 := if_some_true hc2 hM
      try rw [hc2]
      exact R_z [] [(24, .bool true)] <| T_w [(2, vP b 0), (24, .bool true)] <| T_cut ⟨_, (pure_some hM04).symm, hle, rfl, rfl⟩
     | false =>
      have hM05 := if_some_false hc2 hM
      try rw [hc2]
      refine R_d 17 [0] [(20, vA [vI s.Value.Kind, vI s.Value.Num, vS p1 s.Value.Index.Coefs c1, vI s.Value.Index.Const, vT s.Value.Read.Array.l, vS p2 s.Value.Read.Subs c2, vS p3 s.Value.Kids c3]), (21, vI depth)] ?_
      obtain ⟨y1, hy1, hM⟩ := bind_some hM05
      refine R_call (hs1 := []) (rest := [hB b [vT s.Write.Array.l, vS p s.Write.Subs c, vI s.Value.Kind, vI s.Value.Num, vS p1 s.Value.Index.Coefs c1, vI s.Value.Index.Const, vT s.Value.Read.Array.l, vS p2 s.Value.Read.Subs c2, vS p3 s.Value.Kids c3]]) rfl rfl rfl rfl (by kernel_rfl) rfl rfl (spec_l3Shape_ok s.Value depth 5 _ hy1 h1 h2 h3) ?_
      rintro imm02 hs2 v2 k2 le1 - ⟨v01, rfl, rfl, rfl⟩ -
      replace h := h.mono le1
      replace h1 := h1.mono le1
      replace h2 := h2.mono le1
      replace h3 := h3.mono le1
      replace hle := hle.trans le1
      exact R_z [] [(24, .bool (!y1))] <| T_w [(2, vP b 0), (24, .bool (!y1))] <| T_cut ⟨_, (pure_some hM).symm, hle, rfl, rfl⟩
 · rintro imm0 hs2 m2 ⟨t24, heq, le2, rfl, rfl⟩
   subst o0
   replace h := h.mono le2
   replace h1 := h1.mono le2
   replace h2 := h2.mono le2
   replace h3 := h3.mono le2
   replace hle := hle.trans le2
   refine T_seq <| J_cd hM ?_ ?_
   · intro hc3 hM
     refine J_seq <| J_region <| R_z [] [(4, .bool false)] <| T_seq <| J_ret <| T_then_ret ?_
     obtain rfl := pure_some hM
     exact T_RS ⟨_, _, (.tmp rfl ResV.nil), good_none, ⟨_, rfl, rfl, rfl⟩⟩
   · intro hc3 hM
     refine J_skip <| T_seq <| J_seq <| J_region <| R_d 2 [0] [(26, vA [vI s.Value.Kind, vI s.Value.Num, vS p1 s.Value.Index.Coefs c1, vI s.Value.Index.Const, vT s.Value.Read.Array.l, vS p2 s.Value.Read.Subs c2, vS p3 s.Value.Kids c3])] ?_
     obtain ⟨y2, hy2, hM⟩ := bind_some hM
     refine R_call (hs1 := []) (rest := [hB b [vT s.Write.Array.l, vS p s.Write.Subs c, vI s.Value.Kind, vI s.Value.Num, vS p1 s.Value.Index.Coefs c1, vI s.Value.Index.Const, vT s.Value.Read.Array.l, vS p2 s.Value.Read.Subs c2, vS p3 s.Value.Kids c3]]) rfl rfl rfl rfl (by kernel_rfl) rfl rfl (spec_l3Count_ok s.Value 5 _ hy2 h1 h2 h3) ?_
     rintro imm03 hs2 v2 k2 le3 - ⟨v02, rfl, rfl, rfl⟩ -
     replace h := h.mono le3
     replace h1 := h1.mono le3
     replace h2 := h2.mono le3
     replace h3 := h3.mono le3
     replace hle := hle.trans le3
     refine R_z [] [(4, .bool (decide (y2 ≤ 12)))] <| T_seq <| J_ret ?_
     obtain rfl := pure_some hM
     exact T_RS ⟨_, _, (.tmp rfl ResV.nil), good_none, ⟨_, rfl, rfl, rfl⟩⟩
def spec_l1Point_post (r : Bool) : Nat → Imm → List HA → Value → Prop := fun kk imm' hs' v =>
  ∃ (v0 : Value), hs' = [] ∧ v = tupV [v0] ∧ v0 = .bool r
def M.spec_l1Point_l1 (p : (List Int)) (i : Int) : Option (Out Unit (Bool)) := do
 if (decide (i < (p.length : Int))) then
  let x ← idx p i
  let y ← M.spec_l1Within x 9999
  if (!y) then
   pure (.ret false)
  else
   M.spec_l1Point_l1 p (W (i + 1))
 else
  pure (.done ())
 partial_fixpoint
theorem spec_l1Point_l1_ok (p : (List Int)) : ∀ (i : Int) (o : Out Unit (Bool)), M.spec_l1Point_l1 p i = some o → ∀ {B : Base} {imm0 imm : Imm} {Q : Exit → Act → World → Prop}  {p1 : Option Addr} {c : Nat}, imm0.le imm → (SL imm (vS p1 p c) p) → (∀ l a w, ¬ Q (.goto l) a w) → (∀ a w, ¬ Q .outgrown a w) → (∀ (imm' : Imm) , o = (.done ()) → imm0.le imm' → T 19 B Q (.exit 0) imm' [] [(0, vS p1 p c)]) → (∀ r imm' hs' m', o = (.ret r) → imm0.le imm' → RS Try.prog Try.f51 B (spec_l1Point_post  r) imm' hs' m' → T 19 B Q .ret imm' hs' m') → J Try.prog 19 B (nav (bodyOf Try.f51) [1, 0, 1, 0]) Q imm [] [(0, vS p1 p c), (3, vI i)] := by
 refine M.spec_l1Point_l1.partial_correctness p _ ?_
 intro self ih i o hM B imm0 imm Q p1 c hle h hg ho hx hr
 refine J_loop hg ho <| J_seq <| J_seq <| J_region <| R_z [] [(7, .bool (decide (i < (p.length : Int))))] <| T_seq <| J_cd hM ?_ ?_
 · intro hc hM
   refine J_skip <| T_seq <| J_seq <| J_block <| J_seq <| J_region <| R_d 2 [] [(10, vS p1 p c), (11, vI i)] ?_
   obtain ⟨x, hy, hM⟩ := bind_some hM
   refine R_ix rfl rfl h hy ?_
   intro ad ccs hat hrep
   obtain rfl := hrep
   refine R_la 0 hat [vI x] (vI x) rfl ?_
   obtain ⟨y, hy1, hM⟩ := bind_some hM
   refine R_call (hs1 := []) (rest := []) rfl rfl rfl rfl (by kernel_rfl) rfl rfl (spec_l1Within_ok x 9999 _ hy1 ) ?_
   rintro imm0 hs2 v2 k2 le - ⟨v0, rfl, rfl, rfl⟩ -
   replace h := h.mono le
   replace hle := hle.trans le
   refine R_z [] [(15, .bool (!y))] <| T_seq <| J_cd hM ?_ ?_
   · intro hc1 hM
     exact J_seq <| J_region <| R_z [] [(2, .bool false)] <| T_seq <| J_ret <| T_block_ret <| T_then_ret <| T_then_ret <| hr _ _ _ _ (pure_some hM).symm hle ⟨_, _, (.tmp rfl ResV.nil), good_none, ⟨_, rfl, rfl, rfl⟩⟩
   · intro hc1 hM
     exact J_skip <| T_block_normal <| T_seq <| J_region <| R_z [] [(3, vI (W (i + 1)))] <| T_loop <| J_w [(0, vS p1 p c), (3, vI (W (i + 1)))] <| ih (W (i + 1)) _ hM hle h hg ho hx hr
 · intro hc hM
   exact J_exit <| T_then_exit <| T_then_exit <| T_w [(0, vS p1 p c)] <| hx _  (pure_some hM).symm hle
def M.spec_l1Point (p : (List Int)) : Option (Bool) := do
 match ← M.spec_l1Point_l1 p 0 with
 | .ret r0 => pure r0
 | .done _ =>
  pure (decide ((p.length : Int) ≤ 4))
theorem spec_l1Point_ok : ∀ (p : (List Int)) r, M.spec_l1Point p = some r → ∀ {imm : Imm} {p1 : Option Addr} {c : Nat}, (SL imm (vS p1 p c) p) → Ret Try.prog 51 [vS p1 p c] imm [] (spec_l1Point_post  r) := by
 intro p r hM imm p1 c h
 unfold M.spec_l1Point at hM
 refine ret_of_J (fn := Try.f51) (c := (bodyOf Try.f51)) Try.func51 rfl rfl ?_
 rintro B - -
 have hle : imm.le imm := Imm.le.refl _
 refine J_seq <| J_region <| R_z [] [] <| T_seq <| J_seq <| J_seq <| J_region <| R_z [] [(3, vI 0)] <| T_seq <| J_block <| J_w [(0, vS p1 p c), (3, vI 0)] ?_
 obtain ⟨o0, ho0, hM⟩ := bind_some hM
 refine spec_l1Point_l1_ok p 0 o0 ho0 (Imm.le.refl _) h (fun _ _ _ h => h) (fun _ _ h => h) ?_ ?_
 · intro imm01  heq le1
   subst o0
   replace h := h.mono le1
   replace hle := hle.trans le1
   refine T_block_here <| T_seq <| J_seq <| J_region <| R_z [] [(2, .bool (decide ((p.length : Int) ≤ 4)))] <| T_seq <| J_ret ?_
   obtain rfl := pure_some hM
   exact T_RS ⟨_, _, (.tmp rfl ResV.nil), good_none, ⟨_, rfl, rfl, rfl⟩⟩
 · intro r0 imm9 hs9 m9 heq9 le9 hrs9
   subst heq9
   refine T_block_ret <| T_then_ret ?_
   obtain rfl := pure_some hM
   exact T_RS hrs9
def spec_l4Part_post (r : Int × Bool) : Nat → Imm → List HA → Value → Prop := fun kk imm' hs' v =>
  ∃ (v0 : Value) (v1 : Value), hs' = [] ∧ v = tupV [v0, v1] ∧ v0 = .int .i64 r.1 ∧ v1 = .bool r.2
def M.spec_l4Part_l2 (list : (List impl_Array)) (part : impl_Part) (y1 : (List (List Int))) (i : Int) (k0 : Int) : Option (Out Unit (Int × Bool)) := do
 if (decide (k0 < (y1.length : Int))) then
  let x1 ← idx part.Body i
  let x2 ← idx y1 k0
  let (y5, y6, y7) ← M.spec_l4Cells list x1 x2
  let t80 ← (do
    if (!y7) then
     pure true
    else
     let x3 ← idx y1 k0
     let y8 ← M.spec_l1Point x3
     pure (!y8)
      : Option Bool)
  if t80 then
   pure (.ret (0, false))
  else
   M.spec_l4Part_l2 list part y1 i (W (k0 + 1))
 else
  pure (.done ())
 partial_fixpoint
theorem spec_l4Part_l2_ok (list : (List impl_Array)) (part : impl_Part) (y1 : (List (List Int))) (i : Int) : ∀ (k0 : Int) (o : Out Unit (Int × Bool)), M.spec_l4Part_l2 list part y1 i k0 = some o → ∀ {B : Base} {imm0 imm : Imm} {Q : Exit → Act → World → Prop}  {p : Option Addr} {c : Nat} {p1 : Option Addr} {c1 : Nat} {p2 : Option Addr} {c2 : Nat} {b : Nat} {p3 : Option Addr} {c3 : Nat}, imm0.le imm → (SL imm (vS p list c) list) → (SL imm (vS p3 y1 c3) y1) → (SL imm (vS p1 part.Nest c1) part.Nest) → (SL imm (vS p2 part.Body c2) part.Body) → (∀ l a w, ¬ Q (.goto l) a w) → (∀ a w, ¬ Q .outgrown a w) → (∀ (imm' : Imm) , o = (.done ()) → imm0.le imm' → T 87 B Q (.exit 2) imm' [hB b [vS p1 part.Nest c1, vS p2 part.Body c2]] [(0, vS p list c), (3, vP b 0), (6, vS p3 y1 c3), (8, vI i)]) → (∀ r imm' hs' m', o = (.ret r) → imm0.le imm' → RS Try.prog Try.f41 B (spec_l4Part_post  r) imm' hs' m' → T 87 B Q .ret imm' hs' m') → J Try.prog 87 B (nav (bodyOf Try.f41) [1, 1, 1, 0, 1, 0, 0, 1, 0, 0, 1, 1, 0]) Q imm [hB b [vS p1 part.Nest c1, vS p2 part.Body c2]] [(0, vS p list c), (3, vP b 0), (6, vS p3 y1 c3), (8, vI i), (9, vI k0)] := by
 refine M.spec_l4Part_l2.partial_correctness list part y1 i _ ?_
 intro self ih k0 o hM B imm0 imm Q p c p1 c1 p2 c2 b p3 c3 hle h h3 h1 h2 hg ho hx hr
 refine J_loop hg ho <| J_seq <| J_seq <| J_region <| R_z [] [(53, .bool (decide (k0 < (y1.length : Int))))] <| T_seq <| J_cd hM ?_ ?_
 · intro hc5 hM
   refine J_skip <| T_seq <| J_seq <| J_block <| J_seq ?_
   obtain ⟨x1, hy3, hM⟩ := bind_some hM
   obtain ⟨x2, hy4, hM⟩ := bind_some hM
   obtain ⟨⟨y5, y6, y7⟩, hy5, hM⟩ := bind_some hM
   refine J_any [.p (vS p list c) [], .p (vP b 1) [], .p (vS p2 part.Body c2) [0], .p (vI i) [], .x (fun imm' v hx => ∃ (ad1 : Addr) (p8 : Option Addr) (c8 : Nat) (p9 : Option Addr) (c9 : Nat) (p10 : Option Addr) (c10 : Nat) (p11 : Option Addr) (c11 : Nat), v = .pointer (some ad1) ∧ hx = [] ∧ (At imm' ad1 [vT x1.Write.Array.l, vS p8 x1.Write.Subs c8, vI x1.Value.Kind, vI x1.Value.Num, vS p9 x1.Value.Index.Coefs c9, vI x1.Value.Index.Const, vT x1.Value.Read.Array.l, vS p10 x1.Value.Read.Subs c10, vS p11 x1.Value.Kids c11]) ∧ (SL imm' (vS p8 x1.Write.Subs c8) x1.Write.Subs) ∧ (SL imm' (vS p9 x1.Value.Index.Coefs c9) x1.Value.Index.Coefs) ∧ (SL imm' (vS p10 x1.Value.Read.Subs c10) x1.Value.Read.Subs) ∧ (SL imm' (vS p11 x1.Value.Kids c11) x1.Value.Kids)), .x (fun imm' v hx => ∃ (p81 : Option Addr) (c81 : Nat) (p91 : Option Addr) (c91 : Nat) (p101 : Option Addr) (c101 : Nat) (p111 : Option Addr) (c111 : Nat), v = vA [vT x1.Write.Array.l, vS p81 x1.Write.Subs c81, vI x1.Value.Kind, vI x1.Value.Num, vS p91 x1.Value.Index.Coefs c91, vI x1.Value.Index.Const, vT x1.Value.Read.Array.l, vS p101 x1.Value.Read.Subs c101, vS p111 x1.Value.Kids c111] ∧ hx = [] ∧ (SL imm' (vS p81 x1.Write.Subs c81) x1.Write.Subs) ∧ (SL imm' (vS p91 x1.Value.Index.Coefs c91) x1.Value.Index.Coefs) ∧ (SL imm' (vS p101 x1.Value.Read.Subs c101) x1.Value.Read.Subs) ∧ (SL imm' (vS p111 x1.Value.Kids c111) x1.Value.Kids)), .p (vS p3 y1 c3) [], .p (vI k0) [], .x (fun imm' v hx => ∃ (ad2 : Addr) (p12 : Option Addr) (c12 : Nat), v = .pointer (some ad2) ∧ hx = [] ∧ (At imm' ad2 [vS p12 x2 c12]) ∧ (SL imm' (vS p12 x2 c12) x2)), .x (fun imm' v hx => ∃ (p121 : Option Addr) (c121 : Nat), v = vS p121 x2 c121 ∧ hx = [] ∧ (SL imm' (vS p121 x2 c121) x2)), .x (fun imm' v hx => ∃ (p13 : Option Addr) (c13 : Nat), v = .tuple ⟨[vS p13 y5 c13, vI y6, .bool y7]⟩ ∧ hx = [] ∧ (SL imm' (vS p13 y5 c13) y5)), .x (fun imm' v hx => ∃ (p131 : Option Addr) (c131 : Nat), v = .tuple ⟨[vS p131 y5 c131, vI y6, .bool y7]⟩ ∧ hx = [] ∧ (SL imm' (vS p131 y5 c131) y5)), .x (fun imm' v hx => ∃ (p1311 : Option Addr) (c1311 : Nat), v = vS p1311 y5 c1311 ∧ hx = [] ∧ (SL imm' (vS p1311 y5 c1311) y5)), .q (vI y6), .q (.bool y7), .x (fun imm' v hx => ∃ (p13111 : Option Addr) (c13111 : Nat), v = vS p13111 y5 c13111 ∧ hx = [] ∧ (SL imm' (vS p13111 y5 c13111) y5)), .p (vI y6) []] [[], [], [(1, false)], [], [(2, false), (3, false)], [(4, false)], [], [], [(6, false), (7, false)], [(8, false)], [(0, false), (5, false), (9, false)], [(10, false)], [(11, false)], [(11, false)], [(11, false)], [(12, false)], [(13, false)]] [hB b [vS p1 part.Nest c1, vS p2 part.Body c2]] [] [(14, false)] (good_pick [0] rfl (by decide)) ?_ ?_
   · refine Op <| Op <| Op <| Op <| Ox ?_ <| Ox ?_ <| Op <| Op <| Ox ?_ <| Ox ?_ <| Ox ?_ <| Ox ?_ <| Ox ?_ <| Oq ?_ <| Oq ?_ <| Ox ?_ <| Op <| On
     · intro imm1 hf le1
       refine Ins_cons ?_
       rintro _ _ ⟨rfl, rfl⟩
       refine Ins_cons ?_
       rintro _ _ ⟨rfl, rfl⟩
       refine Ins_nil <| R_isw (hB b [vS p1 part.Nest c1, vS p2 part.Body c2] :: hf) [(59, vS p2 part.Body c2), (60, vI i)] ?_
       have hle := Imm.le.refl imm1
       replace h2 := h2.mono le1
       refine R_ix rfl rfl h2 hy3 ?_
       intro ad1 ccs1 hat1 hrep1
       obtain ⟨v07, v08, v09, v010, rfl, h10, h11, h12, h13⟩ := impl_Stmt_open hrep1
       obtain ⟨p8, c8, rfl⟩ := h10.form
       obtain ⟨p9, c9, rfl⟩ := h11.form
       obtain ⟨p10, c10, rfl⟩ := h12.form
       obtain ⟨p11, c11, rfl⟩ := h13.form
       exact R_out (hx := []) rfl hle rfl (out_some rfl) ⟨_, _, _, _, _, _, _, _, _, rfl, rfl, hat1, h10, h11, h12, h13⟩
     · intro imm1 hf le1
       refine Ins_cons ?_
       rintro _ _ ⟨ad1, p8, c8, p9, c9, p10, c10, p11, c11, rfl, rfl, hat1, h10, h11, h12, h13⟩
       refine Ins_nil <| R_isw (hB b [vS p1 part.Nest c1, vS p2 part.Body c2] :: hf) [(61, .pointer (some ad1))] ?_
       have hle := Imm.le.refl imm1
       exact R_la 0 hat1 [vT x1.Write.Array.l, vS p8 x1.Write.Subs c8, vI x1.Value.Kind, vI x1.Value.Num, vS p9 x1.Value.Index.Coefs c9, vI x1.Value.Index.Const, vT x1.Value.Read.Array.l, vS p10 x1.Value.Read.Subs c10, vS p11 x1.Value.Kids c11] (vA [vT x1.Write.Array.l, vS p8 x1.Write.Subs c8, vI x1.Value.Kind, vI x1.Value.Num, vS p9 x1.Value.Index.Coefs c9, vI x1.Value.Index.Const, vT x1.Value.Read.Array.l, vS p10 x1.Value.Read.Subs c10, vS p11 x1.Value.Kids c11]) rfl <| R_out (hx := []) rfl hle rfl (out_some rfl) ⟨_, _, _, _, _, _, _, _, rfl, rfl, h10, h11, h12, h13⟩
     · intro imm1 hf le1
       refine Ins_cons ?_
       rintro _ _ ⟨rfl, rfl⟩
       refine Ins_cons ?_
       rintro _ _ ⟨rfl, rfl⟩
       refine Ins_nil <| R_isw (hB b [vS p1 part.Nest c1, vS p2 part.Body c2] :: hf) [(63, vS p3 y1 c3), (64, vI k0)] ?_
       have hle := Imm.le.refl imm1
       replace h3 := h3.mono le1
       refine R_ix rfl rfl h3 hy4 ?_
       intro ad2 ccs2 hat2 hrep2
       obtain ⟨v011, rfl, h14⟩ := hrep2
       obtain ⟨p12, c12, rfl⟩ := h14.form
       exact R_out (hx := []) rfl hle rfl (out_some rfl) ⟨_, _, _, rfl, rfl, hat2, h14⟩
     · intro imm1 hf le1
       refine Ins_cons ?_
       rintro _ _ ⟨ad2, p12, c12, rfl, rfl, hat2, h14⟩
       refine Ins_nil <| R_isw (hB b [vS p1 part.Nest c1, vS p2 part.Body c2] :: hf) [(65, .pointer (some ad2))] ?_
       have hle := Imm.le.refl imm1
       exact R_la 0 hat2 [vS p12 x2 c12] (vS p12 x2 c12) rfl <| R_out (hx := []) rfl hle rfl (out_some rfl) ⟨_, _, rfl, rfl, h14⟩
     · intro imm1 hf le1
       refine Ins_cons ?_
       rintro _ _ ⟨rfl, rfl⟩
       refine Ins_cons ?_
       rintro _ _ ⟨p81, c81, p91, c91, p101, c101, p111, c111, rfl, rfl, h101, h111, h121, h131⟩
       refine Ins_cons ?_
       rintro _ _ ⟨p121, c121, rfl, rfl, h141⟩
       refine Ins_nil <| R_isw (hB b [vS p1 part.Nest c1, vS p2 part.Body c2] :: hf) [(57, vS p list c), (62, vA [vT x1.Write.Array.l, vS p81 x1.Write.Subs c81, vI x1.Value.Kind, vI x1.Value.Num, vS p91 x1.Value.Index.Coefs c91, vI x1.Value.Index.Const, vT x1.Value.Read.Array.l, vS p101 x1.Value.Read.Subs c101, vS p111 x1.Value.Kids c111]), (66, vS p121 x2 c121)] ?_
       have hle := Imm.le.refl imm1
       replace h := h.mono le1
       replace h1 := h1.mono le1
       replace h2 := h2.mono le1
       refine R_call (hs1 := []) (rest := (hB b [vS p1 part.Nest c1, vS p2 part.Body c2] :: hf)) rfl rfl rfl rfl (by kernel_rfl) rfl rfl (spec_l4Cells_ok list x1 x2 _ hy5 h h101 h111 h121 h131 h141) ?_
       rintro imm04 hs2 v2 k2 le4 - ⟨v012, v013, v014, rfl, rfl, h15, rfl, rfl⟩ -
       replace h := h.mono le4
       replace h101 := h101.mono le4
       replace h111 := h111.mono le4
       replace h121 := h121.mono le4
       replace h131 := h131.mono le4
       replace h141 := h141.mono le4
       replace h1 := h1.mono le4
       replace h2 := h2.mono le4
       replace hle := hle.trans le4
       obtain ⟨p13, c13, rfl⟩ := h15.form
       exact R_out (hx := []) rfl hle rfl (out_some rfl) ⟨_, _, rfl, rfl, h15⟩
     · intro imm1 hf le1
       refine Ins_cons ?_
       rintro _ _ ⟨p13, c13, rfl, rfl, h15⟩
       refine Ins_nil <| R_isw (hB b [vS p1 part.Nest c1, vS p2 part.Body c2] :: hf) [(67, .tuple ⟨[vS p13 y5 c13, vI y6, .bool y7]⟩)] ?_
       have hle := Imm.le.refl imm1
       exact R_p 12 [(56, .tuple ⟨[vS p13 y5 c13, vI y6, .bool y7]⟩)] <| R_out (hx := []) rfl hle rfl (out_some rfl) ⟨_, _, rfl, rfl, h15⟩
     · intro imm1 hf le1
       refine Ins_cons ?_
       rintro _ _ ⟨p131, c131, rfl, rfl, h151⟩
       refine Ins_nil <| R_isw (hB b [vS p1 part.Nest c1, vS p2 part.Body c2] :: hf) [(56, .tuple ⟨[vS p131 y5 c131, vI y6, .bool y7]⟩)] ?_
       have hle := Imm.le.refl imm1
       exact R_p 13 [(68, vS p131 y5 c131)] <| R_out (hx := []) rfl hle rfl (out_some rfl) ⟨_, _, rfl, rfl, h151⟩
     · intro imm1 hf le1
       refine Ins_cons ?_
       rintro _ _ ⟨p131, c131, rfl, rfl, h151⟩
       refine Ins_nil <| R_isw (hB b [vS p1 part.Nest c1, vS p2 part.Body c2] :: hf) [(56, .tuple ⟨[vS p131 y5 c131, vI y6, .bool y7]⟩)] ?_
       have hle := Imm.le.refl imm1
       exact R_p 14 [(69, vI y6)] <| R_out (hx := []) rfl hle rfl (out_some rfl) ⟨rfl, rfl⟩
     · intro imm1 hf le1
       refine Ins_cons ?_
       rintro _ _ ⟨p131, c131, rfl, rfl, h151⟩
       refine Ins_nil <| R_isw (hB b [vS p1 part.Nest c1, vS p2 part.Body c2] :: hf) [(56, .tuple ⟨[vS p131 y5 c131, vI y6, .bool y7]⟩)] ?_
       have hle := Imm.le.refl imm1
       exact R_p 15 [(70, .bool y7)] <| R_out (hx := []) rfl hle rfl (out_some rfl) ⟨rfl, rfl⟩
     · intro imm1 hf le1
       refine Ins_cons ?_
       rintro _ _ ⟨p1311, c1311, rfl, rfl, h1511⟩
       refine Ins_nil <| R_isw (hB b [vS p1 part.Nest c1, vS p2 part.Body c2] :: hf) [(68, vS p1311 y5 c1311)] ?_
       have hle := Imm.le.refl imm1
       exact R_p 16 [(10, vS p1311 y5 c1311)] <| R_out (hx := []) rfl hle rfl (out_some rfl) ⟨_, _, rfl, rfl, h1511⟩
   · intro imm05 le5
     refine Ins_cons ?_
     rintro _ _ ⟨rfl, rfl⟩
     refine Ins_nil <| R_isw [hB b [vS p1 part.Nest c1, vS p2 part.Body c2]] [(0, vS p list c), (3, vP b 0), (6, vS p3 y1 c3), (8, vI i), (9, vI k0), (70, .bool y7)] ?_
     replace h := h.mono le5
     replace h3 := h3.mono le5
     replace h1 := h1.mono le5
     replace h2 := h2.mono le5
     replace hle := hle.trans le5
     refine R_z [] [(12, .bool y7)] <| T_seq <| J_seq ?_
     obtain ⟨o01, ho01, hM⟩ := bind_some hM
     refine J_cut (fun imm' hs' m' => ∃ (t80 : Bool), o01 = t80 ∧ imm05.le imm' ∧ hs' = [hB b [vS p1 part.Nest c1, vS p2 part.Body c2]] ∧ m' = [(0, vS p list c), (3, vP b 0), (6, vS p3 y1 c3), (8, vI i), (9, vI k0), (80, .bool t80)]) ?_ ?_
     · have hle0 := hle
       have hle : imm05.le imm05 := Imm.le.refl _
       refine J_region <| R_d 3 [] [(73, .bool (!y7))] ?_
       cases hc6 : (!y7) with
       | true =>
        have hM04 := if_some_true hc6 ho01
        try rw [hc6]
        exact R_z [] [(80, .bool true)] <| T_w [(0, vS p list c), (3, vP b 0), (6, vS p3 y1 c3), (8, vI i), (9, vI k0), (80, .bool true)] <| T_cut ⟨_, (pure_some hM04).symm, hle, rfl, rfl⟩
       | false =>
        have hM05 := if_some_false hc6 ho01
        try rw [hc6]
        refine R_d 5 [] [(74, vS p3 y1 c3), (75, vI k0)] ?_
        obtain ⟨x3, hy6, hM⟩ := bind_some hM05
        refine R_ix rfl rfl h3 hy6 ?_
        intro ad3 ccs3 hat3 hrep3
        obtain ⟨v015, rfl, h18⟩ := hrep3
        obtain ⟨p14, c14, rfl⟩ := h18.form
        refine R_la 0 hat3 [vS p14 x3 c14] (vS p14 x3 c14) rfl ?_
        obtain ⟨y8, hy7, hM⟩ := bind_some hM
        refine R_call (hs1 := []) (rest := [hB b [vS p1 part.Nest c1, vS p2 part.Body c2]]) rfl rfl rfl rfl (by kernel_rfl) rfl rfl (spec_l1Point_ok x3 _ hy7 h18) ?_
        rintro imm07 hs2 v2 k2 le6 - ⟨v016, rfl, rfl, rfl⟩ -
        replace h := h.mono le6
        replace h3 := h3.mono le6
        replace h1 := h1.mono le6
        replace h2 := h2.mono le6
        replace hle := hle.trans le6
        exact R_z [] [(80, .bool (!y8))] <| T_w [(0, vS p list c), (3, vP b 0), (6, vS p3 y1 c3), (8, vI i), (9, vI k0), (80, .bool (!y8))] <| T_cut ⟨_, (pure_some hM).symm, hle, rfl, rfl⟩
     · rintro imm06 hs2 m2 ⟨t80, heq1, le7, rfl, rfl⟩
       subst o01
       replace h := h.mono le7
       replace h3 := h3.mono le7
       replace h1 := h1.mono le7
       replace h2 := h2.mono le7
       replace hle := hle.trans le7
       refine T_seq <| J_cd hM ?_ ?_
       · intro hc7 hM
         exact J_seq <| J_region <| R_z [] [(4, vI 0), (5, .bool false)] <| T_seq <| J_ret <| T_block_ret <| T_then_ret <| T_then_ret <| hr _ _ _ _ (pure_some hM).symm hle ⟨_, _, (.tmp rfl (.tmp rfl ResV.nil)), good_none, ⟨_, _, rfl, rfl, rfl, rfl⟩⟩
       · intro hc7 hM
         exact J_skip <| T_block_normal <| T_seq <| J_region <| R_z [] [(9, vI (W (k0 + 1)))] <| T_loop <| J_w [(0, vS p list c), (3, vP b 0), (6, vS p3 y1 c3), (8, vI i), (9, vI (W (k0 + 1)))] <| ih (W (k0 + 1)) _ hM hle h h3 h1 h2 hg ho hx hr
 · intro hc5 hM
   exact J_exit <| T_then_exit <| T_then_exit <| T_w [(0, vS p list c), (3, vP b 0), (6, vS p3 y1 c3), (8, vI i)] <| hx _  (pure_some hM).symm hle
def M.spec_l4Part_l1 (list : (List impl_Array)) (part : impl_Part) (y1 : (List (List Int))) (i : Int) : Option (Out Unit (Int × Bool)) := do
 if (decide (i < (part.Body.length : Int))) then
  let x ← idx part.Body i
  let y3 ← M.spec_StmtValid x (part.Nest.length : Int)
  if (!y3) then
   pure (.ret (0, false))
  else
   match ← M.spec_l4Part_l2 list part y1 i 0 with
   | .ret r0 => pure (.ret r0)
   | .done _ =>
    M.spec_l4Part_l1 list part y1 (W (i + 1))
 else
  pure (.done ())
 partial_fixpoint
theorem spec_l4Part_l1_ok (list : (List impl_Array)) (part : impl_Part) (y1 : (List (List Int))) : ∀ (i : Int) (o : Out Unit (Int × Bool)), M.spec_l4Part_l1 list part y1 i = some o → ∀ {B : Base} {imm0 imm : Imm} {Q : Exit → Act → World → Prop}  {p : Option Addr} {c : Nat} {p1 : Option Addr} {c1 : Nat} {p2 : Option Addr} {c2 : Nat} {b : Nat} {p3 : Option Addr} {c3 : Nat}, imm0.le imm → (SL imm (vS p list c) list) → (SL imm (vS p3 y1 c3) y1) → (SL imm (vS p1 part.Nest c1) part.Nest) → (SL imm (vS p2 part.Body c2) part.Body) → (∀ l a w, ¬ Q (.goto l) a w) → (∀ a w, ¬ Q .outgrown a w) → (∀ (imm' : Imm) , o = (.done ()) → imm0.le imm' → T 87 B Q (.exit 0) imm' [hB b [vS p1 part.Nest c1, vS p2 part.Body c2]] [(3, vP b 0), (6, vS p3 y1 c3)]) → (∀ r imm' hs' m', o = (.ret r) → imm0.le imm' → RS Try.prog Try.f41 B (spec_l4Part_post  r) imm' hs' m' → T 87 B Q .ret imm' hs' m') → J Try.prog 87 B (nav (bodyOf Try.f41) [1, 1, 1, 0, 1, 0]) Q imm [hB b [vS p1 part.Nest c1, vS p2 part.Body c2]] [(0, vS p list c), (3, vP b 0), (6, vS p3 y1 c3), (8, vI i)] := by
 refine M.spec_l4Part_l1.partial_correctness list part y1 _ ?_
 intro self ih i o hM B imm0 imm Q p c p1 c1 p2 c2 b p3 c3 hle h h3 h1 h2 hg ho hx hr
 refine J_loop hg ho <| J_seq <| J_seq <| J_region <| R_z [0] [(37, .bool (decide (i < (part.Body.length : Int))))] <| T_seq <| J_cd hM ?_ ?_
 · intro hc3 hM
   refine J_skip <| T_seq <| J_seq <| J_block <| J_seq <| J_seq ?_
   obtain ⟨x, hy1, hM⟩ := bind_some hM
   obtain ⟨y3, hy2, hM⟩ := bind_some hM
   refine J_any [.p (vP b 1) [], .p (vS p2 part.Body c2) [0], .p (vI i) [], .x (fun imm' v hx => ∃ (ad : Addr) (p4 : Option Addr) (c4 : Nat) (p5 : Option Addr) (c5 : Nat) (p6 : Option Addr) (c6 : Nat) (p7 : Option Addr) (c7 : Nat), v = .pointer (some ad) ∧ hx = [] ∧ (At imm' ad [vT x.Write.Array.l, vS p4 x.Write.Subs c4, vI x.Value.Kind, vI x.Value.Num, vS p5 x.Value.Index.Coefs c5, vI x.Value.Index.Const, vT x.Value.Read.Array.l, vS p6 x.Value.Read.Subs c6, vS p7 x.Value.Kids c7]) ∧ (SL imm' (vS p4 x.Write.Subs c4) x.Write.Subs) ∧ (SL imm' (vS p5 x.Value.Index.Coefs c5) x.Value.Index.Coefs) ∧ (SL imm' (vS p6 x.Value.Read.Subs c6) x.Value.Read.Subs) ∧ (SL imm' (vS p7 x.Value.Kids c7) x.Value.Kids)), .x (fun imm' v hx => ∃ (p41 : Option Addr) (c41 : Nat) (p51 : Option Addr) (c51 : Nat) (p61 : Option Addr) (c61 : Nat) (p71 : Option Addr) (c71 : Nat), v = vA [vT x.Write.Array.l, vS p41 x.Write.Subs c41, vI x.Value.Kind, vI x.Value.Num, vS p51 x.Value.Index.Coefs c51, vI x.Value.Index.Const, vT x.Value.Read.Array.l, vS p61 x.Value.Read.Subs c61, vS p71 x.Value.Kids c71] ∧ hx = [] ∧ (SL imm' (vS p41 x.Write.Subs c41) x.Write.Subs) ∧ (SL imm' (vS p51 x.Value.Index.Coefs c51) x.Value.Index.Coefs) ∧ (SL imm' (vS p61 x.Value.Read.Subs c61) x.Value.Read.Subs) ∧ (SL imm' (vS p71 x.Value.Kids c71) x.Value.Kids)), .p (vP b 0) [], .p (vS p1 part.Nest c1) [0], .p (vI (part.Nest.length : Int)) [], .q (.bool y3), .p (.bool (!y3)) []] [[], [(0, false)], [], [(1, false), (2, false)], [(3, false)], [], [(5, false)], [(6, false)], [(4, false), (7, false)], [(8, false)]] [hB b [vS p1 part.Nest c1, vS p2 part.Body c2]] [] [(9, false)] (good_pick [0] rfl (by decide)) ?_ ?_
   · refine Op <| Op <| Op <| Ox ?_ <| Ox ?_ <| Op <| Op <| Op <| Oq ?_ <| Op <| On
     · intro imm1 hf le1
       refine Ins_cons ?_
       rintro _ _ ⟨rfl, rfl⟩
       refine Ins_cons ?_
       rintro _ _ ⟨rfl, rfl⟩
       refine Ins_nil <| R_isw (hB b [vS p1 part.Nest c1, vS p2 part.Body c2] :: hf) [(41, vS p2 part.Body c2), (42, vI i)] ?_
       have hle := Imm.le.refl imm1
       replace h2 := h2.mono le1
       refine R_ix rfl rfl h2 hy1 ?_
       intro ad ccs hat hrep
       obtain ⟨v02, v03, v04, v05, rfl, h5, h6, h7, h8⟩ := impl_Stmt_open hrep
       obtain ⟨p4, c4, rfl⟩ := h5.form
       obtain ⟨p5, c5, rfl⟩ := h6.form
       obtain ⟨p6, c6, rfl⟩ := h7.form
       obtain ⟨p7, c7, rfl⟩ := h8.form
       exact R_out (hx := []) rfl hle rfl (out_some rfl) ⟨_, _, _, _, _, _, _, _, _, rfl, rfl, hat, h5, h6, h7, h8⟩
     · intro imm1 hf le1
       refine Ins_cons ?_
       rintro _ _ ⟨ad, p4, c4, p5, c5, p6, c6, p7, c7, rfl, rfl, hat, h5, h6, h7, h8⟩
       refine Ins_nil <| R_isw (hB b [vS p1 part.Nest c1, vS p2 part.Body c2] :: hf) [(43, .pointer (some ad))] ?_
       have hle := Imm.le.refl imm1
       exact R_la 0 hat [vT x.Write.Array.l, vS p4 x.Write.Subs c4, vI x.Value.Kind, vI x.Value.Num, vS p5 x.Value.Index.Coefs c5, vI x.Value.Index.Const, vT x.Value.Read.Array.l, vS p6 x.Value.Read.Subs c6, vS p7 x.Value.Kids c7] (vA [vT x.Write.Array.l, vS p4 x.Write.Subs c4, vI x.Value.Kind, vI x.Value.Num, vS p5 x.Value.Index.Coefs c5, vI x.Value.Index.Const, vT x.Value.Read.Array.l, vS p6 x.Value.Read.Subs c6, vS p7 x.Value.Kids c7]) rfl <| R_out (hx := []) rfl hle rfl (out_some rfl) ⟨_, _, _, _, _, _, _, _, rfl, rfl, h5, h6, h7, h8⟩
     · intro imm1 hf le1
       refine Ins_cons ?_
       rintro _ _ ⟨p41, c41, p51, c51, p61, c61, p71, c71, rfl, rfl, h51, h61, h71, h81⟩
       refine Ins_cons ?_
       rintro _ _ ⟨rfl, rfl⟩
       refine Ins_nil <| R_isw (hB b [vS p1 part.Nest c1, vS p2 part.Body c2] :: hf) [(44, vA [vT x.Write.Array.l, vS p41 x.Write.Subs c41, vI x.Value.Kind, vI x.Value.Num, vS p51 x.Value.Index.Coefs c51, vI x.Value.Index.Const, vT x.Value.Read.Array.l, vS p61 x.Value.Read.Subs c61, vS p71 x.Value.Kids c71]), (47, vI (part.Nest.length : Int))] ?_
       have hle := Imm.le.refl imm1
       replace h1 := h1.mono le1
       replace h2 := h2.mono le1
       refine R_call (hs1 := []) (rest := (hB b [vS p1 part.Nest c1, vS p2 part.Body c2] :: hf)) rfl rfl rfl rfl (by kernel_rfl) rfl rfl (spec_StmtValid_ok x (part.Nest.length : Int) _ hy2 h51 h61 h71 h81) ?_
       rintro imm02 hs2 v2 k2 le2 - ⟨v06, rfl, rfl, rfl⟩ -
       replace h51 := h51.mono le2
       replace h61 := h61.mono le2
       replace h71 := h71.mono le2
       replace h81 := h81.mono le2
       replace h1 := h1.mono le2
       replace h2 := h2.mono le2
       replace hle := hle.trans le2
       exact R_out (hx := []) rfl hle rfl (out_some rfl) ⟨rfl, rfl⟩
   · intro imm03 le3
     refine Ins_cons ?_
     rintro _ _ ⟨rfl, rfl⟩
     refine Ins_nil <| R_isw [hB b [vS p1 part.Nest c1, vS p2 part.Body c2]] [(0, vS p list c), (3, vP b 0), (6, vS p3 y1 c3), (8, vI i), (49, .bool (!y3))] ?_
     replace h := h.mono le3
     replace h3 := h3.mono le3
     replace h1 := h1.mono le3
     replace h2 := h2.mono le3
     replace hle := hle.trans le3
     refine R_end rfl <| T_seq <| J_cd hM ?_ ?_
     · intro hc4 hM
       exact J_seq <| J_region <| R_z [] [(4, vI 0), (5, .bool false)] <| T_seq <| J_ret <| T_then_ret <| T_block_ret <| T_then_ret <| T_then_ret <| hr _ _ _ _ (pure_some hM).symm hle ⟨_, _, (.tmp rfl (.tmp rfl ResV.nil)), good_none, ⟨_, _, rfl, rfl, rfl, rfl⟩⟩
     · intro hc4 hM
       refine J_skip <| T_seq <| J_seq <| J_region <| R_z [] [(9, vI 0)] <| T_seq <| J_block <| J_w [(0, vS p list c), (3, vP b 0), (6, vS p3 y1 c3), (8, vI i), (9, vI 0)] ?_
       obtain ⟨o02, ho02, hM⟩ := bind_some hM
       refine spec_l4Part_l2_ok list part y1 i 0 o02 ho02 (Imm.le.refl _) h h3 h1 h2 (fun _ _ _ h => hg _ _ _ h) (fun _ _ h => ho _ _ h) ?_ ?_
       · intro imm08  heq2 le8
         subst o02
         replace h := h.mono le8
         replace h3 := h3.mono le8
         replace h1 := h1.mono le8
         replace h2 := h2.mono le8
         replace hle := hle.trans le8
         exact T_block_here <| T_block_normal <| T_seq <| J_region <| R_z [] [(8, vI (W (i + 1)))] <| T_loop <| J_w [(0, vS p list c), (3, vP b 0), (6, vS p3 y1 c3), (8, vI (W (i + 1)))] <| ih (W (i + 1)) _ hM hle h h3 h1 h2 hg ho hx hr
       · intro r0 imm9 hs9 m9 heq9 le9 hrs9
         subst heq9
         exact T_block_ret <| T_block_ret <| T_then_ret <| T_then_ret <| hr _ _ _ _ (pure_some hM).symm (hle.trans le9) hrs9
 · intro hc3 hM
   exact J_exit <| T_then_exit <| T_then_exit <| T_w [(3, vP b 0), (6, vS p3 y1 c3)] <| hx _  (pure_some hM).symm hle
def M.spec_l4Part (list : (List impl_Array)) (part : impl_Part) : Option (Int × Bool) := do
 let (y1, y2) ← M.spec_NestPoints part.Nest
 let t32 ← (do
   if (!y2) then
    pure true
   else
    if (decide ((part.Body.length : Int) < 1)) then
     pure true
    else
     pure (decide ((part.Body.length : Int) > 4))
     : Option Bool)
 if t32 then
  pure (0, false)
 else
  match ← M.spec_l4Part_l1 list part y1 0 with
  | .ret r0 => pure r0
  | .done _ =>
   pure ((W ((y1.length : Int) * (part.Body.length : Int))), true)
theorem spec_l4Part_ok : ∀ (list : (List impl_Array)) (part : impl_Part) r, M.spec_l4Part list part = some r → ∀ {imm : Imm} {p : Option Addr} {c : Nat} {p1 : Option Addr} {c1 : Nat} {p2 : Option Addr} {c2 : Nat}, (SL imm (vS p list c) list) → (SL imm (vS p1 part.Nest c1) part.Nest) → (SL imm (vS p2 part.Body c2) part.Body) → Ret Try.prog 41 [vS p list c, vA [vS p1 part.Nest c1, vS p2 part.Body c2]] imm [] (spec_l4Part_post  r) := by
 intro list part r hM imm p c p1 c1 p2 c2 h h1 h2
 unfold M.spec_l4Part at hM
 refine ret_of_J (fn := Try.f41) (c := (bodyOf Try.f41)) Try.func41 rfl rfl ?_
 rintro B - -
 have hle : imm.le imm := Imm.le.refl _
 refine J_seq <| J_region <| R_box (c := ⟨[vS p1 part.Nest c1, vS p2 part.Body c2]⟩) rfl rfl rfl rfl rfl ?_
 intro b hb
 refine R_z [] [] <| T_seq <| J_seq <| J_region <| R_d 2 [0] [(15, vS p1 part.Nest c1)] ?_
 obtain ⟨⟨y1, y2⟩, hy, hM⟩ := bind_some hM
 refine R_call (hs1 := []) (rest := [hB b [vS p1 part.Nest c1, vS p2 part.Body c2]]) rfl rfl rfl rfl (by kernel_rfl) rfl rfl (spec_NestPoints_ok part.Nest _ hy h1) ?_
 rintro imm0 hs2 v2 k2 le - ⟨v0, v01, rfl, rfl, h3, rfl⟩ -
 replace h := h.mono le
 replace h1 := h1.mono le
 replace h2 := h2.mono le
 replace hle := hle.trans le
 obtain ⟨p3, c3, rfl⟩ := h3.form
 refine R_z [] [(6, vS p3 y1 c3), (7, .bool y2)] <| T_seq <| J_seq <| J_seq ?_
 obtain ⟨o0, ho0, hM⟩ := bind_some hM
 refine J_cut (fun imm' hs' m' => ∃ (t32 : Bool), o0 = t32 ∧ imm0.le imm' ∧ hs' = [hB b [vS p1 part.Nest c1, vS p2 part.Body c2]] ∧ m' = [(0, vS p list c), (3, vP b 0), (6, vS p3 y1 c3), (32, .bool t32)]) ?_ ?_
 · have hle0 := hle
   have hle : imm0.le imm0 := Imm.le.refl _
   refine J_region <| R_d 3 [] [(21, .bool (!y2))] ?_
   cases hc : (!y2) with
   | true =>
    have hM0 := if_some_true hc ho0
    try rw [hc]
    exact R_z [] [(32, .bool true)] <| T_w [(0, vS p list c), (3, vP b 0), (6, vS p3 y1 c3), (32, .bool true)] <| T_cut ⟨_, (pure_some hM0).symm, hle, rfl, rfl⟩
   | false =>
    have hM01 := if_some_false hc ho0
    try rw [hc]
    refine R_d 9 [0] [(27, .bool (decide ((part.Body.length : Int) < 1)))] ?_
    cases hc1 : (decide ((part.Body.length : Int) < 1)) with
    | true =>
     have hM02 := if_some_true hc1 hM01
     try rw [hc1]
     exact R_z [] [(32, .bool true)] <| T_w [(0, vS p list c), (3, vP b 0), (6, vS p3 y1 c3), (32, .bool true)] <| T_cut ⟨_, (pure_some hM02).symm, hle, rfl, rfl⟩
    | false =>
     have hM03 := if_some_false hc1 hM01
     try rw [hc1]
     exact R_z [0] [(32, .bool (decide ((part.Body.length : Int) > 4)))] <| T_w [(0, vS p list c), (3, vP b 0), (6, vS p3 y1 c3), (32, .bool (decide ((part.Body.length : Int) > 4)))] <| T_cut ⟨_, (pure_some hM03).symm, hle, rfl, rfl⟩
 · rintro imm01 hs2 m2 ⟨t32, heq, le1, rfl, rfl⟩
   subst o0
   replace h := h.mono le1
   replace h3 := h3.mono le1
   replace h1 := h1.mono le1
   replace h2 := h2.mono le1
   replace hle := hle.trans le1
   refine T_seq <| J_cd hM ?_ ?_
   · intro hc2 hM
     refine J_seq <| J_region <| R_z [] [(4, vI 0), (5, .bool false)] <| T_seq <| J_ret <| T_then_ret ?_
     obtain rfl := pure_some hM
     exact T_RS ⟨_, _, (.tmp rfl (.tmp rfl ResV.nil)), good_none, ⟨_, _, rfl, rfl, rfl, rfl⟩⟩
   · intro hc2 hM
     refine J_skip <| T_seq <| J_seq <| J_seq <| J_region <| R_z [] [(8, vI 0)] <| T_seq <| J_block <| J_w [(0, vS p list c), (3, vP b 0), (6, vS p3 y1 c3), (8, vI 0)] ?_
     obtain ⟨o03, ho03, hM⟩ := bind_some hM
     refine spec_l4Part_l1_ok list part y1 0 o03 ho03 (Imm.le.refl _) h h3 h1 h2 (fun _ _ _ h => h) (fun _ _ h => h) ?_ ?_
     · intro imm09  heq3 le9
       subst o03
       replace h3 := h3.mono le9
       replace h1 := h1.mono le9
       replace h2 := h2.mono le9
       replace hle := hle.trans le9
       refine T_block_here <| T_seq <| J_seq <| J_region <| R_z [0] [(4, vI (W ((y1.length : Int) * (part.Body.length : Int)))), (5, .bool true)] <| T_seq <| J_ret ?_
       obtain rfl := pure_some hM
       exact T_RS ⟨_, _, (.tmp rfl (.tmp rfl ResV.nil)), good_none, ⟨_, _, rfl, rfl, rfl, rfl⟩⟩
     · intro r0 imm9 hs9 m9 heq9 le9 hrs9
       subst heq9
       refine T_block_ret <| T_then_ret ?_
       obtain rfl := pure_some hM
       exact T_RS hrs9
def spec_ProgramValid_post (r : Bool) : Nat → Imm → List HA → Value → Prop := fun kk imm' hs' v =>
  ∃ (v0 : Value), hs' = [] ∧ v = tupV [v0] ∧ v0 = .bool r
def M.spec_ProgramValid_l1 (p : impl_Program) (total : Int) (i : Int) : Option (Out Int (Bool)) := do
 if (decide (i < (p.Parts.length : Int))) then
  let x ← idx p.Parts i
  let (y2, y3) ← M.spec_l4Part p.Arrays x
  if (!y3) then
   pure (.ret false)
  else
   M.spec_ProgramValid_l1 p (W (total + y2)) (W (i + 1))
 else
  pure (.done total)
 partial_fixpoint
theorem spec_ProgramValid_l1_ok (p : impl_Program) : ∀ (total : Int) (i : Int) (o : Out Int (Bool)), M.spec_ProgramValid_l1 p total i = some o → ∀ {B : Base} {imm0 imm : Imm} {Q : Exit → Act → World → Prop}  {p1 : Option Addr} {c : Nat} {p2 : Option Addr} {c1 : Nat} {b : Nat}, imm0.le imm → (SL imm (vS p1 p.Arrays c) p.Arrays) → (SL imm (vS p2 p.Parts c1) p.Parts) → (∀ l a w, ¬ Q (.goto l) a w) → (∀ a w, ¬ Q .outgrown a w) → (∀ (imm' : Imm) (total1 : Int), o = (.done total1) → imm0.le imm' → T 42 B Q (.exit 0) imm' [] [(3, vI total1)]) → (∀ r imm' hs' m', o = (.ret r) → imm0.le imm' → RS Try.prog Try.f35 B (spec_ProgramValid_post  r) imm' hs' m' → T 42 B Q .ret imm' hs' m') → J Try.prog 42 B (nav (bodyOf Try.f35) [1, 1, 1, 0, 1, 0]) Q imm [hB b [vS p1 p.Arrays c, vS p2 p.Parts c1]] [(1, vP b 0), (3, vI total), (4, vI i)] := by
 refine M.spec_ProgramValid_l1.partial_correctness p _ ?_
 intro self ih total i o hM B imm0 imm Q p1 c p2 c1 b hle h h1 hg ho hx hr
 refine J_loop hg ho <| J_seq <| J_seq <| J_region <| R_z [0] [(21, .bool (decide (i < (p.Parts.length : Int))))] <| T_seq <| J_cd hM ?_ ?_
 · intro hc2 hM
   refine J_skip <| T_seq <| J_seq <| J_block <| J_seq ?_
   obtain ⟨x, hy1, hM⟩ := bind_some hM
   obtain ⟨⟨y2, y3⟩, hy2, hM⟩ := bind_some hM
   refine J_any [.p (vP b 0) [], .p (vS p1 p.Arrays c) [0], .p (vP b 1) [], .p (vS p2 p.Parts c1) [0], .p (vI i) [], .x (fun imm' v hx => ∃ (ad : Addr) (p3 : Option Addr) (c2 : Nat) (p4 : Option Addr) (c3 : Nat), v = .pointer (some ad) ∧ hx = [] ∧ (At imm' ad [vS p3 x.Nest c2, vS p4 x.Body c3]) ∧ (SL imm' (vS p3 x.Nest c2) x.Nest) ∧ (SL imm' (vS p4 x.Body c3) x.Body)), .x (fun imm' v hx => ∃ (p31 : Option Addr) (c21 : Nat) (p41 : Option Addr) (c31 : Nat), v = vA [vS p31 x.Nest c21, vS p41 x.Body c31] ∧ hx = [] ∧ (SL imm' (vS p31 x.Nest c21) x.Nest) ∧ (SL imm' (vS p41 x.Body c31) x.Body)), .q (.tuple ⟨[vI y2, .bool y3]⟩), .p (.tuple ⟨[vI y2, .bool y3]⟩) [], .p (vI y2) [], .p (.bool y3) [], .p (vI y2) []] [[], [(0, false)], [], [(2, false)], [], [(3, false), (4, false)], [(5, false)], [(1, false), (6, false)], [(7, false)], [(8, false)], [(8, false)], [(9, false)]] [hB b [vS p1 p.Arrays c, vS p2 p.Parts c1]] [] [(10, false), (11, false)] (good_pick [0] rfl (by decide)) ?_ ?_
   · refine Op <| Op <| Op <| Op <| Op <| Ox ?_ <| Ox ?_ <| Oq ?_ <| Op <| Op <| Op <| Op <| On
     · intro imm1 hf le1
       refine Ins_cons ?_
       rintro _ _ ⟨rfl, rfl⟩
       refine Ins_cons ?_
       rintro _ _ ⟨rfl, rfl⟩
       refine Ins_nil <| R_isw (hB b [vS p1 p.Arrays c, vS p2 p.Parts c1] :: hf) [(28, vS p2 p.Parts c1), (29, vI i)] ?_
       have hle := Imm.le.refl imm1
       replace h1 := h1.mono le1
       refine R_ix rfl rfl h1 hy1 ?_
       intro ad ccs hat hrep
       obtain ⟨v01, v02, rfl, h3, h4⟩ := impl_Part_open hrep
       obtain ⟨p3, c2, rfl⟩ := h3.form
       obtain ⟨p4, c3, rfl⟩ := h4.form
       exact R_out (hx := []) rfl hle rfl (out_some rfl) ⟨_, _, _, _, _, rfl, rfl, hat, h3, h4⟩
     · intro imm1 hf le1
       refine Ins_cons ?_
       rintro _ _ ⟨ad, p3, c2, p4, c3, rfl, rfl, hat, h3, h4⟩
       refine Ins_nil <| R_isw (hB b [vS p1 p.Arrays c, vS p2 p.Parts c1] :: hf) [(30, .pointer (some ad))] ?_
       have hle := Imm.le.refl imm1
       exact R_la 0 hat [vS p3 x.Nest c2, vS p4 x.Body c3] (vA [vS p3 x.Nest c2, vS p4 x.Body c3]) rfl <| R_out (hx := []) rfl hle rfl (out_some rfl) ⟨_, _, _, _, rfl, rfl, h3, h4⟩
     · intro imm1 hf le1
       refine Ins_cons ?_
       rintro _ _ ⟨rfl, rfl⟩
       refine Ins_cons ?_
       rintro _ _ ⟨p31, c21, p41, c31, rfl, rfl, h31, h41⟩
       refine Ins_nil <| R_isw (hB b [vS p1 p.Arrays c, vS p2 p.Parts c1] :: hf) [(26, vS p1 p.Arrays c), (31, vA [vS p31 x.Nest c21, vS p41 x.Body c31])] ?_
       have hle := Imm.le.refl imm1
       replace h := h.mono le1
       replace h1 := h1.mono le1
       refine R_call (hs1 := []) (rest := (hB b [vS p1 p.Arrays c, vS p2 p.Parts c1] :: hf)) rfl rfl rfl rfl (by kernel_rfl) rfl rfl (spec_l4Part_ok p.Arrays x _ hy2 h h31 h41) ?_
       rintro imm02 hs2 v2 k2 le2 - ⟨v03, v04, rfl, rfl, rfl, rfl⟩ -
       replace h := h.mono le2
       replace h31 := h31.mono le2
       replace h41 := h41.mono le2
       replace h1 := h1.mono le2
       replace hle := hle.trans le2
       exact R_out (hx := []) rfl hle rfl (out_some rfl) ⟨rfl, rfl⟩
   · intro imm03 le3
     refine Ins_cons ?_
     rintro _ _ ⟨rfl, rfl⟩
     refine Ins_cons ?_
     rintro _ _ ⟨rfl, rfl⟩
     refine Ins_nil <| R_isw [hB b [vS p1 p.Arrays c, vS p2 p.Parts c1]] [(1, vP b 0), (3, vI total), (4, vI i), (5, vI y2), (34, .bool y3)] ?_
     replace h := h.mono le3
     replace h1 := h1.mono le3
     replace hle := hle.trans le3
     refine R_z [] [(6, .bool y3)] <| T_seq <| J_seq <| J_seq <| J_region <| R_z [] [(36, .bool (!y3))] <| T_seq <| J_cd hM ?_ ?_
     · intro hc3 hM
       exact J_seq <| J_region <| R_z [] [(2, .bool false)] <| T_seq <| J_ret <| T_then_ret <| T_block_ret <| T_then_ret <| T_then_ret <| hr _ _ _ _ (pure_some hM).symm hle ⟨_, _, (.tmp rfl ResV.nil), good_none, ⟨_, rfl, rfl, rfl⟩⟩
     · intro hc3 hM
       exact J_skip <| T_seq <| J_region <| R_z [] [(3, vI (W (total + y2)))] <| T_block_normal <| T_seq <| J_region <| R_z [] [(4, vI (W (i + 1)))] <| T_loop <| J_w [(1, vP b 0), (3, vI (W (total + y2))), (4, vI (W (i + 1)))] <| ih (W (total + y2)) (W (i + 1)) _ hM hle h h1 hg ho hx hr
 · intro hc2 hM
   exact J_exit <| T_then_exit <| T_then_exit <| T_hs (good_pick [] rfl (by decide)) <| T_w [(3, vI total)] <| hx _ _ (pure_some hM).symm hle
def M.spec_ProgramValid (p : impl_Program) : Option (Bool) := do
 let t16 ← (do
   let y ← M.spec_l4Arrays p.Arrays
   if (!y) then
    pure true
   else
    pure (decide ((p.Parts.length : Int) > 4))
     : Option Bool)
 if t16 then
  pure false
 else
  match ← M.spec_ProgramValid_l1 p 0 0 with
  | .ret r0 => pure r0
  | .done total1 =>
   pure (decide (total1 ≤ 120))
theorem spec_ProgramValid_ok : ∀ (p : impl_Program) r, M.spec_ProgramValid p = some r → ∀ {imm : Imm} {p1 : Option Addr} {c : Nat} {p2 : Option Addr} {c1 : Nat}, (SL imm (vS p1 p.Arrays c) p.Arrays) → (SL imm (vS p2 p.Parts c1) p.Parts) → Ret Try.prog 35 [vA [vS p1 p.Arrays c, vS p2 p.Parts c1]] imm [] (spec_ProgramValid_post  r) := by
 intro p r hM imm p1 c p2 c1 h h1
 unfold M.spec_ProgramValid at hM
 refine ret_of_J (fn := Try.f35) (c := (bodyOf Try.f35)) Try.func35 rfl rfl ?_
 rintro B - -
 have hle : imm.le imm := Imm.le.refl _
 refine J_seq <| J_region <| R_box (c := ⟨[vS p1 p.Arrays c, vS p2 p.Parts c1]⟩) rfl rfl rfl rfl rfl ?_
 intro b hb
 refine R_z [] [] <| T_seq <| J_seq <| J_seq ?_
 obtain ⟨o0, ho0, hM⟩ := bind_some hM
 refine J_cut (fun imm' hs' m' => ∃ (t16 : Bool), o0 = t16 ∧ imm.le imm' ∧ hs' = [hB b [vS p1 p.Arrays c, vS p2 p.Parts c1]] ∧ m' = [(1, vP b 0), (16, .bool t16)]) ?_ ?_
 · have hle0 := hle
   have hle : imm.le imm := Imm.le.refl _
   refine J_region <| R_d 2 [0] [(8, vS p1 p.Arrays c)] ?_
   obtain ⟨y, hy, hM⟩ := bind_some ho0
   refine R_call (hs1 := []) (rest := [hB b [vS p1 p.Arrays c, vS p2 p.Parts c1]]) rfl rfl rfl rfl (by kernel_rfl) rfl rfl (spec_l4Arrays_ok p.Arrays _ hy h) ?_
   rintro imm01 hs2 v2 k2 le - ⟨v0, rfl, rfl, rfl⟩ -
   replace h := h.mono le
   replace h1 := h1.mono le
   replace hle := hle.trans le
   refine R_d 5 [] [(11, .bool (!y))] ?_
   cases hc : (!y) with
   | true =>
    have hM0 := if_some_true hc hM
    try rw [hc]
    exact R_z [] [(16, .bool true)] <| T_w [(1, vP b 0), (16, .bool true)] <| T_cut ⟨_, (pure_some hM0).symm, hle, rfl, rfl⟩
   | false =>
    have hM01 := if_some_false hc hM
    try rw [hc]
    exact R_z [0] [(16, .bool (decide ((p.Parts.length : Int) > 4)))] <| T_w [(1, vP b 0), (16, .bool (decide ((p.Parts.length : Int) > 4)))] <| T_cut ⟨_, (pure_some hM01).symm, hle, rfl, rfl⟩
 · rintro imm0 hs2 m2 ⟨t16, heq, le1, rfl, rfl⟩
   subst o0
   replace h := h.mono le1
   replace h1 := h1.mono le1
   replace hle := hle.trans le1
   refine T_seq <| J_cd hM ?_ ?_
   · intro hc1 hM
     refine J_seq <| J_region <| R_z [] [(2, .bool false)] <| T_seq <| J_ret <| T_then_ret ?_
     obtain rfl := pure_some hM
     exact T_RS ⟨_, _, (.tmp rfl ResV.nil), good_none, ⟨_, rfl, rfl, rfl⟩⟩
   · intro hc1 hM
     refine J_skip <| T_seq <| J_seq <| J_region <| R_z [] [(3, vI 0)] <| T_seq <| J_seq <| J_seq <| J_region <| R_z [] [(4, vI 0)] <| T_seq <| J_block <| J_w [(1, vP b 0), (3, vI 0), (4, vI 0)] ?_
     obtain ⟨o01, ho01, hM⟩ := bind_some hM
     refine spec_ProgramValid_l1_ok p 0 0 o01 ho01 (Imm.le.refl _) h h1 (fun _ _ _ h => h) (fun _ _ h => h) ?_ ?_
     · intro imm04 total1 heq1 le4
       subst o01
       replace hle := hle.trans le4
       refine T_block_here <| T_seq <| J_seq <| J_region <| R_z [] [(2, .bool (decide (total1 ≤ 120)))] <| T_seq <| J_ret ?_
       obtain rfl := pure_some hM
       exact T_RS ⟨_, _, (.tmp rfl ResV.nil), good_none, ⟨_, rfl, rfl, rfl⟩⟩
     · intro r0 imm9 hs9 m9 heq9 le9 hrs9
       subst heq9
       refine T_block_ret <| T_then_ret ?_
       obtain rfl := pure_some hM
       exact T_RS hrs9
end Go.LN
