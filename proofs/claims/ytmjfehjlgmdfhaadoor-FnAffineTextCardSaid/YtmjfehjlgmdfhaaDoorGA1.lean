/- Helper of the proof (see the last text). -/
import Derived.Test.YtmjfehjlgmdfhaaDoorLnTA
import Derived.Test.YtmjfehjlgmdfhaaDoorLnW
import Derived.Test.YtmjfehjlgmdfhaaDoorTrydShelfA
namespace Go.LN
set_option linter.unusedVariables false
set_option linter.unusedSimpArgs false
open Go.Proofs
set_option maxRecDepth 20000
def spec_l16Open_post (r : spec_l16Rd) : Nat → Imm → List HA → Value → Prop := fun kk imm' hs' v =>
  ∃ (b_0 : Nat) (a0_0 : Option Addr) (c0_0 : Nat), hs' = [.blk b_0 ⟨[.slice a0_0 r.b.length c0_0, .int .i64 r.p]⟩] ∧ v = tupV [(.pointer (some ⟨b_0, 0, none⟩))] ∧ SL imm' (.slice a0_0 r.b.length c0_0) r.b
def M.spec_l16Open (code : (List UInt8)) : Option (spec_l16Rd) := do
 let code1 ← (do
   if (decide ((code.length : Int) > 2000)) then
    let l ← slc code 0 2000
    pure (id l)
   else
    pure (id code)
     : Option (List UInt8))
 pure (spec_l16Rd.mk code1 0)
theorem spec_l16Open_ok : ∀ (code : (List UInt8)) r, M.spec_l16Open code = some r → ∀ {imm : Imm} {p : Option Addr} {c : Nat}, (SL imm (vS p code c) code) → Ret Tryd.prog 28 [vS p code c] imm [] (spec_l16Open_post  r) := by
 intro code r hM imm p c h
 unfold M.spec_l16Open at hM
 refine ret_of_J (fn := Tryd.f28) (c := (bodyOf Tryd.f28)) Tryd.func28 rfl rfl ?_
 rintro B - -
 have hle : imm.le imm := Imm.le.refl _
 refine J_seq <| J_region <| R_z [] [] <| T_seq <| J_seq <| J_seq <| J_region <| R_z [] [(5, .bool (decide ((code.length : Int) > 2000)))] <| T_seq ?_
 obtain ⟨o0, ho0, hMc⟩ := bind_some hM
 refine J_cut (fun imm' hs' m' => ∃ (code1 : List UInt8) (p1 : Option Addr) (c1 : Nat), o0 = code1 ∧ imm.le imm' ∧ (SL imm' (vS p1 code1 c1) code1) ∧ hs' = [] ∧ m' = [(0, vS p1 code1 c1)]) ?_ ?_
 · have hle0 := hle
   have hle : imm.le imm := Imm.le.refl _
   refine J_cd ho0 ?_ ?_
   · intro hc hM
     refine J_region <| R_d 1 [] [(6, vS p code c)] ?_
     obtain ⟨l, hy, hM⟩ := bind_some hM
     refine R_sl rfl h hy ?_
     intro v0 h2
     obtain ⟨p2, c2, rfl⟩ := h2.form
     exact R_z [] [(0, vS p2 l c2)] <| T_w [(0, vS p2 l c2)] <| T_cut ⟨_, _, _, (pure_some hM).symm, hle, h2, rfl, rfl⟩
   · intro hc hM
     exact J_skip <| T_w [(0, vS p code c)] <| T_cut ⟨_, _, _, (pure_some hM).symm, hle, h, rfl, rfl⟩
 · rintro imm0 hs2 m2 ⟨code1, p1, c1, heq, le, h1, rfl, rfl⟩
   subst o0
   replace hle := hle.trans le
   refine T_seq <| J_seq <| J_region <| R_d 2 [] [(9, vA [vS p1 code1 c1, vI 0])] <| R_box (c := ⟨[vS p1 code1 c1, vI 0]⟩) rfl rfl rfl rfl rfl ?_
   intro b hb
   refine R_z [] [(2, vP b 0)] <| T_seq <| J_ret ?_
   obtain rfl := pure_some hMc
   exact T_RS ⟨_, _, (.tmp rfl ResV.nil), (good_pick [0] rfl (by decide)), ⟨_, _, _, rfl, rfl, h1⟩⟩
def spec_l1Zero_post (r : impl_Affine) : Nat → Imm → List HA → Value → Prop := fun kk imm' hs' v =>
  ∃ (a0_0 : Option Addr) (c0_0 : Nat) (s0_0 : List Value), hs' = [.osl (.slice a0_0 r.Coefs.length c0_0) (Rp.sz Int) s0_0] ∧ v = tupV [(.agg ⟨[.slice a0_0 r.Coefs.length c0_0, .int .i64 r.Const]⟩)] ∧ RepL (Rp.rep imm') (Rp.sz Int) s0_0 r.Coefs
def M.spec_l1Zero  : Option (impl_Affine) := do
 pure (impl_Affine.mk ([0, 0, 0, 0] : List Int) 0)
theorem spec_l1Zero_ok : ∀ r, M.spec_l1Zero  = some r → ∀ {imm : Imm} , Ret Tryd.prog 32 [] imm [] (spec_l1Zero_post  r) := by
 intro  r hM imm
 unfold M.spec_l1Zero at hM
 refine ret_of_J (fn := Tryd.f32) (c := (bodyOf Tryd.f32)) Tryd.func32 rfl rfl ?_
 rintro B - -
 have hle : imm.le imm := Imm.le.refl _
 refine J_seq <| J_region <| R_alloc (c := ⟨[.slice none 0 0, vI 0]⟩) rfl rfl rfl (by kernel_rfl) ?_
 intro b hb
 refine R_end rfl <| T_seq <| J_seq <| J_region <| R_buildSlice (cs := [vI 0, vI 0, vI 0, vI 0]) (Rp.sz Int) rfl rfl rfl rfl (by kernel_rfl) (by kernel_rfl) ?_
 intro b1 hb1
 have h : RL imm [vI 0, vI 0, vI 0, vI 0] ([0, 0, 0, 0] : List Int) := ⟨[vI 0], _, rfl, rfl, rfl, ⟨[vI 0], _, rfl, rfl, rfl, ⟨[vI 0], _, rfl, rfl, rfl, ⟨[vI 0], _, rfl, rfl, rfl, rfl⟩⟩⟩⟩
 refine R_d 2 [] [(2, vA [vS (some ⟨b1, 0, none⟩) ([0, 0, 0, 0] : List Int) 4, vI 0])] <| R_sb 1 [vS (some ⟨b1, 0, none⟩) ([0, 0, 0, 0] : List Int) 4, vI 0] [hO Int (vS (some ⟨b1, 0, none⟩) ([0, 0, 0, 0] : List Int) 4) [vI 0, vI 0, vI 0, vI 0], hB b [vS (some ⟨b1, 0, none⟩) ([0, 0, 0, 0] : List Int) 4, vI 0]] rfl rfl rfl rfl <| R_end rfl <| T_seq <| J_ret ?_
 obtain rfl := pure_some hM
 exact T_RS ⟨_, _, (.cell 1 rfl rfl (by kernel_rfl) ResV.nil), (good_pick [0] rfl (by decide)), ⟨_, _, _, rfl, rfl, h⟩⟩
def spec_l1Const_post (r : impl_Affine) : Nat → Imm → List HA → Value → Prop := fun kk imm' hs' v =>
  ∃ (a0_0 : Option Addr) (c0_0 : Nat) (s0_0 : List Value), hs' = [.osl (.slice a0_0 r.Coefs.length c0_0) (Rp.sz Int) s0_0] ∧ v = tupV [(.agg ⟨[.slice a0_0 r.Coefs.length c0_0, .int .i64 r.Const]⟩)] ∧ RepL (Rp.rep imm') (Rp.sz Int) s0_0 r.Coefs
def M.spec_l1Const (n0 : Int) : Option (impl_Affine) := do
 let y ← M.spec_l1Zero
 pure (impl_Affine.mk y.Coefs n0)
theorem spec_l1Const_ok : ∀ (n0 : Int) r, M.spec_l1Const n0 = some r → ∀ {imm : Imm} , Ret Tryd.prog 51 [vI n0] imm [] (spec_l1Const_post  r) := by
 intro n0 r hM imm
 unfold M.spec_l1Const at hM
 refine ret_of_J (fn := Tryd.f51) (c := (bodyOf Tryd.f51)) Tryd.func51 rfl rfl ?_
 rintro B - -
 have hle : imm.le imm := Imm.le.refl _
 refine J_seq <| J_region <| R_alloc (c := ⟨[.slice none 0 0, vI 0]⟩) rfl rfl rfl (by kernel_rfl) ?_
 intro b hb
 refine R_end rfl <| T_seq <| J_seq <| J_region ?_
 obtain ⟨y, hy, hM⟩ := bind_some hM
 refine R_call (hs1 := []) (rest := [hB b [.slice none 0 0, vI 0]]) rfl rfl rfl rfl (by kernel_rfl) rfl rfl (spec_l1Zero_ok  _ hy ) ?_
 rintro imm0 hs2 v2 k2 le - ⟨p, c, cs, rfl, rfl, h⟩ -
 replace hle := hle.trans le
 refine R_alloc (c := ⟨[.slice none 0 0, vI 0]⟩) rfl rfl rfl (by kernel_rfl) ?_
 intro b1 hb1
 refine R_sb 0 [vS p y.Coefs c, vI y.Const] [hB b1 [vS p y.Coefs c, vI y.Const], hO Int (vS p y.Coefs c) cs, hB b [.slice none 0 0, vI 0]] rfl rfl rfl rfl <| R_end rfl <| T_seq <| J_seq <| J_region <| R_d 2 [] [(5, vI n0), (6, vP b1 1)] <| R_sb 0 [vS p y.Coefs c, vI n0] [hB b1 [vS p y.Coefs c, vI n0], hO Int (vS p y.Coefs c) cs, hB b [.slice none 0 0, vI 0]] rfl rfl rfl rfl <| R_end rfl <| T_seq <| J_seq <| J_region <| R_d 1 [0] [(7, vA [vS p y.Coefs c, vI n0])] <| R_sb 2 [vS p y.Coefs c, vI n0] [hB b1 [vS p y.Coefs c, vI n0], hO Int (vS p y.Coefs c) cs, hB b [vS p y.Coefs c, vI n0]] rfl rfl rfl rfl <| R_end rfl <| T_seq <| J_ret ?_
 obtain rfl := pure_some hM
 exact T_RS ⟨_, _, (.cell 2 rfl rfl (by kernel_rfl) ResV.nil), (good_pick [1] rfl (by decide)), ⟨_, _, _, rfl, rfl, h⟩⟩
def spec_l16Rd_pick_post (b0 : Nat) (r : Int × spec_l16Rd) : Nat → Imm → List HA → Value → Prop := fun kk imm' hs' v =>
  ∃ (v0 : Value) (k0 : List Value), hs' = [.blk b0 ⟨k0⟩] ∧ v = tupV [v0] ∧ v0 = .int .i64 r.1 ∧ Rp.rep imm' k0 r.2
def M.spec_l16Rd_pick (r0 : spec_l16Rd) (n0 : Int) : Option (Int × spec_l16Rd) := do
 let t24 ← (do
   if (decide (n0 < 1)) then
    pure true
   else
    pure ((r0.b.length : Int) == 0)
     : Option Bool)
 if t24 then
  pure (0, (spec_l16Rd.mk r0.b (W (r0.p + 1))))
 else
  if (decide ((W ((W (r0.p + 1)) - 1)) < (r0.b.length : Int))) then
   let x ← idx r0.b (W ((W (r0.p + 1)) - 1))
   let q ← rem (W (x.toNat : Int)) n0
   pure (q, (spec_l16Rd.mk r0.b (W (r0.p + 1))))
  else
   let q1 ← rem (W ((W (r0.p + 1)) - 1)) (r0.b.length : Int)
   let x1 ← idx r0.b q1
   let q2 ← rem (W ((W ((W ((W (r0.p + 1)) - 1)) * 7)) + 3)) (r0.b.length : Int)
   let x2 ← idx r0.b q2
   let q3 ← quo (W ((W (r0.p + 1)) - 1)) (r0.b.length : Int)
   let q4 ← rem (W (BitVec.ofInt IntKind.i64.bits (W ((W ((W ((W ((W (x1.toNat : Int)) * 131)) + (W ((W (x2.toNat : Int)) * 1117)))) + (W ((W ((W (r0.p + 1)) - 1)) * 29)))) + (W (q3 * 53)))) ^^^ BitVec.ofInt IntKind.i64.bits (W ((W ((W ((W ((W ((W (x1.toNat : Int)) * 131)) + (W ((W (x2.toNat : Int)) * 1117)))) + (W ((W ((W (r0.p + 1)) - 1)) * 29)))) + (W (q3 * 53)))).tdiv 64))).toNat) n0
   pure (q4, (spec_l16Rd.mk r0.b (W (r0.p + 1))))
theorem spec_l16Rd_pick_ok : ∀ (r0 : spec_l16Rd) (n0 : Int) r, M.spec_l16Rd_pick r0 n0 = some r → ∀ {imm : Imm} {r01 : Nat} {p : Option Addr} {c : Nat}, (SL imm (vS p r0.b c) r0.b) → Ret Tryd.prog 31 [vP r01 0, vI n0] imm [hB r01 [vS p r0.b c, vI r0.p]] (spec_l16Rd_pick_post r01 r) := by
 intro r0 n0 r hM imm r01 p c h
 unfold M.spec_l16Rd_pick at hM
 refine ret_of_J (fn := Tryd.f31) (c := (bodyOf Tryd.f31)) Tryd.func31 rfl rfl ?_
 rintro B - -
 have hle : imm.le imm := Imm.le.refl _
 refine J_seq <| J_region <| R_z [] [] <| T_seq <| J_seq <| J_region <| R_d 8 [0] [(12, vI (W (r0.p + 1))), (14, vP r01 1)] <| R_sb 0 [vS p r0.b c, vI (W (r0.p + 1))] [hB r01 [vS p r0.b c, vI (W (r0.p + 1))]] rfl rfl rfl rfl <| R_end rfl <| T_seq <| J_seq <| J_seq ?_
 obtain ⟨o0, ho0, hMc⟩ := bind_some hM
 refine J_cut (fun imm' hs' m' => ∃ (t24 : Bool), o0 = t24 ∧ imm.le imm' ∧ hs' = [hB r01 [vS p r0.b c, vI (W (r0.p + 1))]] ∧ m' = [(0, vP r01 0), (1, vI n0), (24, .bool t24)]) ?_ ?_
 · have hle0 := hle
   have hle : imm.le imm := Imm.le.refl _
   refine J_region <| R_d 3 [] [(17, .bool (decide (n0 < 1)))] ?_
   cases hc : (decide (n0 < 1)) with
   | true =>
    have hM0 := if_some_true hc ho0
    try rw [hc]
    exact R_z [] [(24, .bool true)] <| T_w [(0, vP r01 0), (1, vI n0), (24, .bool true)] <| T_cut ⟨_, (pure_some hM0).symm, hle, rfl, rfl⟩
   | false =>
    have hM01 := if_some_false hc ho0
    try rw [hc]
    exact R_z [0] [(24, .bool ((r0.b.length : Int) == 0))] <| T_w [(0, vP r01 0), (1, vI n0), (24, .bool ((r0.b.length : Int) == 0))] <| T_cut ⟨_, (pure_some hM01).symm, hle, rfl, rfl⟩
 · rintro imm0 hs2 m2 ⟨t24, heq, le, rfl, rfl⟩
   subst o0
   replace h := h.mono le
   replace hle := hle.trans le
   refine T_seq <| J_cd hMc ?_ ?_
   · intro hc1 hM
     refine J_seq <| J_region <| R_z [] [(4, vI 0)] <| T_seq <| J_ret <| T_then_ret ?_
     obtain rfl := pure_some hM
     exact T_RS ⟨_, _, (.tmp rfl ResV.nil), (good_pick [0] rfl (by decide)), ⟨_, _, rfl, rfl, rfl, (spec_l16Rd_shut ⟨_, rfl, h⟩)⟩⟩
   · intro hc1 hM
     refine J_skip <| T_seq <| J_seq <| J_region <| R_z [0] [(5, vI (W ((W (r0.p + 1)) - 1)))] <| T_seq <| J_seq <| J_seq <| J_region <| R_z [0] [(36, .bool (decide ((W ((W (r0.p + 1)) - 1)) < (r0.b.length : Int))))] <| T_seq <| J_cd hM ?_ ?_
     · intro hc2 hM
       refine J_seq <| J_region <| R_d 5 [0] [(40, vS p r0.b c), (41, vI (W ((W (r0.p + 1)) - 1)))] ?_
       obtain ⟨x, hy, hM⟩ := bind_some hM
       refine R_ix rfl rfl h hy ?_
       intro ad ccs hat hrep
       obtain rfl := hrep
       refine R_la 0 hat [.int .u8 (x.toNat : Int)] (.int .u8 (x.toNat : Int)) rfl <| R_d 9 [] [(44, vI (W (x.toNat : Int))), (45, vI n0)] ?_
       obtain ⟨q, hy1, hM⟩ := bind_some hM
       refine R_re rfl hy1 <| R_z [] [(4, vI q)] <| T_seq <| J_ret <| T_then_ret ?_
       obtain rfl := pure_some hM
       exact T_RS ⟨_, _, (.tmp rfl ResV.nil), (good_pick [0] rfl (by decide)), ⟨_, _, rfl, rfl, rfl, (spec_l16Rd_shut ⟨_, rfl, h⟩)⟩⟩
     · intro hc2 hM
       refine J_skip <| T_seq <| J_seq <| J_region_q (by kernel_rfl) (by kernel_rfl) <| Rq_d 10 [0, 0] [(50, vS p r0.b c), (51, vI (W ((W (r0.p + 1)) - 1))), (56, vI (r0.b.length : Int))] ?_
       obtain ⟨q1, hy2, hM⟩ := bind_some hM
       refine Rq_re rfl hy2 ?_
       obtain ⟨x1, hy3, hM⟩ := bind_some hM
       refine Rq_ix rfl rfl h hy3 ?_
       intro ad1 ccs1 hat1 hrep1
       obtain rfl := hrep1
       refine Rq_la 0 hat1 [.int .u8 (x1.toNat : Int)] (.int .u8 (x1.toNat : Int)) rfl <| Rq_d 27 [0, 0] [(61, vI (W ((W (x1.toNat : Int)) * 131))), (65, vS p r0.b c), (68, vI (W ((W ((W ((W (r0.p + 1)) - 1)) * 7)) + 3))), (73, vI (r0.b.length : Int))] ?_
       obtain ⟨q2, hy4, hM⟩ := bind_some hM
       refine Rq_re rfl hy4 ?_
       obtain ⟨x2, hy5, hM⟩ := bind_some hM
       refine Rq_ix rfl rfl h hy5 ?_
       intro ad2 ccs2 hat2 hrep2
       obtain rfl := hrep2
       refine Rq_la 0 hat2 [.int .u8 (x2.toNat : Int)] (.int .u8 (x2.toNat : Int)) rfl <| Rq_d 42 [0] [(82, vI (W ((W ((W ((W (x1.toNat : Int)) * 131)) + (W ((W (x2.toNat : Int)) * 1117)))) + (W ((W ((W (r0.p + 1)) - 1)) * 29))))), (83, vI (W ((W (r0.p + 1)) - 1))), (88, vI (r0.b.length : Int))] ?_
       obtain ⟨q3, hy6, hM⟩ := bind_some hM
       refine Rq_qu rfl hy6 <| Rq_z [] [(6, vI (W ((W ((W ((W ((W (x1.toNat : Int)) * 131)) + (W ((W (x2.toNat : Int)) * 1117)))) + (W ((W ((W (r0.p + 1)) - 1)) * 29)))) + (W (q3 * 53)))))] <| T_seq <| J_seq <| J_region <| R_z [] [(6, vI (W (BitVec.ofInt IntKind.i64.bits (W ((W ((W ((W ((W (x1.toNat : Int)) * 131)) + (W ((W (x2.toNat : Int)) * 1117)))) + (W ((W ((W (r0.p + 1)) - 1)) * 29)))) + (W (q3 * 53)))) ^^^ BitVec.ofInt IntKind.i64.bits (W ((W ((W ((W ((W ((W (x1.toNat : Int)) * 131)) + (W ((W (x2.toNat : Int)) * 1117)))) + (W ((W ((W (r0.p + 1)) - 1)) * 29)))) + (W (q3 * 53)))).tdiv 64))).toNat))] <| T_seq <| J_seq <| J_region <| R_d 2 [] [(96, vI (W (BitVec.ofInt IntKind.i64.bits (W ((W ((W ((W ((W (x1.toNat : Int)) * 131)) + (W ((W (x2.toNat : Int)) * 1117)))) + (W ((W ((W (r0.p + 1)) - 1)) * 29)))) + (W (q3 * 53)))) ^^^ BitVec.ofInt IntKind.i64.bits (W ((W ((W ((W ((W ((W (x1.toNat : Int)) * 131)) + (W ((W (x2.toNat : Int)) * 1117)))) + (W ((W ((W (r0.p + 1)) - 1)) * 29)))) + (W (q3 * 53)))).tdiv 64))).toNat)), (97, vI n0)] ?_
       obtain ⟨q4, hy7, hM⟩ := bind_some hM
       refine R_re rfl hy7 <| R_z [] [(4, vI q4)] <| T_seq <| J_ret ?_
       obtain rfl := pure_some hM
       exact T_RS ⟨_, _, (.tmp rfl ResV.nil), (good_pick [0] rfl (by decide)), ⟨_, _, rfl, rfl, rfl, (spec_l16Rd_shut ⟨_, rfl, h⟩)⟩⟩
def spec_l16Rd_num_post (b0 : Nat) (r : Int × spec_l16Rd) : Nat → Imm → List HA → Value → Prop := fun kk imm' hs' v =>
  ∃ (v0 : Value) (k0 : List Value), hs' = [.blk b0 ⟨k0⟩] ∧ v = tupV [v0] ∧ v0 = .int .i64 r.1 ∧ Rp.rep imm' k0 r.2
def M.spec_l16Rd_num (r0 : spec_l16Rd) (list : (List Int)) : Option (Int × spec_l16Rd) := do
 let (y1, y2) ← M.spec_l16Rd_pick r0 (list.length : Int)
 let x ← idx list y1
 pure (x, y2)
theorem spec_l16Rd_num_ok : ∀ (r0 : spec_l16Rd) (list : (List Int)) r, M.spec_l16Rd_num r0 list = some r → ∀ {imm : Imm} {r01 : Nat} {p : Option Addr} {c : Nat} {p1 : Option Addr} {c1 : Nat}, (SL imm (vS p r0.b c) r0.b) → (SL imm (vS p1 list c1) list) → Ret Tryd.prog 52 [vP r01 0, vS p1 list c1] imm [hB r01 [vS p r0.b c, vI r0.p]] (spec_l16Rd_num_post r01 r) := by
 intro r0 list r hM imm r01 p c p1 c1 h h1
 unfold M.spec_l16Rd_num at hM
 refine ret_of_J (fn := Tryd.f52) (c := (bodyOf Tryd.f52)) Tryd.func52 rfl rfl ?_
 rintro B - -
 have hle : imm.le imm := Imm.le.refl _
 refine J_seq <| J_region <| R_z [] [] <| T_seq <| J_seq <| J_region <| R_d 4 [] [(5, vS p1 list c1), (6, vP r01 0), (8, vI (list.length : Int))] ?_
 obtain ⟨⟨y1, y2⟩, hy, hM⟩ := bind_some hM
 refine R_call (hs1 := [hB r01 [vS p r0.b c, vI r0.p]]) (rest := []) rfl rfl rfl rfl (by kernel_rfl) rfl rfl (spec_l16Rd_pick_ok r0 (list.length : Int) _ hy h) ?_
 rintro imm0 hs2 v2 k2 le - ⟨v0, kk, rfl, rfl, rfl, h3⟩ -
 replace h1 := h1.mono le
 replace hle := hle.trans le
 obtain ⟨v01, rfl, h4⟩ := spec_l16Rd_open h3
 obtain ⟨p2, c2, rfl⟩ := h4.form
 obtain ⟨x, hy1, hM⟩ := bind_some hM
 refine R_ix rfl rfl h1 hy1 ?_
 intro ad ccs hat hrep
 obtain rfl := hrep
 refine R_la 0 hat [vI x] (vI x) rfl <| R_z [] [(4, vI x)] <| T_seq <| J_ret ?_
 obtain rfl := pure_some hM
 exact T_RS ⟨_, _, (.tmp rfl ResV.nil), (good_pick [0] rfl (by decide)), ⟨_, _, rfl, rfl, rfl, (spec_l16Rd_shut ⟨_, rfl, h4⟩)⟩⟩
def spec_l1Draw_post (b0 : Nat) (r : impl_Affine × spec_l16Rd) : Nat → Imm → List HA → Value → Prop := fun kk imm' hs' v =>
  ∃ (v0 : Value) (k0 : List Value), hs' = [.blk b0 ⟨k0⟩] ∧ v = tupV [v0] ∧ (∃ cs, v0 = .agg ⟨cs⟩ ∧ Rp.rep imm' cs r.1) ∧ Rp.rep imm' k0 r.2
def M.spec_l1Draw_l1 (depth : Int) (i : Int) (Coefs : List Int) (x : spec_l16Rd) : Option ((List Int × spec_l16Rd)) := do
 if (decide (i < depth)) then
  let (y5, y6) ← M.spec_l16Rd_num x ([0, 1, 0, (-1), 2, 0, 9] : List Int)
  let x2 ← idx Coefs i
  let l ← pure (Coefs.set i.toNat y5)
  M.spec_l1Draw_l1 depth (W (i + 1)) l y6
 else
  pure (Coefs, x)
 partial_fixpoint
theorem spec_l1Draw_l1_ok (depth : Int) : ∀ (i : Int) (Coefs : List Int) (x : spec_l16Rd) (o : (List Int × spec_l16Rd)), M.spec_l1Draw_l1 depth i Coefs x = some o → ∀ {B : Base} {imm0 imm : Imm} {Q : Exit → Act → World → Prop} {y3 : impl_Affine} {r01 : Nat} {b : Nat} {b2 : Nat} {p3 : Option Addr} {c3 : Nat} {cs1 : List Value} {p4 : Option Addr} {c4 : Nat}, imm0.le imm → (RL imm cs1 Coefs) → (SL imm (vS p4 x.b c4) x.b) → (∀ l a w, ¬ Q (.goto l) a w) → (∀ a w, ¬ Q .outgrown a w) → (∀ (imm' : Imm) (Coefs1 : List Int) (x1 : spec_l16Rd) (p5 : Option Addr) (c5 : Nat) (cs2 : List Value) (p6 : Option Addr) (c6 : Nat), o = (Coefs1, x1) → imm0.le imm' → (RL imm' cs2 Coefs1) → (SL imm' (vS p6 x1.b c6) x1.b) → T 24 B Q (.exit 0) imm' [hB b2 [vS p5 Coefs1 c5, vI y3.Const], hO Int (vS p5 Coefs1 c5) cs2, hB r01 [vS p6 x1.b c6, vI x1.p], hB b [.slice none 0 0, vI 0]] [(4, vP b 0), (5, vP b2 0)]) → J Tryd.prog 24 B (nav (bodyOf Tryd.f30) [1, 1, 0, 1, 0]) Q imm [hB b2 [vS p3 Coefs c3, vI y3.Const], hO Int (vS p3 Coefs c3) cs1, hB r01 [vS p4 x.b c4, vI x.p], hB b [.slice none 0 0, vI 0]] [(0, vP r01 0), (1, vI depth), (4, vP b 0), (5, vP b2 0), (6, vI i)] := by
 refine M.spec_l1Draw_l1.partial_correctness depth _ ?_
 intro self ih i Coefs x o hM B imm0 imm Q y3 r01 b b2 p3 c3 cs1 p4 c4 hle h7 h8 hg ho hx
 refine J_loop hg ho <| J_seq <| J_seq <| J_region <| R_z [] [(13, .bool (decide (i < depth)))] <| T_seq <| J_cd hM ?_ ?_
 · intro hc hM
   refine J_skip <| T_seq <| J_seq <| J_block ?_
   obtain ⟨⟨y5, y6⟩, hy2, hM⟩ := bind_some hM
   refine J_any [.p (vP b2 0) [], .p (vS p3 Coefs c3) [0], .p (vI i) [], .p (vP r01 0) [], .x (fun imm' v hx => ∃ (b3 : Nat), v = vS (some ⟨b3, 0, none⟩) ([0, 1, 0, (-1), 2, 0, 9] : List Int) 7 ∧ hx = [] ∧ (SL imm' (vS (some ⟨b3, 0, none⟩) ([0, 1, 0, (-1), 2, 0, 9] : List Int) 7) ([0, 1, 0, (-1), 2, 0, 9] : List Int))), .x (fun imm' v hx => ∃ (p7 : Option Addr) (c7 : Nat), v = vI y5 ∧ hx = [hB r01 [vS p7 y6.b c7, vI y6.p]] ∧ (SL imm' (vS p7 y6.b c7) y6.b))] [[], [(0, false)], [], [], [], [(3, false), (4, false), (8, true)]] [hB b2 [vS p3 Coefs c3, vI y3.Const], hO Int (vS p3 Coefs c3) cs1, hB b [.slice none 0 0, vI 0]] [[hB r01 [vS p4 x.b c4, vI x.p]]] [(1, false), (2, false), (5, true)] (good_pick [0, 1, 3, 2] rfl (by decide)) ?_ ?_
   · refine Op <| Op <| Op <| Op <| Ox ?_ <| Ox ?_ <| On
     · intro imm1 hf le1
       refine Ins_nil <| R_isw (hB b2 [vS p3 Coefs c3, vI y3.Const] :: hO Int (vS p3 Coefs c3) cs1 :: hB b [.slice none 0 0, vI 0] :: hf) [] ?_
       have hle := Imm.le.refl imm1
       replace h7 := RepL.mono (fun _ _ => Rp.mono le1) h7
       refine R_buildSlice (cs := [vI 0, vI 1, vI 0, vI (-1), vI 2, vI 0, vI 9]) (Rp.sz Int) rfl rfl rfl rfl (by kernel_rfl) (by kernel_rfl) ?_
       intro b3 hb3
       have h11 : RL imm1 [vI 0, vI 1, vI 0, vI (-1), vI 2, vI 0, vI 9] ([0, 1, 0, (-1), 2, 0, 9] : List Int) := ⟨[vI 0], _, rfl, rfl, rfl, ⟨[vI 1], _, rfl, rfl, rfl, ⟨[vI 0], _, rfl, rfl, rfl, ⟨[vI (-1)], _, rfl, rfl, rfl, ⟨[vI 2], _, rfl, rfl, rfl, ⟨[vI 0], _, rfl, rfl, rfl, ⟨[vI 9], _, rfl, rfl, rfl, rfl⟩⟩⟩⟩⟩⟩⟩
       refine R_freeze 0 rfl ?_
       intro imm03 le3 hl01
       have h12 := SL.of_frozen hl01 le3 h11
       replace h7 := RepL.mono (fun _ _ => Rp.mono le3) h7
       replace hle := hle.trans le3
       exact R_out (hx := []) rfl hle rfl (out_some rfl) ⟨_, rfl, rfl, h12⟩
     · intro imm1 hf le1
       refine Ins_cons ?_
       rintro _ _ ⟨rfl, rfl⟩
       refine Ins_cons ?_
       rintro _ _ ⟨b3, rfl, rfl, h12⟩
       refine Ins_cons ?_
       rintro _ _ rfl
       refine Ins_nil <| R_isw (hB r01 [vS p4 x.b c4, vI x.p] :: hB b2 [vS p3 Coefs c3, vI y3.Const] :: hO Int (vS p3 Coefs c3) cs1 :: hB b [.slice none 0 0, vI 0] :: hf) [(19, vP r01 0), (20, vS (some ⟨b3, 0, none⟩) ([0, 1, 0, (-1), 2, 0, 9] : List Int) 7)] ?_
       have hle := Imm.le.refl imm1
       replace h7 := RepL.mono (fun _ _ => Rp.mono le1) h7
       replace h8 := h8.mono le1
       refine R_call (hs1 := [hB r01 [vS p4 x.b c4, vI x.p]]) (rest := (hB b2 [vS p3 Coefs c3, vI y3.Const] :: hO Int (vS p3 Coefs c3) cs1 :: hB b [.slice none 0 0, vI 0] :: hf)) rfl rfl rfl rfl (by kernel_rfl) rfl rfl (spec_l16Rd_num_ok x ([0, 1, 0, (-1), 2, 0, 9] : List Int) _ hy2 h8 h12) ?_
       rintro imm04 hs2 v2 k2 le4 - ⟨v02, kk1, rfl, rfl, rfl, h14⟩ -
       replace h12 := h12.mono le4
       replace h7 := RepL.mono (fun _ _ => Rp.mono le4) h7
       replace hle := hle.trans le4
       obtain ⟨v03, rfl, h15⟩ := spec_l16Rd_open h14
       obtain ⟨p7, c7, rfl⟩ := h15.form
       exact R_out (hx := [hB r01 [vS p7 y6.b c7, vI y6.p]]) rfl hle rfl (out_some rfl) ⟨_, _, rfl, rfl, h15⟩
   · intro imm05 le5
     refine Ins_cons ?_
     rintro _ _ ⟨rfl, rfl⟩
     refine Ins_cons ?_
     rintro _ _ ⟨rfl, rfl⟩
     refine Ins_cons ?_
     rintro _ _ ⟨p7, c7, rfl, rfl, h15⟩
     refine Ins_nil <| R_isw [hB r01 [vS p7 y6.b c7, vI y6.p], hB b2 [vS p3 Coefs c3, vI y3.Const], hO Int (vS p3 Coefs c3) cs1, hB b [.slice none 0 0, vI 0]] [(0, vP r01 0), (1, vI depth), (4, vP b 0), (5, vP b2 0), (6, vI i), (17, vS p3 Coefs c3), (18, vI i), (21, vI y5)] ?_
     replace h7 := RepL.mono (fun _ _ => Rp.mono le5) h7
     replace hle := hle.trans le5
     obtain ⟨x2, hy3, hM⟩ := bind_some hM
     refine R_ixo 2 rfl rfl rfl h7 hy3 ?_
     intro ad ccs hat hcc hrep
     obtain rfl := hrep
     obtain ⟨l, hy4, hM⟩ := bind_some hM
     refine R_store_el (c := [vI y5]) (x' := y5) 2 0 rfl rfl rfl hat rfl rfl hcc (by kernel_rfl) (by kernel_rfl) (by kernel_rfl) h7 hy3 (by kernel_rfl) rfl ?_
     rw [show Coefs.set i.toNat y5 = l from pure_some hy4]
     intro cs3 h16 hl02
     exact R_weaken (m' := [(0, vP r01 0), (1, vI depth), (4, vP b 0), (5, vP b2 0), (6, vI i), (17, vS p3 Coefs c3), (18, vI i), (21, vI y5)]) ⟨rfl, rfl, rfl, rfl, rfl, rfl, rfl, rfl, trivial⟩ <| R_conv (hs' := [hB r01 [vS p7 y6.b c7, vI y6.p], hB b2 [vS p3 l c3, vI y3.Const], hO Int (vS p3 l c3) cs3, hB b [.slice none 0 0, vI 0]]) (m' := [(0, vP r01 0), (1, vI depth), (4, vP b 0), (5, vP b2 0), (6, vI i), (17, vS p3 l c3), (18, vI i), (21, vI y5)]) (by first | rfl | simp only [vS, hl02, List.nil_append, List.cons_append, List.set_cons_zero, List.set_cons_succ]) (by first | rfl | simp only [vS, hl02]) <| R_end rfl <| T_block_normal <| T_seq <| J_region <| R_z [] [(6, vI (W (i + 1)))] <| T_loop <| J_hs (good_pick [1, 2, 0, 3] rfl (by decide)) <| J_w [(0, vP r01 0), (1, vI depth), (4, vP b 0), (5, vP b2 0), (6, vI (W (i + 1)))] <| ih (W (i + 1)) l y6 _ hM hle h16 h15 hg ho hx
 · intro hc hM
   exact J_exit <| T_then_exit <| T_then_exit <| T_w [(4, vP b 0), (5, vP b2 0)] <| hx _ _ _ _ _ _ _ _ (pure_some hM).symm hle h7 h8
def M.spec_l1Draw (r0 : spec_l16Rd) (depth : Int) : Option (impl_Affine × spec_l16Rd) := do
 let (y1, y2) ← M.spec_l16Rd_num r0 ([0, 1, (-1), 2, 0, 5, (-9), 99] : List Int)
 let y3 ← M.spec_l1Const y1
 let (Coefs1, x1) ← M.spec_l1Draw_l1 depth 0 y3.Coefs y2
 pure ((impl_Affine.mk Coefs1 y3.Const), x1)
theorem spec_l1Draw_ok : ∀ (r0 : spec_l16Rd) (depth : Int) r, M.spec_l1Draw r0 depth = some r → ∀ {imm : Imm} {r01 : Nat} {p : Option Addr} {c : Nat}, (SL imm (vS p r0.b c) r0.b) → Ret Tryd.prog 30 [vP r01 0, vI depth] imm [hB r01 [vS p r0.b c, vI r0.p]] (spec_l1Draw_post r01 r) := by
 intro r0 depth r hM imm r01 p c h
 unfold M.spec_l1Draw at hM
 refine ret_of_J (fn := Tryd.f30) (c := (bodyOf Tryd.f30)) Tryd.func30 rfl rfl ?_
 rintro B - -
 have hle : imm.le imm := Imm.le.refl _
 refine J_seq <| J_region <| R_alloc (c := ⟨[.slice none 0 0, vI 0]⟩) rfl rfl rfl (by kernel_rfl) ?_
 intro b hb
 refine R_end rfl <| T_seq <| J_seq <| J_region <| R_d 1 [] [(7, vP r01 0)] <| R_buildSlice (cs := [vI 0, vI 1, vI (-1), vI 2, vI 0, vI 5, vI (-9), vI 99]) (Rp.sz Int) rfl rfl rfl rfl (by kernel_rfl) (by kernel_rfl) ?_
 intro b1 hb1
 have h1 : RL imm [vI 0, vI 1, vI (-1), vI 2, vI 0, vI 5, vI (-9), vI 99] ([0, 1, (-1), 2, 0, 5, (-9), 99] : List Int) := ⟨[vI 0], _, rfl, rfl, rfl, ⟨[vI 1], _, rfl, rfl, rfl, ⟨[vI (-1)], _, rfl, rfl, rfl, ⟨[vI 2], _, rfl, rfl, rfl, ⟨[vI 0], _, rfl, rfl, rfl, ⟨[vI 5], _, rfl, rfl, rfl, ⟨[vI (-9)], _, rfl, rfl, rfl, ⟨[vI 99], _, rfl, rfl, rfl, rfl⟩⟩⟩⟩⟩⟩⟩⟩
 refine R_freeze 0 rfl ?_
 intro imm0 le hl0
 have h2 := SL.of_frozen hl0 le h1
 replace h := h.mono le
 replace hle := hle.trans le
 refine R_hs (good_pick [1, 0] (hs' := [hB r01 [vS p r0.b c, vI r0.p], hB b [.slice none 0 0, vI 0]]) rfl (by decide)) ?_
 obtain ⟨⟨y1, y2⟩, hy, hM⟩ := bind_some hM
 refine R_call (hs1 := [hB r01 [vS p r0.b c, vI r0.p]]) (rest := [hB b [.slice none 0 0, vI 0]]) rfl rfl rfl rfl (by kernel_rfl) rfl rfl (spec_l16Rd_num_ok r0 ([0, 1, (-1), 2, 0, 5, (-9), 99] : List Int) _ hy h h2) ?_
 rintro imm01 hs2 v2 k2 le1 - ⟨v0, kk, rfl, rfl, rfl, h4⟩ -
 replace hle := hle.trans le1
 obtain ⟨v01, rfl, h5⟩ := spec_l16Rd_open h4
 obtain ⟨p1, c1, rfl⟩ := h5.form
 obtain ⟨y3, hy1, hM⟩ := bind_some hM
 refine R_call (hs1 := []) (rest := [hB r01 [vS p1 y2.b c1, vI y2.p], hB b [.slice none 0 0, vI 0]]) rfl rfl rfl rfl (by kernel_rfl) rfl rfl (spec_l1Const_ok y1 _ hy1 ) ?_
 rintro imm02 hs2 v2 k2 le2 - ⟨p2, c2, cs, rfl, rfl, h6⟩ -
 replace h5 := h5.mono le2
 replace hle := hle.trans le2
 refine R_alloc (c := ⟨[.slice none 0 0, vI 0]⟩) rfl rfl rfl (by kernel_rfl) ?_
 intro b2 hb2
 refine R_sb 0 [vS p2 y3.Coefs c2, vI y3.Const] [hB b2 [vS p2 y3.Coefs c2, vI y3.Const], hO Int (vS p2 y3.Coefs c2) cs, hB r01 [vS p1 y2.b c1, vI y2.p], hB b [.slice none 0 0, vI 0]] rfl rfl rfl rfl <| R_end rfl <| T_seq <| J_seq <| J_seq <| J_region <| R_z [] [(6, vI 0)] <| T_seq <| J_block <| J_w [(0, vP r01 0), (1, vI depth), (4, vP b 0), (5, vP b2 0), (6, vI 0)] ?_
 obtain ⟨o0, ho0, hMl⟩ := bind_some hM
 refine spec_l1Draw_l1_ok depth 0 y3.Coefs y2 o0 ho0 (Imm.le.refl _) h6 h5 (fun _ _ _ h => h) (fun _ _ h => h) ?_
 intro imm06 Coefs1 x1 p5 c5 cs2 p6 c6 heq le6 h9 h10
 subst o0
 replace hle := hle.trans le6
 refine T_block_here <| T_seq <| J_seq <| J_region <| R_d 1 [0] [(23, vA [vS p5 Coefs1 c5, vI y3.Const])] <| R_sb 3 [vS p5 Coefs1 c5, vI y3.Const] [hB b2 [vS p5 Coefs1 c5, vI y3.Const], hO Int (vS p5 Coefs1 c5) cs2, hB r01 [vS p6 x1.b c6, vI x1.p], hB b [vS p5 Coefs1 c5, vI y3.Const]] rfl rfl rfl rfl <| R_end rfl <| T_seq <| J_ret <| T_freeze 1 rfl ?_
 intro imm07 le7 hl03
 have h17 := SL.of_frozen hl03 le7 h9
 replace h10 := h10.mono le7
 replace hle := hle.trans le7
 obtain rfl := pure_some hMl
 exact T_RS ⟨_, _, (.cell 2 rfl rfl (by kernel_rfl) ResV.nil), (good_pick [1] rfl (by decide)), ⟨_, _, rfl, rfl, ⟨_, rfl, (impl_Affine_shut ⟨_, rfl, h17⟩)⟩, (spec_l16Rd_shut ⟨_, rfl, h10⟩)⟩⟩
def spec_l1Mutate_post (b0 : Nat) (r : impl_Affine × spec_l16Rd) : Nat → Imm → List HA → Value → Prop := fun kk imm' hs' v =>
  ∃ (v0 : Value) (k0 : List Value), hs' = [.blk b0 ⟨k0⟩] ∧ v = tupV [v0] ∧ (∃ cs, v0 = .agg ⟨cs⟩ ∧ Rp.rep imm' cs r.1) ∧ Rp.rep imm' k0 r.2
def M.spec_l1Mutate (r0 : spec_l16Rd) (a0 : impl_Affine) : Option (impl_Affine × spec_l16Rd) := do
 let l ← app 8 ([] : List Int) a0.Coefs
 let (y1, y2) ← M.spec_l16Rd_pick r0 40
 match ← (do
   if (y1 == 0) then
    let (y4, y5) ← M.spec_l16Rd_num y2 ([100, (-100), 9223372036854775807] : List Int)
    pure (.done (l, y4, (impl_Affine.mk ([] : List Int) 0), y5))
   else
    match ← (do
      if (y1 == 1) then
       let l1 ← app 8 l ([0] : List Int)
       pure (.done ((impl_Affine.mk ([] : List Int) 0), l1, y2))
      else
       match ← (do
         if (y1 == 2) then
          let (Coefs3, x6) ← (do
            if (decide ((l.length : Int) > 0)) then
             let (y7, y8) ← M.spec_l16Rd_num y2 ([10, (-10), (-9223372036854775808)] : List Int)
             let x7 ← idx l 0
             let l2 ← pure (l.set (0 : Int).toNat y7)
             pure (l2, y8)
            else
             pure (l, y2)
              : Option (List Int × spec_l16Rd))
          pure (.done ((impl_Affine.mk ([] : List Int) 0), Coefs3, x6))
         else
          if (y1 == 3) then
           pure (.ret ((impl_Affine.mk ([] : List Int) 0), y2))
          else
           pure (.done ((impl_Affine.mk ([] : List Int) 0), l, y2))
           : Option (Out (impl_Affine × List Int × spec_l16Rd) (impl_Affine × spec_l16Rd))) with
       | .ret r0 => pure (.ret r0)
       | .done (x4, Coefs2, x5) =>
        pure (.done (x4, Coefs2, x5))
        : Option (Out (impl_Affine × List Int × spec_l16Rd) (impl_Affine × spec_l16Rd))) with
    | .ret r0 => pure (.ret r0)
    | .done (x2, Coefs1, x3) =>
     pure (.done (Coefs1, a0.Const, x2, x3))
     : Option (Out (List Int × Int × impl_Affine × spec_l16Rd) (impl_Affine × spec_l16Rd))) with
 | .ret r0 => pure r0
 | .done (Coefs, Const, x, x1) =>
  pure ((impl_Affine.mk Coefs Const), x1)
theorem spec_l1Mutate_ok : ∀ (r0 : spec_l16Rd) (a0 : impl_Affine) r, M.spec_l1Mutate r0 a0 = some r → ∀ {imm : Imm} {r01 : Nat} {p : Option Addr} {c : Nat} {p1 : Option Addr} {c1 : Nat}, (SL imm (vS p r0.b c) r0.b) → (SL imm (vS p1 a0.Coefs c1) a0.Coefs) → Ret Tryd.prog 34 [vP r01 0, vA [vS p1 a0.Coefs c1, vI a0.Const]] imm [hB r01 [vS p r0.b c, vI r0.p]] (spec_l1Mutate_post r01 r) := by
 intro r0 a0 r hM imm r01 p c p1 c1 h h1
 unfold M.spec_l1Mutate at hM
 refine ret_of_J (fn := Tryd.f34) (c := (bodyOf Tryd.f34)) Tryd.func34 rfl rfl ?_
 rintro B - -
 have hle : imm.le imm := Imm.le.refl _
 refine J_seq <| J_region <| R_box (c := ⟨[vS p1 a0.Coefs c1, vI a0.Const]⟩) rfl rfl rfl rfl rfl ?_
 intro b hb
 refine R_alloc (c := ⟨[.slice none 0 0, vI 0]⟩) rfl rfl rfl (by kernel_rfl) ?_
 intro b1 hb1
 refine R_end rfl <| T_seq <| J_seq ?_
 obtain ⟨l, hy, hM⟩ := bind_some hM
 refine J_any [.x (fun imm' v hx => ∃ (b2 : Nat), v = vS (some ⟨b2, 0, none⟩) ([] : List Int) 0 ∧ hx = [hO Int (vS (some ⟨b2, 0, none⟩) ([] : List Int) 0) []] ∧ (RL imm' [] ([] : List Int))), .p (vP b 0) [], .p (vS p1 a0.Coefs c1) [1], .x (fun imm' v hx => ∃ (p2 : Option Addr) (c2 : Nat) (cs : List Value), v = vS p2 l c2 ∧ hx = [hO Int (vS p2 l c2) cs] ∧ (RL imm' cs l)), .p (vP b 1) [], .p (vI a0.Const) [1], .x (fun imm' v hx => ∃ (p21 : Option Addr) (c21 : Nat) (cs1 : List Value), v = vA [vS p21 l c21, vI a0.Const] ∧ hx = [hO Int (vS p21 l c21) cs1] ∧ (RL imm' cs1 l)), .x (fun imm' v hx => ∃ (b3 : Nat), v = vP b3 0 ∧ hx = [hB b3 [.slice none 0 0, vI 0]])] [[], [], [(1, false)], [(0, true), (2, false)], [], [(4, false)], [(3, true), (5, false)], []] [hB b1 [.slice none 0 0, vI 0], hB b [vS p1 a0.Coefs c1, vI a0.Const], hB r01 [vS p r0.b c, vI r0.p]] [] [(6, true), (7, true)] (good_pick [0, 1, 2] rfl (by decide)) ?_ ?_
 · refine Ox ?_ <| Op <| Op <| Ox ?_ <| Op <| Op <| Ox ?_ <| Ox ?_ <| On
   · intro imm1 hf le1
     refine Ins_nil <| R_isw (hB b1 [.slice none 0 0, vI 0] :: hB b [vS p1 a0.Coefs c1, vI a0.Const] :: hB r01 [vS p r0.b c, vI r0.p] :: hf) [] ?_
     have hle := Imm.le.refl imm1
     refine R_buildSlice (cs := []) (Rp.sz Int) rfl rfl rfl rfl (by kernel_rfl) (by kernel_rfl) ?_
     intro b2 hb2
     have h2 : RL imm1 [] ([] : List Int) := rfl
     exact R_out (hx := [hO Int (vS (some ⟨b2, 0, none⟩) ([] : List Int) 0) []]) rfl hle rfl (out_some rfl) ⟨_, rfl, rfl, h2⟩
   · intro imm1 hf le1
     refine Ins_cons ?_
     rintro _ _ ⟨b2, rfl, rfl, h2⟩
     refine Ins_cons ?_
     rintro _ _ ⟨rfl, rfl⟩
     refine Ins_nil <| R_isw (hO Int (vS (some ⟨b2, 0, none⟩) ([] : List Int) 0) [] :: hB b1 [.slice none 0 0, vI 0] :: hB b [vS p1 a0.Coefs c1, vI a0.Const] :: hB r01 [vS p r0.b c, vI r0.p] :: hf) [(6, vS (some ⟨b2, 0, none⟩) ([] : List Int) 0), (8, vS p1 a0.Coefs c1)] ?_
     have hle := Imm.le.refl imm1
     replace h1 := h1.mono le1
     obtain ⟨ccs, k0, k01⟩ := h1
     have h1 : SL imm1 (vS p1 a0.Coefs c1) a0.Coefs := ⟨_, k0, k01⟩
     refine R_ap 3 1 0 rfl rfl rfl h2 (.inl k0) k01 hy ?_
     intro p2 c2 cs h3
     exact R_hseq (hs' := (hO Int (vS p2 l c2) cs :: hB b1 [.slice none 0 0, vI 0] :: hB b [vS p1 a0.Coefs c1, vI a0.Const] :: hB r01 [vS p r0.b c, vI r0.p] :: hf)) rfl <| R_out (hx := [hO Int (vS p2 l c2) cs]) rfl hle rfl (out_some rfl) ⟨_, _, _, rfl, rfl, h3⟩
   · intro imm1 hf le1
     refine Ins_cons ?_
     rintro _ _ ⟨p2, c2, cs, rfl, rfl, h3⟩
     refine Ins_cons ?_
     rintro _ _ ⟨rfl, rfl⟩
     refine Ins_nil <| R_isw (hO Int (vS p2 l c2) cs :: hB b1 [.slice none 0 0, vI 0] :: hB b [vS p1 a0.Coefs c1, vI a0.Const] :: hB r01 [vS p r0.b c, vI r0.p] :: hf) [(9, vS p2 l c2), (11, vI a0.Const)] ?_
     have hle := Imm.le.refl imm1
     exact R_p 7 [(12, vA [vS p2 l c2, vI a0.Const])] <| R_out (hx := [hO Int (vS p2 l c2) cs]) rfl hle rfl (out_some rfl) ⟨_, _, _, rfl, rfl, h3⟩
   · intro imm1 hf le1
     refine Ins_nil <| R_isw (hB b1 [.slice none 0 0, vI 0] :: hB b [vS p1 a0.Coefs c1, vI a0.Const] :: hB r01 [vS p r0.b c, vI r0.p] :: hf) [] ?_
     have hle := Imm.le.refl imm1
     refine R_alloc (c := ⟨[.slice none 0 0, vI 0]⟩) rfl rfl rfl (by kernel_rfl) ?_
     intro b3 hb3
     exact R_out (hx := [hB b3 [.slice none 0 0, vI 0]]) rfl hle rfl (out_some rfl) ⟨_, rfl, rfl⟩
 · intro imm0 le
   refine Ins_cons ?_
   rintro _ _ ⟨p21, c21, cs1, rfl, rfl, h31⟩
   refine Ins_cons ?_
   rintro _ _ ⟨b3, rfl, rfl⟩
   refine Ins_nil <| R_isw [hB b3 [.slice none 0 0, vI 0], hO Int (vS p21 l c21) cs1, hB b1 [.slice none 0 0, vI 0], hB b [vS p1 a0.Coefs c1, vI a0.Const], hB r01 [vS p r0.b c, vI r0.p]] [(0, vP r01 0), (4, vP b1 0), (5, vP b3 0), (12, vA [vS p21 l c21, vI a0.Const])] ?_
   replace h1 := h1.mono le
   replace h := h.mono le
   replace hle := hle.trans le
   refine R_sb 0 [vS p21 l c21, vI a0.Const] [hB b3 [vS p21 l c21, vI a0.Const], hO Int (vS p21 l c21) cs1, hB b1 [.slice none 0 0, vI 0], hB b [vS p1 a0.Coefs c1, vI a0.Const], hB r01 [vS p r0.b c, vI r0.p]] rfl rfl rfl rfl <| R_end rfl <| T_seq <| J_seq <| J_seq <| J_region <| R_d 1 [] [(13, vP r01 0)] <| R_hs (good_pick [4, 0, 1, 2, 3] (hs' := [hB r01 [vS p r0.b c, vI r0.p], hB b3 [vS p21 l c21, vI a0.Const], hO Int (vS p21 l c21) cs1, hB b1 [.slice none 0 0, vI 0], hB b [vS p1 a0.Coefs c1, vI a0.Const]]) rfl (by decide)) ?_
   obtain ⟨⟨y1, y2⟩, hy1, hM⟩ := bind_some hM
   refine R_call (hs1 := [hB r01 [vS p r0.b c, vI r0.p]]) (rest := [hB b3 [vS p21 l c21, vI a0.Const], hO Int (vS p21 l c21) cs1, hB b1 [.slice none 0 0, vI 0], hB b [vS p1 a0.Coefs c1, vI a0.Const]]) rfl rfl rfl rfl (by kernel_rfl) rfl rfl (spec_l16Rd_pick_ok r0 40 _ hy1 h) ?_
   rintro imm01 hs2 v2 k2 le1 - ⟨v0, kk, rfl, rfl, rfl, h5⟩ -
   replace h31 := RepL.mono (fun _ _ => Rp.mono le1) h31
   replace h1 := h1.mono le1
   replace hle := hle.trans le1
   obtain ⟨v01, rfl, h6⟩ := spec_l16Rd_open h5
   obtain ⟨p3, c3, rfl⟩ := h6.form
   refine R_end rfl <| T_seq <| J_block <| J_seq <| J_region <| R_z [] [(15, .bool (y1 == 0))] <| T_seq ?_
   obtain ⟨o0, ho0, hMc⟩ := bind_some hM
   refine J_cut (fun imm' hs' m' => ∃ (Coefs : List Int) (Const : Int) (x : impl_Affine) (x1 : spec_l16Rd) (p4 : Option Addr) (c4 : Nat) (cs2 : List Value) (p5 : Option Addr) (c5 : Nat) (p6 : Option Addr) (c6 : Nat), o0 = .done (Coefs, Const, x, x1) ∧ imm01.le imm' ∧ (RL imm' cs2 Coefs) ∧ (SL imm' (vS p5 x.Coefs c5) x.Coefs) ∧ (SL imm' (vS p6 x1.b c6) x1.b) ∧ hs' = [hB r01 [vS p6 x1.b c6, vI x1.p], hB b3 [vS p4 Coefs c4, vI Const], hO Int (vS p4 Coefs c4) cs2, hB b1 [vS p5 x.Coefs c5, vI x.Const]] ∧ m' = [(4, vP b1 0), (5, vP b3 0)]) ?_ ?_
   · have hle0 := hle
     have hle : imm01.le imm01 := Imm.le.refl _
     refine J_cd ho0 ?_ ?_
     · intro hc hM
       refine J_region <| R_d 1 [] [(17, vP r01 0)] <| R_buildSlice (cs := [vI 100, vI (-100), vI 9223372036854775807]) (Rp.sz Int) rfl rfl rfl rfl (by kernel_rfl) (by kernel_rfl) ?_
       intro b4 hb4
       have h10 : RL imm01 [vI 100, vI (-100), vI 9223372036854775807] ([100, (-100), 9223372036854775807] : List Int) := ⟨[vI 100], _, rfl, rfl, rfl, ⟨[vI (-100)], _, rfl, rfl, rfl, ⟨[vI 9223372036854775807], _, rfl, rfl, rfl, rfl⟩⟩⟩
       refine R_freeze 0 rfl ?_
       intro imm03 le2 hl0
       have h11 := SL.of_frozen hl0 le2 h10
       replace h6 := h6.mono le2
       replace h31 := RepL.mono (fun _ _ => Rp.mono le2) h31
       replace h1 := h1.mono le2
       replace hle := hle.trans le2
       obtain ⟨⟨y4, y5⟩, hy2, hM⟩ := bind_some hM
       refine R_call (hs1 := [hB r01 [vS p3 y2.b c3, vI y2.p]]) (rest := [hB b3 [vS p21 l c21, vI a0.Const], hO Int (vS p21 l c21) cs1, hB b1 [.slice none 0 0, vI 0], hB b [vS p1 a0.Coefs c1, vI a0.Const]]) rfl rfl rfl rfl (by kernel_rfl) rfl rfl (spec_l16Rd_num_ok y2 ([100, (-100), 9223372036854775807] : List Int) _ hy2 h6 h11) ?_
       rintro imm04 hs2 v2 k2 le3 - ⟨v02, kk1, rfl, rfl, rfl, h13⟩ -
       replace h31 := RepL.mono (fun _ _ => Rp.mono le3) h31
       replace h1 := h1.mono le3
       replace hle := hle.trans le3
       obtain ⟨v03, rfl, h14⟩ := spec_l16Rd_open h13
       obtain ⟨p7, c7, rfl⟩ := h14.form
       exact R_d 4 [] [(20, vP b3 1)] <| R_sb 1 [vS p21 l c21, vI y4] [hB r01 [vS p7 y5.b c7, vI y5.p], hB b3 [vS p21 l c21, vI y4], hO Int (vS p21 l c21) cs1, hB b1 [.slice none 0 0, vI 0], hB b [vS p1 a0.Coefs c1, vI a0.Const]] rfl rfl rfl rfl <| R_end rfl <| T_hs (good_pick [0, 1, 2, 3] rfl (by decide)) <| T_w [(4, vP b1 0), (5, vP b3 0)] <| T_cut ⟨_, _, _, _, _, _, _, _, _, _, _, (pure_some hM).symm, hle, h31, (SL.nil _), h14, rfl, rfl⟩
     · intro hc hM
       refine J_seq <| J_region <| R_z [] [(21, .bool (y1 == 1))] <| T_seq ?_
       obtain ⟨o01, ho01, hMc1⟩ := bind_some hM
       refine J_cut (fun imm' hs' m' => ∃ (x2 : impl_Affine) (Coefs1 : List Int) (x3 : spec_l16Rd) (p8 : Option Addr) (c8 : Nat) (p9 : Option Addr) (c9 : Nat) (cs3 : List Value) (p10 : Option Addr) (c10 : Nat), o01 = .done (x2, Coefs1, x3) ∧ imm01.le imm' ∧ (SL imm' (vS p8 x2.Coefs c8) x2.Coefs) ∧ (RL imm' cs3 Coefs1) ∧ (SL imm' (vS p10 x3.b c10) x3.b) ∧ hs' = [hB r01 [vS p10 x3.b c10, vI x3.p], hB b3 [vS p9 Coefs1 c9, vI a0.Const], hO Int (vS p9 Coefs1 c9) cs3, hB b1 [vS p8 x2.Coefs c8, vI x2.Const]] ∧ m' = [(4, vP b1 0), (5, vP b3 0)]) ?_ ?_
       · have hle01 := hle
         have hle : imm01.le imm01 := Imm.le.refl _
         refine J_cd ho01 ?_ ?_
         · intro hc1 hM
           refine J_region <| R_d 2 [1] [(24, vS p21 l c21)] <| R_buildSlice (cs := [vI 0]) (Rp.sz Int) rfl rfl rfl rfl (by kernel_rfl) (by kernel_rfl) ?_
           intro b5 hb5
           have h18 : RL imm01 [vI 0] ([0] : List Int) := ⟨[vI 0], _, rfl, rfl, rfl, rfl⟩
           obtain ⟨l1, hy3, hM⟩ := bind_some hM
           refine R_ap 3 1 3 rfl rfl rfl h31 (.inr ⟨0, rfl⟩) h18 hy3 ?_
           intro p11 c11 cs4 h19
           exact R_hs (good_pick [1, 2, 3, 4, 5] (hs' := [hB r01 [vS p3 y2.b c3, vI y2.p], hB b3 [vS p21 l c21, vI a0.Const], hO Int (vS p11 l1 c11) cs4, hB b1 [.slice none 0 0, vI 0], hB b [vS p1 a0.Coefs c1, vI a0.Const]]) rfl (by decide)) <| R_d 5 [] [(27, vP b3 0)] <| R_sb 1 [vS p11 l1 c11, vI a0.Const] [hB r01 [vS p3 y2.b c3, vI y2.p], hB b3 [vS p11 l1 c11, vI a0.Const], hO Int (vS p11 l1 c11) cs4, hB b1 [.slice none 0 0, vI 0], hB b [vS p1 a0.Coefs c1, vI a0.Const]] rfl rfl rfl rfl <| R_end rfl <| T_hs (good_pick [0, 1, 2, 3] rfl (by decide)) <| T_w [(4, vP b1 0), (5, vP b3 0)] <| T_cut ⟨_, _, _, _, _, _, _, _, _, _, (pure_some hM).symm, hle, (SL.nil _), h19, h6, rfl, rfl⟩
         · intro hc1 hM
           refine J_seq <| J_region <| R_z [] [(28, .bool (y1 == 2))] <| T_seq ?_
           obtain ⟨o02, ho02, hMc2⟩ := bind_some hM
           refine J_cut (fun imm' hs' m' => ∃ (x4 : impl_Affine) (Coefs2 : List Int) (x5 : spec_l16Rd) (p12 : Option Addr) (c12 : Nat) (p13 : Option Addr) (c13 : Nat) (cs5 : List Value) (p14 : Option Addr) (c14 : Nat), o02 = .done (x4, Coefs2, x5) ∧ imm01.le imm' ∧ (SL imm' (vS p12 x4.Coefs c12) x4.Coefs) ∧ (RL imm' cs5 Coefs2) ∧ (SL imm' (vS p14 x5.b c14) x5.b) ∧ hs' = [hB r01 [vS p14 x5.b c14, vI x5.p], hB b3 [vS p13 Coefs2 c13, vI a0.Const], hO Int (vS p13 Coefs2 c13) cs5, hB b1 [vS p12 x4.Coefs c12, vI x4.Const]] ∧ m' = [(4, vP b1 0), (5, vP b3 0)]) ?_ ?_
           · have hle02 := hle
             have hle : imm01.le imm01 := Imm.le.refl _
             refine J_cd ho02 ?_ ?_
             · intro hc2 hM
               refine J_seq <| J_region <| R_z [1] [(33, .bool (decide ((l.length : Int) > 0)))] <| T_seq ?_
               obtain ⟨o03, ho03, hMc3⟩ := bind_some hM
               refine J_cut (fun imm' hs' m' => ∃ (Coefs3 : List Int) (x6 : spec_l16Rd) (p15 : Option Addr) (c15 : Nat) (cs6 : List Value) (p16 : Option Addr) (c16 : Nat), o03 = (Coefs3, x6) ∧ imm01.le imm' ∧ (RL imm' cs6 Coefs3) ∧ (SL imm' (vS p16 x6.b c16) x6.b) ∧ hs' = [hB r01 [vS p16 x6.b c16, vI x6.p], hB b3 [vS p15 Coefs3 c15, vI a0.Const], hO Int (vS p15 Coefs3 c15) cs6, hB b1 [.slice none 0 0, vI 0]] ∧ m' = [(4, vP b1 0), (5, vP b3 0)]) ?_ ?_
               · have hle03 := hle
                 have hle : imm01.le imm01 := Imm.le.refl _
                 refine J_cd ho03 ?_ ?_
                 · intro hc3 hM
                   obtain ⟨⟨y7, y8⟩, hy4, hM⟩ := bind_some hM
                   refine J_any [.p (vP b3 0) [], .p (vS p21 l c21) [0], .p (vP r01 0) [], .x (fun imm' v hx => ∃ (b6 : Nat), v = vS (some ⟨b6, 0, none⟩) ([10, (-10), (-9223372036854775808)] : List Int) 3 ∧ hx = [] ∧ (SL imm' (vS (some ⟨b6, 0, none⟩) ([10, (-10), (-9223372036854775808)] : List Int) 3) ([10, (-10), (-9223372036854775808)] : List Int))), .x (fun imm' v hx => ∃ (p17 : Option Addr) (c17 : Nat), v = vI y7 ∧ hx = [hB r01 [vS p17 y8.b c17, vI y8.p]] ∧ (SL imm' (vS p17 y8.b c17) y8.b))] [[], [(0, false)], [], [], [(2, false), (3, false), (7, true)]] [hB b3 [vS p21 l c21, vI a0.Const], hO Int (vS p21 l c21) cs1, hB b1 [.slice none 0 0, vI 0], hB b [vS p1 a0.Coefs c1, vI a0.Const]] [[hB r01 [vS p3 y2.b c3, vI y2.p]]] [(1, false), (4, true)] (good_pick [1, 2, 3, 4, 0] rfl (by decide)) ?_ ?_
                   · refine Op <| Op <| Op <| Ox ?_ <| Ox ?_ <| On
                     · intro imm1 hf le1
                       refine Ins_nil <| R_isw (hB b3 [vS p21 l c21, vI a0.Const] :: hO Int (vS p21 l c21) cs1 :: hB b1 [.slice none 0 0, vI 0] :: hB b [vS p1 a0.Coefs c1, vI a0.Const] :: hf) [] ?_
                       have hle := Imm.le.refl imm1
                       replace h31 := RepL.mono (fun _ _ => Rp.mono le1) h31
                       replace h1 := h1.mono le1
                       refine R_buildSlice (cs := [vI 10, vI (-10), vI (-9223372036854775808)]) (Rp.sz Int) rfl rfl rfl rfl (by kernel_rfl) (by kernel_rfl) ?_
                       intro b6 hb6
                       have h25 : RL imm1 [vI 10, vI (-10), vI (-9223372036854775808)] ([10, (-10), (-9223372036854775808)] : List Int) := ⟨[vI 10], _, rfl, rfl, rfl, ⟨[vI (-10)], _, rfl, rfl, rfl, ⟨[vI (-9223372036854775808)], _, rfl, rfl, rfl, rfl⟩⟩⟩
                       refine R_freeze 0 rfl ?_
                       intro imm08 le4 hl01
                       have h26 := SL.of_frozen hl01 le4 h25
                       replace h31 := RepL.mono (fun _ _ => Rp.mono le4) h31
                       replace h1 := h1.mono le4
                       replace hle := hle.trans le4
                       exact R_out (hx := []) rfl hle rfl (out_some rfl) ⟨_, rfl, rfl, h26⟩
                     · intro imm1 hf le1
                       refine Ins_cons ?_
                       rintro _ _ ⟨rfl, rfl⟩
                       refine Ins_cons ?_
                       rintro _ _ ⟨b6, rfl, rfl, h26⟩
                       refine Ins_cons ?_
                       rintro _ _ rfl
                       refine Ins_nil <| R_isw (hB r01 [vS p3 y2.b c3, vI y2.p] :: hB b3 [vS p21 l c21, vI a0.Const] :: hO Int (vS p21 l c21) cs1 :: hB b1 [.slice none 0 0, vI 0] :: hB b [vS p1 a0.Coefs c1, vI a0.Const] :: hf) [(36, vP r01 0), (37, vS (some ⟨b6, 0, none⟩) ([10, (-10), (-9223372036854775808)] : List Int) 3)] ?_
                       have hle := Imm.le.refl imm1
                       replace h6 := h6.mono le1
                       replace h31 := RepL.mono (fun _ _ => Rp.mono le1) h31
                       replace h1 := h1.mono le1
                       refine R_call (hs1 := [hB r01 [vS p3 y2.b c3, vI y2.p]]) (rest := (hB b3 [vS p21 l c21, vI a0.Const] :: hO Int (vS p21 l c21) cs1 :: hB b1 [.slice none 0 0, vI 0] :: hB b [vS p1 a0.Coefs c1, vI a0.Const] :: hf)) rfl rfl rfl rfl (by kernel_rfl) rfl rfl (spec_l16Rd_num_ok y2 ([10, (-10), (-9223372036854775808)] : List Int) _ hy4 h6 h26) ?_
                       rintro imm09 hs2 v2 k2 le5 - ⟨v04, kk2, rfl, rfl, rfl, h28⟩ -
                       replace h26 := h26.mono le5
                       replace h31 := RepL.mono (fun _ _ => Rp.mono le5) h31
                       replace h1 := h1.mono le5
                       replace hle := hle.trans le5
                       obtain ⟨v05, rfl, h29⟩ := spec_l16Rd_open h28
                       obtain ⟨p17, c17, rfl⟩ := h29.form
                       exact R_out (hx := [hB r01 [vS p17 y8.b c17, vI y8.p]]) rfl hle rfl (out_some rfl) ⟨_, _, rfl, rfl, h29⟩
                   · intro imm010 le6
                     refine Ins_cons ?_
                     rintro _ _ ⟨rfl, rfl⟩
                     refine Ins_cons ?_
                     rintro _ _ ⟨p17, c17, rfl, rfl, h29⟩
                     refine Ins_nil <| R_isw [hB r01 [vS p17 y8.b c17, vI y8.p], hB b3 [vS p21 l c21, vI a0.Const], hO Int (vS p21 l c21) cs1, hB b1 [.slice none 0 0, vI 0], hB b [vS p1 a0.Coefs c1, vI a0.Const]] [(4, vP b1 0), (5, vP b3 0), (35, vS p21 l c21), (38, vI y7)] ?_
                     replace h31 := RepL.mono (fun _ _ => Rp.mono le6) h31
                     replace h1 := h1.mono le6
                     replace hle := hle.trans le6
                     obtain ⟨x7, hy5, hM⟩ := bind_some hM
                     refine R_ixo 2 rfl rfl rfl h31 hy5 ?_
                     intro ad ccs1 hat hcc hrep
                     obtain rfl := hrep
                     obtain ⟨l2, hy6, hM⟩ := bind_some hM
                     refine R_store_el (c := [vI y7]) (x' := y7) 2 0 rfl rfl rfl hat rfl rfl hcc (by kernel_rfl) (by kernel_rfl) (by kernel_rfl) h31 hy5 (by kernel_rfl) rfl ?_
                     rw [show l.set (0 : Int).toNat y7 = l2 from pure_some hy6]
                     intro cs7 h30 hl02
                     exact R_weaken (m' := [(4, vP b1 0), (5, vP b3 0), (35, vS p21 l c21), (38, vI y7)]) ⟨rfl, rfl, rfl, rfl, trivial⟩ <| R_conv (hs' := [hB r01 [vS p17 y8.b c17, vI y8.p], hB b3 [vS p21 l2 c21, vI a0.Const], hO Int (vS p21 l2 c21) cs7, hB b1 [.slice none 0 0, vI 0], hB b [vS p1 a0.Coefs c1, vI a0.Const]]) (m' := [(4, vP b1 0), (5, vP b3 0), (35, vS p21 l2 c21), (38, vI y7)]) (by first | rfl | simp only [vS, hl02, List.nil_append, List.cons_append, List.set_cons_zero, List.set_cons_succ]) (by first | rfl | simp only [vS, hl02]) <| R_end rfl <| T_hs (good_pick [0, 1, 2, 3] rfl (by decide)) <| T_w [(4, vP b1 0), (5, vP b3 0)] <| T_cut ⟨_, _, _, _, _, _, _, (pure_some hM).symm, hle, h30, h29, rfl, rfl⟩
                 · intro hc3 hM
                   exact J_skip <| T_hs (good_pick [0, 1, 2, 3] rfl (by decide)) <| T_w [(4, vP b1 0), (5, vP b3 0)] <| T_cut ⟨_, _, _, _, _, _, _, (pure_some hM).symm, hle, h31, h6, rfl, rfl⟩
               · rintro imm07 hs2 m2 ⟨Coefs3, x6, p15, c15, cs6, p16, c16, heq, le7, h23, h24, rfl, rfl⟩
                 subst o03
                 replace hle := hle.trans le7
                 exact T_w [(4, vP b1 0), (5, vP b3 0)] <| T_cut ⟨_, _, _, _, _, _, _, _, _, _, (pure_some hMc3).symm, hle, (SL.nil _), h23, h24, rfl, rfl⟩
             · intro hc2 hM
               refine J_seq <| J_region <| R_z [] [(40, .bool (y1 == 3))] <| T_seq <| J_cd hM ?_ ?_
               · intro hc4 hM
                 refine J_seq <| J_region <| R_d 1 [] [(42, vA [.slice none 0 0, vI 0])] <| R_sb 3 [.slice none 0 0, vI 0] [hB r01 [vS p3 y2.b c3, vI y2.p], hB b3 [vS p21 l c21, vI a0.Const], hO Int (vS p21 l c21) cs1, hB b1 [.slice none 0 0, vI 0], hB b [vS p1 a0.Coefs c1, vI a0.Const]] rfl rfl rfl rfl <| R_end rfl <| T_seq <| J_ret <| T_then_ret <| T_then_ret <| T_then_ret <| T_block_ret <| T_then_ret ?_
                 obtain rfl := pure_some hM
                 obtain rfl := pure_some hMc2
                 obtain rfl := pure_some hMc1
                 obtain rfl := pure_some hMc
                 exact T_RS ⟨_, _, (.cell 3 rfl rfl (by kernel_rfl) ResV.nil), (good_pick [0] rfl (by decide)), ⟨_, _, rfl, rfl, ⟨_, rfl, (impl_Affine_shut ⟨_, rfl, (SL.nil _)⟩)⟩, (spec_l16Rd_shut ⟨_, rfl, h6⟩)⟩⟩
               · intro hc4 hM
                 exact J_skip <| T_hs (good_pick [0, 1, 2, 3] rfl (by decide)) <| T_w [(4, vP b1 0), (5, vP b3 0)] <| T_cut ⟨_, _, _, _, _, _, _, _, _, _, (pure_some hM).symm, hle, (SL.nil _), h31, h6, rfl, rfl⟩
           · rintro imm06 hs2 m2 ⟨x4, Coefs2, x5, p12, c12, p13, c13, cs5, p14, c14, heq1, le8, h20, h21, h22, rfl, rfl⟩
             subst o02
             replace hle := hle.trans le8
             exact T_w [(4, vP b1 0), (5, vP b3 0)] <| T_cut ⟨_, _, _, _, _, _, _, _, _, _, (pure_some hMc2).symm, hle, h20, h21, h22, rfl, rfl⟩
       · rintro imm05 hs2 m2 ⟨x2, Coefs1, x3, p8, c8, p9, c9, cs3, p10, c10, heq2, le9, h15, h16, h17, rfl, rfl⟩
         subst o01
         replace hle := hle.trans le9
         exact T_w [(4, vP b1 0), (5, vP b3 0)] <| T_cut ⟨_, _, _, _, _, _, _, _, _, _, _, (pure_some hMc1).symm, hle, h16, h15, h17, rfl, rfl⟩
   · rintro imm02 hs2 m2 ⟨Coefs, Const, x, x1, p4, c4, cs2, p5, c5, p6, c6, heq3, le10, h7, h8, h9, rfl, rfl⟩
     subst o0
     replace hle := hle.trans le10
     refine T_block_normal <| T_seq <| J_seq <| J_region <| R_d 1 [1] [(43, vA [vS p4 Coefs c4, vI Const])] <| R_sb 3 [vS p4 Coefs c4, vI Const] [hB r01 [vS p6 x1.b c6, vI x1.p], hB b3 [vS p4 Coefs c4, vI Const], hO Int (vS p4 Coefs c4) cs2, hB b1 [vS p4 Coefs c4, vI Const]] rfl rfl rfl rfl <| R_end rfl <| T_seq <| J_ret <| T_freeze 2 rfl ?_
     intro imm011 le11 hl03
     have h32 := SL.of_frozen hl03 le11 h7
     replace h9 := h9.mono le11
     replace hle := hle.trans le11
     obtain rfl := pure_some hMc
     exact T_RS ⟨_, _, (.cell 2 rfl rfl (by kernel_rfl) ResV.nil), (good_pick [0] rfl (by decide)), ⟨_, _, rfl, rfl, ⟨_, rfl, (impl_Affine_shut ⟨_, rfl, h32⟩)⟩, (spec_l16Rd_shut ⟨_, rfl, h9⟩)⟩⟩
def spec_DrawAffineValid_post (r : impl_Affine) : Nat → Imm → List HA → Value → Prop := fun kk imm' hs' v =>
  ∃ (v0 : Value), hs' = [] ∧ v = tupV [v0] ∧ (∃ cs, v0 = .agg ⟨cs⟩ ∧ Rp.rep imm' cs r)
def M.spec_DrawAffineValid (code : (List UInt8)) : Option (impl_Affine) := do
 let y ← M.spec_l16Open code
 let (y2, y3) ← M.spec_l16Rd_pick y 5
 let (y5, y6) ← M.spec_l1Draw y3 y2
 let (y8, y9) ← M.spec_l1Mutate y6 y5
 pure (id y8)
theorem spec_DrawAffineValid_ok : ∀ (code : (List UInt8)) r, M.spec_DrawAffineValid code = some r → ∀ {imm : Imm} {p : Option Addr} {c : Nat}, (SL imm (vS p code c) code) → Ret Tryd.prog 13 [vS p code c] imm [] (spec_DrawAffineValid_post  r) := by
 intro code r hM imm p c h
 unfold M.spec_DrawAffineValid at hM
 refine ret_of_J (fn := Tryd.f13) (c := (bodyOf Tryd.f13)) Tryd.func13 rfl rfl ?_
 rintro B - -
 have hle : imm.le imm := Imm.le.refl _
 refine J_seq <| J_region <| R_alloc (c := ⟨[.slice none 0 0, vI 0]⟩) rfl rfl rfl (by kernel_rfl) ?_
 intro b hb
 refine R_end rfl <| T_seq <| J_seq <| J_region <| R_d 1 [] [(4, vS p code c)] ?_
 obtain ⟨y, hy, hM⟩ := bind_some hM
 refine R_call (hs1 := []) (rest := [hB b [.slice none 0 0, vI 0]]) rfl rfl rfl rfl (by kernel_rfl) rfl rfl (spec_l16Open_ok code _ hy h) ?_
 rintro imm0 hs2 v2 k2 le - ⟨b1, p1, c1, rfl, rfl, h1⟩ -
 replace hle := hle.trans le
 refine R_z [] [(3, vP b1 0)] <| T_seq <| J_seq <| J_region <| R_d 3 [] [(6, vP b1 0), (7, vP b1 0), (8, vP b1 0)] ?_
 obtain ⟨⟨y2, y3⟩, hy1, hM⟩ := bind_some hM
 refine R_call (hs1 := [hB b1 [vS p1 y.b c1, vI y.p]]) (rest := [hB b [.slice none 0 0, vI 0]]) rfl rfl rfl rfl (by kernel_rfl) rfl rfl (spec_l16Rd_pick_ok y 5 _ hy1 h1) ?_
 rintro imm01 hs2 v2 k2 le1 - ⟨v0, kk, rfl, rfl, rfl, h3⟩ -
 replace hle := hle.trans le1
 obtain ⟨v01, rfl, h4⟩ := spec_l16Rd_open h3
 obtain ⟨p2, c2, rfl⟩ := h4.form
 obtain ⟨⟨y5, y6⟩, hy2, hM⟩ := bind_some hM
 refine R_call (hs1 := [hB b1 [vS p2 y3.b c2, vI y3.p]]) (rest := [hB b [.slice none 0 0, vI 0]]) rfl rfl rfl rfl (by kernel_rfl) rfl rfl (spec_l1Draw_ok y3 y2 _ hy2 h4) ?_
 rintro imm02 hs2 v2 k2 le2 - ⟨v02, kk1, rfl, rfl, ⟨cs, rfl, h5⟩, h6⟩ -
 replace hle := hle.trans le2
 obtain ⟨v03, rfl, h7⟩ := impl_Affine_open h5
 obtain ⟨p3, c3, rfl⟩ := h7.form
 obtain ⟨v04, rfl, h8⟩ := spec_l16Rd_open h6
 obtain ⟨p4, c4, rfl⟩ := h8.form
 obtain ⟨⟨y8, y9⟩, hy3, hM⟩ := bind_some hM
 refine R_call (hs1 := [hB b1 [vS p4 y6.b c4, vI y6.p]]) (rest := [hB b [.slice none 0 0, vI 0]]) rfl rfl rfl rfl (by kernel_rfl) rfl rfl (spec_l1Mutate_ok y6 y5 _ hy3 h8 h7) ?_
 rintro imm03 hs2 v2 k2 le3 - ⟨v05, kk2, rfl, rfl, ⟨cs1, rfl, h9⟩, h10⟩ -
 replace hle := hle.trans le3
 obtain ⟨v06, rfl, h11⟩ := impl_Affine_open h9
 obtain ⟨p5, c5, rfl⟩ := h11.form
 obtain ⟨v07, rfl, h12⟩ := spec_l16Rd_open h10
 obtain ⟨p6, c6, rfl⟩ := h12.form
 refine R_sb 1 [vS p5 y8.Coefs c5, vI y8.Const] [hB b1 [vS p6 y9.b c6, vI y9.p], hB b [vS p5 y8.Coefs c5, vI y8.Const]] rfl rfl rfl rfl <| R_end rfl <| T_seq <| J_ret ?_
 obtain rfl := pure_some hM
 exact T_RS ⟨_, _, (.cell 1 rfl rfl (by kernel_rfl) ResV.nil), good_none, ⟨_, rfl, rfl, ⟨_, rfl, (impl_Affine_shut ⟨_, rfl, h11⟩)⟩⟩⟩
def spec_DrawFormatAffine_post (r : impl_Affine) : Nat → Imm → List HA → Value → Prop := fun kk imm' hs' v =>
  ∃ (v0 : Value), hs' = [] ∧ v = tupV [v0] ∧ (∃ cs, v0 = .agg ⟨cs⟩ ∧ Rp.rep imm' cs r)
def M.spec_DrawFormatAffine (code : (List UInt8)) : Option (impl_Affine) := do
 let y ← M.spec_DrawAffineValid code
 pure (id y)
theorem spec_DrawFormatAffine_ok : ∀ (code : (List UInt8)) r, M.spec_DrawFormatAffine code = some r → ∀ {imm : Imm} {p : Option Addr} {c : Nat}, (SL imm (vS p code c) code) → Ret Tryd.prog 4 [vS p code c] imm [] (spec_DrawFormatAffine_post  r) := by
 intro code r hM imm p c h
 unfold M.spec_DrawFormatAffine at hM
 refine ret_of_J (fn := Tryd.f4) (c := (bodyOf Tryd.f4)) Tryd.func4 rfl rfl ?_
 rintro B - -
 have hle : imm.le imm := Imm.le.refl _
 refine J_seq <| J_region <| R_alloc (c := ⟨[.slice none 0 0, vI 0]⟩) rfl rfl rfl (by kernel_rfl) ?_
 intro b hb
 refine R_end rfl <| T_seq <| J_seq <| J_region <| R_d 1 [] [(3, vS p code c)] ?_
 obtain ⟨y, hy, hM⟩ := bind_some hM
 refine R_call (hs1 := []) (rest := [hB b [.slice none 0 0, vI 0]]) rfl rfl rfl rfl (by kernel_rfl) rfl rfl (spec_DrawAffineValid_ok code _ hy h) ?_
 rintro imm0 hs2 v2 k2 le - ⟨v0, rfl, rfl, ⟨cs, rfl, h1⟩⟩ -
 replace hle := hle.trans le
 obtain ⟨v01, rfl, h2⟩ := impl_Affine_open h1
 obtain ⟨p1, c1, rfl⟩ := h2.form
 refine R_sb 0 [vS p1 y.Coefs c1, vI y.Const] [hB b [vS p1 y.Coefs c1, vI y.Const]] rfl rfl rfl rfl <| R_end rfl <| T_seq <| J_ret ?_
 obtain rfl := pure_some hM
 exact T_RS ⟨_, _, (.cell 0 rfl rfl (by kernel_rfl) ResV.nil), good_none, ⟨_, rfl, rfl, ⟨_, rfl, (impl_Affine_shut ⟨_, rfl, h2⟩)⟩⟩⟩
def impl_within_post (r : Bool) : Nat → Imm → List HA → Value → Prop := fun kk imm' hs' v =>
  ∃ (v0 : Value), hs' = [] ∧ v = tupV [v0] ∧ v0 = .bool r
def M.impl_within (n0 : Int) (low : Int) (high : Int) : Option (Bool) := do
 let t6 ← (do
   if (decide (low ≤ n0)) then
    pure (decide (n0 ≤ high))
   else
    pure false
     : Option Bool)
 pure (id t6)
theorem impl_within_ok : ∀ (n0 : Int) (low : Int) (high : Int) r, M.impl_within n0 low high = some r → ∀ {imm : Imm} , Ret Tryd.prog 25 [vI n0, vI low, vI high] imm [] (impl_within_post  r) := by
 intro n0 low high r hM imm
 unfold M.impl_within at hM
 refine ret_of_J (fn := Tryd.f25) (c := (bodyOf Tryd.f25)) Tryd.func25 rfl rfl ?_
 rintro B - -
 have hle : imm.le imm := Imm.le.refl _
 refine J_seq <| J_region <| R_z [] [] <| T_seq <| J_seq ?_
 obtain ⟨o0, ho0, hMc⟩ := bind_some hM
 refine J_cut (fun imm' hs' m' => ∃ (t6 : Bool), o0 = t6 ∧ imm.le imm' ∧ hs' = [] ∧ m' = [(6, .bool t6)]) ?_ ?_
 · have hle0 := hle
   have hle : imm.le imm := Imm.le.refl _
   refine J_region <| R_d 4 [] [(10, .bool (decide (low ≤ n0)))] ?_
   cases hc : (decide (low ≤ n0)) with
   | true =>
    have hM0 := if_some_true hc ho0
    try rw [hc]
    exact R_z [] [(6, .bool (decide (n0 ≤ high)))] <| T_w [(6, .bool (decide (n0 ≤ high)))] <| T_cut ⟨_, (pure_some hM0).symm, hle, rfl, rfl⟩
   | false =>
    have hM01 := if_some_false hc ho0
    try rw [hc]
    exact R_z [] [(6, .bool false)] <| T_w [(6, .bool false)] <| T_cut ⟨_, (pure_some hM01).symm, hle, rfl, rfl⟩
 · rintro imm0 hs2 m2 ⟨t6, heq, le, rfl, rfl⟩
   subst o0
   replace hle := hle.trans le
   refine T_seq <| J_ret ?_
   obtain rfl := pure_some hMc
   exact T_RS ⟨_, _, (.tmp rfl ResV.nil), good_none, ⟨_, rfl, rfl, rfl⟩⟩
def impl_isConst_post (r : Bool) : Nat → Imm → List HA → Value → Prop := fun kk imm' hs' v =>
  ∃ (v0 : Value), hs' = [] ∧ v = tupV [v0] ∧ v0 = .bool r
def M.impl_isConst (n0 : Int) : Option (Bool) := do
 let y ← M.impl_within n0 (-99) 99
 pure (id y)
theorem impl_isConst_ok : ∀ (n0 : Int) r, M.impl_isConst n0 = some r → ∀ {imm : Imm} , Ret Tryd.prog 22 [vI n0] imm [] (impl_isConst_post  r) := by
 intro n0 r hM imm
 unfold M.impl_isConst at hM
 refine ret_of_J (fn := Tryd.f22) (c := (bodyOf Tryd.f22)) Tryd.func22 rfl rfl ?_
 rintro B - -
 have hle : imm.le imm := Imm.le.refl _
 refine J_seq <| J_region <| R_z [] [] <| T_seq <| J_seq <| J_region <| R_d 1 [] [(3, vI n0)] ?_
 obtain ⟨y, hy, hM⟩ := bind_some hM
 refine R_call (hs1 := []) (rest := []) rfl rfl rfl rfl (by kernel_rfl) rfl rfl (impl_within_ok n0 (-99) 99 _ hy ) ?_
 rintro imm0 hs2 v2 k2 le - ⟨v0, rfl, rfl, rfl⟩ -
 replace hle := hle.trans le
 refine R_z [] [(2, .bool y)] <| T_seq <| J_ret ?_
 obtain rfl := pure_some hM
 exact T_RS ⟨_, _, (.tmp rfl ResV.nil), good_none, ⟨_, rfl, rfl, rfl⟩⟩
def slices_IndexFunc_int_int_post (hsF : List HA) (r : Int) : Nat → Imm → List HA → Value → Prop := fun kk imm' hs' v =>
  ∃ (v0 : Value), hsF = hs' ∧ v = tupV [v0] ∧ v0 = .int .i64 r
def M.slices_IndexFunc_int_int_l1 (s : (List Int)) (f0 : (Int → Option Bool)) (t8 : Int) : Option (Out Unit (Int)) := do
 if (decide (t8 < (s.length : Int))) then
  let x ← idx s t8
  let y ← f0 x
  if y then
   pure (.ret t8)
  else
   M.slices_IndexFunc_int_int_l1 s f0 (W (t8 + 1))
 else
  pure (.done ())
 partial_fixpoint
theorem slices_IndexFunc_int_int_l1_ok (s : (List Int)) (f0 : (Int → Option Bool)) : ∀ (t8 : Int) (o : Out Unit (Int)), M.slices_IndexFunc_int_int_l1 s f0 t8 = some o → ∀ {B : Base} {imm0 imm : Imm} {Q : Exit → Act → World → Prop}  {p : Option Addr} {c : Nat} {fv : Value} {hsF : List HA}, imm0.le imm → (SL imm (vS p s c) s) → (FV1 Tryd.prog imm hsF fv f0) → (∀ l a w, ¬ Q (.goto l) a w) → (∀ a w, ¬ Q .outgrown a w) → (∀ (imm' : Imm) , o = (.done ()) → imm0.le imm' → T 19 B Q (.exit 0) imm' hsF []) → (∀ r imm' hs' m', o = (.ret r) → imm0.le imm' → RS Tryd.prog Tryd.f49 B (slices_IndexFunc_int_int_post hsF r) imm' hs' m' → T 19 B Q .ret imm' hs' m') → J Tryd.prog 19 B (nav (bodyOf Tryd.f49) [1, 0, 1, 0]) Q imm hsF [(0, vS p s c), (1, fv), (7, vI (s.length : Int)), (8, vI t8)] := by
 refine M.slices_IndexFunc_int_int_l1.partial_correctness s f0 _ ?_
 intro self ih t8 o hM B imm0 imm Q p c fv hsF hle h h1 hg ho hx hr
 refine J_loop hg ho <| J_seq <| J_region <| R_z [] [(9, .bool (decide (t8 < (s.length : Int))))] <| T_seq <| J_seq <| J_cd hM ?_ ?_
 · intro hc hM
   refine J_skip <| T_seq <| J_seq <| J_block <| J_seq <| J_region <| R_z [] [(5, vI t8)] <| T_seq <| J_seq <| J_region <| R_d 3 [] [(11, fv), (12, vS p s c), (13, vI t8)] ?_
   obtain ⟨x, hy, hM⟩ := bind_some hM
   refine R_ix rfl rfl h hy ?_
   intro ad ccs hat hrep
   obtain rfl := hrep
   refine R_la 0 hat [vI x] (vI x) rfl ?_
   obtain ⟨y, hy1, hM⟩ := bind_some hM
   refine R_fv1 rfl rfl h1 hy1 rfl (List.append_nil _).symm ?_
   rintro imm0 v0 le rfl
   refine R_hseq (hs' := hsF) (List.append_nil _) ?_
   replace h := h.mono le
   replace h1 := h1.mono le
   replace hle := hle.trans le
   refine R_end rfl <| T_seq <| J_cd hM ?_ ?_
   · intro hc1 hM
     exact J_seq <| J_region <| R_z [] [(4, vI t8)] <| T_seq <| J_ret <| T_block_ret <| T_then_ret <| T_then_ret <| hr _ _ _ _ (pure_some hM).symm hle ⟨_, _, (.tmp rfl ResV.nil), (fun _ h => h), ⟨_, rfl, rfl, rfl⟩⟩
   · intro hc1 hM
     exact J_skip <| T_block_normal <| T_seq <| J_region <| R_z [] [(8, vI (W (t8 + 1)))] <| T_loop <| J_w [(0, vS p s c), (1, fv), (7, vI (s.length : Int)), (8, vI (W (t8 + 1)))] <| ih (W (t8 + 1)) _ hM hle h h1 hg ho hx hr
 · intro hc hM
   exact J_exit <| T_then_exit <| T_then_exit <| T_w [] <| hx _  (pure_some hM).symm hle
def M.slices_IndexFunc_int_int (s : (List Int)) (f0 : (Int → Option Bool)) : Option (Int) := do
 match ← M.slices_IndexFunc_int_int_l1 s f0 0 with
 | .ret r0 => pure r0
 | .done _ =>
  pure (-1)
theorem slices_IndexFunc_int_int_ok : ∀ (s : (List Int)) (f0 : (Int → Option Bool)) r, M.slices_IndexFunc_int_int s f0 = some r → ∀ {imm : Imm} {p : Option Addr} {c : Nat} {fv : Value} {hsF : List HA}, (SL imm (vS p s c) s) → (FV1 Tryd.prog imm hsF fv f0) → Ret Tryd.prog 49 [vS p s c, fv] imm hsF (slices_IndexFunc_int_int_post hsF r) := by
 intro s f0 r hM imm p c fv hsF h h1
 unfold M.slices_IndexFunc_int_int at hM
 refine ret_of_J (fn := Tryd.f49) (c := (bodyOf Tryd.f49)) Tryd.func49 rfl rfl ?_
 rintro B - -
 have hle : imm.le imm := Imm.le.refl _
 refine J_seq <| J_region <| R_z [] [] <| T_seq <| J_seq <| J_seq <| J_region <| R_z [] [(7, vI (s.length : Int)), (8, vI 0)] <| T_seq <| J_block <| J_w [(0, vS p s c), (1, fv), (7, vI (s.length : Int)), (8, vI 0)] ?_
 obtain ⟨o0, ho0, hMl⟩ := bind_some hM
 refine slices_IndexFunc_int_int_l1_ok s f0 0 o0 ho0 (Imm.le.refl _) h h1 (fun _ _ _ h => h) (fun _ _ h => h) ?_ ?_
 · intro imm01  heq le1
   subst o0
   replace hle := hle.trans le1
   refine T_block_here <| T_seq <| J_seq <| J_region <| R_z [] [(4, vI (-1))] <| T_seq <| J_ret ?_
   obtain rfl := pure_some hMl
   exact T_RS ⟨_, _, (.tmp rfl ResV.nil), (fun _ h => h), ⟨_, rfl, rfl, rfl⟩⟩
 · intro r0 imm9 hs9 m9 heq9 le9 hrs9
   subst heq9
   refine T_block_ret <| T_then_ret ?_
   obtain rfl := pure_some hMl
   exact T_RS hrs9
def slices_ContainsFunc_int_int_post (hsF : List HA) (r : Bool) : Nat → Imm → List HA → Value → Prop := fun kk imm' hs' v =>
  ∃ (v0 : Value), hsF = hs' ∧ v = tupV [v0] ∧ v0 = .bool r
def M.slices_ContainsFunc_int_int (s : (List Int)) (f0 : (Int → Option Bool)) : Option (Bool) := do
 let y ← M.slices_IndexFunc_int_int s f0
 pure (decide (y ≥ 0))
theorem slices_ContainsFunc_int_int_ok : ∀ (s : (List Int)) (f0 : (Int → Option Bool)) r, M.slices_ContainsFunc_int_int s f0 = some r → ∀ {imm : Imm} {p : Option Addr} {c : Nat} {fv : Value} {hsF : List HA}, (SL imm (vS p s c) s) → (FV1 Tryd.prog imm hsF fv f0) → Ret Tryd.prog 23 [vS p s c, fv] imm hsF (slices_ContainsFunc_int_int_post hsF r) := by
 intro s f0 r hM imm p c fv hsF h h1
 unfold M.slices_ContainsFunc_int_int at hM
 refine ret_of_J (fn := Tryd.f23) (c := (bodyOf Tryd.f23)) Tryd.func23 rfl rfl ?_
 rintro B - -
 have hle : imm.le imm := Imm.le.refl _
 refine J_seq <| J_region <| R_z [] [] <| T_seq <| J_seq <| J_region <| R_d 2 [] [(5, vS p s c), (6, fv)] ?_
 obtain ⟨y, hy, hM⟩ := bind_some hM
 refine R_call (hs1 := hsF) (rest := []) rfl rfl rfl rfl (by kernel_rfl) rfl (List.append_nil _).symm (slices_IndexFunc_int_int_ok s f0 _ hy h h1) ?_
 rintro imm0 hs2 v2 k2 le - ⟨v0, rfl, rfl, rfl⟩ -
 refine R_hseq (hs' := hsF) (List.append_nil _) ?_
 replace hle := hle.trans le
 refine R_z [] [(4, .bool (decide (y ≥ 0)))] <| T_seq <| J_ret ?_
 obtain rfl := pure_some hM
 exact T_RS ⟨_, _, (.tmp rfl ResV.nil), (fun _ h => h), ⟨_, rfl, rfl, rfl⟩⟩
def impl_AffineValid_1_post (r : Bool) : Nat → Imm → List HA → Value → Prop := fun kk imm' hs' v =>
  ∃ (v0 : Value), hs' = [] ∧ v = tupV [v0] ∧ v0 = .bool r
def M.impl_AffineValid_1 (c : Int) : Option (Bool) := do
 let y ← M.impl_within c (-9) 9
 pure (!y)
theorem impl_AffineValid_1_ok : ∀ (c : Int) r, M.impl_AffineValid_1 c = some r → ∀ {imm : Imm} , Ret Tryd.prog 24 [vI c] imm [] (impl_AffineValid_1_post  r) := by
 intro c r hM imm
 unfold M.impl_AffineValid_1 at hM
 refine ret_of_J (fn := Tryd.f24) (c := (bodyOf Tryd.f24)) Tryd.func24 rfl rfl ?_
 rintro B - -
 have hle : imm.le imm := Imm.le.refl _
 refine J_seq <| J_region <| R_z [] [] <| T_seq <| J_seq <| J_region <| R_d 1 [] [(3, vI c)] ?_
 obtain ⟨y, hy, hM⟩ := bind_some hM
 refine R_call (hs1 := []) (rest := []) rfl rfl rfl rfl (by kernel_rfl) rfl rfl (impl_within_ok c (-9) 9 _ hy ) ?_
 rintro imm0 hs2 v2 k2 le - ⟨v0, rfl, rfl, rfl⟩ -
 replace hle := hle.trans le
 refine R_z [] [(2, .bool (!y))] <| T_seq <| J_ret ?_
 obtain rfl := pure_some hM
 exact T_RS ⟨_, _, (.tmp rfl ResV.nil), good_none, ⟨_, rfl, rfl, rfl⟩⟩
def impl_AffineValid_post (r : Bool) : Nat → Imm → List HA → Value → Prop := fun kk imm' hs' v =>
  ∃ (v0 : Value), hs' = [] ∧ v = tupV [v0] ∧ v0 = .bool r
def M.impl_AffineValid (a0 : impl_Affine) : Option (Bool) := do
 let t2 ← (do
   if ((a0.Coefs.length : Int) == 4) then
    let y ← M.impl_isConst a0.Const
    if y then
     let y1 ← M.slices_ContainsFunc_int_int a0.Coefs M.impl_AffineValid_1
     pure (!y1)
    else
     pure false
   else
    pure false
     : Option Bool)
 pure (id t2)
theorem impl_AffineValid_ok : ∀ (a0 : impl_Affine) r, M.impl_AffineValid a0 = some r → ∀ {imm : Imm} {p : Option Addr} {c : Nat}, (SL imm (vS p a0.Coefs c) a0.Coefs) → Ret Tryd.prog 8 [vA [vS p a0.Coefs c, vI a0.Const]] imm [] (impl_AffineValid_post  r) := by
 intro a0 r hM imm p c h
 unfold M.impl_AffineValid at hM
 refine ret_of_J (fn := Tryd.f8) (c := (bodyOf Tryd.f8)) Tryd.func8 rfl rfl ?_
 rintro B - -
 have hle : imm.le imm := Imm.le.refl _
 refine J_seq <| J_region <| R_box (c := ⟨[vS p a0.Coefs c, vI a0.Const]⟩) rfl rfl rfl rfl rfl ?_
 intro b hb
 refine R_z [] [] <| T_seq <| J_seq ?_
 obtain ⟨o0, ho0, hMc⟩ := bind_some hM
 refine J_cut (fun imm' hs' m' => ∃ (t2 : Bool), o0 = t2 ∧ imm.le imm' ∧ hs' = [] ∧ m' = [(2, .bool t2)]) ?_ ?_
 · have hle0 := hle
   have hle : imm.le imm := Imm.le.refl _
   refine J_region <| R_d 5 [0] [(7, .bool ((a0.Coefs.length : Int) == 4))] ?_
   cases hc : ((a0.Coefs.length : Int) == 4) with
   | true =>
    have hM0 := if_some_true hc ho0
    try rw [hc]
    refine R_d 7 [0] [(9, vI a0.Const)] ?_
    obtain ⟨y, hy, hM⟩ := bind_some hM0
    refine R_call (hs1 := []) (rest := [hB b [vS p a0.Coefs c, vI a0.Const]]) rfl rfl rfl rfl (by kernel_rfl) rfl rfl (impl_isConst_ok a0.Const _ hy ) ?_
    rintro imm01 hs2 v2 k2 le - ⟨v0, rfl, rfl, rfl⟩ -
    replace h := h.mono le
    replace hle := hle.trans le
    refine R_d 10 [] [(12, .bool y)] ?_
    cases hc1 : y with
    | true =>
     have hM01 := if_some_true hc1 hM
     try rw [hc1]
     refine R_d 12 [0] [(14, vS p a0.Coefs c)] ?_
     have hf0 : FV1 Tryd.prog imm01 [] (.func (.func 24) ⟨[]⟩ ⟨[]⟩) M.impl_AffineValid_1 := by
       refine FV1.intro ?_
       intro imm1 le1 x0 r u0 hF k0
       obtain rfl := k0
       exact (impl_AffineValid_1_ok x0 r hF ).mono (by rintro k i hs u ⟨v0, rfl, rfl, h⟩; exact ⟨rfl, h⟩)
     obtain ⟨y1, hy1, hM⟩ := bind_some hM01
     refine R_call (hs1 := []) (rest := [hB b [vS p a0.Coefs c, vI a0.Const]]) rfl rfl rfl rfl (by kernel_rfl) rfl rfl (slices_ContainsFunc_int_int_ok a0.Coefs M.impl_AffineValid_1 _ hy1 h hf0) ?_
     rintro imm02 hs2 v2 k2 le1 - ⟨v01, rfl, rfl, rfl⟩ -
     replace h := h.mono le1
     replace hle := hle.trans le1
     exact R_z [] [(2, .bool (!y1))] <| T_hs (good_pick [] rfl (by decide)) <| T_w [(2, .bool (!y1))] <| T_cut ⟨_, (pure_some hM).symm, hle, rfl, rfl⟩
    | false =>
     have hM02 := if_some_false hc1 hM
     try rw [hc1]
     exact R_z [] [(2, .bool false)] <| T_hs (good_pick [] rfl (by decide)) <| T_w [(2, .bool false)] <| T_cut ⟨_, (pure_some hM02).symm, hle, rfl, rfl⟩
   | false =>
    have hM03 := if_some_false hc ho0
    try rw [hc]
    exact R_z [] [(2, .bool false)] <| T_hs (good_pick [] rfl (by decide)) <| T_w [(2, .bool false)] <| T_cut ⟨_, (pure_some hM03).symm, hle, rfl, rfl⟩
 · rintro imm0 hs2 m2 ⟨t2, heq, le2, rfl, rfl⟩
   subst o0
   replace hle := hle.trans le2
   refine T_seq <| J_ret ?_
   obtain rfl := pure_some hMc
   exact T_RS ⟨_, _, (.tmp rfl ResV.nil), good_none, ⟨_, rfl, rfl, rfl⟩⟩
def impl_affineText_1_post (b0 : Nat) (r : Str) : Nat → Imm → List HA → Value → Prop := fun kk imm' hs' v =>
  ∃ (k0 : List Value), hs' = [.blk b0 ⟨k0⟩] ∧ v = tupV [] ∧ Rp.rep imm' k0 r
def M.impl_affineText_1 (n0 : Int) (x : Str) : Option (Str) := do
 let x1 ← (do
   if (decide (n0 < 0)) then
    let s ← cat x (⟨[45]⟩ : Str)
    pure (id s)
   else
    let x2 ← (do
      if (!(x.l == ([] : List UInt8))) then
       let s1 ← cat x (⟨[43]⟩ : Str)
       pure (id s1)
      else
       pure (id x)
        : Option Str)
    pure (id x2)
     : Option Str)
 pure (id x1)
theorem impl_affineText_1_ok : ∀ (n0 : Int) (x : Str) r, M.impl_affineText_1 n0 x = some r → ∀ {imm : Imm} {r0 : Nat}, Ret Tryd.prog 35 [vI n0, vP r0 0] imm [hB r0 [vT x.l]] (impl_affineText_1_post r0 r) := by
 intro n0 x r hM imm r0
 unfold M.impl_affineText_1 at hM
 refine ret_of_J (fn := Tryd.f35) (c := (bodyOf Tryd.f35)) Tryd.func35 rfl rfl ?_
 rintro B - -
 have hle : imm.le imm := Imm.le.refl _
 refine J_seq <| J_region <| R_z [] [(4, .bool (decide (n0 < 0)))] <| T_seq ?_
 obtain ⟨o0, ho0, hMc⟩ := bind_some hM
 refine J_cut (fun imm' hs' m' => ∃ (x1 : Str), o0 = x1 ∧ imm.le imm' ∧ hs' = [hB r0 [vT x1.l]] ∧ m' = []) ?_ ?_
 · have hle0 := hle
   have hle : imm.le imm := Imm.le.refl _
   refine J_cd ho0 ?_ ?_
   · intro hc hM
     refine J_region <| R_d 1 [0] [(5, vT x.l)] ?_
     obtain ⟨s, hy, hM⟩ := bind_some hM
     exact R_ca rfl hy <| R_sb 0 [vT s.l] [hB r0 [vT s.l]] rfl rfl rfl rfl <| R_end rfl <| T_w [] <| T_cut ⟨_, (pure_some hM).symm, hle, rfl, rfl⟩
   · intro hc hM
     refine J_seq <| J_region <| R_z [0] [(8, .bool (!(x.l == ([] : List UInt8))))] <| T_seq ?_
     obtain ⟨o01, ho01, hMc1⟩ := bind_some hM
     refine J_cut (fun imm' hs' m' => ∃ (x2 : Str), o01 = x2 ∧ imm.le imm' ∧ hs' = [hB r0 [vT x2.l]] ∧ m' = []) ?_ ?_
     · have hle01 := hle
       have hle : imm.le imm := Imm.le.refl _
       refine J_cd ho01 ?_ ?_
       · intro hc1 hM
         refine J_region <| R_d 1 [0] [(9, vT x.l)] ?_
         obtain ⟨s1, hy1, hM⟩ := bind_some hM
         exact R_ca rfl hy1 <| R_sb 0 [vT s1.l] [hB r0 [vT s1.l]] rfl rfl rfl rfl <| R_end rfl <| T_w [] <| T_cut ⟨_, (pure_some hM).symm, hle, rfl, rfl⟩
       · intro hc1 hM
         exact J_skip <| T_w [] <| T_cut ⟨_, (pure_some hM).symm, hle, rfl, rfl⟩
     · rintro imm01 hs2 m2 ⟨x2, heq, le, rfl, rfl⟩
       subst o01
       replace hle := hle.trans le
       exact T_w [] <| T_cut ⟨_, (pure_some hMc1).symm, hle, rfl, rfl⟩
 · rintro imm0 hs2 m2 ⟨x1, heq1, le1, rfl, rfl⟩
   subst o0
   replace hle := hle.trans le1
   obtain rfl := pure_some hMc
   exact T_RSn ⟨_, _, ResV.nil, (good_pick [0] rfl (by decide)), ⟨_, rfl, rfl, rfl⟩⟩
def strconv_Itoa_post (r : Str) : Nat → Imm → List HA → Value → Prop := fun kk imm' hs' v =>
  ∃ (v0 : Value), hs' = [] ∧ v = tupV [v0] ∧ v0 = .string ⟨⟨r.l⟩⟩
def M.strconv_Itoa (i : Int) : Option Str := if -9223372036854775808 ≤ i ∧ i ≤ 9223372036854775807 then some ⟨Lib.itoa i⟩ else none
theorem strconv_Itoa_ok : ∀ (i : Int) r, M.strconv_Itoa i = some r → ∀ {imm : Imm}, GH Tryd.prog imm → Ret Tryd.prog 36 [vI i] imm [] (strconv_Itoa_post r) := by
 intro i r hM imm hG
 unfold M.strconv_Itoa at hM
 split at hM
 · rename_i hi
   cases hM
   exact ret_lib (fun w g => Tryd.strconv_Itoa i hi.1 hi.2 w (hG.tab g)) (fun k => ⟨_, rfl, rfl, rfl⟩)
 · cases hM
def impl_affineText_post (r : Str) : Nat → Imm → List HA → Value → Prop := fun kk imm' hs' v =>
  ∃ (v0 : Value), hs' = [] ∧ v = tupV [v0] ∧ v0 = .string ⟨⟨r.l⟩⟩
def M.impl_affineText_l1 (a0 : impl_Affine) (t12 : Int) (x : Str) : Option (Str) := do
 if (decide (t12 < (a0.Coefs.length : Int))) then
  let x2 ← idx a0.Coefs t12
  if (x2 == 0) then
   M.impl_affineText_l1 a0 (W (t12 + 1)) x
  else
   let y ← M.impl_affineText_1 x2 x
   let x3 ← (do
     if (decide ((if (W (0 - x2)) > x2 then (W (0 - x2)) else x2) > 1)) then
      let y1 ← M.strconv_Itoa (if (W (0 - x2)) > x2 then (W (0 - x2)) else x2)
      let s ← cat y1 (⟨[42]⟩ : Str)
      let s1 ← cat y s
      pure (id s1)
     else
      pure (id y)
       : Option Str)
   let s2 ← sslc (⟨[105, 106, 107, 108]⟩ : Str) t12 (W (t12 + 1))
   let s3 ← cat x3 s2
   M.impl_affineText_l1 a0 (W (t12 + 1)) s3
 else
  pure (id x)
 partial_fixpoint
theorem impl_affineText_l1_ok (a0 : impl_Affine) : ∀ (t12 : Int) (x : Str) (o : Str), M.impl_affineText_l1 a0 t12 x = some o → ∀ {B : Base} {imm0 imm : Imm} {Q : Exit → Act → World → Prop}  {p : Option Addr} {c : Nat} {b : Nat} {b1 : Nat}, imm0.le imm → (SL imm (vS p a0.Coefs c) a0.Coefs) → (GH Tryd.prog imm) → (∀ l a w, ¬ Q (.goto l) a w) → (∀ a w, ¬ Q .outgrown a w) → (∀ (imm' : Imm) (x1 : Str), o = x1 → imm0.le imm' → T 59 B Q (.exit 0) imm' [hB b1 [vT x1.l], hB b [vS p a0.Coefs c, vI a0.Const]] [(1, vP b 0), (3, vP b1 0), (4, .func (.func 35) ⟨[]⟩ ⟨[vP b1 0]⟩)]) → J Tryd.prog 59 B (nav (bodyOf Tryd.f14) [1, 1, 1, 0, 1, 0]) Q imm [hB b1 [vT x.l], hB b [vS p a0.Coefs c, vI a0.Const]] [(1, vP b 0), (3, vP b1 0), (4, .func (.func 35) ⟨[]⟩ ⟨[vP b1 0]⟩), (10, vS p a0.Coefs c), (11, vI (a0.Coefs.length : Int)), (12, vI t12)] := by
 refine M.impl_affineText_l1.partial_correctness a0 _ ?_
 intro self ih t12 x o hM B imm0 imm Q p c b b1 hle h hG hg ho hx
 refine J_loop hg ho <| J_seq <| J_region <| R_z [] [(13, .bool (decide (t12 < (a0.Coefs.length : Int))))] <| T_seq <| J_seq <| J_cd hM ?_ ?_
 · intro hc hM
   refine J_skip <| T_seq <| J_seq <| J_block <| J_seq <| J_region <| R_d 1 [] [(14, vI t12)] ?_
   obtain ⟨x2, hy, hM⟩ := bind_some hM
   refine R_ix rfl rfl h hy ?_
   intro ad ccs hat hrep
   obtain rfl := hrep
   refine R_la 0 hat [vI x2] (vI x2) rfl <| R_z [] [(5, vI t12), (6, vI x2)] <| T_seq <| J_seq <| J_seq <| J_region <| R_z [] [(18, .bool (x2 == 0))] <| T_seq <| J_cd hM ?_ ?_
   · intro hc1 hM
     exact J_exit <| T_then_exit <| T_block_here <| T_seq <| J_region <| R_z [] [(12, vI (W (t12 + 1)))] <| T_loop <| J_w [(1, vP b 0), (3, vP b1 0), (4, .func (.func 35) ⟨[]⟩ ⟨[vP b1 0]⟩), (10, vS p a0.Coefs c), (11, vI (a0.Coefs.length : Int)), (12, vI (W (t12 + 1)))] <| ih (W (t12 + 1)) x _ hM hle h hG hg ho hx
   · intro hc1 hM
     refine J_skip <| T_seq <| J_seq <| J_region <| R_d 2 [] [(19, .func (.func 35) ⟨[]⟩ ⟨[vP b1 0]⟩), (20, vI x2)] ?_
     obtain ⟨y, hy1, hM⟩ := bind_some hM
     refine R_callf (hs1 := [hB b1 [vT x.l]]) (rest := [hB b [vS p a0.Coefs c, vI a0.Const]]) rfl rfl (by kernel_rfl) rfl rfl (impl_affineText_1_ok x2 x _ hy1 ) ?_
     rintro imm0 hs2 v2 k2 le - ⟨kk, rfl, rfl, h1⟩ -
     replace h := h.mono le
     replace hG := hG.mono le
     replace hle := hle.trans le
     obtain rfl := h1
     refine R_end rfl <| T_seq <| J_seq <| J_seq <| J_region <| R_z [] [(7, vI (if (W (0 - x2)) > x2 then (W (0 - x2)) else x2))] <| T_seq <| J_seq <| J_region <| R_z [] [(27, .bool (decide ((if (W (0 - x2)) > x2 then (W (0 - x2)) else x2) > 1)))] <| T_seq ?_
     obtain ⟨o0, ho0, hMc⟩ := bind_some hM
     refine J_cut (fun imm' hs' m' => ∃ (x3 : Str), o0 = x3 ∧ imm0.le imm' ∧ hs' = [hB b1 [vT x3.l], hB b [vS p a0.Coefs c, vI a0.Const]] ∧ m' = [(1, vP b 0), (3, vP b1 0), (4, .func (.func 35) ⟨[]⟩ ⟨[vP b1 0]⟩), (5, vI t12), (10, vS p a0.Coefs c), (11, vI (a0.Coefs.length : Int)), (12, vI t12)]) ?_ ?_
     · have hle0 := hle
       have hle : imm0.le imm0 := Imm.le.refl _
       refine J_cd ho0 ?_ ?_
       · intro hc2 hM
         obtain ⟨y1, hy2, hM⟩ := bind_some hM
         obtain ⟨s, hy3, hM⟩ := bind_some hM
         obtain ⟨s1, hy4, hM⟩ := bind_some hM
         refine J_any [.p (vT y.l) [0], .p (vI (if (W (0 - x2)) > x2 then (W (0 - x2)) else x2)) [], .q (vT y1.l), .q (vT s.l), .q (vT s1.l)] [[], [], [(1, false)], [(2, false)], [(0, false), (3, false)]] [hB b1 [vT y.l], hB b [vS p a0.Coefs c, vI a0.Const]] [] [(4, false)] (good_pick [0, 1] rfl (by decide)) ?_ ?_
         · refine Op <| Op <| Oq ?_ <| Oq ?_ <| Oq ?_ <| On
           · intro imm1 hf le1
             refine Ins_cons ?_
             rintro _ _ ⟨rfl, rfl⟩
             refine Ins_nil <| R_isw (hB b1 [vT y.l] :: hB b [vS p a0.Coefs c, vI a0.Const] :: hf) [(29, vI (if (W (0 - x2)) > x2 then (W (0 - x2)) else x2))] ?_
             have hle := Imm.le.refl imm1
             replace h := h.mono le1
             replace hG := hG.mono le1
             refine R_call (hs1 := []) (rest := (hB b1 [vT y.l] :: hB b [vS p a0.Coefs c, vI a0.Const] :: hf)) rfl rfl rfl rfl (by kernel_rfl) rfl rfl (strconv_Itoa_ok (if (W (0 - x2)) > x2 then (W (0 - x2)) else x2) _ hy2 hG) ?_
             rintro imm02 hs2 v2 k2 le1 - ⟨v0, rfl, rfl, rfl⟩ -
             replace h := h.mono le1
             replace hG := hG.mono le1
             replace hle := hle.trans le1
             exact R_out (hx := []) rfl hle rfl (out_some rfl) ⟨rfl, rfl⟩
           · intro imm1 hf le1
             refine Ins_cons ?_
             rintro _ _ ⟨rfl, rfl⟩
             refine Ins_nil <| R_isw (hB b1 [vT y.l] :: hB b [vS p a0.Coefs c, vI a0.Const] :: hf) [(30, vT y1.l)] ?_
             have hle := Imm.le.refl imm1
             exact R_ca rfl hy3 <| R_out (hx := []) rfl hle rfl (out_some rfl) ⟨rfl, rfl⟩
           · intro imm1 hf le1
             refine Ins_cons ?_
             rintro _ _ ⟨rfl, rfl⟩
             refine Ins_cons ?_
             rintro _ _ ⟨rfl, rfl⟩
             refine Ins_nil <| R_isw (hB b1 [vT y.l] :: hB b [vS p a0.Coefs c, vI a0.Const] :: hf) [(28, vT y.l), (31, vT s.l)] ?_
             have hle := Imm.le.refl imm1
             exact R_ca rfl hy4 <| R_out (hx := []) rfl hle rfl (out_some rfl) ⟨rfl, rfl⟩
         · intro imm03 le2
           refine Ins_cons ?_
           rintro _ _ ⟨rfl, rfl⟩
           refine Ins_nil <| R_isw [hB b1 [vT y.l], hB b [vS p a0.Coefs c, vI a0.Const]] [(1, vP b 0), (3, vP b1 0), (4, .func (.func 35) ⟨[]⟩ ⟨[vP b1 0]⟩), (5, vI t12), (10, vS p a0.Coefs c), (11, vI (a0.Coefs.length : Int)), (12, vI t12), (32, vT s1.l)] ?_
           replace h := h.mono le2
           replace hG := hG.mono le2
           replace hle := hle.trans le2
           exact R_sb 0 [vT s1.l] [hB b1 [vT s1.l], hB b [vS p a0.Coefs c, vI a0.Const]] rfl rfl rfl rfl <| R_end rfl <| T_w [(1, vP b 0), (3, vP b1 0), (4, .func (.func 35) ⟨[]⟩ ⟨[vP b1 0]⟩), (5, vI t12), (10, vS p a0.Coefs c), (11, vI (a0.Coefs.length : Int)), (12, vI t12)] <| T_cut ⟨_, (pure_some hM).symm, hle, rfl, rfl⟩
       · intro hc2 hM
         exact J_skip <| T_w [(1, vP b 0), (3, vP b1 0), (4, .func (.func 35) ⟨[]⟩ ⟨[vP b1 0]⟩), (5, vI t12), (10, vS p a0.Coefs c), (11, vI (a0.Coefs.length : Int)), (12, vI t12)] <| T_cut ⟨_, (pure_some hM).symm, hle, rfl, rfl⟩
     · rintro imm01 hs2 m2 ⟨x3, heq, le3, rfl, rfl⟩
       subst o0
       replace h := h.mono le3
       replace hG := hG.mono le3
       replace hle := hle.trans le3
       refine T_seq ?_
       obtain ⟨s2, hy5, hM⟩ := bind_some hMc
       obtain ⟨s3, hy6, hM⟩ := bind_some hM
       refine J_any [.p (vT x3.l) [0], .p (vI t12) [], .p (vI t12) [], .p (vI (W (t12 + 1))) [], .q (vT s2.l), .q (vT s3.l)] [[], [], [], [(2, false)], [(1, false), (3, false)], [(0, false), (4, false)]] [hB b1 [vT x3.l], hB b [vS p a0.Coefs c, vI a0.Const]] [] [(5, false)] (good_pick [0, 1] rfl (by decide)) ?_ ?_
       · refine Op <| Op <| Op <| Op <| Oq ?_ <| Oq ?_ <| On
         · intro imm1 hf le1
           refine Ins_cons ?_
           rintro _ _ ⟨rfl, rfl⟩
           refine Ins_cons ?_
           rintro _ _ ⟨rfl, rfl⟩
           refine Ins_nil <| R_isw (hB b1 [vT x3.l] :: hB b [vS p a0.Coefs c, vI a0.Const] :: hf) [(34, vI t12), (36, vI (W (t12 + 1)))] ?_
           have hle := Imm.le.refl imm1
           exact R_ss rfl hy5 <| R_out (hx := []) rfl hle rfl (out_some rfl) ⟨rfl, rfl⟩
         · intro imm1 hf le1
           refine Ins_cons ?_
           rintro _ _ ⟨rfl, rfl⟩
           refine Ins_cons ?_
           rintro _ _ ⟨rfl, rfl⟩
           refine Ins_nil <| R_isw (hB b1 [vT x3.l] :: hB b [vS p a0.Coefs c, vI a0.Const] :: hf) [(33, vT x3.l), (37, vT s2.l)] ?_
           have hle := Imm.le.refl imm1
           exact R_ca rfl hy6 <| R_out (hx := []) rfl hle rfl (out_some rfl) ⟨rfl, rfl⟩
       · intro imm04 le4
         refine Ins_cons ?_
         rintro _ _ ⟨rfl, rfl⟩
         refine Ins_nil <| R_isw [hB b1 [vT x3.l], hB b [vS p a0.Coefs c, vI a0.Const]] [(1, vP b 0), (3, vP b1 0), (4, .func (.func 35) ⟨[]⟩ ⟨[vP b1 0]⟩), (10, vS p a0.Coefs c), (11, vI (a0.Coefs.length : Int)), (12, vI t12), (38, vT s3.l)] ?_
         replace h := h.mono le4
         replace hG := hG.mono le4
         replace hle := hle.trans le4
         exact R_sb 0 [vT s3.l] [hB b1 [vT s3.l], hB b [vS p a0.Coefs c, vI a0.Const]] rfl rfl rfl rfl <| R_end rfl <| T_block_normal <| T_seq <| J_region <| R_z [] [(12, vI (W (t12 + 1)))] <| T_loop <| J_w [(1, vP b 0), (3, vP b1 0), (4, .func (.func 35) ⟨[]⟩ ⟨[vP b1 0]⟩), (10, vS p a0.Coefs c), (11, vI (a0.Coefs.length : Int)), (12, vI (W (t12 + 1)))] <| ih (W (t12 + 1)) s3 _ hM hle h hG hg ho hx
 · intro hc hM
   exact J_exit <| T_then_exit <| T_then_exit <| T_w [(1, vP b 0), (3, vP b1 0), (4, .func (.func 35) ⟨[]⟩ ⟨[vP b1 0]⟩)] <| hx _ _ (pure_some hM).symm hle
def M.impl_affineText (a0 : impl_Affine) : Option (Str) := do
 let x1 ← M.impl_affineText_l1 a0 0 (⟨[]⟩ : Str)
 let x4 ← (do
   if (a0.Const != 0) then
    let y2 ← M.impl_affineText_1 a0.Const x1
    let y3 ← M.strconv_Itoa (if (W (0 - a0.Const)) > a0.Const then (W (0 - a0.Const)) else a0.Const)
    let s4 ← cat y2 y3
    pure (id s4)
   else
    pure (id x1)
     : Option Str)
 if (x4.l == ([] : List UInt8)) then
  pure (⟨[48]⟩ : Str)
 else
  pure (id x4)
theorem impl_affineText_ok : ∀ (a0 : impl_Affine) r, M.impl_affineText a0 = some r → ∀ {imm : Imm} {p : Option Addr} {c : Nat}, (SL imm (vS p a0.Coefs c) a0.Coefs) → (GH Tryd.prog imm) → Ret Tryd.prog 14 [vA [vS p a0.Coefs c, vI a0.Const]] imm [] (impl_affineText_post  r) := by
 intro a0 r hM imm p c h hG
 unfold M.impl_affineText at hM
 refine ret_of_J (fn := Tryd.f14) (c := (bodyOf Tryd.f14)) Tryd.func14 rfl rfl ?_
 rintro B - -
 have hle : imm.le imm := Imm.le.refl _
 refine J_seq <| J_region <| R_box (c := ⟨[vS p a0.Coefs c, vI a0.Const]⟩) rfl rfl rfl rfl rfl ?_
 intro b hb
 refine R_z [] [] <| T_seq <| J_seq <| J_region <| R_alloc (c := ⟨[vT ([])]⟩) rfl rfl rfl (by kernel_rfl) ?_
 intro b1 hb1
 refine R_sb 0 [vT ([])] [hB b1 [vT ([])], hB b [vS p a0.Coefs c, vI a0.Const]] rfl rfl rfl rfl <| R_end rfl <| T_seq <| J_seq <| J_region <| R_z [] [(4, .func (.func 35) ⟨[]⟩ ⟨[vP b1 0]⟩)] <| T_seq <| J_seq <| J_seq <| J_region <| R_z [1] [(10, vS p a0.Coefs c), (11, vI (a0.Coefs.length : Int)), (12, vI 0)] <| T_seq <| J_block <| J_w [(1, vP b 0), (3, vP b1 0), (4, .func (.func 35) ⟨[]⟩ ⟨[vP b1 0]⟩), (10, vS p a0.Coefs c), (11, vI (a0.Coefs.length : Int)), (12, vI 0)] ?_
 obtain ⟨o01, ho01, hMl⟩ := bind_some hM
 refine impl_affineText_l1_ok a0 0 (⟨[]⟩ : Str) o01 ho01 (Imm.le.refl _) h hG (fun _ _ _ h => h) (fun _ _ h => h) ?_
 intro imm05 x1 heq1 le5
 subst o01
 replace h := h.mono le5
 replace hG := hG.mono le5
 replace hle := hle.trans le5
 refine T_block_here <| T_seq <| J_seq <| J_seq <| J_region <| R_z [1] [(42, .bool (a0.Const != 0))] <| T_seq ?_
 obtain ⟨o02, ho02, hMc1⟩ := bind_some hMl
 refine J_cut (fun imm' hs' m' => ∃ (x4 : Str), o02 = x4 ∧ imm05.le imm' ∧ hs' = [hB b1 [vT x4.l]] ∧ m' = [(3, vP b1 0)]) ?_ ?_
 · have hle01 := hle
   have hle : imm05.le imm05 := Imm.le.refl _
   refine J_cd ho02 ?_ ?_
   · intro hc3 hM
     refine J_seq <| J_region <| R_d 3 [1] [(43, .func (.func 35) ⟨[]⟩ ⟨[vP b1 0]⟩), (45, vI a0.Const)] ?_
     obtain ⟨y2, hy7, hM⟩ := bind_some hM
     refine R_callf (hs1 := [hB b1 [vT x1.l]]) (rest := [hB b [vS p a0.Coefs c, vI a0.Const]]) rfl rfl (by kernel_rfl) rfl rfl (impl_affineText_1_ok a0.Const x1 _ hy7 ) ?_
     rintro imm07 hs2 v2 k2 le6 - ⟨kk1, rfl, rfl, h3⟩ -
     replace h := h.mono le6
     replace hG := hG.mono le6
     replace hle := hle.trans le6
     obtain rfl := h3
     refine R_end rfl <| T_seq ?_
     obtain ⟨y3, hy8, hM⟩ := bind_some hM
     obtain ⟨s4, hy9, hM⟩ := bind_some hM
     refine J_any [.p (vT y2.l) [0], .p (vP b 1) [], .p (vI a0.Const) [1], .p (vP b 1) [], .p (vI a0.Const) [1], .p (vI (W (0 - a0.Const))) [], .p (vI (if (W (0 - a0.Const)) > a0.Const then (W (0 - a0.Const)) else a0.Const)) [], .q (vT y3.l), .q (vT s4.l)] [[], [], [(1, false)], [], [(3, false)], [(4, false)], [(2, false), (5, false)], [(6, false)], [(0, false), (7, false)]] [hB b1 [vT y2.l], hB b [vS p a0.Coefs c, vI a0.Const]] [] [(8, false)] (good_pick [0, 1] rfl (by decide)) ?_ ?_
     · refine Op <| Op <| Op <| Op <| Op <| Op <| Op <| Oq ?_ <| Oq ?_ <| On
       · intro imm1 hf le1
         refine Ins_cons ?_
         rintro _ _ ⟨rfl, rfl⟩
         refine Ins_nil <| R_isw (hB b1 [vT y2.l] :: hB b [vS p a0.Coefs c, vI a0.Const] :: hf) [(53, vI (if (W (0 - a0.Const)) > a0.Const then (W (0 - a0.Const)) else a0.Const))] ?_
         have hle := Imm.le.refl imm1
         replace h := h.mono le1
         replace hG := hG.mono le1
         refine R_call (hs1 := []) (rest := (hB b1 [vT y2.l] :: hB b [vS p a0.Coefs c, vI a0.Const] :: hf)) rfl rfl rfl rfl (by kernel_rfl) rfl rfl (strconv_Itoa_ok (if (W (0 - a0.Const)) > a0.Const then (W (0 - a0.Const)) else a0.Const) _ hy8 hG) ?_
         rintro imm08 hs2 v2 k2 le7 - ⟨v01, rfl, rfl, rfl⟩ -
         replace h := h.mono le7
         replace hG := hG.mono le7
         replace hle := hle.trans le7
         exact R_out (hx := []) rfl hle rfl (out_some rfl) ⟨rfl, rfl⟩
       · intro imm1 hf le1
         refine Ins_cons ?_
         rintro _ _ ⟨rfl, rfl⟩
         refine Ins_cons ?_
         rintro _ _ ⟨rfl, rfl⟩
         refine Ins_nil <| R_isw (hB b1 [vT y2.l] :: hB b [vS p a0.Coefs c, vI a0.Const] :: hf) [(47, vT y2.l), (54, vT y3.l)] ?_
         have hle := Imm.le.refl imm1
         exact R_ca rfl hy9 <| R_out (hx := []) rfl hle rfl (out_some rfl) ⟨rfl, rfl⟩
     · intro imm09 le8
       refine Ins_cons ?_
       rintro _ _ ⟨rfl, rfl⟩
       refine Ins_nil <| R_isw [hB b1 [vT y2.l], hB b [vS p a0.Coefs c, vI a0.Const]] [(3, vP b1 0), (55, vT s4.l)] ?_
       replace h := h.mono le8
       replace hG := hG.mono le8
       replace hle := hle.trans le8
       exact R_sb 0 [vT s4.l] [hB b1 [vT s4.l], hB b [vS p a0.Coefs c, vI a0.Const]] rfl rfl rfl rfl <| R_end rfl <| T_hs (good_pick [0] rfl (by decide)) <| T_w [(3, vP b1 0)] <| T_cut ⟨_, (pure_some hM).symm, hle, rfl, rfl⟩
   · intro hc3 hM
     exact J_skip <| T_hs (good_pick [0] rfl (by decide)) <| T_w [(3, vP b1 0)] <| T_cut ⟨_, (pure_some hM).symm, hle, rfl, rfl⟩
 · rintro imm06 hs2 m2 ⟨x4, heq2, le9, rfl, rfl⟩
   subst o02
   replace hG := hG.mono le9
   replace hle := hle.trans le9
   refine T_seq <| J_seq <| J_seq <| J_region <| R_z [0] [(57, .bool (x4.l == ([] : List UInt8)))] <| T_seq <| J_cd hMc1 ?_ ?_
   · intro hc4 hM
     refine J_seq <| J_region <| R_z [] [(2, vT ([48]))] <| T_seq <| J_ret <| T_then_ret ?_
     obtain rfl := pure_some hM
     exact T_RS ⟨_, _, (.tmp rfl ResV.nil), good_none, ⟨_, rfl, rfl, rfl⟩⟩
   · intro hc4 hM
     refine J_skip <| T_seq <| J_seq <| J_region <| R_z [0] [(2, vT x4.l)] <| T_seq <| J_ret ?_
     obtain rfl := pure_some hM
     exact T_RS ⟨_, _, (.tmp rfl ResV.nil), good_none, ⟨_, rfl, rfl, rfl⟩⟩
def impl_FormatAffine_post (r : Str) : Nat → Imm → List HA → Value → Prop := fun kk imm' hs' v =>
  ∃ (v0 : Value), hs' = [] ∧ v = tupV [v0] ∧ v0 = .string ⟨⟨r.l⟩⟩
def M.impl_FormatAffine (a0 : impl_Affine) : Option (Str) := do
 let y ← M.impl_AffineValid a0
 if (!y) then
  pure (⟨[]⟩ : Str)
 else
  let y1 ← M.impl_affineText a0
  pure (id y1)
theorem impl_FormatAffine_ok : ∀ (a0 : impl_Affine) r, M.impl_FormatAffine a0 = some r → ∀ {imm : Imm} {p : Option Addr} {c : Nat}, (SL imm (vS p a0.Coefs c) a0.Coefs) → (GH Tryd.prog imm) → Ret Tryd.prog 5 [vA [vS p a0.Coefs c, vI a0.Const]] imm [] (impl_FormatAffine_post  r) := by
 intro a0 r hM imm p c h hG
 unfold M.impl_FormatAffine at hM
 refine ret_of_J (fn := Tryd.f5) (c := (bodyOf Tryd.f5)) Tryd.func5 rfl rfl ?_
 rintro B - -
 have hle : imm.le imm := Imm.le.refl _
 refine J_seq <| J_region <| R_box (c := ⟨[vS p a0.Coefs c, vI a0.Const]⟩) rfl rfl rfl rfl rfl ?_
 intro b hb
 refine R_z [] [] <| T_seq <| J_seq <| J_seq <| J_region <| R_d 1 [0] [(3, vA [vS p a0.Coefs c, vI a0.Const])] ?_
 obtain ⟨y, hy, hM⟩ := bind_some hM
 refine R_call (hs1 := []) (rest := [hB b [vS p a0.Coefs c, vI a0.Const]]) rfl rfl rfl rfl (by kernel_rfl) rfl rfl (impl_AffineValid_ok a0 _ hy h) ?_
 rintro imm0 hs2 v2 k2 le - ⟨v0, rfl, rfl, rfl⟩ -
 replace h := h.mono le
 replace hG := hG.mono le
 replace hle := hle.trans le
 refine R_z [] [(5, .bool (!y))] <| T_seq <| J_cd hM ?_ ?_
 · intro hc hM
   refine J_seq <| J_region <| R_z [] [(2, vT ([]))] <| T_seq <| J_ret <| T_then_ret ?_
   obtain rfl := pure_some hM
   exact T_RS ⟨_, _, (.tmp rfl ResV.nil), good_none, ⟨_, rfl, rfl, rfl⟩⟩
 · intro hc hM
   refine J_skip <| T_seq <| J_seq <| J_region <| R_d 1 [0] [(6, vA [vS p a0.Coefs c, vI a0.Const])] ?_
   obtain ⟨y1, hy1, hM⟩ := bind_some hM
   refine R_call (hs1 := []) (rest := [hB b [vS p a0.Coefs c, vI a0.Const]]) rfl rfl rfl rfl (by kernel_rfl) rfl rfl (impl_affineText_ok a0 _ hy1 h hG) ?_
   rintro imm01 hs2 v2 k2 le1 - ⟨v01, rfl, rfl, rfl⟩ -
   replace h := h.mono le1
   replace hG := hG.mono le1
   replace hle := hle.trans le1
   refine R_z [] [(2, vT y1.l)] <| T_seq <| J_ret ?_
   obtain rfl := pure_some hM
   exact T_RS ⟨_, _, (.tmp rfl ResV.nil), good_none, ⟨_, rfl, rfl, rfl⟩⟩
def impl_constant_post (r : impl_Affine) : Nat → Imm → List HA → Value → Prop := fun kk imm' hs' v =>
  ∃ (a0_0 : Option Addr) (c0_0 : Nat) (s0_0 : List Value), hs' = [.osl (.slice a0_0 r.Coefs.length c0_0) (Rp.sz Int) s0_0] ∧ v = tupV [(.agg ⟨[.slice a0_0 r.Coefs.length c0_0, .int .i64 r.Const]⟩)] ∧ RepL (Rp.rep imm') (Rp.sz Int) s0_0 r.Coefs
def M.impl_constant (n0 : Int) : Option (impl_Affine) := do
 let l ← mkrow 8 4 (0 : Int)
 pure (impl_Affine.mk l n0)
theorem impl_constant_ok : ∀ (n0 : Int) r, M.impl_constant n0 = some r → ∀ {imm : Imm} , Ret Tryd.prog 15 [vI n0] imm [] (impl_constant_post  r) := by
 intro n0 r hM imm
 unfold M.impl_constant at hM
 refine ret_of_J (fn := Tryd.f15) (c := (bodyOf Tryd.f15)) Tryd.func15 rfl rfl ?_
 rintro B - -
 have hle : imm.le imm := Imm.le.refl _
 refine J_seq <| J_region <| R_alloc (c := ⟨[.slice none 0 0, vI 0]⟩) rfl rfl rfl (by kernel_rfl) ?_
 intro b hb
 refine R_end rfl <| T_seq <| J_seq <| J_region ?_
 obtain ⟨l, hy, hM⟩ := bind_some hM
 refine R_mk 8 [vI 0] rfl hy rfl ?_
 intro b1 cs h
 refine R_d 3 [] [(5, vA [vS (some ⟨b1, 0, none⟩) l l.length, vI n0])] <| R_sb 1 [vS (some ⟨b1, 0, none⟩) l l.length, vI n0] [hO Int (vS (some ⟨b1, 0, none⟩) l l.length) cs, hB b [vS (some ⟨b1, 0, none⟩) l l.length, vI n0]] rfl rfl rfl rfl <| R_end rfl <| T_seq <| J_ret ?_
 obtain rfl := pure_some hM
 exact T_RS ⟨_, _, (.cell 1 rfl rfl (by kernel_rfl) ResV.nil), (good_pick [0] rfl (by decide)), ⟨_, _, _, rfl, rfl, h⟩⟩
def strings_IndexAny_post (r : Int) : Nat → Imm → List HA → Value → Prop := fun kk imm' hs' v =>
  ∃ (v0 : Value), hs' = [] ∧ v = tupV [v0] ∧ v0 = .int .i64 r
def M.strings_IndexAny (s : Str) (chars : Str) : Option Int := if (s.l.length < 4294967281 ∧ chars.l.length < 4294967281) ∧ asc s.l = true ∧ asc chars.l = true then some (Lib.indexAny s.l chars.l) else none
theorem strings_IndexAny_ok : ∀ (s chars : Str) r, M.strings_IndexAny s chars = some r → ∀ {imm : Imm}, Ret Tryd.prog 16 [vT s.l, vT chars.l] imm [] (strings_IndexAny_post r) := by
 intro s chars r hM imm
 unfold M.strings_IndexAny at hM
 split at hM
 · rename_i hi
   cases hM
   exact ret_below (fun w g => Tryd.strings_IndexAny_laid ⟨⟨s.l⟩⟩ ⟨⟨chars.l⟩⟩ w hi.1.1 hi.1.2 (asc_at hi.2.1) (asc_at hi.2.2)) fun k => ⟨_, rfl, rfl, rfl⟩
 · cases hM
def strings_TrimLeft_post (r : Str) : Nat → Imm → List HA → Value → Prop := fun kk imm' hs' v =>
  ∃ (v0 : Value), hs' = [] ∧ v = tupV [v0] ∧ v0 = .string ⟨⟨r.l⟩⟩
def M.strings_TrimLeft (s : Str) (cutset : Str) : Option Str := if cutset.l.length < 4294967281 ∧ asc cutset.l = true then some ⟨Lib.trimLeftS s.l cutset.l⟩ else none
theorem strings_TrimLeft_ok : ∀ (s cutset : Str) r, M.strings_TrimLeft s cutset = some r → ∀ {imm : Imm}, Ret Tryd.prog 17 [vT s.l, vT cutset.l] imm [] (strings_TrimLeft_post r) := by
 intro s cutset r hM imm
 unfold M.strings_TrimLeft at hM
 split at hM
 · rename_i hi
   cases hM
   exact ret_below (fun w g => Tryd.strings_TrimLeft_laid ⟨⟨s.l⟩⟩ ⟨⟨cutset.l⟩⟩ w hi.1 (asc_at hi.2)) fun k => ⟨_, rfl, rfl, rfl⟩
 · cases hM
def internal_stringslite_HasSuffix_post (r : Bool) : Nat → Imm → List HA → Value → Prop := fun kk imm' hs' v =>
  ∃ (v0 : Value), hs' = [] ∧ v = tupV [v0] ∧ v0 = .bool r
def M.internal_stringslite_HasSuffix (s : Str) (suffix0 : Str) : Option (Bool) := do
 let t4 ← (do
   if (decide ((s.l.length : Int) ≥ (suffix0.l.length : Int))) then
    let s1 ← sslc s (W ((s.l.length : Int) - (suffix0.l.length : Int))) (s.l.length : Int)
    pure (s1.l == suffix0.l)
   else
    pure false
     : Option Bool)
 pure (id t4)
theorem internal_stringslite_HasSuffix_ok : ∀ (s : Str) (suffix0 : Str) r, M.internal_stringslite_HasSuffix s suffix0 = some r → ∀ {imm : Imm} , Ret Tryd.prog 62 [vT s.l, vT suffix0.l] imm [] (internal_stringslite_HasSuffix_post  r) := by
 intro s suffix0 r hM imm
 unfold M.internal_stringslite_HasSuffix at hM
 refine ret_of_J (fn := Tryd.f62) (c := (bodyOf Tryd.f62)) Tryd.func62 rfl rfl ?_
 rintro B - -
 have hle : imm.le imm := Imm.le.refl _
 refine J_seq <| J_region <| R_z [] [] <| T_seq <| J_seq ?_
 obtain ⟨o0, ho0, hMc⟩ := bind_some hM
 refine J_cut (fun imm' hs' m' => ∃ (t4 : Bool), o0 = t4 ∧ imm.le imm' ∧ hs' = [] ∧ m' = [(4, .bool t4)]) ?_ ?_
 · have hle0 := hle
   have hle : imm.le imm := Imm.le.refl _
   refine J_region <| R_d 6 [] [(10, .bool (decide ((s.l.length : Int) ≥ (suffix0.l.length : Int))))] ?_
   cases hc : (decide ((s.l.length : Int) ≥ (suffix0.l.length : Int))) with
   | true =>
    have hM0 := if_some_true hc ho0
    try rw [hc]
    refine R_d 12 [] [(11, vT s.l), (16, vI (W ((s.l.length : Int) - (suffix0.l.length : Int))))] ?_
    obtain ⟨s1, hy, hM⟩ := bind_some hM0
    exact R_ss rfl hy <| R_z [] [(4, .bool (s1.l == suffix0.l))] <| T_w [(4, .bool (s1.l == suffix0.l))] <| T_cut ⟨_, (pure_some hM).symm, hle, rfl, rfl⟩
   | false =>
    have hM01 := if_some_false hc ho0
    try rw [hc]
    exact R_z [] [(4, .bool false)] <| T_w [(4, .bool false)] <| T_cut ⟨_, (pure_some hM01).symm, hle, rfl, rfl⟩
 · rintro imm0 hs2 m2 ⟨t4, heq, le, rfl, rfl⟩
   subst o0
   replace hle := hle.trans le
   refine T_seq <| J_ret ?_
   obtain rfl := pure_some hMc
   exact T_RS ⟨_, _, (.tmp rfl ResV.nil), good_none, ⟨_, rfl, rfl, rfl⟩⟩
def internal_stringslite_TrimSuffix_post (r : Str) : Nat → Imm → List HA → Value → Prop := fun kk imm' hs' v =>
  ∃ (v0 : Value), hs' = [] ∧ v = tupV [v0] ∧ v0 = .string ⟨⟨r.l⟩⟩
def M.internal_stringslite_TrimSuffix (s : Str) (suffix0 : Str) : Option (Str) := do
 let y ← M.internal_stringslite_HasSuffix s suffix0
 if y then
  let s1 ← sslc s 0 (W ((s.l.length : Int) - (suffix0.l.length : Int)))
  pure (id s1)
 else
  pure (id s)
theorem internal_stringslite_TrimSuffix_ok : ∀ (s : Str) (suffix0 : Str) r, M.internal_stringslite_TrimSuffix s suffix0 = some r → ∀ {imm : Imm} , Ret Tryd.prog 44 [vT s.l, vT suffix0.l] imm [] (internal_stringslite_TrimSuffix_post  r) := by
 intro s suffix0 r hM imm
 unfold M.internal_stringslite_TrimSuffix at hM
 refine ret_of_J (fn := Tryd.f44) (c := (bodyOf Tryd.f44)) Tryd.func44 rfl rfl ?_
 rintro B - -
 have hle : imm.le imm := Imm.le.refl _
 refine J_seq <| J_region <| R_z [] [] <| T_seq <| J_seq <| J_seq <| J_region <| R_d 2 [] [(5, vT s.l), (6, vT suffix0.l)] ?_
 obtain ⟨y, hy, hM⟩ := bind_some hM
 refine R_call (hs1 := []) (rest := []) rfl rfl rfl rfl (by kernel_rfl) rfl rfl (internal_stringslite_HasSuffix_ok s suffix0 _ hy ) ?_
 rintro imm0 hs2 v2 k2 le - ⟨v0, rfl, rfl, rfl⟩ -
 replace hle := hle.trans le
 refine R_end rfl <| T_seq <| J_cd hM ?_ ?_
 · intro hc hM
   refine J_seq <| J_region <| R_d 6 [] [(8, vT s.l), (13, vI (W ((s.l.length : Int) - (suffix0.l.length : Int))))] ?_
   obtain ⟨s1, hy1, hM⟩ := bind_some hM
   refine R_ss rfl hy1 <| R_z [] [(4, vT s1.l)] <| T_seq <| J_ret <| T_then_ret ?_
   obtain rfl := pure_some hM
   exact T_RS ⟨_, _, (.tmp rfl ResV.nil), good_none, ⟨_, rfl, rfl, rfl⟩⟩
 · intro hc hM
   refine J_skip <| T_seq <| J_seq <| J_region <| R_z [] [(4, vT s.l)] <| T_seq <| J_ret ?_
   obtain rfl := pure_some hM
   exact T_RS ⟨_, _, (.tmp rfl ResV.nil), good_none, ⟨_, rfl, rfl, rfl⟩⟩
def strings_TrimSuffix_post (r : Str) : Nat → Imm → List HA → Value → Prop := fun kk imm' hs' v =>
  ∃ (v0 : Value), hs' = [] ∧ v = tupV [v0] ∧ v0 = .string ⟨⟨r.l⟩⟩
def M.strings_TrimSuffix (s : Str) (suffix0 : Str) : Option (Str) := do
 let y ← M.internal_stringslite_TrimSuffix s suffix0
 pure (id y)
theorem strings_TrimSuffix_ok : ∀ (s : Str) (suffix0 : Str) r, M.strings_TrimSuffix s suffix0 = some r → ∀ {imm : Imm} , Ret Tryd.prog 18 [vT s.l, vT suffix0.l] imm [] (strings_TrimSuffix_post  r) := by
 intro s suffix0 r hM imm
 unfold M.strings_TrimSuffix at hM
 refine ret_of_J (fn := Tryd.f18) (c := (bodyOf Tryd.f18)) Tryd.func18 rfl rfl ?_
 rintro B - -
 have hle : imm.le imm := Imm.le.refl _
 refine J_seq <| J_region <| R_z [] [] <| T_seq <| J_seq <| J_region <| R_d 2 [] [(5, vT s.l), (6, vT suffix0.l)] ?_
 obtain ⟨y, hy, hM⟩ := bind_some hM
 refine R_call (hs1 := []) (rest := []) rfl rfl rfl rfl (by kernel_rfl) rfl rfl (internal_stringslite_TrimSuffix_ok s suffix0 _ hy ) ?_
 rintro imm0 hs2 v2 k2 le - ⟨v0, rfl, rfl, rfl⟩ -
 replace hle := hle.trans le
 refine R_z [] [(4, vT y.l)] <| T_seq <| J_ret ?_
 obtain rfl := pure_some hM
 exact T_RS ⟨_, _, (.tmp rfl ResV.nil), good_none, ⟨_, rfl, rfl, rfl⟩⟩
def strconv_Atoi_post (r : Int × Bool) : Nat → Imm → List HA → Value → Prop := fun kk imm' hs' v =>
  ∃ (v0 v1 : Value), hs' = [] ∧ v = tupV [v0, v1] ∧ v0 = .int .i64 r.1 ∧ ErrV v1 r.2
def M.strconv_Atoi (s : Str) : Option (Int × Bool) := if s.l.length ≤ 281474976710656 then some (atoiM s) else none
theorem strconv_Atoi_ok : ∀ (s : Str) r, M.strconv_Atoi s = some r → ∀ {imm : Imm}, GH Tryd.prog imm → Ret Tryd.prog 19 [vT s.l] imm [] (strconv_Atoi_post r) := by
 intro s r hM imm hG
 unfold M.strconv_Atoi at hM
 split at hM
 · rename_i hi
   cases hM
   obtain ⟨g, hg, h1⟩ := hG.es
   obtain rfl : g = 1 := (Option.some.inj ((show Tryd.prog.globalNamed "strconv.ErrSyntax" = some 1 by kernel_rfl).symm.trans hg)).symm
   obtain ⟨g, hg, h2⟩ := hG.er
   obtain rfl : g = 2 := (Option.some.inj ((show Tryd.prog.globalNamed "strconv.ErrRange" = some 2 by kernel_rfl).symm.trans hg)).symm
   exact ret_atoi hi h1 h2 Tryd.strconv_Atoi_ok Tryd.strconv_Atoi_syntax Tryd.strconv_Atoi_range fun k v h => ⟨_, _, rfl, rfl, rfl, h⟩
 · cases hM
def strings_Index_post (r : Int) : Nat → Imm → List HA → Value → Prop := fun kk imm' hs' v =>
  ∃ (v0 : Value), hs' = [] ∧ v = tupV [v0] ∧ v0 = .int .i64 r
def M.strings_Index (s : Str) (substr : Str) : Option Int := if s.l.length < 4294967281 then some (Lib.index s.l substr.l) else none
theorem strings_Index_ok : ∀ (s substr : Str) r, M.strings_Index s substr = some r → ∀ {imm : Imm}, GH Tryd.prog imm → Ret Tryd.prog 20 [vT s.l, vT substr.l] imm [] (strings_Index_post r) := by
 intro s substr r hM imm hG
 unfold M.strings_Index at hM
 split at hM
 · rename_i hi
   cases hM
   obtain ⟨g, hg, m, hm⟩ := hG.ml
   obtain rfl : g = 0 := (Option.some.inj ((show Tryd.prog.globalNamed "internal/bytealg.MaxLen" = some 0 by kernel_rfl).symm.trans hg)).symm
   exact ret_below (fun w g => (Tryd.strings_Index ⟨⟨s.l⟩⟩ ⟨⟨substr.l⟩⟩ m w hi (g.cell hm)).mono fun e w' ⟨h1, h2⟩ => ⟨h1, h2 ▸ RowKit.Below.refl _ _⟩) fun k => ⟨_, rfl, rfl, rfl⟩
 · cases hM
def impl_ParseAffine_post (r : impl_Affine × Bool) : Nat → Imm → List HA → Value → Prop := fun kk imm' hs' v =>
  ∃ (v0 : Value) (v1 : Value), hs' = [] ∧ v = tupV [v0, v1] ∧ (∃ cs, v0 = .agg ⟨cs⟩ ∧ Rp.rep imm' cs r.1) ∧ v1 = .bool r.2
def M.impl_ParseAffine_l1 (rest : Str) (x : impl_Affine) (Coefs : List Int) (Const : Int) : Option (Out (impl_Affine × List Int × Int) (impl_Affine × Bool)) := do
 if (!(rest.l == ([] : List UInt8))) then
  let t30 ← (do
    let b2 ← sidx rest 0
    if ((b2.toNat : Int) == 43) then
     pure true
    else
     let b3 ← sidx rest 0
     pure ((b3.toNat : Int) == 45)
      : Option Bool)
  let (rest1, by0) ← (do
    if t30 then
     let b4 ← sidx rest 0
     let by01 ← (do
       if ((b4.toNat : Int) == 45) then
        pure (-1)
       else
        pure (id 1)
         : Option Int)
     let s ← sslc rest 1 (rest.l.length : Int)
     pure (s, by01)
    else
     pure (rest, 1)
      : Option (Str × Int))
  let y1 ← M.strings_IndexAny rest1 (⟨[43, 45]⟩ : Str)
  let end0 ← (do
    if (decide (y1 < 0)) then
     pure (rest1.l.length : Int)
    else
     pure (id y1)
      : Option Int)
  let s1 ← sslc rest1 0 end0
  let s2 ← sslc rest1 end0 (rest1.l.length : Int)
  let y2 ← M.strings_TrimLeft s1 (⟨[48, 49, 50, 51, 52, 53, 54, 55, 56, 57, 42]⟩ : Str)
  let y3 ← M.strings_TrimSuffix s1 y2
  let y4 ← M.strings_TrimSuffix y3 (⟨[42]⟩ : Str)
  match ← (do
    if (!(y4.l == ([] : List UInt8))) then
     let (y6, y7) ← M.strconv_Atoi y4
     let t66 ← (do
       if y7 then
        pure true
       else
        pure (decide (y6 > 1000))
         : Option Bool)
     if t66 then
      pure (.ret ((impl_Affine.mk ([] : List Int) 0), false))
     else
      pure (.done (y6, x))
    else
     pure (.done (1, x))
      : Option (Out (Int × impl_Affine) (impl_Affine × Bool))) with
  | .ret r0 => pure (.ret r0)
  | .done (n0, x2) =>
   let y8 ← M.strings_Index (⟨[105, 106, 107, 108]⟩ : Str) y2
   match ← (do
     if (y2.l == ([] : List UInt8)) then
      pure (.done (x2, Coefs, (W (Const + (W (by0 * n0))))))
     else
      let t82 ← (do
        if ((y2.l.length : Int) == 1) then
         pure (decide (y8 ≥ 0))
        else
         pure false
          : Option Bool)
      if t82 then
       let x4 ← idx Coefs y8
       let x5 ← idx Coefs y8
       let l ← pure (Coefs.set y8.toNat (W (x4 + (W (by0 * n0)))))
       pure (.done (x2, l, Const))
      else
       pure (.ret ((impl_Affine.mk ([] : List Int) 0), false))
       : Option (Out (impl_Affine × List Int × Int) (impl_Affine × Bool))) with
   | .ret r0 => pure (.ret r0)
   | .done (x3, Coefs2, Const2) =>
    M.impl_ParseAffine_l1 s2 x3 Coefs2 Const2
 else
  pure (.done (x, Coefs, Const))
 partial_fixpoint
theorem impl_ParseAffine_l1_ok  : ∀ (rest : Str) (x : impl_Affine) (Coefs : List Int) (Const : Int) (o : Out (impl_Affine × List Int × Int) (impl_Affine × Bool)), M.impl_ParseAffine_l1 rest x Coefs Const = some o → ∀ {B : Base} {imm0 imm : Imm} {Q : Exit → Act → World → Prop} {text : Str} {b : Nat} {b1 : Nat} {p1 : Option Addr} {c1 : Nat} {p2 : Option Addr} {c2 : Nat} {cs1 : List Value}, imm0.le imm → (GH Tryd.prog imm) → (SL imm (vS p1 x.Coefs c1) x.Coefs) → (RL imm cs1 Coefs) → (∀ l a w, ¬ Q (.goto l) a w) → (∀ a w, ¬ Q .outgrown a w) → (∀ (imm' : Imm) (x1 : impl_Affine) (Coefs1 : List Int) (Const1 : Int) (p3 : Option Addr) (c3 : Nat) (p4 : Option Addr) (c4 : Nat) (cs2 : List Value), o = (.done (x1, Coefs1, Const1)) → imm0.le imm' → (SL imm' (vS p3 x1.Coefs c3) x1.Coefs) → (RL imm' cs2 Coefs1) → T 111 B Q (.exit 0) imm' [hB b1 [vS p4 Coefs1 c4, vI Const1], hO Int (vS p4 Coefs1 c4) cs2, hB b [vS p3 x1.Coefs c3, vI x1.Const]] [(0, vT text.l), (2, vP b 0), (4, vP b1 0)]) → (∀ r imm' hs' m', o = (.ret r) → imm0.le imm' → RS Tryd.prog Tryd.f6 B (impl_ParseAffine_post  r) imm' hs' m' → T 111 B Q .ret imm' hs' m') → J Tryd.prog 111 B (nav (bodyOf Tryd.f6) [1, 1, 1, 0, 1, 0]) Q imm [hB b1 [vS p2 Coefs c2, vI Const], hO Int (vS p2 Coefs c2) cs1, hB b [vS p1 x.Coefs c1, vI x.Const]] [(0, vT text.l), (2, vP b 0), (4, vP b1 0), (5, vT rest.l)] := by
 refine M.impl_ParseAffine_l1.partial_correctness  _ ?_
 intro self ih rest x Coefs Const o hM B imm0 imm Q text b b1 p1 c1 p2 c2 cs1 hle hG h1 h2 hg ho hx hr
 refine J_loop hg ho <| J_seq <| J_seq <| J_region <| R_z [] [(22, .bool (!(rest.l == ([] : List UInt8))))] <| T_seq <| J_cd hM ?_ ?_
 · intro hc1 hM
   refine J_skip <| T_seq <| J_block <| J_seq <| J_region <| R_z [] [(6, vI 1)] <| T_seq <| J_seq <| J_seq ?_
   obtain ⟨o0, ho0, hMc⟩ := bind_some hM
   refine J_cut (fun imm' hs' m' => ∃ (t30 : Bool), o0 = t30 ∧ imm.le imm' ∧ hs' = [hB b1 [vS p2 Coefs c2, vI Const], hO Int (vS p2 Coefs c2) cs1, hB b [vS p1 x.Coefs c1, vI x.Const]] ∧ m' = [(0, vT text.l), (2, vP b 0), (4, vP b1 0), (5, vT rest.l), (6, vI 1), (30, .bool t30)]) ?_ ?_
   · have hle0 := hle
     have hle : imm.le imm := Imm.le.refl _
     refine J_region <| R_d 1 [] [(23, vT rest.l)] ?_
     obtain ⟨b2, hy1, hM⟩ := bind_some ho0
     refine R_si rfl rfl hy1 <| R_d 4 [] [(26, .bool ((b2.toNat : Int) == 43))] ?_
     cases hc2 : ((b2.toNat : Int) == 43) with
     | true =>
      have hM0 := if_some_true hc2 hM
      try rw [hc2]
      exact R_z [] [(30, .bool true)] <| T_w [(0, vT text.l), (2, vP b 0), (4, vP b1 0), (5, vT rest.l), (6, vI 1), (30, .bool true)] <| T_cut ⟨_, (pure_some hM0).symm, hle, rfl, rfl⟩
     | false =>
      have hM01 := if_some_false hc2 hM
      try rw [hc2]
      refine R_d 5 [] [(27, vT rest.l)] ?_
      obtain ⟨b3, hy2, hM⟩ := bind_some hM01
      exact R_si rfl rfl hy2 <| R_z [] [(30, .bool ((b3.toNat : Int) == 45))] <| T_w [(0, vT text.l), (2, vP b 0), (4, vP b1 0), (5, vT rest.l), (6, vI 1), (30, .bool ((b3.toNat : Int) == 45))] <| T_cut ⟨_, (pure_some hM).symm, hle, rfl, rfl⟩
   · rintro imm01 hs2 m2 ⟨t30, heq, le1, rfl, rfl⟩
     subst o0
     replace h2 := RepL.mono (fun _ _ => Rp.mono le1) h2
     replace h1 := h1.mono le1
     replace hG := hG.mono le1
     replace hle := hle.trans le1
     refine T_seq ?_
     obtain ⟨o01, ho01, hMc1⟩ := bind_some hMc
     refine J_cut (fun imm' hs' m' => ∃ (rest1 : Str) (by0 : Int), o01 = (rest1, by0) ∧ imm01.le imm' ∧ hs' = [hB b1 [vS p2 Coefs c2, vI Const], hO Int (vS p2 Coefs c2) cs1, hB b [vS p1 x.Coefs c1, vI x.Const]] ∧ m' = [(0, vT text.l), (2, vP b 0), (4, vP b1 0), (5, vT rest1.l), (6, vI by0)]) ?_ ?_
     · have hle01 := hle
       have hle : imm01.le imm01 := Imm.le.refl _
       refine J_cd ho01 ?_ ?_
       · intro hc3 hM
         refine J_seq <| J_seq <| J_region <| R_d 1 [] [(31, vT rest.l)] ?_
         obtain ⟨b4, hy3, hM⟩ := bind_some hM
         refine R_si rfl rfl hy3 <| R_z [] [(33, .bool ((b4.toNat : Int) == 45))] <| T_seq ?_
         obtain ⟨o02, ho02, hMc2⟩ := bind_some hM
         refine J_cut (fun imm' hs' m' => ∃ (by01 : Int), o02 = by01 ∧ imm01.le imm' ∧ hs' = [hB b1 [vS p2 Coefs c2, vI Const], hO Int (vS p2 Coefs c2) cs1, hB b [vS p1 x.Coefs c1, vI x.Const]] ∧ m' = [(0, vT text.l), (2, vP b 0), (4, vP b1 0), (5, vT rest.l), (6, vI by01)]) ?_ ?_
         · have hle02 := hle
           have hle : imm01.le imm01 := Imm.le.refl _
           refine J_cd ho02 ?_ ?_
           · intro hc4 hM
             exact J_region <| R_z [] [(6, vI (-1))] <| T_w [(0, vT text.l), (2, vP b 0), (4, vP b1 0), (5, vT rest.l), (6, vI (-1))] <| T_cut ⟨_, (pure_some hM).symm, hle, rfl, rfl⟩
           · intro hc4 hM
             exact J_skip <| T_w [(0, vT text.l), (2, vP b 0), (4, vP b1 0), (5, vT rest.l), (6, vI 1)] <| T_cut ⟨_, (pure_some hM).symm, hle, rfl, rfl⟩
         · rintro imm03 hs2 m2 ⟨by01, heq1, le2, rfl, rfl⟩
           subst o02
           replace h2 := RepL.mono (fun _ _ => Rp.mono le2) h2
           replace h1 := h1.mono le2
           replace hG := hG.mono le2
           replace hle := hle.trans le2
           refine T_seq <| J_region <| R_d 1 [] [(34, vT rest.l)] ?_
           obtain ⟨s, hy4, hM⟩ := bind_some hMc2
           exact R_ss rfl hy4 <| R_z [] [(5, vT s.l)] <| T_w [(0, vT text.l), (2, vP b 0), (4, vP b1 0), (5, vT s.l), (6, vI by01)] <| T_cut ⟨_, _, (pure_some hM).symm, hle, rfl, rfl⟩
       · intro hc3 hM
         exact J_skip <| T_w [(0, vT text.l), (2, vP b 0), (4, vP b1 0), (5, vT rest.l), (6, vI 1)] <| T_cut ⟨_, _, (pure_some hM).symm, hle, rfl, rfl⟩
     · rintro imm02 hs2 m2 ⟨rest1, by0, heq2, le3, rfl, rfl⟩
       subst o01
       replace h2 := RepL.mono (fun _ _ => Rp.mono le3) h2
       replace h1 := h1.mono le3
       replace hG := hG.mono le3
       replace hle := hle.trans le3
       refine T_seq <| J_seq <| J_region <| R_d 1 [] [(36, vT rest1.l)] ?_
       obtain ⟨y1, hy5, hM⟩ := bind_some hMc1
       refine R_call (hs1 := []) (rest := [hB b1 [vS p2 Coefs c2, vI Const], hO Int (vS p2 Coefs c2) cs1, hB b [vS p1 x.Coefs c1, vI x.Const]]) rfl rfl rfl rfl (by kernel_rfl) rfl rfl (strings_IndexAny_ok rest1 (⟨[43, 45]⟩ : Str) _ hy5 ) ?_
       rintro imm04 hs2 v2 k2 le4 - ⟨v0, rfl, rfl, rfl⟩ -
       replace h2 := RepL.mono (fun _ _ => Rp.mono le4) h2
       replace h1 := h1.mono le4
       replace hG := hG.mono le4
       replace hle := hle.trans le4
       refine R_z [] [(7, vI y1)] <| T_seq <| J_seq <| J_seq <| J_region <| R_z [] [(39, .bool (decide (y1 < 0)))] <| T_seq ?_
       obtain ⟨o03, ho03, hMc3⟩ := bind_some hM
       refine J_cut (fun imm' hs' m' => ∃ (end0 : Int), o03 = end0 ∧ imm04.le imm' ∧ hs' = [hB b1 [vS p2 Coefs c2, vI Const], hO Int (vS p2 Coefs c2) cs1, hB b [vS p1 x.Coefs c1, vI x.Const]] ∧ m' = [(0, vT text.l), (2, vP b 0), (4, vP b1 0), (5, vT rest1.l), (6, vI by0), (7, vI end0)]) ?_ ?_
       · have hle03 := hle
         have hle : imm04.le imm04 := Imm.le.refl _
         refine J_cd ho03 ?_ ?_
         · intro hc5 hM
           exact J_region <| R_z [] [(7, vI (rest1.l.length : Int))] <| T_w [(0, vT text.l), (2, vP b 0), (4, vP b1 0), (5, vT rest1.l), (6, vI by0), (7, vI (rest1.l.length : Int))] <| T_cut ⟨_, (pure_some hM).symm, hle, rfl, rfl⟩
         · intro hc5 hM
           exact J_skip <| T_w [(0, vT text.l), (2, vP b 0), (4, vP b1 0), (5, vT rest1.l), (6, vI by0), (7, vI y1)] <| T_cut ⟨_, (pure_some hM).symm, hle, rfl, rfl⟩
       · rintro imm05 hs2 m2 ⟨end0, heq3, le5, rfl, rfl⟩
         subst o03
         replace h2 := RepL.mono (fun _ _ => Rp.mono le5) h2
         replace h1 := h1.mono le5
         replace hG := hG.mono le5
         replace hle := hle.trans le5
         refine T_seq <| J_seq <| J_region <| R_d 2 [] [(42, vT rest1.l), (43, vI end0)] ?_
         obtain ⟨s1, hy6, hM⟩ := bind_some hMc3
         refine R_ss rfl hy6 <| R_z [] [(8, vT s1.l)] <| T_seq <| J_seq <| J_region <| R_d 2 [] [(45, vT rest1.l), (46, vI end0)] ?_
         obtain ⟨s2, hy7, hM⟩ := bind_some hM
         refine R_ss rfl hy7 <| R_z [] [(5, vT s2.l)] <| T_seq <| J_seq <| J_region <| R_d 1 [] [(48, vT s1.l)] ?_
         obtain ⟨y2, hy8, hM⟩ := bind_some hM
         refine R_call (hs1 := []) (rest := [hB b1 [vS p2 Coefs c2, vI Const], hO Int (vS p2 Coefs c2) cs1, hB b [vS p1 x.Coefs c1, vI x.Const]]) rfl rfl rfl rfl (by kernel_rfl) rfl rfl (strings_TrimLeft_ok s1 (⟨[48, 49, 50, 51, 52, 53, 54, 55, 56, 57, 42]⟩ : Str) _ hy8 ) ?_
         rintro imm06 hs2 v2 k2 le6 - ⟨v01, rfl, rfl, rfl⟩ -
         replace h2 := RepL.mono (fun _ _ => Rp.mono le6) h2
         replace h1 := h1.mono le6
         replace hG := hG.mono le6
         replace hle := hle.trans le6
         refine R_z [] [(9, vT y2.l)] <| T_seq <| J_seq <| J_region <| R_z [] [(10, vI 1)] <| T_seq <| J_seq <| J_seq <| J_region <| R_d 2 [] [(50, vT s1.l), (51, vT y2.l)] ?_
         obtain ⟨y3, hy9, hM⟩ := bind_some hM
         refine R_call (hs1 := []) (rest := [hB b1 [vS p2 Coefs c2, vI Const], hO Int (vS p2 Coefs c2) cs1, hB b [vS p1 x.Coefs c1, vI x.Const]]) rfl rfl rfl rfl (by kernel_rfl) rfl rfl (strings_TrimSuffix_ok s1 y2 _ hy9 ) ?_
         rintro imm07 hs2 v2 k2 le7 - ⟨v02, rfl, rfl, rfl⟩ -
         replace h2 := RepL.mono (fun _ _ => Rp.mono le7) h2
         replace h1 := h1.mono le7
         replace hG := hG.mono le7
         replace hle := hle.trans le7
         obtain ⟨y4, hy10, hM⟩ := bind_some hM
         refine R_call (hs1 := []) (rest := [hB b1 [vS p2 Coefs c2, vI Const], hO Int (vS p2 Coefs c2) cs1, hB b [vS p1 x.Coefs c1, vI x.Const]]) rfl rfl rfl rfl (by kernel_rfl) rfl rfl (strings_TrimSuffix_ok y3 (⟨[42]⟩ : Str) _ hy10 ) ?_
         rintro imm08 hs2 v2 k2 le8 - ⟨v03, rfl, rfl, rfl⟩ -
         replace h2 := RepL.mono (fun _ _ => Rp.mono le8) h2
         replace h1 := h1.mono le8
         replace hG := hG.mono le8
         replace hle := hle.trans le8
         refine R_z [] [(11, vT y4.l)] <| T_seq <| J_seq <| J_region <| R_z [] [(55, .bool (!(y4.l == ([] : List UInt8))))] <| T_seq ?_
         obtain ⟨o04, ho04, hMc4⟩ := bind_some hM
         refine J_cut (fun imm' hs' m' => ∃ (n0 : Int) (x2 : impl_Affine) (p5 : Option Addr) (c5 : Nat), o04 = .done (n0, x2) ∧ imm08.le imm' ∧ (SL imm' (vS p5 x2.Coefs c5) x2.Coefs) ∧ hs' = [hB b1 [vS p2 Coefs c2, vI Const], hO Int (vS p2 Coefs c2) cs1, hB b [vS p5 x2.Coefs c5, vI x2.Const]] ∧ m' = [(0, vT text.l), (2, vP b 0), (4, vP b1 0), (5, vT s2.l), (6, vI by0), (9, vT y2.l), (10, vI n0)]) ?_ ?_
         · have hle04 := hle
           have hle : imm08.le imm08 := Imm.le.refl _
           refine J_cd ho04 ?_ ?_
           · intro hc6 hM
             refine J_seq <| J_region <| R_d 1 [] [(57, vT y4.l)] ?_
             obtain ⟨⟨y6, y7⟩, hy11, hM⟩ := bind_some hM
             refine R_call (hs1 := []) (rest := [hB b1 [vS p2 Coefs c2, vI Const], hO Int (vS p2 Coefs c2) cs1, hB b [vS p1 x.Coefs c1, vI x.Const]]) rfl rfl rfl rfl (by kernel_rfl) rfl rfl (strconv_Atoi_ok y4 _ hy11 hG) ?_
             rintro imm010 hs2 v2 k2 le9 - ⟨v04, v05, rfl, rfl, rfl, h11⟩ -
             replace h2 := RepL.mono (fun _ _ => Rp.mono le9) h2
             replace h1 := h1.mono le9
             replace hG := hG.mono le9
             replace hle := hle.trans le9
             refine R_z [] [(12, vI y6), (13, v05)] <| T_seq <| J_seq <| J_seq ?_
             obtain ⟨o05, ho05, hMc5⟩ := bind_some hM
             refine J_cut (fun imm' hs' m' => ∃ (t66 : Bool), o05 = t66 ∧ imm010.le imm' ∧ hs' = [hB b1 [vS p2 Coefs c2, vI Const], hO Int (vS p2 Coefs c2) cs1, hB b [vS p1 x.Coefs c1, vI x.Const]] ∧ m' = [(0, vT text.l), (2, vP b 0), (4, vP b1 0), (5, vT s2.l), (6, vI by0), (9, vT y2.l), (12, vI y6), (66, .bool t66)]) ?_ ?_
             · have hle05 := hle
               have hle : imm010.le imm010 := Imm.le.refl _
               refine J_region <| R_d 1 [] [(61, v05)] <| R_ne h11 rfl <| R_d 3 [] [(63, .bool y7)] ?_
               cases hc7 : y7 with
               | true =>
                have hM02 := if_some_true hc7 ho05
                try rw [hc7]
                exact R_z [] [(66, .bool true)] <| T_w [(0, vT text.l), (2, vP b 0), (4, vP b1 0), (5, vT s2.l), (6, vI by0), (9, vT y2.l), (12, vI y6), (66, .bool true)] <| T_cut ⟨_, (pure_some hM02).symm, hle, rfl, rfl⟩
               | false =>
                have hM03 := if_some_false hc7 ho05
                try rw [hc7]
                exact R_z [] [(66, .bool (decide (y6 > 1000)))] <| T_w [(0, vT text.l), (2, vP b 0), (4, vP b1 0), (5, vT s2.l), (6, vI by0), (9, vT y2.l), (12, vI y6), (66, .bool (decide (y6 > 1000)))] <| T_cut ⟨_, (pure_some hM03).symm, hle, rfl, rfl⟩
             · rintro imm011 hs2 m2 ⟨t66, heq4, le10, rfl, rfl⟩
               subst o05
               replace h2 := RepL.mono (fun _ _ => Rp.mono le10) h2
               replace h1 := h1.mono le10
               replace hG := hG.mono le10
               replace hle := hle.trans le10
               refine T_seq <| J_cd hMc5 ?_ ?_
               · intro hc8 hM
                 refine J_seq <| J_region <| R_d 1 [] [(67, vA [.slice none 0 0, vI 0])] <| R_sb 2 [.slice none 0 0, vI 0] [hB b1 [vS p2 Coefs c2, vI Const], hO Int (vS p2 Coefs c2) cs1, hB b [.slice none 0 0, vI 0]] rfl rfl rfl rfl <| R_z [] [(3, .bool false)] <| T_seq <| J_ret <| T_then_ret <| T_then_ret <| T_then_ret <| T_block_ret <| T_then_ret ?_
                 obtain rfl := pure_some hM
                 exact hr _ _ _ _ (pure_some hMc4).symm (hle04.trans hle) ⟨_, _, (.cell 2 rfl rfl (by kernel_rfl) (.tmp rfl ResV.nil)), good_none, ⟨_, _, rfl, rfl, ⟨_, rfl, (impl_Affine_shut ⟨_, rfl, (SL.nil _)⟩)⟩, rfl⟩⟩
               · intro hc8 hM
                 exact J_skip <| T_seq <| J_region <| R_z [] [(10, vI y6)] <| T_w [(0, vT text.l), (2, vP b 0), (4, vP b1 0), (5, vT s2.l), (6, vI by0), (9, vT y2.l), (10, vI y6)] <| T_cut ⟨_, _, _, _, (pure_some hM).symm, hle, h1, rfl, rfl⟩
           · intro hc6 hM
             exact J_skip <| T_w [(0, vT text.l), (2, vP b 0), (4, vP b1 0), (5, vT s2.l), (6, vI by0), (9, vT y2.l), (10, vI 1)] <| T_cut ⟨_, _, _, _, (pure_some hM).symm, hle, h1, rfl, rfl⟩
         · rintro imm09 hs2 m2 ⟨n0, x2, p5, c5, heq5, le11, h9, rfl, rfl⟩
           subst o04
           replace h2 := RepL.mono (fun _ _ => Rp.mono le11) h2
           replace hG := hG.mono le11
           replace hle := hle.trans le11
           refine T_seq <| J_seq <| J_region <| R_d 1 [] [(69, vT y2.l)] ?_
           obtain ⟨y8, hy12, hM⟩ := bind_some hMc4
           refine R_call (hs1 := []) (rest := [hB b1 [vS p2 Coefs c2, vI Const], hO Int (vS p2 Coefs c2) cs1, hB b [vS p5 x2.Coefs c5, vI x2.Const]]) rfl rfl rfl rfl (by kernel_rfl) rfl rfl (strings_Index_ok (⟨[105, 106, 107, 108]⟩ : Str) y2 _ hy12 hG) ?_
           rintro imm012 hs2 v2 k2 le12 - ⟨v06, rfl, rfl, rfl⟩ -
           replace h2 := RepL.mono (fun _ _ => Rp.mono le12) h2
           replace h9 := h9.mono le12
           replace hG := hG.mono le12
           replace hle := hle.trans le12
           refine R_z [] [(14, vI y8)] <| T_seq <| J_block <| J_seq <| J_region <| R_z [] [(72, .bool (y2.l == ([] : List UInt8)))] <| T_seq ?_
           obtain ⟨o06, ho06, hMc6⟩ := bind_some hM
           refine J_cut (fun imm' hs' m' => ∃ (x3 : impl_Affine) (Coefs2 : List Int) (Const2 : Int) (p6 : Option Addr) (c6 : Nat) (p7 : Option Addr) (c7 : Nat) (cs3 : List Value), o06 = .done (x3, Coefs2, Const2) ∧ imm012.le imm' ∧ (SL imm' (vS p6 x3.Coefs c6) x3.Coefs) ∧ (RL imm' cs3 Coefs2) ∧ hs' = [hB b1 [vS p7 Coefs2 c7, vI Const2], hO Int (vS p7 Coefs2 c7) cs3, hB b [vS p6 x3.Coefs c6, vI x3.Const]] ∧ m' = [(0, vT text.l), (2, vP b 0), (4, vP b1 0), (5, vT s2.l)]) ?_ ?_
           · have hle06 := hle
             have hle : imm012.le imm012 := Imm.le.refl _
             refine J_cd ho06 ?_ ?_
             · intro hc9 hM
               exact J_region <| R_d 7 [0] [(80, vI (W (Const + (W (by0 * n0))))), (81, vP b1 1)] <| R_sb 0 [vS p2 Coefs c2, vI (W (Const + (W (by0 * n0))))] [hB b1 [vS p2 Coefs c2, vI (W (Const + (W (by0 * n0))))], hO Int (vS p2 Coefs c2) cs1, hB b [vS p5 x2.Coefs c5, vI x2.Const]] rfl rfl rfl rfl <| R_end rfl <| T_w [(0, vT text.l), (2, vP b 0), (4, vP b1 0), (5, vT s2.l)] <| T_cut ⟨_, _, _, _, _, _, _, _, (pure_some hM).symm, hle, h9, h2, rfl, rfl⟩
             · intro hc9 hM
               refine J_seq ?_
               obtain ⟨o07, ho07, hMc7⟩ := bind_some hM
               refine J_cut (fun imm' hs' m' => ∃ (t82 : Bool), o07 = t82 ∧ imm012.le imm' ∧ hs' = [hB b1 [vS p2 Coefs c2, vI Const], hO Int (vS p2 Coefs c2) cs1, hB b [vS p5 x2.Coefs c5, vI x2.Const]] ∧ m' = [(0, vT text.l), (2, vP b 0), (4, vP b1 0), (5, vT s2.l), (6, vI by0), (10, vI n0), (14, vI y8), (82, .bool t82)]) ?_ ?_
               · have hle07 := hle
                 have hle : imm012.le imm012 := Imm.le.refl _
                 refine J_region <| R_d 4 [] [(86, .bool ((y2.l.length : Int) == 1))] ?_
                 cases hc10 : ((y2.l.length : Int) == 1) with
                 | true =>
                  have hM04 := if_some_true hc10 ho07
                  try rw [hc10]
                  exact R_z [] [(82, .bool (decide (y8 ≥ 0)))] <| T_w [(0, vT text.l), (2, vP b 0), (4, vP b1 0), (5, vT s2.l), (6, vI by0), (10, vI n0), (14, vI y8), (82, .bool (decide (y8 ≥ 0)))] <| T_cut ⟨_, (pure_some hM04).symm, hle, rfl, rfl⟩
                 | false =>
                  have hM05 := if_some_false hc10 ho07
                  try rw [hc10]
                  exact R_z [] [(82, .bool false)] <| T_w [(0, vT text.l), (2, vP b 0), (4, vP b1 0), (5, vT s2.l), (6, vI by0), (10, vI n0), (14, vI y8), (82, .bool false)] <| T_cut ⟨_, (pure_some hM05).symm, hle, rfl, rfl⟩
               · rintro imm014 hs2 m2 ⟨t82, heq6, le13, rfl, rfl⟩
                 subst o07
                 replace h2 := RepL.mono (fun _ _ => Rp.mono le13) h2
                 replace h9 := h9.mono le13
                 replace hG := hG.mono le13
                 replace hle := hle.trans le13
                 refine T_seq <| J_cd hMc7 ?_ ?_
                 · intro hc11 hM
                   refine J_region <| R_d 3 [0] [(91, vS p2 Coefs c2), (92, vI y8)] ?_
                   obtain ⟨x4, hy13, hM⟩ := bind_some hM
                   refine R_ixo 1 rfl rfl rfl h2 hy13 ?_
                   intro ad ccs hat hcc hrep
                   obtain rfl := hrep
                   refine R_lo 1 0 hat hcc [vI x4] (vI x4) rfl rfl <| R_d 9 [] [(98, vI (W (x4 + (W (by0 * n0)))))] ?_
                   obtain ⟨x5, hy14, hM⟩ := bind_some hM
                   refine R_ixo 1 rfl rfl rfl h2 hy14 ?_
                   intro ad1 ccs1 hat1 hcc1 hrep1
                   obtain rfl := hrep1
                   obtain ⟨l, hy15, hM⟩ := bind_some hM
                   refine R_store_el (c := [vI (W (x4 + (W (by0 * n0))))]) (x' := (W (x4 + (W (by0 * n0))))) 1 0 rfl rfl rfl hat1 rfl rfl hcc1 (by kernel_rfl) (by kernel_rfl) (by kernel_rfl) h2 hy14 (by kernel_rfl) rfl ?_
                   rw [show Coefs.set y8.toNat (W (x4 + (W (by0 * n0)))) = l from pure_some hy15]
                   intro cs4 h15 hl0
                   exact R_weaken (m' := [(0, vT text.l), (2, vP b 0), (4, vP b1 0), (5, vT s2.l), (91, vS p2 Coefs c2), (92, vI y8), (98, vI (W (x4 + (W (by0 * n0)))))]) ⟨rfl, rfl, rfl, rfl, rfl, rfl, rfl, trivial⟩ <| R_conv (hs' := [hB b1 [vS p2 l c2, vI Const], hO Int (vS p2 l c2) cs4, hB b [vS p5 x2.Coefs c5, vI x2.Const]]) (m' := [(0, vT text.l), (2, vP b 0), (4, vP b1 0), (5, vT s2.l), (91, vS p2 l c2), (92, vI y8), (98, vI (W (x4 + (W (by0 * n0)))))]) (by first | rfl | simp only [vS, hl0, List.nil_append, List.cons_append, List.set_cons_zero, List.set_cons_succ]) (by first | rfl | simp only [vS, hl0]) <| R_end rfl <| T_w [(0, vT text.l), (2, vP b 0), (4, vP b1 0), (5, vT s2.l)] <| T_cut ⟨_, _, _, _, _, _, _, _, (pure_some hM).symm, hle, h9, h15, rfl, rfl⟩
                 · intro hc11 hM
                   refine J_seq <| J_region <| R_d 1 [] [(71, vA [.slice none 0 0, vI 0])] <| R_sb 2 [.slice none 0 0, vI 0] [hB b1 [vS p2 Coefs c2, vI Const], hO Int (vS p2 Coefs c2) cs1, hB b [.slice none 0 0, vI 0]] rfl rfl rfl rfl <| R_z [] [(3, .bool false)] <| T_seq <| J_ret <| T_then_ret <| T_block_ret <| T_block_ret <| T_then_ret ?_
                   obtain rfl := pure_some hM
                   exact hr _ _ _ _ (pure_some hMc6).symm (hle06.trans hle) ⟨_, _, (.cell 2 rfl rfl (by kernel_rfl) (.tmp rfl ResV.nil)), good_none, ⟨_, _, rfl, rfl, ⟨_, rfl, (impl_Affine_shut ⟨_, rfl, (SL.nil _)⟩)⟩, rfl⟩⟩
           · rintro imm013 hs2 m2 ⟨x3, Coefs2, Const2, p6, c6, p7, c7, cs3, heq7, le14, h13, h14, rfl, rfl⟩
             subst o06
             replace hG := hG.mono le14
             replace hle := hle.trans le14
             exact T_block_normal <| T_block_normal <| T_loop <| J_w [(0, vT text.l), (2, vP b 0), (4, vP b1 0), (5, vT s2.l)] <| ih s2 x3 Coefs2 Const2 _ hMc6 hle hG h13 h14 hg ho hx hr
 · intro hc1 hM
   exact J_exit <| T_then_exit <| T_then_exit <| T_w [(0, vT text.l), (2, vP b 0), (4, vP b1 0)] <| hx _ _ _ _ _ _ _ _ _ (pure_some hM).symm hle h1 h2
def M.impl_ParseAffine (text : Str) : Option (impl_Affine × Bool) := do
 let y ← M.impl_constant 0
 if (decide ((text.l.length : Int) > 100)) then
  pure ((impl_Affine.mk ([] : List Int) 0), false)
 else
  match ← M.impl_ParseAffine_l1 text (impl_Affine.mk ([] : List Int) 0) y.Coefs y.Const with
  | .ret r0 => pure r0
  | .done (x1, Coefs1, Const1) =>
   let t108 ← (do
     let y9 ← M.impl_AffineValid (impl_Affine.mk Coefs1 Const1)
     if (!y9) then
      pure true
     else
      let y10 ← M.impl_affineText (impl_Affine.mk Coefs1 Const1)
      pure (!(y10.l == text.l))
       : Option Bool)
   if t108 then
    pure ((impl_Affine.mk ([] : List Int) 0), false)
   else
    pure ((impl_Affine.mk Coefs1 Const1), true)
theorem impl_ParseAffine_ok : ∀ (text : Str) r, M.impl_ParseAffine text = some r → ∀ {imm : Imm} , (GH Tryd.prog imm) → Ret Tryd.prog 6 [vT text.l] imm [] (impl_ParseAffine_post  r) := by
 intro text r hM imm  hG
 unfold M.impl_ParseAffine at hM
 refine ret_of_J (fn := Tryd.f6) (c := (bodyOf Tryd.f6)) Tryd.func6 rfl rfl ?_
 rintro B - -
 have hle : imm.le imm := Imm.le.refl _
 refine J_seq <| J_region <| R_alloc (c := ⟨[.slice none 0 0, vI 0]⟩) rfl rfl rfl (by kernel_rfl) ?_
 intro b hb
 refine R_z [] [] <| T_seq <| J_seq <| J_region ?_
 obtain ⟨y, hy, hM⟩ := bind_some hM
 refine R_call (hs1 := []) (rest := [hB b [.slice none 0 0, vI 0]]) rfl rfl rfl rfl (by kernel_rfl) rfl rfl (impl_constant_ok 0 _ hy ) ?_
 rintro imm0 hs2 v2 k2 le - ⟨p, c, cs, rfl, rfl, h⟩ -
 replace hG := hG.mono le
 replace hle := hle.trans le
 refine R_alloc (c := ⟨[.slice none 0 0, vI 0]⟩) rfl rfl rfl (by kernel_rfl) ?_
 intro b1 hb1
 refine R_sb 0 [vS p y.Coefs c, vI y.Const] [hB b1 [vS p y.Coefs c, vI y.Const], hO Int (vS p y.Coefs c) cs, hB b [.slice none 0 0, vI 0]] rfl rfl rfl rfl <| R_end rfl <| T_seq <| J_seq <| J_seq <| J_region <| R_z [] [(18, .bool (decide ((text.l.length : Int) > 100)))] <| T_seq <| J_cd hM ?_ ?_
 · intro hc hM
   refine J_seq <| J_region <| R_d 1 [] [(19, vA [.slice none 0 0, vI 0])] <| R_sb 2 [.slice none 0 0, vI 0] [hB b1 [vS p y.Coefs c, vI y.Const], hO Int (vS p y.Coefs c) cs, hB b [.slice none 0 0, vI 0]] rfl rfl rfl rfl <| R_z [] [(3, .bool false)] <| T_seq <| J_ret <| T_then_ret ?_
   obtain rfl := pure_some hM
   exact T_RS ⟨_, _, (.cell 2 rfl rfl (by kernel_rfl) (.tmp rfl ResV.nil)), good_none, ⟨_, _, rfl, rfl, ⟨_, rfl, (impl_Affine_shut ⟨_, rfl, (SL.nil _)⟩)⟩, rfl⟩⟩
 · intro hc hM
   refine J_skip <| T_seq <| J_seq <| J_seq <| J_region <| R_z [] [(5, vT text.l)] <| T_seq <| J_block <| J_w [(0, vT text.l), (2, vP b 0), (4, vP b1 0), (5, vT text.l)] ?_
   obtain ⟨o08, ho08, hMl⟩ := bind_some hM
   refine impl_ParseAffine_l1_ok text (impl_Affine.mk ([] : List Int) 0) y.Coefs y.Const o08 ho08 (Imm.le.refl _) hG (SL.nil _) h (fun _ _ _ h => h) (fun _ _ h => h) ?_ ?_
   · intro imm015 x1 Coefs1 Const1 p3 c3 p4 c4 cs2 heq8 le15 h3 h4
     subst o08
     replace hG := hG.mono le15
     replace hle := hle.trans le15
     refine T_block_here <| T_seq <| J_seq <| J_seq <| J_freeze 1 rfl ?_
     intro imm016 le16 hl01
     have h16 := SL.of_frozen hl01 le16 h4
     replace h3 := h3.mono le16
     replace hG := hG.mono le16
     replace hle := hle.trans le16
     obtain ⟨o09, ho09, hMc8⟩ := bind_some hMl
     refine J_cut (fun imm' hs' m' => ∃ (t108 : Bool), o09 = t108 ∧ imm016.le imm' ∧ hs' = [hB b1 [vS p4 Coefs1 c4, vI Const1], hB b [vS p3 x1.Coefs c3, vI x1.Const]] ∧ m' = [(2, vP b 0), (4, vP b1 0), (108, .bool t108)]) ?_ ?_
     · have hle08 := hle
       have hle : imm016.le imm016 := Imm.le.refl _
       refine J_region <| R_d 1 [0] [(100, vA [vS p4 Coefs1 c4, vI Const1])] ?_
       obtain ⟨y9, hy16, hM⟩ := bind_some ho09
       refine R_call (hs1 := []) (rest := [hB b1 [vS p4 Coefs1 c4, vI Const1], hB b [vS p3 x1.Coefs c3, vI x1.Const]]) rfl rfl rfl rfl (by kernel_rfl) rfl rfl (impl_AffineValid_ok (impl_Affine.mk Coefs1 Const1) _ hy16 h16) ?_
       rintro imm018 hs2 v2 k2 le17 - ⟨v07, rfl, rfl, rfl⟩ -
       replace h16 := h16.mono le17
       replace h3 := h3.mono le17
       replace hG := hG.mono le17
       replace hle := hle.trans le17
       refine R_d 4 [] [(103, .bool (!y9))] ?_
       cases hc12 : (!y9) with
       | true =>
        have hM06 := if_some_true hc12 hM
        try rw [hc12]
        exact R_z [] [(108, .bool true)] <| T_w [(2, vP b 0), (4, vP b1 0), (108, .bool true)] <| T_cut ⟨_, (pure_some hM06).symm, hle, rfl, rfl⟩
       | false =>
        have hM07 := if_some_false hc12 hM
        try rw [hc12]
        refine R_d 5 [0] [(104, vA [vS p4 Coefs1 c4, vI Const1])] ?_
        obtain ⟨y10, hy17, hM⟩ := bind_some hM07
        refine R_call (hs1 := []) (rest := [hB b1 [vS p4 Coefs1 c4, vI Const1], hB b [vS p3 x1.Coefs c3, vI x1.Const]]) rfl rfl rfl rfl (by kernel_rfl) rfl rfl (impl_affineText_ok (impl_Affine.mk Coefs1 Const1) _ hy17 h16 hG) ?_
        rintro imm019 hs2 v2 k2 le18 - ⟨v08, rfl, rfl, rfl⟩ -
        replace h16 := h16.mono le18
        replace h3 := h3.mono le18
        replace hG := hG.mono le18
        replace hle := hle.trans le18
        exact R_z [] [(108, .bool (!(y10.l == text.l)))] <| T_w [(2, vP b 0), (4, vP b1 0), (108, .bool (!(y10.l == text.l)))] <| T_cut ⟨_, (pure_some hM).symm, hle, rfl, rfl⟩
     · rintro imm017 hs2 m2 ⟨t108, heq9, le19, rfl, rfl⟩
       subst o09
       replace h16 := h16.mono le19
       replace h3 := h3.mono le19
       replace hG := hG.mono le19
       replace hle := hle.trans le19
       refine T_seq <| J_cd hMc8 ?_ ?_
       · intro hc13 hM
         refine J_seq <| J_region <| R_d 1 [] [(109, vA [.slice none 0 0, vI 0])] <| R_sb 1 [.slice none 0 0, vI 0] [hB b1 [vS p4 Coefs1 c4, vI Const1], hB b [.slice none 0 0, vI 0]] rfl rfl rfl rfl <| R_z [] [(3, .bool false)] <| T_seq <| J_ret <| T_then_ret ?_
         obtain rfl := pure_some hM
         exact T_RS ⟨_, _, (.cell 1 rfl rfl (by kernel_rfl) (.tmp rfl ResV.nil)), good_none, ⟨_, _, rfl, rfl, ⟨_, rfl, (impl_Affine_shut ⟨_, rfl, (SL.nil _)⟩)⟩, rfl⟩⟩
       · intro hc13 hM
         refine J_skip <| T_seq <| J_seq <| J_region <| R_d 1 [0] [(110, vA [vS p4 Coefs1 c4, vI Const1])] <| R_sb 1 [vS p4 Coefs1 c4, vI Const1] [hB b1 [vS p4 Coefs1 c4, vI Const1], hB b [vS p4 Coefs1 c4, vI Const1]] rfl rfl rfl rfl <| R_z [] [(3, .bool true)] <| T_seq <| J_ret ?_
         obtain rfl := pure_some hM
         exact T_RS ⟨_, _, (.cell 1 rfl rfl (by kernel_rfl) (.tmp rfl ResV.nil)), good_none, ⟨_, _, rfl, rfl, ⟨_, rfl, (impl_Affine_shut ⟨_, rfl, h16⟩)⟩, rfl⟩⟩
   · intro r0 imm9 hs9 m9 heq9 le9 hrs9
     subst heq9
     refine T_block_ret <| T_then_ret ?_
     obtain rfl := pure_some hMl
     exact T_RS hrs9
def spec_l1Within_post (r : Bool) : Nat → Imm → List HA → Value → Prop := fun kk imm' hs' v =>
  ∃ (v0 : Value), hs' = [] ∧ v = tupV [v0] ∧ v0 = .bool r
def M.spec_l1Within (n0 : Int) (most : Int) : Option (Bool) := do
 let t4 ← (do
   if (decide (n0 ≥ (W (0 - most)))) then
    pure (decide (n0 ≤ most))
   else
    pure false
     : Option Bool)
 pure (id t4)
theorem spec_l1Within_ok : ∀ (n0 : Int) (most : Int) r, M.spec_l1Within n0 most = some r → ∀ {imm : Imm} , Ret Tryd.prog 26 [vI n0, vI most] imm [] (spec_l1Within_post  r) := by
 intro n0 most r hM imm
 unfold M.spec_l1Within at hM
 refine ret_of_J (fn := Tryd.f26) (c := (bodyOf Tryd.f26)) Tryd.func26 rfl rfl ?_
 rintro B - -
 have hle : imm.le imm := Imm.le.refl _
 refine J_seq <| J_region <| R_z [] [] <| T_seq <| J_seq ?_
 obtain ⟨o0, ho0, hMc⟩ := bind_some hM
 refine J_cut (fun imm' hs' m' => ∃ (t4 : Bool), o0 = t4 ∧ imm.le imm' ∧ hs' = [] ∧ m' = [(4, .bool t4)]) ?_ ?_
 · have hle0 := hle
   have hle : imm.le imm := Imm.le.refl _
   refine J_region <| R_d 5 [] [(9, .bool (decide (n0 ≥ (W (0 - most)))))] ?_
   cases hc : (decide (n0 ≥ (W (0 - most)))) with
   | true =>
    have hM0 := if_some_true hc ho0
    try rw [hc]
    exact R_z [] [(4, .bool (decide (n0 ≤ most)))] <| T_w [(4, .bool (decide (n0 ≤ most)))] <| T_cut ⟨_, (pure_some hM0).symm, hle, rfl, rfl⟩
   | false =>
    have hM01 := if_some_false hc ho0
    try rw [hc]
    exact R_z [] [(4, .bool false)] <| T_w [(4, .bool false)] <| T_cut ⟨_, (pure_some hM01).symm, hle, rfl, rfl⟩
 · rintro imm0 hs2 m2 ⟨t4, heq, le, rfl, rfl⟩
   subst o0
   replace hle := hle.trans le
   refine T_seq <| J_ret ?_
   obtain rfl := pure_some hMc
   exact T_RS ⟨_, _, (.tmp rfl ResV.nil), good_none, ⟨_, rfl, rfl, rfl⟩⟩
def spec_AffineValid_post (r : Bool) : Nat → Imm → List HA → Value → Prop := fun kk imm' hs' v =>
  ∃ (v0 : Value), hs' = [] ∧ v = tupV [v0] ∧ v0 = .bool r
def M.spec_AffineValid_l1 (a0 : impl_Affine) (i : Int) : Option (Out Unit (Bool)) := do
 if (decide (i < (a0.Coefs.length : Int))) then
  let x ← idx a0.Coefs i
  let y ← M.spec_l1Within x 9
  if (!y) then
   pure (.ret false)
  else
   M.spec_AffineValid_l1 a0 (W (i + 1))
 else
  pure (.done ())
 partial_fixpoint
theorem spec_AffineValid_l1_ok (a0 : impl_Affine) : ∀ (i : Int) (o : Out Unit (Bool)), M.spec_AffineValid_l1 a0 i = some o → ∀ {B : Base} {imm0 imm : Imm} {Q : Exit → Act → World → Prop}  {p : Option Addr} {c : Nat} {b : Nat}, imm0.le imm → (SL imm (vS p a0.Coefs c) a0.Coefs) → (∀ l a w, ¬ Q (.goto l) a w) → (∀ a w, ¬ Q .outgrown a w) → (∀ (imm' : Imm) , o = (.done ()) → imm0.le imm' → T 27 B Q (.exit 0) imm' [hB b [vS p a0.Coefs c, vI a0.Const]] [(1, vP b 0)]) → (∀ r imm' hs' m', o = (.ret r) → imm0.le imm' → RS Tryd.prog Tryd.f9 B (spec_AffineValid_post  r) imm' hs' m' → T 27 B Q .ret imm' hs' m') → J Tryd.prog 27 B (nav (bodyOf Tryd.f9) [1, 0, 1, 0]) Q imm [hB b [vS p a0.Coefs c, vI a0.Const]] [(1, vP b 0), (3, vI i)] := by
 refine M.spec_AffineValid_l1.partial_correctness a0 _ ?_
 intro self ih i o hM B imm0 imm Q p c b hle h hg ho hx hr
 refine J_loop hg ho <| J_seq <| J_seq <| J_region <| R_z [0] [(8, .bool (decide (i < (a0.Coefs.length : Int))))] <| T_seq <| J_cd hM ?_ ?_
 · intro hc hM
   refine J_skip <| T_seq <| J_seq <| J_block <| J_seq <| J_region <| R_d 3 [0] [(12, vS p a0.Coefs c), (13, vI i)] ?_
   obtain ⟨x, hy, hM⟩ := bind_some hM
   refine R_ix rfl rfl h hy ?_
   intro ad ccs hat hrep
   obtain rfl := hrep
   refine R_la 0 hat [vI x] (vI x) rfl ?_
   obtain ⟨y, hy1, hM⟩ := bind_some hM
   refine R_call (hs1 := []) (rest := [hB b [vS p a0.Coefs c, vI a0.Const]]) rfl rfl rfl rfl (by kernel_rfl) rfl rfl (spec_l1Within_ok x 9 _ hy1 ) ?_
   rintro imm0 hs2 v2 k2 le - ⟨v0, rfl, rfl, rfl⟩ -
   replace h := h.mono le
   replace hle := hle.trans le
   refine R_z [] [(17, .bool (!y))] <| T_seq <| J_cd hM ?_ ?_
   · intro hc1 hM
     exact J_seq <| J_region <| R_z [] [(2, .bool false)] <| T_seq <| J_ret <| T_block_ret <| T_then_ret <| T_then_ret <| hr _ _ _ _ (pure_some hM).symm hle ⟨_, _, (.tmp rfl ResV.nil), good_none, ⟨_, rfl, rfl, rfl⟩⟩
   · intro hc1 hM
     exact J_skip <| T_block_normal <| T_seq <| J_region <| R_z [] [(3, vI (W (i + 1)))] <| T_loop <| J_w [(1, vP b 0), (3, vI (W (i + 1)))] <| ih (W (i + 1)) _ hM hle h hg ho hx hr
 · intro hc hM
   exact J_exit <| T_then_exit <| T_then_exit <| T_w [(1, vP b 0)] <| hx _  (pure_some hM).symm hle
def M.spec_AffineValid (a0 : impl_Affine) : Option (Bool) := do
 match ← M.spec_AffineValid_l1 a0 0 with
 | .ret r0 => pure r0
 | .done _ =>
  let t2 ← (do
    if ((a0.Coefs.length : Int) == 4) then
     let y1 ← M.spec_l1Within a0.Const 99
     pure (id y1)
    else
     pure false
      : Option Bool)
  pure (id t2)
theorem spec_AffineValid_ok : ∀ (a0 : impl_Affine) r, M.spec_AffineValid a0 = some r → ∀ {imm : Imm} {p : Option Addr} {c : Nat}, (SL imm (vS p a0.Coefs c) a0.Coefs) → Ret Tryd.prog 9 [vA [vS p a0.Coefs c, vI a0.Const]] imm [] (spec_AffineValid_post  r) := by
 intro a0 r hM imm p c h
 unfold M.spec_AffineValid at hM
 refine ret_of_J (fn := Tryd.f9) (c := (bodyOf Tryd.f9)) Tryd.func9 rfl rfl ?_
 rintro B - -
 have hle : imm.le imm := Imm.le.refl _
 refine J_seq <| J_region <| R_box (c := ⟨[vS p a0.Coefs c, vI a0.Const]⟩) rfl rfl rfl rfl rfl ?_
 intro b hb
 refine R_z [] [] <| T_seq <| J_seq <| J_seq <| J_region <| R_z [] [(3, vI 0)] <| T_seq <| J_block <| J_w [(1, vP b 0), (3, vI 0)] ?_
 obtain ⟨o0, ho0, hMl⟩ := bind_some hM
 refine spec_AffineValid_l1_ok a0 0 o0 ho0 (Imm.le.refl _) h (fun _ _ _ h => h) (fun _ _ h => h) ?_ ?_
 · intro imm01  heq le1
   subst o0
   replace h := h.mono le1
   replace hle := hle.trans le1
   refine T_block_here <| T_seq <| J_seq ?_
   obtain ⟨o01, ho01, hMc⟩ := bind_some hMl
   refine J_cut (fun imm' hs' m' => ∃ (t2 : Bool), o01 = t2 ∧ imm01.le imm' ∧ hs' = [] ∧ m' = [(2, .bool t2)]) ?_ ?_
   · have hle0 := hle
     have hle : imm01.le imm01 := Imm.le.refl _
     refine J_region <| R_d 5 [0] [(22, .bool ((a0.Coefs.length : Int) == 4))] ?_
     cases hc2 : ((a0.Coefs.length : Int) == 4) with
     | true =>
      have hM0 := if_some_true hc2 ho01
      try rw [hc2]
      refine R_d 7 [0] [(24, vI a0.Const)] ?_
      obtain ⟨y1, hy2, hM⟩ := bind_some hM0
      refine R_call (hs1 := []) (rest := [hB b [vS p a0.Coefs c, vI a0.Const]]) rfl rfl rfl rfl (by kernel_rfl) rfl rfl (spec_l1Within_ok a0.Const 99 _ hy2 ) ?_
      rintro imm03 hs2 v2 k2 le2 - ⟨v01, rfl, rfl, rfl⟩ -
      replace h := h.mono le2
      replace hle := hle.trans le2
      exact R_z [] [(2, .bool y1)] <| T_hs (good_pick [] rfl (by decide)) <| T_w [(2, .bool y1)] <| T_cut ⟨_, (pure_some hM).symm, hle, rfl, rfl⟩
     | false =>
      have hM01 := if_some_false hc2 ho01
      try rw [hc2]
      exact R_z [] [(2, .bool false)] <| T_hs (good_pick [] rfl (by decide)) <| T_w [(2, .bool false)] <| T_cut ⟨_, (pure_some hM01).symm, hle, rfl, rfl⟩
   · rintro imm02 hs2 m2 ⟨t2, heq1, le3, rfl, rfl⟩
     subst o01
     replace hle := hle.trans le3
     refine T_seq <| J_ret ?_
     obtain rfl := pure_some hMc
     exact T_RS ⟨_, _, (.tmp rfl ResV.nil), good_none, ⟨_, rfl, rfl, rfl⟩⟩
 · intro r0 imm9 hs9 m9 heq9 le9 hrs9
   subst heq9
   refine T_block_ret <| T_then_ret ?_
   obtain rfl := pure_some hMl
   exact T_RS hrs9
def spec_l16Dec_post (r : Str) : Nat → Imm → List HA → Value → Prop := fun kk imm' hs' v =>
  ∃ (v0 : Value), hs' = [] ∧ v = tupV [v0] ∧ v0 = .string ⟨⟨r.l⟩⟩
def M.spec_l16Dec_l1 (n01 : Int) (out : Str) : Option ((Int × Str)) := do
 if (decide (n01 > 9)) then
  let s1 ← cat (⟨([(u8 (W (48 + (n01.tmod 10))))] : List UInt8)⟩ : Str) out
  M.spec_l16Dec_l1 (W (n01.tdiv 10)) s1
 else
  pure (n01, out)
 partial_fixpoint
theorem spec_l16Dec_l1_ok  : ∀ (n01 : Int) (out : Str) (o : (Int × Str)), M.spec_l16Dec_l1 n01 out = some o → ∀ {B : Base} {imm0 imm : Imm} {Q : Exit → Act → World → Prop}  , imm0.le imm → (∀ l a w, ¬ Q (.goto l) a w) → (∀ a w, ¬ Q .outgrown a w) → (∀ (imm' : Imm) (n02 : Int) (out1 : Str), o = (n02, out1) → imm0.le imm' → T 31 B Q (.exit 0) imm' [] [(0, vI n02), (3, vT out1.l)]) → J Tryd.prog 31 B (nav (bodyOf Tryd.f70) [1, 1, 1, 1, 0, 0]) Q imm [] [(0, vI n01), (3, vT out.l)] := by
 refine M.spec_l16Dec_l1.partial_correctness  _ ?_
 intro self ih n01 out o hM B imm0 imm Q  hle  hg ho hx
 refine J_loop hg ho <| J_seq <| J_seq <| J_region <| R_z [] [(13, .bool (decide (n01 > 9)))] <| T_seq <| J_cd hM ?_ ?_
 · intro hc2 hM
   refine J_skip <| T_seq <| J_block <| J_seq <| J_region <| R_d 3 [] [(16, vI (W (48 + (n01.tmod 10))))] <| R_u8 (d := 17) (i := (W (48 + (n01.tmod 10)))) rfl (by kernel_rfl) <| R_buildSlice (cs := [.int .u8 ((u8 (W (48 + (n01.tmod 10)))).toNat : Int)]) (Rp.sz UInt8) rfl rfl rfl rfl (by kernel_rfl) (by kernel_rfl) ?_
   intro b hb
   have h1 : RL imm [.int .u8 ((u8 (W (48 + (n01.tmod 10)))).toNat : Int)] ([(u8 (W (48 + (n01.tmod 10))))] : List UInt8) := ⟨[.int .u8 ((u8 (W (48 + (n01.tmod 10)))).toNat : Int)], _, rfl, rfl, rfl, rfl⟩
   refine R_bytes (l := ([(u8 (W (48 + (n01.tmod 10))))] : List UInt8)) rfl rfl rfl rfl (by kernel_rfl) (by kernel_rfl) (.inr ⟨0, rfl⟩) h1 <| R_d 7 [] [(20, vT out.l)] ?_
   obtain ⟨s1, hy2, hM⟩ := bind_some hM
   exact R_ca rfl hy2 <| R_z [] [(3, vT s1.l)] <| T_seq <| J_region <| R_z [] [(0, vI (W (n01.tdiv 10)))] <| T_block_normal <| T_loop <| J_hs (good_pick [] rfl (by decide)) <| J_w [(0, vI (W (n01.tdiv 10))), (3, vT s1.l)] <| ih (W (n01.tdiv 10)) s1 _ hM hle  hg ho hx
 · intro hc2 hM
   exact J_exit <| T_then_exit <| T_then_exit <| T_w [(0, vI n01), (3, vT out.l)] <| hx _ _ _ (pure_some hM).symm hle
def M.spec_l16Dec (n0 : Int) : Option (Str) := do
 if (decide (n0 < (-9223372036854775807))) then
  pure (⟨[45, 57, 50, 50, 51, 51, 55, 50, 48, 51, 54, 56, 53, 52, 55, 55, 53, 56, 48, 56]⟩ : Str)
 else
  if (decide (n0 < 0)) then
   let y ← M.spec_l16Dec (W (0 - n0))
   let s ← cat (⟨[45]⟩ : Str) y
   pure (id s)
  else
   let (n02, out1) ← M.spec_l16Dec_l1 n0 (⟨[]⟩ : Str)
   let s2 ← cat (⟨([(u8 (W (48 + n02)))] : List UInt8)⟩ : Str) out1
   pure (id s2)
 partial_fixpoint
theorem spec_l16Dec_ok : ∀ (n0 : Int) r, M.spec_l16Dec n0 = some r → ∀ {imm : Imm} , Ret Tryd.prog 70 [vI n0] imm [] (spec_l16Dec_post  r) := by
 refine M.spec_l16Dec.partial_correctness (fun n0 r => ∀ {imm : Imm} , Ret Tryd.prog 70 [vI n0] imm [] (spec_l16Dec_post  r)) ?_
 intro F_spec_l16Dec ih_spec_l16Dec n0 r hM imm
 refine ret_of_J (fn := Tryd.f70) (c := (bodyOf Tryd.f70)) Tryd.func70 rfl rfl ?_
 rintro B - -
 have hle : imm.le imm := Imm.le.refl _
 refine J_seq <| J_region <| R_z [] [] <| T_seq <| J_seq <| J_seq <| J_region <| R_z [] [(5, .bool (decide (n0 < (-9223372036854775807))))] <| T_seq <| J_cd hM ?_ ?_
 · intro hc hM
   refine J_seq <| J_region <| R_z [] [(2, vT ([45, 57, 50, 50, 51, 51, 55, 50, 48, 51, 54, 56, 53, 52, 55, 55, 53, 56, 48, 56]))] <| T_seq <| J_ret <| T_then_ret ?_
   obtain rfl := pure_some hM
   exact T_RS ⟨_, _, (.tmp rfl ResV.nil), good_none, ⟨_, rfl, rfl, rfl⟩⟩
 · intro hc hM
   refine J_skip <| T_seq <| J_seq <| J_seq <| J_region <| R_z [] [(7, .bool (decide (n0 < 0)))] <| T_seq <| J_cd hM ?_ ?_
   · intro hc1 hM
     refine J_seq <| J_region <| R_d 2 [] [(9, vI (W (0 - n0)))] ?_
     obtain ⟨y, hy, hM⟩ := bind_some hM
     refine R_call (hs1 := []) (rest := []) rfl rfl rfl rfl (by kernel_rfl) rfl rfl (ih_spec_l16Dec (W (0 - n0)) _ hy ) ?_
     rintro imm0 hs2 v2 k2 le - ⟨v0, rfl, rfl, rfl⟩ -
     replace hle := hle.trans le
     obtain ⟨s, hy1, hM⟩ := bind_some hM
     refine R_ca rfl hy1 <| R_z [] [(2, vT s.l)] <| T_seq <| J_ret <| T_then_ret ?_
     obtain rfl := pure_some hM
     exact T_RS ⟨_, _, (.tmp rfl ResV.nil), good_none, ⟨_, rfl, rfl, rfl⟩⟩
   · intro hc1 hM
     refine J_skip <| T_seq <| J_seq <| J_region <| R_z [] [(3, vT ([]))] <| T_seq <| J_seq <| J_block <| J_w [(0, vI n0), (3, vT ([]))] ?_
     obtain ⟨o0, ho0, hMl⟩ := bind_some hM
     refine spec_l16Dec_l1_ok n0 (⟨[]⟩ : Str) o0 ho0 (Imm.le.refl _)  (fun _ _ _ h => h) (fun _ _ h => h) ?_
     intro imm01 n02 out1 heq le1
     subst o0
     replace hle := hle.trans le1
     refine T_block_here <| T_seq <| J_seq <| J_region <| R_d 2 [] [(25, vI (W (48 + n02)))] <| R_u8 (d := 26) (i := (W (48 + n02))) rfl (by kernel_rfl) <| R_buildSlice (cs := [.int .u8 ((u8 (W (48 + n02))).toNat : Int)]) (Rp.sz UInt8) rfl rfl rfl rfl (by kernel_rfl) (by kernel_rfl) ?_
     intro b1 hb1
     have h2 : RL imm01 [.int .u8 ((u8 (W (48 + n02))).toNat : Int)] ([(u8 (W (48 + n02)))] : List UInt8) := ⟨[.int .u8 ((u8 (W (48 + n02))).toNat : Int)], _, rfl, rfl, rfl, rfl⟩
     refine R_bytes (l := ([(u8 (W (48 + n02)))] : List UInt8)) rfl rfl rfl rfl (by kernel_rfl) (by kernel_rfl) (.inr ⟨0, rfl⟩) h2 <| R_d 6 [] [(29, vT out1.l)] ?_
     obtain ⟨s2, hy3, hM⟩ := bind_some hMl
     refine R_ca rfl hy3 <| R_z [] [(2, vT s2.l)] <| T_seq <| J_ret ?_
     obtain rfl := pure_some hM
     exact T_RS ⟨_, _, (.tmp rfl ResV.nil), good_none, ⟨_, rfl, rfl, rfl⟩⟩
def spec_l1Term_post (r : Str) : Nat → Imm → List HA → Value → Prop := fun kk imm' hs' v =>
  ∃ (v0 : Value), hs' = [] ∧ v = tupV [v0] ∧ v0 = .string ⟨⟨r.l⟩⟩
def M.spec_l1Term (n0 : Int) (name : Str) : Option (Str) := do
 let (n01, sign) ← (do
   if (decide (n0 < 0)) then
    pure ((W (0 - n0)), (⟨[45]⟩ : Str))
   else
    pure (n0, (⟨[43]⟩ : Str))
     : Option (Int × Str))
 if (name.l == ([] : List UInt8)) then
  let y ← M.spec_l16Dec n01
  let s ← cat sign y
  pure (id s)
 else
  if (n01 == 1) then
   let s1 ← cat sign name
   pure (id s1)
  else
   let y1 ← M.spec_l16Dec n01
   let s2 ← cat sign y1
   let s3 ← cat s2 (⟨[42]⟩ : Str)
   let s4 ← cat s3 name
   pure (id s4)
theorem spec_l1Term_ok : ∀ (n0 : Int) (name : Str) r, M.spec_l1Term n0 name = some r → ∀ {imm : Imm} , Ret Tryd.prog 48 [vI n0, vT name.l] imm [] (spec_l1Term_post  r) := by
 intro n0 name r hM imm
 unfold M.spec_l1Term at hM
 refine ret_of_J (fn := Tryd.f48) (c := (bodyOf Tryd.f48)) Tryd.func48 rfl rfl ?_
 rintro B - -
 have hle : imm.le imm := Imm.le.refl _
 refine J_seq <| J_region <| R_z [] [] <| T_seq <| J_seq <| J_region <| R_z [] [(5, vT ([43]))] <| T_seq <| J_seq <| J_seq <| J_region <| R_z [] [(7, .bool (decide (n0 < 0)))] <| T_seq ?_
 obtain ⟨o0, ho0, hMc⟩ := bind_some hM
 refine J_cut (fun imm' hs' m' => ∃ (n01 : Int) (sign : Str), o0 = (n01, sign) ∧ imm.le imm' ∧ hs' = [] ∧ m' = [(0, vI n01), (1, vT name.l), (5, vT sign.l)]) ?_ ?_
 · have hle0 := hle
   have hle : imm.le imm := Imm.le.refl _
   refine J_cd ho0 ?_ ?_
   · intro hc hM
     exact J_seq <| J_region <| R_z [] [(5, vT ([45]))] <| T_seq <| J_region <| R_z [] [(0, vI (W (0 - n0)))] <| T_w [(0, vI (W (0 - n0))), (1, vT name.l), (5, vT ([45]))] <| T_cut ⟨_, _, (pure_some hM).symm, hle, rfl, rfl⟩
   · intro hc hM
     exact J_skip <| T_w [(0, vI n0), (1, vT name.l), (5, vT ([43]))] <| T_cut ⟨_, _, (pure_some hM).symm, hle, rfl, rfl⟩
 · rintro imm0 hs2 m2 ⟨n01, sign, heq, le, rfl, rfl⟩
   subst o0
   replace hle := hle.trans le
   refine T_seq <| J_seq <| J_seq <| J_region <| R_z [] [(11, .bool (name.l == ([] : List UInt8)))] <| T_seq <| J_cd hMc ?_ ?_
   · intro hc1 hM
     refine J_seq <| J_region <| R_d 2 [] [(12, vT sign.l), (13, vI n01)] ?_
     obtain ⟨y, hy, hM⟩ := bind_some hM
     refine R_call (hs1 := []) (rest := []) rfl rfl rfl rfl (by kernel_rfl) rfl rfl (spec_l16Dec_ok n01 _ hy ) ?_
     rintro imm01 hs2 v2 k2 le1 - ⟨v0, rfl, rfl, rfl⟩ -
     replace hle := hle.trans le1
     obtain ⟨s, hy1, hM⟩ := bind_some hM
     refine R_ca rfl hy1 <| R_z [] [(4, vT s.l)] <| T_seq <| J_ret <| T_then_ret ?_
     obtain rfl := pure_some hM
     exact T_RS ⟨_, _, (.tmp rfl ResV.nil), good_none, ⟨_, rfl, rfl, rfl⟩⟩
   · intro hc1 hM
     refine J_skip <| T_seq <| J_seq <| J_seq <| J_region <| R_z [] [(17, .bool (n01 == 1))] <| T_seq <| J_cd hM ?_ ?_
     · intro hc2 hM
       refine J_seq <| J_region <| R_d 2 [] [(18, vT sign.l), (19, vT name.l)] ?_
       obtain ⟨s1, hy2, hM⟩ := bind_some hM
       refine R_ca rfl hy2 <| R_z [] [(4, vT s1.l)] <| T_seq <| J_ret <| T_then_ret ?_
       obtain rfl := pure_some hM
       exact T_RS ⟨_, _, (.tmp rfl ResV.nil), good_none, ⟨_, rfl, rfl, rfl⟩⟩
     · intro hc2 hM
       refine J_skip <| T_seq <| J_seq <| J_region <| R_d 2 [] [(21, vT sign.l), (22, vI n01)] ?_
       obtain ⟨y1, hy3, hM⟩ := bind_some hM
       refine R_call (hs1 := []) (rest := []) rfl rfl rfl rfl (by kernel_rfl) rfl rfl (spec_l16Dec_ok n01 _ hy3 ) ?_
       rintro imm02 hs2 v2 k2 le2 - ⟨v01, rfl, rfl, rfl⟩ -
       replace hle := hle.trans le2
       obtain ⟨s2, hy4, hM⟩ := bind_some hM
       refine R_ca rfl hy4 ?_
       obtain ⟨s3, hy5, hM⟩ := bind_some hM
       refine R_ca rfl hy5 <| R_d 6 [] [(26, vT name.l)] ?_
       obtain ⟨s4, hy6, hM⟩ := bind_some hM
       refine R_ca rfl hy6 <| R_z [] [(4, vT s4.l)] <| T_seq <| J_ret ?_
       obtain rfl := pure_some hM
       exact T_RS ⟨_, _, (.tmp rfl ResV.nil), good_none, ⟨_, rfl, rfl, rfl⟩⟩
def spec_l1Text_post (r : Str) : Nat → Imm → List HA → Value → Prop := fun kk imm' hs' v =>
  ∃ (v0 : Value), hs' = [] ∧ v = tupV [v0] ∧ v0 = .string ⟨⟨r.l⟩⟩
def M.spec_l1Text_l1 (a0 : impl_Affine) (out : Str) (i : Int) : Option (Str) := do
 if (decide (i < (a0.Coefs.length : Int))) then
  let x ← idx a0.Coefs i
  let out2 ← (do
    if (x != 0) then
     let x1 ← idx a0.Coefs i
     let s ← sslc (⟨[105, 106, 107, 108]⟩ : Str) i (W (i + 1))
     let y ← M.spec_l1Term x1 s
     let s1 ← cat out y
     pure (id s1)
    else
     pure (id out)
      : Option Str)
  M.spec_l1Text_l1 a0 out2 (W (i + 1))
 else
  pure (id out)
 partial_fixpoint
theorem spec_l1Text_l1_ok (a0 : impl_Affine) : ∀ (out : Str) (i : Int) (o : Str), M.spec_l1Text_l1 a0 out i = some o → ∀ {B : Base} {imm0 imm : Imm} {Q : Exit → Act → World → Prop}  {p : Option Addr} {c : Nat} {b : Nat}, imm0.le imm → (SL imm (vS p a0.Coefs c) a0.Coefs) → (∀ l a w, ¬ Q (.goto l) a w) → (∀ a w, ¬ Q .outgrown a w) → (∀ (imm' : Imm) (out1 : Str), o = out1 → imm0.le imm' → T 46 B Q (.exit 0) imm' [hB b [vS p a0.Coefs c, vI a0.Const]] [(1, vP b 0), (3, vT out1.l)]) → J Tryd.prog 46 B (nav (bodyOf Tryd.f21) [1, 1, 0, 1, 0]) Q imm [hB b [vS p a0.Coefs c, vI a0.Const]] [(1, vP b 0), (3, vT out.l), (4, vI i)] := by
 refine M.spec_l1Text_l1.partial_correctness a0 _ ?_
 intro self ih out i o hM B imm0 imm Q p c b hle h hg ho hx
 refine J_loop hg ho <| J_seq <| J_seq <| J_region <| R_z [0] [(9, .bool (decide (i < (a0.Coefs.length : Int))))] <| T_seq <| J_cd hM ?_ ?_
 · intro hc hM
   refine J_skip <| T_seq <| J_seq <| J_block <| J_seq <| J_region <| R_d 3 [0] [(13, vS p a0.Coefs c), (14, vI i)] ?_
   obtain ⟨x, hy, hM⟩ := bind_some hM
   refine R_ix rfl rfl h hy ?_
   intro ad ccs hat hrep
   obtain rfl := hrep
   refine R_la 0 hat [vI x] (vI x) rfl <| R_z [] [(17, .bool (x != 0))] <| T_seq ?_
   obtain ⟨o0, ho0, hMc⟩ := bind_some hM
   refine J_cut (fun imm' hs' m' => ∃ (out2 : Str), o0 = out2 ∧ imm.le imm' ∧ hs' = [hB b [vS p a0.Coefs c, vI a0.Const]] ∧ m' = [(1, vP b 0), (3, vT out2.l), (4, vI i)]) ?_ ?_
   · have hle0 := hle
     have hle : imm.le imm := Imm.le.refl _
     refine J_cd ho0 ?_ ?_
     · intro hc1 hM
       obtain ⟨x1, hy1, hM⟩ := bind_some hM
       obtain ⟨s, hy2, hM⟩ := bind_some hM
       obtain ⟨y, hy3, hM⟩ := bind_some hM
       obtain ⟨s1, hy4, hM⟩ := bind_some hM
       refine J_any [.p (vT out.l) [], .p (vP b 0) [], .p (vS p a0.Coefs c) [0], .p (vI i) [], .x (fun imm' v hx => ∃ (ad1 : Addr), v = .pointer (some ad1) ∧ hx = [] ∧ (At imm' ad1 [vI x1])), .q (vI x1), .p (vI i) [], .p (vI i) [], .p (vI (W (i + 1))) [], .q (vT s.l), .q (vT y.l), .q (vT s1.l)] [[], [], [(1, false)], [], [(2, false), (3, false)], [(4, false)], [], [], [(7, false)], [(6, false), (8, false)], [(5, false), (9, false)], [(0, false), (10, false)]] [hB b [vS p a0.Coefs c, vI a0.Const]] [] [(11, false)] (good_pick [0] rfl (by decide)) ?_ ?_
       · refine Op <| Op <| Op <| Op <| Ox ?_ <| Oq ?_ <| Op <| Op <| Op <| Oq ?_ <| Oq ?_ <| Oq ?_ <| On
         · intro imm1 hf le1
           refine Ins_cons ?_
           rintro _ _ ⟨rfl, rfl⟩
           refine Ins_cons ?_
           rintro _ _ ⟨rfl, rfl⟩
           refine Ins_nil <| R_isw (hB b [vS p a0.Coefs c, vI a0.Const] :: hf) [(20, vS p a0.Coefs c), (21, vI i)] ?_
           have hle := Imm.le.refl imm1
           replace h := h.mono le1
           refine R_ix rfl rfl h hy1 ?_
           intro ad1 ccs1 hat1 hrep1
           obtain rfl := hrep1
           exact R_out (hx := []) rfl hle rfl (out_some rfl) ⟨_, rfl, rfl, hat1⟩
         · intro imm1 hf le1
           refine Ins_cons ?_
           rintro _ _ ⟨ad1, rfl, rfl, hat1⟩
           refine Ins_nil <| R_isw (hB b [vS p a0.Coefs c, vI a0.Const] :: hf) [(22, .pointer (some ad1))] ?_
           have hle := Imm.le.refl imm1
           exact R_la 0 hat1 [vI x1] (vI x1) rfl <| R_out (hx := []) rfl hle rfl (out_some rfl) ⟨rfl, rfl⟩
         · intro imm1 hf le1
           refine Ins_cons ?_
           rintro _ _ ⟨rfl, rfl⟩
           refine Ins_cons ?_
           rintro _ _ ⟨rfl, rfl⟩
           refine Ins_nil <| R_isw (hB b [vS p a0.Coefs c, vI a0.Const] :: hf) [(24, vI i), (26, vI (W (i + 1)))] ?_
           have hle := Imm.le.refl imm1
           exact R_ss rfl hy2 <| R_out (hx := []) rfl hle rfl (out_some rfl) ⟨rfl, rfl⟩
         · intro imm1 hf le1
           refine Ins_cons ?_
           rintro _ _ ⟨rfl, rfl⟩
           refine Ins_cons ?_
           rintro _ _ ⟨rfl, rfl⟩
           refine Ins_nil <| R_isw (hB b [vS p a0.Coefs c, vI a0.Const] :: hf) [(23, vI x1), (27, vT s.l)] ?_
           have hle := Imm.le.refl imm1
           replace h := h.mono le1
           refine R_call (hs1 := []) (rest := (hB b [vS p a0.Coefs c, vI a0.Const] :: hf)) rfl rfl rfl rfl (by kernel_rfl) rfl rfl (spec_l1Term_ok x1 s _ hy3 ) ?_
           rintro imm01 hs2 v2 k2 le - ⟨v0, rfl, rfl, rfl⟩ -
           replace h := h.mono le
           replace hle := hle.trans le
           exact R_out (hx := []) rfl hle rfl (out_some rfl) ⟨rfl, rfl⟩
         · intro imm1 hf le1
           refine Ins_cons ?_
           rintro _ _ ⟨rfl, rfl⟩
           refine Ins_cons ?_
           rintro _ _ ⟨rfl, rfl⟩
           refine Ins_nil <| R_isw (hB b [vS p a0.Coefs c, vI a0.Const] :: hf) [(18, vT out.l), (28, vT y.l)] ?_
           have hle := Imm.le.refl imm1
           exact R_ca rfl hy4 <| R_out (hx := []) rfl hle rfl (out_some rfl) ⟨rfl, rfl⟩
       · intro imm02 le1
         refine Ins_cons ?_
         rintro _ _ ⟨rfl, rfl⟩
         refine Ins_nil <| R_isw [hB b [vS p a0.Coefs c, vI a0.Const]] [(1, vP b 0), (4, vI i), (29, vT s1.l)] ?_
         replace h := h.mono le1
         replace hle := hle.trans le1
         exact R_z [] [(3, vT s1.l)] <| T_w [(1, vP b 0), (3, vT s1.l), (4, vI i)] <| T_cut ⟨_, (pure_some hM).symm, hle, rfl, rfl⟩
     · intro hc1 hM
       exact J_skip <| T_w [(1, vP b 0), (3, vT out.l), (4, vI i)] <| T_cut ⟨_, (pure_some hM).symm, hle, rfl, rfl⟩
   · rintro imm0 hs2 m2 ⟨out2, heq, le2, rfl, rfl⟩
     subst o0
     replace h := h.mono le2
     replace hle := hle.trans le2
     exact T_block_normal <| T_seq <| J_region <| R_z [] [(4, vI (W (i + 1)))] <| T_loop <| J_w [(1, vP b 0), (3, vT out2.l), (4, vI (W (i + 1)))] <| ih out2 (W (i + 1)) _ hMc hle h hg ho hx
 · intro hc hM
   exact J_exit <| T_then_exit <| T_then_exit <| T_w [(1, vP b 0), (3, vT out.l)] <| hx _ _ (pure_some hM).symm hle
def M.spec_l1Text (a0 : impl_Affine) : Option (Str) := do
 let out1 ← M.spec_l1Text_l1 a0 (⟨[]⟩ : Str) 0
 let out3 ← (do
   if (a0.Const != 0) then
    let y1 ← M.spec_l1Term a0.Const (⟨[]⟩ : Str)
    let s2 ← cat out1 y1
    pure (id s2)
   else
    pure (id out1)
     : Option Str)
 if (out3.l == ([] : List UInt8)) then
  pure (⟨[48]⟩ : Str)
 else
  let s3 ← sslc out3 0 1
  if (s3.l == ([43] : List UInt8)) then
   let s4 ← sslc out3 1 (out3.l.length : Int)
   pure (id s4)
  else
   pure (id out3)
theorem spec_l1Text_ok : ∀ (a0 : impl_Affine) r, M.spec_l1Text a0 = some r → ∀ {imm : Imm} {p : Option Addr} {c : Nat}, (SL imm (vS p a0.Coefs c) a0.Coefs) → Ret Tryd.prog 21 [vA [vS p a0.Coefs c, vI a0.Const]] imm [] (spec_l1Text_post  r) := by
 intro a0 r hM imm p c h
 unfold M.spec_l1Text at hM
 refine ret_of_J (fn := Tryd.f21) (c := (bodyOf Tryd.f21)) Tryd.func21 rfl rfl ?_
 rintro B - -
 have hle : imm.le imm := Imm.le.refl _
 refine J_seq <| J_region <| R_box (c := ⟨[vS p a0.Coefs c, vI a0.Const]⟩) rfl rfl rfl rfl rfl ?_
 intro b hb
 refine R_z [] [] <| T_seq <| J_seq <| J_region <| R_z [] [(3, vT ([]))] <| T_seq <| J_seq <| J_seq <| J_region <| R_z [] [(4, vI 0)] <| T_seq <| J_block <| J_w [(1, vP b 0), (3, vT ([])), (4, vI 0)] ?_
 obtain ⟨o01, ho01, hMl⟩ := bind_some hM
 refine spec_l1Text_l1_ok a0 (⟨[]⟩ : Str) 0 o01 ho01 (Imm.le.refl _) h (fun _ _ _ h => h) (fun _ _ h => h) ?_
 intro imm03 out1 heq1 le3
 subst o01
 replace h := h.mono le3
 replace hle := hle.trans le3
 refine T_block_here <| T_seq <| J_seq <| J_seq <| J_region <| R_z [0] [(32, .bool (a0.Const != 0))] <| T_seq ?_
 obtain ⟨o02, ho02, hMc1⟩ := bind_some hMl
 refine J_cut (fun imm' hs' m' => ∃ (out3 : Str), o02 = out3 ∧ imm03.le imm' ∧ hs' = [] ∧ m' = [(3, vT out3.l)]) ?_ ?_
 · have hle01 := hle
   have hle : imm03.le imm03 := Imm.le.refl _
   refine J_cd ho02 ?_ ?_
   · intro hc2 hM
     refine J_region <| R_d 3 [0] [(33, vT out1.l), (35, vI a0.Const)] ?_
     obtain ⟨y1, hy5, hM⟩ := bind_some hM
     refine R_call (hs1 := []) (rest := [hB b [vS p a0.Coefs c, vI a0.Const]]) rfl rfl rfl rfl (by kernel_rfl) rfl rfl (spec_l1Term_ok a0.Const (⟨[]⟩ : Str) _ hy5 ) ?_
     rintro imm05 hs2 v2 k2 le4 - ⟨v01, rfl, rfl, rfl⟩ -
     replace h := h.mono le4
     replace hle := hle.trans le4
     obtain ⟨s2, hy6, hM⟩ := bind_some hM
     exact R_ca rfl hy6 <| R_z [] [(3, vT s2.l)] <| T_hs (good_pick [] rfl (by decide)) <| T_w [(3, vT s2.l)] <| T_cut ⟨_, (pure_some hM).symm, hle, rfl, rfl⟩
   · intro hc2 hM
     exact J_skip <| T_hs (good_pick [] rfl (by decide)) <| T_w [(3, vT out1.l)] <| T_cut ⟨_, (pure_some hM).symm, hle, rfl, rfl⟩
 · rintro imm04 hs2 m2 ⟨out3, heq2, le5, rfl, rfl⟩
   subst o02
   replace hle := hle.trans le5
   refine T_seq <| J_seq <| J_seq <| J_region <| R_z [] [(39, .bool (out3.l == ([] : List UInt8)))] <| T_seq <| J_cd hMc1 ?_ ?_
   · intro hc3 hM
     refine J_seq <| J_region <| R_z [] [(2, vT ([48]))] <| T_seq <| J_ret <| T_then_ret ?_
     obtain rfl := pure_some hM
     exact T_RS ⟨_, _, (.tmp rfl ResV.nil), good_none, ⟨_, rfl, rfl, rfl⟩⟩
   · intro hc3 hM
     refine J_skip <| T_seq <| J_seq <| J_seq <| J_region <| R_d 1 [] [(40, vT out3.l)] ?_
     obtain ⟨s3, hy7, hM⟩ := bind_some hM
     refine R_ss rfl hy7 <| R_z [] [(42, .bool (s3.l == ([43] : List UInt8)))] <| T_seq <| J_cd hM ?_ ?_
     · intro hc4 hM
       refine J_seq <| J_region <| R_d 1 [] [(43, vT out3.l)] ?_
       obtain ⟨s4, hy8, hM⟩ := bind_some hM
       refine R_ss rfl hy8 <| R_z [] [(2, vT s4.l)] <| T_seq <| J_ret <| T_then_ret ?_
       obtain rfl := pure_some hM
       exact T_RS ⟨_, _, (.tmp rfl ResV.nil), good_none, ⟨_, rfl, rfl, rfl⟩⟩
     · intro hc4 hM
       refine J_skip <| T_seq <| J_seq <| J_region <| R_z [] [(2, vT out3.l)] <| T_seq <| J_ret ?_
       obtain rfl := pure_some hM
       exact T_RS ⟨_, _, (.tmp rfl ResV.nil), good_none, ⟨_, rfl, rfl, rfl⟩⟩
def spec_FormatAffine_post (r : Str) : Nat → Imm → List HA → Value → Prop := fun kk imm' hs' v =>
  ∃ (v0 : Value), hs' = [] ∧ v = tupV [v0] ∧ v0 = .string ⟨⟨r.l⟩⟩
def M.spec_FormatAffine (a0 : impl_Affine) : Option (Str) := do
 let y ← M.spec_AffineValid a0
 if (!y) then
  pure (⟨[]⟩ : Str)
 else
  let y1 ← M.spec_l1Text a0
  pure (id y1)
theorem spec_FormatAffine_ok : ∀ (a0 : impl_Affine) r, M.spec_FormatAffine a0 = some r → ∀ {imm : Imm} {p : Option Addr} {c : Nat}, (SL imm (vS p a0.Coefs c) a0.Coefs) → Ret Tryd.prog 7 [vA [vS p a0.Coefs c, vI a0.Const]] imm [] (spec_FormatAffine_post  r) := by
 intro a0 r hM imm p c h
 unfold M.spec_FormatAffine at hM
 refine ret_of_J (fn := Tryd.f7) (c := (bodyOf Tryd.f7)) Tryd.func7 rfl rfl ?_
 rintro B - -
 have hle : imm.le imm := Imm.le.refl _
 refine J_seq <| J_region <| R_box (c := ⟨[vS p a0.Coefs c, vI a0.Const]⟩) rfl rfl rfl rfl rfl ?_
 intro b hb
 refine R_z [] [] <| T_seq <| J_seq <| J_seq <| J_region <| R_d 1 [0] [(3, vA [vS p a0.Coefs c, vI a0.Const])] ?_
 obtain ⟨y, hy, hM⟩ := bind_some hM
 refine R_call (hs1 := []) (rest := [hB b [vS p a0.Coefs c, vI a0.Const]]) rfl rfl rfl rfl (by kernel_rfl) rfl rfl (spec_AffineValid_ok a0 _ hy h) ?_
 rintro imm0 hs2 v2 k2 le - ⟨v0, rfl, rfl, rfl⟩ -
 replace h := h.mono le
 replace hle := hle.trans le
 refine R_z [] [(5, .bool (!y))] <| T_seq <| J_cd hM ?_ ?_
 · intro hc hM
   refine J_seq <| J_region <| R_z [] [(2, vT ([]))] <| T_seq <| J_ret <| T_then_ret ?_
   obtain rfl := pure_some hM
   exact T_RS ⟨_, _, (.tmp rfl ResV.nil), good_none, ⟨_, rfl, rfl, rfl⟩⟩
 · intro hc hM
   refine J_skip <| T_seq <| J_seq <| J_region <| R_d 1 [0] [(6, vA [vS p a0.Coefs c, vI a0.Const])] ?_
   obtain ⟨y1, hy1, hM⟩ := bind_some hM
   refine R_call (hs1 := []) (rest := [hB b [vS p a0.Coefs c, vI a0.Const]]) rfl rfl rfl rfl (by kernel_rfl) rfl rfl (spec_l1Text_ok a0 _ hy1 h) ?_
   rintro imm01 hs2 v2 k2 le1 - ⟨v01, rfl, rfl, rfl⟩ -
   replace h := h.mono le1
   replace hle := hle.trans le1
   refine R_z [] [(2, vT y1.l)] <| T_seq <| J_ret ?_
   obtain rfl := pure_some hM
   exact T_RS ⟨_, _, (.tmp rfl ResV.nil), good_none, ⟨_, rfl, rfl, rfl⟩⟩
def slices_Equal_int_int_post (r : Bool) : Nat → Imm → List HA → Value → Prop := fun kk imm' hs' v =>
  ∃ (v0 : Value), hs' = [] ∧ v = tupV [v0] ∧ v0 = .bool r
def M.slices_Equal_int_int_l1 (s1 : (List Int)) (s2 : (List Int)) (t13 : Int) : Option (Out Unit (Bool)) := do
 if (decide (t13 < (s1.length : Int))) then
  let x ← idx s1 t13
  let x1 ← idx s2 t13
  if (x != x1) then
   pure (.ret false)
  else
   M.slices_Equal_int_int_l1 s1 s2 (W (t13 + 1))
 else
  pure (.done ())
 partial_fixpoint
theorem slices_Equal_int_int_l1_ok (s1 : (List Int)) (s2 : (List Int)) : ∀ (t13 : Int) (o : Out Unit (Bool)), M.slices_Equal_int_int_l1 s1 s2 t13 = some o → ∀ {B : Base} {imm0 imm : Imm} {Q : Exit → Act → World → Prop}  {p : Option Addr} {c : Nat} {p1 : Option Addr} {c1 : Nat}, imm0.le imm → (SL imm (vS p s1 c) s1) → (SL imm (vS p1 s2 c1) s2) → (∀ l a w, ¬ Q (.goto l) a w) → (∀ a w, ¬ Q .outgrown a w) → (∀ (imm' : Imm) , o = (.done ()) → imm0.le imm' → T 26 B Q (.exit 0) imm' [] []) → (∀ r imm' hs' m', o = (.ret r) → imm0.le imm' → RS Tryd.prog Tryd.f27 B (slices_Equal_int_int_post  r) imm' hs' m' → T 26 B Q .ret imm' hs' m') → J Tryd.prog 26 B (nav (bodyOf Tryd.f27) [1, 1, 0, 1, 0]) Q imm [] [(0, vS p s1 c), (1, vS p1 s2 c1), (12, vI (s1.length : Int)), (13, vI t13)] := by
 refine M.slices_Equal_int_int_l1.partial_correctness s1 s2 _ ?_
 intro self ih t13 o hM B imm0 imm Q p c p1 c1 hle h h1 hg ho hx hr
 refine J_loop hg ho <| J_seq <| J_region <| R_z [] [(14, .bool (decide (t13 < (s1.length : Int))))] <| T_seq <| J_seq <| J_cd hM ?_ ?_
 · intro hc1 hM
   refine J_skip <| T_seq <| J_seq <| J_block <| J_seq <| J_region <| R_z [] [(5, vI t13)] <| T_seq <| J_seq <| J_region_q (by kernel_rfl) (by kernel_rfl) <| Rq_d 2 [] [(16, vS p s1 c), (17, vI t13)] ?_
   obtain ⟨x, hy, hM⟩ := bind_some hM
   refine Rq_ix rfl rfl h hy ?_
   intro ad ccs hat hrep
   obtain rfl := hrep
   refine Rq_la 0 hat [vI x] (vI x) rfl <| Rq_d 6 [] [(20, vS p1 s2 c1), (21, vI t13)] ?_
   obtain ⟨x1, hy1, hM⟩ := bind_some hM
   refine Rq_ix rfl rfl h1 hy1 ?_
   intro ad1 ccs1 hat1 hrep1
   obtain rfl := hrep1
   refine Rq_la 0 hat1 [vI x1] (vI x1) rfl <| Rq_z [] [(24, .bool (x != x1))] <| T_seq <| J_cd hM ?_ ?_
   · intro hc2 hM
     exact J_seq <| J_region <| R_z [] [(4, .bool false)] <| T_seq <| J_ret <| T_block_ret <| T_then_ret <| T_then_ret <| hr _ _ _ _ (pure_some hM).symm hle ⟨_, _, (.tmp rfl ResV.nil), good_none, ⟨_, rfl, rfl, rfl⟩⟩
   · intro hc2 hM
     exact J_skip <| T_block_normal <| T_seq <| J_region <| R_z [] [(13, vI (W (t13 + 1)))] <| T_loop <| J_w [(0, vS p s1 c), (1, vS p1 s2 c1), (12, vI (s1.length : Int)), (13, vI (W (t13 + 1)))] <| ih (W (t13 + 1)) _ hM hle h h1 hg ho hx hr
 · intro hc1 hM
   exact J_exit <| T_then_exit <| T_then_exit <| T_w [] <| hx _  (pure_some hM).symm hle
def M.slices_Equal_int_int (s1 : (List Int)) (s2 : (List Int)) : Option (Bool) := do
 if ((s1.length : Int) != (s2.length : Int)) then
  pure false
 else
  match ← M.slices_Equal_int_int_l1 s1 s2 0 with
  | .ret r0 => pure r0
  | .done _ =>
   pure true
theorem slices_Equal_int_int_ok : ∀ (s1 : (List Int)) (s2 : (List Int)) r, M.slices_Equal_int_int s1 s2 = some r → ∀ {imm : Imm} {p : Option Addr} {c : Nat} {p1 : Option Addr} {c1 : Nat}, (SL imm (vS p s1 c) s1) → (SL imm (vS p1 s2 c1) s2) → Ret Tryd.prog 27 [vS p s1 c, vS p1 s2 c1] imm [] (slices_Equal_int_int_post  r) := by
 intro s1 s2 r hM imm p c p1 c1 h h1
 unfold M.slices_Equal_int_int at hM
 refine ret_of_J (fn := Tryd.f27) (c := (bodyOf Tryd.f27)) Tryd.func27 rfl rfl ?_
 rintro B - -
 have hle : imm.le imm := Imm.le.refl _
 refine J_seq <| J_region <| R_z [] [] <| T_seq <| J_seq <| J_seq <| J_region <| R_z [] [(10, .bool ((s1.length : Int) != (s2.length : Int)))] <| T_seq <| J_cd hM ?_ ?_
 · intro hc hM
   refine J_seq <| J_region <| R_z [] [(4, .bool false)] <| T_seq <| J_ret <| T_then_ret ?_
   obtain rfl := pure_some hM
   exact T_RS ⟨_, _, (.tmp rfl ResV.nil), good_none, ⟨_, rfl, rfl, rfl⟩⟩
 · intro hc hM
   refine J_skip <| T_seq <| J_seq <| J_seq <| J_region <| R_z [] [(12, vI (s1.length : Int)), (13, vI 0)] <| T_seq <| J_block <| J_w [(0, vS p s1 c), (1, vS p1 s2 c1), (12, vI (s1.length : Int)), (13, vI 0)] ?_
   obtain ⟨o0, ho0, hMl⟩ := bind_some hM
   refine slices_Equal_int_int_l1_ok s1 s2 0 o0 ho0 (Imm.le.refl _) h h1 (fun _ _ _ h => h) (fun _ _ h => h) ?_ ?_
   · intro imm0  heq le
     subst o0
     replace hle := hle.trans le
     refine T_block_here <| T_seq <| J_seq <| J_region <| R_z [] [(4, .bool true)] <| T_seq <| J_ret ?_
     obtain rfl := pure_some hMl
     exact T_RS ⟨_, _, (.tmp rfl ResV.nil), good_none, ⟨_, rfl, rfl, rfl⟩⟩
   · intro r0 imm9 hs9 m9 heq9 le9 hrs9
     subst heq9
     refine T_block_ret <| T_then_ret ?_
     obtain rfl := pure_some hMl
     exact T_RS hrs9
def impl_AffineSame_post (r : Bool) : Nat → Imm → List HA → Value → Prop := fun kk imm' hs' v =>
  ∃ (v0 : Value), hs' = [] ∧ v = tupV [v0] ∧ v0 = .bool r
def M.impl_AffineSame (a0 : impl_Affine) (b : impl_Affine) : Option (Bool) := do
 let t4 ← (do
   let y ← M.slices_Equal_int_int a0.Coefs b.Coefs
   if y then
    pure (a0.Const == b.Const)
   else
    pure false
     : Option Bool)
 pure (id t4)
theorem impl_AffineSame_ok : ∀ (a0 : impl_Affine) (b : impl_Affine) r, M.impl_AffineSame a0 b = some r → ∀ {imm : Imm} {p : Option Addr} {c : Nat} {p1 : Option Addr} {c1 : Nat}, (SL imm (vS p a0.Coefs c) a0.Coefs) → (SL imm (vS p1 b.Coefs c1) b.Coefs) → Ret Tryd.prog 10 [vA [vS p a0.Coefs c, vI a0.Const], vA [vS p1 b.Coefs c1, vI b.Const]] imm [] (impl_AffineSame_post  r) := by
 intro a0 b r hM imm p c p1 c1 h h1
 unfold M.impl_AffineSame at hM
 refine ret_of_J (fn := Tryd.f10) (c := (bodyOf Tryd.f10)) Tryd.func10 rfl rfl ?_
 rintro B - -
 have hle : imm.le imm := Imm.le.refl _
 refine J_seq <| J_region <| R_box (c := ⟨[vS p a0.Coefs c, vI a0.Const]⟩) rfl rfl rfl rfl rfl ?_
 intro b1 hb
 refine R_box (c := ⟨[vS p1 b.Coefs c1, vI b.Const]⟩) rfl rfl rfl rfl rfl ?_
 intro b2 hb1
 refine R_z [] [] <| T_seq <| J_seq ?_
 obtain ⟨o0, ho0, hMc⟩ := bind_some hM
 refine J_cut (fun imm' hs' m' => ∃ (t4 : Bool), o0 = t4 ∧ imm.le imm' ∧ hs' = [] ∧ m' = [(4, .bool t4)]) ?_ ?_
 · have hle0 := hle
   have hle : imm.le imm := Imm.le.refl _
   refine J_region <| R_d 4 [1, 0] [(6, vS p a0.Coefs c), (8, vS p1 b.Coefs c1)] ?_
   obtain ⟨y, hy, hM⟩ := bind_some ho0
   refine R_call (hs1 := []) (rest := [hB b2 [vS p1 b.Coefs c1, vI b.Const], hB b1 [vS p a0.Coefs c, vI a0.Const]]) rfl rfl rfl rfl (by kernel_rfl) rfl rfl (slices_Equal_int_int_ok a0.Coefs b.Coefs _ hy h h1) ?_
   rintro imm01 hs2 v2 k2 le - ⟨v0, rfl, rfl, rfl⟩ -
   replace h1 := h1.mono le
   replace h := h.mono le
   replace hle := hle.trans le
   refine R_d 6 [] [(10, .bool y)] ?_
   cases hc : y with
   | true =>
    have hM0 := if_some_true hc hM
    try rw [hc]
    exact R_z [1, 0] [(4, .bool (a0.Const == b.Const))] <| T_hs (good_pick [] rfl (by decide)) <| T_w [(4, .bool (a0.Const == b.Const))] <| T_cut ⟨_, (pure_some hM0).symm, hle, rfl, rfl⟩
   | false =>
    have hM01 := if_some_false hc hM
    try rw [hc]
    exact R_z [] [(4, .bool false)] <| T_hs (good_pick [] rfl (by decide)) <| T_w [(4, .bool false)] <| T_cut ⟨_, (pure_some hM01).symm, hle, rfl, rfl⟩
 · rintro imm0 hs2 m2 ⟨t4, heq, le1, rfl, rfl⟩
   subst o0
   replace hle := hle.trans le1
   refine T_seq <| J_ret ?_
   obtain rfl := pure_some hMc
   exact T_RS ⟨_, _, (.tmp rfl ResV.nil), good_none, ⟨_, rfl, rfl, rfl⟩⟩
def spec_l16Rd_of_post (b0 : Nat) (r : Str × spec_l16Rd) : Nat → Imm → List HA → Value → Prop := fun kk imm' hs' v =>
  ∃ (v0 : Value) (k0 : List Value), hs' = [.blk b0 ⟨k0⟩] ∧ v = tupV [v0] ∧ v0 = .string ⟨⟨r.1.l⟩⟩ ∧ Rp.rep imm' k0 r.2
def M.spec_l16Rd_of (r0 : spec_l16Rd) (list : (List Str)) : Option (Str × spec_l16Rd) := do
 let (y1, y2) ← M.spec_l16Rd_pick r0 (list.length : Int)
 let x ← idx list y1
 pure (x, y2)
theorem spec_l16Rd_of_ok : ∀ (r0 : spec_l16Rd) (list : (List Str)) r, M.spec_l16Rd_of r0 list = some r → ∀ {imm : Imm} {r01 : Nat} {p : Option Addr} {c : Nat} {p1 : Option Addr} {c1 : Nat}, (SL imm (vS p r0.b c) r0.b) → (SL imm (vS p1 list c1) list) → Ret Tryd.prog 50 [vP r01 0, vS p1 list c1] imm [hB r01 [vS p r0.b c, vI r0.p]] (spec_l16Rd_of_post r01 r) := by
 intro r0 list r hM imm r01 p c p1 c1 h h1
 unfold M.spec_l16Rd_of at hM
 refine ret_of_J (fn := Tryd.f50) (c := (bodyOf Tryd.f50)) Tryd.func50 rfl rfl ?_
 rintro B - -
 have hle : imm.le imm := Imm.le.refl _
 refine J_seq <| J_region <| R_z [] [] <| T_seq <| J_seq <| J_region <| R_d 4 [] [(5, vS p1 list c1), (6, vP r01 0), (8, vI (list.length : Int))] ?_
 obtain ⟨⟨y1, y2⟩, hy, hM⟩ := bind_some hM
 refine R_call (hs1 := [hB r01 [vS p r0.b c, vI r0.p]]) (rest := []) rfl rfl rfl rfl (by kernel_rfl) rfl rfl (spec_l16Rd_pick_ok r0 (list.length : Int) _ hy h) ?_
 rintro imm0 hs2 v2 k2 le - ⟨v0, kk, rfl, rfl, rfl, h3⟩ -
 replace h1 := h1.mono le
 replace hle := hle.trans le
 obtain ⟨v01, rfl, h4⟩ := spec_l16Rd_open h3
 obtain ⟨p2, c2, rfl⟩ := h4.form
 obtain ⟨x, hy1, hM⟩ := bind_some hM
 refine R_ix rfl rfl h1 hy1 ?_
 intro ad ccs hat hrep
 obtain rfl := hrep
 refine R_la 0 hat [vT x.l] (vT x.l) rfl <| R_z [] [(4, vT x.l)] <| T_seq <| J_ret ?_
 obtain rfl := pure_some hM
 exact T_RS ⟨_, _, (.tmp rfl ResV.nil), (good_pick [0] rfl (by decide)), ⟨_, _, rfl, rfl, rfl, (spec_l16Rd_shut ⟨_, rfl, h4⟩)⟩⟩
def spec_l1Bend_post (b0 : Nat) (r : Str × spec_l16Rd) : Nat → Imm → List HA → Value → Prop := fun kk imm' hs' v =>
  ∃ (v0 : Value) (k0 : List Value), hs' = [.blk b0 ⟨k0⟩] ∧ v = tupV [v0] ∧ v0 = .string ⟨⟨r.1.l⟩⟩ ∧ Rp.rep imm' k0 r.2
def M.spec_l1Bend (r0 : spec_l16Rd) (s : Str) (bits : (List Str)) : Option (Str × spec_l16Rd) := do
 let (t15, x) ← (do
   if ((s.l.length : Int) == 0) then
    pure (true, r0)
   else
    let (y1, y2) ← M.spec_l16Rd_pick r0 2
    pure ((y1 == 0), y2)
     : Option (Bool × spec_l16Rd))
 if t15 then
  pure (s, x)
 else
  let (y4, y5) ← M.spec_l16Rd_pick x (s.l.length : Int)
  let s1 ← sslc s 0 y4
  let (y7, y8) ← M.spec_l16Rd_of y5 bits
  let s2 ← cat s1 y7
  let (y10, y11) ← M.spec_l16Rd_pick y8 2
  let s3 ← sslc s (W (y4 + y10)) (s.l.length : Int)
  let s4 ← cat s2 s3
  pure (s4, y11)
theorem spec_l1Bend_ok : ∀ (r0 : spec_l16Rd) (s : Str) (bits : (List Str)) r, M.spec_l1Bend r0 s bits = some r → ∀ {imm : Imm} {r01 : Nat} {p : Option Addr} {c : Nat} {p1 : Option Addr} {c1 : Nat}, (SL imm (vS p r0.b c) r0.b) → (SL imm (vS p1 bits c1) bits) → Ret Tryd.prog 29 [vP r01 0, vT s.l, vS p1 bits c1] imm [hB r01 [vS p r0.b c, vI r0.p]] (spec_l1Bend_post r01 r) := by
 intro r0 s bits r hM imm r01 p c p1 c1 h h1
 unfold M.spec_l1Bend at hM
 refine ret_of_J (fn := Tryd.f29) (c := (bodyOf Tryd.f29)) Tryd.func29 rfl rfl ?_
 rintro B - -
 have hle : imm.le imm := Imm.le.refl _
 refine J_seq <| J_region <| R_z [] [] <| T_seq <| J_seq <| J_seq ?_
 obtain ⟨o0, ho0, hMc⟩ := bind_some hM
 refine J_cut (fun imm' hs' m' => ∃ (t15 : Bool) (x : spec_l16Rd) (p2 : Option Addr) (c2 : Nat), o0 = (t15, x) ∧ imm.le imm' ∧ (SL imm' (vS p2 x.b c2) x.b) ∧ hs' = [hB r01 [vS p2 x.b c2, vI x.p]] ∧ m' = [(0, vP r01 0), (1, vT s.l), (2, vS p1 bits c1), (15, .bool t15)]) ?_ ?_
 · have hle0 := hle
   have hle : imm.le imm := Imm.le.refl _
   refine J_region <| R_d 4 [] [(11, .bool ((s.l.length : Int) == 0))] ?_
   cases hc : ((s.l.length : Int) == 0) with
   | true =>
    have hM0 := if_some_true hc ho0
    try rw [hc]
    exact R_z [] [(15, .bool true)] <| T_w [(0, vP r01 0), (1, vT s.l), (2, vS p1 bits c1), (15, .bool true)] <| T_cut ⟨_, _, _, _, (pure_some hM0).symm, hle, h, rfl, rfl⟩
   | false =>
    have hM01 := if_some_false hc ho0
    try rw [hc]
    refine R_d 5 [] [(12, vP r01 0)] ?_
    obtain ⟨⟨y1, y2⟩, hy, hM⟩ := bind_some hM01
    refine R_call (hs1 := [hB r01 [vS p r0.b c, vI r0.p]]) (rest := []) rfl rfl rfl rfl (by kernel_rfl) rfl rfl (spec_l16Rd_pick_ok r0 2 _ hy h) ?_
    rintro imm01 hs2 v2 k2 le - ⟨v0, kk, rfl, rfl, rfl, h4⟩ -
    replace h1 := h1.mono le
    replace hle := hle.trans le
    obtain ⟨v01, rfl, h5⟩ := spec_l16Rd_open h4
    obtain ⟨p3, c3, rfl⟩ := h5.form
    exact R_z [] [(15, .bool (y1 == 0))] <| T_w [(0, vP r01 0), (1, vT s.l), (2, vS p1 bits c1), (15, .bool (y1 == 0))] <| T_cut ⟨_, _, _, _, (pure_some hM).symm, hle, h5, rfl, rfl⟩
 · rintro imm0 hs2 m2 ⟨t15, x, p2, c2, heq, le1, h2, rfl, rfl⟩
   subst o0
   replace h1 := h1.mono le1
   replace hle := hle.trans le1
   refine T_seq <| J_cd hMc ?_ ?_
   · intro hc1 hM
     refine J_seq <| J_region <| R_z [] [(6, vT s.l)] <| T_seq <| J_ret <| T_then_ret ?_
     obtain rfl := pure_some hM
     exact T_RS ⟨_, _, (.tmp rfl ResV.nil), (good_pick [0] rfl (by decide)), ⟨_, _, rfl, rfl, rfl, (spec_l16Rd_shut ⟨_, rfl, h2⟩)⟩⟩
   · intro hc1 hM
     refine J_skip <| T_seq <| J_seq <| J_region <| R_d 3 [] [(17, vP r01 0), (19, vI (s.l.length : Int))] ?_
     obtain ⟨⟨y4, y5⟩, hy1, hM⟩ := bind_some hM
     refine R_call (hs1 := [hB r01 [vS p2 x.b c2, vI x.p]]) (rest := []) rfl rfl rfl rfl (by kernel_rfl) rfl rfl (spec_l16Rd_pick_ok x (s.l.length : Int) _ hy1 h2) ?_
     rintro imm02 hs2 v2 k2 le2 - ⟨v02, kk1, rfl, rfl, rfl, h7⟩ -
     replace h1 := h1.mono le2
     replace hle := hle.trans le2
     obtain ⟨v03, rfl, h8⟩ := spec_l16Rd_open h7
     obtain ⟨p4, c4, rfl⟩ := h8.form
     refine R_z [] [(7, vI y4)] <| T_seq <| J_seq ?_
     obtain ⟨s1, hy2, hM⟩ := bind_some hM
     obtain ⟨⟨y7, y8⟩, hy3, hM⟩ := bind_some hM
     obtain ⟨s2, hy4, hM⟩ := bind_some hM
     obtain ⟨⟨y10, y11⟩, hy5, hM⟩ := bind_some hM
     obtain ⟨s3, hy6, hM⟩ := bind_some hM
     obtain ⟨s4, hy7, hM⟩ := bind_some hM
     refine J_any [.p (vT s.l) [], .p (vI y4) [], .q (vT s1.l), .p (vP r01 0) [], .p (vS p1 bits c1) [], .x (fun imm' v hx => ∃ (p5 : Option Addr) (c5 : Nat), v = vT y7.l ∧ hx = [hB r01 [vS p5 y8.b c5, vI y8.p]] ∧ (SL imm' (vS p5 y8.b c5) y8.b)), .q (vT s2.l), .p (vT s.l) [], .p (vI y4) [], .p (vP r01 0) [], .x (fun imm' v hx => ∃ (p6 : Option Addr) (c6 : Nat), v = vI y10 ∧ hx = [hB r01 [vS p6 y11.b c6, vI y11.p]] ∧ (SL imm' (vS p6 y11.b c6) y11.b)), .q (vI (W (y4 + y10))), .q (vT s3.l), .q (vT s4.l)] [[], [], [(0, false), (1, false)], [], [], [(3, false), (4, false), (15, true)], [(2, false), (5, false)], [], [], [], [(9, false), (5, true)], [(8, false), (10, false)], [(7, false), (11, false)], [(6, false), (12, false)]] [] [[hB r01 [vS p4 y5.b c4, vI y5.p]]] [(10, true), (13, false)] (good_pick [0] rfl (by decide)) ?_ ?_
     · refine Op <| Op <| Oq ?_ <| Op <| Op <| Ox ?_ <| Oq ?_ <| Op <| Op <| Op <| Ox ?_ <| Oq ?_ <| Oq ?_ <| Oq ?_ <| On
       · intro imm1 hf le1
         refine Ins_cons ?_
         rintro _ _ ⟨rfl, rfl⟩
         refine Ins_cons ?_
         rintro _ _ ⟨rfl, rfl⟩
         refine Ins_nil <| R_isw (hf) [(21, vT s.l), (22, vI y4)] ?_
         have hle := Imm.le.refl imm1
         exact R_ss rfl hy2 <| R_out (hx := []) rfl hle rfl (out_some rfl) ⟨rfl, rfl⟩
       · intro imm1 hf le1
         refine Ins_cons ?_
         rintro _ _ ⟨rfl, rfl⟩
         refine Ins_cons ?_
         rintro _ _ ⟨rfl, rfl⟩
         refine Ins_cons ?_
         rintro _ _ rfl
         refine Ins_nil <| R_isw (hB r01 [vS p4 y5.b c4, vI y5.p] :: hf) [(24, vP r01 0), (25, vS p1 bits c1)] ?_
         have hle := Imm.le.refl imm1
         replace h1 := h1.mono le1
         replace h8 := h8.mono le1
         refine R_call (hs1 := [hB r01 [vS p4 y5.b c4, vI y5.p]]) (rest := (hf)) rfl rfl rfl rfl (by kernel_rfl) rfl rfl (spec_l16Rd_of_ok y5 bits _ hy3 h8 h1) ?_
         rintro imm03 hs2 v2 k2 le3 - ⟨v04, kk2, rfl, rfl, rfl, h10⟩ -
         replace h1 := h1.mono le3
         replace hle := hle.trans le3
         obtain ⟨v05, rfl, h11⟩ := spec_l16Rd_open h10
         obtain ⟨p5, c5, rfl⟩ := h11.form
         exact R_out (hx := [hB r01 [vS p5 y8.b c5, vI y8.p]]) rfl hle rfl (out_some rfl) ⟨_, _, rfl, rfl, h11⟩
       · intro imm1 hf le1
         refine Ins_cons ?_
         rintro _ _ ⟨rfl, rfl⟩
         refine Ins_cons ?_
         rintro _ _ ⟨p5, c5, rfl, rfl, h11⟩
         refine Ins_nil <| R_isw (hf) [(23, vT s1.l), (26, vT y7.l)] ?_
         have hle := Imm.le.refl imm1
         exact R_ca rfl hy4 <| R_out (hx := []) rfl hle rfl (out_some rfl) ⟨rfl, rfl⟩
       · intro imm1 hf le1
         refine Ins_cons ?_
         rintro _ _ ⟨rfl, rfl⟩
         refine Ins_cons ?_
         rintro _ _ ⟨p5, c5, rfl, rfl, h11⟩
         refine Ins_nil <| R_isw (hB r01 [vS p5 y8.b c5, vI y8.p] :: hf) [(30, vP r01 0)] ?_
         have hle := Imm.le.refl imm1
         refine R_call (hs1 := [hB r01 [vS p5 y8.b c5, vI y8.p]]) (rest := (hf)) rfl rfl rfl rfl (by kernel_rfl) rfl rfl (spec_l16Rd_pick_ok y8 2 _ hy5 h11) ?_
         rintro imm04 hs2 v2 k2 le4 - ⟨v06, kk3, rfl, rfl, rfl, h13⟩ -
         replace hle := hle.trans le4
         obtain ⟨v07, rfl, h14⟩ := spec_l16Rd_open h13
         obtain ⟨p6, c6, rfl⟩ := h14.form
         exact R_out (hx := [hB r01 [vS p6 y11.b c6, vI y11.p]]) rfl hle rfl (out_some rfl) ⟨_, _, rfl, rfl, h14⟩
       · intro imm1 hf le1
         refine Ins_cons ?_
         rintro _ _ ⟨rfl, rfl⟩
         refine Ins_cons ?_
         rintro _ _ ⟨p6, c6, rfl, rfl, h14⟩
         refine Ins_nil <| R_isw (hf) [(29, vI y4), (31, vI y10)] ?_
         have hle := Imm.le.refl imm1
         exact R_p 12 [(32, vI (W (y4 + y10)))] <| R_out (hx := []) rfl hle rfl (out_some rfl) ⟨rfl, rfl⟩
       · intro imm1 hf le1
         refine Ins_cons ?_
         rintro _ _ ⟨rfl, rfl⟩
         refine Ins_cons ?_
         rintro _ _ ⟨rfl, rfl⟩
         refine Ins_nil <| R_isw (hf) [(28, vT s.l), (32, vI (W (y4 + y10)))] ?_
         have hle := Imm.le.refl imm1
         exact R_ss rfl hy6 <| R_out (hx := []) rfl hle rfl (out_some rfl) ⟨rfl, rfl⟩
       · intro imm1 hf le1
         refine Ins_cons ?_
         rintro _ _ ⟨rfl, rfl⟩
         refine Ins_cons ?_
         rintro _ _ ⟨rfl, rfl⟩
         refine Ins_nil <| R_isw (hf) [(27, vT s2.l), (33, vT s3.l)] ?_
         have hle := Imm.le.refl imm1
         exact R_ca rfl hy7 <| R_out (hx := []) rfl hle rfl (out_some rfl) ⟨rfl, rfl⟩
     · intro imm05 le5
       refine Ins_cons ?_
       rintro _ _ ⟨p6, c6, rfl, rfl, h14⟩
       refine Ins_cons ?_
       rintro _ _ ⟨rfl, rfl⟩
       refine Ins_nil <| R_isw [hB r01 [vS p6 y11.b c6, vI y11.p]] [(34, vT s4.l)] ?_
       replace hle := hle.trans le5
       refine R_z [] [(6, vT s4.l)] <| T_seq <| J_ret ?_
       obtain rfl := pure_some hM
       exact T_RS ⟨_, _, (.tmp rfl ResV.nil), (good_pick [0] rfl (by decide)), ⟨_, _, rfl, rfl, rfl, (spec_l16Rd_shut ⟨_, rfl, h14⟩)⟩⟩
def spec_DrawParseAffine_post (r : Str) : Nat → Imm → List HA → Value → Prop := fun kk imm' hs' v =>
  ∃ (v0 : Value), hs' = [] ∧ v = tupV [v0] ∧ v0 = .string ⟨⟨r.l⟩⟩
def M.spec_DrawParseAffine (code : (List UInt8)) : Option (Str) := do
 let y ← M.spec_l16Open code
 let (y2, y3) ← M.spec_l16Rd_pick y 5
 let (y5, y6) ← M.spec_l1Draw y3 y2
 let y7 ← M.spec_l1Text y5
 let (y9, y10) ← M.spec_l1Bend y6 y7 ([(⟨[]⟩ : Str), (⟨[43]⟩ : Str), (⟨[45]⟩ : Str), (⟨[105]⟩ : Str), (⟨[48]⟩ : Str), (⟨[42]⟩ : Str), (⟨[49]⟩ : Str), (⟨[107]⟩ : Str)] : List Str)
 pure (id y9)
theorem spec_DrawParseAffine_ok : ∀ (code : (List UInt8)) r, M.spec_DrawParseAffine code = some r → ∀ {imm : Imm} {p : Option Addr} {c : Nat}, (SL imm (vS p code c) code) → Ret Tryd.prog 11 [vS p code c] imm [] (spec_DrawParseAffine_post  r) := by
 intro code r hM imm p c h
 unfold M.spec_DrawParseAffine at hM
 refine ret_of_J (fn := Tryd.f11) (c := (bodyOf Tryd.f11)) Tryd.func11 rfl rfl ?_
 rintro B - -
 have hle : imm.le imm := Imm.le.refl _
 refine J_seq <| J_region <| R_z [] [] <| T_seq <| J_seq <| J_region <| R_d 1 [] [(4, vS p code c)] ?_
 obtain ⟨y, hy, hM⟩ := bind_some hM
 refine R_call (hs1 := []) (rest := []) rfl rfl rfl rfl (by kernel_rfl) rfl rfl (spec_l16Open_ok code _ hy h) ?_
 rintro imm0 hs2 v2 k2 le - ⟨b, p1, c1, rfl, rfl, h1⟩ -
 replace hle := hle.trans le
 refine R_z [] [(3, vP b 0)] <| T_seq <| J_seq <| J_region <| R_d 3 [] [(6, vP b 0), (7, vP b 0), (8, vP b 0)] ?_
 obtain ⟨⟨y2, y3⟩, hy1, hM⟩ := bind_some hM
 refine R_call (hs1 := [hB b [vS p1 y.b c1, vI y.p]]) (rest := []) rfl rfl rfl rfl (by kernel_rfl) rfl rfl (spec_l16Rd_pick_ok y 5 _ hy1 h1) ?_
 rintro imm01 hs2 v2 k2 le1 - ⟨v0, kk, rfl, rfl, rfl, h3⟩ -
 replace hle := hle.trans le1
 obtain ⟨v01, rfl, h4⟩ := spec_l16Rd_open h3
 obtain ⟨p2, c2, rfl⟩ := h4.form
 obtain ⟨⟨y5, y6⟩, hy2, hM⟩ := bind_some hM
 refine R_call (hs1 := [hB b [vS p2 y3.b c2, vI y3.p]]) (rest := []) rfl rfl rfl rfl (by kernel_rfl) rfl rfl (spec_l1Draw_ok y3 y2 _ hy2 h4) ?_
 rintro imm02 hs2 v2 k2 le2 - ⟨v02, kk1, rfl, rfl, ⟨cs, rfl, h5⟩, h6⟩ -
 replace hle := hle.trans le2
 obtain ⟨v03, rfl, h7⟩ := impl_Affine_open h5
 obtain ⟨p3, c3, rfl⟩ := h7.form
 obtain ⟨v04, rfl, h8⟩ := spec_l16Rd_open h6
 obtain ⟨p4, c4, rfl⟩ := h8.form
 obtain ⟨y7, hy3, hM⟩ := bind_some hM
 refine R_call (hs1 := []) (rest := [hB b [vS p4 y6.b c4, vI y6.p]]) rfl rfl rfl rfl (by kernel_rfl) rfl rfl (spec_l1Text_ok y5 _ hy3 h7) ?_
 rintro imm03 hs2 v2 k2 le3 - ⟨v05, rfl, rfl, rfl⟩ -
 replace h8 := h8.mono le3
 replace hle := hle.trans le3
 refine R_buildSlice (cs := [vT ([]), vT ([43]), vT ([45]), vT ([105]), vT ([48]), vT ([42]), vT ([49]), vT ([107])]) (Rp.sz Str) rfl rfl rfl rfl (by kernel_rfl) (by kernel_rfl) ?_
 intro b1 hb
 have h10 : RL imm03 [vT ([]), vT ([43]), vT ([45]), vT ([105]), vT ([48]), vT ([42]), vT ([49]), vT ([107])] ([(⟨[]⟩ : Str), (⟨[43]⟩ : Str), (⟨[45]⟩ : Str), (⟨[105]⟩ : Str), (⟨[48]⟩ : Str), (⟨[42]⟩ : Str), (⟨[49]⟩ : Str), (⟨[107]⟩ : Str)] : List Str) := ⟨[vT ([])], _, rfl, rfl, rfl, ⟨[vT ([43])], _, rfl, rfl, rfl, ⟨[vT ([45])], _, rfl, rfl, rfl, ⟨[vT ([105])], _, rfl, rfl, rfl, ⟨[vT ([48])], _, rfl, rfl, rfl, ⟨[vT ([42])], _, rfl, rfl, rfl, ⟨[vT ([49])], _, rfl, rfl, rfl, ⟨[vT ([107])], _, rfl, rfl, rfl, rfl⟩⟩⟩⟩⟩⟩⟩⟩
 refine R_freeze 0 rfl ?_
 intro imm04 le4 hl0
 have h11 := SL.of_frozen hl0 le4 h10
 replace h8 := h8.mono le4
 replace hle := hle.trans le4
 obtain ⟨⟨y9, y10⟩, hy4, hM⟩ := bind_some hM
 refine R_call (hs1 := [hB b [vS p4 y6.b c4, vI y6.p]]) (rest := []) rfl rfl rfl rfl (by kernel_rfl) rfl rfl (spec_l1Bend_ok y6 y7 ([(⟨[]⟩ : Str), (⟨[43]⟩ : Str), (⟨[45]⟩ : Str), (⟨[105]⟩ : Str), (⟨[48]⟩ : Str), (⟨[42]⟩ : Str), (⟨[49]⟩ : Str), (⟨[107]⟩ : Str)] : List Str) _ hy4 h8 h11) ?_
 rintro imm05 hs2 v2 k2 le5 - ⟨v06, kk2, rfl, rfl, rfl, h13⟩ -
 replace hle := hle.trans le5
 obtain ⟨v07, rfl, h14⟩ := spec_l16Rd_open h13
 obtain ⟨p5, c5, rfl⟩ := h14.form
 refine R_z [] [(2, vT y9.l)] <| T_seq <| J_ret ?_
 obtain rfl := pure_some hM
 exact T_RS ⟨_, _, (.tmp rfl ResV.nil), good_none, ⟨_, rfl, rfl, rfl⟩⟩
def spec_l16Num_post (r : Int × Bool) : Nat → Imm → List HA → Value → Prop := fun kk imm' hs' v =>
  ∃ (v0 : Value) (v1 : Value), hs' = [] ∧ v = tupV [v0, v1] ∧ v0 = .int .i64 r.1 ∧ v1 = .bool r.2
def M.spec_l16Num_l1 (s1 : Str) (n0 : Int) (i : Int) : Option (Out Int (Int × Bool)) := do
 if (decide (i < (s1.l.length : Int))) then
  let t54 ← (do
    let b2 ← sidx s1 i
    if (decide ((b2.toNat : Int) < 48)) then
     pure true
    else
     let b3 ← sidx s1 i
     pure (decide ((b3.toNat : Int) > 57))
      : Option Bool)
  if t54 then
   pure (.ret (0, false))
  else
   let b4 ← sidx s1 i
   M.spec_l16Num_l1 s1 (W ((W (n0 * 10)) + (W (IntKind.u8.wrap ((b4.toNat : Int) - 48))))) (W (i + 1))
 else
  pure (.done n0)
 partial_fixpoint
theorem spec_l16Num_l1_ok (s1 : Str) : ∀ (n0 : Int) (i : Int) (o : Out Int (Int × Bool)), M.spec_l16Num_l1 s1 n0 i = some o → ∀ {B : Base} {imm0 imm : Imm} {Q : Exit → Act → World → Prop} {neg : Bool} , imm0.le imm → (∀ l a w, ¬ Q (.goto l) a w) → (∀ a w, ¬ Q .outgrown a w) → (∀ (imm' : Imm) (n01 : Int), o = (.done n01) → imm0.le imm' → T 67 B Q (.exit 0) imm' [] [(4, .bool neg), (5, vI n01)]) → (∀ r imm' hs' m', o = (.ret r) → imm0.le imm' → RS Tryd.prog Tryd.f71 B (spec_l16Num_post  r) imm' hs' m' → T 67 B Q .ret imm' hs' m') → J Tryd.prog 67 B (nav (bodyOf Tryd.f71) [1, 1, 1, 1, 1, 0, 1, 0]) Q imm [] [(0, vT s1.l), (4, .bool neg), (5, vI n0), (6, vI i)] := by
 refine M.spec_l16Num_l1.partial_correctness s1 _ ?_
 intro self ih n0 i o hM B imm0 imm Q neg hle  hg ho hx hr
 refine J_loop hg ho <| J_seq <| J_seq <| J_region <| R_z [] [(42, .bool (decide (i < (s1.l.length : Int))))] <| T_seq <| J_cd hM ?_ ?_
 · intro hc7 hM
   refine J_skip <| T_seq <| J_seq <| J_block <| J_seq <| J_seq ?_
   obtain ⟨o03, ho03, hMc3⟩ := bind_some hM
   refine J_cut (fun imm' hs' m' => ∃ (t54 : Bool), o03 = t54 ∧ imm.le imm' ∧ hs' = [] ∧ m' = [(0, vT s1.l), (4, .bool neg), (5, vI n0), (6, vI i), (54, .bool t54)]) ?_ ?_
   · have hle03 := hle
     have hle : imm.le imm := Imm.le.refl _
     refine J_region <| R_d 2 [] [(45, vT s1.l), (46, vI i)] ?_
     obtain ⟨b2, hy3, hM⟩ := bind_some ho03
     refine R_si rfl rfl hy3 <| R_d 5 [] [(49, .bool (decide ((b2.toNat : Int) < 48)))] ?_
     cases hc8 : (decide ((b2.toNat : Int) < 48)) with
     | true =>
      have hM010 := if_some_true hc8 hM
      try rw [hc8]
      exact R_z [] [(54, .bool true)] <| T_w [(0, vT s1.l), (4, .bool neg), (5, vI n0), (6, vI i), (54, .bool true)] <| T_cut ⟨_, (pure_some hM010).symm, hle, rfl, rfl⟩
     | false =>
      have hM011 := if_some_false hc8 hM
      try rw [hc8]
      refine R_d 7 [] [(50, vT s1.l), (51, vI i)] ?_
      obtain ⟨b3, hy4, hM⟩ := bind_some hM011
      exact R_si rfl rfl hy4 <| R_z [] [(54, .bool (decide ((b3.toNat : Int) > 57)))] <| T_w [(0, vT s1.l), (4, .bool neg), (5, vI n0), (6, vI i), (54, .bool (decide ((b3.toNat : Int) > 57)))] <| T_cut ⟨_, (pure_some hM).symm, hle, rfl, rfl⟩
   · rintro imm03 hs2 m2 ⟨t54, heq3, le3, rfl, rfl⟩
     subst o03
     replace hle := hle.trans le3
     refine T_seq <| J_cd hMc3 ?_ ?_
     · intro hc9 hM
       exact J_seq <| J_region <| R_z [] [(2, vI 0), (3, .bool false)] <| T_seq <| J_ret <| T_then_ret <| T_block_ret <| T_then_ret <| T_then_ret <| hr _ _ _ _ (pure_some hM).symm hle ⟨_, _, (.tmp rfl (.tmp rfl ResV.nil)), good_none, ⟨_, _, rfl, rfl, rfl, rfl⟩⟩
     · intro hc9 hM
       refine J_skip <| T_seq <| J_region <| R_d 4 [] [(56, vI (W (n0 * 10))), (57, vT s1.l), (58, vI i)] ?_
       obtain ⟨b4, hy5, hM⟩ := bind_some hM
       exact R_si rfl rfl hy5 <| R_z [] [(5, vI (W ((W (n0 * 10)) + (W (IntKind.u8.wrap ((b4.toNat : Int) - 48))))))] <| T_block_normal <| T_seq <| J_region <| R_z [] [(6, vI (W (i + 1)))] <| T_loop <| J_w [(0, vT s1.l), (4, .bool neg), (5, vI (W ((W (n0 * 10)) + (W (IntKind.u8.wrap ((b4.toNat : Int) - 48)))))), (6, vI (W (i + 1)))] <| ih (W ((W (n0 * 10)) + (W (IntKind.u8.wrap ((b4.toNat : Int) - 48))))) (W (i + 1)) _ hM hle  hg ho hx hr
 · intro hc7 hM
   exact J_exit <| T_then_exit <| T_then_exit <| T_w [(4, .bool neg), (5, vI n0)] <| hx _ _ (pure_some hM).symm hle
def M.spec_l16Num (s : Str) : Option (Int × Bool) := do
 let neg ← (do
   if (decide ((s.l.length : Int) > 0)) then
    let b ← sidx s 0
    pure ((b.toNat : Int) == 45)
   else
    pure false
     : Option Bool)
 let s1 ← (do
   if neg then
    let s2 ← sslc s 1 (s.l.length : Int)
    pure (id s2)
   else
    pure (id s)
     : Option Str)
 let t38 ← (do
   if ((s1.l.length : Int) == 0) then
    pure true
   else
    if (decide ((s1.l.length : Int) > 17)) then
     pure true
    else
     let b1 ← sidx s1 0
     if ((b1.toNat : Int) == 48) then
      if (decide ((s1.l.length : Int) > 1)) then
       pure true
      else
       pure (id neg)
     else
      pure false
     : Option Bool)
 if t38 then
  pure (0, false)
 else
  match ← M.spec_l16Num_l1 s1 0 0 with
  | .ret r0 => pure r0
  | .done n01 =>
   let n02 ← (do
     if neg then
      pure (W (0 - n01))
     else
      pure (id n01)
       : Option Int)
   pure (n02, true)
theorem spec_l16Num_ok : ∀ (s : Str) r, M.spec_l16Num s = some r → ∀ {imm : Imm} , Ret Tryd.prog 71 [vT s.l] imm [] (spec_l16Num_post  r) := by
 intro s r hM imm
 unfold M.spec_l16Num at hM
 refine ret_of_J (fn := Tryd.f71) (c := (bodyOf Tryd.f71)) Tryd.func71 rfl rfl ?_
 rintro B - -
 have hle : imm.le imm := Imm.le.refl _
 refine J_seq <| J_region <| R_z [] [] <| T_seq <| J_seq ?_
 obtain ⟨o0, ho0, hMc⟩ := bind_some hM
 refine J_cut (fun imm' hs' m' => ∃ (neg : Bool), o0 = neg ∧ imm.le imm' ∧ hs' = [] ∧ m' = [(0, vT s.l), (4, .bool neg)]) ?_ ?_
 · have hle0 := hle
   have hle : imm.le imm := Imm.le.refl _
   refine J_region <| R_d 4 [] [(10, .bool (decide ((s.l.length : Int) > 0)))] ?_
   cases hc : (decide ((s.l.length : Int) > 0)) with
   | true =>
    have hM0 := if_some_true hc ho0
    try rw [hc]
    refine R_d 5 [] [(11, vT s.l)] ?_
    obtain ⟨b, hy, hM⟩ := bind_some hM0
    exact R_si rfl rfl hy <| R_z [] [(4, .bool ((b.toNat : Int) == 45))] <| T_w [(0, vT s.l), (4, .bool ((b.toNat : Int) == 45))] <| T_cut ⟨_, (pure_some hM).symm, hle, rfl, rfl⟩
   | false =>
    have hM01 := if_some_false hc ho0
    try rw [hc]
    exact R_z [] [(4, .bool false)] <| T_w [(0, vT s.l), (4, .bool false)] <| T_cut ⟨_, (pure_some hM01).symm, hle, rfl, rfl⟩
 · rintro imm0 hs2 m2 ⟨neg, heq, le, rfl, rfl⟩
   subst o0
   replace hle := hle.trans le
   refine T_seq <| J_seq <| J_seq <| J_region <| R_z [] [(15, .bool neg)] <| T_seq ?_
   obtain ⟨o01, ho01, hMc1⟩ := bind_some hMc
   refine J_cut (fun imm' hs' m' => ∃ (s1 : Str), o01 = s1 ∧ imm0.le imm' ∧ hs' = [] ∧ m' = [(0, vT s1.l), (4, .bool neg)]) ?_ ?_
   · have hle01 := hle
     have hle : imm0.le imm0 := Imm.le.refl _
     refine J_cd ho01 ?_ ?_
     · intro hc1 hM
       refine J_region <| R_d 1 [] [(16, vT s.l)] ?_
       obtain ⟨s2, hy1, hM⟩ := bind_some hM
       exact R_ss rfl hy1 <| R_z [] [(0, vT s2.l)] <| T_w [(0, vT s2.l), (4, .bool neg)] <| T_cut ⟨_, (pure_some hM).symm, hle, rfl, rfl⟩
     · intro hc1 hM
       exact J_skip <| T_w [(0, vT s.l), (4, .bool neg)] <| T_cut ⟨_, (pure_some hM).symm, hle, rfl, rfl⟩
   · rintro imm01 hs2 m2 ⟨s1, heq1, le1, rfl, rfl⟩
     subst o01
     replace hle := hle.trans le1
     refine T_seq <| J_seq <| J_seq ?_
     obtain ⟨o02, ho02, hMc2⟩ := bind_some hMc1
     refine J_cut (fun imm' hs' m' => ∃ (t38 : Bool), o02 = t38 ∧ imm01.le imm' ∧ hs' = [] ∧ m' = [(0, vT s1.l), (4, .bool neg), (38, .bool t38)]) ?_ ?_
     · have hle02 := hle
       have hle : imm01.le imm01 := Imm.le.refl _
       refine J_region <| R_d 4 [] [(21, .bool ((s1.l.length : Int) == 0))] ?_
       cases hc2 : ((s1.l.length : Int) == 0) with
       | true =>
        have hM02 := if_some_true hc2 ho02
        try rw [hc2]
        exact R_z [] [(38, .bool true)] <| T_w [(0, vT s1.l), (4, .bool neg), (38, .bool true)] <| T_cut ⟨_, (pure_some hM02).symm, hle, rfl, rfl⟩
       | false =>
        have hM03 := if_some_false hc2 ho02
        try rw [hc2]
        refine R_d 9 [] [(26, .bool (decide ((s1.l.length : Int) > 17)))] ?_
        cases hc3 : (decide ((s1.l.length : Int) > 17)) with
        | true =>
         have hM04 := if_some_true hc3 hM03
         try rw [hc3]
         exact R_z [] [(38, .bool true)] <| T_w [(0, vT s1.l), (4, .bool neg), (38, .bool true)] <| T_cut ⟨_, (pure_some hM04).symm, hle, rfl, rfl⟩
        | false =>
         have hM05 := if_some_false hc3 hM03
         try rw [hc3]
         refine R_d 10 [] [(27, vT s1.l)] ?_
         obtain ⟨b1, hy2, hM⟩ := bind_some hM05
         refine R_si rfl rfl hy2 <| R_d 13 [] [(30, .bool ((b1.toNat : Int) == 48))] ?_
         cases hc4 : ((b1.toNat : Int) == 48) with
         | true =>
          have hM06 := if_some_true hc4 hM
          try rw [hc4]
          refine R_d 17 [] [(34, .bool (decide ((s1.l.length : Int) > 1)))] ?_
          cases hc5 : (decide ((s1.l.length : Int) > 1)) with
          | true =>
           have hM07 := if_some_true hc5 hM06
           try rw [hc5]
           exact R_z [] [(38, .bool true)] <| T_w [(0, vT s1.l), (4, .bool neg), (38, .bool true)] <| T_cut ⟨_, (pure_some hM07).symm, hle, rfl, rfl⟩
          | false =>
           have hM08 := if_some_false hc5 hM06
           try rw [hc5]
           exact R_z [] [(38, .bool neg)] <| T_w [(0, vT s1.l), (4, .bool neg), (38, .bool neg)] <| T_cut ⟨_, (pure_some hM08).symm, hle, rfl, rfl⟩
         | false =>
          have hM09 := if_some_false hc4 hM
          try rw [hc4]
          exact R_z [] [(38, .bool false)] <| T_w [(0, vT s1.l), (4, .bool neg), (38, .bool false)] <| T_cut ⟨_, (pure_some hM09).symm, hle, rfl, rfl⟩
     · rintro imm02 hs2 m2 ⟨t38, heq2, le2, rfl, rfl⟩
       subst o02
       replace hle := hle.trans le2
       refine T_seq <| J_cd hMc2 ?_ ?_
       · intro hc6 hM
         refine J_seq <| J_region <| R_z [] [(2, vI 0), (3, .bool false)] <| T_seq <| J_ret <| T_then_ret ?_
         obtain rfl := pure_some hM
         exact T_RS ⟨_, _, (.tmp rfl (.tmp rfl ResV.nil)), good_none, ⟨_, _, rfl, rfl, rfl, rfl⟩⟩
       · intro hc6 hM
         refine J_skip <| T_seq <| J_seq <| J_region <| R_z [] [(5, vI 0)] <| T_seq <| J_seq <| J_seq <| J_region <| R_z [] [(6, vI 0)] <| T_seq <| J_block <| J_w [(0, vT s1.l), (4, .bool neg), (5, vI 0), (6, vI 0)] ?_
         obtain ⟨o04, ho04, hMl⟩ := bind_some hM
         refine spec_l16Num_l1_ok s1 0 0 o04 ho04 (Imm.le.refl _)  (fun _ _ _ h => h) (fun _ _ h => h) ?_ ?_
         · intro imm04 n01 heq4 le4
           subst o04
           replace hle := hle.trans le4
           refine T_block_here <| T_seq <| J_seq <| J_seq <| J_region <| R_z [] [(63, .bool neg)] <| T_seq ?_
           obtain ⟨o05, ho05, hMc4⟩ := bind_some hMl
           refine J_cut (fun imm' hs' m' => ∃ (n02 : Int), o05 = n02 ∧ imm04.le imm' ∧ hs' = [] ∧ m' = [(5, vI n02)]) ?_ ?_
           · have hle04 := hle
             have hle : imm04.le imm04 := Imm.le.refl _
             refine J_cd ho05 ?_ ?_
             · intro hc10 hM
               exact J_region <| R_z [] [(5, vI (W (0 - n01)))] <| T_w [(5, vI (W (0 - n01)))] <| T_cut ⟨_, (pure_some hM).symm, hle, rfl, rfl⟩
             · intro hc10 hM
               exact J_skip <| T_w [(5, vI n01)] <| T_cut ⟨_, (pure_some hM).symm, hle, rfl, rfl⟩
           · rintro imm05 hs2 m2 ⟨n02, heq5, le5, rfl, rfl⟩
             subst o05
             replace hle := hle.trans le5
             refine T_seq <| J_seq <| J_region <| R_z [] [(2, vI n02), (3, .bool true)] <| T_seq <| J_ret ?_
             obtain rfl := pure_some hMc4
             exact T_RS ⟨_, _, (.tmp rfl (.tmp rfl ResV.nil)), good_none, ⟨_, _, rfl, rfl, rfl, rfl⟩⟩
         · intro r0 imm9 hs9 m9 heq9 le9 hrs9
           subst heq9
           refine T_block_ret <| T_then_ret ?_
           obtain rfl := pure_some hMl
           exact T_RS hrs9
def spec_l1Digits_post (r : Int × Int) : Nat → Imm → List HA → Value → Prop := fun kk imm' hs' v =>
  ∃ (v0 : Value) (v1 : Value), hs' = [] ∧ v = tupV [v0, v1] ∧ v0 = .int .i64 r.1 ∧ v1 = .int .i64 r.2
def M.spec_l1Digits_l1 (s : Str) (at0 : Int) (end0 : Int) : Option (Int) := do
 let t31 ← (do
   if (decide (end0 < (s.l.length : Int))) then
    if (decide (end0 < (W (at0 + 2)))) then
     let b ← sidx s end0
     if (decide ((b.toNat : Int) ≥ 48)) then
      let b1 ← sidx s end0
      pure (decide ((b1.toNat : Int) ≤ 57))
     else
      pure false
    else
     pure false
   else
    pure false
     : Option Bool)
 if t31 then
  M.spec_l1Digits_l1 s at0 (W (end0 + 1))
 else
  pure (id end0)
 partial_fixpoint
theorem spec_l1Digits_l1_ok (s : Str) (at0 : Int) : ∀ (end0 : Int) (o : Int), M.spec_l1Digits_l1 s at0 end0 = some o → ∀ {B : Base} {imm0 imm : Imm} {Q : Exit → Act → World → Prop}  , imm0.le imm → (∀ l a w, ¬ Q (.goto l) a w) → (∀ a w, ¬ Q .outgrown a w) → (∀ (imm' : Imm) (end01 : Int), o = end01 → imm0.le imm' → T 47 B Q (.exit 0) imm' [] [(0, vT s.l), (1, vI at0), (6, vI end01)]) → J Tryd.prog 47 B (nav (bodyOf Tryd.f53) [1, 1, 0, 0]) Q imm [] [(0, vT s.l), (1, vI at0), (6, vI end0)] := by
 refine M.spec_l1Digits_l1.partial_correctness s at0 _ ?_
 intro self ih end0 o hM B imm0 imm Q  hle  hg ho hx
 refine J_loop hg ho <| J_seq <| J_seq ?_
 obtain ⟨o0, ho0, hMc⟩ := bind_some hM
 refine J_cut (fun imm' hs' m' => ∃ (t31 : Bool), o0 = t31 ∧ imm.le imm' ∧ hs' = [] ∧ m' = [(0, vT s.l), (1, vI at0), (6, vI end0), (31, .bool t31)]) ?_ ?_
 · have hle0 := hle
   have hle : imm.le imm := Imm.le.refl _
   refine J_region <| R_d 5 [] [(14, .bool (decide (end0 < (s.l.length : Int))))] ?_
   cases hc : (decide (end0 < (s.l.length : Int))) with
   | true =>
    have hM0 := if_some_true hc ho0
    try rw [hc]
    refine R_d 11 [] [(20, .bool (decide (end0 < (W (at0 + 2)))))] ?_
    cases hc1 : (decide (end0 < (W (at0 + 2)))) with
    | true =>
     have hM01 := if_some_true hc1 hM0
     try rw [hc1]
     refine R_d 13 [] [(21, vT s.l), (22, vI end0)] ?_
     obtain ⟨b, hy, hM⟩ := bind_some hM01
     refine R_si rfl rfl hy <| R_d 17 [] [(26, .bool (decide ((b.toNat : Int) ≥ 48)))] ?_
     cases hc2 : (decide ((b.toNat : Int) ≥ 48)) with
     | true =>
      have hM02 := if_some_true hc2 hM
      try rw [hc2]
      refine R_d 19 [] [(27, vT s.l), (28, vI end0)] ?_
      obtain ⟨b1, hy1, hM⟩ := bind_some hM02
      exact R_si rfl rfl hy1 <| R_z [] [(31, .bool (decide ((b1.toNat : Int) ≤ 57)))] <| T_w [(0, vT s.l), (1, vI at0), (6, vI end0), (31, .bool (decide ((b1.toNat : Int) ≤ 57)))] <| T_cut ⟨_, (pure_some hM).symm, hle, rfl, rfl⟩
     | false =>
      have hM03 := if_some_false hc2 hM
      try rw [hc2]
      exact R_z [] [(31, .bool false)] <| T_w [(0, vT s.l), (1, vI at0), (6, vI end0), (31, .bool false)] <| T_cut ⟨_, (pure_some hM03).symm, hle, rfl, rfl⟩
    | false =>
     have hM04 := if_some_false hc1 hM0
     try rw [hc1]
     exact R_z [] [(31, .bool false)] <| T_w [(0, vT s.l), (1, vI at0), (6, vI end0), (31, .bool false)] <| T_cut ⟨_, (pure_some hM04).symm, hle, rfl, rfl⟩
   | false =>
    have hM05 := if_some_false hc ho0
    try rw [hc]
    exact R_z [] [(31, .bool false)] <| T_w [(0, vT s.l), (1, vI at0), (6, vI end0), (31, .bool false)] <| T_cut ⟨_, (pure_some hM05).symm, hle, rfl, rfl⟩
 · rintro imm0 hs2 m2 ⟨t31, heq, le, rfl, rfl⟩
   subst o0
   replace hle := hle.trans le
   refine T_seq <| J_cd hMc ?_ ?_
   · intro hc3 hM
     exact J_skip <| T_seq <| J_block <| J_region <| R_z [] [(6, vI (W (end0 + 1)))] <| T_block_normal <| T_loop <| J_w [(0, vT s.l), (1, vI at0), (6, vI (W (end0 + 1)))] <| ih (W (end0 + 1)) _ hM hle  hg ho hx
   · intro hc3 hM
     exact J_exit <| T_then_exit <| T_then_exit <| T_w [(0, vT s.l), (1, vI at0), (6, vI end0)] <| hx _ _ (pure_some hM).symm hle
def M.spec_l1Digits (s : Str) (at0 : Int) : Option (Int × Int) := do
 let end01 ← M.spec_l1Digits_l1 s at0 at0
 let s1 ← sslc s at0 end01
 let (y1, y2) ← M.spec_l16Num s1
 if (!y2) then
  pure (1, at0)
 else
  pure (y1, end01)
theorem spec_l1Digits_ok : ∀ (s : Str) (at0 : Int) r, M.spec_l1Digits s at0 = some r → ∀ {imm : Imm} , Ret Tryd.prog 53 [vT s.l, vI at0] imm [] (spec_l1Digits_post  r) := by
 intro s at0 r hM imm
 unfold M.spec_l1Digits at hM
 refine ret_of_J (fn := Tryd.f53) (c := (bodyOf Tryd.f53)) Tryd.func53 rfl rfl ?_
 rintro B - -
 have hle : imm.le imm := Imm.le.refl _
 refine J_seq <| J_region <| R_z [] [] <| T_seq <| J_seq <| J_region <| R_z [] [(6, vI at0)] <| T_seq <| J_seq <| J_block <| J_w [(0, vT s.l), (1, vI at0), (6, vI at0)] ?_
 obtain ⟨o01, ho01, hMl⟩ := bind_some hM
 refine spec_l1Digits_l1_ok s at0 at0 o01 ho01 (Imm.le.refl _)  (fun _ _ _ h => h) (fun _ _ h => h) ?_
 intro imm01 end01 heq1 le1
 subst o01
 replace hle := hle.trans le1
 refine T_block_here <| T_seq <| J_seq <| J_region <| R_d 3 [] [(35, vT s.l), (36, vI at0), (37, vI end01)] ?_
 obtain ⟨s1, hy2, hM⟩ := bind_some hMl
 refine R_ss rfl hy2 ?_
 obtain ⟨⟨y1, y2⟩, hy3, hM⟩ := bind_some hM
 refine R_call (hs1 := []) (rest := []) rfl rfl rfl rfl (by kernel_rfl) rfl rfl (spec_l16Num_ok s1 _ hy3 ) ?_
 rintro imm02 hs2 v2 k2 le2 - ⟨v0, v01, rfl, rfl, rfl, rfl⟩ -
 replace hle := hle.trans le2
 refine R_z [] [(7, vI y1), (8, .bool y2)] <| T_seq <| J_seq <| J_seq <| J_region <| R_z [] [(43, .bool (!y2))] <| T_seq <| J_cd hM ?_ ?_
 · intro hc4 hM
   refine J_seq <| J_region <| R_z [] [(4, vI 1), (5, vI at0)] <| T_seq <| J_ret <| T_then_ret ?_
   obtain rfl := pure_some hM
   exact T_RS ⟨_, _, (.tmp rfl (.tmp rfl ResV.nil)), good_none, ⟨_, _, rfl, rfl, rfl, rfl⟩⟩
 · intro hc4 hM
   refine J_skip <| T_seq <| J_seq <| J_region <| R_z [] [(4, vI y1), (5, vI end01)] <| T_seq <| J_ret ?_
   obtain rfl := pure_some hM
   exact T_RS ⟨_, _, (.tmp rfl (.tmp rfl ResV.nil)), good_none, ⟨_, _, rfl, rfl, rfl, rfl⟩⟩
def spec_l1Name_post (r : Int) : Nat → Imm → List HA → Value → Prop := fun kk imm' hs' v =>
  ∃ (v0 : Value), hs' = [] ∧ v = tupV [v0] ∧ v0 = .int .i64 r
def M.spec_l1Name (s : Str) (at0 : Int) : Option (Int) := do
 let t20 ← (do
   if (decide (at0 ≥ (s.l.length : Int))) then
    pure true
   else
    let b ← sidx s at0
    if (decide ((b.toNat : Int) < 105)) then
     pure true
    else
     let b1 ← sidx s at0
     pure (decide ((b1.toNat : Int) > 108))
     : Option Bool)
 if t20 then
  pure (-1)
 else
  let b2 ← sidx s at0
  pure (W ((W (b2.toNat : Int)) - 105))
theorem spec_l1Name_ok : ∀ (s : Str) (at0 : Int) r, M.spec_l1Name s at0 = some r → ∀ {imm : Imm} , Ret Tryd.prog 54 [vT s.l, vI at0] imm [] (spec_l1Name_post  r) := by
 intro s at0 r hM imm
 unfold M.spec_l1Name at hM
 refine ret_of_J (fn := Tryd.f54) (c := (bodyOf Tryd.f54)) Tryd.func54 rfl rfl ?_
 rintro B - -
 have hle : imm.le imm := Imm.le.refl _
 refine J_seq <| J_region <| R_z [] [] <| T_seq <| J_seq <| J_seq ?_
 obtain ⟨o0, ho0, hMc⟩ := bind_some hM
 refine J_cut (fun imm' hs' m' => ∃ (t20 : Bool), o0 = t20 ∧ imm.le imm' ∧ hs' = [] ∧ m' = [(0, vT s.l), (1, vI at0), (20, .bool t20)]) ?_ ?_
 · have hle0 := hle
   have hle : imm.le imm := Imm.le.refl _
   refine J_region <| R_d 5 [] [(9, .bool (decide (at0 ≥ (s.l.length : Int))))] ?_
   cases hc : (decide (at0 ≥ (s.l.length : Int))) with
   | true =>
    have hM0 := if_some_true hc ho0
    try rw [hc]
    exact R_z [] [(20, .bool true)] <| T_w [(0, vT s.l), (1, vI at0), (20, .bool true)] <| T_cut ⟨_, (pure_some hM0).symm, hle, rfl, rfl⟩
   | false =>
    have hM01 := if_some_false hc ho0
    try rw [hc]
    refine R_d 7 [] [(10, vT s.l), (11, vI at0)] ?_
    obtain ⟨b, hy, hM⟩ := bind_some hM01
    refine R_si rfl rfl hy <| R_d 11 [] [(15, .bool (decide ((b.toNat : Int) < 105)))] ?_
    cases hc1 : (decide ((b.toNat : Int) < 105)) with
    | true =>
     have hM02 := if_some_true hc1 hM
     try rw [hc1]
     exact R_z [] [(20, .bool true)] <| T_w [(0, vT s.l), (1, vI at0), (20, .bool true)] <| T_cut ⟨_, (pure_some hM02).symm, hle, rfl, rfl⟩
    | false =>
     have hM03 := if_some_false hc1 hM
     try rw [hc1]
     refine R_d 13 [] [(16, vT s.l), (17, vI at0)] ?_
     obtain ⟨b1, hy1, hM⟩ := bind_some hM03
     exact R_si rfl rfl hy1 <| R_z [] [(20, .bool (decide ((b1.toNat : Int) > 108)))] <| T_w [(0, vT s.l), (1, vI at0), (20, .bool (decide ((b1.toNat : Int) > 108)))] <| T_cut ⟨_, (pure_some hM).symm, hle, rfl, rfl⟩
 · rintro imm0 hs2 m2 ⟨t20, heq, le, rfl, rfl⟩
   subst o0
   replace hle := hle.trans le
   refine T_seq <| J_cd hMc ?_ ?_
   · intro hc2 hM
     refine J_seq <| J_region <| R_z [] [(4, vI (-1))] <| T_seq <| J_ret <| T_then_ret ?_
     obtain rfl := pure_some hM
     exact T_RS ⟨_, _, (.tmp rfl ResV.nil), good_none, ⟨_, rfl, rfl, rfl⟩⟩
   · intro hc2 hM
     refine J_skip <| T_seq <| J_seq <| J_region <| R_d 2 [] [(21, vT s.l), (22, vI at0)] ?_
     obtain ⟨b2, hy2, hM⟩ := bind_some hM
     refine R_si rfl rfl hy2 <| R_z [] [(4, vI (W ((W (b2.toNat : Int)) - 105)))] <| T_seq <| J_ret ?_
     obtain rfl := pure_some hM
     exact T_RS ⟨_, _, (.tmp rfl ResV.nil), good_none, ⟨_, rfl, rfl, rfl⟩⟩
def spec_l1Parse_post (r : impl_Affine × Int) : Nat → Imm → List HA → Value → Prop := fun kk imm' hs' v =>
  ∃ (v0 : Value) (v1 : Value), hs' = [] ∧ v = tupV [v0, v1] ∧ (∃ cs, v0 = .agg ⟨cs⟩ ∧ Rp.rep imm' cs r.1) ∧ v1 = .int .i64 r.2
def M.spec_l1Parse (a0 : impl_Affine) (s : Str) (at0 : Int) : Option (impl_Affine × Int) := do
 let b2 ← sidx s at0
 let sign ← (do
   if ((b2.toNat : Int) == 45) then
    pure (-1)
   else
    pure (id 1)
     : Option Int)
 let t27 ← (do
   let b3 ← sidx s at0
   if ((b3.toNat : Int) == 45) then
    pure true
   else
    let b4 ← sidx s at0
    pure ((b4.toNat : Int) == 43)
     : Option Bool)
 let at01 ← (do
   if t27 then
    pure (W (at0 + 1))
   else
    pure (id at0)
     : Option Int)
 let (y1, y2) ← M.spec_l1Digits s at01
 let t51 ← (do
   if (decide (y2 > at01)) then
    if (decide (y2 < (s.l.length : Int))) then
     let b5 ← sidx s y2
     pure ((b5.toNat : Int) == 42)
    else
     pure false
   else
    pure false
     : Option Bool)
 let star ← (do
   if t51 then
    pure (W (y2 + 1))
   else
    pure (id y2)
     : Option Int)
 let y3 ← M.spec_l1Name s star
 let l ← app 8 ([] : List Int) a0.Coefs
 let t75 ← (do
   if (decide (y3 ≥ 0)) then
    if (decide (star > y2)) then
     pure true
    else
     pure (y2 == at01)
   else
    pure false
     : Option Bool)
 if t75 then
  let x ← idx l y3
  let x1 ← idx l y3
  let l1 ← pure (l.set y3.toNat (W (x + (W (sign * y1)))))
  pure ((impl_Affine.mk l1 a0.Const), (W (star + 1)))
 else
  if (y2 == at01) then
   pure (a0, (-1))
  else
   pure ((impl_Affine.mk l (W (a0.Const + (W (sign * y1))))), y2)
theorem spec_l1Parse_ok : ∀ (a0 : impl_Affine) (s : Str) (at0 : Int) r, M.spec_l1Parse a0 s at0 = some r → ∀ {imm : Imm} {p : Option Addr} {c : Nat}, (SL imm (vS p a0.Coefs c) a0.Coefs) → Ret Tryd.prog 33 [vA [vS p a0.Coefs c, vI a0.Const], vT s.l, vI at0] imm [] (spec_l1Parse_post  r) := by
 intro a0 s at0 r hM imm p c h
 unfold M.spec_l1Parse at hM
 refine ret_of_J (fn := Tryd.f33) (c := (bodyOf Tryd.f33)) Tryd.func33 rfl rfl ?_
 rintro B - -
 have hle : imm.le imm := Imm.le.refl _
 refine J_seq <| J_region <| R_box (c := ⟨[vS p a0.Coefs c, vI a0.Const]⟩) rfl rfl rfl rfl rfl ?_
 intro b hb
 refine R_alloc (c := ⟨[.slice none 0 0, vI 0]⟩) rfl rfl rfl (by kernel_rfl) ?_
 intro b1 hb1
 refine R_z [] [] <| T_seq <| J_seq <| J_region <| R_z [] [(8, vI 1)] <| T_seq <| J_seq <| J_seq <| J_region <| R_d 2 [] [(14, vT s.l), (15, vI at0)] ?_
 obtain ⟨b2, hy, hM⟩ := bind_some hM
 refine R_si rfl rfl hy <| R_z [] [(17, .bool ((b2.toNat : Int) == 45))] <| T_seq ?_
 obtain ⟨o0, ho0, hMc⟩ := bind_some hM
 refine J_cut (fun imm' hs' m' => ∃ (sign : Int), o0 = sign ∧ imm.le imm' ∧ hs' = [hB b1 [.slice none 0 0, vI 0], hB b [vS p a0.Coefs c, vI a0.Const]] ∧ m' = [(1, vT s.l), (2, vI at0), (3, vP b 0), (6, vP b1 0), (8, vI sign)]) ?_ ?_
 · have hle0 := hle
   have hle : imm.le imm := Imm.le.refl _
   refine J_cd ho0 ?_ ?_
   · intro hc hM
     exact J_region <| R_z [] [(8, vI (-1))] <| T_w [(1, vT s.l), (2, vI at0), (3, vP b 0), (6, vP b1 0), (8, vI (-1))] <| T_cut ⟨_, (pure_some hM).symm, hle, rfl, rfl⟩
   · intro hc hM
     exact J_skip <| T_w [(1, vT s.l), (2, vI at0), (3, vP b 0), (6, vP b1 0), (8, vI 1)] <| T_cut ⟨_, (pure_some hM).symm, hle, rfl, rfl⟩
 · rintro imm0 hs2 m2 ⟨sign, heq, le, rfl, rfl⟩
   subst o0
   replace h := h.mono le
   replace hle := hle.trans le
   refine T_seq <| J_seq <| J_seq ?_
   obtain ⟨o01, ho01, hMc1⟩ := bind_some hMc
   refine J_cut (fun imm' hs' m' => ∃ (t27 : Bool), o01 = t27 ∧ imm0.le imm' ∧ hs' = [hB b1 [.slice none 0 0, vI 0], hB b [vS p a0.Coefs c, vI a0.Const]] ∧ m' = [(1, vT s.l), (2, vI at0), (3, vP b 0), (6, vP b1 0), (8, vI sign), (27, .bool t27)]) ?_ ?_
   · have hle01 := hle
     have hle : imm0.le imm0 := Imm.le.refl _
     refine J_region <| R_d 2 [] [(18, vT s.l), (19, vI at0)] ?_
     obtain ⟨b3, hy1, hM⟩ := bind_some ho01
     refine R_si rfl rfl hy1 <| R_d 5 [] [(22, .bool ((b3.toNat : Int) == 45))] ?_
     cases hc1 : ((b3.toNat : Int) == 45) with
     | true =>
      have hM0 := if_some_true hc1 hM
      try rw [hc1]
      exact R_z [] [(27, .bool true)] <| T_w [(1, vT s.l), (2, vI at0), (3, vP b 0), (6, vP b1 0), (8, vI sign), (27, .bool true)] <| T_cut ⟨_, (pure_some hM0).symm, hle, rfl, rfl⟩
     | false =>
      have hM01 := if_some_false hc1 hM
      try rw [hc1]
      refine R_d 7 [] [(23, vT s.l), (24, vI at0)] ?_
      obtain ⟨b4, hy2, hM⟩ := bind_some hM01
      exact R_si rfl rfl hy2 <| R_z [] [(27, .bool ((b4.toNat : Int) == 43))] <| T_w [(1, vT s.l), (2, vI at0), (3, vP b 0), (6, vP b1 0), (8, vI sign), (27, .bool ((b4.toNat : Int) == 43))] <| T_cut ⟨_, (pure_some hM).symm, hle, rfl, rfl⟩
   · rintro imm01 hs2 m2 ⟨t27, heq1, le1, rfl, rfl⟩
     subst o01
     replace h := h.mono le1
     replace hle := hle.trans le1
     refine T_seq ?_
     obtain ⟨o02, ho02, hMc2⟩ := bind_some hMc1
     refine J_cut (fun imm' hs' m' => ∃ (at01 : Int), o02 = at01 ∧ imm01.le imm' ∧ hs' = [hB b1 [.slice none 0 0, vI 0], hB b [vS p a0.Coefs c, vI a0.Const]] ∧ m' = [(1, vT s.l), (2, vI at01), (3, vP b 0), (6, vP b1 0), (8, vI sign)]) ?_ ?_
     · have hle02 := hle
       have hle : imm01.le imm01 := Imm.le.refl _
       refine J_cd ho02 ?_ ?_
       · intro hc2 hM
         exact J_region <| R_z [] [(2, vI (W (at0 + 1)))] <| T_w [(1, vT s.l), (2, vI (W (at0 + 1))), (3, vP b 0), (6, vP b1 0), (8, vI sign)] <| T_cut ⟨_, (pure_some hM).symm, hle, rfl, rfl⟩
       · intro hc2 hM
         exact J_skip <| T_w [(1, vT s.l), (2, vI at0), (3, vP b 0), (6, vP b1 0), (8, vI sign)] <| T_cut ⟨_, (pure_some hM).symm, hle, rfl, rfl⟩
     · rintro imm02 hs2 m2 ⟨at01, heq2, le2, rfl, rfl⟩
       subst o02
       replace h := h.mono le2
       replace hle := hle.trans le2
       refine T_seq <| J_seq <| J_region <| R_d 2 [] [(31, vT s.l), (32, vI at01)] ?_
       obtain ⟨⟨y1, y2⟩, hy3, hM⟩ := bind_some hMc2
       refine R_call (hs1 := []) (rest := [hB b1 [.slice none 0 0, vI 0], hB b [vS p a0.Coefs c, vI a0.Const]]) rfl rfl rfl rfl (by kernel_rfl) rfl rfl (spec_l1Digits_ok s at01 _ hy3 ) ?_
       rintro imm03 hs2 v2 k2 le3 - ⟨v0, v01, rfl, rfl, rfl, rfl⟩ -
       replace h := h.mono le3
       replace hle := hle.trans le3
       refine R_z [] [(9, vI y1), (10, vI y2)] <| T_seq <| J_seq <| J_region <| R_z [] [(11, vI y2)] <| T_seq <| J_seq <| J_seq ?_
       obtain ⟨o03, ho03, hMc3⟩ := bind_some hM
       refine J_cut (fun imm' hs' m' => ∃ (t51 : Bool), o03 = t51 ∧ imm03.le imm' ∧ hs' = [hB b1 [.slice none 0 0, vI 0], hB b [vS p a0.Coefs c, vI a0.Const]] ∧ m' = [(1, vT s.l), (2, vI at01), (3, vP b 0), (6, vP b1 0), (8, vI sign), (9, vI y1), (10, vI y2), (11, vI y2), (51, .bool t51)]) ?_ ?_
       · have hle03 := hle
         have hle : imm03.le imm03 := Imm.le.refl _
         refine J_region <| R_d 4 [] [(40, .bool (decide (y2 > at01)))] ?_
         cases hc3 : (decide (y2 > at01)) with
         | true =>
          have hM02 := if_some_true hc3 ho03
          try rw [hc3]
          refine R_d 10 [] [(46, .bool (decide (y2 < (s.l.length : Int))))] ?_
          cases hc4 : (decide (y2 < (s.l.length : Int))) with
          | true =>
           have hM03 := if_some_true hc4 hM02
           try rw [hc4]
           refine R_d 12 [] [(47, vT s.l), (48, vI y2)] ?_
           obtain ⟨b5, hy4, hM⟩ := bind_some hM03
           exact R_si rfl rfl hy4 <| R_z [] [(51, .bool ((b5.toNat : Int) == 42))] <| T_w [(1, vT s.l), (2, vI at01), (3, vP b 0), (6, vP b1 0), (8, vI sign), (9, vI y1), (10, vI y2), (11, vI y2), (51, .bool ((b5.toNat : Int) == 42))] <| T_cut ⟨_, (pure_some hM).symm, hle, rfl, rfl⟩
          | false =>
           have hM04 := if_some_false hc4 hM02
           try rw [hc4]
           exact R_z [] [(51, .bool false)] <| T_w [(1, vT s.l), (2, vI at01), (3, vP b 0), (6, vP b1 0), (8, vI sign), (9, vI y1), (10, vI y2), (11, vI y2), (51, .bool false)] <| T_cut ⟨_, (pure_some hM04).symm, hle, rfl, rfl⟩
         | false =>
          have hM05 := if_some_false hc3 ho03
          try rw [hc3]
          exact R_z [] [(51, .bool false)] <| T_w [(1, vT s.l), (2, vI at01), (3, vP b 0), (6, vP b1 0), (8, vI sign), (9, vI y1), (10, vI y2), (11, vI y2), (51, .bool false)] <| T_cut ⟨_, (pure_some hM05).symm, hle, rfl, rfl⟩
       · rintro imm04 hs2 m2 ⟨t51, heq3, le4, rfl, rfl⟩
         subst o03
         replace h := h.mono le4
         replace hle := hle.trans le4
         refine T_seq ?_
         obtain ⟨o04, ho04, hMc4⟩ := bind_some hMc3
         refine J_cut (fun imm' hs' m' => ∃ (star : Int), o04 = star ∧ imm04.le imm' ∧ hs' = [hB b1 [.slice none 0 0, vI 0], hB b [vS p a0.Coefs c, vI a0.Const]] ∧ m' = [(1, vT s.l), (2, vI at01), (3, vP b 0), (6, vP b1 0), (8, vI sign), (9, vI y1), (10, vI y2), (11, vI star)]) ?_ ?_
         · have hle04 := hle
           have hle : imm04.le imm04 := Imm.le.refl _
           refine J_cd ho04 ?_ ?_
           · intro hc5 hM
             exact J_region <| R_z [] [(11, vI (W (y2 + 1)))] <| T_w [(1, vT s.l), (2, vI at01), (3, vP b 0), (6, vP b1 0), (8, vI sign), (9, vI y1), (10, vI y2), (11, vI (W (y2 + 1)))] <| T_cut ⟨_, (pure_some hM).symm, hle, rfl, rfl⟩
           · intro hc5 hM
             exact J_skip <| T_w [(1, vT s.l), (2, vI at01), (3, vP b 0), (6, vP b1 0), (8, vI sign), (9, vI y1), (10, vI y2), (11, vI y2)] <| T_cut ⟨_, (pure_some hM).symm, hle, rfl, rfl⟩
         · rintro imm05 hs2 m2 ⟨star, heq4, le5, rfl, rfl⟩
           subst o04
           replace h := h.mono le5
           replace hle := hle.trans le5
           refine T_seq <| J_seq <| J_region <| R_d 2 [] [(54, vT s.l), (55, vI star)] ?_
           obtain ⟨y3, hy5, hM⟩ := bind_some hMc4
           refine R_call (hs1 := []) (rest := [hB b1 [.slice none 0 0, vI 0], hB b [vS p a0.Coefs c, vI a0.Const]]) rfl rfl rfl rfl (by kernel_rfl) rfl rfl (spec_l1Name_ok s star _ hy5 ) ?_
           rintro imm06 hs2 v2 k2 le6 - ⟨v02, rfl, rfl, rfl⟩ -
           replace h := h.mono le6
           replace hle := hle.trans le6
           refine R_z [] [(12, vI y3)] <| T_seq <| J_seq ?_
           obtain ⟨l, hy6, hM⟩ := bind_some hM
           refine J_any [.x (fun imm' v hx => ∃ (b6 : Nat), v = vS (some ⟨b6, 0, none⟩) ([] : List Int) 0 ∧ hx = [hO Int (vS (some ⟨b6, 0, none⟩) ([] : List Int) 0) []] ∧ (RL imm' [] ([] : List Int))), .p (vP b 0) [], .p (vS p a0.Coefs c) [1], .x (fun imm' v hx => ∃ (p1 : Option Addr) (c1 : Nat) (cs : List Value), v = vS p1 l c1 ∧ hx = [hO Int (vS p1 l c1) cs] ∧ (RL imm' cs l)), .p (vP b 1) [], .p (vI a0.Const) [1], .x (fun imm' v hx => ∃ (p11 : Option Addr) (c11 : Nat) (cs1 : List Value), v = vA [vS p11 l c11, vI a0.Const] ∧ hx = [hO Int (vS p11 l c11) cs1] ∧ (RL imm' cs1 l)), .x (fun imm' v hx => ∃ (b7 : Nat), v = vP b7 0 ∧ hx = [hB b7 [.slice none 0 0, vI 0]])] [[], [], [(1, false)], [(0, true), (2, false)], [], [(4, false)], [(3, true), (5, false)], []] [hB b1 [.slice none 0 0, vI 0], hB b [vS p a0.Coefs c, vI a0.Const]] [] [(6, true), (7, true)] (good_pick [0, 1] rfl (by decide)) ?_ ?_
           · refine Ox ?_ <| Op <| Op <| Ox ?_ <| Op <| Op <| Ox ?_ <| Ox ?_ <| On
             · intro imm1 hf le1
               refine Ins_nil <| R_isw (hB b1 [.slice none 0 0, vI 0] :: hB b [vS p a0.Coefs c, vI a0.Const] :: hf) [] ?_
               have hle := Imm.le.refl imm1
               refine R_buildSlice (cs := []) (Rp.sz Int) rfl rfl rfl rfl (by kernel_rfl) (by kernel_rfl) ?_
               intro b6 hb2
               have h4 : RL imm1 [] ([] : List Int) := rfl
               exact R_out (hx := [hO Int (vS (some ⟨b6, 0, none⟩) ([] : List Int) 0) []]) rfl hle rfl (out_some rfl) ⟨_, rfl, rfl, h4⟩
             · intro imm1 hf le1
               refine Ins_cons ?_
               rintro _ _ ⟨b6, rfl, rfl, h4⟩
               refine Ins_cons ?_
               rintro _ _ ⟨rfl, rfl⟩
               refine Ins_nil <| R_isw (hO Int (vS (some ⟨b6, 0, none⟩) ([] : List Int) 0) [] :: hB b1 [.slice none 0 0, vI 0] :: hB b [vS p a0.Coefs c, vI a0.Const] :: hf) [(57, vS (some ⟨b6, 0, none⟩) ([] : List Int) 0), (59, vS p a0.Coefs c)] ?_
               have hle := Imm.le.refl imm1
               replace h := h.mono le1
               obtain ⟨ccs, k0, k01⟩ := h
               have h : SL imm1 (vS p a0.Coefs c) a0.Coefs := ⟨_, k0, k01⟩
               refine R_ap 3 1 0 rfl rfl rfl h4 (.inl k0) k01 hy6 ?_
               intro p1 c1 cs h5
               exact R_hseq (hs' := (hO Int (vS p1 l c1) cs :: hB b1 [.slice none 0 0, vI 0] :: hB b [vS p a0.Coefs c, vI a0.Const] :: hf)) rfl <| R_out (hx := [hO Int (vS p1 l c1) cs]) rfl hle rfl (out_some rfl) ⟨_, _, _, rfl, rfl, h5⟩
             · intro imm1 hf le1
               refine Ins_cons ?_
               rintro _ _ ⟨p1, c1, cs, rfl, rfl, h5⟩
               refine Ins_cons ?_
               rintro _ _ ⟨rfl, rfl⟩
               refine Ins_nil <| R_isw (hO Int (vS p1 l c1) cs :: hB b1 [.slice none 0 0, vI 0] :: hB b [vS p a0.Coefs c, vI a0.Const] :: hf) [(60, vS p1 l c1), (62, vI a0.Const)] ?_
               have hle := Imm.le.refl imm1
               exact R_p 7 [(63, vA [vS p1 l c1, vI a0.Const])] <| R_out (hx := [hO Int (vS p1 l c1) cs]) rfl hle rfl (out_some rfl) ⟨_, _, _, rfl, rfl, h5⟩
             · intro imm1 hf le1
               refine Ins_nil <| R_isw (hB b1 [.slice none 0 0, vI 0] :: hB b [vS p a0.Coefs c, vI a0.Const] :: hf) [] ?_
               have hle := Imm.le.refl imm1
               refine R_alloc (c := ⟨[.slice none 0 0, vI 0]⟩) rfl rfl rfl (by kernel_rfl) ?_
               intro b7 hb3
               exact R_out (hx := [hB b7 [.slice none 0 0, vI 0]]) rfl hle rfl (out_some rfl) ⟨_, rfl, rfl⟩
           · intro imm07 le7
             refine Ins_cons ?_
             rintro _ _ ⟨p11, c11, cs1, rfl, rfl, h51⟩
             refine Ins_cons ?_
             rintro _ _ ⟨b7, rfl, rfl⟩
             refine Ins_nil <| R_isw [hB b7 [.slice none 0 0, vI 0], hO Int (vS p11 l c11) cs1, hB b1 [.slice none 0 0, vI 0], hB b [vS p a0.Coefs c, vI a0.Const]] [(2, vI at01), (3, vP b 0), (6, vP b1 0), (8, vI sign), (9, vI y1), (10, vI y2), (11, vI star), (12, vI y3), (13, vP b7 0), (63, vA [vS p11 l c11, vI a0.Const])] ?_
             replace h := h.mono le7
             replace hle := hle.trans le7
             refine R_sb 0 [vS p11 l c11, vI a0.Const] [hB b7 [vS p11 l c11, vI a0.Const], hO Int (vS p11 l c11) cs1, hB b1 [.slice none 0 0, vI 0], hB b [vS p a0.Coefs c, vI a0.Const]] rfl rfl rfl rfl <| R_end rfl <| T_seq <| J_seq <| J_seq ?_
             obtain ⟨o05, ho05, hMc5⟩ := bind_some hM
             refine J_cut (fun imm' hs' m' => ∃ (t75 : Bool), o05 = t75 ∧ imm07.le imm' ∧ hs' = [hB b7 [vS p11 l c11, vI a0.Const], hO Int (vS p11 l c11) cs1, hB b1 [.slice none 0 0, vI 0], hB b [vS p a0.Coefs c, vI a0.Const]] ∧ m' = [(2, vI at01), (3, vP b 0), (6, vP b1 0), (8, vI sign), (9, vI y1), (10, vI y2), (11, vI star), (12, vI y3), (13, vP b7 0), (75, .bool t75)]) ?_ ?_
             · have hle05 := hle
               have hle : imm07.le imm07 := Imm.le.refl _
               refine J_region <| R_d 3 [] [(66, .bool (decide (y3 ≥ 0)))] ?_
               cases hc6 : (decide (y3 ≥ 0)) with
               | true =>
                have hM06 := if_some_true hc6 ho05
                try rw [hc6]
                refine R_d 7 [] [(70, .bool (decide (star > y2)))] ?_
                cases hc7 : (decide (star > y2)) with
                | true =>
                 have hM07 := if_some_true hc7 hM06
                 try rw [hc7]
                 exact R_z [] [(75, .bool true)] <| T_w [(2, vI at01), (3, vP b 0), (6, vP b1 0), (8, vI sign), (9, vI y1), (10, vI y2), (11, vI star), (12, vI y3), (13, vP b7 0), (75, .bool true)] <| T_cut ⟨_, (pure_some hM07).symm, hle, rfl, rfl⟩
                | false =>
                 have hM08 := if_some_false hc7 hM06
                 try rw [hc7]
                 exact R_z [] [(75, .bool (y2 == at01))] <| T_w [(2, vI at01), (3, vP b 0), (6, vP b1 0), (8, vI sign), (9, vI y1), (10, vI y2), (11, vI star), (12, vI y3), (13, vP b7 0), (75, .bool (y2 == at01))] <| T_cut ⟨_, (pure_some hM08).symm, hle, rfl, rfl⟩
               | false =>
                have hM09 := if_some_false hc6 ho05
                try rw [hc6]
                exact R_z [] [(75, .bool false)] <| T_w [(2, vI at01), (3, vP b 0), (6, vP b1 0), (8, vI sign), (9, vI y1), (10, vI y2), (11, vI star), (12, vI y3), (13, vP b7 0), (75, .bool false)] <| T_cut ⟨_, (pure_some hM09).symm, hle, rfl, rfl⟩
             · rintro imm08 hs2 m2 ⟨t75, heq5, le8, rfl, rfl⟩
               subst o05
               replace h51 := RepL.mono (fun _ _ => Rp.mono le8) h51
               replace h := h.mono le8
               replace hle := hle.trans le8
               refine T_seq <| J_cd hMc5 ?_ ?_
               · intro hc8 hM
                 refine J_seq ?_
                 obtain ⟨x, hy7, hM⟩ := bind_some hM
                 refine J_any [.p (vP b7 0) [], .p (vS p11 l c11) [0], .p (vI y3) [], .p (vP b7 0) [], .p (vS p11 l c11) [0], .p (vI y3) [], .x (fun imm' v hx => ∃ (ad : Addr), v = .pointer (some ad) ∧ hx = [] ∧ (AtO (vS p11 l c11) (Rp.sz Int) y3.toNat ad) ∧ ((cs1.drop (y3.toNat * Rp.sz Int)).take (Rp.sz Int) = [vI x])), .q (vI x), .p (vI sign) [], .p (vI y1) [], .p (vI (W (sign * y1))) [], .p (vI (W (x + (W (sign * y1))))) []] [[], [(0, false)], [], [], [(3, false)], [], [(4, false), (5, false)], [(6, false)], [], [], [(8, false), (9, false)], [(7, false), (10, false)]] [hB b7 [vS p11 l c11, vI a0.Const], hO Int (vS p11 l c11) cs1, hB b1 [.slice none 0 0, vI 0], hB b [vS p a0.Coefs c, vI a0.Const]] [] [(1, false), (2, false), (11, false)] (good_pick [0, 1, 2, 3] rfl (by decide)) ?_ ?_
                 · refine Op <| Op <| Op <| Op <| Op <| Op <| Ox ?_ <| Oq ?_ <| Op <| Op <| Op <| Op <| On
                   · intro imm1 hf le1
                     refine Ins_cons ?_
                     rintro _ _ ⟨rfl, rfl⟩
                     refine Ins_cons ?_
                     rintro _ _ ⟨rfl, rfl⟩
                     refine Ins_nil <| R_isw (hB b7 [vS p11 l c11, vI a0.Const] :: hO Int (vS p11 l c11) cs1 :: hB b1 [.slice none 0 0, vI 0] :: hB b [vS p a0.Coefs c, vI a0.Const] :: hf) [(80, vS p11 l c11), (81, vI y3)] ?_
                     have hle := Imm.le.refl imm1
                     replace h51 := RepL.mono (fun _ _ => Rp.mono le1) h51
                     refine R_ixo 1 rfl rfl rfl h51 hy7 ?_
                     intro ad ccs1 hat hcc hrep
                     obtain rfl := hrep
                     exact R_out (hx := []) rfl hle rfl (out_some rfl) ⟨_, rfl, rfl, hat, hcc⟩
                   · intro imm1 hf le1
                     refine Ins_cons ?_
                     rintro _ _ ⟨ad, rfl, rfl, hat, hcc⟩
                     refine Ins_nil <| R_isw (hB b7 [vS p11 l c11, vI a0.Const] :: hO Int (vS p11 l c11) cs1 :: hB b1 [.slice none 0 0, vI 0] :: hB b [vS p a0.Coefs c, vI a0.Const] :: hf) [(82, .pointer (some ad))] ?_
                     have hle := Imm.le.refl imm1
                     exact R_lo 1 0 hat hcc [vI x] (vI x) rfl rfl <| R_out (hx := []) rfl hle rfl (out_some rfl) ⟨rfl, rfl⟩
                 · intro imm09 le9
                   refine Ins_cons ?_
                   rintro _ _ ⟨rfl, rfl⟩
                   refine Ins_cons ?_
                   rintro _ _ ⟨rfl, rfl⟩
                   refine Ins_cons ?_
                   rintro _ _ ⟨rfl, rfl⟩
                   refine Ins_nil <| R_isw [hB b7 [vS p11 l c11, vI a0.Const], hO Int (vS p11 l c11) cs1, hB b1 [.slice none 0 0, vI 0], hB b [vS p a0.Coefs c, vI a0.Const]] [(6, vP b1 0), (11, vI star), (13, vP b7 0), (77, vS p11 l c11), (78, vI y3), (87, vI (W (x + (W (sign * y1)))))] ?_
                   replace h51 := RepL.mono (fun _ _ => Rp.mono le9) h51
                   replace h := h.mono le9
                   replace hle := hle.trans le9
                   obtain ⟨x1, hy8, hM⟩ := bind_some hM
                   refine R_ixo 1 rfl rfl rfl h51 hy8 ?_
                   intro ad1 ccs2 hat1 hcc1 hrep1
                   obtain rfl := hrep1
                   obtain ⟨l1, hy9, hM⟩ := bind_some hM
                   refine R_store_el (c := [vI (W (x + (W (sign * y1))))]) (x' := (W (x + (W (sign * y1))))) 1 0 rfl rfl rfl hat1 rfl rfl hcc1 (by kernel_rfl) (by kernel_rfl) (by kernel_rfl) h51 hy8 (by kernel_rfl) rfl ?_
                   rw [show l.set y3.toNat (W (x + (W (sign * y1)))) = l1 from pure_some hy9]
                   intro cs2 h6 hl0
                   refine R_weaken (m' := [(6, vP b1 0), (11, vI star), (13, vP b7 0), (77, vS p11 l c11), (78, vI y3), (87, vI (W (x + (W (sign * y1)))))]) ⟨rfl, rfl, rfl, rfl, rfl, rfl, trivial⟩ <| R_conv (hs' := [hB b7 [vS p11 l1 c11, vI a0.Const], hO Int (vS p11 l1 c11) cs2, hB b1 [.slice none 0 0, vI 0], hB b [vS p a0.Coefs c, vI a0.Const]]) (m' := [(6, vP b1 0), (11, vI star), (13, vP b7 0), (77, vS p11 l1 c11), (78, vI y3), (87, vI (W (x + (W (sign * y1)))))]) (by first | rfl | simp only [vS, hl0, List.nil_append, List.cons_append, List.set_cons_zero, List.set_cons_succ]) (by first | rfl | simp only [vS, hl0]) <| R_end rfl <| T_seq <| J_seq <| J_region <| R_d 3 [0] [(89, vA [vS p11 l1 c11, vI a0.Const]), (91, vI (W (star + 1)))] <| R_sb 2 [vS p11 l1 c11, vI a0.Const] [hB b7 [vS p11 l1 c11, vI a0.Const], hO Int (vS p11 l1 c11) cs2, hB b1 [vS p11 l1 c11, vI a0.Const], hB b [vS p a0.Coefs c, vI a0.Const]] rfl rfl rfl rfl <| R_z [] [(7, vI (W (star + 1)))] <| T_seq <| J_ret <| T_then_ret <| T_freeze 1 rfl ?_
                   intro imm010 le10 hl01
                   have h7 := SL.of_frozen hl01 le10 h6
                   replace h := h.mono le10
                   replace hle := hle.trans le10
                   obtain rfl := pure_some hM
                   exact T_RS ⟨_, _, (.cell 1 rfl rfl (by kernel_rfl) (.tmp rfl ResV.nil)), good_none, ⟨_, _, rfl, rfl, ⟨_, rfl, (impl_Affine_shut ⟨_, rfl, h7⟩)⟩, rfl⟩⟩
               · intro hc8 hM
                 refine J_skip <| T_seq <| J_seq <| J_seq <| J_region <| R_z [] [(94, .bool (y2 == at01))] <| T_seq <| J_cd hM ?_ ?_
                 · intro hc9 hM
                   refine J_seq <| J_region <| R_d 1 [3] [(95, vA [vS p a0.Coefs c, vI a0.Const])] <| R_sb 2 [vS p a0.Coefs c, vI a0.Const] [hB b7 [vS p11 l c11, vI a0.Const], hO Int (vS p11 l c11) cs1, hB b1 [vS p a0.Coefs c, vI a0.Const], hB b [vS p a0.Coefs c, vI a0.Const]] rfl rfl rfl rfl <| R_z [] [(7, vI (-1))] <| T_seq <| J_ret <| T_then_ret ?_
                   obtain rfl := pure_some hM
                   exact T_RS ⟨_, _, (.cell 2 rfl rfl (by kernel_rfl) (.tmp rfl ResV.nil)), good_none, ⟨_, _, rfl, rfl, ⟨_, rfl, (impl_Affine_shut ⟨_, rfl, h⟩)⟩, rfl⟩⟩
                 · intro hc9 hM
                   refine J_skip <| T_seq <| J_seq <| J_region <| R_d 7 [0] [(101, vI (W (a0.Const + (W (sign * y1))))), (102, vP b7 1)] <| R_sb 0 [vS p11 l c11, vI (W (a0.Const + (W (sign * y1))))] [hB b7 [vS p11 l c11, vI (W (a0.Const + (W (sign * y1))))], hO Int (vS p11 l c11) cs1, hB b1 [.slice none 0 0, vI 0], hB b [vS p a0.Coefs c, vI a0.Const]] rfl rfl rfl rfl <| R_end rfl <| T_seq <| J_seq <| J_region <| R_d 2 [0] [(103, vA [vS p11 l c11, vI (W (a0.Const + (W (sign * y1))))]), (104, vI y2)] <| R_sb 2 [vS p11 l c11, vI (W (a0.Const + (W (sign * y1))))] [hB b7 [vS p11 l c11, vI (W (a0.Const + (W (sign * y1))))], hO Int (vS p11 l c11) cs1, hB b1 [vS p11 l c11, vI (W (a0.Const + (W (sign * y1))))], hB b [vS p a0.Coefs c, vI a0.Const]] rfl rfl rfl rfl <| R_z [] [(7, vI y2)] <| T_seq <| J_ret <| T_freeze 1 rfl ?_
                   intro imm011 le11 hl02
                   have h8 := SL.of_frozen hl02 le11 h51
                   replace h := h.mono le11
                   replace hle := hle.trans le11
                   obtain rfl := pure_some hM
                   exact T_RS ⟨_, _, (.cell 1 rfl rfl (by kernel_rfl) (.tmp rfl ResV.nil)), good_none, ⟨_, _, rfl, rfl, ⟨_, rfl, (impl_Affine_shut ⟨_, rfl, h8⟩)⟩, rfl⟩⟩
def spec_ParseAffine_post (r : impl_Affine × Bool) : Nat → Imm → List HA → Value → Prop := fun kk imm' hs' v =>
  ∃ (v0 : Value) (v1 : Value), hs' = [] ∧ v = tupV [v0, v1] ∧ (∃ cs, v0 = .agg ⟨cs⟩ ∧ Rp.rep imm' cs r.1) ∧ v1 = .bool r.2
def M.spec_ParseAffine_l1 (text : Str) (at0 : Int) (x : impl_Affine) : Option (impl_Affine) := do
 let t18 ← (do
   if (decide (at0 ≥ 0)) then
    pure (decide (at0 < (text.l.length : Int)))
   else
    pure false
     : Option Bool)
 if t18 then
  let (y2, y3) ← M.spec_l1Parse x text at0
  M.spec_ParseAffine_l1 text y3 y2
 else
  pure (id x)
 partial_fixpoint
theorem spec_ParseAffine_l1_ok (text : Str) : ∀ (at0 : Int) (x : impl_Affine) (o : impl_Affine), M.spec_ParseAffine_l1 text at0 x = some o → ∀ {B : Base} {imm0 imm : Imm} {Q : Exit → Act → World → Prop}  {b : Nat} {b1 : Nat} {p1 : Option Addr} {c1 : Nat}, imm0.le imm → (SL imm (vS p1 x.Coefs c1) x.Coefs) → (∀ l a w, ¬ Q (.goto l) a w) → (∀ a w, ¬ Q .outgrown a w) → (∀ (imm' : Imm) (x1 : impl_Affine) (p2 : Option Addr) (c2 : Nat), o = x1 → imm0.le imm' → (SL imm' (vS p2 x1.Coefs c2) x1.Coefs) → T 32 B Q (.exit 0) imm' [hB b1 [vS p2 x1.Coefs c2, vI x1.Const], hB b [.slice none 0 0, vI 0]] [(0, vT text.l), (2, vP b 0), (4, vP b1 0)]) → J Tryd.prog 32 B (nav (bodyOf Tryd.f12) [1, 1, 1, 1, 0, 0]) Q imm [hB b1 [vS p1 x.Coefs c1, vI x.Const], hB b [.slice none 0 0, vI 0]] [(0, vT text.l), (2, vP b 0), (4, vP b1 0), (5, vI at0)] := by
 refine M.spec_ParseAffine_l1.partial_correctness text _ ?_
 intro self ih at0 x o hM B imm0 imm Q b b1 p1 c1 hle h2 hg ho hx
 refine J_loop hg ho <| J_seq <| J_seq ?_
 obtain ⟨o0, ho0, hMc⟩ := bind_some hM
 refine J_cut (fun imm' hs' m' => ∃ (t18 : Bool), o0 = t18 ∧ imm.le imm' ∧ hs' = [hB b1 [vS p1 x.Coefs c1, vI x.Const], hB b [.slice none 0 0, vI 0]] ∧ m' = [(0, vT text.l), (2, vP b 0), (4, vP b1 0), (5, vI at0), (18, .bool t18)]) ?_ ?_
 · have hle0 := hle
   have hle : imm.le imm := Imm.le.refl _
   refine J_region <| R_d 3 [] [(13, .bool (decide (at0 ≥ 0)))] ?_
   cases hc1 : (decide (at0 ≥ 0)) with
   | true =>
    have hM0 := if_some_true hc1 ho0
    try rw [hc1]
    exact R_z [] [(18, .bool (decide (at0 < (text.l.length : Int))))] <| T_w [(0, vT text.l), (2, vP b 0), (4, vP b1 0), (5, vI at0), (18, .bool (decide (at0 < (text.l.length : Int))))] <| T_cut ⟨_, (pure_some hM0).symm, hle, rfl, rfl⟩
   | false =>
    have hM01 := if_some_false hc1 ho0
    try rw [hc1]
    exact R_z [] [(18, .bool false)] <| T_w [(0, vT text.l), (2, vP b 0), (4, vP b1 0), (5, vI at0), (18, .bool false)] <| T_cut ⟨_, (pure_some hM01).symm, hle, rfl, rfl⟩
 · rintro imm02 hs2 m2 ⟨t18, heq, le2, rfl, rfl⟩
   subst o0
   replace h2 := h2.mono le2
   replace hle := hle.trans le2
   refine T_seq <| J_cd hMc ?_ ?_
   · intro hc2 hM
     refine J_skip <| T_seq <| J_block <| J_region <| R_d 3 [0] [(20, vA [vS p1 x.Coefs c1, vI x.Const]), (21, vT text.l), (22, vI at0)] ?_
     obtain ⟨⟨y2, y3⟩, hy1, hM⟩ := bind_some hM
     refine R_call (hs1 := []) (rest := [hB b1 [vS p1 x.Coefs c1, vI x.Const], hB b [.slice none 0 0, vI 0]]) rfl rfl rfl rfl (by kernel_rfl) rfl rfl (spec_l1Parse_ok x text at0 _ hy1 h2) ?_
     rintro imm03 hs2 v2 k2 le3 - ⟨v0, v01, rfl, rfl, ⟨cs1, rfl, h4⟩, rfl⟩ -
     replace h2 := h2.mono le3
     replace hle := hle.trans le3
     obtain ⟨v02, rfl, h6⟩ := impl_Affine_open h4
     obtain ⟨p3, c3, rfl⟩ := h6.form
     exact R_d 7 [] [(24, vA [vS p3 y2.Coefs c3, vI y2.Const]), (25, vI y3)] <| R_sb 0 [vS p3 y2.Coefs c3, vI y2.Const] [hB b1 [vS p3 y2.Coefs c3, vI y2.Const], hB b [.slice none 0 0, vI 0]] rfl rfl rfl rfl <| R_z [] [(5, vI y3)] <| T_block_normal <| T_loop <| J_w [(0, vT text.l), (2, vP b 0), (4, vP b1 0), (5, vI y3)] <| ih y3 y2 _ hM hle h6 hg ho hx
   · intro hc2 hM
     exact J_exit <| T_then_exit <| T_then_exit <| T_w [(0, vT text.l), (2, vP b 0), (4, vP b1 0)] <| hx _ _ _ _ (pure_some hM).symm hle h2
def M.spec_ParseAffine (text : Str) : Option (impl_Affine × Bool) := do
 let y ← M.spec_l1Zero
 if (decide ((text.l.length : Int) > 40)) then
  pure ((impl_Affine.mk ([] : List Int) 0), false)
 else
  let x1 ← M.spec_ParseAffine_l1 text 0 (impl_Affine.mk y.Coefs y.Const)
  let y4 ← M.spec_FormatAffine x1
  if (!(y4.l == text.l)) then
   pure ((impl_Affine.mk ([] : List Int) 0), false)
  else
   pure (x1, true)
theorem spec_ParseAffine_ok : ∀ (text : Str) r, M.spec_ParseAffine text = some r → ∀ {imm : Imm} , Ret Tryd.prog 12 [vT text.l] imm [] (spec_ParseAffine_post  r) := by
 intro text r hM imm
 unfold M.spec_ParseAffine at hM
 refine ret_of_J (fn := Tryd.f12) (c := (bodyOf Tryd.f12)) Tryd.func12 rfl rfl ?_
 rintro B - -
 have hle : imm.le imm := Imm.le.refl _
 refine J_seq <| J_region <| R_alloc (c := ⟨[.slice none 0 0, vI 0]⟩) rfl rfl rfl (by kernel_rfl) ?_
 intro b hb
 refine R_z [] [] <| T_seq <| J_seq <| J_region ?_
 obtain ⟨y, hy, hM⟩ := bind_some hM
 refine R_call (hs1 := []) (rest := [hB b [.slice none 0 0, vI 0]]) rfl rfl rfl rfl (by kernel_rfl) rfl rfl (spec_l1Zero_ok  _ hy ) ?_
 rintro imm0 hs2 v2 k2 le - ⟨p, c, cs, rfl, rfl, h⟩ -
 replace hle := hle.trans le
 refine R_alloc (c := ⟨[.slice none 0 0, vI 0]⟩) rfl rfl rfl (by kernel_rfl) ?_
 intro b1 hb1
 refine R_sb 0 [vS p y.Coefs c, vI y.Const] [hB b1 [vS p y.Coefs c, vI y.Const], hO Int (vS p y.Coefs c) cs, hB b [.slice none 0 0, vI 0]] rfl rfl rfl rfl <| R_end rfl <| T_seq <| J_seq <| J_seq <| J_region <| R_z [] [(9, .bool (decide ((text.l.length : Int) > 40)))] <| T_seq <| J_cd hM ?_ ?_
 · intro hc hM
   refine J_seq <| J_region <| R_d 1 [] [(10, vA [.slice none 0 0, vI 0])] <| R_sb 2 [.slice none 0 0, vI 0] [hB b1 [vS p y.Coefs c, vI y.Const], hO Int (vS p y.Coefs c) cs, hB b [.slice none 0 0, vI 0]] rfl rfl rfl rfl <| R_z [] [(3, .bool false)] <| T_seq <| J_ret <| T_then_ret ?_
   obtain rfl := pure_some hM
   exact T_RS ⟨_, _, (.cell 2 rfl rfl (by kernel_rfl) (.tmp rfl ResV.nil)), good_none, ⟨_, _, rfl, rfl, ⟨_, rfl, (impl_Affine_shut ⟨_, rfl, (SL.nil _)⟩)⟩, rfl⟩⟩
 · intro hc hM
   refine J_skip <| T_seq <| J_seq <| J_region <| R_z [] [(5, vI 0)] <| T_seq <| J_seq <| J_block <| J_freeze 1 rfl ?_
   intro imm01 le1 hl0
   have h1 := SL.of_frozen hl0 le1 h
   replace hle := hle.trans le1
   refine J_w [(0, vT text.l), (2, vP b 0), (4, vP b1 0), (5, vI 0)] ?_
   obtain ⟨o01, ho01, hMl⟩ := bind_some hM
   refine spec_ParseAffine_l1_ok text 0 (impl_Affine.mk y.Coefs y.Const) o01 ho01 (Imm.le.refl _) h1 (fun _ _ _ h => h) (fun _ _ h => h) ?_
   intro imm04 x1 p2 c2 heq1 le4 h3
   subst o01
   replace hle := hle.trans le4
   refine T_block_here <| T_seq <| J_seq <| J_seq <| J_region <| R_d 1 [0] [(26, vA [vS p2 x1.Coefs c2, vI x1.Const])] ?_
   obtain ⟨y4, hy2, hM⟩ := bind_some hMl
   refine R_call (hs1 := []) (rest := [hB b1 [vS p2 x1.Coefs c2, vI x1.Const], hB b [.slice none 0 0, vI 0]]) rfl rfl rfl rfl (by kernel_rfl) rfl rfl (spec_FormatAffine_ok x1 _ hy2 h3) ?_
   rintro imm05 hs2 v2 k2 le5 - ⟨v03, rfl, rfl, rfl⟩ -
   replace h3 := h3.mono le5
   replace hle := hle.trans le5
   refine R_z [] [(29, .bool (!(y4.l == text.l)))] <| T_seq <| J_cd hM ?_ ?_
   · intro hc3 hM
     refine J_seq <| J_region <| R_d 1 [] [(30, vA [.slice none 0 0, vI 0])] <| R_sb 1 [.slice none 0 0, vI 0] [hB b1 [vS p2 x1.Coefs c2, vI x1.Const], hB b [.slice none 0 0, vI 0]] rfl rfl rfl rfl <| R_z [] [(3, .bool false)] <| T_seq <| J_ret <| T_then_ret ?_
     obtain rfl := pure_some hM
     exact T_RS ⟨_, _, (.cell 1 rfl rfl (by kernel_rfl) (.tmp rfl ResV.nil)), good_none, ⟨_, _, rfl, rfl, ⟨_, rfl, (impl_Affine_shut ⟨_, rfl, (SL.nil _)⟩)⟩, rfl⟩⟩
   · intro hc3 hM
     refine J_skip <| T_seq <| J_seq <| J_region <| R_d 1 [0] [(31, vA [vS p2 x1.Coefs c2, vI x1.Const])] <| R_sb 1 [vS p2 x1.Coefs c2, vI x1.Const] [hB b1 [vS p2 x1.Coefs c2, vI x1.Const], hB b [vS p2 x1.Coefs c2, vI x1.Const]] rfl rfl rfl rfl <| R_z [] [(3, .bool true)] <| T_seq <| J_ret ?_
     obtain rfl := pure_some hM
     exact T_RS ⟨_, _, (.cell 1 rfl rfl (by kernel_rfl) (.tmp rfl ResV.nil)), good_none, ⟨_, _, rfl, rfl, ⟨_, rfl, (impl_Affine_shut ⟨_, rfl, h3⟩)⟩, rfl⟩⟩
end Go.LN
