/- Helper of the proof (see the last text). -/
import Derived.Test.YtbgdegfnaofkfaaDoorPLnTD
import Derived.Test.YtbgdegfnaofkfaaDoorPLnW
import Derived.Test.YtbgdegfnaofkfaaDoorPTrydShelf
namespace Go.LN
set_option linter.unusedVariables false
set_option linter.unusedSimpArgs false
open Go.Proofs
set_option maxRecDepth 20000
def laws_eqStep_post (r : Bool) : Nat → Imm → List HA → Value → Prop := fun kk imm' hs' v =>
  ∃ (v0 : Value), hs' = [] ∧ v = tupV [v0] ∧ v0 = .bool r
def M.laws_eqStep (a0 : impl_Step) (b : impl_Step) : Option (Bool) := do
 if (a0.Kind != b.Kind) then
  pure false
 else
  if (a0.Part != b.Part) then
   pure false
  else
   if (a0.A != b.A) then
    pure false
   else
    if (a0.B != b.B) then
     pure false
    else
     pure true
theorem laws_eqStep_ok : ∀ (a0 : impl_Step) (b : impl_Step) r, M.laws_eqStep a0 b = some r → ∀ {imm : Imm} , Ret Tryd.prog 22 [vA [vI a0.Kind, vI a0.Part, vI a0.A, vI a0.B], vA [vI b.Kind, vI b.Part, vI b.A, vI b.B]] imm [] (laws_eqStep_post  r) := by
 intro a0 b r hM imm
 unfold M.laws_eqStep at hM
 refine ret_of_J (fn := Tryd.f22) (c := (bodyOf Tryd.f22)) Tryd.func22 rfl rfl ?_
 rintro B - -
 have hle : imm.le imm := Imm.le.refl _
 refine J_seq <| J_region <| R_box (c := ⟨[vI a0.Kind, vI a0.Part, vI a0.A, vI a0.B]⟩) rfl rfl rfl rfl rfl ?_
 intro b1 hb
 refine R_box (c := ⟨[vI b.Kind, vI b.Part, vI b.A, vI b.B]⟩) rfl rfl rfl rfl rfl ?_
 intro b2 hb1
 refine R_z [] [] <| T_seq <| J_seq <| J_seq <| J_region <| R_z [1, 0] [(9, .bool (a0.Kind != b.Kind))] <| T_seq <| J_cd hM ?_ ?_
 · intro hc hM
   refine J_seq <| J_region <| R_z [] [(4, .bool false)] <| T_seq <| J_ret <| T_then_ret ?_
   obtain rfl := pure_some hM
   exact T_RS ⟨_, _, (.tmp rfl ResV.nil), good_none, ⟨_, rfl, rfl, rfl⟩⟩
 · intro hc hM
   refine J_skip <| T_seq <| J_seq <| J_seq <| J_region <| R_z [1, 0] [(14, .bool (a0.Part != b.Part))] <| T_seq <| J_cd hM ?_ ?_
   · intro hc1 hM
     refine J_seq <| J_region <| R_z [] [(4, .bool false)] <| T_seq <| J_ret <| T_then_ret ?_
     obtain rfl := pure_some hM
     exact T_RS ⟨_, _, (.tmp rfl ResV.nil), good_none, ⟨_, rfl, rfl, rfl⟩⟩
   · intro hc1 hM
     refine J_skip <| T_seq <| J_seq <| J_seq <| J_region <| R_z [1, 0] [(19, .bool (a0.A != b.A))] <| T_seq <| J_cd hM ?_ ?_
     · intro hc2 hM
       refine J_seq <| J_region <| R_z [] [(4, .bool false)] <| T_seq <| J_ret <| T_then_ret ?_
       obtain rfl := pure_some hM
       exact T_RS ⟨_, _, (.tmp rfl ResV.nil), good_none, ⟨_, rfl, rfl, rfl⟩⟩
     · intro hc2 hM
       refine J_skip <| T_seq <| J_seq <| J_seq <| J_region <| R_z [1, 0] [(24, .bool (a0.B != b.B))] <| T_seq <| J_cd hM ?_ ?_
       · intro hc3 hM
         refine J_seq <| J_region <| R_z [] [(4, .bool false)] <| T_seq <| J_ret <| T_then_ret ?_
         obtain rfl := pure_some hM
         exact T_RS ⟨_, _, (.tmp rfl ResV.nil), good_none, ⟨_, rfl, rfl, rfl⟩⟩
       · intro hc3 hM
         refine J_skip <| T_seq <| J_seq <| J_region <| R_z [] [(4, .bool true)] <| T_seq <| J_ret ?_
         obtain rfl := pure_some hM
         exact T_RS ⟨_, _, (.tmp rfl ResV.nil), good_none, ⟨_, rfl, rfl, rfl⟩⟩
def laws_eqStepS_post (r : Bool) : Nat → Imm → List HA → Value → Prop := fun kk imm' hs' v =>
  ∃ (v0 : Value), hs' = [] ∧ v = tupV [v0] ∧ v0 = .bool r
def M.laws_eqStepS_l1 (a0 : (List impl_Step)) (b : (List impl_Step)) (i : Int) : Option (Out Unit (Bool)) := do
 if (decide (i < (a0.length : Int))) then
  let x ← idx a0 i
  let x1 ← idx b i
  let y ← M.laws_eqStep x x1
  if (!y) then
   pure (.ret false)
  else
   M.laws_eqStepS_l1 a0 b (W (i + 1))
 else
  pure (.done ())
 partial_fixpoint
theorem laws_eqStepS_l1_ok (a0 : (List impl_Step)) (b : (List impl_Step)) : ∀ (i : Int) (o : Out Unit (Bool)), M.laws_eqStepS_l1 a0 b i = some o → ∀ {B : Base} {imm0 imm : Imm} {Q : Exit → Act → World → Prop}  {p : Option Addr} {c : Nat} {p1 : Option Addr} {c1 : Nat}, imm0.le imm → (SL imm (vS p a0 c) a0) → (SL imm (vS p1 b c1) b) → (∀ l a w, ¬ Q (.goto l) a w) → (∀ a w, ¬ Q .outgrown a w) → (∀ (imm' : Imm) , o = (.done ()) → imm0.le imm' → T 27 B Q (.exit 0) imm' [] []) → (∀ r imm' hs' m', o = (.ret r) → imm0.le imm' → RS Tryd.prog Tryd.f9 B (laws_eqStepS_post  r) imm' hs' m' → T 27 B Q .ret imm' hs' m') → J Tryd.prog 27 B (nav (bodyOf Tryd.f9) [1, 1, 0, 1, 0]) Q imm [] [(0, vS p a0 c), (1, vS p1 b c1), (5, vI i)] := by
 refine M.laws_eqStepS_l1.partial_correctness a0 b _ ?_
 intro self ih i o hM B imm0 imm Q p c p1 c1 hle h h1 hg ho hx hr
 refine J_loop hg ho <| J_seq <| J_seq <| J_region <| R_z [] [(14, .bool (decide (i < (a0.length : Int))))] <| T_seq <| J_cd hM ?_ ?_
 · intro hc1 hM
   refine J_skip <| T_seq <| J_seq <| J_block <| J_seq ?_
   obtain ⟨x, hy, hM⟩ := bind_some hM
   obtain ⟨x1, hy1, hM⟩ := bind_some hM
   obtain ⟨y, hy2, hM⟩ := bind_some hM
   refine J_any [.p (vS p a0 c) [], .p (vI i) [], .x (fun imm' v hx => ∃ (ad : Addr), v = .pointer (some ad) ∧ hx = [] ∧ (At imm' ad [vI x.Kind, vI x.Part, vI x.A, vI x.B])), .q (vA [vI x.Kind, vI x.Part, vI x.A, vI x.B]), .p (vS p1 b c1) [], .p (vI i) [], .x (fun imm' v hx => ∃ (ad1 : Addr), v = .pointer (some ad1) ∧ hx = [] ∧ (At imm' ad1 [vI x1.Kind, vI x1.Part, vI x1.A, vI x1.B])), .q (vA [vI x1.Kind, vI x1.Part, vI x1.A, vI x1.B]), .q (.bool y), .p (.bool (!y)) []] [[], [], [(0, false), (1, false)], [(2, false)], [], [], [(4, false), (5, false)], [(6, false)], [(3, false), (7, false)], [(8, false)]] [] [] [(9, false)] (good_pick [] rfl (by decide)) ?_ ?_
   · refine Op <| Op <| Ox ?_ <| Oq ?_ <| Op <| Op <| Ox ?_ <| Oq ?_ <| Oq ?_ <| Op <| On
     · intro imm1 hf le1
       refine Ins_cons ?_
       rintro _ _ ⟨rfl, rfl⟩
       refine Ins_cons ?_
       rintro _ _ ⟨rfl, rfl⟩
       refine Ins_nil <| R_isw (hf) [(17, vS p a0 c), (18, vI i)] ?_
       have hle := Imm.le.refl imm1
       replace h := h.mono le1
       refine R_ix rfl rfl h hy ?_
       intro ad ccs hat hrep
       obtain rfl := impl_Step_open hrep
       exact R_out (hx := []) rfl hle rfl (out_some rfl) ⟨_, rfl, rfl, hat⟩
     · intro imm1 hf le1
       refine Ins_cons ?_
       rintro _ _ ⟨ad, rfl, rfl, hat⟩
       refine Ins_nil <| R_isw (hf) [(19, .pointer (some ad))] ?_
       have hle := Imm.le.refl imm1
       exact R_la 0 hat [vI x.Kind, vI x.Part, vI x.A, vI x.B] (vA [vI x.Kind, vI x.Part, vI x.A, vI x.B]) rfl <| R_out (hx := []) rfl hle rfl (out_some rfl) ⟨rfl, rfl⟩
     · intro imm1 hf le1
       refine Ins_cons ?_
       rintro _ _ ⟨rfl, rfl⟩
       refine Ins_cons ?_
       rintro _ _ ⟨rfl, rfl⟩
       refine Ins_nil <| R_isw (hf) [(21, vS p1 b c1), (22, vI i)] ?_
       have hle := Imm.le.refl imm1
       replace h1 := h1.mono le1
       refine R_ix rfl rfl h1 hy1 ?_
       intro ad1 ccs1 hat1 hrep1
       obtain rfl := impl_Step_open hrep1
       exact R_out (hx := []) rfl hle rfl (out_some rfl) ⟨_, rfl, rfl, hat1⟩
     · intro imm1 hf le1
       refine Ins_cons ?_
       rintro _ _ ⟨ad1, rfl, rfl, hat1⟩
       refine Ins_nil <| R_isw (hf) [(23, .pointer (some ad1))] ?_
       have hle := Imm.le.refl imm1
       exact R_la 0 hat1 [vI x1.Kind, vI x1.Part, vI x1.A, vI x1.B] (vA [vI x1.Kind, vI x1.Part, vI x1.A, vI x1.B]) rfl <| R_out (hx := []) rfl hle rfl (out_some rfl) ⟨rfl, rfl⟩
     · intro imm1 hf le1
       refine Ins_cons ?_
       rintro _ _ ⟨rfl, rfl⟩
       refine Ins_cons ?_
       rintro _ _ ⟨rfl, rfl⟩
       refine Ins_nil <| R_isw (hf) [(20, vA [vI x.Kind, vI x.Part, vI x.A, vI x.B]), (24, vA [vI x1.Kind, vI x1.Part, vI x1.A, vI x1.B])] ?_
       have hle := Imm.le.refl imm1
       refine R_call (hs1 := []) (rest := (hf)) rfl rfl rfl rfl (by kernel_rfl) rfl rfl (laws_eqStep_ok x x1 _ hy2 ) ?_
       rintro imm0 hs2 v2 k2 le - ⟨v0, rfl, rfl, rfl⟩ -
       replace hle := hle.trans le
       exact R_out (hx := []) rfl hle rfl (out_some rfl) ⟨rfl, rfl⟩
   · intro imm01 le1
     refine Ins_cons ?_
     rintro _ _ ⟨rfl, rfl⟩
     refine Ins_nil <| R_isw [] [(0, vS p a0 c), (1, vS p1 b c1), (5, vI i), (26, .bool (!y))] ?_
     replace h := h.mono le1
     replace h1 := h1.mono le1
     replace hle := hle.trans le1
     refine R_end rfl <| T_seq <| J_cd hM ?_ ?_
     · intro hc2 hM
       exact J_seq <| J_region <| R_z [] [(4, .bool false)] <| T_seq <| J_ret <| T_block_ret <| T_then_ret <| T_then_ret <| hr _ _ _ _ (pure_some hM).symm hle ⟨_, _, (.tmp rfl ResV.nil), good_none, ⟨_, rfl, rfl, rfl⟩⟩
     · intro hc2 hM
       exact J_skip <| T_block_normal <| T_seq <| J_region <| R_z [] [(5, vI (W (i + 1)))] <| T_loop <| J_w [(0, vS p a0 c), (1, vS p1 b c1), (5, vI (W (i + 1)))] <| ih (W (i + 1)) _ hM hle h h1 hg ho hx hr
 · intro hc1 hM
   exact J_exit <| T_then_exit <| T_then_exit <| T_w [] <| hx _  (pure_some hM).symm hle
def M.laws_eqStepS (a0 : (List impl_Step)) (b : (List impl_Step)) : Option (Bool) := do
 if ((a0.length : Int) != (b.length : Int)) then
  pure false
 else
  match ← M.laws_eqStepS_l1 a0 b 0 with
  | .ret r0 => pure r0
  | .done _ =>
   pure true
theorem laws_eqStepS_ok : ∀ (a0 : (List impl_Step)) (b : (List impl_Step)) r, M.laws_eqStepS a0 b = some r → ∀ {imm : Imm} {p : Option Addr} {c : Nat} {p1 : Option Addr} {c1 : Nat}, (SL imm (vS p a0 c) a0) → (SL imm (vS p1 b c1) b) → Ret Tryd.prog 9 [vS p a0 c, vS p1 b c1] imm [] (laws_eqStepS_post  r) := by
 intro a0 b r hM imm p c p1 c1 h h1
 unfold M.laws_eqStepS at hM
 refine ret_of_J (fn := Tryd.f9) (c := (bodyOf Tryd.f9)) Tryd.func9 rfl rfl ?_
 rintro B - -
 have hle : imm.le imm := Imm.le.refl _
 refine J_seq <| J_region <| R_z [] [] <| T_seq <| J_seq <| J_seq <| J_region <| R_z [] [(10, .bool ((a0.length : Int) != (b.length : Int)))] <| T_seq <| J_cd hM ?_ ?_
 · intro hc hM
   refine J_seq <| J_region <| R_z [] [(4, .bool false)] <| T_seq <| J_ret <| T_then_ret ?_
   obtain rfl := pure_some hM
   exact T_RS ⟨_, _, (.tmp rfl ResV.nil), good_none, ⟨_, rfl, rfl, rfl⟩⟩
 · intro hc hM
   refine J_skip <| T_seq <| J_seq <| J_seq <| J_region <| R_z [] [(5, vI 0)] <| T_seq <| J_block <| J_w [(0, vS p a0 c), (1, vS p1 b c1), (5, vI 0)] ?_
   obtain ⟨o0, ho0, hM⟩ := bind_some hM
   refine laws_eqStepS_l1_ok a0 b 0 o0 ho0 (Imm.le.refl _) h h1 (fun _ _ _ h => h) (fun _ _ h => h) ?_ ?_
   · intro imm02  heq le2
     subst o0
     replace hle := hle.trans le2
     refine T_block_here <| T_seq <| J_seq <| J_region <| R_z [] [(4, .bool true)] <| T_seq <| J_ret ?_
     obtain rfl := pure_some hM
     exact T_RS ⟨_, _, (.tmp rfl ResV.nil), good_none, ⟨_, rfl, rfl, rfl⟩⟩
   · intro r0 imm9 hs9 m9 heq9 le9 hrs9
     subst heq9
     refine T_block_ret <| T_then_ret ?_
     obtain rfl := pure_some hM
     exact T_RS hrs9
def spec_l14Fields_post (r : Int) : Nat → Imm → List HA → Value → Prop := fun kk imm' hs' v =>
  ∃ (v0 : Value), hs' = [] ∧ v = tupV [v0] ∧ v0 = .int .i64 r
def M.spec_l14Fields (kind : Int) : Option (Int) := do
 let t4 ← (do
   if (kind == 3) then
    pure (kind == 3)
   else
    let t41 ← (do
      if (kind == 4) then
       pure (kind == 4)
      else
       pure (kind == 5)
        : Option Bool)
    pure (id t41)
     : Option Bool)
 if t4 then
  pure (id 3)
 else
  let t8 ← (do
    if (kind == 1) then
     pure (kind == 1)
    else
     let t81 ← (do
       if (kind == 2) then
        pure (kind == 2)
       else
        let t82 ← (do
          if (kind == 7) then
           pure (kind == 7)
          else
           pure (kind == 8)
            : Option Bool)
        pure (id t82)
         : Option Bool)
     pure (id t81)
      : Option Bool)
  if t8 then
   pure (id 2)
  else
   let t13 ← (do
     if (kind == 6) then
      pure (kind == 6)
     else
      let t131 ← (do
        if (kind == 9) then
         pure (kind == 9)
        else
         pure (kind == 10)
          : Option Bool)
      pure (id t131)
       : Option Bool)
   if t13 then
    pure (id 1)
   else
    pure (id 0)
theorem spec_l14Fields_ok : ∀ (kind : Int) r, M.spec_l14Fields kind = some r → ∀ {imm : Imm} , Ret Tryd.prog 17 [vI kind] imm [] (spec_l14Fields_post  r) := by
 intro kind r hM imm
 unfold M.spec_l14Fields at hM
 refine ret_of_J (fn := Tryd.f17) (c := (bodyOf Tryd.f17)) Tryd.func17 rfl rfl ?_
 rintro B - -
 have hle : imm.le imm := Imm.le.refl _
 refine J_seq <| J_region <| R_z [] [] <| T_seq <| J_seq <| J_seq <| J_region <| R_z [] [(3, vI kind)] <| T_seq <| J_block <| J_seq <| J_seq <| J_region <| R_z [] [(4, .bool (kind == 3))] <| T_seq ?_
 obtain ⟨o0, ho0, hM⟩ := bind_some hM
 refine J_cut (fun imm' hs' m' => ∃ (t4 : Bool), o0 = t4 ∧ imm.le imm' ∧ hs' = [] ∧ m' = [(3, vI kind), (4, .bool t4)]) ?_ ?_
 · have hle0 := hle
   have hle : imm.le imm := Imm.le.refl _
   refine J_cd ho0 ?_ ?_
   · intro hc hM
     exact J_skip <| T_w [(3, vI kind), (4, .bool (kind == 3))] <| T_cut ⟨_, (pure_some hM).symm, hle, rfl, rfl⟩
   · intro hc hM
     refine J_seq <| J_region <| R_z [] [(4, .bool (kind == 4))] <| T_seq ?_
     obtain ⟨o01, ho01, hM⟩ := bind_some hM
     refine J_cut (fun imm' hs' m' => ∃ (t41 : Bool), o01 = t41 ∧ imm.le imm' ∧ hs' = [] ∧ m' = [(3, vI kind), (4, .bool t41)]) ?_ ?_
     · have hle0 := hle
       have hle : imm.le imm := Imm.le.refl _
       refine J_cd ho01 ?_ ?_
       · intro hc1 hM
         exact J_skip <| T_w [(3, vI kind), (4, .bool (kind == 4))] <| T_cut ⟨_, (pure_some hM).symm, hle, rfl, rfl⟩
       · intro hc1 hM
         exact J_region <| R_z [] [(4, .bool (kind == 5))] <| T_w [(3, vI kind), (4, .bool (kind == 5))] <| T_cut ⟨_, (pure_some hM).symm, hle, rfl, rfl⟩
     · rintro imm01 hs2 m2 ⟨t41, heq, le, rfl, rfl⟩
       subst o01
       replace hle := hle.trans le
       exact T_w [(3, vI kind), (4, .bool t41)] <| T_cut ⟨_, (pure_some hM).symm, hle, rfl, rfl⟩
 · rintro imm0 hs2 m2 ⟨t4, heq1, le1, rfl, rfl⟩
   subst o0
   replace hle := hle.trans le1
   refine T_seq <| J_cd hM ?_ ?_
   · intro hc2 hM
     refine J_seq <| J_region <| R_z [] [(2, vI 3)] <| T_seq <| J_ret <| T_block_ret <| T_then_ret ?_
     obtain rfl := pure_some hM
     exact T_RS ⟨_, _, (.tmp rfl ResV.nil), good_none, ⟨_, rfl, rfl, rfl⟩⟩
   · intro hc2 hM
     refine J_seq <| J_seq <| J_region <| R_z [] [(8, .bool (kind == 1))] <| T_seq ?_
     obtain ⟨o02, ho02, hM⟩ := bind_some hM
     refine J_cut (fun imm' hs' m' => ∃ (t8 : Bool), o02 = t8 ∧ imm0.le imm' ∧ hs' = [] ∧ m' = [(3, vI kind), (8, .bool t8)]) ?_ ?_
     · have hle0 := hle
       have hle : imm0.le imm0 := Imm.le.refl _
       refine J_cd ho02 ?_ ?_
       · intro hc3 hM
         exact J_skip <| T_w [(3, vI kind), (8, .bool (kind == 1))] <| T_cut ⟨_, (pure_some hM).symm, hle, rfl, rfl⟩
       · intro hc3 hM
         refine J_seq <| J_region <| R_z [] [(8, .bool (kind == 2))] <| T_seq ?_
         obtain ⟨o03, ho03, hM⟩ := bind_some hM
         refine J_cut (fun imm' hs' m' => ∃ (t81 : Bool), o03 = t81 ∧ imm0.le imm' ∧ hs' = [] ∧ m' = [(3, vI kind), (8, .bool t81)]) ?_ ?_
         · have hle0 := hle
           have hle : imm0.le imm0 := Imm.le.refl _
           refine J_cd ho03 ?_ ?_
           · intro hc4 hM
             exact J_skip <| T_w [(3, vI kind), (8, .bool (kind == 2))] <| T_cut ⟨_, (pure_some hM).symm, hle, rfl, rfl⟩
           · intro hc4 hM
             refine J_seq <| J_region <| R_z [] [(8, .bool (kind == 7))] <| T_seq ?_
             obtain ⟨o04, ho04, hM⟩ := bind_some hM
             refine J_cut (fun imm' hs' m' => ∃ (t82 : Bool), o04 = t82 ∧ imm0.le imm' ∧ hs' = [] ∧ m' = [(3, vI kind), (8, .bool t82)]) ?_ ?_
             · have hle0 := hle
               have hle : imm0.le imm0 := Imm.le.refl _
               refine J_cd ho04 ?_ ?_
               · intro hc5 hM
                 exact J_skip <| T_w [(3, vI kind), (8, .bool (kind == 7))] <| T_cut ⟨_, (pure_some hM).symm, hle, rfl, rfl⟩
               · intro hc5 hM
                 exact J_region <| R_z [] [(8, .bool (kind == 8))] <| T_w [(3, vI kind), (8, .bool (kind == 8))] <| T_cut ⟨_, (pure_some hM).symm, hle, rfl, rfl⟩
             · rintro imm04 hs2 m2 ⟨t82, heq2, le2, rfl, rfl⟩
               subst o04
               replace hle := hle.trans le2
               exact T_w [(3, vI kind), (8, .bool t82)] <| T_cut ⟨_, (pure_some hM).symm, hle, rfl, rfl⟩
         · rintro imm03 hs2 m2 ⟨t81, heq3, le3, rfl, rfl⟩
           subst o03
           replace hle := hle.trans le3
           exact T_w [(3, vI kind), (8, .bool t81)] <| T_cut ⟨_, (pure_some hM).symm, hle, rfl, rfl⟩
     · rintro imm02 hs2 m2 ⟨t8, heq4, le4, rfl, rfl⟩
       subst o02
       replace hle := hle.trans le4
       refine T_seq <| J_cd hM ?_ ?_
       · intro hc6 hM
         refine J_seq <| J_region <| R_z [] [(2, vI 2)] <| T_seq <| J_ret <| T_block_ret <| T_then_ret ?_
         obtain rfl := pure_some hM
         exact T_RS ⟨_, _, (.tmp rfl ResV.nil), good_none, ⟨_, rfl, rfl, rfl⟩⟩
       · intro hc6 hM
         refine J_seq <| J_seq <| J_region <| R_z [] [(13, .bool (kind == 6))] <| T_seq ?_
         obtain ⟨o05, ho05, hM⟩ := bind_some hM
         refine J_cut (fun imm' hs' m' => ∃ (t13 : Bool), o05 = t13 ∧ imm02.le imm' ∧ hs' = [] ∧ m' = [(13, .bool t13)]) ?_ ?_
         · have hle0 := hle
           have hle : imm02.le imm02 := Imm.le.refl _
           refine J_cd ho05 ?_ ?_
           · intro hc7 hM
             exact J_skip <| T_w [(13, .bool (kind == 6))] <| T_cut ⟨_, (pure_some hM).symm, hle, rfl, rfl⟩
           · intro hc7 hM
             refine J_seq <| J_region <| R_z [] [(13, .bool (kind == 9))] <| T_seq ?_
             obtain ⟨o06, ho06, hM⟩ := bind_some hM
             refine J_cut (fun imm' hs' m' => ∃ (t131 : Bool), o06 = t131 ∧ imm02.le imm' ∧ hs' = [] ∧ m' = [(13, .bool t131)]) ?_ ?_
             · have hle0 := hle
               have hle : imm02.le imm02 := Imm.le.refl _
               refine J_cd ho06 ?_ ?_
               · intro hc8 hM
                 exact J_skip <| T_w [(13, .bool (kind == 9))] <| T_cut ⟨_, (pure_some hM).symm, hle, rfl, rfl⟩
               · intro hc8 hM
                 exact J_region <| R_z [] [(13, .bool (kind == 10))] <| T_w [(13, .bool (kind == 10))] <| T_cut ⟨_, (pure_some hM).symm, hle, rfl, rfl⟩
             · rintro imm06 hs2 m2 ⟨t131, heq5, le5, rfl, rfl⟩
               subst o06
               replace hle := hle.trans le5
               exact T_w [(13, .bool t131)] <| T_cut ⟨_, (pure_some hM).symm, hle, rfl, rfl⟩
         · rintro imm05 hs2 m2 ⟨t13, heq6, le6, rfl, rfl⟩
           subst o05
           replace hle := hle.trans le6
           refine T_seq <| J_cd hM ?_ ?_
           · intro hc9 hM
             refine J_seq <| J_region <| R_z [] [(2, vI 1)] <| T_seq <| J_ret <| T_block_ret <| T_then_ret ?_
             obtain rfl := pure_some hM
             exact T_RS ⟨_, _, (.tmp rfl ResV.nil), good_none, ⟨_, rfl, rfl, rfl⟩⟩
           · intro hc9 hM
             refine J_skip <| T_block_normal <| T_seq <| J_seq <| J_region <| R_z [] [(2, vI 0)] <| T_seq <| J_ret ?_
             obtain rfl := pure_some hM
             exact T_RS ⟨_, _, (.tmp rfl ResV.nil), good_none, ⟨_, rfl, rfl, rfl⟩⟩
def spec_l14Right_post (r : Bool) : Nat → Imm → List HA → Value → Prop := fun kk imm' hs' v =>
  ∃ (v0 : Value), hs' = [] ∧ v = tupV [v0] ∧ v0 = .bool r
def M.spec_l14Right (s : impl_Step) : Option (Bool) := do
 let y ← M.spec_l14Fields s.Kind
 let t2 ← (do
   if (decide (s.Kind ≥ 1)) then
    if (decide (s.Kind ≤ 11)) then
     if (decide (y > 0)) then
      if (decide (y > 1)) then
       if (decide (y > 2)) then
        pure true
       else
        pure (s.B == 0)
      else
       if (s.A == 0) then
        if (decide (y > 2)) then
         pure true
        else
         pure (s.B == 0)
       else
        pure false
     else
      if (s.Part == 0) then
       if (decide (y > 1)) then
        if (decide (y > 2)) then
         pure true
        else
         pure (s.B == 0)
       else
        if (s.A == 0) then
         if (decide (y > 2)) then
          pure true
         else
          pure (s.B == 0)
        else
         pure false
      else
       pure false
    else
     pure false
   else
    pure false
     : Option Bool)
 pure (id t2)
theorem spec_l14Right_ok : ∀ (s : impl_Step) r, M.spec_l14Right s = some r → ∀ {imm : Imm} , Ret Tryd.prog 14 [vA [vI s.Kind, vI s.Part, vI s.A, vI s.B]] imm [] (spec_l14Right_post  r) := by
 intro s r hM imm
 unfold M.spec_l14Right at hM
 refine ret_of_J (fn := Tryd.f14) (c := (bodyOf Tryd.f14)) Tryd.func14 rfl rfl ?_
 rintro B - -
 have hle : imm.le imm := Imm.le.refl _
 refine J_seq <| J_region <| R_box (c := ⟨[vI s.Kind, vI s.Part, vI s.A, vI s.B]⟩) rfl rfl rfl rfl rfl ?_
 intro b hb
 refine R_z [] [] <| T_seq <| J_seq <| J_region <| R_d 2 [0] [(5, vI s.Kind)] ?_
 obtain ⟨y, hy, hM⟩ := bind_some hM
 refine R_call (hs1 := []) (rest := [hB b [vI s.Kind, vI s.Part, vI s.A, vI s.B]]) rfl rfl rfl rfl (by kernel_rfl) rfl rfl (spec_l14Fields_ok s.Kind _ hy ) ?_
 rintro imm0 hs2 v2 k2 le - ⟨v0, rfl, rfl, rfl⟩ -
 replace hle := hle.trans le
 refine R_z [] [(3, vI y)] <| T_seq <| J_seq ?_
 obtain ⟨o0, ho0, hM⟩ := bind_some hM
 refine J_cut (fun imm' hs' m' => ∃ (t2 : Bool), o0 = t2 ∧ imm0.le imm' ∧ hs' = [] ∧ m' = [(2, .bool t2)]) ?_ ?_
 · have hle0 := hle
   have hle : imm0.le imm0 := Imm.le.refl _
   refine J_region <| R_d 4 [0] [(10, .bool (decide (s.Kind ≥ 1)))] ?_
   cases hc : (decide (s.Kind ≥ 1)) with
   | true =>
    have hM0 := if_some_true hc ho0
    try rw [hc]
    refine R_d 9 [0] [(15, .bool (decide (s.Kind ≤ 11)))] ?_
    cases hc1 : (decide (s.Kind ≤ 11)) with
    | true =>
     have hM01 := if_some_true hc1 hM0
     try rw [hc1]
     refine R_d 12 [] [(18, .bool (decide (y > 0)))] ?_
     cases hc2 : (decide (y > 0)) with
     | true =>
      have hM02 := if_some_true hc2 hM01
      try rw [hc2]
      refine R_d 21 [] [(24, .bool true), (27, .bool (decide (y > 1)))] ?_
      cases hc3 : (decide (y > 1)) with
      | true =>
       have hM03 := if_some_true hc3 hM02
       try rw [hc3]
       refine R_d 30 [] [(33, .bool true), (36, .bool (decide (y > 2)))] ?_
       cases hc4 : (decide (y > 2)) with
       | true =>
        have hM04 := if_some_true hc4 hM03
        try rw [hc4]
        exact R_z [] [(2, .bool true)] <| T_hs (good_pick [] rfl (by decide)) <| T_w [(2, .bool true)] <| T_cut ⟨_, (pure_some hM04).symm, hle, rfl, rfl⟩
       | false =>
        have hM05 := if_some_false hc4 hM03
        try rw [hc4]
        exact R_z [0] [(2, .bool (s.B == 0))] <| T_hs (good_pick [] rfl (by decide)) <| T_w [(2, .bool (s.B == 0))] <| T_cut ⟨_, (pure_some hM05).symm, hle, rfl, rfl⟩
      | false =>
       have hM06 := if_some_false hc3 hM02
       try rw [hc3]
       refine R_d 27 [0] [(33, .bool (s.A == 0))] ?_
       cases hc5 : (s.A == 0) with
       | true =>
        have hM07 := if_some_true hc5 hM06
        try rw [hc5]
        refine R_d 30 [] [(36, .bool (decide (y > 2)))] ?_
        cases hc6 : (decide (y > 2)) with
        | true =>
         have hM08 := if_some_true hc6 hM07
         try rw [hc6]
         exact R_z [] [(2, .bool true)] <| T_hs (good_pick [] rfl (by decide)) <| T_w [(2, .bool true)] <| T_cut ⟨_, (pure_some hM08).symm, hle, rfl, rfl⟩
        | false =>
         have hM09 := if_some_false hc6 hM07
         try rw [hc6]
         exact R_z [0] [(2, .bool (s.B == 0))] <| T_hs (good_pick [] rfl (by decide)) <| T_w [(2, .bool (s.B == 0))] <| T_cut ⟨_, (pure_some hM09).symm, hle, rfl, rfl⟩
       | false =>
        have hM010 := if_some_false hc5 hM06
        try rw [hc5]
        exact R_z [] [(2, .bool false)] <| T_hs (good_pick [] rfl (by decide)) <| T_w [(2, .bool false)] <| T_cut ⟨_, (pure_some hM010).symm, hle, rfl, rfl⟩
     | false =>
      have hM011 := if_some_false hc2 hM01
      try rw [hc2]
      refine R_d 18 [0] [(24, .bool (s.Part == 0))] ?_
      cases hc7 : (s.Part == 0) with
      | true =>
       have hM012 := if_some_true hc7 hM011
       try rw [hc7]
       refine R_d 21 [] [(27, .bool (decide (y > 1)))] ?_
       cases hc8 : (decide (y > 1)) with
       | true =>
        have hM013 := if_some_true hc8 hM012
        try rw [hc8]
        refine R_d 30 [] [(33, .bool true), (36, .bool (decide (y > 2)))] ?_
        cases hc9 : (decide (y > 2)) with
        | true =>
         have hM014 := if_some_true hc9 hM013
         try rw [hc9]
         exact R_z [] [(2, .bool true)] <| T_hs (good_pick [] rfl (by decide)) <| T_w [(2, .bool true)] <| T_cut ⟨_, (pure_some hM014).symm, hle, rfl, rfl⟩
        | false =>
         have hM015 := if_some_false hc9 hM013
         try rw [hc9]
         exact R_z [0] [(2, .bool (s.B == 0))] <| T_hs (good_pick [] rfl (by decide)) <| T_w [(2, .bool (s.B == 0))] <| T_cut ⟨_, (pure_some hM015).symm, hle, rfl, rfl⟩
       | false =>
        have hM016 := if_some_false hc8 hM012
        try rw [hc8]
        refine R_d 27 [0] [(33, .bool (s.A == 0))] ?_
        cases hc10 : (s.A == 0) with
        | true =>
         have hM017 := if_some_true hc10 hM016
         try rw [hc10]
         refine R_d 30 [] [(36, .bool (decide (y > 2)))] ?_
         cases hc11 : (decide (y > 2)) with
         | true =>
          have hM018 := if_some_true hc11 hM017
          try rw [hc11]
          exact R_z [] [(2, .bool true)] <| T_hs (good_pick [] rfl (by decide)) <| T_w [(2, .bool true)] <| T_cut ⟨_, (pure_some hM018).symm, hle, rfl, rfl⟩
         | false =>
          have hM019 := if_some_false hc11 hM017
          try rw [hc11]
          exact R_z [0] [(2, .bool (s.B == 0))] <| T_hs (good_pick [] rfl (by decide)) <| T_w [(2, .bool (s.B == 0))] <| T_cut ⟨_, (pure_some hM019).symm, hle, rfl, rfl⟩
        | false =>
         have hM020 := if_some_false hc10 hM016
         try rw [hc10]
         exact R_z [] [(2, .bool false)] <| T_hs (good_pick [] rfl (by decide)) <| T_w [(2, .bool false)] <| T_cut ⟨_, (pure_some hM020).symm, hle, rfl, rfl⟩
      | false =>
       have hM021 := if_some_false hc7 hM011
       try rw [hc7]
       exact R_z [] [(2, .bool false)] <| T_hs (good_pick [] rfl (by decide)) <| T_w [(2, .bool false)] <| T_cut ⟨_, (pure_some hM021).symm, hle, rfl, rfl⟩
    | false =>
     have hM022 := if_some_false hc1 hM0
     try rw [hc1]
     exact R_z [] [(2, .bool false)] <| T_hs (good_pick [] rfl (by decide)) <| T_w [(2, .bool false)] <| T_cut ⟨_, (pure_some hM022).symm, hle, rfl, rfl⟩
   | false =>
    have hM023 := if_some_false hc ho0
    try rw [hc]
    exact R_z [] [(2, .bool false)] <| T_hs (good_pick [] rfl (by decide)) <| T_w [(2, .bool false)] <| T_cut ⟨_, (pure_some hM023).symm, hle, rfl, rfl⟩
 · rintro imm01 hs2 m2 ⟨t2, heq, le1, rfl, rfl⟩
   subst o0
   replace hle := hle.trans le1
   refine T_seq <| J_ret ?_
   obtain rfl := pure_some hM
   exact T_RS ⟨_, _, (.tmp rfl ResV.nil), good_none, ⟨_, rfl, rfl, rfl⟩⟩
def spec_l1Within_post (r : Bool) : Nat → Imm → List HA → Value → Prop := fun kk imm' hs' v =>
  ∃ (v0 : Value), hs' = [] ∧ v = tupV [v0] ∧ v0 = .bool r
def M.spec_l1Within (n0 : Int) (most : Int) : Option (Bool) := do
 let t4 ← (do
   if (decide (n0 ≥ (W (0 - most)))) then
    pure (decide (n0 ≤ most))
   else
    pure false
     : Option Bool)
 pure (id t4)
theorem spec_l1Within_ok : ∀ (n0 : Int) (most : Int) r, M.spec_l1Within n0 most = some r → ∀ {imm : Imm} , Ret Tryd.prog 27 [vI n0, vI most] imm [] (spec_l1Within_post  r) := by
 intro n0 most r hM imm
 unfold M.spec_l1Within at hM
 refine ret_of_J (fn := Tryd.f27) (c := (bodyOf Tryd.f27)) Tryd.func27 rfl rfl ?_
 rintro B - -
 have hle : imm.le imm := Imm.le.refl _
 refine J_seq <| J_region <| R_z [] [] <| T_seq <| J_seq ?_
 obtain ⟨o0, ho0, hM⟩ := bind_some hM
 refine J_cut (fun imm' hs' m' => ∃ (t4 : Bool), o0 = t4 ∧ imm.le imm' ∧ hs' = [] ∧ m' = [(4, .bool t4)]) ?_ ?_
 · have hle0 := hle
   have hle : imm.le imm := Imm.le.refl _
   refine J_region <| R_d 5 [] [(9, .bool (decide (n0 ≥ (W (0 - most)))))] ?_
   cases hc : (decide (n0 ≥ (W (0 - most)))) with
   | true =>
    have hM0 := if_some_true hc ho0
    try rw [hc]
    exact R_z [] [(4, .bool (decide (n0 ≤ most)))] <| T_w [(4, .bool (decide (n0 ≤ most)))] <| T_cut ⟨_, (pure_some hM0).symm, hle, rfl, rfl⟩
   | false =>
    have hM01 := if_some_false hc ho0
    try rw [hc]
    exact R_z [] [(4, .bool false)] <| T_w [(4, .bool false)] <| T_cut ⟨_, (pure_some hM01).symm, hle, rfl, rfl⟩
 · rintro imm0 hs2 m2 ⟨t4, heq, le, rfl, rfl⟩
   subst o0
   replace hle := hle.trans le
   refine T_seq <| J_ret ?_
   obtain rfl := pure_some hM
   exact T_RS ⟨_, _, (.tmp rfl ResV.nil), good_none, ⟨_, rfl, rfl, rfl⟩⟩
def spec_l14Small_post (r : Bool) : Nat → Imm → List HA → Value → Prop := fun kk imm' hs' v =>
  ∃ (v0 : Value), hs' = [] ∧ v = tupV [v0] ∧ v0 = .bool r
def M.spec_l14Small (s : impl_Step) : Option (Bool) := do
 let t2 ← (do
   let y ← M.spec_l1Within s.Part 99
   if y then
    let y1 ← M.spec_l1Within s.A 99
    if y1 then
     let y2 ← M.spec_l1Within s.B 99
     pure (id y2)
    else
     pure false
   else
    pure false
     : Option Bool)
 pure (id t2)
theorem spec_l14Small_ok : ∀ (s : impl_Step) r, M.spec_l14Small s = some r → ∀ {imm : Imm} , Ret Tryd.prog 15 [vA [vI s.Kind, vI s.Part, vI s.A, vI s.B]] imm [] (spec_l14Small_post  r) := by
 intro s r hM imm
 unfold M.spec_l14Small at hM
 refine ret_of_J (fn := Tryd.f15) (c := (bodyOf Tryd.f15)) Tryd.func15 rfl rfl ?_
 rintro B - -
 have hle : imm.le imm := Imm.le.refl _
 refine J_seq <| J_region <| R_box (c := ⟨[vI s.Kind, vI s.Part, vI s.A, vI s.B]⟩) rfl rfl rfl rfl rfl ?_
 intro b hb
 refine R_z [] [] <| T_seq <| J_seq ?_
 obtain ⟨o0, ho0, hM⟩ := bind_some hM
 refine J_cut (fun imm' hs' m' => ∃ (t2 : Bool), o0 = t2 ∧ imm.le imm' ∧ hs' = [] ∧ m' = [(2, .bool t2)]) ?_ ?_
 · have hle0 := hle
   have hle : imm.le imm := Imm.le.refl _
   refine J_region <| R_d 2 [0] [(4, vI s.Part)] ?_
   obtain ⟨y, hy, hM⟩ := bind_some ho0
   refine R_call (hs1 := []) (rest := [hB b [vI s.Kind, vI s.Part, vI s.A, vI s.B]]) rfl rfl rfl rfl (by kernel_rfl) rfl rfl (spec_l1Within_ok s.Part 99 _ hy ) ?_
   rintro imm01 hs2 v2 k2 le - ⟨v0, rfl, rfl, rfl⟩ -
   replace hle := hle.trans le
   refine R_d 4 [] [(6, .bool y)] ?_
   cases hc : y with
   | true =>
    have hM0 := if_some_true hc hM
    try rw [hc]
    refine R_d 6 [0] [(8, vI s.A)] ?_
    obtain ⟨y1, hy1, hM⟩ := bind_some hM0
    refine R_call (hs1 := []) (rest := [hB b [vI s.Kind, vI s.Part, vI s.A, vI s.B]]) rfl rfl rfl rfl (by kernel_rfl) rfl rfl (spec_l1Within_ok s.A 99 _ hy1 ) ?_
    rintro imm02 hs2 v2 k2 le1 - ⟨v01, rfl, rfl, rfl⟩ -
    replace hle := hle.trans le1
    refine R_d 9 [] [(11, .bool y1)] ?_
    cases hc1 : y1 with
    | true =>
     have hM01 := if_some_true hc1 hM
     try rw [hc1]
     refine R_d 11 [0] [(13, vI s.B)] ?_
     obtain ⟨y2, hy2, hM⟩ := bind_some hM01
     refine R_call (hs1 := []) (rest := [hB b [vI s.Kind, vI s.Part, vI s.A, vI s.B]]) rfl rfl rfl rfl (by kernel_rfl) rfl rfl (spec_l1Within_ok s.B 99 _ hy2 ) ?_
     rintro imm03 hs2 v2 k2 le2 - ⟨v02, rfl, rfl, rfl⟩ -
     replace hle := hle.trans le2
     exact R_z [] [(2, .bool y2)] <| T_hs (good_pick [] rfl (by decide)) <| T_w [(2, .bool y2)] <| T_cut ⟨_, (pure_some hM).symm, hle, rfl, rfl⟩
    | false =>
     have hM02 := if_some_false hc1 hM
     try rw [hc1]
     exact R_z [] [(2, .bool false)] <| T_hs (good_pick [] rfl (by decide)) <| T_w [(2, .bool false)] <| T_cut ⟨_, (pure_some hM02).symm, hle, rfl, rfl⟩
   | false =>
    have hM03 := if_some_false hc hM
    try rw [hc]
    exact R_z [] [(2, .bool false)] <| T_hs (good_pick [] rfl (by decide)) <| T_w [(2, .bool false)] <| T_cut ⟨_, (pure_some hM03).symm, hle, rfl, rfl⟩
 · rintro imm0 hs2 m2 ⟨t2, heq, le3, rfl, rfl⟩
   subst o0
   replace hle := hle.trans le3
   refine T_seq <| J_ret ?_
   obtain rfl := pure_some hM
   exact T_RS ⟨_, _, (.tmp rfl ResV.nil), good_none, ⟨_, rfl, rfl, rfl⟩⟩
def spec_l14Words_post (r : (List Str)) : Nat → Imm → List HA → Value → Prop := fun kk imm' hs' v =>
  ∃ (v0 : Value), hs' = [] ∧ v = tupV [v0] ∧ SL imm' v0 r
def M.spec_l14Words  : Option ((List Str)) := do
 pure ([(⟨[]⟩ : Str), (⟨[105, 110, 116, 101, 114, 99, 104, 97, 110, 103, 101]⟩ : Str), (⟨[114, 101, 118, 101, 114, 115, 101]⟩ : Str), (⟨[115, 107, 101, 119]⟩ : Str), (⟨[115, 104, 105, 102, 116]⟩ : Str), (⟨[115, 116, 114, 105, 112]⟩ : Str), (⟨[102, 117, 115, 101]⟩ : Str), (⟨[100, 105, 115, 116, 114, 105, 98, 117, 116, 101]⟩ : Str), (⟨[115, 112, 108, 105, 116]⟩ : Str), (⟨[115, 119, 97, 112]⟩ : Str), (⟨[100, 114, 111, 112]⟩ : Str), (⟨[102, 111, 108, 100]⟩ : Str)] : List Str)
theorem spec_l14Words_ok : ∀ r, M.spec_l14Words  = some r → ∀ {imm : Imm} , Ret Tryd.prog 16 [] imm [] (spec_l14Words_post  r) := by
 intro  r hM imm
 unfold M.spec_l14Words at hM
 refine ret_of_J (fn := Tryd.f16) (c := (bodyOf Tryd.f16)) Tryd.func16 rfl rfl ?_
 rintro B - -
 have hle : imm.le imm := Imm.le.refl _
 refine J_seq <| J_region <| R_z [] [] <| T_seq <| J_seq <| J_region <| R_buildSlice (cs := [vT ([]), vT ([105, 110, 116, 101, 114, 99, 104, 97, 110, 103, 101]), vT ([114, 101, 118, 101, 114, 115, 101]), vT ([115, 107, 101, 119]), vT ([115, 104, 105, 102, 116]), vT ([115, 116, 114, 105, 112]), vT ([102, 117, 115, 101]), vT ([100, 105, 115, 116, 114, 105, 98, 117, 116, 101]), vT ([115, 112, 108, 105, 116]), vT ([115, 119, 97, 112]), vT ([100, 114, 111, 112]), vT ([102, 111, 108, 100])]) (Rp.sz Str) rfl rfl rfl rfl (by kernel_rfl) (by kernel_rfl) ?_
 intro b hb
 have h : RL imm [vT ([]), vT ([105, 110, 116, 101, 114, 99, 104, 97, 110, 103, 101]), vT ([114, 101, 118, 101, 114, 115, 101]), vT ([115, 107, 101, 119]), vT ([115, 104, 105, 102, 116]), vT ([115, 116, 114, 105, 112]), vT ([102, 117, 115, 101]), vT ([100, 105, 115, 116, 114, 105, 98, 117, 116, 101]), vT ([115, 112, 108, 105, 116]), vT ([115, 119, 97, 112]), vT ([100, 114, 111, 112]), vT ([102, 111, 108, 100])] ([(⟨[]⟩ : Str), (⟨[105, 110, 116, 101, 114, 99, 104, 97, 110, 103, 101]⟩ : Str), (⟨[114, 101, 118, 101, 114, 115, 101]⟩ : Str), (⟨[115, 107, 101, 119]⟩ : Str), (⟨[115, 104, 105, 102, 116]⟩ : Str), (⟨[115, 116, 114, 105, 112]⟩ : Str), (⟨[102, 117, 115, 101]⟩ : Str), (⟨[100, 105, 115, 116, 114, 105, 98, 117, 116, 101]⟩ : Str), (⟨[115, 112, 108, 105, 116]⟩ : Str), (⟨[115, 119, 97, 112]⟩ : Str), (⟨[100, 114, 111, 112]⟩ : Str), (⟨[102, 111, 108, 100]⟩ : Str)] : List Str) := ⟨[vT ([])], _, rfl, rfl, rfl, ⟨[vT ([105, 110, 116, 101, 114, 99, 104, 97, 110, 103, 101])], _, rfl, rfl, rfl, ⟨[vT ([114, 101, 118, 101, 114, 115, 101])], _, rfl, rfl, rfl, ⟨[vT ([115, 107, 101, 119])], _, rfl, rfl, rfl, ⟨[vT ([115, 104, 105, 102, 116])], _, rfl, rfl, rfl, ⟨[vT ([115, 116, 114, 105, 112])], _, rfl, rfl, rfl, ⟨[vT ([102, 117, 115, 101])], _, rfl, rfl, rfl, ⟨[vT ([100, 105, 115, 116, 114, 105, 98, 117, 116, 101])], _, rfl, rfl, rfl, ⟨[vT ([115, 112, 108, 105, 116])], _, rfl, rfl, rfl, ⟨[vT ([115, 119, 97, 112])], _, rfl, rfl, rfl, ⟨[vT ([100, 114, 111, 112])], _, rfl, rfl, rfl, ⟨[vT ([102, 111, 108, 100])], _, rfl, rfl, rfl, rfl⟩⟩⟩⟩⟩⟩⟩⟩⟩⟩⟩⟩
 refine R_z [] [(0, vS (some ⟨b, 0, none⟩) ([(⟨[]⟩ : Str), (⟨[105, 110, 116, 101, 114, 99, 104, 97, 110, 103, 101]⟩ : Str), (⟨[114, 101, 118, 101, 114, 115, 101]⟩ : Str), (⟨[115, 107, 101, 119]⟩ : Str), (⟨[115, 104, 105, 102, 116]⟩ : Str), (⟨[115, 116, 114, 105, 112]⟩ : Str), (⟨[102, 117, 115, 101]⟩ : Str), (⟨[100, 105, 115, 116, 114, 105, 98, 117, 116, 101]⟩ : Str), (⟨[115, 112, 108, 105, 116]⟩ : Str), (⟨[115, 119, 97, 112]⟩ : Str), (⟨[100, 114, 111, 112]⟩ : Str), (⟨[102, 111, 108, 100]⟩ : Str)] : List Str) 12)] <| T_seq <| J_ret <| T_freeze 0 rfl ?_
 intro imm0 le hl0
 have h1 := SL.of_frozen hl0 le h
 replace hle := hle.trans le
 obtain rfl := pure_some hM
 exact T_RS ⟨_, _, (.tmp rfl ResV.nil), good_none, ⟨_, rfl, rfl, h1⟩⟩
def spec_l16Dec_post (r : Str) : Nat → Imm → List HA → Value → Prop := fun kk imm' hs' v =>
  ∃ (v0 : Value), hs' = [] ∧ v = tupV [v0] ∧ v0 = .string ⟨⟨r.l⟩⟩
def M.spec_l16Dec_l1 (n01 : Int) (out : Str) : Option ((Int × Str)) := do
 if (decide (n01 > 9)) then
  let s1 ← cat (⟨([(u8 (W (48 + (n01.tmod 10))))] : List UInt8)⟩ : Str) out
  M.spec_l16Dec_l1 (W (n01.tdiv 10)) s1
 else
  pure (n01, out)
 partial_fixpoint
theorem spec_l16Dec_l1_ok  : ∀ (n01 : Int) (out : Str) (o : (Int × Str)), M.spec_l16Dec_l1 n01 out = some o → ∀ {B : Base} {imm0 imm : Imm} {Q : Exit → Act → World → Prop}  , imm0.le imm → (∀ l a w, ¬ Q (.goto l) a w) → (∀ a w, ¬ Q .outgrown a w) → (∀ (imm' : Imm) (n02 : Int) (out1 : Str), o = (n02, out1) → imm0.le imm' → T 31 B Q (.exit 0) imm' [] [(0, vI n02), (3, vT out1.l)]) → J Tryd.prog 31 B (nav (bodyOf Tryd.f28) [1, 1, 1, 1, 0, 0]) Q imm [] [(0, vI n01), (3, vT out.l)] := by
 refine M.spec_l16Dec_l1.partial_correctness  _ ?_
 intro self ih n01 out o hM B imm0 imm Q  hle  hg ho hx
 refine J_loop hg ho <| J_seq <| J_seq <| J_region <| R_z [] [(13, .bool (decide (n01 > 9)))] <| T_seq <| J_cd hM ?_ ?_
 · intro hc2 hM
   refine J_skip <| T_seq <| J_block <| J_seq <| J_region <| R_d 3 [] [(16, vI (W (48 + (n01.tmod 10))))] <| R_u8 (d := 17) (i := (W (48 + (n01.tmod 10)))) rfl (by kernel_rfl) <| R_buildSlice (cs := [.int .u8 ((u8 (W (48 + (n01.tmod 10)))).toNat : Int)]) (Rp.sz UInt8) rfl rfl rfl rfl (by kernel_rfl) (by kernel_rfl) ?_
   intro b hb
   have h1 : RL imm [.int .u8 ((u8 (W (48 + (n01.tmod 10)))).toNat : Int)] ([(u8 (W (48 + (n01.tmod 10))))] : List UInt8) := ⟨[.int .u8 ((u8 (W (48 + (n01.tmod 10)))).toNat : Int)], _, rfl, rfl, rfl, rfl⟩
   refine R_bytes (l := ([(u8 (W (48 + (n01.tmod 10))))] : List UInt8)) rfl rfl rfl rfl (by kernel_rfl) (by kernel_rfl) (.inr ⟨0, rfl⟩) h1 <| R_d 7 [] [(20, vT out.l)] ?_
   obtain ⟨s1, hy2, hM⟩ := bind_some hM
   exact R_ca rfl hy2 <| R_z [] [(3, vT s1.l)] <| T_seq <| J_region <| R_z [] [(0, vI (W (n01.tdiv 10)))] <| T_block_normal <| T_loop <| J_hs (good_pick [] rfl (by decide)) <| J_w [(0, vI (W (n01.tdiv 10))), (3, vT s1.l)] <| ih (W (n01.tdiv 10)) s1 _ hM hle  hg ho hx
 · intro hc2 hM
   exact J_exit <| T_then_exit <| T_then_exit <| T_w [(0, vI n01), (3, vT out.l)] <| hx _ _ _ (pure_some hM).symm hle
def M.spec_l16Dec (n0 : Int) : Option (Str) := do
 if (decide (n0 < (-9223372036854775807))) then
  pure (⟨[45, 57, 50, 50, 51, 51, 55, 50, 48, 51, 54, 56, 53, 52, 55, 55, 53, 56, 48, 56]⟩ : Str)
 else
  if (decide (n0 < 0)) then
   let y ← M.spec_l16Dec (W (0 - n0))
   let s ← cat (⟨[45]⟩ : Str) y
   pure (id s)
  else
   let (n02, out1) ← M.spec_l16Dec_l1 n0 (⟨[]⟩ : Str)
   let s2 ← cat (⟨([(u8 (W (48 + n02)))] : List UInt8)⟩ : Str) out1
   pure (id s2)
 partial_fixpoint
theorem spec_l16Dec_ok : ∀ (n0 : Int) r, M.spec_l16Dec n0 = some r → ∀ {imm : Imm} , Ret Tryd.prog 28 [vI n0] imm [] (spec_l16Dec_post  r) := by
 refine M.spec_l16Dec.partial_correctness (fun n0 r => ∀ {imm : Imm} , Ret Tryd.prog 28 [vI n0] imm [] (spec_l16Dec_post  r)) ?_
 intro F_spec_l16Dec ih_spec_l16Dec n0 r hM imm
 refine ret_of_J (fn := Tryd.f28) (c := (bodyOf Tryd.f28)) Tryd.func28 rfl rfl ?_
 rintro B - -
 have hle : imm.le imm := Imm.le.refl _
 refine J_seq <| J_region <| R_z [] [] <| T_seq <| J_seq <| J_seq <| J_region <| R_z [] [(5, .bool (decide (n0 < (-9223372036854775807))))] <| T_seq <| J_cd hM ?_ ?_
 · intro hc hM
   refine J_seq <| J_region <| R_z [] [(2, vT ([45, 57, 50, 50, 51, 51, 55, 50, 48, 51, 54, 56, 53, 52, 55, 55, 53, 56, 48, 56]))] <| T_seq <| J_ret <| T_then_ret ?_
   obtain rfl := pure_some hM
   exact T_RS ⟨_, _, (.tmp rfl ResV.nil), good_none, ⟨_, rfl, rfl, rfl⟩⟩
 · intro hc hM
   refine J_skip <| T_seq <| J_seq <| J_seq <| J_region <| R_z [] [(7, .bool (decide (n0 < 0)))] <| T_seq <| J_cd hM ?_ ?_
   · intro hc1 hM
     refine J_seq <| J_region <| R_d 2 [] [(9, vI (W (0 - n0)))] ?_
     obtain ⟨y, hy, hM⟩ := bind_some hM
     refine R_call (hs1 := []) (rest := []) rfl rfl rfl rfl (by kernel_rfl) rfl rfl (ih_spec_l16Dec (W (0 - n0)) _ hy ) ?_
     rintro imm0 hs2 v2 k2 le - ⟨v0, rfl, rfl, rfl⟩ -
     replace hle := hle.trans le
     obtain ⟨s, hy1, hM⟩ := bind_some hM
     refine R_ca rfl hy1 <| R_z [] [(2, vT s.l)] <| T_seq <| J_ret <| T_then_ret ?_
     obtain rfl := pure_some hM
     exact T_RS ⟨_, _, (.tmp rfl ResV.nil), good_none, ⟨_, rfl, rfl, rfl⟩⟩
   · intro hc1 hM
     refine J_skip <| T_seq <| J_seq <| J_region <| R_z [] [(3, vT ([]))] <| T_seq <| J_seq <| J_block <| J_w [(0, vI n0), (3, vT ([]))] ?_
     obtain ⟨o0, ho0, hM⟩ := bind_some hM
     refine spec_l16Dec_l1_ok n0 (⟨[]⟩ : Str) o0 ho0 (Imm.le.refl _)  (fun _ _ _ h => h) (fun _ _ h => h) ?_
     intro imm01 n02 out1 heq le1
     subst o0
     replace hle := hle.trans le1
     refine T_block_here <| T_seq <| J_seq <| J_region <| R_d 2 [] [(25, vI (W (48 + n02)))] <| R_u8 (d := 26) (i := (W (48 + n02))) rfl (by kernel_rfl) <| R_buildSlice (cs := [.int .u8 ((u8 (W (48 + n02))).toNat : Int)]) (Rp.sz UInt8) rfl rfl rfl rfl (by kernel_rfl) (by kernel_rfl) ?_
     intro b1 hb1
     have h2 : RL imm01 [.int .u8 ((u8 (W (48 + n02))).toNat : Int)] ([(u8 (W (48 + n02)))] : List UInt8) := ⟨[.int .u8 ((u8 (W (48 + n02))).toNat : Int)], _, rfl, rfl, rfl, rfl⟩
     refine R_bytes (l := ([(u8 (W (48 + n02)))] : List UInt8)) rfl rfl rfl rfl (by kernel_rfl) (by kernel_rfl) (.inr ⟨0, rfl⟩) h2 <| R_d 6 [] [(29, vT out1.l)] ?_
     obtain ⟨s2, hy3, hM⟩ := bind_some hM
     refine R_ca rfl hy3 <| R_z [] [(2, vT s2.l)] <| T_seq <| J_ret ?_
     obtain rfl := pure_some hM
     exact T_RS ⟨_, _, (.tmp rfl ResV.nil), good_none, ⟨_, rfl, rfl, rfl⟩⟩
def spec_l14Signed_post (r : Str) : Nat → Imm → List HA → Value → Prop := fun kk imm' hs' v =>
  ∃ (v0 : Value), hs' = [] ∧ v = tupV [v0] ∧ v0 = .string ⟨⟨r.l⟩⟩
def M.spec_l14Signed (n0 : Int) : Option (Str) := do
 if (decide (n0 < 0)) then
  let y ← M.spec_l16Dec (W (0 - n0))
  let s ← cat (⟨[45]⟩ : Str) y
  pure (id s)
 else
  let y1 ← M.spec_l16Dec n0
  pure (id y1)
theorem spec_l14Signed_ok : ∀ (n0 : Int) r, M.spec_l14Signed n0 = some r → ∀ {imm : Imm} , Ret Tryd.prog 18 [vI n0] imm [] (spec_l14Signed_post  r) := by
 intro n0 r hM imm
 unfold M.spec_l14Signed at hM
 refine ret_of_J (fn := Tryd.f18) (c := (bodyOf Tryd.f18)) Tryd.func18 rfl rfl ?_
 rintro B - -
 have hle : imm.le imm := Imm.le.refl _
 refine J_seq <| J_region <| R_z [] [] <| T_seq <| J_seq <| J_seq <| J_region <| R_z [] [(4, .bool (decide (n0 < 0)))] <| T_seq <| J_cd hM ?_ ?_
 · intro hc hM
   refine J_seq <| J_region <| R_d 2 [] [(6, vI (W (0 - n0)))] ?_
   obtain ⟨y, hy, hM⟩ := bind_some hM
   refine R_call (hs1 := []) (rest := []) rfl rfl rfl rfl (by kernel_rfl) rfl rfl (spec_l16Dec_ok (W (0 - n0)) _ hy ) ?_
   rintro imm0 hs2 v2 k2 le - ⟨v0, rfl, rfl, rfl⟩ -
   replace hle := hle.trans le
   obtain ⟨s, hy1, hM⟩ := bind_some hM
   refine R_ca rfl hy1 <| R_z [] [(2, vT s.l)] <| T_seq <| J_ret <| T_then_ret ?_
   obtain rfl := pure_some hM
   exact T_RS ⟨_, _, (.tmp rfl ResV.nil), good_none, ⟨_, rfl, rfl, rfl⟩⟩
 · intro hc hM
   refine J_skip <| T_seq <| J_seq <| J_region <| R_d 1 [] [(9, vI n0)] ?_
   obtain ⟨y1, hy2, hM⟩ := bind_some hM
   refine R_call (hs1 := []) (rest := []) rfl rfl rfl rfl (by kernel_rfl) rfl rfl (spec_l16Dec_ok n0 _ hy2 ) ?_
   rintro imm01 hs2 v2 k2 le1 - ⟨v01, rfl, rfl, rfl⟩ -
   replace hle := hle.trans le1
   refine R_z [] [(2, vT y1.l)] <| T_seq <| J_ret ?_
   obtain rfl := pure_some hM
   exact T_RS ⟨_, _, (.tmp rfl ResV.nil), good_none, ⟨_, rfl, rfl, rfl⟩⟩
def spec_FormatSteps_post (r : Str) : Nat → Imm → List HA → Value → Prop := fun kk imm' hs' v =>
  ∃ (v0 : Value), hs' = [] ∧ v = tupV [v0] ∧ v0 = .string ⟨⟨r.l⟩⟩
def M.spec_FormatSteps_l2 (list : (List impl_Step)) (i : Int) (x2 : impl_Step) (x3 : impl_Step) (x4 : impl_Step) (out2 : Str) (k0 : Int) : Option (Str) := do
 let x7 ← idx list i
 let y3 ← M.spec_l14Fields x7.Kind
 if (decide (k0 < y3)) then
  let s1 ← cat out2 (⟨[32]⟩ : Str)
  let x8 ← idx ([x2.Part, x3.A, x4.B] : List Int) k0
  let y4 ← M.spec_l14Signed x8
  let s2 ← cat s1 y4
  M.spec_FormatSteps_l2 list i x2 x3 x4 s2 (W (k0 + 1))
 else
  pure (id out2)
 partial_fixpoint
theorem spec_FormatSteps_l2_ok (list : (List impl_Step)) (i : Int) (x2 : impl_Step) (x3 : impl_Step) (x4 : impl_Step) : ∀ (out2 : Str) (k0 : Int) (o : Str), M.spec_FormatSteps_l2 list i x2 x3 x4 out2 k0 = some o → ∀ {B : Base} {imm0 imm : Imm} {Q : Exit → Act → World → Prop}  {p : Option Addr} {c : Nat} {b : Nat}, imm0.le imm → (SL imm (vS p list c) list) → (RL imm [vI x2.Part, vI x3.A, vI x4.B] ([x2.Part, x3.A, x4.B] : List Int)) → (∀ l a w, ¬ Q (.goto l) a w) → (∀ a w, ¬ Q .outgrown a w) → (∀ (imm' : Imm) (out3 : Str), o = out3 → imm0.le imm' → T 79 B Q (.exit 2) imm' [] [(0, vS p list c), (3, vT out3.l), (4, vI i)]) → J Tryd.prog 79 B (nav (bodyOf Tryd.f6) [1, 1, 0, 1, 0, 0, 1, 0, 0, 1, 1, 1, 0, 1, 0]) Q imm [hO Int (vS (some ⟨b, 0, none⟩) ([x2.Part, x3.A, x4.B] : List Int) 3) [vI x2.Part, vI x3.A, vI x4.B]] [(0, vS p list c), (3, vT out2.l), (4, vI i), (5, vS (some ⟨b, 0, none⟩) ([x2.Part, x3.A, x4.B] : List Int) 3), (6, vI k0)] := by
 refine M.spec_FormatSteps_l2.partial_correctness list i x2 x3 x4 _ ?_
 intro self ih out2 k0 o hM B imm0 imm Q p c b hle h h3 hg ho hx
 refine J_loop hg ho <| J_seq <| J_seq <| J_region <| R_d 3 [] [(58, vI k0), (59, vS p list c), (60, vI i)] ?_
 obtain ⟨x7, hy11, hM⟩ := bind_some hM
 refine R_ix rfl rfl h hy11 ?_
 intro ad7 ccs7 hat7 hrep7
 obtain rfl := impl_Step_open hrep7
 refine R_d 5 [] [(62, .pointer (some ad7))] <| R_la 0 hat7 [vI x7.Kind] (vI x7.Kind) rfl ?_
 obtain ⟨y3, hy12, hM⟩ := bind_some hM
 refine R_call (hs1 := []) (rest := [hO Int (vS (some ⟨b, 0, none⟩) ([x2.Part, x3.A, x4.B] : List Int) 3) [vI x2.Part, vI x3.A, vI x4.B]]) rfl rfl rfl rfl (by kernel_rfl) rfl rfl (spec_l14Fields_ok x7.Kind _ hy12 ) ?_
 rintro imm06 hs2 v2 k2 le6 - ⟨v03, rfl, rfl, rfl⟩ -
 replace h := h.mono le6
 replace h3 := RepL.mono (fun _ _ => Rp.mono le6) h3
 replace hle := hle.trans le6
 refine R_z [] [(65, .bool (decide (k0 < y3)))] <| T_seq <| J_cd hM ?_ ?_
 · intro hc4 hM
   refine J_skip <| T_seq <| J_seq <| J_block <| J_region <| R_d 1 [] [(68, vT out2.l)] ?_
   obtain ⟨s1, hy13, hM⟩ := bind_some hM
   refine R_ca rfl hy13 <| R_d 4 [] [(70, vS (some ⟨b, 0, none⟩) ([x2.Part, x3.A, x4.B] : List Int) 3), (71, vI k0)] ?_
   obtain ⟨x8, hy14, hM⟩ := bind_some hM
   refine R_ixo 0 rfl rfl rfl h3 hy14 ?_
   intro ad8 ccs8 hat8 hcc hrep8
   obtain rfl := hrep8
   refine R_lo 0 0 hat8 hcc [vI x8] (vI x8) rfl rfl ?_
   obtain ⟨y4, hy15, hM⟩ := bind_some hM
   refine R_call (hs1 := []) (rest := [hO Int (vS (some ⟨b, 0, none⟩) ([x2.Part, x3.A, x4.B] : List Int) 3) [vI x2.Part, vI x3.A, vI x4.B]]) rfl rfl rfl rfl (by kernel_rfl) rfl rfl (spec_l14Signed_ok x8 _ hy15 ) ?_
   rintro imm07 hs2 v2 k2 le7 - ⟨v04, rfl, rfl, rfl⟩ -
   replace h := h.mono le7
   replace h3 := RepL.mono (fun _ _ => Rp.mono le7) h3
   replace hle := hle.trans le7
   obtain ⟨s2, hy16, hM⟩ := bind_some hM
   exact R_ca rfl hy16 <| R_z [] [(3, vT s2.l)] <| T_block_normal <| T_seq <| J_region <| R_z [] [(6, vI (W (k0 + 1)))] <| T_loop <| J_w [(0, vS p list c), (3, vT s2.l), (4, vI i), (5, vS (some ⟨b, 0, none⟩) ([x2.Part, x3.A, x4.B] : List Int) 3), (6, vI (W (k0 + 1)))] <| ih s2 (W (k0 + 1)) _ hM hle h h3 hg ho hx
 · intro hc4 hM
   exact J_exit <| T_then_exit <| T_then_exit <| T_hs (good_pick [] rfl (by decide)) <| T_w [(0, vS p list c), (3, vT out2.l), (4, vI i)] <| hx _ _ (pure_some hM).symm hle
def M.spec_FormatSteps_l1 (list : (List impl_Step)) (out : Str) (i : Int) : Option (Out Str (Str)) := do
 if (decide (i < (list.length : Int))) then
  let t31 ← (do
    let x ← idx list i
    let y ← M.spec_l14Right x
    if (!y) then
     pure true
    else
     let x1 ← idx list i
     let y1 ← M.spec_l14Small x1
     if (!y1) then
      pure true
     else
      pure (decide ((list.length : Int) > 12))
      : Option Bool)
  if t31 then
   pure (.ret (⟨[]⟩ : Str))
  else
   let x2 ← idx list i
   let x3 ← idx list i
   let x4 ← idx list i
   let y2 ← M.spec_l14Words
   let x5 ← idx list i
   let x6 ← idx y2 x5.Kind
   let s ← cat out x6
   let out3 ← M.spec_FormatSteps_l2 list i x2 x3 x4 s 0
   let s3 ← cat out3 (⟨[10]⟩ : Str)
   M.spec_FormatSteps_l1 list s3 (W (i + 1))
 else
  pure (.done out)
 partial_fixpoint
theorem spec_FormatSteps_l1_ok (list : (List impl_Step)) : ∀ (out : Str) (i : Int) (o : Out Str (Str)), M.spec_FormatSteps_l1 list out i = some o → ∀ {B : Base} {imm0 imm : Imm} {Q : Exit → Act → World → Prop}  {p : Option Addr} {c : Nat}, imm0.le imm → (SL imm (vS p list c) list) → (∀ l a w, ¬ Q (.goto l) a w) → (∀ a w, ¬ Q .outgrown a w) → (∀ (imm' : Imm) (out1 : Str), o = (.done out1) → imm0.le imm' → T 79 B Q (.exit 0) imm' [] [(3, vT out1.l)]) → (∀ r imm' hs' m', o = (.ret r) → imm0.le imm' → RS Tryd.prog Tryd.f6 B (spec_FormatSteps_post  r) imm' hs' m' → T 79 B Q .ret imm' hs' m') → J Tryd.prog 79 B (nav (bodyOf Tryd.f6) [1, 1, 0, 1, 0]) Q imm [] [(0, vS p list c), (3, vT out.l), (4, vI i)] := by
 refine M.spec_FormatSteps_l1.partial_correctness list _ ?_
 intro self ih out i o hM B imm0 imm Q p c hle h hg ho hx hr
 refine J_loop hg ho <| J_seq <| J_seq <| J_region <| R_z [] [(10, .bool (decide (i < (list.length : Int))))] <| T_seq <| J_cd hM ?_ ?_
 · intro hc hM
   refine J_skip <| T_seq <| J_seq <| J_block <| J_seq <| J_seq ?_
   obtain ⟨o0, ho0, hM⟩ := bind_some hM
   refine J_cut (fun imm' hs' m' => ∃ (t31 : Bool), o0 = t31 ∧ imm.le imm' ∧ hs' = [] ∧ m' = [(0, vS p list c), (3, vT out.l), (4, vI i), (31, .bool t31)]) ?_ ?_
   · have hle0 := hle
     have hle : imm.le imm := Imm.le.refl _
     refine J_region <| R_d 2 [] [(13, vS p list c), (14, vI i)] ?_
     obtain ⟨x, hy, hM⟩ := bind_some ho0
     refine R_ix rfl rfl h hy ?_
     intro ad ccs hat hrep
     obtain rfl := impl_Step_open hrep
     refine R_la 0 hat [vI x.Kind, vI x.Part, vI x.A, vI x.B] (vA [vI x.Kind, vI x.Part, vI x.A, vI x.B]) rfl ?_
     obtain ⟨y, hy1, hM⟩ := bind_some hM
     refine R_call (hs1 := []) (rest := []) rfl rfl rfl rfl (by kernel_rfl) rfl rfl (spec_l14Right_ok x _ hy1 ) ?_
     rintro imm01 hs2 v2 k2 le - ⟨v0, rfl, rfl, rfl⟩ -
     replace h := h.mono le
     replace hle := hle.trans le
     refine R_d 7 [] [(19, .bool (!y))] ?_
     cases hc1 : (!y) with
     | true =>
      have hM0 := if_some_true hc1 hM
      try rw [hc1]
      exact R_z [] [(31, .bool true)] <| T_w [(0, vS p list c), (3, vT out.l), (4, vI i), (31, .bool true)] <| T_cut ⟨_, (pure_some hM0).symm, hle, rfl, rfl⟩
     | false =>
      have hM01 := if_some_false hc1 hM
      try rw [hc1]
      refine R_d 9 [] [(20, vS p list c), (21, vI i)] ?_
      obtain ⟨x1, hy2, hM⟩ := bind_some hM01
      refine R_ix rfl rfl h hy2 ?_
      intro ad1 ccs1 hat1 hrep1
      obtain rfl := impl_Step_open hrep1
      refine R_la 0 hat1 [vI x1.Kind, vI x1.Part, vI x1.A, vI x1.B] (vA [vI x1.Kind, vI x1.Part, vI x1.A, vI x1.B]) rfl ?_
      obtain ⟨y1, hy3, hM⟩ := bind_some hM
      refine R_call (hs1 := []) (rest := []) rfl rfl rfl rfl (by kernel_rfl) rfl rfl (spec_l14Small_ok x1 _ hy3 ) ?_
      rintro imm02 hs2 v2 k2 le1 - ⟨v01, rfl, rfl, rfl⟩ -
      replace h := h.mono le1
      replace hle := hle.trans le1
      refine R_d 15 [] [(27, .bool (!y1))] ?_
      cases hc2 : (!y1) with
      | true =>
       have hM02 := if_some_true hc2 hM
       try rw [hc2]
       exact R_z [] [(31, .bool true)] <| T_w [(0, vS p list c), (3, vT out.l), (4, vI i), (31, .bool true)] <| T_cut ⟨_, (pure_some hM02).symm, hle, rfl, rfl⟩
      | false =>
       have hM03 := if_some_false hc2 hM
       try rw [hc2]
       exact R_z [] [(31, .bool (decide ((list.length : Int) > 12)))] <| T_w [(0, vS p list c), (3, vT out.l), (4, vI i), (31, .bool (decide ((list.length : Int) > 12)))] <| T_cut ⟨_, (pure_some hM03).symm, hle, rfl, rfl⟩
   · rintro imm0 hs2 m2 ⟨t31, heq, le2, rfl, rfl⟩
     subst o0
     replace h := h.mono le2
     replace hle := hle.trans le2
     refine T_seq <| J_cd hM ?_ ?_
     · intro hc3 hM
       exact J_seq <| J_region <| R_z [] [(2, vT ([]))] <| T_seq <| J_ret <| T_then_ret <| T_block_ret <| T_then_ret <| T_then_ret <| hr _ _ _ _ (pure_some hM).symm hle ⟨_, _, (.tmp rfl ResV.nil), good_none, ⟨_, rfl, rfl, rfl⟩⟩
     · intro hc3 hM
       refine J_skip <| T_seq <| J_seq ?_
       obtain ⟨x2, hy4, hM⟩ := bind_some hM
       obtain ⟨x3, hy5, hM⟩ := bind_some hM
       obtain ⟨x4, hy6, hM⟩ := bind_some hM
       refine J_any [.p (vS p list c) [], .p (vI i) [], .x (fun imm' v hx => ∃ (ad2 : Addr), v = .pointer (some ad2) ∧ hx = [] ∧ (At imm' ad2 [vI x2.Kind, vI x2.Part, vI x2.A, vI x2.B])), .x (fun imm' v hx => ∃ (ad21 : Addr), v = .pointer (some (ad21.add 1)) ∧ hx = [] ∧ (At imm' ad21 [vI x2.Kind, vI x2.Part, vI x2.A, vI x2.B])), .q (vI x2.Part), .p (vS p list c) [], .p (vI i) [], .x (fun imm' v hx => ∃ (ad3 : Addr), v = .pointer (some ad3) ∧ hx = [] ∧ (At imm' ad3 [vI x3.Kind, vI x3.Part, vI x3.A, vI x3.B])), .x (fun imm' v hx => ∃ (ad31 : Addr), v = .pointer (some (ad31.add 2)) ∧ hx = [] ∧ (At imm' ad31 [vI x3.Kind, vI x3.Part, vI x3.A, vI x3.B])), .q (vI x3.A), .p (vS p list c) [], .p (vI i) [], .x (fun imm' v hx => ∃ (ad4 : Addr), v = .pointer (some ad4) ∧ hx = [] ∧ (At imm' ad4 [vI x4.Kind, vI x4.Part, vI x4.A, vI x4.B])), .x (fun imm' v hx => ∃ (ad41 : Addr), v = .pointer (some (ad41.add 3)) ∧ hx = [] ∧ (At imm' ad41 [vI x4.Kind, vI x4.Part, vI x4.A, vI x4.B])), .q (vI x4.B), .x (fun imm' v hx => ∃ (b : Nat), v = vS (some ⟨b, 0, none⟩) ([x2.Part, x3.A, x4.B] : List Int) 3 ∧ hx = [hO Int (vS (some ⟨b, 0, none⟩) ([x2.Part, x3.A, x4.B] : List Int) 3) [vI x2.Part, vI x3.A, vI x4.B]] ∧ (RL imm' [vI x2.Part, vI x3.A, vI x4.B] ([x2.Part, x3.A, x4.B] : List Int)))] [[], [], [(0, false), (1, false)], [(2, false)], [(3, false)], [], [], [(5, false), (6, false)], [(7, false)], [(8, false)], [], [], [(10, false), (11, false)], [(12, false)], [(13, false)], [(4, false), (9, false), (14, false)]] [] [] [(15, true)] (good_pick [] rfl (by decide)) ?_ ?_
       · refine Op <| Op <| Ox ?_ <| Ox ?_ <| Oq ?_ <| Op <| Op <| Ox ?_ <| Ox ?_ <| Oq ?_ <| Op <| Op <| Ox ?_ <| Ox ?_ <| Oq ?_ <| Ox ?_ <| On
         · intro imm1 hf le1
           refine Ins_cons ?_
           rintro _ _ ⟨rfl, rfl⟩
           refine Ins_cons ?_
           rintro _ _ ⟨rfl, rfl⟩
           refine Ins_nil <| R_isw (hf) [(32, vS p list c), (33, vI i)] ?_
           have hle := Imm.le.refl imm1
           replace h := h.mono le1
           refine R_ix rfl rfl h hy4 ?_
           intro ad2 ccs2 hat2 hrep2
           obtain rfl := impl_Step_open hrep2
           exact R_out (hx := []) rfl hle rfl (out_some rfl) ⟨_, rfl, rfl, hat2⟩
         · intro imm1 hf le1
           refine Ins_cons ?_
           rintro _ _ ⟨ad2, rfl, rfl, hat2⟩
           refine Ins_nil <| R_isw (hf) [(34, .pointer (some ad2))] ?_
           have hle := Imm.le.refl imm1
           exact R_p 4 [(35, .pointer (some (ad2.add 1)))] <| R_out (hx := []) rfl hle rfl (out_some rfl) ⟨_, rfl, rfl, hat2⟩
         · intro imm1 hf le1
           refine Ins_cons ?_
           rintro _ _ ⟨ad21, rfl, rfl, hat21⟩
           refine Ins_nil <| R_isw (hf) [(35, .pointer (some (ad21.add 1)))] ?_
           have hle := Imm.le.refl imm1
           exact R_la 1 hat21 [vI x2.Part] (vI x2.Part) rfl <| R_out (hx := []) rfl hle rfl (out_some rfl) ⟨rfl, rfl⟩
         · intro imm1 hf le1
           refine Ins_cons ?_
           rintro _ _ ⟨rfl, rfl⟩
           refine Ins_cons ?_
           rintro _ _ ⟨rfl, rfl⟩
           refine Ins_nil <| R_isw (hf) [(37, vS p list c), (38, vI i)] ?_
           have hle := Imm.le.refl imm1
           replace h := h.mono le1
           refine R_ix rfl rfl h hy5 ?_
           intro ad3 ccs3 hat3 hrep3
           obtain rfl := impl_Step_open hrep3
           exact R_out (hx := []) rfl hle rfl (out_some rfl) ⟨_, rfl, rfl, hat3⟩
         · intro imm1 hf le1
           refine Ins_cons ?_
           rintro _ _ ⟨ad3, rfl, rfl, hat3⟩
           refine Ins_nil <| R_isw (hf) [(39, .pointer (some ad3))] ?_
           have hle := Imm.le.refl imm1
           exact R_p 9 [(40, .pointer (some (ad3.add 2)))] <| R_out (hx := []) rfl hle rfl (out_some rfl) ⟨_, rfl, rfl, hat3⟩
         · intro imm1 hf le1
           refine Ins_cons ?_
           rintro _ _ ⟨ad31, rfl, rfl, hat31⟩
           refine Ins_nil <| R_isw (hf) [(40, .pointer (some (ad31.add 2)))] ?_
           have hle := Imm.le.refl imm1
           exact R_la 2 hat31 [vI x3.A] (vI x3.A) rfl <| R_out (hx := []) rfl hle rfl (out_some rfl) ⟨rfl, rfl⟩
         · intro imm1 hf le1
           refine Ins_cons ?_
           rintro _ _ ⟨rfl, rfl⟩
           refine Ins_cons ?_
           rintro _ _ ⟨rfl, rfl⟩
           refine Ins_nil <| R_isw (hf) [(42, vS p list c), (43, vI i)] ?_
           have hle := Imm.le.refl imm1
           replace h := h.mono le1
           refine R_ix rfl rfl h hy6 ?_
           intro ad4 ccs4 hat4 hrep4
           obtain rfl := impl_Step_open hrep4
           exact R_out (hx := []) rfl hle rfl (out_some rfl) ⟨_, rfl, rfl, hat4⟩
         · intro imm1 hf le1
           refine Ins_cons ?_
           rintro _ _ ⟨ad4, rfl, rfl, hat4⟩
           refine Ins_nil <| R_isw (hf) [(44, .pointer (some ad4))] ?_
           have hle := Imm.le.refl imm1
           exact R_p 14 [(45, .pointer (some (ad4.add 3)))] <| R_out (hx := []) rfl hle rfl (out_some rfl) ⟨_, rfl, rfl, hat4⟩
         · intro imm1 hf le1
           refine Ins_cons ?_
           rintro _ _ ⟨ad41, rfl, rfl, hat41⟩
           refine Ins_nil <| R_isw (hf) [(45, .pointer (some (ad41.add 3)))] ?_
           have hle := Imm.le.refl imm1
           exact R_la 3 hat41 [vI x4.B] (vI x4.B) rfl <| R_out (hx := []) rfl hle rfl (out_some rfl) ⟨rfl, rfl⟩
         · intro imm1 hf le1
           refine Ins_cons ?_
           rintro _ _ ⟨rfl, rfl⟩
           refine Ins_cons ?_
           rintro _ _ ⟨rfl, rfl⟩
           refine Ins_cons ?_
           rintro _ _ ⟨rfl, rfl⟩
           refine Ins_nil <| R_isw (hf) [(36, vI x2.Part), (41, vI x3.A), (46, vI x4.B)] ?_
           have hle := Imm.le.refl imm1
           refine R_buildSlice (cs := [vI x2.Part, vI x3.A, vI x4.B]) (Rp.sz Int) rfl rfl rfl rfl (by kernel_rfl) (by kernel_rfl) ?_
           intro b hb
           have h3 : RL imm1 [vI x2.Part, vI x3.A, vI x4.B] ([x2.Part, x3.A, x4.B] : List Int) := ⟨[vI x2.Part], _, rfl, rfl, rfl, ⟨[vI x3.A], _, rfl, rfl, rfl, ⟨[vI x4.B], _, rfl, rfl, rfl, rfl⟩⟩⟩
           exact R_out (hx := [hO Int (vS (some ⟨b, 0, none⟩) ([x2.Part, x3.A, x4.B] : List Int) 3) [vI x2.Part, vI x3.A, vI x4.B]]) rfl hle rfl (out_some rfl) ⟨_, rfl, rfl, h3⟩
       · intro imm03 le3
         refine Ins_cons ?_
         rintro _ _ ⟨b, rfl, rfl, h3⟩
         refine Ins_nil <| R_isw [hO Int (vS (some ⟨b, 0, none⟩) ([x2.Part, x3.A, x4.B] : List Int) 3) [vI x2.Part, vI x3.A, vI x4.B]] [(0, vS p list c), (3, vT out.l), (4, vI i), (47, vS (some ⟨b, 0, none⟩) ([x2.Part, x3.A, x4.B] : List Int) 3)] ?_
         replace h := h.mono le3
         replace hle := hle.trans le3
         refine R_z [] [(5, vS (some ⟨b, 0, none⟩) ([x2.Part, x3.A, x4.B] : List Int) 3)] <| T_seq <| J_seq ?_
         obtain ⟨y2, hy7, hM⟩ := bind_some hM
         obtain ⟨x5, hy8, hM⟩ := bind_some hM
         obtain ⟨x6, hy9, hM⟩ := bind_some hM
         obtain ⟨s, hy10, hM⟩ := bind_some hM
         refine J_any [.p (vT out.l) [], .x (fun imm' v hx => ∃ (p1 : Option Addr) (c1 : Nat), v = vS p1 y2 c1 ∧ hx = [] ∧ (SL imm' (vS p1 y2 c1) y2)), .p (vS p list c) [], .p (vI i) [], .x (fun imm' v hx => ∃ (ad5 : Addr), v = .pointer (some ad5) ∧ hx = [] ∧ (At imm' ad5 [vI x5.Kind, vI x5.Part, vI x5.A, vI x5.B])), .x (fun imm' v hx => ∃ (ad51 : Addr), v = .pointer (some ad51) ∧ hx = [] ∧ (At imm' ad51 [vI x5.Kind, vI x5.Part, vI x5.A, vI x5.B])), .q (vI x5.Kind), .x (fun imm' v hx => ∃ (ad6 : Addr), v = .pointer (some ad6) ∧ hx = [] ∧ (At imm' ad6 [vT x6.l])), .q (vT x6.l), .q (vT s.l)] [[], [], [], [], [(2, false), (3, false)], [(4, false)], [(5, false)], [(1, false), (6, false)], [(7, false)], [(0, false), (8, false)]] [hO Int (vS (some ⟨b, 0, none⟩) ([x2.Part, x3.A, x4.B] : List Int) 3) [vI x2.Part, vI x3.A, vI x4.B]] [] [(9, false)] (good_pick [0] rfl (by decide)) ?_ ?_
         · refine Op <| Ox ?_ <| Op <| Op <| Ox ?_ <| Ox ?_ <| Oq ?_ <| Ox ?_ <| Oq ?_ <| Oq ?_ <| On
           · intro imm1 hf le1
             refine Ins_nil <| R_isw (hO Int (vS (some ⟨b, 0, none⟩) ([x2.Part, x3.A, x4.B] : List Int) 3) [vI x2.Part, vI x3.A, vI x4.B] :: hf) [] ?_
             have hle := Imm.le.refl imm1
             replace h3 := RepL.mono (fun _ _ => Rp.mono le1) h3
             refine R_call (hs1 := []) (rest := (hO Int (vS (some ⟨b, 0, none⟩) ([x2.Part, x3.A, x4.B] : List Int) 3) [vI x2.Part, vI x3.A, vI x4.B] :: hf)) rfl rfl rfl rfl (by kernel_rfl) rfl rfl (spec_l14Words_ok  _ hy7 ) ?_
             rintro imm04 hs2 v2 k2 le4 - ⟨v02, rfl, rfl, h4⟩ -
             replace h3 := RepL.mono (fun _ _ => Rp.mono le4) h3
             replace hle := hle.trans le4
             obtain ⟨p1, c1, rfl⟩ := h4.form
             exact R_out (hx := []) rfl hle rfl (out_some rfl) ⟨_, _, rfl, rfl, h4⟩
           · intro imm1 hf le1
             refine Ins_cons ?_
             rintro _ _ ⟨rfl, rfl⟩
             refine Ins_cons ?_
             rintro _ _ ⟨rfl, rfl⟩
             refine Ins_nil <| R_isw (hO Int (vS (some ⟨b, 0, none⟩) ([x2.Part, x3.A, x4.B] : List Int) 3) [vI x2.Part, vI x3.A, vI x4.B] :: hf) [(50, vS p list c), (51, vI i)] ?_
             have hle := Imm.le.refl imm1
             replace h := h.mono le1
             refine R_ix rfl rfl h hy8 ?_
             intro ad5 ccs5 hat5 hrep5
             obtain rfl := impl_Step_open hrep5
             exact R_out (hx := []) rfl hle rfl (out_some rfl) ⟨_, rfl, rfl, hat5⟩
           · intro imm1 hf le1
             refine Ins_cons ?_
             rintro _ _ ⟨ad5, rfl, rfl, hat5⟩
             refine Ins_nil <| R_isw (hO Int (vS (some ⟨b, 0, none⟩) ([x2.Part, x3.A, x4.B] : List Int) 3) [vI x2.Part, vI x3.A, vI x4.B] :: hf) [(52, .pointer (some ad5))] ?_
             have hle := Imm.le.refl imm1
             exact R_p 6 [(53, .pointer (some ad5))] <| R_out (hx := []) rfl hle rfl (out_some rfl) ⟨_, rfl, rfl, hat5⟩
           · intro imm1 hf le1
             refine Ins_cons ?_
             rintro _ _ ⟨ad51, rfl, rfl, hat51⟩
             refine Ins_nil <| R_isw (hO Int (vS (some ⟨b, 0, none⟩) ([x2.Part, x3.A, x4.B] : List Int) 3) [vI x2.Part, vI x3.A, vI x4.B] :: hf) [(53, .pointer (some ad51))] ?_
             have hle := Imm.le.refl imm1
             exact R_la 0 hat51 [vI x5.Kind] (vI x5.Kind) rfl <| R_out (hx := []) rfl hle rfl (out_some rfl) ⟨rfl, rfl⟩
           · intro imm1 hf le1
             refine Ins_cons ?_
             rintro _ _ ⟨p1, c1, rfl, rfl, h4⟩
             refine Ins_cons ?_
             rintro _ _ ⟨rfl, rfl⟩
             refine Ins_nil <| R_isw (hO Int (vS (some ⟨b, 0, none⟩) ([x2.Part, x3.A, x4.B] : List Int) 3) [vI x2.Part, vI x3.A, vI x4.B] :: hf) [(49, vS p1 y2 c1), (54, vI x5.Kind)] ?_
             have hle := Imm.le.refl imm1
             refine R_ix rfl rfl h4 hy9 ?_
             intro ad6 ccs6 hat6 hrep6
             obtain rfl := hrep6
             exact R_out (hx := []) rfl hle rfl (out_some rfl) ⟨_, rfl, rfl, hat6⟩
           · intro imm1 hf le1
             refine Ins_cons ?_
             rintro _ _ ⟨ad6, rfl, rfl, hat6⟩
             refine Ins_nil <| R_isw (hO Int (vS (some ⟨b, 0, none⟩) ([x2.Part, x3.A, x4.B] : List Int) 3) [vI x2.Part, vI x3.A, vI x4.B] :: hf) [(55, .pointer (some ad6))] ?_
             have hle := Imm.le.refl imm1
             exact R_la 0 hat6 [vT x6.l] (vT x6.l) rfl <| R_out (hx := []) rfl hle rfl (out_some rfl) ⟨rfl, rfl⟩
           · intro imm1 hf le1
             refine Ins_cons ?_
             rintro _ _ ⟨rfl, rfl⟩
             refine Ins_cons ?_
             rintro _ _ ⟨rfl, rfl⟩
             refine Ins_nil <| R_isw (hO Int (vS (some ⟨b, 0, none⟩) ([x2.Part, x3.A, x4.B] : List Int) 3) [vI x2.Part, vI x3.A, vI x4.B] :: hf) [(48, vT out.l), (56, vT x6.l)] ?_
             have hle := Imm.le.refl imm1
             exact R_ca rfl hy10 <| R_out (hx := []) rfl hle rfl (out_some rfl) ⟨rfl, rfl⟩
         · intro imm05 le5
           refine Ins_cons ?_
           rintro _ _ ⟨rfl, rfl⟩
           refine Ins_nil <| R_isw [hO Int (vS (some ⟨b, 0, none⟩) ([x2.Part, x3.A, x4.B] : List Int) 3) [vI x2.Part, vI x3.A, vI x4.B]] [(0, vS p list c), (4, vI i), (5, vS (some ⟨b, 0, none⟩) ([x2.Part, x3.A, x4.B] : List Int) 3), (57, vT s.l)] ?_
           replace h := h.mono le5
           replace h3 := RepL.mono (fun _ _ => Rp.mono le5) h3
           replace hle := hle.trans le5
           refine R_z [] [(3, vT s.l)] <| T_seq <| J_seq <| J_seq <| J_region <| R_z [] [(6, vI 0)] <| T_seq <| J_block <| J_w [(0, vS p list c), (3, vT s.l), (4, vI i), (5, vS (some ⟨b, 0, none⟩) ([x2.Part, x3.A, x4.B] : List Int) 3), (6, vI 0)] ?_
           obtain ⟨o01, ho01, hM⟩ := bind_some hM
           refine spec_FormatSteps_l2_ok list i x2 x3 x4 s 0 o01 ho01 (Imm.le.refl _) h h3 (fun _ _ _ h => hg _ _ _ h) (fun _ _ h => ho _ _ h) ?_
           intro imm08 out3 heq1 le8
           subst o01
           replace h := h.mono le8
           replace hle := hle.trans le8
           refine T_block_here <| T_seq <| J_region <| R_d 1 [] [(76, vT out3.l)] ?_
           obtain ⟨s3, hy17, hM⟩ := bind_some hM
           exact R_ca rfl hy17 <| R_z [] [(3, vT s3.l)] <| T_block_normal <| T_seq <| J_region <| R_z [] [(4, vI (W (i + 1)))] <| T_loop <| J_w [(0, vS p list c), (3, vT s3.l), (4, vI (W (i + 1)))] <| ih s3 (W (i + 1)) _ hM hle h hg ho hx hr
 · intro hc hM
   exact J_exit <| T_then_exit <| T_then_exit <| T_w [(3, vT out.l)] <| hx _ _ (pure_some hM).symm hle
def M.spec_FormatSteps (list : (List impl_Step)) : Option (Str) := do
 match ← M.spec_FormatSteps_l1 list (⟨[]⟩ : Str) 0 with
 | .ret r0 => pure r0
 | .done out1 =>
  pure (id out1)
theorem spec_FormatSteps_ok : ∀ (list : (List impl_Step)) r, M.spec_FormatSteps list = some r → ∀ {imm : Imm} {p : Option Addr} {c : Nat}, (SL imm (vS p list c) list) → Ret Tryd.prog 6 [vS p list c] imm [] (spec_FormatSteps_post  r) := by
 intro list r hM imm p c h
 unfold M.spec_FormatSteps at hM
 refine ret_of_J (fn := Tryd.f6) (c := (bodyOf Tryd.f6)) Tryd.func6 rfl rfl ?_
 rintro B - -
 have hle : imm.le imm := Imm.le.refl _
 refine J_seq <| J_region <| R_z [] [] <| T_seq <| J_seq <| J_region <| R_z [] [(3, vT ([]))] <| T_seq <| J_seq <| J_seq <| J_region <| R_z [] [(4, vI 0)] <| T_seq <| J_block <| J_w [(0, vS p list c), (3, vT ([])), (4, vI 0)] ?_
 obtain ⟨o02, ho02, hM⟩ := bind_some hM
 refine spec_FormatSteps_l1_ok list (⟨[]⟩ : Str) 0 o02 ho02 (Imm.le.refl _) h (fun _ _ _ h => h) (fun _ _ h => h) ?_ ?_
 · intro imm09 out1 heq2 le9
   subst o02
   replace hle := hle.trans le9
   refine T_block_here <| T_seq <| J_seq <| J_region <| R_z [] [(2, vT out1.l)] <| T_seq <| J_ret ?_
   obtain rfl := pure_some hM
   exact T_RS ⟨_, _, (.tmp rfl ResV.nil), good_none, ⟨_, rfl, rfl, rfl⟩⟩
 · intro r0 imm9 hs9 m9 heq9 le9 hrs9
   subst heq9
   refine T_block_ret <| T_then_ret ?_
   obtain rfl := pure_some hM
   exact T_RS hrs9
def spec_l16Cut_post (r : (List Str)) : Nat → Imm → List HA → Value → Prop := fun kk imm' hs' v =>
  ∃ (v0 : Value), hs' = [] ∧ v = tupV [v0] ∧ SL imm' v0 r
def M.spec_l16Cut_l1 (s : Str) (c : UInt8) (out : List Str) (from0 : Int) (i : Int) : Option (List Str) := do
 if (decide (i ≤ (s.l.length : Int))) then
  let t25 ← (do
    if (i == (s.l.length : Int)) then
     pure true
    else
     let b1 ← sidx s i
     pure ((b1.toNat : Int) == (c.toNat : Int))
      : Option Bool)
  let (out2, from01) ← (do
    if t25 then
     let s1 ← sslc s from0 i
     let out3 ← app 16 out ([s1] : List Str)
     pure (out3, (W (i + 1)))
    else
     pure (out, from0)
      : Option (List Str × Int))
  M.spec_l16Cut_l1 s c out2 from01 (W (i + 1))
 else
  pure (id out)
 partial_fixpoint
theorem spec_l16Cut_l1_ok (s : Str) (c : UInt8) : ∀ (out : List Str) (from0 : Int) (i : Int) (o : List Str), M.spec_l16Cut_l1 s c out from0 i = some o → ∀ {B : Base} {imm0 imm : Imm} {Q : Exit → Act → World → Prop}  {p : Option Addr} {c1 : Nat} {cs : List Value}, imm0.le imm → (RL imm cs out) → (∀ l a w, ¬ Q (.goto l) a w) → (∀ a w, ¬ Q .outgrown a w) → (∀ (imm' : Imm) (out1 : List Str) (p1 : Option Addr) (c2 : Nat) (cs1 : List Value), o = out1 → imm0.le imm' → (RL imm' cs1 out1) → T 36 B Q (.exit 0) imm' [hO Str (vS p1 out1 c2) cs1] [(5, vS p1 out1 c2)]) → J Tryd.prog 36 B (nav (bodyOf Tryd.f23) [1, 1, 1, 0, 1, 0]) Q imm [hO Str (vS p out c1) cs] [(0, vT s.l), (1, .int .u8 (c.toNat : Int)), (5, vS p out c1), (6, vI from0), (7, vI i)] := by
 refine M.spec_l16Cut_l1.partial_correctness s c _ ?_
 intro self ih out from0 i o hM B imm0 imm Q p c1 cs hle h1 hg ho hx
 refine J_loop hg ho <| J_seq <| J_seq <| J_region <| R_z [] [(12, .bool (decide (i ≤ (s.l.length : Int))))] <| T_seq <| J_cd hM ?_ ?_
 · intro hc hM
   refine J_skip <| T_seq <| J_seq <| J_block <| J_seq ?_
   obtain ⟨o0, ho0, hM⟩ := bind_some hM
   refine J_cut (fun imm' hs' m' => ∃ (t25 : Bool), o0 = t25 ∧ imm.le imm' ∧ hs' = [hO Str (vS p out c1) cs] ∧ m' = [(0, vT s.l), (1, .int .u8 (c.toNat : Int)), (5, vS p out c1), (6, vI from0), (7, vI i), (25, .bool t25)]) ?_ ?_
   · have hle0 := hle
     have hle : imm.le imm := Imm.le.refl _
     refine J_region <| R_d 5 [] [(19, .bool (i == (s.l.length : Int)))] ?_
     cases hc1 : (i == (s.l.length : Int)) with
     | true =>
      have hM0 := if_some_true hc1 ho0
      try rw [hc1]
      exact R_z [] [(25, .bool true)] <| T_w [(0, vT s.l), (1, .int .u8 (c.toNat : Int)), (5, vS p out c1), (6, vI from0), (7, vI i), (25, .bool true)] <| T_cut ⟨_, (pure_some hM0).symm, hle, rfl, rfl⟩
     | false =>
      have hM01 := if_some_false hc1 ho0
      try rw [hc1]
      refine R_d 7 [] [(20, vT s.l), (21, vI i)] ?_
      obtain ⟨b1, hy, hM⟩ := bind_some hM01
      exact R_si rfl rfl hy <| R_z [] [(25, .bool ((b1.toNat : Int) == (c.toNat : Int)))] <| T_w [(0, vT s.l), (1, .int .u8 (c.toNat : Int)), (5, vS p out c1), (6, vI from0), (7, vI i), (25, .bool ((b1.toNat : Int) == (c.toNat : Int)))] <| T_cut ⟨_, (pure_some hM).symm, hle, rfl, rfl⟩
   · rintro imm0 hs2 m2 ⟨t25, heq, le, rfl, rfl⟩
     subst o0
     replace h1 := RepL.mono (fun _ _ => Rp.mono le) h1
     replace hle := hle.trans le
     refine T_seq ?_
     obtain ⟨o01, ho01, hM⟩ := bind_some hM
     refine J_cut (fun imm' hs' m' => ∃ (out2 : List Str) (from01 : Int) (p2 : Option Addr) (c3 : Nat) (cs2 : List Value), o01 = (out2, from01) ∧ imm0.le imm' ∧ (RL imm' cs2 out2) ∧ hs' = [hO Str (vS p2 out2 c3) cs2] ∧ m' = [(0, vT s.l), (1, .int .u8 (c.toNat : Int)), (5, vS p2 out2 c3), (6, vI from01), (7, vI i)]) ?_ ?_
     · have hle0 := hle
       have hle : imm0.le imm0 := Imm.le.refl _
       refine J_cd ho01 ?_ ?_
       · intro hc2 hM
         refine J_seq <| J_region <| R_d 4 [] [(26, vS p out c1), (27, vT s.l), (28, vI from0), (29, vI i)] ?_
         obtain ⟨s1, hy1, hM⟩ := bind_some hM
         refine R_ss rfl hy1 <| R_buildSlice (cs := [vT s1.l]) (Rp.sz Str) rfl rfl rfl rfl (by kernel_rfl) (by kernel_rfl) ?_
         intro b2 hb1
         have h4 : RL imm0 [vT s1.l] ([s1] : List Str) := ⟨[vT s1.l], _, rfl, rfl, rfl, rfl⟩
         obtain ⟨out3, hy2, hM⟩ := bind_some hM
         refine R_ap 9 1 1 rfl rfl rfl h1 (.inr ⟨0, rfl⟩) h4 hy2 ?_
         intro p3 c4 cs3 h5
         exact R_hs (good_pick [1] (hs' := [hO Str (vS p3 out3 c4) cs3]) rfl (by decide)) <| R_z [] [(5, vS p3 out3 c4)] <| T_seq <| J_region <| R_z [] [(6, vI (W (i + 1)))] <| T_w [(0, vT s.l), (1, .int .u8 (c.toNat : Int)), (5, vS p3 out3 c4), (6, vI (W (i + 1))), (7, vI i)] <| T_cut ⟨_, _, _, _, _, (pure_some hM).symm, hle, h5, rfl, rfl⟩
       · intro hc2 hM
         exact J_skip <| T_w [(0, vT s.l), (1, .int .u8 (c.toNat : Int)), (5, vS p out c1), (6, vI from0), (7, vI i)] <| T_cut ⟨_, _, _, _, _, (pure_some hM).symm, hle, h1, rfl, rfl⟩
     · rintro imm01 hs2 m2 ⟨out2, from01, p2, c3, cs2, heq1, le1, h3, rfl, rfl⟩
       subst o01
       replace hle := hle.trans le1
       exact T_block_normal <| T_seq <| J_region <| R_z [] [(7, vI (W (i + 1)))] <| T_loop <| J_w [(0, vT s.l), (1, .int .u8 (c.toNat : Int)), (5, vS p2 out2 c3), (6, vI from01), (7, vI (W (i + 1)))] <| ih out2 from01 (W (i + 1)) _ hM hle h3 hg ho hx
 · intro hc hM
   exact J_exit <| T_then_exit <| T_then_exit <| T_w [(5, vS p out c1)] <| hx _ _ _ _ _ (pure_some hM).symm hle h1
def M.spec_l16Cut (s : Str) (c : UInt8) : Option ((List Str)) := do
 let out1 ← M.spec_l16Cut_l1 s c ([] : List Str) 0 0
 pure (id out1)
theorem spec_l16Cut_ok : ∀ (s : Str) (c : UInt8) r, M.spec_l16Cut s c = some r → ∀ {imm : Imm} , Ret Tryd.prog 23 [vT s.l, .int .u8 (c.toNat : Int)] imm [] (spec_l16Cut_post  r) := by
 intro s c r hM imm
 unfold M.spec_l16Cut at hM
 refine ret_of_J (fn := Tryd.f23) (c := (bodyOf Tryd.f23)) Tryd.func23 rfl rfl ?_
 rintro B - -
 have hle : imm.le imm := Imm.le.refl _
 refine J_seq <| J_region <| R_z [] [] <| T_seq <| J_seq <| J_region <| R_buildSlice (cs := []) (Rp.sz Str) rfl rfl rfl rfl (by kernel_rfl) (by kernel_rfl) ?_
 intro b hb
 have h : RL imm [] ([] : List Str) := rfl
 refine R_z [] [(5, vS (some ⟨b, 0, none⟩) ([] : List Str) 0)] <| T_seq <| J_seq <| J_region <| R_z [] [(6, vI 0)] <| T_seq <| J_seq <| J_seq <| J_region <| R_z [] [(7, vI 0)] <| T_seq <| J_block <| J_w [(0, vT s.l), (1, .int .u8 (c.toNat : Int)), (5, vS (some ⟨b, 0, none⟩) ([] : List Str) 0), (6, vI 0), (7, vI 0)] ?_
 obtain ⟨o02, ho02, hM⟩ := bind_some hM
 refine spec_l16Cut_l1_ok s c ([] : List Str) 0 0 o02 ho02 (Imm.le.refl _) h (fun _ _ _ h => h) (fun _ _ h => h) ?_
 intro imm02 out1 p1 c2 cs1 heq2 le2 h2
 subst o02
 replace hle := hle.trans le2
 refine T_block_here <| T_seq <| J_seq <| J_region <| R_z [] [(4, vS p1 out1 c2)] <| T_seq <| J_ret <| T_freeze 0 rfl ?_
 intro imm03 le3 hl0
 have h6 := SL.of_frozen hl0 le3 h2
 replace hle := hle.trans le3
 obtain rfl := pure_some hM
 exact T_RS ⟨_, _, (.tmp rfl ResV.nil), good_none, ⟨_, rfl, rfl, h6⟩⟩
def spec_l16Words_post (r : (List Str)) : Nat → Imm → List HA → Value → Prop := fun kk imm' hs' v =>
  ∃ (a0 : Option Addr) (c0 : Nat) (s0 : List Value), hs' = [.osl (.slice a0 r.length c0) (Rp.sz Str) s0] ∧ v = tupV [(.slice a0 r.length c0)] ∧ RepL (Rp.rep imm') (Rp.sz Str) s0 r
def M.spec_l16Words_l1 (y : (List Str)) (out : List Str) (i : Int) : Option (List Str) := do
 if (decide (i < (y.length : Int))) then
  let x ← idx y i
  let out2 ← (do
    if (!(x.l == ([] : List UInt8))) then
     let x1 ← idx y i
     let out3 ← app 16 out ([x1] : List Str)
     pure (id out3)
    else
     pure (id out)
      : Option (List Str))
  M.spec_l16Words_l1 y out2 (W (i + 1))
 else
  pure (id out)
 partial_fixpoint
theorem spec_l16Words_l1_ok (y : (List Str)) : ∀ (out : List Str) (i : Int) (o : List Str), M.spec_l16Words_l1 y out i = some o → ∀ {B : Base} {imm0 imm : Imm} {Q : Exit → Act → World → Prop}  {p : Option Addr} {c : Nat} {p1 : Option Addr} {c1 : Nat} {cs : List Value}, imm0.le imm → (SL imm (vS p y c) y) → (RL imm cs out) → (∀ l a w, ¬ Q (.goto l) a w) → (∀ a w, ¬ Q .outgrown a w) → (∀ (imm' : Imm) (out1 : List Str) (p2 : Option Addr) (c2 : Nat) (cs1 : List Value), o = out1 → imm0.le imm' → (RL imm' cs1 out1) → T 28 B Q (.exit 0) imm' [hO Str (vS p2 out1 c2) cs1] [(4, vS p2 out1 c2)]) → J Tryd.prog 28 B (nav (bodyOf Tryd.f37) [1, 1, 1, 0, 1, 0]) Q imm [hO Str (vS p1 out c1) cs] [(3, vS p y c), (4, vS p1 out c1), (5, vI i)] := by
 refine M.spec_l16Words_l1.partial_correctness y _ ?_
 intro self ih out i o hM B imm0 imm Q p c p1 c1 cs hle h h2 hg ho hx
 refine J_loop hg ho <| J_seq <| J_seq <| J_region <| R_z [] [(12, .bool (decide (i < (y.length : Int))))] <| T_seq <| J_cd hM ?_ ?_
 · intro hc hM
   refine J_skip <| T_seq <| J_seq <| J_block <| J_seq <| J_region <| R_d 2 [] [(15, vS p y c), (16, vI i)] ?_
   obtain ⟨x, hy1, hM⟩ := bind_some hM
   refine R_ix rfl rfl h hy1 ?_
   intro ad ccs hat hrep
   obtain rfl := hrep
   refine R_la 0 hat [vT x.l] (vT x.l) rfl <| R_z [] [(19, .bool (!(x.l == ([] : List UInt8))))] <| T_seq ?_
   obtain ⟨o0, ho0, hM⟩ := bind_some hM
   refine J_cut (fun imm' hs' m' => ∃ (out2 : List Str) (p3 : Option Addr) (c3 : Nat) (cs2 : List Value), o0 = out2 ∧ imm.le imm' ∧ (RL imm' cs2 out2) ∧ hs' = [hO Str (vS p3 out2 c3) cs2] ∧ m' = [(3, vS p y c), (4, vS p3 out2 c3), (5, vI i)]) ?_ ?_
   · have hle0 := hle
     have hle : imm.le imm := Imm.le.refl _
     refine J_cd ho0 ?_ ?_
     · intro hc1 hM
       refine J_region <| R_d 3 [] [(20, vS p1 out c1), (21, vS p y c), (22, vI i)] ?_
       obtain ⟨x1, hy2, hM⟩ := bind_some hM
       refine R_ix rfl rfl h hy2 ?_
       intro ad1 ccs1 hat1 hrep1
       obtain rfl := hrep1
       refine R_la 0 hat1 [vT x1.l] (vT x1.l) rfl <| R_buildSlice (cs := [vT x1.l]) (Rp.sz Str) rfl rfl rfl rfl (by kernel_rfl) (by kernel_rfl) ?_
       intro b1 hb1
       have h5 : RL imm [vT x1.l] ([x1] : List Str) := ⟨[vT x1.l], _, rfl, rfl, rfl, rfl⟩
       obtain ⟨out3, hy3, hM⟩ := bind_some hM
       refine R_ap 9 1 1 rfl rfl rfl h2 (.inr ⟨0, rfl⟩) h5 hy3 ?_
       intro p4 c4 cs3 h6
       exact R_hs (good_pick [1] (hs' := [hO Str (vS p4 out3 c4) cs3]) rfl (by decide)) <| R_z [] [(4, vS p4 out3 c4)] <| T_w [(3, vS p y c), (4, vS p4 out3 c4), (5, vI i)] <| T_cut ⟨_, _, _, _, (pure_some hM).symm, hle, h6, rfl, rfl⟩
     · intro hc1 hM
       exact J_skip <| T_w [(3, vS p y c), (4, vS p1 out c1), (5, vI i)] <| T_cut ⟨_, _, _, _, (pure_some hM).symm, hle, h2, rfl, rfl⟩
   · rintro imm01 hs2 m2 ⟨out2, p3, c3, cs2, heq, le1, h4, rfl, rfl⟩
     subst o0
     replace h := h.mono le1
     replace hle := hle.trans le1
     exact T_block_normal <| T_seq <| J_region <| R_z [] [(5, vI (W (i + 1)))] <| T_loop <| J_w [(3, vS p y c), (4, vS p3 out2 c3), (5, vI (W (i + 1)))] <| ih out2 (W (i + 1)) _ hM hle h h4 hg ho hx
 · intro hc hM
   exact J_exit <| T_then_exit <| T_then_exit <| T_w [(4, vS p1 out c1)] <| hx _ _ _ _ _ (pure_some hM).symm hle h2
def M.spec_l16Words (s : Str) : Option ((List Str)) := do
 let y ← M.spec_l16Cut s (32 : UInt8)
 let out1 ← M.spec_l16Words_l1 y ([] : List Str) 0
 pure (id out1)
theorem spec_l16Words_ok : ∀ (s : Str) r, M.spec_l16Words s = some r → ∀ {imm : Imm} , Ret Tryd.prog 37 [vT s.l] imm [] (spec_l16Words_post  r) := by
 intro s r hM imm
 unfold M.spec_l16Words at hM
 refine ret_of_J (fn := Tryd.f37) (c := (bodyOf Tryd.f37)) Tryd.func37 rfl rfl ?_
 rintro B - -
 have hle : imm.le imm := Imm.le.refl _
 refine J_seq <| J_region <| R_z [] [] <| T_seq <| J_seq <| J_region <| R_d 1 [] [(6, vT s.l)] ?_
 obtain ⟨y, hy, hM⟩ := bind_some hM
 refine R_call (hs1 := []) (rest := []) rfl rfl rfl rfl (by kernel_rfl) rfl rfl (spec_l16Cut_ok s (32 : UInt8) _ hy ) ?_
 rintro imm0 hs2 v2 k2 le - ⟨v0, rfl, rfl, h⟩ -
 replace hle := hle.trans le
 obtain ⟨p, c, rfl⟩ := h.form
 refine R_z [] [(3, vS p y c)] <| T_seq <| J_seq <| J_region <| R_buildSlice (cs := []) (Rp.sz Str) rfl rfl rfl rfl (by kernel_rfl) (by kernel_rfl) ?_
 intro b hb
 have h1 : RL imm0 [] ([] : List Str) := rfl
 refine R_z [] [(4, vS (some ⟨b, 0, none⟩) ([] : List Str) 0)] <| T_seq <| J_seq <| J_seq <| J_region <| R_z [] [(5, vI 0)] <| T_seq <| J_block <| J_w [(3, vS p y c), (4, vS (some ⟨b, 0, none⟩) ([] : List Str) 0), (5, vI 0)] ?_
 obtain ⟨o01, ho01, hM⟩ := bind_some hM
 refine spec_l16Words_l1_ok y ([] : List Str) 0 o01 ho01 (Imm.le.refl _) h h1 (fun _ _ _ h => h) (fun _ _ h => h) ?_
 intro imm02 out1 p2 c2 cs1 heq1 le2 h3
 subst o01
 replace hle := hle.trans le2
 refine T_block_here <| T_seq <| J_seq <| J_region <| R_z [] [(2, vS p2 out1 c2)] <| T_seq <| J_ret ?_
 obtain rfl := pure_some hM
 exact T_RS ⟨_, _, (.tmp rfl ResV.nil), (good_pick [0] rfl (by decide)), ⟨_, _, _, rfl, rfl, h3⟩⟩
def spec_l16Num_post (r : Int × Bool) : Nat → Imm → List HA → Value → Prop := fun kk imm' hs' v =>
  ∃ (v0 : Value) (v1 : Value), hs' = [] ∧ v = tupV [v0, v1] ∧ v0 = .int .i64 r.1 ∧ v1 = .bool r.2
def M.spec_l16Num_l1 (s1 : Str) (n0 : Int) (i : Int) : Option (Out Int (Int × Bool)) := do
 if (decide (i < (s1.l.length : Int))) then
  let t54 ← (do
    let b2 ← sidx s1 i
    if (decide ((b2.toNat : Int) < 48)) then
     pure true
    else
     let b3 ← sidx s1 i
     pure (decide ((b3.toNat : Int) > 57))
      : Option Bool)
  if t54 then
   pure (.ret (0, false))
  else
   let b4 ← sidx s1 i
   M.spec_l16Num_l1 s1 (W ((W (n0 * 10)) + (W (IntKind.u8.wrap ((b4.toNat : Int) - 48))))) (W (i + 1))
 else
  pure (.done n0)
 partial_fixpoint
theorem spec_l16Num_l1_ok (s1 : Str) : ∀ (n0 : Int) (i : Int) (o : Out Int (Int × Bool)), M.spec_l16Num_l1 s1 n0 i = some o → ∀ {B : Base} {imm0 imm : Imm} {Q : Exit → Act → World → Prop} {neg : Bool} , imm0.le imm → (∀ l a w, ¬ Q (.goto l) a w) → (∀ a w, ¬ Q .outgrown a w) → (∀ (imm' : Imm) (n01 : Int), o = (.done n01) → imm0.le imm' → T 67 B Q (.exit 0) imm' [] [(4, .bool neg), (5, vI n01)]) → (∀ r imm' hs' m', o = (.ret r) → imm0.le imm' → RS Tryd.prog Tryd.f46 B (spec_l16Num_post  r) imm' hs' m' → T 67 B Q .ret imm' hs' m') → J Tryd.prog 67 B (nav (bodyOf Tryd.f46) [1, 1, 1, 1, 1, 0, 1, 0]) Q imm [] [(0, vT s1.l), (4, .bool neg), (5, vI n0), (6, vI i)] := by
 refine M.spec_l16Num_l1.partial_correctness s1 _ ?_
 intro self ih n0 i o hM B imm0 imm Q neg hle  hg ho hx hr
 refine J_loop hg ho <| J_seq <| J_seq <| J_region <| R_z [] [(42, .bool (decide (i < (s1.l.length : Int))))] <| T_seq <| J_cd hM ?_ ?_
 · intro hc7 hM
   refine J_skip <| T_seq <| J_seq <| J_block <| J_seq <| J_seq ?_
   obtain ⟨o03, ho03, hM⟩ := bind_some hM
   refine J_cut (fun imm' hs' m' => ∃ (t54 : Bool), o03 = t54 ∧ imm.le imm' ∧ hs' = [] ∧ m' = [(0, vT s1.l), (4, .bool neg), (5, vI n0), (6, vI i), (54, .bool t54)]) ?_ ?_
   · have hle0 := hle
     have hle : imm.le imm := Imm.le.refl _
     refine J_region <| R_d 2 [] [(45, vT s1.l), (46, vI i)] ?_
     obtain ⟨b2, hy3, hM⟩ := bind_some ho03
     refine R_si rfl rfl hy3 <| R_d 5 [] [(49, .bool (decide ((b2.toNat : Int) < 48)))] ?_
     cases hc8 : (decide ((b2.toNat : Int) < 48)) with
     | true =>
      have hM010 := if_some_true hc8 hM
      try rw [hc8]
      exact R_z [] [(54, .bool true)] <| T_w [(0, vT s1.l), (4, .bool neg), (5, vI n0), (6, vI i), (54, .bool true)] <| T_cut ⟨_, (pure_some hM010).symm, hle, rfl, rfl⟩
     | false =>
      have hM011 := if_some_false hc8 hM
      try rw [hc8]
      refine R_d 7 [] [(50, vT s1.l), (51, vI i)] ?_
      obtain ⟨b3, hy4, hM⟩ := bind_some hM011
      exact R_si rfl rfl hy4 <| R_z [] [(54, .bool (decide ((b3.toNat : Int) > 57)))] <| T_w [(0, vT s1.l), (4, .bool neg), (5, vI n0), (6, vI i), (54, .bool (decide ((b3.toNat : Int) > 57)))] <| T_cut ⟨_, (pure_some hM).symm, hle, rfl, rfl⟩
   · rintro imm03 hs2 m2 ⟨t54, heq3, le3, rfl, rfl⟩
     subst o03
     replace hle := hle.trans le3
     refine T_seq <| J_cd hM ?_ ?_
     · intro hc9 hM
       exact J_seq <| J_region <| R_z [] [(2, vI 0), (3, .bool false)] <| T_seq <| J_ret <| T_then_ret <| T_block_ret <| T_then_ret <| T_then_ret <| hr _ _ _ _ (pure_some hM).symm hle ⟨_, _, (.tmp rfl (.tmp rfl ResV.nil)), good_none, ⟨_, _, rfl, rfl, rfl, rfl⟩⟩
     · intro hc9 hM
       refine J_skip <| T_seq <| J_region <| R_d 4 [] [(56, vI (W (n0 * 10))), (57, vT s1.l), (58, vI i)] ?_
       obtain ⟨b4, hy5, hM⟩ := bind_some hM
       exact R_si rfl rfl hy5 <| R_z [] [(5, vI (W ((W (n0 * 10)) + (W (IntKind.u8.wrap ((b4.toNat : Int) - 48))))))] <| T_block_normal <| T_seq <| J_region <| R_z [] [(6, vI (W (i + 1)))] <| T_loop <| J_w [(0, vT s1.l), (4, .bool neg), (5, vI (W ((W (n0 * 10)) + (W (IntKind.u8.wrap ((b4.toNat : Int) - 48)))))), (6, vI (W (i + 1)))] <| ih (W ((W (n0 * 10)) + (W (IntKind.u8.wrap ((b4.toNat : Int) - 48))))) (W (i + 1)) _ hM hle  hg ho hx hr
 · intro hc7 hM
   exact J_exit <| T_then_exit <| T_then_exit <| T_w [(4, .bool neg), (5, vI n0)] <| hx _ _ (pure_some hM).symm hle
def M.spec_l16Num (s : Str) : Option (Int × Bool) := do
 let neg ← (do
   if (decide ((s.l.length : Int) > 0)) then
    let b ← sidx s 0
    pure ((b.toNat : Int) == 45)
   else
    pure false
     : Option Bool)
 let s1 ← (do
   if neg then
    let s2 ← sslc s 1 (s.l.length : Int)
    pure (id s2)
   else
    pure (id s)
     : Option Str)
 let t38 ← (do
   if ((s1.l.length : Int) == 0) then
    pure true
   else
    if (decide ((s1.l.length : Int) > 17)) then
     pure true
    else
     let b1 ← sidx s1 0
     if ((b1.toNat : Int) == 48) then
      if (decide ((s1.l.length : Int) > 1)) then
       pure true
      else
       pure (id neg)
     else
      pure false
     : Option Bool)
 if t38 then
  pure (0, false)
 else
  match ← M.spec_l16Num_l1 s1 0 0 with
  | .ret r0 => pure r0
  | .done n01 =>
   let n02 ← (do
     if neg then
      pure (W (0 - n01))
     else
      pure (id n01)
       : Option Int)
   pure (n02, true)
theorem spec_l16Num_ok : ∀ (s : Str) r, M.spec_l16Num s = some r → ∀ {imm : Imm} , Ret Tryd.prog 46 [vT s.l] imm [] (spec_l16Num_post  r) := by
 intro s r hM imm
 unfold M.spec_l16Num at hM
 refine ret_of_J (fn := Tryd.f46) (c := (bodyOf Tryd.f46)) Tryd.func46 rfl rfl ?_
 rintro B - -
 have hle : imm.le imm := Imm.le.refl _
 refine J_seq <| J_region <| R_z [] [] <| T_seq <| J_seq ?_
 obtain ⟨o0, ho0, hM⟩ := bind_some hM
 refine J_cut (fun imm' hs' m' => ∃ (neg : Bool), o0 = neg ∧ imm.le imm' ∧ hs' = [] ∧ m' = [(0, vT s.l), (4, .bool neg)]) ?_ ?_
 · have hle0 := hle
   have hle : imm.le imm := Imm.le.refl _
   refine J_region <| R_d 4 [] [(10, .bool (decide ((s.l.length : Int) > 0)))] ?_
   cases hc : (decide ((s.l.length : Int) > 0)) with
   | true =>
    have hM0 := if_some_true hc ho0
    try rw [hc]
    refine R_d 5 [] [(11, vT s.l)] ?_
    obtain ⟨b, hy, hM⟩ := bind_some hM0
    exact R_si rfl rfl hy <| R_z [] [(4, .bool ((b.toNat : Int) == 45))] <| T_w [(0, vT s.l), (4, .bool ((b.toNat : Int) == 45))] <| T_cut ⟨_, (pure_some hM).symm, hle, rfl, rfl⟩
   | false =>
    have hM01 := if_some_false hc ho0
    try rw [hc]
    exact R_z [] [(4, .bool false)] <| T_w [(0, vT s.l), (4, .bool false)] <| T_cut ⟨_, (pure_some hM01).symm, hle, rfl, rfl⟩
 · rintro imm0 hs2 m2 ⟨neg, heq, le, rfl, rfl⟩
   subst o0
   replace hle := hle.trans le
   refine T_seq <| J_seq <| J_seq <| J_region <| R_z [] [(15, .bool neg)] <| T_seq ?_
   obtain ⟨o01, ho01, hM⟩ := bind_some hM
   refine J_cut (fun imm' hs' m' => ∃ (s1 : Str), o01 = s1 ∧ imm0.le imm' ∧ hs' = [] ∧ m' = [(0, vT s1.l), (4, .bool neg)]) ?_ ?_
   · have hle0 := hle
     have hle : imm0.le imm0 := Imm.le.refl _
     refine J_cd ho01 ?_ ?_
     · intro hc1 hM
       refine J_region <| R_d 1 [] [(16, vT s.l)] ?_
       obtain ⟨s2, hy1, hM⟩ := bind_some hM
       exact R_ss rfl hy1 <| R_z [] [(0, vT s2.l)] <| T_w [(0, vT s2.l), (4, .bool neg)] <| T_cut ⟨_, (pure_some hM).symm, hle, rfl, rfl⟩
     · intro hc1 hM
       exact J_skip <| T_w [(0, vT s.l), (4, .bool neg)] <| T_cut ⟨_, (pure_some hM).symm, hle, rfl, rfl⟩
   · rintro imm01 hs2 m2 ⟨s1, heq1, le1, rfl, rfl⟩
     subst o01
     replace hle := hle.trans le1
     refine T_seq <| J_seq <| J_seq ?_
     obtain ⟨o02, ho02, hM⟩ := bind_some hM
     refine J_cut (fun imm' hs' m' => ∃ (t38 : Bool), o02 = t38 ∧ imm01.le imm' ∧ hs' = [] ∧ m' = [(0, vT s1.l), (4, .bool neg), (38, .bool t38)]) ?_ ?_
     · have hle0 := hle
       have hle : imm01.le imm01 := Imm.le.refl _
       refine J_region <| R_d 4 [] [(21, .bool ((s1.l.length : Int) == 0))] ?_
       cases hc2 : ((s1.l.length : Int) == 0) with
       | true =>
        have hM02 := if_some_true hc2 ho02
        try rw [hc2]
        exact R_z [] [(38, .bool true)] <| T_w [(0, vT s1.l), (4, .bool neg), (38, .bool true)] <| T_cut ⟨_, (pure_some hM02).symm, hle, rfl, rfl⟩
       | false =>
        have hM03 := if_some_false hc2 ho02
        try rw [hc2]
        refine R_d 9 [] [(26, .bool (decide ((s1.l.length : Int) > 17)))] ?_
        cases hc3 : (decide ((s1.l.length : Int) > 17)) with
        | true =>
         have hM04 := if_some_true hc3 hM03
         try rw [hc3]
         exact R_z [] [(38, .bool true)] <| T_w [(0, vT s1.l), (4, .bool neg), (38, .bool true)] <| T_cut ⟨_, (pure_some hM04).symm, hle, rfl, rfl⟩
        | false =>
         have hM05 := if_some_false hc3 hM03
         try rw [hc3]
         refine R_d 10 [] [(27, vT s1.l)] ?_
         obtain ⟨b1, hy2, hM⟩ := bind_some hM05
         refine R_si rfl rfl hy2 <| R_d 13 [] [(30, .bool ((b1.toNat : Int) == 48))] ?_
         cases hc4 : ((b1.toNat : Int) == 48) with
         | true =>
          have hM06 := if_some_true hc4 hM
          try rw [hc4]
          refine R_d 17 [] [(34, .bool (decide ((s1.l.length : Int) > 1)))] ?_
          cases hc5 : (decide ((s1.l.length : Int) > 1)) with
          | true =>
           have hM07 := if_some_true hc5 hM06
           try rw [hc5]
           exact R_z [] [(38, .bool true)] <| T_w [(0, vT s1.l), (4, .bool neg), (38, .bool true)] <| T_cut ⟨_, (pure_some hM07).symm, hle, rfl, rfl⟩
          | false =>
           have hM08 := if_some_false hc5 hM06
           try rw [hc5]
           exact R_z [] [(38, .bool neg)] <| T_w [(0, vT s1.l), (4, .bool neg), (38, .bool neg)] <| T_cut ⟨_, (pure_some hM08).symm, hle, rfl, rfl⟩
         | false =>
          have hM09 := if_some_false hc4 hM
          try rw [hc4]
          exact R_z [] [(38, .bool false)] <| T_w [(0, vT s1.l), (4, .bool neg), (38, .bool false)] <| T_cut ⟨_, (pure_some hM09).symm, hle, rfl, rfl⟩
     · rintro imm02 hs2 m2 ⟨t38, heq2, le2, rfl, rfl⟩
       subst o02
       replace hle := hle.trans le2
       refine T_seq <| J_cd hM ?_ ?_
       · intro hc6 hM
         refine J_seq <| J_region <| R_z [] [(2, vI 0), (3, .bool false)] <| T_seq <| J_ret <| T_then_ret ?_
         obtain rfl := pure_some hM
         exact T_RS ⟨_, _, (.tmp rfl (.tmp rfl ResV.nil)), good_none, ⟨_, _, rfl, rfl, rfl, rfl⟩⟩
       · intro hc6 hM
         refine J_skip <| T_seq <| J_seq <| J_region <| R_z [] [(5, vI 0)] <| T_seq <| J_seq <| J_seq <| J_region <| R_z [] [(6, vI 0)] <| T_seq <| J_block <| J_w [(0, vT s1.l), (4, .bool neg), (5, vI 0), (6, vI 0)] ?_
         obtain ⟨o04, ho04, hM⟩ := bind_some hM
         refine spec_l16Num_l1_ok s1 0 0 o04 ho04 (Imm.le.refl _)  (fun _ _ _ h => h) (fun _ _ h => h) ?_ ?_
         · intro imm04 n01 heq4 le4
           subst o04
           replace hle := hle.trans le4
           refine T_block_here <| T_seq <| J_seq <| J_seq <| J_region <| R_z [] [(63, .bool neg)] <| T_seq ?_
           obtain ⟨o05, ho05, hM⟩ := bind_some hM
           refine J_cut (fun imm' hs' m' => ∃ (n02 : Int), o05 = n02 ∧ imm04.le imm' ∧ hs' = [] ∧ m' = [(5, vI n02)]) ?_ ?_
           · have hle0 := hle
             have hle : imm04.le imm04 := Imm.le.refl _
             refine J_cd ho05 ?_ ?_
             · intro hc10 hM
               exact J_region <| R_z [] [(5, vI (W (0 - n01)))] <| T_w [(5, vI (W (0 - n01)))] <| T_cut ⟨_, (pure_some hM).symm, hle, rfl, rfl⟩
             · intro hc10 hM
               exact J_skip <| T_w [(5, vI n01)] <| T_cut ⟨_, (pure_some hM).symm, hle, rfl, rfl⟩
           · rintro imm05 hs2 m2 ⟨n02, heq5, le5, rfl, rfl⟩
             subst o05
             replace hle := hle.trans le5
             refine T_seq <| J_seq <| J_region <| R_z [] [(2, vI n02), (3, .bool true)] <| T_seq <| J_ret ?_
             obtain rfl := pure_some hM
             exact T_RS ⟨_, _, (.tmp rfl (.tmp rfl ResV.nil)), good_none, ⟨_, _, rfl, rfl, rfl, rfl⟩⟩
         · intro r0 imm9 hs9 m9 heq9 le9 hrs9
           subst heq9
           refine T_block_ret <| T_then_ret ?_
           obtain rfl := pure_some hM
           exact T_RS hrs9
def spec_l14Number_post (r : Int) : Nat → Imm → List HA → Value → Prop := fun kk imm' hs' v =>
  ∃ (v0 : Value), hs' = [] ∧ v = tupV [v0] ∧ v0 = .int .i64 r
def M.spec_l14Number (w0 : Str) : Option (Int) := do
 let t14 ← (do
   if (decide ((w0.l.length : Int) > 1)) then
    let b ← sidx w0 0
    pure ((b.toNat : Int) == 45)
   else
    pure false
     : Option Bool)
 if t14 then
  let s ← sslc w0 1 (w0.l.length : Int)
  let (y1, y2) ← M.spec_l16Num s
  pure (W (0 - y1))
 else
  let (y4, y5) ← M.spec_l16Num w0
  pure (id y4)
theorem spec_l14Number_ok : ∀ (w0 : Str) r, M.spec_l14Number w0 = some r → ∀ {imm : Imm} , Ret Tryd.prog 38 [vT w0.l] imm [] (spec_l14Number_post  r) := by
 intro w0 r hM imm
 unfold M.spec_l14Number at hM
 refine ret_of_J (fn := Tryd.f38) (c := (bodyOf Tryd.f38)) Tryd.func38 rfl rfl ?_
 rintro B - -
 have hle : imm.le imm := Imm.le.refl _
 refine J_seq <| J_region <| R_z [] [] <| T_seq <| J_seq <| J_seq ?_
 obtain ⟨o0, ho0, hM⟩ := bind_some hM
 refine J_cut (fun imm' hs' m' => ∃ (t14 : Bool), o0 = t14 ∧ imm.le imm' ∧ hs' = [] ∧ m' = [(0, vT w0.l), (14, .bool t14)]) ?_ ?_
 · have hle0 := hle
   have hle : imm.le imm := Imm.le.refl _
   refine J_region <| R_d 4 [] [(10, .bool (decide ((w0.l.length : Int) > 1)))] ?_
   cases hc : (decide ((w0.l.length : Int) > 1)) with
   | true =>
    have hM0 := if_some_true hc ho0
    try rw [hc]
    refine R_d 5 [] [(11, vT w0.l)] ?_
    obtain ⟨b, hy, hM⟩ := bind_some hM0
    exact R_si rfl rfl hy <| R_z [] [(14, .bool ((b.toNat : Int) == 45))] <| T_w [(0, vT w0.l), (14, .bool ((b.toNat : Int) == 45))] <| T_cut ⟨_, (pure_some hM).symm, hle, rfl, rfl⟩
   | false =>
    have hM01 := if_some_false hc ho0
    try rw [hc]
    exact R_z [] [(14, .bool false)] <| T_w [(0, vT w0.l), (14, .bool false)] <| T_cut ⟨_, (pure_some hM01).symm, hle, rfl, rfl⟩
 · rintro imm0 hs2 m2 ⟨t14, heq, le, rfl, rfl⟩
   subst o0
   replace hle := hle.trans le
   refine T_seq <| J_cd hM ?_ ?_
   · intro hc1 hM
     refine J_seq <| J_region <| R_d 1 [] [(16, vT w0.l)] ?_
     obtain ⟨s, hy1, hM⟩ := bind_some hM
     refine R_ss rfl hy1 ?_
     obtain ⟨⟨y1, y2⟩, hy2, hM⟩ := bind_some hM
     refine R_call (hs1 := []) (rest := []) rfl rfl rfl rfl (by kernel_rfl) rfl rfl (spec_l16Num_ok s _ hy2 ) ?_
     rintro imm01 hs2 v2 k2 le1 - ⟨v0, v01, rfl, rfl, rfl, rfl⟩ -
     replace hle := hle.trans le1
     refine R_z [] [(3, vI y1)] <| T_seq <| J_seq <| J_region <| R_z [] [(2, vI (W (0 - y1)))] <| T_seq <| J_ret <| T_then_ret ?_
     obtain rfl := pure_some hM
     exact T_RS ⟨_, _, (.tmp rfl ResV.nil), good_none, ⟨_, rfl, rfl, rfl⟩⟩
   · intro hc1 hM
     refine J_skip <| T_seq <| J_seq <| J_region <| R_d 1 [] [(24, vT w0.l)] ?_
     obtain ⟨⟨y4, y5⟩, hy3, hM⟩ := bind_some hM
     refine R_call (hs1 := []) (rest := []) rfl rfl rfl rfl (by kernel_rfl) rfl rfl (spec_l16Num_ok w0 _ hy3 ) ?_
     rintro imm02 hs2 v2 k2 le2 - ⟨v02, v03, rfl, rfl, rfl, rfl⟩ -
     replace hle := hle.trans le2
     refine R_z [] [(5, vI y4)] <| T_seq <| J_seq <| J_region <| R_z [] [(2, vI y4)] <| T_seq <| J_ret ?_
     obtain rfl := pure_some hM
     exact T_RS ⟨_, _, (.tmp rfl ResV.nil), good_none, ⟨_, rfl, rfl, rfl⟩⟩
def spec_l14Line_post (r : impl_Step) : Nat → Imm → List HA → Value → Prop := fun kk imm' hs' v =>
  ∃ (v0 : Value), hs' = [] ∧ v = tupV [v0] ∧ (∃ cs, v0 = .agg ⟨cs⟩ ∧ Rp.rep imm' cs r)
def M.spec_l14Line_l1 (w0 : List Str) (y1 : (List Str)) (k0 : Int) (Kind : Int) : Option (Int) := do
 if (decide (k0 < (y1.length : Int))) then
  let x ← idx y1 k0
  let x1 ← idx w0 0
  let Kind2 ← (do
    if (x.l == x1.l) then
     pure (id k0)
    else
     pure (id Kind)
      : Option Int)
  M.spec_l14Line_l1 w0 y1 (W (k0 + 1)) Kind2
 else
  pure (id Kind)
 partial_fixpoint
theorem spec_l14Line_l1_ok (w0 : List Str) (y1 : (List Str)) : ∀ (k0 : Int) (Kind : Int) (o : Int), M.spec_l14Line_l1 w0 y1 k0 Kind = some o → ∀ {B : Base} {imm0 imm : Imm} {Q : Exit → Act → World → Prop}  {b : Nat} {p1 : Option Addr} {c1 : Nat} {cs1 : List Value} {b2 : Nat} {p2 : Option Addr} {c2 : Nat}, imm0.le imm → (RL imm cs1 w0) → (SL imm (vS p2 y1 c2) y1) → (∀ l a w, ¬ Q (.goto l) a w) → (∀ a w, ¬ Q .outgrown a w) → (∀ (imm' : Imm) (Kind1 : Int), o = Kind1 → imm0.le imm' → T 55 B Q (.exit 0) imm' [hB b2 [vI Kind1, vI 0, vI 0, vI 0], hO Str (vS p1 w0 c1) cs1, hB b [vI 0, vI 0, vI 0, vI 0]] [(2, vP b 0), (3, vS p1 w0 c1), (4, vP b2 0)]) → J Tryd.prog 55 B (nav (bodyOf Tryd.f24) [1, 1, 1, 1, 0, 1, 0]) Q imm [hB b2 [vI Kind, vI 0, vI 0, vI 0], hO Str (vS p1 w0 c1) cs1, hB b [vI 0, vI 0, vI 0, vI 0]] [(2, vP b 0), (3, vS p1 w0 c1), (4, vP b2 0), (5, vS p2 y1 c2), (6, vI k0)] := by
 refine M.spec_l14Line_l1.partial_correctness w0 y1 _ ?_
 intro self ih k0 Kind o hM B imm0 imm Q b p1 c1 cs1 b2 p2 c2 hle h2 h3 hg ho hx
 refine J_loop hg ho <| J_seq <| J_seq <| J_region <| R_z [] [(17, .bool (decide (k0 < (y1.length : Int))))] <| T_seq <| J_cd hM ?_ ?_
 · intro hc hM
   refine J_skip <| T_seq <| J_seq <| J_block <| J_seq <| J_region_q (by kernel_rfl) (by kernel_rfl) <| Rq_d 2 [] [(20, vS p2 y1 c2), (21, vI k0)] ?_
   obtain ⟨x, hy3, hM⟩ := bind_some hM
   refine Rq_ix rfl rfl h3 hy3 ?_
   intro ad ccs hat hrep
   obtain rfl := hrep
   refine Rq_la 0 hat [vT x.l] (vT x.l) rfl <| Rq_d 5 [] [(24, vS p1 w0 c1)] ?_
   obtain ⟨x1, hy4, hM⟩ := bind_some hM
   refine Rq_ixo 1 rfl rfl rfl h2 hy4 ?_
   intro ad1 ccs1 hat1 hcc hrep1
   obtain rfl := hrep1
   refine Rq_lo 1 0 hat1 hcc [vT x1.l] (vT x1.l) rfl rfl <| Rq_z [] [(27, .bool (x.l == x1.l))] <| T_seq ?_
   obtain ⟨o0, ho0, hM⟩ := bind_some hM
   refine J_cut (fun imm' hs' m' => ∃ (Kind2 : Int), o0 = Kind2 ∧ imm.le imm' ∧ hs' = [hB b2 [vI Kind2, vI 0, vI 0, vI 0], hO Str (vS p1 w0 c1) cs1, hB b [vI 0, vI 0, vI 0, vI 0]] ∧ m' = [(2, vP b 0), (3, vS p1 w0 c1), (4, vP b2 0), (5, vS p2 y1 c2), (6, vI k0)]) ?_ ?_
   · have hle0 := hle
     have hle : imm.le imm := Imm.le.refl _
     refine J_cd ho0 ?_ ?_
     · intro hc1 hM
       exact J_region <| R_d 2 [] [(28, vI k0), (29, vP b2 0)] <| R_sb 0 [vI k0, vI 0, vI 0, vI 0] [hB b2 [vI k0, vI 0, vI 0, vI 0], hO Str (vS p1 w0 c1) cs1, hB b [vI 0, vI 0, vI 0, vI 0]] rfl rfl rfl rfl <| R_end rfl <| T_w [(2, vP b 0), (3, vS p1 w0 c1), (4, vP b2 0), (5, vS p2 y1 c2), (6, vI k0)] <| T_cut ⟨_, (pure_some hM).symm, hle, rfl, rfl⟩
     · intro hc1 hM
       exact J_skip <| T_w [(2, vP b 0), (3, vS p1 w0 c1), (4, vP b2 0), (5, vS p2 y1 c2), (6, vI k0)] <| T_cut ⟨_, (pure_some hM).symm, hle, rfl, rfl⟩
   · rintro imm02 hs2 m2 ⟨Kind2, heq, le2, rfl, rfl⟩
     subst o0
     replace h2 := RepL.mono (fun _ _ => Rp.mono le2) h2
     replace h3 := h3.mono le2
     replace hle := hle.trans le2
     exact T_block_normal <| T_seq <| J_region <| R_z [] [(6, vI (W (k0 + 1)))] <| T_loop <| J_w [(2, vP b 0), (3, vS p1 w0 c1), (4, vP b2 0), (5, vS p2 y1 c2), (6, vI (W (k0 + 1)))] <| ih (W (k0 + 1)) Kind2 _ hM hle h2 h3 hg ho hx
 · intro hc hM
   exact J_exit <| T_then_exit <| T_then_exit <| T_w [(2, vP b 0), (3, vS p1 w0 c1), (4, vP b2 0)] <| hx _ _ (pure_some hM).symm hle
def M.spec_l14Line (line : Str) : Option (impl_Step) := do
 let y ← M.spec_l16Words line
 let w0 ← app 16 y ([(⟨[]⟩ : Str), (⟨[]⟩ : Str), (⟨[]⟩ : Str), (⟨[]⟩ : Str)] : List Str)
 let y1 ← M.spec_l14Words
 let Kind1 ← M.spec_l14Line_l1 w0 y1 1 0
 let y2 ← M.spec_l14Fields Kind1
 let Part ← (do
   if (decide (y2 > 0)) then
    let x2 ← idx w0 1
    let y3 ← M.spec_l14Number x2
    pure (id y3)
   else
    pure (id 0)
     : Option Int)
 let A ← (do
   if (decide (y2 > 1)) then
    let x3 ← idx w0 2
    let y4 ← M.spec_l14Number x3
    pure (id y4)
   else
    pure (id 0)
     : Option Int)
 let B0 ← (do
   if (decide (y2 > 2)) then
    let x4 ← idx w0 3
    let y5 ← M.spec_l14Number x4
    pure (id y5)
   else
    pure (id 0)
     : Option Int)
 pure (impl_Step.mk Kind1 Part A B0)
theorem spec_l14Line_ok : ∀ (line : Str) r, M.spec_l14Line line = some r → ∀ {imm : Imm} , Ret Tryd.prog 24 [vT line.l] imm [] (spec_l14Line_post  r) := by
 intro line r hM imm
 unfold M.spec_l14Line at hM
 refine ret_of_J (fn := Tryd.f24) (c := (bodyOf Tryd.f24)) Tryd.func24 rfl rfl ?_
 rintro B - -
 have hle : imm.le imm := Imm.le.refl _
 refine J_seq <| J_region <| R_alloc (c := ⟨[vI 0, vI 0, vI 0, vI 0]⟩) rfl rfl rfl (by kernel_rfl) ?_
 intro b hb
 refine R_end rfl <| T_seq <| J_seq <| J_region <| R_d 1 [] [(8, vT line.l)] ?_
 obtain ⟨y, hy, hM⟩ := bind_some hM
 refine R_call (hs1 := []) (rest := [hB b [vI 0, vI 0, vI 0, vI 0]]) rfl rfl rfl rfl (by kernel_rfl) rfl rfl (spec_l16Words_ok line _ hy ) ?_
 rintro imm0 hs2 v2 k2 le - ⟨p, c, cs, rfl, rfl, h⟩ -
 replace hle := hle.trans le
 refine R_buildSlice (cs := [vT ([]), vT ([]), vT ([]), vT ([])]) (Rp.sz Str) rfl rfl rfl rfl (by kernel_rfl) (by kernel_rfl) ?_
 intro b1 hb1
 have h1 : RL imm0 [vT ([]), vT ([]), vT ([]), vT ([])] ([(⟨[]⟩ : Str), (⟨[]⟩ : Str), (⟨[]⟩ : Str), (⟨[]⟩ : Str)] : List Str) := ⟨[vT ([])], _, rfl, rfl, rfl, ⟨[vT ([])], _, rfl, rfl, rfl, ⟨[vT ([])], _, rfl, rfl, rfl, ⟨[vT ([])], _, rfl, rfl, rfl, rfl⟩⟩⟩⟩
 obtain ⟨w0, hy1, hM⟩ := bind_some hM
 refine R_ap 9 1 1 rfl rfl rfl h (.inr ⟨0, rfl⟩) h1 hy1 ?_
 intro p1 c1 cs1 h2
 refine R_hs (good_pick [1, 2] (hs' := [hO Str (vS p1 w0 c1) cs1, hB b [vI 0, vI 0, vI 0, vI 0]]) rfl (by decide)) <| R_z [] [(3, vS p1 w0 c1)] <| T_seq <| J_seq <| J_region <| R_d 1 [] [(12, vA [vI 0, vI 0, vI 0, vI 0])] <| R_alloc (c := ⟨[vI 0, vI 0, vI 0, vI 0]⟩) rfl rfl rfl (by kernel_rfl) ?_
 intro b2 hb2
 refine R_sb 0 [vI 0, vI 0, vI 0, vI 0] [hB b2 [vI 0, vI 0, vI 0, vI 0], hO Str (vS p1 w0 c1) cs1, hB b [vI 0, vI 0, vI 0, vI 0]] rfl rfl rfl rfl <| R_end rfl <| T_seq <| J_seq <| J_region ?_
 obtain ⟨y1, hy2, hM⟩ := bind_some hM
 refine R_call (hs1 := []) (rest := [hB b2 [vI 0, vI 0, vI 0, vI 0], hO Str (vS p1 w0 c1) cs1, hB b [vI 0, vI 0, vI 0, vI 0]]) rfl rfl rfl rfl (by kernel_rfl) rfl rfl (spec_l14Words_ok  _ hy2 ) ?_
 rintro imm01 hs2 v2 k2 le1 - ⟨v0, rfl, rfl, h3⟩ -
 replace h2 := RepL.mono (fun _ _ => Rp.mono le1) h2
 replace hle := hle.trans le1
 obtain ⟨p2, c2, rfl⟩ := h3.form
 refine R_z [] [(5, vS p2 y1 c2)] <| T_seq <| J_seq <| J_seq <| J_region <| R_z [] [(6, vI 1)] <| T_seq <| J_block <| J_w [(2, vP b 0), (3, vS p1 w0 c1), (4, vP b2 0), (5, vS p2 y1 c2), (6, vI 1)] ?_
 obtain ⟨o01, ho01, hM⟩ := bind_some hM
 refine spec_l14Line_l1_ok w0 y1 1 0 o01 ho01 (Imm.le.refl _) h2 h3 (fun _ _ _ h => h) (fun _ _ h => h) ?_
 intro imm03 Kind1 heq1 le3
 subst o01
 replace h2 := RepL.mono (fun _ _ => Rp.mono le3) h2
 replace hle := hle.trans le3
 refine T_block_here <| T_seq <| J_seq <| J_region <| R_d 2 [0] [(31, vI Kind1)] ?_
 obtain ⟨y2, hy5, hM⟩ := bind_some hM
 refine R_call (hs1 := []) (rest := [hB b2 [vI Kind1, vI 0, vI 0, vI 0], hO Str (vS p1 w0 c1) cs1, hB b [vI 0, vI 0, vI 0, vI 0]]) rfl rfl rfl rfl (by kernel_rfl) rfl rfl (spec_l14Fields_ok Kind1 _ hy5 ) ?_
 rintro imm04 hs2 v2 k2 le4 - ⟨v01, rfl, rfl, rfl⟩ -
 replace h2 := RepL.mono (fun _ _ => Rp.mono le4) h2
 replace hle := hle.trans le4
 refine R_z [] [(7, vI y2)] <| T_seq <| J_seq <| J_seq <| J_region <| R_z [] [(34, .bool (decide (y2 > 0)))] <| T_seq ?_
 obtain ⟨o02, ho02, hM⟩ := bind_some hM
 refine J_cut (fun imm' hs' m' => ∃ (Part : Int), o02 = Part ∧ imm04.le imm' ∧ hs' = [hB b2 [vI Kind1, vI Part, vI 0, vI 0], hO Str (vS p1 w0 c1) cs1, hB b [vI 0, vI 0, vI 0, vI 0]] ∧ m' = [(2, vP b 0), (3, vS p1 w0 c1), (4, vP b2 0), (7, vI y2)]) ?_ ?_
 · have hle0 := hle
   have hle : imm04.le imm04 := Imm.le.refl _
   refine J_cd ho02 ?_ ?_
   · intro hc2 hM
     refine J_region <| R_d 1 [] [(35, vS p1 w0 c1)] ?_
     obtain ⟨x2, hy6, hM⟩ := bind_some hM
     refine R_ixo 1 rfl rfl rfl h2 hy6 ?_
     intro ad2 ccs2 hat2 hcc1 hrep2
     obtain rfl := hrep2
     refine R_lo 1 0 hat2 hcc1 [vT x2.l] (vT x2.l) rfl rfl ?_
     obtain ⟨y3, hy7, hM⟩ := bind_some hM
     refine R_call (hs1 := []) (rest := [hB b2 [vI Kind1, vI 0, vI 0, vI 0], hO Str (vS p1 w0 c1) cs1, hB b [vI 0, vI 0, vI 0, vI 0]]) rfl rfl rfl rfl (by kernel_rfl) rfl rfl (spec_l14Number_ok x2 _ hy7 ) ?_
     rintro imm06 hs2 v2 k2 le5 - ⟨v02, rfl, rfl, rfl⟩ -
     replace h2 := RepL.mono (fun _ _ => Rp.mono le5) h2
     replace hle := hle.trans le5
     exact R_d 5 [] [(39, vP b2 1)] <| R_sb 0 [vI Kind1, vI y3, vI 0, vI 0] [hB b2 [vI Kind1, vI y3, vI 0, vI 0], hO Str (vS p1 w0 c1) cs1, hB b [vI 0, vI 0, vI 0, vI 0]] rfl rfl rfl rfl <| R_end rfl <| T_w [(2, vP b 0), (3, vS p1 w0 c1), (4, vP b2 0), (7, vI y2)] <| T_cut ⟨_, (pure_some hM).symm, hle, rfl, rfl⟩
   · intro hc2 hM
     exact J_skip <| T_w [(2, vP b 0), (3, vS p1 w0 c1), (4, vP b2 0), (7, vI y2)] <| T_cut ⟨_, (pure_some hM).symm, hle, rfl, rfl⟩
 · rintro imm05 hs2 m2 ⟨Part, heq2, le6, rfl, rfl⟩
   subst o02
   replace h2 := RepL.mono (fun _ _ => Rp.mono le6) h2
   replace hle := hle.trans le6
   refine T_seq <| J_seq <| J_seq <| J_region <| R_z [] [(41, .bool (decide (y2 > 1)))] <| T_seq ?_
   obtain ⟨o03, ho03, hM⟩ := bind_some hM
   refine J_cut (fun imm' hs' m' => ∃ (A : Int), o03 = A ∧ imm05.le imm' ∧ hs' = [hB b2 [vI Kind1, vI Part, vI A, vI 0], hO Str (vS p1 w0 c1) cs1, hB b [vI 0, vI 0, vI 0, vI 0]] ∧ m' = [(2, vP b 0), (3, vS p1 w0 c1), (4, vP b2 0), (7, vI y2)]) ?_ ?_
   · have hle0 := hle
     have hle : imm05.le imm05 := Imm.le.refl _
     refine J_cd ho03 ?_ ?_
     · intro hc3 hM
       refine J_region <| R_d 1 [] [(42, vS p1 w0 c1)] ?_
       obtain ⟨x3, hy8, hM⟩ := bind_some hM
       refine R_ixo 1 rfl rfl rfl h2 hy8 ?_
       intro ad3 ccs3 hat3 hcc2 hrep3
       obtain rfl := hrep3
       refine R_lo 1 0 hat3 hcc2 [vT x3.l] (vT x3.l) rfl rfl ?_
       obtain ⟨y4, hy9, hM⟩ := bind_some hM
       refine R_call (hs1 := []) (rest := [hB b2 [vI Kind1, vI Part, vI 0, vI 0], hO Str (vS p1 w0 c1) cs1, hB b [vI 0, vI 0, vI 0, vI 0]]) rfl rfl rfl rfl (by kernel_rfl) rfl rfl (spec_l14Number_ok x3 _ hy9 ) ?_
       rintro imm08 hs2 v2 k2 le7 - ⟨v03, rfl, rfl, rfl⟩ -
       replace h2 := RepL.mono (fun _ _ => Rp.mono le7) h2
       replace hle := hle.trans le7
       exact R_d 5 [] [(46, vP b2 2)] <| R_sb 0 [vI Kind1, vI Part, vI y4, vI 0] [hB b2 [vI Kind1, vI Part, vI y4, vI 0], hO Str (vS p1 w0 c1) cs1, hB b [vI 0, vI 0, vI 0, vI 0]] rfl rfl rfl rfl <| R_end rfl <| T_w [(2, vP b 0), (3, vS p1 w0 c1), (4, vP b2 0), (7, vI y2)] <| T_cut ⟨_, (pure_some hM).symm, hle, rfl, rfl⟩
     · intro hc3 hM
       exact J_skip <| T_w [(2, vP b 0), (3, vS p1 w0 c1), (4, vP b2 0), (7, vI y2)] <| T_cut ⟨_, (pure_some hM).symm, hle, rfl, rfl⟩
   · rintro imm07 hs2 m2 ⟨A, heq3, le8, rfl, rfl⟩
     subst o03
     replace h2 := RepL.mono (fun _ _ => Rp.mono le8) h2
     replace hle := hle.trans le8
     refine T_seq <| J_seq <| J_seq <| J_region <| R_z [] [(48, .bool (decide (y2 > 2)))] <| T_seq ?_
     obtain ⟨o04, ho04, hM⟩ := bind_some hM
     refine J_cut (fun imm' hs' m' => ∃ (B0 : Int), o04 = B0 ∧ imm07.le imm' ∧ hs' = [hB b2 [vI Kind1, vI Part, vI A, vI B0], hB b [vI 0, vI 0, vI 0, vI 0]] ∧ m' = [(2, vP b 0), (4, vP b2 0)]) ?_ ?_
     · have hle0 := hle
       have hle : imm07.le imm07 := Imm.le.refl _
       refine J_cd ho04 ?_ ?_
       · intro hc4 hM
         refine J_region <| R_d 1 [] [(49, vS p1 w0 c1)] ?_
         obtain ⟨x4, hy10, hM⟩ := bind_some hM
         refine R_ixo 1 rfl rfl rfl h2 hy10 ?_
         intro ad4 ccs4 hat4 hcc3 hrep4
         obtain rfl := hrep4
         refine R_lo 1 0 hat4 hcc3 [vT x4.l] (vT x4.l) rfl rfl ?_
         obtain ⟨y5, hy11, hM⟩ := bind_some hM
         refine R_call (hs1 := []) (rest := [hB b2 [vI Kind1, vI Part, vI A, vI 0], hO Str (vS p1 w0 c1) cs1, hB b [vI 0, vI 0, vI 0, vI 0]]) rfl rfl rfl rfl (by kernel_rfl) rfl rfl (spec_l14Number_ok x4 _ hy11 ) ?_
         rintro imm010 hs2 v2 k2 le9 - ⟨v04, rfl, rfl, rfl⟩ -
         replace h2 := RepL.mono (fun _ _ => Rp.mono le9) h2
         replace hle := hle.trans le9
         exact R_d 5 [] [(53, vP b2 3)] <| R_sb 0 [vI Kind1, vI Part, vI A, vI y5] [hB b2 [vI Kind1, vI Part, vI A, vI y5], hO Str (vS p1 w0 c1) cs1, hB b [vI 0, vI 0, vI 0, vI 0]] rfl rfl rfl rfl <| R_end rfl <| T_hs (good_pick [0, 2] rfl (by decide)) <| T_w [(2, vP b 0), (4, vP b2 0)] <| T_cut ⟨_, (pure_some hM).symm, hle, rfl, rfl⟩
       · intro hc4 hM
         exact J_skip <| T_hs (good_pick [0, 2] rfl (by decide)) <| T_w [(2, vP b 0), (4, vP b2 0)] <| T_cut ⟨_, (pure_some hM).symm, hle, rfl, rfl⟩
     · rintro imm09 hs2 m2 ⟨B0, heq4, le10, rfl, rfl⟩
       subst o04
       replace hle := hle.trans le10
       refine T_seq <| J_seq <| J_region <| R_d 1 [0] [(54, vA [vI Kind1, vI Part, vI A, vI B0])] <| R_sb 1 [vI Kind1, vI Part, vI A, vI B0] [hB b2 [vI Kind1, vI Part, vI A, vI B0], hB b [vI Kind1, vI Part, vI A, vI B0]] rfl rfl rfl rfl <| R_end rfl <| T_seq <| J_ret ?_
       obtain rfl := pure_some hM
       exact T_RS ⟨_, _, (.cell 1 rfl rfl (by kernel_rfl) ResV.nil), good_none, ⟨_, rfl, rfl, ⟨_, rfl, (impl_Step_shut rfl)⟩⟩⟩
def spec_ParseSteps_post (r : (List impl_Step) × Bool) : Nat → Imm → List HA → Value → Prop := fun kk imm' hs' v =>
  ∃ (v0 : Value) (v1 : Value), hs' = [] ∧ v = tupV [v0, v1] ∧ SL imm' v0 r.1 ∧ v1 = .bool r.2
def M.spec_ParseSteps_l1 (y : (List Str)) (out : List impl_Step) (i : Int) : Option (List impl_Step) := do
 if (decide ((W (i + 1)) < (y.length : Int))) then
  let x ← idx y i
  let y1 ← M.spec_l14Line x
  let out2 ← app 32 out ([y1] : List impl_Step)
  M.spec_ParseSteps_l1 y out2 (W (i + 1))
 else
  pure (id out)
 partial_fixpoint
theorem spec_ParseSteps_l1_ok (y : (List Str)) : ∀ (out : List impl_Step) (i : Int) (o : List impl_Step), M.spec_ParseSteps_l1 y out i = some o → ∀ {B : Base} {imm0 imm : Imm} {Q : Exit → Act → World → Prop} {text : Str} {p : Option Addr} {c : Nat} {p1 : Option Addr} {c1 : Nat} {cs : List Value}, imm0.le imm → (SL imm (vS p y c) y) → (RL imm cs out) → (∀ l a w, ¬ Q (.goto l) a w) → (∀ a w, ¬ Q .outgrown a w) → (∀ (imm' : Imm) (out1 : List impl_Step) (p2 : Option Addr) (c2 : Nat) (cs1 : List Value), o = out1 → imm0.le imm' → (RL imm' cs1 out1) → T 40 B Q (.exit 0) imm' [hO impl_Step (vS p2 out1 c2) cs1] [(0, vT text.l), (5, vS p2 out1 c2)]) → J Tryd.prog 40 B (nav (bodyOf Tryd.f10) [1, 1, 1, 1, 0, 1, 0]) Q imm [hO impl_Step (vS p1 out c1) cs] [(0, vT text.l), (4, vS p y c), (5, vS p1 out c1), (6, vI i)] := by
 refine M.spec_ParseSteps_l1.partial_correctness y _ ?_
 intro self ih out i o hM B imm0 imm Q text p c p1 c1 cs hle h h3 hg ho hx
 refine J_loop hg ho <| J_seq <| J_seq <| J_region <| R_z [] [(23, .bool (decide ((W (i + 1)) < (y.length : Int))))] <| T_seq <| J_cd hM ?_ ?_
 · intro hc2 hM
   refine J_skip <| T_seq <| J_seq <| J_block <| J_region <| R_d 3 [] [(26, vS p1 out c1), (27, vS p y c), (28, vI i)] ?_
   obtain ⟨x, hy1, hM⟩ := bind_some hM
   refine R_ix rfl rfl h hy1 ?_
   intro ad ccs hat hrep
   obtain rfl := hrep
   refine R_la 0 hat [vT x.l] (vT x.l) rfl ?_
   obtain ⟨y1, hy2, hM⟩ := bind_some hM
   refine R_call (hs1 := []) (rest := [hO impl_Step (vS p1 out c1) cs]) rfl rfl rfl rfl (by kernel_rfl) rfl rfl (spec_l14Line_ok x _ hy2 ) ?_
   rintro imm03 hs2 v2 k2 le3 - ⟨v01, rfl, rfl, ⟨cs2, rfl, h5⟩⟩ -
   replace h := h.mono le3
   replace h3 := RepL.mono (fun _ _ => Rp.mono le3) h3
   replace hle := hle.trans le3
   obtain rfl := impl_Step_open h5
   refine R_buildSlice (cs := [vI y1.Kind, vI y1.Part, vI y1.A, vI y1.B]) (Rp.sz impl_Step) rfl rfl rfl rfl (by kernel_rfl) (by kernel_rfl) ?_
   intro b1 hb1
   have h6 : RL imm03 [vI y1.Kind, vI y1.Part, vI y1.A, vI y1.B] ([y1] : List impl_Step) := ⟨[vI y1.Kind, vI y1.Part, vI y1.A, vI y1.B], _, rfl, rfl, (impl_Step_shut rfl), rfl⟩
   obtain ⟨out2, hy3, hM⟩ := bind_some hM
   refine R_ap 35 4 1 rfl rfl rfl h3 (.inr ⟨0, rfl⟩) h6 hy3 ?_
   intro p3 c3 cs3 h7
   exact R_hs (good_pick [1] (hs' := [hO impl_Step (vS p3 out2 c3) cs3]) rfl (by decide)) <| R_z [] [(5, vS p3 out2 c3)] <| T_block_normal <| T_seq <| J_region <| R_z [] [(6, vI (W (i + 1)))] <| T_loop <| J_w [(0, vT text.l), (4, vS p y c), (5, vS p3 out2 c3), (6, vI (W (i + 1)))] <| ih out2 (W (i + 1)) _ hM hle h h7 hg ho hx
 · intro hc2 hM
   exact J_exit <| T_then_exit <| T_then_exit <| T_w [(0, vT text.l), (5, vS p1 out c1)] <| hx _ _ _ _ _ (pure_some hM).symm hle h3
def M.spec_ParseSteps (text : Str) : Option ((List impl_Step) × Bool) := do
 let y ← M.spec_l16Cut text (10 : UInt8)
 let t17 ← (do
   if (decide ((y.length : Int) > 13)) then
    pure true
   else
    pure (decide ((text.l.length : Int) > 1000))
     : Option Bool)
 if t17 then
  pure (([] : List impl_Step), false)
 else
  let out1 ← M.spec_ParseSteps_l1 y ([] : List impl_Step) 0
  let y2 ← M.spec_FormatSteps out1
  if (!(y2.l == text.l)) then
   pure (([] : List impl_Step), false)
  else
   pure (out1, true)
theorem spec_ParseSteps_ok : ∀ (text : Str) r, M.spec_ParseSteps text = some r → ∀ {imm : Imm} , Ret Tryd.prog 10 [vT text.l] imm [] (spec_ParseSteps_post  r) := by
 intro text r hM imm
 unfold M.spec_ParseSteps at hM
 refine ret_of_J (fn := Tryd.f10) (c := (bodyOf Tryd.f10)) Tryd.func10 rfl rfl ?_
 rintro B - -
 have hle : imm.le imm := Imm.le.refl _
 refine J_seq <| J_region <| R_z [] [] <| T_seq <| J_seq <| J_region <| R_d 1 [] [(7, vT text.l)] ?_
 obtain ⟨y, hy, hM⟩ := bind_some hM
 refine R_call (hs1 := []) (rest := []) rfl rfl rfl rfl (by kernel_rfl) rfl rfl (spec_l16Cut_ok text (10 : UInt8) _ hy ) ?_
 rintro imm0 hs2 v2 k2 le - ⟨v0, rfl, rfl, h⟩ -
 replace hle := hle.trans le
 obtain ⟨p, c, rfl⟩ := h.form
 refine R_z [] [(4, vS p y c)] <| T_seq <| J_seq <| J_region <| R_buildSlice (cs := []) (Rp.sz impl_Step) rfl rfl rfl rfl (by kernel_rfl) (by kernel_rfl) ?_
 intro b hb
 have h1 : RL imm0 [] ([] : List impl_Step) := rfl
 refine R_z [] [(5, vS (some ⟨b, 0, none⟩) ([] : List impl_Step) 0)] <| T_seq <| J_seq <| J_seq ?_
 obtain ⟨o0, ho0, hM⟩ := bind_some hM
 refine J_cut (fun imm' hs' m' => ∃ (t17 : Bool), o0 = t17 ∧ imm0.le imm' ∧ hs' = [hO impl_Step (vS (some ⟨b, 0, none⟩) ([] : List impl_Step) 0) []] ∧ m' = [(0, vT text.l), (4, vS p y c), (5, vS (some ⟨b, 0, none⟩) ([] : List impl_Step) 0), (17, .bool t17)]) ?_ ?_
 · have hle0 := hle
   have hle : imm0.le imm0 := Imm.le.refl _
   refine J_region <| R_d 4 [] [(13, .bool (decide ((y.length : Int) > 13)))] ?_
   cases hc : (decide ((y.length : Int) > 13)) with
   | true =>
    have hM0 := if_some_true hc ho0
    try rw [hc]
    exact R_z [] [(17, .bool true)] <| T_w [(0, vT text.l), (4, vS p y c), (5, vS (some ⟨b, 0, none⟩) ([] : List impl_Step) 0), (17, .bool true)] <| T_cut ⟨_, (pure_some hM0).symm, hle, rfl, rfl⟩
   | false =>
    have hM01 := if_some_false hc ho0
    try rw [hc]
    exact R_z [] [(17, .bool (decide ((text.l.length : Int) > 1000)))] <| T_w [(0, vT text.l), (4, vS p y c), (5, vS (some ⟨b, 0, none⟩) ([] : List impl_Step) 0), (17, .bool (decide ((text.l.length : Int) > 1000)))] <| T_cut ⟨_, (pure_some hM01).symm, hle, rfl, rfl⟩
 · rintro imm01 hs2 m2 ⟨t17, heq, le1, rfl, rfl⟩
   subst o0
   replace h := h.mono le1
   replace h1 := RepL.mono (fun _ _ => Rp.mono le1) h1
   replace hle := hle.trans le1
   refine T_seq <| J_cd hM ?_ ?_
   · intro hc1 hM
     refine J_seq <| J_region <| R_z [] [(2, vS (some ⟨b, 0, none⟩) ([] : List impl_Step) 0), (3, .bool false)] <| T_seq <| J_ret <| T_then_ret <| T_freeze 0 rfl ?_
     intro imm02 le2 hl0
     have h2 := SL.of_frozen hl0 le2 h1
     replace hle := hle.trans le2
     obtain rfl := pure_some hM
     exact T_RS ⟨_, _, (.tmp rfl (.tmp rfl ResV.nil)), good_none, ⟨_, _, rfl, rfl, h2, rfl⟩⟩
   · intro hc1 hM
     refine J_skip <| T_seq <| J_seq <| J_seq <| J_region <| R_z [] [(6, vI 0)] <| T_seq <| J_block <| J_w [(0, vT text.l), (4, vS p y c), (5, vS (some ⟨b, 0, none⟩) ([] : List impl_Step) 0), (6, vI 0)] ?_
     obtain ⟨o01, ho01, hM⟩ := bind_some hM
     refine spec_ParseSteps_l1_ok y ([] : List impl_Step) 0 o01 ho01 (Imm.le.refl _) h h1 (fun _ _ _ h => h) (fun _ _ h => h) ?_
     intro imm04 out1 p2 c2 cs1 heq1 le4 h4
     subst o01
     replace hle := hle.trans le4
     refine T_block_here <| T_seq <| J_seq <| J_seq <| J_region <| R_d 1 [] [(34, vS p2 out1 c2)] ?_
     obtain ⟨y2, hy4, hM⟩ := bind_some hM
     refine R_call_lend (L := [hO impl_Step (vS p2 out1 c2) cs1]) (hs1 := []) (rest := []) rfl rfl rfl rfl (by kernel_rfl) rfl rfl (fun i1 le1 hl1 => spec_FormatSteps_ok out1 _ hy4 ⟨_, hl1 (hO impl_Step (vS p2 out1 c2) cs1) (by simp), RepL.mono (fun _ _ => Rp.mono le1) h4⟩) ?_
     rintro - imm05 hs2 v2 k2 le5 - - - ⟨v02, rfl, rfl, rfl⟩ -
     replace h4 := RepL.mono (fun _ _ => Rp.mono le5) h4
     replace hle := hle.trans le5
     refine R_z [] [(37, .bool (!(y2.l == text.l)))] <| T_seq <| J_cd hM ?_ ?_
     · intro hc3 hM
       refine J_seq <| J_region <| R_buildSlice (cs := []) (Rp.sz impl_Step) rfl rfl rfl rfl (by kernel_rfl) (by kernel_rfl) ?_
       intro b2 hb2
       have h9 : RL imm05 [] ([] : List impl_Step) := rfl
       refine R_z [] [(2, vS (some ⟨b2, 0, none⟩) ([] : List impl_Step) 0), (3, .bool false)] <| T_seq <| J_ret <| T_then_ret <| T_freeze 0 rfl ?_
       intro imm06 le6 hl01
       have h10 := SL.of_frozen hl01 le6 h9
       replace h4 := RepL.mono (fun _ _ => Rp.mono le6) h4
       replace hle := hle.trans le6
       obtain rfl := pure_some hM
       exact T_RS ⟨_, _, (.tmp rfl (.tmp rfl ResV.nil)), good_none, ⟨_, _, rfl, rfl, h10, rfl⟩⟩
     · intro hc3 hM
       refine J_skip <| T_seq <| J_seq <| J_region <| R_z [] [(2, vS p2 out1 c2), (3, .bool true)] <| T_seq <| J_ret <| T_freeze 0 rfl ?_
       intro imm07 le7 hl02
       have h11 := SL.of_frozen hl02 le7 h4
       replace hle := hle.trans le7
       obtain rfl := pure_some hM
       exact T_RS ⟨_, _, (.tmp rfl (.tmp rfl ResV.nil)), good_none, ⟨_, _, rfl, rfl, h11, rfl⟩⟩
def strings_Split_post (r : List Str) : Nat → Imm → List HA → Value → Prop := fun kk imm' hs' v =>
  ∃ (v0 : Value), hs' = [] ∧ v = tupV [v0] ∧ SL imm' v0 r
def M.strings_Split (s : Str) (sep : Str) : Option (List Str) := if s.l.length < 4294967281 ∧ 1 ≤ sep.l.length then some (splitM s sep) else none
theorem strings_Split_ok : ∀ (s sep : Str) r, M.strings_Split s sep = some r → ∀ {imm : Imm}, GH Tryd.prog imm → Ret Tryd.prog 25 [vT s.l, vT sep.l] imm [] (strings_Split_post r) := by
 intro s sep r hM imm hG
 unfold M.strings_Split at hM
 split at hM
 · rename_i hi
   cases hM
   obtain ⟨g, hg, hm⟩ := hG.ml
   obtain rfl : g = 0 := (Option.some.inj ((show Tryd.prog.globalNamed "internal/bytealg.MaxLen" = some 0 by kernel_rfl).symm.trans hg)).symm
   exact ret_split hi.1 hi.2 hm Tryd.strings_Split fun k imm' a c hl h => ⟨_, rfl, rfl, h⟩
 · cases hM
def slices_IndexFunc_int_int_post (hsF : List HA) (r : Int) : Nat → Imm → List HA → Value → Prop := fun kk imm' hs' v =>
  ∃ (v0 : Value), hsF = hs' ∧ v = tupV [v0] ∧ v0 = .int .i64 r
def M.slices_IndexFunc_int_int_l1 (s : (List Int)) (f0 : (Int → Option Bool)) (t8 : Int) : Option (Out Unit (Int)) := do
 if (decide (t8 < (s.length : Int))) then
  let x ← idx s t8
  let y ← f0 x
  if y then
   pure (.ret t8)
  else
   M.slices_IndexFunc_int_int_l1 s f0 (W (t8 + 1))
 else
  pure (.done ())
 partial_fixpoint
theorem slices_IndexFunc_int_int_l1_ok (s : (List Int)) (f0 : (Int → Option Bool)) : ∀ (t8 : Int) (o : Out Unit (Int)), M.slices_IndexFunc_int_int_l1 s f0 t8 = some o → ∀ {B : Base} {imm0 imm : Imm} {Q : Exit → Act → World → Prop}  {p : Option Addr} {c : Nat} {fv : Value} {hsF : List HA}, imm0.le imm → (SL imm (vS p s c) s) → (FV1 Tryd.prog imm hsF fv f0) → (∀ l a w, ¬ Q (.goto l) a w) → (∀ a w, ¬ Q .outgrown a w) → (∀ (imm' : Imm) , o = (.done ()) → imm0.le imm' → T 19 B Q (.exit 0) imm' hsF []) → (∀ r imm' hs' m', o = (.ret r) → imm0.le imm' → RS Tryd.prog Tryd.f43 B (slices_IndexFunc_int_int_post hsF r) imm' hs' m' → T 19 B Q .ret imm' hs' m') → J Tryd.prog 19 B (nav (bodyOf Tryd.f43) [1, 0, 1, 0]) Q imm hsF [(0, vS p s c), (1, fv), (7, vI (s.length : Int)), (8, vI t8)] := by
 refine M.slices_IndexFunc_int_int_l1.partial_correctness s f0 _ ?_
 intro self ih t8 o hM B imm0 imm Q p c fv hsF hle h h1 hg ho hx hr
 refine J_loop hg ho <| J_seq <| J_region <| R_z [] [(9, .bool (decide (t8 < (s.length : Int))))] <| T_seq <| J_seq <| J_cd hM ?_ ?_
 · intro hc hM
   refine J_skip <| T_seq <| J_seq <| J_block <| J_seq <| J_region <| R_z [] [(5, vI t8)] <| T_seq <| J_seq <| J_region <| R_d 3 [] [(11, fv), (12, vS p s c), (13, vI t8)] ?_
   obtain ⟨x, hy, hM⟩ := bind_some hM
   refine R_ix rfl rfl h hy ?_
   intro ad ccs hat hrep
   obtain rfl := hrep
   refine R_la 0 hat [vI x] (vI x) rfl ?_
   obtain ⟨y, hy1, hM⟩ := bind_some hM
   refine R_fv1 rfl rfl h1 hy1 rfl (List.append_nil _).symm ?_
   rintro imm0 v0 le rfl
   refine R_hseq (hs' := hsF) (List.append_nil _) ?_
   replace h := h.mono le
   replace h1 := h1.mono le
   replace hle := hle.trans le
   refine R_end rfl <| T_seq <| J_cd hM ?_ ?_
   · intro hc1 hM
     exact J_seq <| J_region <| R_z [] [(4, vI t8)] <| T_seq <| J_ret <| T_block_ret <| T_then_ret <| T_then_ret <| hr _ _ _ _ (pure_some hM).symm hle ⟨_, _, (.tmp rfl ResV.nil), (fun _ h => h), ⟨_, rfl, rfl, rfl⟩⟩
   · intro hc1 hM
     exact J_skip <| T_block_normal <| T_seq <| J_region <| R_z [] [(8, vI (W (t8 + 1)))] <| T_loop <| J_w [(0, vS p s c), (1, fv), (7, vI (s.length : Int)), (8, vI (W (t8 + 1)))] <| ih (W (t8 + 1)) _ hM hle h h1 hg ho hx hr
 · intro hc hM
   exact J_exit <| T_then_exit <| T_then_exit <| T_w [] <| hx _  (pure_some hM).symm hle
def M.slices_IndexFunc_int_int (s : (List Int)) (f0 : (Int → Option Bool)) : Option (Int) := do
 match ← M.slices_IndexFunc_int_int_l1 s f0 0 with
 | .ret r0 => pure r0
 | .done _ =>
  pure (-1)
theorem slices_IndexFunc_int_int_ok : ∀ (s : (List Int)) (f0 : (Int → Option Bool)) r, M.slices_IndexFunc_int_int s f0 = some r → ∀ {imm : Imm} {p : Option Addr} {c : Nat} {fv : Value} {hsF : List HA}, (SL imm (vS p s c) s) → (FV1 Tryd.prog imm hsF fv f0) → Ret Tryd.prog 43 [vS p s c, fv] imm hsF (slices_IndexFunc_int_int_post hsF r) := by
 intro s f0 r hM imm p c fv hsF h h1
 unfold M.slices_IndexFunc_int_int at hM
 refine ret_of_J (fn := Tryd.f43) (c := (bodyOf Tryd.f43)) Tryd.func43 rfl rfl ?_
 rintro B - -
 have hle : imm.le imm := Imm.le.refl _
 refine J_seq <| J_region <| R_z [] [] <| T_seq <| J_seq <| J_seq <| J_region <| R_z [] [(7, vI (s.length : Int)), (8, vI 0)] <| T_seq <| J_block <| J_w [(0, vS p s c), (1, fv), (7, vI (s.length : Int)), (8, vI 0)] ?_
 obtain ⟨o0, ho0, hM⟩ := bind_some hM
 refine slices_IndexFunc_int_int_l1_ok s f0 0 o0 ho0 (Imm.le.refl _) h h1 (fun _ _ _ h => h) (fun _ _ h => h) ?_ ?_
 · intro imm01  heq le1
   subst o0
   replace hle := hle.trans le1
   refine T_block_here <| T_seq <| J_seq <| J_region <| R_z [] [(4, vI (-1))] <| T_seq <| J_ret ?_
   obtain rfl := pure_some hM
   exact T_RS ⟨_, _, (.tmp rfl ResV.nil), (fun _ h => h), ⟨_, rfl, rfl, rfl⟩⟩
 · intro r0 imm9 hs9 m9 heq9 le9 hrs9
   subst heq9
   refine T_block_ret <| T_then_ret ?_
   obtain rfl := pure_some hM
   exact T_RS hrs9
def slices_ContainsFunc_int_int_post (hsF : List HA) (r : Bool) : Nat → Imm → List HA → Value → Prop := fun kk imm' hs' v =>
  ∃ (v0 : Value), hsF = hs' ∧ v = tupV [v0] ∧ v0 = .bool r
def M.slices_ContainsFunc_int_int (s : (List Int)) (f0 : (Int → Option Bool)) : Option (Bool) := do
 let y ← M.slices_IndexFunc_int_int s f0
 pure (decide (y ≥ 0))
theorem slices_ContainsFunc_int_int_ok : ∀ (s : (List Int)) (f0 : (Int → Option Bool)) r, M.slices_ContainsFunc_int_int s f0 = some r → ∀ {imm : Imm} {p : Option Addr} {c : Nat} {fv : Value} {hsF : List HA}, (SL imm (vS p s c) s) → (FV1 Tryd.prog imm hsF fv f0) → Ret Tryd.prog 30 [vS p s c, fv] imm hsF (slices_ContainsFunc_int_int_post hsF r) := by
 intro s f0 r hM imm p c fv hsF h h1
 unfold M.slices_ContainsFunc_int_int at hM
 refine ret_of_J (fn := Tryd.f30) (c := (bodyOf Tryd.f30)) Tryd.func30 rfl rfl ?_
 rintro B - -
 have hle : imm.le imm := Imm.le.refl _
 refine J_seq <| J_region <| R_z [] [] <| T_seq <| J_seq <| J_region <| R_d 2 [] [(5, vS p s c), (6, fv)] ?_
 obtain ⟨y, hy, hM⟩ := bind_some hM
 refine R_call (hs1 := hsF) (rest := []) rfl rfl rfl rfl (by kernel_rfl) rfl (List.append_nil _).symm (slices_IndexFunc_int_int_ok s f0 _ hy h h1) ?_
 rintro imm0 hs2 v2 k2 le - ⟨v0, rfl, rfl, rfl⟩ -
 refine R_hseq (hs' := hsF) (List.append_nil _) ?_
 replace hle := hle.trans le
 refine R_z [] [(4, .bool (decide (y ≥ 0)))] <| T_seq <| J_ret ?_
 obtain rfl := pure_some hM
 exact T_RS ⟨_, _, (.tmp rfl ResV.nil), (fun _ h => h), ⟨_, rfl, rfl, rfl⟩⟩
def impl_Step_list_post (r : (List Int)) : Nat → Imm → List HA → Value → Prop := fun kk imm' hs' v =>
  ∃ (v0 : Value), hs' = [] ∧ v = tupV [v0] ∧ SL imm' v0 r
def M.impl_Step_list (s : impl_Step) : Option ((List Int)) := do
 pure ([s.Part, s.A, s.B] : List Int)
theorem impl_Step_list_ok : ∀ (s : impl_Step) r, M.impl_Step_list s = some r → ∀ {imm : Imm} , Ret Tryd.prog 31 [vA [vI s.Kind, vI s.Part, vI s.A, vI s.B]] imm [] (impl_Step_list_post  r) := by
 intro s r hM imm
 unfold M.impl_Step_list at hM
 refine ret_of_J (fn := Tryd.f31) (c := (bodyOf Tryd.f31)) Tryd.func31 rfl rfl ?_
 rintro B - -
 have hle : imm.le imm := Imm.le.refl _
 refine J_seq <| J_region <| R_box (c := ⟨[vI s.Kind, vI s.Part, vI s.A, vI s.B]⟩) rfl rfl rfl rfl rfl ?_
 intro b hb
 refine R_z [] [] <| T_seq <| J_seq <| J_region <| R_d 6 [0, 0, 0] [(4, vI s.Part), (6, vI s.A), (8, vI s.B)] <| R_buildSlice (cs := [vI s.Part, vI s.A, vI s.B]) (Rp.sz Int) rfl rfl rfl rfl (by kernel_rfl) (by kernel_rfl) ?_
 intro b1 hb1
 have h : RL imm [vI s.Part, vI s.A, vI s.B] ([s.Part, s.A, s.B] : List Int) := ⟨[vI s.Part], _, rfl, rfl, rfl, ⟨[vI s.A], _, rfl, rfl, rfl, ⟨[vI s.B], _, rfl, rfl, rfl, rfl⟩⟩⟩
 refine R_z [] [(2, vS (some ⟨b1, 0, none⟩) ([s.Part, s.A, s.B] : List Int) 3)] <| T_seq <| J_ret <| T_freeze 0 rfl ?_
 intro imm0 le hl0
 have h1 := SL.of_frozen hl0 le h
 replace hle := hle.trans le
 obtain rfl := pure_some hM
 exact T_RS ⟨_, _, (.tmp rfl ResV.nil), good_none, ⟨_, rfl, rfl, h1⟩⟩
def impl_fields_post (r : Int) : Nat → Imm → List HA → Value → Prop := fun kk imm' hs' v =>
  ∃ (v0 : Value), hs' = [] ∧ v = tupV [v0] ∧ v0 = .int .i64 r
def M.impl_fields (kind : Int) : Option (Int) := do
 let t4 ← (do
   if (kind == 1) then
    pure (kind == 1)
   else
    let t41 ← (do
      if (kind == 2) then
       pure (kind == 2)
      else
       let t42 ← (do
         if (kind == 7) then
          pure (kind == 7)
         else
          pure (kind == 8)
           : Option Bool)
       pure (id t42)
        : Option Bool)
    pure (id t41)
     : Option Bool)
 if t4 then
  pure (id 2)
 else
  let t9 ← (do
    if (kind == 3) then
     pure (kind == 3)
    else
     let t91 ← (do
       if (kind == 4) then
        pure (kind == 4)
       else
        pure (kind == 5)
         : Option Bool)
     pure (id t91)
      : Option Bool)
  if t9 then
   pure (id 3)
  else
   let t13 ← (do
     if (kind == 6) then
      pure (kind == 6)
     else
      let t131 ← (do
        if (kind == 9) then
         pure (kind == 9)
        else
         pure (kind == 10)
          : Option Bool)
      pure (id t131)
       : Option Bool)
   if t13 then
    pure (id 1)
   else
    if (kind == 11) then
     pure (id 0)
    else
     pure (-1)
theorem impl_fields_ok : ∀ (kind : Int) r, M.impl_fields kind = some r → ∀ {imm : Imm} , Ret Tryd.prog 35 [vI kind] imm [] (impl_fields_post  r) := by
 intro kind r hM imm
 unfold M.impl_fields at hM
 refine ret_of_J (fn := Tryd.f35) (c := (bodyOf Tryd.f35)) Tryd.func35 rfl rfl ?_
 rintro B - -
 have hle : imm.le imm := Imm.le.refl _
 refine J_seq <| J_region <| R_z [] [] <| T_seq <| J_seq <| J_seq <| J_region <| R_z [] [(3, vI kind)] <| T_seq <| J_block <| J_seq <| J_seq <| J_region <| R_z [] [(4, .bool (kind == 1))] <| T_seq ?_
 obtain ⟨o0, ho0, hM⟩ := bind_some hM
 refine J_cut (fun imm' hs' m' => ∃ (t4 : Bool), o0 = t4 ∧ imm.le imm' ∧ hs' = [] ∧ m' = [(3, vI kind), (4, .bool t4)]) ?_ ?_
 · have hle0 := hle
   have hle : imm.le imm := Imm.le.refl _
   refine J_cd ho0 ?_ ?_
   · intro hc hM
     exact J_skip <| T_w [(3, vI kind), (4, .bool (kind == 1))] <| T_cut ⟨_, (pure_some hM).symm, hle, rfl, rfl⟩
   · intro hc hM
     refine J_seq <| J_region <| R_z [] [(4, .bool (kind == 2))] <| T_seq ?_
     obtain ⟨o01, ho01, hM⟩ := bind_some hM
     refine J_cut (fun imm' hs' m' => ∃ (t41 : Bool), o01 = t41 ∧ imm.le imm' ∧ hs' = [] ∧ m' = [(3, vI kind), (4, .bool t41)]) ?_ ?_
     · have hle0 := hle
       have hle : imm.le imm := Imm.le.refl _
       refine J_cd ho01 ?_ ?_
       · intro hc1 hM
         exact J_skip <| T_w [(3, vI kind), (4, .bool (kind == 2))] <| T_cut ⟨_, (pure_some hM).symm, hle, rfl, rfl⟩
       · intro hc1 hM
         refine J_seq <| J_region <| R_z [] [(4, .bool (kind == 7))] <| T_seq ?_
         obtain ⟨o02, ho02, hM⟩ := bind_some hM
         refine J_cut (fun imm' hs' m' => ∃ (t42 : Bool), o02 = t42 ∧ imm.le imm' ∧ hs' = [] ∧ m' = [(3, vI kind), (4, .bool t42)]) ?_ ?_
         · have hle0 := hle
           have hle : imm.le imm := Imm.le.refl _
           refine J_cd ho02 ?_ ?_
           · intro hc2 hM
             exact J_skip <| T_w [(3, vI kind), (4, .bool (kind == 7))] <| T_cut ⟨_, (pure_some hM).symm, hle, rfl, rfl⟩
           · intro hc2 hM
             exact J_region <| R_z [] [(4, .bool (kind == 8))] <| T_w [(3, vI kind), (4, .bool (kind == 8))] <| T_cut ⟨_, (pure_some hM).symm, hle, rfl, rfl⟩
         · rintro imm02 hs2 m2 ⟨t42, heq, le, rfl, rfl⟩
           subst o02
           replace hle := hle.trans le
           exact T_w [(3, vI kind), (4, .bool t42)] <| T_cut ⟨_, (pure_some hM).symm, hle, rfl, rfl⟩
     · rintro imm01 hs2 m2 ⟨t41, heq1, le1, rfl, rfl⟩
       subst o01
       replace hle := hle.trans le1
       exact T_w [(3, vI kind), (4, .bool t41)] <| T_cut ⟨_, (pure_some hM).symm, hle, rfl, rfl⟩
 · rintro imm0 hs2 m2 ⟨t4, heq2, le2, rfl, rfl⟩
   subst o0
   replace hle := hle.trans le2
   refine T_seq <| J_cd hM ?_ ?_
   · intro hc3 hM
     refine J_seq <| J_region <| R_z [] [(2, vI 2)] <| T_seq <| J_ret <| T_block_ret <| T_then_ret ?_
     obtain rfl := pure_some hM
     exact T_RS ⟨_, _, (.tmp rfl ResV.nil), good_none, ⟨_, rfl, rfl, rfl⟩⟩
   · intro hc3 hM
     refine J_seq <| J_seq <| J_region <| R_z [] [(9, .bool (kind == 3))] <| T_seq ?_
     obtain ⟨o03, ho03, hM⟩ := bind_some hM
     refine J_cut (fun imm' hs' m' => ∃ (t9 : Bool), o03 = t9 ∧ imm0.le imm' ∧ hs' = [] ∧ m' = [(3, vI kind), (9, .bool t9)]) ?_ ?_
     · have hle0 := hle
       have hle : imm0.le imm0 := Imm.le.refl _
       refine J_cd ho03 ?_ ?_
       · intro hc4 hM
         exact J_skip <| T_w [(3, vI kind), (9, .bool (kind == 3))] <| T_cut ⟨_, (pure_some hM).symm, hle, rfl, rfl⟩
       · intro hc4 hM
         refine J_seq <| J_region <| R_z [] [(9, .bool (kind == 4))] <| T_seq ?_
         obtain ⟨o04, ho04, hM⟩ := bind_some hM
         refine J_cut (fun imm' hs' m' => ∃ (t91 : Bool), o04 = t91 ∧ imm0.le imm' ∧ hs' = [] ∧ m' = [(3, vI kind), (9, .bool t91)]) ?_ ?_
         · have hle0 := hle
           have hle : imm0.le imm0 := Imm.le.refl _
           refine J_cd ho04 ?_ ?_
           · intro hc5 hM
             exact J_skip <| T_w [(3, vI kind), (9, .bool (kind == 4))] <| T_cut ⟨_, (pure_some hM).symm, hle, rfl, rfl⟩
           · intro hc5 hM
             exact J_region <| R_z [] [(9, .bool (kind == 5))] <| T_w [(3, vI kind), (9, .bool (kind == 5))] <| T_cut ⟨_, (pure_some hM).symm, hle, rfl, rfl⟩
         · rintro imm04 hs2 m2 ⟨t91, heq3, le3, rfl, rfl⟩
           subst o04
           replace hle := hle.trans le3
           exact T_w [(3, vI kind), (9, .bool t91)] <| T_cut ⟨_, (pure_some hM).symm, hle, rfl, rfl⟩
     · rintro imm03 hs2 m2 ⟨t9, heq4, le4, rfl, rfl⟩
       subst o03
       replace hle := hle.trans le4
       refine T_seq <| J_cd hM ?_ ?_
       · intro hc6 hM
         refine J_seq <| J_region <| R_z [] [(2, vI 3)] <| T_seq <| J_ret <| T_block_ret <| T_then_ret ?_
         obtain rfl := pure_some hM
         exact T_RS ⟨_, _, (.tmp rfl ResV.nil), good_none, ⟨_, rfl, rfl, rfl⟩⟩
       · intro hc6 hM
         refine J_seq <| J_seq <| J_region <| R_z [] [(13, .bool (kind == 6))] <| T_seq ?_
         obtain ⟨o05, ho05, hM⟩ := bind_some hM
         refine J_cut (fun imm' hs' m' => ∃ (t13 : Bool), o05 = t13 ∧ imm03.le imm' ∧ hs' = [] ∧ m' = [(3, vI kind), (13, .bool t13)]) ?_ ?_
         · have hle0 := hle
           have hle : imm03.le imm03 := Imm.le.refl _
           refine J_cd ho05 ?_ ?_
           · intro hc7 hM
             exact J_skip <| T_w [(3, vI kind), (13, .bool (kind == 6))] <| T_cut ⟨_, (pure_some hM).symm, hle, rfl, rfl⟩
           · intro hc7 hM
             refine J_seq <| J_region <| R_z [] [(13, .bool (kind == 9))] <| T_seq ?_
             obtain ⟨o06, ho06, hM⟩ := bind_some hM
             refine J_cut (fun imm' hs' m' => ∃ (t131 : Bool), o06 = t131 ∧ imm03.le imm' ∧ hs' = [] ∧ m' = [(3, vI kind), (13, .bool t131)]) ?_ ?_
             · have hle0 := hle
               have hle : imm03.le imm03 := Imm.le.refl _
               refine J_cd ho06 ?_ ?_
               · intro hc8 hM
                 exact J_skip <| T_w [(3, vI kind), (13, .bool (kind == 9))] <| T_cut ⟨_, (pure_some hM).symm, hle, rfl, rfl⟩
               · intro hc8 hM
                 exact J_region <| R_z [] [(13, .bool (kind == 10))] <| T_w [(3, vI kind), (13, .bool (kind == 10))] <| T_cut ⟨_, (pure_some hM).symm, hle, rfl, rfl⟩
             · rintro imm06 hs2 m2 ⟨t131, heq5, le5, rfl, rfl⟩
               subst o06
               replace hle := hle.trans le5
               exact T_w [(3, vI kind), (13, .bool t131)] <| T_cut ⟨_, (pure_some hM).symm, hle, rfl, rfl⟩
         · rintro imm05 hs2 m2 ⟨t13, heq6, le6, rfl, rfl⟩
           subst o05
           replace hle := hle.trans le6
           refine T_seq <| J_cd hM ?_ ?_
           · intro hc9 hM
             refine J_seq <| J_region <| R_z [] [(2, vI 1)] <| T_seq <| J_ret <| T_block_ret <| T_then_ret ?_
             obtain rfl := pure_some hM
             exact T_RS ⟨_, _, (.tmp rfl ResV.nil), good_none, ⟨_, rfl, rfl, rfl⟩⟩
           · intro hc9 hM
             refine J_seq <| J_region <| R_z [] [(17, .bool (kind == 11))] <| T_seq <| J_cd hM ?_ ?_
             · intro hc10 hM
               refine J_seq <| J_region <| R_z [] [(2, vI 0)] <| T_seq <| J_ret <| T_block_ret <| T_then_ret ?_
               obtain rfl := pure_some hM
               exact T_RS ⟨_, _, (.tmp rfl ResV.nil), good_none, ⟨_, rfl, rfl, rfl⟩⟩
             · intro hc10 hM
               refine J_skip <| T_block_normal <| T_seq <| J_seq <| J_region <| R_z [] [(2, vI (-1))] <| T_seq <| J_ret ?_
               obtain rfl := pure_some hM
               exact T_RS ⟨_, _, (.tmp rfl ResV.nil), good_none, ⟨_, rfl, rfl, rfl⟩⟩
def impl_isRight_1_post (r : Bool) : Nat → Imm → List HA → Value → Prop := fun kk imm' hs' v =>
  ∃ (v0 : Value), hs' = [] ∧ v = tupV [v0] ∧ v0 = .bool r
def M.impl_isRight_1 (v0 : Int) : Option (Bool) := do
 pure (v0 != 0)
theorem impl_isRight_1_ok : ∀ (v0 : Int) r, M.impl_isRight_1 v0 = some r → ∀ {imm : Imm} , Ret Tryd.prog 42 [vI v0] imm [] (impl_isRight_1_post  r) := by
 intro v0 r hM imm
 unfold M.impl_isRight_1 at hM
 refine ret_of_J (fn := Tryd.f42) (c := (bodyOf Tryd.f42)) Tryd.func42 rfl rfl ?_
 rintro B - -
 have hle : imm.le imm := Imm.le.refl _
 refine J_seq <| J_region <| R_z [] [] <| T_seq <| J_seq <| J_region <| R_z [] [(2, .bool (v0 != 0))] <| T_seq <| J_ret ?_
 obtain rfl := pure_some hM
 exact T_RS ⟨_, _, (.tmp rfl ResV.nil), good_none, ⟨_, rfl, rfl, rfl⟩⟩
def impl_isRight_post (r : Bool) : Nat → Imm → List HA → Value → Prop := fun kk imm' hs' v =>
  ∃ (v0 : Value), hs' = [] ∧ v = tupV [v0] ∧ v0 = .bool r
def M.impl_isRight (s : impl_Step) : Option (Bool) := do
 let y ← M.impl_fields s.Kind
 let t2 ← (do
   if (decide (y ≥ 0)) then
    let y1 ← M.impl_Step_list s
    let l ← slc y1 y (y1.length : Int)
    let y2 ← M.slices_ContainsFunc_int_int l M.impl_isRight_1
    pure (!y2)
   else
    pure false
     : Option Bool)
 pure (id t2)
theorem impl_isRight_ok : ∀ (s : impl_Step) r, M.impl_isRight s = some r → ∀ {imm : Imm} , Ret Tryd.prog 29 [vA [vI s.Kind, vI s.Part, vI s.A, vI s.B]] imm [] (impl_isRight_post  r) := by
 intro s r hM imm
 unfold M.impl_isRight at hM
 refine ret_of_J (fn := Tryd.f29) (c := (bodyOf Tryd.f29)) Tryd.func29 rfl rfl ?_
 rintro B - -
 have hle : imm.le imm := Imm.le.refl _
 refine J_seq <| J_region <| R_box (c := ⟨[vI s.Kind, vI s.Part, vI s.A, vI s.B]⟩) rfl rfl rfl rfl rfl ?_
 intro b hb
 refine R_z [] [] <| T_seq <| J_seq <| J_region <| R_d 2 [0] [(5, vI s.Kind)] ?_
 obtain ⟨y, hy, hM⟩ := bind_some hM
 refine R_call (hs1 := []) (rest := [hB b [vI s.Kind, vI s.Part, vI s.A, vI s.B]]) rfl rfl rfl rfl (by kernel_rfl) rfl rfl (impl_fields_ok s.Kind _ hy ) ?_
 rintro imm0 hs2 v2 k2 le - ⟨v0, rfl, rfl, rfl⟩ -
 replace hle := hle.trans le
 refine R_z [] [(3, vI y)] <| T_seq <| J_seq ?_
 obtain ⟨o0, ho0, hM⟩ := bind_some hM
 refine J_cut (fun imm' hs' m' => ∃ (t2 : Bool), o0 = t2 ∧ imm0.le imm' ∧ hs' = [] ∧ m' = [(2, .bool t2)]) ?_ ?_
 · have hle0 := hle
   have hle : imm0.le imm0 := Imm.le.refl _
   refine J_region <| R_d 3 [] [(9, .bool (decide (y ≥ 0)))] ?_
   cases hc : (decide (y ≥ 0)) with
   | true =>
    have hM0 := if_some_true hc ho0
    try rw [hc]
    refine R_d 4 [0] [(10, vA [vI s.Kind, vI s.Part, vI s.A, vI s.B])] ?_
    obtain ⟨y1, hy1, hM⟩ := bind_some hM0
    refine R_call (hs1 := []) (rest := [hB b [vI s.Kind, vI s.Part, vI s.A, vI s.B]]) rfl rfl rfl rfl (by kernel_rfl) rfl rfl (impl_Step_list_ok s _ hy1 ) ?_
    rintro imm02 hs2 v2 k2 le1 - ⟨v01, rfl, rfl, h1⟩ -
    replace hle := hle.trans le1
    obtain ⟨p, c, rfl⟩ := h1.form
    refine R_d 6 [] [(12, vI y)] ?_
    obtain ⟨l, hy2, hM⟩ := bind_some hM
    refine R_sl rfl h1 hy2 ?_
    intro v02 h2
    obtain ⟨p1, c1, rfl⟩ := h2.form
    have hf0 : FV1 Tryd.prog imm02 [] (.func (.func 42) ⟨[]⟩ ⟨[]⟩) M.impl_isRight_1 := by
      refine FV1.intro ?_
      intro imm1 le1 x0 r u0 hF k0
      obtain rfl := k0
      exact (impl_isRight_1_ok x0 r hF ).mono (by rintro k i hs u ⟨v0, rfl, rfl, h⟩; exact ⟨rfl, h⟩)
    obtain ⟨y2, hy3, hM⟩ := bind_some hM
    refine R_call (hs1 := []) (rest := [hB b [vI s.Kind, vI s.Part, vI s.A, vI s.B]]) rfl rfl rfl rfl (by kernel_rfl) rfl rfl (slices_ContainsFunc_int_int_ok l M.impl_isRight_1 _ hy3 h2 hf0) ?_
    rintro imm03 hs2 v2 k2 le2 - ⟨v03, rfl, rfl, rfl⟩ -
    replace hle := hle.trans le2
    exact R_z [] [(2, .bool (!y2))] <| T_hs (good_pick [] rfl (by decide)) <| T_w [(2, .bool (!y2))] <| T_cut ⟨_, (pure_some hM).symm, hle, rfl, rfl⟩
   | false =>
    have hM01 := if_some_false hc ho0
    try rw [hc]
    exact R_z [] [(2, .bool false)] <| T_hs (good_pick [] rfl (by decide)) <| T_w [(2, .bool false)] <| T_cut ⟨_, (pure_some hM01).symm, hle, rfl, rfl⟩
 · rintro imm01 hs2 m2 ⟨t2, heq, le3, rfl, rfl⟩
   subst o0
   replace hle := hle.trans le3
   refine T_seq <| J_ret ?_
   obtain rfl := pure_some hM
   exact T_RS ⟨_, _, (.tmp rfl ResV.nil), good_none, ⟨_, rfl, rfl, rfl⟩⟩
def impl_within_post (r : Bool) : Nat → Imm → List HA → Value → Prop := fun kk imm' hs' v =>
  ∃ (v0 : Value), hs' = [] ∧ v = tupV [v0] ∧ v0 = .bool r
def M.impl_within (n0 : Int) (low : Int) (high : Int) : Option (Bool) := do
 let t6 ← (do
   if (decide (low ≤ n0)) then
    pure (decide (n0 ≤ high))
   else
    pure false
     : Option Bool)
 pure (id t6)
theorem impl_within_ok : ∀ (n0 : Int) (low : Int) (high : Int) r, M.impl_within n0 low high = some r → ∀ {imm : Imm} , Ret Tryd.prog 44 [vI n0, vI low, vI high] imm [] (impl_within_post  r) := by
 intro n0 low high r hM imm
 unfold M.impl_within at hM
 refine ret_of_J (fn := Tryd.f44) (c := (bodyOf Tryd.f44)) Tryd.func44 rfl rfl ?_
 rintro B - -
 have hle : imm.le imm := Imm.le.refl _
 refine J_seq <| J_region <| R_z [] [] <| T_seq <| J_seq ?_
 obtain ⟨o0, ho0, hM⟩ := bind_some hM
 refine J_cut (fun imm' hs' m' => ∃ (t6 : Bool), o0 = t6 ∧ imm.le imm' ∧ hs' = [] ∧ m' = [(6, .bool t6)]) ?_ ?_
 · have hle0 := hle
   have hle : imm.le imm := Imm.le.refl _
   refine J_region <| R_d 4 [] [(10, .bool (decide (low ≤ n0)))] ?_
   cases hc : (decide (low ≤ n0)) with
   | true =>
    have hM0 := if_some_true hc ho0
    try rw [hc]
    exact R_z [] [(6, .bool (decide (n0 ≤ high)))] <| T_w [(6, .bool (decide (n0 ≤ high)))] <| T_cut ⟨_, (pure_some hM0).symm, hle, rfl, rfl⟩
   | false =>
    have hM01 := if_some_false hc ho0
    try rw [hc]
    exact R_z [] [(6, .bool false)] <| T_w [(6, .bool false)] <| T_cut ⟨_, (pure_some hM01).symm, hle, rfl, rfl⟩
 · rintro imm0 hs2 m2 ⟨t6, heq, le, rfl, rfl⟩
   subst o0
   replace hle := hle.trans le
   refine T_seq <| J_ret ?_
   obtain rfl := pure_some hM
   exact T_RS ⟨_, _, (.tmp rfl ResV.nil), good_none, ⟨_, rfl, rfl, rfl⟩⟩
def impl_isConst_post (r : Bool) : Nat → Imm → List HA → Value → Prop := fun kk imm' hs' v =>
  ∃ (v0 : Value), hs' = [] ∧ v = tupV [v0] ∧ v0 = .bool r
def M.impl_isConst (n0 : Int) : Option (Bool) := do
 let y ← M.impl_within n0 (-99) 99
 pure (id y)
theorem impl_isConst_ok : ∀ (n0 : Int) r, M.impl_isConst n0 = some r → ∀ {imm : Imm} , Ret Tryd.prog 33 [vI n0] imm [] (impl_isConst_post  r) := by
 intro n0 r hM imm
 unfold M.impl_isConst at hM
 refine ret_of_J (fn := Tryd.f33) (c := (bodyOf Tryd.f33)) Tryd.func33 rfl rfl ?_
 rintro B - -
 have hle : imm.le imm := Imm.le.refl _
 refine J_seq <| J_region <| R_z [] [] <| T_seq <| J_seq <| J_region <| R_d 1 [] [(3, vI n0)] ?_
 obtain ⟨y, hy, hM⟩ := bind_some hM
 refine R_call (hs1 := []) (rest := []) rfl rfl rfl rfl (by kernel_rfl) rfl rfl (impl_within_ok n0 (-99) 99 _ hy ) ?_
 rintro imm0 hs2 v2 k2 le - ⟨v0, rfl, rfl, rfl⟩ -
 replace hle := hle.trans le
 refine R_z [] [(2, .bool y)] <| T_seq <| J_ret ?_
 obtain rfl := pure_some hM
 exact T_RS ⟨_, _, (.tmp rfl ResV.nil), good_none, ⟨_, rfl, rfl, rfl⟩⟩
def impl_hasText_1_post (r : Bool) : Nat → Imm → List HA → Value → Prop := fun kk imm' hs' v =>
  ∃ (v0 : Value), hs' = [] ∧ v = tupV [v0] ∧ v0 = .bool r
def M.impl_hasText_1 (n0 : Int) : Option (Bool) := do
 let y ← M.impl_isConst n0
 pure (!y)
theorem impl_hasText_1_ok : ∀ (n0 : Int) r, M.impl_hasText_1 n0 = some r → ∀ {imm : Imm} , Ret Tryd.prog 32 [vI n0] imm [] (impl_hasText_1_post  r) := by
 intro n0 r hM imm
 unfold M.impl_hasText_1 at hM
 refine ret_of_J (fn := Tryd.f32) (c := (bodyOf Tryd.f32)) Tryd.func32 rfl rfl ?_
 rintro B - -
 have hle : imm.le imm := Imm.le.refl _
 refine J_seq <| J_region <| R_z [] [] <| T_seq <| J_seq <| J_region <| R_d 1 [] [(3, vI n0)] ?_
 obtain ⟨y, hy, hM⟩ := bind_some hM
 refine R_call (hs1 := []) (rest := []) rfl rfl rfl rfl (by kernel_rfl) rfl rfl (impl_isConst_ok n0 _ hy ) ?_
 rintro imm0 hs2 v2 k2 le - ⟨v0, rfl, rfl, rfl⟩ -
 replace hle := hle.trans le
 refine R_z [] [(2, .bool (!y))] <| T_seq <| J_ret ?_
 obtain rfl := pure_some hM
 exact T_RS ⟨_, _, (.tmp rfl ResV.nil), good_none, ⟨_, rfl, rfl, rfl⟩⟩
def impl_hasText_post (r : Bool) : Nat → Imm → List HA → Value → Prop := fun kk imm' hs' v =>
  ∃ (v0 : Value), hs' = [] ∧ v = tupV [v0] ∧ v0 = .bool r
def M.impl_hasText (s : impl_Step) : Option (Bool) := do
 let t2 ← (do
   let y ← M.impl_isRight s
   if y then
    let y1 ← M.impl_Step_list s
    let y2 ← M.slices_ContainsFunc_int_int y1 M.impl_hasText_1
    pure (!y2)
   else
    pure false
     : Option Bool)
 pure (id t2)
theorem impl_hasText_ok : ∀ (s : impl_Step) r, M.impl_hasText s = some r → ∀ {imm : Imm} , Ret Tryd.prog 20 [vA [vI s.Kind, vI s.Part, vI s.A, vI s.B]] imm [] (impl_hasText_post  r) := by
 intro s r hM imm
 unfold M.impl_hasText at hM
 refine ret_of_J (fn := Tryd.f20) (c := (bodyOf Tryd.f20)) Tryd.func20 rfl rfl ?_
 rintro B - -
 have hle : imm.le imm := Imm.le.refl _
 refine J_seq <| J_region <| R_box (c := ⟨[vI s.Kind, vI s.Part, vI s.A, vI s.B]⟩) rfl rfl rfl rfl rfl ?_
 intro b hb
 refine R_z [] [] <| T_seq <| J_seq ?_
 obtain ⟨o0, ho0, hM⟩ := bind_some hM
 refine J_cut (fun imm' hs' m' => ∃ (t2 : Bool), o0 = t2 ∧ imm.le imm' ∧ hs' = [] ∧ m' = [(2, .bool t2)]) ?_ ?_
 · have hle0 := hle
   have hle : imm.le imm := Imm.le.refl _
   refine J_region <| R_d 1 [0] [(3, vA [vI s.Kind, vI s.Part, vI s.A, vI s.B])] ?_
   obtain ⟨y, hy, hM⟩ := bind_some ho0
   refine R_call (hs1 := []) (rest := [hB b [vI s.Kind, vI s.Part, vI s.A, vI s.B]]) rfl rfl rfl rfl (by kernel_rfl) rfl rfl (impl_isRight_ok s _ hy ) ?_
   rintro imm01 hs2 v2 k2 le - ⟨v0, rfl, rfl, rfl⟩ -
   replace hle := hle.trans le
   refine R_d 3 [] [(5, .bool y)] ?_
   cases hc : y with
   | true =>
    have hM0 := if_some_true hc hM
    try rw [hc]
    refine R_d 4 [0] [(6, vA [vI s.Kind, vI s.Part, vI s.A, vI s.B])] ?_
    obtain ⟨y1, hy1, hM⟩ := bind_some hM0
    refine R_call (hs1 := []) (rest := [hB b [vI s.Kind, vI s.Part, vI s.A, vI s.B]]) rfl rfl rfl rfl (by kernel_rfl) rfl rfl (impl_Step_list_ok s _ hy1 ) ?_
    rintro imm02 hs2 v2 k2 le1 - ⟨v01, rfl, rfl, h1⟩ -
    replace hle := hle.trans le1
    obtain ⟨p, c, rfl⟩ := h1.form
    have hf0 : FV1 Tryd.prog imm02 [] (.func (.func 32) ⟨[]⟩ ⟨[]⟩) M.impl_hasText_1 := by
      refine FV1.intro ?_
      intro imm1 le1 x0 r u0 hF k0
      obtain rfl := k0
      exact (impl_hasText_1_ok x0 r hF ).mono (by rintro k i hs u ⟨v0, rfl, rfl, h⟩; exact ⟨rfl, h⟩)
    obtain ⟨y2, hy2, hM⟩ := bind_some hM
    refine R_call (hs1 := []) (rest := [hB b [vI s.Kind, vI s.Part, vI s.A, vI s.B]]) rfl rfl rfl rfl (by kernel_rfl) rfl rfl (slices_ContainsFunc_int_int_ok y1 M.impl_hasText_1 _ hy2 h1 hf0) ?_
    rintro imm03 hs2 v2 k2 le2 - ⟨v02, rfl, rfl, rfl⟩ -
    replace hle := hle.trans le2
    exact R_z [] [(2, .bool (!y2))] <| T_hs (good_pick [] rfl (by decide)) <| T_w [(2, .bool (!y2))] <| T_cut ⟨_, (pure_some hM).symm, hle, rfl, rfl⟩
   | false =>
    have hM01 := if_some_false hc hM
    try rw [hc]
    exact R_z [] [(2, .bool false)] <| T_hs (good_pick [] rfl (by decide)) <| T_w [(2, .bool false)] <| T_cut ⟨_, (pure_some hM01).symm, hle, rfl, rfl⟩
 · rintro imm0 hs2 m2 ⟨t2, heq, le3, rfl, rfl⟩
   subst o0
   replace hle := hle.trans le3
   refine T_seq <| J_ret ?_
   obtain rfl := pure_some hM
   exact T_RS ⟨_, _, (.tmp rfl ResV.nil), good_none, ⟨_, rfl, rfl, rfl⟩⟩
def impl_stepWords_post (r : (List Str)) : Nat → Imm → List HA → Value → Prop := fun kk imm' hs' v =>
  ∃ (v0 : Value), hs' = [] ∧ v = tupV [v0] ∧ SL imm' v0 r
def M.impl_stepWords  : Option ((List Str)) := do
 pure ([(⟨[105, 110, 116, 101, 114, 99, 104, 97, 110, 103, 101]⟩ : Str), (⟨[114, 101, 118, 101, 114, 115, 101]⟩ : Str), (⟨[115, 107, 101, 119]⟩ : Str), (⟨[115, 104, 105, 102, 116]⟩ : Str), (⟨[115, 116, 114, 105, 112]⟩ : Str), (⟨[102, 117, 115, 101]⟩ : Str), (⟨[100, 105, 115, 116, 114, 105, 98, 117, 116, 101]⟩ : Str), (⟨[115, 112, 108, 105, 116]⟩ : Str), (⟨[115, 119, 97, 112]⟩ : Str), (⟨[100, 114, 111, 112]⟩ : Str), (⟨[102, 111, 108, 100]⟩ : Str)] : List Str)
theorem impl_stepWords_ok : ∀ r, M.impl_stepWords  = some r → ∀ {imm : Imm} , Ret Tryd.prog 34 [] imm [] (impl_stepWords_post  r) := by
 intro  r hM imm
 unfold M.impl_stepWords at hM
 refine ret_of_J (fn := Tryd.f34) (c := (bodyOf Tryd.f34)) Tryd.func34 rfl rfl ?_
 rintro B - -
 have hle : imm.le imm := Imm.le.refl _
 refine J_seq <| J_region <| R_z [] [] <| T_seq <| J_seq <| J_region <| R_buildSlice (cs := [vT ([105, 110, 116, 101, 114, 99, 104, 97, 110, 103, 101]), vT ([114, 101, 118, 101, 114, 115, 101]), vT ([115, 107, 101, 119]), vT ([115, 104, 105, 102, 116]), vT ([115, 116, 114, 105, 112]), vT ([102, 117, 115, 101]), vT ([100, 105, 115, 116, 114, 105, 98, 117, 116, 101]), vT ([115, 112, 108, 105, 116]), vT ([115, 119, 97, 112]), vT ([100, 114, 111, 112]), vT ([102, 111, 108, 100])]) (Rp.sz Str) rfl rfl rfl rfl (by kernel_rfl) (by kernel_rfl) ?_
 intro b hb
 have h : RL imm [vT ([105, 110, 116, 101, 114, 99, 104, 97, 110, 103, 101]), vT ([114, 101, 118, 101, 114, 115, 101]), vT ([115, 107, 101, 119]), vT ([115, 104, 105, 102, 116]), vT ([115, 116, 114, 105, 112]), vT ([102, 117, 115, 101]), vT ([100, 105, 115, 116, 114, 105, 98, 117, 116, 101]), vT ([115, 112, 108, 105, 116]), vT ([115, 119, 97, 112]), vT ([100, 114, 111, 112]), vT ([102, 111, 108, 100])] ([(⟨[105, 110, 116, 101, 114, 99, 104, 97, 110, 103, 101]⟩ : Str), (⟨[114, 101, 118, 101, 114, 115, 101]⟩ : Str), (⟨[115, 107, 101, 119]⟩ : Str), (⟨[115, 104, 105, 102, 116]⟩ : Str), (⟨[115, 116, 114, 105, 112]⟩ : Str), (⟨[102, 117, 115, 101]⟩ : Str), (⟨[100, 105, 115, 116, 114, 105, 98, 117, 116, 101]⟩ : Str), (⟨[115, 112, 108, 105, 116]⟩ : Str), (⟨[115, 119, 97, 112]⟩ : Str), (⟨[100, 114, 111, 112]⟩ : Str), (⟨[102, 111, 108, 100]⟩ : Str)] : List Str) := ⟨[vT ([105, 110, 116, 101, 114, 99, 104, 97, 110, 103, 101])], _, rfl, rfl, rfl, ⟨[vT ([114, 101, 118, 101, 114, 115, 101])], _, rfl, rfl, rfl, ⟨[vT ([115, 107, 101, 119])], _, rfl, rfl, rfl, ⟨[vT ([115, 104, 105, 102, 116])], _, rfl, rfl, rfl, ⟨[vT ([115, 116, 114, 105, 112])], _, rfl, rfl, rfl, ⟨[vT ([102, 117, 115, 101])], _, rfl, rfl, rfl, ⟨[vT ([100, 105, 115, 116, 114, 105, 98, 117, 116, 101])], _, rfl, rfl, rfl, ⟨[vT ([115, 112, 108, 105, 116])], _, rfl, rfl, rfl, ⟨[vT ([115, 119, 97, 112])], _, rfl, rfl, rfl, ⟨[vT ([100, 114, 111, 112])], _, rfl, rfl, rfl, ⟨[vT ([102, 111, 108, 100])], _, rfl, rfl, rfl, rfl⟩⟩⟩⟩⟩⟩⟩⟩⟩⟩⟩
 refine R_z [] [(0, vS (some ⟨b, 0, none⟩) ([(⟨[105, 110, 116, 101, 114, 99, 104, 97, 110, 103, 101]⟩ : Str), (⟨[114, 101, 118, 101, 114, 115, 101]⟩ : Str), (⟨[115, 107, 101, 119]⟩ : Str), (⟨[115, 104, 105, 102, 116]⟩ : Str), (⟨[115, 116, 114, 105, 112]⟩ : Str), (⟨[102, 117, 115, 101]⟩ : Str), (⟨[100, 105, 115, 116, 114, 105, 98, 117, 116, 101]⟩ : Str), (⟨[115, 112, 108, 105, 116]⟩ : Str), (⟨[115, 119, 97, 112]⟩ : Str), (⟨[100, 114, 111, 112]⟩ : Str), (⟨[102, 111, 108, 100]⟩ : Str)] : List Str) 11)] <| T_seq <| J_ret <| T_freeze 0 rfl ?_
 intro imm0 le hl0
 have h1 := SL.of_frozen hl0 le h
 replace hle := hle.trans le
 obtain rfl := pure_some hM
 exact T_RS ⟨_, _, (.tmp rfl ResV.nil), good_none, ⟨_, rfl, rfl, h1⟩⟩
def strconv_Itoa_post (r : Str) : Nat → Imm → List HA → Value → Prop := fun kk imm' hs' v =>
  ∃ (v0 : Value), hs' = [] ∧ v = tupV [v0] ∧ v0 = .string ⟨⟨r.l⟩⟩
def M.strconv_Itoa (i : Int) : Option Str := if -9223372036854775808 ≤ i ∧ i ≤ 9223372036854775807 then some ⟨Lib.itoa i⟩ else none
theorem strconv_Itoa_ok : ∀ (i : Int) r, M.strconv_Itoa i = some r → ∀ {imm : Imm}, GH Tryd.prog imm → Ret Tryd.prog 36 [vI i] imm [] (strconv_Itoa_post r) := by
 intro i r hM imm hG
 unfold M.strconv_Itoa at hM
 split at hM
 · rename_i hi
   cases hM
   exact ret_lib (fun w g => Tryd.strconv_Itoa i hi.1 hi.2 w (hG.tab g)) (fun k => ⟨_, rfl, rfl, rfl⟩)
 · cases hM
def impl_stepText_post (r : Str) : Nat → Imm → List HA → Value → Prop := fun kk imm' hs' v =>
  ∃ (v0 : Value), hs' = [] ∧ v = tupV [v0] ∧ v0 = .string ⟨⟨r.l⟩⟩
def M.impl_stepText_l1 (l : List Int) (out : Str) (t19 : Int) : Option (Str) := do
 if (decide (t19 < (l.length : Int))) then
  let x1 ← idx l t19
  let y3 ← M.strconv_Itoa x1
  let s1 ← cat (⟨[32]⟩ : Str) y3
  let s2 ← cat out s1
  M.impl_stepText_l1 l s2 (W (t19 + 1))
 else
  pure (id out)
 partial_fixpoint
theorem impl_stepText_l1_ok (l : List Int) : ∀ (out : Str) (t19 : Int) (o : Str), M.impl_stepText_l1 l out t19 = some o → ∀ {B : Base} {imm0 imm : Imm} {Q : Exit → Act → World → Prop}  {p2 : Option Addr} {c2 : Nat}, imm0.le imm → (SL imm (vS p2 l c2) l) → (GH Tryd.prog imm) → (∀ l a w, ¬ Q (.goto l) a w) → (∀ a w, ¬ Q .outgrown a w) → (∀ (imm' : Imm) (out1 : Str), o = out1 → imm0.le imm' → T 30 B Q (.exit 0) imm' [] [(3, vT out1.l)]) → J Tryd.prog 30 B (nav (bodyOf Tryd.f21) [1, 1, 0, 1, 0]) Q imm [] [(3, vT out.l), (17, vS p2 l c2), (18, vI (l.length : Int)), (19, vI t19)] := by
 refine M.impl_stepText_l1.partial_correctness l _ ?_
 intro self ih out t19 o hM B imm0 imm Q p2 c2 hle h3 hG hg ho hx
 refine J_loop hg ho <| J_seq <| J_region <| R_z [] [(20, .bool (decide (t19 < (l.length : Int))))] <| T_seq <| J_seq <| J_cd hM ?_ ?_
 · intro hc hM
   refine J_skip <| T_seq <| J_seq <| J_block <| J_seq <| J_region ?_
   obtain ⟨x1, hy5, hM⟩ := bind_some hM
   refine R_ix rfl rfl h3 hy5 ?_
   intro ad1 ccs1 hat1 hrep1
   obtain rfl := hrep1
   refine R_la 0 hat1 [vI x1] (vI x1) rfl <| R_z [] [(5, vI x1)] <| T_seq <| J_region <| R_d 2 [] [(23, vT out.l), (24, vI x1)] ?_
   obtain ⟨y3, hy6, hM⟩ := bind_some hM
   refine R_call (hs1 := []) (rest := []) rfl rfl rfl rfl (by kernel_rfl) rfl rfl (strconv_Itoa_ok x1 _ hy6 hG) ?_
   rintro imm05 hs2 v2 k2 le5 - ⟨v04, rfl, rfl, rfl⟩ -
   replace h3 := h3.mono le5
   replace hG := hG.mono le5
   replace hle := hle.trans le5
   obtain ⟨s1, hy7, hM⟩ := bind_some hM
   refine R_ca rfl hy7 ?_
   obtain ⟨s2, hy8, hM⟩ := bind_some hM
   exact R_ca rfl hy8 <| R_z [] [(3, vT s2.l)] <| T_block_normal <| T_seq <| J_region <| R_z [] [(19, vI (W (t19 + 1)))] <| T_loop <| J_w [(3, vT s2.l), (17, vS p2 l c2), (18, vI (l.length : Int)), (19, vI (W (t19 + 1)))] <| ih s2 (W (t19 + 1)) _ hM hle h3 hG hg ho hx
 · intro hc hM
   exact J_exit <| T_then_exit <| T_then_exit <| T_w [(3, vT out.l)] <| hx _ _ (pure_some hM).symm hle
def M.impl_stepText (s : impl_Step) : Option (Str) := do
 let y ← M.impl_stepWords
 let x ← idx y (W (s.Kind - 1))
 let y1 ← M.impl_Step_list s
 let y2 ← M.impl_fields s.Kind
 let l ← slc y1 0 y2
 let out1 ← M.impl_stepText_l1 l x 0
 pure (id out1)
theorem impl_stepText_ok : ∀ (s : impl_Step) r, M.impl_stepText s = some r → ∀ {imm : Imm} , (GH Tryd.prog imm) → Ret Tryd.prog 21 [vA [vI s.Kind, vI s.Part, vI s.A, vI s.B]] imm [] (impl_stepText_post  r) := by
 intro s r hM imm  hG
 unfold M.impl_stepText at hM
 refine ret_of_J (fn := Tryd.f21) (c := (bodyOf Tryd.f21)) Tryd.func21 rfl rfl ?_
 rintro B - -
 have hle : imm.le imm := Imm.le.refl _
 refine J_seq <| J_region <| R_box (c := ⟨[vI s.Kind, vI s.Part, vI s.A, vI s.B]⟩) rfl rfl rfl rfl rfl ?_
 intro b hb
 refine R_z [] [] <| T_seq <| J_seq ?_
 obtain ⟨y, hy, hM⟩ := bind_some hM
 obtain ⟨x, hy1, hM⟩ := bind_some hM
 refine J_any [.x (fun imm' v hx => ∃ (p : Option Addr) (c : Nat), v = vS p y c ∧ hx = [] ∧ (SL imm' (vS p y c) y)), .p (vP b 0) [], .p (vI s.Kind) [0], .p (vI (W (s.Kind - 1))) [], .x (fun imm' v hx => ∃ (ad : Addr), v = .pointer (some ad) ∧ hx = [] ∧ (At imm' ad [vT x.l])), .q (vT x.l)] [[], [], [(1, false)], [(2, false)], [(0, false), (3, false)], [(4, false)]] [hB b [vI s.Kind, vI s.Part, vI s.A, vI s.B]] [] [(5, false)] (good_pick [0] rfl (by decide)) ?_ ?_
 · refine Ox ?_ <| Op <| Op <| Op <| Ox ?_ <| Oq ?_ <| On
   · intro imm1 hf le1
     refine Ins_nil <| R_isw (hB b [vI s.Kind, vI s.Part, vI s.A, vI s.B] :: hf) [] ?_
     have hle := Imm.le.refl imm1
     replace hG := hG.mono le1
     refine R_call (hs1 := []) (rest := (hB b [vI s.Kind, vI s.Part, vI s.A, vI s.B] :: hf)) rfl rfl rfl rfl (by kernel_rfl) rfl rfl (impl_stepWords_ok  _ hy ) ?_
     rintro imm0 hs2 v2 k2 le - ⟨v0, rfl, rfl, h⟩ -
     replace hG := hG.mono le
     replace hle := hle.trans le
     obtain ⟨p, c, rfl⟩ := h.form
     exact R_out (hx := []) rfl hle rfl (out_some rfl) ⟨_, _, rfl, rfl, h⟩
   · intro imm1 hf le1
     refine Ins_cons ?_
     rintro _ _ ⟨p, c, rfl, rfl, h⟩
     refine Ins_cons ?_
     rintro _ _ ⟨rfl, rfl⟩
     refine Ins_nil <| R_isw (hB b [vI s.Kind, vI s.Part, vI s.A, vI s.B] :: hf) [(6, vS p y c), (9, vI (W (s.Kind - 1)))] ?_
     have hle := Imm.le.refl imm1
     refine R_ix rfl rfl h hy1 ?_
     intro ad ccs hat hrep
     obtain rfl := hrep
     exact R_out (hx := []) rfl hle rfl (out_some rfl) ⟨_, rfl, rfl, hat⟩
   · intro imm1 hf le1
     refine Ins_cons ?_
     rintro _ _ ⟨ad, rfl, rfl, hat⟩
     refine Ins_nil <| R_isw (hB b [vI s.Kind, vI s.Part, vI s.A, vI s.B] :: hf) [(10, .pointer (some ad))] ?_
     have hle := Imm.le.refl imm1
     exact R_la 0 hat [vT x.l] (vT x.l) rfl <| R_out (hx := []) rfl hle rfl (out_some rfl) ⟨rfl, rfl⟩
 · intro imm01 le1
   refine Ins_cons ?_
   rintro _ _ ⟨rfl, rfl⟩
   refine Ins_nil <| R_isw [hB b [vI s.Kind, vI s.Part, vI s.A, vI s.B]] [(1, vP b 0), (11, vT x.l)] ?_
   replace hG := hG.mono le1
   replace hle := hle.trans le1
   refine R_z [] [(3, vT x.l)] <| T_seq <| J_seq <| J_seq ?_
   obtain ⟨y1, hy2, hM⟩ := bind_some hM
   obtain ⟨y2, hy3, hM⟩ := bind_some hM
   obtain ⟨l, hy4, hM⟩ := bind_some hM
   refine J_any [.p (vA [vI s.Kind, vI s.Part, vI s.A, vI s.B]) [0], .x (fun imm' v hx => ∃ (p1 : Option Addr) (c1 : Nat), v = vS p1 y1 c1 ∧ hx = [] ∧ (SL imm' (vS p1 y1 c1) y1)), .p (vP b 0) [], .p (vI s.Kind) [0], .q (vI y2), .x (fun imm' v hx => ∃ (p2 : Option Addr) (c2 : Nat), v = vS p2 l c2 ∧ hx = [] ∧ (SL imm' (vS p2 l c2) l)), .q (vI (l.length : Int)), .p (vI 0) []] [[], [(0, false)], [], [(2, false)], [(3, false)], [(1, false), (4, false)], [(5, false)], []] [hB b [vI s.Kind, vI s.Part, vI s.A, vI s.B]] [] [(5, false), (6, false), (7, false)] (good_pick [0] rfl (by decide)) ?_ ?_
   · refine Op <| Ox ?_ <| Op <| Op <| Oq ?_ <| Ox ?_ <| Oq ?_ <| Op <| On
     · intro imm1 hf le1
       refine Ins_cons ?_
       rintro _ _ ⟨rfl, rfl⟩
       refine Ins_nil <| R_isw (hB b [vI s.Kind, vI s.Part, vI s.A, vI s.B] :: hf) [(12, vA [vI s.Kind, vI s.Part, vI s.A, vI s.B])] ?_
       have hle := Imm.le.refl imm1
       replace hG := hG.mono le1
       refine R_call (hs1 := []) (rest := (hB b [vI s.Kind, vI s.Part, vI s.A, vI s.B] :: hf)) rfl rfl rfl rfl (by kernel_rfl) rfl rfl (impl_Step_list_ok s _ hy2 ) ?_
       rintro imm02 hs2 v2 k2 le2 - ⟨v01, rfl, rfl, h1⟩ -
       replace hG := hG.mono le2
       replace hle := hle.trans le2
       obtain ⟨p1, c1, rfl⟩ := h1.form
       exact R_out (hx := []) rfl hle rfl (out_some rfl) ⟨_, _, rfl, rfl, h1⟩
     · intro imm1 hf le1
       refine Ins_cons ?_
       rintro _ _ ⟨rfl, rfl⟩
       refine Ins_nil <| R_isw (hB b [vI s.Kind, vI s.Part, vI s.A, vI s.B] :: hf) [(15, vI s.Kind)] ?_
       have hle := Imm.le.refl imm1
       replace hG := hG.mono le1
       refine R_call (hs1 := []) (rest := (hB b [vI s.Kind, vI s.Part, vI s.A, vI s.B] :: hf)) rfl rfl rfl rfl (by kernel_rfl) rfl rfl (impl_fields_ok s.Kind _ hy3 ) ?_
       rintro imm03 hs2 v2 k2 le3 - ⟨v02, rfl, rfl, rfl⟩ -
       replace hG := hG.mono le3
       replace hle := hle.trans le3
       exact R_out (hx := []) rfl hle rfl (out_some rfl) ⟨rfl, rfl⟩
     · intro imm1 hf le1
       refine Ins_cons ?_
       rintro _ _ ⟨p1, c1, rfl, rfl, h1⟩
       refine Ins_cons ?_
       rintro _ _ ⟨rfl, rfl⟩
       refine Ins_nil <| R_isw (hB b [vI s.Kind, vI s.Part, vI s.A, vI s.B] :: hf) [(13, vS p1 y1 c1), (16, vI y2)] ?_
       have hle := Imm.le.refl imm1
       refine R_sl rfl h1 hy4 ?_
       intro v03 h3
       obtain ⟨p2, c2, rfl⟩ := h3.form
       exact R_out (hx := []) rfl hle rfl (out_some rfl) ⟨_, _, rfl, rfl, h3⟩
     · intro imm1 hf le1
       refine Ins_cons ?_
       rintro _ _ ⟨p2, c2, rfl, rfl, h3⟩
       refine Ins_nil <| R_isw (hB b [vI s.Kind, vI s.Part, vI s.A, vI s.B] :: hf) [(17, vS p2 l c2)] ?_
       have hle := Imm.le.refl imm1
       exact R_p 7 [(18, vI (l.length : Int))] <| R_out (hx := []) rfl hle rfl (out_some rfl) ⟨rfl, rfl⟩
   · intro imm04 le4
     refine Ins_cons ?_
     rintro _ _ ⟨p2, c2, rfl, rfl, h3⟩
     refine Ins_cons ?_
     rintro _ _ ⟨rfl, rfl⟩
     refine Ins_cons ?_
     rintro _ _ ⟨rfl, rfl⟩
     refine Ins_nil <| R_isw [hB b [vI s.Kind, vI s.Part, vI s.A, vI s.B]] [(3, vT x.l), (17, vS p2 l c2), (18, vI (l.length : Int)), (19, vI 0)] ?_
     replace hG := hG.mono le4
     replace hle := hle.trans le4
     refine R_end rfl <| T_seq <| J_block <| J_hs (good_pick [] (hs' := []) rfl (by decide)) <| J_w [(3, vT x.l), (17, vS p2 l c2), (18, vI (l.length : Int)), (19, vI 0)] ?_
     obtain ⟨o0, ho0, hM⟩ := bind_some hM
     refine impl_stepText_l1_ok l x 0 o0 ho0 (Imm.le.refl _) h3 hG (fun _ _ _ h => h) (fun _ _ h => h) ?_
     intro imm06 out1 heq le6
     subst o0
     replace hG := hG.mono le6
     replace hle := hle.trans le6
     refine T_block_here <| T_seq <| J_seq <| J_region <| R_z [] [(2, vT out1.l)] <| T_seq <| J_ret ?_
     obtain rfl := pure_some hM
     exact T_RS ⟨_, _, (.tmp rfl ResV.nil), good_none, ⟨_, rfl, rfl, rfl⟩⟩
def slices_Index_string_string_post (r : Int) : Nat → Imm → List HA → Value → Prop := fun kk imm' hs' v =>
  ∃ (v0 : Value), hs' = [] ∧ v = tupV [v0] ∧ v0 = .int .i64 r
def M.slices_Index_string_string_l1 (s : (List Str)) (v0 : Str) (t8 : Int) : Option (Out Unit (Int)) := do
 if (decide (t8 < (s.length : Int))) then
  let x ← idx s t8
  if (v0.l == x.l) then
   pure (.ret t8)
  else
   M.slices_Index_string_string_l1 s v0 (W (t8 + 1))
 else
  pure (.done ())
 partial_fixpoint
theorem slices_Index_string_string_l1_ok (s : (List Str)) (v0 : Str) : ∀ (t8 : Int) (o : Out Unit (Int)), M.slices_Index_string_string_l1 s v0 t8 = some o → ∀ {B : Base} {imm0 imm : Imm} {Q : Exit → Act → World → Prop}  {p : Option Addr} {c : Nat}, imm0.le imm → (SL imm (vS p s c) s) → (∀ l a w, ¬ Q (.goto l) a w) → (∀ a w, ¬ Q .outgrown a w) → (∀ (imm' : Imm) , o = (.done ()) → imm0.le imm' → T 19 B Q (.exit 0) imm' [] []) → (∀ r imm' hs' m', o = (.ret r) → imm0.le imm' → RS Tryd.prog Tryd.f40 B (slices_Index_string_string_post  r) imm' hs' m' → T 19 B Q .ret imm' hs' m') → J Tryd.prog 19 B (nav (bodyOf Tryd.f40) [1, 0, 1, 0]) Q imm [] [(0, vS p s c), (1, vT v0.l), (7, vI (s.length : Int)), (8, vI t8)] := by
 refine M.slices_Index_string_string_l1.partial_correctness s v0 _ ?_
 intro self ih t8 o hM B imm0 imm Q p c hle h hg ho hx hr
 refine J_loop hg ho <| J_seq <| J_region <| R_z [] [(9, .bool (decide (t8 < (s.length : Int))))] <| T_seq <| J_seq <| J_cd hM ?_ ?_
 · intro hc hM
   refine J_skip <| T_seq <| J_seq <| J_block <| J_seq <| J_region <| R_z [] [(5, vI t8)] <| T_seq <| J_seq <| J_region <| R_d 3 [] [(11, vT v0.l), (12, vS p s c), (13, vI t8)] ?_
   obtain ⟨x, hy, hM⟩ := bind_some hM
   refine R_ix rfl rfl h hy ?_
   intro ad ccs hat hrep
   obtain rfl := hrep
   refine R_la 0 hat [vT x.l] (vT x.l) rfl <| R_z [] [(16, .bool (v0.l == x.l))] <| T_seq <| J_cd hM ?_ ?_
   · intro hc1 hM
     exact J_seq <| J_region <| R_z [] [(4, vI t8)] <| T_seq <| J_ret <| T_block_ret <| T_then_ret <| T_then_ret <| hr _ _ _ _ (pure_some hM).symm hle ⟨_, _, (.tmp rfl ResV.nil), good_none, ⟨_, rfl, rfl, rfl⟩⟩
   · intro hc1 hM
     exact J_skip <| T_block_normal <| T_seq <| J_region <| R_z [] [(8, vI (W (t8 + 1)))] <| T_loop <| J_w [(0, vS p s c), (1, vT v0.l), (7, vI (s.length : Int)), (8, vI (W (t8 + 1)))] <| ih (W (t8 + 1)) _ hM hle h hg ho hx hr
 · intro hc hM
   exact J_exit <| T_then_exit <| T_then_exit <| T_w [] <| hx _  (pure_some hM).symm hle
def M.slices_Index_string_string (s : (List Str)) (v0 : Str) : Option (Int) := do
 match ← M.slices_Index_string_string_l1 s v0 0 with
 | .ret r0 => pure r0
 | .done _ =>
  pure (-1)
theorem slices_Index_string_string_ok : ∀ (s : (List Str)) (v0 : Str) r, M.slices_Index_string_string s v0 = some r → ∀ {imm : Imm} {p : Option Addr} {c : Nat}, (SL imm (vS p s c) s) → Ret Tryd.prog 40 [vS p s c, vT v0.l] imm [] (slices_Index_string_string_post  r) := by
 intro s v0 r hM imm p c h
 unfold M.slices_Index_string_string at hM
 refine ret_of_J (fn := Tryd.f40) (c := (bodyOf Tryd.f40)) Tryd.func40 rfl rfl ?_
 rintro B - -
 have hle : imm.le imm := Imm.le.refl _
 refine J_seq <| J_region <| R_z [] [] <| T_seq <| J_seq <| J_seq <| J_region <| R_z [] [(7, vI (s.length : Int)), (8, vI 0)] <| T_seq <| J_block <| J_w [(0, vS p s c), (1, vT v0.l), (7, vI (s.length : Int)), (8, vI 0)] ?_
 obtain ⟨o0, ho0, hM⟩ := bind_some hM
 refine slices_Index_string_string_l1_ok s v0 0 o0 ho0 (Imm.le.refl _) h (fun _ _ _ h => h) (fun _ _ h => h) ?_ ?_
 · intro imm0  heq le
   subst o0
   replace hle := hle.trans le
   refine T_block_here <| T_seq <| J_seq <| J_region <| R_z [] [(4, vI (-1))] <| T_seq <| J_ret ?_
   obtain rfl := pure_some hM
   exact T_RS ⟨_, _, (.tmp rfl ResV.nil), good_none, ⟨_, rfl, rfl, rfl⟩⟩
 · intro r0 imm9 hs9 m9 heq9 le9 hrs9
   subst heq9
   refine T_block_ret <| T_then_ret ?_
   obtain rfl := pure_some hM
   exact T_RS hrs9
def strconv_Atoi_post (r : Int × Bool) : Nat → Imm → List HA → Value → Prop := fun kk imm' hs' v =>
  ∃ (v0 v1 : Value), hs' = [] ∧ v = tupV [v0, v1] ∧ v0 = .int .i64 r.1 ∧ ErrV v1 r.2
def M.strconv_Atoi (s : Str) : Option (Int × Bool) := if s.l.length ≤ 281474976710656 then some (atoiM s) else none
theorem strconv_Atoi_ok : ∀ (s : Str) r, M.strconv_Atoi s = some r → ∀ {imm : Imm}, GH Tryd.prog imm → Ret Tryd.prog 41 [vT s.l] imm [] (strconv_Atoi_post r) := by
 intro s r hM imm hG
 unfold M.strconv_Atoi at hM
 split at hM
 · rename_i hi
   cases hM
   obtain ⟨g, hg, h1⟩ := hG.es
   obtain rfl : g = 1 := (Option.some.inj ((show Tryd.prog.globalNamed "strconv.ErrSyntax" = some 1 by kernel_rfl).symm.trans hg)).symm
   obtain ⟨g, hg, h2⟩ := hG.er
   obtain rfl : g = 2 := (Option.some.inj ((show Tryd.prog.globalNamed "strconv.ErrRange" = some 2 by kernel_rfl).symm.trans hg)).symm
   exact ret_atoi hi h1 h2 Tryd.strconv_Atoi_ok Tryd.strconv_Atoi_syntax Tryd.strconv_Atoi_range fun k v h => ⟨_, _, rfl, rfl, rfl, h⟩
 · cases hM
def impl_readStep_post (r : impl_Step × Bool) : Nat → Imm → List HA → Value → Prop := fun kk imm' hs' v =>
  ∃ (v0 : Value) (v1 : Value), hs' = [] ∧ v = tupV [v0, v1] ∧ (∃ cs, v0 = .agg ⟨cs⟩ ∧ Rp.rep imm' cs r.1) ∧ v1 = .bool r.2
def M.impl_readStep_l1 (l : List Str) (x1 : impl_Step) (n0 : List Int) (t34 : Int) : Option (Out (List Int × impl_Step) (impl_Step × Bool)) := do
 if (decide (t34 < (l.length : Int))) then
  let x3 ← idx l t34
  let (y5, y6) ← M.strconv_Atoi x3
  if y6 then
   pure (.ret ((impl_Step.mk 0 0 0 0), false))
  else
   let x4 ← idx n0 t34
   let l1 ← pure (n0.set t34.toNat y5)
   M.impl_readStep_l1 l x1 l1 (W (t34 + 1))
 else
  pure (.done (n0, x1))
 partial_fixpoint
theorem impl_readStep_l1_ok (l : List Str) (x1 : impl_Step) : ∀ (n0 : List Int) (t34 : Int) (o : Out (List Int × impl_Step) (impl_Step × Bool)), M.impl_readStep_l1 l x1 n0 t34 = some o → ∀ {B : Base} {imm0 imm : Imm} {Q : Exit → Act → World → Prop} {line : Str} {y2 : Int} {b : Nat} {p2 : Option Addr} {c2 : Nat} {bn : Nat}, imm0.le imm → (SL imm (vS p2 l c2) l) → (GH Tryd.prog imm) → (n0.length = 3) → (∀ l a w, ¬ Q (.goto l) a w) → (∀ a w, ¬ Q .outgrown a w) → (∀ (imm' : Imm) (n01 : List Int) (x2 : impl_Step), o = (.done (n01, x2)) → imm0.le imm' → (n01.length = 3) → T 68 B Q (.exit 0) imm' [hB bn (n01.map (Value.int .i64)), hB b [vI x2.Kind, vI x2.Part, vI x2.A, vI x2.B]] [(0, vT line.l), (2, vP b 0), (5, vI (W (1 + y2))), (6, vP bn 0)]) → (∀ r imm' hs' m', o = (.ret r) → imm0.le imm' → RS Tryd.prog Tryd.f26 B (impl_readStep_post  r) imm' hs' m' → T 68 B Q .ret imm' hs' m') → J Tryd.prog 68 B (nav (bodyOf Tryd.f26) [1, 1, 1, 1, 1, 0, 1, 0]) Q imm [hB bn (n0.map (Value.int .i64)), hB b [vI x1.Kind, vI x1.Part, vI x1.A, vI x1.B]] [(0, vT line.l), (2, vP b 0), (5, vI (W (1 + y2))), (6, vP bn 0), (32, vS p2 l c2), (33, vI (l.length : Int)), (34, vI t34)] := by
 refine M.impl_readStep_l1.partial_correctness l x1 _ ?_
 intro self ih n0 t34 o hM B imm0 imm Q line y2 b p2 c2 bn hle h5 hG h6 hg ho hx hr
 refine J_loop hg ho <| J_seq <| J_region <| R_z [] [(35, .bool (decide (t34 < (l.length : Int))))] <| T_seq <| J_seq <| J_cd hM ?_ ?_
 · intro hc2 hM
   refine J_skip <| T_seq <| J_seq <| J_block <| J_seq <| J_region <| R_d 1 [] [(36, vI t34)] ?_
   obtain ⟨x3, hy6, hM⟩ := bind_some hM
   refine R_ix rfl rfl h5 hy6 ?_
   intro ad1 ccs1 hat1 hrep1
   obtain rfl := hrep1
   refine R_la 0 hat1 [vT x3.l] (vT x3.l) rfl <| R_z [] [(7, vI t34), (8, vT x3.l)] <| T_seq <| J_seq <| J_region <| R_d 1 [] [(40, vT x3.l)] ?_
   obtain ⟨⟨y5, y6⟩, hy7, hM⟩ := bind_some hM
   refine R_call (hs1 := []) (rest := [hB bn (n0.map (Value.int .i64)), hB b [vI x1.Kind, vI x1.Part, vI x1.A, vI x1.B]]) rfl rfl rfl rfl (by kernel_rfl) rfl rfl (strconv_Atoi_ok x3 _ hy7 hG) ?_
   rintro imm06 hs2 v2 k2 le6 - ⟨v05, v06, rfl, rfl, rfl, hE⟩ -
   replace h5 := h5.mono le6
   replace hG := hG.mono le6
   replace hle := hle.trans le6
   rcases hE with ⟨rfl, rfl⟩ | ⟨rfl, te, pe, rfl⟩
   · refine R_z [] [(9, vI y5), (10, .nilIface)] <| T_seq <| J_seq <| J_seq <| J_region <| R_z [] [(45, .bool false)] <| T_seq <| J_cd hM ?_ ?_
     · intro hc3 hM
       cases hc3
     · intro hc3 hM
       refine J_skip <| T_seq <| J_region <| R_d 2 [] [(47, vI t34), (48, vI y5)] ?_
       obtain ⟨x4, hy8, hM⟩ := bind_some hM
       obtain ⟨h0, h1, h2⟩ := idx_some hy8
       have h1 : t34 < (3 : Nat) := by have := (List.getElem?_eq_some_iff.1 h2).1; omega
       obtain ⟨l1, hy9, hM⟩ := bind_some hM
       obtain rfl : n0.set t34.toNat y5 = l1 := pure_some hy9
       exact R_ixa rfl rfl rfl rfl rfl (by kernel_rfl) h0 h1 <| R_sba (hs' := [hB bn ((n0.set t34.toNat y5).map (Value.int .i64)), hB b [vI x1.Kind, vI x1.Part, vI x1.A, vI x1.B]]) 0 rfl rfl rfl rfl rfl (by kernel_rfl) (by omega) rfl <| R_end rfl <| T_block_normal <| T_seq <| J_region <| R_z [] [(34, vI (W (t34 + 1)))] <| T_loop <| J_w [(0, vT line.l), (2, vP b 0), (5, vI (W (1 + y2))), (6, vP bn 0), (32, vS p2 l c2), (33, vI (l.length : Int)), (34, vI (W (t34 + 1)))] <| ih _ (W (t34 + 1)) _ hM hle h5 hG (by rw [List.length_set]; exact h6) hg ho hx hr
   · refine R_z [] [(9, vI y5), (10, .iface te pe)] <| T_seq <| J_seq <| J_seq <| J_region <| R_z [] [(45, .bool true)] <| T_seq <| J_cd hM ?_ ?_
     · intro hc3 hM
       exact J_seq <| J_region <| R_d 1 [] [(46, vA [vI 0, vI 0, vI 0, vI 0])] <| R_sb 1 [vI 0, vI 0, vI 0, vI 0] [hB bn (n0.map (Value.int .i64)), hB b [vI 0, vI 0, vI 0, vI 0]] rfl rfl rfl rfl <| R_z [] [(3, .bool false)] <| T_seq <| J_ret <| T_then_ret <| T_block_ret <| T_then_ret <| T_then_ret <| hr _ _ _ _ (pure_some hM).symm hle ⟨_, _, (.cell 1 rfl rfl (by kernel_rfl) (.tmp rfl ResV.nil)), good_none, ⟨_, _, rfl, rfl, ⟨_, rfl, (impl_Step_shut rfl)⟩, rfl⟩⟩
     · intro hc3 hM
       cases hc3
 · intro hc2 hM
   exact J_exit <| T_then_exit <| T_then_exit <| T_w [(0, vT line.l), (2, vP b 0), (5, vI (W (1 + y2))), (6, vP bn 0)] <| hx _ _ _ (pure_some hM).symm hle h6
def M.impl_readStep (line : Str) : Option (impl_Step × Bool) := do
 let y ← M.strings_Split line (⟨[32]⟩ : Str)
 let y1 ← M.impl_stepWords
 let x ← idx y 0
 let y2 ← M.slices_Index_string_string y1 x
 let t29 ← (do
   if (decide ((W (1 + y2)) < 1)) then
    pure true
   else
    let y3 ← M.impl_fields (W (1 + y2))
    pure ((W ((y.length : Int) - 1)) != y3)
     : Option Bool)
 if t29 then
  pure ((impl_Step.mk 0 0 0 0), false)
 else
  let l ← slc y 1 (y.length : Int)
  match ← M.impl_readStep_l1 l (impl_Step.mk 0 0 0 0) ([0, 0, 0] : List Int) 0 with
  | .ret r0 => pure r0
  | .done (n01, x2) =>
   let x5 ← idx n01 0
   let x6 ← idx n01 1
   let x7 ← idx n01 2
   let (t3, x8) ← (do
     let y7 ← M.impl_hasText (impl_Step.mk (W (1 + y2)) x5 x6 x7)
     if y7 then
      let y8 ← M.impl_stepText (impl_Step.mk (W (1 + y2)) x5 x6 x7)
      pure ((y8.l == line.l), (impl_Step.mk (W (1 + y2)) x5 x6 x7))
     else
      pure (false, (impl_Step.mk (W (1 + y2)) x5 x6 x7))
       : Option (Bool × impl_Step))
   pure (x8, t3)
theorem impl_readStep_ok : ∀ (line : Str) r, M.impl_readStep line = some r → ∀ {imm : Imm} , (GH Tryd.prog imm) → Ret Tryd.prog 26 [vT line.l] imm [] (impl_readStep_post  r) := by
 intro line r hM imm  hG
 unfold M.impl_readStep at hM
 refine ret_of_J (fn := Tryd.f26) (c := (bodyOf Tryd.f26)) Tryd.func26 rfl rfl ?_
 rintro B - -
 have hle : imm.le imm := Imm.le.refl _
 refine J_seq <| J_region <| R_alloc (c := ⟨[vI 0, vI 0, vI 0, vI 0]⟩) rfl rfl rfl (by kernel_rfl) ?_
 intro b hb
 refine R_z [] [] <| T_seq <| J_seq <| J_region <| R_d 1 [] [(12, vT line.l)] ?_
 obtain ⟨y, hy, hM⟩ := bind_some hM
 refine R_call (hs1 := []) (rest := [hB b [vI 0, vI 0, vI 0, vI 0]]) rfl rfl rfl rfl (by kernel_rfl) rfl rfl (strings_Split_ok line (⟨[32]⟩ : Str) _ hy hG) ?_
 rintro imm0 hs2 v2 k2 le - ⟨v0, rfl, rfl, h⟩ -
 replace hG := hG.mono le
 replace hle := hle.trans le
 obtain ⟨p, c, rfl⟩ := h.form
 refine R_z [] [(4, vS p y c)] <| T_seq <| J_seq ?_
 obtain ⟨y1, hy1, hM⟩ := bind_some hM
 obtain ⟨x, hy2, hM⟩ := bind_some hM
 obtain ⟨y2, hy3, hM⟩ := bind_some hM
 refine J_any [.x (fun imm' v hx => ∃ (p1 : Option Addr) (c1 : Nat), v = vS p1 y1 c1 ∧ hx = [] ∧ (SL imm' (vS p1 y1 c1) y1)), .p (vS p y c) [], .x (fun imm' v hx => ∃ (ad : Addr), v = .pointer (some ad) ∧ hx = [] ∧ (At imm' ad [vT x.l])), .q (vT x.l), .q (vI y2), .p (vI (W (1 + y2))) []] [[], [], [(1, false)], [(2, false)], [(0, false), (3, false)], [(4, false)]] [hB b [vI 0, vI 0, vI 0, vI 0]] [] [(5, false)] (good_pick [0] rfl (by decide)) ?_ ?_
 · refine Ox ?_ <| Op <| Ox ?_ <| Oq ?_ <| Oq ?_ <| Op <| On
   · intro imm1 hf le1
     refine Ins_nil <| R_isw (hB b [vI 0, vI 0, vI 0, vI 0] :: hf) [] ?_
     have hle := Imm.le.refl imm1
     replace hG := hG.mono le1
     refine R_call (hs1 := []) (rest := (hB b [vI 0, vI 0, vI 0, vI 0] :: hf)) rfl rfl rfl rfl (by kernel_rfl) rfl rfl (impl_stepWords_ok  _ hy1 ) ?_
     rintro imm01 hs2 v2 k2 le1 - ⟨v01, rfl, rfl, h1⟩ -
     replace hG := hG.mono le1
     replace hle := hle.trans le1
     obtain ⟨p1, c1, rfl⟩ := h1.form
     exact R_out (hx := []) rfl hle rfl (out_some rfl) ⟨_, _, rfl, rfl, h1⟩
   · intro imm1 hf le1
     refine Ins_cons ?_
     rintro _ _ ⟨rfl, rfl⟩
     refine Ins_nil <| R_isw (hB b [vI 0, vI 0, vI 0, vI 0] :: hf) [(15, vS p y c)] ?_
     have hle := Imm.le.refl imm1
     replace h := h.mono le1
     refine R_ix rfl rfl h hy2 ?_
     intro ad ccs hat hrep
     obtain rfl := hrep
     exact R_out (hx := []) rfl hle rfl (out_some rfl) ⟨_, rfl, rfl, hat⟩
   · intro imm1 hf le1
     refine Ins_cons ?_
     rintro _ _ ⟨ad, rfl, rfl, hat⟩
     refine Ins_nil <| R_isw (hB b [vI 0, vI 0, vI 0, vI 0] :: hf) [(16, .pointer (some ad))] ?_
     have hle := Imm.le.refl imm1
     exact R_la 0 hat [vT x.l] (vT x.l) rfl <| R_out (hx := []) rfl hle rfl (out_some rfl) ⟨rfl, rfl⟩
   · intro imm1 hf le1
     refine Ins_cons ?_
     rintro _ _ ⟨p1, c1, rfl, rfl, h1⟩
     refine Ins_cons ?_
     rintro _ _ ⟨rfl, rfl⟩
     refine Ins_nil <| R_isw (hB b [vI 0, vI 0, vI 0, vI 0] :: hf) [(14, vS p1 y1 c1), (17, vT x.l)] ?_
     have hle := Imm.le.refl imm1
     replace hG := hG.mono le1
     refine R_call (hs1 := []) (rest := (hB b [vI 0, vI 0, vI 0, vI 0] :: hf)) rfl rfl rfl rfl (by kernel_rfl) rfl rfl (slices_Index_string_string_ok y1 x _ hy3 h1) ?_
     rintro imm02 hs2 v2 k2 le2 - ⟨v02, rfl, rfl, rfl⟩ -
     replace h1 := h1.mono le2
     replace hG := hG.mono le2
     replace hle := hle.trans le2
     exact R_out (hx := []) rfl hle rfl (out_some rfl) ⟨rfl, rfl⟩
 · intro imm03 le3
   refine Ins_cons ?_
   rintro _ _ ⟨rfl, rfl⟩
   refine Ins_nil <| R_isw [hB b [vI 0, vI 0, vI 0, vI 0]] [(0, vT line.l), (2, vP b 0), (4, vS p y c), (19, vI (W (1 + y2)))] ?_
   replace h := h.mono le3
   replace hG := hG.mono le3
   replace hle := hle.trans le3
   refine R_z [] [(5, vI (W (1 + y2)))] <| T_seq <| J_seq <| J_seq ?_
   obtain ⟨o0, ho0, hM⟩ := bind_some hM
   refine J_cut (fun imm' hs' m' => ∃ (t29 : Bool), o0 = t29 ∧ imm03.le imm' ∧ hs' = [hB b [vI 0, vI 0, vI 0, vI 0]] ∧ m' = [(0, vT line.l), (2, vP b 0), (4, vS p y c), (5, vI (W (1 + y2))), (29, .bool t29)]) ?_ ?_
   · have hle0 := hle
     have hle : imm03.le imm03 := Imm.le.refl _
     refine J_region <| R_d 3 [] [(22, .bool (decide ((W (1 + y2)) < 1)))] ?_
     cases hc : (decide ((W (1 + y2)) < 1)) with
     | true =>
      have hM0 := if_some_true hc ho0
      try rw [hc]
      exact R_z [] [(29, .bool true)] <| T_w [(0, vT line.l), (2, vP b 0), (4, vS p y c), (5, vI (W (1 + y2))), (29, .bool true)] <| T_cut ⟨_, (pure_some hM0).symm, hle, rfl, rfl⟩
     | false =>
      have hM01 := if_some_false hc ho0
      try rw [hc]
      refine R_d 7 [] [(25, vI (W ((y.length : Int) - 1))), (26, vI (W (1 + y2)))] ?_
      obtain ⟨y3, hy4, hM⟩ := bind_some hM01
      refine R_call (hs1 := []) (rest := [hB b [vI 0, vI 0, vI 0, vI 0]]) rfl rfl rfl rfl (by kernel_rfl) rfl rfl (impl_fields_ok (W (1 + y2)) _ hy4 ) ?_
      rintro imm05 hs2 v2 k2 le4 - ⟨v03, rfl, rfl, rfl⟩ -
      replace h := h.mono le4
      replace hG := hG.mono le4
      replace hle := hle.trans le4
      exact R_z [] [(29, .bool ((W ((y.length : Int) - 1)) != y3))] <| T_w [(0, vT line.l), (2, vP b 0), (4, vS p y c), (5, vI (W (1 + y2))), (29, .bool ((W ((y.length : Int) - 1)) != y3))] <| T_cut ⟨_, (pure_some hM).symm, hle, rfl, rfl⟩
   · rintro imm04 hs2 m2 ⟨t29, heq, le5, rfl, rfl⟩
     subst o0
     replace h := h.mono le5
     replace hG := hG.mono le5
     replace hle := hle.trans le5
     refine T_seq <| J_cd hM ?_ ?_
     · intro hc1 hM
       refine J_seq <| J_region <| R_d 1 [] [(30, vA [vI 0, vI 0, vI 0, vI 0])] <| R_sb 0 [vI 0, vI 0, vI 0, vI 0] [hB b [vI 0, vI 0, vI 0, vI 0]] rfl rfl rfl rfl <| R_z [] [(3, .bool false)] <| T_seq <| J_ret <| T_then_ret ?_
       obtain rfl := pure_some hM
       exact T_RS ⟨_, _, (.cell 0 rfl rfl (by kernel_rfl) (.tmp rfl ResV.nil)), good_none, ⟨_, _, rfl, rfl, ⟨_, rfl, (impl_Step_shut rfl)⟩, rfl⟩⟩
     · intro hc1 hM
       refine J_skip <| T_seq <| J_seq <| J_region <| R_alloc (c := ⟨[vI 0, vI 0, vI 0]⟩) rfl rfl rfl (by kernel_rfl) ?_
       intro b1 hb1
       refine R_end rfl <| T_seq <| J_seq <| J_seq <| J_region <| R_d 1 [] [(31, vS p y c)] ?_
       obtain ⟨l, hy5, hM⟩ := bind_some hM
       refine R_sl rfl h hy5 ?_
       intro v04 h5
       obtain ⟨p2, c2, rfl⟩ := h5.form
       refine R_z [] [(33, vI (l.length : Int)), (34, vI 0)] <| T_seq <| J_block <| J_w [(0, vT line.l), (2, vP b 0), (5, vI (W (1 + y2))), (6, vP b1 0), (32, vS p2 l c2), (33, vI (l.length : Int)), (34, vI 0)] ?_
       obtain ⟨o01, ho01, hM⟩ := bind_some hM
       refine impl_readStep_l1_ok (bn := b1) l (impl_Step.mk 0 0 0 0) ([0, 0, 0] : List Int) 0 o01 ho01 (Imm.le.refl _) h5 hG rfl (fun _ _ _ h => h) (fun _ _ h => h) ?_ ?_
       · intro imm07 n01 x2 heq1 le7 h7
         subst o01
         obtain ⟨a1, a2, a3, rfl⟩ := three h7
         replace hG := hG.mono le7
         replace hle := hle.trans le7
         obtain ⟨x5, hy10, hM⟩ := bind_some hM
         obtain rfl : a1 = x5 := Option.some.inj hy10
         obtain ⟨x6, hy11, hM⟩ := bind_some hM
         obtain rfl : a2 = x6 := Option.some.inj hy11
         obtain ⟨x7, hy12, hM⟩ := bind_some hM
         obtain rfl : a3 = x7 := Option.some.inj hy12
         refine T_block_here <| T_seq <| J_seq <| J_region <| R_d 1 [] [(51, vI (W (1 + y2)))] <| R_ixa (i := 0) (len := 3) rfl rfl rfl rfl rfl (by kernel_rfl) (by decide) (by decide) <| R_load_blk (cs := [vI a1]) (v := vI a1) 0 rfl rfl rfl rfl rfl rfl rfl (by kernel_rfl) <| R_ixa (i := 1) (len := 3) rfl rfl rfl rfl rfl (by kernel_rfl) (by decide) (by decide) <| R_load_blk (cs := [vI a2]) (v := vI a2) 0 rfl rfl rfl rfl rfl rfl rfl (by kernel_rfl) <| R_ixa (i := 2) (len := 3) rfl rfl rfl rfl rfl (by kernel_rfl) (by decide) (by decide) <| R_load_blk (cs := [vI a3]) (v := vI a3) 0 rfl rfl rfl rfl rfl rfl rfl (by kernel_rfl) <| R_d 8 [] [(58, vA [vI (W (1 + y2)), vI a1, vI a2, vI a3])] <| R_alloc (c := ⟨[vI 0, vI 0, vI 0, vI 0]⟩) rfl rfl rfl (by kernel_rfl) ?_
         intro b2 hb2
         refine R_sb 0 [vI (W (1 + y2)), vI a1, vI a2, vI a3] [hB b2 [vI (W (1 + y2)), vI a1, vI a2, vI a3], hB b1 [vI a1, vI a2, vI a3], hB b [vI x2.Kind, vI x2.Part, vI x2.A, vI x2.B]] rfl rfl rfl rfl <| R_end rfl <| T_seq <| J_seq ?_
         obtain ⟨o02, ho02, hM⟩ := bind_some hM
         refine J_cut (fun imm' hs' m' => ∃ (t3 : Bool) (x8 : impl_Step), o02 = (t3, x8) ∧ imm07.le imm' ∧ hs' = [hB b [vI x8.Kind, vI x8.Part, vI x8.A, vI x8.B]] ∧ m' = [(2, vP b 0), (3, .bool t3)]) ?_ ?_
         · have hle0 := hle
           have hle : imm07.le imm07 := Imm.le.refl _
           obtain ⟨y7, hy13, hM⟩ := bind_some ho02
           cases hc4 : y7 with
           | true =>
            have hM02 := if_some_true hc4 hM
            obtain ⟨y8, hy14, hM⟩ := bind_some hM02
            refine J_any [.p (vA [vI (W (1 + y2)), vI a1, vI a2, vI a3]) [0], .p (vA [vI (W (1 + y2)), vI a1, vI a2, vI a3]) [0], .q (.bool true), .q (.bool true), .p (vA [vI (W (1 + y2)), vI a1, vI a2, vI a3]) [0], .q (vT y8.l), .p (vT line.l) [], .p (.bool (y8.l == line.l)) [], .p (.bool (y8.l == line.l)) [], .x (fun imm' v hx => hx = [hB b [vI (W (1 + y2)), vI a1, vI a2, vI a3]])] [[], [], [(1, false)], [(2, false)], [(3, false)], [(3, false), (4, false)], [(3, false)], [(3, false), (5, false), (6, false)], [(3, false), (7, false)], [(0, false), (11, true)]] [hB b2 [vI (W (1 + y2)), vI a1, vI a2, vI a3], hB b1 [vI a1, vI a2, vI a3]] [[hB b [vI x2.Kind, vI x2.Part, vI x2.A, vI x2.B]]] [(8, false), (9, true)] (good_pick [0, 1, 2] rfl (by decide)) ?_ ?_
            · refine Op <| Op <| Oq ?_ <| Oq ?_ <| Op <| Oq ?_ <| Op <| Op <| Op <| Ox ?_ <| On
              · intro imm1 hf le1
                refine Ins_cons ?_
                rintro _ _ ⟨rfl, rfl⟩
                refine Ins_nil <| R_isw (hB b2 [vI (W (1 + y2)), vI a1, vI a2, vI a3] :: hB b1 [vI a1, vI a2, vI a3] :: hf) [(60, vA [vI (W (1 + y2)), vI a1, vI a2, vI a3])] ?_
                have hle := Imm.le.refl imm1
                replace hG := hG.mono le1
                refine R_call (hs1 := []) (rest := (hB b2 [vI (W (1 + y2)), vI a1, vI a2, vI a3] :: hB b1 [vI a1, vI a2, vI a3] :: hf)) rfl rfl rfl rfl (by kernel_rfl) rfl rfl (impl_hasText_ok (impl_Step.mk (W (1 + y2)) a1 a2 a3) _ hy13 ) ?_
                rintro imm09 hs2 v2 k2 le8 - ⟨v07, rfl, rfl, rfl⟩ -
                replace hG := hG.mono le8
                replace hle := hle.trans le8
                rw [hc4]
                exact R_out (hx := []) rfl hle rfl (out_some rfl) ⟨rfl, rfl⟩
              · intro imm1 hf le1
                refine Ins_cons ?_
                rintro _ _ ⟨rfl, rfl⟩
                refine Ins_nil <| R_isw (hB b2 [vI (W (1 + y2)), vI a1, vI a2, vI a3] :: hB b1 [vI a1, vI a2, vI a3] :: hf) [(61, .bool true)] ?_
                have hle := Imm.le.refl imm1
                exact R_p 4 [(62, .bool true)] <| R_out (hx := []) rfl hle rfl (out_some rfl) ⟨rfl, rfl⟩
              · intro imm1 hf le1
                refine Ins_cons ?_
                rintro _ _ ⟨rfl, rfl⟩
                refine Ins_cons ?_
                rintro _ _ ⟨rfl, rfl⟩
                refine Ins_nil <| R_isw (hB b2 [vI (W (1 + y2)), vI a1, vI a2, vI a3] :: hB b1 [vI a1, vI a2, vI a3] :: hf) [(62, .bool true), (63, vA [vI (W (1 + y2)), vI a1, vI a2, vI a3])] ?_
                have hle := Imm.le.refl imm1
                replace hG := hG.mono le1
                refine R_call (hs1 := []) (rest := (hB b2 [vI (W (1 + y2)), vI a1, vI a2, vI a3] :: hB b1 [vI a1, vI a2, vI a3] :: hf)) rfl rfl rfl rfl (by kernel_rfl) rfl rfl (impl_stepText_ok (impl_Step.mk (W (1 + y2)) a1 a2 a3) _ hy14 hG) ?_
                rintro imm010 hs2 v2 k2 le9 - ⟨v08, rfl, rfl, rfl⟩ -
                replace hG := hG.mono le9
                replace hle := hle.trans le9
                exact R_out (hx := []) rfl hle rfl (out_some rfl) ⟨rfl, rfl⟩
              · intro imm1 hf le1
                refine Ins_cons ?_
                rintro _ _ ⟨rfl, rfl⟩
                refine Ins_cons ?_
                rintro _ _ rfl
                refine Ins_nil <| R_isw (hB b [vI x2.Kind, vI x2.Part, vI x2.A, vI x2.B] :: hB b2 [vI (W (1 + y2)), vI a1, vI a2, vI a3] :: hB b1 [vI a1, vI a2, vI a3] :: hf) [(2, vP b 0), (59, vA [vI (W (1 + y2)), vI a1, vI a2, vI a3])] ?_
                have hle := Imm.le.refl imm1
                exact R_sb 0 [vI (W (1 + y2)), vI a1, vI a2, vI a3] (hB b [vI (W (1 + y2)), vI a1, vI a2, vI a3] :: hB b2 [vI (W (1 + y2)), vI a1, vI a2, vI a3] :: hB b1 [vI a1, vI a2, vI a3] :: hf) rfl rfl rfl rfl <| R_out (hx := [hB b [vI (W (1 + y2)), vI a1, vI a2, vI a3]]) rfl hle rfl (out_none (v := undef)) rfl
            · intro imm011 le10
              refine Ins_cons ?_
              rintro _ _ ⟨rfl, rfl⟩
              refine Ins_cons ?_
              rintro _ _ rfl
              refine Ins_nil <| R_isw [hB b [vI (W (1 + y2)), vI a1, vI a2, vI a3], hB b2 [vI (W (1 + y2)), vI a1, vI a2, vI a3], hB b1 [vI a1, vI a2, vI a3]] [(2, vP b 0), (67, .bool (y8.l == line.l))] ?_
              replace hG := hG.mono le10
              replace hle := hle.trans le10
              exact R_z [] [(3, .bool (y8.l == line.l))] <| T_hs (good_pick [0] rfl (by decide)) <| T_w [(2, vP b 0), (3, .bool (y8.l == line.l))] <| T_cut ⟨_, _, (pure_some hM).symm, hle, rfl, rfl⟩
           | false =>
            have hM03 := if_some_false hc4 hM
            refine J_any [.p (vA [vI (W (1 + y2)), vI a1, vI a2, vI a3]) [0], .p (vA [vI (W (1 + y2)), vI a1, vI a2, vI a3]) [0], .q (.bool false), .q (.bool false), .p undef [], .p undef [], .p undef [], .p undef [], .p (.bool false) [], .x (fun imm' v hx => hx = [hB b [vI (W (1 + y2)), vI a1, vI a2, vI a3]])] [[], [], [(1, false)], [(2, false)], [(3, false)], [(3, false), (4, false)], [(3, false)], [(3, false), (5, false), (6, false)], [(3, false), (7, false)], [(0, false), (11, true)]] [hB b2 [vI (W (1 + y2)), vI a1, vI a2, vI a3], hB b1 [vI a1, vI a2, vI a3]] [[hB b [vI x2.Kind, vI x2.Part, vI x2.A, vI x2.B]]] [(8, false), (9, true)] (good_pick [0, 1, 2] rfl (by decide)) ?_ ?_
            · refine Op <| Op <| Oq ?_ <| Oq ?_ <| Op <| Op <| Op <| Op <| Op <| Ox ?_ <| On
              · intro imm1 hf le1
                refine Ins_cons ?_
                rintro _ _ ⟨rfl, rfl⟩
                refine Ins_nil <| R_isw (hB b2 [vI (W (1 + y2)), vI a1, vI a2, vI a3] :: hB b1 [vI a1, vI a2, vI a3] :: hf) [(60, vA [vI (W (1 + y2)), vI a1, vI a2, vI a3])] ?_
                have hle := Imm.le.refl imm1
                replace hG := hG.mono le1
                refine R_call (hs1 := []) (rest := (hB b2 [vI (W (1 + y2)), vI a1, vI a2, vI a3] :: hB b1 [vI a1, vI a2, vI a3] :: hf)) rfl rfl rfl rfl (by kernel_rfl) rfl rfl (impl_hasText_ok (impl_Step.mk (W (1 + y2)) a1 a2 a3) _ hy13 ) ?_
                rintro imm09 hs2 v2 k2 le8 - ⟨v07, rfl, rfl, rfl⟩ -
                replace hG := hG.mono le8
                replace hle := hle.trans le8
                rw [hc4]
                exact R_out (hx := []) rfl hle rfl (out_some rfl) ⟨rfl, rfl⟩
              · intro imm1 hf le1
                refine Ins_cons ?_
                rintro _ _ ⟨rfl, rfl⟩
                refine Ins_nil <| R_isw (hB b2 [vI (W (1 + y2)), vI a1, vI a2, vI a3] :: hB b1 [vI a1, vI a2, vI a3] :: hf) [(61, .bool false)] ?_
                have hle := Imm.le.refl imm1
                exact R_p 4 [(62, .bool false)] <| R_out (hx := []) rfl hle rfl (out_some rfl) ⟨rfl, rfl⟩
              · intro imm1 hf le1
                refine Ins_cons ?_
                rintro _ _ ⟨rfl, rfl⟩
                refine Ins_cons ?_
                rintro _ _ rfl
                refine Ins_nil <| R_isw (hB b [vI x2.Kind, vI x2.Part, vI x2.A, vI x2.B] :: hB b2 [vI (W (1 + y2)), vI a1, vI a2, vI a3] :: hB b1 [vI a1, vI a2, vI a3] :: hf) [(2, vP b 0), (59, vA [vI (W (1 + y2)), vI a1, vI a2, vI a3])] ?_
                have hle := Imm.le.refl imm1
                exact R_sb 0 [vI (W (1 + y2)), vI a1, vI a2, vI a3] (hB b [vI (W (1 + y2)), vI a1, vI a2, vI a3] :: hB b2 [vI (W (1 + y2)), vI a1, vI a2, vI a3] :: hB b1 [vI a1, vI a2, vI a3] :: hf) rfl rfl rfl rfl <| R_out (hx := [hB b [vI (W (1 + y2)), vI a1, vI a2, vI a3]]) rfl hle rfl (out_none (v := undef)) rfl
            · intro imm012 le11
              refine Ins_cons ?_
              rintro _ _ ⟨rfl, rfl⟩
              refine Ins_cons ?_
              rintro _ _ rfl
              refine Ins_nil <| R_isw [hB b [vI (W (1 + y2)), vI a1, vI a2, vI a3], hB b2 [vI (W (1 + y2)), vI a1, vI a2, vI a3], hB b1 [vI a1, vI a2, vI a3]] [(2, vP b 0), (67, .bool false)] ?_
              replace hG := hG.mono le11
              replace hle := hle.trans le11
              exact R_z [] [(3, .bool false)] <| T_hs (good_pick [0] rfl (by decide)) <| T_w [(2, vP b 0), (3, .bool false)] <| T_cut ⟨_, _, (pure_some hM03).symm, hle, rfl, rfl⟩
         · rintro imm08 hs2 m2 ⟨t3, x8, heq2, le12, rfl, rfl⟩
           subst o02
           replace hG := hG.mono le12
           replace hle := hle.trans le12
           refine T_seq <| J_ret ?_
           obtain rfl := pure_some hM
           exact T_RS ⟨_, _, (.cell 0 rfl rfl (by kernel_rfl) (.tmp rfl ResV.nil)), good_none, ⟨_, _, rfl, rfl, ⟨_, rfl, (impl_Step_shut rfl)⟩, rfl⟩⟩
       · intro r0 imm9 hs9 m9 heq9 le9 hrs9
         subst heq9
         refine T_block_ret <| T_then_ret ?_
         obtain rfl := pure_some hM
         exact T_RS hrs9
def impl_ParseSteps_post (r : (List impl_Step) × Bool) : Nat → Imm → List HA → Value → Prop := fun kk imm' hs' v =>
  ∃ (a0 : Option Addr) (c0 : Nat) (s0 : List Value) (v1 : Value), hs' = [.osl (.slice a0 r.1.length c0) (Rp.sz impl_Step) s0] ∧ v = tupV [(.slice a0 r.1.length c0), v1] ∧ RepL (Rp.rep imm') (Rp.sz impl_Step) s0 r.1 ∧ v1 = .bool r.2
def M.impl_ParseSteps_l1 (l : List Str) (out : List impl_Step) (t29 : Int) : Option (Out (List impl_Step) ((List impl_Step) × Bool)) := do
 if (decide (t29 < (l.length : Int))) then
  let x1 ← idx l t29
  let (y2, y3) ← M.impl_readStep x1
  if (!y3) then
   pure (.ret (([] : List impl_Step), false))
  else
   let out2 ← app 32 out ([y2] : List impl_Step)
   M.impl_ParseSteps_l1 l out2 (W (t29 + 1))
 else
  pure (.done out)
 partial_fixpoint
theorem impl_ParseSteps_l1_ok (l : List Str) : ∀ (out : List impl_Step) (t29 : Int) (o : Out (List impl_Step) ((List impl_Step) × Bool)), M.impl_ParseSteps_l1 l out t29 = some o → ∀ {B : Base} {imm0 imm : Imm} {Q : Exit → Act → World → Prop}  {p1 : Option Addr} {c1 : Nat} {p2 : Option Addr} {c2 : Nat} {cs : List Value}, imm0.le imm → (SL imm (vS p1 l c1) l) → (GH Tryd.prog imm) → (RL imm cs out) → (∀ l a w, ¬ Q (.goto l) a w) → (∀ a w, ¬ Q .outgrown a w) → (∀ (imm' : Imm) (out1 : List impl_Step) (p3 : Option Addr) (c3 : Nat) (cs1 : List Value), o = (.done out1) → imm0.le imm' → (RL imm' cs1 out1) → T 46 B Q (.exit 0) imm' [hO impl_Step (vS p3 out1 c3) cs1] [(6, vS p3 out1 c3)]) → (∀ r imm' hs' m', o = (.ret r) → imm0.le imm' → RS Tryd.prog Tryd.f11 B (impl_ParseSteps_post  r) imm' hs' m' → T 46 B Q .ret imm' hs' m') → J Tryd.prog 46 B (nav (bodyOf Tryd.f11) [1, 1, 1, 1, 1, 0, 1, 0]) Q imm [hO impl_Step (vS p2 out c2) cs] [(6, vS p2 out c2), (27, vS p1 l c1), (28, vI (l.length : Int)), (29, vI t29)] := by
 refine M.impl_ParseSteps_l1.partial_correctness l _ ?_
 intro self ih out t29 o hM B imm0 imm Q p1 c1 p2 c2 cs hle h2 hG h4 hg ho hx hr
 refine J_loop hg ho <| J_seq <| J_region <| R_z [] [(30, .bool (decide (t29 < (l.length : Int))))] <| T_seq <| J_seq <| J_cd hM ?_ ?_
 · intro hc2 hM
   refine J_skip <| T_seq <| J_seq <| J_block <| J_seq <| J_region ?_
   obtain ⟨x1, hy3, hM⟩ := bind_some hM
   refine R_ix rfl rfl h2 hy3 ?_
   intro ad1 ccs1 hat1 hrep1
   obtain rfl := hrep1
   refine R_la 0 hat1 [vT x1.l] (vT x1.l) rfl <| R_z [] [(8, vT x1.l)] <| T_seq <| J_seq <| J_region <| R_d 1 [] [(34, vT x1.l)] ?_
   obtain ⟨⟨y2, y3⟩, hy4, hM⟩ := bind_some hM
   refine R_call (hs1 := []) (rest := [hO impl_Step (vS p2 out c2) cs]) rfl rfl rfl rfl (by kernel_rfl) rfl rfl (impl_readStep_ok x1 _ hy4 hG) ?_
   rintro imm02 hs2 v2 k2 le2 - ⟨v02, v03, rfl, rfl, ⟨cs2, rfl, h6⟩, rfl⟩ -
   replace h4 := RepL.mono (fun _ _ => Rp.mono le2) h4
   replace h2 := h2.mono le2
   replace hG := hG.mono le2
   replace hle := hle.trans le2
   obtain rfl := impl_Step_open h6
   refine R_d 5 [] [(36, vA [vI y2.Kind, vI y2.Part, vI y2.A, vI y2.B]), (37, .bool y3)] <| R_alloc (c := ⟨[vI 0, vI 0, vI 0, vI 0]⟩) rfl rfl rfl (by kernel_rfl) ?_
   intro b hb
   refine R_sb 0 [vI y2.Kind, vI y2.Part, vI y2.A, vI y2.B] [hB b [vI y2.Kind, vI y2.Part, vI y2.A, vI y2.B], hO impl_Step (vS p2 out c2) cs] rfl rfl rfl rfl <| R_z [] [(10, .bool y3)] <| T_seq <| J_seq <| J_seq <| J_region <| R_z [] [(39, .bool (!y3))] <| T_seq <| J_cd hM ?_ ?_
   · intro hc3 hM
     refine J_seq <| J_region <| R_z [] [(2, .slice none 0 0), (3, .bool false)] <| T_seq <| J_ret <| T_then_ret <| T_block_ret <| T_then_ret <| T_then_ret <| T_hs (good_nil (Rp.sz impl_Step)) ?_
     have h8 : RL imm02 [] ([] : List impl_Step) := RepL.nil
     exact hr _ _ _ _ (pure_some hM).symm hle ⟨_, _, (.tmp rfl (.tmp rfl ResV.nil)), (good_pick [0] rfl (by decide)), ⟨_, _, _, _, rfl, rfl, h8, rfl⟩⟩
   · intro hc3 hM
     refine J_skip <| T_seq <| J_region <| R_d 2 [0] [(40, vS p2 out c2), (41, vA [vI y2.Kind, vI y2.Part, vI y2.A, vI y2.B])] <| R_buildSlice (cs := [vI y2.Kind, vI y2.Part, vI y2.A, vI y2.B]) (Rp.sz impl_Step) rfl rfl rfl rfl (by kernel_rfl) (by kernel_rfl) ?_
     intro b1 hb1
     have h9 : RL imm02 [vI y2.Kind, vI y2.Part, vI y2.A, vI y2.B] ([y2] : List impl_Step) := ⟨[vI y2.Kind, vI y2.Part, vI y2.A, vI y2.B], _, rfl, rfl, (impl_Step_shut rfl), rfl⟩
     obtain ⟨out2, hy5, hM⟩ := bind_some hM
     refine R_ap 35 4 2 rfl rfl rfl h4 (.inr ⟨0, rfl⟩) h9 hy5 ?_
     intro p4 c4 cs3 h10
     exact R_hs (good_pick [1, 2] (hs' := [hB b [vI y2.Kind, vI y2.Part, vI y2.A, vI y2.B], hO impl_Step (vS p4 out2 c4) cs3]) rfl (by decide)) <| R_z [] [(6, vS p4 out2 c4)] <| T_block_normal <| T_seq <| J_region <| R_z [] [(29, vI (W (t29 + 1)))] <| T_loop <| J_hs (good_pick [1] rfl (by decide)) <| J_w [(6, vS p4 out2 c4), (27, vS p1 l c1), (28, vI (l.length : Int)), (29, vI (W (t29 + 1)))] <| ih out2 (W (t29 + 1)) _ hM hle h2 hG h10 hg ho hx hr
 · intro hc2 hM
   exact J_exit <| T_then_exit <| T_then_exit <| T_w [(6, vS p2 out c2)] <| hx _ _ _ _ _ (pure_some hM).symm hle h4
def M.impl_ParseSteps (text : Str) : Option ((List impl_Step) × Bool) := do
 let y ← M.strings_Split text (⟨[10]⟩ : Str)
 let t24 ← (do
   let x ← idx y (W ((y.length : Int) - 1))
   if (!(x.l == ([] : List UInt8))) then
    pure true
   else
    pure (decide ((W ((y.length : Int) - 1)) > 12))
     : Option Bool)
 if t24 then
  pure (([] : List impl_Step), false)
 else
  let l ← slc y 0 (W ((y.length : Int) - 1))
  match ← M.impl_ParseSteps_l1 l ([] : List impl_Step) 0 with
  | .ret r0 => pure r0
  | .done out1 =>
   pure (out1, true)
theorem impl_ParseSteps_ok : ∀ (text : Str) r, M.impl_ParseSteps text = some r → ∀ {imm : Imm} , (GH Tryd.prog imm) → Ret Tryd.prog 11 [vT text.l] imm [] (impl_ParseSteps_post  r) := by
 intro text r hM imm  hG
 unfold M.impl_ParseSteps at hM
 refine ret_of_J (fn := Tryd.f11) (c := (bodyOf Tryd.f11)) Tryd.func11 rfl rfl ?_
 rintro B - -
 have hle : imm.le imm := Imm.le.refl _
 refine J_seq <| J_region <| R_z [] [] <| T_seq <| J_seq <| J_region <| R_d 1 [] [(11, vT text.l)] ?_
 obtain ⟨y, hy, hM⟩ := bind_some hM
 refine R_call (hs1 := []) (rest := []) rfl rfl rfl rfl (by kernel_rfl) rfl rfl (strings_Split_ok text (⟨[10]⟩ : Str) _ hy hG) ?_
 rintro imm0 hs2 v2 k2 le - ⟨v0, rfl, rfl, h⟩ -
 replace hG := hG.mono le
 replace hle := hle.trans le
 obtain ⟨p, c, rfl⟩ := h.form
 refine R_z [] [(4, vS p y c)] <| T_seq <| J_seq <| J_region <| R_z [] [(5, vI (W ((y.length : Int) - 1)))] <| T_seq <| J_seq <| J_seq ?_
 obtain ⟨o0, ho0, hM⟩ := bind_some hM
 refine J_cut (fun imm' hs' m' => ∃ (t24 : Bool), o0 = t24 ∧ imm0.le imm' ∧ hs' = [] ∧ m' = [(4, vS p y c), (5, vI (W ((y.length : Int) - 1))), (24, .bool t24)]) ?_ ?_
 · have hle0 := hle
   have hle : imm0.le imm0 := Imm.le.refl _
   refine J_region <| R_d 2 [] [(16, vS p y c), (17, vI (W ((y.length : Int) - 1)))] ?_
   obtain ⟨x, hy1, hM⟩ := bind_some ho0
   refine R_ix rfl rfl h hy1 ?_
   intro ad ccs hat hrep
   obtain rfl := hrep
   refine R_la 0 hat [vT x.l] (vT x.l) rfl <| R_d 6 [] [(21, .bool (!(x.l == ([] : List UInt8))))] ?_
   cases hc : (!(x.l == ([] : List UInt8))) with
   | true =>
    have hM0 := if_some_true hc hM
    try rw [hc]
    exact R_z [] [(24, .bool true)] <| T_w [(4, vS p y c), (5, vI (W ((y.length : Int) - 1))), (24, .bool true)] <| T_cut ⟨_, (pure_some hM0).symm, hle, rfl, rfl⟩
   | false =>
    have hM01 := if_some_false hc hM
    try rw [hc]
    exact R_z [] [(24, .bool (decide ((W ((y.length : Int) - 1)) > 12)))] <| T_w [(4, vS p y c), (5, vI (W ((y.length : Int) - 1))), (24, .bool (decide ((W ((y.length : Int) - 1)) > 12)))] <| T_cut ⟨_, (pure_some hM01).symm, hle, rfl, rfl⟩
 · rintro imm01 hs2 m2 ⟨t24, heq, le1, rfl, rfl⟩
   subst o0
   replace h := h.mono le1
   replace hG := hG.mono le1
   replace hle := hle.trans le1
   refine T_seq <| J_cd hM ?_ ?_
   · intro hc1 hM
     refine J_seq <| J_region <| R_z [] [(2, .slice none 0 0), (3, .bool false)] <| T_seq <| J_ret <| T_then_ret <| T_hs (good_nil (Rp.sz impl_Step)) ?_
     have h1 : RL imm01 [] ([] : List impl_Step) := RepL.nil
     obtain rfl := pure_some hM
     exact T_RS ⟨_, _, (.tmp rfl (.tmp rfl ResV.nil)), (good_pick [0] rfl (by decide)), ⟨_, _, _, _, rfl, rfl, h1, rfl⟩⟩
   · intro hc1 hM
     refine J_skip <| T_seq <| J_seq <| J_region <| R_z [] [(6, .slice none 0 0)] <| T_seq <| J_seq <| J_seq <| J_region <| R_d 2 [] [(25, vS p y c), (26, vI (W ((y.length : Int) - 1)))] ?_
     obtain ⟨l, hy2, hM⟩ := bind_some hM
     refine R_sl rfl h hy2 ?_
     intro v01 h2
     obtain ⟨p1, c1, rfl⟩ := h2.form
     refine R_z [] [(28, vI (l.length : Int)), (29, vI 0)] <| T_seq <| J_block <| J_w [(6, .slice none 0 0), (27, vS p1 l c1), (28, vI (l.length : Int)), (29, vI 0)] <| J_hs (good_nil (Rp.sz impl_Step)) ?_
     have h3 : RL imm01 [] ([] : List impl_Step) := RepL.nil
     obtain ⟨o01, ho01, hM⟩ := bind_some hM
     refine impl_ParseSteps_l1_ok l ([] : List impl_Step) 0 o01 ho01 (Imm.le.refl _) h2 hG h3 (fun _ _ _ h => h) (fun _ _ h => h) ?_ ?_
     · intro imm03 out1 p3 c3 cs1 heq1 le3 h5
       subst o01
       replace hG := hG.mono le3
       replace hle := hle.trans le3
       refine T_block_here <| T_seq <| J_seq <| J_region <| R_z [] [(2, vS p3 out1 c3), (3, .bool true)] <| T_seq <| J_ret ?_
       obtain rfl := pure_some hM
       exact T_RS ⟨_, _, (.tmp rfl (.tmp rfl ResV.nil)), (good_pick [0] rfl (by decide)), ⟨_, _, _, _, rfl, rfl, h5, rfl⟩⟩
     · intro r0 imm9 hs9 m9 heq9 le9 hrs9
       subst heq9
       refine T_block_ret <| T_then_ret ?_
       obtain rfl := pure_some hM
       exact T_RS hrs9
def laws_markStepS_post (v1 : Value) (r : Int × (List impl_Step)) : Nat → Imm → List HA → Value → Prop := fun kk imm' hs' v =>
  ∃ (v0 : Value), hs' = [] ∧ v = tupV [v0] ∧ v0 = .int .i64 r.1 ∧ SL imm' v1 r.2
def M.laws_markStepS_l1 (a01 : List impl_Step) (k01 : Int) (i : Int) : Option ((List impl_Step × Int)) := do
 if (decide (i < (a01.length : Int))) then
  let x ← idx a01 i
  let l ← pure (a01.set i.toNat (impl_Step.mk k01 x.Part x.A x.B))
  let x1 ← idx l i
  let l1 ← pure (l.set i.toNat (impl_Step.mk x1.Kind (W (k01 + 1)) x1.A x1.B))
  let x2 ← idx l1 i
  let l2 ← pure (l1.set i.toNat (impl_Step.mk x2.Kind x2.Part (W ((W (k01 + 1)) + 1)) x2.B))
  let x3 ← idx l2 i
  let l3 ← pure (l2.set i.toNat (impl_Step.mk x3.Kind x3.Part x3.A (W ((W ((W (k01 + 1)) + 1)) + 1))))
  M.laws_markStepS_l1 l3 (W ((W ((W ((W (k01 + 1)) + 1)) + 1)) + 1)) (W (i + 1))
 else
  pure (a01, k01)
 partial_fixpoint
theorem laws_markStepS_l1_ok  : ∀ (a01 : List impl_Step) (k01 : Int) (i : Int) (o : (List impl_Step × Int)), M.laws_markStepS_l1 a01 k01 i = some o → ∀ {B : Base} {imm0 imm : Imm} {Q : Exit → Act → World → Prop}  {p1 : Option Addr} {c1 : Nat} {cs1 : List Value}, imm0.le imm → (RL imm cs1 a01) → (∀ l a w, ¬ Q (.goto l) a w) → (∀ a w, ¬ Q .outgrown a w) → (∀ (imm' : Imm) (a02 : List impl_Step) (k02 : Int) (cs2 : List Value), a02.length = a01.length → o = (a02, k02) → imm0.le imm' → (RL imm' cs2 a02) → T 41 B Q (.exit 0) imm' [hO impl_Step (vS p1 a02 c1) cs2] [(0, vS p1 a02 c1), (1, vI k02)]) → J Tryd.prog 41 B (nav (bodyOf Tryd.f12) [1, 0, 1, 0]) Q imm [hO impl_Step (vS p1 a01 c1) cs1] [(0, vS p1 a01 c1), (1, vI k01), (5, vI i)] := by
 refine M.laws_markStepS_l1.partial_correctness  _ ?_
 intro self ih a01 k01 i o hM B imm0 imm Q p1 c1 cs1 hle h1 hg ho hx
 refine J_loop hg ho <| J_seq <| J_seq <| J_region <| R_z [] [(9, .bool (decide (i < (a01.length : Int))))] <| T_seq <| J_cd hM ?_ ?_
 · intro hc hM
   refine J_skip <| T_seq <| J_seq <| J_block <| J_seq <| J_region <| R_d 3 [] [(12, vS p1 a01 c1), (13, vI i), (14, vI k01)] ?_
   obtain ⟨x, hy, hM⟩ := bind_some hM
   refine R_ixo 0 rfl rfl rfl h1 hy ?_
   intro ad ccs hat hcc hrep
   obtain rfl := impl_Step_open hrep
   refine R_d 5 [] [(16, .pointer (some ad))] ?_
   obtain ⟨l, hy1, hM⟩ := bind_some hM
   refine R_store_el (c := [vI k01, vI x.Part, vI x.A, vI x.B]) (x' := (impl_Step.mk k01 x.Part x.A x.B)) 0 0 rfl rfl rfl hat rfl rfl hcc (by kernel_rfl) (by kernel_rfl) (by kernel_rfl) h1 hy (by kernel_rfl) (impl_Step_shut rfl) ?_
   rw [show a01.set i.toNat (impl_Step.mk k01 x.Part x.A x.B) = l from pure_some hy1]
   intro cs3 h3 hl0
   refine R_weaken (m' := [(0, vS p1 a01 c1), (1, vI k01), (5, vI i), (14, vI k01)]) ⟨rfl, rfl, rfl, rfl, trivial⟩ <| R_conv (hs' := [hO impl_Step (vS p1 l c1) cs3]) (m' := [(0, vS p1 l c1), (1, vI k01), (5, vI i), (14, vI k01)]) (by first | rfl | simp only [vS, hl0, List.nil_append, List.cons_append, List.set_cons_zero, List.set_cons_succ]) (by first | rfl | simp only [vS, hl0]) <| R_end rfl <| T_seq <| J_seq <| J_region <| R_z [] [(1, vI (W (k01 + 1)))] <| T_seq <| J_seq <| J_region <| R_d 3 [] [(19, vS p1 l c1), (20, vI i), (21, vI (W (k01 + 1)))] ?_
   obtain ⟨x1, hy2, hM⟩ := bind_some hM
   refine R_ixo 0 rfl rfl rfl h3 hy2 ?_
   intro ad1 ccs1 hat1 hcc1 hrep1
   obtain rfl := impl_Step_open hrep1
   refine R_d 5 [] [(23, .pointer (some (ad1.add 1)))] ?_
   obtain ⟨l1, hy3, hM⟩ := bind_some hM
   refine R_store_el (c := [vI x1.Kind, vI (W (k01 + 1)), vI x1.A, vI x1.B]) (x' := (impl_Step.mk x1.Kind (W (k01 + 1)) x1.A x1.B)) 0 1 rfl rfl rfl hat1 rfl rfl hcc1 (by kernel_rfl) (by kernel_rfl) (by kernel_rfl) h3 hy2 (by kernel_rfl) (impl_Step_shut rfl) ?_
   rw [show l.set i.toNat (impl_Step.mk x1.Kind (W (k01 + 1)) x1.A x1.B) = l1 from pure_some hy3]
   intro cs4 h4 hl01
   refine R_weaken (m' := [(0, vS p1 l c1), (1, vI (W (k01 + 1))), (5, vI i), (21, vI (W (k01 + 1)))]) ⟨rfl, rfl, rfl, rfl, trivial⟩ <| R_conv (hs' := [hO impl_Step (vS p1 l1 c1) cs4]) (m' := [(0, vS p1 l1 c1), (1, vI (W (k01 + 1))), (5, vI i), (21, vI (W (k01 + 1)))]) (by first | rfl | simp only [vS, hl01, List.nil_append, List.cons_append, List.set_cons_zero, List.set_cons_succ]) (by first | rfl | simp only [vS, hl01]) <| R_end rfl <| T_seq <| J_seq <| J_region <| R_z [] [(1, vI (W ((W (k01 + 1)) + 1)))] <| T_seq <| J_seq <| J_region <| R_d 3 [] [(26, vS p1 l1 c1), (27, vI i), (28, vI (W ((W (k01 + 1)) + 1)))] ?_
   obtain ⟨x2, hy4, hM⟩ := bind_some hM
   refine R_ixo 0 rfl rfl rfl h4 hy4 ?_
   intro ad2 ccs2 hat2 hcc2 hrep2
   obtain rfl := impl_Step_open hrep2
   refine R_d 5 [] [(30, .pointer (some (ad2.add 2)))] ?_
   obtain ⟨l2, hy5, hM⟩ := bind_some hM
   refine R_store_el (c := [vI x2.Kind, vI x2.Part, vI (W ((W (k01 + 1)) + 1)), vI x2.B]) (x' := (impl_Step.mk x2.Kind x2.Part (W ((W (k01 + 1)) + 1)) x2.B)) 0 2 rfl rfl rfl hat2 rfl rfl hcc2 (by kernel_rfl) (by kernel_rfl) (by kernel_rfl) h4 hy4 (by kernel_rfl) (impl_Step_shut rfl) ?_
   rw [show l1.set i.toNat (impl_Step.mk x2.Kind x2.Part (W ((W (k01 + 1)) + 1)) x2.B) = l2 from pure_some hy5]
   intro cs5 h5 hl02
   refine R_weaken (m' := [(0, vS p1 l1 c1), (1, vI (W ((W (k01 + 1)) + 1))), (5, vI i), (28, vI (W ((W (k01 + 1)) + 1)))]) ⟨rfl, rfl, rfl, rfl, trivial⟩ <| R_conv (hs' := [hO impl_Step (vS p1 l2 c1) cs5]) (m' := [(0, vS p1 l2 c1), (1, vI (W ((W (k01 + 1)) + 1))), (5, vI i), (28, vI (W ((W (k01 + 1)) + 1)))]) (by first | rfl | simp only [vS, hl02, List.nil_append, List.cons_append, List.set_cons_zero, List.set_cons_succ]) (by first | rfl | simp only [vS, hl02]) <| R_end rfl <| T_seq <| J_seq <| J_region <| R_z [] [(1, vI (W ((W ((W (k01 + 1)) + 1)) + 1)))] <| T_seq <| J_seq <| J_region <| R_d 3 [] [(33, vS p1 l2 c1), (34, vI i), (35, vI (W ((W ((W (k01 + 1)) + 1)) + 1)))] ?_
   obtain ⟨x3, hy6, hM⟩ := bind_some hM
   refine R_ixo 0 rfl rfl rfl h5 hy6 ?_
   intro ad3 ccs3 hat3 hcc3 hrep3
   obtain rfl := impl_Step_open hrep3
   refine R_d 5 [] [(37, .pointer (some (ad3.add 3)))] ?_
   obtain ⟨l3, hy7, hM⟩ := bind_some hM
   refine R_store_el (c := [vI x3.Kind, vI x3.Part, vI x3.A, vI (W ((W ((W (k01 + 1)) + 1)) + 1))]) (x' := (impl_Step.mk x3.Kind x3.Part x3.A (W ((W ((W (k01 + 1)) + 1)) + 1)))) 0 3 rfl rfl rfl hat3 rfl rfl hcc3 (by kernel_rfl) (by kernel_rfl) (by kernel_rfl) h5 hy6 (by kernel_rfl) (impl_Step_shut rfl) ?_
   rw [show l2.set i.toNat (impl_Step.mk x3.Kind x3.Part x3.A (W ((W ((W (k01 + 1)) + 1)) + 1))) = l3 from pure_some hy7]
   intro cs6 h6 hl03
   exact R_weaken (m' := [(0, vS p1 l2 c1), (1, vI (W ((W ((W (k01 + 1)) + 1)) + 1))), (5, vI i), (35, vI (W ((W ((W (k01 + 1)) + 1)) + 1)))]) ⟨rfl, rfl, rfl, rfl, trivial⟩ <| R_conv (hs' := [hO impl_Step (vS p1 l3 c1) cs6]) (m' := [(0, vS p1 l3 c1), (1, vI (W ((W ((W (k01 + 1)) + 1)) + 1))), (5, vI i), (35, vI (W ((W ((W (k01 + 1)) + 1)) + 1)))]) (by first | rfl | simp only [vS, hl03, List.nil_append, List.cons_append, List.set_cons_zero, List.set_cons_succ]) (by first | rfl | simp only [vS, hl03]) <| R_end rfl <| T_seq <| J_region <| R_z [] [(1, vI (W ((W ((W ((W (k01 + 1)) + 1)) + 1)) + 1)))] <| T_block_normal <| T_seq <| J_region <| R_z [] [(5, vI (W (i + 1)))] <| T_loop <| J_w [(0, vS p1 l3 c1), (1, vI (W ((W ((W ((W (k01 + 1)) + 1)) + 1)) + 1))), (5, vI (W (i + 1)))] <| ih l3 (W ((W ((W ((W (k01 + 1)) + 1)) + 1)) + 1)) (W (i + 1)) _ hM hle h6 hg ho (fun i a k cs hl => hx i a k cs (hl.trans (hl03.trans (hl02.trans (hl01.trans hl0)))))
 · intro hc hM
   exact J_exit <| T_then_exit <| T_then_exit <| T_w [(0, vS p1 a01 c1), (1, vI k01)] <| hx _ _ _ _ rfl (pure_some hM).symm hle h1
def M.laws_markStepS (a0 : (List impl_Step)) (k0 : Int) : Option (Int × (List impl_Step)) := do
 let (a02, k02) ← M.laws_markStepS_l1 a0 k0 0
 pure (k02, a02)
theorem laws_markStepS_ok : ∀ (a0 : (List impl_Step)) (k0 : Int) r, M.laws_markStepS a0 k0 = some r → ∀ {imm : Imm} {p : Option Addr} {c : Nat} {cs : List Value}, (RL imm cs a0) → Ret Tryd.prog 12 [vS p a0 c, vI k0] imm [hO impl_Step (vS p a0 c) cs] (laws_markStepS_post (vS p a0 c) r) := by
 intro a0 k0 r hM imm p c cs h
 unfold M.laws_markStepS at hM
 refine ret_of_J (fn := Tryd.f12) (c := (bodyOf Tryd.f12)) Tryd.func12 rfl rfl ?_
 rintro B - -
 have hle : imm.le imm := Imm.le.refl _
 refine J_seq <| J_region <| R_z [] [] <| T_seq <| J_seq <| J_seq <| J_region <| R_z [] [(5, vI 0)] <| T_seq <| J_block <| J_w [(0, vS p a0 c), (1, vI k0), (5, vI 0)] ?_
 obtain ⟨o0, ho0, hM⟩ := bind_some hM
 refine laws_markStepS_l1_ok a0 k0 0 o0 ho0 (Imm.le.refl _) h (fun _ _ _ h => h) (fun _ _ h => h) ?_
 intro imm0 a02 k02 cs2 hln heq le h2
 subst o0
 replace hle := hle.trans le
 refine T_block_here <| T_seq <| J_seq <| J_region <| R_z [] [(4, vI k02)] <| T_seq <| J_ret <| T_freeze 0 rfl ?_
 intro imm01 le1 hl04
 have h7 := SL.of_frozen hl04 le1 h2
 replace hle := hle.trans le1
 obtain rfl := pure_some hM
 have e : vS p a02 c = vS p a0 c := by simp only [vS, hln]
 rw [e] at h7
 exact T_RS ⟨_, _, (.tmp rfl ResV.nil), good_none, ⟨_, rfl, rfl, rfl, h7⟩⟩
def laws_heldStepS_post (r : Int) : Nat → Imm → List HA → Value → Prop := fun kk imm' hs' v =>
  ∃ (v0 : Value), hs' = [] ∧ v = tupV [v0] ∧ v0 = .int .i64 r
def M.laws_heldStepS_l1 (a0 : (List impl_Step)) (k01 : Int) (i : Int) : Option (Out Int (Int)) := do
 if (decide (i < (a0.length : Int))) then
  let x ← idx a0 i
  if (x.Kind != k01) then
   pure (.ret (-1))
  else
   let x1 ← idx a0 i
   if (x1.Part != (W (k01 + 1))) then
    pure (.ret (-1))
   else
    let x2 ← idx a0 i
    if (x2.A != (W ((W (k01 + 1)) + 1))) then
     pure (.ret (-1))
    else
     let x3 ← idx a0 i
     if (x3.B != (W ((W ((W (k01 + 1)) + 1)) + 1))) then
      pure (.ret (-1))
     else
      M.laws_heldStepS_l1 a0 (W ((W ((W ((W (k01 + 1)) + 1)) + 1)) + 1)) (W (i + 1))
 else
  pure (.done k01)
 partial_fixpoint
theorem laws_heldStepS_l1_ok (a0 : (List impl_Step)) : ∀ (k01 : Int) (i : Int) (o : Out Int (Int)), M.laws_heldStepS_l1 a0 k01 i = some o → ∀ {B : Base} {imm0 imm : Imm} {Q : Exit → Act → World → Prop}  {p : Option Addr} {c : Nat}, imm0.le imm → (SL imm (vS p a0 c) a0) → (∀ l a w, ¬ Q (.goto l) a w) → (∀ a w, ¬ Q .outgrown a w) → (∀ (imm' : Imm) (k02 : Int), o = (.done k02) → imm0.le imm' → T 49 B Q (.exit 0) imm' [] [(1, vI k02)]) → (∀ r imm' hs' m', o = (.ret r) → imm0.le imm' → RS Tryd.prog Tryd.f13 B (laws_heldStepS_post  r) imm' hs' m' → T 49 B Q .ret imm' hs' m') → J Tryd.prog 49 B (nav (bodyOf Tryd.f13) [1, 0, 1, 0]) Q imm [] [(0, vS p a0 c), (1, vI k01), (5, vI i)] := by
 refine M.laws_heldStepS_l1.partial_correctness a0 _ ?_
 intro self ih k01 i o hM B imm0 imm Q p c hle h hg ho hx hr
 refine J_loop hg ho <| J_seq <| J_seq <| J_region <| R_z [] [(9, .bool (decide (i < (a0.length : Int))))] <| T_seq <| J_cd hM ?_ ?_
 · intro hc hM
   refine J_skip <| T_seq <| J_seq <| J_block <| J_seq <| J_seq <| J_region <| R_d 2 [] [(12, vS p a0 c), (13, vI i)] ?_
   obtain ⟨x, hy, hM⟩ := bind_some hM
   refine R_ix rfl rfl h hy ?_
   intro ad ccs hat hrep
   obtain rfl := impl_Step_open hrep
   refine R_d 4 [] [(15, .pointer (some ad))] <| R_la 0 hat [vI x.Kind] (vI x.Kind) rfl <| R_z [] [(18, .bool (x.Kind != k01))] <| T_seq <| J_cd hM ?_ ?_
   · intro hc1 hM
     exact J_seq <| J_region <| R_z [] [(4, vI (-1))] <| T_seq <| J_ret <| T_then_ret <| T_block_ret <| T_then_ret <| T_then_ret <| hr _ _ _ _ (pure_some hM).symm hle ⟨_, _, (.tmp rfl ResV.nil), good_none, ⟨_, rfl, rfl, rfl⟩⟩
   · intro hc1 hM
     refine J_skip <| T_seq <| J_seq <| J_region <| R_z [] [(1, vI (W (k01 + 1)))] <| T_seq <| J_seq <| J_seq <| J_region <| R_d 2 [] [(21, vS p a0 c), (22, vI i)] ?_
     obtain ⟨x1, hy1, hM⟩ := bind_some hM
     refine R_ix rfl rfl h hy1 ?_
     intro ad1 ccs1 hat1 hrep1
     obtain rfl := impl_Step_open hrep1
     refine R_d 4 [] [(24, .pointer (some (ad1.add 1)))] <| R_la 1 hat1 [vI x1.Part] (vI x1.Part) rfl <| R_z [] [(27, .bool (x1.Part != (W (k01 + 1))))] <| T_seq <| J_cd hM ?_ ?_
     · intro hc2 hM
       exact J_seq <| J_region <| R_z [] [(4, vI (-1))] <| T_seq <| J_ret <| T_then_ret <| T_block_ret <| T_then_ret <| T_then_ret <| hr _ _ _ _ (pure_some hM).symm hle ⟨_, _, (.tmp rfl ResV.nil), good_none, ⟨_, rfl, rfl, rfl⟩⟩
     · intro hc2 hM
       refine J_skip <| T_seq <| J_seq <| J_region <| R_z [] [(1, vI (W ((W (k01 + 1)) + 1)))] <| T_seq <| J_seq <| J_seq <| J_region <| R_d 2 [] [(30, vS p a0 c), (31, vI i)] ?_
       obtain ⟨x2, hy2, hM⟩ := bind_some hM
       refine R_ix rfl rfl h hy2 ?_
       intro ad2 ccs2 hat2 hrep2
       obtain rfl := impl_Step_open hrep2
       refine R_d 4 [] [(33, .pointer (some (ad2.add 2)))] <| R_la 2 hat2 [vI x2.A] (vI x2.A) rfl <| R_z [] [(36, .bool (x2.A != (W ((W (k01 + 1)) + 1))))] <| T_seq <| J_cd hM ?_ ?_
       · intro hc3 hM
         exact J_seq <| J_region <| R_z [] [(4, vI (-1))] <| T_seq <| J_ret <| T_then_ret <| T_block_ret <| T_then_ret <| T_then_ret <| hr _ _ _ _ (pure_some hM).symm hle ⟨_, _, (.tmp rfl ResV.nil), good_none, ⟨_, rfl, rfl, rfl⟩⟩
       · intro hc3 hM
         refine J_skip <| T_seq <| J_seq <| J_region <| R_z [] [(1, vI (W ((W ((W (k01 + 1)) + 1)) + 1)))] <| T_seq <| J_seq <| J_seq <| J_region <| R_d 2 [] [(39, vS p a0 c), (40, vI i)] ?_
         obtain ⟨x3, hy3, hM⟩ := bind_some hM
         refine R_ix rfl rfl h hy3 ?_
         intro ad3 ccs3 hat3 hrep3
         obtain rfl := impl_Step_open hrep3
         refine R_d 4 [] [(42, .pointer (some (ad3.add 3)))] <| R_la 3 hat3 [vI x3.B] (vI x3.B) rfl <| R_z [] [(45, .bool (x3.B != (W ((W ((W (k01 + 1)) + 1)) + 1))))] <| T_seq <| J_cd hM ?_ ?_
         · intro hc4 hM
           exact J_seq <| J_region <| R_z [] [(4, vI (-1))] <| T_seq <| J_ret <| T_then_ret <| T_block_ret <| T_then_ret <| T_then_ret <| hr _ _ _ _ (pure_some hM).symm hle ⟨_, _, (.tmp rfl ResV.nil), good_none, ⟨_, rfl, rfl, rfl⟩⟩
         · intro hc4 hM
           exact J_skip <| T_seq <| J_region <| R_z [] [(1, vI (W ((W ((W ((W (k01 + 1)) + 1)) + 1)) + 1)))] <| T_block_normal <| T_seq <| J_region <| R_z [] [(5, vI (W (i + 1)))] <| T_loop <| J_w [(0, vS p a0 c), (1, vI (W ((W ((W ((W (k01 + 1)) + 1)) + 1)) + 1))), (5, vI (W (i + 1)))] <| ih (W ((W ((W ((W (k01 + 1)) + 1)) + 1)) + 1)) (W (i + 1)) _ hM hle h hg ho hx hr
 · intro hc hM
   exact J_exit <| T_then_exit <| T_then_exit <| T_w [(1, vI k01)] <| hx _ _ (pure_some hM).symm hle
def M.laws_heldStepS (a0 : (List impl_Step)) (k0 : Int) : Option (Int) := do
 match ← M.laws_heldStepS_l1 a0 k0 0 with
 | .ret r0 => pure r0
 | .done k02 =>
  pure (id k02)
theorem laws_heldStepS_ok : ∀ (a0 : (List impl_Step)) (k0 : Int) r, M.laws_heldStepS a0 k0 = some r → ∀ {imm : Imm} {p : Option Addr} {c : Nat}, (SL imm (vS p a0 c) a0) → Ret Tryd.prog 13 [vS p a0 c, vI k0] imm [] (laws_heldStepS_post  r) := by
 intro a0 k0 r hM imm p c h
 unfold M.laws_heldStepS at hM
 refine ret_of_J (fn := Tryd.f13) (c := (bodyOf Tryd.f13)) Tryd.func13 rfl rfl ?_
 rintro B - -
 have hle : imm.le imm := Imm.le.refl _
 refine J_seq <| J_region <| R_z [] [] <| T_seq <| J_seq <| J_seq <| J_region <| R_z [] [(5, vI 0)] <| T_seq <| J_block <| J_w [(0, vS p a0 c), (1, vI k0), (5, vI 0)] ?_
 obtain ⟨o0, ho0, hM⟩ := bind_some hM
 refine laws_heldStepS_l1_ok a0 k0 0 o0 ho0 (Imm.le.refl _) h (fun _ _ _ h => h) (fun _ _ h => h) ?_ ?_
 · intro imm0 k02 heq le
   subst o0
   replace hle := hle.trans le
   refine T_block_here <| T_seq <| J_seq <| J_region <| R_z [] [(4, vI k02)] <| T_seq <| J_ret ?_
   obtain rfl := pure_some hM
   exact T_RS ⟨_, _, (.tmp rfl ResV.nil), good_none, ⟨_, rfl, rfl, rfl⟩⟩
 · intro r0 imm9 hs9 m9 heq9 le9 hrs9
   subst heq9
   refine T_block_ret <| T_then_ret ?_
   obtain rfl := pure_some hM
   exact T_RS hrs9
def laws_FnExactParseSteps_post (r : Bool) : Nat → Imm → List HA → Value → Prop := fun kk imm' hs' v =>
  ∃ (v0 : Value), hs' = [] ∧ v = tupV [v0] ∧ v0 = .bool r
def M.laws_FnExactParseSteps (aText : Str) : Option (Bool) := do
 if (decide ((aText.l.length : Int) > 1048576)) then
  pure true
 else
  let (y1, y2) ← M.spec_ParseSteps aText
  let (y4, y5) ← M.impl_ParseSteps aText
  let t32 ← (do
    let y6 ← M.laws_eqStepS y4 y1
    if (!y6) then
     pure true
    else
     pure (!(y5 == y2))
      : Option Bool)
  if t32 then
   pure false
  else
   let (y8, y9) ← M.laws_markStepS y4 1
   let y10 ← M.laws_heldStepS y9 1
   if (decide (y10 < 0)) then
    pure false
   else
    if (y10 != y8) then
     pure false
    else
     let (y12, y13) ← M.impl_ParseSteps aText
     let t57 ← (do
       let y14 ← M.laws_eqStepS y12 y1
       if (!y14) then
        pure true
       else
        pure (!(y13 == y2))
         : Option Bool)
     if t57 then
      pure false
     else
      let y15 ← M.laws_heldStepS y9 1
      if (decide (y15 < 0)) then
       pure false
      else
       if (y15 != y8) then
        pure false
       else
        pure true
theorem laws_FnExactParseSteps_ok : ∀ (aText : Str) r, M.laws_FnExactParseSteps aText = some r → ∀ {imm : Imm} , (GH Tryd.prog imm) → Ret Tryd.prog 4 [vT aText.l] imm [] (laws_FnExactParseSteps_post  r) := by
 intro aText r hM imm  hG
 unfold M.laws_FnExactParseSteps at hM
 refine ret_of_J (fn := Tryd.f4) (c := (bodyOf Tryd.f4)) Tryd.func4 rfl rfl ?_
 rintro B - -
 have hle : imm.le imm := Imm.le.refl _
 refine J_seq <| J_region <| R_z [] [] <| T_seq <| J_seq <| J_seq <| J_region <| R_z [] [(13, .bool (decide ((aText.l.length : Int) > 1048576)))] <| T_seq <| J_cd hM ?_ ?_
 · intro hc hM
   refine J_seq <| J_region <| R_z [] [(2, .bool true)] <| T_seq <| J_ret <| T_then_ret ?_
   obtain rfl := pure_some hM
   exact T_RS ⟨_, _, (.tmp rfl ResV.nil), good_none, ⟨_, rfl, rfl, rfl⟩⟩
 · intro hc hM
   refine J_skip <| T_seq <| J_seq <| J_region <| R_d 1 [] [(15, vT aText.l)] ?_
   obtain ⟨⟨y1, y2⟩, hy, hM⟩ := bind_some hM
   refine R_call (hs1 := []) (rest := []) rfl rfl rfl rfl (by kernel_rfl) rfl rfl (spec_ParseSteps_ok aText _ hy ) ?_
   rintro imm0 hs2 v2 k2 le - ⟨v0, v01, rfl, rfl, h, rfl⟩ -
   replace hG := hG.mono le
   replace hle := hle.trans le
   obtain ⟨p, c, rfl⟩ := h.form
   refine R_z [] [(3, vS p y1 c), (4, .bool y2)] <| T_seq <| J_seq <| J_region <| R_d 1 [] [(20, vT aText.l)] ?_
   obtain ⟨⟨y4, y5⟩, hy1, hM⟩ := bind_some hM
   refine R_call (hs1 := []) (rest := []) rfl rfl rfl rfl (by kernel_rfl) rfl rfl (impl_ParseSteps_ok aText _ hy1 hG) ?_
   rintro imm01 hs2 v2 k2 le1 - ⟨p1, c1, cs, v02, rfl, rfl, h2, rfl⟩ -
   replace h := h.mono le1
   replace hG := hG.mono le1
   replace hle := hle.trans le1
   refine R_z [] [(5, vS p1 y4 c1), (6, .bool y5)] <| T_seq <| J_seq <| J_seq ?_
   obtain ⟨o0, ho0, hM⟩ := bind_some hM
   refine J_cut (fun imm' hs' m' => ∃ (t32 : Bool), o0 = t32 ∧ imm01.le imm' ∧ hs' = [hO impl_Step (vS p1 y4 c1) cs] ∧ m' = [(0, vT aText.l), (3, vS p y1 c), (4, .bool y2), (5, vS p1 y4 c1), (32, .bool t32)]) ?_ ?_
   · have hle0 := hle
     have hle : imm01.le imm01 := Imm.le.refl _
     refine J_region <| R_d 2 [] [(24, vS p1 y4 c1), (25, vS p y1 c)] ?_
     obtain ⟨y6, hy2, hM⟩ := bind_some ho0
     refine R_call_lend (L := [hO impl_Step (vS p1 y4 c1) cs]) (hs1 := []) (rest := []) rfl rfl rfl rfl (by kernel_rfl) rfl rfl (fun i1 le1 hl1 => laws_eqStepS_ok y4 y1 _ hy2 ⟨_, hl1 (hO impl_Step (vS p1 y4 c1) cs) (by simp), RepL.mono (fun _ _ => Rp.mono le1) h2⟩ (h.mono le1)) ?_
     rintro - imm03 hs2 v2 k2 le2 - - - ⟨v03, rfl, rfl, rfl⟩ -
     replace h := h.mono le2
     replace h2 := RepL.mono (fun _ _ => Rp.mono le2) h2
     replace hG := hG.mono le2
     replace hle := hle.trans le2
     refine R_d 5 [] [(28, .bool (!y6))] ?_
     cases hc1 : (!y6) with
     | true =>
      have hM0 := if_some_true hc1 hM
      try rw [hc1]
      exact R_z [] [(32, .bool true)] <| T_w [(0, vT aText.l), (3, vS p y1 c), (4, .bool y2), (5, vS p1 y4 c1), (32, .bool true)] <| T_cut ⟨_, (pure_some hM0).symm, hle, rfl, rfl⟩
     | false =>
      have hM01 := if_some_false hc1 hM
      try rw [hc1]
      exact R_z [] [(32, .bool (!(y5 == y2)))] <| T_w [(0, vT aText.l), (3, vS p y1 c), (4, .bool y2), (5, vS p1 y4 c1), (32, .bool (!(y5 == y2)))] <| T_cut ⟨_, (pure_some hM01).symm, hle, rfl, rfl⟩
   · rintro imm02 hs2 m2 ⟨t32, heq, le3, rfl, rfl⟩
     subst o0
     replace h := h.mono le3
     replace h2 := RepL.mono (fun _ _ => Rp.mono le3) h2
     replace hG := hG.mono le3
     replace hle := hle.trans le3
     refine T_seq <| J_cd hM ?_ ?_
     · intro hc2 hM
       refine J_seq <| J_region <| R_z [] [(2, .bool false)] <| T_seq <| J_ret <| T_then_ret ?_
       obtain rfl := pure_some hM
       exact T_RS ⟨_, _, (.tmp rfl ResV.nil), good_none, ⟨_, rfl, rfl, rfl⟩⟩
     · intro hc2 hM
       refine J_skip <| T_seq <| J_seq <| J_region <| R_z [] [(7, vI 1)] <| T_seq <| J_seq <| J_region <| R_d 2 [] [(33, vS p1 y4 c1), (34, vI 1)] ?_
       obtain ⟨⟨y8, y9⟩, hy3, hM⟩ := bind_some hM
       refine R_call (hs1 := [hO impl_Step (vS p1 y4 c1) cs]) (rest := []) rfl rfl rfl rfl (by kernel_rfl) rfl rfl (laws_markStepS_ok y4 1 _ hy3 h2) ?_
       rintro imm04 hs2 v2 k2 le4 - ⟨v04, rfl, rfl, rfl, h6⟩ -
       replace h := h.mono le4
       replace hG := hG.mono le4
       replace hle := hle.trans le4
       obtain ⟨p2, c2, e6⟩ := h6.form
       rw [show vS p1 y4 c1 = vS p2 y9 c2 from e6] at h6 ⊢
       refine R_z [] [(7, vI y8)] <| T_seq <| J_seq <| J_region <| R_z [] [(8, vI 1)] <| T_seq <| J_seq <| J_region <| R_d 2 [] [(36, vS p2 y9 c2), (37, vI 1)] ?_
       obtain ⟨y10, hy4, hM⟩ := bind_some hM
       refine R_call (hs1 := []) (rest := []) rfl rfl rfl rfl (by kernel_rfl) rfl rfl (laws_heldStepS_ok y9 1 _ hy4 h6) ?_
       rintro imm05 hs2 v2 k2 le5 - ⟨v06, rfl, rfl, rfl⟩ -
       replace h := h.mono le5
       replace h6 := h6.mono le5
       replace hG := hG.mono le5
       replace hle := hle.trans le5
       refine R_z [] [(8, vI y10)] <| T_seq <| J_seq <| J_seq <| J_region <| R_z [] [(40, .bool (decide (y10 < 0)))] <| T_seq <| J_cd hM ?_ ?_
       · intro hc3 hM
         refine J_seq <| J_region <| R_z [] [(2, .bool false)] <| T_seq <| J_ret <| T_then_ret ?_
         obtain rfl := pure_some hM
         exact T_RS ⟨_, _, (.tmp rfl ResV.nil), good_none, ⟨_, rfl, rfl, rfl⟩⟩
       · intro hc3 hM
         refine J_skip <| T_seq <| J_seq <| J_seq <| J_region <| R_z [] [(43, .bool (y10 != y8))] <| T_seq <| J_cd hM ?_ ?_
         · intro hc4 hM
           refine J_seq <| J_region <| R_z [] [(2, .bool false)] <| T_seq <| J_ret <| T_then_ret ?_
           obtain rfl := pure_some hM
           exact T_RS ⟨_, _, (.tmp rfl ResV.nil), good_none, ⟨_, rfl, rfl, rfl⟩⟩
         · intro hc4 hM
           refine J_skip <| T_seq <| J_seq <| J_region <| R_d 1 [] [(45, vT aText.l)] ?_
           obtain ⟨⟨y12, y13⟩, hy5, hM⟩ := bind_some hM
           refine R_call (hs1 := []) (rest := []) rfl rfl rfl rfl (by kernel_rfl) rfl rfl (impl_ParseSteps_ok aText _ hy5 hG) ?_
           rintro imm06 hs2 v2 k2 le6 - ⟨p3, c3, cs1, v07, rfl, rfl, h8, rfl⟩ -
           replace h := h.mono le6
           replace h6 := h6.mono le6
           replace hG := hG.mono le6
           replace hle := hle.trans le6
           refine R_z [] [(9, vS p3 y12 c3), (10, .bool y13)] <| T_seq <| J_seq <| J_seq ?_
           obtain ⟨o01, ho01, hM⟩ := bind_some hM
           refine J_cut (fun imm' hs' m' => ∃ (t57 : Bool), o01 = t57 ∧ imm06.le imm' ∧ hs' = [] ∧ m' = [(5, vS p2 y9 c2), (7, vI y8), (57, .bool t57)]) ?_ ?_
           · have hle0 := hle
             have hle : imm06.le imm06 := Imm.le.refl _
             refine J_region <| R_d 2 [] [(49, vS p3 y12 c3), (50, vS p y1 c)] <| R_freeze 0 rfl ?_
             intro imm08 le7 hl0
             have h10 := SL.of_frozen hl0 le7 h8
             replace h6 := h6.mono le7
             replace h := h.mono le7
             replace hG := hG.mono le7
             replace hle := hle.trans le7
             obtain ⟨y14, hy6, hM⟩ := bind_some ho01
             refine R_call (hs1 := []) (rest := []) rfl rfl rfl rfl (by kernel_rfl) rfl rfl (laws_eqStepS_ok y12 y1 _ hy6 h10 h) ?_
             rintro imm09 hs2 v2 k2 le8 - ⟨v08, rfl, rfl, rfl⟩ -
             replace h6 := h6.mono le8
             replace hG := hG.mono le8
             replace hle := hle.trans le8
             refine R_d 5 [] [(53, .bool (!y14))] ?_
             cases hc5 : (!y14) with
             | true =>
              have hM02 := if_some_true hc5 hM
              try rw [hc5]
              exact R_z [] [(57, .bool true)] <| T_w [(5, vS p2 y9 c2), (7, vI y8), (57, .bool true)] <| T_cut ⟨_, (pure_some hM02).symm, hle, rfl, rfl⟩
             | false =>
              have hM03 := if_some_false hc5 hM
              try rw [hc5]
              exact R_z [] [(57, .bool (!(y13 == y2)))] <| T_w [(5, vS p2 y9 c2), (7, vI y8), (57, .bool (!(y13 == y2)))] <| T_cut ⟨_, (pure_some hM03).symm, hle, rfl, rfl⟩
           · rintro imm07 hs2 m2 ⟨t57, heq1, le9, rfl, rfl⟩
             subst o01
             replace h6 := h6.mono le9
             replace hG := hG.mono le9
             replace hle := hle.trans le9
             refine T_seq <| J_cd hM ?_ ?_
             · intro hc6 hM
               refine J_seq <| J_region <| R_z [] [(2, .bool false)] <| T_seq <| J_ret <| T_then_ret ?_
               obtain rfl := pure_some hM
               exact T_RS ⟨_, _, (.tmp rfl ResV.nil), good_none, ⟨_, rfl, rfl, rfl⟩⟩
             · intro hc6 hM
               refine J_skip <| T_seq <| J_seq <| J_region <| R_z [] [(8, vI 1)] <| T_seq <| J_seq <| J_region <| R_d 2 [] [(58, vS p2 y9 c2), (59, vI 1)] ?_
               obtain ⟨y15, hy7, hM⟩ := bind_some hM
               refine R_call (hs1 := []) (rest := []) rfl rfl rfl rfl (by kernel_rfl) rfl rfl (laws_heldStepS_ok y9 1 _ hy7 h6) ?_
               rintro imm010 hs2 v2 k2 le10 - ⟨v09, rfl, rfl, rfl⟩ -
               replace hG := hG.mono le10
               replace hle := hle.trans le10
               refine R_z [] [(8, vI y15)] <| T_seq <| J_seq <| J_seq <| J_region <| R_z [] [(62, .bool (decide (y15 < 0)))] <| T_seq <| J_cd hM ?_ ?_
               · intro hc7 hM
                 refine J_seq <| J_region <| R_z [] [(2, .bool false)] <| T_seq <| J_ret <| T_then_ret ?_
                 obtain rfl := pure_some hM
                 exact T_RS ⟨_, _, (.tmp rfl ResV.nil), good_none, ⟨_, rfl, rfl, rfl⟩⟩
               · intro hc7 hM
                 refine J_skip <| T_seq <| J_seq <| J_seq <| J_region <| R_z [] [(65, .bool (y15 != y8))] <| T_seq <| J_cd hM ?_ ?_
                 · intro hc8 hM
                   refine J_seq <| J_region <| R_z [] [(2, .bool false)] <| T_seq <| J_ret <| T_then_ret ?_
                   obtain rfl := pure_some hM
                   exact T_RS ⟨_, _, (.tmp rfl ResV.nil), good_none, ⟨_, rfl, rfl, rfl⟩⟩
                 · intro hc8 hM
                   refine J_skip <| T_seq <| J_seq <| J_region <| R_z [] [(2, .bool true)] <| T_seq <| J_ret ?_
                   obtain rfl := pure_some hM
                   exact T_RS ⟨_, _, (.tmp rfl ResV.nil), good_none, ⟨_, rfl, rfl, rfl⟩⟩
end Go.LN
