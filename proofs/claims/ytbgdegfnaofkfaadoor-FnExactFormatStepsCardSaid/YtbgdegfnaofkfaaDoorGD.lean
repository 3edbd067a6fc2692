import Derived.Test.YtbgdegfnaofkfaaDoorLnTD
import Derived.Test.YtbgdegfnaofkfaaDoorTrydShelf
namespace Go.LN
open Go.Proofs
set_option linter.unusedVariables false
set_option maxRecDepth 20000

def laws_szStepS_post (r : Int) : Nat → Imm → List HA → Value → Prop := fun kk imm' hs' v =>
  ∃ (v0 : Value), hs' = [] ∧ v = tupV [v0] ∧ v0 = .int .i64 r

def M.laws_szStepS (a0 : (List laws_Step)) (left : Int) : Option (Int) := do
 if (decide ((W (left - (a0.length : Int))) < 0)) then
  pure (-1)
 else
  pure (W (left - (a0.length : Int)))

theorem laws_szStepS_ok : ∀ (a0 : (List laws_Step)) (left : Int) r, M.laws_szStepS a0 left = some r → ∀ {imm : Imm} {p : Option Addr} {c : Nat}, (SL imm (vS p a0 c) a0) → Ret Tryd.prog 5 [vS p a0 c, vI left] imm [] (laws_szStepS_post  r) := by
 intro a0 left r hM imm p c h
 unfold M.laws_szStepS at hM
 refine ret_of_J (fn := Tryd.f5) (c := (bodyOf Tryd.f5)) Tryd.func5 rfl rfl ?_
 rintro B - -
 have hle : imm.le imm := Imm.le.refl _
 refine J_seq <| J_region <| R_z [] [] <| T_seq <| J_seq <| J_region <| R_z [] [(1, vI (W (left - (a0.length : Int))))] <| T_seq <| J_seq <| J_seq <| J_region <| R_z [] [(10, .bool (decide ((W (left - (a0.length : Int))) < 0)))] <| T_seq <| J_cd hM ?_ ?_
 · intro hc hM
   refine J_seq <| J_region <| R_z [] [(4, vI (-1))] <| T_seq <| J_ret <| T_then_ret ?_
   obtain rfl := pure_some hM
   exact T_RS ⟨_, _, (.tmp rfl ResV.nil), good_none, ⟨_, rfl, rfl, rfl⟩⟩
 · intro hc hM
   refine J_skip <| T_seq <| J_seq <| J_region <| R_z [] [(4, vI (W (left - (a0.length : Int))))] <| T_seq <| J_ret ?_
   obtain rfl := pure_some hM
   exact T_RS ⟨_, _, (.tmp rfl ResV.nil), good_none, ⟨_, rfl, rfl, rfl⟩⟩

def spec_l14Fields_post (r : Int) : Nat → Imm → List HA → Value → Prop := fun kk imm' hs' v =>
  ∃ (v0 : Value), hs' = [] ∧ v = tupV [v0] ∧ v0 = .int .i64 r

def M.spec_l14Fields (kind : Int) : Option (Int) := do
 let t4 ← (do
   if (kind == 3) then
    pure (kind == 3)
   else
    let t41 ← (do
      if (kind == 4) then
       pure (kind == 4)
      else
       pure (kind == 5)
        : Option Bool)
    pure (id t41)
     : Option Bool)
 if t4 then
  pure (id 3)
 else
  let t8 ← (do
    if (kind == 1) then
     pure (kind == 1)
    else
     let t81 ← (do
       if (kind == 2) then
        pure (kind == 2)
       else
        let t82 ← (do
          if (kind == 7) then
           pure (kind == 7)
          else
           pure (kind == 8)
            : Option Bool)
        pure (id t82)
         : Option Bool)
     pure (id t81)
      : Option Bool)
  if t8 then
   pure (id 2)
  else
   let t13 ← (do
     if (kind == 6) then
      pure (kind == 6)
     else
      let t131 ← (do
        if (kind == 9) then
         pure (kind == 9)
        else
         pure (kind == 10)
          : Option Bool)
      pure (id t131)
       : Option Bool)
   if t13 then
    pure (id 1)
   else
    pure (id 0)

theorem spec_l14Fields_ok : ∀ (kind : Int) r, M.spec_l14Fields kind = some r → ∀ {imm : Imm} , Ret Tryd.prog 17 [vI kind] imm [] (spec_l14Fields_post  r) := by
 intro kind r hM imm  
 unfold M.spec_l14Fields at hM
 refine ret_of_J (fn := Tryd.f17) (c := (bodyOf Tryd.f17)) Tryd.func17 rfl rfl ?_
 rintro B - -
 have hle : imm.le imm := Imm.le.refl _
 refine J_seq <| J_region <| R_z [] [] <| T_seq <| J_seq <| J_seq <| J_region <| R_z [] [(3, vI kind)] <| T_seq <| J_block <| J_seq <| J_seq <| J_region <| R_z [] [(4, .bool (kind == 3))] <| T_seq ?_
 obtain ⟨o0, ho0, hM⟩ := bind_some hM
 refine J_cut (fun imm' hs' m' => ∃ (t4 : Bool), o0 = t4 ∧ imm.le imm' ∧ hs' = [] ∧ m' = [(3, vI kind), (4, .bool t4)]) ?_ ?_
 · have hle0 := hle
   have hle : imm.le imm := Imm.le.refl _
   refine J_cd ho0 ?_ ?_
   · intro hc hM
     exact J_skip <| T_w [(3, vI kind), (4, .bool (kind == 3))] <| T_cut ⟨_, (pure_some hM).symm, hle, rfl, rfl⟩
   · intro hc hM
     refine J_seq <| J_region <| R_z [] [(4, .bool (kind == 4))] <| T_seq ?_
     obtain ⟨o01, ho01, hM⟩ := bind_some hM
     refine J_cut (fun imm' hs' m' => ∃ (t41 : Bool), o01 = t41 ∧ imm.le imm' ∧ hs' = [] ∧ m' = [(3, vI kind), (4, .bool t41)]) ?_ ?_
     · have hle0 := hle
       have hle : imm.le imm := Imm.le.refl _
       refine J_cd ho01 ?_ ?_
       · intro hc1 hM
         exact J_skip <| T_w [(3, vI kind), (4, .bool (kind == 4))] <| T_cut ⟨_, (pure_some hM).symm, hle, rfl, rfl⟩
       · intro hc1 hM
         exact J_region <| R_z [] [(4, .bool (kind == 5))] <| T_w [(3, vI kind), (4, .bool (kind == 5))] <| T_cut ⟨_, (pure_some hM).symm, hle, rfl, rfl⟩
     · rintro imm01 hs2 m2 ⟨t41, heq, le, rfl, rfl⟩
       subst o01
       replace hle := hle.trans le
       exact T_w [(3, vI kind), (4, .bool t41)] <| T_cut ⟨_, (pure_some hM).symm, hle, rfl, rfl⟩
 · rintro imm0 hs2 m2 ⟨t4, heq1, le1, rfl, rfl⟩
   subst o0
   replace hle := hle.trans le1
   refine T_seq <| J_cd hM ?_ ?_
   · intro hc2 hM
     refine J_seq <| J_region <| R_z [] [(2, vI 3)] <| T_seq <| J_ret <| T_block_ret <| T_then_ret ?_
     obtain rfl := pure_some hM
     exact T_RS ⟨_, _, (.tmp rfl ResV.nil), good_none, ⟨_, rfl, rfl, rfl⟩⟩
   · intro hc2 hM
     refine J_seq <| J_seq <| J_region <| R_z [] [(8, .bool (kind == 1))] <| T_seq ?_
     obtain ⟨o02, ho02, hM⟩ := bind_some hM
     refine J_cut (fun imm' hs' m' => ∃ (t8 : Bool), o02 = t8 ∧ imm0.le imm' ∧ hs' = [] ∧ m' = [(3, vI kind), (8, .bool t8)]) ?_ ?_
     · have hle0 := hle
       have hle : imm0.le imm0 := Imm.le.refl _
       refine J_cd ho02 ?_ ?_
       · intro hc3 hM
         exact J_skip <| T_w [(3, vI kind), (8, .bool (kind == 1))] <| T_cut ⟨_, (pure_some hM).symm, hle, rfl, rfl⟩
       · intro hc3 hM
         refine J_seq <| J_region <| R_z [] [(8, .bool (kind == 2))] <| T_seq ?_
         obtain ⟨o03, ho03, hM⟩ := bind_some hM
         refine J_cut (fun imm' hs' m' => ∃ (t81 : Bool), o03 = t81 ∧ imm0.le imm' ∧ hs' = [] ∧ m' = [(3, vI kind), (8, .bool t81)]) ?_ ?_
         · have hle0 := hle
           have hle : imm0.le imm0 := Imm.le.refl _
           refine J_cd ho03 ?_ ?_
           · intro hc4 hM
             exact J_skip <| T_w [(3, vI kind), (8, .bool (kind == 2))] <| T_cut ⟨_, (pure_some hM).symm, hle, rfl, rfl⟩
           · intro hc4 hM
             refine J_seq <| J_region <| R_z [] [(8, .bool (kind == 7))] <| T_seq ?_
             obtain ⟨o04, ho04, hM⟩ := bind_some hM
             refine J_cut (fun imm' hs' m' => ∃ (t82 : Bool), o04 = t82 ∧ imm0.le imm' ∧ hs' = [] ∧ m' = [(3, vI kind), (8, .bool t82)]) ?_ ?_
             · have hle0 := hle
               have hle : imm0.le imm0 := Imm.le.refl _
               refine J_cd ho04 ?_ ?_
               · intro hc5 hM
                 exact J_skip <| T_w [(3, vI kind), (8, .bool (kind == 7))] <| T_cut ⟨_, (pure_some hM).symm, hle, rfl, rfl⟩
               · intro hc5 hM
                 exact J_region <| R_z [] [(8, .bool (kind == 8))] <| T_w [(3, vI kind), (8, .bool (kind == 8))] <| T_cut ⟨_, (pure_some hM).symm, hle, rfl, rfl⟩
             · rintro imm04 hs2 m2 ⟨t82, heq2, le2, rfl, rfl⟩
               subst o04
               replace hle := hle.trans le2
               exact T_w [(3, vI kind), (8, .bool t82)] <| T_cut ⟨_, (pure_some hM).symm, hle, rfl, rfl⟩
         · rintro imm03 hs2 m2 ⟨t81, heq3, le3, rfl, rfl⟩
           subst o03
           replace hle := hle.trans le3
           exact T_w [(3, vI kind), (8, .bool t81)] <| T_cut ⟨_, (pure_some hM).symm, hle, rfl, rfl⟩
     · rintro imm02 hs2 m2 ⟨t8, heq4, le4, rfl, rfl⟩
       subst o02
       replace hle := hle.trans le4
       refine T_seq <| J_cd hM ?_ ?_
       · intro hc6 hM
         refine J_seq <| J_region <| R_z [] [(2, vI 2)] <| T_seq <| J_ret <| T_block_ret <| T_then_ret ?_
         obtain rfl := pure_some hM
         exact T_RS ⟨_, _, (.tmp rfl ResV.nil), good_none, ⟨_, rfl, rfl, rfl⟩⟩
       · intro hc6 hM
         refine J_seq <| J_seq <| J_region <| R_z [] [(13, .bool (kind == 6))] <| T_seq ?_
         obtain ⟨o05, ho05, hM⟩ := bind_some hM
         refine J_cut (fun imm' hs' m' => ∃ (t13 : Bool), o05 = t13 ∧ imm02.le imm' ∧ hs' = [] ∧ m' = [(13, .bool t13)]) ?_ ?_
         · have hle0 := hle
           have hle : imm02.le imm02 := Imm.le.refl _
           refine J_cd ho05 ?_ ?_
           · intro hc7 hM
             exact J_skip <| T_w [(13, .bool (kind == 6))] <| T_cut ⟨_, (pure_some hM).symm, hle, rfl, rfl⟩
           · intro hc7 hM
             refine J_seq <| J_region <| R_z [] [(13, .bool (kind == 9))] <| T_seq ?_
             obtain ⟨o06, ho06, hM⟩ := bind_some hM
             refine J_cut (fun imm' hs' m' => ∃ (t131 : Bool), o06 = t131 ∧ imm02.le imm' ∧ hs' = [] ∧ m' = [(13, .bool t131)]) ?_ ?_
             · have hle0 := hle
               have hle : imm02.le imm02 := Imm.le.refl _
               refine J_cd ho06 ?_ ?_
               · intro hc8 hM
                 exact J_skip <| T_w [(13, .bool (kind == 9))] <| T_cut ⟨_, (pure_some hM).symm, hle, rfl, rfl⟩
               · intro hc8 hM
                 exact J_region <| R_z [] [(13, .bool (kind == 10))] <| T_w [(13, .bool (kind == 10))] <| T_cut ⟨_, (pure_some hM).symm, hle, rfl, rfl⟩
             · rintro imm06 hs2 m2 ⟨t131, heq5, le5, rfl, rfl⟩
               subst o06
               replace hle := hle.trans le5
               exact T_w [(13, .bool t131)] <| T_cut ⟨_, (pure_some hM).symm, hle, rfl, rfl⟩
         · rintro imm05 hs2 m2 ⟨t13, heq6, le6, rfl, rfl⟩
           subst o05
           replace hle := hle.trans le6
           refine T_seq <| J_cd hM ?_ ?_
           · intro hc9 hM
             refine J_seq <| J_region <| R_z [] [(2, vI 1)] <| T_seq <| J_ret <| T_block_ret <| T_then_ret ?_
             obtain rfl := pure_some hM
             exact T_RS ⟨_, _, (.tmp rfl ResV.nil), good_none, ⟨_, rfl, rfl, rfl⟩⟩
           · intro hc9 hM
             refine J_skip <| T_block_normal <| T_seq <| J_seq <| J_region <| R_z [] [(2, vI 0)] <| T_seq <| J_ret ?_
             obtain rfl := pure_some hM
             exact T_RS ⟨_, _, (.tmp rfl ResV.nil), good_none, ⟨_, rfl, rfl, rfl⟩⟩

def spec_l14Right_post (r : Bool) : Nat → Imm → List HA → Value → Prop := fun kk imm' hs' v =>
  ∃ (v0 : Value), hs' = [] ∧ v = tupV [v0] ∧ v0 = .bool r

def M.spec_l14Right (s : impl_Step) : Option (Bool) := do
 let y ← M.spec_l14Fields s.Kind
 let t2 ← (do
   if (decide (s.Kind ≥ 1)) then
    if (decide (s.Kind ≤ 11)) then
     if (decide (y > 0)) then
      if (decide (y > 1)) then
       if (decide (y > 2)) then
        pure true
       else
        pure (s.B == 0)
      else
       if (s.A == 0) then
        if (decide (y > 2)) then
         pure true
        else
         pure (s.B == 0)
       else
        pure false
     else
      if (s.Part == 0) then
       if (decide (y > 1)) then
        if (decide (y > 2)) then
         pure true
        else
         pure (s.B == 0)
       else
        if (s.A == 0) then
         if (decide (y > 2)) then
          pure true
         else
          pure (s.B == 0)
        else
         pure false
      else
       pure false
    else
     pure false
   else
    pure false
     : Option Bool)
 pure (id t2)

theorem spec_l14Right_ok : ∀ (s : impl_Step) r, M.spec_l14Right s = some r → ∀ {imm : Imm} , Ret Tryd.prog 14 [vA [vI s.Kind, vI s.Part, vI s.A, vI s.B]] imm [] (spec_l14Right_post  r) := by
 intro s r hM imm  
 unfold M.spec_l14Right at hM
 refine ret_of_J (fn := Tryd.f14) (c := (bodyOf Tryd.f14)) Tryd.func14 rfl rfl ?_
 rintro B - -
 have hle : imm.le imm := Imm.le.refl _
 refine J_seq <| J_region <| R_box (c := ⟨[vI s.Kind, vI s.Part, vI s.A, vI s.B]⟩) rfl rfl rfl rfl rfl ?_
 intro b hb
 refine R_z [] [] <| T_seq <| J_seq <| J_region <| R_d 2 [0] [(5, vI s.Kind)] ?_
 obtain ⟨y, hy, hM⟩ := bind_some hM
 refine R_call (hs1 := []) (rest := [hB b [vI s.Kind, vI s.Part, vI s.A, vI s.B]]) rfl rfl rfl rfl (by kernel_rfl) rfl rfl (spec_l14Fields_ok s.Kind _ hy ) ?_
 rintro imm0 hs2 v2 k2 le hk ⟨v0, rfl, rfl, rfl⟩ -
 replace hle := hle.trans le
 refine R_z [] [(3, vI y)] <| T_seq <| J_seq ?_
 obtain ⟨o0, ho0, hM⟩ := bind_some hM
 refine J_cut (fun imm' hs' m' => ∃ (t2 : Bool), o0 = t2 ∧ imm0.le imm' ∧ hs' = [] ∧ m' = [(2, .bool t2)]) ?_ ?_
 · have hle0 := hle
   have hle : imm0.le imm0 := Imm.le.refl _
   refine J_region <| R_d 4 [0] [(10, .bool (decide (s.Kind ≥ 1)))] ?_
   cases hc : (decide (s.Kind ≥ 1)) with
   | true =>
    have hM0 := if_some_true hc ho0
    try rw [hc]
    refine R_d 9 [0] [(15, .bool (decide (s.Kind ≤ 11)))] ?_
    cases hc1 : (decide (s.Kind ≤ 11)) with
    | true =>
     have hM01 := if_some_true hc1 hM0
     try rw [hc1]
     refine R_d 12 [] [(18, .bool (decide (y > 0)))] ?_
     cases hc2 : (decide (y > 0)) with
     | true =>
      have hM02 := if_some_true hc2 hM01
      try rw [hc2]
      refine R_d 21 [] [(24, .bool true), (27, .bool (decide (y > 1)))] ?_
      cases hc3 : (decide (y > 1)) with
      | true =>
       have hM03 := if_some_true hc3 hM02
       try rw [hc3]
       refine R_d 30 [] [(33, .bool true), (36, .bool (decide (y > 2)))] ?_
       cases hc4 : (decide (y > 2)) with
       | true =>
        have hM04 := if_some_true hc4 hM03
        try rw [hc4]
        exact R_z [] [(2, .bool true)] <| T_hs (good_pick [] rfl (by decide)) <| T_w [(2, .bool true)] <| T_cut ⟨_, (pure_some hM04).symm, hle, rfl, rfl⟩
       | false =>
        have hM05 := if_some_false hc4 hM03
        try rw [hc4]
        exact R_z [0] [(2, .bool (s.B == 0))] <| T_hs (good_pick [] rfl (by decide)) <| T_w [(2, .bool (s.B == 0))] <| T_cut ⟨_, (pure_some hM05).symm, hle, rfl, rfl⟩
      | false =>
       have hM06 := if_some_false hc3 hM02
       try rw [hc3]
       refine R_d 27 [0] [(33, .bool (s.A == 0))] ?_
       cases hc5 : (s.A == 0) with
       | true =>
        have hM07 := if_some_true hc5 hM06
        try rw [hc5]
        refine R_d 30 [] [(36, .bool (decide (y > 2)))] ?_
        cases hc6 : (decide (y > 2)) with
        | true =>
         have hM08 := if_some_true hc6 hM07
         try rw [hc6]
         exact R_z [] [(2, .bool true)] <| T_hs (good_pick [] rfl (by decide)) <| T_w [(2, .bool true)] <| T_cut ⟨_, (pure_some hM08).symm, hle, rfl, rfl⟩
        | false =>
         have hM09 := if_some_false hc6 hM07
         try rw [hc6]
         exact R_z [0] [(2, .bool (s.B == 0))] <| T_hs (good_pick [] rfl (by decide)) <| T_w [(2, .bool (s.B == 0))] <| T_cut ⟨_, (pure_some hM09).symm, hle, rfl, rfl⟩
       | false =>
        have hM010 := if_some_false hc5 hM06
        try rw [hc5]
        exact R_z [] [(2, .bool false)] <| T_hs (good_pick [] rfl (by decide)) <| T_w [(2, .bool false)] <| T_cut ⟨_, (pure_some hM010).symm, hle, rfl, rfl⟩
     | false =>
      have hM011 := if_some_false hc2 hM01
      try rw [hc2]
      refine R_d 18 [0] [(24, .bool (s.Part == 0))] ?_
      cases hc7 : (s.Part == 0) with
      | true =>
       have hM012 := if_some_true hc7 hM011
       try rw [hc7]
       refine R_d 21 [] [(27, .bool (decide (y > 1)))] ?_
       cases hc8 : (decide (y > 1)) with
       | true =>
        have hM013 := if_some_true hc8 hM012
        try rw [hc8]
        refine R_d 30 [] [(33, .bool true), (36, .bool (decide (y > 2)))] ?_
        cases hc9 : (decide (y > 2)) with
        | true =>
         have hM014 := if_some_true hc9 hM013
         try rw [hc9]
         exact R_z [] [(2, .bool true)] <| T_hs (good_pick [] rfl (by decide)) <| T_w [(2, .bool true)] <| T_cut ⟨_, (pure_some hM014).symm, hle, rfl, rfl⟩
        | false =>
         have hM015 := if_some_false hc9 hM013
         try rw [hc9]
         exact R_z [0] [(2, .bool (s.B == 0))] <| T_hs (good_pick [] rfl (by decide)) <| T_w [(2, .bool (s.B == 0))] <| T_cut ⟨_, (pure_some hM015).symm, hle, rfl, rfl⟩
       | false =>
        have hM016 := if_some_false hc8 hM012
        try rw [hc8]
        refine R_d 27 [0] [(33, .bool (s.A == 0))] ?_
        cases hc10 : (s.A == 0) with
        | true =>
         have hM017 := if_some_true hc10 hM016
         try rw [hc10]
         refine R_d 30 [] [(36, .bool (decide (y > 2)))] ?_
         cases hc11 : (decide (y > 2)) with
         | true =>
          have hM018 := if_some_true hc11 hM017
          try rw [hc11]
          exact R_z [] [(2, .bool true)] <| T_hs (good_pick [] rfl (by decide)) <| T_w [(2, .bool true)] <| T_cut ⟨_, (pure_some hM018).symm, hle, rfl, rfl⟩
         | false =>
          have hM019 := if_some_false hc11 hM017
          try rw [hc11]
          exact R_z [0] [(2, .bool (s.B == 0))] <| T_hs (good_pick [] rfl (by decide)) <| T_w [(2, .bool (s.B == 0))] <| T_cut ⟨_, (pure_some hM019).symm, hle, rfl, rfl⟩
        | false =>
         have hM020 := if_some_false hc10 hM016
         try rw [hc10]
         exact R_z [] [(2, .bool false)] <| T_hs (good_pick [] rfl (by decide)) <| T_w [(2, .bool false)] <| T_cut ⟨_, (pure_some hM020).symm, hle, rfl, rfl⟩
      | false =>
       have hM021 := if_some_false hc7 hM011
       try rw [hc7]
       exact R_z [] [(2, .bool false)] <| T_hs (good_pick [] rfl (by decide)) <| T_w [(2, .bool false)] <| T_cut ⟨_, (pure_some hM021).symm, hle, rfl, rfl⟩
    | false =>
     have hM022 := if_some_false hc1 hM0
     try rw [hc1]
     exact R_z [] [(2, .bool false)] <| T_hs (good_pick [] rfl (by decide)) <| T_w [(2, .bool false)] <| T_cut ⟨_, (pure_some hM022).symm, hle, rfl, rfl⟩
   | false =>
    have hM023 := if_some_false hc ho0
    try rw [hc]
    exact R_z [] [(2, .bool false)] <| T_hs (good_pick [] rfl (by decide)) <| T_w [(2, .bool false)] <| T_cut ⟨_, (pure_some hM023).symm, hle, rfl, rfl⟩
 · rintro imm01 hs2 m2 ⟨t2, heq, le1, rfl, rfl⟩
   subst o0
   replace hle := hle.trans le1
   refine T_seq <| J_ret ?_
   obtain rfl := pure_some hM
   exact T_RS ⟨_, _, (.tmp rfl ResV.nil), good_none, ⟨_, rfl, rfl, rfl⟩⟩

def spec_l1Within_post (r : Bool) : Nat → Imm → List HA → Value → Prop := fun kk imm' hs' v =>
  ∃ (v0 : Value), hs' = [] ∧ v = tupV [v0] ∧ v0 = .bool r

def M.spec_l1Within (n0 : Int) (most : Int) : Option (Bool) := do
 let t4 ← (do
   if (decide (n0 ≥ (W (0 - most)))) then
    pure (decide (n0 ≤ most))
   else
    pure false
     : Option Bool)
 pure (id t4)

theorem spec_l1Within_ok : ∀ (n0 : Int) (most : Int) r, M.spec_l1Within n0 most = some r → ∀ {imm : Imm} , Ret Tryd.prog 27 [vI n0, vI most] imm [] (spec_l1Within_post  r) := by
 intro n0 most r hM imm  
 unfold M.spec_l1Within at hM
 refine ret_of_J (fn := Tryd.f27) (c := (bodyOf Tryd.f27)) Tryd.func27 rfl rfl ?_
 rintro B - -
 have hle : imm.le imm := Imm.le.refl _
 refine J_seq <| J_region <| R_z [] [] <| T_seq <| J_seq ?_
 obtain ⟨o0, ho0, hM⟩ := bind_some hM
 refine J_cut (fun imm' hs' m' => ∃ (t4 : Bool), o0 = t4 ∧ imm.le imm' ∧ hs' = [] ∧ m' = [(4, .bool t4)]) ?_ ?_
 · have hle0 := hle
   have hle : imm.le imm := Imm.le.refl _
   refine J_region <| R_d 5 [] [(9, .bool (decide (n0 ≥ (W (0 - most)))))] ?_
   cases hc : (decide (n0 ≥ (W (0 - most)))) with
   | true =>
    have hM0 := if_some_true hc ho0
    try rw [hc]
    exact R_z [] [(4, .bool (decide (n0 ≤ most)))] <| T_w [(4, .bool (decide (n0 ≤ most)))] <| T_cut ⟨_, (pure_some hM0).symm, hle, rfl, rfl⟩
   | false =>
    have hM01 := if_some_false hc ho0
    try rw [hc]
    exact R_z [] [(4, .bool false)] <| T_w [(4, .bool false)] <| T_cut ⟨_, (pure_some hM01).symm, hle, rfl, rfl⟩
 · rintro imm0 hs2 m2 ⟨t4, heq, le, rfl, rfl⟩
   subst o0
   replace hle := hle.trans le
   refine T_seq <| J_ret ?_
   obtain rfl := pure_some hM
   exact T_RS ⟨_, _, (.tmp rfl ResV.nil), good_none, ⟨_, rfl, rfl, rfl⟩⟩

def spec_l14Small_post (r : Bool) : Nat → Imm → List HA → Value → Prop := fun kk imm' hs' v =>
  ∃ (v0 : Value), hs' = [] ∧ v = tupV [v0] ∧ v0 = .bool r

def M.spec_l14Small (s : impl_Step) : Option (Bool) := do
 let t2 ← (do
   let y ← M.spec_l1Within s.Part 99
   if y then
    let y1 ← M.spec_l1Within s.A 99
    if y1 then
     let y2 ← M.spec_l1Within s.B 99
     pure (id y2)
    else
     pure false
   else
    pure false
     : Option Bool)
 pure (id t2)

theorem spec_l14Small_ok : ∀ (s : impl_Step) r, M.spec_l14Small s = some r → ∀ {imm : Imm} , Ret Tryd.prog 15 [vA [vI s.Kind, vI s.Part, vI s.A, vI s.B]] imm [] (spec_l14Small_post  r) := by
 intro s r hM imm  
 unfold M.spec_l14Small at hM
 refine ret_of_J (fn := Tryd.f15) (c := (bodyOf Tryd.f15)) Tryd.func15 rfl rfl ?_
 rintro B - -
 have hle : imm.le imm := Imm.le.refl _
 refine J_seq <| J_region <| R_box (c := ⟨[vI s.Kind, vI s.Part, vI s.A, vI s.B]⟩) rfl rfl rfl rfl rfl ?_
 intro b hb
 refine R_z [] [] <| T_seq <| J_seq ?_
 obtain ⟨o0, ho0, hM⟩ := bind_some hM
 refine J_cut (fun imm' hs' m' => ∃ (t2 : Bool), o0 = t2 ∧ imm.le imm' ∧ hs' = [] ∧ m' = [(2, .bool t2)]) ?_ ?_
 · have hle0 := hle
   have hle : imm.le imm := Imm.le.refl _
   refine J_region <| R_d 2 [0] [(4, vI s.Part)] ?_
   obtain ⟨y, hy, hM⟩ := bind_some ho0
   refine R_call (hs1 := []) (rest := [hB b [vI s.Kind, vI s.Part, vI s.A, vI s.B]]) rfl rfl rfl rfl (by kernel_rfl) rfl rfl (spec_l1Within_ok s.Part 99 _ hy ) ?_
   rintro imm01 hs2 v2 k2 le hk ⟨v0, rfl, rfl, rfl⟩ -
   replace hle := hle.trans le
   refine R_d 4 [] [(6, .bool y)] ?_
   cases hc : y with
   | true =>
    have hM0 := if_some_true hc hM
    try rw [hc]
    refine R_d 6 [0] [(8, vI s.A)] ?_
    obtain ⟨y1, hy1, hM⟩ := bind_some hM0
    refine R_call (hs1 := []) (rest := [hB b [vI s.Kind, vI s.Part, vI s.A, vI s.B]]) rfl rfl rfl rfl (by kernel_rfl) rfl rfl (spec_l1Within_ok s.A 99 _ hy1 ) ?_
    rintro imm02 hs2 v2 k2 le1 hk1 ⟨v01, rfl, rfl, rfl⟩ -
    replace hle := hle.trans le1
    refine R_d 9 [] [(11, .bool y1)] ?_
    cases hc1 : y1 with
    | true =>
     have hM01 := if_some_true hc1 hM
     try rw [hc1]
     refine R_d 11 [0] [(13, vI s.B)] ?_
     obtain ⟨y2, hy2, hM⟩ := bind_some hM01
     refine R_call (hs1 := []) (rest := [hB b [vI s.Kind, vI s.Part, vI s.A, vI s.B]]) rfl rfl rfl rfl (by kernel_rfl) rfl rfl (spec_l1Within_ok s.B 99 _ hy2 ) ?_
     rintro imm03 hs2 v2 k2 le2 hk2 ⟨v02, rfl, rfl, rfl⟩ -
     replace hle := hle.trans le2
     exact R_z [] [(2, .bool y2)] <| T_hs (good_pick [] rfl (by decide)) <| T_w [(2, .bool y2)] <| T_cut ⟨_, (pure_some hM).symm, hle, rfl, rfl⟩
    | false =>
     have hM02 := if_some_false hc1 hM
     try rw [hc1]
     exact R_z [] [(2, .bool false)] <| T_hs (good_pick [] rfl (by decide)) <| T_w [(2, .bool false)] <| T_cut ⟨_, (pure_some hM02).symm, hle, rfl, rfl⟩
   | false =>
    have hM03 := if_some_false hc hM
    try rw [hc]
    exact R_z [] [(2, .bool false)] <| T_hs (good_pick [] rfl (by decide)) <| T_w [(2, .bool false)] <| T_cut ⟨_, (pure_some hM03).symm, hle, rfl, rfl⟩
 · rintro imm0 hs2 m2 ⟨t2, heq, le3, rfl, rfl⟩
   subst o0
   replace hle := hle.trans le3
   refine T_seq <| J_ret ?_
   obtain rfl := pure_some hM
   exact T_RS ⟨_, _, (.tmp rfl ResV.nil), good_none, ⟨_, rfl, rfl, rfl⟩⟩

def spec_l14Words_post (r : (List Str)) : Nat → Imm → List HA → Value → Prop := fun kk imm' hs' v =>
  ∃ (v0 : Value), hs' = [] ∧ v = tupV [v0] ∧ SL imm' v0 r

def M.spec_l14Words  : Option ((List Str)) := do
 pure ([(⟨[]⟩ : Str), (⟨[105, 110, 116, 101, 114, 99, 104, 97, 110, 103, 101]⟩ : Str), (⟨[114, 101, 118, 101, 114, 115, 101]⟩ : Str), (⟨[115, 107, 101, 119]⟩ : Str), (⟨[115, 104, 105, 102, 116]⟩ : Str), (⟨[115, 116, 114, 105, 112]⟩ : Str), (⟨[102, 117, 115, 101]⟩ : Str), (⟨[100, 105, 115, 116, 114, 105, 98, 117, 116, 101]⟩ : Str), (⟨[115, 112, 108, 105, 116]⟩ : Str), (⟨[115, 119, 97, 112]⟩ : Str), (⟨[100, 114, 111, 112]⟩ : Str), (⟨[102, 111, 108, 100]⟩ : Str)] : List Str)

theorem spec_l14Words_ok : ∀ r, M.spec_l14Words  = some r → ∀ {imm : Imm} , Ret Tryd.prog 16 [] imm [] (spec_l14Words_post  r) := by
 intro  r hM imm  
 unfold M.spec_l14Words at hM
 refine ret_of_J (fn := Tryd.f16) (c := (bodyOf Tryd.f16)) Tryd.func16 rfl rfl ?_
 rintro B - -
 have hle : imm.le imm := Imm.le.refl _
 refine J_seq <| J_region <| R_z [] [] <| T_seq <| J_seq <| J_region <| R_buildSlice (cs := [vT ([]), vT ([105, 110, 116, 101, 114, 99, 104, 97, 110, 103, 101]), vT ([114, 101, 118, 101, 114, 115, 101]), vT ([115, 107, 101, 119]), vT ([115, 104, 105, 102, 116]), vT ([115, 116, 114, 105, 112]), vT ([102, 117, 115, 101]), vT ([100, 105, 115, 116, 114, 105, 98, 117, 116, 101]), vT ([115, 112, 108, 105, 116]), vT ([115, 119, 97, 112]), vT ([100, 114, 111, 112]), vT ([102, 111, 108, 100])]) (Rp.sz Str) rfl rfl rfl rfl (by kernel_rfl) (by kernel_rfl) ?_
 intro b hb
 have h : RL imm [vT ([]), vT ([105, 110, 116, 101, 114, 99, 104, 97, 110, 103, 101]), vT ([114, 101, 118, 101, 114, 115, 101]), vT ([115, 107, 101, 119]), vT ([115, 104, 105, 102, 116]), vT ([115, 116, 114, 105, 112]), vT ([102, 117, 115, 101]), vT ([100, 105, 115, 116, 114, 105, 98, 117, 116, 101]), vT ([115, 112, 108, 105, 116]), vT ([115, 119, 97, 112]), vT ([100, 114, 111, 112]), vT ([102, 111, 108, 100])] ([(⟨[]⟩ : Str), (⟨[105, 110, 116, 101, 114, 99, 104, 97, 110, 103, 101]⟩ : Str), (⟨[114, 101, 118, 101, 114, 115, 101]⟩ : Str), (⟨[115, 107, 101, 119]⟩ : Str), (⟨[115, 104, 105, 102, 116]⟩ : Str), (⟨[115, 116, 114, 105, 112]⟩ : Str), (⟨[102, 117, 115, 101]⟩ : Str), (⟨[100, 105, 115, 116, 114, 105, 98, 117, 116, 101]⟩ : Str), (⟨[115, 112, 108, 105, 116]⟩ : Str), (⟨[115, 119, 97, 112]⟩ : Str), (⟨[100, 114, 111, 112]⟩ : Str), (⟨[102, 111, 108, 100]⟩ : Str)] : List Str) := ⟨[vT ([])], _, rfl, rfl, rfl, ⟨[vT ([105, 110, 116, 101, 114, 99, 104, 97, 110, 103, 101])], _, rfl, rfl, rfl, ⟨[vT ([114, 101, 118, 101, 114, 115, 101])], _, rfl, rfl, rfl, ⟨[vT ([115, 107, 101, 119])], _, rfl, rfl, rfl, ⟨[vT ([115, 104, 105, 102, 116])], _, rfl, rfl, rfl, ⟨[vT ([115, 116, 114, 105, 112])], _, rfl, rfl, rfl, ⟨[vT ([102, 117, 115, 101])], _, rfl, rfl, rfl, ⟨[vT ([100, 105, 115, 116, 114, 105, 98, 117, 116, 101])], _, rfl, rfl, rfl, ⟨[vT ([115, 112, 108, 105, 116])], _, rfl, rfl, rfl, ⟨[vT ([115, 119, 97, 112])], _, rfl, rfl, rfl, ⟨[vT ([100, 114, 111, 112])], _, rfl, rfl, rfl, ⟨[vT ([102, 111, 108, 100])], _, rfl, rfl, rfl, rfl⟩⟩⟩⟩⟩⟩⟩⟩⟩⟩⟩⟩
 have hn : NW Str B (vS (some ⟨b, 0, none⟩) ([(⟨[]⟩ : Str), (⟨[105, 110, 116, 101, 114, 99, 104, 97, 110, 103, 101]⟩ : Str), (⟨[114, 101, 118, 101, 114, 115, 101]⟩ : Str), (⟨[115, 107, 101, 119]⟩ : Str), (⟨[115, 104, 105, 102, 116]⟩ : Str), (⟨[115, 116, 114, 105, 112]⟩ : Str), (⟨[102, 117, 115, 101]⟩ : Str), (⟨[100, 105, 115, 116, 114, 105, 98, 117, 116, 101]⟩ : Str), (⟨[115, 112, 108, 105, 116]⟩ : Str), (⟨[115, 119, 97, 112]⟩ : Str), (⟨[100, 114, 111, 112]⟩ : Str), (⟨[102, 111, 108, 100]⟩ : Str)] : List Str) 12) [vT ([]), vT ([105, 110, 116, 101, 114, 99, 104, 97, 110, 103, 101]), vT ([114, 101, 118, 101, 114, 115, 101]), vT ([115, 107, 101, 119]), vT ([115, 104, 105, 102, 116]), vT ([115, 116, 114, 105, 112]), vT ([102, 117, 115, 101]), vT ([100, 105, 115, 116, 114, 105, 98, 117, 116, 101]), vT ([115, 112, 108, 105, 116]), vT ([115, 119, 97, 112]), vT ([100, 114, 111, 112]), vT ([102, 111, 108, 100])] := nw_new hb
 refine R_z [] [(0, vS (some ⟨b, 0, none⟩) ([(⟨[]⟩ : Str), (⟨[105, 110, 116, 101, 114, 99, 104, 97, 110, 103, 101]⟩ : Str), (⟨[114, 101, 118, 101, 114, 115, 101]⟩ : Str), (⟨[115, 107, 101, 119]⟩ : Str), (⟨[115, 104, 105, 102, 116]⟩ : Str), (⟨[115, 116, 114, 105, 112]⟩ : Str), (⟨[102, 117, 115, 101]⟩ : Str), (⟨[100, 105, 115, 116, 114, 105, 98, 117, 116, 101]⟩ : Str), (⟨[115, 112, 108, 105, 116]⟩ : Str), (⟨[115, 119, 97, 112]⟩ : Str), (⟨[100, 114, 111, 112]⟩ : Str), (⟨[102, 111, 108, 100]⟩ : Str)] : List Str) 12)] <| T_seq <| J_ret <| T_freeze 0 rfl hn ?_
 intro imm0 le hl0
 have h1 := SL.of_frozen hl0 le h
 replace hle := hle.trans le
 obtain rfl := pure_some hM
 exact T_RS ⟨_, _, (.tmp rfl ResV.nil), good_none, ⟨_, rfl, rfl, h1⟩⟩

def spec_l16Dec_post (r : Str) : Nat → Imm → List HA → Value → Prop := fun kk imm' hs' v =>
  ∃ (v0 : Value), hs' = [] ∧ v = tupV [v0] ∧ v0 = .string ⟨⟨r.l⟩⟩

def M.spec_l16Dec_l1 (n01 : Int) (out : Str) : Option ((Int × Str)) := do
 if (decide (n01 > 9)) then
  let s1 ← cat (⟨([(u8 (W (48 + (n01.tmod 10))))] : List UInt8)⟩ : Str) out
  M.spec_l16Dec_l1 (W (n01.tdiv 10)) s1
 else
  pure (n01, out)
 partial_fixpoint

theorem spec_l16Dec_l1_ok  : ∀ (n01 : Int) (out : Str) (o : (Int × Str)), M.spec_l16Dec_l1 n01 out = some o → ∀ {B : Base} {imm0 imm : Imm} {Q : Exit → Act → World → Prop}  , imm0.le imm → (∀ l a w, ¬ Q (.goto l) a w) → (∀ a w, ¬ Q .outgrown a w) → (∀ (imm' : Imm) (n02 : Int) (out1 : Str), o = (n02, out1) → imm0.le imm' → T 31 B Q (.exit 0) imm' [] [(0, vI n02), (3, vT out1.l)]) → J Tryd.prog 31 B (nav (bodyOf Tryd.f28) [1, 1, 1, 1, 0, 0]) Q imm [] [(0, vI n01), (3, vT out.l)] := by
 refine M.spec_l16Dec_l1.partial_correctness  _ ?_
 intro self ih n01 out o hM B imm0 imm Q  hle  hg ho hx 
 refine J_loop hg ho <| J_seq <| J_seq <| J_region <| R_z [] [(13, .bool (decide (n01 > 9)))] <| T_seq <| J_cd hM ?_ ?_
 · intro hc2 hM
   refine J_skip <| T_seq <| J_block <| J_seq <| J_region <| R_d 3 [] [(16, vI (W (48 + (n01.tmod 10))))] <| R_u8 (d := 17) (i := (W (48 + (n01.tmod 10)))) rfl (by kernel_rfl) <| R_buildSlice (cs := [.int .u8 ((u8 (W (48 + (n01.tmod 10)))).toNat : Int)]) (Rp.sz UInt8) rfl rfl rfl rfl (by kernel_rfl) (by kernel_rfl) ?_
   intro b hb
   have h1 : RL imm [.int .u8 ((u8 (W (48 + (n01.tmod 10)))).toNat : Int)] ([(u8 (W (48 + (n01.tmod 10))))] : List UInt8) := ⟨[.int .u8 ((u8 (W (48 + (n01.tmod 10)))).toNat : Int)], _, rfl, rfl, rfl, rfl⟩
   have hn : NW UInt8 B (vS (some ⟨b, 0, none⟩) ([(u8 (W (48 + (n01.tmod 10))))] : List UInt8) 1) [.int .u8 ((u8 (W (48 + (n01.tmod 10)))).toNat : Int)] := nw_new hb
   refine R_bytes (l := ([(u8 (W (48 + (n01.tmod 10))))] : List UInt8)) rfl rfl rfl rfl (by kernel_rfl) (by kernel_rfl) (.inr ⟨0, rfl⟩) h1 <| R_d 7 [] [(20, vT out.l)] ?_
   obtain ⟨s1, hy2, hM⟩ := bind_some hM
   exact R_ca rfl hy2 <| R_z [] [(3, vT s1.l)] <| T_seq <| J_region <| R_z [] [(0, vI (W (n01.tdiv 10)))] <| T_block_normal <| T_loop <| J_hs (good_pick [] rfl (by decide)) <| J_w [(0, vI (W (n01.tdiv 10))), (3, vT s1.l)] <| ih (W (n01.tdiv 10)) s1 _ hM hle  hg ho hx 
 · intro hc2 hM
   exact J_exit <| T_then_exit <| T_then_exit <| T_w [(0, vI n01), (3, vT out.l)] <| hx _ _ _ (pure_some hM).symm hle 

def M.spec_l16Dec (n0 : Int) : Option (Str) := do
 if (decide (n0 < (-9223372036854775807))) then
  pure (⟨[45, 57, 50, 50, 51, 51, 55, 50, 48, 51, 54, 56, 53, 52, 55, 55, 53, 56, 48, 56]⟩ : Str)
 else
  if (decide (n0 < 0)) then
   let y ← M.spec_l16Dec (W (0 - n0))
   let s ← cat (⟨[45]⟩ : Str) y
   pure (id s)
  else
   let (n02, out1) ← M.spec_l16Dec_l1 n0 (⟨[]⟩ : Str)
   let s2 ← cat (⟨([(u8 (W (48 + n02)))] : List UInt8)⟩ : Str) out1
   pure (id s2)
 partial_fixpoint

theorem spec_l16Dec_ok : ∀ (n0 : Int) r, M.spec_l16Dec n0 = some r → ∀ {imm : Imm} , Ret Tryd.prog 28 [vI n0] imm [] (spec_l16Dec_post  r) := by
 refine M.spec_l16Dec.partial_correctness (fun n0 r => ∀ {imm : Imm} , Ret Tryd.prog 28 [vI n0] imm [] (spec_l16Dec_post  r)) ?_
 intro F_spec_l16Dec ih_spec_l16Dec n0 r hM imm  
 refine ret_of_J (fn := Tryd.f28) (c := (bodyOf Tryd.f28)) Tryd.func28 rfl rfl ?_
 rintro B - -
 have hle : imm.le imm := Imm.le.refl _
 refine J_seq <| J_region <| R_z [] [] <| T_seq <| J_seq <| J_seq <| J_region <| R_z [] [(5, .bool (decide (n0 < (-9223372036854775807))))] <| T_seq <| J_cd hM ?_ ?_
 · intro hc hM
   refine J_seq <| J_region <| R_z [] [(2, vT ([45, 57, 50, 50, 51, 51, 55, 50, 48, 51, 54, 56, 53, 52, 55, 55, 53, 56, 48, 56]))] <| T_seq <| J_ret <| T_then_ret ?_
   obtain rfl := pure_some hM
   exact T_RS ⟨_, _, (.tmp rfl ResV.nil), good_none, ⟨_, rfl, rfl, rfl⟩⟩
 · intro hc hM
   refine J_skip <| T_seq <| J_seq <| J_seq <| J_region <| R_z [] [(7, .bool (decide (n0 < 0)))] <| T_seq <| J_cd hM ?_ ?_
   · intro hc1 hM
     refine J_seq <| J_region <| R_d 2 [] [(9, vI (W (0 - n0)))] ?_
     obtain ⟨y, hy, hM⟩ := bind_some hM
     refine R_call (hs1 := []) (rest := []) rfl rfl rfl rfl (by kernel_rfl) rfl rfl (ih_spec_l16Dec (W (0 - n0)) _ hy ) ?_
     rintro imm0 hs2 v2 k2 le hk ⟨v0, rfl, rfl, rfl⟩ -
     replace hle := hle.trans le
     obtain ⟨s, hy1, hM⟩ := bind_some hM
     refine R_ca rfl hy1 <| R_z [] [(2, vT s.l)] <| T_seq <| J_ret <| T_then_ret ?_
     obtain rfl := pure_some hM
     exact T_RS ⟨_, _, (.tmp rfl ResV.nil), good_none, ⟨_, rfl, rfl, rfl⟩⟩
   · intro hc1 hM
     refine J_skip <| T_seq <| J_seq <| J_region <| R_z [] [(3, vT ([]))] <| T_seq <| J_seq <| J_block <| J_w [(0, vI n0), (3, vT ([]))] ?_
     obtain ⟨o0, ho0, hM⟩ := bind_some hM
     refine spec_l16Dec_l1_ok n0 (⟨[]⟩ : Str) o0 ho0 (Imm.le.refl _)  (fun _ _ _ h => h) (fun _ _ h => h) ?_
     intro imm01 n02 out1 heq le1 
     subst o0
     replace hle := hle.trans le1
     refine T_block_here <| T_seq <| J_seq <| J_region <| R_d 2 [] [(25, vI (W (48 + n02)))] <| R_u8 (d := 26) (i := (W (48 + n02))) rfl (by kernel_rfl) <| R_buildSlice (cs := [.int .u8 ((u8 (W (48 + n02))).toNat : Int)]) (Rp.sz UInt8) rfl rfl rfl rfl (by kernel_rfl) (by kernel_rfl) ?_
     intro b1 hb1
     have h2 : RL imm01 [.int .u8 ((u8 (W (48 + n02))).toNat : Int)] ([(u8 (W (48 + n02)))] : List UInt8) := ⟨[.int .u8 ((u8 (W (48 + n02))).toNat : Int)], _, rfl, rfl, rfl, rfl⟩
     have hn1 : NW UInt8 B (vS (some ⟨b1, 0, none⟩) ([(u8 (W (48 + n02)))] : List UInt8) 1) [.int .u8 ((u8 (W (48 + n02))).toNat : Int)] := nw_new hb1
     refine R_bytes (l := ([(u8 (W (48 + n02)))] : List UInt8)) rfl rfl rfl rfl (by kernel_rfl) (by kernel_rfl) (.inr ⟨0, rfl⟩) h2 <| R_d 6 [] [(29, vT out1.l)] ?_
     obtain ⟨s2, hy3, hM⟩ := bind_some hM
     refine R_ca rfl hy3 <| R_z [] [(2, vT s2.l)] <| T_seq <| J_ret ?_
     obtain rfl := pure_some hM
     exact T_RS ⟨_, _, (.tmp rfl ResV.nil), good_none, ⟨_, rfl, rfl, rfl⟩⟩

def spec_l14Signed_post (r : Str) : Nat → Imm → List HA → Value → Prop := fun kk imm' hs' v =>
  ∃ (v0 : Value), hs' = [] ∧ v = tupV [v0] ∧ v0 = .string ⟨⟨r.l⟩⟩

def M.spec_l14Signed (n0 : Int) : Option (Str) := do
 if (decide (n0 < 0)) then
  let y ← M.spec_l16Dec (W (0 - n0))
  let s ← cat (⟨[45]⟩ : Str) y
  pure (id s)
 else
  let y1 ← M.spec_l16Dec n0
  pure (id y1)

theorem spec_l14Signed_ok : ∀ (n0 : Int) r, M.spec_l14Signed n0 = some r → ∀ {imm : Imm} , Ret Tryd.prog 18 [vI n0] imm [] (spec_l14Signed_post  r) := by
 intro n0 r hM imm  
 unfold M.spec_l14Signed at hM
 refine ret_of_J (fn := Tryd.f18) (c := (bodyOf Tryd.f18)) Tryd.func18 rfl rfl ?_
 rintro B - -
 have hle : imm.le imm := Imm.le.refl _
 refine J_seq <| J_region <| R_z [] [] <| T_seq <| J_seq <| J_seq <| J_region <| R_z [] [(4, .bool (decide (n0 < 0)))] <| T_seq <| J_cd hM ?_ ?_
 · intro hc hM
   refine J_seq <| J_region <| R_d 2 [] [(6, vI (W (0 - n0)))] ?_
   obtain ⟨y, hy, hM⟩ := bind_some hM
   refine R_call (hs1 := []) (rest := []) rfl rfl rfl rfl (by kernel_rfl) rfl rfl (spec_l16Dec_ok (W (0 - n0)) _ hy ) ?_
   rintro imm0 hs2 v2 k2 le hk ⟨v0, rfl, rfl, rfl⟩ -
   replace hle := hle.trans le
   obtain ⟨s, hy1, hM⟩ := bind_some hM
   refine R_ca rfl hy1 <| R_z [] [(2, vT s.l)] <| T_seq <| J_ret <| T_then_ret ?_
   obtain rfl := pure_some hM
   exact T_RS ⟨_, _, (.tmp rfl ResV.nil), good_none, ⟨_, rfl, rfl, rfl⟩⟩
 · intro hc hM
   refine J_skip <| T_seq <| J_seq <| J_region <| R_d 1 [] [(9, vI n0)] ?_
   obtain ⟨y1, hy2, hM⟩ := bind_some hM
   refine R_call (hs1 := []) (rest := []) rfl rfl rfl rfl (by kernel_rfl) rfl rfl (spec_l16Dec_ok n0 _ hy2 ) ?_
   rintro imm01 hs2 v2 k2 le1 hk1 ⟨v01, rfl, rfl, rfl⟩ -
   replace hle := hle.trans le1
   refine R_z [] [(2, vT y1.l)] <| T_seq <| J_ret ?_
   obtain rfl := pure_some hM
   exact T_RS ⟨_, _, (.tmp rfl ResV.nil), good_none, ⟨_, rfl, rfl, rfl⟩⟩

def spec_FormatSteps_post (r : Str) : Nat → Imm → List HA → Value → Prop := fun kk imm' hs' v =>
  ∃ (v0 : Value), hs' = [] ∧ v = tupV [v0] ∧ v0 = .string ⟨⟨r.l⟩⟩

def M.spec_FormatSteps_l2 (list : (List impl_Step)) (i : Int) (x2 : impl_Step) (x3 : impl_Step) (x4 : impl_Step) (out2 : Str) (k0 : Int) : Option (Str) := do
 let x7 ← idx list i
 let y3 ← M.spec_l14Fields x7.Kind
 if (decide (k0 < y3)) then
  let s1 ← cat out2 (⟨[32]⟩ : Str)
  let x8 ← idx ([x2.Part, x3.A, x4.B] : List Int) k0
  let y4 ← M.spec_l14Signed x8
  let s2 ← cat s1 y4
  M.spec_FormatSteps_l2 list i x2 x3 x4 s2 (W (k0 + 1))
 else
  pure (id out2)
 partial_fixpoint

theorem spec_FormatSteps_l2_ok (list : (List impl_Step)) (i : Int) (x2 : impl_Step) (x3 : impl_Step) (x4 : impl_Step) : ∀ (out2 : Str) (k0 : Int) (o : Str), M.spec_FormatSteps_l2 list i x2 x3 x4 out2 k0 = some o → ∀ {B : Base} {imm0 imm : Imm} {Q : Exit → Act → World → Prop}  {p : Option Addr} {c : Nat} {b : Nat}, imm0.le imm → (SL imm (vS p list c) list) → (RL imm [vI x2.Part, vI x3.A, vI x4.B] ([x2.Part, x3.A, x4.B] : List Int)) → (NW Int B (vS (some ⟨b, 0, none⟩) ([x2.Part, x3.A, x4.B] : List Int) 3) [vI x2.Part, vI x3.A, vI x4.B]) → (∀ l a w, ¬ Q (.goto l) a w) → (∀ a w, ¬ Q .outgrown a w) → (∀ (imm' : Imm) (out3 : Str), o = out3 → imm0.le imm' → T 79 B Q (.exit 2) imm' [] [(0, vS p list c), (3, vT out3.l), (4, vI i)]) → J Tryd.prog 79 B (nav (bodyOf Tryd.f6) [1, 1, 0, 1, 0, 0, 1, 0, 0, 1, 1, 1, 0, 1, 0]) Q imm [hO Int (vS (some ⟨b, 0, none⟩) ([x2.Part, x3.A, x4.B] : List Int) 3) [vI x2.Part, vI x3.A, vI x4.B]] [(0, vS p list c), (3, vT out2.l), (4, vI i), (5, vS (some ⟨b, 0, none⟩) ([x2.Part, x3.A, x4.B] : List Int) 3), (6, vI k0)] := by
 refine M.spec_FormatSteps_l2.partial_correctness list i x2 x3 x4 _ ?_
 intro self ih out2 k0 o hM B imm0 imm Q p c b hle h h3 hn hg ho hx 
 refine J_loop hg ho <| J_seq <| J_seq <| J_region <| R_d 3 [] [(58, vI k0), (59, vS p list c), (60, vI i)] ?_
 obtain ⟨x7, hy11, hM⟩ := bind_some hM
 refine R_ix rfl rfl h hy11 ?_
 intro ad7 ccs7 hat7 hrep7
 obtain rfl := impl_Step_open hrep7
 refine R_d 5 [] [(62, .pointer (some ad7))] <| R_la 0 hat7 [vI x7.Kind] (vI x7.Kind) rfl ?_
 obtain ⟨y3, hy12, hM⟩ := bind_some hM
 refine R_call (hs1 := []) (rest := [hO Int (vS (some ⟨b, 0, none⟩) ([x2.Part, x3.A, x4.B] : List Int) 3) [vI x2.Part, vI x3.A, vI x4.B]]) rfl rfl rfl rfl (by kernel_rfl) rfl rfl (spec_l14Fields_ok x7.Kind _ hy12 ) ?_
 rintro imm06 hs2 v2 k2 le6 hk3 ⟨v03, rfl, rfl, rfl⟩ -
 replace h := h.mono le6
 replace h3 := RepL.mono (fun _ _ => Rp.mono le6) h3
 replace hle := hle.trans le6
 refine R_z [] [(65, .bool (decide (k0 < y3)))] <| T_seq <| J_cd hM ?_ ?_
 · intro hc4 hM
   refine J_skip <| T_seq <| J_seq <| J_block <| J_region <| R_d 1 [] [(68, vT out2.l)] ?_
   obtain ⟨s1, hy13, hM⟩ := bind_some hM
   refine R_ca rfl hy13 <| R_d 4 [] [(70, vS (some ⟨b, 0, none⟩) ([x2.Part, x3.A, x4.B] : List Int) 3), (71, vI k0)] ?_
   obtain ⟨x8, hy14, hM⟩ := bind_some hM
   refine R_ixo 0 rfl rfl rfl h3 hy14 ?_
   intro ad8 ccs8 hat8 hcc hrep8
   obtain rfl := hrep8
   refine R_lo 0 0 hat8 hcc [vI x8] (vI x8) rfl rfl ?_
   obtain ⟨y4, hy15, hM⟩ := bind_some hM
   refine R_call (hs1 := []) (rest := [hO Int (vS (some ⟨b, 0, none⟩) ([x2.Part, x3.A, x4.B] : List Int) 3) [vI x2.Part, vI x3.A, vI x4.B]]) rfl rfl rfl rfl (by kernel_rfl) rfl rfl (spec_l14Signed_ok x8 _ hy15 ) ?_
   rintro imm07 hs2 v2 k2 le7 hk4 ⟨v04, rfl, rfl, rfl⟩ -
   replace h := h.mono le7
   replace h3 := RepL.mono (fun _ _ => Rp.mono le7) h3
   replace hle := hle.trans le7
   obtain ⟨s2, hy16, hM⟩ := bind_some hM
   exact R_ca rfl hy16 <| R_z [] [(3, vT s2.l)] <| T_block_normal <| T_seq <| J_region <| R_z [] [(6, vI (W (k0 + 1)))] <| T_loop <| J_w [(0, vS p list c), (3, vT s2.l), (4, vI i), (5, vS (some ⟨b, 0, none⟩) ([x2.Part, x3.A, x4.B] : List Int) 3), (6, vI (W (k0 + 1)))] <| ih s2 (W (k0 + 1)) _ hM hle h h3 hn hg ho hx 
 · intro hc4 hM
   exact J_exit <| T_then_exit <| T_then_exit <| T_hs (good_pick [] rfl (by decide)) <| T_w [(0, vS p list c), (3, vT out2.l), (4, vI i)] <| hx _ _ (pure_some hM).symm hle 

def M.spec_FormatSteps_l1 (list : (List impl_Step)) (out : Str) (i : Int) : Option (Out Str (Str)) := do
 if (decide (i < (list.length : Int))) then
  let t31 ← (do
    let x ← idx list i
    let y ← M.spec_l14Right x
    if (!y) then
     pure true
    else
     let x1 ← idx list i
     let y1 ← M.spec_l14Small x1
     if (!y1) then
      pure true
     else
      pure (decide ((list.length : Int) > 12))
      : Option Bool)
  if t31 then
   pure (.ret (⟨[]⟩ : Str))
  else
   let x2 ← idx list i
   let x3 ← idx list i
   let x4 ← idx list i
   let y2 ← M.spec_l14Words 
   let x5 ← idx list i
   let x6 ← idx y2 x5.Kind
   let s ← cat out x6
   let out3 ← M.spec_FormatSteps_l2 list i x2 x3 x4 s 0
   let s3 ← cat out3 (⟨[10]⟩ : Str)
   M.spec_FormatSteps_l1 list s3 (W (i + 1))
 else
  pure (.done out)
 partial_fixpoint

theorem spec_FormatSteps_l1_ok (list : (List impl_Step)) : ∀ (out : Str) (i : Int) (o : Out Str (Str)), M.spec_FormatSteps_l1 list out i = some o → ∀ {B : Base} {imm0 imm : Imm} {Q : Exit → Act → World → Prop}  {p : Option Addr} {c : Nat}, imm0.le imm → (SL imm (vS p list c) list) → (∀ l a w, ¬ Q (.goto l) a w) → (∀ a w, ¬ Q .outgrown a w) → (∀ (imm' : Imm) (out1 : Str), o = (.done out1) → imm0.le imm' → T 79 B Q (.exit 0) imm' [] [(3, vT out1.l)]) → (∀ r imm' hs' m', o = (.ret r) → imm0.le imm' → RS Tryd.prog Tryd.f6 B (spec_FormatSteps_post  r) imm' hs' m' → T 79 B Q .ret imm' hs' m') → J Tryd.prog 79 B (nav (bodyOf Tryd.f6) [1, 1, 0, 1, 0]) Q imm [] [(0, vS p list c), (3, vT out.l), (4, vI i)] := by
 refine M.spec_FormatSteps_l1.partial_correctness list _ ?_
 intro self ih out i o hM B imm0 imm Q p c hle h hg ho hx hr
 refine J_loop hg ho <| J_seq <| J_seq <| J_region <| R_z [] [(10, .bool (decide (i < (list.length : Int))))] <| T_seq <| J_cd hM ?_ ?_
 · intro hc hM
   refine J_skip <| T_seq <| J_seq <| J_block <| J_seq <| J_seq ?_
   obtain ⟨o0, ho0, hM⟩ := bind_some hM
   refine J_cut (fun imm' hs' m' => ∃ (t31 : Bool), o0 = t31 ∧ imm.le imm' ∧ hs' = [] ∧ m' = [(0, vS p list c), (3, vT out.l), (4, vI i), (31, .bool t31)]) ?_ ?_
   · have hle0 := hle
     have hle : imm.le imm := Imm.le.refl _
     refine J_region <| R_d 2 [] [(13, vS p list c), (14, vI i)] ?_
     obtain ⟨x, hy, hM⟩ := bind_some ho0
     refine R_ix rfl rfl h hy ?_
     intro ad ccs hat hrep
     obtain rfl := impl_Step_open hrep
     refine R_la 0 hat [vI x.Kind, vI x.Part, vI x.A, vI x.B] (vA [vI x.Kind, vI x.Part, vI x.A, vI x.B]) rfl ?_
     obtain ⟨y, hy1, hM⟩ := bind_some hM
     refine R_call (hs1 := []) (rest := []) rfl rfl rfl rfl (by kernel_rfl) rfl rfl (spec_l14Right_ok x _ hy1 ) ?_
     rintro imm01 hs2 v2 k2 le hk ⟨v0, rfl, rfl, rfl⟩ -
     replace h := h.mono le
     replace hle := hle.trans le
     refine R_d 7 [] [(19, .bool (!y))] ?_
     cases hc1 : (!y) with
     | true =>
      have hM0 := if_some_true hc1 hM
      try rw [hc1]
      exact R_z [] [(31, .bool true)] <| T_w [(0, vS p list c), (3, vT out.l), (4, vI i), (31, .bool true)] <| T_cut ⟨_, (pure_some hM0).symm, hle, rfl, rfl⟩
     | false =>
      have hM01 := if_some_false hc1 hM
      try rw [hc1]
      refine R_d 9 [] [(20, vS p list c), (21, vI i)] ?_
      obtain ⟨x1, hy2, hM⟩ := bind_some hM01
      refine R_ix rfl rfl h hy2 ?_
      intro ad1 ccs1 hat1 hrep1
      obtain rfl := impl_Step_open hrep1
      refine R_la 0 hat1 [vI x1.Kind, vI x1.Part, vI x1.A, vI x1.B] (vA [vI x1.Kind, vI x1.Part, vI x1.A, vI x1.B]) rfl ?_
      obtain ⟨y1, hy3, hM⟩ := bind_some hM
      refine R_call (hs1 := []) (rest := []) rfl rfl rfl rfl (by kernel_rfl) rfl rfl (spec_l14Small_ok x1 _ hy3 ) ?_
      rintro imm02 hs2 v2 k2 le1 hk1 ⟨v01, rfl, rfl, rfl⟩ -
      replace h := h.mono le1
      replace hle := hle.trans le1
      refine R_d 15 [] [(27, .bool (!y1))] ?_
      cases hc2 : (!y1) with
      | true =>
       have hM02 := if_some_true hc2 hM
       try rw [hc2]
       exact R_z [] [(31, .bool true)] <| T_w [(0, vS p list c), (3, vT out.l), (4, vI i), (31, .bool true)] <| T_cut ⟨_, (pure_some hM02).symm, hle, rfl, rfl⟩
      | false =>
       have hM03 := if_some_false hc2 hM
       try rw [hc2]
       exact R_z [] [(31, .bool (decide ((list.length : Int) > 12)))] <| T_w [(0, vS p list c), (3, vT out.l), (4, vI i), (31, .bool (decide ((list.length : Int) > 12)))] <| T_cut ⟨_, (pure_some hM03).symm, hle, rfl, rfl⟩
   · rintro imm0 hs2 m2 ⟨t31, heq, le2, rfl, rfl⟩
     subst o0
     replace h := h.mono le2
     replace hle := hle.trans le2
     refine T_seq <| J_cd hM ?_ ?_
     · intro hc3 hM
       exact J_seq <| J_region <| R_z [] [(2, vT ([]))] <| T_seq <| J_ret <| T_then_ret <| T_block_ret <| T_then_ret <| T_then_ret <| hr _ _ _ _ (pure_some hM).symm hle ⟨_, _, (.tmp rfl ResV.nil), good_none, ⟨_, rfl, rfl, rfl⟩⟩
     · intro hc3 hM
       refine J_skip <| T_seq <| J_seq ?_
       obtain ⟨x2, hy4, hM⟩ := bind_some hM
       obtain ⟨x3, hy5, hM⟩ := bind_some hM
       obtain ⟨x4, hy6, hM⟩ := bind_some hM
       refine J_any [.p (vS p list c) [], .p (vI i) [], .x (fun imm' v hx => ∃ (ad2 : Addr), v = .pointer (some ad2) ∧ hx = [] ∧ (At imm' ad2 [vI x2.Kind, vI x2.Part, vI x2.A, vI x2.B])), .x (fun imm' v hx => ∃ (ad21 : Addr), v = .pointer (some (ad21.add 1)) ∧ hx = [] ∧ (At imm' ad21 [vI x2.Kind, vI x2.Part, vI x2.A, vI x2.B])), .q (vI x2.Part), .p (vS p list c) [], .p (vI i) [], .x (fun imm' v hx => ∃ (ad3 : Addr), v = .pointer (some ad3) ∧ hx = [] ∧ (At imm' ad3 [vI x3.Kind, vI x3.Part, vI x3.A, vI x3.B])), .x (fun imm' v hx => ∃ (ad31 : Addr), v = .pointer (some (ad31.add 2)) ∧ hx = [] ∧ (At imm' ad31 [vI x3.Kind, vI x3.Part, vI x3.A, vI x3.B])), .q (vI x3.A), .p (vS p list c) [], .p (vI i) [], .x (fun imm' v hx => ∃ (ad4 : Addr), v = .pointer (some ad4) ∧ hx = [] ∧ (At imm' ad4 [vI x4.Kind, vI x4.Part, vI x4.A, vI x4.B])), .x (fun imm' v hx => ∃ (ad41 : Addr), v = .pointer (some (ad41.add 3)) ∧ hx = [] ∧ (At imm' ad41 [vI x4.Kind, vI x4.Part, vI x4.A, vI x4.B])), .q (vI x4.B), .x (fun imm' v hx => ∃ (b : Nat), v = vS (some ⟨b, 0, none⟩) ([x2.Part, x3.A, x4.B] : List Int) 3 ∧ hx = [hO Int (vS (some ⟨b, 0, none⟩) ([x2.Part, x3.A, x4.B] : List Int) 3) [vI x2.Part, vI x3.A, vI x4.B]] ∧ (RL imm' [vI x2.Part, vI x3.A, vI x4.B] ([x2.Part, x3.A, x4.B] : List Int)) ∧ (NW Int B (vS (some ⟨b, 0, none⟩) ([x2.Part, x3.A, x4.B] : List Int) 3) [vI x2.Part, vI x3.A, vI x4.B]))] [[], [], [(0, false), (1, false)], [(2, false)], [(3, false)], [], [], [(5, false), (6, false)], [(7, false)], [(8, false)], [], [], [(10, false), (11, false)], [(12, false)], [(13, false)], [(4, false), (9, false), (14, false)]] [] [] [(15, true)] (good_pick [] rfl (by decide)) ?_ ?_
       · refine Op <| Op <| Ox ?_ <| Ox ?_ <| Oq ?_ <| Op <| Op <| Ox ?_ <| Ox ?_ <| Oq ?_ <| Op <| Op <| Ox ?_ <| Ox ?_ <| Oq ?_ <| Ox ?_ <| On
         · intro imm1 hf le1
           refine Ins_cons ?_
           rintro _ _ ⟨rfl, rfl⟩
           refine Ins_cons ?_
           rintro _ _ ⟨rfl, rfl⟩
           refine Ins_nil <| R_isw (hf) [(32, vS p list c), (33, vI i)] ?_
           have hle := Imm.le.refl imm1
           replace h := h.mono le1
           refine R_ix rfl rfl h hy4 ?_
           intro ad2 ccs2 hat2 hrep2
           obtain rfl := impl_Step_open hrep2
           exact R_out (hx := []) rfl hle rfl (out_some rfl) ⟨_, rfl, rfl, hat2⟩
         · intro imm1 hf le1
           refine Ins_cons ?_
           rintro _ _ ⟨ad2, rfl, rfl, hat2⟩
           refine Ins_nil <| R_isw (hf) [(34, .pointer (some ad2))] ?_
           have hle := Imm.le.refl imm1
           exact R_p 4 [(35, .pointer (some (ad2.add 1)))] <| R_out (hx := []) rfl hle rfl (out_some rfl) ⟨_, rfl, rfl, hat2⟩
         · intro imm1 hf le1
           refine Ins_cons ?_
           rintro _ _ ⟨ad21, rfl, rfl, hat21⟩
           refine Ins_nil <| R_isw (hf) [(35, .pointer (some (ad21.add 1)))] ?_
           have hle := Imm.le.refl imm1
           exact R_la 1 hat21 [vI x2.Part] (vI x2.Part) rfl <| R_out (hx := []) rfl hle rfl (out_some rfl) ⟨rfl, rfl⟩
         · intro imm1 hf le1
           refine Ins_cons ?_
           rintro _ _ ⟨rfl, rfl⟩
           refine Ins_cons ?_
           rintro _ _ ⟨rfl, rfl⟩
           refine Ins_nil <| R_isw (hf) [(37, vS p list c), (38, vI i)] ?_
           have hle := Imm.le.refl imm1
           replace h := h.mono le1
           refine R_ix rfl rfl h hy5 ?_
           intro ad3 ccs3 hat3 hrep3
           obtain rfl := impl_Step_open hrep3
           exact R_out (hx := []) rfl hle rfl (out_some rfl) ⟨_, rfl, rfl, hat3⟩
         · intro imm1 hf le1
           refine Ins_cons ?_
           rintro _ _ ⟨ad3, rfl, rfl, hat3⟩
           refine Ins_nil <| R_isw (hf) [(39, .pointer (some ad3))] ?_
           have hle := Imm.le.refl imm1
           exact R_p 9 [(40, .pointer (some (ad3.add 2)))] <| R_out (hx := []) rfl hle rfl (out_some rfl) ⟨_, rfl, rfl, hat3⟩
         · intro imm1 hf le1
           refine Ins_cons ?_
           rintro _ _ ⟨ad31, rfl, rfl, hat31⟩
           refine Ins_nil <| R_isw (hf) [(40, .pointer (some (ad31.add 2)))] ?_
           have hle := Imm.le.refl imm1
           exact R_la 2 hat31 [vI x3.A] (vI x3.A) rfl <| R_out (hx := []) rfl hle rfl (out_some rfl) ⟨rfl, rfl⟩
         · intro imm1 hf le1
           refine Ins_cons ?_
           rintro _ _ ⟨rfl, rfl⟩
           refine Ins_cons ?_
           rintro _ _ ⟨rfl, rfl⟩
           refine Ins_nil <| R_isw (hf) [(42, vS p list c), (43, vI i)] ?_
           have hle := Imm.le.refl imm1
           replace h := h.mono le1
           refine R_ix rfl rfl h hy6 ?_
           intro ad4 ccs4 hat4 hrep4
           obtain rfl := impl_Step_open hrep4
           exact R_out (hx := []) rfl hle rfl (out_some rfl) ⟨_, rfl, rfl, hat4⟩
         · intro imm1 hf le1
           refine Ins_cons ?_
           rintro _ _ ⟨ad4, rfl, rfl, hat4⟩
           refine Ins_nil <| R_isw (hf) [(44, .pointer (some ad4))] ?_
           have hle := Imm.le.refl imm1
           exact R_p 14 [(45, .pointer (some (ad4.add 3)))] <| R_out (hx := []) rfl hle rfl (out_some rfl) ⟨_, rfl, rfl, hat4⟩
         · intro imm1 hf le1
           refine Ins_cons ?_
           rintro _ _ ⟨ad41, rfl, rfl, hat41⟩
           refine Ins_nil <| R_isw (hf) [(45, .pointer (some (ad41.add 3)))] ?_
           have hle := Imm.le.refl imm1
           exact R_la 3 hat41 [vI x4.B] (vI x4.B) rfl <| R_out (hx := []) rfl hle rfl (out_some rfl) ⟨rfl, rfl⟩
         · intro imm1 hf le1
           refine Ins_cons ?_
           rintro _ _ ⟨rfl, rfl⟩
           refine Ins_cons ?_
           rintro _ _ ⟨rfl, rfl⟩
           refine Ins_cons ?_
           rintro _ _ ⟨rfl, rfl⟩
           refine Ins_nil <| R_isw (hf) [(36, vI x2.Part), (41, vI x3.A), (46, vI x4.B)] ?_
           have hle := Imm.le.refl imm1
           refine R_buildSlice (cs := [vI x2.Part, vI x3.A, vI x4.B]) (Rp.sz Int) rfl rfl rfl rfl (by kernel_rfl) (by kernel_rfl) ?_
           intro b hb
           have h3 : RL imm1 [vI x2.Part, vI x3.A, vI x4.B] ([x2.Part, x3.A, x4.B] : List Int) := ⟨[vI x2.Part], _, rfl, rfl, rfl, ⟨[vI x3.A], _, rfl, rfl, rfl, ⟨[vI x4.B], _, rfl, rfl, rfl, rfl⟩⟩⟩
           have hn : NW Int B (vS (some ⟨b, 0, none⟩) ([x2.Part, x3.A, x4.B] : List Int) 3) [vI x2.Part, vI x3.A, vI x4.B] := nw_new hb
           exact R_out (hx := [hO Int (vS (some ⟨b, 0, none⟩) ([x2.Part, x3.A, x4.B] : List Int) 3) [vI x2.Part, vI x3.A, vI x4.B]]) rfl hle rfl (out_some rfl) ⟨_, rfl, rfl, h3, hn⟩
       · intro imm03 le3
         refine Ins_cons ?_
         rintro _ _ ⟨b, rfl, rfl, h3, hn⟩
         refine Ins_nil <| R_isw [hO Int (vS (some ⟨b, 0, none⟩) ([x2.Part, x3.A, x4.B] : List Int) 3) [vI x2.Part, vI x3.A, vI x4.B]] [(0, vS p list c), (3, vT out.l), (4, vI i), (47, vS (some ⟨b, 0, none⟩) ([x2.Part, x3.A, x4.B] : List Int) 3)] ?_
         replace h := h.mono le3
         replace hle := hle.trans le3
         refine R_z [] [(5, vS (some ⟨b, 0, none⟩) ([x2.Part, x3.A, x4.B] : List Int) 3)] <| T_seq <| J_seq ?_
         obtain ⟨y2, hy7, hM⟩ := bind_some hM
         obtain ⟨x5, hy8, hM⟩ := bind_some hM
         obtain ⟨x6, hy9, hM⟩ := bind_some hM
         obtain ⟨s, hy10, hM⟩ := bind_some hM
         refine J_any [.p (vT out.l) [], .x (fun imm' v hx => ∃ (p1 : Option Addr) (c1 : Nat), v = vS p1 y2 c1 ∧ hx = [] ∧ (SL imm' (vS p1 y2 c1) y2)), .p (vS p list c) [], .p (vI i) [], .x (fun imm' v hx => ∃ (ad5 : Addr), v = .pointer (some ad5) ∧ hx = [] ∧ (At imm' ad5 [vI x5.Kind, vI x5.Part, vI x5.A, vI x5.B])), .x (fun imm' v hx => ∃ (ad51 : Addr), v = .pointer (some ad51) ∧ hx = [] ∧ (At imm' ad51 [vI x5.Kind, vI x5.Part, vI x5.A, vI x5.B])), .q (vI x5.Kind), .x (fun imm' v hx => ∃ (ad6 : Addr), v = .pointer (some ad6) ∧ hx = [] ∧ (At imm' ad6 [vT x6.l])), .q (vT x6.l), .q (vT s.l)] [[], [], [], [], [(2, false), (3, false)], [(4, false)], [(5, false)], [(1, false), (6, false)], [(7, false)], [(0, false), (8, false)]] [hO Int (vS (some ⟨b, 0, none⟩) ([x2.Part, x3.A, x4.B] : List Int) 3) [vI x2.Part, vI x3.A, vI x4.B]] [] [(9, false)] (good_pick [0] rfl (by decide)) ?_ ?_
         · refine Op <| Ox ?_ <| Op <| Op <| Ox ?_ <| Ox ?_ <| Oq ?_ <| Ox ?_ <| Oq ?_ <| Oq ?_ <| On
           · intro imm1 hf le1
             refine Ins_nil <| R_isw (hO Int (vS (some ⟨b, 0, none⟩) ([x2.Part, x3.A, x4.B] : List Int) 3) [vI x2.Part, vI x3.A, vI x4.B] :: hf) [] ?_
             have hle := Imm.le.refl imm1
             replace h3 := RepL.mono (fun _ _ => Rp.mono le1) h3
             refine R_call (hs1 := []) (rest := (hO Int (vS (some ⟨b, 0, none⟩) ([x2.Part, x3.A, x4.B] : List Int) 3) [vI x2.Part, vI x3.A, vI x4.B] :: hf)) rfl rfl rfl rfl (by kernel_rfl) rfl rfl (spec_l14Words_ok  _ hy7 ) ?_
             rintro imm04 hs2 v2 k2 le4 hk2 ⟨v02, rfl, rfl, h4⟩ -
             replace h3 := RepL.mono (fun _ _ => Rp.mono le4) h3
             replace hle := hle.trans le4
             obtain ⟨p1, c1, rfl⟩ := h4.form
             exact R_out (hx := []) rfl hle rfl (out_some rfl) ⟨_, _, rfl, rfl, h4⟩
           · intro imm1 hf le1
             refine Ins_cons ?_
             rintro _ _ ⟨rfl, rfl⟩
             refine Ins_cons ?_
             rintro _ _ ⟨rfl, rfl⟩
             refine Ins_nil <| R_isw (hO Int (vS (some ⟨b, 0, none⟩) ([x2.Part, x3.A, x4.B] : List Int) 3) [vI x2.Part, vI x3.A, vI x4.B] :: hf) [(50, vS p list c), (51, vI i)] ?_
             have hle := Imm.le.refl imm1
             replace h := h.mono le1
             refine R_ix rfl rfl h hy8 ?_
             intro ad5 ccs5 hat5 hrep5
             obtain rfl := impl_Step_open hrep5
             exact R_out (hx := []) rfl hle rfl (out_some rfl) ⟨_, rfl, rfl, hat5⟩
           · intro imm1 hf le1
             refine Ins_cons ?_
             rintro _ _ ⟨ad5, rfl, rfl, hat5⟩
             refine Ins_nil <| R_isw (hO Int (vS (some ⟨b, 0, none⟩) ([x2.Part, x3.A, x4.B] : List Int) 3) [vI x2.Part, vI x3.A, vI x4.B] :: hf) [(52, .pointer (some ad5))] ?_
             have hle := Imm.le.refl imm1
             exact R_p 6 [(53, .pointer (some ad5))] <| R_out (hx := []) rfl hle rfl (out_some rfl) ⟨_, rfl, rfl, hat5⟩
           · intro imm1 hf le1
             refine Ins_cons ?_
             rintro _ _ ⟨ad51, rfl, rfl, hat51⟩
             refine Ins_nil <| R_isw (hO Int (vS (some ⟨b, 0, none⟩) ([x2.Part, x3.A, x4.B] : List Int) 3) [vI x2.Part, vI x3.A, vI x4.B] :: hf) [(53, .pointer (some ad51))] ?_
             have hle := Imm.le.refl imm1
             exact R_la 0 hat51 [vI x5.Kind] (vI x5.Kind) rfl <| R_out (hx := []) rfl hle rfl (out_some rfl) ⟨rfl, rfl⟩
           · intro imm1 hf le1
             refine Ins_cons ?_
             rintro _ _ ⟨p1, c1, rfl, rfl, h4⟩
             refine Ins_cons ?_
             rintro _ _ ⟨rfl, rfl⟩
             refine Ins_nil <| R_isw (hO Int (vS (some ⟨b, 0, none⟩) ([x2.Part, x3.A, x4.B] : List Int) 3) [vI x2.Part, vI x3.A, vI x4.B] :: hf) [(49, vS p1 y2 c1), (54, vI x5.Kind)] ?_
             have hle := Imm.le.refl imm1
             refine R_ix rfl rfl h4 hy9 ?_
             intro ad6 ccs6 hat6 hrep6
             obtain rfl := hrep6
             exact R_out (hx := []) rfl hle rfl (out_some rfl) ⟨_, rfl, rfl, hat6⟩
           · intro imm1 hf le1
             refine Ins_cons ?_
             rintro _ _ ⟨ad6, rfl, rfl, hat6⟩
             refine Ins_nil <| R_isw (hO Int (vS (some ⟨b, 0, none⟩) ([x2.Part, x3.A, x4.B] : List Int) 3) [vI x2.Part, vI x3.A, vI x4.B] :: hf) [(55, .pointer (some ad6))] ?_
             have hle := Imm.le.refl imm1
             exact R_la 0 hat6 [vT x6.l] (vT x6.l) rfl <| R_out (hx := []) rfl hle rfl (out_some rfl) ⟨rfl, rfl⟩
           · intro imm1 hf le1
             refine Ins_cons ?_
             rintro _ _ ⟨rfl, rfl⟩
             refine Ins_cons ?_
             rintro _ _ ⟨rfl, rfl⟩
             refine Ins_nil <| R_isw (hO Int (vS (some ⟨b, 0, none⟩) ([x2.Part, x3.A, x4.B] : List Int) 3) [vI x2.Part, vI x3.A, vI x4.B] :: hf) [(48, vT out.l), (56, vT x6.l)] ?_
             have hle := Imm.le.refl imm1
             exact R_ca rfl hy10 <| R_out (hx := []) rfl hle rfl (out_some rfl) ⟨rfl, rfl⟩
         · intro imm05 le5
           refine Ins_cons ?_
           rintro _ _ ⟨rfl, rfl⟩
           refine Ins_nil <| R_isw [hO Int (vS (some ⟨b, 0, none⟩) ([x2.Part, x3.A, x4.B] : List Int) 3) [vI x2.Part, vI x3.A, vI x4.B]] [(0, vS p list c), (4, vI i), (5, vS (some ⟨b, 0, none⟩) ([x2.Part, x3.A, x4.B] : List Int) 3), (57, vT s.l)] ?_
           replace h := h.mono le5
           replace h3 := RepL.mono (fun _ _ => Rp.mono le5) h3
           replace hle := hle.trans le5
           refine R_z [] [(3, vT s.l)] <| T_seq <| J_seq <| J_seq <| J_region <| R_z [] [(6, vI 0)] <| T_seq <| J_block <| J_w [(0, vS p list c), (3, vT s.l), (4, vI i), (5, vS (some ⟨b, 0, none⟩) ([x2.Part, x3.A, x4.B] : List Int) 3), (6, vI 0)] ?_
           obtain ⟨o01, ho01, hM⟩ := bind_some hM
           refine spec_FormatSteps_l2_ok list i x2 x3 x4 s 0 o01 ho01 (Imm.le.refl _) h h3 hn (fun _ _ _ h => hg _ _ _ h) (fun _ _ h => ho _ _ h) ?_
           intro imm08 out3 heq1 le8 
           subst o01
           replace h := h.mono le8
           replace hle := hle.trans le8
           refine T_block_here <| T_seq <| J_region <| R_d 1 [] [(76, vT out3.l)] ?_
           obtain ⟨s3, hy17, hM⟩ := bind_some hM
           exact R_ca rfl hy17 <| R_z [] [(3, vT s3.l)] <| T_block_normal <| T_seq <| J_region <| R_z [] [(4, vI (W (i + 1)))] <| T_loop <| J_w [(0, vS p list c), (3, vT s3.l), (4, vI (W (i + 1)))] <| ih s3 (W (i + 1)) _ hM hle h hg ho hx hr
 · intro hc hM
   exact J_exit <| T_then_exit <| T_then_exit <| T_w [(3, vT out.l)] <| hx _ _ (pure_some hM).symm hle 

def M.spec_FormatSteps (list : (List impl_Step)) : Option (Str) := do
 match ← M.spec_FormatSteps_l1 list (⟨[]⟩ : Str) 0 with
 | .ret r0 => pure r0
 | .done out1 =>
  pure (id out1)

theorem spec_FormatSteps_ok : ∀ (list : (List impl_Step)) r, M.spec_FormatSteps list = some r → ∀ {imm : Imm} {p : Option Addr} {c : Nat}, (SL imm (vS p list c) list) → Ret Tryd.prog 6 [vS p list c] imm [] (spec_FormatSteps_post  r) := by
 intro list r hM imm p c h
 unfold M.spec_FormatSteps at hM
 refine ret_of_J (fn := Tryd.f6) (c := (bodyOf Tryd.f6)) Tryd.func6 rfl rfl ?_
 rintro B - -
 have hle : imm.le imm := Imm.le.refl _
 refine J_seq <| J_region <| R_z [] [] <| T_seq <| J_seq <| J_region <| R_z [] [(3, vT ([]))] <| T_seq <| J_seq <| J_seq <| J_region <| R_z [] [(4, vI 0)] <| T_seq <| J_block <| J_w [(0, vS p list c), (3, vT ([])), (4, vI 0)] ?_
 obtain ⟨o02, ho02, hM⟩ := bind_some hM
 refine spec_FormatSteps_l1_ok list (⟨[]⟩ : Str) 0 o02 ho02 (Imm.le.refl _) h (fun _ _ _ h => h) (fun _ _ h => h) ?_ ?_
 · intro imm09 out1 heq2 le9 
   subst o02
   replace hle := hle.trans le9
   refine T_block_here <| T_seq <| J_seq <| J_region <| R_z [] [(2, vT out1.l)] <| T_seq <| J_ret ?_
   obtain rfl := pure_some hM
   exact T_RS ⟨_, _, (.tmp rfl ResV.nil), good_none, ⟨_, rfl, rfl, rfl⟩⟩
 · intro r0 imm9 hs9 m9 heq9 le9 hrs9
   subst heq9
   refine T_block_ret <| T_then_ret ?_
   obtain rfl := pure_some hM
   exact T_RS hrs9

def laws_toStep_post (r : impl_Step) : Nat → Imm → List HA → Value → Prop := fun kk imm' hs' v =>
  ∃ (v0 : Value), hs' = [] ∧ v = tupV [v0] ∧ (∃ cs, v0 = .agg ⟨cs⟩ ∧ Rp.rep imm' cs r)

def M.laws_toStep (a0 : laws_Step) : Option (impl_Step) := do
 pure (impl_Step.mk a0.Kind a0.Part a0.A a0.B)

theorem laws_toStep_ok : ∀ (a0 : laws_Step) r, M.laws_toStep a0 = some r → ∀ {imm : Imm} , Ret Tryd.prog 19 [vA [vI a0.Kind, vI a0.Part, vI a0.A, vI a0.B]] imm [] (laws_toStep_post  r) := by
 intro a0 r hM imm  
 unfold M.laws_toStep at hM
 refine ret_of_J (fn := Tryd.f19) (c := (bodyOf Tryd.f19)) Tryd.func19 rfl rfl ?_
 rintro B - -
 have hle : imm.le imm := Imm.le.refl _
 refine J_seq <| J_region <| R_box (c := ⟨[vI a0.Kind, vI a0.Part, vI a0.A, vI a0.B]⟩) rfl rfl rfl rfl rfl ?_
 intro b hb
 refine R_alloc (c := ⟨[vI 0, vI 0, vI 0, vI 0]⟩) rfl rfl rfl (by kernel_rfl) ?_
 intro b1 hb1
 refine R_end rfl <| T_seq <| J_seq <| J_region <| R_alloc (c := ⟨[vI 0, vI 0, vI 0, vI 0]⟩) rfl rfl rfl (by kernel_rfl) ?_
 intro b2 hb2
 refine R_end rfl <| T_seq <| J_seq <| J_region <| R_d 3 [2] [(5, vI a0.Kind), (6, vP b2 0)] <| R_sb 0 [vI a0.Kind, vI 0, vI 0, vI 0] [hB b2 [vI a0.Kind, vI 0, vI 0, vI 0], hB b1 [vI 0, vI 0, vI 0, vI 0], hB b [vI a0.Kind, vI a0.Part, vI a0.A, vI a0.B]] rfl rfl rfl rfl <| R_end rfl <| T_seq <| J_seq <| J_region <| R_d 3 [2] [(8, vI a0.Part), (9, vP b2 1)] <| R_sb 0 [vI a0.Kind, vI a0.Part, vI 0, vI 0] [hB b2 [vI a0.Kind, vI a0.Part, vI 0, vI 0], hB b1 [vI 0, vI 0, vI 0, vI 0], hB b [vI a0.Kind, vI a0.Part, vI a0.A, vI a0.B]] rfl rfl rfl rfl <| R_end rfl <| T_seq <| J_seq <| J_region <| R_d 3 [2] [(11, vI a0.A), (12, vP b2 2)] <| R_sb 0 [vI a0.Kind, vI a0.Part, vI a0.A, vI 0] [hB b2 [vI a0.Kind, vI a0.Part, vI a0.A, vI 0], hB b1 [vI 0, vI 0, vI 0, vI 0], hB b [vI a0.Kind, vI a0.Part, vI a0.A, vI a0.B]] rfl rfl rfl rfl <| R_end rfl <| T_seq <| J_seq <| J_region <| R_d 3 [2] [(14, vI a0.B), (15, vP b2 3)] <| R_sb 0 [vI a0.Kind, vI a0.Part, vI a0.A, vI a0.B] [hB b2 [vI a0.Kind, vI a0.Part, vI a0.A, vI a0.B], hB b1 [vI 0, vI 0, vI 0, vI 0], hB b [vI a0.Kind, vI a0.Part, vI a0.A, vI a0.B]] rfl rfl rfl rfl <| R_end rfl <| T_seq <| J_seq <| J_region <| R_d 1 [0] [(16, vA [vI a0.Kind, vI a0.Part, vI a0.A, vI a0.B])] <| R_sb 1 [vI a0.Kind, vI a0.Part, vI a0.A, vI a0.B] [hB b2 [vI a0.Kind, vI a0.Part, vI a0.A, vI a0.B], hB b1 [vI a0.Kind, vI a0.Part, vI a0.A, vI a0.B], hB b [vI a0.Kind, vI a0.Part, vI a0.A, vI a0.B]] rfl rfl rfl rfl <| R_end rfl <| T_seq <| J_ret ?_
 obtain rfl := pure_some hM
 exact T_RS ⟨_, _, (.cell 1 rfl rfl (by kernel_rfl) ResV.nil), good_none, ⟨_, rfl, rfl, ⟨_, rfl, (impl_Step_shut rfl)⟩⟩⟩

def laws_toStepS_post (r : (List impl_Step)) : Nat → Imm → List HA → Value → Prop := fun kk imm' hs' v =>
  ∃ (v0 : Value), hs' = [] ∧ v = tupV [v0] ∧ SL imm' v0 r

def M.laws_toStepS_l1 (a0 : (List laws_Step)) (out1 : List impl_Step) (i : Int) : Option (List impl_Step) := do
 if (decide (i < (a0.length : Int))) then
  let x ← idx a0 i
  let y ← M.laws_toStep x
  let x1 ← idx out1 i
  let l ← pure (out1.set i.toNat y)
  M.laws_toStepS_l1 a0 l (W (i + 1))
 else
  pure (id out1)
 partial_fixpoint

theorem laws_toStepS_l1_ok (a0 : (List laws_Step)) : ∀ (out1 : List impl_Step) (i : Int) (o : List impl_Step), M.laws_toStepS_l1 a0 out1 i = some o → ∀ {B : Base} {imm0 imm : Imm} {Q : Exit → Act → World → Prop}  {p : Option Addr} {c : Nat} {p1 : Option Addr} {c1 : Nat} {cs1 : List Value}, imm0.le imm → (SL imm (vS p a0 c) a0) → (RL imm cs1 out1) → (NW impl_Step B (vS p1 out1 c1) cs1) → (∀ l a w, ¬ Q (.goto l) a w) → (∀ a w, ¬ Q .outgrown a w) → (∀ (imm' : Imm) (out2 : List impl_Step) (p2 : Option Addr) (c2 : Nat) (cs2 : List Value), o = out2 → imm0.le imm' → (RL imm' cs2 out2) → (NW impl_Step B (vS p2 out2 c2) cs2) → T 23 B Q (.exit 0) imm' [hO impl_Step (vS p2 out2 c2) cs2] [(3, vS p2 out2 c2)]) → J Tryd.prog 23 B (nav (bodyOf Tryd.f7) [1, 1, 0, 1, 0]) Q imm [hO impl_Step (vS p1 out1 c1) cs1] [(0, vS p a0 c), (3, vS p1 out1 c1), (4, vI i)] := by
 refine M.laws_toStepS_l1.partial_correctness a0 _ ?_
 intro self ih out1 i o hM B imm0 imm Q p c p1 c1 cs1 hle h h2 hn1 hg ho hx 
 refine J_loop hg ho <| J_seq <| J_seq <| J_region <| R_z [] [(11, .bool (decide (i < (a0.length : Int))))] <| T_seq <| J_cd hM ?_ ?_
 · intro hc hM
   refine J_skip <| T_seq <| J_seq <| J_block <| J_region <| R_d 4 [] [(14, vS p1 out1 c1), (15, vI i), (16, vS p a0 c), (17, vI i)] ?_
   obtain ⟨x, hy1, hM⟩ := bind_some hM
   refine R_ix rfl rfl h hy1 ?_
   intro ad ccs hat hrep
   obtain rfl := laws_Step_open hrep
   refine R_la 0 hat [vI x.Kind, vI x.Part, vI x.A, vI x.B] (vA [vI x.Kind, vI x.Part, vI x.A, vI x.B]) rfl ?_
   obtain ⟨y, hy2, hM⟩ := bind_some hM
   refine R_call (hs1 := []) (rest := [hO impl_Step (vS p1 out1 c1) cs1]) rfl rfl rfl rfl (by kernel_rfl) rfl rfl (laws_toStep_ok x _ hy2 ) ?_
   rintro imm0 hs2 v2 k2 le hk ⟨v0, rfl, rfl, ⟨cs3, rfl, h4⟩⟩ -
   replace h := h.mono le
   replace h2 := RepL.mono (fun _ _ => Rp.mono le) h2
   replace hle := hle.trans le
   obtain rfl := impl_Step_open h4
   obtain ⟨x1, hy3, hM⟩ := bind_some hM
   refine R_ixo 0 rfl rfl rfl h2 hy3 ?_
   intro ad1 ccs1 hat1 hcc hrep1
   obtain rfl := impl_Step_open hrep1
   obtain ⟨l, hy4, hM⟩ := bind_some hM
   refine R_store_el (c := [vI y.Kind, vI y.Part, vI y.A, vI y.B]) (x' := y) 0 0 rfl rfl rfl hat1 rfl rfl hcc (by kernel_rfl) (by kernel_rfl) (by kernel_rfl) h2 hy3 (by kernel_rfl) (impl_Step_shut rfl) ?_
   rw [show out1.set i.toNat y = l from pure_some hy4]
   intro cs4 h5 hl0
   have hn3 : NW impl_Step B (vS p1 l c1) cs4 := nw_len hl0 hn1
   exact R_weaken (m' := [(0, vS p a0 c), (3, vS p1 out1 c1), (4, vI i), (14, vS p1 out1 c1), (15, vI i), (20, vA [vI y.Kind, vI y.Part, vI y.A, vI y.B])]) ⟨rfl, rfl, rfl, rfl, rfl, rfl, trivial⟩ <| R_conv (hs' := [hO impl_Step (vS p1 l c1) cs4]) (m' := [(0, vS p a0 c), (3, vS p1 l c1), (4, vI i), (14, vS p1 l c1), (15, vI i), (20, vA [vI y.Kind, vI y.Part, vI y.A, vI y.B])]) (by first | rfl | simp only [vS, hl0, List.nil_append, List.cons_append, List.set_cons_zero, List.set_cons_succ]) (by first | rfl | simp only [vS, hl0]) <| R_end rfl <| T_block_normal <| T_seq <| J_region <| R_z [] [(4, vI (W (i + 1)))] <| T_loop <| J_w [(0, vS p a0 c), (3, vS p1 l c1), (4, vI (W (i + 1)))] <| ih l (W (i + 1)) _ hM hle h h5 hn3 hg ho hx 
 · intro hc hM
   exact J_exit <| T_then_exit <| T_then_exit <| T_w [(3, vS p1 out1 c1)] <| hx _ _ _ _ _ (pure_some hM).symm hle h2 hn1

def M.laws_toStepS (a0 : (List laws_Step)) : Option ((List impl_Step)) := do
 let out ← mkrow 32 (a0.length : Int) ((impl_Step.mk 0 0 0 0) : impl_Step)
 let out2 ← M.laws_toStepS_l1 a0 out 0
 pure (id out2)

theorem laws_toStepS_ok : ∀ (a0 : (List laws_Step)) r, M.laws_toStepS a0 = some r → ∀ {imm : Imm} {p : Option Addr} {c : Nat}, (SL imm (vS p a0 c) a0) → Ret Tryd.prog 7 [vS p a0 c] imm [] (laws_toStepS_post  r) := by
 intro a0 r hM imm p c h
 unfold M.laws_toStepS at hM
 refine ret_of_J (fn := Tryd.f7) (c := (bodyOf Tryd.f7)) Tryd.func7 rfl rfl ?_
 rintro B - -
 have hle : imm.le imm := Imm.le.refl _
 refine J_seq <| J_region <| R_z [] [] <| T_seq <| J_seq <| J_region <| R_d 2 [] [(6, vI (a0.length : Int))] ?_
 obtain ⟨out, hy, hM⟩ := bind_some hM
 refine R_mk 32 [vI 0, vI 0, vI 0, vI 0] rfl hy (impl_Step_shut rfl) ?_
 intro b cs hn h1
 refine R_z [] [(3, vS (some ⟨b, 0, none⟩) out out.length)] <| T_seq <| J_seq <| J_seq <| J_region <| R_z [] [(4, vI 0)] <| T_seq <| J_block <| J_w [(0, vS p a0 c), (3, vS (some ⟨b, 0, none⟩) out out.length), (4, vI 0)] ?_
 obtain ⟨o0, ho0, hM⟩ := bind_some hM
 refine laws_toStepS_l1_ok a0 out 0 o0 ho0 (Imm.le.refl _) h h1 hn (fun _ _ _ h => h) (fun _ _ h => h) ?_
 intro imm01 out2 p2 c2 cs2 heq le1 h3 hn2
 subst o0
 replace hle := hle.trans le1
 refine T_block_here <| T_seq <| J_seq <| J_region <| R_z [] [(2, vS p2 out2 c2)] <| T_seq <| J_ret <| T_freeze 0 rfl hn2 ?_
 intro imm02 le2 hl01
 have h6 := SL.of_frozen hl01 le2 h3
 replace hle := hle.trans le2
 obtain rfl := pure_some hM
 exact T_RS ⟨_, _, (.tmp rfl ResV.nil), good_none, ⟨_, rfl, rfl, h6⟩⟩

def slices_IndexFunc_int_int_post (hsF : List HA) (r : Int) : Nat → Imm → List HA → Value → Prop := fun kk imm' hs' v =>
  ∃ (v0 : Value), hsF = hs' ∧ v = tupV [v0] ∧ v0 = .int .i64 r

def M.slices_IndexFunc_int_int_l1 (s : (List Int)) (f0 : (Int → Option Bool)) (t8 : Int) : Option (Out Unit (Int)) := do
 if (decide (t8 < (s.length : Int))) then
  let x ← idx s t8
  let y ← f0 x
  if y then
   pure (.ret t8)
  else
   M.slices_IndexFunc_int_int_l1 s f0 (W (t8 + 1))
 else
  pure (.done ())
 partial_fixpoint

theorem slices_IndexFunc_int_int_l1_ok (s : (List Int)) (f0 : (Int → Option Bool)) : ∀ (t8 : Int) (o : Out Unit (Int)), M.slices_IndexFunc_int_int_l1 s f0 t8 = some o → ∀ {B : Base} {imm0 imm : Imm} {Q : Exit → Act → World → Prop}  {p : Option Addr} {c : Nat} {fv : Value} {hsF : List HA}, imm0.le imm → (SL imm (vS p s c) s) → (FV1 Tryd.prog imm hsF fv f0) → (∀ l a w, ¬ Q (.goto l) a w) → (∀ a w, ¬ Q .outgrown a w) → (∀ (imm' : Imm) , o = (.done ()) → imm0.le imm' → T 19 B Q (.exit 0) imm' hsF []) → (∀ r imm' hs' m', o = (.ret r) → imm0.le imm' → RS Tryd.prog Tryd.f43 B (slices_IndexFunc_int_int_post hsF r) imm' hs' m' → T 19 B Q .ret imm' hs' m') → J Tryd.prog 19 B (nav (bodyOf Tryd.f43) [1, 0, 1, 0]) Q imm hsF [(0, vS p s c), (1, fv), (7, vI (s.length : Int)), (8, vI t8)] := by
 refine M.slices_IndexFunc_int_int_l1.partial_correctness s f0 _ ?_
 intro self ih t8 o hM B imm0 imm Q p c fv hsF hle h h1 hg ho hx hr
 refine J_loop hg ho <| J_seq <| J_region <| R_z [] [(9, .bool (decide (t8 < (s.length : Int))))] <| T_seq <| J_seq <| J_cd hM ?_ ?_
 · intro hc hM
   refine J_skip <| T_seq <| J_seq <| J_block <| J_seq <| J_region <| R_z [] [(5, vI t8)] <| T_seq <| J_seq <| J_region <| R_d 3 [] [(11, fv), (12, vS p s c), (13, vI t8)] ?_
   obtain ⟨x, hy, hM⟩ := bind_some hM
   refine R_ix rfl rfl h hy ?_
   intro ad ccs hat hrep
   obtain rfl := hrep
   refine R_la 0 hat [vI x] (vI x) rfl ?_
   obtain ⟨y, hy1, hM⟩ := bind_some hM
   refine R_fv1 rfl rfl h1 hy1 rfl (List.append_nil _).symm ?_
   rintro imm0 v0 le rfl
   refine R_hseq (hs' := hsF) (List.append_nil _) ?_
   replace h := h.mono le
   replace h1 := h1.mono le
   replace hle := hle.trans le
   refine R_end rfl <| T_seq <| J_cd hM ?_ ?_
   · intro hc1 hM
     exact J_seq <| J_region <| R_z [] [(4, vI t8)] <| T_seq <| J_ret <| T_block_ret <| T_then_ret <| T_then_ret <| hr _ _ _ _ (pure_some hM).symm hle ⟨_, _, (.tmp rfl ResV.nil), (fun _ h => h), ⟨_, rfl, rfl, rfl⟩⟩
   · intro hc1 hM
     exact J_skip <| T_block_normal <| T_seq <| J_region <| R_z [] [(8, vI (W (t8 + 1)))] <| T_loop <| J_w [(0, vS p s c), (1, fv), (7, vI (s.length : Int)), (8, vI (W (t8 + 1)))] <| ih (W (t8 + 1)) _ hM hle h h1 hg ho hx hr
 · intro hc hM
   exact J_exit <| T_then_exit <| T_then_exit <| T_w [] <| hx _  (pure_some hM).symm hle 

def M.slices_IndexFunc_int_int (s : (List Int)) (f0 : (Int → Option Bool)) : Option (Int) := do
 match ← M.slices_IndexFunc_int_int_l1 s f0 0 with
 | .ret r0 => pure r0
 | .done _ =>
  pure (-1)

theorem slices_IndexFunc_int_int_ok : ∀ (s : (List Int)) (f0 : (Int → Option Bool)) r, M.slices_IndexFunc_int_int s f0 = some r → ∀ {imm : Imm} {p : Option Addr} {c : Nat} {fv : Value} {hsF : List HA}, (SL imm (vS p s c) s) → (FV1 Tryd.prog imm hsF fv f0) → Ret Tryd.prog 43 [vS p s c, fv] imm hsF (slices_IndexFunc_int_int_post hsF r) := by
 intro s f0 r hM imm p c fv hsF h h1
 unfold M.slices_IndexFunc_int_int at hM
 refine ret_of_J (fn := Tryd.f43) (c := (bodyOf Tryd.f43)) Tryd.func43 rfl rfl ?_
 rintro B - -
 have hle : imm.le imm := Imm.le.refl _
 refine J_seq <| J_region <| R_z [] [] <| T_seq <| J_seq <| J_seq <| J_region <| R_z [] [(7, vI (s.length : Int)), (8, vI 0)] <| T_seq <| J_block <| J_w [(0, vS p s c), (1, fv), (7, vI (s.length : Int)), (8, vI 0)] ?_
 obtain ⟨o0, ho0, hM⟩ := bind_some hM
 refine slices_IndexFunc_int_int_l1_ok s f0 0 o0 ho0 (Imm.le.refl _) h h1 (fun _ _ _ h => h) (fun _ _ h => h) ?_ ?_
 · intro imm01  heq le1 
   subst o0
   replace hle := hle.trans le1
   refine T_block_here <| T_seq <| J_seq <| J_region <| R_z [] [(4, vI (-1))] <| T_seq <| J_ret ?_
   obtain rfl := pure_some hM
   exact T_RS ⟨_, _, (.tmp rfl ResV.nil), (fun _ h => h), ⟨_, rfl, rfl, rfl⟩⟩
 · intro r0 imm9 hs9 m9 heq9 le9 hrs9
   subst heq9
   refine T_block_ret <| T_then_ret ?_
   obtain rfl := pure_some hM
   exact T_RS hrs9

def slices_ContainsFunc_int_int_post (hsF : List HA) (r : Bool) : Nat → Imm → List HA → Value → Prop := fun kk imm' hs' v =>
  ∃ (v0 : Value), hsF = hs' ∧ v = tupV [v0] ∧ v0 = .bool r

def M.slices_ContainsFunc_int_int (s : (List Int)) (f0 : (Int → Option Bool)) : Option (Bool) := do
 let y ← M.slices_IndexFunc_int_int s f0
 pure (decide (y ≥ 0))

theorem slices_ContainsFunc_int_int_ok : ∀ (s : (List Int)) (f0 : (Int → Option Bool)) r, M.slices_ContainsFunc_int_int s f0 = some r → ∀ {imm : Imm} {p : Option Addr} {c : Nat} {fv : Value} {hsF : List HA}, (SL imm (vS p s c) s) → (FV1 Tryd.prog imm hsF fv f0) → Ret Tryd.prog 30 [vS p s c, fv] imm hsF (slices_ContainsFunc_int_int_post hsF r) := by
 intro s f0 r hM imm p c fv hsF h h1
 unfold M.slices_ContainsFunc_int_int at hM
 refine ret_of_J (fn := Tryd.f30) (c := (bodyOf Tryd.f30)) Tryd.func30 rfl rfl ?_
 rintro B - -
 have hle : imm.le imm := Imm.le.refl _
 refine J_seq <| J_region <| R_z [] [] <| T_seq <| J_seq <| J_region <| R_d 2 [] [(5, vS p s c), (6, fv)] ?_
 obtain ⟨y, hy, hM⟩ := bind_some hM
 refine R_call (hs1 := hsF) (rest := []) rfl rfl rfl rfl (by kernel_rfl) rfl (List.append_nil _).symm (slices_IndexFunc_int_int_ok s f0 _ hy h h1) ?_
 rintro imm0 hs2 v2 k2 le hk ⟨v0, rfl, rfl, rfl⟩ -
 refine R_hseq (hs' := hsF) (List.append_nil _) ?_
 replace hle := hle.trans le
 refine R_z [] [(4, .bool (decide (y ≥ 0)))] <| T_seq <| J_ret ?_
 obtain rfl := pure_some hM
 exact T_RS ⟨_, _, (.tmp rfl ResV.nil), (fun _ h => h), ⟨_, rfl, rfl, rfl⟩⟩

def impl_Step_list_post (r : (List Int)) : Nat → Imm → List HA → Value → Prop := fun kk imm' hs' v =>
  ∃ (v0 : Value), hs' = [] ∧ v = tupV [v0] ∧ SL imm' v0 r

def M.impl_Step_list (s : impl_Step) : Option ((List Int)) := do
 pure ([s.Part, s.A, s.B] : List Int)

theorem impl_Step_list_ok : ∀ (s : impl_Step) r, M.impl_Step_list s = some r → ∀ {imm : Imm} , Ret Tryd.prog 31 [vA [vI s.Kind, vI s.Part, vI s.A, vI s.B]] imm [] (impl_Step_list_post  r) := by
 intro s r hM imm  
 unfold M.impl_Step_list at hM
 refine ret_of_J (fn := Tryd.f31) (c := (bodyOf Tryd.f31)) Tryd.func31 rfl rfl ?_
 rintro B - -
 have hle : imm.le imm := Imm.le.refl _
 refine J_seq <| J_region <| R_box (c := ⟨[vI s.Kind, vI s.Part, vI s.A, vI s.B]⟩) rfl rfl rfl rfl rfl ?_
 intro b hb
 refine R_z [] [] <| T_seq <| J_seq <| J_region <| R_d 6 [0, 0, 0] [(4, vI s.Part), (6, vI s.A), (8, vI s.B)] <| R_buildSlice (cs := [vI s.Part, vI s.A, vI s.B]) (Rp.sz Int) rfl rfl rfl rfl (by kernel_rfl) (by kernel_rfl) ?_
 intro b1 hb1
 have h : RL imm [vI s.Part, vI s.A, vI s.B] ([s.Part, s.A, s.B] : List Int) := ⟨[vI s.Part], _, rfl, rfl, rfl, ⟨[vI s.A], _, rfl, rfl, rfl, ⟨[vI s.B], _, rfl, rfl, rfl, rfl⟩⟩⟩
 have hn : NW Int B (vS (some ⟨b1, 0, none⟩) ([s.Part, s.A, s.B] : List Int) 3) [vI s.Part, vI s.A, vI s.B] := nw_new hb1
 refine R_z [] [(2, vS (some ⟨b1, 0, none⟩) ([s.Part, s.A, s.B] : List Int) 3)] <| T_seq <| J_ret <| T_freeze 0 rfl hn ?_
 intro imm0 le hl0
 have h1 := SL.of_frozen hl0 le h
 replace hle := hle.trans le
 obtain rfl := pure_some hM
 exact T_RS ⟨_, _, (.tmp rfl ResV.nil), good_none, ⟨_, rfl, rfl, h1⟩⟩

def impl_fields_post (r : Int) : Nat → Imm → List HA → Value → Prop := fun kk imm' hs' v =>
  ∃ (v0 : Value), hs' = [] ∧ v = tupV [v0] ∧ v0 = .int .i64 r

def M.impl_fields (kind : Int) : Option (Int) := do
 let t4 ← (do
   if (kind == 1) then
    pure (kind == 1)
   else
    let t41 ← (do
      if (kind == 2) then
       pure (kind == 2)
      else
       let t42 ← (do
         if (kind == 7) then
          pure (kind == 7)
         else
          pure (kind == 8)
           : Option Bool)
       pure (id t42)
        : Option Bool)
    pure (id t41)
     : Option Bool)
 if t4 then
  pure (id 2)
 else
  let t9 ← (do
    if (kind == 3) then
     pure (kind == 3)
    else
     let t91 ← (do
       if (kind == 4) then
        pure (kind == 4)
       else
        pure (kind == 5)
         : Option Bool)
     pure (id t91)
      : Option Bool)
  if t9 then
   pure (id 3)
  else
   let t13 ← (do
     if (kind == 6) then
      pure (kind == 6)
     else
      let t131 ← (do
        if (kind == 9) then
         pure (kind == 9)
        else
         pure (kind == 10)
          : Option Bool)
      pure (id t131)
       : Option Bool)
   if t13 then
    pure (id 1)
   else
    if (kind == 11) then
     pure (id 0)
    else
     pure (-1)

theorem impl_fields_ok : ∀ (kind : Int) r, M.impl_fields kind = some r → ∀ {imm : Imm} , Ret Tryd.prog 35 [vI kind] imm [] (impl_fields_post  r) := by
 intro kind r hM imm  
 unfold M.impl_fields at hM
 refine ret_of_J (fn := Tryd.f35) (c := (bodyOf Tryd.f35)) Tryd.func35 rfl rfl ?_
 rintro B - -
 have hle : imm.le imm := Imm.le.refl _
 refine J_seq <| J_region <| R_z [] [] <| T_seq <| J_seq <| J_seq <| J_region <| R_z [] [(3, vI kind)] <| T_seq <| J_block <| J_seq <| J_seq <| J_region <| R_z [] [(4, .bool (kind == 1))] <| T_seq ?_
 obtain ⟨o0, ho0, hM⟩ := bind_some hM
 refine J_cut (fun imm' hs' m' => ∃ (t4 : Bool), o0 = t4 ∧ imm.le imm' ∧ hs' = [] ∧ m' = [(3, vI kind), (4, .bool t4)]) ?_ ?_
 · have hle0 := hle
   have hle : imm.le imm := Imm.le.refl _
   refine J_cd ho0 ?_ ?_
   · intro hc hM
     exact J_skip <| T_w [(3, vI kind), (4, .bool (kind == 1))] <| T_cut ⟨_, (pure_some hM).symm, hle, rfl, rfl⟩
   · intro hc hM
     refine J_seq <| J_region <| R_z [] [(4, .bool (kind == 2))] <| T_seq ?_
     obtain ⟨o01, ho01, hM⟩ := bind_some hM
     refine J_cut (fun imm' hs' m' => ∃ (t41 : Bool), o01 = t41 ∧ imm.le imm' ∧ hs' = [] ∧ m' = [(3, vI kind), (4, .bool t41)]) ?_ ?_
     · have hle0 := hle
       have hle : imm.le imm := Imm.le.refl _
       refine J_cd ho01 ?_ ?_
       · intro hc1 hM
         exact J_skip <| T_w [(3, vI kind), (4, .bool (kind == 2))] <| T_cut ⟨_, (pure_some hM).symm, hle, rfl, rfl⟩
       · intro hc1 hM
         refine J_seq <| J_region <| R_z [] [(4, .bool (kind == 7))] <| T_seq ?_
         obtain ⟨o02, ho02, hM⟩ := bind_some hM
         refine J_cut (fun imm' hs' m' => ∃ (t42 : Bool), o02 = t42 ∧ imm.le imm' ∧ hs' = [] ∧ m' = [(3, vI kind), (4, .bool t42)]) ?_ ?_
         · have hle0 := hle
           have hle : imm.le imm := Imm.le.refl _
           refine J_cd ho02 ?_ ?_
           · intro hc2 hM
             exact J_skip <| T_w [(3, vI kind), (4, .bool (kind == 7))] <| T_cut ⟨_, (pure_some hM).symm, hle, rfl, rfl⟩
           · intro hc2 hM
             exact J_region <| R_z [] [(4, .bool (kind == 8))] <| T_w [(3, vI kind), (4, .bool (kind == 8))] <| T_cut ⟨_, (pure_some hM).symm, hle, rfl, rfl⟩
         · rintro imm02 hs2 m2 ⟨t42, heq, le, rfl, rfl⟩
           subst o02
           replace hle := hle.trans le
           exact T_w [(3, vI kind), (4, .bool t42)] <| T_cut ⟨_, (pure_some hM).symm, hle, rfl, rfl⟩
     · rintro imm01 hs2 m2 ⟨t41, heq1, le1, rfl, rfl⟩
       subst o01
       replace hle := hle.trans le1
       exact T_w [(3, vI kind), (4, .bool t41)] <| T_cut ⟨_, (pure_some hM).symm, hle, rfl, rfl⟩
 · rintro imm0 hs2 m2 ⟨t4, heq2, le2, rfl, rfl⟩
   subst o0
   replace hle := hle.trans le2
   refine T_seq <| J_cd hM ?_ ?_
   · intro hc3 hM
     refine J_seq <| J_region <| R_z [] [(2, vI 2)] <| T_seq <| J_ret <| T_block_ret <| T_then_ret ?_
     obtain rfl := pure_some hM
     exact T_RS ⟨_, _, (.tmp rfl ResV.nil), good_none, ⟨_, rfl, rfl, rfl⟩⟩
   · intro hc3 hM
     refine J_seq <| J_seq <| J_region <| R_z [] [(9, .bool (kind == 3))] <| T_seq ?_
     obtain ⟨o03, ho03, hM⟩ := bind_some hM
     refine J_cut (fun imm' hs' m' => ∃ (t9 : Bool), o03 = t9 ∧ imm0.le imm' ∧ hs' = [] ∧ m' = [(3, vI kind), (9, .bool t9)]) ?_ ?_
     · have hle0 := hle
       have hle : imm0.le imm0 := Imm.le.refl _
       refine J_cd ho03 ?_ ?_
       · intro hc4 hM
         exact J_skip <| T_w [(3, vI kind), (9, .bool (kind == 3))] <| T_cut ⟨_, (pure_some hM).symm, hle, rfl, rfl⟩
       · intro hc4 hM
         refine J_seq <| J_region <| R_z [] [(9, .bool (kind == 4))] <| T_seq ?_
         obtain ⟨o04, ho04, hM⟩ := bind_some hM
         refine J_cut (fun imm' hs' m' => ∃ (t91 : Bool), o04 = t91 ∧ imm0.le imm' ∧ hs' = [] ∧ m' = [(3, vI kind), (9, .bool t91)]) ?_ ?_
         · have hle0 := hle
           have hle : imm0.le imm0 := Imm.le.refl _
           refine J_cd ho04 ?_ ?_
           · intro hc5 hM
             exact J_skip <| T_w [(3, vI kind), (9, .bool (kind == 4))] <| T_cut ⟨_, (pure_some hM).symm, hle, rfl, rfl⟩
           · intro hc5 hM
             exact J_region <| R_z [] [(9, .bool (kind == 5))] <| T_w [(3, vI kind), (9, .bool (kind == 5))] <| T_cut ⟨_, (pure_some hM).symm, hle, rfl, rfl⟩
         · rintro imm04 hs2 m2 ⟨t91, heq3, le3, rfl, rfl⟩
           subst o04
           replace hle := hle.trans le3
           exact T_w [(3, vI kind), (9, .bool t91)] <| T_cut ⟨_, (pure_some hM).symm, hle, rfl, rfl⟩
     · rintro imm03 hs2 m2 ⟨t9, heq4, le4, rfl, rfl⟩
       subst o03
       replace hle := hle.trans le4
       refine T_seq <| J_cd hM ?_ ?_
       · intro hc6 hM
         refine J_seq <| J_region <| R_z [] [(2, vI 3)] <| T_seq <| J_ret <| T_block_ret <| T_then_ret ?_
         obtain rfl := pure_some hM
         exact T_RS ⟨_, _, (.tmp rfl ResV.nil), good_none, ⟨_, rfl, rfl, rfl⟩⟩
       · intro hc6 hM
         refine J_seq <| J_seq <| J_region <| R_z [] [(13, .bool (kind == 6))] <| T_seq ?_
         obtain ⟨o05, ho05, hM⟩ := bind_some hM
         refine J_cut (fun imm' hs' m' => ∃ (t13 : Bool), o05 = t13 ∧ imm03.le imm' ∧ hs' = [] ∧ m' = [(3, vI kind), (13, .bool t13)]) ?_ ?_
         · have hle0 := hle
           have hle : imm03.le imm03 := Imm.le.refl _
           refine J_cd ho05 ?_ ?_
           · intro hc7 hM
             exact J_skip <| T_w [(3, vI kind), (13, .bool (kind == 6))] <| T_cut ⟨_, (pure_some hM).symm, hle, rfl, rfl⟩
           · intro hc7 hM
             refine J_seq <| J_region <| R_z [] [(13, .bool (kind == 9))] <| T_seq ?_
             obtain ⟨o06, ho06, hM⟩ := bind_some hM
             refine J_cut (fun imm' hs' m' => ∃ (t131 : Bool), o06 = t131 ∧ imm03.le imm' ∧ hs' = [] ∧ m' = [(3, vI kind), (13, .bool t131)]) ?_ ?_
             · have hle0 := hle
               have hle : imm03.le imm03 := Imm.le.refl _
               refine J_cd ho06 ?_ ?_
               · intro hc8 hM
                 exact J_skip <| T_w [(3, vI kind), (13, .bool (kind == 9))] <| T_cut ⟨_, (pure_some hM).symm, hle, rfl, rfl⟩
               · intro hc8 hM
                 exact J_region <| R_z [] [(13, .bool (kind == 10))] <| T_w [(3, vI kind), (13, .bool (kind == 10))] <| T_cut ⟨_, (pure_some hM).symm, hle, rfl, rfl⟩
             · rintro imm06 hs2 m2 ⟨t131, heq5, le5, rfl, rfl⟩
               subst o06
               replace hle := hle.trans le5
               exact T_w [(3, vI kind), (13, .bool t131)] <| T_cut ⟨_, (pure_some hM).symm, hle, rfl, rfl⟩
         · rintro imm05 hs2 m2 ⟨t13, heq6, le6, rfl, rfl⟩
           subst o05
           replace hle := hle.trans le6
           refine T_seq <| J_cd hM ?_ ?_
           · intro hc9 hM
             refine J_seq <| J_region <| R_z [] [(2, vI 1)] <| T_seq <| J_ret <| T_block_ret <| T_then_ret ?_
             obtain rfl := pure_some hM
             exact T_RS ⟨_, _, (.tmp rfl ResV.nil), good_none, ⟨_, rfl, rfl, rfl⟩⟩
           · intro hc9 hM
             refine J_seq <| J_region <| R_z [] [(17, .bool (kind == 11))] <| T_seq <| J_cd hM ?_ ?_
             · intro hc10 hM
               refine J_seq <| J_region <| R_z [] [(2, vI 0)] <| T_seq <| J_ret <| T_block_ret <| T_then_ret ?_
               obtain rfl := pure_some hM
               exact T_RS ⟨_, _, (.tmp rfl ResV.nil), good_none, ⟨_, rfl, rfl, rfl⟩⟩
             · intro hc10 hM
               refine J_skip <| T_block_normal <| T_seq <| J_seq <| J_region <| R_z [] [(2, vI (-1))] <| T_seq <| J_ret ?_
               obtain rfl := pure_some hM
               exact T_RS ⟨_, _, (.tmp rfl ResV.nil), good_none, ⟨_, rfl, rfl, rfl⟩⟩

def impl_isRight_1_post (r : Bool) : Nat → Imm → List HA → Value → Prop := fun kk imm' hs' v =>
  ∃ (v0 : Value), hs' = [] ∧ v = tupV [v0] ∧ v0 = .bool r

def M.impl_isRight_1 (v0 : Int) : Option (Bool) := do
 pure (v0 != 0)

theorem impl_isRight_1_ok : ∀ (v0 : Int) r, M.impl_isRight_1 v0 = some r → ∀ {imm : Imm} , Ret Tryd.prog 42 [vI v0] imm [] (impl_isRight_1_post  r) := by
 intro v0 r hM imm  
 unfold M.impl_isRight_1 at hM
 refine ret_of_J (fn := Tryd.f42) (c := (bodyOf Tryd.f42)) Tryd.func42 rfl rfl ?_
 rintro B - -
 have hle : imm.le imm := Imm.le.refl _
 refine J_seq <| J_region <| R_z [] [] <| T_seq <| J_seq <| J_region <| R_z [] [(2, .bool (v0 != 0))] <| T_seq <| J_ret ?_
 obtain rfl := pure_some hM
 exact T_RS ⟨_, _, (.tmp rfl ResV.nil), good_none, ⟨_, rfl, rfl, rfl⟩⟩

def impl_isRight_post (r : Bool) : Nat → Imm → List HA → Value → Prop := fun kk imm' hs' v =>
  ∃ (v0 : Value), hs' = [] ∧ v = tupV [v0] ∧ v0 = .bool r

def M.impl_isRight (s : impl_Step) : Option (Bool) := do
 let y ← M.impl_fields s.Kind
 let t2 ← (do
   if (decide (y ≥ 0)) then
    let y1 ← M.impl_Step_list s
    let l ← slc y1 y (y1.length : Int)
    let y2 ← M.slices_ContainsFunc_int_int l M.impl_isRight_1
    pure (!y2)
   else
    pure false
     : Option Bool)
 pure (id t2)

theorem impl_isRight_ok : ∀ (s : impl_Step) r, M.impl_isRight s = some r → ∀ {imm : Imm} , Ret Tryd.prog 29 [vA [vI s.Kind, vI s.Part, vI s.A, vI s.B]] imm [] (impl_isRight_post  r) := by
 intro s r hM imm  
 unfold M.impl_isRight at hM
 refine ret_of_J (fn := Tryd.f29) (c := (bodyOf Tryd.f29)) Tryd.func29 rfl rfl ?_
 rintro B - -
 have hle : imm.le imm := Imm.le.refl _
 refine J_seq <| J_region <| R_box (c := ⟨[vI s.Kind, vI s.Part, vI s.A, vI s.B]⟩) rfl rfl rfl rfl rfl ?_
 intro b hb
 refine R_z [] [] <| T_seq <| J_seq <| J_region <| R_d 2 [0] [(5, vI s.Kind)] ?_
 obtain ⟨y, hy, hM⟩ := bind_some hM
 refine R_call (hs1 := []) (rest := [hB b [vI s.Kind, vI s.Part, vI s.A, vI s.B]]) rfl rfl rfl rfl (by kernel_rfl) rfl rfl (impl_fields_ok s.Kind _ hy ) ?_
 rintro imm0 hs2 v2 k2 le hk ⟨v0, rfl, rfl, rfl⟩ -
 replace hle := hle.trans le
 refine R_z [] [(3, vI y)] <| T_seq <| J_seq ?_
 obtain ⟨o0, ho0, hM⟩ := bind_some hM
 refine J_cut (fun imm' hs' m' => ∃ (t2 : Bool), o0 = t2 ∧ imm0.le imm' ∧ hs' = [] ∧ m' = [(2, .bool t2)]) ?_ ?_
 · have hle0 := hle
   have hle : imm0.le imm0 := Imm.le.refl _
   refine J_region <| R_d 3 [] [(9, .bool (decide (y ≥ 0)))] ?_
   cases hc : (decide (y ≥ 0)) with
   | true =>
    have hM0 := if_some_true hc ho0
    try rw [hc]
    refine R_d 4 [0] [(10, vA [vI s.Kind, vI s.Part, vI s.A, vI s.B])] ?_
    obtain ⟨y1, hy1, hM⟩ := bind_some hM0
    refine R_call (hs1 := []) (rest := [hB b [vI s.Kind, vI s.Part, vI s.A, vI s.B]]) rfl rfl rfl rfl (by kernel_rfl) rfl rfl (impl_Step_list_ok s _ hy1 ) ?_
    rintro imm02 hs2 v2 k2 le1 hk1 ⟨v01, rfl, rfl, h1⟩ -
    replace hle := hle.trans le1
    obtain ⟨p, c, rfl⟩ := h1.form
    refine R_d 6 [] [(12, vI y)] ?_
    obtain ⟨l, hy2, hM⟩ := bind_some hM
    refine R_sl rfl h1 hy2 ?_
    intro v02 h2
    obtain ⟨p1, c1, rfl⟩ := h2.form
    have hf0 : FV1 Tryd.prog imm02 [] (.func (.func 42) ⟨[]⟩ ⟨[]⟩) M.impl_isRight_1 := by
      refine FV1.intro ?_
      intro imm1 le1 x0 r u0 hF k0
      obtain rfl := k0
      exact (impl_isRight_1_ok x0 r hF ).mono (by rintro k i hs u ⟨v0, rfl, rfl, h⟩; exact ⟨rfl, h⟩)
    obtain ⟨y2, hy3, hM⟩ := bind_some hM
    refine R_call (hs1 := []) (rest := [hB b [vI s.Kind, vI s.Part, vI s.A, vI s.B]]) rfl rfl rfl rfl (by kernel_rfl) rfl rfl (slices_ContainsFunc_int_int_ok l M.impl_isRight_1 _ hy3 h2 hf0) ?_
    rintro imm03 hs2 v2 k2 le2 hk2 ⟨v03, rfl, rfl, rfl⟩ -
    replace hle := hle.trans le2
    exact R_z [] [(2, .bool (!y2))] <| T_hs (good_pick [] rfl (by decide)) <| T_w [(2, .bool (!y2))] <| T_cut ⟨_, (pure_some hM).symm, hle, rfl, rfl⟩
   | false =>
    have hM01 := if_some_false hc ho0
    try rw [hc]
    exact R_z [] [(2, .bool false)] <| T_hs (good_pick [] rfl (by decide)) <| T_w [(2, .bool false)] <| T_cut ⟨_, (pure_some hM01).symm, hle, rfl, rfl⟩
 · rintro imm01 hs2 m2 ⟨t2, heq, le3, rfl, rfl⟩
   subst o0
   replace hle := hle.trans le3
   refine T_seq <| J_ret ?_
   obtain rfl := pure_some hM
   exact T_RS ⟨_, _, (.tmp rfl ResV.nil), good_none, ⟨_, rfl, rfl, rfl⟩⟩

def impl_within_post (r : Bool) : Nat → Imm → List HA → Value → Prop := fun kk imm' hs' v =>
  ∃ (v0 : Value), hs' = [] ∧ v = tupV [v0] ∧ v0 = .bool r

def M.impl_within (n0 : Int) (low : Int) (high : Int) : Option (Bool) := do
 let t6 ← (do
   if (decide (low ≤ n0)) then
    pure (decide (n0 ≤ high))
   else
    pure false
     : Option Bool)
 pure (id t6)

theorem impl_within_ok : ∀ (n0 : Int) (low : Int) (high : Int) r, M.impl_within n0 low high = some r → ∀ {imm : Imm} , Ret Tryd.prog 44 [vI n0, vI low, vI high] imm [] (impl_within_post  r) := by
 intro n0 low high r hM imm  
 unfold M.impl_within at hM
 refine ret_of_J (fn := Tryd.f44) (c := (bodyOf Tryd.f44)) Tryd.func44 rfl rfl ?_
 rintro B - -
 have hle : imm.le imm := Imm.le.refl _
 refine J_seq <| J_region <| R_z [] [] <| T_seq <| J_seq ?_
 obtain ⟨o0, ho0, hM⟩ := bind_some hM
 refine J_cut (fun imm' hs' m' => ∃ (t6 : Bool), o0 = t6 ∧ imm.le imm' ∧ hs' = [] ∧ m' = [(6, .bool t6)]) ?_ ?_
 · have hle0 := hle
   have hle : imm.le imm := Imm.le.refl _
   refine J_region <| R_d 4 [] [(10, .bool (decide (low ≤ n0)))] ?_
   cases hc : (decide (low ≤ n0)) with
   | true =>
    have hM0 := if_some_true hc ho0
    try rw [hc]
    exact R_z [] [(6, .bool (decide (n0 ≤ high)))] <| T_w [(6, .bool (decide (n0 ≤ high)))] <| T_cut ⟨_, (pure_some hM0).symm, hle, rfl, rfl⟩
   | false =>
    have hM01 := if_some_false hc ho0
    try rw [hc]
    exact R_z [] [(6, .bool false)] <| T_w [(6, .bool false)] <| T_cut ⟨_, (pure_some hM01).symm, hle, rfl, rfl⟩
 · rintro imm0 hs2 m2 ⟨t6, heq, le, rfl, rfl⟩
   subst o0
   replace hle := hle.trans le
   refine T_seq <| J_ret ?_
   obtain rfl := pure_some hM
   exact T_RS ⟨_, _, (.tmp rfl ResV.nil), good_none, ⟨_, rfl, rfl, rfl⟩⟩

def impl_isConst_post (r : Bool) : Nat → Imm → List HA → Value → Prop := fun kk imm' hs' v =>
  ∃ (v0 : Value), hs' = [] ∧ v = tupV [v0] ∧ v0 = .bool r

def M.impl_isConst (n0 : Int) : Option (Bool) := do
 let y ← M.impl_within n0 (-99) 99
 pure (id y)

theorem impl_isConst_ok : ∀ (n0 : Int) r, M.impl_isConst n0 = some r → ∀ {imm : Imm} , Ret Tryd.prog 33 [vI n0] imm [] (impl_isConst_post  r) := by
 intro n0 r hM imm  
 unfold M.impl_isConst at hM
 refine ret_of_J (fn := Tryd.f33) (c := (bodyOf Tryd.f33)) Tryd.func33 rfl rfl ?_
 rintro B - -
 have hle : imm.le imm := Imm.le.refl _
 refine J_seq <| J_region <| R_z [] [] <| T_seq <| J_seq <| J_region <| R_d 1 [] [(3, vI n0)] ?_
 obtain ⟨y, hy, hM⟩ := bind_some hM
 refine R_call (hs1 := []) (rest := []) rfl rfl rfl rfl (by kernel_rfl) rfl rfl (impl_within_ok n0 (-99) 99 _ hy ) ?_
 rintro imm0 hs2 v2 k2 le hk ⟨v0, rfl, rfl, rfl⟩ -
 replace hle := hle.trans le
 refine R_z [] [(2, .bool y)] <| T_seq <| J_ret ?_
 obtain rfl := pure_some hM
 exact T_RS ⟨_, _, (.tmp rfl ResV.nil), good_none, ⟨_, rfl, rfl, rfl⟩⟩

def impl_hasText_1_post (r : Bool) : Nat → Imm → List HA → Value → Prop := fun kk imm' hs' v =>
  ∃ (v0 : Value), hs' = [] ∧ v = tupV [v0] ∧ v0 = .bool r

def M.impl_hasText_1 (n0 : Int) : Option (Bool) := do
 let y ← M.impl_isConst n0
 pure (!y)

theorem impl_hasText_1_ok : ∀ (n0 : Int) r, M.impl_hasText_1 n0 = some r → ∀ {imm : Imm} , Ret Tryd.prog 32 [vI n0] imm [] (impl_hasText_1_post  r) := by
 intro n0 r hM imm  
 unfold M.impl_hasText_1 at hM
 refine ret_of_J (fn := Tryd.f32) (c := (bodyOf Tryd.f32)) Tryd.func32 rfl rfl ?_
 rintro B - -
 have hle : imm.le imm := Imm.le.refl _
 refine J_seq <| J_region <| R_z [] [] <| T_seq <| J_seq <| J_region <| R_d 1 [] [(3, vI n0)] ?_
 obtain ⟨y, hy, hM⟩ := bind_some hM
 refine R_call (hs1 := []) (rest := []) rfl rfl rfl rfl (by kernel_rfl) rfl rfl (impl_isConst_ok n0 _ hy ) ?_
 rintro imm0 hs2 v2 k2 le hk ⟨v0, rfl, rfl, rfl⟩ -
 replace hle := hle.trans le
 refine R_z [] [(2, .bool (!y))] <| T_seq <| J_ret ?_
 obtain rfl := pure_some hM
 exact T_RS ⟨_, _, (.tmp rfl ResV.nil), good_none, ⟨_, rfl, rfl, rfl⟩⟩

def impl_hasText_post (r : Bool) : Nat → Imm → List HA → Value → Prop := fun kk imm' hs' v =>
  ∃ (v0 : Value), hs' = [] ∧ v = tupV [v0] ∧ v0 = .bool r

def M.impl_hasText (s : impl_Step) : Option (Bool) := do
 let t2 ← (do
   let y ← M.impl_isRight s
   if y then
    let y1 ← M.impl_Step_list s
    let y2 ← M.slices_ContainsFunc_int_int y1 M.impl_hasText_1
    pure (!y2)
   else
    pure false
     : Option Bool)
 pure (id t2)

theorem impl_hasText_ok : ∀ (s : impl_Step) r, M.impl_hasText s = some r → ∀ {imm : Imm} , Ret Tryd.prog 20 [vA [vI s.Kind, vI s.Part, vI s.A, vI s.B]] imm [] (impl_hasText_post  r) := by
 intro s r hM imm  
 unfold M.impl_hasText at hM
 refine ret_of_J (fn := Tryd.f20) (c := (bodyOf Tryd.f20)) Tryd.func20 rfl rfl ?_
 rintro B - -
 have hle : imm.le imm := Imm.le.refl _
 refine J_seq <| J_region <| R_box (c := ⟨[vI s.Kind, vI s.Part, vI s.A, vI s.B]⟩) rfl rfl rfl rfl rfl ?_
 intro b hb
 refine R_z [] [] <| T_seq <| J_seq ?_
 obtain ⟨o0, ho0, hM⟩ := bind_some hM
 refine J_cut (fun imm' hs' m' => ∃ (t2 : Bool), o0 = t2 ∧ imm.le imm' ∧ hs' = [] ∧ m' = [(2, .bool t2)]) ?_ ?_
 · have hle0 := hle
   have hle : imm.le imm := Imm.le.refl _
   refine J_region <| R_d 1 [0] [(3, vA [vI s.Kind, vI s.Part, vI s.A, vI s.B])] ?_
   obtain ⟨y, hy, hM⟩ := bind_some ho0
   refine R_call (hs1 := []) (rest := [hB b [vI s.Kind, vI s.Part, vI s.A, vI s.B]]) rfl rfl rfl rfl (by kernel_rfl) rfl rfl (impl_isRight_ok s _ hy ) ?_
   rintro imm01 hs2 v2 k2 le hk ⟨v0, rfl, rfl, rfl⟩ -
   replace hle := hle.trans le
   refine R_d 3 [] [(5, .bool y)] ?_
   cases hc : y with
   | true =>
    have hM0 := if_some_true hc hM
    try rw [hc]
    refine R_d 4 [0] [(6, vA [vI s.Kind, vI s.Part, vI s.A, vI s.B])] ?_
    obtain ⟨y1, hy1, hM⟩ := bind_some hM0
    refine R_call (hs1 := []) (rest := [hB b [vI s.Kind, vI s.Part, vI s.A, vI s.B]]) rfl rfl rfl rfl (by kernel_rfl) rfl rfl (impl_Step_list_ok s _ hy1 ) ?_
    rintro imm02 hs2 v2 k2 le1 hk1 ⟨v01, rfl, rfl, h1⟩ -
    replace hle := hle.trans le1
    obtain ⟨p, c, rfl⟩ := h1.form
    have hf0 : FV1 Tryd.prog imm02 [] (.func (.func 32) ⟨[]⟩ ⟨[]⟩) M.impl_hasText_1 := by
      refine FV1.intro ?_
      intro imm1 le1 x0 r u0 hF k0
      obtain rfl := k0
      exact (impl_hasText_1_ok x0 r hF ).mono (by rintro k i hs u ⟨v0, rfl, rfl, h⟩; exact ⟨rfl, h⟩)
    obtain ⟨y2, hy2, hM⟩ := bind_some hM
    refine R_call (hs1 := []) (rest := [hB b [vI s.Kind, vI s.Part, vI s.A, vI s.B]]) rfl rfl rfl rfl (by kernel_rfl) rfl rfl (slices_ContainsFunc_int_int_ok y1 M.impl_hasText_1 _ hy2 h1 hf0) ?_
    rintro imm03 hs2 v2 k2 le2 hk2 ⟨v02, rfl, rfl, rfl⟩ -
    replace hle := hle.trans le2
    exact R_z [] [(2, .bool (!y2))] <| T_hs (good_pick [] rfl (by decide)) <| T_w [(2, .bool (!y2))] <| T_cut ⟨_, (pure_some hM).symm, hle, rfl, rfl⟩
   | false =>
    have hM01 := if_some_false hc hM
    try rw [hc]
    exact R_z [] [(2, .bool false)] <| T_hs (good_pick [] rfl (by decide)) <| T_w [(2, .bool false)] <| T_cut ⟨_, (pure_some hM01).symm, hle, rfl, rfl⟩
 · rintro imm0 hs2 m2 ⟨t2, heq, le3, rfl, rfl⟩
   subst o0
   replace hle := hle.trans le3
   refine T_seq <| J_ret ?_
   obtain rfl := pure_some hM
   exact T_RS ⟨_, _, (.tmp rfl ResV.nil), good_none, ⟨_, rfl, rfl, rfl⟩⟩

def impl_stepWords_post (r : (List Str)) : Nat → Imm → List HA → Value → Prop := fun kk imm' hs' v =>
  ∃ (v0 : Value), hs' = [] ∧ v = tupV [v0] ∧ SL imm' v0 r

def M.impl_stepWords  : Option ((List Str)) := do
 pure ([(⟨[105, 110, 116, 101, 114, 99, 104, 97, 110, 103, 101]⟩ : Str), (⟨[114, 101, 118, 101, 114, 115, 101]⟩ : Str), (⟨[115, 107, 101, 119]⟩ : Str), (⟨[115, 104, 105, 102, 116]⟩ : Str), (⟨[115, 116, 114, 105, 112]⟩ : Str), (⟨[102, 117, 115, 101]⟩ : Str), (⟨[100, 105, 115, 116, 114, 105, 98, 117, 116, 101]⟩ : Str), (⟨[115, 112, 108, 105, 116]⟩ : Str), (⟨[115, 119, 97, 112]⟩ : Str), (⟨[100, 114, 111, 112]⟩ : Str), (⟨[102, 111, 108, 100]⟩ : Str)] : List Str)

theorem impl_stepWords_ok : ∀ r, M.impl_stepWords  = some r → ∀ {imm : Imm} , Ret Tryd.prog 34 [] imm [] (impl_stepWords_post  r) := by
 intro  r hM imm  
 unfold M.impl_stepWords at hM
 refine ret_of_J (fn := Tryd.f34) (c := (bodyOf Tryd.f34)) Tryd.func34 rfl rfl ?_
 rintro B - -
 have hle : imm.le imm := Imm.le.refl _
 refine J_seq <| J_region <| R_z [] [] <| T_seq <| J_seq <| J_region <| R_buildSlice (cs := [vT ([105, 110, 116, 101, 114, 99, 104, 97, 110, 103, 101]), vT ([114, 101, 118, 101, 114, 115, 101]), vT ([115, 107, 101, 119]), vT ([115, 104, 105, 102, 116]), vT ([115, 116, 114, 105, 112]), vT ([102, 117, 115, 101]), vT ([100, 105, 115, 116, 114, 105, 98, 117, 116, 101]), vT ([115, 112, 108, 105, 116]), vT ([115, 119, 97, 112]), vT ([100, 114, 111, 112]), vT ([102, 111, 108, 100])]) (Rp.sz Str) rfl rfl rfl rfl (by kernel_rfl) (by kernel_rfl) ?_
 intro b hb
 have h : RL imm [vT ([105, 110, 116, 101, 114, 99, 104, 97, 110, 103, 101]), vT ([114, 101, 118, 101, 114, 115, 101]), vT ([115, 107, 101, 119]), vT ([115, 104, 105, 102, 116]), vT ([115, 116, 114, 105, 112]), vT ([102, 117, 115, 101]), vT ([100, 105, 115, 116, 114, 105, 98, 117, 116, 101]), vT ([115, 112, 108, 105, 116]), vT ([115, 119, 97, 112]), vT ([100, 114, 111, 112]), vT ([102, 111, 108, 100])] ([(⟨[105, 110, 116, 101, 114, 99, 104, 97, 110, 103, 101]⟩ : Str), (⟨[114, 101, 118, 101, 114, 115, 101]⟩ : Str), (⟨[115, 107, 101, 119]⟩ : Str), (⟨[115, 104, 105, 102, 116]⟩ : Str), (⟨[115, 116, 114, 105, 112]⟩ : Str), (⟨[102, 117, 115, 101]⟩ : Str), (⟨[100, 105, 115, 116, 114, 105, 98, 117, 116, 101]⟩ : Str), (⟨[115, 112, 108, 105, 116]⟩ : Str), (⟨[115, 119, 97, 112]⟩ : Str), (⟨[100, 114, 111, 112]⟩ : Str), (⟨[102, 111, 108, 100]⟩ : Str)] : List Str) := ⟨[vT ([105, 110, 116, 101, 114, 99, 104, 97, 110, 103, 101])], _, rfl, rfl, rfl, ⟨[vT ([114, 101, 118, 101, 114, 115, 101])], _, rfl, rfl, rfl, ⟨[vT ([115, 107, 101, 119])], _, rfl, rfl, rfl, ⟨[vT ([115, 104, 105, 102, 116])], _, rfl, rfl, rfl, ⟨[vT ([115, 116, 114, 105, 112])], _, rfl, rfl, rfl, ⟨[vT ([102, 117, 115, 101])], _, rfl, rfl, rfl, ⟨[vT ([100, 105, 115, 116, 114, 105, 98, 117, 116, 101])], _, rfl, rfl, rfl, ⟨[vT ([115, 112, 108, 105, 116])], _, rfl, rfl, rfl, ⟨[vT ([115, 119, 97, 112])], _, rfl, rfl, rfl, ⟨[vT ([100, 114, 111, 112])], _, rfl, rfl, rfl, ⟨[vT ([102, 111, 108, 100])], _, rfl, rfl, rfl, rfl⟩⟩⟩⟩⟩⟩⟩⟩⟩⟩⟩
 have hn : NW Str B (vS (some ⟨b, 0, none⟩) ([(⟨[105, 110, 116, 101, 114, 99, 104, 97, 110, 103, 101]⟩ : Str), (⟨[114, 101, 118, 101, 114, 115, 101]⟩ : Str), (⟨[115, 107, 101, 119]⟩ : Str), (⟨[115, 104, 105, 102, 116]⟩ : Str), (⟨[115, 116, 114, 105, 112]⟩ : Str), (⟨[102, 117, 115, 101]⟩ : Str), (⟨[100, 105, 115, 116, 114, 105, 98, 117, 116, 101]⟩ : Str), (⟨[115, 112, 108, 105, 116]⟩ : Str), (⟨[115, 119, 97, 112]⟩ : Str), (⟨[100, 114, 111, 112]⟩ : Str), (⟨[102, 111, 108, 100]⟩ : Str)] : List Str) 11) [vT ([105, 110, 116, 101, 114, 99, 104, 97, 110, 103, 101]), vT ([114, 101, 118, 101, 114, 115, 101]), vT ([115, 107, 101, 119]), vT ([115, 104, 105, 102, 116]), vT ([115, 116, 114, 105, 112]), vT ([102, 117, 115, 101]), vT ([100, 105, 115, 116, 114, 105, 98, 117, 116, 101]), vT ([115, 112, 108, 105, 116]), vT ([115, 119, 97, 112]), vT ([100, 114, 111, 112]), vT ([102, 111, 108, 100])] := nw_new hb
 refine R_z [] [(0, vS (some ⟨b, 0, none⟩) ([(⟨[105, 110, 116, 101, 114, 99, 104, 97, 110, 103, 101]⟩ : Str), (⟨[114, 101, 118, 101, 114, 115, 101]⟩ : Str), (⟨[115, 107, 101, 119]⟩ : Str), (⟨[115, 104, 105, 102, 116]⟩ : Str), (⟨[115, 116, 114, 105, 112]⟩ : Str), (⟨[102, 117, 115, 101]⟩ : Str), (⟨[100, 105, 115, 116, 114, 105, 98, 117, 116, 101]⟩ : Str), (⟨[115, 112, 108, 105, 116]⟩ : Str), (⟨[115, 119, 97, 112]⟩ : Str), (⟨[100, 114, 111, 112]⟩ : Str), (⟨[102, 111, 108, 100]⟩ : Str)] : List Str) 11)] <| T_seq <| J_ret <| T_freeze 0 rfl hn ?_
 intro imm0 le hl0
 have h1 := SL.of_frozen hl0 le h
 replace hle := hle.trans le
 obtain rfl := pure_some hM
 exact T_RS ⟨_, _, (.tmp rfl ResV.nil), good_none, ⟨_, rfl, rfl, h1⟩⟩

def strconv_Itoa_post (r : Str) : Nat → Imm → List HA → Value → Prop := fun kk imm' hs' v =>
  ∃ (v0 : Value), hs' = [] ∧ v = tupV [v0] ∧ v0 = .string ⟨⟨r.l⟩⟩
def M.strconv_Itoa (i : Int) : Option Str := if -9223372036854775808 ≤ i ∧ i ≤ 9223372036854775807 then some ⟨Lib.itoa i⟩ else none
theorem strconv_Itoa_ok : ∀ (i : Int) r, M.strconv_Itoa i = some r → ∀ {imm : Imm}, GH Tryd.prog imm → Ret Tryd.prog 36 [vI i] imm [] (strconv_Itoa_post r) := by
 intro i r hM imm hG
 unfold M.strconv_Itoa at hM
 split at hM
 · rename_i hi
   cases hM
   exact ret_lib (fun w g => Tryd.strconv_Itoa i hi.1 hi.2 w (hG.tab g)) (fun k => ⟨_, rfl, rfl, rfl⟩)
 · cases hM

def impl_stepText_post (r : Str) : Nat → Imm → List HA → Value → Prop := fun kk imm' hs' v =>
  ∃ (v0 : Value), hs' = [] ∧ v = tupV [v0] ∧ v0 = .string ⟨⟨r.l⟩⟩

def M.impl_stepText_l1 (l : List Int) (out : Str) (t19 : Int) : Option (Str) := do
 if (decide (t19 < (l.length : Int))) then
  let x1 ← idx l t19
  let y3 ← M.strconv_Itoa x1
  let s1 ← cat (⟨[32]⟩ : Str) y3
  let s2 ← cat out s1
  M.impl_stepText_l1 l s2 (W (t19 + 1))
 else
  pure (id out)
 partial_fixpoint

theorem impl_stepText_l1_ok (l : List Int) : ∀ (out : Str) (t19 : Int) (o : Str), M.impl_stepText_l1 l out t19 = some o → ∀ {B : Base} {imm0 imm : Imm} {Q : Exit → Act → World → Prop}  {p2 : Option Addr} {c2 : Nat}, imm0.le imm → (SL imm (vS p2 l c2) l) → (GH Tryd.prog imm) → (∀ l a w, ¬ Q (.goto l) a w) → (∀ a w, ¬ Q .outgrown a w) → (∀ (imm' : Imm) (out1 : Str), o = out1 → imm0.le imm' → T 30 B Q (.exit 0) imm' [] [(3, vT out1.l)]) → J Tryd.prog 30 B (nav (bodyOf Tryd.f21) [1, 1, 0, 1, 0]) Q imm [] [(3, vT out.l), (17, vS p2 l c2), (18, vI (l.length : Int)), (19, vI t19)] := by
 refine M.impl_stepText_l1.partial_correctness l _ ?_
 intro self ih out t19 o hM B imm0 imm Q p2 c2 hle h3 hG hg ho hx 
 refine J_loop hg ho <| J_seq <| J_region <| R_z [] [(20, .bool (decide (t19 < (l.length : Int))))] <| T_seq <| J_seq <| J_cd hM ?_ ?_
 · intro hc hM
   refine J_skip <| T_seq <| J_seq <| J_block <| J_seq <| J_region ?_
   obtain ⟨x1, hy5, hM⟩ := bind_some hM
   refine R_ix rfl rfl h3 hy5 ?_
   intro ad1 ccs1 hat1 hrep1
   obtain rfl := hrep1
   refine R_la 0 hat1 [vI x1] (vI x1) rfl <| R_z [] [(5, vI x1)] <| T_seq <| J_region <| R_d 2 [] [(23, vT out.l), (24, vI x1)] ?_
   obtain ⟨y3, hy6, hM⟩ := bind_some hM
   refine R_call (hs1 := []) (rest := []) rfl rfl rfl rfl (by kernel_rfl) rfl rfl (strconv_Itoa_ok x1 _ hy6 hG) ?_
   rintro imm05 hs2 v2 k2 le5 hk3 ⟨v04, rfl, rfl, rfl⟩ -
   replace h3 := h3.mono le5
   replace hG := hG.mono le5
   replace hle := hle.trans le5
   obtain ⟨s1, hy7, hM⟩ := bind_some hM
   refine R_ca rfl hy7 ?_
   obtain ⟨s2, hy8, hM⟩ := bind_some hM
   exact R_ca rfl hy8 <| R_z [] [(3, vT s2.l)] <| T_block_normal <| T_seq <| J_region <| R_z [] [(19, vI (W (t19 + 1)))] <| T_loop <| J_w [(3, vT s2.l), (17, vS p2 l c2), (18, vI (l.length : Int)), (19, vI (W (t19 + 1)))] <| ih s2 (W (t19 + 1)) _ hM hle h3 hG hg ho hx 
 · intro hc hM
   exact J_exit <| T_then_exit <| T_then_exit <| T_w [(3, vT out.l)] <| hx _ _ (pure_some hM).symm hle 

def M.impl_stepText (s : impl_Step) : Option (Str) := do
 let y ← M.impl_stepWords 
 let x ← idx y (W (s.Kind - 1))
 let y1 ← M.impl_Step_list s
 let y2 ← M.impl_fields s.Kind
 let l ← slc y1 0 y2
 let out1 ← M.impl_stepText_l1 l x 0
 pure (id out1)

theorem impl_stepText_ok : ∀ (s : impl_Step) r, M.impl_stepText s = some r → ∀ {imm : Imm} , (GH Tryd.prog imm) → Ret Tryd.prog 21 [vA [vI s.Kind, vI s.Part, vI s.A, vI s.B]] imm [] (impl_stepText_post  r) := by
 intro s r hM imm  hG
 unfold M.impl_stepText at hM
 refine ret_of_J (fn := Tryd.f21) (c := (bodyOf Tryd.f21)) Tryd.func21 rfl rfl ?_
 rintro B - -
 have hle : imm.le imm := Imm.le.refl _
 refine J_seq <| J_region <| R_box (c := ⟨[vI s.Kind, vI s.Part, vI s.A, vI s.B]⟩) rfl rfl rfl rfl rfl ?_
 intro b hb
 refine R_z [] [] <| T_seq <| J_seq ?_
 obtain ⟨y, hy, hM⟩ := bind_some hM
 obtain ⟨x, hy1, hM⟩ := bind_some hM
 refine J_any [.x (fun imm' v hx => ∃ (p : Option Addr) (c : Nat), v = vS p y c ∧ hx = [] ∧ (SL imm' (vS p y c) y)), .p (vP b 0) [], .p (vI s.Kind) [0], .p (vI (W (s.Kind - 1))) [], .x (fun imm' v hx => ∃ (ad : Addr), v = .pointer (some ad) ∧ hx = [] ∧ (At imm' ad [vT x.l])), .q (vT x.l)] [[], [], [(1, false)], [(2, false)], [(0, false), (3, false)], [(4, false)]] [hB b [vI s.Kind, vI s.Part, vI s.A, vI s.B]] [] [(5, false)] (good_pick [0] rfl (by decide)) ?_ ?_
 · refine Ox ?_ <| Op <| Op <| Op <| Ox ?_ <| Oq ?_ <| On
   · intro imm1 hf le1
     refine Ins_nil <| R_isw (hB b [vI s.Kind, vI s.Part, vI s.A, vI s.B] :: hf) [] ?_
     have hle := Imm.le.refl imm1
     replace hG := hG.mono le1
     refine R_call (hs1 := []) (rest := (hB b [vI s.Kind, vI s.Part, vI s.A, vI s.B] :: hf)) rfl rfl rfl rfl (by kernel_rfl) rfl rfl (impl_stepWords_ok  _ hy ) ?_
     rintro imm0 hs2 v2 k2 le hk ⟨v0, rfl, rfl, h⟩ -
     replace hG := hG.mono le
     replace hle := hle.trans le
     obtain ⟨p, c, rfl⟩ := h.form
     exact R_out (hx := []) rfl hle rfl (out_some rfl) ⟨_, _, rfl, rfl, h⟩
   · intro imm1 hf le1
     refine Ins_cons ?_
     rintro _ _ ⟨p, c, rfl, rfl, h⟩
     refine Ins_cons ?_
     rintro _ _ ⟨rfl, rfl⟩
     refine Ins_nil <| R_isw (hB b [vI s.Kind, vI s.Part, vI s.A, vI s.B] :: hf) [(6, vS p y c), (9, vI (W (s.Kind - 1)))] ?_
     have hle := Imm.le.refl imm1
     refine R_ix rfl rfl h hy1 ?_
     intro ad ccs hat hrep
     obtain rfl := hrep
     exact R_out (hx := []) rfl hle rfl (out_some rfl) ⟨_, rfl, rfl, hat⟩
   · intro imm1 hf le1
     refine Ins_cons ?_
     rintro _ _ ⟨ad, rfl, rfl, hat⟩
     refine Ins_nil <| R_isw (hB b [vI s.Kind, vI s.Part, vI s.A, vI s.B] :: hf) [(10, .pointer (some ad))] ?_
     have hle := Imm.le.refl imm1
     exact R_la 0 hat [vT x.l] (vT x.l) rfl <| R_out (hx := []) rfl hle rfl (out_some rfl) ⟨rfl, rfl⟩
 · intro imm01 le1
   refine Ins_cons ?_
   rintro _ _ ⟨rfl, rfl⟩
   refine Ins_nil <| R_isw [hB b [vI s.Kind, vI s.Part, vI s.A, vI s.B]] [(1, vP b 0), (11, vT x.l)] ?_
   replace hG := hG.mono le1
   replace hle := hle.trans le1
   refine R_z [] [(3, vT x.l)] <| T_seq <| J_seq <| J_seq ?_
   obtain ⟨y1, hy2, hM⟩ := bind_some hM
   obtain ⟨y2, hy3, hM⟩ := bind_some hM
   obtain ⟨l, hy4, hM⟩ := bind_some hM
   refine J_any [.p (vA [vI s.Kind, vI s.Part, vI s.A, vI s.B]) [0], .x (fun imm' v hx => ∃ (p1 : Option Addr) (c1 : Nat), v = vS p1 y1 c1 ∧ hx = [] ∧ (SL imm' (vS p1 y1 c1) y1)), .p (vP b 0) [], .p (vI s.Kind) [0], .q (vI y2), .x (fun imm' v hx => ∃ (p2 : Option Addr) (c2 : Nat), v = vS p2 l c2 ∧ hx = [] ∧ (SL imm' (vS p2 l c2) l)), .q (vI (l.length : Int)), .p (vI 0) []] [[], [(0, false)], [], [(2, false)], [(3, false)], [(1, false), (4, false)], [(5, false)], []] [hB b [vI s.Kind, vI s.Part, vI s.A, vI s.B]] [] [(5, false), (6, false), (7, false)] (good_pick [0] rfl (by decide)) ?_ ?_
   · refine Op <| Ox ?_ <| Op <| Op <| Oq ?_ <| Ox ?_ <| Oq ?_ <| Op <| On
     · intro imm1 hf le1
       refine Ins_cons ?_
       rintro _ _ ⟨rfl, rfl⟩
       refine Ins_nil <| R_isw (hB b [vI s.Kind, vI s.Part, vI s.A, vI s.B] :: hf) [(12, vA [vI s.Kind, vI s.Part, vI s.A, vI s.B])] ?_
       have hle := Imm.le.refl imm1
       replace hG := hG.mono le1
       refine R_call (hs1 := []) (rest := (hB b [vI s.Kind, vI s.Part, vI s.A, vI s.B] :: hf)) rfl rfl rfl rfl (by kernel_rfl) rfl rfl (impl_Step_list_ok s _ hy2 ) ?_
       rintro imm02 hs2 v2 k2 le2 hk1 ⟨v01, rfl, rfl, h1⟩ -
       replace hG := hG.mono le2
       replace hle := hle.trans le2
       obtain ⟨p1, c1, rfl⟩ := h1.form
       exact R_out (hx := []) rfl hle rfl (out_some rfl) ⟨_, _, rfl, rfl, h1⟩
     · intro imm1 hf le1
       refine Ins_cons ?_
       rintro _ _ ⟨rfl, rfl⟩
       refine Ins_nil <| R_isw (hB b [vI s.Kind, vI s.Part, vI s.A, vI s.B] :: hf) [(15, vI s.Kind)] ?_
       have hle := Imm.le.refl imm1
       replace hG := hG.mono le1
       refine R_call (hs1 := []) (rest := (hB b [vI s.Kind, vI s.Part, vI s.A, vI s.B] :: hf)) rfl rfl rfl rfl (by kernel_rfl) rfl rfl (impl_fields_ok s.Kind _ hy3 ) ?_
       rintro imm03 hs2 v2 k2 le3 hk2 ⟨v02, rfl, rfl, rfl⟩ -
       replace hG := hG.mono le3
       replace hle := hle.trans le3
       exact R_out (hx := []) rfl hle rfl (out_some rfl) ⟨rfl, rfl⟩
     · intro imm1 hf le1
       refine Ins_cons ?_
       rintro _ _ ⟨p1, c1, rfl, rfl, h1⟩
       refine Ins_cons ?_
       rintro _ _ ⟨rfl, rfl⟩
       refine Ins_nil <| R_isw (hB b [vI s.Kind, vI s.Part, vI s.A, vI s.B] :: hf) [(13, vS p1 y1 c1), (16, vI y2)] ?_
       have hle := Imm.le.refl imm1
       refine R_sl rfl h1 hy4 ?_
       intro v03 h3
       obtain ⟨p2, c2, rfl⟩ := h3.form
       exact R_out (hx := []) rfl hle rfl (out_some rfl) ⟨_, _, rfl, rfl, h3⟩
     · intro imm1 hf le1
       refine Ins_cons ?_
       rintro _ _ ⟨p2, c2, rfl, rfl, h3⟩
       refine Ins_nil <| R_isw (hB b [vI s.Kind, vI s.Part, vI s.A, vI s.B] :: hf) [(17, vS p2 l c2)] ?_
       have hle := Imm.le.refl imm1
       exact R_p 7 [(18, vI (l.length : Int))] <| R_out (hx := []) rfl hle rfl (out_some rfl) ⟨rfl, rfl⟩
   · intro imm04 le4
     refine Ins_cons ?_
     rintro _ _ ⟨p2, c2, rfl, rfl, h3⟩
     refine Ins_cons ?_
     rintro _ _ ⟨rfl, rfl⟩
     refine Ins_cons ?_
     rintro _ _ ⟨rfl, rfl⟩
     refine Ins_nil <| R_isw [hB b [vI s.Kind, vI s.Part, vI s.A, vI s.B]] [(3, vT x.l), (17, vS p2 l c2), (18, vI (l.length : Int)), (19, vI 0)] ?_
     replace hG := hG.mono le4
     replace hle := hle.trans le4
     refine R_end rfl <| T_seq <| J_block <| J_hs (good_pick [] (hs' := []) rfl (by decide)) <| J_w [(3, vT x.l), (17, vS p2 l c2), (18, vI (l.length : Int)), (19, vI 0)] ?_
     obtain ⟨o0, ho0, hM⟩ := bind_some hM
     refine impl_stepText_l1_ok l x 0 o0 ho0 (Imm.le.refl _) h3 hG (fun _ _ _ h => h) (fun _ _ h => h) ?_
     intro imm06 out1 heq le6 
     subst o0
     replace hG := hG.mono le6
     replace hle := hle.trans le6
     refine T_block_here <| T_seq <| J_seq <| J_region <| R_z [] [(2, vT out1.l)] <| T_seq <| J_ret ?_
     obtain rfl := pure_some hM
     exact T_RS ⟨_, _, (.tmp rfl ResV.nil), good_none, ⟨_, rfl, rfl, rfl⟩⟩

def impl_FormatSteps_post (r : Str) : Nat → Imm → List HA → Value → Prop := fun kk imm' hs' v =>
  ∃ (v0 : Value), hs' = [] ∧ v = tupV [v0] ∧ v0 = .string ⟨⟨r.l⟩⟩

def M.impl_FormatSteps_l1 (list : (List impl_Step)) (out : Str) (t8 : Int) : Option (Out Str (Str)) := do
 if (decide (t8 < (list.length : Int))) then
  let x ← idx list t8
  let t19 ← (do
    if (decide ((list.length : Int) > 12)) then
     pure true
    else
     let y ← M.impl_hasText x
     pure (!y)
      : Option Bool)
  if t19 then
   pure (.ret (⟨[]⟩ : Str))
  else
   let y1 ← M.impl_stepText x
   let s ← cat y1 (⟨[10]⟩ : Str)
   let s1 ← cat out s
   M.impl_FormatSteps_l1 list s1 (W (t8 + 1))
 else
  pure (.done out)
 partial_fixpoint

theorem impl_FormatSteps_l1_ok (list : (List impl_Step)) : ∀ (out : Str) (t8 : Int) (o : Out Str (Str)), M.impl_FormatSteps_l1 list out t8 = some o → ∀ {B : Base} {imm0 imm : Imm} {Q : Exit → Act → World → Prop}  {p : Option Addr} {c : Nat}, imm0.le imm → (SL imm (vS p list c) list) → (GH Tryd.prog imm) → (∀ l a w, ¬ Q (.goto l) a w) → (∀ a w, ¬ Q .outgrown a w) → (∀ (imm' : Imm) (out1 : Str), o = (.done out1) → imm0.le imm' → T 27 B Q (.exit 0) imm' [] [(3, vT out1.l)]) → (∀ r imm' hs' m', o = (.ret r) → imm0.le imm' → RS Tryd.prog Tryd.f8 B (impl_FormatSteps_post  r) imm' hs' m' → T 27 B Q .ret imm' hs' m') → J Tryd.prog 27 B (nav (bodyOf Tryd.f8) [1, 1, 0, 1, 0]) Q imm [] [(0, vS p list c), (3, vT out.l), (6, vS p list c), (7, vI (list.length : Int)), (8, vI t8)] := by
 refine M.impl_FormatSteps_l1.partial_correctness list _ ?_
 intro self ih out t8 o hM B imm0 imm Q p c hle h hG hg ho hx hr
 refine J_loop hg ho <| J_seq <| J_region <| R_z [] [(9, .bool (decide (t8 < (list.length : Int))))] <| T_seq <| J_seq <| J_cd hM ?_ ?_
 · intro hc hM
   refine J_skip <| T_seq <| J_seq <| J_block <| J_seq <| J_region ?_
   obtain ⟨x, hy, hM⟩ := bind_some hM
   refine R_ix rfl rfl h hy ?_
   intro ad ccs hat hrep
   obtain rfl := impl_Step_open hrep
   refine R_la 0 hat [vI x.Kind, vI x.Part, vI x.A, vI x.B] (vA [vI x.Kind, vI x.Part, vI x.A, vI x.B]) rfl <| R_alloc (c := ⟨[vI 0, vI 0, vI 0, vI 0]⟩) rfl rfl rfl (by kernel_rfl) ?_
   intro b hb
   refine R_sb 0 [vI x.Kind, vI x.Part, vI x.A, vI x.B] [hB b [vI x.Kind, vI x.Part, vI x.A, vI x.B]] rfl rfl rfl rfl <| R_end rfl <| T_seq <| J_seq <| J_seq ?_
   obtain ⟨o0, ho0, hM⟩ := bind_some hM
   refine J_cut (fun imm' hs' m' => ∃ (t19 : Bool), o0 = t19 ∧ imm.le imm' ∧ hs' = [hB b [vI x.Kind, vI x.Part, vI x.A, vI x.B]] ∧ m' = [(0, vS p list c), (3, vT out.l), (5, vP b 0), (6, vS p list c), (7, vI (list.length : Int)), (8, vI t8), (19, .bool t19)]) ?_ ?_
   · have hle0 := hle
     have hle : imm.le imm := Imm.le.refl _
     refine J_region <| R_d 4 [] [(15, .bool (decide ((list.length : Int) > 12)))] ?_
     cases hc1 : (decide ((list.length : Int) > 12)) with
     | true =>
      have hM0 := if_some_true hc1 ho0
      try rw [hc1]
      exact R_z [] [(19, .bool true)] <| T_w [(0, vS p list c), (3, vT out.l), (5, vP b 0), (6, vS p list c), (7, vI (list.length : Int)), (8, vI t8), (19, .bool true)] <| T_cut ⟨_, (pure_some hM0).symm, hle, rfl, rfl⟩
     | false =>
      have hM01 := if_some_false hc1 ho0
      try rw [hc1]
      refine R_d 5 [0] [(16, vA [vI x.Kind, vI x.Part, vI x.A, vI x.B])] ?_
      obtain ⟨y, hy1, hM⟩ := bind_some hM01
      refine R_call (hs1 := []) (rest := [hB b [vI x.Kind, vI x.Part, vI x.A, vI x.B]]) rfl rfl rfl rfl (by kernel_rfl) rfl rfl (impl_hasText_ok x _ hy1 ) ?_
      rintro imm01 hs2 v2 k2 le hk ⟨v0, rfl, rfl, rfl⟩ -
      replace h := h.mono le
      replace hG := hG.mono le
      replace hle := hle.trans le
      exact R_z [] [(19, .bool (!y))] <| T_w [(0, vS p list c), (3, vT out.l), (5, vP b 0), (6, vS p list c), (7, vI (list.length : Int)), (8, vI t8), (19, .bool (!y))] <| T_cut ⟨_, (pure_some hM).symm, hle, rfl, rfl⟩
   · rintro imm0 hs2 m2 ⟨t19, heq, le1, rfl, rfl⟩
     subst o0
     replace h := h.mono le1
     replace hG := hG.mono le1
     replace hle := hle.trans le1
     refine T_seq <| J_cd hM ?_ ?_
     · intro hc2 hM
       exact J_seq <| J_region <| R_z [] [(2, vT ([]))] <| T_seq <| J_ret <| T_then_ret <| T_block_ret <| T_then_ret <| T_then_ret <| hr _ _ _ _ (pure_some hM).symm hle ⟨_, _, (.tmp rfl ResV.nil), good_none, ⟨_, rfl, rfl, rfl⟩⟩
     · intro hc2 hM
       refine J_skip <| T_seq <| J_region <| R_d 2 [0] [(20, vT out.l), (21, vA [vI x.Kind, vI x.Part, vI x.A, vI x.B])] ?_
       obtain ⟨y1, hy2, hM⟩ := bind_some hM
       refine R_call (hs1 := []) (rest := [hB b [vI x.Kind, vI x.Part, vI x.A, vI x.B]]) rfl rfl rfl rfl (by kernel_rfl) rfl rfl (impl_stepText_ok x _ hy2 hG) ?_
       rintro imm02 hs2 v2 k2 le2 hk1 ⟨v01, rfl, rfl, rfl⟩ -
       replace h := h.mono le2
       replace hG := hG.mono le2
       replace hle := hle.trans le2
       obtain ⟨s, hy3, hM⟩ := bind_some hM
       refine R_ca rfl hy3 ?_
       obtain ⟨s1, hy4, hM⟩ := bind_some hM
       exact R_ca rfl hy4 <| R_z [] [(3, vT s1.l)] <| T_block_normal <| T_seq <| J_region <| R_z [] [(8, vI (W (t8 + 1)))] <| T_loop <| J_hs (good_pick [] rfl (by decide)) <| J_w [(0, vS p list c), (3, vT s1.l), (6, vS p list c), (7, vI (list.length : Int)), (8, vI (W (t8 + 1)))] <| ih s1 (W (t8 + 1)) _ hM hle h hG hg ho hx hr
 · intro hc hM
   exact J_exit <| T_then_exit <| T_then_exit <| T_w [(3, vT out.l)] <| hx _ _ (pure_some hM).symm hle 

def M.impl_FormatSteps (list : (List impl_Step)) : Option (Str) := do
 match ← M.impl_FormatSteps_l1 list (⟨[]⟩ : Str) 0 with
 | .ret r0 => pure r0
 | .done out1 =>
  pure (id out1)

theorem impl_FormatSteps_ok : ∀ (list : (List impl_Step)) r, M.impl_FormatSteps list = some r → ∀ {imm : Imm} {p : Option Addr} {c : Nat}, (SL imm (vS p list c) list) → (GH Tryd.prog imm) → Ret Tryd.prog 8 [vS p list c] imm [] (impl_FormatSteps_post  r) := by
 intro list r hM imm p c h hG
 unfold M.impl_FormatSteps at hM
 refine ret_of_J (fn := Tryd.f8) (c := (bodyOf Tryd.f8)) Tryd.func8 rfl rfl ?_
 rintro B - -
 have hle : imm.le imm := Imm.le.refl _
 refine J_seq <| J_region <| R_z [] [] <| T_seq <| J_seq <| J_region <| R_z [] [(3, vT ([]))] <| T_seq <| J_seq <| J_seq <| J_region <| R_z [] [(6, vS p list c), (7, vI (list.length : Int)), (8, vI 0)] <| T_seq <| J_block <| J_w [(0, vS p list c), (3, vT ([])), (6, vS p list c), (7, vI (list.length : Int)), (8, vI 0)] ?_
 obtain ⟨o01, ho01, hM⟩ := bind_some hM
 refine impl_FormatSteps_l1_ok list (⟨[]⟩ : Str) 0 o01 ho01 (Imm.le.refl _) h hG (fun _ _ _ h => h) (fun _ _ h => h) ?_ ?_
 · intro imm03 out1 heq1 le3 
   subst o01
   replace hG := hG.mono le3
   replace hle := hle.trans le3
   refine T_block_here <| T_seq <| J_seq <| J_region <| R_z [] [(2, vT out1.l)] <| T_seq <| J_ret ?_
   obtain rfl := pure_some hM
   exact T_RS ⟨_, _, (.tmp rfl ResV.nil), good_none, ⟨_, rfl, rfl, rfl⟩⟩
 · intro r0 imm9 hs9 m9 heq9 le9 hrs9
   subst heq9
   refine T_block_ret <| T_then_ret ?_
   obtain rfl := pure_some hM
   exact T_RS hrs9

def laws_eqStep_post (r : Bool) : Nat → Imm → List HA → Value → Prop := fun kk imm' hs' v =>
  ∃ (v0 : Value), hs' = [] ∧ v = tupV [v0] ∧ v0 = .bool r

def M.laws_eqStep (a0 : impl_Step) (b : impl_Step) : Option (Bool) := do
 if (a0.Kind != b.Kind) then
  pure false
 else
  if (a0.Part != b.Part) then
   pure false
  else
   if (a0.A != b.A) then
    pure false
   else
    if (a0.B != b.B) then
     pure false
    else
     pure true

theorem laws_eqStep_ok : ∀ (a0 : impl_Step) (b : impl_Step) r, M.laws_eqStep a0 b = some r → ∀ {imm : Imm} , Ret Tryd.prog 22 [vA [vI a0.Kind, vI a0.Part, vI a0.A, vI a0.B], vA [vI b.Kind, vI b.Part, vI b.A, vI b.B]] imm [] (laws_eqStep_post  r) := by
 intro a0 b r hM imm  
 unfold M.laws_eqStep at hM
 refine ret_of_J (fn := Tryd.f22) (c := (bodyOf Tryd.f22)) Tryd.func22 rfl rfl ?_
 rintro B - -
 have hle : imm.le imm := Imm.le.refl _
 refine J_seq <| J_region <| R_box (c := ⟨[vI a0.Kind, vI a0.Part, vI a0.A, vI a0.B]⟩) rfl rfl rfl rfl rfl ?_
 intro b1 hb
 refine R_box (c := ⟨[vI b.Kind, vI b.Part, vI b.A, vI b.B]⟩) rfl rfl rfl rfl rfl ?_
 intro b2 hb1
 refine R_z [] [] <| T_seq <| J_seq <| J_seq <| J_region <| R_z [1, 0] [(9, .bool (a0.Kind != b.Kind))] <| T_seq <| J_cd hM ?_ ?_
 · intro hc hM
   refine J_seq <| J_region <| R_z [] [(4, .bool false)] <| T_seq <| J_ret <| T_then_ret ?_
   obtain rfl := pure_some hM
   exact T_RS ⟨_, _, (.tmp rfl ResV.nil), good_none, ⟨_, rfl, rfl, rfl⟩⟩
 · intro hc hM
   refine J_skip <| T_seq <| J_seq <| J_seq <| J_region <| R_z [1, 0] [(14, .bool (a0.Part != b.Part))] <| T_seq <| J_cd hM ?_ ?_
   · intro hc1 hM
     refine J_seq <| J_region <| R_z [] [(4, .bool false)] <| T_seq <| J_ret <| T_then_ret ?_
     obtain rfl := pure_some hM
     exact T_RS ⟨_, _, (.tmp rfl ResV.nil), good_none, ⟨_, rfl, rfl, rfl⟩⟩
   · intro hc1 hM
     refine J_skip <| T_seq <| J_seq <| J_seq <| J_region <| R_z [1, 0] [(19, .bool (a0.A != b.A))] <| T_seq <| J_cd hM ?_ ?_
     · intro hc2 hM
       refine J_seq <| J_region <| R_z [] [(4, .bool false)] <| T_seq <| J_ret <| T_then_ret ?_
       obtain rfl := pure_some hM
       exact T_RS ⟨_, _, (.tmp rfl ResV.nil), good_none, ⟨_, rfl, rfl, rfl⟩⟩
     · intro hc2 hM
       refine J_skip <| T_seq <| J_seq <| J_seq <| J_region <| R_z [1, 0] [(24, .bool (a0.B != b.B))] <| T_seq <| J_cd hM ?_ ?_
       · intro hc3 hM
         refine J_seq <| J_region <| R_z [] [(4, .bool false)] <| T_seq <| J_ret <| T_then_ret ?_
         obtain rfl := pure_some hM
         exact T_RS ⟨_, _, (.tmp rfl ResV.nil), good_none, ⟨_, rfl, rfl, rfl⟩⟩
       · intro hc3 hM
         refine J_skip <| T_seq <| J_seq <| J_region <| R_z [] [(4, .bool true)] <| T_seq <| J_ret ?_
         obtain rfl := pure_some hM
         exact T_RS ⟨_, _, (.tmp rfl ResV.nil), good_none, ⟨_, rfl, rfl, rfl⟩⟩

def laws_eqStepS_post (r : Bool) : Nat → Imm → List HA → Value → Prop := fun kk imm' hs' v =>
  ∃ (v0 : Value), hs' = [] ∧ v = tupV [v0] ∧ v0 = .bool r

def M.laws_eqStepS_l1 (a0 : (List impl_Step)) (b : (List impl_Step)) (i : Int) : Option (Out Unit (Bool)) := do
 if (decide (i < (a0.length : Int))) then
  let x ← idx a0 i
  let x1 ← idx b i
  let y ← M.laws_eqStep x x1
  if (!y) then
   pure (.ret false)
  else
   M.laws_eqStepS_l1 a0 b (W (i + 1))
 else
  pure (.done ())
 partial_fixpoint

theorem laws_eqStepS_l1_ok (a0 : (List impl_Step)) (b : (List impl_Step)) : ∀ (i : Int) (o : Out Unit (Bool)), M.laws_eqStepS_l1 a0 b i = some o → ∀ {B : Base} {imm0 imm : Imm} {Q : Exit → Act → World → Prop}  {p : Option Addr} {c : Nat} {p1 : Option Addr} {c1 : Nat}, imm0.le imm → (SL imm (vS p a0 c) a0) → (SL imm (vS p1 b c1) b) → (∀ l a w, ¬ Q (.goto l) a w) → (∀ a w, ¬ Q .outgrown a w) → (∀ (imm' : Imm) , o = (.done ()) → imm0.le imm' → T 27 B Q (.exit 0) imm' [] []) → (∀ r imm' hs' m', o = (.ret r) → imm0.le imm' → RS Tryd.prog Tryd.f9 B (laws_eqStepS_post  r) imm' hs' m' → T 27 B Q .ret imm' hs' m') → J Tryd.prog 27 B (nav (bodyOf Tryd.f9) [1, 1, 0, 1, 0]) Q imm [] [(0, vS p a0 c), (1, vS p1 b c1), (5, vI i)] := by
 refine M.laws_eqStepS_l1.partial_correctness a0 b _ ?_
 intro self ih i o hM B imm0 imm Q p c p1 c1 hle h h1 hg ho hx hr
 refine J_loop hg ho <| J_seq <| J_seq <| J_region <| R_z [] [(14, .bool (decide (i < (a0.length : Int))))] <| T_seq <| J_cd hM ?_ ?_
 · intro hc1 hM
   refine J_skip <| T_seq <| J_seq <| J_block <| J_seq ?_
   obtain ⟨x, hy, hM⟩ := bind_some hM
   obtain ⟨x1, hy1, hM⟩ := bind_some hM
   obtain ⟨y, hy2, hM⟩ := bind_some hM
   refine J_any [.p (vS p a0 c) [], .p (vI i) [], .x (fun imm' v hx => ∃ (ad : Addr), v = .pointer (some ad) ∧ hx = [] ∧ (At imm' ad [vI x.Kind, vI x.Part, vI x.A, vI x.B])), .q (vA [vI x.Kind, vI x.Part, vI x.A, vI x.B]), .p (vS p1 b c1) [], .p (vI i) [], .x (fun imm' v hx => ∃ (ad1 : Addr), v = .pointer (some ad1) ∧ hx = [] ∧ (At imm' ad1 [vI x1.Kind, vI x1.Part, vI x1.A, vI x1.B])), .q (vA [vI x1.Kind, vI x1.Part, vI x1.A, vI x1.B]), .q (.bool y), .p (.bool (!y)) []] [[], [], [(0, false), (1, false)], [(2, false)], [], [], [(4, false), (5, false)], [(6, false)], [(3, false), (7, false)], [(8, false)]] [] [] [(9, false)] (good_pick [] rfl (by decide)) ?_ ?_
   · refine Op <| Op <| Ox ?_ <| Oq ?_ <| Op <| Op <| Ox ?_ <| Oq ?_ <| Oq ?_ <| Op <| On
     · intro imm1 hf le1
       refine Ins_cons ?_
       rintro _ _ ⟨rfl, rfl⟩
       refine Ins_cons ?_
       rintro _ _ ⟨rfl, rfl⟩
       refine Ins_nil <| R_isw (hf) [(17, vS p a0 c), (18, vI i)] ?_
       have hle := Imm.le.refl imm1
       replace h := h.mono le1
       refine R_ix rfl rfl h hy ?_
       intro ad ccs hat hrep
       obtain rfl := impl_Step_open hrep
       exact R_out (hx := []) rfl hle rfl (out_some rfl) ⟨_, rfl, rfl, hat⟩
     · intro imm1 hf le1
       refine Ins_cons ?_
       rintro _ _ ⟨ad, rfl, rfl, hat⟩
       refine Ins_nil <| R_isw (hf) [(19, .pointer (some ad))] ?_
       have hle := Imm.le.refl imm1
       exact R_la 0 hat [vI x.Kind, vI x.Part, vI x.A, vI x.B] (vA [vI x.Kind, vI x.Part, vI x.A, vI x.B]) rfl <| R_out (hx := []) rfl hle rfl (out_some rfl) ⟨rfl, rfl⟩
     · intro imm1 hf le1
       refine Ins_cons ?_
       rintro _ _ ⟨rfl, rfl⟩
       refine Ins_cons ?_
       rintro _ _ ⟨rfl, rfl⟩
       refine Ins_nil <| R_isw (hf) [(21, vS p1 b c1), (22, vI i)] ?_
       have hle := Imm.le.refl imm1
       replace h1 := h1.mono le1
       refine R_ix rfl rfl h1 hy1 ?_
       intro ad1 ccs1 hat1 hrep1
       obtain rfl := impl_Step_open hrep1
       exact R_out (hx := []) rfl hle rfl (out_some rfl) ⟨_, rfl, rfl, hat1⟩
     · intro imm1 hf le1
       refine Ins_cons ?_
       rintro _ _ ⟨ad1, rfl, rfl, hat1⟩
       refine Ins_nil <| R_isw (hf) [(23, .pointer (some ad1))] ?_
       have hle := Imm.le.refl imm1
       exact R_la 0 hat1 [vI x1.Kind, vI x1.Part, vI x1.A, vI x1.B] (vA [vI x1.Kind, vI x1.Part, vI x1.A, vI x1.B]) rfl <| R_out (hx := []) rfl hle rfl (out_some rfl) ⟨rfl, rfl⟩
     · intro imm1 hf le1
       refine Ins_cons ?_
       rintro _ _ ⟨rfl, rfl⟩
       refine Ins_cons ?_
       rintro _ _ ⟨rfl, rfl⟩
       refine Ins_nil <| R_isw (hf) [(20, vA [vI x.Kind, vI x.Part, vI x.A, vI x.B]), (24, vA [vI x1.Kind, vI x1.Part, vI x1.A, vI x1.B])] ?_
       have hle := Imm.le.refl imm1
       refine R_call (hs1 := []) (rest := (hf)) rfl rfl rfl rfl (by kernel_rfl) rfl rfl (laws_eqStep_ok x x1 _ hy2 ) ?_
       rintro imm0 hs2 v2 k2 le hk ⟨v0, rfl, rfl, rfl⟩ -
       replace hle := hle.trans le
       exact R_out (hx := []) rfl hle rfl (out_some rfl) ⟨rfl, rfl⟩
   · intro imm01 le1
     refine Ins_cons ?_
     rintro _ _ ⟨rfl, rfl⟩
     refine Ins_nil <| R_isw [] [(0, vS p a0 c), (1, vS p1 b c1), (5, vI i), (26, .bool (!y))] ?_
     replace h := h.mono le1
     replace h1 := h1.mono le1
     replace hle := hle.trans le1
     refine R_end rfl <| T_seq <| J_cd hM ?_ ?_
     · intro hc2 hM
       exact J_seq <| J_region <| R_z [] [(4, .bool false)] <| T_seq <| J_ret <| T_block_ret <| T_then_ret <| T_then_ret <| hr _ _ _ _ (pure_some hM).symm hle ⟨_, _, (.tmp rfl ResV.nil), good_none, ⟨_, rfl, rfl, rfl⟩⟩
     · intro hc2 hM
       exact J_skip <| T_block_normal <| T_seq <| J_region <| R_z [] [(5, vI (W (i + 1)))] <| T_loop <| J_w [(0, vS p a0 c), (1, vS p1 b c1), (5, vI (W (i + 1)))] <| ih (W (i + 1)) _ hM hle h h1 hg ho hx hr
 · intro hc1 hM
   exact J_exit <| T_then_exit <| T_then_exit <| T_w [] <| hx _  (pure_some hM).symm hle 

def M.laws_eqStepS (a0 : (List impl_Step)) (b : (List impl_Step)) : Option (Bool) := do
 if ((a0.length : Int) != (b.length : Int)) then
  pure false
 else
  match ← M.laws_eqStepS_l1 a0 b 0 with
  | .ret r0 => pure r0
  | .done _ =>
   pure true

theorem laws_eqStepS_ok : ∀ (a0 : (List impl_Step)) (b : (List impl_Step)) r, M.laws_eqStepS a0 b = some r → ∀ {imm : Imm} {p : Option Addr} {c : Nat} {p1 : Option Addr} {c1 : Nat}, (SL imm (vS p a0 c) a0) → (SL imm (vS p1 b c1) b) → Ret Tryd.prog 9 [vS p a0 c, vS p1 b c1] imm [] (laws_eqStepS_post  r) := by
 intro a0 b r hM imm p c p1 c1 h h1
 unfold M.laws_eqStepS at hM
 refine ret_of_J (fn := Tryd.f9) (c := (bodyOf Tryd.f9)) Tryd.func9 rfl rfl ?_
 rintro B - -
 have hle : imm.le imm := Imm.le.refl _
 refine J_seq <| J_region <| R_z [] [] <| T_seq <| J_seq <| J_seq <| J_region <| R_z [] [(10, .bool ((a0.length : Int) != (b.length : Int)))] <| T_seq <| J_cd hM ?_ ?_
 · intro hc hM
   refine J_seq <| J_region <| R_z [] [(4, .bool false)] <| T_seq <| J_ret <| T_then_ret ?_
   obtain rfl := pure_some hM
   exact T_RS ⟨_, _, (.tmp rfl ResV.nil), good_none, ⟨_, rfl, rfl, rfl⟩⟩
 · intro hc hM
   refine J_skip <| T_seq <| J_seq <| J_seq <| J_region <| R_z [] [(5, vI 0)] <| T_seq <| J_block <| J_w [(0, vS p a0 c), (1, vS p1 b c1), (5, vI 0)] ?_
   obtain ⟨o0, ho0, hM⟩ := bind_some hM
   refine laws_eqStepS_l1_ok a0 b 0 o0 ho0 (Imm.le.refl _) h h1 (fun _ _ _ h => h) (fun _ _ h => h) ?_ ?_
   · intro imm02  heq le2 
     subst o0
     replace hle := hle.trans le2
     refine T_block_here <| T_seq <| J_seq <| J_region <| R_z [] [(4, .bool true)] <| T_seq <| J_ret ?_
     obtain rfl := pure_some hM
     exact T_RS ⟨_, _, (.tmp rfl ResV.nil), good_none, ⟨_, rfl, rfl, rfl⟩⟩
   · intro r0 imm9 hs9 m9 heq9 le9 hrs9
     subst heq9
     refine T_block_ret <| T_then_ret ?_
     obtain rfl := pure_some hM
     exact T_RS hrs9

def laws_FnExactFormatSteps_post (r : Bool) : Nat → Imm → List HA → Value → Prop := fun kk imm' hs' v =>
  ∃ (v0 : Value), hs' = [] ∧ v = tupV [v0] ∧ v0 = .bool r

def M.laws_FnExactFormatSteps (aList : (List laws_Step)) : Option (Bool) := do
 let y ← M.laws_szStepS aList 1048576
 if (decide (y < 0)) then
  pure true
 else
  let y1 ← M.laws_toStepS aList
  let y2 ← M.spec_FormatSteps y1
  let y3 ← M.laws_toStepS aList
  let y4 ← M.impl_FormatSteps y3
  if (!(y4.l == y2.l)) then
   pure false
  else
   let y5 ← M.laws_toStepS aList
   let y6 ← M.laws_eqStepS y3 y5
   if (!y6) then
    pure false
   else
    pure true

theorem laws_FnExactFormatSteps_ok : ∀ (aList : (List laws_Step)) r, M.laws_FnExactFormatSteps aList = some r → ∀ {imm : Imm} {p : Option Addr} {c : Nat}, (SL imm (vS p aList c) aList) → (GH Tryd.prog imm) → Ret Tryd.prog 3 [vS p aList c] imm [] (laws_FnExactFormatSteps_post  r) := by
 intro aList r hM imm p c h hG
 unfold M.laws_FnExactFormatSteps at hM
 refine ret_of_J (fn := Tryd.f3) (c := (bodyOf Tryd.f3)) Tryd.func3 rfl rfl ?_
 rintro B - -
 have hle : imm.le imm := Imm.le.refl _
 refine J_seq <| J_region <| R_z [] [] <| T_seq <| J_seq <| J_region <| R_z [] [(3, vI 1048576)] <| T_seq <| J_seq <| J_region <| R_d 2 [] [(7, vS p aList c), (8, vI 1048576)] ?_
 obtain ⟨y, hy, hM⟩ := bind_some hM
 refine R_call (hs1 := []) (rest := []) rfl rfl rfl rfl (by kernel_rfl) rfl rfl (laws_szStepS_ok aList 1048576 _ hy h) ?_
 rintro imm0 hs2 v2 k2 le hk ⟨v0, rfl, rfl, rfl⟩ -
 replace h := h.mono le
 replace hG := hG.mono le
 replace hle := hle.trans le
 refine R_z [] [(3, vI y)] <| T_seq <| J_seq <| J_seq <| J_region <| R_z [] [(11, .bool (decide (y < 0)))] <| T_seq <| J_cd hM ?_ ?_
 · intro hc hM
   refine J_seq <| J_region <| R_z [] [(2, .bool true)] <| T_seq <| J_ret <| T_then_ret ?_
   obtain rfl := pure_some hM
   exact T_RS ⟨_, _, (.tmp rfl ResV.nil), good_none, ⟨_, rfl, rfl, rfl⟩⟩
 · intro hc hM
   refine J_skip <| T_seq <| J_seq <| J_region <| R_d 1 [] [(12, vS p aList c)] ?_
   obtain ⟨y1, hy1, hM⟩ := bind_some hM
   refine R_call (hs1 := []) (rest := []) rfl rfl rfl rfl (by kernel_rfl) rfl rfl (laws_toStepS_ok aList _ hy1 h) ?_
   rintro imm01 hs2 v2 k2 le1 hk1 ⟨v01, rfl, rfl, h2⟩ -
   replace h := h.mono le1
   replace hG := hG.mono le1
   replace hle := hle.trans le1
   obtain ⟨p1, c1, rfl⟩ := h2.form
   obtain ⟨y2, hy2, hM⟩ := bind_some hM
   refine R_call (hs1 := []) (rest := []) rfl rfl rfl rfl (by kernel_rfl) rfl rfl (spec_FormatSteps_ok y1 _ hy2 h2) ?_
   rintro imm02 hs2 v2 k2 le2 hk2 ⟨v02, rfl, rfl, rfl⟩ -
   replace h := h.mono le2
   replace hG := hG.mono le2
   replace hle := hle.trans le2
   refine R_z [] [(4, vT y2.l)] <| T_seq <| J_seq <| J_region <| R_d 1 [] [(15, vS p aList c)] ?_
   obtain ⟨y3, hy3, hM⟩ := bind_some hM
   refine R_call (hs1 := []) (rest := []) rfl rfl rfl rfl (by kernel_rfl) rfl rfl (laws_toStepS_ok aList _ hy3 h) ?_
   rintro imm03 hs2 v2 k2 le3 hk3 ⟨v03, rfl, rfl, h4⟩ -
   replace h := h.mono le3
   replace hG := hG.mono le3
   replace hle := hle.trans le3
   obtain ⟨p2, c2, rfl⟩ := h4.form
   refine R_z [] [(5, vS p2 y3 c2)] <| T_seq <| J_seq <| J_region <| R_d 1 [] [(17, vS p2 y3 c2)] ?_
   obtain ⟨y4, hy4, hM⟩ := bind_some hM
   refine R_call (hs1 := []) (rest := []) rfl rfl rfl rfl (by kernel_rfl) rfl rfl (impl_FormatSteps_ok y3 _ hy4 h4 hG) ?_
   rintro imm04 hs2 v2 k2 le4 hk4 ⟨v04, rfl, rfl, rfl⟩ -
   replace h := h.mono le4
   replace h4 := h4.mono le4
   replace hG := hG.mono le4
   replace hle := hle.trans le4
   refine R_z [] [(6, vT y4.l)] <| T_seq <| J_seq <| J_seq <| J_region <| R_z [] [(21, .bool (!(y4.l == y2.l)))] <| T_seq <| J_cd hM ?_ ?_
   · intro hc1 hM
     refine J_seq <| J_region <| R_z [] [(2, .bool false)] <| T_seq <| J_ret <| T_then_ret ?_
     obtain rfl := pure_some hM
     exact T_RS ⟨_, _, (.tmp rfl ResV.nil), good_none, ⟨_, rfl, rfl, rfl⟩⟩
   · intro hc1 hM
     refine J_skip <| T_seq <| J_seq <| J_seq <| J_region <| R_d 2 [] [(22, vS p2 y3 c2), (23, vS p aList c)] ?_
     obtain ⟨y5, hy5, hM⟩ := bind_some hM
     refine R_call (hs1 := []) (rest := []) rfl rfl rfl rfl (by kernel_rfl) rfl rfl (laws_toStepS_ok aList _ hy5 h) ?_
     rintro imm05 hs2 v2 k2 le5 hk5 ⟨v05, rfl, rfl, h6⟩ -
     replace h4 := h4.mono le5
     replace hG := hG.mono le5
     replace hle := hle.trans le5
     obtain ⟨p3, c3, rfl⟩ := h6.form
     obtain ⟨y6, hy6, hM⟩ := bind_some hM
     refine R_call (hs1 := []) (rest := []) rfl rfl rfl rfl (by kernel_rfl) rfl rfl (laws_eqStepS_ok y3 y5 _ hy6 h4 h6) ?_
     rintro imm06 hs2 v2 k2 le6 hk6 ⟨v06, rfl, rfl, rfl⟩ -
     replace hG := hG.mono le6
     replace hle := hle.trans le6
     refine R_z [] [(26, .bool (!y6))] <| T_seq <| J_cd hM ?_ ?_
     · intro hc2 hM
       refine J_seq <| J_region <| R_z [] [(2, .bool false)] <| T_seq <| J_ret <| T_then_ret ?_
       obtain rfl := pure_some hM
       exact T_RS ⟨_, _, (.tmp rfl ResV.nil), good_none, ⟨_, rfl, rfl, rfl⟩⟩
     · intro hc2 hM
       refine J_skip <| T_seq <| J_seq <| J_region <| R_z [] [(2, .bool true)] <| T_seq <| J_ret ?_
       obtain rfl := pure_some hM
       exact T_RS ⟨_, _, (.tmp rfl ResV.nil), good_none, ⟨_, rfl, rfl, rfl⟩⟩

end Go.LN
