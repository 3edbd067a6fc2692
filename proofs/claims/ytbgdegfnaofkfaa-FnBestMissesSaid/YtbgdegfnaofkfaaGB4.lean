/- Helper of the proof (see the last text). -/
import Derived.Test.YtbgdegfnaofkfaaGB3
namespace Go.LN
set_option linter.unusedVariables false
set_option linter.unusedSimpArgs false
open Go.Proofs
set_option maxRecDepth 20000
def spec_l4Body_post (b0 : Nat) (r : impl_Part × spec_l16Rd) : Nat → Imm → List HA → Value → Prop := fun kk imm' hs' v =>
  ∃ (v0 : Value) (k0 : List Value), hs' = [.blk b0 ⟨k0⟩] ∧ v = tupV [v0] ∧ (∃ cs, v0 = .agg ⟨cs⟩ ∧ Rp.rep imm' cs r.1) ∧ Rp.rep imm' k0 r.2
def M.spec_l4Body_l3 (y1 : (List impl_Loop)) (Body2 : List impl_Stmt) (n0 : Int) (x6 : spec_l16Rd) : Option ((List impl_Stmt × spec_l16Rd)) := do
 if (decide (n0 < 5)) then
  let (y7, y8) ← M.spec_l3Stmt x6 (y1.length : Int)
  let y9 ← M.spec_l4Some
  let (y11, y12) ← M.spec_l4Part y9 (impl_Part.mk y1 ([y7] : List impl_Stmt))
  if y12 then
   let l ← app 152 Body2 ([y7] : List impl_Stmt)
   pure (l, y8)
  else
   M.spec_l4Body_l3 y1 Body2 (W (n0 + 1)) y8
 else
  pure (Body2, x6)
 partial_fixpoint
theorem spec_l4Body_l3_ok (y1 : (List impl_Loop)) (Body2 : List impl_Stmt) : ∀ (n0 : Int) (x6 : spec_l16Rd) (o : (List impl_Stmt × spec_l16Rd)), M.spec_l4Body_l3 y1 Body2 n0 x6 = some o → ∀ {B : Base} {imm0 imm : Imm} {Q : Exit → Act → World → Prop} {i : Int} {x : impl_Part} {k0 : Int} {r01 : Nat} {b : Nat} {p1 : Option Addr} {c1 : Nat} {p2 : Option Addr} {c2 : Nat} {p7 : Option Addr} {c7 : Nat} {b1 : Nat} {p14 : Option Addr} {c14 : Nat} {cs2 : List Value} {p15 : Option Addr} {c15 : Nat}, imm0.le imm → (SL imm (vS p7 y1 c7) y1) → (SL imm (vS p1 x.Nest c1) x.Nest) → (SL imm (vS p2 x.Body c2) x.Body) → (RL imm cs2 Body2) → (SL imm (vS p15 x6.b c15) x6.b) → (∀ l a w, ¬ Q (.goto l) a w) → (∀ a w, ¬ Q .outgrown a w) → (∀ (imm' : Imm) (Body3 : List impl_Stmt) (x7 : spec_l16Rd) (p16 : Option Addr) (c16 : Nat) (cs3 : List Value) (p17 : Option Addr) (c17 : Nat), o = (Body3, x7) → imm0.le imm' → (RL imm' cs3 Body3) → (SL imm' (vS p17 x7.b c17) x7.b) → T 81 B Q (.exit 4) imm' [hO impl_Stmt (vS p16 Body3 c16) cs3, hB r01 [vS p17 x7.b c17, vI x7.p], hB b1 [vS p7 y1 c7, vS p16 Body3 c16], hB b [vS p1 x.Nest c1, vS p2 x.Body c2]] [(0, vP r01 0), (2, vP b 0), (3, vI i), (4, vP b1 0), (5, vI k0)]) → J Try.prog 81 B (nav (bodyOf Try.f48) [1, 0, 1, 0, 0, 1, 0, 0, 1, 0, 1, 0, 0, 1, 0, 0, 1, 0]) Q imm [hO impl_Stmt (vS p14 Body2 c14) cs2, hB r01 [vS p15 x6.b c15, vI x6.p], hB b1 [vS p7 y1 c7, vS p14 Body2 c14], hB b [vS p1 x.Nest c1, vS p2 x.Body c2]] [(0, vP r01 0), (2, vP b 0), (3, vI i), (4, vP b1 0), (5, vI k0), (6, vI n0)] := by
 refine M.spec_l4Body_l3.partial_correctness y1 Body2 _ ?_
 intro self ih n0 x6 o hM B imm0 imm Q i x k0 r01 b p1 c1 p2 c2 p7 c7 b1 p14 c14 cs2 p15 c15 hle h7 h1 h2 h20 h21 hg ho hx
 refine J_loop hg ho <| J_seq <| J_seq <| J_region <| R_z [] [(31, .bool (decide (n0 < 5)))] <| T_seq <| J_cd hM ?_ ?_
 · intro hc2 hM
   refine J_skip <| T_seq <| J_seq <| J_block <| J_seq <| J_region <| R_d 4 [2] [(34, vP r01 0), (37, vI (y1.length : Int))] <| R_hs (good_pick [1, 0, 2, 3] (hs' := [hB r01 [vS p15 x6.b c15, vI x6.p], hO impl_Stmt (vS p14 Body2 c14) cs2, hB b1 [vS p7 y1 c7, vS p14 Body2 c14], hB b [vS p1 x.Nest c1, vS p2 x.Body c2]]) rfl (by decide)) ?_
   obtain ⟨⟨y7, y8⟩, hy2, hM⟩ := bind_some hM
   refine R_call (hs1 := [hB r01 [vS p15 x6.b c15, vI x6.p]]) (rest := [hO impl_Stmt (vS p14 Body2 c14) cs2, hB b1 [vS p7 y1 c7, vS p14 Body2 c14], hB b [vS p1 x.Nest c1, vS p2 x.Body c2]]) rfl rfl rfl rfl (by kernel_rfl) rfl rfl (spec_l3Stmt_ok x6 (y1.length : Int) _ hy2 h21) ?_
   rintro imm03 hs2 v2 k2 le3 - ⟨v04, kk2, rfl, rfl, ⟨cs4, rfl, h24⟩, h25⟩ -
   replace h20 := RepL.mono (fun _ _ => Rp.mono le3) h20
   replace h7 := h7.mono le3
   replace h1 := h1.mono le3
   replace h2 := h2.mono le3
   replace hle := hle.trans le3
   obtain ⟨v05, v06, v07, v08, rfl, h26, h27, h28, h29⟩ := impl_Stmt_open h24
   obtain ⟨p18, c18, rfl⟩ := h26.form
   obtain ⟨p19, c19, rfl⟩ := h27.form
   obtain ⟨p20, c20, rfl⟩ := h28.form
   obtain ⟨p21, c21, rfl⟩ := h29.form
   obtain ⟨v09, rfl, h30⟩ := spec_l16Rd_open h25
   obtain ⟨p22, c22, rfl⟩ := h30.form
   refine R_alloc (c := ⟨[vT ([]), .slice none 0 0, vI 0, vI 0, .slice none 0 0, vI 0, vT ([]), .slice none 0 0, .slice none 0 0]⟩) rfl rfl rfl (by kernel_rfl) ?_
   intro b3 hb3
   refine R_sb 0 [vT y7.Write.Array.l, vS p18 y7.Write.Subs c18, vI y7.Value.Kind, vI y7.Value.Num, vS p19 y7.Value.Index.Coefs c19, vI y7.Value.Index.Const, vT y7.Value.Read.Array.l, vS p20 y7.Value.Read.Subs c20, vS p21 y7.Value.Kids c21] [hB b3 [vT y7.Write.Array.l, vS p18 y7.Write.Subs c18, vI y7.Value.Kind, vI y7.Value.Num, vS p19 y7.Value.Index.Coefs c19, vI y7.Value.Index.Const, vT y7.Value.Read.Array.l, vS p20 y7.Value.Read.Subs c20, vS p21 y7.Value.Kids c21], hB r01 [vS p22 y8.b c22, vI y8.p], hO impl_Stmt (vS p14 Body2 c14) cs2, hB b1 [vS p7 y1 c7, vS p14 Body2 c14], hB b [vS p1 x.Nest c1, vS p2 x.Body c2]] rfl rfl rfl rfl <| R_end rfl <| T_seq <| J_seq ?_
   obtain ⟨y9, hy3, hM⟩ := bind_some hM
   obtain ⟨⟨y11, y12⟩, hy4, hM⟩ := bind_some hM
   refine J_any [.x (fun imm' v hx => ∃ (p23 : Option Addr) (c23 : Nat), v = vS p23 y9 c23 ∧ hx = [] ∧ (SL imm' (vS p23 y9 c23) y9)), .p (vP b1 0) [], .p (vS p7 y1 c7) [3], .p (vA [vT y7.Write.Array.l, vS p18 y7.Write.Subs c18, vI y7.Value.Kind, vI y7.Value.Num, vS p19 y7.Value.Index.Coefs c19, vI y7.Value.Index.Const, vT y7.Value.Read.Array.l, vS p20 y7.Value.Read.Subs c20, vS p21 y7.Value.Kids c21]) [0], .x (fun imm' v hx => ∃ (b4 : Nat), v = vS (some ⟨b4, 0, none⟩) ([y7] : List impl_Stmt) 1 ∧ hx = [] ∧ (SL imm' (vS (some ⟨b4, 0, none⟩) ([y7] : List impl_Stmt) 1) ([y7] : List impl_Stmt))), .x (fun imm' v hx => ∃ (b41 : Nat), v = vA [vS p7 y1 c7, vS (some ⟨b41, 0, none⟩) ([y7] : List impl_Stmt) 1] ∧ hx = [] ∧ (SL imm' (vS (some ⟨b41, 0, none⟩) ([y7] : List impl_Stmt) 1) ([y7] : List impl_Stmt))), .q (.tuple ⟨[vI y11, .bool y12]⟩), .p (.tuple ⟨[vI y11, .bool y12]⟩) [], .p (vI y11) [], .p (.bool y12) [], .p (vI y11) []] [[], [], [(1, false)], [], [(3, false)], [(2, false), (4, false)], [(0, false), (5, false)], [(6, false)], [(7, false)], [(7, false)], [(8, false)]] [hB b3 [vT y7.Write.Array.l, vS p18 y7.Write.Subs c18, vI y7.Value.Kind, vI y7.Value.Num, vS p19 y7.Value.Index.Coefs c19, vI y7.Value.Index.Const, vT y7.Value.Read.Array.l, vS p20 y7.Value.Read.Subs c20, vS p21 y7.Value.Kids c21], hB r01 [vS p22 y8.b c22, vI y8.p], hO impl_Stmt (vS p14 Body2 c14) cs2, hB b1 [vS p7 y1 c7, vS p14 Body2 c14], hB b [vS p1 x.Nest c1, vS p2 x.Body c2]] [] [(9, false)] (good_pick [0, 1, 2, 3, 4] rfl (by decide)) ?_ ?_
   · refine Ox ?_ <| Op <| Op <| Op <| Ox ?_ <| Ox ?_ <| Oq ?_ <| Op <| Op <| Op <| Op <| On
     · intro imm1 hf le1
       refine Ins_nil <| R_isw (hB b3 [vT y7.Write.Array.l, vS p18 y7.Write.Subs c18, vI y7.Value.Kind, vI y7.Value.Num, vS p19 y7.Value.Index.Coefs c19, vI y7.Value.Index.Const, vT y7.Value.Read.Array.l, vS p20 y7.Value.Read.Subs c20, vS p21 y7.Value.Kids c21] :: hB r01 [vS p22 y8.b c22, vI y8.p] :: hO impl_Stmt (vS p14 Body2 c14) cs2 :: hB b1 [vS p7 y1 c7, vS p14 Body2 c14] :: hB b [vS p1 x.Nest c1, vS p2 x.Body c2] :: hf) [] ?_
       have hle := Imm.le.refl imm1
       replace h26 := h26.mono le1
       replace h27 := h27.mono le1
       replace h28 := h28.mono le1
       replace h29 := h29.mono le1
       replace h30 := h30.mono le1
       replace h20 := RepL.mono (fun _ _ => Rp.mono le1) h20
       replace h7 := h7.mono le1
       replace h1 := h1.mono le1
       replace h2 := h2.mono le1
       refine R_call (hs1 := []) (rest := (hB b3 [vT y7.Write.Array.l, vS p18 y7.Write.Subs c18, vI y7.Value.Kind, vI y7.Value.Num, vS p19 y7.Value.Index.Coefs c19, vI y7.Value.Index.Const, vT y7.Value.Read.Array.l, vS p20 y7.Value.Read.Subs c20, vS p21 y7.Value.Kids c21] :: hB r01 [vS p22 y8.b c22, vI y8.p] :: hO impl_Stmt (vS p14 Body2 c14) cs2 :: hB b1 [vS p7 y1 c7, vS p14 Body2 c14] :: hB b [vS p1 x.Nest c1, vS p2 x.Body c2] :: hf)) rfl rfl rfl rfl (by kernel_rfl) rfl rfl (spec_l4Some_ok  _ hy3 ) ?_
       rintro imm04 hs2 v2 k2 le4 - ⟨v010, rfl, rfl, h31⟩ -
       replace h26 := h26.mono le4
       replace h27 := h27.mono le4
       replace h28 := h28.mono le4
       replace h29 := h29.mono le4
       replace h30 := h30.mono le4
       replace h20 := RepL.mono (fun _ _ => Rp.mono le4) h20
       replace h7 := h7.mono le4
       replace h1 := h1.mono le4
       replace h2 := h2.mono le4
       replace hle := hle.trans le4
       obtain ⟨p23, c23, rfl⟩ := h31.form
       exact R_out (hx := []) rfl hle rfl (out_some rfl) ⟨_, _, rfl, rfl, h31⟩
     · intro imm1 hf le1
       refine Ins_cons ?_
       rintro _ _ ⟨rfl, rfl⟩
       refine Ins_nil <| R_isw (hB b3 [vT y7.Write.Array.l, vS p18 y7.Write.Subs c18, vI y7.Value.Kind, vI y7.Value.Num, vS p19 y7.Value.Index.Coefs c19, vI y7.Value.Index.Const, vT y7.Value.Read.Array.l, vS p20 y7.Value.Read.Subs c20, vS p21 y7.Value.Kids c21] :: hB r01 [vS p22 y8.b c22, vI y8.p] :: hO impl_Stmt (vS p14 Body2 c14) cs2 :: hB b1 [vS p7 y1 c7, vS p14 Body2 c14] :: hB b [vS p1 x.Nest c1, vS p2 x.Body c2] :: hf) [(43, vA [vT y7.Write.Array.l, vS p18 y7.Write.Subs c18, vI y7.Value.Kind, vI y7.Value.Num, vS p19 y7.Value.Index.Coefs c19, vI y7.Value.Index.Const, vT y7.Value.Read.Array.l, vS p20 y7.Value.Read.Subs c20, vS p21 y7.Value.Kids c21])] ?_
       have hle := Imm.le.refl imm1
       replace h26 := h26.mono le1
       replace h27 := h27.mono le1
       replace h28 := h28.mono le1
       replace h29 := h29.mono le1
       replace h30 := h30.mono le1
       replace h20 := RepL.mono (fun _ _ => Rp.mono le1) h20
       replace h7 := h7.mono le1
       replace h1 := h1.mono le1
       replace h2 := h2.mono le1
       refine R_buildSlice (cs := [vT y7.Write.Array.l, vS p18 y7.Write.Subs c18, vI y7.Value.Kind, vI y7.Value.Num, vS p19 y7.Value.Index.Coefs c19, vI y7.Value.Index.Const, vT y7.Value.Read.Array.l, vS p20 y7.Value.Read.Subs c20, vS p21 y7.Value.Kids c21]) (Rp.sz impl_Stmt) rfl rfl rfl rfl (by kernel_rfl) (by kernel_rfl) ?_
       intro b4 hb4
       have h32 : RL imm1 [vT y7.Write.Array.l, vS p18 y7.Write.Subs c18, vI y7.Value.Kind, vI y7.Value.Num, vS p19 y7.Value.Index.Coefs c19, vI y7.Value.Index.Const, vT y7.Value.Read.Array.l, vS p20 y7.Value.Read.Subs c20, vS p21 y7.Value.Kids c21] ([y7] : List impl_Stmt) := ⟨[vT y7.Write.Array.l, vS p18 y7.Write.Subs c18, vI y7.Value.Kind, vI y7.Value.Num, vS p19 y7.Value.Index.Coefs c19, vI y7.Value.Index.Const, vT y7.Value.Read.Array.l, vS p20 y7.Value.Read.Subs c20, vS p21 y7.Value.Kids c21], _, rfl, rfl, (impl_Stmt_shut ⟨_, _, _, _, rfl, h26, h27, h28, h29⟩), rfl⟩
       refine R_freeze 0 rfl ?_
       intro imm05 le5 hl01
       have h33 := SL.of_frozen hl01 le5 h32
       replace h26 := h26.mono le5
       replace h27 := h27.mono le5
       replace h28 := h28.mono le5
       replace h29 := h29.mono le5
       replace h30 := h30.mono le5
       replace h20 := RepL.mono (fun _ _ => Rp.mono le5) h20
       replace h7 := h7.mono le5
       replace h1 := h1.mono le5
       replace h2 := h2.mono le5
       replace hle := hle.trans le5
       exact R_out (hx := []) rfl hle rfl (out_some rfl) ⟨_, rfl, rfl, h33⟩
     · intro imm1 hf le1
       refine Ins_cons ?_
       rintro _ _ ⟨rfl, rfl⟩
       refine Ins_cons ?_
       rintro _ _ ⟨b4, rfl, rfl, h33⟩
       refine Ins_nil <| R_isw (hB b3 [vT y7.Write.Array.l, vS p18 y7.Write.Subs c18, vI y7.Value.Kind, vI y7.Value.Num, vS p19 y7.Value.Index.Coefs c19, vI y7.Value.Index.Const, vT y7.Value.Read.Array.l, vS p20 y7.Value.Read.Subs c20, vS p21 y7.Value.Kids c21] :: hB r01 [vS p22 y8.b c22, vI y8.p] :: hO impl_Stmt (vS p14 Body2 c14) cs2 :: hB b1 [vS p7 y1 c7, vS p14 Body2 c14] :: hB b [vS p1 x.Nest c1, vS p2 x.Body c2] :: hf) [(42, vS p7 y1 c7), (44, vS (some ⟨b4, 0, none⟩) ([y7] : List impl_Stmt) 1)] ?_
       have hle := Imm.le.refl imm1
       replace h7 := h7.mono le1
       exact R_p 6 [(45, vA [vS p7 y1 c7, vS (some ⟨b4, 0, none⟩) ([y7] : List impl_Stmt) 1])] <| R_out (hx := []) rfl hle rfl (out_some rfl) ⟨_, rfl, rfl, h33⟩
     · intro imm1 hf le1
       refine Ins_cons ?_
       rintro _ _ ⟨p23, c23, rfl, rfl, h31⟩
       refine Ins_cons ?_
       rintro _ _ ⟨b41, rfl, rfl, h331⟩
       refine Ins_nil <| R_isw (hB b3 [vT y7.Write.Array.l, vS p18 y7.Write.Subs c18, vI y7.Value.Kind, vI y7.Value.Num, vS p19 y7.Value.Index.Coefs c19, vI y7.Value.Index.Const, vT y7.Value.Read.Array.l, vS p20 y7.Value.Read.Subs c20, vS p21 y7.Value.Kids c21] :: hB r01 [vS p22 y8.b c22, vI y8.p] :: hO impl_Stmt (vS p14 Body2 c14) cs2 :: hB b1 [vS p7 y1 c7, vS p14 Body2 c14] :: hB b [vS p1 x.Nest c1, vS p2 x.Body c2] :: hf) [(40, vS p23 y9 c23), (45, vA [vS p7 y1 c7, vS (some ⟨b41, 0, none⟩) ([y7] : List impl_Stmt) 1])] ?_
       have hle := Imm.le.refl imm1
       replace h26 := h26.mono le1
       replace h27 := h27.mono le1
       replace h28 := h28.mono le1
       replace h29 := h29.mono le1
       replace h30 := h30.mono le1
       replace h20 := RepL.mono (fun _ _ => Rp.mono le1) h20
       replace h7 := h7.mono le1
       replace h1 := h1.mono le1
       replace h2 := h2.mono le1
       refine R_call (hs1 := []) (rest := (hB b3 [vT y7.Write.Array.l, vS p18 y7.Write.Subs c18, vI y7.Value.Kind, vI y7.Value.Num, vS p19 y7.Value.Index.Coefs c19, vI y7.Value.Index.Const, vT y7.Value.Read.Array.l, vS p20 y7.Value.Read.Subs c20, vS p21 y7.Value.Kids c21] :: hB r01 [vS p22 y8.b c22, vI y8.p] :: hO impl_Stmt (vS p14 Body2 c14) cs2 :: hB b1 [vS p7 y1 c7, vS p14 Body2 c14] :: hB b [vS p1 x.Nest c1, vS p2 x.Body c2] :: hf)) rfl rfl rfl rfl (by kernel_rfl) rfl rfl (spec_l4Part_ok y9 (impl_Part.mk y1 ([y7] : List impl_Stmt)) _ hy4 h31 h7 h331) ?_
       rintro imm06 hs2 v2 k2 le6 - ⟨v011, v012, rfl, rfl, rfl, rfl⟩ -
       replace h31 := h31.mono le6
       replace h7 := h7.mono le6
       replace h331 := h331.mono le6
       replace h26 := h26.mono le6
       replace h27 := h27.mono le6
       replace h28 := h28.mono le6
       replace h29 := h29.mono le6
       replace h30 := h30.mono le6
       replace h20 := RepL.mono (fun _ _ => Rp.mono le6) h20
       replace h1 := h1.mono le6
       replace h2 := h2.mono le6
       replace hle := hle.trans le6
       exact R_out (hx := []) rfl hle rfl (out_some rfl) ⟨rfl, rfl⟩
   · intro imm07 le7
     refine Ins_cons ?_
     rintro _ _ ⟨rfl, rfl⟩
     refine Ins_nil <| R_isw [hB b3 [vT y7.Write.Array.l, vS p18 y7.Write.Subs c18, vI y7.Value.Kind, vI y7.Value.Num, vS p19 y7.Value.Index.Coefs c19, vI y7.Value.Index.Const, vT y7.Value.Read.Array.l, vS p20 y7.Value.Read.Subs c20, vS p21 y7.Value.Kids c21], hB r01 [vS p22 y8.b c22, vI y8.p], hO impl_Stmt (vS p14 Body2 c14) cs2, hB b1 [vS p7 y1 c7, vS p14 Body2 c14], hB b [vS p1 x.Nest c1, vS p2 x.Body c2]] [(0, vP r01 0), (2, vP b 0), (3, vI i), (4, vP b1 0), (5, vI k0), (6, vI n0), (7, vP b3 0), (48, .bool y12)] ?_
     replace h26 := h26.mono le7
     replace h27 := h27.mono le7
     replace h28 := h28.mono le7
     replace h29 := h29.mono le7
     replace h30 := h30.mono le7
     replace h20 := RepL.mono (fun _ _ => Rp.mono le7) h20
     replace h7 := h7.mono le7
     replace h1 := h1.mono le7
     replace h2 := h2.mono le7
     replace hle := hle.trans le7
     refine R_z [] [(9, .bool y12)] <| T_seq <| J_seq <| J_region <| R_z [] [(49, .bool y12)] <| T_seq <| J_cd hM ?_ ?_
     · intro hc3 hM
       refine J_seq <| J_region <| R_d 3 [3, 0] [(51, vS p14 Body2 c14), (52, vA [vT y7.Write.Array.l, vS p18 y7.Write.Subs c18, vI y7.Value.Kind, vI y7.Value.Num, vS p19 y7.Value.Index.Coefs c19, vI y7.Value.Index.Const, vT y7.Value.Read.Array.l, vS p20 y7.Value.Read.Subs c20, vS p21 y7.Value.Kids c21])] <| R_buildSlice (cs := [vT y7.Write.Array.l, vS p18 y7.Write.Subs c18, vI y7.Value.Kind, vI y7.Value.Num, vS p19 y7.Value.Index.Coefs c19, vI y7.Value.Index.Const, vT y7.Value.Read.Array.l, vS p20 y7.Value.Read.Subs c20, vS p21 y7.Value.Kids c21]) (Rp.sz impl_Stmt) rfl rfl rfl rfl (by kernel_rfl) (by kernel_rfl) ?_
       intro b5 hb5
       have h36 : RL imm07 [vT y7.Write.Array.l, vS p18 y7.Write.Subs c18, vI y7.Value.Kind, vI y7.Value.Num, vS p19 y7.Value.Index.Coefs c19, vI y7.Value.Index.Const, vT y7.Value.Read.Array.l, vS p20 y7.Value.Read.Subs c20, vS p21 y7.Value.Kids c21] ([y7] : List impl_Stmt) := ⟨[vT y7.Write.Array.l, vS p18 y7.Write.Subs c18, vI y7.Value.Kind, vI y7.Value.Num, vS p19 y7.Value.Index.Coefs c19, vI y7.Value.Index.Const, vT y7.Value.Read.Array.l, vS p20 y7.Value.Read.Subs c20, vS p21 y7.Value.Kids c21], _, rfl, rfl, (impl_Stmt_shut ⟨_, _, _, _, rfl, h26, h27, h28, h29⟩), rfl⟩
       obtain ⟨l, hy5, hM⟩ := bind_some hM
       refine R_ap 80 9 3 rfl rfl rfl h20 (.inr ⟨0, rfl⟩) h36 hy5 ?_
       intro p24 c24 cs5 h37
       exact R_hs (good_pick [1, 2, 3, 4, 5] (hs' := [hB b3 [vT y7.Write.Array.l, vS p18 y7.Write.Subs c18, vI y7.Value.Kind, vI y7.Value.Num, vS p19 y7.Value.Index.Coefs c19, vI y7.Value.Index.Const, vT y7.Value.Read.Array.l, vS p20 y7.Value.Read.Subs c20, vS p21 y7.Value.Kids c21], hB r01 [vS p22 y8.b c22, vI y8.p], hO impl_Stmt (vS p24 l c24) cs5, hB b1 [vS p7 y1 c7, vS p14 Body2 c14], hB b [vS p1 x.Nest c1, vS p2 x.Body c2]]) rfl (by decide)) <| R_d 6 [] [(55, vP b1 1)] <| R_sb 3 [vS p7 y1 c7, vS p24 l c24] [hB b3 [vT y7.Write.Array.l, vS p18 y7.Write.Subs c18, vI y7.Value.Kind, vI y7.Value.Num, vS p19 y7.Value.Index.Coefs c19, vI y7.Value.Index.Const, vT y7.Value.Read.Array.l, vS p20 y7.Value.Read.Subs c20, vS p21 y7.Value.Kids c21], hB r01 [vS p22 y8.b c22, vI y8.p], hO impl_Stmt (vS p24 l c24) cs5, hB b1 [vS p7 y1 c7, vS p24 l c24], hB b [vS p1 x.Nest c1, vS p2 x.Body c2]] rfl rfl rfl rfl <| R_end rfl <| T_seq <| J_exit <| T_block_there rfl <| T_then_exit <| T_then_exit <| T_hs (good_pick [2, 1, 3, 4] rfl (by decide)) <| T_w [(0, vP r01 0), (2, vP b 0), (3, vI i), (4, vP b1 0), (5, vI k0)] <| hx _ _ _ _ _ _ _ _ (pure_some hM).symm hle h37 h30
     · intro hc3 hM
       exact J_skip <| T_block_normal <| T_seq <| J_region <| R_z [] [(6, vI (W (n0 + 1)))] <| T_loop <| J_hs (good_pick [2, 1, 3, 4] rfl (by decide)) <| J_w [(0, vP r01 0), (2, vP b 0), (3, vI i), (4, vP b1 0), (5, vI k0), (6, vI (W (n0 + 1)))] <| ih (W (n0 + 1)) y8 _ hM hle h7 h1 h2 h20 h30 hg ho hx
 · intro hc2 hM
   exact J_exit <| T_then_exit <| T_then_exit <| T_w [(0, vP r01 0), (2, vP b 0), (3, vI i), (4, vP b1 0), (5, vI k0)] <| hx _ _ _ _ _ _ _ _ (pure_some hM).symm hle h20 h21
def M.spec_l4Body_l2 (y1 : (List impl_Loop)) (k0 : Int) (Body : List impl_Stmt) (x4 : spec_l16Rd) : Option ((List impl_Stmt × spec_l16Rd)) := do
 if (decide (k0 > 0)) then
  let (Body3, x7) ← M.spec_l4Body_l3 y1 Body 0 x4
  M.spec_l4Body_l2 y1 (W (k0 - 1)) Body3 x7
 else
  pure (Body, x4)
 partial_fixpoint
theorem spec_l4Body_l2_ok (y1 : (List impl_Loop)) : ∀ (k0 : Int) (Body : List impl_Stmt) (x4 : spec_l16Rd) (o : (List impl_Stmt × spec_l16Rd)), M.spec_l4Body_l2 y1 k0 Body x4 = some o → ∀ {B : Base} {imm0 imm : Imm} {Q : Exit → Act → World → Prop} {i : Int} {x : impl_Part} {r01 : Nat} {b : Nat} {p1 : Option Addr} {c1 : Nat} {p2 : Option Addr} {c2 : Nat} {p7 : Option Addr} {c7 : Nat} {b1 : Nat} {p10 : Option Addr} {c10 : Nat} {cs : List Value} {p11 : Option Addr} {c11 : Nat}, imm0.le imm → (SL imm (vS p7 y1 c7) y1) → (SL imm (vS p1 x.Nest c1) x.Nest) → (SL imm (vS p2 x.Body c2) x.Body) → (RL imm cs Body) → (SL imm (vS p11 x4.b c11) x4.b) → (∀ l a w, ¬ Q (.goto l) a w) → (∀ a w, ¬ Q .outgrown a w) → (∀ (imm' : Imm) (Body1 : List impl_Stmt) (x5 : spec_l16Rd) (p12 : Option Addr) (c12 : Nat) (cs1 : List Value) (p13 : Option Addr) (c13 : Nat), o = (Body1, x5) → imm0.le imm' → (RL imm' cs1 Body1) → (SL imm' (vS p13 x5.b c13) x5.b) → T 81 B Q (.exit 2) imm' [hO impl_Stmt (vS p12 Body1 c12) cs1, hB r01 [vS p13 x5.b c13, vI x5.p], hB b1 [vS p7 y1 c7, vS p12 Body1 c12], hB b [vS p1 x.Nest c1, vS p2 x.Body c2]] [(0, vP r01 0), (2, vP b 0), (3, vI i), (4, vP b1 0)]) → J Try.prog 81 B (nav (bodyOf Try.f48) [1, 0, 1, 0, 0, 1, 0, 0, 1, 0, 1, 0]) Q imm [hO impl_Stmt (vS p10 Body c10) cs, hB r01 [vS p11 x4.b c11, vI x4.p], hB b1 [vS p7 y1 c7, vS p10 Body c10], hB b [vS p1 x.Nest c1, vS p2 x.Body c2]] [(0, vP r01 0), (2, vP b 0), (3, vI i), (4, vP b1 0), (5, vI k0)] := by
 refine M.spec_l4Body_l2.partial_correctness y1 _ ?_
 intro self ih k0 Body x4 o hM B imm0 imm Q i x r01 b p1 c1 p2 c2 p7 c7 b1 p10 c10 cs p11 c11 hle h7 h1 h2 h16 h17 hg ho hx
 refine J_loop hg ho <| J_seq <| J_seq <| J_region <| R_z [] [(27, .bool (decide (k0 > 0)))] <| T_seq <| J_cd hM ?_ ?_
 · intro hc1 hM
   refine J_skip <| T_seq <| J_seq <| J_block <| J_seq <| J_region <| R_z [] [(6, vI 0)] <| T_seq <| J_block <| J_w [(0, vP r01 0), (2, vP b 0), (3, vI i), (4, vP b1 0), (5, vI k0), (6, vI 0)] ?_
   obtain ⟨o0, ho0, hM⟩ := bind_some hM
   refine spec_l4Body_l3_ok y1 Body 0 x4 o0 ho0 (Imm.le.refl _) h7 h1 h2 h16 h17 (fun _ _ _ h => hg _ _ _ h) (fun _ _ h => ho _ _ h) ?_
   intro imm08 Body3 x7 p16 c16 cs3 p17 c17 heq le8 h22 h23
   subst o0
   replace h7 := h7.mono le8
   replace h1 := h1.mono le8
   replace h2 := h2.mono le8
   replace hle := hle.trans le8
   exact T_block_here <| T_block_normal <| T_seq <| J_region <| R_z [] [(5, vI (W (k0 - 1)))] <| T_loop <| J_w [(0, vP r01 0), (2, vP b 0), (3, vI i), (4, vP b1 0), (5, vI (W (k0 - 1)))] <| ih (W (k0 - 1)) Body3 x7 _ hM hle h7 h1 h2 h22 h23 hg ho hx
 · intro hc1 hM
   exact J_exit <| T_then_exit <| T_then_exit <| T_w [(0, vP r01 0), (2, vP b 0), (3, vI i), (4, vP b1 0)] <| hx _ _ _ _ _ _ _ _ (pure_some hM).symm hle h16 h17
def M.spec_l4Body_l1 (x : impl_Part) (i : Int) (x1 : spec_l16Rd) : Option (Out (impl_Part × spec_l16Rd) (impl_Part × spec_l16Rd)) := do
 if (decide (i < 4)) then
  let (y1, y2) ← M.spec_l2Nest x1
  let (y4, y5) ← M.spec_l16Rd_num y2 ([1, 2, 1, 3] : List Int)
  let (Body1, x5) ← M.spec_l4Body_l2 y1 y4 ([] : List impl_Stmt) y5
  let y13 ← M.spec_l4Some
  let (y15, y16) ← M.spec_l4Part y13 (impl_Part.mk y1 Body1)
  let t66 ← (do
    if y16 then
     pure (decide (y15 ≤ 40))
    else
     pure false
      : Option Bool)
  if t66 then
   pure (.ret ((impl_Part.mk y1 Body1), x5))
  else
   M.spec_l4Body_l1 x (W (i + 1)) x5
 else
  pure (.done (x, x1))
 partial_fixpoint
theorem spec_l4Body_l1_ok (x : impl_Part) : ∀ (i : Int) (x1 : spec_l16Rd) (o : Out (impl_Part × spec_l16Rd) (impl_Part × spec_l16Rd)), M.spec_l4Body_l1 x i x1 = some o → ∀ {B : Base} {imm0 imm : Imm} {Q : Exit → Act → World → Prop}  {r01 : Nat} {b : Nat} {p1 : Option Addr} {c1 : Nat} {p2 : Option Addr} {c2 : Nat} {p3 : Option Addr} {c3 : Nat}, imm0.le imm → (SL imm (vS p1 x.Nest c1) x.Nest) → (SL imm (vS p2 x.Body c2) x.Body) → (SL imm (vS p3 x1.b c3) x1.b) → (∀ l a w, ¬ Q (.goto l) a w) → (∀ a w, ¬ Q .outgrown a w) → (∀ (imm' : Imm) (x2 : impl_Part) (x3 : spec_l16Rd) (p4 : Option Addr) (c4 : Nat) (p5 : Option Addr) (c5 : Nat) (p6 : Option Addr) (c6 : Nat), o = (.done (x2, x3)) → imm0.le imm' → (SL imm' (vS p4 x2.Nest c4) x2.Nest) → (SL imm' (vS p5 x2.Body c5) x2.Body) → (SL imm' (vS p6 x3.b c6) x3.b) → T 81 B Q (.exit 0) imm' [hB b [vS p4 x2.Nest c4, vS p5 x2.Body c5], hB r01 [vS p6 x3.b c6, vI x3.p]] [(2, vP b 0)]) → (∀ r imm' hs' m', o = (.ret r) → imm0.le imm' → RS Try.prog Try.f48 B (spec_l4Body_post r01 r) imm' hs' m' → T 81 B Q .ret imm' hs' m') → J Try.prog 81 B (nav (bodyOf Try.f48) [1, 0, 1, 0]) Q imm [hB b [vS p1 x.Nest c1, vS p2 x.Body c2], hB r01 [vS p3 x1.b c3, vI x1.p]] [(0, vP r01 0), (2, vP b 0), (3, vI i)] := by
 refine M.spec_l4Body_l1.partial_correctness x _ ?_
 intro self ih i x1 o hM B imm0 imm Q r01 b p1 c1 p2 c2 p3 c3 hle h1 h2 h3 hg ho hx hr
 refine J_loop hg ho <| J_seq <| J_seq <| J_region <| R_z [] [(17, .bool (decide (i < 4)))] <| T_seq <| J_cd hM ?_ ?_
 · intro hc hM
   refine J_skip <| T_seq <| J_seq <| J_block <| J_seq <| J_region <| R_d 1 [] [(20, vP r01 0)] <| R_hs (good_pick [1, 0] (hs' := [hB r01 [vS p3 x1.b c3, vI x1.p], hB b [vS p1 x.Nest c1, vS p2 x.Body c2]]) rfl (by decide)) ?_
   obtain ⟨⟨y1, y2⟩, hy, hM⟩ := bind_some hM
   refine R_call (hs1 := [hB r01 [vS p3 x1.b c3, vI x1.p]]) (rest := [hB b [vS p1 x.Nest c1, vS p2 x.Body c2]]) rfl rfl rfl rfl (by kernel_rfl) rfl rfl (spec_l2Nest_ok x1 _ hy h3) ?_
   rintro imm0 hs2 v2 k2 le - ⟨v0, kk, rfl, rfl, h7, h8⟩ -
   replace h1 := h1.mono le
   replace h2 := h2.mono le
   replace hle := hle.trans le
   obtain ⟨p7, c7, rfl⟩ := h7.form
   obtain ⟨v01, rfl, h9⟩ := spec_l16Rd_open h8
   obtain ⟨p8, c8, rfl⟩ := h9.form
   refine R_d 3 [] [(22, vA [vS p7 y1 c7, .slice none 0 0])] <| R_alloc (c := ⟨[.slice none 0 0, .slice none 0 0]⟩) rfl rfl rfl (by kernel_rfl) ?_
   intro b1 hb1
   refine R_sb 0 [vS p7 y1 c7, .slice none 0 0] [hB b1 [vS p7 y1 c7, .slice none 0 0], hB r01 [vS p8 y2.b c8, vI y2.p], hB b [vS p1 x.Nest c1, vS p2 x.Body c2]] rfl rfl rfl rfl <| R_end rfl <| T_seq <| J_seq <| J_seq <| J_region <| R_d 1 [] [(23, vP r01 0)] <| R_buildSlice (cs := [vI 1, vI 2, vI 1, vI 3]) (Rp.sz Int) rfl rfl rfl rfl (by kernel_rfl) (by kernel_rfl) ?_
   intro b2 hb2
   have h10 : RL imm0 [vI 1, vI 2, vI 1, vI 3] ([1, 2, 1, 3] : List Int) := ⟨[vI 1], _, rfl, rfl, rfl, ⟨[vI 2], _, rfl, rfl, rfl, ⟨[vI 1], _, rfl, rfl, rfl, ⟨[vI 3], _, rfl, rfl, rfl, rfl⟩⟩⟩⟩
   refine R_freeze 0 rfl ?_
   intro imm01 le1 hl0
   have h11 := SL.of_frozen hl0 le1 h10
   replace h7 := h7.mono le1
   replace h9 := h9.mono le1
   replace h1 := h1.mono le1
   replace h2 := h2.mono le1
   replace hle := hle.trans le1
   refine R_hs (good_pick [1, 0, 2] (hs' := [hB r01 [vS p8 y2.b c8, vI y2.p], hB b1 [vS p7 y1 c7, .slice none 0 0], hB b [vS p1 x.Nest c1, vS p2 x.Body c2]]) rfl (by decide)) ?_
   obtain ⟨⟨y4, y5⟩, hy1, hM⟩ := bind_some hM
   refine R_call (hs1 := [hB r01 [vS p8 y2.b c8, vI y2.p]]) (rest := [hB b1 [vS p7 y1 c7, .slice none 0 0], hB b [vS p1 x.Nest c1, vS p2 x.Body c2]]) rfl rfl rfl rfl (by kernel_rfl) rfl rfl (spec_l16Rd_num_ok y2 ([1, 2, 1, 3] : List Int) _ hy1 h9 h11) ?_
   rintro imm02 hs2 v2 k2 le2 - ⟨v02, kk1, rfl, rfl, rfl, h13⟩ -
   replace h7 := h7.mono le2
   replace h1 := h1.mono le2
   replace h2 := h2.mono le2
   replace hle := hle.trans le2
   obtain ⟨v03, rfl, h14⟩ := spec_l16Rd_open h13
   obtain ⟨p9, c9, rfl⟩ := h14.form
   refine R_z [] [(5, vI y4)] <| T_seq <| J_block <| J_w [(0, vP r01 0), (2, vP b 0), (3, vI i), (4, vP b1 0), (5, vI y4)] <| J_hs (good_nil (Rp.sz impl_Stmt)) ?_
   have h15 : RL imm02 [] ([] : List impl_Stmt) := RepL.nil
   obtain ⟨o01, ho01, hM⟩ := bind_some hM
   refine spec_l4Body_l2_ok y1 y4 ([] : List impl_Stmt) y5 o01 ho01 (Imm.le.refl _) h7 h1 h2 h15 h14 (fun _ _ _ h => hg _ _ _ h) (fun _ _ h => ho _ _ h) ?_
   intro imm09 Body1 x5 p12 c12 cs1 p13 c13 heq1 le9 h18 h19
   subst o01
   replace h7 := h7.mono le9
   replace h1 := h1.mono le9
   replace h2 := h2.mono le9
   replace hle := hle.trans le9
   refine T_block_here <| T_seq <| J_seq <| J_freeze 0 rfl ?_
   intro imm010 le10 hl02
   have h38 := SL.of_frozen hl02 le10 h18
   replace h19 := h19.mono le10
   replace h7 := h7.mono le10
   replace h1 := h1.mono le10
   replace h2 := h2.mono le10
   replace hle := hle.trans le10
   obtain ⟨y13, hy6, hM⟩ := bind_some hM
   obtain ⟨⟨y15, y16⟩, hy7, hM⟩ := bind_some hM
   refine J_any [.x (fun imm' v hx => ∃ (p25 : Option Addr) (c25 : Nat), v = vS p25 y13 c25 ∧ hx = [] ∧ (SL imm' (vS p25 y13 c25) y13)), .p (vA [vS p7 y1 c7, vS p12 Body1 c12]) [1], .q (.tuple ⟨[vI y15, .bool y16]⟩), .p (.tuple ⟨[vI y15, .bool y16]⟩) [], .p (vI y15) [], .p (.bool y16) [], .p (vI y15) []] [[], [], [(0, false), (1, false)], [(2, false)], [(3, false)], [(3, false)], [(4, false)]] [hB r01 [vS p13 x5.b c13, vI x5.p], hB b1 [vS p7 y1 c7, vS p12 Body1 c12], hB b [vS p1 x.Nest c1, vS p2 x.Body c2]] [] [(5, false), (6, false)] (good_pick [0, 1, 2] rfl (by decide)) ?_ ?_
   · refine Ox ?_ <| Op <| Oq ?_ <| Op <| Op <| Op <| Op <| On
     · intro imm1 hf le1
       refine Ins_nil <| R_isw (hB r01 [vS p13 x5.b c13, vI x5.p] :: hB b1 [vS p7 y1 c7, vS p12 Body1 c12] :: hB b [vS p1 x.Nest c1, vS p2 x.Body c2] :: hf) [] ?_
       have hle := Imm.le.refl imm1
       replace h19 := h19.mono le1
       replace h7 := h7.mono le1
       replace h38 := h38.mono le1
       replace h1 := h1.mono le1
       replace h2 := h2.mono le1
       refine R_call (hs1 := []) (rest := (hB r01 [vS p13 x5.b c13, vI x5.p] :: hB b1 [vS p7 y1 c7, vS p12 Body1 c12] :: hB b [vS p1 x.Nest c1, vS p2 x.Body c2] :: hf)) rfl rfl rfl rfl (by kernel_rfl) rfl rfl (spec_l4Some_ok  _ hy6 ) ?_
       rintro imm011 hs2 v2 k2 le11 - ⟨v013, rfl, rfl, h39⟩ -
       replace h19 := h19.mono le11
       replace h7 := h7.mono le11
       replace h38 := h38.mono le11
       replace h1 := h1.mono le11
       replace h2 := h2.mono le11
       replace hle := hle.trans le11
       obtain ⟨p25, c25, rfl⟩ := h39.form
       exact R_out (hx := []) rfl hle rfl (out_some rfl) ⟨_, _, rfl, rfl, h39⟩
     · intro imm1 hf le1
       refine Ins_cons ?_
       rintro _ _ ⟨p25, c25, rfl, rfl, h39⟩
       refine Ins_cons ?_
       rintro _ _ ⟨rfl, rfl⟩
       refine Ins_nil <| R_isw (hB r01 [vS p13 x5.b c13, vI x5.p] :: hB b1 [vS p7 y1 c7, vS p12 Body1 c12] :: hB b [vS p1 x.Nest c1, vS p2 x.Body c2] :: hf) [(57, vS p25 y13 c25), (58, vA [vS p7 y1 c7, vS p12 Body1 c12])] ?_
       have hle := Imm.le.refl imm1
       replace h19 := h19.mono le1
       replace h7 := h7.mono le1
       replace h38 := h38.mono le1
       replace h1 := h1.mono le1
       replace h2 := h2.mono le1
       refine R_call (hs1 := []) (rest := (hB r01 [vS p13 x5.b c13, vI x5.p] :: hB b1 [vS p7 y1 c7, vS p12 Body1 c12] :: hB b [vS p1 x.Nest c1, vS p2 x.Body c2] :: hf)) rfl rfl rfl rfl (by kernel_rfl) rfl rfl (spec_l4Part_ok y13 (impl_Part.mk y1 Body1) _ hy7 h39 h7 h38) ?_
       rintro imm012 hs2 v2 k2 le12 - ⟨v014, v015, rfl, rfl, rfl, rfl⟩ -
       replace h39 := h39.mono le12
       replace h7 := h7.mono le12
       replace h38 := h38.mono le12
       replace h19 := h19.mono le12
       replace h1 := h1.mono le12
       replace h2 := h2.mono le12
       replace hle := hle.trans le12
       exact R_out (hx := []) rfl hle rfl (out_some rfl) ⟨rfl, rfl⟩
   · intro imm013 le13
     refine Ins_cons ?_
     rintro _ _ ⟨rfl, rfl⟩
     refine Ins_cons ?_
     rintro _ _ ⟨rfl, rfl⟩
     refine Ins_nil <| R_isw [hB r01 [vS p13 x5.b c13, vI x5.p], hB b1 [vS p7 y1 c7, vS p12 Body1 c12], hB b [vS p1 x.Nest c1, vS p2 x.Body c2]] [(0, vP r01 0), (2, vP b 0), (3, vI i), (4, vP b1 0), (10, vI y15), (61, .bool y16)] ?_
     replace h19 := h19.mono le13
     replace h7 := h7.mono le13
     replace h38 := h38.mono le13
     replace h1 := h1.mono le13
     replace h2 := h2.mono le13
     replace hle := hle.trans le13
     refine R_z [] [(11, .bool y16)] <| T_seq <| J_seq ?_
     obtain ⟨o02, ho02, hM⟩ := bind_some hM
     refine J_cut (fun imm' hs' m' => ∃ (t66 : Bool), o02 = t66 ∧ imm013.le imm' ∧ hs' = [hB r01 [vS p13 x5.b c13, vI x5.p], hB b1 [vS p7 y1 c7, vS p12 Body1 c12], hB b [vS p1 x.Nest c1, vS p2 x.Body c2]] ∧ m' = [(0, vP r01 0), (2, vP b 0), (3, vI i), (4, vP b1 0), (66, .bool t66)]) ?_ ?_
     · have hle0 := hle
       have hle : imm013.le imm013 := Imm.le.refl _
       refine J_region <| R_d 2 [] [(63, .bool y16)] ?_
       cases hc4 : y16 with
       | true =>
        have hM0 := if_some_true hc4 ho02
        try rw [hc4]
        exact R_z [] [(66, .bool (decide (y15 ≤ 40)))] <| T_w [(0, vP r01 0), (2, vP b 0), (3, vI i), (4, vP b1 0), (66, .bool (decide (y15 ≤ 40)))] <| T_cut ⟨_, (pure_some hM0).symm, hle, rfl, rfl⟩
       | false =>
        have hM01 := if_some_false hc4 ho02
        try rw [hc4]
        exact R_z [] [(66, .bool false)] <| T_w [(0, vP r01 0), (2, vP b 0), (3, vI i), (4, vP b1 0), (66, .bool false)] <| T_cut ⟨_, (pure_some hM01).symm, hle, rfl, rfl⟩
     · rintro imm014 hs2 m2 ⟨t66, heq2, le14, rfl, rfl⟩
       subst o02
       replace h19 := h19.mono le14
       replace h7 := h7.mono le14
       replace h38 := h38.mono le14
       replace h1 := h1.mono le14
       replace h2 := h2.mono le14
       replace hle := hle.trans le14
       refine T_seq <| J_cd hM ?_ ?_
       · intro hc5 hM
         exact J_seq <| J_region <| R_d 1 [1] [(67, vA [vS p7 y1 c7, vS p12 Body1 c12])] <| R_sb 2 [vS p7 y1 c7, vS p12 Body1 c12] [hB r01 [vS p13 x5.b c13, vI x5.p], hB b1 [vS p7 y1 c7, vS p12 Body1 c12], hB b [vS p7 y1 c7, vS p12 Body1 c12]] rfl rfl rfl rfl <| R_end rfl <| T_seq <| J_ret <| T_block_ret <| T_then_ret <| T_then_ret <| hr _ _ _ _ (pure_some hM).symm hle ⟨_, _, (.cell 2 rfl rfl (by kernel_rfl) ResV.nil), (good_pick [0] rfl (by decide)), ⟨_, _, rfl, rfl, ⟨_, rfl, (impl_Part_shut ⟨_, _, rfl, h7, h38⟩)⟩, (spec_l16Rd_shut ⟨_, rfl, h19⟩)⟩⟩
       · intro hc5 hM
         exact J_skip <| T_block_normal <| T_seq <| J_region <| R_z [] [(3, vI (W (i + 1)))] <| T_loop <| J_hs (good_pick [2, 0] rfl (by decide)) <| J_w [(0, vP r01 0), (2, vP b 0), (3, vI (W (i + 1)))] <| ih (W (i + 1)) x5 _ hM hle h1 h2 h19 hg ho hx hr
 · intro hc hM
   exact J_exit <| T_then_exit <| T_then_exit <| T_w [(2, vP b 0)] <| hx _ _ _ _ _ _ _ _ _ (pure_some hM).symm hle h1 h2 h3
def M.spec_l4Body (r0 : spec_l16Rd) : Option (impl_Part × spec_l16Rd) := do
 match ← M.spec_l4Body_l1 (impl_Part.mk ([] : List impl_Loop) ([] : List impl_Stmt)) 0 r0 with
 | .ret r0 => pure r0
 | .done (x2, x3) =>
  let (y18, y19) ← M.spec_ParseStmt (⟨[65, 91, 105, 93, 61, 40, 65, 91, 105, 93, 43, 123, 105, 125, 41]⟩ : Str)
  let (y21, y22) ← M.spec_BoxNest ([4] : List Int)
  pure ((impl_Part.mk y21 ([y18] : List impl_Stmt)), x3)
theorem spec_l4Body_ok : ∀ (r0 : spec_l16Rd) r, M.spec_l4Body r0 = some r → ∀ {imm : Imm} {r01 : Nat} {p : Option Addr} {c : Nat}, (SL imm (vS p r0.b c) r0.b) → Ret Try.prog 48 [vP r01 0] imm [hB r01 [vS p r0.b c, vI r0.p]] (spec_l4Body_post r01 r) := by
 intro r0 r hM imm r01 p c h
 unfold M.spec_l4Body at hM
 refine ret_of_J (fn := Try.f48) (c := (bodyOf Try.f48)) Try.func48 rfl rfl ?_
 rintro B - -
 have hle : imm.le imm := Imm.le.refl _
 refine J_seq <| J_region <| R_alloc (c := ⟨[.slice none 0 0, .slice none 0 0]⟩) rfl rfl rfl (by kernel_rfl) ?_
 intro b hb
 refine R_end rfl <| T_seq <| J_seq <| J_seq <| J_region <| R_z [] [(3, vI 0)] <| T_seq <| J_block <| J_w [(0, vP r01 0), (2, vP b 0), (3, vI 0)] ?_
 obtain ⟨o03, ho03, hM⟩ := bind_some hM
 refine spec_l4Body_l1_ok (impl_Part.mk ([] : List impl_Loop) ([] : List impl_Stmt)) 0 r0 o03 ho03 (Imm.le.refl _) (SL.nil _) (SL.nil _) h (fun _ _ _ h => h) (fun _ _ h => h) ?_ ?_
 · intro imm015 x2 x3 p4 c4 p5 c5 p6 c6 heq3 le15 h4 h5 h6
   subst o03
   replace hle := hle.trans le15
   refine T_block_here <| T_seq <| J_seq <| J_region ?_
   obtain ⟨⟨y18, y19⟩, hy8, hM⟩ := bind_some hM
   refine R_call (hs1 := []) (rest := [hB b [vS p4 x2.Nest c4, vS p5 x2.Body c5], hB r01 [vS p6 x3.b c6, vI x3.p]]) rfl rfl rfl rfl (by kernel_rfl) rfl rfl (spec_ParseStmt_ok (⟨[65, 91, 105, 93, 61, 40, 65, 91, 105, 93, 43, 123, 105, 125, 41]⟩ : Str) _ hy8 ) ?_
   rintro imm016 hs2 v2 k2 le16 - ⟨v016, v017, rfl, rfl, ⟨cs6, rfl, h42⟩, rfl⟩ -
   replace h4 := h4.mono le16
   replace h5 := h5.mono le16
   replace h6 := h6.mono le16
   replace hle := hle.trans le16
   obtain ⟨v018, v019, v020, v021, rfl, h44, h45, h46, h47⟩ := impl_Stmt_open h42
   obtain ⟨p26, c26, rfl⟩ := h44.form
   obtain ⟨p27, c27, rfl⟩ := h45.form
   obtain ⟨p28, c28, rfl⟩ := h46.form
   obtain ⟨p29, c29, rfl⟩ := h47.form
   refine R_d 4 [] [(70, vA [vT y18.Write.Array.l, vS p26 y18.Write.Subs c26, vI y18.Value.Kind, vI y18.Value.Num, vS p27 y18.Value.Index.Coefs c27, vI y18.Value.Index.Const, vT y18.Value.Read.Array.l, vS p28 y18.Value.Read.Subs c28, vS p29 y18.Value.Kids c29]), (71, .bool y19)] <| R_alloc (c := ⟨[vT ([]), .slice none 0 0, vI 0, vI 0, .slice none 0 0, vI 0, vT ([]), .slice none 0 0, .slice none 0 0]⟩) rfl rfl rfl (by kernel_rfl) ?_
   intro b6 hb6
   refine R_sb 0 [vT y18.Write.Array.l, vS p26 y18.Write.Subs c26, vI y18.Value.Kind, vI y18.Value.Num, vS p27 y18.Value.Index.Coefs c27, vI y18.Value.Index.Const, vT y18.Value.Read.Array.l, vS p28 y18.Value.Read.Subs c28, vS p29 y18.Value.Kids c29] [hB b6 [vT y18.Write.Array.l, vS p26 y18.Write.Subs c26, vI y18.Value.Kind, vI y18.Value.Num, vS p27 y18.Value.Index.Coefs c27, vI y18.Value.Index.Const, vT y18.Value.Read.Array.l, vS p28 y18.Value.Read.Subs c28, vS p29 y18.Value.Kids c29], hB b [vS p4 x2.Nest c4, vS p5 x2.Body c5], hB r01 [vS p6 x3.b c6, vI x3.p]] rfl rfl rfl rfl <| R_z [] [] <| T_seq <| J_seq <| J_region <| R_buildSlice (cs := [vI 4]) (Rp.sz Int) rfl rfl rfl rfl (by kernel_rfl) (by kernel_rfl) ?_
   intro b7 hb7
   have h48 : RL imm016 [vI 4] ([4] : List Int) := ⟨[vI 4], _, rfl, rfl, rfl, rfl⟩
   refine R_freeze 0 rfl ?_
   intro imm017 le17 hl03
   have h49 := SL.of_frozen hl03 le17 h48
   replace h44 := h44.mono le17
   replace h45 := h45.mono le17
   replace h46 := h46.mono le17
   replace h47 := h47.mono le17
   replace h4 := h4.mono le17
   replace h5 := h5.mono le17
   replace h6 := h6.mono le17
   replace hle := hle.trans le17
   obtain ⟨⟨y21, y22⟩, hy9, hM⟩ := bind_some hM
   refine R_call (hs1 := []) (rest := [hB b6 [vT y18.Write.Array.l, vS p26 y18.Write.Subs c26, vI y18.Value.Kind, vI y18.Value.Num, vS p27 y18.Value.Index.Coefs c27, vI y18.Value.Index.Const, vT y18.Value.Read.Array.l, vS p28 y18.Value.Read.Subs c28, vS p29 y18.Value.Kids c29], hB b [vS p4 x2.Nest c4, vS p5 x2.Body c5], hB r01 [vS p6 x3.b c6, vI x3.p]]) rfl rfl rfl rfl (by kernel_rfl) rfl rfl (spec_BoxNest_ok ([4] : List Int) _ hy9 h49) ?_
   rintro imm018 hs2 v2 k2 le18 - ⟨v022, v023, rfl, rfl, h50, rfl⟩ -
   replace h44 := h44.mono le18
   replace h45 := h45.mono le18
   replace h46 := h46.mono le18
   replace h47 := h47.mono le18
   replace h4 := h4.mono le18
   replace h5 := h5.mono le18
   replace h6 := h6.mono le18
   replace hle := hle.trans le18
   obtain ⟨p30, c30, rfl⟩ := h50.form
   refine R_z [] [(14, vS p30 y21 c30)] <| T_seq <| J_seq <| J_region <| R_d 2 [0] [(77, vS p30 y21 c30), (78, vA [vT y18.Write.Array.l, vS p26 y18.Write.Subs c26, vI y18.Value.Kind, vI y18.Value.Num, vS p27 y18.Value.Index.Coefs c27, vI y18.Value.Index.Const, vT y18.Value.Read.Array.l, vS p28 y18.Value.Read.Subs c28, vS p29 y18.Value.Kids c29])] <| R_buildSlice (cs := [vT y18.Write.Array.l, vS p26 y18.Write.Subs c26, vI y18.Value.Kind, vI y18.Value.Num, vS p27 y18.Value.Index.Coefs c27, vI y18.Value.Index.Const, vT y18.Value.Read.Array.l, vS p28 y18.Value.Read.Subs c28, vS p29 y18.Value.Kids c29]) (Rp.sz impl_Stmt) rfl rfl rfl rfl (by kernel_rfl) (by kernel_rfl) ?_
   intro b8 hb8
   have h52 : RL imm018 [vT y18.Write.Array.l, vS p26 y18.Write.Subs c26, vI y18.Value.Kind, vI y18.Value.Num, vS p27 y18.Value.Index.Coefs c27, vI y18.Value.Index.Const, vT y18.Value.Read.Array.l, vS p28 y18.Value.Read.Subs c28, vS p29 y18.Value.Kids c29] ([y18] : List impl_Stmt) := ⟨[vT y18.Write.Array.l, vS p26 y18.Write.Subs c26, vI y18.Value.Kind, vI y18.Value.Num, vS p27 y18.Value.Index.Coefs c27, vI y18.Value.Index.Const, vT y18.Value.Read.Array.l, vS p28 y18.Value.Read.Subs c28, vS p29 y18.Value.Kids c29], _, rfl, rfl, (impl_Stmt_shut ⟨_, _, _, _, rfl, h44, h45, h46, h47⟩), rfl⟩
   refine R_d 4 [] [(80, vA [vS p30 y21 c30, vS (some ⟨b8, 0, none⟩) ([y18] : List impl_Stmt) 1])] <| R_sb 2 [vS p30 y21 c30, vS (some ⟨b8, 0, none⟩) ([y18] : List impl_Stmt) 1] [hO impl_Stmt (vS (some ⟨b8, 0, none⟩) ([y18] : List impl_Stmt) 1) [vT y18.Write.Array.l, vS p26 y18.Write.Subs c26, vI y18.Value.Kind, vI y18.Value.Num, vS p27 y18.Value.Index.Coefs c27, vI y18.Value.Index.Const, vT y18.Value.Read.Array.l, vS p28 y18.Value.Read.Subs c28, vS p29 y18.Value.Kids c29], hB b6 [vT y18.Write.Array.l, vS p26 y18.Write.Subs c26, vI y18.Value.Kind, vI y18.Value.Num, vS p27 y18.Value.Index.Coefs c27, vI y18.Value.Index.Const, vT y18.Value.Read.Array.l, vS p28 y18.Value.Read.Subs c28, vS p29 y18.Value.Kids c29], hB b [vS p30 y21 c30, vS (some ⟨b8, 0, none⟩) ([y18] : List impl_Stmt) 1], hB r01 [vS p6 x3.b c6, vI x3.p]] rfl rfl rfl rfl <| R_end rfl <| T_seq <| J_ret <| T_freeze 0 rfl ?_
   intro imm019 le19 hl04
   have h53 := SL.of_frozen hl04 le19 h52
   replace h44 := h44.mono le19
   replace h45 := h45.mono le19
   replace h46 := h46.mono le19
   replace h47 := h47.mono le19
   replace h50 := h50.mono le19
   replace h6 := h6.mono le19
   replace hle := hle.trans le19
   obtain rfl := pure_some hM
   exact T_RS ⟨_, _, (.cell 1 rfl rfl (by kernel_rfl) ResV.nil), (good_pick [2] rfl (by decide)), ⟨_, _, rfl, rfl, ⟨_, rfl, (impl_Part_shut ⟨_, _, rfl, h50, h53⟩)⟩, (spec_l16Rd_shut ⟨_, rfl, h6⟩)⟩⟩
 · intro r0 imm9 hs9 m9 heq9 le9 hrs9
   subst heq9
   refine T_block_ret <| T_then_ret ?_
   obtain rfl := pure_some hM
   exact T_RS hrs9
def spec_l4Draw_post (b0 : Nat) (r : impl_Program × spec_l16Rd) : Nat → Imm → List HA → Value → Prop := fun kk imm' hs' v =>
  ∃ (v0 : Value) (k0 : List Value), hs' = [.blk b0 ⟨k0⟩] ∧ v = tupV [v0] ∧ (∃ cs, v0 = .agg ⟨cs⟩ ∧ Rp.rep imm' cs r.1) ∧ Rp.rep imm' k0 r.2
def M.spec_l4Draw_l1 (i : Int) (Parts : List impl_Part) (x : spec_l16Rd) : Option ((List impl_Part × spec_l16Rd)) := do
 if (decide (i > 0)) then
  let (y5, y6) ← M.spec_l4Body x
  let l ← app 48 Parts ([y5] : List impl_Part)
  M.spec_l4Draw_l1 (W (i - 1)) l y6
 else
  pure (Parts, x)
 partial_fixpoint
theorem spec_l4Draw_l1_ok  : ∀ (i : Int) (Parts : List impl_Part) (x : spec_l16Rd) (o : (List impl_Part × spec_l16Rd)), M.spec_l4Draw_l1 i Parts x = some o → ∀ {B : Base} {imm0 imm : Imm} {Q : Exit → Act → World → Prop} {y : (List impl_Array)} {r01 : Nat} {b : Nat} {p1 : Option Addr} {c1 : Nat} {b1 : Nat} {p3 : Option Addr} {c3 : Nat} {cs : List Value} {p4 : Option Addr} {c4 : Nat}, imm0.le imm → (SL imm (vS p1 y c1) y) → (RL imm cs Parts) → (SL imm (vS p4 x.b c4) x.b) → (∀ l a w, ¬ Q (.goto l) a w) → (∀ a w, ¬ Q .outgrown a w) → (∀ (imm' : Imm) (Parts1 : List impl_Part) (x1 : spec_l16Rd) (p5 : Option Addr) (c5 : Nat) (cs1 : List Value) (p6 : Option Addr) (c6 : Nat), o = (Parts1, x1) → imm0.le imm' → (RL imm' cs1 Parts1) → (SL imm' (vS p6 x1.b c6) x1.b) → T 29 B Q (.exit 0) imm' [hO impl_Part (vS p5 Parts1 c5) cs1, hB r01 [vS p6 x1.b c6, vI x1.p], hB b1 [vS p1 y c1, vS p5 Parts1 c5], hB b [.slice none 0 0, .slice none 0 0]] [(2, vP b 0), (3, vP b1 0)]) → J Try.prog 29 B (nav (bodyOf Try.f39) [1, 1, 0, 1, 0]) Q imm [hO impl_Part (vS p3 Parts c3) cs, hB r01 [vS p4 x.b c4, vI x.p], hB b1 [vS p1 y c1, vS p3 Parts c3], hB b [.slice none 0 0, .slice none 0 0]] [(0, vP r01 0), (2, vP b 0), (3, vP b1 0), (4, vI i)] := by
 refine M.spec_l4Draw_l1.partial_correctness  _ ?_
 intro self ih i Parts x o hM B imm0 imm Q y r01 b p1 c1 b1 p3 c3 cs p4 c4 hle h1 h8 h9 hg ho hx
 refine J_loop hg ho <| J_seq <| J_seq <| J_region <| R_z [] [(11, .bool (decide (i > 0)))] <| T_seq <| J_cd hM ?_ ?_
 · intro hc hM
   refine J_skip <| T_seq <| J_seq <| J_block ?_
   obtain ⟨⟨y5, y6⟩, hy2, hM⟩ := bind_some hM
   obtain ⟨l, hy3, hM⟩ := bind_some hM
   refine J_any [.p (vP b1 1) [], .p (vS p3 Parts c3) [0], .p (vP r01 0) [], .x (fun imm' v hx => ∃ (p7 : Option Addr) (c7 : Nat) (p8 : Option Addr) (c8 : Nat) (p9 : Option Addr) (c9 : Nat), v = vA [vS p7 y5.Nest c7, vS p8 y5.Body c8] ∧ hx = [hB r01 [vS p9 y6.b c9, vI y6.p]] ∧ (SL imm' (vS p7 y5.Nest c7) y5.Nest) ∧ (SL imm' (vS p8 y5.Body c8) y5.Body) ∧ (SL imm' (vS p9 y6.b c9) y6.b)), .x (fun imm' v hx => ∃ (b3 : Nat), v = vS (some ⟨b3, 0, none⟩) ([y5] : List impl_Part) 1 ∧ hx = [] ∧ (SL imm' (vS (some ⟨b3, 0, none⟩) ([y5] : List impl_Part) 1) ([y5] : List impl_Part))), .x (fun imm' v hx => ∃ (p10 : Option Addr) (c10 : Nat) (cs3 : List Value), v = vS p10 l c10 ∧ hx = [hO impl_Part (vS p10 l c10) cs3] ∧ (RL imm' cs3 l))] [[], [(0, false)], [], [(2, false), (8, true)], [(3, false)], [(1, false), (4, false), (9, true)]] [hB b1 [vS p1 y c1, vS p3 Parts c3], hB b [.slice none 0 0, .slice none 0 0]] [[hB r01 [vS p4 x.b c4, vI x.p]], [hO impl_Part (vS p3 Parts c3) cs]] [(3, true), (5, true)] (good_pick [2, 3, 1, 0] rfl (by decide)) ?_ ?_
   · refine Op <| Op <| Op <| Ox ?_ <| Ox ?_ <| Ox ?_ <| On
     · intro imm1 hf le1
       refine Ins_cons ?_
       rintro _ _ ⟨rfl, rfl⟩
       refine Ins_cons ?_
       rintro _ _ rfl
       refine Ins_nil <| R_isw (hB r01 [vS p4 x.b c4, vI x.p] :: hB b1 [vS p1 y c1, vS p3 Parts c3] :: hB b [.slice none 0 0, .slice none 0 0] :: hf) [(16, vP r01 0)] ?_
       have hle := Imm.le.refl imm1
       replace h8 := RepL.mono (fun _ _ => Rp.mono le1) h8
       replace h9 := h9.mono le1
       replace h1 := h1.mono le1
       refine R_call (hs1 := [hB r01 [vS p4 x.b c4, vI x.p]]) (rest := (hB b1 [vS p1 y c1, vS p3 Parts c3] :: hB b [.slice none 0 0, .slice none 0 0] :: hf)) rfl rfl rfl rfl (by kernel_rfl) rfl rfl (spec_l4Body_ok x _ hy2 h9) ?_
       rintro imm03 hs2 v2 k2 le3 - ⟨v03, kk1, rfl, rfl, ⟨cs2, rfl, h12⟩, h13⟩ -
       replace h1 := h1.mono le3
       replace h8 := RepL.mono (fun _ _ => Rp.mono le3) h8
       replace hle := hle.trans le3
       obtain ⟨v04, v05, rfl, h14, h15⟩ := impl_Part_open h12
       obtain ⟨p7, c7, rfl⟩ := h14.form
       obtain ⟨p8, c8, rfl⟩ := h15.form
       obtain ⟨v06, rfl, h16⟩ := spec_l16Rd_open h13
       obtain ⟨p9, c9, rfl⟩ := h16.form
       exact R_out (hx := [hB r01 [vS p9 y6.b c9, vI y6.p]]) rfl hle rfl (out_some rfl) ⟨_, _, _, _, _, _, rfl, rfl, h14, h15, h16⟩
     · intro imm1 hf le1
       refine Ins_cons ?_
       rintro _ _ ⟨p7, c7, p8, c8, p9, c9, rfl, rfl, h14, h15, h16⟩
       refine Ins_nil <| R_isw (hB b1 [vS p1 y c1, vS p3 Parts c3] :: hB b [.slice none 0 0, .slice none 0 0] :: hf) [(17, vA [vS p7 y5.Nest c7, vS p8 y5.Body c8])] ?_
       have hle := Imm.le.refl imm1
       replace h8 := RepL.mono (fun _ _ => Rp.mono le1) h8
       replace h1 := h1.mono le1
       refine R_buildSlice (cs := [vS p7 y5.Nest c7, vS p8 y5.Body c8]) (Rp.sz impl_Part) rfl rfl rfl rfl (by kernel_rfl) (by kernel_rfl) ?_
       intro b3 hb3
       have h17 : RL imm1 [vS p7 y5.Nest c7, vS p8 y5.Body c8] ([y5] : List impl_Part) := ⟨[vS p7 y5.Nest c7, vS p8 y5.Body c8], _, rfl, rfl, (impl_Part_shut ⟨_, _, rfl, h14, h15⟩), rfl⟩
       refine R_freeze 0 rfl ?_
       intro imm04 le4 hl01
       have h18 := SL.of_frozen hl01 le4 h17
       replace h14 := h14.mono le4
       replace h15 := h15.mono le4
       replace h1 := h1.mono le4
       replace h8 := RepL.mono (fun _ _ => Rp.mono le4) h8
       replace hle := hle.trans le4
       exact R_out (hx := []) rfl hle rfl (out_some rfl) ⟨_, rfl, rfl, h18⟩
     · intro imm1 hf le1
       refine Ins_cons ?_
       rintro _ _ ⟨rfl, rfl⟩
       refine Ins_cons ?_
       rintro _ _ ⟨b3, rfl, rfl, h18⟩
       refine Ins_cons ?_
       rintro _ _ rfl
       refine Ins_nil <| R_isw (hO impl_Part (vS p3 Parts c3) cs :: hB b1 [vS p1 y c1, vS p3 Parts c3] :: hB b [.slice none 0 0, .slice none 0 0] :: hf) [(15, vS p3 Parts c3), (18, vS (some ⟨b3, 0, none⟩) ([y5] : List impl_Part) 1)] ?_
       have hle := Imm.le.refl imm1
       replace h8 := RepL.mono (fun _ _ => Rp.mono le1) h8
       obtain ⟨ccs, k0, k01⟩ := h18
       have h18 : SL imm1 (vS (some ⟨b3, 0, none⟩) ([y5] : List impl_Part) 1) ([y5] : List impl_Part) := ⟨_, k0, k01⟩
       refine R_ap 66 2 0 rfl rfl rfl h8 (.inl k0) k01 hy3 ?_
       intro p10 c10 cs3 h19
       exact R_hseq (hs' := (hO impl_Part (vS p10 l c10) cs3 :: hB b1 [vS p1 y c1, vS p3 Parts c3] :: hB b [.slice none 0 0, .slice none 0 0] :: hf)) rfl <| R_out (hx := [hO impl_Part (vS p10 l c10) cs3]) rfl hle rfl (out_some rfl) ⟨_, _, _, rfl, rfl, h19⟩
   · intro imm05 le5
     refine Ins_cons ?_
     rintro _ _ ⟨p7, c7, p8, c8, p9, c9, rfl, rfl, h14, h15, h16⟩
     refine Ins_cons ?_
     rintro _ _ ⟨p10, c10, cs3, rfl, rfl, h19⟩
     refine Ins_nil <| R_isw [hO impl_Part (vS p10 l c10) cs3, hB r01 [vS p9 y6.b c9, vI y6.p], hB b1 [vS p1 y c1, vS p3 Parts c3], hB b [.slice none 0 0, .slice none 0 0]] [(0, vP r01 0), (2, vP b 0), (3, vP b1 0), (4, vI i), (19, vS p10 l c10)] ?_
     replace h1 := h1.mono le5
     replace h8 := RepL.mono (fun _ _ => Rp.mono le5) h8
     replace hle := hle.trans le5
     exact R_d 7 [] [(20, vP b1 1)] <| R_sb 2 [vS p1 y c1, vS p10 l c10] [hO impl_Part (vS p10 l c10) cs3, hB r01 [vS p9 y6.b c9, vI y6.p], hB b1 [vS p1 y c1, vS p10 l c10], hB b [.slice none 0 0, .slice none 0 0]] rfl rfl rfl rfl <| R_end rfl <| T_block_normal <| T_seq <| J_region <| R_z [] [(4, vI (W (i - 1)))] <| T_loop <| J_w [(0, vP r01 0), (2, vP b 0), (3, vP b1 0), (4, vI (W (i - 1)))] <| ih (W (i - 1)) l y6 _ hM hle h1 h19 h16 hg ho hx
 · intro hc hM
   exact J_exit <| T_then_exit <| T_then_exit <| T_w [(2, vP b 0), (3, vP b1 0)] <| hx _ _ _ _ _ _ _ _ (pure_some hM).symm hle h8 h9
def M.spec_l4Draw (r0 : spec_l16Rd) : Option (impl_Program × spec_l16Rd) := do
 let y ← M.spec_l4Some
 let (y2, y3) ← M.spec_l16Rd_num r0 ([1, 2, 1, 3] : List Int)
 let (Parts1, x1) ← M.spec_l4Draw_l1 y2 ([] : List impl_Part) y3
 let y7 ← M.spec_ProgramValid (impl_Program.mk y Parts1)
 if y7 then
  pure ((impl_Program.mk y Parts1), x1)
 else
  let y8 ← M.spec_l4Some
  let l1 ← slc Parts1 0 1
  pure ((impl_Program.mk y8 l1), x1)
theorem spec_l4Draw_ok : ∀ (r0 : spec_l16Rd) r, M.spec_l4Draw r0 = some r → ∀ {imm : Imm} {r01 : Nat} {p : Option Addr} {c : Nat}, (SL imm (vS p r0.b c) r0.b) → Ret Try.prog 39 [vP r01 0] imm [hB r01 [vS p r0.b c, vI r0.p]] (spec_l4Draw_post r01 r) := by
 intro r0 r hM imm r01 p c h
 unfold M.spec_l4Draw at hM
 refine ret_of_J (fn := Try.f39) (c := (bodyOf Try.f39)) Try.func39 rfl rfl ?_
 rintro B - -
 have hle : imm.le imm := Imm.le.refl _
 refine J_seq <| J_region <| R_alloc (c := ⟨[.slice none 0 0, .slice none 0 0]⟩) rfl rfl rfl (by kernel_rfl) ?_
 intro b hb
 refine R_end rfl <| T_seq <| J_seq <| J_region ?_
 obtain ⟨y, hy, hM⟩ := bind_some hM
 refine R_call (hs1 := []) (rest := [hB b [.slice none 0 0, .slice none 0 0], hB r01 [vS p r0.b c, vI r0.p]]) rfl rfl rfl rfl (by kernel_rfl) rfl rfl (spec_l4Some_ok  _ hy ) ?_
 rintro imm0 hs2 v2 k2 le - ⟨v0, rfl, rfl, h1⟩ -
 replace h := h.mono le
 replace hle := hle.trans le
 obtain ⟨p1, c1, rfl⟩ := h1.form
 refine R_d 2 [] [(6, vA [vS p1 y c1, .slice none 0 0])] <| R_alloc (c := ⟨[.slice none 0 0, .slice none 0 0]⟩) rfl rfl rfl (by kernel_rfl) ?_
 intro b1 hb1
 refine R_sb 0 [vS p1 y c1, .slice none 0 0] [hB b1 [vS p1 y c1, .slice none 0 0], hB b [.slice none 0 0, .slice none 0 0], hB r01 [vS p r0.b c, vI r0.p]] rfl rfl rfl rfl <| R_end rfl <| T_seq <| J_seq <| J_seq <| J_region <| R_d 1 [] [(7, vP r01 0)] <| R_buildSlice (cs := [vI 1, vI 2, vI 1, vI 3]) (Rp.sz Int) rfl rfl rfl rfl (by kernel_rfl) (by kernel_rfl) ?_
 intro b2 hb2
 have h2 : RL imm0 [vI 1, vI 2, vI 1, vI 3] ([1, 2, 1, 3] : List Int) := ⟨[vI 1], _, rfl, rfl, rfl, ⟨[vI 2], _, rfl, rfl, rfl, ⟨[vI 1], _, rfl, rfl, rfl, ⟨[vI 3], _, rfl, rfl, rfl, rfl⟩⟩⟩⟩
 refine R_freeze 0 rfl ?_
 intro imm01 le1 hl0
 have h3 := SL.of_frozen hl0 le1 h2
 replace h1 := h1.mono le1
 replace h := h.mono le1
 replace hle := hle.trans le1
 refine R_hs (good_pick [2, 0, 1] (hs' := [hB r01 [vS p r0.b c, vI r0.p], hB b1 [vS p1 y c1, .slice none 0 0], hB b [.slice none 0 0, .slice none 0 0]]) rfl (by decide)) ?_
 obtain ⟨⟨y2, y3⟩, hy1, hM⟩ := bind_some hM
 refine R_call (hs1 := [hB r01 [vS p r0.b c, vI r0.p]]) (rest := [hB b1 [vS p1 y c1, .slice none 0 0], hB b [.slice none 0 0, .slice none 0 0]]) rfl rfl rfl rfl (by kernel_rfl) rfl rfl (spec_l16Rd_num_ok r0 ([1, 2, 1, 3] : List Int) _ hy1 h h3) ?_
 rintro imm02 hs2 v2 k2 le2 - ⟨v01, kk, rfl, rfl, rfl, h5⟩ -
 replace h1 := h1.mono le2
 replace hle := hle.trans le2
 obtain ⟨v02, rfl, h6⟩ := spec_l16Rd_open h5
 obtain ⟨p2, c2, rfl⟩ := h6.form
 refine R_z [] [(4, vI y2)] <| T_seq <| J_block <| J_w [(0, vP r01 0), (2, vP b 0), (3, vP b1 0), (4, vI y2)] <| J_hs (good_nil (Rp.sz impl_Part)) ?_
 have h7 : RL imm02 [] ([] : List impl_Part) := RepL.nil
 obtain ⟨o0, ho0, hM⟩ := bind_some hM
 refine spec_l4Draw_l1_ok y2 ([] : List impl_Part) y3 o0 ho0 (Imm.le.refl _) h1 h7 h6 (fun _ _ _ h => h) (fun _ _ h => h) ?_
 intro imm06 Parts1 x1 p5 c5 cs1 p6 c6 heq le6 h10 h11
 subst o0
 replace h1 := h1.mono le6
 replace hle := hle.trans le6
 refine T_block_here <| T_seq <| J_seq <| J_seq <| J_region <| R_d 1 [2] [(21, vA [vS p1 y c1, vS p5 Parts1 c5])] <| R_freeze 0 rfl ?_
 intro imm07 le7 hl02
 have h20 := SL.of_frozen hl02 le7 h10
 replace h1 := h1.mono le7
 replace h11 := h11.mono le7
 replace hle := hle.trans le7
 obtain ⟨y7, hy4, hM⟩ := bind_some hM
 refine R_call (hs1 := []) (rest := [hB r01 [vS p6 x1.b c6, vI x1.p], hB b1 [vS p1 y c1, vS p5 Parts1 c5], hB b [.slice none 0 0, .slice none 0 0]]) rfl rfl rfl rfl (by kernel_rfl) rfl rfl (spec_ProgramValid_ok (impl_Program.mk y Parts1) _ hy4 h1 h20) ?_
 rintro imm08 hs2 v2 k2 le8 - ⟨v07, rfl, rfl, rfl⟩ -
 replace h11 := h11.mono le8
 replace h1 := h1.mono le8
 replace h20 := h20.mono le8
 replace hle := hle.trans le8
 refine R_end rfl <| T_seq <| J_cd hM ?_ ?_
 · intro hc1 hM
   refine J_seq <| J_region <| R_d 1 [1] [(23, vA [vS p1 y c1, vS p5 Parts1 c5])] <| R_sb 2 [vS p1 y c1, vS p5 Parts1 c5] [hB r01 [vS p6 x1.b c6, vI x1.p], hB b1 [vS p1 y c1, vS p5 Parts1 c5], hB b [vS p1 y c1, vS p5 Parts1 c5]] rfl rfl rfl rfl <| R_end rfl <| T_seq <| J_ret <| T_then_ret ?_
   obtain rfl := pure_some hM
   exact T_RS ⟨_, _, (.cell 2 rfl rfl (by kernel_rfl) ResV.nil), (good_pick [0] rfl (by decide)), ⟨_, _, rfl, rfl, ⟨_, rfl, (impl_Program_shut ⟨_, _, rfl, h1, h20⟩)⟩, (spec_l16Rd_shut ⟨_, rfl, h11⟩)⟩⟩
 · intro hc1 hM
   refine J_skip <| T_seq <| J_seq ?_
   obtain ⟨y8, hy5, hM⟩ := bind_some hM
   obtain ⟨l1, hy6, hM⟩ := bind_some hM
   refine J_any [.x (fun imm' v hx => ∃ (p11 : Option Addr) (c11 : Nat), v = vS p11 y8 c11 ∧ hx = [] ∧ (SL imm' (vS p11 y8 c11) y8)), .p (vP b1 1) [], .p (vS p5 Parts1 c5) [1], .x (fun imm' v hx => ∃ (p12 : Option Addr) (c12 : Nat), v = vS p12 l1 c12 ∧ hx = [] ∧ (SL imm' (vS p12 l1 c12) l1)), .x (fun imm' v hx => ∃ (p111 : Option Addr) (c111 : Nat) (p121 : Option Addr) (c121 : Nat), v = vA [vS p111 y8 c111, vS p121 l1 c121] ∧ hx = [] ∧ (SL imm' (vS p111 y8 c111) y8) ∧ (SL imm' (vS p121 l1 c121) l1))] [[], [], [(1, false)], [(2, false)], [(0, false), (3, false)]] [hB r01 [vS p6 x1.b c6, vI x1.p], hB b1 [vS p1 y c1, vS p5 Parts1 c5], hB b [.slice none 0 0, .slice none 0 0]] [] [(4, false)] (good_pick [0, 1, 2] rfl (by decide)) ?_ ?_
   · refine Ox ?_ <| Op <| Op <| Ox ?_ <| Ox ?_ <| On
     · intro imm1 hf le1
       refine Ins_nil <| R_isw (hB r01 [vS p6 x1.b c6, vI x1.p] :: hB b1 [vS p1 y c1, vS p5 Parts1 c5] :: hB b [.slice none 0 0, .slice none 0 0] :: hf) [] ?_
       have hle := Imm.le.refl imm1
       replace h11 := h11.mono le1
       replace h1 := h1.mono le1
       replace h20 := h20.mono le1
       refine R_call (hs1 := []) (rest := (hB r01 [vS p6 x1.b c6, vI x1.p] :: hB b1 [vS p1 y c1, vS p5 Parts1 c5] :: hB b [.slice none 0 0, .slice none 0 0] :: hf)) rfl rfl rfl rfl (by kernel_rfl) rfl rfl (spec_l4Some_ok  _ hy5 ) ?_
       rintro imm09 hs2 v2 k2 le9 - ⟨v08, rfl, rfl, h22⟩ -
       replace h11 := h11.mono le9
       replace h1 := h1.mono le9
       replace h20 := h20.mono le9
       replace hle := hle.trans le9
       obtain ⟨p11, c11, rfl⟩ := h22.form
       exact R_out (hx := []) rfl hle rfl (out_some rfl) ⟨_, _, rfl, rfl, h22⟩
     · intro imm1 hf le1
       refine Ins_cons ?_
       rintro _ _ ⟨rfl, rfl⟩
       refine Ins_nil <| R_isw (hB r01 [vS p6 x1.b c6, vI x1.p] :: hB b1 [vS p1 y c1, vS p5 Parts1 c5] :: hB b [.slice none 0 0, .slice none 0 0] :: hf) [(26, vS p5 Parts1 c5)] ?_
       have hle := Imm.le.refl imm1
       replace h20 := h20.mono le1
       refine R_sl rfl h20 hy6 ?_
       intro v09 h23
       obtain ⟨p12, c12, rfl⟩ := h23.form
       exact R_out (hx := []) rfl hle rfl (out_some rfl) ⟨_, _, rfl, rfl, h23⟩
     · intro imm1 hf le1
       refine Ins_cons ?_
       rintro _ _ ⟨p11, c11, rfl, rfl, h22⟩
       refine Ins_cons ?_
       rintro _ _ ⟨p12, c12, rfl, rfl, h23⟩
       refine Ins_nil <| R_isw (hB r01 [vS p6 x1.b c6, vI x1.p] :: hB b1 [vS p1 y c1, vS p5 Parts1 c5] :: hB b [.slice none 0 0, .slice none 0 0] :: hf) [(24, vS p11 y8 c11), (27, vS p12 l1 c12)] ?_
       have hle := Imm.le.refl imm1
       exact R_p 5 [(28, vA [vS p11 y8 c11, vS p12 l1 c12])] <| R_out (hx := []) rfl hle rfl (out_some rfl) ⟨_, _, _, _, rfl, rfl, h22, h23⟩
   · intro imm010 le10
     refine Ins_cons ?_
     rintro _ _ ⟨p111, c111, p121, c121, rfl, rfl, h221, h231⟩
     refine Ins_nil <| R_isw [hB r01 [vS p6 x1.b c6, vI x1.p], hB b1 [vS p1 y c1, vS p5 Parts1 c5], hB b [.slice none 0 0, .slice none 0 0]] [(2, vP b 0), (28, vA [vS p111 y8 c111, vS p121 l1 c121])] ?_
     replace h11 := h11.mono le10
     replace h1 := h1.mono le10
     replace h20 := h20.mono le10
     replace hle := hle.trans le10
     refine R_sb 2 [vS p111 y8 c111, vS p121 l1 c121] [hB r01 [vS p6 x1.b c6, vI x1.p], hB b1 [vS p1 y c1, vS p5 Parts1 c5], hB b [vS p111 y8 c111, vS p121 l1 c121]] rfl rfl rfl rfl <| R_end rfl <| T_seq <| J_ret ?_
     obtain rfl := pure_some hM
     exact T_RS ⟨_, _, (.cell 2 rfl rfl (by kernel_rfl) ResV.nil), (good_pick [0] rfl (by decide)), ⟨_, _, rfl, rfl, ⟨_, rfl, (impl_Program_shut ⟨_, _, rfl, h221, h231⟩)⟩, (spec_l16Rd_shut ⟨_, rfl, h11⟩)⟩⟩
def spec_l8Draw_post (b0 : Nat) (r : impl_Program × spec_l16Rd) : Nat → Imm → List HA → Value → Prop := fun kk imm' hs' v =>
  ∃ (v0 : Value) (k0 : List Value), hs' = [.blk b0 ⟨k0⟩] ∧ v = tupV [v0] ∧ (∃ cs, v0 = .agg ⟨cs⟩ ∧ Rp.rep imm' cs r.1) ∧ Rp.rep imm' k0 r.2
def M.spec_l8Draw (r0 : spec_l16Rd) : Option (impl_Program × spec_l16Rd) := do
 let (y1, y2) ← M.spec_l16Rd_of r0 ([(⟨[112, 97, 114, 116, 10, 102, 111, 114, 32, 48, 32, 51, 10, 102, 111, 114, 32, 48, 32, 52, 10, 66, 91, 105, 44, 106, 93, 61, 40, 66, 91, 105, 44, 106, 93, 43, 123, 50, 42, 105, 43, 106, 125, 41, 10]⟩ : Str), (⟨[112, 97, 114, 116, 10, 102, 111, 114, 32, 48, 32, 51, 10, 102, 111, 114, 32, 48, 32, 52, 10, 66, 91, 105, 44, 106, 43, 49, 93, 61, 40, 66, 91, 105, 44, 106, 93, 43, 49, 41, 10]⟩ : Str), (⟨[112, 97, 114, 116, 10, 102, 111, 114, 32, 48, 32, 51, 10, 102, 111, 114, 32, 49, 32, 52, 10, 66, 91, 105, 43, 49, 44, 106, 45, 49, 93, 61, 40, 66, 91, 105, 44, 106, 93, 42, 50, 41, 10]⟩ : Str), (⟨[112, 97, 114, 116, 10, 102, 111, 114, 32, 48, 32, 51, 10, 102, 111, 114, 32, 49, 32, 53, 10, 66, 91, 105, 43, 49, 44, 106, 93, 61, 40, 66, 91, 105, 44, 106, 45, 49, 93, 43, 66, 91, 105, 44, 106, 93, 41, 10, 65, 91, 105, 93, 61, 123, 106, 125, 10]⟩ : Str), (⟨[112, 97, 114, 116, 10, 102, 111, 114, 32, 48, 32, 52, 10, 65, 91, 105, 93, 61, 40, 123, 105, 125, 42, 50, 41, 10, 112, 97, 114, 116, 10, 102, 111, 114, 32, 48, 32, 52, 10, 65, 91, 105, 43, 49, 93, 61, 40, 65, 91, 105, 93, 43, 67, 91, 48, 93, 41, 10]⟩ : Str), (⟨[112, 97, 114, 116, 10, 102, 111, 114, 32, 48, 32, 53, 10, 65, 91, 105, 93, 61, 40, 65, 91, 105, 93, 43, 51, 41, 10, 66, 91, 48, 44, 105, 93, 61, 65, 91, 105, 93, 10]⟩ : Str), (⟨[112, 97, 114, 116, 10, 102, 111, 114, 32, 48, 32, 51, 10, 102, 111, 114, 32, 48, 32, 51, 10, 67, 91, 105, 93, 61, 40, 67, 91, 105, 93, 43, 66, 91, 105, 44, 106, 93, 41, 10, 112, 97, 114, 116, 10, 102, 111, 114, 32, 48, 32, 51, 10, 102, 111, 114, 32, 48, 32, 51, 10, 65, 91, 106, 93, 61, 40, 65, 91, 106, 93, 45, 66, 91, 106, 44, 105, 93, 41, 10]⟩ : Str), (⟨[112, 97, 114, 116, 10, 102, 111, 114, 32, 48, 32, 52, 10, 102, 111, 114, 32, 48, 32, 105, 43, 49, 10, 66, 91, 105, 44, 106, 93, 61, 40, 65, 91, 106, 93, 42, 67, 91, 48, 93, 41, 10]⟩ : Str)] : List Str)
 let s ← cat (⟨[112, 114, 111, 103, 114, 97, 109, 10, 97, 114, 114, 97, 121, 32, 65, 32, 54, 10, 97, 114, 114, 97, 121, 32, 66, 32, 52, 32, 53, 10, 97, 114, 114, 97, 121, 32, 67, 32, 51, 10]⟩ : Str) y1
 let (y4, y5) ← M.spec_ParseProgram s
 let (t20, x) ← (do
   if y5 then
    let (y7, y8) ← M.spec_l16Rd_pick y2 3
    pure ((decide (y7 > 0)), y8)
   else
    pure (false, y2)
     : Option (Bool × spec_l16Rd))
 if t20 then
  pure (y4, x)
 else
  let (y10, y11) ← M.spec_l4Draw x
  pure (y10, y11)
theorem spec_l8Draw_ok : ∀ (r0 : spec_l16Rd) r, M.spec_l8Draw r0 = some r → ∀ {imm : Imm} {r01 : Nat} {p : Option Addr} {c : Nat}, (SL imm (vS p r0.b c) r0.b) → Ret Try.prog 32 [vP r01 0] imm [hB r01 [vS p r0.b c, vI r0.p]] (spec_l8Draw_post r01 r) := by
 intro r0 r hM imm r01 p c h
 unfold M.spec_l8Draw at hM
 refine ret_of_J (fn := Try.f32) (c := (bodyOf Try.f32)) Try.func32 rfl rfl ?_
 rintro B - -
 have hle : imm.le imm := Imm.le.refl _
 refine J_seq <| J_region <| R_alloc (c := ⟨[.slice none 0 0, .slice none 0 0]⟩) rfl rfl rfl (by kernel_rfl) ?_
 intro b hb
 refine R_end rfl <| T_seq <| J_seq <| J_region <| R_d 1 [] [(6, vP r01 0)] <| R_buildSlice (cs := [vT ([112, 97, 114, 116, 10, 102, 111, 114, 32, 48, 32, 51, 10, 102, 111, 114, 32, 48, 32, 52, 10, 66, 91, 105, 44, 106, 93, 61, 40, 66, 91, 105, 44, 106, 93, 43, 123, 50, 42, 105, 43, 106, 125, 41, 10]), vT ([112, 97, 114, 116, 10, 102, 111, 114, 32, 48, 32, 51, 10, 102, 111, 114, 32, 48, 32, 52, 10, 66, 91, 105, 44, 106, 43, 49, 93, 61, 40, 66, 91, 105, 44, 106, 93, 43, 49, 41, 10]), vT ([112, 97, 114, 116, 10, 102, 111, 114, 32, 48, 32, 51, 10, 102, 111, 114, 32, 49, 32, 52, 10, 66, 91, 105, 43, 49, 44, 106, 45, 49, 93, 61, 40, 66, 91, 105, 44, 106, 93, 42, 50, 41, 10]), vT ([112, 97, 114, 116, 10, 102, 111, 114, 32, 48, 32, 51, 10, 102, 111, 114, 32, 49, 32, 53, 10, 66, 91, 105, 43, 49, 44, 106, 93, 61, 40, 66, 91, 105, 44, 106, 45, 49, 93, 43, 66, 91, 105, 44, 106, 93, 41, 10, 65, 91, 105, 93, 61, 123, 106, 125, 10]), vT ([112, 97, 114, 116, 10, 102, 111, 114, 32, 48, 32, 52, 10, 65, 91, 105, 93, 61, 40, 123, 105, 125, 42, 50, 41, 10, 112, 97, 114, 116, 10, 102, 111, 114, 32, 48, 32, 52, 10, 65, 91, 105, 43, 49, 93, 61, 40, 65, 91, 105, 93, 43, 67, 91, 48, 93, 41, 10]), vT ([112, 97, 114, 116, 10, 102, 111, 114, 32, 48, 32, 53, 10, 65, 91, 105, 93, 61, 40, 65, 91, 105, 93, 43, 51, 41, 10, 66, 91, 48, 44, 105, 93, 61, 65, 91, 105, 93, 10]), vT ([112, 97, 114, 116, 10, 102, 111, 114, 32, 48, 32, 51, 10, 102, 111, 114, 32, 48, 32, 51, 10, 67, 91, 105, 93, 61, 40, 67, 91, 105, 93, 43, 66, 91, 105, 44, 106, 93, 41, 10, 112, 97, 114, 116, 10, 102, 111, 114, 32, 48, 32, 51, 10, 102, 111, 114, 32, 48, 32, 51, 10, 65, 91, 106, 93, 61, 40, 65, 91, 106, 93, 45, 66, 91, 106, 44, 105, 93, 41, 10]), vT ([112, 97, 114, 116, 10, 102, 111, 114, 32, 48, 32, 52, 10, 102, 111, 114, 32, 48, 32, 105, 43, 49, 10, 66, 91, 105, 44, 106, 93, 61, 40, 65, 91, 106, 93, 42, 67, 91, 48, 93, 41, 10])]) (Rp.sz Str) rfl rfl rfl rfl (by kernel_rfl) (by kernel_rfl) ?_
 intro b1 hb1
 have h1 : RL imm [vT ([112, 97, 114, 116, 10, 102, 111, 114, 32, 48, 32, 51, 10, 102, 111, 114, 32, 48, 32, 52, 10, 66, 91, 105, 44, 106, 93, 61, 40, 66, 91, 105, 44, 106, 93, 43, 123, 50, 42, 105, 43, 106, 125, 41, 10]), vT ([112, 97, 114, 116, 10, 102, 111, 114, 32, 48, 32, 51, 10, 102, 111, 114, 32, 48, 32, 52, 10, 66, 91, 105, 44, 106, 43, 49, 93, 61, 40, 66, 91, 105, 44, 106, 93, 43, 49, 41, 10]), vT ([112, 97, 114, 116, 10, 102, 111, 114, 32, 48, 32, 51, 10, 102, 111, 114, 32, 49, 32, 52, 10, 66, 91, 105, 43, 49, 44, 106, 45, 49, 93, 61, 40, 66, 91, 105, 44, 106, 93, 42, 50, 41, 10]), vT ([112, 97, 114, 116, 10, 102, 111, 114, 32, 48, 32, 51, 10, 102, 111, 114, 32, 49, 32, 53, 10, 66, 91, 105, 43, 49, 44, 106, 93, 61, 40, 66, 91, 105, 44, 106, 45, 49, 93, 43, 66, 91, 105, 44, 106, 93, 41, 10, 65, 91, 105, 93, 61, 123, 106, 125, 10]), vT ([112, 97, 114, 116, 10, 102, 111, 114, 32, 48, 32, 52, 10, 65, 91, 105, 93, 61, 40, 123, 105, 125, 42, 50, 41, 10, 112, 97, 114, 116, 10, 102, 111, 114, 32, 48, 32, 52, 10, 65, 91, 105, 43, 49, 93, 61, 40, 65, 91, 105, 93, 43, 67, 91, 48, 93, 41, 10]), vT ([112, 97, 114, 116, 10, 102, 111, 114, 32, 48, 32, 53, 10, 65, 91, 105, 93, 61, 40, 65, 91, 105, 93, 43, 51, 41, 10, 66, 91, 48, 44, 105, 93, 61, 65, 91, 105, 93, 10]), vT ([112, 97, 114, 116, 10, 102, 111, 114, 32, 48, 32, 51, 10, 102, 111, 114, 32, 48, 32, 51, 10, 67, 91, 105, 93, 61, 40, 67, 91, 105, 93, 43, 66, 91, 105, 44, 106, 93, 41, 10, 112, 97, 114, 116, 10, 102, 111, 114, 32, 48, 32, 51, 10, 102, 111, 114, 32, 48, 32, 51, 10, 65, 91, 106, 93, 61, 40, 65, 91, 106, 93, 45, 66, 91, 106, 44, 105, 93, 41, 10]), vT ([112, 97, 114, 116, 10, 102, 111, 114, 32, 48, 32, 52, 10, 102, 111, 114, 32, 48, 32, 105, 43, 49, 10, 66, 91, 105, 44, 106, 93, 61, 40, 65, 91, 106, 93, 42, 67, 91, 48, 93, 41, 10])] ([(⟨[112, 97, 114, 116, 10, 102, 111, 114, 32, 48, 32, 51, 10, 102, 111, 114, 32, 48, 32, 52, 10, 66, 91, 105, 44, 106, 93, 61, 40, 66, 91, 105, 44, 106, 93, 43, 123, 50, 42, 105, 43, 106, 125, 41, 10]⟩ : Str), (⟨[112, 97, 114, 116, 10, 102, 111, 114, 32, 48, 32, 51, 10, 102, 111, 114, 32, 48, 32, 52, 10, 66, 91, 105, 44, 106, 43, 49, 93, 61, 40, 66, 91, 105, 44, 106, 93, 43, 49, 41, 10]⟩ : Str), (⟨[112, 97, 114, 116, 10, 102, 111, 114, 32, 48, 32, 51, 10, 102, 111, 114, 32, 49, 32, 52, 10, 66, 91, 105, 43, 49, 44, 106, 45, 49, 93, 61, 40, 66, 91, 105, 44, 106, 93, 42, 50, 41, 10]⟩ : Str), (⟨[112, 97, 114, 116, 10, 102, 111, 114, 32, 48, 32, 51, 10, 102, 111, 114, 32, 49, 32, 53, 10, 66, 91, 105, 43, 49, 44, 106, 93, 61, 40, 66, 91, 105, 44, 106, 45, 49, 93, 43, 66, 91, 105, 44, 106, 93, 41, 10, 65, 91, 105, 93, 61, 123, 106, 125, 10]⟩ : Str), (⟨[112, 97, 114, 116, 10, 102, 111, 114, 32, 48, 32, 52, 10, 65, 91, 105, 93, 61, 40, 123, 105, 125, 42, 50, 41, 10, 112, 97, 114, 116, 10, 102, 111, 114, 32, 48, 32, 52, 10, 65, 91, 105, 43, 49, 93, 61, 40, 65, 91, 105, 93, 43, 67, 91, 48, 93, 41, 10]⟩ : Str), (⟨[112, 97, 114, 116, 10, 102, 111, 114, 32, 48, 32, 53, 10, 65, 91, 105, 93, 61, 40, 65, 91, 105, 93, 43, 51, 41, 10, 66, 91, 48, 44, 105, 93, 61, 65, 91, 105, 93, 10]⟩ : Str), (⟨[112, 97, 114, 116, 10, 102, 111, 114, 32, 48, 32, 51, 10, 102, 111, 114, 32, 48, 32, 51, 10, 67, 91, 105, 93, 61, 40, 67, 91, 105, 93, 43, 66, 91, 105, 44, 106, 93, 41, 10, 112, 97, 114, 116, 10, 102, 111, 114, 32, 48, 32, 51, 10, 102, 111, 114, 32, 48, 32, 51, 10, 65, 91, 106, 93, 61, 40, 65, 91, 106, 93, 45, 66, 91, 106, 44, 105, 93, 41, 10]⟩ : Str), (⟨[112, 97, 114, 116, 10, 102, 111, 114, 32, 48, 32, 52, 10, 102, 111, 114, 32, 48, 32, 105, 43, 49, 10, 66, 91, 105, 44, 106, 93, 61, 40, 65, 91, 106, 93, 42, 67, 91, 48, 93, 41, 10]⟩ : Str)] : List Str) := ⟨[vT ([112, 97, 114, 116, 10, 102, 111, 114, 32, 48, 32, 51, 10, 102, 111, 114, 32, 48, 32, 52, 10, 66, 91, 105, 44, 106, 93, 61, 40, 66, 91, 105, 44, 106, 93, 43, 123, 50, 42, 105, 43, 106, 125, 41, 10])], _, rfl, rfl, rfl, ⟨[vT ([112, 97, 114, 116, 10, 102, 111, 114, 32, 48, 32, 51, 10, 102, 111, 114, 32, 48, 32, 52, 10, 66, 91, 105, 44, 106, 43, 49, 93, 61, 40, 66, 91, 105, 44, 106, 93, 43, 49, 41, 10])], _, rfl, rfl, rfl, ⟨[vT ([112, 97, 114, 116, 10, 102, 111, 114, 32, 48, 32, 51, 10, 102, 111, 114, 32, 49, 32, 52, 10, 66, 91, 105, 43, 49, 44, 106, 45, 49, 93, 61, 40, 66, 91, 105, 44, 106, 93, 42, 50, 41, 10])], _, rfl, rfl, rfl, ⟨[vT ([112, 97, 114, 116, 10, 102, 111, 114, 32, 48, 32, 51, 10, 102, 111, 114, 32, 49, 32, 53, 10, 66, 91, 105, 43, 49, 44, 106, 93, 61, 40, 66, 91, 105, 44, 106, 45, 49, 93, 43, 66, 91, 105, 44, 106, 93, 41, 10, 65, 91, 105, 93, 61, 123, 106, 125, 10])], _, rfl, rfl, rfl, ⟨[vT ([112, 97, 114, 116, 10, 102, 111, 114, 32, 48, 32, 52, 10, 65, 91, 105, 93, 61, 40, 123, 105, 125, 42, 50, 41, 10, 112, 97, 114, 116, 10, 102, 111, 114, 32, 48, 32, 52, 10, 65, 91, 105, 43, 49, 93, 61, 40, 65, 91, 105, 93, 43, 67, 91, 48, 93, 41, 10])], _, rfl, rfl, rfl, ⟨[vT ([112, 97, 114, 116, 10, 102, 111, 114, 32, 48, 32, 53, 10, 65, 91, 105, 93, 61, 40, 65, 91, 105, 93, 43, 51, 41, 10, 66, 91, 48, 44, 105, 93, 61, 65, 91, 105, 93, 10])], _, rfl, rfl, rfl, ⟨[vT ([112, 97, 114, 116, 10, 102, 111, 114, 32, 48, 32, 51, 10, 102, 111, 114, 32, 48, 32, 51, 10, 67, 91, 105, 93, 61, 40, 67, 91, 105, 93, 43, 66, 91, 105, 44, 106, 93, 41, 10, 112, 97, 114, 116, 10, 102, 111, 114, 32, 48, 32, 51, 10, 102, 111, 114, 32, 48, 32, 51, 10, 65, 91, 106, 93, 61, 40, 65, 91, 106, 93, 45, 66, 91, 106, 44, 105, 93, 41, 10])], _, rfl, rfl, rfl, ⟨[vT ([112, 97, 114, 116, 10, 102, 111, 114, 32, 48, 32, 52, 10, 102, 111, 114, 32, 48, 32, 105, 43, 49, 10, 66, 91, 105, 44, 106, 93, 61, 40, 65, 91, 106, 93, 42, 67, 91, 48, 93, 41, 10])], _, rfl, rfl, rfl, rfl⟩⟩⟩⟩⟩⟩⟩⟩
 refine R_freeze 0 rfl ?_
 intro imm0 le hl0
 have h2 := SL.of_frozen hl0 le h1
 replace h := h.mono le
 replace hle := hle.trans le
 refine R_hs (good_pick [1, 0] (hs' := [hB r01 [vS p r0.b c, vI r0.p], hB b [.slice none 0 0, .slice none 0 0]]) rfl (by decide)) ?_
 obtain ⟨⟨y1, y2⟩, hy, hM⟩ := bind_some hM
 refine R_call (hs1 := [hB r01 [vS p r0.b c, vI r0.p]]) (rest := [hB b [.slice none 0 0, .slice none 0 0]]) rfl rfl rfl rfl (by kernel_rfl) rfl rfl (spec_l16Rd_of_ok r0 ([(⟨[112, 97, 114, 116, 10, 102, 111, 114, 32, 48, 32, 51, 10, 102, 111, 114, 32, 48, 32, 52, 10, 66, 91, 105, 44, 106, 93, 61, 40, 66, 91, 105, 44, 106, 93, 43, 123, 50, 42, 105, 43, 106, 125, 41, 10]⟩ : Str), (⟨[112, 97, 114, 116, 10, 102, 111, 114, 32, 48, 32, 51, 10, 102, 111, 114, 32, 48, 32, 52, 10, 66, 91, 105, 44, 106, 43, 49, 93, 61, 40, 66, 91, 105, 44, 106, 93, 43, 49, 41, 10]⟩ : Str), (⟨[112, 97, 114, 116, 10, 102, 111, 114, 32, 48, 32, 51, 10, 102, 111, 114, 32, 49, 32, 52, 10, 66, 91, 105, 43, 49, 44, 106, 45, 49, 93, 61, 40, 66, 91, 105, 44, 106, 93, 42, 50, 41, 10]⟩ : Str), (⟨[112, 97, 114, 116, 10, 102, 111, 114, 32, 48, 32, 51, 10, 102, 111, 114, 32, 49, 32, 53, 10, 66, 91, 105, 43, 49, 44, 106, 93, 61, 40, 66, 91, 105, 44, 106, 45, 49, 93, 43, 66, 91, 105, 44, 106, 93, 41, 10, 65, 91, 105, 93, 61, 123, 106, 125, 10]⟩ : Str), (⟨[112, 97, 114, 116, 10, 102, 111, 114, 32, 48, 32, 52, 10, 65, 91, 105, 93, 61, 40, 123, 105, 125, 42, 50, 41, 10, 112, 97, 114, 116, 10, 102, 111, 114, 32, 48, 32, 52, 10, 65, 91, 105, 43, 49, 93, 61, 40, 65, 91, 105, 93, 43, 67, 91, 48, 93, 41, 10]⟩ : Str), (⟨[112, 97, 114, 116, 10, 102, 111, 114, 32, 48, 32, 53, 10, 65, 91, 105, 93, 61, 40, 65, 91, 105, 93, 43, 51, 41, 10, 66, 91, 48, 44, 105, 93, 61, 65, 91, 105, 93, 10]⟩ : Str), (⟨[112, 97, 114, 116, 10, 102, 111, 114, 32, 48, 32, 51, 10, 102, 111, 114, 32, 48, 32, 51, 10, 67, 91, 105, 93, 61, 40, 67, 91, 105, 93, 43, 66, 91, 105, 44, 106, 93, 41, 10, 112, 97, 114, 116, 10, 102, 111, 114, 32, 48, 32, 51, 10, 102, 111, 114, 32, 48, 32, 51, 10, 65, 91, 106, 93, 61, 40, 65, 91, 106, 93, 45, 66, 91, 106, 44, 105, 93, 41, 10]⟩ : Str), (⟨[112, 97, 114, 116, 10, 102, 111, 114, 32, 48, 32, 52, 10, 102, 111, 114, 32, 48, 32, 105, 43, 49, 10, 66, 91, 105, 44, 106, 93, 61, 40, 65, 91, 106, 93, 42, 67, 91, 48, 93, 41, 10]⟩ : Str)] : List Str) _ hy h h2) ?_
 rintro imm01 hs2 v2 k2 le1 - ⟨v0, kk, rfl, rfl, rfl, h4⟩ -
 replace hle := hle.trans le1
 obtain ⟨v01, rfl, h5⟩ := spec_l16Rd_open h4
 obtain ⟨p1, c1, rfl⟩ := h5.form
 refine R_z [] [(3, vT y1.l)] <| T_seq <| J_seq <| J_region <| R_d 1 [] [(10, vT y1.l)] ?_
 obtain ⟨s, hy1, hM⟩ := bind_some hM
 refine R_ca rfl hy1 ?_
 obtain ⟨⟨y4, y5⟩, hy2, hM⟩ := bind_some hM
 refine R_call (hs1 := []) (rest := [hB r01 [vS p1 y2.b c1, vI y2.p], hB b [.slice none 0 0, .slice none 0 0]]) rfl rfl rfl rfl (by kernel_rfl) rfl rfl (spec_ParseProgram_ok s _ hy2 ) ?_
 rintro imm02 hs2 v2 k2 le2 - ⟨v02, v03, rfl, rfl, ⟨cs, rfl, h6⟩, rfl⟩ -
 replace h5 := h5.mono le2
 replace hle := hle.trans le2
 obtain ⟨v04, v05, rfl, h8, h9⟩ := impl_Program_open h6
 obtain ⟨p2, c2, rfl⟩ := h8.form
 obtain ⟨p3, c3, rfl⟩ := h9.form
 refine R_d 6 [] [(13, vA [vS p2 y4.Arrays c2, vS p3 y4.Parts c3]), (14, .bool y5)] <| R_alloc (c := ⟨[.slice none 0 0, .slice none 0 0]⟩) rfl rfl rfl (by kernel_rfl) ?_
 intro b2 hb2
 refine R_sb 0 [vS p2 y4.Arrays c2, vS p3 y4.Parts c3] [hB b2 [vS p2 y4.Arrays c2, vS p3 y4.Parts c3], hB r01 [vS p1 y2.b c1, vI y2.p], hB b [.slice none 0 0, .slice none 0 0]] rfl rfl rfl rfl <| R_z [] [(5, .bool y5)] <| T_seq <| J_seq <| J_seq ?_
 obtain ⟨o0, ho0, hM⟩ := bind_some hM
 refine J_cut (fun imm' hs' m' => ∃ (t20 : Bool) (x : spec_l16Rd) (p4 : Option Addr) (c4 : Nat), o0 = (t20, x) ∧ imm02.le imm' ∧ (SL imm' (vS p4 x.b c4) x.b) ∧ hs' = [hB b2 [vS p2 y4.Arrays c2, vS p3 y4.Parts c3], hB r01 [vS p4 x.b c4, vI x.p], hB b [.slice none 0 0, .slice none 0 0]] ∧ m' = [(0, vP r01 0), (2, vP b 0), (4, vP b2 0), (20, .bool t20)]) ?_ ?_
 · have hle0 := hle
   have hle : imm02.le imm02 := Imm.le.refl _
   refine J_region <| R_d 2 [] [(16, .bool y5)] ?_
   cases hc : y5 with
   | true =>
    have hM0 := if_some_true hc ho0
    try rw [hc]
    refine R_d 3 [] [(17, vP r01 0)] <| R_hs (good_pick [1, 0, 2] (hs' := [hB r01 [vS p1 y2.b c1, vI y2.p], hB b2 [vS p2 y4.Arrays c2, vS p3 y4.Parts c3], hB b [.slice none 0 0, .slice none 0 0]]) rfl (by decide)) ?_
    obtain ⟨⟨y7, y8⟩, hy3, hM⟩ := bind_some hM0
    refine R_call (hs1 := [hB r01 [vS p1 y2.b c1, vI y2.p]]) (rest := [hB b2 [vS p2 y4.Arrays c2, vS p3 y4.Parts c3], hB b [.slice none 0 0, .slice none 0 0]]) rfl rfl rfl rfl (by kernel_rfl) rfl rfl (spec_l16Rd_pick_ok y2 3 _ hy3 h5) ?_
    rintro imm04 hs2 v2 k2 le3 - ⟨v06, kk1, rfl, rfl, rfl, h12⟩ -
    replace h8 := h8.mono le3
    replace h9 := h9.mono le3
    replace hle := hle.trans le3
    obtain ⟨v07, rfl, h13⟩ := spec_l16Rd_open h12
    obtain ⟨p5, c5, rfl⟩ := h13.form
    exact R_z [] [(20, .bool (decide (y7 > 0)))] <| T_hs (good_pick [1, 0, 2] rfl (by decide)) <| T_w [(0, vP r01 0), (2, vP b 0), (4, vP b2 0), (20, .bool (decide (y7 > 0)))] <| T_cut ⟨_, _, _, _, (pure_some hM).symm, hle, h13, rfl, rfl⟩
   | false =>
    have hM01 := if_some_false hc ho0
    try rw [hc]
    exact R_z [] [(20, .bool false)] <| T_w [(0, vP r01 0), (2, vP b 0), (4, vP b2 0), (20, .bool false)] <| T_cut ⟨_, _, _, _, (pure_some hM01).symm, hle, h5, rfl, rfl⟩
 · rintro imm03 hs2 m2 ⟨t20, x, p4, c4, heq, le4, h10, rfl, rfl⟩
   subst o0
   replace h8 := h8.mono le4
   replace h9 := h9.mono le4
   replace hle := hle.trans le4
   refine T_seq <| J_cd hM ?_ ?_
   · intro hc1 hM
     refine J_seq <| J_region <| R_d 1 [0] [(21, vA [vS p2 y4.Arrays c2, vS p3 y4.Parts c3])] <| R_sb 2 [vS p2 y4.Arrays c2, vS p3 y4.Parts c3] [hB b2 [vS p2 y4.Arrays c2, vS p3 y4.Parts c3], hB r01 [vS p4 x.b c4, vI x.p], hB b [vS p2 y4.Arrays c2, vS p3 y4.Parts c3]] rfl rfl rfl rfl <| R_end rfl <| T_seq <| J_ret <| T_then_ret ?_
     obtain rfl := pure_some hM
     exact T_RS ⟨_, _, (.cell 2 rfl rfl (by kernel_rfl) ResV.nil), (good_pick [1] rfl (by decide)), ⟨_, _, rfl, rfl, ⟨_, rfl, (impl_Program_shut ⟨_, _, rfl, h8, h9⟩)⟩, (spec_l16Rd_shut ⟨_, rfl, h10⟩)⟩⟩
   · intro hc1 hM
     refine J_skip <| T_seq <| J_seq <| J_region <| R_d 1 [] [(22, vP r01 0)] <| R_hs (good_pick [1, 0, 2] (hs' := [hB r01 [vS p4 x.b c4, vI x.p], hB b2 [vS p2 y4.Arrays c2, vS p3 y4.Parts c3], hB b [.slice none 0 0, .slice none 0 0]]) rfl (by decide)) ?_
     obtain ⟨⟨y10, y11⟩, hy4, hM⟩ := bind_some hM
     refine R_call (hs1 := [hB r01 [vS p4 x.b c4, vI x.p]]) (rest := [hB b2 [vS p2 y4.Arrays c2, vS p3 y4.Parts c3], hB b [.slice none 0 0, .slice none 0 0]]) rfl rfl rfl rfl (by kernel_rfl) rfl rfl (spec_l4Draw_ok x _ hy4 h10) ?_
     rintro imm05 hs2 v2 k2 le5 - ⟨v08, kk2, rfl, rfl, ⟨cs1, rfl, h14⟩, h15⟩ -
     replace h8 := h8.mono le5
     replace h9 := h9.mono le5
     replace hle := hle.trans le5
     obtain ⟨v09, v010, rfl, h16, h17⟩ := impl_Program_open h14
     obtain ⟨p6, c6, rfl⟩ := h16.form
     obtain ⟨p7, c7, rfl⟩ := h17.form
     obtain ⟨v011, rfl, h18⟩ := spec_l16Rd_open h15
     obtain ⟨p8, c8, rfl⟩ := h18.form
     refine R_sb 2 [vS p6 y10.Arrays c6, vS p7 y10.Parts c7] [hB r01 [vS p8 y11.b c8, vI y11.p], hB b2 [vS p2 y4.Arrays c2, vS p3 y4.Parts c3], hB b [vS p6 y10.Arrays c6, vS p7 y10.Parts c7]] rfl rfl rfl rfl <| R_end rfl <| T_seq <| J_ret ?_
     obtain rfl := pure_some hM
     exact T_RS ⟨_, _, (.cell 2 rfl rfl (by kernel_rfl) ResV.nil), (good_pick [0] rfl (by decide)), ⟨_, _, rfl, rfl, ⟨_, rfl, (impl_Program_shut ⟨_, _, rfl, h16, h17⟩)⟩, (spec_l16Rd_shut ⟨_, rfl, h18⟩)⟩⟩
def spec_l10Trace_post (b0 : Nat) (r : (List Int) × spec_l16Rd) : Nat → Imm → List HA → Value → Prop := fun kk imm' hs' v =>
  ∃ (v0 : Value) (k0 : List Value), hs' = [.blk b0 ⟨k0⟩] ∧ v = tupV [v0] ∧ SL imm' v0 r.1 ∧ Rp.rep imm' k0 r.2
def M.spec_l10Trace_l1 (out : List Int) (i : Int) (x : spec_l16Rd) : Option ((List Int × spec_l16Rd)) := do
 if (decide (i > 0)) then
  let (y11, y12) ← M.spec_l16Rd_num x ([0, 1, 2, 3, 4, 1, 0, 9, (-1)] : List Int)
  let out2 ← app 8 out ([y11] : List Int)
  M.spec_l10Trace_l1 out2 (W (i - 1)) y12
 else
  pure (out, x)
 partial_fixpoint
theorem spec_l10Trace_l1_ok  : ∀ (out : List Int) (i : Int) (x : spec_l16Rd) (o : (List Int × spec_l16Rd)), M.spec_l10Trace_l1 out i x = some o → ∀ {B : Base} {imm0 imm : Imm} {Q : Exit → Act → World → Prop}  {r01 : Nat} {p7 : Option Addr} {c7 : Nat} {cs1 : List Value} {p8 : Option Addr} {c8 : Nat}, imm0.le imm → (RL imm cs1 out) → (SL imm (vS p8 x.b c8) x.b) → (∀ l a w, ¬ Q (.goto l) a w) → (∀ a w, ¬ Q .outgrown a w) → (∀ (imm' : Imm) (out1 : List Int) (x1 : spec_l16Rd) (p9 : Option Addr) (c9 : Nat) (cs2 : List Value) (p10 : Option Addr) (c10 : Nat), o = (out1, x1) → imm0.le imm' → (RL imm' cs2 out1) → (SL imm' (vS p10 x1.b c10) x1.b) → T 37 B Q (.exit 0) imm' [hB r01 [vS p10 x1.b c10, vI x1.p], hO Int (vS p9 out1 c9) cs2] [(0, vP r01 0), (3, vS p9 out1 c9)]) → J Try.prog 37 B (nav (bodyOf Try.f19) [1, 1, 1, 0, 1, 0]) Q imm [hB r01 [vS p8 x.b c8, vI x.p], hO Int (vS p7 out c7) cs1] [(0, vP r01 0), (3, vS p7 out c7), (4, vI i)] := by
 refine M.spec_l10Trace_l1.partial_correctness  _ ?_
 intro self ih out i x o hM B imm0 imm Q r01 p7 c7 cs1 p8 c8 hle h16 h17 hg ho hx
 refine J_loop hg ho <| J_seq <| J_seq <| J_region <| R_z [] [(16, .bool (decide (i > 0)))] <| T_seq <| J_cd hM ?_ ?_
 · intro hc1 hM
   refine J_skip <| T_seq <| J_seq <| J_block <| J_region <| R_d 2 [] [(19, vS p7 out c7), (20, vP r01 0)] <| R_buildSlice (cs := [vI 0, vI 1, vI 2, vI 3, vI 4, vI 1, vI 0, vI 9, vI (-1)]) (Rp.sz Int) rfl rfl rfl rfl (by kernel_rfl) (by kernel_rfl) ?_
   intro b2 hb2
   have h20 : RL imm [vI 0, vI 1, vI 2, vI 3, vI 4, vI 1, vI 0, vI 9, vI (-1)] ([0, 1, 2, 3, 4, 1, 0, 9, (-1)] : List Int) := ⟨[vI 0], _, rfl, rfl, rfl, ⟨[vI 1], _, rfl, rfl, rfl, ⟨[vI 2], _, rfl, rfl, rfl, ⟨[vI 3], _, rfl, rfl, rfl, ⟨[vI 4], _, rfl, rfl, rfl, ⟨[vI 1], _, rfl, rfl, rfl, ⟨[vI 0], _, rfl, rfl, rfl, ⟨[vI 9], _, rfl, rfl, rfl, ⟨[vI (-1)], _, rfl, rfl, rfl, rfl⟩⟩⟩⟩⟩⟩⟩⟩⟩
   refine R_freeze 0 rfl ?_
   intro imm05 le5 hl01
   have h21 := SL.of_frozen hl01 le5 h20
   replace h16 := RepL.mono (fun _ _ => Rp.mono le5) h16
   replace h17 := h17.mono le5
   replace hle := hle.trans le5
   obtain ⟨⟨y11, y12⟩, hy4, hM⟩ := bind_some hM
   refine R_call (hs1 := [hB r01 [vS p8 x.b c8, vI x.p]]) (rest := [hO Int (vS p7 out c7) cs1]) rfl rfl rfl rfl (by kernel_rfl) rfl rfl (spec_l16Rd_num_ok x ([0, 1, 2, 3, 4, 1, 0, 9, (-1)] : List Int) _ hy4 h17 h21) ?_
   rintro imm06 hs2 v2 k2 le6 - ⟨v09, kk3, rfl, rfl, rfl, h23⟩ -
   replace h16 := RepL.mono (fun _ _ => Rp.mono le6) h16
   replace hle := hle.trans le6
   obtain ⟨v010, rfl, h24⟩ := spec_l16Rd_open h23
   obtain ⟨p11, c11, rfl⟩ := h24.form
   refine R_buildSlice (cs := [vI y11]) (Rp.sz Int) rfl rfl rfl rfl (by kernel_rfl) (by kernel_rfl) ?_
   intro b3 hb3
   have h25 : RL imm06 [vI y11] ([y11] : List Int) := ⟨[vI y11], _, rfl, rfl, rfl, rfl⟩
   obtain ⟨out2, hy5, hM⟩ := bind_some hM
   refine R_ap 3 1 2 rfl rfl rfl h16 (.inr ⟨0, rfl⟩) h25 hy5 ?_
   intro p12 c12 cs3 h26
   exact R_hs (good_pick [1, 2] (hs' := [hB r01 [vS p11 y12.b c11, vI y12.p], hO Int (vS p12 out2 c12) cs3]) rfl (by decide)) <| R_z [] [(3, vS p12 out2 c12)] <| T_block_normal <| T_seq <| J_region <| R_z [] [(4, vI (W (i - 1)))] <| T_loop <| J_w [(0, vP r01 0), (3, vS p12 out2 c12), (4, vI (W (i - 1)))] <| ih out2 (W (i - 1)) y12 _ hM hle h26 h24 hg ho hx
 · intro hc1 hM
   exact J_exit <| T_then_exit <| T_then_exit <| T_w [(0, vP r01 0), (3, vS p7 out c7)] <| hx _ _ _ _ _ _ _ _ (pure_some hM).symm hle h16 h17
def M.spec_l10Trace_l2 (out4 : List Int) (x3 : spec_l16Rd) : Option ((List Int × spec_l16Rd)) := do
 if (decide ((out4.length : Int) ≤ 600)) then
  let (y17, y18) ← M.spec_l16Rd_pick x3 5
  let out6 ← app 8 out4 ([y17] : List Int)
  M.spec_l10Trace_l2 out6 y18
 else
  pure (out4, x3)
 partial_fixpoint
theorem spec_l10Trace_l2_ok  : ∀ (out4 : List Int) (x3 : spec_l16Rd) (o : (List Int × spec_l16Rd)), M.spec_l10Trace_l2 out4 x3 = some o → ∀ {B : Base} {imm0 imm : Imm} {Q : Exit → Act → World → Prop}  {r01 : Nat} {p16 : Option Addr} {c16 : Nat} {cs5 : List Value} {p17 : Option Addr} {c17 : Nat}, imm0.le imm → (RL imm cs5 out4) → (SL imm (vS p17 x3.b c17) x3.b) → (∀ l a w, ¬ Q (.goto l) a w) → (∀ a w, ¬ Q .outgrown a w) → (∀ (imm' : Imm) (out5 : List Int) (x4 : spec_l16Rd) (p18 : Option Addr) (c18 : Nat) (cs6 : List Value) (p19 : Option Addr) (c19 : Nat), o = (out5, x4) → imm0.le imm' → (RL imm' cs6 out5) → (SL imm' (vS p19 x4.b c19) x4.b) → T 37 B Q (.exit 2) imm' [hB r01 [vS p19 x4.b c19, vI x4.p], hO Int (vS p18 out5 c18) cs6] [(3, vS p18 out5 c18)]) → J Try.prog 37 B (nav (bodyOf Try.f19) [1, 1, 1, 1, 0, 1, 0, 0]) Q imm [hB r01 [vS p17 x3.b c17, vI x3.p], hO Int (vS p16 out4 c16) cs5] [(0, vP r01 0), (3, vS p16 out4 c16)] := by
 refine M.spec_l10Trace_l2.partial_correctness  _ ?_
 intro self ih out4 x3 o hM B imm0 imm Q r01 p16 c16 cs5 p17 c17 hle h32 h33 hg ho hx
 refine J_loop hg ho <| J_seq <| J_seq <| J_region <| R_z [] [(30, .bool (decide ((out4.length : Int) ≤ 600)))] <| T_seq <| J_cd hM ?_ ?_
 · intro hc3 hM
   refine J_skip <| T_seq <| J_block <| J_region <| R_d 2 [] [(31, vS p16 out4 c16), (32, vP r01 0)] ?_
   obtain ⟨⟨y17, y18⟩, hy7, hM⟩ := bind_some hM
   refine R_call (hs1 := [hB r01 [vS p17 x3.b c17, vI x3.p]]) (rest := [hO Int (vS p16 out4 c16) cs5]) rfl rfl rfl rfl (by kernel_rfl) rfl rfl (spec_l16Rd_pick_ok x3 5 _ hy7 h33) ?_
   rintro imm010 hs2 v2 k2 le9 - ⟨v013, kk5, rfl, rfl, rfl, h37⟩ -
   replace h32 := RepL.mono (fun _ _ => Rp.mono le9) h32
   replace hle := hle.trans le9
   obtain ⟨v014, rfl, h38⟩ := spec_l16Rd_open h37
   obtain ⟨p20, c20, rfl⟩ := h38.form
   refine R_buildSlice (cs := [vI y17]) (Rp.sz Int) rfl rfl rfl rfl (by kernel_rfl) (by kernel_rfl) ?_
   intro b4 hb4
   have h39 : RL imm010 [vI y17] ([y17] : List Int) := ⟨[vI y17], _, rfl, rfl, rfl, rfl⟩
   obtain ⟨out6, hy8, hM⟩ := bind_some hM
   refine R_ap 3 1 2 rfl rfl rfl h32 (.inr ⟨0, rfl⟩) h39 hy8 ?_
   intro p21 c21 cs7 h40
   exact R_hs (good_pick [1, 2] (hs' := [hB r01 [vS p20 y18.b c20, vI y18.p], hO Int (vS p21 out6 c21) cs7]) rfl (by decide)) <| R_z [] [(3, vS p21 out6 c21)] <| T_block_normal <| T_loop <| J_w [(0, vP r01 0), (3, vS p21 out6 c21)] <| ih out6 y18 _ hM hle h40 h38 hg ho hx
 · intro hc3 hM
   exact J_exit <| T_then_exit <| T_then_exit <| T_w [(3, vS p16 out4 c16)] <| hx _ _ _ _ _ _ _ _ (pure_some hM).symm hle h32 h33
def M.spec_l10Trace (r0 : spec_l16Rd) : Option ((List Int) × spec_l16Rd) := do
 let (y1, y2) ← M.spec_l16Rd_pick r0 3
 if (y1 == 0) then
  let (y4, y5) ← M.spec_l8Draw y2
  let y6 ← M.spec_AddressTrace y4
  pure (y6, y5)
 else
  let (y8, y9) ← M.spec_l16Rd_num y2 ([8, 12, 5, 20, 0, 30] : List Int)
  let (out1, x1) ← M.spec_l10Trace_l1 ([] : List Int) y8 y9
  let (y14, y15) ← M.spec_l16Rd_pick x1 40
  let (out3, x2) ← (do
    if (y14 == 0) then
     let (out5, x4) ← M.spec_l10Trace_l2 out1 y15
     pure (out5, x4)
    else
     pure (out1, y15)
      : Option (List Int × spec_l16Rd))
  pure (out3, x2)
theorem spec_l10Trace_ok : ∀ (r0 : spec_l16Rd) r, M.spec_l10Trace r0 = some r → ∀ {imm : Imm} {r01 : Nat} {p : Option Addr} {c : Nat}, (SL imm (vS p r0.b c) r0.b) → Ret Try.prog 19 [vP r01 0] imm [hB r01 [vS p r0.b c, vI r0.p]] (spec_l10Trace_post r01 r) := by
 intro r0 r hM imm r01 p c h
 unfold M.spec_l10Trace at hM
 refine ret_of_J (fn := Try.f19) (c := (bodyOf Try.f19)) Try.func19 rfl rfl ?_
 rintro B - -
 have hle : imm.le imm := Imm.le.refl _
 refine J_seq <| J_region <| R_z [] [] <| T_seq <| J_seq <| J_seq <| J_region <| R_d 1 [] [(5, vP r01 0)] ?_
 obtain ⟨⟨y1, y2⟩, hy, hM⟩ := bind_some hM
 refine R_call (hs1 := [hB r01 [vS p r0.b c, vI r0.p]]) (rest := []) rfl rfl rfl rfl (by kernel_rfl) rfl rfl (spec_l16Rd_pick_ok r0 3 _ hy h) ?_
 rintro imm0 hs2 v2 k2 le - ⟨v0, kk, rfl, rfl, rfl, h2⟩ -
 replace hle := hle.trans le
 obtain ⟨v01, rfl, h3⟩ := spec_l16Rd_open h2
 obtain ⟨p1, c1, rfl⟩ := h3.form
 refine R_z [] [(7, .bool (y1 == 0))] <| T_seq <| J_cd hM ?_ ?_
 · intro hc hM
   refine J_seq <| J_region <| R_d 1 [] [(8, vP r01 0)] ?_
   obtain ⟨⟨y4, y5⟩, hy1, hM⟩ := bind_some hM
   refine R_call (hs1 := [hB r01 [vS p1 y2.b c1, vI y2.p]]) (rest := []) rfl rfl rfl rfl (by kernel_rfl) rfl rfl (spec_l8Draw_ok y2 _ hy1 h3) ?_
   rintro imm01 hs2 v2 k2 le1 - ⟨v02, kk1, rfl, rfl, ⟨cs, rfl, h4⟩, h5⟩ -
   replace hle := hle.trans le1
   obtain ⟨v03, v04, rfl, h6, h7⟩ := impl_Program_open h4
   obtain ⟨p2, c2, rfl⟩ := h6.form
   obtain ⟨p3, c3, rfl⟩ := h7.form
   obtain ⟨v05, rfl, h8⟩ := spec_l16Rd_open h5
   obtain ⟨p4, c4, rfl⟩ := h8.form
   obtain ⟨y6, hy2, hM⟩ := bind_some hM
   refine R_call (hs1 := []) (rest := [hB r01 [vS p4 y5.b c4, vI y5.p]]) rfl rfl rfl rfl (by kernel_rfl) rfl rfl (spec_AddressTrace_ok y4 _ hy2 h6 h7) ?_
   rintro imm02 hs2 v2 k2 le2 - ⟨v06, rfl, rfl, h9⟩ -
   replace h8 := h8.mono le2
   replace hle := hle.trans le2
   obtain ⟨p5, c5, rfl⟩ := h9.form
   refine R_z [] [(2, vS p5 y6 c5)] <| T_seq <| J_ret <| T_then_ret ?_
   obtain rfl := pure_some hM
   exact T_RS ⟨_, _, (.tmp rfl ResV.nil), (good_pick [0] rfl (by decide)), ⟨_, _, rfl, rfl, h9, (spec_l16Rd_shut ⟨_, rfl, h8⟩)⟩⟩
 · intro hc hM
   refine J_skip <| T_seq <| J_seq <| J_region <| R_buildSlice (cs := []) (Rp.sz Int) rfl rfl rfl rfl (by kernel_rfl) (by kernel_rfl) ?_
   intro b hb
   have h10 : RL imm0 [] ([] : List Int) := rfl
   refine R_z [] [(3, vS (some ⟨b, 0, none⟩) ([] : List Int) 0)] <| T_seq <| J_seq <| J_seq <| J_region <| R_d 1 [] [(12, vP r01 0)] <| R_buildSlice (cs := [vI 8, vI 12, vI 5, vI 20, vI 0, vI 30]) (Rp.sz Int) rfl rfl rfl rfl (by kernel_rfl) (by kernel_rfl) ?_
   intro b1 hb1
   have h11 : RL imm0 [vI 8, vI 12, vI 5, vI 20, vI 0, vI 30] ([8, 12, 5, 20, 0, 30] : List Int) := ⟨[vI 8], _, rfl, rfl, rfl, ⟨[vI 12], _, rfl, rfl, rfl, ⟨[vI 5], _, rfl, rfl, rfl, ⟨[vI 20], _, rfl, rfl, rfl, ⟨[vI 0], _, rfl, rfl, rfl, ⟨[vI 30], _, rfl, rfl, rfl, rfl⟩⟩⟩⟩⟩⟩
   refine R_freeze 0 rfl ?_
   intro imm03 le3 hl0
   have h12 := SL.of_frozen hl0 le3 h11
   replace h10 := RepL.mono (fun _ _ => Rp.mono le3) h10
   replace h3 := h3.mono le3
   replace hle := hle.trans le3
   refine R_hs (good_pick [1, 0] (hs' := [hB r01 [vS p1 y2.b c1, vI y2.p], hO Int (vS (some ⟨b, 0, none⟩) ([] : List Int) 0) []]) rfl (by decide)) ?_
   obtain ⟨⟨y8, y9⟩, hy3, hM⟩ := bind_some hM
   refine R_call (hs1 := [hB r01 [vS p1 y2.b c1, vI y2.p]]) (rest := [hO Int (vS (some ⟨b, 0, none⟩) ([] : List Int) 0) []]) rfl rfl rfl rfl (by kernel_rfl) rfl rfl (spec_l16Rd_num_ok y2 ([8, 12, 5, 20, 0, 30] : List Int) _ hy3 h3 h12) ?_
   rintro imm04 hs2 v2 k2 le4 - ⟨v07, kk2, rfl, rfl, rfl, h14⟩ -
   replace h10 := RepL.mono (fun _ _ => Rp.mono le4) h10
   replace hle := hle.trans le4
   obtain ⟨v08, rfl, h15⟩ := spec_l16Rd_open h14
   obtain ⟨p6, c6, rfl⟩ := h15.form
   refine R_z [] [(4, vI y8)] <| T_seq <| J_block <| J_w [(0, vP r01 0), (3, vS (some ⟨b, 0, none⟩) ([] : List Int) 0), (4, vI y8)] ?_
   obtain ⟨o0, ho0, hM⟩ := bind_some hM
   refine spec_l10Trace_l1_ok ([] : List Int) y8 y9 o0 ho0 (Imm.le.refl _) h10 h15 (fun _ _ _ h => h) (fun _ _ h => h) ?_
   intro imm07 out1 x1 p9 c9 cs2 p10 c10 heq le7 h18 h19
   subst o0
   replace hle := hle.trans le7
   refine T_block_here <| T_seq <| J_seq <| J_seq <| J_region <| R_d 1 [] [(25, vP r01 0)] ?_
   obtain ⟨⟨y14, y15⟩, hy6, hM⟩ := bind_some hM
   refine R_call (hs1 := [hB r01 [vS p10 x1.b c10, vI x1.p]]) (rest := [hO Int (vS p9 out1 c9) cs2]) rfl rfl rfl rfl (by kernel_rfl) rfl rfl (spec_l16Rd_pick_ok x1 40 _ hy6 h19) ?_
   rintro imm08 hs2 v2 k2 le8 - ⟨v011, kk4, rfl, rfl, rfl, h28⟩ -
   replace h18 := RepL.mono (fun _ _ => Rp.mono le8) h18
   replace hle := hle.trans le8
   obtain ⟨v012, rfl, h29⟩ := spec_l16Rd_open h28
   obtain ⟨p13, c13, rfl⟩ := h29.form
   refine R_z [] [(27, .bool (y14 == 0))] <| T_seq ?_
   obtain ⟨o01, ho01, hM⟩ := bind_some hM
   refine J_cut (fun imm' hs' m' => ∃ (out3 : List Int) (x2 : spec_l16Rd) (p14 : Option Addr) (c14 : Nat) (cs4 : List Value) (p15 : Option Addr) (c15 : Nat), o01 = (out3, x2) ∧ imm08.le imm' ∧ (RL imm' cs4 out3) ∧ (SL imm' (vS p15 x2.b c15) x2.b) ∧ hs' = [hB r01 [vS p15 x2.b c15, vI x2.p], hO Int (vS p14 out3 c14) cs4] ∧ m' = [(3, vS p14 out3 c14)]) ?_ ?_
   · have hle0 := hle
     have hle : imm08.le imm08 := Imm.le.refl _
     refine J_cd ho01 ?_ ?_
     · intro hc2 hM
       refine J_block <| J_w [(0, vP r01 0), (3, vS p9 out1 c9)] ?_
       obtain ⟨o02, ho02, hM⟩ := bind_some hM
       refine spec_l10Trace_l2_ok out1 y15 o02 ho02 (Imm.le.refl _) h18 h29 (fun _ _ _ h => h) (fun _ _ h => h) ?_
       intro imm011 out5 x4 p18 c18 cs6 p19 c19 heq1 le10 h34 h35
       subst o02
       replace hle := hle.trans le10
       exact T_block_here <| T_w [(3, vS p18 out5 c18)] <| T_cut ⟨_, _, _, _, _, _, _, (pure_some hM).symm, hle, h34, h35, rfl, rfl⟩
     · intro hc2 hM
       exact J_skip <| T_w [(3, vS p9 out1 c9)] <| T_cut ⟨_, _, _, _, _, _, _, (pure_some hM).symm, hle, h18, h29, rfl, rfl⟩
   · rintro imm09 hs2 m2 ⟨out3, x2, p14, c14, cs4, p15, c15, heq2, le11, h30, h31, rfl, rfl⟩
     subst o01
     replace hle := hle.trans le11
     refine T_seq <| J_seq <| J_region <| R_z [] [(2, vS p14 out3 c14)] <| T_seq <| J_ret <| T_freeze 1 rfl ?_
     intro imm012 le12 hl02
     have h41 := SL.of_frozen hl02 le12 h30
     replace h31 := h31.mono le12
     replace hle := hle.trans le12
     obtain rfl := pure_some hM
     exact T_RS ⟨_, _, (.tmp rfl ResV.nil), (good_pick [0] rfl (by decide)), ⟨_, _, rfl, rfl, h41, (spec_l16Rd_shut ⟨_, rfl, h31⟩)⟩⟩
def spec_l16Open_post (r : spec_l16Rd) : Nat → Imm → List HA → Value → Prop := fun kk imm' hs' v =>
  ∃ (b_0 : Nat) (a0_0 : Option Addr) (c0_0 : Nat), hs' = [.blk b_0 ⟨[.slice a0_0 r.b.length c0_0, .int .i64 r.p]⟩] ∧ v = tupV [(.pointer (some ⟨b_0, 0, none⟩))] ∧ SL imm' (.slice a0_0 r.b.length c0_0) r.b
def M.spec_l16Open (code : (List UInt8)) : Option (spec_l16Rd) := do
 let code1 ← (do
   if (decide ((code.length : Int) > 2000)) then
    let l ← slc code 0 2000
    pure (id l)
   else
    pure (id code)
     : Option (List UInt8))
 pure (spec_l16Rd.mk code1 0)
theorem spec_l16Open_ok : ∀ (code : (List UInt8)) r, M.spec_l16Open code = some r → ∀ {imm : Imm} {p : Option Addr} {c : Nat}, (SL imm (vS p code c) code) → Ret Try.prog 20 [vS p code c] imm [] (spec_l16Open_post  r) := by
 intro code r hM imm p c h
 unfold M.spec_l16Open at hM
 refine ret_of_J (fn := Try.f20) (c := (bodyOf Try.f20)) Try.func20 rfl rfl ?_
 rintro B - -
 have hle : imm.le imm := Imm.le.refl _
 refine J_seq <| J_region <| R_z [] [] <| T_seq <| J_seq <| J_seq <| J_region <| R_z [] [(5, .bool (decide ((code.length : Int) > 2000)))] <| T_seq ?_
 obtain ⟨o0, ho0, hM⟩ := bind_some hM
 refine J_cut (fun imm' hs' m' => ∃ (code1 : List UInt8) (p1 : Option Addr) (c1 : Nat), o0 = code1 ∧ imm.le imm' ∧ (SL imm' (vS p1 code1 c1) code1) ∧ hs' = [] ∧ m' = [(0, vS p1 code1 c1)]) ?_ ?_
 · have hle0 := hle
   have hle : imm.le imm := Imm.le.refl _
   refine J_cd ho0 ?_ ?_
   · intro hc hM
     refine J_region <| R_d 1 [] [(6, vS p code c)] ?_
     obtain ⟨l, hy, hM⟩ := bind_some hM
     refine R_sl rfl h hy ?_
     intro v0 h2
     obtain ⟨p2, c2, rfl⟩ := h2.form
     exact R_z [] [(0, vS p2 l c2)] <| T_w [(0, vS p2 l c2)] <| T_cut ⟨_, _, _, (pure_some hM).symm, hle, h2, rfl, rfl⟩
   · intro hc hM
     exact J_skip <| T_w [(0, vS p code c)] <| T_cut ⟨_, _, _, (pure_some hM).symm, hle, h, rfl, rfl⟩
 · rintro imm0 hs2 m2 ⟨code1, p1, c1, heq, le, h1, rfl, rfl⟩
   subst o0
   replace hle := hle.trans le
   refine T_seq <| J_seq <| J_region <| R_d 2 [] [(9, vA [vS p1 code1 c1, vI 0])] <| R_box (c := ⟨[vS p1 code1 c1, vI 0]⟩) rfl rfl rfl rfl rfl ?_
   intro b hb
   refine R_z [] [(2, vP b 0)] <| T_seq <| J_ret ?_
   obtain rfl := pure_some hM
   exact T_RS ⟨_, _, (.tmp rfl ResV.nil), (good_pick [0] rfl (by decide)), ⟨_, _, _, rfl, rfl, h1⟩⟩
def impl_isTrace_post (r : Bool) : Nat → Imm → List HA → Value → Prop := fun kk imm' hs' v =>
  ∃ (v0 : Value), hs' = [] ∧ v = tupV [v0] ∧ v0 = .bool r
def M.impl_isTrace (trace : (List Int)) : Option (Bool) := do
 pure (decide ((trace.length : Int) ≤ 600))
theorem impl_isTrace_ok : ∀ (trace : (List Int)) r, M.impl_isTrace trace = some r → ∀ {imm : Imm} {p : Option Addr} {c : Nat}, (SL imm (vS p trace c) trace) → Ret Try.prog 21 [vS p trace c] imm [] (impl_isTrace_post  r) := by
 intro trace r hM imm p c h
 unfold M.impl_isTrace at hM
 refine ret_of_J (fn := Try.f21) (c := (bodyOf Try.f21)) Try.func21 rfl rfl ?_
 rintro B - -
 have hle : imm.le imm := Imm.le.refl _
 refine J_seq <| J_region <| R_z [] [] <| T_seq <| J_seq <| J_region <| R_z [] [(2, .bool (decide ((trace.length : Int) ≤ 600)))] <| T_seq <| J_ret ?_
 obtain rfl := pure_some hM
 exact T_RS ⟨_, _, (.tmp rfl ResV.nil), good_none, ⟨_, rfl, rfl, rfl⟩⟩
def impl_DistinctCells_post (r : Int) : Nat → Imm → List HA → Value → Prop := fun kk imm' hs' v =>
  ∃ (v0 : Value), hs' = [] ∧ v = tupV [v0] ∧ v0 = .int .i64 r
def M.impl_DistinctCells_l1 (trace : (List Int)) (t12 : Int) (mp : List Int) : Option (List Int) := do
 if (decide (t12 < (trace.length : Int))) then
  let x ← idx trace t12
  let mp2 ← pure (mins mp x)
  M.impl_DistinctCells_l1 trace (W (t12 + 1)) mp2
 else
  pure (id mp)
 partial_fixpoint
theorem impl_DistinctCells_l1_ok (trace : (List Int)) : ∀ (t12 : Int) (mp : List Int) (o : List Int), M.impl_DistinctCells_l1 trace t12 mp = some o → ∀ {B : Base} {imm0 imm : Imm} {Q : Exit → Act → World → Prop}  {p : Option Addr} {c : Nat} {b : Nat}, imm0.le imm → (SL imm (vS p trace c) trace) → (∀ l a w, ¬ Q (.goto l) a w) → (∀ a w, ¬ Q .outgrown a w) → (∀ (imm' : Imm) (mp1 : List Int), o = mp1 → imm0.le imm' → T 21 B Q (.exit 0) imm' [.obj b (mapO mp1)] [(3, .map (some b))]) → J Try.prog 21 B (nav (bodyOf Try.f11) [1, 1, 1, 0, 1, 0]) Q imm [.obj b (mapO mp)] [(3, .map (some b)), (10, vS p trace c), (11, vI (trace.length : Int)), (12, vI t12)] := by
 refine M.impl_DistinctCells_l1.partial_correctness trace _ ?_
 intro self ih t12 mp o hM B imm0 imm Q p c b hle h hg ho hx
 refine J_loop hg ho <| J_seq <| J_region <| R_z [] [(13, .bool (decide (t12 < (trace.length : Int))))] <| T_seq <| J_seq <| J_cd hM ?_ ?_
 · intro hc1 hM
   refine J_skip <| T_seq <| J_seq <| J_block <| J_seq <| J_region ?_
   obtain ⟨x, hy1, hM⟩ := bind_some hM
   refine R_ix rfl rfl h hy1 ?_
   intro ad ccs hat hrep
   obtain rfl := hrep
   refine R_la 0 hat [vI x] (vI x) rfl <| R_z [] [(5, vI x)] <| T_seq <| J_region <| R_d 2 [] [(16, .map (some b)), (17, vI x)] ?_
   obtain ⟨mp2, hy2, hM⟩ := bind_some hM
   refine R_mapUpdate (kt := 3) 0 rfl rfl rfl (by kernel_rfl) rfl rfl rfl ?_
   rw [show mins mp x = mp2 from pure_some hy2]
   exact R_hseq (hs' := [.obj b (mapO mp2)]) rfl <| R_end rfl <| T_block_normal <| T_seq <| J_region <| R_z [] [(12, vI (W (t12 + 1)))] <| T_loop <| J_w [(3, .map (some b)), (10, vS p trace c), (11, vI (trace.length : Int)), (12, vI (W (t12 + 1)))] <| ih (W (t12 + 1)) mp2 _ hM hle h hg ho hx
 · intro hc1 hM
   exact J_exit <| T_then_exit <| T_then_exit <| T_w [(3, .map (some b))] <| hx _ _ (pure_some hM).symm hle
def M.impl_DistinctCells (trace : (List Int)) : Option (Int) := do
 let y ← M.impl_isTrace trace
 if (!y) then
  pure (id 0)
 else
  let mp1 ← M.impl_DistinctCells_l1 trace 0 ([] : List Int)
  pure (mp1.length : Int)
theorem impl_DistinctCells_ok : ∀ (trace : (List Int)) r, M.impl_DistinctCells trace = some r → ∀ {imm : Imm} {p : Option Addr} {c : Nat}, (SL imm (vS p trace c) trace) → Ret Try.prog 11 [vS p trace c] imm [] (impl_DistinctCells_post  r) := by
 intro trace r hM imm p c h
 unfold M.impl_DistinctCells at hM
 refine ret_of_J (fn := Try.f11) (c := (bodyOf Try.f11)) Try.func11 rfl rfl ?_
 rintro B - -
 have hle : imm.le imm := Imm.le.refl _
 refine J_seq <| J_region <| R_z [] [] <| T_seq <| J_seq <| J_seq <| J_region <| R_d 1 [] [(6, vS p trace c)] ?_
 obtain ⟨y, hy, hM⟩ := bind_some hM
 refine R_call (hs1 := []) (rest := []) rfl rfl rfl rfl (by kernel_rfl) rfl rfl (impl_isTrace_ok trace _ hy h) ?_
 rintro imm0 hs2 v2 k2 le - ⟨v0, rfl, rfl, rfl⟩ -
 replace h := h.mono le
 replace hle := hle.trans le
 refine R_z [] [(8, .bool (!y))] <| T_seq <| J_cd hM ?_ ?_
 · intro hc hM
   refine J_seq <| J_region <| R_z [] [(2, vI 0)] <| T_seq <| J_ret <| T_then_ret ?_
   obtain rfl := pure_some hM
   exact T_RS ⟨_, _, (.tmp rfl ResV.nil), good_none, ⟨_, rfl, rfl, rfl⟩⟩
 · intro hc hM
   refine J_skip <| T_seq <| J_seq <| J_region <| R_makeMap rfl rfl rfl ?_
   intro b
   refine R_z [] [(3, .map (some b))] <| T_seq <| J_seq <| J_seq <| J_region <| R_z [] [(10, vS p trace c), (11, vI (trace.length : Int)), (12, vI 0)] <| T_seq <| J_block <| J_w [(3, .map (some b)), (10, vS p trace c), (11, vI (trace.length : Int)), (12, vI 0)] ?_
   obtain ⟨o0, ho0, hM⟩ := bind_some hM
   refine impl_DistinctCells_l1_ok trace 0 ([] : List Int) o0 ho0 (Imm.le.refl _) h (fun _ _ _ h => h) (fun _ _ h => h) ?_
   intro imm01 mp1 heq le1
   subst o0
   replace hle := hle.trans le1
   refine T_block_here <| T_seq <| J_seq <| J_region <| R_d 1 [] [(19, .map (some b))] <| R_mapLen 0 rfl rfl rfl rfl (by kernel_rfl) rfl <| R_z [] [(2, vI (mp1.length : Int))] <| T_seq <| J_ret ?_
   obtain rfl := pure_some hM
   exact T_RS ⟨_, _, (.tmp rfl ResV.nil), good_none, ⟨_, rfl, rfl, rfl⟩⟩
def impl_within_post (r : Bool) : Nat → Imm → List HA → Value → Prop := fun kk imm' hs' v =>
  ∃ (v0 : Value), hs' = [] ∧ v = tupV [v0] ∧ v0 = .bool r
def M.impl_within (n0 : Int) (low : Int) (high : Int) : Option (Bool) := do
 let t6 ← (do
   if (decide (low ≤ n0)) then
    pure (decide (n0 ≤ high))
   else
    pure false
     : Option Bool)
 pure (id t6)
theorem impl_within_ok : ∀ (n0 : Int) (low : Int) (high : Int) r, M.impl_within n0 low high = some r → ∀ {imm : Imm} , Ret Try.prog 34 [vI n0, vI low, vI high] imm [] (impl_within_post  r) := by
 intro n0 low high r hM imm
 unfold M.impl_within at hM
 refine ret_of_J (fn := Try.f34) (c := (bodyOf Try.f34)) Try.func34 rfl rfl ?_
 rintro B - -
 have hle : imm.le imm := Imm.le.refl _
 refine J_seq <| J_region <| R_z [] [] <| T_seq <| J_seq ?_
 obtain ⟨o0, ho0, hM⟩ := bind_some hM
 refine J_cut (fun imm' hs' m' => ∃ (t6 : Bool), o0 = t6 ∧ imm.le imm' ∧ hs' = [] ∧ m' = [(6, .bool t6)]) ?_ ?_
 · have hle0 := hle
   have hle : imm.le imm := Imm.le.refl _
   refine J_region <| R_d 4 [] [(10, .bool (decide (low ≤ n0)))] ?_
   cases hc : (decide (low ≤ n0)) with
   | true =>
    have hM0 := if_some_true hc ho0
    try rw [hc]
    exact R_z [] [(6, .bool (decide (n0 ≤ high)))] <| T_w [(6, .bool (decide (n0 ≤ high)))] <| T_cut ⟨_, (pure_some hM0).symm, hle, rfl, rfl⟩
   | false =>
    have hM01 := if_some_false hc ho0
    try rw [hc]
    exact R_z [] [(6, .bool false)] <| T_w [(6, .bool false)] <| T_cut ⟨_, (pure_some hM01).symm, hle, rfl, rfl⟩
 · rintro imm0 hs2 m2 ⟨t6, heq, le, rfl, rfl⟩
   subst o0
   replace hle := hle.trans le
   refine T_seq <| J_ret ?_
   obtain rfl := pure_some hM
   exact T_RS ⟨_, _, (.tmp rfl ResV.nil), good_none, ⟨_, rfl, rfl, rfl⟩⟩
def impl_isCache_post (r : Bool) : Nat → Imm → List HA → Value → Prop := fun kk imm' hs' v =>
  ∃ (v0 : Value), hs' = [] ∧ v = tupV [v0] ∧ v0 = .bool r
def M.impl_isCache (trace : (List Int)) (size : Int) : Option (Bool) := do
 let t4 ← (do
   let y ← M.impl_isTrace trace
   if y then
    let y1 ← M.impl_within size 0 40
    pure (id y1)
   else
    pure false
     : Option Bool)
 pure (id t4)
theorem impl_isCache_ok : ∀ (trace : (List Int)) (size : Int) r, M.impl_isCache trace size = some r → ∀ {imm : Imm} {p : Option Addr} {c : Nat}, (SL imm (vS p trace c) trace) → Ret Try.prog 22 [vS p trace c, vI size] imm [] (impl_isCache_post  r) := by
 intro trace size r hM imm p c h
 unfold M.impl_isCache at hM
 refine ret_of_J (fn := Try.f22) (c := (bodyOf Try.f22)) Try.func22 rfl rfl ?_
 rintro B - -
 have hle : imm.le imm := Imm.le.refl _
 refine J_seq <| J_region <| R_z [] [] <| T_seq <| J_seq ?_
 obtain ⟨o0, ho0, hM⟩ := bind_some hM
 refine J_cut (fun imm' hs' m' => ∃ (t4 : Bool), o0 = t4 ∧ imm.le imm' ∧ hs' = [] ∧ m' = [(4, .bool t4)]) ?_ ?_
 · have hle0 := hle
   have hle : imm.le imm := Imm.le.refl _
   refine J_region <| R_d 1 [] [(5, vS p trace c)] ?_
   obtain ⟨y, hy, hM⟩ := bind_some ho0
   refine R_call (hs1 := []) (rest := []) rfl rfl rfl rfl (by kernel_rfl) rfl rfl (impl_isTrace_ok trace _ hy h) ?_
   rintro imm01 hs2 v2 k2 le - ⟨v0, rfl, rfl, rfl⟩ -
   replace hle := hle.trans le
   refine R_d 3 [] [(7, .bool y)] ?_
   cases hc : y with
   | true =>
    have hM0 := if_some_true hc hM
    try rw [hc]
    refine R_d 4 [] [(8, vI size)] ?_
    obtain ⟨y1, hy1, hM⟩ := bind_some hM0
    refine R_call (hs1 := []) (rest := []) rfl rfl rfl rfl (by kernel_rfl) rfl rfl (impl_within_ok size 0 40 _ hy1 ) ?_
    rintro imm02 hs2 v2 k2 le1 - ⟨v01, rfl, rfl, rfl⟩ -
    replace hle := hle.trans le1
    exact R_z [] [(4, .bool y1)] <| T_w [(4, .bool y1)] <| T_cut ⟨_, (pure_some hM).symm, hle, rfl, rfl⟩
   | false =>
    have hM01 := if_some_false hc hM
    try rw [hc]
    exact R_z [] [(4, .bool false)] <| T_w [(4, .bool false)] <| T_cut ⟨_, (pure_some hM01).symm, hle, rfl, rfl⟩
 · rintro imm0 hs2 m2 ⟨t4, heq, le2, rfl, rfl⟩
   subst o0
   replace hle := hle.trans le2
   refine T_seq <| J_ret ?_
   obtain rfl := pure_some hM
   exact T_RS ⟨_, _, (.tmp rfl ResV.nil), good_none, ⟨_, rfl, rfl, rfl⟩⟩
def slices_Index_int_int_post (r : Int) : Nat → Imm → List HA → Value → Prop := fun kk imm' hs' v =>
  ∃ (v0 : Value), hs' = [] ∧ v = tupV [v0] ∧ v0 = .int .i64 r
def M.slices_Index_int_int_l1 (s : (List Int)) (v0 : Int) (t8 : Int) : Option (Out Unit (Int)) := do
 if (decide (t8 < (s.length : Int))) then
  let x ← idx s t8
  if (v0 == x) then
   pure (.ret t8)
  else
   M.slices_Index_int_int_l1 s v0 (W (t8 + 1))
 else
  pure (.done ())
 partial_fixpoint
theorem slices_Index_int_int_l1_ok (s : (List Int)) (v0 : Int) : ∀ (t8 : Int) (o : Out Unit (Int)), M.slices_Index_int_int_l1 s v0 t8 = some o → ∀ {B : Base} {imm0 imm : Imm} {Q : Exit → Act → World → Prop}  {p : Option Addr} {c : Nat}, imm0.le imm → (SL imm (vS p s c) s) → (∀ l a w, ¬ Q (.goto l) a w) → (∀ a w, ¬ Q .outgrown a w) → (∀ (imm' : Imm) , o = (.done ()) → imm0.le imm' → T 19 B Q (.exit 0) imm' [] []) → (∀ r imm' hs' m', o = (.ret r) → imm0.le imm' → RS Try.prog Try.f23 B (slices_Index_int_int_post  r) imm' hs' m' → T 19 B Q .ret imm' hs' m') → J Try.prog 19 B (nav (bodyOf Try.f23) [1, 0, 1, 0]) Q imm [] [(0, vS p s c), (1, vI v0), (7, vI (s.length : Int)), (8, vI t8)] := by
 refine M.slices_Index_int_int_l1.partial_correctness s v0 _ ?_
 intro self ih t8 o hM B imm0 imm Q p c hle h hg ho hx hr
 refine J_loop hg ho <| J_seq <| J_region <| R_z [] [(9, .bool (decide (t8 < (s.length : Int))))] <| T_seq <| J_seq <| J_cd hM ?_ ?_
 · intro hc hM
   refine J_skip <| T_seq <| J_seq <| J_block <| J_seq <| J_region <| R_z [] [(5, vI t8)] <| T_seq <| J_seq <| J_region <| R_d 3 [] [(11, vI v0), (12, vS p s c), (13, vI t8)] ?_
   obtain ⟨x, hy, hM⟩ := bind_some hM
   refine R_ix rfl rfl h hy ?_
   intro ad ccs hat hrep
   obtain rfl := hrep
   refine R_la 0 hat [vI x] (vI x) rfl <| R_z [] [(16, .bool (v0 == x))] <| T_seq <| J_cd hM ?_ ?_
   · intro hc1 hM
     exact J_seq <| J_region <| R_z [] [(4, vI t8)] <| T_seq <| J_ret <| T_block_ret <| T_then_ret <| T_then_ret <| hr _ _ _ _ (pure_some hM).symm hle ⟨_, _, (.tmp rfl ResV.nil), good_none, ⟨_, rfl, rfl, rfl⟩⟩
   · intro hc1 hM
     exact J_skip <| T_block_normal <| T_seq <| J_region <| R_z [] [(8, vI (W (t8 + 1)))] <| T_loop <| J_w [(0, vS p s c), (1, vI v0), (7, vI (s.length : Int)), (8, vI (W (t8 + 1)))] <| ih (W (t8 + 1)) _ hM hle h hg ho hx hr
 · intro hc hM
   exact J_exit <| T_then_exit <| T_then_exit <| T_w [] <| hx _  (pure_some hM).symm hle
def M.slices_Index_int_int (s : (List Int)) (v0 : Int) : Option (Int) := do
 match ← M.slices_Index_int_int_l1 s v0 0 with
 | .ret r0 => pure r0
 | .done _ =>
  pure (-1)
theorem slices_Index_int_int_ok : ∀ (s : (List Int)) (v0 : Int) r, M.slices_Index_int_int s v0 = some r → ∀ {imm : Imm} {p : Option Addr} {c : Nat}, (SL imm (vS p s c) s) → Ret Try.prog 23 [vS p s c, vI v0] imm [] (slices_Index_int_int_post  r) := by
 intro s v0 r hM imm p c h
 unfold M.slices_Index_int_int at hM
 refine ret_of_J (fn := Try.f23) (c := (bodyOf Try.f23)) Try.func23 rfl rfl ?_
 rintro B - -
 have hle : imm.le imm := Imm.le.refl _
 refine J_seq <| J_region <| R_z [] [] <| T_seq <| J_seq <| J_seq <| J_region <| R_z [] [(7, vI (s.length : Int)), (8, vI 0)] <| T_seq <| J_block <| J_w [(0, vS p s c), (1, vI v0), (7, vI (s.length : Int)), (8, vI 0)] ?_
 obtain ⟨o0, ho0, hM⟩ := bind_some hM
 refine slices_Index_int_int_l1_ok s v0 0 o0 ho0 (Imm.le.refl _) h (fun _ _ _ h => h) (fun _ _ h => h) ?_ ?_
 · intro imm0  heq le
   subst o0
   replace hle := hle.trans le
   refine T_block_here <| T_seq <| J_seq <| J_region <| R_z [] [(4, vI (-1))] <| T_seq <| J_ret ?_
   obtain rfl := pure_some hM
   exact T_RS ⟨_, _, (.tmp rfl ResV.nil), good_none, ⟨_, rfl, rfl, rfl⟩⟩
 · intro r0 imm9 hs9 m9 heq9 le9 hrs9
   subst heq9
   refine T_block_ret <| T_then_ret ?_
   obtain rfl := pure_some hM
   exact T_RS hrs9
def slices_Delete_int_int_post (r : List Int) : Nat → Imm → List HA → Value → Prop := fun kk imm' hs' v =>
  ∃ (a0 : Option Addr) (c0 : Nat) (s0 : List Value), hs' = [.osl (.slice a0 r.length c0) (Rp.sz Int) s0] ∧ v = tupV [(.slice a0 r.length c0)] ∧ RepL (Rp.rep imm') (Rp.sz Int) s0 r
def M.slices_Delete_int_int (s : List Int) (i : Int) (j : Int) : Option (List Int) := delI s i j
theorem slices_Delete_int_int_ok : ∀ (s : List Int) (i j : Int) r, M.slices_Delete_int_int s i j = some r → ∀ {imm : Imm} {p : Option Addr} {c : Nat} {cs : List Value}, RL imm cs s → Ret Try.prog 24 [vS p s c, vI i, vI j] imm [hO Int (vS p s c) cs] (slices_Delete_int_int_post r) := by
 intro s i j r hM imm p c cs h
 exact ret_delete Try.slices_Delete_int hM h (fun k a' c' cs' h1 h2 => ⟨a', c', cs', rfl, rfl, h1⟩)
def impl_LruMisses_post (r : Int) : Nat → Imm → List HA → Value → Prop := fun kk imm' hs' v =>
  ∃ (v0 : Value), hs' = [] ∧ v = tupV [v0] ∧ v0 = .int .i64 r
def M.impl_LruMisses_l1 (trace : (List Int)) (size : Int) (misses : Int) (held : List Int) (t16 : Int) : Option (Int) := do
 if (decide (t16 < (trace.length : Int))) then
  let x ← idx trace t16
  let y1 ← M.slices_Index_int_int held x
  let (misses2, held1) ← (do
    if (decide (y1 ≥ 0)) then
     let y2 ← M.slices_Delete_int_int held y1 (W (y1 + 1))
     pure (misses, y2)
    else
     pure ((W (misses + 1)), held)
      : Option (Int × List Int))
  let held2 ← app 8 held1 ([x] : List Int)
  let held3 ← (do
    if (decide ((held2.length : Int) > size)) then
     let l ← slc held2 1 (held2.length : Int)
     pure (id l)
    else
     pure (id held2)
      : Option (List Int))
  M.impl_LruMisses_l1 trace size misses2 held3 (W (t16 + 1))
 else
  pure (id misses)
 partial_fixpoint
theorem impl_LruMisses_l1_ok (trace : (List Int)) (size : Int) : ∀ (misses : Int) (held : List Int) (t16 : Int) (o : Int), M.impl_LruMisses_l1 trace size misses held t16 = some o → ∀ {B : Base} {imm0 imm : Imm} {Q : Exit → Act → World → Prop}  {p : Option Addr} {c : Nat} {p1 : Option Addr} {c1 : Nat} {cs : List Value}, imm0.le imm → (SL imm (vS p trace c) trace) → (RL imm cs held) → (∀ l a w, ¬ Q (.goto l) a w) → (∀ a w, ¬ Q .outgrown a w) → (∀ (imm' : Imm) (misses1 : Int), o = misses1 → imm0.le imm' → T 44 B Q (.exit 0) imm' [] [(5, vI misses1)]) → J Try.prog 44 B (nav (bodyOf Try.f12) [1, 1, 1, 1, 0, 1, 0]) Q imm [hO Int (vS p1 held c1) cs] [(1, vI size), (5, vI misses), (6, vS p1 held c1), (14, vS p trace c), (15, vI (trace.length : Int)), (16, vI t16)] := by
 refine M.impl_LruMisses_l1.partial_correctness trace size _ ?_
 intro self ih misses held t16 o hM B imm0 imm Q p c p1 c1 cs hle h h3 hg ho hx
 refine J_loop hg ho <| J_seq <| J_region <| R_z [] [(17, .bool (decide (t16 < (trace.length : Int))))] <| T_seq <| J_seq <| J_cd hM ?_ ?_
 · intro hc1 hM
   refine J_skip <| T_seq <| J_seq <| J_block <| J_seq <| J_region ?_
   obtain ⟨x, hy1, hM⟩ := bind_some hM
   refine R_ix rfl rfl h hy1 ?_
   intro ad ccs hat hrep
   obtain rfl := hrep
   refine R_la 0 hat [vI x] (vI x) rfl <| R_z [] [(8, vI x)] <| T_seq <| J_seq <| J_region <| R_d 2 [] [(20, vS p1 held c1), (21, vI x)] ?_
   obtain ⟨y1, hy2, hM⟩ := bind_some hM
   refine R_call_lend (L := [hO Int (vS p1 held c1) cs]) (hs1 := []) (rest := []) rfl rfl rfl rfl (by kernel_rfl) rfl rfl (fun i1 le1 hl1 => slices_Index_int_int_ok held x _ hy2 ⟨_, hl1 (hO Int (vS p1 held c1) cs) (by simp), RepL.mono (fun _ _ => Rp.mono le1) h3⟩) ?_
   rintro - imm01 hs2 v2 k2 le1 - - - ⟨v01, rfl, rfl, rfl⟩ -
   replace h3 := RepL.mono (fun _ _ => Rp.mono le1) h3
   replace h := h.mono le1
   replace hle := hle.trans le1
   refine R_z [] [(9, vI y1)] <| T_seq <| J_seq <| J_seq <| J_region <| R_z [] [(24, .bool (decide (y1 ≥ 0)))] <| T_seq ?_
   obtain ⟨o0, ho0, hM⟩ := bind_some hM
   refine J_cut (fun imm' hs' m' => ∃ (misses2 : Int) (held1 : List Int) (p2 : Option Addr) (c2 : Nat) (cs1 : List Value), o0 = (misses2, held1) ∧ imm01.le imm' ∧ (RL imm' cs1 held1) ∧ hs' = [hO Int (vS p2 held1 c2) cs1] ∧ m' = [(1, vI size), (5, vI misses2), (6, vS p2 held1 c2), (8, vI x), (14, vS p trace c), (15, vI (trace.length : Int)), (16, vI t16)]) ?_ ?_
   · have hle0 := hle
     have hle : imm01.le imm01 := Imm.le.refl _
     refine J_cd ho0 ?_ ?_
     · intro hc2 hM
       refine J_region <| R_d 4 [] [(25, vS p1 held c1), (26, vI y1), (28, vI (W (y1 + 1)))] ?_
       obtain ⟨y2, hy3, hM⟩ := bind_some hM
       refine R_call (hs1 := [hO Int (vS p1 held c1) cs]) (rest := []) rfl rfl rfl rfl (by kernel_rfl) rfl rfl (slices_Delete_int_int_ok held y1 (W (y1 + 1)) _ hy3 h3) ?_
       rintro imm03 hs2 v2 k2 le2 - ⟨p3, c3, cs2, rfl, rfl, h6⟩ -
       replace h := h.mono le2
       replace hle := hle.trans le2
       exact R_z [] [(6, vS p3 y2 c3)] <| T_w [(1, vI size), (5, vI misses), (6, vS p3 y2 c3), (8, vI x), (14, vS p trace c), (15, vI (trace.length : Int)), (16, vI t16)] <| T_cut ⟨_, _, _, _, _, (pure_some hM).symm, hle, h6, rfl, rfl⟩
     · intro hc2 hM
       exact J_region <| R_z [] [(5, vI (W (misses + 1)))] <| T_w [(1, vI size), (5, vI (W (misses + 1))), (6, vS p1 held c1), (8, vI x), (14, vS p trace c), (15, vI (trace.length : Int)), (16, vI t16)] <| T_cut ⟨_, _, _, _, _, (pure_some hM).symm, hle, h3, rfl, rfl⟩
   · rintro imm02 hs2 m2 ⟨misses2, held1, p2, c2, cs1, heq, le3, h5, rfl, rfl⟩
     subst o0
     replace h := h.mono le3
     replace hle := hle.trans le3
     refine T_seq <| J_seq <| J_region <| R_d 2 [] [(32, vS p2 held1 c2), (33, vI x)] <| R_buildSlice (cs := [vI x]) (Rp.sz Int) rfl rfl rfl rfl (by kernel_rfl) (by kernel_rfl) ?_
     intro b hb
     have h7 : RL imm02 [vI x] ([x] : List Int) := ⟨[vI x], _, rfl, rfl, rfl, rfl⟩
     obtain ⟨held2, hy4, hM⟩ := bind_some hM
     refine R_ap 3 1 1 rfl rfl rfl h5 (.inr ⟨0, rfl⟩) h7 hy4 ?_
     intro p4 c4 cs3 h8
     refine R_hs (good_pick [1] (hs' := [hO Int (vS p4 held2 c4) cs3]) rfl (by decide)) <| R_z [] [(6, vS p4 held2 c4)] <| T_seq <| J_seq <| J_region <| R_z [] [(39, .bool (decide ((held2.length : Int) > size)))] <| T_seq ?_
     obtain ⟨o01, ho01, hM⟩ := bind_some hM
     refine J_cut (fun imm' hs' m' => ∃ (held3 : List Int) (p5 : Option Addr) (c5 : Nat) (cs4 : List Value), o01 = held3 ∧ imm02.le imm' ∧ (RL imm' cs4 held3) ∧ hs' = [hO Int (vS p5 held3 c5) cs4] ∧ m' = [(1, vI size), (5, vI misses2), (6, vS p5 held3 c5), (14, vS p trace c), (15, vI (trace.length : Int)), (16, vI t16)]) ?_ ?_
     · have hle0 := hle
       have hle : imm02.le imm02 := Imm.le.refl _
       refine J_cd ho01 ?_ ?_
       · intro hc3 hM
         refine J_region <| R_d 1 [] [(40, vS p4 held2 c4)] ?_
         obtain ⟨l, hy5, hM⟩ := bind_some hM
         refine R_cut_osl 0 rfl rfl rfl rfl rfl (by kernel_rfl) rfl rfl h8 hy5 ?_
         rintro p6 c6 cs5 - h10
         exact R_hseq (hs' := [hO Int (vS p6 l c6) cs5]) rfl <| R_z [] [(6, vS p6 l c6)] <| T_w [(1, vI size), (5, vI misses2), (6, vS p6 l c6), (14, vS p trace c), (15, vI (trace.length : Int)), (16, vI t16)] <| T_cut ⟨_, _, _, _, (pure_some hM).symm, hle, h10, rfl, rfl⟩
       · intro hc3 hM
         exact J_skip <| T_w [(1, vI size), (5, vI misses2), (6, vS p4 held2 c4), (14, vS p trace c), (15, vI (trace.length : Int)), (16, vI t16)] <| T_cut ⟨_, _, _, _, (pure_some hM).symm, hle, h8, rfl, rfl⟩
     · rintro imm04 hs2 m2 ⟨held3, p5, c5, cs4, heq1, le4, h9, rfl, rfl⟩
       subst o01
       replace h := h.mono le4
       replace hle := hle.trans le4
       exact T_block_normal <| T_seq <| J_region <| R_z [] [(16, vI (W (t16 + 1)))] <| T_loop <| J_w [(1, vI size), (5, vI misses2), (6, vS p5 held3 c5), (14, vS p trace c), (15, vI (trace.length : Int)), (16, vI (W (t16 + 1)))] <| ih misses2 held3 (W (t16 + 1)) _ hM hle h h9 hg ho hx
 · intro hc1 hM
   exact J_exit <| T_then_exit <| T_then_exit <| T_hs (good_pick [] rfl (by decide)) <| T_w [(5, vI misses)] <| hx _ _ (pure_some hM).symm hle
def M.impl_LruMisses (trace : (List Int)) (size : Int) : Option (Int) := do
 let y ← M.impl_isCache trace size
 if (!y) then
  pure (-1)
 else
  let misses1 ← M.impl_LruMisses_l1 trace size 0 ([] : List Int) 0
  pure (id misses1)
theorem impl_LruMisses_ok : ∀ (trace : (List Int)) (size : Int) r, M.impl_LruMisses trace size = some r → ∀ {imm : Imm} {p : Option Addr} {c : Nat}, (SL imm (vS p trace c) trace) → Ret Try.prog 12 [vS p trace c, vI size] imm [] (impl_LruMisses_post  r) := by
 intro trace size r hM imm p c h
 unfold M.impl_LruMisses at hM
 refine ret_of_J (fn := Try.f12) (c := (bodyOf Try.f12)) Try.func12 rfl rfl ?_
 rintro B - -
 have hle : imm.le imm := Imm.le.refl _
 refine J_seq <| J_region <| R_z [] [] <| T_seq <| J_seq <| J_seq <| J_region <| R_d 2 [] [(10, vS p trace c), (11, vI size)] ?_
 obtain ⟨y, hy, hM⟩ := bind_some hM
 refine R_call (hs1 := []) (rest := []) rfl rfl rfl rfl (by kernel_rfl) rfl rfl (impl_isCache_ok trace size _ hy h) ?_
 rintro imm0 hs2 v2 k2 le - ⟨v0, rfl, rfl, rfl⟩ -
 replace h := h.mono le
 replace hle := hle.trans le
 refine R_z [] [(13, .bool (!y))] <| T_seq <| J_cd hM ?_ ?_
 · intro hc hM
   refine J_seq <| J_region <| R_z [] [(4, vI (-1))] <| T_seq <| J_ret <| T_then_ret ?_
   obtain rfl := pure_some hM
   exact T_RS ⟨_, _, (.tmp rfl ResV.nil), good_none, ⟨_, rfl, rfl, rfl⟩⟩
 · intro hc hM
   refine J_skip <| T_seq <| J_seq <| J_region <| R_z [] [(5, vI 0)] <| T_seq <| J_seq <| J_region <| R_z [] [(6, .slice none 0 0)] <| T_seq <| J_seq <| J_seq <| J_region <| R_z [] [(14, vS p trace c), (15, vI (trace.length : Int)), (16, vI 0)] <| T_seq <| J_block <| J_w [(1, vI size), (5, vI 0), (6, .slice none 0 0), (14, vS p trace c), (15, vI (trace.length : Int)), (16, vI 0)] <| J_hs (good_nil (Rp.sz Int)) ?_
   have h2 : RL imm0 [] ([] : List Int) := RepL.nil
   obtain ⟨o02, ho02, hM⟩ := bind_some hM
   refine impl_LruMisses_l1_ok trace size 0 ([] : List Int) 0 o02 ho02 (Imm.le.refl _) h h2 (fun _ _ _ h => h) (fun _ _ h => h) ?_
   intro imm05 misses1 heq2 le5
   subst o02
   replace hle := hle.trans le5
   refine T_block_here <| T_seq <| J_seq <| J_region <| R_z [] [(4, vI misses1)] <| T_seq <| J_ret ?_
   obtain rfl := pure_some hM
   exact T_RS ⟨_, _, (.tmp rfl ResV.nil), good_none, ⟨_, rfl, rfl, rfl⟩⟩
def spec_DrawLruMisses_post (r : (List Int) × Int) : Nat → Imm → List HA → Value → Prop := fun kk imm' hs' v =>
  ∃ (v0 : Value) (v1 : Value), hs' = [] ∧ v = tupV [v0, v1] ∧ SL imm' v0 r.1 ∧ v1 = .int .i64 r.2
def M.spec_DrawLruMisses (code : (List UInt8)) : Option ((List Int) × Int) := do
 let y ← M.spec_l16Open code
 let (y2, y3) ← M.spec_l10Trace y
 let (y5, y6) ← M.spec_l16Rd_num y3 ([2, 3, 1, 4, 0, 8, 40, 41, (-1)] : List Int)
 pure (y2, y5)
theorem spec_DrawLruMisses_ok : ∀ (code : (List UInt8)) r, M.spec_DrawLruMisses code = some r → ∀ {imm : Imm} {p : Option Addr} {c : Nat}, (SL imm (vS p code c) code) → Ret Try.prog 25 [vS p code c] imm [] (spec_DrawLruMisses_post  r) := by
 intro code r hM imm p c h
 unfold M.spec_DrawLruMisses at hM
 refine ret_of_J (fn := Try.f25) (c := (bodyOf Try.f25)) Try.func25 rfl rfl ?_
 rintro B - -
 have hle : imm.le imm := Imm.le.refl _
 refine J_seq <| J_region <| R_z [] [] <| T_seq <| J_seq <| J_region <| R_d 1 [] [(5, vS p code c)] ?_
 obtain ⟨y, hy, hM⟩ := bind_some hM
 refine R_call (hs1 := []) (rest := []) rfl rfl rfl rfl (by kernel_rfl) rfl rfl (spec_l16Open_ok code _ hy h) ?_
 rintro imm0 hs2 v2 k2 le - ⟨b, p1, c1, rfl, rfl, h1⟩ -
 replace hle := hle.trans le
 refine R_z [] [(4, vP b 0)] <| T_seq <| J_seq <| J_region <| R_d 1 [] [(7, vP b 0)] ?_
 obtain ⟨⟨y2, y3⟩, hy1, hM⟩ := bind_some hM
 refine R_call (hs1 := [hB b [vS p1 y.b c1, vI y.p]]) (rest := []) rfl rfl rfl rfl (by kernel_rfl) rfl rfl (spec_l10Trace_ok y _ hy1 h1) ?_
 rintro imm01 hs2 v2 k2 le1 - ⟨v0, kk, rfl, rfl, h2, h3⟩ -
 replace hle := hle.trans le1
 obtain ⟨p2, c2, rfl⟩ := h2.form
 obtain ⟨v01, rfl, h4⟩ := spec_l16Rd_open h3
 obtain ⟨p3, c3, rfl⟩ := h4.form
 refine R_d 3 [] [(9, vP b 0)] <| R_buildSlice (cs := [vI 2, vI 3, vI 1, vI 4, vI 0, vI 8, vI 40, vI 41, vI (-1)]) (Rp.sz Int) rfl rfl rfl rfl (by kernel_rfl) (by kernel_rfl) ?_
 intro b1 hb
 have h5 : RL imm01 [vI 2, vI 3, vI 1, vI 4, vI 0, vI 8, vI 40, vI 41, vI (-1)] ([2, 3, 1, 4, 0, 8, 40, 41, (-1)] : List Int) := ⟨[vI 2], _, rfl, rfl, rfl, ⟨[vI 3], _, rfl, rfl, rfl, ⟨[vI 1], _, rfl, rfl, rfl, ⟨[vI 4], _, rfl, rfl, rfl, ⟨[vI 0], _, rfl, rfl, rfl, ⟨[vI 8], _, rfl, rfl, rfl, ⟨[vI 40], _, rfl, rfl, rfl, ⟨[vI 41], _, rfl, rfl, rfl, ⟨[vI (-1)], _, rfl, rfl, rfl, rfl⟩⟩⟩⟩⟩⟩⟩⟩⟩
 refine R_freeze 0 rfl ?_
 intro imm02 le2 hl0
 have h6 := SL.of_frozen hl0 le2 h5
 replace h2 := h2.mono le2
 replace h4 := h4.mono le2
 replace hle := hle.trans le2
 obtain ⟨⟨y5, y6⟩, hy2, hM⟩ := bind_some hM
 refine R_call (hs1 := [hB b [vS p3 y3.b c3, vI y3.p]]) (rest := []) rfl rfl rfl rfl (by kernel_rfl) rfl rfl (spec_l16Rd_num_ok y3 ([2, 3, 1, 4, 0, 8, 40, 41, (-1)] : List Int) _ hy2 h4 h6) ?_
 rintro imm03 hs2 v2 k2 le3 - ⟨v02, kk1, rfl, rfl, rfl, h8⟩ -
 replace h2 := h2.mono le3
 replace hle := hle.trans le3
 obtain ⟨v03, rfl, h9⟩ := spec_l16Rd_open h8
 obtain ⟨p4, c4, rfl⟩ := h9.form
 refine R_z [] [(2, vS p2 y2 c2), (3, vI y5)] <| T_seq <| J_ret ?_
 obtain rfl := pure_some hM
 exact T_RS ⟨_, _, (.tmp rfl (.tmp rfl ResV.nil)), good_none, ⟨_, _, rfl, rfl, h2, rfl⟩⟩
def spec_DrawBestMisses_post (r : (List Int) × Int) : Nat → Imm → List HA → Value → Prop := fun kk imm' hs' v =>
  ∃ (v0 : Value) (v1 : Value), hs' = [] ∧ v = tupV [v0, v1] ∧ SL imm' v0 r.1 ∧ v1 = .int .i64 r.2
def M.spec_DrawBestMisses (code : (List UInt8)) : Option ((List Int) × Int) := do
 let (y1, y2) ← M.spec_DrawLruMisses code
 pure (y1, y2)
theorem spec_DrawBestMisses_ok : ∀ (code : (List UInt8)) r, M.spec_DrawBestMisses code = some r → ∀ {imm : Imm} {p : Option Addr} {c : Nat}, (SL imm (vS p code c) code) → Ret Try.prog 16 [vS p code c] imm [] (spec_DrawBestMisses_post  r) := by
 intro code r hM imm p c h
 unfold M.spec_DrawBestMisses at hM
 refine ret_of_J (fn := Try.f16) (c := (bodyOf Try.f16)) Try.func16 rfl rfl ?_
 rintro B - -
 have hle : imm.le imm := Imm.le.refl _
 refine J_seq <| J_region <| R_z [] [] <| T_seq <| J_seq <| J_region <| R_d 1 [] [(4, vS p code c)] ?_
 obtain ⟨⟨y1, y2⟩, hy, hM⟩ := bind_some hM
 refine R_call (hs1 := []) (rest := []) rfl rfl rfl rfl (by kernel_rfl) rfl rfl (spec_DrawLruMisses_ok code _ hy h) ?_
 rintro imm0 hs2 v2 k2 le - ⟨v0, v01, rfl, rfl, h1, rfl⟩ -
 replace hle := hle.trans le
 obtain ⟨p1, c1, rfl⟩ := h1.form
 refine R_z [] [(2, vS p1 y1 c1), (3, vI y2)] <| T_seq <| J_ret ?_
 obtain rfl := pure_some hM
 exact T_RS ⟨_, _, (.tmp rfl (.tmp rfl ResV.nil)), good_none, ⟨_, _, rfl, rfl, h1, rfl⟩⟩
def slices_Contains_int_int_post (r : Bool) : Nat → Imm → List HA → Value → Prop := fun kk imm' hs' v =>
  ∃ (v0 : Value), hs' = [] ∧ v = tupV [v0] ∧ v0 = .bool r
def M.slices_Contains_int_int (s : (List Int)) (v0 : Int) : Option (Bool) := do
 let y ← M.slices_Index_int_int s v0
 pure (decide (y ≥ 0))
theorem slices_Contains_int_int_ok : ∀ (s : (List Int)) (v0 : Int) r, M.slices_Contains_int_int s v0 = some r → ∀ {imm : Imm} {p : Option Addr} {c : Nat}, (SL imm (vS p s c) s) → Ret Try.prog 26 [vS p s c, vI v0] imm [] (slices_Contains_int_int_post  r) := by
 intro s v0 r hM imm p c h
 unfold M.slices_Contains_int_int at hM
 refine ret_of_J (fn := Try.f26) (c := (bodyOf Try.f26)) Try.func26 rfl rfl ?_
 rintro B - -
 have hle : imm.le imm := Imm.le.refl _
 refine J_seq <| J_region <| R_z [] [] <| T_seq <| J_seq <| J_region <| R_d 2 [] [(5, vS p s c), (6, vI v0)] ?_
 obtain ⟨y, hy, hM⟩ := bind_some hM
 refine R_call (hs1 := []) (rest := []) rfl rfl rfl rfl (by kernel_rfl) rfl rfl (slices_Index_int_int_ok s v0 _ hy h) ?_
 rintro imm0 hs2 v2 k2 le - ⟨v01, rfl, rfl, rfl⟩ -
 replace hle := hle.trans le
 refine R_z [] [(4, .bool (decide (y ≥ 0)))] <| T_seq <| J_ret ?_
 obtain rfl := pure_some hM
 exact T_RS ⟨_, _, (.tmp rfl ResV.nil), good_none, ⟨_, rfl, rfl, rfl⟩⟩
def impl_BestMisses_post (r : Int) : Nat → Imm → List HA → Value → Prop := fun kk imm' hs' v =>
  ∃ (v0 : Value), hs' = [] ∧ v = tupV [v0] ∧ v0 = .int .i64 r
def M.impl_BestMisses_l2 (trace : (List Int)) (t20 : Int) (held1 : List Int) (drop : Int) (latest : Int) (t40 : Int) : Option (Int) := do
 if (decide (t40 < (held1.length : Int))) then
  let x1 ← idx held1 t40
  let l ← slc trace (W (t20 + 1)) (trace.length : Int)
  let y2 ← M.slices_Index_int_int l x1
  if (decide (y2 < 0)) then
   pure (id t40)
  else
   let (drop2, latest1) ← (do
     if (decide (y2 > latest)) then
      pure (t40, y2)
     else
      pure (drop, latest)
       : Option (Int × Int))
   M.impl_BestMisses_l2 trace t20 held1 drop2 latest1 (W (t40 + 1))
 else
  pure (id drop)
 partial_fixpoint
theorem impl_BestMisses_l2_ok (trace : (List Int)) (t20 : Int) (held1 : List Int) : ∀ (drop : Int) (latest : Int) (t40 : Int) (o : Int), M.impl_BestMisses_l2 trace t20 held1 drop latest t40 = some o → ∀ {B : Base} {imm0 imm : Imm} {Q : Exit → Act → World → Prop} {size : Int} {misses : Int} {p : Option Addr} {c : Nat} {p2 : Option Addr} {c2 : Nat} {cs1 : List Value}, imm0.le imm → (SL imm (vS p trace c) trace) → (RL imm cs1 held1) → (∀ l a w, ¬ Q (.goto l) a w) → (∀ a w, ¬ Q .outgrown a w) → (∀ (imm' : Imm) (drop1 : Int), o = drop1 → imm0.le imm' → T 67 B Q (.exit 2) imm' [hO Int (vS p2 held1 c2) cs1] [(0, vS p trace c), (1, vI size), (5, vI (W (misses + 1))), (6, vS p2 held1 c2), (9, vI drop1), (18, vS p trace c), (19, vI (trace.length : Int)), (20, vI t20)]) → J Try.prog 67 B (nav (bodyOf Try.f17) [1, 1, 1, 1, 0, 1, 0, 0, 1, 1, 0, 0, 1, 1, 1, 1, 1, 1, 0, 1, 0]) Q imm [hO Int (vS p2 held1 c2) cs1] [(0, vS p trace c), (1, vI size), (5, vI (W (misses + 1))), (6, vS p2 held1 c2), (7, vI t20), (9, vI drop), (10, vI latest), (18, vS p trace c), (19, vI (trace.length : Int)), (20, vI t20), (38, vS p2 held1 c2), (39, vI (held1.length : Int)), (40, vI t40)] := by
 refine M.impl_BestMisses_l2.partial_correctness trace t20 held1 _ ?_
 intro self ih drop latest t40 o hM B imm0 imm Q size misses p c p2 c2 cs1 hle h h6 hg ho hx
 refine J_loop hg ho <| J_seq <| J_region <| R_z [] [(41, .bool (decide (t40 < (held1.length : Int))))] <| T_seq <| J_seq <| J_cd hM ?_ ?_
 · intro hc4 hM
   refine J_skip <| T_seq <| J_seq <| J_block <| J_seq <| J_region <| R_d 1 [] [(42, vI t40)] ?_
   obtain ⟨x1, hy4, hM⟩ := bind_some hM
   refine R_ixo 0 rfl rfl rfl h6 hy4 ?_
   intro ad1 ccs1 hat1 hcc hrep1
   obtain rfl := hrep1
   refine R_lo 0 0 hat1 hcc [vI x1] (vI x1) rfl rfl <| R_z [] [(11, vI t40), (12, vI x1)] <| T_seq <| J_seq <| J_region <| R_d 3 [] [(45, vS p trace c), (47, vI (W (t20 + 1)))] ?_
   obtain ⟨l, hy5, hM⟩ := bind_some hM
   refine R_sl rfl h hy5 ?_
   intro v02 h7
   obtain ⟨p3, c3, rfl⟩ := h7.form
   refine R_d 5 [] [(49, vI x1)] ?_
   obtain ⟨y2, hy6, hM⟩ := bind_some hM
   refine R_call (hs1 := []) (rest := [hO Int (vS p2 held1 c2) cs1]) rfl rfl rfl rfl (by kernel_rfl) rfl rfl (slices_Index_int_int_ok l x1 _ hy6 h7) ?_
   rintro imm02 hs2 v2 k2 le2 - ⟨v03, rfl, rfl, rfl⟩ -
   replace h := h.mono le2
   replace h6 := RepL.mono (fun _ _ => Rp.mono le2) h6
   replace hle := hle.trans le2
   refine R_z [] [(13, vI y2)] <| T_seq <| J_seq <| J_seq <| J_region <| R_z [] [(52, .bool (decide (y2 < 0)))] <| T_seq <| J_cd hM ?_ ?_
   · intro hc5 hM
     exact J_seq <| J_region <| R_z [] [(9, vI t40)] <| T_seq <| J_exit <| T_then_exit <| T_block_there rfl <| T_then_exit <| T_then_exit <| T_w [(0, vS p trace c), (1, vI size), (5, vI (W (misses + 1))), (6, vS p2 held1 c2), (9, vI t40), (18, vS p trace c), (19, vI (trace.length : Int)), (20, vI t20)] <| hx _ _ (pure_some hM).symm hle
   · intro hc5 hM
     refine J_skip <| T_seq <| J_seq <| J_region <| R_z [] [(56, .bool (decide (y2 > latest)))] <| T_seq ?_
     obtain ⟨o0, ho0, hM⟩ := bind_some hM
     refine J_cut (fun imm' hs' m' => ∃ (drop2 : Int) (latest1 : Int), o0 = (drop2, latest1) ∧ imm02.le imm' ∧ hs' = [hO Int (vS p2 held1 c2) cs1] ∧ m' = [(0, vS p trace c), (1, vI size), (5, vI (W (misses + 1))), (6, vS p2 held1 c2), (7, vI t20), (9, vI drop2), (10, vI latest1), (18, vS p trace c), (19, vI (trace.length : Int)), (20, vI t20), (38, vS p2 held1 c2), (39, vI (held1.length : Int)), (40, vI t40)]) ?_ ?_
     · have hle0 := hle
       have hle : imm02.le imm02 := Imm.le.refl _
       refine J_cd ho0 ?_ ?_
       · intro hc6 hM
         exact J_region <| R_z [] [(9, vI t40), (10, vI y2)] <| T_w [(0, vS p trace c), (1, vI size), (5, vI (W (misses + 1))), (6, vS p2 held1 c2), (7, vI t20), (9, vI t40), (10, vI y2), (18, vS p trace c), (19, vI (trace.length : Int)), (20, vI t20), (38, vS p2 held1 c2), (39, vI (held1.length : Int)), (40, vI t40)] <| T_cut ⟨_, _, (pure_some hM).symm, hle, rfl, rfl⟩
       · intro hc6 hM
         exact J_skip <| T_w [(0, vS p trace c), (1, vI size), (5, vI (W (misses + 1))), (6, vS p2 held1 c2), (7, vI t20), (9, vI drop), (10, vI latest), (18, vS p trace c), (19, vI (trace.length : Int)), (20, vI t20), (38, vS p2 held1 c2), (39, vI (held1.length : Int)), (40, vI t40)] <| T_cut ⟨_, _, (pure_some hM).symm, hle, rfl, rfl⟩
     · rintro imm03 hs2 m2 ⟨drop2, latest1, heq, le3, rfl, rfl⟩
       subst o0
       replace h := h.mono le3
       replace h6 := RepL.mono (fun _ _ => Rp.mono le3) h6
       replace hle := hle.trans le3
       exact T_block_normal <| T_seq <| J_region <| R_z [] [(40, vI (W (t40 + 1)))] <| T_loop <| J_w [(0, vS p trace c), (1, vI size), (5, vI (W (misses + 1))), (6, vS p2 held1 c2), (7, vI t20), (9, vI drop2), (10, vI latest1), (18, vS p trace c), (19, vI (trace.length : Int)), (20, vI t20), (38, vS p2 held1 c2), (39, vI (held1.length : Int)), (40, vI (W (t40 + 1)))] <| ih drop2 latest1 (W (t40 + 1)) _ hM hle h h6 hg ho hx
 · intro hc4 hM
   exact J_exit <| T_then_exit <| T_then_exit <| T_w [(0, vS p trace c), (1, vI size), (5, vI (W (misses + 1))), (6, vS p2 held1 c2), (9, vI drop), (18, vS p trace c), (19, vI (trace.length : Int)), (20, vI t20)] <| hx _ _ (pure_some hM).symm hle
def M.impl_BestMisses_l1 (trace : (List Int)) (size : Int) (misses : Int) (held : List Int) (t20 : Int) : Option (Int) := do
 if (decide (t20 < (trace.length : Int))) then
  let x ← idx trace t20
  let y1 ← M.slices_Contains_int_int held x
  if y1 then
   M.impl_BestMisses_l1 trace size misses held (W (t20 + 1))
  else
   let held1 ← app 8 held ([x] : List Int)
   if (decide ((held1.length : Int) ≤ size)) then
    M.impl_BestMisses_l1 trace size (W (misses + 1)) held1 (W (t20 + 1))
   else
    let drop1 ← M.impl_BestMisses_l2 trace t20 held1 0 (-1) 0
    let y3 ← M.slices_Delete_int_int held1 drop1 (W (drop1 + 1))
    M.impl_BestMisses_l1 trace size (W (misses + 1)) y3 (W (t20 + 1))
 else
  pure (id misses)
 partial_fixpoint
theorem impl_BestMisses_l1_ok (trace : (List Int)) (size : Int) : ∀ (misses : Int) (held : List Int) (t20 : Int) (o : Int), M.impl_BestMisses_l1 trace size misses held t20 = some o → ∀ {B : Base} {imm0 imm : Imm} {Q : Exit → Act → World → Prop}  {p : Option Addr} {c : Nat} {p1 : Option Addr} {c1 : Nat} {cs : List Value}, imm0.le imm → (SL imm (vS p trace c) trace) → (RL imm cs held) → (∀ l a w, ¬ Q (.goto l) a w) → (∀ a w, ¬ Q .outgrown a w) → (∀ (imm' : Imm) (misses1 : Int), o = misses1 → imm0.le imm' → T 67 B Q (.exit 0) imm' [] [(5, vI misses1)]) → J Try.prog 67 B (nav (bodyOf Try.f17) [1, 1, 1, 1, 0, 1, 0]) Q imm [hO Int (vS p1 held c1) cs] [(0, vS p trace c), (1, vI size), (5, vI misses), (6, vS p1 held c1), (18, vS p trace c), (19, vI (trace.length : Int)), (20, vI t20)] := by
 refine M.impl_BestMisses_l1.partial_correctness trace size _ ?_
 intro self ih misses held t20 o hM B imm0 imm Q p c p1 c1 cs hle h h3 hg ho hx
 refine J_loop hg ho <| J_seq <| J_region <| R_z [] [(21, .bool (decide (t20 < (trace.length : Int))))] <| T_seq <| J_seq <| J_cd hM ?_ ?_
 · intro hc1 hM
   refine J_skip <| T_seq <| J_seq <| J_block <| J_seq <| J_region <| R_d 1 [] [(22, vI t20)] ?_
   obtain ⟨x, hy1, hM⟩ := bind_some hM
   refine R_ix rfl rfl h hy1 ?_
   intro ad ccs hat hrep
   obtain rfl := hrep
   refine R_la 0 hat [vI x] (vI x) rfl <| R_z [] [(7, vI t20), (8, vI x)] <| T_seq <| J_seq <| J_seq <| J_region <| R_d 2 [] [(25, vS p1 held c1), (26, vI x)] ?_
   obtain ⟨y1, hy2, hM⟩ := bind_some hM
   refine R_call_lend (L := [hO Int (vS p1 held c1) cs]) (hs1 := []) (rest := []) rfl rfl rfl rfl (by kernel_rfl) rfl rfl (fun i1 le1 hl1 => slices_Contains_int_int_ok held x _ hy2 ⟨_, hl1 (hO Int (vS p1 held c1) cs) (by simp), RepL.mono (fun _ _ => Rp.mono le1) h3⟩) ?_
   rintro - imm01 hs2 v2 k2 le1 - - - ⟨v01, rfl, rfl, rfl⟩ -
   replace h := h.mono le1
   replace h3 := RepL.mono (fun _ _ => Rp.mono le1) h3
   replace hle := hle.trans le1
   refine R_end rfl <| T_seq <| J_cd hM ?_ ?_
   · intro hc2 hM
     exact J_exit <| T_then_exit <| T_block_here <| T_seq <| J_region <| R_z [] [(20, vI (W (t20 + 1)))] <| T_loop <| J_w [(0, vS p trace c), (1, vI size), (5, vI misses), (6, vS p1 held c1), (18, vS p trace c), (19, vI (trace.length : Int)), (20, vI (W (t20 + 1)))] <| ih misses held (W (t20 + 1)) _ hM hle h h3 hg ho hx
   · intro hc2 hM
     refine J_skip <| T_seq <| J_seq <| J_region <| R_z [] [(5, vI (W (misses + 1)))] <| T_seq <| J_seq <| J_region <| R_d 2 [] [(30, vS p1 held c1), (31, vI x)] <| R_buildSlice (cs := [vI x]) (Rp.sz Int) rfl rfl rfl rfl (by kernel_rfl) (by kernel_rfl) ?_
     intro b hb
     have h5 : RL imm01 [vI x] ([x] : List Int) := ⟨[vI x], _, rfl, rfl, rfl, rfl⟩
     obtain ⟨held1, hy3, hM⟩ := bind_some hM
     refine R_ap 3 1 1 rfl rfl rfl h3 (.inr ⟨0, rfl⟩) h5 hy3 ?_
     intro p2 c2 cs1 h6
     refine R_hs (good_pick [1] (hs' := [hO Int (vS p2 held1 c2) cs1]) rfl (by decide)) <| R_z [] [(6, vS p2 held1 c2)] <| T_seq <| J_seq <| J_seq <| J_region <| R_z [] [(37, .bool (decide ((held1.length : Int) ≤ size)))] <| T_seq <| J_cd hM ?_ ?_
     · intro hc3 hM
       exact J_exit <| T_then_exit <| T_block_here <| T_seq <| J_region <| R_z [] [(20, vI (W (t20 + 1)))] <| T_loop <| J_w [(0, vS p trace c), (1, vI size), (5, vI (W (misses + 1))), (6, vS p2 held1 c2), (18, vS p trace c), (19, vI (trace.length : Int)), (20, vI (W (t20 + 1)))] <| ih (W (misses + 1)) held1 (W (t20 + 1)) _ hM hle h h6 hg ho hx
     · intro hc3 hM
       refine J_skip <| T_seq <| J_seq <| J_region <| R_z [] [(9, vI 0), (10, vI (-1))] <| T_seq <| J_seq <| J_seq <| J_region <| R_z [] [(38, vS p2 held1 c2), (39, vI (held1.length : Int)), (40, vI 0)] <| T_seq <| J_block <| J_w [(0, vS p trace c), (1, vI size), (5, vI (W (misses + 1))), (6, vS p2 held1 c2), (7, vI t20), (9, vI 0), (10, vI (-1)), (18, vS p trace c), (19, vI (trace.length : Int)), (20, vI t20), (38, vS p2 held1 c2), (39, vI (held1.length : Int)), (40, vI 0)] ?_
       obtain ⟨o01, ho01, hM⟩ := bind_some hM
       refine impl_BestMisses_l2_ok trace t20 held1 0 (-1) 0 o01 ho01 (Imm.le.refl _) h h6 (fun _ _ _ h => hg _ _ _ h) (fun _ _ h => ho _ _ h) ?_
       intro imm04 drop1 heq1 le4
       subst o01
       replace h := h.mono le4
       replace h6 := RepL.mono (fun _ _ => Rp.mono le4) h6
       replace hle := hle.trans le4
       refine T_block_here <| T_seq <| J_region <| R_d 4 [] [(60, vS p2 held1 c2), (61, vI drop1), (63, vI (W (drop1 + 1)))] ?_
       obtain ⟨y3, hy7, hM⟩ := bind_some hM
       refine R_call (hs1 := [hO Int (vS p2 held1 c2) cs1]) (rest := []) rfl rfl rfl rfl (by kernel_rfl) rfl rfl (slices_Delete_int_int_ok held1 drop1 (W (drop1 + 1)) _ hy7 h6) ?_
       rintro imm05 hs2 v2 k2 le5 - ⟨p4, c4, cs2, rfl, rfl, h9⟩ -
       replace h := h.mono le5
       replace hle := hle.trans le5
       exact R_z [] [(6, vS p4 y3 c4)] <| T_block_normal <| T_seq <| J_region <| R_z [] [(20, vI (W (t20 + 1)))] <| T_loop <| J_w [(0, vS p trace c), (1, vI size), (5, vI (W (misses + 1))), (6, vS p4 y3 c4), (18, vS p trace c), (19, vI (trace.length : Int)), (20, vI (W (t20 + 1)))] <| ih (W (misses + 1)) y3 (W (t20 + 1)) _ hM hle h h9 hg ho hx
 · intro hc1 hM
   exact J_exit <| T_then_exit <| T_then_exit <| T_hs (good_pick [] rfl (by decide)) <| T_w [(5, vI misses)] <| hx _ _ (pure_some hM).symm hle
def M.impl_BestMisses (trace : (List Int)) (size : Int) : Option (Int) := do
 let y ← M.impl_isCache trace size
 if (!y) then
  pure (-1)
 else
  let misses1 ← M.impl_BestMisses_l1 trace size 0 ([] : List Int) 0
  pure (id misses1)
theorem impl_BestMisses_ok : ∀ (trace : (List Int)) (size : Int) r, M.impl_BestMisses trace size = some r → ∀ {imm : Imm} {p : Option Addr} {c : Nat}, (SL imm (vS p trace c) trace) → Ret Try.prog 17 [vS p trace c, vI size] imm [] (impl_BestMisses_post  r) := by
 intro trace size r hM imm p c h
 unfold M.impl_BestMisses at hM
 refine ret_of_J (fn := Try.f17) (c := (bodyOf Try.f17)) Try.func17 rfl rfl ?_
 rintro B - -
 have hle : imm.le imm := Imm.le.refl _
 refine J_seq <| J_region <| R_z [] [] <| T_seq <| J_seq <| J_seq <| J_region <| R_d 2 [] [(14, vS p trace c), (15, vI size)] ?_
 obtain ⟨y, hy, hM⟩ := bind_some hM
 refine R_call (hs1 := []) (rest := []) rfl rfl rfl rfl (by kernel_rfl) rfl rfl (impl_isCache_ok trace size _ hy h) ?_
 rintro imm0 hs2 v2 k2 le - ⟨v0, rfl, rfl, rfl⟩ -
 replace h := h.mono le
 replace hle := hle.trans le
 refine R_z [] [(17, .bool (!y))] <| T_seq <| J_cd hM ?_ ?_
 · intro hc hM
   refine J_seq <| J_region <| R_z [] [(4, vI (-1))] <| T_seq <| J_ret <| T_then_ret ?_
   obtain rfl := pure_some hM
   exact T_RS ⟨_, _, (.tmp rfl ResV.nil), good_none, ⟨_, rfl, rfl, rfl⟩⟩
 · intro hc hM
   refine J_skip <| T_seq <| J_seq <| J_region <| R_z [] [(5, vI 0)] <| T_seq <| J_seq <| J_region <| R_z [] [(6, .slice none 0 0)] <| T_seq <| J_seq <| J_seq <| J_region <| R_z [] [(18, vS p trace c), (19, vI (trace.length : Int)), (20, vI 0)] <| T_seq <| J_block <| J_w [(0, vS p trace c), (1, vI size), (5, vI 0), (6, .slice none 0 0), (18, vS p trace c), (19, vI (trace.length : Int)), (20, vI 0)] <| J_hs (good_nil (Rp.sz Int)) ?_
   have h2 : RL imm0 [] ([] : List Int) := RepL.nil
   obtain ⟨o02, ho02, hM⟩ := bind_some hM
   refine impl_BestMisses_l1_ok trace size 0 ([] : List Int) 0 o02 ho02 (Imm.le.refl _) h h2 (fun _ _ _ h => h) (fun _ _ h => h) ?_
   intro imm06 misses1 heq2 le6
   subst o02
   replace hle := hle.trans le6
   refine T_block_here <| T_seq <| J_seq <| J_region <| R_z [] [(4, vI misses1)] <| T_seq <| J_ret ?_
   obtain rfl := pure_some hM
   exact T_RS ⟨_, _, (.tmp rfl ResV.nil), good_none, ⟨_, rfl, rfl, rfl⟩⟩
def spec_l10Fits_post (r : Bool) : Nat → Imm → List HA → Value → Prop := fun kk imm' hs' v =>
  ∃ (v0 : Value), hs' = [] ∧ v = tupV [v0] ∧ v0 = .bool r
def M.spec_l10Fits (trace : (List Int)) (size : Int) : Option (Bool) := do
 let t4 ← (do
   if (decide ((trace.length : Int) ≤ 600)) then
    if (decide (size ≥ 0)) then
     pure (decide (size ≤ 40))
    else
     pure false
   else
    pure false
     : Option Bool)
 pure (id t4)
theorem spec_l10Fits_ok : ∀ (trace : (List Int)) (size : Int) r, M.spec_l10Fits trace size = some r → ∀ {imm : Imm} {p : Option Addr} {c : Nat}, (SL imm (vS p trace c) trace) → Ret Try.prog 27 [vS p trace c, vI size] imm [] (spec_l10Fits_post  r) := by
 intro trace size r hM imm p c h
 unfold M.spec_l10Fits at hM
 refine ret_of_J (fn := Try.f27) (c := (bodyOf Try.f27)) Try.func27 rfl rfl ?_
 rintro B - -
 have hle : imm.le imm := Imm.le.refl _
 refine J_seq <| J_region <| R_z [] [] <| T_seq <| J_seq ?_
 obtain ⟨o0, ho0, hM⟩ := bind_some hM
 refine J_cut (fun imm' hs' m' => ∃ (t4 : Bool), o0 = t4 ∧ imm.le imm' ∧ hs' = [] ∧ m' = [(4, .bool t4)]) ?_ ?_
 · have hle0 := hle
   have hle : imm.le imm := Imm.le.refl _
   refine J_region <| R_d 4 [] [(8, .bool (decide ((trace.length : Int) ≤ 600)))] ?_
   cases hc : (decide ((trace.length : Int) ≤ 600)) with
   | true =>
    have hM0 := if_some_true hc ho0
    try rw [hc]
    refine R_d 8 [] [(12, .bool (decide (size ≥ 0)))] ?_
    cases hc1 : (decide (size ≥ 0)) with
    | true =>
     have hM01 := if_some_true hc1 hM0
     try rw [hc1]
     exact R_z [] [(4, .bool (decide (size ≤ 40)))] <| T_w [(4, .bool (decide (size ≤ 40)))] <| T_cut ⟨_, (pure_some hM01).symm, hle, rfl, rfl⟩
    | false =>
     have hM02 := if_some_false hc1 hM0
     try rw [hc1]
     exact R_z [] [(4, .bool false)] <| T_w [(4, .bool false)] <| T_cut ⟨_, (pure_some hM02).symm, hle, rfl, rfl⟩
   | false =>
    have hM03 := if_some_false hc ho0
    try rw [hc]
    exact R_z [] [(4, .bool false)] <| T_w [(4, .bool false)] <| T_cut ⟨_, (pure_some hM03).symm, hle, rfl, rfl⟩
 · rintro imm0 hs2 m2 ⟨t4, heq, le, rfl, rfl⟩
   subst o0
   replace hle := hle.trans le
   refine T_seq <| J_ret ?_
   obtain rfl := pure_some hM
   exact T_RS ⟨_, _, (.tmp rfl ResV.nil), good_none, ⟨_, rfl, rfl, rfl⟩⟩
def spec_l6Has_post (r : Bool) : Nat → Imm → List HA → Value → Prop := fun kk imm' hs' v =>
  ∃ (v0 : Value), hs' = [] ∧ v = tupV [v0] ∧ v0 = .bool r
def M.spec_l6Has_l1 (list : (List Int)) (n0 : Int) (i : Int) : Option (Out Unit (Bool)) := do
 if (decide (i < (list.length : Int))) then
  let x ← idx list i
  if (x == n0) then
   pure (.ret true)
  else
   M.spec_l6Has_l1 list n0 (W (i + 1))
 else
  pure (.done ())
 partial_fixpoint
theorem spec_l6Has_l1_ok (list : (List Int)) (n0 : Int) : ∀ (i : Int) (o : Out Unit (Bool)), M.spec_l6Has_l1 list n0 i = some o → ∀ {B : Base} {imm0 imm : Imm} {Q : Exit → Act → World → Prop}  {p : Option Addr} {c : Nat}, imm0.le imm → (SL imm (vS p list c) list) → (∀ l a w, ¬ Q (.goto l) a w) → (∀ a w, ¬ Q .outgrown a w) → (∀ (imm' : Imm) , o = (.done ()) → imm0.le imm' → T 18 B Q (.exit 0) imm' [] []) → (∀ r imm' hs' m', o = (.ret r) → imm0.le imm' → RS Try.prog Try.f28 B (spec_l6Has_post  r) imm' hs' m' → T 18 B Q .ret imm' hs' m') → J Try.prog 18 B (nav (bodyOf Try.f28) [1, 0, 1, 0]) Q imm [] [(0, vS p list c), (1, vI n0), (5, vI i)] := by
 refine M.spec_l6Has_l1.partial_correctness list n0 _ ?_
 intro self ih i o hM B imm0 imm Q p c hle h hg ho hx hr
 refine J_loop hg ho <| J_seq <| J_seq <| J_region <| R_z [] [(9, .bool (decide (i < (list.length : Int))))] <| T_seq <| J_cd hM ?_ ?_
 · intro hc hM
   refine J_skip <| T_seq <| J_seq <| J_block <| J_seq <| J_region <| R_d 2 [] [(12, vS p list c), (13, vI i)] ?_
   obtain ⟨x, hy, hM⟩ := bind_some hM
   refine R_ix rfl rfl h hy ?_
   intro ad ccs hat hrep
   obtain rfl := hrep
   refine R_la 0 hat [vI x] (vI x) rfl <| R_z [] [(17, .bool (x == n0))] <| T_seq <| J_cd hM ?_ ?_
   · intro hc1 hM
     exact J_seq <| J_region <| R_z [] [(4, .bool true)] <| T_seq <| J_ret <| T_block_ret <| T_then_ret <| T_then_ret <| hr _ _ _ _ (pure_some hM).symm hle ⟨_, _, (.tmp rfl ResV.nil), good_none, ⟨_, rfl, rfl, rfl⟩⟩
   · intro hc1 hM
     exact J_skip <| T_block_normal <| T_seq <| J_region <| R_z [] [(5, vI (W (i + 1)))] <| T_loop <| J_w [(0, vS p list c), (1, vI n0), (5, vI (W (i + 1)))] <| ih (W (i + 1)) _ hM hle h hg ho hx hr
 · intro hc hM
   exact J_exit <| T_then_exit <| T_then_exit <| T_w [] <| hx _  (pure_some hM).symm hle
def M.spec_l6Has (list : (List Int)) (n0 : Int) : Option (Bool) := do
 match ← M.spec_l6Has_l1 list n0 0 with
 | .ret r0 => pure r0
 | .done _ =>
  pure false
theorem spec_l6Has_ok : ∀ (list : (List Int)) (n0 : Int) r, M.spec_l6Has list n0 = some r → ∀ {imm : Imm} {p : Option Addr} {c : Nat}, (SL imm (vS p list c) list) → Ret Try.prog 28 [vS p list c, vI n0] imm [] (spec_l6Has_post  r) := by
 intro list n0 r hM imm p c h
 unfold M.spec_l6Has at hM
 refine ret_of_J (fn := Try.f28) (c := (bodyOf Try.f28)) Try.func28 rfl rfl ?_
 rintro B - -
 have hle : imm.le imm := Imm.le.refl _
 refine J_seq <| J_region <| R_z [] [] <| T_seq <| J_seq <| J_seq <| J_region <| R_z [] [(5, vI 0)] <| T_seq <| J_block <| J_w [(0, vS p list c), (1, vI n0), (5, vI 0)] ?_
 obtain ⟨o0, ho0, hM⟩ := bind_some hM
 refine spec_l6Has_l1_ok list n0 0 o0 ho0 (Imm.le.refl _) h (fun _ _ _ h => h) (fun _ _ h => h) ?_ ?_
 · intro imm0  heq le
   subst o0
   replace hle := hle.trans le
   refine T_block_here <| T_seq <| J_seq <| J_region <| R_z [] [(4, .bool false)] <| T_seq <| J_ret ?_
   obtain rfl := pure_some hM
   exact T_RS ⟨_, _, (.tmp rfl ResV.nil), good_none, ⟨_, rfl, rfl, rfl⟩⟩
 · intro r0 imm9 hs9 m9 heq9 le9 hrs9
   subst heq9
   refine T_block_ret <| T_then_ret ?_
   obtain rfl := pure_some hM
   exact T_RS hrs9
def spec_l10Next_post (r : Int) : Nat → Imm → List HA → Value → Prop := fun kk imm' hs' v =>
  ∃ (v0 : Value), hs' = [] ∧ v = tupV [v0] ∧ v0 = .int .i64 r
def M.spec_l10Next_l1 (trace : (List Int)) (cell : Int) (i : Int) : Option (Out Unit (Int)) := do
 if (decide (i < (trace.length : Int))) then
  let x ← idx trace i
  if (x == cell) then
   pure (.ret i)
  else
   M.spec_l10Next_l1 trace cell (W (i + 1))
 else
  pure (.done ())
 partial_fixpoint
theorem spec_l10Next_l1_ok (trace : (List Int)) (cell : Int) : ∀ (i : Int) (o : Out Unit (Int)), M.spec_l10Next_l1 trace cell i = some o → ∀ {B : Base} {imm0 imm : Imm} {Q : Exit → Act → World → Prop}  {p : Option Addr} {c : Nat}, imm0.le imm → (SL imm (vS p trace c) trace) → (∀ l a w, ¬ Q (.goto l) a w) → (∀ a w, ¬ Q .outgrown a w) → (∀ (imm' : Imm) , o = (.done ()) → imm0.le imm' → T 24 B Q (.exit 0) imm' [] [(0, vS p trace c)]) → (∀ r imm' hs' m', o = (.ret r) → imm0.le imm' → RS Try.prog Try.f29 B (spec_l10Next_post  r) imm' hs' m' → T 24 B Q .ret imm' hs' m') → J Try.prog 24 B (nav (bodyOf Try.f29) [1, 0, 1, 0]) Q imm [] [(0, vS p trace c), (2, vI cell), (7, vI i)] := by
 refine M.spec_l10Next_l1.partial_correctness trace cell _ ?_
 intro self ih i o hM B imm0 imm Q p c hle h hg ho hx hr
 refine J_loop hg ho <| J_seq <| J_seq <| J_region <| R_z [] [(12, .bool (decide (i < (trace.length : Int))))] <| T_seq <| J_cd hM ?_ ?_
 · intro hc hM
   refine J_skip <| T_seq <| J_seq <| J_block <| J_seq <| J_region <| R_d 2 [] [(15, vS p trace c), (16, vI i)] ?_
   obtain ⟨x, hy, hM⟩ := bind_some hM
   refine R_ix rfl rfl h hy ?_
   intro ad ccs hat hrep
   obtain rfl := hrep
   refine R_la 0 hat [vI x] (vI x) rfl <| R_z [] [(20, .bool (x == cell))] <| T_seq <| J_cd hM ?_ ?_
   · intro hc1 hM
     exact J_seq <| J_region <| R_z [] [(6, vI i)] <| T_seq <| J_ret <| T_block_ret <| T_then_ret <| T_then_ret <| hr _ _ _ _ (pure_some hM).symm hle ⟨_, _, (.tmp rfl ResV.nil), good_none, ⟨_, rfl, rfl, rfl⟩⟩
   · intro hc1 hM
     exact J_skip <| T_block_normal <| T_seq <| J_region <| R_z [] [(7, vI (W (i + 1)))] <| T_loop <| J_w [(0, vS p trace c), (2, vI cell), (7, vI (W (i + 1)))] <| ih (W (i + 1)) _ hM hle h hg ho hx hr
 · intro hc hM
   exact J_exit <| T_then_exit <| T_then_exit <| T_w [(0, vS p trace c)] <| hx _  (pure_some hM).symm hle
def M.spec_l10Next (trace : (List Int)) (from0 : Int) (cell : Int) : Option (Int) := do
 match ← M.spec_l10Next_l1 trace cell from0 with
 | .ret r0 => pure r0
 | .done _ =>
  pure (trace.length : Int)
theorem spec_l10Next_ok : ∀ (trace : (List Int)) (from0 : Int) (cell : Int) r, M.spec_l10Next trace from0 cell = some r → ∀ {imm : Imm} {p : Option Addr} {c : Nat}, (SL imm (vS p trace c) trace) → Ret Try.prog 29 [vS p trace c, vI from0, vI cell] imm [] (spec_l10Next_post  r) := by
 intro trace from0 cell r hM imm p c h
 unfold M.spec_l10Next at hM
 refine ret_of_J (fn := Try.f29) (c := (bodyOf Try.f29)) Try.func29 rfl rfl ?_
 rintro B - -
 have hle : imm.le imm := Imm.le.refl _
 refine J_seq <| J_region <| R_z [] [] <| T_seq <| J_seq <| J_seq <| J_region <| R_z [] [(7, vI from0)] <| T_seq <| J_block <| J_w [(0, vS p trace c), (2, vI cell), (7, vI from0)] ?_
 obtain ⟨o0, ho0, hM⟩ := bind_some hM
 refine spec_l10Next_l1_ok trace cell from0 o0 ho0 (Imm.le.refl _) h (fun _ _ _ h => h) (fun _ _ h => h) ?_ ?_
 · intro imm0  heq le
   subst o0
   replace h := h.mono le
   replace hle := hle.trans le
   refine T_block_here <| T_seq <| J_seq <| J_region <| R_z [] [(6, vI (trace.length : Int))] <| T_seq <| J_ret ?_
   obtain rfl := pure_some hM
   exact T_RS ⟨_, _, (.tmp rfl ResV.nil), good_none, ⟨_, rfl, rfl, rfl⟩⟩
 · intro r0 imm9 hs9 m9 heq9 le9 hrs9
   subst heq9
   refine T_block_ret <| T_then_ret ?_
   obtain rfl := pure_some hM
   exact T_RS hrs9
def spec_BestMisses_post (r : Int) : Nat → Imm → List HA → Value → Prop := fun kk imm' hs' v =>
  ∃ (v0 : Value), hs' = [] ∧ v = tupV [v0] ∧ v0 = .int .i64 r
def M.spec_BestMisses_l2 (trace : (List Int)) (i : Int) (held1 : List Int) (worst : Int) (k0 : Int) : Option (Int) := do
 if (decide (k0 < (held1.length : Int))) then
  let x2 ← idx held1 k0
  let y2 ← M.spec_l10Next trace (W (i + 1)) x2
  let x3 ← idx held1 worst
  let y3 ← M.spec_l10Next trace (W (i + 1)) x3
  let worst2 ← (do
    if (decide (y2 > y3)) then
     pure (id k0)
    else
     pure (id worst)
      : Option Int)
  M.spec_BestMisses_l2 trace i held1 worst2 (W (k0 + 1))
 else
  pure (id worst)
 partial_fixpoint
theorem spec_BestMisses_l2_ok (trace : (List Int)) (i : Int) (held1 : List Int) : ∀ (worst : Int) (k0 : Int) (o : Int), M.spec_BestMisses_l2 trace i held1 worst k0 = some o → ∀ {B : Base} {imm0 imm : Imm} {Q : Exit → Act → World → Prop} {size : Int} {n0 : Int} {p : Option Addr} {c : Nat} {p2 : Option Addr} {c2 : Nat} {cs1 : List Value}, imm0.le imm → (SL imm (vS p trace c) trace) → (RL imm cs1 held1) → (∀ l a w, ¬ Q (.goto l) a w) → (∀ a w, ¬ Q .outgrown a w) → (∀ (imm' : Imm) (worst1 : Int), o = worst1 → imm0.le imm' → T 75 B Q (.exit 2) imm' [hO Int (vS p2 held1 c2) cs1] [(0, vS p trace c), (1, vI size), (5, vI (W (n0 + 1))), (6, vS p2 held1 c2), (7, vI i), (8, vI worst1)]) → J Try.prog 75 B (nav (bodyOf Try.f18) [1, 1, 1, 1, 0, 1, 0, 0, 1, 0, 0, 1, 1, 1, 1, 1, 0, 1, 0]) Q imm [hO Int (vS p2 held1 c2) cs1] [(0, vS p trace c), (1, vI size), (5, vI (W (n0 + 1))), (6, vS p2 held1 c2), (7, vI i), (8, vI worst), (9, vI k0)] := by
 refine M.spec_BestMisses_l2.partial_correctness trace i held1 _ ?_
 intro self ih worst k0 o hM B imm0 imm Q size n0 p c p2 c2 cs1 hle h h6 hg ho hx
 refine J_loop hg ho <| J_seq <| J_seq <| J_region <| R_z [] [(43, .bool (decide (k0 < (held1.length : Int))))] <| T_seq <| J_cd hM ?_ ?_
 · intro hc4 hM
   refine J_skip <| T_seq <| J_seq <| J_block <| J_seq ?_
   obtain ⟨x2, hy5, hM⟩ := bind_some hM
   obtain ⟨y2, hy6, hM⟩ := bind_some hM
   obtain ⟨x3, hy7, hM⟩ := bind_some hM
   obtain ⟨y3, hy8, hM⟩ := bind_some hM
   refine J_any [.p (vS p trace c) [], .p (vI i) [], .p (vI (W (i + 1))) [], .p (vS p2 held1 c2) [], .p (vI k0) [], .x (fun imm' v hx => ∃ (ad2 : Addr), v = .pointer (some ad2) ∧ hx = [] ∧ (AtO (vS p2 held1 c2) (Rp.sz Int) k0.toNat ad2) ∧ ((cs1.drop (k0.toNat * Rp.sz Int)).take (Rp.sz Int) = [vI x2])), .q (vI x2), .q (vI y2), .p (vS p trace c) [], .p (vI i) [], .p (vI (W (i + 1))) [], .p (vS p2 held1 c2) [], .p (vI worst) [], .x (fun imm' v hx => ∃ (ad3 : Addr), v = .pointer (some ad3) ∧ hx = [] ∧ (AtO (vS p2 held1 c2) (Rp.sz Int) worst.toNat ad3) ∧ ((cs1.drop (worst.toNat * Rp.sz Int)).take (Rp.sz Int) = [vI x3])), .q (vI x3), .q (vI y3), .p (.bool (decide (y2 > y3))) []] [[], [], [(1, false)], [], [], [(3, false), (4, false)], [(5, false)], [(0, false), (2, false), (6, false)], [], [], [(9, false)], [], [], [(11, false), (12, false)], [(13, false)], [(8, false), (10, false), (14, false)], [(7, false), (15, false)]] [hO Int (vS p2 held1 c2) cs1] [] [(16, false)] (good_pick [0] rfl (by decide)) ?_ ?_
   · refine Op <| Op <| Op <| Op <| Op <| Ox ?_ <| Oq ?_ <| Oq ?_ <| Op <| Op <| Op <| Op <| Op <| Ox ?_ <| Oq ?_ <| Oq ?_ <| Op <| On
     · intro imm1 hf le1
       refine Ins_cons ?_
       rintro _ _ ⟨rfl, rfl⟩
       refine Ins_cons ?_
       rintro _ _ ⟨rfl, rfl⟩
       refine Ins_nil <| R_isw (hO Int (vS p2 held1 c2) cs1 :: hf) [(49, vS p2 held1 c2), (50, vI k0)] ?_
       have hle := Imm.le.refl imm1
       replace h6 := RepL.mono (fun _ _ => Rp.mono le1) h6
       refine R_ixo 0 rfl rfl rfl h6 hy5 ?_
       intro ad2 ccs2 hat2 hcc hrep2
       obtain rfl := hrep2
       exact R_out (hx := []) rfl hle rfl (out_some rfl) ⟨_, rfl, rfl, hat2, hcc⟩
     · intro imm1 hf le1
       refine Ins_cons ?_
       rintro _ _ ⟨ad2, rfl, rfl, hat2, hcc⟩
       refine Ins_nil <| R_isw (hO Int (vS p2 held1 c2) cs1 :: hf) [(51, .pointer (some ad2))] ?_
       have hle := Imm.le.refl imm1
       exact R_lo 0 0 hat2 hcc [vI x2] (vI x2) rfl rfl <| R_out (hx := []) rfl hle rfl (out_some rfl) ⟨rfl, rfl⟩
     · intro imm1 hf le1
       refine Ins_cons ?_
       rintro _ _ ⟨rfl, rfl⟩
       refine Ins_cons ?_
       rintro _ _ ⟨rfl, rfl⟩
       refine Ins_cons ?_
       rintro _ _ ⟨rfl, rfl⟩
       refine Ins_nil <| R_isw (hO Int (vS p2 held1 c2) cs1 :: hf) [(46, vS p trace c), (48, vI (W (i + 1))), (52, vI x2)] ?_
       have hle := Imm.le.refl imm1
       replace h := h.mono le1
       replace h6 := RepL.mono (fun _ _ => Rp.mono le1) h6
       refine R_call (hs1 := []) (rest := (hO Int (vS p2 held1 c2) cs1 :: hf)) rfl rfl rfl rfl (by kernel_rfl) rfl rfl (spec_l10Next_ok trace (W (i + 1)) x2 _ hy6 h) ?_
       rintro imm02 hs2 v2 k2 le2 - ⟨v02, rfl, rfl, rfl⟩ -
       replace h := h.mono le2
       replace h6 := RepL.mono (fun _ _ => Rp.mono le2) h6
       replace hle := hle.trans le2
       exact R_out (hx := []) rfl hle rfl (out_some rfl) ⟨rfl, rfl⟩
     · intro imm1 hf le1
       refine Ins_cons ?_
       rintro _ _ ⟨rfl, rfl⟩
       refine Ins_cons ?_
       rintro _ _ ⟨rfl, rfl⟩
       refine Ins_nil <| R_isw (hO Int (vS p2 held1 c2) cs1 :: hf) [(57, vS p2 held1 c2), (58, vI worst)] ?_
       have hle := Imm.le.refl imm1
       replace h6 := RepL.mono (fun _ _ => Rp.mono le1) h6
       refine R_ixo 0 rfl rfl rfl h6 hy7 ?_
       intro ad3 ccs3 hat3 hcc1 hrep3
       obtain rfl := hrep3
       exact R_out (hx := []) rfl hle rfl (out_some rfl) ⟨_, rfl, rfl, hat3, hcc1⟩
     · intro imm1 hf le1
       refine Ins_cons ?_
       rintro _ _ ⟨ad3, rfl, rfl, hat3, hcc1⟩
       refine Ins_nil <| R_isw (hO Int (vS p2 held1 c2) cs1 :: hf) [(59, .pointer (some ad3))] ?_
       have hle := Imm.le.refl imm1
       exact R_lo 0 0 hat3 hcc1 [vI x3] (vI x3) rfl rfl <| R_out (hx := []) rfl hle rfl (out_some rfl) ⟨rfl, rfl⟩
     · intro imm1 hf le1
       refine Ins_cons ?_
       rintro _ _ ⟨rfl, rfl⟩
       refine Ins_cons ?_
       rintro _ _ ⟨rfl, rfl⟩
       refine Ins_cons ?_
       rintro _ _ ⟨rfl, rfl⟩
       refine Ins_nil <| R_isw (hO Int (vS p2 held1 c2) cs1 :: hf) [(54, vS p trace c), (56, vI (W (i + 1))), (60, vI x3)] ?_
       have hle := Imm.le.refl imm1
       replace h := h.mono le1
       replace h6 := RepL.mono (fun _ _ => Rp.mono le1) h6
       refine R_call (hs1 := []) (rest := (hO Int (vS p2 held1 c2) cs1 :: hf)) rfl rfl rfl rfl (by kernel_rfl) rfl rfl (spec_l10Next_ok trace (W (i + 1)) x3 _ hy8 h) ?_
       rintro imm03 hs2 v2 k2 le3 - ⟨v03, rfl, rfl, rfl⟩ -
       replace h := h.mono le3
       replace h6 := RepL.mono (fun _ _ => Rp.mono le3) h6
       replace hle := hle.trans le3
       exact R_out (hx := []) rfl hle rfl (out_some rfl) ⟨rfl, rfl⟩
   · intro imm04 le4
     refine Ins_cons ?_
     rintro _ _ ⟨rfl, rfl⟩
     refine Ins_nil <| R_isw [hO Int (vS p2 held1 c2) cs1] [(0, vS p trace c), (1, vI size), (5, vI (W (n0 + 1))), (6, vS p2 held1 c2), (7, vI i), (8, vI worst), (9, vI k0), (62, .bool (decide (y2 > y3)))] ?_
     replace h := h.mono le4
     replace h6 := RepL.mono (fun _ _ => Rp.mono le4) h6
     replace hle := hle.trans le4
     refine R_end rfl <| T_seq ?_
     obtain ⟨o0, ho0, hM⟩ := bind_some hM
     refine J_cut (fun imm' hs' m' => ∃ (worst2 : Int), o0 = worst2 ∧ imm04.le imm' ∧ hs' = [hO Int (vS p2 held1 c2) cs1] ∧ m' = [(0, vS p trace c), (1, vI size), (5, vI (W (n0 + 1))), (6, vS p2 held1 c2), (7, vI i), (8, vI worst2), (9, vI k0)]) ?_ ?_
     · have hle0 := hle
       have hle : imm04.le imm04 := Imm.le.refl _
       refine J_cd ho0 ?_ ?_
       · intro hc5 hM
         exact J_region <| R_z [] [(8, vI k0)] <| T_w [(0, vS p trace c), (1, vI size), (5, vI (W (n0 + 1))), (6, vS p2 held1 c2), (7, vI i), (8, vI k0), (9, vI k0)] <| T_cut ⟨_, (pure_some hM).symm, hle, rfl, rfl⟩
       · intro hc5 hM
         exact J_skip <| T_w [(0, vS p trace c), (1, vI size), (5, vI (W (n0 + 1))), (6, vS p2 held1 c2), (7, vI i), (8, vI worst), (9, vI k0)] <| T_cut ⟨_, (pure_some hM).symm, hle, rfl, rfl⟩
     · rintro imm05 hs2 m2 ⟨worst2, heq, le5, rfl, rfl⟩
       subst o0
       replace h := h.mono le5
       replace h6 := RepL.mono (fun _ _ => Rp.mono le5) h6
       replace hle := hle.trans le5
       exact T_block_normal <| T_seq <| J_region <| R_z [] [(9, vI (W (k0 + 1)))] <| T_loop <| J_w [(0, vS p trace c), (1, vI size), (5, vI (W (n0 + 1))), (6, vS p2 held1 c2), (7, vI i), (8, vI worst2), (9, vI (W (k0 + 1)))] <| ih worst2 (W (k0 + 1)) _ hM hle h h6 hg ho hx
 · intro hc4 hM
   exact J_exit <| T_then_exit <| T_then_exit <| T_w [(0, vS p trace c), (1, vI size), (5, vI (W (n0 + 1))), (6, vS p2 held1 c2), (7, vI i), (8, vI worst)] <| hx _ _ (pure_some hM).symm hle
def M.spec_BestMisses_l1 (trace : (List Int)) (size : Int) (n0 : Int) (held : List Int) (i : Int) : Option (Int) := do
 if (decide (i < (trace.length : Int))) then
  let x ← idx trace i
  let y1 ← M.spec_l6Has held x
  if y1 then
   M.spec_BestMisses_l1 trace size n0 held (W (i + 1))
  else
   let x1 ← idx trace i
   let held1 ← app 8 held ([x1] : List Int)
   if (decide ((held1.length : Int) ≤ size)) then
    M.spec_BestMisses_l1 trace size (W (n0 + 1)) held1 (W (i + 1))
   else
    let worst1 ← M.spec_BestMisses_l2 trace i held1 0 1
    let l ← slc held1 0 worst1
    let l1 ← app 8 ([] : List Int) l
    let l2 ← slc held1 (W (worst1 + 1)) (held1.length : Int)
    let held2 ← app 8 l1 l2
    M.spec_BestMisses_l1 trace size (W (n0 + 1)) held2 (W (i + 1))
 else
  pure (id n0)
 partial_fixpoint
theorem spec_BestMisses_l1_ok (trace : (List Int)) (size : Int) : ∀ (n0 : Int) (held : List Int) (i : Int) (o : Int), M.spec_BestMisses_l1 trace size n0 held i = some o → ∀ {B : Base} {imm0 imm : Imm} {Q : Exit → Act → World → Prop}  {p : Option Addr} {c : Nat} {p1 : Option Addr} {c1 : Nat} {cs : List Value}, imm0.le imm → (SL imm (vS p trace c) trace) → (RL imm cs held) → (∀ l a w, ¬ Q (.goto l) a w) → (∀ a w, ¬ Q .outgrown a w) → (∀ (imm' : Imm) (n01 : Int), o = n01 → imm0.le imm' → T 75 B Q (.exit 0) imm' [] [(5, vI n01)]) → J Try.prog 75 B (nav (bodyOf Try.f18) [1, 1, 1, 1, 0, 1, 0]) Q imm [hO Int (vS p1 held c1) cs] [(0, vS p trace c), (1, vI size), (5, vI n0), (6, vS p1 held c1), (7, vI i)] := by
 refine M.spec_BestMisses_l1.partial_correctness trace size _ ?_
 intro self ih n0 held i o hM B imm0 imm Q p c p1 c1 cs hle h h3 hg ho hx
 refine J_loop hg ho <| J_seq <| J_seq <| J_region <| R_z [] [(18, .bool (decide (i < (trace.length : Int))))] <| T_seq <| J_cd hM ?_ ?_
 · intro hc1 hM
   refine J_skip <| T_seq <| J_seq <| J_block <| J_seq <| J_seq <| J_region <| R_d 3 [] [(21, vS p1 held c1), (22, vS p trace c), (23, vI i)] ?_
   obtain ⟨x, hy1, hM⟩ := bind_some hM
   refine R_ix rfl rfl h hy1 ?_
   intro ad ccs hat hrep
   obtain rfl := hrep
   refine R_la 0 hat [vI x] (vI x) rfl ?_
   obtain ⟨y1, hy2, hM⟩ := bind_some hM
   refine R_call_lend (L := [hO Int (vS p1 held c1) cs]) (hs1 := []) (rest := []) rfl rfl rfl rfl (by kernel_rfl) rfl rfl (fun i1 le1 hl1 => spec_l6Has_ok held x _ hy2 ⟨_, hl1 (hO Int (vS p1 held c1) cs) (by simp), RepL.mono (fun _ _ => Rp.mono le1) h3⟩) ?_
   rintro - imm01 hs2 v2 k2 le1 - - - ⟨v01, rfl, rfl, rfl⟩ -
   replace h := h.mono le1
   replace h3 := RepL.mono (fun _ _ => Rp.mono le1) h3
   replace hle := hle.trans le1
   refine R_end rfl <| T_seq <| J_cd hM ?_ ?_
   · intro hc2 hM
     exact J_exit <| T_then_exit <| T_block_here <| T_seq <| J_region <| R_z [] [(7, vI (W (i + 1)))] <| T_loop <| J_w [(0, vS p trace c), (1, vI size), (5, vI n0), (6, vS p1 held c1), (7, vI (W (i + 1)))] <| ih n0 held (W (i + 1)) _ hM hle h h3 hg ho hx
   · intro hc2 hM
     refine J_skip <| T_seq <| J_seq <| J_region <| R_z [] [(5, vI (W (n0 + 1)))] <| T_seq <| J_seq <| J_region <| R_d 3 [] [(29, vS p1 held c1), (30, vS p trace c), (31, vI i)] ?_
     obtain ⟨x1, hy3, hM⟩ := bind_some hM
     refine R_ix rfl rfl h hy3 ?_
     intro ad1 ccs1 hat1 hrep1
     obtain rfl := hrep1
     refine R_la 0 hat1 [vI x1] (vI x1) rfl <| R_buildSlice (cs := [vI x1]) (Rp.sz Int) rfl rfl rfl rfl (by kernel_rfl) (by kernel_rfl) ?_
     intro b1 hb1
     have h5 : RL imm01 [vI x1] ([x1] : List Int) := ⟨[vI x1], _, rfl, rfl, rfl, rfl⟩
     obtain ⟨held1, hy4, hM⟩ := bind_some hM
     refine R_ap 3 1 1 rfl rfl rfl h3 (.inr ⟨0, rfl⟩) h5 hy4 ?_
     intro p2 c2 cs1 h6
     refine R_hs (good_pick [1] (hs' := [hO Int (vS p2 held1 c2) cs1]) rfl (by decide)) <| R_z [] [(6, vS p2 held1 c2)] <| T_seq <| J_seq <| J_seq <| J_region <| R_z [] [(39, .bool (decide ((held1.length : Int) ≤ size)))] <| T_seq <| J_cd hM ?_ ?_
     · intro hc3 hM
       exact J_exit <| T_then_exit <| T_block_here <| T_seq <| J_region <| R_z [] [(7, vI (W (i + 1)))] <| T_loop <| J_w [(0, vS p trace c), (1, vI size), (5, vI (W (n0 + 1))), (6, vS p2 held1 c2), (7, vI (W (i + 1)))] <| ih (W (n0 + 1)) held1 (W (i + 1)) _ hM hle h h6 hg ho hx
     · intro hc3 hM
       refine J_skip <| T_seq <| J_seq <| J_region <| R_z [] [(8, vI 0)] <| T_seq <| J_seq <| J_seq <| J_region <| R_z [] [(9, vI 1)] <| T_seq <| J_block <| J_w [(0, vS p trace c), (1, vI size), (5, vI (W (n0 + 1))), (6, vS p2 held1 c2), (7, vI i), (8, vI 0), (9, vI 1)] ?_
       obtain ⟨o01, ho01, hM⟩ := bind_some hM
       refine spec_BestMisses_l2_ok trace i held1 0 1 o01 ho01 (Imm.le.refl _) h h6 (fun _ _ _ h => hg _ _ _ h) (fun _ _ h => ho _ _ h) ?_
       intro imm06 worst1 heq1 le6
       subst o01
       replace h := h.mono le6
       replace h6 := RepL.mono (fun _ _ => Rp.mono le6) h6
       replace hle := hle.trans le6
       refine T_block_here <| T_seq <| J_freeze 0 rfl ?_
       intro imm07 le7 hl0
       have h9 := SL.of_frozen hl0 le7 h6
       replace h := h.mono le7
       replace hle := hle.trans le7
       obtain ⟨l, hy9, hM⟩ := bind_some hM
       obtain ⟨l1, hy10, hM⟩ := bind_some hM
       obtain ⟨l2, hy11, hM⟩ := bind_some hM
       obtain ⟨held2, hy12, hM⟩ := bind_some hM
       refine J_any [.x (fun imm' v hx => ∃ (b2 : Nat), v = vS (some ⟨b2, 0, none⟩) ([] : List Int) 0 ∧ hx = [hO Int (vS (some ⟨b2, 0, none⟩) ([] : List Int) 0) []] ∧ (RL imm' [] ([] : List Int))), .p (vS p2 held1 c2) [], .p (vI worst1) [], .x (fun imm' v hx => ∃ (p3 : Option Addr) (c3 : Nat), v = vS p3 l c3 ∧ hx = [] ∧ (SL imm' (vS p3 l c3) l)), .x (fun imm' v hx => ∃ (p4 : Option Addr) (c4 : Nat) (cs2 : List Value), v = vS p4 l1 c4 ∧ hx = [hO Int (vS p4 l1 c4) cs2] ∧ (RL imm' cs2 l1)), .p (vS p2 held1 c2) [], .p (vI worst1) [], .p (vI (W (worst1 + 1))) [], .x (fun imm' v hx => ∃ (p5 : Option Addr) (c5 : Nat), v = vS p5 l2 c5 ∧ hx = [] ∧ (SL imm' (vS p5 l2 c5) l2)), .x (fun imm' v hx => ∃ (p6 : Option Addr) (c6 : Nat) (cs3 : List Value), v = vS p6 held2 c6 ∧ hx = [hO Int (vS p6 held2 c6) cs3] ∧ (RL imm' cs3 held2))] [[], [], [], [(1, false), (2, false)], [(0, true), (3, false)], [], [], [(6, false)], [(5, false), (7, false)], [(4, true), (8, false)]] [] [] [(9, true)] (good_pick [] rfl (by decide)) ?_ ?_
       · refine Ox ?_ <| Op <| Op <| Ox ?_ <| Ox ?_ <| Op <| Op <| Op <| Ox ?_ <| Ox ?_ <| On
         · intro imm1 hf le1
           refine Ins_nil <| R_isw (hf) [] ?_
           have hle := Imm.le.refl imm1
           refine R_buildSlice (cs := []) (Rp.sz Int) rfl rfl rfl rfl (by kernel_rfl) (by kernel_rfl) ?_
           intro b2 hb2
           have h10 : RL imm1 [] ([] : List Int) := rfl
           exact R_out (hx := [hO Int (vS (some ⟨b2, 0, none⟩) ([] : List Int) 0) []]) rfl hle rfl (out_some rfl) ⟨_, rfl, rfl, h10⟩
         · intro imm1 hf le1
           refine Ins_cons ?_
           rintro _ _ ⟨rfl, rfl⟩
           refine Ins_cons ?_
           rintro _ _ ⟨rfl, rfl⟩
           refine Ins_nil <| R_isw (hf) [(65, vS p2 held1 c2), (66, vI worst1)] ?_
           have hle := Imm.le.refl imm1
           replace h9 := h9.mono le1
           refine R_sl rfl h9 hy9 ?_
           intro v04 h11
           obtain ⟨p3, c3, rfl⟩ := h11.form
           exact R_out (hx := []) rfl hle rfl (out_some rfl) ⟨_, _, rfl, rfl, h11⟩
         · intro imm1 hf le1
           refine Ins_cons ?_
           rintro _ _ ⟨b2, rfl, rfl, h10⟩
           refine Ins_cons ?_
           rintro _ _ ⟨p3, c3, rfl, rfl, h11⟩
           refine Ins_nil <| R_isw (hO Int (vS (some ⟨b2, 0, none⟩) ([] : List Int) 0) [] :: hf) [(64, vS (some ⟨b2, 0, none⟩) ([] : List Int) 0), (67, vS p3 l c3)] ?_
           have hle := Imm.le.refl imm1
           obtain ⟨ccs4, k01, k02⟩ := h11
           have h11 : SL imm1 (vS p3 l c3) l := ⟨_, k01, k02⟩
           refine R_ap 3 1 0 rfl rfl rfl h10 (.inl k01) k02 hy10 ?_
           intro p4 c4 cs2 h12
           exact R_hseq (hs' := (hO Int (vS p4 l1 c4) cs2 :: hf)) rfl <| R_out (hx := [hO Int (vS p4 l1 c4) cs2]) rfl hle rfl (out_some rfl) ⟨_, _, _, rfl, rfl, h12⟩
         · intro imm1 hf le1
           refine Ins_cons ?_
           rintro _ _ ⟨rfl, rfl⟩
           refine Ins_cons ?_
           rintro _ _ ⟨rfl, rfl⟩
           refine Ins_nil <| R_isw (hf) [(69, vS p2 held1 c2), (71, vI (W (worst1 + 1)))] ?_
           have hle := Imm.le.refl imm1
           replace h9 := h9.mono le1
           refine R_sl rfl h9 hy11 ?_
           intro v05 h13
           obtain ⟨p5, c5, rfl⟩ := h13.form
           exact R_out (hx := []) rfl hle rfl (out_some rfl) ⟨_, _, rfl, rfl, h13⟩
         · intro imm1 hf le1
           refine Ins_cons ?_
           rintro _ _ ⟨p4, c4, cs2, rfl, rfl, h12⟩
           refine Ins_cons ?_
           rintro _ _ ⟨p5, c5, rfl, rfl, h13⟩
           refine Ins_nil <| R_isw (hO Int (vS p4 l1 c4) cs2 :: hf) [(68, vS p4 l1 c4), (72, vS p5 l2 c5)] ?_
           have hle := Imm.le.refl imm1
           obtain ⟨ccs5, k03, k04⟩ := h13
           have h13 : SL imm1 (vS p5 l2 c5) l2 := ⟨_, k03, k04⟩
           refine R_ap 3 1 0 rfl rfl rfl h12 (.inl k03) k04 hy12 ?_
           intro p6 c6 cs3 h14
           exact R_hseq (hs' := (hO Int (vS p6 held2 c6) cs3 :: hf)) rfl <| R_out (hx := [hO Int (vS p6 held2 c6) cs3]) rfl hle rfl (out_some rfl) ⟨_, _, _, rfl, rfl, h14⟩
       · intro imm08 le8
         refine Ins_cons ?_
         rintro _ _ ⟨p6, c6, cs3, rfl, rfl, h14⟩
         refine Ins_nil <| R_isw [hO Int (vS p6 held2 c6) cs3] [(0, vS p trace c), (1, vI size), (5, vI (W (n0 + 1))), (7, vI i), (73, vS p6 held2 c6)] ?_
         replace h := h.mono le8
         replace hle := hle.trans le8
         exact R_z [] [(6, vS p6 held2 c6)] <| T_block_normal <| T_seq <| J_region <| R_z [] [(7, vI (W (i + 1)))] <| T_loop <| J_w [(0, vS p trace c), (1, vI size), (5, vI (W (n0 + 1))), (6, vS p6 held2 c6), (7, vI (W (i + 1)))] <| ih (W (n0 + 1)) held2 (W (i + 1)) _ hM hle h h14 hg ho hx
 · intro hc1 hM
   exact J_exit <| T_then_exit <| T_then_exit <| T_hs (good_pick [] rfl (by decide)) <| T_w [(5, vI n0)] <| hx _ _ (pure_some hM).symm hle
def M.spec_BestMisses (trace : (List Int)) (size : Int) : Option (Int) := do
 let y ← M.spec_l10Fits trace size
 if (!y) then
  pure (-1)
 else
  let n01 ← M.spec_BestMisses_l1 trace size 0 ([] : List Int) 0
  pure (id n01)
theorem spec_BestMisses_ok : ∀ (trace : (List Int)) (size : Int) r, M.spec_BestMisses trace size = some r → ∀ {imm : Imm} {p : Option Addr} {c : Nat}, (SL imm (vS p trace c) trace) → Ret Try.prog 18 [vS p trace c, vI size] imm [] (spec_BestMisses_post  r) := by
 intro trace size r hM imm p c h
 unfold M.spec_BestMisses at hM
 refine ret_of_J (fn := Try.f18) (c := (bodyOf Try.f18)) Try.func18 rfl rfl ?_
 rintro B - -
 have hle : imm.le imm := Imm.le.refl _
 refine J_seq <| J_region <| R_z [] [] <| T_seq <| J_seq <| J_seq <| J_region <| R_d 2 [] [(10, vS p trace c), (11, vI size)] ?_
 obtain ⟨y, hy, hM⟩ := bind_some hM
 refine R_call (hs1 := []) (rest := []) rfl rfl rfl rfl (by kernel_rfl) rfl rfl (spec_l10Fits_ok trace size _ hy h) ?_
 rintro imm0 hs2 v2 k2 le - ⟨v0, rfl, rfl, rfl⟩ -
 replace h := h.mono le
 replace hle := hle.trans le
 refine R_z [] [(13, .bool (!y))] <| T_seq <| J_cd hM ?_ ?_
 · intro hc hM
   refine J_seq <| J_region <| R_z [] [(4, vI (-1))] <| T_seq <| J_ret <| T_then_ret ?_
   obtain rfl := pure_some hM
   exact T_RS ⟨_, _, (.tmp rfl ResV.nil), good_none, ⟨_, rfl, rfl, rfl⟩⟩
 · intro hc hM
   refine J_skip <| T_seq <| J_seq <| J_region <| R_z [] [(5, vI 0)] <| T_seq <| J_seq <| J_region <| R_buildSlice (cs := []) (Rp.sz Int) rfl rfl rfl rfl (by kernel_rfl) (by kernel_rfl) ?_
   intro b hb
   have h2 : RL imm0 [] ([] : List Int) := rfl
   refine R_z [] [(6, vS (some ⟨b, 0, none⟩) ([] : List Int) 0)] <| T_seq <| J_seq <| J_seq <| J_region <| R_z [] [(7, vI 0)] <| T_seq <| J_block <| J_w [(0, vS p trace c), (1, vI size), (5, vI 0), (6, vS (some ⟨b, 0, none⟩) ([] : List Int) 0), (7, vI 0)] ?_
   obtain ⟨o02, ho02, hM⟩ := bind_some hM
   refine spec_BestMisses_l1_ok trace size 0 ([] : List Int) 0 o02 ho02 (Imm.le.refl _) h h2 (fun _ _ _ h => h) (fun _ _ h => h) ?_
   intro imm09 n01 heq2 le9
   subst o02
   replace hle := hle.trans le9
   refine T_block_here <| T_seq <| J_seq <| J_region <| R_z [] [(4, vI n01)] <| T_seq <| J_ret ?_
   obtain rfl := pure_some hM
   exact T_RS ⟨_, _, (.tmp rfl ResV.nil), good_none, ⟨_, rfl, rfl, rfl⟩⟩
def laws_FnBestMisses_post (r : Bool) : Nat → Imm → List HA → Value → Prop := fun kk imm' hs' v =>
  ∃ (v0 : Value), hs' = [] ∧ v = tupV [v0] ∧ v0 = .bool r
def M.laws_FnBestMisses (code : (List UInt8)) : Option (Bool) := do
 if (decide ((code.length : Int) > 1048576)) then
  pure true
 else
  let (y1, y2) ← M.spec_DrawBestMisses code
  let y3 ← M.impl_BestMisses y1 y2
  let t26 ← (do
    let y4 ← M.spec_BestMisses y1 y2
    if (y3 != y4) then
     pure true
    else
     pure (decide (y3 < 0))
      : Option Bool)
  if t26 then
   let y5 ← M.spec_BestMisses y1 y2
   pure (y3 == y5)
  else
   let y6 ← M.impl_BestMisses y1 (W (y2 + 1))
   let t2 ← (do
     let y7 ← M.impl_LruMisses y1 y2
     if (decide (y3 ≤ y7)) then
      let y8 ← M.impl_DistinctCells y1
      if (decide (y3 ≥ y8)) then
       if (y2 == 40) then
        pure true
       else
        pure (decide (y6 ≤ y3))
      else
       pure false
     else
      pure false
       : Option Bool)
   pure (id t2)
theorem laws_FnBestMisses_ok : ∀ (code : (List UInt8)) r, M.laws_FnBestMisses code = some r → ∀ {imm : Imm} {p : Option Addr} {c : Nat}, (SL imm (vS p code c) code) → Ret Try.prog 6 [vS p code c] imm [] (laws_FnBestMisses_post  r) := by
 intro code r hM imm p c h
 unfold M.laws_FnBestMisses at hM
 refine ret_of_J (fn := Try.f6) (c := (bodyOf Try.f6)) Try.func6 rfl rfl ?_
 rintro B - -
 have hle : imm.le imm := Imm.le.refl _
 refine J_seq <| J_region <| R_z [] [] <| T_seq <| J_seq <| J_seq <| J_region <| R_z [] [(9, .bool (decide ((code.length : Int) > 1048576)))] <| T_seq <| J_cd hM ?_ ?_
 · intro hc hM
   refine J_seq <| J_region <| R_z [] [(2, .bool true)] <| T_seq <| J_ret <| T_then_ret ?_
   obtain rfl := pure_some hM
   exact T_RS ⟨_, _, (.tmp rfl ResV.nil), good_none, ⟨_, rfl, rfl, rfl⟩⟩
 · intro hc hM
   refine J_skip <| T_seq <| J_seq <| J_region <| R_d 1 [] [(11, vS p code c)] ?_
   obtain ⟨⟨y1, y2⟩, hy, hM⟩ := bind_some hM
   refine R_call (hs1 := []) (rest := []) rfl rfl rfl rfl (by kernel_rfl) rfl rfl (spec_DrawBestMisses_ok code _ hy h) ?_
   rintro imm0 hs2 v2 k2 le - ⟨v0, v01, rfl, rfl, h1, rfl⟩ -
   replace hle := hle.trans le
   obtain ⟨p1, c1, rfl⟩ := h1.form
   refine R_z [] [(3, vS p1 y1 c1), (4, vI y2)] <| T_seq <| J_seq <| J_region <| R_d 2 [] [(15, vS p1 y1 c1), (16, vI y2)] ?_
   obtain ⟨y3, hy1, hM⟩ := bind_some hM
   refine R_call (hs1 := []) (rest := []) rfl rfl rfl rfl (by kernel_rfl) rfl rfl (impl_BestMisses_ok y1 y2 _ hy1 h1) ?_
   rintro imm01 hs2 v2 k2 le1 - ⟨v02, rfl, rfl, rfl⟩ -
   replace h1 := h1.mono le1
   replace hle := hle.trans le1
   refine R_z [] [(5, vI y3)] <| T_seq <| J_seq <| J_seq ?_
   obtain ⟨o0, ho0, hM⟩ := bind_some hM
   refine J_cut (fun imm' hs' m' => ∃ (t26 : Bool), o0 = t26 ∧ imm01.le imm' ∧ hs' = [] ∧ m' = [(3, vS p1 y1 c1), (4, vI y2), (5, vI y3), (26, .bool t26)]) ?_ ?_
   · have hle0 := hle
     have hle : imm01.le imm01 := Imm.le.refl _
     refine J_region <| R_d 3 [] [(18, vI y3), (19, vS p1 y1 c1), (20, vI y2)] ?_
     obtain ⟨y4, hy2, hM⟩ := bind_some ho0
     refine R_call (hs1 := []) (rest := []) rfl rfl rfl rfl (by kernel_rfl) rfl rfl (spec_BestMisses_ok y1 y2 _ hy2 h1) ?_
     rintro imm03 hs2 v2 k2 le2 - ⟨v03, rfl, rfl, rfl⟩ -
     replace h1 := h1.mono le2
     replace hle := hle.trans le2
     refine R_d 6 [] [(23, .bool (y3 != y4))] ?_
     cases hc1 : (y3 != y4) with
     | true =>
      have hM0 := if_some_true hc1 hM
      try rw [hc1]
      exact R_z [] [(26, .bool true)] <| T_w [(3, vS p1 y1 c1), (4, vI y2), (5, vI y3), (26, .bool true)] <| T_cut ⟨_, (pure_some hM0).symm, hle, rfl, rfl⟩
     | false =>
      have hM01 := if_some_false hc1 hM
      try rw [hc1]
      exact R_z [] [(26, .bool (decide (y3 < 0)))] <| T_w [(3, vS p1 y1 c1), (4, vI y2), (5, vI y3), (26, .bool (decide (y3 < 0)))] <| T_cut ⟨_, (pure_some hM01).symm, hle, rfl, rfl⟩
   · rintro imm02 hs2 m2 ⟨t26, heq, le3, rfl, rfl⟩
     subst o0
     replace h1 := h1.mono le3
     replace hle := hle.trans le3
     refine T_seq <| J_cd hM ?_ ?_
     · intro hc2 hM
       refine J_seq <| J_region <| R_d 3 [] [(27, vI y3), (28, vS p1 y1 c1), (29, vI y2)] ?_
       obtain ⟨y5, hy3, hM⟩ := bind_some hM
       refine R_call (hs1 := []) (rest := []) rfl rfl rfl rfl (by kernel_rfl) rfl rfl (spec_BestMisses_ok y1 y2 _ hy3 h1) ?_
       rintro imm04 hs2 v2 k2 le4 - ⟨v04, rfl, rfl, rfl⟩ -
       replace hle := hle.trans le4
       refine R_z [] [(2, .bool (y3 == y5))] <| T_seq <| J_ret <| T_then_ret ?_
       obtain rfl := pure_some hM
       exact T_RS ⟨_, _, (.tmp rfl ResV.nil), good_none, ⟨_, rfl, rfl, rfl⟩⟩
     · intro hc2 hM
       refine J_skip <| T_seq <| J_seq <| J_region <| R_d 3 [] [(32, vS p1 y1 c1), (34, vI (W (y2 + 1)))] ?_
       obtain ⟨y6, hy4, hM⟩ := bind_some hM
       refine R_call (hs1 := []) (rest := []) rfl rfl rfl rfl (by kernel_rfl) rfl rfl (impl_BestMisses_ok y1 (W (y2 + 1)) _ hy4 h1) ?_
       rintro imm05 hs2 v2 k2 le5 - ⟨v05, rfl, rfl, rfl⟩ -
       replace h1 := h1.mono le5
       replace hle := hle.trans le5
       refine R_z [] [(6, vI y6)] <| T_seq <| J_seq ?_
       obtain ⟨o01, ho01, hM⟩ := bind_some hM
       refine J_cut (fun imm' hs' m' => ∃ (t2 : Bool), o01 = t2 ∧ imm05.le imm' ∧ hs' = [] ∧ m' = [(2, .bool t2)]) ?_ ?_
       · have hle0 := hle
         have hle : imm05.le imm05 := Imm.le.refl _
         refine J_region <| R_d 3 [] [(36, vI y3), (37, vS p1 y1 c1), (38, vI y2)] ?_
         obtain ⟨y7, hy5, hM⟩ := bind_some ho01
         refine R_call (hs1 := []) (rest := []) rfl rfl rfl rfl (by kernel_rfl) rfl rfl (impl_LruMisses_ok y1 y2 _ hy5 h1) ?_
         rintro imm07 hs2 v2 k2 le6 - ⟨v06, rfl, rfl, rfl⟩ -
         replace h1 := h1.mono le6
         replace hle := hle.trans le6
         refine R_d 6 [] [(41, .bool (decide (y3 ≤ y7)))] ?_
         cases hc3 : (decide (y3 ≤ y7)) with
         | true =>
          have hM02 := if_some_true hc3 hM
          try rw [hc3]
          refine R_d 8 [] [(42, vI y3), (43, vS p1 y1 c1)] ?_
          obtain ⟨y8, hy6, hM⟩ := bind_some hM02
          refine R_call (hs1 := []) (rest := []) rfl rfl rfl rfl (by kernel_rfl) rfl rfl (impl_DistinctCells_ok y1 _ hy6 h1) ?_
          rintro imm08 hs2 v2 k2 le7 - ⟨v07, rfl, rfl, rfl⟩ -
          replace hle := hle.trans le7
          refine R_d 12 [] [(47, .bool (decide (y3 ≥ y8)))] ?_
          cases hc4 : (decide (y3 ≥ y8)) with
          | true =>
           have hM03 := if_some_true hc4 hM
           try rw [hc4]
           refine R_d 15 [] [(50, .bool (y2 == 40))] ?_
           cases hc5 : (y2 == 40) with
           | true =>
            have hM04 := if_some_true hc5 hM03
            try rw [hc5]
            exact R_z [] [(2, .bool true)] <| T_w [(2, .bool true)] <| T_cut ⟨_, (pure_some hM04).symm, hle, rfl, rfl⟩
           | false =>
            have hM05 := if_some_false hc5 hM03
            try rw [hc5]
            exact R_z [] [(2, .bool (decide (y6 ≤ y3)))] <| T_w [(2, .bool (decide (y6 ≤ y3)))] <| T_cut ⟨_, (pure_some hM05).symm, hle, rfl, rfl⟩
          | false =>
           have hM06 := if_some_false hc4 hM
           try rw [hc4]
           exact R_z [] [(2, .bool false)] <| T_w [(2, .bool false)] <| T_cut ⟨_, (pure_some hM06).symm, hle, rfl, rfl⟩
         | false =>
          have hM07 := if_some_false hc3 hM
          try rw [hc3]
          exact R_z [] [(2, .bool false)] <| T_w [(2, .bool false)] <| T_cut ⟨_, (pure_some hM07).symm, hle, rfl, rfl⟩
       · rintro imm06 hs2 m2 ⟨t2, heq1, le8, rfl, rfl⟩
         subst o01
         replace hle := hle.trans le8
         refine T_seq <| J_ret ?_
         obtain rfl := pure_some hM
         exact T_RS ⟨_, _, (.tmp rfl ResV.nil), good_none, ⟨_, rfl, rfl, rfl⟩⟩
end Go.LN
