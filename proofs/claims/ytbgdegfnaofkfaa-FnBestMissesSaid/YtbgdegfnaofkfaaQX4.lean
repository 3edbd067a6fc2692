/- Models that are total, seventh part. Printed by tg7.py. -/
import Derived.Test.YtbgdegfnaofkfaaQX3
namespace Go.LN
set_option linter.unusedVariables false
set_option linter.unusedSimpArgs false
theorem l2SideText_l1_aux (list : List impl_Affine) (h0 : list.length ≤ 100) (h1 : ∀ a ∈ list, VA a) : ∀ (k : Nat) (o : Str) (i : Int), Tot (M.spec_l2SideText_l1 list o i) ((list.length : Int) - i < (k : Int) ∧ 0 < (k : Int) ∧ 0 ≤ i ∧ i ≤ 100 ∧ (o.l.length : Int) ≤ 1001 * i) (fun φ => ∀ r, r.l.length ≤ 200000 → φ r) := by
  intro k
  induction k with
  | zero => intro o i; exact ⟨fun h => absurd h.2.1 (by omega)⟩
  | succ k ih =>
    intro o i; refine ⟨?_⟩; rintro ⟨v0, v1, v2, v3, v4⟩ φ hk; unfold M.spec_l2SideText_l1
    exact Ok.go
instance l2SideText_l1_tot (list : List impl_Affine) (o : Str) (i : Int) : Tot (M.spec_l2SideText_l1 list o i) (list.length ≤ 100 ∧ (∀ a ∈ list, VA a) ∧ 0 ≤ i ∧ i ≤ 100 ∧ (o.l.length : Int) ≤ 1001 * i) (fun φ => ∀ r, r.l.length ≤ 200000 → φ r) := ⟨by
  rintro ⟨h0, h1, v0, v1, v2⟩ φ hk
  exact (l2SideText_l1_aux list h0 h1 (((list.length : Int) - i).toNat + 1) o i).ok ⟨by omega, by omega, v0, v1, v2⟩ φ hk⟩
instance l2SideText_tot (list : List impl_Affine) : Tot (M.spec_l2SideText list) (list.length ≤ 100 ∧ (∀ a ∈ list, VA a)) (fun φ => ∀ r, r.l.length ≤ 200000 → φ r) := ⟨by
  rintro ⟨h0, h1⟩ φ hk
  unfold M.spec_l2SideText
  exact Ok.go⟩
instance l3AccessText_tot (a : impl_Access) : Tot (M.spec_l3AccessText a) (VC a) (fun φ => ∀ r, r.l.length ≤ 200100 → φ r) := ⟨by
  rintro h0 φ hk
  obtain ⟨h01, h02, h03⟩ := h0
  unfold M.spec_l3AccessText
  exact Ok.go⟩
def TN : Nat → Nat
  | 0 => 200100
  | n + 1 => 2 * TN n + 10
theorem TN.ge : ∀ n, 200100 ≤ TN n
  | 0 => Nat.le_refl _
  | n + 1 => by have := TN.ge n; simp only [TN]; omega
theorem TN.mono (n : Nat) : TN n ≤ TN (n + 1) := by have := TN.ge n; simp only [TN]; omega
theorem l3Text_tot : ∀ (n : Nat) (e : impl_Expr), Tot (M.spec_l3Text e) (VE n e ∧ TN n ≤ 1000000000) (fun φ => ∀ r, r.l.length ≤ TN n → φ r) := by
  have base : ∀ (e : impl_Expr), VO e → ∀ φ : Str → Prop, (∀ r, r.l.length ≤ 200100 → φ r) → Ok (M.spec_l3Text e) φ := by
    intro e he φ hk
    unfold M.spec_l3Text
    rcases he with ⟨h, h1⟩ | ⟨h, h1⟩ | ⟨h, h1⟩
    · refine Ok.ite_beq (fun _ => Ok.go) fun hne => absurd h hne
    · refine Ok.ite_beq (fun he => absurd (h.symm.trans he) (by decide)) fun _ => Ok.ite_beq (fun _ => Ok.go) fun hne => absurd h hne
    · refine Ok.ite_beq (fun he => absurd (h.symm.trans he) (by decide)) fun _ => Ok.ite_beq (fun he => absurd (h.symm.trans he) (by decide)) fun _ => Ok.ite_beq (fun _ => Ok.go) fun hne => absurd h hne
  intro n
  induction n with
  | zero => intro e; exact ⟨fun ⟨h, _⟩ φ hk => base e h φ hk⟩
  | succ n ih =>
    intro e; refine ⟨?_⟩; rintro ⟨h, hn⟩ φ hk
    have hm := TN.mono n
    have hg := TN.ge n
    have hg2 : TN (n + 1) = 2 * TN n + 10 := rfl
    rcases h with h | ⟨h1, h2, h3⟩
    · exact base e h φ fun r hr => hk r (by omega)
    unfold M.spec_l3Text
    dsimp only [same]
    refine Ok.ite_beq (fun he => by omega) fun _ => Ok.ite_beq (fun he => by omega) fun _ => Ok.ite_beq (fun he => by omega) fun _ => ?_
    refine Ok.idx (by omega) (by omega) fun x hx _ => ?_
    have hx := h3 x hx
    refine Ok.call (ih x) ⟨hx, by omega⟩ fun y hy => ?_
    refine Ok.cat (by simp; omega) fun s2 _ g2 => ?_
    rw [W_id (x := e.Kind - 4) (by omega) (by omega), W_id (x := e.Kind - 4 + 1) (by omega) (by omega)]
    refine Ok.sslc (by omega) (by omega) (by simp; omega) fun s3 _ g3 => ?_
    simp only [List.length_cons, List.length_nil] at g2
    refine Ok.cat (by omega) fun s4 _ g4 => Ok.idx (by omega) (by omega) fun x1 hx1 _ => ?_
    have hx1 := h3 x1 hx1
    refine Ok.call (ih x1) ⟨hx1, by omega⟩ fun y4 hy4 => Ok.cat (by omega) fun s5 _ g5 => Ok.cat (by simp; omega) fun s6 _ g6 => Ok.pure (hk _ ?_)
    simp only [List.length_cons, List.length_nil] at g6
    dsimp only [id]
    omega
instance l3Text5_tot (e : impl_Expr) : Tot (M.spec_l3Text e) (VE 5 e) (fun φ => ∀ r, r.l.length ≤ 10000000 → φ r) := ⟨fun h φ hk => (l3Text_tot 5 e).ok ⟨h, by decide⟩ φ fun r hr => hk r (Nat.le_trans hr (by decide))⟩
instance FormatStmt_tot (s : impl_Stmt) : Tot (M.spec_FormatStmt s) (SS s) (fun φ => ∀ r, r.l.length ≤ 100000000 → φ r) := ⟨by
  rintro h0 φ hk
  unfold M.spec_FormatStmt
  refine Ok.call (StmtValid_tot s _) h0 fun b hb => ?_
  refine Ok.ite_not (fun _ => Ok.go) fun hv => ?_
  obtain ⟨g1, g2⟩ := hb hv
  exact Ok.go⟩
instance ParseStmt_tot (s : Str) : Tot (M.spec_ParseStmt s) (s.l.length ≤ 1000000) (fun φ => ∀ a b, SS a → φ (a, b)) := ⟨by
  rintro h0 φ hk
  have e0 : SS (impl_Stmt.mk (impl_Access.mk ⟨[]⟩ []) EX0) := ⟨SC.nil, EX0.se⟩
  unfold M.spec_ParseStmt
  refine Ok.ite_dec (fun _ => Ok.pure (hk _ _ e0)) fun _ => ?_
  refine Ok.call (l3ParseAccess_tot s 0) ⟨h0, by omega, by omega⟩ fun a n g1 g2 g3 => ?_
  refine Ok.bind (φ := fun _ => True) Ok.go fun t _ => Ok.ite (fun _ => Ok.pure (hk _ _ e0)) fun _ => ?_
  refine Ok.call (l3Parse_tot s _ 5) ⟨h0, by decide, by decide⟩ fun e r g4 g5 g6 => ?_
  have hs : SS (impl_Stmt.mk a e) := ⟨g1, g4⟩
  refine Ok.call (FormatStmt_tot _) hs fun t ht => Ok.ite_not (fun _ => Ok.pure (hk _ _ e0)) fun _ => Ok.pure (hk _ _ hs)⟩
theorem l2Text_l1_aux (nest : List impl_Loop) (h0 : VN nest) : ∀ (k : Nat) (o : Str) (i : Int), Tot (M.spec_l2Text_l1 nest o i) ((nest.length : Int) - i < (k : Int) ∧ 0 < (k : Int) ∧ 0 ≤ i ∧ i ≤ 4 ∧ (o.l.length : Int) ≤ 500000 * i) (fun φ => ∀ r, r.l.length ≤ 2000000 → φ r) := by
  obtain ⟨h01, h02⟩ := h0
  intro k
  induction k with
  | zero => intro o i; exact ⟨fun h => absurd h.2.1 (by omega)⟩
  | succ k ih =>
    intro o i; refine ⟨?_⟩; rintro ⟨v0, v1, v2, v3, v4⟩ φ hk; unfold M.spec_l2Text_l1
    refine Ok.ite_dec (fun h => Ok.cat (by simp; omega) fun s1 _ g1 => Ok.idx v2 h fun x hx hxi => ?_) fun _ => Ok.go
    obtain ⟨⟨g2, g3, g4⟩, g5, g6, g7⟩ := h02 x hx
    exact Ok.go
instance l2Text_l1_tot (nest : List impl_Loop) (o : Str) (i : Int) : Tot (M.spec_l2Text_l1 nest o i) (VN nest ∧ 0 ≤ i ∧ i ≤ 4 ∧ (o.l.length : Int) ≤ 500000 * i) (fun φ => ∀ r, r.l.length ≤ 2000000 → φ r) := ⟨by
  rintro ⟨h0, v0, v1, v2⟩ φ hk
  exact (l2Text_l1_aux nest h0 (((nest.length : Int) - i).toNat + 1) o i).ok ⟨by omega, by omega, v0, v1, v2⟩ φ hk⟩
instance l2Text_tot (nest : List impl_Loop) : Tot (M.spec_l2Text nest) (VN nest) (fun φ => ∀ r, r.l.length ≤ 2000000 → φ r) := ⟨by
  rintro h0 φ hk
  unfold M.spec_l2Text
  exact Ok.go⟩
theorem FormatProgram_l2_aux (p : impl_Program) (i : Int) (a : impl_Array) (b : Nat) (h0 : VR a) (h1 : 0 ≤ i) (h2 : i < (p.Arrays.length : Int)) (h3 : p.Arrays[i.toNat]? = some a) (h4 : b ≤ 1000000000) : ∀ (k : Nat) (o : Str) (k0 : Int), Tot (M.spec_FormatProgram_l2 p i o k0) ((a.Dims.length : Int) - k0 < (k : Int) ∧ 0 < (k : Int) ∧ 0 ≤ k0 ∧ k0 ≤ 2 ∧ (o.l.length : Int) ≤ b + 100 * k0) (fun φ => ∀ r, r.l.length ≤ b + 200 → φ r) := by
  obtain ⟨h01, h02, h05⟩ := h0
  intro k
  induction k with
  | zero => intro o k0; exact ⟨fun h => absurd h.2.1 (by omega)⟩
  | succ k ih =>
    intro o k0; refine ⟨?_⟩; rintro ⟨v0, v1, v2, v3, v4⟩ φ hk; unfold M.spec_FormatProgram_l2
    refine Ok.idx_known h3 h1 ?_
    refine Ok.ite_dec (fun h => Ok.cat (by simp; omega) fun s1 _ g1 => Ok.idx_known h3 h1 (Ok.idx v2 h fun x hx hxi => ?_)) fun _ => Ok.go
    have hx := h05 x hx
    exact Ok.go
theorem FormatProgram_l2_tot (p : impl_Program) (i : Int) (a : impl_Array) (b : Nat) (o : Str) (k0 : Int) : Tot (M.spec_FormatProgram_l2 p i o k0) (VR a ∧ 0 ≤ i ∧ i < (p.Arrays.length : Int) ∧ p.Arrays[i.toNat]? = some a ∧ b ≤ 1000000000 ∧ 0 ≤ k0 ∧ k0 ≤ 2 ∧ (o.l.length : Int) ≤ b + 100 * k0) (fun φ => ∀ r, r.l.length ≤ b + 200 → φ r) := ⟨by
  rintro ⟨h0, h1, h2, h3, h4, v0, v1, v2⟩ φ hk
  exact (FormatProgram_l2_aux p i a b h0 h1 h2 h3 h4 (((a.Dims.length : Int) - k0).toNat + 1) o k0).ok ⟨by omega, by omega, v0, v1, v2⟩ φ hk⟩
theorem FormatProgram_l1_aux (p : impl_Program) (h0 : VG p) : ∀ (k : Nat) (o : Str) (i : Int), Tot (M.spec_FormatProgram_l1 p o i) ((p.Arrays.length : Int) - i < (k : Int) ∧ 0 < (k : Int) ∧ 0 ≤ i ∧ i ≤ 4 ∧ (o.l.length : Int) ≤ 8 + 1000 * i) (fun φ => ∀ r, r.l.length ≤ 5000 → φ r) := by
  obtain ⟨⟨h01, h02⟩, h03, h04⟩ := h0
  intro k
  induction k with
  | zero => intro o i; exact ⟨fun h => absurd h.2.1 (by omega)⟩
  | succ k ih =>
    intro o i; refine ⟨?_⟩; rintro ⟨v0, v1, v2, v3, v4⟩ φ hk; unfold M.spec_FormatProgram_l1
    refine Ok.ite_dec (fun h => Ok.cat (by simp; omega) fun s1 _ g1 => Ok.idx v2 h fun x hx hxi => ?_) fun _ => Ok.go
    obtain ⟨g2, g3, g4⟩ := h02 x hx
    simp only [List.length_cons, List.length_nil] at g1
    refine Ok.cat (by omega) fun s2 _ g5 => Ok.call (FormatProgram_l2_tot p i x (o.l.length + 10) s2 0) ⟨⟨g2, g3, g4⟩, v2, h, hxi, by omega, by omega, by omega, by omega⟩ fun r hr => ?_
    exact Ok.go
instance FormatProgram_l1_tot (p : impl_Program) (o : Str) (i : Int) : Tot (M.spec_FormatProgram_l1 p o i) (VG p ∧ 0 ≤ i ∧ i ≤ 4 ∧ (o.l.length : Int) ≤ 8 + 1000 * i) (fun φ => ∀ r, r.l.length ≤ 5000 → φ r) := ⟨by
  rintro ⟨h0, v0, v1, v2⟩ φ hk
  exact (FormatProgram_l1_aux p h0 (((p.Arrays.length : Int) - i).toNat + 1) o i).ok ⟨by omega, by omega, v0, v1, v2⟩ φ hk⟩
theorem FormatProgram_l4_aux (p : impl_Program) (i : Int) (q : impl_Part) (b : Nat) (h0 : VP q) (h1 : 0 ≤ i) (h2 : i < (p.Parts.length : Int)) (h3 : p.Parts[i.toNat]? = some q) (h4 : b ≤ 1000000000000) : ∀ (k : Nat) (o : Str) (k0 : Int), Tot (M.spec_FormatProgram_l4 p i o k0) ((q.Body.length : Int) - k0 < (k : Int) ∧ 0 < (k : Int) ∧ 0 ≤ k0 ∧ k0 ≤ 4 ∧ (o.l.length : Int) ≤ b + 20000000 * k0) (fun φ => ∀ r, r.l.length ≤ b + 80000000 → φ r) := by
  obtain ⟨h01, h02, h05⟩ := h0
  intro k
  induction k with
  | zero => intro o k0; exact ⟨fun h => absurd h.2.1 (by omega)⟩
  | succ k ih =>
    intro o k0; refine ⟨?_⟩; rintro ⟨v0, v1, v2, v3, v4⟩ φ hk; unfold M.spec_FormatProgram_l4
    refine Ok.idx_known h3 h1 ?_
    refine Ok.ite_dec (fun h => Ok.idx_known h3 h1 (Ok.idx v2 h fun x hx hxi => ?_)) fun _ => Ok.go
    obtain ⟨g1, g2⟩ := h05 x hx
    exact Ok.go
theorem FormatProgram_l4_tot (p : impl_Program) (i : Int) (q : impl_Part) (b : Nat) (o : Str) (k0 : Int) : Tot (M.spec_FormatProgram_l4 p i o k0) (VP q ∧ 0 ≤ i ∧ i < (p.Parts.length : Int) ∧ p.Parts[i.toNat]? = some q ∧ b ≤ 1000000000000 ∧ 0 ≤ k0 ∧ k0 ≤ 4 ∧ (o.l.length : Int) ≤ b + 20000000 * k0) (fun φ => ∀ r, r.l.length ≤ b + 80000000 → φ r) := ⟨by
  rintro ⟨h0, h1, h2, h3, h4, v0, v1, v2⟩ φ hk
  exact (FormatProgram_l4_aux p i q b h0 h1 h2 h3 h4 (((q.Body.length : Int) - k0).toNat + 1) o k0).ok ⟨by omega, by omega, v0, v1, v2⟩ φ hk⟩
theorem FormatProgram_l3_aux (p : impl_Program) (h0 : VG p) : ∀ (k : Nat) (o : Str) (i : Int), Tot (M.spec_FormatProgram_l3 p o i) ((p.Parts.length : Int) - i < (k : Int) ∧ 0 < (k : Int) ∧ 0 ≤ i ∧ i ≤ 4 ∧ (o.l.length : Int) ≤ 5000 + 100000000 * i) (fun φ => ∀ r, r.l.length ≤ 1000000000 → φ r) := by
  obtain ⟨⟨h01, h02⟩, h03, h04⟩ := h0
  intro k
  induction k with
  | zero => intro o i; exact ⟨fun h => absurd h.2.1 (by omega)⟩
  | succ k ih =>
    intro o i; refine ⟨?_⟩; rintro ⟨v0, v1, v2, v3, v4⟩ φ hk; unfold M.spec_FormatProgram_l3
    refine Ok.ite_dec (fun h => Ok.cat (by simp; omega) fun s1 _ g1 => Ok.idx v2 h fun x hx hxi => ?_) fun _ => Ok.go
    obtain ⟨g2, g3, g4⟩ := h04 x hx
    simp only [List.length_cons, List.length_nil] at g1
    refine Ok.call (l2Text_tot x.Nest) g2 fun y hy => Ok.cat (by omega) fun s2 _ g5 => Ok.call (FormatProgram_l4_tot p i x (o.l.length + 2000010) s2 0) ⟨⟨g2, g3, g4⟩, v2, h, hxi, by omega, by omega, by omega, by omega⟩ fun r hr => ?_
    exact Ok.go
instance FormatProgram_l3_tot (p : impl_Program) (o : Str) (i : Int) : Tot (M.spec_FormatProgram_l3 p o i) (VG p ∧ 0 ≤ i ∧ i ≤ 4 ∧ (o.l.length : Int) ≤ 5000 + 100000000 * i) (fun φ => ∀ r, r.l.length ≤ 1000000000 → φ r) := ⟨by
  rintro ⟨h0, v0, v1, v2⟩ φ hk
  exact (FormatProgram_l3_aux p h0 (((p.Parts.length : Int) - i).toNat + 1) o i).ok ⟨by omega, by omega, v0, v1, v2⟩ φ hk⟩
instance FormatProgram_tot (p : impl_Program) : Tot (M.spec_FormatProgram p) (SG 1000 p) (fun φ => ∀ r, r.l.length ≤ 1000000000 → φ r) := ⟨by
  rintro h0 φ hk
  unfold M.spec_FormatProgram
  refine Ok.call (ProgramValid_tot p) h0 fun b hb => ?_
  refine Ok.ite_not (fun _ => Ok.go) fun hv => ?_
  have hv := hb hv
  refine Ok.call (FormatProgram_l1_tot p _ 0) ⟨hv, by omega, by omega, by simp⟩ fun o ho => ?_
  exact Ok.go⟩
end Go.LN
