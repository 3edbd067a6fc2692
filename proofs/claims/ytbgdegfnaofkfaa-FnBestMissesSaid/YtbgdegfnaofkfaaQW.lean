/- Models that are total, third part. Printed by tg3.py. -/
import Derived.Test.YtbgdegfnaofkfaaQV
namespace Go.LN
set_option linter.unusedVariables false
set_option linter.unusedSimpArgs false
theorem VN.get {nest : List impl_Loop} {x : impl_Loop} (h : VN nest) (hx : x ∈ nest) : 1 ≤ x.Lo.length ∧ 1 ≤ x.Hi.length := ⟨(h.2 x hx).1.1, (h.2 x hx).2.1⟩
theorem l2Points_aux (nest : List impl_Loop) (hn : SN 1000 nest) (hv : VN nest) : ∀ (d : Nat) (o : List (List Int)) (p2 : List Int), Tot (M.spec_l2Points o nest p2) (p2.length + d = nest.length ∧ o.length ≤ 120 ∧ (∀ q ∈ o, q.length ≤ 4)) (fun φ => ∀ r, r.length ≤ 121 → (∀ q ∈ r, q.length ≤ 4) → φ r) := by
  obtain ⟨hn1, hn2⟩ := hn
  have hv1 := hv.1
  intro d
  induction d with
  | zero =>
    intro o p2
    refine ⟨?_⟩
    rintro ⟨hp, ho, hq⟩ φ hk
    unfold M.spec_l2Points
    dsimp only [same]
    exact Ok.ite_beq (fun h => Ok.go) fun h => absurd h (by omega)
  | succ d ih =>
    intro o p2
    refine ⟨?_⟩
    rintro ⟨hp, ho, hq⟩ φ hk
    unfold M.spec_l2Points
    dsimp only [same]
    have hloop : ∀ (y2 : Int) (k : Nat) (v : Int) (o : List (List Int)), Tot (M.spec_l2Points_l1 nest p2 y2 o v) ((y2 - v ≤ k ∧ I64 v ∧ I64 y2 ∧ o.length ≤ 121) ∧ (∀ q ∈ o, q.length ≤ 4)) (fun φ => ∀ r, r.length ≤ 121 → (∀ q ∈ r, q.length ≤ 4) → φ r) := by
      intro y2 k
      induction k with
      | zero => intro v o; refine ⟨?_⟩; rintro ⟨⟨a1, ⟨a2, a5⟩, ⟨a6, a7⟩, a3⟩, a4⟩ φ hk; unfold M.spec_l2Points_l1; dsimp only [same]; exact Ok.go
      | succ k ik =>
        intro v o; refine ⟨?_⟩; rintro ⟨⟨a1, ⟨a2, a5⟩, ⟨a6, a7⟩, a3⟩, a4⟩ φ hk; unfold M.spec_l2Points_l1; dsimp only [same]; exact Ok.go
    refine Ok.ite_beq (fun h => absurd h (by omega)) fun h => Ok.idx (by omega) (by omega) fun x hx _ => ?_
    obtain ⟨g1, g2⟩ := VN.get hv hx
    refine Ok.call (l2Range_tot x p2) ⟨hn2 x hx, g1, g2⟩ ?_
    intro a b ha hb
    have hloop := hloop b (b - a).toNat
    exact Ok.go
instance l2Points_tot (nest : List impl_Loop) : Tot (M.spec_l2Points [] nest []) (SN 1000 nest ∧ VN nest) (fun φ => ∀ r, r.length ≤ 121 → (∀ q ∈ r, q.length ≤ 4) → φ r) := ⟨fun ⟨h, hv⟩ φ hk => (l2Points_aux nest h hv nest.length [] []).ok ⟨by simp, by simp, by simp⟩ φ hk⟩
theorem l2Work_aux (nest : List impl_Loop) (hn : SN 1000 nest) (hv : VN nest) : ∀ (d : Nat) (p2 : List Int) (most : Int), Tot (M.spec_l2Work nest p2 most) (p2.length + d = nest.length) (fun φ => ∀ r, φ r) := by
  obtain ⟨hn1, hn2⟩ := hn
  have hv1 := hv.1
  intro d
  induction d with
  | zero =>
    intro p2 most
    refine ⟨?_⟩
    rintro hp φ hk
    unfold M.spec_l2Work
    dsimp only [same]
    exact Ok.ite_beq (fun h => Ok.go) fun h => absurd h (by omega)
  | succ d ih =>
    intro p2 most
    refine ⟨?_⟩
    rintro hp φ hk
    unfold M.spec_l2Work
    dsimp only [same]
    have hloop : ∀ (y2 : Int) (k : Nat) (n v : Int), Tot (M.spec_l2Work_l1 nest p2 most y2 n v) (y2 - v ≤ k ∧ I64 v ∧ I64 y2) (fun φ => ∀ r, φ r) := by
      intro y2 k
      induction k with
      | zero => intro n v; refine ⟨?_⟩; rintro ⟨a1, ⟨a2, a5⟩, ⟨a6, a7⟩⟩ φ hk; unfold M.spec_l2Work_l1; dsimp only [same]; exact Ok.go
      | succ k ik =>
        intro n v; refine ⟨?_⟩; rintro ⟨a1, ⟨a2, a5⟩, ⟨a6, a7⟩⟩ φ hk; unfold M.spec_l2Work_l1; dsimp only [same]; exact Ok.go
    refine Ok.ite_beq (fun h => absurd h (by omega)) fun h => Ok.idx (by omega) (by omega) fun x hx _ => ?_
    obtain ⟨g1, g2⟩ := VN.get hv hx
    refine Ok.call (l2Range_tot x p2) ⟨hn2 x hx, g1, g2⟩ ?_
    intro a b ha hb
    have hloop := hloop b (b - a).toNat
    exact Ok.go
instance l2Work_tot (nest : List impl_Loop) (most : Int) : Tot (M.spec_l2Work nest [] most) (SN 1000 nest ∧ VN nest) (fun φ => ∀ r, φ r) := ⟨fun ⟨h, hv⟩ φ hk => (l2Work_aux nest h hv nest.length [] most).ok (by simp) φ hk⟩
instance NestPoints_tot (nest : List impl_Loop) : Tot (M.spec_NestPoints nest) (SN 1000 nest) (fun φ => ∀ a b, a.length ≤ 120 → (∀ q ∈ a, q.length ≤ 4) → (b = true → VN nest) → φ (a, b)) := ⟨by
  rintro h0 φ hk
  unfold M.spec_NestPoints
  exact Ok.go⟩
theorem l3Access_l1_aux (a : impl_Access) (depth : Int) (h0 : SC a) : ∀ (k : Nat) (i : Int), Tot (M.spec_l3Access_l1 a depth i) ((a.Subs.length : Int) - i < (k : Int) ∧ 0 < (k : Int) ∧ 0 ≤ i) (fun φ => (AF a.Subs i VA → φ (.done ())) ∧ (φ (.ret false))) := by
  obtain ⟨h01, h02, h03⟩ := h0
  intro k
  induction k with
  | zero => intro i; exact ⟨fun h => absurd h.2.1 (by omega)⟩
  | succ k ih =>
    intro i; refine ⟨?_⟩; rintro ⟨v0, v1, v2⟩ φ ⟨hd, hr⟩; unfold M.spec_l3Access_l1
    exact Ok.go
instance l3Access_l1_tot (a : impl_Access) (depth : Int) (i : Int) : Tot (M.spec_l3Access_l1 a depth i) (SC a ∧ 0 ≤ i) (fun φ => (AF a.Subs i VA → φ (.done ())) ∧ (φ (.ret false))) := ⟨by
  rintro ⟨h0, v0⟩ φ hk
  exact (l3Access_l1_aux a depth h0 (((a.Subs.length : Int) - i).toNat + 1) i).ok ⟨by omega, by omega, v0⟩ φ hk⟩
instance l3Access_tot (a : impl_Access) (depth : Int) : Tot (M.spec_l3Access a depth) (SC a) (fun φ => ∀ r, (r = true → VC a) → φ r) := ⟨by
  rintro h0 φ hk
  unfold M.spec_l3Access
  exact Ok.go⟩
instance l3Kids_tot (kind : Int) : Tot (M.spec_l3Kids kind) (True) (fun φ => ∀ r, (r = 0 ∧ (kind = 1 ∨ kind = 2 ∨ kind = 3)) ∨ (r = 2 ∧ (kind = 4 ∨ kind = 5 ∨ kind = 6)) ∨ r = -1 → φ r) := ⟨by
  rintro _ φ hk
  unfold M.spec_l3Kids
  exact Ok.go⟩
instance l3Empty_tot (a : impl_Access) : Tot (M.spec_l3Empty a) (True) (fun φ => ∀ r : Bool, φ r) := ⟨by
  rintro _ φ hk
  unfold M.spec_l3Empty
  exact Ok.go⟩
instance l3None_tot (a : impl_Affine) : Tot (M.spec_l3None a) (True) (fun φ => ∀ r : Bool, φ r) := ⟨by
  rintro _ φ hk
  unfold M.spec_l3None
  exact Ok.go⟩
instance l3Own_tot (e : impl_Expr) (depth : Int) : Tot (M.spec_l3Own e depth) (SA e.Index ∧ SC e.Read) (fun φ => ∀ r, (r = true → e.Kind = 1 → I64 e.Num) → (r = true → e.Kind = 2 → VA e.Index) → (r = true → e.Kind = 3 → VC e.Read) → φ r) := ⟨by
  rintro ⟨h0, h1⟩ φ hk
  unfold M.spec_l3Own
  exact Ok.go⟩
theorem l3Shape_tot : ∀ (n : Nat) (e : impl_Expr) (depth levels : Int), Tot (M.spec_l3Shape e depth levels) (SE n e ∧ levels ≤ 100) (fun φ => ∀ r, (r = true → VE n e) → φ r) := by
  intro n
  induction n with
  | zero =>
    intro e depth levels
    refine ⟨?_⟩
    rintro ⟨⟨h1, h2, h3⟩, hlv⟩ φ hk
    have hl : ∀ lv, Tot (M.spec_l3Shape_l1 e depth lv 0) True (fun φ => φ (.done ())) := by
      intro lv
      refine ⟨?_⟩
      rintro - φ hk
      unfold M.spec_l3Shape_l1
      rw [h3]
      exact Ok.pure hk
    have hlen : e.Kids.length = 0 := by rw [h3]; rfl
    unfold M.spec_l3Shape
    dsimp only [same]
    refine Ok.bind (φ := fun b => b = false → VO e) ?_ ?_
    · refine Ok.ite_dec (fun h => Ok.pure fun h => by cases h) fun h => Ok.call (l3Kids_tot _) trivial ?_
      intro r hr
      refine Ok.ite_bne (fun h => Ok.pure fun h => by cases h) fun h => Ok.call (l3Own_tot e depth) ⟨h1, h2⟩ ?_
      intro b b1 b2 b3
      refine Ok.pure fun hb => ?_
      have hb : b = true := by simpa using hb
      have : e.Kind = 1 ∨ e.Kind = 2 ∨ e.Kind = 3 := by omega
      rcases this with h | h | h
      · exact .inl ⟨h, b1 hb h⟩
      · exact .inr (.inl ⟨h, b2 hb h⟩)
      · exact .inr (.inr ⟨h, b3 hb h⟩)
    · intro b hb
      refine Ok.ite (fun _ => Ok.pure (hk _ fun h => by cases h)) fun hz => ?_
      have hz : VO e := hb (by simpa using hz)
      exact Ok.go
  | succ n ih =>
    intro e depth levels
    refine ⟨?_⟩
    rintro ⟨⟨h1, h2, h3, h4⟩, hlv⟩ φ hk
    unfold M.spec_l3Shape
    dsimp only [same]
    refine Ok.bind (φ := fun b => b = false → 1 ≤ levels ∧ (VO e ∨ ((e.Kind = 4 ∨ e.Kind = 5 ∨ e.Kind = 6) ∧ e.Kids.length = 2))) ?_ ?_
    · refine Ok.ite_dec (fun h => Ok.pure fun h => by cases h) fun h => Ok.call (l3Kids_tot _) trivial ?_
      intro r hr
      refine Ok.ite_bne (fun h => Ok.pure fun h => by cases h) fun h => Ok.call (l3Own_tot e depth) ⟨h1, h2⟩ ?_
      intro b b1 b2 b3
      refine Ok.pure fun hb => ⟨by omega, ?_⟩
      have hb : b = true := by simpa using hb
      have : e.Kind = 1 ∨ e.Kind = 2 ∨ e.Kind = 3 ∨ ((e.Kind = 4 ∨ e.Kind = 5 ∨ e.Kind = 6) ∧ e.Kids.length = 2) := by omega
      rcases this with h | h | h | h
      · exact .inl (.inl ⟨h, b1 hb h⟩)
      · exact .inl (.inr (.inl ⟨h, b2 hb h⟩))
      · exact .inl (.inr (.inr ⟨h, b3 hb h⟩))
      · exact .inr h
    · intro b hb
      refine Ok.ite (fun _ => Ok.pure (hk _ fun h => by cases h)) fun hz => ?_
      obtain ⟨g1, g2⟩ := hb (by simpa using hz)
      have hl : ∀ (k : Nat) (i : Int), Tot (M.spec_l3Shape_l1 e depth levels i) ((e.Kids.length : Int) - i ≤ k ∧ 0 ≤ i) (fun φ => (AF e.Kids i (VE n) → φ (.done ())) ∧ φ (.ret false)) := by
        intro k
        induction k with
        | zero => intro i; refine ⟨?_⟩; rintro ⟨a1, a2⟩ φ ⟨hd, hr⟩; unfold M.spec_l3Shape_l1; dsimp only [same]; exact Ok.go
        | succ k ik =>
          intro i; refine ⟨?_⟩; rintro ⟨a1, a2⟩ φ ⟨hd, hr⟩; unfold M.spec_l3Shape_l1; dsimp only [same]; exact Ok.go
      refine Ok.call (hl _ 0) ⟨Int.le_of_eq (Int.sub_zero _), by omega⟩ ⟨fun hA => Ok.pure (hk _ fun _ => ?_), Ok.pure (hk _ fun h => by cases h)⟩
      exact g2.elim .inl fun g => .inr ⟨g.1, g.2, AF.all hA⟩
instance l3Shape5_tot (e : impl_Expr) (depth levels : Int) : Tot (M.spec_l3Shape e depth levels) (SE 5 e ∧ levels ≤ 100) (fun φ => ∀ r, (r = true → VE 5 e) → φ r) := l3Shape_tot 5 e depth levels
theorem l3Count_tot : ∀ (n : Nat) (e : impl_Expr) (levels : Int), Tot (M.spec_l3Count e levels) (SE n e ∧ levels ≤ 100) (fun φ => ∀ r, φ r) := by
  intro n
  induction n with
  | zero =>
    intro e levels
    refine ⟨?_⟩
    rintro ⟨⟨h1, h2, h3⟩, hlv⟩ φ hk
    unfold M.spec_l3Count
    dsimp only [same]
    unfold M.spec_l3Count_l1
    have hlen : e.Kids.length = 0 := by rw [h3]; rfl
    rw [hlen]
    exact Ok.go
  | succ n ih =>
    intro e levels
    refine ⟨?_⟩
    rintro ⟨⟨h1, h2, h3, h4⟩, hlv⟩ φ hk
    unfold M.spec_l3Count
    dsimp only [same]
    have hl : ∀ (k : Nat) (m i : Int), Tot (M.spec_l3Count_l1 e levels m i) ((e.Kids.length : Int) - i ≤ k ∧ 0 ≤ i) (fun φ => ∀ r, φ r) := by
      intro k
      induction k with
      | zero => intro m i; refine ⟨?_⟩; rintro ⟨a1, a2⟩ φ hk; unfold M.spec_l3Count_l1; dsimp only [same]; exact Ok.go
      | succ k ik => intro m i; refine ⟨?_⟩; rintro ⟨a1, a2⟩ φ hk; unfold M.spec_l3Count_l1; dsimp only [same]; exact Ok.go
    have hl := hl e.Kids.length
    exact Ok.go
instance l3Count5_tot (e : impl_Expr) (levels : Int) : Tot (M.spec_l3Count e levels) (SE 5 e ∧ levels ≤ 100) (fun φ => ∀ r, φ r) := l3Count_tot 5 e levels
instance StmtValid_tot (s : impl_Stmt) (depth : Int) : Tot (M.spec_StmtValid s depth) (SS s) (fun φ => ∀ r, (r = true → VS s) → φ r) := ⟨by
  rintro h0 φ hk
  unfold M.spec_StmtValid
  exact Ok.go⟩
theorem l1Point_l1_aux (p : List Int) (h0 : p.length ≤ 4) : ∀ (k : Nat) (i : Int), Tot (M.spec_l1Point_l1 p i) ((p.length : Int) - i < (k : Int) ∧ 0 < (k : Int) ∧ 0 ≤ i) (fun φ => (φ (.done ())) ∧ (φ (.ret false))) := by
  intro k
  induction k with
  | zero => intro i; exact ⟨fun h => absurd h.2.1 (by omega)⟩
  | succ k ih =>
    intro i; refine ⟨?_⟩; rintro ⟨v0, v1, v2⟩ φ ⟨hd, hr⟩; unfold M.spec_l1Point_l1
    exact Ok.go
instance l1Point_l1_tot (p : List Int) (i : Int) : Tot (M.spec_l1Point_l1 p i) (p.length ≤ 4 ∧ 0 ≤ i) (fun φ => (φ (.done ())) ∧ (φ (.ret false))) := ⟨by
  rintro ⟨h0, v0⟩ φ hk
  exact (l1Point_l1_aux p h0 (((p.length : Int) - i).toNat + 1) i).ok ⟨by omega, by omega, v0⟩ φ hk⟩
instance l1Point_tot (p : List Int) : Tot (M.spec_l1Point p) (p.length ≤ 4) (fun φ => ∀ r : Bool, φ r) := ⟨by
  rintro h0 φ hk
  unfold M.spec_l1Point
  exact Ok.go⟩
theorem l4Part_l2_aux (list : List impl_Array) (part : impl_Part) (y1 : List (List Int)) (i : Int) (h0 : SRs 1000 list) (h1 : SP 1000 part) (h2 : y1.length ≤ 121) (h3 : ∀ q ∈ y1, q.length ≤ 4) (h4 : 0 ≤ i) (h5 : i < (part.Body.length : Int)) : ∀ (k : Nat) (k0 : Int), Tot (M.spec_l4Part_l2 list part y1 i k0) ((y1.length : Int) - k0 < (k : Int) ∧ 0 < (k : Int) ∧ 0 ≤ k0) (fun φ => (φ (.done ())) ∧ (φ (.ret (0, false)))) := by
  obtain ⟨h11, h12, h13⟩ := h1
  intro k
  induction k with
  | zero => intro k0; exact ⟨fun h => absurd h.2.1 (by omega)⟩
  | succ k ih =>
    intro k0; refine ⟨?_⟩; rintro ⟨v0, v1, v2⟩ φ ⟨hd, hr⟩; unfold M.spec_l4Part_l2
    exact Ok.go
instance l4Part_l2_tot (list : List impl_Array) (part : impl_Part) (y1 : List (List Int)) (i : Int) (k0 : Int) : Tot (M.spec_l4Part_l2 list part y1 i k0) (SRs 1000 list ∧ SP 1000 part ∧ y1.length ≤ 121 ∧ (∀ q ∈ y1, q.length ≤ 4) ∧ 0 ≤ i ∧ i < (part.Body.length : Int) ∧ 0 ≤ k0) (fun φ => (φ (.done ())) ∧ (φ (.ret (0, false)))) := ⟨by
  rintro ⟨h0, h1, h2, h3, h4, h5, v0⟩ φ hk
  exact (l4Part_l2_aux list part y1 i h0 h1 h2 h3 h4 h5 (((y1.length : Int) - k0).toNat + 1) k0).ok ⟨by omega, by omega, v0⟩ φ hk⟩
theorem l4Part_l1_aux (list : List impl_Array) (part : impl_Part) (y1 : List (List Int)) (h0 : SRs 1000 list) (h1 : SP 1000 part) (h2 : y1.length ≤ 121) (h3 : ∀ q ∈ y1, q.length ≤ 4) : ∀ (k : Nat) (i : Int), Tot (M.spec_l4Part_l1 list part y1 i) ((part.Body.length : Int) - i < (k : Int) ∧ 0 < (k : Int) ∧ 0 ≤ i) (fun φ => (AF part.Body i VS → φ (.done ())) ∧ (φ (.ret (0, false)))) := by
  have h10 := h1; obtain ⟨h11, h12, h13⟩ := h1
  intro k
  induction k with
  | zero => intro i; exact ⟨fun h => absurd h.2.1 (by omega)⟩
  | succ k ih =>
    intro i; refine ⟨?_⟩; rintro ⟨v0, v1, v2⟩ φ ⟨hd, hr⟩; unfold M.spec_l4Part_l1
    exact Ok.go
instance l4Part_l1_tot (list : List impl_Array) (part : impl_Part) (y1 : List (List Int)) (i : Int) : Tot (M.spec_l4Part_l1 list part y1 i) (SRs 1000 list ∧ SP 1000 part ∧ y1.length ≤ 121 ∧ (∀ q ∈ y1, q.length ≤ 4) ∧ 0 ≤ i) (fun φ => (AF part.Body i VS → φ (.done ())) ∧ (φ (.ret (0, false)))) := ⟨by
  rintro ⟨h0, h1, h2, h3, v0⟩ φ hk
  exact (l4Part_l1_aux list part y1 h0 h1 h2 h3 (((part.Body.length : Int) - i).toNat + 1) i).ok ⟨by omega, by omega, v0⟩ φ hk⟩
instance l4Part_tot (list : List impl_Array) (part : impl_Part) : Tot (M.spec_l4Part list part) (SRs 1000 list ∧ SP 1000 part) (fun φ => ∀ n b, (b = true → VP part) → φ (n, b)) := ⟨by
  rintro ⟨h0, h1⟩ φ hk
  obtain ⟨h11, h12, h13⟩ := id h1
  unfold M.spec_l4Part
  exact Ok.go⟩
theorem ProgramValid_l1_aux (p : impl_Program) (h0 : SG 1000 p) : ∀ (k : Nat) (total : Int) (i : Int), Tot (M.spec_ProgramValid_l1 p total i) ((p.Parts.length : Int) - i < (k : Int) ∧ 0 < (k : Int) ∧ 0 ≤ i) (fun φ => (∀ n, AF p.Parts i VP → φ (.done n)) ∧ (φ (.ret false))) := by
  obtain ⟨h01, h02, h03⟩ := h0
  intro k
  induction k with
  | zero => intro total i; exact ⟨fun h => absurd h.2.1 (by omega)⟩
  | succ k ih =>
    intro total i; refine ⟨?_⟩; rintro ⟨v0, v1, v2⟩ φ ⟨hd, hr⟩; unfold M.spec_ProgramValid_l1
    exact Ok.go
instance ProgramValid_l1_tot (p : impl_Program) (total : Int) (i : Int) : Tot (M.spec_ProgramValid_l1 p total i) (SG 1000 p ∧ 0 ≤ i) (fun φ => (∀ n, AF p.Parts i VP → φ (.done n)) ∧ (φ (.ret false))) := ⟨by
  rintro ⟨h0, v0⟩ φ hk
  exact (ProgramValid_l1_aux p h0 (((p.Parts.length : Int) - i).toNat + 1) total i).ok ⟨by omega, by omega, v0⟩ φ hk⟩
instance ProgramValid_tot (p : impl_Program) : Tot (M.spec_ProgramValid p) (SG 1000 p) (fun φ => ∀ r, (r = true → VG p) → φ r) := ⟨by
  rintro h0 φ hk
  obtain ⟨h01, h02, h03⟩ := id h0
  unfold M.spec_ProgramValid
  exact Ok.go⟩
end Go.LN
