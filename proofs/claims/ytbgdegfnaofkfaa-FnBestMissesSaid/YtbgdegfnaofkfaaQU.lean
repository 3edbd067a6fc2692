/- The invariants of data, and that the first models are total. Printed by tg1.py. -/
import Derived.Test.YtbgdegfnaofkfaaQT
import Derived.Test.YtbgdegfnaofkfaaGB4
namespace Go.LN
set_option linter.unusedVariables false
set_option linter.unusedSimpArgs false
def I64 (x : Int) : Prop := -9223372036854775808 ≤ x ∧ x ≤ 9223372036854775807
instance (x : Int) : Decidable (I64 x) := inferInstanceAs (Decidable (_ ∧ _))
theorem W_rng (x : Int) : I64 (W x) := by
  show -9223372036854775808 ≤ IntKind.i64.wrap x ∧ IntKind.i64.wrap x ≤ 9223372036854775807
  rw [IntKind.wrap_i64]; omega
instance (x : Int) : Sd (I64 (W x)) := ⟨W_rng x⟩
def SA (a : impl_Affine) : Prop := a.Coefs.length ≤ 100 ∧ I64 a.Const
def VA (a : impl_Affine) : Prop := a.Coefs.length = 4 ∧ (∀ c ∈ a.Coefs, I64 c) ∧ I64 a.Const
def SC (a : impl_Access) : Prop := a.Array.l.length ≤ 1000000 ∧ a.Subs.length ≤ 100 ∧ ∀ s ∈ a.Subs, SA s
def VC (a : impl_Access) : Prop := a.Array.l.length ≤ 1 ∧ a.Subs.length ≤ 2 ∧ ∀ s ∈ a.Subs, VA s
def SE : Nat → impl_Expr → Prop
  | 0, e => SA e.Index ∧ SC e.Read ∧ e.Kids = []
  | n + 1, e => SA e.Index ∧ SC e.Read ∧ e.Kids.length ≤ 10 ∧ ∀ k ∈ e.Kids, SE n k
def VO (e : impl_Expr) : Prop := (e.Kind = 1 ∧ I64 e.Num) ∨ (e.Kind = 2 ∧ VA e.Index) ∨ (e.Kind = 3 ∧ VC e.Read)
def VE : Nat → impl_Expr → Prop
  | 0, e => VO e
  | n + 1, e => VO e ∨ ((e.Kind = 4 ∨ e.Kind = 5 ∨ e.Kind = 6) ∧ e.Kids.length = 2 ∧ ∀ k ∈ e.Kids, VE n k)
def SS (s : impl_Stmt) : Prop := SC s.Write ∧ SE 5 s.Value
def VS (s : impl_Stmt) : Prop := VC s.Write ∧ VE 5 s.Value
def LL (l : List impl_Affine) : Prop := l.length ≤ 100 ∧ ∀ a ∈ l, SA a
def VL (l : List impl_Affine) : Prop := 1 ≤ l.length ∧ l.length ≤ 2 ∧ ∀ a ∈ l, VA a
def SL1 (x : impl_Loop) : Prop := LL x.Lo ∧ LL x.Hi
def VL1 (x : impl_Loop) : Prop := VL x.Lo ∧ VL x.Hi
def SN (b : Nat) (l : List impl_Loop) : Prop := l.length ≤ b ∧ ∀ x ∈ l, SL1 x
def VN (l : List impl_Loop) : Prop := l.length ≤ 4 ∧ ∀ x ∈ l, VL1 x
def SP (b : Nat) (p : impl_Part) : Prop := SN b p.Nest ∧ p.Body.length ≤ b ∧ ∀ s ∈ p.Body, SS s
def VP (p : impl_Part) : Prop := VN p.Nest ∧ p.Body.length ≤ 4 ∧ ∀ s ∈ p.Body, VS s
def SR (a : impl_Array) : Prop := a.Name.l.length ≤ 1000000 ∧ a.Dims.length ≤ 100
def VR (a : impl_Array) : Prop := a.Name.l.length = 1 ∧ a.Dims.length ≤ 2 ∧ ∀ d ∈ a.Dims, I64 d
def SRs (b : Nat) (l : List impl_Array) : Prop := l.length ≤ b ∧ ∀ a ∈ l, SR a
def VRs (l : List impl_Array) : Prop := l.length ≤ 4 ∧ ∀ a ∈ l, VR a
def SG (b : Nat) (p : impl_Program) : Prop := SRs b p.Arrays ∧ p.Parts.length ≤ b ∧ ∀ q ∈ p.Parts, SP b q
def VG (p : impl_Program) : Prop := VRs p.Arrays ∧ p.Parts.length ≤ 4 ∧ ∀ q ∈ p.Parts, VP q
instance (a : impl_Affine) : Su (SA a) (a.Coefs.length ≤ 100 ∧ I64 a.Const) := ⟨id⟩
instance (a : impl_Affine) : Su (VA a) (a.Coefs.length = 4 ∧ (∀ c ∈ a.Coefs, I64 c) ∧ I64 a.Const) := ⟨id⟩
instance (a : impl_Access) : Su (SC a) (a.Array.l.length ≤ 1000000 ∧ a.Subs.length ≤ 100 ∧ ∀ s ∈ a.Subs, SA s) := ⟨id⟩
instance (a : impl_Access) : Su (VC a) (a.Array.l.length ≤ 1 ∧ a.Subs.length ≤ 2 ∧ ∀ s ∈ a.Subs, VA s) := ⟨id⟩
instance (s : impl_Stmt) : Su (SS s) (SC s.Write ∧ SE 5 s.Value) := ⟨id⟩
instance (s : impl_Stmt) : Su (VS s) (VC s.Write ∧ VE 5 s.Value) := ⟨id⟩
instance (l : List impl_Affine) : Su (LL l) (l.length ≤ 100 ∧ ∀ a ∈ l, SA a) := ⟨id⟩
instance (l : List impl_Affine) : Su (VL l) (1 ≤ l.length ∧ l.length ≤ 2 ∧ ∀ a ∈ l, VA a) := ⟨id⟩
instance (x : impl_Loop) : Su (SL1 x) (LL x.Lo ∧ LL x.Hi) := ⟨id⟩
instance (x : impl_Loop) : Su (VL1 x) (VL x.Lo ∧ VL x.Hi) := ⟨id⟩
instance (b : Nat) (l : List impl_Loop) : Su (SN b l) (l.length ≤ b ∧ ∀ x ∈ l, SL1 x) := ⟨id⟩
instance (l : List impl_Loop) : Su (VN l) (l.length ≤ 4 ∧ ∀ x ∈ l, VL1 x) := ⟨id⟩
instance (b : Nat) (p : impl_Part) : Su (SP b p) (SN b p.Nest ∧ p.Body.length ≤ b ∧ ∀ s ∈ p.Body, SS s) := ⟨id⟩
instance (p : impl_Part) : Su (VP p) (VN p.Nest ∧ p.Body.length ≤ 4 ∧ ∀ s ∈ p.Body, VS s) := ⟨id⟩
instance (a : impl_Array) : Su (SR a) (a.Name.l.length ≤ 1000000 ∧ a.Dims.length ≤ 100) := ⟨id⟩
instance (a : impl_Array) : Su (VR a) (a.Name.l.length = 1 ∧ a.Dims.length ≤ 2 ∧ ∀ d ∈ a.Dims, I64 d) := ⟨id⟩
instance (b : Nat) (l : List impl_Array) : Su (SRs b l) (l.length ≤ b ∧ ∀ a ∈ l, SR a) := ⟨id⟩
instance (l : List impl_Array) : Su (VRs l) (l.length ≤ 4 ∧ ∀ a ∈ l, VR a) := ⟨id⟩
instance (b : Nat) (p : impl_Program) : Su (SG b p) (SRs b p.Arrays ∧ p.Parts.length ≤ b ∧ ∀ q ∈ p.Parts, SP b q) := ⟨id⟩
instance (p : impl_Program) : Su (VG p) (VRs p.Arrays ∧ p.Parts.length ≤ 4 ∧ ∀ q ∈ p.Parts, VP q) := ⟨id⟩
instance (x : Int) : Su (I64 x) (-9223372036854775808 ≤ x ∧ x ≤ 9223372036854775807) := ⟨id⟩
instance (x : impl_Loop) : Sw (LL x.Lo) (SL1 x) := ⟨And.left⟩
instance (x : impl_Loop) : Sw (LL x.Hi) (SL1 x) := ⟨And.right⟩
instance (s : impl_Stmt) : Sw (SC s.Write) (SS s) := ⟨And.left⟩
instance (s : impl_Stmt) : Sw (SE 5 s.Value) (SS s) := ⟨And.right⟩
theorem SE.parts : ∀ {n : Nat} {e : impl_Expr}, SE n e → SA e.Index ∧ SC e.Read ∧ e.Kids.length ≤ 10
  | 0, e, h => ⟨h.1, h.2.1, by rw [h.2.2]; simp⟩
  | n + 1, e, h => ⟨h.1, h.2.1, h.2.2.1⟩
theorem SE.succ : ∀ {n : Nat} {e : impl_Expr}, SE n e → SE (n + 1) e
  | 0, e, h => ⟨h.1, h.2.1, by rw [h.2.2]; simp, by rw [h.2.2]; simp⟩
  | n + 1, e, h => ⟨h.1, h.2.1, h.2.2.1, fun k hk => (h.2.2.2 k hk).succ⟩
theorem SE.leaf {e : impl_Expr} (h1 : SA e.Index) (h2 : SC e.Read) (h3 : e.Kids = []) : ∀ {n : Nat}, SE n e
  | 0 => ⟨h1, h2, h3⟩
  | n + 1 => ⟨h1, h2, by rw [h3]; simp, by rw [h3]; simp⟩
theorem SA.nil {c : Int} (h : I64 c) : SA (impl_Affine.mk [] c) := ⟨by simp, h⟩
theorem SA.nil0 : SA (impl_Affine.mk [] 0) := ⟨by simp, by simp [I64]⟩
theorem SC.nil : SC (impl_Access.mk ⟨[]⟩ []) := by simp [SC]
instance : Sd (SA (impl_Affine.mk [] 0)) := ⟨SA.nil0⟩
instance : Sd (SC (impl_Access.mk ⟨[]⟩ [])) := ⟨SC.nil⟩
theorem l4Arrays_l2_aux (x : impl_Array) (h0 : SR x) : ∀ (k : Nat) (i : Int), Tot (M.spec_l4Arrays_l2 x i) ((x.Dims.length : Int) - i < (k : Int) ∧ 0 < (k : Int) ∧ 0 ≤ i) (fun φ => (AF x.Dims i I64 → φ (.done ())) ∧ (φ (.ret false))) := by
  have h0 := h0.2
  intro k
  induction k with
  | zero => intro i; exact ⟨fun h => absurd h.2.1 (by omega)⟩
  | succ k ih =>
    intro i; refine ⟨?_⟩; rintro ⟨v0, v1, v2⟩ φ ⟨hd, hr⟩; unfold M.spec_l4Arrays_l2
    exact Ok.go
instance l4Arrays_l2_tot (x : impl_Array) (i : Int) : Tot (M.spec_l4Arrays_l2 x i) (SR x ∧ 0 ≤ i) (fun φ => (AF x.Dims i I64 → φ (.done ())) ∧ (φ (.ret false))) := ⟨by
  rintro ⟨h0, v0⟩ φ hk
  exact (l4Arrays_l2_aux x h0 (((x.Dims.length : Int) - i).toNat + 1) i).ok ⟨by omega, by omega, v0⟩ φ hk⟩
theorem l4Arrays_l1_aux (l : List impl_Array) (h0 : SRs 1000 l) : ∀ (k : Nat) (i : Int), Tot (M.spec_l4Arrays_l1 l i) ((l.length : Int) - i < (k : Int) ∧ 0 < (k : Int) ∧ 0 ≤ i) (fun φ => (AF l i VR → φ (.done ())) ∧ (φ (.ret false))) := by
  obtain ⟨h00, h01⟩ := h0
  intro k
  induction k with
  | zero => intro i; exact ⟨fun h => absurd h.2.1 (by omega)⟩
  | succ k ih =>
    intro i; refine ⟨?_⟩; rintro ⟨v0, v1, v2⟩ φ ⟨hd, hr⟩; unfold M.spec_l4Arrays_l1
    exact Ok.go
instance l4Arrays_l1_tot (l : List impl_Array) (i : Int) : Tot (M.spec_l4Arrays_l1 l i) (SRs 1000 l ∧ 0 ≤ i) (fun φ => (AF l i VR → φ (.done ())) ∧ (φ (.ret false))) := ⟨by
  rintro ⟨h0, v0⟩ φ hk
  exact (l4Arrays_l1_aux l h0 (((l.length : Int) - i).toNat + 1) i).ok ⟨by omega, by omega, v0⟩ φ hk⟩
instance l4Arrays_tot (l : List impl_Array) : Tot (M.spec_l4Arrays l) (SRs 1000 l) (fun φ => ∀ r, (r = true → VRs l) → φ r) := ⟨by
  rintro h0 φ hk
  unfold M.spec_l4Arrays
  exact Ok.go⟩
instance l3CopyAffine_tot (a : impl_Affine) : Tot (M.spec_l3CopyAffine a) (SA a) (fun φ => ∀ r, SA r → r.Coefs.length = a.Coefs.length → φ r) := ⟨by
  rintro h0 φ hk
  obtain ⟨h00, h01⟩ := h0
  unfold M.spec_l3CopyAffine
  exact Ok.go⟩
theorem l3CopyAccess_l1_aux (a : impl_Access) (h0 : SC a) : ∀ (k : Nat) (i : Int) (Subs : List impl_Affine), Tot (M.spec_l3CopyAccess_l1 a i Subs) ((a.Subs.length : Int) - i < (k : Int) ∧ 0 < (k : Int) ∧ 0 ≤ i ∧ (Subs.length : Int) = i ∧ i ≤ a.Subs.length ∧ (∀ s ∈ Subs, SA s)) (fun φ => ∀ r, r.length ≤ 100 → (∀ s ∈ r, SA s) → φ r) := by
  obtain ⟨h01, h02, h03⟩ := h0
  intro k
  induction k with
  | zero => intro i Subs; exact ⟨fun h => absurd h.2.1 (by omega)⟩
  | succ k ih =>
    intro i Subs; refine ⟨?_⟩; rintro ⟨v0, v1, v2, v3, v4, v5⟩ φ hk; unfold M.spec_l3CopyAccess_l1
    exact Ok.go
instance l3CopyAccess_l1_tot (a : impl_Access) (i : Int) (Subs : List impl_Affine) : Tot (M.spec_l3CopyAccess_l1 a i Subs) (SC a ∧ 0 ≤ i ∧ (Subs.length : Int) = i ∧ i ≤ a.Subs.length ∧ (∀ s ∈ Subs, SA s)) (fun φ => ∀ r, r.length ≤ 100 → (∀ s ∈ r, SA s) → φ r) := ⟨by
  rintro ⟨h0, v0, v1, v2, v3⟩ φ hk
  exact (l3CopyAccess_l1_aux a h0 (((a.Subs.length : Int) - i).toNat + 1) i Subs).ok ⟨by omega, by omega, v0, v1, v2, v3⟩ φ hk⟩
instance l3CopyAccess_tot (a : impl_Access) : Tot (M.spec_l3CopyAccess a) (SC a) (fun φ => ∀ r, SC r → φ r) := ⟨by
  rintro h0 φ hk
  have h00 := h0.1
  unfold M.spec_l3CopyAccess
  exact Ok.go⟩
end Go.LN
