/- Values: points are in order and inside their nest; instances are in order. -/
import Derived.Test.YtaedjkaagcbkdaaGreatXInstanceOrder
import Derived.Test.YtaedjkaagcbkdaaGreatVE1
namespace Go.LN
set_option linter.unusedVariables false
set_option linter.unusedSimpArgs false
theorem mem_rngK : ∀ {k : Nat} {a v : Int}, v ∈ rngK k a ↔ a ≤ v ∧ v < a + (k : Int)
  | 0, a, v => by simp [rngK]
  | k + 1, a, v => by rw [rngK, List.mem_cons, mem_rngK]; omega
theorem mem_rng {a b v : Int} : v ∈ rng a b ↔ a ≤ v ∧ v < b := by
  unfold rng
  rw [mem_rngK]; omega
theorem rngK_lt : ∀ (k : Nat) (a : Int), (rngK k a).Pairwise (· < ·)
  | 0, a => List.Pairwise.nil
  | k + 1, a => by
    rw [rngK]
    refine List.Pairwise.cons (fun v hv => ?_) (rngK_lt k (a + 1))
    have := (mem_rngK.1 hv).1
    omega
def inP : List zI → List Int → List Int → Prop
  | [], _, [] => True
  | l :: ls, p, v :: r => (loF l p ≤ v ∧ v < hiF l p) ∧ inP ls (p ++ [v]) r
  | _, _, _ => False
theorem mem_pts : ∀ {ls : List zI} {p q : List Int}, q ∈ pts ls p → ∃ r, q = p ++ r ∧ inP ls p r
  | [], p, q, h => by
    rw [pts, List.mem_singleton] at h
    exact ⟨[], by rw [h, List.append_nil], trivial⟩
  | l :: ls, p, q, h => by
    rw [pts, List.mem_flatMap] at h
    obtain ⟨v, hv, hq⟩ := h
    obtain ⟨r, e, hr⟩ := mem_pts hq
    exact ⟨v :: r, by rw [e, List.append_assoc]; rfl, mem_rng.1 hv, hr⟩
def lexlt : List Int → List Int → Prop
  | x :: xs, y :: ys => x < y ∨ (x = y ∧ lexlt xs ys)
  | _, _ => False
theorem pts_lex : ∀ (ls : List zI) (p : List Int), (pts ls p).Pairwise fun q w => ∃ r s, q = p ++ r ∧ w = p ++ s ∧ lexlt r s
  | [], p => by rw [pts]; exact List.pairwise_singleton ..
  | l :: ls, p => by
    rw [pts, List.pairwise_flatMap]
    refine ⟨fun v hv => (pts_lex ls (p ++ [v])).imp ?_, (rngK_lt _ _).imp ?_⟩
    · rintro q w ⟨r, s, e1, e2, h⟩
      exact ⟨v :: r, v :: s, by rw [e1, List.append_assoc]; rfl, by rw [e2, List.append_assoc]; rfl, .inr ⟨rfl, h⟩⟩
    · intro v w hvw q hq z hz
      obtain ⟨r, e1, _⟩ := mem_pts hq
      obtain ⟨s, e2, _⟩ := mem_pts hz
      exact ⟨v :: r, w :: s, by rw [e1, List.append_assoc]; rfl, by rw [e2, List.append_assoc]; rfl, .inl hvw⟩
/-! Chains. -/
def Ch {α : Type} (R : α → α → Prop) : List α → Prop
  | a :: b :: l => R a b ∧ Ch R (b :: l)
  | _ => True
theorem Ch.append {α : Type} {R : α → α → Prop} : ∀ {l m : List α}, Ch R l → Ch R m → (∀ a ∈ l, ∀ b ∈ m, R a b) → Ch R (l ++ m)
  | [], m, _, h2, _ => h2
  | [a], [], _, _, _ => trivial
  | [a], b :: m, _, h2, h => ⟨h a (List.mem_cons_self ..) b (List.mem_cons_self ..), h2⟩
  | a :: b :: l, m, h1, h2, h => ⟨h1.1, Ch.append (l := b :: l) h1.2 h2 fun x hx => h x (List.mem_cons_of_mem _ hx)⟩
theorem Ch.flat {α β : Type} {R : β → β → Prop} {f : α → List β} : ∀ {l : List α}, (∀ x ∈ l, Ch R (f x)) → (l.Pairwise fun x y => ∀ a ∈ f x, ∀ b ∈ f y, R a b) → Ch R (l.flatMap f)
  | [], _, _ => trivial
  | x :: l, h1, h2 => by
    rw [List.flatMap_cons]
    have h2' := List.pairwise_cons.1 h2
    refine Ch.append (h1 x (List.mem_cons_self ..)) (Ch.flat (fun y hy => h1 y (List.mem_cons_of_mem _ hy)) h2'.2) fun a ha b hb => ?_
    obtain ⟨y, hy, hb⟩ := List.mem_flatMap.1 hb
    exact h2'.1 y hy a ha b hb
theorem Ch.get {α : Type} {R : α → α → Prop} : ∀ {l : List α} (i : Nat) (h : i + 1 < l.length), Ch R l → R l[i] l[i + 1]
  | a :: b :: l, 0, _, hc => hc.1
  | a :: b :: l, i + 1, h, hc => Ch.get (l := b :: l) i (by simpa using h) hc.2
  | [a], i, h, _ => by simp at h
  | [], i, h, _ => by simp at h
def nxt (a b : yI) : Prop := a.Part < b.Part ∨ (a.Part = b.Part ∧ (lexlt a.Point b.Point ∨ (a.Point = b.Point ∧ a.Stmt + 1 = b.Stmt)))
theorem instR_ch (k : Int) (q : List Int) : ∀ (j i : Nat), Ch nxt (instR k q i j)
  | 0, _ => trivial
  | 1, _ => trivial
  | j + 2, i => by
    have := instR_ch k q (j + 1) (i + 1)
    unfold instR at this ⊢
    rw [List.range'_succ, List.map_cons, List.range'_succ, List.map_cons]
    rw [List.range'_succ, List.map_cons] at this
    exact ⟨.inr ⟨rfl, .inr ⟨rfl, by dsimp only; omega⟩⟩, this⟩
theorem instR_mem {k : Int} {q : List Int} {i j : Nat} {z : yI} (h : z ∈ instR k q i j) : z.Part = k ∧ z.Point = q ∧ ∃ s : Nat, z.Stmt = (s : Int) ∧ s < i + j := by
  unfold instR at h
  obtain ⟨s, hs, rfl⟩ := List.mem_map.1 h
  exact ⟨rfl, rfl, s, rfl, (List.mem_range'_1.1 hs).2⟩
theorem nestPts_lex (nest : List zI) : (nestPts nest).1.Pairwise lexlt := by
  unfold nestPts
  split
  · refine (pts_lex nest []).imp ?_
    rintro q w ⟨r, s, e1, e2, h⟩
    rw [e1, e2]; exact h
  · exact List.Pairwise.nil
theorem partI_ch (k : Int) (x : zP) : Ch nxt (partI k x) := by
  unfold partI
  refine Ch.flat (fun q _ => instR_ch k q _ 0) ((nestPts_lex x.Nest).imp ?_)
  intro q w h a ha b hb
  obtain ⟨a1, a2, _⟩ := instR_mem ha
  obtain ⟨b1, b2, _⟩ := instR_mem hb
  exact .inr ⟨by rw [a1, b1], .inl (by rw [a2, b2]; exact h)⟩
theorem partI_part {k : Int} {x : zP} {z : yI} (h : z ∈ partI k x) : z.Part = k := by
  unfold partI at h
  obtain ⟨q, _, hz⟩ := List.mem_flatMap.1 h
  exact (instR_mem hz).1
theorem progI_ch (P : zZ) : Ch nxt (progI P) := by
  unfold progI
  refine Ch.flat (fun i _ => partI_ch _ _) ((List.pairwise_lt_range' 1).imp ?_)
  intro i j h a ha b hb
  exact .inl (by rw [partI_part ha, partI_part hb]; omega)
end Go.LN
