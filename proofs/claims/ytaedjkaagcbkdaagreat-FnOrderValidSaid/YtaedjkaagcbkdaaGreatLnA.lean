/- The frame of a function read as a list of known slots, and the running of a region's operations one after the other. -/
import Derived.WalkKit
import Derived.Orders
import Derived.Below
import Derived.LoopN
import Derived.KernelRfl
namespace Go.LN
set_option linter.unusedVariables false
set_option linter.unusedSimpArgs false
abbrev FM := List (Nat × Value)
abbrev vI (n : Int) : Value := .int .i64 n
abbrev vT (l : List UInt8) : Value := .string ⟨⟨l⟩⟩
abbrev vS {α : Type} (a : Option Addr) (l : List α) (c : Nat) : Value := .slice a l.length c
abbrev vA (l : List Value) : Value := .agg ⟨l⟩
abbrev vP (b o : Nat) : Value := .pointer (some ⟨b, o, none⟩)
def look : FM → Nat → Option Value
  | [], _ => none
  | (k, v) :: m, t => bif Nat.beq k t then some v else look m t
theorem pC (k : Nat) (v : Value) (m : FM) : look ((k, v) :: m) k = some v := by simp [look]
theorem rM {k t : Nat} (v : Value) (m : FM) (h : k ≠ t) : look ((k, v) :: m) t = look m t := by
  have : Nat.beq k t = false := by cases hb : Nat.beq k t with
    | false => rfl
    | true => exact absurd (Nat.eq_of_beq_eq_true hb) h
  simp [look, this]
structure Fr (n : Nat) (a : Act) (m : FM) : Prop where
  defers : a.defers = []
  size : a.tmps.size = n
  holds : ∀ k v, look m k = some v → a.tmps[k]? = some v
def sub (m : FM) : FM → Prop
  | [] => True
  | (k, v) :: m' => look m k = some v ∧ sub m m'
theorem sub.look {m : FM} : ∀ {m' : FM}, sub m m' → ∀ {k v}, LN.look m' k = some v → LN.look m k = some v
  | [], _, _, _, h => by simp [LN.look] at h
  | (k', v') :: m', hs, k, v, h => by
    by_cases hk : k' = k
    · subst hk; rw [pC] at h; cases h; exact hs.1
    · rw [rM _ _ hk] at h; exact hs.2.look h
theorem Fr.weaken {n : Nat} {a : Act} {m m' : FM} (h : Fr n a m) (hs : sub m m') : Fr n a m' :=
  ⟨h.defers, h.size, fun _ _ hk => h.holds _ _ (hs.look hk)⟩
theorem Fr.put {n : Nat} {a : Act} {m : FM} (h : Fr n a m) (d : Nat) (v : Value) (hd : d < n) : Fr n (a.put (some d) v) ((d, v) :: m) := by
  refine ⟨h.defers, by simp [Act.put, h.size], fun k u hk => ?_⟩
  by_cases e : d = k
  · subst e; rw [pC] at hk; cases hk
    simp [Act.put, h.size, hd]
  · rw [rM _ _ e] at hk
    simp only [Act.put]
    rw [Array.getElem?_setIfInBounds_ne e]
    exact h.holds _ _ hk
def val (m : FM) : Operand → Option Value
  | .tmp t => look m t
  | .const v => some v
  | .global g => some (.pointer (some ⟨g, 0, none⟩))
  | .func f => some (.func (.func f) #[] #[])
theorem Fr.eval {n : Nat} {a : Act} {m : FM} (h : Fr n a m) {x : Operand} {v : Value} (hx : val m x = some v) : a.eval x = v := by
  cases x with
  | tmp t =>
    have := h.holds t v hx
    show a.tmps.getD t undef = v
    simp [Array.getD_eq_getD_getElem?, this]
  | const u => simpa [val, Act.eval] using hx
  | global g => simpa [val, Act.eval] using hx
  | func f => simpa [val, Act.eval] using hx
/-! ### A region's operations in the order of the text -/
def wpL (P : Program) (ops : Array Oper) (Q : Exit → Act → World → Prop) : List Oper → Act → World → Prop
  | [], a, w => Q .normal a w
  | o :: rest, a, w => if Region.wanted o (yielded ops a.tmps) then o.wp P a w (wpL P ops Q rest) Q else wpL P ops Q rest (a.put o.dst undef) w
theorem zES {P : Program} {ops : Array Oper} {Q : Exit → Act → World → Prop} (l : List Oper) :
    ∀ (pc : Nat) (a : Act) (w : World), ops.toList.drop pc = l → wpL P ops Q l a w → wpOps P ops Q ((List.range ops.size).drop pc) a w := by
  induction l with
  | nil =>
    intro pc a w hl h
    have hp : ops.size ≤ pc := by simpa using List.drop_eq_nil_iff.1 hl
    rw [List.drop_eq_nil_iff.2 (by simpa using hp)]
    exact h
  | cons o rest ih =>
    intro pc a w hl h
    have hp : pc < ops.size := by
      rcases Nat.lt_or_ge pc ops.size with hp | hp
      · exact hp
      · rw [List.drop_eq_nil_iff.2 (by simpa using hp)] at hl; cases hl
    have ho : ops[pc]? = some o := by
      have : ops.toList[pc]? = some o := by
        have h0 : (ops.toList.drop pc)[0]? = some o := by rw [hl]; rfl
        simpa using h0
      simpa using this
    have hr : ops.toList.drop (pc + 1) = rest := by
      rw [← List.drop_drop, hl]; rfl
    rw [List.drop_eq_getElem_cons (by simpa using hp)]
    simp only [List.getElem_range, wpOps, ho]
    simp only [wpL] at h
    split
    · rename_i hw; simp only [hw, if_true] at h
      exact .inl (Oper.wp_mono (fun a w hk => ih (pc + 1) a w hr hk) h)
    · rename_i hw; simp only [hw] at h
      exact ih (pc + 1) _ w hr h
theorem zCk {P : Program} {id : Nat} {ops : Array Oper} {Q : Exit → Act → World → Prop} {a : Act} {w : World}
    (h : wpL P ops Q ops.toList a w) : (Code.region id ops false).wp P Q a w :=
  wp_region (by simpa using zES ops.toList 0 a w rfl h)
/-! ### A loop, one round unrolled -/
theorem jX {id : Nat} : ∀ {k k' : List Item}, exitTo id k = some k' → k'.length < k.length
  | [], _, h => by simp [exitTo] at h
  | x :: k, k', h => by
    cases x with
    | inBlock id' =>
      simp only [exitTo] at h
      split at h
      · cases h; simp
      · have := jX h; simp; omega
    | _ => simp only [exitTo] at h; have := jX h; simp; omega
theorem Steps.peel {P : Program} {m m₁ m' : Machine} (h : Steps P m m') (h1 : step P m = .next m₁) (hne : m ≠ m') : Steps P m₁ m' := by
  obtain ⟨n, hn⟩ := h
  cases n with
  | zero => simp only [runN] at hn; injection hn with hn; exact absurd hn hne
  | succ n => simp only [runN, h1] at hn; exact ⟨n, hn⟩
theorem zEG {b : Frame} {a a' : Act} {k k' : List Item} {cs : List Frame} {w w' : World} (h : lone (b.at a k) cs w = lone (b.at a' k') cs w') : k = k' := by
  simp only [lone, Frame.at] at h
  injection h with h1 h2 h3
  simp at h2
  exact h2.2.1
theorem zCl {P : Program} {c : Code} {Q : Exit → Act → World → Prop} {a : Act} {w : World} (hg : ∀ l a w, ¬ Q (.goto l) a w) (ho : ∀ a w, ¬ Q .outgrown a w)
    (h : c.wp P (Exit.then (fun a' w' => (Code.loop c).wp P Q a' w') Q) a w) : (Code.loop c).wp P Q a w := by
  intro b k cs
  obtain ⟨e, a1, w1, hq, harr⟩ := h b (.inLoop c :: k) cs
  cases e with
  | normal =>
    obtain ⟨e2, a2, w2, hq2, harr2⟩ := hq b k cs
    refine ⟨e2, a2, w2, hq2, .of_steps (.head step_loop (Steps.trans harr (.one step_inLoop))) ?_⟩
    cases e2 with
    | normal =>
      refine Steps.peel harr2 step_loop (fun he => ?_)
      have := congrArg List.length (zEG he)
      simp at this
    | exit id =>
      intro k' hk
      refine Steps.peel (harr2 k' hk) step_loop (fun he => ?_)
      have := congrArg List.length (zEG he)
      have := jX hk
      simp at *
      omega
    | goto l => exact absurd hq2 (hg _ _ _)
    | ret =>
      obtain ⟨todo, hs⟩ := harr2
      refine ⟨todo, Steps.peel hs step_loop (fun he => ?_)⟩
      simp [lone, Frame.at] at he
    | panic ch =>
      obtain ⟨todo, hs⟩ := harr2
      refine ⟨todo, Steps.peel hs step_loop (fun he => ?_)⟩
      simp [lone, Frame.at] at he
    | outgrown => exact absurd hq2 (ho _ _)
  | exit id => exact ⟨_, a1, w1, hq, .of_steps (.one step_loop) (.pass (x := .inLoop c) rfl (fun _ _ => .inl (by simp)) harr)⟩
  | goto l => exact absurd hq (hg _ _ _)
  | ret => exact ⟨_, a1, w1, hq, .of_steps (.one step_loop) (.pass (x := .inLoop c) rfl (fun _ _ => .inl (by simp)) harr)⟩
  | panic ch => exact ⟨_, a1, w1, hq, .of_steps (.one step_loop) (.pass (x := .inLoop c) rfl (fun _ _ => .inl (by simp)) harr)⟩
  | outgrown => exact absurd hq (ho _ _)
end Go.LN
