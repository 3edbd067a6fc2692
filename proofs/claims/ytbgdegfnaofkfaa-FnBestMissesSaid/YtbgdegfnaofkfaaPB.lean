/- Caches in plain words: the policy that drops the cell used latest misses no more than any other policy. -/
namespace Go.LN.Pb
set_option linter.unusedVariables false
set_option linter.unusedSimpArgs false
def nx : List Int → Int → Nat
  | [], _ => 0
  | x :: t, c => if c = x then 0 else nx t c + 1
def b2 (p : Prop) [Decidable p] : Nat := if p then 1 else 0
def cnt (h t : List Int) (τ : Nat) : Nat := h.countP (fun y => decide (nx t y < τ))
theorem nodup_sub {l : List Int} : ∀ {m : List Int}, l.Nodup → (∀ y ∈ l, y ∈ m) → l.length ≤ m.length := by
  induction l with
  | nil => intro m _ _; simp
  | cons a l ih =>
    intro m hn hs
    rw [List.nodup_cons] at hn
    have ha : a ∈ m := hs a List.mem_cons_self
    have h1 : l.length ≤ (m.erase a).length := ih hn.2 fun y hy => by
      have hya : y ≠ a := fun e => hn.1 (e ▸ hy)
      exact (List.mem_erase_of_ne hya).2 (hs y (List.mem_cons_of_mem _ hy))
    have h2 : (m.erase a).length = m.length - 1 := List.length_erase_of_mem ha
    have h3 : 0 < m.length := List.length_pos_of_mem ha
    simp only [List.length_cons]
    omega
theorem cnt_sub {l m t : List Int} {τ : Nat} (hn : l.Nodup) (hs : ∀ y ∈ l, y ∈ m) : cnt l t τ ≤ cnt m t τ := by
  unfold cnt
  rw [List.countP_eq_length_filter, List.countP_eq_length_filter]
  refine nodup_sub (hn.filter _) fun y hy => ?_
  rw [List.mem_filter] at hy ⊢
  exact ⟨hs y hy.1, hy.2⟩
theorem cnt_le {h t : List Int} {τ : Nat} : cnt h t τ ≤ h.length := List.countP_le_length
def rs (h : List Int) (x : Int) : List Int := h.filter (fun y => decide (y ≠ x))
theorem cnt_cons {h t : List Int} {x : Int} {τ : Nat} (hn : h.Nodup) : cnt h (x :: t) (τ + 1) = b2 (x ∈ h) + cnt (rs h x) t τ := by
  induction h with
  | nil => rfl
  | cons a h ih =>
    rw [List.nodup_cons] at hn
    have ih := ih hn.2
    by_cases ha : a = x
    · subst ha
      have e1 : b2 (a ∈ a :: h) = 1 := if_pos List.mem_cons_self
      have e2 : b2 (a ∈ h) = 0 := if_neg hn.1
      have e3 : rs (a :: h) a = rs h a := by simp [rs]
      rw [e1, e3]
      rw [e2] at ih
      have e4 : cnt (a :: h) (a :: t) (τ + 1) = cnt h (a :: t) (τ + 1) + 1 := by
        simp [cnt, List.countP_cons, nx]
      omega
    · have e1 : b2 (x ∈ a :: h) = b2 (x ∈ h) := by
        have : x ∈ a :: h ↔ x ∈ h := by
          rw [List.mem_cons]
          exact ⟨fun h => h.resolve_left fun e => ha e.symm, .inr⟩
        simp only [b2, this]
      have e3 : rs (a :: h) x = a :: rs h x := by simp [rs, ha]
      rw [e1, e3]
      have e5 : nx (x :: t) a = nx t a + 1 := by simp [nx, ha]
      simp only [cnt, List.countP_cons, e5] at ih ⊢
      have e6 : (decide (nx t a + 1 < τ + 1)) = decide (nx t a < τ) := by simp
      rw [e6]
      omega
theorem cnt_new {h t : List Int} {x : Int} {τ : Nat} : cnt (x :: rs h x) t τ = b2 (nx t x < τ) + cnt (rs h x) t τ := by
  simp only [cnt, List.countP_cons, b2, decide_eq_true_eq]
  omega
inductive Pol (size : Nat) : List Int → List Int → Nat → Prop
  | nil (h : List Int) : Pol size h [] 0
  | cons (h h' : List Int) (x : Int) (t : List Int) (n : Nat) : h'.Nodup → h'.length ≤ size → (∀ y ∈ h', y = x ∨ y ∈ h) → Pol size h' t n → Pol size h (x :: t) (b2 (x ∉ h) + n)
inductive Bel (size : Nat) : List Int → List Int → Nat → Prop
  | nil (h : List Int) : Bel size h [] 0
  | hit (h : List Int) (x : Int) (t : List Int) (n : Nat) : x ∈ h → Bel size h t n → Bel size h (x :: t) n
  | fits (h : List Int) (x : Int) (t : List Int) (n : Nat) : x ∉ h → (h ++ [x]).length ≤ size → Bel size (h ++ [x]) t n → Bel size h (x :: t) (n + 1)
  | drop (h : List Int) (x : Int) (t : List Int) (n w : Nat) (c : Int) : x ∉ h → size < (h ++ [x]).length → (h ++ [x])[w]? = some c → (∀ y ∈ h ++ [x], nx t y ≤ nx t c) → Bel size ((h ++ [x]).eraseIdx w) t n → Bel size h (x :: t) (n + 1)
theorem nodup_snoc {h : List Int} {x : Int} (hn : h.Nodup) (hx : x ∉ h) : (h ++ [x]).Nodup := by
  rw [List.nodup_append]
  refine ⟨hn, by simp, ?_⟩
  intro a ha b hb e
  rw [List.mem_singleton] at hb
  exact hx (hb ▸ e ▸ ha)
theorem mem_snoc {h : List Int} {x y : Int} : y ∈ h ++ [x] ↔ y = x ∨ y ∈ h := by
  rw [List.mem_append, List.mem_singleton]; exact Or.comm
theorem rs_not {h : List Int} {x : Int} (hx : x ∉ h) : rs h x = h := by
  unfold rs
  rw [List.filter_eq_self]
  intro y hy
  simp only [ne_eq, decide_not, Bool.not_eq_eq_eq_not, Bool.not_true, decide_eq_false_iff_not]
  exact fun e => hx (e ▸ hy)
theorem cnt_erase {h t : List Int} {w : Nat} {c : Int} {τ : Nat} (hw : h[w]? = some c) : cnt h t τ = cnt (h.eraseIdx w) t τ + b2 (nx t c < τ) := by
  induction h generalizing w with
  | nil => simp at hw
  | cons a h ih =>
    cases w with
    | zero =>
      simp only [List.getElem?_cons_zero, Option.some.injEq] at hw
      subst hw
      simp only [cnt, List.countP_cons, List.eraseIdx_cons_zero, b2, decide_eq_true_eq]
    | succ w =>
      simp only [List.getElem?_cons_succ] at hw
      have := ih hw
      simp only [cnt, List.countP_cons, List.eraseIdx_cons_succ] at this ⊢
      omega
theorem cnt_all {h t : List Int} {τ : Nat} (ha : ∀ y ∈ h, nx t y < τ) : cnt h t τ = h.length := by
  unfold cnt
  rw [List.countP_eq_length]
  intro y hy
  exact decide_eq_true (ha y hy)
theorem bel_le {size size' : Nat} (hs : size' ≤ size) {h t : List Int} {n : Nat} (hb : Bel size h t n) :
    ∀ {p : List Int} {m d : Nat}, Pol size' p t m → h.Nodup → p.Nodup → h.length ≤ size → (∀ τ, cnt p t τ ≤ cnt h t τ + d) → n ≤ m + d := by
  induction hb with
  | nil h => intro p m d _ _ _ _ _; omega
  | hit h x t n hx _ ih =>
    intro p m d hp hn pn hl hc
    cases hp with
    | cons _ p' _ _ m' pn' pl' ps' hp' =>
      have hc' : ∀ τ, b2 (x ∈ p) + cnt (rs p x) t τ ≤ 1 + cnt (rs h x) t τ + d := by
        intro τ
        have := hc (τ + 1)
        rw [cnt_cons pn, cnt_cons hn, show b2 (x ∈ h) = 1 from if_pos hx] at this
        omega
      have e1 : ∀ τ, cnt p' t τ ≤ b2 (nx t x < τ) + cnt (rs p x) t τ := by
        intro τ
        rw [← cnt_new]
        refine cnt_sub pn' fun y hy => ?_
        by_cases e : y = x
        · exact e ▸ List.mem_cons_self
        · refine List.mem_cons_of_mem _ ?_
          simp only [rs, List.mem_filter, decide_eq_true_eq]
          exact ⟨(ps' y hy).resolve_left e, e⟩
      have e2 : ∀ τ, cnt h t τ = b2 (nx t x < τ) + cnt (rs h x) t τ := by
        intro τ
        rw [← cnt_new]
        refine Nat.le_antisymm (cnt_sub hn fun y hy => ?_) (cnt_sub ?_ fun y hy => ?_)
        · by_cases e : y = x
          · exact e ▸ List.mem_cons_self
          · exact List.mem_cons_of_mem _ (by simp only [rs, List.mem_filter, decide_eq_true_eq]; exact ⟨hy, e⟩)
        · rw [List.nodup_cons]
          exact ⟨by simp [rs], hn.filter _⟩
        · rcases List.mem_cons.1 hy with e | e
          · exact e ▸ hx
          · exact (List.mem_filter.1 e).1
      by_cases hxp : x ∈ p
      · have := ih (d := d) hp' hn pn' hl fun τ => by
          have a1 := hc' τ; have a2 := e1 τ; have a3 := e2 τ
          rw [show b2 (x ∈ p) = 1 from if_pos hxp] at a1
          omega
        rw [show b2 (x ∉ p) = 0 from if_neg (fun h => h hxp)]
        omega
      · have := ih (d := d + 1) hp' hn pn' hl fun τ => by
          have a1 := hc' τ; have a2 := e1 τ; have a3 := e2 τ
          rw [show b2 (x ∈ p) = 0 from if_neg hxp] at a1
          omega
        rw [show b2 (x ∉ p) = 1 from if_pos hxp]
        omega
  | fits h x t n hx hl' _ ih =>
    intro p m d hp hn pn hl hc
    cases hp with
    | cons _ p' _ _ m' pn' pl' ps' hp' =>
      have hc' : ∀ τ, b2 (x ∈ p) + cnt (rs p x) t τ ≤ cnt h t τ + d := by
        intro τ
        have := hc (τ + 1)
        rw [cnt_cons pn, cnt_cons hn, show b2 (x ∈ h) = 0 from if_neg hx, rs_not hx] at this
        omega
      have e1 : ∀ τ, cnt p' t τ ≤ b2 (nx t x < τ) + cnt (rs p x) t τ := by
        intro τ
        rw [← cnt_new]
        refine cnt_sub pn' fun y hy => ?_
        by_cases e : y = x
        · exact e ▸ List.mem_cons_self
        · refine List.mem_cons_of_mem _ ?_
          simp only [rs, List.mem_filter, decide_eq_true_eq]
          exact ⟨(ps' y hy).resolve_left e, e⟩
      have e2 : ∀ τ, cnt (h ++ [x]) t τ = b2 (nx t x < τ) + cnt h t τ := by
        intro τ
        simp only [cnt, List.countP_append, List.countP_singleton, b2, decide_eq_true_eq]
        omega
      by_cases hxp : x ∈ p
      · have h0 := hc' 0
        rw [show b2 (x ∈ p) = 1 from if_pos hxp] at h0
        have z : ∀ l : List Int, cnt l t 0 = 0 := fun l => by simp [cnt]
        rw [z, z] at h0
        have := ih (d := d - 1) hp' (nodup_snoc hn hx) pn' hl' fun τ => by
          have a1 := hc' τ; have a2 := e1 τ; have a3 := e2 τ
          rw [show b2 (x ∈ p) = 1 from if_pos hxp] at a1
          omega
        rw [show b2 (x ∉ p) = 0 from if_neg (fun h => h hxp)]
        omega
      · have := ih (d := d) hp' (nodup_snoc hn hx) pn' hl' fun τ => by
          have a1 := hc' τ; have a2 := e1 τ; have a3 := e2 τ
          omega
        rw [show b2 (x ∉ p) = 1 from if_pos hxp]
        omega
  | drop h x t n w c hx hl' hw hmax _ ih =>
    intro p m d hp hn pn hl hc
    cases hp with
    | cons _ p' _ _ m' pn' pl' ps' hp' =>
      have hc' : ∀ τ, b2 (x ∈ p) + cnt (rs p x) t τ ≤ cnt h t τ + d := by
        intro τ
        have := hc (τ + 1)
        rw [cnt_cons pn, cnt_cons hn, show b2 (x ∈ h) = 0 from if_neg hx, rs_not hx] at this
        omega
      have e1 : ∀ τ, cnt p' t τ ≤ b2 (nx t x < τ) + cnt (rs p x) t τ := by
        intro τ
        rw [← cnt_new]
        refine cnt_sub pn' fun y hy => ?_
        by_cases e : y = x
        · exact e ▸ List.mem_cons_self
        · refine List.mem_cons_of_mem _ ?_
          simp only [rs, List.mem_filter, decide_eq_true_eq]
          exact ⟨(ps' y hy).resolve_left e, e⟩
      have e2 : ∀ τ, cnt (h ++ [x]) t τ = b2 (nx t x < τ) + cnt h t τ := by
        intro τ
        simp only [cnt, List.countP_append, List.countP_singleton, b2, decide_eq_true_eq]
        omega
      have hlen : (h ++ [x]).length = h.length + 1 := by simp
      have hwl : w < (h ++ [x]).length := (List.getElem?_eq_some_iff.1 hw).1
      have hel : ((h ++ [x]).eraseIdx w).length = (h ++ [x]).length - 1 := by
        rw [List.length_eraseIdx, if_pos hwl]
      have hne : ((h ++ [x]).eraseIdx w).Nodup := (List.eraseIdx_sublist _ _).nodup (nodup_snoc hn hx)
      have key : ∀ (d' : Nat), (∀ τ, cnt p' t τ ≤ cnt (h ++ [x]) t τ + d') → ∀ τ, cnt p' t τ ≤ cnt ((h ++ [x]).eraseIdx w) t τ + d' := by
        intro d' hd τ
        have a1 := hd τ
        have a2 := cnt_erase (t := t) (τ := τ) hw
        by_cases hcτ : nx t c < τ
        · have a3 : cnt (h ++ [x]) t τ = (h ++ [x]).length := cnt_all fun y hy => Nat.lt_of_le_of_lt (hmax y hy) hcτ
          rw [show b2 (nx t c < τ) = 1 from if_pos hcτ] at a2
          have a4 : cnt p' t τ ≤ p'.length := cnt_le
          omega
        · rw [show b2 (nx t c < τ) = 0 from if_neg hcτ] at a2
          omega
      by_cases hxp : x ∈ p
      · have h0 := hc' 0
        rw [show b2 (x ∈ p) = 1 from if_pos hxp] at h0
        have z : ∀ l : List Int, cnt l t 0 = 0 := fun l => by simp [cnt]
        rw [z, z] at h0
        have := ih (d := d - 1) hp' hne pn' (by omega) (key _ fun τ => by
          have a1 := hc' τ; have a2 := e1 τ; have a3 := e2 τ
          rw [show b2 (x ∈ p) = 1 from if_pos hxp] at a1
          omega)
        rw [show b2 (x ∉ p) = 0 from if_neg (fun h => h hxp)]
        omega
      · have := ih (d := d) hp' hne pn' (by omega) (key _ fun τ => by
          have a1 := hc' τ; have a2 := e1 τ; have a3 := e2 τ
          omega)
        rw [show b2 (x ∉ p) = 1 from if_pos hxp]
        omega
theorem bel_pol {size : Nat} {h t : List Int} {n : Nat} (hb : Bel size h t n) : h.Nodup → h.length ≤ size → Pol size h t n := by
  induction hb with
  | nil h => intro _ _; exact .nil h
  | hit h x t n hx _ ih =>
    intro hn hl
    have := Pol.cons h h x t n hn hl (fun y hy => .inr hy) (ih hn hl)
    rwa [show b2 (x ∉ h) = 0 from if_neg (fun e => e hx), Nat.zero_add] at this
  | fits h x t n hx hl' _ ih =>
    intro hn hl
    have := Pol.cons h _ x t n (nodup_snoc hn hx) hl' (fun y hy => mem_snoc.1 hy) (ih (nodup_snoc hn hx) hl')
    rwa [show b2 (x ∉ h) = 1 from if_pos hx, Nat.add_comm] at this
  | drop h x t n w c hx hl' hw hmax _ ih =>
    intro hn hl
    have hwl : w < (h ++ [x]).length := (List.getElem?_eq_some_iff.1 hw).1
    have hel : ((h ++ [x]).eraseIdx w).length = (h ++ [x]).length - 1 := by
      rw [List.length_eraseIdx, if_pos hwl]
    have hlen : (h ++ [x]).length = h.length + 1 := by simp
    have hne : ((h ++ [x]).eraseIdx w).Nodup := (List.eraseIdx_sublist _ _).nodup (nodup_snoc hn hx)
    have := Pol.cons h _ x t n hne (by omega) (fun y hy => mem_snoc.1 ((List.eraseIdx_sublist _ _).subset hy)) (ih hne (by omega))
    rwa [show b2 (x ∉ h) = 1 from if_pos hx, Nat.add_comm] at this
def dcs : List Int → List Int → Nat
  | _, [] => 0
  | seen, x :: t => b2 (x ∉ seen) + dcs (x :: seen) t
theorem pol_dcs {size : Nat} {h t : List Int} {n : Nat} (hp : Pol size h t n) : ∀ {seen : List Int}, (∀ y ∈ h, y ∈ seen) → dcs seen t ≤ n := by
  induction hp with
  | nil h => intro seen _; exact Nat.le_refl _
  | cons h h' x t n _ _ hs _ ih =>
    intro seen hsub
    have := ih (seen := x :: seen) fun y hy => (hs y hy).elim (fun e => e ▸ List.mem_cons_self) (fun e => List.mem_cons_of_mem _ (hsub y e))
    simp only [dcs]
    by_cases hx : x ∈ seen
    · rw [show b2 (x ∉ seen) = 0 from if_neg (fun e => e hx)]; omega
    · rw [show b2 (x ∉ seen) = 1 from if_pos hx, show b2 (x ∉ h) = 1 from if_pos (fun e => hx (hsub x e))]; omega
end Go.LN.Pb
