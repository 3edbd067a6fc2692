/- The judgements: a code, a region's rest, an exit, with what is known of slots, blocks never written again, and own blocks. -/
import Derived.Test.YtaedjkaagcbkdaaGreatLnC
namespace Go.LN
set_option linter.unusedVariables false
set_option linter.unusedSimpArgs false
def J (P : Program) (n : Nat) (B : Base) (c : Code) (Q : Exit → Act → World → Prop) (imm : Imm) (hs : List HA) (m : FM) : Prop :=
  ∀ a w, Fr n a m → Good B imm hs w → c.wp P Q a w
def T (n : Nat) (B : Base) (Q : Exit → Act → World → Prop) (e : Exit) (imm : Imm) (hs : List HA) (m : FM) : Prop :=
  ∀ a w, Fr n a m → Good B imm hs w → Q e a w
def R (P : Program) (n : Nat) (B : Base) (ops : List Oper) (Q : Exit → Act → World → Prop) (pc : Nat) (imm : Imm) (hs : List HA) (m : FM) : Prop :=
  ∀ a w, Fr n a m → Good B imm hs w → wpL P ops.toArray Q (ops.drop pc) a w
section
variable {P : Program} {n : Nat} {B : Base} {Q : Exit → Act → World → Prop} {imm : Imm} {hs : List HA} {m : FM}
theorem zF {x y : Code} (h : J P n B x (Exit.then (y.wp P Q) Q) imm hs m) : J P n B (x.seq y) Q imm hs m := fun a w f g => wp_seq (h a w f g)
theorem zB {id : Nat} {ops : List Oper} (h : R P n B ops Q 0 imm hs m) : J P n B (.region id ops.toArray false) Q imm hs m := fun a w f g => zCk (by simpa using h a w f g)
theorem yD (h : T n B Q .normal imm hs m) : J P n B .skip Q imm hs m := fun a w f g => wp_skip (h a w f g)
theorem xB {id : Nat} (h : T n B Q (.exit id) imm hs m) : J P n B (.exit id) Q imm hs m := fun a w f g => wp_exit (h a w f g)
theorem yJ (h : T n B Q .ret imm hs m) : J P n B .ret Q imm hs m := fun a w f g => wp_ret (h a w f g)
theorem yB {id : Nat} {c : Code} (h : J P n B c (Exit.inBlock id Q) imm hs m) : J P n B (.block id c) Q imm hs m := fun a w f g => wp_block (h a w f g)
theorem zHn {x : Operand} {p q : Code} {c : Bool} {α : Type} {X Y : Option α} {r : α} (hc : val m x = some (.bool c)) (hM : (if c = true then X else Y) = some r)
    (ht : c = true → X = some r → J P n B p Q imm hs m) (hf : c = false → Y = some r → J P n B q Q imm hs m) : J P n B (.cond x p q) Q imm hs m := fun a w f g => by
  cases c with
  | true => exact wp_cond_true (f.eval hc) (ht rfl (by simpa using hM) a w f g)
  | false => exact wp_cond_false (f.eval hc) (hf rfl (by simpa using hM) a w f g)
theorem eC {x : Operand} {p q : Code} (hc : val m x = some (.bool true)) (h : J P n B p Q imm hs m) : J P n B (.cond x p q) Q imm hs m := fun a w f g => wp_cond_true (f.eval hc) (h a w f g)
theorem kP {x : Operand} {p q : Code} (hc : val m x = some (.bool false)) (h : J P n B q Q imm hs m) : J P n B (.cond x p q) Q imm hs m := fun a w f g => wp_cond_false (f.eval hc) (h a w f g)
theorem xF {c : Code} (hg : ∀ l a w, ¬ Q (.goto l) a w) (ho : ∀ a w, ¬ Q .outgrown a w) (h : J P n B c (Exit.then (fun a' w' => (Code.loop c).wp P Q a' w') Q) imm hs m) : J P n B (.loop c) Q imm hs m :=
  fun a w f g => zCl hg ho (h a w f g)
theorem zG2 {c : Code} {m' : FM} (hs' : sub m m') (h : J P n B c Q imm hs m') : J P n B c Q imm hs m := fun a w f g => h a w (f.weaken hs') g
theorem zE {y : Code} (h : J P n B y Q imm hs m) : T n B (Exit.then (y.wp P Q) Q) .normal imm hs m := h
theorem xG {c : Code} (h : J P n B (.loop c) Q imm hs m) : T n B (Exit.then (fun a' w' => (Code.loop c).wp P Q a' w') Q) .normal imm hs m := h
theorem zT {K : Act → World → Prop} {id : Nat} (h : T n B Q (.exit id) imm hs m) : T n B (Exit.then K Q) (.exit id) imm hs m := h
theorem zQ {K : Act → World → Prop} (h : T n B Q .ret imm hs m) : T n B (Exit.then K Q) .ret imm hs m := h
theorem zW {id : Nat} (h : T n B Q .normal imm hs m) : T n B (Exit.inBlock id Q) .normal imm hs m := h
theorem yE {id : Nat} (h : T n B Q .ret imm hs m) : T n B (Exit.inBlock id Q) .ret imm hs m := h
theorem yC {id : Nat} (h : T n B Q .normal imm hs m) : T n B (Exit.inBlock id Q) (.exit id) imm hs m := fun a w f g => by simpa [Exit.inBlock] using h a w f g
theorem zDd {id id' : Nat} (hne : Nat.beq id' id = false) (h : T n B Q (.exit id') imm hs m) : T n B (Exit.inBlock id Q) (.exit id') imm hs m := fun a w f g => by
  have : id' ≠ id := fun e => by subst e; simp at hne
  simpa [Exit.inBlock, this] using h a w f g
theorem zG3 {e : Exit} {m' : FM} (hs' : sub m m') (h : T n B Q e imm hs m') : T n B Q e imm hs m := fun a w f g => h a w (f.weaken hs') g
theorem yN {ops : List Oper} {pc : Nat} (h0 : ops.drop pc = []) (h : T n B Q .normal imm hs m) : R P n B ops Q pc imm hs m := fun a w f g => by rw [h0]; exact h a w f g
def guardB (ops : List Oper) (m : FM) : Option (Nat × Bool) → Option Bool
  | none => some true
  | some (j, want) => match ops[j]? with
    | some o => match o.dst with
      | some d => match look m d with
        | some (.bool b) => some (b == want)
        | some _ => some false
        | none => none
      | none => none
    | none => none
theorem Fr.wanted {a : Act} (f : Fr n a m) {ops : List Oper} {o : Oper} {b : Bool} (h : guardB ops m o.guard = some b) : Region.wanted o (yielded ops.toArray a.tmps) = b := by
  unfold Region.wanted
  cases hg : o.guard with
  | none => rw [hg] at h; simp [guardB] at h; simp [← h]
  | some g =>
    obtain ⟨j, want⟩ := g
    rw [hg] at h
    simp only [guardB] at h
    split at h
    · rename_i o' ho
      split at h
      · rename_i d hd
        split at h
        · rename_i b' hl
          cases h
          have := f.holds _ _ hl
          simp [yielded, ho, hd, this]
        · rename_i v hv hl
          cases h
          have := f.holds _ _ hl
          have hy : yielded ops.toArray a.tmps j = none := by
            unfold yielded
            simp only [List.getElem?_toArray, ho, Option.bind_some, hd, this]
            cases v <;> first | rfl | exact absurd rfl (hv _)
          simp only [hy]; rfl
        · cases h
      · cases h
    · cases h
theorem zEU {ops : List Oper} {pc : Nat} {o : Oper} (ho : ops[pc]? = some o) (hg : guardB ops m o.guard = some true)
    (h : ∀ a w, Fr n a m → Good B imm hs w → o.wp P a w (wpL P ops.toArray Q (ops.drop (pc + 1))) Q) : R P n B ops Q pc imm hs m := fun a w f g => by
  have hd : ops.drop pc = o :: ops.drop (pc + 1) := by
    have hlt : pc < ops.length := by
      rcases Nat.lt_or_ge pc ops.length with h | h
      · exact h
      · rw [List.getElem?_eq_none h] at ho; cases ho
    rw [List.drop_eq_getElem_cons hlt]
    rw [List.getElem?_eq_getElem hlt] at ho
    cases ho; rfl
  rw [hd]
  simp only [wpL, f.wanted hg, if_true]
  exact h a w f g
theorem zGB {ops : List Oper} {pc d : Nat} {o : Oper} (ho : ops[pc]? = some o) (hg : guardB ops m o.guard = some false) (hd' : o.dst = some d) (hn : Nat.blt d n = true)
    (h : R P n B ops Q (pc + 1) imm hs ((d, undef) :: m)) : R P n B ops Q pc imm hs m := fun a w f g => by
  have hd : ops.drop pc = o :: ops.drop (pc + 1) := by
    have hlt : pc < ops.length := by
      rcases Nat.lt_or_ge pc ops.length with h | h
      · exact h
      · rw [List.getElem?_eq_none h] at ho; cases ho
    rw [List.drop_eq_getElem_cons hlt]
    rw [List.getElem?_eq_getElem hlt] at ho
    cases ho; rfl
  rw [hd]
  simp only [wpL, f.wanted hg, Bool.false_eq_true, if_false, hd']
  exact h _ w (f.put d undef (by simpa using hn)) g
theorem oT {ops : List Oper} {pc d : Nat} {o : Oper} (ho : ops[pc]? = some o) (hg : guardB ops m o.guard = some true) (hd : o.dst = some d) (hn : Nat.blt d n = true)
    (h : ∀ a w, Fr n a m → Good B imm hs w → ∃ v w' imm' hs', (execOp a.eval o).run P w = .ok (.value v) w' ∧ Good B imm' hs' w' ∧ R P n B ops Q (pc + 1) imm' hs' ((d, v) :: m)) : R P n B ops Q pc imm hs m :=
  zEU ho hg fun a w f g => by
    obtain ⟨v, w', imm', hs', h1, h2, h3⟩ := h a w f g
    unfold Oper.wp
    rw [h1]
    simp only [Oper.upon, hd]
    exact h3 _ w' (f.put d v (by simpa using hn)) h2
theorem zFj {ops : List Oper} {pc : Nat} {o : Oper} (ho : ops[pc]? = some o) (hg : guardB ops m o.guard = some true) (hd : o.dst = none)
    (h : ∀ a w, Fr n a m → Good B imm hs w → ∃ w' imm' hs', (execOp a.eval o).run P w = .ok .skip w' ∧ Good B imm' hs' w' ∧ R P n B ops Q (pc + 1) imm' hs' m) : R P n B ops Q pc imm hs m :=
  zEU ho hg fun a w f g => by
    obtain ⟨w', imm', hs', h1, h2, h3⟩ := h a w f g
    unfold Oper.wp
    rw [h1]
    simp only [Oper.upon, hd]
    exact h3 _ w' f h2
/-! ### Several operations that touch no memory, at once -/
def run1 (P : Program) (n : Nat) (ops : List Oper) (m : FM) (o : Oper) : Option FM :=
  match o.dst with
  | none => none
  | some d => bif Nat.blt d n then
      match guardB ops m o.guard with
      | some true => match pure1 P m o.op with | some v => some ((d, v) :: m) | none => none
      | some false => some ((d, undef) :: m)
      | none => none
    else none
def runL (P : Program) (n : Nat) (ops : List Oper) : List Oper → FM → Option FM
  | [], m => some m
  | o :: l, m => match run1 P n ops m o with | some m' => runL P n ops l m' | none => none
def keep (m : FM) : List Nat → Option FM
  | [] => some []
  | k :: ks => match look m k, keep m ks with | some v, some m' => some ((k, v) :: m') | _, _ => none
theorem eE : ∀ {ks : List Nat} {m' : FM}, keep m ks = some m' → sub m m'
  | [], m', h => by simp only [keep] at h; cases h; trivial
  | k :: ks, m', h => by
    simp only [keep] at h
    split at h
    · rename_i v m1 h1 h2; cases h; exact ⟨h1, eE h2⟩
    · cases h
def runK (P : Program) (n : Nat) (ops : List Oper) (pc k : Nat) (ks : List Nat) (m : FM) : Option FM :=
  match runL P n ops ((ops.drop pc).take k) m with | some m' => keep m' ks | none => none
theorem zFZ {ops : List Oper} {pc : Nat} {o : Oper} {m' : FM} (ho : ops[pc]? = some o) (h : run1 P n ops m o = some m') (hR : R P n B ops Q (pc + 1) imm hs m') : R P n B ops Q pc imm hs m := by
  unfold run1 at h
  split at h
  · cases h
  · rename_i d hd
    cases hn : Nat.blt d n with
    | false => rw [hn] at h; cases h
    | true =>
      rw [hn] at h
      simp only [cond_true] at h
      split at h
      · rename_i hg
        split at h
        · rename_i v hv
          cases h
          exact oT ho hg hd hn fun a w f g => ⟨v, w, imm, hs, dN f hv, g, hR⟩
        · cases h
      · rename_i hg
        cases h
        exact zGB ho hg hd hn hR
      · cases h
theorem zG4 {ops : List Oper} : ∀ (l : List Oper) {pc : Nat} {m m' : FM}, (∃ r, ops.drop pc = l ++ r) → runL P n ops l m = some m' → R P n B ops Q (pc + l.length) imm hs m' → R P n B ops Q pc imm hs m
  | [], pc, m, m', _, h, hR => by simp only [runL] at h; cases h; exact hR
  | o :: l, pc, m, m', ⟨r, hr⟩, h, hR => by
    simp only [runL] at h
    split at h
    · rename_i m1 h1
      have ho : ops[pc]? = some o := by
        have h0 : (ops.drop pc)[0]? = some o := by rw [hr]; rfl
        simpa using h0
      refine zFZ ho h1 (zG4 l ⟨r, ?_⟩ h ?_)
      · rw [← List.drop_drop, hr]; rfl
      · have : pc + 1 + l.length = pc + (o :: l).length := by simp; omega
        rw [this]; exact hR
    · cases h
theorem mX {ops : List Oper} {pc : Nat} {m' : FM} (hs' : sub m m') (h : R P n B ops Q pc imm hs m') : R P n B ops Q pc imm hs m := fun a w f g => h a w (f.weaken hs') g
theorem zHo {ops : List Oper} {pc : Nat} (k : Nat) (pc' : Nat) (ks : List Nat) {m' : FM} (h : runK P n ops pc k ks m = some m') (hl : Nat.beq (pc + ((ops.drop pc).take k).length) pc' = true) (hR : R P n B ops Q pc' imm hs m') : R P n B ops Q pc imm hs m := by
  unfold runK at h
  split at h
  · rename_i m1 h1
    refine zG4 _ ⟨(ops.drop pc).drop k, (List.take_append_drop ..).symm⟩ h1 (mX (eE h) ?_)
    rw [Nat.eq_of_beq_eq_true hl]; exact hR
  · cases h
theorem qQ {ops : List Oper} {pc : Nat} (pc' : Nat) (m' : FM) (hR : R P n B ops Q pc' imm hs m') (h : runK P n ops pc (pc' - pc) (m'.map (·.1)) m = some m' := by kernel_rfl) (hl : Nat.beq (pc + ((ops.drop pc).take (pc' - pc)).length) pc' = true := by kernel_rfl) : R P n B ops Q pc imm hs m :=
  zHo _ pc' _ h hl hR
end
end Go.LN
