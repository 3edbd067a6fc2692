/- Several operations at once, loads from own blocks among them; what is new is said, the rest of the frame is kept. -/
import Derived.Test.YtaedjkaagcbkdaaGreatLnL
namespace Go.LN
set_option linter.unusedVariables false
set_option linter.unusedSimpArgs false
def blkAt (hs : List HA) (j : Nat) : Nat := match hs[j]? with | some (.blk b _) => b | _ => 0
def load1 (P : Program) (n : Nat) (ops : List Oper) (hs : List HA) (j : Nat) (m : FM) (o : Oper) : Option (FM × Nat) :=
  match o.dst, guardB ops m o.guard, o.op with
  | some d, some true, .load t x =>
    match hs[j]?, val m x, sizeT P t with
    | some (.blk _ c), some (.pointer (some ⟨pb, off, none⟩)), some s =>
      match Nat.blt d n && Nat.ble (off + ((c.toList.drop off).take s).length) c.size, loadV P t ((c.toList.drop off).take s) with
      | true, some v => some ((d, v) :: m, pb)
      | _, _ => none
    | _, _, _ => none
  | _, _, _ => none
def isLoad (o : Oper) : Bool := match o.op with | .load _ _ => true | _ => false
def runX (P : Program) (n : Nat) (ops : List Oper) (hs : List HA) : List Oper → List Nat → FM → Option (FM × List Nat)
  | [], [], m => some (m, [])
  | [], _ :: _, _ => none
  | o :: l, js, m => match isLoad o && (guardB ops m o.guard == some true), js with
    | true, j :: js' => match load1 P n ops hs j m o with
      | some (m', b) => match runX P n ops hs l js' m' with
        | some (m'', bs) => some (m'', b :: bs)
        | none => none
      | none => none
    | true, [] => none
    | false, _ => match run1 P n ops m o with
      | some m' => runX P n ops hs l js m'
      | none => none
def memN (k : Nat) : List Nat → Bool
  | [] => false
  | x :: l => bif Nat.beq x k then true else memN k l
def freshB (m : FM) (ks : List Nat) : List Oper → Bool
  | [] => true
  | o :: l => (match o.dst with | some d => (memN d ks || (match look m d with | none => true | some _ => false)) | none => true) && freshB m ks l
def runD (P : Program) (n : Nat) (ops : List Oper) (hs : List HA) (pc k : Nat) (js ks : List Nat) (m : FM) : Option (FM × List Nat) :=
  match freshB m ks ((ops.drop pc).take k), runX P n ops hs ((ops.drop pc).take k) js m with
  | true, some (m1, bs) => match keep m1 ks with | some m2 => some (m2, bs) | none => none
  | _, _ => none
theorem zEK {P : Program} {n : Nat} {ops : List Oper} {m m' : FM} {o : Oper} (h : run1 P n ops m o = some m') : ∃ d v, o.dst = some d ∧ m' = (d, v) :: m := by
  unfold run1 at h
  split at h
  · cases h
  · rename_i d hd
    cases hn : Nat.blt d n with
    | false => rw [hn] at h; cases h
    | true =>
      rw [hn] at h
      simp only [cond_true] at h
      split at h
      · split at h
        · cases h; exact ⟨_, _, hd, rfl⟩
        · cases h
      · cases h; exact ⟨_, _, hd, rfl⟩
      · cases h
theorem zCu {P : Program} {n : Nat} {ops : List Oper} {hs : List HA} {j b : Nat} {m m' : FM} {o : Oper} (h : load1 P n ops hs j m o = some (m', b)) : ∃ d v, o.dst = some d ∧ m' = (d, v) :: m := by
  unfold load1 at h
  split at h
  · rename_i d t x hd _ _
    split at h
    · split at h
      · cases h; exact ⟨_, _, hd, rfl⟩
      · cases h
    · cases h
  · cases h
theorem zBe {P : Program} {n : Nat} {ops : List Oper} {hs : List HA} {ks : List Nat} {m0 : FM} : ∀ {l : List Oper} {js : List Nat} {m m1 : FM} {bs : List Nat}, runX P n ops hs l js m = some (m1, bs) → freshB m0 ks l = true →
    (∀ k v, memN k ks = false → look m0 k = some v → look m k = some v) → ∀ k v, memN k ks = false → look m0 k = some v → look m1 k = some v
  | [], js, m, m1, bs, h, _, hm => by
    cases js with
    | nil => simp only [runX] at h; cases h; exact hm
    | cons j js => simp only [runX] at h; cases h
  | o :: l, js, m, m1, bs, h, hf, hm => by
    simp only [freshB, Bool.and_eq_true] at hf
    have key : ∀ {m' : FM}, (∃ d v, o.dst = some d ∧ m' = (d, v) :: m) → ∀ k v, memN k ks = false → look m0 k = some v → look m' k = some v := by
      rintro m' ⟨d, v', hd, rfl⟩ k v hk h0
      rw [hd] at hf
      simp only [Bool.or_eq_true] at hf
      have hne : d ≠ k := by
        rintro rfl
        rcases hf.1 with h1 | h1
        · rw [h1] at hk; cases hk
        · rw [h0] at h1; cases h1
      rw [rM _ _ hne]
      exact hm k v hk h0
    simp only [runX] at h
    split at h
    · split at h
      · rename_i m' b hl
        split at h
        · rename_i m'' bs' hr
          cases h
          exact zBe hr hf.2 (key (zCu hl))
        · cases h
      · cases h
    · cases h
    · split at h
      · rename_i m' hl
        exact zBe h hf.2 (key (zEK hl))
      · cases h
theorem zEL {m : FM} : ∀ {ks : List Nat} {m' : FM}, keep m ks = some m' → (∀ k v, look m' k = some v → look m k = some v) ∧ ∀ k, look m' k = none → memN k ks = false
  | [], m', h => by simp only [keep] at h; cases h; exact ⟨fun k v e => by simp [look] at e, fun _ _ => rfl⟩
  | k0 :: ks, m', h => by
    simp only [keep] at h
    split at h
    · rename_i v0 m1 h1 h2
      cases h
      obtain ⟨i1, i2⟩ := zEL h2
      refine ⟨fun k v e => ?_, fun k e => ?_⟩
      · by_cases hk : k0 = k
        · subst hk; rw [pC] at e; cases e; exact h1
        · rw [rM _ _ hk] at e; exact i1 k v e
      · by_cases hk : k0 = k
        · subst hk; rw [pC] at e; cases e
        · rw [rM _ _ hk] at e
          have : Nat.beq k0 k = false := by
            cases hb : Nat.beq k0 k with
            | false => rfl
            | true => exact absurd (Nat.eq_of_beq_eq_true hb) hk
          simp only [memN, this, cond_false]
          exact i2 k e
    · cases h
theorem zCO : ∀ {a m : FM} {k : Nat}, look (a ++ m) k = match look a k with | some v => some v | none => look m k
  | [], m, k => by simp [look]
  | (k0, v0) :: a, m, k => by
    by_cases e : k0 = k
    · subst e; simp [pC]
    · rw [List.cons_append, rM _ _ e, rM _ _ e, zCO]
section
variable {P : Program} {n : Nat} {B : Base} {Q : Exit → Act → World → Prop} {imm : Imm} {hs : List HA} {m : FM} {ops : List Oper} {pc : Nat}
theorem zIP {m' : FM} (h' : ∀ a, Fr n a m → Fr n a m') (h : R P n B ops Q pc imm hs m') : R P n B ops Q pc imm hs m := fun a w f g => h a w (h' a f) g
theorem zHe {m' : FM} (h' : ∀ a, Fr n a m → Fr n a m') (h : Rq P n B ops Q pc imm hs m') : Rq P n B ops Q pc imm hs m := fun a w f g => h a w (h' a f) g
theorem zHw {m0 m1 new : FM} {ks : List Nat} (hk : keep m1 ks = some new) (hl : ∀ k v, memN k ks = false → look m0 k = some v → look m1 k = some v) (a : Act) (f : Fr n a m1) : Fr n a (new ++ m0) :=
  ⟨f.defers, f.size, fun k v e => by
    obtain ⟨i1, i2⟩ := zEL hk
    rw [zCO] at e
    cases hn : look new k with
    | some u => rw [hn] at e; simp only at e; cases e; exact f.holds _ _ (i1 _ _ hn)
    | none => rw [hn] at e; exact f.holds _ _ (hl _ _ (i2 _ hn) e)⟩
theorem zBf {j b : Nat} {m' : FM} {o : Oper} (h : load1 P n ops hs j m o = some (m', b)) :
    ∃ d t x ty pos after g pb off c cs v, o = ⟨some d, .load t x, ty, pos, after, g⟩ ∧ m' = (d, v) :: m ∧ b = pb ∧ guardB ops m g = some true ∧ Nat.blt d n = true ∧ hs[j]? = some (.blk (blkAt hs j) c) ∧ val m x = some (.pointer (some ⟨pb, off, none⟩)) ∧
      Nat.ble (off + cs.length) c.size = true ∧ (c.toList.drop off).take cs.length = cs ∧ loadV P t cs = some v := by
  unfold load1 at h
  split at h
  · rename_i d t x hd hg ho
    split at h
    · rename_i b' c pb off s hj hx hs'
      split at h
      · rename_i v hb hv
        cases h
        rw [Bool.and_eq_true] at hb
        obtain ⟨od, oo, oty, opos, oaft, og⟩ := o
        simp only at hd hg ho
        subst hd; subst ho
        refine ⟨d, t, x, oty, opos, oaft, og, b, off, c, _, v, rfl, rfl, rfl, hg, hb.1, ?_, hx, hb.2, ?_, hv⟩
        · simp only [blkAt, hj]
        · rw [List.length_take, ← List.take_take, List.take_length]
      · cases h
    · cases h
  · cases h
theorem zCv : ∀ (l : List Oper) {pc : Nat} {js : List Nat} {m m' : FM} {bs : List Nat}, (∃ r, ops.drop pc = l ++ r) → runX P n ops hs l js m = some (m', bs) → bs = js.map (blkAt hs) → R P n B ops Q (pc + l.length) imm hs m' → R P n B ops Q pc imm hs m
  | [], pc, js, m, m', bs, _, h, hb, hR => by
    cases js with
    | nil => simp only [runX] at h; cases h; exact hR
    | cons j js => simp only [runX] at h; cases h
  | o :: l, pc, js, m, m', bs, ⟨r, hr⟩, h, hb, hR => by
    have ho : ops[pc]? = some o := by
      have h0 : (ops.drop pc)[0]? = some o := by rw [hr]; rfl
      simpa using h0
    have hr' : ∃ r, ops.drop (pc + 1) = l ++ r := ⟨r, by rw [← List.drop_drop, hr]; rfl⟩
    have hR' : R P n B ops Q (pc + 1 + l.length) imm hs m' := by
      have : pc + 1 + l.length = pc + (o :: l).length := by simp; omega
      rw [this]; exact hR
    simp only [runX] at h
    split at h
    · rename_i j js' _
      split at h
      · rename_i m1 b hl
        split at h
        · rename_i m2 bs' hx
          cases h
          rw [List.map_cons, List.cons.injEq] at hb
          obtain ⟨d, t, x, ty, pos, after, g, pb, off, c, cs, v, rfl, rfl, rfl, hg, hn, hj, hv, hle, hc, hlv⟩ := zBf hl
          rw [hb.1] at hv
          exact zF0 j ho hg hn hj hv hle hc hlv (zCv l hr' hx hb.2 hR')
        · cases h
      · cases h
    · cases h
    · split at h
      · rename_i m1 hl
        exact zFZ ho hl (zCv l hr' h hb hR')
      · cases h
theorem zCg : ∀ (l : List Oper) {pc : Nat} {js : List Nat} {m m' : FM} {bs : List Nat}, (∃ r, ops.drop pc = l ++ r) → runX P n ops hs l js m = some (m', bs) → bs = js.map (blkAt hs) → Rq P n B ops Q (pc + l.length) imm hs m' → Rq P n B ops Q pc imm hs m
  | [], pc, js, m, m', bs, _, h, hb, hR => by
    cases js with
    | nil => simp only [runX] at h; cases h; exact hR
    | cons j js => simp only [runX] at h; cases h
  | o :: l, pc, js, m, m', bs, ⟨r, hr⟩, h, hb, hR => by
    have ho : ops[pc]? = some o := by
      have h0 : (ops.drop pc)[0]? = some o := by rw [hr]; rfl
      simpa using h0
    have hr' : ∃ r, ops.drop (pc + 1) = l ++ r := ⟨r, by rw [← List.drop_drop, hr]; rfl⟩
    have hR' : Rq P n B ops Q (pc + 1 + l.length) imm hs m' := by
      have : pc + 1 + l.length = pc + (o :: l).length := by simp; omega
      rw [this]; exact hR
    simp only [runX] at h
    split at h
    · rename_i j js' _
      split at h
      · rename_i m1 b hl
        split at h
        · rename_i m2 bs' hx
          cases h
          rw [List.map_cons, List.cons.injEq] at hb
          obtain ⟨d, t, x, ty, pos, after, g, pb, off, c, cs, v, rfl, rfl, rfl, hg, hn, hj, hv, hle, hc, hlv⟩ := zBf hl
          rw [hb.1] at hv
          exact zEp j ho hg hn hj hv hle hc hlv (zCg l hr' hx hb.2 hR')
        · cases h
      · cases h
    · cases h
    · split at h
      · rename_i m1 hl
        exact zHX ho hl (zCg l hr' h hb hR')
      · cases h
theorem zAp {pc k : Nat} {js ks : List Nat} {new : FM} {bs : List Nat} (h : runD P n ops hs pc k js ks m = some (new, bs)) :
    ∃ m1, runX P n ops hs ((ops.drop pc).take k) js m = some (m1, bs) ∧ ∀ a, Fr n a m1 → Fr n a (new ++ m) := by
  unfold runD at h
  split at h
  · rename_i m1 bs' hf hx
    split at h
    · rename_i m2 hk
      cases h
      exact ⟨m1, hx, fun a f => zHw hk (zBe hx hf (fun _ _ _ h => h)) a f⟩
    · cases h
  · cases h
theorem yK (pc' : Nat) (js : List Nat) (new : FM) (hR : R P n B ops Q pc' imm hs (new ++ m)) (h : runD P n ops hs pc (pc' - pc) js (new.map (·.1)) m = some (new, js.map (blkAt hs)) := by kernel_rfl)
    (hl : Nat.beq (pc + ((ops.drop pc).take (pc' - pc)).length) pc' = true := by kernel_rfl) : R P n B ops Q pc imm hs m := by
  obtain ⟨m1, h1, h2⟩ := zAp h
  refine zCv _ ⟨(ops.drop pc).drop (pc' - pc), (List.take_append_drop ..).symm⟩ h1 rfl (zIP h2 ?_)
  rw [Nat.eq_of_beq_eq_true hl]; exact hR
theorem fQ (pc' : Nat) (js : List Nat) (new : FM) (hR : Rq P n B ops Q pc' imm hs (new ++ m)) (h : runD P n ops hs pc (pc' - pc) js (new.map (·.1)) m = some (new, js.map (blkAt hs)) := by kernel_rfl)
    (hl : Nat.beq (pc + ((ops.drop pc).take (pc' - pc)).length) pc' = true := by kernel_rfl) : Rq P n B ops Q pc imm hs m := by
  obtain ⟨m1, h1, h2⟩ := zAp h
  refine zCg _ ⟨(ops.drop pc).drop (pc' - pc), (List.take_append_drop ..).symm⟩ h1 rfl (zHe h2 ?_)
  rw [Nat.eq_of_beq_eq_true hl]; exact hR
theorem zY (js : List Nat) (new : FM) (hR : T n B Q .normal imm hs (new ++ m)) (h : runD P n ops hs pc ops.length js (new.map (·.1)) m = some (new, js.map (blkAt hs)) := by kernel_rfl) : R P n B ops Q pc imm hs m := by
  obtain ⟨m1, h1, h2⟩ := zAp h
  have e : (ops.drop pc).take ops.length = ops.drop pc := List.take_of_length_le (by rw [List.length_drop]; omega)
  rw [e] at h1
  exact zCv _ ⟨[], by simp⟩ h1 rfl (zIP h2 (yN (List.drop_eq_nil_iff.2 (by rw [List.length_drop]; omega)) hR))
theorem zCS (js : List Nat) (new : FM) (hR : T n B Q .normal imm hs (new ++ m)) (h : runD P n ops hs pc ops.length js (new.map (·.1)) m = some (new, js.map (blkAt hs)) := by kernel_rfl) : Rq P n B ops Q pc imm hs m := by
  obtain ⟨m1, h1, h2⟩ := zAp h
  have e : (ops.drop pc).take ops.length = ops.drop pc := List.take_of_length_le (by rw [List.length_drop]; omega)
  rw [e] at h1
  exact zCg _ ⟨[], by simp⟩ h1 rfl (zHe h2 (zHp (List.drop_eq_nil_iff.2 (by rw [List.length_drop]; omega)) hR))
end
end Go.LN
