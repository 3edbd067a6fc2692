/- Regions that leave their order open and that call, allocate and append: each operation shown once, from what it takes in; whatever order is picked. -/
import Derived.Test.YtaedjkaagcbkdaaGreatLnJ
namespace Go.LN
set_option linter.unusedVariables false
set_option linter.unusedSimpArgs false
abbrev Fact := Imm → Value → List HA → Prop
def nofact : Fact := fun _ _ _ => False
def dstAt (ops : List Oper) (i : Nat) : Option Nat := match ops[i]? with | some o => o.dst | none => none
def Ins (ops : List Oper) (φ : List Fact) (imm : Imm) : List (Nat × Bool) → FM → List HA → (FM → List HA → Prop) → Prop
  | [], m, hs, K => K m hs
  | (j, c) :: r, m, hs, K => ∀ v hx, (φ.getD j nofact) imm v hx → Ins ops φ imm r (match dstAt ops j with | some d => (d, v) :: m | none => m) (match c with | true => hx ++ hs | false => hs) K
def addM (ops : List Oper) (val : Nat → Value) : List (Nat × Bool) → FM → FM
  | [], m => m
  | (j, _) :: r, m => addM ops val r (match dstAt ops j with | some d => (d, val j) :: m | none => m)
def addH (hx : Nat → List HA) : List (Nat × Bool) → List HA → List HA
  | [], hs => hs
  | (j, c) :: r, hs => addH hx r (match c with | true => hx j ++ hs | false => hs)
theorem Ins.use {ops : List Oper} {φ : List Fact} {imm : Imm} {val : Nat → Value} {hx : Nat → List HA} {K : FM → List HA → Prop} : ∀ (r : List (Nat × Bool)) {m : FM} {hs : List HA}, (∀ p ∈ r, (φ.getD p.1 nofact) imm (val p.1) (hx p.1)) → Ins ops φ imm r m hs K → K (addM ops val r m) (addH hx r hs)
  | [], _, _, _, h => h
  | (j, c) :: r, _, _, hp, h => Ins.use r (fun p hp' => hp p (List.mem_cons_of_mem _ hp')) (h _ _ (hp _ (List.mem_cons_self ..)))
def OutQ (n : Nat) (B : Base) (φi : Fact) (d : Option Nat) (imm : Imm) (hs0 : List HA) : Exit → Act → World → Prop := fun e a w =>
  e = .normal ∧ a.defers = [] ∧ ∃ imm' v hx, imm.le imm' ∧ φi imm' v hx ∧ Good B imm' (hx ++ hs0) w ∧ ∀ d', d = some d' → a.tmps[d']? = some v
def Obl (P : Program) (n : Nat) (B : Base) (ops : List Oper) (φ : List Fact) (imm : Imm) (hsC : List HA) (m : FM) (i : Nat) (ins : List (Nat × Bool)) : Prop :=
  ∀ imm1 hf, imm.le imm1 → Ins ops φ imm1 ins m (hsC ++ hf) fun m' hs' => R P n B (ops.take (i + 1)) (OutQ n B (φ.getD i nofact) (dstAt ops i) imm1 (hsC ++ hf)) i imm1 hs' m'
def Obls (P : Program) (n : Nat) (B : Base) (ops : List Oper) (φ : List Fact) (imm : Imm) (hsC : List HA) (m : FM) : Nat → List (List (Nat × Bool)) → Prop
  | _, [] => True
  | i, x :: xs => Obl P n B ops φ imm hsC m i x ∧ Obls P n B ops φ imm hsC m (i + 1) xs
theorem Obls.at {P : Program} {n : Nat} {B : Base} {ops : List Oper} {φ : List Fact} {imm : Imm} {hsC : List HA} {m : FM} : ∀ {k : Nat} {l : List (List (Nat × Bool))}, Obls P n B ops φ imm hsC m k l → ∀ {i : Nat} {x : List (Nat × Bool)}, l[i]? = some x → Obl P n B ops φ imm hsC m (k + i) x
  | _, [], _, i, x, h => by simp at h
  | k, y :: l, h, 0, x, hx => by simp at hx; subst hx; exact h.1
  | k, y :: l, h, i + 1, x, hx => by
    have := Obls.at h.2 (i := i) (by simpa using hx)
    rwa [show k + (i + 1) = k + 1 + i from by omega]
def BaseG (φ : List Fact) (imm : Imm) : Nat → List (List HA) → Prop
  | _, [] => True
  | k, g :: gs => (φ.getD k nofact) imm undef g ∧ BaseG φ imm (k + 1) gs
theorem BaseG.at {φ : List Fact} {imm : Imm} : ∀ {k : Nat} {gs : List (List HA)}, BaseG φ imm k gs → ∀ {i : Nat} {g : List HA}, gs[i]? = some g → (φ.getD (k + i) nofact) imm undef g
  | _, [], _, i, g, h => by simp at h
  | k, x :: gs, h, 0, g, hg => by simp at hg; subst hg; exact h.1
  | k, x :: gs, h, i + 1, g, hg => by
    have := BaseG.at h.2 (i := i) (by simpa using hg)
    rwa [show k + (i + 1) = k + 1 + i from by omega]
def MonoF (φ : List Fact) : Prop := ∀ j imm imm' v hx, imm.le imm' → (φ.getD j nofact) imm v hx → (φ.getD j nofact) imm' v hx
def Mono1 (f : Fact) : Prop := ∀ imm imm' v hx, imm.le imm' → f imm v hx → f imm' v hx
def MonoL : List Fact → Prop
  | [] => True
  | f :: fs => Mono1 f ∧ MonoL fs
theorem MonoL.mono : ∀ {φ : List Fact}, MonoL φ → MonoF φ
  | [], _, j, _, _, _, _, _, h => by simp [nofact] at h
  | f :: fs, h, 0, i, i', v, hx, hl, h0 => h.1 i i' v hx hl h0
  | f :: fs, h, j + 1, i, i', v, hx, hl, h0 => MonoL.mono h.2 j i i' v hx hl h0
def bound (o : Oper) : List Nat := (o.after.toList.filter fun e => Region.binds .any e).map (·.on)
def chkEdges (ops : List Oper) (s : Nat) : Bool :=
  (List.range ops.length).all fun i => match ops[i]? with
    | some o => (bound o).all (fun e => Nat.blt e i) && (match o.guard with | some (g, _) => Nat.blt g i | none => true) && (Nat.blt i s || (Nat.beq i s && (List.range i).all (fun e => (bound o).contains e)) || (Nat.blt s i && (bound o).contains (i - 1)))
    | none => true
def chkIns (ops : List Oper) (s nb : Nat) (ins : List (List (Nat × Bool))) : Bool :=
  (List.range s).all fun i => match ins[i]?, ops[i]? with
    | some l, some o => l.all (fun p => (Nat.ble ops.length p.1 && Nat.blt p.1 (ops.length + nb)) || (Nat.blt p.1 s && (bound o).contains p.1)) && ((l.filter (·.2)).map (·.1)).Pairwise (· ≠ ·)
    | _, _ => false
def chkOnce (s : Nat) (ins : List (List (Nat × Bool))) : Bool :=
  (List.range s).all fun i => (List.range s).all fun i' => Nat.beq i i' || (ins.getD i []).all (fun p => !p.2 || !((ins.getD i' []).contains (p.1, true)))
def chkTmp (ops : List Oper) (n s : Nat) (keys : List Nat) : Bool :=
  (List.range s).all fun i => match dstAt ops i with
    | some d => Nat.blt d n && !(keys.contains d) && (List.range s).all (fun j => Nat.beq j i || match dstAt ops j with | some d' => !(Nat.beq d' d) | none => true)
    | none => true
def anyChk (ops : List Oper) (n s nb : Nat) (ins : List (List (Nat × Bool))) (keys : List Nat) : Bool :=
  Nat.beq ins.length s && Nat.ble s ops.length && chkEdges ops s && chkIns ops s nb ins && chkOnce s ins && chkTmp ops n s keys
structure AnyOk (ops : List Oper) (n s nb : Nat) (ins : List (List (Nat × Bool))) (keys : List Nat) : Prop where
  len : ins.length = s
  le : s ≤ ops.length
  edge : ∀ {i : Nat} {o : Oper}, ops[i]? = some o → ∀ e ∈ bound o, e < i
  guard : ∀ {i : Nat} {o : Oper} {g : Nat} {b : Bool}, ops[i]? = some o → o.guard = some (g, b) → g < i
  order : ∀ {i : Nat} {o : Oper}, ops[i]? = some o → s ≤ i → (i = s ∧ ∀ e, e < i → e ∈ bound o) ∨ (s < i ∧ i - 1 ∈ bound o)
  there : ∀ {i : Nat} {l : List (Nat × Bool)} {o : Oper}, ins[i]? = some l → ops[i]? = some o → ∀ p ∈ l, (ops.length ≤ p.1 ∧ p.1 < ops.length + nb) ∨ (p.1 < s ∧ p.1 ∈ bound o)
  apart : ∀ {i : Nat} {l : List (Nat × Bool)}, i < s → ins[i]? = some l → ((l.filter (·.2)).map (·.1)).Pairwise (· ≠ ·)
  once : ∀ {i i' : Nat} {l l' : List (Nat × Bool)}, i < s → i' < s → i ≠ i' → ins[i]? = some l → ins[i']? = some l' → ∀ j, (j, true) ∈ l → (j, true) ∉ l'
  tmp : ∀ {i d : Nat}, i < s → dstAt ops i = some d → d < n ∧ d ∉ keys
  own : ∀ {i j d : Nat}, i < s → j < s → j ≠ i → dstAt ops i = some d → dstAt ops j ≠ some d
theorem AnyOk.mk' {ops : List Oper} {n s nb : Nat} {ins : List (List (Nat × Bool))} {keys : List Nat} (h : anyChk ops n s nb ins keys = true) : AnyOk ops n s nb ins keys := by
  unfold anyChk at h
  simp only [Bool.and_eq_true] at h
  obtain ⟨⟨⟨⟨⟨h1, h2⟩, h3⟩, h4⟩, h5⟩, h6⟩ := h
  have hlen := Nat.eq_of_beq_eq_true h1
  have hle := Nat.le_of_ble_eq_true h2
  have lt_of : ∀ {i : Nat} {o : Oper}, ops[i]? = some o → i < ops.length := fun e => (List.getElem?_eq_some_iff.1 e).1
  have e3 : ∀ {i : Nat} {o : Oper}, ops[i]? = some o → (bound o).all (fun e => Nat.blt e i) = true ∧ (match o.guard with | some (g, _) => Nat.blt g i | none => true) = true ∧ (Nat.blt i s || (Nat.beq i s && (List.range i).all (fun e => (bound o).contains e)) || (Nat.blt s i && (bound o).contains (i - 1))) = true := fun {i o} e => by
    have := List.all_eq_true.1 h3 i (List.mem_range.2 (lt_of e))
    simp only [e, Bool.and_eq_true] at this
    exact ⟨this.1.1, this.1.2, this.2⟩
  have e4 : ∀ {i : Nat} {o : Oper} {l}, i < s → ins[i]? = some l → ops[i]? = some o → _ := fun {i o l} hi hl ho => by
    have := List.all_eq_true.1 h4 i (List.mem_range.2 hi)
    simp only [hl, ho] at this
    exact this
  refine ⟨hlen, hle, fun e x hx => ?_, fun e hg => ?_, fun {i o} e hs => ?_, fun {i l o} hl ho p hp => ?_, fun {i l} hi hl => ?_, fun {i i' l l'} hi hi' hne hl hl' j hj => ?_, fun {i d} hi hd => ?_, fun {i j d} hi hj hne hd hd' => ?_⟩
  · simpa using List.all_eq_true.1 (e3 e).1 x hx
  · have := (e3 e).2.1; rw [hg] at this; simpa using this
  · have := (e3 e).2.2
    rw [Bool.or_eq_true, Bool.or_eq_true, Bool.and_eq_true, Bool.and_eq_true] at this
    rcases this with (h | ⟨h0, h⟩) | ⟨h0, h⟩
    · exact absurd (by simpa using h) (Nat.not_lt.2 hs)
    · exact .inl ⟨Nat.eq_of_beq_eq_true h0, fun x hx => by simpa using List.all_eq_true.1 h x (List.mem_range.2 hx)⟩
    · exact .inr ⟨by simpa using h0, by simpa using h⟩
  · have hi : i < s := by rw [← hlen]; exact (List.getElem?_eq_some_iff.1 hl).1
    have := e4 hi hl ho
    rw [Bool.and_eq_true] at this
    have := List.all_eq_true.1 this.1 p hp
    simpa using this
  · obtain ⟨o, ho⟩ : ∃ o, ops[i]? = some o := ⟨_, List.getElem?_eq_getElem (by omega)⟩
    have := e4 hi hl ho
    rw [Bool.and_eq_true] at this
    exact of_decide_eq_true this.2
  · have := List.all_eq_true.1 (List.all_eq_true.1 h5 i (List.mem_range.2 hi)) i' (List.mem_range.2 hi')
    rw [Bool.or_eq_true] at this
    rcases this with h | h
    · exact absurd (Nat.eq_of_beq_eq_true h) hne
    · have := List.all_eq_true.1 h (j, true) (by simpa [List.getD, hl] using hj)
      simpa [List.getD, hl'] using this
  · have := List.all_eq_true.1 h6 i (List.mem_range.2 hi)
    simp only [hd, Bool.and_eq_true] at this
    exact ⟨by simpa using this.1.1, by simpa using this.1.2⟩
  · have := List.all_eq_true.1 h6 i (List.mem_range.2 hi)
    simp only [hd, Bool.and_eq_true] at this
    have := List.all_eq_true.1 this.2 j (List.mem_range.2 hj)
    simp [hd', hne] at this
/-! ### The walk of all orders -/
theorem oW {ops : List Oper} {listed : Array Bool} {i : Nat} : i ∈ Region.ready .any ops.toArray listed ↔ i < ops.length ∧ listed.getD i true = false ∧ ∃ o, ops[i]? = some o ∧ ∀ e ∈ bound o, listed.getD e false = true := by
  unfold Region.ready
  simp only [List.mem_filter, List.mem_range, List.size_toArray, Bool.and_eq_true, Bool.not_eq_true']
  constructor
  · rintro ⟨h1, h2, h3⟩
    refine ⟨h1, h2, ops[i], List.getElem?_eq_getElem h1, fun e he => ?_⟩
    have h4 : ops.toArray[i]? = some ops[i] := by simp [h1]
    rw [h4] at h3
    simp only [Option.map_some, Option.getD_some] at h3
    unfold bound at he
    obtain ⟨x, hx, rfl⟩ := List.mem_map.1 he
    obtain ⟨hx1, hx2⟩ := List.mem_filter.1 hx
    have := Array.all_eq_true_iff_forall_mem.1 h3 x (by simpa using hx1)
    simpa [hx2] using this
  · rintro ⟨h1, h2, o, ho, h3⟩
    refine ⟨h1, h2, ?_⟩
    have h4 : ops.toArray[i]? = some o := by simpa using ho
    rw [h4]
    simp only [Option.map_some, Option.getD_some]
    rw [Array.all_eq_true_iff_forall_mem]
    intro x hx
    cases hb : Region.binds .any x with
    | false => rfl
    | true =>
      simp only [Bool.not_true, Bool.false_or]
      exact h3 _ (List.mem_map.2 ⟨x, List.mem_filter.2 ⟨by simpa using hx, hb⟩, rfl⟩)
theorem gE {listed : Array Bool} {i j : Nat} {d : Bool} (h : i < listed.size) : (listed.setIfInBounds i true).getD j d = if j = i then true else listed.getD j d := by
  simp only [Array.getD_eq_getD_getElem?]
  by_cases e : j = i
  · subst e; simp [h]
  · rw [Array.getElem?_setIfInBounds_ne (Ne.symm e)]; simp [e]
def unl (N : Nat) (listed : Array Bool) : Nat := (List.range N).countP fun j => !listed.getD j true
theorem zEq {l : List Nat} {p q : Nat → Bool} {i : Nat} (hi : i ∈ l) (hp : p i = true) (hq : q i = false) (h : ∀ j, q j = true → p j = true) : l.countP q < l.countP p := by
  induction l with
  | nil => cases hi
  | cons x l ih =>
    have hle : l.countP q ≤ l.countP p := List.countP_mono_left fun j _ hj => h j hj
    simp only [List.countP_cons]
    rcases List.mem_cons.1 hi with rfl | hi
    · simp [hp, hq]; omega
    · have := ih hi
      cases hx : q x with
      | true => simp [h x hx]; omega
      | false => cases p x <;> simp <;> omega
theorem zHY {N i : Nat} {listed : Array Bool} (hs : listed.size = N) (hi : i < N) (hl : listed.getD i true = false) : unl N (listed.setIfInBounds i true) < unl N listed := by
  unfold unl
  refine zEq (i := i) (List.mem_range.2 hi) (by simp [hl]) (by rw [gE (by omega)]; simp) fun j hj => ?_
  rw [gE (by omega)] at hj
  split at hj
  · simp at hj
  · exact hj
section
variable {P : Program} {n : Nat} {B : Base} {Q : Exit → Act → World → Prop} {imm : Imm} {hs : List HA} {m : FM} {ops : List Oper}
theorem zEX {s nb : Nat} {ins : List (List (Nat × Bool))} {keys : List Nat} (hc : AnyOk ops n s nb ins keys) : ∀ (fuel k : Nat) (listed : Array Bool) (a : Act) (w : World), s ≤ k → k ≤ ops.length → ops.length - k ≤ fuel → listed.size = ops.length → (∀ j d, j < ops.length → listed.getD j d = decide (j < k)) →
    wpL P ops.toArray Q (ops.drop k) a w → wpAny P .any ops.toArray Q fuel listed a w := by
  intro fuel
  induction fuel with
  | zero =>
    intro k listed a w h1 h2 h3 hsz hl h
    have hk : k = ops.length := by omega
    subst hk
    rw [List.drop_length] at h
    refine ⟨?_, h⟩
    rw [List.eq_nil_iff_forall_not_mem]
    intro i hi
    obtain ⟨h4, h5, _⟩ := oW.1 hi
    rw [hl _ _ h4] at h5
    simp [h4] at h5
  | succ fuel ih =>
    intro k listed a w h1 h2 h3 hsz hl h
    have hrd : ∀ i, i ∈ Region.ready .any ops.toArray listed → i = k := fun i hi => by
      obtain ⟨h4, h5, o, ho, h6⟩ := oW.1 hi
      rw [hl _ _ h4] at h5
      have h5 : ¬ i < k := by simpa using h5
      rcases Nat.lt_or_ge k i with h7 | h7
      · rcases hc.order ho (by omega) with ⟨h8, h9⟩ | ⟨h8, h9⟩
        · omega
        · have := h6 _ h9
          rw [hl _ _ (by omega)] at this
          simp at this
          omega
      · omega
    refine ⟨fun h0 => ?_, fun i hi => ?_⟩
    · rcases Nat.lt_or_ge k ops.length with hk | hk
      · have : k ∈ Region.ready .any ops.toArray listed := oW.2 ⟨hk, by rw [hl _ _ hk]; simp, ops[k], List.getElem?_eq_getElem hk, fun e he => by
          have := hc.edge (List.getElem?_eq_getElem hk) e he
          rw [hl _ _ (by omega)]; simp [this]⟩
        rw [h0] at this; cases this
      · have hk : k = ops.length := by omega
        subst hk
        rw [List.drop_length] at h
        exact h
    · have := hrd i hi
      subst this
      have hk := (oW.1 hi).1
      have ho : ops[i]? = some ops[i] := List.getElem?_eq_getElem hk
      rw [jJ ho] at h
      simp only [wpL] at h
      have next : ∀ a w, wpL P ops.toArray Q (ops.drop (i + 1)) a w → wpAny P .any ops.toArray Q fuel (listed.setIfInBounds i true) a w := fun a w h =>
        ih (i + 1) _ a w (by omega) (by omega) (by omega) (by simpa using hsz) (fun j d hj => by
          rw [gE (by omega), hl _ _ hj]
          by_cases e : j = i
          · subst e; simp
          · have : decide (j < i + 1) = decide (j < i) := by simp; omega
            rw [this]; simp [e]) h
      unfold wpOp
      have h4 : ops.toArray[i]? = some ops[i] := by simp [hk]
      rw [h4]
      split
      · rename_i he; cases he
      · rename_i o he
        injection he with he
        subst he
        split
        · rename_i hw; rw [if_pos hw] at h; exact .inl (Oper.wp_mono next h)
        · rename_i hw; rw [if_neg hw] at h; exact next _ _ h
theorem zHu {o : Oper} {a : Act} {w : World} {K K' : Act → World → Prop} {Q' : Exit → Act → World → Prop} (hQ : ∀ e a w, Q' e a w → e = .normal)
    (hh : o.wp P a w K Q') (hnd : ∀ v w', K (a.put o.dst v) w' → K' (a.put o.dst v) w') (hdef : ∀ d w', ¬ K ({ a with defers := d :: a.defers }.put o.dst undef) w') : o.wp P a w K' Q := by
  unfold Oper.wp at *
  generalize (execOp a.eval o).run P w = r at *
  cases r with
  | ok x w' =>
    cases x <;> simp only [Oper.upon] at hh ⊢
    case value => exact hnd _ _ hh
    case skip => exact hnd _ _ hh
    case defer => exact absurd hh (hdef _ _)
    case enter =>
      refine Calls.mono hh fun e w'' he => ?_
      cases e with
      | returned v => exact hnd _ _ he
      | panicked c => cases hQ _ _ _ he
      | outgrown =>
        obtain ⟨a1, w1, he⟩ := he
        cases hQ _ _ _ he
    case row => exact Rows.mono hh fun _ _ he => hnd _ _ he
  | halt x w' =>
    cases x <;> simp only [Oper.upon] at hh ⊢
    case panic => cases hQ _ _ _ hh
structure AnyInv (n : Nat) (B : Base) (ops : List Oper) (s nb : Nat) (ins : List (List (Nat × Bool))) (φ : List Fact) (imm : Imm) (hsC : List HA) (m : FM) (listed : Array Bool) (a : Act) (w : World)
    (imm' : Imm) (val : Nat → Value) (hx : Nat → List HA) (live : List Nat) : Prop where
  le : imm.le imm'
  good : Good B imm' (hsC ++ live.flatMap hx) w
  defers : a.defers = []
  size : a.tmps.size = n
  base : ∀ k v, look m k = some v → a.tmps[k]? = some v
  lsz : listed.size = ops.length
  lst : ∀ j, listed.getD j false = true → j < s
  fact : ∀ j, (listed.getD j false = true ∨ (ops.length ≤ j ∧ j < ops.length + nb)) → (φ.getD j nofact) imm' (val j) (hx j)
  slot : ∀ j d, listed.getD j false = true → dstAt ops j = some d → a.tmps[d]? = some (val j)
  live : ∀ j, (listed.getD j false = true ∨ (ops.length ≤ j ∧ j < ops.length + nb)) → (∀ i l, listed.getD i false = true → ins[i]? = some l → (j, true) ∉ l) → j ∈ live
theorem zBc {val : Nat → Value} {a : Act} {tm : Nat → Option Value} : ∀ (r : List (Nat × Bool)) {m : FM}, (∀ p ∈ r, ∀ d, dstAt ops p.1 = some d → a.tmps[d]? = some (val p.1)) → (∀ k v, look m k = some v → a.tmps[k]? = some v) → ∀ k v, look (addM ops val r m) k = some v → a.tmps[k]? = some v
  | [], _, _, h2 => h2
  | (j, c) :: r, m, h1, h2 => by
    refine zBc (tm := tm) r (fun p hp => h1 p (List.mem_cons_of_mem _ hp)) (fun k v hk => ?_)
    split at hk
    · rename_i d hd
      by_cases e : d = k
      · subst e; rw [pC] at hk; cases hk; exact h1 _ (List.mem_cons_self ..) _ hd
      · rw [rM _ _ e] at hk; exact h2 _ _ hk
    · exact h2 _ _ hk
theorem dO {hx : Nat → List HA} : ∀ (r : List (Nat × Bool)) (live : List Nat), (∀ p ∈ r, p.2 = true → p.1 ∈ live) → ((r.filter (·.2)).map (·.1)).Pairwise (· ≠ ·) →
    ∃ live' : List Nat, (∀ j ∈ live, (j, true) ∉ r → j ∈ live') ∧ ∀ X : List HA, (X ++ live.flatMap hx).Perm (addH hx r (X ++ live'.flatMap hx))
  | [], live, _, _ => ⟨live, fun _ h _ => h, fun _ => .refl _⟩
  | (j, false) :: r, live, h1, h2 => by
    obtain ⟨l', h3, h4⟩ := dO (hx := hx) r live (fun p hp => h1 p (List.mem_cons_of_mem _ hp)) (by simpa using h2)
    exact ⟨l', fun j' hj hn => h3 j' hj (fun h => hn (List.mem_cons_of_mem _ h)), h4⟩
  | (j, true) :: r, live, h1, h2 => by
    have h2' : (∀ x ∈ (r.filter (·.2)).map (·.1), j ≠ x) ∧ ((r.filter (·.2)).map (·.1)).Pairwise (· ≠ ·) := by
      simpa only [List.filter_cons, if_true, List.map_cons, List.pairwise_cons] using h2
    have hj := h1 _ (List.mem_cons_self ..) rfl
    obtain ⟨l', h3, h4⟩ := dO (hx := hx) r (live.erase j) (fun p hp ht => by
      refine (List.mem_erase_of_ne ?_).2 (h1 p (List.mem_cons_of_mem _ hp) ht)
      exact (h2'.1 _ (List.mem_map.2 ⟨p, List.mem_filter.2 ⟨hp, ht⟩, rfl⟩)).symm) h2'.2
    refine ⟨l', fun j' hj' hn => h3 j' ((List.mem_erase_of_ne ?_).2 hj') (fun h => hn (List.mem_cons_of_mem _ h)), fun X => .trans ?_ (.trans (h4 (hx j ++ X)) (.of_eq ?_))⟩
    · intro e; subst e; exact hn (List.mem_cons_self ..)
    · have hp : (live.flatMap hx).Perm (hx j ++ (live.erase j).flatMap hx) := by
        have := (List.perm_cons_erase hj).flatMap_right hx
        simpa [List.flatMap_cons] using this
      refine (List.Perm.append_left X hp).trans ?_
      rw [← List.append_assoc]
      exact List.Perm.append_right _ List.perm_append_comm
    · simp only [addH, List.append_assoc]
theorem zAO {ops : List Oper} {i : Nat} {o : Oper} (ho : ops[i]? = some o) : (ops.take (i + 1)).drop i = [o] := by
  have hlt := (List.getElem?_eq_some_iff.1 ho).1
  rw [List.drop_take, jJ ho]
  simp
theorem zEr {ops : List Oper} {i : Nat} {o : Oper} {t : Array Value} (hg : ∀ g b, o.guard = some (g, b) → g < i) : Region.wanted o (yielded (ops.take (i + 1)).toArray t) = Region.wanted o (yielded ops.toArray t) := by
  unfold Region.wanted
  cases h : o.guard with
  | none => rfl
  | some g =>
    obtain ⟨j, b⟩ := g
    have := hg j b h
    simp only [yielded]
    have e : (ops.take (i + 1)).toArray[j]? = ops.toArray[j]? := by
      simp only [List.getElem?_toArray]
      rw [List.getElem?_take_of_lt (by omega)]
    rw [e]
theorem eG {α β : Type} {f g : α → List β} : ∀ {l : List α}, (∀ x ∈ l, f x = g x) → l.flatMap f = l.flatMap g
  | [], _ => rfl
  | x :: l, h => by rw [List.flatMap_cons, List.flatMap_cons, h x (List.mem_cons_self ..), eG fun y hy => h y (List.mem_cons_of_mem _ hy)]
theorem fN {α β : Type} {f : α → List β} {l l' : List α} (h : l'.Sublist l) : (l'.flatMap f).Sublist (l.flatMap f) := by
  induction h with
  | slnil => exact List.Sublist.refl _
  | cons a _ ih => rw [List.flatMap_cons]; exact ih.trans (List.sublist_append_right ..)
  | cons_cons a _ ih => rw [List.flatMap_cons, List.flatMap_cons]; exact List.Sublist.append_left ih _
theorem Good.sublist {w : World} (h : Good B imm hs w) {hs' : List HA} (hs1 : hs'.Sublist hs) : Good B imm hs' w :=
  h.sub (fun _ hA => hs1.subset hA) ((fN hs1).nodup h.nodup)
theorem AnyInv.step {s nb : Nat} {ins : List (List (Nat × Bool))} {keys : List Nat} (hc : AnyOk ops n s nb ins keys) {φ : List Fact} (hφ : MonoF φ) {hsC : List HA} (hk : ∀ k v, look m k = some v → k ∈ keys) (hob : Obls P n B ops φ imm hsC m 0 ins)
    {listed : Array Bool} {a : Act} {w : World} {imm1 : Imm} {val : Nat → Value} {hx : Nat → List HA} {live : List Nat} (h : AnyInv n B ops s nb ins φ imm hsC m listed a w imm1 val hx live) {i : Nat} (hi : i < s) (hr : i ∈ Region.ready .any ops.toArray listed)
    {K : Act → World → Prop} (hK : ∀ a' w' imm' val' hx' live', AnyInv n B ops s nb ins φ imm hsC m (listed.setIfInBounds i true) a' w' imm' val' hx' live' → K a' w') : wpOp P ops.toArray Q i K a w := by
  obtain ⟨hlt, hnl, o, ho, hrd⟩ := oW.1 hr
  have hnl' : listed.getD i false = false := by
    have : i < listed.size := by rw [h.lsz]; exact hlt
    simp only [Array.getD_eq_getD_getElem?, Array.getElem?_eq_getElem this, Option.getD_some] at hnl ⊢
    exact hnl
  obtain ⟨l, hl⟩ : ∃ l, ins[i]? = some l := ⟨_, List.getElem?_eq_getElem (by rw [hc.len]; exact hi)⟩
  have hthere : ∀ p ∈ l, listed.getD p.1 false = true ∨ (ops.length ≤ p.1 ∧ p.1 < ops.length + nb) := fun p hp => by
    rcases hc.there hl ho p hp with h1 | ⟨_, h1⟩
    · exact .inr h1
    · exact .inl (hrd _ h1)
  have hlive : ∀ p ∈ l, p.2 = true → p.1 ∈ live := fun p hp ht => by
    refine h.live _ (hthere p hp) fun i' l' hi' hl' hm => ?_
    have hne : i ≠ i' := fun e => by subst e; rw [hnl'] at hi'; cases hi'
    have hp' : (p.1, true) ∈ l := by rw [← ht]; exact hp
    exact hc.once hi (h.lst _ hi') hne hl hl' _ hp' hm
  obtain ⟨live', h3, h4⟩ := dO (hx := hx) l live hlive (hc.apart hi hl)
  have hR := Ins.use (val := val) (hx := hx) l (fun p hp => h.fact _ (hthere p hp)) (by
    have := hob.at hl imm1 (live'.flatMap hx) h.le
    rw [Nat.zero_add] at this
    exact this)
  have hfr : Fr n a (addM ops val l m) := ⟨h.defers, h.size, zBc (tm := fun _ => none) l (fun p hp d hd => by
    rcases hthere p hp with h1 | ⟨h1, _⟩
    · exact h.slot _ _ h1 hd
    · unfold dstAt at hd
      rw [List.getElem?_eq_none h1] at hd
      cases hd) h.base⟩
  have hg : Good B imm1 (addH hx l (hsC ++ live'.flatMap hx)) w := h.good.perm (h4 hsC).symm
  have hw := hR a w hfr hg
  rw [zAO ho] at hw
  have hsz : i < listed.size := by rw [h.lsz]; exact hlt
  have fin : ∀ v w', OutQ n B (φ.getD i nofact) (dstAt ops i) imm1 (hsC ++ live'.flatMap hx) .normal (a.put o.dst v) w' → K (a.put o.dst v) w' := fun v w' hq => by
    obtain ⟨_, hdf, imm', v', hx', hle, hf, hg', hs'⟩ := hq
    have hdst : dstAt ops i = o.dst := by simp [dstAt, ho]
    have hput : ∀ k, o.dst ≠ some k → (a.put o.dst v).tmps[k]? = a.tmps[k]? := fun k hne => by
      cases hd : o.dst with
      | none => rfl
      | some d =>
        have : d ≠ k := fun e => hne (by rw [hd, e])
        simp only [Act.put]
        rw [Array.getElem?_setIfInBounds_ne this]
    have hold : ∀ j, j ≠ i → (if j = i then v' else val j) = val j := fun j hj => by simp [hj]
    have hold2 : ∀ j, j ≠ i → (if j = i then hx' else hx j) = hx j := fun j hj => by simp [hj]
    refine hK _ _ imm' (fun j => if j = i then v' else val j) (fun j => if j = i then hx' else hx j) (i :: live'.filter (fun j => j != i)) ?_
    have hlisted : ∀ j, (listed.setIfInBounds i true).getD j false = true → j = i ∨ (j ≠ i ∧ listed.getD j false = true) := fun j hj => by
      rw [gE hsz] at hj
      by_cases e : j = i
      · exact .inl e
      · rw [if_neg e] at hj; exact .inr ⟨e, hj⟩
    refine ⟨h.le.trans hle, ?_, hdf, ?_, fun k u hu => ?_, by simpa using h.lsz, fun j hj => ?_, fun j hj => ?_, fun j d hj hd => ?_, fun j hj hn => ?_⟩
    · have e1 : (i :: live'.filter (fun j => j != i)).flatMap (fun j => if j = i then hx' else hx j) = hx' ++ (live'.filter (fun j => j != i)).flatMap hx := by
        rw [List.flatMap_cons]
        simp only [if_true]
        congr 1
        refine eG fun j hj => ?_
        have := (List.mem_filter.1 hj).2
        have : j ≠ i := by simpa using this
        simp [this]
      rw [e1]
      refine Good.perm (Good.sublist hg' (hs' := hx' ++ (hsC ++ (live'.filter (fun j => j != i)).flatMap hx)) ?_) ?_
      · exact List.Sublist.append_left (List.Sublist.append_left (fN List.filter_sublist) _) _
      · rw [← List.append_assoc, ← List.append_assoc]
        exact List.Perm.append_right _ List.perm_append_comm
    · cases hd : o.dst <;> simp [Act.put, h.size]
    · rw [hput k (fun e => ?_)]
      · exact h.base k u hu
      · exact (hc.tmp hi (hdst.trans e)).2 (hk _ _ hu)
    · rcases hlisted j hj with e | ⟨_, e⟩
      · subst e; exact hi
      · exact h.lst j e
    · by_cases e : j = i
      · subst e; simpa using hf
      · simp only [hold j e, hold2 j e]
        refine hφ _ _ _ _ _ hle (h.fact j ?_)
        rcases hj with hj | hj
        · rcases hlisted j hj with e' | ⟨_, e'⟩
          · exact absurd e' e
          · exact .inl e'
        · exact .inr hj
    · by_cases e : j = i
      · subst e; simpa using hs' d hd
      · simp only [hold j e]
        have hj' : listed.getD j false = true := by
          rcases hlisted j hj with e' | ⟨_, e'⟩
          · exact absurd e' e
          · exact e'
        rw [hput d (fun e' => hc.own hi (h.lst j hj') e (hdst.trans e') hd)]
        exact h.slot j d hj' hd
    · by_cases e : j = i
      · subst e; exact List.mem_cons_self ..
      · refine List.mem_cons_of_mem _ (List.mem_filter.2 ⟨?_, by simpa using e⟩)
        have hj' : listed.getD j false = true ∨ (ops.length ≤ j ∧ j < ops.length + nb) := by
          rcases hj with hj | hj
          · rcases hlisted j hj with e' | ⟨_, e'⟩
            · exact absurd e' e
            · exact .inl e'
          · exact .inr hj
        refine h3 j (h.live j hj' fun i' l' hi' hl' => hn i' l' ?_ hl') (hn i l ?_ hl)
        · rw [gE hsz]; split
          · rfl
          · exact hi'
        · rw [gE hsz]; simp
  unfold wpOp
  have h5 : ops.toArray[i]? = some o := by simpa using ho
  rw [h5]
  simp only [wpL] at hw
  rw [zEr (fun g b e => hc.guard ho e)] at hw
  simp only []
  split
  · rename_i hwt
    rw [if_pos hwt] at hw
    refine .inl (zHu (fun e a w h => h.1) hw fin fun d w' hq => ?_)
    have h7 := hq.2.1
    cases hd : o.dst <;> rw [hd] at h7 <;> cases h7
  · rename_i hwt
    rw [if_neg hwt] at hw
    exact fin _ _ hw
theorem zF7 {s nb : Nat} {ins : List (List (Nat × Bool))} {keys : List Nat} (hc : AnyOk ops n s nb ins keys) {φ : List Fact} (hφ : MonoF φ) {hsC : List HA} (hk : ∀ k v, look m k = some v → k ∈ keys) (hob : Obls P n B ops φ imm hsC m 0 ins)
    (hend : ∀ a w imm1 val hx live listed, AnyInv n B ops s nb ins φ imm hsC m listed a w imm1 val hx live → (∀ j, j < s → listed.getD j false = true) → wpL P ops.toArray Q (ops.drop s) a w) :
    ∀ (fuel : Nat) (listed : Array Bool) (a : Act) (w : World), unl ops.length listed ≤ fuel → (∃ imm1 val hx live, AnyInv n B ops s nb ins φ imm hsC m listed a w imm1 val hx live) → wpAny P .any ops.toArray Q fuel listed a w := by
  intro fuel
  have early : ∀ (fuel : Nat) (listed : Array Bool) (a : Act) (w : World), unl ops.length listed ≤ fuel → (∃ imm1 val hx live, AnyInv n B ops s nb ins φ imm hsC m listed a w imm1 val hx live) → (∀ j, j < s → listed.getD j false = true) → wpAny P .any ops.toArray Q fuel listed a w := by
    rintro fuel listed a w hu ⟨imm1, val, hx, live, h⟩ hall
    refine zEX hc fuel s listed a w (Nat.le_refl _) hc.le ?_ h.lsz (fun j d hj => ?_) (hend a w imm1 val hx live listed h hall)
    · have hle : ((List.range ops.length).countP fun j => decide (s ≤ j)) ≤ unl ops.length listed := by
        refine List.countP_mono_left fun j hj hs => ?_
        have hs : s ≤ j := by simpa using hs
        have : j < listed.size := by rw [h.lsz]; exact List.mem_range.1 hj
        cases hl : listed.getD j true with
        | false => rfl
        | true =>
          have := h.lst j (by
            simp only [Array.getD_eq_getD_getElem?, Array.getElem?_eq_getElem this, Option.getD_some] at hl ⊢
            exact hl)
          omega
      have hcnt : ∀ N, ((List.range N).countP fun j => decide (s ≤ j)) = N - s := by
        intro N
        induction N with
        | zero => simp
        | succ N ih =>
          rw [List.range_succ, List.countP_append, ih]
          by_cases h : s ≤ N <;> simp [h] <;> omega
      rw [hcnt] at hle
      omega
    · have hjs : j < listed.size := by rw [h.lsz]; exact hj
      rcases Nat.lt_or_ge j s with h1 | h1
      · have := hall j h1
        simp only [Array.getD_eq_getD_getElem?, Array.getElem?_eq_getElem hjs, Option.getD_some] at this ⊢
        simp [this, h1]
      · cases hl : listed.getD j d with
        | false => simp; omega
        | true =>
          have := h.lst j (by
            simp only [Array.getD_eq_getD_getElem?, Array.getElem?_eq_getElem hjs, Option.getD_some] at hl ⊢
            exact hl)
          omega
  induction fuel with
  | zero =>
    rintro listed a w hu hI
    refine early 0 listed a w hu hI fun j hj => ?_
    obtain ⟨imm1, val, hx, live, h⟩ := hI
    have hle := hc.le
    have h0 : unl ops.length listed = 0 := by omega
    unfold unl at h0
    rw [List.countP_eq_zero] at h0
    have := h0 j (List.mem_range.2 (by omega))
    have hjs : j < listed.size := by rw [h.lsz]; omega
    simp only [Array.getD_eq_getD_getElem?, Array.getElem?_eq_getElem hjs, Option.getD_some, Bool.not_eq_true', Bool.not_eq_false] at this ⊢
    simpa using this
  | succ fuel ih =>
    rintro listed a w hu hI
    by_cases hall : ∀ j, j < s → listed.getD j false = true
    · exact early _ listed a w hu hI hall
    · obtain ⟨imm1, val, hx, live, h⟩ := hI
      have hlt : ∀ i ∈ Region.ready .any ops.toArray listed, i < s := fun i hi => by
        obtain ⟨h4, h5, o, ho, h6⟩ := oW.1 hi
        rcases Nat.lt_or_ge i s with h7 | h7
        · exact h7
        · rcases hc.order ho h7 with ⟨h8, h9⟩ | ⟨h8, h9⟩
          · exact absurd (fun j hj => h6 j (h9 j (by omega))) hall
          · have hl := h6 _ h9
            have := h.lst (i - 1) (by
              have hsz := h.lsz
              have hi : i - 1 < listed.size := by omega
              simp only [Array.getD_eq_getD_getElem?, Array.getElem?_eq_getElem hi, Option.getD_some] at hl ⊢
              exact hl)
            omega
      refine ⟨fun h0 => ?_, fun i hi => ?_⟩
      · refine absurd (fun j hj => ?_) hall
        have hle := hc.le
        have key : ∀ N j, j < N → j < s → listed.getD j false = true := by
          intro N
          induction N with
          | zero => intro j hj; omega
          | succ N ihN =>
            intro j hj hjs
            cases hl : listed.getD j false with
            | true => rfl
            | false =>
              have hjz : j < listed.size := by rw [h.lsz]; omega
              have : j ∈ Region.ready .any ops.toArray listed := oW.2 ⟨by omega, by
                simp only [Array.getD_eq_getD_getElem?, Array.getElem?_eq_getElem hjz, Option.getD_some] at hl ⊢
                exact hl, ops[j], List.getElem?_eq_getElem (by omega), fun e he => by
                  have hej := hc.edge (List.getElem?_eq_getElem (by omega)) e he
                  exact ihN e (by omega) (by omega)⟩
              rw [h0] at this; cases this
        exact key (j + 1) j (by omega) hj
      · have hilt := hlt i hi
        obtain ⟨h4, h5, _⟩ := oW.1 hi
        refine h.step hc hφ hk hob hilt hi fun a' w' imm' val' hx' live' h' => ih _ a' w' ?_ ⟨imm', val', hx', live', h'⟩
        have := zHY (N := ops.length) h.lsz h4 h5
        omega
def finChk (ops : List Oper) (s nb : Nat) (ins : List (List (Nat × Bool))) (fin : List (Nat × Bool)) : Bool :=
  fin.all (fun p => (Nat.ble ops.length p.1 && Nat.blt p.1 (ops.length + nb)) || Nat.blt p.1 s) && ((fin.filter (·.2)).map (·.1)).Pairwise (· ≠ ·) && fin.all (fun p => !p.2 || ins.all (fun l => !(l.contains (p.1, true))))
theorem eH {hx : Nat → List HA} : ∀ (r : List (Nat × Bool)) (X Y : List HA), addH hx r (X ++ Y) = addH hx r X ++ Y
  | [], _, _ => rfl
  | (j, true) :: r, X, Y => by simp only [addH]; rw [← List.append_assoc, eH r]
  | (j, false) :: r, X, Y => by simp only [addH]; rw [eH r]
theorem zEs : ∀ {m : FM} {k : Nat} {v : Value}, look m k = some v → k ∈ m.map (·.1)
  | [], _, _, h => by simp [look] at h
  | (k', v') :: m, k, v, h => by
    by_cases e : k' = k
    · subst e; simp
    · rw [rM _ _ e] at h
      exact List.mem_cons_of_mem _ (zEs h)
theorem zEY {id : Nat} (s : Nat) (ins : List (List (Nat × Bool))) (φ : List Fact) (hsC : List HA) (gs : List (List HA)) (fin : List (Nat × Bool))
    (hm : P.follows .mixedOrders = true) (hc : anyChk ops n s gs.length ins (m.map (·.1)) = true) (hf : finChk ops s gs.length ins fin = true) (hhs : ∀ w, Good B imm hs w → Good B imm (hsC ++ gs.flatten) w) (hφ : MonoL φ) (hg : BaseG φ imm ops.length gs)
    (hob : Obls P n B ops φ imm hsC m 0 ins)
    (hend : ∀ imm1, imm.le imm1 → Ins ops φ imm1 fin m hsC fun m' hs' => R P n B ops Q s imm1 hs' m') : J P n B (.region id ops.toArray true) Q imm hs m := fun a w f g => by
  have hc := AnyOk.mk' hc
  unfold finChk at hf
  simp only [Bool.and_eq_true] at hf
  obtain ⟨⟨hf1, hf2⟩, hf3⟩ := hf
  refine wp_region_any hm (zF7 (imm := imm) (m := m) (φ := φ) (hsC := hsC) hc hφ.mono (fun k v hk => ?_) hob (fun a w imm1 val hx live listed h hall => ?_) _ _ a _ ?_ ⟨imm, fun _ => undef, fun j => gs.getD (j - ops.length) [], (List.range gs.length).map (ops.length + ·), ?_⟩)
  · exact zEs hk
  · have hin : ∀ p ∈ fin, (listed.getD p.1 false = true ∨ (ops.length ≤ p.1 ∧ p.1 < ops.length + gs.length)) := fun p hp => by
      have := List.all_eq_true.1 hf1 p hp
      simp only [Bool.or_eq_true, Bool.and_eq_true] at this
      rcases this with h1 | h1
      · exact .inr (by simpa using h1)
      · exact .inl (hall _ (by simpa using h1))
    obtain ⟨live', _, h4⟩ := dO (hx := hx) fin live (fun p hp ht => h.live _ (hin p hp) fun i l hi hl hm' => by
      have := List.all_eq_true.1 hf3 p hp
      rw [ht] at this
      simp only [Bool.not_true, Bool.false_or] at this
      have := List.all_eq_true.1 this l (List.mem_of_getElem? hl)
      simp [hm'] at this) (of_decide_eq_true hf2)
    have hR := Ins.use (val := val) (hx := hx) fin (fun p hp => h.fact _ (hin p hp)) (hend imm1 h.le)
    refine hR a w ⟨h.defers, h.size, zBc (tm := fun _ => none) fin (fun p hp d hd => ?_) h.base⟩ ?_
    · rcases hin p hp with h1 | ⟨h1, _⟩
      · exact h.slot _ _ h1 hd
      · unfold dstAt at hd
        rw [List.getElem?_eq_none h1] at hd
        cases hd
    · refine (h.good.perm (h4 hsC).symm).sublist ?_
      rw [eH]
      exact List.sublist_append_left ..
  · unfold unl
    exact Nat.le_trans List.countP_le_length (by simp)
  · have e : ((List.range gs.length).map (ops.length + ·)).flatMap (fun j => gs.getD (j - ops.length) []) = gs.flatten := by
      rw [List.flatMap_map]
      have : ∀ (gs : List (List HA)), (List.range gs.length).flatMap (fun k => gs.getD (ops.length + k - ops.length) []) = gs.flatten := by
        intro gs
        simp only [Nat.add_sub_cancel_left]
        induction gs with
        | nil => rfl
        | cons x gs ih =>
          rw [List.length_cons, List.range_succ_eq_map, List.flatMap_cons, List.flatMap_map, List.flatten_cons]
          simp only [List.getD_cons_zero, List.getD_cons_succ, ih]
      exact this gs
    have hfalse : ∀ j, (Array.replicate ops.toArray.size false).getD j false = false := fun j => by
      rw [Array.getD_eq_getD_getElem?]
      by_cases h : j < ops.length <;> simp [h]
    have none' : ∀ j {α : Prop}, (Array.replicate ops.toArray.size false).getD j false = true → α := fun j _ h => by rw [hfalse] at h; cases h
    refine ⟨Imm.le.refl _, by rw [e]; exact (hhs w g).draw _, f.defers, f.size, f.holds, by simp, fun j hj => none' j hj, fun j hj => ?_, fun j d hj _ => none' j hj, fun j hj _ => ?_⟩
    · rcases hj with hj | ⟨h1, h2⟩
      · exact none' j hj
      · have h3 : gs[j - ops.length]? = some gs[j - ops.length] := List.getElem?_eq_getElem (by omega)
        have := hg.at h3
        rw [show ops.length + (j - ops.length) = j from by omega] at this
        simpa [List.getD, h3] using this
    · rcases hj with hj | ⟨h1, h2⟩
      · exact none' j hj
      · exact List.mem_map.2 ⟨j - ops.length, List.mem_range.2 (by omega), by omega⟩
theorem zN {φ : List Fact} {K : FM → List HA → Prop} (h : K m hs) : Ins ops φ imm [] m hs K := h
theorem zG {φ : List Fact} {j : Nat} {c : Bool} {r : List (Nat × Bool)} {K : FM → List HA → Prop} (h : ∀ v hx, (φ.getD j nofact) imm v hx → Ins ops φ imm r (match dstAt ops j with | some d => (d, v) :: m | none => m) (match c with | true => hx ++ hs | false => hs) K) : Ins ops φ imm ((j, c) :: r) m hs K := h
theorem uI {ops : List Oper} {pc : Nat} {hs' : List HA} (h1 : hs = hs') (h : R P n B ops Q pc imm hs' m) : R P n B ops Q pc imm hs m := by subst h1; exact h
theorem zX {ops' : List Oper} {pc : Nat} {φi : Fact} {d : Option Nat} {imm1 : Imm} {hs0 : List HA} {v : Value} {hx : List HA} (h0 : ops'.drop pc = []) (hle : imm1.le imm) (hh : hs = hx ++ hs0) (hd : ∀ d', d = some d' → look m d' = some v) (hφ : φi imm v hx) :
    R P n B ops' (OutQ n B φi d imm1 hs0) pc imm hs m := yN h0 fun a w f g => ⟨rfl, f.defers, imm, v, hx, hle, hφ, by rw [← hh]; exact g, fun d' e => f.holds _ _ (hd d' e)⟩
theorem zM {d0 : Nat} {v : Value} (h : look m d0 = some v) : ∀ d', some d0 = some d' → look m d' = some v := fun d' e => by cases e; exact h
theorem zGb {v : Value} : ∀ d', (none : Option Nat) = some d' → look m d' = some v := fun d' e => by cases e
end
end Go.LN
