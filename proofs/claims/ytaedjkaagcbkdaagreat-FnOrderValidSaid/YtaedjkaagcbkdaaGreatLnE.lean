/- How data lie in cells; memory read and written. -/
import Derived.Test.YtaedjkaagcbkdaaGreatLnD
import Derived.Laws.NewBlocks
namespace Go.LN
set_option linter.unusedVariables false
set_option linter.unusedSimpArgs false
/-! ### Data in cells -/
class Rp (α : Type) where
  sz : Nat
  pos : 0 < sz
  rep : Imm → List Value → α → Prop
  len : ∀ {i cs a}, rep i cs a → cs.length = sz
  mono : ∀ {i j cs a}, i.le j → rep i cs a → rep j cs a
  one : ∀ {i cs a}, rep i cs a → ∀ v ∈ cs, v.oneCell' = true
def RepL {α : Type} (ρ : List Value → α → Prop) (sz : Nat) : List Value → List α → Prop
  | cs, [] => cs = []
  | cs, a :: l => ∃ c1 c2, cs = c1 ++ c2 ∧ c1.length = sz ∧ ρ c1 a ∧ RepL ρ sz c2 l
theorem RepL.length {α : Type} {ρ : List Value → α → Prop} {sz : Nat} : ∀ {l : List α} {cs : List Value}, RepL ρ sz cs l → cs.length = l.length * sz
  | [], cs, h => by simp only [RepL] at h; simp [h]
  | a :: l, cs, ⟨c1, c2, h1, h2, _, h3⟩ => by
    have := RepL.length h3
    rw [h1, List.length_append, h2, this, List.length_cons, Nat.succ_mul]; omega
theorem RepL.mono {α : Type} {ρ ρ' : List Value → α → Prop} {sz : Nat} (hρ : ∀ c a, ρ c a → ρ' c a) : ∀ {l : List α} {cs : List Value}, RepL ρ sz cs l → RepL ρ' sz cs l
  | [], _, h => h
  | _ :: _, _, ⟨c1, c2, h1, h2, h3, h4⟩ => ⟨c1, c2, h1, h2, hρ _ _ h3, RepL.mono hρ h4⟩
theorem RepL.append {α : Type} {ρ : List Value → α → Prop} {sz : Nat} : ∀ {l l' : List α} {cs cs' : List Value}, RepL ρ sz cs l → RepL ρ sz cs' l' → RepL ρ sz (cs ++ cs') (l ++ l')
  | [], _, cs, _, h, h' => by simp only [RepL] at h; subst h; exact h'
  | _ :: _, _, _, _, ⟨c1, c2, h1, h2, h3, h4⟩, h' => ⟨c1, c2 ++ _, by rw [h1, List.append_assoc], h2, h3, RepL.append h4 h'⟩
theorem RepL.nil {α : Type} {ρ : List Value → α → Prop} {sz : Nat} : RepL ρ sz [] ([] : List α) := rfl
theorem RepL.single {α : Type} {ρ : List Value → α → Prop} {sz : Nat} {c : List Value} {a : α} (hl : c.length = sz) (h : ρ c a) : RepL ρ sz c [a] := ⟨c, [], by simp, hl, h, rfl⟩
theorem RepL.at {α : Type} {ρ : List Value → α → Prop} {sz : Nat} : ∀ {l : List α} {cs : List Value} {i : Nat} {a : α}, RepL ρ sz cs l → l[i]? = some a → ρ ((cs.drop (i * sz)).take sz) a ∧ i * sz + sz ≤ cs.length
  | [], _, _, _, _, e => by simp at e
  | x :: l, cs, 0, a, ⟨c1, c2, h1, h2, h3, h4⟩, e => by
    simp at e; subst e
    subst h1
    refine ⟨by simp [← h2, h3], by simp [h2]⟩
  | x :: l, cs, i + 1, a, ⟨c1, c2, h1, h2, h3, h4⟩, e => by
    have ih := RepL.at (i := i) h4 (by simpa using e)
    subst h1
    have hm : (i + 1) * sz = sz + i * sz := by rw [Nat.succ_mul]; omega
    rw [hm, ← List.drop_drop, ← h2, List.drop_left, h2]
    refine ⟨ih.1, ?_⟩
    rw [List.length_append, h2]; omega
theorem RepL.set {α : Type} {ρ : List Value → α → Prop} {sz : Nat} : ∀ {l : List α} {cs : List Value} {i : Nat} {a : α} {c : List Value}, RepL ρ sz cs l → i < l.length → c.length = sz → ρ c a →
    RepL ρ sz (cs.take (i * sz) ++ c ++ cs.drop (i * sz + sz)) (l.set i a)
  | [], _, _, _, _, _, e, _, _ => by simp at e
  | x :: l, cs, 0, a, c, ⟨c1, c2, h1, h2, h3, h4⟩, _, hc, ha => by
    subst h1; subst h2
    refine ⟨c, c2, ?_, hc, ha, h4⟩
    simp
  | x :: l, cs, i + 1, a, c, ⟨c1, c2, h1, h2, h3, h4⟩, e, hc, ha => by
    have ih := RepL.set (i := i) h4 (by simpa using e) hc ha
    subst h1
    refine ⟨c1, _, ?_, h2, h3, ih⟩
    have hm : (i + 1) * sz = sz + i * sz := by rw [Nat.succ_mul]; omega
    rw [hm, ← h2, List.take_length_add_append, Nat.add_assoc, List.drop_length_add_append]
    simp [h2]
theorem RepL.take {α : Type} {ρ : List Value → α → Prop} {sz : Nat} : ∀ {l : List α} {cs : List Value} (k : Nat), RepL ρ sz cs l → RepL ρ sz (cs.take (k * sz)) (l.take k)
  | [], cs, k, h => by simp only [RepL] at h; subst h; simp [RepL]
  | x :: l, cs, 0, h => by simp [RepL]
  | x :: l, cs, k + 1, ⟨c1, c2, h1, h2, h3, h4⟩ => by
    subst h1
    have hm : (k + 1) * sz = sz + k * sz := by rw [Nat.succ_mul]; omega
    rw [List.take_succ_cons]
    exact ⟨c1, c2.take (k * sz), by rw [hm, ← h2, List.take_length_add_append], h2, h3, RepL.take k h4⟩
theorem RepL.drop {α : Type} {ρ : List Value → α → Prop} {sz : Nat} : ∀ {l : List α} {cs : List Value} (k : Nat), RepL ρ sz cs l → RepL ρ sz (cs.drop (k * sz)) (l.drop k)
  | [], cs, k, h => by simp only [RepL] at h; subst h; simp [RepL]
  | x :: l, cs, 0, h => by simpa using h
  | x :: l, cs, k + 1, ⟨c1, c2, h1, h2, h3, h4⟩ => by
    subst h1
    have hm : (k + 1) * sz = sz + k * sz := by rw [Nat.succ_mul]; omega
    rw [hm, ← h2, List.drop_length_add_append, List.drop_succ_cons, h2]
    exact RepL.drop k h4
theorem RepL.one {α : Type} {ρ : List Value → α → Prop} {sz : Nat} (h1 : ∀ c a, ρ c a → ∀ v ∈ c, v.oneCell' = true) : ∀ {l : List α} {cs : List Value}, RepL ρ sz cs l → ∀ v ∈ cs, v.oneCell' = true
  | [], cs, h, v, hv => by simp only [RepL] at h; subst h; simp at hv
  | a :: l, cs, ⟨c1, c2, e1, _, e3, e4⟩, v, hv => by
    subst e1
    rcases List.mem_append.1 hv with hv | hv
    · exact h1 _ _ e3 v hv
    · exact RepL.one h1 e4 v hv
def SL {α : Type} [Rp α] (imm : Imm) (v : Value) (l : List α) : Prop := ∃ ccs, SliceAt imm v (Rp.sz α) ccs ∧ RepL (Rp.rep imm) (Rp.sz α) ccs l
theorem SL.mono {α : Type} [Rp α] {i j : Imm} (h : i.le j) {v : Value} {l : List α} (hs : SL i v l) : SL j v l := by
  obtain ⟨ccs, h1, h2⟩ := hs
  exact ⟨ccs, h1.mono h, h2.mono fun _ _ => Rp.mono h⟩
abbrev hB (b : Nat) (l : List Value) : HA := .blk b ⟨l⟩
abbrev hO (α : Type) [Rp α] (v : Value) (cs : List Value) : HA := .osl v (Rp.sz α) cs
theorem SL.nil {α : Type} [Rp α] (imm : Imm) : SL imm (.slice none 0 0) ([] : List α) := ⟨[], .inl ⟨rfl, rfl⟩, rfl⟩
structure Str where
  l : List UInt8
  deriving DecidableEq
instance : Rp Int where
  sz := 1
  pos := Nat.one_pos
  rep _ cs n := cs = [.int .i64 n]
  len h := by subst h; rfl
  mono _ h := h
  one h := by subst h; simp [Value.oneCell']
instance : Rp UInt8 where
  sz := 1
  pos := Nat.one_pos
  rep _ cs b := cs = [.int .u8 (b.toNat : Int)]
  len h := by subst h; rfl
  mono _ h := h
  one h := by subst h; simp [Value.oneCell']
instance : Rp Bool where
  sz := 1
  pos := Nat.one_pos
  rep _ cs b := cs = [.bool b]
  len h := by subst h; rfl
  mono _ h := h
  one h := by subst h; simp [Value.oneCell']
instance : Rp Str where
  sz := 1
  pos := Nat.one_pos
  rep _ cs s := cs = [.string ⟨⟨s.l⟩⟩]
  len h := by subst h; rfl
  mono _ h := h
  one h := by subst h; simp [Value.oneCell']
instance {α : Type} [Rp α] : Rp (List α) where
  sz := 1
  pos := Nat.one_pos
  rep i cs l := ∃ v, cs = [v] ∧ SL i v l
  len h := by obtain ⟨v, rfl, _⟩ := h; rfl
  mono hm h := by obtain ⟨v, e, hs⟩ := h; exact ⟨v, e, hs.mono hm⟩
  one h := by
    obtain ⟨v, rfl, ccs, hs, _⟩ := h
    rcases hs with ⟨rfl, _⟩ | ⟨b, off, len, cap, c, rfl, _⟩ <;> simp [Value.oneCell']
def At (imm : Imm) (ad : Addr) (cs : List Value) : Prop := ∃ b off c, ad = ⟨b, off, none⟩ ∧ imm b = some c ∧ off + cs.length ≤ c.size ∧ (c.toList.drop off).take cs.length = cs
theorem At.mono {i j : Imm} (h : i.le j) {ad : Addr} {cs : List Value} (ha : At i ad cs) : At j ad cs := by
  obtain ⟨b, off, c, h1, h2, h3⟩ := ha
  exact ⟨b, off, c, h1, h _ _ h2, h3⟩
theorem nU (b off k : Nat) : (⟨b, off, none⟩ : Addr).add k = ⟨b, off + k, none⟩ := by
  unfold Addr.add; split
  · rename_i h; subst h; rfl
  · rfl
/-! ### Reading and writing a block -/
section
variable {P : Program} {w : World}
theorem zAN {b off : Nat} {c : Array Value} {ty : TypeId} {fr : Nat × Nat} {v : Value} (hb : w.heap[b]? = some (.cells c ty fr)) (hv : c[off]? = some v) : (load ⟨b, off, none⟩).run P w = .ok v w := by
  have : w.cell? ⟨b, off, none⟩ = some v := by simp [World.cell?, hb, hv]
  simp [this]
theorem jI {b off : Nat} {c : Array Value} {ty : TypeId} {fr : Nat × Nat} (hb : w.heap[b]? = some (.cells c ty fr)) : ∀ (n i : Nat) (acc : Array Value), off + i + n ≤ c.size →
    (loadCellsFrom ⟨b, off, none⟩ i n acc).run P w = .ok (acc ++ (c.extract (off + i) (off + i + n))) w
  | 0, i, acc, _ => by simp [loadCellsFrom, Nat.min_le_left]
  | n + 1, i, acc, h => by
    have hv : c[off + i]? = some c[off + i] := by simp
    simp only [loadCellsFrom, Sem.run_bind, nU, zAN hb hv, Result.andThen_ok]
    rw [jI hb n (i + 1) _ (by omega)]
    congr 1
    apply Array.ext'
    simp only [Array.toList_append, Array.toList_push, Array.toList_extract, List.extract_eq_take_drop]
    rw [List.append_assoc]
    congr 1
    rw [show off + i + (n + 1) - (off + i) = n + 1 from by omega, show off + (i + 1) + n - (off + (i + 1)) = n from by omega]
    rw [List.drop_eq_getElem_cons (show off + i < c.toList.length from by simp; omega), List.take_succ_cons]
    simp [Nat.add_assoc]
theorem jY {b off n : Nat} {c : Array Value} {ty : TypeId} {fr : Nat × Nat} (hb : w.heap[b]? = some (.cells c ty fr)) (h : off + n ≤ c.size) :
    (loadCells ⟨b, off, none⟩ n).run P w = .ok (c.extract off (off + n)) w := by
  unfold loadCells
  rw [jI hb n 0 #[] (by omega)]
  simp
def loadV (P : Program) (t : TypeId) (cs : List Value) : Option Value :=
  match isAggT P t, sizeT P t with
  | some true, some s => bif Nat.beq cs.length s then some (.agg ⟨cs⟩) else none
  | some false, some _ => match cs with | [v] => some v | _ => none
  | _, _ => none
theorem nV {b off : Nat} {c : Array Value} {ty : TypeId} {fr : Nat × Nat} {t : TypeId} {cs : List Value} {v : Value} (hb : w.heap[b]? = some (.cells c ty fr)) (hle : off + cs.length ≤ c.size)
    (hcs : (c.toList.drop off).take cs.length = cs) (hv : loadV P t cs = some v) : (loadVar t ⟨b, off, none⟩).run P w = .ok v w := by
  unfold loadV at hv
  unfold loadVar
  split at hv
  · rename_i s h1 h2
    cases hq : Nat.beq cs.length s with
    | false => rw [hq] at hv; cases hv
    | true =>
      rw [hq] at hv; cases hv
      have hs := Nat.eq_of_beq_eq_true hq
      simp only [Sem.run_bind, dM h1, Result.andThen_ok, if_true, qJ h2, ← hs, jY hb hle, Sem.run_pure]
      congr 2
      apply Array.ext'
      simpa [Array.toList_extract, List.extract_eq_take_drop] using hcs
  · rename_i s h1 h2
    split at hv
    · rename_i u
      cases hv
      have : c[off]? = some v := by
        have h0 := congrArg (fun l => l[0]?) hcs
        simpa using h0
      simp only [Sem.run_bind, dM h1, Result.andThen_ok, Bool.false_eq_true, if_false, zAN hb this]
    · cases hv
  · cases hv
def wr (c : Array Value) (o : Nat) : List Value → Array Value
  | [] => c
  | v :: vs => wr (c.setIfInBounds o v) (o + 1) vs
theorem zFk (c : Array Value) : ∀ (vs : List Value) (o : Nat), (wr c o vs).size = c.size := by
  intro vs
  induction vs generalizing c with
  | nil => intro o; rfl
  | cons v vs ih => intro o; simp [wr, ih]
theorem zEH (c : Array Value) : ∀ (vs : List Value) (o : Nat), o + vs.length ≤ c.size → (wr c o vs).toList = c.toList.take o ++ vs ++ c.toList.drop (o + vs.length) := by
  intro vs
  induction vs generalizing c with
  | nil => intro o _; simp [wr]
  | cons v vs ih =>
    intro o h
    simp only [List.length_cons] at h
    rw [wr, ih _ (o + 1) (by simpa using (by omega : o + 1 + vs.length ≤ c.size))]
    simp only [Array.toList_setIfInBounds, List.length_cons]
    rw [List.take_set, List.take_succ_eq_append_getElem (by simpa using (by omega : o < c.size)), List.set_append_right _ _ (by simp; omega)]
    rw [List.drop_set_of_lt (by omega)]
    have : o - (List.take o c.toList).length = 0 := by simp; omega
    rw [this]
    simp [Nat.add_assoc, Nat.add_comm 1]
theorem kS {b off : Nat} {ty : TypeId} : ∀ (vs : List Value) (i : Nat) (c : Array Value) (w : World), w.heap[b]? = some (.cells c ty (0, 0)) → (∀ v ∈ vs, v.oneCell' = true) → off + i + vs.length ≤ c.size →
    (storeCells ⟨b, off, none⟩ vs i).run P w = .ok () (setBlk w b (.cells (wr c (off + i) vs) ty (0, 0)))
  | [], i, c, w, hb, _, _ => by
    have : setBlk w b (.cells c ty (0, 0)) = w := by
      unfold setBlk
      have : w.heap.setIfInBounds b (.cells c ty (0, 0)) = w.heap := by
        apply Array.ext_getElem?
        intro j
        by_cases hj : b = j
        · subst hj
          rw [Array.getElem?_setIfInBounds]
          simp only [if_true]
          split
          · rw [hb]
          · rename_i hlt; rw [Array.getElem?_eq_none (by omega)] at hb; cases hb
        · rw [Array.getElem?_setIfInBounds_ne hj]
      rw [this]
    simp [storeCells, wr, this]
  | v :: vs, i, c, w, hb, h1, hle => by
    simp only [List.length_cons] at hle
    have hc : w.cell? ⟨b, off + i, none⟩ = some c[off + i] := by simp [World.cell?, hb]
    have hf : w.frozen? ⟨b, off + i, none⟩ = false := by simp [World.frozen?, hb]
    have hlt : b < w.heap.size := by
      rcases Nat.lt_or_ge b w.heap.size with h | h
      · exact h
      · rw [Array.getElem?_eq_none h] at hb; cases hb
    have hset : w.setCell ⟨b, off + i, none⟩ v = setBlk w b (.cells (c.setIfInBounds (off + i) v) ty (0, 0)) := by
      unfold World.setCell setBlk
      congr 1
      apply Array.ext_getElem?
      intro j
      rw [Array.getElem?_modify, Array.getElem?_setIfInBounds]
      by_cases hj : b = j
      · subst hj
        have hb' : w.heap[b] = .cells c ty (0, 0) := by rw [Array.getElem?_eq_getElem hlt] at hb; injection hb
        simp [hlt, hb']
      · simp [hj]
    simp only [storeCells, Sem.run_bind, nU]
    rw [run_store P w _ v _ (h1 v (List.mem_cons_self ..))]
    simp only [hc, hf, Bool.false_eq_true, if_false, Result.andThen_ok, hset]
    rw [kS vs (i + 1) (c.setIfInBounds (off + i) v) _ (jH hlt) (fun u hu => h1 u (List.mem_cons_of_mem _ hu)) (by simpa using (by omega : off + (i + 1) + vs.length ≤ c.size))]
    simp [setBlk, wr, Nat.add_assoc]
theorem zAn {b off : Nat} {ty : TypeId} {c : Array Value} {t : TypeId} {v : Value} (hb : w.heap[b]? = some (.cells c ty (0, 0))) (h1 : ∀ u ∈ v.cells.toList, u.oneCell' = true) (hle : off + v.cells.size ≤ c.size)
    (hs : sizeT P t = some v.cells.size) : (storeVar t ⟨b, off, none⟩ v).run P w = .ok () (setBlk w b (.cells (wr c off v.cells.toList) ty (0, 0))) := by
  simp only [storeVar, Sem.run_bind, qJ hs, Result.andThen_ok, ne_eq, not_true_eq_false, if_false]
  have := kS (P := P) (off := off) (ty := ty) v.cells.toList 0 c w hb h1 (by simpa using hle)
  simpa using this
end
end Go.LN
