/- Blocks that are never written again ('Imm'), blocks of one's own ('HA'), and what a call may change ('Good'). -/
import Derived.Test.YtaedjkaagcbkdaaGreatLnB
namespace Go.LN
set_option linter.unusedVariables false
set_option linter.unusedSimpArgs false
abbrev Imm := Nat → Option (Array Value)
def Imm.le (i j : Imm) : Prop := ∀ b c, i b = some c → j b = some c
theorem Imm.le.refl (i : Imm) : i.le i := fun _ _ h => h
theorem Imm.le.trans {i j k : Imm} (h : i.le j) (h' : j.le k) : i.le k := fun b c e => h' b c (h b c e)
def Imm.add (i : Imm) (b : Nat) (c : Array Value) : Imm := fun x => if x = b then some c else i x
theorem Imm.le_add {i : Imm} {b : Nat} (c : Array Value) (h : i b = none) : i.le (i.add b c) := fun x d e => by
  unfold Imm.add; split
  · rename_i hx; subst hx; rw [h] at e; cases e
  · exact e
theorem Imm.add_self (i : Imm) (b : Nat) (c : Array Value) : i.add b c b = some c := by simp [Imm.add]
inductive HA where
  | blk (b : Nat) (c : Array Value)
  | osl (v : Value) (sz : Nat) (cs : List Value)
  | obj (b : Nat) (o : Obj)
def HA.plain : HA → Bool
  | .obj .. => false
  | _ => true
def HA.fp : HA → List Nat
  | .blk b _ => [b]
  | .osl (.slice (some a) _ _) _ _ => [a.block]
  | .osl _ _ _ => []
  | .obj b _ => [b]
structure Base where
  w0 : World
  imm0 : Imm
  io : List Nat
structure Frm (B : Base) (imm : Imm) (w : World) : Prop where
  os : w.os = B.w0.os
  tape : w.tape = B.w0.tape
  output : w.output = B.w0.output
  size : B.w0.heap.size ≤ w.heap.size
  heap : ∀ b, b < B.w0.heap.size → b ∉ B.io → w.heap[b]? = B.w0.heap[b]?
  imm : ∀ b, b < B.w0.heap.size → b ∉ B.io → imm b = B.imm0 b
def perm (B : Base) (b : Nat) : Prop := B.w0.heap.size ≤ b ∨ b ∈ B.io
def HA.ok (B : Base) (imm : Imm) (w : World) : HA → Prop
  | .blk b c => perm B b ∧ imm b = none ∧ ∃ ty, w.heap[b]? = some (.cells c ty (0, 0))
  | .osl v sz cs => (v = .slice none 0 0 ∧ cs = []) ∨
    ∃ b off len cap all ty, v = .slice (some ⟨b, off, none⟩) len cap ∧ perm B b ∧ imm b = none ∧ w.heap[b]? = some (.cells all ty (0, 0)) ∧
      off + cap * sz ≤ all.size ∧ len ≤ cap ∧ cs.length = len * sz ∧ (all.toList.drop off).take (len * sz) = cs ∧ cap ≤ 9223372036854775807
  | .obj b o => perm B b ∧ imm b = none ∧ w.heap[b]? = some o
structure Good (B : Base) (imm : Imm) (hs : List HA) (w : World) : Prop where
  inv : ∀ b c, imm b = some c → ∃ ty fr, w.heap[b]? = some (.cells c ty fr)
  own : ∀ A ∈ hs, A.ok B imm w
  nodup : (hs.flatMap HA.fp).Nodup
  frm : Frm B imm w
section
variable {B : Base} {imm : Imm} {hs : List HA} {w : World}
theorem Good.lt_imm (h : Good B imm hs w) {b : Nat} {c : Array Value} (hb : imm b = some c) : b < w.heap.size := by
  obtain ⟨ty, fr, e⟩ := h.inv b c hb
  rcases Nat.lt_or_ge b w.heap.size with h' | h'
  · exact h'
  · rw [Array.getElem?_eq_none h'] at e; cases e
theorem HA.ok.lt {A : HA} (h : A.ok B imm w) {b : Nat} (hb : b ∈ A.fp) : b < w.heap.size ∧ perm B b ∧ imm b = none := by
  have key : ∀ {b : Nat} {o : Obj}, w.heap[b]? = some o → b < w.heap.size := fun {b o} e => by
    rcases Nat.lt_or_ge b w.heap.size with h' | h'
    · exact h'
    · rw [Array.getElem?_eq_none h'] at e; cases e
  cases A with
  | blk b' c =>
    obtain ⟨h1, h2, ty, h3⟩ := h
    simp only [HA.fp, List.mem_singleton] at hb
    subst hb
    exact ⟨key h3, h1, h2⟩
  | osl v sz cs =>
    rcases h with ⟨rfl, _⟩ | ⟨b', off, len, cap, all, ty, rfl, h1, h2, h3, _⟩
    · simp [HA.fp] at hb
    · simp only [HA.fp, List.mem_singleton] at hb
      subst hb
      exact ⟨key h3, h1, h2⟩
  | obj b' o =>
    obtain ⟨h1, h2, h3⟩ := h
    simp only [HA.fp, List.mem_singleton] at hb
    subst hb
    exact ⟨key h3, h1, h2⟩
theorem HA.ok.same {A : HA} {B' : Base} {imm' : Imm} {w' : World} (h : A.ok B imm w) (hp : ∀ b ∈ A.fp, perm B b → perm B' b) (hi : ∀ b ∈ A.fp, imm' b = imm b) (hw : ∀ b ∈ A.fp, w'.heap[b]? = w.heap[b]?) : A.ok B' imm' w' := by
  cases A with
  | blk b c =>
    obtain ⟨h1, h2, ty, h3⟩ := h
    have hm : b ∈ (HA.blk b c).fp := by simp [HA.fp]
    exact ⟨hp b hm h1, (hi b hm).trans h2, ty, (hw b hm).trans h3⟩
  | osl v sz cs =>
    rcases h with h | ⟨b, off, len, cap, all, ty, rfl, h1, h2, h3, h4⟩
    · exact .inl h
    · have hm : b ∈ (HA.osl (.slice (some ⟨b, off, none⟩) len cap) sz cs).fp := by simp [HA.fp]
      exact .inr ⟨b, off, len, cap, all, ty, rfl, hp b hm h1, (hi b hm).trans h2, (hw b hm).trans h3, h4⟩
  | obj b o =>
    obtain ⟨h1, h2, h3⟩ := h
    have hm : b ∈ (HA.obj b o).fp := by simp [HA.fp]
    exact ⟨hp b hm h1, (hi b hm).trans h2, (hw b hm).trans h3⟩
theorem Good.mem_lt (h : Good B imm hs w) {b : Nat} (hb : b ∈ hs.flatMap HA.fp) : b < w.heap.size ∧ perm B b ∧ imm b = none := by
  obtain ⟨A, hA, hbA⟩ := List.mem_flatMap.1 hb
  exact (h.own A hA).lt hbA
theorem Good.draw (h : Good B imm hs w) (k : Nat) : Good B imm hs { w with drawn := k } :=
  ⟨h.inv, fun A hA => (h.own A hA).same (fun _ _ p => p) (fun _ _ => rfl) (fun _ _ => rfl), h.nodup, ⟨h.frm.os, h.frm.tape, h.frm.output, h.frm.size, h.frm.heap, h.frm.imm⟩⟩
theorem Good.alloc' (h : Good B imm hs w) (o : Obj) :
    Good B imm hs { w with heap := w.heap.push o } ∧ imm w.heap.size = none ∧ perm B w.heap.size ∧ w.heap.size ∉ hs.flatMap HA.fp ∧
      ({ w with heap := w.heap.push o } : World).heap[w.heap.size]? = some o := by
  have old : ∀ b, b < w.heap.size → (w.heap.push o)[b]? = w.heap[b]? := fun b hb => by
    rw [Array.getElem?_push]; simp [Nat.ne_of_lt hb]
  have hn : imm w.heap.size = none := by
    cases e : imm w.heap.size with
    | none => rfl
    | some c' => exact absurd (h.lt_imm e) (Nat.lt_irrefl _)
  refine ⟨⟨fun b c' e => ?_, fun A hA => (h.own A hA).same (fun _ _ p => p) (fun _ _ => rfl) (fun b hb => old b ((h.own A hA).lt hb).1), h.nodup, ⟨h.frm.os, h.frm.tape, h.frm.output, ?_, fun b hb hio => ?_, h.frm.imm⟩⟩, hn, .inl h.frm.size, fun hb => absurd (h.mem_lt hb).1 (Nat.lt_irrefl _), by simp⟩
  · obtain ⟨ty', fr, e'⟩ := h.inv b c' e
    exact ⟨ty', fr, (old b (h.lt_imm e)).trans e'⟩
  · simp; exact Nat.le_succ_of_le h.frm.size
  · exact (old b (Nat.lt_of_lt_of_le hb h.frm.size)).trans (h.frm.heap b hb hio)
theorem Good.alloc (h : Good B imm hs w) (c : Array Value) (ty : TypeId) (fz : Nat × Nat) :
    Good B imm hs { w with heap := w.heap.push (.cells c ty fz) } ∧ imm w.heap.size = none ∧ perm B w.heap.size ∧ w.heap.size ∉ hs.flatMap HA.fp ∧
      ({ w with heap := w.heap.push (.cells c ty fz) } : World).heap[w.heap.size]? = some (.cells c ty fz) := h.alloc' _
theorem Good.alloc_blk (h : Good B imm hs w) (c : Array Value) (ty : TypeId) : Good B imm (.blk w.heap.size c :: hs) { w with heap := w.heap.push (.cells c ty) } := by
  obtain ⟨g, h1, h2, h3, h4⟩ := h.alloc c ty (0, 0)
  refine ⟨g.inv, fun A hA => ?_, ?_, g.frm⟩
  · rcases List.mem_cons.1 hA with rfl | hA
    · exact ⟨h2, h1, ty, h4⟩
    · exact g.own A hA
  · rw [List.flatMap_cons]
    exact List.nodup_cons.2 ⟨h3, h.nodup⟩
theorem Good.alloc_osl (h : Good B imm hs w) (c : Array Value) (ty : TypeId) (sz len cap : Nat) (cs : List Value) (hcap : cap * sz ≤ c.size) (hl : len ≤ cap) (hcs : c.toList.take (len * sz) = cs) (hlen : cs.length = len * sz) (hM : cap ≤ 9223372036854775807) :
    Good B imm (.osl (.slice (some ⟨w.heap.size, 0, none⟩) len cap) sz cs :: hs) { w with heap := w.heap.push (.cells c ty) } := by
  obtain ⟨g, h1, h2, h3, h4⟩ := h.alloc c ty (0, 0)
  refine ⟨g.inv, fun A hA => ?_, ?_, g.frm⟩
  · rcases List.mem_cons.1 hA with rfl | hA
    · exact .inr ⟨_, 0, len, cap, c, ty, rfl, h2, h1, h4, by omega, hl, hlen, by simpa using hcs, hM⟩
    · exact g.own A hA
  · rw [List.flatMap_cons]
    exact List.nodup_cons.2 ⟨h3, h.nodup⟩
theorem Good.nil_osl (h : Good B imm hs w) (sz : Nat) : Good B imm (.osl (.slice none 0 0) sz [] :: hs) w :=
  ⟨h.inv, fun A hA => by
    rcases List.mem_cons.1 hA with rfl | hA
    · exact .inl ⟨rfl, rfl⟩
    · exact h.own A hA, by simpa [HA.fp] using h.nodup, h.frm⟩
theorem Good.sub (h : Good B imm hs w) {hs' : List HA} (hm : ∀ A ∈ hs', A ∈ hs) (hn : (hs'.flatMap HA.fp).Nodup) : Good B imm hs' w :=
  ⟨h.inv, fun A hA => h.own A (hm A hA), hn, h.frm⟩
theorem Good.tail {A : HA} (h : Good B imm (A :: hs) w) : Good B imm hs w :=
  h.sub (fun _ hA => List.mem_cons_of_mem _ hA) (by have := h.nodup; rw [List.flatMap_cons] at this; exact (List.nodup_append.1 this).2.1)
theorem Good.perm (h : Good B imm hs w) {hs' : List HA} (hp : hs'.Perm hs) : Good B imm hs' w :=
  h.sub (fun _ hA => hp.mem_iff.1 hA) ((hp.flatMap_right HA.fp).nodup_iff.2 h.nodup)
def setBlk (w : World) (b : Nat) (o : Obj) : World := { w with heap := w.heap.setIfInBounds b o }
theorem jH {w : World} {b : Nat} {o : Obj} (h : b < w.heap.size) : (setBlk w b o).heap[b]? = some o := by simp [setBlk, h]
theorem zB9 {w : World} {b b' : Nat} {o : Obj} (h : b ≠ b') : (setBlk w b o).heap[b']? = w.heap[b']? := by simp [setBlk, Array.getElem?_setIfInBounds_ne h]
theorem Good.write {A A' : HA} (h : Good B imm (A :: hs) w) {b : Nat} (hb : b ∈ A.fp) (hfp : A'.fp = A.fp) (o : Obj) (hA : A'.ok B imm (setBlk w b o)) : Good B imm (A' :: hs) (setBlk w b o) := by
  have hnd := h.nodup
  rw [List.flatMap_cons] at hnd
  obtain ⟨_, hnd2, hdis⟩ := List.nodup_append.1 hnd
  have hb' := (h.own A (List.mem_cons_self ..)).lt hb
  refine ⟨fun b' c e => ?_, fun A2 hA2 => ?_, ?_, ⟨h.frm.os, h.frm.tape, h.frm.output, ?_, fun b' hlt hio => ?_, h.frm.imm⟩⟩
  · obtain ⟨ty, fr, e'⟩ := h.inv b' c e
    refine ⟨ty, fr, (zB9 ?_).trans e'⟩
    intro hbb; subst hbb; rw [hb'.2.2] at e; cases e
  · rcases List.mem_cons.1 hA2 with rfl | hA2
    · exact hA
    · refine (h.own A2 (List.mem_cons_of_mem _ hA2)).same (fun _ _ p => p) (fun _ _ => rfl) (fun b' hb2 => zB9 ?_)
      intro hbb; subst hbb
      exact hdis _ hb _ (List.mem_flatMap.2 ⟨A2, hA2, hb2⟩) rfl
  · rw [List.flatMap_cons, hfp]; exact hnd
  · simpa [setBlk] using h.frm.size
  · refine (zB9 ?_).trans (h.frm.heap b' hlt hio)
    intro hbb; subst hbb
    rcases hb'.2.1 with hp | hp
    · omega
    · exact hio hp
theorem Good.freeze_blk {b : Nat} {c : Array Value} (h : Good B imm (.blk b c :: hs) w) : Good B (imm.add b c) hs w ∧ imm.le (imm.add b c) := by
  obtain ⟨h1, h2, ty, h3⟩ := h.own _ (List.mem_cons_self ..)
  have hnd := h.nodup
  rw [List.flatMap_cons] at hnd
  refine ⟨⟨fun b' c' e => ?_, fun A hA => ?_, (List.nodup_append.1 hnd).2.1, ⟨h.frm.os, h.frm.tape, h.frm.output, h.frm.size, h.frm.heap, fun b' hlt hio => ?_⟩⟩, Imm.le_add c h2⟩
  · unfold Imm.add at e
    split at e
    · rename_i hb; subst hb; cases e; exact ⟨ty, _, h3⟩
    · exact h.inv b' c' e
  · refine (h.own A (List.mem_cons_of_mem _ hA)).same (fun _ _ p => p) (fun b' hb' => ?_) (fun _ _ => rfl)
    have : b' ≠ b := by
      intro hbb; subst hbb
      exact (List.nodup_append.1 hnd).2.2 b' (by simp [HA.fp]) _ (List.mem_flatMap.2 ⟨A, hA, hb'⟩) rfl
    simp [Imm.add, this]
  · have : b' ≠ b := by
      rintro rfl
      rcases h1 with h1 | h1
      · omega
      · exact hio h1
    simp only [Imm.add, this, if_false]
    exact h.frm.imm b' hlt hio
def SliceAt (imm : Imm) (v : Value) (sz : Nat) (cs : List Value) : Prop :=
  (v = .slice none 0 0 ∧ cs = []) ∨ ∃ b off len cap c, v = .slice (some ⟨b, off, none⟩) len cap ∧ imm b = some c ∧ off + len * sz ≤ c.size ∧ len ≤ cap ∧ cs.length = len * sz ∧ (c.toList.drop off).take (len * sz) = cs
theorem SliceAt.mono {i j : Imm} (h : i.le j) {v : Value} {sz : Nat} {cs : List Value} (hs : SliceAt i v sz cs) : SliceAt j v sz cs := by
  rcases hs with hs | ⟨b, off, len, cap, c, h1, h2, h3⟩
  · exact .inl hs
  · exact .inr ⟨b, off, len, cap, c, h1, h _ _ h2, h3⟩
def Lent (imm : Imm) : HA → Prop
  | .blk b c => imm b = some c
  | .osl v sz cs => SliceAt imm v sz cs
  | .obj .. => False
theorem Lent.mono {i j : Imm} (h : i.le j) : ∀ {A : HA}, Lent i A → Lent j A
  | .blk _ _, hs => h _ _ hs
  | .osl _ _ _, hs => SliceAt.mono h hs
  | .obj .., hs => hs
theorem HA.ok.cells {A : HA} (h : A.ok B imm w) (hA : A.plain = true) : (A.fp = [] ∧ ∀ i, Lent i A) ∨ ∃ b c ty, A.fp = [b] ∧ w.heap[b]? = some (.cells c ty (0, 0)) ∧ ∀ i : Imm, i b = some c → Lent i A := by
  cases A with
  | blk b c => obtain ⟨h1, h2, ty, h3⟩ := h; exact .inr ⟨b, c, ty, rfl, h3, fun i hi => hi⟩
  | osl v sz cs =>
    rcases h with ⟨rfl, rfl⟩ | ⟨b, off, len, cap, all, ty, rfl, h1, h2, h3, h4, h5, h6, h7, _⟩
    · exact .inl ⟨rfl, fun _ => .inl ⟨rfl, rfl⟩⟩
    · refine .inr ⟨b, all, ty, rfl, h3, fun i hi => .inr ⟨b, off, len, cap, all, rfl, hi, ?_, h5, h6, h7⟩⟩
      have := Nat.mul_le_mul_right sz h5
      omega
  | obj b o => cases hA
theorem Good.freeze {A : HA} (h : Good B imm (A :: hs) w) (hpl : A.plain = true) : ∃ imm', imm.le imm' ∧ Lent imm' A ∧ Good B imm' hs w := by
  have hA := h.own _ (List.mem_cons_self ..)
  rcases hA.cells hpl with ⟨_, hL⟩ | ⟨b, c, ty, hfp, hc, hL⟩
  · exact ⟨imm, Imm.le.refl _, hL _, h.tail⟩
  · have hb : b ∈ A.fp := by simp [hfp]
    obtain ⟨h1, h2, h3⟩ := hA.lt hb
    have hg : Good B imm (.blk b c :: hs) w := ⟨h.inv, fun A' hA' => by
      rcases List.mem_cons.1 hA' with rfl | hA'
      · exact ⟨h2, h3, ty, hc⟩
      · exact h.own _ (List.mem_cons_of_mem _ hA'), by have := h.nodup; rw [List.flatMap_cons, hfp] at this; exact this, h.frm⟩
    obtain ⟨g, le⟩ := hg.freeze_blk
    exact ⟨_, le, hL _ (Imm.add_self ..), g⟩
theorem Good.enter (h : Good B imm hs w) {hs1 : List HA} (hm : ∀ A ∈ hs1, A ∈ hs) (hn : (hs1.flatMap HA.fp).Nodup) : Good ⟨w, imm, hs1.flatMap HA.fp⟩ imm hs1 w :=
  ⟨h.inv, fun A hA => (h.own A (hm A hA)).same (fun _ hb _ => .inr (List.mem_flatMap.2 ⟨A, hA, hb⟩)) (fun _ _ => rfl) (fun _ _ => rfl), hn, ⟨rfl, rfl, rfl, Nat.le_refl _, fun _ _ _ => rfl, fun _ _ _ => rfl⟩⟩
theorem Good.nio (h : Good B imm hs w) {b : Nat} {c : Array Value} (e : imm b = some c) : b ∉ hs.flatMap HA.fp := fun hb => by
  rw [(h.mem_lt hb).2.2] at e; cases e
theorem Good.leave {hs1 rest hs' : List HA} {imm' : Imm} {w' : World} (h : Good B imm (hs1 ++ rest) w) (h' : Good ⟨w, imm, hs1.flatMap HA.fp⟩ imm' hs' w') :
    Good B imm' (hs' ++ rest) w' ∧ imm.le imm' ∧ (∀ b ∈ hs'.flatMap HA.fp, b ∈ hs1.flatMap HA.fp ∨ B.w0.heap.size ≤ b) := by
  have hnd := h.nodup
  rw [List.flatMap_append] at hnd
  obtain ⟨hnd1, hnd2, hdis⟩ := List.nodup_append.1 hnd
  have hle : imm.le imm' := fun b c e => (h'.frm.imm b (h.lt_imm e) (fun hb => h.nio e (by rw [List.flatMap_append]; exact List.mem_append_left _ hb))).trans e
  have hrest : ∀ A ∈ rest, ∀ b ∈ A.fp, b < w.heap.size ∧ b ∉ hs1.flatMap HA.fp := fun A hA b hb =>
    ⟨((h.own A (List.mem_append_right _ hA)).lt hb).1, fun hb1 => hdis b hb1 b (List.mem_flatMap.2 ⟨A, hA, hb⟩) rfl⟩
  have hnew : ∀ b ∈ hs'.flatMap HA.fp, w.heap.size ≤ b ∨ b ∈ hs1.flatMap HA.fp := fun b hb => (h'.mem_lt hb).2.1
  refine ⟨⟨h'.inv, fun A hA => ?_, ?_, ?_⟩, hle, fun b hb => (hnew b hb).symm.imp id (Nat.le_trans h.frm.size)⟩
  · rcases List.mem_append.1 hA with hA | hA
    · refine (h'.own A hA).same (fun b hb hp => ?_) (fun _ _ => rfl) (fun _ _ => rfl)
      rcases hp with hp | hp
      · exact .inl (Nat.le_trans h.frm.size hp)
      · obtain ⟨A1, hA1, hb1⟩ := List.mem_flatMap.1 hp
        exact ((h.own A1 (List.mem_append_left _ hA1)).lt hb1).2.1
    · refine (h.own A (List.mem_append_right _ hA)).same (fun _ _ p => p) (fun b hb => ?_) (fun b hb => ?_)
      · exact h'.frm.imm b (hrest A hA b hb).1 (hrest A hA b hb).2
      · exact h'.frm.heap b (hrest A hA b hb).1 (hrest A hA b hb).2
  · rw [List.flatMap_append]
    refine List.nodup_append.2 ⟨h'.nodup, hnd2, fun b hb b' hb' e => ?_⟩
    subst e
    obtain ⟨A, hA, hbA⟩ := List.mem_flatMap.1 hb'
    have := hrest A hA b hbA
    rcases hnew b hb with h1 | h1
    · omega
    · exact this.2 h1
  · refine ⟨h'.frm.os.trans h.frm.os, h'.frm.tape.trans h.frm.tape, h'.frm.output.trans h.frm.output, Nat.le_trans h.frm.size h'.frm.size, fun b hb hio => ?_, fun b hb hio => ?_⟩
    · refine (h'.frm.heap b (Nat.lt_of_lt_of_le hb h.frm.size) (fun hb1 => ?_)).trans (h.frm.heap b hb hio)
      obtain ⟨A1, hA1, hb2⟩ := List.mem_flatMap.1 hb1
      rcases ((h.own A1 (List.mem_append_left _ hA1)).lt hb2).2.1 with hp | hp
      · omega
      · exact hio hp
    · refine (h'.frm.imm b (Nat.lt_of_lt_of_le hb h.frm.size) (fun hb1 => ?_)).trans (h.frm.imm b hb hio)
      obtain ⟨A1, hA1, hb2⟩ := List.mem_flatMap.1 hb1
      rcases ((h.own A1 (List.mem_append_left _ hA1)).lt hb2).2.1 with hp | hp
      · omega
      · exact hio hp
end
end Go.LN
