/- The rules of the judgements for operations that touch memory, and for calls. -/
import Derived.Test.YtaedjkaagcbkdaaGreatLnE
namespace Go.LN
set_option linter.unusedVariables false
set_option linter.unusedSimpArgs false
section
variable {P : Program} {n : Nat} {B : Base} {Q : Exit → Act → World → Prop} {imm : Imm} {hs : List HA} {m : FM} {ops : List Oper} {pc d : Nat}
theorem sW {hs : List HA} {j : Nat} {A : HA} (h : hs[j]? = some A) : A ∈ hs := List.mem_of_getElem? h
/-! ### What a slice's cells are, in the world -/
theorem Good.readI {w : World} (h : Good B imm hs w) {v : Value} {sz : Nat} {cs : List Value} (hs : SliceAt imm v sz cs) :
    (v = .slice none 0 0 ∧ cs = []) ∨ ∃ b off len cap c ty fr, v = .slice (some ⟨b, off, none⟩) len cap ∧ w.heap[b]? = some (.cells c ty fr) ∧ off + len * sz ≤ c.size ∧ cs.length = len * sz ∧ (c.toList.drop off).take (len * sz) = cs := by
  rcases hs with h0 | ⟨b, off, len, cap, c, h1, h2, h3, _, h5⟩
  · exact .inl h0
  · obtain ⟨ty, fr, e⟩ := h.inv b c h2
    exact .inr ⟨b, off, len, cap, c, ty, fr, h1, e, h3, h5⟩
theorem Good.readO {w : World} (h : Good B imm hs w) {v : Value} {sz : Nat} {cs : List Value} (hm : HA.osl v sz cs ∈ hs) :
    (v = .slice none 0 0 ∧ cs = []) ∨ ∃ b off len cap c ty fr, v = .slice (some ⟨b, off, none⟩) len cap ∧ w.heap[b]? = some (.cells c ty fr) ∧ off + len * sz ≤ c.size ∧ cs.length = len * sz ∧ (c.toList.drop off).take (len * sz) = cs := by
  rcases h.own _ hm with h0 | ⟨b, off, len, cap, all, ty, h1, h2, h3, h4, h5, h6, h7, h8, _⟩
  · exact .inl h0
  · refine .inr ⟨b, off, len, cap, all, ty, _, h1, h4, ?_, h7, h8⟩
    have := Nat.mul_le_mul_right sz h6
    omega
/-! ### Addresses and loads in blocks that are never written again -/
def idx {α : Type} (l : List α) (i : Int) : Option α := if 0 ≤ i then l[i.toNat]? else none
theorem sB {α : Type} {l : List α} {i : Int} {y : α} (h : idx l i = some y) : 0 ≤ i ∧ i < l.length ∧ l[i.toNat]? = some y := by
  unfold idx at h
  split at h
  · rename_i h0
    refine ⟨h0, ?_, h⟩
    have := (List.getElem?_eq_some_iff.1 h).1
    omega
  · cases h
def elemT (P : Program) (t : TypeId) : Option Nat := match P.underlying t with | some (.slice e) => sizeT P e | _ => none
theorem eF {w : World} {t sz : Nat} {b off len cap : Nat} {k : IntKind} {i : Int} (ht : elemT P t = some sz) (h0 : 0 ≤ i) (h1 : i < len) :
    (Instr.indexAt t (.slice (some ⟨b, off, none⟩) len cap) (.int k i)).run P w = .ok (.pointer (some ⟨b, off + i.toNat * sz, none⟩)) w := by
  unfold elemT at ht
  split at ht
  · rename_i e hu
    simp [Instr.indexAt, asIntOf, xE hu, h0, h1, qJ ht, nU]
  · cases ht
theorem pJ {a b s : Nat} (hs : 0 < s) (h : a * s = b * s) : a = b := Nat.eq_of_mul_eq_mul_right hs h
theorem SL.form {α : Type} [Rp α] {v : Value} {l : List α} (h : SL imm v l) : ∃ a cap, v = .slice a l.length cap := by
  obtain ⟨ccs, hsl, hr⟩ := h
  have hlen := hr.length
  rcases hsl with ⟨rfl, rfl⟩ | ⟨b, off, len, cap, c, rfl, _, _, _, hcl, _⟩
  · have : l.length * Rp.sz α = 0 * Rp.sz α := by rw [← hlen]; simp
    rw [pJ (Rp.pos (α := α)) this]
    exact ⟨none, 0, rfl⟩
  · have : len * Rp.sz α = l.length * Rp.sz α := by omega
    rw [pJ (Rp.pos (α := α)) this]
    exact ⟨_, cap, rfl⟩
theorem zHT {α : Type} [Rp α] {t : TypeId} {x xi : Operand} {ty : TypeId} {pos : String} {after : Array Edge} {g : Option (Nat × Bool)} {v : Value} {k : IntKind} {i : Int} {l : List α} {y : α}
    (ho : ops[pc]? = some ⟨some d, .indexAddr t x xi, ty, pos, after, g⟩) (hg : guardB ops m g = some true) (hn : Nat.blt d n = true) (hx : val m x = some v) (hi : val m xi = some (.int k i)) (ht : elemT P t = some (Rp.sz α))
    (hs' : SL imm v l) (hy : idx l i = some y) (next : ∀ ad ccs, At imm ad ccs → Rp.rep imm ccs y → R P n B ops Q (pc + 1) imm hs ((d, .pointer (some ad)) :: m)) : R P n B ops Q pc imm hs m := by
  obtain ⟨h0, h1, h2⟩ := sB hy
  obtain ⟨ccs, hsl, hr⟩ := hs'
  refine oT ho hg rfl hn fun a w f gd => ?_
  have hlen := hr.length
  obtain ⟨hrep, hbd⟩ := hr.at h2
  rcases hsl with ⟨rfl, rfl⟩ | ⟨b, off, len, cap, c, rfl, hc, hle, _, hcl, hcs⟩
  · have := Rp.pos (α := α)
    simp at hbd; omega
  · have hll : len = l.length := pJ (Rp.pos (α := α)) (by omega)
    subst hll
    have hat : At imm ⟨b, off + i.toNat * Rp.sz α, none⟩ ((ccs.drop (i.toNat * Rp.sz α)).take (Rp.sz α)) := by
      refine ⟨b, _, c, rfl, hc, ?_, ?_⟩
      · simp only [List.length_take, List.length_drop]; omega
      · rw [← List.drop_drop]
        conv => rhs; rw [← hcs, List.drop_take, List.take_take]
        congr 1
        simp only [List.length_take, List.length_drop]
        omega
    exact ⟨_, w, imm, hs, by simp only [execOp, f.eval hx, f.eval hi, Sem.run_bind, eF ht h0 h1, Result.andThen_ok, Sem.run_pure], gd, next _ _ hat hrep⟩
theorem At.sub {ad : Addr} {cs cs' : List Value} (h : At imm ad cs) (o : Nat) (hol : Nat.ble o cs.length = true) (hc : (cs.drop o).take cs'.length = cs') : At imm (ad.add o) cs' := by
  obtain ⟨b, off, c, rfl, hb, hle, he⟩ := h
  have hol := Nat.le_of_ble_eq_true hol
  refine ⟨b, off + o, c, nU .., hb, ?_, ?_⟩
  · have := congrArg List.length hc
    simp only [List.length_take, List.length_drop] at this
    omega
  · rw [← List.drop_drop]
    conv => rhs; rw [← hc, ← he, List.drop_take, List.take_take]
    congr 1
    have := congrArg List.length hc
    simp only [List.length_take, List.length_drop] at this
    omega
theorem zGC {t : TypeId} {x : Operand} {ty : TypeId} {pos : String} {after : Array Edge} {g : Option (Nat × Bool)} {ad : Addr} {cs cs' : List Value} {v : Value} (o : Nat)
    (ho : ops[pc]? = some ⟨some d, .load t x, ty, pos, after, g⟩) (hg : guardB ops m g = some true) (hn : Nat.blt d n = true) (hat : At imm ad cs) (hx : val m x = some (.pointer (some (ad.add o))))
    (hol : Nat.ble o cs.length = true) (hc : (cs.drop o).take cs'.length = cs') (hv : loadV P t cs' = some v) (next : R P n B ops Q (pc + 1) imm hs ((d, v) :: m)) : R P n B ops Q pc imm hs m := by
  refine oT ho hg rfl hn fun a w f gd => ?_
  obtain ⟨b, off, c, e, hb, hle, he⟩ := hat.sub o hol hc
  obtain ⟨ty', fr, hw⟩ := gd.inv b c hb
  refine ⟨v, w, imm, hs, ?_, gd, next⟩
  simp only [execOp, f.eval hx, Instr.loadAt, Instr.sureAddr, Sem.run_bind, Sem.run_pure, Result.andThen_ok, e, nV hw hle he hv]
/-! ### Own blocks: variables -/
def zeroC (P : Program) (t : TypeId) : Option (Array Value) := ((P.info? t).bind (·.zero)).map Value.cells
theorem jZ {w : World} {t : TypeId} {c : Array Value} (h : zeroC P t = some c) : ∃ z, (zeroValue t).run P w = .ok z w ∧ z.cells = c := by
  unfold zeroC at h
  cases hi : P.info? t with
  | none => rw [hi] at h; cases h
  | some i =>
    rw [hi] at h
    simp only [Option.bind_some] at h
    cases hz : i.zero with
    | none => rw [hz] at h; cases h
    | some z =>
      rw [hz] at h
      simp only [Option.map_some, Option.some.injEq] at h
      exact ⟨z, by simp [zeroValue, typeInfo, hi, hz], h⟩
theorem zHU {t : TypeId} {ty : TypeId} {pos : String} {after : Array Edge} {g : Option (Nat × Bool)} {c : Array Value}
    (ho : ops[pc]? = some ⟨some d, .alloc t, ty, pos, after, g⟩) (hg : guardB ops m g = some true) (hn : Nat.blt d n = true) (hz : zeroC P t = some c)
    (next : ∀ b, B.w0.heap.size ≤ b → R P n B ops Q (pc + 1) imm (.blk b c :: hs) ((d, .pointer (some ⟨b, 0, none⟩)) :: m)) : R P n B ops Q pc imm hs m := by
  refine oT ho hg rfl hn fun a w f gd => ?_
  obtain ⟨z, hz1, hz2⟩ := jZ (w := w) hz
  refine ⟨_, _, imm, _, ?_, gd.alloc_blk c t, next w.heap.size gd.frm.size⟩
  simp [execOp, Instr.alloc, hz1, newVar, newRow, hz2]
theorem zIL {t : TypeId} {x : Operand} {ty : TypeId} {pos : String} {after : Array Edge} {g : Option (Nat × Bool)} {v : Value} {c : Array Value}
    (ho : ops[pc]? = some ⟨some d, .box t x, ty, pos, after, g⟩) (hg : guardB ops m g = some true) (hn : Nat.blt d n = true) (hx : val m x = some v) (hc : v.cells = c)
    (next : ∀ b, B.w0.heap.size ≤ b → R P n B ops Q (pc + 1) imm (.blk b c :: hs) ((d, .pointer (some ⟨b, 0, none⟩)) :: m)) : R P n B ops Q pc imm hs m := by
  refine oT ho hg rfl hn fun a w f gd => ?_
  refine ⟨_, _, imm, _, ?_, gd.alloc_blk c t, next w.heap.size gd.frm.size⟩
  simp [execOp, Instr.box, f.eval hx, newVar, newRow, hc]
theorem zF0 {t : TypeId} {x : Operand} {ty : TypeId} {pos : String} {after : Array Edge} {g : Option (Nat × Bool)} {b o : Nat} {c : Array Value} {cs : List Value} {v : Value} (j : Nat)
    (ho : ops[pc]? = some ⟨some d, .load t x, ty, pos, after, g⟩) (hg : guardB ops m g = some true) (hn : Nat.blt d n = true) (hj : hs[j]? = some (.blk b c)) (hx : val m x = some (.pointer (some ⟨b, o, none⟩)))
    (hol : Nat.ble (o + cs.length) c.size = true) (hc : (c.toList.drop o).take cs.length = cs) (hv : loadV P t cs = some v) (next : R P n B ops Q (pc + 1) imm hs ((d, v) :: m)) : R P n B ops Q pc imm hs m := by
  refine oT ho hg rfl hn fun a w f gd => ?_
  obtain ⟨_, _, ty', hw⟩ := gd.own _ (sW hj)
  refine ⟨v, w, imm, hs, ?_, gd, next⟩
  simp only [execOp, f.eval hx, Instr.loadAt, Instr.sureAddr, Sem.run_bind, Sem.run_pure, Result.andThen_ok, nV hw (Nat.le_of_ble_eq_true hol) hc hv]
theorem oP {α : Type} {A : α} : ∀ {hs : List α} {j : Nat}, hs[j]? = some A → hs.Perm (A :: hs.eraseIdx j)
  | [], j, h => by simp at h
  | x :: hs, 0, h => by simp at h; subst h; simp
  | x :: hs, j + 1, h => by
    have := oP (hs := hs) (j := j) (by simpa using h)
    exact (this.cons x).trans (.swap ..)
theorem zCm {α : Type} {A : α} : ∀ {hs : List α} {j : Nat}, j < hs.length → (hs.set j A).Perm (A :: hs.eraseIdx j)
  | [], j, h => by simp at h
  | x :: hs, 0, h => by simp
  | x :: hs, j + 1, h => by
    have := zCm (A := A) (hs := hs) (j := j) (by simpa using h)
    exact (this.cons x).trans (.swap ..)
theorem Good.write_at {A A' : HA} {w : World} (h : Good B imm hs w) {j : Nat} (hj : hs[j]? = some A) {b : Nat} (hb : b ∈ A.fp) (hfp : A'.fp = A.fp) (o : Obj) (hA : A'.ok B imm (setBlk w b o)) : Good B imm (hs.set j A') (setBlk w b o) :=
  ((h.perm (oP hj).symm).write hb hfp o hA).perm (zCm (List.getElem?_eq_some_iff.1 hj).1)
theorem zFl {l : List Value} (h : l.all Value.oneCell' = true) : ∀ u ∈ l, u.oneCell' = true := List.all_eq_true.1 h
theorem zEj {t : TypeId} {x y : Operand} {ty : TypeId} {pos : String} {after : Array Edge} {g : Option (Nat × Bool)} {b o : Nat} {c c' : Array Value} {v : Value} {hs' : List HA} (j : Nat)
    (ho : ops[pc]? = some ⟨none, .store t x y, ty, pos, after, g⟩) (hg : guardB ops m g = some true) (hj : hs[j]? = some (.blk b c)) (hx : val m x = some (.pointer (some ⟨b, o, none⟩))) (hy : val m y = some v)
    (hsz : sizeT P t = some v.cells.size) (hol : Nat.ble (o + v.cells.size) c.size = true) (hone : v.cells.toList.all Value.oneCell' = true) (hc : wr c o v.cells.toList = c') (hh : hs.set j (.blk b c') = hs')
    (next : R P n B ops Q (pc + 1) imm hs' m) : R P n B ops Q pc imm hs m := by
  refine zFj ho hg rfl fun a w f gd => ?_
  obtain ⟨h1, h2, ty', hw⟩ := gd.own _ (sW hj)
  have hblt : b < w.heap.size := ((gd.own _ (sW hj)).lt (by simp [HA.fp])).1
  have hrun := zAn (P := P) (t := t) (off := o) hw (zFl hone) (Nat.le_of_ble_eq_true hol) hsz
  refine ⟨setBlk w b (.cells (wr c o v.cells.toList) ty' (0, 0)), imm, hs', ?_, ?_, next⟩
  · simp only [execOp, f.eval hx, f.eval hy, Instr.storeAt, Instr.sureAddr, Sem.run_bind, Sem.run_pure, Result.andThen_ok, hrun]
  · rw [← hh]
    exact gd.write_at hj (by simp [HA.fp]) (by simp [HA.fp]) _ ⟨h1, h2, ty', by rw [hc]; exact jH hblt⟩
/-! ### Own slices -/
def elemZ (P : Program) (t : TypeId) (len : Nat) (parts : List (Nat × Value)) : Option (Array Value) :=
  match P.underlying t with
  | some (.slice e) => match sizeT P e, (bif Nat.beq (len * (sizeT P e).getD 0) 0 then some #[] else zeroC P e) with
    | some s, some z => bif Nat.ble (len * s) 65536 then Instr.fill (fun i => some (i * s, s)) ((Array.range (len * s)).map (z[· % z.size]!)) parts else none
    | _, _ => none
  | _ => none
theorem zCn {w : World} {t len : Nat} {parts : List (Nat × Value)} {c : Array Value} (h : elemZ P t len parts = some c) :
    ∃ e, (Instr.buildSlice t len parts.toArray).run P w = .ok (.slice (some ⟨w.heap.size, 0, none⟩) len len) { w with heap := w.heap.push (.cells c e) } := by
  unfold elemZ at h
  split at h
  · rename_i e hu
    split at h
    · rename_i s z hs hz
      cases hb : Nat.ble (len * s) 65536 with
      | false => rw [hb] at h; cases h
      | true =>
        rw [hb] at h
        simp only [cond_true] at h
        have hle : ¬ (len * s > 2 ^ 24) := by have := Nat.le_of_ble_eq_true hb; omega
        rw [hs] at hz
        simp only [Option.getD_some] at hz
        refine ⟨e, ?_⟩
        simp only [Instr.buildSlice, Sem.run_bind, xE hu, Result.andThen_ok, qJ hs, hle, if_false]
        cases hq : Nat.beq (len * s) 0 with
        | true =>
          rw [hq] at hz
          simp only [cond_true, Option.some.injEq] at hz
          subst hz
          rw [if_pos (Nat.eq_of_beq_eq_true hq)]
          simp only [Sem.run_bind, Sem.run_pure, Result.andThen_ok]
          rw [h]
          simp only [newRow, Sem.run_bind, run_newObj, Result.andThen_ok, Sem.run_pure]
        | false =>
          rw [hq] at hz
          simp only [cond_false] at hz
          have hne : len * s ≠ 0 := fun e => by rw [e] at hq; simp at hq
          obtain ⟨zv, hz1, hz2⟩ := jZ (w := w) hz
          rw [if_neg hne]
          simp only [Sem.run_bind, Sem.run_pure, Result.andThen_ok, hz1, hz2]
          rw [h]
          simp only [newRow, Sem.run_bind, run_newObj, Result.andThen_ok, Sem.run_pure]
    · cases h
  · cases h
theorem zEk (L vs : List Value) (off N a : Nat) (h1 : a + vs.length ≤ N) (h2 : off + N ≤ L.length) :
    ((L.take (off + a) ++ vs ++ L.drop (off + a + vs.length)).drop off).take N = ((L.drop off).take N).take a ++ vs ++ ((L.drop off).take N).drop (a + vs.length) := by
  apply List.ext_getElem?
  intro q
  simp only [List.getElem?_take, List.getElem?_drop, List.getElem?_append, List.length_append, List.length_take, List.length_drop]
  grind
theorem zEV {t len : Nat} {parts : Array (Nat × Operand)} {ty : TypeId} {pos : String} {after : Array Edge} {g : Option (Nat × Bool)} {ps : List (Nat × Value)} {cs : List Value} (sz : Nat)
    (ho : ops[pc]? = some ⟨some d, .buildSlice t len parts, ty, pos, after, g⟩) (hg : guardB ops m g = some true) (hn : Nat.blt d n = true) (hps : pvals m parts.toList = some ps) (hc : elemZ P t len ps = some ⟨cs⟩) (hl : Nat.beq cs.length (len * sz) = true)
    (next : ∀ b, B.w0.heap.size ≤ b → R P n B ops Q (pc + 1) imm (.osl (.slice (some ⟨b, 0, none⟩) len len) sz cs :: hs) ((d, .slice (some ⟨b, 0, none⟩) len len) :: m)) (hlM : Nat.ble len 9223372036854775807 = true := by rfl) : R P n B ops Q pc imm hs m := by
  refine oT ho hg rfl hn fun a w f gd => ?_
  obtain ⟨e, hrun⟩ := zCn (w := w) hc
  have hv := f.pevals hps
  have hp : (parts.map fun (i, x) => (i, a.eval x)) = ps.toArray := by apply Array.ext'; rw [Array.toList_map]; exact hv
  have hl := Nat.eq_of_beq_eq_true hl
  refine ⟨_, _, imm, _, ?_, gd.alloc_osl ⟨cs⟩ e sz len len cs (by simp [hl]) (Nat.le_refl _) (by simp [← hl]) hl (Nat.le_of_ble_eq_true hlM), next w.heap.size gd.frm.size⟩
  simp only [execOp, hp, Sem.run_bind, hrun, Result.andThen_ok, Sem.run_pure]
theorem Good.osl_form {w : World} (h : Good B imm hs w) {α : Type} {ρ : List Value → α → Prop} {v : Value} {sz : Nat} {cs : List Value} {l : List α} (hm : HA.osl v sz cs ∈ hs) (hsz : 0 < sz) (hr : RepL ρ sz cs l) : ∃ a cap, v = .slice a l.length cap := by
  have hlen := hr.length
  rcases h.readO hm with ⟨rfl, rfl⟩ | ⟨b, off, len, cap, c, ty, fr, rfl, _, _, hcl, _⟩
  · have : l.length * sz = 0 * sz := by rw [← hlen]; simp
    rw [pJ hsz this]
    exact ⟨none, 0, rfl⟩
  · have : len * sz = l.length * sz := by omega
    rw [pJ hsz this]
    exact ⟨_, cap, rfl⟩
theorem zF1 {α : Type} [Rp α] {v : Value} {cs : List Value} {l : List α} (j : Nat) (hj : hs[j]? = some (.osl v (Rp.sz α) cs)) (hr : RepL (Rp.rep imm) (Rp.sz α) cs l)
    (next : ∀ a cap, v = .slice a l.length cap → R P n B ops Q pc imm hs m) : R P n B ops Q pc imm hs m := fun a w f g => by
  obtain ⟨ad, cap, e⟩ := g.osl_form (sW hj) Rp.pos hr
  exact next ad cap e a w f g
def AtO (v : Value) (sz i : Nat) (ad : Addr) : Prop := ∃ b off len cap, v = .slice (some ⟨b, off, none⟩) len cap ∧ ad = ⟨b, off + i * sz, none⟩ ∧ i < len
theorem zEl {α : Type} [Rp α] {t : TypeId} {x xi : Operand} {ty : TypeId} {pos : String} {after : Array Edge} {g : Option (Nat × Bool)} {v : Value} {k : IntKind} {i : Int} {cs : List Value} {l : List α} {y : α} (j : Nat)
    (ho : ops[pc]? = some ⟨some d, .indexAddr t x xi, ty, pos, after, g⟩) (hg : guardB ops m g = some true) (hn : Nat.blt d n = true) (hj : hs[j]? = some (.osl v (Rp.sz α) cs)) (hx : val m x = some v) (hi : val m xi = some (.int k i)) (ht : elemT P t = some (Rp.sz α))
    (hr : RepL (Rp.rep imm) (Rp.sz α) cs l) (hy : idx l i = some y)
    (next : ∀ ad cc, AtO v (Rp.sz α) i.toNat ad → (cs.drop (i.toNat * Rp.sz α)).take (Rp.sz α) = cc → Rp.rep imm cc y → R P n B ops Q (pc + 1) imm hs ((d, .pointer (some ad)) :: m)) : R P n B ops Q pc imm hs m := by
  obtain ⟨h0, h1, h2⟩ := sB hy
  refine oT ho hg rfl hn fun a w f gd => ?_
  have hlen := hr.length
  obtain ⟨hrep, hbd⟩ := hr.at h2
  rcases gd.readO (sW hj) with ⟨rfl, rfl⟩ | ⟨b, off, len, cap, c, ty', fr, rfl, hw, hle, hcl, hcs⟩
  · have := Rp.pos (α := α)
    simp at hbd; omega
  · have hll : len = l.length := pJ (Rp.pos (α := α)) (by omega)
    subst hll
    exact ⟨_, w, imm, hs, by simp only [execOp, f.eval hx, f.eval hi, Sem.run_bind, eF ht h0 h1, Result.andThen_ok, Sem.run_pure], gd, next _ _ ⟨b, off, _, cap, rfl, rfl, by omega⟩ rfl hrep⟩
theorem zF2 {t : TypeId} {x : Operand} {ty : TypeId} {pos : String} {after : Array Edge} {g : Option (Nat × Bool)} {v0 : Value} {sz i : Nat} {ad : Addr} {cs cc cc' : List Value} {v : Value} (j o : Nat)
    (ho : ops[pc]? = some ⟨some d, .load t x, ty, pos, after, g⟩) (hg : guardB ops m g = some true) (hn : Nat.blt d n = true) (hj : hs[j]? = some (.osl v0 sz cs)) (hat : AtO v0 sz i ad) (hx : val m x = some (.pointer (some (ad.add o))))
    (hcc : (cs.drop (i * sz)).take sz = cc) (hol : Nat.ble (o + cc'.length) sz = true) (hc : (cc.drop o).take cc'.length = cc') (hv : loadV P t cc' = some v) (next : R P n B ops Q (pc + 1) imm hs ((d, v) :: m)) : R P n B ops Q pc imm hs m := by
  refine oT ho hg rfl hn fun a w f gd => ?_
  obtain ⟨b, off, len, cap, rfl, rfl, hi⟩ := hat
  have hol := Nat.le_of_ble_eq_true hol
  have him : i * sz + sz ≤ len * sz := by have := Nat.mul_le_mul_right sz hi; rw [Nat.succ_mul] at this; exact this
  rcases gd.readO (sW hj) with ⟨e, _⟩ | ⟨b', off', len', cap', c, ty', fr, e, hw, hle, hcl, hcs⟩
  · cases e
  · injection e with e1 e2 e3
    injection e1 with e1
    injection e1 with e1 e4 e5
    subst e1; subst e4; subst e2
    refine ⟨v, w, imm, hs, ?_, gd, next⟩
    have hcells : (c.toList.drop (off + i * sz + o)).take cc'.length = cc' := by
      conv => rhs; rw [← hc, ← hcc, ← hcs]
      simp only [List.drop_take, List.take_take, List.drop_drop]
      rw [show off + i * sz + o = off + (i * sz + o) from by omega]
      congr 1
      omega
    simp only [execOp, f.eval hx, Instr.loadAt, Instr.sureAddr, Sem.run_bind, Sem.run_pure, Result.andThen_ok, nU, nV hw (by omega) hcells hv]
theorem zEm {t : TypeId} {x z : Operand} {ty : TypeId} {pos : String} {after : Array Edge} {g : Option (Nat × Bool)} {v0 : Value} {sz i : Nat} {ad : Addr} {cs : List Value} {v : Value} {hs' : List HA} (j o : Nat)
    (ho : ops[pc]? = some ⟨none, .store t x z, ty, pos, after, g⟩) (hg : guardB ops m g = some true) (hj : hs[j]? = some (.osl v0 sz cs)) (hat : AtO v0 sz i ad) (hx : val m x = some (.pointer (some (ad.add o)))) (hz : val m z = some v)
    (hsz : sizeT P t = some v.cells.size) (hol : Nat.ble (o + v.cells.size) sz = true) (hone : v.cells.toList.all Value.oneCell' = true)
    (hh : hs.set j (.osl v0 sz (cs.take (i * sz + o) ++ v.cells.toList ++ cs.drop (i * sz + o + v.cells.size))) = hs') (next : R P n B ops Q (pc + 1) imm hs' m) : R P n B ops Q pc imm hs m := by
  refine zFj ho hg rfl fun a w f gd => ?_
  obtain ⟨b, off, len, cap, rfl, rfl, hi⟩ := hat
  have hol := Nat.le_of_ble_eq_true hol
  have him : i * sz + sz ≤ len * sz := by have := Nat.mul_le_mul_right sz hi; rw [Nat.succ_mul] at this; exact this
  rcases gd.own _ (sW hj) with ⟨e, _⟩ | ⟨b', off', len', cap', all, ty', e, h1, h2, hw, h4, h5, h6, h7, h8⟩
  · cases e
  · injection e with e1 e2 e3
    injection e1 with e1
    injection e1 with e1 e4 e5
    subst e1; subst e4; subst e2; subst e3
    have hcm := Nat.mul_le_mul_right sz h5
    have hblt : b < w.heap.size := ((gd.own _ (sW hj)).lt (by simp [HA.fp])).1
    have hrun := zAn (P := P) (t := t) (off := off + i * sz + o) hw (zFl hone) (by omega) hsz
    refine ⟨setBlk w b (.cells (wr all (off + i * sz + o) v.cells.toList) ty' (0, 0)), imm, hs', ?_, ?_, next⟩
    · simp only [execOp, f.eval hx, f.eval hz, Instr.storeAt, Instr.sureAddr, Sem.run_bind, Sem.run_pure, Result.andThen_ok, nU, hrun]
    · rw [← hh]
      refine gd.write_at hj (by simp [HA.fp]) (by simp [HA.fp]) _ (.inr ⟨b, off, len, cap, _, ty', rfl, h1, h2, jH hblt, by rw [zFk]; exact h4, h5, ?_, ?_, h8⟩)
      · simp only [List.length_append, List.length_take, List.length_drop, Array.length_toList]; omega
      · rw [zEH _ _ _ (by simpa using (by omega : off + i * sz + o + v.cells.size ≤ all.size))]
        rw [← h7]
        have := zEk all.toList v.cells.toList off (len * sz) (i * sz + o) (by simpa using (by omega : i * sz + o + v.cells.size ≤ len * sz)) (by simpa using (by omega : off + len * sz ≤ all.size))
        simpa [Nat.add_assoc] using this
end
end Go.LN
