/- Append, slices of slices, strings; what is handed over, lent, frozen; calls; the end of a function. -/
import Derived.Test.YtaedjkaagcbkdaaGreatLnF
import Derived.Laws.AppendOwn
namespace Go.LN
set_option linter.unusedVariables false
set_option linter.unusedSimpArgs false
section
variable {P : Program} {n : Nat} {B : Base} {Q : Exit → Act → World → Prop} {imm : Imm} {hs : List HA} {m : FM} {ops : List Oper} {pc d : Nat}
def elemOfT (P : Program) (t : TypeId) : Option TypeId := match P.underlying t with | some (.slice e) => some e | _ => none
def bytesT (P : Program) (t : TypeId) : Option Nat := (P.info? t).map (·.bytes)
def Src (imm : Imm) (hs : List HA) (v : Value) (sz : Nat) (cs : List Value) : Prop := SliceAt imm v sz cs ∨ ∃ j : Nat, hs[j]? = some (.osl v sz cs)
theorem Src.read {w : World} (h : Good B imm hs w) {v : Value} {sz : Nat} {cs : List Value} (s : Src imm hs v sz cs) :
    (v = .slice none 0 0 ∧ cs = []) ∨ ∃ b off len cap c ty fr, v = .slice (some ⟨b, off, none⟩) len cap ∧ w.heap[b]? = some (.cells c ty fr) ∧ off + len * sz ≤ c.size ∧ cs.length = len * sz ∧ (c.toList.drop off).take (len * sz) = cs := by
  rcases s with s | ⟨j, hj⟩
  · exact h.readI s
  · exact h.readO (sW hj)
theorem Src.first {w : World} (h : Good B imm hs w) {v : Value} {sz k : Nat} {cs : List Value} (s : Src imm hs v sz cs) (hk : cs.length = k * sz) (hsz : 0 < sz) :
    (Builtin.lenOf v).run P w = .ok k w ∧ ∀ w' : World, w'.heap = w.heap → (Builtin.firstCells sz k v).run P w' = .ok ⟨cs⟩ w' := by
  rcases s.read h with ⟨rfl, rfl⟩ | ⟨b, off, len, cap, c, ty, fr, rfl, hw, hle, hcl, hcs⟩
  · have : k = 0 := by
      have : k * sz = 0 := by simpa using hk.symm
      rcases Nat.mul_eq_zero.1 this with h | h
      · exact h
      · omega
    subst this
    exact ⟨rfl, fun w' _ => rfl⟩
  · have : k = len := pJ hsz (by omega)
    subst this
    refine ⟨rfl, fun w' hw' => ?_⟩
    simp only [Builtin.firstCells]
    rw [jY (by rw [hw']; exact hw) hle]
    congr 1
    apply Array.ext'
    simpa [Array.toList_extract, List.extract_eq_take_drop] using hcs
theorem zCo (z : Array Value) (k : Nat) : (Builtin.zeroCells z k).size = k * z.size := by simp [Builtin.zeroCells]
theorem zF3 {w : World} (h : Good B imm hs w) {t t2 e : TypeId} {ty : TypeId} {sz bytes : Nat} {zc : Array Value} {v vx : Value} {cs ccs : List Value} {k1 k2 : Nat} (j : Nat)
    (ht : P.underlying t = some (.slice e)) (ht2 : P.underlying t2 = some (.slice e)) (hsz : sizeT P e = some sz) (hby : bytesT P e = some bytes) (hz : zeroC P e = some zc) (hzs : zc.size = sz) (hs0 : 0 < sz) (hb0 : 0 < bytes)
    (hj : hs[j]? = some (.osl v sz cs)) (hk1 : cs.length = k1 * sz) (s : Src imm hs vx sz ccs) (hk2 : ccs.length = k2 * sz) (h1 : ∀ u ∈ ccs, u.oneCell' = true) (hb : (k1 + k2) * bytes ≤ 140737488355328) :
    ∃ v' w', (Builtin.append_ #[t, t2] ty #[v, vx]).run P w = .ok v' w' ∧ Good B imm (hs.set j (.osl v' sz (cs ++ ccs))) w' ∧ (∀ b ∈ (HA.osl v' sz (cs ++ ccs)).fp, b ∈ (HA.osl v sz cs).fp ∨ B.w0.heap.size ≤ b) := by
  obtain ⟨hlen, hfirst⟩ := Src.first (P := P) h s hk2 hs0
  obtain ⟨hlen1, hfirst1⟩ := Src.first (P := P) h (.inr ⟨j, hj⟩) hk1 hs0
  have hjlt := (List.getElem?_eq_some_iff.1 hj).1
  cases hie : P.info? e with
  | none => simp [sizeT, hie] at hsz
  | some ie =>
  have hsz' : ie.size = sz := by simpa [sizeT, hie] using hsz
  have hby' : ie.bytes = bytes := by simpa [bytesT, hie] using hby
  have h63 : ¬ (((k1 + k2 : Nat) : Int) > IntKind.i64.max) := by
    have : k1 + k2 ≤ (k1 + k2) * bytes := Nat.le_mul_of_pos_right _ hb0
    have hm : IntKind.i64.max = 9223372036854775807 := by decide
    rw [hm]
    omega
  -- a new row
  have grow : ∀ (base : Option Addr) (cap : Nat), v = .slice base k1 cap → cap < k1 + k2 →
      ∃ v' w', (Builtin.append_ #[t, t2] ty #[v, vx]).run P w = .ok v' w' ∧ Good B imm (hs.set j (.osl v' sz (cs ++ ccs))) w' ∧ (∀ b ∈ (HA.osl v' sz (cs ++ ccs)).fp, b ∈ (HA.osl v sz cs).fp ∨ B.w0.heap.size ≤ b) := by
    intro base cap hv hlt
    have hnx := growslice_fits (bytes := ie.bytes) hlt (by rw [hby']; exact hb)
    obtain ⟨zv, hz1, hz2⟩ := jZ (w := { w with drawn := w.drawn + 1 }) hz
    let q : Question := .appendCap (k1 + k2) cap e
    let nc := q.cut (w.tape w.drawn q)
    have hnc : k1 + k2 ≤ nc := Nat.le_add_right _ _
    let row : Array Value := (⟨cs⟩ : Array Value) ++ ⟨ccs⟩ ++ Builtin.zeroCells zc (nc - (k1 + k2))
    have hrow : row.size = nc * sz := by
      simp only [row, Array.size_append, zCo, hzs]
      show cs.length + ccs.length + _ = _
      rw [hk1, hk2, ← Nat.add_mul, ← Nat.add_mul]; congr 1; omega
    have hg := (h.draw (w.drawn + 1)).alloc_osl row e sz (k1 + k2) nc (cs ++ ccs) (by rw [hrow]; exact Nat.le_refl _) hnc
      (by simp only [row, Array.toList_append]
          rw [List.take_append_of_le_length (by simp [hk1, hk2, Nat.add_mul])]
          rw [List.take_of_length_le (by simp [hk1, hk2, Nat.add_mul])])
      (by rw [List.length_append, hk1, hk2, Nat.add_mul])
      (by
        have hm : IntKind.i64.max = 9223372036854775807 := by decide
        rw [hm] at h63
        have hq0 : nc = (k1 + k2) + (w.tape w.drawn q) % (2 ^ 63 - (k1 + k2)) := rfl
        have := Nat.mod_lt (w.tape w.drawn q) (show 0 < 2 ^ 63 - (k1 + k2) by omega)
        omega)
    refine ⟨.slice (some ⟨w.heap.size, 0, none⟩) (k1 + k2) nc, { w with drawn := w.drawn + 1, heap := w.heap.push (.cells row e) }, ?_, ?_, ?_⟩
    · subst hv
      have e1 := hfirst1 { w with drawn := w.drawn + 1 } rfl
      have e2 := hfirst { w with drawn := w.drawn + 1 } rfl
      have hneed : ¬ (k1 + k2 ≤ cap) := by omega
      have hq : (Question.appendCap (k1 + k2) cap e).forced = false := rfl
      simp only [Builtin.append_, Sem.run_bind, xE ht, xE ht2, Result.andThen_ok, qJ hsz, hlen, Bool.false_eq_true, if_false, Sem.run_pure,
        List.getElem?_toArray, List.getElem?_cons_zero, List.getElem?_cons_succ, hneed, h63, false_and, typeInfo, run_program, hie]
      have hnx' : ¬ (Builtin.nextslicecap (k1 + k2) cap * ie.bytes > 2 ^ 48) := by omega
      simp only [hnx', if_false, Sem.run_bind, run_choose, hq, Bool.false_eq_true, Result.andThen_ok, run_askRoom, run_program, hie, e1, e2, Sem.run_pure, Bool.not_false, if_true, hz1, hz2, newRow, run_newObj]
      rfl
    · have hp : (hs.set j (.osl (.slice (some ⟨w.heap.size, 0, none⟩) (k1 + k2) nc) sz (cs ++ ccs))).Perm (_ :: hs.eraseIdx j) := zCm hjlt
      have hp2 := oP hj
      refine Good.perm (Good.sub hg (hs' := _ :: hs.eraseIdx j) (fun A hA => ?_) ?_) hp
      · rcases List.mem_cons.1 hA with rfl | hA
        · exact List.mem_cons_self ..
        · exact List.mem_cons_of_mem _ (hp2.mem_iff.2 (List.mem_cons_of_mem _ hA))
      · have hnd := hg.nodup
        rw [List.flatMap_cons] at hnd ⊢
        obtain ⟨n1, n2, n3⟩ := List.nodup_append.1 hnd
        have n4 := (hp2.flatMap_right HA.fp).nodup_iff.1 n2
        rw [List.flatMap_cons] at n4
        refine List.nodup_append.2 ⟨n1, (List.nodup_append.1 n4).2.1, fun x hx y hy => n3 x hx y ?_⟩
        exact (hp2.flatMap_right HA.fp).mem_iff.2 (by rw [List.flatMap_cons]; exact List.mem_append_right _ hy)
    · intro b hb
      simp only [HA.fp, List.mem_singleton] at hb
      subst hb
      exact .inr h.frm.size
  rcases h.own _ (sW hj) with ⟨rfl, rfl⟩ | ⟨b, off, len, cap, all, ty', rfl, hp1, hp2, hw, hcap, hlc, hcl, hcs, hcM⟩
  · have hk0 : k1 = 0 := by
      have : k1 * sz = 0 := by simpa using hk1.symm
      rcases Nat.mul_eq_zero.1 this with h | h
      · exact h
      · omega
    subst hk0
    rcases Nat.eq_zero_or_pos k2 with h0 | h0
    · subst h0
      have : ccs = [] := List.eq_nil_of_length_eq_zero (by simpa using hk2)
      subst this
      refine ⟨.slice none 0 0, w, ?_, ?_, by simp [HA.fp]⟩
      · simp only [Builtin.append_, Sem.run_bind, xE ht, xE ht2, Result.andThen_ok, qJ hsz, hlen, Bool.false_eq_true, if_false, Sem.run_pure,
          List.getElem?_toArray, List.getElem?_cons_zero, List.getElem?_cons_succ, Nat.add_zero, Nat.le_refl, if_true, Bool.not_false, hfirst w rfl]
      · have : hs.set j (.osl (.slice none 0 0) sz ([] ++ [])) = hs := by
          obtain ⟨h1, h2⟩ := List.getElem?_eq_some_iff.1 hj
          rw [List.append_nil, ← h2, List.set_getElem_self]
        rw [this]; exact h
    · exact grow none 0 rfl (by omega)
  · have hll : k1 = len := pJ hs0 (by omega)
    subst hll
    by_cases hroom : k1 + k2 ≤ cap
    · have hfit : off + k1 * sz + ccs.length ≤ all.size := by
        rw [hk2]
        have := Nat.mul_le_mul_right sz hroom
        rw [Nat.add_mul] at this
        omega
      have hst := kS (P := P) (off := off + k1 * sz) ccs 0 all w hw h1 (by omega)
      have hblt : b < w.heap.size := ((h.own _ (sW hj)).lt (by simp [HA.fp])).1
      refine ⟨.slice (some ⟨b, off, none⟩) (k1 + k2) cap, setBlk w b (.cells (wr all (off + k1 * sz) ccs) ty' (0, 0)), ?_, ?_, fun b' hb' => .inl (by simpa [HA.fp] using hb')⟩
      · simp only [Builtin.append_, Sem.run_bind, xE ht, xE ht2, Result.andThen_ok, qJ hsz, hlen, Bool.false_eq_true, if_false, Sem.run_pure,
          List.getElem?_toArray, List.getElem?_cons_zero, List.getElem?_cons_succ, hroom, if_true, Bool.not_false, hfirst w rfl, nU]
        simp only [Nat.add_zero] at hst
        rw [hst]
        rfl
      · refine h.write_at hj (by simp [HA.fp]) (by simp [HA.fp]) _ (.inr ⟨b, off, k1 + k2, cap, _, ty', rfl, hp1, hp2, jH hblt, by rw [zFk]; exact hcap, hroom, by rw [List.length_append, hk1, hk2, Nat.add_mul], ?_, hcM⟩)
        rw [zEH _ _ _ hfit, ← hcs]
        have hl1 : k1 * sz ≤ (List.drop off all.toList).length := by simp; omega
        rw [Nat.add_mul, ← hk2]
        apply List.ext_getElem?
        intro q
        simp only [List.getElem?_take, List.getElem?_drop, List.getElem?_append, List.length_append, List.length_take, List.length_drop, Array.length_toList]
        grind
    · exact grow _ cap rfl (by omega)
def appT (P : Program) (t : TypeId) : Option (TypeId × Nat × Nat × Nat) :=
  match elemOfT P t with
  | some e => match sizeT P e, bytesT P e, zeroC P e with
    | some s, some b, some z => bif Nat.beq z.size s && Nat.blt 0 b then some (e, s, b, z.size) else none
    | _, _, _ => none
  | none => none
theorem zG5 {α : Type} [Rp α] {t t2 : TypeId} {x1 x2 : Operand} {ty : TypeId} {pos : String} {after : Array Edge} {g : Option (Nat × Bool)} {v vx : Value} {cs ccs : List Value} {l l2 : List α} {e by' zs : Nat} (j : Nat)
    (ho : ops[pc]? = some ⟨some d, .call { callee := .builtin .append, args := #[x1, x2], argTypes := #[t, t2] }, ty, pos, after, g⟩) (hg : guardB ops m g = some true) (hn : Nat.blt d n = true)
    (hx : val m x1 = some v) (hy : val m x2 = some vx) (ht : appT P t = some (e, Rp.sz α, by', zs)) (ht2 : appT P t2 = some (e, Rp.sz α, by', zs)) (hj : hs[j]? = some (.osl v (Rp.sz α) cs)) (hr : RepL (Rp.rep imm) (Rp.sz α) cs l)
    (s : Src imm hs vx (Rp.sz α) ccs) (hr2 : RepL (Rp.rep imm) (Rp.sz α) ccs l2) (hb : (l.length + l2.length) * by' ≤ 140737488355328)
    (next : ∀ v' cs' hs', (∀ b ∈ (HA.osl v' (Rp.sz α) cs').fp, b ∈ (HA.osl v (Rp.sz α) cs).fp ∨ B.w0.heap.size ≤ b) → RepL (Rp.rep imm) (Rp.sz α) cs' (l ++ l2) → hs.set j (.osl v' (Rp.sz α) cs') = hs' → R P n B ops Q (pc + 1) imm hs' ((d, v') :: m)) : R P n B ops Q pc imm hs m := by
  refine oT ho hg rfl hn fun a w f gd => ?_
  have open1 : ∀ {t : TypeId}, appT P t = some (e, Rp.sz α, by', zs) → P.underlying t = some (.slice e) ∧ sizeT P e = some (Rp.sz α) ∧ bytesT P e = some by' ∧ (∃ z, zeroC P e = some z ∧ z.size = Rp.sz α) ∧ 0 < by' := fun {t} h => by
    unfold appT at h
    split at h
    · rename_i e' he
      split at h
      · rename_i s b z h1 h2 h3
        cases hq : (Nat.beq z.size s && Nat.blt 0 b) with
        | false => rw [hq] at h; cases h
        | true =>
          rw [hq] at h
          simp only [cond_true, Option.some.injEq, Prod.mk.injEq] at h
          obtain ⟨rfl, rfl, rfl, rfl⟩ := h
          rw [Bool.and_eq_true] at hq
          unfold elemOfT at he
          split at he
          · rename_i e2 hu; cases he
            exact ⟨hu, h1, h2, ⟨z, h3, Nat.eq_of_beq_eq_true hq.1⟩, by simpa using hq.2⟩
          · cases he
      · cases h
    · cases h
  obtain ⟨h1, h2, h3, ⟨z, h4, h5⟩, h6⟩ := open1 ht
  obtain ⟨h1', _⟩ := open1 ht2
  obtain ⟨v', w', hrun, hgood, hnew⟩ := zF3 (P := P) (ty := ty) gd j h1 h1' h2 h3 h4 h5 Rp.pos h6 hj hr.length s hr2.length (RepL.one (fun _ _ => Rp.one) hr2) hb
  refine ⟨v', w', imm, _, ?_, hgood, next v' _ _ hnew (hr.append hr2) rfl⟩
  simp only [execOp, resolve, List.map_toArray, List.map_cons, List.map_nil, f.eval hx, f.eval hy, Sem.run_bind, Sem.run_pure, Result.andThen_ok, invoke, builtin, hrun]
/-! ### Parts of slices -/
def slc {α : Type} (l : List α) (lo hi : Int) : Option (List α) := if 0 ≤ lo ∧ lo ≤ hi ∧ hi ≤ l.length then some ((l.take hi.toNat).drop lo.toNat) else none
def bnd (m : FM) (dflt : Int) : Option Operand → Option Int
  | none => some dflt
  | some x => match val m x with | some (.int _ k) => some k | _ => none
theorem zCR {w : World} {a : Act} {len cap : Nat} {lo hi : Option Operand} {i k : Int} (f : Fr n a m) (hlo : bnd m 0 lo = some i) (hhi : bnd m len hi = some k) (h0 : 0 ≤ i) (h1 : i ≤ k) (h2 : k ≤ len) (h3 : len ≤ cap) :
    (Instr.sliceBounds true len cap (lo.map a.eval) (hi.map a.eval) none).run P w = .ok (i.toNat, k.toNat, cap) w := by
  have hh : ∀ {x : Operand} {j : Int} {y : Nat} {c : BoundsCode}, (∃ kd, val m x = some (.int kd j)) → 0 ≤ j → j ≤ y → (Instr.sliceBound (a.eval x) y c).run P w = .ok j.toNat w := fun ⟨kd, hx⟩ h4 h5 => by
    simp [Instr.sliceBound, f.eval hx, asIntOf, h4, h5]
  have ob : ∀ {x : Operand} {dflt j : Int}, bnd m dflt (some x) = some j → ∃ kd, val m x = some (.int kd j) := fun {x dflt j} h => by
    simp only [bnd] at h
    split at h
    · rename_i kd k' hx; cases h; exact ⟨kd, hx⟩
    · cases h
  cases hi with
  | none =>
    simp only [bnd, Option.some.injEq] at hhi
    subst hhi
    cases lo with
    | none =>
      simp only [bnd, Option.some.injEq] at hlo
      subst hlo
      simp [Instr.sliceBounds]
    | some x => simp [Instr.sliceBounds, hh (ob hlo) h0 h1]
  | some z =>
    cases lo with
    | none =>
      simp only [bnd, Option.some.injEq] at hlo
      subst hlo
      have e1 := hh (y := cap) (c := .sliceAcap) (ob hhi) (by omega) (by omega)
      simp [Instr.sliceBounds, e1]
    | some x =>
      have e1 := hh (y := cap) (c := .sliceAcap) (ob hhi) (by omega) (by omega)
      have e2 := hh (y := k.toNat) (c := .sliceB) (ob hlo) h0 (by omega)
      simp [Instr.sliceBounds, e1, e2]
theorem SliceAt.cut {α : Type} {ρ : List Value → α → Prop} {v : Value} {sz : Nat} {ccs : List Value} {l : List α} {i k : Nat} (hs : SliceAt imm v sz ccs) (hr : RepL ρ sz ccs l) (hsz : 0 < sz) (h1 : i ≤ k) (h2 : k ≤ l.length) :
    ∀ a len cap, v = .slice a len cap → SliceAt imm (.slice (if cap = i then a else a.map (·.add (i * sz))) (k - i) (cap - i)) sz ((ccs.take (k * sz)).drop (i * sz)) ∧ RepL ρ sz ((ccs.take (k * sz)).drop (i * sz)) ((l.take k).drop i) := by
  intro a len cap hv
  have hrep := (hr.take k).drop i
  refine ⟨?_, hrep⟩
  have hlen := hrep.length
  simp only [List.length_drop, List.length_take] at hlen
  rcases hs with ⟨rfl, rfl⟩ | ⟨b, off, len', cap', c, rfl, hc, hle, hlc, hcl, hcs⟩
  · injection hv with e1 e2 e3
    subst e1; subst e2; subst e3
    have : l.length * sz = 0 := by rw [← hr.length]; rfl
    have hl0 : l.length = 0 := by rcases Nat.mul_eq_zero.1 this with h | h <;> omega
    have : k = 0 := by omega
    subst this
    have : i = 0 := by omega
    subst this
    exact .inl ⟨by simp, by simp⟩
  · injection hv with e1 e2 e3
    subst e1; subst e2; subst e3
    have hll : len' = l.length := pJ hsz (by rw [← hcl]; exact hr.length)
    subst hll
    have hkm := Nat.mul_le_mul_right sz h2
    have him := Nat.mul_le_mul_right sz h1
    by_cases hci : cap' = i
    · refine .inr ⟨b, off, k - i, cap' - i, c, by simp [hci], hc, ?_, by omega, ?_, ?_⟩
      · have : k - i = 0 := by omega
        rw [this]; omega
      · have h0 : k - i = 0 := by omega
        have h4 : k * sz = i * sz := by congr 1; omega
        simp only [List.length_drop, List.length_take]
        rw [h0]; omega
      · have h0 : k - i = 0 := by omega
        have h4 : k * sz = i * sz := by congr 1; omega
        rw [h0, h4]
        simp
    · refine .inr ⟨b, off + i * sz, k - i, cap' - i, c, by simp [hci, nU], hc, ?_, by omega, ?_, ?_⟩
      · rw [Nat.sub_mul]; omega
      · simp only [List.length_drop, List.length_take, Nat.sub_mul]; omega
      · rw [← hcs, List.take_take, List.drop_take, List.drop_drop, Nat.sub_mul]
        congr 1
        omega
theorem zHV {α : Type} [Rp α] {t : TypeId} {x : Operand} {lo hi : Option Operand} {ty : TypeId} {pos : String} {after : Array Edge} {g : Option (Nat × Bool)} {v : Value} {i k : Int} {l l' : List α}
    (ho : ops[pc]? = some ⟨some d, .slice t x lo hi none, ty, pos, after, g⟩) (hg : guardB ops m g = some true) (hn : Nat.blt d n = true) (hx : val m x = some v) (ht : elemT P t = some (Rp.sz α))
    (hlo : bnd m 0 lo = some i) (hhi : bnd m l.length hi = some k) (hs' : SL imm v l) (hy : slc l i k = some l') (next : ∀ v', SL imm v' l' → R P n B ops Q (pc + 1) imm hs ((d, v') :: m)) : R P n B ops Q pc imm hs m := by
  refine oT ho hg rfl hn fun a w f gd => ?_
  unfold slc at hy
  split at hy
  · rename_i hb
    cases hy
    obtain ⟨ccs, hsl, hr⟩ := hs'
    obtain ⟨ad, cap, rfl⟩ := SL.form (imm := imm) ⟨ccs, hsl, hr⟩
    have hlc : l.length ≤ cap := by
      rcases hsl with ⟨e, rfl⟩ | ⟨b, off, len', cap', c, e, _, _, hlc, _⟩
      · injection e with _ e2 e3; omega
      · injection e with _ e2 e3; omega
    have hcut := hsl.cut hr Rp.pos (i := i.toNat) (k := k.toNat) (by omega) (by omega) _ _ _ rfl
    have hbd := zCR (P := P) (w := w) f hlo hhi hb.1 hb.2.1 hb.2.2 hlc
    refine ⟨_, w, imm, hs, ?_, gd, next _ ⟨_, hcut⟩⟩
    unfold elemT at ht
    split at ht
    · rename_i e hu
      simp only [execOp, f.eval hx, Option.map_none, Instr.sliceAt, Instr.slice, Sem.run_bind, xE hu, Result.andThen_ok, hbd, qJ ht, Sem.run_pure]
    · cases ht
  · cases hy
end
end Go.LN
