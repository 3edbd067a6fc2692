/- Further rules: bytes, elements stored, slices of own slices, maps. -/
import Derived.Test.YtbgdegfnaofkfaaLnK
import Derived.Laws.BytesString
import Derived.MapKept
namespace Go.LN
set_option linter.unusedVariables false
set_option linter.unusedSimpArgs false
def u8 (x : Int) : UInt8 := UInt8.ofNat (IntKind.u8.wrap x).toNat
theorem u8_toNat (x : Int) : ((u8 x).toNat : Int) = IntKind.u8.wrap x := by
  have h : IntKind.u8.wrap x = x % 256 := rfl
  unfold u8
  rw [h]
  have h1 : 0 ≤ x % 256 := Int.emod_nonneg _ (by decide)
  have h2 : x % 256 < 256 := Int.emod_lt_of_pos _ (by decide)
  simp only [UInt8.toNat_ofNat']
  omega
section
variable {P : Program} {n : Nat} {B : Base} {Q : Exit → Act → World → Prop} {imm : Imm} {hs : List HA} {m : FM} {ops : List Oper} {pc d : Nat}
theorem R_u8 {o : Oper} {i : Int} (ho : ops[pc]? = some o) (h : run1 P n ops m o = some ((d, .int .u8 (IntKind.u8.wrap i)) :: m)) (next : R P n B ops Q (pc + 1) imm hs ((d, .int .u8 ((u8 i).toNat : Int)) :: m)) : R P n B ops Q pc imm hs m :=
  R_run1 ho h (by rw [u8_toNat] at next; exact next)
/-! ### Bytes to a string -/
def isBytesT (P : Program) (t : TypeId) : Bool := match P.underlying t with | some (.slice e) => (match P.underlying e with | some (.int .u8) => true | _ => false) | _ => false
def isStrT (P : Program) (t : TypeId) : Bool := match P.underlying t with | some .string => true | _ => false
theorem rep_bytes {i : Imm} : ∀ {l : List UInt8} {cs : List Value}, RepL (Rp.rep i) (Rp.sz UInt8) cs l → cs = (l.map fun b => (b.toNat : Int)).map (Value.int .u8)
  | [], _, h => by simpa [RepL] using h
  | b :: l, _, ⟨c1, c2, h1, _, h3, h4⟩ => by
    have h3 : c1 = [.int .u8 (b.toNat : Int)] := h3
    rw [h1, h3, rep_bytes h4]; rfl
theorem push_bytes : ∀ (l : List UInt8) (r : ByteArray), (l.map (fun b => (b.toNat : Int))).foldl (fun r n => r.push (UInt8.ofNat n.toNat)) r = ⟨r.data ++ l.toArray⟩
  | [], r => by simp
  | b :: l, r => by
    rw [List.map_cons, List.foldl_cons, push_bytes l]
    simp [ByteArray.push]
theorem R_bytes {src dst : TypeId} {x : Operand} {ty : TypeId} {pos : String} {after : Array Edge} {g : Option (Nat × Bool)} {v : Value} {cs : List Value} {l : List UInt8}
    (ho : ops[pc]? = some ⟨some d, .convert src dst x, ty, pos, after, g⟩) (hg : guardB ops m g = some true) (hn : Nat.blt d n = true) (hx : val m x = some v) (h1 : isBytesT P src = true) (h2 : isStrT P dst = true)
    (s : Src imm hs v (Rp.sz UInt8) cs) (hr : RepL (Rp.rep imm) (Rp.sz UInt8) cs l) (next : R P n B ops Q (pc + 1) imm hs ((d, .string ⟨⟨l⟩⟩) :: m)) : R P n B ops Q pc imm hs m := by
  refine R_value ho hg rfl hn fun a w f gd => ?_
  refine ⟨_, w, imm, hs, ?_, gd, next⟩
  unfold isBytesT at h1
  split at h1
  · rename_i e he
    split at h1
    · rename_i he2
      unfold isStrT at h2
      split at h2
      · rename_i hd
        have hlen := hr.length
        have hcs := rep_bytes hr
        rcases s.read gd with ⟨rfl, rfl⟩ | ⟨b, off, len, cap, c, ty', fr, rfl, hw, hle, hcl, hcc⟩
        · have : l = [] := by
            have h1 : Rp.sz UInt8 = 1 := rfl
            cases l with
            | nil => rfl
            | cons _ _ => rw [h1] at hlen; simp at hlen
          subst this
          simp only [execOp, f.eval hx, Sem.run_bind, run_convert_bytes_string w src dst e none 0 0 he he2 hd, Conv.bytesToString, Sem.run_pure, Result.andThen_ok]
          rfl
        · have hsz : Rp.sz UInt8 = 1 := rfl
          rw [hsz, Nat.mul_one] at hle hcl hcc
          have hl := run_loadCells (P := P) (n := len) hw hle
          have hcc' : c.extract off (off + len) = ((l.map fun b => (b.toNat : Int)).map (Value.int .u8)).toArray := by
            apply Array.ext'
            rw [← hcs, ← hcc]
            simp [Array.toList_extract, List.extract_eq_take_drop]
          rw [hcc'] at hl
          simp only [execOp, f.eval hx, Sem.run_bind, run_convert_bytes_string w src dst e _ len cap he he2 hd, run_bytesToString w _ len cap _ hl, push_bytes, Result.andThen_ok, Sem.run_pure]
          simp [ByteArray.empty, ByteArray.emptyWithCapacity]
          rfl
      · cases h2
    · cases h1
  · cases h1
/-! ### An element of an own slice is stored, whole or in part -/
theorem R_store_el {α : Type} [Rp α] {t : TypeId} {x z : Operand} {ty : TypeId} {pos : String} {after : Array Edge} {g : Option (Nat × Bool)} {v0 : Value} {i : Int} {ad : Addr} {cs cc c : List Value} {v : Value} {l : List α} {y x' : α} (j o : Nat)
    (ho : ops[pc]? = some ⟨none, .store t x z, ty, pos, after, g⟩) (hg : guardB ops m g = some true) (hj : hs[j]? = some (.osl v0 (Rp.sz α) cs)) (hat : AtO v0 (Rp.sz α) i.toNat ad) (hx : val m x = some (.pointer (some (ad.add o)))) (hz : val m z = some v)
    (hcc : (cs.drop (i.toNat * Rp.sz α)).take (Rp.sz α) = cc) (hsz : sizeT P t = some v.cells.size) (hol : Nat.ble (o + v.cells.size) (Rp.sz α) = true) (hone : v.cells.toList.all Value.oneCell' = true)
    (hr : RepL (Rp.rep imm) (Rp.sz α) cs l) (hy : idx l i = some y) (hc : cc.take o ++ v.cells.toList ++ cc.drop (o + v.cells.size) = c) (hx' : Rp.rep imm c x')
    (next : ∀ cs', RepL (Rp.rep imm) (Rp.sz α) cs' (l.set i.toNat x') → (l.set i.toNat x').length = l.length → R P n B ops Q (pc + 1) imm (hs.set j (.osl v0 (Rp.sz α) cs')) m) : R P n B ops Q pc imm hs m := by
  refine R_store_osl j o ho hg hj hat hx hz hsz hol hone rfl ?_
  obtain ⟨h0, h1, h2⟩ := idx_some hy
  have hlt := (List.getElem?_eq_some_iff.1 h2).1
  refine next _ ?_ (by simp)
  obtain ⟨_, hbd⟩ := hr.at h2
  have hol' := Nat.le_of_ble_eq_true hol
  have := hr.set (i := i.toNat) (a := x') (c := c) hlt (Rp.len hx') hx'
  rw [← hc, ← hcc] at this
  have e : cs.take (i.toNat * Rp.sz α) ++ (((cs.drop (i.toNat * Rp.sz α)).take (Rp.sz α)).take o ++ v.cells.toList ++ ((cs.drop (i.toNat * Rp.sz α)).take (Rp.sz α)).drop (o + v.cells.size)) ++ cs.drop (i.toNat * Rp.sz α + Rp.sz α) =
      cs.take (i.toNat * Rp.sz α + o) ++ v.cells.toList ++ cs.drop (i.toNat * Rp.sz α + o + v.cells.size) := by
    generalize i.toNat * Rp.sz α = p at *
    have hvs : v.cells.toList.length = v.cells.size := Array.length_toList
    apply List.ext_getElem?
    intro q
    simp only [List.getElem?_take, List.getElem?_drop, List.getElem?_append, List.length_append, List.length_take, List.length_drop, hvs]
    grind
  rw [e] at this
  exact this
theorem R_conv {hs' : List HA} {m' : FM} (h1 : hs = hs') (h2 : m = m') (h : R P n B ops Q pc imm hs' m') : R P n B ops Q pc imm hs m := by subst h1; subst h2; exact h
/-! ### Maps from numbers to 'true' -/
def entsO (l : List Int) (j : Nat) : List MapEntry := (l.zipIdx j).map fun p => ⟨.int .i64 p.1, .bool true, p.2⟩
def mapO (l : List Int) : Obj := .map (entsO l 0).toArray l.length
def mins (l : List Int) (k : Int) : List Int := if k ∈ l then l else l ++ [k]
theorem R_makeMap {t : TypeId} {ty : TypeId} {pos : String} {after : Array Edge} {g : Option (Nat × Bool)} (ho : ops[pc]? = some ⟨some d, .makeMap t none, ty, pos, after, g⟩) (hg : guardB ops m g = some true) (hn : Nat.blt d n = true)
    (next : ∀ b, R P n B ops Q (pc + 1) imm (.obj b (mapO []) :: hs) ((d, .map (some b)) :: m)) : R P n B ops Q pc imm hs m := by
  refine R_value ho hg rfl hn fun a w f gd => ?_
  refine ⟨.map (some w.heap.size), _, imm, _, ?_, gd.alloc_obj (mapO []), next w.heap.size⟩
  simp [execOp, Instr.makeMap, mapO, entsO]
theorem find_mapO {kd : TypeDesc} (hk : kd = .int .i64) (k : Int) : ∀ (l : List Int) (j : Nat), Instr.findNow kd (.int .i64 k) (entsO l j) j = some (if k ∈ l then some (j + l.idxOf k, .bool true) else none)
  | [], j => by simp [entsO, Instr.findNow]
  | x :: l, j => by
    subst hk
    have hc : entsO (x :: l) j = ⟨.int .i64 x, .bool true, j⟩ :: entsO l (j + 1) := by simp [entsO, List.zipIdx_cons]
    rw [hc]
    simp only [Instr.findNow, Instr.sameNow, if_true]
    by_cases e : k = x
    · subst e; simp
    · have h1 : (k == x) = false := by simpa using e
      simp only [h1]
      rw [find_mapO rfl k l (j + 1)]
      have h2 : (x == k) = false := by simpa using Ne.symm e
      by_cases h : k ∈ l
      · simp [h, List.idxOf_cons, h2]; omega
      · simp [h, e]
def mapKeyT (P : Program) (t : TypeId) : Option TypeId := match P.underlying t with | some (.map k _) => (match P.underlying k with | some (.int .i64) => some k | _ => none) | _ => none
theorem R_mapUpdate {t kt : TypeId} {x y z : Operand} {ty : TypeId} {pos : String} {after : Array Edge} {g : Option (Nat × Bool)} {b : Nat} {l : List Int} {k : Int} (j : Nat)
    (ho : ops[pc]? = some ⟨none, .mapUpdate t x y z, ty, pos, after, g⟩) (hg : guardB ops m g = some true) (hj : hs[j]? = some (.obj b (mapO l))) (ht : mapKeyT P t = some kt) (hx : val m x = some (.map (some b))) (hy : val m y = some (.int .i64 k)) (hz : val m z = some (.bool true))
    (next : R P n B ops Q (pc + 1) imm (hs.set j (.obj b (mapO (mins l k)))) m) : R P n B ops Q pc imm hs m := by
  refine R_noval ho hg rfl fun a w f gd => ?_
  obtain ⟨h1, h2, hw⟩ := gd.own _ (mem_of_get hj)
  have hblt : b < w.heap.size := ((gd.own _ (mem_of_get hj)).lt (by simp [HA.fp])).1
  unfold mapKeyT at ht
  split at ht
  · rename_i k' e' hu
    split at ht
    · rename_i huk
      cases ht
      have hchk0 : ∀ (n : Nat) (w : World), (Instr.checkKey false (n + 1) kt (.int .i64 k)).run P w = .ok () w := fun n w => by
        simp only [Instr.checkKey, Sem.run_bind, run_underlying huk, Result.andThen_ok, Sem.run_pure]
      have hchk : ∀ w : World, (Instr.checkKey false 10000 kt (.int .i64 k)).run P w = .ok () w := hchk0 9999
      have hsame : ∀ n, Instr.sameBits n (.int .i64 k) (.int .i64 k) = true := fun n => by cases n <;> simp [Instr.sameBits]
      have hfind : (Instr.findKey kt (.int .i64 k) (entsO l 0)).run P w = .ok (if k ∈ l then some (l.idxOf k, .bool true) else none) w := by
        simp only [Instr.findKey, Sem.run_bind, run_underlying huk, Result.andThen_ok]
        rw [find_mapO rfl k l 0]
        simp
      refine ⟨setBlk w b (mapO (mins l k)), imm, _, ?_, gd.write_at (A' := .obj b (mapO (mins l k))) hj (by simp [HA.fp]) (by simp [HA.fp]) _ ⟨h1, h2, setBlk_self hblt⟩, next⟩
      simp only [execOp, f.eval hx, f.eval hy, f.eval hz, Instr.mapUpdate, Sem.run_bind, run_underlying hu, Result.andThen_ok]
      have hw' : w.heap[b]? = some (.map (entsO l 0).toArray l.length) := hw
      rw [MapKept.run_getObj_map hw']
      simp only [Result.andThen_ok, Sem.run_bind, hchk, hfind]
      by_cases hm : k ∈ l
      · simp only [hm, if_true]
        have hlt : l.idxOf k < l.length := List.idxOf_lt_length_of_mem hm
        have hent : ((entsO l 0).toArray[l.idxOf k]?) = some ⟨.int .i64 k, .bool true, l.idxOf k⟩ := by
          simp [entsO, List.getElem?_zipIdx, List.getElem?_eq_getElem hlt]
        have hmod : (entsO l 0).toArray.modify (l.idxOf k) (fun e => { e with key := .int .i64 k, val := .bool true }) = (entsO l 0).toArray := by
          apply Array.ext_getElem?
          intro q
          rw [Array.getElem?_modify]
          split
          · rename_i e; subst e; rw [hent]; rfl
          · rfl
        simp only [hent, Option.map_some, Option.getD_some, Instr.keyThatStays, hsame, if_true, Sem.run_bind, Sem.run_pure, Result.andThen_ok, hmod]
        rw [MapKept.run_setObj_map _ hw']
        have : mins l k = l := by simp [mins, hm]
        simp only [Result.andThen_ok, Sem.run_pure, this]
        rfl
      · simp only [hm, if_false]
        rw [MapKept.run_setObj_map _ hw']
        have : mins l k = l ++ [k] := by simp [mins, hm]
        simp only [Result.andThen_ok, Sem.run_pure, this]
        congr 2
        simp [setBlk, mapO, entsO, List.zipIdx_append]
    · cases ht
  · cases ht
def isMapT (P : Program) (t : TypeId) : Bool := match P.underlying t with | some (.map _ _) => true | _ => false
theorem R_mapLen {t : TypeId} {x : Operand} {ty : TypeId} {pos : String} {after : Array Edge} {g : Option (Nat × Bool)} {b : Nat} {l : List Int} (j : Nat)
    (ho : ops[pc]? = some ⟨some d, .call { callee := .builtin .len, args := #[x], argTypes := #[t] }, ty, pos, after, g⟩) (hg : guardB ops m g = some true) (hn : Nat.blt d n = true) (hj : hs[j]? = some (.obj b (mapO l))) (ht : isMapT P t = true) (hx : val m x = some (.map (some b)))
    (next : R P n B ops Q (pc + 1) imm hs ((d, .int .i64 (l.length : Int)) :: m)) : R P n B ops Q pc imm hs m := by
  refine R_value ho hg rfl hn fun a w f gd => ?_
  obtain ⟨h1, h2, hw⟩ := gd.own _ (mem_of_get hj)
  refine ⟨_, w, imm, hs, ?_, gd, next⟩
  unfold isMapT at ht
  split at ht
  · rename_i hu
    have hw' : w.heap[b]? = some (.map (entsO l 0).toArray l.length) := hw
    simp only [execOp, resolve, List.map_toArray, List.map_cons, List.map_nil, f.eval hx, Sem.run_bind, Sem.run_pure, Result.andThen_ok, invoke, builtin, Builtin.len_, List.getElem?_toArray, List.getElem?_cons_zero, run_underlying hu, MapKept.run_getObj_map hw']
    simp [goInt, entsO]
  · cases ht
/-! ### An own slice is cut -/
theorem Good.recast {w : World} (h : Good B imm hs w) {j : Nat} {A A' : HA} (hj : hs[j]? = some A) (hA : A'.ok B imm w) (hfp : ∀ b ∈ A'.fp, b ∈ A.fp) : Good B imm (hs.set j A') w := by
  have hp := perm_eraseIdx hj
  have h2 := h.perm hp.symm
  refine Good.perm (hs := A' :: hs.eraseIdx j) ⟨h.inv, fun A2 h3 => ?_, ?_, h.frm⟩ (perm_set (List.getElem?_eq_some_iff.1 hj).1)
  · rcases List.mem_cons.1 h3 with rfl | h3
    · exact hA
    · exact h2.own _ (List.mem_cons_of_mem _ h3)
  · have hn := h2.nodup
    rw [List.flatMap_cons] at hn ⊢
    obtain ⟨_, n2, n3⟩ := List.nodup_append.1 hn
    refine List.nodup_append.2 ⟨?_, n2, fun x hx y hy => n3 x (hfp x hx) y hy⟩
    cases A' with
    | blk b c => simp [HA.fp]
    | obj b o => simp [HA.fp]
    | osl v sz cs => cases v <;> first | simp [HA.fp] | skip
                     rename_i a _ _; cases a <;> simp [HA.fp]
theorem R_cut_osl {α : Type} [Rp α] {t : TypeId} {x : Operand} {lo hi : Option Operand} {ty : TypeId} {pos : String} {after : Array Edge} {g : Option (Nat × Bool)} {v : Value} {i k : Int} {cs : List Value} {l y : List α} (j : Nat)
    (ho : ops[pc]? = some ⟨some d, .slice t x lo hi none, ty, pos, after, g⟩) (hg : guardB ops m g = some true) (hn : Nat.blt d n = true) (hj : hs[j]? = some (.osl v (Rp.sz α) cs)) (hx : val m x = some v) (ht : elemT P t = some (Rp.sz α))
    (hlo : bnd m 0 lo = some i) (hhi : bnd m l.length hi = some k) (hr : RepL (Rp.rep imm) (Rp.sz α) cs l) (hy : slc l i k = some y)
    (next : ∀ a' c' cs', (∀ b ∈ (HA.osl (.slice a' y.length c') (Rp.sz α) cs').fp, b ∈ (HA.osl v (Rp.sz α) cs).fp) → RepL (Rp.rep imm) (Rp.sz α) cs' y → R P n B ops Q (pc + 1) imm (hs.set j (.osl (.slice a' y.length c') (Rp.sz α) cs')) ((d, .slice a' y.length c') :: m)) : R P n B ops Q pc imm hs m := by
  refine R_value ho hg rfl hn fun a w f gd => ?_
  unfold slc at hy
  split at hy
  · rename_i hb
    cases hy
    have hrep := (hr.take k.toNat).drop i.toNat
    have hlen := hr.length
    have hz := Rp.pos (α := α)
    have hyl : ((l.take k.toNat).drop i.toNat).length = k.toNat - i.toNat := by simp; omega
    obtain ⟨e, hu, hse⟩ : ∃ e, P.underlying t = some (.slice e) ∧ sizeT P e = some (Rp.sz α) := by
      unfold elemT at ht
      split at ht
      · rename_i e hu; exact ⟨e, hu, ht⟩
      · cases ht
    have step : ∀ (ad : Option Addr) (cap : Nat), v = .slice ad l.length cap → l.length ≤ cap →
        HA.ok B imm w (.osl (.slice (if cap = i.toNat then ad else ad.map (·.add (i.toNat * Rp.sz α))) (k.toNat - i.toNat) (cap - i.toNat)) (Rp.sz α) ((cs.take (k.toNat * Rp.sz α)).drop (i.toNat * Rp.sz α))) →
        (∀ b ∈ (HA.osl (.slice (if cap = i.toNat then ad else ad.map (·.add (i.toNat * Rp.sz α))) (k.toNat - i.toNat) (cap - i.toNat)) (Rp.sz α) ((cs.take (k.toNat * Rp.sz α)).drop (i.toNat * Rp.sz α))).fp, b ∈ (HA.osl v (Rp.sz α) cs).fp) →
        ∃ v' w' imm' hs', (execOp a.eval ⟨some d, .slice t x lo hi none, ty, pos, after, g⟩).run P w = .ok (.value v') w' ∧ Good B imm' hs' w' ∧ R P n B ops Q (pc + 1) imm' hs' ((d, v') :: m) := by
      intro ad cap hv hlc hok hfp
      subst hv
      have hbd := run_sliceBounds (P := P) (w := w) f hlo hhi hb.1 hb.2.1 hb.2.2 hlc
      have hne := next (if cap = i.toNat then ad else ad.map (·.add (i.toNat * Rp.sz α))) (cap - i.toNat) ((cs.take (k.toNat * Rp.sz α)).drop (i.toNat * Rp.sz α)) (by rw [hyl]; exact hfp) hrep
      rw [hyl] at hne
      refine ⟨_, w, imm, _, ?_, gd.recast hj hok hfp, hne⟩
      simp only [execOp, f.eval hx, Option.map_none, Instr.sliceAt, Instr.slice, Sem.run_bind, run_underlying hu, Result.andThen_ok, hbd, run_sizeOf hse, Sem.run_pure]
    rcases gd.own _ (mem_of_get hj) with ⟨rfl, rfl⟩ | ⟨b, off, len, cap, all, ty', rfl, hp1, hp2, hw, hcap, hlc, hcl, hcs, hcM⟩
    · have hl0 : l.length = 0 := by
        have : l.length * Rp.sz α = 0 := by rw [← hlen]; rfl
        rcases Nat.mul_eq_zero.1 this with h | h <;> omega
      refine step none 0 (by rw [hl0]) (by omega) (.inl ⟨?_, by simp⟩) (fun b hb => ?_)
      · have : k.toNat - i.toNat = 0 := by omega
        simp [this]
      · simp [HA.fp] at hb
    · have hll : len = l.length := len_of_mul hz (by omega)
      subst hll
      have hmul : ∀ {p q : Nat}, p ≤ q → p * Rp.sz α ≤ q * Rp.sz α := fun h => Nat.mul_le_mul_right _ h
      have e1 := hmul (show i.toNat ≤ k.toNat by omega)
      have e2 := hmul (show k.toNat ≤ l.length by omega)
      have e3 := hmul hlc
      refine step (some ⟨b, off, none⟩) cap rfl hlc ?_ (fun b' hb' => ?_)
      · by_cases hc0 : cap = i.toNat
        · have hk : k.toNat - i.toNat = 0 := by omega
          have hik : i.toNat = k.toNat := by omega
          refine .inr ⟨b, off, 0, 0, all, ty', by simp [hc0, hik], hp1, hp2, hw, by omega, Nat.le_refl _, ?_, ?_, by omega⟩
          · simp [hik]
          · simp [hik]
        · refine .inr ⟨b, off + i.toNat * Rp.sz α, k.toNat - i.toNat, cap - i.toNat, all, ty', by simp [hc0, add_plain], hp1, hp2, hw, ?_, by omega, ?_, ?_, by omega⟩
          · rw [Nat.sub_mul]; have := hmul (show i.toNat ≤ cap by omega); omega
          · rw [List.length_drop, List.length_take, Nat.sub_mul]; omega
          · rw [Nat.sub_mul, ← hcs]
            apply List.ext_getElem?
            intro q
            simp only [List.getElem?_take, List.getElem?_drop]
            grind
      · by_cases hc0 : cap = i.toNat
        · simpa [HA.fp, hc0] using hb'
        · simpa [HA.fp, hc0, add_plain] using hb'
  · cases hy
theorem R_appX {α : Type} [Rp α] (X : Nat → Prop) {t t2 : TypeId} {x1 x2 : Operand} {ty : TypeId} {pos : String} {after : Array Edge} {g : Option (Nat × Bool)} {v vx : Value} {cs ccs : List Value} {l l2 y : List α} {e by' zs : Nat} (j : Nat)
    (ho : ops[pc]? = some ⟨some d, .call { callee := .builtin .append, args := #[x1, x2], argTypes := #[t, t2] }, ty, pos, after, g⟩) (hg : guardB ops m g = some true) (hn : Nat.blt d n = true)
    (hx : val m x1 = some v) (hy : val m x2 = some vx) (ht : appT P t = some (e, Rp.sz α, by', zs)) (ht2 : appT P t2 = some (e, Rp.sz α, by', zs)) (hj : hs[j]? = some (.osl v (Rp.sz α) cs)) (hr : RepL (Rp.rep imm) (Rp.sz α) cs l)
    (hnew : ∀ b ∈ (HA.osl v (Rp.sz α) cs).fp, X b ∨ B.w0.heap.size ≤ b)
    (s : Src imm hs vx (Rp.sz α) ccs) (hr2 : RepL (Rp.rep imm) (Rp.sz α) ccs l2) (hb : app by' l l2 = some y)
    (next : ∀ a' c' cs', (∀ b ∈ (HA.osl (.slice a' y.length c') (Rp.sz α) cs').fp, X b ∨ B.w0.heap.size ≤ b) → RepL (Rp.rep imm) (Rp.sz α) cs' y → R P n B ops Q (pc + 1) imm (hs.set j (.osl (.slice a' y.length c') (Rp.sz α) cs')) ((d, .slice a' y.length c') :: m)) : R P n B ops Q pc imm hs m := by
  obtain ⟨h1, rfl⟩ := app_some hb
  refine R_append j ho hg hn hx hy ht ht2 hj hr s hr2 h1 ?_
  intro v' cs' hs' h2 h3 h4
  subst h4
  have hjl := (List.getElem?_eq_some_iff.1 hj).1
  refine R_osl_form j (v := v') (cs := cs') (by simp [hjl]) h3 fun a' c' hv => ?_
  subst hv
  exact next a' c' cs' (fun b hb => (h2 b hb).elim (hnew b) .inr) h3
end
end Go.LN
