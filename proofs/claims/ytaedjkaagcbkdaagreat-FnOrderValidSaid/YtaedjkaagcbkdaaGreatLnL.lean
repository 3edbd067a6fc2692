/- Further rules: bytes, elements stored, slices of own slices, maps. -/
import Derived.Test.YtaedjkaagcbkdaaGreatLnK
import Derived.Laws.BytesString
import Derived.MapKept
namespace Go.LN
set_option linter.unusedVariables false
set_option linter.unusedSimpArgs false
def u8 (x : Int) : UInt8 := UInt8.ofNat (IntKind.u8.wrap x).toNat
theorem zGc (x : Int) : ((u8 x).toNat : Int) = IntKind.u8.wrap x := by
  have h : IntKind.u8.wrap x = x % 256 := rfl
  unfold u8
  rw [h]
  have h1 : 0 ≤ x % 256 := Int.emod_nonneg _ (by decide)
  have h2 : x % 256 < 256 := Int.emod_lt_of_pos _ (by decide)
  simp only [UInt8.toNat_ofNat']
  omega
section
variable {P : Program} {n : Nat} {B : Base} {Q : Exit → Act → World → Prop} {imm : Imm} {hs : List HA} {m : FM} {ops : List Oper} {pc d : Nat}
theorem zIO {o : Oper} {i : Int} (ho : ops[pc]? = some o) (h : run1 P n ops m o = some ((d, .int .u8 (IntKind.u8.wrap i)) :: m)) (next : R P n B ops Q (pc + 1) imm hs ((d, .int .u8 ((u8 i).toNat : Int)) :: m)) : R P n B ops Q pc imm hs m :=
  zFZ ho h (by rw [zGc] at next; exact next)
/-! ### Bytes to a string -/
def isBytesT (P : Program) (t : TypeId) : Bool := match P.underlying t with | some (.slice e) => (match P.underlying e with | some (.int .u8) => true | _ => false) | _ => false
def isStrT (P : Program) (t : TypeId) : Bool := match P.underlying t with | some .string => true | _ => false
theorem zEJ {i : Imm} : ∀ {l : List UInt8} {cs : List Value}, RepL (Rp.rep i) (Rp.sz UInt8) cs l → cs = (l.map fun b => (b.toNat : Int)).map (Value.int .u8)
  | [], _, h => by simpa [RepL] using h
  | b :: l, _, ⟨c1, c2, h1, _, h3, h4⟩ => by
    have h3 : c1 = [.int .u8 (b.toNat : Int)] := h3
    rw [h1, h3, zEJ h4]; rfl
theorem zCt : ∀ (l : List UInt8) (r : ByteArray), (l.map (fun b => (b.toNat : Int))).foldl (fun r n => r.push (UInt8.ofNat n.toNat)) r = ⟨r.data ++ l.toArray⟩
  | [], r => by simp
  | b :: l, r => by
    rw [List.map_cons, List.foldl_cons, zCt l]
    simp [ByteArray.push]
theorem zFm {src dst : TypeId} {x : Operand} {ty : TypeId} {pos : String} {after : Array Edge} {g : Option (Nat × Bool)} {v : Value} {cs : List Value} {l : List UInt8}
    (ho : ops[pc]? = some ⟨some d, .convert src dst x, ty, pos, after, g⟩) (hg : guardB ops m g = some true) (hn : Nat.blt d n = true) (hx : val m x = some v) (h1 : isBytesT P src = true) (h2 : isStrT P dst = true)
    (s : Src imm hs v (Rp.sz UInt8) cs) (hr : RepL (Rp.rep imm) (Rp.sz UInt8) cs l) (next : R P n B ops Q (pc + 1) imm hs ((d, .string ⟨⟨l⟩⟩) :: m)) : R P n B ops Q pc imm hs m := by
  refine oT ho hg rfl hn fun a w f gd => ?_
  refine ⟨_, w, imm, hs, ?_, gd, next⟩
  unfold isBytesT at h1
  split at h1
  · rename_i e he
    split at h1
    · rename_i he2
      unfold isStrT at h2
      split at h2
      · rename_i hd
        have hlen := hr.length
        have hcs := zEJ hr
        rcases s.read gd with ⟨rfl, rfl⟩ | ⟨b, off, len, cap, c, ty', fr, rfl, hw, hle, hcl, hcc⟩
        · have : l = [] := by
            have h1 : Rp.sz UInt8 = 1 := rfl
            cases l with
            | nil => rfl
            | cons _ _ => rw [h1] at hlen; simp at hlen
          subst this
          simp only [execOp, f.eval hx, Sem.run_bind, run_convert_bytes_string w src dst e none 0 0 he he2 hd, Conv.bytesToString, Sem.run_pure, Result.andThen_ok]
          rfl
        · have hsz : Rp.sz UInt8 = 1 := rfl
          rw [hsz, Nat.mul_one] at hle hcl hcc
          have hl := jY (P := P) (n := len) hw hle
          have hcc' : c.extract off (off + len) = ((l.map fun b => (b.toNat : Int)).map (Value.int .u8)).toArray := by
            apply Array.ext'
            rw [← hcs, ← hcc]
            simp [Array.toList_extract, List.extract_eq_take_drop]
          rw [hcc'] at hl
          simp only [execOp, f.eval hx, Sem.run_bind, run_convert_bytes_string w src dst e _ len cap he he2 hd, run_bytesToString w _ len cap _ hl, zCt, Result.andThen_ok, Sem.run_pure]
          simp [ByteArray.empty, ByteArray.emptyWithCapacity]
          rfl
      · cases h2
    · cases h1
  · cases h1
/-! ### An element of an own slice is stored, whole or in part -/
theorem qL {α : Type} [Rp α] {t : TypeId} {x z : Operand} {ty : TypeId} {pos : String} {after : Array Edge} {g : Option (Nat × Bool)} {v0 : Value} {i : Int} {ad : Addr} {cs cc c : List Value} {v : Value} {l : List α} {y x' : α} (j o : Nat)
    (ho : ops[pc]? = some ⟨none, .store t x z, ty, pos, after, g⟩) (hg : guardB ops m g = some true) (hj : hs[j]? = some (.osl v0 (Rp.sz α) cs)) (hat : AtO v0 (Rp.sz α) i.toNat ad) (hx : val m x = some (.pointer (some (ad.add o)))) (hz : val m z = some v)
    (hcc : (cs.drop (i.toNat * Rp.sz α)).take (Rp.sz α) = cc) (hsz : sizeT P t = some v.cells.size) (hol : Nat.ble (o + v.cells.size) (Rp.sz α) = true) (hone : v.cells.toList.all Value.oneCell' = true)
    (hr : RepL (Rp.rep imm) (Rp.sz α) cs l) (hy : idx l i = some y) (hc : cc.take o ++ v.cells.toList ++ cc.drop (o + v.cells.size) = c) (hx' : Rp.rep imm c x')
    (next : ∀ cs', RepL (Rp.rep imm) (Rp.sz α) cs' (l.set i.toNat x') → (l.set i.toNat x').length = l.length → R P n B ops Q (pc + 1) imm (hs.set j (.osl v0 (Rp.sz α) cs')) m) : R P n B ops Q pc imm hs m := by
  refine zEm j o ho hg hj hat hx hz hsz hol hone rfl ?_
  obtain ⟨h0, h1, h2⟩ := sB hy
  have hlt := (List.getElem?_eq_some_iff.1 h2).1
  refine next _ ?_ (by simp)
  obtain ⟨_, hbd⟩ := hr.at h2
  have hol' := Nat.le_of_ble_eq_true hol
  have := hr.set (i := i.toNat) (a := x') (c := c) hlt (Rp.len hx') hx'
  rw [← hc, ← hcc] at this
  have e : cs.take (i.toNat * Rp.sz α) ++ (((cs.drop (i.toNat * Rp.sz α)).take (Rp.sz α)).take o ++ v.cells.toList ++ ((cs.drop (i.toNat * Rp.sz α)).take (Rp.sz α)).drop (o + v.cells.size)) ++ cs.drop (i.toNat * Rp.sz α + Rp.sz α) =
      cs.take (i.toNat * Rp.sz α + o) ++ v.cells.toList ++ cs.drop (i.toNat * Rp.sz α + o + v.cells.size) := by
    generalize i.toNat * Rp.sz α = p at *
    have hvs : v.cells.toList.length = v.cells.size := Array.length_toList
    apply List.ext_getElem?
    intro q
    simp only [List.getElem?_take, List.getElem?_drop, List.getElem?_append, List.length_append, List.length_take, List.length_drop, hvs]
    grind
  rw [e] at this
  exact this
theorem zBd {hs' : List HA} {m' : FM} (h1 : hs = hs') (h2 : m = m') (h : R P n B ops Q pc imm hs' m') : R P n B ops Q pc imm hs m := by subst h1; subst h2; exact h
/-! ### Maps from numbers to 'true' -/
/-! ### An own slice is cut -/
theorem zHv {α : Type} [Rp α] (X : Nat → Prop) {t t2 : TypeId} {x1 x2 : Operand} {ty : TypeId} {pos : String} {after : Array Edge} {g : Option (Nat × Bool)} {v vx : Value} {cs ccs : List Value} {l l2 y : List α} {e by' zs : Nat} (j : Nat)
    (ho : ops[pc]? = some ⟨some d, .call { callee := .builtin .append, args := #[x1, x2], argTypes := #[t, t2] }, ty, pos, after, g⟩) (hg : guardB ops m g = some true) (hn : Nat.blt d n = true)
    (hx : val m x1 = some v) (hy : val m x2 = some vx) (ht : appT P t = some (e, Rp.sz α, by', zs)) (ht2 : appT P t2 = some (e, Rp.sz α, by', zs)) (hj : hs[j]? = some (.osl v (Rp.sz α) cs)) (hr : RepL (Rp.rep imm) (Rp.sz α) cs l)
    (hnew : ∀ b ∈ (HA.osl v (Rp.sz α) cs).fp, X b ∨ B.w0.heap.size ≤ b)
    (s : Src imm hs vx (Rp.sz α) ccs) (hr2 : RepL (Rp.rep imm) (Rp.sz α) ccs l2) (hb : app by' l l2 = some y)
    (next : ∀ a' c' cs', (∀ b ∈ (HA.osl (.slice a' y.length c') (Rp.sz α) cs').fp, X b ∨ B.w0.heap.size ≤ b) → RepL (Rp.rep imm) (Rp.sz α) cs' y → R P n B ops Q (pc + 1) imm (hs.set j (.osl (.slice a' y.length c') (Rp.sz α) cs')) ((d, .slice a' y.length c') :: m)) : R P n B ops Q pc imm hs m := by
  obtain ⟨h1, rfl⟩ := gD hb
  refine zG5 j ho hg hn hx hy ht ht2 hj hr s hr2 h1 ?_
  intro v' cs' hs' h2 h3 h4
  subst h4
  have hjl := (List.getElem?_eq_some_iff.1 hj).1
  refine zF1 j (v := v') (cs := cs') (by simp [hjl]) h3 fun a' c' hv => ?_
  subst hv
  exact next a' c' cs' (fun b hb => (h2 b hb).elim (hnew b) .inr) h3
end
end Go.LN
