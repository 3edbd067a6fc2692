/- Regions that leave their order open and only read: one walk in the order of the text. -/
import Derived.Test.YtaedjkaagcbkdaaGreatLnH
import Derived.Deep.Quiet
namespace Go.LN
set_option linter.unusedVariables false
set_option linter.unusedSimpArgs false
def Cq (w w' : World) : Prop := ∃ k, w' = w.drewN k
def Rq (P : Program) (n : Nat) (B : Base) (ops : List Oper) (Q : Exit → Act → World → Prop) (pc : Nat) (imm : Imm) (hs : List HA) (m : FM) : Prop :=
  ∀ a w, Fr n a m → Good B imm hs w → wpQuiet P ops.toArray (Cq w) (fun a' => ∀ w', Cq w w' → Q .normal a' w') (ops.drop pc) a
section
variable {P : Program} {n : Nat} {B : Base} {Q : Exit → Act → World → Prop} {imm : Imm} {hs : List HA} {m : FM} {ops : List Oper} {pc d : Nat}
theorem Good.drewN {w : World} (h : Good B imm hs w) (k : Nat) : Good B imm hs (w.drewN k) := h.draw _
theorem kT {id : Nat} {ops : List Oper} (hm : P.follows .mixedOrders = true) (hB : Region.lexB .any ops.toArray = true) (h : Rq P n B ops Q 0 imm hs m) : J P n B (.region id ops.toArray true) Q imm hs m := fun a w f g =>
  wp_region_quiet_lit hm hB (by
    have := h a w f g
    rw [List.drop_zero] at this
    exact this)
theorem zHp {ops : List Oper} {pc : Nat} (h0 : ops.drop pc = []) (h : T n B Q .normal imm hs m) : Rq P n B ops Q pc imm hs m := fun a w f g => by
  rw [h0]
  refine wpQuiet_nil ?_
  rintro w' ⟨k, rfl⟩
  exact h a _ f (g.drewN k)
theorem jJ {α : Type} {ops : List α} {pc : Nat} {o : α} (ho : ops[pc]? = some o) : ops.drop pc = o :: ops.drop (pc + 1) := by
  have hlt : pc < ops.length := by
    rcases Nat.lt_or_ge pc ops.length with h | h
    · exact h
    · rw [List.getElem?_eq_none h] at ho; cases ho
  rw [List.drop_eq_getElem_cons hlt]
  rw [List.getElem?_eq_getElem hlt] at ho
  cases ho; rfl
def Reads (P : Program) (n : Nat) (B : Base) (imm : Imm) (hs : List HA) (m : FM) (o : Op) (v : Value) : Prop :=
  ∀ (oo : Oper) a w, oo.op = o → Fr n a m → Good B imm hs w → (execOp a.eval oo).run P w = .ok (.value v) w
theorem zCf {o : Oper} {v : Value} (ho : ops[pc]? = some o) (hg : guardB ops m o.guard = some true) (hd : o.dst = some d) (hn : Nat.blt d n = true) (h : Reads P n B imm hs m o.op v) (next : R P n B ops Q (pc + 1) imm hs ((d, v) :: m)) :
    R P n B ops Q pc imm hs m := oT ho hg hd hn fun a w f g => ⟨v, w, imm, hs, h o a w rfl f g, g, next⟩
theorem gC {o : Oper} {v : Value} (ho : ops[pc]? = some o) (hg : guardB ops m o.guard = some true) (hd : o.dst = some d) (hn : Nat.blt d n = true) (h : Reads P n B imm hs m o.op v) (next : Rq P n B ops Q (pc + 1) imm hs ((d, v) :: m)) :
    Rq P n B ops Q pc imm hs m := fun a w f g => by
  rw [jJ ho]
  refine wpQuiet_step fun K hK => ?_
  rw [if_pos (f.wanted hg)]
  refine ⟨v, ?_, hK _ ?_⟩
  · rintro w' ⟨k, rfl⟩
    unfold Oper.quietAt
    rw [h o a _ rfl f (g.drewN k)]
    exact ⟨rfl, rfl⟩
  · rw [hd]
    exact next _ w (f.put d v (by simpa using hn)) g
theorem zF4 {o : Oper} (ho : ops[pc]? = some o) (hg : guardB ops m o.guard = some false) (hd : o.dst = some d) (hn : Nat.blt d n = true) (next : Rq P n B ops Q (pc + 1) imm hs ((d, undef) :: m)) : Rq P n B ops Q pc imm hs m := fun a w f g => by
  rw [jJ ho]
  refine wpQuiet_step fun K hK => ?_
  rw [if_neg (by rw [f.wanted hg]; simp)]
  refine hK _ ?_
  rw [hd]
  exact next _ w (f.put d undef (by simpa using hn)) g
theorem zHX {o : Oper} {m' : FM} (ho : ops[pc]? = some o) (h : run1 P n ops m o = some m') (hR : Rq P n B ops Q (pc + 1) imm hs m') : Rq P n B ops Q pc imm hs m := by
  unfold run1 at h
  split at h
  · cases h
  · rename_i d hd
    cases hn : Nat.blt d n with
    | false => rw [hn] at h; cases h
    | true =>
      rw [hn] at h
      simp only [cond_true] at h
      split at h
      · rename_i hg
        split at h
        · rename_i v hv
          cases h
          exact gC ho hg hd hn (fun oo a w he f _ => dN f (by rw [he]; exact hv)) hR
        · cases h
      · rename_i hg
        cases h
        exact zF4 ho hg hd hn hR
      · cases h
/-! ### What reads what -/
theorem zG6 {α : Type} [Rp α] {t : TypeId} {x xi : Operand} {v : Value} {k : IntKind} {i : Int} {l : List α} {y : α}
    (hx : val m x = some v) (hi : val m xi = some (.int k i)) (ht : elemT P t = some (Rp.sz α)) (hs' : SL imm v l) (hy : idx l i = some y) :
    ∃ ad ccs, At imm ad ccs ∧ Rp.rep imm ccs y ∧ Reads P n B imm hs m (.indexAddr t x xi) (.pointer (some ad)) := by
  obtain ⟨h0, h1, h2⟩ := sB hy
  obtain ⟨ccs, hsl, hr⟩ := hs'
  have hlen := hr.length
  obtain ⟨hrep, hbd⟩ := hr.at h2
  rcases hsl with ⟨rfl, rfl⟩ | ⟨b, off, len, cap, c, rfl, hc, hle, _, hcl, hcs⟩
  · have := Rp.pos (α := α)
    simp at hbd; omega
  · have hll : len = l.length := pJ (Rp.pos (α := α)) (by omega)
    subst hll
    have hat : At imm ⟨b, off + i.toNat * Rp.sz α, none⟩ ((ccs.drop (i.toNat * Rp.sz α)).take (Rp.sz α)) := by
      refine ⟨b, _, c, rfl, hc, ?_, ?_⟩
      · simp only [List.length_take, List.length_drop]; omega
      · rw [← List.drop_drop]
        conv => rhs; rw [← hcs, List.drop_take, List.take_take]
        congr 1
        simp only [List.length_take, List.length_drop]
        omega
    exact ⟨_, _, hat, hrep, fun oo a w he f _ => by simp only [execOp, he, f.eval hx, f.eval hi, Sem.run_bind, eF ht h0 h1, Result.andThen_ok, Sem.run_pure]⟩
theorem zF5 {t : TypeId} {x : Operand} {ad : Addr} {cs cs' : List Value} {v : Value} (o : Nat) (hat : At imm ad cs) (hx : val m x = some (.pointer (some (ad.add o)))) (hol : Nat.ble o cs.length = true)
    (hc : (cs.drop o).take cs'.length = cs') (hv : loadV P t cs' = some v) : Reads P n B imm hs m (.load t x) v := fun oo a w he f gd => by
  obtain ⟨b, off, c, e, hb, hle, hcs⟩ := hat.sub o hol hc
  obtain ⟨ty', fr, hw⟩ := gd.inv b c hb
  simp only [execOp, he, f.eval hx, Instr.loadAt, Instr.sureAddr, Sem.run_bind, Sem.run_pure, Result.andThen_ok, e, nV hw hle hcs hv]
theorem zEo {t : TypeId} {x : Operand} {b o : Nat} {c : Array Value} {cs : List Value} {v : Value} (j : Nat) (hj : hs[j]? = some (.blk b c)) (hx : val m x = some (.pointer (some ⟨b, o, none⟩)))
    (hol : Nat.ble (o + cs.length) c.size = true) (hc : (c.toList.drop o).take cs.length = cs) (hv : loadV P t cs = some v) : Reads P n B imm hs m (.load t x) v := fun oo a w he f gd => by
  obtain ⟨_, _, ty', hw⟩ := gd.own _ (sW hj)
  simp only [execOp, he, f.eval hx, Instr.loadAt, Instr.sureAddr, Sem.run_bind, Sem.run_pure, Result.andThen_ok, nV hw (Nat.le_of_ble_eq_true hol) hc hv]
/-! ### Strings -/
def cat (a b : Str) : Option Str := if a.l.length + b.l.length ≤ 9223372036854775807 then some ⟨a.l ++ b.l⟩ else none
def sidx (a : Str) (i : Int) : Option UInt8 := idx a.l i
def sslc (a : Str) (i k : Int) : Option Str := (slc a.l i k).map Str.mk
theorem zEW (a b : List UInt8) : (⟨⟨a⟩⟩ : ByteArray) ++ ⟨⟨b⟩⟩ = ⟨⟨a ++ b⟩⟩ := by
  apply ByteArray.ext
  simp [ByteArray.data_append]
theorem zDe (a : List UInt8) (i k : Nat) : (⟨⟨a⟩⟩ : ByteArray).extract i k = ⟨⟨(a.take k).drop i⟩⟩ := by
  apply ByteArray.ext
  simp only [ByteArray.data_extract]
  apply Array.ext'
  simp [List.extract_eq_take_drop, List.drop_take]
theorem zHq {t t2 : TypeId} {x y : Operand} {a b c : Str} (hx : val m x = some (.string ⟨⟨a.l⟩⟩)) (hy : val m y = some (.string ⟨⟨b.l⟩⟩)) (h : cat a b = some c) : Reads P n B imm hs m (.binOp .add t x y t2) (.string ⟨⟨c.l⟩⟩) := fun oo ac w he f gd => by
  unfold cat at h
  split at h
  · rename_i hle
    cases h
    have h63 : ¬ ((((⟨⟨a.l⟩⟩ : ByteArray).size + (⟨⟨b.l⟩⟩ : ByteArray).size : Nat) : Int) > IntKind.i64.max) := by
      have hm : IntKind.i64.max = 9223372036854775807 := by decide
      have e1 : (⟨⟨a.l⟩⟩ : ByteArray).size = a.l.length := rfl
      have e2 : (⟨⟨b.l⟩⟩ : ByteArray).size = b.l.length := rfl
      rw [hm, e1, e2]
      omega
    simp only [execOp, he, f.eval hx, f.eval hy, Sem.run_bind, eqGuard, Bool.not_false, if_true, Sem.run_pure, Result.andThen_ok, binOp, Op.stringOp, h63, if_false]
    rw [zEW]
  · cases h
theorem zGD {t : TypeId} {x y : Operand} {a : Str} {k : IntKind} {i : Int} {c : UInt8} (hx : val m x = some (.string ⟨⟨a.l⟩⟩)) (hy : val m y = some (.int k i)) (hu : P.underlying t = some .string) (h : sidx a i = some c) : Reads P n B imm hs m (.index t x y) (.int .u8 (c.toNat : Int)) := fun oo ac w he f gd => by
  obtain ⟨h0, h1, h2⟩ := sB h
  have hg : (⟨⟨a.l⟩⟩ : ByteArray)[i.toNat]? = some c := by
    have hlt : i.toNat < (⟨⟨a.l⟩⟩ : ByteArray).size := (List.getElem?_eq_some_iff.1 h2).1
    rw [getElem?_pos (⟨⟨a.l⟩⟩ : ByteArray) i.toNat hlt]
    congr 1
    exact (List.getElem?_eq_some_iff.1 h2).2
  simp only [execOp, he, f.eval hx, f.eval hy, Instr.index, asIntOf, Sem.run_bind, Sem.run_pure, Result.andThen_ok, xE hu, h0, if_true, hg]
theorem zGE {t : TypeId} {x : Operand} {lo hi : Option Operand} {a c : Str} {i k : Int} (hx : val m x = some (.string ⟨⟨a.l⟩⟩)) (hu : P.underlying t = some .string)
    (hlo : bnd m 0 lo = some i) (hhi : bnd m a.l.length hi = some k) (hy : sslc a i k = some c) : Reads P n B imm hs m (.slice t x lo hi none) (.string ⟨⟨c.l⟩⟩) := fun oo ac w he f gd => by
  unfold sslc slc at hy
  split at hy
  · rename_i hb
    cases hy
    have hbd : (Instr.sliceBounds false a.l.length a.l.length (lo.map ac.eval) (hi.map ac.eval) none).run P w = .ok (i.toNat, k.toNat, a.l.length) w := by
      have hh : ∀ {x : Operand} {j : Int} {y : Nat} {c : BoundsCode}, (∃ kd, val m x = some (.int kd j)) → 0 ≤ j → j ≤ y → (Instr.sliceBound (ac.eval x) y c).run P w = .ok j.toNat w := fun ⟨kd, hx⟩ h4 h5 => by
        simp [Instr.sliceBound, f.eval hx, asIntOf, h4, h5]
      have ob : ∀ {x : Operand} {dflt j : Int}, bnd m dflt (some x) = some j → ∃ kd, val m x = some (.int kd j) := fun {x dflt j} h => by
        simp only [bnd] at h
        split at h
        · rename_i kd k' hx; cases h; exact ⟨kd, hx⟩
        · cases h
      cases hi with
      | none =>
        simp only [bnd, Option.some.injEq] at hhi
        subst hhi
        cases lo with
        | none =>
          simp only [bnd, Option.some.injEq] at hlo
          subst hlo
          simp [Instr.sliceBounds]
        | some x => simp [Instr.sliceBounds, hh (ob hlo) hb.1 hb.2.1]
      | some z =>
        cases lo with
        | none =>
          simp only [bnd, Option.some.injEq] at hlo
          subst hlo
          have e1 := hh (y := a.l.length) (c := .sliceAlen) (ob hhi) (by omega) (by omega)
          simp [Instr.sliceBounds, e1]
        | some x =>
          have e1 := hh (y := a.l.length) (c := .sliceAlen) (ob hhi) (by omega) (by omega)
          have e2 := hh (y := k.toNat) (c := .sliceB) (ob hlo) hb.1 (by omega)
          simp [Instr.sliceBounds, e1, e2]
    have hsz : (⟨⟨a.l⟩⟩ : ByteArray).size = a.l.length := rfl
    simp only [execOp, he, f.eval hx, Option.map_none, Instr.sliceAt, Instr.slice, Sem.run_bind, xE hu, Result.andThen_ok, Option.isSome_none, Bool.false_eq_true, if_false, hsz, hbd, Sem.run_pure, zDe]
  · cases hy
end
end Go.LN
