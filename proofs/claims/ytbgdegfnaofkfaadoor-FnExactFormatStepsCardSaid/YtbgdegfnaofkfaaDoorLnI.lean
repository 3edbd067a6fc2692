/- Regions that leave their order open and only read: one walk in the order of the text. -/
import Derived.Test.YtbgdegfnaofkfaaDoorLnH
import Derived.Deep.Quiet
namespace Go.LN

/-- The worlds that differ from 'w' in the count of draws alone. -/
def Cq (w w' : World) : Prop := ∃ k, w' = w.drewN k

def Rq (P : Program) (n : Nat) (B : Base) (ops : List Oper) (Q : Exit → Act → World → Prop) (pc : Nat) (imm : Imm) (hs : List HA) (m : FM) : Prop :=
  ∀ a w, Fr n a m → Good B imm hs w → wpQuiet P ops.toArray (Cq w) (fun a' => ∀ w', Cq w w' → Q .normal a' w') (ops.drop pc) a

section
variable {P : Program} {n : Nat} {B : Base} {Q : Exit → Act → World → Prop} {imm : Imm} {hs : List HA} {m : FM} {ops : List Oper} {pc d : Nat}

theorem Good.drewN {w : World} (h : Good B imm hs w) (k : Nat) : Good B imm hs (w.drewN k) := h.draw _

theorem J_region_q {id : Nat} {ops : List Oper} (hm : P.follows .mixedOrders = true) (hB : Region.lexB .any ops.toArray = true) (h : Rq P n B ops Q 0 imm hs m) : J P n B (.region id ops.toArray true) Q imm hs m := fun a w f g =>
  wp_region_quiet_lit hm hB (by
    have := h a w f g
    rw [List.drop_zero] at this
    exact this)

theorem Rq_end {ops : List Oper} {pc : Nat} (h0 : ops.drop pc = []) (h : T n B Q .normal imm hs m) : Rq P n B ops Q pc imm hs m := fun a w f g => by
  rw [h0]
  refine wpQuiet_nil ?_
  rintro w' ⟨k, rfl⟩
  exact h a _ f (g.drewN k)

theorem drop_of_get {α : Type} {ops : List α} {pc : Nat} {o : α} (ho : ops[pc]? = some o) : ops.drop pc = o :: ops.drop (pc + 1) := by
  have hlt : pc < ops.length := by
    rcases Nat.lt_or_ge pc ops.length with h | h
    · exact h
    · rw [List.getElem?_eq_none h] at ho; cases ho
  rw [List.drop_eq_getElem_cons hlt]
  rw [List.getElem?_eq_getElem hlt] at ho
  cases ho; rfl

/-- An operation that reads: its value is the same in every world that is good. -/
def Reads (P : Program) (n : Nat) (B : Base) (imm : Imm) (hs : List HA) (m : FM) (o : Op) (v : Value) : Prop :=
  ∀ (oo : Oper) a w, oo.op = o → Fr n a m → Good B imm hs w → (execOp a.eval oo).run P w = .ok (.value v) w

theorem R_reads {o : Oper} {v : Value} (ho : ops[pc]? = some o) (hg : guardB ops m o.guard = some true) (hd : o.dst = some d) (hn : Nat.blt d n = true) (h : Reads P n B imm hs m o.op v) (next : R P n B ops Q (pc + 1) imm hs ((d, v) :: m)) :
    R P n B ops Q pc imm hs m := R_value ho hg hd hn fun a w f g => ⟨v, w, imm, hs, h o a w rfl f g, g, next⟩

theorem Rq_reads {o : Oper} {v : Value} (ho : ops[pc]? = some o) (hg : guardB ops m o.guard = some true) (hd : o.dst = some d) (hn : Nat.blt d n = true) (h : Reads P n B imm hs m o.op v) (next : Rq P n B ops Q (pc + 1) imm hs ((d, v) :: m)) :
    Rq P n B ops Q pc imm hs m := fun a w f g => by
  rw [drop_of_get ho]
  refine wpQuiet_step fun K hK => ?_
  rw [if_pos (f.wanted hg)]
  refine ⟨v, ?_, hK _ ?_⟩
  · rintro w' ⟨k, rfl⟩
    unfold Oper.quietAt
    rw [h o a _ rfl f (g.drewN k)]
    exact ⟨rfl, rfl⟩
  · rw [hd]
    exact next _ w (f.put d v (by simpa using hn)) g

theorem Rq_skipped {o : Oper} (ho : ops[pc]? = some o) (hg : guardB ops m o.guard = some false) (hd : o.dst = some d) (hn : Nat.blt d n = true) (next : Rq P n B ops Q (pc + 1) imm hs ((d, undef) :: m)) : Rq P n B ops Q pc imm hs m := fun a w f g => by
  rw [drop_of_get ho]
  refine wpQuiet_step fun K hK => ?_
  rw [if_neg (by rw [f.wanted hg]; simp)]
  refine hK _ ?_
  rw [hd]
  exact next _ w (f.put d undef (by simpa using hn)) g

/-- A call that reads only, and hands back one value. -/
theorem Rq_call {f : FuncId} {x : Operand} {xs : Array Operand} {ts : Array TypeId} {ty : TypeId} {pos : String} {after : Array Edge} {g : Option (Nat × Bool)} {vs : List Value} {v : Value}
    (ho : ops[pc]? = some ⟨some d, .call { callee := .value x, args := xs, argTypes := ts }, ty, pos, after, g⟩) (hg : guardB ops m g = some true) (hn : Nat.blt d n = true) (hx : val m x = some (.func (.func f) #[] #[])) (hf : callable P f = true)
    (hvs : vals m xs.toList = some vs) (hc : ∀ w, Good B imm hs w → Calls P f vs.toArray w fun e w' => e = .returned v ∧ ∃ k, w' = w.drewN k) (next : Rq P n B ops Q (pc + 1) imm hs ((d, v) :: m)) : Rq P n B ops Q pc imm hs m := fun a w fr gd => by
  rw [drop_of_get ho]
  refine wpQuiet_step fun K hK => ?_
  rw [if_pos (fr.wanted hg)]
  have hargs : xs.map a.eval = vs.toArray := by apply Array.ext'; rw [Array.toList_map, fr.evals hvs]
  refine ⟨v, ?_, hK _ (next _ w (fr.put d v (by simpa using hn)) gd)⟩
  rintro w' ⟨k, rfl⟩
  unfold Oper.quietAt
  simp only [execOp, resolve, Deferred.ofValue, fr.eval hx, hargs, Sem.run_bind, Sem.run_pure, Result.andThen_ok, invoke, Array.empty_append, Array.append_empty, run_callFunc hf, Oper.quietUpon]
  refine ⟨trivial, (hc _ (gd.drewN k)).mono fun e w'' ⟨he, k', hw⟩ => ⟨he, k + k', ?_⟩⟩
  rw [hw, World.drewN_drewN]

theorem Rq_weaken {m' : FM} (hs' : sub m m') (h : Rq P n B ops Q pc imm hs m') : Rq P n B ops Q pc imm hs m := fun a w f g => h a w (f.weaken hs') g

theorem Rq_run1 {o : Oper} {m' : FM} (ho : ops[pc]? = some o) (h : run1 P n ops m o = some m') (hR : Rq P n B ops Q (pc + 1) imm hs m') : Rq P n B ops Q pc imm hs m := by
  unfold run1 at h
  split at h
  · cases h
  · rename_i d hd
    cases hn : Nat.blt d n with
    | false => rw [hn] at h; cases h
    | true =>
      rw [hn] at h
      simp only [cond_true] at h
      split at h
      · rename_i hg
        split at h
        · rename_i v hv
          cases h
          exact Rq_reads ho hg hd hn (fun oo a w he f _ => pure1_run f (by rw [he]; exact hv)) hR
        · cases h
      · rename_i hg
        cases h
        exact Rq_skipped ho hg hd hn hR
      · cases h

theorem Rq_runL : ∀ (l : List Oper) {pc : Nat} {m m' : FM}, (∃ r, ops.drop pc = l ++ r) → runL P n ops l m = some m' → Rq P n B ops Q (pc + l.length) imm hs m' → Rq P n B ops Q pc imm hs m
  | [], pc, m, m', _, h, hR => by simp only [runL] at h; cases h; exact hR
  | o :: l, pc, m, m', ⟨r, hr⟩, h, hR => by
    simp only [runL] at h
    split at h
    · rename_i m1 h1
      have ho : ops[pc]? = some o := by
        have h0 : (ops.drop pc)[0]? = some o := by rw [hr]; rfl
        simpa using h0
      refine Rq_run1 ho h1 (Rq_runL l ⟨r, ?_⟩ h ?_)
      · rw [← List.drop_drop, hr]; rfl
      · have : pc + 1 + l.length = pc + (o :: l).length := by simp; omega
        rw [this]; exact hR
    · cases h

theorem Rq_pure (k : Nat) (pc' : Nat) (ks : List Nat) {m' : FM} (h : runK P n ops pc k ks m = some m') (hl : Nat.beq (pc + ((ops.drop pc).take k).length) pc' = true) (hR : Rq P n B ops Q pc' imm hs m') : Rq P n B ops Q pc imm hs m := by
  unfold runK at h
  split at h
  · rename_i m1 h1
    refine Rq_runL _ ⟨(ops.drop pc).drop k, (List.take_append_drop ..).symm⟩ h1 (Rq_weaken (keep_sub h) ?_)
    rw [Nat.eq_of_beq_eq_true hl]; exact hR
  · cases h

theorem Rq_p (pc' : Nat) (m' : FM) (hR : Rq P n B ops Q pc' imm hs m') (h : runK P n ops pc (pc' - pc) (m'.map (·.1)) m = some m' := by kernel_rfl) (hl : Nat.beq (pc + ((ops.drop pc).take (pc' - pc)).length) pc' = true := by kernel_rfl) : Rq P n B ops Q pc imm hs m :=
  Rq_pure _ pc' _ h hl hR

/-! ### What reads what -/
theorem Rd_index {α : Type} [Rp α] {t : TypeId} {x xi : Operand} {v : Value} {k : IntKind} {i : Int} {l : List α} {y : α}
    (hx : val m x = some v) (hi : val m xi = some (.int k i)) (ht : elemT P t = some (Rp.sz α)) (hs' : SL imm v l) (hy : idx l i = some y) :
    ∃ ad ccs, At imm ad ccs ∧ Rp.rep imm ccs y ∧ Reads P n B imm hs m (.indexAddr t x xi) (.pointer (some ad)) := by
  obtain ⟨h0, h1, h2⟩ := idx_some hy
  obtain ⟨ccs, hsl, hr⟩ := hs'
  have hlen := hr.length
  obtain ⟨hrep, hbd⟩ := hr.at h2
  rcases hsl with ⟨rfl, rfl⟩ | ⟨b, off, len, cap, c, rfl, hc, hle, _, hcl, hcs⟩
  · have := Rp.pos (α := α)
    simp at hbd; omega
  · have hll : len = l.length := len_of_mul (Rp.pos (α := α)) (by omega)
    subst hll
    have hat : At imm ⟨b, off + i.toNat * Rp.sz α, none⟩ ((ccs.drop (i.toNat * Rp.sz α)).take (Rp.sz α)) := by
      refine ⟨b, _, c, rfl, hc, ?_, ?_⟩
      · simp only [List.length_take, List.length_drop]; omega
      · rw [← List.drop_drop]
        conv => rhs; rw [← hcs, List.drop_take, List.take_take]
        congr 1
        simp only [List.length_take, List.length_drop]
        omega
    exact ⟨_, _, hat, hrep, fun oo a w he f _ => by simp only [execOp, he, f.eval hx, f.eval hi, Sem.run_bind, run_indexAt ht h0 h1, Result.andThen_ok, Sem.run_pure]⟩

theorem Rd_load_at {t : TypeId} {x : Operand} {ad : Addr} {cs cs' : List Value} {v : Value} (o : Nat) (hat : At imm ad cs) (hx : val m x = some (.pointer (some (ad.add o)))) (hol : Nat.ble o cs.length = true)
    (hc : (cs.drop o).take cs'.length = cs') (hv : loadV P t cs' = some v) : Reads P n B imm hs m (.load t x) v := fun oo a w he f gd => by
  obtain ⟨b, off, c, e, hb, hle, hcs⟩ := hat.sub o hol hc
  obtain ⟨ty', fr, hw⟩ := gd.inv b c hb
  simp only [execOp, he, f.eval hx, Instr.loadAt, Instr.sureAddr, Sem.run_bind, Sem.run_pure, Result.andThen_ok, e, run_loadVar hw hle hcs hv]

theorem Rd_load_blk {t : TypeId} {x : Operand} {b o : Nat} {c : Array Value} {cs : List Value} {v : Value} (j : Nat) (hj : hs[j]? = some (.blk b c)) (hx : val m x = some (.pointer (some ⟨b, o, none⟩)))
    (hol : Nat.ble (o + cs.length) c.size = true) (hc : (c.toList.drop o).take cs.length = cs) (hv : loadV P t cs = some v) : Reads P n B imm hs m (.load t x) v := fun oo a w he f gd => by
  obtain ⟨_, _, ty', hw⟩ := gd.own _ (mem_of_get hj)
  simp only [execOp, he, f.eval hx, Instr.loadAt, Instr.sureAddr, Sem.run_bind, Sem.run_pure, Result.andThen_ok, run_loadVar hw (Nat.le_of_ble_eq_true hol) hc hv]

theorem Rd_index_osl {α : Type} [Rp α] {t : TypeId} {x xi : Operand} {a0 : Option Addr} {cap0 : Nat} {k : IntKind} {i : Int} {cs : List Value} {l : List α} {y : α} (j : Nat)
    (hj : hs[j]? = some (.osl (.slice a0 l.length cap0) (Rp.sz α) cs)) (hx : val m x = some (.slice a0 l.length cap0)) (hi : val m xi = some (.int k i)) (ht : elemT P t = some (Rp.sz α))
    (hr : RepL (Rp.rep imm) (Rp.sz α) cs l) (hy : idx l i = some y) (hne : ∃ b off, a0 = some ⟨b, off, none⟩) :
    ∃ ad cc, AtO (.slice a0 l.length cap0) (Rp.sz α) i.toNat ad ∧ (cs.drop (i.toNat * Rp.sz α)).take (Rp.sz α) = cc ∧ Rp.rep imm cc y ∧ Reads P n B imm hs m (.indexAddr t x xi) (.pointer (some ad)) := by
  obtain ⟨h0, h1, h2⟩ := idx_some hy
  obtain ⟨hrep, hbd⟩ := hr.at h2
  obtain ⟨b, off, rfl⟩ := hne
  exact ⟨_, _, ⟨b, off, _, cap0, rfl, rfl, by omega⟩, rfl, hrep, fun oo a w he f gd => by simp only [execOp, he, f.eval hx, f.eval hi, Sem.run_bind, run_indexAt ht h0 h1, Result.andThen_ok, Sem.run_pure]⟩

/-- An own slice that is not empty lies in a block. -/
theorem R_osl_some {α : Type} [Rp α] {a0 : Option Addr} {len cap : Nat} {cs : List Value} {l : List α} {i : Int} {y : α} (j : Nat) (hj : hs[j]? = some (.osl (.slice a0 len cap) (Rp.sz α) cs)) (hr : RepL (Rp.rep imm) (Rp.sz α) cs l) (hy : idx l i = some y)
    {C : Code} (next : (∃ b off, a0 = some ⟨b, off, none⟩) → J P n B C Q imm hs m) : J P n B C Q imm hs m := fun a w f g => by
  refine next ?_ a w f g
  obtain ⟨h0, h1, h2⟩ := idx_some hy
  rcases g.readO (mem_of_get hj) with ⟨e, rfl⟩ | ⟨b, off, len', cap', c, ty, fr, e, _⟩
  · have := (hr.at h2).2
    have := Rp.pos (α := α)
    simp at *; omega
  · injection e with e1; exact ⟨b, off, e1⟩

theorem Rd_load_osl {t : TypeId} {x : Operand} {v0 : Value} {sz i : Nat} {ad : Addr} {cs cc cc' : List Value} {v : Value} (j o : Nat) (hj : hs[j]? = some (.osl v0 sz cs)) (hat : AtO v0 sz i ad) (hx : val m x = some (.pointer (some (ad.add o))))
    (hcc : (cs.drop (i * sz)).take sz = cc) (hol : Nat.ble (o + cc'.length) sz = true) (hc : (cc.drop o).take cc'.length = cc') (hv : loadV P t cc' = some v) : Reads P n B imm hs m (.load t x) v := fun oo a w he f gd => by
  obtain ⟨b, off, len, cap, rfl, rfl, hi⟩ := hat
  have hol := Nat.le_of_ble_eq_true hol
  have him : i * sz + sz ≤ len * sz := by have := Nat.mul_le_mul_right sz hi; rw [Nat.succ_mul] at this; exact this
  rcases gd.readO (mem_of_get hj) with ⟨e, _⟩ | ⟨b', off', len', cap', c, ty', fr, e, hw, hle, hcl, hcs⟩
  · cases e
  · injection e with e1 e2 e3
    injection e1 with e1
    injection e1 with e1 e4 e5
    subst e1; subst e4; subst e2
    have hcells : (c.toList.drop (off + i * sz + o)).take cc'.length = cc' := by
      conv => rhs; rw [← hc, ← hcc, ← hcs]
      simp only [List.drop_take, List.take_take, List.drop_drop]
      rw [show off + i * sz + o = off + (i * sz + o) from by omega]
      congr 1
      omega
    simp only [execOp, he, f.eval hx, Instr.loadAt, Instr.sureAddr, Sem.run_bind, Sem.run_pure, Result.andThen_ok, add_plain, run_loadVar hw (by omega) hcells hv]

theorem Rd_slice {α : Type} [Rp α] {t : TypeId} {x : Operand} {lo hi : Option Operand} {v : Value} {i k : Int} {l l' : List α} (hx : val m x = some v) (ht : elemT P t = some (Rp.sz α))
    (hlo : bnd m 0 lo = some i) (hhi : bnd m l.length hi = some k) (hs' : SL imm v l) (hy : slc l i k = some l') : ∃ v', SL imm v' l' ∧ Reads P n B imm hs m (.slice t x lo hi none) v' := by
  unfold slc at hy
  split at hy
  · rename_i hb
    cases hy
    obtain ⟨ccs, hsl, hr⟩ := hs'
    obtain ⟨ad, cap, rfl⟩ := SL.form (imm := imm) ⟨ccs, hsl, hr⟩
    have hlc : l.length ≤ cap := by
      rcases hsl with ⟨e, rfl⟩ | ⟨b, off, len', cap', c, e, _, _, hlc, _⟩
      · injection e with _ e2 e3; omega
      · injection e with _ e2 e3; omega
    have hcut := hsl.cut hr Rp.pos (i := i.toNat) (k := k.toNat) (by omega) (by omega) _ _ _ rfl
    refine ⟨_, ⟨_, hcut⟩, fun oo a w he f gd => ?_⟩
    have hbd := run_sliceBounds (P := P) (w := w) f hlo hhi hb.1 hb.2.1 hb.2.2 hlc
    unfold elemT at ht
    split at ht
    · rename_i e hu
      simp only [execOp, he, f.eval hx, Option.map_none, Instr.sliceAt, Instr.slice, Sem.run_bind, run_underlying hu, Result.andThen_ok, hbd, run_sizeOf ht, Sem.run_pure]
    · cases ht
  · cases hy

/-! ### Strings -/
def cat (a b : Str) : Option Str := if a.l.length + b.l.length ≤ 9223372036854775807 then some ⟨a.l ++ b.l⟩ else none
def sidx (a : Str) (i : Int) : Option UInt8 := idx a.l i
def sslc (a : Str) (i k : Int) : Option Str := (slc a.l i k).map Str.mk

theorem bytes_append (a b : List UInt8) : (⟨⟨a⟩⟩ : ByteArray) ++ ⟨⟨b⟩⟩ = ⟨⟨a ++ b⟩⟩ := by
  apply ByteArray.ext
  simp [ByteArray.data_append]

theorem bytes_extract (a : List UInt8) (i k : Nat) : (⟨⟨a⟩⟩ : ByteArray).extract i k = ⟨⟨(a.take k).drop i⟩⟩ := by
  apply ByteArray.ext
  simp only [ByteArray.data_extract]
  apply Array.ext'
  simp [List.extract_eq_take_drop, List.drop_take]

theorem Rd_cat {t t2 : TypeId} {x y : Operand} {a b c : Str} (hx : val m x = some (.string ⟨⟨a.l⟩⟩)) (hy : val m y = some (.string ⟨⟨b.l⟩⟩)) (h : cat a b = some c) : Reads P n B imm hs m (.binOp .add t x y t2) (.string ⟨⟨c.l⟩⟩) := fun oo ac w he f gd => by
  unfold cat at h
  split at h
  · rename_i hle
    cases h
    have h63 : ¬ ((((⟨⟨a.l⟩⟩ : ByteArray).size + (⟨⟨b.l⟩⟩ : ByteArray).size : Nat) : Int) > IntKind.i64.max) := by
      have hm : IntKind.i64.max = 9223372036854775807 := by decide
      have e1 : (⟨⟨a.l⟩⟩ : ByteArray).size = a.l.length := rfl
      have e2 : (⟨⟨b.l⟩⟩ : ByteArray).size = b.l.length := rfl
      rw [hm, e1, e2]
      omega
    simp only [execOp, he, f.eval hx, f.eval hy, Sem.run_bind, eqGuard, Bool.not_false, if_true, Sem.run_pure, Result.andThen_ok, binOp, Op.stringOp, h63, if_false]
    rw [bytes_append]
  · cases h

theorem Rd_sindex {t : TypeId} {x y : Operand} {a : Str} {k : IntKind} {i : Int} {c : UInt8} (hx : val m x = some (.string ⟨⟨a.l⟩⟩)) (hy : val m y = some (.int k i)) (hu : P.underlying t = some .string) (h : sidx a i = some c) : Reads P n B imm hs m (.index t x y) (.int .u8 (c.toNat : Int)) := fun oo ac w he f gd => by
  obtain ⟨h0, h1, h2⟩ := idx_some h
  have hg : (⟨⟨a.l⟩⟩ : ByteArray)[i.toNat]? = some c := by
    have hlt : i.toNat < (⟨⟨a.l⟩⟩ : ByteArray).size := (List.getElem?_eq_some_iff.1 h2).1
    rw [getElem?_pos (⟨⟨a.l⟩⟩ : ByteArray) i.toNat hlt]
    congr 1
    exact (List.getElem?_eq_some_iff.1 h2).2
  simp only [execOp, he, f.eval hx, f.eval hy, Instr.index, asIntOf, Sem.run_bind, Sem.run_pure, Result.andThen_ok, run_underlying hu, h0, if_true, hg]

theorem Rd_sslice {t : TypeId} {x : Operand} {lo hi : Option Operand} {a c : Str} {i k : Int} (hx : val m x = some (.string ⟨⟨a.l⟩⟩)) (hu : P.underlying t = some .string)
    (hlo : bnd m 0 lo = some i) (hhi : bnd m a.l.length hi = some k) (hy : sslc a i k = some c) : Reads P n B imm hs m (.slice t x lo hi none) (.string ⟨⟨c.l⟩⟩) := fun oo ac w he f gd => by
  unfold sslc slc at hy
  split at hy
  · rename_i hb
    cases hy
    have hbd : (Instr.sliceBounds false a.l.length a.l.length (lo.map ac.eval) (hi.map ac.eval) none).run P w = .ok (i.toNat, k.toNat, a.l.length) w := by
      have hh : ∀ {x : Operand} {j : Int} {y : Nat} {c : BoundsCode}, (∃ kd, val m x = some (.int kd j)) → 0 ≤ j → j ≤ y → (Instr.sliceBound (ac.eval x) y c).run P w = .ok j.toNat w := fun ⟨kd, hx⟩ h4 h5 => by
        simp [Instr.sliceBound, f.eval hx, asIntOf, h4, h5]
      have ob : ∀ {x : Operand} {dflt j : Int}, bnd m dflt (some x) = some j → ∃ kd, val m x = some (.int kd j) := fun {x dflt j} h => by
        simp only [bnd] at h
        split at h
        · rename_i kd k' hx; cases h; exact ⟨kd, hx⟩
        · cases h
      cases hi with
      | none =>
        simp only [bnd, Option.some.injEq] at hhi
        subst hhi
        cases lo with
        | none =>
          simp only [bnd, Option.some.injEq] at hlo
          subst hlo
          simp [Instr.sliceBounds]
        | some x => simp [Instr.sliceBounds, hh (ob hlo) hb.1 hb.2.1]
      | some z =>
        cases lo with
        | none =>
          simp only [bnd, Option.some.injEq] at hlo
          subst hlo
          have e1 := hh (y := a.l.length) (c := .sliceAlen) (ob hhi) (by omega) (by omega)
          simp [Instr.sliceBounds, e1]
        | some x =>
          have e1 := hh (y := a.l.length) (c := .sliceAlen) (ob hhi) (by omega) (by omega)
          have e2 := hh (y := k.toNat) (c := .sliceB) (ob hlo) hb.1 (by omega)
          simp [Instr.sliceBounds, e1, e2]
    have hsz : (⟨⟨a.l⟩⟩ : ByteArray).size = a.l.length := rfl
    simp only [execOp, he, f.eval hx, Option.map_none, Instr.sliceAt, Instr.slice, Sem.run_bind, run_underlying hu, Result.andThen_ok, Option.isSome_none, Bool.false_eq_true, if_false, hsz, hbd, Sem.run_pure, bytes_extract]
  · cases hy

end
end Go.LN
