/- Contracts of strings.Split and strconv.Atoi, out of the library's own. -/
import Derived.Test.YtbgdegfnaofkfaaDoorPLnQ
import Derived.Lib.AtoiErrMem
import Derived.Lib.AtoiTie
import Derived.Lib.SplitLaws
import Derived.Lib.AtoiAll
namespace Go.LN
set_option linter.unusedVariables false
set_option linter.unusedSimpArgs false
open Go.RowKit
theorem Good.below {imm : Imm} {w w' : World} (h : Good ⟨w, imm, []⟩ imm [] w) (b : Below w.heap.size w w') : Good ⟨w, imm, []⟩ imm [] w' := by
  refine ⟨fun k c e => ?_, by simp, by simp, ⟨b.os, b.tape, b.output, b.size, fun k hk _ => b.block k hk, fun _ _ _ => rfl⟩⟩
  obtain ⟨ty, fr, e'⟩ := h.inv k c e
  exact ⟨ty, fr, (b.block k (h.lt_imm e)).trans e'⟩
theorem Good.cell {B : Base} {imm : Imm} {hs : List HA} {w : World} (h : Good B imm hs w) {g : Nat} {v : Value} (e : imm g = some #[v]) : w.cell? ⟨g, 0, none⟩ = some v := by
  obtain ⟨ty, fr, e'⟩ := h.inv _ _ e
  simp only [World.cell?, e']
  simp
def ErrV (v : Value) (b : Bool) : Prop := (b = false ∧ v = .nilIface) ∨ (b = true ∧ ∃ t p, v = .iface t p)
def atoiM (s : Str) : Int × Bool := match Lib.atoiAll s.l with
  | .ok v => (v, false)
  | .range => (Lib.atoiSat s.l, true)
  | _ => (0, true)
theorem ret_atoi {P : Program} {f : FuncId} {s : Str} {t5 ti tn : TypeId} {g1 g2 : Nat} {imm : Imm} (hl : s.l.length ≤ 281474976710656)
    (h1 : ∃ t p, imm g1 = some #[.iface t p]) (h2 : ∃ t p, imm g2 = some #[.iface t p])
    (cok : ∀ (s : ByteArray) (hmax : s.size ≤ 9223372036854775806) (v : Int) (h : Lib.atoiAll s.data.toList = .ok v) (w : World), Calls P f #[.string s] w fun e w' => e = .returned (.tuple #[.int .i64 v, .nilIface]) ∧ (w' = w ∨ ∃ t, w' = Lib.bytesWorld w t5 t))
    (csy : ∀ (s : ByteArray) (hlim : s.size ≤ 281474976710656) (h : Lib.atoiAll s.data.toList = Lib.NumEnd.ofOption none) (ev : Value) (w : World) (hv : w.cell? ⟨g1, 0, none⟩ = some ev) (hev : ev = .nilIface ∨ ∃ te pe, ev = .iface te pe),
      Calls P f #[.string s] w fun e w' => ∃ N, e = .returned (.tuple #[.int .i64 (0), .iface ti (.pointer (some ⟨N, 0, none⟩))]) ∧ w.heap.size ≤ N ∧ w'.heap[N]? = some (.cells #[.string ⟨#[65, 116, 111, 105]⟩, .string s, ev] tn (0, 0)) ∧ Below w.heap.size w w')
    (crg : ∀ (s : ByteArray) (hlim : s.size ≤ 281474976710656) (h : Lib.atoiAll s.data.toList = .range) (ev : Value) (w : World) (hv : w.cell? ⟨g2, 0, none⟩ = some ev) (hev : ev = .nilIface ∨ ∃ te pe, ev = .iface te pe),
      Calls P f #[.string s] w fun e w' => ∃ N, e = .returned (.tuple #[.int .i64 (Lib.atoiSat s.data.toList), .iface ti (.pointer (some ⟨N, 0, none⟩))]) ∧ w.heap.size ≤ N ∧ w'.heap[N]? = some (.cells #[.string ⟨#[65, 116, 111, 105]⟩, .string s, ev] tn (0, 0)) ∧ Below w.heap.size w w')
    {post : Nat → Imm → List HA → Value → Prop} (hp : ∀ k v, ErrV v (atoiM s).2 → post k imm [] (.tuple #[.int .i64 (atoiM s).1, v])) : Ret P f [.string ⟨⟨s.l⟩⟩] imm [] post := by
  intro w g
  have hsz : (⟨⟨s.l⟩⟩ : ByteArray).size = s.l.length := rfl
  cases hc : Lib.atoiAll s.l
  · rename_i v
    have em : atoiM s = (v, false) := by unfold atoiM; rw [hc]
    rw [em] at hp
    refine (cok ⟨⟨s.l⟩⟩ (by rw [hsz]; omega) v hc w).mono fun e w' ⟨he, hw⟩ => ?_
    subst he
    refine ⟨imm, [], hp _ _ (.inl ⟨rfl, rfl⟩), ?_⟩
    rcases hw with rfl | ⟨t, rfl⟩
    · exact g
    · exact g.below (Lib.bytesWorld_below _ _ _)
  · have em : atoiM s = (0, true) := by unfold atoiM; rw [hc]
    rw [em] at hp
    obtain ⟨t, p, h1⟩ := h1
    refine (csy ⟨⟨s.l⟩⟩ (by rw [hsz]; exact hl) hc _ w (g.cell h1) (.inr ⟨t, p, rfl⟩)).mono fun e w' ⟨N, he, _, _, hb⟩ => ?_
    subst he
    exact ⟨imm, [], hp _ _ (.inr ⟨rfl, _, _, rfl⟩), g.below hb⟩
  · have em : atoiM s = (Lib.atoiSat s.l, true) := by unfold atoiM; rw [hc]
    rw [em] at hp
    obtain ⟨t, p, h2⟩ := h2
    refine (crg ⟨⟨s.l⟩⟩ (by rw [hsz]; exact hl) hc _ w (g.cell h2) (.inr ⟨t, p, rfl⟩)).mono fun e w' ⟨N, he, _, _, hb⟩ => ?_
    subst he
    exact ⟨imm, [], hp _ _ (.inr ⟨rfl, _, _, rfl⟩), g.below hb⟩
theorem repS {i : Imm} : ∀ (l : List ByteArray), RepL (Rp.rep i) (Rp.sz Str) (l.map Value.string) (l.map fun b => Str.mk b.data.toList)
  | [] => rfl
  | x :: l => ⟨[.string x], l.map Value.string, rfl, rfl, rfl, repS l⟩
def splitM (s sep : Str) : List Str := (Lib.split s.l sep.l).map Str.mk
theorem ret_split {P : Program} {f : FuncId} {s sep : Str} {t9 : TypeId} {g0 : Nat} {imm : Imm} (hs : s.l.length < 4294967281) (hsep : 1 ≤ sep.l.length)
    (hm : ∃ m, imm g0 = some #[.int .i64 m])
    (hc : ∀ (s sep : ByteArray) (m : Int) (w : World) (hs : s.size < 4294967281) (hm : w.cell? ⟨g0, 0, none⟩ = some (.int .i64 m)) (h1 : 1 ≤ sep.size),
      Calls P f #[.string s, .string sep] w fun e w' => e = .returned (.slice (some ⟨w.heap.size, 0, none⟩) (Lib.countB s sep + 1) (Lib.countB s sep + 1)) ∧ w' = w.alloc (.cells ((Lib.splitB sep 0 (Lib.countB s sep) s).map Value.string).toArray t9))
    {post : Nat → Imm → List HA → Value → Prop} (hp : ∀ k imm' a c, imm.le imm' → SL imm' (vS a (splitM s sep) c) (splitM s sep) → post k imm' [] (vS a (splitM s sep) c)) : Ret P f [.string ⟨⟨s.l⟩⟩, .string ⟨⟨sep.l⟩⟩] imm [] post := by
  intro w g
  obtain ⟨m, hm⟩ := hm
  refine (hc ⟨⟨s.l⟩⟩ ⟨⟨sep.l⟩⟩ m w hs (g.cell hm) hsep).mono fun e w' ⟨he, hw⟩ => ?_
  subst he
  have hlen : (Lib.splitB ⟨⟨sep.l⟩⟩ 0 (Lib.countB ⟨⟨s.l⟩⟩ ⟨⟨sep.l⟩⟩) ⟨⟨s.l⟩⟩).length = Lib.countB ⟨⟨s.l⟩⟩ ⟨⟨sep.l⟩⟩ + 1 := Lib.splitB_all (⟨⟨sep.l⟩⟩ : ByteArray) hsep 0 _ _ rfl
  have hle := Lib.countB_le (⟨⟨sep.l⟩⟩ : ByteArray) hsep s.l.length ⟨⟨s.l⟩⟩ (Nat.le_refl _)
  have hdat : (Lib.splitB ⟨⟨sep.l⟩⟩ 0 (Lib.countB ⟨⟨s.l⟩⟩ ⟨⟨sep.l⟩⟩) ⟨⟨s.l⟩⟩).map (fun b => Str.mk b.data.toList) = splitM s sep := by
    unfold splitM Lib.split
    have := Lib.splitB_data (⟨⟨sep.l⟩⟩ : ByteArray) 0 (Lib.countB ⟨⟨s.l⟩⟩ ⟨⟨sep.l⟩⟩) ⟨⟨s.l⟩⟩
    have e : Lib.splitK sep.l 0 (Lib.count s.l sep.l) s.l = (Lib.splitB (⟨⟨sep.l⟩⟩ : ByteArray) 0 (Lib.countB ⟨⟨s.l⟩⟩ ⟨⟨sep.l⟩⟩) ⟨⟨s.l⟩⟩).map (·.data.toList) := this.symm
    rw [e, List.map_map]
    rfl
  generalize hps : Lib.splitB ⟨⟨sep.l⟩⟩ 0 (Lib.countB ⟨⟨s.l⟩⟩ ⟨⟨sep.l⟩⟩) ⟨⟨s.l⟩⟩ = ps at hlen hdat hw
  have hl2 : ps.length = (splitM s sep).length := by rw [← hdat]; simp
  have g2 := g.alloc_osl (ps.map Value.string).toArray t9 1 ps.length ps.length (ps.map Value.string) (by simp) (Nat.le_refl _) (by rw [Nat.mul_one]; exact List.take_of_length_le (by simp)) (by simp) (by
    have hz : (⟨⟨s.l⟩⟩ : ByteArray).size = s.l.length := rfl
    clear hc; have : (⟨⟨s.l⟩⟩ : ByteArray).size = s.l.length := rfl; omega)
  obtain ⟨imm', h1, h2, h3⟩ := g2.freeze rfl
  have hsl : SL imm' (.slice (some ⟨w.heap.size, 0, none⟩) ps.length ps.length) (ps.map fun b => Str.mk b.data.toList) := SL.of_frozen (α := Str) h2 h1 (repS ps)
  rw [hdat] at hsl
  rw [← hlen]
  refine ⟨imm', [], ?_, ?_⟩
  · rw [hl2] at hsl ⊢
    exact hp _ imm' _ _ h1 hsl
  · subst hw
    exact h3
/-! Arrays of integers that lie in a block. -/
def arrT (P : Program) (t : TypeId) : Option (Nat × Nat) := match P.underlying t with | some (.array len e) => (sizeT P e).map (fun s => (len, s)) | _ => none
section
variable {P : Program} {n : Nat} {B : Base} {ops : List Oper} {Q : Exit → Act → World → Prop} {pc : Nat} {imm : Imm} {hs : List HA} {m : FM} {d : Nat}
  {ty : TypeId} {pos : String} {after : Array Edge} {g : Option (Nat × Bool)}
theorem run_indexArr {w : World} {t len sz b : Nat} {k : IntKind} {i : Int} (ht : arrT P t = some (len, sz)) (h0 : 0 ≤ i) (h1 : i < len) :
    (Instr.indexAt t (.pointer (some ⟨b, 0, none⟩)) (.int k i)).run P w = .ok (.pointer (some ⟨b, i.toNat * sz, none⟩)) w := by
  unfold arrT at ht
  split at ht
  · rename_i l e hu
    cases hs : sizeT P e with
    | none => rw [hs] at ht; cases ht
    | some s =>
      rw [hs] at ht
      cases ht
      simp [Instr.indexAt, asIntOf, run_underlying hu, h0, h1, run_sizeOf hs, add_plain, Instr.sureAddr]
  · cases ht
theorem R_ixa {t len b : Nat} {x xi : Operand} {k : IntKind} {i : Int} (ho : ops[pc]? = some ⟨some d, .indexAddr t x xi, ty, pos, after, g⟩) (hg : guardB ops m g = some true) (hn : Nat.blt d n = true) (hx : val m x = some (.pointer (some ⟨b, 0, none⟩))) (hi : val m xi = some (.int k i))
    (ht : arrT P t = some (len, 1)) (h0 : 0 ≤ i) (h1 : i < len) (next : R P n B ops Q (pc + 1) imm hs ((d, .pointer (some ⟨b, i.toNat, none⟩)) :: m)) : R P n B ops Q pc imm hs m := by
  refine R_value ho hg rfl hn fun a w f gd => ?_
  have hrun := run_indexArr (P := P) (w := w) (b := b) (k := k) ht h0 h1
  rw [Nat.mul_one] at hrun
  exact ⟨_, w, imm, hs, by simp only [execOp, f.eval hx, f.eval hi, Sem.run_bind, hrun, Result.andThen_ok, Sem.run_pure], gd, next⟩
theorem wr_ints {l : List Int} {i : Nat} {v : Int} : wr ⟨l.map (Value.int .i64)⟩ i [Value.int .i64 v] = ⟨(l.set i v).map (Value.int .i64)⟩ := by
  simp [wr, List.map_set]
theorem R_sba {t b i : Nat} {x y : Operand} {l : List Int} {v : Int} {hs' : List HA} (j : Nat) (ho : ops[pc]? = some ⟨none, .store t x y, ty, pos, after, g⟩) (hg : guardB ops m g = some true) (hj : hs[j]? = some (.blk b ⟨l.map (Value.int .i64)⟩)) (hx : val m x = some (.pointer (some ⟨b, i, none⟩))) (hy : val m y = some (.int .i64 v))
    (hsz : sizeT P t = some 1) (hi : i < l.length) (hh : hs.set j (.blk b ⟨(l.set i v).map (Value.int .i64)⟩) = hs') (next : R P n B ops Q (pc + 1) imm hs' m) : R P n B ops Q pc imm hs m :=
  R_store_blk (c := ⟨l.map (Value.int .i64)⟩) (c' := ⟨(l.set i v).map (Value.int .i64)⟩) (v := .int .i64 v) j ho hg hj hx hy hsz (Nat.ble_eq_true_of_le (by simp [Value.cells]; omega)) rfl wr_ints hh next
theorem three {l : List Int} (h : l.length = 3) : ∃ a b c, l = [a, b, c] := by
  match l, h with
  | [a, b, c], _ => exact ⟨a, b, c, rfl⟩
end
end Go.LN
