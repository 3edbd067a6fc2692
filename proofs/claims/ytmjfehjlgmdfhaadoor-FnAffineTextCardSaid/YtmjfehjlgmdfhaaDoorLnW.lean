/- Contracts of strings.Split and strconv.Atoi, out of the library's own. -/
import Derived.Test.YtmjfehjlgmdfhaaDoorLnQ
import Derived.Lib.AtoiErrMem
import Derived.Lib.AtoiTie
import Derived.Lib.SplitLaws
import Derived.Lib.AtoiAll
namespace Go.LN
set_option linter.unusedVariables false
set_option linter.unusedSimpArgs false
open Go.RowKit
theorem Good.below {imm : Imm} {w w' : World} (h : Good ⟨w, imm, []⟩ imm [] w) (b : Below w.heap.size w w') : Good ⟨w, imm, []⟩ imm [] w' := by
  refine ⟨fun k c e => ?_, by simp, by simp, ⟨b.os, b.tape, b.output, b.size, fun k hk _ => b.block k hk, fun _ _ _ => rfl⟩⟩
  obtain ⟨ty, fr, e'⟩ := h.inv k c e
  exact ⟨ty, fr, (b.block k (h.lt_imm e)).trans e'⟩
theorem Good.cell {B : Base} {imm : Imm} {hs : List HA} {w : World} (h : Good B imm hs w) {g : Nat} {v : Value} (e : imm g = some #[v]) : w.cell? ⟨g, 0, none⟩ = some v := by
  obtain ⟨ty, fr, e'⟩ := h.inv _ _ e
  simp only [World.cell?, e']
  simp
theorem ret_below {P : Program} {f : FuncId} {args : List Value} {imm : Imm} {v : Value} {post : Nat → Imm → List HA → Value → Prop}
    (h : ∀ w, Good ⟨w, imm, []⟩ imm [] w → Calls P f args.toArray w fun e w' => e = .returned v ∧ Below w.heap.size w w') (hp : ∀ k, post k imm [] v) : Ret P f args imm [] post := fun w g =>
  (h w g).mono fun e w' ⟨he, hb⟩ => by
    subst he
    exact ⟨imm, [], hp _, g.below hb⟩
theorem T_RSn {P : Program} {n : Nat} {B : Base} {imm : Imm} {hs : List HA} {m : FM} {fn : Func} {post : Nat → Imm → List HA → Value → Prop} (h : RS P fn B post imm hs m) : T n B (QB P fn B post) .normal imm hs m := by
  obtain ⟨vs, hs0, h1, h2, h3⟩ := h
  exact fun _ w f g => ⟨f.defers, _, run_results f g h1, imm, hs0, h3, h2 w g⟩
def asc (l : List UInt8) : Bool := l.all fun b => decide (b.toNat < 128)
theorem asc_at {l : List UInt8} (h : asc l = true) : ∀ (j : Nat) b, l[j]? = some b → b.toNat < 128 := fun j b hj => by
  have := List.all_eq_true.1 h b (List.mem_of_getElem? hj)
  simpa using this
def ErrV (v : Value) (b : Bool) : Prop := (b = false ∧ v = .nilIface) ∨ (b = true ∧ ∃ t p, v = .iface t p)
def atoiM (s : Str) : Int × Bool := match Lib.atoiAll s.l with
  | .ok v => (v, false)
  | .range => (Lib.atoiSat s.l, true)
  | _ => (0, true)
theorem ret_atoi {P : Program} {f : FuncId} {s : Str} {t5 ti tn : TypeId} {g1 g2 : Nat} {imm : Imm} (hl : s.l.length ≤ 281474976710656)
    (h1 : ∃ t p, imm g1 = some #[.iface t p]) (h2 : ∃ t p, imm g2 = some #[.iface t p])
    (cok : ∀ (s : ByteArray) (hmax : s.size ≤ 9223372036854775806) (v : Int) (h : Lib.atoiAll s.data.toList = .ok v) (w : World), Calls P f #[.string s] w fun e w' => e = .returned (.tuple #[.int .i64 v, .nilIface]) ∧ (w' = w ∨ ∃ t, w' = Lib.bytesWorld w t5 t))
    (csy : ∀ (s : ByteArray) (hlim : s.size ≤ 281474976710656) (h : Lib.atoiAll s.data.toList = Lib.NumEnd.ofOption none) (ev : Value) (w : World) (hv : w.cell? ⟨g1, 0, none⟩ = some ev) (hev : ev = .nilIface ∨ ∃ te pe, ev = .iface te pe),
      Calls P f #[.string s] w fun e w' => ∃ N, e = .returned (.tuple #[.int .i64 (0), .iface ti (.pointer (some ⟨N, 0, none⟩))]) ∧ w.heap.size ≤ N ∧ w'.heap[N]? = some (.cells #[.string ⟨#[65, 116, 111, 105]⟩, .string s, ev] tn (0, 0)) ∧ Below w.heap.size w w')
    (crg : ∀ (s : ByteArray) (hlim : s.size ≤ 281474976710656) (h : Lib.atoiAll s.data.toList = .range) (ev : Value) (w : World) (hv : w.cell? ⟨g2, 0, none⟩ = some ev) (hev : ev = .nilIface ∨ ∃ te pe, ev = .iface te pe),
      Calls P f #[.string s] w fun e w' => ∃ N, e = .returned (.tuple #[.int .i64 (Lib.atoiSat s.data.toList), .iface ti (.pointer (some ⟨N, 0, none⟩))]) ∧ w.heap.size ≤ N ∧ w'.heap[N]? = some (.cells #[.string ⟨#[65, 116, 111, 105]⟩, .string s, ev] tn (0, 0)) ∧ Below w.heap.size w w')
    {post : Nat → Imm → List HA → Value → Prop} (hp : ∀ k v, ErrV v (atoiM s).2 → post k imm [] (.tuple #[.int .i64 (atoiM s).1, v])) : Ret P f [.string ⟨⟨s.l⟩⟩] imm [] post := by
  intro w g
  have hsz : (⟨⟨s.l⟩⟩ : ByteArray).size = s.l.length := rfl
  cases hc : Lib.atoiAll s.l
  · rename_i v
    have em : atoiM s = (v, false) := by unfold atoiM; rw [hc]
    rw [em] at hp
    refine (cok ⟨⟨s.l⟩⟩ (by rw [hsz]; omega) v hc w).mono fun e w' ⟨he, hw⟩ => ?_
    subst he
    refine ⟨imm, [], hp _ _ (.inl ⟨rfl, rfl⟩), ?_⟩
    rcases hw with rfl | ⟨t, rfl⟩
    · exact g
    · exact g.below (Lib.bytesWorld_below _ _ _)
  · have em : atoiM s = (0, true) := by unfold atoiM; rw [hc]
    rw [em] at hp
    obtain ⟨t, p, h1⟩ := h1
    refine (csy ⟨⟨s.l⟩⟩ (by rw [hsz]; exact hl) hc _ w (g.cell h1) (.inr ⟨t, p, rfl⟩)).mono fun e w' ⟨N, he, _, _, hb⟩ => ?_
    subst he
    exact ⟨imm, [], hp _ _ (.inr ⟨rfl, _, _, rfl⟩), g.below hb⟩
  · have em : atoiM s = (Lib.atoiSat s.l, true) := by unfold atoiM; rw [hc]
    rw [em] at hp
    obtain ⟨t, p, h2⟩ := h2
    refine (crg ⟨⟨s.l⟩⟩ (by rw [hsz]; exact hl) hc _ w (g.cell h2) (.inr ⟨t, p, rfl⟩)).mono fun e w' ⟨N, he, _, _, hb⟩ => ?_
    subst he
    exact ⟨imm, [], hp _ _ (.inr ⟨rfl, _, _, rfl⟩), g.below hb⟩
/-! Arrays of integers that lie in a block. -/
section
variable {P : Program} {n : Nat} {B : Base} {ops : List Oper} {Q : Exit → Act → World → Prop} {pc : Nat} {imm : Imm} {hs : List HA} {m : FM} {d : Nat}
  {ty : TypeId} {pos : String} {after : Array Edge} {g : Option (Nat × Bool)}
def ifaceT (P : Program) (t : TypeId) : Bool := match P.underlying t with | some (.interface _) => true | _ => false
theorem R_ne {t t2 : TypeId} {x : Operand} {ev : Value} {b : Bool} (hE : ErrV ev b) (ho : ops[pc]? = some ⟨some d, .binOp .neq t x (.const .nilIface) t2, ty, pos, after, g⟩)
    (next : R P n B ops Q (pc + 1) imm hs ((d, .bool b) :: m)) (hg : guardB ops m g = some true := by kernel_rfl) (hn : Nat.blt d n = true := by kernel_rfl) (hx : val m x = some ev := by kernel_rfl) (ht : ifaceT P t = true := by kernel_rfl) : R P n B ops Q pc imm hs m := by
  unfold ifaceT at ht
  split at ht
  · rename_i ms hu
    refine R_value ho hg rfl hn fun a w f gd => ⟨.bool b, w, imm, hs, ?_, gd, next⟩
    have hy : a.eval (.const .nilIface) = .nilIface := rfl
    rcases hE with ⟨rfl, rfl⟩ | ⟨rfl, te, pe, rfl⟩
    · simp [execOp, f.eval hx, hy, eqGuard, binOp, run_equal_nil hu]
    · simp [execOp, f.eval hx, hy, eqGuard, binOp, run_equal_err hu]
  · cases ht
end
end Go.LN
