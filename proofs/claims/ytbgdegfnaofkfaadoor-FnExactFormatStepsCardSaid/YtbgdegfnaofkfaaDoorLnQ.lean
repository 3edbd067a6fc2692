/- What a call of the library leaves: new blocks, draws. -/
import Derived.Test.YtbgdegfnaofkfaaDoorLnP
import Derived.Sort.Grow
import Derived.Lib.LaidTab
import Derived.Lib.ItoaNum
import Derived.Lib.ItoaMem
namespace Go.LN

theorem Good.grow {B : Base} {imm : Imm} {hs : List HA} {w : World} (h : Good B imm hs w) (k : Nat) (os : Array Obj) : Good B imm hs (Sort.grow (w.drewN k) os) := by
  have h := h.drewN k
  generalize w.drewN k = w at h
  have old : ∀ b, b < w.heap.size → (Sort.grow w os).heap[b]? = w.heap[b]? := fun b hb => by
    show (w.heap ++ os)[b]? = _
    rw [Array.getElem?_append_left hb]
  refine ⟨fun b c e => ?_, fun A hA => (h.own A hA).same (fun _ _ p => p) (fun _ _ => rfl) (fun b hb => old b ((h.own A hA).lt hb).1), h.nodup, ⟨h.frm.os, h.frm.tape, h.frm.output, ?_, fun b hb hio => ?_, h.frm.imm⟩⟩
  · obtain ⟨ty, fr, e'⟩ := h.inv b c e
    exact ⟨ty, fr, (old b (h.lt_imm e)).trans e'⟩
  · show _ ≤ (w.heap ++ os).size
    rw [Array.size_append]
    exact Nat.le_trans h.frm.size (Nat.le_add_right _ _)
  · exact (old b (Nat.lt_of_lt_of_le hb h.frm.size)).trans (h.frm.heap b hb hio)

/-- The library's table of powers of ten lies in a block that is never written again. -/
def GH (P : Program) (imm : Imm) : Prop := ∃ g, P.globalNamed "internal/strconv.uint64pow10" = some g ∧ imm g = some (Lib.pow10Tab.map fun z => Value.int .u64 z).toArray
theorem GH.mono {P : Program} {i j : Imm} (hl : i.le j) (h : GH P i) : GH P j := by
  obtain ⟨g, h1, h2⟩ := h
  exact ⟨g, h1, hl _ _ h2⟩
theorem GH.tab {P : Program} {B : Base} {imm : Imm} {hs : List HA} {w : World} (h : GH P imm) (g : Good B imm hs w) : Lib.TabIs P w "internal/strconv.uint64pow10" .u64 Lib.pow10Tab := by
  obtain ⟨n, h1, h2⟩ := h
  obtain ⟨ty, fr, h3⟩ := g.inv _ _ h2
  unfold Lib.TabIs World.var?
  rw [h1, Option.bind_some, h3]

/-- A call of the library that makes new blocks and draws, and hands back one value. -/
theorem ret_lib {P : Program} {f : FuncId} {args : List Value} {imm : Imm} {v : Value} {post : Nat → Imm → List HA → Value → Prop}
    (h : ∀ w, Good ⟨w, imm, []⟩ imm [] w → Calls P f args.toArray w fun e w' => e = .returned v ∧ ∃ k os, w' = Sort.grow (w.drewN k) os) (hp : ∀ k, post k imm [] v) : Ret P f args imm [] post := fun w g =>
  (h w g).mono fun e w' ⟨he, k, os, hw⟩ => by
    subst he; subst hw
    exact ⟨imm, [], hp _, g.grow k os⟩
end Go.LN
