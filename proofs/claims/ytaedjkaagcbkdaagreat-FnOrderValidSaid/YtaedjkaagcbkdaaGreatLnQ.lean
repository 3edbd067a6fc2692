/- What a call of the library leaves: new blocks, draws. -/
import Derived.Test.YtaedjkaagcbkdaaGreatLnP
import Derived.Sort.Grow
import Derived.Lib.LaidTab
import Derived.Lib.ItoaNum
import Derived.Lib.ItoaMem
import Derived.Sort.Row
namespace Go.LN
set_option linter.unusedVariables false
set_option linter.unusedSimpArgs false
theorem Good.grow {B : Base} {imm : Imm} {hs : List HA} {w : World} (h : Good B imm hs w) (k : Nat) (os : Array Obj) : Good B imm hs (Sort.grow (w.drewN k) os) := by
  have h := h.drewN k
  generalize w.drewN k = w at h
  have old : ∀ b, b < w.heap.size → (Sort.grow w os).heap[b]? = w.heap[b]? := fun b hb => by
    show (w.heap ++ os)[b]? = _
    rw [Array.getElem?_append_left hb]
  refine ⟨fun b c e => ?_, fun A hA => (h.own A hA).same (fun _ _ p => p) (fun _ _ => rfl) (fun b hb => old b ((h.own A hA).lt hb).1), h.nodup, ⟨h.frm.os, h.frm.tape, h.frm.output, ?_, fun b hb hio => ?_, h.frm.imm⟩⟩
  · obtain ⟨ty, fr, e'⟩ := h.inv b c e
    exact ⟨ty, fr, (old b (h.lt_imm e)).trans e'⟩
  · show _ ≤ (w.heap ++ os).size
    rw [Array.size_append]
    exact Nat.le_trans h.frm.size (Nat.le_add_right _ _)
  · exact (old b (Nat.lt_of_lt_of_le hb h.frm.size)).trans (h.frm.heap b hb hio)
def GT (P : Program) (imm : Imm) : Prop := ∃ g, P.globalNamed "internal/strconv.uint64pow10" = some g ∧ imm g = some (Lib.pow10Tab.map fun z => Value.int .u64 z).toArray
def GM (P : Program) (imm : Imm) : Prop := ∃ g, P.globalNamed "internal/bytealg.MaxLen" = some g ∧ ∃ m, imm g = some #[.int .i64 m]
def GE (P : Program) (imm : Imm) (nm : String) : Prop := ∃ g, P.globalNamed nm = some g ∧ ∃ t p, imm g = some #[.iface t p]
def GH (P : Program) (imm : Imm) : Prop := GT P imm ∧ GM P imm ∧ GE P imm "strconv.ErrSyntax" ∧ GE P imm "strconv.ErrRange"
theorem GH.mono {P : Program} {i j : Imm} (hl : i.le j) (h : GH P i) : GH P j := by
  obtain ⟨⟨g, h1, h2⟩, ⟨g3, h3, m, h4⟩, ⟨g5, h5, t, p, h6⟩, ⟨g7, h7, u, q, h8⟩⟩ := h
  exact ⟨⟨g, h1, hl _ _ h2⟩, ⟨g3, h3, m, hl _ _ h4⟩, ⟨g5, h5, t, p, hl _ _ h6⟩, ⟨g7, h7, u, q, hl _ _ h8⟩⟩
theorem GH.es {P : Program} {imm : Imm} (h : GH P imm) : GE P imm "strconv.ErrSyntax" := h.2.2.1
end Go.LN
