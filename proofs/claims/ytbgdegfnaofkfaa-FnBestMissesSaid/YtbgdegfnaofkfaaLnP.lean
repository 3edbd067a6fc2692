/- A new row of a length that is reckoned; calls of function values. -/
import Derived.Test.YtbgdegfnaofkfaaLnO
import Derived.Laws.BitsLemmas
namespace Go.LN
set_option linter.unusedVariables false
set_option linter.unusedSimpArgs false
section
variable {P : Program} {n : Nat} {B : Base} {Q : Exit → Act → World → Prop} {imm : Imm} {hs : List HA} {m : FM} {ops : List Oper} {pc d : Nat} {ty : TypeId} {pos : String} {after : Array Edge} {g : Option (Nat × Bool)}
end
class Vr (α : Type) where
  rep : Imm → Value → α → Prop
  mono : ∀ {i j : Imm} {v : Value} {a : α}, i.le j → rep i v a → rep j v a
instance : Vr Int := ⟨fun _ v a => v = .int .i64 a, fun _ h => h⟩
instance : Vr Bool := ⟨fun _ v a => v = .bool a, fun _ h => h⟩
instance : Vr Str := ⟨fun _ v a => v = .string ⟨⟨a.l⟩⟩, fun _ h => h⟩
instance {α : Type} [Rp α] : Vr (List α) := ⟨fun i v a => SL i v a, fun hl h => h.mono hl⟩
def FV1 {α β : Type} [Vr α] [Vr β] (P : Program) (imm : Imm) (hsF : List HA) (v : Value) (φ : α → Option β) : Prop :=
  ∃ f first cap, v = .func (.func f) ⟨first⟩ ⟨cap⟩ ∧ callable P f = true ∧ ∀ imm', imm.le imm' → ∀ a r va, φ a = some r → Vr.rep imm' va a → Ret P f (first ++ [va] ++ cap) imm' hsF fun _ i hs' u => hs' = hsF ∧ Vr.rep i u r
theorem FV1.mono {α β : Type} [Vr α] [Vr β] {P : Program} {i j : Imm} {hsF : List HA} {v : Value} {φ : α → Option β} (hl : i.le j) (h : FV1 P i hsF v φ) : FV1 P j hsF v φ := by
  obtain ⟨f, first, cap, h1, h2, h3⟩ := h
  exact ⟨f, first, cap, h1, h2, fun imm' h' => h3 imm' (hl.trans h')⟩
theorem FV1.intro {α β : Type} [Vr α] [Vr β] {P : Program} {imm : Imm} {hsF : List HA} {f : FuncId} {first cap : List Value} {φ : α → Option β} (h : ∀ imm', imm.le imm' → ∀ a r va, φ a = some r → Vr.rep imm' va a → Ret P f (first ++ [va] ++ cap) imm' hsF fun _ i hs' u => hs' = hsF ∧ Vr.rep i u r)
    (hc : callable P f = true := by kernel_rfl) : FV1 P imm hsF (.func (.func f) ⟨first⟩ ⟨cap⟩) φ := ⟨f, first, cap, rfl, hc, h⟩
def FV2 {α β γ : Type} [Vr α] [Vr β] [Vr γ] (P : Program) (imm : Imm) (hsF : List HA) (v : Value) (φ : α → β → Option γ) : Prop :=
  ∃ f first cap, v = .func (.func f) ⟨first⟩ ⟨cap⟩ ∧ callable P f = true ∧ ∀ imm', imm.le imm' → ∀ a b r va vb, φ a b = some r → Vr.rep imm' va a → Vr.rep imm' vb b → Ret P f (first ++ [va, vb] ++ cap) imm' hsF fun _ i hs' u => hs' = hsF ∧ Vr.rep i u r
theorem FV2.mono {α β γ : Type} [Vr α] [Vr β] [Vr γ] {P : Program} {i j : Imm} {hsF : List HA} {v : Value} {φ : α → β → Option γ} (hl : i.le j) (h : FV2 P i hsF v φ) : FV2 P j hsF v φ := by
  obtain ⟨f, first, cap, h1, h2, h3⟩ := h
  exact ⟨f, first, cap, h1, h2, fun imm' h' => h3 imm' (hl.trans h')⟩
theorem FV2.intro {α β γ : Type} [Vr α] [Vr β] [Vr γ] {P : Program} {imm : Imm} {hsF : List HA} {f : FuncId} {first cap : List Value} {φ : α → β → Option γ} (h : ∀ imm', imm.le imm' → ∀ a b r va vb, φ a b = some r → Vr.rep imm' va a → Vr.rep imm' vb b → Ret P f (first ++ [va, vb] ++ cap) imm' hsF fun _ i hs' u => hs' = hsF ∧ Vr.rep i u r)
    (hc : callable P f = true := by kernel_rfl) : FV2 P imm hsF (.func (.func f) ⟨first⟩ ⟨cap⟩) φ := ⟨f, first, cap, rfl, hc, h⟩
section
variable {P : Program} {n : Nat} {B : Base} {Q : Exit → Act → World → Prop} {imm : Imm} {hs : List HA} {m : FM} {ops : List Oper} {pc d : Nat} {ty : TypeId} {pos : String} {after : Array Edge} {g : Option (Nat × Bool)}
end
end Go.LN
