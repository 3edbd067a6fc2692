/- A new row of a length that is reckoned; calls of function values. -/
import Derived.Test.YtaedjkaagcbkdaaGreatLnO
import Derived.Laws.BitsLemmas
namespace Go.LN
set_option linter.unusedVariables false
set_option linter.unusedSimpArgs false
section
variable {P : Program} {n : Nat} {B : Base} {Q : Exit → Act → World → Prop} {imm : Imm} {hs : List HA} {m : FM} {ops : List Oper} {pc d : Nat} {ty : TypeId} {pos : String} {after : Array Edge} {g : Option (Nat × Bool)}
theorem zHZ {f : FuncId} {first cap : List Value} {x : Operand} {xs : Array Operand} {ts : Array TypeId} {vs : List Value} {hs1 rest : List HA} {post : Nat → Imm → List HA → Value → Prop}
    (ho : ops[pc]? = some ⟨some d, .call { callee := .value x, args := xs, argTypes := ts }, ty, pos, after, g⟩) (hx : val m x = some (.func (.func f) ⟨first⟩ ⟨cap⟩)) (hf : callable P f = true)
    (hvs : vals m xs.toList = some vs) (hh : hs = hs1 ++ rest) (hc : Ret P f (first ++ vs ++ cap) imm hs1 post)
    (next : ∀ imm' hs' v k, imm.le imm' → B.w0.heap.size ≤ k → post k imm' hs' v → (∀ b ∈ hs'.flatMap HA.fp, b ∈ hs1.flatMap HA.fp ∨ B.w0.heap.size ≤ b) → R P n B ops Q (pc + 1) imm' (hs' ++ rest) ((d, v) :: m)) (hg : guardB ops m g = some true := by kernel_rfl) (hn : Nat.blt d n = true := by kernel_rfl) : R P n B ops Q pc imm hs m :=
  zEU ho hg fun a w fr gd => by
    subst hh
    have hargs : xs.map a.eval = vs.toArray := by apply Array.ext'; rw [Array.toList_map, fr.evals hvs]
    have hall : (⟨first⟩ : Array Value) ++ vs.toArray ++ ⟨cap⟩ = (first ++ vs ++ cap).toArray := by apply Array.ext'; simp
    have hnd := gd.nodup
    rw [List.flatMap_append] at hnd
    have hg1 := gd.enter (hs1 := hs1) (fun A hA => List.mem_append_left _ hA) (List.nodup_append.1 hnd).1
    unfold Oper.wp
    simp only [execOp, resolve, Deferred.ofValue, fr.eval hx, hargs, Sem.run_bind, Sem.run_pure, Result.andThen_ok, invoke, hall, zAo hf, Oper.upon]
    refine (hc w hg1).mono fun e w' he => ?_
    cases e with
    | returned v =>
      obtain ⟨imm', hs', hp, hgood⟩ := he
      obtain ⟨g2, hle, hfp⟩ := gd.leave hgood
      exact next imm' hs' v w.heap.size hle gd.frm.size hp hfp _ w' (fr.put d v (by simpa using hn)) g2
    | panicked c => exact he.elim
    | outgrown => exact he.elim
end
class Vr (α : Type) where
  rep : Imm → Value → α → Prop
  mono : ∀ {i j : Imm} {v : Value} {a : α}, i.le j → rep i v a → rep j v a
instance : Vr Int := ⟨fun _ v a => v = .int .i64 a, fun _ h => h⟩
instance : Vr Bool := ⟨fun _ v a => v = .bool a, fun _ h => h⟩
instance : Vr Str := ⟨fun _ v a => v = .string ⟨⟨a.l⟩⟩, fun _ h => h⟩
instance {α : Type} [Rp α] : Vr (List α) := ⟨fun i v a => SL i v a, fun hl h => h.mono hl⟩
def FV1 {α β : Type} [Vr α] [Vr β] (P : Program) (imm : Imm) (hsF : List HA) (v : Value) (φ : α → Option β) : Prop :=
  ∃ f first cap, v = .func (.func f) ⟨first⟩ ⟨cap⟩ ∧ callable P f = true ∧ ∀ imm', imm.le imm' → ∀ a r va, φ a = some r → Vr.rep imm' va a → Ret P f (first ++ [va] ++ cap) imm' hsF fun _ i hs' u => hs' = hsF ∧ Vr.rep i u r
theorem FV1.mono {α β : Type} [Vr α] [Vr β] {P : Program} {i j : Imm} {hsF : List HA} {v : Value} {φ : α → Option β} (hl : i.le j) (h : FV1 P i hsF v φ) : FV1 P j hsF v φ := by
  obtain ⟨f, first, cap, h1, h2, h3⟩ := h
  exact ⟨f, first, cap, h1, h2, fun imm' h' => h3 imm' (hl.trans h')⟩
theorem FV1.intro {α β : Type} [Vr α] [Vr β] {P : Program} {imm : Imm} {hsF : List HA} {f : FuncId} {first cap : List Value} {φ : α → Option β} (h : ∀ imm', imm.le imm' → ∀ a r va, φ a = some r → Vr.rep imm' va a → Ret P f (first ++ [va] ++ cap) imm' hsF fun _ i hs' u => hs' = hsF ∧ Vr.rep i u r)
    (hc : callable P f = true := by kernel_rfl) : FV1 P imm hsF (.func (.func f) ⟨first⟩ ⟨cap⟩) φ := ⟨f, first, cap, rfl, hc, h⟩
def FV2 {α β γ : Type} [Vr α] [Vr β] [Vr γ] (P : Program) (imm : Imm) (hsF : List HA) (v : Value) (φ : α → β → Option γ) : Prop :=
  ∃ f first cap, v = .func (.func f) ⟨first⟩ ⟨cap⟩ ∧ callable P f = true ∧ ∀ imm', imm.le imm' → ∀ a b r va vb, φ a b = some r → Vr.rep imm' va a → Vr.rep imm' vb b → Ret P f (first ++ [va, vb] ++ cap) imm' hsF fun _ i hs' u => hs' = hsF ∧ Vr.rep i u r
theorem FV2.mono {α β γ : Type} [Vr α] [Vr β] [Vr γ] {P : Program} {i j : Imm} {hsF : List HA} {v : Value} {φ : α → β → Option γ} (hl : i.le j) (h : FV2 P i hsF v φ) : FV2 P j hsF v φ := by
  obtain ⟨f, first, cap, h1, h2, h3⟩ := h
  exact ⟨f, first, cap, h1, h2, fun imm' h' => h3 imm' (hl.trans h')⟩
theorem FV2.intro {α β γ : Type} [Vr α] [Vr β] [Vr γ] {P : Program} {imm : Imm} {hsF : List HA} {f : FuncId} {first cap : List Value} {φ : α → β → Option γ} (h : ∀ imm', imm.le imm' → ∀ a b r va vb, φ a b = some r → Vr.rep imm' va a → Vr.rep imm' vb b → Ret P f (first ++ [va, vb] ++ cap) imm' hsF fun _ i hs' u => hs' = hsF ∧ Vr.rep i u r)
    (hc : callable P f = true := by kernel_rfl) : FV2 P imm hsF (.func (.func f) ⟨first⟩ ⟨cap⟩) φ := ⟨f, first, cap, rfl, hc, h⟩
section
variable {P : Program} {n : Nat} {B : Base} {Q : Exit → Act → World → Prop} {imm : Imm} {hs : List HA} {m : FM} {ops : List Oper} {pc d : Nat} {ty : TypeId} {pos : String} {after : Array Edge} {g : Option (Nat × Bool)}
theorem zFo {α β : Type} [Vr α] [Vr β] {x y : Operand} {ts : Array TypeId} {v va : Value} {a : α} {r : β} {φ : α → Option β} {hsF rest : List HA}
    (ho : ops[pc]? = some ⟨some d, .call { callee := .value x, args := #[y], argTypes := ts }, ty, pos, after, g⟩) (hy : val m y = some va) (hF : FV1 P imm hsF v φ) (hr : φ a = some r) (ha : Vr.rep imm va a) (hh : hs = hsF ++ rest)
    (next : ∀ imm' u, imm.le imm' → Vr.rep imm' u r → R P n B ops Q (pc + 1) imm' (hsF ++ rest) ((d, u) :: m)) (hx : val m x = some v := by kernel_rfl) (hg : guardB ops m g = some true := by kernel_rfl) (hn : Nat.blt d n = true := by kernel_rfl) : R P n B ops Q pc imm hs m := by
  obtain ⟨f, first, cap, rfl, hf, hc⟩ := hF
  refine zHZ ho hx hf (vs := [va]) (by simp [vals, hy]) hh (hc imm (Imm.le.refl _) a r va hr ha) ?_ hg hn
  rintro imm' hs' u k hl hk ⟨rfl, h⟩ -
  exact next imm' u hl h
end
end Go.LN
