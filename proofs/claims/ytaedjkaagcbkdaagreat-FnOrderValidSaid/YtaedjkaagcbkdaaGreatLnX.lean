/- Comparing a slice with nil. -/
import Derived.Test.YtaedjkaagcbkdaaGreatLnW
namespace Go.LN
set_option linter.unusedVariables false
set_option linter.unusedSimpArgs false
section
variable {P : Program} {n : Nat} {B : Base} {Q : Exit → Act → World → Prop} {imm : Imm} {hs : List HA} {m : FM} {ops : List Oper} {pc d : Nat} {ty : TypeId} {pos : String} {after : Array Edge} {g : Option (Nat × Bool)}
theorem zEZ {t e : TypeId} {w : World} {p : Option Addr} {l c : Nat} (hu : P.underlying t = some (.slice e)) : (Op.equal t (.slice p l c) (.slice none 0 0)).run P w = .ok p.isNone w := by
  have h : ∀ d, (Op.equalIn (d + 1) t (.slice p l c) (.slice none 0 0)).run P w = .ok p.isNone w := fun d => by
    rw [Op.equalIn]
    cases p <;> simp [xE hu]
  exact h 9999
def sliceT (P : Program) (t : TypeId) : Bool := match P.underlying t with | some (.slice _) => true | _ => false
theorem zIT {t t2 : TypeId} {x : Operand} {p : Option Addr} {l c : Nat} (b : Bool) (ho : ops[pc]? = some ⟨some d, .binOp .eql t x (.const (.slice none 0 0)) t2, ty, pos, after, g⟩) (hb : p.isNone = b)
    (next : R P n B ops Q (pc + 1) imm hs ((d, .bool b) :: m)) (hx : val m x = some (.slice p l c)) (hg : guardB ops m g = some true := by kernel_rfl) (hn : Nat.blt d n = true := by kernel_rfl) (ht : sliceT P t = true := by kernel_rfl) : R P n B ops Q pc imm hs m := by
  unfold sliceT at ht
  split at ht
  · rename_i e hu
    refine oT ho hg rfl hn fun a w f gd => ⟨.bool b, w, imm, hs, ?_, gd, next⟩
    have hy : a.eval (.const (.slice none 0 0)) = .slice none 0 0 := rfl
    simp [execOp, f.eval hx, hy, eqGuard, binOp, zEZ hu, hb]
  · cases ht
end
end Go.LN
