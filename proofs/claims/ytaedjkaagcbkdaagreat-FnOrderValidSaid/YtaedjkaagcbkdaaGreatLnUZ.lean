/- Short forms of rules. -/
import Derived.Test.YtaedjkaagcbkdaaGreatLnTZ
namespace Go.LN
set_option linter.unusedVariables false
set_option linter.unusedSimpArgs false
section
variable {P : Program} {n : Nat} {B : Base} {ops : List Oper} {Q : Exit → Act → World → Prop} {pc : Nat} {imm : Imm} {hs : List HA} {m : FM} {d : Nat}
  {ty : TypeId} {pos : String} {after : Array Edge} {g : Option (Nat × Bool)}
theorem yR {f : FuncId} {x : Operand} {xs : Array Operand} {ts : Array TypeId} {vs : List Value} {post : Nat → Imm → List HA → Value → Prop}
    (hc : Ret P f vs imm [] post)
    (next : ∀ imm' hs' v k, imm.le imm' → B.w0.heap.size ≤ k → post k imm' hs' v → (∀ b ∈ hs'.flatMap HA.fp, b ∈ ([] : List HA).flatMap HA.fp ∨ B.w0.heap.size ≤ b) → R P n B ops Q (pc + 1) imm' (hs' ++ hs) ((d, v) :: m))
    (ho : ops[pc]? = some ⟨some d, .call { callee := .value x, args := xs, argTypes := ts }, ty, pos, after, g⟩ := by rfl) (hg : guardB ops m g = some true := by rfl) (hn : Nat.blt d n = true := by rfl) (hx : val m x = some (.func (.func f) #[] #[]) := by rfl) (hf : callable P f = true := by kernel_rfl)
    (hvs : vals m xs.toList = some vs := by rfl) : R P n B ops Q pc imm hs m :=
  zBb (hs1 := []) (rest := hs) ho hg hn hx hf hvs rfl hc next
theorem tX {f : FuncId} {x : Operand} {xs : Array Operand} {ts : Array TypeId} {vs : List Value} (hs1 rest : List HA) {post : Nat → Imm → List HA → Value → Prop}
    (hc : Ret P f vs imm hs1 post)
    (next : ∀ imm' hs' v k, imm.le imm' → B.w0.heap.size ≤ k → post k imm' hs' v → (∀ b ∈ hs'.flatMap HA.fp, b ∈ hs1.flatMap HA.fp ∨ B.w0.heap.size ≤ b) → R P n B ops Q (pc + 1) imm' (hs' ++ rest) ((d, v) :: m))
    (ho : ops[pc]? = some ⟨some d, .call { callee := .value x, args := xs, argTypes := ts }, ty, pos, after, g⟩ := by rfl) (hg : guardB ops m g = some true := by rfl) (hn : Nat.blt d n = true := by rfl) (hx : val m x = some (.func (.func f) #[] #[]) := by rfl) (hf : callable P f = true := by kernel_rfl)
    (hvs : vals m xs.toList = some vs := by rfl) (hh : hs = hs1 ++ rest := by rfl) : R P n B ops Q pc imm hs m :=
  zBb (hs1 := hs1) (rest := rest) ho hg hn hx hf hvs hh hc next
theorem yG (m' : FM) (h : R P n B ops Q pc imm hs m') (hk : keep m (m'.map (·.1)) = some m' := by kernel_rfl) : R P n B ops Q pc imm hs m := mX (eE hk) h
theorem xY (cs : List Value) (α : Type) [Rp α] {t len : Nat} {parts : Array (Nat × Operand)} {ps : List (Nat × Value)}
    (next : ∀ b, B.w0.heap.size ≤ b → R P n B ops Q (pc + 1) imm (.osl (.slice (some ⟨b, 0, none⟩) len len) (Rp.sz α) cs :: hs) ((d, .slice (some ⟨b, 0, none⟩) len len) :: m))
    (ho : ops[pc]? = some ⟨some d, .buildSlice t len parts, ty, pos, after, g⟩ := by rfl) (hg : guardB ops m g = some true := by rfl) (hn : Nat.blt d n = true := by rfl) (hps : pvals m parts.toList = some ps := by rfl) (hc : elemZ P t len ps = some ⟨cs⟩ := by kernel_rfl) (hl : Nat.beq cs.length (len * Rp.sz α) = true := by kernel_rfl)
    (hlM : Nat.ble len 9223372036854775807 = true := by rfl) : R P n B ops Q pc imm hs m :=
  zEV (cs := cs) (Rp.sz α) ho hg hn hps hc hl next hlM
theorem uJ (c : List Value) {t : TypeId}
    (next : ∀ b, B.w0.heap.size ≤ b → R P n B ops Q (pc + 1) imm (.blk b ⟨c⟩ :: hs) ((d, .pointer (some ⟨b, 0, none⟩)) :: m))
    (ho : ops[pc]? = some ⟨some d, .alloc t, ty, pos, after, g⟩ := by rfl) (hg : guardB ops m g = some true := by rfl) (hn : Nat.blt d n = true := by rfl) (hz : zeroC P t = some ⟨c⟩ := by kernel_rfl) : R P n B ops Q pc imm hs m :=
  zHU (c := ⟨c⟩) ho hg hn hz next
theorem sD (c : List Value) {t : TypeId} {x : Operand} {v : Value}
    (next : ∀ b, B.w0.heap.size ≤ b → R P n B ops Q (pc + 1) imm (.blk b ⟨c⟩ :: hs) ((d, .pointer (some ⟨b, 0, none⟩)) :: m))
    (ho : ops[pc]? = some ⟨some d, .box t x, ty, pos, after, g⟩ := by rfl) (hg : guardB ops m g = some true := by rfl) (hn : Nat.blt d n = true := by rfl) (hx : val m x = some v := by rfl) (hc : v.cells = ⟨c⟩ := by rfl) : R P n B ops Q pc imm hs m :=
  zIL (c := ⟨c⟩) ho hg hn hx hc next
end
abbrev cStmt (x : zR) (p0 : Option Addr) (c0 : Nat) (p1 : Option Addr) (c1 : Nat) (p2 : Option Addr) (c2 : Nat) (p3 : Option Addr) (c3 : Nat) : List Value := [vT x.Write.Array.l, vS p0 x.Write.Subs c0, vI x.Value.Kind, vI x.Value.Num, vS p1 x.Value.Index.Coefs c1, vI x.Value.Index.Const, vT x.Value.Read.Array.l, vS p2 x.Value.Read.Subs c2, vS p3 x.Value.Kids c3]
abbrev cExpr (x : zH) (p0 : Option Addr) (c0 : Nat) (p1 : Option Addr) (c1 : Nat) (p2 : Option Addr) (c2 : Nat) : List Value := [vI x.Kind, vI x.Num, vS p0 x.Index.Coefs c0, vI x.Index.Const, vT x.Read.Array.l, vS p1 x.Read.Subs c1, vS p2 x.Kids c2]
abbrev cAccess (x : zK) (p0 : Option Addr) (c0 : Nat) : List Value := [vT x.Array.l, vS p0 x.Subs c0]
abbrev cAff (x : zA) (p0 : Option Addr) (c0 : Nat) : List Value := [vS p0 x.Coefs c0, vI x.Const]
abbrev cLoop (x : zI) (p0 : Option Addr) (c0 : Nat) (p1 : Option Addr) (c1 : Nat) : List Value := [vS p0 x.Lo c0, vS p1 x.Hi c1]
abbrev cPart (x : zP) (p0 : Option Addr) (c0 : Nat) (p1 : Option Addr) (c1 : Nat) : List Value := [vS p0 x.Nest c0, vS p1 x.Body c1]
abbrev cProg (x : zZ) (p0 : Option Addr) (c0 : Nat) (p1 : Option Addr) (c1 : Nat) : List Value := [vS p0 x.Arrays c0, vS p1 x.Parts c1]
abbrev cArr (x : zJ) (p0 : Option Addr) (c0 : Nat) : List Value := [vT x.Name.l, vS p0 x.Dims c0]
abbrev cRd (x : zO) (p0 : Option Addr) (c0 : Nat) : List Value := [vS p0 x.b c0, vI x.p]
abbrev zExpr : List Value := [vI 0, vI 0, .slice none 0 0, vI 0, vT ([]), .slice none 0 0, .slice none 0 0]
abbrev zTwo : List Value := [.slice none 0 0, .slice none 0 0]
abbrev z0 : Value := .slice none 0 0
abbrev KT := Nat → Imm → List HA → Value → Prop
theorem iS (i : Imm) : i.le i := Imm.le.refl i
theorem iR {i : Imm} : i.le i := Imm.le.refl i
theorem iM {α : Type} [Rp α] {i j : Imm} (h : i.le j) {l : List α} {cs : List Value} (hr : RL i cs l) : RL j cs l := RepL.mono (fun _ _ => Rp.mono h) hr
abbrev S4 {α : Type} [Rp α] (imm : Imm) (p : Option Addr) (l : List α) (c : Nat) : Prop := SL imm (vS p l c) l
end Go.LN
