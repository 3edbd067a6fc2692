/- Small words of the walks. -/
import Derived.Test.YtaedjkaagcbkdaaGreatLnI
namespace Go.LN
set_option linter.unusedVariables false
set_option linter.unusedSimpArgs false
def same {α : Type} (x : α) : α := x
def nav : Code → List Nat → Code
  | c, [] => c
  | .seq a _, 0 :: p => nav a p
  | .seq _ b, _ :: p => nav b p
  | .loop a, _ :: p => nav a p
  | .block _ a, _ :: p => nav a p
  | .cond _ a _, 0 :: p => nav a p
  | .cond _ _ b, _ :: p => nav b p
  | .scope a, _ :: p => nav a p
  | c, _ :: _ => c
def bodyOf (f : Func) : Code := f.body.getD .skip
inductive Out (S R : Type) where
  | done (s : S)
  | ret (r : R)
theorem zC {α β : Type} {x : Option α} {f : α → Option β} {r : β} (h : (x >>= f) = some r) : ∃ y, x = some y ∧ f y = some r := by
  cases x with
  | none => cases h
  | some y => exact ⟨y, rfl, h⟩
theorem zD {α : Type} {x r : α} (h : (pure x : Option α) = some r) : x = r := by cases h; rfl
section
variable {P : Program} {n : Nat} {B : Base} {Q : Exit → Act → World → Prop} {imm : Imm} {hs : List HA} {m : FM} {ops : List Oper} {pc d : Nat}
theorem yT {c : Code} (S : Imm → List HA → FM → Prop) (h : J P n B c (Exit.then (fun a w => ∃ imm' hs' m', S imm' hs' m' ∧ Fr n a m' ∧ Good B imm' hs' w) Q) imm hs m) (k : ∀ imm' hs' m', S imm' hs' m' → T n B Q .normal imm' hs' m') : J P n B c Q imm hs m :=
  fun a w f g => wp_mono (h a w f g) fun e a' w' he => by
    cases e with
    | normal => obtain ⟨imm', hs', m', h1, h2, h3⟩ := he; exact k _ _ _ h1 a' w' h2 h3
    | _ => exact he
theorem yA {S : Imm → List HA → FM → Prop} (h : S imm hs m) : T n B (Exit.then (fun a w => ∃ imm' hs' m', S imm' hs' m' ∧ Fr n a m' ∧ Good B imm' hs' w) Q) .normal imm hs m := fun _ _ f g => ⟨imm, hs, m, h, f, g⟩
theorem zU {α : Type} {c : Bool} {X Y : Option α} {r : α} (hc : c = true) (h : (if c = true then X else Y) = some r) : X = some r := by rwa [if_pos hc] at h
theorem zS {α : Type} {c : Bool} {X Y : Option α} {r : α} (hc : c = false) (h : (if c = true then X else Y) = some r) : Y = some r := by rwa [if_neg (by rw [hc]; decide)] at h
/-! Division by a number that is not nought. -/
def quo (x y : Int) : Option Int := if y = 0 then none else some (IntKind.i64.wrap (x.tdiv y))
def rem (x y : Int) : Option Int := if y = 0 then none else some (x.tmod y)
theorem zHr {t t2 : TypeId} {x y : Operand} {a b c : Int} (hx : val m x = some (.int .i64 a)) (hy : val m y = some (.int .i64 b)) (h : quo a b = some c) : Reads P n B imm hs m (.binOp .quo t x y t2) (.int .i64 c) := fun oo ac w he f gd =>
  dN f (by
    unfold quo at h
    split at h
    · cases h
    · rename_i h0
      cases h
      simp [he, pure1, hx, hy, ibin, h0])
theorem zG7 {t t2 : TypeId} {x y : Operand} {a b c : Int} (hx : val m x = some (.int .i64 a)) (hy : val m y = some (.int .i64 b)) (h : rem a b = some c) : Reads P n B imm hs m (.binOp .rem t x y t2) (.int .i64 c) := fun oo ac w he f gd =>
  dN f (by
    unfold rem at h
    split at h
    · cases h
    · rename_i h0
      cases h
      simp [he, pure1, hx, hy, ibin, h0])
/-! The reading rules in one form for both kinds of regions. -/
section
variable {ty : TypeId} {pos : String} {after : Array Edge} {g : Option (Nat × Bool)}
theorem zG8 {α : Type} [Rp α] {t : TypeId} {x xi : Operand} {v : Value} {k : IntKind} {i : Int} {l : List α} {y : α}
    (ho : ops[pc]? = some ⟨some d, .indexAddr t x xi, ty, pos, after, g⟩) (hg : guardB ops m g = some true) (hn : Nat.blt d n = true) (hx : val m x = some v) (hi : val m xi = some (.int k i)) (ht : elemT P t = some (Rp.sz α))
    (hs' : SL imm v l) (hy : idx l i = some y) (next : ∀ ad ccs, At imm ad ccs → Rp.rep imm ccs y → Rq P n B ops Q (pc + 1) imm hs ((d, .pointer (some ad)) :: m)) : Rq P n B ops Q pc imm hs m := by
  obtain ⟨ad, ccs, hat, hrep, hrd⟩ := zG6 (P := P) (n := n) (B := B) (hs := hs) hx hi ht hs' hy
  exact gC ho hg rfl hn hrd (next ad ccs hat hrep)
theorem zF6 {t : TypeId} {x : Operand} {ad : Addr} {cs cs' : List Value} {v : Value} (o : Nat)
    (ho : ops[pc]? = some ⟨some d, .load t x, ty, pos, after, g⟩) (hg : guardB ops m g = some true) (hn : Nat.blt d n = true) (hat : At imm ad cs) (hx : val m x = some (.pointer (some (ad.add o))))
    (hol : Nat.ble o cs.length = true) (hc : (cs.drop o).take cs'.length = cs') (hv : loadV P t cs' = some v) (next : Rq P n B ops Q (pc + 1) imm hs ((d, v) :: m)) : Rq P n B ops Q pc imm hs m :=
  gC ho hg rfl hn (zF5 o hat hx hol hc hv) next
theorem zEp {t : TypeId} {x : Operand} {b o : Nat} {c : Array Value} {cs : List Value} {v : Value} (j : Nat)
    (ho : ops[pc]? = some ⟨some d, .load t x, ty, pos, after, g⟩) (hg : guardB ops m g = some true) (hn : Nat.blt d n = true) (hj : hs[j]? = some (.blk b c)) (hx : val m x = some (.pointer (some ⟨b, o, none⟩)))
    (hol : Nat.ble (o + cs.length) c.size = true) (hc : (c.toList.drop o).take cs.length = cs) (hv : loadV P t cs = some v) (next : Rq P n B ops Q (pc + 1) imm hs ((d, v) :: m)) : Rq P n B ops Q pc imm hs m :=
  gC ho hg rfl hn (zEo j hj hx hol hc hv) next
theorem zIM {t t2 : TypeId} {x y : Operand} {a b c : Str} (ho : ops[pc]? = some ⟨some d, .binOp .add t x y t2, ty, pos, after, g⟩) (hg : guardB ops m g = some true) (hn : Nat.blt d n = true)
    (hx : val m x = some (.string ⟨⟨a.l⟩⟩)) (hy : val m y = some (.string ⟨⟨b.l⟩⟩)) (h : cat a b = some c) (next : R P n B ops Q (pc + 1) imm hs ((d, .string ⟨⟨c.l⟩⟩) :: m)) : R P n B ops Q pc imm hs m := zCf ho hg rfl hn (zHq hx hy h) next
theorem zG9 {t : TypeId} {x y : Operand} {a : Str} {k : IntKind} {i : Int} {c : UInt8} (ho : ops[pc]? = some ⟨some d, .index t x y, ty, pos, after, g⟩) (hg : guardB ops m g = some true) (hn : Nat.blt d n = true)
    (hx : val m x = some (.string ⟨⟨a.l⟩⟩)) (hy : val m y = some (.int k i)) (hu : P.underlying t = some .string) (h : sidx a i = some c) (next : R P n B ops Q (pc + 1) imm hs ((d, .int .u8 (c.toNat : Int)) :: m)) : R P n B ops Q pc imm hs m := zCf ho hg rfl hn (zGD hx hy hu h) next
theorem zGa {t : TypeId} {x : Operand} {lo hi : Option Operand} {a c : Str} {i k : Int} (ho : ops[pc]? = some ⟨some d, .slice t x lo hi none, ty, pos, after, g⟩) (hg : guardB ops m g = some true) (hn : Nat.blt d n = true)
    (hx : val m x = some (.string ⟨⟨a.l⟩⟩)) (hu : P.underlying t = some .string) (hlo : bnd m 0 lo = some i) (hhi : bnd m a.l.length hi = some k) (hy : sslc a i k = some c) (next : R P n B ops Q (pc + 1) imm hs ((d, .string ⟨⟨c.l⟩⟩) :: m)) : R P n B ops Q pc imm hs m := zCf ho hg rfl hn (zGE hx hu hlo hhi hy) next
theorem zHs {t t2 : TypeId} {x y : Operand} {a b c : Int} (ho : ops[pc]? = some ⟨some d, .binOp .quo t x y t2, ty, pos, after, g⟩) (hg : guardB ops m g = some true) (hn : Nat.blt d n = true)
    (hx : val m x = some (.int .i64 a)) (hy : val m y = some (.int .i64 b)) (h : quo a b = some c) (next : Rq P n B ops Q (pc + 1) imm hs ((d, .int .i64 c) :: m)) : Rq P n B ops Q pc imm hs m := gC ho hg rfl hn (zHr hx hy h) next
theorem zIN {t t2 : TypeId} {x y : Operand} {a b c : Int} (ho : ops[pc]? = some ⟨some d, .binOp .rem t x y t2, ty, pos, after, g⟩) (hg : guardB ops m g = some true) (hn : Nat.blt d n = true)
    (hx : val m x = some (.int .i64 a)) (hy : val m y = some (.int .i64 b)) (h : rem a b = some c) (next : R P n B ops Q (pc + 1) imm hs ((d, .int .i64 c) :: m)) : R P n B ops Q pc imm hs m := zCf ho hg rfl hn (zG7 hx hy h) next
theorem zHt {t t2 : TypeId} {x y : Operand} {a b c : Int} (ho : ops[pc]? = some ⟨some d, .binOp .rem t x y t2, ty, pos, after, g⟩) (hg : guardB ops m g = some true) (hn : Nat.blt d n = true)
    (hx : val m x = some (.int .i64 a)) (hy : val m y = some (.int .i64 b)) (h : rem a b = some c) (next : Rq P n B ops Q (pc + 1) imm hs ((d, .int .i64 c) :: m)) : Rq P n B ops Q pc imm hs m := gC ho hg rfl hn (zG7 hx hy h) next
end
def app {α : Type} (bytes : Nat) (l l2 : List α) : Option (List α) := if (l.length + l2.length) * bytes ≤ 140737488355328 then some (l ++ l2) else none
theorem gD {α : Type} {bytes : Nat} {l l2 y : List α} (h : app bytes l l2 = some y) : (l.length + l2.length) * bytes ≤ 140737488355328 ∧ l ++ l2 = y := by
  unfold app at h
  split at h
  · cases h; exact ⟨by assumption, rfl⟩
  · cases h
/-! The end of a function, anything dropped. -/
def RS (P : Program) (fn : Func) (B : Base) (post : Nat → Imm → List HA → Value → Prop) (imm : Imm) (hs : List HA) (m : FM) : Prop :=
  ∃ vs hs0, ResV P m hs fn.results.toList vs ∧ (∀ w, Good B imm hs w → Good B imm hs0 w) ∧ post B.w0.heap.size imm hs0 (tupV vs)
theorem yQ {fn : Func} {post : Nat → Imm → List HA → Value → Prop} (h : RS P fn B post imm hs m) : T n B (QB P fn B post) .ret imm hs m := by
  obtain ⟨vs, hs0, h1, h2, h3⟩ := h
  exact fun _ w f g => ⟨f.defers, _, zEn f g h1, imm, hs0, h3, h2 w g⟩
def pick (hs : List HA) : List Nat → Option (List HA)
  | [] => some []
  | i :: is => match hs[i]?, pick hs is with | some A, some r => some (A :: r) | _, _ => none
theorem zCq : ∀ {hs : List HA}, (hs.flatMap HA.fp).Nodup → (∀ A ∈ hs, A.fp.Nodup) ∧ ∀ {i j : Nat} {A A' : HA}, hs[i]? = some A → hs[j]? = some A' → i ≠ j → ∀ b ∈ A.fp, b ∉ A'.fp
  | [], _ => ⟨by simp, by simp⟩
  | A0 :: hs, h => by
    rw [List.flatMap_cons] at h
    obtain ⟨h1, h2, h3⟩ := List.nodup_append.1 h
    obtain ⟨k1, k2⟩ := zCq h2
    refine ⟨fun A hA => ?_, fun {i j A A'} hi hj hne b hb hb' => ?_⟩
    · rcases List.mem_cons.1 hA with rfl | hA
      · exact h1
      · exact k1 A hA
    · cases i with
      | zero =>
        cases j with
        | zero => exact hne rfl
        | succ j =>
          simp at hi hj
          subst hi
          exact h3 b hb b (List.mem_flatMap.2 ⟨A', List.mem_of_getElem? hj, hb'⟩) rfl
      | succ i =>
        cases j with
        | zero =>
          simp at hi hj
          subst hj
          exact h3 b hb' b (List.mem_flatMap.2 ⟨A, List.mem_of_getElem? hi, hb⟩) rfl
        | succ j => exact k2 (by simpa using hi) (by simpa using hj) (fun e => hne (by rw [e])) b hb hb'
theorem zCr {hs : List HA} : ∀ {is : List Nat} {r : List HA}, pick hs is = some r → ∀ A ∈ r, ∃ i ∈ is, hs[i]? = some A
  | [], r, h, A, hA => by simp only [pick] at h; cases h; cases hA
  | i :: is, r, h, A, hA => by
    simp only [pick] at h
    split at h
    · rename_i A0 r' h1 h2
      cases h
      rcases List.mem_cons.1 hA with rfl | hA
      · exact ⟨i, List.mem_cons_self .., h1⟩
      · obtain ⟨k, h3, h4⟩ := zCr h2 A hA
        exact ⟨k, List.mem_cons_of_mem _ h3, h4⟩
    · cases h
theorem zCs {hs : List HA} (g : (hs.flatMap HA.fp).Nodup) : ∀ {is : List Nat} {r : List HA}, pick hs is = some r → is.Nodup → (r.flatMap HA.fp).Nodup
  | [], r, h, _ => by simp only [pick] at h; cases h; simp
  | i :: is, r, h, hn => by
    simp only [pick] at h
    split at h
    · rename_i A0 r' h1 h2
      cases h
      obtain ⟨n1, n2⟩ := List.nodup_cons.1 hn
      rw [List.flatMap_cons]
      refine List.nodup_append.2 ⟨(zCq g).1 _ (List.mem_of_getElem? h1), zCs g h2 n2, fun b hb b' hb' e => ?_⟩
      subst e
      obtain ⟨A, hA, hbA⟩ := List.mem_flatMap.1 hb'
      obtain ⟨k, h3, h4⟩ := zCr h2 A hA
      exact (zCq g).2 h1 h4 (fun e => n1 (e ▸ h3)) b hb hbA
    · cases h
theorem zL (is : List Nat) {hs' : List HA} (h : pick hs is = some hs') (hn : is.Nodup) : ∀ w, Good B imm hs w → Good B imm hs' w := fun _ g =>
  g.sub (fun A hA => by obtain ⟨i, _, h1⟩ := zCr h A hA; exact List.mem_of_getElem? h1) (zCs g.nodup h hn)
theorem zV : ∀ w, Good B imm hs w → Good B imm [] w := fun _ h => h.sub (fun _ h => by cases h) (by simp)
end
end Go.LN
