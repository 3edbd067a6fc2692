/- A new row of a length that is reckoned; calls of function values. -/
import Derived.Test.YtmjfehjlgmdfhaaDoorLnO
import Derived.Laws.BitsLemmas
namespace Go.LN
set_option linter.unusedVariables false
set_option linter.unusedSimpArgs false
def mkrow {α : Type} (bytes : Nat) (k : Int) (z : α) : Option (List α) := if 0 ≤ k ∧ k.toNat * bytes ≤ 140737488355328 then some (List.replicate k.toNat z) else none
def zrow (z : Array Value) (k : Nat) : List Value := (List.range k).map fun i => z[i % z.size]!
theorem zrow_one (z : Array Value) (k : Nat) (h : 0 < z.size) : (List.range z.size).map (fun i => z[(k * z.size + i) % z.size]!) = z.toList := by
  refine List.ext_getElem (by simp) fun i h1 h2 => ?_
  have hi : i < z.size := by simpa using h1
  simp only [List.getElem_map, List.getElem_range, Array.getElem_toList]
  have e : (k * z.size + i) % z.size = i := by rw [Nat.add_comm, Nat.mul_comm, Nat.add_mul_mod_self_left, Nat.mod_eq_of_lt hi]
  rw [e]
  exact getElem!_pos z i hi
theorem zrow_rep {α : Type} {ρ : List Value → α → Prop} {z : Array Value} {a : α} (hz : 0 < z.size) (h : ρ z.toList a) : ∀ k, RepL ρ z.size (zrow z (k * z.size)) (List.replicate k a)
  | 0 => by simp [zrow, RepL]
  | k + 1 => by
    have e : zrow z ((k + 1) * z.size) = zrow z (k * z.size) ++ z.toList := by
      unfold zrow
      rw [Nat.succ_mul, List.range_add, List.map_append, List.map_map]
      congr 1
      exact zrow_one z k hz
    rw [e, List.replicate_succ']
    exact (zrow_rep hz h k).append (.single (by simp) h)
section
variable {P : Program} {n : Nat} {B : Base} {Q : Exit → Act → World → Prop} {imm : Imm} {hs : List HA} {m : FM} {ops : List Oper} {pc d : Nat} {ty : TypeId} {pos : String} {after : Array Edge} {g : Option (Nat × Bool)}
def mkT (P : Program) (t : TypeId) : Option (Nat × Nat × List Value) :=
  match elemOfT P t with
  | some e => match sizeT P e, bytesT P e, zeroC P e with
    | some s, some b, some z => bif Nat.beq z.size s && Nat.blt 0 b then some (s, b, z.toList) else none
    | _, _, _ => none
  | none => none
theorem R_mk {α : Type} [Rp α] {t : TypeId} {x y : Operand} {k : Int} {a : α} {l : List α} (by' : Nat) (z : List Value) (ho : ops[pc]? = some ⟨some d, .makeSlice t x y, ty, pos, after, g⟩) (hk : mkrow by' k a = some l) (hr : Rp.rep imm z a)
    (next : ∀ b cs, RL imm cs l → R P n B ops Q (pc + 1) imm (.osl (.slice (some ⟨b, 0, none⟩) l.length l.length) (Rp.sz α) cs :: hs) ((d, .slice (some ⟨b, 0, none⟩) l.length l.length) :: m))
    (hg : guardB ops m g = some true := by kernel_rfl) (hn : Nat.blt d n = true := by kernel_rfl) (hx : val m x = some (.int .i64 k) := by kernel_rfl) (hy : val m y = some (.int .i64 k) := by kernel_rfl) (ht : mkT P t = some (Rp.sz α, by', z) := by kernel_rfl) :
    R P n B ops Q pc imm hs m := by
  refine R_value ho hg rfl hn fun ac w f gd => ?_
  unfold mkrow at hk
  split at hk
  · rename_i hk0
    cases hk
    obtain ⟨hk0, hkb⟩ := hk0
    unfold mkT at ht
    cases he : elemOfT P t with
    | none => rw [he] at ht; cases ht
    | some e =>
      rw [he] at ht
      simp only at ht
      split at ht
      · rename_i s b zc h1 h2 h3
        cases hq : Nat.beq zc.size s && Nat.blt 0 b with
        | false => rw [hq] at ht; cases ht
        | true =>
          rw [hq] at ht
          simp only [cond_true, Option.some.injEq, Prod.mk.injEq] at ht
          obtain ⟨rfl, rfl, rfl⟩ := ht
          rw [Bool.and_eq_true] at hq
          have hzs := Nat.eq_of_beq_eq_true hq.1
          have hb0 : 0 < b := by simpa using hq.2
          have hu : P.underlying t = some (.slice e) := by
            unfold elemOfT at he
            split at he <;> simp_all
          cases hie : P.info? e with
          | none => simp [sizeT, hie] at h1
          | some ie =>
          have hsz' : ie.size = Rp.sz α := by simpa [sizeT, hie] using h1
          have hby' : ie.bytes = b := by simpa [bytesT, hie] using h2
          obtain ⟨zv, hz1, hz2⟩ := run_zeroValue (w := w) h3
          have hpos : 0 < zc.size := by rw [hzs]; exact Rp.pos
          have hkk : (k.toNat : Int) = k := Int.toNat_of_nonneg hk0
          have hle : k.toNat ≤ k.toNat * b := Nat.le_mul_of_pos_right _ hb0
          have hwr : IntKind.i64.wrap k = k := by rw [IntKind.wrap_i64]; omega
          have hmul : ((ie.bytes : Int) * k) ≤ 140737488355328 := by
            rw [← hkk, hby', ← Int.natCast_mul, Nat.mul_comm]
            exact Int.ofNat_le.2 hkb
          have hnt : ¬ (k < 0) := by omega
          have hnb : ¬ ((ie.bytes : Int) * k > 2 ^ 48) := by omega
          let row : Array Value := if k.toNat * Rp.sz α = 0 then #[] else (Array.range (k.toNat * Rp.sz α)).map (fun i => zc[i % zc.size]!)
          have hrow : (((Array.range (k.toNat * ie.size)).map fun i => (if k.toNat * ie.size = 0 then #[] else zc)[i % (if k.toNat * ie.size = 0 then (#[] : Array Value) else zc).size]!)) = ⟨zrow zc (k.toNat * zc.size)⟩ := by
            rw [hsz', ← hzs]
            apply Array.ext'
            by_cases h0 : k.toNat * zc.size = 0
            · simp [h0, zrow]
            · simp [h0, zrow]
          have hlen : (zrow zc (k.toNat * zc.size)).length = k.toNat * Rp.sz α := by simp [zrow, hzs]
          have hg := gd.alloc_osl ⟨zrow zc (k.toNat * zc.size)⟩ e (Rp.sz α) k.toNat k.toNat (zrow zc (k.toNat * zc.size)) (by show _ ≤ (zrow _ _).length; rw [hlen]; exact Nat.le_refl _) (Nat.le_refl _) (by rw [← hlen]; exact List.take_length) hlen (by omega)
          have hll : (List.replicate k.toNat a).length = k.toNat := List.length_replicate
          rw [hll] at next
          refine ⟨_, _, imm, _, ?_, hg, next w.heap.size _ ?_⟩
          · simp only [execOp, f.eval hx, f.eval hy, Instr.makeSlice, Sem.run_bind, run_underlying hu, Result.andThen_ok, asInt, asIntOf, Sem.run_pure, typeInfo, run_program, hie, hwr, hnt, hnb, decide_false, Bool.false_or, Bool.false_eq_true, false_or, or_self, if_false, Int.lt_irrefl,
              gt_iff_lt, run_askRoom, run_sizeOf h1]
            by_cases h0 : k.toNat * Rp.sz α = 0
            · have := hrow
              rw [hsz'] at this
              simp only [h0, if_true] at this ⊢
              simp only [Sem.run_pure, Result.andThen_ok, newRow, run_newObj, Sem.run_bind, this]
            · have := hrow
              rw [hsz'] at this
              simp only [h0, if_false] at this ⊢
              simp only [Sem.run_bind, hz1, hz2, Sem.run_pure, Result.andThen_ok, newRow, run_newObj, this]
          · have := zrow_rep (z := zc) (a := a) hpos hr k.toNat
            rw [hzs] at this
            show RepL _ _ _ _
            rw [hzs]
            exact this
      · cases ht
  · cases hk
theorem R_callf {f : FuncId} {first cap : List Value} {x : Operand} {xs : Array Operand} {ts : Array TypeId} {vs : List Value} {hs1 rest : List HA} {post : Nat → Imm → List HA → Value → Prop}
    (ho : ops[pc]? = some ⟨some d, .call { callee := .value x, args := xs, argTypes := ts }, ty, pos, after, g⟩) (hx : val m x = some (.func (.func f) ⟨first⟩ ⟨cap⟩)) (hf : callable P f = true)
    (hvs : vals m xs.toList = some vs) (hh : hs = hs1 ++ rest) (hc : Ret P f (first ++ vs ++ cap) imm hs1 post)
    (next : ∀ imm' hs' v k, imm.le imm' → B.w0.heap.size ≤ k → post k imm' hs' v → (∀ b ∈ hs'.flatMap HA.fp, b ∈ hs1.flatMap HA.fp ∨ B.w0.heap.size ≤ b) → R P n B ops Q (pc + 1) imm' (hs' ++ rest) ((d, v) :: m)) (hg : guardB ops m g = some true := by kernel_rfl) (hn : Nat.blt d n = true := by kernel_rfl) : R P n B ops Q pc imm hs m :=
  R_step ho hg fun a w fr gd => by
    subst hh
    have hargs : xs.map a.eval = vs.toArray := by apply Array.ext'; rw [Array.toList_map, fr.evals hvs]
    have hall : (⟨first⟩ : Array Value) ++ vs.toArray ++ ⟨cap⟩ = (first ++ vs ++ cap).toArray := by apply Array.ext'; simp
    have hnd := gd.nodup
    rw [List.flatMap_append] at hnd
    have hg1 := gd.enter (hs1 := hs1) (fun A hA => List.mem_append_left _ hA) (List.nodup_append.1 hnd).1
    unfold Oper.wp
    simp only [execOp, resolve, Deferred.ofValue, fr.eval hx, hargs, Sem.run_bind, Sem.run_pure, Result.andThen_ok, invoke, hall, run_callFunc hf, Oper.upon]
    refine (hc w hg1).mono fun e w' he => ?_
    cases e with
    | returned v =>
      obtain ⟨imm', hs', hp, hgood⟩ := he
      obtain ⟨g2, hle, hfp⟩ := gd.leave hgood
      exact next imm' hs' v w.heap.size hle gd.frm.size hp hfp _ w' (fr.put d v (by simpa using hn)) g2
    | panicked c => exact he.elim
    | outgrown => exact he.elim
end
class Vr (α : Type) where
  rep : Imm → Value → α → Prop
  mono : ∀ {i j : Imm} {v : Value} {a : α}, i.le j → rep i v a → rep j v a
instance : Vr Int := ⟨fun _ v a => v = .int .i64 a, fun _ h => h⟩
instance : Vr Bool := ⟨fun _ v a => v = .bool a, fun _ h => h⟩
instance : Vr Str := ⟨fun _ v a => v = .string ⟨⟨a.l⟩⟩, fun _ h => h⟩
instance {α : Type} [Rp α] : Vr (List α) := ⟨fun i v a => SL i v a, fun hl h => h.mono hl⟩
def FV1 {α β : Type} [Vr α] [Vr β] (P : Program) (imm : Imm) (hsF : List HA) (v : Value) (φ : α → Option β) : Prop :=
  ∃ f first cap, v = .func (.func f) ⟨first⟩ ⟨cap⟩ ∧ callable P f = true ∧ ∀ imm', imm.le imm' → ∀ a r va, φ a = some r → Vr.rep imm' va a → Ret P f (first ++ [va] ++ cap) imm' hsF fun _ i hs' u => hs' = hsF ∧ Vr.rep i u r
theorem FV1.mono {α β : Type} [Vr α] [Vr β] {P : Program} {i j : Imm} {hsF : List HA} {v : Value} {φ : α → Option β} (hl : i.le j) (h : FV1 P i hsF v φ) : FV1 P j hsF v φ := by
  obtain ⟨f, first, cap, h1, h2, h3⟩ := h
  exact ⟨f, first, cap, h1, h2, fun imm' h' => h3 imm' (hl.trans h')⟩
theorem FV1.intro {α β : Type} [Vr α] [Vr β] {P : Program} {imm : Imm} {hsF : List HA} {f : FuncId} {first cap : List Value} {φ : α → Option β} (h : ∀ imm', imm.le imm' → ∀ a r va, φ a = some r → Vr.rep imm' va a → Ret P f (first ++ [va] ++ cap) imm' hsF fun _ i hs' u => hs' = hsF ∧ Vr.rep i u r)
    (hc : callable P f = true := by kernel_rfl) : FV1 P imm hsF (.func (.func f) ⟨first⟩ ⟨cap⟩) φ := ⟨f, first, cap, rfl, hc, h⟩
def FV2 {α β γ : Type} [Vr α] [Vr β] [Vr γ] (P : Program) (imm : Imm) (hsF : List HA) (v : Value) (φ : α → β → Option γ) : Prop :=
  ∃ f first cap, v = .func (.func f) ⟨first⟩ ⟨cap⟩ ∧ callable P f = true ∧ ∀ imm', imm.le imm' → ∀ a b r va vb, φ a b = some r → Vr.rep imm' va a → Vr.rep imm' vb b → Ret P f (first ++ [va, vb] ++ cap) imm' hsF fun _ i hs' u => hs' = hsF ∧ Vr.rep i u r
theorem FV2.mono {α β γ : Type} [Vr α] [Vr β] [Vr γ] {P : Program} {i j : Imm} {hsF : List HA} {v : Value} {φ : α → β → Option γ} (hl : i.le j) (h : FV2 P i hsF v φ) : FV2 P j hsF v φ := by
  obtain ⟨f, first, cap, h1, h2, h3⟩ := h
  exact ⟨f, first, cap, h1, h2, fun imm' h' => h3 imm' (hl.trans h')⟩
theorem FV2.intro {α β γ : Type} [Vr α] [Vr β] [Vr γ] {P : Program} {imm : Imm} {hsF : List HA} {f : FuncId} {first cap : List Value} {φ : α → β → Option γ} (h : ∀ imm', imm.le imm' → ∀ a b r va vb, φ a b = some r → Vr.rep imm' va a → Vr.rep imm' vb b → Ret P f (first ++ [va, vb] ++ cap) imm' hsF fun _ i hs' u => hs' = hsF ∧ Vr.rep i u r)
    (hc : callable P f = true := by kernel_rfl) : FV2 P imm hsF (.func (.func f) ⟨first⟩ ⟨cap⟩) φ := ⟨f, first, cap, rfl, hc, h⟩
section
variable {P : Program} {n : Nat} {B : Base} {Q : Exit → Act → World → Prop} {imm : Imm} {hs : List HA} {m : FM} {ops : List Oper} {pc d : Nat} {ty : TypeId} {pos : String} {after : Array Edge} {g : Option (Nat × Bool)}
theorem R_fv1 {α β : Type} [Vr α] [Vr β] {x y : Operand} {ts : Array TypeId} {v va : Value} {a : α} {r : β} {φ : α → Option β} {hsF rest : List HA}
    (ho : ops[pc]? = some ⟨some d, .call { callee := .value x, args := #[y], argTypes := ts }, ty, pos, after, g⟩) (hy : val m y = some va) (hF : FV1 P imm hsF v φ) (hr : φ a = some r) (ha : Vr.rep imm va a) (hh : hs = hsF ++ rest)
    (next : ∀ imm' u, imm.le imm' → Vr.rep imm' u r → R P n B ops Q (pc + 1) imm' (hsF ++ rest) ((d, u) :: m)) (hx : val m x = some v := by kernel_rfl) (hg : guardB ops m g = some true := by kernel_rfl) (hn : Nat.blt d n = true := by kernel_rfl) : R P n B ops Q pc imm hs m := by
  obtain ⟨f, first, cap, rfl, hf, hc⟩ := hF
  refine R_callf ho hx hf (vs := [va]) (by simp [vals, hy]) hh (hc imm (Imm.le.refl _) a r va hr ha) ?_ hg hn
  rintro imm' hs' u k hl hk ⟨rfl, h⟩ -
  exact next imm' u hl h
end
end Go.LN
