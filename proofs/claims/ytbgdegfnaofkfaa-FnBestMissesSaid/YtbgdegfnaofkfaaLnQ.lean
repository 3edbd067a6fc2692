/- What a call of the library leaves: new blocks, draws. -/
import Derived.Test.YtbgdegfnaofkfaaLnP
import Derived.Sort.Grow
import Derived.Lib.LaidTab
import Derived.Lib.ItoaNum
import Derived.Lib.ItoaMem
import Derived.Sort.Row
namespace Go.LN
set_option linter.unusedVariables false
set_option linter.unusedSimpArgs false
theorem Good.grow {B : Base} {imm : Imm} {hs : List HA} {w : World} (h : Good B imm hs w) (k : Nat) (os : Array Obj) : Good B imm hs (Sort.grow (w.drewN k) os) := by
  have h := h.drewN k
  generalize w.drewN k = w at h
  have old : ∀ b, b < w.heap.size → (Sort.grow w os).heap[b]? = w.heap[b]? := fun b hb => by
    show (w.heap ++ os)[b]? = _
    rw [Array.getElem?_append_left hb]
  refine ⟨fun b c e => ?_, fun A hA => (h.own A hA).same (fun _ _ p => p) (fun _ _ => rfl) (fun b hb => old b ((h.own A hA).lt hb).1), h.nodup, ⟨h.frm.os, h.frm.tape, h.frm.output, ?_, fun b hb hio => ?_, h.frm.imm⟩⟩
  · obtain ⟨ty, fr, e'⟩ := h.inv b c e
    exact ⟨ty, fr, (old b (h.lt_imm e)).trans e'⟩
  · show _ ≤ (w.heap ++ os).size
    rw [Array.size_append]
    exact Nat.le_trans h.frm.size (Nat.le_add_right _ _)
  · exact (old b (Nat.lt_of_lt_of_le hb h.frm.size)).trans (h.frm.heap b hb hio)
def GH (P : Program) (imm : Imm) : Prop := ∃ g, P.globalNamed "internal/strconv.uint64pow10" = some g ∧ imm g = some (Lib.pow10Tab.map fun z => Value.int .u64 z).toArray
theorem GH.mono {P : Program} {i j : Imm} (hl : i.le j) (h : GH P i) : GH P j := by
  obtain ⟨g, h1, h2⟩ := h
  exact ⟨g, h1, hl _ _ h2⟩
theorem repI {i : Imm} : ∀ {l : List Int} {cs : List Value}, RepL (Rp.rep i) (Rp.sz Int) cs l → cs = l.map (Value.int .i64)
  | [], cs, h => h
  | x :: l, cs, ⟨c1, c2, h1, _, h3, h4⟩ => by
    have h3 : c1 = [.int .i64 x] := h3
    rw [h1, h3, repI h4]; rfl
theorem repI' {i : Imm} : ∀ (l : List Int), RepL (Rp.rep i) (Rp.sz Int) (l.map (Value.int .i64)) l
  | [] => rfl
  | x :: l => ⟨[.int .i64 x], l.map (Value.int .i64), rfl, rfl, rfl, repI' l⟩
def delI (s : List Int) (i j : Int) : Option (List Int) := if 0 ≤ i ∧ i ≤ j ∧ j ≤ s.length ∧ 0 < s.length then some (s.take i.toNat ++ s.drop j.toNat) else none
theorem ret_delete {P : Program} {f : FuncId} (hc : ∀ (blk off cap i j : Nat) (zs : List Int) (w : World), Sort.Holds (Value.int .i64) w blk off zs.toArray → zs.length ≤ cap → cap ≤ 9223372036854775807 → i ≤ j → j ≤ zs.length →
      Calls P f #[.slice (some ⟨blk, off, none⟩) zs.length cap, .int .i64 i, .int .i64 j] w fun e w' => e = .returned (.slice (some ⟨blk, off, none⟩) (zs.length - (j - i)) cap) ∧ ∃ q, w' = Sort.putRow (Value.int .i64) (Sort.ahead w q) blk off (zs.take i ++ zs.drop j ++ List.replicate (j - i) 0).toArray)
    {s r : List Int} {i j : Int} (hd : delI s i j = some r) {imm : Imm} {p : Option Addr} {c : Nat} {cs : List Value} (hr : RL imm cs s) {post : Nat → Imm → List HA → Value → Prop}
    (hp : ∀ k a' c' cs', RL imm cs' r → (∀ b ∈ (HA.osl (vS a' r c') (Rp.sz Int) cs').fp, b ∈ (HA.osl (vS p s c) (Rp.sz Int) cs).fp ∨ k ≤ b) → post k imm [hO Int (vS a' r c') cs'] (vS a' r c')) :
    Ret P f [vS p s c, vI i, vI j] imm [hO Int (vS p s c) cs] post := by
  unfold delI at hd
  split at hd
  · rename_i hb
    cases hd
    obtain ⟨hi, hij, hj, hpos⟩ := hb
    intro w g
    have hcs := repI hr
    rcases g.own _ (List.mem_cons_self ..) with ⟨e, _⟩ | ⟨b, off, len, cap, all, ty, e, h1, h2, hw, hcap, hlc, hcl, hal, hM⟩
    · exfalso
      injection e with _ e2 _
      omega
    · injection e with e1 e2 e3
      subst e1; subst e2; subst e3
      simp only [show Rp.sz Int = 1 from rfl, Nat.mul_one] at hcap hcl hal
      have hcell : ∀ q, q < s.length → all[off + q]? = some (Value.int .i64 (s[q]!)) := by
        intro q hq
        have h0 : cs[q]? = some (Value.int .i64 s[q]!) := by
          rw [hcs, List.getElem?_map, List.getElem?_eq_getElem hq, Option.map_some, getElem!_pos s q hq]
        rw [← hal, List.getElem?_take, if_pos hq, List.getElem?_drop, Array.getElem?_toList] at h0
        exact h0
      have hH : Sort.Holds (Value.int .i64) w b off s.toArray := by
        intro q hq
        have hq : q < s.length := by simpa using hq
        refine ⟨?_, ?_⟩
        · simp only [World.cell?, hw]
          have := hcell q hq
          simp only [Option.isSome_none, Bool.false_eq_true, if_false, this]
          congr 2
          simp [hq]
        · simp only [World.frozen?, hw]
          simp
      have hc' := hc b off c i.toNat j.toNat s w hH hlc hM (by omega) (by omega)
      have ei : ((i.toNat : Nat) : Int) = i := Int.toNat_of_nonneg hi
      have ej : ((j.toNat : Nat) : Int) = j := Int.toNat_of_nonneg (by omega)
      rw [ei, ej] at hc'
      refine hc'.mono fun e w' ⟨he, q, hw'⟩ => ?_
      subst he; subst hw'
      have hlen : (s.take i.toNat ++ s.drop j.toNat).length = s.length - (j.toNat - i.toNat) := by
        rw [List.length_append, List.length_take, List.length_drop]; omega
      let new : List Int := s.take i.toNat ++ s.drop j.toNat ++ List.replicate (j.toNat - i.toNat) 0
      have hnl : new.length = s.length := by
        show (_ ++ _ ++ _ : List Int).length = _
        rw [List.length_append, hlen, List.length_replicate]; omega
      let all' := Sort.putCells (Value.int .i64) off new.toArray all
      have hsz : all'.size = all.size := by simp [all', Sort.putCells]
      have hw2 : Sort.putRow (Value.int .i64) (Sort.ahead w q) b off new.toArray = setBlk (Sort.ahead w q) b (.cells all' ty (0, 0)) := by
        unfold Sort.putRow Sort.mapBlock setBlk
        congr 1
        apply Array.ext_getElem?
        intro k
        rw [Array.getElem?_modify, Array.getElem?_setIfInBounds]
        by_cases hk : b = k
        · subst hk
          have hw3 : (Sort.ahead w q).heap[b]? = some (.cells all ty (0, 0)) := hw
          have hlt : b < (Sort.ahead w q).heap.size := by
            rcases Nat.lt_or_ge b (Sort.ahead w q).heap.size with h' | h'
            · exact h'
            · rw [Array.getElem?_eq_none h'] at hw3; cases hw3
          rw [if_pos rfl, if_pos rfl, if_pos hlt, hw3]
          rfl
        · rw [if_neg hk, if_neg hk]
      have hg2 : Good ⟨w, imm, (([hO Int (vS (some ⟨b, off, none⟩) s c) cs] : List HA)).flatMap HA.fp⟩ imm [hO Int (vS (some ⟨b, off, none⟩) s c) cs] (Sort.ahead w q) := g.draw _
      have hget : ∀ k, k < s.length → all'[off + k]? = some (Value.int .i64 new[k]!) := by
        intro k hk
        have h0 := hcell k hk
        simp only [all', Sort.putCells, Array.getElem?_mapIdx, h0, Option.map_some]
        rw [if_pos ⟨by omega, by simp only [List.size_toArray, hnl]; omega⟩]
        congr 2
        rw [show off + k - off = k by omega]
        simp [hnl, hk]
      rw [← hlen]
      refine ⟨imm, _, hp _ (some ⟨b, off, none⟩) c ((s.take i.toNat ++ s.drop j.toNat).map (Value.int .i64)) (repI' _) (fun x hx => .inl (by simpa [HA.fp] using hx)), ?_⟩
      · show Good _ imm _ (Sort.putRow (Value.int .i64) (Sort.ahead w q) b off new.toArray)
        rw [hw2]
        refine hg2.write (A' := .osl (vS (some ⟨b, off, none⟩) (s.take i.toNat ++ s.drop j.toNat) c) (Rp.sz Int) ((s.take i.toNat ++ s.drop j.toNat).map (Value.int .i64))) (b := b) (by simp [HA.fp]) (by simp [HA.fp]) _ (.inr ⟨b, off, _, c, all', ty, rfl, h1, h2, ?_, ?_, ?_, ?_, ?_, hM⟩)
        · have hlt : b < (Sort.ahead w q).heap.size := (hg2.mem_lt (b := b) (by simp [HA.fp])).1
          exact setBlk_self hlt
        · rw [hsz, show Rp.sz Int = 1 from rfl, Nat.mul_one]; exact hcap
        · rw [hlen]; omega
        · simp [show Rp.sz Int = 1 from rfl]
        · apply List.ext_getElem?
          intro k
          rw [show Rp.sz Int = 1 from rfl, Nat.mul_one, List.getElem?_take, List.getElem?_drop, Array.getElem?_toList]
          by_cases hk : k < (s.take i.toNat ++ s.drop j.toNat).length
          · rw [if_pos hk, hget k (by omega)]
            rw [List.getElem?_map, List.getElem?_eq_getElem hk, Option.map_some]
            congr 2
            rw [getElem!_pos new k (by omega)]
            exact List.getElem_append_left hk
          · rw [if_neg hk, List.getElem?_eq_none (by rw [List.length_map]; omega)]
  · cases hd
end Go.LN
