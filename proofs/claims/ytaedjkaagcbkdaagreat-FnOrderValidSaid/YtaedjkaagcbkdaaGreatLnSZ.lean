/- A list of parts under construction: all but the last are never written again; the last one's slices are owned. -/
import Derived.Test.YtaedjkaagcbkdaaGreatLnTZ
import Derived.Test.YtaedjkaagcbkdaaGreatLnV
namespace Go.LN
set_option linter.unusedVariables false
set_option linter.unusedSimpArgs false
structure Raw2 where
  a : Value
  b : Value
instance : Rp Raw2 where
  sz := 2
  pos := by decide
  rep _ cs r := cs = [r.a, r.b] ∧ r.a.oneCell' = true ∧ r.b.oneCell' = true
  len h := by obtain ⟨rfl, _⟩ := h; rfl
  mono _ h := h
  one h := by obtain ⟨rfl, h1, h2⟩ := h; simp [h1, h2]
def flat : List Raw2 → List Value
  | [] => []
  | r :: l => r.a :: r.b :: flat l
theorem jK : ∀ (a b : List Raw2), flat (a ++ b) = flat a ++ flat b
  | [], _ => rfl
  | r :: a, b => by simp [flat, jK a b]
theorem nF {imm : Imm} : ∀ {l : List Raw2} {cs : List Value}, RL imm cs l → cs = flat l
  | [], cs, h => h
  | r :: l, cs, ⟨c1, c2, h1, _, h3, h4⟩ => by
    obtain ⟨rfl, _⟩ := h3
    rw [h1, nF h4]; rfl
def LP (imm : Imm) (raws : List Raw2) (parts : List zP) (vN : Value) (nl : List zI) (vB : Value) (bl : List zR) : Prop :=
  parts.length ≤ 140737488355328 ∧ raws.length = parts.length ∧
    ((parts = [] ∧ raws = []) ∨ ∃ rl l, parts = l ++ [⟨nl, bl⟩] ∧ raws = rl ++ [⟨vN, vB⟩] ∧ RepL (Rp.rep imm) (Rp.sz zP) (flat rl) l)
theorem LP.mono {i j : Imm} (hl : i.le j) {raws : List Raw2} {parts : List zP} {vN vB : Value} {nl : List zI} {bl : List zR} (h : LP i raws parts vN nl vB bl) : LP j raws parts vN nl vB bl := by
  obtain ⟨h1, h2, h3⟩ := h
  refine ⟨h1, h2, h3.imp id ?_⟩
  rintro ⟨rl, l, k1, k2, k3⟩
  exact ⟨rl, l, k1, k2, RepL.mono (fun _ _ => Rp.mono hl) k3⟩
structure L4 (imm : Imm) (cs : List Value) (arr : List zJ) (cs1 : List Value) (raws : List Raw2) (parts : List zP) (vN : Value) (nl : List zI) (vB : Value) (bl : List zR) (csN csB : List Value) : Prop where
  arr : RL imm cs arr
  raw : RL imm cs1 raws
  lp : LP imm raws parts vN nl vB bl
  n : RL imm csN nl
  b : RL imm csB bl
theorem L4.mono {i j : Imm} (hl : i.le j) {cs : List Value} {arr : List zJ} {cs1 : List Value} {raws : List Raw2} {parts : List zP} {vN vB : Value} {nl : List zI} {bl : List zR} {csN csB : List Value}
    (h : L4 i cs arr cs1 raws parts vN nl vB bl csN csB) : L4 j cs arr cs1 raws parts vN nl vB bl csN csB :=
  ⟨RepL.mono (fun _ _ => Rp.mono hl) h.arr, RepL.mono (fun _ _ => Rp.mono hl) h.raw, h.lp.mono hl, RepL.mono (fun _ _ => Rp.mono hl) h.n, RepL.mono (fun _ _ => Rp.mono hl) h.b⟩
theorem LP.len {imm : Imm} {raws : List Raw2} {parts : List zP} {vN vB : Value} {nl : List zI} {bl : List zR} (h : LP imm raws parts vN nl vB bl) : (parts.length : Int) = (raws.length : Int) := by rw [h.2.1]
theorem LP.last {imm : Imm} {raws : List Raw2} {parts : List zP} {vN vB : Value} {nl : List zI} {bl : List zR} (h : LP imm raws parts vN nl vB bl) {x : zP} (hx : idx parts (W ((raws.length : Int) - 1)) = some x) :
    x = ⟨nl, bl⟩ ∧ idx raws (W ((raws.length : Int) - 1)) = some ⟨vN, vB⟩ ∧
      ∀ vN' nl' vB' bl', LP imm (raws.set (W ((raws.length : Int) - 1)).toNat ⟨vN', vB'⟩) (parts.set (W ((raws.length : Int) - 1)).toNat ⟨nl', bl'⟩) vN' nl' vB' bl' := by
  obtain ⟨h1, h2, h3⟩ := h
  have hW : W ((raws.length : Int) - 1) = (raws.length : Int) - 1 := sR (by omega) (by omega)
  rw [hW] at hx ⊢
  rcases h3 with ⟨rfl, rfl⟩ | ⟨rl, l, rfl, rfl, h4⟩
  · simp [idx] at hx
  · have hl : l.length = rl.length := by simpa using h2.symm
    have e : (((rl ++ [(⟨vN, vB⟩ : Raw2)]).length : Int) - 1).toNat = rl.length := by simp
    have e0 : (0 : Int) ≤ ((rl ++ [(⟨vN, vB⟩ : Raw2)]).length : Int) - 1 := by simp
    unfold idx at hx ⊢
    rw [if_pos e0, e] at hx ⊢
    rw [← hl] at hx
    refine ⟨by simpa using hx.symm, by simp, fun vN' nl' vB' bl' => ⟨?_, ?_, .inr ⟨rl, l, ?_, ?_, h4⟩⟩⟩
    · simpa using h1
    · simpa using h2
    · rw [← hl]; simp
    · simp
theorem LP.part {imm : Imm} {raws : List Raw2} {parts : List zP} {vN vB : Value} {nl : List zI} {bl : List zR} (h : LP imm raws parts vN nl vB bl) (hN : SL imm vN nl) (hB : SL imm vB bl) {l1 : List zP}
    (ha : app 48 parts [(⟨[], []⟩ : zP)] = some l1) : LP imm (raws ++ [⟨.slice none 0 0, .slice none 0 0⟩]) l1 (.slice none 0 0) [] (.slice none 0 0) [] := by
  obtain ⟨hb, rfl⟩ := gD ha
  obtain ⟨h1, h2, h3⟩ := h
  refine ⟨?_, ?_, .inr ⟨raws, parts, rfl, rfl, ?_⟩⟩
  · simp at hb ⊢; omega
  · simp [h2]
  · rcases h3 with ⟨rfl, rfl⟩ | ⟨rl, l, rfl, rfl, h4⟩
    · rfl
    · rw [jK]
      exact h4.append (.single rfl (sC ⟨_, _, rfl, hN, hB⟩))
theorem zFq {α β : Type} {b : Nat} {l : List α} {m : List α} {l' : List β} {m' : List β} {y : List α} (h : app b l m = some y) (h1 : l'.length = l.length) (h2 : m'.length = m.length) : app b l' m' = some (l' ++ m') := by
  obtain ⟨k, _⟩ := gD h
  unfold app
  rw [h1, h2, if_pos k]
theorem LP.done {imm : Imm} {raws : List Raw2} {parts : List zP} {vN vB : Value} {nl : List zI} {bl : List zR} (h : LP imm raws parts vN nl vB bl) (hN : SL imm vN nl) (hB : SL imm vB bl) : RepL (Rp.rep imm) (Rp.sz zP) (flat raws) parts := by
  obtain ⟨h1, h2, h3⟩ := h
  rcases h3 with ⟨rfl, rfl⟩ | ⟨rl, l, rfl, rfl, h4⟩
  · rfl
  · rw [jK]
    exact h4.append (.single rfl (sC ⟨_, _, rfl, hN, hB⟩))
section
variable {P : Program} {n : Nat} {B : Base} {Q : Exit → Act → World → Prop} {imm : Imm} {hs : List HA} {m : FM} {ops : List Oper} {pc d : Nat} {ty : TypeId} {pos : String} {after : Array Edge} {g : Option (Nat × Bool)}
end
end Go.LN
