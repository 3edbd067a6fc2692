/- Mutated nests, statements, programs: there, and bounded. -/
import Derived.Test.YtaedjkaagcbkdaaGreatVC1
import Derived.Test.YtaedjkaagcbkdaaGreatQZ
namespace Go.LN
set_option linter.unusedVariables false
set_option linter.unusedSimpArgs false
theorem BE.up1 : ∀ {n : Nat} {e : zH}, BE n e → BE (n + 1) e
  | 0, e, ⟨h1, h2, h3⟩ => ⟨h1, h2, by rw [h3]; simp, by rw [h3]; intro k hk; cases hk⟩
  | n + 1, e, ⟨h1, h2, h3, h4⟩ => ⟨h1, h2, h3, fun k hk => BE.up1 (h4 k hk)⟩
theorem BE.up {n m : Nat} {e : zH} (h : BE n e) (hm : n ≤ m) : BE m e := by
  obtain ⟨k, rfl⟩ := Nat.exists_eq_add_of_le hm
  induction k with
  | zero => exact h
  | succ k ih => exact BE.up1 (ih (by omega))
def QL (q : Nat) (l : List zA) : Prop := l.length ≤ q ∧ ∀ a ∈ l, BA a
def QN (q : Nat) (nest : List zI) : Prop := nest.length ≤ 2000 ∧ ∀ x ∈ nest, QL q x.Lo ∧ QL q x.Hi
def QS (q : Nat) (s : zR) : Prop := QL q s.Write.Subs ∧ BA s.Value.Index ∧ BL s.Value.Read.Subs ∧ s.Value.Kids.length ≤ q ∧ ∀ k ∈ s.Value.Kids, BE 6 k
theorem QL.up {q r : Nat} {l : List zA} (h : QL q l) (hq : q ≤ r) : QL r l := ⟨Nat.le_trans h.1 hq, h.2⟩
theorem QL.bl {q : Nat} {l : List zA} (h : QL q l) (hq : q ≤ 1000) : BL l := ⟨Nat.le_trans h.1 hq, h.2⟩
theorem QL.app {q k : Nat} {l m : List zA} (h : QL q l) (hm : QL k m) : QL (q + k) (l ++ m) := by
  refine ⟨by rw [List.length_append]; exact Nat.add_le_add h.1 hm.1, fun a ha => ?_⟩
  rcases List.mem_append.1 ha with ha | ha
  · exact h.2 a ha
  · exact hm.2 a ha
theorem QL.nil {q : Nat} : QL q [] := ⟨Nat.zero_le _, fun _ h => by cases h⟩
theorem QL.one {a : zA} (h : BA a) : QL 1 [a] := ⟨Nat.le_refl _, fun _ h' => List.mem_singleton.1 h' ▸ h⟩
theorem QL.two {a b : zA} (h : BA a) (h2 : BA b) : QL 2 [a, b] := QL.app (QL.one h) (QL.one h2)
theorem QN.up {q r : Nat} {l : List zI} (h : QN q l) (hq : q ≤ r) : QN r l := ⟨h.1, fun x hx => ⟨(h.2 x hx).1.up hq, (h.2 x hx).2.up hq⟩⟩
theorem QN.bn {q : Nat} {l : List zI} (h : QN q l) (hq : q ≤ 1000) : BN l := ⟨by have := h.1; omega, fun x hx => ⟨(h.2 x hx).1.bl hq, (h.2 x hx).2.bl hq⟩⟩
theorem QN.set {q : Nat} {l : List zI} (h : QN q l) {x : zI} (hx : QL q x.Lo ∧ QL q x.Hi) (k : Nat) : QN q (l.set k x) := ⟨by rw [List.length_set]; exact h.1, zCj h.2 hx k⟩
theorem QS.up {q r : Nat} {s : zR} (h : QS q s) (hq : q ≤ r) : QS r s := ⟨h.1.up hq, h.2.1, h.2.2.1, Nat.le_trans h.2.2.2.1 hq, h.2.2.2.2⟩
theorem QS.bs {q : Nat} {s : zR} (h : QS q s) (hq : q ≤ 1000) : BS s := ⟨h.1.bl hq, 7, h.2.1, h.2.2.1, by have := h.2.2.2.1; omega, h.2.2.2.2⟩
theorem zER {a : zA} (h : a.Coefs.length = 4) : BA a := by unfold BA; omega
theorem zFy (q : Nat) : ∀ (j : Nat) (out : List zI), 5 ≤ out.length + j → 1 ≤ out.length → QN q out → Ok (tQ out) (QN q)
  | 0, out, hj, h1, h => by
    rw [tQ]
    refine Ok.ite_dec (fun hc => absurd hc (by omega)) fun _ => Ok.pure h
  | j + 1, out, hj, h1, h => by
    rw [tQ]
    refine Ok.ite_dec (fun hc => ?_) fun _ => Ok.pure h
    refine Ok.idx (by omega) (by omega) fun x hx _ => Ok.app (by simp; omega) ?_
    refine zFy q j _ (by rw [List.length_append]; simp; omega) (by rw [List.length_append]; omega) ⟨by rw [List.length_append]; simp; omega, fun y hy => ?_⟩
    rcases List.mem_append.1 hy with hy | hy
    · exact h.2 y hy
    · rw [List.mem_singleton.1 hy]; exact h.2 x hx
theorem mut2 (q : Nat) (hq : q ≤ 300) (r : zO) (nest : List zI) (h : QN q nest) (h0 : 0 ≤ r.p) (h1 : r.p ≤ 900000000) : Ok (rU r nest) (fun y => QN (q + 2) y.1 ∧ 0 ≤ y.2.p ∧ y.2.p ≤ r.p + 2) := by
  have hup := h.up (show q ≤ q + 2 by omega)
  unfold rU
  rw [copyNest nest (h.bn (by omega))]
  refine Ok.bind_some (Ok.ite_beq (fun _ => Ok.pure ⟨hup, h0, by dsimp only; omega⟩) fun hne => ?_)
  have hpos : 0 < nest.length := by omega
  have hlen := h.1
  have hW : W ((nest.length : Int) - 1) = ((nest.length - 1 : Nat) : Int) := by rw [sR (by omega) (by omega)]; omega
  refine Ok.call (mG r 40) ⟨h0, by omega⟩ fun y2 s g1 g2 g3 => ?_
  refine Ok.ite_beq (fun _ => ?_) fun _ => Ok.ite_beq (fun _ => ?_) fun _ => Ok.ite_beq (fun _ => ?_) fun _ => Ok.ite_beq (fun _ => ?_) fun _ => Ok.ite_beq (fun _ => ?_) fun _ => ?_
  · refine Ok.idx (by omega) (by omega) fun x hx _ => Ok.call (mG s 2) ⟨by omega, by omega⟩ fun y5 s2 k1 k2 k3 => Ok.call (dS y5) ⟨k1, by omega⟩ fun a c1 c2 => ?_
    have hxx := h.2 x hx
    refine Ok.app (by have := hxx.1.1; simp; omega) (Ok.pure ⟨QN.set (x := ⟨x.Lo ++ [a], x.Hi⟩) hup ⟨(hxx.1.app (QL.one (zER c1))).up (show q + 1 ≤ q + 2 by omega), hxx.2.up (show q ≤ q + 2 by omega)⟩ _, by dsimp only; omega, by dsimp only; omega⟩)
  · rw [hW]
    refine Ok.idx (by omega) (by omega) fun x hx _ => ?_
    have hxx := h.2 x hx
    exact Ok.pure ⟨QN.set (x := ⟨x.Lo, []⟩) hup ⟨hxx.1.up (show q ≤ q + 2 by omega), QL.nil⟩ _, by dsimp only; omega, by dsimp only; omega⟩
  · rw [hW]
    refine Ok.idx (by omega) (by omega) fun x hx _ => Ok.call (pI 1) trivial (Ok.call (pI 2) trivial ?_)
    have hxx := h.2 x hx
    exact Ok.app (by have := hxx.2.1; simp; omega) (Ok.pure ⟨QN.set (x := ⟨x.Lo, x.Hi ++ [⟨[0, 0, 0, 0], 1⟩, ⟨[0, 0, 0, 0], 2⟩]⟩) hup ⟨hxx.1.up (show q ≤ q + 2 by omega), hxx.2.app (QL.two (zER rfl) (zER rfl))⟩ _, by dsimp only; omega, by dsimp only; omega⟩)
  · refine Ok.call (pI 99) trivial (Ok.idx (by omega) (by omega) fun x hx _ => ?_)
    have hxx := h.2 x hx
    exact Ok.pure ⟨QN.set (x := ⟨x.Lo, [⟨[0, 0, 0, 0], 99⟩]⟩) hup ⟨hxx.1.up (show q ≤ q + 2 by omega), (QL.one (zER rfl)).up (show 1 ≤ q + 2 by omega)⟩ _, by dsimp only; omega, by dsimp only; omega⟩
  · refine Ok.bind (zFy q 5 nest (by omega) hpos h) fun z hz => Ok.pure ⟨hz.up (by omega), by dsimp only; omega, by dsimp only; omega⟩
  · exact Ok.pure ⟨hup, by dsimp only; omega, by dsimp only; omega⟩
theorem mut3 (q : Nat) (hq : q ≤ 300) (r : zO) (s : zR) (h : QS q s) (h0 : 0 ≤ r.p) (h1 : r.p ≤ 900000000) : Ok (uS r s) (fun y => QS (q + 2) y.1 ∧ 0 ≤ y.2.p ∧ y.2.p ≤ r.p + 2) := by
  obtain ⟨w1, w2, w3, w4, w5⟩ := h.up (show q ≤ q + 2 by omega)
  obtain ⟨v1, _, _, v4, _⟩ := id h
  have v11 := v1.1
  unfold uS
  rw [copyStmt s (h.bs (by omega))]
  refine Ok.bind_some (Ok.call (mG r 40) ⟨h0, by omega⟩ fun y2 y3 g1 g2 g3 => ?_)
  have fin : ∀ (o : Str × List zA × Int × Int × List zH × zO), (QL (q + 2) o.2.1 ∧ (o.2.2.2.2.1.length ≤ q + 2 ∧ ∀ k ∈ o.2.2.2.2.1, BE 6 k) ∧ 0 ≤ o.2.2.2.2.2.p ∧ o.2.2.2.2.2.p ≤ r.p + 2) → QS (q + 2) (zR.mk (zK.mk o.1 o.2.1) (zH.mk o.2.2.1 o.2.2.2.1 s.Value.Index s.Value.Read o.2.2.2.2.1)) ∧ 0 ≤ o.2.2.2.2.2.p ∧ o.2.2.2.2.2.p ≤ r.p + 2 :=
    fun o ⟨a, b, c⟩ => ⟨⟨a, w2, w3, b.1, b.2⟩, c⟩
  refine Ok.bind (φ := fun o : Str × List zA × Int × Int × List zH × zO => QL (q + 2) o.2.1 ∧ (o.2.2.2.2.1.length ≤ q + 2 ∧ ∀ k ∈ o.2.2.2.2.1, BE 6 k) ∧ 0 ≤ o.2.2.2.2.2.p ∧ o.2.2.2.2.2.p ≤ r.p + 2) ?_ fun o ho => by
    obtain ⟨o1, o2, o3, o4, o5, o6⟩ := o
    exact Ok.pure (fin _ ho)
  refine Ok.ite_beq (fun _ => ?_) fun _ => ?_
  · exact Ok.call (fL y3 _) ⟨by decide, by omega, by omega⟩ fun z t _ k3 => Ok.pure ⟨w1, ⟨w4, w5⟩, by dsimp only; omega, by dsimp only; omega⟩
  refine Ok.bind (φ := fun o : List zA × Int × Int × List zH × zO => QL (q + 2) o.1 ∧ (o.2.2.2.1.length ≤ q + 2 ∧ ∀ k ∈ o.2.2.2.1, BE 6 k) ∧ 0 ≤ o.2.2.2.2.p ∧ o.2.2.2.2.p ≤ r.p + 2) ?_ fun o ho => by
    obtain ⟨o2, o3, o4, o5, o6⟩ := o
    exact Ok.pure ho
  refine Ok.ite_beq (fun _ => ?_) fun _ => ?_
  · exact Ok.call (dS 3) (by omega) fun a c1 c2 => Ok.call mS trivial (Ok.app (by simp; omega) (Ok.pure ⟨v1.app (QL.two (zER c1) (zER rfl)), ⟨w4, w5⟩, by dsimp only; omega, by dsimp only; omega⟩))
  refine Ok.bind (φ := fun o : Int × Int × List zH × zO => (o.2.2.1.length ≤ q + 2 ∧ ∀ k ∈ o.2.2.1, BE 6 k) ∧ 0 ≤ o.2.2.2.p ∧ o.2.2.2.p ≤ r.p + 2) ?_ fun o ho => by
    obtain ⟨o3, o4, o5, o6⟩ := o
    exact Ok.pure ⟨w1, ho⟩
  refine Ok.ite_beq (fun _ => ?_) fun _ => ?_
  · exact Ok.call (vR y3 _) ⟨by decide, by omega, by omega, by decide⟩ fun z t _ _ k3 => Ok.pure ⟨⟨w4, w5⟩, by dsimp only; omega, by dsimp only; omega⟩
  refine Ok.bind (φ := fun o : Int × List zH × zO => (o.2.1.length ≤ q + 2 ∧ ∀ k ∈ o.2.1, BE 6 k) ∧ 0 ≤ o.2.2.p ∧ o.2.2.p ≤ r.p + 2) ?_ fun o ho => by
    obtain ⟨o4, o5, o6⟩ := o
    exact Ok.pure ho
  refine Ok.ite_beq (fun _ => ?_) fun _ => ?_
  · exact Ok.call (vR y3 _) ⟨by decide, by omega, by omega, by decide⟩ fun z t _ _ k3 => Ok.pure ⟨⟨w4, w5⟩, by dsimp only; omega, by dsimp only; omega⟩
  refine Ok.bind (φ := fun o : List zH => o.length ≤ q + 2 ∧ ∀ k ∈ o, BE 6 k) ?_ fun o ho => Ok.pure ⟨ho, by dsimp only; omega, by dsimp only; omega⟩
  refine Ok.ite_beq (fun _ => ?_) fun _ => Ok.pure ⟨w4, w5⟩
  refine Ok.app (by show (_ + 1) * 112 ≤ _; omega) (Ok.pure ⟨by show (_ ++ _ : List zH).length ≤ _; rw [List.length_append]; show _ + 1 ≤ _; omega, fun k hk => ?_⟩)
  rcases List.mem_append.1 hk with hk | hk
  · exact w5 k hk
  · rw [List.mem_singleton.1 hk]
    exact BE.up (n := 0) ⟨Nat.zero_le _, ⟨Nat.zero_le _, fun _ h => by cases h⟩, rfl⟩ (by omega)
end Go.LN
