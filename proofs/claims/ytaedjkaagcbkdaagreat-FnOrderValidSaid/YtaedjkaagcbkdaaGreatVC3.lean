/- Drawn programs are there and bounded. -/
import Derived.Test.YtaedjkaagcbkdaaGreatVC2
namespace Go.LN
set_option linter.unusedVariables false
set_option linter.unusedSimpArgs false
def DX (x : zP) : Prop := QN 100 x.Nest ∧ x.Body.length ≤ 1000 ∧ ∀ s ∈ x.Body, QS 100 s
def DP (P : zZ) : Prop := (P.Arrays.length ≤ 1000 ∧ ∀ a ∈ P.Arrays, a.Dims.length ≤ 1000) ∧ P.Parts.length ≤ 1000 ∧ ∀ x ∈ P.Parts, DX x
theorem DX.bp {x : zP} (h : DX x) : BP x := ⟨h.1.bn (by omega), by have := h.2.1; omega, fun s hs => (h.2.2 s hs).bs (by omega)⟩
theorem DP.bg {P : zZ} (h : DP P) : BG P := ⟨⟨by have := h.1.1; omega, h.1.2⟩, by have := h.2.1; omega, fun x hx => (h.2.2 x hx).bp⟩
def PB (l : List zP) : Prop := l.length ≤ 1000 ∧ ∀ x ∈ l, BP x
theorem PB.set {l : List zP} (h : PB l) {x : zP} (hx : BP x) (k : Nat) : PB (l.set k x) := ⟨by rw [List.length_set]; exact h.1, zCj h.2 hx k⟩
def AR (l : List zJ) : Prop := l.length ≤ 2000 ∧ ∀ a ∈ l, a.Dims.length ≤ 1000
def RD (s : zO) : Prop := 0 ≤ s.p ∧ s.p ≤ 700001000
theorem mut4 (r : zO) (P : zZ) (h : DP P) (h0 : 0 ≤ r.p) (h1 : r.p ≤ 700000000) : Ok (rV r P) (fun y => (BG y.1 ∧ AR y.1.Arrays) ∧ RD y.2) := by
  obtain ⟨⟨a1, a2⟩, p1, p2⟩ := id h
  have hA : AR P.Arrays := ⟨by omega, a2⟩
  have hP : PB P.Parts := ⟨p1, fun x hx => (p2 x hx).bp⟩
  have hW : 0 < P.Parts.length → W ((P.Parts.length : Int) - 1) = ((P.Parts.length - 1 : Nat) : Int) := fun hp => by rw [sR (by omega) (by omega)]; omega
  unfold rV
  rw [copyProg P h.bg]
  refine Ok.bind_some (Ok.call (mG r 60) ⟨h0, by omega⟩ fun y2 y3 g1 g2 g3 => ?_)
  have hR : RD y3 := ⟨by omega, by omega⟩
  refine Ok.bind (φ := fun o : List zJ × List zP × zO => AR o.1 ∧ PB o.2.1 ∧ RD o.2.2) ?_ fun o ho => by
    obtain ⟨o1, o2, o3⟩ := o
    exact Ok.pure ⟨⟨⟨⟨by have := ho.1.1; dsimp only at this ⊢; omega, ho.1.2⟩, by have := ho.2.1.1; dsimp only at this ⊢; omega, ho.2.1.2⟩, ho.1⟩, ho.2.2⟩
  refine Ok.ite_beq (fun _ => ?_) fun _ => ?_
  · refine Ok.call (fL y3 _) ⟨by decide, by omega, by omega⟩ fun z t _ k3 => Ok.call (vR t _) ⟨by decide, by omega, by omega, by decide⟩ fun z2 t2 _ _ k4 => Ok.app (by show (_ + 1) * 40 ≤ _; omega) (Ok.pure ⟨⟨by show (_ ++ _ : List zJ).length ≤ _; rw [List.length_append]; show _ + 1 ≤ _; omega, fun a ha => ?_⟩, hP, ⟨by dsimp only; omega, by dsimp only; omega⟩⟩)
    rcases List.mem_append.1 ha with ha | ha
    · exact a2 a ha
    · rw [List.mem_singleton.1 ha]; show 1 ≤ 1000; omega
  refine Ok.bind (φ := fun o : List zJ × List zP × zO => AR o.1 ∧ PB o.2.1 ∧ RD o.2.2) ?_ fun o ho => by
    obtain ⟨o1, o2, o3⟩ := o
    exact Ok.pure ho
  refine Ok.ite_beq (fun _ => ?_) fun _ => ?_
  · refine Ok.bind (φ := fun o : List zJ × zO => AR o.1 ∧ RD o.2) ?_ fun o ho => by
      obtain ⟨o1, o3⟩ := o
      exact Ok.pure ⟨ho.1, hP, ho.2⟩
    refine Ok.ite_dec (fun hc => ?_) fun _ => Ok.pure ⟨hA, hR⟩
    refine Ok.call (vR y3 _) ⟨by decide, by omega, by omega, by decide⟩ fun z t _ _ k3 => Ok.idx (by omega) (by omega) fun x hx _ => Ok.bind_pure (Ok.pure ⟨⟨by show (List.set _ _ _).length ≤ _; rw [List.length_set]; exact hA.1, zCj hA.2 (show ([z] : List Int).length ≤ 1000 by simp) _⟩, ⟨by dsimp only; omega, by dsimp only; omega⟩⟩)
  refine Ok.bind (φ := fun o : List zP × zO => PB o.1 ∧ RD o.2) ?_ fun o ho => by
    obtain ⟨o1, o3⟩ := o
    exact Ok.pure ⟨hA, ho⟩
  refine Ok.ite_beq (fun _ => ?_) fun _ => ?_
  · refine Ok.bind (φ := fun o : List zP × zO => PB o.1 ∧ RD o.2) ?_ fun o ho => by
      obtain ⟨o1, o3⟩ := o
      exact Ok.pure ho
    refine Ok.ite_dec (fun hc => ?_) fun _ => Ok.pure ⟨hP, hR⟩
    refine Ok.idx (by omega) (by omega) fun x hx _ => ?_
    refine Ok.bind (mut2 100 (by omega) y3 x.Nest (p2 x hx).1 (by omega) (by omega)) fun q1 k1 => ?_
    obtain ⟨n1, s1⟩ := q1
    obtain ⟨c1, c2, c3⟩ := k1
    refine Ok.bind (mut2 (100 + 2) (by omega) s1 n1 c1 c2 (by dsimp only at c3; omega)) fun q2 k2 => ?_
    obtain ⟨n2, s2⟩ := q2
    obtain ⟨d1, d2, d3⟩ := k2
    refine Ok.bind (mut2 (100 + 2 + 2) (by omega) s2 n2 d1 d2 (by dsimp only at c3 d3; omega)) fun q3 k3 => ?_
    obtain ⟨n, s⟩ := q3
    have hn := k3.1
    refine Ok.idx (by omega) (by omega) fun x7 hx7 _ => Ok.bind_pure (Ok.pure ⟨hP.set (x := ⟨n, x7.Body⟩) ⟨hn.bn (by omega), (p2 x7 hx7).bp.2.1, (p2 x7 hx7).bp.2.2⟩ _, ⟨k3.2.1, by have := k3.2.2; dsimp only at this c3 d3 ⊢; omega⟩⟩)
  refine Ok.bind (φ := fun o : List zP × zO => PB o.1 ∧ RD o.2) ?_ fun o ho => by
    obtain ⟨o1, o3⟩ := o
    exact Ok.pure ho
  refine Ok.ite_beq (fun _ => ?_) fun _ => ?_
  · refine Ok.bind (φ := fun b => b = true → 0 < P.Parts.length ∧ ∀ x, P.Parts[P.Parts.length - 1]? = some x → 0 < x.Body.length) ?_ fun b hb => ?_
    · refine Ok.ite_dec (fun hc => ?_) fun _ => Ok.pure (fun h => by cases h)
      have hp : 0 < P.Parts.length := by omega
      rw [hW hp]
      refine Ok.idx (by omega) (by omega) fun x hx he => Ok.pure fun hd => ⟨hp, fun x' hx' => ?_⟩
      rw [Int.toNat_natCast] at he
      rw [he] at hx'
      cases hx'
      have := of_decide_eq_true hd
      omega
    · refine Ok.bind (φ := fun o : List zP × zO => PB o.1 ∧ RD o.2) ?_ fun o ho => by
        obtain ⟨o1, o3⟩ := o
        exact Ok.pure ho
      refine Ok.ite (fun hc => ?_) fun _ => Ok.pure ⟨hP, hR⟩
      obtain ⟨hp, hbody⟩ := hb hc
      rw [hW hp]
      refine Ok.idx (by omega) (by omega) fun x hx he => ?_
      rw [Int.toNat_natCast] at he
      have hb0 := hbody x he
      have hdx := p2 x hx
      refine Ok.idx (by omega) (by omega) fun x0 hx0 _ => ?_
      refine Ok.bind (mut3 100 (by omega) y3 x0 (hdx.2.2 x0 hx0) (by omega) (by omega)) fun q1 k1 => ?_
      obtain ⟨n1, s1⟩ := q1
      obtain ⟨c1, c2, c3⟩ := k1
      refine Ok.bind (mut3 (100 + 2) (by omega) s1 n1 c1 c2 (by dsimp only at c3; omega)) fun q2 k2 => ?_
      obtain ⟨n2, s2⟩ := q2
      obtain ⟨d1, d2, d3⟩ := k2
      refine Ok.bind (mut3 (100 + 2 + 2) (by omega) s2 n2 d1 d2 (by dsimp only at c3 d3; omega)) fun q3 k3 => ?_
      obtain ⟨n, s⟩ := q3
      have hn := k3.1
      refine Ok.bind_pure (Ok.pure ⟨hP.set (x := ⟨x.Nest, x.Body.set 0 n⟩) ⟨hdx.bp.1, by rw [List.length_set]; exact hdx.bp.2.1, zCj hdx.bp.2.2 (hn.bs (by omega)) _⟩ _, ⟨k3.2.1, by have := k3.2.2; dsimp only at this c3 d3 ⊢; omega⟩⟩)
  refine Ok.bind (φ := fun o : List zP => PB o) ?_ fun o ho => Ok.pure ⟨ho, hR⟩
  refine Ok.ite_beq (fun _ => ?_) fun _ => Ok.pure hP
  refine Ok.bind (φ := fun o : List zP => PB o) ?_ fun o ho => Ok.pure ho
  refine Ok.ite_dec (fun hc => ?_) fun _ => Ok.pure hP
  have hp : 0 < P.Parts.length := by omega
  rw [hW hp]
  refine Ok.idx (by omega) (by omega) fun x hx he => Ok.bind_pure (Ok.pure (hP.set (x := ⟨x.Nest, []⟩) ⟨(p2 x hx).bp.1, by show 0 ≤ 100000; omega, fun _ h => by cases h⟩ _))
theorem SE.be : ∀ {n : Nat} {e : zH}, SE n e → BE n e
  | 0, e, ⟨h1, h2, h3⟩ => ⟨by have := h1.1; unfold BA; omega, ⟨by have := h2.2.1; omega, fun a ha => by have := (h2.2.2 a ha).1; unfold BA; omega⟩, h3⟩
  | n + 1, e, ⟨h1, h2, h3, h4⟩ => ⟨by have := h1.1; unfold BA; omega, ⟨by have := h2.2.1; omega, fun a ha => by have := (h2.2.2 a ha).1; unfold BA; omega⟩, by omega, fun k hk => SE.be (h4 k hk)⟩
theorem SS.qs {s : zR} (h : SS s) : QS 100 s := by
  obtain ⟨h1, h2⟩ := h
  have hb := SE.be h2
  exact ⟨⟨h1.2.1, fun a ha => by have := (h1.2.2 a ha).1; unfold BA; omega⟩, hb.1, hb.2.1, by have := h2.2.2.1; omega, fun k hk => BE.up (n := 4) (m := 6) (hb.2.2.2 k hk) (by omega)⟩
theorem LL.ql {l : List zA} (h : LL l) : QL 100 l := ⟨h.1, fun a ha => by have := (h.2 a ha).1; unfold BA; omega⟩
theorem SG.dp {P : zZ} (h : SG 1000 P) : DP P := by
  obtain ⟨⟨h1, h2⟩, h3, h4⟩ := h
  refine ⟨⟨h1, fun a ha => by have := (h2 a ha).2; omega⟩, h3, fun x hx => ?_⟩
  obtain ⟨⟨k1, k2⟩, k3, k4⟩ := h4 x hx
  exact ⟨⟨by omega, fun y hy => ⟨(k2 y hy).1.ql, (k2 y hy).2.ql⟩⟩, k3, fun s hs => (k4 s hs).qs⟩
/-! The number of cells. -/
end Go.LN
