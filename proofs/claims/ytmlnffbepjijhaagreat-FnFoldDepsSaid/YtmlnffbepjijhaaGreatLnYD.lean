/- Helper of the proof (see the last text). -/
import Derived.Test.YtmlnffbepjijhaaGreatLnN
import Derived.Laws.StructEq
set_option linter.unusedVariables false
set_option linter.unusedSimpArgs false
namespace Go.LN
structure ND where
  nm : Str
  p : Option Addr
  d : List Int
  c : Nat
  cs : List Value
def ND.v (x : ND) : Value := vS x.p x.d x.c
def ND.ha (x : ND) : HA := hO Int x.v x.cs
def ND.raw (x : ND) : Raw2 := ⟨vT x.nm.l, x.v⟩
def ND.a (x : ND) : zD := ⟨x.nm, x.d⟩
def ND.ok (imm : Imm) (x : ND) : Prop := RL imm x.cs x.d
def ND.fz (imm : Imm) (x : ND) : Prop := SL imm x.v x.d
theorem ND.ok.mono {i j : Imm} (h : i.le j) {x : ND} (hx : x.ok i) : x.ok j := RepL.mono (fun _ _ => Rp.mono h) hx
theorem ND.fz.mono {i j : Imm} (h : i.le j) {x : ND} (hx : x.fz i) : x.fz j := SL.mono h hx
section
variable {P : Program} {n : Nat} {B : Base} {Q : Exit -> Act -> World -> Prop} {hs : List HA} {m : FM}
end
def RW (imm : Imm) (aj : List Raw2) (A : List zD) (k : Nat) (w : Value) : Prop := aj.length = A.length /\ ∀ (j : Nat) r d, aj[j]? = some r -> A[j]? = some d -> r.a = vT d.Name.l /\ (j ≠ k -> SL imm r.b d.Dims) /\ (j = k -> r.b = w)
def ArW (imm : Imm) (v : Value) (aj : List Raw2) (A : List zD) (k : Int) (w : Value) : Prop := SL imm v aj /\ RW imm aj A k.toNat w
theorem ArW.mono {i j : Imm} (h : i.le j) {v : Value} {aj : List Raw2} {A : List zD} {k : Int} {w : Value} (hx : ArW i v aj A k w) : ArW j v aj A k w :=
  ⟨SL.mono h hx.1, hx.2.1, fun q r d h1 h2 => ⟨(hx.2.2 q r d h1 h2).1, fun hq => SL.mono h ((hx.2.2 q r d h1 h2).2.1 hq), (hx.2.2 q r d h1 h2).2.2⟩⟩
theorem RW.of {imm : Imm} {xs : List ND} {i : Int} {x : ND} (hx : idx xs i = some x) (h : ∀ (j : Nat) y, j ≠ i.toNat -> xs[j]? = some y -> y.fz imm) : RW imm (xs.map ND.raw) (xs.map ND.a) i.toNat x.v := by
  obtain ⟨h0, h1, h2⟩ := sS hx
  refine ⟨by simp, fun j r d hr hd => ?_⟩
  rw [dn, Option.map_eq_some_iff] at hr hd
  obtain ⟨y, hy, rfl⟩ := hr
  obtain ⟨y', hy', rfl⟩ := hd
  rw [hy] at hy'
  cases hy'
  refine ⟨rfl, fun hj => h j y hj hy, fun hj => ?_⟩
  subst hj
  rw [h2] at hy
  cases hy; rfl
theorem RW.at {imm : Imm} {aj : List Raw2} {A : List zD} {k : Int} {w : Value} (h : RW imm aj A k.toNat w) {a : zD} (ha : idx A k = some a) : idx aj k = some ⟨vT a.Name.l, w⟩ := by
  obtain ⟨h0, h1, h2⟩ := sS ha
  have aN := (ci.1 h2).1
  have hr : aj[k.toNat]? = some (aj[k.toNat]'(by rw [h.1]; exact aN)) := cg _
  obtain ⟨e1, _, e2⟩ := h.2 _ _ _ hr h2
  unfold idx
  rw [if_pos h0, hr]
  congr 1
  generalize aj[k.toNat]'(by rw [h.1]; exact aN) = r at *
  cases r
  simp only at e1 e2
  rw [e1, e2 trivial]
theorem RW.rl {imm : Imm} : ∀ {aj : List Raw2} {A : List zD}, aj.length = A.length -> (∀ (j : Nat) r d, aj[j]? = some r -> A[j]? = some d -> r.a = vT d.Name.l /\ SL imm r.b d.Dims) -> RL imm (flat aj) A
  | [], [], _, _ => rfl
  | [], _ :: _, h, _ => by cases h
  | _ :: _, [], h, _ => by cases h
  | r :: aj, d :: A, h, hh => ⟨[r.a, r.b], flat aj, rfl, rfl, by
      obtain ⟨e1, e2⟩ := hh 0 r d rfl rfl
      rw [e1]
      exact uL ⟨_, rfl, e2⟩, RW.rl (by simpa using h) fun j r' d' h1 h2 => hh (j+1) r' d' (by simpa using h1) (by simpa using h2)⟩
theorem RW.set {imm : Imm} {aj : List Raw2} {A : List zD} {k : Int} {w : Value} (h : RW imm aj A k.toNat w) {a : zD} (ha : idx A k = some a) {d : List Int} (hd : SL imm w d) : RL imm (flat aj) (A.set k.toNat ⟨a.Name, d⟩) := by
  obtain ⟨h0, h1, h2⟩ := sS ha
  refine RW.rl (by rw [cR]; exact h.1) fun j r y hr hy => ?_
  by_cases hj : j = k.toNat
  · subst hj
    rw [List.getElem?_set_self (ci.1 h2).1] at hy
    cases hy
    obtain ⟨e1, _, e2⟩ := h.2 _ r a hr h2
    exact ⟨e1, by rw [e2 rfl]; exact hd⟩
  · rw [List.getElem?_set_ne (fun e => hj e.symm)] at hy
    obtain ⟨e1, e2, _⟩ := h.2 _ r y hr hy
    exact ⟨e1, e2 hj⟩
theorem ArW.done {imm : Imm} {p : Option Addr} {c : Nat} {aj : List Raw2} {A : List zD} {k : Int} {w : Value} (h : ArW imm (vS p aj c) aj A k w) {a : zD} (ha : idx A k = some a) {d : List Int} (hd : SL imm w d) : SL imm (vS p (A.set k.toNat ⟨a.Name, d⟩) c) (A.set k.toNat ⟨a.Name, d⟩) := by
  obtain ⟨⟨aK, h1, h2⟩, h3⟩ := h
  refine ⟨aK, ?_, ?_⟩
  · have e : (vS p (A.set k.toNat ⟨a.Name, d⟩) c) = vS p aj c := by simp only [vS, cR, h3.1]
    rw [e]; exact h1
  · rw [gI h2]; exact h3.set ha hd
theorem zJZ (a : HA) (l N : List HA) : (l++(N++[a])).Perm ((a :: l)++N) := by
  rw [<- cv]
  exact cG (l₁ := l++N) (l₂ := [a])
section
variable {P : Program} {n : Nat} {B : Base} {imm : Imm} {hs : List HA} {m : FM}
theorem zLR {af : List Oper} {Q : Exit -> Act -> World -> Prop} {pc : Nat} (ah : List HA) (hp : ah.Perm hs) (h : R P n B af Q pc imm ah m) : R P n B af Q pc imm hs m := fun a w f g => h a w f (g.perm hp)
end
end Go.LN
namespace Go.LN
structure NB where
  vN : Value
  nl : List zF
  p : Option Addr
  d : List zG
  c : Nat
  cs : List Value
def NB.v (x : NB) : Value := vS x.p x.d x.c
def NB.ha (x : NB) : HA := hO zG x.v x.cs
def NB.raw (x : NB) : Raw2 := ⟨x.vN, x.v⟩
def NB.a (x : NB) : zL := ⟨x.nl, x.d⟩
def NB.ok (imm : Imm) (x : NB) : Prop := SL imm x.vN x.nl /\ RL imm x.cs x.d
def NB.fz (imm : Imm) (x : NB) : Prop := SL imm x.vN x.nl /\ SL imm x.v x.d
theorem NB.ok.mono {i j : Imm} (h : i.le j) {x : NB} (hx : x.ok i) : x.ok j := ⟨SL.mono h hx.1, RepL.mono (fun _ _ => Rp.mono h) hx.2⟩
theorem NB.fz.mono {i j : Imm} (h : i.le j) {x : NB} (hx : x.fz i) : x.fz j := ⟨SL.mono h hx.1, SL.mono h hx.2⟩
abbrev NBs (xs : List NB) : List HA := xs.map NB.ha
theorem NB.shut {imm : Imm} {x : NB} (h : x.fz imm) : Rp.rep imm [x.vN, x.v] x.a := uY ⟨_, _, rfl, h.1, h.2⟩
theorem zKV {imm : Imm} : ∀ {xs : List NB}, (∀ x∈xs, x.fz imm) -> RL imm (flat (xs.map NB.raw)) (xs.map NB.a)
  | [], _ => rfl
  | x :: xs, h => ⟨[x.vN, x.v], flat (xs.map NB.raw), rfl, rfl, NB.shut (h x (cm ..)), zKV fun y hy => h y (cj _ hy)⟩
theorem zLm {imm : Imm} {xs : List NB} (h : ∀ x∈xs, x.ok imm) {z : NB} (hN : SL imm z.vN z.nl) (hq : RL imm z.cs z.d) : ∀ x∈xs++[z], x.ok imm := by
  intro x hx
  rcases cU.1 hx with k | k
  · exact h x k
  · rw [cx.1 k]; exact ⟨hN, hq⟩
theorem zLS {imm : Imm} {xs : List NB} (h : ∀ x∈xs, x.ok imm) {z : NB} (hz : z.ok imm) (k : Nat) : ∀ x∈xs.set k z, x.ok imm := by
  intro x hx
  rcases fc hx with k | k
  · exact h x k
  · exact k ▸ hz
theorem zET {xs : List NB} {k : Nat} {x : NB} (h : xs[k]? = some x) : (NBs xs).Perm (x.ha :: NBs (xs.eraseIdx k)) := (fF h).map NB.ha
theorem zIH {xs : List NB} {k : Nat} {x z : NB} (h : xs[k]? = some x) : (NBs (xs.set k z)).Perm (z.ha :: NBs (xs.eraseIdx k)) := by
  have hk := (ci.1 h).1
  have e : (xs.set k z)[k]? = some z := List.getElem?_set_self hk
  have := zET e
  rwa [List.eraseIdx_set_eq] at this
theorem zJn {xs : List NB} {k : Nat} {x z : NB} (h : xs[k]? = some x) (hr : z.raw = x.raw) : (xs.set k z).map NB.raw = xs.map NB.raw := by
  rw [List.map_set, hr]
  have : (xs.map NB.raw)[k]? = some x.raw := by rw [dn, h]; rfl
  obtain ⟨hk', e⟩ := ci.1 this
  rw [<- e, List.set_getElem_self]
section
variable {P : Program} {n : Nat} {B : Base} {Q : Exit -> Act -> World -> Prop} {hs : List HA} {m : FM}
theorem zCt {e : Exit} : ∀ (xs : List NB) {imm : Imm}, (∀ x∈xs, x.ok imm) -> (∀ aq, imm.le aq -> (∀ x∈xs, x.fz aq) -> T n B Q e aq hs m) -> T n B Q e imm (NBs xs++hs) m
  | [], imm, _, h => h imm (Imm.le.refl _) (fun _ h => by cases h)
  | x :: xs, imm, hx, h => by
    have h1 := hx x (cm ..)
    show T n B Q e imm (hO zG x.v x.cs :: (NBs xs++hs)) m
    refine xA 0 rfl ?_
    intro imm1 ae hl1
    have k1 : SL imm1 x.v x.d := SL.of_frozen hl1 ae h1.2
    have k0 := h1.1.mono ae
    refine zCt xs (fun y hy => (hx y (cj _ hy)).mono ae) ?_
    intro imm3 aF h3
    refine h imm3 (ae.trans aF) fun y hy => ?_
    rcases cQ.1 hy with rfl | hy
    · exact ⟨SL.mono aF k0, SL.mono aF k1⟩
    · exact h3 y hy
end
theorem zII {imm : Imm} {p : Option Addr} {c : Nat} {xs : List NB} (h : SL imm (vS p (xs.map NB.raw) c) (xs.map NB.raw)) (hx : ∀ x∈xs, x.fz imm) : SL imm (vS p (xs.map NB.a) c) (xs.map NB.a) := by
  obtain ⟨aK, h1, h2⟩ := h
  refine ⟨aK, ?_, ?_⟩
  · have e : (vS p (xs.map NB.a) c) = vS p (xs.map NB.raw) c := by simp only [vS, cI]
    rw [e]; exact h1
  · rw [gI h2]; exact zKV hx
end Go.LN
namespace Go.LN
section
variable {P : Program} {n : Nat} {B : Base} {Q : Exit -> Act -> World -> Prop} {imm : Imm} {hs : List HA} {m : FM} {af : List Oper} {pc d : Nat} {ty : TypeId} {pos : String} {after : Array Edge} {g : Option (Nat × Bool)}
end
theorem dE {B : Base} {imm : Imm} (a b : List HA) : ∀ w, Good B imm (a++b) w -> Good B imm (b++a) w := fun _ h => h.perm cG
end Go.LN
namespace Go.LN
section
variable {P : Program} {n : Nat} {B : Base} {af : List Oper} {Q : Exit -> Act -> World -> Prop} {pc : Nat} {imm : Imm} {hs : List HA} {m : FM} {d : Nat}
end
end Go.LN
