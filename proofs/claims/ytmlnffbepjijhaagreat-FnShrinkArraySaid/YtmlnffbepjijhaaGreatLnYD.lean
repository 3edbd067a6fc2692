/- Helper of the proof (see the last text). -/
import Derived.Test.YtmlnffbepjijhaaGreatLnN
import Derived.Laws.StructEq
set_option linter.unusedVariables false
set_option linter.unusedSimpArgs false
namespace Go.LN
structure ND where
  nm : Str
  p : Option Addr
  d : List Int
  c : Nat
  cs : List Value
def ND.v (x : ND) : Value := vS x.p x.d x.c
def ND.ha (x : ND) : HA := hO Int x.v x.cs
def ND.raw (x : ND) : Raw2 := ⟨vT x.nm.l, x.v⟩
def ND.a (x : ND) : zD := ⟨x.nm, x.d⟩
def ND.ok (imm : Imm) (x : ND) : Prop := RL imm x.cs x.d
def ND.fz (imm : Imm) (x : ND) : Prop := SL imm x.v x.d
theorem ND.ok.mono {i j : Imm} (h : i.le j) {x : ND} (hx : x.ok i) : x.ok j := RepL.mono (fun _ _ => Rp.mono h) hx
theorem ND.fz.mono {i j : Imm} (h : i.le j) {x : ND} (hx : x.fz i) : x.fz j := SL.mono h hx
abbrev NDs (xs : List ND) : List HA := xs.map ND.ha
theorem zM4 {xs : List ND} {k : Nat} {x : ND} (h : xs[k]? = some x) : ∃ ys, (NDs xs).Perm (x.ha :: NDs ys) /\ (∀ y∈ys, y∈xs) /\ ∀ i : Nat, ∀ y, i ≠ k -> xs[i]? = some y -> y∈ys := by
  obtain ⟨hk, rfl⟩ := List.getElem?_eq_some_iff.1 h
  refine ⟨xs.eraseIdx k, ?_, fun y hy => List.mem_of_mem_eraseIdx hy, fun i y hi hy => List.mem_eraseIdx_iff_getElem?.2 ⟨i, hi, hy⟩⟩
  exact (gJ h).map ND.ha
section
variable {P : Program} {n : Nat} {B : Base} {Q : Exit -> Act -> World -> Prop} {hs : List HA} {m : FM}
theorem zH3 {c : Code} : ∀ (xs : List ND) {imm : Imm}, (∀ x∈xs, x.ok imm) -> (∀ imm', imm.le imm' -> (∀ x∈xs, x.fz imm') -> J P n B c Q imm' hs m) -> J P n B c Q imm (NDs xs++hs) m
  | [], imm, _, h => h imm (Imm.le.refl _) (fun _ h => by cases h)
  | x :: xs, imm, hx, h => by
    have h1 := hx x (List.mem_cons_self ..)
    show J P n B c Q imm (hO Int x.v x.cs :: (NDs xs++hs)) m
    refine qX 0 rfl ?_
    intro imm1 le1 hl1
    have k1 : SL imm1 x.v x.d := SL.of_frozen hl1 le1 h1
    refine zH3 xs (fun y hy => (hx y (List.mem_cons_of_mem _ hy)).mono le1) ?_
    intro imm3 le3 h3
    refine h imm3 (le1.trans le3) fun y hy => ?_
    rcases List.mem_cons.1 hy with rfl | hy
    · exact SL.mono le3 k1
    · exact h3 y hy
theorem zLN {c : Code} {imm : Imm} {xs : List ND} {i : Int} {x : ND} (hx : idx xs i = some x) (hxs : ∀ x∈xs, x.ok imm) (h : ∀ imm', imm.le imm' -> (∀ (j : Nat) y, j ≠ i.toNat -> xs[j]? = some y -> y.fz imm') -> J P n B c Q imm' (hO Int x.v x.cs :: hs) m) : J P n B c Q imm (NDs xs++hs) m := by
  obtain ⟨h0, h1, h2⟩ := rE hx
  obtain ⟨ys, k1, k2, k3⟩ := zM4 h2
  refine zDM (NDs ys++(x.ha :: hs)) ?_ ?_
  · have : (NDs ys++x.ha :: hs).Perm ((x.ha :: NDs ys)++hs) := List.perm_middle
    exact this.trans (k1.symm.append_right hs)
  · refine zH3 ys (fun y hy => hxs y (k2 y hy)) ?_
    intro imm1 le1 hf
    exact h imm1 le1 fun j y hj hy => hf y (k3 j y hj hy)
end
def RW (imm : Imm) (raws : List Raw2) (A : List zD) (k : Nat) (w : Value) : Prop := raws.length = A.length /\ ∀ (j : Nat) r d, raws[j]? = some r -> A[j]? = some d -> r.a = vT d.Name.l /\ (j ≠ k -> SL imm r.b d.Dims) /\ (j = k -> r.b = w)
def ArW (imm : Imm) (v : Value) (raws : List Raw2) (A : List zD) (k : Int) (w : Value) : Prop := SL imm v raws /\ RW imm raws A k.toNat w
theorem ArW.mono {i j : Imm} (h : i.le j) {v : Value} {raws : List Raw2} {A : List zD} {k : Int} {w : Value} (hx : ArW i v raws A k w) : ArW j v raws A k w :=
  ⟨SL.mono h hx.1, hx.2.1, fun q r d h1 h2 => ⟨(hx.2.2 q r d h1 h2).1, fun hq => SL.mono h ((hx.2.2 q r d h1 h2).2.1 hq), (hx.2.2 q r d h1 h2).2.2⟩⟩
theorem RW.of {imm : Imm} {xs : List ND} {i : Int} {x : ND} (hx : idx xs i = some x) (h : ∀ (j : Nat) y, j ≠ i.toNat -> xs[j]? = some y -> y.fz imm) : RW imm (xs.map ND.raw) (xs.map ND.a) i.toNat x.v := by
  obtain ⟨h0, h1, h2⟩ := rE hx
  refine ⟨by simp, fun j r d hr hd => ?_⟩
  rw [List.getElem?_map, Option.map_eq_some_iff] at hr hd
  obtain ⟨y, hy, rfl⟩ := hr
  obtain ⟨y', hy', rfl⟩ := hd
  rw [hy] at hy'
  cases hy'
  refine ⟨rfl, fun hj => h j y hj hy, fun hj => ?_⟩
  subst hj
  rw [h2] at hy
  cases hy; rfl
theorem RW.at {imm : Imm} {raws : List Raw2} {A : List zD} {k : Int} {w : Value} (h : RW imm raws A k.toNat w) {a : zD} (ha : idx A k = some a) : idx raws k = some ⟨vT a.Name.l, w⟩ := by
  obtain ⟨h0, h1, h2⟩ := rE ha
  have hlt := (List.getElem?_eq_some_iff.1 h2).1
  have hr : raws[k.toNat]? = some (raws[k.toNat]'(by rw [h.1]; exact hlt)) := List.getElem?_eq_getElem _
  obtain ⟨e1, _, e2⟩ := h.2 _ _ _ hr h2
  unfold idx
  rw [if_pos h0, hr]
  congr 1
  generalize raws[k.toNat]'(by rw [h.1]; exact hlt) = r at *
  cases r
  simp only at e1 e2
  rw [e1, e2 trivial]
theorem RW.rl {imm : Imm} : ∀ {raws : List Raw2} {A : List zD}, raws.length = A.length -> (∀ (j : Nat) r d, raws[j]? = some r -> A[j]? = some d -> r.a = vT d.Name.l /\ SL imm r.b d.Dims) -> RL imm (flat raws) A
  | [], [], _, _ => rfl
  | [], _ :: _, h, _ => by cases h
  | _ :: _, [], h, _ => by cases h
  | r :: raws, d :: A, h, hh => ⟨[r.a, r.b], flat raws, rfl, rfl, by
      obtain ⟨e1, e2⟩ := hh 0 r d rfl rfl
      rw [e1]
      exact uO ⟨_, rfl, e2⟩, RW.rl (by simpa using h) fun j r' d' h1 h2 => hh (j+1) r' d' (by simpa using h1) (by simpa using h2)⟩
theorem RW.set {imm : Imm} {raws : List Raw2} {A : List zD} {k : Int} {w : Value} (h : RW imm raws A k.toNat w) {a : zD} (ha : idx A k = some a) {d : List Int} (hd : SL imm w d) : RL imm (flat raws) (A.set k.toNat ⟨a.Name, d⟩) := by
  obtain ⟨h0, h1, h2⟩ := rE ha
  refine RW.rl (by rw [List.length_set]; exact h.1) fun j r y hr hy => ?_
  by_cases hj : j = k.toNat
  · subst hj
    rw [List.getElem?_set_self (List.getElem?_eq_some_iff.1 h2).1] at hy
    cases hy
    obtain ⟨e1, _, e2⟩ := h.2 _ r a hr h2
    exact ⟨e1, by rw [e2 rfl]; exact hd⟩
  · rw [List.getElem?_set_ne (fun e => hj e.symm)] at hy
    obtain ⟨e1, e2, _⟩ := h.2 _ r y hr hy
    exact ⟨e1, e2 hj⟩
theorem ArW.done {imm : Imm} {p : Option Addr} {c : Nat} {raws : List Raw2} {A : List zD} {k : Int} {w : Value} (h : ArW imm (vS p raws c) raws A k w) {a : zD} (ha : idx A k = some a) {d : List Int} (hd : SL imm w d) : SL imm (vS p (A.set k.toNat ⟨a.Name, d⟩) c) (A.set k.toNat ⟨a.Name, d⟩) := by
  obtain ⟨⟨ccs, h1, h2⟩, h3⟩ := h
  refine ⟨ccs, ?_, ?_⟩
  · have e : (vS p (A.set k.toNat ⟨a.Name, d⟩) c) = vS p raws c := by simp only [vS, List.length_set, h3.1]
    rw [e]; exact h1
  · rw [fC h2]; exact h3.set ha hd
theorem zIp (a : HA) (l N : List HA) : (l++(N++[a])).Perm ((a :: l)++N) := by
  rw [<- List.append_assoc]
  exact List.perm_append_comm (l₁ := l++N) (l₂ := [a])
theorem zLO {imm : Imm} {xs : List ND} (h : ∀ x∈xs, x.ok imm) {z : ND} (hq : RL imm z.cs z.d) : ∀ x∈xs++[z], x.ok imm := by
  intro x hx
  rcases List.mem_append.1 hx with k | k
  · exact h x k
  · rw [List.mem_singleton.1 k]; exact hq
section
variable {P : Program} {n : Nat} {B : Base} {imm : Imm} {hs : List HA} {m : FM}
theorem zM5 {ops : List Oper} {Q : Exit -> Act -> World -> Prop} {pc : Nat} (hs' : List HA) (hp : hs'.Perm hs) (h : R P n B ops Q pc imm hs' m) : R P n B ops Q pc imm hs m := fun a w f g => h a w f (g.perm hp)
end
end Go.LN
namespace Go.LN
section
variable {P : Program} {n : Nat} {B : Base} {Q : Exit -> Act -> World -> Prop} {imm : Imm} {hs : List HA} {m : FM} {ops : List Oper} {pc d : Nat} {ty : TypeId} {pos : String} {after : Array Edge} {g : Option (Nat × Bool)}
end
theorem eE {B : Base} {imm : Imm} (a b : List HA) : ∀ w, Good B imm (a++b) w -> Good B imm (b++a) w := fun _ h => h.perm List.perm_append_comm
end Go.LN
namespace Go.LN
section
variable {P : Program} {n : Nat} {B : Base} {ops : List Oper} {Q : Exit -> Act -> World -> Prop} {pc : Nat} {imm : Imm} {hs : List HA} {m : FM} {d : Nat}
end
end Go.LN
