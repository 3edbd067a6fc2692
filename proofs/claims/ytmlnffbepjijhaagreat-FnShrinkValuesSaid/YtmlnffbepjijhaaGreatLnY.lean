/- Helper of the proof (see the last text). -/
import Derived.Test.YtmlnffbepjijhaaGreatLnN
import Derived.Laws.StructEq
set_option linter.unusedVariables false
set_option linter.unusedSimpArgs false
namespace Go.LN
section
variable {P : Program} {n : Nat} {B : Base} {Q : Exit -> Act -> World -> Prop} {imm : Imm} {hs : List HA} {m : FM}
theorem zDr {c : Code} (af : List HA) (hp : af.Perm hs) (h : J P n B c Q imm af m) : J P n B c Q imm hs m := fun a w f g => h a w f (g.perm hp)
theorem zNm {e : Exit} (af : List HA) (hp : af.Perm hs) (h : T n B Q e imm af m) : T n B Q e imm hs m := fun a w f g => h a w f (g.perm hp)
theorem zNn {c : Code} (hF : False) {am : Imm} {af : List HA} {m' : FM} (next : T n B Q .normal am af m') : J P n B c Q imm hs m := hF.elim
theorem zNA {c : Code} {L : List HA} (x : Exit) (S : Imm -> List HA -> FM -> Prop) (h1 : ∀ B' : Base, J P n B' c (fun e a w => e = x /\ ∃ am af m', S am af m' /\ Fr n a m' /\ Good B' am af w) imm hs m)
    (h2 : ∀ am af m', S am af m' -> imm.le am -> T n B Q x am (af++L) m') : J P n B c Q imm (hs++L) m := fun a w f g => by
  have bS := g.nodup
  rw [di] at bS
  have hg1 := g.enter (hs1 := hs) (fun A hA => cP _ hA) (cM.1 bS).1
  refine wp_mono (h1 _ a w f hg1) fun e a' w' he => ?_
  obtain ⟨rfl, am, af, m', k1, k2, k3⟩ := he
  obtain ⟨k4, k5, _⟩ := g.leave k3
  exact h2 am af m' k1 k5 a' w' k2 k4
theorem zNB {B' : Base} {x : Exit} {S : Imm -> List HA -> FM -> Prop} (h : S imm hs m) : T n B' (fun e a w => e = x /\ ∃ am af m', S am af m' /\ Fr n a m' /\ Good B' am af w) x imm hs m := fun _ _ f g => ⟨rfl, imm, hs, m, h, f, g⟩
end
structure NL where
  pl : Option Addr
  lo : List zA
  cl : Nat
  csl : List Value
  ph : Option Addr
  hi : List zA
  ch : Nat
  csh : List Value
def NL.vl (x : NL) : Value := vS x.pl x.lo x.cl
def NL.vh (x : NL) : Value := vS x.ph x.hi x.ch
def NL.ha (x : NL) : List HA := [hO zA x.vh x.csh, hO zA x.vl x.csl]
def NL.raw (x : NL) : Raw2 := ⟨x.vl, x.vh⟩
def NL.d (x : NL) : zF := ⟨x.lo, x.hi⟩
def NL.ok (imm : Imm) (x : NL) : Prop := RL imm x.csl x.lo /\ RL imm x.csh x.hi
def NL.fz (imm : Imm) (x : NL) : Prop := SL imm x.vl x.lo /\ SL imm x.vh x.hi
theorem NL.ok.mono {i j : Imm} (h : i.le j) {x : NL} (hx : x.ok i) : x.ok j := ⟨RepL.mono (fun _ _ => Rp.mono h) hx.1, RepL.mono (fun _ _ => Rp.mono h) hx.2⟩
theorem NL.fz.mono {i j : Imm} (h : i.le j) {x : NL} (hx : x.fz i) : x.fz j := ⟨hx.1.mono h, hx.2.mono h⟩
abbrev NLs (xs : List NL) : List HA := xs.flatMap NL.ha
theorem zNo {xs : List NL} {k : Nat} {x : NL} (h : xs[k]? = some x) : ∃ ys, (NLs xs).Perm (x.ha++NLs ys) /\ (∀ y∈ys, y∈xs) /\ ∀ i : Nat, ∀ y, i ≠ k -> xs[i]? = some y -> y∈ys := by
  obtain ⟨hk, rfl⟩ := ci.1 h
  refine ⟨xs.eraseIdx k, ?_, fun y hy => List.mem_of_mem_eraseIdx hy, fun i y hi hy => List.mem_eraseIdx_iff_getElem?.2 ⟨i, hi, hy⟩⟩
  have := (gZ h).flatMap_right NL.ha
  simpa [NLs] using this
section
variable {P : Program} {n : Nat} {B : Base} {Q : Exit -> Act -> World -> Prop} {hs : List HA} {m : FM}
theorem zC3 {c : Code} : ∀ (xs : List NL) {imm : Imm}, (∀ x∈xs, x.ok imm) -> (∀ am, imm.le am -> (∀ x∈xs, x.fz am) -> J P n B c Q am hs m) -> J P n B c Q imm (NLs xs++hs) m
  | [], imm, _, h => h imm (Imm.le.refl _) (fun _ h => by cases h)
  | x :: xs, imm, hx, h => by
    have h1 := hx x (ce ..)
    show J P n B c Q imm (hO zA x.vh x.csh :: hO zA x.vl x.csl :: (NLs xs++hs)) m
    refine pD 0 rfl ?_
    intro imm1 aa hl1
    have k1 := SL.of_frozen hl1 aa h1.2
    refine pD 0 rfl ?_
    intro imm2 aA hl2
    have k2 := SL.of_frozen hl2 aA (RepL.mono (fun _ _ => Rp.mono aa) h1.1)
    refine zC3 xs (fun y hy => (hx y (cb _ hy)).mono (aa.trans aA)) ?_
    intro imm3 aK h3
    refine h imm3 ((aa.trans aA).trans aK) fun y hy => ?_
    rcases cJ.1 hy with rfl | hy
    · exact ⟨k2.mono aK, (k1.mono aA).mono aK⟩
    · exact h3 y hy
end
theorem zE1 {α β : Type} {f : α -> β} {l : List α} {i : Int} {y : β} (h : idx (l.map f) i = some y) : ∃ x, idx l i = some x /\ y = f x := by
  obtain ⟨h0, h1, h2⟩ := rE h
  rw [dr, Option.map_eq_some_iff] at h2
  obtain ⟨x, h3, rfl⟩ := h2
  exact ⟨x, by unfold idx; rw [if_pos h0, h3], rfl⟩
theorem zB6 {α β : Type} {f : α -> β} {l : List α} {i : Int} {x : α} (h : idx l i = some x) : idx (l.map f) i = some (f x) := by
  obtain ⟨h0, h1, h2⟩ := rE h
  unfold idx; rw [if_pos h0, dr, h2]; rfl
section
variable {P : Program} {n : Nat} {B : Base} {Q : Exit -> Act -> World -> Prop} {hs : List HA} {m : FM} {imm : Imm}
theorem zNp {c : Code} {xs : List NL} {i : Int} {x : NL} (hx : idx xs i = some x) (bP : ∀ x∈xs, x.ok imm) (h : ∀ am, imm.le am -> (∀ (j : Nat) y, j ≠ i.toNat -> xs[j]? = some y -> y.fz am) -> J P n B c Q am (hO zA x.vh x.csh :: hO zA x.vl x.csl :: hs) m) : J P n B c Q imm (NLs xs++hs) m := by
  obtain ⟨h0, h1, h2⟩ := rE hx
  obtain ⟨ys, k1, k2, k3⟩ := zNo h2
  refine zDr (NLs ys++(x.ha++hs)) ?_ ?_
  · rw [<- co]
    exact (cL.trans k1.symm).append_right hs
  · refine zC3 ys (fun y hy => bP y (k2 y hy)) ?_
    intro imm1 aa hf
    exact h imm1 aa fun j y hj hy => hf y (k3 j y hj hy)
end
def PW (imm : Imm) (ak : List Raw2) (nest : List zF) : Prop := ak.length = nest.length /\ ∀ (j : Nat) r d, ak[j]? = some r -> nest[j]? = some d -> SL imm r.a d.Lo /\ SL imm r.b d.Hi
theorem PW.rl {imm : Imm} : ∀ {ak : List Raw2} {nest : List zF}, PW imm ak nest -> RL imm (flat ak) nest
  | [], [], _ => rfl
  | [], _ :: _, h => by cases h.1
  | _ :: _, [], h => by cases h.1
  | r :: ak, d :: nest, h => ⟨[r.a, r.b], flat ak, rfl, rfl, uJ ⟨_, _, rfl, h.2 0 r d rfl rfl⟩, PW.rl ⟨by have := h.1; simpa using this, fun j r' d' h1 h2 => h.2 (j+1) r' d' (by simpa using h1) (by simpa using h2)⟩⟩
theorem zKM {imm : Imm} {xs : List NL} {k : Nat} {r : Raw2} {d : zF} (hfz : ∀ (j : Nat) y, j ≠ k -> xs[j]? = some y -> y.fz imm) (hr : SL imm r.a d.Lo /\ SL imm r.b d.Hi) : PW imm ((xs.map NL.raw).set k r) ((xs.map NL.d).set k d) := by
  refine ⟨by simp, fun j r' d' h1 h2 => ?_⟩
  by_cases hj : j = k
  · subst hj
    rw [List.getElem?_set_self' ] at h1 h2
    cases hx : xs[j]? with
    | none => simp [hx] at h1
    | some y =>
      simp [hx] at h1 h2
      subst h1; subst h2
      exact hr
  · rw [List.getElem?_set_ne (fun e => hj e.symm), dr, Option.map_eq_some_iff] at h1 h2
    obtain ⟨y, h3, rfl⟩ := h1
    obtain ⟨y', h4, rfl⟩ := h2
    rw [h3] at h4
    cases h4
    exact hfz j y hj h3
theorem NL.shut {imm : Imm} {x : NL} (h : x.fz imm) : Rp.rep imm [x.vl, x.vh] x.d := uJ ⟨_, _, rfl, h.1, h.2⟩
theorem zIW {imm : Imm} : ∀ {xs : List NL}, (∀ x∈xs, x.fz imm) -> RL imm (flat (xs.map NL.raw)) (xs.map NL.d)
  | [], _ => rfl
  | x :: xs, h => ⟨[x.vl, x.vh], flat (xs.map NL.raw), rfl, rfl, NL.shut (h x (ce ..)), zIW fun y hy => h y (cb _ hy)⟩
theorem LP.push {imm : Imm} {ak : List Raw2} {parts : List zI} {vN vB vN' vB' : Value} {nl nl' : List zF} {bl bl' : List zL} (h : LP imm ak parts vN nl vB bl) (hN : SL imm vN nl) (hB : SL imm vB bl) {l1 : List zI}
    (ha : app 48 parts [(⟨nl', bl'⟩ : zI)] = some l1) : LP imm (ak++[⟨vN', vB'⟩]) l1 vN' nl' vB' bl' := by
  obtain ⟨hb, rfl⟩ := zAy ha
  obtain ⟨h1, h2, h3⟩ := h
  refine ⟨?_, ?_, .inr ⟨ak, parts, rfl, rfl, ?_⟩⟩
  · simp at hb ⊢; omega
  · simp [h2]
  · rcases h3 with ⟨rfl, rfl⟩ | ⟨rl, l, rfl, rfl, h4⟩
    · rfl
    · rw [zBy]
      exact h4.append (.single rfl (uL ⟨_, _, rfl, hN, hB⟩))
theorem LP.nil {imm : Imm} : LP imm [] [] (.slice none 0 0) [] (.slice none 0 0) [] := ⟨by decide, rfl, .inl ⟨rfl, rfl⟩⟩
end Go.LN
namespace Go.LN
structure ND where
  nm : Str
  p : Option Addr
  d : List Int
  c : Nat
  cs : List Value
def ND.v (x : ND) : Value := vS x.p x.d x.c
def ND.ha (x : ND) : HA := hO Int x.v x.cs
def ND.raw (x : ND) : Raw2 := ⟨vT x.nm.l, x.v⟩
def ND.a (x : ND) : zE := ⟨x.nm, x.d⟩
def ND.ok (imm : Imm) (x : ND) : Prop := RL imm x.cs x.d
def ND.fz (imm : Imm) (x : ND) : Prop := SL imm x.v x.d
theorem ND.ok.mono {i j : Imm} (h : i.le j) {x : ND} (hx : x.ok i) : x.ok j := RepL.mono (fun _ _ => Rp.mono h) hx
theorem ND.fz.mono {i j : Imm} (h : i.le j) {x : ND} (hx : x.fz i) : x.fz j := SL.mono h hx
abbrev NDs (xs : List ND) : List HA := xs.map ND.ha
theorem zNq {xs : List ND} {k : Nat} {x : ND} (h : xs[k]? = some x) : ∃ ys, (NDs xs).Perm (x.ha :: NDs ys) /\ (∀ y∈ys, y∈xs) /\ ∀ i : Nat, ∀ y, i ≠ k -> xs[i]? = some y -> y∈ys := by
  obtain ⟨hk, rfl⟩ := ci.1 h
  refine ⟨xs.eraseIdx k, ?_, fun y hy => List.mem_of_mem_eraseIdx hy, fun i y hi hy => List.mem_eraseIdx_iff_getElem?.2 ⟨i, hi, hy⟩⟩
  exact (gZ h).map ND.ha
section
variable {P : Program} {n : Nat} {B : Base} {Q : Exit -> Act -> World -> Prop} {hs : List HA} {m : FM}
theorem zIX {c : Code} : ∀ (xs : List ND) {imm : Imm}, (∀ x∈xs, x.ok imm) -> (∀ am, imm.le am -> (∀ x∈xs, x.fz am) -> J P n B c Q am hs m) -> J P n B c Q imm (NDs xs++hs) m
  | [], imm, _, h => h imm (Imm.le.refl _) (fun _ h => by cases h)
  | x :: xs, imm, hx, h => by
    have h1 := hx x (ce ..)
    show J P n B c Q imm (hO Int x.v x.cs :: (NDs xs++hs)) m
    refine pD 0 rfl ?_
    intro imm1 aa hl1
    have k1 : SL imm1 x.v x.d := SL.of_frozen hl1 aa h1
    refine zIX xs (fun y hy => (hx y (cb _ hy)).mono aa) ?_
    intro imm3 aK h3
    refine h imm3 (aa.trans aK) fun y hy => ?_
    rcases cJ.1 hy with rfl | hy
    · exact SL.mono aK k1
    · exact h3 y hy
theorem zM4 {c : Code} {imm : Imm} {xs : List ND} {i : Int} {x : ND} (hx : idx xs i = some x) (bP : ∀ x∈xs, x.ok imm) (h : ∀ am, imm.le am -> (∀ (j : Nat) y, j ≠ i.toNat -> xs[j]? = some y -> y.fz am) -> J P n B c Q am (hO Int x.v x.cs :: hs) m) : J P n B c Q imm (NDs xs++hs) m := by
  obtain ⟨h0, h1, h2⟩ := rE hx
  obtain ⟨ys, k1, k2, k3⟩ := zNq h2
  refine zDr (NDs ys++(x.ha :: hs)) ?_ ?_
  · have : (NDs ys++x.ha :: hs).Perm ((x.ha :: NDs ys)++hs) := List.perm_middle
    exact this.trans (k1.symm.append_right hs)
  · refine zIX ys (fun y hy => bP y (k2 y hy)) ?_
    intro imm1 aa hf
    exact h imm1 aa fun j y hj hy => hf y (k3 j y hj hy)
end
def RW (imm : Imm) (ak : List Raw2) (A : List zE) (k : Nat) (w : Value) : Prop := ak.length = A.length /\ ∀ (j : Nat) r d, ak[j]? = some r -> A[j]? = some d -> r.a = vT d.Name.l /\ (j ≠ k -> SL imm r.b d.Dims) /\ (j = k -> r.b = w)
def ArW (imm : Imm) (v : Value) (ak : List Raw2) (A : List zE) (k : Int) (w : Value) : Prop := SL imm v ak /\ RW imm ak A k.toNat w
theorem ArW.mono {i j : Imm} (h : i.le j) {v : Value} {ak : List Raw2} {A : List zE} {k : Int} {w : Value} (hx : ArW i v ak A k w) : ArW j v ak A k w :=
  ⟨SL.mono h hx.1, hx.2.1, fun q r d h1 h2 => ⟨(hx.2.2 q r d h1 h2).1, fun hq => SL.mono h ((hx.2.2 q r d h1 h2).2.1 hq), (hx.2.2 q r d h1 h2).2.2⟩⟩
theorem RW.of {imm : Imm} {xs : List ND} {i : Int} {x : ND} (hx : idx xs i = some x) (h : ∀ (j : Nat) y, j ≠ i.toNat -> xs[j]? = some y -> y.fz imm) : RW imm (xs.map ND.raw) (xs.map ND.a) i.toNat x.v := by
  obtain ⟨h0, h1, h2⟩ := rE hx
  refine ⟨by simp, fun j r d hr hd => ?_⟩
  rw [dr, Option.map_eq_some_iff] at hr hd
  obtain ⟨y, hy, rfl⟩ := hr
  obtain ⟨y', hy', rfl⟩ := hd
  rw [hy] at hy'
  cases hy'
  refine ⟨rfl, fun hj => h j y hj hy, fun hj => ?_⟩
  subst hj
  rw [h2] at hy
  cases hy; rfl
theorem RW.at {imm : Imm} {ak : List Raw2} {A : List zE} {k : Int} {w : Value} (h : RW imm ak A k.toNat w) {a : zE} (ha : idx A k = some a) : idx ak k = some ⟨vT a.Name.l, w⟩ := by
  obtain ⟨h0, h1, h2⟩ := rE ha
  have aD := (ci.1 h2).1
  have hr : ak[k.toNat]? = some (ak[k.toNat]'(by rw [h.1]; exact aD)) := cf _
  obtain ⟨e1, _, e2⟩ := h.2 _ _ _ hr h2
  unfold idx
  rw [if_pos h0, hr]
  congr 1
  generalize ak[k.toNat]'(by rw [h.1]; exact aD) = r at *
  cases r
  simp only at e1 e2
  rw [e1, e2 trivial]
theorem RW.rl {imm : Imm} : ∀ {ak : List Raw2} {A : List zE}, ak.length = A.length -> (∀ (j : Nat) r d, ak[j]? = some r -> A[j]? = some d -> r.a = vT d.Name.l /\ SL imm r.b d.Dims) -> RL imm (flat ak) A
  | [], [], _, _ => rfl
  | [], _ :: _, h, _ => by cases h
  | _ :: _, [], h, _ => by cases h
  | r :: ak, d :: A, h, hh => ⟨[r.a, r.b], flat ak, rfl, rfl, by
      obtain ⟨e1, e2⟩ := hh 0 r d rfl rfl
      rw [e1]
      exact uI ⟨_, rfl, e2⟩, RW.rl (by simpa using h) fun j r' d' h1 h2 => hh (j+1) r' d' (by simpa using h1) (by simpa using h2)⟩
theorem RW.set {imm : Imm} {ak : List Raw2} {A : List zE} {k : Int} {w : Value} (h : RW imm ak A k.toNat w) {a : zE} (ha : idx A k = some a) {d : List Int} (hd : SL imm w d) : RL imm (flat ak) (A.set k.toNat ⟨a.Name, d⟩) := by
  obtain ⟨h0, h1, h2⟩ := rE ha
  refine RW.rl (by rw [cE]; exact h.1) fun j r y hr hy => ?_
  by_cases hj : j = k.toNat
  · subst hj
    rw [List.getElem?_set_self (ci.1 h2).1] at hy
    cases hy
    obtain ⟨e1, _, e2⟩ := h.2 _ r a hr h2
    exact ⟨e1, by rw [e2 rfl]; exact hd⟩
  · rw [List.getElem?_set_ne (fun e => hj e.symm)] at hy
    obtain ⟨e1, e2, _⟩ := h.2 _ r y hr hy
    exact ⟨e1, e2 hj⟩
theorem ArW.done {imm : Imm} {p : Option Addr} {c : Nat} {ak : List Raw2} {A : List zE} {k : Int} {w : Value} (h : ArW imm (vS p ak c) ak A k w) {a : zE} (ha : idx A k = some a) {d : List Int} (hd : SL imm w d) : SL imm (vS p (A.set k.toNat ⟨a.Name, d⟩) c) (A.set k.toNat ⟨a.Name, d⟩) := by
  obtain ⟨⟨aL, h1, h2⟩, h3⟩ := h
  refine ⟨aL, ?_, ?_⟩
  · have e : (vS p (A.set k.toNat ⟨a.Name, d⟩) c) = vS p ak c := by simp only [vS, cE, h3.1]
    rw [e]; exact h1
  · rw [fR h2]; exact h3.set ha hd
theorem zJr (a : HA) (l N : List HA) : (l++(N++[a])).Perm ((a :: l)++N) := by
  rw [<- co]
  exact cL (l₁ := l++N) (l₂ := [a])
theorem zM5 {imm : Imm} {xs : List ND} (h : ∀ x∈xs, x.ok imm) {z : ND} (hq : RL imm z.cs z.d) : ∀ x∈xs++[z], x.ok imm := by
  intro x hx
  rcases cX.1 hx with k | k
  · exact h x k
  · rw [cv.1 k]; exact hq
section
variable {P : Program} {n : Nat} {B : Base} {imm : Imm} {hs : List HA} {m : FM}
theorem zNr {ae : List Oper} {Q : Exit -> Act -> World -> Prop} {pc : Nat} (af : List HA) (hp : af.Perm hs) (h : R P n B ae Q pc imm af m) : R P n B ae Q pc imm hs m := fun a w f g => h a w f (g.perm hp)
end
end Go.LN
namespace Go.LN
section
variable {P : Program} {n : Nat} {B : Base} {Q : Exit -> Act -> World -> Prop} {imm : Imm} {hs : List HA} {m : FM} {ae : List Oper} {pc d : Nat} {ty : TypeId} {pos : String} {after : Array Edge} {g : Option (Nat × Bool)}
theorem zFr {w : World} {t : TypeId} {k : IntKind} (hu : P.underlying t = some (.int k)) {xs : Array Value} {off : Nat} {v : Value} (hx : xs[off]? = some v) : (part t xs off).run P w = .ok v w := by
  simp [part, isAgg, xT hu, hx]
def intF (P : Program) (f : Field) (o : Nat) : Bool := (f.name != "_") && (f.offset == o) && (match P.underlying f.type with | some (.int _) => true | _ => false)
def int3 (P : Program) (t : TypeId) : Bool := (match P.underlying t with | some (.struct _) => true | _ => false)&&(match (P.fieldsOf t).toList with | [a, b, c] => intF P a 0&&intF P b 1&&intF P c 2 | _ => false) && !(P.stoodInHeld t) && !(P.eqGuardType P.depth t)
theorem zGo {w : World} {f : Field} {fs : List Field} {o e : Nat} {xs ys : Array Value} {a b : Int} (hf : intF P f o = true) (hx : xs[o]? = some (vI a)) (hy : ys[o]? = some (vI b)) : (Op.eqFields (e+1) xs ys (f :: fs)).run P w = if (a==b) = true then (Op.eqFields (e+1) xs ys fs).run P w else .ok false w := by
  unfold intF at hf
  simp only [cA, bne_iff_ne, ne_eq, beq_iff_eq] at hf
  obtain ⟨⟨h1, h2⟩, h3⟩ := hf
  split at h3
  · rename_i k hu
    rw [Op.eqFields]
    subst h2
    simp only [if_pos h1, Sem.run_bind, zFr hu hx, zFr hu hy, Result.andThen_ok, run_equalIn_int w e f.type .i64 k a b hu]
    cases a==b <;> simp
  · cases h3
theorem zLy {w : World} {t : TypeId} {a b c a' b' c' : Int} (ht : int3 P t = true) : (Op.equalIn 10000 t (vA [vI a, vI b, vI c]) (vA [vI a', vI b', vI c'])).run P w = .ok (a==a'&&(b==b'&&c==c')) w := by
  unfold int3 at ht
  simp only [cA, fi] at ht
  obtain ⟨⟨⟨h1, h2⟩, h3⟩, h4⟩ := ht
  have hu : P.underlying t = some (.struct (P.fieldsOf t)) := by
    unfold Program.fieldsOf
    split at h1
    · rename_i fs hu; rw [hu]
    · cases h1
  rw [run_equalIn_struct w 9999 t _ _ hu h3]
  split at h2
  · rename_i f1 f2 f3 he
    simp only [cA] at h2
    rw [he, zGo (a := a) (b := a') h2.1.1 rfl rfl, zGo (a := b) (b := b') h2.1.2 rfl rfl, zGo (a := c) (b := c') h2.2 rfl rfl]
    cases a==a' <;> cases b==b' <;> cases c==c' <;> simp [Op.eqFields]
  · cases h2
theorem zQO {t t2 : TypeId} {x y : Operand} {a b c a' b' c' : Int} (hx : val m x = some (vA [vI a, vI b, vI c])) (hy : val m y = some (vA [vI a', vI b', vI c'])) (ht : int3 P t = true) : Reads P n B imm hs m (.binOp .neq t x y t2) (.bool (!(a==a'&&(b==b'&&c==c')))) := fun oo α w he f gd => by
  have hq : P.eqGuardType P.depth t = false := by
    unfold int3 at ht
    simp only [cA, fi] at ht
    exact ht.2
  simp only [execOp, he, f.eval hx, f.eval hy, Sem.run_bind]
  rw [show (eqGuard .neq t x y (vA [vI a, vI b, vI c]) (vA [vI a', vI b', vI c'])).run P w = .ok () w from run_eqGuard_agg w .neq t x y _ _ hq]
  simp only [Result.andThen_ok]
  rw [show (binOp .neq t (vA [vI a, vI b, vI c]) (vA [vI a', vI b', vI c'])).run P w = _ from run_neq_struct w t _ _]
  rw [show (Op.equalIn 10000 t (.agg ⟨[vI a, vI b, vI c]⟩) (.agg ⟨[vI a', vI b', vI c']⟩)).run P w = _ from zLy ht]
  simp
theorem zQP {t t2 : TypeId} {x y : Operand} {a b c a' b' c' : Int} (ho : ae[pc]? = some ⟨some d, .binOp .neq t x y t2, ty, pos, after, g⟩)
    (next : Rq P n B ae Q (pc+1) imm hs ((d, .bool (!(a==a'&&(b==b'&&c==c')))) :: m)) (hx : val m x = some (vA [vI a, vI b, vI c]) := by kernel_rfl) (hy : val m y = some (vA [vI a', vI b', vI c']) := by kernel_rfl) (hg : guardB ae m g = some true := by kernel_rfl) (hn : Nat.blt d n = true := by kernel_rfl) (ht : int3 P t = true := by kernel_rfl) : Rq P n B ae Q pc imm hs m := zB1 ho hg rfl hn (zQO hx hy ht) next
end
theorem eZ {B : Base} {imm : Imm} (a b : List HA) : ∀ w, Good B imm (a++b) w -> Good B imm (b++a) w := fun _ h => h.perm cL
end Go.LN
namespace Go.LN
section
variable {P : Program} {n : Nat} {B : Base} {ae : List Oper} {Q : Exit -> Act -> World -> Prop} {pc : Nat} {imm : Imm} {hs : List HA} {m : FM} {d : Nat}
end
end Go.LN
