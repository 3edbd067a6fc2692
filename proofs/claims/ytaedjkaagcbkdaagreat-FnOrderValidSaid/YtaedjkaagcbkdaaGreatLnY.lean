/- Lists of loops and parts under construction, of any length: each one's slices are owned apart; frames. -/
import Derived.Test.YtaedjkaagcbkdaaGreatLnSZ
import Derived.Test.YtaedjkaagcbkdaaGreatLnX
namespace Go.LN
set_option linter.unusedVariables false
set_option linter.unusedSimpArgs false
section
variable {P : Program} {n : Nat} {B : Base} {Q : Exit → Act → World → Prop} {imm : Imm} {hs : List HA} {m : FM}
theorem zE0 {c : Code} (hs' : List HA) (hp : hs'.Perm hs) (h : J P n B c Q imm hs' m) : J P n B c Q imm hs m := fun a w f g => h a w f (g.perm hp)
theorem zGj {c : Code} (hF : False) {imm' : Imm} {hs' : List HA} {m' : FM} (next : T n B Q .normal imm' hs' m') : J P n B c Q imm hs m := hF.elim
theorem zIU {c : Code} {L : List HA} (x : Exit) (S : Imm → List HA → FM → Prop) (h1 : ∀ B' : Base, J P n B' c (fun e a w => e = x ∧ ∃ imm' hs' m', S imm' hs' m' ∧ Fr n a m' ∧ Good B' imm' hs' w) imm hs m)
    (h2 : ∀ imm' hs' m', S imm' hs' m' → imm.le imm' → T n B Q x imm' (hs' ++ L) m') : J P n B c Q imm (hs ++ L) m := fun a w f g => by
  have hnd := g.nodup
  rw [List.flatMap_append] at hnd
  have hg1 := g.enter (hs1 := hs) (fun A hA => List.mem_append_left _ hA) (List.nodup_append.1 hnd).1
  refine wp_mono (h1 _ a w f hg1) fun e a' w' he => ?_
  obtain ⟨rfl, imm', hs', m', k1, k2, k3⟩ := he
  obtain ⟨k4, k5, _⟩ := g.leave k3
  exact h2 imm' hs' m' k1 k5 a' w' k2 k4
theorem zIV {B' : Base} {x : Exit} {S : Imm → List HA → FM → Prop} (h : S imm hs m) : T n B' (fun e a w => e = x ∧ ∃ imm' hs' m', S imm' hs' m' ∧ Fr n a m' ∧ Good B' imm' hs' w) x imm hs m := fun _ _ f g => ⟨rfl, imm, hs, m, h, f, g⟩
end
structure NL where
  pl : Option Addr
  lo : List zA
  cl : Nat
  csl : List Value
  ph : Option Addr
  hi : List zA
  ch : Nat
  csh : List Value
def NL.vl (x : NL) : Value := vS x.pl x.lo x.cl
def NL.vh (x : NL) : Value := vS x.ph x.hi x.ch
def NL.ha (x : NL) : List HA := [hO zA x.vh x.csh, hO zA x.vl x.csl]
def NL.raw (x : NL) : Raw2 := ⟨x.vl, x.vh⟩
def NL.d (x : NL) : zI := ⟨x.lo, x.hi⟩
def NL.ok (imm : Imm) (x : NL) : Prop := RL imm x.csl x.lo ∧ RL imm x.csh x.hi
def NL.fz (imm : Imm) (x : NL) : Prop := SL imm x.vl x.lo ∧ SL imm x.vh x.hi
theorem NL.ok.mono {i j : Imm} (h : i.le j) {x : NL} (hx : x.ok i) : x.ok j := ⟨RepL.mono (fun _ _ => Rp.mono h) hx.1, RepL.mono (fun _ _ => Rp.mono h) hx.2⟩
theorem NL.fz.mono {i j : Imm} (h : i.le j) {x : NL} (hx : x.fz i) : x.fz j := ⟨hx.1.mono h, hx.2.mono h⟩
abbrev NLs (xs : List NL) : List HA := xs.flatMap NL.ha
theorem zGk {xs : List NL} {k : Nat} {x : NL} (h : xs[k]? = some x) : ∃ ys, (NLs xs).Perm (x.ha ++ NLs ys) ∧ (∀ y ∈ ys, y ∈ xs) ∧ ∀ i : Nat, ∀ y, i ≠ k → xs[i]? = some y → y ∈ ys := by
  obtain ⟨hk, rfl⟩ := List.getElem?_eq_some_iff.1 h
  refine ⟨xs.eraseIdx k, ?_, fun y hy => List.mem_of_mem_eraseIdx hy, fun i y hi hy => List.mem_eraseIdx_iff_getElem?.2 ⟨i, hi, hy⟩⟩
  have := (oP h).flatMap_right NL.ha
  simpa [NLs] using this
section
variable {P : Program} {n : Nat} {B : Base} {Q : Exit → Act → World → Prop} {hs : List HA} {m : FM}
theorem gF {c : Code} : ∀ (xs : List NL) {imm : Imm}, (∀ x ∈ xs, x.ok imm) → (∀ imm', imm.le imm' → (∀ x ∈ xs, x.fz imm') → J P n B c Q imm' hs m) → J P n B c Q imm (NLs xs ++ hs) m
  | [], imm, _, h => h imm (Imm.le.refl _) (fun _ h => by cases h)
  | x :: xs, imm, hx, h => by
    have h1 := hx x (List.mem_cons_self ..)
    show J P n B c Q imm (hO zA x.vh x.csh :: hO zA x.vl x.csl :: (NLs xs ++ hs)) m
    refine qK 0 rfl ?_
    intro imm1 le1 hl1
    have k1 := SL.of_frozen hl1 le1 h1.2
    refine qK 0 rfl ?_
    intro imm2 le2 hl2
    have k2 := SL.of_frozen hl2 le2 (RepL.mono (fun _ _ => Rp.mono le1) h1.1)
    refine gF xs (fun y hy => (hx y (List.mem_cons_of_mem _ hy)).mono (le1.trans le2)) ?_
    intro imm3 le3 h3
    refine h imm3 ((le1.trans le2).trans le3) fun y hy => ?_
    rcases List.mem_cons.1 hy with rfl | hy
    · exact ⟨k2.mono le3, (k1.mono le2).mono le3⟩
    · exact h3 y hy
end
theorem zCi {α β : Type} {f : α → β} {l : List α} {i : Int} {y : β} (h : idx (l.map f) i = some y) : ∃ x, idx l i = some x ∧ y = f x := by
  obtain ⟨h0, h1, h2⟩ := sB h
  rw [List.getElem?_map, Option.map_eq_some_iff] at h2
  obtain ⟨x, h3, rfl⟩ := h2
  exact ⟨x, by unfold idx; rw [if_pos h0, h3], rfl⟩
theorem fA {α β : Type} {f : α → β} {l : List α} {i : Int} {x : α} (h : idx l i = some x) : idx (l.map f) i = some (f x) := by
  obtain ⟨h0, h1, h2⟩ := sB h
  unfold idx; rw [if_pos h0, List.getElem?_map, h2]; rfl
section
variable {P : Program} {n : Nat} {B : Base} {Q : Exit → Act → World → Prop} {hs : List HA} {m : FM} {imm : Imm}
theorem zGl {c : Code} {xs : List NL} {i : Int} {x : NL} (hx : idx xs i = some x) (hxs : ∀ x ∈ xs, x.ok imm) (h : ∀ imm', imm.le imm' → (∀ (j : Nat) y, j ≠ i.toNat → xs[j]? = some y → y.fz imm') → J P n B c Q imm' (hO zA x.vh x.csh :: hO zA x.vl x.csl :: hs) m) : J P n B c Q imm (NLs xs ++ hs) m := by
  obtain ⟨h0, h1, h2⟩ := sB hx
  obtain ⟨ys, k1, k2, k3⟩ := zGk h2
  refine zE0 (NLs ys ++ (x.ha ++ hs)) ?_ ?_
  · rw [← List.append_assoc]
    exact (List.perm_append_comm.trans k1.symm).append_right hs
  · refine gF ys (fun y hy => hxs y (k2 y hy)) ?_
    intro imm1 le1 hf
    exact h imm1 le1 fun j y hj hy => hf y (k3 j y hj hy)
end
def PW (imm : Imm) (raws : List Raw2) (nest : List zI) : Prop := raws.length = nest.length ∧ ∀ (j : Nat) r d, raws[j]? = some r → nest[j]? = some d → SL imm r.a d.Lo ∧ SL imm r.b d.Hi
theorem PW.rl {imm : Imm} : ∀ {raws : List Raw2} {nest : List zI}, PW imm raws nest → RL imm (flat raws) nest
  | [], [], _ => rfl
  | [], _ :: _, h => by cases h.1
  | _ :: _, [], h => by cases h.1
  | r :: raws, d :: nest, h => ⟨[r.a, r.b], flat raws, rfl, rfl, qM ⟨_, _, rfl, h.2 0 r d rfl rfl⟩, PW.rl ⟨by have := h.1; simpa using this, fun j r' d' h1 h2 => h.2 (j + 1) r' d' (by simpa using h1) (by simpa using h2)⟩⟩
theorem zE1 {imm : Imm} {xs : List NL} {k : Nat} {r : Raw2} {d : zI} (hfz : ∀ (j : Nat) y, j ≠ k → xs[j]? = some y → y.fz imm) (hr : SL imm r.a d.Lo ∧ SL imm r.b d.Hi) : PW imm ((xs.map NL.raw).set k r) ((xs.map NL.d).set k d) := by
  refine ⟨by simp, fun j r' d' h1 h2 => ?_⟩
  by_cases hj : j = k
  · subst hj
    rw [List.getElem?_set_self' ] at h1 h2
    cases hx : xs[j]? with
    | none => simp [hx] at h1
    | some y =>
      simp [hx] at h1 h2
      subst h1; subst h2
      exact hr
  · rw [List.getElem?_set_ne (fun e => hj e.symm), List.getElem?_map, Option.map_eq_some_iff] at h1 h2
    obtain ⟨y, h3, rfl⟩ := h1
    obtain ⟨y', h4, rfl⟩ := h2
    rw [h3] at h4
    cases h4
    exact hfz j y hj h3
theorem NL.shut {imm : Imm} {x : NL} (h : x.fz imm) : Rp.rep imm [x.vl, x.vh] x.d := qM ⟨_, _, rfl, h.1, h.2⟩
theorem zDB {imm : Imm} : ∀ {xs : List NL}, (∀ x ∈ xs, x.fz imm) → RL imm (flat (xs.map NL.raw)) (xs.map NL.d)
  | [], _ => rfl
  | x :: xs, h => ⟨[x.vl, x.vh], flat (xs.map NL.raw), rfl, rfl, NL.shut (h x (List.mem_cons_self ..)), zDB fun y hy => h y (List.mem_cons_of_mem _ hy)⟩
theorem LP.push {imm : Imm} {raws : List Raw2} {parts : List zP} {vN vB vN' vB' : Value} {nl nl' : List zI} {bl bl' : List zR} (h : LP imm raws parts vN nl vB bl) (hN : SL imm vN nl) (hB : SL imm vB bl) {l1 : List zP}
    (ha : app 48 parts [(⟨nl', bl'⟩ : zP)] = some l1) : LP imm (raws ++ [⟨vN', vB'⟩]) l1 vN' nl' vB' bl' := by
  obtain ⟨hb, rfl⟩ := gD ha
  obtain ⟨h1, h2, h3⟩ := h
  refine ⟨?_, ?_, .inr ⟨raws, parts, rfl, rfl, ?_⟩⟩
  · simp at hb ⊢; omega
  · simp [h2]
  · rcases h3 with ⟨rfl, rfl⟩ | ⟨rl, l, rfl, rfl, h4⟩
    · rfl
    · rw [jK]
      exact h4.append (.single rfl (sC ⟨_, _, rfl, hN, hB⟩))
theorem LP.nil {imm : Imm} : LP imm [] [] (.slice none 0 0) [] (.slice none 0 0) [] := ⟨by decide, rfl, .inl ⟨rfl, rfl⟩⟩
end Go.LN
