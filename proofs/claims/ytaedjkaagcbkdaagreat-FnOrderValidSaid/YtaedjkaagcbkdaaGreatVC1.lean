/- Values: copies are what was copied. -/
import Derived.Test.YtaedjkaagcbkdaaGreatVB8
namespace Go.LN
set_option linter.unusedVariables false
set_option linter.unusedSimpArgs false
theorem mV {α : Type} {l : List α} {f : Int → List α → Option (List α)} (step : ∀ (i : Nat) (h : i < l.length) (o : List α), o.length = i → f (i : Int) o = f ((i + 1 : Nat) : Int) (o ++ [l[i]])) (fin : ∀ o, f (l.length : Int) o = some o) : f 0 [] = some l := by
  have key : ∀ j i, i + j = l.length → f (i : Int) (l.take i) = some l := by
    intro j
    induction j with
    | zero =>
      intro i hi
      rw [show i = l.length by omega, fin, List.take_of_length_le (Nat.le_refl _)]
    | succ j ih =>
      intro i hi
      have hlt : i < l.length := by omega
      have := ih (i + 1) (by omega)
      rw [List.take_add_one, List.getElem?_eq_getElem hlt, Option.toList_some] at this
      rw [step i hlt _ (by rw [List.length_take]; omega)]
      exact this
  exact key _ 0 (Nat.zero_add _)
theorem copyExpr : ∀ (m : Nat) (e : zH), BE m e → sE e = some e
  | m, e, h => by
    obtain ⟨h1, h2, h3⟩ := h.own
    rw [sE]
    have hl := mV (l := e.Kids) (f := fun i o => wN e i o) (fun i hi o ho => by
        show wN e (i : Int) o = _
        rw [wN]
        have k1 : ((i : Int) < (e.Kids.length : Int)) := by omega
        obtain ⟨m', hm, hm'⟩ := h.kid (List.getElem_mem hi)
        have happ : app 112 o [e.Kids[i]] = some (o ++ [e.Kids[i]]) := oN (by simp; omega)
        have hr := copyExpr m' e.Kids[i] hm'
        simp only [k1, decide_true, if_true, xH hi, Option.bind_eq_bind, Option.bind_some, same, hr, happ]
        rw [tV (by omega)]) (fun o => by
        show wN e (e.Kids.length : Int) o = _
        rw [wN]; simp)
    simp only [specCopyAff _ h1, specCopyAcc _ h2, Option.bind_eq_bind, Option.bind_some, same]
    rw [show wN e 0 [] = some e.Kids from hl]
    clear hl h h1 h2 h3
    cases e; rfl
theorem copyStmt (s : zR) (h : BS s) : oQ s = some s := by
  obtain ⟨h1, m, h2⟩ := h
  unfold oQ
  rw [specCopyAcc _ h1, copyExpr m _ h2]
  rfl
theorem copyNest (nest : List zI) (h : BN nest) : qE nest = some nest := by
  obtain ⟨h1, h2⟩ := h
  unfold qE
  have hl := mV (l := nest) (f := fun i o => wZ nest o i) (fun i hi o ho => by
      show wZ nest o (i : Int) = _
      rw [wZ]
      have k1 : ((i : Int) < (nest.length : Int)) := by omega
      obtain ⟨⟨q1, q2⟩, q3, q4⟩ := h2 _ (List.getElem_mem hi)
      have happ : app 48 o [nest[i]] = some (o ++ [nest[i]]) := oN (by simp; omega)
      have hlo := mV (l := nest[i].Lo) (f := fun k o => uU nest (i : Int) k o) (fun k hk o ho => by
          show uU nest (i : Int) (k : Int) o = _
          rw [uU]
          have k2 : ((k : Int) < (nest[i].Lo.length : Int)) := by omega
          have hp : app 32 o [nest[i].Lo[k]] = some (o ++ [nest[i].Lo[k]]) := oN (by simp; omega)
          have ha := q2 _ (List.getElem_mem hk)
          have hpn : app 8 ([] : List Int) nest[i].Lo[k].Coefs = some nest[i].Lo[k].Coefs := jW _ (by unfold BA at ha; omega)
          simp only [xH hi, k2, decide_true, if_true, xH hk, Option.bind_eq_bind, Option.bind_some, hpn, hp]
          rw [tV (by omega)]) (fun o => by
          show uU nest (i : Int) (nest[i].Lo.length : Int) o = _
          rw [uU]; simp [xH hi])
      have hhi := mV (l := nest[i].Hi) (f := fun k o => uV nest (i : Int) k o) (fun k hk o ho => by
          show uV nest (i : Int) (k : Int) o = _
          rw [uV]
          have k2 : ((k : Int) < (nest[i].Hi.length : Int)) := by omega
          have hp : app 32 o [nest[i].Hi[k]] = some (o ++ [nest[i].Hi[k]]) := oN (by simp; omega)
          have ha := q4 _ (List.getElem_mem hk)
          have hpn : app 8 ([] : List Int) nest[i].Hi[k].Coefs = some nest[i].Hi[k].Coefs := jW _ (by unfold BA at ha; omega)
          simp only [xH hi, k2, decide_true, if_true, xH hk, Option.bind_eq_bind, Option.bind_some, hpn, hp]
          rw [tV (by omega)]) (fun o => by
          show uV nest (i : Int) (nest[i].Hi.length : Int) o = _
          rw [uV]; simp [xH hi])
      simp only [k1, decide_true, if_true, Option.bind_eq_bind, Option.bind_some, hlo, hhi, happ]
      rw [tV (by omega)]) (fun o => by
      show wZ nest o (nest.length : Int) = _
      rw [wZ]; simp)
  rw [hl]; rfl
theorem copyProg (P : zZ) (h : BG P) : tY P = some P := by
  obtain ⟨⟨h1, h1'⟩, h2, h3⟩ := h
  unfold tY
  have ha := mV (l := P.Arrays) (f := fun i o => uW P i o) (fun i hi o ho => by
      show uW P (i : Int) o = _
      rw [uW]
      have k1 : ((i : Int) < (P.Arrays.length : Int)) := by omega
      have hd := h1' _ (List.getElem_mem hi)
      have happ : app 40 o [P.Arrays[i]] = some (o ++ [P.Arrays[i]]) := oN (by simp; omega)
      have hpn : app 8 ([] : List Int) P.Arrays[i].Dims = some P.Arrays[i].Dims := jW _ (by omega)
      simp only [k1, decide_true, if_true, xH hi, Option.bind_eq_bind, Option.bind_some, hpn, happ]
      rw [tV (by omega)]) (fun o => by
      show uW P (P.Arrays.length : Int) o = _
      rw [uW]; simp)
  have hp := mV (l := P.Parts) (f := fun i o => vC P i o) (fun i hi o ho => by
      show vC P (i : Int) o = _
      rw [vC]
      have k1 : ((i : Int) < (P.Parts.length : Int)) := by omega
      obtain ⟨b1, b2, b3⟩ := h3 _ (List.getElem_mem hi)
      have happ : app 48 o [P.Parts[i]] = some (o ++ [P.Parts[i]]) := oN (by simp; omega)
      have hb := mV (l := P.Parts[i].Body) (f := fun k o => uX P (i : Int) k o) (fun k hk o ho => by
          show uX P (i : Int) (k : Int) o = _
          rw [uX]
          have k2 : ((k : Int) < (P.Parts[i].Body.length : Int)) := by omega
          have hp : app 152 o [P.Parts[i].Body[k]] = some (o ++ [P.Parts[i].Body[k]]) := oN (by simp; omega)
          simp only [xH hi, k2, decide_true, if_true, xH hk, Option.bind_eq_bind, Option.bind_some, copyStmt _ (b3 _ (List.getElem_mem hk)), hp]
          rw [tV (by omega)]) (fun o => by
          show uX P (i : Int) (P.Parts[i].Body.length : Int) o = _
          rw [uX]; simp [xH hi])
      simp only [k1, decide_true, if_true, xH hi, Option.bind_eq_bind, Option.bind_some, copyNest _ b1, hb, happ]
      rw [tV (by omega)]) (fun o => by
      show vC P (P.Parts.length : Int) o = _
      rw [vC]; simp)
  rw [ha, hp]; rfl
end Go.LN
