/- THE STATEMENT OF FormatSteps, out of its walk and its plain law. -/
import Derived.Test.YtbgdegfnaofkfaaDoorTie
import Derived.Test.YtbgdegfnaofkfaaDoorCards
import Derived.Test.YtbgdegfnaofkfaaDoorPF
import Derived.Test.YtbgdegfnaofkfaaDoorLnR
import Derived.ProofKit
import Derived.LaidMore
import Derived.OpenShut
import Derived.Stop.Joined
import Derived.SevenTiedAt
namespace Go.Proofs.YtbgdegfnaofkfaaDoor
open Go.ChangeShapes Go.WideShapes Go.ChangeAt Go.RowKit Go.LN
set_option linter.unusedVariables false

theorem own : ownKnob Tryd.prog.godebug = none := by kernel_rfl
theorem laidOut : laidOutB Tryd.prog = true := by kernel_rfl
theorem cells42 : Tryd.prog.cellsOf 42 = 4 := by kernel_rfl
theorem cells3 : Tryd.prog.cellsOf 3 = 1 := by kernel_rfl

set_option maxRecDepth 100000 in
theorem step_of_trod {H : Type} {enc : TypeId × Value → H} {W : World} {base : Nat} {spare : Nat → Bool} {held : Bool} (n : Nat) (cs : List Value) (x : DataW H × List MemPlace) (h : DataW.trod enc Tryd.prog W base spare held n 42 cs = some x) (hl : cs.length = 4) :
    ∃ a : laws_Step, Rp.rep (imm0 W) cs a ∧ True := by
  obtain ⟨xs, m, _, _, _, _, hf⟩ := DataW.trod_struct Tryd.underlying42 h
  match cs, hl with
  | [c0, c1, c2, c3], _ =>
    have get : ∀ (i : Nat) (f : Field) (c : Value) (y : DataW H × List MemPlace), DataW.trod enc Tryd.prog W base spare held m 3 [c] = some y → ∃ k : Int, c = .int .i64 k := fun i f c y hy => by
      obtain ⟨k, e1, _⟩ := DataW.trod_int Tryd.underlying3 hy
      exact ⟨k, by simpa using e1⟩
    have len : xs.length = 4 := by
      obtain ⟨_, _, _, _, _, hh, _⟩ := DataW.trod_struct Tryd.underlying42 h
      assumption
    have h0 := hf 0 _ rfl
    have h1 := hf 1 _ rfl
    have h2 := hf 2 _ rfl
    have h3 := hf 3 _ rfl
    change DataW.trod enc Tryd.prog W base spare held m 3 (([c0, c1, c2, c3].drop 0).take (Tryd.prog.cellsOf 3)) = _ at h0
    rw [cells3] at h0
    change DataW.trod enc Tryd.prog W base spare held m 3 (([c0, c1, c2, c3].drop 1).take (Tryd.prog.cellsOf 3)) = _ at h1
    rw [cells3] at h1
    change DataW.trod enc Tryd.prog W base spare held m 3 (([c0, c1, c2, c3].drop 2).take (Tryd.prog.cellsOf 3)) = _ at h2
    rw [cells3] at h2
    change DataW.trod enc Tryd.prog W base spare held m 3 (([c0, c1, c2, c3].drop 3).take (Tryd.prog.cellsOf 3)) = _ at h3
    rw [cells3] at h3
    rw [List.getElem?_eq_getElem (by omega)] at h0 h1 h2 h3
    obtain ⟨k0, rfl⟩ := get 0 default c0 _ h0
    obtain ⟨k1, rfl⟩ := get 0 default c1 _ h1
    obtain ⟨k2, rfl⟩ := get 0 default c2 _ h2
    obtain ⟨k3, rfl⟩ := get 0 default c3 _ h3
    exact ⟨⟨k0, k1, k2, k3⟩, rfl, trivial⟩

theorem gTab : Tryd.prog.globalNamed "internal/strconv.uint64pow10" = some 3 := by kernel_rfl
theorem tTab : (Tryd.prog.globals[3]?).map (·.type) = some 95 := by kernel_rfl
theorem cells82 : Tryd.prog.cellsOf 82 = 1 := by kernel_rfl
theorem cells95 : Tryd.prog.cellsOf 95 = 20 := by kernel_rfl

/-- The table lies in memory when the call begins. -/
theorem gh_of_laid {W : World} (h : laidMetH Tryd.prog Rows.fnExactFormatStepsRow.laid W) : GH Tryd.prog (imm0 W) := by
  rw [MakeChecks.laidMetH_plain _ _ _ (by kernel_rfl)] at h
  obtain ⟨ps, ⟨g0, t0, cs0, f0, p0, q0, hg0, ht0, hv0, hd0, ⟨g1, t1, cs1, f1, p1, q1, hg1, ht1, hv1, hd1, ⟨g2, t2, cs2, f2, p2, q2, hg2, ht2, hv2, hd2, _, _⟩, _⟩, _⟩, _⟩ := h
  obtain rfl := Option.some.inj (gTab.symm.trans hg2)
  obtain rfl := Option.some.inj (tTab.symm.trans ht2)
  have hc : cs2.toList = Lib.pow10Tab.map fun z => Value.int .u64 z := Lib.cells_of_tab (zs := Lib.pow10Tab) Tryd.underlying95 Tryd.underlying82 cells82 cells95 hd2
  refine ⟨3, gTab, ?_⟩
  unfold World.var? at hv2
  rw [gTab, Option.bind_some] at hv2
  split at hv2
  · rename_i c ty fr hw
    cases hv2
    rw [imm0_some hw]
    congr 1
    apply Array.ext'
    rw [hc]
  · cases hv2

set_option maxRecDepth 100000 in
theorem walk {W : World} {a : Option Addr} {l : List laws_Step} {c : Nat} (hs : SL (imm0 W) (.slice a l.length c) l) (hl : l.length ≤ maxLen) (hG : GH Tryd.prog (imm0 W)) :
    Calls Tryd.prog 3 #[.slice a l.length c] W fun e W' => e = .returned (.bool true) ∧ Below W.heap.size W W' :=
  below_of_ret (good0 W) ((laws_FnExactFormatSteps_ok l true (formatSteps_law l hl) hs hG).mono (by
    rintro k i hs' v ⟨v0, rfl, rfl, rfl⟩
    rfl))

set_option maxRecDepth 100000 in
theorem lifted (os : Os) (started : os.Started) (H : Type) (enc : TypeId × Value → H) :
    ReturnsInHanded {} Tryd.checked os 3 .any (fun w args => (Rows.fnExactFormatStepsSpec.pre enc Tryd.prog Tryd.f3 [] false w args ∧ laidMetH Tryd.prog Rows.fnExactFormatStepsRow.laid w) ∧ sizedMet enc Tryd.prog Tryd.f3 (OpenSpec.ofChange Rows.fnExactFormatStepsSpec) false w args)
      (Rows.fnExactFormatStepsSpec.post enc Tryd.prog Tryd.f3 false true false false) := by
  refine returnsInHanded_of_change_and (C := Tryd.checked) (X := fun w _ => laidMetH Tryd.prog Rows.fnExactFormatStepsRow.laid w) (fun _ _ _ hh h => h.of_heap hh) own started (by kernel_rfl) Tryd.func3
    (ChangeSpec.witness_shaped (enc := enc) (C := Tryd.checked) (os := os) (X := fun w _ => laidMetH Tryd.prog Rows.fnExactFormatStepsRow.laid w) false (World.doorLaid Tryd.prog 4000 os) #[.slice none 0 0] 8 rfl (World.shaped_of_RefB (by kernel_rfl) (by kernel_rfl)) (by kernel_rfl) (by kernel_rfl) (by kernel_rfl)
      (laidMetH_of_parts3 (fuel := 8) (laidMet_of_run' 8 (by kernel_rfl) (by kernel_rfl)) (by kernel_rfl) (by kernel_rfl))) ?_
  intro W base args ds gs before hval0 hW _ _ hL _
  have hval : ∀ (j : Nat) t v, Tryd.f3.params[j]? = some t → args[j]? = some v → Value.okWide Tryd.prog W .any base t v := hval0
  have hW' := hW
  obtain ⟨p, q, hA0, hV, rfl, hfz, hnd⟩ := hW
  have hA : DataW.TrodAll enc Tryd.prog W 0 (fun _ => true) true Tryd.f3.params.toList args.toList ds p := hA0
  rw [Tryd.params3] at hA hval
  obtain ⟨v0, vs0, d0, ds0, p0, q0, hargs, rfl, rfl, h0, r0⟩ := trodAll_cons hA
  obtain ⟨rfl, rfl, rfl⟩ := trodAll_nil r0
  obtain rfl : args = #[v0] := by cases args; simp_all
  obtain ⟨rfl, rfl⟩ := trodVars_none hV
  have k0 := h0
  have lt0 : ∀ x ∈ p0, x.block < W.heap.size := by obtain ⟨m, hm⟩ := k0; exact DataW.trod_lt m _ _ _ hm
  obtain ⟨a, l, c, rfl, hsl, _, hlen⟩ := sl_of_trod (α := laws_Step) (p := fun _ => True) Tryd.underlying22 cells42 (fun n cs x h hl => step_of_trod n cs x h hl) (hval 0 22 v0 rfl rfl) h0
  clear hA0 hval0
  refine (walk hsl hlen (gh_of_laid hL)).mono fun e W' ⟨he, bel⟩ => ?_
  subst he
  exact ⟨_, rfl, _, _, _, [], _, [], hW', trodAll_mk1 (shut_bool Tryd.underlying4 _), (trodAll_cons_mk (Below.trod laidOut (by kernel_rfl) (of_decide_eq_true (by kernel_rfl)) k0 bel lt0) trodAll_mk0), rfl, bel.frame _, fun h => by cases h⟩

theorem row_holds : Rows.FnExactFormatStepsSaid :=
  OpenClaim.holds_of_wide 3 Tryd.f3 rfl rfl rfl rfl rfl rfl rfl ⟨rfl, rfl, rfl, rfl, rfl⟩ rfl rfl rfl rfl rfl (by kernel_rfl) Tryd.func3 (by kernel_rfl)
    (of_decide_eq_true (by kernel_rfl)) (by unfold Func.isWrapper; first | (rw [if_pos (by decide +kernel)]; kernel_rfl) | (rw [if_neg (by decide +kernel)]; exact ⟨rfl, rfl⟩))
    (fun os started H enc _ => lifted os started H enc)

/-- THE STATEMENT: the tied card. -/
theorem fnExactFormatSteps_holds : Rows.FnExactFormatStepsCardSaid :=
  Claim7.holds_tied_plain_at .later [] [.data, .data, .data] true (true, "73708358a33c757e73ec626805a66b0307d663a3a374ebcd3c28ea68a5223ee4") true
    row_holds (fun _ h => by cases h) (by kernel_rfl) (fun _ h => by cases h) fnExactFormatSteps_row_tie rfl ⟨rfl, rfl⟩ (by kernel_rfl) rfl
    (fun f fn hf hfn => by
      obtain rfl : f = 3 := Option.some.inj ((show Tryd.prog.funcNamed "loop.example/loopnests/laws.FnExactFormatSteps" = some 3 by kernel_rfl).symm.trans hf) |>.symm
      obtain rfl : fn = Tryd.f3 := (Option.some.inj (Tryd.func3.symm.trans hfn)).symm
      exact ⟨by kernel_rfl, fun j t ht => by
        rw [Tryd.params3] at ht
        have hm : t ∈ [22] := by simpa using Array.mem_of_getElem? ht
        have hall : ([22].all fun u => !Tryd.prog.wantsStandIn u) = true := by kernel_rfl
        exact (show Tryd.prog.wantsStandIn t = false by simpa using List.all_eq_true.1 hall t hm)⟩)
    (by kernel_rfl)
#print axioms fnExactFormatSteps_holds
end Go.Proofs.YtbgdegfnaofkfaaDoor
