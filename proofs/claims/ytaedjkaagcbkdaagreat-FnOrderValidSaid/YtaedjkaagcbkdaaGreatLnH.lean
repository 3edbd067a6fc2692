/- What is handed over, lent, frozen; calls; the end of a function; strings. -/
import Derived.Test.YtaedjkaagcbkdaaGreatLnG
namespace Go.LN
set_option linter.unusedVariables false
set_option linter.unusedSimpArgs false
section
variable {P : Program} {n : Nat} {B : Base} {Q : Exit → Act → World → Prop} {imm : Imm} {hs : List HA} {m : FM} {ops : List Oper} {pc d : Nat}
/-! ### Owned things: in another order, fewer, frozen; at a region's rest and ahead of a code -/
theorem qC {hs' : List HA} (hg : ∀ w, Good B imm hs w → Good B imm hs' w) (h : R P n B ops Q pc imm hs' m) : R P n B ops Q pc imm hs m := fun a w f g => h a w f (hg w g)
theorem qR {c : Code} {hs' : List HA} (hg : ∀ w, Good B imm hs w → Good B imm hs' w) (h : J P n B c Q imm hs' m) : J P n B c Q imm hs m := fun a w f g => h a w f (hg w g)
theorem wE {e : Exit} {hs' : List HA} (hg : ∀ w, Good B imm hs w → Good B imm hs' w) (h : T n B Q e imm hs' m) : T n B Q e imm hs m := fun a w f g => h a w f (hg w g)
theorem zBa (j : Nat) {A : HA} (hj : hs[j]? = some A) : ∀ w, Good B imm hs w → Good B imm (hs.eraseIdx j) w := fun _ h => (h.perm (oP hj).symm).tail
theorem zAQ (j : Nat) {A : HA} (hj : hs[j]? = some A) : ∀ w, Good B imm hs w → Good B imm (A :: hs.eraseIdx j) w := fun _ h => h.perm (oP hj).symm
theorem tD (sz : Nat) : ∀ w, Good B imm hs w → Good B imm (.osl (.slice none 0 0) sz [] :: hs) w := fun _ h => h.nil_osl sz
theorem yL {A : HA} (j : Nat) (hj : hs[j]? = some A) (h : ∀ imm', imm.le imm' → Lent imm' A → R P n B ops Q pc imm' (hs.eraseIdx j) m) (hpl : A.plain = true := by rfl) : R P n B ops Q pc imm hs m := fun a w f g => by
  obtain ⟨imm', h1, h2, h3⟩ := (zAQ j hj w g).freeze hpl
  exact h imm' h1 h2 a w f h3
theorem qK {c : Code} {A : HA} (j : Nat) (hj : hs[j]? = some A) (h : ∀ imm', imm.le imm' → Lent imm' A → J P n B c Q imm' (hs.eraseIdx j) m) (hpl : A.plain = true := by rfl) : J P n B c Q imm hs m := fun a w f g => by
  obtain ⟨imm', h1, h2, h3⟩ := (zAQ j hj w g).freeze hpl
  exact h imm' h1 h2 a w f h3
theorem xL {e : Exit} {A : HA} (j : Nat) (hj : hs[j]? = some A) (h : ∀ imm', imm.le imm' → Lent imm' A → T n B Q e imm' (hs.eraseIdx j) m) (hpl : A.plain = true := by rfl) : T n B Q e imm hs m := fun a w f g => by
  obtain ⟨imm', h1, h2, h3⟩ := (zAQ j hj w g).freeze hpl
  exact h imm' h1 h2 a w f h3
theorem SL.of_frozen {α : Type} [Rp α] {imm' : Imm} {v : Value} {cs : List Value} {l : List α} (h : Lent imm' (.osl v (Rp.sz α) cs)) (hle : imm.le imm') (hr : RepL (Rp.rep imm) (Rp.sz α) cs l) : SL imm' v l :=
  ⟨cs, h, hr.mono fun _ _ => Rp.mono hle⟩
/-! ### Functions -/
def Post (B : Base) (post : Nat → Imm → List HA → Value → Prop) : Ending → World → Prop
  | .returned v, w' => ∃ imm' hs', post B.w0.heap.size imm' hs' v ∧ Good B imm' hs' w'
  | _, _ => False
def Ret (P : Program) (f : FuncId) (args : List Value) (imm : Imm) (hs : List HA) (post : Nat → Imm → List HA → Value → Prop) : Prop :=
  ∀ w, Good ⟨w, imm, hs.flatMap HA.fp⟩ imm hs w → Calls P f args.toArray w (Post ⟨w, imm, hs.flatMap HA.fp⟩ post)
theorem Ret.mono {f : FuncId} {args : List Value} {post post' : Nat → Imm → List HA → Value → Prop} (h : Ret P f args imm hs post) (hp : ∀ k i h v, post k i h v → post' k i h v) : Ret P f args imm hs post' :=
  fun w g => (h w g).mono fun e w' he => by
    cases e with
    | returned v => obtain ⟨i, hs', h1, h2⟩ := he; exact ⟨i, hs', hp _ _ _ _ h1, h2⟩
    | panicked c => exact he
    | outgrown => exact he
def QB (P : Program) (fn : Func) (B : Base) (post : Nat → Imm → List HA → Value → Prop) : Exit → Act → World → Prop
  | .normal, a, w | .ret, a, w => a.defers = [] ∧ ∃ v, (results fn a.tmps).run P w = .ok v w ∧ Post B post (.returned v) w
  | _, _, _ => False
def argm : Nat → List Value → FM
  | _, [] => []
  | i, v :: vs => (i, v) :: argm (i + 1) vs
theorem zEI : ∀ (vs : List Value) (i k : Nat) (v : Value), look (argm i vs) k = some v → i ≤ k ∧ vs[k - i]? = some v
  | [], _, _, _, h => by simp [argm, look] at h
  | u :: vs, i, k, v, h => by
    by_cases e : i = k
    · subst e
      rw [argm, pC] at h
      cases h
      simp
    · rw [argm, rM _ _ e] at h
      obtain ⟨h1, h2⟩ := zEI vs (i + 1) k v h
      refine ⟨by omega, ?_⟩
      rw [show k - i = (k - (i + 1)) + 1 from by omega]
      simpa using h2
theorem yF {f : FuncId} {fn : Func} {c : Code} {args : List Value} {post : Nat → Imm → List HA → Value → Prop} (hf : P.funcs[f]? = some fn) (hb : fn.body = some c) (hn : Nat.ble args.length fn.ntmps = true)
    (h : ∀ B : Base, B.imm0 = imm → B.io = hs.flatMap HA.fp → J P fn.ntmps B c (QB P fn B post) imm hs (argm 0 args)) : Ret P f args imm hs post := fun w g => by
  have hn := Nat.le_of_ble_eq_true hn
  refine calls_of_wp hf hb ?_
  refine wp_mono (h ⟨w, imm, hs.flatMap HA.fp⟩ rfl rfl _ w ⟨rfl, by simp; omega, fun k v hk => ?_⟩ g) fun e a w' he => ?_
  · obtain ⟨_, h2⟩ := zEI args 0 k v hk
    have hlt := (List.getElem?_eq_some_iff.1 h2).1
    simp only [Nat.sub_zero] at h2 hlt
    have hv' : args[k] = v := by rw [List.getElem?_eq_getElem hlt] at h2; injection h2
    simp [Array.getElem?_append, hlt, hv']
  · cases e <;> first | exact he | exact he.elim
inductive ResV (P : Program) (m : FM) (hs : List HA) : List ResultVar → List Value → Prop
  | nil : ResV P m hs [] []
  | tmp {t : Nat} {v : Value} {rs : List ResultVar} {vs : List Value} (h : look m t = some v) (hr : ResV P m hs rs vs) : ResV P m hs (.tmp t :: rs) (v :: vs)
  | cell {t : Nat} {ty : TypeId} {v : Value} {rs : List ResultVar} {vs : List Value} {b : Nat} {c : Array Value} (j : Nat) (hj : hs[j]? = some (.blk b c)) (h : look m t = some (.pointer (some ⟨b, 0, none⟩))) (hv : loadV P ty c.toList = some v)
      (hr : ResV P m hs rs vs) : ResV P m hs (.cell t ty :: rs) (v :: vs)
def resG (tmps : Array Value) : ResultVar → Sem Value
  | .tmp t => pure (tmps.getD t undef)
  | .cell a t => do loadVar t (← asAddr (tmps.getD a undef))
theorem zCp {a : Act} {w : World} (f : Fr n a m) (g : Good B imm hs w) : ∀ {rs : List ResultVar} {vs : List Value}, ResV P m hs rs vs → (rs.mapM (resG a.tmps)).run P w = .ok vs w
  | [], _, .nil => by simp
  | _, _, .tmp h hr => by
    have := f.eval (x := .tmp _) h
    simp only [Act.eval] at this
    simp [List.mapM_cons, resG, this, zCp f g hr]
  | _, _, .cell (c := c) j hj h hv hr => by
    have := f.eval (x := .tmp _) h
    simp only [Act.eval] at this
    obtain ⟨_, _, ty', hw⟩ := g.own _ (sW hj)
    have hl := nV (P := P) (off := 0) hw (cs := c.toList) (by simp) (by rw [List.drop_zero, List.take_length]) hv
    simp [List.mapM_cons, resG, this, asAddr, hl, zCp f g hr]
def tupV : List Value → Value
  | [v] => v
  | vs => .tuple vs.toArray
theorem zEn {fn : Func} {a : Act} {w : World} {vs : List Value} (f : Fr n a m) (g : Good B imm hs w) (h : ResV P m hs fn.results.toList vs) : (results fn a.tmps).run P w = .ok (tupV vs) w := by
  have h1 := zCp f g h
  have h2 : (fn.results.mapM (resG a.tmps)).run P w = .ok vs.toArray w := by
    rw [Array.mapM_eq_mapM_toList, Sem.run_map, h1]; rfl
  have h3 : results fn a.tmps = (do let vs ← fn.results.mapM (resG a.tmps); pure (if h : vs.size = 1 then vs[0] else .tuple vs)) := by
    unfold results
    congr 1
  rw [h3]
  simp only [Sem.run_bind, h2, Result.andThen_ok, Sem.run_pure]
  cases vs with
  | nil => rfl
  | cons v vs => cases vs <;> rfl
/-! ### Calls -/
def callable (P : Program) (f : FuncId) : Bool := match P.funcs[f]? with | some fn => fn.body.isSome && fn.name != "runtime.NumGoroutine" | none => false
theorem zAo {w : World} {f : FuncId} {args : Array Value} (h : callable P f = true) : (callFunc f args).run P w = .ok (.enter f args) w := by
  unfold callable at h
  unfold callFunc
  split at h
  · rename_i fn hf
    rw [Bool.and_eq_true] at h
    have h2 : (fn.name == "runtime.NumGoroutine") = false := by simpa [bne] using h.2
    have h1 : fn.body.isNone = false := by cases hb : fn.body <;> simp_all
    simp only [Sem.run_bind, run_program, Result.andThen_ok, hf, h2, h1, Bool.false_eq_true, if_false, Sem.run_pure]
  · cases h
theorem zBb {f : FuncId} {x : Operand} {xs : Array Operand} {ts : Array TypeId} {ty : TypeId} {pos : String} {after : Array Edge} {g : Option (Nat × Bool)} {vs : List Value} {hs1 rest : List HA} {post : Nat → Imm → List HA → Value → Prop}
    (ho : ops[pc]? = some ⟨some d, .call { callee := .value x, args := xs, argTypes := ts }, ty, pos, after, g⟩) (hg : guardB ops m g = some true) (hn : Nat.blt d n = true) (hx : val m x = some (.func (.func f) #[] #[])) (hf : callable P f = true)
    (hvs : vals m xs.toList = some vs) (hh : hs = hs1 ++ rest) (hc : Ret P f vs imm hs1 post)
    (next : ∀ imm' hs' v k, imm.le imm' → B.w0.heap.size ≤ k → post k imm' hs' v → (∀ b ∈ hs'.flatMap HA.fp, b ∈ hs1.flatMap HA.fp ∨ B.w0.heap.size ≤ b) → R P n B ops Q (pc + 1) imm' (hs' ++ rest) ((d, v) :: m)) : R P n B ops Q pc imm hs m :=
  zEU ho hg fun a w fr gd => by
    subst hh
    have hargs : xs.map a.eval = vs.toArray := by apply Array.ext'; rw [Array.toList_map, fr.evals hvs]
    have hnd := gd.nodup
    rw [List.flatMap_append] at hnd
    have hg1 := gd.enter (hs1 := hs1) (fun A hA => List.mem_append_left _ hA) (List.nodup_append.1 hnd).1
    unfold Oper.wp
    simp only [execOp, resolve, Deferred.ofValue, fr.eval hx, hargs, Sem.run_bind, Sem.run_pure, Result.andThen_ok, invoke, Array.empty_append, Array.append_empty, zAo hf, Oper.upon]
    refine (hc w hg1).mono fun e w' he => ?_
    cases e with
    | returned v =>
      obtain ⟨imm', hs', hp, hgood⟩ := he
      obtain ⟨g2, hle, hfp⟩ := gd.leave hgood
      exact next imm' hs' v w.heap.size hle gd.frm.size hp hfp _ w' (fr.put d v (by simpa using hn)) g2
    | panicked c => exact he.elim
    | outgrown => exact he.elim
theorem zHW {f : FuncId} {args : List Value} {v : Value} {w : World} {imm : Imm} (hg : Good ⟨w, imm, []⟩ imm [] w) (h : Ret P f args imm [] (fun _ _ _ u => u = v)) :
    Calls P f args.toArray w fun e w' => e = .returned v ∧ Go.RowKit.Below w.heap.size w w' :=
  (h w hg).mono fun e w' he => by
    cases e with
    | returned u =>
      obtain ⟨i, hs', h1, h2⟩ := he
      subst h1
      exact ⟨rfl, ⟨h2.frm.os, h2.frm.tape, h2.frm.output, h2.frm.size, fun k hk => h2.frm.heap k hk (by simp)⟩⟩
    | panicked c => exact he.elim
    | outgrown => exact he.elim
end
end Go.LN
