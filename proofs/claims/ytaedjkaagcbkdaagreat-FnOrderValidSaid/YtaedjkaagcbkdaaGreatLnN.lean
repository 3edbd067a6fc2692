/- Regions in any order: what touches no memory or reads own blocks is checked at once; only the other operations are shown one by one. -/
import Derived.Test.YtaedjkaagcbkdaaGreatLnM
namespace Go.LN
set_option linter.unusedVariables false
set_option linter.unusedSimpArgs false
abbrev RL {α : Type} [Rp α] (imm : Imm) (cs : List Value) (l : List α) : Prop := RepL (Rp.rep imm) (Rp.sz α) cs l
class MonoI (p : Imm → Prop) : Prop where
  mono : ∀ i j, i.le j → p i → p j
instance zEt {q : Prop} : MonoI (fun _ => q) := ⟨fun _ _ _ h => h⟩
instance zGF {p q : Imm → Prop} [hp : MonoI p] [hq : MonoI q] : MonoI (fun i => p i ∧ q i) := ⟨fun i j hl h => ⟨hp.mono i j hl h.1, hq.mono i j hl h.2⟩⟩
instance zGd {α : Type} {p : Imm → α → Prop} [hp : ∀ x, MonoI (fun i => p i x)] : MonoI (fun i => ∃ x, p i x) := ⟨fun i j hl ⟨x, h⟩ => ⟨x, (hp x).mono i j hl h⟩⟩
instance zGe {α : Type} [Rp α] {v : Value} {l : List α} : MonoI (fun i => SL i v l) := ⟨fun _ _ hl h => h.mono hl⟩
instance zGf {ad : Addr} {cs : List Value} : MonoI (fun i => At i ad cs) := ⟨fun _ _ hl h => h.mono hl⟩
instance zGg {α : Type} [Rp α] {cs : List Value} {l : List α} : MonoI (fun i => RepL (Rp.rep i) (Rp.sz α) cs l) := ⟨fun _ _ hl h => RepL.mono (fun _ _ => Rp.mono hl) h⟩
instance zGG {α : Type} [Rp α] {cs : List Value} {a : α} : MonoI (fun i => Rp.rep i cs a) := ⟨fun _ _ hl h => Rp.mono hl h⟩
inductive It where
  | p (v : Value) (js : List Nat)
  | q (v : Value)
  | x (f : Fact)
def It.fact : It → Fact
  | .p v _ => fun _ u hx => u = v ∧ hx = []
  | .q v => fun _ u hx => u = v ∧ hx = []
  | .x f => f
def gfact (g : List HA) : Fact := fun _ _ hx => hx = g
def factsOf (N : Nat) (its : List It) (gs : List (List HA)) : List Fact := its.map It.fact ++ (List.replicate (N - its.length) nofact ++ gs.map gfact)
def insM (ops : List Oper) (its : List It) : List (Nat × Bool) → FM → Option FM
  | [], m => some m
  | (j, c) :: r, m => match its[j]?, c, dstAt ops j with
    | some (.p v _), false, some d => insM ops its r ((d, v) :: m)
    | some (.q v), false, some d => insM ops its r ((d, v) :: m)
    | _, _, _ => none
def autoL (P : Program) (n : Nat) (ops : List Oper) (hsC : List HA) (m : FM) (its : List It) : Nat → List It → List (List (Nat × Bool)) → Option (List Value × List Nat)
  | _, [], [] => some ([], [])
  | i, .x _ :: r, _ :: ins => autoL P n ops hsC m its (i + 1) r ins
  | i, .q _ :: r, _ :: ins => autoL P n ops hsC m its (i + 1) r ins
  | i, .p _ js :: r, l :: ins => match ops[i]?, insM ops its l m, autoL P n ops hsC m its (i + 1) r ins with
    | some o, some m', some (vs, bs) => match runX P n (ops.take (i + 1)) hsC [o] js m' with
      | some ((_, v) :: _, bs') => some (v :: vs, bs' ++ bs)
      | _ => none
    | _, _, _ => none
  | _, _, _ => none
def valsOf : List It → List Value
  | [] => []
  | .p v _ :: r => v :: valsOf r
  | .x _ :: r => valsOf r
  | .q _ :: r => valsOf r
def blksOf (hs : List HA) : List It → List Nat
  | [] => []
  | .p _ js :: r => js.map (blkAt hs) ++ blksOf hs r
  | .x _ :: r => blksOf hs r
  | .q _ :: r => blksOf hs r
def ObX (P : Program) (n : Nat) (B : Base) (ops : List Oper) (φ : List Fact) (imm : Imm) (hsC : List HA) (m : FM) : Nat → List It → List (List (Nat × Bool)) → Prop
  | _, [], [] => True
  | i, .p _ _ :: r, _ :: ins => ObX P n B ops φ imm hsC m (i + 1) r ins
  | i, .q _ :: r, l :: ins => Obl P n B ops φ imm hsC m i l ∧ ObX P n B ops φ imm hsC m (i + 1) r ins
  | i, .x f :: r, l :: ins => (∀ v hx, MonoI (fun i => f i v hx)) ∧ Obl P n B ops φ imm hsC m i l ∧ ObX P n B ops φ imm hsC m (i + 1) r ins
  | _, _, _ => False
section
variable {P : Program} {n : Nat} {B : Base} {Q : Exit → Act → World → Prop} {imm : Imm} {hs : List HA} {m : FM} {ops : List Oper}
theorem Op {φ : List Fact} {hsC : List HA} {i : Nat} {v : Value} {js : List Nat} {r : List It} {l : List (Nat × Bool)} {ins : List (List (Nat × Bool))} (h : ObX P n B ops φ imm hsC m (i + 1) r ins) : ObX P n B ops φ imm hsC m i (.p v js :: r) (l :: ins) := h
theorem Ox {φ : List Fact} {hsC : List HA} {i : Nat} {f : Fact} {r : List It} {l : List (Nat × Bool)} {ins : List (List (Nat × Bool))}
    (ho : ∀ imm1 hf, imm.le imm1 → Ins ops φ imm1 l m (hsC ++ hf) fun m' hs' => R P n B (ops.take (i + 1)) (OutQ n B (φ.getD i nofact) (dstAt ops i) imm1 (hsC ++ hf)) i imm1 hs' m')
    (h : ObX P n B ops φ imm hsC m (i + 1) r ins) (hm : ∀ v hx, MonoI (fun i => f i v hx) := by
      intro v hx
      repeat' (first | exact zEt | exact zGe | exact zGf | exact zGg | exact zGG | refine @zGd _ _ (fun _ => ?_) | refine @zGF _ _ ?_ ?_)) : ObX P n B ops φ imm hsC m i (.x f :: r) (l :: ins) := ⟨hm, ho, h⟩
theorem Oq {φ : List Fact} {hsC : List HA} {i : Nat} {v : Value} {r : List It} {l : List (Nat × Bool)} {ins : List (List (Nat × Bool))}
    (ho : ∀ imm1 hf, imm.le imm1 → Ins ops φ imm1 l m (hsC ++ hf) fun m' hs' => R P n B (ops.take (i + 1)) (OutQ n B (φ.getD i nofact) (dstAt ops i) imm1 (hsC ++ hf)) i imm1 hs' m')
    (h : ObX P n B ops φ imm hsC m (i + 1) r ins) : ObX P n B ops φ imm hsC m i (.q v :: r) (l :: ins) := ⟨ho, h⟩
theorem On {φ : List Fact} {hsC : List HA} {i : Nat} : ObX P n B ops φ imm hsC m i [] [] := trivial
theorem zF8 {hsC hf : List HA} {ops : List Oper} {j : Nat} {o : Oper} {r : FM × Nat} (h : load1 P n ops hsC j m o = some r) : load1 P n ops (hsC ++ hf) j m o = some r ∧ blkAt (hsC ++ hf) j = blkAt hsC j := by
  obtain ⟨m', b⟩ := r
  obtain ⟨d, t, x, ty, pos, after, g, pb, off, c, cs, v, rfl, rfl, rfl, hg, hn, hj, hv, hle, hc, hlv⟩ := zBf h
  have hlt := (List.getElem?_eq_some_iff.1 hj).1
  have e : (hsC ++ hf)[j]? = hsC[j]? := List.getElem?_append_left hlt
  refine ⟨?_, by simp only [blkAt, e]⟩
  unfold load1 at h ⊢
  simp only [e]
  exact h
theorem zBg {hsC hf : List HA} {ops : List Oper} : ∀ {l : List Oper} {js : List Nat} {m : FM} {r : FM × List Nat}, runX P n ops hsC l js m = some r → runX P n ops (hsC ++ hf) l js m = some r ∧ js.map (blkAt (hsC ++ hf)) = js.map (blkAt hsC)
  | [], js, m, r, h => by
    cases js with
    | nil => exact ⟨h, rfl⟩
    | cons j js => simp only [runX] at h; cases h
  | o :: l, js, m, r, h => by
    simp only [runX] at h ⊢
    split at h
    · rename_i j js' hc
      split at h
      · rename_i m1 b hl
        split at h
        · rename_i m2 bs hx
          cases h
          obtain ⟨k1, k2⟩ := zF8 (hf := hf) hl
          obtain ⟨k3, k4⟩ := zBg (hf := hf) hx
          rw [k1]
          simp only [k3]
          exact ⟨by trivial, by rw [List.map_cons, List.map_cons, k2, k4]⟩
        · cases h
      · cases h
    · cases h
    · rename_i hc
      split at h
      · rename_i m1 hl
        exact zBg h
      · cases h
theorem zCw {φ : List Fact} {its : List It} (hφ : ∀ j it, its[j]? = some it → φ.getD j nofact = it.fact) {K : FM → List HA → Prop} : ∀ {l : List (Nat × Bool)} {m m' : FM}, insM ops its l m = some m' → K m' hs → Ins ops φ imm l m hs K
  | [], m, m', h, hk => by simp only [insM] at h; cases h; exact hk
  | (j, c) :: r, m, m', h, hk => by
    simp only [insM] at h
    split at h
    · rename_i v js d hit hd
      intro u hx hu
      rw [hφ _ _ hit] at hu
      obtain ⟨rfl, rfl⟩ := hu
      simp only [hd]
      exact zCw hφ h hk
    · rename_i v d hit hd
      intro u hx hu
      rw [hφ _ _ hit] at hu
      obtain ⟨rfl, rfl⟩ := hu
      simp only [hd]
      exact zCw hφ h hk
    · cases h
theorem zGH {d : Nat} {v : Value} : look ((d, v) :: m) d = some v := pC ..
theorem zEu {ops : List Oper} {hsC : List HA} {js bs : List Nat} {r : FM} (hr : runX P n ops hsC [] js m = some (r, bs)) : r = m := by
  cases js with
  | nil => simp only [runX] at hr; cases hr; rfl
  | cons a b => simp only [runX] at hr; cases hr
theorem zGh {ops : List Oper} {hsC : List HA} {o : Oper} {js bs : List Nat} {r : FM} (hr : runX P n ops hsC [o] js m = some (r, bs)) : ∃ d u, o.dst = some d ∧ r = (d, u) :: m := by
  simp only [runX] at hr
  split at hr
  · split at hr
    · rename_i m1 b hl
      split at hr
      · rename_i hx
        cases hr
        rw [zEu hx]; exact zCu hl
      · cases hr
    · cases hr
  · cases hr
  · split at hr
    · rename_i m1 hl
      rw [zEu hr]; exact zEK hl
    · cases hr
theorem zGi {φ : List Fact} {its : List It} (hφ : ∀ j it, its[j]? = some it → φ.getD j nofact = it.fact) {hsC : List HA} {i : Nat} {l : List (Nat × Bool)} {o : Oper} {v : Value} {js : List Nat} {m' m2 : FM} {d0 : Nat} {bs : List Nat}
    (hi : its[i]? = some (.p v js)) (ho : ops[i]? = some o) (hm : insM ops its l m = some m') (hr : runX P n (ops.take (i + 1)) hsC [o] js m' = some ((d0, v) :: m2, bs)) (hb : bs = js.map (blkAt hsC)) : Obl P n B ops φ imm hsC m i l := by
  intro imm1 hf le1
  refine zCw hφ hm ?_
  obtain ⟨k1, k2⟩ := zBg (hf := hf) hr
  have hlt := (List.getElem?_eq_some_iff.1 ho).1
  have hd : (ops.take (i + 1)).drop i = [o] := zAO ho
  refine zCv [o] ⟨[], by rw [hd]; rfl⟩ k1 (by rw [hb, k2]) ?_
  obtain ⟨d, u, hd', he⟩ := zGh hr
  rw [List.cons.injEq, Prod.mk.injEq] at he
  obtain ⟨⟨rfl, rfl⟩, rfl⟩ := he
  have hdst : dstAt ops i = some d0 := by simp only [dstAt, ho, hd']
  refine zX (hx := []) ?_ (Imm.le.refl _) rfl (v := v) ?_ ?_
  · rw [List.drop_eq_nil_iff, List.length_take]
    simp only [List.length_cons, List.length_nil]
    omega
  · rw [hdst]; exact zM zGH
  · rw [hφ _ _ hi]; exact ⟨rfl, rfl⟩
theorem dP {φ : List Fact} {its0 : List It} (hφ : ∀ j it, its0[j]? = some it → φ.getD j nofact = it.fact) {hsC : List HA} : ∀ {its : List It} {i : Nat} {ins : List (List (Nat × Bool))} {bs : List Nat}, (∀ j, its0[i + j]? = its[j]?) →
    autoL P n ops hsC m its0 i its ins = some (valsOf its, bs) → bs = blksOf hsC its → ObX P n B ops φ imm hsC m i its ins → Obls P n B ops φ imm hsC m i ins
  | [], i, [], bs, _, _, _, _ => trivial
  | [], i, _ :: _, bs, _, h, _, _ => by simp only [autoL] at h; cases h
  | .p v js :: r, i, [], bs, _, h, _, _ => by simp only [autoL] at h; cases h
  | .x f :: r, i, [], bs, _, h, _, _ => by simp only [autoL] at h; cases h
  | .q v :: r, i, [], bs, _, h, _, _ => by simp only [autoL] at h; cases h
  | .q v :: r, i, l :: ins, bs, hi, h, hb, ho => by
    simp only [autoL] at h
    exact ⟨ho.1, dP hφ (fun j => by have := hi (j + 1); rw [show i + (j + 1) = i + 1 + j from by omega] at this; simpa using this) h hb ho.2⟩
  | .x f :: r, i, l :: ins, bs, hi, h, hb, ho => by
    simp only [autoL] at h
    exact ⟨ho.2.1, dP hφ (fun j => by have := hi (j + 1); rw [show i + (j + 1) = i + 1 + j from by omega] at this; simpa using this) h hb ho.2.2⟩
  | .p v js :: r, i, l :: ins, bs, hi, h, hb, ho => by
    simp only [autoL] at h
    split at h
    · rename_i o m' vs bs2 h1 h2 h3
      split at h
      · rename_i d0 v0 m2 bs' h4
        simp only [Option.some.injEq, Prod.mk.injEq, valsOf, List.cons.injEq] at h
        obtain ⟨⟨rfl, rfl⟩, rfl⟩ := h
        have hlen : bs'.length = js.length := by
          have : ∀ {l : List Oper} {js : List Nat} {m : FM} {r : FM} {bs : List Nat}, runX P n (ops.take (i + 1)) hsC l js m = some (r, bs) → bs.length = js.length := by
            intro l
            induction l with
            | nil => intro js m r bs h; cases js <;> simp only [runX] at h <;> cases h; rfl
            | cons o l ih =>
              intro js m r bs h
              simp only [runX] at h
              split at h
              · split at h
                · split at h
                  · rename_i hx; cases h; simp [ih hx]
                  · cases h
                · cases h
              · cases h
              · split at h
                · exact ih h
                · cases h
          exact this h4
        simp only [blksOf] at hb
        obtain ⟨hb1, hb2⟩ := List.append_inj hb (by rw [List.length_map]; exact hlen)
        have hi0 : its0[i]? = some (.p v0 js) := by have := hi 0; simpa using this
        exact ⟨zGi hφ hi0 h1 h2 h4 hb1, dP hφ (fun j => by have := hi (j + 1); rw [show i + (j + 1) = i + 1 + j from by omega] at this; simpa using this) h3 hb2 ho⟩
      · cases h
    · cases h
theorem monoX {φ : List Fact} {hsC : List HA} : ∀ {its : List It} {i : Nat} {ins : List (List (Nat × Bool))}, ObX P n B ops φ imm hsC m i its ins → MonoL (its.map It.fact)
  | [], _, _, _ => trivial
  | .p v js :: r, _, [], h => h.elim
  | .x f :: r, _, [], h => h.elim
  | .q v :: r, _, [], h => h.elim
  | .q v :: r, _, l :: ins, h => ⟨fun _ _ _ _ _ h => h, monoX (its := r) h.2⟩
  | .p v js :: r, _, l :: ins, h => ⟨fun _ _ _ _ _ h => h, monoX (its := r) h⟩
  | .x f :: r, _, l :: ins, h => ⟨fun i j v hx hl hh => (h.1 v hx).mono i j hl hh, monoX (its := r) h.2.2⟩
theorem gZ : ∀ {a b : List Fact}, MonoL a → MonoL b → MonoL (a ++ b)
  | [], _, _, h => h
  | _ :: _, _, h, h' => ⟨h.1, gZ h.2 h'⟩
theorem zEM : ∀ k, MonoL (List.replicate k nofact)
  | 0 => trivial
  | k + 1 => ⟨fun _ _ _ _ _ h => h, zEM k⟩
theorem zFn : ∀ gs : List (List HA), MonoL (gs.map gfact)
  | [] => trivial
  | _ :: gs => ⟨fun _ _ _ _ _ h => h, zFn gs⟩
theorem zEv : ∀ {gs : List (List HA)} {φ : List Fact} {k : Nat}, (∀ j g, gs[j]? = some g → φ.getD (k + j) nofact = gfact g) → BaseG φ imm k gs
  | [], _, _, _ => trivial
  | g :: gs, φ, k, h => ⟨by have := h 0 g (by simp); rw [Nat.add_zero] at this; rw [this]; rfl, zEv fun j g' hj => by have := h (j + 1) g' (by simpa using hj); rwa [show k + (j + 1) = k + 1 + j from by omega] at this⟩
theorem vZ {id : Nat} (its : List It) (ins : List (List (Nat × Bool))) (hsC : List HA) (gs : List (List HA)) (fin : List (Nat × Bool)) (hhs : ∀ w, Good B imm hs w → Good B imm (hsC ++ gs.flatten) w)
    (hob : ObX P n B ops (factsOf ops.length its gs) imm hsC m 0 its ins)
    (hend : ∀ imm1, imm.le imm1 → Ins ops (factsOf ops.length its gs) imm1 fin m hsC fun m' hs' => R P n B ops Q its.length imm1 hs' m')
    (ha : autoL P n ops hsC m its 0 its ins = some (valsOf its, blksOf hsC its) := by kernel_rfl)
    (hm : P.follows .mixedOrders = true := by kernel_rfl) (hc : anyChk ops n its.length gs.length ins (m.map (·.1)) = true := by kernel_rfl) (hf : finChk ops its.length gs.length ins fin = true := by kernel_rfl) :
    J P n B (.region id ops.toArray true) Q imm hs m := by
  have hφ : ∀ j it, its[j]? = some it → (factsOf ops.length its gs).getD j nofact = it.fact := fun j it hj => by
    have hlt := (List.getElem?_eq_some_iff.1 hj).1
    unfold factsOf
    rw [List.getD_eq_getElem?_getD, List.getElem?_append_left (by rw [List.length_map]; exact hlt), List.getElem?_map, hj]
    rfl
  have hle : its.length ≤ ops.length := (AnyOk.mk' hc).le
  refine zEY its.length ins (factsOf ops.length its gs) hsC gs fin hm hc hf hhs (gZ (monoX hob) (gZ (zEM _) (zFn gs))) (zEv fun j g hj => ?_)
    (dP hφ (fun j => by rw [Nat.zero_add]) ha rfl hob) hend
  unfold factsOf
  rw [List.getD_eq_getElem?_getD, List.getElem?_append_right (by rw [List.length_map]; omega), List.getElem?_append_right (by rw [List.length_map, List.length_replicate]; omega), List.length_map, List.length_replicate, List.getElem?_map,
    show ops.length + j - its.length - (ops.length - its.length) = j from by omega, hj]
  rfl
/-! Short forms. -/
abbrev W : Int → Int := IntKind.i64.wrap
theorem yU {e : Exit} (m' : FM) (h : T n B Q e imm hs m') (hk : keep m (m'.map (·.1)) = some m' := by kernel_rfl) : T n B Q e imm hs m := zG3 (eE hk) h
theorem uA {c : Code} (m' : FM) (h : J P n B c Q imm hs m') (hk : keep m (m'.map (·.1)) = some m' := by kernel_rfl) : J P n B c Q imm hs m := zG2 (eE hk) h
theorem yP {x : Operand} {p q : Code} {c : Bool} {α : Type} {X Y : Option α} {r : α} (hM : (if c = true then X else Y) = some r)
    (ht : c = true → X = some r → J P n B p Q imm hs m) (hf : c = false → Y = some r → J P n B q Q imm hs m) (hc : val m x = some (.bool c) := by kernel_rfl) : J P n B (.cond x p q) Q imm hs m := zHn hc hM ht hf
end
end Go.LN
