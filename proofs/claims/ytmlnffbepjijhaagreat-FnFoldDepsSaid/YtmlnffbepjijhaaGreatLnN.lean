/- Helper of the proof (see the last text). -/
import Derived.Test.YtmlnffbepjijhaaGreatLnH
import Derived.Laws.BitsLemmas
import Derived.Sort.Grow
import Derived.Lib.LaidTab
import Derived.Lib.ItoaNum
import Derived.Lib.ItoaMem
import Derived.Sort.Row
import Derived.Lib.AtoiErrMem
import Derived.Lib.AtoiTie
import Derived.Lib.SplitLaws
import Derived.Lib.AtoiAll
set_option linter.unusedVariables false
set_option linter.unusedSimpArgs false
namespace Go.LN
abbrev RL {α : Type} [Rp α] (imm : Imm) (cs : List Value) (l : List α) : Prop := RepL (Rp.rep imm) (Rp.sz α) cs l
class MonoI (p : Imm -> Prop) : Prop where
  mono : ∀ i j, i.le j -> p i -> p j
instance zHK {q : Prop} : MonoI (fun _ => q) := ⟨fun _ _ _ h => h⟩
instance zJX {p q : Imm -> Prop} [hp : MonoI p] [hq : MonoI q] : MonoI (fun i => p i /\ q i) := ⟨fun i j hl h => ⟨hp.mono i j hl h.1, hq.mono i j hl h.2⟩⟩
instance zKQ {α : Type} {p : Imm -> α -> Prop} [hp : ∀ x, MonoI (fun i => p i x)] : MonoI (fun i => ∃ x, p i x) := ⟨fun i j hl ⟨x, h⟩ => ⟨x, (hp x).mono i j hl h⟩⟩
instance zMk {α : Type} [Rp α] {v : Value} {l : List α} : MonoI (fun i => SL i v l) := ⟨fun _ _ hl h => h.mono hl⟩
instance zMl {ad : Addr} {cs : List Value} : MonoI (fun i => At i ad cs) := ⟨fun _ _ hl h => h.mono hl⟩
instance zMm {α : Type} [Rp α] {cs : List Value} {l : List α} : MonoI (fun i => RepL (Rp.rep i) (Rp.sz α) cs l) := ⟨fun _ _ hl h => RepL.mono (fun _ _ => Rp.mono hl) h⟩
instance zMK {α : Type} [Rp α] {cs : List Value} {a : α} : MonoI (fun i => Rp.rep i cs a) := ⟨fun _ _ hl h => Rp.mono hl h⟩
def FP {α : Type} [Rp α] (imm : Imm) (v : Value) (o : Option α) : Prop := match o with
  | none => v = .pointer none
  | some x => ∃ ad cs, v = .pointer (some ad) /\ At imm ad cs /\ Rp.rep imm cs x
theorem FP.mono {α : Type} [Rp α] {imm aq : Imm} {v : Value} {o : Option α} (h : FP imm v o) (hl : imm.le aq) : FP aq v o := by
  cases o with
  | none => exact h
  | some x =>
    obtain ⟨ad, cs, e, h1, h2⟩ := h
    exact ⟨ad, cs, e, h1.mono hl, Rp.mono hl h2⟩
theorem zO6 {α : Type} [Rp α] {imm : Imm} : FP imm (.pointer none) (none : Option α) := rfl
theorem zPA {α : Type} [Rp α] {imm : Imm} {ad : Addr} {cs : List Value} {x : α} (h : At imm ad cs) (hr : Rp.rep imm cs x) : FP imm (.pointer (some ad)) (some x) := ⟨ad, cs, rfl, h, hr⟩
theorem zJj {α : Type} [Rp α] {imm : Imm} {v : Value} {o : Option α} {x : α} (h : FP imm v o) (e : o = some x) : ∃ ad cs, v = .pointer (some ad) /\ At imm ad cs /\ Rp.rep imm cs x := by subst e; exact h
instance zMn {α : Type} [Rp α] {v : Value} {o : Option α} : MonoI (fun i => FP i v o) := ⟨fun _ _ hl h => h.mono hl⟩
inductive It where
  | p (v : Value) (js : List Nat)
  | q (v : Value)
  | x (f : Fact)
def It.fact : It -> Fact
  | .p v _ => fun _ u hx => u = v /\ hx = []
  | .q v => fun _ u hx => u = v /\ hx = []
  | .x f => f
def gfact (g : List HA) : Fact := fun _ _ hx => hx = g
def factsOf (N : Nat) (its : List It) (gs : List (List HA)) : List Fact := its.map It.fact++(List.replicate (N - its.length) nofact++gs.map gfact)
def insM (af : List Oper) (its : List It) : List (Nat × Bool) -> FM -> Option FM
  | [], m => some m
  | (j, c) :: r, m => match its[j]?, c, dstAt af j with
    | some (.p v _), false, some d => insM af its r ((d, v) :: m)
    | some (.q v), false, some d => insM af its r ((d, v) :: m)
    | _, _, _ => none
def autoL (P : Program) (n : Nat) (af : List Oper) (hsC : List HA) (m : FM) (its : List It) : Nat -> List It -> List (List (Nat × Bool)) -> Option (List Value × List Nat)
  | _, [], [] => some ([], [])
  | i, .x _ :: r, _ :: ins => autoL P n af hsC m its (i+1) r ins
  | i, .q _ :: r, _ :: ins => autoL P n af hsC m its (i+1) r ins
  | i, .p _ js :: r, l :: ins => match af[i]?, insM af its l m, autoL P n af hsC m its (i+1) r ins with
    | some o, some m', some (vs, bs) => match runX P n (af.take (i+1)) hsC [o] js m' with
      | some ((_, v) :: _, bs') => some (v :: vs, bs'++bs)
      | _ => none
    | _, _, _ => none
  | _, _, _ => none
def valsOf : List It -> List Value
  | [] => []
  | .p v _ :: r => v :: valsOf r
  | .x _ :: r => valsOf r
  | .q _ :: r => valsOf r
def blksOf (hs : List HA) : List It -> List Nat
  | [] => []
  | .p _ js :: r => js.map (blkAt hs)++blksOf hs r
  | .x _ :: r => blksOf hs r
  | .q _ :: r => blksOf hs r
def ObX (P : Program) (n : Nat) (B : Base) (af : List Oper) (φ : List Fact) (imm : Imm) (hsC : List HA) (m : FM) : Nat -> List It -> List (List (Nat × Bool)) -> Prop
  | _, [], [] => True
  | i, .p _ _ :: r, _ :: ins => ObX P n B af φ imm hsC m (i+1) r ins
  | i, .q _ :: r, l :: ins => Obl P n B af φ imm hsC m i l /\ ObX P n B af φ imm hsC m (i+1) r ins
  | i, .x f :: r, l :: ins => (∀ v hx, MonoI (fun i => f i v hx)) /\ Obl P n B af φ imm hsC m i l /\ ObX P n B af φ imm hsC m (i+1) r ins
  | _, _, _ => False
section
variable {P : Program} {n : Nat} {B : Base} {Q : Exit -> Act -> World -> Prop} {imm : Imm} {hs : List HA} {m : FM} {af : List Oper}
theorem Op {φ : List Fact} {hsC : List HA} {i : Nat} {v : Value} {js : List Nat} {r : List It} {l : List (Nat × Bool)} {ins : List (List (Nat × Bool))} (h : ObX P n B af φ imm hsC m (i+1) r ins) : ObX P n B af φ imm hsC m i (.p v js :: r) (l :: ins) := h
theorem Ox {φ : List Fact} {hsC : List HA} {i : Nat} {f : Fact} {r : List It} {l : List (Nat × Bool)} {ins : List (List (Nat × Bool))}
    (ho : ∀ imm1 hf, imm.le imm1 -> Ins af φ imm1 l m (hsC++hf) fun m' ah => R P n B (af.take (i+1)) (OutQ n B (φ.getD i nofact) (dstAt af i) imm1 (hsC++hf)) i imm1 ah m')
    (h : ObX P n B af φ imm hsC m (i+1) r ins) (hm : ∀ v hx, MonoI (fun i => f i v hx) := by
      intro v hx
      repeat' (first | exact zHK | exact zMn | exact zMk | exact zMl | exact zMm | exact zMK | refine @zKQ _ _ (fun _ => ?_) | refine @zJX _ _ ?_ ?_)) : ObX P n B af φ imm hsC m i (.x f :: r) (l :: ins) := ⟨hm, fun imm1 hf hl _ => ho imm1 hf hl, h⟩
theorem Oq {φ : List Fact} {hsC : List HA} {i : Nat} {v : Value} {r : List It} {l : List (Nat × Bool)} {ins : List (List (Nat × Bool))}
    (ho : ∀ imm1 hf, imm.le imm1 -> Ins af φ imm1 l m (hsC++hf) fun m' ah => R P n B (af.take (i+1)) (OutQ n B (φ.getD i nofact) (dstAt af i) imm1 (hsC++hf)) i imm1 ah m')
    (h : ObX P n B af φ imm hsC m (i+1) r ins) : ObX P n B af φ imm hsC m i (.q v :: r) (l :: ins) := ⟨fun imm1 hf hl _ => ho imm1 hf hl, h⟩
theorem Ob {φ : List Fact} {hsC : List HA} {i : Nat} {v : Value} {r : List It} {l : List (Nat × Bool)} {ins : List (List (Nat × Bool))}
    (ho : ∀ imm1 hf, imm.le imm1 -> Bor af φ imm1 l hf -> Ins af φ imm1 l m (hsC++hf) fun m' ah => R P n B (af.take (i+1)) (OutQ n B (φ.getD i nofact) (dstAt af i) imm1 (hsC++hf)) i imm1 ah m')
    (h : ObX P n B af φ imm hsC m (i+1) r ins) : ObX P n B af φ imm hsC m i (.q v :: r) (l :: ins) := ⟨ho, h⟩
theorem Bor.at {φ : List Fact} {l : List (Nat × Bool)} {hf : List HA} {j : Nat} (h : Bor af φ imm l hf) (hj : (j, false)∈l) (hN : Nat.ble af.length j = true) {g : List HA} (hg : φ.getD j nofact = gfact g) : ∃ hf', hf.Perm (g++hf') := by
  obtain ⟨v, hx, hf', h1, h2⟩ := h _ hj rfl (cF hN)
  rw [hg] at h1
  have h1 : hx = g := h1
  subst h1
  exact ⟨hf', h2⟩
theorem On {φ : List Fact} {hsC : List HA} {i : Nat} : ObX P n B af φ imm hsC m i [] [] := trivial
theorem zLO {hsC hf : List HA} {af : List Oper} {j : Nat} {o : Oper} {r : FM × Nat} (h : load1 P n af hsC j m o = some r) : load1 P n af (hsC++hf) j m o = some r /\ blkAt (hsC++hf) j = blkAt hsC j := by
  obtain ⟨m', b⟩ := r
  obtain ⟨d, t, x, ty, pos, after, g, pb, off, c, cs, v, rfl, rfl, rfl, hg, hn, hj, hv, bK, hc, hlv⟩ := zG4 h
  have aN := (ci.1 hj).1
  have e : (hsC++hf)[j]? = hsC[j]? := fe aN
  refine ⟨?_, by simp only [blkAt, e]⟩
  unfold load1 at h ⊢
  simp only [e]
  exact h
theorem zG5 {hsC hf : List HA} {af : List Oper} : ∀ {l : List Oper} {js : List Nat} {m : FM} {r : FM × List Nat}, runX P n af hsC l js m = some r -> runX P n af (hsC++hf) l js m = some r /\ js.map (blkAt (hsC++hf)) = js.map (blkAt hsC)
  | [], js, m, r, h => by
    cases js with
    | nil => exact ⟨h, rfl⟩
    | cons j js => simp only [runX] at h; cases h
  | o :: l, js, m, r, h => by
    simp only [runX] at h ⊢
    split at h
    · rename_i j js' hc
      split at h
      · rename_i m1 b hl
        split at h
        · rename_i m2 bs hx
          cases h
          obtain ⟨k1, k2⟩ := zLO (hf := hf) hl
          obtain ⟨k3, k4⟩ := zG5 (hf := hf) hx
          rw [k1]
          simp only [k3]
          exact ⟨by trivial, by rw [cS, cS, k2, k4]⟩
        · cases h
      · cases h
    · cases h
    · rename_i hc
      split at h
      · rename_i m1 hl
        exact zG5 h
      · cases h
theorem zFb {φ : List Fact} {its : List It} (hφ : ∀ j it, its[j]? = some it -> φ.getD j nofact = it.fact) {K : FM -> List HA -> Prop} : ∀ {l : List (Nat × Bool)} {m m' : FM}, insM af its l m = some m' -> K m' hs -> Ins af φ imm l m hs K
  | [], m, m', h, hk => by simp only [insM] at h; cases h; exact hk
  | (j, c) :: r, m, m', h, hk => by
    simp only [insM] at h
    split at h
    · rename_i v js d hit hd
      intro u hx hu
      rw [hφ _ _ hit] at hu
      obtain ⟨rfl, rfl⟩ := hu
      simp only [hd]
      exact zFb hφ h hk
    · rename_i v d hit hd
      intro u hx hu
      rw [hφ _ _ hit] at hu
      obtain ⟨rfl, rfl⟩ := hu
      simp only [hd]
      exact zFb hφ h hk
    · cases h
theorem zML {d : Nat} {v : Value} : look ((d, v) :: m) d = some v := gS ..
theorem zKR {af : List Oper} {hsC : List HA} {js bs : List Nat} {r : FM} (hr : runX P n af hsC [] js m = some (r, bs)) : r = m := by
  cases js with
  | nil => simp only [runX] at hr; cases hr; rfl
  | cons a b => simp only [runX] at hr; cases hr
theorem zMo {af : List Oper} {hsC : List HA} {o : Oper} {js bs : List Nat} {r : FM} (hr : runX P n af hsC [o] js m = some (r, bs)) : ∃ d u, o.dst = some d /\ r = (d, u) :: m := by
  simp only [runX] at hr
  split at hr
  · split at hr
    · rename_i m1 b hl
      split at hr
      · rename_i hx
        cases hr
        rw [zKR hx]; exact zHz hl
      · cases hr
    · cases hr
  · cases hr
  · split at hr
    · rename_i m1 hl
      rw [zKR hr]; exact zJV hl
    · cases hr
theorem zMp {φ : List Fact} {its : List It} (hφ : ∀ j it, its[j]? = some it -> φ.getD j nofact = it.fact) {hsC : List HA} {i : Nat} {l : List (Nat × Bool)} {o : Oper} {v : Value} {js : List Nat} {m' m2 : FM} {d0 : Nat} {bs : List Nat}
    (hi : its[i]? = some (.p v js)) (ho : af[i]? = some o) (hm : insM af its l m = some m') (hr : runX P n (af.take (i+1)) hsC [o] js m' = some ((d0, v) :: m2, bs)) (hb : bs = js.map (blkAt hsC)) : Obl P n B af φ imm hsC m i l := by
  intro imm1 hf ae _
  refine zFb hφ hm ?_
  obtain ⟨k1, k2⟩ := zG5 (hf := hf) hr
  have aN := (ci.1 ho).1
  have hd : (af.take (i+1)).drop i = [o] := zEh ho
  refine zIB [o] ⟨[], by rw [hd]; rfl⟩ k1 (by rw [hb, k2]) ?_
  obtain ⟨d, u, hd', he⟩ := zMo hr
  rw [List.cons.injEq, Prod.mk.injEq] at he
  obtain ⟨⟨rfl, rfl⟩, rfl⟩ := he
  have hdst : dstAt af i = some d0 := by simp only [dstAt, ho, hd']
  refine zHw (hx := []) ?_ (Imm.le.refl _) rfl (v := v) ?_ ?_
  · rw [dg, cD]
    simp only [cy, cT]
    omega
  · rw [hdst]; exact zHx zML
  · rw [hφ _ _ hi]; exact ⟨rfl, rfl⟩
theorem zEQ {φ : List Fact} {its0 : List It} (hφ : ∀ j it, its0[j]? = some it -> φ.getD j nofact = it.fact) {hsC : List HA} : ∀ {its : List It} {i : Nat} {ins : List (List (Nat × Bool))} {bs : List Nat}, (∀ j, its0[i+j]? = its[j]?) ->
    autoL P n af hsC m its0 i its ins = some (valsOf its, bs) -> bs = blksOf hsC its -> ObX P n B af φ imm hsC m i its ins -> Obls P n B af φ imm hsC m i ins
  | [], i, [], bs, _, _, _, _ => trivial
  | [], i, _ :: _, bs, _, h, _, _ => by simp only [autoL] at h; cases h
  | .p v js :: r, i, [], bs, _, h, _, _ => by simp only [autoL] at h; cases h
  | .x f :: r, i, [], bs, _, h, _, _ => by simp only [autoL] at h; cases h
  | .q v :: r, i, [], bs, _, h, _, _ => by simp only [autoL] at h; cases h
  | .q v :: r, i, l :: ins, bs, hi, h, hb, ho => by
    simp only [autoL] at h
    exact ⟨ho.1, zEQ hφ (fun j => by have := hi (j+1); rw [show i+(j+1) = i+1+j from by omega] at this; simpa using this) h hb ho.2⟩
  | .x f :: r, i, l :: ins, bs, hi, h, hb, ho => by
    simp only [autoL] at h
    exact ⟨ho.2.1, zEQ hφ (fun j => by have := hi (j+1); rw [show i+(j+1) = i+1+j from by omega] at this; simpa using this) h hb ho.2.2⟩
  | .p v js :: r, i, l :: ins, bs, hi, h, hb, ho => by
    simp only [autoL] at h
    split at h
    · rename_i o m' vs bs2 h1 h2 h3
      split at h
      · rename_i d0 v0 m2 bs' h4
        simp only [Option.some.injEq, Prod.mk.injEq, valsOf, List.cons.injEq] at h
        obtain ⟨⟨rfl, rfl⟩, rfl⟩ := h
        have br : bs'.length = js.length := by
          have : ∀ {l : List Oper} {js : List Nat} {m : FM} {r : FM} {bs : List Nat}, runX P n (af.take (i+1)) hsC l js m = some (r, bs) -> bs.length = js.length := by
            intro l
            induction l with
            | nil => intro js m r bs h; cases js <;> simp only [runX] at h <;> cases h; rfl
            | cons o l ih =>
              intro js m r bs h
              simp only [runX] at h
              split at h
              · split at h
                · split at h
                  · rename_i hx; cases h; simp [ih hx]
                  · cases h
                · cases h
              · cases h
              · split at h
                · exact ih h
                · cases h
          exact this h4
        simp only [blksOf] at hb
        obtain ⟨hb1, hb2⟩ := List.append_inj hb (by rw [cI]; exact br)
        have hi0 : its0[i]? = some (.p v0 js) := by have := hi 0; simpa using this
        exact ⟨zMp hφ hi0 h1 h2 h4 hb1, zEQ hφ (fun j => by have := hi (j+1); rw [show i+(j+1) = i+1+j from by omega] at this; simpa using this) h3 hb2 ho⟩
      · cases h
    · cases h
theorem monoX {φ : List Fact} {hsC : List HA} : ∀ {its : List It} {i : Nat} {ins : List (List (Nat × Bool))}, ObX P n B af φ imm hsC m i its ins -> MonoL (its.map It.fact)
  | [], _, _, _ => trivial
  | .p v js :: r, _, [], h => h.elim
  | .x f :: r, _, [], h => h.elim
  | .q v :: r, _, [], h => h.elim
  | .q v :: r, _, l :: ins, h => ⟨fun _ _ _ _ _ h => h, monoX (its := r) h.2⟩
  | .p v js :: r, _, l :: ins, h => ⟨fun _ _ _ _ _ h => h, monoX (its := r) h⟩
  | .x f :: r, _, l :: ins, h => ⟨fun i j v hx hl hh => (h.1 v hx).mono i j hl hh, monoX (its := r) h.2.2⟩
theorem zCq : ∀ {a b : List Fact}, MonoL a -> MonoL b -> MonoL (a++b)
  | [], _, _, h => h
  | _ :: _, _, h, h' => ⟨h.1, zCq h.2 h'⟩
theorem zJY : ∀ k, MonoL (List.replicate k nofact)
  | 0 => trivial
  | k+1 => ⟨fun _ _ _ _ _ h => h, zJY k⟩
theorem zLj : ∀ gs : List (List HA), MonoL (gs.map gfact)
  | [] => trivial
  | _ :: gs => ⟨fun _ _ _ _ _ h => h, zLj gs⟩
theorem zKS : ∀ {gs : List (List HA)} {φ : List Fact} {k : Nat}, (∀ j g, gs[j]? = some g -> φ.getD (k+j) nofact = gfact g) -> BaseG φ imm k gs
  | [], _, _, _ => trivial
  | g :: gs, φ, k, h => ⟨by have := h 0 g (by simp); rw [Nat.add_zero] at this; rw [this]; rfl, zKS fun j g' hj => by have := h (j+1) g' (by simpa using hj); rwa [show k+(j+1) = k+1+j from by omega] at this⟩
theorem wV {id : Nat} (its : List It) (ins : List (List (Nat × Bool))) (hsC : List HA) (gs : List (List HA)) (fin : List (Nat × Bool)) (hhs : ∀ w, Good B imm hs w -> Good B imm (hsC++gs.flatten) w)
    (hob : ObX P n B af (factsOf af.length its gs) imm hsC m 0 its ins)
    (hend : ∀ imm1, imm.le imm1 -> Ins af (factsOf af.length its gs) imm1 fin m hsC fun m' ah => R P n B af Q its.length imm1 ah m')
    (ha : autoL P n af hsC m its 0 its ins = some (valsOf its, blksOf hsC its) := by kernel_rfl)
    (hm : P.follows .mixedOrders = true := by kernel_rfl) (hc : anyChk af n its.length gs.length ins (m.map (·.1)) = true := by kernel_rfl) (hf : finChk af its.length gs.length ins fin = true := by kernel_rfl) :
    J P n B (.region id af.toArray true) Q imm hs m := by
  have hφ : ∀ j it, its[j]? = some it -> (factsOf af.length its gs).getD j nofact = it.fact := fun j it hj => by
    have aN := (ci.1 hj).1
    unfold factsOf
    rw [ef, fe (by rw [cI]; exact aN), dn, hj]
    rfl
  have bK : its.length<=af.length := (AnyOk.mk' hc).le
  refine zJg its.length ins (factsOf af.length its gs) hsC gs fin hm hc hf hhs (zCq (monoX hob) (zCq (zJY _) (zLj gs))) (zKS fun j g hj => ?_)
    (zEQ hφ (fun j => by rw [cC]) ha rfl hob) hend
  unfold factsOf
  rw [ef, List.getElem?_append_right (by rw [cI]; omega), List.getElem?_append_right (by rw [cI, List.length_replicate]; omega), cI, List.length_replicate, dn,
    show af.length+j - its.length - (af.length - its.length) = j from by omega, hj]
  rfl
abbrev W : Int -> Int := IntKind.i64.wrap
theorem T_w {e : Exit} (m' : FM) (h : T n B Q e imm hs m') (hk : keep m (m'.map (·.1)) = some m' := by kernel_rfl) : T n B Q e imm hs m := zMa (zCW hk) h
theorem pM {c : Code} (m' : FM) (h : J P n B c Q imm hs m') (hk : keep m (m'.map (·.1)) = some m' := by kernel_rfl) : J P n B c Q imm hs m := zM9 (zCW hk) h
theorem yE {x : Operand} {p q : Code} {c : Bool} {α : Type} {X Y : Option α} {r : α} (hM : (if c = true then X else Y) = some r)
    (ht : c = true -> X = some r -> J P n B p Q imm hs m) (hf : c = false -> Y = some r -> J P n B q Q imm hs m) (hc : val m x = some (.bool c) := by kernel_rfl) : J P n B (.cond x p q) Q imm hs m := zOW hc hM ht hf
end
end Go.LN
namespace Go.LN
section
variable {P : Program} {n : Nat} {B : Base} {Q : Exit -> Act -> World -> Prop} {imm : Imm} {hs : List HA} {m : FM} {af : List Oper} {pc d : Nat} {ty : TypeId} {pos : String} {after : Array Edge} {g : Option (Nat × Bool)}
theorem xP {t : TypeId} {x : Operand} {ad : Addr} {cs : List Value} (o : Nat) (ap : At imm ad cs) (cs' : List Value) (v : Value) (ho : af[pc]? = some ⟨some d, .load t x, ty, pos, after, g⟩) (next : R P n B af Q (pc+1) imm hs ((d, v) :: m)) (hg : guardB af m g = some true := by kernel_rfl) (hn : Nat.blt d n = true := by kernel_rfl) (hx : val m x = some (.pointer (some (ad.add o))) := by kernel_rfl) (bV : Nat.ble o cs.length = true := by kernel_rfl) (hc : (cs.drop o).take cs'.length = cs' := by kernel_rfl) (hv : loadV P t cs' = some v := by kernel_rfl) : R P n B af Q pc imm hs m :=
  zMH o ho hg hn ap hx bV hc hv next
theorem zB3 {t : TypeId} {x : Operand} {ad : Addr} {cs : List Value} (o : Nat) (ap : At imm ad cs) (cs' : List Value) (v : Value) (ho : af[pc]? = some ⟨some d, .load t x, ty, pos, after, g⟩) (next : Rq P n B af Q (pc+1) imm hs ((d, v) :: m)) (hg : guardB af m g = some true := by kernel_rfl) (hn : Nat.blt d n = true := by kernel_rfl) (hx : val m x = some (.pointer (some (ad.add o))) := by kernel_rfl) (bV : Nat.ble o cs.length = true := by kernel_rfl) (hc : (cs.drop o).take cs'.length = cs' := by kernel_rfl) (hv : loadV P t cs' = some v := by kernel_rfl) : Rq P n B af Q pc imm hs m :=
  zLK o ho hg hn ap hx bV hc hv next
theorem wA {α : Type} [Rp α] {t : TypeId} {x xi : Operand} {v : Value} {k : IntKind} {i : Int} {l : List α} {y : α} (ho : af[pc]? = some ⟨some d, .indexAddr t x xi, ty, pos, after, g⟩) (hi : val m xi = some (.int k i)) (ah : SL imm v l) (hy : idx l i = some y) (next : ∀ ad aK, At imm ad aK -> Rp.rep imm aK y -> R P n B af Q (pc+1) imm hs ((d, .pointer (some ad)) :: m)) (hg : guardB af m g = some true := by kernel_rfl) (hn : Nat.blt d n = true := by kernel_rfl) (hx : val m x = some v := by kernel_rfl) (ht : elemT P t = some (Rp.sz α) := by kernel_rfl) : R P n B af Q pc imm hs m :=
  zNe ho hg hn hx hi ht ah hy next
theorem zCY {α : Type} [Rp α] {t : TypeId} {x xi : Operand} {v : Value} {k : IntKind} {i : Int} {l : List α} {y : α} (ho : af[pc]? = some ⟨some d, .indexAddr t x xi, ty, pos, after, g⟩) (hi : val m xi = some (.int k i)) (ah : SL imm v l) (hy : idx l i = some y) (next : ∀ ad aK, At imm ad aK -> Rp.rep imm aK y -> Rq P n B af Q (pc+1) imm hs ((d, .pointer (some ad)) :: m)) (hg : guardB af m g = some true := by kernel_rfl) (hn : Nat.blt d n = true := by kernel_rfl) (hx : val m x = some v := by kernel_rfl) (ht : elemT P t = some (Rp.sz α) := by kernel_rfl) : Rq P n B af Q pc imm hs m :=
  zMg ho hg hn hx hi ht ah hy next
theorem jH {α : Type} [Rp α] {t : TypeId} {x xi : Operand} {v : Value} {k : IntKind} {i : Int} {cs : List Value} {l : List α} {y : α} (j : Nat) (ho : af[pc]? = some ⟨some d, .indexAddr t x xi, ty, pos, after, g⟩) (hi : val m xi = some (.int k i)) (hj : hs[j]? = some (.osl v (Rp.sz α) cs)) (hr : RepL (Rp.rep imm) (Rp.sz α) cs l) (hy : idx l i = some y) (next : ∀ ad cc, AtO v (Rp.sz α) i.toNat ad -> (cs.drop (i.toNat*Rp.sz α)).take (Rp.sz α) = cc -> Rp.rep imm cc y -> R P n B af Q (pc+1) imm hs ((d, .pointer (some ad)) :: m)) (hg : guardB af m g = some true := by kernel_rfl) (hn : Nat.blt d n = true := by kernel_rfl) (hx : val m x = some v := by kernel_rfl) (ht : elemT P t = some (Rp.sz α) := by kernel_rfl) : R P n B af Q pc imm hs m :=
  zKG j ho hg hn hj hx hi ht hr hy next
theorem zEV {t : TypeId} {x : Operand} {v0 : Value} {sz i : Nat} {ad : Addr} {cs cc : List Value} (j o : Nat) (ap : AtO v0 sz i ad) (bJ : (cs.drop (i*sz)).take sz = cc) (cc' : List Value) (v : Value) (ho : af[pc]? = some ⟨some d, .load t x, ty, pos, after, g⟩) (hj : hs[j]? = some (.osl v0 sz cs)) (next : R P n B af Q (pc+1) imm hs ((d, v) :: m)) (hg : guardB af m g = some true := by kernel_rfl) (hn : Nat.blt d n = true := by kernel_rfl) (hx : val m x = some (.pointer (some (ad.add o))) := by kernel_rfl) (bV : Nat.ble (o+cc'.length) sz = true := by kernel_rfl) (hc : (cc.drop o).take cc'.length = cc' := by kernel_rfl) (hv : loadV P t cc' = some v := by kernel_rfl) : R P n B af Q pc imm hs m :=
  zLG j o ho hg hn hj ap hx bJ bV hc hv next
theorem zPB {α : Type} [Rp α] {t : TypeId} {x : Operand} {lo hi : Option Operand} {v : Value} {i k : Int} {l l' : List α} (ho : af[pc]? = some ⟨some d, .slice t x lo hi none, ty, pos, after, g⟩) (ah : SL imm v l) (hy : slc l i k = some l') (next : ∀ v', SL imm v' l' -> R P n B af Q (pc+1) imm hs ((d, v') :: m)) (hg : guardB af m g = some true := by kernel_rfl) (hn : Nat.blt d n = true := by kernel_rfl) (hx : val m x = some v := by kernel_rfl) (ht : elemT P t = some (Rp.sz α) := by kernel_rfl) (hlo : bnd m 0 lo = some i := by kernel_rfl) (hhi : bnd m l.length hi = some k := by kernel_rfl) : R P n B af Q pc imm hs m :=
  zNg ho hg hn hx ht hlo hhi ah hy next
theorem eF {t t2 : TypeId} {x y : Operand} {a b c : Str} (ho : af[pc]? = some ⟨some d, .binOp .add t x y t2, ty, pos, after, g⟩) (h : cat a b = some c) (next : R P n B af Q (pc+1) imm hs ((d, .string ⟨⟨c.l⟩⟩) :: m)) (hg : guardB af m g = some true := by kernel_rfl) (hn : Nat.blt d n = true := by kernel_rfl) (hx : val m x = some (.string ⟨⟨a.l⟩⟩) := by kernel_rfl) (hy : val m y = some (.string ⟨⟨b.l⟩⟩) := by kernel_rfl) : R P n B af Q pc imm hs m :=
  zOw ho hg hn hx hy h next
theorem zBo {t : TypeId} {x y : Operand} {a : Str} {k : IntKind} {i : Int} {c : UInt8} (ho : af[pc]? = some ⟨some d, .index t x y, ty, pos, after, g⟩) (hy : val m y = some (.int k i)) (h : sidx a i = some c) (next : R P n B af Q (pc+1) imm hs ((d, .int .u8 (c.toNat : Int)) :: m)) (hg : guardB af m g = some true := by kernel_rfl) (hn : Nat.blt d n = true := by kernel_rfl) (hx : val m x = some (.string ⟨⟨a.l⟩⟩) := by kernel_rfl) (hu : P.underlying t = some .string := by kernel_rfl) : R P n B af Q pc imm hs m :=
  zMh ho hg hn hx hy hu h next
theorem zIq {t : TypeId} {x : Operand} {lo hi : Option Operand} {a c : Str} {i k : Int} (ho : af[pc]? = some ⟨some d, .slice t x lo hi none, ty, pos, after, g⟩) (hy : sslc a i k = some c) (next : R P n B af Q (pc+1) imm hs ((d, .string ⟨⟨c.l⟩⟩) :: m)) (hg : guardB af m g = some true := by kernel_rfl) (hn : Nat.blt d n = true := by kernel_rfl) (hx : val m x = some (.string ⟨⟨a.l⟩⟩) := by kernel_rfl) (hu : P.underlying t = some .string := by kernel_rfl) (hlo : bnd m 0 lo = some i := by kernel_rfl) (hhi : bnd m a.l.length hi = some k := by kernel_rfl) : R P n B af Q pc imm hs m :=
  zMi ho hg hn hx hu hlo hhi hy next
theorem zPC {t t2 : TypeId} {x y : Operand} {a b c : Int} (ho : af[pc]? = some ⟨some d, .binOp .quo t x y t2, ty, pos, after, g⟩) (h : quo a b = some c) (next : Rq P n B af Q (pc+1) imm hs ((d, .int .i64 c) :: m)) (hg : guardB af m g = some true := by kernel_rfl) (hn : Nat.blt d n = true := by kernel_rfl) (hx : val m x = some (.int .i64 a) := by kernel_rfl) (hy : val m y = some (.int .i64 b) := by kernel_rfl) : Rq P n B af Q pc imm hs m :=
  zO1 ho hg hn hx hy h next
theorem zPD {t t2 : TypeId} {x y : Operand} {a b c : Int} (ho : af[pc]? = some ⟨some d, .binOp .rem t x y t2, ty, pos, after, g⟩) (h : rem a b = some c) (next : R P n B af Q (pc+1) imm hs ((d, .int .i64 c) :: m)) (hg : guardB af m g = some true := by kernel_rfl) (hn : Nat.blt d n = true := by kernel_rfl) (hx : val m x = some (.int .i64 a) := by kernel_rfl) (hy : val m y = some (.int .i64 b) := by kernel_rfl) : R P n B af Q pc imm hs m :=
  zOx ho hg hn hx hy h next
theorem zOM {t t2 : TypeId} {x y : Operand} {a b c : Int} (ho : af[pc]? = some ⟨some d, .binOp .rem t x y t2, ty, pos, after, g⟩) (h : rem a b = some c) (next : Rq P n B af Q (pc+1) imm hs ((d, .int .i64 c) :: m)) (hg : guardB af m g = some true := by kernel_rfl) (hn : Nat.blt d n = true := by kernel_rfl) (hx : val m x = some (.int .i64 a) := by kernel_rfl) (hy : val m y = some (.int .i64 b) := by kernel_rfl) : Rq P n B af Q pc imm hs m :=
  zO2 ho hg hn hx hy h next
theorem eK {t : TypeId} {x y : Operand} {b o : Nat} {c : Array Value} {v : Value} (j : Nat) (c' : List Value) (ah : List HA) (ho : af[pc]? = some ⟨none, .store t x y, ty, pos, after, g⟩) (hj : hs[j]? = some (.blk b c)) (hx : val m x = some (.pointer (some ⟨b, o, none⟩))) (hy : val m y = some v) (next : R P n B af Q (pc+1) imm ah m) (hg : guardB af m g = some true := by kernel_rfl) (bU : sizeT P t = some v.cells.size := by kernel_rfl) (bV : Nat.ble (o+v.cells.size) c.size = true := by kernel_rfl) (bZ : v.cells.toList.all Value.oneCell' = true := by rfl) (hc : wr c o v.cells.toList = ⟨c'⟩ := by kernel_rfl) (hh : hs.set j (.blk b ⟨c'⟩) = ah := by rfl) : R P n B af Q pc imm hs m :=
  zHI j ho hg hj hx hy bU bV bZ hc hh next
theorem qA {α : Type} [Rp α] {t t2 : TypeId} {x1 x2 : Operand} {v vx : Value} {cs aK : List Value} {l l2 y : List α} {by' : Nat} (e zs j : Nat) (ho : af[pc]? = some ⟨some d, .call { callee := .builtin .append, args := #[x1, x2], argTypes := #[t, t2] }, ty, pos, after, g⟩) (hj : hs[j]? = some (.osl v (Rp.sz α) cs)) (hy : val m x2 = some vx) (hr : RepL (Rp.rep imm) (Rp.sz α) cs l) (s : Src imm hs vx (Rp.sz α) aK) (hr2 : RepL (Rp.rep imm) (Rp.sz α) aK l2) (hb : app by' l l2 = some y)
    (next : ∀ a' c' cs', RepL (Rp.rep imm) (Rp.sz α) cs' y -> R P n B af Q (pc+1) imm (hs.set j (.osl (.slice a' y.length c') (Rp.sz α) cs')) ((d, .slice a' y.length c') :: m)) (hg : guardB af m g = some true := by kernel_rfl) (hn : Nat.blt d n = true := by kernel_rfl) (hx : val m x1 = some v := by kernel_rfl) (ht : appT P t = some (e, Rp.sz α, by', zs) := by kernel_rfl) (ht2 : appT P t2 = some (e, Rp.sz α, by', zs) := by kernel_rfl) : R P n B af Q pc imm hs m :=
  zO5 (fun _ => True) (e := e) (zs := zs) j ho hg hn hx hy ht ht2 hj hr (fun _ _ => .inl trivial) s hr2 hb (fun a' c' cs' _ h => next a' c' cs' h)
end
end Go.LN
namespace Go.LN
section
variable {P : Program} {n : Nat} {B : Base} {Q : Exit -> Act -> World -> Prop} {imm : Imm} {hs : List HA} {m : FM} {af : List Oper} {pc d : Nat} {ty : TypeId} {pos : String} {after : Array Edge} {g : Option (Nat × Bool)}
theorem zLk {f : FuncId} {first cap : List Value} {x : Operand} {xs : Array Operand} {ts : Array TypeId} {vs : List Value} {hs1 rest : List HA} {post : Nat -> Imm -> List HA -> Value -> Prop}
    (ho : af[pc]? = some ⟨some d, .call { callee := .value x, args := xs, argTypes := ts }, ty, pos, after, g⟩) (hx : val m x = some (.func (.func f) ⟨first⟩ ⟨cap⟩)) (hf : callable P f = true)
    (hvs : vals m xs.toList = some vs) (hh : hs = hs1++rest) (hc : Ret P f (first++vs++cap) imm hs1 post)
    (next : ∀ aq ah v k, imm.le aq -> B.w0.heap.size<=k -> post k aq ah v -> (∀ b∈ah.flatMap HA.fp, b∈hs1.flatMap HA.fp∨B.w0.heap.size<=b) -> R P n B af Q (pc+1) aq (ah++rest) ((d, v) :: m)) (hg : guardB af m g = some true := by kernel_rfl) (hn : Nat.blt d n = true := by kernel_rfl) : R P n B af Q pc imm hs m :=
  zJc ho hg fun a w fr gd => by
    subst hh
    have hargs : xs.map a.eval = vs.toArray := by apply Array.ext'; rw [d5, fr.evals hvs]
    have hall : (⟨first⟩ : Array Value)++vs.toArray++⟨cap⟩ = (first++vs++cap).toArray := by apply Array.ext'; simp
    have bX := gd.nodup
    rw [dj] at bX
    have hg1 := gd.enter (hs1 := hs1) (fun A hA => da _ hA) (cL.1 bX).1
    unfold Oper.wp
    simp only [execOp, resolve, Deferred.ofValue, fr.eval hx, hargs, Sem.run_bind, Sem.run_pure, Result.andThen_ok, invoke, hall, zF8 hf, Oper.upon]
    refine (hc w hg1).mono fun e w' he => ?_
    cases e with
    | returned v =>
      obtain ⟨aq, ah, hp, hgood⟩ := he
      obtain ⟨g2, bK, hfp⟩ := gd.leave hgood
      exact next aq ah v w.heap.size bK gd.frm.size hp hfp _ w' (fr.put d v (by simpa using hn)) g2
    | panicked c => exact he.elim
    | outgrown => exact he.elim
end
class Vr (α : Type) where
  rep : Imm -> Value -> α -> Prop
  mono : ∀ {i j : Imm} {v : Value} {a : α}, i.le j -> rep i v a -> rep j v a
instance : Vr Int := ⟨fun _ v a => v = .int .i64 a, fun _ h => h⟩
instance : Vr Bool := ⟨fun _ v a => v = .bool a, fun _ h => h⟩
instance : Vr Str := ⟨fun _ v a => v = .string ⟨⟨a.l⟩⟩, fun _ h => h⟩
instance {α : Type} [Rp α] : Vr (List α) := ⟨fun i v a => SL i v a, fun hl h => h.mono hl⟩
def FV1 {α β : Type} [Vr α] [Vr β] (P : Program) (imm : Imm) (aD : List HA) (v : Value) (φ : α -> Option β) : Prop :=
  ∃ f first cap, v = .func (.func f) ⟨first⟩ ⟨cap⟩ /\ callable P f = true /\ ∀ aq, imm.le aq -> ∀ a r va, φ a = some r -> Vr.rep aq va a -> Ret P f (first++[va]++cap) aq aD fun _ i ah u => ah = aD /\ Vr.rep i u r
theorem FV1.mono {α β : Type} [Vr α] [Vr β] {P : Program} {i j : Imm} {aD : List HA} {v : Value} {φ : α -> Option β} (hl : i.le j) (h : FV1 P i aD v φ) : FV1 P j aD v φ := by
  obtain ⟨f, first, cap, h1, h2, h3⟩ := h
  exact ⟨f, first, cap, h1, h2, fun aq h' => h3 aq (hl.trans h')⟩
theorem FV1.intro {α β : Type} [Vr α] [Vr β] {P : Program} {imm : Imm} {aD : List HA} {f : FuncId} {first cap : List Value} {φ : α -> Option β} (h : ∀ aq, imm.le aq -> ∀ a r va, φ a = some r -> Vr.rep aq va a -> Ret P f (first++[va]++cap) aq aD fun _ i ah u => ah = aD /\ Vr.rep i u r)
    (hc : callable P f = true := by kernel_rfl) : FV1 P imm aD (.func (.func f) ⟨first⟩ ⟨cap⟩) φ := ⟨f, first, cap, rfl, hc, h⟩
def FV2 {α β γ : Type} [Vr α] [Vr β] [Vr γ] (P : Program) (imm : Imm) (aD : List HA) (v : Value) (φ : α -> β -> Option γ) : Prop :=
  ∃ f first cap, v = .func (.func f) ⟨first⟩ ⟨cap⟩ /\ callable P f = true /\ ∀ aq, imm.le aq -> ∀ a b r va vb, φ a b = some r -> Vr.rep aq va a -> Vr.rep aq vb b -> Ret P f (first++[va, vb]++cap) aq aD fun _ i ah u => ah = aD /\ Vr.rep i u r
theorem FV2.mono {α β γ : Type} [Vr α] [Vr β] [Vr γ] {P : Program} {i j : Imm} {aD : List HA} {v : Value} {φ : α -> β -> Option γ} (hl : i.le j) (h : FV2 P i aD v φ) : FV2 P j aD v φ := by
  obtain ⟨f, first, cap, h1, h2, h3⟩ := h
  exact ⟨f, first, cap, h1, h2, fun aq h' => h3 aq (hl.trans h')⟩
theorem FV2.intro {α β γ : Type} [Vr α] [Vr β] [Vr γ] {P : Program} {imm : Imm} {aD : List HA} {f : FuncId} {first cap : List Value} {φ : α -> β -> Option γ} (h : ∀ aq, imm.le aq -> ∀ a b r va vb, φ a b = some r -> Vr.rep aq va a -> Vr.rep aq vb b -> Ret P f (first++[va, vb]++cap) aq aD fun _ i ah u => ah = aD /\ Vr.rep i u r)
    (hc : callable P f = true := by kernel_rfl) : FV2 P imm aD (.func (.func f) ⟨first⟩ ⟨cap⟩) φ := ⟨f, first, cap, rfl, hc, h⟩
section
variable {P : Program} {n : Nat} {B : Base} {Q : Exit -> Act -> World -> Prop} {imm : Imm} {hs : List HA} {m : FM} {af : List Oper} {pc d : Nat} {ty : TypeId} {pos : String} {after : Array Edge} {g : Option (Nat × Bool)}
theorem zKT {α β : Type} [Vr α] [Vr β] {x y : Operand} {ts : Array TypeId} {v va : Value} {a : α} {r : β} {φ : α -> Option β} {aD rest : List HA}
    (ho : af[pc]? = some ⟨some d, .call { callee := .value x, args := #[y], argTypes := ts }, ty, pos, after, g⟩) (hy : val m y = some va) (hF : FV1 P imm aD v φ) (hr : φ a = some r) (ha : Vr.rep imm va a) (hh : hs = aD++rest)
    (next : ∀ aq u, imm.le aq -> Vr.rep aq u r -> R P n B af Q (pc+1) aq (aD++rest) ((d, u) :: m)) (hx : val m x = some v := by kernel_rfl) (hg : guardB af m g = some true := by kernel_rfl) (hn : Nat.blt d n = true := by kernel_rfl) : R P n B af Q pc imm hs m := by
  obtain ⟨f, first, cap, rfl, hf, hc⟩ := hF
  refine zLk ho hx hf (vs := [va]) (by simp [vals, hy]) hh (hc imm (Imm.le.refl _) a r va hr ha) ?_ hg hn
  rintro aq ah u k hl hk ⟨rfl, h⟩ -
  exact next aq u hl h
theorem zKU {α β γ : Type} [Vr α] [Vr β] [Vr γ] {x y z : Operand} {ts : Array TypeId} {v va vb : Value} {a : α} {b : β} {r : γ} {φ : α -> β -> Option γ} {aD rest : List HA}
    (ho : af[pc]? = some ⟨some d, .call { callee := .value x, args := #[y, z], argTypes := ts }, ty, pos, after, g⟩) (hy : val m y = some va) (hz : val m z = some vb) (hF : FV2 P imm aD v φ) (hr : φ a b = some r) (ha : Vr.rep imm va a) (hb : Vr.rep imm vb b) (hh : hs = aD++rest)
    (next : ∀ aq u, imm.le aq -> Vr.rep aq u r -> R P n B af Q (pc+1) aq (aD++rest) ((d, u) :: m)) (hx : val m x = some v := by kernel_rfl) (hg : guardB af m g = some true := by kernel_rfl) (hn : Nat.blt d n = true := by kernel_rfl) : R P n B af Q pc imm hs m := by
  obtain ⟨f, first, cap, rfl, hf, hc⟩ := hF
  refine zLk ho hx hf (vs := [va, vb]) (by simp [vals, hy, hz]) hh (hc imm (Imm.le.refl _) a b r va vb hr ha hb) ?_ hg hn
  rintro aq ah u k hl hk ⟨rfl, h⟩ -
  exact next aq u hl h
end
end Go.LN
namespace Go.LN
theorem Good.grow {B : Base} {imm : Imm} {hs : List HA} {w : World} (h : Good B imm hs w) (k : Nat) (os : Array Obj) : Good B imm hs (Sort.grow (w.drewN k) os) := by
  have h := h.drewN k
  generalize w.drewN k = w at h
  have old : ∀ b, b<w.heap.size -> (Sort.grow w os).heap[b]? = w.heap[b]? := fun b hb => by
    show (w.heap++os)[b]? = _
    rw [Array.getElem?_append_left hb]
  refine ⟨fun b c e => ?_, fun A hA => (h.own A hA).same (fun _ _ p => p) (fun _ _ => rfl) (fun b hb => old b ((h.own A hA).lt hb).1), h.nodup, ⟨h.frm.os, h.frm.tape, h.frm.output, ?_, fun b hb hio => ?_, h.frm.imm, h.frm.drawn⟩⟩
  · obtain ⟨ty, fr, e'⟩ := h.inv b c e
    exact ⟨ty, fr, (old b (h.lt_imm e)).trans e'⟩
  · show _<=(w.heap++os).size
    rw [Array.size_append]
    exact cY h.frm.size (Nat.le_add_right _ _)
  · exact (old b (e7 hb h.frm.size)).trans (h.frm.heap b hb hio)
def GT (P : Program) (imm : Imm) : Prop := ∃ g, P.globalNamed "internal/strconv.uint64pow10" = some g ∧ imm g = some (Lib.pow10Tab.map fun z => Value.int .u64 z).toArray
def GM (P : Program) (imm : Imm) : Prop := ∃ g, P.globalNamed "internal/bytealg.MaxLen" = some g ∧ ∃ m, imm g = some #[.int .i64 m]
def GE (P : Program) (imm : Imm) (nm : String) : Prop := ∃ g, P.globalNamed nm = some g /\ ∃ t p, imm g = some #[.iface t p]
def GH (P : Program) (imm : Imm) : Prop := GT P imm ∧ GM P imm ∧ GE P imm "strconv.ErrSyntax" ∧ GE P imm "strconv.ErrRange"
theorem GH.mono {P : Program} {i j : Imm} (hl : i.le j) (h : GH P i) : GH P j := by
  obtain ⟨⟨g, h1, h2⟩, ⟨g3, h3, m, h4⟩, ⟨g5, h5, t, p, h6⟩, ⟨g7, h7, u, q, h8⟩⟩ := h
  exact ⟨⟨g, h1, hl _ _ h2⟩, ⟨g3, h3, m, hl _ _ h4⟩, ⟨g5, h5, t, p, hl _ _ h6⟩, ⟨g7, h7, u, q, hl _ _ h8⟩⟩
theorem GH.es {P : Program} {imm : Imm} (h : GH P imm) : GE P imm "strconv.ErrSyntax" := h.2.2.1
end Go.LN
namespace Go.LN
theorem zCr {k : IntKind} {n : Int} : (Value.int k n).oneCell' = true := rfl
theorem zHm {s : ByteArray} : (Value.string s).oneCell' = true := rfl
theorem SL.one {α : Type} [Rp α] {i : Imm} {v : Value} {l : List α} (h : SL i v l) : v.oneCell' = true := by
  obtain ⟨aK, hs, _⟩ := h
  rcases hs with ⟨rfl, _⟩ | ⟨b, off, len, cap, c, rfl, _⟩ <;> rfl
structure zD where
  Name : Str
  Dims : List Int
instance : Rp zD where
  sz := 2
  pos := by decide
  rep i cs s := ∃ v0 : Value, cs = [.string ⟨⟨s.Name.l⟩⟩, v0] /\ SL i v0 s.Dims
  len h := by obtain ⟨v0, rfl, h0⟩ := h; rfl
  mono hm h := by obtain ⟨v0, e, h0⟩ := h; exact ⟨v0, e, h0.mono hm⟩
  one h := by obtain ⟨v0, rfl, h0⟩ := h; simp [zHm, h0.one]
theorem zDR {i : Imm} {cs : List Value} {s : zD} (h : Rp.rep i cs s) : ∃ v0 : Value, cs = [.string ⟨⟨s.Name.l⟩⟩, v0] /\ SL i v0 s.Dims := h
theorem uL {i : Imm} {cs : List Value} {s : zD} (h : ∃ v0 : Value, cs = [.string ⟨⟨s.Name.l⟩⟩, v0] /\ SL i v0 s.Dims) : Rp.rep i cs s := h
theorem wK {i : Imm} {cs : List Value} {s : zD} (h : Rp.rep i cs s) : ∃ (p0 : Option Addr) (c0 : Nat), cs = [.string ⟨⟨s.Name.l⟩⟩, vS p0 s.Dims c0] /\ SL i (vS p0 s.Dims c0) s.Dims := by
  obtain ⟨v0, e, h0⟩ := zDR h
  obtain ⟨p0, c0, rfl⟩ := h0.form
  exact ⟨p0, c0, e, h0⟩
instance : Vr zD := ⟨fun i v a => ∃ cs, v = .agg ⟨cs⟩ /\ Rp.rep i cs a, fun hl ⟨cs, e, h⟩ => ⟨cs, e, Rp.mono hl h⟩⟩
structure zA where
  Coefs : List Int
  Const : Int
instance : Rp zA where
  sz := 2
  pos := by decide
  rep i cs s := ∃ v0 : Value, cs = [v0, .int .i64 s.Const] /\ SL i v0 s.Coefs
  len h := by obtain ⟨v0, rfl, h0⟩ := h; rfl
  mono hm h := by obtain ⟨v0, e, h0⟩ := h; exact ⟨v0, e, h0.mono hm⟩
  one h := by obtain ⟨v0, rfl, h0⟩ := h; simp [zCr, h0.one]
theorem zG6 {i : Imm} {cs : List Value} {s : zA} (h : Rp.rep i cs s) : ∃ v0 : Value, cs = [v0, .int .i64 s.Const] /\ SL i v0 s.Coefs := h
theorem yK {i : Imm} {cs : List Value} {s : zA} (h : ∃ v0 : Value, cs = [v0, .int .i64 s.Const] /\ SL i v0 s.Coefs) : Rp.rep i cs s := h
theorem yG {i : Imm} {cs : List Value} {s : zA} (h : Rp.rep i cs s) : ∃ (p0 : Option Addr) (c0 : Nat), cs = [vS p0 s.Coefs c0, .int .i64 s.Const] /\ SL i (vS p0 s.Coefs c0) s.Coefs := by
  obtain ⟨v0, e, h0⟩ := zG6 h
  obtain ⟨p0, c0, rfl⟩ := h0.form
  exact ⟨p0, c0, e, h0⟩
instance : Vr zA := ⟨fun i v a => ∃ cs, v = .agg ⟨cs⟩ /\ Rp.rep i cs a, fun hl ⟨cs, e, h⟩ => ⟨cs, e, Rp.mono hl h⟩⟩
structure zF where
  Lo : List zA
  Hi : List zA
instance : Rp zF where
  sz := 2
  pos := by decide
  rep i cs s := ∃ v0 v1 : Value, cs = [v0, v1] /\ SL i v0 s.Lo /\ SL i v1 s.Hi
  len h := by obtain ⟨v0, v1, rfl, h0, h1⟩ := h; rfl
  mono hm h := by obtain ⟨v0, v1, e, h0, h1⟩ := h; exact ⟨v0, v1, e, h0.mono hm, h1.mono hm⟩
  one h := by obtain ⟨v0, v1, rfl, h0, h1⟩ := h; simp [h0.one, h1.one]
theorem zDf {i : Imm} {cs : List Value} {s : zF} (h : Rp.rep i cs s) : ∃ v0 v1 : Value, cs = [v0, v1] /\ SL i v0 s.Lo /\ SL i v1 s.Hi := h
theorem uM {i : Imm} {cs : List Value} {s : zF} (h : ∃ v0 v1 : Value, cs = [v0, v1] /\ SL i v0 s.Lo /\ SL i v1 s.Hi) : Rp.rep i cs s := h
theorem vJ {i : Imm} {cs : List Value} {s : zF} (h : Rp.rep i cs s) : ∃ (p0 : Option Addr) (c0 : Nat) (p1 : Option Addr) (c1 : Nat), cs = [vS p0 s.Lo c0, vS p1 s.Hi c1] /\ SL i (vS p0 s.Lo c0) s.Lo /\ SL i (vS p1 s.Hi c1) s.Hi := by
  obtain ⟨v0, v1, e, h0, h1⟩ := zDf h
  obtain ⟨p0, c0, rfl⟩ := h0.form
  obtain ⟨p1, c1, rfl⟩ := h1.form
  exact ⟨p0, c0, p1, c1, e, h0, h1⟩
instance : Vr zF := ⟨fun i v a => ∃ cs, v = .agg ⟨cs⟩ /\ Rp.rep i cs a, fun hl ⟨cs, e, h⟩ => ⟨cs, e, Rp.mono hl h⟩⟩
structure zJ where
  Array : Str
  Subs : List zA
instance : Rp zJ where
  sz := 2
  pos := by decide
  rep i cs s := ∃ v0 : Value, cs = [.string ⟨⟨s.Array.l⟩⟩, v0] /\ SL i v0 s.Subs
  len h := by obtain ⟨v0, rfl, h0⟩ := h; rfl
  mono hm h := by obtain ⟨v0, e, h0⟩ := h; exact ⟨v0, e, h0.mono hm⟩
  one h := by obtain ⟨v0, rfl, h0⟩ := h; simp [zHm, h0.one]
theorem zG7 {i : Imm} {cs : List Value} {s : zJ} (h : Rp.rep i cs s) : ∃ v0 : Value, cs = [.string ⟨⟨s.Array.l⟩⟩, v0] /\ SL i v0 s.Subs := h
theorem oK {i : Imm} {cs : List Value} {s : zJ} (h : ∃ v0 : Value, cs = [.string ⟨⟨s.Array.l⟩⟩, v0] /\ SL i v0 s.Subs) : Rp.rep i cs s := h
theorem tY {i : Imm} {cs : List Value} {s : zJ} (h : Rp.rep i cs s) : ∃ (p0 : Option Addr) (c0 : Nat), cs = [.string ⟨⟨s.Array.l⟩⟩, vS p0 s.Subs c0] /\ SL i (vS p0 s.Subs c0) s.Subs := by
  obtain ⟨v0, e, h0⟩ := zG7 h
  obtain ⟨p0, c0, rfl⟩ := h0.form
  exact ⟨p0, c0, e, h0⟩
instance : Vr zJ := ⟨fun i v a => ∃ cs, v = .agg ⟨cs⟩ /\ Rp.rep i cs a, fun hl ⟨cs, e, h⟩ => ⟨cs, e, Rp.mono hl h⟩⟩
inductive zC where
  | mk (Kind : Int) (Num : Int) (Index : zA) (Read : zJ) (Kids : List zC)
def zC.Kind : zC -> Int | .mk x _ _ _ _ => x
def zC.Num : zC -> Int | .mk _ x _ _ _ => x
def zC.Index : zC -> zA | .mk _ _ x _ _ => x
def zC.Read : zC -> zJ | .mk _ _ _ x _ => x
def zC.Kids : zC -> (List zC) | .mk _ _ _ _ x => x
mutual
def zC.repE (i : Imm) : zC -> List Value -> Prop
  | .mk Kind Num Index Read Kids, cs => ∃ (v0 v1 v2 : Value) (aK : List Value), cs = [.int .i64 Kind, .int .i64 Num, v0, .int .i64 Index.Const, .string ⟨⟨Read.Array.l⟩⟩, v1, v2] /\ SL i v0 Index.Coefs /\ SL i v1 Read.Subs /\ SliceAt i v2 7 aK /\ zC.reps i Kids aK
def zC.reps (i : Imm) : List zC -> List Value -> Prop
  | [], cs => cs = []
  | e :: es, cs => ∃ c1 c2, cs = c1++c2 /\ c1.length = 7 /\ zC.repE i e c1 /\ zC.reps i es c2
end
mutual
theorem zEp {i : Imm} : ∀ {e : zC} {cs : List Value}, zC.repE i e cs -> cs.length = 7
  | .mk .., cs, h => by simp only [zC.repE] at h; obtain ⟨v0, v1, v2, aK, rfl, _⟩ := h; rfl
end
mutual
theorem zBP {i j : Imm} (hm : i.le j) : ∀ {e : zC} {cs : List Value}, zC.repE i e cs -> zC.repE j e cs
  | .mk .., cs, h => by
    simp only [zC.repE] at h ⊢
    obtain ⟨v0, v1, v2, aK, e, k0, k1, ha, hb⟩ := h
    exact ⟨v0, v1, v2, aK, e, k0.mono hm, k1.mono hm, ha.mono hm, zBQ hm hb⟩
theorem zBQ {i j : Imm} (hm : i.le j) : ∀ {es : List zC} {cs : List Value}, zC.reps i es cs -> zC.reps j es cs
  | [], cs, h => by simpa [zC.reps] using h
  | e :: es, cs, h => by
    simp only [zC.reps] at h ⊢
    obtain ⟨c1, c2, h1, h2, h3, h4⟩ := h
    exact ⟨c1, c2, h1, h2, zBP hm h3, zBQ hm h4⟩
end
theorem eM {i : Imm} : ∀ {es : List zC} {cs : List Value}, zC.reps i es cs↔RepL (fun c e => zC.repE i e c) 7 cs es
  | [], cs => by simp [zC.reps, RepL]
  | e :: es, cs => by
    simp only [zC.reps, RepL]
    constructor
    · rintro ⟨c1, c2, h1, h2, h3, h4⟩; exact ⟨c1, c2, h1, h2, h3, eM.1 h4⟩
    · rintro ⟨c1, c2, h1, h2, h3, h4⟩; exact ⟨c1, c2, h1, h2, h3, eM.2 h4⟩
theorem SliceAt.one {i : Imm} {v : Value} {sz : Nat} {cs : List Value} (hs : SliceAt i v sz cs) : v.oneCell' = true := by
  rcases hs with ⟨rfl, _⟩ | ⟨b, off, len, cap, c, rfl, _⟩ <;> rfl
theorem zEq {i : Imm} : ∀ {e : zC} {cs : List Value}, zC.repE i e cs -> ∀ v∈cs, v.oneCell' = true
  | .mk .., cs, h => by
    simp only [zC.repE] at h
    obtain ⟨v0, v1, v2, aK, rfl, k0, k1, ha, _⟩ := h
    simp [zCr, zHm, k0.one, k1.one, ha.one]
instance : Rp zC where
  sz := 7
  pos := by decide
  rep i cs e := zC.repE i e cs
  len h := zEp h
  mono hm h := zBP hm h
  one h := zEq h
theorem zIC {i : Imm} {cs : List Value} {s : zC} (h : Rp.rep i cs s) : ∃ v0 v1 v2 : Value, cs = [.int .i64 s.Kind, .int .i64 s.Num, v0, .int .i64 s.Index.Const, .string ⟨⟨s.Read.Array.l⟩⟩, v1, v2] /\ SL i v0 s.Index.Coefs /\ SL i v1 s.Read.Subs /\ SL i v2 s.Kids := by
  obtain ⟨Kind, Num, Index, Read, Kids⟩ := s
  have h : zC.repE i _ cs := h
  simp only [zC.repE] at h
  obtain ⟨v0, v1, v2, aK, e, k0, k1, ha, hb⟩ := h
  exact ⟨v0, v1, v2, e, k0, k1, ⟨aK, ha, eM.1 hb⟩⟩
theorem yF {i : Imm} {cs : List Value} {s : zC} (h : ∃ v0 v1 v2 : Value, cs = [.int .i64 s.Kind, .int .i64 s.Num, v0, .int .i64 s.Index.Const, .string ⟨⟨s.Read.Array.l⟩⟩, v1, v2] /\ SL i v0 s.Index.Coefs /\ SL i v1 s.Read.Subs /\ SL i v2 s.Kids) : Rp.rep i cs s := by
  obtain ⟨Kind, Num, Index, Read, Kids⟩ := s
  show zC.repE i _ cs
  simp only [zC.repE]
  obtain ⟨v0, v1, v2, e, k0, k1, ⟨aK, ha, hb⟩⟩ := h
  exact ⟨v0, v1, v2, aK, e, k0, k1, ha, eM.2 hb⟩
theorem xB {i : Imm} {cs : List Value} {s : zC} (h : Rp.rep i cs s) : ∃ (p0 : Option Addr) (c0 : Nat) (p1 : Option Addr) (c1 : Nat) (p2 : Option Addr) (c2 : Nat), cs = [.int .i64 s.Kind, .int .i64 s.Num, vS p0 s.Index.Coefs c0, .int .i64 s.Index.Const, .string ⟨⟨s.Read.Array.l⟩⟩, vS p1 s.Read.Subs c1, vS p2 s.Kids c2] /\ SL i (vS p0 s.Index.Coefs c0) s.Index.Coefs /\ SL i (vS p1 s.Read.Subs c1) s.Read.Subs /\ SL i (vS p2 s.Kids c2) s.Kids := by
  obtain ⟨v0, v1, v2, e, h0, h1, h2⟩ := zIC h
  obtain ⟨p0, c0, rfl⟩ := h0.form
  obtain ⟨p1, c1, rfl⟩ := h1.form
  obtain ⟨p2, c2, rfl⟩ := h2.form
  exact ⟨p0, c0, p1, c1, p2, c2, e, h0, h1, h2⟩
instance : Vr zC := ⟨fun i v a => ∃ cs, v = .agg ⟨cs⟩ /\ Rp.rep i cs a, fun hl ⟨cs, e, h⟩ => ⟨cs, e, Rp.mono hl h⟩⟩
structure zG where
  Write : zJ
  Value : zC
instance : Rp zG where
  sz := 9
  pos := by decide
  rep i cs s := ∃ v0 v1 v2 v3 : Value, cs = [.string ⟨⟨s.Write.Array.l⟩⟩, v0, .int .i64 s.Value.Kind, .int .i64 s.Value.Num, v1, .int .i64 s.Value.Index.Const, .string ⟨⟨s.Value.Read.Array.l⟩⟩, v2, v3] /\ SL i v0 s.Write.Subs /\ SL i v1 s.Value.Index.Coefs /\ SL i v2 s.Value.Read.Subs /\ SL i v3 s.Value.Kids
  len h := by obtain ⟨v0, v1, v2, v3, rfl, h0, h1, h2, h3⟩ := h; rfl
  mono hm h := by obtain ⟨v0, v1, v2, v3, e, h0, h1, h2, h3⟩ := h; exact ⟨v0, v1, v2, v3, e, h0.mono hm, h1.mono hm, h2.mono hm, h3.mono hm⟩
  one h := by obtain ⟨v0, v1, v2, v3, rfl, h0, h1, h2, h3⟩ := h; simp [zHm, zCr, h0.one, h1.one, h2.one, h3.one]
theorem kJ {i : Imm} {cs : List Value} {s : zG} (h : Rp.rep i cs s) : ∃ v0 v1 v2 v3 : Value, cs = [.string ⟨⟨s.Write.Array.l⟩⟩, v0, .int .i64 s.Value.Kind, .int .i64 s.Value.Num, v1, .int .i64 s.Value.Index.Const, .string ⟨⟨s.Value.Read.Array.l⟩⟩, v2, v3] /\ SL i v0 s.Write.Subs /\ SL i v1 s.Value.Index.Coefs /\ SL i v2 s.Value.Read.Subs /\ SL i v3 s.Value.Kids := h
theorem xV {i : Imm} {cs : List Value} {s : zG} (h : ∃ v0 v1 v2 v3 : Value, cs = [.string ⟨⟨s.Write.Array.l⟩⟩, v0, .int .i64 s.Value.Kind, .int .i64 s.Value.Num, v1, .int .i64 s.Value.Index.Const, .string ⟨⟨s.Value.Read.Array.l⟩⟩, v2, v3] /\ SL i v0 s.Write.Subs /\ SL i v1 s.Value.Index.Coefs /\ SL i v2 s.Value.Read.Subs /\ SL i v3 s.Value.Kids) : Rp.rep i cs s := h
theorem wI {i : Imm} {cs : List Value} {s : zG} (h : Rp.rep i cs s) : ∃ (p0 : Option Addr) (c0 : Nat) (p1 : Option Addr) (c1 : Nat) (p2 : Option Addr) (c2 : Nat) (p3 : Option Addr) (c3 : Nat), cs = [.string ⟨⟨s.Write.Array.l⟩⟩, vS p0 s.Write.Subs c0, .int .i64 s.Value.Kind, .int .i64 s.Value.Num, vS p1 s.Value.Index.Coefs c1, .int .i64 s.Value.Index.Const, .string ⟨⟨s.Value.Read.Array.l⟩⟩, vS p2 s.Value.Read.Subs c2, vS p3 s.Value.Kids c3] /\ SL i (vS p0 s.Write.Subs c0) s.Write.Subs /\ SL i (vS p1 s.Value.Index.Coefs c1) s.Value.Index.Coefs /\ SL i (vS p2 s.Value.Read.Subs c2) s.Value.Read.Subs /\ SL i (vS p3 s.Value.Kids c3) s.Value.Kids := by
  obtain ⟨v0, v1, v2, v3, e, h0, h1, h2, h3⟩ := kJ h
  obtain ⟨p0, c0, rfl⟩ := h0.form
  obtain ⟨p1, c1, rfl⟩ := h1.form
  obtain ⟨p2, c2, rfl⟩ := h2.form
  obtain ⟨p3, c3, rfl⟩ := h3.form
  exact ⟨p0, c0, p1, c1, p2, c2, p3, c3, e, h0, h1, h2, h3⟩
instance : Vr zG := ⟨fun i v a => ∃ cs, v = .agg ⟨cs⟩ /\ Rp.rep i cs a, fun hl ⟨cs, e, h⟩ => ⟨cs, e, Rp.mono hl h⟩⟩
structure zL where
  Nest : List zF
  Body : List zG
instance : Rp zL where
  sz := 2
  pos := by decide
  rep i cs s := ∃ v0 v1 : Value, cs = [v0, v1] /\ SL i v0 s.Nest /\ SL i v1 s.Body
  len h := by obtain ⟨v0, v1, rfl, h0, h1⟩ := h; rfl
  mono hm h := by obtain ⟨v0, v1, e, h0, h1⟩ := h; exact ⟨v0, v1, e, h0.mono hm, h1.mono hm⟩
  one h := by obtain ⟨v0, v1, rfl, h0, h1⟩ := h; simp [h0.one, h1.one]
theorem zID {i : Imm} {cs : List Value} {s : zL} (h : Rp.rep i cs s) : ∃ v0 v1 : Value, cs = [v0, v1] /\ SL i v0 s.Nest /\ SL i v1 s.Body := h
theorem uY {i : Imm} {cs : List Value} {s : zL} (h : ∃ v0 v1 : Value, cs = [v0, v1] /\ SL i v0 s.Nest /\ SL i v1 s.Body) : Rp.rep i cs s := h
theorem wX {i : Imm} {cs : List Value} {s : zL} (h : Rp.rep i cs s) : ∃ (p0 : Option Addr) (c0 : Nat) (p1 : Option Addr) (c1 : Nat), cs = [vS p0 s.Nest c0, vS p1 s.Body c1] /\ SL i (vS p0 s.Nest c0) s.Nest /\ SL i (vS p1 s.Body c1) s.Body := by
  obtain ⟨v0, v1, e, h0, h1⟩ := zID h
  obtain ⟨p0, c0, rfl⟩ := h0.form
  obtain ⟨p1, c1, rfl⟩ := h1.form
  exact ⟨p0, c0, p1, c1, e, h0, h1⟩
instance : Vr zL := ⟨fun i v a => ∃ cs, v = .agg ⟨cs⟩ /\ Rp.rep i cs a, fun hl ⟨cs, e, h⟩ => ⟨cs, e, Rp.mono hl h⟩⟩
structure zH where
  Arrays : List zD
  Parts : List zL
instance : Rp zH where
  sz := 2
  pos := by decide
  rep i cs s := ∃ v0 v1 : Value, cs = [v0, v1] /\ SL i v0 s.Arrays /\ SL i v1 s.Parts
  len h := by obtain ⟨v0, v1, rfl, h0, h1⟩ := h; rfl
  mono hm h := by obtain ⟨v0, v1, e, h0, h1⟩ := h; exact ⟨v0, v1, e, h0.mono hm, h1.mono hm⟩
  one h := by obtain ⟨v0, v1, rfl, h0, h1⟩ := h; simp [h0.one, h1.one]
theorem zFc {i : Imm} {cs : List Value} {s : zH} (h : Rp.rep i cs s) : ∃ v0 v1 : Value, cs = [v0, v1] /\ SL i v0 s.Arrays /\ SL i v1 s.Parts := h
theorem wO {i : Imm} {cs : List Value} {s : zH} (h : ∃ v0 v1 : Value, cs = [v0, v1] /\ SL i v0 s.Arrays /\ SL i v1 s.Parts) : Rp.rep i cs s := h
theorem pV {i : Imm} {cs : List Value} {s : zH} (h : Rp.rep i cs s) : ∃ (p0 : Option Addr) (c0 : Nat) (p1 : Option Addr) (c1 : Nat), cs = [vS p0 s.Arrays c0, vS p1 s.Parts c1] /\ SL i (vS p0 s.Arrays c0) s.Arrays /\ SL i (vS p1 s.Parts c1) s.Parts := by
  obtain ⟨v0, v1, e, h0, h1⟩ := zFc h
  obtain ⟨p0, c0, rfl⟩ := h0.form
  obtain ⟨p1, c1, rfl⟩ := h1.form
  exact ⟨p0, c0, p1, c1, e, h0, h1⟩
instance : Vr zH := ⟨fun i v a => ∃ cs, v = .agg ⟨cs⟩ /\ Rp.rep i cs a, fun hl ⟨cs, e, h⟩ => ⟨cs, e, Rp.mono hl h⟩⟩
structure wL where
  From : Int
  To : Int
  Kinds : Int
instance : Rp wL where
  sz := 3
  pos := by decide
  rep i cs s := cs = [.int .i64 s.From, .int .i64 s.To, .int .i64 s.Kinds]
  len h := by obtain rfl := h; rfl
  mono _ h := h
  one h := by obtain rfl := h; simp [zCr]
theorem zBC {i : Imm} {cs : List Value} {s : wL} (h : Rp.rep i cs s) : cs = [.int .i64 s.From, .int .i64 s.To, .int .i64 s.Kinds] := h
theorem zIr {i : Imm} {cs : List Value} {s : wL} (h : cs = [.int .i64 s.From, .int .i64 s.To, .int .i64 s.Kinds]) : Rp.rep i cs s := h
instance : Vr wL := ⟨fun i v a => ∃ cs, v = .agg ⟨cs⟩ /\ Rp.rep i cs a, fun hl ⟨cs, e, h⟩ => ⟨cs, e, Rp.mono hl h⟩⟩
structure zX where
  Part : Int
  Stmt : Int
  Point : List Int
instance : Rp zX where
  sz := 3
  pos := by decide
  rep i cs s := ∃ v0 : Value, cs = [.int .i64 s.Part, .int .i64 s.Stmt, v0] /\ SL i v0 s.Point
  len h := by obtain ⟨v0, rfl, h0⟩ := h; rfl
  mono hm h := by obtain ⟨v0, e, h0⟩ := h; exact ⟨v0, e, h0.mono hm⟩
  one h := by obtain ⟨v0, rfl, h0⟩ := h; simp [zCr, h0.one]
theorem zEr {i : Imm} {cs : List Value} {s : zX} (h : Rp.rep i cs s) : ∃ v0 : Value, cs = [.int .i64 s.Part, .int .i64 s.Stmt, v0] /\ SL i v0 s.Point := h
theorem zEs {i : Imm} {cs : List Value} {s : zX} (h : ∃ v0 : Value, cs = [.int .i64 s.Part, .int .i64 s.Stmt, v0] /\ SL i v0 s.Point) : Rp.rep i cs s := h
theorem zG8 {i : Imm} {cs : List Value} {s : zX} (h : Rp.rep i cs s) : ∃ (p0 : Option Addr) (c0 : Nat), cs = [.int .i64 s.Part, .int .i64 s.Stmt, vS p0 s.Point c0] /\ SL i (vS p0 s.Point c0) s.Point := by
  obtain ⟨v0, e, h0⟩ := zEr h
  obtain ⟨p0, c0, rfl⟩ := h0.form
  exact ⟨p0, c0, e, h0⟩
instance : Vr zX := ⟨fun i v a => ∃ cs, v = .agg ⟨cs⟩ /\ Rp.rep i cs a, fun hl ⟨cs, e, h⟩ => ⟨cs, e, Rp.mono hl h⟩⟩
structure qD where
  Program : zH
  list : List zX
  reads : List (List Int)
  writes : List Int
instance : Rp qD where
  sz := 5
  pos := by decide
  rep i cs s := ∃ v0 v1 v2 v3 v4 : Value, cs = [v0, v1, v2, v3, v4] /\ SL i v0 s.Program.Arrays /\ SL i v1 s.Program.Parts /\ SL i v2 s.list /\ SL i v3 s.reads /\ SL i v4 s.writes
  len h := by obtain ⟨v0, v1, v2, v3, v4, rfl, h0, h1, h2, h3, h4⟩ := h; rfl
  mono hm h := by obtain ⟨v0, v1, v2, v3, v4, e, h0, h1, h2, h3, h4⟩ := h; exact ⟨v0, v1, v2, v3, v4, e, h0.mono hm, h1.mono hm, h2.mono hm, h3.mono hm, h4.mono hm⟩
  one h := by obtain ⟨v0, v1, v2, v3, v4, rfl, h0, h1, h2, h3, h4⟩ := h; simp [h0.one, h1.one, h2.one, h3.one, h4.one]
theorem zG9 {i : Imm} {cs : List Value} {s : qD} (h : Rp.rep i cs s) : ∃ v0 v1 v2 v3 v4 : Value, cs = [v0, v1, v2, v3, v4] /\ SL i v0 s.Program.Arrays /\ SL i v1 s.Program.Parts /\ SL i v2 s.list /\ SL i v3 s.reads /\ SL i v4 s.writes := h
theorem zGa {i : Imm} {cs : List Value} {s : qD} (h : ∃ v0 v1 v2 v3 v4 : Value, cs = [v0, v1, v2, v3, v4] /\ SL i v0 s.Program.Arrays /\ SL i v1 s.Program.Parts /\ SL i v2 s.list /\ SL i v3 s.reads /\ SL i v4 s.writes) : Rp.rep i cs s := h
theorem zB4 {i : Imm} {cs : List Value} {s : qD} (h : Rp.rep i cs s) : ∃ (p0 : Option Addr) (c0 : Nat) (p1 : Option Addr) (c1 : Nat) (p2 : Option Addr) (c2 : Nat) (p3 : Option Addr) (c3 : Nat) (p4 : Option Addr) (c4 : Nat), cs = [vS p0 s.Program.Arrays c0, vS p1 s.Program.Parts c1, vS p2 s.list c2, vS p3 s.reads c3, vS p4 s.writes c4] /\ SL i (vS p0 s.Program.Arrays c0) s.Program.Arrays /\ SL i (vS p1 s.Program.Parts c1) s.Program.Parts /\ SL i (vS p2 s.list c2) s.list /\ SL i (vS p3 s.reads c3) s.reads /\ SL i (vS p4 s.writes c4) s.writes := by
  obtain ⟨v0, v1, v2, v3, v4, e, h0, h1, h2, h3, h4⟩ := zG9 h
  obtain ⟨p0, c0, rfl⟩ := h0.form
  obtain ⟨p1, c1, rfl⟩ := h1.form
  obtain ⟨p2, c2, rfl⟩ := h2.form
  obtain ⟨p3, c3, rfl⟩ := h3.form
  obtain ⟨p4, c4, rfl⟩ := h4.form
  exact ⟨p0, c0, p1, c1, p2, c2, p3, c3, p4, c4, e, h0, h1, h2, h3, h4⟩
instance : Vr qD := ⟨fun i v a => ∃ cs, v = .agg ⟨cs⟩ /\ Rp.rep i cs a, fun hl ⟨cs, e, h⟩ => ⟨cs, e, Rp.mono hl h⟩⟩
structure zO where
  b : List UInt8
  p : Int
instance : Rp zO where
  sz := 2
  pos := by decide
  rep i cs s := ∃ v0 : Value, cs = [v0, .int .i64 s.p] /\ SL i v0 s.b
  len h := by obtain ⟨v0, rfl, h0⟩ := h; rfl
  mono hm h := by obtain ⟨v0, e, h0⟩ := h; exact ⟨v0, e, h0.mono hm⟩
  one h := by obtain ⟨v0, rfl, h0⟩ := h; simp [zCr, h0.one]
theorem zA5 {i : Imm} {cs : List Value} {s : zO} (h : Rp.rep i cs s) : ∃ v0 : Value, cs = [v0, .int .i64 s.p] /\ SL i v0 s.b := h
theorem yY {i : Imm} {cs : List Value} {s : zO} (h : ∃ v0 : Value, cs = [v0, .int .i64 s.p] /\ SL i v0 s.b) : Rp.rep i cs s := h
theorem yB {i : Imm} {cs : List Value} {s : zO} (h : Rp.rep i cs s) : ∃ (p0 : Option Addr) (c0 : Nat), cs = [vS p0 s.b c0, .int .i64 s.p] /\ SL i (vS p0 s.b c0) s.b := by
  obtain ⟨v0, e, h0⟩ := zA5 h
  obtain ⟨p0, c0, rfl⟩ := h0.form
  exact ⟨p0, c0, e, h0⟩
instance : Vr zO := ⟨fun i v a => ∃ cs, v = .agg ⟨cs⟩ /\ Rp.rep i cs a, fun hl ⟨cs, e, h⟩ => ⟨cs, e, Rp.mono hl h⟩⟩
structure rZ where
  nest : List zF
  steps : Int
  out : List (List Int)
instance : Rp rZ where
  sz := 3
  pos := by decide
  rep i cs s := ∃ v0 v1 : Value, cs = [v0, .int .i64 s.steps, v1] /\ SL i v0 s.nest /\ SL i v1 s.out
  len h := by obtain ⟨v0, v1, rfl, h0, h1⟩ := h; rfl
  mono hm h := by obtain ⟨v0, v1, e, h0, h1⟩ := h; exact ⟨v0, v1, e, h0.mono hm, h1.mono hm⟩
  one h := by obtain ⟨v0, v1, rfl, h0, h1⟩ := h; simp [zCr, h0.one, h1.one]
instance : Vr rZ := ⟨fun i v a => ∃ cs, v = .agg ⟨cs⟩ /\ Rp.rep i cs a, fun hl ⟨cs, e, h⟩ => ⟨cs, e, Rp.mono hl h⟩⟩
end Go.LN
namespace Go.LN
theorem iM {α : Type} [Rp α] {i j : Imm} (h : i.le j) {l : List α} {cs : List Value} (hr : RL i cs l) : RL j cs l := RepL.mono (fun _ _ => Rp.mono h) hr
def stB : List HA -> Nat -> List Value -> (List HA -> Option (List HA)) -> Option (List HA)
  | .blk b _ :: t, 0, c', k => k (.blk b ⟨c'⟩ :: t)
  | h :: t, j+1, c', k => stB t j c' fun r => k (h :: r)
  | _, _, _, _ => none
theorem zLl : ∀ {hs : List HA} {j : Nat} {b : Nat} {c : Array Value} {c' : List Value} {k : List HA -> Option (List HA)}, hs[j]? = some (.blk b c) -> stB hs j c' k = k (hs.set j (.blk b ⟨c'⟩))
  | [], _, _, _, _, _, h => by simp at h
  | A :: t, 0, b, c, c', k, h => by
    simp only [er, Option.some.injEq] at h
    subst h; rfl
  | A :: t, j+1, b, c, c', k, h => by
    simp only [et] at h
    rw [stB, zLl h, en]
class Mo (X : Prop) (i j : Imm) (Y : outParam Prop) : Prop where
  mo : i.le j -> X -> Y
instance {α : Type} [Rp α] {v : Value} {l : List α} {i j : Imm} : Mo (SL i v l) i j (SL j v l) := ⟨fun h x => x.mono h⟩
instance {α : Type} [Rp α] {cs : List Value} {l : List α} {i j : Imm} : Mo (RL i cs l) i j (RL j cs l) := ⟨fun h x => iM h x⟩
instance {ad : Addr} {cs : List Value} {i j : Imm} : Mo (At i ad cs) i j (At j ad cs) := ⟨fun h x => At.mono h x⟩
instance {α : Type} [Rp α] {v : Value} {o : Option α} {i j : Imm} : Mo (FP i v o) i j (FP j v o) := ⟨fun h x => FP.mono x h⟩
instance {α β : Type} [Vr α] [Vr β] {P : Program} {aD : List HA} {v : Value} {φ : α -> Option β} {i j : Imm} : Mo (FV1 P i aD v φ) i j (FV1 P j aD v φ) := ⟨fun h x => FV1.mono h x⟩
instance {α β γ : Type} [Vr α] [Vr β] [Vr γ] {P : Program} {aD : List HA} {v : Value} {φ : α -> β -> Option γ} {i j : Imm} : Mo (FV2 P i aD v φ) i j (FV2 P j aD v φ) := ⟨fun h x => FV2.mono h x⟩
instance {P : Program} {i j : Imm} : Mo (GH P i) i j (GH P j) := ⟨fun h x => GH.mono h x⟩
instance {i0 i j : Imm} : Mo (i0.le i) i j (i0.le j) := ⟨fun h x => x.trans h⟩
theorem m2 {i j : Imm} {A B A' B' : Prop} (h : i.le j) (a : A) (b : B) [Mo A i j A'] [Mo B i j B'] : A' /\ B' := ⟨Mo.mo h a, Mo.mo h b⟩
theorem m3 {i j : Imm} {A B C A' B' C' : Prop} (h : i.le j) (a : A) (b : B) (c : C) [Mo A i j A'] [Mo B i j B'] [Mo C i j C'] : A' /\ B' /\ C' := ⟨Mo.mo h a, Mo.mo h b, Mo.mo h c⟩
theorem m4 {i j : Imm} {A B C D A' B' C' D' : Prop} (h : i.le j) (a : A) (b : B) (c : C) (d : D) [Mo A i j A'] [Mo B i j B'] [Mo C i j C'] [Mo D i j D'] : A' /\ B' /\ C' /\ D' := ⟨Mo.mo h a, Mo.mo h b, Mo.mo h c, Mo.mo h d⟩
theorem m5 {i j : Imm} {A B C D E A' B' C' D' E' : Prop} (h : i.le j) (a : A) (b : B) (c : C) (d : D) (e : E) [Mo A i j A'] [Mo B i j B'] [Mo C i j C'] [Mo D i j D'] [Mo E i j E'] : A' /\ B' /\ C' /\ D' /\ E' := ⟨Mo.mo h a, Mo.mo h b, Mo.mo h c, Mo.mo h d, Mo.mo h e⟩
theorem m6 {i j : Imm} {A B C D E F A' B' C' D' E' F' : Prop} (h : i.le j) (a : A) (b : B) (c : C) (d : D) (e : E) (f : F) [Mo A i j A'] [Mo B i j B'] [Mo C i j C'] [Mo D i j D'] [Mo E i j E'] [Mo F i j F'] : A' /\ B' /\ C' /\ D' /\ E' /\ F' := ⟨Mo.mo h a, Mo.mo h b, Mo.mo h c, Mo.mo h d, Mo.mo h e, Mo.mo h f⟩
abbrev K1 {α : Type} (o : α) (I : Imm) (hs : List HA) (m : α -> FM) : Imm -> List HA -> FM -> Prop := fun I' ah m' => ∃ t : α, o = t /\ I.le I' /\ ah = hs /\ m' = m t
section
variable {P : Program} {n : Nat} {B : Base} {af : List Oper} {Q : Exit -> Act -> World -> Prop} {pc : Nat} {imm : Imm} {hs : List HA} {m : FM} {d : Nat}
  {ty : TypeId} {pos : String} {after : Array Edge} {g : Option (Nat × Bool)}
theorem xJ {f : FuncId} {x : Operand} {xs : Array Operand} {ts : Array TypeId} {vs : List Value} {post : Nat -> Imm -> List HA -> Value -> Prop}
    (hc : Ret P f vs imm [] post)
    (next : ∀ aq ah v k, imm.le aq -> B.w0.heap.size<=k -> post k aq ah v -> (∀ b∈ah.flatMap HA.fp, b∈([] : List HA).flatMap HA.fp∨B.w0.heap.size<=b) -> R P n B af Q (pc+1) aq (ah++hs) ((d, v) :: m))
    (ho : af[pc]? = some ⟨some d, .call { callee := .value x, args := xs, argTypes := ts }, ty, pos, after, g⟩ := by rfl) (hg : guardB af m g = some true := by rfl) (hn : Nat.blt d n = true := by rfl) (hx : val m x = some (.func (.func f) #[] #[]) := by rfl) (hf : callable P f = true := by kernel_rfl)
    (hvs : vals m xs.toList = some vs := by rfl) : R P n B af Q pc imm hs m :=
  zG1 (hs1 := []) (rest := hs) ho hg hn hx hf hvs rfl hc next
theorem zPI {f : FuncId} {x : Operand} {xs : Array Operand} {ts : Array TypeId} {vs : List Value} (hs1 rest : List HA) {post : Nat -> Imm -> List HA -> Value -> Prop}
    (hc : Ret P f vs imm hs1 post)
    (next : ∀ aq ah v k, imm.le aq -> B.w0.heap.size<=k -> post k aq ah v -> (∀ b∈ah.flatMap HA.fp, b∈hs1.flatMap HA.fp∨B.w0.heap.size<=b) -> R P n B af Q (pc+1) aq (ah++rest) ((d, v) :: m))
    (ho : af[pc]? = some ⟨some d, .call { callee := .value x, args := xs, argTypes := ts }, ty, pos, after, g⟩ := by rfl) (hg : guardB af m g = some true := by rfl) (hn : Nat.blt d n = true := by rfl) (hx : val m x = some (.func (.func f) #[] #[]) := by rfl) (hf : callable P f = true := by kernel_rfl)
    (hvs : vals m xs.toList = some vs := by rfl) (hh : hs = hs1++rest := by rfl) : R P n B af Q pc imm hs m :=
  zG1 (hs1 := hs1) (rest := rest) ho hg hn hx hf hvs hh hc next
theorem zAo (m' : FM) (h : R P n B af Q pc imm hs m') (hk : keep m (m'.map (·.1)) = some m' := by kernel_rfl) : R P n B af Q pc imm hs m := zB0 (zCW hk) h
theorem tK (cs : List Value) (α : Type) [Rp α] {t len : Nat} {parts : Array (Nat × Operand)} {ps : List (Nat × Value)}
    (next : ∀ b, B.w0.heap.size<=b -> R P n B af Q (pc+1) imm (.osl (.slice (some ⟨b, 0, none⟩) len len) (Rp.sz α) cs :: hs) ((d, .slice (some ⟨b, 0, none⟩) len len) :: m))
    (ho : af[pc]? = some ⟨some d, .buildSlice t len parts, ty, pos, after, g⟩ := by rfl) (hg : guardB af m g = some true := by rfl) (hn : Nat.blt d n = true := by rfl) (hps : pvals m parts.toList = some ps := by rfl) (hc : elemZ P t len ps = some ⟨cs⟩ := by kernel_rfl) (hl : Nat.beq cs.length (len*Rp.sz α) = true := by kernel_rfl)
    (hlM : Nat.ble len 9223372036854775807 = true := by rfl) : R P n B af Q pc imm hs m :=
  zJd (cs := cs) (Rp.sz α) ho hg hn hps hc hl next hlM
theorem xU (c : List Value) {t : TypeId}
    (next : ∀ b, B.w0.heap.size<=b -> R P n B af Q (pc+1) imm (.blk b ⟨c⟩ :: hs) ((d, .pointer (some ⟨b, 0, none⟩)) :: m))
    (ho : af[pc]? = some ⟨some d, .alloc t, ty, pos, after, g⟩ := by rfl) (hg : guardB af m g = some true := by rfl) (hn : Nat.blt d n = true := by rfl) (hz : zeroC P t = some ⟨c⟩ := by kernel_rfl) : R P n B af Q pc imm hs m :=
  zNf (c := ⟨c⟩) ho hg hn hz next
theorem vD (c : List Value) {t : TypeId} {x : Operand} {v : Value}
    (next : ∀ b, B.w0.heap.size<=b -> R P n B af Q (pc+1) imm (.blk b ⟨c⟩ :: hs) ((d, .pointer (some ⟨b, 0, none⟩)) :: m))
    (ho : af[pc]? = some ⟨some d, .box t x, ty, pos, after, g⟩ := by rfl) (hg : guardB af m g = some true := by rfl) (hn : Nat.blt d n = true := by rfl) (hx : val m x = some v := by rfl) (hc : v.cells = ⟨c⟩ := by rfl) : R P n B af Q pc imm hs m :=
  zOv (c := ⟨c⟩) ho hg hn hx hc next
theorem I_h {its : List It} {gs : List (List HA)} {N : Nat} {l : List (Nat × Bool)} {ops' : List Oper} {pc : Nat} (m2 : FM) (h : R P n B ops' Q pc imm hs m2)
    (hi : (insM af its l m).bind (fun m1 => keep m1 (m2.map (·.1))) = some m2 := by kernel_rfl) : Ins af (factsOf N its gs) imm l m hs fun m' ah => R P n B ops' Q pc imm ah m' := by
  obtain ⟨m1, h1, h2⟩ := Option.bind_eq_some_iff.1 hi
  refine zFb (fun j it hj => ?_) h1 (zB0 (zCW h2) h)
  have aN := (ci.1 hj).1
  unfold factsOf
  rw [ef, fe (by rw [cI]; exact aN), dn, hj]
  rfl
theorem xY {ops' : List Oper} {pc d0 : Nat} {φi : Fact} {imm1 : Imm} {v : Value} (bK : imm1.le imm) (h0 : ops'.drop pc = [] := by rfl) (hd : look m d0 = some v := by rfl) (hφ : φi imm v [] := by exact ⟨rfl, rfl⟩) : R P n B ops' (OutQ n B φi (some d0) imm1 hs) pc imm hs m :=
  zHw (hx := []) h0 bK rfl (fun _ e => by cases e; exact hd) hφ
theorem yJ {f : FuncId} {fn : Func} {args : List Value} {post : Nat -> Imm -> List HA -> Value -> Prop} (hf : P.funcs[f]? = some fn) (h : ∀ B : Base, J P fn.ntmps B (bodyOf fn) (QB P fn B post) imm hs (argm 0 args))
    (hb : fn.body = some (bodyOf fn) := by rfl) (hn : Nat.ble args.length fn.ntmps = true := by rfl) : Ret P f args imm hs post := zMd hf hb hn fun B _ _ => h B
theorem yM (hx : List HA) {ops' : List Oper} {pc d0 : Nat} {φi : Fact} {imm1 : Imm} {hs0 : List HA} {v : Value} (bK : imm1.le imm) (hφ : φi imm v hx) (h0 : ops'.drop pc = [] := by rfl) (hh : hs = hx++hs0 := by rfl) (hd : look m d0 = some v := by rfl) : R P n B ops' (OutQ n B φi (some d0) imm1 hs0) pc imm hs m :=
  zHw (hx := hx) h0 bK hh (fun _ e => by cases e; exact hd) hφ
theorem yA {id : Nat} {af : List Oper} {y : Code} (h : R P n B af (Exit.then (y.wp P Q) Q) 0 imm hs m) : J P n B ((Code.region id af.toArray false).seq y) Q imm hs m := yC (zM h)
theorem zZ {x y : Code} (h : J P n B x (Exit.then (y.wp P Q) Q) imm hs m) : T n B (Exit.then ((x.seq y).wp P Q) Q) .normal imm hs m := zK (yC h)
theorem yT {id : Nat} {af : List Oper} {y : Code} (h : R P n B af (Exit.then (y.wp P Q) Q) 0 imm hs m) : T n B (Exit.then (((Code.region id af.toArray false).seq y).wp P Q) Q) .normal imm hs m := zK (yA h)
theorem vK {id : Nat} {af : List Oper} {y : Code} (new : FM) (hR : T n B (Exit.then (y.wp P Q) Q) .normal imm hs (new++m)) (h : runD P n af hs 0 af.length [] (new.map (·.1)) m = some (new, [].map (blkAt hs)) := by kernel_rfl) : J P n B ((Code.region id af.toArray false).seq y) Q imm hs m := yA (wT [] new hR h)
theorem zEt {id : Nat} {af : List Oper} {y : Code} (new : FM) (hR : T n B (Exit.then (y.wp P Q) Q) .normal imm hs (new++m)) (h : runD P n af hs 0 af.length [] (new.map (·.1)) m = some (new, [].map (blkAt hs)) := by kernel_rfl) : T n B (Exit.then (((Code.region id af.toArray false).seq y).wp P Q) Q) .normal imm hs m := zK (vK new hR h)
theorem vZ {fn : Func} {post : Nat -> Imm -> List HA -> Value -> Prop} {v : Value} (h1 : ResV P m hs fn.results.toList [v] := by exact .tmp rfl ResV.nil) (h2 : post B.w0.heap.size imm [] (tupV [v]) := by exact ⟨_, rfl, rfl, rfl⟩) : T n B (QB P fn B post) .ret imm hs m := dB ⟨_, _, h1, zN, h2⟩
theorem dL {f : FuncId} {x : Operand} {xs : Array Operand} {ts : Array TypeId} {vs : List Value} {r : Int}
    (hc : Ret P f vs imm [] fun _ _ ah v => ∃ v0, ah = [] /\ v = tupV [v0] /\ v0 = .int .i64 r)
    (next : ∀ aq, imm.le aq -> R P n B af Q (pc+1) aq hs ((d, vI r) :: m))
    (ho : af[pc]? = some ⟨some d, .call { callee := .value x, args := xs, argTypes := ts }, ty, pos, after, g⟩ := by rfl) (hg : guardB af m g = some true := by rfl) (hn : Nat.blt d n = true := by rfl) (hx : val m x = some (.func (.func f) #[] #[]) := by rfl) (hf : callable P f = true := by kernel_rfl)
    (hvs : vals m xs.toList = some vs := by rfl) : R P n B af Q pc imm hs m :=
  xJ hc (fun aq ah v k h1 _ h3 _ => by obtain ⟨v0, rfl, rfl, rfl⟩ := h3; exact next aq h1) ho hg hn hx hf hvs
theorem vR {f : FuncId} {x : Operand} {xs : Array Operand} {ts : Array TypeId} {vs : List Value} {r : Bool}
    (hc : Ret P f vs imm [] fun _ _ ah v => ∃ v0, ah = [] /\ v = tupV [v0] /\ v0 = .bool r)
    (next : ∀ aq, imm.le aq -> R P n B af Q (pc+1) aq hs ((d, .bool r) :: m))
    (ho : af[pc]? = some ⟨some d, .call { callee := .value x, args := xs, argTypes := ts }, ty, pos, after, g⟩ := by rfl) (hg : guardB af m g = some true := by rfl) (hn : Nat.blt d n = true := by rfl) (hx : val m x = some (.func (.func f) #[] #[]) := by rfl) (hf : callable P f = true := by kernel_rfl)
    (hvs : vals m xs.toList = some vs := by rfl) : R P n B af Q pc imm hs m :=
  xJ hc (fun aq ah v k h1 _ h3 _ => by obtain ⟨v0, rfl, rfl, rfl⟩ := h3; exact next aq h1) ho hg hn hx hf hvs
theorem vC {id : Nat} {K1 K2 : Act -> World -> Prop} (h : T n B Q (.exit id) imm hs m) : J P n B (.exit id) (Exit.then K1 (Exit.then K2 Q)) imm hs m := zHq (dU (dU h))
theorem xL (h : T n B Q .ret imm hs m) : T n B (Exit.then ((Code.ret).wp P Q) Q) .normal imm hs m := zK (xF h)
theorem wQ {id : Nat} {c : Code} (h : J P n B c (Exit.inBlock id Q) imm hs m) : T n B (Exit.then ((Code.block id c).wp P Q) Q) .normal imm hs m := zK (yH h)
theorem zY (is : List Nat) {ah : List HA} (h : pick hs is = some ah := by rfl) (hn : is.Nodup := by decide) : ∀ w, Good B imm hs w -> Good B imm ah w := zW is h hn
theorem yS {t : TypeId} {x y : Operand} {b o : Nat} {c : Array Value} {v : Value} {ah : List HA} (j : Nat) (c' : List Value) (hq : stB hs j c' some = some ah) (next : R P n B af Q (pc+1) imm ah m) (ho : af[pc]? = some ⟨none, .store t x y, ty, pos, after, g⟩ := by rfl) (hj : hs[j]? = some (.blk b c) := by rfl) (hx : val m x = some (.pointer (some ⟨b, o, none⟩)) := by rfl) (hy : val m y = some v := by rfl) (hg : guardB af m g = some true := by kernel_rfl) (bU : sizeT P t = some v.cells.size := by kernel_rfl) (bV : Nat.ble (o+v.cells.size) c.size = true := by kernel_rfl) (bZ : v.cells.toList.all Value.oneCell' = true := by kernel_rfl) (hc : wr c o v.cells.toList = ⟨c'⟩ := by kernel_rfl) : R P n B af Q pc imm hs m :=
  eK j c' ah ho hj hx hy next hg bU bV bZ hc (by rw [zLl hj] at hq; exact Option.some.inj hq)
end
theorem bE {α β : Type} {o : Option α} {f : α -> Option β} {r : β} {G : Prop} (h : (o >>= f) = some r) (k : ∀ x, o = some x -> f x = some r -> G) : G := by
  obtain ⟨x, h1, h2⟩ := zB h
  exact k x h1 h2
theorem ct {α : Type} {o t : α} {P1 : Prop} {P2 P3 : α -> Prop} (hM : (pure t : Option α) = some o) (H : P1) (h2 : P2 t := by rfl) (h3 : P3 t := by rfl) : ∃ t', o = t' /\ P1 /\ P2 t' /\ P3 t' := ⟨t, (zE hM).symm, H, h2, h3⟩
abbrev NG (Q : Exit -> Act -> World -> Prop) : Prop := ∀ gl a w, ¬ Q (.goto gl) a w
abbrev NO (Q : Exit -> Act -> World -> Prop) : Prop := ∀ a w, ¬ Q .outgrown a w
abbrev cStmt (x : zG) (p0 : Option Addr) (c0 : Nat) (p1 : Option Addr) (c1 : Nat) (p2 : Option Addr) (c2 : Nat) (p3 : Option Addr) (c3 : Nat) : List Value := [vT x.Write.Array.l, vS p0 x.Write.Subs c0, vI x.Value.Kind, vI x.Value.Num, vS p1 x.Value.Index.Coefs c1, vI x.Value.Index.Const, vT x.Value.Read.Array.l, vS p2 x.Value.Read.Subs c2, vS p3 x.Value.Kids c3]
abbrev cExpr (x : zC) (p0 : Option Addr) (c0 : Nat) (p1 : Option Addr) (c1 : Nat) (p2 : Option Addr) (c2 : Nat) : List Value := [vI x.Kind, vI x.Num, vS p0 x.Index.Coefs c0, vI x.Index.Const, vT x.Read.Array.l, vS p1 x.Read.Subs c1, vS p2 x.Kids c2]
abbrev cAccess (x : zJ) (p0 : Option Addr) (c0 : Nat) : List Value := [vT x.Array.l, vS p0 x.Subs c0]
abbrev cAff (x : zA) (p0 : Option Addr) (c0 : Nat) : List Value := [vS p0 x.Coefs c0, vI x.Const]
abbrev cLoop (x : zF) (p0 : Option Addr) (c0 : Nat) (p1 : Option Addr) (c1 : Nat) : List Value := [vS p0 x.Lo c0, vS p1 x.Hi c1]
abbrev cPart (x : zL) (p0 : Option Addr) (c0 : Nat) (p1 : Option Addr) (c1 : Nat) : List Value := [vS p0 x.Nest c0, vS p1 x.Body c1]
abbrev cProg (x : zH) (p0 : Option Addr) (c0 : Nat) (p1 : Option Addr) (c1 : Nat) : List Value := [vS p0 x.Arrays c0, vS p1 x.Parts c1]
abbrev cArr (x : zD) (p0 : Option Addr) (c0 : Nat) : List Value := [vT x.Name.l, vS p0 x.Dims c0]
abbrev cRd (x : zO) (p0 : Option Addr) (c0 : Nat) : List Value := [vS p0 x.b c0, vI x.p]
abbrev cInst (x : zX) (p0 : Option Addr) (c0 : Nat) : List Value := [vI x.Part, vI x.Stmt, vS p0 x.Point c0]
abbrev zExpr : List Value := [vI 0, vI 0, .slice none 0 0, vI 0, vT ([]), .slice none 0 0, .slice none 0 0]
abbrev zTwo : List Value := [.slice none 0 0, .slice none 0 0]
abbrev z0 : Value := .slice none 0 0
abbrev vF : Value := .bool false
abbrev vY : Value := .bool true
abbrev KT := Nat -> Imm -> List HA -> Value -> Prop
theorem iS (i : Imm) : i.le i := Imm.le.refl i
theorem iR {i : Imm} : i.le i := Imm.le.refl i
abbrev S4 {α : Type} [Rp α] (imm : Imm) (p : Option Addr) (l : List α) (c : Nat) : Prop := SL imm (vS p l c) l
end Go.LN
namespace Go.LN
theorem zGb : ∀ {ks : List Nat} {m m' : FM}, keep m ks = some m' -> m'.map (·.1) = ks
  | [], m, m', h => by simp only [keep] at h; cases h; rfl
  | k :: ks, m, m', h => by
    simp only [keep] at h
    split at h
    · rename_i v m1 h1 h2; cases h; rw [cS, zGb h2]
    · cases h
theorem zER {P : Program} {n : Nat} {af : List Oper} {hs : List HA} {pc k : Nat} {js ks : List Nat} {m new : FM} {bs : List Nat} (h : runD P n af hs pc k js ks m = some (new, bs)) : new.map (·.1) = ks := by
  unfold runD at h
  split at h
  · split at h
    · rename_i hk; cases h; exact zGb hk
    · cases h
  · cases h
section
variable {P : Program} {n : Nat} {B : Base} {af : List Oper} {Q : Exit -> Act -> World -> Prop} {pc : Nat} {imm : Imm} {hs : List HA} {m new : FM} {d : Nat}
theorem yD (pc' : Nat) (js ks : List Nat) (h : runD P n af hs pc (pc' - pc) js ks m = some (new, js.map (blkAt hs))) (hR : R P n B af Q pc' imm hs (new++m))
    (hl : Nat.beq (pc+((af.drop pc).take (pc' - pc)).length) pc' = true := by kernel_rfl) : R P n B af Q pc imm hs m := vU pc' js new hR (by rw [zER h]; exact h) hl
theorem yL (js ks : List Nat) (h : runD P n af hs pc af.length js ks m = some (new, js.map (blkAt hs))) (hR : T n B Q .normal imm hs (new++m)) : R P n B af Q pc imm hs m := wT js new hR (by rw [zER h]; exact h)
theorem zAp (pc' : Nat) (js ks : List Nat) (h : runD P n af hs pc (pc' - pc) js ks m = some (new, js.map (blkAt hs))) (hR : Rq P n B af Q pc' imm hs (new++m))
    (hl : Nat.beq (pc+((af.drop pc).take (pc' - pc)).length) pc' = true := by kernel_rfl) : Rq P n B af Q pc imm hs m := zPH pc' js new hR (by rw [zER h]; exact h) hl
theorem zJk (js ks : List Nat) (h : runD P n af hs pc af.length js ks m = some (new, js.map (blkAt hs))) (hR : T n B Q .normal imm hs (new++m)) : Rq P n B af Q pc imm hs m := zLN js new hR (by rw [zER h]; exact h)
theorem yI {id : Nat} {af : List Oper} {y : Code} (ks : List Nat) (h : runD P n af hs 0 af.length [] ks m = some (new, [])) (hR : T n B (Exit.then (y.wp P Q) Q) .normal imm hs (new++m)) : J P n B ((Code.region id af.toArray false).seq y) Q imm hs m := yA (yL [] ks h hR)
theorem uJ {id : Nat} {af : List Oper} {y : Code} (ks : List Nat) (h : runD P n af hs 0 af.length [] ks m = some (new, [])) (hR : T n B (Exit.then (y.wp P Q) Q) .normal imm hs (new++m)) : T n B (Exit.then (((Code.region id af.toArray false).seq y).wp P Q) Q) .normal imm hs m := zK (yI ks h hR)
theorem yQ {e : Exit} {m' : FM} (h : T n B Q e imm hs m') (hk : keep m (m'.map (·.1)) = some m' := by kernel_rfl) : T n B Q e imm hs m := T_w m' h hk
theorem mC {c : Code} {m' : FM} (h : J P n B c Q imm hs m') (hk : keep m (m'.map (·.1)) = some m' := by kernel_rfl) : J P n B c Q imm hs m := pM m' h hk
theorem xD {its : List It} {gs : List (List HA)} {N : Nat} {l : List (Nat × Bool)} {ops' : List Oper} {m2 : FM} (ks : List Nat)
    (hi : (insM af its l m).bind (fun m1 => keep m1 ks) = some m2) (h : R P n B ops' Q pc imm hs m2) : Ins af (factsOf N its gs) imm l m hs fun m' ah => R P n B ops' Q pc imm ah m' :=
  I_h m2 h (by
    obtain ⟨m1, h1, h2⟩ := Option.bind_eq_some_iff.1 hi
    rw [zGb h2]; exact hi)
theorem wD (qs : List Nat) {c : Bool} {α : Type} {X Y : Option α} {r : α} (hM : (if c = true then X else Y) = some r) (ht : c = true -> X = some r -> R P n B af Q pc imm hs (qs.map (fun q => (q, Value.bool true))++m))
    (hf : c = false -> Y = some r -> R P n B af Q pc imm hs (qs.map (fun q => (q, Value.bool false))++m)) (hq : keep m qs = some (qs.map fun q => (q, Value.bool c)) := by kernel_rfl) : R P n B af Q pc imm hs m := by
  cases c with
  | true => exact zNk (fun a f => zIA hq (fun _ _ _ h => h) a f) (ht rfl hM)
  | false => exact zNk (fun a f => zIA hq (fun _ _ _ h => h) a f) (hf rfl hM)
theorem zIE (qs : List Nat) {c : Bool} {α : Type} {X Y : Option α} {r : α} (hM : (if c = true then X else Y) = some r) (ht : c = true -> X = some r -> Rq P n B af Q pc imm hs (qs.map (fun q => (q, Value.bool true))++m))
    (hf : c = false -> Y = some r -> Rq P n B af Q pc imm hs (qs.map (fun q => (q, Value.bool false))++m)) (hq : keep m qs = some (qs.map fun q => (q, Value.bool c)) := by kernel_rfl) : Rq P n B af Q pc imm hs m := by
  cases c with
  | true => exact zLi (fun a f => zIA hq (fun _ _ _ h => h) a f) (ht rfl hM)
  | false => exact zLi (fun a f => zIA hq (fun _ _ _ h => h) a f) (hf rfl hM)
theorem zPJ (α : Type) [Rp α] (h : RL imm [] ([] : List α) -> R P n B af Q pc imm (hO α (.slice none 0 0) [] :: hs) m) : R P n B af Q pc imm hs m := tU (fS (Rp.sz α)) (h RepL.nil)
theorem zAP (α : Type) [Rp α] {c : Code} (h : RL imm [] ([] : List α) -> J P n B c Q imm (hO α (.slice none 0 0) [] :: hs) m) : J P n B c Q imm hs m := qY (fS (Rp.sz α)) (h RepL.nil)
theorem mE {α : Type} [Rp α] {cs : List Value} {l : List α} (hr : RL imm cs l) {t len : Nat} {parts : Array (Nat × Operand)} {ps : List (Nat × Value)} {ty : TypeId} {pos : String} {after : Array Edge} {g : Option (Nat × Bool)}
    (next : ∀ b aq, imm.le aq -> SL aq (.slice (some ⟨b, 0, none⟩) len len) l -> R P n B af Q (pc+1) aq hs ((d, .slice (some ⟨b, 0, none⟩) len len) :: m))
    (ho : af[pc]? = some ⟨some d, .buildSlice t len parts, ty, pos, after, g⟩ := by rfl) (hg : guardB af m g = some true := by rfl) (hn : Nat.blt d n = true := by rfl) (hps : pvals m parts.toList = some ps := by rfl) (hc : elemZ P t len ps = some ⟨cs⟩ := by kernel_rfl) (hl : Nat.beq cs.length (len*Rp.sz α) = true := by kernel_rfl)
    (hlM : Nat.ble len 9223372036854775807 = true := by rfl) : R P n B af Q pc imm hs m :=
  tK cs α (fun b _ => wC 0 rfl fun aq bK hl0 => next b aq bK (SL.of_frozen hl0 bK hr)) ho hg hn hps hc hl hlM
theorem rC {f : FuncId} {x : Operand} {xs : Array Operand} {ts : Array TypeId} {vs : List Value} {hs1 rest : List HA} {post : Nat -> Imm -> List HA -> Value -> Prop} {ty : TypeId} {pos : String} {after : Array Edge} {g : Option (Nat × Bool)}
    (hc : Ret P f vs imm hs1 post) (hh : hs = hs1++rest)
    (next : ∀ aq ah v k, imm.le aq -> B.w0.heap.size<=k -> post k aq ah v -> (∀ b∈ah.flatMap HA.fp, b∈hs1.flatMap HA.fp∨B.w0.heap.size<=b) -> R P n B af Q (pc+1) aq (ah++rest) ((d, v) :: m))
    (ho : af[pc]? = some ⟨some d, .call { callee := .value x, args := xs, argTypes := ts }, ty, pos, after, g⟩ := by rfl) (hg : guardB af m g = some true := by rfl) (hn : Nat.blt d n = true := by rfl) (hx : val m x = some (.func (.func f) #[] #[]) := by rfl) (hf : callable P f = true := by kernel_rfl)
    (hvs : vals m xs.toList = some vs := by rfl) : R P n B af Q pc imm hs m := zPI hs1 rest hc next ho hg hn hx hf hvs hh
theorem wU {α γ : Type} {x : Option α} {f : α -> Option γ} {r : γ} {c : Code} (hM : (x >>= f) = some r) (hs0 : List HA) (mf : α -> FM)
    (h : ∀ o, x = some o -> J P n B c (Exit.then (fun a w => ∃ aq ah m', K1 o imm hs0 mf aq ah m' /\ Fr n a m' /\ Good B aq ah w) Q) imm hs m)
    (k : ∀ t aq, imm.le aq -> f t = some r -> T n B Q .normal aq hs0 (mf t)) : J P n B c Q imm hs m := by
  obtain ⟨o, h1, h2⟩ := zB hM
  refine nT (K1 o imm hs0 mf) (h o h1) ?_
  rintro aq _ _ ⟨t, rfl, bK, rfl, rfl⟩
  exact k _ aq bK h2
end
theorem rN {α : Type} [Rp α] {i : Imm} : RL i [] ([] : List α) := RepL.nil
theorem rc {α : Type} [Rp α] {i : Imm} {c1 c2 : List Value} {l : List α} (a : α) (h : Rp.rep i c1 a) (t : RL i c2 l) : RL i (c1++c2) (a :: l) := ⟨c1, c2, rfl, Rp.len h, h, t⟩
theorem rI {i : Imm} : ∀ (l : List Int), RL i (l.map vI) l
  | [] => RepL.nil
  | a :: l => ⟨[vI a], l.map vI, rfl, rfl, rfl, rI l⟩
theorem rT {i : Imm} : ∀ (l : List Str), RL i (l.map fun s => vT s.l) l
  | [] => RepL.nil
  | a :: l => ⟨[vT a.l], l.map fun s => vT s.l, rfl, rfl, rfl, rT l⟩
end Go.LN
namespace Go.LN
section
variable {P : Program} {n : Nat} {B : Base} {Q : Exit -> Act -> World -> Prop} {imm : Imm} {hs : List HA} {m : FM} {af : List Oper} {pc d : Nat} {ty : TypeId} {pos : String} {after : Array Edge} {g : Option (Nat × Bool)}
theorem zON {α β : Type} [Vr α] [Vr β] {x y : Operand} {ts : Array TypeId} {v va : Value} {a : α} {r : β} {φ : α -> Option β}
    (ho : af[pc]? = some ⟨some d, .call { callee := .value x, args := #[y], argTypes := ts }, ty, pos, after, g⟩) (hy : val m y = some va) (hF : FV1 P imm [] v φ) (hr : φ a = some r) (ha : Vr.rep imm va a)
    (next : ∀ aq u, imm.le aq -> Vr.rep aq u r -> R P n B af Q (pc+1) aq hs ((d, u) :: m)) (hx : val m x = some v := by kernel_rfl) (hg : guardB af m g = some true := by kernel_rfl) (hn : Nat.blt d n = true := by kernel_rfl) : R P n B af Q pc imm hs m :=
  zKT (rest := hs) ho hy hF hr ha rfl next hx hg hn
end
theorem Ret.fz {P : Program} {f : FuncId} {args : List Value} {imm : Imm} {hs : List HA} {post post' : Nat -> Imm -> List HA -> Value -> Prop} (h : Ret P f args imm hs post) (hp : ∀ k i h v, post k i h v -> ∃ A r, h = A :: r /\ A.plain = true /\ ∀ i', i.le i' -> Lent i' A -> post' k i' r v) : Ret P f args imm hs post' :=
  fun w g => (h w g).mono fun e w' he => by
    cases e with
    | returned v =>
      obtain ⟨i, ah, h1, h2⟩ := he
      obtain ⟨A, r, rfl, pl, h3⟩ := hp _ _ _ _ h1
      obtain ⟨i', le, hL, hg⟩ := Good.freeze h2 pl
      exact ⟨i', r, h3 i' le hL, hg⟩
    | panicked c => exact he
    | outgrown => exact he
end Go.LN
namespace Go.LN
section
variable {P : Program} {n : Nat} {B : Base} {af : List Oper} {Q : Exit -> Act -> World -> Prop} {pc : Nat} {imm : Imm} {hs : List HA} {m : FM} {d : Nat}
theorem resT {t : Nat} {v : Value} (h : look m t = some v) : ResV P m hs [.tmp t] [v] := .tmp h .nil
theorem resU {t t' : Nat} {v v' : Value} (h : look m t = some v) (h' : look m t' = some v') : ResV P m hs [.tmp t, .tmp t'] [v, v'] := .tmp h (.tmp h' .nil)
theorem resC {t : Nat} {ty : TypeId} {v : Value} {b : Nat} {c : Array Value} (j : Nat) (hj : hs[j]? = some (.blk b c)) (h : look m t = some (.pointer (some ⟨b, 0, none⟩))) (hv : loadV P ty c.toList = some v := by kernel_rfl) : ResV P m hs [.cell t ty] [v] := .cell j hj h hv .nil
theorem resE {t t' : Nat} {ty : TypeId} {v v' : Value} {b : Nat} {c : Array Value} (j : Nat) (hj : hs[j]? = some (.blk b c)) (h : look m t = some (.pointer (some ⟨b, 0, none⟩))) (h' : look m t' = some v') (hv : loadV P ty c.toList = some v := by kernel_rfl) : ResV P m hs [.cell t ty, .tmp t'] [v, v'] := .cell j hj h hv (.tmp h' .nil)
theorem zHO {fn : Func} {post : Nat -> Imm -> List HA -> Value -> Prop} {vs : List Value} {hs0 : List HA} (h1 : ResV P m hs fn.results.toList vs) (h2 : ∀ w, Good B imm hs w -> Good B imm hs0 w) (h3 : post B.w0.heap.size imm hs0 (tupV vs)) : T n B (QB P fn B post) .ret imm hs m := dB ⟨_, _, h1, h2, h3⟩
theorem xO {α : Type} {a r : α} {fn : Func} {post : α -> Nat -> Imm -> List HA -> Value -> Prop} {vs : List Value} {hs0 : List HA} (hM : (pure a : Option α) = some r) (h1 : ResV P m hs fn.results.toList vs) (h2 : ∀ w, Good B imm hs w -> Good B imm hs0 w) (h3 : post a B.w0.heap.size imm hs0 (tupV vs)) : T n B (QB P fn B (post r)) .ret imm hs m := by
  obtain rfl := zE hM
  exact dB ⟨_, _, h1, h2, h3⟩
theorem nG (h : ∀ gl a w, Q (.goto gl) a w -> False := by exact fun _ _ _ h => h) : NG Q := h
theorem nO (h : ∀ a w, Q .outgrown a w -> False := by exact fun _ _ h => h) : NO Q := h
theorem O2 {φ : List Fact} {hsC : List HA} {i : Nat} {v v1 : Value} {js js1 : List Nat} {r : List It} {l l1 : List (Nat × Bool)} {ins : List (List (Nat × Bool))} (h : ObX P n B af φ imm hsC m (i+1+1) r ins) : ObX P n B af φ imm hsC m i (.p v js :: .p v1 js1 :: r) (l :: l1 :: ins) := h
theorem O3 {φ : List Fact} {hsC : List HA} {i : Nat} {v v1 v2 : Value} {js js1 js2 : List Nat} {r : List It} {l l1 l2 : List (Nat × Bool)} {ins : List (List (Nat × Bool))} (h : ObX P n B af φ imm hsC m (i+1+1+1) r ins) : ObX P n B af φ imm hsC m i (.p v js :: .p v1 js1 :: .p v2 js2 :: r) (l :: l1 :: l2 :: ins) := h
theorem O4 {φ : List Fact} {hsC : List HA} {i : Nat} {v v1 v2 v3 : Value} {js js1 js2 js3 : List Nat} {r : List It} {l l1 l2 l3 : List (Nat × Bool)} {ins : List (List (Nat × Bool))} (h : ObX P n B af φ imm hsC m (i+1+1+1+1) r ins) : ObX P n B af φ imm hsC m i (.p v js :: .p v1 js1 :: .p v2 js2 :: .p v3 js3 :: r) (l :: l1 :: l2 :: l3 :: ins) := h
theorem vE {α : Type} {p : Option Addr} {c : Nat} {l l' : List α} (h : l'.length = l.length) : vS p l c = vS p l' c := by simp only [vS, h]
theorem zMq {α : Type} [Rp α] {t : TypeId} {x z : Operand} {ty : TypeId} {pos : String} {after : Array Edge} {g : Option (Nat × Bool)} {v0 : Value} {i : Int} {ad : Addr} {cs cc c : List Value} {v : Value} {l l' : List α} {y x' : α} (j o : Nat) (ap : AtO v0 (Rp.sz α) i.toNat ad) (bJ : (cs.drop (i.toNat*Rp.sz α)).take (Rp.sz α) = cc) (hr : RepL (Rp.rep imm) (Rp.sz α) cs l) (hy : idx l i = some y) (hl : (pure (l.set i.toNat x') : Option (List α)) = some l') (hx' : Rp.rep imm c x')
    (next : ∀ cs', RepL (Rp.rep imm) (Rp.sz α) cs' l' -> l'.length = l.length -> R P n B af Q (pc+1) imm (hs.set j (.osl v0 (Rp.sz α) cs')) m)
    (ho : af[pc]? = some ⟨none, .store t x z, ty, pos, after, g⟩ := by rfl) (hg : guardB af m g = some true := by rfl) (hj : hs[j]? = some (.osl v0 (Rp.sz α) cs) := by rfl) (hx : val m x = some (.pointer (some (ad.add o))) := by rfl) (hz : val m z = some v := by rfl)
    (bU : sizeT P t = some v.cells.size := by kernel_rfl) (bV : Nat.ble (o+v.cells.size) (Rp.sz α) = true := by kernel_rfl) (bZ : v.cells.toList.all Value.oneCell' = true := by kernel_rfl) (hc : cc.take o++v.cells.toList++cc.drop (o+v.cells.size) = c := by rfl) : R P n B af Q pc imm hs m := by
  obtain rfl := zE hl
  exact kS j o ho hg hj ap hx hz bJ bU bV bZ hr hy hc hx' next
end
end Go.LN
namespace Go.LN
theorem qO {x : Int} (h0 : -9223372036854775808<=x) (h1 : x<=9223372036854775807) : W x = x := by
  show IntKind.i64.wrap x = x
  rw [IntKind.wrap_i64]; omega
theorem zES {α : Type} (l : List α) (k : Nat) : idx l (k : Int) = l[k]? := by
  unfold idx
  simp
theorem zIF {k : Nat} (h : k<9223372036854775807) : W ((k : Int)+1) = ((k+1 : Nat) : Int) := by
  rw [qO (by omega) (by omega)]; omega
end Go.LN
namespace Go.LN
structure Raw2 where
  a : Value
  b : Value
instance : Rp Raw2 where
  sz := 2
  pos := by decide
  rep _ cs r := cs = [r.a, r.b] /\ r.a.oneCell' = true /\ r.b.oneCell' = true
  len h := by obtain ⟨rfl, _⟩ := h; rfl
  mono _ h := h
  one h := by obtain ⟨rfl, h1, h2⟩ := h; simp [h1, h2]
def flat : List Raw2 -> List Value
  | [] => []
  | r :: l => r.a :: r.b :: flat l
theorem zBx : ∀ (a b : List Raw2), flat (a++b) = flat a++flat b
  | [], _ => rfl
  | r :: a, b => by simp [flat, zBx a b]
theorem gI {imm : Imm} : ∀ {l : List Raw2} {cs : List Value}, RL imm cs l -> cs = flat l
  | [], cs, h => h
  | r :: l, cs, ⟨c1, c2, h1, _, h3, h4⟩ => by
    obtain ⟨rfl, _⟩ := h3
    rw [h1, gI h4]; rfl
def LP (imm : Imm) (aj : List Raw2) (parts : List zL) (vN : Value) (nl : List zF) (vB : Value) (bl : List zG) : Prop :=
  parts.length<=140737488355328 /\ aj.length = parts.length /\
    ((parts = [] /\ aj = []) ∨ ∃ rl l, parts = l++[⟨nl, bl⟩] /\ aj = rl++[⟨vN, vB⟩] /\ RepL (Rp.rep imm) (Rp.sz zL) (flat rl) l)
theorem LP.mono {i j : Imm} (hl : i.le j) {aj : List Raw2} {parts : List zL} {vN vB : Value} {nl : List zF} {bl : List zG} (h : LP i aj parts vN nl vB bl) : LP j aj parts vN nl vB bl := by
  obtain ⟨h1, h2, h3⟩ := h
  refine ⟨h1, h2, h3.imp id ?_⟩
  rintro ⟨rl, l, k1, k2, k3⟩
  exact ⟨rl, l, k1, k2, RepL.mono (fun _ _ => Rp.mono hl) k3⟩
structure L4 (imm : Imm) (cs : List Value) (arr : List zD) (aw : List Value) (aj : List Raw2) (parts : List zL) (vN : Value) (nl : List zF) (vB : Value) (bl : List zG) (csN csB : List Value) : Prop where
  arr : RL imm cs arr
  raw : RL imm aw aj
  lp : LP imm aj parts vN nl vB bl
  n : RL imm csN nl
  b : RL imm csB bl
theorem L4.mono {i j : Imm} (hl : i.le j) {cs : List Value} {arr : List zD} {aw : List Value} {aj : List Raw2} {parts : List zL} {vN vB : Value} {nl : List zF} {bl : List zG} {csN csB : List Value}
    (h : L4 i cs arr aw aj parts vN nl vB bl csN csB) : L4 j cs arr aw aj parts vN nl vB bl csN csB :=
  ⟨RepL.mono (fun _ _ => Rp.mono hl) h.arr, RepL.mono (fun _ _ => Rp.mono hl) h.raw, h.lp.mono hl, RepL.mono (fun _ _ => Rp.mono hl) h.n, RepL.mono (fun _ _ => Rp.mono hl) h.b⟩
theorem LP.len {imm : Imm} {aj : List Raw2} {parts : List zL} {vN vB : Value} {nl : List zF} {bl : List zG} (h : LP imm aj parts vN nl vB bl) : (parts.length : Int) = (aj.length : Int) := by rw [h.2.1]
theorem LP.last {imm : Imm} {aj : List Raw2} {parts : List zL} {vN vB : Value} {nl : List zF} {bl : List zG} (h : LP imm aj parts vN nl vB bl) {x : zL} (hx : idx parts (W ((aj.length : Int) - 1)) = some x) :
    x = ⟨nl, bl⟩ /\ idx aj (W ((aj.length : Int) - 1)) = some ⟨vN, vB⟩ /\
      ∀ vN' nl' vB' bl', LP imm (aj.set (W ((aj.length : Int) - 1)).toNat ⟨vN', vB'⟩) (parts.set (W ((aj.length : Int) - 1)).toNat ⟨nl', bl'⟩) vN' nl' vB' bl' := by
  obtain ⟨h1, h2, h3⟩ := h
  have hW : W ((aj.length : Int) - 1) = (aj.length : Int) - 1 := qO (by omega) (by omega)
  rw [hW] at hx ⊢
  rcases h3 with ⟨rfl, rfl⟩ | ⟨rl, l, rfl, rfl, h4⟩
  · simp [idx] at hx
  · have hl : l.length = rl.length := by simpa using h2.symm
    have e : (((rl++[(⟨vN, vB⟩ : Raw2)]).length : Int) - 1).toNat = rl.length := by simp
    have e0 : (0 : Int)<=((rl++[(⟨vN, vB⟩ : Raw2)]).length : Int) - 1 := by simp
    unfold idx at hx ⊢
    rw [if_pos e0, e] at hx ⊢
    rw [<- hl] at hx
    refine ⟨by simpa using hx.symm, by simp, fun vN' nl' vB' bl' => ⟨?_, ?_, .inr ⟨rl, l, ?_, ?_, h4⟩⟩⟩
    · simpa using h1
    · simpa using h2
    · rw [<- hl]; simp
    · simp
theorem LP.part {imm : Imm} {aj : List Raw2} {parts : List zL} {vN vB : Value} {nl : List zF} {bl : List zG} (h : LP imm aj parts vN nl vB bl) (hN : SL imm vN nl) (hB : SL imm vB bl) {l1 : List zL}
    (ha : app 48 parts [(⟨[], []⟩ : zL)] = some l1) : LP imm (aj++[⟨.slice none 0 0, .slice none 0 0⟩]) l1 (.slice none 0 0) [] (.slice none 0 0) [] := by
  obtain ⟨hb, rfl⟩ := zBF ha
  obtain ⟨h1, h2, h3⟩ := h
  refine ⟨?_, ?_, .inr ⟨aj, parts, rfl, rfl, ?_⟩⟩
  · simp at hb ⊢; omega
  · simp [h2]
  · rcases h3 with ⟨rfl, rfl⟩ | ⟨rl, l, rfl, rfl, h4⟩
    · rfl
    · rw [zBx]
      exact h4.append (.single rfl (uY ⟨_, _, rfl, hN, hB⟩))
theorem zFd {α β : Type} {b : Nat} {l : List α} {m : List α} {l' : List β} {m' : List β} {y : List α} (h : app b l m = some y) (h1 : l'.length = l.length) (h2 : m'.length = m.length) : app b l' m' = some (l'++m') := by
  obtain ⟨k, _⟩ := zBF h
  unfold app
  rw [h1, h2, if_pos k]
theorem LP.done {imm : Imm} {aj : List Raw2} {parts : List zL} {vN vB : Value} {nl : List zF} {bl : List zG} (h : LP imm aj parts vN nl vB bl) (hN : SL imm vN nl) (hB : SL imm vB bl) : RepL (Rp.rep imm) (Rp.sz zL) (flat aj) parts := by
  obtain ⟨h1, h2, h3⟩ := h
  rcases h3 with ⟨rfl, rfl⟩ | ⟨rl, l, rfl, rfl, h4⟩
  · rfl
  · rw [zBx]
    exact h4.append (.single rfl (uY ⟨_, _, rfl, hN, hB⟩))
section
variable {P : Program} {n : Nat} {B : Base} {Q : Exit -> Act -> World -> Prop} {imm : Imm} {hs : List HA} {m : FM} {af : List Oper} {pc d : Nat} {ty : TypeId} {pos : String} {after : Array Edge} {g : Option (Nat × Bool)}
theorem zOO {t : TypeId} {x y : Operand} {b o : Nat} {c : Array Value} {v : Value} (j : Nat) (c' : List Value) (ah : List HA) (ho : af[pc]? = some ⟨none, .store t x y, ty, pos, after, g⟩) (hj : hs[j]? = some (.blk b c)) (hx : val m x = some (.pointer (some ⟨b, o, none⟩))) (hy : val m y = some v) (bZ : v.cells.toList.all Value.oneCell' = true) (next : R P n B af Q (pc+1) imm ah m) (hg : guardB af m g = some true := by kernel_rfl) (bU : sizeT P t = some v.cells.size := by kernel_rfl) (bV : Nat.ble (o+v.cells.size) c.size = true := by kernel_rfl) (hc : wr c o v.cells.toList = ⟨c'⟩ := by kernel_rfl) (hh : hs.set j (.blk b ⟨c'⟩) = ah := by rfl) : R P n B af Q pc imm hs m :=
  zHI j ho hg hj hx hy bU bV bZ hc hh next
end
end Go.LN
namespace Go.LN
open Go.RowKit
theorem Good.below {imm : Imm} {w w' : World} (h : Good ⟨w, imm, []⟩ imm [] w) (b : Below w.heap.size w w') (hd : w.drawn<=w'.drawn) : Good ⟨w, imm, []⟩ imm [] w' := by
  refine ⟨fun k c e => ?_, by simp, by simp, ⟨b.os, b.tape, b.output, b.size, fun k hk _ => b.block k hk, fun _ _ _ => rfl, hd⟩⟩
  obtain ⟨ty, fr, e'⟩ := h.inv k c e
  exact ⟨ty, fr, (b.block k (h.lt_imm e)).trans e'⟩
theorem Good.cell {B : Base} {imm : Imm} {hs : List HA} {w : World} (h : Good B imm hs w) {g : Nat} {v : Value} (e : imm g = some #[v]) : w.cell? ⟨g, 0, none⟩ = some v := by
  obtain ⟨ty, fr, e'⟩ := h.inv _ _ e
  simp only [World.cell?, e']
  simp
theorem zMM {P : Program} {f : FuncId} {args : List Value} {imm : Imm} {v : Value} {post : Nat -> Imm -> List HA -> Value -> Prop}
    (h : ∀ w, Good ⟨w, imm, []⟩ imm [] w -> Calls P f args.toArray w fun e w' => e = .returned v /\ Below w.heap.size w w' /\ w.drawn<=w'.drawn) (hp : ∀ k, post k imm [] v) : Ret P f args imm [] post := fun w g =>
  (h w g).mono fun e w' ⟨he, hb, hd⟩ => by
    subst he
    exact ⟨imm, [], hp _, g.below hb hd⟩
theorem At.of_blk {imm : Imm} {b : Nat} {cs : List Value} (h : imm b = some ⟨cs⟩) : At imm ⟨b, 0, none⟩ cs := ⟨b, 0, _, rfl, h, by simp, by simp⟩
section
variable {P : Program} {n : Nat} {B : Base} {af : List Oper} {Q : Exit -> Act -> World -> Prop} {pc : Nat} {imm : Imm} {hs : List HA} {m : FM} {d : Nat}
  {ty : TypeId} {pos : String} {after : Array Edge} {g : Option (Nat × Bool)}
end
end Go.LN
namespace Go.LN
section
variable {P : Program} {n : Nat} {B : Base} {Q : Exit -> Act -> World -> Prop} {imm : Imm} {hs : List HA} {m : FM} {af : List Oper} {pc d : Nat} {ty : TypeId} {pos : String} {after : Array Edge} {g : Option (Nat × Bool)}
theorem zJl {t e : TypeId} {w : World} {p : Option Addr} {l c : Nat} (hu : P.underlying t = some (.slice e)) : (Op.equal t (.slice p l c) (.slice none 0 0)).run P w = .ok p.isNone w := by
  have h : ∀ d, (Op.equalIn (d+1) t (.slice p l c) (.slice none 0 0)).run P w = .ok p.isNone w := fun d => by
    rw [Op.equalIn]
    cases p <;> simp [wJ hu]
  exact h 9999
def sliceT (P : Program) (t : TypeId) : Bool := match P.underlying t with | some (.slice _) => true | _ => false
theorem zPE {t t2 : TypeId} {x : Operand} {p : Option Addr} {l c : Nat} (b : Bool) (ho : af[pc]? = some ⟨some d, .binOp .eql t x (.const (.slice none 0 0)) t2, ty, pos, after, g⟩) (hb : p.isNone = b)
    (next : R P n B af Q (pc+1) imm hs ((d, .bool b) :: m)) (hx : val m x = some (.slice p l c)) (hg : guardB af m g = some true := by kernel_rfl) (hn : Nat.blt d n = true := by kernel_rfl) (ht : sliceT P t = true := by kernel_rfl) : R P n B af Q pc imm hs m := by
  unfold sliceT at ht
  split at ht
  · rename_i e hu
    refine dO ho hg rfl hn fun a w f gd => ⟨.bool b, w, imm, hs, ?_, gd, next⟩
    have hy : a.eval (.const (.slice none 0 0)) = .slice none 0 0 := rfl
    simp [execOp, f.eval hx, hy, eqGuard, binOp, zJl hu, hb]
  · cases ht
end
end Go.LN
namespace Go.LN
section
variable {P : Program} {n : Nat} {B : Base} {Q : Exit -> Act -> World -> Prop} {imm : Imm} {hs : List HA} {m : FM}
theorem zCN {c : Code} (ah : List HA) (hp : ah.Perm hs) (h : J P n B c Q imm ah m) : J P n B c Q imm hs m := fun a w f g => h a w f (g.perm hp)
theorem zEu {e : Exit} (ah : List HA) (hp : ah.Perm hs) (h : T n B Q e imm ah m) : T n B Q e imm hs m := fun a w f g => h a w f (g.perm hp)
theorem zMr {c : Code} (hF : False) {aq : Imm} {ah : List HA} {m' : FM} (next : T n B Q .normal aq ah m') : J P n B c Q imm hs m := hF.elim
theorem zLP {c : Code} {L : List HA} (x : Exit) (S : Imm -> List HA -> FM -> Prop) (h1 : ∀ B' : Base, J P n B' c (fun e a w => e = x /\ ∃ aq ah m', S aq ah m' /\ Fr n a m' /\ Good B' aq ah w) imm hs m)
    (h2 : ∀ aq ah m', S aq ah m' -> imm.le aq -> T n B Q x aq (ah++L) m') : J P n B c Q imm (hs++L) m := fun a w f g => by
  have bX := g.nodup
  rw [dj] at bX
  have hg1 := g.enter (hs1 := hs) (fun A hA => da _ hA) (cL.1 bX).1
  refine wp_mono (h1 _ a w f hg1) fun e a' w' he => ?_
  obtain ⟨rfl, aq, ah, m', k1, k2, k3⟩ := he
  obtain ⟨k4, k5, _⟩ := g.leave k3
  exact h2 aq ah m' k1 k5 a' w' k2 k4
theorem zLQ {B' : Base} {x : Exit} {S : Imm -> List HA -> FM -> Prop} (h : S imm hs m) : T n B' (fun e a w => e = x /\ ∃ aq ah m', S aq ah m' /\ Fr n a m' /\ Good B' aq ah w) x imm hs m := fun _ _ f g => ⟨rfl, imm, hs, m, h, f, g⟩
end
structure NL where
  pl : Option Addr
  lo : List zA
  cl : Nat
  csl : List Value
  ph : Option Addr
  hi : List zA
  ch : Nat
  csh : List Value
def NL.vl (x : NL) : Value := vS x.pl x.lo x.cl
def NL.vh (x : NL) : Value := vS x.ph x.hi x.ch
def NL.ha (x : NL) : List HA := [hO zA x.vh x.csh, hO zA x.vl x.csl]
def NL.raw (x : NL) : Raw2 := ⟨x.vl, x.vh⟩
def NL.d (x : NL) : zF := ⟨x.lo, x.hi⟩
def NL.ok (imm : Imm) (x : NL) : Prop := RL imm x.csl x.lo /\ RL imm x.csh x.hi
def NL.fz (imm : Imm) (x : NL) : Prop := SL imm x.vl x.lo /\ SL imm x.vh x.hi
theorem NL.ok.mono {i j : Imm} (h : i.le j) {x : NL} (hx : x.ok i) : x.ok j := ⟨RepL.mono (fun _ _ => Rp.mono h) hx.1, RepL.mono (fun _ _ => Rp.mono h) hx.2⟩
theorem NL.fz.mono {i j : Imm} (h : i.le j) {x : NL} (hx : x.fz i) : x.fz j := ⟨hx.1.mono h, hx.2.mono h⟩
abbrev NLs (xs : List NL) : List HA := xs.flatMap NL.ha
theorem zMs {xs : List NL} {k : Nat} {x : NL} (h : xs[k]? = some x) : ∃ ys, (NLs xs).Perm (x.ha++NLs ys) /\ (∀ y∈ys, y∈xs) /\ ∀ i : Nat, ∀ y, i ≠ k -> xs[i]? = some y -> y∈ys := by
  obtain ⟨hk, rfl⟩ := ci.1 h
  refine ⟨xs.eraseIdx k, ?_, fun y hy => List.mem_of_mem_eraseIdx hy, fun i y hi hy => List.mem_eraseIdx_iff_getElem?.2 ⟨i, hi, hy⟩⟩
  have := (fF h).flatMap_right NL.ha
  simpa [NLs] using this
section
variable {P : Program} {n : Nat} {B : Base} {Q : Exit -> Act -> World -> Prop} {hs : List HA} {m : FM}
theorem zCZ {c : Code} : ∀ (xs : List NL) {imm : Imm}, (∀ x∈xs, x.ok imm) -> (∀ aq, imm.le aq -> (∀ x∈xs, x.fz aq) -> J P n B c Q aq hs m) -> J P n B c Q imm (NLs xs++hs) m
  | [], imm, _, h => h imm (Imm.le.refl _) (fun _ h => by cases h)
  | x :: xs, imm, hx, h => by
    have h1 := hx x (cm ..)
    show J P n B c Q imm (hO zA x.vh x.csh :: hO zA x.vl x.csl :: (NLs xs++hs)) m
    refine oJ 0 rfl ?_
    intro imm1 ae hl1
    have k1 := SL.of_frozen hl1 ae h1.2
    refine oJ 0 rfl ?_
    intro imm2 aB hl2
    have k2 := SL.of_frozen hl2 aB (RepL.mono (fun _ _ => Rp.mono ae) h1.1)
    refine zCZ xs (fun y hy => (hx y (cj _ hy)).mono (ae.trans aB)) ?_
    intro imm3 aF h3
    refine h imm3 ((ae.trans aB).trans aF) fun y hy => ?_
    rcases cQ.1 hy with rfl | hy
    · exact ⟨k2.mono aF, (k1.mono aB).mono aF⟩
    · exact h3 y hy
end
theorem zCs {α β : Type} {f : α -> β} {l : List α} {i : Int} {y : β} (h : idx (l.map f) i = some y) : ∃ x, idx l i = some x /\ y = f x := by
  obtain ⟨h0, h1, h2⟩ := sS h
  rw [dn, Option.map_eq_some_iff] at h2
  obtain ⟨x, h3, rfl⟩ := h2
  exact ⟨x, by unfold idx; rw [if_pos h0, h3], rfl⟩
theorem zA7 {α β : Type} {f : α -> β} {l : List α} {i : Int} {x : α} (h : idx l i = some x) : idx (l.map f) i = some (f x) := by
  obtain ⟨h0, h1, h2⟩ := sS h
  unfold idx; rw [if_pos h0, dn, h2]; rfl
section
variable {P : Program} {n : Nat} {B : Base} {Q : Exit -> Act -> World -> Prop} {hs : List HA} {m : FM} {imm : Imm}
theorem zMt {c : Code} {xs : List NL} {i : Int} {x : NL} (hx : idx xs i = some x) (bP : ∀ x∈xs, x.ok imm) (h : ∀ aq, imm.le aq -> (∀ (j : Nat) y, j ≠ i.toNat -> xs[j]? = some y -> y.fz aq) -> J P n B c Q aq (hO zA x.vh x.csh :: hO zA x.vl x.csl :: hs) m) : J P n B c Q imm (NLs xs++hs) m := by
  obtain ⟨h0, h1, h2⟩ := sS hx
  obtain ⟨ys, k1, k2, k3⟩ := zMs h2
  refine zCN (NLs ys++(x.ha++hs)) ?_ ?_
  · rw [<- cv]
    exact (cG.trans k1.symm).append_right hs
  · refine zCZ ys (fun y hy => bP y (k2 y hy)) ?_
    intro imm1 ae hf
    exact h imm1 ae fun j y hj hy => hf y (k3 j y hj hy)
end
def PW (imm : Imm) (aj : List Raw2) (nest : List zF) : Prop := aj.length = nest.length /\ ∀ (j : Nat) r d, aj[j]? = some r -> nest[j]? = some d -> SL imm r.a d.Lo /\ SL imm r.b d.Hi
theorem PW.rl {imm : Imm} : ∀ {aj : List Raw2} {nest : List zF}, PW imm aj nest -> RL imm (flat aj) nest
  | [], [], _ => rfl
  | [], _ :: _, h => by cases h.1
  | _ :: _, [], h => by cases h.1
  | r :: aj, d :: nest, h => ⟨[r.a, r.b], flat aj, rfl, rfl, uM ⟨_, _, rfl, h.2 0 r d rfl rfl⟩, PW.rl ⟨by have := h.1; simpa using this, fun j r' d' h1 h2 => h.2 (j+1) r' d' (by simpa using h1) (by simpa using h2)⟩⟩
theorem zJm {imm : Imm} {xs : List NL} {k : Nat} {r : Raw2} {d : zF} (hfz : ∀ (j : Nat) y, j ≠ k -> xs[j]? = some y -> y.fz imm) (hr : SL imm r.a d.Lo /\ SL imm r.b d.Hi) : PW imm ((xs.map NL.raw).set k r) ((xs.map NL.d).set k d) := by
  refine ⟨by simp, fun j r' d' h1 h2 => ?_⟩
  by_cases hj : j = k
  · subst hj
    rw [List.getElem?_set_self' ] at h1 h2
    cases hx : xs[j]? with
    | none => simp [hx] at h1
    | some y =>
      simp [hx] at h1 h2
      subst h1; subst h2
      exact hr
  · rw [List.getElem?_set_ne (fun e => hj e.symm), dn, Option.map_eq_some_iff] at h1 h2
    obtain ⟨y, h3, rfl⟩ := h1
    obtain ⟨y', h4, rfl⟩ := h2
    rw [h3] at h4
    cases h4
    exact hfz j y hj h3
theorem NL.shut {imm : Imm} {x : NL} (h : x.fz imm) : Rp.rep imm [x.vl, x.vh] x.d := uM ⟨_, _, rfl, h.1, h.2⟩
theorem zIG {imm : Imm} : ∀ {xs : List NL}, (∀ x∈xs, x.fz imm) -> RL imm (flat (xs.map NL.raw)) (xs.map NL.d)
  | [], _ => rfl
  | x :: xs, h => ⟨[x.vl, x.vh], flat (xs.map NL.raw), rfl, rfl, NL.shut (h x (cm ..)), zIG fun y hy => h y (cj _ hy)⟩
theorem LP.push {imm : Imm} {aj : List Raw2} {parts : List zL} {vN vB vN' vB' : Value} {nl nl' : List zF} {bl bl' : List zG} (h : LP imm aj parts vN nl vB bl) (hN : SL imm vN nl) (hB : SL imm vB bl) {l1 : List zL}
    (ha : app 48 parts [(⟨nl', bl'⟩ : zL)] = some l1) : LP imm (aj++[⟨vN', vB'⟩]) l1 vN' nl' vB' bl' := by
  obtain ⟨hb, rfl⟩ := zBF ha
  obtain ⟨h1, h2, h3⟩ := h
  refine ⟨?_, ?_, .inr ⟨aj, parts, rfl, rfl, ?_⟩⟩
  · simp at hb ⊢; omega
  · simp [h2]
  · rcases h3 with ⟨rfl, rfl⟩ | ⟨rl, l, rfl, rfl, h4⟩
    · rfl
    · rw [zBx]
      exact h4.append (.single rfl (uY ⟨_, _, rfl, hN, hB⟩))
theorem LP.nil {imm : Imm} : LP imm [] [] (.slice none 0 0) [] (.slice none 0 0) [] := ⟨by decide, rfl, .inl ⟨rfl, rfl⟩⟩
end Go.LN
