/- Helper of the proof (see the last text). -/
import Derived.Test.YtmlnffbepjijhaaGreatLnH
import Derived.Laws.BitsLemmas
import Derived.Sort.Grow
import Derived.Lib.LaidTab
import Derived.Lib.ItoaNum
import Derived.Lib.ItoaMem
import Derived.Sort.Row
import Derived.Lib.AtoiErrMem
import Derived.Lib.AtoiTie
import Derived.Lib.SplitLaws
import Derived.Lib.AtoiAll
set_option linter.unusedVariables false
set_option linter.unusedSimpArgs false
namespace Go.LN
abbrev RL {α : Type} [Rp α] (imm : Imm) (cs : List Value) (l : List α) : Prop := RepL (Rp.rep imm) (Rp.sz α) cs l
class MonoI (p : Imm -> Prop) : Prop where
  mono : ∀ i j, i.le j -> p i -> p j
instance zG5 {q : Prop} : MonoI (fun _ => q) := ⟨fun _ _ _ h => h⟩
instance zIm {p q : Imm -> Prop} [hp : MonoI p] [hq : MonoI q] : MonoI (fun i => p i /\ q i) := ⟨fun i j hl h => ⟨hp.mono i j hl h.1, hq.mono i j hl h.2⟩⟩
instance zJd {α : Type} {p : Imm -> α -> Prop} [hp : ∀ x, MonoI (fun i => p i x)] : MonoI (fun i => ∃ x, p i x) := ⟨fun i j hl ⟨x, h⟩ => ⟨x, (hp x).mono i j hl h⟩⟩
instance zMT {α : Type} [Rp α] {v : Value} {l : List α} : MonoI (fun i => SL i v l) := ⟨fun _ _ hl h => h.mono hl⟩
instance zMU {ad : Addr} {cs : List Value} : MonoI (fun i => At i ad cs) := ⟨fun _ _ hl h => h.mono hl⟩
instance zMV {α : Type} [Rp α] {cs : List Value} {l : List α} : MonoI (fun i => RepL (Rp.rep i) (Rp.sz α) cs l) := ⟨fun _ _ hl h => RepL.mono (fun _ _ => Rp.mono hl) h⟩
instance zLg {α : Type} [Rp α] {cs : List Value} {a : α} : MonoI (fun i => Rp.rep i cs a) := ⟨fun _ _ hl h => Rp.mono hl h⟩
def FP {α : Type} [Rp α] (imm : Imm) (v : Value) (o : Option α) : Prop := match o with
  | none => v = .pointer none
  | some x => ∃ ad cs, v = .pointer (some ad) /\ At imm ad cs /\ Rp.rep imm cs x
theorem FP.mono {α : Type} [Rp α] {imm imm' : Imm} {v : Value} {o : Option α} (h : FP imm v o) (hl : imm.le imm') : FP imm' v o := by
  cases o with
  | none => exact h
  | some x =>
    obtain ⟨ad, cs, e, h1, h2⟩ := h
    exact ⟨ad, cs, e, h1.mono hl, Rp.mono hl h2⟩
instance zMW {α : Type} [Rp α] {v : Value} {o : Option α} : MonoI (fun i => FP i v o) := ⟨fun _ _ hl h => h.mono hl⟩
inductive It where
  | p (v : Value) (js : List Nat)
  | q (v : Value)
  | x (f : Fact)
def It.fact : It -> Fact
  | .p v _ => fun _ u hx => u = v /\ hx = []
  | .q v => fun _ u hx => u = v /\ hx = []
  | .x f => f
def gfact (g : List HA) : Fact := fun _ _ hx => hx = g
def factsOf (N : Nat) (its : List It) (gs : List (List HA)) : List Fact := its.map It.fact++(List.replicate (N - its.length) nofact++gs.map gfact)
def insM (ops : List Oper) (its : List It) : List (Nat × Bool) -> FM -> Option FM
  | [], m => some m
  | (j, c) :: r, m => match its[j]?, c, dstAt ops j with
    | some (.p v _), false, some d => insM ops its r ((d, v) :: m)
    | some (.q v), false, some d => insM ops its r ((d, v) :: m)
    | _, _, _ => none
def autoL (P : Program) (n : Nat) (ops : List Oper) (hsC : List HA) (m : FM) (its : List It) : Nat -> List It -> List (List (Nat × Bool)) -> Option (List Value × List Nat)
  | _, [], [] => some ([], [])
  | i, .x _ :: r, _ :: ins => autoL P n ops hsC m its (i+1) r ins
  | i, .q _ :: r, _ :: ins => autoL P n ops hsC m its (i+1) r ins
  | i, .p _ js :: r, l :: ins => match ops[i]?, insM ops its l m, autoL P n ops hsC m its (i+1) r ins with
    | some o, some m', some (vs, bs) => match runX P n (ops.take (i+1)) hsC [o] js m' with
      | some ((_, v) :: _, bs') => some (v :: vs, bs'++bs)
      | _ => none
    | _, _, _ => none
  | _, _, _ => none
def valsOf : List It -> List Value
  | [] => []
  | .p v _ :: r => v :: valsOf r
  | .x _ :: r => valsOf r
  | .q _ :: r => valsOf r
def blksOf (hs : List HA) : List It -> List Nat
  | [] => []
  | .p _ js :: r => js.map (blkAt hs)++blksOf hs r
  | .x _ :: r => blksOf hs r
  | .q _ :: r => blksOf hs r
def ObX (P : Program) (n : Nat) (B : Base) (ops : List Oper) (φ : List Fact) (imm : Imm) (hsC : List HA) (m : FM) : Nat -> List It -> List (List (Nat × Bool)) -> Prop
  | _, [], [] => True
  | i, .p _ _ :: r, _ :: ins => ObX P n B ops φ imm hsC m (i+1) r ins
  | i, .q _ :: r, l :: ins => Obl P n B ops φ imm hsC m i l /\ ObX P n B ops φ imm hsC m (i+1) r ins
  | i, .x f :: r, l :: ins => (∀ v hx, MonoI (fun i => f i v hx)) /\ Obl P n B ops φ imm hsC m i l /\ ObX P n B ops φ imm hsC m (i+1) r ins
  | _, _, _ => False
section
variable {P : Program} {n : Nat} {B : Base} {Q : Exit -> Act -> World -> Prop} {imm : Imm} {hs : List HA} {m : FM} {ops : List Oper}
theorem Op {φ : List Fact} {hsC : List HA} {i : Nat} {v : Value} {js : List Nat} {r : List It} {l : List (Nat × Bool)} {ins : List (List (Nat × Bool))} (h : ObX P n B ops φ imm hsC m (i+1) r ins) : ObX P n B ops φ imm hsC m i (.p v js :: r) (l :: ins) := h
theorem Ox {φ : List Fact} {hsC : List HA} {i : Nat} {f : Fact} {r : List It} {l : List (Nat × Bool)} {ins : List (List (Nat × Bool))}
    (ho : ∀ imm1 hf, imm.le imm1 -> Ins ops φ imm1 l m (hsC++hf) fun m' hs' => R P n B (ops.take (i+1)) (OutQ n B (φ.getD i nofact) (dstAt ops i) imm1 (hsC++hf)) i imm1 hs' m')
    (h : ObX P n B ops φ imm hsC m (i+1) r ins) (hm : ∀ v hx, MonoI (fun i => f i v hx) := by
      intro v hx
      repeat' (first | exact zG5 | exact zMW | exact zMT | exact zMU | exact zMV | exact zLg | refine @zJd _ _ (fun _ => ?_) | refine @zIm _ _ ?_ ?_)) : ObX P n B ops φ imm hsC m i (.x f :: r) (l :: ins) := ⟨hm, fun imm1 hf hl _ => ho imm1 hf hl, h⟩
theorem Oq {φ : List Fact} {hsC : List HA} {i : Nat} {v : Value} {r : List It} {l : List (Nat × Bool)} {ins : List (List (Nat × Bool))}
    (ho : ∀ imm1 hf, imm.le imm1 -> Ins ops φ imm1 l m (hsC++hf) fun m' hs' => R P n B (ops.take (i+1)) (OutQ n B (φ.getD i nofact) (dstAt ops i) imm1 (hsC++hf)) i imm1 hs' m')
    (h : ObX P n B ops φ imm hsC m (i+1) r ins) : ObX P n B ops φ imm hsC m i (.q v :: r) (l :: ins) := ⟨fun imm1 hf hl _ => ho imm1 hf hl, h⟩
theorem Bor.at {φ : List Fact} {l : List (Nat × Bool)} {hf : List HA} {j : Nat} (h : Bor ops φ imm l hf) (hj : (j, false)∈l) (hN : Nat.ble ops.length j = true) {g : List HA} (hg : φ.getD j nofact = gfact g) : ∃ hf', hf.Perm (g++hf') := by
  obtain ⟨v, hx, hf', h1, h2⟩ := h _ hj rfl (Nat.le_of_ble_eq_true hN)
  rw [hg] at h1
  have h1 : hx = g := h1
  subst h1
  exact ⟨hf', h2⟩
theorem On {φ : List Fact} {hsC : List HA} {i : Nat} : ObX P n B ops φ imm hsC m i [] [] := trivial
theorem zKh {hsC hf : List HA} {ops : List Oper} {j : Nat} {o : Oper} {r : FM × Nat} (h : load1 P n ops hsC j m o = some r) : load1 P n ops (hsC++hf) j m o = some r /\ blkAt (hsC++hf) j = blkAt hsC j := by
  obtain ⟨m', b⟩ := r
  obtain ⟨d, t, x, ty, pos, after, g, pb, off, c, cs, v, rfl, rfl, rfl, hg, hn, hj, hv, hle, hc, hlv⟩ := zFu h
  have hlt := (List.getElem?_eq_some_iff.1 hj).1
  have e : (hsC++hf)[j]? = hsC[j]? := List.getElem?_append_left hlt
  refine ⟨?_, by simp only [blkAt, e]⟩
  unfold load1 at h ⊢
  simp only [e]
  exact h
theorem zFv {hsC hf : List HA} {ops : List Oper} : ∀ {l : List Oper} {js : List Nat} {m : FM} {r : FM × List Nat}, runX P n ops hsC l js m = some r -> runX P n ops (hsC++hf) l js m = some r /\ js.map (blkAt (hsC++hf)) = js.map (blkAt hsC)
  | [], js, m, r, h => by
    cases js with
    | nil => exact ⟨h, rfl⟩
    | cons j js => simp only [runX] at h; cases h
  | o :: l, js, m, r, h => by
    simp only [runX] at h ⊢
    split at h
    · rename_i j js' hc
      split at h
      · rename_i m1 b hl
        split at h
        · rename_i m2 bs hx
          cases h
          obtain ⟨k1, k2⟩ := zKh (hf := hf) hl
          obtain ⟨k3, k4⟩ := zFv (hf := hf) hx
          rw [k1]
          simp only [k3]
          exact ⟨by trivial, by rw [List.map_cons, List.map_cons, k2, k4]⟩
        · cases h
      · cases h
    · cases h
    · rename_i hc
      split at h
      · rename_i m1 hl
        exact zFv h
      · cases h
theorem zFC {φ : List Fact} {its : List It} (hφ : ∀ j it, its[j]? = some it -> φ.getD j nofact = it.fact) {K : FM -> List HA -> Prop} : ∀ {l : List (Nat × Bool)} {m m' : FM}, insM ops its l m = some m' -> K m' hs -> Ins ops φ imm l m hs K
  | [], m, m', h, hk => by simp only [insM] at h; cases h; exact hk
  | (j, c) :: r, m, m', h, hk => by
    simp only [insM] at h
    split at h
    · rename_i v js d hit hd
      intro u hx hu
      rw [hφ _ _ hit] at hu
      obtain ⟨rfl, rfl⟩ := hu
      simp only [hd]
      exact zFC hφ h hk
    · rename_i v d hit hd
      intro u hx hu
      rw [hφ _ _ hit] at hu
      obtain ⟨rfl, rfl⟩ := hu
      simp only [hd]
      exact zFC hφ h hk
    · cases h
theorem zLh {d : Nat} {v : Value} : look ((d, v) :: m) d = some v := jX ..
theorem zJe {ops : List Oper} {hsC : List HA} {js bs : List Nat} {r : FM} (hr : runX P n ops hsC [] js m = some (r, bs)) : r = m := by
  cases js with
  | nil => simp only [runX] at hr; cases hr; rfl
  | cons a b => simp only [runX] at hr; cases hr
theorem zMX {ops : List Oper} {hsC : List HA} {o : Oper} {js bs : List Nat} {r : FM} (hr : runX P n ops hsC [o] js m = some (r, bs)) : ∃ d u, o.dst = some d /\ r = (d, u) :: m := by
  simp only [runX] at hr
  split at hr
  · split at hr
    · rename_i m1 b hl
      split at hr
      · rename_i hx
        cases hr
        rw [zJe hx]; exact zHV hl
      · cases hr
    · cases hr
  · cases hr
  · split at hr
    · rename_i m1 hl
      rw [zJe hr]; exact zIk hl
    · cases hr
theorem zMY {φ : List Fact} {its : List It} (hφ : ∀ j it, its[j]? = some it -> φ.getD j nofact = it.fact) {hsC : List HA} {i : Nat} {l : List (Nat × Bool)} {o : Oper} {v : Value} {js : List Nat} {m' m2 : FM} {d0 : Nat} {bs : List Nat}
    (hi : its[i]? = some (.p v js)) (ho : ops[i]? = some o) (hm : insM ops its l m = some m') (hr : runX P n (ops.take (i+1)) hsC [o] js m' = some ((d0, v) :: m2, bs)) (hb : bs = js.map (blkAt hsC)) : Obl P n B ops φ imm hsC m i l := by
  intro imm1 hf le1 _
  refine zFC hφ hm ?_
  obtain ⟨k1, k2⟩ := zFv (hf := hf) hr
  have hlt := (List.getElem?_eq_some_iff.1 ho).1
  have hd : (ops.take (i+1)).drop i = [o] := zEK ho
  refine zHX [o] ⟨[], by rw [hd]; rfl⟩ k1 (by rw [hb, k2]) ?_
  obtain ⟨d, u, hd', he⟩ := zMX hr
  rw [List.cons.injEq, Prod.mk.injEq] at he
  obtain ⟨⟨rfl, rfl⟩, rfl⟩ := he
  have hdst : dstAt ops i = some d0 := by simp only [dstAt, ho, hd']
  refine zG3 (hx := []) ?_ (Imm.le.refl _) rfl (v := v) ?_ ?_
  · rw [List.drop_eq_nil_iff, List.length_take]
    simp only [List.length_cons, List.length_nil]
    omega
  · rw [hdst]; exact zHS zLh
  · rw [hφ _ _ hi]; exact ⟨rfl, rfl⟩
theorem zDk {φ : List Fact} {its0 : List It} (hφ : ∀ j it, its0[j]? = some it -> φ.getD j nofact = it.fact) {hsC : List HA} : ∀ {its : List It} {i : Nat} {ins : List (List (Nat × Bool))} {bs : List Nat}, (∀ j, its0[i+j]? = its[j]?) ->
    autoL P n ops hsC m its0 i its ins = some (valsOf its, bs) -> bs = blksOf hsC its -> ObX P n B ops φ imm hsC m i its ins -> Obls P n B ops φ imm hsC m i ins
  | [], i, [], bs, _, _, _, _ => trivial
  | [], i, _ :: _, bs, _, h, _, _ => by simp only [autoL] at h; cases h
  | .p v js :: r, i, [], bs, _, h, _, _ => by simp only [autoL] at h; cases h
  | .x f :: r, i, [], bs, _, h, _, _ => by simp only [autoL] at h; cases h
  | .q v :: r, i, [], bs, _, h, _, _ => by simp only [autoL] at h; cases h
  | .q v :: r, i, l :: ins, bs, hi, h, hb, ho => by
    simp only [autoL] at h
    exact ⟨ho.1, zDk hφ (fun j => by have := hi (j+1); rw [show i+(j+1) = i+1+j from by omega] at this; simpa using this) h hb ho.2⟩
  | .x f :: r, i, l :: ins, bs, hi, h, hb, ho => by
    simp only [autoL] at h
    exact ⟨ho.2.1, zDk hφ (fun j => by have := hi (j+1); rw [show i+(j+1) = i+1+j from by omega] at this; simpa using this) h hb ho.2.2⟩
  | .p v js :: r, i, l :: ins, bs, hi, h, hb, ho => by
    simp only [autoL] at h
    split at h
    · rename_i o m' vs bs2 h1 h2 h3
      split at h
      · rename_i d0 v0 m2 bs' h4
        simp only [Option.some.injEq, Prod.mk.injEq, valsOf, List.cons.injEq] at h
        obtain ⟨⟨rfl, rfl⟩, rfl⟩ := h
        have hlen : bs'.length = js.length := by
          have : ∀ {l : List Oper} {js : List Nat} {m : FM} {r : FM} {bs : List Nat}, runX P n (ops.take (i+1)) hsC l js m = some (r, bs) -> bs.length = js.length := by
            intro l
            induction l with
            | nil => intro js m r bs h; cases js <;> simp only [runX] at h <;> cases h; rfl
            | cons o l ih =>
              intro js m r bs h
              simp only [runX] at h
              split at h
              · split at h
                · split at h
                  · rename_i hx; cases h; simp [ih hx]
                  · cases h
                · cases h
              · cases h
              · split at h
                · exact ih h
                · cases h
          exact this h4
        simp only [blksOf] at hb
        obtain ⟨hb1, hb2⟩ := List.append_inj hb (by rw [List.length_map]; exact hlen)
        have hi0 : its0[i]? = some (.p v0 js) := by have := hi 0; simpa using this
        exact ⟨zMY hφ hi0 h1 h2 h4 hb1, zDk hφ (fun j => by have := hi (j+1); rw [show i+(j+1) = i+1+j from by omega] at this; simpa using this) h3 hb2 ho⟩
      · cases h
    · cases h
theorem monoX {φ : List Fact} {hsC : List HA} : ∀ {its : List It} {i : Nat} {ins : List (List (Nat × Bool))}, ObX P n B ops φ imm hsC m i its ins -> MonoL (its.map It.fact)
  | [], _, _, _ => trivial
  | .p v js :: r, _, [], h => h.elim
  | .x f :: r, _, [], h => h.elim
  | .q v :: r, _, [], h => h.elim
  | .q v :: r, _, l :: ins, h => ⟨fun _ _ _ _ _ h => h, monoX (its := r) h.2⟩
  | .p v js :: r, _, l :: ins, h => ⟨fun _ _ _ _ _ h => h, monoX (its := r) h⟩
  | .x f :: r, _, l :: ins, h => ⟨fun i j v hx hl hh => (h.1 v hx).mono i j hl hh, monoX (its := r) h.2.2⟩
theorem zCY : ∀ {a b : List Fact}, MonoL a -> MonoL b -> MonoL (a++b)
  | [], _, _, h => h
  | _ :: _, _, h, h' => ⟨h.1, zCY h.2 h'⟩
theorem zIn : ∀ k, MonoL (List.replicate k nofact)
  | 0 => trivial
  | k+1 => ⟨fun _ _ _ _ _ h => h, zIn k⟩
theorem zLK : ∀ gs : List (List HA), MonoL (gs.map gfact)
  | [] => trivial
  | _ :: gs => ⟨fun _ _ _ _ _ h => h, zLK gs⟩
theorem zJf : ∀ {gs : List (List HA)} {φ : List Fact} {k : Nat}, (∀ j g, gs[j]? = some g -> φ.getD (k+j) nofact = gfact g) -> BaseG φ imm k gs
  | [], _, _, _ => trivial
  | g :: gs, φ, k, h => ⟨by have := h 0 g (by simp); rw [Nat.add_zero] at this; rw [this]; rfl, zJf fun j g' hj => by have := h (j+1) g' (by simpa using hj); rwa [show k+(j+1) = k+1+j from by omega] at this⟩
theorem wP {id : Nat} (its : List It) (ins : List (List (Nat × Bool))) (hsC : List HA) (gs : List (List HA)) (fin : List (Nat × Bool)) (hhs : ∀ w, Good B imm hs w -> Good B imm (hsC++gs.flatten) w)
    (hob : ObX P n B ops (factsOf ops.length its gs) imm hsC m 0 its ins)
    (hend : ∀ imm1, imm.le imm1 -> Ins ops (factsOf ops.length its gs) imm1 fin m hsC fun m' hs' => R P n B ops Q its.length imm1 hs' m')
    (ha : autoL P n ops hsC m its 0 its ins = some (valsOf its, blksOf hsC its) := by kernel_rfl)
    (hm : P.follows .mixedOrders = true := by kernel_rfl) (hc : anyChk ops n its.length gs.length ins (m.map (·.1)) = true := by kernel_rfl) (hf : finChk ops its.length gs.length ins fin = true := by kernel_rfl) :
    J P n B (.region id ops.toArray true) Q imm hs m := by
  have hφ : ∀ j it, its[j]? = some it -> (factsOf ops.length its gs).getD j nofact = it.fact := fun j it hj => by
    have hlt := (List.getElem?_eq_some_iff.1 hj).1
    unfold factsOf
    rw [List.getD_eq_getElem?_getD, List.getElem?_append_left (by rw [List.length_map]; exact hlt), List.getElem?_map, hj]
    rfl
  have hle : its.length<=ops.length := (AnyOk.mk' hc).le
  refine zJC its.length ins (factsOf ops.length its gs) hsC gs fin hm hc hf hhs (zCY (monoX hob) (zCY (zIn _) (zLK gs))) (zJf fun j g hj => ?_)
    (zDk hφ (fun j => by rw [Nat.zero_add]) ha rfl hob) hend
  unfold factsOf
  rw [List.getD_eq_getElem?_getD, List.getElem?_append_right (by rw [List.length_map]; omega), List.getElem?_append_right (by rw [List.length_map, List.length_replicate]; omega), List.length_map, List.length_replicate, List.getElem?_map,
    show ops.length+j - its.length - (ops.length - its.length) = j from by omega, hj]
  rfl
abbrev W : Int -> Int := IntKind.i64.wrap
theorem T_w {e : Exit} (m' : FM) (h : T n B Q e imm hs m') (hk : keep m (m'.map (·.1)) = some m' := by kernel_rfl) : T n B Q e imm hs m := zMJ (zBs hk) h
theorem pM {c : Code} (m' : FM) (h : J P n B c Q imm hs m') (hk : keep m (m'.map (·.1)) = some m' := by kernel_rfl) : J P n B c Q imm hs m := zMI (zBs hk) h
theorem yG {x : Operand} {p q : Code} {c : Bool} {α : Type} {X Y : Option α} {r : α} (hM : (if c = true then X else Y) = some r)
    (ht : c = true -> X = some r -> J P n B p Q imm hs m) (hf : c = false -> Y = some r -> J P n B q Q imm hs m) (hc : val m x = some (.bool c) := by kernel_rfl) : J P n B (.cond x p q) Q imm hs m := zOE hc hM ht hf
end
end Go.LN
namespace Go.LN
section
variable {P : Program} {n : Nat} {B : Base} {Q : Exit -> Act -> World -> Prop} {imm : Imm} {hs : List HA} {m : FM} {ops : List Oper} {pc d : Nat} {ty : TypeId} {pos : String} {after : Array Edge} {g : Option (Nat × Bool)}
theorem xO {t : TypeId} {x : Operand} {ad : Addr} {cs : List Value} (o : Nat) (hat : At imm ad cs) (cs' : List Value) (v : Value) (ho : ops[pc]? = some ⟨some d, .load t x, ty, pos, after, g⟩) (next : R P n B ops Q (pc+1) imm hs ((d, v) :: m)) (hg : guardB ops m g = some true := by kernel_rfl) (hn : Nat.blt d n = true := by kernel_rfl) (hx : val m x = some (.pointer (some (ad.add o))) := by kernel_rfl) (hol : Nat.ble o cs.length = true := by kernel_rfl) (hc : (cs.drop o).take cs'.length = cs' := by kernel_rfl) (hv : loadV P t cs' = some v := by kernel_rfl) : R P n B ops Q pc imm hs m :=
  zLd o ho hg hn hat hx hol hc hv next
theorem zFD {t : TypeId} {x : Operand} {ad : Addr} {cs : List Value} (o : Nat) (hat : At imm ad cs) (cs' : List Value) (v : Value) (ho : ops[pc]? = some ⟨some d, .load t x, ty, pos, after, g⟩) (next : Rq P n B ops Q (pc+1) imm hs ((d, v) :: m)) (hg : guardB ops m g = some true := by kernel_rfl) (hn : Nat.blt d n = true := by kernel_rfl) (hx : val m x = some (.pointer (some (ad.add o))) := by kernel_rfl) (hol : Nat.ble o cs.length = true := by kernel_rfl) (hc : (cs.drop o).take cs'.length = cs' := by kernel_rfl) (hv : loadV P t cs' = some v := by kernel_rfl) : Rq P n B ops Q pc imm hs m :=
  zKd o ho hg hn hat hx hol hc hv next
theorem xT {α : Type} [Rp α] {t : TypeId} {x xi : Operand} {v : Value} {k : IntKind} {i : Int} {l : List α} {y : α} (ho : ops[pc]? = some ⟨some d, .indexAddr t x xi, ty, pos, after, g⟩) (hi : val m xi = some (.int k i)) (hs' : SL imm v l) (hy : idx l i = some y) (next : ∀ ad ccs, At imm ad ccs -> Rp.rep imm ccs y -> R P n B ops Q (pc+1) imm hs ((d, .pointer (some ad)) :: m)) (hg : guardB ops m g = some true := by kernel_rfl) (hn : Nat.blt d n = true := by kernel_rfl) (hx : val m x = some v := by kernel_rfl) (ht : elemT P t = some (Rp.sz α) := by kernel_rfl) : R P n B ops Q pc imm hs m :=
  zNW ho hg hn hx hi ht hs' hy next
theorem zFE {α : Type} [Rp α] {t : TypeId} {x xi : Operand} {v : Value} {k : IntKind} {i : Int} {l : List α} {y : α} (ho : ops[pc]? = some ⟨some d, .indexAddr t x xi, ty, pos, after, g⟩) (hi : val m xi = some (.int k i)) (hs' : SL imm v l) (hy : idx l i = some y) (next : ∀ ad ccs, At imm ad ccs -> Rp.rep imm ccs y -> Rq P n B ops Q (pc+1) imm hs ((d, .pointer (some ad)) :: m)) (hg : guardB ops m g = some true := by kernel_rfl) (hn : Nat.blt d n = true := by kernel_rfl) (hx : val m x = some v := by kernel_rfl) (ht : elemT P t = some (Rp.sz α) := by kernel_rfl) : Rq P n B ops Q pc imm hs m :=
  zMP ho hg hn hx hi ht hs' hy next
theorem nU {α : Type} [Rp α] {t : TypeId} {x xi : Operand} {v : Value} {k : IntKind} {i : Int} {cs : List Value} {l : List α} {y : α} (j : Nat) (ho : ops[pc]? = some ⟨some d, .indexAddr t x xi, ty, pos, after, g⟩) (hi : val m xi = some (.int k i)) (hj : hs[j]? = some (.osl v (Rp.sz α) cs)) (hr : RepL (Rp.rep imm) (Rp.sz α) cs l) (hy : idx l i = some y) (next : ∀ ad cc, AtO v (Rp.sz α) i.toNat ad -> (cs.drop (i.toNat*Rp.sz α)).take (Rp.sz α) = cc -> Rp.rep imm cc y -> R P n B ops Q (pc+1) imm hs ((d, .pointer (some ad)) :: m)) (hg : guardB ops m g = some true := by kernel_rfl) (hn : Nat.blt d n = true := by kernel_rfl) (hx : val m x = some v := by kernel_rfl) (ht : elemT P t = some (Rp.sz α) := by kernel_rfl) : R P n B ops Q pc imm hs m :=
  zJ4 j ho hg hn hj hx hi ht hr hy next
theorem zBu {t : TypeId} {x : Operand} {v0 : Value} {sz i : Nat} {ad : Addr} {cs cc : List Value} (j o : Nat) (hat : AtO v0 sz i ad) (hcc : (cs.drop (i*sz)).take sz = cc) (cc' : List Value) (v : Value) (ho : ops[pc]? = some ⟨some d, .load t x, ty, pos, after, g⟩) (hj : hs[j]? = some (.osl v0 sz cs)) (next : R P n B ops Q (pc+1) imm hs ((d, v) :: m)) (hg : guardB ops m g = some true := by kernel_rfl) (hn : Nat.blt d n = true := by kernel_rfl) (hx : val m x = some (.pointer (some (ad.add o))) := by kernel_rfl) (hol : Nat.ble (o+cc'.length) sz = true := by kernel_rfl) (hc : (cc.drop o).take cc'.length = cc' := by kernel_rfl) (hv : loadV P t cc' = some v := by kernel_rfl) : R P n B ops Q pc imm hs m :=
  zK9 j o ho hg hn hj hat hx hcc hol hc hv next
theorem zOf {α : Type} [Rp α] {t : TypeId} {x : Operand} {lo hi : Option Operand} {v : Value} {i k : Int} {l l' : List α} (ho : ops[pc]? = some ⟨some d, .slice t x lo hi none, ty, pos, after, g⟩) (hs' : SL imm v l) (hy : slc l i k = some l') (next : ∀ v', SL imm v' l' -> R P n B ops Q (pc+1) imm hs ((d, v') :: m)) (hg : guardB ops m g = some true := by kernel_rfl) (hn : Nat.blt d n = true := by kernel_rfl) (hx : val m x = some v := by kernel_rfl) (ht : elemT P t = some (Rp.sz α) := by kernel_rfl) (hlo : bnd m 0 lo = some i := by kernel_rfl) (hhi : bnd m l.length hi = some k := by kernel_rfl) : R P n B ops Q pc imm hs m :=
  zNY ho hg hn hx ht hlo hhi hs' hy next
theorem fA {t t2 : TypeId} {x y : Operand} {a b c : Str} (ho : ops[pc]? = some ⟨some d, .binOp .add t x y t2, ty, pos, after, g⟩) (h : cat a b = some c) (next : R P n B ops Q (pc+1) imm hs ((d, .string ⟨⟨c.l⟩⟩) :: m)) (hg : guardB ops m g = some true := by kernel_rfl) (hn : Nat.blt d n = true := by kernel_rfl) (hx : val m x = some (.string ⟨⟨a.l⟩⟩) := by kernel_rfl) (hy : val m y = some (.string ⟨⟨b.l⟩⟩) := by kernel_rfl) : R P n B ops Q pc imm hs m :=
  zOc ho hg hn hx hy h next
theorem zBS {t : TypeId} {x y : Operand} {a : Str} {k : IntKind} {i : Int} {c : UInt8} (ho : ops[pc]? = some ⟨some d, .index t x y, ty, pos, after, g⟩) (hy : val m y = some (.int k i)) (h : sidx a i = some c) (next : R P n B ops Q (pc+1) imm hs ((d, .int .u8 (c.toNat : Int)) :: m)) (hg : guardB ops m g = some true := by kernel_rfl) (hn : Nat.blt d n = true := by kernel_rfl) (hx : val m x = some (.string ⟨⟨a.l⟩⟩) := by kernel_rfl) (hu : P.underlying t = some .string := by kernel_rfl) : R P n B ops Q pc imm hs m :=
  zMQ ho hg hn hx hy hu h next
theorem zIM {t : TypeId} {x : Operand} {lo hi : Option Operand} {a c : Str} {i k : Int} (ho : ops[pc]? = some ⟨some d, .slice t x lo hi none, ty, pos, after, g⟩) (hy : sslc a i k = some c) (next : R P n B ops Q (pc+1) imm hs ((d, .string ⟨⟨c.l⟩⟩) :: m)) (hg : guardB ops m g = some true := by kernel_rfl) (hn : Nat.blt d n = true := by kernel_rfl) (hx : val m x = some (.string ⟨⟨a.l⟩⟩) := by kernel_rfl) (hu : P.underlying t = some .string := by kernel_rfl) (hlo : bnd m 0 lo = some i := by kernel_rfl) (hhi : bnd m a.l.length hi = some k := by kernel_rfl) : R P n B ops Q pc imm hs m :=
  zMR ho hg hn hx hu hlo hhi hy next
theorem zOg {t t2 : TypeId} {x y : Operand} {a b c : Int} (ho : ops[pc]? = some ⟨some d, .binOp .quo t x y t2, ty, pos, after, g⟩) (h : quo a b = some c) (next : Rq P n B ops Q (pc+1) imm hs ((d, .int .i64 c) :: m)) (hg : guardB ops m g = some true := by kernel_rfl) (hn : Nat.blt d n = true := by kernel_rfl) (hx : val m x = some (.int .i64 a) := by kernel_rfl) (hy : val m y = some (.int .i64 b) := by kernel_rfl) : Rq P n B ops Q pc imm hs m :=
  zOJ ho hg hn hx hy h next
theorem zOh {t t2 : TypeId} {x y : Operand} {a b c : Int} (ho : ops[pc]? = some ⟨some d, .binOp .rem t x y t2, ty, pos, after, g⟩) (h : rem a b = some c) (next : R P n B ops Q (pc+1) imm hs ((d, .int .i64 c) :: m)) (hg : guardB ops m g = some true := by kernel_rfl) (hn : Nat.blt d n = true := by kernel_rfl) (hx : val m x = some (.int .i64 a) := by kernel_rfl) (hy : val m y = some (.int .i64 b) := by kernel_rfl) : R P n B ops Q pc imm hs m :=
  zOd ho hg hn hx hy h next
theorem zNu {t t2 : TypeId} {x y : Operand} {a b c : Int} (ho : ops[pc]? = some ⟨some d, .binOp .rem t x y t2, ty, pos, after, g⟩) (h : rem a b = some c) (next : Rq P n B ops Q (pc+1) imm hs ((d, .int .i64 c) :: m)) (hg : guardB ops m g = some true := by kernel_rfl) (hn : Nat.blt d n = true := by kernel_rfl) (hx : val m x = some (.int .i64 a) := by kernel_rfl) (hy : val m y = some (.int .i64 b) := by kernel_rfl) : Rq P n B ops Q pc imm hs m :=
  zOK ho hg hn hx hy h next
theorem eQ {t : TypeId} {x y : Operand} {b o : Nat} {c : Array Value} {v : Value} (j : Nat) (c' : List Value) (hs' : List HA) (ho : ops[pc]? = some ⟨none, .store t x y, ty, pos, after, g⟩) (hj : hs[j]? = some (.blk b c)) (hx : val m x = some (.pointer (some ⟨b, o, none⟩))) (hy : val m y = some v) (next : R P n B ops Q (pc+1) imm hs' m) (hg : guardB ops m g = some true := by kernel_rfl) (hsz : sizeT P t = some v.cells.size := by kernel_rfl) (hol : Nat.ble (o+v.cells.size) c.size = true := by kernel_rfl) (hone : v.cells.toList.all Value.oneCell' = true := by rfl) (hc : wr c o v.cells.toList = ⟨c'⟩ := by kernel_rfl) (hh : hs.set j (.blk b ⟨c'⟩) = hs' := by rfl) : R P n B ops Q pc imm hs m :=
  zG2 j ho hg hj hx hy hsz hol hone hc hh next
theorem qD {α : Type} [Rp α] {t t2 : TypeId} {x1 x2 : Operand} {v vx : Value} {cs ccs : List Value} {l l2 y : List α} {by' : Nat} (e zs j : Nat) (ho : ops[pc]? = some ⟨some d, .call { callee := .builtin .append, args := #[x1, x2], argTypes := #[t, t2] }, ty, pos, after, g⟩) (hj : hs[j]? = some (.osl v (Rp.sz α) cs)) (hy : val m x2 = some vx) (hr : RepL (Rp.rep imm) (Rp.sz α) cs l) (s : Src imm hs vx (Rp.sz α) ccs) (hr2 : RepL (Rp.rep imm) (Rp.sz α) ccs l2) (hb : app by' l l2 = some y)
    (next : ∀ a' c' cs', RepL (Rp.rep imm) (Rp.sz α) cs' y -> R P n B ops Q (pc+1) imm (hs.set j (.osl (.slice a' y.length c') (Rp.sz α) cs')) ((d, .slice a' y.length c') :: m)) (hg : guardB ops m g = some true := by kernel_rfl) (hn : Nat.blt d n = true := by kernel_rfl) (hx : val m x1 = some v := by kernel_rfl) (ht : appT P t = some (e, Rp.sz α, by', zs) := by kernel_rfl) (ht2 : appT P t2 = some (e, Rp.sz α, by', zs) := by kernel_rfl) : R P n B ops Q pc imm hs m :=
  zOM (fun _ => True) (e := e) (zs := zs) j ho hg hn hx hy ht ht2 hj hr (fun _ _ => .inl trivial) s hr2 hb (fun a' c' cs' _ h => next a' c' cs' h)
end
end Go.LN
namespace Go.LN
def mkrow {α : Type} (bytes : Nat) (k : Int) (z : α) : Option (List α) := if 0<=k /\ k.toNat*bytes<=140737488355328 then some (List.replicate k.toNat z) else none
def zrow (z : Array Value) (k : Nat) : List Value := (List.range k).map fun i => z[i % z.size]!
theorem zMZ (z : Array Value) (k : Nat) (h : 0<z.size) : (List.range z.size).map (fun i => z[(k*z.size+i) % z.size]!) = z.toList := by
  refine List.ext_getElem (by simp) fun i h1 h2 => ?_
  have hi : i<z.size := by simpa using h1
  simp only [List.getElem_map, List.getElem_range, Array.getElem_toList]
  have e : (k*z.size+i) % z.size = i := by rw [Nat.add_comm, Nat.mul_comm, Nat.add_mul_mod_self_left, Nat.mod_eq_of_lt hi]
  rw [e]
  exact getElem!_pos z i hi
theorem zJg {α : Type} {ρ : List Value -> α -> Prop} {z : Array Value} {a : α} (hz : 0<z.size) (h : ρ z.toList a) : ∀ k, RepL ρ z.size (zrow z (k*z.size)) (List.replicate k a)
  | 0 => by simp [zrow, RepL]
  | k+1 => by
    have e : zrow z ((k+1)*z.size) = zrow z (k*z.size)++z.toList := by
      unfold zrow
      rw [Nat.succ_mul, List.range_add, List.map_append, List.map_map]
      congr 1
      exact zMZ z k hz
    rw [e, List.replicate_succ']
    exact (zJg hz h k).append (.single (by simp) h)
section
variable {P : Program} {n : Nat} {B : Base} {Q : Exit -> Act -> World -> Prop} {imm : Imm} {hs : List HA} {m : FM} {ops : List Oper} {pc d : Nat} {ty : TypeId} {pos : String} {after : Array Edge} {g : Option (Nat × Bool)}
def mkT (P : Program) (t : TypeId) : Option (Nat × Nat × List Value) :=
  match elemOfT P t with
  | some e => match sizeT P e, bytesT P e, zeroC P e with
    | some s, some b, some z => bif Nat.beq z.size s&&Nat.blt 0 b then some (s, b, z.toList) else none
    | _, _, _ => none
  | none => none
theorem zOn {α : Type} [Rp α] {t : TypeId} {x y : Operand} {k : Int} {a : α} {l : List α} (by' : Nat) (z : List Value) (ho : ops[pc]? = some ⟨some d, .makeSlice t x y, ty, pos, after, g⟩) (hk : mkrow by' k a = some l) (hr : Rp.rep imm z a)
    (next : ∀ b cs, RL imm cs l -> R P n B ops Q (pc+1) imm (.osl (.slice (some ⟨b, 0, none⟩) l.length l.length) (Rp.sz α) cs :: hs) ((d, .slice (some ⟨b, 0, none⟩) l.length l.length) :: m))
    (hg : guardB ops m g = some true := by kernel_rfl) (hn : Nat.blt d n = true := by kernel_rfl) (hx : val m x = some (.int .i64 k) := by kernel_rfl) (hy : val m y = some (.int .i64 k) := by kernel_rfl) (ht : mkT P t = some (Rp.sz α, by', z) := by kernel_rfl) :
    R P n B ops Q pc imm hs m := by
  refine fQ ho hg rfl hn fun ac w f gd => ?_
  unfold mkrow at hk
  split at hk
  · rename_i hk0
    cases hk
    obtain ⟨hk0, hkb⟩ := hk0
    unfold mkT at ht
    cases he : elemOfT P t with
    | none => rw [he] at ht; cases ht
    | some e =>
      rw [he] at ht
      simp only at ht
      split at ht
      · rename_i s b zc h1 h2 h3
        cases hq : Nat.beq zc.size s&&Nat.blt 0 b with
        | false => rw [hq] at ht; cases ht
        | true =>
          rw [hq] at ht
          simp only [cond_true, Option.some.injEq, Prod.mk.injEq] at ht
          obtain ⟨rfl, rfl, rfl⟩ := ht
          rw [Bool.and_eq_true] at hq
          have hzs := Nat.eq_of_beq_eq_true hq.1
          have hb0 : 0<b := by simpa using hq.2
          have hu : P.underlying t = some (.slice e) := by
            unfold elemOfT at he
            split at he <;> simp_all
          cases hie : P.info? e with
          | none => simp [sizeT, hie] at h1
          | some ie =>
          have hsz' : ie.size = Rp.sz α := by simpa [sizeT, hie] using h1
          have hby' : ie.bytes = b := by simpa [bytesT, hie] using h2
          obtain ⟨zv, hz1, hz2⟩ := zA9 (w := w) h3
          have hpos : 0<zc.size := by rw [hzs]; exact Rp.pos
          have hkk : (k.toNat : Int) = k := Int.toNat_of_nonneg hk0
          have hle : k.toNat<=k.toNat*b := Nat.le_mul_of_pos_right _ hb0
          have hwr : IntKind.i64.wrap k = k := by rw [IntKind.wrap_i64]; omega
          have hmul : ((ie.bytes : Int)*k)<=140737488355328 := by
            rw [<- hkk, hby', <- Int.natCast_mul, Nat.mul_comm]
            exact Int.ofNat_le.2 hkb
          have hnt : ¬ (k<0) := by omega
          have hnb : ¬ ((ie.bytes : Int)*k>2 ^ 48) := by omega
          let row : Array Value := if k.toNat*Rp.sz α = 0 then #[] else (Array.range (k.toNat*Rp.sz α)).map (fun i => zc[i % zc.size]!)
          have hrow : (((Array.range (k.toNat*ie.size)).map fun i => (if k.toNat*ie.size = 0 then #[] else zc)[i % (if k.toNat*ie.size = 0 then (#[] : Array Value) else zc).size]!)) = ⟨zrow zc (k.toNat*zc.size)⟩ := by
            rw [hsz', <- hzs]
            apply Array.ext'
            by_cases h0 : k.toNat*zc.size = 0
            · simp [h0, zrow]
            · simp [h0, zrow]
          have hlen : (zrow zc (k.toNat*zc.size)).length = k.toNat*Rp.sz α := by simp [zrow, hzs]
          have hg := gd.alloc_osl ⟨zrow zc (k.toNat*zc.size)⟩ e (Rp.sz α) k.toNat k.toNat (zrow zc (k.toNat*zc.size)) (by show _<=(zrow _ _).length; rw [hlen]; exact Nat.le_refl _) (Nat.le_refl _) (by rw [<- hlen]; exact List.take_length) hlen (by omega)
          have hll : (List.replicate k.toNat a).length = k.toNat := List.length_replicate
          rw [hll] at next
          refine ⟨_, _, imm, _, ?_, hg, next w.heap.size _ ?_⟩
          · simp only [execOp, f.eval hx, f.eval hy, Instr.makeSlice, Sem.run_bind, xW hu, Result.andThen_ok, asInt, asIntOf, Sem.run_pure, typeInfo, run_program, hie, hwr, hnt, hnb, decide_false, Bool.false_or, Bool.false_eq_true, false_or, or_self, if_false, Int.lt_irrefl,
              gt_iff_lt, run_askRoom, kL h1]
            by_cases h0 : k.toNat*Rp.sz α = 0
            · have := hrow
              rw [hsz'] at this
              simp only [h0, if_true] at this ⊢
              simp only [Sem.run_pure, Result.andThen_ok, newRow, run_newObj, Sem.run_bind, this]
            · have := hrow
              rw [hsz'] at this
              simp only [h0, if_false] at this ⊢
              simp only [Sem.run_bind, hz1, hz2, Sem.run_pure, Result.andThen_ok, newRow, run_newObj, this]
          · have := zJg (z := zc) (a := a) hpos hr k.toNat
            rw [hzs] at this
            show RepL _ _ _ _
            rw [hzs]
            exact this
      · cases ht
  · cases hk
theorem zLL {f : FuncId} {first cap : List Value} {x : Operand} {xs : Array Operand} {ts : Array TypeId} {vs : List Value} {hs1 rest : List HA} {post : Nat -> Imm -> List HA -> Value -> Prop}
    (ho : ops[pc]? = some ⟨some d, .call { callee := .value x, args := xs, argTypes := ts }, ty, pos, after, g⟩) (hx : val m x = some (.func (.func f) ⟨first⟩ ⟨cap⟩)) (hf : callable P f = true)
    (hvs : vals m xs.toList = some vs) (hh : hs = hs1++rest) (hc : Ret P f (first++vs++cap) imm hs1 post)
    (next : ∀ imm' hs' v k, imm.le imm' -> B.w0.heap.size<=k -> post k imm' hs' v -> (∀ b∈hs'.flatMap HA.fp, b∈hs1.flatMap HA.fp∨B.w0.heap.size<=b) -> R P n B ops Q (pc+1) imm' (hs'++rest) ((d, v) :: m)) (hg : guardB ops m g = some true := by kernel_rfl) (hn : Nat.blt d n = true := by kernel_rfl) : R P n B ops Q pc imm hs m :=
  zIy ho hg fun a w fr gd => by
    subst hh
    have hargs : xs.map a.eval = vs.toArray := by apply Array.ext'; rw [Array.toList_map, fr.evals hvs]
    have hall : (⟨first⟩ : Array Value)++vs.toArray++⟨cap⟩ = (first++vs++cap).toArray := by apply Array.ext'; simp
    have hnd := gd.nodup
    rw [List.flatMap_append] at hnd
    have hg1 := gd.enter (hs1 := hs1) (fun A hA => List.mem_append_left _ hA) (List.nodup_append.1 hnd).1
    unfold Oper.wp
    simp only [execOp, resolve, Deferred.ofValue, fr.eval hx, hargs, Sem.run_bind, Sem.run_pure, Result.andThen_ok, invoke, hall, zEz hf, Oper.upon]
    refine (hc w hg1).mono fun e w' he => ?_
    cases e with
    | returned v =>
      obtain ⟨imm', hs', hp, hgood⟩ := he
      obtain ⟨g2, hle, hfp⟩ := gd.leave hgood
      exact next imm' hs' v w.heap.size hle gd.frm.size hp hfp _ w' (fr.put d v (by simpa using hn)) g2
    | panicked c => exact he.elim
    | outgrown => exact he.elim
end
class Vr (α : Type) where
  rep : Imm -> Value -> α -> Prop
  mono : ∀ {i j : Imm} {v : Value} {a : α}, i.le j -> rep i v a -> rep j v a
instance : Vr Int := ⟨fun _ v a => v = .int .i64 a, fun _ h => h⟩
instance : Vr Bool := ⟨fun _ v a => v = .bool a, fun _ h => h⟩
instance : Vr Str := ⟨fun _ v a => v = .string ⟨⟨a.l⟩⟩, fun _ h => h⟩
instance {α : Type} [Rp α] : Vr (List α) := ⟨fun i v a => SL i v a, fun hl h => h.mono hl⟩
def FV1 {α β : Type} [Vr α] [Vr β] (P : Program) (imm : Imm) (hsF : List HA) (v : Value) (φ : α -> Option β) : Prop :=
  ∃ f first cap, v = .func (.func f) ⟨first⟩ ⟨cap⟩ /\ callable P f = true /\ ∀ imm', imm.le imm' -> ∀ a r va, φ a = some r -> Vr.rep imm' va a -> Ret P f (first++[va]++cap) imm' hsF fun _ i hs' u => hs' = hsF /\ Vr.rep i u r
theorem FV1.mono {α β : Type} [Vr α] [Vr β] {P : Program} {i j : Imm} {hsF : List HA} {v : Value} {φ : α -> Option β} (hl : i.le j) (h : FV1 P i hsF v φ) : FV1 P j hsF v φ := by
  obtain ⟨f, first, cap, h1, h2, h3⟩ := h
  exact ⟨f, first, cap, h1, h2, fun imm' h' => h3 imm' (hl.trans h')⟩
theorem FV1.intro {α β : Type} [Vr α] [Vr β] {P : Program} {imm : Imm} {hsF : List HA} {f : FuncId} {first cap : List Value} {φ : α -> Option β} (h : ∀ imm', imm.le imm' -> ∀ a r va, φ a = some r -> Vr.rep imm' va a -> Ret P f (first++[va]++cap) imm' hsF fun _ i hs' u => hs' = hsF /\ Vr.rep i u r)
    (hc : callable P f = true := by kernel_rfl) : FV1 P imm hsF (.func (.func f) ⟨first⟩ ⟨cap⟩) φ := ⟨f, first, cap, rfl, hc, h⟩
def FV2 {α β γ : Type} [Vr α] [Vr β] [Vr γ] (P : Program) (imm : Imm) (hsF : List HA) (v : Value) (φ : α -> β -> Option γ) : Prop :=
  ∃ f first cap, v = .func (.func f) ⟨first⟩ ⟨cap⟩ /\ callable P f = true /\ ∀ imm', imm.le imm' -> ∀ a b r va vb, φ a b = some r -> Vr.rep imm' va a -> Vr.rep imm' vb b -> Ret P f (first++[va, vb]++cap) imm' hsF fun _ i hs' u => hs' = hsF /\ Vr.rep i u r
theorem FV2.mono {α β γ : Type} [Vr α] [Vr β] [Vr γ] {P : Program} {i j : Imm} {hsF : List HA} {v : Value} {φ : α -> β -> Option γ} (hl : i.le j) (h : FV2 P i hsF v φ) : FV2 P j hsF v φ := by
  obtain ⟨f, first, cap, h1, h2, h3⟩ := h
  exact ⟨f, first, cap, h1, h2, fun imm' h' => h3 imm' (hl.trans h')⟩
theorem FV2.intro {α β γ : Type} [Vr α] [Vr β] [Vr γ] {P : Program} {imm : Imm} {hsF : List HA} {f : FuncId} {first cap : List Value} {φ : α -> β -> Option γ} (h : ∀ imm', imm.le imm' -> ∀ a b r va vb, φ a b = some r -> Vr.rep imm' va a -> Vr.rep imm' vb b -> Ret P f (first++[va, vb]++cap) imm' hsF fun _ i hs' u => hs' = hsF /\ Vr.rep i u r)
    (hc : callable P f = true := by kernel_rfl) : FV2 P imm hsF (.func (.func f) ⟨first⟩ ⟨cap⟩) φ := ⟨f, first, cap, rfl, hc, h⟩
section
variable {P : Program} {n : Nat} {B : Base} {Q : Exit -> Act -> World -> Prop} {imm : Imm} {hs : List HA} {m : FM} {ops : List Oper} {pc d : Nat} {ty : TypeId} {pos : String} {after : Array Edge} {g : Option (Nat × Bool)}
theorem zIo {α β : Type} [Vr α] [Vr β] {x y : Operand} {ts : Array TypeId} {v va : Value} {a : α} {r : β} {φ : α -> Option β} {hsF rest : List HA}
    (ho : ops[pc]? = some ⟨some d, .call { callee := .value x, args := #[y], argTypes := ts }, ty, pos, after, g⟩) (hy : val m y = some va) (hF : FV1 P imm hsF v φ) (hr : φ a = some r) (ha : Vr.rep imm va a) (hh : hs = hsF++rest)
    (next : ∀ imm' u, imm.le imm' -> Vr.rep imm' u r -> R P n B ops Q (pc+1) imm' (hsF++rest) ((d, u) :: m)) (hx : val m x = some v := by kernel_rfl) (hg : guardB ops m g = some true := by kernel_rfl) (hn : Nat.blt d n = true := by kernel_rfl) : R P n B ops Q pc imm hs m := by
  obtain ⟨f, first, cap, rfl, hf, hc⟩ := hF
  refine zLL ho hx hf (vs := [va]) (by simp [vals, hy]) hh (hc imm (Imm.le.refl _) a r va hr ha) ?_ hg hn
  rintro imm' hs' u k hl hk ⟨rfl, h⟩ -
  exact next imm' u hl h
theorem zJh {α β γ : Type} [Vr α] [Vr β] [Vr γ] {x y z : Operand} {ts : Array TypeId} {v va vb : Value} {a : α} {b : β} {r : γ} {φ : α -> β -> Option γ} {hsF rest : List HA}
    (ho : ops[pc]? = some ⟨some d, .call { callee := .value x, args := #[y, z], argTypes := ts }, ty, pos, after, g⟩) (hy : val m y = some va) (hz : val m z = some vb) (hF : FV2 P imm hsF v φ) (hr : φ a b = some r) (ha : Vr.rep imm va a) (hb : Vr.rep imm vb b) (hh : hs = hsF++rest)
    (next : ∀ imm' u, imm.le imm' -> Vr.rep imm' u r -> R P n B ops Q (pc+1) imm' (hsF++rest) ((d, u) :: m)) (hx : val m x = some v := by kernel_rfl) (hg : guardB ops m g = some true := by kernel_rfl) (hn : Nat.blt d n = true := by kernel_rfl) : R P n B ops Q pc imm hs m := by
  obtain ⟨f, first, cap, rfl, hf, hc⟩ := hF
  refine zLL ho hx hf (vs := [va, vb]) (by simp [vals, hy, hz]) hh (hc imm (Imm.le.refl _) a b r va vb hr ha hb) ?_ hg hn
  rintro imm' hs' u k hl hk ⟨rfl, h⟩ -
  exact next imm' u hl h
end
end Go.LN
namespace Go.LN
theorem Good.grow {B : Base} {imm : Imm} {hs : List HA} {w : World} (h : Good B imm hs w) (k : Nat) (os : Array Obj) : Good B imm hs (Sort.grow (w.drewN k) os) := by
  have h := h.drewN k
  generalize w.drewN k = w at h
  have old : ∀ b, b<w.heap.size -> (Sort.grow w os).heap[b]? = w.heap[b]? := fun b hb => by
    show (w.heap++os)[b]? = _
    rw [Array.getElem?_append_left hb]
  refine ⟨fun b c e => ?_, fun A hA => (h.own A hA).same (fun _ _ p => p) (fun _ _ => rfl) (fun b hb => old b ((h.own A hA).lt hb).1), h.nodup, ⟨h.frm.os, h.frm.tape, h.frm.output, ?_, fun b hb hio => ?_, h.frm.imm, h.frm.drawn⟩⟩
  · obtain ⟨ty, fr, e'⟩ := h.inv b c e
    exact ⟨ty, fr, (old b (h.lt_imm e)).trans e'⟩
  · show _<=(w.heap++os).size
    rw [Array.size_append]
    exact Nat.le_trans h.frm.size (Nat.le_add_right _ _)
  · exact (old b (Nat.lt_of_lt_of_le hb h.frm.size)).trans (h.frm.heap b hb hio)
def GT (P : Program) (imm : Imm) : Prop := ∃ g, P.globalNamed "internal/strconv.uint64pow10" = some g ∧ imm g = some (Lib.pow10Tab.map fun z => Value.int .u64 z).toArray
def GM (P : Program) (imm : Imm) : Prop := ∃ g, P.globalNamed "internal/bytealg.MaxLen" = some g ∧ ∃ m, imm g = some #[.int .i64 m]
def GE (P : Program) (imm : Imm) (nm : String) : Prop := ∃ g, P.globalNamed nm = some g /\ ∃ t p, imm g = some #[.iface t p]
def GH (P : Program) (imm : Imm) : Prop := GT P imm ∧ GM P imm ∧ GE P imm "strconv.ErrSyntax" ∧ GE P imm "strconv.ErrRange"
theorem GH.mono {P : Program} {i j : Imm} (hl : i.le j) (h : GH P i) : GH P j := by
  obtain ⟨⟨g, h1, h2⟩, ⟨g3, h3, m, h4⟩, ⟨g5, h5, t, p, h6⟩, ⟨g7, h7, u, q, h8⟩⟩ := h
  exact ⟨⟨g, h1, hl _ _ h2⟩, ⟨g3, h3, m, hl _ _ h4⟩, ⟨g5, h5, t, p, hl _ _ h6⟩, ⟨g7, h7, u, q, hl _ _ h8⟩⟩
theorem GH.es {P : Program} {imm : Imm} (h : GH P imm) : GE P imm "strconv.ErrSyntax" := h.2.2.1
end Go.LN
namespace Go.LN
theorem zDl {k : IntKind} {n : Int} : (Value.int k n).oneCell' = true := rfl
theorem zHH {s : ByteArray} : (Value.string s).oneCell' = true := rfl
theorem SL.one {α : Type} [Rp α] {i : Imm} {v : Value} {l : List α} (h : SL i v l) : v.oneCell' = true := by
  obtain ⟨ccs, hs, _⟩ := h
  rcases hs with ⟨rfl, _⟩ | ⟨b, off, len, cap, c, rfl, _⟩ <;> rfl
structure zD where
  Name : Str
  Dims : List Int
instance : Rp zD where
  sz := 2
  pos := by decide
  rep i cs s := ∃ v0 : Value, cs = [.string ⟨⟨s.Name.l⟩⟩, v0] /\ SL i v0 s.Dims
  len h := by obtain ⟨v0, rfl, h0⟩ := h; rfl
  mono hm h := by obtain ⟨v0, e, h0⟩ := h; exact ⟨v0, e, h0.mono hm⟩
  one h := by obtain ⟨v0, rfl, h0⟩ := h; simp [zHH, h0.one]
theorem zCp {i : Imm} {cs : List Value} {s : zD} (h : Rp.rep i cs s) : ∃ v0 : Value, cs = [.string ⟨⟨s.Name.l⟩⟩, v0] /\ SL i v0 s.Dims := h
theorem uO {i : Imm} {cs : List Value} {s : zD} (h : ∃ v0 : Value, cs = [.string ⟨⟨s.Name.l⟩⟩, v0] /\ SL i v0 s.Dims) : Rp.rep i cs s := h
theorem xL {i : Imm} {cs : List Value} {s : zD} (h : Rp.rep i cs s) : ∃ (p0 : Option Addr) (c0 : Nat), cs = [.string ⟨⟨s.Name.l⟩⟩, vS p0 s.Dims c0] /\ SL i (vS p0 s.Dims c0) s.Dims := by
  obtain ⟨v0, e, h0⟩ := zCp h
  obtain ⟨p0, c0, rfl⟩ := h0.form
  exact ⟨p0, c0, e, h0⟩
instance : Vr zD := ⟨fun i v a => ∃ cs, v = .agg ⟨cs⟩ /\ Rp.rep i cs a, fun hl ⟨cs, e, h⟩ => ⟨cs, e, Rp.mono hl h⟩⟩
structure zA where
  Coefs : List Int
  Const : Int
instance : Rp zA where
  sz := 2
  pos := by decide
  rep i cs s := ∃ v0 : Value, cs = [v0, .int .i64 s.Const] /\ SL i v0 s.Coefs
  len h := by obtain ⟨v0, rfl, h0⟩ := h; rfl
  mono hm h := by obtain ⟨v0, e, h0⟩ := h; exact ⟨v0, e, h0.mono hm⟩
  one h := by obtain ⟨v0, rfl, h0⟩ := h; simp [zDl, h0.one]
theorem zFw {i : Imm} {cs : List Value} {s : zA} (h : Rp.rep i cs s) : ∃ v0 : Value, cs = [v0, .int .i64 s.Const] /\ SL i v0 s.Coefs := h
theorem yI {i : Imm} {cs : List Value} {s : zA} (h : ∃ v0 : Value, cs = [v0, .int .i64 s.Const] /\ SL i v0 s.Coefs) : Rp.rep i cs s := h
theorem yB {i : Imm} {cs : List Value} {s : zA} (h : Rp.rep i cs s) : ∃ (p0 : Option Addr) (c0 : Nat), cs = [vS p0 s.Coefs c0, .int .i64 s.Const] /\ SL i (vS p0 s.Coefs c0) s.Coefs := by
  obtain ⟨v0, e, h0⟩ := zFw h
  obtain ⟨p0, c0, rfl⟩ := h0.form
  exact ⟨p0, c0, e, h0⟩
instance : Vr zA := ⟨fun i v a => ∃ cs, v = .agg ⟨cs⟩ /\ Rp.rep i cs a, fun hl ⟨cs, e, h⟩ => ⟨cs, e, Rp.mono hl h⟩⟩
structure zE where
  Lo : List zA
  Hi : List zA
instance : Rp zE where
  sz := 2
  pos := by decide
  rep i cs s := ∃ v0 v1 : Value, cs = [v0, v1] /\ SL i v0 s.Lo /\ SL i v1 s.Hi
  len h := by obtain ⟨v0, v1, rfl, h0, h1⟩ := h; rfl
  mono hm h := by obtain ⟨v0, v1, e, h0, h1⟩ := h; exact ⟨v0, v1, e, h0.mono hm, h1.mono hm⟩
  one h := by obtain ⟨v0, v1, rfl, h0, h1⟩ := h; simp [h0.one, h1.one]
theorem zDL {i : Imm} {cs : List Value} {s : zE} (h : Rp.rep i cs s) : ∃ v0 v1 : Value, cs = [v0, v1] /\ SL i v0 s.Lo /\ SL i v1 s.Hi := h
theorem uP {i : Imm} {cs : List Value} {s : zE} (h : ∃ v0 v1 : Value, cs = [v0, v1] /\ SL i v0 s.Lo /\ SL i v1 s.Hi) : Rp.rep i cs s := h
theorem wZ {i : Imm} {cs : List Value} {s : zE} (h : Rp.rep i cs s) : ∃ (p0 : Option Addr) (c0 : Nat) (p1 : Option Addr) (c1 : Nat), cs = [vS p0 s.Lo c0, vS p1 s.Hi c1] /\ SL i (vS p0 s.Lo c0) s.Lo /\ SL i (vS p1 s.Hi c1) s.Hi := by
  obtain ⟨v0, v1, e, h0, h1⟩ := zDL h
  obtain ⟨p0, c0, rfl⟩ := h0.form
  obtain ⟨p1, c1, rfl⟩ := h1.form
  exact ⟨p0, c0, p1, c1, e, h0, h1⟩
instance : Vr zE := ⟨fun i v a => ∃ cs, v = .agg ⟨cs⟩ /\ Rp.rep i cs a, fun hl ⟨cs, e, h⟩ => ⟨cs, e, Rp.mono hl h⟩⟩
structure zG where
  Array : Str
  Subs : List zA
instance : Rp zG where
  sz := 2
  pos := by decide
  rep i cs s := ∃ v0 : Value, cs = [.string ⟨⟨s.Array.l⟩⟩, v0] /\ SL i v0 s.Subs
  len h := by obtain ⟨v0, rfl, h0⟩ := h; rfl
  mono hm h := by obtain ⟨v0, e, h0⟩ := h; exact ⟨v0, e, h0.mono hm⟩
  one h := by obtain ⟨v0, rfl, h0⟩ := h; simp [zHH, h0.one]
theorem zFx {i : Imm} {cs : List Value} {s : zG} (h : Rp.rep i cs s) : ∃ v0 : Value, cs = [.string ⟨⟨s.Array.l⟩⟩, v0] /\ SL i v0 s.Subs := h
theorem rJ {i : Imm} {cs : List Value} {s : zG} (h : ∃ v0 : Value, cs = [.string ⟨⟨s.Array.l⟩⟩, v0] /\ SL i v0 s.Subs) : Rp.rep i cs s := h
theorem tD {i : Imm} {cs : List Value} {s : zG} (h : Rp.rep i cs s) : ∃ (p0 : Option Addr) (c0 : Nat), cs = [.string ⟨⟨s.Array.l⟩⟩, vS p0 s.Subs c0] /\ SL i (vS p0 s.Subs c0) s.Subs := by
  obtain ⟨v0, e, h0⟩ := zFx h
  obtain ⟨p0, c0, rfl⟩ := h0.form
  exact ⟨p0, c0, e, h0⟩
instance : Vr zG := ⟨fun i v a => ∃ cs, v = .agg ⟨cs⟩ /\ Rp.rep i cs a, fun hl ⟨cs, e, h⟩ => ⟨cs, e, Rp.mono hl h⟩⟩
inductive zH where
  | mk (Kind : Int) (Num : Int) (Index : zA) (Read : zG) (Kids : List zH)
def zH.Kind : zH -> Int | .mk x _ _ _ _ => x
def zH.Num : zH -> Int | .mk _ x _ _ _ => x
def zH.Index : zH -> zA | .mk _ _ x _ _ => x
def zH.Read : zH -> zG | .mk _ _ _ x _ => x
def zH.Kids : zH -> (List zH) | .mk _ _ _ _ x => x
mutual
def zH.repE (i : Imm) : zH -> List Value -> Prop
  | .mk Kind Num Index Read Kids, cs => ∃ (v0 v1 v2 : Value) (ccs : List Value), cs = [.int .i64 Kind, .int .i64 Num, v0, .int .i64 Index.Const, .string ⟨⟨Read.Array.l⟩⟩, v1, v2] /\ SL i v0 Index.Coefs /\ SL i v1 Read.Subs /\ SliceAt i v2 7 ccs /\ zH.reps i Kids ccs
def zH.reps (i : Imm) : List zH -> List Value -> Prop
  | [], cs => cs = []
  | e :: es, cs => ∃ c1 c2, cs = c1++c2 /\ c1.length = 7 /\ zH.repE i e c1 /\ zH.reps i es c2
end
mutual
theorem zER {i : Imm} : ∀ {e : zH} {cs : List Value}, zH.repE i e cs -> cs.length = 7
  | .mk .., cs, h => by simp only [zH.repE] at h; obtain ⟨v0, v1, v2, ccs, rfl, _⟩ := h; rfl
end
mutual
theorem zAr {i j : Imm} (hm : i.le j) : ∀ {e : zH} {cs : List Value}, zH.repE i e cs -> zH.repE j e cs
  | .mk .., cs, h => by
    simp only [zH.repE] at h ⊢
    obtain ⟨v0, v1, v2, ccs, e, k0, k1, ha, hb⟩ := h
    exact ⟨v0, v1, v2, ccs, e, k0.mono hm, k1.mono hm, ha.mono hm, zAs hm hb⟩
theorem zAs {i j : Imm} (hm : i.le j) : ∀ {es : List zH} {cs : List Value}, zH.reps i es cs -> zH.reps j es cs
  | [], cs, h => by simpa [zH.reps] using h
  | e :: es, cs, h => by
    simp only [zH.reps] at h ⊢
    obtain ⟨c1, c2, h1, h2, h3, h4⟩ := h
    exact ⟨c1, c2, h1, h2, zAr hm h3, zAs hm h4⟩
end
theorem fR {i : Imm} : ∀ {es : List zH} {cs : List Value}, zH.reps i es cs↔RepL (fun c e => zH.repE i e c) 7 cs es
  | [], cs => by simp [zH.reps, RepL]
  | e :: es, cs => by
    simp only [zH.reps, RepL]
    constructor
    · rintro ⟨c1, c2, h1, h2, h3, h4⟩; exact ⟨c1, c2, h1, h2, h3, fR.1 h4⟩
    · rintro ⟨c1, c2, h1, h2, h3, h4⟩; exact ⟨c1, c2, h1, h2, h3, fR.2 h4⟩
theorem SliceAt.one {i : Imm} {v : Value} {sz : Nat} {cs : List Value} (hs : SliceAt i v sz cs) : v.oneCell' = true := by
  rcases hs with ⟨rfl, _⟩ | ⟨b, off, len, cap, c, rfl, _⟩ <;> rfl
theorem zES {i : Imm} : ∀ {e : zH} {cs : List Value}, zH.repE i e cs -> ∀ v∈cs, v.oneCell' = true
  | .mk .., cs, h => by
    simp only [zH.repE] at h
    obtain ⟨v0, v1, v2, ccs, rfl, k0, k1, ha, _⟩ := h
    simp [zDl, zHH, k0.one, k1.one, ha.one]
instance : Rp zH where
  sz := 7
  pos := by decide
  rep i cs e := zH.repE i e cs
  len h := zER h
  mono hm h := zAr hm h
  one h := zES h
theorem zHY {i : Imm} {cs : List Value} {s : zH} (h : Rp.rep i cs s) : ∃ v0 v1 v2 : Value, cs = [.int .i64 s.Kind, .int .i64 s.Num, v0, .int .i64 s.Index.Const, .string ⟨⟨s.Read.Array.l⟩⟩, v1, v2] /\ SL i v0 s.Index.Coefs /\ SL i v1 s.Read.Subs /\ SL i v2 s.Kids := by
  obtain ⟨Kind, Num, Index, Read, Kids⟩ := s
  have h : zH.repE i _ cs := h
  simp only [zH.repE] at h
  obtain ⟨v0, v1, v2, ccs, e, k0, k1, ha, hb⟩ := h
  exact ⟨v0, v1, v2, e, k0, k1, ⟨ccs, ha, fR.1 hb⟩⟩
theorem wB {i : Imm} {cs : List Value} {s : zH} (h : ∃ v0 v1 v2 : Value, cs = [.int .i64 s.Kind, .int .i64 s.Num, v0, .int .i64 s.Index.Const, .string ⟨⟨s.Read.Array.l⟩⟩, v1, v2] /\ SL i v0 s.Index.Coefs /\ SL i v1 s.Read.Subs /\ SL i v2 s.Kids) : Rp.rep i cs s := by
  obtain ⟨Kind, Num, Index, Read, Kids⟩ := s
  show zH.repE i _ cs
  simp only [zH.repE]
  obtain ⟨v0, v1, v2, e, k0, k1, ⟨ccs, ha, hb⟩⟩ := h
  exact ⟨v0, v1, v2, ccs, e, k0, k1, ha, fR.2 hb⟩
theorem wT {i : Imm} {cs : List Value} {s : zH} (h : Rp.rep i cs s) : ∃ (p0 : Option Addr) (c0 : Nat) (p1 : Option Addr) (c1 : Nat) (p2 : Option Addr) (c2 : Nat), cs = [.int .i64 s.Kind, .int .i64 s.Num, vS p0 s.Index.Coefs c0, .int .i64 s.Index.Const, .string ⟨⟨s.Read.Array.l⟩⟩, vS p1 s.Read.Subs c1, vS p2 s.Kids c2] /\ SL i (vS p0 s.Index.Coefs c0) s.Index.Coefs /\ SL i (vS p1 s.Read.Subs c1) s.Read.Subs /\ SL i (vS p2 s.Kids c2) s.Kids := by
  obtain ⟨v0, v1, v2, e, h0, h1, h2⟩ := zHY h
  obtain ⟨p0, c0, rfl⟩ := h0.form
  obtain ⟨p1, c1, rfl⟩ := h1.form
  obtain ⟨p2, c2, rfl⟩ := h2.form
  exact ⟨p0, c0, p1, c1, p2, c2, e, h0, h1, h2⟩
instance : Vr zH := ⟨fun i v a => ∃ cs, v = .agg ⟨cs⟩ /\ Rp.rep i cs a, fun hl ⟨cs, e, h⟩ => ⟨cs, e, Rp.mono hl h⟩⟩
structure zJ where
  Write : zG
  Value : zH
instance : Rp zJ where
  sz := 9
  pos := by decide
  rep i cs s := ∃ v0 v1 v2 v3 : Value, cs = [.string ⟨⟨s.Write.Array.l⟩⟩, v0, .int .i64 s.Value.Kind, .int .i64 s.Value.Num, v1, .int .i64 s.Value.Index.Const, .string ⟨⟨s.Value.Read.Array.l⟩⟩, v2, v3] /\ SL i v0 s.Write.Subs /\ SL i v1 s.Value.Index.Coefs /\ SL i v2 s.Value.Read.Subs /\ SL i v3 s.Value.Kids
  len h := by obtain ⟨v0, v1, v2, v3, rfl, h0, h1, h2, h3⟩ := h; rfl
  mono hm h := by obtain ⟨v0, v1, v2, v3, e, h0, h1, h2, h3⟩ := h; exact ⟨v0, v1, v2, v3, e, h0.mono hm, h1.mono hm, h2.mono hm, h3.mono hm⟩
  one h := by obtain ⟨v0, v1, v2, v3, rfl, h0, h1, h2, h3⟩ := h; simp [zHH, zDl, h0.one, h1.one, h2.one, h3.one]
theorem mY {i : Imm} {cs : List Value} {s : zJ} (h : Rp.rep i cs s) : ∃ v0 v1 v2 v3 : Value, cs = [.string ⟨⟨s.Write.Array.l⟩⟩, v0, .int .i64 s.Value.Kind, .int .i64 s.Value.Num, v1, .int .i64 s.Value.Index.Const, .string ⟨⟨s.Value.Read.Array.l⟩⟩, v2, v3] /\ SL i v0 s.Write.Subs /\ SL i v1 s.Value.Index.Coefs /\ SL i v2 s.Value.Read.Subs /\ SL i v3 s.Value.Kids := h
theorem wC {i : Imm} {cs : List Value} {s : zJ} (h : ∃ v0 v1 v2 v3 : Value, cs = [.string ⟨⟨s.Write.Array.l⟩⟩, v0, .int .i64 s.Value.Kind, .int .i64 s.Value.Num, v1, .int .i64 s.Value.Index.Const, .string ⟨⟨s.Value.Read.Array.l⟩⟩, v2, v3] /\ SL i v0 s.Write.Subs /\ SL i v1 s.Value.Index.Coefs /\ SL i v2 s.Value.Read.Subs /\ SL i v3 s.Value.Kids) : Rp.rep i cs s := h
theorem vC {i : Imm} {cs : List Value} {s : zJ} (h : Rp.rep i cs s) : ∃ (p0 : Option Addr) (c0 : Nat) (p1 : Option Addr) (c1 : Nat) (p2 : Option Addr) (c2 : Nat) (p3 : Option Addr) (c3 : Nat), cs = [.string ⟨⟨s.Write.Array.l⟩⟩, vS p0 s.Write.Subs c0, .int .i64 s.Value.Kind, .int .i64 s.Value.Num, vS p1 s.Value.Index.Coefs c1, .int .i64 s.Value.Index.Const, .string ⟨⟨s.Value.Read.Array.l⟩⟩, vS p2 s.Value.Read.Subs c2, vS p3 s.Value.Kids c3] /\ SL i (vS p0 s.Write.Subs c0) s.Write.Subs /\ SL i (vS p1 s.Value.Index.Coefs c1) s.Value.Index.Coefs /\ SL i (vS p2 s.Value.Read.Subs c2) s.Value.Read.Subs /\ SL i (vS p3 s.Value.Kids c3) s.Value.Kids := by
  obtain ⟨v0, v1, v2, v3, e, h0, h1, h2, h3⟩ := mY h
  obtain ⟨p0, c0, rfl⟩ := h0.form
  obtain ⟨p1, c1, rfl⟩ := h1.form
  obtain ⟨p2, c2, rfl⟩ := h2.form
  obtain ⟨p3, c3, rfl⟩ := h3.form
  exact ⟨p0, c0, p1, c1, p2, c2, p3, c3, e, h0, h1, h2, h3⟩
instance : Vr zJ := ⟨fun i v a => ∃ cs, v = .agg ⟨cs⟩ /\ Rp.rep i cs a, fun hl ⟨cs, e, h⟩ => ⟨cs, e, Rp.mono hl h⟩⟩
structure zI where
  Nest : List zE
  Body : List zJ
instance : Rp zI where
  sz := 2
  pos := by decide
  rep i cs s := ∃ v0 v1 : Value, cs = [v0, v1] /\ SL i v0 s.Nest /\ SL i v1 s.Body
  len h := by obtain ⟨v0, v1, rfl, h0, h1⟩ := h; rfl
  mono hm h := by obtain ⟨v0, v1, e, h0, h1⟩ := h; exact ⟨v0, v1, e, h0.mono hm, h1.mono hm⟩
  one h := by obtain ⟨v0, v1, rfl, h0, h1⟩ := h; simp [h0.one, h1.one]
theorem zHZ {i : Imm} {cs : List Value} {s : zI} (h : Rp.rep i cs s) : ∃ v0 v1 : Value, cs = [v0, v1] /\ SL i v0 s.Nest /\ SL i v1 s.Body := h
theorem uQ {i : Imm} {cs : List Value} {s : zI} (h : ∃ v0 v1 : Value, cs = [v0, v1] /\ SL i v0 s.Nest /\ SL i v1 s.Body) : Rp.rep i cs s := h
theorem wH {i : Imm} {cs : List Value} {s : zI} (h : Rp.rep i cs s) : ∃ (p0 : Option Addr) (c0 : Nat) (p1 : Option Addr) (c1 : Nat), cs = [vS p0 s.Nest c0, vS p1 s.Body c1] /\ SL i (vS p0 s.Nest c0) s.Nest /\ SL i (vS p1 s.Body c1) s.Body := by
  obtain ⟨v0, v1, e, h0, h1⟩ := zHZ h
  obtain ⟨p0, c0, rfl⟩ := h0.form
  obtain ⟨p1, c1, rfl⟩ := h1.form
  exact ⟨p0, c0, p1, c1, e, h0, h1⟩
instance : Vr zI := ⟨fun i v a => ∃ cs, v = .agg ⟨cs⟩ /\ Rp.rep i cs a, fun hl ⟨cs, e, h⟩ => ⟨cs, e, Rp.mono hl h⟩⟩
structure zF where
  Arrays : List zD
  Parts : List zI
instance : Rp zF where
  sz := 2
  pos := by decide
  rep i cs s := ∃ v0 v1 : Value, cs = [v0, v1] /\ SL i v0 s.Arrays /\ SL i v1 s.Parts
  len h := by obtain ⟨v0, v1, rfl, h0, h1⟩ := h; rfl
  mono hm h := by obtain ⟨v0, v1, e, h0, h1⟩ := h; exact ⟨v0, v1, e, h0.mono hm, h1.mono hm⟩
  one h := by obtain ⟨v0, v1, rfl, h0, h1⟩ := h; simp [h0.one, h1.one]
theorem zFF {i : Imm} {cs : List Value} {s : zF} (h : Rp.rep i cs s) : ∃ v0 v1 : Value, cs = [v0, v1] /\ SL i v0 s.Arrays /\ SL i v1 s.Parts := h
theorem xY {i : Imm} {cs : List Value} {s : zF} (h : ∃ v0 v1 : Value, cs = [v0, v1] /\ SL i v0 s.Arrays /\ SL i v1 s.Parts) : Rp.rep i cs s := h
theorem tW {i : Imm} {cs : List Value} {s : zF} (h : Rp.rep i cs s) : ∃ (p0 : Option Addr) (c0 : Nat) (p1 : Option Addr) (c1 : Nat), cs = [vS p0 s.Arrays c0, vS p1 s.Parts c1] /\ SL i (vS p0 s.Arrays c0) s.Arrays /\ SL i (vS p1 s.Parts c1) s.Parts := by
  obtain ⟨v0, v1, e, h0, h1⟩ := zFF h
  obtain ⟨p0, c0, rfl⟩ := h0.form
  obtain ⟨p1, c1, rfl⟩ := h1.form
  exact ⟨p0, c0, p1, c1, e, h0, h1⟩
instance : Vr zF := ⟨fun i v a => ∃ cs, v = .agg ⟨cs⟩ /\ Rp.rep i cs a, fun hl ⟨cs, e, h⟩ => ⟨cs, e, Rp.mono hl h⟩⟩
structure zN where
  Part : Int
  Stmt : Int
  Point : List Int
instance : Rp zN where
  sz := 3
  pos := by decide
  rep i cs s := ∃ v0 : Value, cs = [.int .i64 s.Part, .int .i64 s.Stmt, v0] /\ SL i v0 s.Point
  len h := by obtain ⟨v0, rfl, h0⟩ := h; rfl
  mono hm h := by obtain ⟨v0, e, h0⟩ := h; exact ⟨v0, e, h0.mono hm⟩
  one h := by obtain ⟨v0, rfl, h0⟩ := h; simp [zDl, h0.one]
theorem zET {i : Imm} {cs : List Value} {s : zN} (h : Rp.rep i cs s) : ∃ v0 : Value, cs = [.int .i64 s.Part, .int .i64 s.Stmt, v0] /\ SL i v0 s.Point := h
theorem zBD {i : Imm} {cs : List Value} {s : zN} (h : ∃ v0 : Value, cs = [.int .i64 s.Part, .int .i64 s.Stmt, v0] /\ SL i v0 s.Point) : Rp.rep i cs s := h
theorem dR {i : Imm} {cs : List Value} {s : zN} (h : Rp.rep i cs s) : ∃ (p0 : Option Addr) (c0 : Nat), cs = [.int .i64 s.Part, .int .i64 s.Stmt, vS p0 s.Point c0] /\ SL i (vS p0 s.Point c0) s.Point := by
  obtain ⟨v0, e, h0⟩ := zET h
  obtain ⟨p0, c0, rfl⟩ := h0.form
  exact ⟨p0, c0, e, h0⟩
instance : Vr zN := ⟨fun i v a => ∃ cs, v = .agg ⟨cs⟩ /\ Rp.rep i cs a, fun hl ⟨cs, e, h⟩ => ⟨cs, e, Rp.mono hl h⟩⟩
structure zP where
  b : List UInt8
  p : Int
instance : Rp zP where
  sz := 2
  pos := by decide
  rep i cs s := ∃ v0 : Value, cs = [v0, .int .i64 s.p] /\ SL i v0 s.b
  len h := by obtain ⟨v0, rfl, h0⟩ := h; rfl
  mono hm h := by obtain ⟨v0, e, h0⟩ := h; exact ⟨v0, e, h0.mono hm⟩
  one h := by obtain ⟨v0, rfl, h0⟩ := h; simp [zDl, h0.one]
theorem zAJ {i : Imm} {cs : List Value} {s : zP} (h : Rp.rep i cs s) : ∃ v0 : Value, cs = [v0, .int .i64 s.p] /\ SL i v0 s.b := h
theorem yY {i : Imm} {cs : List Value} {s : zP} (h : ∃ v0 : Value, cs = [v0, .int .i64 s.p] /\ SL i v0 s.b) : Rp.rep i cs s := h
theorem yA {i : Imm} {cs : List Value} {s : zP} (h : Rp.rep i cs s) : ∃ (p0 : Option Addr) (c0 : Nat), cs = [vS p0 s.b c0, .int .i64 s.p] /\ SL i (vS p0 s.b c0) s.b := by
  obtain ⟨v0, e, h0⟩ := zAJ h
  obtain ⟨p0, c0, rfl⟩ := h0.form
  exact ⟨p0, c0, e, h0⟩
instance : Vr zP := ⟨fun i v a => ∃ cs, v = .agg ⟨cs⟩ /\ Rp.rep i cs a, fun hl ⟨cs, e, h⟩ => ⟨cs, e, Rp.mono hl h⟩⟩
structure rY where
  nest : List zE
  steps : Int
  out : List (List Int)
instance : Rp rY where
  sz := 3
  pos := by decide
  rep i cs s := ∃ v0 v1 : Value, cs = [v0, .int .i64 s.steps, v1] /\ SL i v0 s.nest /\ SL i v1 s.out
  len h := by obtain ⟨v0, v1, rfl, h0, h1⟩ := h; rfl
  mono hm h := by obtain ⟨v0, v1, e, h0, h1⟩ := h; exact ⟨v0, v1, e, h0.mono hm, h1.mono hm⟩
  one h := by obtain ⟨v0, v1, rfl, h0, h1⟩ := h; simp [zDl, h0.one, h1.one]
instance : Vr rY := ⟨fun i v a => ∃ cs, v = .agg ⟨cs⟩ /\ Rp.rep i cs a, fun hl ⟨cs, e, h⟩ => ⟨cs, e, Rp.mono hl h⟩⟩
end Go.LN
namespace Go.LN
theorem iM {α : Type} [Rp α] {i j : Imm} (h : i.le j) {l : List α} {cs : List Value} (hr : RL i cs l) : RL j cs l := RepL.mono (fun _ _ => Rp.mono h) hr
def stB : List HA -> Nat -> List Value -> (List HA -> Option (List HA)) -> Option (List HA)
  | .blk b _ :: t, 0, c', k => k (.blk b ⟨c'⟩ :: t)
  | h :: t, j+1, c', k => stB t j c' fun r => k (h :: r)
  | _, _, _, _ => none
theorem zLM : ∀ {hs : List HA} {j : Nat} {b : Nat} {c : Array Value} {c' : List Value} {k : List HA -> Option (List HA)}, hs[j]? = some (.blk b c) -> stB hs j c' k = k (hs.set j (.blk b ⟨c'⟩))
  | [], _, _, _, _, _, h => by simp at h
  | A :: t, 0, b, c, c', k, h => by
    simp only [List.getElem?_cons_zero, Option.some.injEq] at h
    subst h; rfl
  | A :: t, j+1, b, c, c', k, h => by
    simp only [List.getElem?_cons_succ] at h
    rw [stB, zLM h, List.set_cons_succ]
class Mo (X : Prop) (i j : Imm) (Y : outParam Prop) : Prop where
  mo : i.le j -> X -> Y
instance {α : Type} [Rp α] {v : Value} {l : List α} {i j : Imm} : Mo (SL i v l) i j (SL j v l) := ⟨fun h x => x.mono h⟩
instance {α : Type} [Rp α] {cs : List Value} {l : List α} {i j : Imm} : Mo (RL i cs l) i j (RL j cs l) := ⟨fun h x => iM h x⟩
instance {ad : Addr} {cs : List Value} {i j : Imm} : Mo (At i ad cs) i j (At j ad cs) := ⟨fun h x => At.mono h x⟩
instance {α : Type} [Rp α] {v : Value} {o : Option α} {i j : Imm} : Mo (FP i v o) i j (FP j v o) := ⟨fun h x => FP.mono x h⟩
instance {α β : Type} [Vr α] [Vr β] {P : Program} {hsF : List HA} {v : Value} {φ : α -> Option β} {i j : Imm} : Mo (FV1 P i hsF v φ) i j (FV1 P j hsF v φ) := ⟨fun h x => FV1.mono h x⟩
instance {α β γ : Type} [Vr α] [Vr β] [Vr γ] {P : Program} {hsF : List HA} {v : Value} {φ : α -> β -> Option γ} {i j : Imm} : Mo (FV2 P i hsF v φ) i j (FV2 P j hsF v φ) := ⟨fun h x => FV2.mono h x⟩
instance {P : Program} {i j : Imm} : Mo (GH P i) i j (GH P j) := ⟨fun h x => GH.mono h x⟩
instance {i0 i j : Imm} : Mo (i0.le i) i j (i0.le j) := ⟨fun h x => x.trans h⟩
theorem m2 {i j : Imm} {A B A' B' : Prop} (h : i.le j) (a : A) (b : B) [Mo A i j A'] [Mo B i j B'] : A' /\ B' := ⟨Mo.mo h a, Mo.mo h b⟩
theorem m3 {i j : Imm} {A B C A' B' C' : Prop} (h : i.le j) (a : A) (b : B) (c : C) [Mo A i j A'] [Mo B i j B'] [Mo C i j C'] : A' /\ B' /\ C' := ⟨Mo.mo h a, Mo.mo h b, Mo.mo h c⟩
theorem m4 {i j : Imm} {A B C D A' B' C' D' : Prop} (h : i.le j) (a : A) (b : B) (c : C) (d : D) [Mo A i j A'] [Mo B i j B'] [Mo C i j C'] [Mo D i j D'] : A' /\ B' /\ C' /\ D' := ⟨Mo.mo h a, Mo.mo h b, Mo.mo h c, Mo.mo h d⟩
theorem m5 {i j : Imm} {A B C D E A' B' C' D' E' : Prop} (h : i.le j) (a : A) (b : B) (c : C) (d : D) (e : E) [Mo A i j A'] [Mo B i j B'] [Mo C i j C'] [Mo D i j D'] [Mo E i j E'] : A' /\ B' /\ C' /\ D' /\ E' := ⟨Mo.mo h a, Mo.mo h b, Mo.mo h c, Mo.mo h d, Mo.mo h e⟩
theorem m6 {i j : Imm} {A B C D E F A' B' C' D' E' F' : Prop} (h : i.le j) (a : A) (b : B) (c : C) (d : D) (e : E) (f : F) [Mo A i j A'] [Mo B i j B'] [Mo C i j C'] [Mo D i j D'] [Mo E i j E'] [Mo F i j F'] : A' /\ B' /\ C' /\ D' /\ E' /\ F' := ⟨Mo.mo h a, Mo.mo h b, Mo.mo h c, Mo.mo h d, Mo.mo h e, Mo.mo h f⟩
abbrev K1 {α : Type} (o : α) (I : Imm) (hs : List HA) (m : α -> FM) : Imm -> List HA -> FM -> Prop := fun I' hs' m' => ∃ t : α, o = t /\ I.le I' /\ hs' = hs /\ m' = m t
section
variable {P : Program} {n : Nat} {B : Base} {ops : List Oper} {Q : Exit -> Act -> World -> Prop} {pc : Nat} {imm : Imm} {hs : List HA} {m : FM} {d : Nat}
  {ty : TypeId} {pos : String} {after : Array Edge} {g : Option (Nat × Bool)}
theorem xH {f : FuncId} {x : Operand} {xs : Array Operand} {ts : Array TypeId} {vs : List Value} {post : Nat -> Imm -> List HA -> Value -> Prop}
    (hc : Ret P f vs imm [] post)
    (next : ∀ imm' hs' v k, imm.le imm' -> B.w0.heap.size<=k -> post k imm' hs' v -> (∀ b∈hs'.flatMap HA.fp, b∈([] : List HA).flatMap HA.fp∨B.w0.heap.size<=b) -> R P n B ops Q (pc+1) imm' (hs'++hs) ((d, v) :: m))
    (ho : ops[pc]? = some ⟨some d, .call { callee := .value x, args := xs, argTypes := ts }, ty, pos, after, g⟩ := by rfl) (hg : guardB ops m g = some true := by rfl) (hn : Nat.blt d n = true := by rfl) (hx : val m x = some (.func (.func f) #[] #[]) := by rfl) (hf : callable P f = true := by kernel_rfl)
    (hvs : vals m xs.toList = some vs := by rfl) : R P n B ops Q pc imm hs m :=
  zFr (hs1 := []) (rest := hs) ho hg hn hx hf hvs rfl hc next
theorem zOo {f : FuncId} {x : Operand} {xs : Array Operand} {ts : Array TypeId} {vs : List Value} (hs1 rest : List HA) {post : Nat -> Imm -> List HA -> Value -> Prop}
    (hc : Ret P f vs imm hs1 post)
    (next : ∀ imm' hs' v k, imm.le imm' -> B.w0.heap.size<=k -> post k imm' hs' v -> (∀ b∈hs'.flatMap HA.fp, b∈hs1.flatMap HA.fp∨B.w0.heap.size<=b) -> R P n B ops Q (pc+1) imm' (hs'++rest) ((d, v) :: m))
    (ho : ops[pc]? = some ⟨some d, .call { callee := .value x, args := xs, argTypes := ts }, ty, pos, after, g⟩ := by rfl) (hg : guardB ops m g = some true := by rfl) (hn : Nat.blt d n = true := by rfl) (hx : val m x = some (.func (.func f) #[] #[]) := by rfl) (hf : callable P f = true := by kernel_rfl)
    (hvs : vals m xs.toList = some vs := by rfl) (hh : hs = hs1++rest := by rfl) : R P n B ops Q pc imm hs m :=
  zFr (hs1 := hs1) (rest := rest) ho hg hn hx hf hvs hh hc next
theorem zAl (m' : FM) (h : R P n B ops Q pc imm hs m') (hk : keep m (m'.map (·.1)) = some m' := by kernel_rfl) : R P n B ops Q pc imm hs m := fY (zBs hk) h
theorem tK (cs : List Value) (α : Type) [Rp α] {t len : Nat} {parts : Array (Nat × Operand)} {ps : List (Nat × Value)}
    (next : ∀ b, B.w0.heap.size<=b -> R P n B ops Q (pc+1) imm (.osl (.slice (some ⟨b, 0, none⟩) len len) (Rp.sz α) cs :: hs) ((d, .slice (some ⟨b, 0, none⟩) len len) :: m))
    (ho : ops[pc]? = some ⟨some d, .buildSlice t len parts, ty, pos, after, g⟩ := by rfl) (hg : guardB ops m g = some true := by rfl) (hn : Nat.blt d n = true := by rfl) (hps : pvals m parts.toList = some ps := by rfl) (hc : elemZ P t len ps = some ⟨cs⟩ := by kernel_rfl) (hl : Nat.beq cs.length (len*Rp.sz α) = true := by kernel_rfl)
    (hlM : Nat.ble len 9223372036854775807 = true := by rfl) : R P n B ops Q pc imm hs m :=
  zIz (cs := cs) (Rp.sz α) ho hg hn hps hc hl next hlM
theorem xU (c : List Value) {t : TypeId}
    (next : ∀ b, B.w0.heap.size<=b -> R P n B ops Q (pc+1) imm (.blk b ⟨c⟩ :: hs) ((d, .pointer (some ⟨b, 0, none⟩)) :: m))
    (ho : ops[pc]? = some ⟨some d, .alloc t, ty, pos, after, g⟩ := by rfl) (hg : guardB ops m g = some true := by rfl) (hn : Nat.blt d n = true := by rfl) (hz : zeroC P t = some ⟨c⟩ := by kernel_rfl) : R P n B ops Q pc imm hs m :=
  zNX (c := ⟨c⟩) ho hg hn hz next
theorem vK (c : List Value) {t : TypeId} {x : Operand} {v : Value}
    (next : ∀ b, B.w0.heap.size<=b -> R P n B ops Q (pc+1) imm (.blk b ⟨c⟩ :: hs) ((d, .pointer (some ⟨b, 0, none⟩)) :: m))
    (ho : ops[pc]? = some ⟨some d, .box t x, ty, pos, after, g⟩ := by rfl) (hg : guardB ops m g = some true := by rfl) (hn : Nat.blt d n = true := by rfl) (hx : val m x = some v := by rfl) (hc : v.cells = ⟨c⟩ := by rfl) : R P n B ops Q pc imm hs m :=
  zOb (c := ⟨c⟩) ho hg hn hx hc next
theorem dS {its : List It} {gs : List (List HA)} {N : Nat} {l : List (Nat × Bool)} {ops' : List Oper} {pc : Nat} (m2 : FM) (h : R P n B ops' Q pc imm hs m2)
    (hi : (insM ops its l m).bind (fun m1 => keep m1 (m2.map (·.1))) = some m2 := by kernel_rfl) : Ins ops (factsOf N its gs) imm l m hs fun m' hs' => R P n B ops' Q pc imm hs' m' := by
  obtain ⟨m1, h1, h2⟩ := Option.bind_eq_some_iff.1 hi
  refine zFC (fun j it hj => ?_) h1 (fY (zBs h2) h)
  have hlt := (List.getElem?_eq_some_iff.1 hj).1
  unfold factsOf
  rw [List.getD_eq_getElem?_getD, List.getElem?_append_left (by rw [List.length_map]; exact hlt), List.getElem?_map, hj]
  rfl
theorem xB {ops' : List Oper} {pc d0 : Nat} {φi : Fact} {imm1 : Imm} {v : Value} (hle : imm1.le imm) (h0 : ops'.drop pc = [] := by rfl) (hd : look m d0 = some v := by rfl) (hφ : φi imm v [] := by exact ⟨rfl, rfl⟩) : R P n B ops' (OutQ n B φi (some d0) imm1 hs) pc imm hs m :=
  zG3 (hx := []) h0 hle rfl (fun _ e => by cases e; exact hd) hφ
theorem yJ {f : FuncId} {fn : Func} {args : List Value} {post : Nat -> Imm -> List HA -> Value -> Prop} (hf : P.funcs[f]? = some fn) (h : ∀ B : Base, J P fn.ntmps B (bodyOf fn) (QB P fn B post) imm hs (argm 0 args))
    (hb : fn.body = some (bodyOf fn) := by rfl) (hn : Nat.ble args.length fn.ntmps = true := by rfl) : Ret P f args imm hs post := zMM hf hb hn fun B _ _ => h B
theorem yL (hx : List HA) {ops' : List Oper} {pc d0 : Nat} {φi : Fact} {imm1 : Imm} {hs0 : List HA} {v : Value} (hle : imm1.le imm) (hφ : φi imm v hx) (h0 : ops'.drop pc = [] := by rfl) (hh : hs = hx++hs0 := by rfl) (hd : look m d0 = some v := by rfl) : R P n B ops' (OutQ n B φi (some d0) imm1 hs0) pc imm hs m :=
  zG3 (hx := hx) h0 hle hh (fun _ e => by cases e; exact hd) hφ
theorem yC {id : Nat} {ops : List Oper} {y : Code} (h : R P n B ops (Exit.then (y.wp P Q) Q) 0 imm hs m) : J P n B ((Code.region id ops.toArray false).seq y) Q imm hs m := yD (zM h)
theorem zZ {x y : Code} (h : J P n B x (Exit.then (y.wp P Q) Q) imm hs m) : T n B (Exit.then ((x.seq y).wp P Q) Q) .normal imm hs m := zK (yD h)
theorem yX {id : Nat} {ops : List Oper} {y : Code} (h : R P n B ops (Exit.then (y.wp P Q) Q) 0 imm hs m) : T n B (Exit.then (((Code.region id ops.toArray false).seq y).wp P Q) Q) .normal imm hs m := zK (yC h)
theorem vM {id : Nat} {ops : List Oper} {y : Code} (new : FM) (hR : T n B (Exit.then (y.wp P Q) Q) .normal imm hs (new++m)) (h : runD P n ops hs 0 ops.length [] (new.map (·.1)) m = some (new, [].map (blkAt hs)) := by kernel_rfl) : J P n B ((Code.region id ops.toArray false).seq y) Q imm hs m := yC (wU [] new hR h)
theorem zFy {id : Nat} {ops : List Oper} {y : Code} (new : FM) (hR : T n B (Exit.then (y.wp P Q) Q) .normal imm hs (new++m)) (h : runD P n ops hs 0 ops.length [] (new.map (·.1)) m = some (new, [].map (blkAt hs)) := by kernel_rfl) : T n B (Exit.then (((Code.region id ops.toArray false).seq y).wp P Q) Q) .normal imm hs m := zK (vM new hR h)
theorem uE {fn : Func} {post : Nat -> Imm -> List HA -> Value -> Prop} {v : Value} (h1 : ResV P m hs fn.results.toList [v] := by exact .tmp rfl ResV.nil) (h2 : post B.w0.heap.size imm [] (tupV [v]) := by exact ⟨_, rfl, rfl, rfl⟩) : T n B (QB P fn B post) .ret imm hs m := xC ⟨_, _, h1, zQ, h2⟩
theorem fB {f : FuncId} {x : Operand} {xs : Array Operand} {ts : Array TypeId} {vs : List Value} {r : Int}
    (hc : Ret P f vs imm [] fun _ _ hs' v => ∃ v0, hs' = [] /\ v = tupV [v0] /\ v0 = .int .i64 r)
    (next : ∀ imm', imm.le imm' -> R P n B ops Q (pc+1) imm' hs ((d, vI r) :: m))
    (ho : ops[pc]? = some ⟨some d, .call { callee := .value x, args := xs, argTypes := ts }, ty, pos, after, g⟩ := by rfl) (hg : guardB ops m g = some true := by rfl) (hn : Nat.blt d n = true := by rfl) (hx : val m x = some (.func (.func f) #[] #[]) := by rfl) (hf : callable P f = true := by kernel_rfl)
    (hvs : vals m xs.toList = some vs := by rfl) : R P n B ops Q pc imm hs m :=
  xH hc (fun imm' hs' v k h1 _ h3 _ => by obtain ⟨v0, rfl, rfl, rfl⟩ := h3; exact next imm' h1) ho hg hn hx hf hvs
theorem uZ {f : FuncId} {x : Operand} {xs : Array Operand} {ts : Array TypeId} {vs : List Value} {r : Bool}
    (hc : Ret P f vs imm [] fun _ _ hs' v => ∃ v0, hs' = [] /\ v = tupV [v0] /\ v0 = .bool r)
    (next : ∀ imm', imm.le imm' -> R P n B ops Q (pc+1) imm' hs ((d, .bool r) :: m))
    (ho : ops[pc]? = some ⟨some d, .call { callee := .value x, args := xs, argTypes := ts }, ty, pos, after, g⟩ := by rfl) (hg : guardB ops m g = some true := by rfl) (hn : Nat.blt d n = true := by rfl) (hx : val m x = some (.func (.func f) #[] #[]) := by rfl) (hf : callable P f = true := by kernel_rfl)
    (hvs : vals m xs.toList = some vs := by rfl) : R P n B ops Q pc imm hs m :=
  xH hc (fun imm' hs' v k h1 _ h3 _ => by obtain ⟨v0, rfl, rfl, rfl⟩ := h3; exact next imm' h1) ho hg hn hx hf hvs
theorem wW {id : Nat} {K1 K2 : Act -> World -> Prop} (h : T n B Q (.exit id) imm hs m) : J P n B (.exit id) (Exit.then K1 (Exit.then K2 Q)) imm hs m := zEO (jY (jY h))
theorem xI (h : T n B Q .ret imm hs m) : T n B (Exit.then ((Code.ret).wp P Q) Q) .normal imm hs m := zK (xD h)
theorem wK {id : Nat} {c : Code} (h : J P n B c (Exit.inBlock id Q) imm hs m) : T n B (Exit.then ((Code.block id c).wp P Q) Q) .normal imm hs m := zK (yF h)
theorem zY (is : List Nat) {hs' : List HA} (h : pick hs is = some hs' := by rfl) (hn : is.Nodup := by decide) : ∀ w, Good B imm hs w -> Good B imm hs' w := zW is h hn
theorem yZ {t : TypeId} {x y : Operand} {b o : Nat} {c : Array Value} {v : Value} {hs' : List HA} (j : Nat) (c' : List Value) (hq : stB hs j c' some = some hs') (next : R P n B ops Q (pc+1) imm hs' m) (ho : ops[pc]? = some ⟨none, .store t x y, ty, pos, after, g⟩ := by rfl) (hj : hs[j]? = some (.blk b c) := by rfl) (hx : val m x = some (.pointer (some ⟨b, o, none⟩)) := by rfl) (hy : val m y = some v := by rfl) (hg : guardB ops m g = some true := by kernel_rfl) (hsz : sizeT P t = some v.cells.size := by kernel_rfl) (hol : Nat.ble (o+v.cells.size) c.size = true := by kernel_rfl) (hone : v.cells.toList.all Value.oneCell' = true := by kernel_rfl) (hc : wr c o v.cells.toList = ⟨c'⟩ := by kernel_rfl) : R P n B ops Q pc imm hs m :=
  eQ j c' hs' ho hj hx hy next hg hsz hol hone hc (by rw [zLM hj] at hq; exact Option.some.inj hq)
end
theorem bE {α β : Type} {o : Option α} {f : α -> Option β} {r : β} {G : Prop} (h : (o >>= f) = some r) (k : ∀ x, o = some x -> f x = some r -> G) : G := by
  obtain ⟨x, h1, h2⟩ := zB h
  exact k x h1 h2
theorem ct {α : Type} {o t : α} {P1 : Prop} {P2 P3 : α -> Prop} (hM : (pure t : Option α) = some o) (H : P1) (h2 : P2 t := by rfl) (h3 : P3 t := by rfl) : ∃ t', o = t' /\ P1 /\ P2 t' /\ P3 t' := ⟨t, (zC hM).symm, H, h2, h3⟩
abbrev NG (Q : Exit -> Act -> World -> Prop) : Prop := ∀ gl a w, ¬ Q (.goto gl) a w
abbrev NO (Q : Exit -> Act -> World -> Prop) : Prop := ∀ a w, ¬ Q .outgrown a w
abbrev cStmt (x : zJ) (p0 : Option Addr) (c0 : Nat) (p1 : Option Addr) (c1 : Nat) (p2 : Option Addr) (c2 : Nat) (p3 : Option Addr) (c3 : Nat) : List Value := [vT x.Write.Array.l, vS p0 x.Write.Subs c0, vI x.Value.Kind, vI x.Value.Num, vS p1 x.Value.Index.Coefs c1, vI x.Value.Index.Const, vT x.Value.Read.Array.l, vS p2 x.Value.Read.Subs c2, vS p3 x.Value.Kids c3]
abbrev cExpr (x : zH) (p0 : Option Addr) (c0 : Nat) (p1 : Option Addr) (c1 : Nat) (p2 : Option Addr) (c2 : Nat) : List Value := [vI x.Kind, vI x.Num, vS p0 x.Index.Coefs c0, vI x.Index.Const, vT x.Read.Array.l, vS p1 x.Read.Subs c1, vS p2 x.Kids c2]
abbrev cAccess (x : zG) (p0 : Option Addr) (c0 : Nat) : List Value := [vT x.Array.l, vS p0 x.Subs c0]
abbrev cAff (x : zA) (p0 : Option Addr) (c0 : Nat) : List Value := [vS p0 x.Coefs c0, vI x.Const]
abbrev cLoop (x : zE) (p0 : Option Addr) (c0 : Nat) (p1 : Option Addr) (c1 : Nat) : List Value := [vS p0 x.Lo c0, vS p1 x.Hi c1]
abbrev cPart (x : zI) (p0 : Option Addr) (c0 : Nat) (p1 : Option Addr) (c1 : Nat) : List Value := [vS p0 x.Nest c0, vS p1 x.Body c1]
abbrev cProg (x : zF) (p0 : Option Addr) (c0 : Nat) (p1 : Option Addr) (c1 : Nat) : List Value := [vS p0 x.Arrays c0, vS p1 x.Parts c1]
abbrev cArr (x : zD) (p0 : Option Addr) (c0 : Nat) : List Value := [vT x.Name.l, vS p0 x.Dims c0]
abbrev cRd (x : zP) (p0 : Option Addr) (c0 : Nat) : List Value := [vS p0 x.b c0, vI x.p]
abbrev cInst (x : zN) (p0 : Option Addr) (c0 : Nat) : List Value := [vI x.Part, vI x.Stmt, vS p0 x.Point c0]
abbrev zExpr : List Value := [vI 0, vI 0, .slice none 0 0, vI 0, vT ([]), .slice none 0 0, .slice none 0 0]
abbrev zTwo : List Value := [.slice none 0 0, .slice none 0 0]
abbrev z0 : Value := .slice none 0 0
abbrev vF : Value := .bool false
abbrev vY : Value := .bool true
abbrev KT := Nat -> Imm -> List HA -> Value -> Prop
theorem iS (i : Imm) : i.le i := Imm.le.refl i
theorem iR {i : Imm} : i.le i := Imm.le.refl i
abbrev S4 {α : Type} [Rp α] (imm : Imm) (p : Option Addr) (l : List α) (c : Nat) : Prop := SL imm (vS p l c) l
end Go.LN
namespace Go.LN
theorem zFz : ∀ {ks : List Nat} {m m' : FM}, keep m ks = some m' -> m'.map (·.1) = ks
  | [], m, m', h => by simp only [keep] at h; cases h; rfl
  | k :: ks, m, m', h => by
    simp only [keep] at h
    split at h
    · rename_i v m1 h1 h2; cases h; rw [List.map_cons, zFz h2]
    · cases h
theorem zDm {P : Program} {n : Nat} {ops : List Oper} {hs : List HA} {pc k : Nat} {js ks : List Nat} {m new : FM} {bs : List Nat} (h : runD P n ops hs pc k js ks m = some (new, bs)) : new.map (·.1) = ks := by
  unfold runD at h
  split at h
  · split at h
    · rename_i hk; cases h; exact zFz hk
    · cases h
  · cases h
section
variable {P : Program} {n : Nat} {B : Base} {ops : List Oper} {Q : Exit -> Act -> World -> Prop} {pc : Nat} {imm : Imm} {hs : List HA} {m new : FM} {d : Nat}
theorem yE (pc' : Nat) (js ks : List Nat) (h : runD P n ops hs pc (pc' - pc) js ks m = some (new, js.map (blkAt hs))) (hR : R P n B ops Q pc' imm hs (new++m))
    (hl : Nat.beq (pc+((ops.drop pc).take (pc' - pc)).length) pc' = true := by kernel_rfl) : R P n B ops Q pc imm hs m := tZ pc' js new hR (by rw [zDm h]; exact h) hl
theorem yM (js ks : List Nat) (h : runD P n ops hs pc ops.length js ks m = some (new, js.map (blkAt hs))) (hR : T n B Q .normal imm hs (new++m)) : R P n B ops Q pc imm hs m := wU js new hR (by rw [zDm h]; exact h)
theorem zBv (pc' : Nat) (js ks : List Nat) (h : runD P n ops hs pc (pc' - pc) js ks m = some (new, js.map (blkAt hs))) (hR : Rq P n B ops Q pc' imm hs (new++m))
    (hl : Nat.beq (pc+((ops.drop pc).take (pc' - pc)).length) pc' = true := by kernel_rfl) : Rq P n B ops Q pc imm hs m := zOm pc' js new hR (by rw [zDm h]; exact h) hl
theorem zKi (js ks : List Nat) (h : runD P n ops hs pc ops.length js ks m = some (new, js.map (blkAt hs))) (hR : T n B Q .normal imm hs (new++m)) : Rq P n B ops Q pc imm hs m := zKg js new hR (by rw [zDm h]; exact h)
theorem yH {id : Nat} {ops : List Oper} {y : Code} (ks : List Nat) (h : runD P n ops hs 0 ops.length [] ks m = some (new, [])) (hR : T n B (Exit.then (y.wp P Q) Q) .normal imm hs (new++m)) : J P n B ((Code.region id ops.toArray false).seq y) Q imm hs m := yC (yM [] ks h hR)
theorem uN {id : Nat} {ops : List Oper} {y : Code} (ks : List Nat) (h : runD P n ops hs 0 ops.length [] ks m = some (new, [])) (hR : T n B (Exit.then (y.wp P Q) Q) .normal imm hs (new++m)) : T n B (Exit.then (((Code.region id ops.toArray false).seq y).wp P Q) Q) .normal imm hs m := zK (yH ks h hR)
theorem yW {e : Exit} {m' : FM} (h : T n B Q e imm hs m') (hk : keep m (m'.map (·.1)) = some m' := by kernel_rfl) : T n B Q e imm hs m := T_w m' h hk
theorem nT {c : Code} {m' : FM} (h : J P n B c Q imm hs m') (hk : keep m (m'.map (·.1)) = some m' := by kernel_rfl) : J P n B c Q imm hs m := pM m' h hk
theorem yV {its : List It} {gs : List (List HA)} {N : Nat} {l : List (Nat × Bool)} {ops' : List Oper} {m2 : FM} (ks : List Nat)
    (hi : (insM ops its l m).bind (fun m1 => keep m1 ks) = some m2) (h : R P n B ops' Q pc imm hs m2) : Ins ops (factsOf N its gs) imm l m hs fun m' hs' => R P n B ops' Q pc imm hs' m' :=
  dS m2 h (by
    obtain ⟨m1, h1, h2⟩ := Option.bind_eq_some_iff.1 hi
    rw [zFz h2]; exact hi)
theorem wO (qs : List Nat) {c : Bool} {α : Type} {X Y : Option α} {r : α} (hM : (if c = true then X else Y) = some r) (ht : c = true -> X = some r -> R P n B ops Q pc imm hs (qs.map (fun q => (q, Value.bool true))++m))
    (hf : c = false -> Y = some r -> R P n B ops Q pc imm hs (qs.map (fun q => (q, Value.bool false))++m)) (hq : keep m qs = some (qs.map fun q => (q, Value.bool c)) := by kernel_rfl) : R P n B ops Q pc imm hs m := by
  cases c with
  | true => exact zN2 (fun a f => zHW hq (fun _ _ _ h => h) a f) (ht rfl hM)
  | false => exact zN2 (fun a f => zHW hq (fun _ _ _ h => h) a f) (hf rfl hM)
theorem zH0 (qs : List Nat) {c : Bool} {α : Type} {X Y : Option α} {r : α} (hM : (if c = true then X else Y) = some r) (ht : c = true -> X = some r -> Rq P n B ops Q pc imm hs (qs.map (fun q => (q, Value.bool true))++m))
    (hf : c = false -> Y = some r -> Rq P n B ops Q pc imm hs (qs.map (fun q => (q, Value.bool false))++m)) (hq : keep m qs = some (qs.map fun q => (q, Value.bool c)) := by kernel_rfl) : Rq P n B ops Q pc imm hs m := by
  cases c with
  | true => exact zLJ (fun a f => zHW hq (fun _ _ _ h => h) a f) (ht rfl hM)
  | false => exact zLJ (fun a f => zHW hq (fun _ _ _ h => h) a f) (hf rfl hM)
theorem zOp (α : Type) [Rp α] (h : RL imm [] ([] : List α) -> R P n B ops Q pc imm (hO α (.slice none 0 0) [] :: hs) m) : R P n B ops Q pc imm hs m := sW (gZ (Rp.sz α)) (h RepL.nil)
theorem zAb (α : Type) [Rp α] {c : Code} (h : RL imm [] ([] : List α) -> J P n B c Q imm (hO α (.slice none 0 0) [] :: hs) m) : J P n B c Q imm hs m := pL (gZ (Rp.sz α)) (h RepL.nil)
theorem mU {α : Type} [Rp α] {cs : List Value} {l : List α} (hr : RL imm cs l) {t len : Nat} {parts : Array (Nat × Operand)} {ps : List (Nat × Value)} {ty : TypeId} {pos : String} {after : Array Edge} {g : Option (Nat × Bool)}
    (next : ∀ b imm', imm.le imm' -> SL imm' (.slice (some ⟨b, 0, none⟩) len len) l -> R P n B ops Q (pc+1) imm' hs ((d, .slice (some ⟨b, 0, none⟩) len len) :: m))
    (ho : ops[pc]? = some ⟨some d, .buildSlice t len parts, ty, pos, after, g⟩ := by rfl) (hg : guardB ops m g = some true := by rfl) (hn : Nat.blt d n = true := by rfl) (hps : pvals m parts.toList = some ps := by rfl) (hc : elemZ P t len ps = some ⟨cs⟩ := by kernel_rfl) (hl : Nat.beq cs.length (len*Rp.sz α) = true := by kernel_rfl)
    (hlM : Nat.ble len 9223372036854775807 = true := by rfl) : R P n B ops Q pc imm hs m :=
  tK cs α (fun b _ => xX 0 rfl fun imm' hle hl0 => next b imm' hle (SL.of_frozen hl0 hle hr)) ho hg hn hps hc hl hlM
theorem rS {f : FuncId} {x : Operand} {xs : Array Operand} {ts : Array TypeId} {vs : List Value} {hs1 rest : List HA} {post : Nat -> Imm -> List HA -> Value -> Prop} {ty : TypeId} {pos : String} {after : Array Edge} {g : Option (Nat × Bool)}
    (hc : Ret P f vs imm hs1 post) (hh : hs = hs1++rest)
    (next : ∀ imm' hs' v k, imm.le imm' -> B.w0.heap.size<=k -> post k imm' hs' v -> (∀ b∈hs'.flatMap HA.fp, b∈hs1.flatMap HA.fp∨B.w0.heap.size<=b) -> R P n B ops Q (pc+1) imm' (hs'++rest) ((d, v) :: m))
    (ho : ops[pc]? = some ⟨some d, .call { callee := .value x, args := xs, argTypes := ts }, ty, pos, after, g⟩ := by rfl) (hg : guardB ops m g = some true := by rfl) (hn : Nat.blt d n = true := by rfl) (hx : val m x = some (.func (.func f) #[] #[]) := by rfl) (hf : callable P f = true := by kernel_rfl)
    (hvs : vals m xs.toList = some vs := by rfl) : R P n B ops Q pc imm hs m := zOo hs1 rest hc next ho hg hn hx hf hvs hh
theorem uB {α γ : Type} {x : Option α} {f : α -> Option γ} {r : γ} {c : Code} (hM : (x >>= f) = some r) (hs0 : List HA) (mf : α -> FM)
    (h : ∀ o, x = some o -> J P n B c (Exit.then (fun a w => ∃ imm' hs' m', K1 o imm hs0 mf imm' hs' m' /\ Fr n a m' /\ Good B imm' hs' w) Q) imm hs m)
    (k : ∀ t imm', imm.le imm' -> f t = some r -> T n B Q .normal imm' hs0 (mf t)) : J P n B c Q imm hs m := by
  obtain ⟨o, h1, h2⟩ := zB hM
  refine nN (K1 o imm hs0 mf) (h o h1) ?_
  rintro imm' _ _ ⟨t, rfl, hle, rfl, rfl⟩
  exact k _ imm' hle h2
end
theorem rN {α : Type} [Rp α] {i : Imm} : RL i [] ([] : List α) := RepL.nil
theorem rc {α : Type} [Rp α] {i : Imm} {c1 c2 : List Value} {l : List α} (a : α) (h : Rp.rep i c1 a) (t : RL i c2 l) : RL i (c1++c2) (a :: l) := ⟨c1, c2, rfl, Rp.len h, h, t⟩
theorem rI {i : Imm} : ∀ (l : List Int), RL i (l.map vI) l
  | [] => RepL.nil
  | a :: l => ⟨[vI a], l.map vI, rfl, rfl, rfl, rI l⟩
theorem rT {i : Imm} : ∀ (l : List Str), RL i (l.map fun s => vT s.l) l
  | [] => RepL.nil
  | a :: l => ⟨[vT a.l], l.map fun s => vT s.l, rfl, rfl, rfl, rT l⟩
end Go.LN
namespace Go.LN
section
variable {P : Program} {n : Nat} {B : Base} {Q : Exit -> Act -> World -> Prop} {imm : Imm} {hs : List HA} {m : FM} {ops : List Oper} {pc d : Nat} {ty : TypeId} {pos : String} {after : Array Edge} {g : Option (Nat × Bool)}
theorem zNv {α β : Type} [Vr α] [Vr β] {x y : Operand} {ts : Array TypeId} {v va : Value} {a : α} {r : β} {φ : α -> Option β}
    (ho : ops[pc]? = some ⟨some d, .call { callee := .value x, args := #[y], argTypes := ts }, ty, pos, after, g⟩) (hy : val m y = some va) (hF : FV1 P imm [] v φ) (hr : φ a = some r) (ha : Vr.rep imm va a)
    (next : ∀ imm' u, imm.le imm' -> Vr.rep imm' u r -> R P n B ops Q (pc+1) imm' hs ((d, u) :: m)) (hx : val m x = some v := by kernel_rfl) (hg : guardB ops m g = some true := by kernel_rfl) (hn : Nat.blt d n = true := by kernel_rfl) : R P n B ops Q pc imm hs m :=
  zIo (rest := hs) ho hy hF hr ha rfl next hx hg hn
end
theorem Ret.fz {P : Program} {f : FuncId} {args : List Value} {imm : Imm} {hs : List HA} {post post' : Nat -> Imm -> List HA -> Value -> Prop} (h : Ret P f args imm hs post) (hp : ∀ k i h v, post k i h v -> ∃ A r, h = A :: r /\ A.plain = true /\ ∀ i', i.le i' -> Lent i' A -> post' k i' r v) : Ret P f args imm hs post' :=
  fun w g => (h w g).mono fun e w' he => by
    cases e with
    | returned v =>
      obtain ⟨i, hs', h1, h2⟩ := he
      obtain ⟨A, r, rfl, pl, h3⟩ := hp _ _ _ _ h1
      obtain ⟨i', le, hL, hg⟩ := Good.freeze h2 pl
      exact ⟨i', r, h3 i' le hL, hg⟩
    | panicked c => exact he
    | outgrown => exact he
end Go.LN
namespace Go.LN
theorem rF {x : Int} (h0 : -9223372036854775808<=x) (h1 : x<=9223372036854775807) : W x = x := by
  show IntKind.i64.wrap x = x
  rw [IntKind.wrap_i64]; omega
theorem zCZ {α : Type} (l : List α) (k : Nat) : idx l (k : Int) = l[k]? := by
  unfold idx
  simp
theorem zH1 {k : Nat} (h : k<9223372036854775807) : W ((k : Int)+1) = ((k+1 : Nat) : Int) := by
  rw [rF (by omega) (by omega)]; omega
end Go.LN
namespace Go.LN
structure Raw2 where
  a : Value
  b : Value
instance : Rp Raw2 where
  sz := 2
  pos := by decide
  rep _ cs r := cs = [r.a, r.b] /\ r.a.oneCell' = true /\ r.b.oneCell' = true
  len h := by obtain ⟨rfl, _⟩ := h; rfl
  mono _ h := h
  one h := by obtain ⟨rfl, h1, h2⟩ := h; simp [h1, h2]
def flat : List Raw2 -> List Value
  | [] => []
  | r :: l => r.a :: r.b :: flat l
theorem zB1 : ∀ (a b : List Raw2), flat (a++b) = flat a++flat b
  | [], _ => rfl
  | r :: a, b => by simp [flat, zB1 a b]
theorem fC {imm : Imm} : ∀ {l : List Raw2} {cs : List Value}, RL imm cs l -> cs = flat l
  | [], cs, h => h
  | r :: l, cs, ⟨c1, c2, h1, _, h3, h4⟩ => by
    obtain ⟨rfl, _⟩ := h3
    rw [h1, fC h4]; rfl
def LP (imm : Imm) (raws : List Raw2) (parts : List zI) (vN : Value) (nl : List zE) (vB : Value) (bl : List zJ) : Prop :=
  parts.length<=140737488355328 /\ raws.length = parts.length /\
    ((parts = [] /\ raws = []) ∨ ∃ rl l, parts = l++[⟨nl, bl⟩] /\ raws = rl++[⟨vN, vB⟩] /\ RepL (Rp.rep imm) (Rp.sz zI) (flat rl) l)
theorem LP.mono {i j : Imm} (hl : i.le j) {raws : List Raw2} {parts : List zI} {vN vB : Value} {nl : List zE} {bl : List zJ} (h : LP i raws parts vN nl vB bl) : LP j raws parts vN nl vB bl := by
  obtain ⟨h1, h2, h3⟩ := h
  refine ⟨h1, h2, h3.imp id ?_⟩
  rintro ⟨rl, l, k1, k2, k3⟩
  exact ⟨rl, l, k1, k2, RepL.mono (fun _ _ => Rp.mono hl) k3⟩
structure L4 (imm : Imm) (cs : List Value) (arr : List zD) (cs1 : List Value) (raws : List Raw2) (parts : List zI) (vN : Value) (nl : List zE) (vB : Value) (bl : List zJ) (csN csB : List Value) : Prop where
  arr : RL imm cs arr
  raw : RL imm cs1 raws
  lp : LP imm raws parts vN nl vB bl
  n : RL imm csN nl
  b : RL imm csB bl
theorem L4.mono {i j : Imm} (hl : i.le j) {cs : List Value} {arr : List zD} {cs1 : List Value} {raws : List Raw2} {parts : List zI} {vN vB : Value} {nl : List zE} {bl : List zJ} {csN csB : List Value}
    (h : L4 i cs arr cs1 raws parts vN nl vB bl csN csB) : L4 j cs arr cs1 raws parts vN nl vB bl csN csB :=
  ⟨RepL.mono (fun _ _ => Rp.mono hl) h.arr, RepL.mono (fun _ _ => Rp.mono hl) h.raw, h.lp.mono hl, RepL.mono (fun _ _ => Rp.mono hl) h.n, RepL.mono (fun _ _ => Rp.mono hl) h.b⟩
theorem LP.len {imm : Imm} {raws : List Raw2} {parts : List zI} {vN vB : Value} {nl : List zE} {bl : List zJ} (h : LP imm raws parts vN nl vB bl) : (parts.length : Int) = (raws.length : Int) := by rw [h.2.1]
theorem LP.last {imm : Imm} {raws : List Raw2} {parts : List zI} {vN vB : Value} {nl : List zE} {bl : List zJ} (h : LP imm raws parts vN nl vB bl) {x : zI} (hx : idx parts (W ((raws.length : Int) - 1)) = some x) :
    x = ⟨nl, bl⟩ /\ idx raws (W ((raws.length : Int) - 1)) = some ⟨vN, vB⟩ /\
      ∀ vN' nl' vB' bl', LP imm (raws.set (W ((raws.length : Int) - 1)).toNat ⟨vN', vB'⟩) (parts.set (W ((raws.length : Int) - 1)).toNat ⟨nl', bl'⟩) vN' nl' vB' bl' := by
  obtain ⟨h1, h2, h3⟩ := h
  have hW : W ((raws.length : Int) - 1) = (raws.length : Int) - 1 := rF (by omega) (by omega)
  rw [hW] at hx ⊢
  rcases h3 with ⟨rfl, rfl⟩ | ⟨rl, l, rfl, rfl, h4⟩
  · simp [idx] at hx
  · have hl : l.length = rl.length := by simpa using h2.symm
    have e : (((rl++[(⟨vN, vB⟩ : Raw2)]).length : Int) - 1).toNat = rl.length := by simp
    have e0 : (0 : Int)<=((rl++[(⟨vN, vB⟩ : Raw2)]).length : Int) - 1 := by simp
    unfold idx at hx ⊢
    rw [if_pos e0, e] at hx ⊢
    rw [<- hl] at hx
    refine ⟨by simpa using hx.symm, by simp, fun vN' nl' vB' bl' => ⟨?_, ?_, .inr ⟨rl, l, ?_, ?_, h4⟩⟩⟩
    · simpa using h1
    · simpa using h2
    · rw [<- hl]; simp
    · simp
theorem LP.part {imm : Imm} {raws : List Raw2} {parts : List zI} {vN vB : Value} {nl : List zE} {bl : List zJ} (h : LP imm raws parts vN nl vB bl) (hN : SL imm vN nl) (hB : SL imm vB bl) {l1 : List zI}
    (ha : app 48 parts [(⟨[], []⟩ : zI)] = some l1) : LP imm (raws++[⟨.slice none 0 0, .slice none 0 0⟩]) l1 (.slice none 0 0) [] (.slice none 0 0) [] := by
  obtain ⟨hb, rfl⟩ := zAa ha
  obtain ⟨h1, h2, h3⟩ := h
  refine ⟨?_, ?_, .inr ⟨raws, parts, rfl, rfl, ?_⟩⟩
  · simp at hb ⊢; omega
  · simp [h2]
  · rcases h3 with ⟨rfl, rfl⟩ | ⟨rl, l, rfl, rfl, h4⟩
    · rfl
    · rw [zB1]
      exact h4.append (.single rfl (uQ ⟨_, _, rfl, hN, hB⟩))
theorem zFG {α β : Type} {b : Nat} {l : List α} {m : List α} {l' : List β} {m' : List β} {y : List α} (h : app b l m = some y) (h1 : l'.length = l.length) (h2 : m'.length = m.length) : app b l' m' = some (l'++m') := by
  obtain ⟨k, _⟩ := zAa h
  unfold app
  rw [h1, h2, if_pos k]
theorem LP.done {imm : Imm} {raws : List Raw2} {parts : List zI} {vN vB : Value} {nl : List zE} {bl : List zJ} (h : LP imm raws parts vN nl vB bl) (hN : SL imm vN nl) (hB : SL imm vB bl) : RepL (Rp.rep imm) (Rp.sz zI) (flat raws) parts := by
  obtain ⟨h1, h2, h3⟩ := h
  rcases h3 with ⟨rfl, rfl⟩ | ⟨rl, l, rfl, rfl, h4⟩
  · rfl
  · rw [zB1]
    exact h4.append (.single rfl (uQ ⟨_, _, rfl, hN, hB⟩))
section
variable {P : Program} {n : Nat} {B : Base} {Q : Exit -> Act -> World -> Prop} {imm : Imm} {hs : List HA} {m : FM} {ops : List Oper} {pc d : Nat} {ty : TypeId} {pos : String} {after : Array Edge} {g : Option (Nat × Bool)}
theorem zNw {t : TypeId} {x y : Operand} {b o : Nat} {c : Array Value} {v : Value} (j : Nat) (c' : List Value) (hs' : List HA) (ho : ops[pc]? = some ⟨none, .store t x y, ty, pos, after, g⟩) (hj : hs[j]? = some (.blk b c)) (hx : val m x = some (.pointer (some ⟨b, o, none⟩))) (hy : val m y = some v) (hone : v.cells.toList.all Value.oneCell' = true) (next : R P n B ops Q (pc+1) imm hs' m) (hg : guardB ops m g = some true := by kernel_rfl) (hsz : sizeT P t = some v.cells.size := by kernel_rfl) (hol : Nat.ble (o+v.cells.size) c.size = true := by kernel_rfl) (hc : wr c o v.cells.toList = ⟨c'⟩ := by kernel_rfl) (hh : hs.set j (.blk b ⟨c'⟩) = hs' := by rfl) : R P n B ops Q pc imm hs m :=
  zG2 j ho hg hj hx hy hsz hol hone hc hh next
end
end Go.LN
namespace Go.LN
open Go.RowKit
theorem Good.below {imm : Imm} {w w' : World} (h : Good ⟨w, imm, []⟩ imm [] w) (b : Below w.heap.size w w') (hd : w.drawn<=w'.drawn) : Good ⟨w, imm, []⟩ imm [] w' := by
  refine ⟨fun k c e => ?_, by simp, by simp, ⟨b.os, b.tape, b.output, b.size, fun k hk _ => b.block k hk, fun _ _ _ => rfl, hd⟩⟩
  obtain ⟨ty, fr, e'⟩ := h.inv k c e
  exact ⟨ty, fr, (b.block k (h.lt_imm e)).trans e'⟩
theorem Good.cell {B : Base} {imm : Imm} {hs : List HA} {w : World} (h : Good B imm hs w) {g : Nat} {v : Value} (e : imm g = some #[v]) : w.cell? ⟨g, 0, none⟩ = some v := by
  obtain ⟨ty, fr, e'⟩ := h.inv _ _ e
  simp only [World.cell?, e']
  simp
theorem zLi {P : Program} {f : FuncId} {args : List Value} {imm : Imm} {v : Value} {post : Nat -> Imm -> List HA -> Value -> Prop}
    (h : ∀ w, Good ⟨w, imm, []⟩ imm [] w -> Calls P f args.toArray w fun e w' => e = .returned v /\ Below w.heap.size w w' /\ w.drawn<=w'.drawn) (hp : ∀ k, post k imm [] v) : Ret P f args imm [] post := fun w g =>
  (h w g).mono fun e w' ⟨he, hb, hd⟩ => by
    subst he
    exact ⟨imm, [], hp _, g.below hb hd⟩
theorem At.of_blk {imm : Imm} {b : Nat} {cs : List Value} (h : imm b = some ⟨cs⟩) : At imm ⟨b, 0, none⟩ cs := ⟨b, 0, _, rfl, h, by simp, by simp⟩
section
variable {P : Program} {n : Nat} {B : Base} {ops : List Oper} {Q : Exit -> Act -> World -> Prop} {pc : Nat} {imm : Imm} {hs : List HA} {m : FM} {d : Nat}
  {ty : TypeId} {pos : String} {after : Array Edge} {g : Option (Nat × Bool)}
end
end Go.LN
namespace Go.LN
section
variable {P : Program} {n : Nat} {B : Base} {Q : Exit -> Act -> World -> Prop} {imm : Imm} {hs : List HA} {m : FM} {ops : List Oper} {pc d : Nat} {ty : TypeId} {pos : String} {after : Array Edge} {g : Option (Nat × Bool)}
theorem zJD {t e : TypeId} {w : World} {p : Option Addr} {l c : Nat} (hu : P.underlying t = some (.slice e)) : (Op.equal t (.slice p l c) (.slice none 0 0)).run P w = .ok p.isNone w := by
  have h : ∀ d, (Op.equalIn (d+1) t (.slice p l c) (.slice none 0 0)).run P w = .ok p.isNone w := fun d => by
    rw [Op.equalIn]
    cases p <;> simp [xW hu]
  exact h 9999
def sliceT (P : Program) (t : TypeId) : Bool := match P.underlying t with | some (.slice _) => true | _ => false
theorem zOi {t t2 : TypeId} {x : Operand} {p : Option Addr} {l c : Nat} (b : Bool) (ho : ops[pc]? = some ⟨some d, .binOp .eql t x (.const (.slice none 0 0)) t2, ty, pos, after, g⟩) (hb : p.isNone = b)
    (next : R P n B ops Q (pc+1) imm hs ((d, .bool b) :: m)) (hx : val m x = some (.slice p l c)) (hg : guardB ops m g = some true := by kernel_rfl) (hn : Nat.blt d n = true := by kernel_rfl) (ht : sliceT P t = true := by kernel_rfl) : R P n B ops Q pc imm hs m := by
  unfold sliceT at ht
  split at ht
  · rename_i e hu
    refine fQ ho hg rfl hn fun a w f gd => ⟨.bool b, w, imm, hs, ?_, gd, next⟩
    have hy : a.eval (.const (.slice none 0 0)) = .slice none 0 0 := rfl
    simp [execOp, f.eval hx, hy, eqGuard, binOp, zJD hu, hb]
  · cases ht
end
end Go.LN
namespace Go.LN
section
variable {P : Program} {n : Nat} {B : Base} {Q : Exit -> Act -> World -> Prop} {imm : Imm} {hs : List HA} {m : FM}
theorem zDM {c : Code} (hs' : List HA) (hp : hs'.Perm hs) (h : J P n B c Q imm hs' m) : J P n B c Q imm hs m := fun a w f g => h a w f (g.perm hp)
theorem zM0 {e : Exit} (hs' : List HA) (hp : hs'.Perm hs) (h : T n B Q e imm hs' m) : T n B Q e imm hs m := fun a w f g => h a w f (g.perm hp)
theorem zM1 {c : Code} (hF : False) {imm' : Imm} {hs' : List HA} {m' : FM} (next : T n B Q .normal imm' hs' m') : J P n B c Q imm hs m := hF.elim
theorem zLj {c : Code} {L : List HA} (x : Exit) (S : Imm -> List HA -> FM -> Prop) (h1 : ∀ B' : Base, J P n B' c (fun e a w => e = x /\ ∃ imm' hs' m', S imm' hs' m' /\ Fr n a m' /\ Good B' imm' hs' w) imm hs m)
    (h2 : ∀ imm' hs' m', S imm' hs' m' -> imm.le imm' -> T n B Q x imm' (hs'++L) m') : J P n B c Q imm (hs++L) m := fun a w f g => by
  have hnd := g.nodup
  rw [List.flatMap_append] at hnd
  have hg1 := g.enter (hs1 := hs) (fun A hA => List.mem_append_left _ hA) (List.nodup_append.1 hnd).1
  refine wp_mono (h1 _ a w f hg1) fun e a' w' he => ?_
  obtain ⟨rfl, imm', hs', m', k1, k2, k3⟩ := he
  obtain ⟨k4, k5, _⟩ := g.leave k3
  exact h2 imm' hs' m' k1 k5 a' w' k2 k4
theorem zLk {B' : Base} {x : Exit} {S : Imm -> List HA -> FM -> Prop} (h : S imm hs m) : T n B' (fun e a w => e = x /\ ∃ imm' hs' m', S imm' hs' m' /\ Fr n a m' /\ Good B' imm' hs' w) x imm hs m := fun _ _ f g => ⟨rfl, imm, hs, m, h, f, g⟩
end
structure NL where
  pl : Option Addr
  lo : List zA
  cl : Nat
  csl : List Value
  ph : Option Addr
  hi : List zA
  ch : Nat
  csh : List Value
def NL.vl (x : NL) : Value := vS x.pl x.lo x.cl
def NL.vh (x : NL) : Value := vS x.ph x.hi x.ch
def NL.ha (x : NL) : List HA := [hO zA x.vh x.csh, hO zA x.vl x.csl]
def NL.raw (x : NL) : Raw2 := ⟨x.vl, x.vh⟩
def NL.d (x : NL) : zE := ⟨x.lo, x.hi⟩
def NL.ok (imm : Imm) (x : NL) : Prop := RL imm x.csl x.lo /\ RL imm x.csh x.hi
def NL.fz (imm : Imm) (x : NL) : Prop := SL imm x.vl x.lo /\ SL imm x.vh x.hi
theorem NL.ok.mono {i j : Imm} (h : i.le j) {x : NL} (hx : x.ok i) : x.ok j := ⟨RepL.mono (fun _ _ => Rp.mono h) hx.1, RepL.mono (fun _ _ => Rp.mono h) hx.2⟩
theorem NL.fz.mono {i j : Imm} (h : i.le j) {x : NL} (hx : x.fz i) : x.fz j := ⟨hx.1.mono h, hx.2.mono h⟩
abbrev NLs (xs : List NL) : List HA := xs.flatMap NL.ha
theorem zM2 {xs : List NL} {k : Nat} {x : NL} (h : xs[k]? = some x) : ∃ ys, (NLs xs).Perm (x.ha++NLs ys) /\ (∀ y∈ys, y∈xs) /\ ∀ i : Nat, ∀ y, i ≠ k -> xs[i]? = some y -> y∈ys := by
  obtain ⟨hk, rfl⟩ := List.getElem?_eq_some_iff.1 h
  refine ⟨xs.eraseIdx k, ?_, fun y hy => List.mem_of_mem_eraseIdx hy, fun i y hi hy => List.mem_eraseIdx_iff_getElem?.2 ⟨i, hi, hy⟩⟩
  have := (gJ h).flatMap_right NL.ha
  simpa [NLs] using this
section
variable {P : Program} {n : Nat} {B : Base} {Q : Exit -> Act -> World -> Prop} {hs : List HA} {m : FM}
theorem zBw {c : Code} : ∀ (xs : List NL) {imm : Imm}, (∀ x∈xs, x.ok imm) -> (∀ imm', imm.le imm' -> (∀ x∈xs, x.fz imm') -> J P n B c Q imm' hs m) -> J P n B c Q imm (NLs xs++hs) m
  | [], imm, _, h => h imm (Imm.le.refl _) (fun _ h => by cases h)
  | x :: xs, imm, hx, h => by
    have h1 := hx x (List.mem_cons_self ..)
    show J P n B c Q imm (hO zA x.vh x.csh :: hO zA x.vl x.csl :: (NLs xs++hs)) m
    refine qX 0 rfl ?_
    intro imm1 le1 hl1
    have k1 := SL.of_frozen hl1 le1 h1.2
    refine qX 0 rfl ?_
    intro imm2 le2 hl2
    have k2 := SL.of_frozen hl2 le2 (RepL.mono (fun _ _ => Rp.mono le1) h1.1)
    refine zBw xs (fun y hy => (hx y (List.mem_cons_of_mem _ hy)).mono (le1.trans le2)) ?_
    intro imm3 le3 h3
    refine h imm3 ((le1.trans le2).trans le3) fun y hy => ?_
    rcases List.mem_cons.1 hy with rfl | hy
    · exact ⟨k2.mono le3, (k1.mono le2).mono le3⟩
    · exact h3 y hy
end
theorem zDn {α β : Type} {f : α -> β} {l : List α} {i : Int} {y : β} (h : idx (l.map f) i = some y) : ∃ x, idx l i = some x /\ y = f x := by
  obtain ⟨h0, h1, h2⟩ := rE h
  rw [List.getElem?_map, Option.map_eq_some_iff] at h2
  obtain ⟨x, h3, rfl⟩ := h2
  exact ⟨x, by unfold idx; rw [if_pos h0, h3], rfl⟩
theorem zBE {α β : Type} {f : α -> β} {l : List α} {i : Int} {x : α} (h : idx l i = some x) : idx (l.map f) i = some (f x) := by
  obtain ⟨h0, h1, h2⟩ := rE h
  unfold idx; rw [if_pos h0, List.getElem?_map, h2]; rfl
section
variable {P : Program} {n : Nat} {B : Base} {Q : Exit -> Act -> World -> Prop} {hs : List HA} {m : FM} {imm : Imm}
theorem zM3 {c : Code} {xs : List NL} {i : Int} {x : NL} (hx : idx xs i = some x) (hxs : ∀ x∈xs, x.ok imm) (h : ∀ imm', imm.le imm' -> (∀ (j : Nat) y, j ≠ i.toNat -> xs[j]? = some y -> y.fz imm') -> J P n B c Q imm' (hO zA x.vh x.csh :: hO zA x.vl x.csl :: hs) m) : J P n B c Q imm (NLs xs++hs) m := by
  obtain ⟨h0, h1, h2⟩ := rE hx
  obtain ⟨ys, k1, k2, k3⟩ := zM2 h2
  refine zDM (NLs ys++(x.ha++hs)) ?_ ?_
  · rw [<- List.append_assoc]
    exact (List.perm_append_comm.trans k1.symm).append_right hs
  · refine zBw ys (fun y hy => hxs y (k2 y hy)) ?_
    intro imm1 le1 hf
    exact h imm1 le1 fun j y hj hy => hf y (k3 j y hj hy)
end
def PW (imm : Imm) (raws : List Raw2) (nest : List zE) : Prop := raws.length = nest.length /\ ∀ (j : Nat) r d, raws[j]? = some r -> nest[j]? = some d -> SL imm r.a d.Lo /\ SL imm r.b d.Hi
theorem PW.rl {imm : Imm} : ∀ {raws : List Raw2} {nest : List zE}, PW imm raws nest -> RL imm (flat raws) nest
  | [], [], _ => rfl
  | [], _ :: _, h => by cases h.1
  | _ :: _, [], h => by cases h.1
  | r :: raws, d :: nest, h => ⟨[r.a, r.b], flat raws, rfl, rfl, uP ⟨_, _, rfl, h.2 0 r d rfl rfl⟩, PW.rl ⟨by have := h.1; simpa using this, fun j r' d' h1 h2 => h.2 (j+1) r' d' (by simpa using h1) (by simpa using h2)⟩⟩
theorem zJE {imm : Imm} {xs : List NL} {k : Nat} {r : Raw2} {d : zE} (hfz : ∀ (j : Nat) y, j ≠ k -> xs[j]? = some y -> y.fz imm) (hr : SL imm r.a d.Lo /\ SL imm r.b d.Hi) : PW imm ((xs.map NL.raw).set k r) ((xs.map NL.d).set k d) := by
  refine ⟨by simp, fun j r' d' h1 h2 => ?_⟩
  by_cases hj : j = k
  · subst hj
    rw [List.getElem?_set_self' ] at h1 h2
    cases hx : xs[j]? with
    | none => simp [hx] at h1
    | some y =>
      simp [hx] at h1 h2
      subst h1; subst h2
      exact hr
  · rw [List.getElem?_set_ne (fun e => hj e.symm), List.getElem?_map, Option.map_eq_some_iff] at h1 h2
    obtain ⟨y, h3, rfl⟩ := h1
    obtain ⟨y', h4, rfl⟩ := h2
    rw [h3] at h4
    cases h4
    exact hfz j y hj h3
theorem NL.shut {imm : Imm} {x : NL} (h : x.fz imm) : Rp.rep imm [x.vl, x.vh] x.d := uP ⟨_, _, rfl, h.1, h.2⟩
theorem zH2 {imm : Imm} : ∀ {xs : List NL}, (∀ x∈xs, x.fz imm) -> RL imm (flat (xs.map NL.raw)) (xs.map NL.d)
  | [], _ => rfl
  | x :: xs, h => ⟨[x.vl, x.vh], flat (xs.map NL.raw), rfl, rfl, NL.shut (h x (List.mem_cons_self ..)), zH2 fun y hy => h y (List.mem_cons_of_mem _ hy)⟩
theorem LP.push {imm : Imm} {raws : List Raw2} {parts : List zI} {vN vB vN' vB' : Value} {nl nl' : List zE} {bl bl' : List zJ} (h : LP imm raws parts vN nl vB bl) (hN : SL imm vN nl) (hB : SL imm vB bl) {l1 : List zI}
    (ha : app 48 parts [(⟨nl', bl'⟩ : zI)] = some l1) : LP imm (raws++[⟨vN', vB'⟩]) l1 vN' nl' vB' bl' := by
  obtain ⟨hb, rfl⟩ := zAa ha
  obtain ⟨h1, h2, h3⟩ := h
  refine ⟨?_, ?_, .inr ⟨raws, parts, rfl, rfl, ?_⟩⟩
  · simp at hb ⊢; omega
  · simp [h2]
  · rcases h3 with ⟨rfl, rfl⟩ | ⟨rl, l, rfl, rfl, h4⟩
    · rfl
    · rw [zB1]
      exact h4.append (.single rfl (uQ ⟨_, _, rfl, hN, hB⟩))
theorem LP.nil {imm : Imm} : LP imm [] [] (.slice none 0 0) [] (.slice none 0 0) [] := ⟨by decide, rfl, .inl ⟨rfl, rfl⟩⟩
end Go.LN
