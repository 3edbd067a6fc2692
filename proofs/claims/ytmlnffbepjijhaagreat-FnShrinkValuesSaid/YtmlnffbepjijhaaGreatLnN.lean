/- Helper of the proof (see the last text). -/
import Derived.Test.YtmlnffbepjijhaaGreatLnH
import Derived.Laws.BitsLemmas
import Derived.Sort.Grow
import Derived.Lib.LaidTab
import Derived.Lib.ItoaNum
import Derived.Lib.ItoaMem
import Derived.Sort.Row
import Derived.Lib.AtoiErrMem
import Derived.Lib.AtoiTie
import Derived.Lib.SplitLaws
import Derived.Lib.AtoiAll
set_option linter.unusedVariables false
set_option linter.unusedSimpArgs false
namespace Go.LN
abbrev RL {α : Type} [Rp α] (imm : Imm) (cs : List Value) (l : List α) : Prop := RepL (Rp.rep imm) (Rp.sz α) cs l
class MonoI (p : Imm -> Prop) : Prop where
  mono : ∀ i j, i.le j -> p i -> p j
instance zHW {q : Prop} : MonoI (fun _ => q) := ⟨fun _ _ _ h => h⟩
instance zJo {p q : Imm -> Prop} [hp : MonoI p] [hq : MonoI q] : MonoI (fun i => p i /\ q i) := ⟨fun i j hl h => ⟨hp.mono i j hl h.1, hq.mono i j hl h.2⟩⟩
instance zKp {α : Type} {p : Imm -> α -> Prop} [hp : ∀ x, MonoI (fun i => p i x)] : MonoI (fun i => ∃ x, p i x) := ⟨fun i j hl ⟨x, h⟩ => ⟨x, (hp x).mono i j hl h⟩⟩
instance zNf {α : Type} [Rp α] {v : Value} {l : List α} : MonoI (fun i => SL i v l) := ⟨fun _ _ hl h => h.mono hl⟩
instance zNg {ad : Addr} {cs : List Value} : MonoI (fun i => At i ad cs) := ⟨fun _ _ hl h => h.mono hl⟩
instance zNh {α : Type} [Rp α] {cs : List Value} {l : List α} : MonoI (fun i => RepL (Rp.rep i) (Rp.sz α) cs l) := ⟨fun _ _ hl h => RepL.mono (fun _ _ => Rp.mono hl) h⟩
instance zMx {α : Type} [Rp α] {cs : List Value} {a : α} : MonoI (fun i => Rp.rep i cs a) := ⟨fun _ _ hl h => Rp.mono hl h⟩
def FP {α : Type} [Rp α] (imm : Imm) (v : Value) (o : Option α) : Prop := match o with
  | none => v = .pointer none
  | some x => ∃ ad cs, v = .pointer (some ad) /\ At imm ad cs /\ Rp.rep imm cs x
theorem FP.mono {α : Type} [Rp α] {imm am : Imm} {v : Value} {o : Option α} (h : FP imm v o) (hl : imm.le am) : FP am v o := by
  cases o with
  | none => exact h
  | some x =>
    obtain ⟨ad, cs, e, h1, h2⟩ := h
    exact ⟨ad, cs, e, h1.mono hl, Rp.mono hl h2⟩
theorem zPg {α : Type} [Rp α] {imm : Imm} : FP imm (.pointer none) (none : Option α) := rfl
theorem zQK {α : Type} [Rp α] {imm : Imm} {ad : Addr} {cs : List Value} {x : α} (h : At imm ad cs) (hr : Rp.rep imm cs x) : FP imm (.pointer (some ad)) (some x) := ⟨ad, cs, rfl, h, hr⟩
theorem zKJ {α : Type} [Rp α] {imm : Imm} {v : Value} {o : Option α} {x : α} (h : FP imm v o) (e : o = some x) : ∃ ad cs, v = .pointer (some ad) /\ At imm ad cs /\ Rp.rep imm cs x := by subst e; exact h
instance zNi {α : Type} [Rp α] {v : Value} {o : Option α} : MonoI (fun i => FP i v o) := ⟨fun _ _ hl h => h.mono hl⟩
inductive It where
  | p (v : Value) (js : List Nat)
  | q (v : Value)
  | x (f : Fact)
def It.fact : It -> Fact
  | .p v _ => fun _ u hx => u = v /\ hx = []
  | .q v => fun _ u hx => u = v /\ hx = []
  | .x f => f
def gfact (g : List HA) : Fact := fun _ _ hx => hx = g
def factsOf (N : Nat) (its : List It) (gs : List (List HA)) : List Fact := its.map It.fact++(List.replicate (N - its.length) nofact++gs.map gfact)
def insM (ae : List Oper) (its : List It) : List (Nat × Bool) -> FM -> Option FM
  | [], m => some m
  | (j, c) :: r, m => match its[j]?, c, dstAt ae j with
    | some (.p v _), false, some d => insM ae its r ((d, v) :: m)
    | some (.q v), false, some d => insM ae its r ((d, v) :: m)
    | _, _, _ => none
def autoL (P : Program) (n : Nat) (ae : List Oper) (hsC : List HA) (m : FM) (its : List It) : Nat -> List It -> List (List (Nat × Bool)) -> Option (List Value × List Nat)
  | _, [], [] => some ([], [])
  | i, .x _ :: r, _ :: ins => autoL P n ae hsC m its (i+1) r ins
  | i, .q _ :: r, _ :: ins => autoL P n ae hsC m its (i+1) r ins
  | i, .p _ js :: r, l :: ins => match ae[i]?, insM ae its l m, autoL P n ae hsC m its (i+1) r ins with
    | some o, some m', some (vs, bs) => match runX P n (ae.take (i+1)) hsC [o] js m' with
      | some ((_, v) :: _, bs') => some (v :: vs, bs'++bs)
      | _ => none
    | _, _, _ => none
  | _, _, _ => none
def valsOf : List It -> List Value
  | [] => []
  | .p v _ :: r => v :: valsOf r
  | .x _ :: r => valsOf r
  | .q _ :: r => valsOf r
def blksOf (hs : List HA) : List It -> List Nat
  | [] => []
  | .p _ js :: r => js.map (blkAt hs)++blksOf hs r
  | .x _ :: r => blksOf hs r
  | .q _ :: r => blksOf hs r
def ObX (P : Program) (n : Nat) (B : Base) (ae : List Oper) (φ : List Fact) (imm : Imm) (hsC : List HA) (m : FM) : Nat -> List It -> List (List (Nat × Bool)) -> Prop
  | _, [], [] => True
  | i, .p _ _ :: r, _ :: ins => ObX P n B ae φ imm hsC m (i+1) r ins
  | i, .q _ :: r, l :: ins => Obl P n B ae φ imm hsC m i l /\ ObX P n B ae φ imm hsC m (i+1) r ins
  | i, .x f :: r, l :: ins => (∀ v hx, MonoI (fun i => f i v hx)) /\ Obl P n B ae φ imm hsC m i l /\ ObX P n B ae φ imm hsC m (i+1) r ins
  | _, _, _ => False
section
variable {P : Program} {n : Nat} {B : Base} {Q : Exit -> Act -> World -> Prop} {imm : Imm} {hs : List HA} {m : FM} {ae : List Oper}
theorem Op {φ : List Fact} {hsC : List HA} {i : Nat} {v : Value} {js : List Nat} {r : List It} {l : List (Nat × Bool)} {ins : List (List (Nat × Bool))} (h : ObX P n B ae φ imm hsC m (i+1) r ins) : ObX P n B ae φ imm hsC m i (.p v js :: r) (l :: ins) := h
theorem Ox {φ : List Fact} {hsC : List HA} {i : Nat} {f : Fact} {r : List It} {l : List (Nat × Bool)} {ins : List (List (Nat × Bool))}
    (ho : ∀ imm1 hf, imm.le imm1 -> Ins ae φ imm1 l m (hsC++hf) fun m' af => R P n B (ae.take (i+1)) (OutQ n B (φ.getD i nofact) (dstAt ae i) imm1 (hsC++hf)) i imm1 af m')
    (h : ObX P n B ae φ imm hsC m (i+1) r ins) (hm : ∀ v hx, MonoI (fun i => f i v hx) := by
      intro v hx
      repeat' (first | exact zHW | exact zNi | exact zNf | exact zNg | exact zNh | exact zMx | refine @zKp _ _ (fun _ => ?_) | refine @zJo _ _ ?_ ?_)) : ObX P n B ae φ imm hsC m i (.x f :: r) (l :: ins) := ⟨hm, fun imm1 hf hl _ => ho imm1 hf hl, h⟩
theorem Oq {φ : List Fact} {hsC : List HA} {i : Nat} {v : Value} {r : List It} {l : List (Nat × Bool)} {ins : List (List (Nat × Bool))}
    (ho : ∀ imm1 hf, imm.le imm1 -> Ins ae φ imm1 l m (hsC++hf) fun m' af => R P n B (ae.take (i+1)) (OutQ n B (φ.getD i nofact) (dstAt ae i) imm1 (hsC++hf)) i imm1 af m')
    (h : ObX P n B ae φ imm hsC m (i+1) r ins) : ObX P n B ae φ imm hsC m i (.q v :: r) (l :: ins) := ⟨fun imm1 hf hl _ => ho imm1 hf hl, h⟩
theorem Ob {φ : List Fact} {hsC : List HA} {i : Nat} {v : Value} {r : List It} {l : List (Nat × Bool)} {ins : List (List (Nat × Bool))}
    (ho : ∀ imm1 hf, imm.le imm1 -> Bor ae φ imm1 l hf -> Ins ae φ imm1 l m (hsC++hf) fun m' af => R P n B (ae.take (i+1)) (OutQ n B (φ.getD i nofact) (dstAt ae i) imm1 (hsC++hf)) i imm1 af m')
    (h : ObX P n B ae φ imm hsC m (i+1) r ins) : ObX P n B ae φ imm hsC m i (.q v :: r) (l :: ins) := ⟨ho, h⟩
theorem Bor.at {φ : List Fact} {l : List (Nat × Bool)} {hf : List HA} {j : Nat} (h : Bor ae φ imm l hf) (hj : (j, false)∈l) (hN : Nat.ble ae.length j = true) {g : List HA} (hg : φ.getD j nofact = gfact g) : ∃ hf', hf.Perm (g++hf') := by
  obtain ⟨v, hx, hf', h1, h2⟩ := h _ hj rfl (cC hN)
  rw [hg] at h1
  have h1 : hx = g := h1
  subst h1
  exact ⟨hf', h2⟩
theorem On {φ : List Fact} {hsC : List HA} {i : Nat} : ObX P n B ae φ imm hsC m i [] [] := trivial
theorem zLx {hsC hf : List HA} {ae : List Oper} {j : Nat} {o : Oper} {r : FM × Nat} (h : load1 P n ae hsC j m o = some r) : load1 P n ae (hsC++hf) j m o = some r /\ blkAt (hsC++hf) j = blkAt hsC j := by
  obtain ⟨m', b⟩ := r
  obtain ⟨d, t, x, ty, pos, after, g, pb, off, c, cs, v, rfl, rfl, rfl, hg, hn, hj, hv, bH, hc, hlv⟩ := zGh h
  have aD := (ci.1 hj).1
  have e : (hsC++hf)[j]? = hsC[j]? := fg aD
  refine ⟨?_, by simp only [blkAt, e]⟩
  unfold load1 at h ⊢
  simp only [e]
  exact h
theorem zGi {hsC hf : List HA} {ae : List Oper} : ∀ {l : List Oper} {js : List Nat} {m : FM} {r : FM × List Nat}, runX P n ae hsC l js m = some r -> runX P n ae (hsC++hf) l js m = some r /\ js.map (blkAt (hsC++hf)) = js.map (blkAt hsC)
  | [], js, m, r, h => by
    cases js with
    | nil => exact ⟨h, rfl⟩
    | cons j js => simp only [runX] at h; cases h
  | o :: l, js, m, r, h => by
    simp only [runX] at h ⊢
    split at h
    · rename_i j js' hc
      split at h
      · rename_i m1 b hl
        split at h
        · rename_i m2 bs hx
          cases h
          obtain ⟨k1, k2⟩ := zLx (hf := hf) hl
          obtain ⟨k3, k4⟩ := zGi (hf := hf) hx
          rw [k1]
          simp only [k3]
          exact ⟨by trivial, by rw [cz, cz, k2, k4]⟩
        · cases h
      · cases h
    · cases h
    · rename_i hc
      split at h
      · rename_i m1 hl
        exact zGi h
      · cases h
theorem zFo {φ : List Fact} {its : List It} (hφ : ∀ j it, its[j]? = some it -> φ.getD j nofact = it.fact) {K : FM -> List HA -> Prop} : ∀ {l : List (Nat × Bool)} {m m' : FM}, insM ae its l m = some m' -> K m' hs -> Ins ae φ imm l m hs K
  | [], m, m', h, hk => by simp only [insM] at h; cases h; exact hk
  | (j, c) :: r, m, m', h, hk => by
    simp only [insM] at h
    split at h
    · rename_i v js d hit hd
      intro u hx hu
      rw [hφ _ _ hit] at hu
      obtain ⟨rfl, rfl⟩ := hu
      simp only [hd]
      exact zFo hφ h hk
    · rename_i v d hit hd
      intro u hx hu
      rw [hφ _ _ hit] at hu
      obtain ⟨rfl, rfl⟩ := hu
      simp only [hd]
      exact zFo hφ h hk
    · cases h
theorem zMy {d : Nat} {v : Value} : look ((d, v) :: m) d = some v := gO ..
theorem zKq {ae : List Oper} {hsC : List HA} {js bs : List Nat} {r : FM} (hr : runX P n ae hsC [] js m = some (r, bs)) : r = m := by
  cases js with
  | nil => simp only [runX] at hr; cases hr; rfl
  | cons a b => simp only [runX] at hr; cases hr
theorem zNj {ae : List Oper} {hsC : List HA} {o : Oper} {js bs : List Nat} {r : FM} (hr : runX P n ae hsC [o] js m = some (r, bs)) : ∃ d u, o.dst = some d /\ r = (d, u) :: m := by
  simp only [runX] at hr
  split at hr
  · split at hr
    · rename_i m1 b hl
      split at hr
      · rename_i hx
        cases hr
        rw [zKq hx]; exact zIP hl
      · cases hr
    · cases hr
  · cases hr
  · split at hr
    · rename_i m1 hl
      rw [zKq hr]; exact zJm hl
    · cases hr
theorem zNk {φ : List Fact} {its : List It} (hφ : ∀ j it, its[j]? = some it -> φ.getD j nofact = it.fact) {hsC : List HA} {i : Nat} {l : List (Nat × Bool)} {o : Oper} {v : Value} {js : List Nat} {m' m2 : FM} {d0 : Nat} {bs : List Nat}
    (hi : its[i]? = some (.p v js)) (ho : ae[i]? = some o) (hm : insM ae its l m = some m') (hr : runX P n (ae.take (i+1)) hsC [o] js m' = some ((d0, v) :: m2, bs)) (hb : bs = js.map (blkAt hsC)) : Obl P n B ae φ imm hsC m i l := by
  intro imm1 hf aa _
  refine zFo hφ hm ?_
  obtain ⟨k1, k2⟩ := zGi (hf := hf) hr
  have aD := (ci.1 ho).1
  have hd : (ae.take (i+1)).drop i = [o] := zEp ho
  refine zIR [o] ⟨[], by rw [hd]; rfl⟩ k1 (by rw [hb, k2]) ?_
  obtain ⟨d, u, hd', he⟩ := zNj hr
  rw [List.cons.injEq, Prod.mk.injEq] at he
  obtain ⟨⟨rfl, rfl⟩, rfl⟩ := he
  have hdst : dstAt ae i = some d0 := by simp only [dstAt, ho, hd']
  refine zFl (hx := []) ?_ (Imm.le.refl _) rfl (v := v) ?_ ?_
  · rw [df, cw]
    simp only [cj, cF]
    omega
  · rw [hdst]; exact zIN zMy
  · rw [hφ _ _ hi]; exact ⟨rfl, rfl⟩
theorem zEZ {φ : List Fact} {its0 : List It} (hφ : ∀ j it, its0[j]? = some it -> φ.getD j nofact = it.fact) {hsC : List HA} : ∀ {its : List It} {i : Nat} {ins : List (List (Nat × Bool))} {bs : List Nat}, (∀ j, its0[i+j]? = its[j]?) ->
    autoL P n ae hsC m its0 i its ins = some (valsOf its, bs) -> bs = blksOf hsC its -> ObX P n B ae φ imm hsC m i its ins -> Obls P n B ae φ imm hsC m i ins
  | [], i, [], bs, _, _, _, _ => trivial
  | [], i, _ :: _, bs, _, h, _, _ => by simp only [autoL] at h; cases h
  | .p v js :: r, i, [], bs, _, h, _, _ => by simp only [autoL] at h; cases h
  | .x f :: r, i, [], bs, _, h, _, _ => by simp only [autoL] at h; cases h
  | .q v :: r, i, [], bs, _, h, _, _ => by simp only [autoL] at h; cases h
  | .q v :: r, i, l :: ins, bs, hi, h, hb, ho => by
    simp only [autoL] at h
    exact ⟨ho.1, zEZ hφ (fun j => by have := hi (j+1); rw [show i+(j+1) = i+1+j from by omega] at this; simpa using this) h hb ho.2⟩
  | .x f :: r, i, l :: ins, bs, hi, h, hb, ho => by
    simp only [autoL] at h
    exact ⟨ho.2.1, zEZ hφ (fun j => by have := hi (j+1); rw [show i+(j+1) = i+1+j from by omega] at this; simpa using this) h hb ho.2.2⟩
  | .p v js :: r, i, l :: ins, bs, hi, h, hb, ho => by
    simp only [autoL] at h
    split at h
    · rename_i o m' vs bs2 h1 h2 h3
      split at h
      · rename_i d0 v0 m2 bs' h4
        simp only [Option.some.injEq, Prod.mk.injEq, valsOf, List.cons.injEq] at h
        obtain ⟨⟨rfl, rfl⟩, rfl⟩ := h
        have ba : bs'.length = js.length := by
          have : ∀ {l : List Oper} {js : List Nat} {m : FM} {r : FM} {bs : List Nat}, runX P n (ae.take (i+1)) hsC l js m = some (r, bs) -> bs.length = js.length := by
            intro l
            induction l with
            | nil => intro js m r bs h; cases js <;> simp only [runX] at h <;> cases h; rfl
            | cons o l ih =>
              intro js m r bs h
              simp only [runX] at h
              split at h
              · split at h
                · split at h
                  · rename_i hx; cases h; simp [ih hx]
                  · cases h
                · cases h
              · cases h
              · split at h
                · exact ih h
                · cases h
          exact this h4
        simp only [blksOf] at hb
        obtain ⟨hb1, hb2⟩ := List.append_inj hb (by rw [de]; exact ba)
        have hi0 : its0[i]? = some (.p v0 js) := by have := hi 0; simpa using this
        exact ⟨zNk hφ hi0 h1 h2 h4 hb1, zEZ hφ (fun j => by have := hi (j+1); rw [show i+(j+1) = i+1+j from by omega] at this; simpa using this) h3 hb2 ho⟩
      · cases h
    · cases h
theorem monoX {φ : List Fact} {hsC : List HA} : ∀ {its : List It} {i : Nat} {ins : List (List (Nat × Bool))}, ObX P n B ae φ imm hsC m i its ins -> MonoL (its.map It.fact)
  | [], _, _, _ => trivial
  | .p v js :: r, _, [], h => h.elim
  | .x f :: r, _, [], h => h.elim
  | .q v :: r, _, [], h => h.elim
  | .q v :: r, _, l :: ins, h => ⟨fun _ _ _ _ _ h => h, monoX (its := r) h.2⟩
  | .p v js :: r, _, l :: ins, h => ⟨fun _ _ _ _ _ h => h, monoX (its := r) h⟩
  | .x f :: r, _, l :: ins, h => ⟨fun i j v hx hl hh => (h.1 v hx).mono i j hl hh, monoX (its := r) h.2.2⟩
theorem zCx : ∀ {a b : List Fact}, MonoL a -> MonoL b -> MonoL (a++b)
  | [], _, _, h => h
  | _ :: _, _, h, h' => ⟨h.1, zCx h.2 h'⟩
theorem zJp : ∀ k, MonoL (List.replicate k nofact)
  | 0 => trivial
  | k+1 => ⟨fun _ _ _ _ _ h => h, zJp k⟩
theorem zM1 : ∀ gs : List (List HA), MonoL (gs.map gfact)
  | [] => trivial
  | _ :: gs => ⟨fun _ _ _ _ _ h => h, zM1 gs⟩
theorem zKr : ∀ {gs : List (List HA)} {φ : List Fact} {k : Nat}, (∀ j g, gs[j]? = some g -> φ.getD (k+j) nofact = gfact g) -> BaseG φ imm k gs
  | [], _, _, _ => trivial
  | g :: gs, φ, k, h => ⟨by have := h 0 g (by simp); rw [ew] at this; rw [this]; rfl, zKr fun j g' hj => by have := h (j+1) g' (by simpa using hj); rwa [show k+(j+1) = k+1+j from by omega] at this⟩
theorem wO {id : Nat} (its : List It) (ins : List (List (Nat × Bool))) (hsC : List HA) (gs : List (List HA)) (fin : List (Nat × Bool)) (hhs : ∀ w, Good B imm hs w -> Good B imm (hsC++gs.flatten) w)
    (hob : ObX P n B ae (factsOf ae.length its gs) imm hsC m 0 its ins)
    (hend : ∀ imm1, imm.le imm1 -> Ins ae (factsOf ae.length its gs) imm1 fin m hsC fun m' af => R P n B ae Q its.length imm1 af m')
    (ha : autoL P n ae hsC m its 0 its ins = some (valsOf its, blksOf hsC its) := by kernel_rfl)
    (hm : P.follows .mixedOrders = true := by kernel_rfl) (hc : anyChk ae n its.length gs.length ins (m.map (·.1)) = true := by kernel_rfl) (hf : finChk ae its.length gs.length ins fin = true := by kernel_rfl) :
    J P n B (.region id ae.toArray true) Q imm hs m := by
  have hφ : ∀ j it, its[j]? = some it -> (factsOf ae.length its gs).getD j nofact = it.fact := fun j it hj => by
    have aD := (ci.1 hj).1
    unfold factsOf
    rw [cS, fg (by rw [de]; exact aD), dr, hj]
    rfl
  have bH : its.length<=ae.length := (AnyOk.mk' hc).le
  refine zKG its.length ins (factsOf ae.length its gs) hsC gs fin hm hc hf hhs (zCx (monoX hob) (zCx (zJp _) (zM1 gs))) (zKr fun j g hj => ?_)
    (zEZ hφ (fun j => by rw [cr]) ha rfl hob) hend
  unfold factsOf
  rw [cS, List.getElem?_append_right (by rw [de]; omega), List.getElem?_append_right (by rw [de, List.length_replicate]; omega), de, List.length_replicate, dr,
    show ae.length+j - its.length - (ae.length - its.length) = j from by omega, hj]
  rfl
abbrev W : Int -> Int := IntKind.i64.wrap
theorem T_w {e : Exit} (m' : FM) (h : T n B Q e imm hs m') (hk : keep m (m'.map (·.1)) = some m' := by kernel_rfl) : T n B Q e imm hs m := zN4 (zC2 hk) h
theorem qR {c : Code} (m' : FM) (h : J P n B c Q imm hs m') (hk : keep m (m'.map (·.1)) = some m' := by kernel_rfl) : J P n B c Q imm hs m := zN3 (zC2 hk) h
theorem yG {x : Operand} {p q : Code} {c : Bool} {α : Type} {X Y : Option α} {r : α} (hM : (if c = true then X else Y) = some r)
    (ht : c = true -> X = some r -> J P n B p Q imm hs m) (hf : c = false -> Y = some r -> J P n B q Q imm hs m) (hc : val m x = some (.bool c) := by kernel_rfl) : J P n B (.cond x p q) Q imm hs m := zP7 hc hM ht hf
end
end Go.LN
namespace Go.LN
section
variable {P : Program} {n : Nat} {B : Base} {Q : Exit -> Act -> World -> Prop} {imm : Imm} {hs : List HA} {m : FM} {ae : List Oper} {pc d : Nat} {ty : TypeId} {pos : String} {after : Array Edge} {g : Option (Nat × Bool)}
theorem xH {t : TypeId} {x : Operand} {ad : Addr} {cs : List Value} (o : Nat) (al : At imm ad cs) (cs' : List Value) (v : Value) (ho : ae[pc]? = some ⟨some d, .load t x, ty, pos, after, g⟩) (next : R P n B ae Q (pc+1) imm hs ((d, v) :: m)) (hg : guardB ae m g = some true := by kernel_rfl) (hn : Nat.blt d n = true := by kernel_rfl) (hx : val m x = some (.pointer (some (ad.add o))) := by kernel_rfl) (bN : Nat.ble o cs.length = true := by kernel_rfl) (hc : (cs.drop o).take cs'.length = cs' := by kernel_rfl) (hv : loadV P t cs' = some v := by kernel_rfl) : R P n B ae Q pc imm hs m :=
  zMu o ho hg hn al hx bN hc hv next
theorem zAz {t : TypeId} {x : Operand} {ad : Addr} {cs : List Value} (o : Nat) (al : At imm ad cs) (cs' : List Value) (v : Value) (ho : ae[pc]? = some ⟨some d, .load t x, ty, pos, after, g⟩) (next : Rq P n B ae Q (pc+1) imm hs ((d, v) :: m)) (hg : guardB ae m g = some true := by kernel_rfl) (hn : Nat.blt d n = true := by kernel_rfl) (hx : val m x = some (.pointer (some (ad.add o))) := by kernel_rfl) (bN : Nat.ble o cs.length = true := by kernel_rfl) (hc : (cs.drop o).take cs'.length = cs' := by kernel_rfl) (hv : loadV P t cs' = some v := by kernel_rfl) : Rq P n B ae Q pc imm hs m :=
  zLt o ho hg hn al hx bN hc hv next
theorem xR {α : Type} [Rp α] {t : TypeId} {x xi : Operand} {v : Value} {k : IntKind} {i : Int} {l : List α} {y : α} (ho : ae[pc]? = some ⟨some d, .indexAddr t x xi, ty, pos, after, g⟩) (hi : val m xi = some (.int k i)) (af : SL imm v l) (hy : idx l i = some y) (next : ∀ ad aL, At imm ad aL -> Rp.rep imm aL y -> R P n B ae Q (pc+1) imm hs ((d, .pointer (some ad)) :: m)) (hg : guardB ae m g = some true := by kernel_rfl) (hn : Nat.blt d n = true := by kernel_rfl) (hx : val m x = some v := by kernel_rfl) (ht : elemT P t = some (Rp.sz α) := by kernel_rfl) : R P n B ae Q pc imm hs m :=
  zOm ho hg hn hx hi ht af hy next
theorem zB3 {α : Type} [Rp α] {t : TypeId} {x xi : Operand} {v : Value} {k : IntKind} {i : Int} {l : List α} {y : α} (ho : ae[pc]? = some ⟨some d, .indexAddr t x xi, ty, pos, after, g⟩) (hi : val m xi = some (.int k i)) (af : SL imm v l) (hy : idx l i = some y) (next : ∀ ad aL, At imm ad aL -> Rp.rep imm aL y -> Rq P n B ae Q (pc+1) imm hs ((d, .pointer (some ad)) :: m)) (hg : guardB ae m g = some true := by kernel_rfl) (hn : Nat.blt d n = true := by kernel_rfl) (hx : val m x = some v := by kernel_rfl) (ht : elemT P t = some (Rp.sz α) := by kernel_rfl) : Rq P n B ae Q pc imm hs m :=
  zNb ho hg hn hx hi ht af hy next
theorem mA {α : Type} [Rp α] {t : TypeId} {x xi : Operand} {v : Value} {k : IntKind} {i : Int} {cs : List Value} {l : List α} {y : α} (j : Nat) (ho : ae[pc]? = some ⟨some d, .indexAddr t x xi, ty, pos, after, g⟩) (hi : val m xi = some (.int k i)) (hj : hs[j]? = some (.osl v (Rp.sz α) cs)) (hr : RepL (Rp.rep imm) (Rp.sz α) cs l) (hy : idx l i = some y) (next : ∀ ad cc, AtO v (Rp.sz α) i.toNat ad -> (cs.drop (i.toNat*Rp.sz α)).take (Rp.sz α) = cc -> Rp.rep imm cc y -> R P n B ae Q (pc+1) imm hs ((d, .pointer (some ad)) :: m)) (hg : guardB ae m g = some true := by kernel_rfl) (hn : Nat.blt d n = true := by kernel_rfl) (hx : val m x = some v := by kernel_rfl) (ht : elemT P t = some (Rp.sz α) := by kernel_rfl) : R P n B ae Q pc imm hs m :=
  zKg j ho hg hn hj hx hi ht hr hy next
theorem zCR {t : TypeId} {x : Operand} {v0 : Value} {sz i : Nat} {ad : Addr} {cs cc : List Value} (j o : Nat) (al : AtO v0 sz i ad) (bG : (cs.drop (i*sz)).take sz = cc) (cc' : List Value) (v : Value) (ho : ae[pc]? = some ⟨some d, .load t x, ty, pos, after, g⟩) (hj : hs[j]? = some (.osl v0 sz cs)) (next : R P n B ae Q (pc+1) imm hs ((d, v) :: m)) (hg : guardB ae m g = some true := by kernel_rfl) (hn : Nat.blt d n = true := by kernel_rfl) (hx : val m x = some (.pointer (some (ad.add o))) := by kernel_rfl) (bN : Nat.ble (o+cc'.length) sz = true := by kernel_rfl) (hc : (cc.drop o).take cc'.length = cc' := by kernel_rfl) (hv : loadV P t cc' = some v := by kernel_rfl) : R P n B ae Q pc imm hs m :=
  zLp j o ho hg hn hj al hx bG bN hc hv next
theorem zQL {α : Type} [Rp α] {t : TypeId} {x : Operand} {lo hi : Option Operand} {v : Value} {i k : Int} {l l' : List α} (ho : ae[pc]? = some ⟨some d, .slice t x lo hi none, ty, pos, after, g⟩) (af : SL imm v l) (hy : slc l i k = some l') (next : ∀ v', SL imm v' l' -> R P n B ae Q (pc+1) imm hs ((d, v') :: m)) (hg : guardB ae m g = some true := by kernel_rfl) (hn : Nat.blt d n = true := by kernel_rfl) (hx : val m x = some v := by kernel_rfl) (ht : elemT P t = some (Rp.sz α) := by kernel_rfl) (hlo : bnd m 0 lo = some i := by kernel_rfl) (hhi : bnd m l.length hi = some k := by kernel_rfl) : R P n B ae Q pc imm hs m :=
  zOo ho hg hn hx ht hlo hhi af hy next
theorem fP {t t2 : TypeId} {x y : Operand} {a b c : Str} (ho : ae[pc]? = some ⟨some d, .binOp .add t x y t2, ty, pos, after, g⟩) (h : cat a b = some c) (next : R P n B ae Q (pc+1) imm hs ((d, .string ⟨⟨c.l⟩⟩) :: m)) (hg : guardB ae m g = some true := by kernel_rfl) (hn : Nat.blt d n = true := by kernel_rfl) (hx : val m x = some (.string ⟨⟨a.l⟩⟩) := by kernel_rfl) (hy : val m y = some (.string ⟨⟨b.l⟩⟩) := by kernel_rfl) : R P n B ae Q pc imm hs m :=
  zQG ho hg hn hx hy h next
theorem zBm {t : TypeId} {x y : Operand} {a : Str} {k : IntKind} {i : Int} {c : UInt8} (ho : ae[pc]? = some ⟨some d, .index t x y, ty, pos, after, g⟩) (hy : val m y = some (.int k i)) (h : sidx a i = some c) (next : R P n B ae Q (pc+1) imm hs ((d, .int .u8 (c.toNat : Int)) :: m)) (hg : guardB ae m g = some true := by kernel_rfl) (hn : Nat.blt d n = true := by kernel_rfl) (hx : val m x = some (.string ⟨⟨a.l⟩⟩) := by kernel_rfl) (hu : P.underlying t = some .string := by kernel_rfl) : R P n B ae Q pc imm hs m :=
  zNc ho hg hn hx hy hu h next
theorem zJM {t : TypeId} {x : Operand} {lo hi : Option Operand} {a c : Str} {i k : Int} (ho : ae[pc]? = some ⟨some d, .slice t x lo hi none, ty, pos, after, g⟩) (hy : sslc a i k = some c) (next : R P n B ae Q (pc+1) imm hs ((d, .string ⟨⟨c.l⟩⟩) :: m)) (hg : guardB ae m g = some true := by kernel_rfl) (hn : Nat.blt d n = true := by kernel_rfl) (hx : val m x = some (.string ⟨⟨a.l⟩⟩) := by kernel_rfl) (hu : P.underlying t = some .string := by kernel_rfl) (hlo : bnd m 0 lo = some i := by kernel_rfl) (hhi : bnd m a.l.length hi = some k := by kernel_rfl) : R P n B ae Q pc imm hs m :=
  zNd ho hg hn hx hu hlo hhi hy next
theorem zQM {t t2 : TypeId} {x y : Operand} {a b c : Int} (ho : ae[pc]? = some ⟨some d, .binOp .quo t x y t2, ty, pos, after, g⟩) (h : quo a b = some c) (next : Rq P n B ae Q (pc+1) imm hs ((d, .int .i64 c) :: m)) (hg : guardB ae m g = some true := by kernel_rfl) (hn : Nat.blt d n = true := by kernel_rfl) (hx : val m x = some (.int .i64 a) := by kernel_rfl) (hy : val m y = some (.int .i64 b) := by kernel_rfl) : Rq P n B ae Q pc imm hs m :=
  zPb ho hg hn hx hy h next
theorem zPh {t t2 : TypeId} {x y : Operand} {a b c : Int} (ho : ae[pc]? = some ⟨some d, .binOp .rem t x y t2, ty, pos, after, g⟩) (h : rem a b = some c) (next : R P n B ae Q (pc+1) imm hs ((d, .int .i64 c) :: m)) (hg : guardB ae m g = some true := by kernel_rfl) (hn : Nat.blt d n = true := by kernel_rfl) (hx : val m x = some (.int .i64 a) := by kernel_rfl) (hy : val m y = some (.int .i64 b) := by kernel_rfl) : R P n B ae Q pc imm hs m :=
  zQH ho hg hn hx hy h next
theorem zPX {t t2 : TypeId} {x y : Operand} {a b c : Int} (ho : ae[pc]? = some ⟨some d, .binOp .rem t x y t2, ty, pos, after, g⟩) (h : rem a b = some c) (next : Rq P n B ae Q (pc+1) imm hs ((d, .int .i64 c) :: m)) (hg : guardB ae m g = some true := by kernel_rfl) (hn : Nat.blt d n = true := by kernel_rfl) (hx : val m x = some (.int .i64 a) := by kernel_rfl) (hy : val m y = some (.int .i64 b) := by kernel_rfl) : Rq P n B ae Q pc imm hs m :=
  zPc ho hg hn hx hy h next
theorem dE {t : TypeId} {x y : Operand} {b o : Nat} {c : Array Value} {v : Value} (j : Nat) (c' : List Value) (af : List HA) (ho : ae[pc]? = some ⟨none, .store t x y, ty, pos, after, g⟩) (hj : hs[j]? = some (.blk b c)) (hx : val m x = some (.pointer (some ⟨b, o, none⟩))) (hy : val m y = some v) (next : R P n B ae Q (pc+1) imm af m) (hg : guardB ae m g = some true := by kernel_rfl) (bM : sizeT P t = some v.cells.size := by kernel_rfl) (bN : Nat.ble (o+v.cells.size) c.size = true := by kernel_rfl) (bW : v.cells.toList.all Value.oneCell' = true := by rfl) (hc : wr c o v.cells.toList = ⟨c'⟩ := by kernel_rfl) (hh : hs.set j (.blk b ⟨c'⟩) = af := by rfl) : R P n B ae Q pc imm hs m :=
  zHU j ho hg hj hx hy bM bN bW hc hh next
theorem rF {α : Type} [Rp α] {t t2 : TypeId} {x1 x2 : Operand} {v vx : Value} {cs aL : List Value} {l l2 y : List α} {by' : Nat} (e zs j : Nat) (ho : ae[pc]? = some ⟨some d, .call { callee := .builtin .append, args := #[x1, x2], argTypes := #[t, t2] }, ty, pos, after, g⟩) (hj : hs[j]? = some (.osl v (Rp.sz α) cs)) (hy : val m x2 = some vx) (hr : RepL (Rp.rep imm) (Rp.sz α) cs l) (s : Src imm hs vx (Rp.sz α) aL) (hr2 : RepL (Rp.rep imm) (Rp.sz α) aL l2) (hb : app by' l l2 = some y)
    (next : ∀ a' c' cs', RepL (Rp.rep imm) (Rp.sz α) cs' y -> R P n B ae Q (pc+1) imm (hs.set j (.osl (.slice a' y.length c') (Rp.sz α) cs')) ((d, .slice a' y.length c') :: m)) (hg : guardB ae m g = some true := by kernel_rfl) (hn : Nat.blt d n = true := by kernel_rfl) (hx : val m x1 = some v := by kernel_rfl) (ht : appT P t = some (e, Rp.sz α, by', zs) := by kernel_rfl) (ht2 : appT P t2 = some (e, Rp.sz α, by', zs) := by kernel_rfl) : R P n B ae Q pc imm hs m :=
  zPf (fun _ => True) (e := e) (zs := zs) j ho hg hn hx hy ht ht2 hj hr (fun _ _ => .inl trivial) s hr2 hb (fun a' c' cs' _ h => next a' c' cs' h)
end
end Go.LN
namespace Go.LN
def mkrow {α : Type} (bytes : Nat) (k : Int) (z : α) : Option (List α) := if 0<=k /\ k.toNat*bytes<=140737488355328 then some (List.replicate k.toNat z) else none
def zrow (z : Array Value) (k : Nat) : List Value := (List.range k).map fun i => z[i % z.size]!
theorem zNl (z : Array Value) (k : Nat) (h : 0<z.size) : (List.range z.size).map (fun i => z[(k*z.size+i) % z.size]!) = z.toList := by
  refine List.ext_getElem (by simp) fun i h1 h2 => ?_
  have hi : i<z.size := by simpa using h1
  simp only [List.getElem_map, List.getElem_range, Array.getElem_toList]
  have e : (k*z.size+i) % z.size = i := by rw [Nat.add_comm, Nat.mul_comm, Nat.add_mul_mod_self_left, Nat.mod_eq_of_lt hi]
  rw [e]
  exact getElem!_pos z i hi
theorem zKs {α : Type} {ρ : List Value -> α -> Prop} {z : Array Value} {a : α} (hz : 0<z.size) (h : ρ z.toList a) : ∀ k, RepL ρ z.size (zrow z (k*z.size)) (List.replicate k a)
  | 0 => by simp [zrow, RepL]
  | k+1 => by
    have e : zrow z ((k+1)*z.size) = zrow z (k*z.size)++z.toList := by
      unfold zrow
      rw [du, List.range_add, eb, List.map_map]
      congr 1
      exact zNl z k hz
    rw [e, List.replicate_succ']
    exact (zKs hz h k).append (.single (by simp) h)
section
variable {P : Program} {n : Nat} {B : Base} {Q : Exit -> Act -> World -> Prop} {imm : Imm} {hs : List HA} {m : FM} {ae : List Oper} {pc d : Nat} {ty : TypeId} {pos : String} {after : Array Edge} {g : Option (Nat × Bool)}
def mkT (P : Program) (t : TypeId) : Option (Nat × Nat × List Value) :=
  match elemOfT P t with
  | some e => match sizeT P e, bytesT P e, zeroC P e with
    | some s, some b, some z => bif Nat.beq z.size s&&Nat.blt 0 b then some (s, b, z.toList) else none
    | _, _, _ => none
  | none => none
theorem zQU {α : Type} [Rp α] {t : TypeId} {x y : Operand} {k : Int} {a : α} {l : List α} (by' : Nat) (z : List Value) (ho : ae[pc]? = some ⟨some d, .makeSlice t x y, ty, pos, after, g⟩) (hk : mkrow by' k a = some l) (hr : Rp.rep imm z a)
    (next : ∀ b cs, RL imm cs l -> R P n B ae Q (pc+1) imm (.osl (.slice (some ⟨b, 0, none⟩) l.length l.length) (Rp.sz α) cs :: hs) ((d, .slice (some ⟨b, 0, none⟩) l.length l.length) :: m))
    (hg : guardB ae m g = some true := by kernel_rfl) (hn : Nat.blt d n = true := by kernel_rfl) (hx : val m x = some (.int .i64 k) := by kernel_rfl) (hy : val m y = some (.int .i64 k) := by kernel_rfl) (ht : mkT P t = some (Rp.sz α, by', z) := by kernel_rfl) :
    R P n B ae Q pc imm hs m := by
  refine eH ho hg rfl hn fun ac w f gd => ?_
  unfold mkrow at hk
  split at hk
  · rename_i hk0
    cases hk
    obtain ⟨hk0, hkb⟩ := hk0
    unfold mkT at ht
    cases he : elemOfT P t with
    | none => rw [he] at ht; cases ht
    | some e =>
      rw [he] at ht
      simp only at ht
      split at ht
      · rename_i s b zc h1 h2 h3
        cases hq : Nat.beq zc.size s&&Nat.blt 0 b with
        | false => rw [hq] at ht; cases ht
        | true =>
          rw [hq] at ht
          simp only [cond_true, Option.some.injEq, Prod.mk.injEq] at ht
          obtain ⟨rfl, rfl, rfl⟩ := ht
          rw [cA] at hq
          have hzs := cK hq.1
          have hb0 : 0<b := by simpa using hq.2
          have hu : P.underlying t = some (.slice e) := by
            unfold elemOfT at he
            split at he <;> simp_all
          cases hie : P.info? e with
          | none => simp [sizeT, hie] at h1
          | some ie =>
          have hsz' : ie.size = Rp.sz α := by simpa [sizeT, hie] using h1
          have hby' : ie.bytes = b := by simpa [bytesT, hie] using h2
          obtain ⟨zv, hz1, hz2⟩ := zAx (w := w) h3
          have hpos : 0<zc.size := by rw [hzs]; exact Rp.pos
          have hkk : (k.toNat : Int) = k := Int.toNat_of_nonneg hk0
          have bH : k.toNat<=k.toNat*b := Nat.le_mul_of_pos_right _ hb0
          have hwr : IntKind.i64.wrap k = k := by rw [IntKind.wrap_i64]; omega
          have hmul : ((ie.bytes : Int)*k)<=140737488355328 := by
            rw [<- hkk, hby', <- Int.natCast_mul, Nat.mul_comm]
            exact Int.ofNat_le.2 hkb
          have hnt : ¬ (k<0) := by omega
          have hnb : ¬ ((ie.bytes : Int)*k>2 ^ 48) := by omega
          let row : Array Value := if k.toNat*Rp.sz α = 0 then #[] else (Array.range (k.toNat*Rp.sz α)).map (fun i => zc[i % zc.size]!)
          have hrow : (((Array.range (k.toNat*ie.size)).map fun i => (if k.toNat*ie.size = 0 then #[] else zc)[i % (if k.toNat*ie.size = 0 then (#[] : Array Value) else zc).size]!)) = ⟨zrow zc (k.toNat*zc.size)⟩ := by
            rw [hsz', <- hzs]
            apply Array.ext'
            by_cases h0 : k.toNat*zc.size = 0
            · simp [h0, zrow]
            · simp [h0, zrow]
          have ba : (zrow zc (k.toNat*zc.size)).length = k.toNat*Rp.sz α := by simp [zrow, hzs]
          have hg := gd.alloc_osl ⟨zrow zc (k.toNat*zc.size)⟩ e (Rp.sz α) k.toNat k.toNat (zrow zc (k.toNat*zc.size)) (by show _<=(zrow _ _).length; rw [ba]; exact cZ _) (cZ _) (by rw [<- ba]; exact List.take_length) ba (by omega)
          have hll : (List.replicate k.toNat a).length = k.toNat := List.length_replicate
          rw [hll] at next
          refine ⟨_, _, imm, _, ?_, hg, next w.heap.size _ ?_⟩
          · simp only [execOp, f.eval hx, f.eval hy, Instr.makeSlice, Sem.run_bind, xT hu, Result.andThen_ok, asInt, asIntOf, Sem.run_pure, typeInfo, run_program, hie, hwr, hnt, hnb, decide_false, ek, cW, false_or, or_self, if_false, Int.lt_irrefl,
              gt_iff_lt, run_askRoom, kX h1]
            by_cases h0 : k.toNat*Rp.sz α = 0
            · have := hrow
              rw [hsz'] at this
              simp only [h0, if_true] at this ⊢
              simp only [Sem.run_pure, Result.andThen_ok, newRow, run_newObj, Sem.run_bind, this]
            · have := hrow
              rw [hsz'] at this
              simp only [h0, if_false] at this ⊢
              simp only [Sem.run_bind, hz1, hz2, Sem.run_pure, Result.andThen_ok, newRow, run_newObj, this]
          · have := zKs (z := zc) (a := a) hpos hr k.toNat
            rw [hzs] at this
            show RepL _ _ _ _
            rw [hzs]
            exact this
      · cases ht
  · cases hk
theorem zM2 {f : FuncId} {first cap : List Value} {x : Operand} {xs : Array Operand} {ts : Array TypeId} {vs : List Value} {hs1 rest : List HA} {post : Nat -> Imm -> List HA -> Value -> Prop}
    (ho : ae[pc]? = some ⟨some d, .call { callee := .value x, args := xs, argTypes := ts }, ty, pos, after, g⟩) (hx : val m x = some (.func (.func f) ⟨first⟩ ⟨cap⟩)) (hf : callable P f = true)
    (hvs : vals m xs.toList = some vs) (hh : hs = hs1++rest) (hc : Ret P f (first++vs++cap) imm hs1 post)
    (next : ∀ am af v k, imm.le am -> B.w0.heap.size<=k -> post k am af v -> (∀ b∈af.flatMap HA.fp, b∈hs1.flatMap HA.fp∨B.w0.heap.size<=b) -> R P n B ae Q (pc+1) am (af++rest) ((d, v) :: m)) (hg : guardB ae m g = some true := by kernel_rfl) (hn : Nat.blt d n = true := by kernel_rfl) : R P n B ae Q pc imm hs m :=
  zKC ho hg fun a w fr gd => by
    subst hh
    have hargs : xs.map a.eval = vs.toArray := by apply Array.ext'; rw [d9, fr.evals hvs]
    have hall : (⟨first⟩ : Array Value)++vs.toArray++⟨cap⟩ = (first++vs++cap).toArray := by apply Array.ext'; simp
    have bS := gd.nodup
    rw [di] at bS
    have hg1 := gd.enter (hs1 := hs1) (fun A hA => cP _ hA) (cM.1 bS).1
    unfold Oper.wp
    simp only [execOp, resolve, Deferred.ofValue, fr.eval hx, hargs, Sem.run_bind, Sem.run_pure, Result.andThen_ok, invoke, hall, zFj hf, Oper.upon]
    refine (hc w hg1).mono fun e w' he => ?_
    cases e with
    | returned v =>
      obtain ⟨am, af, hp, hgood⟩ := he
      obtain ⟨g2, bH, hfp⟩ := gd.leave hgood
      exact next am af v w.heap.size bH gd.frm.size hp hfp _ w' (fr.put d v (by simpa using hn)) g2
    | panicked c => exact he.elim
    | outgrown => exact he.elim
end
class Vr (α : Type) where
  rep : Imm -> Value -> α -> Prop
  mono : ∀ {i j : Imm} {v : Value} {a : α}, i.le j -> rep i v a -> rep j v a
instance : Vr Int := ⟨fun _ v a => v = .int .i64 a, fun _ h => h⟩
instance : Vr Bool := ⟨fun _ v a => v = .bool a, fun _ h => h⟩
instance : Vr Str := ⟨fun _ v a => v = .string ⟨⟨a.l⟩⟩, fun _ h => h⟩
instance {α : Type} [Rp α] : Vr (List α) := ⟨fun i v a => SL i v a, fun hl h => h.mono hl⟩
def FV1 {α β : Type} [Vr α] [Vr β] (P : Program) (imm : Imm) (aB : List HA) (v : Value) (φ : α -> Option β) : Prop :=
  ∃ f first cap, v = .func (.func f) ⟨first⟩ ⟨cap⟩ /\ callable P f = true /\ ∀ am, imm.le am -> ∀ a r va, φ a = some r -> Vr.rep am va a -> Ret P f (first++[va]++cap) am aB fun _ i af u => af = aB /\ Vr.rep i u r
theorem FV1.mono {α β : Type} [Vr α] [Vr β] {P : Program} {i j : Imm} {aB : List HA} {v : Value} {φ : α -> Option β} (hl : i.le j) (h : FV1 P i aB v φ) : FV1 P j aB v φ := by
  obtain ⟨f, first, cap, h1, h2, h3⟩ := h
  exact ⟨f, first, cap, h1, h2, fun am h' => h3 am (hl.trans h')⟩
theorem FV1.intro {α β : Type} [Vr α] [Vr β] {P : Program} {imm : Imm} {aB : List HA} {f : FuncId} {first cap : List Value} {φ : α -> Option β} (h : ∀ am, imm.le am -> ∀ a r va, φ a = some r -> Vr.rep am va a -> Ret P f (first++[va]++cap) am aB fun _ i af u => af = aB /\ Vr.rep i u r)
    (hc : callable P f = true := by kernel_rfl) : FV1 P imm aB (.func (.func f) ⟨first⟩ ⟨cap⟩) φ := ⟨f, first, cap, rfl, hc, h⟩
def FV2 {α β γ : Type} [Vr α] [Vr β] [Vr γ] (P : Program) (imm : Imm) (aB : List HA) (v : Value) (φ : α -> β -> Option γ) : Prop :=
  ∃ f first cap, v = .func (.func f) ⟨first⟩ ⟨cap⟩ /\ callable P f = true /\ ∀ am, imm.le am -> ∀ a b r va vb, φ a b = some r -> Vr.rep am va a -> Vr.rep am vb b -> Ret P f (first++[va, vb]++cap) am aB fun _ i af u => af = aB /\ Vr.rep i u r
theorem FV2.mono {α β γ : Type} [Vr α] [Vr β] [Vr γ] {P : Program} {i j : Imm} {aB : List HA} {v : Value} {φ : α -> β -> Option γ} (hl : i.le j) (h : FV2 P i aB v φ) : FV2 P j aB v φ := by
  obtain ⟨f, first, cap, h1, h2, h3⟩ := h
  exact ⟨f, first, cap, h1, h2, fun am h' => h3 am (hl.trans h')⟩
theorem FV2.intro {α β γ : Type} [Vr α] [Vr β] [Vr γ] {P : Program} {imm : Imm} {aB : List HA} {f : FuncId} {first cap : List Value} {φ : α -> β -> Option γ} (h : ∀ am, imm.le am -> ∀ a b r va vb, φ a b = some r -> Vr.rep am va a -> Vr.rep am vb b -> Ret P f (first++[va, vb]++cap) am aB fun _ i af u => af = aB /\ Vr.rep i u r)
    (hc : callable P f = true := by kernel_rfl) : FV2 P imm aB (.func (.func f) ⟨first⟩ ⟨cap⟩) φ := ⟨f, first, cap, rfl, hc, h⟩
section
variable {P : Program} {n : Nat} {B : Base} {Q : Exit -> Act -> World -> Prop} {imm : Imm} {hs : List HA} {m : FM} {ae : List Oper} {pc d : Nat} {ty : TypeId} {pos : String} {after : Array Edge} {g : Option (Nat × Bool)}
theorem zJq {α β : Type} [Vr α] [Vr β] {x y : Operand} {ts : Array TypeId} {v va : Value} {a : α} {r : β} {φ : α -> Option β} {aB rest : List HA}
    (ho : ae[pc]? = some ⟨some d, .call { callee := .value x, args := #[y], argTypes := ts }, ty, pos, after, g⟩) (hy : val m y = some va) (hF : FV1 P imm aB v φ) (hr : φ a = some r) (ha : Vr.rep imm va a) (hh : hs = aB++rest)
    (next : ∀ am u, imm.le am -> Vr.rep am u r -> R P n B ae Q (pc+1) am (aB++rest) ((d, u) :: m)) (hx : val m x = some v := by kernel_rfl) (hg : guardB ae m g = some true := by kernel_rfl) (hn : Nat.blt d n = true := by kernel_rfl) : R P n B ae Q pc imm hs m := by
  obtain ⟨f, first, cap, rfl, hf, hc⟩ := hF
  refine zM2 ho hx hf (vs := [va]) (by simp [vals, hy]) hh (hc imm (Imm.le.refl _) a r va hr ha) ?_ hg hn
  rintro am af u k hl hk ⟨rfl, h⟩ -
  exact next am u hl h
theorem zKt {α β γ : Type} [Vr α] [Vr β] [Vr γ] {x y z : Operand} {ts : Array TypeId} {v va vb : Value} {a : α} {b : β} {r : γ} {φ : α -> β -> Option γ} {aB rest : List HA}
    (ho : ae[pc]? = some ⟨some d, .call { callee := .value x, args := #[y, z], argTypes := ts }, ty, pos, after, g⟩) (hy : val m y = some va) (hz : val m z = some vb) (hF : FV2 P imm aB v φ) (hr : φ a b = some r) (ha : Vr.rep imm va a) (hb : Vr.rep imm vb b) (hh : hs = aB++rest)
    (next : ∀ am u, imm.le am -> Vr.rep am u r -> R P n B ae Q (pc+1) am (aB++rest) ((d, u) :: m)) (hx : val m x = some v := by kernel_rfl) (hg : guardB ae m g = some true := by kernel_rfl) (hn : Nat.blt d n = true := by kernel_rfl) : R P n B ae Q pc imm hs m := by
  obtain ⟨f, first, cap, rfl, hf, hc⟩ := hF
  refine zM2 ho hx hf (vs := [va, vb]) (by simp [vals, hy, hz]) hh (hc imm (Imm.le.refl _) a b r va vb hr ha hb) ?_ hg hn
  rintro am af u k hl hk ⟨rfl, h⟩ -
  exact next am u hl h
end
end Go.LN
namespace Go.LN
theorem Good.grow {B : Base} {imm : Imm} {hs : List HA} {w : World} (h : Good B imm hs w) (k : Nat) (os : Array Obj) : Good B imm hs (Sort.grow (w.drewN k) os) := by
  have h := h.drewN k
  generalize w.drewN k = w at h
  have old : ∀ b, b<w.heap.size -> (Sort.grow w os).heap[b]? = w.heap[b]? := fun b hb => by
    show (w.heap++os)[b]? = _
    rw [Array.getElem?_append_left hb]
  refine ⟨fun b c e => ?_, fun A hA => (h.own A hA).same (fun _ _ p => p) (fun _ _ => rfl) (fun b hb => old b ((h.own A hA).lt hb).1), h.nodup, ⟨h.frm.os, h.frm.tape, h.frm.output, ?_, fun b hb hio => ?_, h.frm.imm, h.frm.drawn⟩⟩
  · obtain ⟨ty, fr, e'⟩ := h.inv b c e
    exact ⟨ty, fr, (old b (h.lt_imm e)).trans e'⟩
  · show _<=(w.heap++os).size
    rw [Array.size_append]
    exact cY h.frm.size (Nat.le_add_right _ _)
  · exact (old b (e9 hb h.frm.size)).trans (h.frm.heap b hb hio)
def GT (P : Program) (imm : Imm) : Prop := ∃ g, P.globalNamed "internal/strconv.uint64pow10" = some g ∧ imm g = some (Lib.pow10Tab.map fun z => Value.int .u64 z).toArray
def GM (P : Program) (imm : Imm) : Prop := ∃ g, P.globalNamed "internal/bytealg.MaxLen" = some g ∧ ∃ m, imm g = some #[.int .i64 m]
def GE (P : Program) (imm : Imm) (nm : String) : Prop := ∃ g, P.globalNamed nm = some g /\ ∃ t p, imm g = some #[.iface t p]
def GH (P : Program) (imm : Imm) : Prop := GT P imm ∧ GM P imm ∧ GE P imm "strconv.ErrSyntax" ∧ GE P imm "strconv.ErrRange"
theorem GH.mono {P : Program} {i j : Imm} (hl : i.le j) (h : GH P i) : GH P j := by
  obtain ⟨⟨g, h1, h2⟩, ⟨g3, h3, m, h4⟩, ⟨g5, h5, t, p, h6⟩, ⟨g7, h7, u, q, h8⟩⟩ := h
  exact ⟨⟨g, h1, hl _ _ h2⟩, ⟨g3, h3, m, hl _ _ h4⟩, ⟨g5, h5, t, p, hl _ _ h6⟩, ⟨g7, h7, u, q, hl _ _ h8⟩⟩
theorem GH.es {P : Program} {imm : Imm} (h : GH P imm) : GE P imm "strconv.ErrSyntax" := h.2.2.1
end Go.LN
namespace Go.LN
theorem zCy {k : IntKind} {n : Int} : (Value.int k n).oneCell' = true := rfl
theorem zIC {s : ByteArray} : (Value.string s).oneCell' = true := rfl
theorem SL.one {α : Type} [Rp α] {i : Imm} {v : Value} {l : List α} (h : SL i v l) : v.oneCell' = true := by
  obtain ⟨aL, hs, _⟩ := h
  rcases hs with ⟨rfl, _⟩ | ⟨b, off, len, cap, c, rfl, _⟩ <;> rfl
structure zE where
  Name : Str
  Dims : List Int
instance : Rp zE where
  sz := 2
  pos := by decide
  rep i cs s := ∃ v0 : Value, cs = [.string ⟨⟨s.Name.l⟩⟩, v0] /\ SL i v0 s.Dims
  len h := by obtain ⟨v0, rfl, h0⟩ := h; rfl
  mono hm h := by obtain ⟨v0, e, h0⟩ := h; exact ⟨v0, e, h0.mono hm⟩
  one h := by obtain ⟨v0, rfl, h0⟩ := h; simp [zIC, h0.one]
theorem zD3 {i : Imm} {cs : List Value} {s : zE} (h : Rp.rep i cs s) : ∃ v0 : Value, cs = [.string ⟨⟨s.Name.l⟩⟩, v0] /\ SL i v0 s.Dims := h
theorem uI {i : Imm} {cs : List Value} {s : zE} (h : ∃ v0 : Value, cs = [.string ⟨⟨s.Name.l⟩⟩, v0] /\ SL i v0 s.Dims) : Rp.rep i cs s := h
theorem xP {i : Imm} {cs : List Value} {s : zE} (h : Rp.rep i cs s) : ∃ (p0 : Option Addr) (c0 : Nat), cs = [.string ⟨⟨s.Name.l⟩⟩, vS p0 s.Dims c0] /\ SL i (vS p0 s.Dims c0) s.Dims := by
  obtain ⟨v0, e, h0⟩ := zD3 h
  obtain ⟨p0, c0, rfl⟩ := h0.form
  exact ⟨p0, c0, e, h0⟩
instance : Vr zE := ⟨fun i v a => ∃ cs, v = .agg ⟨cs⟩ /\ Rp.rep i cs a, fun hl ⟨cs, e, h⟩ => ⟨cs, e, Rp.mono hl h⟩⟩
structure zA where
  Coefs : List Int
  Const : Int
instance : Rp zA where
  sz := 2
  pos := by decide
  rep i cs s := ∃ v0 : Value, cs = [v0, .int .i64 s.Const] /\ SL i v0 s.Coefs
  len h := by obtain ⟨v0, rfl, h0⟩ := h; rfl
  mono hm h := by obtain ⟨v0, e, h0⟩ := h; exact ⟨v0, e, h0.mono hm⟩
  one h := by obtain ⟨v0, rfl, h0⟩ := h; simp [zCy, h0.one]
theorem zGj {i : Imm} {cs : List Value} {s : zA} (h : Rp.rep i cs s) : ∃ v0 : Value, cs = [v0, .int .i64 s.Const] /\ SL i v0 s.Coefs := h
theorem yJ {i : Imm} {cs : List Value} {s : zA} (h : ∃ v0 : Value, cs = [v0, .int .i64 s.Const] /\ SL i v0 s.Coefs) : Rp.rep i cs s := h
theorem yD {i : Imm} {cs : List Value} {s : zA} (h : Rp.rep i cs s) : ∃ (p0 : Option Addr) (c0 : Nat), cs = [vS p0 s.Coefs c0, .int .i64 s.Const] /\ SL i (vS p0 s.Coefs c0) s.Coefs := by
  obtain ⟨v0, e, h0⟩ := zGj h
  obtain ⟨p0, c0, rfl⟩ := h0.form
  exact ⟨p0, c0, e, h0⟩
instance : Vr zA := ⟨fun i v a => ∃ cs, v = .agg ⟨cs⟩ /\ Rp.rep i cs a, fun hl ⟨cs, e, h⟩ => ⟨cs, e, Rp.mono hl h⟩⟩
structure zF where
  Lo : List zA
  Hi : List zA
instance : Rp zF where
  sz := 2
  pos := by decide
  rep i cs s := ∃ v0 v1 : Value, cs = [v0, v1] /\ SL i v0 s.Lo /\ SL i v1 s.Hi
  len h := by obtain ⟨v0, v1, rfl, h0, h1⟩ := h; rfl
  mono hm h := by obtain ⟨v0, v1, e, h0, h1⟩ := h; exact ⟨v0, v1, e, h0.mono hm, h1.mono hm⟩
  one h := by obtain ⟨v0, v1, rfl, h0, h1⟩ := h; simp [h0.one, h1.one]
theorem zDq {i : Imm} {cs : List Value} {s : zF} (h : Rp.rep i cs s) : ∃ v0 v1 : Value, cs = [v0, v1] /\ SL i v0 s.Lo /\ SL i v1 s.Hi := h
theorem uJ {i : Imm} {cs : List Value} {s : zF} (h : ∃ v0 v1 : Value, cs = [v0, v1] /\ SL i v0 s.Lo /\ SL i v1 s.Hi) : Rp.rep i cs s := h
theorem wY {i : Imm} {cs : List Value} {s : zF} (h : Rp.rep i cs s) : ∃ (p0 : Option Addr) (c0 : Nat) (p1 : Option Addr) (c1 : Nat), cs = [vS p0 s.Lo c0, vS p1 s.Hi c1] /\ SL i (vS p0 s.Lo c0) s.Lo /\ SL i (vS p1 s.Hi c1) s.Hi := by
  obtain ⟨v0, v1, e, h0, h1⟩ := zDq h
  obtain ⟨p0, c0, rfl⟩ := h0.form
  obtain ⟨p1, c1, rfl⟩ := h1.form
  exact ⟨p0, c0, p1, c1, e, h0, h1⟩
instance : Vr zF := ⟨fun i v a => ∃ cs, v = .agg ⟨cs⟩ /\ Rp.rep i cs a, fun hl ⟨cs, e, h⟩ => ⟨cs, e, Rp.mono hl h⟩⟩
structure zG where
  Array : Str
  Subs : List zA
instance : Rp zG where
  sz := 2
  pos := by decide
  rep i cs s := ∃ v0 : Value, cs = [.string ⟨⟨s.Array.l⟩⟩, v0] /\ SL i v0 s.Subs
  len h := by obtain ⟨v0, rfl, h0⟩ := h; rfl
  mono hm h := by obtain ⟨v0, e, h0⟩ := h; exact ⟨v0, e, h0.mono hm⟩
  one h := by obtain ⟨v0, rfl, h0⟩ := h; simp [zIC, h0.one]
theorem zGk {i : Imm} {cs : List Value} {s : zG} (h : Rp.rep i cs s) : ∃ v0 : Value, cs = [.string ⟨⟨s.Array.l⟩⟩, v0] /\ SL i v0 s.Subs := h
theorem rK {i : Imm} {cs : List Value} {s : zG} (h : ∃ v0 : Value, cs = [.string ⟨⟨s.Array.l⟩⟩, v0] /\ SL i v0 s.Subs) : Rp.rep i cs s := h
theorem uK {i : Imm} {cs : List Value} {s : zG} (h : Rp.rep i cs s) : ∃ (p0 : Option Addr) (c0 : Nat), cs = [.string ⟨⟨s.Array.l⟩⟩, vS p0 s.Subs c0] /\ SL i (vS p0 s.Subs c0) s.Subs := by
  obtain ⟨v0, e, h0⟩ := zGk h
  obtain ⟨p0, c0, rfl⟩ := h0.form
  exact ⟨p0, c0, e, h0⟩
instance : Vr zG := ⟨fun i v a => ∃ cs, v = .agg ⟨cs⟩ /\ Rp.rep i cs a, fun hl ⟨cs, e, h⟩ => ⟨cs, e, Rp.mono hl h⟩⟩
inductive zH where
  | mk (Kind : Int) (Num : Int) (Index : zA) (Read : zG) (Kids : List zH)
def zH.Kind : zH -> Int | .mk x _ _ _ _ => x
def zH.Num : zH -> Int | .mk _ x _ _ _ => x
def zH.Index : zH -> zA | .mk _ _ x _ _ => x
def zH.Read : zH -> zG | .mk _ _ _ x _ => x
def zH.Kids : zH -> (List zH) | .mk _ _ _ _ x => x
mutual
def zH.repE (i : Imm) : zH -> List Value -> Prop
  | .mk Kind Num Index Read Kids, cs => ∃ (v0 v1 v2 : Value) (aL : List Value), cs = [.int .i64 Kind, .int .i64 Num, v0, .int .i64 Index.Const, .string ⟨⟨Read.Array.l⟩⟩, v1, v2] /\ SL i v0 Index.Coefs /\ SL i v1 Read.Subs /\ SliceAt i v2 7 aL /\ zH.reps i Kids aL
def zH.reps (i : Imm) : List zH -> List Value -> Prop
  | [], cs => cs = []
  | e :: es, cs => ∃ c1 c2, cs = c1++c2 /\ c1.length = 7 /\ zH.repE i e c1 /\ zH.reps i es c2
end
mutual
theorem zEy {i : Imm} : ∀ {e : zH} {cs : List Value}, zH.repE i e cs -> cs.length = 7
  | .mk .., cs, h => by simp only [zH.repE] at h; obtain ⟨v0, v1, v2, aL, rfl, _⟩ := h; rfl
end
mutual
theorem zBN {i j : Imm} (hm : i.le j) : ∀ {e : zH} {cs : List Value}, zH.repE i e cs -> zH.repE j e cs
  | .mk .., cs, h => by
    simp only [zH.repE] at h ⊢
    obtain ⟨v0, v1, v2, aL, e, k0, k1, ha, hb⟩ := h
    exact ⟨v0, v1, v2, aL, e, k0.mono hm, k1.mono hm, ha.mono hm, zBO hm hb⟩
theorem zBO {i j : Imm} (hm : i.le j) : ∀ {es : List zH} {cs : List Value}, zH.reps i es cs -> zH.reps j es cs
  | [], cs, h => by simpa [zH.reps] using h
  | e :: es, cs, h => by
    simp only [zH.reps] at h ⊢
    obtain ⟨c1, c2, h1, h2, h3, h4⟩ := h
    exact ⟨c1, c2, h1, h2, zBN hm h3, zBO hm h4⟩
end
theorem eJ {i : Imm} : ∀ {es : List zH} {cs : List Value}, zH.reps i es cs↔RepL (fun c e => zH.repE i e c) 7 cs es
  | [], cs => by simp [zH.reps, RepL]
  | e :: es, cs => by
    simp only [zH.reps, RepL]
    constructor
    · rintro ⟨c1, c2, h1, h2, h3, h4⟩; exact ⟨c1, c2, h1, h2, h3, eJ.1 h4⟩
    · rintro ⟨c1, c2, h1, h2, h3, h4⟩; exact ⟨c1, c2, h1, h2, h3, eJ.2 h4⟩
theorem SliceAt.one {i : Imm} {v : Value} {sz : Nat} {cs : List Value} (hs : SliceAt i v sz cs) : v.oneCell' = true := by
  rcases hs with ⟨rfl, _⟩ | ⟨b, off, len, cap, c, rfl, _⟩ <;> rfl
theorem zEz {i : Imm} : ∀ {e : zH} {cs : List Value}, zH.repE i e cs -> ∀ v∈cs, v.oneCell' = true
  | .mk .., cs, h => by
    simp only [zH.repE] at h
    obtain ⟨v0, v1, v2, aL, rfl, k0, k1, ha, _⟩ := h
    simp [zCy, zIC, k0.one, k1.one, ha.one]
instance : Rp zH where
  sz := 7
  pos := by decide
  rep i cs e := zH.repE i e cs
  len h := zEy h
  mono hm h := zBN hm h
  one h := zEz h
theorem zIS {i : Imm} {cs : List Value} {s : zH} (h : Rp.rep i cs s) : ∃ v0 v1 v2 : Value, cs = [.int .i64 s.Kind, .int .i64 s.Num, v0, .int .i64 s.Index.Const, .string ⟨⟨s.Read.Array.l⟩⟩, v1, v2] /\ SL i v0 s.Index.Coefs /\ SL i v1 s.Read.Subs /\ SL i v2 s.Kids := by
  obtain ⟨Kind, Num, Index, Read, Kids⟩ := s
  have h : zH.repE i _ cs := h
  simp only [zH.repE] at h
  obtain ⟨v0, v1, v2, aL, e, k0, k1, ha, hb⟩ := h
  exact ⟨v0, v1, v2, e, k0, k1, ⟨aL, ha, eJ.1 hb⟩⟩
theorem wB {i : Imm} {cs : List Value} {s : zH} (h : ∃ v0 v1 v2 : Value, cs = [.int .i64 s.Kind, .int .i64 s.Num, v0, .int .i64 s.Index.Const, .string ⟨⟨s.Read.Array.l⟩⟩, v1, v2] /\ SL i v0 s.Index.Coefs /\ SL i v1 s.Read.Subs /\ SL i v2 s.Kids) : Rp.rep i cs s := by
  obtain ⟨Kind, Num, Index, Read, Kids⟩ := s
  show zH.repE i _ cs
  simp only [zH.repE]
  obtain ⟨v0, v1, v2, e, k0, k1, ⟨aL, ha, hb⟩⟩ := h
  exact ⟨v0, v1, v2, aL, e, k0, k1, ha, eJ.2 hb⟩
theorem wQ {i : Imm} {cs : List Value} {s : zH} (h : Rp.rep i cs s) : ∃ (p0 : Option Addr) (c0 : Nat) (p1 : Option Addr) (c1 : Nat) (p2 : Option Addr) (c2 : Nat), cs = [.int .i64 s.Kind, .int .i64 s.Num, vS p0 s.Index.Coefs c0, .int .i64 s.Index.Const, .string ⟨⟨s.Read.Array.l⟩⟩, vS p1 s.Read.Subs c1, vS p2 s.Kids c2] /\ SL i (vS p0 s.Index.Coefs c0) s.Index.Coefs /\ SL i (vS p1 s.Read.Subs c1) s.Read.Subs /\ SL i (vS p2 s.Kids c2) s.Kids := by
  obtain ⟨v0, v1, v2, e, h0, h1, h2⟩ := zIS h
  obtain ⟨p0, c0, rfl⟩ := h0.form
  obtain ⟨p1, c1, rfl⟩ := h1.form
  obtain ⟨p2, c2, rfl⟩ := h2.form
  exact ⟨p0, c0, p1, c1, p2, c2, e, h0, h1, h2⟩
instance : Vr zH := ⟨fun i v a => ∃ cs, v = .agg ⟨cs⟩ /\ Rp.rep i cs a, fun hl ⟨cs, e, h⟩ => ⟨cs, e, Rp.mono hl h⟩⟩
structure zL where
  Write : zG
  Value : zH
instance : Rp zL where
  sz := 9
  pos := by decide
  rep i cs s := ∃ v0 v1 v2 v3 : Value, cs = [.string ⟨⟨s.Write.Array.l⟩⟩, v0, .int .i64 s.Value.Kind, .int .i64 s.Value.Num, v1, .int .i64 s.Value.Index.Const, .string ⟨⟨s.Value.Read.Array.l⟩⟩, v2, v3] /\ SL i v0 s.Write.Subs /\ SL i v1 s.Value.Index.Coefs /\ SL i v2 s.Value.Read.Subs /\ SL i v3 s.Value.Kids
  len h := by obtain ⟨v0, v1, v2, v3, rfl, h0, h1, h2, h3⟩ := h; rfl
  mono hm h := by obtain ⟨v0, v1, v2, v3, e, h0, h1, h2, h3⟩ := h; exact ⟨v0, v1, v2, v3, e, h0.mono hm, h1.mono hm, h2.mono hm, h3.mono hm⟩
  one h := by obtain ⟨v0, v1, v2, v3, rfl, h0, h1, h2, h3⟩ := h; simp [zIC, zCy, h0.one, h1.one, h2.one, h3.one]
theorem kR {i : Imm} {cs : List Value} {s : zL} (h : Rp.rep i cs s) : ∃ v0 v1 v2 v3 : Value, cs = [.string ⟨⟨s.Write.Array.l⟩⟩, v0, .int .i64 s.Value.Kind, .int .i64 s.Value.Num, v1, .int .i64 s.Value.Index.Const, .string ⟨⟨s.Value.Read.Array.l⟩⟩, v2, v3] /\ SL i v0 s.Write.Subs /\ SL i v1 s.Value.Index.Coefs /\ SL i v2 s.Value.Read.Subs /\ SL i v3 s.Value.Kids := h
theorem wC {i : Imm} {cs : List Value} {s : zL} (h : ∃ v0 v1 v2 v3 : Value, cs = [.string ⟨⟨s.Write.Array.l⟩⟩, v0, .int .i64 s.Value.Kind, .int .i64 s.Value.Num, v1, .int .i64 s.Value.Index.Const, .string ⟨⟨s.Value.Read.Array.l⟩⟩, v2, v3] /\ SL i v0 s.Write.Subs /\ SL i v1 s.Value.Index.Coefs /\ SL i v2 s.Value.Read.Subs /\ SL i v3 s.Value.Kids) : Rp.rep i cs s := h
theorem wV {i : Imm} {cs : List Value} {s : zL} (h : Rp.rep i cs s) : ∃ (p0 : Option Addr) (c0 : Nat) (p1 : Option Addr) (c1 : Nat) (p2 : Option Addr) (c2 : Nat) (p3 : Option Addr) (c3 : Nat), cs = [.string ⟨⟨s.Write.Array.l⟩⟩, vS p0 s.Write.Subs c0, .int .i64 s.Value.Kind, .int .i64 s.Value.Num, vS p1 s.Value.Index.Coefs c1, .int .i64 s.Value.Index.Const, .string ⟨⟨s.Value.Read.Array.l⟩⟩, vS p2 s.Value.Read.Subs c2, vS p3 s.Value.Kids c3] /\ SL i (vS p0 s.Write.Subs c0) s.Write.Subs /\ SL i (vS p1 s.Value.Index.Coefs c1) s.Value.Index.Coefs /\ SL i (vS p2 s.Value.Read.Subs c2) s.Value.Read.Subs /\ SL i (vS p3 s.Value.Kids c3) s.Value.Kids := by
  obtain ⟨v0, v1, v2, v3, e, h0, h1, h2, h3⟩ := kR h
  obtain ⟨p0, c0, rfl⟩ := h0.form
  obtain ⟨p1, c1, rfl⟩ := h1.form
  obtain ⟨p2, c2, rfl⟩ := h2.form
  obtain ⟨p3, c3, rfl⟩ := h3.form
  exact ⟨p0, c0, p1, c1, p2, c2, p3, c3, e, h0, h1, h2, h3⟩
instance : Vr zL := ⟨fun i v a => ∃ cs, v = .agg ⟨cs⟩ /\ Rp.rep i cs a, fun hl ⟨cs, e, h⟩ => ⟨cs, e, Rp.mono hl h⟩⟩
structure zI where
  Nest : List zF
  Body : List zL
instance : Rp zI where
  sz := 2
  pos := by decide
  rep i cs s := ∃ v0 v1 : Value, cs = [v0, v1] /\ SL i v0 s.Nest /\ SL i v1 s.Body
  len h := by obtain ⟨v0, v1, rfl, h0, h1⟩ := h; rfl
  mono hm h := by obtain ⟨v0, v1, e, h0, h1⟩ := h; exact ⟨v0, v1, e, h0.mono hm, h1.mono hm⟩
  one h := by obtain ⟨v0, v1, rfl, h0, h1⟩ := h; simp [h0.one, h1.one]
theorem zIT {i : Imm} {cs : List Value} {s : zI} (h : Rp.rep i cs s) : ∃ v0 v1 : Value, cs = [v0, v1] /\ SL i v0 s.Nest /\ SL i v1 s.Body := h
theorem uL {i : Imm} {cs : List Value} {s : zI} (h : ∃ v0 v1 : Value, cs = [v0, v1] /\ SL i v0 s.Nest /\ SL i v1 s.Body) : Rp.rep i cs s := h
theorem wJ {i : Imm} {cs : List Value} {s : zI} (h : Rp.rep i cs s) : ∃ (p0 : Option Addr) (c0 : Nat) (p1 : Option Addr) (c1 : Nat), cs = [vS p0 s.Nest c0, vS p1 s.Body c1] /\ SL i (vS p0 s.Nest c0) s.Nest /\ SL i (vS p1 s.Body c1) s.Body := by
  obtain ⟨v0, v1, e, h0, h1⟩ := zIT h
  obtain ⟨p0, c0, rfl⟩ := h0.form
  obtain ⟨p1, c1, rfl⟩ := h1.form
  exact ⟨p0, c0, p1, c1, e, h0, h1⟩
instance : Vr zI := ⟨fun i v a => ∃ cs, v = .agg ⟨cs⟩ /\ Rp.rep i cs a, fun hl ⟨cs, e, h⟩ => ⟨cs, e, Rp.mono hl h⟩⟩
structure zC where
  Arrays : List zE
  Parts : List zI
instance : Rp zC where
  sz := 2
  pos := by decide
  rep i cs s := ∃ v0 v1 : Value, cs = [v0, v1] /\ SL i v0 s.Arrays /\ SL i v1 s.Parts
  len h := by obtain ⟨v0, v1, rfl, h0, h1⟩ := h; rfl
  mono hm h := by obtain ⟨v0, v1, e, h0, h1⟩ := h; exact ⟨v0, v1, e, h0.mono hm, h1.mono hm⟩
  one h := by obtain ⟨v0, v1, rfl, h0, h1⟩ := h; simp [h0.one, h1.one]
theorem zFp {i : Imm} {cs : List Value} {s : zC} (h : Rp.rep i cs s) : ∃ v0 v1 : Value, cs = [v0, v1] /\ SL i v0 s.Arrays /\ SL i v1 s.Parts := h
theorem xY {i : Imm} {cs : List Value} {s : zC} (h : ∃ v0 v1 : Value, cs = [v0, v1] /\ SL i v0 s.Arrays /\ SL i v1 s.Parts) : Rp.rep i cs s := h
theorem rG {i : Imm} {cs : List Value} {s : zC} (h : Rp.rep i cs s) : ∃ (p0 : Option Addr) (c0 : Nat) (p1 : Option Addr) (c1 : Nat), cs = [vS p0 s.Arrays c0, vS p1 s.Parts c1] /\ SL i (vS p0 s.Arrays c0) s.Arrays /\ SL i (vS p1 s.Parts c1) s.Parts := by
  obtain ⟨v0, v1, e, h0, h1⟩ := zFp h
  obtain ⟨p0, c0, rfl⟩ := h0.form
  obtain ⟨p1, c1, rfl⟩ := h1.form
  exact ⟨p0, c0, p1, c1, e, h0, h1⟩
instance : Vr zC := ⟨fun i v a => ∃ cs, v = .agg ⟨cs⟩ /\ Rp.rep i cs a, fun hl ⟨cs, e, h⟩ => ⟨cs, e, Rp.mono hl h⟩⟩
structure wE where
  From : Int
  To : Int
  Kinds : Int
instance : Rp wE where
  sz := 3
  pos := by decide
  rep i cs s := cs = [.int .i64 s.From, .int .i64 s.To, .int .i64 s.Kinds]
  len h := by obtain rfl := h; rfl
  mono _ h := h
  one h := by obtain rfl := h; simp [zCy]
theorem zEq {i : Imm} {cs : List Value} {s : wE} (h : Rp.rep i cs s) : cs = [.int .i64 s.From, .int .i64 s.To, .int .i64 s.Kinds] := h
theorem zJN {i : Imm} {cs : List Value} {s : wE} (h : cs = [.int .i64 s.From, .int .i64 s.To, .int .i64 s.Kinds]) : Rp.rep i cs s := h
instance : Vr wE := ⟨fun i v a => ∃ cs, v = .agg ⟨cs⟩ /\ Rp.rep i cs a, fun hl ⟨cs, e, h⟩ => ⟨cs, e, Rp.mono hl h⟩⟩
structure zN where
  Part : Int
  Stmt : Int
  Point : List Int
instance : Rp zN where
  sz := 3
  pos := by decide
  rep i cs s := ∃ v0 : Value, cs = [.int .i64 s.Part, .int .i64 s.Stmt, v0] /\ SL i v0 s.Point
  len h := by obtain ⟨v0, rfl, h0⟩ := h; rfl
  mono hm h := by obtain ⟨v0, e, h0⟩ := h; exact ⟨v0, e, h0.mono hm⟩
  one h := by obtain ⟨v0, rfl, h0⟩ := h; simp [zCy, h0.one]
theorem zFA {i : Imm} {cs : List Value} {s : zN} (h : Rp.rep i cs s) : ∃ v0 : Value, cs = [.int .i64 s.Part, .int .i64 s.Stmt, v0] /\ SL i v0 s.Point := h
theorem zB4 {i : Imm} {cs : List Value} {s : zN} (h : ∃ v0 : Value, cs = [.int .i64 s.Part, .int .i64 s.Stmt, v0] /\ SL i v0 s.Point) : Rp.rep i cs s := h
theorem fQ {i : Imm} {cs : List Value} {s : zN} (h : Rp.rep i cs s) : ∃ (p0 : Option Addr) (c0 : Nat), cs = [.int .i64 s.Part, .int .i64 s.Stmt, vS p0 s.Point c0] /\ SL i (vS p0 s.Point c0) s.Point := by
  obtain ⟨v0, e, h0⟩ := zFA h
  obtain ⟨p0, c0, rfl⟩ := h0.form
  exact ⟨p0, c0, e, h0⟩
instance : Vr zN := ⟨fun i v a => ∃ cs, v = .agg ⟨cs⟩ /\ Rp.rep i cs a, fun hl ⟨cs, e, h⟩ => ⟨cs, e, Rp.mono hl h⟩⟩
structure uS where
  Program : zC
  list : List zN
  reads : List (List Int)
  writes : List Int
instance : Rp uS where
  sz := 5
  pos := by decide
  rep i cs s := ∃ v0 v1 v2 v3 v4 : Value, cs = [v0, v1, v2, v3, v4] /\ SL i v0 s.Program.Arrays /\ SL i v1 s.Program.Parts /\ SL i v2 s.list /\ SL i v3 s.reads /\ SL i v4 s.writes
  len h := by obtain ⟨v0, v1, v2, v3, v4, rfl, h0, h1, h2, h3, h4⟩ := h; rfl
  mono hm h := by obtain ⟨v0, v1, v2, v3, v4, e, h0, h1, h2, h3, h4⟩ := h; exact ⟨v0, v1, v2, v3, v4, e, h0.mono hm, h1.mono hm, h2.mono hm, h3.mono hm, h4.mono hm⟩
  one h := by obtain ⟨v0, v1, v2, v3, v4, rfl, h0, h1, h2, h3, h4⟩ := h; simp [h0.one, h1.one, h2.one, h3.one, h4.one]
theorem zGl {i : Imm} {cs : List Value} {s : uS} (h : Rp.rep i cs s) : ∃ v0 v1 v2 v3 v4 : Value, cs = [v0, v1, v2, v3, v4] /\ SL i v0 s.Program.Arrays /\ SL i v1 s.Program.Parts /\ SL i v2 s.list /\ SL i v3 s.reads /\ SL i v4 s.writes := h
theorem zGm {i : Imm} {cs : List Value} {s : uS} (h : ∃ v0 v1 v2 v3 v4 : Value, cs = [v0, v1, v2, v3, v4] /\ SL i v0 s.Program.Arrays /\ SL i v1 s.Program.Parts /\ SL i v2 s.list /\ SL i v3 s.reads /\ SL i v4 s.writes) : Rp.rep i cs s := h
theorem zB5 {i : Imm} {cs : List Value} {s : uS} (h : Rp.rep i cs s) : ∃ (p0 : Option Addr) (c0 : Nat) (p1 : Option Addr) (c1 : Nat) (p2 : Option Addr) (c2 : Nat) (p3 : Option Addr) (c3 : Nat) (p4 : Option Addr) (c4 : Nat), cs = [vS p0 s.Program.Arrays c0, vS p1 s.Program.Parts c1, vS p2 s.list c2, vS p3 s.reads c3, vS p4 s.writes c4] /\ SL i (vS p0 s.Program.Arrays c0) s.Program.Arrays /\ SL i (vS p1 s.Program.Parts c1) s.Program.Parts /\ SL i (vS p2 s.list c2) s.list /\ SL i (vS p3 s.reads c3) s.reads /\ SL i (vS p4 s.writes c4) s.writes := by
  obtain ⟨v0, v1, v2, v3, v4, e, h0, h1, h2, h3, h4⟩ := zGl h
  obtain ⟨p0, c0, rfl⟩ := h0.form
  obtain ⟨p1, c1, rfl⟩ := h1.form
  obtain ⟨p2, c2, rfl⟩ := h2.form
  obtain ⟨p3, c3, rfl⟩ := h3.form
  obtain ⟨p4, c4, rfl⟩ := h4.form
  exact ⟨p0, c0, p1, c1, p2, c2, p3, c3, p4, c4, e, h0, h1, h2, h3, h4⟩
instance : Vr uS := ⟨fun i v a => ∃ cs, v = .agg ⟨cs⟩ /\ Rp.rep i cs a, fun hl ⟨cs, e, h⟩ => ⟨cs, e, Rp.mono hl h⟩⟩
structure zQ where
  b : List UInt8
  p : Int
instance : Rp zQ where
  sz := 2
  pos := by decide
  rep i cs s := ∃ v0 : Value, cs = [v0, .int .i64 s.p] /\ SL i v0 s.b
  len h := by obtain ⟨v0, rfl, h0⟩ := h; rfl
  mono hm h := by obtain ⟨v0, e, h0⟩ := h; exact ⟨v0, e, h0.mono hm⟩
  one h := by obtain ⟨v0, rfl, h0⟩ := h; simp [zCy, h0.one]
theorem zA5 {i : Imm} {cs : List Value} {s : zQ} (h : Rp.rep i cs s) : ∃ v0 : Value, cs = [v0, .int .i64 s.p] /\ SL i v0 s.b := h
theorem yZ {i : Imm} {cs : List Value} {s : zQ} (h : ∃ v0 : Value, cs = [v0, .int .i64 s.p] /\ SL i v0 s.b) : Rp.rep i cs s := h
theorem yC {i : Imm} {cs : List Value} {s : zQ} (h : Rp.rep i cs s) : ∃ (p0 : Option Addr) (c0 : Nat), cs = [vS p0 s.b c0, .int .i64 s.p] /\ SL i (vS p0 s.b c0) s.b := by
  obtain ⟨v0, e, h0⟩ := zA5 h
  obtain ⟨p0, c0, rfl⟩ := h0.form
  exact ⟨p0, c0, e, h0⟩
instance : Vr zQ := ⟨fun i v a => ∃ cs, v = .agg ⟨cs⟩ /\ Rp.rep i cs a, fun hl ⟨cs, e, h⟩ => ⟨cs, e, Rp.mono hl h⟩⟩
structure qF where
  nest : List zF
  steps : Int
  out : List (List Int)
instance : Rp qF where
  sz := 3
  pos := by decide
  rep i cs s := ∃ v0 v1 : Value, cs = [v0, .int .i64 s.steps, v1] /\ SL i v0 s.nest /\ SL i v1 s.out
  len h := by obtain ⟨v0, v1, rfl, h0, h1⟩ := h; rfl
  mono hm h := by obtain ⟨v0, v1, e, h0, h1⟩ := h; exact ⟨v0, v1, e, h0.mono hm, h1.mono hm⟩
  one h := by obtain ⟨v0, v1, rfl, h0, h1⟩ := h; simp [zCy, h0.one, h1.one]
instance : Vr qF := ⟨fun i v a => ∃ cs, v = .agg ⟨cs⟩ /\ Rp.rep i cs a, fun hl ⟨cs, e, h⟩ => ⟨cs, e, Rp.mono hl h⟩⟩
end Go.LN
namespace Go.LN
theorem iM {α : Type} [Rp α] {i j : Imm} (h : i.le j) {l : List α} {cs : List Value} (hr : RL i cs l) : RL j cs l := RepL.mono (fun _ _ => Rp.mono h) hr
def stB : List HA -> Nat -> List Value -> (List HA -> Option (List HA)) -> Option (List HA)
  | .blk b _ :: t, 0, c', k => k (.blk b ⟨c'⟩ :: t)
  | h :: t, j+1, c', k => stB t j c' fun r => k (h :: r)
  | _, _, _, _ => none
theorem zM3 : ∀ {hs : List HA} {j : Nat} {b : Nat} {c : Array Value} {c' : List Value} {k : List HA -> Option (List HA)}, hs[j]? = some (.blk b c) -> stB hs j c' k = k (hs.set j (.blk b ⟨c'⟩))
  | [], _, _, _, _, _, h => by simp at h
  | A :: t, 0, b, c, c', k, h => by
    simp only [er, Option.some.injEq] at h
    subst h; rfl
  | A :: t, j+1, b, c, c', k, h => by
    simp only [et] at h
    rw [stB, zM3 h, en]
class Mo (X : Prop) (i j : Imm) (Y : outParam Prop) : Prop where
  mo : i.le j -> X -> Y
instance {α : Type} [Rp α] {v : Value} {l : List α} {i j : Imm} : Mo (SL i v l) i j (SL j v l) := ⟨fun h x => x.mono h⟩
instance {α : Type} [Rp α] {cs : List Value} {l : List α} {i j : Imm} : Mo (RL i cs l) i j (RL j cs l) := ⟨fun h x => iM h x⟩
instance {ad : Addr} {cs : List Value} {i j : Imm} : Mo (At i ad cs) i j (At j ad cs) := ⟨fun h x => At.mono h x⟩
instance {α : Type} [Rp α] {v : Value} {o : Option α} {i j : Imm} : Mo (FP i v o) i j (FP j v o) := ⟨fun h x => FP.mono x h⟩
instance {α β : Type} [Vr α] [Vr β] {P : Program} {aB : List HA} {v : Value} {φ : α -> Option β} {i j : Imm} : Mo (FV1 P i aB v φ) i j (FV1 P j aB v φ) := ⟨fun h x => FV1.mono h x⟩
instance {α β γ : Type} [Vr α] [Vr β] [Vr γ] {P : Program} {aB : List HA} {v : Value} {φ : α -> β -> Option γ} {i j : Imm} : Mo (FV2 P i aB v φ) i j (FV2 P j aB v φ) := ⟨fun h x => FV2.mono h x⟩
instance {P : Program} {i j : Imm} : Mo (GH P i) i j (GH P j) := ⟨fun h x => GH.mono h x⟩
instance {i0 i j : Imm} : Mo (i0.le i) i j (i0.le j) := ⟨fun h x => x.trans h⟩
theorem m2 {i j : Imm} {A B A' B' : Prop} (h : i.le j) (a : A) (b : B) [Mo A i j A'] [Mo B i j B'] : A' /\ B' := ⟨Mo.mo h a, Mo.mo h b⟩
theorem m3 {i j : Imm} {A B C A' B' C' : Prop} (h : i.le j) (a : A) (b : B) (c : C) [Mo A i j A'] [Mo B i j B'] [Mo C i j C'] : A' /\ B' /\ C' := ⟨Mo.mo h a, Mo.mo h b, Mo.mo h c⟩
theorem m4 {i j : Imm} {A B C D A' B' C' D' : Prop} (h : i.le j) (a : A) (b : B) (c : C) (d : D) [Mo A i j A'] [Mo B i j B'] [Mo C i j C'] [Mo D i j D'] : A' /\ B' /\ C' /\ D' := ⟨Mo.mo h a, Mo.mo h b, Mo.mo h c, Mo.mo h d⟩
theorem m5 {i j : Imm} {A B C D E A' B' C' D' E' : Prop} (h : i.le j) (a : A) (b : B) (c : C) (d : D) (e : E) [Mo A i j A'] [Mo B i j B'] [Mo C i j C'] [Mo D i j D'] [Mo E i j E'] : A' /\ B' /\ C' /\ D' /\ E' := ⟨Mo.mo h a, Mo.mo h b, Mo.mo h c, Mo.mo h d, Mo.mo h e⟩
theorem m6 {i j : Imm} {A B C D E F A' B' C' D' E' F' : Prop} (h : i.le j) (a : A) (b : B) (c : C) (d : D) (e : E) (f : F) [Mo A i j A'] [Mo B i j B'] [Mo C i j C'] [Mo D i j D'] [Mo E i j E'] [Mo F i j F'] : A' /\ B' /\ C' /\ D' /\ E' /\ F' := ⟨Mo.mo h a, Mo.mo h b, Mo.mo h c, Mo.mo h d, Mo.mo h e, Mo.mo h f⟩
abbrev K1 {α : Type} (o : α) (I : Imm) (hs : List HA) (m : α -> FM) : Imm -> List HA -> FM -> Prop := fun I' af m' => ∃ t : α, o = t /\ I.le I' /\ af = hs /\ m' = m t
section
variable {P : Program} {n : Nat} {B : Base} {ae : List Oper} {Q : Exit -> Act -> World -> Prop} {pc : Nat} {imm : Imm} {hs : List HA} {m : FM} {d : Nat}
  {ty : TypeId} {pos : String} {after : Array Edge} {g : Option (Nat × Bool)}
theorem xE {f : FuncId} {x : Operand} {xs : Array Operand} {ts : Array TypeId} {vs : List Value} {post : Nat -> Imm -> List HA -> Value -> Prop}
    (hc : Ret P f vs imm [] post)
    (next : ∀ am af v k, imm.le am -> B.w0.heap.size<=k -> post k am af v -> (∀ b∈af.flatMap HA.fp, b∈([] : List HA).flatMap HA.fp∨B.w0.heap.size<=b) -> R P n B ae Q (pc+1) am (af++hs) ((d, v) :: m))
    (ho : ae[pc]? = some ⟨some d, .call { callee := .value x, args := xs, argTypes := ts }, ty, pos, after, g⟩ := by rfl) (hg : guardB ae m g = some true := by rfl) (hn : Nat.blt d n = true := by rfl) (hx : val m x = some (.func (.func f) #[] #[]) := by rfl) (hf : callable P f = true := by kernel_rfl)
    (hvs : vals m xs.toList = some vs := by rfl) : R P n B ae Q pc imm hs m :=
  zGe (hs1 := []) (rest := hs) ho hg hn hx hf hvs rfl hc next
theorem zQV {f : FuncId} {x : Operand} {xs : Array Operand} {ts : Array TypeId} {vs : List Value} (hs1 rest : List HA) {post : Nat -> Imm -> List HA -> Value -> Prop}
    (hc : Ret P f vs imm hs1 post)
    (next : ∀ am af v k, imm.le am -> B.w0.heap.size<=k -> post k am af v -> (∀ b∈af.flatMap HA.fp, b∈hs1.flatMap HA.fp∨B.w0.heap.size<=b) -> R P n B ae Q (pc+1) am (af++rest) ((d, v) :: m))
    (ho : ae[pc]? = some ⟨some d, .call { callee := .value x, args := xs, argTypes := ts }, ty, pos, after, g⟩ := by rfl) (hg : guardB ae m g = some true := by rfl) (hn : Nat.blt d n = true := by rfl) (hx : val m x = some (.func (.func f) #[] #[]) := by rfl) (hf : callable P f = true := by kernel_rfl)
    (hvs : vals m xs.toList = some vs := by rfl) (hh : hs = hs1++rest := by rfl) : R P n B ae Q pc imm hs m :=
  zGe (hs1 := hs1) (rest := rest) ho hg hn hx hf hvs hh hc next
theorem zAp (m' : FM) (h : R P n B ae Q pc imm hs m') (hk : keep m (m'.map (·.1)) = some m' := by kernel_rfl) : R P n B ae Q pc imm hs m := zBZ (zC2 hk) h
theorem uV (cs : List Value) (α : Type) [Rp α] {t len : Nat} {parts : Array (Nat × Operand)} {ps : List (Nat × Value)}
    (next : ∀ b, B.w0.heap.size<=b -> R P n B ae Q (pc+1) imm (.osl (.slice (some ⟨b, 0, none⟩) len len) (Rp.sz α) cs :: hs) ((d, .slice (some ⟨b, 0, none⟩) len len) :: m))
    (ho : ae[pc]? = some ⟨some d, .buildSlice t len parts, ty, pos, after, g⟩ := by rfl) (hg : guardB ae m g = some true := by rfl) (hn : Nat.blt d n = true := by rfl) (hps : pvals m parts.toList = some ps := by rfl) (hc : elemZ P t len ps = some ⟨cs⟩ := by kernel_rfl) (hl : Nat.beq cs.length (len*Rp.sz α) = true := by kernel_rfl)
    (hlM : Nat.ble len 9223372036854775807 = true := by rfl) : R P n B ae Q pc imm hs m :=
  zKD (cs := cs) (Rp.sz α) ho hg hn hps hc hl next hlM
theorem xU (c : List Value) {t : TypeId}
    (next : ∀ b, B.w0.heap.size<=b -> R P n B ae Q (pc+1) imm (.blk b ⟨c⟩ :: hs) ((d, .pointer (some ⟨b, 0, none⟩)) :: m))
    (ho : ae[pc]? = some ⟨some d, .alloc t, ty, pos, after, g⟩ := by rfl) (hg : guardB ae m g = some true := by rfl) (hn : Nat.blt d n = true := by rfl) (hz : zeroC P t = some ⟨c⟩ := by kernel_rfl) : R P n B ae Q pc imm hs m :=
  zOn (c := ⟨c⟩) ho hg hn hz next
theorem vJ (c : List Value) {t : TypeId} {x : Operand} {v : Value}
    (next : ∀ b, B.w0.heap.size<=b -> R P n B ae Q (pc+1) imm (.blk b ⟨c⟩ :: hs) ((d, .pointer (some ⟨b, 0, none⟩)) :: m))
    (ho : ae[pc]? = some ⟨some d, .box t x, ty, pos, after, g⟩ := by rfl) (hg : guardB ae m g = some true := by rfl) (hn : Nat.blt d n = true := by rfl) (hx : val m x = some v := by rfl) (hc : v.cells = ⟨c⟩ := by rfl) : R P n B ae Q pc imm hs m :=
  zQF (c := ⟨c⟩) ho hg hn hx hc next
theorem I_h {its : List It} {gs : List (List HA)} {N : Nat} {l : List (Nat × Bool)} {ops' : List Oper} {pc : Nat} (m2 : FM) (h : R P n B ops' Q pc imm hs m2)
    (hi : (insM ae its l m).bind (fun m1 => keep m1 (m2.map (·.1))) = some m2 := by kernel_rfl) : Ins ae (factsOf N its gs) imm l m hs fun m' af => R P n B ops' Q pc imm af m' := by
  obtain ⟨m1, h1, h2⟩ := Option.bind_eq_some_iff.1 hi
  refine zFo (fun j it hj => ?_) h1 (zBZ (zC2 h2) h)
  have aD := (ci.1 hj).1
  unfold factsOf
  rw [cS, fg (by rw [de]; exact aD), dr, hj]
  rfl
theorem xD {ops' : List Oper} {pc d0 : Nat} {φi : Fact} {imm1 : Imm} {v : Value} (bH : imm1.le imm) (h0 : ops'.drop pc = [] := by rfl) (hd : look m d0 = some v := by rfl) (hφ : φi imm v [] := by exact ⟨rfl, rfl⟩) : R P n B ops' (OutQ n B φi (some d0) imm1 hs) pc imm hs m :=
  zFl (hx := []) h0 bH rfl (fun _ e => by cases e; exact hd) hφ
theorem yI {f : FuncId} {fn : Func} {args : List Value} {post : Nat -> Imm -> List HA -> Value -> Prop} (hf : P.funcs[f]? = some fn) (h : ∀ B : Base, J P fn.ntmps B (bodyOf fn) (QB P fn B post) imm hs (argm 0 args))
    (hb : fn.body = some (bodyOf fn) := by rfl) (hn : Nat.ble args.length fn.ntmps = true := by rfl) : Ret P f args imm hs post := zN7 hf hb hn fun B _ _ => h B
theorem yL (hx : List HA) {ops' : List Oper} {pc d0 : Nat} {φi : Fact} {imm1 : Imm} {hs0 : List HA} {v : Value} (bH : imm1.le imm) (hφ : φi imm v hx) (h0 : ops'.drop pc = [] := by rfl) (hh : hs = hx++hs0 := by rfl) (hd : look m d0 = some v := by rfl) : R P n B ops' (OutQ n B φi (some d0) imm1 hs0) pc imm hs m :=
  zFl (hx := hx) h0 bH hh (fun _ e => by cases e; exact hd) hφ
theorem yB {id : Nat} {ae : List Oper} {y : Code} (h : R P n B ae (Exit.then (y.wp P Q) Q) 0 imm hs m) : J P n B ((Code.region id ae.toArray false).seq y) Q imm hs m := yA (zM h)
theorem zZ {x y : Code} (h : J P n B x (Exit.then (y.wp P Q) Q) imm hs m) : T n B (Exit.then ((x.seq y).wp P Q) Q) .normal imm hs m := zK (yA h)
theorem yW {id : Nat} {ae : List Oper} {y : Code} (h : R P n B ae (Exit.then (y.wp P Q) Q) 0 imm hs m) : T n B (Exit.then (((Code.region id ae.toArray false).seq y).wp P Q) Q) .normal imm hs m := zK (yB h)
theorem wT {id : Nat} {ae : List Oper} {y : Code} (new : FM) (hR : T n B (Exit.then (y.wp P Q) Q) .normal imm hs (new++m)) (h : runD P n ae hs 0 ae.length [] (new.map (·.1)) m = some (new, [].map (blkAt hs)) := by kernel_rfl) : J P n B ((Code.region id ae.toArray false).seq y) Q imm hs m := yB (wR [] new hR h)
theorem zD7 {id : Nat} {ae : List Oper} {y : Code} (new : FM) (hR : T n B (Exit.then (y.wp P Q) Q) .normal imm hs (new++m)) (h : runD P n ae hs 0 ae.length [] (new.map (·.1)) m = some (new, [].map (blkAt hs)) := by kernel_rfl) : T n B (Exit.then (((Code.region id ae.toArray false).seq y).wp P Q) Q) .normal imm hs m := zK (wT new hR h)
theorem vV {fn : Func} {post : Nat -> Imm -> List HA -> Value -> Prop} {v : Value} (h1 : ResV P m hs fn.results.toList [v] := by exact .tmp rfl ResV.nil) (h2 : post B.w0.heap.size imm [] (tupV [v]) := by exact ⟨_, rfl, rfl, rfl⟩) : T n B (QB P fn B post) .ret imm hs m := fO ⟨_, _, h1, zP, h2⟩
theorem dP {f : FuncId} {x : Operand} {xs : Array Operand} {ts : Array TypeId} {vs : List Value} {r : Int}
    (hc : Ret P f vs imm [] fun _ _ af v => ∃ v0, af = [] /\ v = tupV [v0] /\ v0 = .int .i64 r)
    (next : ∀ am, imm.le am -> R P n B ae Q (pc+1) am hs ((d, vI r) :: m))
    (ho : ae[pc]? = some ⟨some d, .call { callee := .value x, args := xs, argTypes := ts }, ty, pos, after, g⟩ := by rfl) (hg : guardB ae m g = some true := by rfl) (hn : Nat.blt d n = true := by rfl) (hx : val m x = some (.func (.func f) #[] #[]) := by rfl) (hf : callable P f = true := by kernel_rfl)
    (hvs : vals m xs.toList = some vs := by rfl) : R P n B ae Q pc imm hs m :=
  xE hc (fun am af v k h1 _ h3 _ => by obtain ⟨v0, rfl, rfl, rfl⟩ := h3; exact next am h1) ho hg hn hx hf hvs
theorem tH {f : FuncId} {x : Operand} {xs : Array Operand} {ts : Array TypeId} {vs : List Value} {r : Bool}
    (hc : Ret P f vs imm [] fun _ _ af v => ∃ v0, af = [] /\ v = tupV [v0] /\ v0 = .bool r)
    (next : ∀ am, imm.le am -> R P n B ae Q (pc+1) am hs ((d, .bool r) :: m))
    (ho : ae[pc]? = some ⟨some d, .call { callee := .value x, args := xs, argTypes := ts }, ty, pos, after, g⟩ := by rfl) (hg : guardB ae m g = some true := by rfl) (hn : Nat.blt d n = true := by rfl) (hx : val m x = some (.func (.func f) #[] #[]) := by rfl) (hf : callable P f = true := by kernel_rfl)
    (hvs : vals m xs.toList = some vs := by rfl) : R P n B ae Q pc imm hs m :=
  xE hc (fun am af v k h1 _ h3 _ => by obtain ⟨v0, rfl, rfl, rfl⟩ := h3; exact next am h1) ho hg hn hx hf hvs
theorem wP {id : Nat} {K1 K2 : Act -> World -> Prop} (h : T n B Q (.exit id) imm hs m) : J P n B (.exit id) (Exit.then K1 (Exit.then K2 Q)) imm hs m := zEu (gQ (gQ h))
theorem xF (h : T n B Q .ret imm hs m) : T n B (Exit.then ((Code.ret).wp P Q) Q) .normal imm hs m := zK (xA h)
theorem wI {id : Nat} {c : Code} (h : J P n B c (Exit.inBlock id Q) imm hs m) : T n B (Exit.then ((Code.block id c).wp P Q) Q) .normal imm hs m := zK (yF h)
theorem zY (is : List Nat) {af : List HA} (h : pick hs is = some af := by rfl) (hn : is.Nodup := by decide) : ∀ w, Good B imm hs w -> Good B imm af w := zW is h hn
theorem yY {t : TypeId} {x y : Operand} {b o : Nat} {c : Array Value} {v : Value} {af : List HA} (j : Nat) (c' : List Value) (hq : stB hs j c' some = some af) (next : R P n B ae Q (pc+1) imm af m) (ho : ae[pc]? = some ⟨none, .store t x y, ty, pos, after, g⟩ := by rfl) (hj : hs[j]? = some (.blk b c) := by rfl) (hx : val m x = some (.pointer (some ⟨b, o, none⟩)) := by rfl) (hy : val m y = some v := by rfl) (hg : guardB ae m g = some true := by kernel_rfl) (bM : sizeT P t = some v.cells.size := by kernel_rfl) (bN : Nat.ble (o+v.cells.size) c.size = true := by kernel_rfl) (bW : v.cells.toList.all Value.oneCell' = true := by kernel_rfl) (hc : wr c o v.cells.toList = ⟨c'⟩ := by kernel_rfl) : R P n B ae Q pc imm hs m :=
  dE j c' af ho hj hx hy next hg bM bN bW hc (by rw [zM3 hj] at hq; exact Option.some.inj hq)
end
theorem bE {α β : Type} {o : Option α} {f : α -> Option β} {r : β} {G : Prop} (h : (o >>= f) = some r) (k : ∀ x, o = some x -> f x = some r -> G) : G := by
  obtain ⟨x, h1, h2⟩ := zB h
  exact k x h1 h2
theorem ct {α : Type} {o t : α} {P1 : Prop} {P2 P3 : α -> Prop} (hM : (pure t : Option α) = some o) (H : P1) (h2 : P2 t := by rfl) (h3 : P3 t := by rfl) : ∃ t', o = t' /\ P1 /\ P2 t' /\ P3 t' := ⟨t, (zD hM).symm, H, h2, h3⟩
abbrev NG (Q : Exit -> Act -> World -> Prop) : Prop := ∀ gl a w, ¬ Q (.goto gl) a w
abbrev NO (Q : Exit -> Act -> World -> Prop) : Prop := ∀ a w, ¬ Q .outgrown a w
abbrev cStmt (x : zL) (p0 : Option Addr) (c0 : Nat) (p1 : Option Addr) (c1 : Nat) (p2 : Option Addr) (c2 : Nat) (p3 : Option Addr) (c3 : Nat) : List Value := [vT x.Write.Array.l, vS p0 x.Write.Subs c0, vI x.Value.Kind, vI x.Value.Num, vS p1 x.Value.Index.Coefs c1, vI x.Value.Index.Const, vT x.Value.Read.Array.l, vS p2 x.Value.Read.Subs c2, vS p3 x.Value.Kids c3]
abbrev cExpr (x : zH) (p0 : Option Addr) (c0 : Nat) (p1 : Option Addr) (c1 : Nat) (p2 : Option Addr) (c2 : Nat) : List Value := [vI x.Kind, vI x.Num, vS p0 x.Index.Coefs c0, vI x.Index.Const, vT x.Read.Array.l, vS p1 x.Read.Subs c1, vS p2 x.Kids c2]
abbrev cAccess (x : zG) (p0 : Option Addr) (c0 : Nat) : List Value := [vT x.Array.l, vS p0 x.Subs c0]
abbrev cAff (x : zA) (p0 : Option Addr) (c0 : Nat) : List Value := [vS p0 x.Coefs c0, vI x.Const]
abbrev cLoop (x : zF) (p0 : Option Addr) (c0 : Nat) (p1 : Option Addr) (c1 : Nat) : List Value := [vS p0 x.Lo c0, vS p1 x.Hi c1]
abbrev cPart (x : zI) (p0 : Option Addr) (c0 : Nat) (p1 : Option Addr) (c1 : Nat) : List Value := [vS p0 x.Nest c0, vS p1 x.Body c1]
abbrev cProg (x : zC) (p0 : Option Addr) (c0 : Nat) (p1 : Option Addr) (c1 : Nat) : List Value := [vS p0 x.Arrays c0, vS p1 x.Parts c1]
abbrev cArr (x : zE) (p0 : Option Addr) (c0 : Nat) : List Value := [vT x.Name.l, vS p0 x.Dims c0]
abbrev cRd (x : zQ) (p0 : Option Addr) (c0 : Nat) : List Value := [vS p0 x.b c0, vI x.p]
abbrev cInst (x : zN) (p0 : Option Addr) (c0 : Nat) : List Value := [vI x.Part, vI x.Stmt, vS p0 x.Point c0]
abbrev zExpr : List Value := [vI 0, vI 0, .slice none 0 0, vI 0, vT ([]), .slice none 0 0, .slice none 0 0]
abbrev zTwo : List Value := [.slice none 0 0, .slice none 0 0]
abbrev z0 : Value := .slice none 0 0
abbrev vF : Value := .bool false
abbrev vY : Value := .bool true
abbrev KT := Nat -> Imm -> List HA -> Value -> Prop
theorem iS (i : Imm) : i.le i := Imm.le.refl i
theorem iR {i : Imm} : i.le i := Imm.le.refl i
abbrev S4 {α : Type} [Rp α] (imm : Imm) (p : Option Addr) (l : List α) (c : Nat) : Prop := SL imm (vS p l c) l
end Go.LN
namespace Go.LN
theorem zGn : ∀ {ks : List Nat} {m m' : FM}, keep m ks = some m' -> m'.map (·.1) = ks
  | [], m, m', h => by simp only [keep] at h; cases h; rfl
  | k :: ks, m, m', h => by
    simp only [keep] at h
    split at h
    · rename_i v m1 h1 h2; cases h; rw [cz, zGn h2]
    · cases h
theorem zE0 {P : Program} {n : Nat} {ae : List Oper} {hs : List HA} {pc k : Nat} {js ks : List Nat} {m new : FM} {bs : List Nat} (h : runD P n ae hs pc k js ks m = some (new, bs)) : new.map (·.1) = ks := by
  unfold runD at h
  split at h
  · split at h
    · rename_i hk; cases h; exact zGn hk
    · cases h
  · cases h
section
variable {P : Program} {n : Nat} {B : Base} {ae : List Oper} {Q : Exit -> Act -> World -> Prop} {pc : Nat} {imm : Imm} {hs : List HA} {m new : FM} {d : Nat}
theorem yE (pc' : Nat) (js ks : List Nat) (h : runD P n ae hs pc (pc' - pc) js ks m = some (new, js.map (blkAt hs))) (hR : R P n B ae Q pc' imm hs (new++m))
    (hl : Nat.beq (pc+((ae.drop pc).take (pc' - pc)).length) pc' = true := by kernel_rfl) : R P n B ae Q pc imm hs m := tL pc' js new hR (by rw [zE0 h]; exact h) hl
theorem yK (js ks : List Nat) (h : runD P n ae hs pc ae.length js ks m = some (new, js.map (blkAt hs))) (hR : T n B Q .normal imm hs (new++m)) : R P n B ae Q pc imm hs m := wR js new hR (by rw [zE0 h]; exact h)
theorem zAl (pc' : Nat) (js ks : List Nat) (h : runD P n ae hs pc (pc' - pc) js ks m = some (new, js.map (blkAt hs))) (hR : Rq P n B ae Q pc' imm hs (new++m))
    (hl : Nat.beq (pc+((ae.drop pc).take (pc' - pc)).length) pc' = true := by kernel_rfl) : Rq P n B ae Q pc imm hs m := zQT pc' js new hR (by rw [zE0 h]; exact h) hl
theorem zKK (js ks : List Nat) (h : runD P n ae hs pc ae.length js ks m = some (new, js.map (blkAt hs))) (hR : T n B Q .normal imm hs (new++m)) : Rq P n B ae Q pc imm hs m := zLw js new hR (by rw [zE0 h]; exact h)
theorem yH {id : Nat} {ae : List Oper} {y : Code} (ks : List Nat) (h : runD P n ae hs 0 ae.length [] ks m = some (new, [])) (hR : T n B (Exit.then (y.wp P Q) Q) .normal imm hs (new++m)) : J P n B ((Code.region id ae.toArray false).seq y) Q imm hs m := yB (yK [] ks h hR)
theorem vW {id : Nat} {ae : List Oper} {y : Code} (ks : List Nat) (h : runD P n ae hs 0 ae.length [] ks m = some (new, [])) (hR : T n B (Exit.then (y.wp P Q) Q) .normal imm hs (new++m)) : T n B (Exit.then (((Code.region id ae.toArray false).seq y).wp P Q) Q) .normal imm hs m := zK (yH ks h hR)
theorem yU {e : Exit} {m' : FM} (h : T n B Q e imm hs m') (hk : keep m (m'.map (·.1)) = some m' := by kernel_rfl) : T n B Q e imm hs m := T_w m' h hk
theorem oT {c : Code} {m' : FM} (h : J P n B c Q imm hs m') (hk : keep m (m'.map (·.1)) = some m' := by kernel_rfl) : J P n B c Q imm hs m := qR m' h hk
theorem yX {its : List It} {gs : List (List HA)} {N : Nat} {l : List (Nat × Bool)} {ops' : List Oper} {m2 : FM} (ks : List Nat)
    (hi : (insM ae its l m).bind (fun m1 => keep m1 ks) = some m2) (h : R P n B ops' Q pc imm hs m2) : Ins ae (factsOf N its gs) imm l m hs fun m' af => R P n B ops' Q pc imm af m' :=
  I_h m2 h (by
    obtain ⟨m1, h1, h2⟩ := Option.bind_eq_some_iff.1 hi
    rw [zGn h2]; exact hi)
theorem wL (qs : List Nat) {c : Bool} {α : Type} {X Y : Option α} {r : α} (hM : (if c = true then X else Y) = some r) (ht : c = true -> X = some r -> R P n B ae Q pc imm hs (qs.map (fun q => (q, Value.bool true))++m))
    (hf : c = false -> Y = some r -> R P n B ae Q pc imm hs (qs.map (fun q => (q, Value.bool false))++m)) (hq : keep m qs = some (qs.map fun q => (q, Value.bool c)) := by kernel_rfl) : R P n B ae Q pc imm hs m := by
  cases c with
  | true => exact zOs (fun a f => zIQ hq (fun _ _ _ h => h) a f) (ht rfl hM)
  | false => exact zOs (fun a f => zIQ hq (fun _ _ _ h => h) a f) (hf rfl hM)
theorem zIU (qs : List Nat) {c : Bool} {α : Type} {X Y : Option α} {r : α} (hM : (if c = true then X else Y) = some r) (ht : c = true -> X = some r -> Rq P n B ae Q pc imm hs (qs.map (fun q => (q, Value.bool true))++m))
    (hf : c = false -> Y = some r -> Rq P n B ae Q pc imm hs (qs.map (fun q => (q, Value.bool false))++m)) (hq : keep m qs = some (qs.map fun q => (q, Value.bool c)) := by kernel_rfl) : Rq P n B ae Q pc imm hs m := by
  cases c with
  | true => exact zM0 (fun a f => zIQ hq (fun _ _ _ h => h) a f) (ht rfl hM)
  | false => exact zM0 (fun a f => zIQ hq (fun _ _ _ h => h) a f) (hf rfl hM)
theorem zQW (α : Type) [Rp α] (h : RL imm [] ([] : List α) -> R P n B ae Q pc imm (hO α (.slice none 0 0) [] :: hs) m) : R P n B ae Q pc imm hs m := tX (fN (Rp.sz α)) (h RepL.nil)
theorem zA6 (α : Type) [Rp α] {c : Code} (h : RL imm [] ([] : List α) -> J P n B c Q imm (hO α (.slice none 0 0) [] :: hs) m) : J P n B c Q imm hs m := pU (fN (Rp.sz α)) (h RepL.nil)
theorem mG {α : Type} [Rp α] {cs : List Value} {l : List α} (hr : RL imm cs l) {t len : Nat} {parts : Array (Nat × Operand)} {ps : List (Nat × Value)} {ty : TypeId} {pos : String} {after : Array Edge} {g : Option (Nat × Bool)}
    (next : ∀ b am, imm.le am -> SL am (.slice (some ⟨b, 0, none⟩) len len) l -> R P n B ae Q (pc+1) am hs ((d, .slice (some ⟨b, 0, none⟩) len len) :: m))
    (ho : ae[pc]? = some ⟨some d, .buildSlice t len parts, ty, pos, after, g⟩ := by rfl) (hg : guardB ae m g = some true := by rfl) (hn : Nat.blt d n = true := by rfl) (hps : pvals m parts.toList = some ps := by rfl) (hc : elemZ P t len ps = some ⟨cs⟩ := by kernel_rfl) (hl : Nat.beq cs.length (len*Rp.sz α) = true := by kernel_rfl)
    (hlM : Nat.ble len 9223372036854775807 = true := by rfl) : R P n B ae Q pc imm hs m :=
  uV cs α (fun b _ => xX 0 rfl fun am bH hl0 => next b am bH (SL.of_frozen hl0 bH hr)) ho hg hn hps hc hl hlM
theorem rW {f : FuncId} {x : Operand} {xs : Array Operand} {ts : Array TypeId} {vs : List Value} {hs1 rest : List HA} {post : Nat -> Imm -> List HA -> Value -> Prop} {ty : TypeId} {pos : String} {after : Array Edge} {g : Option (Nat × Bool)}
    (hc : Ret P f vs imm hs1 post) (hh : hs = hs1++rest)
    (next : ∀ am af v k, imm.le am -> B.w0.heap.size<=k -> post k am af v -> (∀ b∈af.flatMap HA.fp, b∈hs1.flatMap HA.fp∨B.w0.heap.size<=b) -> R P n B ae Q (pc+1) am (af++rest) ((d, v) :: m))
    (ho : ae[pc]? = some ⟨some d, .call { callee := .value x, args := xs, argTypes := ts }, ty, pos, after, g⟩ := by rfl) (hg : guardB ae m g = some true := by rfl) (hn : Nat.blt d n = true := by rfl) (hx : val m x = some (.func (.func f) #[] #[]) := by rfl) (hf : callable P f = true := by kernel_rfl)
    (hvs : vals m xs.toList = some vs := by rfl) : R P n B ae Q pc imm hs m := zQV hs1 rest hc next ho hg hn hx hf hvs hh
theorem wZ {α γ : Type} {x : Option α} {f : α -> Option γ} {r : γ} {c : Code} (hM : (x >>= f) = some r) (hs0 : List HA) (mf : α -> FM)
    (h : ∀ o, x = some o -> J P n B c (Exit.then (fun a w => ∃ am af m', K1 o imm hs0 mf am af m' /\ Fr n a m' /\ Good B am af w) Q) imm hs m)
    (k : ∀ t am, imm.le am -> f t = some r -> T n B Q .normal am hs0 (mf t)) : J P n B c Q imm hs m := by
  obtain ⟨o, h1, h2⟩ := zB hM
  refine oW (K1 o imm hs0 mf) (h o h1) ?_
  rintro am _ _ ⟨t, rfl, bH, rfl, rfl⟩
  exact k _ am bH h2
end
theorem rN {α : Type} [Rp α] {i : Imm} : RL i [] ([] : List α) := RepL.nil
theorem rc {α : Type} [Rp α] {i : Imm} {c1 c2 : List Value} {l : List α} (a : α) (h : Rp.rep i c1 a) (t : RL i c2 l) : RL i (c1++c2) (a :: l) := ⟨c1, c2, rfl, Rp.len h, h, t⟩
theorem rI {i : Imm} : ∀ (l : List Int), RL i (l.map vI) l
  | [] => RepL.nil
  | a :: l => ⟨[vI a], l.map vI, rfl, rfl, rfl, rI l⟩
theorem rT {i : Imm} : ∀ (l : List Str), RL i (l.map fun s => vT s.l) l
  | [] => RepL.nil
  | a :: l => ⟨[vT a.l], l.map fun s => vT s.l, rfl, rfl, rfl, rT l⟩
end Go.LN
namespace Go.LN
section
variable {P : Program} {n : Nat} {B : Base} {Q : Exit -> Act -> World -> Prop} {imm : Imm} {hs : List HA} {m : FM} {ae : List Oper} {pc d : Nat} {ty : TypeId} {pos : String} {after : Array Edge} {g : Option (Nat × Bool)}
theorem zPY {α β : Type} [Vr α] [Vr β] {x y : Operand} {ts : Array TypeId} {v va : Value} {a : α} {r : β} {φ : α -> Option β}
    (ho : ae[pc]? = some ⟨some d, .call { callee := .value x, args := #[y], argTypes := ts }, ty, pos, after, g⟩) (hy : val m y = some va) (hF : FV1 P imm [] v φ) (hr : φ a = some r) (ha : Vr.rep imm va a)
    (next : ∀ am u, imm.le am -> Vr.rep am u r -> R P n B ae Q (pc+1) am hs ((d, u) :: m)) (hx : val m x = some v := by kernel_rfl) (hg : guardB ae m g = some true := by kernel_rfl) (hn : Nat.blt d n = true := by kernel_rfl) : R P n B ae Q pc imm hs m :=
  zJq (rest := hs) ho hy hF hr ha rfl next hx hg hn
end
theorem Ret.fz {P : Program} {f : FuncId} {args : List Value} {imm : Imm} {hs : List HA} {post post' : Nat -> Imm -> List HA -> Value -> Prop} (h : Ret P f args imm hs post) (hp : ∀ k i h v, post k i h v -> ∃ A r, h = A :: r /\ A.plain = true /\ ∀ i', i.le i' -> Lent i' A -> post' k i' r v) : Ret P f args imm hs post' :=
  fun w g => (h w g).mono fun e w' he => by
    cases e with
    | returned v =>
      obtain ⟨i, af, h1, h2⟩ := he
      obtain ⟨A, r, rfl, pl, h3⟩ := hp _ _ _ _ h1
      obtain ⟨i', le, hL, hg⟩ := Good.freeze h2 pl
      exact ⟨i', r, h3 i' le hL, hg⟩
    | panicked c => exact he
    | outgrown => exact he
end Go.LN
namespace Go.LN
section
variable {P : Program} {n : Nat} {B : Base} {ae : List Oper} {Q : Exit -> Act -> World -> Prop} {pc : Nat} {imm : Imm} {hs : List HA} {m : FM} {d : Nat}
theorem resT {t : Nat} {v : Value} (h : look m t = some v) : ResV P m hs [.tmp t] [v] := .tmp h .nil
theorem resU {t t' : Nat} {v v' : Value} (h : look m t = some v) (h' : look m t' = some v') : ResV P m hs [.tmp t, .tmp t'] [v, v'] := .tmp h (.tmp h' .nil)
theorem resC {t : Nat} {ty : TypeId} {v : Value} {b : Nat} {c : Array Value} (j : Nat) (hj : hs[j]? = some (.blk b c)) (h : look m t = some (.pointer (some ⟨b, 0, none⟩))) (hv : loadV P ty c.toList = some v := by kernel_rfl) : ResV P m hs [.cell t ty] [v] := .cell j hj h hv .nil
theorem resE {t t' : Nat} {ty : TypeId} {v v' : Value} {b : Nat} {c : Array Value} (j : Nat) (hj : hs[j]? = some (.blk b c)) (h : look m t = some (.pointer (some ⟨b, 0, none⟩))) (h' : look m t' = some v') (hv : loadV P ty c.toList = some v := by kernel_rfl) : ResV P m hs [.cell t ty, .tmp t'] [v, v'] := .cell j hj h hv (.tmp h' .nil)
theorem zJO {fn : Func} {post : Nat -> Imm -> List HA -> Value -> Prop} {vs : List Value} {hs0 : List HA} (h1 : ResV P m hs fn.results.toList vs) (h2 : ∀ w, Good B imm hs w -> Good B imm hs0 w) (h3 : post B.w0.heap.size imm hs0 (tupV vs)) : T n B (QB P fn B post) .ret imm hs m := fO ⟨_, _, h1, h2, h3⟩
theorem xO {α : Type} {a r : α} {fn : Func} {post : α -> Nat -> Imm -> List HA -> Value -> Prop} {vs : List Value} {hs0 : List HA} (hM : (pure a : Option α) = some r) (h1 : ResV P m hs fn.results.toList vs) (h2 : ∀ w, Good B imm hs w -> Good B imm hs0 w) (h3 : post a B.w0.heap.size imm hs0 (tupV vs)) : T n B (QB P fn B (post r)) .ret imm hs m := by
  obtain rfl := zD hM
  exact fO ⟨_, _, h1, h2, h3⟩
theorem nG (h : ∀ gl a w, Q (.goto gl) a w -> False := by exact fun _ _ _ h => h) : NG Q := h
theorem nO (h : ∀ a w, Q .outgrown a w -> False := by exact fun _ _ h => h) : NO Q := h
theorem O2 {φ : List Fact} {hsC : List HA} {i : Nat} {v v1 : Value} {js js1 : List Nat} {r : List It} {l l1 : List (Nat × Bool)} {ins : List (List (Nat × Bool))} (h : ObX P n B ae φ imm hsC m (i+1+1) r ins) : ObX P n B ae φ imm hsC m i (.p v js :: .p v1 js1 :: r) (l :: l1 :: ins) := h
theorem O3 {φ : List Fact} {hsC : List HA} {i : Nat} {v v1 v2 : Value} {js js1 js2 : List Nat} {r : List It} {l l1 l2 : List (Nat × Bool)} {ins : List (List (Nat × Bool))} (h : ObX P n B ae φ imm hsC m (i+1+1+1) r ins) : ObX P n B ae φ imm hsC m i (.p v js :: .p v1 js1 :: .p v2 js2 :: r) (l :: l1 :: l2 :: ins) := h
theorem O4 {φ : List Fact} {hsC : List HA} {i : Nat} {v v1 v2 v3 : Value} {js js1 js2 js3 : List Nat} {r : List It} {l l1 l2 l3 : List (Nat × Bool)} {ins : List (List (Nat × Bool))} (h : ObX P n B ae φ imm hsC m (i+1+1+1+1) r ins) : ObX P n B ae φ imm hsC m i (.p v js :: .p v1 js1 :: .p v2 js2 :: .p v3 js3 :: r) (l :: l1 :: l2 :: l3 :: ins) := h
theorem vE {α : Type} {p : Option Addr} {c : Nat} {l l' : List α} (h : l'.length = l.length) : vS p l c = vS p l' c := by simp only [vS, h]
theorem zKu {α : Type} [Rp α] {t : TypeId} {x z : Operand} {ty : TypeId} {pos : String} {after : Array Edge} {g : Option (Nat × Bool)} {v0 : Value} {i : Int} {ad : Addr} {cs cc c : List Value} {v : Value} {l l' : List α} {y x' : α} (j o : Nat) (al : AtO v0 (Rp.sz α) i.toNat ad) (bG : (cs.drop (i.toNat*Rp.sz α)).take (Rp.sz α) = cc) (hr : RepL (Rp.rep imm) (Rp.sz α) cs l) (hy : idx l i = some y) (hl : (pure (l.set i.toNat x') : Option (List α)) = some l') (hx' : Rp.rep imm c x')
    (next : ∀ cs', RepL (Rp.rep imm) (Rp.sz α) cs' l' -> l'.length = l.length -> R P n B ae Q (pc+1) imm (hs.set j (.osl v0 (Rp.sz α) cs')) m)
    (ho : ae[pc]? = some ⟨none, .store t x z, ty, pos, after, g⟩ := by rfl) (hg : guardB ae m g = some true := by rfl) (hj : hs[j]? = some (.osl v0 (Rp.sz α) cs) := by rfl) (hx : val m x = some (.pointer (some (ad.add o))) := by rfl) (hz : val m z = some v := by rfl)
    (bM : sizeT P t = some v.cells.size := by kernel_rfl) (bN : Nat.ble (o+v.cells.size) (Rp.sz α) = true := by kernel_rfl) (bW : v.cells.toList.all Value.oneCell' = true := by kernel_rfl) (hc : cc.take o++v.cells.toList++cc.drop (o+v.cells.size) = c := by rfl) : R P n B ae Q pc imm hs m := by
  obtain rfl := zD hl
  exact fA j o ho hg hj al hx hz bG bM bN bW hr hy hc hx' next
end
end Go.LN
namespace Go.LN
theorem rA {x : Int} (h0 : -9223372036854775808<=x) (h1 : x<=9223372036854775807) : W x = x := by
  show IntKind.i64.wrap x = x
  rw [IntKind.wrap_i64]; omega
theorem zCz {α : Type} (l : List α) (k : Nat) : idx l (k : Int) = l[k]? := by
  unfold idx
  simp
theorem zIV {k : Nat} (h : k<9223372036854775807) : W ((k : Int)+1) = ((k+1 : Nat) : Int) := by
  rw [rA (by omega) (by omega)]; omega
end Go.LN
namespace Go.LN
structure Raw2 where
  a : Value
  b : Value
instance : Rp Raw2 where
  sz := 2
  pos := by decide
  rep _ cs r := cs = [r.a, r.b] /\ r.a.oneCell' = true /\ r.b.oneCell' = true
  len h := by obtain ⟨rfl, _⟩ := h; rfl
  mono _ h := h
  one h := by obtain ⟨rfl, h1, h2⟩ := h; simp [h1, h2]
def flat : List Raw2 -> List Value
  | [] => []
  | r :: l => r.a :: r.b :: flat l
theorem zBy : ∀ (a b : List Raw2), flat (a++b) = flat a++flat b
  | [], _ => rfl
  | r :: a, b => by simp [flat, zBy a b]
theorem fR {imm : Imm} : ∀ {l : List Raw2} {cs : List Value}, RL imm cs l -> cs = flat l
  | [], cs, h => h
  | r :: l, cs, ⟨c1, c2, h1, _, h3, h4⟩ => by
    obtain ⟨rfl, _⟩ := h3
    rw [h1, fR h4]; rfl
def LP (imm : Imm) (ak : List Raw2) (parts : List zI) (vN : Value) (nl : List zF) (vB : Value) (bl : List zL) : Prop :=
  parts.length<=140737488355328 /\ ak.length = parts.length /\
    ((parts = [] /\ ak = []) ∨ ∃ rl l, parts = l++[⟨nl, bl⟩] /\ ak = rl++[⟨vN, vB⟩] /\ RepL (Rp.rep imm) (Rp.sz zI) (flat rl) l)
theorem LP.mono {i j : Imm} (hl : i.le j) {ak : List Raw2} {parts : List zI} {vN vB : Value} {nl : List zF} {bl : List zL} (h : LP i ak parts vN nl vB bl) : LP j ak parts vN nl vB bl := by
  obtain ⟨h1, h2, h3⟩ := h
  refine ⟨h1, h2, h3.imp id ?_⟩
  rintro ⟨rl, l, k1, k2, k3⟩
  exact ⟨rl, l, k1, k2, RepL.mono (fun _ _ => Rp.mono hl) k3⟩
structure L4 (imm : Imm) (cs : List Value) (arr : List zE) (av : List Value) (ak : List Raw2) (parts : List zI) (vN : Value) (nl : List zF) (vB : Value) (bl : List zL) (csN csB : List Value) : Prop where
  arr : RL imm cs arr
  raw : RL imm av ak
  lp : LP imm ak parts vN nl vB bl
  n : RL imm csN nl
  b : RL imm csB bl
theorem L4.mono {i j : Imm} (hl : i.le j) {cs : List Value} {arr : List zE} {av : List Value} {ak : List Raw2} {parts : List zI} {vN vB : Value} {nl : List zF} {bl : List zL} {csN csB : List Value}
    (h : L4 i cs arr av ak parts vN nl vB bl csN csB) : L4 j cs arr av ak parts vN nl vB bl csN csB :=
  ⟨RepL.mono (fun _ _ => Rp.mono hl) h.arr, RepL.mono (fun _ _ => Rp.mono hl) h.raw, h.lp.mono hl, RepL.mono (fun _ _ => Rp.mono hl) h.n, RepL.mono (fun _ _ => Rp.mono hl) h.b⟩
theorem LP.len {imm : Imm} {ak : List Raw2} {parts : List zI} {vN vB : Value} {nl : List zF} {bl : List zL} (h : LP imm ak parts vN nl vB bl) : (parts.length : Int) = (ak.length : Int) := by rw [h.2.1]
theorem LP.last {imm : Imm} {ak : List Raw2} {parts : List zI} {vN vB : Value} {nl : List zF} {bl : List zL} (h : LP imm ak parts vN nl vB bl) {x : zI} (hx : idx parts (W ((ak.length : Int) - 1)) = some x) :
    x = ⟨nl, bl⟩ /\ idx ak (W ((ak.length : Int) - 1)) = some ⟨vN, vB⟩ /\
      ∀ vN' nl' vB' bl', LP imm (ak.set (W ((ak.length : Int) - 1)).toNat ⟨vN', vB'⟩) (parts.set (W ((ak.length : Int) - 1)).toNat ⟨nl', bl'⟩) vN' nl' vB' bl' := by
  obtain ⟨h1, h2, h3⟩ := h
  have hW : W ((ak.length : Int) - 1) = (ak.length : Int) - 1 := rA (by omega) (by omega)
  rw [hW] at hx ⊢
  rcases h3 with ⟨rfl, rfl⟩ | ⟨rl, l, rfl, rfl, h4⟩
  · simp [idx] at hx
  · have hl : l.length = rl.length := by simpa using h2.symm
    have e : (((rl++[(⟨vN, vB⟩ : Raw2)]).length : Int) - 1).toNat = rl.length := by simp
    have e0 : (0 : Int)<=((rl++[(⟨vN, vB⟩ : Raw2)]).length : Int) - 1 := by simp
    unfold idx at hx ⊢
    rw [if_pos e0, e] at hx ⊢
    rw [<- hl] at hx
    refine ⟨by simpa using hx.symm, by simp, fun vN' nl' vB' bl' => ⟨?_, ?_, .inr ⟨rl, l, ?_, ?_, h4⟩⟩⟩
    · simpa using h1
    · simpa using h2
    · rw [<- hl]; simp
    · simp
theorem LP.part {imm : Imm} {ak : List Raw2} {parts : List zI} {vN vB : Value} {nl : List zF} {bl : List zL} (h : LP imm ak parts vN nl vB bl) (hN : SL imm vN nl) (hB : SL imm vB bl) {l1 : List zI}
    (ha : app 48 parts [(⟨[], []⟩ : zI)] = some l1) : LP imm (ak++[⟨.slice none 0 0, .slice none 0 0⟩]) l1 (.slice none 0 0) [] (.slice none 0 0) [] := by
  obtain ⟨hb, rfl⟩ := zAy ha
  obtain ⟨h1, h2, h3⟩ := h
  refine ⟨?_, ?_, .inr ⟨ak, parts, rfl, rfl, ?_⟩⟩
  · simp at hb ⊢; omega
  · simp [h2]
  · rcases h3 with ⟨rfl, rfl⟩ | ⟨rl, l, rfl, rfl, h4⟩
    · rfl
    · rw [zBy]
      exact h4.append (.single rfl (uL ⟨_, _, rfl, hN, hB⟩))
theorem zFq {α β : Type} {b : Nat} {l : List α} {m : List α} {l' : List β} {m' : List β} {y : List α} (h : app b l m = some y) (h1 : l'.length = l.length) (h2 : m'.length = m.length) : app b l' m' = some (l'++m') := by
  obtain ⟨k, _⟩ := zAy h
  unfold app
  rw [h1, h2, if_pos k]
theorem LP.done {imm : Imm} {ak : List Raw2} {parts : List zI} {vN vB : Value} {nl : List zF} {bl : List zL} (h : LP imm ak parts vN nl vB bl) (hN : SL imm vN nl) (hB : SL imm vB bl) : RepL (Rp.rep imm) (Rp.sz zI) (flat ak) parts := by
  obtain ⟨h1, h2, h3⟩ := h
  rcases h3 with ⟨rfl, rfl⟩ | ⟨rl, l, rfl, rfl, h4⟩
  · rfl
  · rw [zBy]
    exact h4.append (.single rfl (uL ⟨_, _, rfl, hN, hB⟩))
section
variable {P : Program} {n : Nat} {B : Base} {Q : Exit -> Act -> World -> Prop} {imm : Imm} {hs : List HA} {m : FM} {ae : List Oper} {pc d : Nat} {ty : TypeId} {pos : String} {after : Array Edge} {g : Option (Nat × Bool)}
theorem zPZ {t : TypeId} {x y : Operand} {b o : Nat} {c : Array Value} {v : Value} (j : Nat) (c' : List Value) (af : List HA) (ho : ae[pc]? = some ⟨none, .store t x y, ty, pos, after, g⟩) (hj : hs[j]? = some (.blk b c)) (hx : val m x = some (.pointer (some ⟨b, o, none⟩))) (hy : val m y = some v) (bW : v.cells.toList.all Value.oneCell' = true) (next : R P n B ae Q (pc+1) imm af m) (hg : guardB ae m g = some true := by kernel_rfl) (bM : sizeT P t = some v.cells.size := by kernel_rfl) (bN : Nat.ble (o+v.cells.size) c.size = true := by kernel_rfl) (hc : wr c o v.cells.toList = ⟨c'⟩ := by kernel_rfl) (hh : hs.set j (.blk b ⟨c'⟩) = af := by rfl) : R P n B ae Q pc imm hs m :=
  zHU j ho hg hj hx hy bM bN bW hc hh next
end
end Go.LN
namespace Go.LN
open Go.RowKit
theorem Good.below {imm : Imm} {w w' : World} (h : Good ⟨w, imm, []⟩ imm [] w) (b : Below w.heap.size w w') (hd : w.drawn<=w'.drawn) : Good ⟨w, imm, []⟩ imm [] w' := by
  refine ⟨fun k c e => ?_, by simp, by simp, ⟨b.os, b.tape, b.output, b.size, fun k hk _ => b.block k hk, fun _ _ _ => rfl, hd⟩⟩
  obtain ⟨ty, fr, e'⟩ := h.inv k c e
  exact ⟨ty, fr, (b.block k (h.lt_imm e)).trans e'⟩
theorem Good.cell {B : Base} {imm : Imm} {hs : List HA} {w : World} (h : Good B imm hs w) {g : Nat} {v : Value} (e : imm g = some #[v]) : w.cell? ⟨g, 0, none⟩ = some v := by
  obtain ⟨ty, fr, e'⟩ := h.inv _ _ e
  simp only [World.cell?, e']
  simp
theorem zMz {P : Program} {f : FuncId} {args : List Value} {imm : Imm} {v : Value} {post : Nat -> Imm -> List HA -> Value -> Prop}
    (h : ∀ w, Good ⟨w, imm, []⟩ imm [] w -> Calls P f args.toArray w fun e w' => e = .returned v /\ Below w.heap.size w w' /\ w.drawn<=w'.drawn) (hp : ∀ k, post k imm [] v) : Ret P f args imm [] post := fun w g =>
  (h w g).mono fun e w' ⟨he, hb, hd⟩ => by
    subst he
    exact ⟨imm, [], hp _, g.below hb hd⟩
theorem At.of_blk {imm : Imm} {b : Nat} {cs : List Value} (h : imm b = some ⟨cs⟩) : At imm ⟨b, 0, none⟩ cs := ⟨b, 0, _, rfl, h, by simp, by simp⟩
section
variable {P : Program} {n : Nat} {B : Base} {ae : List Oper} {Q : Exit -> Act -> World -> Prop} {pc : Nat} {imm : Imm} {hs : List HA} {m : FM} {d : Nat}
  {ty : TypeId} {pos : String} {after : Array Edge} {g : Option (Nat × Bool)}
end
end Go.LN
namespace Go.LN
section
variable {P : Program} {n : Nat} {B : Base} {Q : Exit -> Act -> World -> Prop} {imm : Imm} {hs : List HA} {m : FM} {ae : List Oper} {pc d : Nat} {ty : TypeId} {pos : String} {after : Array Edge} {g : Option (Nat × Bool)}
theorem zKL {t e : TypeId} {w : World} {p : Option Addr} {l c : Nat} (hu : P.underlying t = some (.slice e)) : (Op.equal t (.slice p l c) (.slice none 0 0)).run P w = .ok p.isNone w := by
  have h : ∀ d, (Op.equalIn (d+1) t (.slice p l c) (.slice none 0 0)).run P w = .ok p.isNone w := fun d => by
    rw [Op.equalIn]
    cases p <;> simp [xT hu]
  exact h 9999
def sliceT (P : Program) (t : TypeId) : Bool := match P.underlying t with | some (.slice _) => true | _ => false
theorem zQN {t t2 : TypeId} {x : Operand} {p : Option Addr} {l c : Nat} (b : Bool) (ho : ae[pc]? = some ⟨some d, .binOp .eql t x (.const (.slice none 0 0)) t2, ty, pos, after, g⟩) (hb : p.isNone = b)
    (next : R P n B ae Q (pc+1) imm hs ((d, .bool b) :: m)) (hx : val m x = some (.slice p l c)) (hg : guardB ae m g = some true := by kernel_rfl) (hn : Nat.blt d n = true := by kernel_rfl) (ht : sliceT P t = true := by kernel_rfl) : R P n B ae Q pc imm hs m := by
  unfold sliceT at ht
  split at ht
  · rename_i e hu
    refine eH ho hg rfl hn fun a w f gd => ⟨.bool b, w, imm, hs, ?_, gd, next⟩
    have hy : a.eval (.const (.slice none 0 0)) = .slice none 0 0 := rfl
    simp [execOp, f.eval hx, hy, eqGuard, binOp, zKL hu, hb]
  · cases ht
end
end Go.LN
