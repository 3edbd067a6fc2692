/- What an operation that touches no memory yields, reckoned off the list of slots; that it does so in the model. -/
import Derived.Test.YtaedjkaagcbkdaaGreatLnA
import Derived.Laws.Strings
namespace Go.LN
set_option linter.unusedVariables false
set_option linter.unusedSimpArgs false
def ibin (op : BinOp) (k : IntKind) (x y : Int) : Option Value :=
  match op with
  | .add => some (.int k (k.wrap (x + y)))
  | .sub => some (.int k (k.wrap (x - y)))
  | .mul => some (.int k (k.wrap (x * y)))
  | .eql => some (.bool (x == y))
  | .neq => some (.bool (x != y))
  | .lss => some (.bool (decide (x < y)))
  | .leq => some (.bool (decide (x ≤ y)))
  | .gtr => some (.bool (decide (x > y)))
  | .geq => some (.bool (decide (x ≥ y)))
  | .quo => if y = 0 then none else some (.int k (k.wrap (x.tdiv y)))
  | .rem => if y = 0 then none else some (.int k (x.tmod y))
  | .xor => some (.int k (k.wrap (BitVec.ofInt k.bits x ^^^ BitVec.ofInt k.bits y).toNat))
  | .and => some (.int k (k.wrap (BitVec.ofInt k.bits x &&& BitVec.ofInt k.bits y).toNat))
  | _ => none
def sbin (op : BinOp) (x y : ByteArray) : Option Value :=
  match op with
  | .eql => some (.bool (x.data.toList == y.data.toList))
  | .neq => some (.bool !(x.data.toList == y.data.toList))
  | .lss => some (.bool (Op.bytesLess x.data.toList y.data.toList))
  | .leq => some (.bool (Op.bytesLess x.data.toList y.data.toList || x.data.toList == y.data.toList))
  | .gtr => some (.bool !(Op.bytesLess x.data.toList y.data.toList || x.data.toList == y.data.toList))
  | .geq => some (.bool !(Op.bytesLess x.data.toList y.data.toList))
  | _ => none
theorem zAm (x : ByteArray) : ∀ (k i : Nat) (r : List UInt8), x.size - i = k → ByteArray.toList.loop x i r = r.reverse ++ x.data.toList.drop i := by
  intro k
  induction k with
  | zero =>
    intro i r h
    rw [ByteArray.toList.loop]
    have : ¬ i < x.size := by omega
    have hle : x.data.toList.length ≤ i := by rw [Array.length_toList]; exact Nat.le_of_not_lt this
    rw [if_neg this, List.drop_eq_nil_iff.2 hle]
    simp
  | succ k ih =>
    intro i r h
    rw [ByteArray.toList.loop]
    have hi : i < x.size := by omega
    have hlt : i < x.data.toList.length := by rw [Array.length_toList]; exact hi
    rw [if_pos hi, ih (i + 1) _ (by omega), List.drop_eq_getElem_cons hlt]
    have hg : x.get! i = x.data.toList[i] := by
      have hd : i < x.data.size := hi
      simp only [ByteArray.get!]
      rw [getElem!_pos x.data i hd, Array.getElem_toList]
    rw [hg]
    simp
theorem zET (x : ByteArray) : x.toList = x.data.toList := by
  have := zAm x x.size 0 [] (by omega)
  simpa [ByteArray.toList] using this
def fieldOff (P : Program) (s : TypeId) (f : Nat) : Option Nat :=
  match P.underlying s with
  | some (.struct fs) => match fs[f]? with
    | some fd => match P.info? fd.type with
      | some i => if i.size = 0 then none else some fd.offset
      | none => none
    | none => none
  | _ => none
def isAggT (P : Program) (t : TypeId) : Option Bool :=
  match P.underlying t with
  | some (.struct _) | some (.array _ _) => some true
  | some _ => some false
  | none => none
def sizeT (P : Program) (t : TypeId) : Option Nat := (P.info? t).map (·.size)
def partV (P : Program) (t : TypeId) (cs : Array Value) (off : Nat) : Option Value :=
  match isAggT P t, sizeT P t with
  | some true, some s => some (.agg (cs.extract off (off + s)))
  | some false, some _ => cs[off]?
  | _, _ => none
def bltin (P : Program) (b : Builtin) (ts : Array TypeId) (vs : List Value) : Option Value :=
  match b, ts[0]?, vs with
  | .len, some t, [.slice _ n _] => match P.underlying t with | some (.slice _) => some (goInt n) | _ => none
  | .len, some t, [.string s] => match P.underlying t with | some .string => some (goInt s.size) | _ => none
  | .max, some _, [.int k x, .int _ y] => some (.int k (if y > x then y else x))
  | .min, some _, [.int k x, .int _ y] => some (.int k (if y < x then y else x))
  | _, _, _ => none
def vals (m : FM) : List Operand → Option (List Value)
  | [] => some []
  | x :: xs => match val m x, vals m xs with | some v, some vs => some (v :: vs) | _, _ => none
def pvals (m : FM) : List (Nat × Operand) → Option (List (Nat × Value))
  | [] => some []
  | (i, x) :: xs => match val m x, pvals m xs with | some v, some vs => some ((i, v) :: vs) | _, _ => none
def buildV (P : Program) (t : TypeId) (parts : List (Nat × Value)) : Option Value :=
  match P.underlying t, (P.info? t).bind (·.zero) with
  | some (.struct fs), some z =>
    match fs.toList.mapM (fun f => (sizeT P f.type).map fun s => (f.offset, s)) with
    | some places => (Instr.fill (fun i => places[i]?) z.cells parts).map Value.agg
    | none => none
  | _, _ => none
def bbin (P : Program) (op : BinOp) (t : TypeId) (u v : Bool) : Option Value :=
  match P.underlying t, op with
  | some .bool, .eql => some (.bool (u == v))
  | some .bool, .neq => some (.bool (!(u == v)))
  | _, _ => none
def nbin (P : Program) (op : BinOp) (t : TypeId) (y : Operand) : Option Value :=
  match P.underlying t, op, y with
  | some (.interface _), .neq, .const _ => some (.bool false)
  | some (.interface _), .eql, .const _ => some (.bool true)
  | _, _, _ => none
def ebin (P : Program) (op : BinOp) (t : TypeId) : Option Value :=
  match P.underlying t, op with
  | some (.interface _), .neq => some (.bool true)
  | some (.interface _), .eql => some (.bool false)
  | _, _ => none
def pure1 (P : Program) (m : FM) : Op → Option Value
  | .move x | .assign x => val m x
  | .pick c x y => match val m c with | some (.bool true) => val m x | some (.bool false) => val m y | _ => none
  | .binOp op t x y _ => match val m x, val m y with
    | some (.int k u), some (.int k' v) => if k = k' then ibin op k u v else none
    | some (.string u), some (.string v) => sbin op u v
    | some (.bool u), some (.bool v) => bbin P op t u v
    | some .nilIface, some .nilIface => nbin P op t y
    | some (.iface _ _), some .nilIface => ebin P op t
    | _, _ => none
  | .unOp .not _ x => match val m x with | some (.bool b) => some (.bool !b) | _ => none
  | .unOp .neg _ x => match val m x with | some (.int k n) => some (.int k (k.wrap (0 - n))) | _ => none
  | .convert src dst x => match P.underlying src, P.underlying dst, val m x with
    | some _, some (.int k), some (.int _ n) => some (.int k (k.wrap n))
    | _, _, _ => none
  | .nilCheck x => match val m x with | some (.pointer (some a)) => some (.pointer (some a)) | _ => none
  | .fieldAddr s x f => match val m x, fieldOff P s f with | some (.pointer (some a)), some o => some (.pointer (some (a.add o))) | _, _ => none
  | .extract x i => match val m x with | some (.tuple vs) => vs[i]? | _ => none
  | .field s x f => match val m x, P.underlying s with
    | some (.agg cs), some (.struct fs) => match fs[f]? with | some fd => partV P fd.type cs fd.offset | none => none
    | _, _ => none
  | .call { callee := .builtin b, args, argTypes } => match vals m args.toList with | some vs => bltin P b argTypes vs | none => none
  | .build t parts => match pvals m parts.toList with | some ps => buildV P t ps | none => none
  | .makeFunc (.func f) first captured => match vals m first.toList, vals m captured.toList with
    | some vs, some us => some (.func (.func f) vs.toArray us.toArray)
    | _, _ => none
  | _ => none
section
variable {P : Program} {n : Nat} {a : Act} {m : FM} {w : World}
theorem Fr.evals (h : Fr n a m) : ∀ {xs : List Operand} {vs : List Value}, vals m xs = some vs → xs.map a.eval = vs
  | [], vs, e => by simp only [vals] at e; cases e; rfl
  | x :: xs, vs, e => by
    simp only [vals] at e
    split at e
    · rename_i v vs' h1 h2; cases e; simp [h.eval h1, Fr.evals h h2]
    · cases e
theorem Fr.pevals (h : Fr n a m) : ∀ {xs : List (Nat × Operand)} {vs : List (Nat × Value)}, pvals m xs = some vs → xs.map (fun (i, x) => (i, a.eval x)) = vs
  | [], vs, e => by simp only [pvals] at e; cases e; rfl
  | (i, x) :: xs, vs, e => by
    simp only [pvals] at e
    split at e
    · rename_i v vs' h1 h2; cases e
      have := Fr.pevals h h2
      simp [h.eval h1, this]
    · cases e
theorem xE {t : TypeId} {d : TypeDesc} (h : P.underlying t = some d) : (underlying t).run P w = .ok d w := by
  simp [underlying, program, bind, Sem.bind, Sem.run, h, pure]
theorem qJ {t : TypeId} {s : Nat} (h : sizeT P t = some s) : (sizeOf t).run P w = .ok s w := by
  unfold sizeT at h
  cases hi : P.info? t with
  | none => rw [hi] at h; cases h
  | some i =>
    rw [hi] at h; cases h
    simp [sizeOf, typeInfo, program, bind, Sem.bind, Sem.run, hi, pure]
theorem dM {t : TypeId} {b : Bool} (h : isAggT P t = some b) : (isAgg t).run P w = .ok b w := by
  unfold isAggT at h
  cases hu : P.underlying t with
  | none => rw [hu] at h; cases h
  | some d =>
    rw [hu] at h
    unfold isAgg
    rw [Sem.run_bind, xE hu]
    cases d <;> simp_all
theorem zG1 {t : TypeId} {cs : Array Value} {off : Nat} {v : Value} (h : partV P t cs off = some v) : (part t cs off).run P w = .ok v w := by
  unfold partV at h
  split at h
  · rename_i s h1 h2
    cases h
    simp [part, dM h1, qJ h2]
  · rename_i s h1 h2
    simp [part, dM h1, h]
  · cases h
theorem zEh {s f o : Nat} {ad : Addr} (h : fieldOff P s f = some o) : (Instr.fieldAt s (.pointer (some ad)) f).run P w = .ok (.pointer (some (ad.add o))) w := by
  unfold fieldOff at h
  split at h
  · rename_i fs hu
    split at h
    · rename_i fd hf
      split at h
      · rename_i i hi
        split at h
        · cases h
        · rename_i hz
          cases h
          have hs : sizeT P fd.type = some i.size := by simp [sizeT, hi]
          simp [Instr.fieldAt, xE hu, hf, Instr.sureAddr, fieldPlace, qJ hs, hz]
      · cases h
    · cases h
  · cases h
theorem eA {t : TypeId} {a b : Bool} {w : World} (hu : P.underlying t = some .bool) : (Op.equal t (.bool a) (.bool b)).run P w = .ok (a == b) w := by
  have h : ∀ d, (Op.equalIn (d + 1) t (.bool a) (.bool b)).run P w = .ok (a == b) w := fun d => by
    rw [Op.equalIn]; simp [xE hu]
  exact h 9999
theorem zAL {t : TypeId} {ms : Array (String × TypeId)} {w : World} (hu : P.underlying t = some (.interface ms)) : (Op.equal t .nilIface .nilIface).run P w = .ok true w := by
  have h : ∀ d, (Op.equalIn (d + 1) t .nilIface .nilIface).run P w = .ok true w := fun d => by
    rw [Op.equalIn]; simp [xE hu]
  exact h 9999
theorem zAM {t : TypeId} {ms : Array (String × TypeId)} {tx : TypeId} {v : Value} {w : World} (hu : P.underlying t = some (.interface ms)) : (Op.equal t (.iface tx v) .nilIface).run P w = .ok false w := by
  have h : ∀ d, (Op.equalIn (d + 1) t (.iface tx v) .nilIface).run P w = .ok false w := fun d => by
    rw [Op.equalIn]; simp [xE hu]
  exact h 9999
theorem zFz {b : Builtin} {ts : Array TypeId} {vs : List Value} {v : Value} {ty : TypeId} {cn : Array Bool} (h : bltin P b ts vs = some v) : (builtin b ts ty cn vs.toArray).run P w = .ok (.value v) w := by
  unfold bltin at h
  split at h
  · rename_i hx
    split at h
    · rename_i hu; cases h
      simp [builtin, Builtin.len_, hx, xE hu]
    · cases h
  · rename_i hx
    split at h
    · rename_i hu; cases h
      simp [builtin, Builtin.len_, hx, xE hu]
    · cases h
  · cases h
    simp [builtin, Builtin.max_, Builtin.max2]
  · cases h
    simp [builtin, Builtin.min_, Builtin.min2]
  · cases h
theorem zEi {f : Field → Option (Nat × Nat)} {g : Field → Sem (Nat × Nat)} (hfg : ∀ x y, f x = some y → ∀ w, (g x).run P w = .ok y w) :
    ∀ {l : List Field} {ps : List (Nat × Nat)}, l.mapM f = some ps → ∀ w, (l.mapM g).run P w = .ok ps w
  | [], ps, h, w => by simp at h; subst h; simp
  | x :: l, ps, h, w => by
    rw [List.mapM_cons] at h ⊢
    cases hx : f x with
    | none => rw [hx] at h; cases h
    | some y =>
      rw [hx] at h
      cases hl : l.mapM f with
      | none => rw [hl] at h; cases h
      | some ys =>
        rw [hl] at h
        cases h
        simp [hfg x y hx w, zEi hfg hl w]
theorem zGA {t : TypeId} {parts : List (Nat × Value)} {v : Value} (h : buildV P t parts = some v) : (Instr.build t parts.toArray).run P w = .ok v w := by
  unfold buildV at h
  split at h
  · rename_i fs z hu hz
    split at h
    · rename_i places hp
      cases hi : P.info? t with
      | none => simp [hi] at hz
      | some i =>
        simp only [hi, Option.bind_some] at hz
        cases hfill : Instr.fill (fun i => places[i]?) z.cells parts with
        | none => rw [hfill] at h; cases h
        | some cells =>
          rw [hfill] at h; cases h
          have hz' : (zeroValue t).run P w = .ok z w := by simp [zeroValue, typeInfo, hi, hz]
          have hm : (fs.mapM fun f => (do pure (f.offset, ← sizeOf f.type) : Sem (Nat × Nat))).run P w = .ok places.toArray w := by
            have h2 := zEi (P := P) (f := fun f => (sizeT P f.type).map fun s => (f.offset, s)) (g := fun f => (do pure (f.offset, ← sizeOf f.type) : Sem (Nat × Nat)))
              (fun x y hxy w => by
                cases hs : sizeT P x.type with
                | none => simp [hs] at hxy
                | some s => simp [hs] at hxy; subst hxy; simp [qJ hs]) hp w
            rw [Array.mapM_eq_mapM_toList, Sem.run_map, h2]
            rfl
          simp only [Instr.build, Sem.run_bind, hz', Result.andThen_ok, xE hu, hm]
          simp [hfill]
    · cases h
  · cases h
theorem dN {o : Oper} {v : Value} (hf : Fr n a m) (h : pure1 P m o.op = some v) : (execOp a.eval o).run P w = .ok (.value v) w := by
  unfold execOp
  unfold pure1 at h
  split at h
  · rename_i x he; rw [he]; simp [hf.eval h]
  · rename_i x he; rw [he]; simp [hf.eval h]
  · rename_i c x y he; rw [he]
    split at h
    · rename_i hc; simp [hf.eval hc, hf.eval h, asBool]
    · rename_i hc; simp [hf.eval hc, hf.eval h, asBool]
    · cases h
  · rename_i op t x y t' he; rw [he]
    split at h
    · rename_i k u k' v' hx hy
      split at h
      · rename_i hk; subst hk
        simp only [hf.eval hx, hf.eval hy]
        cases op <;> simp only [ibin] at h
        case quo =>
          split at h
          · cases h
          · rename_i h0; cases h; simp [eqGuard, binOp, Op.intDiv, h0]
        case rem =>
          split at h
          · cases h
          · rename_i h0; cases h; simp [eqGuard, binOp, Op.intDiv, h0]
        all_goals first | (cases h; simp [eqGuard, binOp, Op.intArith, Op.intCmp, Op.intBits]; done) | cases h
      · cases h
    · rename_i u v' hx hy
      simp only [hf.eval hx, hf.eval hy]
      cases op <;> simp only [sbin] at h <;> cases h <;> simp [eqGuard, binOp, Op.stringOp, zET]
    · rename_i u v' hx hy
      simp only [hf.eval hx, hf.eval hy]
      unfold bbin at h
      split at h
      · rename_i hu; cases h; simp [eqGuard, binOp, eA hu]
      · rename_i hu; cases h; simp [eqGuard, binOp, eA hu]
      · cases h
    · rename_i hx hy
      simp only [hf.eval hx, hf.eval hy]
      unfold nbin at h
      split at h
      · rename_i hu; cases h; simp [eqGuard, binOp, zAL hu]
      · rename_i hu; cases h; simp [eqGuard, binOp, zAL hu]
      · cases h
    · rename_i hx hy
      simp only [hf.eval hx, hf.eval hy]
      unfold ebin at h
      split at h
      · rename_i hu; cases h; simp [eqGuard, binOp, zAM hu]
      · rename_i hu; cases h; simp [eqGuard, binOp, zAM hu]
      · cases h
    · cases h
  · rename_i x t he; rw [he]
    split at h
    · rename_i b hx; cases h; simp [hf.eval hx, Op.unary]
    · cases h
  · rename_i x t he; rw [he]
    split at h
    · rename_i b hx; cases h; simp [hf.eval hx, Op.unary, Op.intArith]
    · cases h
  · rename_i src dst x he; rw [he]
    split at h
    · rename_i d k k' n' hs hd hx; cases h
      simp only [Sem.run_bind, convert, xE hs, xE hd, Result.andThen_ok, hf.eval hx, Conv.intToInt, Sem.run_pure]
    · cases h
  · rename_i x he; rw [he]
    split at h
    · rename_i ad hx; cases h; simp [hf.eval hx]
    · cases h
  · rename_i s x f he; rw [he]
    split at h
    · rename_i ad o' hx ho; cases h
      simp [hf.eval hx, zEh ho]
    · cases h
  · rename_i x i he; rw [he]
    split at h
    · rename_i vs hx
      simp [hf.eval hx, Instr.extract, h]
    · cases h
  · rename_i s x f he; rw [he]
    split at h
    · rename_i cs fs hx hu
      split at h
      · rename_i fd hfd
        simp [hf.eval hx, Instr.field, xE hu, hfd, asAgg, zG1 h]
      · cases h
    · cases h
  · rename_i b args ts he; rw [he]
    split at h
    · rename_i vs hvs
      have hv := hf.evals hvs
      have : args.map a.eval = vs.toArray := by apply Array.ext'; rw [Array.toList_map, hv]
      simp only [resolve, this, Sem.run_bind, Sem.run_pure, Result.andThen_ok, invoke]
      exact zFz h
    · cases h
  · rename_i t parts he; rw [he]
    split at h
    · rename_i ps hps
      have hv := hf.pevals hps
      have : (parts.map fun (i, x) => (i, a.eval x)) = ps.toArray := by apply Array.ext'; rw [Array.toList_map]; exact hv
      simp only [this, Sem.run_bind, zGA h, Result.andThen_ok, Sem.run_pure]
    · cases h
  · rename_i f first captured he; rw [he]
    split at h
    · rename_i vs us h1 h2
      cases h
      have e1 : first.map a.eval = vs.toArray := by apply Array.ext'; rw [Array.toList_map, hf.evals h1]
      have e2 : captured.map a.eval = us.toArray := by apply Array.ext'; rw [Array.toList_map, hf.evals h2]
      simp [e1, e2, Instr.makeFunc]
    · cases h
  · cases h
end
end Go.LN
