/- Helper of the proof (see the last text). -/
import Derived.WalkKit
import Derived.Orders
import Derived.Below
import Derived.LoopN
import Derived.KernelRfl
import Derived.Laws.Strings
import Derived.Laws.NewBlocks
import Derived.Laws.AppendOwn
set_option linter.unusedVariables false
set_option linter.unusedSimpArgs false
namespace Go.LN
abbrev bY:=@Bool.false_eq_true
abbrev bZ:=@List.append_assoc
abbrev b9:=@List.getElem?_eq_getElem
abbrev cb:=@List.all_eq_true
abbrev cd:=@List.mem_cons_of_mem
abbrev ce:=@List.append_nil
abbrev cf:=@List.perm_append_comm
abbrev cg:=@List.flatMap_cons
abbrev ci:=@List.mem_cons_self
abbrev cj:=@List.nil_append
abbrev ck:=@List.getElem?_eq_some_iff
abbrev cm:=@List.length_nil
abbrev co:=@List.drop_zero
abbrev cq:=@Bool.true_and
abbrev cr:=@Int.natCast_zero
abbrev cu:=@Nat.zero_add
abbrev cv:=@List.length_take
abbrev cx:=@List.length_cons
abbrev cy:=@Bool.and_eq_true
abbrev cz:=@List.nodup_append
abbrev cA:=@List.map_cons
abbrev cB:=@List.mem_flatMap
abbrev cC:=@Nat.eq_of_beq_eq_true
abbrev cD:=@List.mem_range
abbrev cE:=@List.length_drop
abbrev cF:=@List.length_set
abbrev cG:=@Array.getD_eq_getD_getElem?
abbrev cH:=@Nat.le_refl
abbrev cI:=@List.mem_append_left
abbrev cJ:=@Nat.le_of_ble_eq_true
abbrev cK:=@List.length_replicate
abbrev cL:=@Bool.not_true
abbrev cM:=@List.length_map
abbrev cO:=@List.length_append
abbrev cP:=@List.mem_cons
abbrev cQ:=@List.mem_of_getElem?
abbrev cR:=@List.mem_append_right
abbrev cS:=@Array.getElem?_eq_getElem
abbrev cT:=@List.take_of_length_le
abbrev cU:=@List.drop_eq_getElem_cons
abbrev cV:=@List.all_cons
abbrev cW:=@Nat.mul_le_mul_right
abbrev cX:=@List.drop_eq_nil_iff
abbrev cY:=@List.sum_cons
abbrev cZ:=@List.drop_drop
abbrev da:=@List.flatMap_append
abbrev db:=@Array.getElem?_setIfInBounds_ne
abbrev dc:=@List.mem_singleton
abbrev dd:=@Nat.lt_or_ge
abbrev de:=@List.mem_map
abbrev df:=@Bool.not_false
abbrev dg:=@Array.toList_map
abbrev dh:=@List.getElem?_eq_none
abbrev di:=@List.findIdx?_eq_some_iff_getElem
abbrev dj:=@List.mem_append
abbrev dk:=@Nat.succ_mul
abbrev dl:=@List.getElem?_map
abbrev dm:=@Array.length_toList
abbrev dn:=@List.not_any_eq_all_not
abbrev dq:=@List.length_eq_zero_iff
abbrev dr:=@Nat.add_assoc
abbrev dt:=@List.getElem?_toArray
abbrev du:=@List.take_take
abbrev dv:=@List.mem_iff_getElem
abbrev dw:=@List.getD_eq_getElem?_getD
abbrev dx:=@Nat.le_trans
abbrev dy:=@List.map_map
abbrev dz:=@List.findIdx?_eq_none_iff
abbrev d5:=@List.extract_eq_take_drop
abbrev d6:=@List.mem_filter
abbrev d7:=@Bool.or_eq_true
abbrev d8:=@List.getElem?_take
abbrev d9:=@Nat.add_mul
abbrev ec:=@List.getElem?_cons_zero
abbrev ed:=@List.getElem?_cons_succ
abbrev ee:=@List.map_nil
abbrev ef:=@List.drop_take
abbrev eg:=@Array.getElem?_eq_none
abbrev eh:=@List.sizeOf_lt_of_mem
abbrev ei:=@List.range'_succ
abbrev ej:=@List.flatMap_nil
abbrev em:=@List.cons_append
abbrev en:=@Bool.false_or
abbrev eo:=@Array.toList_extract
abbrev ep:=@List.map_append
abbrev er:=@Nat.lt_of_lt_of_le
abbrev et:=@List.mapM_cons
abbrev eu:=@List.getElem?_drop
abbrev ev:=@List.findIdx?_cons
abbrev ew:=@List.getElem?_append_left
abbrev ex:=@Nat.zero_le
abbrev ey:=@List.flatten_cons
abbrev ez:=@List.ext_getElem?
abbrev FM:=List (Nat × Value)
abbrev vI(n : Int): Value:=.int .i64 n
abbrev vT(l : List UInt8): Value:=.string ⟨⟨l⟩⟩
abbrev vS{α : Type}(a : Option Addr)(l : List α)(c : Nat): Value:=.slice a l.length c
abbrev vA(l : List Value): Value:=.agg ⟨l⟩
abbrev vP(b o : Nat): Value:=.pointer (some ⟨b,o,none⟩)
def look : FM -> Nat -> Option Value
 | [],_=>none
 | (k,v) :: m,t=>bif Nat.beq k t then some v else look m t
theorem kT(k : Nat)(v : Value)(m : FM): look ((k,v) :: m) k = some v:=by simp[look]
theorem oJ{k t : Nat}(v : Value)(m : FM)(h : k ≠ t): look ((k,v) :: m) t = look m t:=by
 have : Nat.beq k t = false:=by cases hb : Nat.beq k t with
  | false=>rfl
  | true=>exact absurd (cC hb) h
 simp[look,this]
structure Fr(n : Nat)(a : Act)(m : FM): Prop where
 defers : a.defers = []
 size : a.tmps.size = n
 holds : ∀k v,look m k = some v -> a.tmps[k]? = some v
def sub(m : FM): FM -> Prop
 | []=>True
 | (k,v) :: m' => look m k = some v /\ sub m m'
theorem sub.look{m : FM}: ∀{m' : FM},sub m m' -> ∀{k v},LN.look m' k = some v -> LN.look m k = some v
 | [],_,_,_,h=>by simp[LN.look] at h
 | (k',v') :: m',hs,k,v,h=>by
  by_cases hk : k' = k
  ·subst hk;rw[kT] at h;cases h;exact hs.1
  ·rw[oJ _ _ hk] at h;exact hs.2.look h
theorem Fr.weaken{n : Nat}{a : Act}{m m' : FM}(h : Fr n a m)(hs : sub m m'): Fr n a m' :=
 ⟨h.defers,h.size,λ_ _ hk=>h.holds _ _ (hs.look hk)⟩
theorem Fr.put{n : Nat}{a : Act}{m : FM}(h : Fr n a m)(d : Nat)(v : Value)(hd : d<n): Fr n (a.put (some d) v) ((d,v) :: m):=by
 refine⟨h.defers,by simp[Act.put,h.size],λk u hk => ?_⟩
 by_cases e : d = k
 ·subst e;rw[kT] at hk;cases hk
  simp[Act.put,h.size,hd]
 ·rw[oJ _ _ e] at hk
  simp only[Act.put]
  rw[db e]
  exact h.holds _ _ hk
def val(m : FM): Operand -> Option Value
 | .tmp t=>look m t
 | .const v=>some v
 | .global g=>some (.pointer (some ⟨g,0,none⟩))
 | .func f=>some (.func (.func f) #[] #[])
theorem Fr.eval{n : Nat}{a : Act}{m : FM}(h : Fr n a m){x : Operand}{v : Value}(hx : val m x = some v): a.eval x = v:=by
 cases x with
 | tmp t=>
  have:=h.holds t v hx
  show a.tmps.getD t undef = v
  simp[cG,this]
 | const u=>simpa [val,Act.eval] using hx
 | global g=>simpa [val,Act.eval] using hx
 | func f=>simpa [val,Act.eval] using hx
def wpL(P : Program)(aa : Array Oper)(Q : Exit -> Act -> World -> Prop): List Oper -> Act -> World -> Prop
 | [],a,w=>Q .normal a w
 | o :: rest,a,w=>if Region.wanted o (yielded aa a.tmps) then o.wp P a w (wpL P aa Q rest) Q else wpL P aa Q rest (a.put o.dst undef) w
theorem zHX{P : Program}{aa : Array Oper}{Q : Exit -> Act -> World -> Prop}(l : List Oper):
 ∀(pc : Nat) (a : Act) (w : World),aa.toList.drop pc = l -> wpL P aa Q l a w -> wpOps P aa Q ((List.range aa.size).drop pc) a w:=by
 induction l with
 | nil=>
  intro pc a w hl h
  have hp : aa.size<=pc:=by simpa using cX.1 hl
  rw[cX.2 (by simpa using hp)]
  exact h
 | cons o rest ih=>
  intro pc a w hl h
  have hp : pc<aa.size:=by
   rcases dd pc aa.size with hp|hp
   ·exact hp
   ·rw[cX.2 (by simpa using hp)] at hl;cases hl
  have ho : aa[pc]? = some o:=by
   have : aa.toList[pc]? = some o:=by
    have h0 : (aa.toList.drop pc)[0]? = some o:=by rw[hl];rfl
    simpa using h0
   simpa using this
  have hr : aa.toList.drop (pc+1) = rest:=by
   rw[<- cZ,hl];rfl
  rw[cU (by simpa using hp)]
  simp only[List.getElem_range,wpOps,ho]
  simp only[wpL] at h
  split
  ·rename_i hw;simp only[hw,if_true] at h
   exact .inl (Oper.wp_mono (λa w hk=>ih (pc+1) a w hr hk) h)
  ·rename_i hw;simp only[hw] at h
   exact ih (pc+1) _ w hr h
theorem zGL{P : Program}{id : Nat}{aa : Array Oper}{Q : Exit -> Act -> World -> Prop}{a : Act}{w : World}
 (h : wpL P aa Q aa.toList a w) : (Code.region id aa false).wp P Q a w:=
 wp_region (by simpa using zHX aa.toList 0 a w rfl h)
theorem zBV{id : Nat}: ∀{k k' : List Item},exitTo id k = some k' -> k'.length<k.length
 | [],_,h=>by simp[exitTo] at h
 | x :: k,k',h=>by
  cases x with
  | inBlock id' =>
   simp only[exitTo] at h
   split at h
   ·cases h;simp
   ·have:=zBV h;simp;omega
  | _=>simp only[exitTo] at h;have:=zBV h;simp;omega
theorem Steps.peel{P : Program}{m m₁ m' : Machine}(h : Steps P m m')(h1 : step P m = .next m₁)(hne : m ≠ m'): Steps P m₁ m' := by
 obtain⟨n,hn⟩:=h
 cases n with
 | zero=>simp only[runN] at hn;injection hn with hn;exact absurd hn hne
 | succ n=>simp only[runN,h1] at hn;exact⟨n,hn⟩
theorem zHE{b : Frame}{a a' : Act}{k k' : List Item}{cs : List Frame}{w w' : World}(h : lone (b.at a k) cs w = lone (b.at a' k') cs w'): k = k' := by
 simp only[lone,Frame.at] at h
 injection h with h1 h2 h3
 simp at h2
 exact h2.2.1
theorem zGM{P : Program}{c : Code}{Q : Exit -> Act -> World -> Prop}{a : Act}{w : World}(hg : ∀l a w,¬ Q (.goto l) a w)(ho : ∀a w,¬ Q .outgrown a w)
 (h : c.wp P (Exit.then (λa' w' => (Code.loop c).wp P Q a' w') Q) a w) : (Code.loop c).wp P Q a w:=by
 intro b k cs
 obtain⟨e,a1,w1,hq,harr⟩:=h b (.inLoop c :: k) cs
 cases e with
 | normal=>
  obtain⟨e2,a2,w2,hq2,harr2⟩:=hq b k cs
  refine⟨e2,a2,w2,hq2,.of_steps (.head step_loop (Steps.trans harr (.one step_inLoop))) ?_⟩
  cases e2 with
  | normal=>
   refine Steps.peel harr2 step_loop (λhe => ?_)
   have:=congrArg List.length (zHE he)
   simp at this
  | exit id=>
   intro k' hk
   refine Steps.peel (harr2 k' hk) step_loop (λhe => ?_)
   have:=congrArg List.length (zHE he)
   have:=zBV hk
   simp at *
   omega
  | goto l=>exact absurd hq2 (hg _ _ _)
  | ret=>
   obtain⟨todo,hs⟩:=harr2
   refine⟨todo,Steps.peel hs step_loop (λhe => ?_)⟩
   simp[lone,Frame.at] at he
  | panic ch=>
   obtain⟨todo,hs⟩:=harr2
   refine⟨todo,Steps.peel hs step_loop (λhe => ?_)⟩
   simp[lone,Frame.at] at he
  | outgrown=>exact absurd hq2 (ho _ _)
 | exit id=>exact⟨_,a1,w1,hq,.of_steps (.one step_loop) (.pass (x:=.inLoop c) rfl (λ_ _=>.inl (by simp)) harr)⟩
 | goto l=>exact absurd hq (hg _ _ _)
 | ret=>exact⟨_,a1,w1,hq,.of_steps (.one step_loop) (.pass (x:=.inLoop c) rfl (λ_ _=>.inl (by simp)) harr)⟩
 | panic ch=>exact⟨_,a1,w1,hq,.of_steps (.one step_loop) (.pass (x:=.inLoop c) rfl (λ_ _=>.inl (by simp)) harr)⟩
 | outgrown=>exact absurd hq (ho _ _)
def ibin(op : BinOp)(k : IntKind)(x y : Int): Option Value:=
 match op with
 | .add=>some (.int k (k.wrap (x+y)))
 | .sub=>some (.int k (k.wrap (x - y)))
 | .mul=>some (.int k (k.wrap (x*y)))
 | .eql=>some (.bool (x==y))
 | .neq=>some (.bool (x != y))
 | .lss=>some (.bool (decide (x<y)))
 | .leq=>some (.bool (decide (x<=y)))
 | .gtr=>some (.bool (decide (x>y)))
 | .geq=>some (.bool (decide (x>=y)))
 | .quo=>if y = 0 then none else some (.int k (k.wrap (x.tdiv y)))
 | .rem=>if y = 0 then none else some (.int k (x.tmod y))
 | .xor=>some (.int k (k.wrap (BitVec.ofInt k.bits x ^^^ BitVec.ofInt k.bits y).toNat))
 | .and=>some (.int k (k.wrap (BitVec.ofInt k.bits x &&& BitVec.ofInt k.bits y).toNat))
 | _=>none
def sbin(op : BinOp)(x y : ByteArray): Option Value:=
 match op with
 | .eql=>some (.bool (x.data.toList==y.data.toList))
 | .neq=>some (.bool !(x.data.toList==y.data.toList))
 | .lss=>some (.bool (Op.bytesLess x.data.toList y.data.toList))
 | .leq=>some (.bool (Op.bytesLess x.data.toList y.data.toList||x.data.toList==y.data.toList))
 | .gtr=>some (.bool !(Op.bytesLess x.data.toList y.data.toList||x.data.toList==y.data.toList))
 | .geq=>some (.bool !(Op.bytesLess x.data.toList y.data.toList))
 | _=>none
theorem zE3(x : ByteArray): ∀(k i : Nat) (r : List UInt8),x.size - i = k -> ByteArray.toList.loop x i r = r.reverse++x.data.toList.drop i:=by
 intro k
 induction k with
 | zero=>
  intro i r h
  rw[ByteArray.toList.loop]
  have : ¬ i<x.size:=by omega
  have ap : x.data.toList.length<=i:=by rw[dm];exact Nat.le_of_not_lt this
  rw[if_neg this,cX.2 ap]
  simp
 | succ k ih=>
  intro i r h
  rw[ByteArray.toList.loop]
  have hi : i<x.size:=by omega
  have aH : i<x.data.toList.length:=by rw[dm];exact hi
  rw[if_pos hi,ih (i+1) _ (by omega),cU aH]
  have hg : x.get! i = x.data.toList[i]:=by
   have hd : i<x.data.size:=hi
   simp only[ByteArray.get!]
   rw[getElem!_pos x.data i hd,Array.getElem_toList]
  rw[hg]
  simp
theorem zHY(x : ByteArray): x.toList = x.data.toList:=by
 have:=zE3 x x.size 0 [] (by omega)
 simpa [ByteArray.toList] using this
def fieldOff(P : Program)(s : TypeId)(f : Nat): Option Nat:=
 match P.underlying s with
 | some (.struct fs)=>match fs[f]? with
  | some fd=>match P.info? fd.type with
   | some i=>if i.size = 0 then none else some fd.offset
   | none=>none
  | none=>none
 | _=>none
def isAggT(P : Program)(t : TypeId): Option Bool:=
 match P.underlying t with
 | some (.struct _)|some (.array _ _)=>some true
 | some _=>some false
 | none=>none
def sizeT(P : Program)(t : TypeId): Option Nat:=(P.info? t).map (·.size)
def partV(P : Program)(t : TypeId)(cs : Array Value)(off : Nat): Option Value:=
 match isAggT P t,sizeT P t with
 | some true,some s=>some (.agg (cs.extract off (off+s)))
 | some false,some _=>cs[off]?
 | _,_=>none
def bltin(P : Program)(b : Builtin)(ts : Array TypeId)(vs : List Value): Option Value:=
 match b,ts[0]?,vs with
 | .len,some t,[.slice _ n _]=>match P.underlying t with|some (.slice _)=>some (goInt n)|_=>none
 | .len,some t,[.string s]=>match P.underlying t with|some .string=>some (goInt s.size)|_=>none
 | .max,some _,[.int k x,.int _ y]=>some (.int k (if y>x then y else x))
 | .min,some _,[.int k x,.int _ y]=>some (.int k (if y<x then y else x))
 | _,_,_=>none
def vals(m : FM): List Operand -> Option (List Value)
 | []=>some []
 | x :: xs=>match val m x,vals m xs with|some v,some vs=>some (v :: vs)|_,_=>none
def pvals(m : FM): List (Nat × Operand) -> Option (List (Nat × Value))
 | []=>some []
 | (i,x) :: xs=>match val m x,pvals m xs with|some v,some vs=>some ((i,v) :: vs)|_,_=>none
def buildV(P : Program)(t : TypeId)(parts : List (Nat × Value)): Option Value:=
 match P.underlying t,(P.info? t).bind (·.zero) with
 | some (.struct fs),some z=>
  match fs.toList.mapM (λf=>(sizeT P f.type).map λs=>(f.offset,s)) with
  | some places=>(Instr.fill (λi=>places[i]?) z.cells parts).map Value.agg
  | none=>none
 | _,_=>none
def bbin(P : Program)(op : BinOp)(t : TypeId)(u v : Bool): Option Value:=
 match P.underlying t,op with
 | some .bool,.eql=>some (.bool (u==v))
 | some .bool,.neq=>some (.bool (!(u==v)))
 | _,_=>none
def nbin(P : Program)(op : BinOp)(t : TypeId)(y : Operand): Option Value:=
 match P.underlying t,op,y with
 | some (.interface _),.neq,.const _=>some (.bool false)
 | some (.interface _),.eql,.const _=>some (.bool true)
 | _,_,_=>none
def ebin(P : Program)(op : BinOp)(t : TypeId): Option Value:=
 match P.underlying t,op with
 | some (.interface _),.neq=>some (.bool true)
 | some (.interface _),.eql=>some (.bool false)
 | _,_=>none
def pure1(P : Program)(m : FM): Op -> Option Value
 | .move x|.assign x=>val m x
 | .pick c x y=>match val m c with|some (.bool true)=>val m x|some (.bool false)=>val m y|_=>none
 | .binOp op t x y _=>match val m x,val m y with
  | some (.int k u),some (.int k' v)=>if k = k' then ibin op k u v else none
  | some (.string u),some (.string v)=>sbin op u v
  | some (.bool u),some (.bool v)=>bbin P op t u v
  | some .nilIface,some .nilIface=>nbin P op t y
  | some (.iface _ _),some .nilIface=>ebin P op t
  | _,_=>none
 | .unOp .not _ x=>match val m x with|some (.bool b)=>some (.bool !b)|_=>none
 | .unOp .neg _ x=>match val m x with|some (.int k n)=>some (.int k (k.wrap (0 - n)))|_=>none
 | .convert src dst x=>match P.underlying src,P.underlying dst,val m x with
  | some _,some (.int k),some (.int _ n)=>some (.int k (k.wrap n))
  | _,_,_=>none
 | .nilCheck x=>match val m x with|some (.pointer (some a))=>some (.pointer (some a))|_=>none
 | .fieldAddr s x f=>match val m x,fieldOff P s f with|some (.pointer (some a)),some o=>some (.pointer (some (a.add o)))|_,_=>none
 | .extract x i=>match val m x with|some (.tuple vs)=>vs[i]? | _=>none
 | .field s x f=>match val m x,P.underlying s with
  | some (.agg cs),some (.struct fs)=>match fs[f]? with|some fd=>partV P fd.type cs fd.offset|none=>none
  | _,_=>none
 | .call { callee:=.builtin b,args,argTypes }=>match vals m args.toList with|some vs=>bltin P b argTypes vs|none=>none
 | .build t parts=>match pvals m parts.toList with|some ps=>buildV P t ps|none=>none
 | .makeFunc (.func f) first captured=>match vals m first.toList,vals m captured.toList with
  | some vs,some us=>some (.func (.func f) vs.toArray us.toArray)
  | _,_=>none
 | _=>none
section
variable {P : Program} {n : Nat} {a : Act} {m : FM} {w : World}
theorem Fr.evals(h : Fr n a m): ∀{xs : List Operand} {vs : List Value},vals m xs = some vs -> xs.map a.eval = vs
 | [],vs,e=>by simp only[vals] at e;cases e;rfl
 | x :: xs,vs,e=>by
  simp only[vals] at e
  split at e
  ·rename_i v vs' h1 h2;cases e;simp[h.eval h1,Fr.evals h h2]
  ·cases e
theorem Fr.pevals(h : Fr n a m): ∀{xs : List (Nat × Operand)} {vs : List (Nat × Value)},pvals m xs = some vs -> xs.map (λ(i,x)=>(i,a.eval x)) = vs
 | [],vs,e=>by simp only[pvals] at e;cases e;rfl
 | (i,x) :: xs,vs,e=>by
  simp only[pvals] at e
  split at e
  ·rename_i v vs' h1 h2;cases e
   have:=Fr.pevals h h2
   simp[h.eval h1,this]
  ·cases e
theorem xO{t : TypeId}{d : TypeDesc}(h : P.underlying t = some d): (underlying t).run P w = .ok d w:=by
 simp[underlying,program,bind,Sem.bind,Sem.run,h,pure]
theorem mB{t : TypeId}{s : Nat}(h : sizeT P t = some s): (sizeOf t).run P w = .ok s w:=by
 unfold sizeT at h
 cases hi : P.info? t with
 | none=>rw[hi] at h;cases h
 | some i=>
  rw[hi] at h;cases h
  simp[sizeOf,typeInfo,program,bind,Sem.bind,Sem.run,hi,pure]
theorem zDL{t : TypeId}{b : Bool}(h : isAggT P t = some b): (isAgg t).run P w = .ok b w:=by
 unfold isAggT at h
 cases hu : P.underlying t with
 | none=>rw[hu] at h;cases h
 | some d=>
  rw[hu] at h
  unfold isAgg
  rw[Sem.run_bind,xO hu]
  cases d <;> simp_all
theorem zJf{t : TypeId}{cs : Array Value}{off : Nat}{v : Value}(h : partV P t cs off = some v): (part t cs off).run P w = .ok v w:=by
 unfold partV at h
 split at h
 ·rename_i s h1 h2
  cases h
  simp[part,zDL h1,mB h2]
 ·rename_i s h1 h2
  simp[part,zDL h1,h]
 ·cases h
theorem zHt{s f o : Nat}{ad : Addr}(h : fieldOff P s f = some o): (Instr.fieldAt s (.pointer (some ad)) f).run P w = .ok (.pointer (some (ad.add o))) w:=by
 unfold fieldOff at h
 split at h
 ·rename_i fs hu
  split at h
  ·rename_i fd hf
   split at h
   ·rename_i i hi
    split at h
    ·cases h
    ·rename_i hz
     cases h
     have hs : sizeT P fd.type = some i.size:=by simp[sizeT,hi]
     simp[Instr.fieldAt,xO hu,hf,Instr.sureAddr,fieldPlace,mB hs,hz]
   ·cases h
  ·cases h
 ·cases h
theorem zC4{t : TypeId}{a b : Bool}{w : World}(hu : P.underlying t = some .bool): (Op.equal t (.bool a) (.bool b)).run P w = .ok (a==b) w:=by
 have h : ∀d,(Op.equalIn (d+1) t (.bool a) (.bool b)).run P w = .ok (a==b) w:=λd=>by
  rw[Op.equalIn];simp[xO hu]
 exact h 9999
theorem zD7{t : TypeId}{ms : Array (String × TypeId)}{w : World}(hu : P.underlying t = some (.interface ms)): (Op.equal t .nilIface .nilIface).run P w = .ok true w:=by
 have h : ∀d,(Op.equalIn (d+1) t .nilIface .nilIface).run P w = .ok true w:=λd=>by
  rw[Op.equalIn];simp[xO hu]
 exact h 9999
theorem zD8{t : TypeId}{ms : Array (String × TypeId)}{tx : TypeId}{v : Value}{w : World}(hu : P.underlying t = some (.interface ms)): (Op.equal t (.iface tx v) .nilIface).run P w = .ok false w:=by
 have h : ∀d,(Op.equalIn (d+1) t (.iface tx v) .nilIface).run P w = .ok false w:=λd=>by
  rw[Op.equalIn];simp[xO hu]
 exact h 9999
theorem zJV{b : Builtin}{ts : Array TypeId}{vs : List Value}{v : Value}{ty : TypeId}{cn : Array Bool}(h : bltin P b ts vs = some v): (builtin b ts ty cn vs.toArray).run P w = .ok (.value v) w:=by
 unfold bltin at h
 split at h
 ·rename_i hx
  split at h
  ·rename_i hu;cases h
   simp[builtin,Builtin.len_,hx,xO hu]
  ·cases h
 ·rename_i hx
  split at h
  ·rename_i hu;cases h
   simp[builtin,Builtin.len_,hx,xO hu]
  ·cases h
 ·cases h
  simp[builtin,Builtin.max_,Builtin.max2]
 ·cases h
  simp[builtin,Builtin.min_,Builtin.min2]
 ·cases h
theorem zHu{f : Field -> Option (Nat × Nat)}{g : Field -> Sem (Nat × Nat)}(hfg : ∀x y,f x = some y -> ∀w,(g x).run P w = .ok y w):
 ∀{l : List Field} {ps : List (Nat × Nat)},l.mapM f = some ps -> ∀w,(l.mapM g).run P w = .ok ps w
 | [],ps,h,w=>by simp at h;subst h;simp
 | x :: l,ps,h,w=>by
  rw[et] at h ⊢
  cases hx : f x with
  | none=>rw[hx] at h;cases h
  | some y=>
   rw[hx] at h
   cases hl : l.mapM f with
   | none=>rw[hl] at h;cases h
   | some ys=>
    rw[hl] at h
    cases h
    simp[hfg x y hx w,zHu hfg hl w]
theorem zJW{t : TypeId}{parts : List (Nat × Value)}{v : Value}(h : buildV P t parts = some v): (Instr.build t parts.toArray).run P w = .ok v w:=by
 unfold buildV at h
 split at h
 ·rename_i fs z hu hz
  split at h
  ·rename_i places hp
   cases hi : P.info? t with
   | none=>simp[hi] at hz
   | some i=>
    simp only[hi,Option.bind_some] at hz
    cases hfill : Instr.fill (λi=>places[i]?) z.cells parts with
    | none=>rw[hfill] at h;cases h
    | some cells=>
     rw[hfill] at h;cases h
     have hz' : (zeroValue t).run P w = .ok z w:=by simp[zeroValue,typeInfo,hi,hz]
     have hm : (fs.mapM λf=>(do pure (f.offset,<- sizeOf f.type) : Sem (Nat × Nat))).run P w = .ok places.toArray w:=by
      have h2:=zHu (P:=P) (f:=λf=>(sizeT P f.type).map λs=>(f.offset,s)) (g:=λf=>(do pure (f.offset,<- sizeOf f.type) : Sem (Nat × Nat)))
       (λx y hxy w=>by
        cases hs : sizeT P x.type with
        | none=>simp[hs] at hxy
        | some s=>simp[hs] at hxy;subst hxy;simp[mB hs]) hp w
      rw[Array.mapM_eq_mapM_toList,Sem.run_map,h2]
      rfl
     simp only[Instr.build,Sem.run_bind,hz',Result.andThen_ok,xO hu,hm]
     simp[hfill]
  ·cases h
 ·cases h
theorem zHF{o : Oper}{v : Value}(hf : Fr n a m)(h : pure1 P m o.op = some v): (execOp a.eval o).run P w = .ok (.value v) w:=by
 unfold execOp
 unfold pure1 at h
 split at h
 ·rename_i x he;rw[he];simp[hf.eval h]
 ·rename_i x he;rw[he];simp[hf.eval h]
 ·rename_i c x y he;rw[he]
  split at h
  ·rename_i hc;simp[hf.eval hc,hf.eval h,asBool]
  ·rename_i hc;simp[hf.eval hc,hf.eval h,asBool]
  ·cases h
 ·rename_i op t x y t' he;rw[he]
  split at h
  ·rename_i k u k' v' hx hy
   split at h
   ·rename_i hk;subst hk
    simp only[hf.eval hx,hf.eval hy]
    cases op <;> simp only[ibin] at h
    case quo=>
     split at h
     ·cases h
     ·rename_i h0;cases h;simp[eqGuard,binOp,Op.intDiv,h0]
    case rem=>
     split at h
     ·cases h
     ·rename_i h0;cases h;simp[eqGuard,binOp,Op.intDiv,h0]
    all_goals first|(cases h;simp[eqGuard,binOp,Op.intArith,Op.intCmp,Op.intBits];done)|cases h
   ·cases h
  ·rename_i u v' hx hy
   simp only[hf.eval hx,hf.eval hy]
   cases op <;> simp only[sbin] at h <;> cases h <;> simp[eqGuard,binOp,Op.stringOp,zHY]
  ·rename_i u v' hx hy
   simp only[hf.eval hx,hf.eval hy]
   unfold bbin at h
   split at h
   ·rename_i hu;cases h;simp[eqGuard,binOp,zC4 hu]
   ·rename_i hu;cases h;simp[eqGuard,binOp,zC4 hu]
   ·cases h
  ·rename_i hx hy
   simp only[hf.eval hx,hf.eval hy]
   unfold nbin at h
   split at h
   ·rename_i hu;cases h;simp[eqGuard,binOp,zD7 hu]
   ·rename_i hu;cases h;simp[eqGuard,binOp,zD7 hu]
   ·cases h
  ·rename_i hx hy
   simp only[hf.eval hx,hf.eval hy]
   unfold ebin at h
   split at h
   ·rename_i hu;cases h;simp[eqGuard,binOp,zD8 hu]
   ·rename_i hu;cases h;simp[eqGuard,binOp,zD8 hu]
   ·cases h
  ·cases h
 ·rename_i x t he;rw[he]
  split at h
  ·rename_i b hx;cases h;simp[hf.eval hx,Op.unary]
  ·cases h
 ·rename_i x t he;rw[he]
  split at h
  ·rename_i b hx;cases h;simp[hf.eval hx,Op.unary,Op.intArith]
  ·cases h
 ·rename_i src dst x he;rw[he]
  split at h
  ·rename_i d k k' n' hs hd hx;cases h
   simp only[Sem.run_bind,convert,xO hs,xO hd,Result.andThen_ok,hf.eval hx,Conv.intToInt,Sem.run_pure]
  ·cases h
 ·rename_i x he;rw[he]
  split at h
  ·rename_i ad hx;cases h;simp[hf.eval hx]
  ·cases h
 ·rename_i s x f he;rw[he]
  split at h
  ·rename_i ad o' hx ho;cases h
   simp[hf.eval hx,zHt ho]
  ·cases h
 ·rename_i x i he;rw[he]
  split at h
  ·rename_i vs hx
   simp[hf.eval hx,Instr.extract,h]
  ·cases h
 ·rename_i s x f he;rw[he]
  split at h
  ·rename_i cs fs hx hu
   split at h
   ·rename_i fd hfd
    simp[hf.eval hx,Instr.field,xO hu,hfd,asAgg,zJf h]
   ·cases h
  ·cases h
 ·rename_i b args ts he;rw[he]
  split at h
  ·rename_i vs hvs
   have hv:=hf.evals hvs
   have : args.map a.eval = vs.toArray:=by apply Array.ext';rw[dg,hv]
   simp only[resolve,this,Sem.run_bind,Sem.run_pure,Result.andThen_ok,invoke]
   exact zJV h
  ·cases h
 ·rename_i t parts he;rw[he]
  split at h
  ·rename_i ps hps
   have hv:=hf.pevals hps
   have : (parts.map λ(i,x)=>(i,a.eval x)) = ps.toArray:=by apply Array.ext';rw[dg];exact hv
   simp only[this,Sem.run_bind,zJW h,Result.andThen_ok,Sem.run_pure]
  ·cases h
 ·rename_i f first captured he;rw[he]
  split at h
  ·rename_i vs us h1 h2
   cases h
   have e1 : first.map a.eval = vs.toArray:=by apply Array.ext';rw[dg,hf.evals h1]
   have e2 : captured.map a.eval = us.toArray:=by apply Array.ext';rw[dg,hf.evals h2]
   simp[e1,e2,Instr.makeFunc]
  ·cases h
 ·cases h
end
abbrev Imm:=Nat -> Option (Array Value)
def Imm.le(i j : Imm): Prop := ∀b c,i b = some c -> j b = some c
theorem Imm.le.refl(i : Imm): i.le i:=λ_ _ h=>h
theorem Imm.le.trans{i j k : Imm}(h : i.le j)(h' : j.le k): i.le k:=λb c e=>h' b c (h b c e)
def Imm.add(i : Imm)(b : Nat)(c : Array Value): Imm:=λx=>if x = b then some c else i x
def Imm.del(i : Imm)(b : Nat): Imm:=λx=>if x = b then none else i x
theorem Imm.le_add{i : Imm}{b : Nat}(c : Array Value)(h : i b = none): i.le (i.add b c):=λx d e=>by
 unfold Imm.add;split
 ·rename_i hx;subst hx;rw[h] at e;cases e
 ·exact e
theorem Imm.add_self(i : Imm)(b : Nat)(c : Array Value): i.add b c b = some c:=by simp[Imm.add]
inductive HA where
 | blk (b : Nat) (c : Array Value)
 | osl (v : Value) (sz : Nat) (cs : List Value)
 | obj (b : Nat) (o : Obj)
def HA.plain : HA -> Bool
 | .obj .. => false
 | _=>true
def HA.fp : HA -> List Nat
 | .blk b _=>[b]
 | .osl (.slice (some a) _ _) _ _=>[a.block]
 | .osl _ _ _=>[]
 | .obj b _=>[b]
structure Base where
 w0 : World
 imm0 : Imm
 io : List Nat
structure Frm(B : Base)(imm : Imm)(w : World): Prop where
 os : w.os = B.w0.os
 tape : w.tape = B.w0.tape
 output : w.output = B.w0.output
 size : B.w0.heap.size<=w.heap.size
 heap : ∀b,b<B.w0.heap.size -> b ∉ B.io -> w.heap[b]? = B.w0.heap[b]?
 imm : ∀b,b<B.w0.heap.size -> b ∉ B.io -> imm b = B.imm0 b
 drawn : B.w0.drawn<=w.drawn
def perm(B : Base)(b : Nat): Prop:=B.w0.heap.size<=b∨b∈B.io
def HA.ok(B : Base)(imm : Imm)(w : World): HA -> Prop
 | .blk b c=>perm B b /\ imm b = none /\ ∃ty,w.heap[b]? = some (.cells c ty (0,0))
 | .osl v sz cs=>(v = .slice none 0 0 /\ cs = []) ∨
  ∃b off len cap all ty,v = .slice (some ⟨b,off,none⟩) len cap /\ perm B b /\ imm b = none /\ w.heap[b]? = some (.cells all ty (0,0)) /\
   off+cap*sz<=all.size /\ len<=cap /\ cs.length = len*sz /\ (all.toList.drop off).take (len*sz) = cs /\ cap<=9223372036854775807
 | .obj b o=>perm B b /\ imm b = none /\ w.heap[b]? = some o
structure Good(B : Base)(imm : Imm)(hs : List HA)(w : World): Prop where
 inv : ∀b c,imm b = some c -> ∃ty fr,w.heap[b]? = some (.cells c ty fr)
 own : ∀A∈hs,A.ok B imm w
 nodup : (hs.flatMap HA.fp).Nodup
 frm : Frm B imm w
section
variable {B : Base} {imm : Imm} {hs : List HA} {w : World}
theorem Good.lt_imm(h : Good B imm hs w){b : Nat}{c : Array Value}(hb : imm b = some c): b<w.heap.size:=by
 obtain⟨ty,fr,e⟩:=h.inv b c hb
 rcases dd b w.heap.size with h' | h'
 ·exact h'
 ·rw[eg h'] at e;cases e
theorem HA.ok.lt{A : HA}(h : A.ok B imm w){b : Nat}(hb : b∈A.fp): b<w.heap.size /\ perm B b /\ imm b = none:=by
 have key : ∀{b : Nat} {o : Obj},w.heap[b]? = some o -> b<w.heap.size:=λ{b o} e=>by
  rcases dd b w.heap.size with h' | h'
  ·exact h'
  ·rw[eg h'] at e;cases e
 cases A with
 | blk b' c=>
  obtain⟨h1,h2,ty,h3⟩:=h
  simp only[HA.fp,dc] at hb
  subst hb
  exact⟨key h3,h1,h2⟩
 | osl v sz cs=>
  rcases h with⟨rfl,_⟩|⟨b',off,len,cap,all,ty,rfl,h1,h2,h3,_⟩
  ·simp[HA.fp] at hb
  ·simp only[HA.fp,dc] at hb
   subst hb
   exact⟨key h3,h1,h2⟩
 | obj b' o=>
  obtain⟨h1,h2,h3⟩:=h
  simp only[HA.fp,dc] at hb
  subst hb
  exact⟨key h3,h1,h2⟩
theorem HA.ok.same{A : HA}{B' : Base}{af : Imm}{w' : World}(h : A.ok B imm w)(hp : ∀b∈A.fp,perm B b -> perm B' b)(hi : ∀b∈A.fp,af b = imm b)(hw : ∀b∈A.fp,w'.heap[b]? = w.heap[b]?): A.ok B' af w' := by
 cases A with
 | blk b c=>
  obtain⟨h1,h2,ty,h3⟩:=h
  have hm : b∈(HA.blk b c).fp:=by simp[HA.fp]
  exact⟨hp b hm h1,(hi b hm).trans h2,ty,(hw b hm).trans h3⟩
 | osl v sz cs=>
  rcases h with h|⟨b,off,len,cap,all,ty,rfl,h1,h2,h3,h4⟩
  ·exact .inl h
  ·have hm : b∈(HA.osl (.slice (some ⟨b,off,none⟩) len cap) sz cs).fp:=by simp[HA.fp]
   exact .inr ⟨b,off,len,cap,all,ty,rfl,hp b hm h1,(hi b hm).trans h2,(hw b hm).trans h3,h4⟩
 | obj b o=>
  obtain⟨h1,h2,h3⟩:=h
  have hm : b∈(HA.obj b o).fp:=by simp[HA.fp]
  exact⟨hp b hm h1,(hi b hm).trans h2,(hw b hm).trans h3⟩
theorem Good.mem_lt(h : Good B imm hs w){b : Nat}(hb : b∈hs.flatMap HA.fp): b<w.heap.size /\ perm B b /\ imm b = none:=by
 obtain⟨A,hA,hbA⟩:=cB.1 hb
 exact(h.own A hA).lt hbA
theorem Good.draw(h : Good B imm hs w)(k : Nat)(hk : w.drawn<=k): Good B imm hs { w with drawn:=k }:=
 ⟨h.inv,λA hA=>(h.own A hA).same (λ_ _ p=>p) (λ_ _=>rfl) (λ_ _=>rfl),h.nodup,⟨h.frm.os,h.frm.tape,h.frm.output,h.frm.size,h.frm.heap,h.frm.imm,dx h.frm.drawn hk⟩⟩
theorem Good.alloc'(h : Good B imm hs w)(o : Obj):
 Good B imm hs { w with heap:=w.heap.push o } /\ imm w.heap.size = none /\ perm B w.heap.size /\ w.heap.size ∉ hs.flatMap HA.fp /\
  ({ w with heap:=w.heap.push o } : World).heap[w.heap.size]? = some o:=by
 have old : ∀b,b<w.heap.size -> (w.heap.push o)[b]? = w.heap[b]? := λb hb=>by
  rw[Array.getElem?_push];simp[Nat.ne_of_lt hb]
 have hn : imm w.heap.size = none:=by
  cases e : imm w.heap.size with
  | none=>rfl
  | some c' => exact absurd (h.lt_imm e) (Nat.lt_irrefl _)
 refine⟨⟨λb c' e => ?_,λA hA=>(h.own A hA).same (λ_ _ p=>p) (λ_ _=>rfl) (λb hb=>old b ((h.own A hA).lt hb).1),h.nodup,⟨h.frm.os,h.frm.tape,h.frm.output,?_,λb hb hio => ?_,h.frm.imm,h.frm.drawn⟩⟩,hn,.inl h.frm.size,λhb=>absurd (h.mem_lt hb).1 (Nat.lt_irrefl _),by simp⟩
 ·obtain⟨ty',fr,e'⟩:=h.inv b c' e
  exact⟨ty',fr,(old b (h.lt_imm e)).trans e'⟩
 ·simp;exact Nat.le_succ_of_le h.frm.size
 ·exact(old b (er hb h.frm.size)).trans (h.frm.heap b hb hio)
theorem Good.alloc(h : Good B imm hs w)(c : Array Value)(ty : TypeId)(fz : Nat × Nat):
 Good B imm hs { w with heap:=w.heap.push (.cells c ty fz) } /\ imm w.heap.size = none /\ perm B w.heap.size /\ w.heap.size ∉ hs.flatMap HA.fp /\
  ({ w with heap:=w.heap.push (.cells c ty fz) } : World).heap[w.heap.size]? = some (.cells c ty fz):=h.alloc' _
theorem Good.alloc_blk(h : Good B imm hs w)(c : Array Value)(ty : TypeId): Good B imm (.blk w.heap.size c :: hs) { w with heap:=w.heap.push (.cells c ty) }:=by
 obtain⟨g,h1,h2,h3,h4⟩:=h.alloc c ty (0,0)
 refine⟨g.inv,λA hA => ?_,?_,g.frm⟩
 ·rcases cP.1 hA with rfl|hA
  ·exact⟨h2,h1,ty,h4⟩
  ·exact g.own A hA
 ·rw[cg]
  exact List.nodup_cons.2 ⟨h3,h.nodup⟩
theorem Good.alloc_osl(h : Good B imm hs w)(c : Array Value)(ty : TypeId)(sz len cap : Nat)(cs : List Value)(hcap : cap*sz<=c.size)(hl : len<=cap)(bN : c.toList.take (len*sz) = cs)(aU : cs.length = len*sz)(hM : cap<=9223372036854775807):
 Good B imm (.osl (.slice (some ⟨w.heap.size,0,none⟩) len cap) sz cs :: hs) { w with heap:=w.heap.push (.cells c ty) }:=by
 obtain⟨g,h1,h2,h3,h4⟩:=h.alloc c ty (0,0)
 refine⟨g.inv,λA hA => ?_,?_,g.frm⟩
 ·rcases cP.1 hA with rfl|hA
  ·exact .inr ⟨_,0,len,cap,c,ty,rfl,h2,h1,h4,by omega,hl,aU,by simpa using bN,hM⟩
  ·exact g.own A hA
 ·rw[cg]
  exact List.nodup_cons.2 ⟨h3,h.nodup⟩
theorem Good.nil_osl(h : Good B imm hs w)(sz : Nat): Good B imm (.osl (.slice none 0 0) sz [] :: hs) w:=
 ⟨h.inv,λA hA=>by
  rcases cP.1 hA with rfl|hA
  ·exact .inl ⟨rfl,rfl⟩
  ·exact h.own A hA,by simpa [HA.fp] using h.nodup,h.frm⟩
theorem Good.sub(h : Good B imm hs w){aj : List HA}(hm : ∀A∈aj,A∈hs)(hn : (aj.flatMap HA.fp).Nodup): Good B imm aj w:=
 ⟨h.inv,λA hA=>h.own A (hm A hA),hn,h.frm⟩
theorem Good.tail{A : HA}(h : Good B imm (A :: hs) w): Good B imm hs w:=
 h.sub (λ_ hA=>cd _ hA) (by have:=h.nodup;rw[cg] at this;exact(cz.1 this).2.1)
theorem Good.perm(h : Good B imm hs w){aj : List HA}(hp : aj.Perm hs): Good B imm aj w:=
 h.sub (λ_ hA=>hp.mem_iff.1 hA) ((hp.flatMap_right HA.fp).nodup_iff.2 h.nodup)
def setBlk(w : World)(b : Nat)(o : Obj): World := { w with heap:=w.heap.setIfInBounds b o }
theorem zBH{w : World}{b : Nat}{o : Obj}(h : b<w.heap.size): (setBlk w b o).heap[b]? = some o:=by simp[setBlk,h]
theorem zFM{w : World}{b b' : Nat}{o : Obj}(h : b ≠ b'): (setBlk w b o).heap[b']? = w.heap[b']? := by simp[setBlk,db h]
theorem Good.write{A A' : HA}(h : Good B imm (A :: hs) w){b : Nat}(hb : b∈A.fp)(hfp : A'.fp = A.fp)(o : Obj)(hA : A'.ok B imm (setBlk w b o)): Good B imm (A' :: hs) (setBlk w b o):=by
 have bH:=h.nodup
 rw[cg] at bH
 obtain⟨_,hnd2,hdis⟩:=cz.1 bH
 have hb' := (h.own A (ci ..)).lt hb
 refine⟨λb' c e => ?_,λA2 hA2 => ?_,?_,⟨h.frm.os,h.frm.tape,h.frm.output,?_,λb' aH hio => ?_,h.frm.imm,h.frm.drawn⟩⟩
 ·obtain⟨ty,fr,e'⟩:=h.inv b' c e
  refine⟨ty,fr,(zFM ?_).trans e'⟩
  intro hbb;subst hbb;rw[hb'.2.2] at e;cases e
 ·rcases cP.1 hA2 with rfl|hA2
  ·exact hA
  ·refine(h.own A2 (cd _ hA2)).same (λ_ _ p=>p) (λ_ _=>rfl) (λb' hb2=>zFM ?_)
   intro hbb;subst hbb
   exact hdis _ hb _ (cB.2 ⟨A2,hA2,hb2⟩) rfl
 ·rw[cg,hfp];exact bH
 ·simpa [setBlk] using h.frm.size
 ·refine(zFM ?_).trans (h.frm.heap b' aH hio)
  intro hbb;subst hbb
  rcases hb'.2.1 with hp|hp
  ·omega
  ·exact hio hp
theorem Good.freeze_blk{b : Nat}{c : Array Value}(h : Good B imm (.blk b c :: hs) w): Good B (imm.add b c) hs w /\ imm.le (imm.add b c):=by
 obtain⟨h1,h2,ty,h3⟩:=h.own _ (ci ..)
 have bH:=h.nodup
 rw[cg] at bH
 refine⟨⟨λb' c' e => ?_,λA hA => ?_,(cz.1 bH).2.1,⟨h.frm.os,h.frm.tape,h.frm.output,h.frm.size,h.frm.heap,λb' aH hio => ?_,h.frm.drawn⟩⟩,Imm.le_add c h2⟩
 ·unfold Imm.add at e
  split at e
  ·rename_i hb;subst hb;cases e;exact⟨ty,_,h3⟩
  ·exact h.inv b' c' e
 ·refine(h.own A (cd _ hA)).same (λ_ _ p=>p) (λb' hb' => ?_) (λ_ _=>rfl)
  have : b' ≠ b:=by
   intro hbb;subst hbb
   exact(cz.1 bH).2.2 b' (by simp[HA.fp]) _ (cB.2 ⟨A,hA,hb'⟩) rfl
  simp[Imm.add,this]
 ·have : b' ≠ b:=by
   rintro rfl
   rcases h1 with h1|h1
   ·omega
   ·exact hio h1
  simp only[Imm.add,this,if_false]
  exact h.frm.imm b' aH hio
def SliceAt(imm : Imm)(v : Value)(sz : Nat)(cs : List Value): Prop:=
 (∃p0 : Option Addr,v = .slice p0 0 0 /\ cs = []) ∨ ∃b off len cap c,v = .slice (some ⟨b,off,none⟩) len cap /\ imm b = some c /\ off+len*sz<=c.size /\ len<=cap /\ cs.length = len*sz /\ (c.toList.drop off).take (len*sz) = cs
theorem SliceAt.mono{i j : Imm}(h : i.le j){v : Value}{sz : Nat}{cs : List Value}(hs : SliceAt i v sz cs): SliceAt j v sz cs:=by
 rcases hs with hs|⟨b,off,len,cap,c,h1,h2,h3⟩
 ·exact .inl hs
 ·exact .inr ⟨b,off,len,cap,c,h1,h _ _ h2,h3⟩
def Lent(imm : Imm): HA -> Prop
 | .blk b c=>imm b = some c
 | .osl v sz cs=>SliceAt imm v sz cs
 | .obj .. => False
theorem Lent.mono{i j : Imm}(h : i.le j): ∀{A : HA},Lent i A -> Lent j A
 | .blk _ _,hs=>h _ _ hs
 | .osl _ _ _,hs=>SliceAt.mono h hs
 | .obj ..,hs=>hs
theorem HA.ok.cells{A : HA}(h : A.ok B imm w)(hA : A.plain = true): (A.fp = [] /\ ∀i,Lent i A) ∨ ∃b c ty,A.fp = [b] /\ w.heap[b]? = some (.cells c ty (0,0)) /\ ∀i : Imm,i b = some c -> Lent i A:=by
 cases A with
 | blk b c=>obtain⟨h1,h2,ty,h3⟩:=h;exact .inr ⟨b,c,ty,rfl,h3,λi hi=>hi⟩
 | osl v sz cs=>
  rcases h with⟨rfl,rfl⟩|⟨b,off,len,cap,all,ty,rfl,h1,h2,h3,h4,h5,h6,h7,_⟩
  ·exact .inl ⟨rfl,λ_=>.inl ⟨none,rfl,rfl⟩⟩
  ·refine .inr ⟨b,all,ty,rfl,h3,λi hi=>.inr ⟨b,off,len,cap,all,rfl,hi,?_,h5,h6,h7⟩⟩
   have:=cW sz h5
   omega
 | obj b o=>cases hA
theorem Good.freeze{A : HA}(h : Good B imm (A :: hs) w)(hpl : A.plain = true): ∃af,imm.le af /\ Lent af A /\ Good B af hs w:=by
 have hA:=h.own _ (ci ..)
 rcases hA.cells hpl with⟨_,hL⟩|⟨b,c,ty,hfp,hc,hL⟩
 ·exact⟨imm,Imm.le.refl _,hL _,h.tail⟩
 ·have hb : b∈A.fp:=by simp[hfp]
  obtain⟨h1,h2,h3⟩:=hA.lt hb
  have hg : Good B imm (.blk b c :: hs) w:=⟨h.inv,λA' hA' => by
   rcases cP.1 hA' with rfl|hA'
   ·exact⟨h2,h3,ty,hc⟩
   ·exact h.own _ (cd _ hA'),by have:=h.nodup;rw[cg,hfp] at this;exact this,h.frm⟩
  obtain⟨g,le⟩:=hg.freeze_blk
  exact⟨_,le,hL _ (Imm.add_self ..),g⟩
theorem Good.enter(h : Good B imm hs w){hs1 : List HA}(hm : ∀A∈hs1,A∈hs)(hn : (hs1.flatMap HA.fp).Nodup): Good ⟨w,imm,hs1.flatMap HA.fp⟩ imm hs1 w:=
 ⟨h.inv,λA hA=>(h.own A (hm A hA)).same (λ_ hb _=>.inr (cB.2 ⟨A,hA,hb⟩)) (λ_ _=>rfl) (λ_ _=>rfl),hn,⟨rfl,rfl,rfl,cH _,λ_ _ _=>rfl,λ_ _ _=>rfl,cH _⟩⟩
theorem Good.nio(h : Good B imm hs w){b : Nat}{c : Array Value}(e : imm b = some c): b ∉ hs.flatMap HA.fp:=λhb=>by
 rw[(h.mem_lt hb).2.2] at e;cases e
theorem Good.leave{hs1 rest aj : List HA}{af : Imm}{w' : World}(h : Good B imm (hs1++rest) w)(h' : Good ⟨w,imm,hs1.flatMap HA.fp⟩ af aj w'):
 Good B af (aj++rest) w' /\ imm.le af /\ (∀b∈aj.flatMap HA.fp,b∈hs1.flatMap HA.fp∨B.w0.heap.size<=b):=by
 have bH:=h.nodup
 rw[da] at bH
 obtain⟨hnd1,hnd2,hdis⟩:=cz.1 bH
 have ap : imm.le af:=λb c e=>(h'.frm.imm b (h.lt_imm e) (λhb=>h.nio e (by rw[da];exact cI _ hb))).trans e
 have hrest : ∀A∈rest,∀b∈A.fp,b<w.heap.size /\ b ∉ hs1.flatMap HA.fp:=λA hA b hb=>
  ⟨((h.own A (cR _ hA)).lt hb).1,λhb1=>hdis b hb1 b (cB.2 ⟨A,hA,hb⟩) rfl⟩
 have hnew : ∀b∈aj.flatMap HA.fp,w.heap.size<=b∨b∈hs1.flatMap HA.fp:=λb hb=>(h'.mem_lt hb).2.1
 refine⟨⟨h'.inv,λA hA => ?_,?_,?_⟩,ap,λb hb=>(hnew b hb).symm.imp id (dx h.frm.size)⟩
 ·rcases dj.1 hA with hA|hA
  ·refine(h'.own A hA).same (λb hb hp => ?_) (λ_ _=>rfl) (λ_ _=>rfl)
   rcases hp with hp|hp
   ·exact .inl (dx h.frm.size hp)
   ·obtain⟨A1,hA1,hb1⟩:=cB.1 hp
    exact((h.own A1 (cI _ hA1)).lt hb1).2.1
  ·refine(h.own A (cR _ hA)).same (λ_ _ p=>p) (λb hb => ?_) (λb hb => ?_)
   ·exact h'.frm.imm b (hrest A hA b hb).1 (hrest A hA b hb).2
   ·exact h'.frm.heap b (hrest A hA b hb).1 (hrest A hA b hb).2
 ·rw[da]
  refine cz.2 ⟨h'.nodup,hnd2,λb hb b' hb' e => ?_⟩
  subst e
  obtain⟨A,hA,hbA⟩:=cB.1 hb'
  have:=hrest A hA b hbA
  rcases hnew b hb with h1|h1
  ·omega
  ·exact this.2 h1
 ·refine⟨h'.frm.os.trans h.frm.os,h'.frm.tape.trans h.frm.tape,h'.frm.output.trans h.frm.output,dx h.frm.size h'.frm.size,λb hb hio => ?_,λb hb hio => ?_,dx h.frm.drawn h'.frm.drawn⟩
  ·refine(h'.frm.heap b (er hb h.frm.size) (λhb1 => ?_)).trans (h.frm.heap b hb hio)
   obtain⟨A1,hA1,hb2⟩:=cB.1 hb1
   rcases((h.own A1 (cI _ hA1)).lt hb2).2.1 with hp|hp
   ·omega
   ·exact hio hp
  ·refine(h'.frm.imm b (er hb h.frm.size) (λhb1 => ?_)).trans (h.frm.imm b hb hio)
   obtain⟨A1,hA1,hb2⟩:=cB.1 hb1
   rcases((h.own A1 (cI _ hA1)).lt hb2).2.1 with hp|hp
   ·omega
   ·exact hio hp
theorem Good.lend{A : HA}(h : Good B imm (A :: hs) w)(hpl : A.plain = true): ∃imm1,imm.le imm1 /\ Lent imm1 A /\ Good ⟨w,imm1,hs.flatMap HA.fp⟩ imm1 hs w /\
 ∀imm2 aj w',Good ⟨w,imm1,hs.flatMap HA.fp⟩ imm2 aj w' -> ∃imm3,imm.le imm3 /\ imm3.le imm2 /\ (∀b c,imm2 b = some c -> w.heap.size<=b -> imm3 b = some c) /\ Good ⟨w,imm,(A :: hs).flatMap HA.fp⟩ imm3 (A :: aj) w' := by
 have hA:=h.own _ (ci ..)
 have bH:=h.nodup
 rw[cg] at bH
 obtain⟨_,hnd2,hdis⟩:=cz.1 bH
 rcases hA.cells hpl with⟨hfp,hL⟩|⟨b,c,ty,hfp,hc,hL⟩
 ·refine⟨imm,Imm.le.refl _,hL _,h.tail.enter (λ_ h=>h) hnd2,λimm2 aj w' h' => ⟨imm2,λ_ _ e=>(h'.frm.imm _ (h.lt_imm e) (h.tail.nio e)).trans e,Imm.le.refl _,λ_ _ e _=>e,?_⟩⟩
  have hA0 : ∀(B : Base) (i : Imm) (w : World),A.ok B i w:=λB' i w' => hA.same (by simp[hfp]) (by simp[hfp]) (by simp[hfp])
  refine⟨h'.inv,λA' hA' => ?_,by rw[cg,hfp];exact h'.nodup,by rw[cg,hfp];exact h'.frm⟩
  rcases cP.1 hA' with rfl|hA'
  ·exact hA0 _ _ _
  ·refine(h'.own A' hA').same (λb' _ hp => ?_) (λ_ _=>rfl) (λ_ _=>rfl)
   rw[cg,hfp];exact hp
 ·have hb : b∈A.fp:=by simp[hfp]
  obtain⟨h1,h2,h3⟩:=hA.lt hb
  have hbn : b ∉ hs.flatMap HA.fp:=λhb' => hdis b hb b hb' rfl
  have ap : imm.le (imm.add b c):=Imm.le_add c h3
  refine⟨imm.add b c,ap,hL _ (Imm.add_self ..),⟨λb' c' e => ?_,λA' hA' => ?_,hnd2,⟨rfl,rfl,rfl,cH _,λ_ _ _=>rfl,λ_ _ _=>rfl,cH _⟩⟩,λimm2 aj w' h' => ?_⟩
  ·unfold Imm.add at e
   split at e
   ·rename_i hx;subst hx;cases e;exact⟨ty,_,hc⟩
   ·exact h.inv b' c' e
  ·refine(h.own A' (cd _ hA')).same (λb' hb' _=>.inr (cB.2 ⟨A',hA',hb'⟩)) (λb' hb' => ?_) (λ_ _=>rfl)
   have : b' ≠ b:=by intro e;subst e;exact hbn (cB.2 ⟨A',hA',hb'⟩)
   simp[Imm.add,this]
  ·have hdel : ∀b',b' ≠ b -> (imm2.del b) b' = imm2 b' := λb' hne=>by simp[Imm.del,hne]
   have hself : (imm2.del b) b = none:=by simp[Imm.del]
   have hnew : ∀b'∈aj.flatMap HA.fp,b' ≠ b:=λb' hb' e=>by
    subst e
    rcases(h'.mem_lt hb').2.1 with hp|hp
    ·have : w.heap.size<=b' := hp
     omega
    ·exact hbn hp
   refine⟨imm2.del b,λb' c' e => ?_,λb' c' e => ?_,λb' c' e aH => ?_,⟨λb' c' e => ?_,λA' hA' => ?_,?_,⟨h'.frm.os,h'.frm.tape,h'.frm.output,h'.frm.size,λb' aH hio => ?_,λb' aH hio => ?_,h'.frm.drawn⟩⟩⟩
   ·have hne : b' ≠ b:=by intro e';subst e';rw[h3] at e;cases e
    rw[hdel _ hne]
    exact(h'.frm.imm b' (h.lt_imm e) (h.tail.nio e)).trans (ap _ _ e)
   ·by_cases hne : b' = b
    ·subst hne;rw[hself] at e;cases e
    ·rwa[hdel _ hne] at e
   ·rw[hdel _ (by omega)];exact e
   ·by_cases hne : b' = b
    ·subst hne;rw[hself] at e;cases e
    ·rw[hdel _ hne] at e;exact h'.inv b' c' e
   ·rcases cP.1 hA' with rfl|hA'
    ·refine hA.same (λb' hb' _=>.inr (by rw[cg];exact cI _ hb')) (λb' hb' => ?_) (λb' hb' => ?_)
     ·rw[hfp] at hb';simp at hb';subst hb';rw[hself,h3]
     ·rw[hfp] at hb';simp at hb';subst hb';exact h'.frm.heap _ h1 hbn
    ·refine(h'.own A' hA').same (λb' _ hp => ?_) (λb' hb' => hdel _ (hnew b' (cB.2 ⟨A',hA',hb'⟩))) (λ_ _=>rfl)
     rcases hp with hp|hp
     ·exact .inl hp
     ·exact .inr (by rw[cg];exact cR _ hp)
   ·rw[cg]
    refine cz.2 ⟨by rw[hfp];simp,h'.nodup,λx hx y hy e => ?_⟩
    subst e
    rw[hfp] at hx;simp at hx
    exact hnew x hy hx
   ·exact h'.frm.heap b' aH (λhb' => hio (by rw[cg];exact cR _ hb'))
   ·by_cases hne : b' = b
    ·subst hne;rw[hself];exact h3.symm
    ·rw[hdel _ hne]
     refine(h'.frm.imm b' aH (λhb' => hio (by rw[cg];exact cR _ hb'))).trans ?_
     simp[Imm.add,hne]
end
def J(P : Program)(n : Nat)(B : Base)(c : Code)(Q : Exit -> Act -> World -> Prop)(imm : Imm)(hs : List HA)(m : FM): Prop:=
 ∀a w,Fr n a m -> Good B imm hs w -> c.wp P Q a w
def T(n : Nat)(B : Base)(Q : Exit -> Act -> World -> Prop)(e : Exit)(imm : Imm)(hs : List HA)(m : FM): Prop:=
 ∀a w,Fr n a m -> Good B imm hs w -> Q e a w
def R(P : Program)(n : Nat)(B : Base)(aa : List Oper)(Q : Exit -> Act -> World -> Prop)(pc : Nat)(imm : Imm)(hs : List HA)(m : FM): Prop:=
 ∀a w,Fr n a m -> Good B imm hs w -> wpL P aa.toArray Q (aa.drop pc) a w
section
variable {P : Program} {n : Nat} {B : Base} {Q : Exit -> Act -> World -> Prop} {imm : Imm} {hs : List HA} {m : FM}
theorem zM{x y : Code}(h : J P n B x (Exit.then (y.wp P Q) Q) imm hs m): J P n B (x.seq y) Q imm hs m:=λa w f g=>wp_seq (h a w f g)
theorem zE{id : Nat}{aa : List Oper}(h : R P n B aa Q 0 imm hs m): J P n B (.region id aa.toArray false) Q imm hs m:=λa w f g=>zGL (by simpa using h a w f g)
theorem zT(h : T n B Q .normal imm hs m): J P n B .skip Q imm hs m:=λa w f g=>wp_skip (h a w f g)
theorem oO{id : Nat}(h : T n B Q (.exit id) imm hs m): J P n B (.exit id) Q imm hs m:=λa w f g=>wp_exit (h a w f g)
theorem yF(h : T n B Q .ret imm hs m): J P n B .ret Q imm hs m:=λa w f g=>wp_ret (h a w f g)
theorem zZ{id : Nat}{c : Code}(h : J P n B c (Exit.inBlock id Q) imm hs m): J P n B (.block id c) Q imm hs m:=λa w f g=>wp_block (h a w f g)
theorem zKr{x : Operand}{p q : Code}{c : Bool}{α : Type}{X Y : Option α}{r : α}(hc : val m x = some (.bool c))(hM : (if c = true then X else Y) = some r)
 (ht : c = true -> X = some r -> J P n B p Q imm hs m) (hf : c = false -> Y = some r -> J P n B q Q imm hs m) : J P n B (.cond x p q) Q imm hs m:=λa w f g=>by
 cases c with
 | true=>exact wp_cond_true (f.eval hc) (ht rfl (by simpa using hM) a w f g)
 | false=>exact wp_cond_false (f.eval hc) (hf rfl (by simpa using hM) a w f g)
theorem zHv{x : Operand}{p q : Code}(hc : val m x = some (.bool true))(h : J P n B p Q imm hs m): J P n B (.cond x p q) Q imm hs m:=λa w f g=>wp_cond_true (f.eval hc) (h a w f g)
theorem zHZ{x : Operand}{p q : Code}(hc : val m x = some (.bool false))(h : J P n B q Q imm hs m): J P n B (.cond x p q) Q imm hs m:=λa w f g=>wp_cond_false (f.eval hc) (h a w f g)
theorem yK{c : Code}(hg : ∀l a w,¬ Q (.goto l) a w)(ho : ∀a w,¬ Q .outgrown a w)(h : J P n B c (Exit.then (λa' w' => (Code.loop c).wp P Q a' w') Q) imm hs m): J P n B (.loop c) Q imm hs m:=
 λa w f g=>zGM hg ho (h a w f g)
theorem zJg{c : Code}{m' : FM}(aj : sub m m')(h : J P n B c Q imm hs m'): J P n B c Q imm hs m:=λa w f g=>h a w (f.weaken aj) g
theorem zH{y : Code}(h : J P n B y Q imm hs m): T n B (Exit.then (y.wp P Q) Q) .normal imm hs m:=h
theorem yL{c : Code}(h : J P n B (.loop c) Q imm hs m): T n B (Exit.then (λa' w' => (Code.loop c).wp P Q a' w') Q) .normal imm hs m:=h
theorem yH{K : Act -> World -> Prop}{id : Nat}(h : T n B Q (.exit id) imm hs m): T n B (Exit.then K Q) (.exit id) imm hs m:=h
theorem zG{K : Act -> World -> Prop}(h : T n B Q .ret imm hs m): T n B (Exit.then K Q) .ret imm hs m:=h
theorem zQ{id : Nat}(h : T n B Q .normal imm hs m): T n B (Exit.inBlock id Q) .normal imm hs m:=h
theorem zR{id : Nat}(h : T n B Q .ret imm hs m): T n B (Exit.inBlock id Q) .ret imm hs m:=h
theorem zU{id : Nat}(h : T n B Q .normal imm hs m): T n B (Exit.inBlock id Q) (.exit id) imm hs m:=λa w f g=>by simpa [Exit.inBlock] using h a w f g
theorem zJh{e : Exit}{m' : FM}(aj : sub m m')(h : T n B Q e imm hs m'): T n B Q e imm hs m:=λa w f g=>h a w (f.weaken aj) g
theorem zX{aa : List Oper}{pc : Nat}(h0 : aa.drop pc = [])(h : T n B Q .normal imm hs m): R P n B aa Q pc imm hs m:=λa w f g=>by rw[h0];exact h a w f g
def guardB(aa : List Oper)(m : FM): Option (Nat × Bool) -> Option Bool
 | none=>some true
 | some (j,want)=>match aa[j]? with
  | some o=>match o.dst with
   | some d=>match look m d with
    | some (.bool b)=>some (b==want)
    | some _=>some false
    | none=>none
   | none=>none
  | none=>none
theorem Fr.wanted{a : Act}(f : Fr n a m){aa : List Oper}{o : Oper}{b : Bool}(h : guardB aa m o.guard = some b): Region.wanted o (yielded aa.toArray a.tmps) = b:=by
 unfold Region.wanted
 cases hg : o.guard with
 | none=>rw[hg] at h;simp[guardB] at h;simp[<- h]
 | some g=>
  obtain⟨j,want⟩:=g
  rw[hg] at h
  simp only[guardB] at h
  split at h
  ·rename_i o' ho
   split at h
   ·rename_i d hd
    split at h
    ·rename_i b' hl
     cases h
     have:=f.holds _ _ hl
     simp[yielded,ho,hd,this]
    ·rename_i v hv hl
     cases h
     have:=f.holds _ _ hl
     have hy : yielded aa.toArray a.tmps j = none:=by
      unfold yielded
      simp only[dt,ho,Option.bind_some,hd,this]
      cases v <;> first|rfl|exact absurd rfl (hv _)
     simp only[hy];rfl
    ·cases h
   ·cases h
  ·cases h
theorem zGN{aa : List Oper}{pc : Nat}{o : Oper}(ho : aa[pc]? = some o)(hg : guardB aa m o.guard = some true)
 (h : ∀a w,Fr n a m -> Good B imm hs w -> o.wp P a w (wpL P aa.toArray Q (aa.drop (pc+1))) Q) : R P n B aa Q pc imm hs m:=λa w f g=>by
 have hd : aa.drop pc = o :: aa.drop (pc+1):=by
  have aH : pc<aa.length:=by
   rcases dd pc aa.length with h|h
   ·exact h
   ·rw[dh h] at ho;cases ho
  rw[cU aH]
  rw[b9 aH] at ho
  cases ho;rfl
 rw[hd]
 simp only[wpL,f.wanted hg,if_true]
 exact h a w f g
theorem zJX{aa : List Oper}{pc d : Nat}{o : Oper}(ho : aa[pc]? = some o)(hg : guardB aa m o.guard = some false)(hd' : o.dst = some d)(hn : Nat.blt d n = true)
 (h : R P n B aa Q (pc+1) imm hs ((d,undef) :: m)) : R P n B aa Q pc imm hs m:=λa w f g=>by
 have hd : aa.drop pc = o :: aa.drop (pc+1):=by
  have aH : pc<aa.length:=by
   rcases dd pc aa.length with h|h
   ·exact h
   ·rw[dh h] at ho;cases ho
  rw[cU aH]
  rw[b9 aH] at ho
  cases ho;rfl
 rw[hd]
 simp only[wpL,f.wanted hg,bY,if_false,hd']
 exact h _ w (f.put d undef (by simpa using hn)) g
theorem fM{aa : List Oper}{pc d : Nat}{o : Oper}(ho : aa[pc]? = some o)(hg : guardB aa m o.guard = some true)(hd : o.dst = some d)(hn : Nat.blt d n = true)
 (h : ∀a w,Fr n a m -> Good B imm hs w -> ∃v w' af aj,(execOp a.eval o).run P w = .ok (.value v) w' /\ Good B af aj w' /\ R P n B aa Q (pc+1) af aj ((d,v) :: m)) : R P n B aa Q pc imm hs m:=
 zGN ho hg λa w f g=>by
  obtain⟨v,w',af,aj,h1,h2,h3⟩:=h a w f g
  unfold Oper.wp
  rw[h1]
  simp only[Oper.upon,hd]
  exact h3 _ w' (f.put d v (by simpa using hn)) h2
theorem zIw{aa : List Oper}{pc : Nat}{o : Oper}(ho : aa[pc]? = some o)(hg : guardB aa m o.guard = some true)(hd : o.dst = none)
 (h : ∀a w,Fr n a m -> Good B imm hs w -> ∃w' af aj,(execOp a.eval o).run P w = .ok .skip w' /\ Good B af aj w' /\ R P n B aa Q (pc+1) af aj m) : R P n B aa Q pc imm hs m:=
 zGN ho hg λa w f g=>by
  obtain⟨w',af,aj,h1,h2,h3⟩:=h a w f g
  unfold Oper.wp
  rw[h1]
  simp only[Oper.upon,hd]
  exact h3 _ w' f h2
def run1(P : Program)(n : Nat)(aa : List Oper)(m : FM)(o : Oper): Option FM:=
 match o.dst with
 | none=>none
 | some d=>bif Nat.blt d n then
  match guardB aa m o.guard with
  | some true=>match pure1 P m o.op with|some v=>some ((d,v) :: m)|none=>none
  | some false=>some ((d,undef) :: m)
  | none=>none
  else none
def runL(P : Program)(n : Nat)(aa : List Oper): List Oper -> FM -> Option FM
 | [],m=>some m
 | o :: l,m=>match run1 P n aa m o with|some m' => runL P n aa l m' | none=>none
def keep(m : FM): List Nat -> Option FM
 | []=>some []
 | k :: ks=>match look m k,keep m ks with|some v,some m' => some ((k,v) :: m')|_,_=>none
theorem zAl : ∀{ks : List Nat} {m' : FM},keep m ks = some m' -> sub m m'
 | [],m',h=>by simp only[keep] at h;cases h;trivial
 | k :: ks,m',h=>by
  simp only[keep] at h
  split at h
  ·rename_i v m1 h1 h2;cases h;exact⟨h1,zAl h2⟩
  ·cases h
def runK(P : Program)(n : Nat)(aa : List Oper)(pc k : Nat)(ks : List Nat)(m : FM): Option FM:=
 match runL P n aa ((aa.drop pc).take k) m with|some m' => keep m' ks|none=>none
theorem zId{aa : List Oper}{pc : Nat}{o : Oper}{m' : FM}(ho : aa[pc]? = some o)(h : run1 P n aa m o = some m')(hR : R P n B aa Q (pc+1) imm hs m'): R P n B aa Q pc imm hs m:=by
 unfold run1 at h
 split at h
 ·cases h
 ·rename_i d hd
  cases hn : Nat.blt d n with
  | false=>rw[hn] at h;cases h
  | true=>
   rw[hn] at h
   simp only[cond_true] at h
   split at h
   ·rename_i hg
    split at h
    ·rename_i v hv
     cases h
     exact fM ho hg hd hn λa w f g=>⟨v,w,imm,hs,zHF f hv,g,hR⟩
    ·cases h
   ·rename_i hg
    cases h
    exact zJX ho hg hd hn hR
   ·cases h
theorem zJi{aa : List Oper}: ∀(l : List Oper) {pc : Nat} {m m' : FM},(∃r,aa.drop pc = l++r) -> runL P n aa l m = some m' -> R P n B aa Q (pc+l.length) imm hs m' -> R P n B aa Q pc imm hs m
 | [],pc,m,m',_,h,hR=>by simp only[runL] at h;cases h;exact hR
 | o :: l,pc,m,m',⟨r,hr⟩,h,hR=>by
  simp only[runL] at h
  split at h
  ·rename_i m1 h1
   have ho : aa[pc]? = some o:=by
    have h0 : (aa.drop pc)[0]? = some o:=by rw[hr];rfl
    simpa using h0
   refine zId ho h1 (zJi l ⟨r,?_⟩ h ?_)
   ·rw[<- cZ,hr];rfl
   ·have : pc+1+l.length = pc+(o :: l).length:=by simp;omega
    rw[this];exact hR
  ·cases h
theorem fS{aa : List Oper}{pc : Nat}{m' : FM}(aj : sub m m')(h : R P n B aa Q pc imm hs m'): R P n B aa Q pc imm hs m:=λa w f g=>h a w (f.weaken aj) g
theorem zKs{aa : List Oper}{pc : Nat}(k : Nat)(pc' : Nat)(ks : List Nat){m' : FM}(h : runK P n aa pc k ks m = some m')(hl : Nat.beq (pc+((aa.drop pc).take k).length) pc' = true)(hR : R P n B aa Q pc' imm hs m'): R P n B aa Q pc imm hs m:=by
 unfold runK at h
 split at h
 ·rename_i m1 h1
  refine zJi _ ⟨(aa.drop pc).drop k,(List.take_append_drop ..).symm⟩ h1 (fS (zAl h) ?_)
  rw[cC hl];exact hR
 ·cases h
theorem nP{aa : List Oper}{pc : Nat}(pc' : Nat)(m' : FM)(hR : R P n B aa Q pc' imm hs m')(h : runK P n aa pc (pc' - pc) (m'.map (·.1)) m = some m' := by kernel_rfl)(hl : Nat.beq (pc+((aa.drop pc).take (pc' - pc)).length) pc' = true:=by kernel_rfl): R P n B aa Q pc imm hs m:=
 zKs _ pc' _ h hl hR
end
class Rp (α : Type) where
 sz : Nat
 pos : 0<sz
 rep : Imm -> List Value -> α -> Prop
 len : ∀{i cs a},rep i cs a -> cs.length = sz
 mono : ∀{i j cs a},i.le j -> rep i cs a -> rep j cs a
 one : ∀{i cs a},rep i cs a -> ∀v∈cs,v.oneCell' = true
def RepL{α : Type}(ρ : List Value -> α -> Prop)(sz : Nat): List Value -> List α -> Prop
 | cs,[]=>cs = []
 | cs,a :: l => ∃c1 c2,cs = c1++c2 /\ c1.length = sz /\ ρ c1 a /\ RepL ρ sz c2 l
theorem RepL.length{α : Type}{ρ : List Value -> α -> Prop}{sz : Nat}: ∀{l : List α} {cs : List Value},RepL ρ sz cs l -> cs.length = l.length*sz
 | [],cs,h=>by simp only[RepL] at h;simp[h]
 | a :: l,cs,⟨c1,c2,h1,h2,_,h3⟩=>by
  have:=RepL.length h3
  rw[h1,cO,h2,this,cx,dk];omega
theorem RepL.mono{α : Type}{ρ ρ' : List Value -> α -> Prop}{sz : Nat}(hρ : ∀c a,ρ c a -> ρ' c a): ∀{l : List α} {cs : List Value},RepL ρ sz cs l -> RepL ρ' sz cs l
 | [],_,h=>h
 | _ :: _,_,⟨c1,c2,h1,h2,h3,h4⟩=>⟨c1,c2,h1,h2,hρ _ _ h3,RepL.mono hρ h4⟩
theorem RepL.append{α : Type}{ρ : List Value -> α -> Prop}{sz : Nat}: ∀{l l' : List α} {cs cs' : List Value},RepL ρ sz cs l -> RepL ρ sz cs' l' -> RepL ρ sz (cs++cs') (l++l')
 | [],_,cs,_,h,h' => by simp only[RepL] at h;subst h;exact h'
 | _ :: _,_,_,_,⟨c1,c2,h1,h2,h3,h4⟩,h' => ⟨c1,c2++_,by rw[h1,bZ],h2,h3,RepL.append h4 h'⟩
theorem RepL.nil{α : Type}{ρ : List Value -> α -> Prop}{sz : Nat}: RepL ρ sz [] ([] : List α):=rfl
theorem RepL.single{α : Type}{ρ : List Value -> α -> Prop}{sz : Nat}{c : List Value}{a : α}(hl : c.length = sz)(h : ρ c a): RepL ρ sz c [a]:=⟨c,[],by simp,hl,h,rfl⟩
theorem RepL.at{α : Type}{ρ : List Value -> α -> Prop}{sz : Nat}: ∀{l : List α} {cs : List Value} {i : Nat} {a : α},RepL ρ sz cs l -> l[i]? = some a -> ρ ((cs.drop (i*sz)).take sz) a /\ i*sz+sz<=cs.length
 | [],_,_,_,_,e=>by simp at e
 | x :: l,cs,0,a,⟨c1,c2,h1,h2,h3,h4⟩,e=>by
  simp at e;subst e
  subst h1
  refine⟨by simp[<- h2,h3],by simp[h2]⟩
 | x :: l,cs,i+1,a,⟨c1,c2,h1,h2,h3,h4⟩,e=>by
  have ih:=RepL.at (i:=i) h4 (by simpa using e)
  subst h1
  have hm : (i+1)*sz = sz+i*sz:=by rw[dk];omega
  rw[hm,<- cZ,<- h2,List.drop_left,h2]
  refine⟨ih.1,?_⟩
  rw[cO,h2];omega
theorem RepL.set{α : Type}{ρ : List Value -> α -> Prop}{sz : Nat}: ∀{l : List α} {cs : List Value} {i : Nat} {a : α} {c : List Value},RepL ρ sz cs l -> i<l.length -> c.length = sz -> ρ c a ->
 RepL ρ sz (cs.take (i*sz)++c++cs.drop (i*sz+sz)) (l.set i a)
 | [],_,_,_,_,_,e,_,_=>by simp at e
 | x :: l,cs,0,a,c,⟨c1,c2,h1,h2,h3,h4⟩,_,hc,ha=>by
  subst h1;subst h2
  refine⟨c,c2,?_,hc,ha,h4⟩
  simp
 | x :: l,cs,i+1,a,c,⟨c1,c2,h1,h2,h3,h4⟩,e,hc,ha=>by
  have ih:=RepL.set (i:=i) h4 (by simpa using e) hc ha
  subst h1
  refine⟨c1,_,?_,h2,h3,ih⟩
  have hm : (i+1)*sz = sz+i*sz:=by rw[dk];omega
  rw[hm,<- h2,List.take_length_add_append,dr,List.drop_length_add_append]
  simp[h2]
theorem RepL.take{α : Type}{ρ : List Value -> α -> Prop}{sz : Nat}: ∀{l : List α} {cs : List Value} (k : Nat),RepL ρ sz cs l -> RepL ρ sz (cs.take (k*sz)) (l.take k)
 | [],cs,k,h=>by simp only[RepL] at h;subst h;simp[RepL]
 | x :: l,cs,0,h=>by simp[RepL]
 | x :: l,cs,k+1,⟨c1,c2,h1,h2,h3,h4⟩=>by
  subst h1
  have hm : (k+1)*sz = sz+k*sz:=by rw[dk];omega
  rw[List.take_succ_cons]
  exact⟨c1,c2.take (k*sz),by rw[hm,<- h2,List.take_length_add_append],h2,h3,RepL.take k h4⟩
theorem RepL.drop{α : Type}{ρ : List Value -> α -> Prop}{sz : Nat}: ∀{l : List α} {cs : List Value} (k : Nat),RepL ρ sz cs l -> RepL ρ sz (cs.drop (k*sz)) (l.drop k)
 | [],cs,k,h=>by simp only[RepL] at h;subst h;simp[RepL]
 | x :: l,cs,0,h=>by simpa using h
 | x :: l,cs,k+1,⟨c1,c2,h1,h2,h3,h4⟩=>by
  subst h1
  have hm : (k+1)*sz = sz+k*sz:=by rw[dk];omega
  rw[hm,<- h2,List.drop_length_add_append,List.drop_succ_cons,h2]
  exact RepL.drop k h4
theorem RepL.one{α : Type}{ρ : List Value -> α -> Prop}{sz : Nat}(h1 : ∀c a,ρ c a -> ∀v∈c,v.oneCell' = true): ∀{l : List α} {cs : List Value},RepL ρ sz cs l -> ∀v∈cs,v.oneCell' = true
 | [],cs,h,v,hv=>by simp only[RepL] at h;subst h;simp at hv
 | a :: l,cs,⟨c1,c2,e1,_,e3,e4⟩,v,hv=>by
  subst e1
  rcases dj.1 hv with hv|hv
  ·exact h1 _ _ e3 v hv
  ·exact RepL.one h1 e4 v hv
def SL{α : Type}[Rp α](imm : Imm)(v : Value)(l : List α): Prop := ∃aF,SliceAt imm v (Rp.sz α) aF /\ RepL (Rp.rep imm) (Rp.sz α) aF l
theorem SL.mono{α : Type}[Rp α]{i j : Imm}(h : i.le j){v : Value}{l : List α}(hs : SL i v l): SL j v l:=by
 obtain⟨aF,h1,h2⟩:=hs
 exact⟨aF,h1.mono h,h2.mono λ_ _=>Rp.mono h⟩
abbrev hB(b : Nat)(l : List Value): HA:=.blk b ⟨l⟩
abbrev hO(α : Type)[Rp α](v : Value)(cs : List Value): HA:=.osl v (Rp.sz α) cs
theorem SL.nil{α : Type}[Rp α](imm : Imm): SL imm (.slice none 0 0) ([] : List α):=⟨[],.inl ⟨none,rfl,rfl⟩,rfl⟩
structure Str where
 l : List UInt8
 deriving DecidableEq
instance : Rp Int where
 sz:=1
 pos:=Nat.one_pos
 rep _ cs n:=cs = [.int .i64 n]
 len h:=by subst h;rfl
 mono _ h:=h
 one h:=by subst h;simp[Value.oneCell']
instance : Rp UInt8 where
 sz:=1
 pos:=Nat.one_pos
 rep _ cs b:=cs = [.int .u8 (b.toNat : Int)]
 len h:=by subst h;rfl
 mono _ h:=h
 one h:=by subst h;simp[Value.oneCell']
instance : Rp Bool where
 sz:=1
 pos:=Nat.one_pos
 rep _ cs b:=cs = [.bool b]
 len h:=by subst h;rfl
 mono _ h:=h
 one h:=by subst h;simp[Value.oneCell']
instance : Rp Str where
 sz:=1
 pos:=Nat.one_pos
 rep _ cs s:=cs = [.string ⟨⟨s.l⟩⟩]
 len h:=by subst h;rfl
 mono _ h:=h
 one h:=by subst h;simp[Value.oneCell']
instance {α : Type} [Rp α] : Rp (List α) where
 sz:=1
 pos:=Nat.one_pos
 rep i cs l := ∃v,cs = [v] /\ SL i v l
 len h:=by obtain⟨v,rfl,_⟩:=h;rfl
 mono hm h:=by obtain⟨v,e,hs⟩:=h;exact⟨v,e,hs.mono hm⟩
 one h:=by
  obtain⟨v,rfl,aF,hs,_⟩:=h
  rcases hs with⟨_,rfl,_⟩|⟨b,off,len,cap,c,rfl,_⟩ <;> simp[Value.oneCell']
def At(imm : Imm)(ad : Addr)(cs : List Value): Prop := ∃b off c,ad = ⟨b,off,none⟩ /\ imm b = some c /\ off+cs.length<=c.size /\ (c.toList.drop off).take cs.length = cs
theorem At.mono{i j : Imm}(h : i.le j){ad : Addr}{cs : List Value}(ha : At i ad cs): At j ad cs:=by
 obtain⟨b,off,c,h1,h2,h3⟩:=ha
 exact⟨b,off,c,h1,h _ _ h2,h3⟩
theorem dV(b off k : Nat): (⟨b,off,none⟩ : Addr).add k = ⟨b,off+k,none⟩:=by
 unfold Addr.add;split
 ·rename_i h;subst h;rfl
 ·rfl
section
variable {P : Program} {w : World}
theorem zD9{b off : Nat}{c : Array Value}{ty : TypeId}{fr : Nat × Nat}{v : Value}(hb : w.heap[b]? = some (.cells c ty fr))(hv : c[off]? = some v): (load ⟨b,off,none⟩).run P w = .ok v w:=by
 have : w.cell? ⟨b,off,none⟩ = some v:=by simp[World.cell?,hb,hv]
 simp[this]
theorem zBI{b off : Nat}{c : Array Value}{ty : TypeId}{fr : Nat × Nat}(hb : w.heap[b]? = some (.cells c ty fr)): ∀(n i : Nat) (acc : Array Value),off+i+n<=c.size ->
 (loadCellsFrom ⟨b,off,none⟩ i n acc).run P w = .ok (acc++(c.extract (off+i) (off+i+n))) w
 | 0,i,acc,_=>by simp[loadCellsFrom,Nat.min_le_left]
 | n+1,i,acc,h=>by
  have hv : c[off+i]? = some c[off+i]:=by simp
  simp only[loadCellsFrom,Sem.run_bind,dV,zD9 hb hv,Result.andThen_ok]
  rw[zBI hb n (i+1) _ (by omega)]
  congr 1
  apply Array.ext'
  simp only[Array.toList_append,Array.toList_push,eo,d5]
  rw[bZ]
  congr 1
  rw[show off+i+(n+1) - (off+i) = n+1 from by omega,show off+(i+1)+n - (off+(i+1)) = n from by omega]
  rw[cU (show off+i<c.toList.length from by simp;omega),List.take_succ_cons]
  simp[dr]
theorem zBW{b off n : Nat}{c : Array Value}{ty : TypeId}{fr : Nat × Nat}(hb : w.heap[b]? = some (.cells c ty fr))(h : off+n<=c.size):
 (loadCells ⟨b,off,none⟩ n).run P w = .ok (c.extract off (off+n)) w:=by
 unfold loadCells
 rw[zBI hb n 0 #[] (by omega)]
 simp
def loadV(P : Program)(t : TypeId)(cs : List Value): Option Value:=
 match isAggT P t,sizeT P t with
 | some true,some s=>bif Nat.beq cs.length s then some (.agg ⟨cs⟩) else none
 | some false,some _=>match cs with|[v]=>some v|_=>none
 | _,_=>none
theorem dW{b off : Nat}{c : Array Value}{ty : TypeId}{fr : Nat × Nat}{t : TypeId}{cs : List Value}{v : Value}(hb : w.heap[b]? = some (.cells c ty fr))(ap : off+cs.length<=c.size)
 (bN : (c.toList.drop off).take cs.length = cs) (hv : loadV P t cs = some v) : (loadVar t ⟨b,off,none⟩).run P w = .ok v w:=by
 unfold loadV at hv
 unfold loadVar
 split at hv
 ·rename_i s h1 h2
  cases hq : Nat.beq cs.length s with
  | false=>rw[hq] at hv;cases hv
  | true=>
   rw[hq] at hv;cases hv
   have hs:=cC hq
   simp only[Sem.run_bind,zDL h1,Result.andThen_ok,if_true,mB h2,<- hs,zBW hb ap,Sem.run_pure]
   congr 2
   apply Array.ext'
   simpa [eo,d5] using bN
 ·rename_i s h1 h2
  split at hv
  ·rename_i u
   cases hv
   have : c[off]? = some v:=by
    have h0:=congrArg (λl=>l[0]?) bN
    simpa using h0
   simp only[Sem.run_bind,zDL h1,Result.andThen_ok,bY,if_false,zD9 hb this]
  ·cases hv
 ·cases hv
def wr(c : Array Value)(o : Nat): List Value -> Array Value
 | []=>c
 | v :: vs=>wr (c.setIfInBounds o v) (o+1) vs
theorem zIx(c : Array Value): ∀(vs : List Value) (o : Nat),(wr c o vs).size = c.size:=by
 intro vs
 induction vs generalizing c with
 | nil=>intro o;rfl
 | cons v vs ih=>intro o;simp[wr,ih]
theorem zHG(c : Array Value): ∀(vs : List Value) (o : Nat),o+vs.length<=c.size -> (wr c o vs).toList = c.toList.take o++vs++c.toList.drop (o+vs.length):=by
 intro vs
 induction vs generalizing c with
 | nil=>intro o _;simp[wr]
 | cons v vs ih=>
  intro o h
  simp only[cx] at h
  rw[wr,ih _ (o+1) (by simpa using(by omega : o+1+vs.length<=c.size))]
  simp only[Array.toList_setIfInBounds,cx]
  rw[List.take_set,List.take_succ_eq_append_getElem (by simpa using(by omega : o<c.size)),List.set_append_right _ _ (by simp;omega)]
  rw[List.drop_set_of_lt (by omega)]
  have : o - (List.take o c.toList).length = 0:=by simp;omega
  rw[this]
  simp[dr,Nat.add_comm 1]
theorem zAm{b off : Nat}{ty : TypeId}: ∀(vs : List Value) (i : Nat) (c : Array Value) (w : World),w.heap[b]? = some (.cells c ty (0,0)) -> (∀v∈vs,v.oneCell' = true) -> off+i+vs.length<=c.size ->
 (storeCells ⟨b,off,none⟩ vs i).run P w = .ok () (setBlk w b (.cells (wr c (off+i) vs) ty (0,0)))
 | [],i,c,w,hb,_,_=>by
  have : setBlk w b (.cells c ty (0,0)) = w:=by
   unfold setBlk
   have : w.heap.setIfInBounds b (.cells c ty (0,0)) = w.heap:=by
    apply Array.ext_getElem?
    intro j
    by_cases hj : b = j
    ·subst hj
     rw[Array.getElem?_setIfInBounds]
     simp only[if_true]
     split
     ·rw[hb]
     ·rename_i aH;rw[eg (by omega)] at hb;cases hb
    ·rw[db hj]
   rw[this]
  simp[storeCells,wr,this]
 | v :: vs,i,c,w,hb,h1,ap=>by
  simp only[cx] at ap
  have hc : w.cell? ⟨b,off+i,none⟩ = some c[off+i]:=by simp[World.cell?,hb]
  have hf : w.frozen? ⟨b,off+i,none⟩ = false:=by simp[World.frozen?,hb]
  have aH : b<w.heap.size:=by
   rcases dd b w.heap.size with h|h
   ·exact h
   ·rw[eg h] at hb;cases hb
  have hset : w.setCell ⟨b,off+i,none⟩ v = setBlk w b (.cells (c.setIfInBounds (off+i) v) ty (0,0)):=by
   unfold World.setCell setBlk
   congr 1
   apply Array.ext_getElem?
   intro j
   rw[Array.getElem?_modify,Array.getElem?_setIfInBounds]
   by_cases hj : b = j
   ·subst hj
    have hb' : w.heap[b] = .cells c ty (0,0):=by rw[cS aH] at hb;injection hb
    simp[aH,hb']
   ·simp[hj]
  simp only[storeCells,Sem.run_bind,dV]
  rw[run_store P w _ v _ (h1 v (ci ..))]
  simp only[hc,hf,bY,if_false,Result.andThen_ok,hset]
  rw[zAm vs (i+1) (c.setIfInBounds (off+i) v) _ (zBH aH) (λu hu=>h1 u (cd _ hu)) (by simpa using(by omega : off+(i+1)+vs.length<=c.size))]
  simp[setBlk,wr,dr]
theorem zE4{b off : Nat}{ty : TypeId}{c : Array Value}{t : TypeId}{v : Value}(hb : w.heap[b]? = some (.cells c ty (0,0)))(h1 : ∀u∈v.cells.toList,u.oneCell' = true)(ap : off+v.cells.size<=c.size)
 (hs : sizeT P t = some v.cells.size) : (storeVar t ⟨b,off,none⟩ v).run P w = .ok () (setBlk w b (.cells (wr c off v.cells.toList) ty (0,0))):=by
 simp only[storeVar,Sem.run_bind,mB hs,Result.andThen_ok,ne_eq,not_true_eq_false,if_false]
 have:=zAm (P:=P) (off:=off) (ty:=ty) v.cells.toList 0 c w hb h1 (by simpa using ap)
 simpa using this
end
section
variable {P : Program} {n : Nat} {B : Base} {Q : Exit -> Act -> World -> Prop} {imm : Imm} {hs : List HA} {m : FM} {aa : List Oper} {pc d : Nat}
theorem pT{hs : List HA}{j : Nat}{A : HA}(h : hs[j]? = some A): A∈hs:=cQ h
theorem Good.readI{w : World}(h : Good B imm hs w){v : Value}{sz : Nat}{cs : List Value}(hs : SliceAt imm v sz cs):
 (∃p0 : Option Addr,v = .slice p0 0 0 /\ cs = []) ∨ ∃b off len cap c ty fr,v = .slice (some ⟨b,off,none⟩) len cap /\ w.heap[b]? = some (.cells c ty fr) /\ off+len*sz<=c.size /\ cs.length = len*sz /\ (c.toList.drop off).take (len*sz) = cs:=by
 rcases hs with h0|⟨b,off,len,cap,c,h1,h2,h3,_,h5⟩
 ·exact .inl h0
 ·obtain⟨ty,fr,e⟩:=h.inv b c h2
  exact .inr ⟨b,off,len,cap,c,ty,fr,h1,e,h3,h5⟩
theorem Good.readO{w : World}(h : Good B imm hs w){v : Value}{sz : Nat}{cs : List Value}(hm : HA.osl v sz cs∈hs):
 (v = .slice none 0 0 /\ cs = []) ∨ ∃b off len cap c ty fr,v = .slice (some ⟨b,off,none⟩) len cap /\ w.heap[b]? = some (.cells c ty fr) /\ off+len*sz<=c.size /\ cs.length = len*sz /\ (c.toList.drop off).take (len*sz) = cs:=by
 rcases h.own _ hm with h0|⟨b,off,len,cap,all,ty,h1,h2,h3,h4,h5,h6,h7,h8,_⟩
 ·exact .inl h0
 ·refine .inr ⟨b,off,len,cap,all,ty,_,h1,h4,?_,h7,h8⟩
  have:=cW sz h6
  omega
def idx{α : Type}(l : List α)(i : Int): Option α:=if 0<=i then l[i.toNat]? else none
theorem pP{α : Type}{l : List α}{i : Int}{y : α}(h : idx l i = some y): 0<=i /\ i<l.length /\ l[i.toNat]? = some y:=by
 unfold idx at h
 split at h
 ·rename_i h0
  refine⟨h0,?_,h⟩
  have:=(ck.1 h).1
  omega
 ·cases h
def elemT(P : Program)(t : TypeId): Option Nat:=match P.underlying t with|some (.slice e)=>sizeT P e|_=>none
theorem zC5{w : World}{t sz : Nat}{b off len cap : Nat}{k : IntKind}{i : Int}(ht : elemT P t = some sz)(h0 : 0<=i)(h1 : i<len):
 (Instr.indexAt t (.slice (some ⟨b,off,none⟩) len cap) (.int k i)).run P w = .ok (.pointer (some ⟨b,off+i.toNat*sz,none⟩)) w:=by
 unfold elemT at ht
 split at ht
 ·rename_i e hu
  simp[Instr.indexAt,asIntOf,xO hu,h0,h1,mB ht,dV]
 ·cases ht
theorem jC{a b s : Nat}(hs : 0<s)(h : a*s = b*s): a = b:=Nat.eq_of_mul_eq_mul_right hs h
theorem SL.form{α : Type}[Rp α]{v : Value}{l : List α}(h : SL imm v l): ∃a cap,v = .slice a l.length cap:=by
 obtain⟨aF,hsl,hr⟩:=h
 have aU:=hr.length
 rcases hsl with⟨p0,rfl,rfl⟩|⟨b,off,len,cap,c,rfl,_,_,_,bJ,_⟩
 ·have : l.length*Rp.sz α = 0*Rp.sz α:=by rw[<- aU];simp
  rw[jC (Rp.pos (α:=α)) this]
  exact⟨p0,0,rfl⟩
 ·have : len*Rp.sz α = l.length*Rp.sz α:=by omega
  rw[jC (Rp.pos (α:=α)) this]
  exact⟨_,cap,rfl⟩
theorem zKY{α : Type}[Rp α]{t : TypeId}{x xi : Operand}{ty : TypeId}{pos : String}{after : Array Edge}{g : Option (Nat × Bool)}{v : Value}{k : IntKind}{i : Int}{l : List α}{y : α}
 (ho : aa[pc]? = some ⟨some d,.indexAddr t x xi,ty,pos,after,g⟩) (hg : guardB aa m g = some true) (hn : Nat.blt d n = true) (hx : val m x = some v) (hi : val m xi = some (.int k i)) (ht : elemT P t = some (Rp.sz α))
 (aj : SL imm v l) (hy : idx l i = some y) (next : ∀ad aF,At imm ad aF -> Rp.rep imm aF y -> R P n B aa Q (pc+1) imm hs ((d,.pointer (some ad)) :: m)) : R P n B aa Q pc imm hs m:=by
 obtain⟨h0,h1,h2⟩:=pP hy
 obtain⟨aF,hsl,hr⟩:=aj
 refine fM ho hg rfl hn λa w f gd => ?_
 have aU:=hr.length
 obtain⟨aq,hbd⟩:=hr.at h2
 rcases hsl with⟨p0,rfl,rfl⟩|⟨b,off,len,cap,c,rfl,hc,ap,_,bJ,bN⟩
 ·have:=Rp.pos (α:=α)
  simp at hbd;omega
 ·have hll : len = l.length:=jC (Rp.pos (α:=α)) (by omega)
  subst hll
  have av : At imm ⟨b,off+i.toNat*Rp.sz α,none⟩ ((aF.drop (i.toNat*Rp.sz α)).take (Rp.sz α)):=by
   refine⟨b,_,c,rfl,hc,?_,?_⟩
   ·simp only[cv,cE];omega
   ·rw[<- cZ]
    conv=>rhs;rw[<- bN,ef,du]
    congr 1
    simp only[cv,cE]
    omega
  exact⟨_,w,imm,hs,by simp only[execOp,f.eval hx,f.eval hi,Sem.run_bind,zC5 ht h0 h1,Result.andThen_ok,Sem.run_pure],gd,next _ _ av aq⟩
theorem At.sub{ad : Addr}{cs cs' : List Value}(h : At imm ad cs)(o : Nat)(bt : Nat.ble o cs.length = true)(hc : (cs.drop o).take cs'.length = cs'): At imm (ad.add o) cs' := by
 obtain⟨b,off,c,rfl,hb,ap,he⟩:=h
 have bt:=cJ bt
 refine⟨b,off+o,c,dV ..,hb,?_,?_⟩
 ·have:=congrArg List.length hc
  simp only[cv,cE] at this
  omega
 ·rw[<- cZ]
  conv=>rhs;rw[<- hc,<- he,ef,du]
  congr 1
  have:=congrArg List.length hc
  simp only[cv,cE] at this
  omega
theorem zJY{t : TypeId}{x : Operand}{ty : TypeId}{pos : String}{after : Array Edge}{g : Option (Nat × Bool)}{ad : Addr}{cs cs' : List Value}{v : Value}(o : Nat)
 (ho : aa[pc]? = some ⟨some d,.load t x,ty,pos,after,g⟩) (hg : guardB aa m g = some true) (hn : Nat.blt d n = true) (av : At imm ad cs) (hx : val m x = some (.pointer (some (ad.add o))))
 (bt : Nat.ble o cs.length = true) (hc : (cs.drop o).take cs'.length = cs') (hv : loadV P t cs' = some v) (next : R P n B aa Q (pc+1) imm hs ((d,v) :: m)) : R P n B aa Q pc imm hs m:=by
 refine fM ho hg rfl hn λa w f gd => ?_
 obtain⟨b,off,c,e,hb,ap,he⟩:=av.sub o bt hc
 obtain⟨ty',fr,hw⟩:=gd.inv b c hb
 refine⟨v,w,imm,hs,?_,gd,next⟩
 simp only[execOp,f.eval hx,Instr.loadAt,Instr.sureAddr,Sem.run_bind,Sem.run_pure,Result.andThen_ok,e,dW hw ap he hv]
def zeroC(P : Program)(t : TypeId): Option (Array Value):=((P.info? t).bind (·.zero)).map Value.cells
theorem zAW{w : World}{t : TypeId}{c : Array Value}(h : zeroC P t = some c): ∃z,(zeroValue t).run P w = .ok z w /\ z.cells = c:=by
 unfold zeroC at h
 cases hi : P.info? t with
 | none=>rw[hi] at h;cases h
 | some i=>
  rw[hi] at h
  simp only[Option.bind_some] at h
  cases hz : i.zero with
  | none=>rw[hz] at h;cases h
  | some z=>
   rw[hz] at h
   simp only[Option.map_some,Option.some.injEq] at h
   exact⟨z,by simp[zeroValue,typeInfo,hi,hz],h⟩
theorem xT{t : TypeId}{ty : TypeId}{pos : String}{after : Array Edge}{g : Option (Nat × Bool)}{c : Array Value}
 (ho : aa[pc]? = some ⟨some d,.alloc t,ty,pos,after,g⟩) (hg : guardB aa m g = some true) (hn : Nat.blt d n = true) (hz : zeroC P t = some c)
 (next : ∀b,B.w0.heap.size<=b -> R P n B aa Q (pc+1) imm (.blk b c :: hs) ((d,.pointer (some ⟨b,0,none⟩)) :: m)) : R P n B aa Q pc imm hs m:=by
 refine fM ho hg rfl hn λa w f gd => ?_
 obtain⟨z,hz1,hz2⟩:=zAW (w:=w) hz
 refine⟨_,_,imm,_,?_,gd.alloc_blk c t,next w.heap.size gd.frm.size⟩
 simp[execOp,Instr.alloc,hz1,newVar,newRow,hz2]
theorem eX{t : TypeId}{x : Operand}{ty : TypeId}{pos : String}{after : Array Edge}{g : Option (Nat × Bool)}{v : Value}{c : Array Value}
 (ho : aa[pc]? = some ⟨some d,.box t x,ty,pos,after,g⟩) (hg : guardB aa m g = some true) (hn : Nat.blt d n = true) (hx : val m x = some v) (hc : v.cells = c)
 (next : ∀b,B.w0.heap.size<=b -> R P n B aa Q (pc+1) imm (.blk b c :: hs) ((d,.pointer (some ⟨b,0,none⟩)) :: m)) : R P n B aa Q pc imm hs m:=by
 refine fM ho hg rfl hn λa w f gd => ?_
 refine⟨_,_,imm,_,?_,gd.alloc_blk c t,next w.heap.size gd.frm.size⟩
 simp[execOp,Instr.box,f.eval hx,newVar,newRow,hc]
theorem zIe{t : TypeId}{x : Operand}{ty : TypeId}{pos : String}{after : Array Edge}{g : Option (Nat × Bool)}{b o : Nat}{c : Array Value}{cs : List Value}{v : Value}(j : Nat)
 (ho : aa[pc]? = some ⟨some d,.load t x,ty,pos,after,g⟩) (hg : guardB aa m g = some true) (hn : Nat.blt d n = true) (hj : hs[j]? = some (.blk b c)) (hx : val m x = some (.pointer (some ⟨b,o,none⟩)))
 (bt : Nat.ble (o+cs.length) c.size = true) (hc : (c.toList.drop o).take cs.length = cs) (hv : loadV P t cs = some v) (next : R P n B aa Q (pc+1) imm hs ((d,v) :: m)) : R P n B aa Q pc imm hs m:=by
 refine fM ho hg rfl hn λa w f gd => ?_
 obtain⟨_,_,ty',hw⟩:=gd.own _ (pT hj)
 refine⟨v,w,imm,hs,?_,gd,next⟩
 simp only[execOp,f.eval hx,Instr.loadAt,Instr.sureAddr,Sem.run_bind,Sem.run_pure,Result.andThen_ok,dW hw (cJ bt) hc hv]
theorem gY{α : Type}{A : α}: ∀{hs : List α} {j : Nat},hs[j]? = some A -> hs.Perm (A :: hs.eraseIdx j)
 | [],j,h=>by simp at h
 | x :: hs,0,h=>by simp at h;subst h;simp
 | x :: hs,j+1,h=>by
  have:=gY (hs:=hs) (j:=j) (by simpa using h)
  exact(this.cons x).trans (.swap ..)
theorem zGO{α : Type}{A : α}: ∀{hs : List α} {j : Nat},j<hs.length -> (hs.set j A).Perm (A :: hs.eraseIdx j)
 | [],j,h=>by simp at h
 | x :: hs,0,h=>by simp
 | x :: hs,j+1,h=>by
  have:=zGO (A:=A) (hs:=hs) (j:=j) (by simpa using h)
  exact(this.cons x).trans (.swap ..)
theorem Good.write_at{A A' : HA}{w : World}(h : Good B imm hs w){j : Nat}(hj : hs[j]? = some A){b : Nat}(hb : b∈A.fp)(hfp : A'.fp = A.fp)(o : Obj)(hA : A'.ok B imm (setBlk w b o)): Good B imm (hs.set j A') (setBlk w b o):=
 ((h.perm (gY hj).symm).write hb hfp o hA).perm (zGO (ck.1 hj).1)
theorem zIy{l : List Value}(h : l.all Value.oneCell' = true): ∀u∈l,u.oneCell' = true:=cb.1 h
theorem zHw{t : TypeId}{x y : Operand}{ty : TypeId}{pos : String}{after : Array Edge}{g : Option (Nat × Bool)}{b o : Nat}{c c' : Array Value}{v : Value}{aj : List HA}(j : Nat)
 (ho : aa[pc]? = some ⟨none,.store t x y,ty,pos,after,g⟩) (hg : guardB aa m g = some true) (hj : hs[j]? = some (.blk b c)) (hx : val m x = some (.pointer (some ⟨b,o,none⟩))) (hy : val m y = some v)
 (bv : sizeT P t = some v.cells.size) (bt : Nat.ble (o+v.cells.size) c.size = true) (bK : v.cells.toList.all Value.oneCell' = true) (hc : wr c o v.cells.toList = c') (hh : hs.set j (.blk b c') = aj)
 (next : R P n B aa Q (pc+1) imm aj m) : R P n B aa Q pc imm hs m:=by
 refine zIw ho hg rfl λa w f gd => ?_
 obtain⟨h1,h2,ty',hw⟩:=gd.own _ (pT hj)
 have hblt : b<w.heap.size:=((gd.own _ (pT hj)).lt (by simp[HA.fp])).1
 have hrun:=zE4 (P:=P) (t:=t) (off:=o) hw (zIy bK) (cJ bt) bv
 refine⟨setBlk w b (.cells (wr c o v.cells.toList) ty' (0,0)),imm,aj,?_,?_,next⟩
 ·simp only[execOp,f.eval hx,f.eval hy,Instr.storeAt,Instr.sureAddr,Sem.run_bind,Sem.run_pure,Result.andThen_ok,hrun]
 ·rw[<- hh]
  exact gd.write_at hj (by simp[HA.fp]) (by simp[HA.fp]) _ ⟨h1,h2,ty',by rw[hc];exact zBH hblt⟩
def elemZ(P : Program)(t : TypeId)(len : Nat)(parts : List (Nat × Value)): Option (Array Value):=
 match P.underlying t with
 | some (.slice e)=>match sizeT P e,(bif Nat.beq (len*(sizeT P e).getD 0) 0 then some #[] else zeroC P e) with
  | some s,some z=>bif Nat.ble (len*s) 65536 then Instr.fill (λi=>some (i*s,s)) ((Array.range (len*s)).map (z[· % z.size]!)) parts else none
  | _,_=>none
 | _=>none
theorem zGP{w : World}{t len : Nat}{parts : List (Nat × Value)}{c : Array Value}(h : elemZ P t len parts = some c):
 ∃e,(Instr.buildSlice t len parts.toArray).run P w = .ok (.slice (some ⟨w.heap.size,0,none⟩) len len) { w with heap:=w.heap.push (.cells c e) }:=by
 unfold elemZ at h
 split at h
 ·rename_i e hu
  split at h
  ·rename_i s z hs hz
   cases hb : Nat.ble (len*s) 65536 with
   | false=>rw[hb] at h;cases h
   | true=>
    rw[hb] at h
    simp only[cond_true] at h
    have ap : ¬ (len*s>2 ^ 24):=by have:=cJ hb;omega
    rw[hs] at hz
    simp only[Option.getD_some] at hz
    refine⟨e,?_⟩
    simp only[Instr.buildSlice,Sem.run_bind,xO hu,Result.andThen_ok,mB hs,ap,if_false]
    cases hq : Nat.beq (len*s) 0 with
    | true=>
     rw[hq] at hz
     simp only[cond_true,Option.some.injEq] at hz
     subst hz
     rw[if_pos (cC hq)]
     simp only[Sem.run_bind,Sem.run_pure,Result.andThen_ok]
     rw[h]
     simp only[newRow,Sem.run_bind,run_newObj,Result.andThen_ok,Sem.run_pure]
    | false=>
     rw[hq] at hz
     simp only[cond_false] at hz
     have hne : len*s ≠ 0:=λe=>by rw[e] at hq;simp at hq
     obtain⟨zv,hz1,hz2⟩:=zAW (w:=w) hz
     rw[if_neg hne]
     simp only[Sem.run_bind,Sem.run_pure,Result.andThen_ok,hz1,hz2]
     rw[h]
     simp only[newRow,Sem.run_bind,run_newObj,Result.andThen_ok,Sem.run_pure]
  ·cases h
 ·cases h
theorem zHx(L vs : List Value)(off N a : Nat)(h1 : a+vs.length<=N)(h2 : off+N<=L.length):
 ((L.take (off+a)++vs++L.drop (off+a+vs.length)).drop off).take N = ((L.drop off).take N).take a++vs++((L.drop off).take N).drop (a+vs.length):=by
 apply ez
 intro q
 simp only[d8,eu,List.getElem?_append,cO,cv,cE]
 grind
theorem nM{t len : Nat}{parts : Array (Nat × Operand)}{ty : TypeId}{pos : String}{after : Array Edge}{g : Option (Nat × Bool)}{ps : List (Nat × Value)}{cs : List Value}(sz : Nat)
 (ho : aa[pc]? = some ⟨some d,.buildSlice t len parts,ty,pos,after,g⟩) (hg : guardB aa m g = some true) (hn : Nat.blt d n = true) (hps : pvals m parts.toList = some ps) (hc : elemZ P t len ps = some ⟨cs⟩) (hl : Nat.beq cs.length (len*sz) = true)
 (next : ∀b,B.w0.heap.size<=b -> R P n B aa Q (pc+1) imm (.osl (.slice (some ⟨b,0,none⟩) len len) sz cs :: hs) ((d,.slice (some ⟨b,0,none⟩) len len) :: m)) (hlM : Nat.ble len 9223372036854775807 = true:=by rfl) : R P n B aa Q pc imm hs m:=by
 refine fM ho hg rfl hn λa w f gd => ?_
 obtain⟨e,hrun⟩:=zGP (w:=w) hc
 have hv:=f.pevals hps
 have hp : (parts.map λ(i,x)=>(i,a.eval x)) = ps.toArray:=by apply Array.ext';rw[dg];exact hv
 have hl:=cC hl
 refine⟨_,_,imm,_,?_,gd.alloc_osl ⟨cs⟩ e sz len len cs (by simp[hl]) (cH _) (by simp[<- hl]) hl (cJ hlM),next w.heap.size gd.frm.size⟩
 simp only[execOp,hp,Sem.run_bind,hrun,Result.andThen_ok,Sem.run_pure]
theorem Good.osl_form{w : World}(h : Good B imm hs w){α : Type}{ρ : List Value -> α -> Prop}{v : Value}{sz : Nat}{cs : List Value}{l : List α}(hm : HA.osl v sz cs∈hs)(bv : 0<sz)(hr : RepL ρ sz cs l): ∃a cap,v = .slice a l.length cap:=by
 have aU:=hr.length
 rcases h.readO hm with⟨rfl,rfl⟩|⟨b,off,len,cap,c,ty,fr,rfl,_,_,bJ,_⟩
 ·have : l.length*sz = 0*sz:=by rw[<- aU];simp
  rw[jC bv this]
  exact⟨none,0,rfl⟩
 ·have : len*sz = l.length*sz:=by omega
  rw[jC bv this]
  exact⟨_,cap,rfl⟩
theorem zIf{α : Type}[Rp α]{v : Value}{cs : List Value}{l : List α}(j : Nat)(hj : hs[j]? = some (.osl v (Rp.sz α) cs))(hr : RepL (Rp.rep imm) (Rp.sz α) cs l)
 (next : ∀a cap,v = .slice a l.length cap -> R P n B aa Q pc imm hs m) : R P n B aa Q pc imm hs m:=λa w f g=>by
 obtain⟨ad,cap,e⟩:=g.osl_form (pT hj) Rp.pos hr
 exact next ad cap e a w f g
def AtO(v : Value)(sz i : Nat)(ad : Addr): Prop := ∃b off len cap,v = .slice (some ⟨b,off,none⟩) len cap /\ ad = ⟨b,off+i*sz,none⟩ /\ i<len
theorem zHy{α : Type}[Rp α]{t : TypeId}{x xi : Operand}{ty : TypeId}{pos : String}{after : Array Edge}{g : Option (Nat × Bool)}{v : Value}{k : IntKind}{i : Int}{cs : List Value}{l : List α}{y : α}(j : Nat)
 (ho : aa[pc]? = some ⟨some d,.indexAddr t x xi,ty,pos,after,g⟩) (hg : guardB aa m g = some true) (hn : Nat.blt d n = true) (hj : hs[j]? = some (.osl v (Rp.sz α) cs)) (hx : val m x = some v) (hi : val m xi = some (.int k i)) (ht : elemT P t = some (Rp.sz α))
 (hr : RepL (Rp.rep imm) (Rp.sz α) cs l) (hy : idx l i = some y)
 (next : ∀ad cc,AtO v (Rp.sz α) i.toNat ad -> (cs.drop (i.toNat*Rp.sz α)).take (Rp.sz α) = cc -> Rp.rep imm cc y -> R P n B aa Q (pc+1) imm hs ((d,.pointer (some ad)) :: m)) : R P n B aa Q pc imm hs m:=by
 obtain⟨h0,h1,h2⟩:=pP hy
 refine fM ho hg rfl hn λa w f gd => ?_
 have aU:=hr.length
 obtain⟨aq,hbd⟩:=hr.at h2
 rcases gd.readO (pT hj) with⟨rfl,rfl⟩|⟨b,off,len,cap,c,ty',fr,rfl,hw,ap,bJ,bN⟩
 ·have:=Rp.pos (α:=α)
  simp at hbd;omega
 ·have hll : len = l.length:=jC (Rp.pos (α:=α)) (by omega)
  subst hll
  exact⟨_,w,imm,hs,by simp only[execOp,f.eval hx,f.eval hi,Sem.run_bind,zC5 ht h0 h1,Result.andThen_ok,Sem.run_pure],gd,next _ _ ⟨b,off,_,cap,rfl,rfl,by omega⟩ rfl aq⟩
theorem zIg{t : TypeId}{x : Operand}{ty : TypeId}{pos : String}{after : Array Edge}{g : Option (Nat × Bool)}{v0 : Value}{sz i : Nat}{ad : Addr}{cs cc cc' : List Value}{v : Value}(j o : Nat)
 (ho : aa[pc]? = some ⟨some d,.load t x,ty,pos,after,g⟩) (hg : guardB aa m g = some true) (hn : Nat.blt d n = true) (hj : hs[j]? = some (.osl v0 sz cs)) (av : AtO v0 sz i ad) (hx : val m x = some (.pointer (some (ad.add o))))
 (bP : (cs.drop (i*sz)).take sz = cc) (bt : Nat.ble (o+cc'.length) sz = true) (hc : (cc.drop o).take cc'.length = cc') (hv : loadV P t cc' = some v) (next : R P n B aa Q (pc+1) imm hs ((d,v) :: m)) : R P n B aa Q pc imm hs m:=by
 refine fM ho hg rfl hn λa w f gd => ?_
 obtain⟨b,off,len,cap,rfl,rfl,hi⟩:=av
 have bt:=cJ bt
 have bX : i*sz+sz<=len*sz:=by have:=cW sz hi;rw[dk] at this;exact this
 rcases gd.readO (pT hj) with⟨e,_⟩|⟨b',off',len',cap',c,ty',fr,e,hw,ap,bJ,bN⟩
 ·cases e
 ·injection e with e1 e2 e3
  injection e1 with e1
  injection e1 with e1 e4 e5
  subst e1;subst e4;subst e2
  refine⟨v,w,imm,hs,?_,gd,next⟩
  have hcells : (c.toList.drop (off+i*sz+o)).take cc'.length = cc' := by
   conv=>rhs;rw[<- hc,<- bP,<- bN]
   simp only[ef,du,cZ]
   rw[show off+i*sz+o = off+(i*sz+o) from by omega]
   congr 1
   omega
  simp only[execOp,f.eval hx,Instr.loadAt,Instr.sureAddr,Sem.run_bind,Sem.run_pure,Result.andThen_ok,dV,dW hw (by omega) hcells hv]
theorem zHz{t : TypeId}{x z : Operand}{ty : TypeId}{pos : String}{after : Array Edge}{g : Option (Nat × Bool)}{v0 : Value}{sz i : Nat}{ad : Addr}{cs : List Value}{v : Value}{aj : List HA}(j o : Nat)
 (ho : aa[pc]? = some ⟨none,.store t x z,ty,pos,after,g⟩) (hg : guardB aa m g = some true) (hj : hs[j]? = some (.osl v0 sz cs)) (av : AtO v0 sz i ad) (hx : val m x = some (.pointer (some (ad.add o)))) (hz : val m z = some v)
 (bv : sizeT P t = some v.cells.size) (bt : Nat.ble (o+v.cells.size) sz = true) (bK : v.cells.toList.all Value.oneCell' = true)
 (hh : hs.set j (.osl v0 sz (cs.take (i*sz+o)++v.cells.toList++cs.drop (i*sz+o+v.cells.size))) = aj) (next : R P n B aa Q (pc+1) imm aj m) : R P n B aa Q pc imm hs m:=by
 refine zIw ho hg rfl λa w f gd => ?_
 obtain⟨b,off,len,cap,rfl,rfl,hi⟩:=av
 have bt:=cJ bt
 have bX : i*sz+sz<=len*sz:=by have:=cW sz hi;rw[dk] at this;exact this
 rcases gd.own _ (pT hj) with⟨e,_⟩|⟨b',off',len',cap',all,ty',e,h1,h2,hw,h4,h5,h6,h7,h8⟩
 ·cases e
 ·injection e with e1 e2 e3
  injection e1 with e1
  injection e1 with e1 e4 e5
  subst e1;subst e4;subst e2;subst e3
  have hcm:=cW sz h5
  have hblt : b<w.heap.size:=((gd.own _ (pT hj)).lt (by simp[HA.fp])).1
  have hrun:=zE4 (P:=P) (t:=t) (off:=off+i*sz+o) hw (zIy bK) (by omega) bv
  refine⟨setBlk w b (.cells (wr all (off+i*sz+o) v.cells.toList) ty' (0,0)),imm,aj,?_,?_,next⟩
  ·simp only[execOp,f.eval hx,f.eval hz,Instr.storeAt,Instr.sureAddr,Sem.run_bind,Sem.run_pure,Result.andThen_ok,dV,hrun]
  ·rw[<- hh]
   refine gd.write_at hj (by simp[HA.fp]) (by simp[HA.fp]) _ (.inr ⟨b,off,len,cap,_,ty',rfl,h1,h2,zBH hblt,by rw[zIx];exact h4,h5,?_,?_,h8⟩)
   ·simp only[cO,cv,cE,dm];omega
   ·rw[zHG _ _ _ (by simpa using(by omega : off+i*sz+o+v.cells.size<=all.size))]
    rw[<- h7]
    have:=zHx all.toList v.cells.toList off (len*sz) (i*sz+o) (by simpa using(by omega : i*sz+o+v.cells.size<=len*sz)) (by simpa using(by omega : off+len*sz<=all.size))
    simpa [dr] using this
end
section
variable {P : Program} {n : Nat} {B : Base} {Q : Exit -> Act -> World -> Prop} {imm : Imm} {hs : List HA} {m : FM} {aa : List Oper} {pc d : Nat}
def elemOfT(P : Program)(t : TypeId): Option TypeId:=match P.underlying t with|some (.slice e)=>some e|_=>none
def bytesT(P : Program)(t : TypeId): Option Nat:=(P.info? t).map (·.bytes)
def Src(imm : Imm)(hs : List HA)(v : Value)(sz : Nat)(cs : List Value): Prop:=SliceAt imm v sz cs ∨ ∃j : Nat,hs[j]? = some (.osl v sz cs)
theorem Src.read{w : World}(h : Good B imm hs w){v : Value}{sz : Nat}{cs : List Value}(s : Src imm hs v sz cs):
 (∃p0 : Option Addr,v = .slice p0 0 0 /\ cs = []) ∨ ∃b off len cap c ty fr,v = .slice (some ⟨b,off,none⟩) len cap /\ w.heap[b]? = some (.cells c ty fr) /\ off+len*sz<=c.size /\ cs.length = len*sz /\ (c.toList.drop off).take (len*sz) = cs:=by
 rcases s with s|⟨j,hj⟩
 ·exact h.readI s
 ·rcases h.readO (pT hj) with h0|h0
  ·exact .inl ⟨none,h0⟩
  ·exact .inr h0
theorem Src.first{w : World}(h : Good B imm hs w){v : Value}{sz k : Nat}{cs : List Value}(s : Src imm hs v sz cs)(hk : cs.length = k*sz)(bv : 0<sz):
 (Builtin.lenOf v).run P w = .ok k w /\ ∀w' : World,w'.heap = w.heap -> (Builtin.firstCells sz k v).run P w' = .ok ⟨cs⟩ w' := by
 rcases s.read h with⟨p0,rfl,rfl⟩|⟨b,off,len,cap,c,ty,fr,rfl,hw,ap,bJ,bN⟩
 ·have : k = 0:=by
   have : k*sz = 0:=by simpa using hk.symm
   rcases Nat.mul_eq_zero.1 this with h|h
   ·exact h
   ·omega
  subst this
  cases p0 with
  | none=>exact⟨rfl,λw' _=>rfl⟩
  | some a0=>exact⟨rfl,λw' _=>by simp only[Builtin.firstCells,Nat.zero_mul];rfl⟩
 ·have : k = len:=jC bv (by omega)
  subst this
  refine⟨rfl,λw' hw' => ?_⟩
  simp only[Builtin.firstCells]
  rw[zBW (by rw[hw'];exact hw) ap]
  congr 1
  apply Array.ext'
  simpa [eo,d5] using bN
theorem zGQ(z : Array Value)(k : Nat): (Builtin.zeroCells z k).size = k*z.size:=by simp[Builtin.zeroCells]
theorem zIh{w : World}(h : Good B imm hs w){t t2 e : TypeId}{ty : TypeId}{sz bytes : Nat}{zc : Array Value}{v vx : Value}{cs aF : List Value}{k1 k2 : Nat}(j : Nat)
 (ht : P.underlying t = some (.slice e)) (ht2 : P.underlying t2 = some (.slice e)) (bv : sizeT P e = some sz) (hby : bytesT P e = some bytes) (hz : zeroC P e = some zc) (hzs : zc.size = sz) (hs0 : 0<sz) (hb0 : 0<bytes)
 (hj : hs[j]? = some (.osl v sz cs)) (hk1 : cs.length = k1*sz) (s : Src imm hs vx sz aF) (hk2 : aF.length = k2*sz) (h1 : ∀u∈aF,u.oneCell' = true) (hb : (k1+k2)*bytes<=140737488355328) :
 ∃v' w',(Builtin.append_ #[t,t2] ty #[v,vx]).run P w = .ok v' w' /\ Good B imm (hs.set j (.osl v' sz (cs++aF))) w' /\ (∀b∈(HA.osl v' sz (cs++aF)).fp,b∈(HA.osl v sz cs).fp∨B.w0.heap.size<=b):=by
 obtain⟨aU,hfirst⟩:=Src.first (P:=P) h s hk2 hs0
 obtain⟨hlen1,hfirst1⟩:=Src.first (P:=P) h (.inr ⟨j,hj⟩) hk1 hs0
 have hjlt:=(ck.1 hj).1
 cases hie : P.info? e with
 | none=>simp[sizeT,hie] at bv
 | some ie=>
 have hsz' : ie.size = sz:=by simpa [sizeT,hie] using bv
 have hby' : ie.bytes = bytes:=by simpa [bytesT,hie] using hby
 have h63 : ¬ (((k1+k2 : Nat) : Int)>IntKind.i64.max):=by
  have : k1+k2<=(k1+k2)*bytes:=Nat.le_mul_of_pos_right _ hb0
  have hm : IntKind.i64.max = 9223372036854775807:=by decide
  rw[hm]
  omega
 -- a new row
 have grow : ∀(base : Option Addr) (cap : Nat),v = .slice base k1 cap -> cap<k1+k2 ->
  ∃v' w',(Builtin.append_ #[t,t2] ty #[v,vx]).run P w = .ok v' w' /\ Good B imm (hs.set j (.osl v' sz (cs++aF))) w' /\ (∀b∈(HA.osl v' sz (cs++aF)).fp,b∈(HA.osl v sz cs).fp∨B.w0.heap.size<=b):=by
  intro base cap hv aH
  have hnx:=growslice_fits (bytes:=ie.bytes) aH (by rw[hby'];exact hb)
  obtain⟨zv,hz1,hz2⟩:=zAW (w := { w with drawn:=w.drawn+1 }) hz
  let q : Question:=.appendCap (k1+k2) cap e
  let nc:=q.cut (w.tape w.drawn q)
  have hnc : k1+k2<=nc:=Nat.le_add_right _ _
  let row : Array Value:=(⟨cs⟩ : Array Value)++⟨aF⟩++Builtin.zeroCells zc (nc - (k1+k2))
  have hrow : row.size = nc*sz:=by
   simp only[row,Array.size_append,zGQ,hzs]
   show cs.length+aF.length+_ = _
   rw[hk1,hk2,<- d9,<- d9];congr 1;omega
  have hg:=(h.draw (w.drawn+1) (Nat.le_succ _)).alloc_osl row e sz (k1+k2) nc (cs++aF) (by rw[hrow];exact cH _) hnc
   (by simp only[row,Array.toList_append]
       rw[List.take_append_of_le_length (by simp[hk1,hk2,d9])]
       rw[cT (by simp[hk1,hk2,d9])])
   (by rw[cO,hk1,hk2,d9])
   (by
    have hm : IntKind.i64.max = 9223372036854775807:=by decide
    rw[hm] at h63
    have hq0 : nc = (k1+k2)+(w.tape w.drawn q) % (2 ^ 63 - (k1+k2)):=rfl
    have:=Nat.mod_lt (w.tape w.drawn q) (show 0<2 ^ 63 - (k1+k2) by omega)
    omega)
  refine⟨.slice (some ⟨w.heap.size,0,none⟩) (k1+k2) nc,{ w with drawn:=w.drawn+1,heap:=w.heap.push (.cells row e) },?_,?_,?_⟩
  ·subst hv
   have e1:=hfirst1 { w with drawn:=w.drawn+1 } rfl
   have e2:=hfirst { w with drawn:=w.drawn+1 } rfl
   have hneed : ¬ (k1+k2<=cap):=by omega
   have hq : (Question.appendCap (k1+k2) cap e).forced = false:=rfl
   simp only[Builtin.append_,Sem.run_bind,xO ht,xO ht2,Result.andThen_ok,mB bv,aU,bY,if_false,Sem.run_pure,
    dt,ec,ed,hneed,h63,false_and,typeInfo,run_program,hie]
   have hnx' : ¬ (Builtin.nextslicecap (k1+k2) cap*ie.bytes>2 ^ 48):=by omega
   simp only[hnx',if_false,Sem.run_bind,run_choose,hq,bY,Result.andThen_ok,run_askRoom,run_program,hie,e1,e2,Sem.run_pure,df,if_true,hz1,hz2,newRow,run_newObj]
   rfl
  ·have hp : (hs.set j (.osl (.slice (some ⟨w.heap.size,0,none⟩) (k1+k2) nc) sz (cs++aF))).Perm (_ :: hs.eraseIdx j):=zGO hjlt
   have hp2:=gY hj
   refine Good.perm (Good.sub hg (aj:=_ :: hs.eraseIdx j) (λA hA => ?_) ?_) hp
   ·rcases cP.1 hA with rfl|hA
    ·exact ci ..
    ·exact cd _ (hp2.mem_iff.2 (cd _ hA))
   ·have bH:=hg.nodup
    rw[cg] at bH ⊢
    obtain⟨n1,n2,n3⟩:=cz.1 bH
    have n4:=(hp2.flatMap_right HA.fp).nodup_iff.1 n2
    rw[cg] at n4
    refine cz.2 ⟨n1,(cz.1 n4).2.1,λx hx y hy=>n3 x hx y ?_⟩
    exact(hp2.flatMap_right HA.fp).mem_iff.2 (by rw[cg];exact cR _ hy)
  ·intro b hb
   simp only[HA.fp,dc] at hb
   subst hb
   exact .inr h.frm.size
 rcases h.own _ (pT hj) with⟨rfl,rfl⟩|⟨b,off,len,cap,all,ty',rfl,hp1,hp2,hw,hcap,hlc,bJ,bN,hcM⟩
 ·have hk0 : k1 = 0:=by
   have : k1*sz = 0:=by simpa using hk1.symm
   rcases Nat.mul_eq_zero.1 this with h|h
   ·exact h
   ·omega
  subst hk0
  rcases Nat.eq_zero_or_pos k2 with h0|h0
  ·subst h0
   have : aF = []:=List.eq_nil_of_length_eq_zero (by simpa using hk2)
   subst this
   refine⟨.slice none 0 0,w,?_,?_,by simp[HA.fp]⟩
   ·simp only[Builtin.append_,Sem.run_bind,xO ht,xO ht2,Result.andThen_ok,mB bv,aU,bY,if_false,Sem.run_pure,
     dt,ec,ed,Nat.add_zero,cH,if_true,df,hfirst w rfl]
   ·have : hs.set j (.osl (.slice none 0 0) sz ([]++[])) = hs:=by
     obtain⟨h1,h2⟩:=ck.1 hj
     rw[ce,<- h2,List.set_getElem_self]
    rw[this];exact h
  ·exact grow none 0 rfl (by omega)
 ·have hll : k1 = len:=jC hs0 (by omega)
  subst hll
  by_cases hroom : k1+k2<=cap
  ·have hfit : off+k1*sz+aF.length<=all.size:=by
    rw[hk2]
    have:=cW sz hroom
    rw[d9] at this
    omega
   have hst:=zAm (P:=P) (off:=off+k1*sz) aF 0 all w hw h1 (by omega)
   have hblt : b<w.heap.size:=((h.own _ (pT hj)).lt (by simp[HA.fp])).1
   refine⟨.slice (some ⟨b,off,none⟩) (k1+k2) cap,setBlk w b (.cells (wr all (off+k1*sz) aF) ty' (0,0)),?_,?_,λb' hb' => .inl (by simpa [HA.fp] using hb')⟩
   ·simp only[Builtin.append_,Sem.run_bind,xO ht,xO ht2,Result.andThen_ok,mB bv,aU,bY,if_false,Sem.run_pure,
     dt,ec,ed,hroom,if_true,df,hfirst w rfl,dV]
    simp only[Nat.add_zero] at hst
    rw[hst]
    rfl
   ·refine h.write_at hj (by simp[HA.fp]) (by simp[HA.fp]) _ (.inr ⟨b,off,k1+k2,cap,_,ty',rfl,hp1,hp2,zBH hblt,by rw[zIx];exact hcap,hroom,by rw[cO,hk1,hk2,d9],?_,hcM⟩)
    rw[zHG _ _ _ hfit,<- bN]
    have hl1 : k1*sz<=(List.drop off all.toList).length:=by simp;omega
    rw[d9,<- hk2]
    apply ez
    intro q
    simp only[d8,eu,List.getElem?_append,cO,cv,cE,dm]
    grind
  ·exact grow _ cap rfl (by omega)
def appT(P : Program)(t : TypeId): Option (TypeId × Nat × Nat × Nat):=
 match elemOfT P t with
 | some e=>match sizeT P e,bytesT P e,zeroC P e with
  | some s,some b,some z=>bif Nat.beq z.size s&&Nat.blt 0 b then some (e,s,b,z.size) else none
  | _,_,_=>none
 | none=>none
theorem zJj{α : Type}[Rp α]{t t2 : TypeId}{x1 x2 : Operand}{ty : TypeId}{pos : String}{after : Array Edge}{g : Option (Nat × Bool)}{v vx : Value}{cs aF : List Value}{l l2 : List α}{e by' zs : Nat}(j : Nat)
 (ho : aa[pc]? = some ⟨some d,.call { callee:=.builtin .append,args := #[x1,x2],argTypes := #[t,t2] },ty,pos,after,g⟩) (hg : guardB aa m g = some true) (hn : Nat.blt d n = true)
 (hx : val m x1 = some v) (hy : val m x2 = some vx) (ht : appT P t = some (e,Rp.sz α,by',zs)) (ht2 : appT P t2 = some (e,Rp.sz α,by',zs)) (hj : hs[j]? = some (.osl v (Rp.sz α) cs)) (hr : RepL (Rp.rep imm) (Rp.sz α) cs l)
 (s : Src imm hs vx (Rp.sz α) aF) (hr2 : RepL (Rp.rep imm) (Rp.sz α) aF l2) (hb : (l.length+l2.length)*by'<=140737488355328)
 (next : ∀v' cs' aj,(∀b∈(HA.osl v' (Rp.sz α) cs').fp,b∈(HA.osl v (Rp.sz α) cs).fp∨B.w0.heap.size<=b) -> RepL (Rp.rep imm) (Rp.sz α) cs' (l++l2) -> hs.set j (.osl v' (Rp.sz α) cs') = aj -> R P n B aa Q (pc+1) imm aj ((d,v') :: m)) : R P n B aa Q pc imm hs m:=by
 refine fM ho hg rfl hn λa w f gd => ?_
 have open1 : ∀{t : TypeId},appT P t = some (e,Rp.sz α,by',zs) -> P.underlying t = some (.slice e) /\ sizeT P e = some (Rp.sz α) /\ bytesT P e = some by' /\ (∃z,zeroC P e = some z /\ z.size = Rp.sz α) /\ 0<by' := λ{t} h=>by
  unfold appT at h
  split at h
  ·rename_i e' he
   split at h
   ·rename_i s b z h1 h2 h3
    cases hq : (Nat.beq z.size s&&Nat.blt 0 b) with
    | false=>rw[hq] at h;cases h
    | true=>
     rw[hq] at h
     simp only[cond_true,Option.some.injEq,Prod.mk.injEq] at h
     obtain⟨rfl,rfl,rfl,rfl⟩:=h
     rw[cy] at hq
     unfold elemOfT at he
     split at he
     ·rename_i e2 hu;cases he
      exact⟨hu,h1,h2,⟨z,h3,cC hq.1⟩,by simpa using hq.2⟩
     ·cases he
   ·cases h
  ·cases h
 obtain⟨h1,h2,h3,⟨z,h4,h5⟩,h6⟩:=open1 ht
 obtain⟨h1',_⟩:=open1 ht2
 obtain⟨v',w',hrun,hgood,hnew⟩:=zIh (P:=P) (ty:=ty) gd j h1 h1' h2 h3 h4 h5 Rp.pos h6 hj hr.length s hr2.length (RepL.one (λ_ _=>Rp.one) hr2) hb
 refine⟨v',w',imm,_,?_,hgood,next v' _ _ hnew (hr.append hr2) rfl⟩
 simp only[execOp,resolve,List.map_toArray,cA,ee,f.eval hx,f.eval hy,Sem.run_bind,Sem.run_pure,Result.andThen_ok,invoke,builtin,hrun]
theorem SliceAt.cut{α : Type}{ρ : List Value -> α -> Prop}{v : Value}{sz : Nat}{aF : List Value}{l : List α}{i k : Nat}(hs : SliceAt imm v sz aF)(hr : RepL ρ sz aF l)(bv : 0<sz)(h1 : i<=k)(h2 : k<=l.length):
 ∀a len cap,v = .slice a len cap -> SliceAt imm (.slice (if cap = i then a else a.map (·.add (i*sz))) (k - i) (cap - i)) sz ((aF.take (k*sz)).drop (i*sz)) /\ RepL ρ sz ((aF.take (k*sz)).drop (i*sz)) ((l.take k).drop i):=by
 intro a len cap hv
 have aq:=(hr.take k).drop i
 refine⟨?_,aq⟩
 have aU:=aq.length
 simp only[cE,cv] at aU
 rcases hs with⟨p0,rfl,rfl⟩|⟨b,off,len',cap',c,rfl,hc,ap,hlc,bJ,bN⟩
 ·injection hv with e1 e2 e3
  subst e1;subst e2;subst e3
  have : l.length*sz = 0:=by rw[<- hr.length];rfl
  have hl0 : l.length = 0:=by rcases Nat.mul_eq_zero.1 this with h|h <;> omega
  have : k = 0:=by omega
  subst this
  have : i = 0:=by omega
  subst this
  exact .inl ⟨_,rfl,by simp⟩
 ·injection hv with e1 e2 e3
  subst e1;subst e2;subst e3
  have hll : len' = l.length:=jC bv (by rw[<- bJ];exact hr.length)
  subst hll
  have hkm:=cW sz h2
  have bX:=cW sz h1
  by_cases hci : cap' = i
  ·refine .inr ⟨b,off,k - i,cap' - i,c,by simp[hci],hc,?_,by omega,?_,?_⟩
   ·have : k - i = 0:=by omega
    rw[this];omega
   ·have h0 : k - i = 0:=by omega
    have h4 : k*sz = i*sz:=by congr 1;omega
    simp only[cE,cv]
    rw[h0];omega
   ·have h0 : k - i = 0:=by omega
    have h4 : k*sz = i*sz:=by congr 1;omega
    rw[h0,h4]
    simp
  ·refine .inr ⟨b,off+i*sz,k - i,cap' - i,c,by simp[hci,dV],hc,?_,by omega,?_,?_⟩
   ·rw[Nat.sub_mul];omega
   ·simp only[cE,cv,Nat.sub_mul];omega
   ·rw[<- bN,du,ef,cZ,Nat.sub_mul]
    congr 1
    omega
end
end Go.LN
