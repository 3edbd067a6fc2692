/- Helper of the proof (see the last text). -/
import Derived.WalkKit
import Derived.Orders
import Derived.Below
import Derived.LoopN
import Derived.KernelRfl
import Derived.Laws.Strings
import Derived.Laws.NewBlocks
import Derived.Laws.AppendOwn
set_option linter.unusedVariables false
set_option linter.unusedSimpArgs false
namespace Go.LN
abbrev xp:=@Option.bind_some
abbrev xq:=@Bool.false_eq_true
abbrev xr:=@Option.bind_eq_bind
abbrev xt:=@if_false
abbrev xu:=@if_true
abbrev xv:=@Bool.and_eq_true
abbrev xw:=@Option.pure_def
abbrev xx:=@List.mem_cons_of_mem
abbrev xy:=@List.length_cons
abbrev xz:=@List.mem_cons_self
abbrev ya:=@List.getElem?_eq_getElem
abbrev yb:=@List.all_eq_true
abbrev yc:=@List.length_append
abbrev yd:=@decide_eq_true_eq
abbrev ye:=@decide_false
abbrev yf:=@List.flatMap_cons
abbrev yg:=@decide_true
abbrev yh:=@List.mem_cons
abbrev yi:=@List.getElem?_eq_some_iff
abbrev yj:=@beq_eq_false_iff_ne
abbrev yk:=@List.append_nil
abbrev yl:=@List.length_take
abbrev ym:=@List.length_map
abbrev yn:=@List.drop_zero
abbrev yo:=@List.length_nil
abbrev yp:=@List.drop_eq_getElem_cons
abbrev yq:=@List.mem_singleton
abbrev yr:=@List.mem_append
abbrev yt:=@List.length_drop
abbrev yu:=@List.append_assoc
abbrev yv:=@Nat.zero_add
abbrev yw:=@List.drop_eq_nil_iff
abbrev yx:=@Bool.not_false
abbrev yy:=@List.nil_append
abbrev yz:=@Bool.true_and
abbrev y0:=@Bool.not_true
abbrev za:=@Nat.le_of_ble_eq_true
abbrev zb:=@List.take_of_length_le
abbrev zd:=@List.mem_flatMap
abbrev ze:=@List.cons_append
abbrev zf:=@Nat.le_refl
abbrev zg:=@List.mem_range
abbrev zh:=@List.all_cons
abbrev zi:=@List.mem_map
abbrev zj:=@List.mem_of_getElem?
abbrev zk:=@List.length_set
abbrev zl:=@List.map_cons
abbrev zm:=@Nat.eq_of_beq_eq_true
abbrev zn:=@List.nodup_append
abbrev zo:=@Array.getD_eq_getD_getElem?
abbrev zp:=@List.getD_eq_getElem?_getD
abbrev zq:=@Int.toNat_natCast
abbrev zr:=@List.drop_drop
abbrev zt:=@Nat.zero_le
abbrev zu:=@List.flatMap_append
abbrev zw:=@Nat.le_trans
abbrev zx:=@Option.getD_some
abbrev zy:=@Nat.mul_le_mul_right
abbrev zz:=@Array.getElem?_eq_getElem
abbrev z6:=@Nat.lt_or_ge
abbrev z7:=@List.take_length
abbrev z8:=@List.not_mem_nil
abbrev Aa:=@Int.natCast_zero
abbrev Ab:=@List.take_add_one
abbrev Ac:=@List.perm_append_comm
abbrev Ad:=@List.mem_append_left
abbrev Ae:=@List.getElem?_map
abbrev Af:=@Array.getElem?_setIfInBounds_ne
abbrev Ag:=@Nat.succ_mul
abbrev Ah:=@List.flatMap_map
abbrev Ai:=@List.length_singleton
abbrev Aj:=@List.getElem?_eq_none
abbrev Ak:=@List.findIdx?_eq_some_iff_getElem
abbrev Al:=@List.extract_eq_take_drop
abbrev Am:=@Bool.or_eq_true
abbrev Ao:=@List.mem_iff_getElem
abbrev Ap:=@List.replicate_succ
abbrev Aq:=@Array.length_toList
abbrev Ar:=@List.not_any_eq_all_not
abbrev As:=@List.mem_nil_iff
abbrev Au:=@List.flatMap_nil
abbrev Av:=@Array.toList_map
abbrev Aw:=@List.eq_nil_of_length_eq_zero
abbrev Ax:=@List.getElem?_take
abbrev Ay:=@Array.getElem?_eq_none
abbrev Az:=@decide_eq_false
abbrev AA:=@List.mem_filter
abbrev AB:=@Nat.add_assoc
abbrev AC:=@List.getElem?_toArray
abbrev AD:=@Nat.pow_le_pow_right
abbrev AE:=@Nat.add_mul
abbrev AG:=@List.take_take
abbrev AH:=@List.mem_of_mem_take
abbrev AI:=@List.mem_of_mem_drop
abbrev AJ:=@List.getElem?_append_right
abbrev AK:=@List.drop_take
abbrev AL:=@Int.tdiv_eq_ediv_of_nonneg
abbrev AM:=@List.findIdx?_eq_none_iff
abbrev AN:=@Bool.false_or
abbrev AO:=@List.take_left'
abbrev AP:=@Nat.one_le_two_pow
abbrev AQ:=@List.set_cons_succ
abbrev AS:=@List.getElem?_drop
abbrev AT:=@List.length_eq_zero_iff
abbrev AU:=@List.getElem?_cons_zero
abbrev AW:=@List.getElem?_cons_succ
abbrev AX:=@List.eraseIdx_cons_zero
abbrev AY:=@List.eraseIdx_cons_succ
abbrev AZ:=@decide_eq_true
abbrev A3:=@List.append_eq_nil_iff
abbrev A4:=@List.mem_append_right
abbrev A5:=@beq_self_eq_true
abbrev A6:=@List.range'_succ
abbrev A7:=@List.getElem_map
abbrev A8:=@List.drop_length
abbrev A9:=@Array.toList_extract
abbrev Ba:=@List.all_append
abbrev Bb:=@List.take_succ_cons
abbrev Bc:=@Option.toList_some
abbrev Bd:=@Nat.lt_of_lt_of_le
abbrev Be:=@List.set_cons_zero
abbrev Bf:=@List.findIdx?_cons
abbrev Bg:=@Bool.false_and
abbrev Bh:=@List.getElem?_append_left
abbrev Bi:=@Nat.one_pos
abbrev Bj:=@Nat.le_succ_of_le
abbrev Bk:=@List.ext_getElem?
abbrev Bl:=@Bool.and_true
abbrev FM:=List (Nat×Value)
abbrev vI(n:Int):Value:=.int .i64 n
abbrev vT(l:List UInt8):Value:=.string ⟨⟨l⟩⟩
abbrev vS{α:Type}(a:Option Addr)(l:List α)(c:Nat):Value:=.slice a l.length c
abbrev vA(l:List Value):Value:=.agg ⟨l⟩
abbrev vP(b o:Nat):Value:=.pointer (some ⟨b,o,none⟩)
def look:FM->Nat->Option Value
 | [],_=>none
 | (k,v)::m,t=>bif Nat.beq k t then some v else look m t
theorem gJ(k:Nat)(v:Value)(m:FM):look ((k,v)::m) k=some v:=by simp[look]
theorem kH{k t:Nat}(v:Value)(m:FM)(h:k ≠ t):look ((k,v)::m) t=look m t:=by
 have:Nat.beq k t=false:=by cases hb:Nat.beq k t with
  | false=>rfl
  | true=>exact absurd (zm hb) h
 simp[look,this]
structure Fr(n:Nat)(a:Act)(m:FM):Prop where
 defers:a.defers=[]
 size:a.tmps.size=n
 holds:∀k v,look m k=some v->a.tmps[k]?=some v
def sub(m:FM):FM->Prop
 | []=>True
 | (k,v)::m'=>look m k=some v/\sub m m'
theorem sub.look{m:FM}:∀{m':FM},sub m m'->∀{k v},LN.look m' k=some v->LN.look m k=some v
 | [],_,_,_,h=>by simp[LN.look] at h
 | (k',v')::m',hs,k,v,h=>by
  by_cases hk:k'=k
  ·subst hk;rw[gJ] at h;cases h;exact hs.1
  ·rw[kH _ _ hk] at h;exact hs.2.look h
theorem Fr.weaken{n:Nat}{a:Act}{m m':FM}(h:Fr n a m)(hs:sub m m'):Fr n a m' :=
 ⟨h.defers,h.size,λ_ _ hk=>h.holds _ _ (hs.look hk)⟩
theorem Fr.put{n:Nat}{a:Act}{m:FM}(h:Fr n a m)(d:Nat)(v:Value)(hd:d<n):Fr n (a.put (some d) v) ((d,v)::m):=by
 refine⟨h.defers,by simp[Act.put,h.size],λk u hk=>?_⟩;by_cases e:d=k
 ·subst e;rw[gJ] at hk;cases hk;simp[Act.put,h.size,hd]
 ·rw[kH _ _ e] at hk;simp only[Act.put];rw[Af e];exact h.holds _ _ hk
def val(m:FM):Operand->Option Value
 | .tmp t=>look m t
 | .const v=>some v
 | .global g=>some (.pointer (some ⟨g,0,none⟩))
 | .func f=>some (.func (.func f) #[] #[])
theorem Fr.eval{n:Nat}{a:Act}{m:FM}(h:Fr n a m){x:Operand}{v:Value}(hx:val m x=some v):a.eval x=v:=by
 cases x with
 | tmp t=>
  have:=h.holds t v hx;show a.tmps.getD t undef=v;simp[zo,this]
 | const u=>simpa [val,Act.eval] using hx
 | global g=>simpa [val,Act.eval] using hx
 | func f=>simpa [val,Act.eval] using hx
def wpL(P:Program)(af:Array Oper)(Q:Exit->Act->World->Prop):List Oper->Act->World->Prop
 | [],a,w=>Q .normal a w
 | o::rest,a,w=>if Region.wanted o (yielded af a.tmps) then o.wp P a w (wpL P af Q rest) Q else wpL P af Q rest (a.put o.dst undef) w
theorem zJx{P:Program}{af:Array Oper}{Q:Exit->Act->World->Prop}(l:List Oper):
 ∀(pc:Nat) (a:Act) (w:World),af.toList.drop pc=l->wpL P af Q l a w->wpOps P af Q ((List.range af.size).drop pc) a w:=by
 induction l with
 | nil=>
  intro pc a w hl h
  have hp:af.size<=pc:=by simpa using yw.1 hl
  rw[yw.2 (by simpa using hp)]
  exact h
 | cons o rest ih=>
  intro pc a w hl h
  have hp:pc<af.size:=by
   rcases z6 pc af.size with hp|hp
   ·exact hp
   ·rw[yw.2 (by simpa using hp)] at hl;cases hl
  have ho:af[pc]?=some o:=by
   have:af.toList[pc]?=some o:=by
    have h0:(af.toList.drop pc)[0]?=some o:=by rw[hl];rfl
    simpa using h0
   simpa using this
  have hr:af.toList.drop (pc+1)=rest:=by
   rw[<- zr,hl];rfl
  rw[yp (by simpa using hp)]
  simp only[List.getElem_range,wpOps,ho]
  simp only[wpL] at h
  split
  ·rename_i hw;simp only[hw,xu] at h
   exact .inl (Oper.wp_mono (λa w hk=>ih (pc+1) a w hr hk) h)
  ·rename_i hw;simp only[hw] at h
   exact ih (pc+1) _ w hr h
theorem zHp{P:Program}{id:Nat}{af:Array Oper}{Q:Exit->Act->World->Prop}{a:Act}{w:World}
 (h:wpL P af Q af.toList a w):(Code.region id af false).wp P Q a w:=
 wp_region (by simpa using zJx af.toList 0 a w rfl h)
theorem zBz{id:Nat}:∀{k k':List Item},exitTo id k=some k'->k'.length<k.length
 | [],_,h=>by simp[exitTo] at h
 | x::k,k',h=>by
  cases x with
  | inBlock id' =>
   simp only[exitTo] at h
   split at h
   ·cases h;simp
   ·have:=zBz h;simp;omega
  | _=>simp only[exitTo] at h;have:=zBz h;simp;omega
theorem Steps.peel{P:Program}{m m₁ m':Machine}(h:Steps P m m')(h1:step P m=.next m₁)(cT:m ≠ m'):Steps P m₁ m':=by
 obtain⟨n,hn⟩:=h;cases n with
 | zero=>simp only[runN] at hn;injection hn with hn;exact absurd hn cT
 | succ n=>simp only[runN,h1] at hn;exact⟨n,hn⟩
theorem zJ9{b:Frame}{a a':Act}{k k':List Item}{cs:List Frame}{w w':World}(h:lone (b.at a k) cs w=lone (b.at a' k') cs w'):k=k':=by
 simp only[lone,Frame.at] at h;injection h with h1 h2 h3;simp at h2;exact h2.2.1
theorem zHq{P:Program}{c:Code}{Q:Exit->Act->World->Prop}{a:Act}{w:World}(hg:∀l a w,¬Q (.goto l) a w)(ho:∀a w,¬Q .outgrown a w)
 (h:c.wp P (Exit.then (λa' w'=>(Code.loop c).wp P Q a' w') Q) a w):(Code.loop c).wp P Q a w:=by
 intro b k cs
 obtain⟨e,a1,w1,hq,vq⟩:=h b (.inLoop c::k) cs
 cases e with
 | normal=>
  obtain⟨e2,a2,w2,hq2,qt⟩:=hq b k cs
  refine⟨e2,a2,w2,hq2,.of_steps (.head step_loop (Steps.trans vq (.one step_inLoop))) ?_⟩
  cases e2 with
  | normal=>
   refine Steps.peel qt step_loop (λhe=>?_)
   have:=congrArg List.length (zJ9 he)
   simp at this
  | exit id=>
   intro k' hk
   refine Steps.peel (qt k' hk) step_loop (λhe=>?_)
   have:=congrArg List.length (zJ9 he)
   have:=zBz hk
   simp at *
   omega
  | goto l=>exact absurd hq2 (hg _ _ _)
  | ret=>
   obtain⟨todo,hs⟩:=qt
   refine⟨todo,Steps.peel hs step_loop (λhe=>?_)⟩
   simp[lone,Frame.at] at he
  | panic ch=>
   obtain⟨todo,hs⟩:=qt
   refine⟨todo,Steps.peel hs step_loop (λhe=>?_)⟩
   simp[lone,Frame.at] at he
  | outgrown=>exact absurd hq2 (ho _ _)
 | exit id=>exact⟨_,a1,w1,hq,.of_steps (.one step_loop) (.pass (x:=.inLoop c) rfl (λ_ _=>.inl (by simp)) vq)⟩
 | goto l=>exact absurd hq (hg _ _ _)
 | ret=>exact⟨_,a1,w1,hq,.of_steps (.one step_loop) (.pass (x:=.inLoop c) rfl (λ_ _=>.inl (by simp)) vq)⟩
 | panic ch=>exact⟨_,a1,w1,hq,.of_steps (.one step_loop) (.pass (x:=.inLoop c) rfl (λ_ _=>.inl (by simp)) vq)⟩
 | outgrown=>exact absurd hq (ho _ _)
def ibin(op:BinOp)(k:IntKind)(x y:Int):Option Value:=
 match op with
 | .add=>some (.int k (k.wrap (x+y)))
 | .sub=>some (.int k (k.wrap (x - y)))
 | .mul=>some (.int k (k.wrap (x*y)))
 | .eql=>some (.bool (x==y))
 | .neq=>some (.bool (x != y))
 | .lss=>some (.bool (decide (x<y)))
 | .leq=>some (.bool (decide (x<=y)))
 | .gtr=>some (.bool (decide (x>y)))
 | .geq=>some (.bool (decide (x>=y)))
 | .quo=>if y=0 then none else some (.int k (k.wrap (x.tdiv y)))
 | .rem=>if y=0 then none else some (.int k (x.tmod y))
 | .xor=>some (.int k (k.wrap (BitVec.ofInt k.bits x ^^^ BitVec.ofInt k.bits y).toNat))
 | .and=>some (.int k (k.wrap (BitVec.ofInt k.bits x &&& BitVec.ofInt k.bits y).toNat))
 | _=>none
def sbin(op:BinOp)(x y:ByteArray):Option Value:=
 match op with
 | .eql=>some (.bool (x.data.toList==y.data.toList))
 | .neq=>some (.bool !(x.data.toList==y.data.toList))
 | .lss=>some (.bool (Op.bytesLess x.data.toList y.data.toList))
 | .leq=>some (.bool (Op.bytesLess x.data.toList y.data.toList||x.data.toList==y.data.toList))
 | .gtr=>some (.bool !(Op.bytesLess x.data.toList y.data.toList||x.data.toList==y.data.toList))
 | .geq=>some (.bool !(Op.bytesLess x.data.toList y.data.toList))
 | _=>none
theorem zFJ(x:ByteArray):∀(k i:Nat) (r:List UInt8),x.size - i=k->ByteArray.toList.loop x i r=r.reverse++x.data.toList.drop i:=by
 intro k
 induction k with
 | zero=>
  intro i r h;rw[ByteArray.toList.loop];have:¬i<x.size:=by omega
  have cM:x.data.toList.length<=i:=by rw[Aq];exact Nat.le_of_not_lt this
  rw[if_neg this,yw.2 cM];simp
 | succ k ih=>
  intro i r h;rw[ByteArray.toList.loop];have hi:i<x.size:=by omega
  have aG:i<x.data.toList.length:=by rw[Aq];exact hi
  rw[if_pos hi,ih (i+1) _ (by omega),yp aG];have hg:x.get! i=x.data.toList[i]:=by
   have hd:i<x.data.size:=hi;simp only[ByteArray.get!];rw[getElem!_pos x.data i hd,Array.getElem_toList]
  rw[hg];simp
theorem zJy(x:ByteArray):x.toList=x.data.toList:=by
 have:=zFJ x x.size 0 [] (by omega);simpa [ByteArray.toList] using this
def fieldOff(P:Program)(s:TypeId)(f:Nat):Option Nat:=
 match P.underlying s with
 | some (.struct fs)=>match fs[f]? with
  | some fd=>match P.info? fd.type with
   | some i=>if i.size=0 then none else some fd.offset
   | none=>none
  | none=>none
 | _=>none
def isAggT(P:Program)(t:TypeId):Option Bool:=
 match P.underlying t with
 | some (.struct _)|some (.array _ _)=>some true
 | some _=>some false
 | none=>none
def sizeT(P:Program)(t:TypeId):Option Nat:=(P.info? t).map (·.size)
def partV(P:Program)(t:TypeId)(cs:Array Value)(off:Nat):Option Value:=
 match isAggT P t,sizeT P t with
 | some true,some s=>some (.agg (cs.extract off (off+s)))
 | some false,some _=>cs[off]?
 | _,_=>none
def bltin(P:Program)(b:Builtin)(ts:Array TypeId)(vs:List Value):Option Value:=
 match b,ts[0]?,vs with
 | .len,some t,[.slice _ n _]=>match P.underlying t with|some (.slice _)=>some (goInt n)|_=>none
 | .len,some t,[.string s]=>match P.underlying t with|some .string=>some (goInt s.size)|_=>none
 | .max,some _,[.int k x,.int _ y]=>some (.int k (if y>x then y else x))
 | .min,some _,[.int k x,.int _ y]=>some (.int k (if y<x then y else x))
 | _,_,_=>none
def vals(m:FM):List Operand->Option (List Value)
 | []=>some []
 | x::xs=>match val m x,vals m xs with|some v,some vs=>some (v::vs)|_,_=>none
def pvals(m:FM):List (Nat×Operand)->Option (List (Nat×Value))
 | []=>some []
 | (i,x)::xs=>match val m x,pvals m xs with|some v,some vs=>some ((i,v)::vs)|_,_=>none
def buildV(P:Program)(t:TypeId)(parts:List (Nat×Value)):Option Value:=
 match P.underlying t,(P.info? t).bind (·.zero) with
 | some (.struct fs),some z=>
  match fs.toList.mapM (λf=>(sizeT P f.type).map λs=>(f.offset,s)) with
  | some places=>(Instr.fill (λi=>places[i]?) z.cells parts).map Value.agg
  | none=>none
 | _,_=>none
def bbin(P:Program)(op:BinOp)(t:TypeId)(u v:Bool):Option Value:=
 match P.underlying t,op with
 | some .bool,.eql=>some (.bool (u==v))
 | some .bool,.neq=>some (.bool (!(u==v)))
 | _,_=>none
def nbin(P:Program)(op:BinOp)(t:TypeId)(y:Operand):Option Value:=
 match P.underlying t,op,y with
 | some (.interface _),.neq,.const _=>some (.bool false)
 | some (.interface _),.eql,.const _=>some (.bool true)
 | _,_,_=>none
def ebin(P:Program)(op:BinOp)(t:TypeId):Option Value:=
 match P.underlying t,op with
 | some (.interface _),.neq=>some (.bool true)
 | some (.interface _),.eql=>some (.bool false)
 | _,_=>none
def pure1(P:Program)(m:FM):Op->Option Value
 | .move x|.assign x=>val m x
 | .pick c x y=>match val m c with|some (.bool true)=>val m x|some (.bool false)=>val m y|_=>none
 | .binOp op t x y _=>match val m x,val m y with
  | some (.int k u),some (.int k' v)=>if k=k' then ibin op k u v else none
  | some (.string u),some (.string v)=>sbin op u v
  | some (.bool u),some (.bool v)=>bbin P op t u v
  | some .nilIface,some .nilIface=>nbin P op t y
  | some (.iface _ _),some .nilIface=>ebin P op t
  | _,_=>none
 | .unOp .not _ x=>match val m x with|some (.bool b)=>some (.bool !b)|_=>none
 | .unOp .neg _ x=>match val m x with|some (.int k n)=>some (.int k (k.wrap (0 - n)))|_=>none
 | .convert src dst x=>match P.underlying src,P.underlying dst,val m x with
  | some _,some (.int k),some (.int _ n)=>some (.int k (k.wrap n))
  | _,_,_=>none
 | .nilCheck x=>match val m x with|some (.pointer (some a))=>some (.pointer (some a))|_=>none
 | .fieldAddr s x f=>match val m x,fieldOff P s f with|some (.pointer (some a)),some o=>some (.pointer (some (a.add o)))|_,_=>none
 | .extract x i=>match val m x with|some (.tuple vs)=>vs[i]? | _=>none
 | .field s x f=>match val m x,P.underlying s with
  | some (.agg cs),some (.struct fs)=>match fs[f]? with|some fd=>partV P fd.type cs fd.offset|none=>none
  | _,_=>none
 | .call { callee:=.builtin b,args,argTypes }=>match vals m args.toList with|some vs=>bltin P b argTypes vs|none=>none
 | .build t parts=>match pvals m parts.toList with|some ps=>buildV P t ps|none=>none
 | .makeFunc (.func f) first captured=>match vals m first.toList,vals m captured.toList with
  | some vs,some us=>some (.func (.func f) vs.toArray us.toArray)
  | _,_=>none
 | _=>none
section
variable {P:Program}{n:Nat}{a:Act}{m:FM}{w:World}
theorem Fr.evals(h:Fr n a m):∀{xs:List Operand}{vs:List Value},vals m xs=some vs->xs.map a.eval=vs
 | [],vs,e=>by simp only[vals] at e;cases e;rfl
 | x::xs,vs,e=>by
  simp only[vals] at e
  split at e
  ·rename_i v vs' h1 h2;cases e;simp[h.eval h1,Fr.evals h h2]
  ·cases e
theorem Fr.pevals(h:Fr n a m):∀{xs:List (Nat×Operand)}{vs:List (Nat×Value)},pvals m xs=some vs->xs.map (λ(i,x)=>(i,a.eval x))=vs
 | [],vs,e=>by simp only[pvals] at e;cases e;rfl
 | (i,x)::xs,vs,e=>by
  simp only[pvals] at e
  split at e
  ·rename_i v vs' h1 h2;cases e
   have:=Fr.pevals h h2
   simp[h.eval h1,this]
  ·cases e
theorem xZ{t:TypeId}{d:TypeDesc}(h:P.underlying t=some d):(underlying t).run P w=.ok d w:=by
 simp[underlying,program,bind,Sem.bind,Sem.run,h,pure]
theorem kZ{t:TypeId}{s:Nat}(h:sizeT P t=some s):(sizeOf t).run P w=.ok s w:=by
 unfold sizeT at h;cases hi:P.info? t with
 | none=>rw[hi] at h;cases h
 | some i=>
  rw[hi] at h;cases h;simp[sizeOf,typeInfo,program,bind,Sem.bind,Sem.run,hi,pure]
theorem zEE{t:TypeId}{b:Bool}(h:isAggT P t=some b):(isAgg t).run P w=.ok b w:=by
 unfold isAggT at h;cases hu:P.underlying t with
 | none=>rw[hu] at h;cases h
 | some d=>
  rw[hu] at h;unfold isAgg;rw[Sem.run_bind,xZ hu];cases d <;> simp_all
theorem zNo{t:TypeId}{cs:Array Value}{off:Nat}{v:Value}(h:partV P t cs off=some v):(part t cs off).run P w=.ok v w:=by
 unfold partV at h;split at h
 ·rename_i s h1 h2;cases h
  simp[part,zEE h1,kZ h2]
 ·rename_i s h1 h2;simp[part,zEE h1,h]
 ·cases h
theorem zKh{s f o:Nat}{ad:Addr}(h:fieldOff P s f=some o):(Instr.fieldAt s (.pointer (some ad)) f).run P w=.ok (.pointer (some (ad.add o))) w:=by
 unfold fieldOff at h;split at h
 ·rename_i fs hu;split at h
  ·rename_i fd hf;split at h
   ·rename_i i hi;split at h
    ·cases h
    ·rename_i hz;cases h
     have hs:sizeT P fd.type=some i.size:=by simp[sizeT,hi]
     simp[Instr.fieldAt,xZ hu,hf,Instr.sureAddr,fieldPlace,kZ hs,hz]
   ·cases h
  ·cases h
 ·cases h
theorem zDX{t:TypeId}{a b:Bool}{w:World}(hu:P.underlying t=some .bool):(Op.equal t (.bool a) (.bool b)).run P w=.ok (a==b) w:=by
 have h:∀d,(Op.equalIn (d+1) t (.bool a) (.bool b)).run P w=.ok (a==b) w:=λd=>by
  rw[Op.equalIn];simp[xZ hu]
 exact h 9999
theorem zCA{t:TypeId}{ms:Array (String×TypeId)}{w:World}(hu:P.underlying t=some (.interface ms)):(Op.equal t .nilIface .nilIface).run P w=.ok true w:=by
 have h:∀d,(Op.equalIn (d+1) t .nilIface .nilIface).run P w=.ok true w:=λd=>by
  rw[Op.equalIn];simp[xZ hu]
 exact h 9999
theorem zCB{t:TypeId}{ms:Array (String×TypeId)}{tx:TypeId}{v:Value}{w:World}(hu:P.underlying t=some (.interface ms)):(Op.equal t (.iface tx v) .nilIface).run P w=.ok false w:=by
 have h:∀d,(Op.equalIn (d+1) t (.iface tx v) .nilIface).run P w=.ok false w:=λd=>by
  rw[Op.equalIn];simp[xZ hu]
 exact h 9999
theorem zNN{b:Builtin}{ts:Array TypeId}{vs:List Value}{v:Value}{ty:TypeId}{cn:Array Bool}(h:bltin P b ts vs=some v):(builtin b ts ty cn vs.toArray).run P w=.ok (.value v) w:=by
 unfold bltin at h;split at h
 ·rename_i hx;split at h
  ·rename_i hu;cases h;simp[builtin,Builtin.len_,hx,xZ hu]
  ·cases h
 ·rename_i hx;split at h
  ·rename_i hu;cases h;simp[builtin,Builtin.len_,hx,xZ hu]
  ·cases h
 ·cases h
  simp[builtin,Builtin.max_,Builtin.max2]
 ·cases h
  simp[builtin,Builtin.min_,Builtin.min2]
 ·cases h
theorem zKi{f:Field->Option (Nat×Nat)}{g:Field->Sem (Nat×Nat)}(hfg:∀x y,f x=some y->∀w,(g x).run P w=.ok y w):
 ∀{l:List Field}{ps:List (Nat×Nat)},l.mapM f=some ps->∀w,(l.mapM g).run P w=.ok ps w
 | [],ps,h,w=>by simp at h;subst h;simp
 | x::l,ps,h,w=>by
  rw[List.mapM_cons] at h ⊢
  cases hx:f x with
  | none=>rw[hx] at h;cases h
  | some y=>
   rw[hx] at h
   cases hl:l.mapM f with
   | none=>rw[hl] at h;cases h
   | some ys=>
    rw[hl] at h
    cases h
    simp[hfg x y hx w,zKi hfg hl w]
theorem zNO{t:TypeId}{parts:List (Nat×Value)}{v:Value}(h:buildV P t parts=some v):(Instr.build t parts.toArray).run P w=.ok v w:=by
 unfold buildV at h;split at h
 ·rename_i fs z hu hz;split at h
  ·rename_i places hp;cases hi:P.info? t with
   | none=>simp[hi] at hz
   | some i=>
    simp only[hi,xp] at hz;cases hfill:Instr.fill (λi=>places[i]?) z.cells parts with
    | none=>rw[hfill] at h;cases h
    | some cells=>
     rw[hfill] at h;cases h;have hz':(zeroValue t).run P w=.ok z w:=by simp[zeroValue,typeInfo,hi,hz]
     have hm:(fs.mapM λf=>(do pure (f.offset,<- sizeOf f.type):Sem (Nat×Nat))).run P w=.ok places.toArray w:=by
      have h2:=zKi (P:=P) (f:=λf=>(sizeT P f.type).map λs=>(f.offset,s)) (g:=λf=>(do pure (f.offset,<- sizeOf f.type):Sem (Nat×Nat)))
       (λx y hxy w=>by
        cases hs:sizeT P x.type with
        | none=>simp[hs] at hxy
        | some s=>simp[hs] at hxy;subst hxy;simp[kZ hs]) hp w
      rw[Array.mapM_eq_mapM_toList,Sem.run_map,h2];rfl
     simp only[Instr.build,Sem.run_bind,hz',Result.andThen_ok,xZ hu,hm];simp[hfill]
  ·cases h
 ·cases h
theorem zEF{o:Oper}{v:Value}(hf:Fr n a m)(h:pure1 P m o.op=some v):(execOp a.eval o).run P w=.ok (.value v) w:=by
 unfold execOp;unfold pure1 at h;split at h
 ·rename_i x he;rw[he];simp[hf.eval h]
 ·rename_i x he;rw[he];simp[hf.eval h]
 ·rename_i c x y he;rw[he];split at h
  ·rename_i hc;simp[hf.eval hc,hf.eval h,asBool]
  ·rename_i hc;simp[hf.eval hc,hf.eval h,asBool]
  ·cases h
 ·rename_i op t x y t' he;rw[he];split at h
  ·rename_i k u k' v' hx hy;split at h
   ·rename_i hk;subst hk;simp only[hf.eval hx,hf.eval hy];cases op <;> simp only[ibin] at h
    case quo=>
     split at h
     ·cases h
     ·rename_i h0;cases h;simp[eqGuard,binOp,Op.intDiv,h0]
    case rem=>
     split at h
     ·cases h
     ·rename_i h0;cases h;simp[eqGuard,binOp,Op.intDiv,h0]
    all_goals first|(cases h;simp[eqGuard,binOp,Op.intArith,Op.intCmp,Op.intBits];done)|cases h
   ·cases h
  ·rename_i u v' hx hy;simp only[hf.eval hx,hf.eval hy];cases op <;> simp only[sbin] at h <;> cases h <;> simp[eqGuard,binOp,Op.stringOp,zJy]
  ·rename_i u v' hx hy;simp only[hf.eval hx,hf.eval hy];unfold bbin at h;split at h
   ·rename_i hu;cases h;simp[eqGuard,binOp,zDX hu]
   ·rename_i hu;cases h;simp[eqGuard,binOp,zDX hu]
   ·cases h
  ·rename_i hx hy;simp only[hf.eval hx,hf.eval hy];unfold nbin at h;split at h
   ·rename_i hu;cases h;simp[eqGuard,binOp,zCA hu]
   ·rename_i hu;cases h;simp[eqGuard,binOp,zCA hu]
   ·cases h
  ·rename_i hx hy;simp only[hf.eval hx,hf.eval hy];unfold ebin at h;split at h
   ·rename_i hu;cases h;simp[eqGuard,binOp,zCB hu]
   ·rename_i hu;cases h;simp[eqGuard,binOp,zCB hu]
   ·cases h
  ·cases h
 ·rename_i x t he;rw[he];split at h
  ·rename_i b hx;cases h;simp[hf.eval hx,Op.unary]
  ·cases h
 ·rename_i x t he;rw[he];split at h
  ·rename_i b hx;cases h;simp[hf.eval hx,Op.unary,Op.intArith]
  ·cases h
 ·rename_i src dst x he;rw[he];split at h
  ·rename_i d k k' n' hs hd hx;cases h;simp only[Sem.run_bind,convert,xZ hs,xZ hd,Result.andThen_ok,hf.eval hx,Conv.intToInt,Sem.run_pure]
  ·cases h
 ·rename_i x he;rw[he];split at h
  ·rename_i ad hx;cases h;simp[hf.eval hx]
  ·cases h
 ·rename_i s x f he;rw[he];split at h
  ·rename_i ad o' hx ho;cases h;simp[hf.eval hx,zKh ho]
  ·cases h
 ·rename_i x i he;rw[he];split at h
  ·rename_i vs hx;simp[hf.eval hx,Instr.extract,h]
  ·cases h
 ·rename_i s x f he;rw[he];split at h
  ·rename_i cs fs hx hu;split at h
   ·rename_i fd hfd;simp[hf.eval hx,Instr.field,xZ hu,hfd,asAgg,zNo h]
   ·cases h
  ·cases h
 ·rename_i b args ts he;rw[he];split at h
  ·rename_i vs oc;have hv:=hf.evals oc;have:args.map a.eval=vs.toArray:=by apply Array.ext';rw[Av,hv]
   simp only[resolve,this,Sem.run_bind,Sem.run_pure,Result.andThen_ok,invoke];exact zNN h
  ·cases h
 ·rename_i t parts he;rw[he];split at h
  ·rename_i ps vy;have hv:=hf.pevals vy;have:(parts.map λ(i,x)=>(i,a.eval x))=ps.toArray:=by apply Array.ext';rw[Av];exact hv
   simp only[this,Sem.run_bind,zNO h,Result.andThen_ok,Sem.run_pure]
  ·cases h
 ·rename_i f first captured he;rw[he];split at h
  ·rename_i vs us h1 h2;cases h
   have e1:first.map a.eval=vs.toArray:=by apply Array.ext';rw[Av,hf.evals h1]
   have e2:captured.map a.eval=us.toArray:=by apply Array.ext';rw[Av,hf.evals h2]
   simp[e1,e2,Instr.makeFunc]
  ·cases h
 ·cases h
end
abbrev Imm:=Nat->Option (Array Value)
def Imm.le(i j:Imm):Prop:=∀b c,i b=some c->j b=some c
theorem Imm.le.refl(i:Imm):i.le i:=λ_ _ h=>h
theorem Imm.le.trans{i j k:Imm}(h:i.le j)(h':j.le k):i.le k:=λb c e=>h' b c (h b c e)
def Imm.add(i:Imm)(b:Nat)(c:Array Value):Imm:=λx=>if x=b then some c else i x
theorem Imm.le_add{i:Imm}{b:Nat}(c:Array Value)(h:i b=none):i.le (i.add b c):=λx d e=>by
 unfold Imm.add;split
 ·rename_i hx;subst hx;rw[h] at e;cases e
 ·exact e
theorem Imm.add_self(i:Imm)(b:Nat)(c:Array Value):i.add b c b=some c:=by simp[Imm.add]
inductive HA where
 | blk (b:Nat) (c:Array Value)
 | osl (v:Value) (sz:Nat) (cs:List Value)
 | obj (b:Nat) (o:Obj)
def HA.plain:HA->Bool
 | .obj ..=>false
 | _=>true
def HA.fp:HA->List Nat
 | .blk b _=>[b]
 | .osl (.slice (some a) _ _) _ _=>[a.block]
 | .osl _ _ _=>[]
 | .obj b _=>[b]
structure Base where
 w0:World
 imm0:Imm
 io:List Nat
structure Frm(B:Base)(imm:Imm)(w:World):Prop where
 os:w.os=B.w0.os
 tape:w.tape=B.w0.tape
 output:w.output=B.w0.output
 size:B.w0.heap.size<=w.heap.size
 heap:∀b,b<B.w0.heap.size->b ∉ B.io->w.heap[b]?=B.w0.heap[b]?
 imm:∀b,b<B.w0.heap.size->b ∉ B.io->imm b=B.imm0 b
def perm(B:Base)(b:Nat):Prop:=B.w0.heap.size<=b∨b∈B.io
def HA.ok(B:Base)(imm:Imm)(w:World):HA->Prop
 | .blk b c=>perm B b/\imm b=none/\∃ty,w.heap[b]?=some (.cells c ty (0,0))
 | .osl v sz cs=>(v=.slice none 0 0/\cs=[]) ∨
  ∃b off len bi all ty,v=.slice (some ⟨b,off,none⟩) len bi/\perm B b/\imm b=none/\w.heap[b]?=some (.cells all ty (0,0)) /\
   off+bi*sz<=all.size/\len<=bi/\cs.length=len*sz/\(all.toList.drop off).take (len*sz)=cs/\bi<=9223372036854775807
 | .obj b o=>perm B b/\imm b=none/\w.heap[b]?=some o
structure Good(B:Base)(imm:Imm)(hs:List HA)(w:World):Prop where
 inv:∀b c,imm b=some c->∃ty fr,w.heap[b]?=some (.cells c ty fr)
 own:∀A∈hs,A.ok B imm w
 nodup:(hs.flatMap HA.fp).Nodup
 frm:Frm B imm w
section
variable {B:Base}{imm:Imm}{hs:List HA}{w:World}
theorem Good.lt_imm(h:Good B imm hs w){b:Nat}{c:Array Value}(hb:imm b=some c):b<w.heap.size:=by
 obtain⟨ty,fr,e⟩:=h.inv b c hb;rcases z6 b w.heap.size with h' | h'
 ·exact h'
 ·rw[Ay h'] at e;cases e
theorem HA.ok.lt{A:HA}(h:A.ok B imm w){b:Nat}(hb:b∈A.fp):b<w.heap.size/\perm B b/\imm b=none:=by
 have fh:∀{b:Nat}{o:Obj},w.heap[b]?=some o->b<w.heap.size:=λ{b o} e=>by
  rcases z6 b w.heap.size with h' | h'
  ·exact h'
  ·rw[Ay h'] at e;cases e
 cases A with
 | blk b' c=>
  obtain⟨h1,h2,ty,h3⟩:=h;simp only[HA.fp,yq] at hb;subst hb;exact⟨fh h3,h1,h2⟩
 | osl v sz cs=>
  rcases h with⟨rfl,_⟩|⟨b',off,len,bi,all,ty,rfl,h1,h2,h3,_⟩
  ·simp[HA.fp] at hb
  ·simp only[HA.fp,yq] at hb;subst hb;exact⟨fh h3,h1,h2⟩
 | obj b' o=>
  obtain⟨h1,h2,h3⟩:=h;simp only[HA.fp,yq] at hb;subst hb;exact⟨fh h3,h1,h2⟩
theorem HA.ok.same{A:HA}{B':Base}{am:Imm}{w':World}(h:A.ok B imm w)(hp:∀b∈A.fp,perm B b->perm B' b)(hi:∀b∈A.fp,am b=imm b)(hw:∀b∈A.fp,w'.heap[b]?=w.heap[b]?):A.ok B' am w':=by
 cases A with
 | blk b c=>
  obtain⟨h1,h2,ty,h3⟩:=h;have hm:b∈(HA.blk b c).fp:=by simp[HA.fp]
  exact⟨hp b hm h1,(hi b hm).trans h2,ty,(hw b hm).trans h3⟩
 | osl v sz cs=>
  rcases h with h|⟨b,off,len,bi,all,ty,rfl,h1,h2,h3,h4⟩
  ·exact .inl h
  ·have hm:b∈(HA.osl (.slice (some ⟨b,off,none⟩) len bi) sz cs).fp:=by simp[HA.fp]
   exact .inr ⟨b,off,len,bi,all,ty,rfl,hp b hm h1,(hi b hm).trans h2,(hw b hm).trans h3,h4⟩
 | obj b o=>
  obtain⟨h1,h2,h3⟩:=h;have hm:b∈(HA.obj b o).fp:=by simp[HA.fp]
  exact⟨hp b hm h1,(hi b hm).trans h2,(hw b hm).trans h3⟩
theorem Good.mem_lt(h:Good B imm hs w){b:Nat}(hb:b∈hs.flatMap HA.fp):b<w.heap.size/\perm B b/\imm b=none:=by
 obtain⟨A,hA,hbA⟩:=zd.1 hb;exact(h.own A hA).lt hbA
theorem Good.draw(h:Good B imm hs w)(k:Nat):Good B imm hs { w with drawn:=k }:=
 ⟨h.inv,λA hA=>(h.own A hA).same (λ_ _ p=>p) (λ_ _=>rfl) (λ_ _=>rfl),h.nodup,⟨h.frm.os,h.frm.tape,h.frm.output,h.frm.size,h.frm.heap,h.frm.imm⟩⟩
theorem Good.alloc'(h:Good B imm hs w)(o:Obj):
 Good B imm hs { w with heap:=w.heap.push o }/\imm w.heap.size=none/\perm B w.heap.size/\w.heap.size ∉ hs.flatMap HA.fp /\
  ({ w with heap:=w.heap.push o }:World).heap[w.heap.size]?=some o:=by
 have old:∀b,b<w.heap.size->(w.heap.push o)[b]?=w.heap[b]?:=λb hb=>by
  rw[Array.getElem?_push];simp[Nat.ne_of_lt hb]
 have hn:imm w.heap.size=none:=by
  cases e:imm w.heap.size with
  | none=>rfl
  | some c'=>exact absurd (h.lt_imm e) (Nat.lt_irrefl _)
 refine⟨⟨λb c' e=>?_,λA hA=>(h.own A hA).same (λ_ _ p=>p) (λ_ _=>rfl) (λb hb=>old b ((h.own A hA).lt hb).1),h.nodup,⟨h.frm.os,h.frm.tape,h.frm.output,?_,λb hb pm=>?_,h.frm.imm⟩⟩,hn,.inl h.frm.size,λhb=>absurd (h.mem_lt hb).1 (Nat.lt_irrefl _),by simp⟩
 ·obtain⟨nk,fr,e'⟩:=h.inv b c' e
  exact⟨nk,fr,(old b (h.lt_imm e)).trans e'⟩
 ·simp;exact Bj h.frm.size
 ·exact(old b (Bd hb h.frm.size)).trans (h.frm.heap b hb pm)
theorem Good.alloc(h:Good B imm hs w)(c:Array Value)(ty:TypeId)(fz:Nat×Nat):
 Good B imm hs { w with heap:=w.heap.push (.cells c ty fz) }/\imm w.heap.size=none/\perm B w.heap.size/\w.heap.size ∉ hs.flatMap HA.fp /\
  ({ w with heap:=w.heap.push (.cells c ty fz) }:World).heap[w.heap.size]?=some (.cells c ty fz):=h.alloc' _
theorem Good.alloc_blk(h:Good B imm hs w)(c:Array Value)(ty:TypeId):Good B imm (.blk w.heap.size c::hs) { w with heap:=w.heap.push (.cells c ty) }:=by
 obtain⟨g,h1,h2,h3,h4⟩:=h.alloc c ty (0,0);refine⟨g.inv,λA hA=>?_,?_,g.frm⟩
 ·rcases yh.1 hA with rfl|hA
  ·exact⟨h2,h1,ty,h4⟩
  ·exact g.own A hA
 ·rw[yf];exact List.nodup_cons.2 ⟨h3,h.nodup⟩
theorem Good.alloc_osl(h:Good B imm hs w)(c:Array Value)(ty:TypeId)(sz len bi:Nat)(cs:List Value)(hcap:bi*sz<=c.size)(hl:len<=bi)(gy:c.toList.take (len*sz)=cs)(aP:cs.length=len*sz)(hM:bi<=9223372036854775807):
 Good B imm (.osl (.slice (some ⟨w.heap.size,0,none⟩) len bi) sz cs::hs) { w with heap:=w.heap.push (.cells c ty) }:=by
 obtain⟨g,h1,h2,h3,h4⟩:=h.alloc c ty (0,0)
 refine⟨g.inv,λA hA=>?_,?_,g.frm⟩
 ·rcases yh.1 hA with rfl|hA
  ·exact .inr ⟨_,0,len,bi,c,ty,rfl,h2,h1,h4,by omega,hl,aP,by simpa using gy,hM⟩
  ·exact g.own A hA
 ·rw[yf]
  exact List.nodup_cons.2 ⟨h3,h.nodup⟩
theorem Good.nil_osl(h:Good B imm hs w)(sz:Nat):Good B imm (.osl (.slice none 0 0) sz []::hs) w:=
 ⟨h.inv,λA hA=>by
  rcases yh.1 hA with rfl|hA
  ·exact .inl ⟨rfl,rfl⟩
  ·exact h.own A hA,by simpa [HA.fp] using h.nodup,h.frm⟩
theorem Good.sub(h:Good B imm hs w){ah:List HA}(hm:∀A∈ah,A∈hs)(hn:(ah.flatMap HA.fp).Nodup):Good B imm ah w:=
 ⟨h.inv,λA hA=>h.own A (hm A hA),hn,h.frm⟩
theorem Good.tail{A:HA}(h:Good B imm (A::hs) w):Good B imm hs w:=
 h.sub (λ_ hA=>xx _ hA) (by have:=h.nodup;rw[yf] at this;exact(zn.1 this).2.1)
theorem Good.perm(h:Good B imm hs w){ah:List HA}(hp:ah.Perm hs):Good B imm ah w:=
 h.sub (λ_ hA=>hp.mem_iff.1 hA) ((hp.flatMap_right HA.fp).nodup_iff.2 h.nodup)
def setBlk(w:World)(b:Nat)(o:Obj):World:={ w with heap:=w.heap.setIfInBounds b o }
theorem zBd{w:World}{b:Nat}{o:Obj}(h:b<w.heap.size):(setBlk w b o).heap[b]?=some o:=by simp[setBlk,h]
theorem zGN{w:World}{b b':Nat}{o:Obj}(h:b ≠ b'):(setBlk w b o).heap[b']?=w.heap[b']?:=by simp[setBlk,Af h]
theorem Good.write{A A':HA}(h:Good B imm (A::hs) w){b:Nat}(hb:b∈A.fp)(u5:A'.fp=A.fp)(o:Obj)(hA:A'.ok B imm (setBlk w b o)):Good B imm (A'::hs) (setBlk w b o):=by
 have jf:=h.nodup;rw[yf] at jf;obtain⟨_,hnd2,hdis⟩:=zn.1 jf;have ld:=(h.own A (xz ..)).lt hb;refine⟨λb' c e=>?_,λA2 hA2=>?_,?_,⟨h.frm.os,h.frm.tape,h.frm.output,?_,λb' aG pm=>?_,h.frm.imm⟩⟩
 ·obtain⟨ty,fr,e'⟩:=h.inv b' c e;refine⟨ty,fr,(zGN ?_).trans e'⟩;intro qu;subst qu;rw[ld.2.2] at e;cases e
 ·rcases yh.1 hA2 with rfl|hA2
  ·exact hA
  ·refine(h.own A2 (xx _ hA2)).same (λ_ _ p=>p) (λ_ _=>rfl) (λb' fl=>zGN ?_);intro qu;subst qu;exact hdis _ hb _ (zd.2 ⟨A2,hA2,fl⟩) rfl
 ·rw[yf,u5];exact jf
 ·simpa [setBlk] using h.frm.size
 ·refine(zGN ?_).trans (h.frm.heap b' aG pm);intro qu;subst qu;rcases ld.2.1 with hp|hp
  ·omega
  ·exact pm hp
theorem Good.freeze_blk{b:Nat}{c:Array Value}(h:Good B imm (.blk b c::hs) w):Good B (imm.add b c) hs w/\imm.le (imm.add b c):=by
 obtain⟨h1,h2,ty,h3⟩:=h.own _ (xz ..);have jf:=h.nodup;rw[yf] at jf;refine⟨⟨λb' c' e=>?_,λA hA=>?_,(zn.1 jf).2.1,⟨h.frm.os,h.frm.tape,h.frm.output,h.frm.size,h.frm.heap,λb' aG pm=>?_⟩⟩,Imm.le_add c h2⟩
 ·unfold Imm.add at e;split at e
  ·rename_i hb;subst hb;cases e;exact⟨ty,_,h3⟩
  ·exact h.inv b' c' e
 ·refine(h.own A (xx _ hA)).same (λ_ _ p=>p) (λb' ld=>?_) (λ_ _=>rfl);have:b' ≠ b:=by
   intro qu;subst qu;exact(zn.1 jf).2.2 b' (by simp[HA.fp]) _ (zd.2 ⟨A,hA,ld⟩) rfl
  simp[Imm.add,this]
 ·have:b' ≠ b:=by
   rintro rfl;rcases h1 with h1|h1
   ·omega
   ·exact pm h1
  simp only[Imm.add,this,xt];exact h.frm.imm b' aG pm
def SliceAt(imm:Imm)(v:Value)(sz:Nat)(cs:List Value):Prop:=
 (v=.slice none 0 0/\cs=[])∨∃b off len bi c,v=.slice (some ⟨b,off,none⟩) len bi/\imm b=some c/\off+len*sz<=c.size/\len<=bi/\cs.length=len*sz/\(c.toList.drop off).take (len*sz)=cs
theorem SliceAt.mono{i j:Imm}(h:i.le j){v:Value}{sz:Nat}{cs:List Value}(hs:SliceAt i v sz cs):SliceAt j v sz cs:=by
 rcases hs with hs|⟨b,off,len,bi,c,h1,h2,h3⟩
 ·exact .inl hs
 ·exact .inr ⟨b,off,len,bi,c,h1,h _ _ h2,h3⟩
def Lent(imm:Imm):HA->Prop
 | .blk b c=>imm b=some c
 | .osl v sz cs=>SliceAt imm v sz cs
 | .obj ..=>False
theorem Lent.mono{i j:Imm}(h:i.le j):∀{A:HA},Lent i A->Lent j A
 | .blk _ _,hs=>h _ _ hs
 | .osl _ _ _,hs=>SliceAt.mono h hs
 | .obj ..,hs=>hs
theorem HA.ok.cells{A:HA}(h:A.ok B imm w)(hA:A.plain=true):(A.fp=[]/\∀i,Lent i A)∨∃b c ty,A.fp=[b]/\w.heap[b]?=some (.cells c ty (0,0))/\∀i:Imm,i b=some c->Lent i A:=by
 cases A with
 | blk b c=>obtain⟨h1,h2,ty,h3⟩:=h;exact .inr ⟨b,c,ty,rfl,h3,λi hi=>hi⟩
 | osl v sz cs=>
  rcases h with⟨rfl,rfl⟩|⟨b,off,len,bi,all,ty,rfl,h1,h2,h3,h4,h5,h6,h7,_⟩
  ·exact .inl ⟨rfl,λ_=>.inl ⟨rfl,rfl⟩⟩
  ·refine .inr ⟨b,all,ty,rfl,h3,λi hi=>.inr ⟨b,off,len,bi,all,rfl,hi,?_,h5,h6,h7⟩⟩;have:=zy sz h5;omega
 | obj b o=>cases hA
theorem Good.freeze{A:HA}(h:Good B imm (A::hs) w)(qx:A.plain=true):∃am,imm.le am/\Lent am A/\Good B am hs w:=by
 have hA:=h.own _ (xz ..);rcases hA.cells qx with⟨_,hL⟩|⟨b,c,ty,u5,hc,hL⟩
 ·exact⟨imm,Imm.le.refl _,hL _,h.tail⟩
 ·have hb:b∈A.fp:=by simp[u5]
  obtain⟨h1,h2,h3⟩:=hA.lt hb;have hg:Good B imm (.blk b c::hs) w:=⟨h.inv,λA' hA'=>by
   rcases yh.1 hA' with rfl|hA'
   ·exact⟨h2,h3,ty,hc⟩
   ·exact h.own _ (xx _ hA'),by have:=h.nodup;rw[yf,u5] at this;exact this,h.frm⟩
  obtain⟨g,le⟩:=hg.freeze_blk;exact⟨_,le,hL _ (Imm.add_self ..),g⟩
theorem Good.enter(h:Good B imm hs w){hs1:List HA}(hm:∀A∈hs1,A∈hs)(hn:(hs1.flatMap HA.fp).Nodup):Good ⟨w,imm,hs1.flatMap HA.fp⟩ imm hs1 w:=
 ⟨h.inv,λA hA=>(h.own A (hm A hA)).same (λ_ hb _=>.inr (zd.2 ⟨A,hA,hb⟩)) (λ_ _=>rfl) (λ_ _=>rfl),hn,⟨rfl,rfl,rfl,zf _,λ_ _ _=>rfl,λ_ _ _=>rfl⟩⟩
theorem Good.nio(h:Good B imm hs w){b:Nat}{c:Array Value}(e:imm b=some c):b ∉ hs.flatMap HA.fp:=λhb=>by
 rw[(h.mem_lt hb).2.2] at e;cases e
theorem Good.leave{hs1 rest ah:List HA}{am:Imm}{w':World}(h:Good B imm (hs1++rest) w)(h':Good ⟨w,imm,hs1.flatMap HA.fp⟩ am ah w'):
 Good B am (ah++rest) w'/\imm.le am/\(∀b∈ah.flatMap HA.fp,b∈hs1.flatMap HA.fp∨B.w0.heap.size<=b):=by
 have jf:=h.nodup
 rw[zu] at jf
 obtain⟨hnd1,hnd2,hdis⟩:=zn.1 jf
 have cM:imm.le am:=λb c e=>(h'.frm.imm b (h.lt_imm e) (λhb=>h.nio e (by rw[zu];exact Ad _ hb))).trans e
 have oa:∀A∈rest,∀b∈A.fp,b<w.heap.size/\b ∉ hs1.flatMap HA.fp:=λA hA b hb=>
  ⟨((h.own A (A4 _ hA)).lt hb).1,λcp=>hdis b cp b (zd.2 ⟨A,hA,hb⟩) rfl⟩
 have r5:∀b∈ah.flatMap HA.fp,w.heap.size<=b∨b∈hs1.flatMap HA.fp:=λb hb=>(h'.mem_lt hb).2.1
 refine⟨⟨h'.inv,λA hA=>?_,?_,?_⟩,cM,λb hb=>(r5 b hb).symm.imp id (zw h.frm.size)⟩
 ·rcases yr.1 hA with hA|hA
  ·refine(h'.own A hA).same (λb hb hp=>?_) (λ_ _=>rfl) (λ_ _=>rfl)
   rcases hp with hp|hp
   ·exact .inl (zw h.frm.size hp)
   ·obtain⟨A1,hA1,cp⟩:=zd.1 hp
    exact((h.own A1 (Ad _ hA1)).lt cp).2.1
  ·refine(h.own A (A4 _ hA)).same (λ_ _ p=>p) (λb hb=>?_) (λb hb=>?_)
   ·exact h'.frm.imm b (oa A hA b hb).1 (oa A hA b hb).2
   ·exact h'.frm.heap b (oa A hA b hb).1 (oa A hA b hb).2
 ·rw[zu]
  refine zn.2 ⟨h'.nodup,hnd2,λb hb b' ld e=>?_⟩
  subst e
  obtain⟨A,hA,hbA⟩:=zd.1 ld
  have:=oa A hA b hbA
  rcases r5 b hb with h1|h1
  ·omega
  ·exact this.2 h1
 ·refine⟨h'.frm.os.trans h.frm.os,h'.frm.tape.trans h.frm.tape,h'.frm.output.trans h.frm.output,zw h.frm.size h'.frm.size,λb hb pm=>?_,λb hb pm=>?_⟩
  ·refine(h'.frm.heap b (Bd hb h.frm.size) (λcp=>?_)).trans (h.frm.heap b hb pm)
   obtain⟨A1,hA1,fl⟩:=zd.1 cp
   rcases((h.own A1 (Ad _ hA1)).lt fl).2.1 with hp|hp
   ·omega
   ·exact pm hp
  ·refine(h'.frm.imm b (Bd hb h.frm.size) (λcp=>?_)).trans (h.frm.imm b hb pm)
   obtain⟨A1,hA1,fl⟩:=zd.1 cp
   rcases((h.own A1 (Ad _ hA1)).lt fl).2.1 with hp|hp
   ·omega
   ·exact pm hp
end
def J(P:Program)(n:Nat)(B:Base)(c:Code)(Q:Exit->Act->World->Prop)(imm:Imm)(hs:List HA)(m:FM):Prop:=
 ∀a w,Fr n a m->Good B imm hs w->c.wp P Q a w
def T(n:Nat)(B:Base)(Q:Exit->Act->World->Prop)(e:Exit)(imm:Imm)(hs:List HA)(m:FM):Prop:=
 ∀a w,Fr n a m->Good B imm hs w->Q e a w
def R(P:Program)(n:Nat)(B:Base)(af:List Oper)(Q:Exit->Act->World->Prop)(pc:Nat)(imm:Imm)(hs:List HA)(m:FM):Prop:=
 ∀a w,Fr n a m->Good B imm hs w->wpL P af.toArray Q (af.drop pc) a w
section
variable {P:Program}{n:Nat}{B:Base}{Q:Exit->Act->World->Prop}{imm:Imm}{hs:List HA}{m:FM}
theorem yA{x y:Code}(h:J P n B x (Exit.then (y.wp P Q) Q) imm hs m):J P n B (x.seq y) Q imm hs m:=λa w f g=>wp_seq (h a w f g)
theorem zM{id:Nat}{af:List Oper}(h:R P n B af Q 0 imm hs m):J P n B (.region id af.toArray false) Q imm hs m:=λa w f g=>zHp (by simpa using h a w f g)
theorem zR(h:T n B Q .normal imm hs m):J P n B .skip Q imm hs m:=λa w f g=>wp_skip (h a w f g)
theorem zGO{id:Nat}(h:T n B Q (.exit id) imm hs m):J P n B (.exit id) Q imm hs m:=λa w f g=>wp_exit (h a w f g)
theorem yX(h:T n B Q .ret imm hs m):J P n B .ret Q imm hs m:=λa w f g=>wp_ret (h a w f g)
theorem yM{id:Nat}{c:Code}(h:J P n B c (Exit.inBlock id Q) imm hs m):J P n B (.block id c) Q imm hs m:=λa w f g=>wp_block (h a w f g)
theorem zQX{x:Operand}{p q:Code}{c:Bool}{α:Type}{X Y:Option α}{r:α}(hc:val m x=some (.bool c))(hM:(if c=true then X else Y)=some r)
 (ht:c=true->X=some r->J P n B p Q imm hs m) (hf:c=false->Y=some r->J P n B q Q imm hs m):J P n B (.cond x p q) Q imm hs m:=λa w f g=>by
 cases c with
 | true=>exact wp_cond_true (f.eval hc) (ht rfl (by simpa using hM) a w f g)
 | false=>exact wp_cond_false (f.eval hc) (hf rfl (by simpa using hM) a w f g)
theorem zDY{x:Operand}{p q:Code}(hc:val m x=some (.bool true))(h:J P n B p Q imm hs m):J P n B (.cond x p q) Q imm hs m:=λa w f g=>wp_cond_true (f.eval hc) (h a w f g)
theorem zBL{x:Operand}{p q:Code}(hc:val m x=some (.bool false))(h:J P n B q Q imm hs m):J P n B (.cond x p q) Q imm hs m:=λa w f g=>wp_cond_false (f.eval hc) (h a w f g)
theorem xD{c:Code}(hg:∀l a w,¬Q (.goto l) a w)(ho:∀a w,¬Q .outgrown a w)(h:J P n B c (Exit.then (λa' w'=>(Code.loop c).wp P Q a' w') Q) imm hs m):J P n B (.loop c) Q imm hs m:=
 λa w f g=>zHq hg ho (h a w f g)
theorem zNp{c:Code}{m':FM}(ah:sub m m')(h:J P n B c Q imm hs m'):J P n B c Q imm hs m:=λa w f g=>h a w (f.weaken ah) g
theorem zK{y:Code}(h:J P n B y Q imm hs m):T n B (Exit.then (y.wp P Q) Q) .normal imm hs m:=h
theorem xB{c:Code}(h:J P n B (.loop c) Q imm hs m):T n B (Exit.then (λa' w'=>(Code.loop c).wp P Q a' w') Q) .normal imm hs m:=h
theorem fR{K:Act->World->Prop}{id:Nat}(h:T n B Q (.exit id) imm hs m):T n B (Exit.then K Q) (.exit id) imm hs m:=h
theorem zG{K:Act->World->Prop}(h:T n B Q .ret imm hs m):T n B (Exit.then K Q) .ret imm hs m:=h
theorem zO{id:Nat}(h:T n B Q .normal imm hs m):T n B (Exit.inBlock id Q) .normal imm hs m:=h
theorem zS{id:Nat}(h:T n B Q .ret imm hs m):T n B (Exit.inBlock id Q) .ret imm hs m:=h
theorem zT{id:Nat}(h:T n B Q .normal imm hs m):T n B (Exit.inBlock id Q) (.exit id) imm hs m:=λa w f g=>by simpa [Exit.inBlock] using h a w f g
theorem zJE{id id':Nat}(cT:Nat.beq id' id=false)(h:T n B Q (.exit id') imm hs m):T n B (Exit.inBlock id Q) (.exit id') imm hs m:=λa w f g=>by
 have:id' ≠ id:=λe=>by subst e;simp at cT
 simpa [Exit.inBlock,this] using h a w f g
theorem zNq{e:Exit}{m':FM}(ah:sub m m')(h:T n B Q e imm hs m'):T n B Q e imm hs m:=λa w f g=>h a w (f.weaken ah) g
theorem zW{af:List Oper}{pc:Nat}(h0:af.drop pc=[])(h:T n B Q .normal imm hs m):R P n B af Q pc imm hs m:=λa w f g=>by rw[h0];exact h a w f g
def guardB(af:List Oper)(m:FM):Option (Nat×Bool)->Option Bool
 | none=>some true
 | some (j,want)=>match af[j]? with
  | some o=>match o.dst with
   | some d=>match look m d with
    | some (.bool b)=>some (b==want)
    | some _=>some false
    | none=>none
   | none=>none
  | none=>none
theorem Fr.wanted{a:Act}(f:Fr n a m){af:List Oper}{o:Oper}{b:Bool}(h:guardB af m o.guard=some b):Region.wanted o (yielded af.toArray a.tmps)=b:=by
 unfold Region.wanted;cases hg:o.guard with
 | none=>rw[hg] at h;simp[guardB] at h;simp[<- h]
 | some g=>
  obtain⟨j,want⟩:=g;rw[hg] at h;simp only[guardB] at h;split at h
  ·rename_i o' ho;split at h
   ·rename_i d hd;split at h
    ·rename_i b' hl;cases h
     have:=f.holds _ _ hl;simp[yielded,ho,hd,this]
    ·rename_i v hv hl;cases h
     have:=f.holds _ _ hl;have hy:yielded af.toArray a.tmps j=none:=by
      unfold yielded;simp only[AC,ho,xp,hd,this];cases v <;> first|rfl|exact absurd rfl (hv _)
     simp only[hy];rfl
    ·cases h
   ·cases h
  ·cases h
theorem zJz{af:List Oper}{pc:Nat}{o:Oper}(ho:af[pc]?=some o)(hg:guardB af m o.guard=some true)
 (h:∀a w,Fr n a m->Good B imm hs w->o.wp P a w (wpL P af.toArray Q (af.drop (pc+1))) Q):R P n B af Q pc imm hs m:=λa w f g=>by
 have hd:af.drop pc=o::af.drop (pc+1):=by
  have aG:pc<af.length:=by
   rcases z6 pc af.length with h|h
   ·exact h
   ·rw[Aj h] at ho;cases ho
  rw[yp aG]
  rw[ya aG] at ho
  cases ho;rfl
 rw[hd]
 simp only[wpL,f.wanted hg,xu]
 exact h a w f g
theorem zNP{af:List Oper}{pc d:Nat}{o:Oper}(ho:af[pc]?=some o)(hg:guardB af m o.guard=some false)(my:o.dst=some d)(hn:Nat.blt d n=true)
 (h:R P n B af Q (pc+1) imm hs ((d,undef)::m)):R P n B af Q pc imm hs m:=λa w f g=>by
 have hd:af.drop pc=o::af.drop (pc+1):=by
  have aG:pc<af.length:=by
   rcases z6 pc af.length with h|h
   ·exact h
   ·rw[Aj h] at ho;cases ho
  rw[yp aG]
  rw[ya aG] at ho
  cases ho;rfl
 rw[hd]
 simp only[wpL,f.wanted hg,xq,xt,my]
 exact h _ w (f.put d undef (by simpa using hn)) g
theorem fC{af:List Oper}{pc d:Nat}{o:Oper}(ho:af[pc]?=some o)(hg:guardB af m o.guard=some true)(hd:o.dst=some d)(hn:Nat.blt d n=true)
 (h:∀a w,Fr n a m->Good B imm hs w->∃v w' am ah,(execOp a.eval o).run P w=.ok (.value v) w'/\Good B am ah w'/\R P n B af Q (pc+1) am ah ((d,v)::m)):R P n B af Q pc imm hs m:=
 zJz ho hg λa w f g=>by
  obtain⟨v,w',am,ah,h1,h2,h3⟩:=h a w f g
  unfold Oper.wp
  rw[h1]
  simp only[Oper.upon,hd]
  exact h3 _ w' (f.put d v (by simpa using hn)) h2
theorem zMa{af:List Oper}{pc:Nat}{o:Oper}(ho:af[pc]?=some o)(hg:guardB af m o.guard=some true)(hd:o.dst=none)
 (h:∀a w,Fr n a m->Good B imm hs w->∃w' am ah,(execOp a.eval o).run P w=.ok .skip w'/\Good B am ah w'/\R P n B af Q (pc+1) am ah m):R P n B af Q pc imm hs m:=
 zJz ho hg λa w f g=>by
  obtain⟨w',am,ah,h1,h2,h3⟩:=h a w f g
  unfold Oper.wp
  rw[h1]
  simp only[Oper.upon,hd]
  exact h3 _ w' f h2
def run1(P:Program)(n:Nat)(af:List Oper)(m:FM)(o:Oper):Option FM:=
 match o.dst with
 | none=>none
 | some d=>bif Nat.blt d n then
  match guardB af m o.guard with
  | some true=>match pure1 P m o.op with|some v=>some ((d,v)::m)|none=>none
  | some false=>some ((d,undef)::m)
  | none=>none
  else none
def runL(P:Program)(n:Nat)(af:List Oper):List Oper->FM->Option FM
 | [],m=>some m
 | o::l,m=>match run1 P n af m o with|some m'=>runL P n af l m' | none=>none
def keep(m:FM):List Nat->Option FM
 | []=>some []
 | k::ks=>match look m k,keep m ks with|some v,some m'=>some ((k,v)::m')|_,_=>none
theorem zCM:∀{ks:List Nat}{m':FM},keep m ks=some m'->sub m m'
 | [],m',h=>by simp only[keep] at h;cases h;trivial
 | k::ks,m',h=>by
  simp only[keep] at h
  split at h
  ·rename_i v m1 h1 h2;cases h;exact⟨h1,zCM h2⟩
  ·cases h
def runK(P:Program)(n:Nat)(af:List Oper)(pc k:Nat)(ks:List Nat)(m:FM):Option FM:=
 match runL P n af ((af.drop pc).take k) m with|some m'=>keep m' ks|none=>none
theorem zLu{af:List Oper}{pc:Nat}{o:Oper}{m':FM}(ho:af[pc]?=some o)(h:run1 P n af m o=some m')(hR:R P n B af Q (pc+1) imm hs m'):R P n B af Q pc imm hs m:=by
 unfold run1 at h;split at h
 ·cases h
 ·rename_i d hd;cases hn:Nat.blt d n with
  | false=>rw[hn] at h;cases h
  | true=>
   rw[hn] at h;simp only[cond_true] at h;split at h
   ·rename_i hg;split at h
    ·rename_i v hv;cases h
     exact fC ho hg hd hn λa w f g=>⟨v,w,imm,hs,zEF f hv,g,hR⟩
    ·cases h
   ·rename_i hg;cases h
    exact zNP ho hg hd hn hR
   ·cases h
theorem zNr{af:List Oper}:∀(l:List Oper) {pc:Nat}{m m':FM},(∃r,af.drop pc=l++r)->runL P n af l m=some m'->R P n B af Q (pc+l.length) imm hs m'->R P n B af Q pc imm hs m
 | [],pc,m,m',_,h,hR=>by simp only[runL] at h;cases h;exact hR
 | o::l,pc,m,m',⟨r,hr⟩,h,hR=>by
  simp only[runL] at h
  split at h
  ·rename_i m1 h1
   have ho:af[pc]?=some o:=by
    have h0:(af.drop pc)[0]?=some o:=by rw[hr];rfl
    simpa using h0
   refine zLu ho h1 (zNr l ⟨r,?_⟩ h ?_)
   ·rw[<- zr,hr];rfl
   ·have:pc+1+l.length=pc+(o::l).length:=by simp;omega
    rw[this];exact hR
  ·cases h
theorem zBT{af:List Oper}{pc:Nat}{m':FM}(ah:sub m m')(h:R P n B af Q pc imm hs m'):R P n B af Q pc imm hs m:=λa w f g=>h a w (f.weaken ah) g
theorem zQY{af:List Oper}{pc:Nat}(k:Nat)(iV:Nat)(ks:List Nat){m':FM}(h:runK P n af pc k ks m=some m')(hl:Nat.beq (pc+((af.drop pc).take k).length) iV=true)(hR:R P n B af Q iV imm hs m'):R P n B af Q pc imm hs m:=by
 unfold runK at h;split at h
 ·rename_i m1 h1;refine zNr _ ⟨(af.drop pc).drop k,(List.take_append_drop ..).symm⟩ h1 (zBT (zCM h) ?_);rw[zm hl];exact hR
 ·cases h
theorem pQ{af:List Oper}{pc:Nat}(iV:Nat)(m':FM)(hR:R P n B af Q iV imm hs m')(h:runK P n af pc (iV - pc) (m'.map (·.1)) m=some m':=by kernel_rfl)(hl:Nat.beq (pc+((af.drop pc).take (iV - pc)).length) iV=true:=by kernel_rfl):R P n B af Q pc imm hs m:=
 zQY _ iV _ h hl hR
end
class Rp (α:Type) where
 sz:Nat
 pos:0<sz
 rep:Imm->List Value->α->Prop
 len:∀{i cs a},rep i cs a->cs.length=sz
 mono:∀{i j cs a},i.le j->rep i cs a->rep j cs a
 one:∀{i cs a},rep i cs a->∀v∈cs,v.oneCell'=true
def RepL{α:Type}(ρ:List Value->α->Prop)(sz:Nat):List Value->List α->Prop
 | cs,[]=>cs=[]
 | cs,a::l=>∃c1 c2,cs=c1++c2/\c1.length=sz/\ρ c1 a/\RepL ρ sz c2 l
theorem RepL.length{α:Type}{ρ:List Value->α->Prop}{sz:Nat}:∀{l:List α}{cs:List Value},RepL ρ sz cs l->cs.length=l.length*sz
 | [],cs,h=>by simp only[RepL] at h;simp[h]
 | a::l,cs,⟨c1,c2,h1,h2,_,h3⟩=>by
  have:=RepL.length h3
  rw[h1,yc,h2,this,xy,Ag];omega
theorem RepL.mono{α:Type}{ρ ρ':List Value->α->Prop}{sz:Nat}(hρ:∀c a,ρ c a->ρ' c a):∀{l:List α}{cs:List Value},RepL ρ sz cs l->RepL ρ' sz cs l
 | [],_,h=>h
 | _::_,_,⟨c1,c2,h1,h2,h3,h4⟩=>⟨c1,c2,h1,h2,hρ _ _ h3,RepL.mono hρ h4⟩
theorem RepL.append{α:Type}{ρ:List Value->α->Prop}{sz:Nat}:∀{l l':List α}{cs et:List Value},RepL ρ sz cs l->RepL ρ sz et l'->RepL ρ sz (cs++et) (l++l')
 | [],_,cs,_,h,h'=>by simp only[RepL] at h;subst h;exact h'
 | _::_,_,_,_,⟨c1,c2,h1,h2,h3,h4⟩,h'=>⟨c1,c2++_,by rw[h1,yu],h2,h3,RepL.append h4 h'⟩
theorem RepL.nil{α:Type}{ρ:List Value->α->Prop}{sz:Nat}:RepL ρ sz [] ([]:List α):=rfl
theorem RepL.single{α:Type}{ρ:List Value->α->Prop}{sz:Nat}{c:List Value}{a:α}(hl:c.length=sz)(h:ρ c a):RepL ρ sz c [a]:=⟨c,[],by simp,hl,h,rfl⟩
theorem RepL.at{α:Type}{ρ:List Value->α->Prop}{sz:Nat}:∀{l:List α}{cs:List Value}{i:Nat}{a:α},RepL ρ sz cs l->l[i]?=some a->ρ ((cs.drop (i*sz)).take sz) a/\i*sz+sz<=cs.length
 | [],_,_,_,_,e=>by simp at e
 | x::l,cs,0,a,⟨c1,c2,h1,h2,h3,h4⟩,e=>by
  simp at e;subst e
  subst h1
  refine⟨by simp[<- h2,h3],by simp[h2]⟩
 | x::l,cs,i+1,a,⟨c1,c2,h1,h2,h3,h4⟩,e=>by
  have ih:=RepL.at (i:=i) h4 (by simpa using e)
  subst h1
  have hm:(i+1)*sz=sz+i*sz:=by rw[Ag];omega
  rw[hm,<- zr,<- h2,List.drop_left,h2]
  refine⟨ih.1,?_⟩
  rw[yc,h2];omega
theorem RepL.set{α:Type}{ρ:List Value->α->Prop}{sz:Nat}:∀{l:List α}{cs:List Value}{i:Nat}{a:α}{c:List Value},RepL ρ sz cs l->i<l.length->c.length=sz->ρ c a ->
 RepL ρ sz (cs.take (i*sz)++c++cs.drop (i*sz+sz)) (l.set i a)
 | [],_,_,_,_,_,e,_,_=>by simp at e
 | x::l,cs,0,a,c,⟨c1,c2,h1,h2,h3,h4⟩,_,hc,ha=>by
  subst h1;subst h2
  refine⟨c,c2,?_,hc,ha,h4⟩
  simp
 | x::l,cs,i+1,a,c,⟨c1,c2,h1,h2,h3,h4⟩,e,hc,ha=>by
  have ih:=RepL.set (i:=i) h4 (by simpa using e) hc ha
  subst h1
  refine⟨c1,_,?_,h2,h3,ih⟩
  have hm:(i+1)*sz=sz+i*sz:=by rw[Ag];omega
  rw[hm,<- h2,List.take_length_add_append,AB,List.drop_length_add_append]
  simp[h2]
theorem RepL.take{α:Type}{ρ:List Value->α->Prop}{sz:Nat}:∀{l:List α}{cs:List Value} (k:Nat),RepL ρ sz cs l->RepL ρ sz (cs.take (k*sz)) (l.take k)
 | [],cs,k,h=>by simp only[RepL] at h;subst h;simp[RepL]
 | x::l,cs,0,h=>by simp[RepL]
 | x::l,cs,k+1,⟨c1,c2,h1,h2,h3,h4⟩=>by
  subst h1
  have hm:(k+1)*sz=sz+k*sz:=by rw[Ag];omega
  rw[Bb]
  exact⟨c1,c2.take (k*sz),by rw[hm,<- h2,List.take_length_add_append],h2,h3,RepL.take k h4⟩
theorem RepL.drop{α:Type}{ρ:List Value->α->Prop}{sz:Nat}:∀{l:List α}{cs:List Value} (k:Nat),RepL ρ sz cs l->RepL ρ sz (cs.drop (k*sz)) (l.drop k)
 | [],cs,k,h=>by simp only[RepL] at h;subst h;simp[RepL]
 | x::l,cs,0,h=>by simpa using h
 | x::l,cs,k+1,⟨c1,c2,h1,h2,h3,h4⟩=>by
  subst h1
  have hm:(k+1)*sz=sz+k*sz:=by rw[Ag];omega
  rw[hm,<- h2,List.drop_length_add_append,List.drop_succ_cons,h2]
  exact RepL.drop k h4
theorem RepL.one{α:Type}{ρ:List Value->α->Prop}{sz:Nat}(h1:∀c a,ρ c a->∀v∈c,v.oneCell'=true):∀{l:List α}{cs:List Value},RepL ρ sz cs l->∀v∈cs,v.oneCell'=true
 | [],cs,h,v,hv=>by simp only[RepL] at h;subst h;simp at hv
 | a::l,cs,⟨c1,c2,e1,_,e3,e4⟩,v,hv=>by
  subst e1
  rcases yr.1 hv with hv|hv
  ·exact h1 _ _ e3 v hv
  ·exact RepL.one h1 e4 v hv
def SL{α:Type}[Rp α](imm:Imm)(v:Value)(l:List α):Prop:=∃aR,SliceAt imm v (Rp.sz α) aR/\RepL (Rp.rep imm) (Rp.sz α) aR l
theorem SL.mono{α:Type}[Rp α]{i j:Imm}(h:i.le j){v:Value}{l:List α}(hs:SL i v l):SL j v l:=by
 obtain⟨aR,h1,h2⟩:=hs;exact⟨aR,h1.mono h,h2.mono λ_ _=>Rp.mono h⟩
abbrev hB(b:Nat)(l:List Value):HA:=.blk b ⟨l⟩
abbrev hO(α:Type)[Rp α](v:Value)(cs:List Value):HA:=.osl v (Rp.sz α) cs
theorem SL.nil{α:Type}[Rp α](imm:Imm):SL imm (.slice none 0 0) ([]:List α):=⟨[],.inl ⟨rfl,rfl⟩,rfl⟩
structure Str where
 l:List UInt8
 deriving DecidableEq
instance:Rp Int where
 sz:=1
 pos:=Bi
 rep _ cs n:=cs=[.int .i64 n]
 len h:=by subst h;rfl
 mono _ h:=h
 one h:=by subst h;simp[Value.oneCell']
instance:Rp UInt8 where
 sz:=1
 pos:=Bi
 rep _ cs b:=cs=[.int .u8 (b.toNat:Int)]
 len h:=by subst h;rfl
 mono _ h:=h
 one h:=by subst h;simp[Value.oneCell']
instance:Rp Bool where
 sz:=1
 pos:=Bi
 rep _ cs b:=cs=[.bool b]
 len h:=by subst h;rfl
 mono _ h:=h
 one h:=by subst h;simp[Value.oneCell']
instance:Rp Str where
 sz:=1
 pos:=Bi
 rep _ cs s:=cs=[.string ⟨⟨s.l⟩⟩]
 len h:=by subst h;rfl
 mono _ h:=h
 one h:=by subst h;simp[Value.oneCell']
instance {α:Type} [Rp α]:Rp (List α) where
 sz:=1
 pos:=Bi
 rep i cs l:=∃v,cs=[v]/\SL i v l
 len h:=by obtain⟨v,rfl,_⟩:=h;rfl
 mono hm h:=by obtain⟨v,e,hs⟩:=h;exact⟨v,e,hs.mono hm⟩
 one h:=by
  obtain⟨v,rfl,aR,hs,_⟩:=h
  rcases hs with⟨rfl,_⟩|⟨b,off,len,bi,c,rfl,_⟩ <;> simp[Value.oneCell']
def At(imm:Imm)(ad:Addr)(cs:List Value):Prop:=∃b off c,ad=⟨b,off,none⟩/\imm b=some c/\off+cs.length<=c.size/\(c.toList.drop off).take cs.length=cs
theorem At.mono{i j:Imm}(h:i.le j){ad:Addr}{cs:List Value}(ha:At i ad cs):At j ad cs:=by
 obtain⟨b,off,c,h1,h2,h3⟩:=ha;exact⟨b,off,c,h1,h _ _ h2,h3⟩
theorem zAM(b off k:Nat):(⟨b,off,none⟩:Addr).add k=⟨b,off+k,none⟩:=by
 unfold Addr.add;split
 ·rename_i h;subst h;rfl
 ·rfl
section
variable {P:Program}{w:World}
theorem zE4{b off:Nat}{c:Array Value}{ty:TypeId}{fr:Nat×Nat}{v:Value}(hb:w.heap[b]?=some (.cells c ty fr))(hv:c[off]?=some v):(load ⟨b,off,none⟩).run P w=.ok v w:=by
 have:w.cell? ⟨b,off,none⟩=some v:=by simp[World.cell?,hb,hv]
 simp[this]
theorem zBe{b off:Nat}{c:Array Value}{ty:TypeId}{fr:Nat×Nat}(hb:w.heap[b]?=some (.cells c ty fr)):∀(n i:Nat) (acc:Array Value),off+i+n<=c.size ->
 (loadCellsFrom ⟨b,off,none⟩ i n acc).run P w=.ok (acc++(c.extract (off+i) (off+i+n))) w
 | 0,i,acc,_=>by simp[loadCellsFrom,Nat.min_le_left]
 | n+1,i,acc,h=>by
  have hv:c[off+i]?=some c[off+i]:=by simp
  simp only[loadCellsFrom,Sem.run_bind,zAM,zE4 hb hv,Result.andThen_ok]
  rw[zBe hb n (i+1) _ (by omega)]
  congr 1
  apply Array.ext'
  simp only[Array.toList_append,Array.toList_push,A9,Al]
  rw[yu]
  congr 1
  rw[show off+i+(n+1) - (off+i)=n+1 from by omega,show off+(i+1)+n - (off+(i+1))=n from by omega]
  rw[yp (show off+i<c.toList.length from by simp;omega),Bb]
  simp[AB]
theorem zCC{b off n:Nat}{c:Array Value}{ty:TypeId}{fr:Nat×Nat}(hb:w.heap[b]?=some (.cells c ty fr))(h:off+n<=c.size):
 (loadCells ⟨b,off,none⟩ n).run P w=.ok (c.extract off (off+n)) w:=by
 unfold loadCells
 rw[zBe hb n 0 #[] (by omega)]
 simp
def loadV(P:Program)(t:TypeId)(cs:List Value):Option Value:=
 match isAggT P t,sizeT P t with
 | some true,some s=>bif Nat.beq cs.length s then some (.agg ⟨cs⟩) else none
 | some false,some _=>match cs with|[v]=>some v|_=>none
 | _,_=>none
theorem zAN{b off:Nat}{c:Array Value}{ty:TypeId}{fr:Nat×Nat}{t:TypeId}{cs:List Value}{v:Value}(hb:w.heap[b]?=some (.cells c ty fr))(cM:off+cs.length<=c.size)
 (gy:(c.toList.drop off).take cs.length=cs) (hv:loadV P t cs=some v):(loadVar t ⟨b,off,none⟩).run P w=.ok v w:=by
 unfold loadV at hv
 unfold loadVar
 split at hv
 ·rename_i s h1 h2
  cases hq:Nat.beq cs.length s with
  | false=>rw[hq] at hv;cases hv
  | true=>
   rw[hq] at hv;cases hv
   have hs:=zm hq
   simp only[Sem.run_bind,zEE h1,Result.andThen_ok,xu,kZ h2,<- hs,zCC hb cM,Sem.run_pure]
   congr 2
   apply Array.ext'
   simpa [A9,Al] using gy
 ·rename_i s h1 h2
  split at hv
  ·rename_i u
   cases hv
   have:c[off]?=some v:=by
    have h0:=congrArg (λl=>l[0]?) gy
    simpa using h0
   simp only[Sem.run_bind,zEE h1,Result.andThen_ok,xq,xt,zE4 hb this]
  ·cases hv
 ·cases hv
def wr(c:Array Value)(o:Nat):List Value->Array Value
 | []=>c
 | v::vs=>wr (c.setIfInBounds o v) (o+1) vs
theorem zMb(c:Array Value):∀(vs:List Value) (o:Nat),(wr c o vs).size=c.size:=by
 intro vs
 induction vs generalizing c with
 | nil=>intro o;rfl
 | cons v vs ih=>intro o;simp[wr,ih]
theorem zJa(c:Array Value):∀(vs:List Value) (o:Nat),o+vs.length<=c.size->(wr c o vs).toList=c.toList.take o++vs++c.toList.drop (o+vs.length):=by
 intro vs
 induction vs generalizing c with
 | nil=>intro o _;simp[wr]
 | cons v vs ih=>
  intro o h;simp only[xy] at h;rw[wr,ih _ (o+1) (by simpa using(by omega:o+1+vs.length<=c.size))];simp only[Array.toList_setIfInBounds,xy];rw[List.take_set,List.take_succ_eq_append_getElem (by simpa using(by omega:o<c.size)),List.set_append_right _ _ (by simp;omega)];rw[List.drop_set_of_lt (by omega)];have:o - (List.take o c.toList).length=0:=by simp;omega
  rw[this];simp[AB,Nat.add_comm 1]
theorem zBU{b off:Nat}{ty:TypeId}:∀(vs:List Value) (i:Nat) (c:Array Value) (w:World),w.heap[b]?=some (.cells c ty (0,0))->(∀v∈vs,v.oneCell'=true)->off+i+vs.length<=c.size ->
 (storeCells ⟨b,off,none⟩ vs i).run P w=.ok () (setBlk w b (.cells (wr c (off+i) vs) ty (0,0)))
 | [],i,c,w,hb,_,_=>by
  have:setBlk w b (.cells c ty (0,0))=w:=by
   unfold setBlk
   have:w.heap.setIfInBounds b (.cells c ty (0,0))=w.heap:=by
    apply Array.ext_getElem?
    intro j
    by_cases hj:b=j
    ·subst hj
     rw[Array.getElem?_setIfInBounds]
     simp only[xu]
     split
     ·rw[hb]
     ·rename_i aG;rw[Ay (by omega)] at hb;cases hb
    ·rw[Af hj]
   rw[this]
  simp[storeCells,wr,this]
 | v::vs,i,c,w,hb,h1,cM=>by
  simp only[xy] at cM
  have hc:w.cell? ⟨b,off+i,none⟩=some c[off+i]:=by simp[World.cell?,hb]
  have hf:w.frozen? ⟨b,off+i,none⟩=false:=by simp[World.frozen?,hb]
  have aG:b<w.heap.size:=by
   rcases z6 b w.heap.size with h|h
   ·exact h
   ·rw[Ay h] at hb;cases hb
  have fg:w.setCell ⟨b,off+i,none⟩ v=setBlk w b (.cells (c.setIfInBounds (off+i) v) ty (0,0)):=by
   unfold World.setCell setBlk
   congr 1
   apply Array.ext_getElem?
   intro j
   rw[Array.getElem?_modify,Array.getElem?_setIfInBounds]
   by_cases hj:b=j
   ·subst hj
    have ld:w.heap[b]=.cells c ty (0,0):=by rw[zz aG] at hb;injection hb
    simp[aG,ld]
   ·simp[hj]
  simp only[storeCells,Sem.run_bind,zAM]
  rw[run_store P w _ v _ (h1 v (xz ..))]
  simp only[hc,hf,xq,xt,Result.andThen_ok,fg]
  rw[zBU vs (i+1) (c.setIfInBounds (off+i) v) _ (zBd aG) (λu hu=>h1 u (xx _ hu)) (by simpa using(by omega:off+(i+1)+vs.length<=c.size))]
  simp[setBlk,wr,AB]
theorem zFK{b off:Nat}{ty:TypeId}{c:Array Value}{t:TypeId}{v:Value}(hb:w.heap[b]?=some (.cells c ty (0,0)))(h1:∀u∈v.cells.toList,u.oneCell'=true)(cM:off+v.cells.size<=c.size)
 (hs:sizeT P t=some v.cells.size):(storeVar t ⟨b,off,none⟩ v).run P w=.ok () (setBlk w b (.cells (wr c off v.cells.toList) ty (0,0))):=by
 simp only[storeVar,Sem.run_bind,kZ hs,Result.andThen_ok,ne_eq,not_true_eq_false,xt]
 have:=zBU (P:=P) (off:=off) (ty:=ty) v.cells.toList 0 c w hb h1 (by simpa using cM)
 simpa using this
end
section
variable {P:Program}{n:Nat}{B:Base}{Q:Exit->Act->World->Prop}{imm:Imm}{hs:List HA}{m:FM}{af:List Oper}{pc d:Nat}
theorem mR{hs:List HA}{j:Nat}{A:HA}(h:hs[j]?=some A):A∈hs:=zj h
theorem Good.readI{w:World}(h:Good B imm hs w){v:Value}{sz:Nat}{cs:List Value}(hs:SliceAt imm v sz cs):
 (v=.slice none 0 0/\cs=[])∨∃b off len bi c ty fr,v=.slice (some ⟨b,off,none⟩) len bi/\w.heap[b]?=some (.cells c ty fr)/\off+len*sz<=c.size/\cs.length=len*sz/\(c.toList.drop off).take (len*sz)=cs:=by
 rcases hs with h0|⟨b,off,len,bi,c,h1,h2,h3,_,h5⟩
 ·exact .inl h0
 ·obtain⟨ty,fr,e⟩:=h.inv b c h2
  exact .inr ⟨b,off,len,bi,c,ty,fr,h1,e,h3,h5⟩
theorem Good.readO{w:World}(h:Good B imm hs w){v:Value}{sz:Nat}{cs:List Value}(hm:HA.osl v sz cs∈hs):
 (v=.slice none 0 0/\cs=[])∨∃b off len bi c ty fr,v=.slice (some ⟨b,off,none⟩) len bi/\w.heap[b]?=some (.cells c ty fr)/\off+len*sz<=c.size/\cs.length=len*sz/\(c.toList.drop off).take (len*sz)=cs:=by
 rcases h.own _ hm with h0|⟨b,off,len,bi,all,ty,h1,h2,h3,h4,h5,h6,h7,h8,_⟩
 ·exact .inl h0
 ·refine .inr ⟨b,off,len,bi,all,ty,_,h1,h4,?_,h7,h8⟩
  have:=zy sz h6
  omega
def idx{α:Type}(l:List α)(i:Int):Option α:=if 0<=i then l[i.toNat]? else none
theorem rG{α:Type}{l:List α}{i:Int}{y:α}(h:idx l i=some y):0<=i/\i<l.length/\l[i.toNat]?=some y:=by
 unfold idx at h;split at h
 ·rename_i h0;refine⟨h0,?_,h⟩;have:=(yi.1 h).1;omega
 ·cases h
def elemT(P:Program)(t:TypeId):Option Nat:=match P.underlying t with|some (.slice e)=>sizeT P e|_=>none
theorem zDZ{w:World}{t sz:Nat}{b off len bi:Nat}{k:IntKind}{i:Int}(ht:elemT P t=some sz)(h0:0<=i)(h1:i<len):
 (Instr.indexAt t (.slice (some ⟨b,off,none⟩) len bi) (.int k i)).run P w=.ok (.pointer (some ⟨b,off+i.toNat*sz,none⟩)) w:=by
 unfold elemT at ht
 split at ht
 ·rename_i e hu
  simp[Instr.indexAt,asIntOf,xZ hu,h0,h1,kZ ht,zAM]
 ·cases ht
theorem gR{a b s:Nat}(hs:0<s)(h:a*s=b*s):a=b:=Nat.eq_of_mul_eq_mul_right hs h
theorem SL.form{α:Type}[Rp α]{v:Value}{l:List α}(h:SL imm v l):∃a bi,v=.slice a l.length bi:=by
 obtain⟨aR,kg,hr⟩:=h;have aP:=hr.length;rcases kg with⟨rfl,rfl⟩|⟨b,off,len,bi,c,rfl,_,_,_,qh,_⟩
 ·have:l.length*Rp.sz α=0*Rp.sz α:=by rw[<- aP];simp
  rw[gR (Rp.pos (α:=α)) this];exact⟨none,0,rfl⟩
 ·have:len*Rp.sz α=l.length*Rp.sz α:=by omega
  rw[gR (Rp.pos (α:=α)) this];exact⟨_,bi,rfl⟩
theorem zPY{α:Type}[Rp α]{t:TypeId}{x xi:Operand}{ty:TypeId}{pos:String}{after:Array Edge}{g:Option (Nat×Bool)}{v:Value}{k:IntKind}{i:Int}{l:List α}{y:α}
 (ho:af[pc]?=some ⟨some d,.indexAddr t x xi,ty,pos,after,g⟩) (hg:guardB af m g=some true) (hn:Nat.blt d n=true) (hx:val m x=some v) (hi:val m xi=some (.int k i)) (ht:elemT P t=some (Rp.sz α))
 (ah:SL imm v l) (hy:idx l i=some y) (next:∀ad aR,At imm ad aR->Rp.rep imm aR y->R P n B af Q (pc+1) imm hs ((d,.pointer (some ad))::m)):R P n B af Q pc imm hs m:=by
 obtain⟨h0,h1,h2⟩:=rG hy
 obtain⟨aR,kg,hr⟩:=ah
 refine fC ho hg rfl hn λa w f gd=>?_
 have aP:=hr.length
 obtain⟨al,u3⟩:=hr.at h2
 rcases kg with⟨rfl,rfl⟩|⟨b,off,len,bi,c,rfl,hc,cM,_,qh,gy⟩
 ·have:=Rp.pos (α:=α)
  simp at u3;omega
 ·have uc:len=l.length:=gR (Rp.pos (α:=α)) (by omega)
  subst uc
  have av:At imm ⟨b,off+i.toNat*Rp.sz α,none⟩ ((aR.drop (i.toNat*Rp.sz α)).take (Rp.sz α)):=by
   refine⟨b,_,c,rfl,hc,?_,?_⟩
   ·simp only[yl,yt];omega
   ·rw[<- zr]
    conv=>rhs;rw[<- gy,AK,AG]
    congr 1
    simp only[yl,yt]
    omega
  exact⟨_,w,imm,hs,by simp only[execOp,f.eval hx,f.eval hi,Sem.run_bind,zDZ ht h0 h1,Result.andThen_ok,Sem.run_pure],gd,next _ _ av al⟩
theorem At.sub{ad:Addr}{cs et:List Value}(h:At imm ad cs)(o:Nat)(gp:Nat.ble o cs.length=true)(hc:(cs.drop o).take et.length=et):At imm (ad.add o) et:=by
 obtain⟨b,off,c,rfl,hb,cM,he⟩:=h;have gp:=za gp;refine⟨b,off+o,c,zAM ..,hb,?_,?_⟩
 ·have:=congrArg List.length hc;simp only[yl,yt] at this;omega
 ·rw[<- zr]
  conv=>rhs;rw[<- hc,<- he,AK,AG]
  congr 1
  have:=congrArg List.length hc;simp only[yl,yt] at this;omega
theorem zNQ{t:TypeId}{x:Operand}{ty:TypeId}{pos:String}{after:Array Edge}{g:Option (Nat×Bool)}{ad:Addr}{cs et:List Value}{v:Value}(o:Nat)
 (ho:af[pc]?=some ⟨some d,.load t x,ty,pos,after,g⟩) (hg:guardB af m g=some true) (hn:Nat.blt d n=true) (av:At imm ad cs) (hx:val m x=some (.pointer (some (ad.add o))))
 (gp:Nat.ble o cs.length=true) (hc:(cs.drop o).take et.length=et) (hv:loadV P t et=some v) (next:R P n B af Q (pc+1) imm hs ((d,v)::m)):R P n B af Q pc imm hs m:=by
 refine fC ho hg rfl hn λa w f gd=>?_
 obtain⟨b,off,c,e,hb,cM,he⟩:=av.sub o gp hc
 obtain⟨nk,fr,hw⟩:=gd.inv b c hb
 refine⟨v,w,imm,hs,?_,gd,next⟩
 simp only[execOp,f.eval hx,Instr.loadAt,Instr.sureAddr,Sem.run_bind,Sem.run_pure,Result.andThen_ok,e,zAN hw cM he hv]
def zeroC(P:Program)(t:TypeId):Option (Array Value):=((P.info? t).bind (·.zero)).map Value.cells
theorem zAk{w:World}{t:TypeId}{c:Array Value}(h:zeroC P t=some c):∃z,(zeroValue t).run P w=.ok z w/\z.cells=c:=by
 unfold zeroC at h;cases hi:P.info? t with
 | none=>rw[hi] at h;cases h
 | some i=>
  rw[hi] at h;simp only[xp] at h;cases hz:i.zero with
  | none=>rw[hz] at h;cases h
  | some z=>
   rw[hz] at h;simp only[Option.map_some,Option.some.injEq] at h;exact⟨z,by simp[zeroValue,typeInfo,hi,hz],h⟩
theorem zPZ{t:TypeId}{ty:TypeId}{pos:String}{after:Array Edge}{g:Option (Nat×Bool)}{c:Array Value}
 (ho:af[pc]?=some ⟨some d,.alloc t,ty,pos,after,g⟩) (hg:guardB af m g=some true) (hn:Nat.blt d n=true) (hz:zeroC P t=some c)
 (next:∀b,B.w0.heap.size<=b->R P n B af Q (pc+1) imm (.blk b c::hs) ((d,.pointer (some ⟨b,0,none⟩))::m)):R P n B af Q pc imm hs m:=by
 refine fC ho hg rfl hn λa w f gd=>?_
 obtain⟨z,hz1,qb⟩:=zAk (w:=w) hz
 refine⟨_,_,imm,_,?_,gd.alloc_blk c t,next w.heap.size gd.frm.size⟩
 simp[execOp,Instr.alloc,hz1,newVar,newRow,qb]
theorem zRA{t:TypeId}{x:Operand}{ty:TypeId}{pos:String}{after:Array Edge}{g:Option (Nat×Bool)}{v:Value}{c:Array Value}
 (ho:af[pc]?=some ⟨some d,.box t x,ty,pos,after,g⟩) (hg:guardB af m g=some true) (hn:Nat.blt d n=true) (hx:val m x=some v) (hc:v.cells=c)
 (next:∀b,B.w0.heap.size<=b->R P n B af Q (pc+1) imm (.blk b c::hs) ((d,.pointer (some ⟨b,0,none⟩))::m)):R P n B af Q pc imm hs m:=by
 refine fC ho hg rfl hn λa w f gd=>?_
 refine⟨_,_,imm,_,?_,gd.alloc_blk c t,next w.heap.size gd.frm.size⟩
 simp[execOp,Instr.box,f.eval hx,newVar,newRow,hc]
theorem zLv{t:TypeId}{x:Operand}{ty:TypeId}{pos:String}{after:Array Edge}{g:Option (Nat×Bool)}{b o:Nat}{c:Array Value}{cs:List Value}{v:Value}(j:Nat)
 (ho:af[pc]?=some ⟨some d,.load t x,ty,pos,after,g⟩) (hg:guardB af m g=some true) (hn:Nat.blt d n=true) (hj:hs[j]?=some (.blk b c)) (hx:val m x=some (.pointer (some ⟨b,o,none⟩)))
 (gp:Nat.ble (o+cs.length) c.size=true) (hc:(c.toList.drop o).take cs.length=cs) (hv:loadV P t cs=some v) (next:R P n B af Q (pc+1) imm hs ((d,v)::m)):R P n B af Q pc imm hs m:=by
 refine fC ho hg rfl hn λa w f gd=>?_
 obtain⟨_,_,nk,hw⟩:=gd.own _ (mR hj)
 refine⟨v,w,imm,hs,?_,gd,next⟩
 simp only[execOp,f.eval hx,Instr.loadAt,Instr.sureAddr,Sem.run_bind,Sem.run_pure,Result.andThen_ok,zAN hw (za gp) hc hv]
theorem eO{α:Type}{A:α}:∀{hs:List α}{j:Nat},hs[j]?=some A->hs.Perm (A::hs.eraseIdx j)
 | [],j,h=>by simp at h
 | x::hs,0,h=>by simp at h;subst h;simp
 | x::hs,j+1,h=>by
  have:=eO (hs:=hs) (j:=j) (by simpa using h)
  exact(this.cons x).trans (.swap ..)
theorem zHr{α:Type}{A:α}:∀{hs:List α}{j:Nat},j<hs.length->(hs.set j A).Perm (A::hs.eraseIdx j)
 | [],j,h=>by simp at h
 | x::hs,0,h=>by simp
 | x::hs,j+1,h=>by
  have:=zHr (A:=A) (hs:=hs) (j:=j) (by simpa using h)
  exact(this.cons x).trans (.swap ..)
theorem Good.write_at{A A':HA}{w:World}(h:Good B imm hs w){j:Nat}(hj:hs[j]?=some A){b:Nat}(hb:b∈A.fp)(u5:A'.fp=A.fp)(o:Obj)(hA:A'.ok B imm (setBlk w b o)):Good B imm (hs.set j A') (setBlk w b o):=
 ((h.perm (eO hj).symm).write hb u5 o hA).perm (zHr (yi.1 hj).1)
theorem zMc{l:List Value}(h:l.all Value.oneCell'=true):∀u∈l,u.oneCell'=true:=yb.1 h
theorem zHF{t:TypeId}{x y:Operand}{ty:TypeId}{pos:String}{after:Array Edge}{g:Option (Nat×Bool)}{b o:Nat}{c c':Array Value}{v:Value}{ah:List HA}(j:Nat)
 (ho:af[pc]?=some ⟨none,.store t x y,ty,pos,after,g⟩) (hg:guardB af m g=some true) (hj:hs[j]?=some (.blk b c)) (hx:val m x=some (.pointer (some ⟨b,o,none⟩))) (hy:val m y=some v)
 (fy:sizeT P t=some v.cells.size) (gp:Nat.ble (o+v.cells.size) c.size=true) (j6:v.cells.toList.all Value.oneCell'=true) (hc:wr c o v.cells.toList=c') (hh:hs.set j (.blk b c')=ah)
 (next:R P n B af Q (pc+1) imm ah m):R P n B af Q pc imm hs m:=by
 refine zMa ho hg rfl λa w f gd=>?_
 obtain⟨h1,h2,nk,hw⟩:=gd.own _ (mR hj)
 have tt:b<w.heap.size:=((gd.own _ (mR hj)).lt (by simp[HA.fp])).1
 have pw:=zFK (P:=P) (t:=t) (off:=o) hw (zMc j6) (za gp) fy
 refine⟨setBlk w b (.cells (wr c o v.cells.toList) nk (0,0)),imm,ah,?_,?_,next⟩
 ·simp only[execOp,f.eval hx,f.eval hy,Instr.storeAt,Instr.sureAddr,Sem.run_bind,Sem.run_pure,Result.andThen_ok,pw]
 ·rw[<- hh]
  exact gd.write_at hj (by simp[HA.fp]) (by simp[HA.fp]) _ ⟨h1,h2,nk,by rw[hc];exact zBd tt⟩
def elemZ(P:Program)(t:TypeId)(len:Nat)(parts:List (Nat×Value)):Option (Array Value):=
 match P.underlying t with
 | some (.slice e)=>match sizeT P e,(bif Nat.beq (len*(sizeT P e).getD 0) 0 then some #[] else zeroC P e) with
  | some s,some z=>bif Nat.ble (len*s) 65536 then Instr.fill (λi=>some (i*s,s)) ((Array.range (len*s)).map (z[· % z.size]!)) parts else none
  | _,_=>none
 | _=>none
theorem zHs{w:World}{t len:Nat}{parts:List (Nat×Value)}{c:Array Value}(h:elemZ P t len parts=some c):
 ∃e,(Instr.buildSlice t len parts.toArray).run P w=.ok (.slice (some ⟨w.heap.size,0,none⟩) len len) { w with heap:=w.heap.push (.cells c e) }:=by
 unfold elemZ at h
 split at h
 ·rename_i e hu
  split at h
  ·rename_i s z hs hz
   cases hb:Nat.ble (len*s) 65536 with
   | false=>rw[hb] at h;cases h
   | true=>
    rw[hb] at h
    simp only[cond_true] at h
    have cM:¬(len*s>2 ^ 24):=by have:=za hb;omega
    rw[hs] at hz
    simp only[zx] at hz
    refine⟨e,?_⟩
    simp only[Instr.buildSlice,Sem.run_bind,xZ hu,Result.andThen_ok,kZ hs,cM,xt]
    cases hq:Nat.beq (len*s) 0 with
    | true=>
     rw[hq] at hz
     simp only[cond_true,Option.some.injEq] at hz
     subst hz
     rw[if_pos (zm hq)]
     simp only[Sem.run_bind,Sem.run_pure,Result.andThen_ok]
     rw[h]
     simp only[newRow,Sem.run_bind,run_newObj,Result.andThen_ok,Sem.run_pure]
    | false=>
     rw[hq] at hz
     simp only[cond_false] at hz
     have cT:len*s ≠ 0:=λe=>by rw[e] at hq;simp at hq
     obtain⟨zv,hz1,qb⟩:=zAk (w:=w) hz
     rw[if_neg cT]
     simp only[Sem.run_bind,Sem.run_pure,Result.andThen_ok,hz1,qb]
     rw[h]
     simp only[newRow,Sem.run_bind,run_newObj,Result.andThen_ok,Sem.run_pure]
  ·cases h
 ·cases h
theorem zKj(L vs:List Value)(off N a:Nat)(h1:a+vs.length<=N)(h2:off+N<=L.length):
 ((L.take (off+a)++vs++L.drop (off+a+vs.length)).drop off).take N=((L.drop off).take N).take a++vs++((L.drop off).take N).drop (a+vs.length):=by
 apply Bk
 intro q
 simp only[Ax,AS,List.getElem?_append,yc,yl,yt]
 grind
theorem zKA{t len:Nat}{parts:Array (Nat×Operand)}{ty:TypeId}{pos:String}{after:Array Edge}{g:Option (Nat×Bool)}{ps:List (Nat×Value)}{cs:List Value}(sz:Nat)
 (ho:af[pc]?=some ⟨some d,.buildSlice t len parts,ty,pos,after,g⟩) (hg:guardB af m g=some true) (hn:Nat.blt d n=true) (vy:pvals m parts.toList=some ps) (hc:elemZ P t len ps=some ⟨cs⟩) (hl:Nat.beq cs.length (len*sz)=true)
 (next:∀b,B.w0.heap.size<=b->R P n B af Q (pc+1) imm (.osl (.slice (some ⟨b,0,none⟩) len len) sz cs::hs) ((d,.slice (some ⟨b,0,none⟩) len len)::m)) (hlM:Nat.ble len 9223372036854775807=true:=by rfl):R P n B af Q pc imm hs m:=by
 refine fC ho hg rfl hn λa w f gd=>?_
 obtain⟨e,pw⟩:=zHs (w:=w) hc
 have hv:=f.pevals vy
 have hp:(parts.map λ(i,x)=>(i,a.eval x))=ps.toArray:=by apply Array.ext';rw[Av];exact hv
 have hl:=zm hl
 refine⟨_,_,imm,_,?_,gd.alloc_osl ⟨cs⟩ e sz len len cs (by simp[hl]) (zf _) (by simp[<- hl]) hl (za hlM),next w.heap.size gd.frm.size⟩
 simp only[execOp,hp,Sem.run_bind,pw,Result.andThen_ok,Sem.run_pure]
theorem Good.osl_form{w:World}(h:Good B imm hs w){α:Type}{ρ:List Value->α->Prop}{v:Value}{sz:Nat}{cs:List Value}{l:List α}(hm:HA.osl v sz cs∈hs)(fy:0<sz)(hr:RepL ρ sz cs l):∃a bi,v=.slice a l.length bi:=by
 have aP:=hr.length;rcases h.readO hm with⟨rfl,rfl⟩|⟨b,off,len,bi,c,ty,fr,rfl,_,_,qh,_⟩
 ·have:l.length*sz=0*sz:=by rw[<- aP];simp
  rw[gR fy this];exact⟨none,0,rfl⟩
 ·have:len*sz=l.length*sz:=by omega
  rw[gR fy this];exact⟨_,bi,rfl⟩
theorem zEa{α:Type}[Rp α]{v:Value}{cs:List Value}{l:List α}(j:Nat)(hj:hs[j]?=some (.osl v (Rp.sz α) cs))(hr:RepL (Rp.rep imm) (Rp.sz α) cs l)
 (next:∀a bi,v=.slice a l.length bi->R P n B af Q pc imm hs m):R P n B af Q pc imm hs m:=λa w f g=>by
 obtain⟨ad,bi,e⟩:=g.osl_form (mR hj) Rp.pos hr
 exact next ad bi e a w f g
def AtO(v:Value)(sz i:Nat)(ad:Addr):Prop:=∃b off len bi,v=.slice (some ⟨b,off,none⟩) len bi/\ad=⟨b,off+i*sz,none⟩/\i<len
theorem zKk{α:Type}[Rp α]{t:TypeId}{x xi:Operand}{ty:TypeId}{pos:String}{after:Array Edge}{g:Option (Nat×Bool)}{v:Value}{k:IntKind}{i:Int}{cs:List Value}{l:List α}{y:α}(j:Nat)
 (ho:af[pc]?=some ⟨some d,.indexAddr t x xi,ty,pos,after,g⟩) (hg:guardB af m g=some true) (hn:Nat.blt d n=true) (hj:hs[j]?=some (.osl v (Rp.sz α) cs)) (hx:val m x=some v) (hi:val m xi=some (.int k i)) (ht:elemT P t=some (Rp.sz α))
 (hr:RepL (Rp.rep imm) (Rp.sz α) cs l) (hy:idx l i=some y)
 (next:∀ad cc,AtO v (Rp.sz α) i.toNat ad->(cs.drop (i.toNat*Rp.sz α)).take (Rp.sz α)=cc->Rp.rep imm cc y->R P n B af Q (pc+1) imm hs ((d,.pointer (some ad))::m)):R P n B af Q pc imm hs m:=by
 obtain⟨h0,h1,h2⟩:=rG hy
 refine fC ho hg rfl hn λa w f gd=>?_
 have aP:=hr.length
 obtain⟨al,u3⟩:=hr.at h2
 rcases gd.readO (mR hj) with⟨rfl,rfl⟩|⟨b,off,len,bi,c,nk,fr,rfl,hw,cM,qh,gy⟩
 ·have:=Rp.pos (α:=α)
  simp at u3;omega
 ·have uc:len=l.length:=gR (Rp.pos (α:=α)) (by omega)
  subst uc
  exact⟨_,w,imm,hs,by simp only[execOp,f.eval hx,f.eval hi,Sem.run_bind,zDZ ht h0 h1,Result.andThen_ok,Sem.run_pure],gd,next _ _ ⟨b,off,_,bi,rfl,rfl,by omega⟩ rfl al⟩
theorem zLw{t:TypeId}{x:Operand}{ty:TypeId}{pos:String}{after:Array Edge}{g:Option (Nat×Bool)}{v0:Value}{sz i:Nat}{ad:Addr}{cs cc tj:List Value}{v:Value}(j o:Nat)
 (ho:af[pc]?=some ⟨some d,.load t x,ty,pos,after,g⟩) (hg:guardB af m g=some true) (hn:Nat.blt d n=true) (hj:hs[j]?=some (.osl v0 sz cs)) (av:AtO v0 sz i ad) (hx:val m x=some (.pointer (some (ad.add o))))
 (cQ:(cs.drop (i*sz)).take sz=cc) (gp:Nat.ble (o+tj.length) sz=true) (hc:(cc.drop o).take tj.length=tj) (hv:loadV P t tj=some v) (next:R P n B af Q (pc+1) imm hs ((d,v)::m)):R P n B af Q pc imm hs m:=by
 refine fC ho hg rfl hn λa w f gd=>?_
 obtain⟨b,off,len,bi,rfl,rfl,hi⟩:=av
 have gp:=za gp
 have xo:i*sz+sz<=len*sz:=by have:=zy sz hi;rw[Ag] at this;exact this
 rcases gd.readO (mR hj) with⟨e,_⟩|⟨b',off',len',cap',c,nk,fr,e,hw,cM,qh,gy⟩
 ·cases e
 ·injection e with e1 e2 e3
  injection e1 with e1
  injection e1 with e1 e4 e5
  subst e1;subst e4;subst e2
  refine⟨v,w,imm,hs,?_,gd,next⟩
  have hcells:(c.toList.drop (off+i*sz+o)).take tj.length=tj:=by
   conv=>rhs;rw[<- hc,<- cQ,<- gy]
   simp only[AK,AG,zr]
   rw[show off+i*sz+o=off+(i*sz+o) from by omega]
   congr 1
   omega
  simp only[execOp,f.eval hx,Instr.loadAt,Instr.sureAddr,Sem.run_bind,Sem.run_pure,Result.andThen_ok,zAM,zAN hw (by omega) hcells hv]
theorem zKl{t:TypeId}{x z:Operand}{ty:TypeId}{pos:String}{after:Array Edge}{g:Option (Nat×Bool)}{v0:Value}{sz i:Nat}{ad:Addr}{cs:List Value}{v:Value}{ah:List HA}(j o:Nat)
 (ho:af[pc]?=some ⟨none,.store t x z,ty,pos,after,g⟩) (hg:guardB af m g=some true) (hj:hs[j]?=some (.osl v0 sz cs)) (av:AtO v0 sz i ad) (hx:val m x=some (.pointer (some (ad.add o)))) (hz:val m z=some v)
 (fy:sizeT P t=some v.cells.size) (gp:Nat.ble (o+v.cells.size) sz=true) (j6:v.cells.toList.all Value.oneCell'=true)
 (hh:hs.set j (.osl v0 sz (cs.take (i*sz+o)++v.cells.toList++cs.drop (i*sz+o+v.cells.size)))=ah) (next:R P n B af Q (pc+1) imm ah m):R P n B af Q pc imm hs m:=by
 refine zMa ho hg rfl λa w f gd=>?_
 obtain⟨b,off,len,bi,rfl,rfl,hi⟩:=av
 have gp:=za gp
 have xo:i*sz+sz<=len*sz:=by have:=zy sz hi;rw[Ag] at this;exact this
 rcases gd.own _ (mR hj) with⟨e,_⟩|⟨b',off',len',cap',all,nk,e,h1,h2,hw,h4,h5,h6,h7,h8⟩
 ·cases e
 ·injection e with e1 e2 e3
  injection e1 with e1
  injection e1 with e1 e4 e5
  subst e1;subst e4;subst e2;subst e3
  have hcm:=zy sz h5
  have tt:b<w.heap.size:=((gd.own _ (mR hj)).lt (by simp[HA.fp])).1
  have pw:=zFK (P:=P) (t:=t) (off:=off+i*sz+o) hw (zMc j6) (by omega) fy
  refine⟨setBlk w b (.cells (wr all (off+i*sz+o) v.cells.toList) nk (0,0)),imm,ah,?_,?_,next⟩
  ·simp only[execOp,f.eval hx,f.eval hz,Instr.storeAt,Instr.sureAddr,Sem.run_bind,Sem.run_pure,Result.andThen_ok,zAM,pw]
  ·rw[<- hh]
   refine gd.write_at hj (by simp[HA.fp]) (by simp[HA.fp]) _ (.inr ⟨b,off,len,bi,_,nk,rfl,h1,h2,zBd tt,by rw[zMb];exact h4,h5,?_,?_,h8⟩)
   ·simp only[yc,yl,yt,Aq];omega
   ·rw[zJa _ _ _ (by simpa using(by omega:off+i*sz+o+v.cells.size<=all.size))]
    rw[<- h7]
    have:=zKj all.toList v.cells.toList off (len*sz) (i*sz+o) (by simpa using(by omega:i*sz+o+v.cells.size<=len*sz)) (by simpa using(by omega:off+len*sz<=all.size))
    simpa [AB] using this
end
section
variable {P:Program}{n:Nat}{B:Base}{Q:Exit->Act->World->Prop}{imm:Imm}{hs:List HA}{m:FM}{af:List Oper}{pc d:Nat}
def elemOfT(P:Program)(t:TypeId):Option TypeId:=match P.underlying t with|some (.slice e)=>some e|_=>none
def bytesT(P:Program)(t:TypeId):Option Nat:=(P.info? t).map (·.bytes)
def Src(imm:Imm)(hs:List HA)(v:Value)(sz:Nat)(cs:List Value):Prop:=SliceAt imm v sz cs∨∃j:Nat,hs[j]?=some (.osl v sz cs)
theorem Src.read{w:World}(h:Good B imm hs w){v:Value}{sz:Nat}{cs:List Value}(s:Src imm hs v sz cs):
 (v=.slice none 0 0/\cs=[])∨∃b off len bi c ty fr,v=.slice (some ⟨b,off,none⟩) len bi/\w.heap[b]?=some (.cells c ty fr)/\off+len*sz<=c.size/\cs.length=len*sz/\(c.toList.drop off).take (len*sz)=cs:=by
 rcases s with s|⟨j,hj⟩
 ·exact h.readI s
 ·exact h.readO (mR hj)
theorem Src.first{w:World}(h:Good B imm hs w){v:Value}{sz k:Nat}{cs:List Value}(s:Src imm hs v sz cs)(hk:cs.length=k*sz)(fy:0<sz):
 (Builtin.lenOf v).run P w=.ok k w/\∀w':World,w'.heap=w.heap->(Builtin.firstCells sz k v).run P w'=.ok ⟨cs⟩ w':=by
 rcases s.read h with⟨rfl,rfl⟩|⟨b,off,len,bi,c,ty,fr,rfl,hw,cM,qh,gy⟩
 ·have:k=0:=by
   have:k*sz=0:=by simpa using hk.symm
   rcases Nat.mul_eq_zero.1 this with h|h
   ·exact h
   ·omega
  subst this
  exact⟨rfl,λw' _=>rfl⟩
 ·have:k=len:=gR fy (by omega)
  subst this
  refine⟨rfl,λw' hw'=>?_⟩
  simp only[Builtin.firstCells]
  rw[zCC (by rw[hw'];exact hw) cM]
  congr 1
  apply Array.ext'
  simpa [A9,Al] using gy
theorem zHt(z:Array Value)(k:Nat):(Builtin.zeroCells z k).size=k*z.size:=by simp[Builtin.zeroCells]
theorem zLx{w:World}(h:Good B imm hs w){t t2 e:TypeId}{ty:TypeId}{sz bytes:Nat}{zc:Array Value}{v vx:Value}{cs aR:List Value}{k1 k2:Nat}(j:Nat)
 (ht:P.underlying t=some (.slice e)) (ht2:P.underlying t2=some (.slice e)) (fy:sizeT P e=some sz) (hby:bytesT P e=some bytes) (hz:zeroC P e=some zc) (hzs:zc.size=sz) (j5:0<sz) (hb0:0<bytes)
 (hj:hs[j]?=some (.osl v sz cs)) (hk1:cs.length=k1*sz) (s:Src imm hs vx sz aR) (pn:aR.length=k2*sz) (h1:∀u∈aR,u.oneCell'=true) (hb:(k1+k2)*bytes<=140737488355328) :
 ∃v' w',(Builtin.append_ #[t,t2] ty #[v,vx]).run P w=.ok v' w'/\Good B imm (hs.set j (.osl v' sz (cs++aR))) w'/\(∀b∈(HA.osl v' sz (cs++aR)).fp,b∈(HA.osl v sz cs).fp∨B.w0.heap.size<=b):=by
 obtain⟨aP,pk⟩:=Src.first (P:=P) h s pn j5
 obtain⟨xd,vr⟩:=Src.first (P:=P) h (.inr ⟨j,hj⟩) hk1 j5
 have hjlt:=(yi.1 hj).1
 cases hie:P.info? e with
 | none=>simp[sizeT,hie] at fy
 | some ie=>
 have hsz':ie.size=sz:=by simpa [sizeT,hie] using fy
 have hby':ie.bytes=bytes:=by simpa [bytesT,hie] using hby
 have u2:¬(((k1+k2:Nat):Int)>IntKind.i64.max):=by
  have:k1+k2<=(k1+k2)*bytes:=Nat.le_mul_of_pos_right _ hb0
  have hm:IntKind.i64.max=9223372036854775807:=by decide
  rw[hm]
  omega
 -- a eb row
 have grow:∀(base:Option Addr) (bi:Nat),v=.slice base k1 bi->bi<k1+k2 ->
  ∃v' w',(Builtin.append_ #[t,t2] ty #[v,vx]).run P w=.ok v' w'/\Good B imm (hs.set j (.osl v' sz (cs++aR))) w'/\(∀b∈(HA.osl v' sz (cs++aR)).fp,b∈(HA.osl v sz cs).fp∨B.w0.heap.size<=b):=by
  intro base bi hv aG
  have hnx:=growslice_fits (bytes:=ie.bytes) aG (by rw[hby'];exact hb)
  obtain⟨zv,hz1,qb⟩:=zAk (w:={ w with drawn:=w.drawn+1 }) hz
  let q:Question:=.appendCap (k1+k2) bi e
  let nc:=q.cut (w.tape w.drawn q)
  have hnc:k1+k2<=nc:=Nat.le_add_right _ _
  let row:Array Value:=(⟨cs⟩:Array Value)++⟨aR⟩++Builtin.zeroCells zc (nc - (k1+k2))
  have vz:row.size=nc*sz:=by
   simp only[row,Array.size_append,zHt,hzs]
   show cs.length+aR.length+_=_
   rw[hk1,pn,<- AE,<- AE];congr 1;omega
  have hg:=(h.draw (w.drawn+1)).alloc_osl row e sz (k1+k2) nc (cs++aR) (by rw[vz];exact zf _) hnc
   (by simp only[row,Array.toList_append]
       rw[List.take_append_of_le_length (by simp[hk1,pn,AE])]
       rw[zb (by simp[hk1,pn,AE])])
   (by rw[yc,hk1,pn,AE])
   (by
    have hm:IntKind.i64.max=9223372036854775807:=by decide
    rw[hm] at u2
    have hq0:nc=(k1+k2)+(w.tape w.drawn q) % (2 ^ 63 - (k1+k2)):=rfl
    have:=Nat.mod_lt (w.tape w.drawn q) (show 0<2 ^ 63 - (k1+k2) by omega)
    omega)
  refine⟨.slice (some ⟨w.heap.size,0,none⟩) (k1+k2) nc,{ w with drawn:=w.drawn+1,heap:=w.heap.push (.cells row e) },?_,?_,?_⟩
  ·subst hv
   have e1:=vr { w with drawn:=w.drawn+1 } rfl
   have e2:=pk { w with drawn:=w.drawn+1 } rfl
   have hneed:¬(k1+k2<=bi):=by omega
   have hq:(Question.appendCap (k1+k2) bi e).forced=false:=rfl
   simp only[Builtin.append_,Sem.run_bind,xZ ht,xZ ht2,Result.andThen_ok,kZ fy,aP,xq,xt,Sem.run_pure,
    AC,AU,AW,hneed,u2,false_and,typeInfo,run_program,hie]
   have hnx':¬(Builtin.nextslicecap (k1+k2) bi*ie.bytes>2 ^ 48):=by omega
   simp only[hnx',xt,Sem.run_bind,run_choose,hq,xq,Result.andThen_ok,run_askRoom,run_program,hie,e1,e2,Sem.run_pure,yx,xu,hz1,qb,newRow,run_newObj]
   rfl
  ·have hp:(hs.set j (.osl (.slice (some ⟨w.heap.size,0,none⟩) (k1+k2) nc) sz (cs++aR))).Perm (_::hs.eraseIdx j):=zHr hjlt
   have hp2:=eO hj
   refine Good.perm (Good.sub hg (ah:=_::hs.eraseIdx j) (λA hA=>?_) ?_) hp
   ·rcases yh.1 hA with rfl|hA
    ·exact xz ..
    ·exact xx _ (hp2.mem_iff.2 (xx _ hA))
   ·have jf:=hg.nodup
    rw[yf] at jf ⊢
    obtain⟨n1,n2,n3⟩:=zn.1 jf
    have n4:=(hp2.flatMap_right HA.fp).nodup_iff.1 n2
    rw[yf] at n4
    refine zn.2 ⟨n1,(zn.1 n4).2.1,λx hx y hy=>n3 x hx y ?_⟩
    exact(hp2.flatMap_right HA.fp).mem_iff.2 (by rw[yf];exact A4 _ hy)
  ·intro b hb
   simp only[HA.fp,yq] at hb
   subst hb
   exact .inr h.frm.size
 rcases h.own _ (mR hj) with⟨rfl,rfl⟩|⟨b,off,len,bi,all,nk,rfl,hp1,hp2,hw,hcap,hlc,qh,gy,hcM⟩
 ·have hk0:k1=0:=by
   have:k1*sz=0:=by simpa using hk1.symm
   rcases Nat.mul_eq_zero.1 this with h|h
   ·exact h
   ·omega
  subst hk0
  rcases Nat.eq_zero_or_pos k2 with h0|h0
  ·subst h0
   have:aR=[]:=Aw (by simpa using pn)
   subst this
   refine⟨.slice none 0 0,w,?_,?_,by simp[HA.fp]⟩
   ·simp only[Builtin.append_,Sem.run_bind,xZ ht,xZ ht2,Result.andThen_ok,kZ fy,aP,xq,xt,Sem.run_pure,
     AC,AU,AW,Nat.add_zero,zf,xu,yx,pk w rfl]
   ·have:hs.set j (.osl (.slice none 0 0) sz ([]++[]))=hs:=by
     obtain⟨h1,h2⟩:=yi.1 hj
     rw[yk,<- h2,List.set_getElem_self]
    rw[this];exact h
  ·exact grow none 0 rfl (by omega)
 ·have uc:k1=len:=gR j5 (by omega)
  subst uc
  by_cases hroom:k1+k2<=bi
  ·have hfit:off+k1*sz+aR.length<=all.size:=by
    rw[pn]
    have:=zy sz hroom
    rw[AE] at this
    omega
   have r7:=zBU (P:=P) (off:=off+k1*sz) aR 0 all w hw h1 (by omega)
   have tt:b<w.heap.size:=((h.own _ (mR hj)).lt (by simp[HA.fp])).1
   refine⟨.slice (some ⟨b,off,none⟩) (k1+k2) bi,setBlk w b (.cells (wr all (off+k1*sz) aR) nk (0,0)),?_,?_,λb' ld=>.inl (by simpa [HA.fp] using ld)⟩
   ·simp only[Builtin.append_,Sem.run_bind,xZ ht,xZ ht2,Result.andThen_ok,kZ fy,aP,xq,xt,Sem.run_pure,
     AC,AU,AW,hroom,xu,yx,pk w rfl,zAM]
    simp only[Nat.add_zero] at r7
    rw[r7]
    rfl
   ·refine h.write_at hj (by simp[HA.fp]) (by simp[HA.fp]) _ (.inr ⟨b,off,k1+k2,bi,_,nk,rfl,hp1,hp2,zBd tt,by rw[zMb];exact hcap,hroom,by rw[yc,hk1,pn,AE],?_,hcM⟩)
    rw[zJa _ _ _ hfit,<- gy]
    have u6:k1*sz<=(List.drop off all.toList).length:=by simp;omega
    rw[AE,<- pn]
    apply Bk
    intro q
    simp only[Ax,AS,List.getElem?_append,yc,yl,yt,Aq]
    grind
  ·exact grow _ bi rfl (by omega)
def appT(P:Program)(t:TypeId):Option (TypeId×Nat×Nat×Nat):=
 match elemOfT P t with
 | some e=>match sizeT P e,bytesT P e,zeroC P e with
  | some s,some b,some z=>bif Nat.beq z.size s&&Nat.blt 0 b then some (e,s,b,z.size) else none
  | _,_,_=>none
 | none=>none
theorem zNs{α:Type}[Rp α]{t t2:TypeId}{x1 x2:Operand}{ty:TypeId}{pos:String}{after:Array Edge}{g:Option (Nat×Bool)}{v vx:Value}{cs aR:List Value}{l l2:List α}{e nr zs:Nat}(j:Nat)
 (ho:af[pc]?=some ⟨some d,.call { callee:=.builtin .append,args:=#[x1,x2],argTypes:=#[t,t2] },ty,pos,after,g⟩) (hg:guardB af m g=some true) (hn:Nat.blt d n=true)
 (hx:val m x1=some v) (hy:val m x2=some vx) (ht:appT P t=some (e,Rp.sz α,nr,zs)) (ht2:appT P t2=some (e,Rp.sz α,nr,zs)) (hj:hs[j]?=some (.osl v (Rp.sz α) cs)) (hr:RepL (Rp.rep imm) (Rp.sz α) cs l)
 (s:Src imm hs vx (Rp.sz α) aR) (lh:RepL (Rp.rep imm) (Rp.sz α) aR l2) (hb:(l.length+l2.length)*nr<=140737488355328)
 (next:∀v' et ah,(∀b∈(HA.osl v' (Rp.sz α) et).fp,b∈(HA.osl v (Rp.sz α) cs).fp∨B.w0.heap.size<=b)->RepL (Rp.rep imm) (Rp.sz α) et (l++l2)->hs.set j (.osl v' (Rp.sz α) et)=ah->R P n B af Q (pc+1) imm ah ((d,v')::m)):R P n B af Q pc imm hs m:=by
 refine fC ho hg rfl hn λa w f gd=>?_
 have xj:∀{t:TypeId},appT P t=some (e,Rp.sz α,nr,zs)->P.underlying t=some (.slice e)/\sizeT P e=some (Rp.sz α)/\bytesT P e=some nr/\(∃z,zeroC P e=some z/\z.size=Rp.sz α)/\0<nr:=λ{t} h=>by
  unfold appT at h
  split at h
  ·rename_i e' he
   split at h
   ·rename_i s b z h1 h2 h3
    cases hq:(Nat.beq z.size s&&Nat.blt 0 b) with
    | false=>rw[hq] at h;cases h
    | true=>
     rw[hq] at h
     simp only[cond_true,Option.some.injEq,Prod.mk.injEq] at h
     obtain⟨rfl,rfl,rfl,rfl⟩:=h
     rw[xv] at hq
     unfold elemOfT at he
     split at he
     ·rename_i e2 hu;cases he
      exact⟨hu,h1,h2,⟨z,h3,zm hq.1⟩,by simpa using hq.2⟩
     ·cases he
   ·cases h
  ·cases h
 obtain⟨h1,h2,h3,⟨z,h4,h5⟩,h6⟩:=xj ht
 obtain⟨ou,_⟩:=xj ht2
 obtain⟨v',w',pw,n6,r5⟩:=zLx (P:=P) (ty:=ty) gd j h1 ou h2 h3 h4 h5 Rp.pos h6 hj hr.length s lh.length (RepL.one (λ_ _=>Rp.one) lh) hb
 refine⟨v',w',imm,_,?_,n6,next v' _ _ r5 (hr.append lh) rfl⟩
 simp only[execOp,resolve,List.map_toArray,zl,List.map_nil,f.eval hx,f.eval hy,Sem.run_bind,Sem.run_pure,Result.andThen_ok,invoke,builtin,pw]
def slc{α:Type}(l:List α)(lo hi:Int):Option (List α):=if 0<=lo/\lo<=hi/\hi<=l.length then some ((l.take hi.toNat).drop lo.toNat) else none
def bnd(m:FM)(o9:Int):Option Operand->Option Int
 | none=>some o9
 | some x=>match val m x with|some (.int _ k)=>some k|_=>none
theorem zHM{w:World}{a:Act}{len bi:Nat}{lo hi:Option Operand}{i k:Int}(f:Fr n a m)(iy:bnd m 0 lo=some i)(iI:bnd m len hi=some k)(h0:0<=i)(h1:i<=k)(h2:k<=len)(h3:len<=bi):
 (Instr.sliceBounds true len bi (lo.map a.eval) (hi.map a.eval) none).run P w=.ok (i.toNat,k.toNat,bi) w:=by
 have hh:∀{x:Operand}{j:Int}{y:Nat}{c:BoundsCode},(∃kd,val m x=some (.int kd j))->0<=j->j<=y->(Instr.sliceBound (a.eval x) y c).run P w=.ok j.toNat w:=λ⟨kd,hx⟩ h4 h5=>by
  simp[Instr.sliceBound,f.eval hx,asIntOf,h4,h5]
 have ob:∀{x:Operand}{o9 j:Int},bnd m o9 (some x)=some j->∃kd,val m x=some (.int kd j):=λ{x o9 j} h=>by
  simp only[bnd] at h
  split at h
  ·rename_i kd k' hx;cases h;exact⟨kd,hx⟩
  ·cases h
 cases hi with
 | none=>
  simp only[bnd,Option.some.injEq] at iI
  subst iI
  cases lo with
  | none=>
   simp only[bnd,Option.some.injEq] at iy
   subst iy
   simp[Instr.sliceBounds]
  | some x=>simp[Instr.sliceBounds,hh (ob iy) h0 h1]
 | some z=>
  cases lo with
  | none=>
   simp only[bnd,Option.some.injEq] at iy
   subst iy
   have e1:=hh (y:=bi) (c:=.sliceAcap) (ob iI) (by omega) (by omega)
   simp[Instr.sliceBounds,e1]
  | some x=>
   have e1:=hh (y:=bi) (c:=.sliceAcap) (ob iI) (by omega) (by omega)
   have e2:=hh (y:=k.toNat) (c:=.sliceB) (ob iy) h0 (by omega)
   simp[Instr.sliceBounds,e1,e2]
theorem SliceAt.cut{α:Type}{ρ:List Value->α->Prop}{v:Value}{sz:Nat}{aR:List Value}{l:List α}{i k:Nat}(hs:SliceAt imm v sz aR)(hr:RepL ρ sz aR l)(fy:0<sz)(h1:i<=k)(h2:k<=l.length):
 ∀a len bi,v=.slice a len bi->SliceAt imm (.slice (if bi=i then a else a.map (·.add (i*sz))) (k - i) (bi - i)) sz ((aR.take (k*sz)).drop (i*sz))/\RepL ρ sz ((aR.take (k*sz)).drop (i*sz)) ((l.take k).drop i):=by
 intro a len bi hv
 have al:=(hr.take k).drop i
 refine⟨?_,al⟩
 have aP:=al.length
 simp only[yt,yl] at aP
 rcases hs with⟨rfl,rfl⟩|⟨b,off,len',cap',c,rfl,hc,cM,hlc,qh,gy⟩
 ·injection hv with e1 e2 e3
  subst e1;subst e2;subst e3
  have:l.length*sz=0:=by rw[<- hr.length];rfl
  have cH:l.length=0:=by rcases Nat.mul_eq_zero.1 this with h|h <;> omega
  have:k=0:=by omega
  subst this
  have:i=0:=by omega
  subst this
  exact .inl ⟨by simp,by simp⟩
 ·injection hv with e1 e2 e3
  subst e1;subst e2;subst e3
  have uc:len'=l.length:=gR fy (by rw[<- qh];exact hr.length)
  subst uc
  have hkm:=zy sz h2
  have xo:=zy sz h1
  by_cases hci:cap'=i
  ·refine .inr ⟨b,off,k - i,cap' - i,c,by simp[hci],hc,?_,by omega,?_,?_⟩
   ·have:k - i=0:=by omega
    rw[this];omega
   ·have h0:k - i=0:=by omega
    have h4:k*sz=i*sz:=by congr 1;omega
    simp only[yt,yl]
    rw[h0];omega
   ·have h0:k - i=0:=by omega
    have h4:k*sz=i*sz:=by congr 1;omega
    rw[h0,h4]
    simp
  ·refine .inr ⟨b,off+i*sz,k - i,cap' - i,c,by simp[hci,zAM],hc,?_,by omega,?_,?_⟩
   ·rw[Nat.sub_mul];omega
   ·simp only[yt,yl,Nat.sub_mul];omega
   ·rw[<- gy,AG,AK,zr,Nat.sub_mul]
    congr 1
    omega
theorem zP0{α:Type}[Rp α]{t:TypeId}{x:Operand}{lo hi:Option Operand}{ty:TypeId}{pos:String}{after:Array Edge}{g:Option (Nat×Bool)}{v:Value}{i k:Int}{l l':List α}
 (ho:af[pc]?=some ⟨some d,.slice t x lo hi none,ty,pos,after,g⟩) (hg:guardB af m g=some true) (hn:Nat.blt d n=true) (hx:val m x=some v) (ht:elemT P t=some (Rp.sz α))
 (iy:bnd m 0 lo=some i) (iI:bnd m l.length hi=some k) (ah:SL imm v l) (hy:slc l i k=some l') (next:∀v',SL imm v' l'->R P n B af Q (pc+1) imm hs ((d,v')::m)):R P n B af Q pc imm hs m:=by
 refine fC ho hg rfl hn λa w f gd=>?_
 unfold slc at hy
 split at hy
 ·rename_i hb
  cases hy
  obtain⟨aR,kg,hr⟩:=ah
  obtain⟨ad,bi,rfl⟩:=SL.form (imm:=imm) ⟨aR,kg,hr⟩
  have hlc:l.length<=bi:=by
   rcases kg with⟨e,rfl⟩|⟨b,off,len',cap',c,e,_,_,hlc,_⟩
   ·injection e with _ e2 e3;omega
   ·injection e with _ e2 e3;omega
  have mx:=kg.cut hr Rp.pos (i:=i.toNat) (k:=k.toNat) (by omega) (by omega) _ _ _ rfl
  have u3:=zHM (P:=P) (w:=w) f iy iI hb.1 hb.2.1 hb.2.2 hlc
  refine⟨_,w,imm,hs,?_,gd,next _ ⟨_,mx⟩⟩
  unfold elemT at ht
  split at ht
  ·rename_i e hu
   simp only[execOp,f.eval hx,Option.map_none,Instr.sliceAt,Instr.slice,Sem.run_bind,xZ hu,Result.andThen_ok,u3,kZ ht,Sem.run_pure]
  ·cases ht
 ·cases hy
end
section
variable {P:Program}{n:Nat}{B:Base}{Q:Exit->Act->World->Prop}{imm:Imm}{hs:List HA}{m:FM}{af:List Oper}{pc d:Nat}
theorem qM{ah:List HA}(hg:∀w,Good B imm hs w->Good B imm ah w)(h:R P n B af Q pc imm ah m):R P n B af Q pc imm hs m:=λa w f g=>h a w f (hg w g)
theorem kT{c:Code}{ah:List HA}(hg:∀w,Good B imm hs w->Good B imm ah w)(h:J P n B c Q imm ah m):J P n B c Q imm hs m:=λa w f g=>h a w f (hg w g)
theorem wI{e:Exit}{ah:List HA}(hg:∀w,Good B imm hs w->Good B imm ah w)(h:T n B Q e imm ah m):T n B Q e imm hs m:=λa w f g=>h a w f (hg w g)
theorem zGP(j:Nat){A:HA}(hj:hs[j]?=some A):∀w,Good B imm hs w->Good B imm (hs.eraseIdx j) w:=λ_ h=>(h.perm (eO hj).symm).tail
theorem zEb(j:Nat){A:HA}(hj:hs[j]?=some A):∀w,Good B imm hs w->Good B imm (A::hs.eraseIdx j) w:=λ_ h=>h.perm (eO hj).symm
theorem kO(sz:Nat):∀w,Good B imm hs w->Good B imm (.osl (.slice none 0 0) sz []::hs) w:=λ_ h=>h.nil_osl sz
theorem wG{A:HA}(j:Nat)(hj:hs[j]?=some A)(h:∀am,imm.le am->Lent am A->R P n B af Q pc am (hs.eraseIdx j) m)(qx:A.plain=true:=by rfl):R P n B af Q pc imm hs m:=λa w f g=>by
 obtain⟨am,h1,h2,h3⟩:=(zEb j hj w g).freeze qx;exact h am h1 h2 a w f h3
theorem oD{c:Code}{A:HA}(j:Nat)(hj:hs[j]?=some A)(h:∀am,imm.le am->Lent am A->J P n B c Q am (hs.eraseIdx j) m)(qx:A.plain=true:=by rfl):J P n B c Q imm hs m:=λa w f g=>by
 obtain⟨am,h1,h2,h3⟩:=(zEb j hj w g).freeze qx;exact h am h1 h2 a w f h3
theorem xT{e:Exit}{A:HA}(j:Nat)(hj:hs[j]?=some A)(h:∀am,imm.le am->Lent am A->T n B Q e am (hs.eraseIdx j) m)(qx:A.plain=true:=by rfl):T n B Q e imm hs m:=λa w f g=>by
 obtain⟨am,h1,h2,h3⟩:=(zEb j hj w g).freeze qx;exact h am h1 h2 a w f h3
theorem SL.of_frozen{α:Type}[Rp α]{am:Imm}{v:Value}{cs:List Value}{l:List α}(h:Lent am (.osl v (Rp.sz α) cs))(cM:imm.le am)(hr:RepL (Rp.rep imm) (Rp.sz α) cs l):SL am v l:=
 ⟨cs,h,hr.mono λ_ _=>Rp.mono cM⟩
def Post(B:Base)(post:Nat->Imm->List HA->Value->Prop):Ending->World->Prop
 | .returned v,w'=>∃am ah,post B.w0.heap.size am ah v/\Good B am ah w'
 | _,_=>False
def Ret(P:Program)(f:FuncId)(args:List Value)(imm:Imm)(hs:List HA)(post:Nat->Imm->List HA->Value->Prop):Prop:=
 ∀w,Good ⟨w,imm,hs.flatMap HA.fp⟩ imm hs w->Calls P f args.toArray w (Post ⟨w,imm,hs.flatMap HA.fp⟩ post)
theorem Ret.mono{f:FuncId}{args:List Value}{post oh:Nat->Imm->List HA->Value->Prop}(h:Ret P f args imm hs post)(hp:∀k i h v,post k i h v->oh k i h v):Ret P f args imm hs oh:=
 λw g=>(h w g).mono λe w' he=>by
  cases e with
  | returned v=>obtain⟨i,ah,h1,h2⟩:=he;exact⟨i,ah,hp _ _ _ _ h1,h2⟩
  | panicked c=>exact he
  | outgrown=>exact he
def QB(P:Program)(fn:Func)(B:Base)(post:Nat->Imm->List HA->Value->Prop):Exit->Act->World->Prop
 | .normal,a,w|.ret,a,w=>a.defers=[]/\∃v,(results fn a.tmps).run P w=.ok v w/\Post B post (.returned v) w
 | _,_,_=>False
def argm:Nat->List Value->FM
 | _,[]=>[]
 | i,v::vs=>(i,v)::argm (i+1) vs
theorem zJb:∀(vs:List Value) (i k:Nat) (v:Value),look (argm i vs) k=some v->i<=k/\vs[k - i]?=some v
 | [],_,_,_,h=>by simp[argm,look] at h
 | u::vs,i,k,v,h=>by
  by_cases e:i=k
  ·subst e
   rw[argm,gJ] at h
   cases h
   simp
  ·rw[argm,kH _ _ e] at h
   obtain⟨h1,h2⟩:=zJb vs (i+1) k v h
   refine⟨by omega,?_⟩
   rw[show k - i=(k - (i+1))+1 from by omega]
   simpa using h2
theorem zNt{f:FuncId}{fn:Func}{c:Code}{args:List Value}{post:Nat->Imm->List HA->Value->Prop}(hf:P.funcs[f]?=some fn)(hb:fn.body=some c)(hn:Nat.ble args.length fn.ntmps=true)
 (h:∀B:Base,B.imm0=imm->B.io=hs.flatMap HA.fp->J P fn.ntmps B c (QB P fn B post) imm hs (argm 0 args)):Ret P f args imm hs post:=λw g=>by
 have hn:=za hn
 refine calls_of_wp hf hb ?_
 refine wp_mono (h ⟨w,imm,hs.flatMap HA.fp⟩ rfl rfl _ w ⟨rfl,by simp;omega,λk v hk=>?_⟩ g) λe a w' he=>?_
 ·obtain⟨_,h2⟩:=zJb args 0 k v hk
  have aG:=(yi.1 h2).1
  simp only[Nat.sub_zero] at h2 aG
  have m8:args[k]=v:=by rw[ya aG] at h2;injection h2
  simp[Array.getElem?_append,aG,m8]
 ·cases e <;> first|exact he|exact he.elim
inductive ResV (P:Program) (m:FM) (hs:List HA):List ResultVar->List Value->Prop
 | nil:ResV P m hs [] []
 | tmp {t:Nat}{v:Value}{rs:List ResultVar}{vs:List Value} (h:look m t=some v) (hr:ResV P m hs rs vs):ResV P m hs (.tmp t::rs) (v::vs)
 | cell {t:Nat}{ty:TypeId}{v:Value}{rs:List ResultVar}{vs:List Value}{b:Nat}{c:Array Value} (j:Nat) (hj:hs[j]?=some (.blk b c)) (h:look m t=some (.pointer (some ⟨b,0,none⟩))) (hv:loadV P ty c.toList=some v)
  (hr:ResV P m hs rs vs):ResV P m hs (.cell t ty::rs) (v::vs)
def resG(tmps:Array Value):ResultVar->Sem Value
 | .tmp t=>pure (tmps.getD t undef)
 | .cell a t=>do loadVar t (<- asAddr (tmps.getD a undef))
theorem zHu{a:Act}{w:World}(f:Fr n a m)(g:Good B imm hs w):∀{rs:List ResultVar}{vs:List Value},ResV P m hs rs vs->(rs.mapM (resG a.tmps)).run P w=.ok vs w
 | [],_,.nil=>by simp
 | _,_,.tmp h hr=>by
  have:=f.eval (x:=.tmp _) h
  simp only[Act.eval] at this
  simp[List.mapM_cons,resG,this,zHu f g hr]
 | _,_,.cell (c:=c) j hj h hv hr=>by
  have:=f.eval (x:=.tmp _) h
  simp only[Act.eval] at this
  obtain⟨_,_,nk,hw⟩:=g.own _ (mR hj)
  have hl:=zAN (P:=P) (off:=0) hw (cs:=c.toList) (by simp) (by rw[yn,z7]) hv
  simp[List.mapM_cons,resG,this,asAddr,hl,zHu f g hr]
def tupV:List Value->Value
 | [v]=>v
 | vs=>.tuple vs.toArray
theorem zHG{fn:Func}{a:Act}{w:World}{vs:List Value}(f:Fr n a m)(g:Good B imm hs w)(h:ResV P m hs fn.results.toList vs):(results fn a.tmps).run P w=.ok (tupV vs) w:=by
 have h1:=zHu f g h;have h2:(fn.results.mapM (resG a.tmps)).run P w=.ok vs.toArray w:=by
  rw[Array.mapM_eq_mapM_toList,Sem.run_map,h1];rfl
 have h3:results fn a.tmps=(do let vs<-fn.results.mapM (resG a.tmps);pure (if h:vs.size=1 then vs[0] else .tuple vs)):=by
  unfold results
  congr 1
 rw[h3];simp only[Sem.run_bind,h2,Result.andThen_ok,Sem.run_pure];cases vs with
 | nil=>rfl
 | cons v vs=>cases vs <;> rfl
def callable (P:Program) (f:FuncId):Bool:=match P.funcs[f]? with | some fn=>fn.body.isSome && fn.name != "runtime.NumGoroutine" | none=>false
theorem zFL{w:World}{f:FuncId}{args:Array Value}(h:callable P f=true):(callFunc f args).run P w=.ok (.enter f args) w:=by
 unfold callable at h;unfold callFunc;split at h
 ·rename_i fn hf;rw [Bool.and_eq_true] at h;have h2:(fn.name == "runtime.NumGoroutine")=false:=by simpa [bne] using h.2
  have h1:fn.body.isNone=false:=by cases hb:fn.body <;> simp_all
  simp only[Sem.run_bind,run_program,Result.andThen_ok,hf,h2,h1,xq,xt,Sem.run_pure]
 ·cases h
theorem zGQ{f:FuncId}{x:Operand}{xs:Array Operand}{ts:Array TypeId}{ty:TypeId}{pos:String}{after:Array Edge}{g:Option (Nat×Bool)}{vs:List Value}{hs1 rest:List HA}{post:Nat->Imm->List HA->Value->Prop}
 (ho:af[pc]?=some ⟨some d,.call { callee:=.value x,args:=xs,argTypes:=ts },ty,pos,after,g⟩) (hg:guardB af m g=some true) (hn:Nat.blt d n=true) (hx:val m x=some (.func (.func f) #[] #[])) (hf:callable P f=true)
 (oc:vals m xs.toList=some vs) (hh:hs=hs1++rest) (hc:Ret P f vs imm hs1 post)
 (next:∀am ah v k,imm.le am->B.w0.heap.size<=k->post k am ah v->(∀b∈ah.flatMap HA.fp,b∈hs1.flatMap HA.fp∨B.w0.heap.size<=b)->R P n B af Q (pc+1) am (ah++rest) ((d,v)::m)):R P n B af Q pc imm hs m:=
 zJz ho hg λa w fr gd=>by
  subst hh
  have hargs:xs.map a.eval=vs.toArray:=by apply Array.ext';rw[Av,fr.evals oc]
  have jf:=gd.nodup
  rw[zu] at jf
  have hg1:=gd.enter (hs1:=hs1) (λA hA=>Ad _ hA) (zn.1 jf).1
  unfold Oper.wp
  simp only[execOp,resolve,Deferred.ofValue,fr.eval hx,hargs,Sem.run_bind,Sem.run_pure,Result.andThen_ok,invoke,Array.empty_append,Array.append_empty,zFL hf,Oper.upon]
  refine(hc w hg1).mono λe w' he=>?_
  cases e with
  | returned v=>
   obtain⟨am,ah,hp,n6⟩:=he
   obtain⟨g2,cM,u5⟩:=gd.leave n6
   exact next am ah v w.heap.size cM gd.frm.size hp u5 _ w' (fr.put d v (by simpa using hn)) g2
  | panicked c=>exact he.elim
  | outgrown=>exact he.elim
theorem zP1{f:FuncId}{args:List Value}{v:Value}{w:World}{imm:Imm}(hg:Good ⟨w,imm,[]⟩ imm [] w)(h:Ret P f args imm [] (λ_ _ _ u=>u=v)):
 Calls P f args.toArray w λe w'=>e=.returned v/\Go.RowKit.Below w.heap.size w w' :=
 (h w hg).mono λe w' he=>by
  cases e with
  | returned u=>
   obtain⟨i,ah,h1,h2⟩:=he
   subst h1
   exact⟨rfl,⟨h2.frm.os,h2.frm.tape,h2.frm.output,h2.frm.size,λk hk=>h2.frm.heap k hk (by simp)⟩⟩
  | panicked c=>exact he.elim
  | outgrown=>exact he.elim
end
end Go.LN
