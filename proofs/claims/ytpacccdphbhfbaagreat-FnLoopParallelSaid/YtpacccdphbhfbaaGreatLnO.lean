/- Helper of the proof (see the last text). -/
import Derived.Test.YtpacccdphbhfbaaGreatLnI
import Derived.Laws.BitsLemmas
import Derived.Sort.Grow
import Derived.Lib.LaidTab
import Derived.Lib.ItoaNum
import Derived.Lib.ItoaMem
import Derived.Sort.Row
import Derived.Lib.AtoiErrMem
import Derived.Lib.AtoiTie
import Derived.Lib.SplitLaws
import Derived.Lib.AtoiAll
import Derived.Laws.StructEq
import Derived.Shelf.SlSortCmp.NoneTotal
set_option linter.unusedVariables false
set_option linter.unusedSimpArgs false
namespace Go.LN
section
variable {P:Program}{n:Nat}{B:Base}{Q:Exit→Act→World→Prop}{imm:Imm}{hs:List HA}{m:FM}{ops:List Oper}{pc d:Nat}{ty:TypeId}{pos:String}{after:Array Edge}{g:Option (Nat×Bool)}
theorem xF {t:TypeId}{x:Operand}{ad:Addr}{cs:List Value} (o:Nat) (hat:At imm ad cs) (cs':List Value) (v:Value) (ho:ops[pc]?=some ⟨some d,.load t x,ty,pos,after,g⟩) (next:R P n B ops Q (pc + 1) imm hs ((d,v)::m)) (hg:guardB ops m g=some true:=by kernel_rfl) (hn:Nat.blt d n=true:=by kernel_rfl) (hx:val m x=some (.pointer (some (ad.add o))):=by kernel_rfl) (hol:Nat.ble o cs.length=true:=by kernel_rfl) (hc:(cs.drop o).take cs'.length=cs':=by kernel_rfl) (hv:loadV P t cs'=some v:=by kernel_rfl):R P n B ops Q pc imm hs m :=
  zKt o ho hg hn hat hx hol hc hv next
theorem fZ {t:TypeId}{x:Operand}{ad:Addr}{cs:List Value} (o:Nat) (hat:At imm ad cs) (cs':List Value) (v:Value) (ho:ops[pc]?=some ⟨some d,.load t x,ty,pos,after,g⟩) (next:Rq P n B ops Q (pc + 1) imm hs ((d,v)::m)) (hg:guardB ops m g=some true:=by kernel_rfl) (hn:Nat.blt d n=true:=by kernel_rfl) (hx:val m x=some (.pointer (some (ad.add o))):=by kernel_rfl) (hol:Nat.ble o cs.length=true:=by kernel_rfl) (hc:(cs.drop o).take cs'.length=cs':=by kernel_rfl) (hv:loadV P t cs'=some v:=by kernel_rfl):Rq P n B ops Q pc imm hs m :=
  zJw o ho hg hn hat hx hol hc hv next
theorem xK {α:Type} [Rp α] {t:TypeId}{x xi:Operand}{v:Value}{k:IntKind}{i:Int}{l:List α}{y:α} (ho:ops[pc]?=some ⟨some d,.indexAddr t x xi,ty,pos,after,g⟩) (hi:val m xi=some (.int k i)) (hs':SL imm v l) (hy:idx l i=some y) (next:∀ ad ccs,At imm ad ccs→Rp.rep imm ccs y→R P n B ops Q (pc + 1) imm hs ((d,.pointer (some ad))::m)) (hg:guardB ops m g=some true:=by kernel_rfl) (hn:Nat.blt d n=true:=by kernel_rfl) (hx:val m x=some v:=by kernel_rfl) (ht:elemT P t=some (Rp.sz α):=by kernel_rfl):R P n B ops Q pc imm hs m :=
  zMl ho hg hn hx hi ht hs' hy next
theorem dK {α:Type} [Rp α] {t:TypeId}{x xi:Operand}{v:Value}{k:IntKind}{i:Int}{l:List α}{y:α} (ho:ops[pc]?=some ⟨some d,.indexAddr t x xi,ty,pos,after,g⟩) (hi:val m xi=some (.int k i)) (hs':SL imm v l) (hy:idx l i=some y) (next:∀ ad ccs,At imm ad ccs→Rp.rep imm ccs y→Rq P n B ops Q (pc + 1) imm hs ((d,.pointer (some ad))::m)) (hg:guardB ops m g=some true:=by kernel_rfl) (hn:Nat.blt d n=true:=by kernel_rfl) (hx:val m x=some v:=by kernel_rfl) (ht:elemT P t=some (Rp.sz α):=by kernel_rfl):Rq P n B ops Q pc imm hs m :=
  zL8 ho hg hn hx hi ht hs' hy next
theorem nV {α:Type} [Rp α] {t:TypeId}{x xi:Operand}{v:Value}{k:IntKind}{i:Int}{cs:List Value}{l:List α}{y:α} (j:Nat) (ho:ops[pc]?=some ⟨some d,.indexAddr t x xi,ty,pos,after,g⟩) (hi:val m xi=some (.int k i)) (hj:hs[j]?=some (.osl v (Rp.sz α) cs)) (hr:RepL (Rp.rep imm) (Rp.sz α) cs l) (hy:idx l i=some y) (next:∀ ad cc,AtO v (Rp.sz α) i.toNat ad→(cs.drop (i.toNat * Rp.sz α)).take (Rp.sz α)=cc→Rp.rep imm cc y→R P n B ops Q (pc + 1) imm hs ((d,.pointer (some ad))::m)) (hg:guardB ops m g=some true:=by kernel_rfl) (hn:Nat.blt d n=true:=by kernel_rfl) (hx:val m x=some v:=by kernel_rfl) (ht:elemT P t=some (Rp.sz α):=by kernel_rfl):R P n B ops Q pc imm hs m :=
  zIr j ho hg hn hj hx hi ht hr hy next
theorem zB3 {t:TypeId}{x:Operand}{v0:Value}{sz i:Nat}{ad:Addr}{cs cc:List Value} (j o:Nat) (hat:AtO v0 sz i ad) (hcc:(cs.drop (i * sz)).take sz=cc) (cc':List Value) (v:Value) (ho:ops[pc]?=some ⟨some d,.load t x,ty,pos,after,g⟩) (hj:hs[j]?=some (.osl v0 sz cs)) (next:R P n B ops Q (pc + 1) imm hs ((d,v)::m)) (hg:guardB ops m g=some true:=by kernel_rfl) (hn:Nat.blt d n=true:=by kernel_rfl) (hx:val m x=some (.pointer (some (ad.add o))):=by kernel_rfl) (hol:Nat.ble (o + cc'.length) sz=true:=by kernel_rfl) (hc:(cc.drop o).take cc'.length=cc':=by kernel_rfl) (hv:loadV P t cc'=some v:=by kernel_rfl):R P n B ops Q pc imm hs m :=
  zJs j o ho hg hn hj hat hx hcc hol hc hv next
theorem zOQ {α:Type} [Rp α] {t:TypeId}{x:Operand}{lo hi:Option Operand}{v:Value}{i k:Int}{l l':List α} (ho:ops[pc]?=some ⟨some d,.slice t x lo hi none,ty,pos,after,g⟩) (hs':SL imm v l) (hy:slc l i k=some l') (next:∀ v',SL imm v' l'→R P n B ops Q (pc + 1) imm hs ((d,v')::m)) (hg:guardB ops m g=some true:=by kernel_rfl) (hn:Nat.blt d n=true:=by kernel_rfl) (hx:val m x=some v:=by kernel_rfl) (ht:elemT P t=some (Rp.sz α):=by kernel_rfl) (hlo:bnd m 0 lo=some i:=by kernel_rfl) (hhi:bnd m l.length hi=some k:=by kernel_rfl):R P n B ops Q pc imm hs m :=
  zMn ho hg hn hx ht hlo hhi hs' hy next
theorem jH {t t2:TypeId}{x y:Operand}{a b c:Str} (ho:ops[pc]?=some ⟨some d,.binOp .add t x y t2,ty,pos,after,g⟩) (h:cat a b=some c) (next:R P n B ops Q (pc + 1) imm hs ((d,.string ⟨⟨c.l⟩⟩)::m)) (hg:guardB ops m g=some true:=by kernel_rfl) (hn:Nat.blt d n=true:=by kernel_rfl) (hx:val m x=some (.string ⟨⟨a.l⟩⟩):=by kernel_rfl) (hy:val m y=some (.string ⟨⟨b.l⟩⟩):=by kernel_rfl):R P n B ops Q pc imm hs m :=
  zOK ho hg hn hx hy h next
theorem zA0 {t:TypeId}{x y:Operand}{a:Str}{k:IntKind}{i:Int}{c:UInt8} (ho:ops[pc]?=some ⟨some d,.index t x y,ty,pos,after,g⟩) (hy:val m y=some (.int k i)) (h:sidx a i=some c) (next:R P n B ops Q (pc + 1) imm hs ((d,.int .u8 (c.toNat:Int))::m)) (hg:guardB ops m g=some true:=by kernel_rfl) (hn:Nat.blt d n=true:=by kernel_rfl) (hx:val m x=some (.string ⟨⟨a.l⟩⟩):=by kernel_rfl) (hu:P.underlying t=some .string:=by kernel_rfl):R P n B ops Q pc imm hs m :=
  zL9 ho hg hn hx hy hu h next
theorem zH8 {t:TypeId}{x:Operand}{lo hi:Option Operand}{a c:Str}{i k:Int} (ho:ops[pc]?=some ⟨some d,.slice t x lo hi none,ty,pos,after,g⟩) (hy:sslc a i k=some c) (next:R P n B ops Q (pc + 1) imm hs ((d,.string ⟨⟨c.l⟩⟩)::m)) (hg:guardB ops m g=some true:=by kernel_rfl) (hn:Nat.blt d n=true:=by kernel_rfl) (hx:val m x=some (.string ⟨⟨a.l⟩⟩):=by kernel_rfl) (hu:P.underlying t=some .string:=by kernel_rfl) (hlo:bnd m 0 lo=some i:=by kernel_rfl) (hhi:bnd m a.l.length hi=some k:=by kernel_rfl):R P n B ops Q pc imm hs m :=
  zLa ho hg hn hx hu hlo hhi hy next
theorem zOR {t t2:TypeId}{x y:Operand}{a b c:Int} (ho:ops[pc]?=some ⟨some d,.binOp .quo t x y t2,ty,pos,after,g⟩) (h:quo a b=some c) (next:Rq P n B ops Q (pc + 1) imm hs ((d,.int .i64 c)::m)) (hg:guardB ops m g=some true:=by kernel_rfl) (hn:Nat.blt d n=true:=by kernel_rfl) (hx:val m x=some (.int .i64 a):=by kernel_rfl) (hy:val m y=some (.int .i64 b):=by kernel_rfl):Rq P n B ops Q pc imm hs m :=
  zN9 ho hg hn hx hy h next
theorem zOS {t t2:TypeId}{x y:Operand}{a b c:Int} (ho:ops[pc]?=some ⟨some d,.binOp .rem t x y t2,ty,pos,after,g⟩) (h:rem a b=some c) (next:R P n B ops Q (pc + 1) imm hs ((d,.int .i64 c)::m)) (hg:guardB ops m g=some true:=by kernel_rfl) (hn:Nat.blt d n=true:=by kernel_rfl) (hx:val m x=some (.int .i64 a):=by kernel_rfl) (hy:val m y=some (.int .i64 b):=by kernel_rfl):R P n B ops Q pc imm hs m :=
  zOL ho hg hn hx hy h next
theorem zNU {t t2:TypeId}{x y:Operand}{a b c:Int} (ho:ops[pc]?=some ⟨some d,.binOp .rem t x y t2,ty,pos,after,g⟩) (h:rem a b=some c) (next:Rq P n B ops Q (pc + 1) imm hs ((d,.int .i64 c)::m)) (hg:guardB ops m g=some true:=by kernel_rfl) (hn:Nat.blt d n=true:=by kernel_rfl) (hx:val m x=some (.int .i64 a):=by kernel_rfl) (hy:val m y=some (.int .i64 b):=by kernel_rfl):Rq P n B ops Q pc imm hs m :=
  zNa ho hg hn hx hy h next
theorem zB4 {t:TypeId}{x y:Operand}{b o:Nat}{c:Array Value}{v:Value} (j:Nat) (c':List Value) (hs':List HA) (ho:ops[pc]?=some ⟨none,.store t x y,ty,pos,after,g⟩) (hj:hs[j]?=some (.blk b c)) (hx:val m x=some (.pointer (some ⟨b,o,none⟩))) (hy:val m y=some v) (next:R P n B ops Q (pc + 1) imm hs' m) (hg:guardB ops m g=some true:=by kernel_rfl) (hsz:sizeT P t=some v.cells.size:=by kernel_rfl) (hol:Nat.ble (o + v.cells.size) c.size=true:=by kernel_rfl) (hone:v.cells.toList.all Value.oneCell'=true:=by rfl) (hc:wr c o v.cells.toList=⟨c'⟩:=by kernel_rfl) (hh:hs.set j (.blk b ⟨c'⟩)=hs':=by rfl):R P n B ops Q pc imm hs m :=
  zFf j ho hg hj hx hy hsz hol hone hc hh next
theorem rX {α:Type} [Rp α] {t t2:TypeId}{x1 x2:Operand}{v vx:Value}{cs ccs:List Value}{l l2 y:List α}{by':Nat} (e zs j:Nat) (ho:ops[pc]?=some ⟨some d,.call { callee:=.builtin .append,args:=#[x1,x2],argTypes:=#[t,t2] },ty,pos,after,g⟩) (hj:hs[j]?=some (.osl v (Rp.sz α) cs)) (hy:val m x2=some vx) (hr:RepL (Rp.rep imm) (Rp.sz α) cs l) (s:Src imm hs vx (Rp.sz α) ccs) (hr2:RepL (Rp.rep imm) (Rp.sz α) ccs l2) (hb:app by' l l2=some y)
    (next:∀ a' c' cs',RepL (Rp.rep imm) (Rp.sz α) cs' y→R P n B ops Q (pc + 1) imm (hs.set j (.osl (.slice a' y.length c') (Rp.sz α) cs')) ((d,.slice a' y.length c')::m)) (hg:guardB ops m g=some true:=by kernel_rfl) (hn:Nat.blt d n=true:=by kernel_rfl) (hx:val m x1=some v:=by kernel_rfl) (ht:appT P t=some (e,Rp.sz α,by',zs):=by kernel_rfl) (ht2:appT P t2=some (e,Rp.sz α,by',zs):=by kernel_rfl):R P n B ops Q pc imm hs m :=
  zNd (fun _=>True) (e:=e) (zs:=zs) j ho hg hn hx hy ht ht2 hj hr (fun _ _=>.inl trivial) s hr2 hb (fun a' c' cs' _ h=>next a' c' cs' h)
end
end Go.LN
namespace Go.LN
def mkrow {α:Type} (bytes:Nat) (k:Int) (z:α):Option (List α):=if 0 ≤ k∧k.toNat * bytes ≤ 140737488355328 then some (List.replicate k.toNat z) else none
def zrow (z:Array Value) (k:Nat):List Value:=(List.range k).map fun i=>z[i % z.size]!
theorem zLi (z:Array Value) (k:Nat) (h:0 < z.size):(List.range z.size).map (fun i=>z[(k * z.size + i) % z.size]!)=z.toList:=by
  refine List.ext_getElem (by simp) fun i h1 h2=>?_;have hi:i < z.size:=by simpa using h1
  simp only [List.getElem_map,List.getElem_range,Array.getElem_toList];have e:(k * z.size + i) % z.size=i:=by rw [Nat.add_comm,Nat.mul_comm,Nat.add_mul_mod_self_left,Nat.mod_eq_of_lt hi]
  rw [e];exact getElem!_pos z i hi
theorem zJC {α:Type}{ρ:List Value→α→Prop}{z:Array Value}{a:α} (hz:0 < z.size) (h:ρ z.toList a):∀ k,RepL ρ z.size (zrow z (k * z.size)) (List.replicate k a)
  | 0=>by simp [zrow,RepL]
  | k + 1=>by
    have e:zrow z ((k + 1) * z.size)=zrow z (k * z.size) ++ z.toList:=by
      unfold zrow
      rw [Nat.succ_mul,List.range_add,List.map_append,List.map_map]
      congr 1
      exact zLi z k hz
    rw [e,List.replicate_succ']
    exact (zJC hz h k).append (.single (by simp) h)
section
variable {P:Program}{n:Nat}{B:Base}{Q:Exit→Act→World→Prop}{imm:Imm}{hs:List HA}{m:FM}{ops:List Oper}{pc d:Nat}{ty:TypeId}{pos:String}{after:Array Edge}{g:Option (Nat×Bool)}
def mkT (P:Program) (t:TypeId):Option (Nat×Nat×List Value) :=
  match elemOfT P t with
  | some e=>match sizeT P e,bytesT P e,zeroC P e with
    | some s,some b,some z=>bif Nat.beq z.size s && Nat.blt 0 b then some (s,b,z.toList) else none
    | _,_,_=>none
  | none=>none
theorem zOT {α:Type} [Rp α] {t:TypeId}{x y:Operand}{k:Int}{a:α}{l:List α} (by':Nat) (z:List Value) (ho:ops[pc]?=some ⟨some d,.makeSlice t x y,ty,pos,after,g⟩) (hk:mkrow by' k a=some l) (hr:Rp.rep imm z a)
    (next:∀ b cs,RL imm cs l→R P n B ops Q (pc + 1) imm (.osl (.slice (some ⟨b,0,none⟩) l.length l.length) (Rp.sz α) cs::hs) ((d,.slice (some ⟨b,0,none⟩) l.length l.length)::m))
    (hg:guardB ops m g=some true:=by kernel_rfl) (hn:Nat.blt d n=true:=by kernel_rfl) (hx:val m x=some (.int .i64 k):=by kernel_rfl) (hy:val m y=some (.int .i64 k):=by kernel_rfl) (ht:mkT P t=some (Rp.sz α,by',z):=by kernel_rfl) :
    R P n B ops Q pc imm hs m:=by
  refine nS ho hg rfl hn fun ac w f gd=>?_
  unfold mkrow at hk
  split at hk
  · rename_i hk0
    cases hk
    obtain ⟨hk0,hkb⟩:=hk0
    unfold mkT at ht
    cases he:elemOfT P t with
    | none=>rw [he] at ht; cases ht
    | some e =>
      rw [he] at ht
      simp only at ht
      split at ht
      · rename_i s b zc h1 h2 h3
        cases hq:Nat.beq zc.size s && Nat.blt 0 b with
        | false=>rw [hq] at ht; cases ht
        | true =>
          rw [hq] at ht
          simp only [cond_true,Option.some.injEq,Prod.mk.injEq] at ht
          obtain ⟨rfl,rfl,rfl⟩:=ht
          rw [Bool.and_eq_true] at hq
          have hzs:=Nat.eq_of_beq_eq_true hq.1
          have hb0:0 < b:=by simpa using hq.2
          have hu:P.underlying t=some (.slice e):=by
            unfold elemOfT at he
            split at he <;> simp_all
          cases hie:P.info? e with
          | none=>simp [sizeT,hie] at h1
          | some ie =>
          have hsz':ie.size=Rp.sz α:=by simpa [sizeT,hie] using h1
          have hby':ie.bytes=b:=by simpa [bytesT,hie] using h2
          obtain ⟨zv,hz1,hz2⟩:=dH (w:=w) h3
          have hpos:0 < zc.size:=by rw [hzs]; exact Rp.pos
          have hkk:(k.toNat:Int)=k:=Int.toNat_of_nonneg hk0
          have hle:k.toNat ≤ k.toNat * b:=Nat.le_mul_of_pos_right _ hb0
          have hwr:IntKind.i64.wrap k=k:=by rw [IntKind.wrap_i64]; omega
          have hmul:((ie.bytes:Int) * k) ≤ 140737488355328:=by
            rw [← hkk,hby',← Int.natCast_mul,Nat.mul_comm]
            exact Int.ofNat_le.2 hkb
          have hnt:¬(k < 0):=by omega
          have hnb:¬((ie.bytes:Int) * k > 2 ^ 48):=by omega
          let row:Array Value:=if k.toNat * Rp.sz α=0 then #[] else (Array.range (k.toNat * Rp.sz α)).map (fun i=>zc[i % zc.size]!)
          have hrow:(((Array.range (k.toNat * ie.size)).map fun i=>(if k.toNat * ie.size=0 then #[] else zc)[i % (if k.toNat * ie.size=0 then (#[]:Array Value) else zc).size]!))=⟨zrow zc (k.toNat * zc.size)⟩:=by
            rw [hsz',← hzs]
            apply Array.ext'
            by_cases h0:k.toNat * zc.size=0
            · simp [h0,zrow]
            · simp [h0,zrow]
          have hlen:(zrow zc (k.toNat * zc.size)).length=k.toNat * Rp.sz α:=by simp [zrow,hzs]
          have hg:=gd.alloc_osl ⟨zrow zc (k.toNat * zc.size)⟩ e (Rp.sz α) k.toNat k.toNat (zrow zc (k.toNat * zc.size)) (by show _ ≤ (zrow _ _).length; rw [hlen]; exact Nat.le_refl _) (Nat.le_refl _) (by rw [← hlen]; exact List.take_length) hlen (by omega)
          have hll:(List.replicate k.toNat a).length=k.toNat:=List.length_replicate
          rw [hll] at next
          refine ⟨_,_,imm,_,?_,hg,next w.heap.size _ ?_⟩
          · simp only [execOp,f.eval hx,f.eval hy,Instr.makeSlice,Sem.run_bind,yY hu,Result.andThen_ok,asInt,asIntOf,Sem.run_pure,typeInfo,run_program,hie,hwr,hnt,hnb,decide_false,Bool.false_or,Bool.false_eq_true,false_or,or_self,if_false,Int.lt_irrefl,
              gt_iff_lt,run_askRoom,qK h1]
            by_cases h0:k.toNat * Rp.sz α=0
            · have:=hrow
              rw [hsz'] at this
              simp only [h0,if_true] at this ⊢
              simp only [Sem.run_pure,Result.andThen_ok,newRow,run_newObj,Sem.run_bind,this]
            · have:=hrow
              rw [hsz'] at this
              simp only [h0,if_false] at this ⊢
              simp only [Sem.run_bind,hz1,hz2,Sem.run_pure,Result.andThen_ok,newRow,run_newObj,this]
          · have:=zJC (z:=zc) (a:=a) hpos hr k.toNat
            rw [hzs] at this
            show RepL _ _ _ _
            rw [hzs]
            exact this
      · cases ht
  · cases hk
theorem zMs {f:FuncId}{first cap:List Value}{x:Operand}{xs:Array Operand}{ts:Array TypeId}{vs:List Value}{hs1 rest:List HA}{post:Nat→Imm→List HA→Value→Prop}
    (ho:ops[pc]?=some ⟨some d,.call { callee:=.value x,args:=xs,argTypes:=ts },ty,pos,after,g⟩) (hx:val m x=some (.func (.func f) ⟨first⟩ ⟨cap⟩)) (hf:callable P f=true)
    (hvs:vals m xs.toList=some vs) (hh:hs=hs1 ++ rest) (hc:Ret P f (first ++ vs ++ cap) imm hs1 post)
    (next:∀ imm' hs' v k,imm.le imm'→B.w0.heap.size ≤ k→post k imm' hs' v→(∀ b ∈ hs'.flatMap HA.fp,b ∈ hs1.flatMap HA.fp∨B.w0.heap.size ≤ b)→R P n B ops Q (pc + 1) imm' (hs' ++ rest) ((d,v)::m)) (hg:guardB ops m g=some true:=by kernel_rfl) (hn:Nat.blt d n=true:=by kernel_rfl):R P n B ops Q pc imm hs m :=
  zG2 ho hg fun a w fr gd=>by
    subst hh
    have hargs:xs.map a.eval=vs.toArray:=by apply Array.ext'; rw [Array.toList_map,fr.evals hvs]
    have hall:(⟨first⟩:Array Value) ++ vs.toArray ++ ⟨cap⟩=(first ++ vs ++ cap).toArray:=by apply Array.ext'; simp
    have hnd:=gd.nodup
    rw [List.flatMap_append] at hnd
    have hg1:=gd.enter (hs1:=hs1) (fun A hA=>List.mem_append_left _ hA) (List.nodup_append.1 hnd).1
    unfold Oper.wp
    simp only [execOp,resolve,Deferred.ofValue,fr.eval hx,hargs,Sem.run_bind,Sem.run_pure,Result.andThen_ok,invoke,hall,zDv hf,Oper.upon]
    refine (hc w hg1).mono fun e w' he=>?_
    cases e with
    | returned v =>
      obtain ⟨imm',hs',hp,hgood⟩:=he
      obtain ⟨g2,hle,hfp⟩:=gd.leave hgood
      exact next imm' hs' v w.heap.size hle gd.frm.size hp hfp _ w' (fr.put d v (by simpa using hn)) g2
    | panicked c=>exact he.elim
    | outgrown=>exact he.elim
end
class Vr (α:Type) where
  rep:Imm→Value→α→Prop
  mono:∀ {i j:Imm}{v:Value}{a:α},i.le j→rep i v a→rep j v a
instance:Vr Int:=⟨fun _ v a=>v=.int .i64 a,fun _ h=>h⟩
instance:Vr Bool:=⟨fun _ v a=>v=.bool a,fun _ h=>h⟩
instance:Vr Str:=⟨fun _ v a=>v=.string ⟨⟨a.l⟩⟩,fun _ h=>h⟩
instance {α:Type} [Rp α]:Vr (List α):=⟨fun i v a=>SL i v a,fun hl h=>h.mono hl⟩
def FV1 {α β:Type} [Vr α] [Vr β] (P:Program) (imm:Imm) (hsF:List HA) (v:Value) (φ:α→Option β):Prop :=
  ∃ f first cap,v=.func (.func f) ⟨first⟩ ⟨cap⟩∧callable P f=true∧∀ imm',imm.le imm'→∀ a r va,φ a=some r→Vr.rep imm' va a→Ret P f (first ++ [va] ++ cap) imm' hsF fun _ i hs' u=>hs'=hsF∧Vr.rep i u r
theorem FV1.mono {α β:Type} [Vr α] [Vr β] {P:Program}{i j:Imm}{hsF:List HA}{v:Value}{φ:α→Option β} (hl:i.le j) (h:FV1 P i hsF v φ):FV1 P j hsF v φ:=by
  obtain ⟨f,first,cap,h1,h2,h3⟩:=h;exact ⟨f,first,cap,h1,h2,fun imm' h'=>h3 imm' (hl.trans h')⟩
theorem FV1.intro {α β:Type} [Vr α] [Vr β] {P:Program}{imm:Imm}{hsF:List HA}{f:FuncId}{first cap:List Value}{φ:α→Option β} (h:∀ imm',imm.le imm'→∀ a r va,φ a=some r→Vr.rep imm' va a→Ret P f (first ++ [va] ++ cap) imm' hsF fun _ i hs' u=>hs'=hsF∧Vr.rep i u r)
    (hc:callable P f=true:=by kernel_rfl):FV1 P imm hsF (.func (.func f) ⟨first⟩ ⟨cap⟩) φ:=⟨f,first,cap,rfl,hc,h⟩
def FV2 {α β γ:Type} [Vr α] [Vr β] [Vr γ] (P:Program) (imm:Imm) (hsF:List HA) (v:Value) (φ:α→β→Option γ):Prop :=
  ∃ f first cap,v=.func (.func f) ⟨first⟩ ⟨cap⟩∧callable P f=true∧∀ imm',imm.le imm'→∀ a b r va vb,φ a b=some r→Vr.rep imm' va a→Vr.rep imm' vb b→Ret P f (first ++ [va,vb] ++ cap) imm' hsF fun _ i hs' u=>hs'=hsF∧Vr.rep i u r
theorem FV2.mono {α β γ:Type} [Vr α] [Vr β] [Vr γ] {P:Program}{i j:Imm}{hsF:List HA}{v:Value}{φ:α→β→Option γ} (hl:i.le j) (h:FV2 P i hsF v φ):FV2 P j hsF v φ:=by
  obtain ⟨f,first,cap,h1,h2,h3⟩:=h;exact ⟨f,first,cap,h1,h2,fun imm' h'=>h3 imm' (hl.trans h')⟩
theorem FV2.intro {α β γ:Type} [Vr α] [Vr β] [Vr γ] {P:Program}{imm:Imm}{hsF:List HA}{f:FuncId}{first cap:List Value}{φ:α→β→Option γ} (h:∀ imm',imm.le imm'→∀ a b r va vb,φ a b=some r→Vr.rep imm' va a→Vr.rep imm' vb b→Ret P f (first ++ [va,vb] ++ cap) imm' hsF fun _ i hs' u=>hs'=hsF∧Vr.rep i u r)
    (hc:callable P f=true:=by kernel_rfl):FV2 P imm hsF (.func (.func f) ⟨first⟩ ⟨cap⟩) φ:=⟨f,first,cap,rfl,hc,h⟩
section
variable {P:Program}{n:Nat}{B:Base}{Q:Exit→Act→World→Prop}{imm:Imm}{hs:List HA}{m:FM}{ops:List Oper}{pc d:Nat}{ty:TypeId}{pos:String}{after:Array Edge}{g:Option (Nat×Bool)}
theorem zK2 {α β:Type} [Vr α] [Vr β] {x y:Operand}{ts:Array TypeId}{v va:Value}{a:α}{r:β}{φ:α→Option β}{hsF rest:List HA}
    (ho:ops[pc]?=some ⟨some d,.call { callee:=.value x,args:=#[y],argTypes:=ts },ty,pos,after,g⟩) (hy:val m y=some va) (hF:FV1 P imm hsF v φ) (hr:φ a=some r) (ha:Vr.rep imm va a) (hh:hs=hsF ++ rest)
    (next:∀ imm' u,imm.le imm'→Vr.rep imm' u r→R P n B ops Q (pc + 1) imm' (hsF ++ rest) ((d,u)::m)) (hx:val m x=some v:=by kernel_rfl) (hg:guardB ops m g=some true:=by kernel_rfl) (hn:Nat.blt d n=true:=by kernel_rfl):R P n B ops Q pc imm hs m:=by
  obtain ⟨f,first,cap,rfl,hf,hc⟩:=hF
  refine zMs ho hx hf (vs:=[va]) (by simp [vals,hy]) hh (hc imm (Imm.le.refl _) a r va hr ha) ?_ hg hn
  rintro imm' hs' u k hl hk ⟨rfl,h⟩ -
  exact next imm' u hl h
end
end Go.LN
namespace Go.LN
theorem Good.grow {B:Base}{imm:Imm}{hs:List HA}{w:World} (h:Good B imm hs w) (k:Nat) (os:Array Obj):Good B imm hs (Sort.grow (w.drewN k) os):=by
  have h:=h.drewN k;generalize w.drewN k=w at h;have old:∀ b,b < w.heap.size→(Sort.grow w os).heap[b]?=w.heap[b]?:=fun b hb=>by
    show (w.heap ++ os)[b]?=_;rw [Array.getElem?_append_left hb]
  refine ⟨fun b c e=>?_,fun A hA=>(h.own A hA).same (fun _ _ p=>p) (fun _ _=>rfl) (fun b hb=>old b ((h.own A hA).lt hb).1),h.nodup,⟨h.frm.os,h.frm.tape,h.frm.output,?_,fun b hb hio=>?_,h.frm.imm,h.frm.drawn⟩⟩
  · obtain ⟨ty,fr,e'⟩:=h.inv b c e;exact ⟨ty,fr,(old b (h.lt_imm e)).trans e'⟩
  · show _ ≤ (w.heap ++ os).size;rw [Array.size_append];exact Nat.le_trans h.frm.size (Nat.le_add_right _ _)
  · exact (old b (Nat.lt_of_lt_of_le hb h.frm.size)).trans (h.frm.heap b hb hio)
def GT (P:Program) (imm:Imm):Prop:=∃ g,P.globalNamed "internal/strconv.uint64pow10"=some g∧imm g=some (Lib.pow10Tab.map fun z=>Value.int .u64 z).toArray
def GM (P:Program) (imm:Imm):Prop:=∃ g,P.globalNamed "internal/bytealg.MaxLen"=some g∧∃ m,imm g=some #[.int .i64 m]
def GE (P:Program) (imm:Imm) (nm:String):Prop:=∃ g,P.globalNamed nm=some g∧∃ t p,imm g=some #[.iface t p]
def GH (P:Program) (imm:Imm):Prop:=GT P imm∧GM P imm∧GE P imm "strconv.ErrSyntax"∧GE P imm "strconv.ErrRange"
theorem GH.mono {P:Program}{i j:Imm} (hl:i.le j) (h:GH P i):GH P j:=by
  obtain ⟨⟨g,h1,h2⟩,⟨g3,h3,m,h4⟩,⟨g5,h5,t,p,h6⟩,⟨g7,h7,u,q,h8⟩⟩:=h;exact ⟨⟨g,h1,hl _ _ h2⟩,⟨g3,h3,m,hl _ _ h4⟩,⟨g5,h5,t,p,hl _ _ h6⟩,⟨g7,h7,u,q,hl _ _ h8⟩⟩
theorem GH.es {P:Program}{imm:Imm} (h:GH P imm):GE P imm "strconv.ErrSyntax":=h.2.2.1
end Go.LN
namespace Go.LN
theorem zA9 {k : IntKind} {n : Int} : (Value.int k n).oneCell' = true := rfl
theorem zGU {s : ByteArray} : (Value.string s).oneCell' = true := rfl
theorem SL.one {α : Type} [Rp α] {i : Imm} {v : Value} {l : List α} (h : SL i v l) : v.oneCell' = true := by
  obtain ⟨ccs, hs, _⟩ := h
  rcases hs with ⟨rfl, _⟩ | ⟨b, off, len, cap, c, rfl, _⟩ <;> rfl
structure zF where
  Name : Str
  Dims : List Int
instance : Rp zF where
  sz := 2
  pos := by decide
  rep i cs s := ∃ v0 : Value, cs = [.string ⟨⟨s.Name.l⟩⟩, v0] ∧ SL i v0 s.Dims
  len h := by obtain ⟨v0, rfl, h0⟩ := h; rfl
  mono hm h := by obtain ⟨v0, e, h0⟩ := h; exact ⟨v0, e, h0.mono hm⟩
  one h := by obtain ⟨v0, rfl, h0⟩ := h; simp [zGU, h0.one]
theorem zBr {i : Imm} {cs : List Value} {s : zF} (h : Rp.rep i cs s) : ∃ v0 : Value, cs = [.string ⟨⟨s.Name.l⟩⟩, v0] ∧ SL i v0 s.Dims := h
theorem pM {i : Imm} {cs : List Value} {s : zF} (h : ∃ v0 : Value, cs = [.string ⟨⟨s.Name.l⟩⟩, v0] ∧ SL i v0 s.Dims) : Rp.rep i cs s := h
theorem wO {i : Imm} {cs : List Value} {s : zF} (h : Rp.rep i cs s) : ∃ (p0 : Option Addr) (c0 : Nat), cs = [.string ⟨⟨s.Name.l⟩⟩, vS p0 s.Dims c0] ∧ SL i (vS p0 s.Dims c0) s.Dims := by
  obtain ⟨v0, e, h0⟩ := zBr h
  obtain ⟨p0, c0, rfl⟩ := h0.form
  exact ⟨p0, c0, e, h0⟩
instance : Vr zF := ⟨fun i v a => ∃ cs, v = .agg ⟨cs⟩ ∧ Rp.rep i cs a, fun hl ⟨cs, e, h⟩ => ⟨cs, e, Rp.mono hl h⟩⟩
structure zA where
  Coefs : List Int
  Const : Int
instance : Rp zA where
  sz := 2
  pos := by decide
  rep i cs s := ∃ v0 : Value, cs = [v0, .int .i64 s.Const] ∧ SL i v0 s.Coefs
  len h := by obtain ⟨v0, rfl, h0⟩ := h; rfl
  mono hm h := by obtain ⟨v0, e, h0⟩ := h; exact ⟨v0, e, h0.mono hm⟩
  one h := by obtain ⟨v0, rfl, h0⟩ := h; simp [zA9, h0.one]
theorem zEz {i : Imm} {cs : List Value} {s : zA} (h : Rp.rep i cs s) : ∃ v0 : Value, cs = [v0, .int .i64 s.Const] ∧ SL i v0 s.Coefs := h
theorem yP {i : Imm} {cs : List Value} {s : zA} (h : ∃ v0 : Value, cs = [v0, .int .i64 s.Const] ∧ SL i v0 s.Coefs) : Rp.rep i cs s := h
theorem yS {i : Imm} {cs : List Value} {s : zA} (h : Rp.rep i cs s) : ∃ (p0 : Option Addr) (c0 : Nat), cs = [vS p0 s.Coefs c0, .int .i64 s.Const] ∧ SL i (vS p0 s.Coefs c0) s.Coefs := by
  obtain ⟨v0, e, h0⟩ := zEz h
  obtain ⟨p0, c0, rfl⟩ := h0.form
  exact ⟨p0, c0, e, h0⟩
instance : Vr zA := ⟨fun i v a => ∃ cs, v = .agg ⟨cs⟩ ∧ Rp.rep i cs a, fun hl ⟨cs, e, h⟩ => ⟨cs, e, Rp.mono hl h⟩⟩
structure zE where
  Lo : List zA
  Hi : List zA
instance : Rp zE where
  sz := 2
  pos := by decide
  rep i cs s := ∃ v0 v1 : Value, cs = [v0, v1] ∧ SL i v0 s.Lo ∧ SL i v1 s.Hi
  len h := by obtain ⟨v0, v1, rfl, h0, h1⟩ := h; rfl
  mono hm h := by obtain ⟨v0, v1, e, h0, h1⟩ := h; exact ⟨v0, v1, e, h0.mono hm, h1.mono hm⟩
  one h := by obtain ⟨v0, v1, rfl, h0, h1⟩ := h; simp [h0.one, h1.one]
theorem zCM {i : Imm} {cs : List Value} {s : zE} (h : Rp.rep i cs s) : ∃ v0 v1 : Value, cs = [v0, v1] ∧ SL i v0 s.Lo ∧ SL i v1 s.Hi := h
theorem qB {i : Imm} {cs : List Value} {s : zE} (h : ∃ v0 v1 : Value, cs = [v0, v1] ∧ SL i v0 s.Lo ∧ SL i v1 s.Hi) : Rp.rep i cs s := h
theorem sH {i : Imm} {cs : List Value} {s : zE} (h : Rp.rep i cs s) : ∃ (p0 : Option Addr) (c0 : Nat) (p1 : Option Addr) (c1 : Nat), cs = [vS p0 s.Lo c0, vS p1 s.Hi c1] ∧ SL i (vS p0 s.Lo c0) s.Lo ∧ SL i (vS p1 s.Hi c1) s.Hi := by
  obtain ⟨v0, v1, e, h0, h1⟩ := zCM h
  obtain ⟨p0, c0, rfl⟩ := h0.form
  obtain ⟨p1, c1, rfl⟩ := h1.form
  exact ⟨p0, c0, p1, c1, e, h0, h1⟩
instance : Vr zE := ⟨fun i v a => ∃ cs, v = .agg ⟨cs⟩ ∧ Rp.rep i cs a, fun hl ⟨cs, e, h⟩ => ⟨cs, e, Rp.mono hl h⟩⟩
structure zJ where
  Array : Str
  Subs : List zA
instance : Rp zJ where
  sz := 2
  pos := by decide
  rep i cs s := ∃ v0 : Value, cs = [.string ⟨⟨s.Array.l⟩⟩, v0] ∧ SL i v0 s.Subs
  len h := by obtain ⟨v0, rfl, h0⟩ := h; rfl
  mono hm h := by obtain ⟨v0, e, h0⟩ := h; exact ⟨v0, e, h0.mono hm⟩
  one h := by obtain ⟨v0, rfl, h0⟩ := h; simp [zGU, h0.one]
theorem zFA {i : Imm} {cs : List Value} {s : zJ} (h : Rp.rep i cs s) : ∃ v0 : Value, cs = [.string ⟨⟨s.Array.l⟩⟩, v0] ∧ SL i v0 s.Subs := h
theorem mA {i : Imm} {cs : List Value} {s : zJ} (h : ∃ v0 : Value, cs = [.string ⟨⟨s.Array.l⟩⟩, v0] ∧ SL i v0 s.Subs) : Rp.rep i cs s := h
theorem oZ {i : Imm} {cs : List Value} {s : zJ} (h : Rp.rep i cs s) : ∃ (p0 : Option Addr) (c0 : Nat), cs = [.string ⟨⟨s.Array.l⟩⟩, vS p0 s.Subs c0] ∧ SL i (vS p0 s.Subs c0) s.Subs := by
  obtain ⟨v0, e, h0⟩ := zFA h
  obtain ⟨p0, c0, rfl⟩ := h0.form
  exact ⟨p0, c0, e, h0⟩
instance : Vr zJ := ⟨fun i v a => ∃ cs, v = .agg ⟨cs⟩ ∧ Rp.rep i cs a, fun hl ⟨cs, e, h⟩ => ⟨cs, e, Rp.mono hl h⟩⟩
inductive zH where
  | mk (Kind : Int) (Num : Int) (Index : zA) (Read : zJ) (Kids : List zH)
def zH.Kind : zH → Int | .mk x _ _ _ _ => x
def zH.Num : zH → Int | .mk _ x _ _ _ => x
def zH.Index : zH → zA | .mk _ _ x _ _ => x
def zH.Read : zH → zJ | .mk _ _ _ x _ => x
def zH.Kids : zH → (List zH) | .mk _ _ _ _ x => x
mutual
def zH.repE (i : Imm) : zH → List Value → Prop
  | .mk Kind Num Index Read Kids, cs => ∃ (v0 v1 v2 : Value) (ccs : List Value), cs = [.int .i64 Kind, .int .i64 Num, v0, .int .i64 Index.Const, .string ⟨⟨Read.Array.l⟩⟩, v1, v2] ∧ SL i v0 Index.Coefs ∧ SL i v1 Read.Subs ∧ SliceAt i v2 7 ccs ∧ zH.reps i Kids ccs
def zH.reps (i : Imm) : List zH → List Value → Prop
  | [], cs => cs = []
  | e :: es, cs => ∃ c1 c2, cs = c1 ++ c2 ∧ c1.length = 7 ∧ zH.repE i e c1 ∧ zH.reps i es c2
end
mutual
theorem zDR {i : Imm} : ∀ {e : zH} {cs : List Value}, zH.repE i e cs → cs.length = 7
  | .mk .., cs, h => by simp only [zH.repE] at h; obtain ⟨v0, v1, v2, ccs, rfl, _⟩ := h; rfl
end
mutual
theorem zAA {i j : Imm} (hm : i.le j) : ∀ {e : zH} {cs : List Value}, zH.repE i e cs → zH.repE j e cs
  | .mk .., cs, h => by
    simp only [zH.repE] at h ⊢
    obtain ⟨v0, v1, v2, ccs, e, k0, k1, ha, hb⟩ := h
    exact ⟨v0, v1, v2, ccs, e, k0.mono hm, k1.mono hm, ha.mono hm, zAB hm hb⟩
theorem zAB {i j : Imm} (hm : i.le j) : ∀ {es : List zH} {cs : List Value}, zH.reps i es cs → zH.reps j es cs
  | [], cs, h => by simpa [zH.reps] using h
  | e :: es, cs, h => by
    simp only [zH.reps] at h ⊢
    obtain ⟨c1, c2, h1, h2, h3, h4⟩ := h
    exact ⟨c1, c2, h1, h2, zAA hm h3, zAB hm h4⟩
end
theorem jN {i : Imm} : ∀ {es : List zH} {cs : List Value}, zH.reps i es cs ↔ RepL (fun c e => zH.repE i e c) 7 cs es
  | [], cs => by simp [zH.reps, RepL]
  | e :: es, cs => by
    simp only [zH.reps, RepL]
    constructor
    · rintro ⟨c1, c2, h1, h2, h3, h4⟩; exact ⟨c1, c2, h1, h2, h3, jN.1 h4⟩
    · rintro ⟨c1, c2, h1, h2, h3, h4⟩; exact ⟨c1, c2, h1, h2, h3, jN.2 h4⟩
theorem SliceAt.one {i : Imm} {v : Value} {sz : Nat} {cs : List Value} (hs : SliceAt i v sz cs) : v.oneCell' = true := by
  rcases hs with ⟨rfl, _⟩ | ⟨b, off, len, cap, c, rfl, _⟩ <;> rfl
theorem zDS {i : Imm} : ∀ {e : zH} {cs : List Value}, zH.repE i e cs → ∀ v ∈ cs, v.oneCell' = true
  | .mk .., cs, h => by
    simp only [zH.repE] at h
    obtain ⟨v0, v1, v2, ccs, rfl, k0, k1, ha, _⟩ := h
    simp [zA9, zGU, k0.one, k1.one, ha.one]
instance : Rp zH where
  sz := 7
  pos := by decide
  rep i cs e := zH.repE i e cs
  len h := zDR h
  mono hm h := zAA hm h
  one h := zDS h
theorem zGe {i : Imm} {cs : List Value} {s : zH} (h : Rp.rep i cs s) : ∃ v0 v1 v2 : Value, cs = [.int .i64 s.Kind, .int .i64 s.Num, v0, .int .i64 s.Index.Const, .string ⟨⟨s.Read.Array.l⟩⟩, v1, v2] ∧ SL i v0 s.Index.Coefs ∧ SL i v1 s.Read.Subs ∧ SL i v2 s.Kids := by
  obtain ⟨Kind, Num, Index, Read, Kids⟩ := s
  have h : zH.repE i _ cs := h
  simp only [zH.repE] at h
  obtain ⟨v0, v1, v2, ccs, e, k0, k1, ha, hb⟩ := h
  exact ⟨v0, v1, v2, e, k0, k1, ⟨ccs, ha, jN.1 hb⟩⟩
theorem xV {i : Imm} {cs : List Value} {s : zH} (h : ∃ v0 v1 v2 : Value, cs = [.int .i64 s.Kind, .int .i64 s.Num, v0, .int .i64 s.Index.Const, .string ⟨⟨s.Read.Array.l⟩⟩, v1, v2] ∧ SL i v0 s.Index.Coefs ∧ SL i v1 s.Read.Subs ∧ SL i v2 s.Kids) : Rp.rep i cs s := by
  obtain ⟨Kind, Num, Index, Read, Kids⟩ := s
  show zH.repE i _ cs
  simp only [zH.repE]
  obtain ⟨v0, v1, v2, e, k0, k1, ⟨ccs, ha, hb⟩⟩ := h
  exact ⟨v0, v1, v2, ccs, e, k0, k1, ha, jN.2 hb⟩
theorem tN {i : Imm} {cs : List Value} {s : zH} (h : Rp.rep i cs s) : ∃ (p0 : Option Addr) (c0 : Nat) (p1 : Option Addr) (c1 : Nat) (p2 : Option Addr) (c2 : Nat), cs = [.int .i64 s.Kind, .int .i64 s.Num, vS p0 s.Index.Coefs c0, .int .i64 s.Index.Const, .string ⟨⟨s.Read.Array.l⟩⟩, vS p1 s.Read.Subs c1, vS p2 s.Kids c2] ∧ SL i (vS p0 s.Index.Coefs c0) s.Index.Coefs ∧ SL i (vS p1 s.Read.Subs c1) s.Read.Subs ∧ SL i (vS p2 s.Kids c2) s.Kids := by
  obtain ⟨v0, v1, v2, e, h0, h1, h2⟩ := zGe h
  obtain ⟨p0, c0, rfl⟩ := h0.form
  obtain ⟨p1, c1, rfl⟩ := h1.form
  obtain ⟨p2, c2, rfl⟩ := h2.form
  exact ⟨p0, c0, p1, c1, p2, c2, e, h0, h1, h2⟩
instance : Vr zH := ⟨fun i v a => ∃ cs, v = .agg ⟨cs⟩ ∧ Rp.rep i cs a, fun hl ⟨cs, e, h⟩ => ⟨cs, e, Rp.mono hl h⟩⟩
structure zP where
  Write : zJ
  Value : zH
instance : Rp zP where
  sz := 9
  pos := by decide
  rep i cs s := ∃ v0 v1 v2 v3 : Value, cs = [.string ⟨⟨s.Write.Array.l⟩⟩, v0, .int .i64 s.Value.Kind, .int .i64 s.Value.Num, v1, .int .i64 s.Value.Index.Const, .string ⟨⟨s.Value.Read.Array.l⟩⟩, v2, v3] ∧ SL i v0 s.Write.Subs ∧ SL i v1 s.Value.Index.Coefs ∧ SL i v2 s.Value.Read.Subs ∧ SL i v3 s.Value.Kids
  len h := by obtain ⟨v0, v1, v2, v3, rfl, h0, h1, h2, h3⟩ := h; rfl
  mono hm h := by obtain ⟨v0, v1, v2, v3, e, h0, h1, h2, h3⟩ := h; exact ⟨v0, v1, v2, v3, e, h0.mono hm, h1.mono hm, h2.mono hm, h3.mono hm⟩
  one h := by obtain ⟨v0, v1, v2, v3, rfl, h0, h1, h2, h3⟩ := h; simp [zGU, zA9, h0.one, h1.one, h2.one, h3.one]
theorem nA {i : Imm} {cs : List Value} {s : zP} (h : Rp.rep i cs s) : ∃ v0 v1 v2 v3 : Value, cs = [.string ⟨⟨s.Write.Array.l⟩⟩, v0, .int .i64 s.Value.Kind, .int .i64 s.Value.Num, v1, .int .i64 s.Value.Index.Const, .string ⟨⟨s.Value.Read.Array.l⟩⟩, v2, v3] ∧ SL i v0 s.Write.Subs ∧ SL i v1 s.Value.Index.Coefs ∧ SL i v2 s.Value.Read.Subs ∧ SL i v3 s.Value.Kids := h
theorem wU {i : Imm} {cs : List Value} {s : zP} (h : ∃ v0 v1 v2 v3 : Value, cs = [.string ⟨⟨s.Write.Array.l⟩⟩, v0, .int .i64 s.Value.Kind, .int .i64 s.Value.Num, v1, .int .i64 s.Value.Index.Const, .string ⟨⟨s.Value.Read.Array.l⟩⟩, v2, v3] ∧ SL i v0 s.Write.Subs ∧ SL i v1 s.Value.Index.Coefs ∧ SL i v2 s.Value.Read.Subs ∧ SL i v3 s.Value.Kids) : Rp.rep i cs s := h
theorem qH {i : Imm} {cs : List Value} {s : zP} (h : Rp.rep i cs s) : ∃ (p0 : Option Addr) (c0 : Nat) (p1 : Option Addr) (c1 : Nat) (p2 : Option Addr) (c2 : Nat) (p3 : Option Addr) (c3 : Nat), cs = [.string ⟨⟨s.Write.Array.l⟩⟩, vS p0 s.Write.Subs c0, .int .i64 s.Value.Kind, .int .i64 s.Value.Num, vS p1 s.Value.Index.Coefs c1, .int .i64 s.Value.Index.Const, .string ⟨⟨s.Value.Read.Array.l⟩⟩, vS p2 s.Value.Read.Subs c2, vS p3 s.Value.Kids c3] ∧ SL i (vS p0 s.Write.Subs c0) s.Write.Subs ∧ SL i (vS p1 s.Value.Index.Coefs c1) s.Value.Index.Coefs ∧ SL i (vS p2 s.Value.Read.Subs c2) s.Value.Read.Subs ∧ SL i (vS p3 s.Value.Kids c3) s.Value.Kids := by
  obtain ⟨v0, v1, v2, v3, e, h0, h1, h2, h3⟩ := nA h
  obtain ⟨p0, c0, rfl⟩ := h0.form
  obtain ⟨p1, c1, rfl⟩ := h1.form
  obtain ⟨p2, c2, rfl⟩ := h2.form
  obtain ⟨p3, c3, rfl⟩ := h3.form
  exact ⟨p0, c0, p1, c1, p2, c2, p3, c3, e, h0, h1, h2, h3⟩
instance : Vr zP := ⟨fun i v a => ∃ cs, v = .agg ⟨cs⟩ ∧ Rp.rep i cs a, fun hl ⟨cs, e, h⟩ => ⟨cs, e, Rp.mono hl h⟩⟩
structure zN where
  Nest : List zE
  Body : List zP
instance : Rp zN where
  sz := 2
  pos := by decide
  rep i cs s := ∃ v0 v1 : Value, cs = [v0, v1] ∧ SL i v0 s.Nest ∧ SL i v1 s.Body
  len h := by obtain ⟨v0, v1, rfl, h0, h1⟩ := h; rfl
  mono hm h := by obtain ⟨v0, v1, e, h0, h1⟩ := h; exact ⟨v0, v1, e, h0.mono hm, h1.mono hm⟩
  one h := by obtain ⟨v0, v1, rfl, h0, h1⟩ := h; simp [h0.one, h1.one]
theorem zGf {i : Imm} {cs : List Value} {s : zN} (h : Rp.rep i cs s) : ∃ v0 v1 : Value, cs = [v0, v1] ∧ SL i v0 s.Nest ∧ SL i v1 s.Body := h
theorem qY {i : Imm} {cs : List Value} {s : zN} (h : ∃ v0 v1 : Value, cs = [v0, v1] ∧ SL i v0 s.Nest ∧ SL i v1 s.Body) : Rp.rep i cs s := h
theorem wL {i : Imm} {cs : List Value} {s : zN} (h : Rp.rep i cs s) : ∃ (p0 : Option Addr) (c0 : Nat) (p1 : Option Addr) (c1 : Nat), cs = [vS p0 s.Nest c0, vS p1 s.Body c1] ∧ SL i (vS p0 s.Nest c0) s.Nest ∧ SL i (vS p1 s.Body c1) s.Body := by
  obtain ⟨v0, v1, e, h0, h1⟩ := zGf h
  obtain ⟨p0, c0, rfl⟩ := h0.form
  obtain ⟨p1, c1, rfl⟩ := h1.form
  exact ⟨p0, c0, p1, c1, e, h0, h1⟩
instance : Vr zN := ⟨fun i v a => ∃ cs, v = .agg ⟨cs⟩ ∧ Rp.rep i cs a, fun hl ⟨cs, e, h⟩ => ⟨cs, e, Rp.mono hl h⟩⟩
structure zD where
  Arrays : List zF
  Parts : List zN
instance : Rp zD where
  sz := 2
  pos := by decide
  rep i cs s := ∃ v0 v1 : Value, cs = [v0, v1] ∧ SL i v0 s.Arrays ∧ SL i v1 s.Parts
  len h := by obtain ⟨v0, v1, rfl, h0, h1⟩ := h; rfl
  mono hm h := by obtain ⟨v0, v1, e, h0, h1⟩ := h; exact ⟨v0, v1, e, h0.mono hm, h1.mono hm⟩
  one h := by obtain ⟨v0, v1, rfl, h0, h1⟩ := h; simp [h0.one, h1.one]
theorem zDy {i : Imm} {cs : List Value} {s : zD} (h : Rp.rep i cs s) : ∃ v0 v1 : Value, cs = [v0, v1] ∧ SL i v0 s.Arrays ∧ SL i v1 s.Parts := h
theorem uB {i : Imm} {cs : List Value} {s : zD} (h : ∃ v0 v1 : Value, cs = [v0, v1] ∧ SL i v0 s.Arrays ∧ SL i v1 s.Parts) : Rp.rep i cs s := h
theorem jX {i : Imm} {cs : List Value} {s : zD} (h : Rp.rep i cs s) : ∃ (p0 : Option Addr) (c0 : Nat) (p1 : Option Addr) (c1 : Nat), cs = [vS p0 s.Arrays c0, vS p1 s.Parts c1] ∧ SL i (vS p0 s.Arrays c0) s.Arrays ∧ SL i (vS p1 s.Parts c1) s.Parts := by
  obtain ⟨v0, v1, e, h0, h1⟩ := zDy h
  obtain ⟨p0, c0, rfl⟩ := h0.form
  obtain ⟨p1, c1, rfl⟩ := h1.form
  exact ⟨p0, c0, p1, c1, e, h0, h1⟩
instance : Vr zD := ⟨fun i v a => ∃ cs, v = .agg ⟨cs⟩ ∧ Rp.rep i cs a, fun hl ⟨cs, e, h⟩ => ⟨cs, e, Rp.mono hl h⟩⟩
structure zL where
  Part : Int
  Stmt : Int
  Point : List Int
instance : Rp zL where
  sz := 3
  pos := by decide
  rep i cs s := ∃ v0 : Value, cs = [.int .i64 s.Part, .int .i64 s.Stmt, v0] ∧ SL i v0 s.Point
  len h := by obtain ⟨v0, rfl, h0⟩ := h; rfl
  mono hm h := by obtain ⟨v0, e, h0⟩ := h; exact ⟨v0, e, h0.mono hm⟩
  one h := by obtain ⟨v0, rfl, h0⟩ := h; simp [zA9, h0.one]
theorem zDT {i : Imm} {cs : List Value} {s : zL} (h : Rp.rep i cs s) : ∃ v0 : Value, cs = [.int .i64 s.Part, .int .i64 s.Stmt, v0] ∧ SL i v0 s.Point := h
theorem zAO {i : Imm} {cs : List Value} {s : zL} (h : ∃ v0 : Value, cs = [.int .i64 s.Part, .int .i64 s.Stmt, v0] ∧ SL i v0 s.Point) : Rp.rep i cs s := h
theorem qS {i : Imm} {cs : List Value} {s : zL} (h : Rp.rep i cs s) : ∃ (p0 : Option Addr) (c0 : Nat), cs = [.int .i64 s.Part, .int .i64 s.Stmt, vS p0 s.Point c0] ∧ SL i (vS p0 s.Point c0) s.Point := by
  obtain ⟨v0, e, h0⟩ := zDT h
  obtain ⟨p0, c0, rfl⟩ := h0.form
  exact ⟨p0, c0, e, h0⟩
instance : Vr zL := ⟨fun i v a => ∃ cs, v = .agg ⟨cs⟩ ∧ Rp.rep i cs a, fun hl ⟨cs, e, h⟩ => ⟨cs, e, Rp.mono hl h⟩⟩
structure yH where
  From : Int
  To : Int
  Kinds : Int
instance : Rp yH where
  sz := 3
  pos := by decide
  rep i cs s := cs = [.int .i64 s.From, .int .i64 s.To, .int .i64 s.Kinds]
  len h := by obtain rfl := h; rfl
  mono _ h := h
  one h := by obtain rfl := h; simp [zA9]
theorem zAo {i : Imm} {cs : List Value} {s : yH} (h : Rp.rep i cs s) : cs = [.int .i64 s.From, .int .i64 s.To, .int .i64 s.Kinds] := h
theorem zDK {i : Imm} {cs : List Value} {s : yH} (h : cs = [.int .i64 s.From, .int .i64 s.To, .int .i64 s.Kinds]) : Rp.rep i cs s := h
instance : Vr yH := ⟨fun i v a => ∃ cs, v = .agg ⟨cs⟩ ∧ Rp.rep i cs a, fun hl ⟨cs, e, h⟩ => ⟨cs, e, Rp.mono hl h⟩⟩
structure vQ where
  Program : zD
  list : List zL
  reads : List (List Int)
  writes : List Int
instance : Rp vQ where
  sz := 5
  pos := by decide
  rep i cs s := ∃ v0 v1 v2 v3 v4 : Value, cs = [v0, v1, v2, v3, v4] ∧ SL i v0 s.Program.Arrays ∧ SL i v1 s.Program.Parts ∧ SL i v2 s.list ∧ SL i v3 s.reads ∧ SL i v4 s.writes
  len h := by obtain ⟨v0, v1, v2, v3, v4, rfl, h0, h1, h2, h3, h4⟩ := h; rfl
  mono hm h := by obtain ⟨v0, v1, v2, v3, v4, e, h0, h1, h2, h3, h4⟩ := h; exact ⟨v0, v1, v2, v3, v4, e, h0.mono hm, h1.mono hm, h2.mono hm, h3.mono hm, h4.mono hm⟩
  one h := by obtain ⟨v0, v1, v2, v3, v4, rfl, h0, h1, h2, h3, h4⟩ := h; simp [h0.one, h1.one, h2.one, h3.one, h4.one]
theorem zFB {i : Imm} {cs : List Value} {s : vQ} (h : Rp.rep i cs s) : ∃ v0 v1 v2 v3 v4 : Value, cs = [v0, v1, v2, v3, v4] ∧ SL i v0 s.Program.Arrays ∧ SL i v1 s.Program.Parts ∧ SL i v2 s.list ∧ SL i v3 s.reads ∧ SL i v4 s.writes := h
theorem zFC {i : Imm} {cs : List Value} {s : vQ} (h : ∃ v0 v1 v2 v3 v4 : Value, cs = [v0, v1, v2, v3, v4] ∧ SL i v0 s.Program.Arrays ∧ SL i v1 s.Program.Parts ∧ SL i v2 s.list ∧ SL i v3 s.reads ∧ SL i v4 s.writes) : Rp.rep i cs s := h
theorem zLj {i : Imm} {cs : List Value} {s : vQ} (h : Rp.rep i cs s) : ∃ (p0 : Option Addr) (c0 : Nat) (p1 : Option Addr) (c1 : Nat) (p2 : Option Addr) (c2 : Nat) (p3 : Option Addr) (c3 : Nat) (p4 : Option Addr) (c4 : Nat), cs = [vS p0 s.Program.Arrays c0, vS p1 s.Program.Parts c1, vS p2 s.list c2, vS p3 s.reads c3, vS p4 s.writes c4] ∧ SL i (vS p0 s.Program.Arrays c0) s.Program.Arrays ∧ SL i (vS p1 s.Program.Parts c1) s.Program.Parts ∧ SL i (vS p2 s.list c2) s.list ∧ SL i (vS p3 s.reads c3) s.reads ∧ SL i (vS p4 s.writes c4) s.writes := by
  obtain ⟨v0, v1, v2, v3, v4, e, h0, h1, h2, h3, h4⟩ := zFB h
  obtain ⟨p0, c0, rfl⟩ := h0.form
  obtain ⟨p1, c1, rfl⟩ := h1.form
  obtain ⟨p2, c2, rfl⟩ := h2.form
  obtain ⟨p3, c3, rfl⟩ := h3.form
  obtain ⟨p4, c4, rfl⟩ := h4.form
  exact ⟨p0, c0, p1, c1, p2, c2, p3, c3, p4, c4, e, h0, h1, h2, h3, h4⟩
instance : Vr vQ := ⟨fun i v a => ∃ cs, v = .agg ⟨cs⟩ ∧ Rp.rep i cs a, fun hl ⟨cs, e, h⟩ => ⟨cs, e, Rp.mono hl h⟩⟩
structure zM where
  b : List UInt8
  p : Int
instance : Rp zM where
  sz := 2
  pos := by decide
  rep i cs s := ∃ v0 : Value, cs = [v0, .int .i64 s.p] ∧ SL i v0 s.b
  len h := by obtain ⟨v0, rfl, h0⟩ := h; rfl
  mono hm h := by obtain ⟨v0, e, h0⟩ := h; exact ⟨v0, e, h0.mono hm⟩
  one h := by obtain ⟨v0, rfl, h0⟩ := h; simp [zA9, h0.one]
theorem fR {i : Imm} {cs : List Value} {s : zM} (h : Rp.rep i cs s) : ∃ v0 : Value, cs = [v0, .int .i64 s.p] ∧ SL i v0 s.b := h
theorem yT {i : Imm} {cs : List Value} {s : zM} (h : ∃ v0 : Value, cs = [v0, .int .i64 s.p] ∧ SL i v0 s.b) : Rp.rep i cs s := h
theorem yA {i : Imm} {cs : List Value} {s : zM} (h : Rp.rep i cs s) : ∃ (p0 : Option Addr) (c0 : Nat), cs = [vS p0 s.b c0, .int .i64 s.p] ∧ SL i (vS p0 s.b c0) s.b := by
  obtain ⟨v0, e, h0⟩ := fR h
  obtain ⟨p0, c0, rfl⟩ := h0.form
  exact ⟨p0, c0, e, h0⟩
instance : Vr zM := ⟨fun i v a => ∃ cs, v = .agg ⟨cs⟩ ∧ Rp.rep i cs a, fun hl ⟨cs, e, h⟩ => ⟨cs, e, Rp.mono hl h⟩⟩
structure sI where
  nest : List zE
  steps : Int
  out : List (List Int)
instance : Rp sI where
  sz := 3
  pos := by decide
  rep i cs s := ∃ v0 v1 : Value, cs = [v0, .int .i64 s.steps, v1] ∧ SL i v0 s.nest ∧ SL i v1 s.out
  len h := by obtain ⟨v0, v1, rfl, h0, h1⟩ := h; rfl
  mono hm h := by obtain ⟨v0, v1, e, h0, h1⟩ := h; exact ⟨v0, v1, e, h0.mono hm, h1.mono hm⟩
  one h := by obtain ⟨v0, v1, rfl, h0, h1⟩ := h; simp [zA9, h0.one, h1.one]
instance : Vr sI := ⟨fun i v a => ∃ cs, v = .agg ⟨cs⟩ ∧ Rp.rep i cs a, fun hl ⟨cs, e, h⟩ => ⟨cs, e, Rp.mono hl h⟩⟩
structure xI where
  reads : List Int
  write : Int
instance : Rp xI where
  sz := 2
  pos := by decide
  rep i cs s := ∃ v0 : Value, cs = [v0, .int .i64 s.write] ∧ SL i v0 s.reads
  len h := by obtain ⟨v0, rfl, h0⟩ := h; rfl
  mono hm h := by obtain ⟨v0, e, h0⟩ := h; exact ⟨v0, e, h0.mono hm⟩
  one h := by obtain ⟨v0, rfl, h0⟩ := h; simp [zA9, h0.one]
theorem zFp {i : Imm} {cs : List Value} {s : xI} (h : Rp.rep i cs s) : ∃ v0 : Value, cs = [v0, .int .i64 s.write] ∧ SL i v0 s.reads := h
theorem zFq {i : Imm} {cs : List Value} {s : xI} (h : ∃ v0 : Value, cs = [v0, .int .i64 s.write] ∧ SL i v0 s.reads) : Rp.rep i cs s := h
theorem zDL {i : Imm} {cs : List Value} {s : xI} (h : Rp.rep i cs s) : ∃ (p0 : Option Addr) (c0 : Nat), cs = [vS p0 s.reads c0, .int .i64 s.write] ∧ SL i (vS p0 s.reads c0) s.reads := by
  obtain ⟨v0, e, h0⟩ := zFp h
  obtain ⟨p0, c0, rfl⟩ := h0.form
  exact ⟨p0, c0, e, h0⟩
instance : Vr xI := ⟨fun i v a => ∃ cs, v = .agg ⟨cs⟩ ∧ Rp.rep i cs a, fun hl ⟨cs, e, h⟩ => ⟨cs, e, Rp.mono hl h⟩⟩
end Go.LN
namespace Go.LN
theorem iM {α:Type} [Rp α] {i j:Imm} (h:i.le j) {l:List α}{cs:List Value} (hr:RL i cs l):RL j cs l:=RepL.mono (fun _ _=>Rp.mono h) hr
def stB:List HA→Nat→List Value→(List HA→Option (List HA))→Option (List HA)
  | .blk b _::t,0,c',k=>k (.blk b ⟨c'⟩::t)
  | h::t,j + 1,c',k=>stB t j c' fun r=>k (h::r)
  | _,_,_,_=>none
theorem zK3:∀ {hs:List HA}{j:Nat}{b:Nat}{c:Array Value}{c':List Value}{k:List HA→Option (List HA)},hs[j]?=some (.blk b c)→stB hs j c' k=k (hs.set j (.blk b ⟨c'⟩))
  | [],_,_,_,_,_,h=>by simp at h
  | A::t,0,b,c,c',k,h=>by
    simp only [List.getElem?_cons_zero,Option.some.injEq] at h
    subst h; rfl
  | A::t,j + 1,b,c,c',k,h=>by
    simp only [List.getElem?_cons_succ] at h
    rw [stB,zK3 h,List.set_cons_succ]
class Mo (X:Prop) (i j:Imm) (Y:outParam Prop):Prop where
  mo:i.le j→X→Y
instance {α:Type} [Rp α] {v:Value}{l:List α}{i j:Imm}:Mo (SL i v l) i j (SL j v l):=⟨fun h x=>x.mono h⟩
instance {α:Type} [Rp α] {cs:List Value}{l:List α}{i j:Imm}:Mo (RL i cs l) i j (RL j cs l):=⟨fun h x=>iM h x⟩
instance {ad:Addr}{cs:List Value}{i j:Imm}:Mo (At i ad cs) i j (At j ad cs):=⟨fun h x=>At.mono h x⟩
instance {α:Type} [Rp α] {v:Value}{o:Option α}{i j:Imm}:Mo (FP i v o) i j (FP j v o):=⟨fun h x=>FP.mono x h⟩
instance {α β:Type} [Vr α] [Vr β] {P:Program}{hsF:List HA}{v:Value}{φ:α→Option β}{i j:Imm}:Mo (FV1 P i hsF v φ) i j (FV1 P j hsF v φ):=⟨fun h x=>FV1.mono h x⟩
instance {α β γ:Type} [Vr α] [Vr β] [Vr γ] {P:Program}{hsF:List HA}{v:Value}{φ:α→β→Option γ}{i j:Imm}:Mo (FV2 P i hsF v φ) i j (FV2 P j hsF v φ):=⟨fun h x=>FV2.mono h x⟩
instance {P:Program}{i j:Imm}:Mo (GH P i) i j (GH P j):=⟨fun h x=>GH.mono h x⟩
instance {i0 i j:Imm}:Mo (i0.le i) i j (i0.le j):=⟨fun h x=>x.trans h⟩
theorem m2 {i j:Imm}{A B A' B':Prop} (h:i.le j) (a:A) (b:B) [Mo A i j A'] [Mo B i j B']:A'∧B':=⟨Mo.mo h a,Mo.mo h b⟩
theorem m3 {i j:Imm}{A B C A' B' C':Prop} (h:i.le j) (a:A) (b:B) (c:C) [Mo A i j A'] [Mo B i j B'] [Mo C i j C']:A'∧B'∧C':=⟨Mo.mo h a,Mo.mo h b,Mo.mo h c⟩
theorem m4 {i j:Imm}{A B C D A' B' C' D':Prop} (h:i.le j) (a:A) (b:B) (c:C) (d:D) [Mo A i j A'] [Mo B i j B'] [Mo C i j C'] [Mo D i j D']:A'∧B'∧C'∧D':=⟨Mo.mo h a,Mo.mo h b,Mo.mo h c,Mo.mo h d⟩
theorem m5 {i j:Imm}{A B C D E A' B' C' D' E':Prop} (h:i.le j) (a:A) (b:B) (c:C) (d:D) (e:E) [Mo A i j A'] [Mo B i j B'] [Mo C i j C'] [Mo D i j D'] [Mo E i j E']:A'∧B'∧C'∧D'∧E':=⟨Mo.mo h a,Mo.mo h b,Mo.mo h c,Mo.mo h d,Mo.mo h e⟩
theorem m6 {i j:Imm}{A B C D E F A' B' C' D' E' F':Prop} (h:i.le j) (a:A) (b:B) (c:C) (d:D) (e:E) (f:F) [Mo A i j A'] [Mo B i j B'] [Mo C i j C'] [Mo D i j D'] [Mo E i j E'] [Mo F i j F']:A'∧B'∧C'∧D'∧E'∧F':=⟨Mo.mo h a,Mo.mo h b,Mo.mo h c,Mo.mo h d,Mo.mo h e,Mo.mo h f⟩
abbrev K1 {α:Type} (o:α) (I:Imm) (hs:List HA) (m:α→FM):Imm→List HA→FM→Prop:=fun I' hs' m'=>∃ t:α,o=t∧I.le I'∧hs'=hs∧m'=m t
section
variable {P:Program}{n:Nat}{B:Base}{ops:List Oper}{Q:Exit→Act→World→Prop}{pc:Nat}{imm:Imm}{hs:List HA}{m:FM}{d:Nat}
  {ty:TypeId}{pos:String}{after:Array Edge}{g:Option (Nat×Bool)}
theorem xP {f:FuncId}{x:Operand}{xs:Array Operand}{ts:Array TypeId}{vs:List Value}{post:Nat→Imm→List HA→Value→Prop}
    (hc:Ret P f vs imm [] post)
    (next:∀ imm' hs' v k,imm.le imm'→B.w0.heap.size ≤ k→post k imm' hs' v→(∀ b ∈ hs'.flatMap HA.fp,b ∈ ([]:List HA).flatMap HA.fp∨B.w0.heap.size ≤ b)→R P n B ops Q (pc + 1) imm' (hs' ++ hs) ((d,v)::m))
    (ho:ops[pc]?=some ⟨some d,.call { callee:=.value x,args:=xs,argTypes:=ts },ty,pos,after,g⟩:=by rfl) (hg:guardB ops m g=some true:=by rfl) (hn:Nat.blt d n=true:=by rfl) (hx:val m x=some (.func (.func f) #[] #[]):=by rfl) (hf:callable P f=true:=by kernel_rfl)
    (hvs:vals m xs.toList=some vs:=by rfl):R P n B ops Q pc imm hs m :=
  zEu (hs1:=[]) (rest:=hs) ho hg hn hx hf hvs rfl hc next
theorem zO5 {f:FuncId}{x:Operand}{xs:Array Operand}{ts:Array TypeId}{vs:List Value} (hs1 rest:List HA) {post:Nat→Imm→List HA→Value→Prop}
    (hc:Ret P f vs imm hs1 post)
    (next:∀ imm' hs' v k,imm.le imm'→B.w0.heap.size ≤ k→post k imm' hs' v→(∀ b ∈ hs'.flatMap HA.fp,b ∈ hs1.flatMap HA.fp∨B.w0.heap.size ≤ b)→R P n B ops Q (pc + 1) imm' (hs' ++ rest) ((d,v)::m))
    (ho:ops[pc]?=some ⟨some d,.call { callee:=.value x,args:=xs,argTypes:=ts },ty,pos,after,g⟩:=by rfl) (hg:guardB ops m g=some true:=by rfl) (hn:Nat.blt d n=true:=by rfl) (hx:val m x=some (.func (.func f) #[] #[]):=by rfl) (hf:callable P f=true:=by kernel_rfl)
    (hvs:vals m xs.toList=some vs:=by rfl) (hh:hs=hs1 ++ rest:=by rfl):R P n B ops Q pc imm hs m :=
  zEu (hs1:=hs1) (rest:=rest) ho hg hn hx hf hvs hh hc next
theorem zBw (m':FM) (h:R P n B ops Q pc imm hs m') (hk:keep m (m'.map (·.1))=some m':=by kernel_rfl):R P n B ops Q pc imm hs m:=mS (zAz hk) h
theorem uN (cs:List Value) (α:Type) [Rp α] {t len:Nat}{parts:Array (Nat×Operand)}{ps:List (Nat×Value)}
    (next:∀ b,B.w0.heap.size ≤ b→R P n B ops Q (pc + 1) imm (.osl (.slice (some ⟨b,0,none⟩) len len) (Rp.sz α) cs::hs) ((d,.slice (some ⟨b,0,none⟩) len len)::m))
    (ho:ops[pc]?=some ⟨some d,.buildSlice t len parts,ty,pos,after,g⟩:=by rfl) (hg:guardB ops m g=some true:=by rfl) (hn:Nat.blt d n=true:=by rfl) (hps:pvals m parts.toList=some ps:=by rfl) (hc:elemZ P t len ps=some ⟨cs⟩:=by kernel_rfl) (hl:Nat.beq cs.length (len * Rp.sz α)=true:=by kernel_rfl)
    (hlM:Nat.ble len 9223372036854775807=true:=by rfl):R P n B ops Q pc imm hs m :=
  zIS (cs:=cs) (Rp.sz α) ho hg hn hps hc hl next hlM
theorem wY (c:List Value) {t:TypeId}
    (next:∀ b,B.w0.heap.size ≤ b→R P n B ops Q (pc + 1) imm (.blk b ⟨c⟩::hs) ((d,.pointer (some ⟨b,0,none⟩))::m))
    (ho:ops[pc]?=some ⟨some d,.alloc t,ty,pos,after,g⟩:=by rfl) (hg:guardB ops m g=some true:=by rfl) (hn:Nat.blt d n=true:=by rfl) (hz:zeroC P t=some ⟨c⟩:=by kernel_rfl):R P n B ops Q pc imm hs m :=
  zMm (c:=⟨c⟩) ho hg hn hz next
theorem tS (c:List Value) {t:TypeId}{x:Operand}{v:Value}
    (next:∀ b,B.w0.heap.size ≤ b→R P n B ops Q (pc + 1) imm (.blk b ⟨c⟩::hs) ((d,.pointer (some ⟨b,0,none⟩))::m))
    (ho:ops[pc]?=some ⟨some d,.box t x,ty,pos,after,g⟩:=by rfl) (hg:guardB ops m g=some true:=by rfl) (hn:Nat.blt d n=true:=by rfl) (hx:val m x=some v:=by rfl) (hc:v.cells=⟨c⟩:=by rfl):R P n B ops Q pc imm hs m :=
  zOJ (c:=⟨c⟩) ho hg hn hx hc next
theorem I_h {its:List It}{gs:List (List HA)}{N:Nat}{l:List (Nat×Bool)}{ops':List Oper}{pc:Nat} (m2:FM) (h:R P n B ops' Q pc imm hs m2)
    (hi:(insM ops its l m).bind (fun m1=>keep m1 (m2.map (·.1)))=some m2:=by kernel_rfl):Ins ops (factsOf N its gs) imm l m hs fun m' hs'=>R P n B ops' Q pc imm hs' m':=by
  obtain ⟨m1,h1,h2⟩:=Option.bind_eq_some_iff.1 hi
  refine zDx (fun j it hj=>?_) h1 (mS (zAz h2) h)
  have hlt:=(List.getElem?_eq_some_iff.1 hj).1
  unfold factsOf
  rw [List.getD_eq_getElem?_getD,List.getElem?_append_left (by rw [List.length_map]; exact hlt),List.getElem?_map,hj]
  rfl
theorem xE {ops':List Oper}{pc d0:Nat}{φi:Fact}{imm1:Imm}{v:Value} (hle:imm1.le imm) (h0:ops'.drop pc=[]:=by rfl) (hd:look m d0=some v:=by rfl) (hφ:φi imm v []:=by exact ⟨rfl,rfl⟩):R P n B ops' (OutQ n B φi (some d0) imm1 hs) pc imm hs m :=
  zFh (hx:=[]) h0 hle rfl (fun _ e=>by cases e; exact hd) hφ
theorem yL {f:FuncId}{fn:Func}{args:List Value}{post:Nat→Imm→List HA→Value→Prop} (hf:P.funcs[f]?=some fn) (h:∀ B:Base,J P fn.ntmps B (bodyOf fn) (QB P fn B post) imm hs (argm 0 args))
    (hb:fn.body=some (bodyOf fn):=by rfl) (hn:Nat.ble args.length fn.ntmps=true:=by rfl):Ret P f args imm hs post:=zL5 hf hb hn fun B _ _=>h B
theorem yK (hx:List HA) {ops':List Oper}{pc d0:Nat}{φi:Fact}{imm1:Imm}{hs0:List HA}{v:Value} (hle:imm1.le imm) (hφ:φi imm v hx) (h0:ops'.drop pc=[]:=by rfl) (hh:hs=hx ++ hs0:=by rfl) (hd:look m d0=some v:=by rfl):R P n B ops' (OutQ n B φi (some d0) imm1 hs0) pc imm hs m :=
  zFh (hx:=hx) h0 hle hh (fun _ e=>by cases e; exact hd) hφ
theorem yD {id:Nat}{ops:List Oper}{y:Code} (h:R P n B ops (Exit.then (y.wp P Q) Q) 0 imm hs m):J P n B ((Code.region id ops.toArray false).seq y) Q imm hs m:=zZ (zK h)
theorem zY {x y:Code} (h:J P n B x (Exit.then (y.wp P Q) Q) imm hs m):T n B (Exit.then ((x.seq y).wp P Q) Q) .normal imm hs m:=zI (zZ h)
theorem yX {id:Nat}{ops:List Oper}{y:Code} (h:R P n B ops (Exit.then (y.wp P Q) Q) 0 imm hs m):T n B (Exit.then (((Code.region id ops.toArray false).seq y).wp P Q) Q) .normal imm hs m:=zI (yD h)
theorem vJ {id:Nat}{ops:List Oper}{y:Code} (new:FM) (hR:T n B (Exit.then (y.wp P Q) Q) .normal imm hs (new ++ m)) (h:runD P n ops hs 0 ops.length [] (new.map (·.1)) m=some (new,[].map (blkAt hs)):=by kernel_rfl):J P n B ((Code.region id ops.toArray false).seq y) Q imm hs m:=yD (wI [] new hR h)
theorem zFr {id:Nat}{ops:List Oper}{y:Code} (new:FM) (hR:T n B (Exit.then (y.wp P Q) Q) .normal imm hs (new ++ m)) (h:runD P n ops hs 0 ops.length [] (new.map (·.1)) m=some (new,[].map (blkAt hs)):=by kernel_rfl):T n B (Exit.then (((Code.region id ops.toArray false).seq y).wp P Q) Q) .normal imm hs m:=zI (vJ new hR h)
theorem wM {fn:Func}{post:Nat→Imm→List HA→Value→Prop}{v:Value} (h1:ResV P m hs fn.results.toList [v]:=by exact .tmp rfl ResV.nil) (h2:post B.w0.heap.size imm [] (tupV [v]):=by exact ⟨_,rfl,rfl,rfl⟩):T n B (QB P fn B post) .ret imm hs m:=xA ⟨_,_,h1,zQ,h2⟩
theorem gF {f:FuncId}{x:Operand}{xs:Array Operand}{ts:Array TypeId}{vs:List Value}{r:Int}
    (hc:Ret P f vs imm [] fun _ _ hs' v=>∃ v0,hs'=[]∧v=tupV [v0]∧v0=.int .i64 r)
    (next:∀ imm',imm.le imm'→R P n B ops Q (pc + 1) imm' hs ((d,vI r)::m))
    (ho:ops[pc]?=some ⟨some d,.call { callee:=.value x,args:=xs,argTypes:=ts },ty,pos,after,g⟩:=by rfl) (hg:guardB ops m g=some true:=by rfl) (hn:Nat.blt d n=true:=by rfl) (hx:val m x=some (.func (.func f) #[] #[]):=by rfl) (hf:callable P f=true:=by kernel_rfl)
    (hvs:vals m xs.toList=some vs:=by rfl):R P n B ops Q pc imm hs m :=
  xP hc (fun imm' hs' v k h1 _ h3 _=>by obtain ⟨v0,rfl,rfl,rfl⟩:=h3; exact next imm' h1) ho hg hn hx hf hvs
theorem uH {f:FuncId}{x:Operand}{xs:Array Operand}{ts:Array TypeId}{vs:List Value}{r:Bool}
    (hc:Ret P f vs imm [] fun _ _ hs' v=>∃ v0,hs'=[]∧v=tupV [v0]∧v0=.bool r)
    (next:∀ imm',imm.le imm'→R P n B ops Q (pc + 1) imm' hs ((d,.bool r)::m))
    (ho:ops[pc]?=some ⟨some d,.call { callee:=.value x,args:=xs,argTypes:=ts },ty,pos,after,g⟩:=by rfl) (hg:guardB ops m g=some true:=by rfl) (hn:Nat.blt d n=true:=by rfl) (hx:val m x=some (.func (.func f) #[] #[]):=by rfl) (hf:callable P f=true:=by kernel_rfl)
    (hvs:vals m xs.toList=some vs:=by rfl):R P n B ops Q pc imm hs m :=
  xP hc (fun imm' hs' v k h1 _ h3 _=>by obtain ⟨v0,rfl,rfl,rfl⟩:=h3; exact next imm' h1) ho hg hn hx hf hvs
theorem wJ {id:Nat}{K1 K2:Act→World→Prop} (h:T n B Q (.exit id) imm hs m):J P n B (.exit id) (Exit.then K1 (Exit.then K2 Q)) imm hs m:=zEr (jK (jK h))
theorem xG (h:T n B Q .ret imm hs m):T n B (Exit.then ((Code.ret).wp P Q) Q) .normal imm hs m:=zI (yW h)
theorem xW {id:Nat}{c:Code} (h:J P n B c (Exit.inBlock id Q) imm hs m):T n B (Exit.then ((Code.block id c).wp P Q) Q) .normal imm hs m:=zI (yG h)
theorem zX (is:List Nat) {hs':List HA} (h:pick hs is=some hs':=by rfl) (hn:is.Nodup:=by decide):∀ w,Good B imm hs w→Good B imm hs' w:=zW is h hn
theorem xJ {t:TypeId}{x y:Operand}{b o:Nat}{c:Array Value}{v:Value}{hs':List HA} (j:Nat) (c':List Value) (hq:stB hs j c' some=some hs') (next:R P n B ops Q (pc + 1) imm hs' m) (ho:ops[pc]?=some ⟨none,.store t x y,ty,pos,after,g⟩:=by rfl) (hj:hs[j]?=some (.blk b c):=by rfl) (hx:val m x=some (.pointer (some ⟨b,o,none⟩)):=by rfl) (hy:val m y=some v:=by rfl) (hg:guardB ops m g=some true:=by kernel_rfl) (hsz:sizeT P t=some v.cells.size:=by kernel_rfl) (hol:Nat.ble (o + v.cells.size) c.size=true:=by kernel_rfl) (hone:v.cells.toList.all Value.oneCell'=true:=by kernel_rfl) (hc:wr c o v.cells.toList=⟨c'⟩:=by kernel_rfl):R P n B ops Q pc imm hs m :=
  zB4 j c' hs' ho hj hx hy next hg hsz hol hone hc (by rw [zK3 hj] at hq; exact Option.some.inj hq)
end
theorem bE {α β:Type}{o:Option α}{f:α→Option β}{r:β}{G:Prop} (h:(o >>= f)=some r) (k:∀ x,o=some x→f x=some r→G):G:=by
  obtain ⟨x,h1,h2⟩:=zB h;exact k x h1 h2
theorem ct {α:Type}{o t:α}{P1:Prop}{P2 P3:α→Prop} (hM:(pure t:Option α)=some o) (H:P1) (h2:P2 t:=by rfl) (h3:P3 t:=by rfl):∃ t',o=t'∧P1∧P2 t'∧P3 t':=⟨t,(zC hM).symm,H,h2,h3⟩
abbrev NG (Q:Exit→Act→World→Prop):Prop:=∀ gl a w,¬Q (.goto gl) a w
abbrev NO (Q:Exit→Act→World→Prop):Prop:=∀ a w,¬Q .outgrown a w
abbrev cStmt (x:zP) (p0:Option Addr) (c0:Nat) (p1:Option Addr) (c1:Nat) (p2:Option Addr) (c2:Nat) (p3:Option Addr) (c3:Nat):List Value:=[vT x.Write.Array.l,vS p0 x.Write.Subs c0,vI x.Value.Kind,vI x.Value.Num,vS p1 x.Value.Index.Coefs c1,vI x.Value.Index.Const,vT x.Value.Read.Array.l,vS p2 x.Value.Read.Subs c2,vS p3 x.Value.Kids c3]
abbrev cExpr (x:zH) (p0:Option Addr) (c0:Nat) (p1:Option Addr) (c1:Nat) (p2:Option Addr) (c2:Nat):List Value:=[vI x.Kind,vI x.Num,vS p0 x.Index.Coefs c0,vI x.Index.Const,vT x.Read.Array.l,vS p1 x.Read.Subs c1,vS p2 x.Kids c2]
abbrev cAccess (x:zJ) (p0:Option Addr) (c0:Nat):List Value:=[vT x.Array.l,vS p0 x.Subs c0]
abbrev cAff (x:zA) (p0:Option Addr) (c0:Nat):List Value:=[vS p0 x.Coefs c0,vI x.Const]
abbrev cLoop (x:zE) (p0:Option Addr) (c0:Nat) (p1:Option Addr) (c1:Nat):List Value:=[vS p0 x.Lo c0,vS p1 x.Hi c1]
abbrev cPart (x:zN) (p0:Option Addr) (c0:Nat) (p1:Option Addr) (c1:Nat):List Value:=[vS p0 x.Nest c0,vS p1 x.Body c1]
abbrev cProg (x:zD) (p0:Option Addr) (c0:Nat) (p1:Option Addr) (c1:Nat):List Value:=[vS p0 x.Arrays c0,vS p1 x.Parts c1]
abbrev cArr (x:zF) (p0:Option Addr) (c0:Nat):List Value:=[vT x.Name.l,vS p0 x.Dims c0]
abbrev cRd (x:zM) (p0:Option Addr) (c0:Nat):List Value:=[vS p0 x.b c0,vI x.p]
abbrev cInst (x:zL) (p0:Option Addr) (c0:Nat):List Value:=[vI x.Part,vI x.Stmt,vS p0 x.Point c0]
abbrev zExpr:List Value:=[vI 0,vI 0,.slice none 0 0,vI 0,vT ([]),.slice none 0 0,.slice none 0 0]
abbrev zTwo:List Value:=[.slice none 0 0,.slice none 0 0]
abbrev z0:Value:=.slice none 0 0
abbrev vF:Value:=.bool false
abbrev vY:Value:=.bool true
abbrev KT:=Nat→Imm→List HA→Value→Prop
theorem iS (i:Imm):i.le i:=Imm.le.refl i
theorem iR {i:Imm}:i.le i:=Imm.le.refl i
abbrev S4 {α:Type} [Rp α] (imm:Imm) (p:Option Addr) (l:List α) (c:Nat):Prop:=SL imm (vS p l c) l
end Go.LN
namespace Go.LN
theorem zFD:∀ {ks:List Nat}{m m':FM},keep m ks=some m'→m'.map (·.1)=ks
  | [],m,m',h=>by simp only [keep] at h; cases h; rfl
  | k::ks,m,m',h=>by
    simp only [keep] at h
    split at h
    · rename_i v m1 h1 h2; cases h; rw [List.map_cons,zFD h2]
    · cases h
theorem zCl {P:Program}{n:Nat}{ops:List Oper}{hs:List HA}{pc k:Nat}{js ks:List Nat}{m new:FM}{bs:List Nat} (h:runD P n ops hs pc k js ks m=some (new,bs)):new.map (·.1)=ks:=by
  unfold runD at h;split at h
  · split at h
    · rename_i hk; cases h; exact zFD hk
    · cases h
  · cases h
section
variable {P:Program}{n:Nat}{B:Base}{ops:List Oper}{Q:Exit→Act→World→Prop}{pc:Nat}{imm:Imm}{hs:List HA}{m new:FM}{d:Nat}
theorem yE (pc':Nat) (js ks:List Nat) (h:runD P n ops hs pc (pc' - pc) js ks m=some (new,js.map (blkAt hs))) (hR:R P n B ops Q pc' imm hs (new ++ m))
    (hl:Nat.beq (pc + ((ops.drop pc).take (pc' - pc)).length) pc'=true:=by kernel_rfl):R P n B ops Q pc imm hs m:=qL pc' js new hR (by rw [zCl h]; exact h) hl
theorem yI (js ks:List Nat) (h:runD P n ops hs pc ops.length js ks m=some (new,js.map (blkAt hs))) (hR:T n B Q .normal imm hs (new ++ m)):R P n B ops Q pc imm hs m:=wI js new hR (by rw [zCl h]; exact h)
theorem fX (pc':Nat) (js ks:List Nat) (h:runD P n ops hs pc (pc' - pc) js ks m=some (new,js.map (blkAt hs))) (hR:Rq P n B ops Q pc' imm hs (new ++ m))
    (hl:Nat.beq (pc + ((ops.drop pc).take (pc' - pc)).length) pc'=true:=by kernel_rfl):Rq P n B ops Q pc imm hs m:=zO4 pc' js new hR (by rw [zCl h]; exact h) hl
theorem zGg (js ks:List Nat) (h:runD P n ops hs pc ops.length js ks m=some (new,js.map (blkAt hs))) (hR:T n B Q .normal imm hs (new ++ m)):Rq P n B ops Q pc imm hs m:=zJz js new hR (by rw [zCl h]; exact h)
theorem yF {id:Nat}{ops:List Oper}{y:Code} (ks:List Nat) (h:runD P n ops hs 0 ops.length [] ks m=some (new,[])) (hR:T n B (Exit.then (y.wp P Q) Q) .normal imm hs (new ++ m)):J P n B ((Code.region id ops.toArray false).seq y) Q imm hs m:=yD (yI [] ks h hR)
theorem wH {id:Nat}{ops:List Oper}{y:Code} (ks:List Nat) (h:runD P n ops hs 0 ops.length [] ks m=some (new,[])) (hR:T n B (Exit.then (y.wp P Q) Q) .normal imm hs (new ++ m)):T n B (Exit.then (((Code.region id ops.toArray false).seq y).wp P Q) Q) .normal imm hs m:=zI (yF ks h hR)
theorem yN {e:Exit}{m':FM} (h:T n B Q e imm hs m') (hk:keep m (m'.map (·.1))=some m':=by kernel_rfl):T n B Q e imm hs m:=T_w m' h hk
theorem nF {c:Code}{m':FM} (h:J P n B c Q imm hs m') (hk:keep m (m'.map (·.1))=some m':=by kernel_rfl):J P n B c Q imm hs m:=qW m' h hk
theorem yR {its:List It}{gs:List (List HA)}{N:Nat}{l:List (Nat×Bool)}{ops':List Oper}{m2:FM} (ks:List Nat)
    (hi:(insM ops its l m).bind (fun m1=>keep m1 ks)=some m2) (h:R P n B ops' Q pc imm hs m2):Ins ops (factsOf N its gs) imm l m hs fun m' hs'=>R P n B ops' Q pc imm hs' m' :=
  I_h m2 h (by
    obtain ⟨m1,h1,h2⟩:=Option.bind_eq_some_iff.1 hi
    rw [zFD h2]; exact hi)
theorem xZ (qs:List Nat) {c:Bool}{α:Type}{X Y:Option α}{r:α} (hM:(if c=true then X else Y)=some r) (ht:c=true→X=some r→R P n B ops Q pc imm hs (qs.map (fun q=>(q,Value.bool true)) ++ m))
    (hf:c=false→Y=some r→R P n B ops Q pc imm hs (qs.map (fun q=>(q,Value.bool false)) ++ m)) (hq:keep m qs=some (qs.map fun q=>(q,Value.bool c)):=by kernel_rfl):R P n B ops Q pc imm hs m:=by
  cases c with
  | true=>exact zMr (fun a f=>zGc hq (fun _ _ _ h=>h) a f) (ht rfl hM)
  | false=>exact zMr (fun a f=>zGc hq (fun _ _ _ h=>h) a f) (hf rfl hM)
theorem zGh (qs:List Nat) {c:Bool}{α:Type}{X Y:Option α}{r:α} (hM:(if c=true then X else Y)=some r) (ht:c=true→X=some r→Rq P n B ops Q pc imm hs (qs.map (fun q=>(q,Value.bool true)) ++ m))
    (hf:c=false→Y=some r→Rq P n B ops Q pc imm hs (qs.map (fun q=>(q,Value.bool false)) ++ m)) (hq:keep m qs=some (qs.map fun q=>(q,Value.bool c)):=by kernel_rfl):Rq P n B ops Q pc imm hs m:=by
  cases c with
  | true=>exact zK0 (fun a f=>zGc hq (fun _ _ _ h=>h) a f) (ht rfl hM)
  | false=>exact zK0 (fun a f=>zGc hq (fun _ _ _ h=>h) a f) (hf rfl hM)
theorem zO6 (α:Type) [Rp α] (h:RL imm [] ([]:List α)→R P n B ops Q pc imm (hO α (.slice none 0 0) []::hs) m):R P n B ops Q pc imm hs m:=sK (gI (Rp.sz α)) (h RepL.nil)
theorem dR (α:Type) [Rp α] {c:Code} (h:RL imm [] ([]:List α)→J P n B c Q imm (hO α (.slice none 0 0) []::hs) m):J P n B c Q imm hs m:=jG (gI (Rp.sz α)) (h RepL.nil)
theorem nH {α:Type} [Rp α] {cs:List Value}{l:List α} (hr:RL imm cs l) {t len:Nat}{parts:Array (Nat×Operand)}{ps:List (Nat×Value)}{ty:TypeId}{pos:String}{after:Array Edge}{g:Option (Nat×Bool)}
    (next:∀ b imm',imm.le imm'→SL imm' (.slice (some ⟨b,0,none⟩) len len) l→R P n B ops Q (pc + 1) imm' hs ((d,.slice (some ⟨b,0,none⟩) len len)::m))
    (ho:ops[pc]?=some ⟨some d,.buildSlice t len parts,ty,pos,after,g⟩:=by rfl) (hg:guardB ops m g=some true:=by rfl) (hn:Nat.blt d n=true:=by rfl) (hps:pvals m parts.toList=some ps:=by rfl) (hc:elemZ P t len ps=some ⟨cs⟩:=by kernel_rfl) (hl:Nat.beq cs.length (len * Rp.sz α)=true:=by kernel_rfl)
    (hlM:Nat.ble len 9223372036854775807=true:=by rfl):R P n B ops Q pc imm hs m :=
  uN cs α (fun b _=>xO 0 rfl fun imm' hle hl0=>next b imm' hle (SL.of_frozen hl0 hle hr)) ho hg hn hps hc hl hlM
theorem sJ {f:FuncId}{x:Operand}{xs:Array Operand}{ts:Array TypeId}{vs:List Value}{hs1 rest:List HA}{post:Nat→Imm→List HA→Value→Prop}{ty:TypeId}{pos:String}{after:Array Edge}{g:Option (Nat×Bool)}
    (hc:Ret P f vs imm hs1 post) (hh:hs=hs1 ++ rest)
    (next:∀ imm' hs' v k,imm.le imm'→B.w0.heap.size ≤ k→post k imm' hs' v→(∀ b ∈ hs'.flatMap HA.fp,b ∈ hs1.flatMap HA.fp∨B.w0.heap.size ≤ b)→R P n B ops Q (pc + 1) imm' (hs' ++ rest) ((d,v)::m))
    (ho:ops[pc]?=some ⟨some d,.call { callee:=.value x,args:=xs,argTypes:=ts },ty,pos,after,g⟩:=by rfl) (hg:guardB ops m g=some true:=by rfl) (hn:Nat.blt d n=true:=by rfl) (hx:val m x=some (.func (.func f) #[] #[]):=by rfl) (hf:callable P f=true:=by kernel_rfl)
    (hvs:vals m xs.toList=some vs:=by rfl):R P n B ops Q pc imm hs m:=zO5 hs1 rest hc next ho hg hn hx hf hvs hh
theorem wT {α γ:Type}{x:Option α}{f:α→Option γ}{r:γ}{c:Code} (hM:(x >>= f)=some r) (hs0:List HA) (mf:α→FM)
    (h:∀ o,x=some o→J P n B c (Exit.then (fun a w=>∃ imm' hs' m',K1 o imm hs0 mf imm' hs' m'∧Fr n a m'∧Good B imm' hs' w) Q) imm hs m)
    (k:∀ t imm',imm.le imm'→f t=some r→T n B Q .normal imm' hs0 (mf t)):J P n B c Q imm hs m:=by
  obtain ⟨o,h1,h2⟩:=zB hM
  refine qA (K1 o imm hs0 mf) (h o h1) ?_
  rintro imm' _ _ ⟨t,rfl,hle,rfl,rfl⟩
  exact k _ imm' hle h2
end
theorem rN {α:Type} [Rp α] {i:Imm}:RL i [] ([]:List α):=RepL.nil
theorem rc {α:Type} [Rp α] {i:Imm}{c1 c2:List Value}{l:List α} (a:α) (h:Rp.rep i c1 a) (t:RL i c2 l):RL i (c1 ++ c2) (a::l):=⟨c1,c2,rfl,Rp.len h,h,t⟩
theorem rI {i:Imm}:∀ (l:List Int),RL i (l.map vI) l
  | []=>RepL.nil
  | a::l=>⟨[vI a],l.map vI,rfl,rfl,rfl,rI l⟩
theorem rT {i:Imm}:∀ (l:List Str),RL i (l.map fun s=>vT s.l) l
  | []=>RepL.nil
  | a::l=>⟨[vT a.l],l.map fun s=>vT s.l,rfl,rfl,rfl,rT l⟩
end Go.LN
namespace Go.LN
theorem rH {x:Int} (h0:-9223372036854775808 ≤ x) (h1:x ≤ 9223372036854775807):W x=x:=by
  show IntKind.i64.wrap x=x;rw [IntKind.wrap_i64]; omega
theorem zCm {α:Type} (l:List α) (k:Nat):idx l (k:Int)=l[k]?:=by
  unfold idx;simp
theorem zGi {k:Nat} (h:k < 9223372036854775807):W ((k:Int) + 1)=((k + 1:Nat):Int):=by
  rw [rH (by omega) (by omega)]; omega
end Go.LN
namespace Go.LN
structure Raw2 where
  a:Value
  b:Value
instance:Rp Raw2 where
  sz:=2
  pos:=by decide
  rep _ cs r:=cs=[r.a,r.b]∧r.a.oneCell'=true∧r.b.oneCell'=true
  len h:=by obtain ⟨rfl,_⟩:=h; rfl
  mono _ h:=h
  one h:=by obtain ⟨rfl,h1,h2⟩:=h; simp [h1,h2]
def flat:List Raw2→List Value
  | []=>[]
  | r::l=>r.a::r.b::flat l
theorem zAa:∀ (a b:List Raw2),flat (a ++ b)=flat a ++ flat b
  | [],_=>rfl
  | r::a,b=>by simp [flat,zAa a b]
theorem jZ {imm:Imm}:∀ {l:List Raw2}{cs:List Value},RL imm cs l→cs=flat l
  | [],cs,h=>h
  | r::l,cs,⟨c1,c2,h1,_,h3,h4⟩=>by
    obtain ⟨rfl,_⟩:=h3
    rw [h1,jZ h4]; rfl
def LP (imm:Imm) (raws:List Raw2) (parts:List zN) (vN:Value) (nl:List zE) (vB:Value) (bl:List zP):Prop :=
  parts.length ≤ 140737488355328∧raws.length=parts.length ∧
    ((parts=[]∧raws=[])∨∃ rl l,parts=l ++ [⟨nl,bl⟩]∧raws=rl ++ [⟨vN,vB⟩]∧RepL (Rp.rep imm) (Rp.sz zN) (flat rl) l)
theorem LP.mono {i j:Imm} (hl:i.le j) {raws:List Raw2}{parts:List zN}{vN vB:Value}{nl:List zE}{bl:List zP} (h:LP i raws parts vN nl vB bl):LP j raws parts vN nl vB bl:=by
  obtain ⟨h1,h2,h3⟩:=h;refine ⟨h1,h2,h3.imp id ?_⟩;rintro ⟨rl,l,k1,k2,k3⟩;exact ⟨rl,l,k1,k2,RepL.mono (fun _ _=>Rp.mono hl) k3⟩
structure L4 (imm:Imm) (cs:List Value) (arr:List zF) (cs1:List Value) (raws:List Raw2) (parts:List zN) (vN:Value) (nl:List zE) (vB:Value) (bl:List zP) (csN csB:List Value):Prop where
  arr:RL imm cs arr
  raw:RL imm cs1 raws
  lp:LP imm raws parts vN nl vB bl
  n:RL imm csN nl
  b:RL imm csB bl
theorem L4.mono {i j:Imm} (hl:i.le j) {cs:List Value}{arr:List zF}{cs1:List Value}{raws:List Raw2}{parts:List zN}{vN vB:Value}{nl:List zE}{bl:List zP}{csN csB:List Value}
    (h:L4 i cs arr cs1 raws parts vN nl vB bl csN csB):L4 j cs arr cs1 raws parts vN nl vB bl csN csB :=
  ⟨RepL.mono (fun _ _=>Rp.mono hl) h.arr,RepL.mono (fun _ _=>Rp.mono hl) h.raw,h.lp.mono hl,RepL.mono (fun _ _=>Rp.mono hl) h.n,RepL.mono (fun _ _=>Rp.mono hl) h.b⟩
theorem LP.len {imm:Imm}{raws:List Raw2}{parts:List zN}{vN vB:Value}{nl:List zE}{bl:List zP} (h:LP imm raws parts vN nl vB bl):(parts.length:Int)=(raws.length:Int):=by rw [h.2.1]
theorem LP.last {imm:Imm}{raws:List Raw2}{parts:List zN}{vN vB:Value}{nl:List zE}{bl:List zP} (h:LP imm raws parts vN nl vB bl) {x:zN} (hx:idx parts (W ((raws.length:Int) - 1))=some x) :
    x=⟨nl,bl⟩∧idx raws (W ((raws.length:Int) - 1))=some ⟨vN,vB⟩ ∧
      ∀ vN' nl' vB' bl',LP imm (raws.set (W ((raws.length:Int) - 1)).toNat ⟨vN',vB'⟩) (parts.set (W ((raws.length:Int) - 1)).toNat ⟨nl',bl'⟩) vN' nl' vB' bl':=by
  obtain ⟨h1,h2,h3⟩:=h
  have hW:W ((raws.length:Int) - 1)=(raws.length:Int) - 1:=rH (by omega) (by omega)
  rw [hW] at hx ⊢
  rcases h3 with ⟨rfl,rfl⟩ | ⟨rl,l,rfl,rfl,h4⟩
  · simp [idx] at hx
  · have hl:l.length=rl.length:=by simpa using h2.symm
    have e:(((rl ++ [(⟨vN,vB⟩:Raw2)]).length:Int) - 1).toNat=rl.length:=by simp
    have e0:(0:Int) ≤ ((rl ++ [(⟨vN,vB⟩:Raw2)]).length:Int) - 1:=by simp
    unfold idx at hx ⊢
    rw [if_pos e0,e] at hx ⊢
    rw [← hl] at hx
    refine ⟨by simpa using hx.symm,by simp,fun vN' nl' vB' bl'=>⟨?_,?_,.inr ⟨rl,l,?_,?_,h4⟩⟩⟩
    · simpa using h1
    · simpa using h2
    · rw [← hl]; simp
    · simp
theorem LP.part {imm:Imm}{raws:List Raw2}{parts:List zN}{vN vB:Value}{nl:List zE}{bl:List zP} (h:LP imm raws parts vN nl vB bl) (hN:SL imm vN nl) (hB:SL imm vB bl) {l1:List zN}
    (ha:app 48 parts [(⟨[],[]⟩:zN)]=some l1):LP imm (raws ++ [⟨.slice none 0 0,.slice none 0 0⟩]) l1 (.slice none 0 0) [] (.slice none 0 0) []:=by
  obtain ⟨hb,rfl⟩:=zBB ha
  obtain ⟨h1,h2,h3⟩:=h
  refine ⟨?_,?_,.inr ⟨raws,parts,rfl,rfl,?_⟩⟩
  · simp at hb ⊢; omega
  · simp [h2]
  · rcases h3 with ⟨rfl,rfl⟩ | ⟨rl,l,rfl,rfl,h4⟩
    · rfl
    · rw [zAa]
      exact h4.append (.single rfl (qY ⟨_,_,rfl,hN,hB⟩))
theorem zIX {α β:Type}{b:Nat}{l:List α}{m:List α}{l':List β}{m':List β}{y:List α} (h:app b l m=some y) (h1:l'.length=l.length) (h2:m'.length=m.length):app b l' m'=some (l' ++ m'):=by
  obtain ⟨k,_⟩:=zBB h;unfold app;rw [h1,h2,if_pos k]
theorem LP.done {imm:Imm}{raws:List Raw2}{parts:List zN}{vN vB:Value}{nl:List zE}{bl:List zP} (h:LP imm raws parts vN nl vB bl) (hN:SL imm vN nl) (hB:SL imm vB bl):RepL (Rp.rep imm) (Rp.sz zN) (flat raws) parts:=by
  obtain ⟨h1,h2,h3⟩:=h;rcases h3 with ⟨rfl,rfl⟩ | ⟨rl,l,rfl,rfl,h4⟩
  · rfl
  · rw [zAa];exact h4.append (.single rfl (qY ⟨_,_,rfl,hN,hB⟩))
section
variable {P:Program}{n:Nat}{B:Base}{Q:Exit→Act→World→Prop}{imm:Imm}{hs:List HA}{m:FM}{ops:List Oper}{pc d:Nat}{ty:TypeId}{pos:String}{after:Array Edge}{g:Option (Nat×Bool)}
theorem zNV {t:TypeId}{x y:Operand}{b o:Nat}{c:Array Value}{v:Value} (j:Nat) (c':List Value) (hs':List HA) (ho:ops[pc]?=some ⟨none,.store t x y,ty,pos,after,g⟩) (hj:hs[j]?=some (.blk b c)) (hx:val m x=some (.pointer (some ⟨b,o,none⟩))) (hy:val m y=some v) (hone:v.cells.toList.all Value.oneCell'=true) (next:R P n B ops Q (pc + 1) imm hs' m) (hg:guardB ops m g=some true:=by kernel_rfl) (hsz:sizeT P t=some v.cells.size:=by kernel_rfl) (hol:Nat.ble (o + v.cells.size) c.size=true:=by kernel_rfl) (hc:wr c o v.cells.toList=⟨c'⟩:=by kernel_rfl) (hh:hs.set j (.blk b ⟨c'⟩)=hs':=by rfl):R P n B ops Q pc imm hs m :=
  zFf j ho hg hj hx hy hsz hol hone hc hh next
end
end Go.LN
namespace Go.LN
open Go.RowKit
theorem Good.below {imm:Imm}{w w':World} (h:Good ⟨w,imm,[]⟩ imm [] w) (b:Below w.heap.size w w') (hd:w.drawn ≤ w'.drawn):Good ⟨w,imm,[]⟩ imm [] w':=by
  refine ⟨fun k c e=>?_,by simp,by simp,⟨b.os,b.tape,b.output,b.size,fun k hk _=>b.block k hk,fun _ _ _=>rfl,hd⟩⟩;obtain ⟨ty,fr,e'⟩:=h.inv k c e;exact ⟨ty,fr,(b.block k (h.lt_imm e)).trans e'⟩
theorem Good.cell {B:Base}{imm:Imm}{hs:List HA}{w:World} (h:Good B imm hs w) {g:Nat}{v:Value} (e:imm g=some #[v]):w.cell? ⟨g,0,none⟩=some v:=by
  obtain ⟨ty,fr,e'⟩:=h.inv _ _ e;simp only [World.cell?,e'];simp
theorem zKz {P:Program}{f:FuncId}{args:List Value}{imm:Imm}{v:Value}{post:Nat→Imm→List HA→Value→Prop}
    (h:∀ w,Good ⟨w,imm,[]⟩ imm [] w→Calls P f args.toArray w fun e w'=>e=.returned v∧Below w.heap.size w w'∧w.drawn ≤ w'.drawn) (hp:∀ k,post k imm [] v):Ret P f args imm [] post:=fun w g =>
  (h w g).mono fun e w' ⟨he,hb,hd⟩=>by
    subst he
    exact ⟨imm,[],hp _,g.below hb hd⟩
theorem At.of_blk {imm:Imm}{b:Nat}{cs:List Value} (h:imm b=some ⟨cs⟩):At imm ⟨b,0,none⟩ cs:=⟨b,0,_,rfl,h,by simp,by simp⟩
section
variable {P:Program}{n:Nat}{B:Base}{ops:List Oper}{Q:Exit→Act→World→Prop}{pc:Nat}{imm:Imm}{hs:List HA}{m:FM}{d:Nat}
  {ty:TypeId}{pos:String}{after:Array Edge}{g:Option (Nat×Bool)}
end
end Go.LN
namespace Go.LN
section
variable {P:Program}{n:Nat}{B:Base}{Q:Exit→Act→World→Prop}{imm:Imm}{hs:List HA}{m:FM}{ops:List Oper}{pc d:Nat}{ty:TypeId}{pos:String}{after:Array Edge}{g:Option (Nat×Bool)}
theorem zIY {t e:TypeId}{w:World}{p:Option Addr}{l c:Nat} (hu:P.underlying t=some (.slice e)):(Op.equal t (.slice p l c) (.slice none 0 0)).run P w=.ok p.isNone w:=by
  have h:∀ d,(Op.equalIn (d + 1) t (.slice p l c) (.slice none 0 0)).run P w=.ok p.isNone w:=fun d=>by
    rw [Op.equalIn];cases p <;> simp [yY hu]
  exact h 9999
def sliceT (P:Program) (t:TypeId):Bool:=match P.underlying t with | some (.slice _)=>true | _=>false
theorem zOU {t t2:TypeId}{x:Operand}{p:Option Addr}{l c:Nat} (b:Bool) (ho:ops[pc]?=some ⟨some d,.binOp .eql t x (.const (.slice none 0 0)) t2,ty,pos,after,g⟩) (hb:p.isNone=b)
    (next:R P n B ops Q (pc + 1) imm hs ((d,.bool b)::m)) (hx:val m x=some (.slice p l c)) (hg:guardB ops m g=some true:=by kernel_rfl) (hn:Nat.blt d n=true:=by kernel_rfl) (ht:sliceT P t=true:=by kernel_rfl):R P n B ops Q pc imm hs m:=by
  unfold sliceT at ht
  split at ht
  · rename_i e hu
    refine nS ho hg rfl hn fun a w f gd=>⟨.bool b,w,imm,hs,?_,gd,next⟩
    have hy:a.eval (.const (.slice none 0 0))=.slice none 0 0:=rfl
    simp [execOp,f.eval hx,hy,eqGuard,binOp,zIY hu,hb]
  · cases ht
end
end Go.LN
namespace Go.LN
section
variable {P:Program}{n:Nat}{B:Base}{Q:Exit→Act→World→Prop}{imm:Imm}{hs:List HA}{m:FM}
theorem zIZ {c:Code} (hs':List HA) (hp:hs'.Perm hs) (h:J P n B c Q imm hs' m):J P n B c Q imm hs m:=fun a w f g=>h a w f (g.perm hp)
theorem zLk {c:Code} (hF:False) {imm':Imm}{hs':List HA}{m':FM} (next:T n B Q .normal imm' hs' m'):J P n B c Q imm hs m:=hF.elim
theorem zOV {c:Code}{L:List HA} (x:Exit) (S:Imm→List HA→FM→Prop) (h1:∀ B':Base,J P n B' c (fun e a w=>e=x∧∃ imm' hs' m',S imm' hs' m'∧Fr n a m'∧Good B' imm' hs' w) imm hs m)
    (h2:∀ imm' hs' m',S imm' hs' m'→imm.le imm'→T n B Q x imm' (hs' ++ L) m'):J P n B c Q imm (hs ++ L) m:=fun a w f g=>by
  have hnd:=g.nodup
  rw [List.flatMap_append] at hnd
  have hg1:=g.enter (hs1:=hs) (fun A hA=>List.mem_append_left _ hA) (List.nodup_append.1 hnd).1
  refine wp_mono (h1 _ a w f hg1) fun e a' w' he=>?_
  obtain ⟨rfl,imm',hs',m',k1,k2,k3⟩:=he
  obtain ⟨k4,k5,_⟩:=g.leave k3
  exact h2 imm' hs' m' k1 k5 a' w' k2 k4
theorem zOW {B':Base}{x:Exit}{S:Imm→List HA→FM→Prop} (h:S imm hs m):T n B' (fun e a w=>e=x∧∃ imm' hs' m',S imm' hs' m'∧Fr n a m'∧Good B' imm' hs' w) x imm hs m:=fun _ _ f g=>⟨rfl,imm,hs,m,h,f,g⟩
end
structure NL where
  pl:Option Addr
  lo:List zA
  cl:Nat
  csl:List Value
  ph:Option Addr
  hi:List zA
  ch:Nat
  csh:List Value
def NL.vl (x:NL):Value:=vS x.pl x.lo x.cl
def NL.vh (x:NL):Value:=vS x.ph x.hi x.ch
def NL.ha (x:NL):List HA:=[hO zA x.vh x.csh,hO zA x.vl x.csl]
def NL.raw (x:NL):Raw2:=⟨x.vl,x.vh⟩
def NL.d (x:NL):zE:=⟨x.lo,x.hi⟩
def NL.ok (imm:Imm) (x:NL):Prop:=RL imm x.csl x.lo∧RL imm x.csh x.hi
def NL.fz (imm:Imm) (x:NL):Prop:=SL imm x.vl x.lo∧SL imm x.vh x.hi
theorem NL.ok.mono {i j:Imm} (h:i.le j) {x:NL} (hx:x.ok i):x.ok j:=⟨RepL.mono (fun _ _=>Rp.mono h) hx.1,RepL.mono (fun _ _=>Rp.mono h) hx.2⟩
theorem NL.fz.mono {i j:Imm} (h:i.le j) {x:NL} (hx:x.fz i):x.fz j:=⟨hx.1.mono h,hx.2.mono h⟩
abbrev NLs (xs:List NL):List HA:=xs.flatMap NL.ha
theorem zLl {xs:List NL}{k:Nat}{x:NL} (h:xs[k]?=some x):∃ ys,(NLs xs).Perm (x.ha ++ NLs ys)∧(∀ y ∈ ys,y ∈ xs)∧∀ i:Nat,∀ y,i ≠ k→xs[i]?=some y→y ∈ ys:=by
  obtain ⟨hk,rfl⟩:=List.getElem?_eq_some_iff.1 h;refine ⟨xs.eraseIdx k,?_,fun y hy=>List.mem_of_mem_eraseIdx hy,fun i y hi hy=>List.mem_eraseIdx_iff_getElem?.2 ⟨i,hi,hy⟩⟩;have:=(kE h).flatMap_right NL.ha;simpa [NLs] using this
section
variable {P:Program}{n:Nat}{B:Base}{Q:Exit→Act→World→Prop}{hs:List HA}{m:FM}
theorem zBC {c:Code}:∀ (xs:List NL) {imm:Imm},(∀ x ∈ xs,x.ok imm)→(∀ imm',imm.le imm'→(∀ x ∈ xs,x.fz imm')→J P n B c Q imm' hs m)→J P n B c Q imm (NLs xs ++ hs) m
  | [],imm,_,h=>h imm (Imm.le.refl _) (fun _ h=>by cases h)
  | x::xs,imm,hx,h=>by
    have h1:=hx x (List.mem_cons_self ..)
    show J P n B c Q imm (hO zA x.vh x.csh::hO zA x.vl x.csl::(NLs xs ++ hs)) m
    refine pU 0 rfl ?_
    intro imm1 le1 hl1
    have k1:=SL.of_frozen hl1 le1 h1.2
    refine pU 0 rfl ?_
    intro imm2 le2 hl2
    have k2:=SL.of_frozen hl2 le2 (RepL.mono (fun _ _=>Rp.mono le1) h1.1)
    refine zBC xs (fun y hy=>(hx y (List.mem_cons_of_mem _ hy)).mono (le1.trans le2)) ?_
    intro imm3 le3 h3
    refine h imm3 ((le1.trans le2).trans le3) fun y hy=>?_
    rcases List.mem_cons.1 hy with rfl | hy
    · exact ⟨k2.mono le3,(k1.mono le2).mono le3⟩
    · exact h3 y hy
end
theorem zGV {α β:Type}{f:α→β}{l:List α}{i:Int}{y:β} (h:idx (l.map f) i=some y):∃ x,idx l i=some x∧y=f x:=by
  obtain ⟨h0,h1,h2⟩:=rZ h;rw [List.getElem?_map,Option.map_eq_some_iff] at h2;obtain ⟨x,h3,rfl⟩:=h2;exact ⟨x,by unfold idx; rw [if_pos h0,h3],rfl⟩
theorem zB5 {α β:Type}{f:α→β}{l:List α}{i:Int}{x:α} (h:idx l i=some x):idx (l.map f) i=some (f x):=by
  obtain ⟨h0,h1,h2⟩:=rZ h;unfold idx; rw [if_pos h0,List.getElem?_map,h2]; rfl
section
variable {P:Program}{n:Nat}{B:Base}{Q:Exit→Act→World→Prop}{hs:List HA}{m:FM}{imm:Imm}
theorem zLm {c:Code}{xs:List NL}{i:Int}{x:NL} (hx:idx xs i=some x) (hxs:∀ x ∈ xs,x.ok imm) (h:∀ imm',imm.le imm'→(∀ (j:Nat) y,j ≠ i.toNat→xs[j]?=some y→y.fz imm')→J P n B c Q imm' (hO zA x.vh x.csh::hO zA x.vl x.csl::hs) m):J P n B c Q imm (NLs xs ++ hs) m:=by
  obtain ⟨h0,h1,h2⟩:=rZ hx;obtain ⟨ys,k1,k2,k3⟩:=zLl h2;refine zIZ (NLs ys ++ (x.ha ++ hs)) ?_ ?_
  · rw [← List.append_assoc];exact (List.perm_append_comm.trans k1.symm).append_right hs
  · refine zBC ys (fun y hy=>hxs y (k2 y hy)) ?_;intro imm1 le1 hf;exact h imm1 le1 fun j y hj hy=>hf y (k3 j y hj hy)
end
def PW (imm:Imm) (raws:List Raw2) (nest:List zE):Prop:=raws.length=nest.length∧∀ (j:Nat) r d,raws[j]?=some r→nest[j]?=some d→SL imm r.a d.Lo∧SL imm r.b d.Hi
theorem PW.rl {imm:Imm}:∀ {raws:List Raw2}{nest:List zE},PW imm raws nest→RL imm (flat raws) nest
  | [],[],_=>rfl
  | [],_::_,h=>by cases h.1
  | _::_,[],h=>by cases h.1
  | r::raws,d::nest,h=>⟨[r.a,r.b],flat raws,rfl,rfl,qB ⟨_,_,rfl,h.2 0 r d rfl rfl⟩,PW.rl ⟨by have:=h.1; simpa using this,fun j r' d' h1 h2=>h.2 (j + 1) r' d' (by simpa using h1) (by simpa using h2)⟩⟩
theorem zI0 {imm:Imm}{xs:List NL}{k:Nat}{r:Raw2}{d:zE} (hfz:∀ (j:Nat) y,j ≠ k→xs[j]?=some y→y.fz imm) (hr:SL imm r.a d.Lo∧SL imm r.b d.Hi):PW imm ((xs.map NL.raw).set k r) ((xs.map NL.d).set k d):=by
  refine ⟨by simp,fun j r' d' h1 h2=>?_⟩;by_cases hj:j=k
  · subst hj;rw [List.getElem?_set_self' ] at h1 h2;cases hx:xs[j]? with
    | none=>simp [hx] at h1
    | some y =>
      simp [hx] at h1 h2;subst h1; subst h2;exact hr
  · rw [List.getElem?_set_ne (fun e=>hj e.symm),List.getElem?_map,Option.map_eq_some_iff] at h1 h2;obtain ⟨y,h3,rfl⟩:=h1;obtain ⟨y',h4,rfl⟩:=h2;rw [h3] at h4;cases h4
    exact hfz j y hj h3
theorem NL.shut {imm:Imm}{x:NL} (h:x.fz imm):Rp.rep imm [x.vl,x.vh] x.d:=qB ⟨_,_,rfl,h.1,h.2⟩
theorem zGj {imm:Imm}:∀ {xs:List NL},(∀ x ∈ xs,x.fz imm)→RL imm (flat (xs.map NL.raw)) (xs.map NL.d)
  | [],_=>rfl
  | x::xs,h=>⟨[x.vl,x.vh],flat (xs.map NL.raw),rfl,rfl,NL.shut (h x (List.mem_cons_self ..)),zGj fun y hy=>h y (List.mem_cons_of_mem _ hy)⟩
theorem LP.push {imm:Imm}{raws:List Raw2}{parts:List zN}{vN vB vN' vB':Value}{nl nl':List zE}{bl bl':List zP} (h:LP imm raws parts vN nl vB bl) (hN:SL imm vN nl) (hB:SL imm vB bl) {l1:List zN}
    (ha:app 48 parts [(⟨nl',bl'⟩:zN)]=some l1):LP imm (raws ++ [⟨vN',vB'⟩]) l1 vN' nl' vB' bl':=by
  obtain ⟨hb,rfl⟩:=zBB ha
  obtain ⟨h1,h2,h3⟩:=h
  refine ⟨?_,?_,.inr ⟨raws,parts,rfl,rfl,?_⟩⟩
  · simp at hb ⊢; omega
  · simp [h2]
  · rcases h3 with ⟨rfl,rfl⟩ | ⟨rl,l,rfl,rfl,h4⟩
    · rfl
    · rw [zAa]
      exact h4.append (.single rfl (qY ⟨_,_,rfl,hN,hB⟩))
theorem LP.nil {imm:Imm}:LP imm [] [] (.slice none 0 0) [] (.slice none 0 0) []:=⟨by decide,rfl,.inl ⟨rfl,rfl⟩⟩
end Go.LN
namespace Go.LN
section
variable {P:Program}{n:Nat}{B:Base}{Q:Exit→Act→World→Prop}{imm:Imm}{hs:List HA}{m:FM}{ops:List Oper}{pc d:Nat}{ty:TypeId}{pos:String}{after:Array Edge}{g:Option (Nat×Bool)}
end
end Go.LN
namespace Go.LN
def clrL {α:Type} (l:List α) (i:Int) (z:α):Option (List α):=if 0 ≤ i∧i ≤ (l.length:Int) then some (l.take i.toNat ++ List.replicate (l.length - i.toNat) z) else none
theorem zLA {zc:List Value} (hz:0 < zc.length) (n:Nat):(Builtin.zeroCells ⟨zc⟩ (n + 1)).toList=zc ++ (Builtin.zeroCells ⟨zc⟩ n).toList:=by
  have e:∀ k,(Builtin.zeroCells ⟨zc⟩ k).toList=(List.range (k * zc.length)).map fun i=>zc[i % zc.length]!:=fun k=>by
    unfold Builtin.zeroCells;simp [List.size_toArray]
  rw [e,e];refine List.ext_getElem (by simp [Nat.succ_mul]; omega) fun i h1 h2=>?_;rw [List.getElem_map,List.getElem_range];by_cases hi:i < zc.length
  · rw [List.getElem_append_left hi,Nat.mod_eq_of_lt hi,getElem!_pos zc i hi]
  · rw [List.getElem_append_right (by omega),List.getElem_map,List.getElem_range,Nat.mod_eq_sub_mod (by omega)]
theorem zJD {α:Type} [Rp α] {imm:Imm}{zc:List Value}{z:α} (h:Rp.rep imm zc z):∀ n,RL imm (Builtin.zeroCells ⟨zc⟩ n).toList (List.replicate n z)
  | 0=>by
    have:(Builtin.zeroCells ⟨zc⟩ 0).toList=[]:=by unfold Builtin.zeroCells; simp
    rw [this]; exact RepL.nil
  | n + 1=>by
    have hl:zc.length=Rp.sz α:=Rp.len h
    have hp:=Rp.pos (α:=α)
    rw [zLA (by omega),List.replicate_succ]
    exact RepL.append (RepL.single hl h) (zJD h n)
section
variable {P:Program}{n:Nat}{B:Base}{ops:List Oper}{Q:Exit→Act→World→Prop}{pc:Nat}{imm:Imm}{hs:List HA}{m:FM}{d:Nat}
def clrT (P:Program) (t:TypeId):Option (Nat×Array Value):=match P.underlying t with
  | some (.slice e)=>match sizeT P e,zeroC P e with
    | some s,some z=>some (s,z)
    | _,_=>none
  | _=>none
theorem zOX {o:Oper} (ho:ops[pc]?=some o) (hg:guardB ops m o.guard=some true) (hd:o.dst=none)
    (h:∀ a w,Fr n a m→Good B imm hs w→∃ v w' imm' hs',(execOp a.eval o).run P w=.ok (.value v) w'∧Good B imm' hs' w'∧R P n B ops Q (pc + 1) imm' hs' m):R P n B ops Q pc imm hs m :=
  zG2 ho hg fun a w f g=>by
    obtain ⟨v,w',imm',hs',h1,h2,h3⟩:=h a w f g
    unfold Oper.wp
    rw [h1]
    simp only [Oper.upon,hd]
    exact h3 _ w' f h2
theorem zOY {α:Type} [Rp α] {t:TypeId}{x:Operand}{lo:Option Operand}{ty ty2:TypeId}{pos pos2:String}{after after2:Array Edge}{v:Value}{i:Int}{cs:List Value}{l y:List α} (z:α) (zc:List Value) (j:Nat)
    (ho:ops[pc]?=some ⟨some d,.slice t x lo none none,ty,pos,after,none⟩) (ho2:ops[pc + 1]?=some ⟨none,.call { callee:=.builtin .clear,args:=#[.tmp d],argTypes:=#[t] },ty2,pos2,after2,none⟩)
    (hj:hs[j]?=some (.osl v (Rp.sz α) cs)) (hlo:bnd m 0 lo=some i) (hr:RL imm cs l) (hy:clrL l i z=some y) (hzr:Rp.rep imm zc z)
    (next:∀ cs' v',RL imm cs' y→y.length=l.length→R P n B ops Q (pc + 2) imm (hs.set j (.osl v (Rp.sz α) cs')) ((d,v')::m))
    (hn:Nat.blt d n=true:=by kernel_rfl) (hx:val m x=some v:=by kernel_rfl) (ht:clrT P t=some (Rp.sz α,⟨zc⟩):=by kernel_rfl):R P n B ops Q pc imm hs m:=by
  unfold clrL at hy
  split at hy
  · rename_i hb
    cases hy
    have hlen:=hr.length
    have hzp:=Rp.pos (α:=α)
    have hzl:zc.length=Rp.sz α:=Rp.len hzr
    have hone:=Rp.one hzr
    obtain ⟨e,hu,hse,hz⟩:∃ e,P.underlying t=some (.slice e)∧sizeT P e=some (Rp.sz α)∧zeroC P e=some ⟨zc⟩:=by
      unfold clrT at ht
      split at ht
      · rename_i e hq
        split at ht
        · rename_i s zz h1 h2
          injection ht with ht
          injection ht with h3 h4
          subst h3; subst h4
          exact ⟨e,hq,h1,h2⟩
        · cases ht
      · cases ht
    obtain ⟨zv,hzv,hzc⟩:∃ zv,(∀ w,(zeroValue e).run P w=.ok zv w)∧zv.cells=⟨zc⟩:=by
      have hz':=hz
      unfold zeroC at hz'
      cases hi:P.info? e with
      | none=>rw [hi] at hz'; cases hz'
      | some q =>
        rw [hi] at hz'
        simp only [Option.bind_some] at hz'
        cases hq:q.zero with
        | none=>rw [hq] at hz'; cases hz'
        | some zv =>
          rw [hq] at hz'
          simp only [Option.map_some,Option.some.injEq] at hz'
          exact ⟨zv,fun w=>by simp [zeroValue,typeInfo,hi,hq],hz'⟩
    have hzr2:=zJD hzr (l.length - i.toNat)
    have hrt:=(hr.take i.toNat).append hzr2
    refine nS ho rfl rfl hn fun a w f gd=>?_
    have step:∀ (ad:Option Addr) (cap:Nat),v=.slice ad l.length cap→l.length ≤ cap →
        ∃ v' w' imm' hs',(execOp a.eval ⟨some d,.slice t x lo none none,ty,pos,after,none⟩).run P w=.ok (.value v') w'∧Good B imm' hs' w'∧R P n B ops Q (pc + 1) imm' hs' ((d,v')::m):=by
      intro ad cap hv hlc
      subst hv
      have hbd:=fQ (P:=P) (w:=w) (hi:=none) (k:=(l.length:Int)) f hlo rfl hb.1 hb.2 (Int.le_refl _) hlc
      refine ⟨.slice (if cap=i.toNat then ad else ad.map (·.add (i.toNat * Rp.sz α))) (l.length - i.toNat) (cap - i.toNat),w,imm,hs,?_,gd,?_⟩
      · rw [Int.toNat_natCast,Option.map_none] at hbd
        simp only [execOp,f.eval hx,Option.map_none,Instr.sliceAt,Instr.slice,Sem.run_bind,yY hu,Result.andThen_ok,hbd,qK hse,Sem.run_pure]
      · refine zOX ho2 rfl rfl fun a2 w2 f2 gd2=>?_
        have hv2:a2.eval (.tmp d)=.slice (if cap=i.toNat then ad else ad.map (·.add (i.toNat * Rp.sz α))) (l.length - i.toNat) (cap - i.toNat):=f2.eval (by simp [val,look])
        by_cases h0:l.length - i.toNat=0
        · have hil:i.toNat=l.length:=by omega
          have hcs:(cs.take (i.toNat * Rp.sz α)) ++ (Builtin.zeroCells ⟨zc⟩ (l.length - i.toNat)).toList=cs:=by
            rw [h0,hil,← hlen]
            have:(Builtin.zeroCells ⟨zc⟩ 0).toList=[]:=by unfold Builtin.zeroCells; simp
            rw [this]; simp
          rw [hcs] at hrt
          have hN:=next cs (.slice (if cap=i.toNat then ad else ad.map (·.add (i.toNat * Rp.sz α))) (l.length - i.toNat) (cap - i.toNat)) hrt (by simp; omega)
          have hjl:=(List.getElem?_eq_some_iff.1 hj)
          rw [show hs.set j (.osl (.slice ad l.length cap) (Rp.sz α) cs)=hs from by
            obtain ⟨h1,h2⟩:=hjl
            rw [← h2]; exact List.set_getElem_self h1] at hN
          refine ⟨.tuple #[],w2,imm,hs,?_,gd2,hN⟩
          simp only [execOp,resolve,List.map_toArray,List.map_cons,List.map_nil,hv2,Sem.run_bind,Sem.run_pure,Result.andThen_ok,invoke,builtin,Builtin.clear_,List.getElem?_toArray,List.getElem?_cons_zero,yY hu,h0]
          generalize (if cap=i.toNat then ad else Option.map (fun x=>x.add (i.toNat * Rp.sz α)) ad)=q
          cases q <;> simp
        · have hic:cap ≠ i.toNat:=by omega
          rcases gd2.own _ (tM hj) with ⟨e1,_⟩ | ⟨b,off,len,cap2,all,ty',e1,hp1,hp2,hw,hcap,hlc2,hcl,hcs,hcM⟩
          · injection e1 with e1 e2 e3
            omega
          · injection e1 with e1 e2 e3
            subst e1; subst e2; subst e3
            have hmul:∀ {p q:Nat},p ≤ q→p * Rp.sz α ≤ q * Rp.sz α:=fun h=>Nat.mul_le_mul_right _ h
            have m1:=hmul (show i.toNat ≤ l.length by omega)
            have m2:=hmul hlc2
            have hzl2:(Builtin.zeroCells ⟨zc⟩ (l.length - i.toNat)).toList.length=l.length * Rp.sz α - i.toNat * Rp.sz α:=by
              rw [Array.length_toList,zCJ]
              show (l.length - i.toNat) * zc.length=_
              rw [hzl,Nat.sub_mul]
            have hone2:=RepL.one (fun c a h=>Rp.one h) hzr2
            have hblt:b < w2.heap.size:=((gd2.own _ (tM hj)).lt (by simp [HA.fp])).1
            have hst:=fY (P:=P) (off:=off + i.toNat * Rp.sz α) (Builtin.zeroCells ⟨zc⟩ (l.length - i.toNat)).toList 0 all w2 hw hone2 (by rw [hzl2]; omega)
            have hcd:cs.drop (i.toNat * Rp.sz α + (Builtin.zeroCells ⟨zc⟩ (l.length - i.toNat)).toList.length)=[]:=List.drop_eq_nil_iff.2 (by rw [hzl2]; omega)
            have hN:=next _ (.slice (if cap=i.toNat then some ⟨b,off,none⟩ else (some (⟨b,off,none⟩:Addr)).map (·.add (i.toNat * Rp.sz α))) (l.length - i.toNat) (cap - i.toNat)) hrt (by simp; omega)
            refine ⟨.tuple #[],setBlk w2 b (.cells (wr all (off + i.toNat * Rp.sz α + 0) (Builtin.zeroCells ⟨zc⟩ (l.length - i.toNat)).toList) ty' (0,0)),imm,_,?_,?_,hN⟩
            · obtain ⟨q,hq⟩:∃ q,l.length - i.toNat=q + 1:=⟨l.length - i.toNat - 1,by omega⟩
              rw [hq] at hv2 hst ⊢
              simp only [execOp,resolve,List.map_toArray,List.map_cons,List.map_nil,hv2,if_neg hic,Option.map_some,mL,Sem.run_bind,Sem.run_pure,Result.andThen_ok,invoke,builtin,Builtin.clear_,List.getElem?_toArray,List.getElem?_cons_zero,yY hu,hzv,hzc,hst]
            · refine gd2.write_at hj (by simp [HA.fp]) (by simp [HA.fp]) _ (.inr ⟨b,off,l.length,cap,_,ty',rfl,hp1,hp2,fU hblt,by rw [zIR]; exact hcap,hlc2,?_,?_,hcM⟩)
              · rw [List.length_append,List.length_take,hzl2]; omega
              · rw [zEs _ _ _ (by rw [hzl2]; omega),← hcs]
                have:=zFg all.toList (Builtin.zeroCells ⟨zc⟩ (l.length - i.toNat)).toList off (l.length * Rp.sz α) (i.toNat * Rp.sz α) (by rw [hzl2]; omega) (by simp; omega)
                rw [hcs,hcd,List.append_nil] at this
                rw [Nat.add_zero,this,hcs]
    rcases gd.own _ (tM hj) with ⟨rfl,rfl⟩ | ⟨b,off,len,cap,all,ty',rfl,hp1,hp2,hw,hcap,hlc,hcl,hcs,hcM⟩
    · have hl0:l.length=0:=by
        have:l.length * Rp.sz α=0:=by rw [← hlen]; rfl
        rcases Nat.mul_eq_zero.1 this with h | h <;> omega
      exact step none 0 (by rw [hl0]) (by omega)
    · have hll:len=l.length:=pX hzp (by omega)
      subst hll
      exact step _ cap rfl hlc
  · cases hy
end
end Go.LN
namespace Go.LN
open Go.Sort Go.Proofs
def cmpL:List Int→List Int→Int
  | [],[]=>0
  | [],_::_=>-1
  | _::_,[]=>1
  | a::s,b::t=>if a < b then -1 else if b < a then 1 else cmpL s t
theorem zII:∀ a:List Int,cmpL a a=0
  | []=>rfl
  | a::s=>by rw [cmpL,if_neg (Int.lt_irrefl a),if_neg (Int.lt_irrefl a),zII s]
theorem zBD:∀ a b:List Int,cmpL b a=- cmpL a b
  | [],[]=>rfl
  | [],_::_=>rfl
  | _::_,[]=>rfl
  | a::s,b::t=>by
    rw [cmpL,cmpL]
    by_cases h1:a < b
    · rw [if_pos h1,if_neg (by omega),if_pos h1]; rfl
    · by_cases h2:b < a
      · rw [if_pos h2,if_neg h1,if_pos h2]
      · rw [if_neg h1,if_neg h2,if_neg h2,if_neg h1,zBD s t]
theorem zI1:∀ a b:List Int,cmpL a b=0→a=b
  | [],[],_=>rfl
  | [],_::_,h=>by simp [cmpL] at h
  | _::_,[],h=>by simp [cmpL] at h
  | a::s,b::t,h=>by
    rw [cmpL] at h
    split at h
    · cases h
    · split at h
      · cases h
      · rw [zI1 s t h,show a=b by omega]
theorem zDU:∀ a b c:List Int,cmpL a b < 0→cmpL b c < 0→cmpL a c < 0
  | [],[],c,h,_=>by simp [cmpL] at h
  | [],_::_,[],_,h=>by simp [cmpL] at h
  | [],_::_,_::_,_,_=>by simp [cmpL]
  | _::_,[],_,h,_=>by simp [cmpL] at h
  | _::_,_::_,[],_,h=>by simp [cmpL] at h
  | a::s,b::t,c::u,h1,h2=>by
    rw [cmpL] at h1 h2 ⊢
    by_cases k1:a < b
    · by_cases k2:b < c
      · rw [if_pos (by omega)]; decide
      · rw [if_neg k2] at h2
        by_cases k3:c < b
        · rw [if_pos k3] at h2; cases h2
        · rw [if_pos (by omega)]; decide
    · rw [if_neg k1] at h1
      by_cases k2:b < a
      · rw [if_pos k2] at h1; cases h1
      · rw [if_neg k2] at h1
        by_cases k3:b < c
        · rw [if_pos (by omega)]; decide
        · rw [if_neg k3] at h2
          by_cases k4:c < b
          · rw [if_pos k4] at h2; cases h2
          · rw [if_neg k4] at h2
            rw [if_neg (by omega),if_neg (by omega)]
            exact zDU s t u h1 h2
def ltL (a b:List Int):Bool:=decide (cmpL a b < 0)
theorem swoL:SWO ltL where
  irrefl x:=by unfold ltL; rw [zII]; rfl
  trans x y z h1 h2:=by
    unfold ltL at *
    simp only [decide_eq_true_eq] at *
    exact zDU x y z h1 h2
  ntrans x y z h1 h2:=by
    unfold ltL at *
    simp only [decide_eq_false_iff_not,Int.not_lt] at *
    have a1:=zBD x y
    have a2:=zBD y z
    have a3:=zBD x z
    by_cases h:cmpL x z < 0
    · exfalso
      by_cases h3:0 < cmpL y z
      · have:=zDU x z y h (by omega)
        omega
      · have e:y=z:=zI1 y z (by omega)
        subst e
        omega
    · omega
theorem zLn (x y:List Int) (h1:ltL x y=false) (h2:ltL y x=false):x=y:=by
  unfold ltL at *;simp only [decide_eq_false_iff_not,Int.not_lt] at *;have:=zBD x y;exact zI1 x y (by omega)
def srtL (x:List (List Int)):List (List Int):=x.mergeSort fun a b=>!ltL b a
structure Lrow (imm:Imm) where
  v:Value
  l:List Int
  h:SL imm v l
  hb:l.length < 4611686018427387904
instance {imm:Imm}:Inhabited (Lrow imm):=⟨⟨.slice none 0 0,[],SL.nil _,by decide⟩⟩
def cfR {imm:Imm} (x y:Lrow imm):Int:=cmpL x.l y.l
theorem swoR {imm:Imm}:SWO (ltOf (cfR (imm:=imm))) where
  irrefl x:=swoL.irrefl x.l
  trans x y z h1 h2:=swoL.trans x.l y.l z.l h1 h2
  ntrans x y z h1 h2:=swoL.ntrans x.l y.l z.l h1 h2
theorem zK4 {imm:Imm}:∀ {s:List (List Int)}{cs:List Value},RL imm cs s→(∀ l ∈ s,l.length < 4611686018427387904)→∃ ds:List (Lrow imm),ds.map (·.v)=cs∧ds.map (·.l)=s
  | [],cs,h,_=>⟨[],by have h:cs=[]:=h; rw [h]; rfl,rfl⟩
  | l::s,cs,⟨c1,c2,h1,_,h3,h4⟩,hb=>by
    obtain ⟨v,e,hv⟩:=h3
    obtain ⟨ds,e1,e2⟩:=zK4 h4 fun l hl=>hb l (List.mem_cons_of_mem _ hl)
    exact ⟨⟨v,l,hv,hb l (List.mem_cons_self ..)⟩::ds,by rw [h1,e,← e1]; rfl,by show l::ds.map (·.l)=_; rw [e2]⟩
theorem zK5 {imm:Imm}:∀ ds:List (Lrow imm),RL imm (ds.map (·.v)) (ds.map (·.l))
  | []=>rfl
  | d::ds=>⟨[d.v],ds.map (·.v),rfl,rfl,⟨d.v,rfl,d.h⟩,zK5 ds⟩
theorem oneR {imm:Imm}:OneCell fun x:Lrow imm=>x.v:=fun x=>by
  obtain ⟨ccs,hs,_⟩:=x.h;rcases hs with ⟨e,_⟩ | ⟨b,off,len,cap,c,e,_⟩
  · show x.v.oneCell'=true;rw [e]; rfl
  · show x.v.oneCell'=true;rw [e]; rfl
theorem zDz {imm:Imm} (d:Array (Lrow imm)) (i:Nat):((d.map (·.l))[i]!)=(d[i]!).l:=by
  by_cases h:i < d.size
  · rw [getElem!_pos d i h,getElem!_pos _ i (by simpa using h)]; simp
  · rw [getElem!_neg d i h,getElem!_neg _ i (by simpa using h)]; rfl
theorem zNf {imm:Imm}{d d':Array (Lrow imm)} (hp:PermIn 0 d.size d d') (hs:SortedIn (ltOf cfR) 0 d.size d'):d'.toList.map (·.l)=srtL (d.toList.map (·.l)):=by
  obtain ⟨h1,h2,h3⟩:=hp;have hP:PermIn 0 (d.map (·.l)).size (d.map (·.l)) (d'.map (·.l)):=by
    refine ⟨by simp [h1],fun i hi=>?_,?_⟩
    · rw [zDz,zDz];rw [Array.size_map] at hi;rw [h2 i hi]
    · have e1:d'.extract 0 d.size=d':=by rw [← h1]; simp
      have e2:d.extract 0 d.size=d:=by simp
      rw [e1,e2] at h3;have e3:(d'.map (·.l)).extract 0 (d.map (·.l)).size=d'.map (·.l):=by
        rw [Array.size_map,← h1,← Array.size_map (f:=fun x:Lrow imm=>x.l) (xs:=d')]; simp
      have e4:(d.map (·.l)).extract 0 (d.map (·.l)).size=d.map (·.l):=by simp
      rw [e3,e4,Array.toList_map,Array.toList_map];exact h3.map _
  have hS:SortedIn ltL 0 (d.map (·.l)).size (d'.map (·.l)):=fun i j h0 hij hj=>by
    rw [zDz,zDz];rw [Array.size_map] at hj;exact hs i j h0 hij hj
  have:=sorted_unique_holds swoL zLn (d.map (·.l)) (d'.map (·.l)) hP hS;rw [Array.toList_map,Array.toList_map] at this;exact this
theorem zLo {imm imm':Imm}{w w':World}{hs:List HA} (g:Good ⟨w,imm,[]⟩ imm' hs w'):∃ q os,w'=Sort.grow (w.drewN q) os:=by
  refine ⟨w'.drawn - w.drawn,w'.heap.extract w.heap.size w'.heap.size,?_⟩;have h1:=g.frm.drawn;have h2:=g.frm.size;have h3:w'.heap=w.heap ++ w'.heap.extract w.heap.size w'.heap.size:=by
    apply Array.ext_getElem?;intro k;rcases Nat.lt_or_ge k w.heap.size with hk | hk
    · rw [Array.getElem?_append_left hk];exact g.frm.heap k hk (by simp)
    · rw [Array.getElem?_append_right hk,Array.getElem?_extract];split
      · congr 1; omega
      · rw [Array.getElem?_eq_none (by omega)]
  have h4:=g.frm.os;have h5:=g.frm.tape;have h6:=g.frm.output;cases w' with
  | mk heap tape drawn os output =>
    dsimp only at *;unfold Sort.grow World.drewN;have h7:drawn=w.drawn + (drawn - w.drawn):=by omega
    rw [← h7,← h3,h4,h5,h6]
theorem zKB {imm:Imm}{w:World} (h:∀ b c,imm b=some c→∃ ty fr,w.heap[b]?=some (.cells c ty fr)):Good ⟨w,imm,[]⟩ imm [] w :=
  ⟨h,by simp,by simp,⟨rfl,rfl,rfl,Nat.le_refl _,fun _ _ _=>rfl,fun _ _ _=>rfl,Nat.le_refl _⟩⟩
theorem zJE {w:World}{b k:Nat}{f:Array Value→Array Value} (h:b ≠ k):(Sort.mapBlock w b f).heap[k]?=w.heap[k]?:=by
  unfold Sort.mapBlock;rw [Array.getElem?_modify,if_neg h]
theorem zLp {P:Program}{g:FuncId}{imm:Imm}{b off n:Nat}{w:World} (hr:∀ x y:Lrow imm,Ret P g [x.v,y.v] imm [] fun _ _ hs' u=>hs'=[]∧u=.int .i64 (cmpL x.l y.l))
    (hi:∀ b c,imm b=some c→∃ ty fr,w.heap[b]?=some (.cells c ty fr)) (hb:imm b=none):CmpLays1 P g #[] (fun x:Lrow imm=>x.v) cfR b off n w:=fun m os dk _ x y=>by
  have hW:∀ b' c,imm b'=some c→∃ ty fr,(sortWorld (fun x:Lrow imm=>x.v) w b off m dk os).heap[b']?=some (.cells c ty fr):=fun b' c e=>by
    obtain ⟨ty,fr,e'⟩:=hi b' c e
    refine ⟨ty,fr,?_⟩
    have hne:b ≠ b':=by rintro rfl; rw [hb] at e; cases e
    have hlt:b' < w.heap.size:=by
      rcases Nat.lt_or_ge b' w.heap.size with h | h
      · exact h
      · rw [Array.getElem?_eq_none h] at e'; cases e'
    have e2:(Sort.putRow (fun x:Lrow imm=>x.v) (Sort.ahead w m) b off dk).heap[b']?=some (.cells c ty fr):=by
      unfold Sort.putRow
      rw [zJE hne]; exact e'
    unfold sortWorld Sort.grow
    show (_ ++ os)[b']?=_
    rw [Array.getElem?_append_left (by rw [Sort.size_putRow]; exact hlt)]
    exact e2
  have h:=hr x y _ (zKB hW)
  rw [show (#[x.v,y.v] ++ #[]:Array Value)=([x.v,y.v]:List Value).toArray by simp]
  refine h.mono fun e w' he=>?_
  cases e with
  | returned u =>
    obtain ⟨i,hs',⟨rfl,rfl⟩,g'⟩:=he
    exact ⟨rfl,zLo g'⟩
  | panicked c=>exact he.elim
  | outgrown=>exact he.elim
theorem zLq {P:Program}{f g:FuncId}{imm:Imm}
    (hc:∀ (blk off cap:Nat) (d:Array (Lrow imm)) (w:World),CmpLays1 P g #[] (fun x:Lrow imm=>x.v) cfR blk off d.size w→Sort.Holds (fun x:Lrow imm=>x.v) w blk off d→blk < w.heap.size→d.size < 4611686018427387904 →
      Calls P f #[.slice (some ⟨blk,off,none⟩) d.size cap,.func (.func g) #[] #[]] w fun e w'=>e=.returned (.tuple #[])∧∃ d' n os,PermIn 0 d.size d d'∧SortedIn (ltOf cfR) 0 d.size d'∧w'=sortWorld (fun x:Lrow imm=>x.v) w blk off n d' os)
    (hn:∀ w:World,Calls P f #[.slice none 0 0,.func (.func g) #[] #[]] w fun e w'=>e=.returned (.tuple #[])∧∃ n os,w'=Sort.grow (w.drewN n) os)
    (hr:∀ x y:Lrow imm,Ret P g [x.v,y.v] imm [] fun _ _ hs' u=>hs'=[]∧u=.int .i64 (cmpL x.l y.l))
    {s:List (List Int)} (hs:s.length < 4611686018427387904) (hsb:∀ l ∈ s,l.length < 4611686018427387904) {p:Option Addr}{c:Nat}{cs:List Value} (h:RL imm cs s) {post:Nat→Imm→List HA→Value→Prop}
    (hp:∀ k cs',RL imm cs' (srtL s)→post k imm [hO (List Int) (vS p (srtL s) c) cs'] (tupV [])) :
    Ret P f [vS p s c,.func (.func g) #[] #[]] imm [hO (List Int) (vS p s c) cs] post:=by
  intro w gd
  obtain ⟨ds,e1,e2⟩:=zK4 h hsb
  have hl:ds.length=s.length:=by rw [← e2,List.length_map]
  have hsl:(srtL s).length=s.length:=List.length_mergeSort s
  rcases gd.own _ (List.mem_cons_self ..) with ⟨e,ecs⟩ | ⟨b,off,len,cap,all,ty,e,h1,h2,hw,hcap,hlc,hcl,hal,hM⟩
  · injection e with k1 k2 k3
    have hs0:s=[]:=List.length_eq_zero_iff.1 k2
    subst hs0; subst k1; subst k3; subst ecs
    refine (hn w).mono fun e w' ⟨he,n,os,hw'⟩=>?_
    subst he; subst hw'
    have e0:srtL []=[]:=by simp [srtL]
    rw [e0] at hp
    exact ⟨imm,_,hp _ [] RepL.nil,gd.grow n os⟩
  · injection e with k1 k2 k3
    subst k1; subst k2; subst k3
    simp only [show Rp.sz (List Int)=1 from rfl,Nat.mul_one] at hcap hcl hal
    have hcell:∀ q,q < s.length→all[off + q]?=some (ds.toArray[q]!).v:=by
      intro q hq
      have hq':q < ds.length:=by omega
      have h0:cs[q]?=some (ds.toArray[q]!).v:=by
        rw [← e1,List.getElem?_map,List.getElem?_eq_getElem hq',Option.map_some,getElem!_pos ds.toArray q (by simpa using hq')]
        simp
      rw [← hal,List.getElem?_take,if_pos hq,List.getElem?_drop,Array.getElem?_toList] at h0
      exact h0
    have hsz0:ds.toArray.size=s.length:=by simpa using hl
    have hH:Sort.Holds (fun x:Lrow imm=>x.v) w b off ds.toArray:=by
      intro q hq
      rw [hsz0] at hq
      refine ⟨?_,?_⟩
      · simp only [World.cell?,hw,Option.isSome_none,Bool.false_eq_true,if_false]
        exact hcell q hq
      · simp only [World.frozen?,hw]
        simp
    have hlt:b < w.heap.size:=(gd.mem_lt (b:=b) (by simp [HA.fp])).1
    have hc':=hc b off c ds.toArray w (zLp hr gd.inv h2) hH hlt (by omega)
    rw [hsz0] at hc'
    refine hc'.mono fun e w' ⟨he,d',n,os,hP,hS,hw'⟩=>?_
    subst he; subst hw'
    have hsr:d'.toList.map (·.l)=srtL s:=by rw [← hsz0] at hP hS; rw [zNf hP hS]; simp [e2]
    have hd':d'.size=s.length:=by rw [hP.1,hsz0]
    let all':=Sort.putCells (fun x:Lrow imm=>x.v) off d' all
    have hsz:all'.size=all.size:=by simp [all',Sort.putCells]
    have hw2:Sort.putRow (fun x:Lrow imm=>x.v) (Sort.ahead w n) b off d'=setBlk (Sort.ahead w n) b (.cells all' ty (0,0)):=by
      unfold Sort.putRow Sort.mapBlock setBlk
      congr 1
      apply Array.ext_getElem?
      intro k
      rw [Array.getElem?_modify,Array.getElem?_setIfInBounds]
      by_cases hk:b=k
      · subst hk
        have hw3:(Sort.ahead w n).heap[b]?=some (.cells all ty (0,0)):=hw
        have hlt':b < (Sort.ahead w n).heap.size:=hlt
        rw [if_pos rfl,if_pos rfl,if_pos hlt',hw3]
        rfl
      · rw [if_neg hk,if_neg hk]
    have hg2:Good ⟨w,imm,(([hO (List Int) (vS (some ⟨b,off,none⟩) s c) cs]:List HA)).flatMap HA.fp⟩ imm [hO (List Int) (vS (some ⟨b,off,none⟩) s c) cs] (Sort.ahead w n):=gd.draw _ (Nat.le_add_right _ _)
    have hget:∀ k,k < s.length→all'[off + k]?=some (d'[k]!).v:=by
      intro k hk
      have h0:=hcell k hk
      simp only [all',Sort.putCells,Array.getElem?_mapIdx,h0,Option.map_some]
      rw [if_pos ⟨by omega,by omega⟩,show off + k - off=k by omega]
    have hRL:RL imm (d'.toList.map (·.v)) (srtL s):=by rw [← hsr]; exact zK5 _
    have hlen':(d'.toList.map (·.v)).length=s.length:=by simp [hd']
    refine ⟨imm,_,hp _ (d'.toList.map (·.v)) hRL,?_⟩
    have hg3:Good ⟨w,imm,(([hO (List Int) (vS (some ⟨b,off,none⟩) s c) cs]:List HA)).flatMap HA.fp⟩ imm [hO (List Int) (vS (some ⟨b,off,none⟩) (srtL s) c) (d'.toList.map (·.v))] (Sort.putRow (fun x:Lrow imm=>x.v) (Sort.ahead w n) b off d'):=by
      rw [hw2]
      refine hg2.write (A':=.osl (vS (some ⟨b,off,none⟩) (srtL s) c) (Rp.sz (List Int)) (d'.toList.map (·.v))) (b:=b) (by simp [HA.fp]) (by simp [HA.fp]) _ (.inr ⟨b,off,_,c,all',ty,rfl,h1,h2,?_,?_,?_,?_,?_,hM⟩)
      · exact fU (show b < (Sort.ahead w n).heap.size from hlt)
      · rw [hsz,show Rp.sz (List Int)=1 from rfl,Nat.mul_one]; exact hcap
      · rw [hsl]; exact hlc
      · rw [hlen',hsl,show Rp.sz (List Int)=1 from rfl,Nat.mul_one]
      · apply List.ext_getElem?
        intro k
        rw [show Rp.sz (List Int)=1 from rfl,Nat.mul_one,hsl,List.getElem?_take,List.getElem?_drop,Array.getElem?_toList]
        by_cases hk:k < s.length
        · rw [if_pos hk,hget k hk,List.getElem?_map,Array.getElem?_toList,Array.getElem?_eq_getElem (by omega),Option.map_some,getElem!_pos d' k (by omega)]
        · rw [if_neg hk,List.getElem?_eq_none (by omega)]
    exact hg3.grow 0 os
end Go.LN
