/- Helper of the proof (see the last text). -/
import Derived.Test.YtkipogionmkncaaGreatLnH
import Derived.Laws.BitsLemmas
import Derived.Sort.Grow
import Derived.Lib.LaidTab
import Derived.Lib.ItoaNum
import Derived.Lib.ItoaMem
import Derived.Sort.Row
import Derived.Lib.AtoiErrMem
import Derived.Lib.AtoiTie
import Derived.Lib.SplitLaws
import Derived.Lib.AtoiAll
import Derived.Shelf.SlicesE.Delete
import Derived.Laws.StructEq
set_option linter.unusedVariables false
set_option linter.unusedSimpArgs false
namespace Go.LN
section
variable {P : Program} {n : Nat} {B : Base} {Q : Exit -> Act -> World -> Prop} {imm : Imm} {hs : List HA} {m : FM} {aa : List Oper} {pc d : Nat} {ty : TypeId} {pos : String} {after : Array Edge} {g : Option (Nat × Bool)}
theorem yY{t : TypeId}{x : Operand}{ad : Addr}{cs : List Value}(o : Nat)(av : At imm ad cs)(cs' : List Value)(v : Value)(ho : aa[pc]? = some ⟨some d,.load t x,ty,pos,after,g⟩)(next : R P n B aa Q (pc+1) imm hs ((d,v) :: m))(hg : guardB aa m g = some true:=by kernel_rfl)(hn : Nat.blt d n = true:=by kernel_rfl)(hx : val m x = some (.pointer (some (ad.add o))):=by kernel_rfl)(bt : Nat.ble o cs.length = true:=by kernel_rfl)(hc : (cs.drop o).take cs'.length = cs' := by kernel_rfl)(hv : loadV P t cs' = some v:=by kernel_rfl): R P n B aa Q pc imm hs m:=
 zJY o ho hg hn av hx bt hc hv next
theorem zGX{t : TypeId}{x : Operand}{ad : Addr}{cs : List Value}(o : Nat)(av : At imm ad cs)(cs' : List Value)(v : Value)(ho : aa[pc]? = some ⟨some d,.load t x,ty,pos,after,g⟩)(next : Rq P n B aa Q (pc+1) imm hs ((d,v) :: m))(hg : guardB aa m g = some true:=by kernel_rfl)(hn : Nat.blt d n = true:=by kernel_rfl)(hx : val m x = some (.pointer (some (ad.add o))):=by kernel_rfl)(bt : Nat.ble o cs.length = true:=by kernel_rfl)(hc : (cs.drop o).take cs'.length = cs' := by kernel_rfl)(hv : loadV P t cs' = some v:=by kernel_rfl): Rq P n B aa Q pc imm hs m:=
 zIk o ho hg hn av hx bt hc hv next
theorem xL{α : Type}[Rp α]{t : TypeId}{x xi : Operand}{v : Value}{k : IntKind}{i : Int}{l : List α}{y : α}(ho : aa[pc]? = some ⟨some d,.indexAddr t x xi,ty,pos,after,g⟩)(hi : val m xi = some (.int k i))(aj : SL imm v l)(hy : idx l i = some y)(next : ∀ad aF,At imm ad aF -> Rp.rep imm aF y -> R P n B aa Q (pc+1) imm hs ((d,.pointer (some ad)) :: m))(hg : guardB aa m g = some true:=by kernel_rfl)(hn : Nat.blt d n = true:=by kernel_rfl)(hx : val m x = some v:=by kernel_rfl)(ht : elemT P t = some (Rp.sz α):=by kernel_rfl): R P n B aa Q pc imm hs m:=
 zKY ho hg hn hx hi ht aj hy next
theorem zGY{α : Type}[Rp α]{t : TypeId}{x xi : Operand}{v : Value}{k : IntKind}{i : Int}{l : List α}{y : α}(ho : aa[pc]? = some ⟨some d,.indexAddr t x xi,ty,pos,after,g⟩)(hi : val m xi = some (.int k i))(aj : SL imm v l)(hy : idx l i = some y)(next : ∀ad aF,At imm ad aF -> Rp.rep imm aF y -> Rq P n B aa Q (pc+1) imm hs ((d,.pointer (some ad)) :: m))(hg : guardB aa m g = some true:=by kernel_rfl)(hn : Nat.blt d n = true:=by kernel_rfl)(hx : val m x = some v:=by kernel_rfl)(ht : elemT P t = some (Rp.sz α):=by kernel_rfl): Rq P n B aa Q pc imm hs m:=
 zJl ho hg hn hx hi ht aj hy next
theorem zIK{α : Type}[Rp α]{t : TypeId}{x xi : Operand}{v : Value}{k : IntKind}{i : Int}{cs : List Value}{l : List α}{y : α}(j : Nat)(ho : aa[pc]? = some ⟨some d,.indexAddr t x xi,ty,pos,after,g⟩)(hi : val m xi = some (.int k i))(hj : hs[j]? = some (.osl v (Rp.sz α) cs))(hr : RepL (Rp.rep imm) (Rp.sz α) cs l)(hy : idx l i = some y)(next : ∀ad cc,AtO v (Rp.sz α) i.toNat ad -> (cs.drop (i.toNat*Rp.sz α)).take (Rp.sz α) = cc -> Rp.rep imm cc y -> R P n B aa Q (pc+1) imm hs ((d,.pointer (some ad)) :: m))(hg : guardB aa m g = some true:=by kernel_rfl)(hn : Nat.blt d n = true:=by kernel_rfl)(hx : val m x = some v:=by kernel_rfl)(ht : elemT P t = some (Rp.sz α):=by kernel_rfl): R P n B aa Q pc imm hs m:=
 zHy j ho hg hn hj hx hi ht hr hy next
theorem zKx{t : TypeId}{x : Operand}{v0 : Value}{sz i : Nat}{ad : Addr}{cs cc : List Value}(j o : Nat)(av : AtO v0 sz i ad)(bP : (cs.drop (i*sz)).take sz = cc)(cc' : List Value)(v : Value)(ho : aa[pc]? = some ⟨some d,.load t x,ty,pos,after,g⟩)(hj : hs[j]? = some (.osl v0 sz cs))(next : R P n B aa Q (pc+1) imm hs ((d,v) :: m))(hg : guardB aa m g = some true:=by kernel_rfl)(hn : Nat.blt d n = true:=by kernel_rfl)(hx : val m x = some (.pointer (some (ad.add o))):=by kernel_rfl)(bt : Nat.ble (o+cc'.length) sz = true:=by kernel_rfl)(hc : (cc.drop o).take cc'.length = cc' := by kernel_rfl)(hv : loadV P t cc' = some v:=by kernel_rfl): R P n B aa Q pc imm hs m:=
 zIg j o ho hg hn hj av hx bP bt hc hv next
theorem zLG{t t2 : TypeId}{x y : Operand}{a b c : Str}(ho : aa[pc]? = some ⟨some d,.binOp .add t x y t2,ty,pos,after,g⟩)(h : cat a b = some c)(next : R P n B aa Q (pc+1) imm hs ((d,.string ⟨⟨c.l⟩⟩) :: m))(hg : guardB aa m g = some true:=by kernel_rfl)(hn : Nat.blt d n = true:=by kernel_rfl)(hx : val m x = some (.string ⟨⟨a.l⟩⟩):=by kernel_rfl)(hy : val m y = some (.string ⟨⟨b.l⟩⟩):=by kernel_rfl): R P n B aa Q pc imm hs m:=
 zLF ho hg hn hx hy h next
theorem uJ{t : TypeId}{x y : Operand}{b o : Nat}{c : Array Value}{v : Value}(j : Nat)(c' : List Value)(aj : List HA)(ho : aa[pc]? = some ⟨none,.store t x y,ty,pos,after,g⟩)(hj : hs[j]? = some (.blk b c))(hx : val m x = some (.pointer (some ⟨b,o,none⟩)))(hy : val m y = some v)(next : R P n B aa Q (pc+1) imm aj m)(hg : guardB aa m g = some true:=by kernel_rfl)(bv : sizeT P t = some v.cells.size:=by kernel_rfl)(bt : Nat.ble (o+v.cells.size) c.size = true:=by kernel_rfl)(bK : v.cells.toList.all Value.oneCell' = true:=by rfl)(hc : wr c o v.cells.toList = ⟨c'⟩:=by kernel_rfl)(hh : hs.set j (.blk b ⟨c'⟩) = aj:=by rfl): R P n B aa Q pc imm hs m:=
 zHw j ho hg hj hx hy bv bt bK hc hh next
theorem fU{α : Type}[Rp α]{t t2 : TypeId}{x1 x2 : Operand}{v vx : Value}{cs aF : List Value}{l l2 y : List α}{by' : Nat}(e zs j : Nat)(ho : aa[pc]? = some ⟨some d,.call { callee:=.builtin .append,args := #[x1,x2],argTypes := #[t,t2] },ty,pos,after,g⟩)(hj : hs[j]? = some (.osl v (Rp.sz α) cs))(hy : val m x2 = some vx)(hr : RepL (Rp.rep imm) (Rp.sz α) cs l)(s : Src imm hs vx (Rp.sz α) aF)(hr2 : RepL (Rp.rep imm) (Rp.sz α) aF l2)(hb : app by' l l2 = some y)
 (next : ∀a' c' cs',RepL (Rp.rep imm) (Rp.sz α) cs' y -> R P n B aa Q (pc+1) imm (hs.set j (.osl (.slice a' y.length c') (Rp.sz α) cs')) ((d,.slice a' y.length c') :: m)) (hg : guardB aa m g = some true:=by kernel_rfl) (hn : Nat.blt d n = true:=by kernel_rfl) (hx : val m x1 = some v:=by kernel_rfl) (ht : appT P t = some (e,Rp.sz α,by',zs):=by kernel_rfl) (ht2 : appT P t2 = some (e,Rp.sz α,by',zs):=by kernel_rfl) : R P n B aa Q pc imm hs m:=
 zKw (λ_=>True) (e:=e) (zs:=zs) j ho hg hn hx hy ht ht2 hj hr (λ_ _=>.inl trivial) s hr2 hb (λa' c' cs' _ h=>next a' c' cs' h)
end
def mkrow{α : Type}(bytes : Nat)(k : Int)(z : α): Option (List α):=if 0<=k /\ k.toNat*bytes<=140737488355328 then some (List.replicate k.toNat z) else none
def zrow(z : Array Value)(k : Nat): List Value:=(List.range k).map λi=>z[i % z.size]!
theorem zJu(z : Array Value)(k : Nat)(h : 0<z.size): (List.range z.size).map (λi=>z[(k*z.size+i) % z.size]!) = z.toList:=by
 refine List.ext_getElem (by simp) λi h1 h2 => ?_
 have hi : i<z.size:=by simpa using h1
 simp only[List.getElem_map,List.getElem_range,Array.getElem_toList]
 have e : (k*z.size+i) % z.size = i:=by rw[Nat.add_comm,Nat.mul_comm,Nat.add_mul_mod_self_left,Nat.mod_eq_of_lt hi]
 rw[e]
 exact getElem!_pos z i hi
theorem zIL{α : Type}{ρ : List Value -> α -> Prop}{z : Array Value}{a : α}(hz : 0<z.size)(h : ρ z.toList a): ∀k,RepL ρ z.size (zrow z (k*z.size)) (List.replicate k a)
 | 0=>by simp[zrow,RepL]
 | k+1=>by
  have e : zrow z ((k+1)*z.size) = zrow z (k*z.size)++z.toList:=by
   unfold zrow
   rw[dk,List.range_add,ep,dy]
   congr 1
   exact zJu z k hz
  rw[e,List.replicate_succ']
  exact(zIL hz h k).append (.single (by simp) h)
section
variable {P : Program} {n : Nat} {B : Base} {Q : Exit -> Act -> World -> Prop} {imm : Imm} {hs : List HA} {m : FM} {aa : List Oper} {pc d : Nat} {ty : TypeId} {pos : String} {after : Array Edge} {g : Option (Nat × Bool)}
def mkT(P : Program)(t : TypeId): Option (Nat × Nat × List Value):=
 match elemOfT P t with
 | some e=>match sizeT P e,bytesT P e,zeroC P e with
  | some s,some b,some z=>bif Nat.beq z.size s&&Nat.blt 0 b then some (s,b,z.toList) else none
  | _,_,_=>none
 | none=>none
theorem zLH{α : Type}[Rp α]{t : TypeId}{x y : Operand}{k : Int}{a : α}{l : List α}(by' : Nat)(z : List Value)(ho : aa[pc]? = some ⟨some d,.makeSlice t x y,ty,pos,after,g⟩)(hk : mkrow by' k a = some l)(hr : Rp.rep imm z a)
 (next : ∀b cs,RL imm cs l -> R P n B aa Q (pc+1) imm (.osl (.slice (some ⟨b,0,none⟩) l.length l.length) (Rp.sz α) cs :: hs) ((d,.slice (some ⟨b,0,none⟩) l.length l.length) :: m))
 (hg : guardB aa m g = some true:=by kernel_rfl) (hn : Nat.blt d n = true:=by kernel_rfl) (hx : val m x = some (.int .i64 k):=by kernel_rfl) (hy : val m y = some (.int .i64 k):=by kernel_rfl) (ht : mkT P t = some (Rp.sz α,by',z):=by kernel_rfl) :
 R P n B aa Q pc imm hs m:=by
 refine fM ho hg rfl hn λac w f gd => ?_
 unfold mkrow at hk
 split at hk
 ·rename_i hk0
  cases hk
  obtain⟨hk0,hkb⟩:=hk0
  unfold mkT at ht
  cases he : elemOfT P t with
  | none=>rw[he] at ht;cases ht
  | some e=>
   rw[he] at ht
   simp only at ht
   split at ht
   ·rename_i s b zc h1 h2 h3
    cases hq : Nat.beq zc.size s&&Nat.blt 0 b with
    | false=>rw[hq] at ht;cases ht
    | true=>
     rw[hq] at ht
     simp only[cond_true,Option.some.injEq,Prod.mk.injEq] at ht
     obtain⟨rfl,rfl,rfl⟩:=ht
     rw[cy] at hq
     have hzs:=cC hq.1
     have hb0 : 0<b:=by simpa using hq.2
     have hu : P.underlying t = some (.slice e):=by
      unfold elemOfT at he
      split at he <;> simp_all
     cases hie : P.info? e with
     | none=>simp[sizeT,hie] at h1
     | some ie=>
     have hsz' : ie.size = Rp.sz α:=by simpa [sizeT,hie] using h1
     have hby' : ie.bytes = b:=by simpa [bytesT,hie] using h2
     obtain⟨zv,hz1,hz2⟩:=zAW (w:=w) h3
     have hpos : 0<zc.size:=by rw[hzs];exact Rp.pos
     have hkk : (k.toNat : Int) = k:=Int.toNat_of_nonneg hk0
     have ap : k.toNat<=k.toNat*b:=Nat.le_mul_of_pos_right _ hb0
     have hwr : IntKind.i64.wrap k = k:=by rw[IntKind.wrap_i64];omega
     have hmul : ((ie.bytes : Int)*k)<=140737488355328:=by
      rw[<- hkk,hby',<- Int.natCast_mul,Nat.mul_comm]
      exact Int.ofNat_le.2 hkb
     have hnt : ¬ (k<0):=by omega
     have hnb : ¬ ((ie.bytes : Int)*k>2 ^ 48):=by omega
     let row : Array Value:=if k.toNat*Rp.sz α = 0 then #[] else(Array.range (k.toNat*Rp.sz α)).map (λi=>zc[i % zc.size]!)
     have hrow : (((Array.range (k.toNat*ie.size)).map λi=>(if k.toNat*ie.size = 0 then #[] else zc)[i % (if k.toNat*ie.size = 0 then(#[] : Array Value) else zc).size]!)) = ⟨zrow zc (k.toNat*zc.size)⟩:=by
      rw[hsz',<- hzs]
      apply Array.ext'
      by_cases h0 : k.toNat*zc.size = 0
      ·simp[h0,zrow]
      ·simp[h0,zrow]
     have aU : (zrow zc (k.toNat*zc.size)).length = k.toNat*Rp.sz α:=by simp[zrow,hzs]
     have hg:=gd.alloc_osl ⟨zrow zc (k.toNat*zc.size)⟩ e (Rp.sz α) k.toNat k.toNat (zrow zc (k.toNat*zc.size)) (by show _<=(zrow _ _).length;rw[aU];exact cH _) (cH _) (by rw[<- aU];exact List.take_length) aU (by omega)
     have hll : (List.replicate k.toNat a).length = k.toNat:=cK
     rw[hll] at next
     refine⟨_,_,imm,_,?_,hg,next w.heap.size _ ?_⟩
     ·simp only[execOp,f.eval hx,f.eval hy,Instr.makeSlice,Sem.run_bind,xO hu,Result.andThen_ok,asInt,asIntOf,Sem.run_pure,typeInfo,run_program,hie,hwr,hnt,hnb,decide_false,en,bY,false_or,or_self,if_false,Int.lt_irrefl,
       gt_iff_lt,run_askRoom,mB h1]
      by_cases h0 : k.toNat*Rp.sz α = 0
      ·have:=hrow
       rw[hsz'] at this
       simp only[h0,if_true] at this ⊢
       simp only[Sem.run_pure,Result.andThen_ok,newRow,run_newObj,Sem.run_bind,this]
      ·have:=hrow
       rw[hsz'] at this
       simp only[h0,if_false] at this ⊢
       simp only[Sem.run_bind,hz1,hz2,Sem.run_pure,Result.andThen_ok,newRow,run_newObj,this]
     ·have:=zIL (z:=zc) (a:=a) hpos hr k.toNat
      rw[hzs] at this
      show RepL _ _ _ _
      rw[hzs]
      exact this
   ·cases ht
 ·cases hk
theorem zK5{f : FuncId}{first cap : List Value}{x : Operand}{xs : Array Operand}{ts : Array TypeId}{vs : List Value}{hs1 rest : List HA}{post : Nat -> Imm -> List HA -> Value -> Prop}
 (ho : aa[pc]? = some ⟨some d,.call { callee:=.value x,args:=xs,argTypes:=ts },ty,pos,after,g⟩) (hx : val m x = some (.func (.func f) ⟨first⟩ ⟨cap⟩)) (hf : callable P f = true)
 (hvs : vals m xs.toList = some vs) (hh : hs = hs1++rest) (hc : Ret P f (first++vs++cap) imm hs1 post)
 (next : ∀af aj v k,imm.le af -> B.w0.heap.size<=k -> post k af aj v -> (∀b∈aj.flatMap HA.fp,b∈hs1.flatMap HA.fp∨B.w0.heap.size<=b) -> R P n B aa Q (pc+1) af (aj++rest) ((d,v) :: m)) (hg : guardB aa m g = some true:=by kernel_rfl) (hn : Nat.blt d n = true:=by kernel_rfl) : R P n B aa Q pc imm hs m:=
 zGN ho hg λa w fr gd=>by
  subst hh
  have hargs : xs.map a.eval = vs.toArray:=by apply Array.ext';rw[dg,fr.evals hvs]
  have hall : (⟨first⟩ : Array Value)++vs.toArray++⟨cap⟩ = (first++vs++cap).toArray:=by apply Array.ext';simp
  have bH:=gd.nodup
  rw[da] at bH
  have hg1:=gd.enter (hs1:=hs1) (λA hA=>cI _ hA) (cz.1 bH).1
  unfold Oper.wp
  simp only[execOp,resolve,Deferred.ofValue,fr.eval hx,hargs,Sem.run_bind,Sem.run_pure,Result.andThen_ok,invoke,hall,zBs hf,Oper.upon]
  refine(hc w hg1).mono λe w' he => ?_
  cases e with
  | returned v=>
   obtain⟨af,aj,hp,hgood⟩:=he
   obtain⟨g2,ap,hfp⟩:=gd.leave hgood
   exact next af aj v w.heap.size ap gd.frm.size hp hfp _ w' (fr.put d v (by simpa using hn)) g2
  | panicked c=>exact he.elim
  | outgrown=>exact he.elim
end
class Vr (α : Type) where
 rep : Imm -> Value -> α -> Prop
 mono : ∀{i j : Imm} {v : Value} {a : α},i.le j -> rep i v a -> rep j v a
instance : Vr Int:=⟨λ_ v a=>v = .int .i64 a,λ_ h=>h⟩
instance : Vr Bool:=⟨λ_ v a=>v = .bool a,λ_ h=>h⟩
instance : Vr Str:=⟨λ_ v a=>v = .string ⟨⟨a.l⟩⟩,λ_ h=>h⟩
instance {α : Type} [Rp α] : Vr (List α):=⟨λi v a=>SL i v a,λhl h=>h.mono hl⟩
def FV1{α β : Type}[Vr α][Vr β](P : Program)(imm : Imm)(aL : List HA)(v : Value)(φ : α -> Option β): Prop:=
 ∃f first cap,v = .func (.func f) ⟨first⟩ ⟨cap⟩ /\ callable P f = true /\ ∀af,imm.le af -> ∀a r va,φ a = some r -> Vr.rep af va a -> Ret P f (first++[va]++cap) af aL λ_ i aj u=>aj = aL /\ Vr.rep i u r
theorem FV1.mono{α β : Type}[Vr α][Vr β]{P : Program}{i j : Imm}{aL : List HA}{v : Value}{φ : α -> Option β}(hl : i.le j)(h : FV1 P i aL v φ): FV1 P j aL v φ:=by
 obtain⟨f,first,cap,h1,h2,h3⟩:=h
 exact⟨f,first,cap,h1,h2,λaf h' => h3 af (hl.trans h')⟩
theorem FV1.intro{α β : Type}[Vr α][Vr β]{P : Program}{imm : Imm}{aL : List HA}{f : FuncId}{first cap : List Value}{φ : α -> Option β}(h : ∀af,imm.le af -> ∀a r va,φ a = some r -> Vr.rep af va a -> Ret P f (first++[va]++cap) af aL λ_ i aj u=>aj = aL /\ Vr.rep i u r)
 (hc : callable P f = true:=by kernel_rfl) : FV1 P imm aL (.func (.func f) ⟨first⟩ ⟨cap⟩) φ:=⟨f,first,cap,rfl,hc,h⟩
def FV2{α β γ : Type}[Vr α][Vr β][Vr γ](P : Program)(imm : Imm)(aL : List HA)(v : Value)(φ : α -> β -> Option γ): Prop:=
 ∃f first cap,v = .func (.func f) ⟨first⟩ ⟨cap⟩ /\ callable P f = true /\ ∀af,imm.le af -> ∀a b r va vb,φ a b = some r -> Vr.rep af va a -> Vr.rep af vb b -> Ret P f (first++[va,vb]++cap) af aL λ_ i aj u=>aj = aL /\ Vr.rep i u r
theorem FV2.mono{α β γ : Type}[Vr α][Vr β][Vr γ]{P : Program}{i j : Imm}{aL : List HA}{v : Value}{φ : α -> β -> Option γ}(hl : i.le j)(h : FV2 P i aL v φ): FV2 P j aL v φ:=by
 obtain⟨f,first,cap,h1,h2,h3⟩:=h
 exact⟨f,first,cap,h1,h2,λaf h' => h3 af (hl.trans h')⟩
theorem FV2.intro{α β γ : Type}[Vr α][Vr β][Vr γ]{P : Program}{imm : Imm}{aL : List HA}{f : FuncId}{first cap : List Value}{φ : α -> β -> Option γ}(h : ∀af,imm.le af -> ∀a b r va vb,φ a b = some r -> Vr.rep af va a -> Vr.rep af vb b -> Ret P f (first++[va,vb]++cap) af aL λ_ i aj u=>aj = aL /\ Vr.rep i u r)
 (hc : callable P f = true:=by kernel_rfl) : FV2 P imm aL (.func (.func f) ⟨first⟩ ⟨cap⟩) φ:=⟨f,first,cap,rfl,hc,h⟩
section
variable {P : Program} {n : Nat} {B : Base} {Q : Exit -> Act -> World -> Prop} {imm : Imm} {hs : List HA} {m : FM} {aa : List Oper} {pc d : Nat} {ty : TypeId} {pos : String} {after : Array Edge} {g : Option (Nat × Bool)}
theorem zJB{α β : Type}[Vr α][Vr β]{x y : Operand}{ts : Array TypeId}{v va : Value}{a : α}{r : β}{φ : α -> Option β}{aL rest : List HA}
 (ho : aa[pc]? = some ⟨some d,.call { callee:=.value x,args := #[y],argTypes:=ts },ty,pos,after,g⟩) (hy : val m y = some va) (hF : FV1 P imm aL v φ) (hr : φ a = some r) (ha : Vr.rep imm va a) (hh : hs = aL++rest)
 (next : ∀af u,imm.le af -> Vr.rep af u r -> R P n B aa Q (pc+1) af (aL++rest) ((d,u) :: m)) (hx : val m x = some v:=by kernel_rfl) (hg : guardB aa m g = some true:=by kernel_rfl) (hn : Nat.blt d n = true:=by kernel_rfl) : R P n B aa Q pc imm hs m:=by
 obtain⟨f,first,cap,rfl,hf,hc⟩:=hF
 refine zK5 ho hx hf (vs:=[va]) (by simp[vals,hy]) hh (hc imm (Imm.le.refl _) a r va hr ha) ?_ hg hn
 rintro af aj u k hl hk ⟨rfl,h⟩ -
 exact next af u hl h
end
theorem Good.grow{B : Base}{imm : Imm}{hs : List HA}{w : World}(h : Good B imm hs w)(k : Nat)(os : Array Obj): Good B imm hs (Sort.grow (w.drewN k) os):=by
 have h:=h.drewN k
 generalize w.drewN k = w at h
 have old : ∀b,b<w.heap.size -> (Sort.grow w os).heap[b]? = w.heap[b]? := λb hb=>by
  show (w.heap++os)[b]? = _
  rw[Array.getElem?_append_left hb]
 refine⟨λb c e => ?_,λA hA=>(h.own A hA).same (λ_ _ p=>p) (λ_ _=>rfl) (λb hb=>old b ((h.own A hA).lt hb).1),h.nodup,⟨h.frm.os,h.frm.tape,h.frm.output,?_,λb hb hio => ?_,h.frm.imm,h.frm.drawn⟩⟩
 ·obtain⟨ty,fr,e'⟩:=h.inv b c e
  exact⟨ty,fr,(old b (h.lt_imm e)).trans e'⟩
 ·show _<=(w.heap++os).size
  rw[Array.size_append]
  exact dx h.frm.size (Nat.le_add_right _ _)
 ·exact(old b (er hb h.frm.size)).trans (h.frm.heap b hb hio)
def GT (P : Program) (imm : Imm) : Prop := ∃ g, P.globalNamed "internal/strconv.uint64pow10" = some g ∧ imm g = some (Lib.pow10Tab.map fun z => Value.int .u64 z).toArray
def GM (P : Program) (imm : Imm) : Prop := ∃ g, P.globalNamed "internal/bytealg.MaxLen" = some g ∧ ∃ m, imm g = some #[.int .i64 m]
def GE(P : Program)(imm : Imm)(nm : String): Prop := ∃g,P.globalNamed nm = some g /\ ∃t p,imm g = some #[.iface t p]
def GH (P : Program) (imm : Imm) : Prop := GT P imm ∧ GM P imm ∧ GE P imm "strconv.ErrSyntax" ∧ GE P imm "strconv.ErrRange"
theorem GH.mono{P : Program}{i j : Imm}(hl : i.le j)(h : GH P i): GH P j:=by
 obtain⟨⟨g,h1,h2⟩,⟨g3,h3,m,h4⟩,⟨g5,h5,t,p,h6⟩,⟨g7,h7,u,q,h8⟩⟩:=h
 exact⟨⟨g,h1,hl _ _ h2⟩,⟨g3,h3,m,hl _ _ h4⟩,⟨g5,h5,t,p,hl _ _ h6⟩,⟨g7,h7,u,q,hl _ _ h8⟩⟩
theorem GH.es {P : Program} {imm : Imm} (h : GH P imm) : GE P imm "strconv.ErrSyntax" := h.2.2.1
theorem dQ{k : IntKind}{n : Int}: (Value.int k n).oneCell' = true:=rfl
theorem dR{s : ByteArray}: (Value.string s).oneCell' = true:=rfl
theorem SL.one{α : Type}[Rp α]{i : Imm}{v : Value}{l : List α}(h : SL i v l): v.oneCell' = true:=by
 obtain⟨aF,hs,_⟩:=h
 rcases hs with⟨_,rfl,_⟩|⟨b,off,len,cap,c,rfl,_⟩ <;> rfl
structure wQ where
 Name : Str
 Dims : List Int
instance : Rp wQ where
 sz:=2
 pos:=by decide
 rep i cs s := ∃v0 : Value,cs = [.string ⟨⟨s.Name.l⟩⟩,v0] /\ SL i v0 s.Dims
 len h:=by obtain⟨v0,rfl,h0⟩:=h;rfl
 mono hm h:=by obtain⟨v0,e,h0⟩:=h;exact⟨v0,e,h0.mono hm⟩
 one h:=by obtain⟨v0,rfl,h0⟩:=h;simp[dR,h0.one]
theorem zCO{i : Imm}{cs : List Value}{s : wQ}(h : Rp.rep i cs s): ∃v0 : Value,cs = [.string ⟨⟨s.Name.l⟩⟩,v0] /\ SL i v0 s.Dims:=h
theorem zJe{i : Imm}{cs : List Value}{s : wQ}(h : ∃v0 : Value,cs = [.string ⟨⟨s.Name.l⟩⟩,v0] /\ SL i v0 s.Dims): Rp.rep i cs s:=h
theorem zHB{i : Imm}{cs : List Value}{s : wQ}(h : Rp.rep i cs s): ∃(p0 : Option Addr) (c0 : Nat),cs = [.string ⟨⟨s.Name.l⟩⟩,vS p0 s.Dims c0] /\ SL i (vS p0 s.Dims c0) s.Dims:=by
 obtain⟨v0,e,h0⟩:=zCO h
 obtain⟨p0,c0,rfl⟩:=h0.form
 exact⟨p0,c0,e,h0⟩
instance : Vr wQ:=⟨λi v a => ∃cs,v = .agg ⟨cs⟩ /\ Rp.rep i cs a,λhl ⟨cs,e,h⟩=>⟨cs,e,Rp.mono hl h⟩⟩
structure yX where
 Coefs : List Int
 Const : Int
instance : Rp yX where
 sz:=2
 pos:=by decide
 rep i cs s := ∃v0 : Value,cs = [v0,.int .i64 s.Const] /\ SL i v0 s.Coefs
 len h:=by obtain⟨v0,rfl,h0⟩:=h;rfl
 mono hm h:=by obtain⟨v0,e,h0⟩:=h;exact⟨v0,e,h0.mono hm⟩
 one h:=by obtain⟨v0,rfl,h0⟩:=h;simp[dQ,h0.one]
theorem zB2{i : Imm}{cs : List Value}{s : yX}(h : Rp.rep i cs s): ∃v0 : Value,cs = [v0,.int .i64 s.Const] /\ SL i v0 s.Coefs:=h
theorem zJ2{i : Imm}{cs : List Value}{s : yX}(h : ∃v0 : Value,cs = [v0,.int .i64 s.Const] /\ SL i v0 s.Coefs): Rp.rep i cs s:=h
theorem zGZ{i : Imm}{cs : List Value}{s : yX}(h : Rp.rep i cs s): ∃(p0 : Option Addr) (c0 : Nat),cs = [vS p0 s.Coefs c0,.int .i64 s.Const] /\ SL i (vS p0 s.Coefs c0) s.Coefs:=by
 obtain⟨v0,e,h0⟩:=zB2 h
 obtain⟨p0,c0,rfl⟩:=h0.form
 exact⟨p0,c0,e,h0⟩
instance : Vr yX:=⟨λi v a => ∃cs,v = .agg ⟨cs⟩ /\ Rp.rep i cs a,λhl ⟨cs,e,h⟩=>⟨cs,e,Rp.mono hl h⟩⟩
structure vZ where
 Lo : List yX
 Hi : List yX
instance : Rp vZ where
 sz:=2
 pos:=by decide
 rep i cs s := ∃v0 v1 : Value,cs = [v0,v1] /\ SL i v0 s.Lo /\ SL i v1 s.Hi
 len h:=by obtain⟨v0,v1,rfl,h0,h1⟩:=h;rfl
 mono hm h:=by obtain⟨v0,v1,e,h0,h1⟩:=h;exact⟨v0,v1,e,h0.mono hm,h1.mono hm⟩
 one h:=by obtain⟨v0,v1,rfl,h0,h1⟩:=h;simp[h0.one,h1.one]
theorem zC8{i : Imm}{cs : List Value}{s : vZ}(h : Rp.rep i cs s): ∃v0 v1 : Value,cs = [v0,v1] /\ SL i v0 s.Lo /\ SL i v1 s.Hi:=h
theorem zJv{i : Imm}{cs : List Value}{s : vZ}(h : ∃v0 v1 : Value,cs = [v0,v1] /\ SL i v0 s.Lo /\ SL i v1 s.Hi): Rp.rep i cs s:=h
theorem zH3{i : Imm}{cs : List Value}{s : vZ}(h : Rp.rep i cs s): ∃(p0 : Option Addr) (c0 : Nat) (p1 : Option Addr) (c1 : Nat),cs = [vS p0 s.Lo c0,vS p1 s.Hi c1] /\ SL i (vS p0 s.Lo c0) s.Lo /\ SL i (vS p1 s.Hi c1) s.Hi:=by
 obtain⟨v0,v1,e,h0,h1⟩:=zC8 h
 obtain⟨p0,c0,rfl⟩:=h0.form
 obtain⟨p1,c1,rfl⟩:=h1.form
 exact⟨p0,c0,p1,c1,e,h0,h1⟩
instance : Vr vZ:=⟨λi v a => ∃cs,v = .agg ⟨cs⟩ /\ Rp.rep i cs a,λhl ⟨cs,e,h⟩=>⟨cs,e,Rp.mono hl h⟩⟩
structure tS where
 Array : Str
 Subs : List yX
instance : Rp tS where
 sz:=2
 pos:=by decide
 rep i cs s := ∃v0 : Value,cs = [.string ⟨⟨s.Array.l⟩⟩,v0] /\ SL i v0 s.Subs
 len h:=by obtain⟨v0,rfl,h0⟩:=h;rfl
 mono hm h:=by obtain⟨v0,e,h0⟩:=h;exact⟨v0,e,h0.mono hm⟩
 one h:=by obtain⟨v0,rfl,h0⟩:=h;simp[dR,h0.one]
theorem zJ3{i : Imm}{cs : List Value}{s : tS}(h : Rp.rep i cs s): ∃v0 : Value,cs = [.string ⟨⟨s.Array.l⟩⟩,v0] /\ SL i v0 s.Subs:=h
theorem zJ4{i : Imm}{cs : List Value}{s : tS}(h : ∃v0 : Value,cs = [.string ⟨⟨s.Array.l⟩⟩,v0] /\ SL i v0 s.Subs): Rp.rep i cs s:=h
instance : Vr tS:=⟨λi v a => ∃cs,v = .agg ⟨cs⟩ /\ Rp.rep i cs a,λhl ⟨cs,e,h⟩=>⟨cs,e,Rp.mono hl h⟩⟩
inductive yB where
 | mk (Kind : Int) (Num : Int) (Index : yX) (Read : tS) (Kids : List yB)
def yB.Kind : yB -> Int|.mk x _ _ _ _=>x
def yB.Num : yB -> Int|.mk _ x _ _ _=>x
def yB.Index : yB -> yX|.mk _ _ x _ _=>x
def yB.Read : yB -> tS|.mk _ _ _ x _=>x
def yB.Kids : yB -> (List yB)|.mk _ _ _ _ x=>x
mutual
def yB.repE(i : Imm): yB -> List Value -> Prop
 | .mk Kind Num Index Read Kids,cs => ∃(v0 v1 v2 : Value) (aF : List Value),cs = [.int .i64 Kind,.int .i64 Num,v0,.int .i64 Index.Const,.string ⟨⟨Read.Array.l⟩⟩,v1,v2] /\ SL i v0 Index.Coefs /\ SL i v1 Read.Subs /\ SliceAt i v2 7 aF /\ yB.reps i Kids aF
def yB.reps(i : Imm): List yB -> List Value -> Prop
 | [],cs=>cs = []
 | e :: es,cs => ∃c1 c2,cs = c1++c2 /\ c1.length = 7 /\ yB.repE i e c1 /\ yB.reps i es c2
end
mutual
theorem zDg{i : Imm}: ∀{e : yB} {cs : List Value},yB.repE i e cs -> cs.length = 7
 | .mk ..,cs,h=>by simp only[yB.repE] at h;obtain⟨v0,v1,v2,aF,rfl,_⟩:=h;rfl
end
mutual
theorem zAb{i j : Imm}(hm : i.le j): ∀{e : yB} {cs : List Value},yB.repE i e cs -> yB.repE j e cs
 | .mk ..,cs,h=>by
  simp only[yB.repE] at h ⊢
  obtain⟨v0,v1,v2,aF,e,k0,k1,ha,hb⟩:=h
  exact⟨v0,v1,v2,aF,e,k0.mono hm,k1.mono hm,ha.mono hm,zAc hm hb⟩
theorem zAc{i j : Imm}(hm : i.le j): ∀{es : List yB} {cs : List Value},yB.reps i es cs -> yB.reps j es cs
 | [],cs,h=>by simpa [yB.reps] using h
 | e :: es,cs,h=>by
  simp only[yB.reps] at h ⊢
  obtain⟨c1,c2,h1,h2,h3,h4⟩:=h
  exact⟨c1,c2,h1,h2,zAb hm h3,zAc hm h4⟩
end
theorem gH{i : Imm}: ∀{es : List yB} {cs : List Value},yB.reps i es cs↔RepL (λc e=>yB.repE i e c) 7 cs es
 | [],cs=>by simp[yB.reps,RepL]
 | e :: es,cs=>by
  simp only[yB.reps,RepL]
  constructor
  ·rintro⟨c1,c2,h1,h2,h3,h4⟩;exact⟨c1,c2,h1,h2,h3,gH.1 h4⟩
  ·rintro⟨c1,c2,h1,h2,h3,h4⟩;exact⟨c1,c2,h1,h2,h3,gH.2 h4⟩
theorem SliceAt.one{i : Imm}{v : Value}{sz : Nat}{cs : List Value}(hs : SliceAt i v sz cs): v.oneCell' = true:=by
 rcases hs with⟨_,rfl,_⟩|⟨b,off,len,cap,c,rfl,_⟩ <;> rfl
theorem zDh{i : Imm}: ∀{e : yB} {cs : List Value},yB.repE i e cs -> ∀v∈cs,v.oneCell' = true
 | .mk ..,cs,h=>by
  simp only[yB.repE] at h
  obtain⟨v0,v1,v2,aF,rfl,k0,k1,ha,_⟩:=h
  simp[dQ,dR,k0.one,k1.one,ha.one]
instance : Rp yB where
 sz:=7
 pos:=by decide
 rep i cs e:=yB.repE i e cs
 len h:=zDg h
 mono hm h:=zAb hm h
 one h:=zDh h
theorem zC9{i : Imm}{cs : List Value}{s : yB}(h : Rp.rep i cs s): ∃v0 v1 v2 : Value,cs = [.int .i64 s.Kind,.int .i64 s.Num,v0,.int .i64 s.Index.Const,.string ⟨⟨s.Read.Array.l⟩⟩,v1,v2] /\ SL i v0 s.Index.Coefs /\ SL i v1 s.Read.Subs /\ SL i v2 s.Kids:=by
 obtain⟨Kind,Num,Index,Read,Kids⟩:=s
 have h : yB.repE i _ cs:=h
 simp only[yB.repE] at h
 obtain⟨v0,v1,v2,aF,e,k0,k1,ha,hb⟩:=h
 exact⟨v0,v1,v2,e,k0,k1,⟨aF,ha,gH.1 hb⟩⟩
theorem zJw{i : Imm}{cs : List Value}{s : yB}(h : ∃v0 v1 v2 : Value,cs = [.int .i64 s.Kind,.int .i64 s.Num,v0,.int .i64 s.Index.Const,.string ⟨⟨s.Read.Array.l⟩⟩,v1,v2] /\ SL i v0 s.Index.Coefs /\ SL i v1 s.Read.Subs /\ SL i v2 s.Kids): Rp.rep i cs s:=by
 obtain⟨Kind,Num,Index,Read,Kids⟩:=s
 show yB.repE i _ cs
 simp only[yB.repE]
 obtain⟨v0,v1,v2,e,k0,k1,⟨aF,ha,hb⟩⟩:=h
 exact⟨v0,v1,v2,aF,e,k0,k1,ha,gH.2 hb⟩
theorem zH4{i : Imm}{cs : List Value}{s : yB}(h : Rp.rep i cs s): ∃(p0 : Option Addr) (c0 : Nat) (p1 : Option Addr) (c1 : Nat) (p2 : Option Addr) (c2 : Nat),cs = [.int .i64 s.Kind,.int .i64 s.Num,vS p0 s.Index.Coefs c0,.int .i64 s.Index.Const,.string ⟨⟨s.Read.Array.l⟩⟩,vS p1 s.Read.Subs c1,vS p2 s.Kids c2] /\ SL i (vS p0 s.Index.Coefs c0) s.Index.Coefs /\ SL i (vS p1 s.Read.Subs c1) s.Read.Subs /\ SL i (vS p2 s.Kids c2) s.Kids:=by
 obtain⟨v0,v1,v2,e,h0,h1,h2⟩:=zC9 h
 obtain⟨p0,c0,rfl⟩:=h0.form
 obtain⟨p1,c1,rfl⟩:=h1.form
 obtain⟨p2,c2,rfl⟩:=h2.form
 exact⟨p0,c0,p1,c1,p2,c2,e,h0,h1,h2⟩
instance : Vr yB:=⟨λi v a => ∃cs,v = .agg ⟨cs⟩ /\ Rp.rep i cs a,λhl ⟨cs,e,h⟩=>⟨cs,e,Rp.mono hl h⟩⟩
structure vG where
 Write : tS
 Value : yB
instance : Rp vG where
 sz:=9
 pos:=by decide
 rep i cs s := ∃v0 v1 v2 v3 : Value,cs = [.string ⟨⟨s.Write.Array.l⟩⟩,v0,.int .i64 s.Value.Kind,.int .i64 s.Value.Num,v1,.int .i64 s.Value.Index.Const,.string ⟨⟨s.Value.Read.Array.l⟩⟩,v2,v3] /\ SL i v0 s.Write.Subs /\ SL i v1 s.Value.Index.Coefs /\ SL i v2 s.Value.Read.Subs /\ SL i v3 s.Value.Kids
 len h:=by obtain⟨v0,v1,v2,v3,rfl,h0,h1,h2,h3⟩:=h;rfl
 mono hm h:=by obtain⟨v0,v1,v2,v3,e,h0,h1,h2,h3⟩:=h;exact⟨v0,v1,v2,v3,e,h0.mono hm,h1.mono hm,h2.mono hm,h3.mono hm⟩
 one h:=by obtain⟨v0,v1,v2,v3,rfl,h0,h1,h2,h3⟩:=h;simp[dR,dQ,h0.one,h1.one,h2.one,h3.one]
theorem zCa{i : Imm}{cs : List Value}{s : vG}(h : Rp.rep i cs s): ∃v0 v1 v2 v3 : Value,cs = [.string ⟨⟨s.Write.Array.l⟩⟩,v0,.int .i64 s.Value.Kind,.int .i64 s.Value.Num,v1,.int .i64 s.Value.Index.Const,.string ⟨⟨s.Value.Read.Array.l⟩⟩,v2,v3] /\ SL i v0 s.Write.Subs /\ SL i v1 s.Value.Index.Coefs /\ SL i v2 s.Value.Read.Subs /\ SL i v3 s.Value.Kids:=h
theorem zJx{i : Imm}{cs : List Value}{s : vG}(h : ∃v0 v1 v2 v3 : Value,cs = [.string ⟨⟨s.Write.Array.l⟩⟩,v0,.int .i64 s.Value.Kind,.int .i64 s.Value.Num,v1,.int .i64 s.Value.Index.Const,.string ⟨⟨s.Value.Read.Array.l⟩⟩,v2,v3] /\ SL i v0 s.Write.Subs /\ SL i v1 s.Value.Index.Coefs /\ SL i v2 s.Value.Read.Subs /\ SL i v3 s.Value.Kids): Rp.rep i cs s:=h
theorem zH5{i : Imm}{cs : List Value}{s : vG}(h : Rp.rep i cs s): ∃(p0 : Option Addr) (c0 : Nat) (p1 : Option Addr) (c1 : Nat) (p2 : Option Addr) (c2 : Nat) (p3 : Option Addr) (c3 : Nat),cs = [.string ⟨⟨s.Write.Array.l⟩⟩,vS p0 s.Write.Subs c0,.int .i64 s.Value.Kind,.int .i64 s.Value.Num,vS p1 s.Value.Index.Coefs c1,.int .i64 s.Value.Index.Const,.string ⟨⟨s.Value.Read.Array.l⟩⟩,vS p2 s.Value.Read.Subs c2,vS p3 s.Value.Kids c3] /\ SL i (vS p0 s.Write.Subs c0) s.Write.Subs /\ SL i (vS p1 s.Value.Index.Coefs c1) s.Value.Index.Coefs /\ SL i (vS p2 s.Value.Read.Subs c2) s.Value.Read.Subs /\ SL i (vS p3 s.Value.Kids c3) s.Value.Kids:=by
 obtain⟨v0,v1,v2,v3,e,h0,h1,h2,h3⟩:=zCa h
 obtain⟨p0,c0,rfl⟩:=h0.form
 obtain⟨p1,c1,rfl⟩:=h1.form
 obtain⟨p2,c2,rfl⟩:=h2.form
 obtain⟨p3,c3,rfl⟩:=h3.form
 exact⟨p0,c0,p1,c1,p2,c2,p3,c3,e,h0,h1,h2,h3⟩
instance : Vr vG:=⟨λi v a => ∃cs,v = .agg ⟨cs⟩ /\ Rp.rep i cs a,λhl ⟨cs,e,h⟩=>⟨cs,e,Rp.mono hl h⟩⟩
structure vH where
 Nest : List vZ
 Body : List vG
instance : Rp vH where
 sz:=2
 pos:=by decide
 rep i cs s := ∃v0 v1 : Value,cs = [v0,v1] /\ SL i v0 s.Nest /\ SL i v1 s.Body
 len h:=by obtain⟨v0,v1,rfl,h0,h1⟩:=h;rfl
 mono hm h:=by obtain⟨v0,v1,e,h0,h1⟩:=h;exact⟨v0,v1,e,h0.mono hm,h1.mono hm⟩
 one h:=by obtain⟨v0,v1,rfl,h0,h1⟩:=h;simp[h0.one,h1.one]
theorem zCb{i : Imm}{cs : List Value}{s : vH}(h : Rp.rep i cs s): ∃v0 v1 : Value,cs = [v0,v1] /\ SL i v0 s.Nest /\ SL i v1 s.Body:=h
theorem zJy{i : Imm}{cs : List Value}{s : vH}(h : ∃v0 v1 : Value,cs = [v0,v1] /\ SL i v0 s.Nest /\ SL i v1 s.Body): Rp.rep i cs s:=h
theorem zH6{i : Imm}{cs : List Value}{s : vH}(h : Rp.rep i cs s): ∃(p0 : Option Addr) (c0 : Nat) (p1 : Option Addr) (c1 : Nat),cs = [vS p0 s.Nest c0,vS p1 s.Body c1] /\ SL i (vS p0 s.Nest c0) s.Nest /\ SL i (vS p1 s.Body c1) s.Body:=by
 obtain⟨v0,v1,e,h0,h1⟩:=zCb h
 obtain⟨p0,c0,rfl⟩:=h0.form
 obtain⟨p1,c1,rfl⟩:=h1.form
 exact⟨p0,c0,p1,c1,e,h0,h1⟩
instance : Vr vH:=⟨λi v a => ∃cs,v = .agg ⟨cs⟩ /\ Rp.rep i cs a,λhl ⟨cs,e,h⟩=>⟨cs,e,Rp.mono hl h⟩⟩
structure wT where
 Arrays : List wQ
 Parts : List vH
instance : Rp wT where
 sz:=2
 pos:=by decide
 rep i cs s := ∃v0 v1 : Value,cs = [v0,v1] /\ SL i v0 s.Arrays /\ SL i v1 s.Parts
 len h:=by obtain⟨v0,v1,rfl,h0,h1⟩:=h;rfl
 mono hm h:=by obtain⟨v0,v1,e,h0,h1⟩:=h;exact⟨v0,v1,e,h0.mono hm,h1.mono hm⟩
 one h:=by obtain⟨v0,v1,rfl,h0,h1⟩:=h;simp[h0.one,h1.one]
theorem zJC{i : Imm}{cs : List Value}{s : wT}(h : Rp.rep i cs s): ∃v0 v1 : Value,cs = [v0,v1] /\ SL i v0 s.Arrays /\ SL i v1 s.Parts:=h
theorem zJD{i : Imm}{cs : List Value}{s : wT}(h : ∃v0 v1 : Value,cs = [v0,v1] /\ SL i v0 s.Arrays /\ SL i v1 s.Parts): Rp.rep i cs s:=h
instance : Vr wT:=⟨λi v a => ∃cs,v = .agg ⟨cs⟩ /\ Rp.rep i cs a,λhl ⟨cs,e,h⟩=>⟨cs,e,Rp.mono hl h⟩⟩
structure zI where
 Name : Str
 Dims : List Int
instance : Rp zI where
 sz:=2
 pos:=by decide
 rep i cs s := ∃v0 : Value,cs = [.string ⟨⟨s.Name.l⟩⟩,v0] /\ SL i v0 s.Dims
 len h:=by obtain⟨v0,rfl,h0⟩:=h;rfl
 mono hm h:=by obtain⟨v0,e,h0⟩:=h;exact⟨v0,e,h0.mono hm⟩
 one h:=by obtain⟨v0,rfl,h0⟩:=h;simp[dR,h0.one]
theorem zCP{i : Imm}{cs : List Value}{s : zI}(h : Rp.rep i cs s): ∃v0 : Value,cs = [.string ⟨⟨s.Name.l⟩⟩,v0] /\ SL i v0 s.Dims:=h
theorem gS{i : Imm}{cs : List Value}{s : zI}(h : ∃v0 : Value,cs = [.string ⟨⟨s.Name.l⟩⟩,v0] /\ SL i v0 s.Dims): Rp.rep i cs s:=h
theorem wB{i : Imm}{cs : List Value}{s : zI}(h : Rp.rep i cs s): ∃(p0 : Option Addr) (c0 : Nat),cs = [.string ⟨⟨s.Name.l⟩⟩,vS p0 s.Dims c0] /\ SL i (vS p0 s.Dims c0) s.Dims:=by
 obtain⟨v0,e,h0⟩:=zCP h
 obtain⟨p0,c0,rfl⟩:=h0.form
 exact⟨p0,c0,e,h0⟩
instance : Vr zI:=⟨λi v a => ∃cs,v = .agg ⟨cs⟩ /\ Rp.rep i cs a,λhl ⟨cs,e,h⟩=>⟨cs,e,Rp.mono hl h⟩⟩
structure zC where
 Coefs : List Int
 Const : Int
instance : Rp zC where
 sz:=2
 pos:=by decide
 rep i cs s := ∃v0 : Value,cs = [v0,.int .i64 s.Const] /\ SL i v0 s.Coefs
 len h:=by obtain⟨v0,rfl,h0⟩:=h;rfl
 mono hm h:=by obtain⟨v0,e,h0⟩:=h;exact⟨v0,e,h0.mono hm⟩
 one h:=by obtain⟨v0,rfl,h0⟩:=h;simp[dQ,h0.one]
theorem zAM{i : Imm}{cs : List Value}{s : zC}(h : Rp.rep i cs s): ∃v0 : Value,cs = [v0,.int .i64 s.Const] /\ SL i v0 s.Coefs:=h
theorem sA{i : Imm}{cs : List Value}{s : zC}(h : ∃v0 : Value,cs = [v0,.int .i64 s.Const] /\ SL i v0 s.Coefs): Rp.rep i cs s:=h
theorem yQ{i : Imm}{cs : List Value}{s : zC}(h : Rp.rep i cs s): ∃(p0 : Option Addr) (c0 : Nat),cs = [vS p0 s.Coefs c0,.int .i64 s.Const] /\ SL i (vS p0 s.Coefs c0) s.Coefs:=by
 obtain⟨v0,e,h0⟩:=zAM h
 obtain⟨p0,c0,rfl⟩:=h0.form
 exact⟨p0,c0,e,h0⟩
instance : Vr zC:=⟨λi v a => ∃cs,v = .agg ⟨cs⟩ /\ Rp.rep i cs a,λhl ⟨cs,e,h⟩=>⟨cs,e,Rp.mono hl h⟩⟩
structure zL where
 Lo : List zC
 Hi : List zC
instance : Rp zL where
 sz:=2
 pos:=by decide
 rep i cs s := ∃v0 v1 : Value,cs = [v0,v1] /\ SL i v0 s.Lo /\ SL i v1 s.Hi
 len h:=by obtain⟨v0,v1,rfl,h0,h1⟩:=h;rfl
 mono hm h:=by obtain⟨v0,v1,e,h0,h1⟩:=h;exact⟨v0,v1,e,h0.mono hm,h1.mono hm⟩
 one h:=by obtain⟨v0,v1,rfl,h0,h1⟩:=h;simp[h0.one,h1.one]
theorem zCc{i : Imm}{cs : List Value}{s : zL}(h : Rp.rep i cs s): ∃v0 v1 : Value,cs = [v0,v1] /\ SL i v0 s.Lo /\ SL i v1 s.Hi:=h
theorem jL{i : Imm}{cs : List Value}{s : zL}(h : ∃v0 v1 : Value,cs = [v0,v1] /\ SL i v0 s.Lo /\ SL i v1 s.Hi): Rp.rep i cs s:=h
theorem uD{i : Imm}{cs : List Value}{s : zL}(h : Rp.rep i cs s): ∃(p0 : Option Addr) (c0 : Nat) (p1 : Option Addr) (c1 : Nat),cs = [vS p0 s.Lo c0,vS p1 s.Hi c1] /\ SL i (vS p0 s.Lo c0) s.Lo /\ SL i (vS p1 s.Hi c1) s.Hi:=by
 obtain⟨v0,v1,e,h0,h1⟩:=zCc h
 obtain⟨p0,c0,rfl⟩:=h0.form
 obtain⟨p1,c1,rfl⟩:=h1.form
 exact⟨p0,c0,p1,c1,e,h0,h1⟩
instance : Vr zL:=⟨λi v a => ∃cs,v = .agg ⟨cs⟩ /\ Rp.rep i cs a,λhl ⟨cs,e,h⟩=>⟨cs,e,Rp.mono hl h⟩⟩
structure zK where
 Array : Str
 Subs : List zC
instance : Rp zK where
 sz:=2
 pos:=by decide
 rep i cs s := ∃v0 : Value,cs = [.string ⟨⟨s.Array.l⟩⟩,v0] /\ SL i v0 s.Subs
 len h:=by obtain⟨v0,rfl,h0⟩:=h;rfl
 mono hm h:=by obtain⟨v0,e,h0⟩:=h;exact⟨v0,e,h0.mono hm⟩
 one h:=by obtain⟨v0,rfl,h0⟩:=h;simp[dR,h0.one]
theorem zB3{i : Imm}{cs : List Value}{s : zK}(h : Rp.rep i cs s): ∃v0 : Value,cs = [.string ⟨⟨s.Array.l⟩⟩,v0] /\ SL i v0 s.Subs:=h
theorem nU{i : Imm}{cs : List Value}{s : zK}(h : ∃v0 : Value,cs = [.string ⟨⟨s.Array.l⟩⟩,v0] /\ SL i v0 s.Subs): Rp.rep i cs s:=h
theorem rD{i : Imm}{cs : List Value}{s : zK}(h : Rp.rep i cs s): ∃(p0 : Option Addr) (c0 : Nat),cs = [.string ⟨⟨s.Array.l⟩⟩,vS p0 s.Subs c0] /\ SL i (vS p0 s.Subs c0) s.Subs:=by
 obtain⟨v0,e,h0⟩:=zB3 h
 obtain⟨p0,c0,rfl⟩:=h0.form
 exact⟨p0,c0,e,h0⟩
instance : Vr zK:=⟨λi v a => ∃cs,v = .agg ⟨cs⟩ /\ Rp.rep i cs a,λhl ⟨cs,e,h⟩=>⟨cs,e,Rp.mono hl h⟩⟩
inductive zD where
 | mk (Kind : Int) (Num : Int) (Index : zC) (Read : zK) (Kids : List zD)
def zD.Kind : zD -> Int|.mk x _ _ _ _=>x
def zD.Num : zD -> Int|.mk _ x _ _ _=>x
def zD.Index : zD -> zC|.mk _ _ x _ _=>x
def zD.Read : zD -> zK|.mk _ _ _ x _=>x
def zD.Kids : zD -> (List zD)|.mk _ _ _ _ x=>x
mutual
def zD.repE(i : Imm): zD -> List Value -> Prop
 | .mk Kind Num Index Read Kids,cs => ∃(v0 v1 v2 : Value) (aF : List Value),cs = [.int .i64 Kind,.int .i64 Num,v0,.int .i64 Index.Const,.string ⟨⟨Read.Array.l⟩⟩,v1,v2] /\ SL i v0 Index.Coefs /\ SL i v1 Read.Subs /\ SliceAt i v2 7 aF /\ zD.reps i Kids aF
def zD.reps(i : Imm): List zD -> List Value -> Prop
 | [],cs=>cs = []
 | e :: es,cs => ∃c1 c2,cs = c1++c2 /\ c1.length = 7 /\ zD.repE i e c1 /\ zD.reps i es c2
end
mutual
theorem zDi{i : Imm}: ∀{e : zD} {cs : List Value},zD.repE i e cs -> cs.length = 7
 | .mk ..,cs,h=>by simp only[zD.repE] at h;obtain⟨v0,v1,v2,aF,rfl,_⟩:=h;rfl
end
mutual
theorem zAd{i j : Imm}(hm : i.le j): ∀{e : zD} {cs : List Value},zD.repE i e cs -> zD.repE j e cs
 | .mk ..,cs,h=>by
  simp only[zD.repE] at h ⊢
  obtain⟨v0,v1,v2,aF,e,k0,k1,ha,hb⟩:=h
  exact⟨v0,v1,v2,aF,e,k0.mono hm,k1.mono hm,ha.mono hm,zAe hm hb⟩
theorem zAe{i j : Imm}(hm : i.le j): ∀{es : List zD} {cs : List Value},zD.reps i es cs -> zD.reps j es cs
 | [],cs,h=>by simpa [zD.reps] using h
 | e :: es,cs,h=>by
  simp only[zD.reps] at h ⊢
  obtain⟨c1,c2,h1,h2,h3,h4⟩:=h
  exact⟨c1,c2,h1,h2,zAd hm h3,zAe hm h4⟩
end
theorem gI{i : Imm}: ∀{es : List zD} {cs : List Value},zD.reps i es cs↔RepL (λc e=>zD.repE i e c) 7 cs es
 | [],cs=>by simp[zD.reps,RepL]
 | e :: es,cs=>by
  simp only[zD.reps,RepL]
  constructor
  ·rintro⟨c1,c2,h1,h2,h3,h4⟩;exact⟨c1,c2,h1,h2,h3,gI.1 h4⟩
  ·rintro⟨c1,c2,h1,h2,h3,h4⟩;exact⟨c1,c2,h1,h2,h3,gI.2 h4⟩
theorem zDj{i : Imm}: ∀{e : zD} {cs : List Value},zD.repE i e cs -> ∀v∈cs,v.oneCell' = true
 | .mk ..,cs,h=>by
  simp only[zD.repE] at h
  obtain⟨v0,v1,v2,aF,rfl,k0,k1,ha,_⟩:=h
  simp[dQ,dR,k0.one,k1.one,ha.one]
instance : Rp zD where
 sz:=7
 pos:=by decide
 rep i cs e:=zD.repE i e cs
 len h:=zDi h
 mono hm h:=zAd hm h
 one h:=zDj h
theorem zAq{i : Imm}{cs : List Value}{s : zD}(h : Rp.rep i cs s): ∃v0 v1 v2 : Value,cs = [.int .i64 s.Kind,.int .i64 s.Num,v0,.int .i64 s.Index.Const,.string ⟨⟨s.Read.Array.l⟩⟩,v1,v2] /\ SL i v0 s.Index.Coefs /\ SL i v1 s.Read.Subs /\ SL i v2 s.Kids:=by
 obtain⟨Kind,Num,Index,Read,Kids⟩:=s
 have h : zD.repE i _ cs:=h
 simp only[zD.repE] at h
 obtain⟨v0,v1,v2,aF,e,k0,k1,ha,hb⟩:=h
 exact⟨v0,v1,v2,e,k0,k1,⟨aF,ha,gI.1 hb⟩⟩
theorem wI{i : Imm}{cs : List Value}{s : zD}(h : ∃v0 v1 v2 : Value,cs = [.int .i64 s.Kind,.int .i64 s.Num,v0,.int .i64 s.Index.Const,.string ⟨⟨s.Read.Array.l⟩⟩,v1,v2] /\ SL i v0 s.Index.Coefs /\ SL i v1 s.Read.Subs /\ SL i v2 s.Kids): Rp.rep i cs s:=by
 obtain⟨Kind,Num,Index,Read,Kids⟩:=s
 show zD.repE i _ cs
 simp only[zD.repE]
 obtain⟨v0,v1,v2,e,k0,k1,⟨aF,ha,hb⟩⟩:=h
 exact⟨v0,v1,v2,aF,e,k0,k1,ha,gI.2 hb⟩
theorem yZ{i : Imm}{cs : List Value}{s : zD}(h : Rp.rep i cs s): ∃(p0 : Option Addr) (c0 : Nat) (p1 : Option Addr) (c1 : Nat) (p2 : Option Addr) (c2 : Nat),cs = [.int .i64 s.Kind,.int .i64 s.Num,vS p0 s.Index.Coefs c0,.int .i64 s.Index.Const,.string ⟨⟨s.Read.Array.l⟩⟩,vS p1 s.Read.Subs c1,vS p2 s.Kids c2] /\ SL i (vS p0 s.Index.Coefs c0) s.Index.Coefs /\ SL i (vS p1 s.Read.Subs c1) s.Read.Subs /\ SL i (vS p2 s.Kids c2) s.Kids:=by
 obtain⟨v0,v1,v2,e,h0,h1,h2⟩:=zAq h
 obtain⟨p0,c0,rfl⟩:=h0.form
 obtain⟨p1,c1,rfl⟩:=h1.form
 obtain⟨p2,c2,rfl⟩:=h2.form
 exact⟨p0,c0,p1,c1,p2,c2,e,h0,h1,h2⟩
instance : Vr zD:=⟨λi v a => ∃cs,v = .agg ⟨cs⟩ /\ Rp.rep i cs a,λhl ⟨cs,e,h⟩=>⟨cs,e,Rp.mono hl h⟩⟩
structure zJ where
 Write : zK
 Value : zD
instance : Rp zJ where
 sz:=9
 pos:=by decide
 rep i cs s := ∃v0 v1 v2 v3 : Value,cs = [.string ⟨⟨s.Write.Array.l⟩⟩,v0,.int .i64 s.Value.Kind,.int .i64 s.Value.Num,v1,.int .i64 s.Value.Index.Const,.string ⟨⟨s.Value.Read.Array.l⟩⟩,v2,v3] /\ SL i v0 s.Write.Subs /\ SL i v1 s.Value.Index.Coefs /\ SL i v2 s.Value.Read.Subs /\ SL i v3 s.Value.Kids
 len h:=by obtain⟨v0,v1,v2,v3,rfl,h0,h1,h2,h3⟩:=h;rfl
 mono hm h:=by obtain⟨v0,v1,v2,v3,e,h0,h1,h2,h3⟩:=h;exact⟨v0,v1,v2,v3,e,h0.mono hm,h1.mono hm,h2.mono hm,h3.mono hm⟩
 one h:=by obtain⟨v0,v1,v2,v3,rfl,h0,h1,h2,h3⟩:=h;simp[dR,dQ,h0.one,h1.one,h2.one,h3.one]
theorem zCd{i : Imm}{cs : List Value}{s : zJ}(h : Rp.rep i cs s): ∃v0 v1 v2 v3 : Value,cs = [.string ⟨⟨s.Write.Array.l⟩⟩,v0,.int .i64 s.Value.Kind,.int .i64 s.Value.Num,v1,.int .i64 s.Value.Index.Const,.string ⟨⟨s.Value.Read.Array.l⟩⟩,v2,v3] /\ SL i v0 s.Write.Subs /\ SL i v1 s.Value.Index.Coefs /\ SL i v2 s.Value.Read.Subs /\ SL i v3 s.Value.Kids:=h
theorem oQ{i : Imm}{cs : List Value}{s : zJ}(h : ∃v0 v1 v2 v3 : Value,cs = [.string ⟨⟨s.Write.Array.l⟩⟩,v0,.int .i64 s.Value.Kind,.int .i64 s.Value.Num,v1,.int .i64 s.Value.Index.Const,.string ⟨⟨s.Value.Read.Array.l⟩⟩,v2,v3] /\ SL i v0 s.Write.Subs /\ SL i v1 s.Value.Index.Coefs /\ SL i v2 s.Value.Read.Subs /\ SL i v3 s.Value.Kids): Rp.rep i cs s:=h
theorem xY{i : Imm}{cs : List Value}{s : zJ}(h : Rp.rep i cs s): ∃(p0 : Option Addr) (c0 : Nat) (p1 : Option Addr) (c1 : Nat) (p2 : Option Addr) (c2 : Nat) (p3 : Option Addr) (c3 : Nat),cs = [.string ⟨⟨s.Write.Array.l⟩⟩,vS p0 s.Write.Subs c0,.int .i64 s.Value.Kind,.int .i64 s.Value.Num,vS p1 s.Value.Index.Coefs c1,.int .i64 s.Value.Index.Const,.string ⟨⟨s.Value.Read.Array.l⟩⟩,vS p2 s.Value.Read.Subs c2,vS p3 s.Value.Kids c3] /\ SL i (vS p0 s.Write.Subs c0) s.Write.Subs /\ SL i (vS p1 s.Value.Index.Coefs c1) s.Value.Index.Coefs /\ SL i (vS p2 s.Value.Read.Subs c2) s.Value.Read.Subs /\ SL i (vS p3 s.Value.Kids c3) s.Value.Kids:=by
 obtain⟨v0,v1,v2,v3,e,h0,h1,h2,h3⟩:=zCd h
 obtain⟨p0,c0,rfl⟩:=h0.form
 obtain⟨p1,c1,rfl⟩:=h1.form
 obtain⟨p2,c2,rfl⟩:=h2.form
 obtain⟨p3,c3,rfl⟩:=h3.form
 exact⟨p0,c0,p1,c1,p2,c2,p3,c3,e,h0,h1,h2,h3⟩
instance : Vr zJ:=⟨λi v a => ∃cs,v = .agg ⟨cs⟩ /\ Rp.rep i cs a,λhl ⟨cs,e,h⟩=>⟨cs,e,Rp.mono hl h⟩⟩
structure zN where
 Nest : List zL
 Body : List zJ
instance : Rp zN where
 sz:=2
 pos:=by decide
 rep i cs s := ∃v0 v1 : Value,cs = [v0,v1] /\ SL i v0 s.Nest /\ SL i v1 s.Body
 len h:=by obtain⟨v0,v1,rfl,h0,h1⟩:=h;rfl
 mono hm h:=by obtain⟨v0,v1,e,h0,h1⟩:=h;exact⟨v0,v1,e,h0.mono hm,h1.mono hm⟩
 one h:=by obtain⟨v0,v1,rfl,h0,h1⟩:=h;simp[h0.one,h1.one]
theorem zCe{i : Imm}{cs : List Value}{s : zN}(h : Rp.rep i cs s): ∃v0 v1 : Value,cs = [v0,v1] /\ SL i v0 s.Nest /\ SL i v1 s.Body:=h
theorem mD{i : Imm}{cs : List Value}{s : zN}(h : ∃v0 v1 : Value,cs = [v0,v1] /\ SL i v0 s.Nest /\ SL i v1 s.Body): Rp.rep i cs s:=h
theorem qI{i : Imm}{cs : List Value}{s : zN}(h : Rp.rep i cs s): ∃(p0 : Option Addr) (c0 : Nat) (p1 : Option Addr) (c1 : Nat),cs = [vS p0 s.Nest c0,vS p1 s.Body c1] /\ SL i (vS p0 s.Nest c0) s.Nest /\ SL i (vS p1 s.Body c1) s.Body:=by
 obtain⟨v0,v1,e,h0,h1⟩:=zCe h
 obtain⟨p0,c0,rfl⟩:=h0.form
 obtain⟨p1,c1,rfl⟩:=h1.form
 exact⟨p0,c0,p1,c1,e,h0,h1⟩
instance : Vr zN:=⟨λi v a => ∃cs,v = .agg ⟨cs⟩ /\ Rp.rep i cs a,λhl ⟨cs,e,h⟩=>⟨cs,e,Rp.mono hl h⟩⟩
structure zV where
 Arrays : List zI
 Parts : List zN
instance : Rp zV where
 sz:=2
 pos:=by decide
 rep i cs s := ∃v0 v1 : Value,cs = [v0,v1] /\ SL i v0 s.Arrays /\ SL i v1 s.Parts
 len h:=by obtain⟨v0,v1,rfl,h0,h1⟩:=h;rfl
 mono hm h:=by obtain⟨v0,v1,e,h0,h1⟩:=h;exact⟨v0,v1,e,h0.mono hm,h1.mono hm⟩
 one h:=by obtain⟨v0,v1,rfl,h0,h1⟩:=h;simp[h0.one,h1.one]
theorem oW{i : Imm}{cs : List Value}{s : zV}(h : Rp.rep i cs s): ∃v0 v1 : Value,cs = [v0,v1] /\ SL i v0 s.Arrays /\ SL i v1 s.Parts:=h
theorem fN{i : Imm}{cs : List Value}{s : zV}(h : ∃v0 v1 : Value,cs = [v0,v1] /\ SL i v0 s.Arrays /\ SL i v1 s.Parts): Rp.rep i cs s:=h
theorem zFg{i : Imm}{cs : List Value}{s : zV}(h : Rp.rep i cs s): ∃(p0 : Option Addr) (c0 : Nat) (p1 : Option Addr) (c1 : Nat),cs = [vS p0 s.Arrays c0,vS p1 s.Parts c1] /\ SL i (vS p0 s.Arrays c0) s.Arrays /\ SL i (vS p1 s.Parts c1) s.Parts:=by
 obtain⟨v0,v1,e,h0,h1⟩:=oW h
 obtain⟨p0,c0,rfl⟩:=h0.form
 obtain⟨p1,c1,rfl⟩:=h1.form
 exact⟨p0,c0,p1,c1,e,h0,h1⟩
instance : Vr zV:=⟨λi v a => ∃cs,v = .agg ⟨cs⟩ /\ Rp.rep i cs a,λhl ⟨cs,e,h⟩=>⟨cs,e,Rp.mono hl h⟩⟩
structure yC where
 Part : Int
 Stmt : Int
 Point : List Int
instance : Rp yC where
 sz:=3
 pos:=by decide
 rep i cs s := ∃v0 : Value,cs = [.int .i64 s.Part,.int .i64 s.Stmt,v0] /\ SL i v0 s.Point
 len h:=by obtain⟨v0,rfl,h0⟩:=h;rfl
 mono hm h:=by obtain⟨v0,e,h0⟩:=h;exact⟨v0,e,h0.mono hm⟩
 one h:=by obtain⟨v0,rfl,h0⟩:=h;simp[dQ,h0.one]
theorem zDk{i : Imm}{cs : List Value}{s : yC}(h : ∃v0 : Value,cs = [.int .i64 s.Part,.int .i64 s.Stmt,v0] /\ SL i v0 s.Point): Rp.rep i cs s:=h
instance : Vr yC:=⟨λi v a => ∃cs,v = .agg ⟨cs⟩ /\ Rp.rep i cs a,λhl ⟨cs,e,h⟩=>⟨cs,e,Rp.mono hl h⟩⟩
structure tR where
 nest : List zL
 steps : Int
 out : List (List Int)
instance : Rp tR where
 sz:=3
 pos:=by decide
 rep i cs s := ∃v0 v1 : Value,cs = [v0,.int .i64 s.steps,v1] /\ SL i v0 s.nest /\ SL i v1 s.out
 len h:=by obtain⟨v0,v1,rfl,h0,h1⟩:=h;rfl
 mono hm h:=by obtain⟨v0,v1,e,h0,h1⟩:=h;exact⟨v0,v1,e,h0.mono hm,h1.mono hm⟩
 one h:=by obtain⟨v0,v1,rfl,h0,h1⟩:=h;simp[dQ,h0.one,h1.one]
instance : Vr tR:=⟨λi v a => ∃cs,v = .agg ⟨cs⟩ /\ Rp.rep i cs a,λhl ⟨cs,e,h⟩=>⟨cs,e,Rp.mono hl h⟩⟩
theorem iM{α : Type}[Rp α]{i j : Imm}(h : i.le j){l : List α}{cs : List Value}(hr : RL i cs l): RL j cs l:=RepL.mono (λ_ _=>Rp.mono h) hr
def stB : List HA -> Nat -> List Value -> (List HA -> Option (List HA)) -> Option (List HA)
 | .blk b _ :: t,0,c',k=>k (.blk b ⟨c'⟩ :: t)
 | h :: t,j+1,c',k=>stB t j c' λr=>k (h :: r)
 | _,_,_,_=>none
theorem zJE : ∀{hs : List HA} {j : Nat} {b : Nat} {c : Array Value} {c' : List Value} {k : List HA -> Option (List HA)},hs[j]? = some (.blk b c) -> stB hs j c' k = k (hs.set j (.blk b ⟨c'⟩))
 | [],_,_,_,_,_,h=>by simp at h
 | A :: t,0,b,c,c',k,h=>by
  simp only[ec,Option.some.injEq] at h
  subst h;rfl
 | A :: t,j+1,b,c,c',k,h=>by
  simp only[ed] at h
  rw[stB,zJE h,List.set_cons_succ]
class Mo (X : Prop) (i j : Imm) (Y : outParam Prop) : Prop where
 mo : i.le j -> X -> Y
instance {α : Type} [Rp α] {v : Value} {l : List α} {i j : Imm} : Mo (SL i v l) i j (SL j v l):=⟨λh x=>x.mono h⟩
instance {α : Type} [Rp α] {cs : List Value} {l : List α} {i j : Imm} : Mo (RL i cs l) i j (RL j cs l):=⟨λh x=>iM h x⟩
instance {ad : Addr} {cs : List Value} {i j : Imm} : Mo (At i ad cs) i j (At j ad cs):=⟨λh x=>At.mono h x⟩
instance {α : Type} [Rp α] {v : Value} {o : Option α} {i j : Imm} : Mo (FP i v o) i j (FP j v o):=⟨λh x=>FP.mono x h⟩
instance {α β : Type} [Vr α] [Vr β] {P : Program} {aL : List HA} {v : Value} {φ : α -> Option β} {i j : Imm} : Mo (FV1 P i aL v φ) i j (FV1 P j aL v φ):=⟨λh x=>FV1.mono h x⟩
instance {α β γ : Type} [Vr α] [Vr β] [Vr γ] {P : Program} {aL : List HA} {v : Value} {φ : α -> β -> Option γ} {i j : Imm} : Mo (FV2 P i aL v φ) i j (FV2 P j aL v φ):=⟨λh x=>FV2.mono h x⟩
instance {P : Program} {i j : Imm} : Mo (GH P i) i j (GH P j):=⟨λh x=>GH.mono h x⟩
instance {i0 i j : Imm} : Mo (i0.le i) i j (i0.le j):=⟨λh x=>x.trans h⟩
theorem m2{i j : Imm}{A B A' B' : Prop}(h : i.le j)(a : A)(b : B)[Mo A i j A'][Mo B i j B']: A' /\ B' := ⟨Mo.mo h a,Mo.mo h b⟩
theorem m3{i j : Imm}{A B C A' B' C' : Prop}(h : i.le j)(a : A)(b : B)(c : C)[Mo A i j A'][Mo B i j B'][Mo C i j C']: A' /\ B' /\ C' := ⟨Mo.mo h a,Mo.mo h b,Mo.mo h c⟩
theorem m4{i j : Imm}{A B C D A' B' C' D' : Prop}(h : i.le j)(a : A)(b : B)(c : C)(d : D)[Mo A i j A'][Mo B i j B'][Mo C i j C'][Mo D i j D']: A' /\ B' /\ C' /\ D' := ⟨Mo.mo h a,Mo.mo h b,Mo.mo h c,Mo.mo h d⟩
theorem m5{i j : Imm}{A B C D E A' B' C' D' E' : Prop}(h : i.le j)(a : A)(b : B)(c : C)(d : D)(e : E)[Mo A i j A'][Mo B i j B'][Mo C i j C'][Mo D i j D'][Mo E i j E']: A' /\ B' /\ C' /\ D' /\ E' := ⟨Mo.mo h a,Mo.mo h b,Mo.mo h c,Mo.mo h d,Mo.mo h e⟩
theorem m6{i j : Imm}{A B C D E F A' B' C' D' E' F' : Prop}(h : i.le j)(a : A)(b : B)(c : C)(d : D)(e : E)(f : F)[Mo A i j A'][Mo B i j B'][Mo C i j C'][Mo D i j D'][Mo E i j E'][Mo F i j F']: A' /\ B' /\ C' /\ D' /\ E' /\ F' := ⟨Mo.mo h a,Mo.mo h b,Mo.mo h c,Mo.mo h d,Mo.mo h e,Mo.mo h f⟩
abbrev K1{α : Type}(o : α)(I : Imm)(hs : List HA)(m : α -> FM): Imm -> List HA -> FM -> Prop:=λI' aj m' => ∃t : α,o = t /\ I.le I' /\ aj = hs /\ m' = m t
section
variable {P : Program} {n : Nat} {B : Base} {aa : List Oper} {Q : Exit -> Act -> World -> Prop} {pc : Nat} {imm : Imm} {hs : List HA} {m : FM} {d : Nat}
 {ty : TypeId} {pos : String} {after : Array Edge} {g : Option (Nat × Bool)}
theorem tG{f : FuncId}{x : Operand}{xs : Array Operand}{ts : Array TypeId}{vs : List Value}{post : Nat -> Imm -> List HA -> Value -> Prop}
 (hc : Ret P f vs imm [] post)
 (next : ∀af aj v k,imm.le af -> B.w0.heap.size<=k -> post k af aj v -> (∀b∈aj.flatMap HA.fp,b∈([] : List HA).flatMap HA.fp∨B.w0.heap.size<=b) -> R P n B aa Q (pc+1) af (aj++hs) ((d,v) :: m))
 (ho : aa[pc]? = some ⟨some d,.call { callee:=.value x,args:=xs,argTypes:=ts },ty,pos,after,g⟩:=by rfl) (hg : guardB aa m g = some true:=by rfl) (hn : Nat.blt d n = true:=by rfl) (hx : val m x = some (.func (.func f) #[] #[]):=by rfl) (hf : callable P f = true:=by kernel_rfl)
 (hvs : vals m xs.toList = some vs:=by rfl) : R P n B aa Q pc imm hs m:=
 uZ (hs1:=[]) (rest:=hs) ho hg hn hx hf hvs rfl hc next
theorem zL0{f : FuncId}{x : Operand}{xs : Array Operand}{ts : Array TypeId}{vs : List Value}(hs1 rest : List HA){post : Nat -> Imm -> List HA -> Value -> Prop}
 (hc : Ret P f vs imm hs1 post)
 (next : ∀af aj v k,imm.le af -> B.w0.heap.size<=k -> post k af aj v -> (∀b∈aj.flatMap HA.fp,b∈hs1.flatMap HA.fp∨B.w0.heap.size<=b) -> R P n B aa Q (pc+1) af (aj++rest) ((d,v) :: m))
 (ho : aa[pc]? = some ⟨some d,.call { callee:=.value x,args:=xs,argTypes:=ts },ty,pos,after,g⟩:=by rfl) (hg : guardB aa m g = some true:=by rfl) (hn : Nat.blt d n = true:=by rfl) (hx : val m x = some (.func (.func f) #[] #[]):=by rfl) (hf : callable P f = true:=by kernel_rfl)
 (hvs : vals m xs.toList = some vs:=by rfl) (hh : hs = hs1++rest:=by rfl) : R P n B aa Q pc imm hs m:=
 uZ (hs1:=hs1) (rest:=rest) ho hg hn hx hf hvs hh hc next
theorem zLI(m' : FM)(h : R P n B aa Q pc imm hs m')(hk : keep m (m'.map (·.1)) = some m' := by kernel_rfl): R P n B aa Q pc imm hs m:=fS (zAl hk) h
theorem jJ(cs : List Value)(α : Type)[Rp α]{t len : Nat}{parts : Array (Nat × Operand)}{ps : List (Nat × Value)}
 (next : ∀b,B.w0.heap.size<=b -> R P n B aa Q (pc+1) imm (.osl (.slice (some ⟨b,0,none⟩) len len) (Rp.sz α) cs :: hs) ((d,.slice (some ⟨b,0,none⟩) len len) :: m))
 (ho : aa[pc]? = some ⟨some d,.buildSlice t len parts,ty,pos,after,g⟩:=by rfl) (hg : guardB aa m g = some true:=by rfl) (hn : Nat.blt d n = true:=by rfl) (hps : pvals m parts.toList = some ps:=by rfl) (hc : elemZ P t len ps = some ⟨cs⟩:=by kernel_rfl) (hl : Nat.beq cs.length (len*Rp.sz α) = true:=by kernel_rfl)
 (hlM : Nat.ble len 9223372036854775807 = true:=by rfl) : R P n B aa Q pc imm hs m:=
 nM (cs:=cs) (Rp.sz α) ho hg hn hps hc hl next hlM
theorem nV(c : List Value){t : TypeId}
 (next : ∀b,B.w0.heap.size<=b -> R P n B aa Q (pc+1) imm (.blk b ⟨c⟩ :: hs) ((d,.pointer (some ⟨b,0,none⟩)) :: m))
 (ho : aa[pc]? = some ⟨some d,.alloc t,ty,pos,after,g⟩:=by rfl) (hg : guardB aa m g = some true:=by rfl) (hn : Nat.blt d n = true:=by rfl) (hz : zeroC P t = some ⟨c⟩:=by kernel_rfl) : R P n B aa Q pc imm hs m:=
 xT (c:=⟨c⟩) ho hg hn hz next
theorem uA(c : List Value){t : TypeId}{x : Operand}{v : Value}
 (next : ∀b,B.w0.heap.size<=b -> R P n B aa Q (pc+1) imm (.blk b ⟨c⟩ :: hs) ((d,.pointer (some ⟨b,0,none⟩)) :: m))
 (ho : aa[pc]? = some ⟨some d,.box t x,ty,pos,after,g⟩:=by rfl) (hg : guardB aa m g = some true:=by rfl) (hn : Nat.blt d n = true:=by rfl) (hx : val m x = some v:=by rfl) (hc : v.cells = ⟨c⟩:=by rfl) : R P n B aa Q pc imm hs m:=
 eX (c:=⟨c⟩) ho hg hn hx hc next
theorem I_h{its : List It}{gs : List (List HA)}{N : Nat}{l : List (Nat × Bool)}{ops' : List Oper}{pc : Nat}(m2 : FM)(h : R P n B ops' Q pc imm hs m2)
 (hi : (insM aa its l m).bind (λm1=>keep m1 (m2.map (·.1))) = some m2:=by kernel_rfl) : Ins aa (factsOf N its gs) imm l m hs λm' aj=>R P n B ops' Q pc imm aj m' := by
 obtain⟨m1,h1,h2⟩:=Option.bind_eq_some_iff.1 hi
 refine zE8 (λj it hj => ?_) h1 (fS (zAl h2) h)
 have aH:=(ck.1 hj).1
 unfold factsOf
 rw[dw,ew (by rw[cM];exact aH),dl,hj]
 rfl
theorem wD{ops' : List Oper}{pc d0 : Nat}{φi : Fact}{imm1 : Imm}{v : Value}(ap : imm1.le imm)(h0 : ops'.drop pc = []:=by rfl)(hd : look m d0 = some v:=by rfl)(hφ : φi imm v []:=by exact⟨rfl,rfl⟩): R P n B ops' (OutQ n B φi (some d0) imm1 hs) pc imm hs m:=
 rY (hx:=[]) h0 ap rfl (λ_ e=>by cases e;exact hd) hφ
theorem yM{f : FuncId}{fn : Func}{args : List Value}{post : Nat -> Imm -> List HA -> Value -> Prop}(hf : P.funcs[f]? = some fn)(h : ∀B : Base,J P fn.ntmps B (bodyOf fn) (QB P fn B post) imm hs (argm 0 args))
 (hb : fn.body = some (bodyOf fn):=by rfl) (hn : Nat.ble args.length fn.ntmps = true:=by rfl) : Ret P f args imm hs post:=xW hf hb hn λB _ _=>h B
theorem xU(hx : List HA){ops' : List Oper}{pc d0 : Nat}{φi : Fact}{imm1 : Imm}{hs0 : List HA}{v : Value}(ap : imm1.le imm)(hφ : φi imm v hx)(h0 : ops'.drop pc = []:=by rfl)(hh : hs = hx++hs0:=by rfl)(hd : look m d0 = some v:=by rfl): R P n B ops' (OutQ n B φi (some d0) imm1 hs0) pc imm hs m:=
 rY (hx:=hx) h0 ap hh (λ_ e=>by cases e;exact hd) hφ
theorem yJ{id : Nat}{aa : List Oper}{y : Code}(h : R P n B aa (Exit.then (y.wp P Q) Q) 0 imm hs m): J P n B ((Code.region id aa.toArray false).seq y) Q imm hs m:=zM (zE h)
theorem yE{x y : Code}(h : J P n B x (Exit.then (y.wp P Q) Q) imm hs m): T n B (Exit.then ((x.seq y).wp P Q) Q) .normal imm hs m:=zH (zM h)
theorem wG{id : Nat}{aa : List Oper}{y : Code}(h : R P n B aa (Exit.then (y.wp P Q) Q) 0 imm hs m): T n B (Exit.then (((Code.region id aa.toArray false).seq y).wp P Q) Q) .normal imm hs m:=zH (yJ h)
theorem xZ{id : Nat}{aa : List Oper}{y : Code}(new : FM)(hR : T n B (Exit.then (y.wp P Q) Q) .normal imm hs (new++m))(h : runD P n aa hs 0 aa.length [] (new.map (·.1)) m = some (new,[].map (blkAt hs)):=by kernel_rfl): J P n B ((Code.region id aa.toArray false).seq y) Q imm hs m:=yJ (yO [] new hR h)
theorem zBu{id : Nat}{aa : List Oper}{y : Code}(new : FM)(hR : T n B (Exit.then (y.wp P Q) Q) .normal imm hs (new++m))(h : runD P n aa hs 0 aa.length [] (new.map (·.1)) m = some (new,[].map (blkAt hs)):=by kernel_rfl): T n B (Exit.then (((Code.region id aa.toArray false).seq y).wp P Q) Q) .normal imm hs m:=zH (xZ new hR h)
theorem xH{fn : Func}{post : Nat -> Imm -> List HA -> Value -> Prop}{v : Value}(h1 : ResV P m hs fn.results.toList [v]:=by exact .tmp rfl ResV.nil)(h2 : post B.w0.heap.size imm [] (tupV [v]):=by exact⟨_,rfl,rfl,rfl⟩): T n B (QB P fn B post) .ret imm hs m:=yV ⟨_,_,h1,zO,h2⟩
theorem qJ{f : FuncId}{x : Operand}{xs : Array Operand}{ts : Array TypeId}{vs : List Value}{r : Int}
 (hc : Ret P f vs imm [] λ_ _ aj v => ∃v0,aj = [] /\ v = tupV [v0] /\ v0 = .int .i64 r)
 (next : ∀af,imm.le af -> R P n B aa Q (pc+1) af hs ((d,vI r) :: m))
 (ho : aa[pc]? = some ⟨some d,.call { callee:=.value x,args:=xs,argTypes:=ts },ty,pos,after,g⟩:=by rfl) (hg : guardB aa m g = some true:=by rfl) (hn : Nat.blt d n = true:=by rfl) (hx : val m x = some (.func (.func f) #[] #[]):=by rfl) (hf : callable P f = true:=by kernel_rfl)
 (hvs : vals m xs.toList = some vs:=by rfl) : R P n B aa Q pc imm hs m:=
 tG hc (λaf aj v k h1 _ h3 _=>by obtain⟨v0,rfl,rfl,rfl⟩:=h3;exact next af h1) ho hg hn hx hf hvs
theorem vJ{f : FuncId}{x : Operand}{xs : Array Operand}{ts : Array TypeId}{vs : List Value}{r : Bool}
 (hc : Ret P f vs imm [] λ_ _ aj v => ∃v0,aj = [] /\ v = tupV [v0] /\ v0 = .bool r)
 (next : ∀af,imm.le af -> R P n B aa Q (pc+1) af hs ((d,.bool r) :: m))
 (ho : aa[pc]? = some ⟨some d,.call { callee:=.value x,args:=xs,argTypes:=ts },ty,pos,after,g⟩:=by rfl) (hg : guardB aa m g = some true:=by rfl) (hn : Nat.blt d n = true:=by rfl) (hx : val m x = some (.func (.func f) #[] #[]):=by rfl) (hf : callable P f = true:=by kernel_rfl)
 (hvs : vals m xs.toList = some vs:=by rfl) : R P n B aa Q pc imm hs m:=
 tG hc (λaf aj v k h1 _ h3 _=>by obtain⟨v0,rfl,rfl,rfl⟩:=h3;exact next af h1) ho hg hn hx hf hvs
theorem uQ{id : Nat}{K1 K2 : Act -> World -> Prop}(h : T n B Q (.exit id) imm hs m): J P n B (.exit id) (Exit.then K1 (Exit.then K2 Q)) imm hs m:=oO (yH (yH h))
theorem yS(h : T n B Q .ret imm hs m): T n B (Exit.then ((Code.ret).wp P Q) Q) .normal imm hs m:=zH (yF h)
theorem uP{id : Nat}{c : Code}(h : J P n B c (Exit.inBlock id Q) imm hs m): T n B (Exit.then ((Code.block id c).wp P Q) Q) .normal imm hs m:=zH (zZ h)
theorem xD(is : List Nat){aj : List HA}(h : pick hs is = some aj:=by rfl)(hn : is.Nodup:=by decide): ∀w,Good B imm hs w -> Good B imm aj w:=yN is h hn
theorem tA{t : TypeId}{x y : Operand}{b o : Nat}{c : Array Value}{v : Value}{aj : List HA}(j : Nat)(c' : List Value)(hq : stB hs j c' some = some aj)(next : R P n B aa Q (pc+1) imm aj m)(ho : aa[pc]? = some ⟨none,.store t x y,ty,pos,after,g⟩:=by rfl)(hj : hs[j]? = some (.blk b c):=by rfl)(hx : val m x = some (.pointer (some ⟨b,o,none⟩)):=by rfl)(hy : val m y = some v:=by rfl)(hg : guardB aa m g = some true:=by kernel_rfl)(bv : sizeT P t = some v.cells.size:=by kernel_rfl)(bt : Nat.ble (o+v.cells.size) c.size = true:=by kernel_rfl)(bK : v.cells.toList.all Value.oneCell' = true:=by kernel_rfl)(hc : wr c o v.cells.toList = ⟨c'⟩:=by kernel_rfl): R P n B aa Q pc imm hs m:=
 uJ j c' aj ho hj hx hy next hg bv bt bK hc (by rw[zJE hj] at hq;exact Option.some.inj hq)
end
theorem bE{α β : Type}{o : Option α}{f : α -> Option β}{r : β}{G : Prop}(h : (o >>= f) = some r)(k : ∀x,o = some x -> f x = some r -> G): G:=by
 obtain⟨x,h1,h2⟩:=zF h
 exact k x h1 h2
theorem ct{α : Type}{o t : α}{P1 : Prop}{P2 P3 : α -> Prop}(hM : (pure t : Option α) = some o)(H : P1)(h2 : P2 t:=by rfl)(h3 : P3 t:=by rfl): ∃t',o = t' /\ P1 /\ P2 t' /\ P3 t' := ⟨t,(zB hM).symm,H,h2,h3⟩
abbrev NG(Q : Exit -> Act -> World -> Prop): Prop := ∀gl a w,¬ Q (.goto gl) a w
abbrev NO(Q : Exit -> Act -> World -> Prop): Prop := ∀a w,¬ Q .outgrown a w
abbrev cStmt(x : zJ)(p0 : Option Addr)(c0 : Nat)(p1 : Option Addr)(c1 : Nat)(p2 : Option Addr)(c2 : Nat)(p3 : Option Addr)(c3 : Nat): List Value:=[vT x.Write.Array.l,vS p0 x.Write.Subs c0,vI x.Value.Kind,vI x.Value.Num,vS p1 x.Value.Index.Coefs c1,vI x.Value.Index.Const,vT x.Value.Read.Array.l,vS p2 x.Value.Read.Subs c2,vS p3 x.Value.Kids c3]
abbrev cExpr(x : zD)(p0 : Option Addr)(c0 : Nat)(p1 : Option Addr)(c1 : Nat)(p2 : Option Addr)(c2 : Nat): List Value:=[vI x.Kind,vI x.Num,vS p0 x.Index.Coefs c0,vI x.Index.Const,vT x.Read.Array.l,vS p1 x.Read.Subs c1,vS p2 x.Kids c2]
abbrev cAccess(x : zK)(p0 : Option Addr)(c0 : Nat): List Value:=[vT x.Array.l,vS p0 x.Subs c0]
abbrev cAff(x : zC)(p0 : Option Addr)(c0 : Nat): List Value:=[vS p0 x.Coefs c0,vI x.Const]
abbrev cLoop(x : zL)(p0 : Option Addr)(c0 : Nat)(p1 : Option Addr)(c1 : Nat): List Value:=[vS p0 x.Lo c0,vS p1 x.Hi c1]
abbrev cPart(x : zN)(p0 : Option Addr)(c0 : Nat)(p1 : Option Addr)(c1 : Nat): List Value:=[vS p0 x.Nest c0,vS p1 x.Body c1]
abbrev cProg(x : zV)(p0 : Option Addr)(c0 : Nat)(p1 : Option Addr)(c1 : Nat): List Value:=[vS p0 x.Arrays c0,vS p1 x.Parts c1]
abbrev cArr(x : zI)(p0 : Option Addr)(c0 : Nat): List Value:=[vT x.Name.l,vS p0 x.Dims c0]
abbrev zExpr : List Value:=[vI 0,vI 0,.slice none 0 0,vI 0,vT ([]),.slice none 0 0,.slice none 0 0]
abbrev zTwo : List Value:=[.slice none 0 0,.slice none 0 0]
abbrev z0 : Value:=.slice none 0 0
abbrev vF : Value:=.bool false
abbrev vY : Value:=.bool true
abbrev KT:=Nat -> Imm -> List HA -> Value -> Prop
theorem iS(i : Imm): i.le i:=Imm.le.refl i
theorem iR{i : Imm}: i.le i:=Imm.le.refl i
abbrev S4{α : Type}[Rp α](imm : Imm)(p : Option Addr)(l : List α)(c : Nat): Prop:=SL imm (vS p l c) l
theorem zFR : ∀{ks : List Nat} {m m' : FM},keep m ks = some m' -> m'.map (·.1) = ks
 | [],m,m',h=>by simp only[keep] at h;cases h;rfl
 | k :: ks,m,m',h=>by
  simp only[keep] at h
  split at h
  ·rename_i v m1 h1 h2;cases h;rw[cA,zFR h2]
  ·cases h
theorem zDO{P : Program}{n : Nat}{aa : List Oper}{hs : List HA}{pc k : Nat}{js ks : List Nat}{m new : FM}{bs : List Nat}(h : runD P n aa hs pc k js ks m = some (new,bs)): new.map (·.1) = ks:=by
 unfold runD at h
 split at h
 ·split at h
  ·rename_i hk;cases h;exact zFR hk
  ·cases h
 ·cases h
section
variable {P : Program} {n : Nat} {B : Base} {aa : List Oper} {Q : Exit -> Act -> World -> Prop} {pc : Nat} {imm : Imm} {hs : List HA} {m new : FM} {d : Nat}
theorem yR(pc' : Nat)(js ks : List Nat)(h : runD P n aa hs pc (pc' - pc) js ks m = some (new,js.map (blkAt hs)))(hR : R P n B aa Q pc' imm hs (new++m))
 (hl : Nat.beq (pc+((aa.drop pc).take (pc' - pc)).length) pc' = true:=by kernel_rfl) : R P n B aa Q pc imm hs m:=xF pc' js new hR (by rw[zDO h];exact h) hl
theorem yW(js ks : List Nat)(h : runD P n aa hs pc aa.length js ks m = some (new,js.map (blkAt hs)))(hR : T n B Q .normal imm hs (new++m)): R P n B aa Q pc imm hs m:=yO js new hR (by rw[zDO h];exact h)
theorem zCf(pc' : Nat)(js ks : List Nat)(h : runD P n aa hs pc (pc' - pc) js ks m = some (new,js.map (blkAt hs)))(hR : Rq P n B aa Q pc' imm hs (new++m))
 (hl : Nat.beq (pc+((aa.drop pc).take (pc' - pc)).length) pc' = true:=by kernel_rfl) : Rq P n B aa Q pc imm hs m:=zLZ pc' js new hR (by rw[zDO h];exact h) hl
theorem zJ5(js ks : List Nat)(h : runD P n aa hs pc aa.length js ks m = some (new,js.map (blkAt hs)))(hR : T n B Q .normal imm hs (new++m)): Rq P n B aa Q pc imm hs m:=zIn js new hR (by rw[zDO h];exact h)
theorem yG{id : Nat}{aa : List Oper}{y : Code}(ks : List Nat)(h : runD P n aa hs 0 aa.length [] ks m = some (new,[]))(hR : T n B (Exit.then (y.wp P Q) Q) .normal imm hs (new++m)): J P n B ((Code.region id aa.toArray false).seq y) Q imm hs m:=yJ (yW [] ks h hR)
theorem wJ{id : Nat}{aa : List Oper}{y : Code}(ks : List Nat)(h : runD P n aa hs 0 aa.length [] ks m = some (new,[]))(hR : T n B (Exit.then (y.wp P Q) Q) .normal imm hs (new++m)): T n B (Exit.then (((Code.region id aa.toArray false).seq y).wp P Q) Q) .normal imm hs m:=zH (yG ks h hR)
theorem xM{e : Exit}{m' : FM}(h : T n B Q e imm hs m')(hk : keep m (m'.map (·.1)) = some m' := by kernel_rfl): T n B Q e imm hs m:=dZ m' h hk
theorem gJ{c : Code}{m' : FM}(h : J P n B c Q imm hs m')(hk : keep m (m'.map (·.1)) = some m' := by kernel_rfl): J P n B c Q imm hs m:=rX m' h hk
theorem xV{its : List It}{gs : List (List HA)}{N : Nat}{l : List (Nat × Bool)}{ops' : List Oper}{m2 : FM}(ks : List Nat)
 (hi : (insM aa its l m).bind (λm1=>keep m1 ks) = some m2) (h : R P n B ops' Q pc imm hs m2) : Ins aa (factsOf N its gs) imm l m hs λm' aj=>R P n B ops' Q pc imm aj m' :=
 I_h m2 h (by
  obtain⟨m1,h1,h2⟩:=Option.bind_eq_some_iff.1 hi
  rw[zFR h2];exact hi)
theorem wN(qs : List Nat){c : Bool}{α : Type}{X Y : Option α}{r : α}(hM : (if c = true then X else Y) = some r)(ht : c = true -> X = some r -> R P n B aa Q pc imm hs (qs.map (λq=>(q,Value.bool true))++m))
 (hf : c = false -> Y = some r -> R P n B aa Q pc imm hs (qs.map (λq=>(q,Value.bool false))++m)) (hq : keep m qs = some (qs.map λq=>(q,Value.bool c)):=by kernel_rfl) : R P n B aa Q pc imm hs m:=by
 cases c with
 | true=>exact zK4 (λa f=>zGV hq (λ_ _ _ h=>h) a f) (ht rfl hM)
 | false=>exact zK4 (λa f=>zGV hq (λ_ _ _ h=>h) a f) (hf rfl hM)
theorem zG0(qs : List Nat){c : Bool}{α : Type}{X Y : Option α}{r : α}(hM : (if c = true then X else Y) = some r)(ht : c = true -> X = some r -> Rq P n B aa Q pc imm hs (qs.map (λq=>(q,Value.bool true))++m))
 (hf : c = false -> Y = some r -> Rq P n B aa Q pc imm hs (qs.map (λq=>(q,Value.bool false))++m)) (hq : keep m qs = some (qs.map λq=>(q,Value.bool c)):=by kernel_rfl) : Rq P n B aa Q pc imm hs m:=by
 cases c with
 | true=>exact zIz (λa f=>zGV hq (λ_ _ _ h=>h) a f) (ht rfl hM)
 | false=>exact zIz (λa f=>zGV hq (λ_ _ _ h=>h) a f) (hf rfl hM)
theorem zL1(α : Type)[Rp α](h : RL imm [] ([] : List α) -> R P n B aa Q pc imm (hO α (.slice none 0 0) [] :: hs) m): R P n B aa Q pc imm hs m:=dY (zAZ (Rp.sz α)) (h RepL.nil)
theorem zH7(α : Type)[Rp α]{c : Code}(h : RL imm [] ([] : List α) -> J P n B c Q imm (hO α (.slice none 0 0) [] :: hs) m): J P n B c Q imm hs m:=kU (zAZ (Rp.sz α)) (h RepL.nil)
theorem zIM{α : Type}[Rp α]{cs : List Value}{l : List α}(hr : RL imm cs l){t len : Nat}{parts : Array (Nat × Operand)}{ps : List (Nat × Value)}{ty : TypeId}{pos : String}{after : Array Edge}{g : Option (Nat × Bool)}
 (next : ∀b af,imm.le af -> SL af (.slice (some ⟨b,0,none⟩) len len) l -> R P n B aa Q (pc+1) af hs ((d,.slice (some ⟨b,0,none⟩) len len) :: m))
 (ho : aa[pc]? = some ⟨some d,.buildSlice t len parts,ty,pos,after,g⟩:=by rfl) (hg : guardB aa m g = some true:=by rfl) (hn : Nat.blt d n = true:=by rfl) (hps : pvals m parts.toList = some ps:=by rfl) (hc : elemZ P t len ps = some ⟨cs⟩:=by kernel_rfl) (hl : Nat.beq cs.length (len*Rp.sz α) = true:=by kernel_rfl)
 (hlM : Nat.ble len 9223372036854775807 = true:=by rfl) : R P n B aa Q pc imm hs m:=
 jJ cs α (λb _=>tP 0 rfl λaf ap hl0=>next b af ap (SL.of_frozen hl0 ap hr)) ho hg hn hps hc hl hlM
theorem zH8{f : FuncId}{x : Operand}{xs : Array Operand}{ts : Array TypeId}{vs : List Value}{hs1 rest : List HA}{post : Nat -> Imm -> List HA -> Value -> Prop}{ty : TypeId}{pos : String}{after : Array Edge}{g : Option (Nat × Bool)}
 (hc : Ret P f vs imm hs1 post) (hh : hs = hs1++rest)
 (next : ∀af aj v k,imm.le af -> B.w0.heap.size<=k -> post k af aj v -> (∀b∈aj.flatMap HA.fp,b∈hs1.flatMap HA.fp∨B.w0.heap.size<=b) -> R P n B aa Q (pc+1) af (aj++rest) ((d,v) :: m))
 (ho : aa[pc]? = some ⟨some d,.call { callee:=.value x,args:=xs,argTypes:=ts },ty,pos,after,g⟩:=by rfl) (hg : guardB aa m g = some true:=by rfl) (hn : Nat.blt d n = true:=by rfl) (hx : val m x = some (.func (.func f) #[] #[]):=by rfl) (hf : callable P f = true:=by kernel_rfl)
 (hvs : vals m xs.toList = some vs:=by rfl) : R P n B aa Q pc imm hs m:=zL0 hs1 rest hc next ho hg hn hx hf hvs hh
theorem tZ{α γ : Type}{x : Option α}{f : α -> Option γ}{r : γ}{c : Code}(hM : (x >>= f) = some r)(hs0 : List HA)(mf : α -> FM)
 (h : ∀o,x = some o -> J P n B c (Exit.then (λa w => ∃af aj m',K1 o imm hs0 mf af aj m' /\ Fr n a m' /\ Good B af aj w) Q) imm hs m)
 (k : ∀t af,imm.le af -> f t = some r -> T n B Q .normal af hs0 (mf t)) : J P n B c Q imm hs m:=by
 obtain⟨o,h1,h2⟩:=zF hM
 refine zA0 (K1 o imm hs0 mf) (h o h1) ?_
 rintro af _ _ ⟨t,rfl,ap,rfl,rfl⟩
 exact k _ af ap h2
end
theorem rN{α : Type}[Rp α]{i : Imm}: RL i [] ([] : List α):=RepL.nil
theorem rc{α : Type}[Rp α]{i : Imm}{c1 c2 : List Value}{l : List α}(a : α)(h : Rp.rep i c1 a)(t : RL i c2 l): RL i (c1++c2) (a :: l):=⟨c1,c2,rfl,Rp.len h,h,t⟩
theorem rI{i : Imm}: ∀(l : List Int),RL i (l.map vI) l
 | []=>RepL.nil
 | a :: l=>⟨[vI a],l.map vI,rfl,rfl,rfl,rI l⟩
section
variable {P : Program} {n : Nat} {B : Base} {Q : Exit -> Act -> World -> Prop} {imm : Imm} {hs : List HA} {m : FM} {aa : List Oper} {pc d : Nat} {ty : TypeId} {pos : String} {after : Array Edge} {g : Option (Nat × Bool)}
end
theorem Ret.fz{P : Program}{f : FuncId}{args : List Value}{imm : Imm}{hs : List HA}{post post' : Nat -> Imm -> List HA -> Value -> Prop}(h : Ret P f args imm hs post)(hp : ∀k i h v,post k i h v -> ∃A r,h = A :: r /\ A.plain = true /\ ∀i',i.le i' -> Lent i' A -> post' k i' r v): Ret P f args imm hs post' :=
 λw g=>(h w g).mono λe w' he=>by
  cases e with
  | returned v=>
   obtain⟨i,aj,h1,h2⟩:=he
   obtain⟨A,r,rfl,pl,h3⟩:=hp _ _ _ _ h1
   obtain⟨i',le,hL,hg⟩:=Good.freeze h2 pl
   exact⟨i',r,h3 i' le hL,hg⟩
  | panicked c=>exact he
  | outgrown=>exact he
section
variable {P : Program} {n : Nat} {B : Base} {aa : List Oper} {Q : Exit -> Act -> World -> Prop} {pc : Nat} {imm : Imm} {hs : List HA} {m : FM} {d : Nat}
end
theorem mG{x : Int}(h0 : -9223372036854775808<=x)(h1 : x<=9223372036854775807): W x = x:=by
 show IntKind.i64.wrap x = x
 rw[IntKind.wrap_i64];omega
theorem zDP{α : Type}(l : List α)(k : Nat): idx l (k : Int) = l[k]? := by
 unfold idx
 simp
theorem zG1{k : Nat}(h : k<9223372036854775807): W ((k : Int)+1) = ((k+1 : Nat) : Int):=by
 rw[mG (by omega) (by omega)];omega
structure Raw2 where
 a : Value
 b : Value
instance : Rp Raw2 where
 sz:=2
 pos:=by decide
 rep _ cs r:=cs = [r.a,r.b] /\ r.a.oneCell' = true /\ r.b.oneCell' = true
 len h:=by obtain⟨rfl,_⟩:=h;rfl
 mono _ h:=h
 one h:=by obtain⟨rfl,h1,h2⟩:=h;simp[h1,h2]
def flat : List Raw2 -> List Value
 | []=>[]
 | r :: l=>r.a :: r.b :: flat l
theorem zBK : ∀(a b : List Raw2),flat (a++b) = flat a++flat b
 | [],_=>rfl
 | r :: a,b=>by simp[flat,zBK a b]
theorem zFS{imm : Imm}: ∀{l : List Raw2} {cs : List Value},RL imm cs l -> cs = flat l
 | [],cs,h=>h
 | r :: l,cs,⟨c1,c2,h1,_,h3,h4⟩=>by
  obtain⟨rfl,_⟩:=h3
  rw[h1,zFS h4];rfl
def LP(imm : Imm)(ae : List Raw2)(parts : List zN)(vN : Value)(nl : List zL)(vB : Value)(bl : List zJ): Prop:=
 parts.length<=140737488355328 /\ ae.length = parts.length /\
  ((parts = [] /\ ae = []) ∨ ∃rl l,parts = l++[⟨nl,bl⟩] /\ ae = rl++[⟨vN,vB⟩] /\ RepL (Rp.rep imm) (Rp.sz zN) (flat rl) l)
theorem LP.mono{i j : Imm}(hl : i.le j){ae : List Raw2}{parts : List zN}{vN vB : Value}{nl : List zL}{bl : List zJ}(h : LP i ae parts vN nl vB bl): LP j ae parts vN nl vB bl:=by
 obtain⟨h1,h2,h3⟩:=h
 refine⟨h1,h2,h3.imp id ?_⟩
 rintro⟨rl,l,k1,k2,k3⟩
 exact⟨rl,l,k1,k2,RepL.mono (λ_ _=>Rp.mono hl) k3⟩
structure L4(imm : Imm)(cs : List Value)(arr : List zI)(aM : List Value)(ae : List Raw2)(parts : List zN)(vN : Value)(nl : List zL)(vB : Value)(bl : List zJ)(csN csB : List Value): Prop where
 arr : RL imm cs arr
 raw : RL imm aM ae
 lp : LP imm ae parts vN nl vB bl
 n : RL imm csN nl
 b : RL imm csB bl
theorem L4.mono{i j : Imm}(hl : i.le j){cs : List Value}{arr : List zI}{aM : List Value}{ae : List Raw2}{parts : List zN}{vN vB : Value}{nl : List zL}{bl : List zJ}{csN csB : List Value}
 (h : L4 i cs arr aM ae parts vN nl vB bl csN csB) : L4 j cs arr aM ae parts vN nl vB bl csN csB:=
 ⟨RepL.mono (λ_ _=>Rp.mono hl) h.arr,RepL.mono (λ_ _=>Rp.mono hl) h.raw,h.lp.mono hl,RepL.mono (λ_ _=>Rp.mono hl) h.n,RepL.mono (λ_ _=>Rp.mono hl) h.b⟩
theorem LP.len{imm : Imm}{ae : List Raw2}{parts : List zN}{vN vB : Value}{nl : List zL}{bl : List zJ}(h : LP imm ae parts vN nl vB bl): (parts.length : Int) = (ae.length : Int):=by rw[h.2.1]
theorem LP.part{imm : Imm}{ae : List Raw2}{parts : List zN}{vN vB : Value}{nl : List zL}{bl : List zJ}(h : LP imm ae parts vN nl vB bl)(hN : SL imm vN nl)(hB : SL imm vB bl){l1 : List zN}
 (ha : app 48 parts [(⟨[],[]⟩ : zN)] = some l1) : LP imm (ae++[⟨.slice none 0 0,.slice none 0 0⟩]) l1 (.slice none 0 0) [] (.slice none 0 0) []:=by
 obtain⟨hb,rfl⟩:=zAo ha
 obtain⟨h1,h2,h3⟩:=h
 refine⟨?_,?_,.inr ⟨ae,parts,rfl,rfl,?_⟩⟩
 ·simp at hb ⊢;omega
 ·simp[h2]
 ·rcases h3 with⟨rfl,rfl⟩|⟨rl,l,rfl,rfl,h4⟩
  ·rfl
  ·rw[zBK]
   exact h4.append (.single rfl (mD ⟨_,_,rfl,hN,hB⟩))
theorem zK6{α β : Type}{b : Nat}{l : List α}{m : List α}{l' : List β}{m' : List β}{y : List α}(h : app b l m = some y)(h1 : l'.length = l.length)(h2 : m'.length = m.length): app b l' m' = some (l'++m'):=by
 obtain⟨k,_⟩:=zAo h
 unfold app
 rw[h1,h2,if_pos k]
theorem LP.done{imm : Imm}{ae : List Raw2}{parts : List zN}{vN vB : Value}{nl : List zL}{bl : List zJ}(h : LP imm ae parts vN nl vB bl)(hN : SL imm vN nl)(hB : SL imm vB bl): RepL (Rp.rep imm) (Rp.sz zN) (flat ae) parts:=by
 obtain⟨h1,h2,h3⟩:=h
 rcases h3 with⟨rfl,rfl⟩|⟨rl,l,rfl,rfl,h4⟩
 ·rfl
 ·rw[zBK]
  exact h4.append (.single rfl (mD ⟨_,_,rfl,hN,hB⟩))
section
variable {P : Program} {n : Nat} {B : Base} {Q : Exit -> Act -> World -> Prop} {imm : Imm} {hs : List HA} {m : FM} {aa : List Oper} {pc d : Nat} {ty : TypeId} {pos : String} {after : Array Edge} {g : Option (Nat × Bool)}
end
open Go.RowKit
theorem Good.below{imm : Imm}{w w' : World}(h : Good ⟨w,imm,[]⟩ imm [] w)(b : Below w.heap.size w w')(hd : w.drawn<=w'.drawn): Good ⟨w,imm,[]⟩ imm [] w' := by
 refine⟨λk c e => ?_,by simp,by simp,⟨b.os,b.tape,b.output,b.size,λk hk _=>b.block k hk,λ_ _ _=>rfl,hd⟩⟩
 obtain⟨ty,fr,e'⟩:=h.inv k c e
 exact⟨ty,fr,(b.block k (h.lt_imm e)).trans e'⟩
theorem Good.cell{B : Base}{imm : Imm}{hs : List HA}{w : World}(h : Good B imm hs w){g : Nat}{v : Value}(e : imm g = some #[v]): w.cell? ⟨g,0,none⟩ = some v:=by
 obtain⟨ty,fr,e'⟩:=h.inv _ _ e
 simp only[World.cell?,e']
 simp
theorem zJ6{P : Program}{f : FuncId}{args : List Value}{imm : Imm}{v : Value}{post : Nat -> Imm -> List HA -> Value -> Prop}
 (h : ∀w,Good ⟨w,imm,[]⟩ imm [] w -> Calls P f args.toArray w λe w' => e = .returned v /\ Below w.heap.size w w' /\ w.drawn<=w'.drawn) (hp : ∀k,post k imm [] v) : Ret P f args imm [] post:=λw g=>
 (h w g).mono λe w' ⟨he,hb,hd⟩=>by
  subst he
  exact⟨imm,[],hp _,g.below hb hd⟩
theorem At.of_blk{imm : Imm}{b : Nat}{cs : List Value}(h : imm b = some ⟨cs⟩): At imm ⟨b,0,none⟩ cs:=⟨b,0,_,rfl,h,by simp,by simp⟩
section
variable {P : Program} {n : Nat} {B : Base} {aa : List Oper} {Q : Exit -> Act -> World -> Prop} {pc : Nat} {imm : Imm} {hs : List HA} {m : FM} {d : Nat}
 {ty : TypeId} {pos : String} {after : Array Edge} {g : Option (Nat × Bool)}
end
section
variable {P : Program} {n : Nat} {B : Base} {Q : Exit -> Act -> World -> Prop} {imm : Imm} {hs : List HA} {m : FM} {aa : List Oper} {pc d : Nat} {ty : TypeId} {pos : String} {after : Array Edge} {g : Option (Nat × Bool)}
theorem zH9{t e : TypeId}{w : World}{p : Option Addr}{l c : Nat}(hu : P.underlying t = some (.slice e)): (Op.equal t (.slice p l c) (.slice none 0 0)).run P w = .ok p.isNone w:=by
 have h : ∀d,(Op.equalIn (d+1) t (.slice p l c) (.slice none 0 0)).run P w = .ok p.isNone w:=λd=>by
  rw[Op.equalIn]
  cases p <;> simp[xO hu]
 exact h 9999
def sliceT(P : Program)(t : TypeId): Bool:=match P.underlying t with|some (.slice _)=>true|_=>false
theorem zLJ{t t2 : TypeId}{x : Operand}{p : Option Addr}{l c : Nat}(b : Bool)(ho : aa[pc]? = some ⟨some d,.binOp .eql t x (.const (.slice none 0 0)) t2,ty,pos,after,g⟩)(hb : p.isNone = b)
 (next : R P n B aa Q (pc+1) imm hs ((d,.bool b) :: m)) (hx : val m x = some (.slice p l c)) (hg : guardB aa m g = some true:=by kernel_rfl) (hn : Nat.blt d n = true:=by kernel_rfl) (ht : sliceT P t = true:=by kernel_rfl) : R P n B aa Q pc imm hs m:=by
 unfold sliceT at ht
 split at ht
 ·rename_i e hu
  refine fM ho hg rfl hn λa w f gd=>⟨.bool b,w,imm,hs,?_,gd,next⟩
  have hy : a.eval (.const (.slice none 0 0)) = .slice none 0 0:=rfl
  simp[execOp,f.eval hx,hy,eqGuard,binOp,zH9 hu,hb]
 ·cases ht
end
section
variable {P : Program} {n : Nat} {B : Base} {Q : Exit -> Act -> World -> Prop} {imm : Imm} {hs : List HA} {m : FM}
theorem zJz{c : Code}(aj : List HA)(hp : aj.Perm hs)(h : J P n B c Q imm aj m): J P n B c Q imm hs m:=λa w f g=>h a w f (g.perm hp)
theorem zIp{e : Exit}(aj : List HA)(hp : aj.Perm hs)(h : T n B Q e imm aj m): T n B Q e imm hs m:=λa w f g=>h a w f (g.perm hp)
theorem zLK{c : Code}{L : List HA}(x : Exit)(S : Imm -> List HA -> FM -> Prop)(h1 : ∀B' : Base,J P n B' c (λe a w=>e = x /\ ∃af aj m',S af aj m' /\ Fr n a m' /\ Good B' af aj w) imm hs m)
 (h2 : ∀af aj m',S af aj m' -> imm.le af -> T n B Q x af (aj++L) m') : J P n B c Q imm (hs++L) m:=λa w f g=>by
 have bH:=g.nodup
 rw[da] at bH
 have hg1:=g.enter (hs1:=hs) (λA hA=>cI _ hA) (cz.1 bH).1
 refine wp_mono (h1 _ a w f hg1) λe a' w' he => ?_
 obtain⟨rfl,af,aj,m',k1,k2,k3⟩:=he
 obtain⟨k4,k5,_⟩:=g.leave k3
 exact h2 af aj m' k1 k5 a' w' k2 k4
theorem zLL{B' : Base}{x : Exit}{S : Imm -> List HA -> FM -> Prop}(h : S imm hs m): T n B' (λe a w=>e = x /\ ∃af aj m',S af aj m' /\ Fr n a m' /\ Good B' af aj w) x imm hs m:=λ_ _ f g=>⟨rfl,imm,hs,m,h,f,g⟩
end
structure NL where
 pl : Option Addr
 lo : List zC
 cl : Nat
 csl : List Value
 ph : Option Addr
 hi : List zC
 ch : Nat
 csh : List Value
def NL.vl(x : NL): Value:=vS x.pl x.lo x.cl
def NL.vh(x : NL): Value:=vS x.ph x.hi x.ch
def NL.ha(x : NL): List HA:=[hO zC x.vh x.csh,hO zC x.vl x.csl]
def NL.raw(x : NL): Raw2:=⟨x.vl,x.vh⟩
def NL.d(x : NL): zL:=⟨x.lo,x.hi⟩
def NL.ok(imm : Imm)(x : NL): Prop:=RL imm x.csl x.lo /\ RL imm x.csh x.hi
def NL.fz(imm : Imm)(x : NL): Prop:=SL imm x.vl x.lo /\ SL imm x.vh x.hi
theorem NL.ok.mono{i j : Imm}(h : i.le j){x : NL}(hx : x.ok i): x.ok j:=⟨RepL.mono (λ_ _=>Rp.mono h) hx.1,RepL.mono (λ_ _=>Rp.mono h) hx.2⟩
theorem NL.fz.mono{i j : Imm}(h : i.le j){x : NL}(hx : x.fz i): x.fz j:=⟨hx.1.mono h,hx.2.mono h⟩
section
variable {P : Program} {n : Nat} {B : Base} {Q : Exit -> Act -> World -> Prop} {hs : List HA} {m : FM}
end
theorem zK7{α β : Type}{f : α -> β}{l : List α}{i : Int}{y : β}(h : idx (l.map f) i = some y): ∃x,idx l i = some x /\ y = f x:=by
 obtain⟨h0,h1,h2⟩:=pP h
 rw[dl,Option.map_eq_some_iff] at h2
 obtain⟨x,h3,rfl⟩:=h2
 exact⟨x,by unfold idx;rw[if_pos h0,h3],rfl⟩
theorem zIq{α β : Type}{f : α -> β}{l : List α}{i : Int}{x : α}(h : idx l i = some x): idx (l.map f) i = some (f x):=by
 obtain⟨h0,h1,h2⟩:=pP h
 unfold idx;rw[if_pos h0,dl,h2];rfl
section
variable {P : Program} {n : Nat} {B : Base} {Q : Exit -> Act -> World -> Prop} {hs : List HA} {m : FM} {imm : Imm}
end
def PW(imm : Imm)(ae : List Raw2)(nest : List zL): Prop:=ae.length = nest.length /\ ∀(j : Nat) r d,ae[j]? = some r -> nest[j]? = some d -> SL imm r.a d.Lo /\ SL imm r.b d.Hi
theorem PW.rl{imm : Imm}: ∀{ae : List Raw2} {nest : List zL},PW imm ae nest -> RL imm (flat ae) nest
 | [],[],_=>rfl
 | [],_ :: _,h=>by cases h.1
 | _ :: _,[],h=>by cases h.1
 | r :: ae,d :: nest,h=>⟨[r.a,r.b],flat ae,rfl,rfl,jL ⟨_,_,rfl,h.2 0 r d rfl rfl⟩,PW.rl ⟨by have:=h.1;simpa using this,λj r' d' h1 h2=>h.2 (j+1) r' d' (by simpa using h1) (by simpa using h2)⟩⟩
theorem NL.shut{imm : Imm}{x : NL}(h : x.fz imm): Rp.rep imm [x.vl,x.vh] x.d:=jL ⟨_,_,rfl,h.1,h.2⟩
theorem LP.push{imm : Imm}{ae : List Raw2}{parts : List zN}{vN vB vN' vB' : Value}{nl nl' : List zL}{bl bl' : List zJ}(h : LP imm ae parts vN nl vB bl)(hN : SL imm vN nl)(hB : SL imm vB bl){l1 : List zN}
 (ha : app 48 parts [(⟨nl',bl'⟩ : zN)] = some l1) : LP imm (ae++[⟨vN',vB'⟩]) l1 vN' nl' vB' bl' := by
 obtain⟨hb,rfl⟩:=zAo ha
 obtain⟨h1,h2,h3⟩:=h
 refine⟨?_,?_,.inr ⟨ae,parts,rfl,rfl,?_⟩⟩
 ·simp at hb ⊢;omega
 ·simp[h2]
 ·rcases h3 with⟨rfl,rfl⟩|⟨rl,l,rfl,rfl,h4⟩
  ·rfl
  ·rw[zBK]
   exact h4.append (.single rfl (mD ⟨_,_,rfl,hN,hB⟩))
theorem LP.nil{imm : Imm}: LP imm [] [] (.slice none 0 0) [] (.slice none 0 0) []:=⟨by decide,rfl,.inl ⟨rfl,rfl⟩⟩
structure ND where
 nm : Str
 p : Option Addr
 d : List Int
 c : Nat
 cs : List Value
def ND.v(x : ND): Value:=vS x.p x.d x.c
def ND.ha(x : ND): HA:=hO Int x.v x.cs
def ND.raw(x : ND): Raw2:=⟨vT x.nm.l,x.v⟩
def ND.a(x : ND): zI:=⟨x.nm,x.d⟩
def ND.ok(imm : Imm)(x : ND): Prop:=RL imm x.cs x.d
def ND.fz(imm : Imm)(x : ND): Prop:=SL imm x.v x.d
theorem ND.ok.mono{i j : Imm}(h : i.le j){x : ND}(hx : x.ok i): x.ok j:=RepL.mono (λ_ _=>Rp.mono h) hx
theorem ND.fz.mono{i j : Imm}(h : i.le j){x : ND}(hx : x.fz i): x.fz j:=SL.mono h hx
section
variable {P : Program} {n : Nat} {B : Base} {Q : Exit -> Act -> World -> Prop} {hs : List HA} {m : FM}
end
def RW(imm : Imm)(ae : List Raw2)(A : List zI)(k : Nat)(w : Value): Prop:=ae.length = A.length /\ ∀(j : Nat) r d,ae[j]? = some r -> A[j]? = some d -> r.a = vT d.Name.l /\ (j ≠ k -> SL imm r.b d.Dims) /\ (j = k -> r.b = w)
def ArW(imm : Imm)(v : Value)(ae : List Raw2)(A : List zI)(k : Int)(w : Value): Prop:=SL imm v ae /\ RW imm ae A k.toNat w
theorem ArW.mono{i j : Imm}(h : i.le j){v : Value}{ae : List Raw2}{A : List zI}{k : Int}{w : Value}(hx : ArW i v ae A k w): ArW j v ae A k w:=
 ⟨SL.mono h hx.1,hx.2.1,λq r d h1 h2=>⟨(hx.2.2 q r d h1 h2).1,λhq=>SL.mono h ((hx.2.2 q r d h1 h2).2.1 hq),(hx.2.2 q r d h1 h2).2.2⟩⟩
theorem RW.of{imm : Imm}{xs : List ND}{i : Int}{x : ND}(hx : idx xs i = some x)(h : ∀(j : Nat) y,j ≠ i.toNat -> xs[j]? = some y -> y.fz imm): RW imm (xs.map ND.raw) (xs.map ND.a) i.toNat x.v:=by
 obtain⟨h0,h1,h2⟩:=pP hx
 refine⟨by simp,λj r d hr hd => ?_⟩
 rw[dl,Option.map_eq_some_iff] at hr hd
 obtain⟨y,hy,rfl⟩:=hr
 obtain⟨y',hy',rfl⟩:=hd
 rw[hy] at hy'
 cases hy'
 refine⟨rfl,λhj=>h j y hj hy,λhj => ?_⟩
 subst hj
 rw[h2] at hy
 cases hy;rfl
theorem RW.at{imm : Imm}{ae : List Raw2}{A : List zI}{k : Int}{w : Value}(h : RW imm ae A k.toNat w){a : zI}(ha : idx A k = some a): idx ae k = some ⟨vT a.Name.l,w⟩:=by
 obtain⟨h0,h1,h2⟩:=pP ha
 have aH:=(ck.1 h2).1
 have hr : ae[k.toNat]? = some (ae[k.toNat]'(by rw[h.1];exact aH)):=b9 _
 obtain⟨e1,_,e2⟩:=h.2 _ _ _ hr h2
 unfold idx
 rw[if_pos h0,hr]
 congr 1
 generalize ae[k.toNat]'(by rw[h.1];exact aH) = r at *
 cases r
 simp only at e1 e2
 rw[e1,e2 trivial]
theorem RW.rl{imm : Imm}: ∀{ae : List Raw2} {A : List zI},ae.length = A.length -> (∀(j : Nat) r d,ae[j]? = some r -> A[j]? = some d -> r.a = vT d.Name.l /\ SL imm r.b d.Dims) -> RL imm (flat ae) A
 | [],[],_,_=>rfl
 | [],_ :: _,h,_=>by cases h
 | _ :: _,[],h,_=>by cases h
 | r :: ae,d :: A,h,hh=>⟨[r.a,r.b],flat ae,rfl,rfl,by
  obtain⟨e1,e2⟩:=hh 0 r d rfl rfl
  rw[e1]
  exact gS ⟨_,rfl,e2⟩,RW.rl (by simpa using h) λj r' d' h1 h2=>hh (j+1) r' d' (by simpa using h1) (by simpa using h2)⟩
theorem RW.set{imm : Imm}{ae : List Raw2}{A : List zI}{k : Int}{w : Value}(h : RW imm ae A k.toNat w){a : zI}(ha : idx A k = some a){d : List Int}(hd : SL imm w d): RL imm (flat ae) (A.set k.toNat ⟨a.Name,d⟩):=by
 obtain⟨h0,h1,h2⟩:=pP ha
 refine RW.rl (by rw[cF];exact h.1) λj r y hr hy => ?_
 by_cases hj : j = k.toNat
 ·subst hj
  rw[List.getElem?_set_self (ck.1 h2).1] at hy
  cases hy
  obtain⟨e1,_,e2⟩:=h.2 _ r a hr h2
  exact⟨e1,by rw[e2 rfl];exact hd⟩
 ·rw[List.getElem?_set_ne (λe=>hj e.symm)] at hy
  obtain⟨e1,e2,_⟩:=h.2 _ r y hr hy
  exact⟨e1,e2 hj⟩
theorem ArW.done{imm : Imm}{p : Option Addr}{c : Nat}{ae : List Raw2}{A : List zI}{k : Int}{w : Value}(h : ArW imm (vS p ae c) ae A k w){a : zI}(ha : idx A k = some a){d : List Int}(hd : SL imm w d): SL imm (vS p (A.set k.toNat ⟨a.Name,d⟩) c) (A.set k.toNat ⟨a.Name,d⟩):=by
 obtain⟨⟨aF,h1,h2⟩,h3⟩:=h
 refine⟨aF,?_,?_⟩
 ·have e : (vS p (A.set k.toNat ⟨a.Name,d⟩) c) = vS p ae c:=by simp only[vS,cF,h3.1]
  rw[e];exact h1
 ·rw[zFS h2];exact h3.set ha hd
theorem zJ7(a : HA)(l N : List HA): (l++(N++[a])).Perm ((a :: l)++N):=by
 rw[<- bZ]
 exact cf (l₁:=l++N) (l₂:=[a])
section
variable {P : Program} {n : Nat} {B : Base} {imm : Imm} {hs : List HA} {m : FM}
theorem zKy{aa : List Oper}{Q : Exit -> Act -> World -> Prop}{pc : Nat}(aj : List HA)(hp : aj.Perm hs)(h : R P n B aa Q pc imm aj m): R P n B aa Q pc imm hs m:=λa w f g=>h a w f (g.perm hp)
end
structure NB where
 vN : Value
 nl : List zL
 p : Option Addr
 d : List zJ
 c : Nat
 cs : List Value
def NB.v(x : NB): Value:=vS x.p x.d x.c
def NB.ha(x : NB): HA:=hO zJ x.v x.cs
def NB.raw(x : NB): Raw2:=⟨x.vN,x.v⟩
def NB.a(x : NB): zN:=⟨x.nl,x.d⟩
def NB.ok(imm : Imm)(x : NB): Prop:=SL imm x.vN x.nl /\ RL imm x.cs x.d
def NB.fz(imm : Imm)(x : NB): Prop:=SL imm x.vN x.nl /\ SL imm x.v x.d
theorem NB.ok.mono{i j : Imm}(h : i.le j){x : NB}(hx : x.ok i): x.ok j:=⟨SL.mono h hx.1,RepL.mono (λ_ _=>Rp.mono h) hx.2⟩
theorem NB.fz.mono{i j : Imm}(h : i.le j){x : NB}(hx : x.fz i): x.fz j:=⟨SL.mono h hx.1,SL.mono h hx.2⟩
abbrev NBs(xs : List NB): List HA:=xs.map NB.ha
theorem NB.shut{imm : Imm}{x : NB}(h : x.fz imm): Rp.rep imm [x.vN,x.v] x.a:=mD ⟨_,_,rfl,h.1,h.2⟩
theorem zIN{imm : Imm}: ∀{xs : List NB},(∀x∈xs,x.fz imm) -> RL imm (flat (xs.map NB.raw)) (xs.map NB.a)
 | [],_=>rfl
 | x :: xs,h=>⟨[x.vN,x.v],flat (xs.map NB.raw),rfl,rfl,NB.shut (h x (ci ..)),zIN λy hy=>h y (cd _ hy)⟩
theorem zK8{imm : Imm}{xs : List NB}(h : ∀x∈xs,x.ok imm){z : NB}(hN : SL imm z.vN z.nl)(hq : RL imm z.cs z.d): ∀x∈xs++[z],x.ok imm:=by
 intro x hx
 rcases dj.1 hx with k|k
 ·exact h x k
 ·rw[dc.1 k];exact⟨hN,hq⟩
theorem zKz{imm : Imm}{xs : List NB}(h : ∀x∈xs,x.ok imm){z : NB}(hz : z.ok imm)(k : Nat): ∀x∈xs.set k z,x.ok imm:=by
 intro x hx
 rcases List.mem_or_eq_of_mem_set hx with k|k
 ·exact h x k
 ·exact k ▸ hz
theorem zHM{xs : List NB}{k : Nat}{x : NB}(h : xs[k]? = some x): (NBs xs).Perm (x.ha :: NBs (xs.eraseIdx k)):=(gY h).map NB.ha
theorem zKA{xs : List NB}{k : Nat}{x z : NB}(h : xs[k]? = some x): (NBs (xs.set k z)).Perm (z.ha :: NBs (xs.eraseIdx k)):=by
 have hk:=(ck.1 h).1
 have e : (xs.set k z)[k]? = some z:=List.getElem?_set_self hk
 have:=zHM e
 rwa[List.eraseIdx_set_eq] at this
theorem zK9{xs : List NB}{k : Nat}{x z : NB}(h : xs[k]? = some x)(hr : z.raw = x.raw): (xs.set k z).map NB.raw = xs.map NB.raw:=by
 rw[List.map_set,hr]
 have : (xs.map NB.raw)[k]? = some x.raw:=by rw[dl,h];rfl
 obtain⟨hk',e⟩:=ck.1 this
 rw[<- e,List.set_getElem_self]
section
variable {P : Program} {n : Nat} {B : Base} {Q : Exit -> Act -> World -> Prop} {hs : List HA} {m : FM}
theorem zG2{e : Exit}: ∀(xs : List NB) {imm : Imm},(∀x∈xs,x.ok imm) -> (∀af,imm.le af -> (∀x∈xs,x.fz af) -> T n B Q e af hs m) -> T n B Q e imm (NBs xs++hs) m
 | [],imm,_,h=>h imm (Imm.le.refl _) (λ_ h=>by cases h)
 | x :: xs,imm,hx,h=>by
  have h1:=hx x (ci ..)
  show T n B Q e imm (hO zJ x.v x.cs :: (NBs xs++hs)) m
  refine uY 0 rfl ?_
  intro imm1 ai hl1
  have k1 : SL imm1 x.v x.d:=SL.of_frozen hl1 ai h1.2
  have k0:=h1.1.mono ai
  refine zG2 xs (λy hy=>(hx y (cd _ hy)).mono ai) ?_
  intro imm3 aR h3
  refine h imm3 (ai.trans aR) λy hy => ?_
  rcases cP.1 hy with rfl|hy
  ·exact⟨SL.mono aR k0,SL.mono aR k1⟩
  ·exact h3 y hy
end
theorem zKB{imm : Imm}{p : Option Addr}{c : Nat}{xs : List NB}(h : SL imm (vS p (xs.map NB.raw) c) (xs.map NB.raw))(hx : ∀x∈xs,x.fz imm): SL imm (vS p (xs.map NB.a) c) (xs.map NB.a):=by
 obtain⟨aF,h1,h2⟩:=h
 refine⟨aF,?_,?_⟩
 ·have e : (vS p (xs.map NB.a) c) = vS p (xs.map NB.raw) c:=by simp only[vS,cM]
  rw[e];exact h1
 ·rw[zFS h2];exact zIN hx
open Go.Proofs
section
variable {P : Program} {n : Nat} {B : Base} {Q : Exit -> Act -> World -> Prop} {imm : Imm} {hs : List HA} {m : FM} {aa : List Oper} {pc d : Nat} {ty : TypeId} {pos : String} {after : Array Edge} {g : Option (Nat × Bool)}
end
section
variable {P : Program} {n : Nat} {B : Base} {aa : List Oper} {Q : Exit -> Act -> World -> Prop} {pc : Nat} {imm : Imm} {hs : List HA} {m : FM} {d : Nat}
end
end Go.LN
