/- Helper of the proof (see the last text). -/
import Derived.Test.YtaflkghnfcjahaaGreatLnA
import Derived.Test.YtaflkghnfcjahaaGreatLnH
import Derived.Test.YtaflkghnfcjahaaGreatLnN
import Derived.Test.YtaflkghnfcjahaaGreatTryzShelf
import Derived.Test.YtaflkghnfcjahaaGreatHM1
import Derived.Test.YtaflkghnfcjahaaGreatHM2
import Derived.Test.YtaflkghnfcjahaaGreatHM3
import Derived.Test.YtaflkghnfcjahaaGreatHM4
import Derived.Test.YtaflkghnfcjahaaGreatHM5
import Derived.Test.YtaflkghnfcjahaaGreatHM6
import Derived.Test.YtaflkghnfcjahaaGreatHM7
import Derived.Test.YtaflkghnfcjahaaGreatHM8
import Derived.Test.YtaflkghnfcjahaaGreatQT
import Derived.Test.YtaflkghnfcjahaaGreatQZ
import Derived.Test.YtaflkghnfcjahaaGreatVB1
import Derived.Test.YtaflkghnfcjahaaGreatVB8
import Derived.Test.YtaflkghnfcjahaaGreatLnR
set_option linter.unusedVariables false
set_option linter.unusedSimpArgs false
namespace Go.LN
section
variable {P:Program}{n:Nat}{B:Base}{Q:Exit→Act→World→Prop}{imm:Imm}{hs:List HA}{m:FM}{ops:List Oper}{pc d:Nat}
theorem zN1 {α:Type} [Rp α] {t:TypeId}{x xi:Operand}{a0:Option Addr}{cap0:Nat}{k:IntKind}{i:Int}{cs:List Value}{l:List α}{y:α} (j:Nat)
    (hj:hs[j]?=some (.osl (.slice a0 l.length cap0) (Rp.sz α) cs)) (hx:val m x=some (.slice a0 l.length cap0)) (hi:val m xi=some (.int k i)) (ht:elemT P t=some (Rp.sz α))
    (hr:RepL (Rp.rep imm) (Rp.sz α) cs l) (hy:idx l i=some y) (hne:∃ b off,a0=some ⟨b,off,none⟩) :
    ∃ ad cc,AtO (.slice a0 l.length cap0) (Rp.sz α) i.toNat ad∧(cs.drop (i.toNat * Rp.sz α)).take (Rp.sz α)=cc∧Rp.rep imm cc y∧Reads P n B imm hs m (.indexAddr t x xi) (.pointer (some ad)):=by
  obtain ⟨h0,h1,h2⟩:=qK hy
  obtain ⟨hrep,hbd⟩:=hr.at h2
  obtain ⟨b,off,rfl⟩:=hne
  exact ⟨_,_,⟨b,off,_,cap0,rfl,rfl,by omega⟩,rfl,hrep,fun oo a w he f gd=>by simp only [execOp,he,f.eval hx,f.eval hi,Sem.run_bind,zBv ht h0 h1,Result.andThen_ok,Sem.run_pure]⟩
theorem zN5 {t:TypeId}{x:Operand}{v0:Value}{sz i:Nat}{ad:Addr}{cs cc cc':List Value}{v:Value} (j o:Nat) (hj:hs[j]?=some (.osl v0 sz cs)) (hat:AtO v0 sz i ad) (hx:val m x=some (.pointer (some (ad.add o))))
    (hcc:(cs.drop (i * sz)).take sz=cc) (hol:Nat.ble (o + cc'.length) sz=true) (hc:(cc.drop o).take cc'.length=cc') (hv:loadV P t cc'=some v):Reads P n B imm hs m (.load t x) v:=fun oo a w he f gd=>by
  obtain ⟨b,off,len,cap,rfl,rfl,hi⟩:=hat
  have hol:=Nat.le_of_ble_eq_true hol
  have him:i * sz + sz ≤ len * sz:=by have:=Nat.mul_le_mul_right sz hi; rw [Nat.succ_mul] at this; exact this
  rcases gd.readO (sF hj) with ⟨e,_⟩ | ⟨b',off',len',cap',c,ty',fr,e,hw,hle,hcl,hcs⟩
  · cases e
  · injection e with e1 e2 e3
    injection e1 with e1
    injection e1 with e1 e4 e5
    subst e1; subst e4; subst e2
    have hcells:(c.toList.drop (off + i * sz + o)).take cc'.length=cc':=by
      conv=>rhs; rw [← hc,← hcc,← hcs]
      simp only [List.drop_take,List.take_take,List.drop_drop]
      rw [show off + i * sz + o=off + (i * sz + o) from by omega]
      congr 1
      omega
    simp only [execOp,he,f.eval hx,Instr.loadAt,Instr.sureAddr,Sem.run_bind,Sem.run_pure,Result.andThen_ok,kF,fS hw (by omega) hcells hv]
end
end Go.LN
namespace Go.LN
section
variable {P:Program}{n:Nat}{B:Base}{Q:Exit→Act→World→Prop}{imm:Imm}{hs:List HA}{m:FM}{ops:List Oper}{pc d:Nat}
section
variable {ty:TypeId}{pos:String}{after:Array Edge}{g:Option (Nat×Bool)}
theorem zN2 {α:Type} [Rp α] {t:TypeId}{x xi:Operand}{v:Value}{k:IntKind}{i:Int}{cs:List Value}{l:List α}{y:α} (j:Nat)
    (ho:ops[pc]?=some ⟨some d,.indexAddr t x xi,ty,pos,after,g⟩) (hg:guardB ops m g=some true) (hn:Nat.blt d n=true) (hj:hs[j]?=some (.osl v (Rp.sz α) cs)) (hx:val m x=some v) (hi:val m xi=some (.int k i)) (ht:elemT P t=some (Rp.sz α))
    (hr:RepL (Rp.rep imm) (Rp.sz α) cs l) (hy:idx l i=some y)
    (next:∀ ad cc,AtO v (Rp.sz α) i.toNat ad→(cs.drop (i.toNat * Rp.sz α)).take (Rp.sz α)=cc→Rp.rep imm cc y→Rq P n B ops Q (pc + 1) imm hs ((d,.pointer (some ad))::m)):Rq P n B ops Q pc imm hs m:=fun a w f gd=>by
  obtain ⟨h0,h1,h2⟩:=qK hy
  obtain ⟨hrep,hbd⟩:=hr.at h2
  rcases gd.readO (sF hj) with ⟨rfl,rfl⟩ | ⟨b,off,len,cap,c,ty',fr,rfl,hw,hle,hcl,hcs⟩
  · have:=Rp.pos (α:=α)
    simp at hbd; omega
  · have hlen:=hr.length
    have hll:len=l.length:=oV (Rp.pos (α:=α)) (by omega)
    subst hll
    obtain ⟨ad,cc,k1,k2,k3,k4⟩:=zN1 (P:=P) (n:=n) (B:=B) j hj hx hi ht hr hy ⟨b,off,rfl⟩
    exact zAp ho hg rfl hn k4 (next ad cc k1 k2 k3) a w f gd
theorem zN6 {t:TypeId}{x:Operand}{v0:Value}{sz i:Nat}{ad:Addr}{cs cc cc':List Value}{v:Value} (j o:Nat)
    (ho:ops[pc]?=some ⟨some d,.load t x,ty,pos,after,g⟩) (hg:guardB ops m g=some true) (hn:Nat.blt d n=true) (hj:hs[j]?=some (.osl v0 sz cs)) (hat:AtO v0 sz i ad) (hx:val m x=some (.pointer (some (ad.add o))))
    (hcc:(cs.drop (i * sz)).take sz=cc) (hol:Nat.ble (o + cc'.length) sz=true) (hc:(cc.drop o).take cc'.length=cc') (hv:loadV P t cc'=some v) (next:Rq P n B ops Q (pc + 1) imm hs ((d,v)::m)):Rq P n B ops Q pc imm hs m :=
  zAp ho hg rfl hn (zN5 j o hj hat hx hcc hol hc hv) next
end
end
end Go.LN
namespace Go.LN
section
variable {P:Program}{n:Nat}{B:Base}{Q:Exit→Act→World→Prop}{imm:Imm}{hs:List HA}{m:FM}{ops:List Oper}{pc d:Nat}{ty:TypeId}{pos:String}{after:Array Edge}{g:Option (Nat×Bool)}
theorem zNr {α:Type} [Rp α] {t:TypeId}{x xi:Operand}{v:Value}{k:IntKind}{i:Int}{cs:List Value}{l:List α}{y:α} (j:Nat) (ho:ops[pc]?=some ⟨some d,.indexAddr t x xi,ty,pos,after,g⟩) (hi:val m xi=some (.int k i)) (hj:hs[j]?=some (.osl v (Rp.sz α) cs)) (hr:RepL (Rp.rep imm) (Rp.sz α) cs l) (hy:idx l i=some y) (next:∀ ad cc,AtO v (Rp.sz α) i.toNat ad→(cs.drop (i.toNat * Rp.sz α)).take (Rp.sz α)=cc→Rp.rep imm cc y→Rq P n B ops Q (pc + 1) imm hs ((d,.pointer (some ad))::m)) (hg:guardB ops m g=some true:=by kernel_rfl) (hn:Nat.blt d n=true:=by kernel_rfl) (hx:val m x=some v:=by kernel_rfl) (ht:elemT P t=some (Rp.sz α):=by kernel_rfl):Rq P n B ops Q pc imm hs m :=
  zN2 j ho hg hn hj hx hi ht hr hy next
theorem zOE {t:TypeId}{x:Operand}{v0:Value}{sz i:Nat}{ad:Addr}{cs cc:List Value} (j o:Nat) (hat:AtO v0 sz i ad) (hcc:(cs.drop (i * sz)).take sz=cc) (cc':List Value) (v:Value) (ho:ops[pc]?=some ⟨some d,.load t x,ty,pos,after,g⟩) (hj:hs[j]?=some (.osl v0 sz cs)) (next:Rq P n B ops Q (pc + 1) imm hs ((d,v)::m)) (hg:guardB ops m g=some true:=by kernel_rfl) (hn:Nat.blt d n=true:=by kernel_rfl) (hx:val m x=some (.pointer (some (ad.add o))):=by kernel_rfl) (hol:Nat.ble (o + cc'.length) sz=true:=by kernel_rfl) (hc:(cc.drop o).take cc'.length=cc':=by kernel_rfl) (hv:loadV P t cc'=some v:=by kernel_rfl):Rq P n B ops Q pc imm hs m :=
  zN6 j o ho hg hn hj hat hx hcc hol hc hv next
end
end Go.LN
namespace Go.LN
def mkrow {α:Type} (bytes:Nat) (k:Int) (z:α):Option (List α):=if 0 ≤ k∧k.toNat * bytes ≤ 140737488355328 then some (List.replicate k.toNat z) else none
def zrow (z:Array Value) (k:Nat):List Value:=(List.range k).map fun i=>z[i % z.size]!
theorem zNs (z:Array Value) (k:Nat) (h:0 < z.size):(List.range z.size).map (fun i=>z[(k * z.size + i) % z.size]!)=z.toList:=by
  refine List.ext_getElem (by simp) fun i h1 h2=>?_;have hi:i < z.size:=by simpa using h1
  simp only [List.getElem_map,List.getElem_range,Array.getElem_toList];have e:(k * z.size + i) % z.size=i:=by rw [Nat.add_comm,Nat.mul_comm,Nat.add_mul_mod_self_left,Nat.mod_eq_of_lt hi]
  rw [e];exact getElem!_pos z i hi
theorem zN7 {α:Type}{ρ:List Value→α→Prop}{z:Array Value}{a:α} (hz:0 < z.size) (h:ρ z.toList a):∀ k,RepL ρ z.size (zrow z (k * z.size)) (List.replicate k a)
  | 0=>by simp [zrow,RepL]
  | k + 1=>by
    have e:zrow z ((k + 1) * z.size)=zrow z (k * z.size) ++ z.toList:=by
      unfold zrow
      rw [Nat.succ_mul,List.range_add,List.map_append,List.map_map]
      congr 1
      exact zNs z k hz
    rw [e,List.replicate_succ']
    exact (zN7 hz h k).append (.single (by simp) h)
section
variable {P:Program}{n:Nat}{B:Base}{Q:Exit→Act→World→Prop}{imm:Imm}{hs:List HA}{m:FM}{ops:List Oper}{pc d:Nat}{ty:TypeId}{pos:String}{after:Array Edge}{g:Option (Nat×Bool)}
def mkT (P:Program) (t:TypeId):Option (Nat×Nat×List Value) :=
  match elemOfT P t with
  | some e=>match sizeT P e,bytesT P e,zeroC P e with
    | some s,some b,some z=>bif Nat.beq z.size s && Nat.blt 0 b then some (s,b,z.toList) else none
    | _,_,_=>none
  | none=>none
theorem zOO {α:Type} [Rp α] {t:TypeId}{x y:Operand}{k:Int}{a:α}{l:List α} (by':Nat) (z:List Value) (ho:ops[pc]?=some ⟨some d,.makeSlice t x y,ty,pos,after,g⟩) (hk:mkrow by' k a=some l) (hr:Rp.rep imm z a)
    (next:∀ b cs,RL imm cs l→R P n B ops Q (pc + 1) imm (.osl (.slice (some ⟨b,0,none⟩) l.length l.length) (Rp.sz α) cs::hs) ((d,.slice (some ⟨b,0,none⟩) l.length l.length)::m))
    (hg:guardB ops m g=some true:=by kernel_rfl) (hn:Nat.blt d n=true:=by kernel_rfl) (hx:val m x=some (.int .i64 k):=by kernel_rfl) (hy:val m y=some (.int .i64 k):=by kernel_rfl) (ht:mkT P t=some (Rp.sz α,by',z):=by kernel_rfl) :
    R P n B ops Q pc imm hs m:=by
  refine kD ho hg rfl hn fun ac w f gd=>?_
  unfold mkrow at hk
  split at hk
  · rename_i hk0
    cases hk
    obtain ⟨hk0,hkb⟩:=hk0
    unfold mkT at ht
    cases he:elemOfT P t with
    | none=>rw [he] at ht; cases ht
    | some e =>
      rw [he] at ht
      simp only at ht
      split at ht
      · rename_i s b zc h1 h2 h3
        cases hq:Nat.beq zc.size s && Nat.blt 0 b with
        | false=>rw [hq] at ht; cases ht
        | true =>
          rw [hq] at ht
          simp only [cond_true,Option.some.injEq,Prod.mk.injEq] at ht
          obtain ⟨rfl,rfl,rfl⟩:=ht
          rw [Bool.and_eq_true] at hq
          have hzs:=Nat.eq_of_beq_eq_true hq.1
          have hb0:0 < b:=by simpa using hq.2
          have hu:P.underlying t=some (.slice e):=by
            unfold elemOfT at he
            split at he <;> simp_all
          cases hie:P.info? e with
          | none=>simp [sizeT,hie] at h1
          | some ie =>
          have hsz':ie.size=Rp.sz α:=by simpa [sizeT,hie] using h1
          have hby':ie.bytes=b:=by simpa [bytesT,hie] using h2
          obtain ⟨zv,hz1,hz2⟩:=zAe (w:=w) h3
          have hpos:0 < zc.size:=by rw [hzs]; exact Rp.pos
          have hkk:(k.toNat:Int)=k:=Int.toNat_of_nonneg hk0
          have hle:k.toNat ≤ k.toNat * b:=Nat.le_mul_of_pos_right _ hb0
          have hwr:IntKind.i64.wrap k=k:=by rw [IntKind.wrap_i64]; omega
          have hmul:((ie.bytes:Int) * k) ≤ 140737488355328:=by
            rw [← hkk,hby',← Int.natCast_mul,Nat.mul_comm]
            exact Int.ofNat_le.2 hkb
          have hnt:¬(k < 0):=by omega
          have hnb:¬((ie.bytes:Int) * k > 2 ^ 48):=by omega
          let row:Array Value:=if k.toNat * Rp.sz α=0 then #[] else (Array.range (k.toNat * Rp.sz α)).map (fun i=>zc[i % zc.size]!)
          have hrow:(((Array.range (k.toNat * ie.size)).map fun i=>(if k.toNat * ie.size=0 then #[] else zc)[i % (if k.toNat * ie.size=0 then (#[]:Array Value) else zc).size]!))=⟨zrow zc (k.toNat * zc.size)⟩:=by
            rw [hsz',← hzs]
            apply Array.ext'
            by_cases h0:k.toNat * zc.size=0
            · simp [h0,zrow]
            · simp [h0,zrow]
          have hlen:(zrow zc (k.toNat * zc.size)).length=k.toNat * Rp.sz α:=by simp [zrow,hzs]
          have hg:=gd.alloc_osl ⟨zrow zc (k.toNat * zc.size)⟩ e (Rp.sz α) k.toNat k.toNat (zrow zc (k.toNat * zc.size)) (by show _ ≤ (zrow _ _).length; rw [hlen]; exact Nat.le_refl _) (Nat.le_refl _) (by rw [← hlen]; exact List.take_length) hlen (by omega)
          have hll:(List.replicate k.toNat a).length=k.toNat:=List.length_replicate
          rw [hll] at next
          refine ⟨_,_,imm,_,?_,hg,next w.heap.size _ ?_⟩
          · simp only [execOp,f.eval hx,f.eval hy,Instr.makeSlice,Sem.run_bind,xE hu,Result.andThen_ok,asInt,asIntOf,Sem.run_pure,typeInfo,run_program,hie,hwr,hnt,hnb,decide_false,Bool.false_or,Bool.false_eq_true,false_or,or_self,if_false,Int.lt_irrefl,
              gt_iff_lt,run_askRoom,pO h1]
            by_cases h0:k.toNat * Rp.sz α=0
            · have:=hrow
              rw [hsz'] at this
              simp only [h0,if_true] at this ⊢
              simp only [Sem.run_pure,Result.andThen_ok,newRow,run_newObj,Sem.run_bind,this]
            · have:=hrow
              rw [hsz'] at this
              simp only [h0,if_false] at this ⊢
              simp only [Sem.run_bind,hz1,hz2,Sem.run_pure,Result.andThen_ok,newRow,run_newObj,this]
          · have:=zN7 (z:=zc) (a:=a) hpos hr k.toNat
            rw [hzs] at this
            show RepL _ _ _ _
            rw [hzs]
            exact this
      · cases ht
  · cases hk
end
section
variable {P:Program}{n:Nat}{B:Base}{Q:Exit→Act→World→Prop}{imm:Imm}{hs:List HA}{m:FM}{ops:List Oper}{pc d:Nat}{ty:TypeId}{pos:String}{after:Array Edge}{g:Option (Nat×Bool)}
end
end Go.LN
namespace Go.LN
open Go.Proofs
set_option maxRecDepth 20000
def zMt (a0:(List Int)) (b:(List Int)) (i:Int):Option (Out Unit (Bool)):=do
 if (decide (i < (a0.length:Int))) then
  let x←idx a0 i
  let x1←idx b i
  if (x != x1) then
   pure (.ret false)
  else
   zMt a0 b (W (i + 1))
 else
  pure (.done ())
 partial_fixpoint
theorem zNP (a0:(List Int)) (b:(List Int)):∀ (i:Int) (o:Out Unit (Bool)),zMt a0 b i=some o→∀ {B}{I0 I:Imm}{Q p c p1 c1},I0.le I→(S4 I p a0 c)→(S4 I p1 b c1)→NG Q→NO Q→(∀ (I':Imm) ,o=(.done ())→I0.le I'→T 26 B Q (.exit 0) I' [] [])→(∀ r I' hs' m',o=(.ret r)→I0.le I'→RS Tryz.prog Tryz.f19 B (zU  r) I' hs' m'→T 26 B Q .ret I' hs' m')→J Tryz.prog 26 B (nav (bodyOf Tryz.f19) [1,1,0,1,0]) Q I [] [(0,vS p a0 c),(1,vS p1 b c1),(5,vI i)]:=by
 refine zMt.partial_correctness a0 b _ fun self ih i o N B I0 I Q p c p1 c1 H h h1 hg ho hx hr=>yT hg ho<|yC<|yG [14] rfl<|zI<|yE N ?_ ?_
 · intro hc1 N;refine zS<|zZ<|yH<|yC<|kY (by kernel_rfl) (by kernel_rfl)<|fU 2 [] [17,18] rfl<|bE N fun x hy N=>dQ rfl rfl h hy ?_;intro ad ccs hat hrep;obtain rfl:=hrep;refine eK 0 hat [vI x] (vI x) rfl<|fU 6 [] [21,22] rfl<|bE N fun x1 hy1 N=>dQ rfl rfl h1 hy1 ?_;intro ad1 ccs1 hat1 hrep1;obtain rfl:=hrep1;refine eK 0 hat1 [vI x1] (vI x1) rfl<|zGy [] [25] rfl<|zI<|yE N ?_ ?_
   · intro hc2 N;exact vJ [(4,vF)]<|xG<|zW<|zH<|zH<|hr _ _ _ _ (zC N).symm H ⟨_,_,(.tmp rfl ResV.nil),zQ,⟨_,rfl,rfl,rfl⟩⟩
   intro hc2 N;exact zS<|zP<|zI<|zK<|yJ [] [5] rfl<|yS<|nG<|ih (W (i + 1)) _ N H h h1 hg ho hx hr
 intro hc1 N;exact wT<|yQ<|hx _  (zC N).symm H
def zNA (a0:(List Int)) (b:(List Int)):Option (Bool):=do
 if ((a0.length:Int) != (b.length:Int)) then
  pure false
 else
  match←zMt a0 b 0 with
  | .ret r0=>pure r0
  | .done _ =>
   pure true
theorem zNW:∀ a0 b r,zNA a0 b=some r→∀ {I:Imm}{p c p1 c1},(S4 I p a0 c)→(S4 I p1 b c1)→RT 19 [vS p a0 c,vS p1 b c1] I [] (zU  r):=by
 intro a0 b r N I p c p1 c1 h h1;unfold zNA at N;refine yM Tryz.func19 fun B=>vJ []<|zZ<|yG [10] rfl<|zI<|yE N ?_ ?_
 · intro hc N;refine vJ [(4,vF)]<|xG<|zH ?_;obtain rfl:=zC N;exact wP
 intro hc N;refine zS<|zZ<|yG [5] rfl<|xZ<|pJ [(0,vS p a0 c),(1,vS p1 b c1),(5,vI 0)] ?_;obtain ⟨o0,ho0,hMl⟩:=zB N;refine zNP a0 b 0 o0 ho0 iR h h1 (fun _ _ _ h=>h) (fun _ _ h=>h) ?_ ?_
 · intro I0  heq le;subst o0;refine zR<|zF0 [(4,vY)]<|zI<|yW ?_;obtain rfl:=zC hMl;exact wP
 intro r0 I9 hs9 m9 heq9 le9 hrs9;subst heq9;refine zW<|zH ?_;obtain rfl:=zC hMl;exact xA hrs9
def zMo (p:zE):Option ((List zO)):=do
 let (y1,y2)←rP p
 if (!y2) then
  pure ([]:List zO)
 else
  pure (id y1)
theorem zNB:∀ p r,zMo p=some r→∀ {I:Imm}{p1 c p2 c1},(S4 I p1 p.Arrays c)→(S4 I p2 p.Parts c1)→RT 14 [vA (cProg p p1 c p2 c1)] I [] (zBq  r):=by
 intro p r N I p1 c p2 c1 h h1;unfold zMo at N;refine yM Tryz.func14 fun B=>yF<|vX (cProg p p1 c p2 c1) ?_;intro b hb;refine wG [] []<|yV<|fW 1 [0] [(6,vA (cProg p p1 c p2 c1))] ?_;obtain ⟨⟨y1,y2⟩,hy,N⟩:=zB N;refine xQ (zAT p _ hy h h1) ?_;rintro I0 hs2 v2 k2 le - ⟨v0,v01,rfl,rfl,h2,rfl⟩ -;obtain ⟨p3,c2,rfl⟩:=h2.form;refine yJ [] [3,4] rfl<|zZ<|yG [11] rfl<|zI<|yE N ?_ ?_
 · intro hc N;refine vJ [(2,z0)]<|xG<|zH ?_;obtain rfl:=zC N;exact xA ⟨_,_,(.tmp rfl ResV.nil),zQ,⟨_,rfl,rfl,(SL.nil _)⟩⟩
 intro hc N;refine zS<|vG [2] rfl<|zI<|yW ?_;obtain rfl:=zC N;exact xA ⟨_,_,(.tmp rfl ResV.nil),zQ,⟨_,rfl,rfl,h2⟩⟩
end Go.LN
namespace Go.LN
open Go.Proofs
set_option maxRecDepth 20000
def zMz (r:(List Int)):KT:=fun kk I' hs' v=>
  ∃ v0,hs'=[]∧v=tupV [v0]∧SL I' v0 r
def zMu (deps:(List zV)) (t13:Int) (out3:List Int) (t18:Int):Option (List Int):=do
 if (decide (t18 < (deps.length:Int))) then
  let x←idx deps t18
  let out5←(do
    if (x.To == t13) then
     let x1←idx out3 t13
     let x2←idx out3 x.From
     let x3←idx out3 t13
     let l←pure (out3.set t13.toNat (if (W (x2 + 1)) > x1 then (W (x2 + 1)) else x1))
     pure (id l)
    else
     pure (id out3)
      : Option (List Int))
  zMu deps t13 out5 (W (t18 + 1))
 else
  pure (id out3)
 partial_fixpoint
theorem zNQ (deps:(List zV)) (t13:Int):∀ (out3:List Int) (t18:Int) (o:List Int),zMu deps t13 out3 t18=some o→∀ {B}{I0 I:Imm}{Q}{out:List Int}{p c p3 c3 cs3},I0.le I→(S4 I p deps c)→(RL I cs3 out3)→NG Q→NO Q→(∀ (I':Imm) (out4:List Int) (p4:Option Addr) (c4:Nat) (cs4:List Value),o=out4→I0.le I'→(RL I' cs4 out4)→T 43 B Q (.exit 2) I' [hO Int (vS p4 out4 c4) cs4] [(0,vS p deps c),(5,vS p4 out4 c4),(12,vI (out.length:Int)),(13,vI t13)])→J Tryz.prog 43 B (nav (bodyOf Tryz.f75) [1,1,0,1,0,0,1,1,0,0,1,1,0]) Q I [hO Int (vS p3 out3 c3) cs3] [(0,vS p deps c),(5,vS p3 out3 c3),(6,vI t13),(12,vI (out.length:Int)),(13,vI t13),(16,vS p deps c),(17,vI (deps.length:Int)),(18,vI t18)]:=by
 refine zMu.partial_correctness deps t13 _ fun self ih out3 t18 o N B I0 I Q out p c p3 c3 cs3 H h h4 hg ho hx=>yT hg ho<|yG [19] rfl<|zZ<|yE N ?_ ?_
 · intro hc1 N;refine zS<|zZ<|yH<|yF<|bE N fun x hy1 N=>xJ rfl rfl h hy1 ?_;intro ad ccs hat hrep;obtain rfl:=mQ hrep;refine yX 0 hat [vI x.From,vI x.To,vI x.Kinds] (vA [vI x.From,vI x.To,vI x.Kinds]) rfl<|wH [vI 0,vI 0,vI 0] ?_;intro b1 hb;refine xI 0 [vI x.From,vI x.To,vI x.Kinds] rfl<|yA rfl<|yV<|yJ [0] [25] rfl<|zI ?_;obtain ⟨o0,ho0,hMc⟩:=zB N;refine qL (fun I' hs' m'=>∃ (out5:List Int) (p5:Option Addr) (c5:Nat) (cs5:List Value),o0=out5∧I.le I'∧(RL I' cs5 out5)∧hs'=[hO Int (vS p5 out5 c5) cs5]∧m'=[(0,vS p deps c),(5,vS p5 out5 c5),(6,vI t13),(12,vI (out.length:Int)),(13,vI t13),(16,vS p deps c),(17,vI (deps.length:Int)),(18,vI t18)]) ?_ ?_
   · have H:=iS I;refine yE ho0 ?_ ?_
     · intro hc2 N;obtain ⟨x1,hy2,N⟩:=zB N;obtain ⟨x2,hy3,N⟩:=zB N;refine wA [.p (vS p3 out3 c3) [],.p (vI t13) [],.p (vS p3 out3 c3) [],.p (vI t13) [],.x (fun I' v hx=>∃ ad1,v=.pointer (some ad1)∧hx=[]∧(AtO (vS p3 out3 c3) (Rp.sz Int) t13.toNat ad1)∧((cs3.drop (t13.toNat * Rp.sz Int)).take (Rp.sz Int)=[vI x1])),.q (vI x1),.p (vS p3 out3 c3) [],.p (vP b1 0) [],.p (vI x.From) [0],.x (fun I' v hx=>∃ ad2,v=.pointer (some ad2)∧hx=[]∧(AtO (vS p3 out3 c3) (Rp.sz Int) x.From.toNat ad2)∧((cs3.drop (x.From.toNat * Rp.sz Int)).take (Rp.sz Int)=[vI x2])),.q (vI x2),.p (vI (W (x2 + 1))) [],.p (vI (if (W (x2 + 1)) > x1 then (W (x2 + 1)) else x1)) []] [[],[],[],[],[(2,false),(3,false)],[(4,false)],[],[],[(7,false)],[(6,false),(8,false)],[(9,false)],[(10,false)],[(5,false),(11,false)]] [hB b1 [vI x.From,vI x.To,vI x.Kinds],hO Int (vS p3 out3 c3) cs3] [] [(0,false),(1,false),(12,false)] (zY [0,1]) ?_ ?_
       · refine Op<|Op<|Op<|Op<|Ox ?_<|Oq ?_<|Op<|Op<|Op<|Ox ?_<|Oq ?_<|Op<|Op<|On
         · intro I1 hf le1;refine yN [28,29] rfl ?_;have h4:=iM le1 h4;refine mF 1 rfl rfl rfl h4 hy2 ?_;intro ad1 ccs1 hat1 hcc hrep1;obtain rfl:=hrep1;exact yI [] iR ⟨_,rfl,rfl,hat1,hcc⟩
         · rintro I1 hf le1 _ _ ⟨ad1,rfl,rfl,hat1,hcc⟩;exact yN [30] rfl<|zDC 1 0 hat1 hcc [vI x1] (vI x1) rfl rfl<|yP iR
         · intro I1 hf le1;refine yN [32,34] rfl ?_;have h4:=iM le1 h4;refine mF 1 rfl rfl rfl h4 hy3 ?_;intro ad2 ccs2 hat2 hcc1 hrep2;obtain rfl:=hrep2;exact yI [] iR ⟨_,rfl,rfl,hat2,hcc1⟩
         rintro I1 hf le1 _ _ ⟨ad2,rfl,rfl,hat2,hcc1⟩;exact yN [35] rfl<|zDC 1 0 hat2 hcc1 [vI x2] (vI x2) rfl rfl<|yP iR
       intro I01 le;refine yN [0,5,6,12,13,16,17,18,26,27,38] rfl ?_;have ⟨h4,H⟩:=m2 le h4 H;obtain ⟨x3,hy4,N⟩:=zB N;refine mF 1 rfl rfl rfl h4 hy4 ?_;intro ad3 ccs3 hat3 hcc2 hrep3;obtain rfl:=hrep3;obtain ⟨l,hy5,N⟩:=zB N;refine qM (c:=[vI (if (W (x2 + 1)) > x1 then (W (x2 + 1)) else x1)]) (x':=(if (W (x2 + 1)) > x1 then (W (x2 + 1)) else x1)) 1 0 rfl rfl rfl hat3 rfl rfl hcc2 (by kernel_rfl) (by kernel_rfl) (by kernel_rfl) h4 hy4 (by kernel_rfl) rfl ?_;rw [show out3.set t13.toNat (if (W (x2 + 1)) > x1 then (W (x2 + 1)) else x1)=l from zC hy5];intro cs6 h7 hl0;exact jW (m':=[(0,vS p deps c),(5,vS p3 out3 c3),(6,vI t13),(12,vI (out.length:Int)),(13,vI t13),(16,vS p deps c),(17,vI (deps.length:Int)),(18,vI t18),(26,vS p3 out3 c3),(27,vI t13),(38,vI (if (W (x2 + 1)) > x1 then (W (x2 + 1)) else x1))]) ⟨rfl,rfl,rfl,rfl,rfl,rfl,rfl,rfl,rfl,rfl,rfl,trivial⟩<|zBz (hs':=[hB b1 [vI x.From,vI x.To,vI x.Kinds],hO Int (vS p3 l c3) cs6]) (m':=[(0,vS p deps c),(5,vS p3 l c3),(6,vI t13),(12,vI (out.length:Int)),(13,vI t13),(16,vS p deps c),(17,vI (deps.length:Int)),(18,vI t18),(26,vS p3 l c3),(27,vI t13),(38,vI (if (W (x2 + 1)) > x1 then (W (x2 + 1)) else x1))]) (by first | rfl | simp only [vS,hl0,List.nil_append,List.cons_append,List.set_cons_zero,List.set_cons_succ,List.eraseIdx_cons_zero,List.eraseIdx_cons_succ]) (by first | rfl | simp only [vS,hl0])<|yA rfl<|xT (zX [1] rfl (by decide))<|yQ<|zT ⟨_,_,_,_,(zC N).symm,H,h7,rfl,rfl⟩
     intro hc2 N;exact zS<|xT (zX [1] rfl (by decide))<|yQ<|zT ⟨_,_,_,_,(zC N).symm,H,h4,rfl,rfl⟩
   rintro I0 hs2 m2 ⟨out5,p5,c5,cs5,heq,le1,h6,rfl,rfl⟩;subst o0;have ⟨h,H⟩:=m2 le1 h H;exact zP<|zI<|zK<|yJ [] [18] rfl<|yS<|nG<|ih out5 (W (t18 + 1)) _ hMc H h h6 hg ho hx
 intro hc1 N;exact wT<|yQ<|hx _ _ _ _ _ (zC N).symm H h4
def zMp (deps:(List zV)) (out:List Int) (out1:List Int) (t13:Int):Option (List Int):=do
 if (decide (t13 < (out.length:Int))) then
  let out4←zMu deps t13 out1 0
  zMp deps out out4 (W (t13 + 1))
 else
  pure (id out1)
 partial_fixpoint
theorem zNR (deps:(List zV)) (out:List Int):∀ (out1:List Int) (t13:Int) (o:List Int),zMp deps out out1 t13=some o→∀ {B}{I0 I:Imm}{Q p c p1 c1 cs1},I0.le I→(S4 I p deps c)→(RL I cs1 out1)→NG Q→NO Q→(∀ (I':Imm) (out2:List Int) (p2:Option Addr) (c2:Nat) (cs2:List Value),o=out2→I0.le I'→(RL I' cs2 out2)→T 43 B Q (.exit 0) I' [hO Int (vS p2 out2 c2) cs2] [(5,vS p2 out2 c2)])→J Tryz.prog 43 B (nav (bodyOf Tryz.f75) [1,1,0,1,0]) Q I [hO Int (vS p1 out1 c1) cs1] [(0,vS p deps c),(5,vS p1 out1 c1),(12,vI (out.length:Int)),(13,vI t13)]:=by
 refine zMp.partial_correctness deps out _ fun self ih out1 t13 o N B I0 I Q p c p1 c1 cs1 H h h2 hg ho hx=>yT hg ho<|yG [14] rfl<|zZ<|yE N ?_ ?_
 · intro hc N;refine zS<|zZ<|yH<|yG [6] rfl<|vG [16,17,18] rfl<|xZ<|pJ [(0,vS p deps c),(5,vS p1 out1 c1),(6,vI t13),(12,vI (out.length:Int)),(13,vI t13),(16,vS p deps c),(17,vI (deps.length:Int)),(18,vI 0)] ?_;obtain ⟨o01,ho01,hMl⟩:=zB N;refine zNQ deps t13 out1 0 o01 ho01 iR h h2 (fun _ _ _ h=>hg _ _ _ h) (fun _ _ h=>ho _ _ h) ?_;intro I02 out4 p4 c4 cs4 heq1 le2 h5;subst o01;have ⟨h,H⟩:=m2 le2 h H;exact zR<|zP<|zI<|zK<|yJ [] [13] rfl<|yS<|nG<|ih out4 (W (t13 + 1)) _ hMl H h h5 hg ho hx
 intro hc N;exact wT<|yQ<|hx _ _ _ _ _ (zC N).symm H h2
def zMx (deps:(List zV)) (many:Int):Option ((List Int)):=do
 let out←mkrow 8 many (0:Int)
 let out2←zMp deps out out 0
 pure (id out2)
theorem zNK:∀ deps many r,zMx deps many=some r→∀ {I:Imm}{p c},(S4 I p deps c)→RT 75 [vS p deps c,vI many] I [] (zMz  r):=by
 intro deps many r N I p c h;unfold zMx at N;refine yM Tryz.func75 fun B=>vJ []<|yV<|yB 1 [] [9] rfl<|bE N fun out hy N=>zOO 8 [vI 0] rfl hy rfl fun b cs h1=>yJ [] [5] rfl<|zZ<|yG [12,13] rfl<|xZ<|pJ [(0,vS p deps c),(5,vS (some ⟨b,0,none⟩) out out.length),(12,vI (out.length:Int)),(13,vI 0)] ?_;obtain ⟨o02,ho02,hMl1⟩:=zB N;refine zNR deps out out 0 o02 ho02 iR h h1 (fun _ _ _ h=>h) (fun _ _ h=>h) ?_;intro I03 out2 p2 c2 cs2 heq2 le3 h3;subst o02;refine zR<|vG [4] rfl<|xG<|yY 0 rfl ?_;intro I04 le4 hl01;have h8:=SL.of_frozen hl01 le4 h3;obtain rfl:=zC hMl1;exact xA ⟨_,_,(.tmp rfl ResV.nil),zQ,⟨_,rfl,rfl,h8⟩⟩
def zMy (p:zE):Option ((List Int)):=do
 let y←jI p
 let y1←zMo p
 let y2←zMx y (y1.length:Int)
 pure (id y2)
theorem zNU:∀ p r,zMy p=some r→∀ {I:Imm}{p1 c p2 c1},(S4 I p1 p.Arrays c)→(S4 I p2 p.Parts c1)→RT 24 [vA (cProg p p1 c p2 c1)] I [] (zMz  r):=by
 intro p r N I p1 c p2 c1 h h1;unfold zMy at N;refine yM Tryz.func24 fun B=>?_;have H:=iS I;refine yF<|vX (cProg p p1 c p2 c1) ?_;intro b hb;refine wG [] []<|zI<|yC ?_;obtain ⟨y,hy,N⟩:=zB N;obtain ⟨y1,hy1,N⟩:=zB N;obtain ⟨y2,hy2,N⟩:=zB N;refine wA [.p (vA (cProg p p1 c p2 c1)) [0],.x (eS y),.p (vA (cProg p p1 c p2 c1)) [0],.x (eS y1),.q (vI (y1.length:Int)),.x (eS y2)] [[],[(0,false)],[],[(2,false)],[(3,false)],[(1,false),(4,false)]] [hB b (cProg p p1 c p2 c1)] [] [(5,false)] (zY [0]) ?_ ?_
 · refine Op<|Ox ?_<|Op<|Ox ?_<|Oq ?_<|Ox ?_<|On
   · intro I1 hf le1;refine yN [3] rfl ?_;have H:=iS I1;have ⟨h,h1⟩:=m2 le1 h h1;refine xQ (zIx p _ hy h h1) ?_;rintro I0 hs2 v2 k2 le - ⟨v0,rfl,rfl,h2⟩ -;have H:=H.trans le;obtain ⟨p3,c2,rfl⟩:=h2.form;exact yI [] H ⟨_,_,rfl,rfl,h2⟩
   · intro I1 hf le1;refine yN [5] rfl ?_;have H:=iS I1;have ⟨h,h1⟩:=m2 le1 h h1;refine xQ (zNB p _ hy1 h h1) ?_;rintro I01 hs2 v2 k2 le1 - ⟨v01,rfl,rfl,h3⟩ -;have H:=H.trans le1;obtain ⟨p4,c3,rfl⟩:=h3.form;exact yI [] H ⟨_,_,rfl,rfl,h3⟩
   · rintro I1 hf le1 _ _ ⟨p4,c3,rfl,rfl,h3⟩;exact yN [6] rfl<|tM 5 [(7,vI (y1.length:Int))]<|yP iR
   rintro I1 hf le1 _ _ ⟨p3,c2,rfl,rfl,h2⟩;refine yN [4,7] rfl ?_;have H:=iS I1;refine xQ (zNK y (y1.length:Int) _ hy2 h2) ?_;rintro I02 hs2 v2 k2 le2 - ⟨v02,rfl,rfl,h4⟩ -;have H:=H.trans le2;obtain ⟨p5,c4,rfl⟩:=h4.form;exact yI [] H ⟨_,_,rfl,rfl,h4⟩
 rintro I03 le3 _ _ ⟨p5,c4,rfl,rfl,h4⟩;refine yN [8] rfl ?_;refine yJ [] [2] rfl<|zI<|yW ?_;obtain rfl:=zC N;exact xA ⟨_,_,(.tmp rfl ResV.nil),zQ,⟨_,rfl,rfl,h4⟩⟩
def zMq (code:(List UInt8)):Option (zE):=do
 let y←eN code
 pure (id y)
theorem zNE:∀ code r,zMq code=some r→∀ {I:Imm}{p c},(S4 I p code c)→RT 32 [vS p code c] I [] (zAm  r):=by
 intro code r N I p c h;unfold zMq at N;refine yM Tryz.func32 fun B=>yF<|wH zTwo ?_;intro b hb;refine yA rfl<|yV<|yB 1 [] [3] rfl<|bE N fun y hy N=>xQ (zHq code _ hy h) ?_;rintro I0 hs2 v2 k2 le - ⟨v0,rfl,rfl,⟨cs,rfl,h1⟩⟩ -;obtain ⟨p1,c1,p2,c2,rfl,h2,h3⟩:=nW h1;refine xI 0 (cProg y p1 c1 p2 c2) rfl<|yA rfl<|zI<|yW ?_;obtain rfl:=zC N;exact xA ⟨_,_,(.cell 0 rfl rfl (by kernel_rfl) ResV.nil),zQ,⟨_,rfl,rfl,⟨_,rfl,(vE ⟨_,_,rfl,h2,h3⟩)⟩⟩⟩
def zMv (p:zE):Option ((List Int)):=do
 let y←zA9 p
 let y1←zMo p
 let y2←zMx y (y1.length:Int)
 pure (id y2)
theorem zNI:∀ p r,zMv p=some r→∀ {I:Imm}{p1 c p2 c1},(S4 I p1 p.Arrays c)→(S4 I p2 p.Parts c1)→RT 33 [vA (cProg p p1 c p2 c1)] I [] (zMz  r):=by
 intro p r N I p1 c p2 c1 h h1;unfold zMv at N;refine yM Tryz.func33 fun B=>?_;have H:=iS I;refine yF<|vX (cProg p p1 c p2 c1) ?_;intro b hb;refine wG [] []<|zI<|yC ?_;obtain ⟨y,hy,N⟩:=zB N;obtain ⟨y1,hy1,N⟩:=zB N;obtain ⟨y2,hy2,N⟩:=zB N;refine wA [.p (vA (cProg p p1 c p2 c1)) [0],.x (eS y),.p (vA (cProg p p1 c p2 c1)) [0],.x (eS y1),.q (vI (y1.length:Int)),.x (eS y2)] [[],[(0,false)],[],[(2,false)],[(3,false)],[(1,false),(4,false)]] [hB b (cProg p p1 c p2 c1)] [] [(5,false)] (zY [0]) ?_ ?_
 · refine Op<|Ox ?_<|Op<|Ox ?_<|Oq ?_<|Ox ?_<|On
   · intro I1 hf le1;refine yN [3] rfl ?_;have H:=iS I1;have ⟨h,h1⟩:=m2 le1 h h1;refine xQ (zJK p _ hy h h1) ?_;rintro I0 hs2 v2 k2 le - ⟨v0,rfl,rfl,h2⟩ -;have H:=H.trans le;obtain ⟨p3,c2,rfl⟩:=h2.form;exact yI [] H ⟨_,_,rfl,rfl,h2⟩
   · intro I1 hf le1;refine yN [5] rfl ?_;have H:=iS I1;have ⟨h,h1⟩:=m2 le1 h h1;refine xQ (zNB p _ hy1 h h1) ?_;rintro I01 hs2 v2 k2 le1 - ⟨v01,rfl,rfl,h3⟩ -;have H:=H.trans le1;obtain ⟨p4,c3,rfl⟩:=h3.form;exact yI [] H ⟨_,_,rfl,rfl,h3⟩
   · rintro I1 hf le1 _ _ ⟨p4,c3,rfl,rfl,h3⟩;exact yN [6] rfl<|tM 5 [(7,vI (y1.length:Int))]<|yP iR
   rintro I1 hf le1 _ _ ⟨p3,c2,rfl,rfl,h2⟩;refine yN [4,7] rfl ?_;have H:=iS I1;refine xQ (zNK y (y1.length:Int) _ hy2 h2) ?_;rintro I02 hs2 v2 k2 le2 - ⟨v02,rfl,rfl,h4⟩ -;have H:=H.trans le2;obtain ⟨p5,c4,rfl⟩:=h4.form;exact yI [] H ⟨_,_,rfl,rfl,h4⟩
 rintro I03 le3 _ _ ⟨p5,c4,rfl,rfl,h4⟩;refine yN [8] rfl ?_;refine yJ [] [2] rfl<|zI<|yW ?_;obtain rfl:=zC N;exact xA ⟨_,_,(.tmp rfl ResV.nil),zQ,⟨_,rfl,rfl,h4⟩⟩
def zMr (p:zE):Option ((List zO)):=do
 let y←uJ p
 if (!y) then
  pure ([]:List zO)
 else
  let y1←sL p
  pure (id y1)
theorem zNF:∀ p r,zMr p=some r→∀ {I:Imm}{p1 c p2 c1},(S4 I p1 p.Arrays c)→(S4 I p2 p.Parts c1)→RT 83 [vA (cProg p p1 c p2 c1)] I [] (zBq  r):=by
 intro p r N I p1 c p2 c1 h h1;unfold zMr at N;refine yM Tryz.func83 fun B=>yF<|vX (cProg p p1 c p2 c1) ?_;intro b hb;refine wG [] []<|zZ<|yF<|fW 1 [0] [(3,vA (cProg p p1 c p2 c1))]<|bE N fun y hy N=>vZ (gK p _ hy h h1) ?_;intro I0 le;have ⟨h,h1⟩:=m2 le h h1;refine yJ [] [5] rfl<|zI<|yE N ?_ ?_
 · intro hc N;refine yF<|tH [] zO ?_;intro b1 hb1;have h3:RL I0 [] ([]:List zO):=rfl;refine yJ [] [2] rfl<|xG<|zH<|yY 0 rfl ?_;intro I01 le1 hl0;have h4:=SL.of_frozen hl0 le1 h3;obtain rfl:=zC N;exact xA ⟨_,_,(.tmp rfl ResV.nil),zQ,⟨_,rfl,rfl,h4⟩⟩
 intro hc N;refine zS<|yV<|fW 1 [0] [(7,vA (cProg p p1 c p2 c1))]<|bE N fun y1 hy1 N=>xQ (dW p _ hy1 h h1) ?_;rintro I02 hs2 v2 k2 le2 - ⟨v01,rfl,rfl,h5⟩ -;obtain ⟨p3,c2,rfl⟩:=h5.form;refine yJ [] [2] rfl<|zI<|yW ?_;obtain rfl:=zC N;exact xA ⟨_,_,(.tmp rfl ResV.nil),zQ,⟨_,rfl,rfl,h5⟩⟩
def zMl (y1:(List zV)) (out1:List Int) (i:Int):Option (List Int):=do
 if (decide (i < (y1.length:Int))) then
  let x←idx y1 i
  let x1←idx out1 x.From
  let x2←idx y1 i
  let x3←idx out1 x2.To
  let out3←(do
    if (decide ((W (x1 + 1)) > x3)) then
     let x4←idx y1 i
     let x5←idx y1 i
     let x6←idx out1 x5.From
     let x7←idx out1 x4.To
     let l←pure (out1.set x4.To.toNat (W (x6 + 1)))
     pure (id l)
    else
     pure (id out1)
      : Option (List Int))
  zMl y1 out3 (W (i + 1))
 else
  pure (id out1)
 partial_fixpoint
theorem zNG (y1:(List zV)):∀ (out1:List Int) (i:Int) (o:List Int),zMl y1 out1 i=some o→∀ {B}{I0 I:Imm}{Q p4 c3 p5 c4 cs1},I0.le I→(S4 I p4 y1 c3)→(RL I cs1 out1)→NG Q→NO Q→(∀ (I':Imm) (out2:List Int) (p6:Option Addr) (c5:Nat) (cs2:List Value),o=out2→I0.le I'→(RL I' cs2 out2)→T 53 B Q (.exit 0) I' [hO Int (vS p6 out2 c5) cs2] [(3,vS p6 out2 c5)])→J Tryz.prog 53 B (nav (bodyOf Tryz.f34) [1,1,1,0,1,0]) Q I [hO Int (vS p5 out1 c4) cs1] [(3,vS p5 out1 c4),(4,vS p4 y1 c3),(5,vI i)]:=by
 refine zMl.partial_correctness y1 _ fun self ih out1 i o N B I0 I Q p4 c3 p5 c4 cs1 H h4 h5 hg ho hx=>yT hg ho<|yC<|yG [15] rfl<|zI<|yE N ?_ ?_
 · intro hc N;refine zS<|zZ<|yH<|yC<|kY (by kernel_rfl) (by kernel_rfl)<|fU 3 [] [18,19,20] rfl<|bE N fun x hy3 N=>dQ rfl rfl h4 hy3 ?_;intro ad ccs hat hrep;obtain rfl:=mQ hrep;refine fU 5 [] [22] rfl<|eK 0 hat [vI x.From] (vI x.From) rfl<|bE N fun x1 hy4 N=>zNr 0 rfl rfl rfl h5 hy4 ?_;intro ad1 ccs1 hat1 hcc hrep1;obtain rfl:=hrep1;refine zOE 0 0 hat1 hcc [vI x1] (vI x1) rfl rfl<|fU 12 [] [26,27,28,29] rfl<|bE N fun x2 hy5 N=>dQ rfl rfl h4 hy5 ?_;intro ad2 ccs2 hat2 hrep2;obtain rfl:=mQ hrep2;refine fU 14 [] [31] rfl<|eK 1 hat2 [vI x2.To] (vI x2.To) rfl<|bE N fun x3 hy6 N=>zNr 0 rfl rfl rfl h5 hy6 ?_;intro ad3 ccs3 hat3 hcc1 hrep3;obtain rfl:=hrep3;refine zOE 0 0 hat3 hcc1 [vI x3] (vI x3) rfl rfl<|zGy [] [35] rfl<|zI ?_;obtain ⟨o0,ho0,hMc⟩:=zB N;refine qL (fun I' hs' m'=>∃ (out3:List Int) (p7:Option Addr) (c6:Nat) (cs3:List Value),o0=out3∧I.le I'∧(RL I' cs3 out3)∧hs'=[hO Int (vS p7 out3 c6) cs3]∧m'=[(3,vS p7 out3 c6),(4,vS p4 y1 c3),(5,vI i)]) ?_ ?_
   · have H:=iS I;refine yE ho0 ?_ ?_
     · intro hc1 N;obtain ⟨x4,hy7,N⟩:=zB N;obtain ⟨x5,hy8,N⟩:=zB N;obtain ⟨x6,hy9,N⟩:=zB N;refine wA [.p (vS p5 out1 c4) [],.p (vS p4 y1 c3) [],.p (vI i) [],.x (fun I' v hx=>∃ ad4,v=.pointer (some ad4)∧hx=[]∧(At I' ad4 [vI x4.From,vI x4.To,vI x4.Kinds])),.x (fun I' v hx=>∃ ad41,v=.pointer (some (ad41.add 1))∧hx=[]∧(At I' ad41 [vI x4.From,vI x4.To,vI x4.Kinds])),.q (vI x4.To),.p (vS p5 out1 c4) [],.p (vS p4 y1 c3) [],.p (vI i) [],.x (fun I' v hx=>∃ ad5,v=.pointer (some ad5)∧hx=[]∧(At I' ad5 [vI x5.From,vI x5.To,vI x5.Kinds])),.x (fun I' v hx=>∃ ad51,v=.pointer (some ad51)∧hx=[]∧(At I' ad51 [vI x5.From,vI x5.To,vI x5.Kinds])),.q (vI x5.From),.x (fun I' v hx=>∃ ad6,v=.pointer (some ad6)∧hx=[]∧(AtO (vS p5 out1 c4) (Rp.sz Int) x5.From.toNat ad6)∧((cs1.drop (x5.From.toNat * Rp.sz Int)).take (Rp.sz Int)=[vI x6])),.q (vI x6),.p (vI (W (x6 + 1))) []] [[],[],[],[(1,false),(2,false)],[(3,false)],[(4,false)],[],[],[],[(7,false),(8,false)],[(9,false)],[(10,false)],[(6,false),(11,false)],[(12,false)],[(13,false)]] [hO Int (vS p5 out1 c4) cs1] [] [(0,false),(5,false),(14,false)] (zY [0]) ?_ ?_
       · refine Op<|Op<|Op<|Ox ?_<|Ox ?_<|Oq ?_<|Op<|Op<|Op<|Ox ?_<|Ox ?_<|Oq ?_<|Ox ?_<|Oq ?_<|Op<|On
         · intro I1 hf le1;refine yN [37,38] rfl ?_;have h4:=h4.mono le1;refine xJ rfl rfl h4 hy7 ?_;intro ad4 ccs4 hat4 hrep4;obtain rfl:=mQ hrep4;exact yI [] iR ⟨_,rfl,rfl,hat4⟩
         · rintro I1 hf le1 _ _ ⟨ad4,rfl,rfl,hat4⟩;exact yN [39] rfl<|tM 5 [(40,.pointer (some (ad4.add 1)))]<|yI [] iR ⟨_,rfl,rfl,hat4⟩
         · rintro I1 hf le1 _ _ ⟨ad41,rfl,rfl,hat41⟩;exact yN [40] rfl<|yX 1 hat41 [vI x4.To] (vI x4.To) rfl<|yP iR
         · intro I1 hf le1;refine yN [43,44] rfl ?_;have h4:=h4.mono le1;refine xJ rfl rfl h4 hy8 ?_;intro ad5 ccs5 hat5 hrep5;obtain rfl:=mQ hrep5;exact yI [] iR ⟨_,rfl,rfl,hat5⟩
         · rintro I1 hf le1 _ _ ⟨ad5,rfl,rfl,hat5⟩;exact yN [45] rfl<|tM 11 [(46,.pointer (some ad5))]<|yI [] iR ⟨_,rfl,rfl,hat5⟩
         · rintro I1 hf le1 _ _ ⟨ad51,rfl,rfl,hat51⟩;exact yN [46] rfl<|yX 0 hat51 [vI x5.From] (vI x5.From) rfl<|yP iR
         · intro I1 hf le1;refine yN [42,47] rfl ?_;have h5:=iM le1 h5;refine mF 0 rfl rfl rfl h5 hy9 ?_;intro ad6 ccs6 hat6 hcc2 hrep6;obtain rfl:=hrep6;exact yI [] iR ⟨_,rfl,rfl,hat6,hcc2⟩
         rintro I1 hf le1 _ _ ⟨ad6,rfl,rfl,hat6,hcc2⟩;exact yN [48] rfl<|zDC 0 0 hat6 hcc2 [vI x6] (vI x6) rfl rfl<|yP iR
       intro I03 le2;refine yN [3,4,5,36,41,50] rfl ?_;have ⟨h5,H⟩:=m2 le2 h5 H;obtain ⟨x7,hy10,N⟩:=zB N;refine mF 0 rfl rfl rfl h5 hy10 ?_;intro ad7 ccs7 hat7 hcc3 hrep7;obtain rfl:=hrep7;obtain ⟨l,hy11,N⟩:=zB N;refine qM (c:=[vI (W (x6 + 1))]) (x':=(W (x6 + 1))) 0 0 rfl rfl rfl hat7 rfl rfl hcc3 (by kernel_rfl) (by kernel_rfl) (by kernel_rfl) h5 hy10 (by kernel_rfl) rfl ?_;rw [show out1.set x4.To.toNat (W (x6 + 1))=l from zC hy11];intro cs4 h8 hl0;exact jW (m':=[(3,vS p5 out1 c4),(4,vS p4 y1 c3),(5,vI i),(36,vS p5 out1 c4),(41,vI x4.To),(50,vI (W (x6 + 1)))]) ⟨rfl,rfl,rfl,rfl,rfl,rfl,trivial⟩<|zBz (hs':=[hO Int (vS p5 l c4) cs4]) (m':=[(3,vS p5 l c4),(4,vS p4 y1 c3),(5,vI i),(36,vS p5 l c4),(41,vI x4.To),(50,vI (W (x6 + 1)))]) (by first | rfl | simp only [vS,hl0,List.nil_append,List.cons_append,List.set_cons_zero,List.set_cons_succ,List.eraseIdx_cons_zero,List.eraseIdx_cons_succ]) (by first | rfl | simp only [vS,hl0])<|yA rfl<|yQ<|zT ⟨_,_,_,_,(zC N).symm,H,h8,rfl,rfl⟩
     intro hc1 N;exact zS<|yQ<|zT ⟨_,_,_,_,(zC N).symm,H,h5,rfl,rfl⟩
   rintro I02 hs2 m2 ⟨out3,p7,c6,cs3,heq,le3,h7,rfl,rfl⟩;subst o0;have ⟨h4,H⟩:=m2 le3 h4 H;exact zP<|zI<|zK<|yJ [] [5] rfl<|yS<|nG<|ih out3 (W (i + 1)) _ hMc H h4 h7 hg ho hx
 intro hc N;exact wT<|yQ<|hx _ _ _ _ _ (zC N).symm H h5
def zMw (p:zE):Option ((List Int)):=do
 let y←zMr p
 let out←mkrow 8 (y.length:Int) (0:Int)
 let y1←zAa p
 let out2←zMl y1 out 0
 pure (id out2)
theorem zNJ:∀ p r,zMw p=some r→∀ {I:Imm}{p1 c p2 c1},(S4 I p1 p.Arrays c)→(S4 I p2 p.Parts c1)→RT 34 [vA (cProg p p1 c p2 c1)] I [] (zMz  r):=by
 intro p r N I p1 c p2 c1 h h1;unfold zMw at N;refine yM Tryz.func34 fun B=>yF<|vX (cProg p p1 c p2 c1) ?_;intro b hb;refine wG [] []<|yV<|fW 1 [0] [(6,vA (cProg p p1 c p2 c1))]<|bE N fun y hy N=>xQ (zNF p _ hy h h1) ?_;rintro I0 hs2 v2 k2 le - ⟨v0,rfl,rfl,h2⟩ -;have ⟨h,h1⟩:=m2 le h h1;obtain ⟨p3,c2,rfl⟩:=h2.form;refine yB 3 [] [8] rfl<|bE N fun out hy1 N=>zOO 8 [vI 0] rfl hy1 rfl fun b1 cs h3=>yJ [] [3] rfl<|yV<|fW 1 [1] [(10,vA (cProg p p1 c p2 c1))]<|bE N fun y1 hy2 N=>xQ (zJL p _ hy2 h h1) ?_;rintro I01 hs2 v2 k2 le1 - ⟨v01,rfl,rfl,h4⟩ -;have ⟨h3,h⟩:=m2 le1 h3 h;obtain ⟨p4,c3,rfl⟩:=h4.form;refine yJ [] [4] rfl<|zZ<|yG [5] rfl<|xZ<|kX (zY [0] (hs':=[hO Int (vS (some ⟨b1,0,none⟩) out out.length) cs]))<|pJ [(3,vS (some ⟨b1,0,none⟩) out out.length),(4,vS p4 y1 c3),(5,vI 0)] ?_;obtain ⟨o01,ho01,hMl⟩:=zB N;refine zNG y1 out 0 o01 ho01 iR h4 h3 (fun _ _ _ h=>h) (fun _ _ h=>h) ?_;intro I04 out2 p6 c5 cs2 heq1 le4 h6;subst o01;refine zR<|vG [2] rfl<|xG<|yY 0 rfl ?_;intro I05 le5 hl01;have h9:=SL.of_frozen hl01 le5 h6;obtain rfl:=zC hMl;exact xA ⟨_,_,(.tmp rfl ResV.nil),zQ,⟨_,rfl,rfl,h9⟩⟩
def zMm (y1:(List Int)) (y2:(List Int)) (i:Int):Option (Out Unit (Bool)):=do
 if (decide (i < (y1.length:Int))) then
  let t51←(do
    let x←idx y1 i
    let x1←idx y2 i
    if (decide (x > x1)) then
     pure true
    else
     let x2←idx y1 i
     pure (decide (x2 < 0))
      : Option Bool)
  if t51 then
   pure (.ret false)
  else
   zMm y1 y2 (W (i + 1))
 else
  pure (.done ())
 partial_fixpoint
theorem zNC (y1:(List Int)) (y2:(List Int)):∀ (i:Int) (o:Out Unit (Bool)),zMm y1 y2 i=some o→∀ {B}{I0 I:Imm}{Q}{y:zE}{p1 c1 p2 c2}{b:Nat}{p3 c3 p4 c4},I0.le I→(S4 I p3 y1 c3)→(S4 I p4 y2 c4)→(S4 I p1 y.Arrays c1)→(S4 I p2 y.Parts c2)→NG Q→NO Q→(∀ (I':Imm) ,o=(.done ())→I0.le I'→T 77 B Q (.exit 0) I' [hB b (cProg y p1 c1 p2 c2)] [(3,vP b 0),(4,vS p3 y1 c3)])→(∀ r I' hs' m',o=(.ret r)→I0.le I'→RS Tryz.prog Tryz.f7 B (zU  r) I' hs' m'→T 77 B Q .ret I' hs' m')→J Tryz.prog 77 B (nav (bodyOf Tryz.f7) [1,1,1,1,1,1,0,1,0]) Q I [hB b (cProg y p1 c1 p2 c2)] [(3,vP b 0),(4,vS p3 y1 c3),(5,vS p4 y2 c4),(6,vI i)]:=by
 refine zMm.partial_correctness y1 y2 _ fun self ih i o N B I0 I Q y p1 c1 p2 c2 b p3 c3 p4 c4 H h4 h5 h2 h3 hg ho hx hr=>yT hg ho<|yC<|yG [33] rfl<|zI<|yE N ?_ ?_
 · intro hc3 N;refine zS<|zZ<|yH<|yC ?_;refine wE N [hB b (cProg y p1 c1 p2 c2)] (fun t51=>[(3,vP b 0),(4,vS p3 y1 c3),(5,vS p4 y2 c4),(6,vI i),(51,.bool t51)]) (fun o01 ho01=>?_) ?_
   · have H:=iS I;refine kY (by kernel_rfl) (by kernel_rfl)<|fU 2 [] [36,37] rfl ?_;obtain ⟨x,hy5,N⟩:=zB ho01;refine dQ rfl rfl h4 hy5 ?_;intro ad ccs hat hrep;obtain rfl:=hrep;refine eK 0 hat [vI x] (vI x) rfl<|fU 6 [] [40,41] rfl<|bE N fun x1 hy6 N=>dQ rfl rfl h5 hy6 ?_;intro ad1 ccs1 hat1 hrep1;obtain rfl:=hrep1;refine eK 0 hat1 [vI x1] (vI x1) rfl<|fU 10 [] [45] rfl<|zFV [45] N ?_ ?_
     · intro hc4 N;exact zIT [] [(51,vY)]<|yQ<|zT (ct N H)
     intro hc4 N;refine fU 12 [] [46,47] rfl<|bE N fun x2 hy7 N=>dQ rfl rfl h4 hy7 ?_;intro ad2 ccs2 hat2 hrep2;obtain rfl:=hrep2;exact eK 0 hat2 [vI x2] (vI x2) rfl<|zGy [] [51] rfl<|yQ<|zT (ct N H)
   intro t51 I06 le6 hMc1;have ⟨h4,h5,h2,h3,H⟩:=m5 le6 h4 h5 h2 h3 H;refine zI<|yE hMc1 ?_ ?_
   · intro hc5 N;exact vJ [(2,vF)]<|xG<|zW<|zH<|zH<|hr _ _ _ _ (zC N).symm H ⟨_,_,(.tmp rfl ResV.nil),zQ,⟨_,rfl,rfl,rfl⟩⟩
   intro hc5 N;exact zS<|zP<|zI<|zK<|yJ [] [6] rfl<|yS<|nG<|ih (W (i + 1)) _ N H h4 h5 h2 h3 hg ho hx hr
 intro hc3 N;exact wT<|yQ<|hx _  (zC N).symm H
def zMn (y1:(List Int)) (y5:(List zV)) (i1:Int):Option (Out Unit (Bool)):=do
 if (decide (i1 < (y5.length:Int))) then
  let x3←idx y5 i1
  let x4←idx y1 x3.From
  let x5←idx y5 i1
  let x6←idx y1 x5.To
  if (decide (x4 ≥ x6)) then
   pure (.ret false)
  else
   zMn y1 y5 (W (i1 + 1))
 else
  pure (.done ())
 partial_fixpoint
theorem zND (y1:(List Int)) (y5:(List zV)):∀ (i1:Int) (o:Out Unit (Bool)),zMn y1 y5 i1=some o→∀ {B}{I0 I:Imm}{Q p3 c3 p6 c6},I0.le I→(S4 I p3 y1 c3)→(S4 I p6 y5 c6)→NG Q→NO Q→(∀ (I':Imm) ,o=(.done ())→I0.le I'→T 77 B Q (.exit 2) I' [] [])→(∀ r I' hs' m',o=(.ret r)→I0.le I'→RS Tryz.prog Tryz.f7 B (zU  r) I' hs' m'→T 77 B Q .ret I' hs' m')→J Tryz.prog 77 B (nav (bodyOf Tryz.f7) [1,1,1,1,1,1,1,1,0,1,0]) Q I [] [(4,vS p3 y1 c3),(7,vS p6 y5 c6),(8,vI i1)]:=by
 refine zMn.partial_correctness y1 y5 _ fun self ih i1 o N B I0 I Q p3 c3 p6 c6 H h4 h8 hg ho hx hr=>yT hg ho<|yC<|yG [57] rfl<|zI<|yE N ?_ ?_
 · intro hc6 N;refine zS<|zZ<|yH<|yC<|kY (by kernel_rfl) (by kernel_rfl)<|fU 3 [] [60,61,62] rfl<|bE N fun x3 hy9 N=>dQ rfl rfl h8 hy9 ?_;intro ad3 ccs3 hat3 hrep3;obtain rfl:=mQ hrep3;refine fU 5 [] [64] rfl<|eK 0 hat3 [vI x3.From] (vI x3.From) rfl<|bE N fun x4 hy10 N=>dQ rfl rfl h4 hy10 ?_;intro ad4 ccs4 hat4 hrep4;obtain rfl:=hrep4;refine eK 0 hat4 [vI x4] (vI x4) rfl<|fU 11 [] [68,69,70] rfl<|bE N fun x5 hy11 N=>dQ rfl rfl h8 hy11 ?_;intro ad5 ccs5 hat5 hrep5;obtain rfl:=mQ hrep5;refine fU 13 [] [72] rfl<|eK 1 hat5 [vI x5.To] (vI x5.To) rfl<|bE N fun x6 hy12 N=>dQ rfl rfl h4 hy12 ?_;intro ad6 ccs6 hat6 hrep6;obtain rfl:=hrep6;refine eK 0 hat6 [vI x6] (vI x6) rfl<|zGy [] [76] rfl<|zI<|yE N ?_ ?_
   · intro hc7 N;exact vJ [(2,vF)]<|xG<|zW<|zH<|zH<|hr _ _ _ _ (zC N).symm H ⟨_,_,(.tmp rfl ResV.nil),zQ,⟨_,rfl,rfl,rfl⟩⟩
   intro hc7 N;exact zS<|zP<|zI<|zK<|yJ [] [8] rfl<|yS<|nG<|ih (W (i1 + 1)) _ N H h4 h8 hg ho hx hr
 intro hc6 N;exact wT<|yQ<|hx _  (zC N).symm H
def zMs (code:(List UInt8)):Option (Bool):=do
 if (decide ((code.length:Int) > 1048576)) then
  pure true
 else
  let y←zMq code
  let y1←zMv y
  let y2←zMy y
  let t29←(do
    let y3←zMw y
    let y4←zNA y1 y3
    if (!y4) then
     pure true
    else
     pure ((y2.length:Int) != (y1.length:Int))
      : Option Bool)
  if t29 then
   pure false
  else
   match←zMm y1 y2 0 with
   | .ret r0=>pure r0
   | .done _ =>
    let y5←zA9 y
    match←zMn y1 y5 0 with
    | .ret r0=>pure r0
    | .done _ =>
     pure true
theorem zNH:∀ code r,zMs code=some r→∀ {I:Imm}{p c},(S4 I p code c)→RT 7 [vS p code c] I [] (zU  r):=by
 intro code r N I p c h;unfold zMs at N;refine yM Tryz.func7 fun B=>?_;have H:=iS I;refine vJ []<|zZ<|yG [11] rfl<|zI<|yE N ?_ ?_
 · intro hc N;refine vJ [(2,vY)]<|xG<|zH ?_;obtain rfl:=zC N;exact wP
 intro hc N;refine zS<|yV<|yB 1 [] [12] rfl<|bE N fun y hy N=>xQ (zNE code _ hy h) ?_;rintro I0 hs2 v2 k2 le - ⟨v0,rfl,rfl,⟨cs,rfl,h1⟩⟩ -;have H:=H.trans le;obtain ⟨p1,c1,p2,c2,rfl,h2,h3⟩:=nW h1;refine wH zTwo ?_;intro b hb;refine xI 0 (cProg y p1 c1 p2 c2) rfl<|yA rfl<|yV<|fW 1 [0] [(14,vA (cProg y p1 c1 p2 c2))]<|bE N fun y1 hy1 N=>xQ (zNI y _ hy1 h2 h3) ?_;rintro I01 hs2 v2 k2 le1 - ⟨v03,rfl,rfl,h4⟩ -;have ⟨h2,h3,H⟩:=m3 le1 h2 h3 H;obtain ⟨p3,c3,rfl⟩:=h4.form;refine yJ [] [4] rfl<|yV<|fW 1 [0] [(16,vA (cProg y p1 c1 p2 c2))]<|bE N fun y2 hy2 N=>xQ (zNU y _ hy2 h2 h3) ?_;rintro I02 hs2 v2 k2 le2 - ⟨v04,rfl,rfl,h5⟩ -;have ⟨h4,h2,h3,H⟩:=m4 le2 h4 h2 h3 H;obtain ⟨p4,c4,rfl⟩:=h5.form;refine yJ [] [5] rfl<|zZ<|yC ?_;refine wE N [hB b (cProg y p1 c1 p2 c2)] (fun t29=>[(3,vP b 0),(4,vS p3 y1 c3),(5,vS p4 y2 c4),(29,.bool t29)]) (fun o0 ho0=>?_) ?_
 · have H:=iS I02;refine zK<|fW 2 [0] [(18,vS p3 y1 c3),(19,vA (cProg y p1 c1 p2 c2))] ?_;obtain ⟨y3,hy3,N⟩:=zB ho0;refine xQ (zNJ y _ hy3 h2 h3) ?_;rintro I04 hs2 v2 k2 le3 - ⟨v05,rfl,rfl,h6⟩ -;have ⟨h4,H⟩:=m2 le3 h4 H;obtain ⟨p5,c5,rfl⟩:=h6.form;obtain ⟨y4,hy4,N⟩:=zB N;refine vZ (zNW y1 y3 _ hy4 h4 h6) ?_;intro I05 le4;have H:=H.trans le4;refine yB 6 [] [23] rfl<|xW [23] N ?_ ?_
   · intro hc1 N;exact wG [] [(29,vY)]<|yQ<|zT (ct N H)
   intro hc1 N;exact yJ [] [29] rfl<|yQ<|zT (ct N H)
 intro t29 I03 le5 hMc;have ⟨h4,h5,h2,h3⟩:=m4 le5 h4 h5 h2 h3;refine zI<|yE hMc ?_ ?_
 · intro hc2 N;refine vJ [(2,vF)]<|xG<|zH ?_;obtain rfl:=zC N;exact wP
 intro hc2 N;refine zS<|zZ<|yG [6] rfl<|xZ<|pJ [(3,vP b 0),(4,vS p3 y1 c3),(5,vS p4 y2 c4),(6,vI 0)] ?_;obtain ⟨o02,ho02,hMl⟩:=zB N;refine zNC y1 y2 0 o02 ho02 iR h4 h5 h2 h3 (fun _ _ _ h=>h) (fun _ _ h=>h) ?_ ?_
 · intro I07  heq2 le7;subst o02;have ⟨h4,h2,h3⟩:=m3 le7 h4 h2 h3;refine zR<|yV<|fW 1 [0] [(52,vA (cProg y p1 c1 p2 c2))] ?_;obtain ⟨y5,hy8,N⟩:=zB hMl;refine xQ (zJK y _ hy8 h2 h3) ?_;rintro I08 hs2 v2 k2 le8 - ⟨v07,rfl,rfl,h8⟩ -;have h4:=h4.mono le8;obtain ⟨p6,c6,rfl⟩:=h8.form;refine yJ [] [7] rfl<|zZ<|yG [8] rfl<|xZ<|kX (zY [] (hs':=[]))<|pJ [(4,vS p3 y1 c3),(7,vS p6 y5 c6),(8,vI 0)] ?_;obtain ⟨o03,ho03,hMl1⟩:=zB N;refine zND y1 y5 0 o03 ho03 iR h4 h8 (fun _ _ _ h=>h) (fun _ _ h=>h) ?_ ?_
   · intro I09  heq3 le9;subst o03;refine zR<|zF0 [(2,vY)]<|zI<|yW ?_;obtain rfl:=zC hMl1;exact wP
   intro r0 I9 hs9 m9 heq9 le9 hrs9;subst heq9;refine zW<|zH ?_;obtain rfl:=zC hMl1;exact xA hrs9
 intro r0 I9 hs9 m9 heq9 le9 hrs9;subst heq9;refine zW<|zH ?_;obtain rfl:=zC hMl;exact xA hrs9
end Go.LN
namespace Go.LN
theorem implInstP (P:zE) (h:BG P):zMo P=some (if validP P then progI P else []):=by
  unfold zMo validP;rw [implInstances P h];cases progB P with
  | false=>rfl
  | true=>cases hd:decide ((progI P).length ≤ 120) <;> simp [hd]
end Go.LN
namespace Go.LN
theorem specInstP (P:zE) (h:BG P):zMr P=some (if validP P then progI P else []):=by
  unfold zMr;rw [specValidP P h];cases hv:validP P with
  | false=>rfl
  | true =>
    obtain ⟨_,v2,v3,_⟩:=fT hv;have hl:=zIs P v2 v3 _ 0 [] (Nat.zero_add _) (by simp);rw [nZ,List.nil_append] at hl;simp only [bT,bF,if_false,oB,oS,sL,hl,oP,id,if_true];rfl
theorem zNn (l:List Int) (h:l.length ≤ 1048576):zNA l l=some true:=by
  unfold zNA;have hl:=eJ (n:=l.length) (f:=zMt l l) (P:=fun _=>true) (fun i hi=>by
      rw [zMt];have h1:((i:Int) < (l.length:Int)):=by omega
      simp only [h1,dT,if_true,yZ hi,oB,oS,bne_self_eq_false,bF,if_false];rw [tE (by omega)]) (by rw [zMt]; simp)
  rw [hl];have:((List.range l.length).all fun _=>true)=true:=by simp
  simp [this]
end Go.LN
namespace Go.LN
theorem zNt (P:Kn) (i k j:Nat):dqR P i k (j + 1)=dq1 P i k ++ dqR P i (k + 1) j:=by unfold dqR; rw [List.range'_succ,List.flatMap_cons]
theorem zN8 (P:Kn) (i j:Nat):dqA P i (j + 1)=dqR P i (i + 1) (P.n - (i + 1)) ++ dqA P (i + 1) j:=by unfold dqA; rw [List.range'_succ,List.flatMap_cons]
def kGQ (P:Kn) (i m:Nat):Int:=if m < P.n then P.k i m else 0
def mxV (P:Kn) (f:Nat→Int) (k:Nat):Nat→Int
  | 0=>0
  | i + 1=>if kGQ P i k=0 then mxV P f k i else if f i + 1 > mxV P f k i then f i + 1 else mxV P f k i
def levL (P:Kn):Nat→List Int
  | 0=>[]
  | k + 1=>levL P k ++ [mxV P (fun i=>(levL P k).getD i 0) k k]
def lev (P:Kn) (k:Nat):Int:=mxV P (fun i=>(levL P k).getD i 0) k k
theorem zN9 (P:Kn):∀ k,(levL P k).length=k
  | 0=>rfl
  | k + 1=>by rw [levL,lA,zN9 P k]; rfl
theorem zNa (P:Kn):∀ (k i:Nat),i < k→(levL P k).getD i 0=lev P i
  | k + 1,i,h=>by
    rw [levL]
    have hl:=zN9 P k
    rcases Nat.lt_or_ge i k with h' | h'
    · rw [← zNa P k i h',List.getD_eq_getElem?_getD,List.getElem?_append_left (by omega),← List.getD_eq_getElem?_getD]
    · have e:i=k:=by omega
      subst e
      rw [List.getD_eq_getElem?_getD,List.getElem?_append_right (by omega),hl,Nat.sub_self]; rfl
theorem zNZ {P:Kn}{f g:Nat→Int}{k:Nat}:∀ j:Nat,(∀ i,i < j→f i=g i)→mxV P f k j=mxV P g k j
  | 0,_=>rfl
  | j + 1,h=>by rw [mxV,mxV,zNZ j fun i hi=>h i (by omega),h j (by omega)]
theorem zNO (P:Kn) (k:Nat):lev P k=mxV P (lev P) k k:=zNZ k fun i hi=>zNa P k i hi
theorem zNX {P:Kn}{f:Nat→Int}{k:Nat}:∀ j:Nat,0 ≤ mxV P f k j
  | 0=>Int.le_refl _
  | j + 1=>by
    have:=zNX (P:=P) (f:=f) (k:=k) j
    rw [mxV]
    split
    · exact this
    · split
      · omega
      · exact this
theorem zNu {P:Kn}{f:Nat→Int}{k:Nat}:∀ j:Nat,(∀ i:Nat,i < j→f i ≤ (i:Int))→mxV P f k j ≤ (j:Int)
  | 0,_=>Int.le_refl _
  | j + 1,h=>by
    have:=zNu (P:=P) (f:=f) (k:=k) j fun i hi=>h i (by omega)
    have hj:=h j (by omega)
    rw [mxV]
    split
    · omega
    · split <;> omega
theorem zNh (P:Kn):∀ k:Nat,0 ≤ lev P k∧lev P k ≤ (k:Int):=by
  intro k
  induction k using Nat.strongRecOn with
  | _ k ih=>rw [zNO]; exact ⟨zNX k,zNu k fun i hi=>(ih i hi).2⟩
theorem zNv {P:Kn}{f:Nat→Int}{k i:Nat} (hk:kGQ P i k ≠ 0):∀ j:Nat,i < j→f i + 1 ≤ mxV P f k j
  | j + 1,h=>by
    rw [mxV]
    rcases Nat.lt_or_ge i j with h' | h'
    · have:=zNv (P:=P) (f:=f) hk j h'
      split
      · exact this
      · split <;> omega
    · have e:i=j:=by omega
      subst e
      rw [if_neg hk]
      split <;> omega
def upd (g:Nat→Int) (m:Nat) (v:Int):Nat→Int:=fun x=>if x=m then v else g x
def stpF (g:Nat→Int) (d:zV):Nat→Int:=if W (g d.From.toNat + 1) > g d.To.toNat then upd g d.To.toNat (W (g d.From.toNat + 1)) else g
def stpP (p:Nat→Bool) (g:Nat→Int) (d:zV):Nat→Int:=if p d.To.toNat then stpF g d else g
theorem zNL (P:Kn) (p:Nat→Bool) (q:Nat):∀ (j k:Nat) (g:Nat→Int),q < k→(dqR P q k j).foldl (stpP p) g=fun m=>if (k ≤ m∧m < k + j)∧p m=true∧P.k q m ≠ 0∧W (g q + 1) > g m then W (g q + 1) else g m
  | 0,k,g,_=>by
    funext m
    rw [if_neg (by omega)]
    rfl
  | j + 1,k,g,hq=>by
    rw [zNt,List.foldl_append]
    by_cases h0:P.k q k=0
    · have e:dq1 P q k=[]:=by unfold dq1; rw [if_pos (by simpa using h0)]
      rw [e,List.foldl_nil,zNL P p q j (k + 1) g (by omega)]
      funext m
      by_cases hm:m=k
      · subst hm
        rw [if_neg (by omega),if_neg (fun h=>h.2.2.1 h0)]
      · by_cases hc:(k + 1 ≤ m∧m < k + 1 + j)∧p m=true∧P.k q m ≠ 0∧W (g q + 1) > g m
        · rw [if_pos hc,if_pos ⟨⟨by omega,by omega⟩,hc.2⟩]
        · rw [if_neg hc,if_neg fun h=>hc ⟨⟨by omega,by omega⟩,h.2⟩]
    · have e:dq1 P q k=[⟨(q:Int),(k:Int),P.k q k⟩]:=by unfold dq1; rw [if_neg (by simpa using h0)]
      rw [e,List.foldl_cons,List.foldl_nil]
      have hst:stpP p g ⟨(q:Int),(k:Int),P.k q k⟩=fun m=>if m=k∧p m=true∧W (g q + 1) > g m then W (g q + 1) else g m:=by
        unfold stpP stpF upd
        simp only [iN]
        funext m
        by_cases hp:p k=true
        · rw [if_pos hp]
          by_cases hw:W (g q + 1) > g k
          · rw [if_pos hw]
            by_cases hm:m=k
            · subst hm
              rw [if_pos rfl,if_pos ⟨rfl,hp,hw⟩]
            · rw [if_neg hm,if_neg fun h=>hm h.1]
          · rw [if_neg hw]
            by_cases hm:m=k
            · subst hm
              rw [if_neg fun h=>hw h.2.2]
            · rw [if_neg fun h=>hm h.1]
        · rw [if_neg hp]
          by_cases hm:m=k
          · subst hm
            rw [if_neg fun h=>hp h.2.1]
          · rw [if_neg fun h=>hm h.1]
      rw [hst,zNL P p q j (k + 1) _ (by omega)]
      funext m
      have hqk:¬(q=k∧p q=true∧W (g q + 1) > g q):=fun h=>by omega
      rw [if_neg hqk]
      by_cases hm:m=k
      · subst hm
        rw [if_neg (by omega)]
        by_cases hw:p m=true∧W (g q + 1) > g m
        · rw [if_pos ⟨rfl,hw⟩,if_pos ⟨⟨by omega,by omega⟩,hw.1,h0,hw.2⟩]
        · rw [if_neg fun h=>hw h.2,if_neg fun h=>hw ⟨h.2.1,h.2.2.2⟩]
      · rw [if_neg (c:=m=k∧p m=true∧W (g q + 1) > g m) fun h=>hm h.1]
        by_cases hc:(k + 1 ≤ m∧m < k + 1 + j)∧p m=true∧P.k q m ≠ 0∧W (g q + 1) > g m
        · rw [if_pos hc,if_pos ⟨⟨by omega,by omega⟩,hc.2⟩]
        · rw [if_neg hc,if_neg fun h=>hc ⟨⟨by omega,by omega⟩,h.2⟩]
theorem zOF {P:Kn}{k:Nat} (h:k ≤ 1000000):W (lev P k + 1)=lev P k + 1:=by
  have:=zNh P k;exact rU (by omega) (by omega)
theorem zNi (P:Kn) (hlen:P.n ≤ 120):∀ (j i:Nat),i + j=P.n→(dqA P i j).foldl (stpP fun _=>true) (fun m=>mxV P (lev P) m (min i m))=fun m=>mxV P (lev P) m (min P.n m)
  | 0,i,hi=>by
    rw [show i=P.n by omega]
    rfl
  | j + 1,i,hi=>by
    rw [zN8,List.foldl_append,zNL P _ i _ _ _ (by omega),← zNi P hlen j (i + 1) (by omega)]
    congr 1
    funext m
    rw [Nat.min_self,← zNO,zOF (by omega)]
    by_cases hm:m ≤ i
    · rw [if_neg (by omega),show min i m=m by omega,show min (i + 1) m=m by omega]
    · rw [show min i m=i by omega,show min (i + 1) m=i + 1 by omega,mxV]
      unfold kGQ
      by_cases hn:m < P.n
      · rw [if_pos hn]
        by_cases h0:P.k i m=0
        · rw [if_pos h0,if_neg fun h=>h.2.2.1 h0]
        · rw [if_neg h0]
          by_cases hw:lev P i + 1 > mxV P (lev P) m i
          · rw [if_pos hw,if_pos ⟨⟨by omega,by omega⟩,rfl,h0,hw⟩]
          · rw [if_neg hw,if_neg fun h=>hw h.2.2.2]
      · rw [if_neg hn,if_pos rfl,if_neg (by omega)]
def levT (P:Kn) (t:Nat):Nat→Int:=fun m=>if m < t then lev P m else 0
theorem zNj (P:Kn) (hlen:P.n ≤ 120) (t:Nat) (ht:t < P.n):∀ (j i:Nat),i + j=P.n→(dqA P i j).foldl (stpP fun m=>m == t) (fun m=>if m=t then mxV P (lev P) t (min i t) else levT P t m)=levT P (t + 1)
  | 0,i,hi=>by
    funext m
    show (if m=t then mxV P (lev P) t (min i t) else levT P t m)=_
    rw [show min i t=t by omega,← zNO]
    unfold levT
    by_cases hm:m=t
    · rw [if_pos hm,hm,if_pos (by omega)]
    · rw [if_neg hm]
      by_cases h2:m < t
      · rw [if_pos h2,if_pos (by omega)]
      · rw [if_neg h2,if_neg (by omega)]
  | j + 1,i,hi=>by
    rw [zN8,List.foldl_append,zNL P _ i _ _ _ (by omega),← zNj P hlen t ht j (i + 1) (by omega)]
    congr 1
    funext m
    by_cases hm:m=t
    · subst hm
      rw [if_pos rfl,if_pos rfl]
      by_cases hi':i < m
      · have hg:(if i=m then mxV P (lev P) m (min i m) else levT P m i)=lev P i:=by
          rw [if_neg (by omega)]; unfold levT; rw [if_pos hi']
        rw [hg,zOF (by omega),show min i m=i by omega,show min (i + 1) m=i + 1 by omega,mxV]
        unfold kGQ
        rw [if_pos ht]
        by_cases h0:P.k i m=0
        · rw [if_pos h0,if_neg fun h=>h.2.2.1 h0]
        · rw [if_neg h0]
          by_cases hw:lev P i + 1 > mxV P (lev P) m i
          · rw [if_pos hw,if_pos ⟨⟨by omega,by omega⟩,by simp,h0,hw⟩]
          · rw [if_neg hw,if_neg fun h=>hw h.2.2.2]
      · rw [if_neg (by omega),show min i m=m by omega,show min (i + 1) m=m by omega]
    · have hp:¬((m == t)=true):=by simpa using hm
      rw [if_neg hm,if_neg hm,if_neg fun h=>hp h.2.1]
def stL (n:Nat) (g:Nat→Int):List Int:=(List.range n).map g
theorem zNM (n:Nat) (g:Nat→Int):(stL n g).length=n:=by unfold stL; rw [lM,List.length_range]
theorem zNN {n m:Nat}{g:Nat→Int} (h:m < n):idx (stL n g) (m:Int)=some (g m):=by
  rw [yZ (by rw [zNM]; exact h)];simp [stL]
theorem zN3 {n i:Nat}{g:Nat→Int} (h:i < (stL n g).length):(stL n g)[i]=g i:=by simp [stL]
theorem zNk {n m:Nat}{g:Nat→Int}{v:Int} (h:m < n):(stL n g).set m v=stL n (upd g m v):=by
  refine List.ext_getElem (by rw [List.length_set,zNM,zNM]) fun i h1 h2=>?_;rw [List.getElem_set,zN3,zN3];unfold upd;by_cases e:m=i
  · rw [if_pos e,if_pos e.symm]
  · rw [if_neg e,if_neg fun h=>e h.symm]
theorem zN0 {n:Nat}{f g:Nat→Int} (h:∀ m,m < n→f m=g m):stL n f=stL n g:=by
  unfold stL;exact List.map_congr_left fun m hm=>h m (List.mem_range.1 hm)
theorem zOH (P:zE):dqA (kn P) 0 (kn P).n=depA P 0 (progI P).length:=rfl
end Go.LN
namespace Go.LN
end Go.LN
namespace Go.LN
end Go.LN
namespace Go.LN
theorem AV.bl {a:zJ} (h:AV a):BL a.Subs:=⟨by have:=h.2.1; omega,fun s hs=>by have:=h.2.2 s hs; unfold BA; omega⟩
end Go.LN
namespace Go.LN
end Go.LN
namespace Go.LN
def eqL {α:Type} (q:α→α→Bool):List α→List α→Bool
  | [],[]=>true
  | x::a,y::b=>q x y && eqL q a b
  | _,_=>false
theorem zNV {α:Type}{a b:List α} (hl:a.length=b.length) {q:α→α→Bool}{f:Int→Option (Out Unit Bool)} (step:∀ (i:Nat) (h1:i < a.length) (h2:i < b.length),f (i:Int)=if q a[i] b[i] then f ((i + 1:Nat):Int) else some (.ret false)) (fin:f (a.length:Int)=some (.done ())):f 0=some (if eqL q a b then .done () else .ret false):=by
  have key:∀ (j i:Nat),i + j=a.length→f (i:Int)=some (if eqL q (a.drop i) (b.drop i) then .done () else .ret false):=by
    intro j
    induction j with
    | zero =>
      intro i hi;rw [show i=a.length by omega,fin,dN.2 (Nat.le_refl a.length),dN.2 (show b.length ≤ a.length by omega)]; rfl
    | succ j ih =>
      intro i hi;have h1:i < a.length:=by omega
      have h2:i < b.length:=by omega
      rw [step i h1 h2,ih (i + 1) (by omega),gC h1,gC h2,eqL];cases q a[i] b[i] <;> rfl
  have:=key a.length 0 (Nat.zero_add _);rwa [nZ,List.drop_zero,List.drop_zero] at this
theorem zNS {α:Type}{q:α→α→Bool}:∀ {a b:List α},a.length ≠ b.length→eqL q a b=false
  | [],[],h=>absurd rfl h
  | [],_::_,_=>rfl
  | _::_,[],_=>rfl
  | x::a,y::b,h=>by rw [eqL,zNS (by simpa using h),Bool.and_false]
def eqI (a b:List Int):Bool:=eqL (fun x y=>x == y) a b
theorem implEqI (a b:List Int) (h:a.length ≤ 1048576):jE a b=some (eqI a b):=by
  unfold jE eqI;by_cases hl:a.length=b.length
  · have hf:=zNV (q:=fun x y=>x == y) hl (f:=pK a b) (fun i h1 h2=>by
      rw [pK];have c:((i:Int) < (a.length:Int)):=by omega
      simp only [c,dT,if_true,yZ h1,yZ h2,oB,oS,oP];rw [tE (by omega)];by_cases e:a[i]=b[i]
      · simp [e]
      · simp [e]) (by rw [pK]; simp)
    have e:((a.length:Int) != (b.length:Int))=false:=by simp [hl]
    rw [hf,e];cases eqL (fun x y=>x == y) a b <;> rfl
  · have e:((a.length:Int) != (b.length:Int))=true:=by simp; omega
    rw [e,zNS hl]; rfl
theorem specEqI (a b:List Int) (h:a.length ≤ 1048576):zAn a b=some (eqI a b):=by
  unfold zAn eqI;by_cases hl:a.length=b.length
  · have hf:=zNV (q:=fun x y=>x == y) hl (f:=gW a b) (fun i h1 h2=>by
      rw [gW];have c:((i:Int) < (a.length:Int)):=by omega
      simp only [c,dT,if_true,yZ h1,yZ h2,oB,oS,oP];rw [tE (by omega)];by_cases e:a[i]=b[i]
      · simp [e]
      · simp [e]) (by rw [gW]; simp)
    have e:((a.length:Int) != (b.length:Int))=false:=by simp [hl]
    rw [hf,e];cases eqL (fun x y=>x == y) a b <;> rfl
  · have e:((a.length:Int) != (b.length:Int))=true:=by simp; omega
    rw [e,zNS hl]; rfl
def afB (x y:zA):Bool:=eqI x.Coefs y.Coefs && x.Const == y.Const
theorem implAff (x y:zA) (h:x.Coefs.length ≤ 1048576):mJ x y=some (afB x y):=by
  unfold mJ afB;rw [implEqI _ _ h];cases eqI x.Coefs y.Coefs <;> rfl
theorem specAff (x y:zA) (h:x.Coefs.length ≤ 1048576):eG x y=some (afB x y):=by
  unfold eG afB;rw [specEqI _ _ h];cases eqI x.Coefs y.Coefs <;> cases x.Const == y.Const <;> rfl
def acB (a b:zJ):Bool:=a.Array.l == b.Array.l && eqL afB a.Subs b.Subs
theorem implAcS (a b:zJ) (ha:AV a):jT a b=some (acB a b):=by
  unfold jT acB;cases a.Array.l == b.Array.l with
  | false=>rfl
  | true =>
    have h2:=ha.2.1;unfold xU;by_cases hl:a.Subs.length=b.Subs.length
    · have hf:=zNV (q:=afB) hl (f:=xF a.Subs b.Subs mJ) (fun i h1 h2=>by
        rw [xF];have c:((i:Int) < (a.Subs.length:Int)):=by omega
        have hc:=ha.2.2 _ (gM h1);simp only [c,dT,if_true,yZ h1,yZ h2,implAff _ _ (show a.Subs[i].Coefs.length ≤ 1048576 by omega),oB,oS,oP];rw [tE (by omega)];cases afB a.Subs[i] b.Subs[i] <;> rfl) (by rw [xF]; simp)
      have e:((a.Subs.length:Int) != (b.Subs.length:Int))=false:=by simp [hl]
      rw [hf,e];cases eqL afB a.Subs b.Subs <;> rfl
    · have e:((a.Subs.length:Int) != (b.Subs.length:Int))=true:=by simp; omega
      rw [e,zNS hl]; rfl
theorem specAcS (a b:zJ) (ha:AV a):fB a b=some (acB a b):=by
  unfold fB acB;cases a.Array.l == b.Array.l with
  | false=>rfl
  | true =>
    have h2:=ha.2.1;unfold eH;by_cases hl:a.Subs.length=b.Subs.length
    · have hf:=zNV (q:=afB) hl (f:=mM a.Subs b.Subs) (fun i h1 h2=>by
        rw [mM];have c:((i:Int) < (a.Subs.length:Int)):=by omega
        have hc:=ha.2.2 _ (gM h1);simp only [c,dT,if_true,yZ h1,yZ h2,specAff _ _ (show a.Subs[i].Coefs.length ≤ 1048576 by omega),oB,oS,oP];rw [tE (by omega)];cases afB a.Subs[i] b.Subs[i] <;> rfl) (by rw [mM]; simp)
      have e:((a.Subs.length:Int) != (b.Subs.length:Int))=false:=by simp [hl]
      rw [hf,e];cases eqL afB a.Subs b.Subs <;> rfl
    · have e:((a.Subs.length:Int) != (b.Subs.length:Int))=true:=by simp; omega
      rw [e,zNS hl]; rfl
def usB (n:Nat) (e:zG) (l:List UInt8):Bool:=(readsF n e).any fun a=>a.Array.l == l
theorem specUs {d:Int}:∀ (n:Nat) (e:zG) (nm:Str),shapeB d n e=true→gQ e nm=some (usB n e nm.l)
  | 0,e,nm,h=>by cases h
  | n + 1,e,nm,h=>by
    rw [gQ]
    unfold usB
    rw [readsF]
    obtain ⟨h1,h2⟩:=eY h
    by_cases h3:e.Kind=3
    · have e3:(e.Kind == 3)=true:=by simpa using h3
      have hk:=(zGp h h3).1
      have hl:eI e nm 0=some (.done ()):=by rw [eI]; simp [hk]
      rw [if_pos h3]
      simp only [e3,if_true,same,hl,oB,oS,oP,List.any_cons,List.any_nil,Bool.or_false]
      cases e.Read.Array.l == nm.l <;> rfl
    · have e3:(e.Kind == 3)=false:=by simpa using h3
      rw [if_neg h3]
      simp only [e3,bF,if_false,same,oB,oS,oP]
      rcases h1 with hk | ⟨a,b,hk⟩
      · have hl:eI e nm 0=some (.done ()):=by rw [eI]; simp [hk]
        rw [hl,hk]; rfl
      · have ra:=specUs n a nm (h2 a (by rw [hk]; simp))
        have rb:=specUs n b nm (h2 b (by rw [hk]; simp))
        have l0:((0:Int) < (e.Kids.length:Int)):=by rw [hk]; simp
        have l1:((1:Int) < (e.Kids.length:Int)):=by rw [hk]; simp
        have l2:¬((2:Int) < (e.Kids.length:Int)):=by rw [hk]; simp
        have i0:idx e.Kids 0=some a:=by rw [hk]; rfl
        have i1:idx e.Kids 1=some b:=by rw [hk]; rfl
        have w0:W ((0:Int) + 1)=1:=by rw [rU (by omega) (by omega)]; rfl
        have w1:W ((1:Int) + 1)=2:=by rw [rU (by omega) (by omega)]; rfl
        have f2:eI e nm 2=some (.done ()):=by rw [eI]; simp only [l2,dF,bF,if_false,oP]
        have f1:eI e nm 1=some (if usB n b nm.l then .ret true else .done ()):=by
          rw [eI]
          simp only [l1,dT,if_true,i1,same,rb,w1,f2,oB,oS,oP]
          cases usB n b nm.l <;> rfl
        have f0:eI e nm 0=some (if usB n a nm.l || usB n b nm.l then .ret true else .done ()):=by
          rw [eI]
          simp only [l0,dT,if_true,i0,same,ra,w0,f1,oB,oS,oP]
          cases usB n a nm.l <;> rfl
        have eu:(e.Kids.flatMap (readsF n)).any (fun x=>x.Array.l == nm.l)=(usB n a nm.l || usB n b nm.l):=by
          rw [hk]
          unfold usB
          simp
        rw [f0,eu]
        cases usB n a nm.l <;> cases usB n b nm.l <;> rfl
def redB (s:zN):Bool:=match s.Value.Kids with
  | [x,y]=>(s.Value.Kind == 4 || s.Value.Kind == 5) && (x.Kind == 3 && (acB x.Read s.Write && !usB 4 y s.Write.Array.l))
  | _=>false
theorem implRed (s:zN) {d:Int} (hs:stmtB s d=true):fZ s=some (redB s):=by
  obtain ⟨s1,s2,s3⟩:=zB8 hs;unfold fZ redB;rcases zMY s2 with hk | ⟨hk,x,y,hxy⟩
  · have h4:(s.Value.Kind != 4)=true:=by simp; omega
    have h5:(s.Value.Kind != 5)=true:=by simp; omega
    have hn:s.Value.Kids=[]:=by
      rcases (eY s2).1 with h | ⟨a,b,h⟩
      · exact h
      · have h0:=s2;simp only [shapeB,bA] at h0;have h1:=eq_of_beq h0.1.1;unfold kidsN at h1;rw [if_pos hk,h] at h1;simp at h1
    rw [hn];simp [h4,h5]
  · have h2:=(eY s2).2;rw [hxy] at h2 ⊢;have sx:=h2 x (by simp);have sy:=h2 y (by simp);have i0:idx [x,y] 0=some x:=rfl;have i1:idx [x,y] 1=some y:=rfl;have hr:=implReads 4 y sy (by omega);have hlen:=jJ 4 y sy;have hc:=zHx (f:=fun x0=>kO x0 s) (p:=fun a=>a.Array.l == s.Write.Array.l) (readsF 4 y) (fun a ha=>rfl) (by omega);have hu:(readsF 4 y).any (fun a=>a.Array.l == s.Write.Array.l)=usB 4 y s.Write.Array.l:=rfl;rw [hu] at hc;dsimp only;by_cases k3:x.Kind=3
    · have hx:=AV.of (zGp sx k3).2;have e3:(x.Kind != 3)=false:=by simpa using k3
      have e3':(x.Kind == 3)=true:=by simpa using k3
      by_cases k4:s.Value.Kind=4
      · have e4:(s.Value.Kind != 4)=false:=by simpa using k4
        have e4':(s.Value.Kind == 4)=true:=by simpa using k4
        simp only [e4,e4',e3,e3',bF,if_false,i0,i1,implAcS x.Read s.Write hx,hr,hc,oB,oS,oP,Bool.true_or,Bool.true_and];cases acB x.Read s.Write <;> rfl
      · have e4:(s.Value.Kind != 4)=true:=by simpa using k4
        have e4':(s.Value.Kind == 4)=false:=by simpa using k4
        by_cases k5:s.Value.Kind=5
        · have e5:(s.Value.Kind != 5)=false:=by simpa using k5
          have e5':(s.Value.Kind == 5)=true:=by simpa using k5
          simp only [e4,e4',e5,e5',e3,e3',bF,if_false,if_true,i0,i1,implAcS x.Read s.Write hx,hr,hc,oB,oS,oP,Bool.or_true,Bool.true_and];cases acB x.Read s.Write <;> rfl
        · have e5:(s.Value.Kind != 5)=true:=by simpa using k5
          have e5':(s.Value.Kind == 5)=false:=by simpa using k5
          simp only [e4,e4',e5,e5',if_true,oB,oS,oP,Bool.or_self,Bool.false_and]
    · have e3:(x.Kind != 3)=true:=by simpa using k3
      have e3':(x.Kind == 3)=false:=by simpa using k3
      by_cases k4:s.Value.Kind=4
      · have e4:(s.Value.Kind != 4)=false:=by simpa using k4
        simp only [e4,e3,e3',bF,if_false,if_true,i0,oB,oS,oP,Bool.false_and,Bool.and_false]
      · have e4:(s.Value.Kind != 4)=true:=by simpa using k4
        by_cases k5:s.Value.Kind=5
        · have e5:(s.Value.Kind != 5)=false:=by simpa using k5
          simp only [e4,e5,e3,e3',bF,if_false,if_true,i0,oB,oS,oP,Bool.false_and,Bool.and_false]
        · have e5:(s.Value.Kind != 5)=true:=by simpa using k5
          simp only [e4,e5,e3',if_true,oB,oS,oP,Bool.false_and,Bool.and_false]
theorem specRed (s:zN) {d:Int} (hs:stmtB s d=true):zB5 s=some (redB s):=by
  obtain ⟨s1,s2,s3⟩:=zB8 hs;unfold zB5 redB;rcases zMY s2 with hk | ⟨hk,x,y,hxy⟩
  · have h4:(s.Value.Kind != 4)=true:=by simp; omega
    have h5:(s.Value.Kind != 5)=true:=by simp; omega
    have hn:s.Value.Kids=[]:=by
      rcases (eY s2).1 with h | ⟨a,b,h⟩
      · exact h
      · have h0:=s2;simp only [shapeB,bA] at h0;have h1:=eq_of_beq h0.1.1;unfold kidsN at h1;rw [if_pos hk,h] at h1;simp at h1
    rw [hn];simp [h4,h5]
  · have h2:=(eY s2).2;rw [hxy] at h2 ⊢;have sx:=h2 x (by simp);have sy:=h2 y (by simp);have i0:idx [x,y] 0=some x:=rfl;have i1:idx [x,y] 1=some y:=rfl;have hu:=specUs 4 y s.Write.Array sy;dsimp only;have hT:(if (s.Value.Kind != 4)=true then some (s.Value.Kind != 5) else some false)=some (!(s.Value.Kind == 4 || s.Value.Kind == 5)):=by
      unfold bne;cases s.Value.Kind == 4 <;> rfl
    simp only [oP,oB,hT,oS];cases (s.Value.Kind == 4 || s.Value.Kind == 5) with
    | false=>rfl
    | true =>
      simp only [bT,bF,if_false,i0,i1,oS,Bool.true_and];by_cases k3:x.Kind=3
      · have hx:=AV.of (zGp sx k3).2;have e3':(x.Kind == 3)=true:=by simpa using k3
        simp only [e3',if_true,specAcS x.Read s.Write hx,hu,oS,Bool.true_and];cases acB x.Read s.Write <;> rfl
      · have e3':(x.Kind == 3)=false:=by simpa using k3
        simp only [e3',bF,if_false,Bool.false_and];rfl
def namF (P:zE) (z:zO):Str:=if redB (stI P z) then (stI P z).Write.Array else ⟨[]⟩
theorem zNw {P:zE} (hb:BG P) (hv:validP P=true):∀ (j i:Nat) (o:List Str),i + j=(progI P).length→o.length=i→jH P (progI P) o (i:Int)=some (o ++ ((progI P).drop i).map (namF P)):=by
  have hlen:=(fT hv).2.2.2;intro j
  induction j with
  | zero =>
    intro i o hi ho;rw [jH];have:¬((i:Int) < ((progI P).length:Int)):=by omega
    simp only [this,dF,bF,if_false,oP,id];rw [dN.2 (by omega)]; simp
  | succ j ih =>
    intro i o hi ho;rw [jH];have hlt:i < (progI P).length:=by omega
    have hc:((i:Int) < ((progI P).length:Int)):=by omega
    have hz:=zIE hb hv (gM hlt);obtain ⟨d,hd⟩:=hz.st;rw [gC hlt,List.map_cons];simp only [hc,dT,if_true,yZ hlt,hz.idxP,hz.idxS,specRed _ hd,oB,oS,oP];have en:(if redB (stI P (progI P)[i])=true then some (stI P (progI P)[i]).Write.Array else some (⟨[]⟩:Str))=some (namF P (progI P)[i]):=by
      unfold namF;cases redB (stI P (progI P)[i]) <;> rfl
    rw [en,tE (by omega)];simp only [oS,oT (show (o.length + [namF P (progI P)[i]].length) * 16 ≤ 140737488355328 by simp; omega)];rw [ih (i + 1) _ (by omega) (by rw [lA]; simp; omega),List.append_assoc]; rfl
instance zNb (r:zL):Tot (zAO r) (0 ≤ r.p∧r.p ≤ 30000000) (fun φ=>∀ a s,SG 1000 a→r.p ≤ s.p→s.p ≤ r.p + 4000000→φ (a,s)):=⟨by
  rintro ⟨h0,h1⟩ φ hk
  unfold zAO
  refine Ok.call (zAA r _) ⟨by decide,h0,by omega⟩ fun y s g1 g2=>?_
  have hy:y.l.length ≤ 1000:=by
    revert g1 y
    decide
  refine Ok.cat (by simp; omega) fun t _ ht=>?_
  simp only [List.length_cons,List.length_nil] at ht
  refine Ok.call (zFL t) (by omega) fun p b hp=>?_
  refine Ok.bind (φ:=fun o=>r.p ≤ o.2.p∧o.2.p ≤ r.p + 2) ?_ ?_
  · exact Ok.ite (fun _=>Ok.call (fO s 3) ⟨by omega,by omega⟩ fun y u k1 k2 k3=>Ok.pure ⟨by dsimp only; omega,by dsimp only; omega⟩) fun _=>Ok.pure ⟨by dsimp only; omega,by dsimp only; omega⟩
  rintro ⟨z,u⟩ ⟨g3,g4⟩
  dsimp only at g3 g4 ⊢
  refine Ok.ite (fun _=>Ok.pure (hk _ _ hp g3 (by omega))) fun _=>Ok.call (zMT u) ⟨by omega,by omega⟩ fun a v g5 g6 g7=>Ok.pure (hk _ v g5 (by omega) (by omega))⟩
end Go.LN
namespace Go.LN
theorem zNx {s:List zV}{f:zV→Option Bool}{p:zV→Bool} (hf:∀ d ∈ s,f d=some (p d)) (hl:s.length ≤ 1000000):∀ (j q:Nat),q + j=s.length →
    (∃ k:Nat,q ≤ k∧k < s.length∧(∀ h:k < s.length,p s[k]=true)∧(∀ (i:Nat) (h:i < s.length),q ≤ i→i < k→p s[i]=false)∧vQ s f (q:Int)=some (.ret (k:Int))) ∨
    ((∀ (i:Nat) (h:i < s.length),q ≤ i→p s[i]=false)∧vQ s f (q:Int)=some (.done ())):=by
  intro j
  induction j with
  | zero =>
    intro q hq
    refine .inr ⟨fun i h h1=>by omega,?_⟩
    rw [vQ]
    have:¬((q:Int) < (s.length:Int)):=by omega
    simp only [this,dF,bF,if_false,oP]
  | succ j ih =>
    intro q hq
    have hlt:q < s.length:=by omega
    have hc:((q:Int) < (s.length:Int)):=by omega
    have hx:=hf s[q] (gM hlt)
    cases hp:p s[q] with
    | true =>
      refine .inl ⟨q,Nat.le_refl _,hlt,fun _=>hp,fun i h h1 h2=>by omega,?_⟩
      rw [vQ]
      simp only [hc,dT,if_true,yZ hlt,hx,hp,oB,oS,oP]
    | false =>
      have e:vQ s f (q:Int)=vQ s f ((q + 1:Nat):Int):=by
        rw [vQ]
        simp only [hc,dT,if_true,yZ hlt,hx,hp,bF,if_false,oB,oS]
        rw [tE (by omega)]
      rw [e]
      rcases ih (q + 1) (by omega) with ⟨k,h1,h2,h3,h4,h5⟩ | ⟨h1,h2⟩
      · refine .inl ⟨k,by omega,h2,h3,fun i h g1 g2=>?_,h5⟩
        by_cases hi:i=q
        · subst hi; exact hp
        · exact h4 i h (by omega) g2
      · refine .inr ⟨fun i h g1=>?_,h2⟩
        by_cases hi:i=q
        · subst hi; exact hp
        · exact h1 i h (by omega)
theorem zNY {α:Type}{l:List α}{i:Nat}{x:α} (h:i < l.length):(l.set i x).take (i + 1)=l.take i ++ [x]:=by
  rw [List.take_add_one,List.getElem?_set_self h,List.take_set_of_le (Nat.le_refl _)]; rfl
theorem zOI {s:List zV}{f:zV→Option Bool}{p:zV→Bool} (hf:∀ d ∈ s,f d=some (p d)) (hl:s.length ≤ 1000000):∀ (r j:Nat) (s1:List zV) (i:Nat),j + r=s.length→s1.length=s.length→i < j→s1.drop j=s.drop j →
    ∃ (s2:List zV) (i2:Nat),vO f s1 (i:Int) (j:Int)=some (s2,(i2:Int))∧i2 ≤ s2.length∧s2.length=s.length∧s2.take i2=s1.take i ++ (s.drop j).filter fun d=>!p d:=by
  intro r
  induction r with
  | zero =>
    intro j s1 i hj h1 hi hd
    refine ⟨s1,i,?_,by omega,h1,?_⟩
    · rw [vO]
      have:¬((j:Int) < (s1.length:Int)):=by omega
      simp only [this,dF,bF,if_false,oP]
    · rw [dN.2 (show s.length ≤ j by omega)]; simp
  | succ r ih =>
    intro j s1 i hj h1 hi hd
    have hlt:j < s.length:=by omega
    have hlt1:j < s1.length:=by omega
    have hc:((j:Int) < (s1.length:Int)):=by omega
    have e0:s1[j]=s[j]:=by
      have g1:(s1.drop j)[0]?=(s.drop j)[0]?:=by rw [hd]
      rw [List.getElem?_drop,List.getElem?_drop,Nat.add_zero,List.getElem?_eq_getElem hlt1,List.getElem?_eq_getElem hlt] at g1
      exact Option.some.inj g1
    have hd2:s1.drop (j + 1)=s.drop (j + 1):=by
      have:(s1.drop j).drop 1=(s.drop j).drop 1:=by rw [hd]
      rwa [List.drop_drop,List.drop_drop] at this
    have hx:=hf s[j] (gM hlt)
    rw [vO,gC hlt]
    simp only [hc,dT,if_true,yZ hlt1,e0,hx,oB,oS,oP]
    cases hp:p s[j] with
    | false =>
      have hii:i < s1.length:=by omega
      simp only [Bool.not_false,if_true,yZ hii,oS,iN]
      rw [tE (show i < 9223372036854775807 by omega),tE (show j < 9223372036854775807 by omega)]
      obtain ⟨s2,i2,g1,g2,g3,g4⟩:=ih (j + 1) (s1.set i s[j]) (i + 1) (by omega) (by rw [List.length_set]; exact h1) (by omega) (by rw [List.drop_set_of_lt (by omega)]; exact hd2)
      refine ⟨s2,i2,g1,g2,g3,?_⟩
      rw [g4,zNY hii,List.filter_cons,hp]
      simp
    | true =>
      simp only [bT,bF,if_false,oS]
      rw [tE (show j < 9223372036854775807 by omega)]
      obtain ⟨s2,i2,g1,g2,g3,g4⟩:=ih (j + 1) s1 i (by omega) h1 (by omega) hd2
      refine ⟨s2,i2,g1,g2,g3,?_⟩
      rw [g4,List.filter_cons,hp]
      simp
theorem delV {s:List zV}{f:zV→Option Bool}{p:zV→Bool} (hf:∀ d ∈ s,f d=some (p d)) (hl:s.length ≤ 1000000):sY s f=some (s.filter fun d=>!p d):=by
  unfold sY rG;rcases zNx hf hl _ 0 (Nat.zero_add _) with ⟨k,_,h2,h3,h4,h5⟩ | ⟨h1,h2⟩
  · rw [nZ] at h5;have e:((k:Int) == -1)=false:=by simp
    obtain ⟨s2,i2,g1,g2,g3,g4⟩:=zOI hf hl _ (k + 1) s k (Nat.add_sub_cancel' (by omega)) rfl (by omega) rfl;have ec:clrL s2 (i2:Int) (zV.mk 0 0 0)=some (s2.take i2 ++ List.replicate (s2.length - i2) (zV.mk 0 0 0)):=by
      unfold clrL;rw [if_pos ⟨by omega,by omega⟩]; rfl
    have es:slc (s2.take i2 ++ List.replicate (s2.length - i2) (zV.mk 0 0 0)) 0 (i2:Int)=some (s2.take i2):=by
      unfold slc;rw [if_pos ⟨by omega,by omega,by simp; omega⟩,iN,List.take_append_of_le_length (by rw [List.length_take]; omega),List.take_take,Nat.min_self]; rfl
    simp only [h5,oB,oS,oP,e,bF,if_false,id];rw [tE (show k < 9223372036854775807 by omega)];simp only [g1,oS,ec,es];refine congrArg some ?_;rw [g4];have e1:s=s.take k ++ s[k]::s.drop (k + 1):=by rw [← gC h2,List.take_append_drop]
    have e2:(s.take k).filter (fun d=>!p d)=s.take k:=by
      refine List.filter_eq_self.2 fun d hd=>?_;obtain ⟨i,hi,rfl⟩:=List.mem_iff_getElem.1 hd;rw [List.length_take] at hi;rw [List.getElem_take,h4 i (by omega) (by omega) (by omega)]; rfl
    conv=>rhs; rw [e1]
    rw [List.filter_append,List.filter_cons,h3 h2,e2];simp
  · rw [nZ] at h2;simp only [h2,oB,oS,oP,bQ,if_true,id];refine congrArg some (List.filter_eq_self.2 fun d hd=>?_).symm;obtain ⟨i,hi,rfl⟩:=List.mem_iff_getElem.1 hd;rw [h1 i hi (by omega)]; rfl
def kpD (P:zE) (d:zV):Bool:=(namF P (zIns P d.From.toNat)).l == [] || !((namF P (zIns P d.From.toNat)).l == (namF P (zIns P d.To.toNat)).l)
def sdF (P:zE):List zV:=(dpF P).filter (kpD P)
theorem zOG {P:zE}{z:zO} (hz:InP P z):((stI P z).Write.Array.l == [])=false:=by
  obtain ⟨d,hd⟩:=hz.st;have hw:accB (stI P z).Write d=true:=by simp only [stmtB,bA] at hd; exact hd.1.2
  cases hl:(stI P z).Write.Array.l with
  | nil =>
    simp only [accB,bA] at hw;rw [hl] at hw;exact absurd hw.1.1 (by decide)
  | cons x l=>rfl
theorem zNy {P:zE}{a b:zO} (ha:InP P a) (hb:InP P b):((namF P a).l == [] || !((namF P a).l == (namF P b).l))=!(redB (stI P a) && (redB (stI P b) && ((stI P a).Write.Array.l == (stI P b).Write.Array.l))):=by
  have h1:=zOG ha;have h2:=zOG hb;unfold namF;cases redB (stI P a) with
  | false=>rfl
  | true =>
    cases redB (stI P b) with
    | false=>simp only [if_true,bF,if_false,h1,Bool.false_or,Bool.false_and,Bool.and_false]
    | true=>simp only [if_true,h1,Bool.false_or,Bool.true_and]
theorem zIxQ {P:zE}{i:Nat} (h:i < (progI P).length):idx (progI P) (i:Int)=some (zIns P i):=by rw [yZ h,zIF h]
theorem predSD {P:zE} (hb:BG P) (hv:validP P=true) {d:zV} (hd:d ∈ dpF P):nF d (trcP P)=some (!kpD P d):=by
  have e:dpF P=depA P 0 (progI P).length:=by unfold dpF; rw [hv]; rfl
  rw [e] at hd;obtain ⟨i,k,rfl,h1,h2,_⟩:=zMh hd;have hi:i < (progI P).length:=by omega
  have ha:=zIE hb hv (zJj hi);have hk:=zIE hb hv (zJj h2);obtain ⟨d1,hd1⟩:=ha.st;obtain ⟨d2,hd2⟩:=hk.st;have eT:(trcP P).list=progI P:=rfl;have eP:(trcP P).Program=P:=rfl;unfold nF pC kpD;simp only [eT,eP,zIxQ hi,zIxQ h2,ha.idxP,ha.idxS,hk.idxP,hk.idxS,implRed _ hd1,implRed _ hd2,oB,oS,oP,id,iN];rw [zNy ha hk,Bool.not_not];cases redB (stI P (zIns P i)) <;> cases redB (stI P (zIns P k)) <;> rfl
theorem implSD (P:zE) (hb:BG P):zA9 P=some (sdF P):=by
  unfold zA9 sdF;rw [implTrace P hb];cases hv:validP P with
  | false =>
    have e:dpF P=[]:=by unfold dpF; rw [hv]; rfl
    rw [e]; rfl
  | true =>
    have hdp:=implDeps P hb;unfold jI at hdp;rw [implTrace P hb,hv] at hdp;simp only [if_true,oB,oS,bT,bF,if_false,oP,id] at hdp ⊢;cases hd:nS (trcP P) with
    | none=>rw [hd] at hdp; cases hdp
    | some y =>
      rw [hd] at hdp;have hy:y=dpF P:=Option.some.inj hdp;have hlen:=zMg (P:=P);rw [oS,hy,delV (fun d hd=>predSD hb hv hd) (by omega)];rw [oS];refine congrArg some (List.filter_congr fun d _=>?_);rw [Bool.not_not]
theorem namesV {P:zE} (hb:BG P) (hv:validP P=true):dP P=some ((progI P).map (namF P)):=by
  have h:=zNw hb hv _ 0 [] (Nat.zero_add _) rfl;rw [nZ,List.drop_zero,List.nil_append] at h;unfold dP;simp only [specInsts P hv,h,oB,oS,oP,id]
theorem zNl {P:zE}{i:Nat} (h:i < (progI P).length):idx ((progI P).map (namF P)) (i:Int)=some (namF P (zIns P i)):=by
  rw [yZ (by rw [lM]; exact h),List.getElem_map,zIF h]
theorem zNo {P:zE}{D:List zV} (hD:∀ d ∈ D,∃ i k:Nat,d.From=(i:Int)∧d.To=(k:Int)∧i < (progI P).length∧k < (progI P).length) (hl:D.length ≤ 1000000):∀ (j q:Nat) (o:List zV),q + j=D.length→o.length ≤ q→mN ((progI P).map (namF P)) D o (q:Int)=some (o ++ (D.drop q).filter (kpD P)):=by
  intro j
  induction j with
  | zero =>
    intro q o hq ho;rw [mN];have:¬((q:Int) < (D.length:Int)):=by omega
    simp only [this,dF,bF,if_false,oP,id];rw [dN.2 (by omega)]; simp
  | succ j ih =>
    intro q o hq ho;have hlt:q < D.length:=by omega
    have hc:((q:Int) < (D.length:Int)):=by omega
    obtain ⟨i,k,e1,e2,h1,h2⟩:=hD D[q] (gM hlt);rw [mN,gC hlt,List.filter_cons];have ek:kpD P D[q]=((namF P (zIns P i)).l == [] || !((namF P (zIns P i)).l == (namF P (zIns P k)).l)):=by unfold kpD; rw [e1,e2,iN,iN]
    rw [ek];simp only [hc,dT,if_true,yZ hlt,e1,e2,zNl h1,zNl h2,oB,oS,oP,id];have et:(if ((namF P (zIns P i)).l == [])=true then some true else some (!((namF P (zIns P i)).l == (namF P (zIns P k)).l)))=some ((namF P (zIns P i)).l == [] || !((namF P (zIns P i)).l == (namF P (zIns P k)).l)):=by
      cases (namF P (zIns P i)).l == [] <;> rfl
    rw [et,oS];cases ((namF P (zIns P i)).l == [] || !((namF P (zIns P i)).l == (namF P (zIns P k)).l)) with
    | true =>
      simp only [if_true,oT (show (o.length + [D[q]].length) * 24 ≤ 140737488355328 by simp; omega),oS];rw [tE (by omega),ih (q + 1) _ (by omega) (by rw [lA]; simp; omega),List.append_assoc]; rfl
    | false =>
      simp only [bF,if_false,oS];rw [tE (by omega),ih (q + 1) _ (by omega) (by omega)]
theorem zNz {P:zE}:∀ d ∈ depA P 0 (progI P).length,∃ i k:Nat,d.From=(i:Int)∧d.To=(k:Int)∧i < (progI P).length∧k < (progI P).length:=by
  intro d hd;obtain ⟨i,k,rfl,h1,h2,_⟩:=zMh hd;exact ⟨i,k,rfl,rfl,by omega,h2⟩
theorem specSD (P:zE) (hb:BG P):zAa P=some (sdF P):=by
  unfold zAa sdF;rw [specValidP P hb];cases hv:validP P with
  | false =>
    have e:dpF P=[]:=by unfold dpF; rw [hv]; rfl
    rw [e]; rfl
  | true =>
    have e:dpF P=depA P 0 (progI P).length:=by unfold dpF; rw [hv]; rfl
    have hlen:=zMg (P:=P);rw [e] at hlen ⊢;have h:=zNo zNz (by omega) _ 0 [] (Nat.zero_add (depA P 0 (progI P).length).length) (Nat.le_refl 0);rw [nZ,List.drop_zero,List.nil_append] at h;simp only [bT,bF,if_false,namesV hb hv,specDeps6 P hb hv,h,oB,oS,oP,id]
theorem drawSD (code:List UInt8):Ok (eN code) BG:=by
  unfold eN;refine Ok.call (zLu code) trivial fun s hs=>Ok.call (zNb s) ⟨by omega,by omega⟩ fun a t g1 g2 g3=>?_;refine Ok.bind (mut4 t a g1.dp (by omega) (by omega)) fun p hp=>?_;obtain ⟨P,r⟩:=p;exact Ok.pure hp.1.1
theorem zN4 {P:zE}:(sdF P).length ≤ 14400:=Nat.le_trans (List.length_filter_le _ _) zMg
end Go.LN
namespace Go.LN
theorem zNm (n:Nat) (hn:n ≤ 1000000):mkrow 8 (n:Int) (0:Int)=some (List.replicate n 0):=by
  unfold mkrow;rw [if_pos ⟨by omega,by omega⟩,iN]
theorem zNc (n:Nat):List.replicate n (0:Int)=stL n fun _=>0:=by
  refine List.ext_getElem (by rw [List.length_replicate,zNM]) fun i h1 h2=>?_;rw [zN3,List.getElem_replicate]
theorem zOJ {g:Nat→Int}{k:Nat}{c:Prop} [Decidable c] {v:Int}:upd g k (if c then v else g k)=if c then upd g k v else g:=by
  by_cases h:c
  · rw [if_pos h,if_pos h]
  · rw [if_neg h,if_neg h]
    funext x
    unfold upd;by_cases e:x=k
    · rw [if_pos e,e]
    · rw [if_neg e]
def DB (n:Nat) (d:zV):Prop:=∃ i k:Nat,d.From=(i:Int)∧d.To=(k:Int)∧i < n∧k < n
theorem zNe {K:Kn}:∀ d ∈ dqA K 0 K.n,DB K.n d:=by
  intro d hd;obtain ⟨i,k,rfl,h1,h2,_⟩:=zMX hd;exact ⟨i,k,rfl,rfl,by omega,h2⟩
theorem zNp {D:List zV}{n t:Nat} (hD:∀ d ∈ D,DB n d) (hl:D.length ≤ 1000000) (ht:t < n):∀ (j q:Nat) (g:Nat→Int),q + j=D.length→zMu D (t:Int) (stL n g) (q:Int)=some (stL n ((D.drop q).foldl (stpP fun m=>m == t) g)):=by
  intro j
  induction j with
  | zero =>
    intro q g hq;rw [zMu];have:¬((q:Int) < (D.length:Int)):=by omega
    simp only [this,dF,bF,if_false,oP,id];rw [dN.2 (by omega)]; rfl
  | succ j ih =>
    intro q g hq;rw [zMu];have hlt:q < D.length:=by omega
    have hc:((q:Int) < (D.length:Int)):=by omega
    obtain ⟨i,k,e1,e2,h1,h2⟩:=hD D[q] (gM hlt);rw [gC hlt,List.foldl_cons];simp only [hc,dT,if_true,yZ hlt,oB,oS,oP,id,e1,e2];by_cases hk:k=t
    · subst hk;simp only [bQ,if_true,zNN h1,zNN h2,oS,iN,zNk h2];rw [tE (by omega),ih (q + 1) _ (by omega)];unfold stpP stpF;rw [e1,e2,iN,iN,zOJ];simp
    · have e3:((k:Int) == (t:Int))=false:=by simpa using fun h=>hk (by omega)
      simp only [e3,bF,if_false,oS];rw [tE (by omega),ih (q + 1) _ (by omega)];unfold stpP;rw [e2,iN];simp [hk]
theorem zOK (K:Kn):levT K 0=fun _=>0:=by
  funext m
  unfold levT;rw [if_neg (by omega)]
theorem zOC (K:Kn) (t:Nat):levT K t=fun m=>if m=t then mxV K (lev K) t (min 0 t) else levT K t m:=by
  funext m
  by_cases h:m=t
  · rw [if_pos h,Nat.zero_min,h];unfold levT;rw [if_neg (by omega)]; rfl
  · rw [if_neg h]
theorem zNq {K:Kn} (hlen:K.n ≤ 120) (hl:(dqA K 0 K.n).length ≤ 1000000) {o:List Int} (ho:o.length=K.n):∀ (j t:Nat),t + j=K.n→zMp (dqA K 0 K.n) o (stL K.n (levT K t)) (t:Int)=some (stL K.n (lev K)):=by
  intro j
  induction j with
  | zero =>
    intro t ht;rw [zMp];have:¬((t:Int) < (o.length:Int)):=by omega
    simp only [this,dF,bF,if_false,oP,id];exact congrArg some (zN0 fun m hm=>by unfold levT; rw [if_pos (by omega)])
  | succ j ih =>
    intro t ht;rw [zMp];have hc:((t:Int) < (o.length:Int)):=by omega
    have h2:=zNp zNe hl (show t < K.n by omega) _ 0 (levT K t) (Nat.zero_add _);have h3:=zNj K hlen t (by omega) _ 0 (Nat.zero_add _);rw [← zOC] at h3;rw [nZ,List.drop_zero,h3] at h2;simp only [hc,dT,if_true,h2,oB,oS];rw [tE (by omega)];exact ih (t + 1) (by omega)
theorem levelsV {K:Kn} (hlen:K.n ≤ 120) (hl:(dqA K 0 K.n).length ≤ 1000000):zMx (dqA K 0 K.n) (K.n:Int)=some (stL K.n (lev K)):=by
  have h:=zNq hlen hl (o:=List.replicate K.n 0) (List.length_replicate ..) _ 0 (Nat.zero_add _);rw [zOK,← zNc,nZ] at h;simp only [oB,oS,zMx,zNm _ (show K.n ≤ 1000000 by omega),h,oP,id]
theorem levels0:zMx [] 0=some []:=by
  have h1:zMp [] [] [] 0=some []:=by rw [zMp]; simp
  unfold zMx;have h0:mkrow 8 (0:Int) (0:Int)=some []:=zNm 0 (by omega);simp [h0,h1]
theorem zOL {D:List zV}{n:Nat} (hD:∀ d ∈ D,DB n d) (hl:D.length ≤ 1000000):∀ (j q:Nat) (g:Nat→Int),q + j=D.length→zMl D (stL n g) (q:Int)=some (stL n ((D.drop q).foldl (stpP fun _=>true) g)):=by
  intro j
  induction j with
  | zero =>
    intro q g hq;rw [zMl];have:¬((q:Int) < (D.length:Int)):=by omega
    simp only [this,dF,bF,if_false,oP,id];rw [dN.2 (by omega)]; rfl
  | succ j ih =>
    intro q g hq;rw [zMl];have hlt:q < D.length:=by omega
    have hc:((q:Int) < (D.length:Int)):=by omega
    obtain ⟨i,k,e1,e2,h1,h2⟩:=hD D[q] (gM hlt);rw [gC hlt,List.foldl_cons];have es:stpP (fun _=>true) g D[q]=if W (g i + 1) > g k then upd g k (W (g i + 1)) else g:=by
      unfold stpP stpF;rw [e1,e2,iN,iN]; rfl
    rw [es];simp only [hc,dT,if_true,yZ hlt,oB,oS,oP,id,e1,e2,zNN h1,zNN h2,iN,zNk h2];rw [tE (show q < 9223372036854775807 by omega)];by_cases hw:W (g i + 1) > g k
    · simp only [hw,dT,if_true,oS];rw [ih (q + 1) _ (by omega)]
    · simp only [hw,dF,bF,if_false,oS];rw [ih (q + 1) _ (by omega)]
def sn (P:zE):Kn:=⟨fun i k=>if kpD P ⟨(i:Int),(k:Int),kindI P i k⟩ then kindI P i k else 0,(progI P).length⟩
theorem zOP (P:zE):(depA P 0 (progI P).length).filter (kpD P)=dqA (sn P) 0 (sn P).n:=by
  unfold depA dqA;rw [List.filter_flatMap]
  congr 1
  funext i
  unfold depR dqR;rw [List.filter_flatMap]
  congr 1
  funext k
  unfold dep1 dq1;by_cases hK:kindI P i k=0
  · have e:(sn P).k i k=0:=by
      show (if kpD P ⟨(i:Int),(k:Int),kindI P i k⟩ then kindI P i k else 0)=0;split
      · exact hK
      · rfl
    have a:(kindI P i k == 0)=true:=by simp [hK]
    have b:((sn P).k i k == 0)=true:=by simp [e]
    rw [if_pos a,if_pos b]; rfl
  · have a:¬(kindI P i k == 0)=true:=by simp [hK]
    rw [if_neg a];by_cases hp:kpD P ⟨(i:Int),(k:Int),kindI P i k⟩=true
    · have e:(sn P).k i k=kindI P i k:=if_pos hp;have b:¬((sn P).k i k == 0)=true:=by rw [e]; exact a
      rw [if_neg b,e,List.filter_cons,if_pos hp]; rfl
    · have e:(sn P).k i k=0:=if_neg hp;have b:((sn P).k i k == 0)=true:=by simp [e]
      rw [if_pos b,List.filter_cons,if_neg hp]; rfl
theorem zNf {P:zE} (hv:validP P=true):sdF P=dqA (sn P) 0 (sn P).n:=by
  rw [← zOP];unfold sdF dpF;rw [hv]; rfl
def lsF (P:zE):List Int:=if validP P then stL (progI P).length (lev (kn P)) else []
def rlF (P:zE):List Int:=if validP P then stL (progI P).length (lev (sn P)) else []
theorem implLevels (P:zE) (hb:BG P):zMy P=some (lsF P):=by
  have hl:=zMg (P:=P);unfold zMy lsF;rw [implDeps P hb,implInstP P hb];cases hv:validP P with
  | false =>
    have e:dpF P=[]:=by unfold dpF; rw [hv]; rfl
    rw [e];simp [levels0]
  | true =>
    have hlen:=(fT hv).2.2.2;have e:dpF P=dqA (kn P) 0 (kn P).n:=by rw [zOH]; unfold dpF; rw [hv]; rfl
    rw [e] at hl ⊢;have h:=levelsV (K:=kn P) hlen (by omega);simp only [if_true,oB,oS,oP,id];rw [show (((progI P).length:Nat):Int)=((kn P).n:Int) from rfl,h]; rfl
theorem implRL (P:zE) (hb:BG P):zMv P=some (rlF P):=by
  have hl:=zN4 (P:=P);unfold zMv rlF;rw [implSD P hb,implInstP P hb];cases hv:validP P with
  | false =>
    have e:sdF P=[]:=by unfold sdF dpF; rw [hv]; rfl
    rw [e];simp [levels0]
  | true =>
    have hlen:=(fT hv).2.2.2;rw [zNf hv] at hl ⊢;have h:=levelsV (K:=sn P) hlen (by omega);simp only [if_true,oB,oS,oP,id];rw [show (((progI P).length:Nat):Int)=((sn P).n:Int) from rfl,h]; rfl
theorem specRL (P:zE) (hb:BG P):zMw P=some (rlF P):=by
  have hl:=zN4 (P:=P);unfold zMw rlF;rw [specInstP P hb,specSD P hb];cases hv:validP P with
  | false =>
    have e:sdF P=[]:=by unfold sdF dpF; rw [hv]; rfl
    have h1:zMl [] [] 0=some []:=by rw [zMl]; simp
    rw [e];simp only [bF,if_false,oB,oS,oP,id];rw [show ((([]:List zO).length:Int))=((0:Nat):Int) from rfl,zNm 0 (by omega)];simp [h1]
  | true =>
    have hlen:=(fT hv).2.2.2;rw [zNf hv] at hl ⊢;have h:=zOL (zNe (K:=sn P)) (by omega) _ 0 (fun _=>0) (Nat.zero_add (dqA (sn P) 0 (sn P).n).length);have h3:=zNi (sn P) hlen _ 0 (Nat.zero_add _);have e0:(fun m=>mxV (sn P) (lev (sn P)) m (min 0 m))=fun _=>(0:Int):=by funext m; rw [Nat.zero_min]; rfl
    rw [e0] at h3;rw [List.drop_zero,h3,← zNc,nZ] at h;simp only [if_true,oB,oS,zNm _ (show (progI P).length ≤ 1000000 by omega),oP,id];rw [show List.replicate (progI P).length (0:Int)=List.replicate (sn P).n (0:Int) from rfl,h];exact congrArg some (zN0 fun m hm=>by
      rw [show min (sn P).n m=m from Nat.min_eq_right (Nat.le_of_lt hm),← zNO])
theorem zNd {A B:Kn}{f g:Nat→Int}{k:Nat} (hk:∀ i,kGQ A i k ≠ 0→kGQ B i k ≠ 0):∀ j:Nat,(∀ i,i < j→f i ≤ g i)→mxV A f k j ≤ mxV B g k j
  | 0,_=>Int.le_refl _
  | j + 1,h=>by
    have ih:=zNd (f:=f) (g:=g) hk j fun i hi=>h i (by omega)
    have hj:=h j (by omega)
    rw [mxV,mxV]
    by_cases h1:kGQ A j k=0
    · rw [if_pos h1]
      split
      · exact ih
      · split <;> omega
    · rw [if_neg h1,if_neg (hk j h1)]
      split <;> split <;> omega
theorem zOM (P:zE):∀ m,lev (sn P) m ≤ lev (kn P) m:=by
  intro m
  induction m using Nat.strongRecOn with
  | _ m ih =>
    rw [zNO,zNO];refine zNd (fun i hi=>?_) m fun i hi=>ih i hi;unfold kGQ at hi ⊢;by_cases hm:m < (progI P).length
    · rw [if_pos (show m < (sn P).n from hm)] at hi;rw [if_pos (show m < (kn P).n from hm)];intro h0;have h0':kindI P i m=0:=h0;refine hi ?_;show (if kpD P ⟨(i:Int),(m:Int),kindI P i m⟩ then kindI P i m else 0)=0;rw [h0']; simp
    · rw [if_neg (show ¬m < (sn P).n from hm)] at hi;exact absurd rfl hi
theorem zON {K:Kn}{d:zV} (h:d ∈ dqA K 0 K.n):lev K d.From.toNat < lev K d.To.toNat:=by
  obtain ⟨i,k,rfl,h1,h2,h3⟩:=zMX h;show lev K ((i:Int)).toNat < lev K ((k:Int)).toNat;rw [iN,iN];have:=zNv (f:=lev K) (show kGQ K i k ≠ 0 by unfold kGQ; rw [if_pos h2]; exact h3) k h1;rw [← zNO] at this;omega
theorem zOD {P:zE}:(rlF P).length ≤ 120:=by
  unfold rlF;split
  · rename_i hv;rw [zNM]; exact (fT hv).2.2.2
  · simp
theorem zNT (code:List UInt8):∃ r,zMs code=some r∧r=true:=by
  obtain ⟨y,hy,hb⟩:=drawSD code;have hd:zMq code=some y:=by unfold zMq; rw [hy]; rfl
  unfold zMs;refine ⟨true,?_,rfl⟩;by_cases h1:(code.length:Int) > 1048576
  · simp [h1]
  · have hrl:=zOD (P:=y);have hr:=zNn (rlF y) (by omega);have hll:(lsF y).length=(rlF y).length:=by unfold lsF rlF; split <;> simp [zNM]
    have hsl:=zN4 (P:=y);have hne:(((lsF y).length:Int) != ((rlF y).length:Int))=false:=by rw [hll]; simp
    have l1:zMm (rlF y) (lsF y) 0=some (.done ()):=by
      have h:=eJ (n:=(rlF y).length) (f:=zMm (rlF y) (lsF y)) (P:=fun _=>true) (fun i hi=>by
        rw [zMm];have c:((i:Int) < ((rlF y).length:Int)):=by omega
        have hg:(rlF y)[i] ≤ (lsF y)[i]'(by omega)∧0 ≤ (rlF y)[i]:=by
          have hi':=hi;unfold rlF at hi';cases hv:validP y with
          | false=>rw [hv] at hi'; simp at hi'
          | true =>
            have e1:rlF y=stL (progI y).length (lev (sn y)):=by unfold rlF; rw [hv]; rfl
            have e2:lsF y=stL (progI y).length (lev (kn y)):=by unfold lsF; rw [hv]; rfl
            simp only [e1,e2,zN3];exact ⟨zOM y i,(zNh (sn y) i).1⟩
        have n1:¬((rlF y)[i] > (lsF y)[i]'(by omega)):=by omega
        have n2:¬((rlF y)[i] < 0):=by omega
        simp only [c,dT,if_true,yZ hi,yZ (show i < (lsF y).length by omega),n1,n2,dF,bF,if_false,oB,oS,oP];rw [tE (by omega)]) (by
        rw [zMm];simp)
      rw [h];have:((List.range (rlF y).length).all fun _=>true)=true:=by simp
      simp [this]
    have l2:zMn (rlF y) (sdF y) 0=some (.done ()):=by
      have h:=eJ (n:=(sdF y).length) (f:=zMn (rlF y) (sdF y)) (P:=fun _=>true) (fun q hq=>by
        rw [zMn];have c:((q:Int) < ((sdF y).length:Int)):=by omega
        cases hv:validP y with
        | false =>
          have e:sdF y=[]:=by unfold sdF dpF; rw [hv]; rfl
          rw [e] at hq; cases hq
        | true =>
          have e1:rlF y=stL (progI y).length (lev (sn y)):=by unfold rlF; rw [hv]; rfl
          have hm:(sdF y)[q] ∈ dqA (sn y) 0 (sn y).n:=by rw [← zNf hv]; exact gM hq
          have hlt:=zON hm;obtain ⟨i,k,f1,f2,g1,g2⟩:=zNe _ hm;rw [f1,f2,iN,iN] at hlt;have n1:¬(lev (sn y) i ≥ lev (sn y) k):=by omega
          rw [e1];simp only [c,dT,if_true,yZ hq,f1,f2,zNN (show i < (progI y).length from g1),zNN (show k < (progI y).length from g2),n1,dF,bF,if_false,oB,oS,oP];rw [tE (by omega)]) (by
        rw [zMn];simp)
      rw [h];have:((List.range (sdF y).length).all fun _=>true)=true:=by simp
      simp [this]
    simp only [h1,dF,bF,if_false,hd,implRL y hb,specRL y hb,implLevels y hb,implSD y hb,hr,hne,l1,l2,bT,oP,oB,oS]
end Go.LN
