/- Helper of the proof (see the last text). -/
import Derived.Test.YtaflkghnfcjahaaGreatLnA
import Derived.Test.YtaflkghnfcjahaaGreatLnI
import Derived.Test.YtaflkghnfcjahaaGreatLnO
import Derived.Test.YtaflkghnfcjahaaGreatTryzShelf
import Derived.Test.YtaflkghnfcjahaaGreatHM1
import Derived.Test.YtaflkghnfcjahaaGreatHM2
import Derived.Test.YtaflkghnfcjahaaGreatHM3
import Derived.Test.YtaflkghnfcjahaaGreatHM4
import Derived.Test.YtaflkghnfcjahaaGreatHM5
import Derived.Test.YtaflkghnfcjahaaGreatHM6
import Derived.Test.YtaflkghnfcjahaaGreatHM7
import Derived.Test.YtaflkghnfcjahaaGreatQT
import Derived.Test.YtaflkghnfcjahaaGreatQZ
import Derived.Test.YtaflkghnfcjahaaGreatVB1
import Derived.Test.YtaflkghnfcjahaaGreatVB8
import Derived.Test.YtaflkghnfcjahaaGreatVL3
import Derived.Test.YtaflkghnfcjahaaGreatLnR
set_option linter.unusedVariables false
set_option linter.unusedSimpArgs false
namespace Go.LN
def Imm.del (i:Imm) (b:Nat):Imm:=fun x=>if x=b then none else i x
section
variable {B:Base}{imm:Imm}{hs:List HA}{w:World}
theorem Good.lend {A:HA} (h:Good B imm (A::hs) w) (hpl:A.plain=true):∃ imm1,imm.le imm1∧Lent imm1 A∧Good ⟨w,imm1,hs.flatMap HA.fp⟩ imm1 hs w ∧
    ∀ imm2 hs' w',Good ⟨w,imm1,hs.flatMap HA.fp⟩ imm2 hs' w'→∃ imm3,imm.le imm3∧imm3.le imm2∧(∀ b c,imm2 b=some c→w.heap.size ≤ b→imm3 b=some c)∧Good ⟨w,imm,(A::hs).flatMap HA.fp⟩ imm3 (A::hs') w':=by
  have hA:=h.own _ (List.mem_cons_self ..)
  have hnd:=h.nodup
  rw [List.flatMap_cons] at hnd
  obtain ⟨_,hnd2,hdis⟩:=List.nodup_append.1 hnd
  rcases hA.cells hpl with ⟨hfp,hL⟩ | ⟨b,c,ty,hfp,hc,hL⟩
  · refine ⟨imm,Imm.le.refl _,hL _,h.tail.enter (fun _ h=>h) hnd2,fun imm2 hs' w' h'=>⟨imm2,fun _ _ e=>(h'.frm.imm _ (h.lt_imm e) (h.tail.nio e)).trans e,Imm.le.refl _,fun _ _ e _=>e,?_⟩⟩
    have hA0:∀ (B:Base) (i:Imm) (w:World),A.ok B i w:=fun B' i w'=>hA.same (by simp [hfp]) (by simp [hfp]) (by simp [hfp])
    refine ⟨h'.inv,fun A' hA'=>?_,by rw [List.flatMap_cons,hfp]; exact h'.nodup,by rw [List.flatMap_cons,hfp]; exact h'.frm⟩
    rcases List.mem_cons.1 hA' with rfl | hA'
    · exact hA0 _ _ _
    · refine (h'.own A' hA').same (fun b' _ hp=>?_) (fun _ _=>rfl) (fun _ _=>rfl)
      rw [List.flatMap_cons,hfp]; exact hp
  · have hb:b ∈ A.fp:=by simp [hfp]
    obtain ⟨h1,h2,h3⟩:=hA.lt hb
    have hbn:b ∉ hs.flatMap HA.fp:=fun hb'=>hdis b hb b hb' rfl
    have hle:imm.le (imm.add b c):=Imm.le_add c h3
    refine ⟨imm.add b c,hle,hL _ (Imm.add_self ..),⟨fun b' c' e=>?_,fun A' hA'=>?_,hnd2,⟨rfl,rfl,rfl,Nat.le_refl _,fun _ _ _=>rfl,fun _ _ _=>rfl,Nat.le_refl _⟩⟩,fun imm2 hs' w' h'=>?_⟩
    · unfold Imm.add at e
      split at e
      · rename_i hx; subst hx; cases e; exact ⟨ty,_,hc⟩
      · exact h.inv b' c' e
    · refine (h.own A' (List.mem_cons_of_mem _ hA')).same (fun b' hb' _=>.inr (List.mem_flatMap.2 ⟨A',hA',hb'⟩)) (fun b' hb'=>?_) (fun _ _=>rfl)
      have:b' ≠ b:=by intro e; subst e; exact hbn (List.mem_flatMap.2 ⟨A',hA',hb'⟩)
      simp [Imm.add,this]
    · have hdel:∀ b',b' ≠ b→(imm2.del b) b'=imm2 b':=fun b' hne=>by simp [Imm.del,hne]
      have hself:(imm2.del b) b=none:=by simp [Imm.del]
      have hnew:∀ b' ∈ hs'.flatMap HA.fp,b' ≠ b:=fun b' hb' e=>by
        subst e
        rcases (h'.mem_lt hb').2.1 with hp | hp
        · have:w.heap.size ≤ b':=hp
          omega
        · exact hbn hp
      refine ⟨imm2.del b,fun b' c' e=>?_,fun b' c' e=>?_,fun b' c' e hlt=>?_,⟨fun b' c' e=>?_,fun A' hA'=>?_,?_,⟨h'.frm.os,h'.frm.tape,h'.frm.output,h'.frm.size,fun b' hlt hio=>?_,fun b' hlt hio=>?_,h'.frm.drawn⟩⟩⟩
      · have hne:b' ≠ b:=by intro e'; subst e'; rw [h3] at e; cases e
        rw [hdel _ hne]
        exact (h'.frm.imm b' (h.lt_imm e) (h.tail.nio e)).trans (hle _ _ e)
      · by_cases hne:b'=b
        · subst hne; rw [hself] at e; cases e
        · rwa [hdel _ hne] at e
      · rw [hdel _ (by omega)]; exact e
      · by_cases hne:b'=b
        · subst hne; rw [hself] at e; cases e
        · rw [hdel _ hne] at e; exact h'.inv b' c' e
      · rcases List.mem_cons.1 hA' with rfl | hA'
        · refine hA.same (fun b' hb' _=>.inr (by rw [List.flatMap_cons]; exact List.mem_append_left _ hb')) (fun b' hb'=>?_) (fun b' hb'=>?_)
          · rw [hfp] at hb'; simp at hb'; subst hb'; rw [hself,h3]
          · rw [hfp] at hb'; simp at hb'; subst hb'; exact h'.frm.heap _ h1 hbn
        · refine (h'.own A' hA').same (fun b' _ hp=>?_) (fun b' hb'=>hdel _ (hnew b' (List.mem_flatMap.2 ⟨A',hA',hb'⟩))) (fun _ _=>rfl)
          rcases hp with hp | hp
          · exact .inl hp
          · exact .inr (by rw [List.flatMap_cons]; exact List.mem_append_right _ hp)
      · rw [List.flatMap_cons]
        refine List.nodup_append.2 ⟨by rw [hfp]; simp,h'.nodup,fun x hx y hy e=>?_⟩
        subst e
        rw [hfp] at hx; simp at hx
        exact hnew x hy hx
      · exact h'.frm.heap b' hlt (fun hb'=>hio (by rw [List.flatMap_cons]; exact List.mem_append_right _ hb'))
      · by_cases hne:b'=b
        · subst hne; rw [hself]; exact h3.symm
        · rw [hdel _ hne]
          refine (h'.frm.imm b' hlt (fun hb'=>hio (by rw [List.flatMap_cons]; exact List.mem_append_right _ hb'))).trans ?_
          simp [Imm.add,hne]
end
end Go.LN
namespace Go.LN
section
variable {P:Program}{n:Nat}{B:Base}{Q:Exit→Act→World→Prop}{imm:Imm}{hs:List HA}{m:FM}{ops:List Oper}{pc d:Nat}
theorem Good.lendL:∀ (L:List HA) {B:Base}{imm:Imm}{hs:List HA}{w:World},Good B imm (L ++ hs) w→L.all HA.plain=true→∃ imm1,imm.le imm1∧(∀ A ∈ L,Lent imm1 A)∧Good ⟨w,imm1,hs.flatMap HA.fp⟩ imm1 hs w ∧
    ∀ imm2 hs' w',Good ⟨w,imm1,hs.flatMap HA.fp⟩ imm2 hs' w'→∃ imm3,imm.le imm3∧imm3.le imm2∧(∀ b c,imm2 b=some c→w.heap.size ≤ b→imm3 b=some c)∧Good ⟨w,imm,(L ++ hs).flatMap HA.fp⟩ imm3 (L ++ hs') w'
  | [],B,imm,hs,w,h,_=>by
    refine ⟨imm,Imm.le.refl _,by simp,h.enter (fun _ h=>h) h.nodup,fun imm2 hs' w' h'=>⟨imm2,fun _ _ e=>(h'.frm.imm _ (h.lt_imm e) (h.nio e)).trans e,Imm.le.refl _,fun _ _ e _=>e,h'⟩⟩
  | A::L,B,imm,hs,w,h,hpl=>by
    rw [List.all_cons,Bool.and_eq_true] at hpl
    obtain ⟨i1,h1,h2,h3,h4⟩:=Good.lend (A:=A) (hs:=L ++ hs) h hpl.1
    obtain ⟨i2,k1,k2,k3,k4⟩:=Good.lendL L h3 hpl.2
    refine ⟨i2,h1.trans k1,fun A' hA'=>?_,k3,fun imm2 hs' w' h'=>?_⟩
    · rcases List.mem_cons.1 hA' with rfl | hA'
      · exact h2.mono k1
      · exact k2 _ hA'
    · obtain ⟨i3,l1,l2,l3,l4⟩:=k4 imm2 hs' w' h'
      obtain ⟨i4,m1,m2,m3,m4⟩:=h4 i3 (L ++ hs') w' l4
      exact ⟨i4,m1,m2.trans l2,fun b c e hb=>m3 b c (l3 b c e hb) hb,m4⟩
theorem zND {f:FuncId}{x:Operand}{xs:Array Operand}{ts:Array TypeId}{ty:TypeId}{pos:String}{after:Array Edge}{g:Option (Nat×Bool)}{vs:List Value}{L hs1 rest:List HA}{post:Nat→Imm→List HA→Value→Prop}
    (ho:ops[pc]?=some ⟨some d,.call { callee:=.value x,args:=xs,argTypes:=ts },ty,pos,after,g⟩) (hg:guardB ops m g=some true) (hn:Nat.blt d n=true) (hx:val m x=some (.func (.func f) #[] #[])) (hf:callable P f=true)
    (hvs:vals m xs.toList=some vs) (hh:hs=(L ++ hs1) ++ rest) (hc:∀ imm1,imm.le imm1→(∀ A ∈ L,Lent imm1 A)→Ret P f vs imm1 hs1 post)
    (next:∀ imm2 imm3 hs' v k,imm.le imm3→imm3.le imm2→B.w0.heap.size ≤ k→(∀ b c,imm2 b=some c→k ≤ b→imm3 b=some c)→post k imm2 hs' v→(∀ b ∈ (L ++ hs').flatMap HA.fp,b ∈ (L ++ hs1).flatMap HA.fp∨B.w0.heap.size ≤ b) →
      R P n B ops Q (pc + 1) imm3 ((L ++ hs') ++ rest) ((d,v)::m)) (hpl:L.all HA.plain=true:=by rfl):R P n B ops Q pc imm hs m :=
  zFT ho hg fun a w fr gd=>by
    subst hh
    have hargs:xs.map a.eval=vs.toArray:=by apply Array.ext'; rw [Array.toList_map,fr.evals hvs]
    have hnd:=gd.nodup
    rw [List.flatMap_append] at hnd
    have hg1:=gd.sub (hs':=L ++ hs1) (fun A hA=>List.mem_append_left _ hA) (List.nodup_append.1 hnd).1
    obtain ⟨imm1,h1,h2,h3,h4⟩:=Good.lendL L hg1 hpl
    unfold Oper.wp
    simp only [execOp,resolve,Deferred.ofValue,fr.eval hx,hargs,Sem.run_bind,Sem.run_pure,Result.andThen_ok,invoke,Array.empty_append,Array.append_empty,zCw hf,Oper.upon]
    refine (hc imm1 h1 h2 w h3).mono fun e w' he=>?_
    cases e with
    | returned v =>
      obtain ⟨imm2,hs',hp,hgood⟩:=he
      obtain ⟨imm3,k1,k2,k3,k4⟩:=h4 imm2 hs' w' hgood
      obtain ⟨g2,hle,hfp⟩:=gd.leave k4
      exact next imm2 imm3 hs' v w.heap.size hle k2 gd.frm.size k3 hp hfp _ w' (fr.put d v (by simpa using hn)) g2
    | panicked c=>exact he.elim
    | outgrown=>exact he.elim
end
end Go.LN
namespace Go.LN
def mkrow {α:Type} (bytes:Nat) (k:Int) (z:α):Option (List α):=if 0 ≤ k∧k.toNat * bytes ≤ 140737488355328 then some (List.replicate k.toNat z) else none
def zrow (z:Array Value) (k:Nat):List Value:=(List.range k).map fun i=>z[i % z.size]!
theorem zNI (z:Array Value) (k:Nat) (h:0 < z.size):(List.range z.size).map (fun i=>z[(k * z.size + i) % z.size]!)=z.toList:=by
  refine List.ext_getElem (by simp) fun i h1 h2=>?_;have hi:i < z.size:=by simpa using h1
  simp only [List.getElem_map,List.getElem_range,Array.getElem_toList];have e:(k * z.size + i) % z.size=i:=by rw [Nat.add_comm,Nat.mul_comm,Nat.add_mul_mod_self_left,Nat.mod_eq_of_lt hi]
  rw [e];exact getElem!_pos z i hi
theorem zNG {α:Type}{ρ:List Value→α→Prop}{z:Array Value}{a:α} (hz:0 < z.size) (h:ρ z.toList a):∀ k,RepL ρ z.size (zrow z (k * z.size)) (List.replicate k a)
  | 0=>by simp [zrow,RepL]
  | k + 1=>by
    have e:zrow z ((k + 1) * z.size)=zrow z (k * z.size) ++ z.toList:=by
      unfold zrow
      rw [Nat.succ_mul,List.range_add,List.map_append,List.map_map]
      congr 1
      exact zNI z k hz
    rw [e,List.replicate_succ']
    exact (zNG hz h k).append (.single (by simp) h)
section
variable {P:Program}{n:Nat}{B:Base}{Q:Exit→Act→World→Prop}{imm:Imm}{hs:List HA}{m:FM}{ops:List Oper}{pc d:Nat}{ty:TypeId}{pos:String}{after:Array Edge}{g:Option (Nat×Bool)}
def mkT (P:Program) (t:TypeId):Option (Nat×Nat×List Value) :=
  match elemOfT P t with
  | some e=>match sizeT P e,bytesT P e,zeroC P e with
    | some s,some b,some z=>bif Nat.beq z.size s && Nat.blt 0 b then some (s,b,z.toList) else none
    | _,_,_=>none
  | none=>none
theorem zNO {α:Type} [Rp α] {t:TypeId}{x y:Operand}{k:Int}{a:α}{l:List α} (by':Nat) (z:List Value) (ho:ops[pc]?=some ⟨some d,.makeSlice t x y,ty,pos,after,g⟩) (hk:mkrow by' k a=some l) (hr:Rp.rep imm z a)
    (next:∀ b cs,RL imm cs l→R P n B ops Q (pc + 1) imm (.osl (.slice (some ⟨b,0,none⟩) l.length l.length) (Rp.sz α) cs::hs) ((d,.slice (some ⟨b,0,none⟩) l.length l.length)::m))
    (hg:guardB ops m g=some true:=by kernel_rfl) (hn:Nat.blt d n=true:=by kernel_rfl) (hx:val m x=some (.int .i64 k):=by kernel_rfl) (hy:val m y=some (.int .i64 k):=by kernel_rfl) (ht:mkT P t=some (Rp.sz α,by',z):=by kernel_rfl) :
    R P n B ops Q pc imm hs m:=by
  refine nN ho hg rfl hn fun ac w f gd=>?_
  unfold mkrow at hk
  split at hk
  · rename_i hk0
    cases hk
    obtain ⟨hk0,hkb⟩:=hk0
    unfold mkT at ht
    cases he:elemOfT P t with
    | none=>rw [he] at ht; cases ht
    | some e =>
      rw [he] at ht
      simp only at ht
      split at ht
      · rename_i s b zc h1 h2 h3
        cases hq:Nat.beq zc.size s && Nat.blt 0 b with
        | false=>rw [hq] at ht; cases ht
        | true =>
          rw [hq] at ht
          simp only [cond_true,Option.some.injEq,Prod.mk.injEq] at ht
          obtain ⟨rfl,rfl,rfl⟩:=ht
          rw [Bool.and_eq_true] at hq
          have hzs:=Nat.eq_of_beq_eq_true hq.1
          have hb0:0 < b:=by simpa using hq.2
          have hu:P.underlying t=some (.slice e):=by
            unfold elemOfT at he
            split at he <;> simp_all
          cases hie:P.info? e with
          | none=>simp [sizeT,hie] at h1
          | some ie =>
          have hsz':ie.size=Rp.sz α:=by simpa [sizeT,hie] using h1
          have hby':ie.bytes=b:=by simpa [bytesT,hie] using h2
          obtain ⟨zv,hz1,hz2⟩:=zAP (w:=w) h3
          have hpos:0 < zc.size:=by rw [hzs]; exact Rp.pos
          have hkk:(k.toNat:Int)=k:=Int.toNat_of_nonneg hk0
          have hle:k.toNat ≤ k.toNat * b:=Nat.le_mul_of_pos_right _ hb0
          have hwr:IntKind.i64.wrap k=k:=by rw [IntKind.wrap_i64]; omega
          have hmul:((ie.bytes:Int) * k) ≤ 140737488355328:=by
            rw [← hkk,hby',← Int.natCast_mul,Nat.mul_comm]
            exact Int.ofNat_le.2 hkb
          have hnt:¬(k < 0):=by omega
          have hnb:¬((ie.bytes:Int) * k > 2 ^ 48):=by omega
          let row:Array Value:=if k.toNat * Rp.sz α=0 then #[] else (Array.range (k.toNat * Rp.sz α)).map (fun i=>zc[i % zc.size]!)
          have hrow:(((Array.range (k.toNat * ie.size)).map fun i=>(if k.toNat * ie.size=0 then #[] else zc)[i % (if k.toNat * ie.size=0 then (#[]:Array Value) else zc).size]!))=⟨zrow zc (k.toNat * zc.size)⟩:=by
            rw [hsz',← hzs]
            apply Array.ext'
            by_cases h0:k.toNat * zc.size=0
            · simp [h0,zrow]
            · simp [h0,zrow]
          have hlen:(zrow zc (k.toNat * zc.size)).length=k.toNat * Rp.sz α:=by simp [zrow,hzs]
          have hg:=gd.alloc_osl ⟨zrow zc (k.toNat * zc.size)⟩ e (Rp.sz α) k.toNat k.toNat (zrow zc (k.toNat * zc.size)) (by show _ ≤ (zrow _ _).length; rw [hlen]; exact Nat.le_refl _) (Nat.le_refl _) (by rw [← hlen]; exact List.take_length) hlen (by omega)
          have hll:(List.replicate k.toNat a).length=k.toNat:=List.length_replicate
          rw [hll] at next
          refine ⟨_,_,imm,_,?_,hg,next w.heap.size _ ?_⟩
          · simp only [execOp,f.eval hx,f.eval hy,Instr.makeSlice,Sem.run_bind,yV hu,Result.andThen_ok,asInt,asIntOf,Sem.run_pure,typeInfo,run_program,hie,hwr,hnt,hnb,decide_false,Bool.false_or,Bool.false_eq_true,false_or,or_self,if_false,Int.lt_irrefl,
              gt_iff_lt,run_askRoom,qA h1]
            by_cases h0:k.toNat * Rp.sz α=0
            · have:=hrow
              rw [hsz'] at this
              simp only [h0,if_true] at this ⊢
              simp only [Sem.run_pure,Result.andThen_ok,newRow,run_newObj,Sem.run_bind,this]
            · have:=hrow
              rw [hsz'] at this
              simp only [h0,if_false] at this ⊢
              simp only [Sem.run_bind,hz1,hz2,Sem.run_pure,Result.andThen_ok,newRow,run_newObj,this]
          · have:=zNG (z:=zc) (a:=a) hpos hr k.toNat
            rw [hzs] at this
            show RepL _ _ _ _
            rw [hzs]
            exact this
      · cases ht
  · cases hk
end
section
variable {P:Program}{n:Nat}{B:Base}{Q:Exit→Act→World→Prop}{imm:Imm}{hs:List HA}{m:FM}{ops:List Oper}{pc d:Nat}{ty:TypeId}{pos:String}{after:Array Edge}{g:Option (Nat×Bool)}
end
end Go.LN
namespace Go.LN
open Go.Proofs
set_option maxRecDepth 20000
def zMz (p:(List Int)) (q:(List Int)):Option (Bool):=do
 let y←oA p q
 pure (decide (y < 0))
theorem zNB:∀ p q r,zMz p q=some r→∀ {I:Imm}{p1 c p2 c1},(S4 I p1 p c)→(S4 I p2 q c1)→RT 40 [vS p1 p c,vS p2 q c1] I [] (zT  r):=by
 intro p q r N I p1 c p2 c1 h h1;unfold zMz at N;refine yL Tryz.func40 fun B=>wV []<|xG<|yH 2 [] [5,6] rfl<|bE N fun y hy N=>jD (dW p q _ hy h h1) fun I0 le=>vG [] [(4,.bool (decide (y < 0)))]<|zI<|yZ ?_;obtain rfl:=zB N;exact wL
def zMi (y3:(List (List Int))) (i:Int):Option (Out Unit (Bool)):=do
 if (decide (i < (y3.length:Int))) then
  let x←idx y3 i
  let zero←mkrow 8 (x.length:Int) (0:Int)
  let t60←(do
    let x1←idx y3 i
    let y6←zMz x1 zero
    if y6 then
     pure true
    else
     if (decide (i > 0)) then
      let x2←idx y3 (W (i - 1))
      let x3←idx y3 i
      let y7←zMz x2 x3
      pure (!y7)
     else
      pure false
      : Option Bool)
  if t60 then
   pure (.ret false)
  else
   let x4←idx y3 i
   let y8←kZ x4
   let t77←(do
     if (decide (y8 ≥ 0)) then
      let x5←idx y3 i
      let x6←idx x5 y8
      pure (decide (x6 ≤ 0))
     else
      pure false
       : Option Bool)
   if t77 then
    pure (.ret false)
   else
    zMi y3 (W (i + 1))
 else
  pure (.done ())
 partial_fixpoint
theorem zNC (y3:(List (List Int))):∀ (i:Int) (o:Out Unit (Bool)),zMi y3 i=some o→∀ {B}{I0 I:Imm}{Q p3 c3},I0.le I→(S4 I p3 y3 c3)→NG Q→NO Q→(∀ (I':Imm) ,o=(.done ())→I0.le I'→T 78 B Q (.exit 0) I' [] [])→(∀ r I' hs' m',o=(.ret r)→I0.le I'→RS Tryz.prog Tryz.f9 B (zT  r) I' hs' m'→T 78 B Q .ret I' hs' m')→J Tryz.prog 78 B (nav (bodyOf Tryz.f9) [1,1,1,1,1,0,1,0]) Q I [] [(5,vS p3 y3 c3),(6,vI i)]:=by
 refine zMi.partial_correctness y3 _ fun self ih i o N B I0 I Q p3 c3 H h5 hg ho hx hr=>yR hg ho<|zZ<|yD [29] rfl<|zI<|yB N ?_ ?_
 · intro hc2 N;refine zS<|zX<|yG<|yF<|yH 2 [] [32,33] rfl<|bE N fun x hy4 N=>xS rfl rfl h5 hy4 ?_;intro ad ccs hat hrep;obtain ⟨v07,rfl,h8⟩:=hrep;obtain ⟨p5,c5,rfl⟩:=h8.form;refine xL 0 hat [vS p5 x c5] (vS p5 x c5) rfl<|yH 5 [] [36] rfl<|bE N fun zero hy5 N=>zNO 8 [vI 0] rfl hy5 rfl fun b1 cs1 h9=>yJ [] [7] rfl<|zX<|zZ ?_;refine wP N [] (fun t60=>[(5,vS p3 y3 c3),(6,vI i),(60,.bool t60)]) (fun o0 ho0=>?_) ?_
   · have H:=iS I;obtain ⟨x1,hy6,N⟩:=zC ho0;obtain ⟨y6,hy7,N⟩:=zC N;cases hc3:y6 with
     | true =>
      have hM0:=oX hc3 N;refine wX [.p (vS p3 y3 c3) [],.p (vI i) [],.x (fun I' v hx=>∃ ad1 p6 c6,v=.pointer (some ad1)∧hx=[]∧(At I' ad1 [vS p6 x1 c6])∧(S4 I' p6 x1 c6)),.x (eS x1),.p (vS (some ⟨b1,0,none⟩) zero zero.length) [],.x (fun I' v hx=>v=vY∧hx=[hO Int (vS (some ⟨b1,0,none⟩) zero zero.length) cs1]),.q vY,.p undef [],.p undef [],.p undef [],.p undef [],.p undef [],.p undef [],.p undef [],.p undef [],.p undef [],.p undef [],.p undef [],.p undef [],.p undef [],.p undef [],.p undef [],.p vY []] [[],[],[(0,false),(1,false)],[(2,false)],[],[(3,false),(4,false),(23,true)],[(5,false)],[(6,false)],[(6,false),(7,false)],[(6,false),(8,false)],[(9,false)],[(9,false)],[(9,false),(11,false)],[(9,false),(10,false),(12,false)],[(9,false),(13,false)],[(9,false)],[(9,false)],[(9,false),(15,false),(16,false)],[(9,false),(17,false)],[(9,false),(14,false),(18,false)],[(9,false),(19,false)],[(6,false),(9,false),(20,false)],[(6,false),(21,false)]] [] [[hO Int (vS (some ⟨b1,0,none⟩) zero zero.length) cs1]] [(5,true),(22,false)] (zY [0]) ?_ ?_
      · refine Op<|Op<|Ox ?_<|Ox ?_<|Op<|Ox ?_<|Oq ?_<|Op<|Op<|Op<|Op<|Op<|Op<|Op<|Op<|Op<|Op<|Op<|Op<|Op<|Op<|Op<|Op<|On
        · intro I1 hf le1;refine yS [38,39] rfl ?_;have h5:=h5.mono le1;refine xS rfl rfl h5 hy6 ?_;intro ad1 ccs1 hat1 hrep1;obtain ⟨v08,rfl,h10⟩:=hrep1;obtain ⟨p6,c6,rfl⟩:=h10.form;exact yK [] iR ⟨_,_,_,rfl,rfl,hat1,h10⟩
        · rintro I1 hf le1 _ _ ⟨ad1,p6,c6,rfl,rfl,hat1,h10⟩;exact yS [40] rfl<|xL 0 hat1 [vS p6 x1 c6] (vS p6 x1 c6) rfl<|yK [] iR ⟨_,_,rfl,rfl,h10⟩
        · rintro I1 hf le1 _ _ ⟨p61,c61,rfl,rfl,h101⟩ _ _ ⟨rfl,rfl⟩ _ _ rfl;refine yS [41,42] rfl ?_;have H:=iS I1;have h9:=iM le1 h9;refine zND (L:=[hO Int (vS (some ⟨b1,0,none⟩) zero zero.length) cs1]) (hs1:=[]) (rest:=(hf)) rfl rfl rfl rfl (by kernel_rfl) rfl rfl (fun i1 le1 hl1=>zNB x1 zero _ hy7 (h101.mono le1) ⟨_,hl1 (hO Int (vS (some ⟨b1,0,none⟩) zero zero.length) cs1) (by simp),iM le1 h9⟩) ?_;rintro - I05 hs2 v2 k2 le4 - - - ⟨v09,rfl,rfl,rfl⟩ -;have H:=H.trans le4;rw [hc3];exact yK [hO Int (vS (some ⟨b1,0,none⟩) zero zero.length) cs1] H ⟨rfl,rfl⟩
        rintro I1 hf le1 _ _ ⟨rfl,(rfl)⟩;exact eU [(43,vY)]<|oH 7 [(44,vY)]<|xF iR
      rintro I06 le5 _ _ ⟨rfl,(rfl)⟩;refine yS [5,6,60] rfl ?_;have H:=H.trans le5;exact yE rfl<|wA zP<|yO<|zV (ct hM0 H)
     | false =>
      have hM01:=pW hc3 N;cases hc4:(decide (i > 0)) with
      | true =>
       have hM02:=oX hc4 hM01;obtain ⟨x2,hy8,N⟩:=zC hM02;obtain ⟨x3,hy9,N⟩:=zC N;obtain ⟨y7,hy10,N⟩:=zC N;refine wX [.p (vS p3 y3 c3) [],.p (vI i) [],.x (fun I' v hx=>∃ ad1 p6 c6,v=.pointer (some ad1)∧hx=[]∧(At I' ad1 [vS p6 x1 c6])∧(S4 I' p6 x1 c6)),.x (eS x1),.p (vS (some ⟨b1,0,none⟩) zero zero.length) [],.x (fun I' v hx=>v=vF∧hx=[hO Int (vS (some ⟨b1,0,none⟩) zero zero.length) cs1]),.q vF,.p (vI i) [],.q vY,.q vY,.p (vS p3 y3 c3) [],.p (vI i) [],.p (vI (W (i - 1))) [],.x (fun I' v hx=>∃ ad2 p7 c7,v=.pointer (some ad2)∧hx=[]∧(At I' ad2 [vS p7 x2 c7])∧(S4 I' p7 x2 c7)),.x (eS x2),.p (vS p3 y3 c3) [],.p (vI i) [],.x (fun I' v hx=>∃ ad3 p8 c8,v=.pointer (some ad3)∧hx=[]∧(At I' ad3 [vS p8 x3 c8])∧(S4 I' p8 x3 c8)),.x (eS x3),.q (.bool y7),.p (.bool (!y7)) [],.p (.bool (!y7)) [],.p (.bool (!y7)) []] [[],[],[(0,false),(1,false)],[(2,false)],[],[(3,false),(4,false),(23,true)],[(5,false)],[(6,false)],[(6,false),(7,false)],[(6,false),(8,false)],[(9,false)],[(9,false)],[(9,false),(11,false)],[(9,false),(10,false),(12,false)],[(9,false),(13,false)],[(9,false)],[(9,false)],[(9,false),(15,false),(16,false)],[(9,false),(17,false)],[(9,false),(14,false),(18,false)],[(9,false),(19,false)],[(6,false),(9,false),(20,false)],[(6,false),(21,false)]] [] [[hO Int (vS (some ⟨b1,0,none⟩) zero zero.length) cs1]] [(5,true),(22,false)] (zY [0]) ?_ ?_
       · refine Op<|Op<|Ox ?_<|Ox ?_<|Op<|Ox ?_<|Oq ?_<|Op<|Oq ?_<|Oq ?_<|Op<|Op<|Op<|Ox ?_<|Ox ?_<|Op<|Op<|Ox ?_<|Ox ?_<|Oq ?_<|Op<|Op<|Op<|On
         · intro I1 hf le1;refine yS [38,39] rfl ?_;have h5:=h5.mono le1;refine xS rfl rfl h5 hy6 ?_;intro ad1 ccs1 hat1 hrep1;obtain ⟨v08,rfl,h10⟩:=hrep1;obtain ⟨p6,c6,rfl⟩:=h10.form;exact yK [] iR ⟨_,_,_,rfl,rfl,hat1,h10⟩
         · rintro I1 hf le1 _ _ ⟨ad1,p6,c6,rfl,rfl,hat1,h10⟩;exact yS [40] rfl<|xL 0 hat1 [vS p6 x1 c6] (vS p6 x1 c6) rfl<|yK [] iR ⟨_,_,rfl,rfl,h10⟩
         · rintro I1 hf le1 _ _ ⟨p61,c61,rfl,rfl,h101⟩ _ _ ⟨rfl,rfl⟩ _ _ rfl;refine yS [41,42] rfl ?_;have H:=iS I1;have h9:=iM le1 h9;refine zND (L:=[hO Int (vS (some ⟨b1,0,none⟩) zero zero.length) cs1]) (hs1:=[]) (rest:=(hf)) rfl rfl rfl rfl (by kernel_rfl) rfl rfl (fun i1 le1 hl1=>zNB x1 zero _ hy7 (h101.mono le1) ⟨_,hl1 (hO Int (vS (some ⟨b1,0,none⟩) zero zero.length) cs1) (by simp),iM le1 h9⟩) ?_;rintro - I05 hs2 v2 k2 le4 - - - ⟨v09,rfl,rfl,rfl⟩ -;have H:=H.trans le4;rw [hc3];exact yK [hO Int (vS (some ⟨b1,0,none⟩) zero zero.length) cs1] H ⟨rfl,rfl⟩
         · rintro I1 hf le1 _ _ ⟨rfl,(rfl)⟩;exact eU [(43,vF)]<|oH 7 [(44,vF)]<|xF iR
         · intro I1 hf le1;refine yS [44,45] rfl<|oH 9 [(46,.bool (decide (i > 0)))] ?_;rw [hc4];exact xF iR
         · intro I1 hf le1;exact yS [44,46] rfl<|oH 10 [(47,vY)]<|xF iR
         · intro I1 hf le1;refine yS [47,48,50] rfl ?_;have h5:=h5.mono le1;refine xS rfl rfl h5 hy8 ?_;intro ad2 ccs2 hat2 hrep2;obtain ⟨v010,rfl,h12⟩:=hrep2;obtain ⟨p7,c7,rfl⟩:=h12.form;exact yK [] iR ⟨_,_,_,rfl,rfl,hat2,h12⟩
         · rintro I1 hf le1 _ _ ⟨rfl,rfl⟩ _ _ ⟨ad2,p7,c7,rfl,rfl,hat2,h12⟩;exact yS [47,51] rfl<|xL 0 hat2 [vS p7 x2 c7] (vS p7 x2 c7) rfl<|yK [] iR ⟨_,_,rfl,rfl,h12⟩
         · intro I1 hf le1;refine yS [47,53,54] rfl ?_;have h5:=h5.mono le1;refine xS rfl rfl h5 hy9 ?_;intro ad3 ccs3 hat3 hrep3;obtain ⟨v011,rfl,h13⟩:=hrep3;obtain ⟨p8,c8,rfl⟩:=h13.form;exact yK [] iR ⟨_,_,_,rfl,rfl,hat3,h13⟩
         · rintro I1 hf le1 _ _ ⟨rfl,rfl⟩ _ _ ⟨ad3,p8,c8,rfl,rfl,hat3,h13⟩;exact yS [47,55] rfl<|xL 0 hat3 [vS p8 x3 c8] (vS p8 x3 c8) rfl<|yK [] iR ⟨_,_,rfl,rfl,h13⟩
         rintro I1 hf le1 _ _ ⟨rfl,rfl⟩ _ _ ⟨p71,c71,rfl,rfl,h121⟩ _ _ ⟨p81,c81,rfl,rfl,h131⟩;refine yS [47,52,56] rfl ?_;have H:=iS I1;refine uH (zNB x2 x3 _ hy10 h121 h131) ?_;intro I07 le6;have H:=H.trans le6;exact xF H
       rintro I08 le7 _ _ ⟨rfl,(rfl)⟩;refine yS [5,6,60] rfl ?_;have H:=H.trans le7;exact yE rfl<|wA zP<|yO<|zV (ct N H)
      | false =>
       have hM03:=pW hc4 hM01;refine wX [.p (vS p3 y3 c3) [],.p (vI i) [],.x (fun I' v hx=>∃ ad1 p6 c6,v=.pointer (some ad1)∧hx=[]∧(At I' ad1 [vS p6 x1 c6])∧(S4 I' p6 x1 c6)),.x (eS x1),.p (vS (some ⟨b1,0,none⟩) zero zero.length) [],.x (fun I' v hx=>v=vF∧hx=[hO Int (vS (some ⟨b1,0,none⟩) zero zero.length) cs1]),.q vF,.p (vI i) [],.q vF,.q vF,.p undef [],.p undef [],.p undef [],.p undef [],.p undef [],.p undef [],.p undef [],.p undef [],.p undef [],.p undef [],.p undef [],.p vF [],.p vF []] [[],[],[(0,false),(1,false)],[(2,false)],[],[(3,false),(4,false),(23,true)],[(5,false)],[(6,false)],[(6,false),(7,false)],[(6,false),(8,false)],[(9,false)],[(9,false)],[(9,false),(11,false)],[(9,false),(10,false),(12,false)],[(9,false),(13,false)],[(9,false)],[(9,false)],[(9,false),(15,false),(16,false)],[(9,false),(17,false)],[(9,false),(14,false),(18,false)],[(9,false),(19,false)],[(6,false),(9,false),(20,false)],[(6,false),(21,false)]] [] [[hO Int (vS (some ⟨b1,0,none⟩) zero zero.length) cs1]] [(5,true),(22,false)] (zY [0]) ?_ ?_
       · refine Op<|Op<|Ox ?_<|Ox ?_<|Op<|Ox ?_<|Oq ?_<|Op<|Oq ?_<|Oq ?_<|Op<|Op<|Op<|Op<|Op<|Op<|Op<|Op<|Op<|Op<|Op<|Op<|Op<|On
         · intro I1 hf le1;refine yS [38,39] rfl ?_;have h5:=h5.mono le1;refine xS rfl rfl h5 hy6 ?_;intro ad1 ccs1 hat1 hrep1;obtain ⟨v08,rfl,h10⟩:=hrep1;obtain ⟨p6,c6,rfl⟩:=h10.form;exact yK [] iR ⟨_,_,_,rfl,rfl,hat1,h10⟩
         · rintro I1 hf le1 _ _ ⟨ad1,p6,c6,rfl,rfl,hat1,h10⟩;exact yS [40] rfl<|xL 0 hat1 [vS p6 x1 c6] (vS p6 x1 c6) rfl<|yK [] iR ⟨_,_,rfl,rfl,h10⟩
         · rintro I1 hf le1 _ _ ⟨p61,c61,rfl,rfl,h101⟩ _ _ ⟨rfl,rfl⟩ _ _ rfl;refine yS [41,42] rfl ?_;have H:=iS I1;have h9:=iM le1 h9;refine zND (L:=[hO Int (vS (some ⟨b1,0,none⟩) zero zero.length) cs1]) (hs1:=[]) (rest:=(hf)) rfl rfl rfl rfl (by kernel_rfl) rfl rfl (fun i1 le1 hl1=>zNB x1 zero _ hy7 (h101.mono le1) ⟨_,hl1 (hO Int (vS (some ⟨b1,0,none⟩) zero zero.length) cs1) (by simp),iM le1 h9⟩) ?_;rintro - I05 hs2 v2 k2 le4 - - - ⟨v09,rfl,rfl,rfl⟩ -;have H:=H.trans le4;rw [hc3];exact yK [hO Int (vS (some ⟨b1,0,none⟩) zero zero.length) cs1] H ⟨rfl,rfl⟩
         · rintro I1 hf le1 _ _ ⟨rfl,(rfl)⟩;exact eU [(43,vF)]<|oH 7 [(44,vF)]<|xF iR
         · intro I1 hf le1;refine yS [44,45] rfl<|oH 9 [(46,.bool (decide (i > 0)))] ?_;rw [hc4];exact xF iR
         intro I1 hf le1;exact yS [44,46] rfl<|oH 10 [(47,vF)]<|xF iR
       rintro I09 le8 _ _ ⟨rfl,(rfl)⟩;refine yS [5,6,60] rfl ?_;have H:=H.trans le8;exact yE rfl<|wA zP<|yO<|zV (ct hM03 H)
   intro t60 I04 le9 hMc;have ⟨h5,H⟩:=m2 le9 h5 H;refine zI<|yB hMc ?_ ?_
   · intro hc5 N;exact wV [(2,vF)]<|xB<|zF<|zU<|zF<|zF<|hr _ _ _ _ (zB N).symm H ⟨_,_,(.tmp rfl ResV.nil),zP,⟨_,rfl,rfl,rfl⟩⟩
   intro hc5 N;refine zS<|xG<|yH 2 [] [61,62] rfl<|bE N fun x4 hy11 N=>xS rfl rfl h5 hy11 ?_;intro ad4 ccs4 hat4 hrep4;obtain ⟨v013,rfl,h15⟩:=hrep4;obtain ⟨p9,c9,rfl⟩:=h15.form;refine xL 0 hat4 [vS p9 x4 c9] (vS p9 x4 c9) rfl<|bE N fun y8 hy12 N=>jD (zIm x4 _ hy12 h15) ?_;intro I010 le10;have ⟨h5,H⟩:=m2 le10 h5 H;refine yJ [] [8] rfl<|zI<|zZ ?_;refine wP N [] (fun t77=>[(5,vS p3 y3 c3),(6,vI i),(77,.bool t77)]) (fun o01 ho01=>?_) ?_
   · have H:=iS I010;refine zL<|yH 3 [] [68] rfl<|xZ [68] ho01 ?_ ?_
     · intro hc6 N;refine yH 5 [] [69,70] rfl<|bE N fun x5 hy13 N=>xS rfl rfl h5 hy13 ?_;intro ad5 ccs5 hat5 hrep5;obtain ⟨v015,rfl,h17⟩:=hrep5;obtain ⟨p10,c10,rfl⟩:=h17.form;refine xL 0 hat5 [vS p10 x5 c10] (vS p10 x5 c10) rfl<|yH 8 [] [73] rfl<|bE N fun x6 hy14 N=>xS rfl rfl h17 hy14 ?_;intro ad6 ccs6 hat6 hrep6;obtain rfl:=hrep6;exact xL 0 hat6 [vI x6] (vI x6) rfl<|yJ [] [77] rfl<|yO<|zV (ct N H)
     intro hc6 N;exact vG [] [(77,vF)]<|yO<|zV (ct N H)
   intro t77 I011 le11 hMc1;have ⟨h5,H⟩:=m2 le11 h5 H;refine zI<|yB hMc1 ?_ ?_
   · intro hc7 N;exact wV [(2,vF)]<|xB<|zU<|zF<|zF<|hr _ _ _ _ (zB N).symm H ⟨_,_,(.tmp rfl ResV.nil),zP,⟨_,rfl,rfl,rfl⟩⟩
   intro hc7 N;exact zS<|zO<|zI<|zL<|yJ [] [6] rfl<|yQ<|nO<|ih (W (i + 1)) _ N H h5 hg ho hx hr
 intro hc2 N;exact wY<|yO<|hx _  (zB N).symm H
def zNA (code:(List UInt8)):Option (Bool):=do
 if (decide ((code.length:Int) > 1048576)) then
  pure true
 else
  let (y1,y2)←mC code
  let y3←jU y1 y2
  let y4←jW y1 y2
  let y5←fG y3 y4
  if (!y5) then
   pure false
  else
   match←zMi y3 0 with
   | .ret r0=>pure r0
   | .done _ =>
    pure true
theorem zNE:∀ code r,zNA code=some r→∀ {I:Imm}{p c},(S4 I p code c)→RT 9 [vS p code c] I [] (zT  r):=by
 intro code r N I p c h;unfold zNA at N;refine yL Tryz.func9 fun B=>wV []<|zX<|yD [11] rfl<|zI<|yB N ?_ ?_
 · intro hc N;refine wV [(2,vY)]<|xB<|zF ?_;obtain rfl:=zB N;exact wL
 intro hc N;refine zS<|xG<|yH 1 [] [13] rfl ?_;obtain ⟨⟨y1,y2⟩,hy,N⟩:=zC N;refine xV (zHb code _ hy h) ?_;rintro I0 hs2 v2 k2 le - ⟨v0,v01,rfl,rfl,⟨cs,rfl,h1⟩,rfl⟩ -;obtain ⟨p1,c1,p2,c2,rfl,h3,h4⟩:=zBH h1;refine yH 5 [] [15,16] rfl<|uF zTwo ?_;intro b hb;refine xQ 0 (cProg y1 p1 c1 p2 c2) rfl<|yJ [] [4] rfl<|xG<|oD 2 [0] [(17,vA (cProg y1 p1 c1 p2 c2)),(18,vI y2)]<|bE N fun y3 hy1 N=>xV (zJN y1 y2 _ hy1 h3 h4) ?_;rintro I01 hs2 v2 k2 le1 - ⟨v04,rfl,rfl,h5⟩ -;have ⟨h3,h4⟩:=m2 le1 h3 h4;obtain ⟨p3,c3,rfl⟩:=h5.form;refine yJ [] [5] rfl<|zX<|yF<|oD 3 [0] [(20,vS p3 y3 c3),(21,vA (cProg y1 p1 c1 p2 c2)),(22,vI y2)]<|bE N fun y4 hy2 N=>xV (zJO y1 y2 _ hy2 h3 h4) ?_;rintro I02 hs2 v2 k2 le2 - ⟨v05,rfl,rfl,h6⟩ -;have h5:=h5.mono le2;obtain ⟨p4,c4,rfl⟩:=h6.form;obtain ⟨y5,hy3,N⟩:=zC N;refine uH (zJz y3 y4 _ hy3 h5 h6) ?_;intro I03 le3;have h5:=h5.mono le3;refine yJ [] [25] rfl<|zI<|yB N ?_ ?_
 · intro hc1 N;refine wV [(2,vF)]<|xB<|zF ?_;obtain rfl:=zB N;exact wL
 intro hc1 N;refine zS<|zX<|yD [6] rfl<|wB<|jR (zY [] (hs':=[]))<|qW [(5,vS p3 y3 c3),(6,vI 0)] ?_;obtain ⟨o02,ho02,hMl⟩:=zC N;refine zNC y3 0 o02 ho02 iR h5 (fun _ _ _ h=>h) (fun _ _ h=>h) ?_ ?_
 · intro I012  heq2 le12;subst o02;refine zR<|zDB [(2,vY)]<|zI<|yZ ?_;obtain rfl:=zB hMl;exact wL
 intro r0 I9 hs9 m9 heq9 le9 hrs9;subst heq9;refine zU<|zF ?_;obtain rfl:=zB hMl;exact xC hrs9
end Go.LN
namespace Go.LN
theorem zNJ:∀ {d:List Int}{k:Nat}{v:Int},nzF d=some (k,v)→∃ h:k < d.length,d[k]=v
  | x::l,k,v,h=>by
    rw [nzF] at h
    by_cases e:x=0
    · rw [if_pos e] at h
      cases hn:nzF l with
      | none=>rw [hn] at h; cases h
      | some y =>
        rw [hn] at h
        obtain ⟨k2,v2⟩:=y
        have h:=Option.some.inj h
        injection h with h3 h4
        subst h3; subst h4
        obtain ⟨g1,g2⟩:=zNJ hn
        exact ⟨by rw [List.length_cons]; omega,g2⟩
    · rw [if_neg e] at h
      have h:=Option.some.inj h
      injection h with h3 h4
      subst h3; subst h4
      exact ⟨by simp,rfl⟩
theorem implLex {a b:List Int} (ha:a.length ≤ 1000000):zMz a b=some (ltL a b):=by
  unfold zMz;rw [zL5 (show a.length < 4611686018427387904 by omega)]; rfl
theorem mk8 (n:Nat) (hn:n ≤ 1000000):mkrow 8 (n:Int) (0:Int)=some (zr n):=by
  unfold mkrow zr;rw [if_pos ⟨by omega,by omega⟩,iN]
theorem zNM (P:zE) (part:Int):(dsF P part).Pairwise fun a b=>ltL a b=true:=zBF (zKx _)
theorem zNN {P:zE} (hb:BG P) {part:Int}:∀ (j q:Nat),q + j=(dsF P part).length→zMi (dsF P part) (q:Int)=some (.done ()):=by
  have hl:=zMy (P:=P) part;intro j
  induction j with
  | zero =>
    intro q hq;rw [zMi];have:¬((q:Int) < ((dsF P part).length:Int)):=by omega
    simp only [this,dF,bF,if_false,oP]
  | succ j ih =>
    intro q hq;have h1:q < (dsF P part).length:=by omega
    have hc:((q:Int) < ((dsF P part).length:Int)):=by omega
    obtain ⟨a1,a2,a3,_⟩:=zMu hb (gM h1);have e1:zMz (dsF P part)[q] (zr (dsF P part)[q].length)=some false:=by rw [implLex (by omega),a2]
    have t60:(if (decide ((q:Int) > 0))=true then (idx (dsF P part) (W ((q:Int) - 1))).bind fun x2=>(idx (dsF P part) (q:Int)).bind fun x3=>(zMz x2 x3).bind fun y7=>some (!y7) else some false)=some false:=by
      by_cases h0:(q:Int) > 0
      · have hq1:1 ≤ q:=by omega
        have h2:q - 1 < (dsF P part).length:=by omega
        have hp:=List.pairwise_iff_getElem.1 (zNM P part) (q - 1) q h2 h1 (by omega);have hs:=(zMu hb (gM h2)).1;simp only [h0,dT,if_true,zKz hq1 (show q ≤ 1000000 by omega),yI h2,yI h1,implLex (show (dsF P part)[q - 1].length ≤ 1000000 by omega),hp,oS,bT]
      · simp only [h0,dF,bF,if_false]
    rw [zMi];simp only [hc,dT,if_true,yI h1,mk8 _ (show (dsF P part)[q].length ≤ 1000000 by omega),e1,bF,if_false,oB,oS,oP];simp only [yI h1,oS] at t60;simp only [t60,oS,bF,if_false,carryV (show (dsF P part)[q].length ≤ 1000000 by omega)];rw [wF (by omega),ih (q + 1) (by omega)];cases hn:nzF (dsF P part)[q] with
    | none=>rfl
    | some y =>
      obtain ⟨k,v⟩:=y;obtain ⟨hk,ek⟩:=zNJ hn;have hv:=a3 k v hn;have:((k:Int) ≥ 0):=by omega
      have hv2:¬(v ≤ 0):=by omega
      simp only [this,dT,if_true,yI hk,ek,hv2,dF,oS,bF,if_false]
theorem zNF (code:List UInt8):∃ r,zNA code=some r∧r=true:=by
  obtain ⟨y,hy,hb⟩:=drawDist code;obtain ⟨P,part⟩:=y;unfold zNA;refine ⟨true,?_,rfl⟩;by_cases h1:(code.length:Int) > 1048576
  · simp [h1]
  · have hl:=zMy (P:=P) part;have hr:=zMa (l:=dsF P part) (by omega) fun x hx=>by have:=(zMu hb hx).1; omega
    have hw:=zNN hb (part:=part) _ 0 (Nat.zero_add _);rw [nZ] at hw;simp only [h1,dF,bF,if_false,hy,implDist P hb part,specDist P hb part,hr,hw,bT,oP,oB,oS]
end Go.LN
