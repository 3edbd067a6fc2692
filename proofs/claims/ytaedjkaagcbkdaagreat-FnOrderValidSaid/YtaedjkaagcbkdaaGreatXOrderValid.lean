/- Helper of the proof (see the last text). -/
import Derived.Test.YtaedjkaagcbkdaaGreatLnA
import Derived.Test.YtaedjkaagcbkdaaGreatLnB
import Derived.Test.YtaedjkaagcbkdaaGreatLnC
import Derived.Test.YtaedjkaagcbkdaaGreatLnD
import Derived.Test.YtaedjkaagcbkdaaGreatLnE
import Derived.Test.YtaedjkaagcbkdaaGreatLnF
import Derived.Test.YtaedjkaagcbkdaaGreatLnG
import Derived.Test.YtaedjkaagcbkdaaGreatLnH
import Derived.Test.YtaedjkaagcbkdaaGreatLnI
import Derived.Test.YtaedjkaagcbkdaaGreatLnJ
import Derived.Test.YtaedjkaagcbkdaaGreatLnK
import Derived.Test.YtaedjkaagcbkdaaGreatLnL
import Derived.Test.YtaedjkaagcbkdaaGreatLnM
import Derived.Test.YtaedjkaagcbkdaaGreatLnN
import Derived.Test.YtaedjkaagcbkdaaGreatLnO
import Derived.Test.YtaedjkaagcbkdaaGreatLnP
import Derived.Test.YtaedjkaagcbkdaaGreatLnQ
import Derived.Test.YtaedjkaagcbkdaaGreatLnTZ
import Derived.Test.YtaedjkaagcbkdaaGreatLnUZ
import Derived.Test.YtaedjkaagcbkdaaGreatLnV
import Derived.Test.YtaedjkaagcbkdaaGreatLnSZ
import Derived.Test.YtaedjkaagcbkdaaGreatLnW
import Derived.Test.YtaedjkaagcbkdaaGreatLnX
import Derived.Test.YtaedjkaagcbkdaaGreatLnY
import Derived.Test.YtaedjkaagcbkdaaGreatTryzShelf
import Derived.Test.YtaedjkaagcbkdaaGreatHM1
import Derived.Test.YtaedjkaagcbkdaaGreatHM2
import Derived.Test.YtaedjkaagcbkdaaGreatHM3
import Derived.Test.YtaedjkaagcbkdaaGreatHM4
import Derived.Test.YtaedjkaagcbkdaaGreatHM5
import Derived.Test.YtaedjkaagcbkdaaGreatHM6
import Derived.Test.YtaedjkaagcbkdaaGreatHM7
import Derived.Test.YtaedjkaagcbkdaaGreatQT
import Derived.Test.YtaedjkaagcbkdaaGreatQZ
import Derived.Test.YtaedjkaagcbkdaaGreatVB1
import Derived.Test.YtaedjkaagcbkdaaGreatVB2
import Derived.Test.YtaedjkaagcbkdaaGreatVB3
import Derived.Test.YtaedjkaagcbkdaaGreatVB4
import Derived.Test.YtaedjkaagcbkdaaGreatVB5
import Derived.Test.YtaedjkaagcbkdaaGreatVB6
import Derived.Test.YtaedjkaagcbkdaaGreatVB7
import Derived.Test.YtaedjkaagcbkdaaGreatVB8
import Derived.Test.YtaedjkaagcbkdaaGreatVC1
import Derived.Test.YtaedjkaagcbkdaaGreatVC2
import Derived.Test.YtaedjkaagcbkdaaGreatVC3
import Derived.Test.YtaedjkaagcbkdaaGreatLnR
namespace Go.LN
set_option linter.unusedVariables false
set_option linter.unusedSimpArgs false
def mkrow {α : Type} (bytes : Nat) (k : Int) (z : α) : Option (List α) := if 0 ≤ k ∧ k.toNat * bytes ≤ 140737488355328 then some (List.replicate k.toNat z) else none
def zrow (z : Array Value) (k : Nat) : List Value := (List.range k).map fun i => z[i % z.size]!
theorem zrow_one (z : Array Value) (k : Nat) (h : 0 < z.size) : (List.range z.size).map (fun i => z[(k * z.size + i) % z.size]!) = z.toList := by
  refine List.ext_getElem (by simp) fun i h1 h2 => ?_
  have hi : i < z.size := by simpa using h1
  simp only [List.getElem_map, List.getElem_range, Array.getElem_toList]
  have e : (k * z.size + i) % z.size = i := by rw [Nat.add_comm, Nat.mul_comm, Nat.add_mul_mod_self_left, Nat.mod_eq_of_lt hi]
  rw [e]
  exact getElem!_pos z i hi
theorem zrow_rep {α : Type} {ρ : List Value → α → Prop} {z : Array Value} {a : α} (hz : 0 < z.size) (h : ρ z.toList a) : ∀ k, RepL ρ z.size (zrow z (k * z.size)) (List.replicate k a)
  | 0 => by simp [zrow, RepL]
  | k + 1 => by
    have e : zrow z ((k + 1) * z.size) = zrow z (k * z.size) ++ z.toList := by
      unfold zrow
      rw [Nat.succ_mul, List.range_add, List.map_append, List.map_map]
      congr 1
      exact zrow_one z k hz
    rw [e, List.replicate_succ']
    exact (zrow_rep hz h k).append (.single (by simp) h)
section
variable {P : Program} {n : Nat} {B : Base} {Q : Exit → Act → World → Prop} {imm : Imm} {hs : List HA} {m : FM} {ops : List Oper} {pc d : Nat} {ty : TypeId} {pos : String} {after : Array Edge} {g : Option (Nat × Bool)}
def mkT (P : Program) (t : TypeId) : Option (Nat × Nat × List Value) :=
  match elemOfT P t with
  | some e => match sizeT P e, bytesT P e, zeroC P e with
    | some s, some b, some z => bif Nat.beq z.size s && Nat.blt 0 b then some (s, b, z.toList) else none
    | _, _, _ => none
  | none => none
theorem R_mk {α : Type} [Rp α] {t : TypeId} {x y : Operand} {k : Int} {a : α} {l : List α} (by' : Nat) (z : List Value) (ho : ops[pc]? = some ⟨some d, .makeSlice t x y, ty, pos, after, g⟩) (hk : mkrow by' k a = some l) (hr : Rp.rep imm z a)
    (next : ∀ b cs, RL imm cs l → R P n B ops Q (pc + 1) imm (.osl (.slice (some ⟨b, 0, none⟩) l.length l.length) (Rp.sz α) cs :: hs) ((d, .slice (some ⟨b, 0, none⟩) l.length l.length) :: m))
    (hg : guardB ops m g = some true := by kernel_rfl) (hn : Nat.blt d n = true := by kernel_rfl) (hx : val m x = some (.int .i64 k) := by kernel_rfl) (hy : val m y = some (.int .i64 k) := by kernel_rfl) (ht : mkT P t = some (Rp.sz α, by', z) := by kernel_rfl) :
    R P n B ops Q pc imm hs m := by
  refine oT ho hg rfl hn fun ac w f gd => ?_
  unfold mkrow at hk
  split at hk
  · rename_i hk0
    cases hk
    obtain ⟨hk0, hkb⟩ := hk0
    unfold mkT at ht
    cases he : elemOfT P t with
    | none => rw [he] at ht; cases ht
    | some e =>
      rw [he] at ht
      simp only at ht
      split at ht
      · rename_i s b zc h1 h2 h3
        cases hq : Nat.beq zc.size s && Nat.blt 0 b with
        | false => rw [hq] at ht; cases ht
        | true =>
          rw [hq] at ht
          simp only [cond_true, Option.some.injEq, Prod.mk.injEq] at ht
          obtain ⟨rfl, rfl, rfl⟩ := ht
          rw [Bool.and_eq_true] at hq
          have hzs := Nat.eq_of_beq_eq_true hq.1
          have hb0 : 0 < b := by simpa using hq.2
          have hu : P.underlying t = some (.slice e) := by
            unfold elemOfT at he
            split at he <;> simp_all
          cases hie : P.info? e with
          | none => simp [sizeT, hie] at h1
          | some ie =>
          have hsz' : ie.size = Rp.sz α := by simpa [sizeT, hie] using h1
          have hby' : ie.bytes = b := by simpa [bytesT, hie] using h2
          obtain ⟨zv, hz1, hz2⟩ := jZ (w := w) h3
          have hpos : 0 < zc.size := by rw [hzs]; exact Rp.pos
          have hkk : (k.toNat : Int) = k := Int.toNat_of_nonneg hk0
          have hle : k.toNat ≤ k.toNat * b := Nat.le_mul_of_pos_right _ hb0
          have hwr : IntKind.i64.wrap k = k := by rw [IntKind.wrap_i64]; omega
          have hmul : ((ie.bytes : Int) * k) ≤ 140737488355328 := by
            rw [← hkk, hby', ← Int.natCast_mul, Nat.mul_comm]
            exact Int.ofNat_le.2 hkb
          have hnt : ¬ (k < 0) := by omega
          have hnb : ¬ ((ie.bytes : Int) * k > 2 ^ 48) := by omega
          let row : Array Value := if k.toNat * Rp.sz α = 0 then #[] else (Array.range (k.toNat * Rp.sz α)).map (fun i => zc[i % zc.size]!)
          have hrow : (((Array.range (k.toNat * ie.size)).map fun i => (if k.toNat * ie.size = 0 then #[] else zc)[i % (if k.toNat * ie.size = 0 then (#[] : Array Value) else zc).size]!)) = ⟨zrow zc (k.toNat * zc.size)⟩ := by
            rw [hsz', ← hzs]
            apply Array.ext'
            by_cases h0 : k.toNat * zc.size = 0
            · simp [h0, zrow]
            · simp [h0, zrow]
          have hlen : (zrow zc (k.toNat * zc.size)).length = k.toNat * Rp.sz α := by simp [zrow, hzs]
          have hg := gd.alloc_osl ⟨zrow zc (k.toNat * zc.size)⟩ e (Rp.sz α) k.toNat k.toNat (zrow zc (k.toNat * zc.size)) (by show _ ≤ (zrow _ _).length; rw [hlen]; exact Nat.le_refl _) (Nat.le_refl _) (by rw [← hlen]; exact List.take_length) hlen (by omega)
          have hll : (List.replicate k.toNat a).length = k.toNat := List.length_replicate
          rw [hll] at next
          refine ⟨_, _, imm, _, ?_, hg, next w.heap.size _ ?_⟩
          · simp only [execOp, f.eval hx, f.eval hy, Instr.makeSlice, Sem.run_bind, xE hu, Result.andThen_ok, asInt, asIntOf, Sem.run_pure, typeInfo, run_program, hie, hwr, hnt, hnb, decide_false, Bool.false_or, Bool.false_eq_true, false_or, or_self, if_false, Int.lt_irrefl,
              gt_iff_lt, run_askRoom, qJ h1]
            by_cases h0 : k.toNat * Rp.sz α = 0
            · have := hrow
              rw [hsz'] at this
              simp only [h0, if_true] at this ⊢
              simp only [Sem.run_pure, Result.andThen_ok, newRow, run_newObj, Sem.run_bind, this]
            · have := hrow
              rw [hsz'] at this
              simp only [h0, if_false] at this ⊢
              simp only [Sem.run_bind, hz1, hz2, Sem.run_pure, Result.andThen_ok, newRow, run_newObj, this]
          · have := zrow_rep (z := zc) (a := a) hpos hr k.toNat
            rw [hzs] at this
            show RepL _ _ _ _
            rw [hzs]
            exact this
      · cases ht
  · cases hk
end
section
variable {P : Program} {n : Nat} {B : Base} {Q : Exit → Act → World → Prop} {imm : Imm} {hs : List HA} {m : FM} {ops : List Oper} {pc d : Nat} {ty : TypeId} {pos : String} {after : Array Edge} {g : Option (Nat × Bool)}
end
end Go.LN
namespace Go.LN
open Go.Proofs
set_option maxRecDepth 20000
def impl_ProgramInstances_post (r:(List yI)):KT:=fun kk imm' hs' v=>
  ∃ v0,hs'=[]∧v=tupV [v0]∧SL imm' v0 r
def M.impl_ProgramInstances (p:zZ):Option ((List yI)):=do
 let (y1,y2)←rQ p
 if (!y2) then
  pure ([]:List yI)
 else
  pure (id y1)
theorem impl_ProgramInstances_ok:∀ (p:zZ) r,M.impl_ProgramInstances p=some r→∀ {imm:Imm}{p1 c p2 c1},(S4 imm p1 p.Arrays c)→(S4 imm p2 p.Parts c1)→Ret Tryz.prog 16 [vA (cProg p p1 c p2 c1)] imm [] (impl_ProgramInstances_post  r):=by
 intro p r hM imm p1 c p2 c1 h h1;unfold M.impl_ProgramInstances at hM;refine yF (fn:=Tryz.f16) (c:=(bodyOf Tryz.f16)) Tryz.func16 rfl rfl ?_;rintro B - -;have hle:=iS imm;refine zF<|zB<|sD (cProg p p1 c p2 c1) ?_;intro b hb;refine zY [] []<|zE<|zF<|zB<|yK 1 [0] [(6,vA (cProg p p1 c p2 c1))] ?_;obtain ⟨⟨y1,y2⟩,hy,hM⟩:=zC hM;refine yR (zDc p _ hy h h1) ?_;rintro imm0 hs2 v2 k2 le - ⟨v0,v01,rfl,rfl,h2,rfl⟩ -;have h:=h.mono le;have h1:=h1.mono le;have hle:=hle.trans le;obtain ⟨p3,c2,rfl⟩:=h2.form;refine zY [] [(3,vS p3 y1 c2),(4,.bool y2)]<|zE<|zF<|zF<|zB<|zY [] [(11,.bool (!y2))]<|zE<|yP hM ?_ ?_
 · intro hc hM;refine zF<|zB<|zY [] [(2,z0)]<|zE<|yJ<|zQ ?_;obtain rfl:=zD hM;exact yQ ⟨_,_,(.tmp rfl ResV.nil),zV,⟨_,rfl,rfl,(SL.nil _)⟩⟩
 intro hc hM;refine yD<|zE<|zF<|zB<|zY [] [(2,vS p3 y1 c2)]<|zE<|yJ ?_;obtain rfl:=zD hM;exact yQ ⟨_,_,(.tmp rfl ResV.nil),zV,⟨_,rfl,rfl,h2⟩⟩
def spec_l4Instances_post (r:(List yI)):KT:=fun kk imm' hs' v=>
  ∃ v0,hs'=[]∧v=tupV [v0]∧SL imm' v0 r
def M.spec_l4Instances_l3 (p:zZ) (i:Int) (y:(List (List Int))) (k0:Int) (out4:List yI) (s:Int):Option (List yI):=do
 let x1←idx p.Parts i
 if (decide (s < (x1.Body.length:Int))) then
  let x2←idx y k0
  let l←app 8 ([]:List Int) x2
  let out6←app 40 out4 ([(yI.mk i s l)]:List yI)
  M.spec_l4Instances_l3 p i y k0 out6 (W (s + 1))
 else
  pure (id out4)
 partial_fixpoint
theorem spec_l4Instances_l3_ok (p:zZ) (i:Int) (y:(List (List Int))) (k0:Int):∀ (out4:List yI) (s:Int) (o:List yI),M.spec_l4Instances_l3 p i y k0 out4 s=some o→∀ {B}{imm0 imm:Imm}{Q p1 c p2 c1}{b:Nat}{p7 c6 cs2 p10 c9 cs5},imm0.le imm→(RL imm cs2 y)→(S4 imm p1 p.Arrays c)→(S4 imm p2 p.Parts c1)→(RL imm cs5 out4)→(∀ l a w,¬Q (.goto l) a w)→(∀ a w,¬Q .outgrown a w)→(∀ (imm':Imm) (out5:List yI) (p11:Option Addr) (c10:Nat) (cs6:List Value),o=out5→imm0.le imm'→(RL imm' cs6 out5)→T 54 B Q (.exit 4) imm' [hO (List Int) (vS p7 y c6) cs2,hO yI (vS p11 out5 c10) cs6,hB b (cProg p p1 c p2 c1)] [(1,vP b 0),(3,vS p11 out5 c10),(4,vI i),(5,vS p7 y c6),(6,vI k0)])→J Tryz.prog 54 B (nav (bodyOf Tryz.f52) [1,1,0,1,0,0,1,0,0,1,1,0,0,1,0,0,1,0]) Q imm [hO (List Int) (vS p7 y c6) cs2,hO yI (vS p10 out4 c9) cs5,hB b (cProg p p1 c p2 c1)] [(1,vP b 0),(3,vS p10 out4 c9),(4,vI i),(5,vS p7 y c6),(6,vI k0),(7,vI s)]:=by
 refine M.spec_l4Instances_l3.partial_correctness p i y k0 _ ?_;intro self ih out4 s o hM B imm0 imm Q p1 c p2 c1 b p7 c6 cs2 p10 c9 cs5 hle h8 h h1 h11 hg ho hx;refine xF hg ho<|zF<|zF<|zB<|yK 4 [2] [(30,vI s),(32,vS p2 p.Parts c1),(33,vI i)] ?_;obtain ⟨x1,hy2,hM⟩:=zC hM;refine wJ rfl rfl h1 hy2 ?_;intro ad1 ccs1 hat1 hrep1;obtain ⟨v02,v03,rfl,h13,h14⟩:=uM hrep1;obtain ⟨p12,c11,rfl⟩:=h13.form;obtain ⟨p13,c12,rfl⟩:=h14.form;refine yK 6 [] [(35,.pointer (some (ad1.add 1)))]<|xX 1 hat1 [vS p13 x1.Body c12] (vS p13 x1.Body c12) rfl<|zY [] [(38,.bool (decide (s < (x1.Body.length:Int))))]<|zE<|yP hM ?_ ?_
 · intro hc2 hM;refine yD<|zE<|zF<|yB<|zB<|yK 3 [] [(41,vS p10 out4 c9),(42,vI i),(43,vI s)]<|xY [] Int ?_;intro b3 hb3;have h15:RL imm [] ([]:List Int):=rfl;refine yK 6 [] [(45,vS p7 y c6),(46,vI k0)] ?_;obtain ⟨x2,hy3,hM⟩:=zC hM;refine nH 1 rfl rfl rfl h8 hy3 ?_;intro ad2 ccs2 hat2 hcc hrep2;obtain ⟨v04,rfl,h16⟩:=hrep2;obtain ⟨p14,c13,rfl⟩:=h16.form;refine zCz 1 0 hat2 hcc [vS p14 x2 c13] (vS p14 x2 c13) rfl rfl ?_;obtain ⟨ccs3,k01,k02⟩:=h16;have h16:SL imm (vS p14 x2 c13) x2:=⟨_,k01,k02⟩;obtain ⟨l,hy4,hM⟩:=zC hM;refine qS 3 1 0 rfl rfl rfl h15 (.inl k01) k02 hy4 ?_;intro p15 c14 cs7 h17;refine qC (zL [0,1,2,3] (hs':=[hO Int (vS p15 l c14) cs7,hO (List Int) (vS p7 y c6) cs2,hO yI (vS p10 out4 c9) cs5,hB b (cProg p p1 c p2 c1)]) rfl (by decide))<|yK 10 [] [(50,vA [vI i,vI s,vS p15 l c14])]<|yL 0 rfl ?_;intro imm01 le1 hl0;have h18:=SL.of_frozen hl0 le1 h17;have h8:=iM le1 h8;have h11:=iM le1 h11;have h:=h.mono le1;have h1:=h1.mono le1;have hle:=hle.trans le1;refine xY [vI i,vI s,vS p15 l c14] yI ?_;intro b4 hb4;have h19:RL imm01 [vI i,vI s,vS p15 l c14] ([(yI.mk i s l)]:List yI):=⟨[vI i,vI s,vS p15 l c14],_,rfl,rfl,(zAT ⟨_,rfl,h18⟩),rfl⟩;obtain ⟨out6,hy5,hM⟩:=zC hM;refine qS 59 3 2 rfl rfl rfl h11 (.inr ⟨0,rfl⟩) h19 hy5 ?_;intro p16 c15 cs8 h20;exact qC (zL [1,2,3] (hs':=[hO (List Int) (vS p7 y c6) cs2,hO yI (vS p16 out6 c15) cs8,hB b (cProg p p1 c p2 c1)]) rfl (by decide))<|zY [] [(3,vS p16 out6 c15)]<|zW<|zE<|zB<|zY [] [(7,vI (W (s + 1)))]<|xG<|uA [(1,vP b 0),(3,vS p16 out6 c15),(4,vI i),(5,vS p7 y c6),(6,vI k0),(7,vI (W (s + 1)))]<|ih out6 (W (s + 1)) _ hM hle h8 h h1 h20 hg ho hx
 intro hc2 hM;exact xB<|zT<|zT<|yU [(1,vP b 0),(3,vS p10 out4 c9),(4,vI i),(5,vS p7 y c6),(6,vI k0)]<|hx _ _ _ _ _ (zD hM).symm hle h11
def M.spec_l4Instances_l2 (p:zZ) (i:Int) (y:(List (List Int))) (out2:List yI) (k0:Int):Option (List yI):=do
 if (decide (k0 < (y.length:Int))) then
  let out5←M.spec_l4Instances_l3 p i y k0 out2 0
  M.spec_l4Instances_l2 p i y out5 (W (k0 + 1))
 else
  pure (id out2)
 partial_fixpoint
theorem spec_l4Instances_l2_ok (p:zZ) (i:Int) (y:(List (List Int))):∀ (out2:List yI) (k0:Int) (o:List yI),M.spec_l4Instances_l2 p i y out2 k0=some o→∀ {B}{imm0 imm:Imm}{Q p1 c p2 c1}{b:Nat}{p7 c6 cs2 p8 c7 cs3},imm0.le imm→(RL imm cs2 y)→(S4 imm p1 p.Arrays c)→(S4 imm p2 p.Parts c1)→(RL imm cs3 out2)→(∀ l a w,¬Q (.goto l) a w)→(∀ a w,¬Q .outgrown a w)→(∀ (imm':Imm) (out3:List yI) (p9:Option Addr) (c8:Nat) (cs4:List Value),o=out3→imm0.le imm'→(RL imm' cs4 out3)→T 54 B Q (.exit 2) imm' [hO yI (vS p9 out3 c8) cs4,hB b (cProg p p1 c p2 c1)] [(1,vP b 0),(3,vS p9 out3 c8),(4,vI i)])→J Tryz.prog 54 B (nav (bodyOf Tryz.f52) [1,1,0,1,0,0,1,0,0,1,1,0]) Q imm [hO (List Int) (vS p7 y c6) cs2,hO yI (vS p8 out2 c7) cs3,hB b (cProg p p1 c p2 c1)] [(1,vP b 0),(3,vS p8 out2 c7),(4,vI i),(5,vS p7 y c6),(6,vI k0)]:=by
 refine M.spec_l4Instances_l2.partial_correctness p i y _ ?_;intro self ih out2 k0 o hM B imm0 imm Q p1 c p2 c1 b p7 c6 cs2 p8 c7 cs3 hle h8 h h1 h9 hg ho hx;refine xF hg ho<|zF<|zF<|zB<|zY [] [(27,.bool (decide (k0 < (y.length:Int))))]<|zE<|yP hM ?_ ?_
 · intro hc1 hM;refine yD<|zE<|zF<|yB<|zF<|zB<|zY [] [(7,vI 0)]<|zE<|yB<|uA [(1,vP b 0),(3,vS p8 out2 c7),(4,vI i),(5,vS p7 y c6),(6,vI k0),(7,vI 0)] ?_;obtain ⟨o0,ho0,hMl⟩:=zC hM;refine spec_l4Instances_l3_ok p i y k0 out2 0 o0 ho0 iR h8 h h1 h9 (fun _ _ _ h=>hg _ _ _ h) (fun _ _ h=>ho _ _ h) ?_;intro imm02 out5 p11 c10 cs6 heq le2 h12;subst o0;have h8:=iM le2 h8;have h:=h.mono le2;have h1:=h1.mono le2;have hle:=hle.trans le2;exact yC<|zW<|zE<|zB<|zY [] [(6,vI (W (k0 + 1)))]<|xG<|uA [(1,vP b 0),(3,vS p11 out5 c10),(4,vI i),(5,vS p7 y c6),(6,vI (W (k0 + 1)))]<|ih out5 (W (k0 + 1)) _ hMl hle h8 h h1 h12 hg ho hx
 intro hc1 hM;exact xB<|zT<|zT<|wE (zL [1,2] rfl (by decide))<|yU [(1,vP b 0),(3,vS p8 out2 c7),(4,vI i)]<|hx _ _ _ _ _ (zD hM).symm hle h9
def M.spec_l4Instances_l1 (p:zZ) (out:List yI) (i:Int):Option (List yI):=do
 if (decide (i < (p.Parts.length:Int))) then
  let x←idx p.Parts i
  let y←wX ([]:List (List Int)) x.Nest ([]:List Int)
  let out3←M.spec_l4Instances_l2 p i y out 0
  M.spec_l4Instances_l1 p out3 (W (i + 1))
 else
  pure (id out)
 partial_fixpoint
theorem spec_l4Instances_l1_ok (p:zZ):∀ (out:List yI) (i:Int) (o:List yI),M.spec_l4Instances_l1 p out i=some o→∀ {B}{imm0 imm:Imm}{Q p1 c p2 c1}{b:Nat}{p3 c2 cs},imm0.le imm→(S4 imm p1 p.Arrays c)→(S4 imm p2 p.Parts c1)→(RL imm cs out)→(∀ l a w,¬Q (.goto l) a w)→(∀ a w,¬Q .outgrown a w)→(∀ (imm':Imm) (out1:List yI) (p4:Option Addr) (c3:Nat) (cs1:List Value),o=out1→imm0.le imm'→(RL imm' cs1 out1)→T 54 B Q (.exit 0) imm' [hO yI (vS p4 out1 c3) cs1] [(3,vS p4 out1 c3)])→J Tryz.prog 54 B (nav (bodyOf Tryz.f52) [1,1,0,1,0]) Q imm [hO yI (vS p3 out c2) cs,hB b (cProg p p1 c p2 c1)] [(1,vP b 0),(3,vS p3 out c2),(4,vI i)]:=by
 refine M.spec_l4Instances_l1.partial_correctness p _ ?_;intro self ih out i o hM B imm0 imm Q p1 c p2 c1 b p3 c2 cs hle h h1 h3 hg ho hx;refine xF hg ho<|zF<|zF<|zB<|zY [1] [(13,.bool (decide (i < (p.Parts.length:Int))))]<|zE<|yP hM ?_ ?_
 · intro hc hM;refine yD<|zE<|zF<|yB<|zF<|zB<|xY [] (List Int) ?_;intro b2 hb2;have h5:RL imm [] ([]:List (List Int)):=rfl;refine yK 4 [2] [(18,vS p2 p.Parts c1),(19,vI i)] ?_;obtain ⟨x,hy,hM⟩:=zC hM;refine wJ rfl rfl h1 hy ?_;intro ad ccs hat hrep;obtain ⟨v0,v01,rfl,h6,h7⟩:=uM hrep;obtain ⟨p5,c4,rfl⟩:=h6.form;obtain ⟨p6,c5,rfl⟩:=h7.form;refine yK 6 [] [(21,.pointer (some ad))]<|xX 0 hat [vS p5 x.Nest c4] (vS p5 x.Nest c4) rfl ?_;obtain ⟨y,hy1,hM⟩:=zC hM;refine tX [hO (List Int) (vS (some ⟨b2,0,none⟩) ([]:List (List Int)) 0) []] [hO yI (vS p3 out c2) cs,hB b (cProg p p1 c p2 c1)] (zBt ([]:List (List Int)) x.Nest ([]:List Int) _ hy1 h5 h6 (SL.nil _)) ?_;rintro imm0 hs2 v2 k2 le - ⟨p7,c6,cs2,rfl,rfl,h8⟩ -;have h3:=iM le h3;have h:=h.mono le;have h1:=h1.mono le;have hle:=hle.trans le;refine zY [] [(5,vS p7 y c6)]<|zE<|zF<|zB<|zY [] [(6,vI 0)]<|zE<|yB<|uA [(1,vP b 0),(3,vS p3 out c2),(4,vI i),(5,vS p7 y c6),(6,vI 0)] ?_;obtain ⟨o01,ho01,hMl1⟩:=zC hM;refine spec_l4Instances_l2_ok p i y out 0 o01 ho01 iR h8 h h1 h3 (fun _ _ _ h=>hg _ _ _ h) (fun _ _ h=>ho _ _ h) ?_;intro imm03 out3 p9 c8 cs4 heq1 le3 h10;subst o01;have h:=h.mono le3;have h1:=h1.mono le3;have hle:=hle.trans le3;exact yC<|zW<|zE<|zB<|zY [] [(4,vI (W (i + 1)))]<|xG<|uA [(1,vP b 0),(3,vS p9 out3 c8),(4,vI (W (i + 1)))]<|ih out3 (W (i + 1)) _ hMl1 hle h h1 h10 hg ho hx
 intro hc hM;exact xB<|zT<|zT<|wE (zL [0] rfl (by decide))<|yU [(3,vS p3 out c2)]<|hx _ _ _ _ _ (zD hM).symm hle h3
def M.spec_l4Instances (p:zZ):Option ((List yI)):=do
 let out1←M.spec_l4Instances_l1 p ([]:List yI) 0
 pure (id out1)
theorem spec_l4Instances_ok:∀ (p:zZ) r,M.spec_l4Instances p=some r→∀ {imm:Imm}{p1 c p2 c1},(S4 imm p1 p.Arrays c)→(S4 imm p2 p.Parts c1)→Ret Tryz.prog 52 [vA (cProg p p1 c p2 c1)] imm [] (spec_l4Instances_post  r):=by
 intro p r hM imm p1 c p2 c1 h h1;unfold M.spec_l4Instances at hM;refine yF (fn:=Tryz.f52) (c:=(bodyOf Tryz.f52)) Tryz.func52 rfl rfl ?_;rintro B - -;have hle:=iS imm;refine zF<|zB<|sD (cProg p p1 c p2 c1) ?_;intro b hb;refine zY [] []<|zE<|zF<|zB<|xY [] yI ?_;intro b1 hb1;have h2:RL imm [] ([]:List yI):=rfl;refine zY [] [(3,vS (some ⟨b1,0,none⟩) ([]:List yI) 0)]<|zE<|zF<|zF<|zB<|zY [] [(4,vI 0)]<|zE<|yB<|uA [(1,vP b 0),(3,vS (some ⟨b1,0,none⟩) ([]:List yI) 0),(4,vI 0)] ?_;obtain ⟨o02,ho02,hMl2⟩:=zC hM;refine spec_l4Instances_l1_ok p ([]:List yI) 0 o02 ho02 iR h h1 h2 (fun _ _ _ h=>h) (fun _ _ h=>h) ?_;intro imm04 out1 p4 c3 cs1 heq2 le4 h4;subst o02;have hle:=hle.trans le4;refine yC<|zE<|zF<|zB<|zY [] [(2,vS p4 out1 c3)]<|zE<|yJ<|xL 0 rfl ?_;intro imm05 le5 hl01;have h21:=SL.of_frozen hl01 le5 h4;have hle:=hle.trans le5;obtain rfl:=zD hMl2;exact yQ ⟨_,_,(.tmp rfl ResV.nil),zV,⟨_,rfl,rfl,h21⟩⟩
def spec_ProgramInstances_post (r:(List yI)):KT:=fun kk imm' hs' v=>
  ∃ v0,hs'=[]∧v=tupV [v0]∧SL imm' v0 r
def M.spec_ProgramInstances (p:zZ):Option ((List yI)):=do
 let y←tE p
 if (!y) then
  pure ([]:List yI)
 else
  let y1←M.spec_l4Instances p
  pure (id y1)
theorem spec_ProgramInstances_ok:∀ (p:zZ) r,M.spec_ProgramInstances p=some r→∀ {imm:Imm}{p1 c p2 c1},(S4 imm p1 p.Arrays c)→(S4 imm p2 p.Parts c1)→Ret Tryz.prog 17 [vA (cProg p p1 c p2 c1)] imm [] (spec_ProgramInstances_post  r):=by
 intro p r hM imm p1 c p2 c1 h h1;unfold M.spec_ProgramInstances at hM;refine yF (fn:=Tryz.f17) (c:=(bodyOf Tryz.f17)) Tryz.func17 rfl rfl ?_;rintro B - -;have hle:=iS imm;refine zF<|zB<|sD (cProg p p1 c p2 c1) ?_;intro b hb;refine zY [] []<|zE<|zF<|zF<|zB<|yK 1 [0] [(3,vA (cProg p p1 c p2 c1))] ?_;obtain ⟨y,hy,hM⟩:=zC hM;refine yR (eU p _ hy h h1) ?_;rintro imm0 hs2 v2 k2 le - ⟨v0,rfl,rfl,rfl⟩ -;have h:=h.mono le;have h1:=h1.mono le;have hle:=hle.trans le;refine zY [] [(5,.bool (!y))]<|zE<|yP hM ?_ ?_
 · intro hc hM;refine zF<|zB<|xY [] yI ?_;intro b1 hb1;have h3:RL imm0 [] ([]:List yI):=rfl;refine zY [] [(2,vS (some ⟨b1,0,none⟩) ([]:List yI) 0)]<|zE<|yJ<|zQ<|xL 0 rfl ?_;intro imm01 le1 hl0;have h4:=SL.of_frozen hl0 le1 h3;have h:=h.mono le1;have h1:=h1.mono le1;have hle:=hle.trans le1;obtain rfl:=zD hM;exact yQ ⟨_,_,(.tmp rfl ResV.nil),zV,⟨_,rfl,rfl,h4⟩⟩
 intro hc hM;refine yD<|zE<|zF<|zB<|yK 1 [0] [(7,vA (cProg p p1 c p2 c1))] ?_;obtain ⟨y1,hy1,hM⟩:=zC hM;refine yR (spec_l4Instances_ok p _ hy1 h h1) ?_;rintro imm02 hs2 v2 k2 le2 - ⟨v01,rfl,rfl,h5⟩ -;have h:=h.mono le2;have h1:=h1.mono le2;have hle:=hle.trans le2;obtain ⟨p3,c2,rfl⟩:=h5.form;refine zY [] [(2,vS p3 y1 c2)]<|zE<|yJ ?_;obtain rfl:=zD hM;exact yQ ⟨_,_,(.tmp rfl ResV.nil),zV,⟨_,rfl,rfl,h5⟩⟩
end Go.LN
namespace Go.LN
open Go.Proofs
set_option maxRecDepth 20000
def spec_l5Order_post (b0:Nat) (r:(List Int)×zO):KT:=fun kk imm' hs' v=>
  ∃ v0 k0,hs'=[.blk b0 ⟨k0⟩]∧v=tupV [v0]∧SL imm' v0 r.1∧Rp.rep imm' k0 r.2
def M.spec_l5Order_l1 (p1:zZ) (out:List Int) (i:Int):Option (List Int):=do
 let y←M.spec_ProgramInstances p1
 if (decide (i < (y.length:Int))) then
  let out2←app 8 out ([i]:List Int)
  M.spec_l5Order_l1 p1 out2 (W (i + 1))
 else
  pure (id out)
 partial_fixpoint
theorem spec_l5Order_l1_ok (p1:zZ):∀ (out:List Int) (i:Int) (o:List Int),M.spec_l5Order_l1 p1 out i=some o→∀ {B}{imm0 imm:Imm}{Q}{r0:zO}{r01:Nat}{p c p2 c1 p3 c2}{b:Nat}{p4 c3 cs},imm0.le imm→(S4 imm p2 p1.Arrays c1)→(S4 imm p3 p1.Parts c2)→(S4 imm p r0.b c)→(RL imm cs out)→(∀ l a w,¬Q (.goto l) a w)→(∀ a w,¬Q .outgrown a w)→(∀ (imm':Imm) (out1:List Int) (p5:Option Addr) (c4:Nat) (cs1:List Value),o=out1→imm0.le imm'→(RL imm' cs1 out1)→T 72 B Q (.exit 0) imm' [hO Int (vS p5 out1 c4) cs1,hB r01 (cRd r0 p c)] [(0,vP r01 0),(5,vS p5 out1 c4)])→J Tryz.prog 72 B (nav (bodyOf Tryz.f78) [1,1,0,1,0]) Q imm [hO Int (vS p4 out c3) cs,hB b (cProg p1 p2 c1 p3 c2),hB r01 (cRd r0 p c)] [(0,vP r01 0),(3,vP b 0),(5,vS p4 out c3),(6,vI i)]:=by
 refine M.spec_l5Order_l1.partial_correctness p1 _ ?_;intro self ih out i o hM B imm0 imm Q r0 r01 p c p2 c1 p3 c2 b p4 c3 cs hle h1 h2 h h4 hg ho hx;refine xF hg ho<|zF<|zF<|zB<|yK 2 [1] [(12,vI i),(13,vA (cProg p1 p2 c1 p3 c2))] ?_;obtain ⟨y,hy,hM⟩:=zC hM;refine yR (spec_ProgramInstances_ok p1 _ hy h1 h2) ?_;rintro imm0 hs2 v2 k2 le - ⟨v0,rfl,rfl,h6⟩ -;have h4:=iM le h4;have h1:=h1.mono le;have h2:=h2.mono le;have h:=h.mono le;have hle:=hle.trans le;obtain ⟨p6,c5,rfl⟩:=h6.form;refine zY [] [(16,.bool (decide (i < (y.length:Int))))]<|zE<|yP hM ?_ ?_
 · intro hc hM;refine yD<|zE<|zF<|yB<|zB<|yK 2 [] [(19,vS p4 out c3),(20,vI i)]<|xY [vI i] Int ?_;intro b2 hb2;have h7:RL imm0 [vI i] ([i]:List Int):=⟨[vI i],_,rfl,rfl,rfl,rfl⟩;obtain ⟨out2,hy1,hM⟩:=zC hM;refine qS 3 1 1 rfl rfl rfl h4 (.inr ⟨0,rfl⟩) h7 hy1 ?_;intro p7 c6 cs2 h8;exact qC (zL [1,2,3] (hs':=[hO Int (vS p7 out2 c6) cs2,hB b (cProg p1 p2 c1 p3 c2),hB r01 (cRd r0 p c)]) rfl (by decide))<|zY [] [(5,vS p7 out2 c6)]<|zW<|zE<|zB<|zY [] [(6,vI (W (i + 1)))]<|xG<|uA [(0,vP r01 0),(3,vP b 0),(5,vS p7 out2 c6),(6,vI (W (i + 1)))]<|ih out2 (W (i + 1)) _ hM hle h1 h2 h h8 hg ho hx
 intro hc hM;exact xB<|zT<|zT<|wE (zL [0,2] rfl (by decide))<|yU [(0,vP r01 0),(5,vS p4 out c3)]<|hx _ _ _ _ _ (zD hM).symm hle h4
def M.spec_l5Order_l2 (out3:List Int) (i1:Int) (x:zO):Option ((List Int×zO)):=do
 let t32←(do
   if (decide (i1 > 0)) then
    pure (decide ((out3.length:Int) > 1))
   else
    pure false
     : Option Bool)
 if t32 then
  let (y5,y6)←yW x (out3.length:Int)
  let (y8,y9)←yW y6 (out3.length:Int)
  let x2←idx out3 y5
  let x3←idx out3 y8
  let x4←idx out3 y5
  let l←pure (out3.set y5.toNat x3)
  let x5←idx l y8
  let l1←pure (l.set y8.toNat x2)
  M.spec_l5Order_l2 l1 (W (i1 - 1)) y9
 else
  pure (out3,x)
 partial_fixpoint
theorem spec_l5Order_l2_ok :∀ (out3:List Int) (i1:Int) (x:zO) (o:(List Int×zO)),M.spec_l5Order_l2 out3 i1 x=some o→∀ {B}{imm0 imm:Imm}{Q}  {r01:Nat}{p9 c8 cs3 p10 c9},imm0.le imm→(RL imm cs3 out3)→(S4 imm p10 x.b c9)→(∀ l a w,¬Q (.goto l) a w)→(∀ a w,¬Q .outgrown a w)→(∀ (imm':Imm) (out4:List Int) (x1:zO) (p11:Option Addr) (c10:Nat) (cs4:List Value) (p12:Option Addr) (c11:Nat),o=(out4,x1)→imm0.le imm'→(RL imm' cs4 out4)→(S4 imm' p12 x1.b c11)→T 72 B Q (.exit 2) imm' [hB r01 (cRd x1 p12 c11),hO Int (vS p11 out4 c10) cs4] [(0,vP r01 0),(5,vS p11 out4 c10)])→J Tryz.prog 72 B (nav (bodyOf Tryz.f78) [1,1,1,0,1,0]) Q imm [hB r01 (cRd x p10 c9),hO Int (vS p9 out3 c8) cs3] [(0,vP r01 0),(5,vS p9 out3 c8),(7,vI i1)]:=by
 refine M.spec_l5Order_l2.partial_correctness  _ ?_;intro self ih out3 i1 x o hM B imm0 imm Q r01 p9 c8 cs3 p10 c9 hle h14 h15 hg ho hx;refine xF hg ho<|zF<|zF ?_;obtain ⟨o01,ho01,hMc⟩:=zC hM;refine yT (fun imm' hs' m'=>∃ (t32:Bool),o01=t32∧imm.le imm'∧hs'=[hB r01 (cRd x p10 c9),hO Int (vS p9 out3 c8) cs3]∧m'=[(0,vP r01 0),(5,vS p9 out3 c8),(7,vI i1),(32,.bool t32)]) ?_ ?_
 · have hle0:=hle;have hle:=iS imm;refine zB<|yK 3 [] [(28,.bool (decide (i1 > 0)))] ?_;cases hc1:(decide (i1 > 0)) with
   | true =>
    have hM0:=zU hc1 ho01
    try rw [hc1]
    exact zY [] [(32,.bool (decide ((out3.length:Int) > 1)))]<|yU [(0,vP r01 0),(5,vS p9 out3 c8),(7,vI i1),(32,.bool (decide ((out3.length:Int) > 1)))]<|yA ⟨_,(zD hM0).symm,hle,rfl,rfl⟩
   | false =>
    have hM01:=zS hc1 ho01
    try rw [hc1]
    exact zY [] [(32,.bool false)]<|yU [(0,vP r01 0),(5,vS p9 out3 c8),(7,vI i1),(32,.bool false)]<|yA ⟨_,(zD hM01).symm,hle,rfl,rfl⟩
 rintro imm04 hs2 m2 ⟨t32,heq1,le4,rfl,rfl⟩;subst o01;have h14:=iM le4 h14;have h15:=h15.mono le4;have hle:=hle.trans le4;refine zE<|yP hMc ?_ ?_
 · intro hc2 hM;refine yD<|zE<|zF<|yB<|zF<|zB<|yK 3 [] [(35,vP r01 0),(37,vI (out3.length:Int))] ?_;obtain ⟨⟨y5,y6⟩,hy3,hM⟩:=zC hM;refine tX [hB r01 (cRd x p10 c9)] [hO Int (vS p9 out3 c8) cs3] (xK x (out3.length:Int) _ hy3 h15) ?_;rintro imm05 hs2 v2 k2 le5 - ⟨v03,kk1,rfl,rfl,rfl,h19⟩ -;have h14:=iM le5 h14;have hle:=hle.trans le5;obtain ⟨v04,rfl,h20⟩:=yH h19;obtain ⟨p13,c12,rfl⟩:=h20.form;refine zY [] [(8,vI y5)]<|zE<|zF<|zB<|yK 3 [] [(39,vP r01 0),(41,vI (out3.length:Int))] ?_;obtain ⟨⟨y8,y9⟩,hy4,hM⟩:=zC hM;refine tX [hB r01 (cRd y6 p13 c12)] [hO Int (vS p9 out3 c8) cs3] (xK y6 (out3.length:Int) _ hy4 h20) ?_;rintro imm06 hs2 v2 k2 le6 - ⟨v05,kk2,rfl,rfl,rfl,h22⟩ -;have h14:=iM le6 h14;have hle:=hle.trans le6;obtain ⟨v06,rfl,h23⟩:=yH h22;obtain ⟨p14,c13,rfl⟩:=h23.form;refine zY [] [(9,vI y8)]<|zE<|zF<|zB<|yK 2 [] [(43,vS p9 out3 c8),(44,vI y5)] ?_;obtain ⟨x2,hy5,hM⟩:=zC hM;refine nH 1 rfl rfl rfl h14 hy5 ?_;intro ad ccs hat hcc hrep;obtain rfl:=hrep;refine zCz 1 0 hat hcc [vI x2] (vI x2) rfl rfl<|zY [] [(10,vI x2)]<|zE<|zF<|zB<|yK 4 [] [(47,vS p9 out3 c8),(48,vI y5),(49,vS p9 out3 c8),(50,vI y8)] ?_;obtain ⟨x3,hy6,hM⟩:=zC hM;refine nH 1 rfl rfl rfl h14 hy6 ?_;intro ad1 ccs1 hat1 hcc1 hrep1;obtain rfl:=hrep1;refine zCz 1 0 hat1 hcc1 [vI x3] (vI x3) rfl rfl ?_;obtain ⟨x4,hy7,hM⟩:=zC hM;refine nH 1 rfl rfl rfl h14 hy7 ?_;intro ad2 ccs2 hat2 hcc2 hrep2;obtain rfl:=hrep2;obtain ⟨l,hy8,hM⟩:=zC hM;refine qL (c:=[vI x3]) (x':=x3) 1 0 rfl rfl rfl hat2 rfl rfl hcc2 (by kernel_rfl) (by kernel_rfl) (by kernel_rfl) h14 hy7 (by kernel_rfl) rfl ?_;rw [show out3.set y5.toNat x3=l from zD hy8];intro cs5 h24 hl01;refine mX (m':=[(0,vP r01 0),(5,vS p9 out3 c8),(7,vI i1),(9,vI y8),(10,vI x2),(47,vS p9 out3 c8),(48,vI y5),(49,vS p9 out3 c8),(50,vI y8),(52,vI x3)]) ⟨rfl,rfl,rfl,rfl,rfl,rfl,rfl,rfl,rfl,rfl,trivial⟩<|zBd (hs':=[hB r01 (cRd y9 p14 c13),hO Int (vS p9 l c8) cs5]) (m':=[(0,vP r01 0),(5,vS p9 l c8),(7,vI i1),(9,vI y8),(10,vI x2),(47,vS p9 l c8),(48,vI y5),(49,vS p9 l c8),(50,vI y8),(52,vI x3)]) (by first | rfl | simp only [vS,hl01,List.nil_append,List.cons_append,List.set_cons_zero,List.set_cons_succ,List.eraseIdx_cons_zero,List.eraseIdx_cons_succ]) (by first | rfl | simp only [vS,hl01])<|yN rfl<|zE<|zB<|yK 3 [] [(54,vS p9 l c8),(55,vI y8),(56,vI x2)] ?_;obtain ⟨x5,hy9,hM⟩:=zC hM;refine nH 1 rfl rfl rfl h24 hy9 ?_;intro ad3 ccs3 hat3 hcc3 hrep3;obtain rfl:=hrep3;obtain ⟨l1,hy10,hM⟩:=zC hM;refine qL (c:=[vI x2]) (x':=x2) 1 0 rfl rfl rfl hat3 rfl rfl hcc3 (by kernel_rfl) (by kernel_rfl) (by kernel_rfl) h24 hy9 (by kernel_rfl) rfl ?_;rw [show l.set y8.toNat x2=l1 from zD hy10];intro cs6 h25 hl02;exact mX (m':=[(0,vP r01 0),(5,vS p9 l c8),(7,vI i1),(54,vS p9 l c8),(55,vI y8),(56,vI x2)]) ⟨rfl,rfl,rfl,rfl,rfl,rfl,trivial⟩<|zBd (hs':=[hB r01 (cRd y9 p14 c13),hO Int (vS p9 l1 c8) cs6]) (m':=[(0,vP r01 0),(5,vS p9 l1 c8),(7,vI i1),(54,vS p9 l1 c8),(55,vI y8),(56,vI x2)]) (by first | rfl | simp only [vS,hl02,List.nil_append,List.cons_append,List.set_cons_zero,List.set_cons_succ,List.eraseIdx_cons_zero,List.eraseIdx_cons_succ]) (by first | rfl | simp only [vS,hl02])<|yN rfl<|zW<|zE<|zB<|zY [] [(7,vI (W (i1 - 1)))]<|xG<|uA [(0,vP r01 0),(5,vS p9 l1 c8),(7,vI (W (i1 - 1)))]<|ih l1 (W (i1 - 1)) y9 _ hM hle h25 h23 hg ho hx
 intro hc2 hM;exact xB<|zT<|zT<|yU [(0,vP r01 0),(5,vS p9 out3 c8)]<|hx _ _ _ _ _ _ _ _ (zD hM).symm hle h14 h15
def M.spec_l5Order (r0:zO) (p1:zZ):Option ((List Int)×zO):=do
 let out1←M.spec_l5Order_l1 p1 ([]:List Int) 0
 let (y2,y3)←yV r0 ([1,3,0,8]:List Int)
 let (out4,x1)←M.spec_l5Order_l2 out1 y2 y3
 let (t65,x6)←(do
   if (decide ((out4.length:Int) > 0)) then
    let (y11,y12)←yW x1 20
    pure ((y11 == 0),y12)
   else
    pure (false,x1)
     : Option (Bool×zO))
 let (out5,x7)←(do
   if t65 then
    let (y14,y15)←yV x6 ([(-1),0,1,200]:List Int)
    let x8←idx out4 0
    let l2←pure (out4.set (0:Int).toNat y14)
    pure (l2,y15)
   else
    pure (out4,x6)
     : Option (List Int×zO))
 pure (out5,x7)
theorem spec_l5Order_ok:∀ (r0:zO) (p1:zZ) r,M.spec_l5Order r0 p1=some r→∀ {imm:Imm}{r01:Nat}{p c p2 c1 p3 c2},(S4 imm p r0.b c)→(S4 imm p2 p1.Arrays c1)→(S4 imm p3 p1.Parts c2)→Ret Tryz.prog 78 [vP r01 0,vA (cProg p1 p2 c1 p3 c2)] imm [hB r01 (cRd r0 p c)] (spec_l5Order_post r01 r):=by
 intro r0 p1 r hM imm r01 p c p2 c1 p3 c2 h h1 h2;unfold M.spec_l5Order at hM;refine yF (fn:=Tryz.f78) (c:=(bodyOf Tryz.f78)) Tryz.func78 rfl rfl ?_;rintro B - -;have hle:=iS imm;refine zF<|zB<|sD (cProg p1 p2 c1 p3 c2) ?_;intro b hb;refine zY [] []<|zE<|zF<|zB<|xY [] Int ?_;intro b1 hb1;have h3:RL imm [] ([]:List Int):=rfl;refine zY [] [(5,vS (some ⟨b1,0,none⟩) ([]:List Int) 0)]<|zE<|zF<|zF<|zB<|zY [] [(6,vI 0)]<|zE<|yB<|uA [(0,vP r01 0),(3,vP b 0),(5,vS (some ⟨b1,0,none⟩) ([]:List Int) 0),(6,vI 0)] ?_;obtain ⟨o0,ho0,hMl⟩:=zC hM;refine spec_l5Order_l1_ok p1 ([]:List Int) 0 o0 ho0 iR h1 h2 h h3 (fun _ _ _ h=>h) (fun _ _ h=>h) ?_;intro imm01 out1 p5 c4 cs1 heq le1 h5;subst o0;have h:=h.mono le1;have hle:=hle.trans le1;refine yC<|zE<|zF<|zF<|zB<|yK 1 [] [(23,vP r01 0)]<|xY [vI 1,vI 3,vI 0,vI 8] Int ?_;intro b3 hb3;have h9:RL imm01 [vI 1,vI 3,vI 0,vI 8] ([1,3,0,8]:List Int):=⟨[vI 1],_,rfl,rfl,rfl,⟨[vI 3],_,rfl,rfl,rfl,⟨[vI 0],_,rfl,rfl,rfl,⟨[vI 8],_,rfl,rfl,rfl,rfl⟩⟩⟩⟩;refine yL 0 rfl ?_;intro imm02 le2 hl0;have h10:=SL.of_frozen hl0 le2 h9;have h5:=iM le2 h5;have h:=h.mono le2;have hle:=hle.trans le2;refine qC (zL [1,0] (hs':=[hB r01 (cRd r0 p c),hO Int (vS p5 out1 c4) cs1]) rfl (by decide)) ?_;obtain ⟨⟨y2,y3⟩,hy2,hM⟩:=zC hMl;refine tX [hB r01 (cRd r0 p c)] [hO Int (vS p5 out1 c4) cs1] (xC r0 ([1,3,0,8]:List Int) _ hy2 h h10) ?_;rintro imm03 hs2 v2 k2 le3 - ⟨v01,kk,rfl,rfl,rfl,h12⟩ -;have h5:=iM le3 h5;have hle:=hle.trans le3;obtain ⟨v02,rfl,h13⟩:=yH h12;obtain ⟨p8,c7,rfl⟩:=h13.form;refine zY [] [(7,vI y2)]<|zE<|yB<|uA [(0,vP r01 0),(5,vS p5 out1 c4),(7,vI y2)] ?_;obtain ⟨o02,ho02,hMl1⟩:=zC hM;refine spec_l5Order_l2_ok out1 y2 y3 o02 ho02 iR h5 h13 (fun _ _ _ h=>h) (fun _ _ h=>h) ?_;intro imm07 out4 x1 p11 c10 cs4 p12 c11 heq2 le7 h16 h17;subst o02;have hle:=hle.trans le7;refine yC<|zE<|zF<|zF ?_;obtain ⟨o03,ho03,hMc1⟩:=zC hMl1;refine yT (fun imm' hs' m'=>∃ (t65:Bool) (x6:zO) (p15:Option Addr) (c14:Nat),o03=(t65,x6)∧imm07.le imm'∧(S4 imm' p15 x6.b c14)∧hs'=[hB r01 (cRd x6 p15 c14),hO Int (vS p11 out4 c10) cs4]∧m'=[(0,vP r01 0),(5,vS p11 out4 c10),(65,.bool t65)]) ?_ ?_
 · have hle01:=hle;have hle:=iS imm07;refine zB<|yK 4 [] [(61,.bool (decide ((out4.length:Int) > 0)))] ?_;cases hc3:(decide ((out4.length:Int) > 0)) with
   | true =>
    have hM02:=zU hc3 ho03
    try rw [hc3]
    refine yK 5 [] [(62,vP r01 0)] ?_;obtain ⟨⟨y11,y12⟩,hy11,hM⟩:=zC hM02;refine tX [hB r01 (cRd x1 p12 c11)] [hO Int (vS p11 out4 c10) cs4] (xK x1 20 _ hy11 h17) ?_;rintro imm09 hs2 v2 k2 le8 - ⟨v07,kk3,rfl,rfl,rfl,h28⟩ -;have h16:=iM le8 h16;have hle:=hle.trans le8;obtain ⟨v08,rfl,h29⟩:=yH h28;obtain ⟨p16,c15,rfl⟩:=h29.form;exact zY [] [(65,.bool (y11 == 0))]<|yU [(0,vP r01 0),(5,vS p11 out4 c10),(65,.bool (y11 == 0))]<|yA ⟨_,_,_,_,(zD hM).symm,hle,h29,rfl,rfl⟩
   | false =>
    have hM03:=zS hc3 ho03
    try rw [hc3]
    exact zY [] [(65,.bool false)]<|yU [(0,vP r01 0),(5,vS p11 out4 c10),(65,.bool false)]<|yA ⟨_,_,_,_,(zD hM03).symm,hle,h17,rfl,rfl⟩
 rintro imm08 hs2 m2 ⟨t65,x6,p15,c14,heq3,le9,h26,rfl,rfl⟩;subst o03;have h16:=iM le9 h16;have hle:=hle.trans le9;refine zE ?_;obtain ⟨o04,ho04,hMc2⟩:=zC hMc1;refine yT (fun imm' hs' m'=>∃ (out5:List Int) (x7:zO) (p17:Option Addr) (c16:Nat) (cs7:List Value) (p18:Option Addr) (c17:Nat),o04=(out5,x7)∧imm08.le imm'∧(RL imm' cs7 out5)∧(S4 imm' p18 x7.b c17)∧hs'=[hB r01 (cRd x7 p18 c17),hO Int (vS p17 out5 c16) cs7]∧m'=[(5,vS p17 out5 c16)]) ?_ ?_
 · have hle02:=hle;have hle:=iS imm08;refine yP ho04 ?_ ?_
   · intro hc4 hM;refine zB<|yK 2 [] [(66,vS p11 out4 c10),(67,vP r01 0)]<|xY [vI (-1),vI 0,vI 1,vI 200] Int ?_;intro b4 hb4;have h32:RL imm08 [vI (-1),vI 0,vI 1,vI 200] ([(-1),0,1,200]:List Int):=⟨[vI (-1)],_,rfl,rfl,rfl,⟨[vI 0],_,rfl,rfl,rfl,⟨[vI 1],_,rfl,rfl,rfl,⟨[vI 200],_,rfl,rfl,rfl,rfl⟩⟩⟩⟩;refine yL 0 rfl ?_;intro imm011 le10 hl03;have h33:=SL.of_frozen hl03 le10 h32;have h16:=iM le10 h16;have h26:=h26.mono le10;have hle:=hle.trans le10;obtain ⟨⟨y14,y15⟩,hy12,hM⟩:=zC hM;refine tX [hB r01 (cRd x6 p15 c14)] [hO Int (vS p11 out4 c10) cs4] (xC x6 ([(-1),0,1,200]:List Int) _ hy12 h26 h33) ?_;rintro imm012 hs2 v2 k2 le11 - ⟨v09,kk4,rfl,rfl,rfl,h35⟩ -;have h16:=iM le11 h16;have hle:=hle.trans le11;obtain ⟨v010,rfl,h36⟩:=yH h35;obtain ⟨p19,c18,rfl⟩:=h36.form;obtain ⟨x8,hy13,hM⟩:=zC hM;refine nH 1 rfl rfl rfl h16 hy13 ?_;intro ad4 ccs4 hat4 hcc4 hrep4;obtain rfl:=hrep4;obtain ⟨l2,hy14,hM⟩:=zC hM;refine qL (c:=[vI y14]) (x':=y14) 1 0 rfl rfl rfl hat4 rfl rfl hcc4 (by kernel_rfl) (by kernel_rfl) (by kernel_rfl) h16 hy13 (by kernel_rfl) rfl ?_;rw [show out4.set (0:Int).toNat y14=l2 from zD hy14];intro cs8 h37 hl04;exact mX (m':=[(5,vS p11 out4 c10),(66,vS p11 out4 c10),(69,vI y14)]) ⟨rfl,rfl,rfl,trivial⟩<|zBd (hs':=[hB r01 (cRd y15 p19 c18),hO Int (vS p11 l2 c10) cs8]) (m':=[(5,vS p11 l2 c10),(66,vS p11 l2 c10),(69,vI y14)]) (by first | rfl | simp only [vS,hl04,List.nil_append,List.cons_append,List.set_cons_zero,List.set_cons_succ,List.eraseIdx_cons_zero,List.eraseIdx_cons_succ]) (by first | rfl | simp only [vS,hl04])<|yN rfl<|yU [(5,vS p11 l2 c10)]<|yA ⟨_,_,_,_,_,_,_,(zD hM).symm,hle,h37,h36,rfl,rfl⟩
   intro hc4 hM;exact yD<|yU [(5,vS p11 out4 c10)]<|yA ⟨_,_,_,_,_,_,_,(zD hM).symm,hle,h16,h26,rfl,rfl⟩
 rintro imm010 hs2 m2 ⟨out5,x7,p17,c16,cs7,p18,c17,heq4,le12,h30,h31,rfl,rfl⟩;subst o04;have hle:=hle.trans le12;refine zE<|zF<|zB<|zY [] [(4,vS p17 out5 c16)]<|zE<|yJ<|xL 1 rfl ?_;intro imm013 le13 hl05;have h38:=SL.of_frozen hl05 le13 h30;have h31:=h31.mono le13;have hle:=hle.trans le13;obtain rfl:=zD hMc2;exact yQ ⟨_,_,(.tmp rfl ResV.nil),(zL [0] rfl (by decide)),⟨_,_,rfl,rfl,h38,(yS ⟨_,rfl,h31⟩)⟩⟩
def spec_DrawOrderValid_post (r:zZ×(List Int)):KT:=fun kk imm' hs' v=>
  ∃ v0 v1,hs'=[]∧v=tupV [v0,v1]∧(∃ cs,v0=.agg ⟨cs⟩∧Rp.rep imm' cs r.1)∧SL imm' v1 r.2
def M.spec_DrawOrderValid (code:(List UInt8)):Option (zZ×(List Int)):=do
 let y←nW code
 let (y2,y3)←mW y
 let (y5,y6)←rV y3 y2
 let (y8,y9)←M.spec_l5Order y6 y5
 pure (y5,y8)
theorem spec_DrawOrderValid_ok:∀ (code:(List UInt8)) r,M.spec_DrawOrderValid code=some r→∀ {imm:Imm}{p c},(S4 imm p code c)→Ret Tryz.prog 31 [vS p code c] imm [] (spec_DrawOrderValid_post  r):=by
 intro code r hM imm p c h;unfold M.spec_DrawOrderValid at hM;refine yF (fn:=Tryz.f31) (c:=(bodyOf Tryz.f31)) Tryz.func31 rfl rfl ?_;rintro B - -;have hle:=iS imm;refine zF<|zB<|uJ zTwo ?_;intro b hb;refine zY [] []<|zE<|zF<|zB<|yK 1 [] [(6,vS p code c)] ?_;obtain ⟨y,hy,hM⟩:=zC hM;refine yR (zGV code _ hy h) ?_;rintro imm0 hs2 v2 k2 le - ⟨b1,p1,c1,rfl,rfl,h1⟩ -;have hle:=hle.trans le;refine zY [] [(4,vP b1 0)]<|zE<|zF<|zB<|yK 2 [] [(8,vP b1 0),(9,vP b1 0)] ?_;obtain ⟨⟨y2,y3⟩,hy1,hM⟩:=zC hM;refine tX [hB b1 (cRd y p1 c1)] [hB b zTwo] (zGp y _ hy1 h1) ?_;rintro imm01 hs2 v2 k2 le1 - ⟨v0,kk,rfl,rfl,⟨cs,rfl,h2⟩,h3⟩ -;have hle:=hle.trans le1;obtain ⟨v01,v02,rfl,h4,h5⟩:=zFp h2;obtain ⟨p2,c2,rfl⟩:=h4.form;obtain ⟨p3,c3,rfl⟩:=h5.form;obtain ⟨v03,rfl,h6⟩:=yH h3;obtain ⟨p4,c4,rfl⟩:=h6.form;obtain ⟨⟨y5,y6⟩,hy2,hM⟩:=zC hM;refine tX [hB b1 (cRd y3 p4 c4)] [hB b zTwo] (zGJ y3 y2 _ hy2 h6 h4 h5) ?_;rintro imm02 hs2 v2 k2 le2 - ⟨v04,kk1,rfl,rfl,⟨cs1,rfl,h7⟩,h8⟩ -;have hle:=hle.trans le2;obtain ⟨v05,v06,rfl,h9,h10⟩:=zFp h7;obtain ⟨p5,c5,rfl⟩:=h9.form;obtain ⟨p6,c6,rfl⟩:=h10.form;obtain ⟨v07,rfl,h11⟩:=yH h8;obtain ⟨p7,c7,rfl⟩:=h11.form;refine uJ zTwo ?_;intro b2 hb1;refine xI 0 (cProg y5 p5 c5 p6 c6) [hB b2 (cProg y5 p5 c5 p6 c6),hB b1 (cRd y6 p7 c7),hB b zTwo] rfl rfl rfl rfl<|yN rfl<|zE<|zF ?_;obtain ⟨⟨y8,y9⟩,hy3,hM⟩:=zC hM;refine vZ [.p (vA (cProg y5 p5 c5 p6 c6)) [0],.p (vP b1 0) [],.p (vA (cProg y5 p5 c5 p6 c6)) [0],.x (fun imm' v hx=>∃ p8 c8 p9 c9,v=vS p8 y8 c8∧hx=[hB b1 (cRd y9 p9 c9)]∧(S4 imm' p8 y8 c8)∧(S4 imm' p9 y9.b c9)),.x (fun imm' v hx=>hx=[hB b (cProg y5 p5 c5 p6 c6)])] [[],[],[],[(1,false),(2,false),(6,true)],[(0,false),(7,true)]] [hB b2 (cProg y5 p5 c5 p6 c6)] [[hB b1 (cRd y6 p7 c7)],[hB b zTwo]] [(3,true),(4,true)] (zL [0,1,2] rfl (by decide)) ?_ ?_
 · refine Op<|Op<|Op<|Ox ?_<|Ox ?_<|On
   · intro imm1 hf le1;refine zG ?_;rintro _ _ ⟨rfl,rfl⟩;refine zG ?_;rintro _ _ ⟨rfl,rfl⟩;refine zG ?_;rintro _ _ rfl;refine zN<|yG [(13,vP b1 0),(14,vA (cProg y5 p5 c5 p6 c6))] ?_;have hle:=iS imm1;have h9:=h9.mono le1;have h10:=h10.mono le1;have h11:=h11.mono le1;refine tX [hB b1 (cRd y6 p7 c7)] (hB b2 (cProg y5 p5 c5 p6 c6)::hf) (spec_l5Order_ok y6 y5 _ hy3 h11 h9 h10) ?_;rintro imm03 hs2 v2 k2 le3 - ⟨v08,kk2,rfl,rfl,h12,h13⟩ -;have h9:=h9.mono le3;have h10:=h10.mono le3;have hle:=hle.trans le3;obtain ⟨p8,c8,rfl⟩:=h12.form;obtain ⟨v09,rfl,h14⟩:=yH h13;obtain ⟨p9,c9,rfl⟩:=h14.form;exact zX (hx:=[hB b1 (cRd y9 p9 c9)]) rfl hle rfl (zM rfl) ⟨_,_,_,_,rfl,rfl,h12,h14⟩
   intro imm1 hf le1;refine zG ?_;rintro _ _ ⟨rfl,rfl⟩;refine zG ?_;rintro _ _ rfl;refine zN<|yG [(2,vP b 0),(12,vA (cProg y5 p5 c5 p6 c6))] ?_;have hle:=iS imm1;have h9:=h9.mono le1;have h10:=h10.mono le1;exact xI 0 (cProg y5 p5 c5 p6 c6) (hB b (cProg y5 p5 c5 p6 c6)::hB b2 (cProg y5 p5 c5 p6 c6)::hf) rfl rfl rfl rfl<|zX (hx:=[hB b (cProg y5 p5 c5 p6 c6)]) rfl hle rfl (zGb (v:=undef)) rfl
 intro imm04 le4;refine zG ?_;rintro _ _ ⟨p8,c8,p9,c9,rfl,rfl,h12,h14⟩;refine zG ?_;rintro _ _ rfl;refine zN<|yG [(2,vP b 0),(15,vS p8 y8 c8)] ?_;have h9:=h9.mono le4;have h10:=h10.mono le4;have hle:=hle.trans le4;refine zY [] [(3,vS p8 y8 c8)]<|zE<|yJ ?_;obtain rfl:=zD hM;exact yQ ⟨_,_,(.cell 0 rfl rfl (by kernel_rfl) (.tmp rfl ResV.nil)),zV,⟨_,_,rfl,rfl,⟨_,rfl,(oU ⟨_,_,rfl,h9,h10⟩)⟩,h12⟩⟩
def impl_isOrder_post (r:Bool):KT:=fun kk imm' hs' v=>
  ∃ v0,hs'=[]∧v=tupV [v0]∧v0=.bool r
def M.impl_isOrder_l1 (order:(List Int)) (many:Int) (met1:List Bool) (t12:Int):Option (Out Unit (Bool)):=do
 if (decide (t12 < (order.length:Int))) then
  let x←idx order t12
  let t26←(do
    let y←xT x 0 (W (many - 1))
    if (!y) then
     pure true
    else
     let x1←idx met1 x
     pure (id x1)
      : Option Bool)
  if t26 then
   pure (.ret false)
  else
   let x2←idx met1 x
   let l←pure (met1.set x.toNat true)
   M.impl_isOrder_l1 order many l (W (t12 + 1))
 else
  pure (.done ())
 partial_fixpoint
theorem impl_isOrder_l1_ok (order:(List Int)) (many:Int):∀ (met1:List Bool) (t12:Int) (o:Out Unit (Bool)),M.impl_isOrder_l1 order many met1 t12=some o→∀ {B}{imm0 imm:Imm}{Q p c p1 c1 cs1},imm0.le imm→(S4 imm p order c)→(RL imm cs1 met1)→(∀ l a w,¬Q (.goto l) a w)→(∀ a w,¬Q .outgrown a w)→(∀ (imm':Imm) ,o=(.done ())→imm0.le imm'→T 35 B Q (.exit 0) imm' [] [(0,vS p order c),(1,vI many)])→(∀ r imm' hs' m',o=(.ret r)→imm0.le imm'→RS Tryz.prog Tryz.f79 B (impl_isOrder_post  r) imm' hs' m'→T 35 B Q .ret imm' hs' m')→J Tryz.prog 35 B (nav (bodyOf Tryz.f79) [1,1,0,1,0]) Q imm [hO Bool (vS p1 met1 c1) cs1] [(0,vS p order c),(1,vI many),(5,vS p1 met1 c1),(10,vS p order c),(11,vI (order.length:Int)),(12,vI t12)]:=by
 refine M.impl_isOrder_l1.partial_correctness order many _ ?_;intro self ih met1 t12 o hM B imm0 imm Q p c p1 c1 cs1 hle h h2 hg ho hx hr;refine xF hg ho<|zF<|zB<|zY [] [(13,.bool (decide (t12 < (order.length:Int))))]<|zE<|zF<|yP hM ?_ ?_
 · intro hc hM;refine yD<|zE<|zF<|yB<|zF<|zB ?_;obtain ⟨x,hy1,hM⟩:=zC hM;refine wJ rfl rfl h hy1 ?_;intro ad ccs hat hrep;obtain rfl:=hrep;refine xX 0 hat [vI x] (vI x) rfl<|zY [] [(7,vI x)]<|zE<|zF<|zF ?_;obtain ⟨o0,ho0,hMc⟩:=zC hM;refine yT (fun imm' hs' m'=>∃ (t26:Bool),o0=t26∧imm.le imm'∧hs'=[hO Bool (vS p1 met1 c1) cs1]∧m'=[(0,vS p order c),(1,vI many),(5,vS p1 met1 c1),(7,vI x),(10,vS p order c),(11,vI (order.length:Int)),(12,vI t12),(26,.bool t26)]) ?_ ?_
   · have hle0:=hle;have hle:=iS imm;refine zB<|yK 3 [] [(16,vI x),(18,vI (W (many - 1)))] ?_;obtain ⟨y,hy2,hM⟩:=zC ho0;refine yR (wH x 0 (W (many - 1)) _ hy2 ) ?_;rintro imm01 hs2 v2 k2 le - ⟨v0,rfl,rfl,rfl⟩ -;have h:=h.mono le;have h2:=iM le h2;have hle:=hle.trans le;refine yK 6 [] [(21,.bool (!y))] ?_;cases hc1:(!y) with
     | true =>
      have hM0:=zU hc1 hM
      try rw [hc1]
      exact zY [] [(26,.bool true)]<|yU [(0,vS p order c),(1,vI many),(5,vS p1 met1 c1),(7,vI x),(10,vS p order c),(11,vI (order.length:Int)),(12,vI t12),(26,.bool true)]<|yA ⟨_,(zD hM0).symm,hle,rfl,rfl⟩
     | false =>
      have hM01:=zS hc1 hM
      try rw [hc1]
      refine yK 8 [] [(22,vS p1 met1 c1),(23,vI x)] ?_;obtain ⟨x1,hy3,hM⟩:=zC hM01;refine nH 0 rfl rfl rfl h2 hy3 ?_;intro ad1 ccs1 hat1 hcc hrep1;obtain rfl:=hrep1;exact zCz 0 0 hat1 hcc [.bool x1] (.bool x1) rfl rfl<|zY [] [(26,.bool x1)]<|yU [(0,vS p order c),(1,vI many),(5,vS p1 met1 c1),(7,vI x),(10,vS p order c),(11,vI (order.length:Int)),(12,vI t12),(26,.bool x1)]<|yA ⟨_,(zD hM).symm,hle,rfl,rfl⟩
   rintro imm0 hs2 m2 ⟨t26,heq,le1,rfl,rfl⟩;subst o0;have h:=h.mono le1;have h2:=iM le1 h2;have hle:=hle.trans le1;refine zE<|yP hMc ?_ ?_
   · intro hc2 hM;exact zF<|zB<|zY [] [(4,.bool false)]<|zE<|yJ<|zQ<|yE<|zQ<|zQ<|hr _ _ _ _ (zD hM).symm hle ⟨_,_,(.tmp rfl ResV.nil),zV,⟨_,rfl,rfl,rfl⟩⟩
   intro hc2 hM;refine yD<|zE<|zB<|yK 2 [] [(27,vS p1 met1 c1),(28,vI x)] ?_;obtain ⟨x2,hy4,hM⟩:=zC hM;refine nH 0 rfl rfl rfl h2 hy4 ?_;intro ad2 ccs2 hat2 hcc1 hrep2;obtain rfl:=hrep2;obtain ⟨l,hy5,hM⟩:=zC hM;refine qL (c:=[.bool true]) (x':=true) 0 0 rfl rfl rfl hat2 rfl rfl hcc1 (by kernel_rfl) (by kernel_rfl) (by kernel_rfl) h2 hy4 (by kernel_rfl) rfl ?_;rw [show met1.set x.toNat true=l from zD hy5];intro cs2 h4 hl0;exact mX (m':=[(0,vS p order c),(1,vI many),(5,vS p1 met1 c1),(10,vS p order c),(11,vI (order.length:Int)),(12,vI t12),(27,vS p1 met1 c1),(28,vI x)]) ⟨rfl,rfl,rfl,rfl,rfl,rfl,rfl,rfl,trivial⟩<|zBd (hs':=[hO Bool (vS p1 l c1) cs2]) (m':=[(0,vS p order c),(1,vI many),(5,vS p1 l c1),(10,vS p order c),(11,vI (order.length:Int)),(12,vI t12),(27,vS p1 l c1),(28,vI x)]) (by first | rfl | simp only [vS,hl0,List.nil_append,List.cons_append,List.set_cons_zero,List.set_cons_succ,List.eraseIdx_cons_zero,List.eraseIdx_cons_succ]) (by first | rfl | simp only [vS,hl0])<|yN rfl<|zW<|zE<|zB<|zY [] [(12,vI (W (t12 + 1)))]<|xG<|uA [(0,vS p order c),(1,vI many),(5,vS p1 l c1),(10,vS p order c),(11,vI (order.length:Int)),(12,vI (W (t12 + 1)))]<|ih l (W (t12 + 1)) _ hM hle h h4 hg ho hx hr
 intro hc hM;exact xB<|zT<|zT<|wE (zL [] rfl (by decide))<|yU [(0,vS p order c),(1,vI many)]<|hx _  (zD hM).symm hle
def M.impl_isOrder (order:(List Int)) (many:Int):Option (Bool):=do
 let met←mkrow 1 many (false:Bool)
 match←M.impl_isOrder_l1 order many met 0 with
 | .ret r0=>pure r0
 | .done _ =>
  pure ((order.length:Int) == many)
theorem impl_isOrder_ok:∀ (order:(List Int)) (many:Int) r,M.impl_isOrder order many=some r→∀ {imm:Imm}{p c},(S4 imm p order c)→Ret Tryz.prog 79 [vS p order c,vI many] imm [] (impl_isOrder_post  r):=by
 intro order many r hM imm p c h;unfold M.impl_isOrder at hM;refine yF (fn:=Tryz.f79) (c:=(bodyOf Tryz.f79)) Tryz.func79 rfl rfl ?_;rintro B - -;have hle:=iS imm;refine zF<|zB<|zY [] []<|zE<|zF<|zB<|yK 1 [] [(8,vI many)] ?_;obtain ⟨met,hy,hM⟩:=zC hM;refine R_mk 1 [.bool false] rfl hy rfl ?_;intro b cs h1;refine zY [] [(5,vS (some ⟨b,0,none⟩) met met.length)]<|zE<|zF<|zF<|zB<|zY [] [(10,vS p order c),(11,vI (order.length:Int)),(12,vI 0)]<|zE<|yB<|uA [(0,vS p order c),(1,vI many),(5,vS (some ⟨b,0,none⟩) met met.length),(10,vS p order c),(11,vI (order.length:Int)),(12,vI 0)] ?_;obtain ⟨o01,ho01,hMl⟩:=zC hM;refine impl_isOrder_l1_ok order many met 0 o01 ho01 iR h h1 (fun _ _ _ h=>h) (fun _ _ h=>h) ?_ ?_
 · intro imm02  heq1 le2;subst o01;have h:=h.mono le2;have hle:=hle.trans le2;refine yC<|zE<|zF<|zB<|zY [] [(4,.bool ((order.length:Int) == many))]<|zE<|yJ ?_;obtain rfl:=zD hMl;exact yQ ⟨_,_,(.tmp rfl ResV.nil),zV,⟨_,rfl,rfl,rfl⟩⟩
 intro r0 imm9 hs9 m9 heq9 le9 hrs9;subst heq9;refine yE<|zQ ?_;obtain rfl:=zD hMl;exact yQ hrs9
def impl_OrderValid_post (r:Bool):KT:=fun kk imm' hs' v=>
  ∃ v0,hs'=[]∧v=tupV [v0]∧v0=.bool r
def M.impl_OrderValid (p:zZ) (order:(List Int)):Option (Bool):=do
 let (y1,y2)←rQ p
 let t4←(do
   if y2 then
    let y3←M.impl_isOrder order (y1.length:Int)
    pure (id y3)
   else
    pure false
     : Option Bool)
 pure (id t4)
theorem impl_OrderValid_ok:∀ (p:zZ) (order:(List Int)) r,M.impl_OrderValid p order=some r→∀ {imm:Imm}{p1 c p2 c1 p3 c2},(S4 imm p1 p.Arrays c)→(S4 imm p2 p.Parts c1)→(S4 imm p3 order c2)→Ret Tryz.prog 32 [vA (cProg p p1 c p2 c1),vS p3 order c2] imm [] (impl_OrderValid_post  r):=by
 intro p order r hM imm p1 c p2 c1 p3 c2 h h1 h2;unfold M.impl_OrderValid at hM;refine yF (fn:=Tryz.f32) (c:=(bodyOf Tryz.f32)) Tryz.func32 rfl rfl ?_;rintro B - -;have hle:=iS imm;refine zF<|zB<|sD (cProg p p1 c p2 c1) ?_;intro b hb;refine zY [] []<|zE<|zF<|zB<|yK 1 [0] [(8,vA (cProg p p1 c p2 c1))] ?_;obtain ⟨⟨y1,y2⟩,hy,hM⟩:=zC hM;refine yR (zDc p _ hy h h1) ?_;rintro imm0 hs2 v2 k2 le - ⟨v0,v01,rfl,rfl,h3,rfl⟩ -;have h2:=h2.mono le;have h:=h.mono le;have h1:=h1.mono le;have hle:=hle.trans le;obtain ⟨p4,c3,rfl⟩:=h3.form;refine zY [] [(5,vS p4 y1 c3),(6,.bool y2)]<|zE<|zF ?_;obtain ⟨o0,ho0,hMc⟩:=zC hM;refine yT (fun imm' hs' m'=>∃ (t4:Bool),o0=t4∧imm0.le imm'∧hs'=[]∧m'=[(4,.bool t4)]) ?_ ?_
 · have hle0:=hle;have hle:=iS imm0;refine zB<|yK 2 [] [(13,.bool y2)] ?_;cases hc:y2 with
   | true =>
    have hM0:=zU hc ho0
    try rw [hc]
    refine yK 5 [] [(14,vS p3 order c2),(16,vI (y1.length:Int))] ?_;obtain ⟨y3,hy1,hM⟩:=zC hM0;refine yR (impl_isOrder_ok order (y1.length:Int) _ hy1 h2) ?_;rintro imm02 hs2 v2 k2 le1 - ⟨v02,rfl,rfl,rfl⟩ -;have h:=h.mono le1;have h1:=h1.mono le1;have hle:=hle.trans le1;exact zY [] [(4,.bool y3)]<|wE (zL [] rfl (by decide))<|yU [(4,.bool y3)]<|yA ⟨_,(zD hM).symm,hle,rfl,rfl⟩
   | false =>
    have hM01:=zS hc ho0
    try rw [hc]
    exact zY [] [(4,.bool false)]<|wE (zL [] rfl (by decide))<|yU [(4,.bool false)]<|yA ⟨_,(zD hM01).symm,hle,rfl,rfl⟩
 rintro imm01 hs2 m2 ⟨t4,heq,le2,rfl,rfl⟩;subst o0;have hle:=hle.trans le2;refine zE<|yJ ?_;obtain rfl:=zD hMc;exact yQ ⟨_,_,(.tmp rfl ResV.nil),zV,⟨_,rfl,rfl,rfl⟩⟩
def spec_l5Perm_post (r:Bool):KT:=fun kk imm' hs' v=>
  ∃ v0,hs'=[]∧v=tupV [v0]∧v0=.bool r
def M.spec_l5Perm_l1 (list:(List Int)) (n0:Int) (seen1:List Bool) (i:Int):Option (Out Unit (Bool)):=do
 if (decide (i < (list.length:Int))) then
  let t36←(do
    let x←idx list i
    if (decide (x < 0)) then
     pure true
    else
     let x1←idx list i
     if (decide (x1 ≥ n0)) then
      pure true
     else
      let x2←idx list i
      let x3←idx seen1 x2
      pure (id x3)
      : Option Bool)
  if t36 then
   pure (.ret false)
  else
   let x4←idx list i
   let x5←idx seen1 x4
   let l←pure (seen1.set x4.toNat true)
   M.spec_l5Perm_l1 list n0 l (W (i + 1))
 else
  pure (.done ())
 partial_fixpoint
theorem spec_l5Perm_l1_ok (list:(List Int)) (n0:Int):∀ (seen1:List Bool) (i:Int) (o:Out Unit (Bool)),M.spec_l5Perm_l1 list n0 seen1 i=some o→∀ {B}{imm0 imm:Imm}{Q p c p1 c1 cs1},imm0.le imm→(S4 imm p list c)→(RL imm cs1 seen1)→(∀ l a w,¬Q (.goto l) a w)→(∀ a w,¬Q .outgrown a w)→(∀ (imm':Imm) ,o=(.done ())→imm0.le imm'→T 47 B Q (.exit 0) imm' [] [(0,vS p list c),(1,vI n0)])→(∀ r imm' hs' m',o=(.ret r)→imm0.le imm'→RS Tryz.prog Tryz.f80 B (spec_l5Perm_post  r) imm' hs' m'→T 47 B Q .ret imm' hs' m')→J Tryz.prog 47 B (nav (bodyOf Tryz.f80) [1,1,0,1,0]) Q imm [hO Bool (vS p1 seen1 c1) cs1] [(0,vS p list c),(1,vI n0),(5,vS p1 seen1 c1),(6,vI i)]:=by
 refine M.spec_l5Perm_l1.partial_correctness list n0 _ ?_;intro self ih seen1 i o hM B imm0 imm Q p c p1 c1 cs1 hle h h2 hg ho hx hr;refine xF hg ho<|zF<|zF<|zB<|zY [] [(12,.bool (decide (i < (list.length:Int))))]<|zE<|yP hM ?_ ?_
 · intro hc hM;refine yD<|zE<|zF<|yB<|zF<|zF ?_;obtain ⟨o0,ho0,hMc⟩:=zC hM;refine yT (fun imm' hs' m'=>∃ (t36:Bool),o0=t36∧imm.le imm'∧hs'=[hO Bool (vS p1 seen1 c1) cs1]∧m'=[(0,vS p list c),(1,vI n0),(5,vS p1 seen1 c1),(6,vI i),(36,.bool t36)]) ?_ ?_
   · have hle0:=hle;have hle:=iS imm;refine zB<|yK 2 [] [(15,vS p list c),(16,vI i)] ?_;obtain ⟨x,hy1,hM⟩:=zC ho0;refine wJ rfl rfl h hy1 ?_;intro ad ccs hat hrep;obtain rfl:=hrep;refine xX 0 hat [vI x] (vI x) rfl<|yK 6 [] [(20,.bool (decide (x < 0)))] ?_;cases hc1:(decide (x < 0)) with
     | true =>
      have hM0:=zU hc1 hM
      try rw [hc1]
      exact zY [] [(36,.bool true)]<|yU [(0,vS p list c),(1,vI n0),(5,vS p1 seen1 c1),(6,vI i),(36,.bool true)]<|yA ⟨_,(zD hM0).symm,hle,rfl,rfl⟩
     | false =>
      have hM01:=zS hc1 hM
      try rw [hc1]
      refine yK 8 [] [(21,vS p list c),(22,vI i)] ?_;obtain ⟨x1,hy2,hM⟩:=zC hM01;refine wJ rfl rfl h hy2 ?_;intro ad1 ccs1 hat1 hrep1;obtain rfl:=hrep1;refine xX 0 hat1 [vI x1] (vI x1) rfl<|yK 14 [] [(28,.bool (decide (x1 ≥ n0)))] ?_;cases hc2:(decide (x1 ≥ n0)) with
      | true =>
       have hM02:=zU hc2 hM
       try rw [hc2]
       exact zY [] [(36,.bool true)]<|yU [(0,vS p list c),(1,vI n0),(5,vS p1 seen1 c1),(6,vI i),(36,.bool true)]<|yA ⟨_,(zD hM02).symm,hle,rfl,rfl⟩
      | false =>
       have hM03:=zS hc2 hM
       try rw [hc2]
       refine yK 17 [] [(29,vS p1 seen1 c1),(30,vS p list c),(31,vI i)] ?_;obtain ⟨x2,hy3,hM⟩:=zC hM03;refine wJ rfl rfl h hy3 ?_;intro ad2 ccs2 hat2 hrep2;obtain rfl:=hrep2;refine xX 0 hat2 [vI x2] (vI x2) rfl ?_;obtain ⟨x3,hy4,hM⟩:=zC hM;refine nH 0 rfl rfl rfl h2 hy4 ?_;intro ad3 ccs3 hat3 hcc hrep3;obtain rfl:=hrep3;exact zCz 0 0 hat3 hcc [.bool x3] (.bool x3) rfl rfl<|zY [] [(36,.bool x3)]<|yU [(0,vS p list c),(1,vI n0),(5,vS p1 seen1 c1),(6,vI i),(36,.bool x3)]<|yA ⟨_,(zD hM).symm,hle,rfl,rfl⟩
   rintro imm0 hs2 m2 ⟨t36,heq,le,rfl,rfl⟩;subst o0;have h:=h.mono le;have h2:=iM le h2;have hle:=hle.trans le;refine zE<|yP hMc ?_ ?_
   · intro hc3 hM;exact zF<|zB<|zY [] [(4,.bool false)]<|zE<|yJ<|zQ<|yE<|zQ<|zQ<|hr _ _ _ _ (zD hM).symm hle ⟨_,_,(.tmp rfl ResV.nil),zV,⟨_,rfl,rfl,rfl⟩⟩
   intro hc3 hM;refine yD<|zE<|zB<|yK 3 [] [(37,vS p1 seen1 c1),(38,vS p list c),(39,vI i)] ?_;obtain ⟨x4,hy5,hM⟩:=zC hM;refine wJ rfl rfl h hy5 ?_;intro ad4 ccs4 hat4 hrep4;obtain rfl:=hrep4;refine xX 0 hat4 [vI x4] (vI x4) rfl ?_;obtain ⟨x5,hy6,hM⟩:=zC hM;refine nH 0 rfl rfl rfl h2 hy6 ?_;intro ad5 ccs5 hat5 hcc1 hrep5;obtain rfl:=hrep5;obtain ⟨l,hy7,hM⟩:=zC hM;refine qL (c:=[.bool true]) (x':=true) 0 0 rfl rfl rfl hat5 rfl rfl hcc1 (by kernel_rfl) (by kernel_rfl) (by kernel_rfl) h2 hy6 (by kernel_rfl) rfl ?_;rw [show seen1.set x4.toNat true=l from zD hy7];intro cs2 h3 hl0;exact mX (m':=[(0,vS p list c),(1,vI n0),(5,vS p1 seen1 c1),(6,vI i),(37,vS p1 seen1 c1),(38,vS p list c),(39,vI i),(40,.pointer (some ad4)),(41,vI x4)]) ⟨rfl,rfl,rfl,rfl,rfl,rfl,rfl,rfl,rfl,trivial⟩<|zBd (hs':=[hO Bool (vS p1 l c1) cs2]) (m':=[(0,vS p list c),(1,vI n0),(5,vS p1 l c1),(6,vI i),(37,vS p1 l c1),(38,vS p list c),(39,vI i),(40,.pointer (some ad4)),(41,vI x4)]) (by first | rfl | simp only [vS,hl0,List.nil_append,List.cons_append,List.set_cons_zero,List.set_cons_succ,List.eraseIdx_cons_zero,List.eraseIdx_cons_succ]) (by first | rfl | simp only [vS,hl0])<|yN rfl<|zW<|zE<|zB<|zY [] [(6,vI (W (i + 1)))]<|xG<|uA [(0,vS p list c),(1,vI n0),(5,vS p1 l c1),(6,vI (W (i + 1)))]<|ih l (W (i + 1)) _ hM hle h h3 hg ho hx hr
 intro hc hM;exact xB<|zT<|zT<|wE (zL [] rfl (by decide))<|yU [(0,vS p list c),(1,vI n0)]<|hx _  (zD hM).symm hle
def M.spec_l5Perm (list:(List Int)) (n0:Int):Option (Bool):=do
 let seen←mkrow 1 n0 (false:Bool)
 match←M.spec_l5Perm_l1 list n0 seen 0 with
 | .ret r0=>pure r0
 | .done _ =>
  pure ((list.length:Int) == n0)
theorem spec_l5Perm_ok:∀ (list:(List Int)) (n0:Int) r,M.spec_l5Perm list n0=some r→∀ {imm:Imm}{p c},(S4 imm p list c)→Ret Tryz.prog 80 [vS p list c,vI n0] imm [] (spec_l5Perm_post  r):=by
 intro list n0 r hM imm p c h;unfold M.spec_l5Perm at hM;refine yF (fn:=Tryz.f80) (c:=(bodyOf Tryz.f80)) Tryz.func80 rfl rfl ?_;rintro B - -;have hle:=iS imm;refine zF<|zB<|zY [] []<|zE<|zF<|zB<|yK 1 [] [(7,vI n0)] ?_;obtain ⟨seen,hy,hM⟩:=zC hM;refine R_mk 1 [.bool false] rfl hy rfl ?_;intro b cs h1;refine zY [] [(5,vS (some ⟨b,0,none⟩) seen seen.length)]<|zE<|zF<|zF<|zB<|zY [] [(6,vI 0)]<|zE<|yB<|uA [(0,vS p list c),(1,vI n0),(5,vS (some ⟨b,0,none⟩) seen seen.length),(6,vI 0)] ?_;obtain ⟨o01,ho01,hMl⟩:=zC hM;refine spec_l5Perm_l1_ok list n0 seen 0 o01 ho01 iR h h1 (fun _ _ _ h=>h) (fun _ _ h=>h) ?_ ?_
 · intro imm01  heq1 le1;subst o01;have h:=h.mono le1;have hle:=hle.trans le1;refine yC<|zE<|zF<|zB<|zY [] [(4,.bool ((list.length:Int) == n0))]<|zE<|yJ ?_;obtain rfl:=zD hMl;exact yQ ⟨_,_,(.tmp rfl ResV.nil),zV,⟨_,rfl,rfl,rfl⟩⟩
 intro r0 imm9 hs9 m9 heq9 le9 hrs9;subst heq9;refine yE<|zQ ?_;obtain rfl:=zD hMl;exact yQ hrs9
def spec_OrderValid_post (r:Bool):KT:=fun kk imm' hs' v=>
  ∃ v0,hs'=[]∧v=tupV [v0]∧v0=.bool r
def M.spec_OrderValid (p:zZ) (order:(List Int)):Option (Bool):=do
 let t4←(do
   let y←tE p
   if y then
    let y1←M.spec_l4Instances p
    let y2←M.spec_l5Perm order (y1.length:Int)
    pure (id y2)
   else
    pure false
     : Option Bool)
 pure (id t4)
theorem spec_OrderValid_ok:∀ (p:zZ) (order:(List Int)) r,M.spec_OrderValid p order=some r→∀ {imm:Imm}{p1 c p2 c1 p3 c2},(S4 imm p1 p.Arrays c)→(S4 imm p2 p.Parts c1)→(S4 imm p3 order c2)→Ret Tryz.prog 33 [vA (cProg p p1 c p2 c1),vS p3 order c2] imm [] (spec_OrderValid_post  r):=by
 intro p order r hM imm p1 c p2 c1 p3 c2 h h1 h2;unfold M.spec_OrderValid at hM;refine yF (fn:=Tryz.f33) (c:=(bodyOf Tryz.f33)) Tryz.func33 rfl rfl ?_;rintro B - -;have hle:=iS imm;refine zF<|zB<|sD (cProg p p1 c p2 c1) ?_;intro b hb;refine zY [] []<|zE<|zF ?_;obtain ⟨o0,ho0,hMc⟩:=zC hM;refine yT (fun imm' hs' m'=>∃ (t4:Bool),o0=t4∧imm.le imm'∧hs'=[]∧m'=[(4,.bool t4)]) ?_ ?_
 · have hle0:=hle;have hle:=iS imm;refine zB<|yK 1 [0] [(5,vA (cProg p p1 c p2 c1))] ?_;obtain ⟨y,hy,hM⟩:=zC ho0;refine yR (eU p _ hy h h1) ?_;rintro imm01 hs2 v2 k2 le - ⟨v0,rfl,rfl,rfl⟩ -;have h2:=h2.mono le;have h:=h.mono le;have h1:=h1.mono le;have hle:=hle.trans le;refine yK 3 [] [(7,.bool y)] ?_;cases hc:y with
   | true =>
    have hM0:=zU hc hM
    try rw [hc]
    refine yK 5 [0] [(8,vS p3 order c2),(9,vA (cProg p p1 c p2 c1))] ?_;obtain ⟨y1,hy1,hM⟩:=zC hM0;refine yR (spec_l4Instances_ok p _ hy1 h h1) ?_;rintro imm02 hs2 v2 k2 le1 - ⟨v01,rfl,rfl,h4⟩ -;have h2:=h2.mono le1;have h:=h.mono le1;have h1:=h1.mono le1;have hle:=hle.trans le1;obtain ⟨p4,c3,rfl⟩:=h4.form;refine yK 7 [] [(11,vI (y1.length:Int))] ?_;obtain ⟨y2,hy2,hM⟩:=zC hM;refine yR (spec_l5Perm_ok order (y1.length:Int) _ hy2 h2) ?_;rintro imm03 hs2 v2 k2 le2 - ⟨v02,rfl,rfl,rfl⟩ -;have h:=h.mono le2;have h1:=h1.mono le2;have hle:=hle.trans le2;exact zY [] [(4,.bool y2)]<|wE (zL [] rfl (by decide))<|yU [(4,.bool y2)]<|yA ⟨_,(zD hM).symm,hle,rfl,rfl⟩
   | false =>
    have hM01:=zS hc hM
    try rw [hc]
    exact zY [] [(4,.bool false)]<|wE (zL [] rfl (by decide))<|yU [(4,.bool false)]<|yA ⟨_,(zD hM01).symm,hle,rfl,rfl⟩
 rintro imm0 hs2 m2 ⟨t4,heq,le3,rfl,rfl⟩;subst o0;have hle:=hle.trans le3;refine zE<|yJ ?_;obtain rfl:=zD hMc;exact yQ ⟨_,_,(.tmp rfl ResV.nil),zV,⟨_,rfl,rfl,rfl⟩⟩
def laws_FnOrderValid_post (r:Bool):KT:=fun kk imm' hs' v=>
  ∃ v0,hs'=[]∧v=tupV [v0]∧v0=.bool r
def M.laws_FnOrderValid (code:(List UInt8)) (more:(List UInt8)):Option (Bool):=do
 let t18←(do
   if (decide ((code.length:Int) > 1048576)) then
    pure true
   else
    pure (decide ((more.length:Int) > 1048576))
     : Option Bool)
 if t18 then
  pure true
 else
  let (y1,y2)←M.spec_DrawOrderValid code
  let y3←M.impl_OrderValid y1 y2
  let t40←(do
    let y4←M.spec_OrderValid y1 y2
    if (!(y3 == y4)) then
     pure true
    else
     if (!y3) then
      pure true
     else
      pure (decide ((y2.length:Int) < 2))
      : Option Bool)
  if t40 then
   let y5←M.spec_OrderValid y1 y2
   pure (y3 == y5)
  else
   let q←rem (more.length:Int) (W ((y2.length:Int) - 1))
   let x←app 8 ([]:List Int) y2
   let x1←idx y2 (W (q + 1))
   let x2←idx x q
   let l←pure (x.set q.toNat x1)
   let x3←idx y2 q
   let x4←idx l (W (q + 1))
   let l1←pure (l.set (W (q + 1)).toNat x3)
   let y6←app 8 ([]:List Int) y2
   let x5←idx y6 (W (q + 1))
   let x6←idx y6 q
   let l2←pure (y6.set q.toNat x5)
   let t4←(do
     let y7←M.impl_OrderValid y1 l1
     if y7 then
      let y8←M.impl_OrderValid y1 l2
      if (!y8) then
       let y9←M.impl_ProgramInstances y1
       pure ((y2.length:Int) == (y9.length:Int))
      else
       pure false
     else
      pure false
       : Option Bool)
   pure (id t4)
theorem laws_FnOrderValid_ok:∀ (code:(List UInt8)) (more:(List UInt8)) r,M.laws_FnOrderValid code more=some r→∀ {imm:Imm}{p c p1 c1},(S4 imm p code c)→(S4 imm p1 more c1)→Ret Tryz.prog 9 [vS p code c,vS p1 more c1] imm [] (laws_FnOrderValid_post  r):=by
 intro code more r hM imm p c p1 c1 h h1;unfold M.laws_FnOrderValid at hM;refine yF (fn:=Tryz.f9) (c:=(bodyOf Tryz.f9)) Tryz.func9 rfl rfl ?_;rintro B - -;have hle:=iS imm;refine zF<|zB<|zY [] []<|zE<|zF<|zF ?_;obtain ⟨o0,ho0,hMc⟩:=zC hM;refine yT (fun imm' hs' m'=>∃ (t18:Bool),o0=t18∧imm.le imm'∧hs'=[]∧m'=[(0,vS p code c),(1,vS p1 more c1),(18,.bool t18)]) ?_ ?_
 · have hle0:=hle;have hle:=iS imm;refine zB<|yK 4 [] [(14,.bool (decide ((code.length:Int) > 1048576)))] ?_;cases hc:(decide ((code.length:Int) > 1048576)) with
   | true =>
    have hM0:=zU hc ho0
    try rw [hc]
    exact zY [] [(18,.bool true)]<|yU [(0,vS p code c),(1,vS p1 more c1),(18,.bool true)]<|yA ⟨_,(zD hM0).symm,hle,rfl,rfl⟩
   | false =>
    have hM01:=zS hc ho0
    try rw [hc]
    exact zY [] [(18,.bool (decide ((more.length:Int) > 1048576)))]<|yU [(0,vS p code c),(1,vS p1 more c1),(18,.bool (decide ((more.length:Int) > 1048576)))]<|yA ⟨_,(zD hM01).symm,hle,rfl,rfl⟩
 rintro imm0 hs2 m2 ⟨t18,heq,le,rfl,rfl⟩;subst o0;have h:=h.mono le;have h1:=h1.mono le;have hle:=hle.trans le;refine zE<|yP hMc ?_ ?_
 · intro hc1 hM;refine zF<|zB<|zY [] [(4,.bool true)]<|zE<|yJ<|zQ ?_;obtain rfl:=zD hM;exact yQ ⟨_,_,(.tmp rfl ResV.nil),zV,⟨_,rfl,rfl,rfl⟩⟩
 intro hc1 hM;refine yD<|zE<|zF<|zB<|yK 1 [] [(20,vS p code c)] ?_;obtain ⟨⟨y1,y2⟩,hy,hM⟩:=zC hM;refine yR (spec_DrawOrderValid_ok code _ hy h) ?_;rintro imm01 hs2 v2 k2 le1 - ⟨v0,v01,rfl,rfl,⟨cs,rfl,h2⟩,h3⟩ -;have h1:=h1.mono le1;have hle:=hle.trans le1;obtain ⟨v02,v03,rfl,h4,h5⟩:=zFp h2;obtain ⟨p2,c2,rfl⟩:=h4.form;obtain ⟨p3,c3,rfl⟩:=h5.form;obtain ⟨p4,c4,rfl⟩:=h3.form;refine yK 5 [] [(22,vA (cProg y1 p2 c2 p3 c3)),(23,vS p4 y2 c4)]<|uJ zTwo ?_;intro b hb;refine xI 0 (cProg y1 p2 c2 p3 c3) [hB b (cProg y1 p2 c2 p3 c3)] rfl rfl rfl rfl<|zY [] [(6,vS p4 y2 c4)]<|zE<|zF<|zB<|yK 2 [0] [(24,vA (cProg y1 p2 c2 p3 c3)),(25,vS p4 y2 c4)] ?_;obtain ⟨y3,hy1,hM⟩:=zC hM;refine yR (impl_OrderValid_ok y1 y2 _ hy1 h4 h5 h3) ?_;rintro imm02 hs2 v2 k2 le2 - ⟨v04,rfl,rfl,rfl⟩ -;have h1:=h1.mono le2;have h3:=h3.mono le2;have h4:=h4.mono le2;have h5:=h5.mono le2;have hle:=hle.trans le2;refine zY [] [(7,.bool y3)]<|zE<|zF<|zF ?_;obtain ⟨o01,ho01,hMc1⟩:=zC hM;refine yT (fun imm' hs' m'=>∃ (t40:Bool),o01=t40∧imm02.le imm'∧hs'=[hB b (cProg y1 p2 c2 p3 c3)]∧m'=[(1,vS p1 more c1),(5,vP b 0),(6,vS p4 y2 c4),(7,.bool y3),(40,.bool t40)]) ?_ ?_
 · have hle01:=hle;have hle:=iS imm02;refine zB<|yK 3 [0] [(27,.bool y3),(28,vA (cProg y1 p2 c2 p3 c3)),(29,vS p4 y2 c4)] ?_;obtain ⟨y4,hy2,hM⟩:=zC ho01;refine yR (spec_OrderValid_ok y1 y2 _ hy2 h4 h5 h3) ?_;rintro imm04 hs2 v2 k2 le3 - ⟨v05,rfl,rfl,rfl⟩ -;have h1:=h1.mono le3;have h3:=h3.mono le3;have h4:=h4.mono le3;have h5:=h5.mono le3;have hle:=hle.trans le3;refine yK 6 [] [(32,.bool (!(y3 == y4)))] ?_;cases hc2:(!(y3 == y4)) with
   | true =>
    have hM02:=zU hc2 hM
    try rw [hc2]
    exact zY [] [(40,.bool true)]<|yU [(1,vS p1 more c1),(5,vP b 0),(6,vS p4 y2 c4),(7,.bool y3),(40,.bool true)]<|yA ⟨_,(zD hM02).symm,hle,rfl,rfl⟩
   | false =>
    have hM03:=zS hc2 hM
    try rw [hc2]
    refine yK 10 [] [(36,.bool (!y3))] ?_;cases hc3:(!y3) with
    | true =>
     have hM04:=zU hc3 hM03
     try rw [hc3]
     exact zY [] [(40,.bool true)]<|yU [(1,vS p1 more c1),(5,vP b 0),(6,vS p4 y2 c4),(7,.bool y3),(40,.bool true)]<|yA ⟨_,(zD hM04).symm,hle,rfl,rfl⟩
    | false =>
     have hM05:=zS hc3 hM03
     try rw [hc3]
     exact zY [] [(40,.bool (decide ((y2.length:Int) < 2)))]<|yU [(1,vS p1 more c1),(5,vP b 0),(6,vS p4 y2 c4),(7,.bool y3),(40,.bool (decide ((y2.length:Int) < 2)))]<|yA ⟨_,(zD hM05).symm,hle,rfl,rfl⟩
 rintro imm03 hs2 m2 ⟨t40,heq1,le4,rfl,rfl⟩;subst o01;have h1:=h1.mono le4;have h3:=h3.mono le4;have h4:=h4.mono le4;have h5:=h5.mono le4;have hle:=hle.trans le4;refine zE<|yP hMc1 ?_ ?_
 · intro hc4 hM;refine zF<|zB<|yK 3 [0] [(41,.bool y3),(42,vA (cProg y1 p2 c2 p3 c3)),(43,vS p4 y2 c4)] ?_;obtain ⟨y5,hy3,hM⟩:=zC hM;refine yR (spec_OrderValid_ok y1 y2 _ hy3 h4 h5 h3) ?_;rintro imm05 hs2 v2 k2 le5 - ⟨v06,rfl,rfl,rfl⟩ -;have h4:=h4.mono le5;have h5:=h5.mono le5;have hle:=hle.trans le5;refine zY [] [(4,.bool (y3 == y5))]<|zE<|yJ<|zQ ?_;obtain rfl:=zD hM;exact yQ ⟨_,_,(.tmp rfl ResV.nil),zV,⟨_,rfl,rfl,rfl⟩⟩
 intro hc4 hM;refine yD<|zE<|zF<|zB<|yK 5 [] [(47,vI (more.length:Int)),(50,vI (W ((y2.length:Int) - 1)))] ?_;obtain ⟨q,hy4,hM⟩:=zC hM;refine zIS rfl hy4<|zY [] [(8,vI q)]<|zE<|zF<|zB<|xY [] Int ?_;intro b1 hb1;have h9:RL imm03 [] ([]:List Int):=rfl;refine yK 2 [] [(53,vS p4 y2 c4)] ?_;obtain ⟨ccs,k0,k01⟩:=h3;have h3:SL imm03 (vS p4 y2 c4) y2:=⟨_,k0,k01⟩;obtain ⟨x,hy5,hM⟩:=zC hM;refine qS 3 1 0 rfl rfl rfl h9 (.inl k0) k01 hy5 ?_;intro p5 c5 cs1 h10;refine qC (zL [0,1] (hs':=[hO Int (vS p5 x c5) cs1,hB b (cProg y1 p2 c2 p3 c3)]) rfl (by decide))<|zY [] [(9,vS p5 x c5)]<|zE<|zF<|zB<|yK 5 [] [(55,vS p5 x c5),(56,vI q),(57,vS p4 y2 c4),(59,vI (W (q + 1)))] ?_;obtain ⟨x1,hy6,hM⟩:=zC hM;refine wJ rfl rfl h3 hy6 ?_;intro ad ccs1 hat hrep;obtain rfl:=hrep;refine xX 0 hat [vI x1] (vI x1) rfl ?_;obtain ⟨x2,hy7,hM⟩:=zC hM;refine nH 0 rfl rfl rfl h10 hy7 ?_;intro ad1 ccs2 hat1 hcc hrep1;obtain rfl:=hrep1;obtain ⟨l,hy8,hM⟩:=zC hM;refine qL (c:=[vI x1]) (x':=x1) 0 0 rfl rfl rfl hat1 rfl rfl hcc (by kernel_rfl) (by kernel_rfl) (by kernel_rfl) h10 hy7 (by kernel_rfl) rfl ?_;rw [show x.set q.toNat x1=l from zD hy8];intro cs2 h11 hl0;refine mX (m':=[(5,vP b 0),(6,vS p4 y2 c4),(8,vI q),(9,vS p5 x c5),(55,vS p5 x c5),(56,vI q),(57,vS p4 y2 c4),(59,vI (W (q + 1))),(60,.pointer (some ad)),(61,vI x1)]) ⟨rfl,rfl,rfl,rfl,rfl,rfl,rfl,rfl,rfl,rfl,trivial⟩<|zBd (hs':=[hO Int (vS p5 l c5) cs2,hB b (cProg y1 p2 c2 p3 c3)]) (m':=[(5,vP b 0),(6,vS p4 y2 c4),(8,vI q),(9,vS p5 l c5),(55,vS p5 l c5),(56,vI q),(57,vS p4 y2 c4),(59,vI (W (q + 1))),(60,.pointer (some ad)),(61,vI x1)]) (by first | rfl | simp only [vS,hl0,List.nil_append,List.cons_append,List.set_cons_zero,List.set_cons_succ,List.eraseIdx_cons_zero,List.eraseIdx_cons_succ]) (by first | rfl | simp only [vS,hl0])<|yN rfl<|zE<|zF<|zB<|yK 5 [] [(63,vS p5 l c5),(65,vI (W (q + 1))),(66,vS p4 y2 c4),(67,vI q)] ?_;obtain ⟨x3,hy9,hM⟩:=zC hM;refine wJ rfl rfl h3 hy9 ?_;intro ad2 ccs3 hat2 hrep2;obtain rfl:=hrep2;refine xX 0 hat2 [vI x3] (vI x3) rfl ?_;obtain ⟨x4,hy10,hM⟩:=zC hM;refine nH 0 rfl rfl rfl h11 hy10 ?_;intro ad3 ccs4 hat3 hcc1 hrep3;obtain rfl:=hrep3;obtain ⟨l1,hy11,hM⟩:=zC hM;refine qL (c:=[vI x3]) (x':=x3) 0 0 rfl rfl rfl hat3 rfl rfl hcc1 (by kernel_rfl) (by kernel_rfl) (by kernel_rfl) h11 hy10 (by kernel_rfl) rfl ?_;rw [show l.set (W (q + 1)).toNat x3=l1 from zD hy11];intro cs3 h12 hl01;refine mX (m':=[(5,vP b 0),(6,vS p4 y2 c4),(8,vI q),(9,vS p5 l c5),(63,vS p5 l c5),(65,vI (W (q + 1))),(66,vS p4 y2 c4),(67,vI q),(68,.pointer (some ad2)),(69,vI x3)]) ⟨rfl,rfl,rfl,rfl,rfl,rfl,rfl,rfl,rfl,rfl,trivial⟩<|zBd (hs':=[hO Int (vS p5 l1 c5) cs3,hB b (cProg y1 p2 c2 p3 c3)]) (m':=[(5,vP b 0),(6,vS p4 y2 c4),(8,vI q),(9,vS p5 l1 c5),(63,vS p5 l1 c5),(65,vI (W (q + 1))),(66,vS p4 y2 c4),(67,vI q),(68,.pointer (some ad2)),(69,vI x3)]) (by first | rfl | simp only [vS,hl01,List.nil_append,List.cons_append,List.set_cons_zero,List.set_cons_succ,List.eraseIdx_cons_zero,List.eraseIdx_cons_succ]) (by first | rfl | simp only [vS,hl01])<|yN rfl<|zE<|zF<|zB<|xY [] Int ?_;intro b2 hb2;have h13:RL imm03 [] ([]:List Int):=rfl;refine yK 2 [] [(72,vS p4 y2 c4)] ?_;obtain ⟨ccs5,k02,k03⟩:=h3;have h3:SL imm03 (vS p4 y2 c4) y2:=⟨_,k02,k03⟩;obtain ⟨y6,hy12,hM⟩:=zC hM;refine qS 3 1 0 rfl rfl rfl h13 (.inl k02) k03 hy12 ?_;intro p6 c6 cs4 h14;refine qC (zL [0,1,2] (hs':=[hO Int (vS p6 y6 c6) cs4,hO Int (vS p5 l1 c5) cs3,hB b (cProg y1 p2 c2 p3 c3)]) rfl (by decide))<|zY [] [(10,vS p6 y6 c6)]<|zE<|zF<|zB<|yK 5 [] [(74,vS p6 y6 c6),(75,vI q),(76,vS p6 y6 c6),(78,vI (W (q + 1)))] ?_;obtain ⟨x5,hy13,hM⟩:=zC hM;refine nH 0 rfl rfl rfl h14 hy13 ?_;intro ad4 ccs6 hat4 hcc2 hrep4;obtain rfl:=hrep4;refine zCz 0 0 hat4 hcc2 [vI x5] (vI x5) rfl rfl ?_;obtain ⟨x6,hy14,hM⟩:=zC hM;refine nH 0 rfl rfl rfl h14 hy14 ?_;intro ad5 ccs7 hat5 hcc3 hrep5;obtain rfl:=hrep5;obtain ⟨l2,hy15,hM⟩:=zC hM;refine qL (c:=[vI x5]) (x':=x5) 0 0 rfl rfl rfl hat5 rfl rfl hcc3 (by kernel_rfl) (by kernel_rfl) (by kernel_rfl) h14 hy14 (by kernel_rfl) rfl ?_;rw [show y6.set q.toNat x5=l2 from zD hy15];intro cs5 h15 hl02;refine mX (m':=[(5,vP b 0),(6,vS p4 y2 c4),(9,vS p5 l1 c5),(10,vS p6 y6 c6),(74,vS p6 y6 c6),(75,vI q),(76,vS p6 y6 c6),(78,vI (W (q + 1))),(80,vI x5)]) ⟨rfl,rfl,rfl,rfl,rfl,rfl,rfl,rfl,rfl,trivial⟩<|zBd (hs':=[hO Int (vS p6 l2 c6) cs5,hO Int (vS p5 l1 c5) cs3,hB b (cProg y1 p2 c2 p3 c3)]) (m':=[(5,vP b 0),(6,vS p4 y2 c4),(9,vS p5 l1 c5),(10,vS p6 l2 c6),(74,vS p6 l2 c6),(75,vI q),(76,vS p6 l2 c6),(78,vI (W (q + 1))),(80,vI x5)]) (by first | rfl | simp only [vS,hl02,List.nil_append,List.cons_append,List.set_cons_zero,List.set_cons_succ,List.eraseIdx_cons_zero,List.eraseIdx_cons_succ]) (by first | rfl | simp only [vS,hl02])<|yN rfl<|zE<|zF ?_;obtain ⟨o02,ho02,hMc2⟩:=zC hM;refine yT (fun imm' hs' m'=>∃ (t4:Bool),o02=t4∧imm03.le imm'∧hs'=[]∧m'=[(4,.bool t4)]) ?_ ?_
 · have hle02:=hle;have hle:=iS imm03;refine zB<|yK 2 [2] [(82,vA (cProg y1 p2 c2 p3 c3)),(83,vS p5 l1 c5)]<|yL 1 rfl ?_;intro imm07 le6 hl03;have h16:=SL.of_frozen hl03 le6 h12;have h3:=h3.mono le6;have h15:=iM le6 h15;have h4:=h4.mono le6;have h5:=h5.mono le6;have hle:=hle.trans le6;obtain ⟨y7,hy16,hM⟩:=zC ho02;refine yR (impl_OrderValid_ok y1 l1 _ hy16 h4 h5 h16) ?_;rintro imm08 hs2 v2 k2 le7 - ⟨v07,rfl,rfl,rfl⟩ -;have h3:=h3.mono le7;have h15:=iM le7 h15;have h4:=h4.mono le7;have h5:=h5.mono le7;have hle:=hle.trans le7;refine yK 4 [] [(85,.bool y7)] ?_;cases hc5:y7 with
   | true =>
    have hM06:=zU hc5 hM
    try rw [hc5]
    refine yK 6 [1] [(86,vA (cProg y1 p2 c2 p3 c3)),(87,vS p6 l2 c6)]<|yL 0 rfl ?_;intro imm09 le8 hl04;have h18:=SL.of_frozen hl04 le8 h15;have h3:=h3.mono le8;have h4:=h4.mono le8;have h5:=h5.mono le8;have hle:=hle.trans le8;obtain ⟨y8,hy17,hM⟩:=zC hM06;refine yR (impl_OrderValid_ok y1 l2 _ hy17 h4 h5 h18) ?_;rintro imm010 hs2 v2 k2 le9 - ⟨v08,rfl,rfl,rfl⟩ -;have h3:=h3.mono le9;have h4:=h4.mono le9;have h5:=h5.mono le9;have hle:=hle.trans le9;refine yK 10 [] [(91,.bool (!y8))] ?_;cases hc6:(!y8) with
    | true =>
     have hM07:=zU hc6 hM
     try rw [hc6]
     refine yK 13 [0] [(93,vI (y2.length:Int)),(94,vA (cProg y1 p2 c2 p3 c3))] ?_;obtain ⟨y9,hy18,hM⟩:=zC hM07;refine yR (impl_ProgramInstances_ok y1 _ hy18 h4 h5) ?_;rintro imm011 hs2 v2 k2 le10 - ⟨v09,rfl,rfl,h20⟩ -;have h4:=h4.mono le10;have h5:=h5.mono le10;have hle:=hle.trans le10;obtain ⟨p7,c7,rfl⟩:=h20.form;exact zY [] [(4,.bool ((y2.length:Int) == (y9.length:Int)))]<|wE (zL [] rfl (by decide))<|yU [(4,.bool ((y2.length:Int) == (y9.length:Int)))]<|yA ⟨_,(zD hM).symm,hle,rfl,rfl⟩
    | false =>
     have hM08:=zS hc6 hM
     try rw [hc6]
     exact zY [] [(4,.bool false)]<|wE (zL [] rfl (by decide))<|yU [(4,.bool false)]<|yA ⟨_,(zD hM08).symm,hle,rfl,rfl⟩
   | false =>
    have hM09:=zS hc5 hM
    try rw [hc5]
    exact zY [] [(4,.bool false)]<|wE (zL [] rfl (by decide))<|yU [(4,.bool false)]<|yA ⟨_,(zD hM09).symm,hle,rfl,rfl⟩
 rintro imm06 hs2 m2 ⟨t4,heq2,le11,rfl,rfl⟩;subst o02;have hle:=hle.trans le11;refine zE<|yJ ?_;obtain rfl:=zD hMc2;exact yQ ⟨_,_,(.tmp rfl ResV.nil),zV,⟨_,rfl,rfl,rfl⟩⟩
end Go.LN
namespace Go.LN
theorem l4Instances_l3_aux (p : zZ) (i : Int) (y : List (List Int)) (k0 : Int) (q : zP) (b : Nat) (h0 : VP q) (h1 : 0 ≤ i) (h2 : i < (p.Parts.length : Int)) (h3 : p.Parts[i.toNat]? = some q) (h4 : y.length ≤ 121) (h5 : ∀ q ∈ y, q.length ≤ 4) (h6 : 0 ≤ k0) (h7 : k0 < (y.length : Int)) : ∀ (k : Nat) (out : List yI) (s : Int), Tot (M.spec_l4Instances_l3 p i y k0 out s) ((q.Body.length : Int) - s < (k : Int) ∧ 0 < (k : Int) ∧ 0 ≤ s ∧ s ≤ (q.Body.length : Int) ∧ (out.length : Int) ≤ b + s ∧ b ≤ 100000 ∧ (∀ x ∈ out, InI p x)) (fun φ => ∀ r, r.length ≤ b + 4 → (∀ x ∈ r, InI p x) → φ r) := by
  obtain ⟨h01, h02, h03⟩ := h0
  intro k
  induction k with
  | zero => intro out s; exact ⟨fun h => absurd h.2.1 (by omega)⟩
  | succ k ih =>
    intro out s; refine ⟨?_⟩; rintro ⟨v0, v1, v2, v3, v4, v5, v6⟩ φ hk; unfold M.spec_l4Instances_l3
    refine Ok.idx_known h3 h1 ?_
    refine Ok.ite_dec (fun hs => ?_) fun hs => ?_
    · refine Ok.idx (by omega) (by omega) fun x hx _ => ?_
      have hx4 := h5 x hx
      refine Ok.app S ?_
      refine Ok.app (by simp only [List.length_append, List.length_cons, List.length_nil]; omega) ?_
      have hI : InI p (yI.mk i s ([] ++ x)) := InI.mk h1 h2 h3 v2 (by omega)
      have hW : W (s + 1) = s + 1 := sR (by omega) (by omega)
      rw [hW]
      exact Ok.go
    · exact Ok.go
theorem l4Instances_l3_tot (p : zZ) (i : Int) (y : List (List Int)) (k0 : Int) (q : zP) (b : Nat) (out : List yI) (s : Int) : Tot (M.spec_l4Instances_l3 p i y k0 out s) (VP q ∧ 0 ≤ i ∧ i < (p.Parts.length : Int) ∧ p.Parts[i.toNat]? = some q ∧ y.length ≤ 121 ∧ (∀ q ∈ y, q.length ≤ 4) ∧ 0 ≤ k0 ∧ k0 < (y.length : Int) ∧ 0 ≤ s ∧ s ≤ (q.Body.length : Int) ∧ (out.length : Int) ≤ b + s ∧ b ≤ 100000 ∧ (∀ x ∈ out, InI p x)) (fun φ => ∀ r, r.length ≤ b + 4 → (∀ x ∈ r, InI p x) → φ r) := ⟨by
  rintro ⟨h0, h1, h2, h3, h4, h5, h6, h7, v0, v1, v2, v3, v4⟩ φ hk
  exact (l4Instances_l3_aux p i y k0 q b h0 h1 h2 h3 h4 h5 h6 h7 (((q.Body.length : Int) - s).toNat + 1) out s).ok ⟨by omega, by omega, v0, v1, v2, v3, v4⟩ φ hk⟩
theorem l4Instances_l2_aux (p : zZ) (i : Int) (y : List (List Int)) (q : zP) (b : Nat) (h0 : VP q) (h1 : 0 ≤ i) (h2 : i < (p.Parts.length : Int)) (h3 : p.Parts[i.toNat]? = some q) (h4 : y.length ≤ 121) (h5 : ∀ q ∈ y, q.length ≤ 4) : ∀ (k : Nat) (out : List yI) (k0 : Int), Tot (M.spec_l4Instances_l2 p i y out k0) ((y.length : Int) - k0 < (k : Int) ∧ 0 < (k : Int) ∧ 0 ≤ k0 ∧ k0 ≤ (y.length : Int) ∧ (out.length : Int) ≤ b + 4 * k0 ∧ b ≤ 10000 ∧ (∀ x ∈ out, InI p x)) (fun φ => ∀ r, r.length ≤ b + 484 → (∀ x ∈ r, InI p x) → φ r) := by
  intro k
  induction k with
  | zero => intro out k0; exact ⟨fun h => absurd h.2.1 (by omega)⟩
  | succ k ih =>
    intro out k0; refine ⟨?_⟩; rintro ⟨v0, v1, v2, v3, v4, v5, v6⟩ φ hk; unfold M.spec_l4Instances_l2
    have tl := fun o kk => l4Instances_l3_tot p i y kk q o.length o 0
    exact Ok.go
theorem l4Instances_l2_tot (p : zZ) (i : Int) (y : List (List Int)) (q : zP) (b : Nat) (out : List yI) (k0 : Int) : Tot (M.spec_l4Instances_l2 p i y out k0) (VP q ∧ 0 ≤ i ∧ i < (p.Parts.length : Int) ∧ p.Parts[i.toNat]? = some q ∧ y.length ≤ 121 ∧ (∀ q ∈ y, q.length ≤ 4) ∧ 0 ≤ k0 ∧ k0 ≤ (y.length : Int) ∧ (out.length : Int) ≤ b + 4 * k0 ∧ b ≤ 10000 ∧ (∀ x ∈ out, InI p x)) (fun φ => ∀ r, r.length ≤ b + 484 → (∀ x ∈ r, InI p x) → φ r) := ⟨by
  rintro ⟨h0, h1, h2, h3, h4, h5, v0, v1, v2, v3, v4⟩ φ hk
  exact (l4Instances_l2_aux p i y q b h0 h1 h2 h3 h4 h5 (((y.length : Int) - k0).toNat + 1) out k0).ok ⟨by omega, by omega, v0, v1, v2, v3, v4⟩ φ hk⟩
theorem l4Instances_l1_aux (p : zZ) (h0 : SG 1000 p) (h1 : VG p) : ∀ (k : Nat) (out : List yI) (i : Int), Tot (M.spec_l4Instances_l1 p out i) ((p.Parts.length : Int) - i < (k : Int) ∧ 0 < (k : Int) ∧ 0 ≤ i ∧ i ≤ (p.Parts.length : Int) ∧ (out.length : Int) ≤ 484 * i ∧ (∀ x ∈ out, InI p x)) (fun φ => ∀ r, r.length ≤ 2000 → (∀ x ∈ r, InI p x) → φ r) := by
  obtain ⟨⟨h00, h01⟩, h02, h03⟩ := id h0; obtain ⟨h10, h11, h12⟩ := id h1
  intro k
  induction k with
  | zero => intro out i; exact ⟨fun h => absurd h.2.1 (by omega)⟩
  | succ k ih =>
    intro out i; refine ⟨?_⟩; rintro ⟨v0, v1, v2, v3, v4, v5⟩ φ hk; unfold M.spec_l4Instances_l1
    refine Ok.ite_dec (fun hs => ?_) fun hs => ?_
    · refine Ok.idx (by omega) (by omega) fun q hq hqi => ?_
      have tl := fun y o => l4Instances_l2_tot p i y q o.length o 0
      have s1 := (h03 q hq).1
      obtain ⟨s2, s3, s4⟩ := h12 q hq
      have s5 : VP q := ⟨s2, s3, s4⟩
      exact Ok.go
    · exact Ok.go
instance l4Instances_l1_tot (p : zZ) (out : List yI) (i : Int) : Tot (M.spec_l4Instances_l1 p out i) (SG 1000 p ∧ VG p ∧ 0 ≤ i ∧ i ≤ (p.Parts.length : Int) ∧ (out.length : Int) ≤ 484 * i ∧ (∀ x ∈ out, InI p x)) (fun φ => ∀ r, r.length ≤ 2000 → (∀ x ∈ r, InI p x) → φ r) := ⟨by
  rintro ⟨h0, h1, v0, v1, v2, v3⟩ φ hk
  exact (l4Instances_l1_aux p h0 h1 (((p.Parts.length : Int) - i).toNat + 1) out i).ok ⟨by omega, by omega, v0, v1, v2, v3⟩ φ hk⟩
instance l4Instances_tot (p : zZ) : Tot (M.spec_l4Instances p) (SG 1000 p ∧ VG p) (fun φ => ∀ r, r.length ≤ 2000 → (∀ x ∈ r, InI p x) → φ r) := ⟨by
  rintro ⟨h0, h1⟩ φ hk
  unfold M.spec_l4Instances
  exact Ok.go⟩
end Go.LN
namespace Go.LN
theorem implInstP (P : zZ) (h : BG P) : M.impl_ProgramInstances P = some (if validP P then progI P else []) := by
  unfold M.impl_ProgramInstances validP
  rw [implInstances P h]
  cases progB P with
  | false => rfl
  | true => cases hd : decide ((progI P).length ≤ 120) <;> simp [hd]
end Go.LN
