/- Helper of the proof (see the last text). -/
import Derived.Test.YtgempbddefdamaaGreatLnA
import Derived.Test.YtgempbddefdamaaGreatLnI
import Derived.Test.YtgempbddefdamaaGreatLnP
import Derived.Test.YtgempbddefdamaaGreatTryzShelf
import Derived.Test.YtgempbddefdamaaGreatHM1
import Derived.Test.YtgempbddefdamaaGreatHM2
import Derived.Test.YtgempbddefdamaaGreatHM3
import Derived.Test.YtgempbddefdamaaGreatHM4
import Derived.Test.YtgempbddefdamaaGreatHM5
import Derived.Test.YtgempbddefdamaaGreatHM6
import Derived.Test.YtgempbddefdamaaGreatHM7
import Derived.Test.YtgempbddefdamaaGreatHM8
import Derived.Test.YtgempbddefdamaaGreatQT
import Derived.Test.YtgempbddefdamaaGreatQZ
import Derived.Test.YtgempbddefdamaaGreatVB1
import Derived.Test.YtgempbddefdamaaGreatVB8
import Derived.Test.YtgempbddefdamaaGreatLnR
set_option linter.unusedVariables false
set_option linter.unusedSimpArgs false
namespace Go.LN
def mkrow {α:Type} (bytes:Nat) (k:Int) (z:α):Option (List α):=if 0 ≤ k∧k.toNat * bytes ≤ 140737488355328 then some (List.replicate k.toNat z) else none
def zrow (z:Array Value) (k:Nat):List Value:=(List.range k).map fun i=>z[i % z.size]!
theorem zrow_one (z:Array Value) (k:Nat) (h:0 < z.size):(List.range z.size).map (fun i=>z[(k * z.size + i) % z.size]!)=z.toList:=by
  refine List.ext_getElem (by simp) fun i h1 h2=>?_;have hi:i < z.size:=by simpa using h1
  simp only [List.getElem_map,List.getElem_range,Array.getElem_toList];have e:(k * z.size + i) % z.size=i:=by rw [Nat.add_comm,Nat.mul_comm,Nat.add_mul_mod_self_left,Nat.mod_eq_of_lt hi]
  rw [e];exact getElem!_pos z i hi
theorem zrow_rep {α:Type}{ρ:List Value→α→Prop}{z:Array Value}{a:α} (hz:0 < z.size) (h:ρ z.toList a):∀ k,RepL ρ z.size (zrow z (k * z.size)) (List.replicate k a)
  | 0=>by simp [zrow,RepL]
  | k + 1=>by
    have e:zrow z ((k + 1) * z.size)=zrow z (k * z.size) ++ z.toList:=by
      unfold zrow
      rw [Nat.succ_mul,List.range_add,List.map_append,List.map_map]
      congr 1
      exact zrow_one z k hz
    rw [e,List.replicate_succ']
    exact (zrow_rep hz h k).append (.single (by simp) h)
section
variable {P:Program}{n:Nat}{B:Base}{Q:Exit→Act→World→Prop}{imm:Imm}{hs:List HA}{m:FM}{ops:List Oper}{pc d:Nat}{ty:TypeId}{pos:String}{after:Array Edge}{g:Option (Nat×Bool)}
def mkT (P:Program) (t:TypeId):Option (Nat×Nat×List Value) :=
  match elemOfT P t with
  | some e=>match sizeT P e,bytesT P e,zeroC P e with
    | some s,some b,some z=>bif Nat.beq z.size s && Nat.blt 0 b then some (s,b,z.toList) else none
    | _,_,_=>none
  | none=>none
theorem R_mk {α:Type} [Rp α] {t:TypeId}{x y:Operand}{k:Int}{a:α}{l:List α} (by':Nat) (z:List Value) (ho:ops[pc]?=some ⟨some d,.makeSlice t x y,ty,pos,after,g⟩) (hk:mkrow by' k a=some l) (hr:Rp.rep imm z a)
    (next:∀ b cs,RL imm cs l→R P n B ops Q (pc + 1) imm (.osl (.slice (some ⟨b,0,none⟩) l.length l.length) (Rp.sz α) cs::hs) ((d,.slice (some ⟨b,0,none⟩) l.length l.length)::m))
    (hg:guardB ops m g=some true:=by kernel_rfl) (hn:Nat.blt d n=true:=by kernel_rfl) (hx:val m x=some (.int .i64 k):=by kernel_rfl) (hy:val m y=some (.int .i64 k):=by kernel_rfl) (ht:mkT P t=some (Rp.sz α,by',z):=by kernel_rfl) :
    R P n B ops Q pc imm hs m:=by
  refine nG ho hg rfl hn fun ac w f gd=>?_
  unfold mkrow at hk
  split at hk
  · rename_i hk0
    cases hk
    obtain ⟨hk0,hkb⟩:=hk0
    unfold mkT at ht
    cases he:elemOfT P t with
    | none=>rw [he] at ht; cases ht
    | some e =>
      rw [he] at ht
      simp only at ht
      split at ht
      · rename_i s b zc h1 h2 h3
        cases hq:Nat.beq zc.size s && Nat.blt 0 b with
        | false=>rw [hq] at ht; cases ht
        | true =>
          rw [hq] at ht
          simp only [cond_true,Option.some.injEq,Prod.mk.injEq] at ht
          obtain ⟨rfl,rfl,rfl⟩:=ht
          rw [Bool.and_eq_true] at hq
          have hzs:=Nat.eq_of_beq_eq_true hq.1
          have hb0:0 < b:=by simpa using hq.2
          have hu:P.underlying t=some (.slice e):=by
            unfold elemOfT at he
            split at he <;> simp_all
          cases hie:P.info? e with
          | none=>simp [sizeT,hie] at h1
          | some ie =>
          have hsz':ie.size=Rp.sz α:=by simpa [sizeT,hie] using h1
          have hby':ie.bytes=b:=by simpa [bytesT,hie] using h2
          obtain ⟨zv,hz1,hz2⟩:=gR (w:=w) h3
          have hpos:0 < zc.size:=by rw [hzs]; exact Rp.pos
          have hkk:(k.toNat:Int)=k:=Int.toNat_of_nonneg hk0
          have hle:k.toNat ≤ k.toNat * b:=Nat.le_mul_of_pos_right _ hb0
          have hwr:IntKind.i64.wrap k=k:=by rw [IntKind.wrap_i64]; omega
          have hmul:((ie.bytes:Int) * k) ≤ 140737488355328:=by
            rw [← hkk,hby',← Int.natCast_mul,Nat.mul_comm]
            exact Int.ofNat_le.2 hkb
          have hnt:¬(k < 0):=by omega
          have hnb:¬((ie.bytes:Int) * k > 2 ^ 48):=by omega
          let row:Array Value:=if k.toNat * Rp.sz α=0 then #[] else (Array.range (k.toNat * Rp.sz α)).map (fun i=>zc[i % zc.size]!)
          have hrow:(((Array.range (k.toNat * ie.size)).map fun i=>(if k.toNat * ie.size=0 then #[] else zc)[i % (if k.toNat * ie.size=0 then (#[]:Array Value) else zc).size]!))=⟨zrow zc (k.toNat * zc.size)⟩:=by
            rw [hsz',← hzs]
            apply Array.ext'
            by_cases h0:k.toNat * zc.size=0
            · simp [h0,zrow]
            · simp [h0,zrow]
          have hlen:(zrow zc (k.toNat * zc.size)).length=k.toNat * Rp.sz α:=by simp [zrow,hzs]
          have hg:=gd.alloc_osl ⟨zrow zc (k.toNat * zc.size)⟩ e (Rp.sz α) k.toNat k.toNat (zrow zc (k.toNat * zc.size)) (by show _ ≤ (zrow _ _).length; rw [hlen]; exact Nat.le_refl _) (Nat.le_refl _) (by rw [← hlen]; exact List.take_length) hlen (by omega)
          have hll:(List.replicate k.toNat a).length=k.toNat:=List.length_replicate
          rw [hll] at next
          refine ⟨_,_,imm,_,?_,hg,next w.heap.size _ ?_⟩
          · simp only [execOp,f.eval hx,f.eval hy,Instr.makeSlice,Sem.run_bind,xH hu,Result.andThen_ok,asInt,asIntOf,Sem.run_pure,typeInfo,run_program,hie,hwr,hnt,hnb,decide_false,Bool.false_or,Bool.false_eq_true,false_or,or_self,if_false,Int.lt_irrefl,
              gt_iff_lt,run_askRoom,qU h1]
            by_cases h0:k.toNat * Rp.sz α=0
            · have:=hrow
              rw [hsz'] at this
              simp only [h0,if_true] at this ⊢
              simp only [Sem.run_pure,Result.andThen_ok,newRow,run_newObj,Sem.run_bind,this]
            · have:=hrow
              rw [hsz'] at this
              simp only [h0,if_false] at this ⊢
              simp only [Sem.run_bind,hz1,hz2,Sem.run_pure,Result.andThen_ok,newRow,run_newObj,this]
          · have:=zrow_rep (z:=zc) (a:=a) hpos hr k.toNat
            rw [hzs] at this
            show RepL _ _ _ _
            rw [hzs]
            exact this
      · cases ht
  · cases hk
end
section
variable {P:Program}{n:Nat}{B:Base}{Q:Exit→Act→World→Prop}{imm:Imm}{hs:List HA}{m:FM}{ops:List Oper}{pc d:Nat}{ty:TypeId}{pos:String}{after:Array Edge}{g:Option (Nat×Bool)}
end
end Go.LN
namespace Go.LN
open Go.Proofs
set_option maxRecDepth 20000
def spec_DrawProgramValid_post (r:zV):KT:=fun kk imm' hs' v=>
  ∃ v0,hs'=[]∧v=tupV [v0]∧(∃ cs,v0=.agg ⟨cs⟩∧Rp.rep imm' cs r)
def M.spec_DrawProgramValid (code:(List UInt8)):Option (zV):=do
 let y←mH code
 let (y2,y3)←kI y
 let (y5,y6)←qD y3 y2
 pure (id y5)
theorem spec_DrawProgramValid_ok:∀ (code:(List UInt8)) r,M.spec_DrawProgramValid code=some r→∀ {imm:Imm}{p c},(S4 imm p code c)→Ret Tryz.prog 35 [vS p code c] imm [] (spec_DrawProgramValid_post  r):=by
 intro code r hM imm p c h;unfold M.spec_DrawProgramValid at hM;refine yG (fn:=Tryz.f35) (c:=(bodyOf Tryz.f35)) Tryz.func35 rfl rfl ?_;rintro B - -;refine zF<|zB<|uD zTwo ?_;intro b hb;refine yN rfl<|zE<|zF<|zB<|yK 1 [] [(4,vS p code c)] ?_;obtain ⟨y,hy,hM⟩:=zC hM;refine yR (zHG code _ hy h) ?_;rintro imm0 hs2 v2 k2 le - ⟨b1,p1,c1,rfl,rfl,h1⟩ -;refine yA [] [(3,vP b1 0)]<|zE<|zF<|zB<|yK 2 [] [(6,vP b1 0),(7,vP b1 0)] ?_;obtain ⟨⟨y2,y3⟩,hy1,hM⟩:=zC hM;refine sD [hB b1 (cRd y p1 c1)] [hB b zTwo] (zHb y _ hy1 h1) ?_;rintro imm01 hs2 v2 k2 le1 - ⟨v0,kk,rfl,rfl,⟨cs,rfl,h2⟩,h3⟩ -;obtain ⟨v01,v02,rfl,h4,h5⟩:=zG6 h2;obtain ⟨p2,c2,rfl⟩:=h4.form;obtain ⟨p3,c3,rfl⟩:=h5.form;obtain ⟨v03,rfl,h6⟩:=yI h3;obtain ⟨p4,c4,rfl⟩:=h6.form;obtain ⟨⟨y5,y6⟩,hy2,hM⟩:=zC hM;refine sD [hB b1 (cRd y3 p4 c4)] [hB b zTwo] (zGs y3 y2 _ hy2 h6 h4 h5) ?_;rintro imm02 hs2 v2 k2 le2 - ⟨v04,kk1,rfl,rfl,⟨cs1,rfl,h7⟩,h8⟩ -;obtain ⟨v05,v06,rfl,h9,h10⟩:=zG6 h7;obtain ⟨p5,c5,rfl⟩:=h9.form;obtain ⟨p6,c6,rfl⟩:=h10.form;obtain ⟨v07,rfl,h11⟩:=yI h8;obtain ⟨p7,c7,rfl⟩:=h11.form;refine xJ 1 (cProg y5 p5 c5 p6 c6) [hB b1 (cRd y6 p7 c7),hB b (cProg y5 p5 c5 p6 c6)] rfl rfl rfl rfl<|yN rfl<|zE<|yJ ?_;obtain rfl:=zD hM;exact yQ ⟨_,_,(.cell 1 rfl rfl (by kernel_rfl) ResV.nil),zX,⟨_,rfl,rfl,⟨_,rfl,(nH ⟨_,_,rfl,h9,h10⟩)⟩⟩⟩
end Go.LN
namespace Go.LN
open Go.Proofs
set_option maxRecDepth 20000
def impl_Program_cells_post (r:Int):KT:=fun kk imm' hs' v=>
  ∃ v0,hs'=[]∧v=tupV [v0]∧v0=.int .i64 r
def M.impl_Program_cells_l1 (p:zV) (n0:Int) (t9:Int):Option (Int):=do
 if (decide (t9 < (p.Arrays.length:Int))) then
  let x←idx p.Arrays t9
  let y←pT x
  M.impl_Program_cells_l1 p (W (n0 + y)) (W (t9 + 1))
 else
  pure (id n0)
 partial_fixpoint
theorem impl_Program_cells_l1_ok (p:zV):∀ (n0:Int) (t9:Int) (o:Int),M.impl_Program_cells_l1 p n0 t9=some o→∀ {B}{imm0 imm:Imm}{Q p1 c},imm0.le imm→(S4 imm p1 p.Arrays c)→(∀ gl a w,¬Q (.goto gl) a w)→(∀ a w,¬Q .outgrown a w)→(∀ (imm':Imm) (n01:Int),o=n01→imm0.le imm'→T 19 B Q (.exit 0) imm' [] [(3,vI n01)])→J Tryz.prog 19 B (nav (bodyOf Tryz.f37) [1,1,0,1,0]) Q imm [] [(3,vI n0),(7,vS p1 p.Arrays c),(8,vI (p.Arrays.length:Int)),(9,vI t9)]:=by
 refine M.impl_Program_cells_l1.partial_correctness p _ ?_;intro self ih n0 t9 o hM B imm0 imm Q p1 c hle h hg ho hx;refine xC hg ho<|zF<|zB<|yA [] [(10,.bool (decide (t9 < (p.Arrays.length:Int))))]<|zE<|zF<|yO hM ?_ ?_
 · intro hc hM;refine yE<|zE<|zF<|yC<|zF<|zB ?_;obtain ⟨x,hy,hM⟩:=zC hM;refine wJ rfl rfl h hy ?_;intro ad ccs hat hrep;obtain ⟨v0,rfl,h2⟩:=xZ hrep;obtain ⟨p3,c2,rfl⟩:=h2.form;refine xS 0 hat (cArr x p3 c2) (vA (cArr x p3 c2)) rfl<|uD [vT ([]),z0] ?_;intro b1 hb1;refine xJ 0 (cArr x p3 c2) [hB b1 (cArr x p3 c2)] rfl rfl rfl rfl<|yN rfl<|zE<|zB<|yK 2 [0] [(13,vI n0),(14,vA (cArr x p3 c2))] ?_;obtain ⟨y,hy1,hM⟩:=zC hM;refine yR (zBL x _ hy1 h2) ?_;rintro imm0 hs2 v2 k2 le - ⟨v01,rfl,rfl,rfl⟩ -;have h:=h.mono le;have hle:=hle.trans le;exact yA [] [(3,vI (W (n0 + y)))]<|zY<|zE<|zB<|yA [] [(9,vI (W (t9 + 1)))]<|xD<|qA (zK [] rfl (by decide))<|vQ [(3,vI (W (n0 + y))),(7,vS p1 p.Arrays c),(8,vI (p.Arrays.length:Int)),(9,vI (W (t9 + 1)))]<|ih (W (n0 + y)) (W (t9 + 1)) _ hM hle h hg ho hx
 intro hc hM;exact xA<|zS<|zS<|yT [(3,vI n0)]<|hx _ _ (zD hM).symm hle
def M.impl_Program_cells (p:zV):Option (Int):=do
 let n01←M.impl_Program_cells_l1 p 0 0
 pure (id n01)
theorem impl_Program_cells_ok:∀ (p:zV) r,M.impl_Program_cells p=some r→∀ {imm:Imm}{p1 c p2 c1},(S4 imm p1 p.Arrays c)→(S4 imm p2 p.Parts c1)→Ret Tryz.prog 37 [vA (cProg p p1 c p2 c1)] imm [] (impl_Program_cells_post  r):=by
 intro p r hM imm p1 c p2 c1 h h1;unfold M.impl_Program_cells at hM;refine yG (fn:=Tryz.f37) (c:=(bodyOf Tryz.f37)) Tryz.func37 rfl rfl ?_;rintro B - -;refine zF<|zB<|tR (cProg p p1 c p2 c1) ?_;intro b hb;refine yA [] []<|zE<|zF<|zB<|yA [] [(3,vI 0)]<|zE<|zF<|zF<|zB<|yA [0] [(7,vS p1 p.Arrays c),(8,vI (p.Arrays.length:Int)),(9,vI 0)]<|zE<|yC<|qA (zK [] (hs':=[]) rfl (by decide))<|vQ [(3,vI 0),(7,vS p1 p.Arrays c),(8,vI (p.Arrays.length:Int)),(9,vI 0)] ?_;obtain ⟨o0,ho0,hMl⟩:=zC hM;refine impl_Program_cells_l1_ok p 0 0 o0 ho0 iR h (fun _ _ _ h=>h) (fun _ _ h=>h) ?_;intro imm01 n01 heq le1;subst o0;refine yD<|zE<|zF<|zB<|yA [] [(2,vI n01)]<|zE<|yJ ?_;obtain rfl:=zD hMl;exact yQ ⟨_,_,(.tmp rfl ResV.nil),zX,⟨_,rfl,rfl,rfl⟩⟩
def impl_chosen_post (r:(List Int)):KT:=fun kk imm' hs' v=>
  ∃ v0,hs'=[]∧v=tupV [v0]∧SL imm' v0 r
def M.impl_chosen_l1 (list:(List Bool)) (out:List Int) (t8:Int):Option (List Int):=do
 if (decide (t8 < (list.length:Int))) then
  let x←idx list t8
  let out2←(do
    if x then
     let out3←app 8 out ([t8]:List Int)
     pure (id out3)
    else
     pure (id out)
      : Option (List Int))
  M.impl_chosen_l1 list out2 (W (t8 + 1))
 else
  pure (id out)
 partial_fixpoint
theorem impl_chosen_l1_ok (list:(List Bool)):∀ (out:List Int) (t8:Int) (o:List Int),M.impl_chosen_l1 list out t8=some o→∀ {B}{imm0 imm:Imm}{Q p c p1 c1 cs},imm0.le imm→(S4 imm p list c)→(RL imm cs out)→(∀ gl a w,¬Q (.goto gl) a w)→(∀ a w,¬Q .outgrown a w)→(∀ (imm':Imm) (out1:List Int) (p2:Option Addr) (c2:Nat) (cs1:List Value),o=out1→imm0.le imm'→(RL imm' cs1 out1)→T 20 B Q (.exit 0) imm' [hO Int (vS p2 out1 c2) cs1] [(3,vS p2 out1 c2)])→J Tryz.prog 20 B (nav (bodyOf Tryz.f39) [1,1,0,1,0]) Q imm [hO Int (vS p1 out c1) cs] [(3,vS p1 out c1),(6,vS p list c),(7,vI (list.length:Int)),(8,vI t8)]:=by
 refine M.impl_chosen_l1.partial_correctness list _ ?_;intro self ih out t8 o hM B imm0 imm Q p c p1 c1 cs hle h h2 hg ho hx;refine xC hg ho<|zF<|zB<|yA [] [(9,.bool (decide (t8 < (list.length:Int))))]<|zE<|zF<|yO hM ?_ ?_
 · intro hc hM;refine yE<|zE<|zF<|yC<|zF<|zB<|yK 1 [] [(10,vI t8)] ?_;obtain ⟨x,hy,hM⟩:=zC hM;refine wJ rfl rfl h hy ?_;intro ad ccs hat hrep;obtain rfl:=hrep;refine xS 0 hat [.bool x] (.bool x) rfl<|yA [] [(4,vI t8),(5,.bool x)]<|zE<|zF<|zB<|yA [] [(13,.bool x)]<|zE ?_;obtain ⟨o0,ho0,hMc⟩:=zC hM;refine yU (fun imm' hs' m'=>∃ (out2:List Int) (p3:Option Addr) (c3:Nat) (cs2:List Value),o0=out2∧imm.le imm'∧(RL imm' cs2 out2)∧hs'=[hO Int (vS p3 out2 c3) cs2]∧m'=[(3,vS p3 out2 c3),(6,vS p list c),(7,vI (list.length:Int)),(8,vI t8)]) ?_ ?_
   · have hle:=iS imm;refine yO ho0 ?_ ?_
     · intro hc1 hM;refine zB<|yK 2 [] [(14,vS p1 out c1),(15,vI t8)]<|xQ [vI t8] Int ?_;intro b hb;have h5:RL imm [vI t8] ([t8]:List Int):=⟨[vI t8],_,rfl,rfl,rfl,rfl⟩;obtain ⟨out3,hy1,hM⟩:=zC hM;refine qI 3 1 1 rfl rfl rfl h2 (.inr ⟨0,rfl⟩) h5 hy1 ?_;intro p4 c4 cs3 h6;exact rX (zK [1] (hs':=[hO Int (vS p4 out3 c4) cs3]) rfl (by decide))<|yA [] [(3,vS p4 out3 c4)]<|yT [(3,vS p4 out3 c4),(6,vS p list c),(7,vI (list.length:Int)),(8,vI t8)]<|yB ⟨_,_,_,_,(zD hM).symm,hle,h6,rfl,rfl⟩
     intro hc1 hM;exact yE<|yT [(3,vS p1 out c1),(6,vS p list c),(7,vI (list.length:Int)),(8,vI t8)]<|yB ⟨_,_,_,_,(zD hM).symm,hle,h2,rfl,rfl⟩
   rintro imm0 hs2 m2 ⟨out2,p3,c3,cs2,heq,le,h4,rfl,rfl⟩;subst o0;have h:=h.mono le;have hle:=hle.trans le;exact zY<|zE<|zB<|yA [] [(8,vI (W (t8 + 1)))]<|xD<|vQ [(3,vS p3 out2 c3),(6,vS p list c),(7,vI (list.length:Int)),(8,vI (W (t8 + 1)))]<|ih out2 (W (t8 + 1)) _ hMc hle h h4 hg ho hx
 intro hc hM;exact xA<|zS<|zS<|yT [(3,vS p1 out c1)]<|hx _ _ _ _ _ (zD hM).symm hle h2
def M.impl_chosen (list:(List Bool)):Option ((List Int)):=do
 let out1←M.impl_chosen_l1 list ([]:List Int) 0
 pure (id out1)
theorem impl_chosen_ok:∀ (list:(List Bool)) r,M.impl_chosen list=some r→∀ {imm:Imm}{p c},(S4 imm p list c)→Ret Tryz.prog 39 [vS p list c] imm [] (impl_chosen_post  r):=by
 intro list r hM imm p c h;unfold M.impl_chosen at hM;refine yG (fn:=Tryz.f39) (c:=(bodyOf Tryz.f39)) Tryz.func39 rfl rfl ?_;rintro B - -;refine zF<|zB<|yA [] []<|zE<|zF<|zB<|yA [] [(3,z0)]<|zE<|zF<|zF<|zB<|yA [] [(6,vS p list c),(7,vI (list.length:Int)),(8,vI 0)]<|zE<|yC<|vQ [(3,z0),(6,vS p list c),(7,vI (list.length:Int)),(8,vI 0)]<|qA (uI (Rp.sz Int)) ?_;have h1:RL imm [] ([]:List Int):=RepL.nil;obtain ⟨o01,ho01,hMl⟩:=zC hM;refine impl_chosen_l1_ok list ([]:List Int) 0 o01 ho01 iR h h1 (fun _ _ _ h=>h) (fun _ _ h=>h) ?_;intro imm01 out1 p2 c2 cs1 heq1 le1 h3;subst o01;refine yD<|zE<|zF<|zB<|yA [] [(2,vS p2 out1 c2)]<|zE<|yJ<|xI 0 rfl ?_;intro imm02 le2 hl0;have h7:=SL.of_frozen hl0 le2 h3;obtain rfl:=zD hMl;exact yQ ⟨_,_,(.tmp rfl ResV.nil),zX,⟨_,rfl,rfl,h7⟩⟩
def laws_lnInts_post (r:Bool):KT:=fun kk imm' hs' v=>
  ∃ v0,hs'=[]∧v=tupV [v0]∧v0=.bool r
def M.laws_lnInts_l1 (a0:(List Int)) (b:(List Int)) (i:Int):Option (Out Unit (Bool)):=do
 if (decide (i < (a0.length:Int))) then
  let x←idx a0 i
  let x1←idx b i
  if (x != x1) then
   pure (.ret false)
  else
   M.laws_lnInts_l1 a0 b (W (i + 1))
 else
  pure (.done ())
 partial_fixpoint
theorem laws_lnInts_l1_ok (a0:(List Int)) (b:(List Int)):∀ (i:Int) (o:Out Unit (Bool)),M.laws_lnInts_l1 a0 b i=some o→∀ {B}{imm0 imm:Imm}{Q p c p1 c1},imm0.le imm→(S4 imm p a0 c)→(S4 imm p1 b c1)→(∀ gl a w,¬Q (.goto gl) a w)→(∀ a w,¬Q .outgrown a w)→(∀ (imm':Imm) ,o=(.done ())→imm0.le imm'→T 26 B Q (.exit 0) imm' [] [])→(∀ r imm' hs' m',o=(.ret r)→imm0.le imm'→RS Tryz.prog Tryz.f12 B (laws_lnInts_post  r) imm' hs' m'→T 26 B Q .ret imm' hs' m')→J Tryz.prog 26 B (nav (bodyOf Tryz.f12) [1,1,0,1,0]) Q imm [] [(0,vS p a0 c),(1,vS p1 b c1),(5,vI i)]:=by
 refine M.laws_lnInts_l1.partial_correctness a0 b _ ?_;intro self ih i o hM B imm0 imm Q p c p1 c1 hle h h1 hg ho hx hr;refine xC hg ho<|zF<|zF<|zB<|yA [] [(14,.bool (decide (i < (a0.length:Int))))]<|zE<|yO hM ?_ ?_
 · intro hc1 hM;refine yE<|zE<|zF<|yC<|zF<|jF (by kernel_rfl) (by kernel_rfl)<|eU 2 [] [(17,vS p a0 c),(18,vI i)] ?_;obtain ⟨x,hy,hM⟩:=zC hM;refine zDb rfl rfl h hy ?_;intro ad ccs hat hrep;obtain rfl:=hrep;refine zDa 0 hat [vI x] (vI x) rfl<|eU 6 [] [(21,vS p1 b c1),(22,vI i)] ?_;obtain ⟨x1,hy1,hM⟩:=zC hM;refine zDb rfl rfl h1 hy1 ?_;intro ad1 ccs1 hat1 hrep1;obtain rfl:=hrep1;refine zDa 0 hat1 [vI x1] (vI x1) rfl<|zCt [] [(25,.bool (x != x1))]<|zE<|yO hM ?_ ?_
   · intro hc2 hM;exact zF<|zB<|yA [] [(4,.bool false)]<|zE<|yJ<|yF<|zR<|zR<|hr _ _ _ _ (zD hM).symm hle ⟨_,_,(.tmp rfl ResV.nil),zX,⟨_,rfl,rfl,rfl⟩⟩
   intro hc2 hM;exact yE<|zY<|zE<|zB<|yA [] [(5,vI (W (i + 1)))]<|xD<|vQ [(0,vS p a0 c),(1,vS p1 b c1),(5,vI (W (i + 1)))]<|ih (W (i + 1)) _ hM hle h h1 hg ho hx hr
 intro hc1 hM;exact xA<|zS<|zS<|yT []<|hx _  (zD hM).symm hle
def M.laws_lnInts (a0:(List Int)) (b:(List Int)):Option (Bool):=do
 if ((a0.length:Int) != (b.length:Int)) then
  pure false
 else
  match←M.laws_lnInts_l1 a0 b 0 with
  | .ret r0=>pure r0
  | .done _ =>
   pure true
theorem laws_lnInts_ok:∀ (a0:(List Int)) (b:(List Int)) r,M.laws_lnInts a0 b=some r→∀ {imm:Imm}{p c p1 c1},(S4 imm p a0 c)→(S4 imm p1 b c1)→Ret Tryz.prog 12 [vS p a0 c,vS p1 b c1] imm [] (laws_lnInts_post  r):=by
 intro a0 b r hM imm p c p1 c1 h h1;unfold M.laws_lnInts at hM;refine yG (fn:=Tryz.f12) (c:=(bodyOf Tryz.f12)) Tryz.func12 rfl rfl ?_;rintro B - -;refine zF<|zB<|yA [] []<|zE<|zF<|zF<|zB<|yA [] [(10,.bool ((a0.length:Int) != (b.length:Int)))]<|zE<|yO hM ?_ ?_
 · intro hc hM;refine zF<|zB<|yA [] [(4,.bool false)]<|zE<|yJ<|zR ?_;obtain rfl:=zD hM;exact yQ ⟨_,_,(.tmp rfl ResV.nil),zX,⟨_,rfl,rfl,rfl⟩⟩
 intro hc hM;refine yE<|zE<|zF<|zF<|zB<|yA [] [(5,vI 0)]<|zE<|yC<|vQ [(0,vS p a0 c),(1,vS p1 b c1),(5,vI 0)] ?_;obtain ⟨o0,ho0,hMl⟩:=zC hM;refine laws_lnInts_l1_ok a0 b 0 o0 ho0 iR h h1 (fun _ _ _ h=>h) (fun _ _ h=>h) ?_ ?_
 · intro imm0  heq le;subst o0;refine yD<|zE<|zF<|zB<|yA [] [(4,.bool true)]<|zE<|yJ ?_;obtain rfl:=zD hMl;exact yQ ⟨_,_,(.tmp rfl ResV.nil),zX,⟨_,rfl,rfl,rfl⟩⟩
 intro r0 imm9 hs9 m9 heq9 le9 hrs9;subst heq9;refine yF<|zR ?_;obtain rfl:=zD hMl;exact yQ hrs9
def spec_l4Total_post (r:Int):KT:=fun kk imm' hs' v=>
  ∃ v0,hs'=[]∧v=tupV [v0]∧v0=.int .i64 r
def M.spec_l4Total_l1 (p:zV) (n0:Int) (i:Int):Option (Int):=do
 if (decide (i < (p.Arrays.length:Int))) then
  let x←idx p.Arrays i
  let y←pY x
  M.spec_l4Total_l1 p (W (n0 + y)) (W (i + 1))
 else
  pure (id n0)
 partial_fixpoint
theorem spec_l4Total_l1_ok (p:zV):∀ (n0:Int) (i:Int) (o:Int),M.spec_l4Total_l1 p n0 i=some o→∀ {B}{imm0 imm:Imm}{Q p1 c p2 c1}{b:Nat},imm0.le imm→(S4 imm p1 p.Arrays c)→(S4 imm p2 p.Parts c1)→(∀ gl a w,¬Q (.goto gl) a w)→(∀ a w,¬Q .outgrown a w)→(∀ (imm':Imm) (n01:Int),o=n01→imm0.le imm'→T 21 B Q (.exit 0) imm' [] [(3,vI n01)])→J Tryz.prog 21 B (nav (bodyOf Tryz.f41) [1,1,0,1,0]) Q imm [hB b (cProg p p1 c p2 c1)] [(1,vP b 0),(3,vI n0),(4,vI i)]:=by
 refine M.spec_l4Total_l1.partial_correctness p _ ?_;intro self ih n0 i o hM B imm0 imm Q p1 c p2 c1 b hle h h1 hg ho hx;refine xC hg ho<|zF<|zF<|zB<|yA [0] [(9,.bool (decide (i < (p.Arrays.length:Int))))]<|zE<|yO hM ?_ ?_
 · intro hc hM;refine yE<|zE<|zF<|yC<|zB<|yK 4 [0] [(12,vI n0),(14,vS p1 p.Arrays c),(15,vI i)] ?_;obtain ⟨x,hy,hM⟩:=zC hM;refine wJ rfl rfl h hy ?_;intro ad ccs hat hrep;obtain ⟨v0,rfl,h2⟩:=xZ hrep;obtain ⟨p3,c2,rfl⟩:=h2.form;refine xS 0 hat (cArr x p3 c2) (vA (cArr x p3 c2)) rfl ?_;obtain ⟨y,hy1,hM⟩:=zC hM;refine yR (zDf x _ hy1 h2) ?_;rintro imm0 hs2 v2 k2 le - ⟨v01,rfl,rfl,rfl⟩ -;have h:=h.mono le;have h1:=h1.mono le;have hle:=hle.trans le;exact yA [] [(3,vI (W (n0 + y)))]<|zY<|zE<|zB<|yA [] [(4,vI (W (i + 1)))]<|xD<|vQ [(1,vP b 0),(3,vI (W (n0 + y))),(4,vI (W (i + 1)))]<|ih (W (n0 + y)) (W (i + 1)) _ hM hle h h1 hg ho hx
 intro hc hM;exact xA<|zS<|zS<|wD (zK [] rfl (by decide))<|yT [(3,vI n0)]<|hx _ _ (zD hM).symm hle
def M.spec_l4Total (p:zV):Option (Int):=do
 let n01←M.spec_l4Total_l1 p 0 0
 pure (id n01)
theorem spec_l4Total_ok:∀ (p:zV) r,M.spec_l4Total p=some r→∀ {imm:Imm}{p1 c p2 c1},(S4 imm p1 p.Arrays c)→(S4 imm p2 p.Parts c1)→Ret Tryz.prog 41 [vA (cProg p p1 c p2 c1)] imm [] (spec_l4Total_post  r):=by
 intro p r hM imm p1 c p2 c1 h h1;unfold M.spec_l4Total at hM;refine yG (fn:=Tryz.f41) (c:=(bodyOf Tryz.f41)) Tryz.func41 rfl rfl ?_;rintro B - -;refine zF<|zB<|tR (cProg p p1 c p2 c1) ?_;intro b hb;refine yA [] []<|zE<|zF<|zB<|yA [] [(3,vI 0)]<|zE<|zF<|zF<|zB<|yA [] [(4,vI 0)]<|zE<|yC<|vQ [(1,vP b 0),(3,vI 0),(4,vI 0)] ?_;obtain ⟨o0,ho0,hMl⟩:=zC hM;refine spec_l4Total_l1_ok p 0 0 o0 ho0 iR h h1 (fun _ _ _ h=>h) (fun _ _ h=>h) ?_;intro imm01 n01 heq le1;subst o0;refine yD<|zE<|zF<|zB<|yA [] [(2,vI n01)]<|zE<|yJ ?_;obtain rfl:=zD hMl;exact yQ ⟨_,_,(.tmp rfl ResV.nil),zX,⟨_,rfl,rfl,rfl⟩⟩
def spec_l5Flagged_post (r:(List Int)):KT:=fun kk imm' hs' v=>
  ∃ v0,hs'=[]∧v=tupV [v0]∧SL imm' v0 r
def M.spec_l5Flagged_l1 (list:(List Bool)) (out:List Int) (i:Int):Option (List Int):=do
 if (decide (i < (list.length:Int))) then
  let x←idx list i
  let out2←(do
    if x then
     let out3←app 8 out ([i]:List Int)
     pure (id out3)
    else
     pure (id out)
      : Option (List Int))
  M.spec_l5Flagged_l1 list out2 (W (i + 1))
 else
  pure (id out)
 partial_fixpoint
theorem spec_l5Flagged_l1_ok (list:(List Bool)):∀ (out:List Int) (i:Int) (o:List Int),M.spec_l5Flagged_l1 list out i=some o→∀ {B}{imm0 imm:Imm}{Q p c p1 c1 cs},imm0.le imm→(S4 imm p list c)→(RL imm cs out)→(∀ gl a w,¬Q (.goto gl) a w)→(∀ a w,¬Q .outgrown a w)→(∀ (imm':Imm) (out1:List Int) (p2:Option Addr) (c2:Nat) (cs1:List Value),o=out1→imm0.le imm'→(RL imm' cs1 out1)→T 21 B Q (.exit 0) imm' [hO Int (vS p2 out1 c2) cs1] [(3,vS p2 out1 c2)])→J Tryz.prog 21 B (nav (bodyOf Tryz.f44) [1,1,0,1,0]) Q imm [hO Int (vS p1 out c1) cs] [(0,vS p list c),(3,vS p1 out c1),(4,vI i)]:=by
 refine M.spec_l5Flagged_l1.partial_correctness list _ ?_;intro self ih out i o hM B imm0 imm Q p c p1 c1 cs hle h h2 hg ho hx;refine xC hg ho<|zF<|zF<|zB<|yA [] [(9,.bool (decide (i < (list.length:Int))))]<|zE<|yO hM ?_ ?_
 · intro hc hM;refine yE<|zE<|zF<|yC<|zF<|zB<|yK 2 [] [(12,vS p list c),(13,vI i)] ?_;obtain ⟨x,hy,hM⟩:=zC hM;refine wJ rfl rfl h hy ?_;intro ad ccs hat hrep;obtain rfl:=hrep;refine xS 0 hat [.bool x] (.bool x) rfl<|yN rfl<|zE ?_;obtain ⟨o0,ho0,hMc⟩:=zC hM;refine yU (fun imm' hs' m'=>∃ (out2:List Int) (p3:Option Addr) (c3:Nat) (cs2:List Value),o0=out2∧imm.le imm'∧(RL imm' cs2 out2)∧hs'=[hO Int (vS p3 out2 c3) cs2]∧m'=[(0,vS p list c),(3,vS p3 out2 c3),(4,vI i)]) ?_ ?_
   · have hle:=iS imm;refine yO ho0 ?_ ?_
     · intro hc1 hM;refine zB<|yK 2 [] [(16,vS p1 out c1),(17,vI i)]<|xQ [vI i] Int ?_;intro b1 hb1;have h5:RL imm [vI i] ([i]:List Int):=⟨[vI i],_,rfl,rfl,rfl,rfl⟩;obtain ⟨out3,hy1,hM⟩:=zC hM;refine qI 3 1 1 rfl rfl rfl h2 (.inr ⟨0,rfl⟩) h5 hy1 ?_;intro p4 c4 cs3 h6;exact rX (zK [1] (hs':=[hO Int (vS p4 out3 c4) cs3]) rfl (by decide))<|yA [] [(3,vS p4 out3 c4)]<|yT [(0,vS p list c),(3,vS p4 out3 c4),(4,vI i)]<|yB ⟨_,_,_,_,(zD hM).symm,hle,h6,rfl,rfl⟩
     intro hc1 hM;exact yE<|yT [(0,vS p list c),(3,vS p1 out c1),(4,vI i)]<|yB ⟨_,_,_,_,(zD hM).symm,hle,h2,rfl,rfl⟩
   rintro imm0 hs2 m2 ⟨out2,p3,c3,cs2,heq,le,h4,rfl,rfl⟩;subst o0;have h:=h.mono le;have hle:=hle.trans le;exact zY<|zE<|zB<|yA [] [(4,vI (W (i + 1)))]<|xD<|vQ [(0,vS p list c),(3,vS p3 out2 c3),(4,vI (W (i + 1)))]<|ih out2 (W (i + 1)) _ hMc hle h h4 hg ho hx
 intro hc hM;exact xA<|zS<|zS<|yT [(3,vS p1 out c1)]<|hx _ _ _ _ _ (zD hM).symm hle h2
def M.spec_l5Flagged (list:(List Bool)):Option ((List Int)):=do
 let out1←M.spec_l5Flagged_l1 list ([]:List Int) 0
 pure (id out1)
theorem spec_l5Flagged_ok:∀ (list:(List Bool)) r,M.spec_l5Flagged list=some r→∀ {imm:Imm}{p c},(S4 imm p list c)→Ret Tryz.prog 44 [vS p list c] imm [] (spec_l5Flagged_post  r):=by
 intro list r hM imm p c h;unfold M.spec_l5Flagged at hM;refine yG (fn:=Tryz.f44) (c:=(bodyOf Tryz.f44)) Tryz.func44 rfl rfl ?_;rintro B - -;refine zF<|zB<|yA [] []<|zE<|zF<|zB<|xQ [] Int ?_;intro b hb;have h1:RL imm [] ([]:List Int):=rfl;refine yA [] [(3,vS (some ⟨b,0,none⟩) ([]:List Int) 0)]<|zE<|zF<|zF<|zB<|yA [] [(4,vI 0)]<|zE<|yC<|vQ [(0,vS p list c),(3,vS (some ⟨b,0,none⟩) ([]:List Int) 0),(4,vI 0)] ?_;obtain ⟨o01,ho01,hMl⟩:=zC hM;refine spec_l5Flagged_l1_ok list ([]:List Int) 0 o01 ho01 iR h h1 (fun _ _ _ h=>h) (fun _ _ h=>h) ?_;intro imm01 out1 p2 c2 cs1 heq1 le1 h3;subst o01;refine yD<|zE<|zF<|zB<|yA [] [(2,vS p2 out1 c2)]<|zE<|yJ<|xI 0 rfl ?_;intro imm02 le2 hl0;have h7:=SL.of_frozen hl0 le2 h3;obtain rfl:=zD hMl;exact yQ ⟨_,_,(.tmp rfl ResV.nil),zX,⟨_,rfl,rfl,h7⟩⟩
def impl_Program_isPart_post (r:Bool):KT:=fun kk imm' hs' v=>
  ∃ v0,hs'=[]∧v=tupV [v0]∧v0=.bool r
def M.impl_Program_isPart (p:zV) (part:Int):Option (Bool):=do
 let y←xV part 0 (W ((p.Parts.length:Int) - 1))
 pure (id y)
theorem impl_Program_isPart_ok:∀ (p:zV) (part:Int) r,M.impl_Program_isPart p part=some r→∀ {imm:Imm}{p1 c p2 c1},(S4 imm p1 p.Arrays c)→(S4 imm p2 p.Parts c1)→Ret Tryz.prog 46 [vA (cProg p p1 c p2 c1),vI part] imm [] (impl_Program_isPart_post  r):=by
 intro p part r hM imm p1 c p2 c1 h h1;unfold M.impl_Program_isPart at hM;refine yG (fn:=Tryz.f46) (c:=(bodyOf Tryz.f46)) Tryz.func46 rfl rfl ?_;rintro B - -;refine zF<|zB<|tR (cProg p p1 c p2 c1) ?_;intro b hb;refine yA [] []<|zE<|zF<|zB<|yK 5 [0] [(5,vI part),(9,vI (W ((p.Parts.length:Int) - 1)))] ?_;obtain ⟨y,hy,hM⟩:=zC hM;refine yR (wN part 0 (W ((p.Parts.length:Int) - 1)) _ hy ) ?_;rintro imm0 hs2 v2 k2 le - ⟨v0,rfl,rfl,rfl⟩ -;refine yA [] [(4,.bool y)]<|zE<|yJ ?_;obtain rfl:=zD hM;exact yQ ⟨_,_,(.tmp rfl ResV.nil),zX,⟨_,rfl,rfl,rfl⟩⟩
def impl_traced_cellsOf_post (r:(List Bool)×(List Bool)):KT:=fun kk imm' hs' v=>
  ∃ v0 v1,hs'=[]∧v=tupV [v0,v1]∧SL imm' v0 r.1∧SL imm' v1 r.2
def M.impl_traced_cellsOf_l2 (x1:(List Int)) (read3:List Bool) (t46:Int):Option (List Bool):=do
 if (decide (t46 < (x1.length:Int))) then
  let x2←idx x1 t46
  let x3←idx read3 x2
  let l←pure (read3.set x2.toNat true)
  M.impl_traced_cellsOf_l2 x1 l (W (t46 + 1))
 else
  pure (id read3)
 partial_fixpoint
theorem impl_traced_cellsOf_l2_ok (x1:(List Int)):∀ (read3:List Bool) (t46:Int) (o:List Bool),M.impl_traced_cellsOf_l2 x1 read3 t46=some o→∀ {B}{imm0 imm:Imm}{Q}{t:oS}{part:Int}{written1:List Bool}{t29:Int}{ad:Addr}{p c p1 c1 p2 c2 p3 c3 p4 c4 p6 c6 cs4 p10 c10 p11 c11 cs7},imm0.le imm→(S4 imm p t.Program.Arrays c)→(S4 imm p1 t.Program.Parts c1)→(S4 imm p2 t.list c2)→(S4 imm p3 t.reads c3)→(S4 imm p4 t.writes c4)→(At imm ad [vS p t.Program.Arrays c,vS p1 t.Program.Parts c1,vS p2 t.list c2,vS p3 t.reads c3,vS p4 t.writes c4])→(RL imm cs4 written1)→(S4 imm p10 x1 c10)→(RL imm cs7 read3)→(∀ gl a w,¬Q (.goto gl) a w)→(∀ a w,¬Q .outgrown a w)→(∀ (imm':Imm) (read4:List Bool) (p12:Option Addr) (c12:Nat) (cs8:List Value),o=read4→imm0.le imm'→(RL imm' cs8 read4)→T 66 B Q (.exit 2) imm' [hO Bool (vS p12 read4 c12) cs8,hO Bool (vS p6 written1 c6) cs4] [(0,.pointer (some ad)),(1,vI part),(6,vS p12 read4 c12),(7,vS p6 written1 c6),(8,vI t29),(27,vS p2 t.list c2),(28,vI (t.list.length:Int)),(29,vI t29)])→J Tryz.prog 66 B (nav (bodyOf Tryz.f47) [1,1,0,1,0,0,1,1,0,0,1,1,0,1,0]) Q imm [hO Bool (vS p11 read3 c11) cs7,hO Bool (vS p6 written1 c6) cs4] [(0,.pointer (some ad)),(1,vI part),(6,vS p11 read3 c11),(7,vS p6 written1 c6),(8,vI t29),(27,vS p2 t.list c2),(28,vI (t.list.length:Int)),(29,vI t29),(44,vS p10 x1 c10),(45,vI (x1.length:Int)),(46,vI t46)]:=by
 refine M.impl_traced_cellsOf_l2.partial_correctness x1 _ ?_;intro self ih read3 t46 o hM B imm0 imm Q t part written1 t29 ad p c p1 c1 p2 c2 p3 c3 p4 c4 p6 c6 cs4 p10 c10 p11 c11 cs7 hle h h1 h2 h3 h4 hat h10 h14 h15 hg ho hx;refine xC hg ho<|zF<|zB<|yA [] [(47,.bool (decide (t46 < (x1.length:Int))))]<|zE<|zF<|yO hM ?_ ?_
 · intro hc2 hM;refine yE<|zE<|zF<|yC<|zF<|zB ?_;obtain ⟨x2,hy6,hM⟩:=zC hM;refine wJ rfl rfl h14 hy6 ?_;intro ad3 ccs2 hat3 hrep2;obtain rfl:=hrep2;refine xS 0 hat3 [vI x2] (vI x2) rfl<|yA [] [(11,vI x2)]<|zE<|zB<|yK 2 [] [(50,vS p11 read3 c11),(51,vI x2)] ?_;obtain ⟨x3,hy7,hM⟩:=zC hM;refine nK 0 rfl rfl rfl h15 hy7 ?_;intro ad4 ccs3 hat4 hcc hrep3;obtain rfl:=hrep3;obtain ⟨l,hy8,hM⟩:=zC hM;refine qX (c:=[.bool true]) (x':=true) 0 0 rfl rfl rfl hat4 rfl rfl hcc (by kernel_rfl) (by kernel_rfl) (by kernel_rfl) h15 hy7 (by kernel_rfl) rfl ?_;rw [show read3.set x2.toNat true=l from zD hy8];intro cs9 h17 hl0;exact kJ (m':=[(0,.pointer (some ad)),(1,vI part),(6,vS p11 read3 c11),(7,vS p6 written1 c6),(8,vI t29),(27,vS p2 t.list c2),(28,vI (t.list.length:Int)),(29,vI t29),(44,vS p10 x1 c10),(45,vI (x1.length:Int)),(46,vI t46),(50,vS p11 read3 c11),(51,vI x2)]) ⟨rfl,rfl,rfl,rfl,rfl,rfl,rfl,rfl,rfl,rfl,rfl,rfl,rfl,trivial⟩<|zCM (hs':=[hO Bool (vS p11 l c11) cs9,hO Bool (vS p6 written1 c6) cs4]) (m':=[(0,.pointer (some ad)),(1,vI part),(6,vS p11 l c11),(7,vS p6 written1 c6),(8,vI t29),(27,vS p2 t.list c2),(28,vI (t.list.length:Int)),(29,vI t29),(44,vS p10 x1 c10),(45,vI (x1.length:Int)),(46,vI t46),(50,vS p11 l c11),(51,vI x2)]) (by first | rfl | simp only [vS,hl0,List.nil_append,List.cons_append,List.set_cons_zero,List.set_cons_succ,List.eraseIdx_cons_zero,List.eraseIdx_cons_succ]) (by first | rfl | simp only [vS,hl0])<|yN rfl<|zY<|zE<|zB<|yA [] [(46,vI (W (t46 + 1)))]<|xD<|vQ [(0,.pointer (some ad)),(1,vI part),(6,vS p11 l c11),(7,vS p6 written1 c6),(8,vI t29),(27,vS p2 t.list c2),(28,vI (t.list.length:Int)),(29,vI t29),(44,vS p10 x1 c10),(45,vI (x1.length:Int)),(46,vI (W (t46 + 1)))]<|ih l (W (t46 + 1)) _ hM hle h h1 h2 h3 h4 hat h10 h14 h17 hg ho hx
 intro hc2 hM;exact xA<|zS<|zS<|yT [(0,.pointer (some ad)),(1,vI part),(6,vS p11 read3 c11),(7,vS p6 written1 c6),(8,vI t29),(27,vS p2 t.list c2),(28,vI (t.list.length:Int)),(29,vI t29)]<|hx _ _ _ _ _ (zD hM).symm hle h15
def M.impl_traced_cellsOf_l1 (t:oS) (part:Int) (read1:List Bool) (written1:List Bool) (t29:Int):Option ((List Bool×List Bool)):=do
 if (decide (t29 < (t.list.length:Int))) then
  let x←idx t.list t29
  if (x.Part != part) then
   M.impl_traced_cellsOf_l1 t part read1 written1 (W (t29 + 1))
  else
   let x1←idx t.reads t29
   let read4←M.impl_traced_cellsOf_l2 x1 read1 0
   let x4←idx t.writes t29
   let x5←idx written1 x4
   let l1←pure (written1.set x4.toNat true)
   M.impl_traced_cellsOf_l1 t part read4 l1 (W (t29 + 1))
 else
  pure (read1,written1)
 partial_fixpoint
theorem impl_traced_cellsOf_l1_ok (t:oS) (part:Int):∀ (read1:List Bool) (written1:List Bool) (t29:Int) (o:(List Bool×List Bool)),M.impl_traced_cellsOf_l1 t part read1 written1 t29=some o→∀ {B}{imm0 imm:Imm}{Q}  {ad:Addr}{p c p1 c1 p2 c2 p3 c3 p4 c4 p5 c5 cs3 p6 c6 cs4},imm0.le imm→(S4 imm p t.Program.Arrays c)→(S4 imm p1 t.Program.Parts c1)→(S4 imm p2 t.list c2)→(S4 imm p3 t.reads c3)→(S4 imm p4 t.writes c4)→(At imm ad [vS p t.Program.Arrays c,vS p1 t.Program.Parts c1,vS p2 t.list c2,vS p3 t.reads c3,vS p4 t.writes c4])→(RL imm cs3 read1)→(RL imm cs4 written1)→(∀ gl a w,¬Q (.goto gl) a w)→(∀ a w,¬Q .outgrown a w)→(∀ (imm':Imm) (read2:List Bool) (written2:List Bool) (p7:Option Addr) (c7:Nat) (cs5:List Value) (p8:Option Addr) (c8:Nat) (cs6:List Value),o=(read2,written2)→imm0.le imm'→(RL imm' cs5 read2)→(RL imm' cs6 written2)→T 66 B Q (.exit 0) imm' [hO Bool (vS p7 read2 c7) cs5,hO Bool (vS p8 written2 c8) cs6] [(6,vS p7 read2 c7),(7,vS p8 written2 c8)])→J Tryz.prog 66 B (nav (bodyOf Tryz.f47) [1,1,0,1,0]) Q imm [hO Bool (vS p5 read1 c5) cs3,hO Bool (vS p6 written1 c6) cs4] [(0,.pointer (some ad)),(1,vI part),(6,vS p5 read1 c5),(7,vS p6 written1 c6),(27,vS p2 t.list c2),(28,vI (t.list.length:Int)),(29,vI t29)]:=by
 refine M.impl_traced_cellsOf_l1.partial_correctness t part _ ?_;intro self ih read1 written1 t29 o hM B imm0 imm Q ad p c p1 c1 p2 c2 p3 c3 p4 c4 p5 c5 cs3 p6 c6 cs4 hle h h1 h2 h3 h4 hat h9 h10 hg ho hx;refine xC hg ho<|zF<|zB<|yA [] [(30,.bool (decide (t29 < (t.list.length:Int))))]<|zE<|zF<|yO hM ?_ ?_
 · intro hc hM;refine yE<|zE<|zF<|yC<|zF<|zB<|yK 1 [] [(31,vI t29)] ?_;obtain ⟨x,hy4,hM⟩:=zC hM;refine wJ rfl rfl h2 hy4 ?_;intro ad1 ccs hat1 hrep;obtain ⟨v02,rfl,h13⟩:=zAm hrep;obtain ⟨p9,c9,rfl⟩:=h13.form;refine xS 0 hat1 (cInst x p9 c9) (vA (cInst x p9 c9)) rfl<|uD [vI 0,vI 0,z0] ?_;intro b3 hb;refine yK 5 [] [(8,vI t29)]<|xJ 0 (cInst x p9 c9) [hB b3 (cInst x p9 c9),hO Bool (vS p5 read1 c5) cs3,hO Bool (vS p6 written1 c6) cs4] rfl rfl rfl rfl<|yN rfl<|zE<|zF<|zF<|zB<|yA [0] [(37,.bool (x.Part != part))]<|zE<|yO hM ?_ ?_
   · intro hc1 hM;exact xA<|zS<|yD<|zE<|zB<|yA [] [(29,vI (W (t29 + 1)))]<|xD<|qA (zK [1,2] rfl (by decide))<|vQ [(0,.pointer (some ad)),(1,vI part),(6,vS p5 read1 c5),(7,vS p6 written1 c6),(27,vS p2 t.list c2),(28,vI (t.list.length:Int)),(29,vI (W (t29 + 1)))]<|ih read1 written1 (W (t29 + 1)) _ hM hle h h1 h2 h3 h4 hat h9 h10 hg ho hx
   intro hc1 hM;refine yE<|zE<|zF<|zF<|zB<|yK 3 [] [(40,.pointer (some (ad.add 3)))]<|xS 3 hat [vS p3 t.reads c3] (vS p3 t.reads c3) rfl<|yK 5 [] [(42,vI t29)] ?_;obtain ⟨x1,hy5,hM⟩:=zC hM;refine wJ rfl rfl h3 hy5 ?_;intro ad2 ccs1 hat2 hrep1;obtain ⟨v03,rfl,h14⟩:=hrep1;obtain ⟨p10,c10,rfl⟩:=h14.form;refine xS 0 hat2 [vS p10 x1 c10] (vS p10 x1 c10) rfl<|yA [] [(45,vI (x1.length:Int)),(46,vI 0)]<|zE<|yC<|qA (zK [1,2] (hs':=[hO Bool (vS p5 read1 c5) cs3,hO Bool (vS p6 written1 c6) cs4]) rfl (by decide))<|vQ [(0,.pointer (some ad)),(1,vI part),(6,vS p5 read1 c5),(7,vS p6 written1 c6),(8,vI t29),(27,vS p2 t.list c2),(28,vI (t.list.length:Int)),(29,vI t29),(44,vS p10 x1 c10),(45,vI (x1.length:Int)),(46,vI 0)] ?_;obtain ⟨o0,ho0,hMl⟩:=zC hM;refine impl_traced_cellsOf_l2_ok x1 read1 0 o0 ho0 iR h h1 h2 h3 h4 hat h10 h14 h9 (fun _ _ _ h=>hg _ _ _ h) (fun _ _ h=>ho _ _ h) ?_;intro imm03 read4 p12 c12 cs8 heq le3 h16;subst o0;have h:=h.mono le3;have h1:=h1.mono le3;have h2:=h2.mono le3;have h3:=h3.mono le3;have h4:=h4.mono le3;have hat:=hat.mono le3;have h10:=iM le3 h10;have hle:=hle.trans le3;refine yD<|zE<|zB<|yK 4 [] [(54,vS p6 written1 c6),(57,.pointer (some (ad.add 4)))]<|xS 4 hat [vS p4 t.writes c4] (vS p4 t.writes c4) rfl<|yK 6 [] [(59,vI t29)] ?_;obtain ⟨x4,hy9,hM⟩:=zC hMl;refine wJ rfl rfl h4 hy9 ?_;intro ad5 ccs4 hat5 hrep4;obtain rfl:=hrep4;refine xS 0 hat5 [vI x4] (vI x4) rfl ?_;obtain ⟨x5,hy10,hM⟩:=zC hM;refine nK 1 rfl rfl rfl h10 hy10 ?_;intro ad6 ccs5 hat6 hcc1 hrep5;obtain rfl:=hrep5;obtain ⟨l1,hy11,hM⟩:=zC hM;refine qX (c:=[.bool true]) (x':=true) 1 0 rfl rfl rfl hat6 rfl rfl hcc1 (by kernel_rfl) (by kernel_rfl) (by kernel_rfl) h10 hy10 (by kernel_rfl) rfl ?_;rw [show written1.set x4.toNat true=l1 from zD hy11];intro cs10 h18 hl01;exact kJ (m':=[(0,.pointer (some ad)),(1,vI part),(6,vS p12 read4 c12),(7,vS p6 written1 c6),(27,vS p2 t.list c2),(28,vI (t.list.length:Int)),(29,vI t29),(54,vS p6 written1 c6),(58,vS p4 t.writes c4),(59,vI t29),(60,.pointer (some ad5)),(61,vI x4)]) ⟨rfl,rfl,rfl,rfl,rfl,rfl,rfl,rfl,rfl,rfl,rfl,rfl,trivial⟩<|zCM (hs':=[hO Bool (vS p12 read4 c12) cs8,hO Bool (vS p6 l1 c6) cs10]) (m':=[(0,.pointer (some ad)),(1,vI part),(6,vS p12 read4 c12),(7,vS p6 l1 c6),(27,vS p2 t.list c2),(28,vI (t.list.length:Int)),(29,vI t29),(54,vS p6 l1 c6),(58,vS p4 t.writes c4),(59,vI t29),(60,.pointer (some ad5)),(61,vI x4)]) (by first | rfl | simp only [vS,hl01,List.nil_append,List.cons_append,List.set_cons_zero,List.set_cons_succ,List.eraseIdx_cons_zero,List.eraseIdx_cons_succ]) (by first | rfl | simp only [vS,hl01])<|yN rfl<|zY<|zE<|zB<|yA [] [(29,vI (W (t29 + 1)))]<|xD<|vQ [(0,.pointer (some ad)),(1,vI part),(6,vS p12 read4 c12),(7,vS p6 l1 c6),(27,vS p2 t.list c2),(28,vI (t.list.length:Int)),(29,vI (W (t29 + 1)))]<|ih read4 l1 (W (t29 + 1)) _ hM hle h h1 h2 h3 h4 hat h16 h18 hg ho hx
 intro hc hM;exact xA<|zS<|zS<|yT [(6,vS p5 read1 c5),(7,vS p6 written1 c6)]<|hx _ _ _ _ _ _ _ _ _ (zD hM).symm hle h9 h10
def M.impl_traced_cellsOf (t:oS) (part:Int):Option ((List Bool)×(List Bool)):=do
 let y←M.impl_Program_cells t.Program
 let read←mkrow 1 y (false:Bool)
 let y1←M.impl_Program_cells t.Program
 let written←mkrow 1 y1 (false:Bool)
 let (read2,written2)←M.impl_traced_cellsOf_l1 t part read written 0
 pure (read2,written2)
theorem impl_traced_cellsOf_ok:∀ (t:oS) (part:Int) r,M.impl_traced_cellsOf t part=some r→∀ {imm:Imm}{ad:Addr}{p c p1 c1 p2 c2 p3 c3 p4 c4},(S4 imm p t.Program.Arrays c)→(S4 imm p1 t.Program.Parts c1)→(S4 imm p2 t.list c2)→(S4 imm p3 t.reads c3)→(S4 imm p4 t.writes c4)→(At imm ad [vS p t.Program.Arrays c,vS p1 t.Program.Parts c1,vS p2 t.list c2,vS p3 t.reads c3,vS p4 t.writes c4])→Ret Tryz.prog 47 [.pointer (some ad),vI part] imm [] (impl_traced_cellsOf_post  r):=by
 intro t part r hM imm ad p c p1 c1 p2 c2 p3 c3 p4 c4 h h1 h2 h3 h4 hat;unfold M.impl_traced_cellsOf at hM;refine yG (fn:=Tryz.f47) (c:=(bodyOf Tryz.f47)) Tryz.func47 rfl rfl ?_;rintro B - -;have hle:=iS imm;refine zF<|zB<|yA [] []<|zE<|zF ?_;obtain ⟨y,hy,hM⟩:=zC hM;obtain ⟨read,hy1,hM⟩:=zC hM;obtain ⟨y1,hy2,hM⟩:=zC hM;obtain ⟨written,hy3,hM⟩:=zC hM;refine uA [.p (.pointer (some ad)) [],.p (.pointer (some ad)) [],.p (.pointer (some ad)) [],.q (vA (cProg t.Program p c p1 c1)),.q (vI y),.x (fun imm' v hx=>∃ b cs,v=vS (some ⟨b,0,none⟩) read read.length∧hx=[hO Bool (vS (some ⟨b,0,none⟩) read read.length) cs]∧(RL imm' cs read)),.p (.pointer (some ad)) [],.p (.pointer (some ad)) [],.p (.pointer (some ad)) [],.q (vA (cProg t.Program p c p1 c1)),.q (vI y1),.x (fun imm' v hx=>∃ b1 cs1,v=vS (some ⟨b1,0,none⟩) written written.length∧hx=[hO Bool (vS (some ⟨b1,0,none⟩) written written.length) cs1]∧(RL imm' cs1 written)),.x (fun imm' v hx=>∃ b2 cs2,v=vS (some ⟨b2,0,none⟩) read read.length∧hx=[hO Bool (vS (some ⟨b2,0,none⟩) read read.length) cs2]∧(RL imm' cs2 read))] [[],[(0,false)],[(1,false)],[(2,false)],[(3,false)],[(4,false)],[],[(6,false)],[(7,false)],[(8,false)],[(9,false)],[(10,false)],[(5,true)]] [] [] [(11,true),(12,true)] (zK [] rfl (by decide)) ?_ ?_
 · refine Op<|Op<|Op<|Oq ?_<|Oq ?_<|Ox ?_<|Op<|Op<|Op<|Oq ?_<|Oq ?_<|Ox ?_<|Ox ?_<|On
   · intro imm1 hf le1;refine zG ?_;rintro _ _ ⟨rfl,rfl⟩;refine zN<|yH [(14,.pointer (some ad))] ?_;have hle:=iS imm1;have hat:=hat.mono le1;exact xS 0 hat (cProg t.Program p c p1 c1) (vA (cProg t.Program p c p1 c1)) rfl<|zZ (hx:=[]) rfl hle rfl (zM rfl) ⟨rfl,rfl⟩
   · intro imm1 hf le1;refine zG ?_;rintro _ _ ⟨rfl,rfl⟩;refine zN<|yH [(15,vA (cProg t.Program p c p1 c1))] ?_;have hle:=iS imm1;have h:=h.mono le1;have h1:=h1.mono le1;refine yR (impl_Program_cells_ok t.Program _ hy h h1) ?_;rintro imm0 hs2 v2 k2 le - ⟨v0,rfl,rfl,rfl⟩ -;have hle:=hle.trans le;exact zZ (hx:=[]) rfl hle rfl (zM rfl) ⟨rfl,rfl⟩
   · intro imm1 hf le1;refine zG ?_;rintro _ _ ⟨rfl,rfl⟩;refine zN<|yH [(16,vI y)] ?_;have hle:=iS imm1;refine R_mk 1 [.bool false] rfl hy1 rfl ?_;intro b cs h6;exact zZ (hx:=[hO Bool (vS (some ⟨b,0,none⟩) read read.length) cs]) rfl hle rfl (zM rfl) ⟨_,_,rfl,rfl,h6⟩
   · intro imm1 hf le1;refine zG ?_;rintro _ _ ⟨rfl,rfl⟩;refine zN<|yH [(20,.pointer (some ad))] ?_;have hle:=iS imm1;have hat:=hat.mono le1;exact xS 0 hat (cProg t.Program p c p1 c1) (vA (cProg t.Program p c p1 c1)) rfl<|zZ (hx:=[]) rfl hle rfl (zM rfl) ⟨rfl,rfl⟩
   · intro imm1 hf le1;refine zG ?_;rintro _ _ ⟨rfl,rfl⟩;refine zN<|yH [(21,vA (cProg t.Program p c p1 c1))] ?_;have hle:=iS imm1;have h:=h.mono le1;have h1:=h1.mono le1;refine yR (impl_Program_cells_ok t.Program _ hy2 h h1) ?_;rintro imm01 hs2 v2 k2 le1 - ⟨v01,rfl,rfl,rfl⟩ -;have hle:=hle.trans le1;exact zZ (hx:=[]) rfl hle rfl (zM rfl) ⟨rfl,rfl⟩
   · intro imm1 hf le1;refine zG ?_;rintro _ _ ⟨rfl,rfl⟩;refine zN<|yH [(22,vI y1)] ?_;have hle:=iS imm1;refine R_mk 1 [.bool false] rfl hy3 rfl ?_;intro b1 cs1 h8;exact zZ (hx:=[hO Bool (vS (some ⟨b1,0,none⟩) written written.length) cs1]) rfl hle rfl (zM rfl) ⟨_,_,rfl,rfl,h8⟩
   intro imm1 hf le1;refine zG ?_;rintro _ _ ⟨b,cs,rfl,rfl,h6⟩;refine zN<|yH [(17,vS (some ⟨b,0,none⟩) read read.length)] ?_;have hle:=iS imm1;exact qV 13 [(6,vS (some ⟨b,0,none⟩) read read.length)]<|zZ (hx:=[hO Bool (vS (some ⟨b,0,none⟩) read read.length) cs]) rfl hle rfl (zM rfl) ⟨_,_,rfl,rfl,h6⟩
 intro imm02 le2;refine zG ?_;rintro _ _ ⟨b1,cs1,rfl,rfl,h8⟩;refine zG ?_;rintro _ _ ⟨b2,cs2,rfl,rfl,h61⟩;refine zN<|yH [(0,.pointer (some ad)),(1,vI part),(6,vS (some ⟨b2,0,none⟩) read read.length),(23,vS (some ⟨b1,0,none⟩) written written.length)] ?_;have h:=h.mono le2;have h1:=h1.mono le2;have h2:=h2.mono le2;have h3:=h3.mono le2;have h4:=h4.mono le2;have hat:=hat.mono le2;refine yA [] [(7,vS (some ⟨b1,0,none⟩) written written.length)]<|zE<|zF<|zF<|zB<|yK 3 [] [(26,.pointer (some (ad.add 2)))]<|xS 2 hat [vS p2 t.list c2] (vS p2 t.list c2) rfl<|yA [] [(28,vI (t.list.length:Int)),(29,vI 0)]<|zE<|yC<|vQ [(0,.pointer (some ad)),(1,vI part),(6,vS (some ⟨b2,0,none⟩) read read.length),(7,vS (some ⟨b1,0,none⟩) written written.length),(27,vS p2 t.list c2),(28,vI (t.list.length:Int)),(29,vI 0)] ?_;obtain ⟨o01,ho01,hMl1⟩:=zC hM;refine impl_traced_cellsOf_l1_ok t part read written 0 o01 ho01 iR h h1 h2 h3 h4 hat h61 h8 (fun _ _ _ h=>h) (fun _ _ h=>h) ?_;intro imm04 read2 written2 p7 c7 cs5 p8 c8 cs6 heq1 le4 h11 h12;subst o01;refine yD<|zE<|zF<|zB<|yA [] [(4,vS p7 read2 c7),(5,vS p8 written2 c8)]<|zE<|yJ<|xI 0 rfl ?_;intro imm05 le5 hl02;have h19:=SL.of_frozen hl02 le5 h11;have h12:=iM le5 h12;refine xI 0 rfl ?_;intro imm06 le6 hl03;have h20:=SL.of_frozen hl03 le6 h12;have h19:=h19.mono le6;obtain rfl:=zD hMl1;exact yQ ⟨_,_,(.tmp rfl (.tmp rfl ResV.nil)),zX,⟨_,_,rfl,rfl,h19,h20⟩⟩
def laws_lnHas_post (r:Bool):KT:=fun kk imm' hs' v=>
  ∃ v0,hs'=[]∧v=tupV [v0]∧v0=.bool r
def M.laws_lnHas_l1 (list:(List Int)) (n0:Int) (i:Int):Option (Out Unit (Bool)):=do
 if (decide (i < (list.length:Int))) then
  let x←idx list i
  if (x == n0) then
   pure (.ret true)
  else
   M.laws_lnHas_l1 list n0 (W (i + 1))
 else
  pure (.done ())
 partial_fixpoint
theorem laws_lnHas_l1_ok (list:(List Int)) (n0:Int):∀ (i:Int) (o:Out Unit (Bool)),M.laws_lnHas_l1 list n0 i=some o→∀ {B}{imm0 imm:Imm}{Q p c},imm0.le imm→(S4 imm p list c)→(∀ gl a w,¬Q (.goto gl) a w)→(∀ a w,¬Q .outgrown a w)→(∀ (imm':Imm) ,o=(.done ())→imm0.le imm'→T 18 B Q (.exit 0) imm' [] [])→(∀ r imm' hs' m',o=(.ret r)→imm0.le imm'→RS Tryz.prog Tryz.f15 B (laws_lnHas_post  r) imm' hs' m'→T 18 B Q .ret imm' hs' m')→J Tryz.prog 18 B (nav (bodyOf Tryz.f15) [1,0,1,0]) Q imm [] [(0,vS p list c),(1,vI n0),(5,vI i)]:=by
 refine M.laws_lnHas_l1.partial_correctness list n0 _ ?_;intro self ih i o hM B imm0 imm Q p c hle h hg ho hx hr;refine xC hg ho<|zF<|zF<|zB<|yA [] [(9,.bool (decide (i < (list.length:Int))))]<|zE<|yO hM ?_ ?_
 · intro hc hM;refine yE<|zE<|zF<|yC<|zF<|zB<|yK 2 [] [(12,vS p list c),(13,vI i)] ?_;obtain ⟨x,hy,hM⟩:=zC hM;refine wJ rfl rfl h hy ?_;intro ad ccs hat hrep;obtain rfl:=hrep;refine xS 0 hat [vI x] (vI x) rfl<|yA [] [(17,.bool (x == n0))]<|zE<|yO hM ?_ ?_
   · intro hc1 hM;exact zF<|zB<|yA [] [(4,.bool true)]<|zE<|yJ<|yF<|zR<|zR<|hr _ _ _ _ (zD hM).symm hle ⟨_,_,(.tmp rfl ResV.nil),zX,⟨_,rfl,rfl,rfl⟩⟩
   intro hc1 hM;exact yE<|zY<|zE<|zB<|yA [] [(5,vI (W (i + 1)))]<|xD<|vQ [(0,vS p list c),(1,vI n0),(5,vI (W (i + 1)))]<|ih (W (i + 1)) _ hM hle h hg ho hx hr
 intro hc hM;exact xA<|zS<|zS<|yT []<|hx _  (zD hM).symm hle
def M.laws_lnHas (list:(List Int)) (n0:Int):Option (Bool):=do
 match←M.laws_lnHas_l1 list n0 0 with
 | .ret r0=>pure r0
 | .done _ =>
  pure false
theorem laws_lnHas_ok:∀ (list:(List Int)) (n0:Int) r,M.laws_lnHas list n0=some r→∀ {imm:Imm}{p c},(S4 imm p list c)→Ret Tryz.prog 15 [vS p list c,vI n0] imm [] (laws_lnHas_post  r):=by
 intro list n0 r hM imm p c h;unfold M.laws_lnHas at hM;refine yG (fn:=Tryz.f15) (c:=(bodyOf Tryz.f15)) Tryz.func15 rfl rfl ?_;rintro B - -;refine zF<|zB<|yA [] []<|zE<|zF<|zF<|zB<|yA [] [(5,vI 0)]<|zE<|yC<|vQ [(0,vS p list c),(1,vI n0),(5,vI 0)] ?_;obtain ⟨o0,ho0,hMl⟩:=zC hM;refine laws_lnHas_l1_ok list n0 0 o0 ho0 iR h (fun _ _ _ h=>h) (fun _ _ h=>h) ?_ ?_
 · intro imm0  heq le;subst o0;refine yD<|zE<|zF<|zB<|yA [] [(4,.bool false)]<|zE<|yJ ?_;obtain rfl:=zD hMl;exact yQ ⟨_,_,(.tmp rfl ResV.nil),zX,⟨_,rfl,rfl,rfl⟩⟩
 intro r0 imm9 hs9 m9 heq9 le9 hrs9;subst heq9;refine yF<|zR ?_;obtain rfl:=zD hMl;exact yQ hrs9
end Go.LN
namespace Go.LN
open Go.Proofs
set_option maxRecDepth 20000
def spec_DrawInputCells_post (r:zV):KT:=fun kk imm' hs' v=>
  ∃ v0,hs'=[]∧v=tupV [v0]∧(∃ cs,v0=.agg ⟨cs⟩∧Rp.rep imm' cs r)
def M.spec_DrawInputCells (code:(List UInt8)):Option (zV):=do
 let y←M.spec_DrawProgramValid code
 pure (id y)
theorem spec_DrawInputCells_ok:∀ (code:(List UInt8)) r,M.spec_DrawInputCells code=some r→∀ {imm:Imm}{p c},(S4 imm p code c)→Ret Tryz.prog 20 [vS p code c] imm [] (spec_DrawInputCells_post  r):=by
 intro code r hM imm p c h;unfold M.spec_DrawInputCells at hM;refine yG (fn:=Tryz.f20) (c:=(bodyOf Tryz.f20)) Tryz.func20 rfl rfl ?_;rintro B - -;refine zF<|zB<|uD zTwo ?_;intro b hb;refine yN rfl<|zE<|zF<|zB<|yK 1 [] [(3,vS p code c)] ?_;obtain ⟨y,hy,hM⟩:=zC hM;refine yR (spec_DrawProgramValid_ok code _ hy h) ?_;rintro imm0 hs2 v2 k2 le - ⟨v0,rfl,rfl,⟨cs,rfl,h1⟩⟩ -;obtain ⟨v01,v02,rfl,h2,h3⟩:=zG6 h1;obtain ⟨p1,c1,rfl⟩:=h2.form;obtain ⟨p2,c2,rfl⟩:=h3.form;refine xJ 0 (cProg y p1 c1 p2 c2) [hB b (cProg y p1 c1 p2 c2)] rfl rfl rfl rfl<|yN rfl<|zE<|yJ ?_;obtain rfl:=zD hM;exact yQ ⟨_,_,(.cell 0 rfl rfl (by kernel_rfl) ResV.nil),zX,⟨_,rfl,rfl,⟨_,rfl,(nH ⟨_,_,rfl,h2,h3⟩)⟩⟩⟩
def impl_InputCells_post (r:(List Int)):KT:=fun kk imm' hs' v=>
  ∃ v0,hs'=[]∧v=tupV [v0]∧SL imm' v0 r
def M.impl_InputCells_l2 (written1:List Bool) (y6:(List Int)) (input3:List Bool) (t40:Int):Option (List Bool):=do
 if (decide (t40 < (y6.length:Int))) then
  let x1←idx y6 t40
  let input5←(do
    let x2←idx input3 x1
    if x2 then
     let x3←idx input3 x1
     let l←pure (input3.set x1.toNat true)
     pure (id l)
    else
     let x4←idx written1 x1
     let x5←idx input3 x1
     let l1←pure (input3.set x1.toNat (!x4))
     pure (id l1)
      : Option (List Bool))
  M.impl_InputCells_l2 written1 y6 input5 (W (t40 + 1))
 else
  pure (id input3)
 partial_fixpoint
theorem impl_InputCells_l2_ok (written1:List Bool) (y6:(List Int)):∀ (input3:List Bool) (t40:Int) (o:List Bool),M.impl_InputCells_l2 written1 y6 input3 t40=some o→∀ {B}{imm0 imm:Imm}{Q}{p:zV}{y1:(List zT)}{t28:Int}{y7:Int}{p1 c p2 c1}{b:Nat}{p3 c2 p4 c3 cs3 p8 c7 p9 c8 cs6},imm0.le imm→(RL imm cs3 written1)→(S4 imm p3 y1 c2)→(S4 imm p8 y6 c7)→(S4 imm p1 p.Arrays c)→(S4 imm p2 p.Parts c1)→(RL imm cs6 input3)→(∀ gl a w,¬Q (.goto gl) a w)→(∀ a w,¬Q .outgrown a w)→(∀ (imm':Imm) (input4:List Bool) (p10:Option Addr) (c9:Nat) (cs7:List Value),o=input4→imm0.le imm'→(RL imm' cs7 input4)→T 65 B Q (.exit 2) imm' [hO Bool (vS p4 written1 c3) cs3,hO Bool (vS p10 input4 c9) cs7,hB b (cProg p p1 c p2 c1)] [(1,vP b 0),(5,vS p4 written1 c3),(6,vS p10 input4 c9),(10,vI y7),(26,vS p3 y1 c2),(27,vI (y1.length:Int)),(28,vI t28)])→J Tryz.prog 65 B (nav (bodyOf Tryz.f21) [1,1,1,1,0,1,0,0,1,1,0,0,1,1,0,1,0]) Q imm [hO Bool (vS p4 written1 c3) cs3,hO Bool (vS p9 input3 c8) cs6,hB b (cProg p p1 c p2 c1)] [(1,vP b 0),(5,vS p4 written1 c3),(6,vS p9 input3 c8),(10,vI y7),(26,vS p3 y1 c2),(27,vI (y1.length:Int)),(28,vI t28),(38,vS p8 y6 c7),(39,vI (y6.length:Int)),(40,vI t40)]:=by
 refine M.impl_InputCells_l2.partial_correctness written1 y6 _ ?_;intro self ih input3 t40 o hM B imm0 imm Q p y1 t28 y7 p1 c p2 c1 b p3 c2 p4 c3 cs3 p8 c7 p9 c8 cs6 hle h8 h2 h12 h h1 h14 hg ho hx;refine xC hg ho<|zF<|zB<|yA [] [(41,.bool (decide (t40 < (y6.length:Int))))]<|zE<|zF<|yO hM ?_ ?_
 · intro hc2 hM;refine yE<|zE<|zF<|yC<|zF<|zB ?_;obtain ⟨x1,hy7,hM⟩:=zC hM;refine wJ rfl rfl h12 hy7 ?_;intro ad1 ccs1 hat1 hrep1;obtain rfl:=hrep1;refine xS 0 hat1 [vI x1] (vI x1) rfl<|yA [] [(12,vI x1)]<|zE ?_;obtain ⟨o0,ho0,hMc⟩:=zC hM;refine yU (fun imm' hs' m'=>∃ (input5:List Bool) (p11:Option Addr) (c10:Nat) (cs8:List Value),o0=input5∧imm.le imm'∧(RL imm' cs8 input5)∧hs'=[hO Bool (vS p4 written1 c3) cs3,hO Bool (vS p11 input5 c10) cs8,hB b (cProg p p1 c p2 c1)]∧m'=[(1,vP b 0),(5,vS p4 written1 c3),(6,vS p11 input5 c10),(10,vI y7),(26,vS p3 y1 c2),(27,vI (y1.length:Int)),(28,vI t28),(38,vS p8 y6 c7),(39,vI (y6.length:Int)),(40,vI t40)]) ?_ ?_
   · have hle:=iS imm;refine zB<|yK 4 [] [(44,vS p9 input3 c8),(45,vI x1),(46,vS p9 input3 c8),(47,vI x1)] ?_;obtain ⟨x2,hy8,hM⟩:=zC ho0;refine nK 1 rfl rfl rfl h14 hy8 ?_;intro ad2 ccs2 hat2 hcc hrep2;obtain rfl:=hrep2;refine zCu 1 0 hat2 hcc [.bool x2] (.bool x2) rfl rfl<|yK 7 [] [(50,.bool x2)] ?_;cases hc3:x2 with
     | true =>
      have hM0:=zW hc3 hM
      try rw [hc3]
      refine yK 13 [] [(56,.bool true)] ?_;obtain ⟨x3,hy9,hM⟩:=zC hM0;refine nK 1 rfl rfl rfl h14 hy9 ?_;intro ad3 ccs3 hat3 hcc1 hrep3;obtain rfl:=hrep3;obtain ⟨l,hy10,hM⟩:=zC hM;refine qX (c:=[.bool true]) (x':=true) 1 0 rfl rfl rfl hat3 rfl rfl hcc1 (by kernel_rfl) (by kernel_rfl) (by kernel_rfl) h14 hy9 (by kernel_rfl) rfl ?_;rw [show input3.set x1.toNat true=l from zD hy10];intro cs9 h17 hl0;exact kJ (m':=[(1,vP b 0),(5,vS p4 written1 c3),(6,vS p9 input3 c8),(10,vI y7),(26,vS p3 y1 c2),(27,vI (y1.length:Int)),(28,vI t28),(38,vS p8 y6 c7),(39,vI (y6.length:Int)),(40,vI t40),(44,vS p9 input3 c8),(45,vI x1),(56,.bool true)]) ⟨rfl,rfl,rfl,rfl,rfl,rfl,rfl,rfl,rfl,rfl,rfl,rfl,rfl,trivial⟩<|zCM (hs':=[hO Bool (vS p4 written1 c3) cs3,hO Bool (vS p9 l c8) cs9,hB b (cProg p p1 c p2 c1)]) (m':=[(1,vP b 0),(5,vS p4 written1 c3),(6,vS p9 l c8),(10,vI y7),(26,vS p3 y1 c2),(27,vI (y1.length:Int)),(28,vI t28),(38,vS p8 y6 c7),(39,vI (y6.length:Int)),(40,vI t40),(44,vS p9 l c8),(45,vI x1),(56,.bool true)]) (by first | rfl | simp only [vS,hl0,List.nil_append,List.cons_append,List.set_cons_zero,List.set_cons_succ,List.eraseIdx_cons_zero,List.eraseIdx_cons_succ]) (by first | rfl | simp only [vS,hl0])<|yN rfl<|yT [(1,vP b 0),(5,vS p4 written1 c3),(6,vS p9 l c8),(10,vI y7),(26,vS p3 y1 c2),(27,vI (y1.length:Int)),(28,vI t28),(38,vS p8 y6 c7),(39,vI (y6.length:Int)),(40,vI t40)]<|yB ⟨_,_,_,_,(zD hM).symm,hle,h17,rfl,rfl⟩
     | false =>
      have hM01:=zU hc3 hM
      try rw [hc3]
      refine yK 9 [] [(51,vS p4 written1 c3),(52,vI x1)] ?_;obtain ⟨x4,hy11,hM⟩:=zC hM01;refine nK 0 rfl rfl rfl h8 hy11 ?_;intro ad4 ccs4 hat4 hcc2 hrep4;obtain rfl:=hrep4;refine zCu 0 0 hat4 hcc2 [.bool x4] (.bool x4) rfl rfl<|yK 13 [] [(56,.bool (!x4))] ?_;obtain ⟨x5,hy12,hM⟩:=zC hM;refine nK 1 rfl rfl rfl h14 hy12 ?_;intro ad5 ccs5 hat5 hcc3 hrep5;obtain rfl:=hrep5;obtain ⟨l1,hy13,hM⟩:=zC hM;refine qX (c:=[.bool (!x4)]) (x':=(!x4)) 1 0 rfl rfl rfl hat5 rfl rfl hcc3 (by kernel_rfl) (by kernel_rfl) (by kernel_rfl) h14 hy12 (by kernel_rfl) rfl ?_;rw [show input3.set x1.toNat (!x4)=l1 from zD hy13];intro cs10 h18 hl01;exact kJ (m':=[(1,vP b 0),(5,vS p4 written1 c3),(6,vS p9 input3 c8),(10,vI y7),(26,vS p3 y1 c2),(27,vI (y1.length:Int)),(28,vI t28),(38,vS p8 y6 c7),(39,vI (y6.length:Int)),(40,vI t40),(44,vS p9 input3 c8),(45,vI x1),(56,.bool (!x4))]) ⟨rfl,rfl,rfl,rfl,rfl,rfl,rfl,rfl,rfl,rfl,rfl,rfl,rfl,trivial⟩<|zCM (hs':=[hO Bool (vS p4 written1 c3) cs3,hO Bool (vS p9 l1 c8) cs10,hB b (cProg p p1 c p2 c1)]) (m':=[(1,vP b 0),(5,vS p4 written1 c3),(6,vS p9 l1 c8),(10,vI y7),(26,vS p3 y1 c2),(27,vI (y1.length:Int)),(28,vI t28),(38,vS p8 y6 c7),(39,vI (y6.length:Int)),(40,vI t40),(44,vS p9 l1 c8),(45,vI x1),(56,.bool (!x4))]) (by first | rfl | simp only [vS,hl01,List.nil_append,List.cons_append,List.set_cons_zero,List.set_cons_succ,List.eraseIdx_cons_zero,List.eraseIdx_cons_succ]) (by first | rfl | simp only [vS,hl01])<|yN rfl<|yT [(1,vP b 0),(5,vS p4 written1 c3),(6,vS p9 l1 c8),(10,vI y7),(26,vS p3 y1 c2),(27,vI (y1.length:Int)),(28,vI t28),(38,vS p8 y6 c7),(39,vI (y6.length:Int)),(40,vI t40)]<|yB ⟨_,_,_,_,(zD hM).symm,hle,h18,rfl,rfl⟩
   rintro imm05 hs2 m2 ⟨input5,p11,c10,cs8,heq,le5,h16,rfl,rfl⟩;subst o0;have h8:=iM le5 h8;have h2:=h2.mono le5;have h12:=h12.mono le5;have h:=h.mono le5;have h1:=h1.mono le5;have hle:=hle.trans le5;exact zY<|zE<|zB<|yA [] [(40,vI (W (t40 + 1)))]<|xD<|vQ [(1,vP b 0),(5,vS p4 written1 c3),(6,vS p11 input5 c10),(10,vI y7),(26,vS p3 y1 c2),(27,vI (y1.length:Int)),(28,vI t28),(38,vS p8 y6 c7),(39,vI (y6.length:Int)),(40,vI (W (t40 + 1)))]<|ih input5 (W (t40 + 1)) _ hMc hle h8 h2 h12 h h1 h16 hg ho hx
 intro hc2 hM;exact xA<|zS<|zS<|yT [(1,vP b 0),(5,vS p4 written1 c3),(6,vS p9 input3 c8),(10,vI y7),(26,vS p3 y1 c2),(27,vI (y1.length:Int)),(28,vI t28)]<|hx _ _ _ _ _ (zD hM).symm hle h14
def M.impl_InputCells_l1 (p:zV) (y1:(List zT)) (written1:List Bool) (input1:List Bool) (t28:Int):Option (List Bool):=do
 if (decide (t28 < (y1.length:Int))) then
  let x←idx y1 t28
  let (y6,y7)←sX p x
  let input4←M.impl_InputCells_l2 written1 y6 input1 0
  let x6←idx written1 y7
  let l2←pure (written1.set y7.toNat true)
  M.impl_InputCells_l1 p y1 l2 input4 (W (t28 + 1))
 else
  pure (id input1)
 partial_fixpoint
theorem impl_InputCells_l1_ok (p:zV) (y1:(List zT)):∀ (written1:List Bool) (input1:List Bool) (t28:Int) (o:List Bool),M.impl_InputCells_l1 p y1 written1 input1 t28=some o→∀ {B}{imm0 imm:Imm}{Q p1 c p2 c1}{b:Nat}{p3 c2 p4 c3 cs3 p5 c4 cs4},imm0.le imm→(S4 imm p3 y1 c2)→(S4 imm p1 p.Arrays c)→(S4 imm p2 p.Parts c1)→(RL imm cs3 written1)→(RL imm cs4 input1)→(∀ gl a w,¬Q (.goto gl) a w)→(∀ a w,¬Q .outgrown a w)→(∀ (imm':Imm) (input2:List Bool) (p6:Option Addr) (c5:Nat) (cs5:List Value),o=input2→imm0.le imm'→(RL imm' cs5 input2)→T 65 B Q (.exit 0) imm' [hO Bool (vS p6 input2 c5) cs5] [(6,vS p6 input2 c5)])→J Tryz.prog 65 B (nav (bodyOf Tryz.f21) [1,1,1,1,0,1,0]) Q imm [hO Bool (vS p4 written1 c3) cs3,hO Bool (vS p5 input1 c4) cs4,hB b (cProg p p1 c p2 c1)] [(1,vP b 0),(5,vS p4 written1 c3),(6,vS p5 input1 c4),(26,vS p3 y1 c2),(27,vI (y1.length:Int)),(28,vI t28)]:=by
 refine M.impl_InputCells_l1.partial_correctness p y1 _ ?_;intro self ih written1 input1 t28 o hM B imm0 imm Q p1 c p2 c1 b p3 c2 p4 c3 cs3 p5 c4 cs4 hle h2 h h1 h8 h9 hg ho hx;refine xC hg ho<|zF<|zB<|yA [] [(29,.bool (decide (t28 < (y1.length:Int))))]<|zE<|zF<|yO hM ?_ ?_
 · intro hc1 hM;refine yE<|zE<|zF<|yC<|zF<|zB ?_;obtain ⟨x,hy5,hM⟩:=zC hM;refine wJ rfl rfl h2 hy5 ?_;intro ad ccs hat hrep;obtain ⟨v04,rfl,h11⟩:=zAm hrep;obtain ⟨p7,c6,rfl⟩:=h11.form;refine xS 0 hat (cInst x p7 c6) (vA (cInst x p7 c6)) rfl<|uD [vI 0,vI 0,z0] ?_;intro b3 hb1;refine xJ 0 (cInst x p7 c6) [hB b3 (cInst x p7 c6),hO Bool (vS p4 written1 c3) cs3,hO Bool (vS p5 input1 c4) cs4,hB b (cProg p p1 c p2 c1)] rfl rfl rfl rfl<|yN rfl<|zE<|zF<|zB<|yK 2 [3,0] [(33,vA (cProg p p1 c p2 c1)),(34,vA (cInst x p7 c6))] ?_;obtain ⟨⟨y6,y7⟩,hy6,hM⟩:=zC hM;refine yR (fQ p x _ hy6 h h1 h11) ?_;rintro imm04 hs2 v2 k2 le4 - ⟨v05,v06,rfl,rfl,h12,rfl⟩ -;have h8:=iM le4 h8;have h9:=iM le4 h9;have h2:=h2.mono le4;have h:=h.mono le4;have h1:=h1.mono le4;have hle:=hle.trans le4;obtain ⟨p8,c7,rfl⟩:=h12.form;refine yA [] [(9,vS p8 y6 c7),(10,vI y7)]<|zE<|zF<|zF<|zB<|yA [] [(38,vS p8 y6 c7),(39,vI (y6.length:Int)),(40,vI 0)]<|zE<|yC<|qA (zK [1,2,3] (hs':=[hO Bool (vS p4 written1 c3) cs3,hO Bool (vS p5 input1 c4) cs4,hB b (cProg p p1 c p2 c1)]) rfl (by decide))<|vQ [(1,vP b 0),(5,vS p4 written1 c3),(6,vS p5 input1 c4),(10,vI y7),(26,vS p3 y1 c2),(27,vI (y1.length:Int)),(28,vI t28),(38,vS p8 y6 c7),(39,vI (y6.length:Int)),(40,vI 0)] ?_;obtain ⟨o01,ho01,hMl⟩:=zC hM;refine impl_InputCells_l2_ok written1 y6 input1 0 o01 ho01 iR h8 h2 h12 h h1 h9 (fun _ _ _ h=>hg _ _ _ h) (fun _ _ h=>ho _ _ h) ?_;intro imm06 input4 p10 c9 cs7 heq1 le6 h15;subst o01;have h8:=iM le6 h8;have h2:=h2.mono le6;have h:=h.mono le6;have h1:=h1.mono le6;have hle:=hle.trans le6;refine yD<|zE<|zB<|yK 2 [] [(59,vS p4 written1 c3),(60,vI y7)] ?_;obtain ⟨x6,hy14,hM⟩:=zC hMl;refine nK 0 rfl rfl rfl h8 hy14 ?_;intro ad6 ccs6 hat6 hcc4 hrep6;obtain rfl:=hrep6;obtain ⟨l2,hy15,hM⟩:=zC hM;refine qX (c:=[.bool true]) (x':=true) 0 0 rfl rfl rfl hat6 rfl rfl hcc4 (by kernel_rfl) (by kernel_rfl) (by kernel_rfl) h8 hy14 (by kernel_rfl) rfl ?_;rw [show written1.set y7.toNat true=l2 from zD hy15];intro cs11 h19 hl02;exact kJ (m':=[(1,vP b 0),(5,vS p4 written1 c3),(6,vS p10 input4 c9),(26,vS p3 y1 c2),(27,vI (y1.length:Int)),(28,vI t28),(59,vS p4 written1 c3),(60,vI y7)]) ⟨rfl,rfl,rfl,rfl,rfl,rfl,rfl,rfl,trivial⟩<|zCM (hs':=[hO Bool (vS p4 l2 c3) cs11,hO Bool (vS p10 input4 c9) cs7,hB b (cProg p p1 c p2 c1)]) (m':=[(1,vP b 0),(5,vS p4 l2 c3),(6,vS p10 input4 c9),(26,vS p3 y1 c2),(27,vI (y1.length:Int)),(28,vI t28),(59,vS p4 l2 c3),(60,vI y7)]) (by first | rfl | simp only [vS,hl02,List.nil_append,List.cons_append,List.set_cons_zero,List.set_cons_succ,List.eraseIdx_cons_zero,List.eraseIdx_cons_succ]) (by first | rfl | simp only [vS,hl02])<|yN rfl<|zY<|zE<|zB<|yA [] [(28,vI (W (t28 + 1)))]<|xD<|vQ [(1,vP b 0),(5,vS p4 l2 c3),(6,vS p10 input4 c9),(26,vS p3 y1 c2),(27,vI (y1.length:Int)),(28,vI (W (t28 + 1)))]<|ih l2 input4 (W (t28 + 1)) _ hM hle h2 h h1 h19 h15 hg ho hx
 intro hc1 hM;exact xA<|zS<|zS<|wD (zK [1] rfl (by decide))<|yT [(6,vS p5 input1 c4)]<|hx _ _ _ _ _ (zD hM).symm hle h9
def M.impl_InputCells (p:zV):Option ((List Int)):=do
 let (y1,y2)←tV p
 if (!y2) then
  pure ([]:List Int)
 else
  let y3←M.impl_Program_cells p
  let written←mkrow 1 y3 (false:Bool)
  let y4←M.impl_Program_cells p
  let input←mkrow 1 y4 (false:Bool)
  let input2←M.impl_InputCells_l1 p y1 written input 0
  let y8←M.impl_chosen input2
  pure (id y8)
theorem impl_InputCells_ok:∀ (p:zV) r,M.impl_InputCells p=some r→∀ {imm:Imm}{p1 c p2 c1},(S4 imm p1 p.Arrays c)→(S4 imm p2 p.Parts c1)→Ret Tryz.prog 21 [vA (cProg p p1 c p2 c1)] imm [] (impl_InputCells_post  r):=by
 intro p r hM imm p1 c p2 c1 h h1;unfold M.impl_InputCells at hM;refine yG (fn:=Tryz.f21) (c:=(bodyOf Tryz.f21)) Tryz.func21 rfl rfl ?_;rintro B - -;have hle:=iS imm;refine zF<|zB<|tR (cProg p p1 c p2 c1) ?_;intro b hb;refine yA [] []<|zE<|zF<|zB<|yK 1 [0] [(14,vA (cProg p p1 c p2 c1))] ?_;obtain ⟨⟨y1,y2⟩,hy,hM⟩:=zC hM;refine yR (jX p _ hy h h1) ?_;rintro imm0 hs2 v2 k2 le - ⟨v0,v01,rfl,rfl,h2,rfl⟩ -;have h:=h.mono le;have h1:=h1.mono le;have hle:=hle.trans le;obtain ⟨p3,c2,rfl⟩:=h2.form;refine yA [] [(3,vS p3 y1 c2),(4,.bool y2)]<|zE<|zF<|zF<|zB<|yA [] [(19,.bool (!y2))]<|zE<|yO hM ?_ ?_
 · intro hc hM;refine zF<|zB<|yA [] [(2,z0)]<|zE<|yJ<|zR ?_;obtain rfl:=zD hM;exact yQ ⟨_,_,(.tmp rfl ResV.nil),zX,⟨_,rfl,rfl,(SL.nil _)⟩⟩
 intro hc hM;refine yE<|zE<|zF ?_;obtain ⟨y3,hy1,hM⟩:=zC hM;obtain ⟨written,hy2,hM⟩:=zC hM;obtain ⟨y4,hy3,hM⟩:=zC hM;obtain ⟨input,hy4,hM⟩:=zC hM;refine uA [.p (vA (cProg p p1 c p2 c1)) [0],.q (vI y3),.x (fun imm' v hx=>∃ b1 cs,v=vS (some ⟨b1,0,none⟩) written written.length∧hx=[hO Bool (vS (some ⟨b1,0,none⟩) written written.length) cs]∧(RL imm' cs written)),.p (vA (cProg p p1 c p2 c1)) [0],.q (vI y4),.x (fun imm' v hx=>∃ b2 cs1,v=vS (some ⟨b2,0,none⟩) input input.length∧hx=[hO Bool (vS (some ⟨b2,0,none⟩) input input.length) cs1]∧(RL imm' cs1 input)),.x (fun imm' v hx=>∃ b11 cs2,v=vS (some ⟨b11,0,none⟩) written written.length∧hx=[hO Bool (vS (some ⟨b11,0,none⟩) written written.length) cs2]∧(RL imm' cs2 written))] [[],[(0,false)],[(1,false)],[],[(3,false)],[(4,false)],[(2,true)]] [hB b (cProg p p1 c p2 c1)] [] [(5,true),(6,true)] (zK [0] rfl (by decide)) ?_ ?_
 · refine Op<|Oq ?_<|Ox ?_<|Op<|Oq ?_<|Ox ?_<|Ox ?_<|On
   · intro imm1 hf le1;refine zG ?_;rintro _ _ ⟨rfl,rfl⟩;refine zN<|yH [(20,vA (cProg p p1 c p2 c1))] ?_;have hle:=iS imm1;have h:=h.mono le1;have h1:=h1.mono le1;refine yR (impl_Program_cells_ok p _ hy1 h h1) ?_;rintro imm01 hs2 v2 k2 le1 - ⟨v02,rfl,rfl,rfl⟩ -;have hle:=hle.trans le1;exact zZ (hx:=[]) rfl hle rfl (zM rfl) ⟨rfl,rfl⟩
   · intro imm1 hf le1;refine zG ?_;rintro _ _ ⟨rfl,rfl⟩;refine zN<|yH [(21,vI y3)] ?_;have hle:=iS imm1;refine R_mk 1 [.bool false] rfl hy2 rfl ?_;intro b1 cs h5;exact zZ (hx:=[hO Bool (vS (some ⟨b1,0,none⟩) written written.length) cs]) rfl hle rfl (zM rfl) ⟨_,_,rfl,rfl,h5⟩
   · intro imm1 hf le1;refine zG ?_;rintro _ _ ⟨rfl,rfl⟩;refine zN<|yH [(23,vA (cProg p p1 c p2 c1))] ?_;have hle:=iS imm1;have h:=h.mono le1;have h1:=h1.mono le1;refine yR (impl_Program_cells_ok p _ hy3 h h1) ?_;rintro imm02 hs2 v2 k2 le2 - ⟨v03,rfl,rfl,rfl⟩ -;have hle:=hle.trans le2;exact zZ (hx:=[]) rfl hle rfl (zM rfl) ⟨rfl,rfl⟩
   · intro imm1 hf le1;refine zG ?_;rintro _ _ ⟨rfl,rfl⟩;refine zN<|yH [(24,vI y4)] ?_;have hle:=iS imm1;refine R_mk 1 [.bool false] rfl hy4 rfl ?_;intro b2 cs1 h7;exact zZ (hx:=[hO Bool (vS (some ⟨b2,0,none⟩) input input.length) cs1]) rfl hle rfl (zM rfl) ⟨_,_,rfl,rfl,h7⟩
   intro imm1 hf le1;refine zG ?_;rintro _ _ ⟨b1,cs,rfl,rfl,h5⟩;refine zN<|yH [(22,vS (some ⟨b1,0,none⟩) written written.length)] ?_;have hle:=iS imm1;exact qV 7 [(5,vS (some ⟨b1,0,none⟩) written written.length)]<|zZ (hx:=[hO Bool (vS (some ⟨b1,0,none⟩) written written.length) cs]) rfl hle rfl (zM rfl) ⟨_,_,rfl,rfl,h5⟩
 intro imm03 le3;refine zG ?_;rintro _ _ ⟨b2,cs1,rfl,rfl,h7⟩;refine zG ?_;rintro _ _ ⟨b11,cs2,rfl,rfl,h51⟩;refine zN<|yH [(1,vP b 0),(3,vS p3 y1 c2),(5,vS (some ⟨b11,0,none⟩) written written.length),(25,vS (some ⟨b2,0,none⟩) input input.length)] ?_;have h2:=h2.mono le3;have h:=h.mono le3;have h1:=h1.mono le3;refine yA [] [(6,vS (some ⟨b2,0,none⟩) input input.length)]<|zE<|zF<|zF<|zB<|yA [] [(26,vS p3 y1 c2),(27,vI (y1.length:Int)),(28,vI 0)]<|zE<|yC<|vQ [(1,vP b 0),(5,vS (some ⟨b11,0,none⟩) written written.length),(6,vS (some ⟨b2,0,none⟩) input input.length),(26,vS p3 y1 c2),(27,vI (y1.length:Int)),(28,vI 0)] ?_;obtain ⟨o02,ho02,hMl1⟩:=zC hM;refine impl_InputCells_l1_ok p y1 written input 0 o02 ho02 iR h2 h h1 h51 h7 (fun _ _ _ h=>h) (fun _ _ h=>h) ?_;intro imm07 input2 p6 c5 cs5 heq2 le7 h10;subst o02;refine yD<|zE<|zF<|zB<|yK 1 [] [(63,vS p6 input2 c5)]<|yL 0 rfl ?_;intro imm08 le8 hl03;have h20:=SL.of_frozen hl03 le8 h10;obtain ⟨y8,hy16,hM⟩:=zC hMl1;refine yR (impl_chosen_ok input2 _ hy16 h20) ?_;rintro imm09 hs2 v2 k2 le9 - ⟨v07,rfl,rfl,h21⟩ -;obtain ⟨p12,c11,rfl⟩:=h21.form;refine yA [] [(2,vS p12 y8 c11)]<|zE<|yJ ?_;obtain rfl:=zD hM;exact yQ ⟨_,_,(.tmp rfl ResV.nil),zX,⟨_,rfl,rfl,h21⟩⟩
def spec_InputCells_post (r:(List Int)):KT:=fun kk imm' hs' v=>
  ∃ v0,hs'=[]∧v=tupV [v0]∧SL imm' v0 r
def M.spec_InputCells_l2 (written1:List Bool) (y5:(List Int)) (flags3:List Bool) (k0:Int):Option (List Bool):=do
 if (decide (k0 < (y5.length:Int))) then
  let flags5←(do
    let x5←idx y5 k0
    let x6←idx y5 k0
    let x7←idx flags3 x6
    if x7 then
     let x8←idx flags3 x5
     let l←pure (flags3.set x5.toNat true)
     pure (id l)
    else
     let x9←idx y5 k0
     let x10←idx written1 x9
     let x11←idx flags3 x5
     let l1←pure (flags3.set x5.toNat (!x10))
     pure (id l1)
      : Option (List Bool))
  M.spec_InputCells_l2 written1 y5 flags5 (W (k0 + 1))
 else
  pure (id flags3)
 partial_fixpoint
theorem spec_InputCells_l2_ok (written1:List Bool) (y5:(List Int)):∀ (flags3:List Bool) (k0:Int) (o:List Bool),M.spec_InputCells_l2 written1 y5 flags3 k0=some o→∀ {B}{imm0 imm:Imm}{Q}{p:zV}{y3:(List zT)}{i:Int}{y6:Int}{p1 c p2 c1}{b:Nat}{p3 c2 p5 c4 cs3 p16111 c15111 p17 c16 cs5},imm0.le imm→(RL imm cs3 written1)→(S4 imm p3 y3 c2)→(S4 imm p16111 y5 c15111)→(S4 imm p1 p.Arrays c)→(S4 imm p2 p.Parts c1)→(RL imm cs5 flags3)→(∀ gl a w,¬Q (.goto gl) a w)→(∀ a w,¬Q .outgrown a w)→(∀ (imm':Imm) (flags4:List Bool) (p18:Option Addr) (c17:Nat) (cs6:List Value),o=flags4→imm0.le imm'→(RL imm' cs6 flags4)→T 92 B Q (.exit 2) imm' [hO Bool (vS p5 written1 c4) cs3,hO Bool (vS p18 flags4 c17) cs6,hB b (cProg p p1 c p2 c1)] [(1,vP b 0),(3,vS p18 flags4 c17),(4,vS p5 written1 c4),(5,vS p3 y3 c2),(6,vI i),(8,vI y6)])→J Tryz.prog 92 B (nav (bodyOf Tryz.f22) [1,1,1,1,1,0,1,0,0,1,0,0,1,0,1,0]) Q imm [hO Bool (vS p5 written1 c4) cs3,hO Bool (vS p17 flags3 c16) cs5,hB b (cProg p p1 c p2 c1)] [(1,vP b 0),(3,vS p17 flags3 c16),(4,vS p5 written1 c4),(5,vS p3 y3 c2),(6,vI i),(7,vS p16111 y5 c15111),(8,vI y6),(10,vI k0)]:=by
 refine M.spec_InputCells_l2.partial_correctness written1 y5 _ ?_;intro self ih flags3 k0 o hM B imm0 imm Q p y3 i y6 p1 c p2 c1 b p3 c2 p5 c4 cs3 p16111 c15111 p17 c16 cs5 hle h11 h9 h22111 h h1 h25 hg ho hx;refine xC hg ho<|zF<|zF<|zB<|yA [] [(61,.bool (decide (k0 < (y5.length:Int))))]<|zE<|yO hM ?_ ?_
 · intro hc2 hM;refine yE<|zE<|zF<|yC ?_;obtain ⟨o0,ho0,hMc⟩:=zC hM;refine yU (fun imm' hs' m'=>∃ (flags5:List Bool) (p19:Option Addr) (c18:Nat) (cs7:List Value),o0=flags5∧imm.le imm'∧(RL imm' cs7 flags5)∧hs'=[hO Bool (vS p5 written1 c4) cs3,hO Bool (vS p19 flags5 c18) cs7,hB b (cProg p p1 c p2 c1)]∧m'=[(1,vP b 0),(3,vS p19 flags5 c18),(4,vS p5 written1 c4),(5,vS p3 y3 c2),(6,vI i),(7,vS p16111 y5 c15111),(8,vI y6),(10,vI k0)]) ?_ ?_
   · have hle:=iS imm;obtain ⟨x5,hy12,hM⟩:=zC ho0;obtain ⟨x6,hy13,hM⟩:=zC hM;obtain ⟨x7,hy14,hM⟩:=zC hM;cases hc3:x7 with
     | true =>
      have hM0:=zW hc3 hM;refine uA [.p (vS p17 flags3 c16) [],.p (vS p16111 y5 c15111) [],.p (vI k0) [],.x (fun imm' v hx=>∃ ad6,v=.pointer (some ad6)∧hx=[]∧(At imm' ad6 [vI x5])),.q (vI x5),.p (vS p17 flags3 c16) [],.p (vS p16111 y5 c15111) [],.p (vI k0) [],.x (fun imm' v hx=>∃ ad7,v=.pointer (some ad7)∧hx=[]∧(At imm' ad7 [vI x6])),.q (vI x6),.x (fun imm' v hx=>∃ ad8,v=.pointer (some ad8)∧hx=[]∧(AtO (vS p17 flags3 c16) (Rp.sz Bool) x6.toNat ad8)∧((cs5.drop (x6.toNat * Rp.sz Bool)).take (Rp.sz Bool)=[.bool x7])),.q (.bool true),.q (.bool true),.p undef [],.p undef [],.p undef [],.p undef [],.p undef [],.p undef [],.p undef [],.p undef [],.p (.bool true) []] [[],[],[],[(1,false),(2,false)],[(3,false)],[],[],[],[(6,false),(7,false)],[(8,false)],[(5,false),(9,false)],[(10,false)],[(11,false)],[(12,false)],[(12,false)],[(12,false)],[(12,false),(14,false),(15,false)],[(12,false),(16,false)],[(12,false),(13,false),(17,false)],[(12,false),(18,false)],[(12,false),(19,false)],[(12,false),(20,false)]] [hO Bool (vS p5 written1 c4) cs3,hO Bool (vS p17 flags3 c16) cs5,hB b (cProg p p1 c p2 c1)] [] [(0,false),(4,false),(21,false)] (zK [0,1,2] rfl (by decide)) ?_ ?_
      · refine Op<|Op<|Op<|Ox ?_<|Oq ?_<|Op<|Op<|Op<|Ox ?_<|Oq ?_<|Ox ?_<|Oq ?_<|Oq ?_<|Op<|Op<|Op<|Op<|Op<|Op<|Op<|Op<|Op<|On
        · intro imm1 hf le1;refine zG ?_;rintro _ _ ⟨rfl,rfl⟩;refine zG ?_;rintro _ _ ⟨rfl,rfl⟩;refine zN<|yH [(65,vS p16111 y5 c15111),(66,vI k0)] ?_;have hle:=iS imm1;have h22111:=h22111.mono le1;refine wJ rfl rfl h22111 hy12 ?_;intro ad6 ccs5 hat6 hrep5;obtain rfl:=hrep5;exact zZ (hx:=[]) rfl hle rfl (zM rfl) ⟨_,rfl,rfl,hat6⟩
        · intro imm1 hf le1;refine zG ?_;rintro _ _ ⟨ad6,rfl,rfl,hat6⟩;refine zN<|yH [(67,.pointer (some ad6))] ?_;have hle:=iS imm1;exact xS 0 hat6 [vI x5] (vI x5) rfl<|zZ (hx:=[]) rfl hle rfl (zM rfl) ⟨rfl,rfl⟩
        · intro imm1 hf le1;refine zG ?_;rintro _ _ ⟨rfl,rfl⟩;refine zG ?_;rintro _ _ ⟨rfl,rfl⟩;refine zN<|yH [(70,vS p16111 y5 c15111),(71,vI k0)] ?_;have hle:=iS imm1;have h22111:=h22111.mono le1;refine wJ rfl rfl h22111 hy13 ?_;intro ad7 ccs6 hat7 hrep6;obtain rfl:=hrep6;exact zZ (hx:=[]) rfl hle rfl (zM rfl) ⟨_,rfl,rfl,hat7⟩
        · intro imm1 hf le1;refine zG ?_;rintro _ _ ⟨ad7,rfl,rfl,hat7⟩;refine zN<|yH [(72,.pointer (some ad7))] ?_;have hle:=iS imm1;exact xS 0 hat7 [vI x6] (vI x6) rfl<|zZ (hx:=[]) rfl hle rfl (zM rfl) ⟨rfl,rfl⟩
        · intro imm1 hf le1;refine zG ?_;rintro _ _ ⟨rfl,rfl⟩;refine zG ?_;rintro _ _ ⟨rfl,rfl⟩;refine zN<|yH [(69,vS p17 flags3 c16),(73,vI x6)] ?_;have hle:=iS imm1;have h25:=iM le1 h25;refine nK 1 rfl rfl rfl h25 hy14 ?_;intro ad8 ccs7 hat8 hcc hrep7;obtain rfl:=hrep7;exact zZ (hx:=[]) rfl hle rfl (zM rfl) ⟨_,rfl,rfl,hat8,hcc⟩
        · intro imm1 hf le1;refine zG ?_;rintro _ _ ⟨ad8,rfl,rfl,hat8,hcc⟩;refine zN<|yH [(74,.pointer (some ad8))] ?_;have hle:=iS imm1;refine zCu 1 0 hat8 hcc [.bool x7] (.bool x7) rfl rfl ?_;rw [hc3];exact zZ (hx:=[]) rfl hle rfl (zM rfl) ⟨rfl,rfl⟩
        intro imm1 hf le1;refine zG ?_;rintro _ _ ⟨rfl,rfl⟩;refine zN<|yH [(75,.bool true)] ?_;have hle:=iS imm1;exact qV 13 [(76,.bool true)]<|zZ (hx:=[]) rfl hle rfl (zM rfl) ⟨rfl,rfl⟩
      intro imm08 le7;refine zG ?_;rintro _ _ ⟨rfl,rfl⟩;refine zG ?_;rintro _ _ ⟨rfl,rfl⟩;refine zG ?_;rintro _ _ ⟨rfl,rfl⟩;refine zN<|yH [(1,vP b 0),(3,vS p17 flags3 c16),(4,vS p5 written1 c4),(5,vS p3 y3 c2),(6,vI i),(7,vS p16111 y5 c15111),(8,vI y6),(10,vI k0),(64,vS p17 flags3 c16),(68,vI x5),(85,.bool true)] ?_;have h25:=iM le7 h25;have hle:=hle.trans le7;obtain ⟨x8,hy15,hM⟩:=zC hM0;refine nK 1 rfl rfl rfl h25 hy15 ?_;intro ad9 ccs8 hat9 hcc1 hrep8;obtain rfl:=hrep8;obtain ⟨l,hy16,hM⟩:=zC hM;refine qX (c:=[.bool true]) (x':=true) 1 0 rfl rfl rfl hat9 rfl rfl hcc1 (by kernel_rfl) (by kernel_rfl) (by kernel_rfl) h25 hy15 (by kernel_rfl) rfl ?_;rw [show flags3.set x5.toNat true=l from zD hy16];intro cs8 h28 hl01;exact kJ (m':=[(1,vP b 0),(3,vS p17 flags3 c16),(4,vS p5 written1 c4),(5,vS p3 y3 c2),(6,vI i),(7,vS p16111 y5 c15111),(8,vI y6),(10,vI k0),(64,vS p17 flags3 c16),(68,vI x5),(85,.bool true)]) ⟨rfl,rfl,rfl,rfl,rfl,rfl,rfl,rfl,rfl,rfl,rfl,trivial⟩<|zCM (hs':=[hO Bool (vS p5 written1 c4) cs3,hO Bool (vS p17 l c16) cs8,hB b (cProg p p1 c p2 c1)]) (m':=[(1,vP b 0),(3,vS p17 l c16),(4,vS p5 written1 c4),(5,vS p3 y3 c2),(6,vI i),(7,vS p16111 y5 c15111),(8,vI y6),(10,vI k0),(64,vS p17 l c16),(68,vI x5),(85,.bool true)]) (by first | rfl | simp only [vS,hl01,List.nil_append,List.cons_append,List.set_cons_zero,List.set_cons_succ,List.eraseIdx_cons_zero,List.eraseIdx_cons_succ]) (by first | rfl | simp only [vS,hl01])<|yN rfl<|yT [(1,vP b 0),(3,vS p17 l c16),(4,vS p5 written1 c4),(5,vS p3 y3 c2),(6,vI i),(7,vS p16111 y5 c15111),(8,vI y6),(10,vI k0)]<|yB ⟨_,_,_,_,(zD hM).symm,hle,h28,rfl,rfl⟩
     | false =>
      have hM01:=zU hc3 hM;obtain ⟨x9,hy17,hM⟩:=zC hM01;obtain ⟨x10,hy18,hM⟩:=zC hM;refine uA [.p (vS p17 flags3 c16) [],.p (vS p16111 y5 c15111) [],.p (vI k0) [],.x (fun imm' v hx=>∃ ad6,v=.pointer (some ad6)∧hx=[]∧(At imm' ad6 [vI x5])),.q (vI x5),.p (vS p17 flags3 c16) [],.p (vS p16111 y5 c15111) [],.p (vI k0) [],.x (fun imm' v hx=>∃ ad7,v=.pointer (some ad7)∧hx=[]∧(At imm' ad7 [vI x6])),.q (vI x6),.x (fun imm' v hx=>∃ ad8,v=.pointer (some ad8)∧hx=[]∧(AtO (vS p17 flags3 c16) (Rp.sz Bool) x6.toNat ad8)∧((cs5.drop (x6.toNat * Rp.sz Bool)).take (Rp.sz Bool)=[.bool x7])),.q (.bool false),.q (.bool false),.p (vS p5 written1 c4) [],.p (vS p16111 y5 c15111) [],.p (vI k0) [],.x (fun imm' v hx=>∃ ad10,v=.pointer (some ad10)∧hx=[]∧(At imm' ad10 [vI x9])),.q (vI x9),.x (fun imm' v hx=>∃ ad11,v=.pointer (some ad11)∧hx=[]∧(AtO (vS p5 written1 c4) (Rp.sz Bool) x9.toNat ad11)∧((cs3.drop (x9.toNat * Rp.sz Bool)).take (Rp.sz Bool)=[.bool x10])),.q (.bool x10),.p (.bool (!x10)) [],.p (.bool (!x10)) []] [[],[],[],[(1,false),(2,false)],[(3,false)],[],[],[],[(6,false),(7,false)],[(8,false)],[(5,false),(9,false)],[(10,false)],[(11,false)],[(12,false)],[(12,false)],[(12,false)],[(12,false),(14,false),(15,false)],[(12,false),(16,false)],[(12,false),(13,false),(17,false)],[(12,false),(18,false)],[(12,false),(19,false)],[(12,false),(20,false)]] [hO Bool (vS p5 written1 c4) cs3,hO Bool (vS p17 flags3 c16) cs5,hB b (cProg p p1 c p2 c1)] [] [(0,false),(4,false),(21,false)] (zK [0,1,2] rfl (by decide)) ?_ ?_
      · refine Op<|Op<|Op<|Ox ?_<|Oq ?_<|Op<|Op<|Op<|Ox ?_<|Oq ?_<|Ox ?_<|Oq ?_<|Oq ?_<|Op<|Op<|Op<|Ox ?_<|Oq ?_<|Ox ?_<|Oq ?_<|Op<|Op<|On
        · intro imm1 hf le1;refine zG ?_;rintro _ _ ⟨rfl,rfl⟩;refine zG ?_;rintro _ _ ⟨rfl,rfl⟩;refine zN<|yH [(65,vS p16111 y5 c15111),(66,vI k0)] ?_;have hle:=iS imm1;have h22111:=h22111.mono le1;refine wJ rfl rfl h22111 hy12 ?_;intro ad6 ccs5 hat6 hrep5;obtain rfl:=hrep5;exact zZ (hx:=[]) rfl hle rfl (zM rfl) ⟨_,rfl,rfl,hat6⟩
        · intro imm1 hf le1;refine zG ?_;rintro _ _ ⟨ad6,rfl,rfl,hat6⟩;refine zN<|yH [(67,.pointer (some ad6))] ?_;have hle:=iS imm1;exact xS 0 hat6 [vI x5] (vI x5) rfl<|zZ (hx:=[]) rfl hle rfl (zM rfl) ⟨rfl,rfl⟩
        · intro imm1 hf le1;refine zG ?_;rintro _ _ ⟨rfl,rfl⟩;refine zG ?_;rintro _ _ ⟨rfl,rfl⟩;refine zN<|yH [(70,vS p16111 y5 c15111),(71,vI k0)] ?_;have hle:=iS imm1;have h22111:=h22111.mono le1;refine wJ rfl rfl h22111 hy13 ?_;intro ad7 ccs6 hat7 hrep6;obtain rfl:=hrep6;exact zZ (hx:=[]) rfl hle rfl (zM rfl) ⟨_,rfl,rfl,hat7⟩
        · intro imm1 hf le1;refine zG ?_;rintro _ _ ⟨ad7,rfl,rfl,hat7⟩;refine zN<|yH [(72,.pointer (some ad7))] ?_;have hle:=iS imm1;exact xS 0 hat7 [vI x6] (vI x6) rfl<|zZ (hx:=[]) rfl hle rfl (zM rfl) ⟨rfl,rfl⟩
        · intro imm1 hf le1;refine zG ?_;rintro _ _ ⟨rfl,rfl⟩;refine zG ?_;rintro _ _ ⟨rfl,rfl⟩;refine zN<|yH [(69,vS p17 flags3 c16),(73,vI x6)] ?_;have hle:=iS imm1;have h25:=iM le1 h25;refine nK 1 rfl rfl rfl h25 hy14 ?_;intro ad8 ccs7 hat8 hcc hrep7;obtain rfl:=hrep7;exact zZ (hx:=[]) rfl hle rfl (zM rfl) ⟨_,rfl,rfl,hat8,hcc⟩
        · intro imm1 hf le1;refine zG ?_;rintro _ _ ⟨ad8,rfl,rfl,hat8,hcc⟩;refine zN<|yH [(74,.pointer (some ad8))] ?_;have hle:=iS imm1;refine zCu 1 0 hat8 hcc [.bool x7] (.bool x7) rfl rfl ?_;rw [hc3];exact zZ (hx:=[]) rfl hle rfl (zM rfl) ⟨rfl,rfl⟩
        · intro imm1 hf le1;refine zG ?_;rintro _ _ ⟨rfl,rfl⟩;refine zN<|yH [(75,.bool false)] ?_;have hle:=iS imm1;exact qV 13 [(76,.bool false)]<|zZ (hx:=[]) rfl hle rfl (zM rfl) ⟨rfl,rfl⟩
        · intro imm1 hf le1;refine zG ?_;rintro _ _ ⟨rfl,rfl⟩;refine zG ?_;rintro _ _ ⟨rfl,rfl⟩;refine zG ?_;rintro _ _ ⟨rfl,rfl⟩;refine zN<|yH [(76,.bool false),(78,vS p16111 y5 c15111),(79,vI k0)] ?_;have hle:=iS imm1;have h22111:=h22111.mono le1;refine wJ rfl rfl h22111 hy17 ?_;intro ad10 ccs9 hat10 hrep9;obtain rfl:=hrep9;exact zZ (hx:=[]) rfl hle rfl (zM rfl) ⟨_,rfl,rfl,hat10⟩
        · intro imm1 hf le1;refine zG ?_;rintro _ _ ⟨rfl,rfl⟩;refine zG ?_;rintro _ _ ⟨ad10,rfl,rfl,hat10⟩;refine zN<|yH [(76,.bool false),(80,.pointer (some ad10))] ?_;have hle:=iS imm1;exact xS 0 hat10 [vI x9] (vI x9) rfl<|zZ (hx:=[]) rfl hle rfl (zM rfl) ⟨rfl,rfl⟩
        · intro imm1 hf le1;refine zG ?_;rintro _ _ ⟨rfl,rfl⟩;refine zG ?_;rintro _ _ ⟨rfl,rfl⟩;refine zG ?_;rintro _ _ ⟨rfl,rfl⟩;refine zN<|yH [(76,.bool false),(77,vS p5 written1 c4),(81,vI x9)] ?_;have hle:=iS imm1;have h11:=iM le1 h11;refine nK 0 rfl rfl rfl h11 hy18 ?_;intro ad11 ccs10 hat11 hcc2 hrep10;obtain rfl:=hrep10;exact zZ (hx:=[]) rfl hle rfl (zM rfl) ⟨_,rfl,rfl,hat11,hcc2⟩
        intro imm1 hf le1;refine zG ?_;rintro _ _ ⟨rfl,rfl⟩;refine zG ?_;rintro _ _ ⟨ad11,rfl,rfl,hat11,hcc2⟩;refine zN<|yH [(76,.bool false),(82,.pointer (some ad11))] ?_;have hle:=iS imm1;exact zCu 0 0 hat11 hcc2 [.bool x10] (.bool x10) rfl rfl<|zZ (hx:=[]) rfl hle rfl (zM rfl) ⟨rfl,rfl⟩
      intro imm09 le8;refine zG ?_;rintro _ _ ⟨rfl,rfl⟩;refine zG ?_;rintro _ _ ⟨rfl,rfl⟩;refine zG ?_;rintro _ _ ⟨rfl,rfl⟩;refine zN<|yH [(1,vP b 0),(3,vS p17 flags3 c16),(4,vS p5 written1 c4),(5,vS p3 y3 c2),(6,vI i),(7,vS p16111 y5 c15111),(8,vI y6),(10,vI k0),(64,vS p17 flags3 c16),(68,vI x5),(85,.bool (!x10))] ?_;have h25:=iM le8 h25;have hle:=hle.trans le8;obtain ⟨x11,hy19,hM⟩:=zC hM;refine nK 1 rfl rfl rfl h25 hy19 ?_;intro ad12 ccs11 hat12 hcc3 hrep11;obtain rfl:=hrep11;obtain ⟨l1,hy20,hM⟩:=zC hM;refine qX (c:=[.bool (!x10)]) (x':=(!x10)) 1 0 rfl rfl rfl hat12 rfl rfl hcc3 (by kernel_rfl) (by kernel_rfl) (by kernel_rfl) h25 hy19 (by kernel_rfl) rfl ?_;rw [show flags3.set x5.toNat (!x10)=l1 from zD hy20];intro cs9 h29 hl02;exact kJ (m':=[(1,vP b 0),(3,vS p17 flags3 c16),(4,vS p5 written1 c4),(5,vS p3 y3 c2),(6,vI i),(7,vS p16111 y5 c15111),(8,vI y6),(10,vI k0),(64,vS p17 flags3 c16),(68,vI x5),(85,.bool (!x10))]) ⟨rfl,rfl,rfl,rfl,rfl,rfl,rfl,rfl,rfl,rfl,rfl,trivial⟩<|zCM (hs':=[hO Bool (vS p5 written1 c4) cs3,hO Bool (vS p17 l1 c16) cs9,hB b (cProg p p1 c p2 c1)]) (m':=[(1,vP b 0),(3,vS p17 l1 c16),(4,vS p5 written1 c4),(5,vS p3 y3 c2),(6,vI i),(7,vS p16111 y5 c15111),(8,vI y6),(10,vI k0),(64,vS p17 l1 c16),(68,vI x5),(85,.bool (!x10))]) (by first | rfl | simp only [vS,hl02,List.nil_append,List.cons_append,List.set_cons_zero,List.set_cons_succ,List.eraseIdx_cons_zero,List.eraseIdx_cons_succ]) (by first | rfl | simp only [vS,hl02])<|yN rfl<|yT [(1,vP b 0),(3,vS p17 l1 c16),(4,vS p5 written1 c4),(5,vS p3 y3 c2),(6,vI i),(7,vS p16111 y5 c15111),(8,vI y6),(10,vI k0)]<|yB ⟨_,_,_,_,(zD hM).symm,hle,h29,rfl,rfl⟩
   rintro imm07 hs2 m2 ⟨flags5,p19,c18,cs7,heq,le9,h27,rfl,rfl⟩;subst o0;have h11:=iM le9 h11;have h9:=h9.mono le9;have h22111:=h22111.mono le9;have h:=h.mono le9;have h1:=h1.mono le9;have hle:=hle.trans le9;exact zY<|zE<|zB<|yA [] [(10,vI (W (k0 + 1)))]<|xD<|vQ [(1,vP b 0),(3,vS p19 flags5 c18),(4,vS p5 written1 c4),(5,vS p3 y3 c2),(6,vI i),(7,vS p16111 y5 c15111),(8,vI y6),(10,vI (W (k0 + 1)))]<|ih flags5 (W (k0 + 1)) _ hMc hle h11 h9 h22111 h h1 h27 hg ho hx
 intro hc2 hM;exact xA<|zS<|zS<|yT [(1,vP b 0),(3,vS p17 flags3 c16),(4,vS p5 written1 c4),(5,vS p3 y3 c2),(6,vI i),(8,vI y6)]<|hx _ _ _ _ _ (zD hM).symm hle h25
def M.spec_InputCells_l1 (p:zV) (y3:(List zT)) (flags1:List Bool) (written1:List Bool) (i:Int):Option (List Bool):=do
 if (decide (i < (y3.length:Int))) then
  let x←idx y3 i
  let x1←idx p.Parts x.Part
  let x2←idx y3 i
  let x3←idx x1.Body x2.Stmt
  let x4←idx y3 i
  let (y5,y6,y7)←qZ p.Arrays x3 x4.Point
  let flags4←M.spec_InputCells_l2 written1 y5 flags1 0
  let x12←idx written1 y6
  let l2←pure (written1.set y6.toNat true)
  M.spec_InputCells_l1 p y3 flags4 l2 (W (i + 1))
 else
  pure (id flags1)
 partial_fixpoint
theorem spec_InputCells_l1_ok (p:zV) (y3:(List zT)):∀ (flags1:List Bool) (written1:List Bool) (i:Int) (o:List Bool),M.spec_InputCells_l1 p y3 flags1 written1 i=some o→∀ {B}{imm0 imm:Imm}{Q p1 c p2 c1}{b:Nat}{p3 c2 p4 c3 cs2 p5 c4 cs3},imm0.le imm→(S4 imm p3 y3 c2)→(S4 imm p1 p.Arrays c)→(S4 imm p2 p.Parts c1)→(RL imm cs2 flags1)→(RL imm cs3 written1)→(∀ gl a w,¬Q (.goto gl) a w)→(∀ a w,¬Q .outgrown a w)→(∀ (imm':Imm) (flags2:List Bool) (p6:Option Addr) (c5:Nat) (cs4:List Value),o=flags2→imm0.le imm'→(RL imm' cs4 flags2)→T 92 B Q (.exit 0) imm' [hO Bool (vS p6 flags2 c5) cs4] [(3,vS p6 flags2 c5)])→J Tryz.prog 92 B (nav (bodyOf Tryz.f22) [1,1,1,1,1,0,1,0]) Q imm [hO Bool (vS p5 written1 c4) cs3,hO Bool (vS p4 flags1 c3) cs2,hB b (cProg p p1 c p2 c1)] [(1,vP b 0),(3,vS p4 flags1 c3),(4,vS p5 written1 c4),(5,vS p3 y3 c2),(6,vI i)]:=by
 refine M.spec_InputCells_l1.partial_correctness p y3 _ ?_;intro self ih flags1 written1 i o hM B imm0 imm Q p1 c p2 c1 b p3 c2 p4 c3 cs2 p5 c4 cs3 hle h9 h h1 h10 h11 hg ho hx;refine xC hg ho<|zF<|zF<|zB<|yA [] [(26,.bool (decide (i < (y3.length:Int))))]<|zE<|yO hM ?_ ?_
 · intro hc1 hM;refine yE<|zE<|zF<|yC<|zF ?_;obtain ⟨x,hy6,hM⟩:=zC hM;obtain ⟨x1,hy7,hM⟩:=zC hM;obtain ⟨x2,hy8,hM⟩:=zC hM;obtain ⟨x3,hy9,hM⟩:=zC hM;obtain ⟨x4,hy10,hM⟩:=zC hM;obtain ⟨⟨y5,y6,y7⟩,hy11,hM⟩:=zC hM;refine uA [.p (vP b 0) [],.p (vS p1 p.Arrays c) [2],.p (vP b 1) [],.p (vS p2 p.Parts c1) [2],.p (vS p3 y3 c2) [],.p (vI i) [],.x (fun imm' v hx=>∃ ad p7 c6,v=.pointer (some ad)∧hx=[]∧(At imm' ad (cInst x p7 c6))∧(S4 imm' p7 x.Point c6)),.x (fun imm' v hx=>∃ ad1 p71 c61,v=.pointer (some ad1)∧hx=[]∧(At imm' ad1 (cInst x p71 c61))∧(S4 imm' p71 x.Point c61)),.q (vI x.Part),.x (fun imm' v hx=>∃ ad2 p8 c7 p9 c8,v=.pointer (some ad2)∧hx=[]∧(At imm' ad2 (cPart x1 p8 c7 p9 c8))∧(S4 imm' p8 x1.Nest c7)∧(S4 imm' p9 x1.Body c8)),.x (fun imm' v hx=>∃ ad21 p81 c71 p91 c81,v=.pointer (some (ad21.add 1))∧hx=[]∧(At imm' ad21 (cPart x1 p81 c71 p91 c81))∧(S4 imm' p81 x1.Nest c71)∧(S4 imm' p91 x1.Body c81)),.x (fun imm' v hx=>∃ p911 c811,v=vS p911 x1.Body c811∧hx=[]∧(S4 imm' p911 x1.Body c811)),.p (vS p3 y3 c2) [],.p (vI i) [],.x (fun imm' v hx=>∃ ad3 p10 c9,v=.pointer (some ad3)∧hx=[]∧(At imm' ad3 (cInst x2 p10 c9))∧(S4 imm' p10 x2.Point c9)),.x (fun imm' v hx=>∃ ad31 p101 c91,v=.pointer (some (ad31.add 1))∧hx=[]∧(At imm' ad31 (cInst x2 p101 c91))∧(S4 imm' p101 x2.Point c91)),.q (vI x2.Stmt),.x (fun imm' v hx=>∃ ad4 p11 c10 p12 c11 p13 c12 p14 c13,v=.pointer (some ad4)∧hx=[]∧(At imm' ad4 (cStmt x3 p11 c10 p12 c11 p13 c12 p14 c13))∧(S4 imm' p11 x3.Write.Subs c10)∧(S4 imm' p12 x3.Value.Index.Coefs c11)∧(S4 imm' p13 x3.Value.Read.Subs c12)∧(S4 imm' p14 x3.Value.Kids c13)),.x (fun imm' v hx=>∃ p111 c101 p121 c111 p131 c121 p141 c131,v=vA (cStmt x3 p111 c101 p121 c111 p131 c121 p141 c131)∧hx=[]∧(S4 imm' p111 x3.Write.Subs c101)∧(S4 imm' p121 x3.Value.Index.Coefs c111)∧(S4 imm' p131 x3.Value.Read.Subs c121)∧(S4 imm' p141 x3.Value.Kids c131)),.p (vS p3 y3 c2) [],.p (vI i) [],.x (fun imm' v hx=>∃ ad5 p15 c14,v=.pointer (some ad5)∧hx=[]∧(At imm' ad5 (cInst x4 p15 c14))∧(S4 imm' p15 x4.Point c14)),.x (fun imm' v hx=>∃ ad51 p151 c141,v=.pointer (some (ad51.add 2))∧hx=[]∧(At imm' ad51 (cInst x4 p151 c141))∧(S4 imm' p151 x4.Point c141)),.x (fun imm' v hx=>∃ p1511 c1411,v=vS p1511 x4.Point c1411∧hx=[]∧(S4 imm' p1511 x4.Point c1411)),.x (fun imm' v hx=>∃ p16 c15,v=.tuple ⟨[vS p16 y5 c15,vI y6,.bool y7]⟩∧hx=[]∧(S4 imm' p16 y5 c15)),.x (fun imm' v hx=>∃ p161 c151,v=.tuple ⟨[vS p161 y5 c151,vI y6,.bool y7]⟩∧hx=[]∧(S4 imm' p161 y5 c151)),.x (fun imm' v hx=>∃ p1611 c1511,v=vS p1611 y5 c1511∧hx=[]∧(S4 imm' p1611 y5 c1511)),.q (vI y6),.q (.bool y7),.x (fun imm' v hx=>∃ p16111 c15111,v=vS p16111 y5 c15111∧hx=[]∧(S4 imm' p16111 y5 c15111)),.p (vI y6) []] [[],[(0,false)],[],[(2,false)],[],[],[(4,false),(5,false)],[(6,false)],[(7,false)],[(3,false),(8,false)],[(9,false)],[(10,false)],[],[],[(12,false),(13,false)],[(14,false)],[(15,false)],[(11,false),(16,false)],[(17,false)],[],[],[(19,false),(20,false)],[(21,false)],[(22,false)],[(1,false),(18,false),(23,false)],[(24,false)],[(25,false)],[(25,false)],[(25,false)],[(26,false)],[(27,false)]] [hO Bool (vS p5 written1 c4) cs3,hO Bool (vS p4 flags1 c3) cs2,hB b (cProg p p1 c p2 c1)] [] [(28,false),(29,false),(30,false)] (zK [0,1,2] rfl (by decide)) ?_ ?_
   · refine Op<|Op<|Op<|Op<|Op<|Op<|Ox ?_<|Ox ?_<|Oq ?_<|Ox ?_<|Ox ?_<|Ox ?_<|Op<|Op<|Ox ?_<|Ox ?_<|Oq ?_<|Ox ?_<|Ox ?_<|Op<|Op<|Ox ?_<|Ox ?_<|Ox ?_<|Ox ?_<|Ox ?_<|Ox ?_<|Oq ?_<|Oq ?_<|Ox ?_<|Op<|On
     · intro imm1 hf le1;refine zG ?_;rintro _ _ ⟨rfl,rfl⟩;refine zG ?_;rintro _ _ ⟨rfl,rfl⟩;refine zN<|yH [(34,vS p3 y3 c2),(35,vI i)] ?_;have hle:=iS imm1;have h9:=h9.mono le1;refine wJ rfl rfl h9 hy6 ?_;intro ad ccs hat hrep;obtain ⟨v04,rfl,h13⟩:=zAm hrep;obtain ⟨p7,c6,rfl⟩:=h13.form;exact zZ (hx:=[]) rfl hle rfl (zM rfl) ⟨_,_,_,rfl,rfl,hat,h13⟩
     · intro imm1 hf le1;refine zG ?_;rintro _ _ ⟨ad,p7,c6,rfl,rfl,hat,h13⟩;refine zN<|yH [(36,.pointer (some ad))] ?_;have hle:=iS imm1;exact qV 8 [(37,.pointer (some ad))]<|zZ (hx:=[]) rfl hle rfl (zM rfl) ⟨_,_,_,rfl,rfl,hat,h13⟩
     · intro imm1 hf le1;refine zG ?_;rintro _ _ ⟨ad1,p71,c61,rfl,rfl,hat1,h131⟩;refine zN<|yH [(37,.pointer (some ad1))] ?_;have hle:=iS imm1;exact xS 0 hat1 [vI x.Part] (vI x.Part) rfl<|zZ (hx:=[]) rfl hle rfl (zM rfl) ⟨rfl,rfl⟩
     · intro imm1 hf le1;refine zG ?_;rintro _ _ ⟨rfl,rfl⟩;refine zG ?_;rintro _ _ ⟨rfl,rfl⟩;refine zN<|yH [(33,vS p2 p.Parts c1),(38,vI x.Part)] ?_;have hle:=iS imm1;have h1:=h1.mono le1;refine wJ rfl rfl h1 hy7 ?_;intro ad2 ccs1 hat2 hrep1;obtain ⟨v05,v06,rfl,h14,h15⟩:=wS hrep1;obtain ⟨p8,c7,rfl⟩:=h14.form;obtain ⟨p9,c8,rfl⟩:=h15.form;exact zZ (hx:=[]) rfl hle rfl (zM rfl) ⟨_,_,_,_,_,rfl,rfl,hat2,h14,h15⟩
     · intro imm1 hf le1;refine zG ?_;rintro _ _ ⟨ad2,p8,c7,p9,c8,rfl,rfl,hat2,h14,h15⟩;refine zN<|yH [(39,.pointer (some ad2))] ?_;have hle:=iS imm1;exact qV 11 [(40,.pointer (some (ad2.add 1)))]<|zZ (hx:=[]) rfl hle rfl (zM rfl) ⟨_,_,_,_,_,rfl,rfl,hat2,h14,h15⟩
     · intro imm1 hf le1;refine zG ?_;rintro _ _ ⟨ad21,p81,c71,p91,c81,rfl,rfl,hat21,h141,h151⟩;refine zN<|yH [(40,.pointer (some (ad21.add 1)))] ?_;have hle:=iS imm1;exact xS 1 hat21 [vS p91 x1.Body c81] (vS p91 x1.Body c81) rfl<|zZ (hx:=[]) rfl hle rfl (zM rfl) ⟨_,_,rfl,rfl,h151⟩
     · intro imm1 hf le1;refine zG ?_;rintro _ _ ⟨rfl,rfl⟩;refine zG ?_;rintro _ _ ⟨rfl,rfl⟩;refine zN<|yH [(42,vS p3 y3 c2),(43,vI i)] ?_;have hle:=iS imm1;have h9:=h9.mono le1;refine wJ rfl rfl h9 hy8 ?_;intro ad3 ccs2 hat3 hrep2;obtain ⟨v07,rfl,h16⟩:=zAm hrep2;obtain ⟨p10,c9,rfl⟩:=h16.form;exact zZ (hx:=[]) rfl hle rfl (zM rfl) ⟨_,_,_,rfl,rfl,hat3,h16⟩
     · intro imm1 hf le1;refine zG ?_;rintro _ _ ⟨ad3,p10,c9,rfl,rfl,hat3,h16⟩;refine zN<|yH [(44,.pointer (some ad3))] ?_;have hle:=iS imm1;exact qV 16 [(45,.pointer (some (ad3.add 1)))]<|zZ (hx:=[]) rfl hle rfl (zM rfl) ⟨_,_,_,rfl,rfl,hat3,h16⟩
     · intro imm1 hf le1;refine zG ?_;rintro _ _ ⟨ad31,p101,c91,rfl,rfl,hat31,h161⟩;refine zN<|yH [(45,.pointer (some (ad31.add 1)))] ?_;have hle:=iS imm1;exact xS 1 hat31 [vI x2.Stmt] (vI x2.Stmt) rfl<|zZ (hx:=[]) rfl hle rfl (zM rfl) ⟨rfl,rfl⟩
     · intro imm1 hf le1;refine zG ?_;rintro _ _ ⟨p911,c811,rfl,rfl,h1511⟩;refine zG ?_;rintro _ _ ⟨rfl,rfl⟩;refine zN<|yH [(41,vS p911 x1.Body c811),(46,vI x2.Stmt)] ?_;have hle:=iS imm1;refine wJ rfl rfl h1511 hy9 ?_;intro ad4 ccs3 hat4 hrep3;obtain ⟨v08,v09,v010,v011,rfl,h17,h18,h19,h20⟩:=wA hrep3;obtain ⟨p11,c10,rfl⟩:=h17.form;obtain ⟨p12,c11,rfl⟩:=h18.form;obtain ⟨p13,c12,rfl⟩:=h19.form;obtain ⟨p14,c13,rfl⟩:=h20.form;exact zZ (hx:=[]) rfl hle rfl (zM rfl) ⟨_,_,_,_,_,_,_,_,_,rfl,rfl,hat4,h17,h18,h19,h20⟩
     · intro imm1 hf le1;refine zG ?_;rintro _ _ ⟨ad4,p11,c10,p12,c11,p13,c12,p14,c13,rfl,rfl,hat4,h17,h18,h19,h20⟩;refine zN<|yH [(47,.pointer (some ad4))] ?_;have hle:=iS imm1;exact xS 0 hat4 (cStmt x3 p11 c10 p12 c11 p13 c12 p14 c13) (vA (cStmt x3 p11 c10 p12 c11 p13 c12 p14 c13)) rfl<|zZ (hx:=[]) rfl hle rfl (zM rfl) ⟨_,_,_,_,_,_,_,_,rfl,rfl,h17,h18,h19,h20⟩
     · intro imm1 hf le1;refine zG ?_;rintro _ _ ⟨rfl,rfl⟩;refine zG ?_;rintro _ _ ⟨rfl,rfl⟩;refine zN<|yH [(49,vS p3 y3 c2),(50,vI i)] ?_;have hle:=iS imm1;have h9:=h9.mono le1;refine wJ rfl rfl h9 hy10 ?_;intro ad5 ccs4 hat5 hrep4;obtain ⟨v012,rfl,h21⟩:=zAm hrep4;obtain ⟨p15,c14,rfl⟩:=h21.form;exact zZ (hx:=[]) rfl hle rfl (zM rfl) ⟨_,_,_,rfl,rfl,hat5,h21⟩
     · intro imm1 hf le1;refine zG ?_;rintro _ _ ⟨ad5,p15,c14,rfl,rfl,hat5,h21⟩;refine zN<|yH [(51,.pointer (some ad5))] ?_;have hle:=iS imm1;exact qV 23 [(52,.pointer (some (ad5.add 2)))]<|zZ (hx:=[]) rfl hle rfl (zM rfl) ⟨_,_,_,rfl,rfl,hat5,h21⟩
     · intro imm1 hf le1;refine zG ?_;rintro _ _ ⟨ad51,p151,c141,rfl,rfl,hat51,h211⟩;refine zN<|yH [(52,.pointer (some (ad51.add 2)))] ?_;have hle:=iS imm1;exact xS 2 hat51 [vS p151 x4.Point c141] (vS p151 x4.Point c141) rfl<|zZ (hx:=[]) rfl hle rfl (zM rfl) ⟨_,_,rfl,rfl,h211⟩
     · intro imm1 hf le1;refine zG ?_;rintro _ _ ⟨rfl,rfl⟩;refine zG ?_;rintro _ _ ⟨p111,c101,p121,c111,p131,c121,p141,c131,rfl,rfl,h171,h181,h191,h201⟩;refine zG ?_;rintro _ _ ⟨p1511,c1411,rfl,rfl,h2111⟩;refine zN<|yH [(31,vS p1 p.Arrays c),(48,vA (cStmt x3 p111 c101 p121 c111 p131 c121 p141 c131)),(53,vS p1511 x4.Point c1411)] ?_;have hle:=iS imm1;have h:=h.mono le1;refine yR (zCz p.Arrays x3 x4.Point _ hy11 h h171 h181 h191 h201 h2111) ?_;rintro imm05 hs2 v2 k2 le5 - ⟨v013,v014,v015,rfl,rfl,h22,rfl,rfl⟩ -;have hle:=hle.trans le5;obtain ⟨p16,c15,rfl⟩:=h22.form;exact zZ (hx:=[]) rfl hle rfl (zM rfl) ⟨_,_,rfl,rfl,h22⟩
     · intro imm1 hf le1;refine zG ?_;rintro _ _ ⟨p16,c15,rfl,rfl,h22⟩;refine zN<|yH [(54,.tuple ⟨[vS p16 y5 c15,vI y6,.bool y7]⟩)] ?_;have hle:=iS imm1;exact qV 26 [(29,.tuple ⟨[vS p16 y5 c15,vI y6,.bool y7]⟩)]<|zZ (hx:=[]) rfl hle rfl (zM rfl) ⟨_,_,rfl,rfl,h22⟩
     · intro imm1 hf le1;refine zG ?_;rintro _ _ ⟨p161,c151,rfl,rfl,h221⟩;refine zN<|yH [(29,.tuple ⟨[vS p161 y5 c151,vI y6,.bool y7]⟩)] ?_;have hle:=iS imm1;exact qV 27 [(55,vS p161 y5 c151)]<|zZ (hx:=[]) rfl hle rfl (zM rfl) ⟨_,_,rfl,rfl,h221⟩
     · intro imm1 hf le1;refine zG ?_;rintro _ _ ⟨p161,c151,rfl,rfl,h221⟩;refine zN<|yH [(29,.tuple ⟨[vS p161 y5 c151,vI y6,.bool y7]⟩)] ?_;have hle:=iS imm1;exact qV 28 [(56,vI y6)]<|zZ (hx:=[]) rfl hle rfl (zM rfl) ⟨rfl,rfl⟩
     · intro imm1 hf le1;refine zG ?_;rintro _ _ ⟨p161,c151,rfl,rfl,h221⟩;refine zN<|yH [(29,.tuple ⟨[vS p161 y5 c151,vI y6,.bool y7]⟩)] ?_;have hle:=iS imm1;exact qV 29 [(57,.bool y7)]<|zZ (hx:=[]) rfl hle rfl (zM rfl) ⟨rfl,rfl⟩
     intro imm1 hf le1;refine zG ?_;rintro _ _ ⟨p1611,c1511,rfl,rfl,h2211⟩;refine zN<|yH [(55,vS p1611 y5 c1511)] ?_;have hle:=iS imm1;exact qV 30 [(7,vS p1611 y5 c1511)]<|zZ (hx:=[]) rfl hle rfl (zM rfl) ⟨_,_,rfl,rfl,h2211⟩
   intro imm06 le6;refine zG ?_;rintro _ _ ⟨rfl,rfl⟩;refine zG ?_;rintro _ _ ⟨p16111,c15111,rfl,rfl,h22111⟩;refine zG ?_;rintro _ _ ⟨rfl,rfl⟩;refine zN<|yH [(1,vP b 0),(3,vS p4 flags1 c3),(4,vS p5 written1 c4),(5,vS p3 y3 c2),(6,vI i),(7,vS p16111 y5 c15111),(8,vI y6),(57,.bool y7)] ?_;have h10:=iM le6 h10;have h11:=iM le6 h11;have h9:=h9.mono le6;have h:=h.mono le6;have h1:=h1.mono le6;have hle:=hle.trans le6;refine yA [] []<|zE<|zF<|zF<|zB<|yA [] [(10,vI 0)]<|zE<|yC<|vQ [(1,vP b 0),(3,vS p4 flags1 c3),(4,vS p5 written1 c4),(5,vS p3 y3 c2),(6,vI i),(7,vS p16111 y5 c15111),(8,vI y6),(10,vI 0)] ?_;obtain ⟨o01,ho01,hMl⟩:=zC hM;refine spec_InputCells_l2_ok written1 y5 flags1 0 o01 ho01 iR h11 h9 h22111 h h1 h10 (fun _ _ _ h=>hg _ _ _ h) (fun _ _ h=>ho _ _ h) ?_;intro imm010 flags4 p18 c17 cs6 heq1 le10 h26;subst o01;have h11:=iM le10 h11;have h9:=h9.mono le10;have h:=h.mono le10;have h1:=h1.mono le10;have hle:=hle.trans le10;refine yD<|zE<|zB<|yK 2 [] [(87,vS p5 written1 c4),(88,vI y6)] ?_;obtain ⟨x12,hy21,hM⟩:=zC hMl;refine nK 0 rfl rfl rfl h11 hy21 ?_;intro ad13 ccs12 hat13 hcc4 hrep12;obtain rfl:=hrep12;obtain ⟨l2,hy22,hM⟩:=zC hM;refine qX (c:=[.bool true]) (x':=true) 0 0 rfl rfl rfl hat13 rfl rfl hcc4 (by kernel_rfl) (by kernel_rfl) (by kernel_rfl) h11 hy21 (by kernel_rfl) rfl ?_;rw [show written1.set y6.toNat true=l2 from zD hy22];intro cs10 h30 hl03;exact kJ (m':=[(1,vP b 0),(3,vS p18 flags4 c17),(4,vS p5 written1 c4),(5,vS p3 y3 c2),(6,vI i),(87,vS p5 written1 c4),(88,vI y6)]) ⟨rfl,rfl,rfl,rfl,rfl,rfl,rfl,trivial⟩<|zCM (hs':=[hO Bool (vS p5 l2 c4) cs10,hO Bool (vS p18 flags4 c17) cs6,hB b (cProg p p1 c p2 c1)]) (m':=[(1,vP b 0),(3,vS p18 flags4 c17),(4,vS p5 l2 c4),(5,vS p3 y3 c2),(6,vI i),(87,vS p5 l2 c4),(88,vI y6)]) (by first | rfl | simp only [vS,hl03,List.nil_append,List.cons_append,List.set_cons_zero,List.set_cons_succ,List.eraseIdx_cons_zero,List.eraseIdx_cons_succ]) (by first | rfl | simp only [vS,hl03])<|yN rfl<|zY<|zE<|zB<|yA [] [(6,vI (W (i + 1)))]<|xD<|vQ [(1,vP b 0),(3,vS p18 flags4 c17),(4,vS p5 l2 c4),(5,vS p3 y3 c2),(6,vI (W (i + 1)))]<|ih flags4 l2 (W (i + 1)) _ hM hle h9 h h1 h26 h30 hg ho hx
 intro hc1 hM;exact xA<|zS<|zS<|wD (zK [1] rfl (by decide))<|yT [(3,vS p4 flags1 c3)]<|hx _ _ _ _ _ (zD hM).symm hle h10
def M.spec_InputCells (p:zV):Option ((List Int)):=do
 let y←tK p
 if (!y) then
  pure ([]:List Int)
 else
  let y1←M.spec_l4Total p
  let flags←mkrow 1 y1 (false:Bool)
  let y2←M.spec_l4Total p
  let written←mkrow 1 y2 (false:Bool)
  let y3←rS p
  let flags2←M.spec_InputCells_l1 p y3 flags written 0
  let y8←M.spec_l5Flagged flags2
  pure (id y8)
theorem spec_InputCells_ok:∀ (p:zV) r,M.spec_InputCells p=some r→∀ {imm:Imm}{p1 c p2 c1},(S4 imm p1 p.Arrays c)→(S4 imm p2 p.Parts c1)→Ret Tryz.prog 22 [vA (cProg p p1 c p2 c1)] imm [] (spec_InputCells_post  r):=by
 intro p r hM imm p1 c p2 c1 h h1;unfold M.spec_InputCells at hM;refine yG (fn:=Tryz.f22) (c:=(bodyOf Tryz.f22)) Tryz.func22 rfl rfl ?_;rintro B - -;refine zF<|zB<|tR (cProg p p1 c p2 c1) ?_;intro b hb;refine yA [] []<|zE<|zF<|zF<|zB<|yK 1 [0] [(11,vA (cProg p p1 c p2 c1))] ?_;obtain ⟨y,hy,hM⟩:=zC hM;refine yR (dT p _ hy h h1) ?_;rintro imm0 hs2 v2 k2 le - ⟨v0,rfl,rfl,rfl⟩ -;have h:=h.mono le;have h1:=h1.mono le;refine yA [] [(13,.bool (!y))]<|zE<|yO hM ?_ ?_
 · intro hc hM;refine zF<|zB<|xQ [] Int ?_;intro b1 hb1;have h3:RL imm0 [] ([]:List Int):=rfl;refine yA [] [(2,vS (some ⟨b1,0,none⟩) ([]:List Int) 0)]<|zE<|yJ<|zR<|xI 0 rfl ?_;intro imm01 le1 hl0;have h4:=SL.of_frozen hl0 le1 h3;obtain rfl:=zD hM;exact yQ ⟨_,_,(.tmp rfl ResV.nil),zX,⟨_,rfl,rfl,h4⟩⟩
 intro hc hM;refine yE<|zE<|zF<|zB<|yK 1 [0] [(15,vA (cProg p p1 c p2 c1))] ?_;obtain ⟨y1,hy1,hM⟩:=zC hM;refine yR (spec_l4Total_ok p _ hy1 h h1) ?_;rintro imm02 hs2 v2 k2 le2 - ⟨v01,rfl,rfl,rfl⟩ -;have h:=h.mono le2;have h1:=h1.mono le2;obtain ⟨flags,hy2,hM⟩:=zC hM;refine R_mk 1 [.bool false] rfl hy2 rfl ?_;intro b2 cs h6;refine yA [] [(3,vS (some ⟨b2,0,none⟩) flags flags.length)]<|zE<|zF<|zB<|yK 1 [1] [(18,vA (cProg p p1 c p2 c1))] ?_;obtain ⟨y2,hy3,hM⟩:=zC hM;refine yR (spec_l4Total_ok p _ hy3 h h1) ?_;rintro imm03 hs2 v2 k2 le3 - ⟨v02,rfl,rfl,rfl⟩ -;have h6:=iM le3 h6;have h:=h.mono le3;have h1:=h1.mono le3;obtain ⟨written,hy4,hM⟩:=zC hM;refine R_mk 1 [.bool false] rfl hy4 rfl ?_;intro b3 cs1 h8;refine yA [] [(4,vS (some ⟨b3,0,none⟩) written written.length)]<|zE<|zF<|zB<|yK 1 [2] [(21,vA (cProg p p1 c p2 c1))] ?_;obtain ⟨y3,hy5,hM⟩:=zC hM;refine yR (zGB p _ hy5 h h1) ?_;rintro imm04 hs2 v2 k2 le4 - ⟨v03,rfl,rfl,h9⟩ -;have h6:=iM le4 h6;have h8:=iM le4 h8;have h:=h.mono le4;have h1:=h1.mono le4;obtain ⟨p3,c2,rfl⟩:=h9.form;refine yA [] [(5,vS p3 y3 c2)]<|zE<|zF<|zF<|zB<|yA [] [(6,vI 0)]<|zE<|yC<|vQ [(1,vP b 0),(3,vS (some ⟨b2,0,none⟩) flags flags.length),(4,vS (some ⟨b3,0,none⟩) written written.length),(5,vS p3 y3 c2),(6,vI 0)] ?_;obtain ⟨o02,ho02,hMl1⟩:=zC hM;refine spec_InputCells_l1_ok p y3 flags written 0 o02 ho02 iR h9 h h1 h6 h8 (fun _ _ _ h=>h) (fun _ _ h=>h) ?_;intro imm011 flags2 p6 c5 cs4 heq2 le11 h12;subst o02;refine yD<|zE<|zF<|zB<|yK 1 [] [(90,vS p6 flags2 c5)]<|yL 0 rfl ?_;intro imm012 le12 hl04;have h31:=SL.of_frozen hl04 le12 h12;obtain ⟨y8,hy23,hM⟩:=zC hMl1;refine yR (spec_l5Flagged_ok flags2 _ hy23 h31) ?_;rintro imm013 hs2 v2 k2 le13 - ⟨v016,rfl,rfl,h32⟩ -;obtain ⟨p20,c19,rfl⟩:=h32.form;refine yA [] [(2,vS p20 y8 c19)]<|zE<|yJ ?_;obtain rfl:=zD hM;exact yQ ⟨_,_,(.tmp rfl ResV.nil),zX,⟨_,rfl,rfl,h32⟩⟩
def impl_PartReads_post (r:(List Int)):KT:=fun kk imm' hs' v=>
  ∃ v0,hs'=[]∧v=tupV [v0]∧SL imm' v0 r
def M.impl_PartReads (p:zV) (part:Int):Option ((List Int)):=do
 let (y1,y2)←jC p
 let t21←(do
   if (!y2) then
    pure true
   else
    let y3←M.impl_Program_isPart p part
    pure (!y3)
     : Option Bool)
 if t21 then
  pure ([]:List Int)
 else
  let t←y1
  let (y5,y6)←M.impl_traced_cellsOf t part
  let y7←M.impl_chosen y5
  pure (id y7)
theorem impl_PartReads_ok:∀ (p:zV) (part:Int) r,M.impl_PartReads p part=some r→∀ {imm:Imm}{p1 c p2 c1},(S4 imm p1 p.Arrays c)→(S4 imm p2 p.Parts c1)→Ret Tryz.prog 23 [vA (cProg p p1 c p2 c1),vI part] imm [] (impl_PartReads_post  r):=by
 intro p part r hM imm p1 c p2 c1 h h1;unfold M.impl_PartReads at hM;refine yG (fn:=Tryz.f23) (c:=(bodyOf Tryz.f23)) Tryz.func23 rfl rfl ?_;rintro B - -;have hle:=iS imm;refine zF<|zB<|tR (cProg p p1 c p2 c1) ?_;intro b hb;refine yA [] []<|zE<|zF<|zB<|yK 1 [0] [(10,vA (cProg p p1 c p2 c1))] ?_;obtain ⟨⟨y1,y2⟩,hy,hM⟩:=zC hM;refine yR (zHu p _ hy h h1) ?_;rintro imm0 hs2 v2 k2 le - ⟨v0,v01,rfl,rfl,h2,rfl⟩ -;have h:=h.mono le;have h1:=h1.mono le;have hle:=hle.trans le;refine yA [] [(5,v0),(6,.bool y2)]<|zE<|zF<|zF ?_;obtain ⟨o0,ho0,hMc⟩:=zC hM;refine yU (fun imm' hs' m'=>∃ (t21:Bool),o0=t21∧imm0.le imm'∧hs'=[]∧m'=[(1,vI part),(5,v0),(21,.bool t21)]) ?_ ?_
 · have hle:=iS imm0;refine zB<|yK 3 [] [(16,.bool (!y2))] ?_;cases hc:(!y2) with
   | true =>
    have hM0:=zW hc ho0
    try rw [hc]
    exact yA [] [(21,.bool true)]<|wD (zK [] rfl (by decide))<|yT [(1,vI part),(5,v0),(21,.bool true)]<|yB ⟨_,(zD hM0).symm,hle,rfl,rfl⟩
   | false =>
    have hM01:=zU hc ho0
    try rw [hc]
    refine yK 5 [0] [(17,vA (cProg p p1 c p2 c1)),(18,vI part)] ?_;obtain ⟨y3,hy1,hM⟩:=zC hM01;refine yR (impl_Program_isPart_ok p part _ hy1 h h1) ?_;rintro imm02 hs2 v2 k2 le1 - ⟨v02,rfl,rfl,rfl⟩ -;have hle:=hle.trans le1;exact yA [] [(21,.bool (!y3))]<|wD (zK [] rfl (by decide))<|yT [(1,vI part),(5,v0),(21,.bool (!y3))]<|yB ⟨_,(zD hM).symm,hle,rfl,rfl⟩
 rintro imm01 hs2 m2 ⟨t21,heq,le2,rfl,rfl⟩;subst o0;have h2:=h2.mono le2;refine zE<|yO hMc ?_ ?_
 · intro hc1 hM;refine zF<|zB<|yA [] [(4,z0)]<|zE<|yJ<|zR ?_;obtain rfl:=zD hM;exact yQ ⟨_,_,(.tmp rfl ResV.nil),zX,⟨_,rfl,rfl,(SL.nil _)⟩⟩
 intro hc1 hM;refine yE<|zE<|zF<|zB<|yK 2 [] [(23,v0),(24,vI part)] ?_;obtain ⟨t,hy2,hM⟩:=zC hM;obtain ⟨ad,ccs,rfl,hat,hrep⟩:=zJZ h2 hy2;obtain ⟨v03,v04,v05,v06,v07,rfl,h5,h6,h7,h8,h9⟩:=zGq hrep;obtain ⟨p3,c2,rfl⟩:=h5.form;obtain ⟨p4,c3,rfl⟩:=h6.form;obtain ⟨p5,c4,rfl⟩:=h7.form;obtain ⟨p6,c5,rfl⟩:=h8.form;obtain ⟨p7,c6,rfl⟩:=h9.form;obtain ⟨⟨y5,y6⟩,hy3,hM⟩:=zC hM;refine yR (impl_traced_cellsOf_ok t part _ hy3 h5 h6 h7 h8 h9 hat) ?_;rintro imm03 hs2 v2 k2 le3 - ⟨v08,v09,rfl,rfl,h10,h11⟩ -;obtain ⟨p8,c7,rfl⟩:=h10.form;obtain ⟨p9,c8,rfl⟩:=h11.form;refine yA [] [(7,vS p8 y5 c7)]<|zE<|zF<|zB<|yK 1 [] [(28,vS p8 y5 c7)] ?_;obtain ⟨y7,hy4,hM⟩:=zC hM;refine yR (impl_chosen_ok y5 _ hy4 h10) ?_;rintro imm04 hs2 v2 k2 le4 - ⟨v010,rfl,rfl,h12⟩ -;obtain ⟨p10,c9,rfl⟩:=h12.form;refine yA [] [(4,vS p10 y7 c9)]<|zE<|yJ ?_;obtain rfl:=zD hM;exact yQ ⟨_,_,(.tmp rfl ResV.nil),zX,⟨_,rfl,rfl,h12⟩⟩
def laws_FnInputReads_post (r:Bool):KT:=fun kk imm' hs' v=>
  ∃ v0,hs'=[]∧v=tupV [v0]∧v0=.bool r
def M.laws_FnInputReads_l2 (y:zV) (y1:(List Int)) (i:Int) (some0:Bool) (k0:Int):Option (Bool):=do
 if (decide (k0 < (y.Parts.length:Int))) then
  let some02←(do
    if some0 then
     pure true
    else
     let y4←M.impl_PartReads y k0
     let x←idx y1 i
     let y5←M.laws_lnHas y4 x
     pure (id y5)
      : Option Bool)
  M.laws_FnInputReads_l2 y y1 i some02 (W (k0 + 1))
 else
  pure (id some0)
 partial_fixpoint
theorem laws_FnInputReads_l2_ok (y:zV) (y1:(List Int)) (i:Int):∀ (some0:Bool) (k0:Int) (o:Bool),M.laws_FnInputReads_l2 y y1 i some0 k0=some o→∀ {B}{imm0 imm:Imm}{Q p1 c1 p2 c2}{b:Nat}{p3 c3},imm0.le imm→(S4 imm p3 y1 c3)→(S4 imm p1 y.Arrays c1)→(S4 imm p2 y.Parts c2)→(∀ gl a w,¬Q (.goto gl) a w)→(∀ a w,¬Q .outgrown a w)→(∀ (imm':Imm) (some01:Bool),o=some01→imm0.le imm'→T 46 B Q (.exit 2) imm' [hB b (cProg y p1 c1 p2 c2)] [(3,vP b 0),(4,vS p3 y1 c3),(5,vI i),(6,.bool some01)])→J Tryz.prog 46 B (nav (bodyOf Tryz.f5) [1,1,1,1,1,0,1,0,0,1,0,0,1,0,1,0]) Q imm [hB b (cProg y p1 c1 p2 c2)] [(3,vP b 0),(4,vS p3 y1 c3),(5,vI i),(6,.bool some0),(7,vI k0)]:=by
 refine M.laws_FnInputReads_l2.partial_correctness y y1 i _ ?_;intro self ih some0 k0 o hM B imm0 imm Q p1 c1 p2 c2 b p3 c3 hle h4 h2 h3 hg ho hx;refine xC hg ho<|zF<|zF<|zB<|yA [0] [(30,.bool (decide (k0 < (y.Parts.length:Int))))]<|zE<|yO hM ?_ ?_
 · intro hc3 hM;refine yE<|zE<|zF<|yC ?_;obtain ⟨o0,ho0,hMc⟩:=zC hM;refine yU (fun imm' hs' m'=>∃ (some02:Bool),o0=some02∧imm.le imm'∧hs'=[hB b (cProg y p1 c1 p2 c2)]∧m'=[(3,vP b 0),(4,vS p3 y1 c3),(5,vI i),(6,.bool some02),(7,vI k0)]) ?_ ?_
   · have hle:=iS imm;cases hc4:some0 with
     | true =>
      have hM0:=zW hc4 ho0;refine uA [.q (.bool true),.q (.bool true),.p undef [],.p undef [],.p undef [],.p undef [],.p undef [],.p undef [],.p undef [],.p undef [],.p (.bool true) []] [[],[(0,false)],[(1,false)],[(1,false)],[(1,false),(2,false),(3,false)],[(1,false)],[(1,false)],[(1,false),(5,false),(6,false)],[(1,false),(7,false)],[(1,false),(4,false),(8,false)],[(1,false),(9,false)]] [hB b (cProg y p1 c1 p2 c2)] [] [(10,false)] (zK [0] rfl (by decide)) ?_ ?_
      · refine Oq ?_<|Oq ?_<|Op<|Op<|Op<|Op<|Op<|Op<|Op<|Op<|Op<|On
        · intro imm1 hf le1;refine zN<|yH [(6,.bool true)] ?_;have hle:=iS imm1;exact qV 1 [(33,.bool true)]<|zZ (hx:=[]) rfl hle rfl (zM rfl) ⟨rfl,rfl⟩
        intro imm1 hf le1;refine zG ?_;rintro _ _ ⟨rfl,rfl⟩;refine zN<|yH [(33,.bool true)] ?_;have hle:=iS imm1;exact qV 2 [(34,.bool true)]<|zZ (hx:=[]) rfl hle rfl (zM rfl) ⟨rfl,rfl⟩
      intro imm05 le4;refine zG ?_;rintro _ _ ⟨rfl,rfl⟩;refine zN<|yH [(3,vP b 0),(4,vS p3 y1 c3),(5,vI i),(7,vI k0),(43,.bool true)] ?_;have hle:=hle.trans le4;exact yA [] [(6,.bool true)]<|yT [(3,vP b 0),(4,vS p3 y1 c3),(5,vI i),(6,.bool true),(7,vI k0)]<|yB ⟨_,(zD hM0).symm,hle,rfl,rfl⟩
     | false =>
      have hM01:=zU hc4 ho0;obtain ⟨y4,hy4,hM⟩:=zC hM01;obtain ⟨x,hy5,hM⟩:=zC hM;obtain ⟨y5,hy6,hM⟩:=zC hM;refine uA [.q (.bool false),.q (.bool false),.p (vA (cProg y p1 c1 p2 c2)) [0],.p (vI k0) [],.x (fun imm' v hx=>∃ p5 c5,v=vS p5 y4 c5∧hx=[]∧(S4 imm' p5 y4 c5)),.p (vS p3 y1 c3) [],.p (vI i) [],.x (fun imm' v hx=>∃ ad,v=.pointer (some ad)∧hx=[]∧(At imm' ad [vI x])),.q (vI x),.q (.bool y5),.p (.bool y5) []] [[],[(0,false)],[(1,false)],[(1,false)],[(1,false),(2,false),(3,false)],[(1,false)],[(1,false)],[(1,false),(5,false),(6,false)],[(1,false),(7,false)],[(1,false),(4,false),(8,false)],[(1,false),(9,false)]] [hB b (cProg y p1 c1 p2 c2)] [] [(10,false)] (zK [0] rfl (by decide)) ?_ ?_
      · refine Oq ?_<|Oq ?_<|Op<|Op<|Ox ?_<|Op<|Op<|Ox ?_<|Oq ?_<|Oq ?_<|Op<|On
        · intro imm1 hf le1;refine zN<|yH [(6,.bool false)] ?_;have hle:=iS imm1;exact qV 1 [(33,.bool false)]<|zZ (hx:=[]) rfl hle rfl (zM rfl) ⟨rfl,rfl⟩
        · intro imm1 hf le1;refine zG ?_;rintro _ _ ⟨rfl,rfl⟩;refine zN<|yH [(33,.bool false)] ?_;have hle:=iS imm1;exact qV 2 [(34,.bool false)]<|zZ (hx:=[]) rfl hle rfl (zM rfl) ⟨rfl,rfl⟩
        · intro imm1 hf le1;refine zG ?_;rintro _ _ ⟨rfl,rfl⟩;refine zG ?_;rintro _ _ ⟨rfl,rfl⟩;refine zG ?_;rintro _ _ ⟨rfl,rfl⟩;refine zN<|yH [(34,.bool false),(35,vA (cProg y p1 c1 p2 c2)),(36,vI k0)] ?_;have hle:=iS imm1;have h2:=h2.mono le1;have h3:=h3.mono le1;refine yR (impl_PartReads_ok y k0 _ hy4 h2 h3) ?_;rintro imm06 hs2 v2 k2 le5 - ⟨v06,rfl,rfl,h7⟩ -;have hle:=hle.trans le5;obtain ⟨p5,c5,rfl⟩:=h7.form;exact zZ (hx:=[]) rfl hle rfl (zM rfl) ⟨_,_,rfl,rfl,h7⟩
        · intro imm1 hf le1;refine zG ?_;rintro _ _ ⟨rfl,rfl⟩;refine zG ?_;rintro _ _ ⟨rfl,rfl⟩;refine zG ?_;rintro _ _ ⟨rfl,rfl⟩;refine zN<|yH [(34,.bool false),(38,vS p3 y1 c3),(39,vI i)] ?_;have hle:=iS imm1;have h4:=h4.mono le1;refine wJ rfl rfl h4 hy5 ?_;intro ad ccs hat hrep;obtain rfl:=hrep;exact zZ (hx:=[]) rfl hle rfl (zM rfl) ⟨_,rfl,rfl,hat⟩
        · intro imm1 hf le1;refine zG ?_;rintro _ _ ⟨rfl,rfl⟩;refine zG ?_;rintro _ _ ⟨ad,rfl,rfl,hat⟩;refine zN<|yH [(34,.bool false),(40,.pointer (some ad))] ?_;have hle:=iS imm1;exact xS 0 hat [vI x] (vI x) rfl<|zZ (hx:=[]) rfl hle rfl (zM rfl) ⟨rfl,rfl⟩
        intro imm1 hf le1;refine zG ?_;rintro _ _ ⟨rfl,rfl⟩;refine zG ?_;rintro _ _ ⟨p5,c5,rfl,rfl,h7⟩;refine zG ?_;rintro _ _ ⟨rfl,rfl⟩;refine zN<|yH [(34,.bool false),(37,vS p5 y4 c5),(41,vI x)] ?_;have hle:=iS imm1;refine yR (laws_lnHas_ok y4 x _ hy6 h7) ?_;rintro imm07 hs2 v2 k2 le6 - ⟨v07,rfl,rfl,rfl⟩ -;have hle:=hle.trans le6;exact zZ (hx:=[]) rfl hle rfl (zM rfl) ⟨rfl,rfl⟩
      intro imm08 le7;refine zG ?_;rintro _ _ ⟨rfl,rfl⟩;refine zN<|yH [(3,vP b 0),(4,vS p3 y1 c3),(5,vI i),(7,vI k0),(43,.bool y5)] ?_;have hle:=hle.trans le7;exact yA [] [(6,.bool y5)]<|yT [(3,vP b 0),(4,vS p3 y1 c3),(5,vI i),(6,.bool y5),(7,vI k0)]<|yB ⟨_,(zD hM).symm,hle,rfl,rfl⟩
   rintro imm04 hs2 m2 ⟨some02,heq,le8,rfl,rfl⟩;subst o0;have h4:=h4.mono le8;have h2:=h2.mono le8;have h3:=h3.mono le8;have hle:=hle.trans le8;exact zY<|zE<|zB<|yA [] [(7,vI (W (k0 + 1)))]<|xD<|vQ [(3,vP b 0),(4,vS p3 y1 c3),(5,vI i),(6,.bool some02),(7,vI (W (k0 + 1)))]<|ih some02 (W (k0 + 1)) _ hMc hle h4 h2 h3 hg ho hx
 intro hc3 hM;exact xA<|zS<|zS<|yT [(3,vP b 0),(4,vS p3 y1 c3),(5,vI i),(6,.bool some0)]<|hx _ _ (zD hM).symm hle
def M.laws_FnInputReads_l1 (y:zV) (y1:(List Int)) (i:Int):Option (Out Unit (Bool)):=do
 if (decide (i < (y1.length:Int))) then
  let some01←M.laws_FnInputReads_l2 y y1 i false 0
  if (!some01) then
   pure (.ret false)
  else
   M.laws_FnInputReads_l1 y y1 (W (i + 1))
 else
  pure (.done ())
 partial_fixpoint
theorem laws_FnInputReads_l1_ok (y:zV) (y1:(List Int)):∀ (i:Int) (o:Out Unit (Bool)),M.laws_FnInputReads_l1 y y1 i=some o→∀ {B}{imm0 imm:Imm}{Q p1 c1 p2 c2}{b:Nat}{p3 c3},imm0.le imm→(S4 imm p3 y1 c3)→(S4 imm p1 y.Arrays c1)→(S4 imm p2 y.Parts c2)→(∀ gl a w,¬Q (.goto gl) a w)→(∀ a w,¬Q .outgrown a w)→(∀ (imm':Imm) ,o=(.done ())→imm0.le imm'→T 46 B Q (.exit 0) imm' [] [])→(∀ r imm' hs' m',o=(.ret r)→imm0.le imm'→RS Tryz.prog Tryz.f5 B (laws_FnInputReads_post  r) imm' hs' m'→T 46 B Q .ret imm' hs' m')→J Tryz.prog 46 B (nav (bodyOf Tryz.f5) [1,1,1,1,1,0,1,0]) Q imm [hB b (cProg y p1 c1 p2 c2)] [(3,vP b 0),(4,vS p3 y1 c3),(5,vI i)]:=by
 refine M.laws_FnInputReads_l1.partial_correctness y y1 _ ?_;intro self ih i o hM B imm0 imm Q p1 c1 p2 c2 b p3 c3 hle h4 h2 h3 hg ho hx hr;refine xC hg ho<|zF<|zF<|zB<|yA [] [(23,.bool (decide (i < (y1.length:Int))))]<|zE<|yO hM ?_ ?_
 · intro hc2 hM;refine yE<|zE<|zF<|yC<|zF<|zB<|yA [] [(6,.bool false)]<|zE<|zF<|zF<|zB<|yA [] [(7,vI 0)]<|zE<|yC<|vQ [(3,vP b 0),(4,vS p3 y1 c3),(5,vI i),(6,.bool false),(7,vI 0)] ?_;obtain ⟨o01,ho01,hMl⟩:=zC hM;refine laws_FnInputReads_l2_ok y y1 i false 0 o01 ho01 iR h4 h2 h3 (fun _ _ _ h=>hg _ _ _ h) (fun _ _ h=>ho _ _ h) ?_;intro imm09 some01 heq1 le9;subst o01;have h4:=h4.mono le9;have h2:=h2.mono le9;have h3:=h3.mono le9;have hle:=hle.trans le9;refine yD<|zE<|zF<|zB<|yA [] [(45,.bool (!some01))]<|zE<|yO hMl ?_ ?_
   · intro hc5 hM;exact zF<|zB<|yA [] [(2,.bool false)]<|zE<|yJ<|yF<|zR<|zR<|hr _ _ _ _ (zD hM).symm hle ⟨_,_,(.tmp rfl ResV.nil),zX,⟨_,rfl,rfl,rfl⟩⟩
   intro hc5 hM;exact yE<|zY<|zE<|zB<|yA [] [(5,vI (W (i + 1)))]<|xD<|vQ [(3,vP b 0),(4,vS p3 y1 c3),(5,vI (W (i + 1)))]<|ih (W (i + 1)) _ hM hle h4 h2 h3 hg ho hx hr
 intro hc2 hM;exact xA<|zS<|zS<|wD (zK [] rfl (by decide))<|yT []<|hx _  (zD hM).symm hle
def M.laws_FnInputReads (code:(List UInt8)):Option (Bool):=do
 if (decide ((code.length:Int) > 1048576)) then
  pure true
 else
  let y←M.spec_DrawInputCells code
  let y1←M.impl_InputCells y
  let y2←M.spec_InputCells y
  let y3←M.laws_lnInts y1 y2
  if (!y3) then
   pure false
  else
   match←M.laws_FnInputReads_l1 y y1 0 with
   | .ret r0=>pure r0
   | .done _ =>
    pure true
theorem laws_FnInputReads_ok:∀ (code:(List UInt8)) r,M.laws_FnInputReads code=some r→∀ {imm:Imm}{p c},(S4 imm p code c)→Ret Tryz.prog 5 [vS p code c] imm [] (laws_FnInputReads_post  r):=by
 intro code r hM imm p c h;unfold M.laws_FnInputReads at hM;refine yG (fn:=Tryz.f5) (c:=(bodyOf Tryz.f5)) Tryz.func5 rfl rfl ?_;rintro B - -;refine zF<|zB<|yA [] []<|zE<|zF<|zF<|zB<|yA [] [(10,.bool (decide ((code.length:Int) > 1048576)))]<|zE<|yO hM ?_ ?_
 · intro hc hM;refine zF<|zB<|yA [] [(2,.bool true)]<|zE<|yJ<|zR ?_;obtain rfl:=zD hM;exact yQ ⟨_,_,(.tmp rfl ResV.nil),zX,⟨_,rfl,rfl,rfl⟩⟩
 intro hc hM;refine yE<|zE<|zF<|zB<|yK 1 [] [(11,vS p code c)] ?_;obtain ⟨y,hy,hM⟩:=zC hM;refine yR (spec_DrawInputCells_ok code _ hy h) ?_;rintro imm0 hs2 v2 k2 le - ⟨v0,rfl,rfl,⟨cs,rfl,h1⟩⟩ -;obtain ⟨v01,v02,rfl,h2,h3⟩:=zG6 h1;obtain ⟨p1,c1,rfl⟩:=h2.form;obtain ⟨p2,c2,rfl⟩:=h3.form;refine uD zTwo ?_;intro b hb;refine xJ 0 (cProg y p1 c1 p2 c2) [hB b (cProg y p1 c1 p2 c2)] rfl rfl rfl rfl<|yN rfl<|zE<|zF<|zB<|yK 1 [0] [(13,vA (cProg y p1 c1 p2 c2))] ?_;obtain ⟨y1,hy1,hM⟩:=zC hM;refine yR (impl_InputCells_ok y _ hy1 h2 h3) ?_;rintro imm01 hs2 v2 k2 le1 - ⟨v03,rfl,rfl,h4⟩ -;have h2:=h2.mono le1;have h3:=h3.mono le1;obtain ⟨p3,c3,rfl⟩:=h4.form;refine yA [] [(4,vS p3 y1 c3)]<|zE<|zF<|zF<|zB<|yK 2 [0] [(15,vS p3 y1 c3),(16,vA (cProg y p1 c1 p2 c2))] ?_;obtain ⟨y2,hy2,hM⟩:=zC hM;refine yR (spec_InputCells_ok y _ hy2 h2 h3) ?_;rintro imm02 hs2 v2 k2 le2 - ⟨v04,rfl,rfl,h5⟩ -;have h4:=h4.mono le2;have h2:=h2.mono le2;have h3:=h3.mono le2;obtain ⟨p4,c4,rfl⟩:=h5.form;obtain ⟨y3,hy3,hM⟩:=zC hM;refine yR (laws_lnInts_ok y1 y2 _ hy3 h4 h5) ?_;rintro imm03 hs2 v2 k2 le3 - ⟨v05,rfl,rfl,rfl⟩ -;have h4:=h4.mono le3;have h2:=h2.mono le3;have h3:=h3.mono le3;refine yA [] [(19,.bool (!y3))]<|zE<|yO hM ?_ ?_
 · intro hc1 hM;refine zF<|zB<|yA [] [(2,.bool false)]<|zE<|yJ<|zR ?_;obtain rfl:=zD hM;exact yQ ⟨_,_,(.tmp rfl ResV.nil),zX,⟨_,rfl,rfl,rfl⟩⟩
 intro hc1 hM;refine yE<|zE<|zF<|zF<|zB<|yA [] [(5,vI 0)]<|zE<|yC<|vQ [(3,vP b 0),(4,vS p3 y1 c3),(5,vI 0)] ?_;obtain ⟨o02,ho02,hMl1⟩:=zC hM;refine laws_FnInputReads_l1_ok y y1 0 o02 ho02 iR h4 h2 h3 (fun _ _ _ h=>h) (fun _ _ h=>h) ?_ ?_
 · intro imm010  heq2 le10;subst o02;refine yD<|zE<|zF<|zB<|yA [] [(2,.bool true)]<|zE<|yJ ?_;obtain rfl:=zD hMl1;exact yQ ⟨_,_,(.tmp rfl ResV.nil),zX,⟨_,rfl,rfl,rfl⟩⟩
 intro r0 imm9 hs9 m9 heq9 le9 hrs9;subst heq9;refine yF<|zR ?_;obtain rfl:=zD hMl1;exact yQ hrs9
end Go.LN
namespace Go.LN
theorem drawProg (code:List UInt8):Ok (M.spec_DrawProgramValid code) (fun y=>BG y∧AR y.Arrays):=by
  unfold M.spec_DrawProgramValid;refine Ok.call (zIf code) trivial fun s hs=>Ok.call (zJE s) ⟨by omega,by omega⟩ fun a t g1 g2 g3=>?_;refine Ok.bind (mut4 t a g1.dp (by omega) (by omega)) fun p hp=>?_;obtain ⟨p1,p2⟩:=p;exact Ok.pure hp.1
def totL:List zJ→Int→Int
  | [],n=>n
  | x::l,n=>totL l (W (n + sizeF x))
theorem implCells (P:zV) (h:BR P.Arrays):M.impl_Program_cells P=some (totL P.Arrays 0):=by
  unfold M.impl_Program_cells;obtain ⟨h1,h2⟩:=h;have key:∀ (j i:Nat) (n:Int),i + j=P.Arrays.length→M.impl_Program_cells_l1 P n (i:Int)=some (totL (P.Arrays.drop i) n):=by
    intro j
    induction j with
    | zero =>
      intro i n hi;rw [M.impl_Program_cells_l1];have:¬((i:Int) < (P.Arrays.length:Int)):=by omega
      simp only [this,decide_false,Bool.false_eq_true,if_false];rw [List.drop_eq_nil_iff.2 (by omega)]; rfl
    | succ j ih =>
      intro i n hi;rw [M.impl_Program_cells_l1];have hlt:i < P.Arrays.length:=by omega
      have hc:((i:Int) < (P.Arrays.length:Int)):=by omega
      have hd:=h2 _ (List.getElem_mem hlt);simp only [hc,decide_true,if_true,yZ hlt,Option.bind_eq_bind,Option.bind_some,implSize _ (show P.Arrays[i].Dims.length ≤ 1048576 by omega)];rw [uY (by omega),ih (i + 1) _ (by omega),List.drop_eq_getElem_cons hlt,totL]
  have:=key _ 0 0 (Nat.zero_add _);rw [Int.natCast_zero,List.drop_zero] at this;rw [this]; rfl
theorem specTotal (P:zV) (h:BR P.Arrays):M.spec_l4Total P=some (totL P.Arrays 0):=by
  unfold M.spec_l4Total;obtain ⟨h1,h2⟩:=h;have key:∀ (j i:Nat) (n:Int),i + j=P.Arrays.length→M.spec_l4Total_l1 P n (i:Int)=some (totL (P.Arrays.drop i) n):=by
    intro j
    induction j with
    | zero =>
      intro i n hi;rw [M.spec_l4Total_l1];have:¬((i:Int) < (P.Arrays.length:Int)):=by omega
      simp only [this,decide_false,Bool.false_eq_true,if_false];rw [List.drop_eq_nil_iff.2 (by omega)]; rfl
    | succ j ih =>
      intro i n hi;rw [M.spec_l4Total_l1];have hlt:i < P.Arrays.length:=by omega
      have hc:((i:Int) < (P.Arrays.length:Int)):=by omega
      have hd:=h2 _ (List.getElem_mem hlt);simp only [hc,decide_true,if_true,yZ hlt,Option.bind_eq_bind,Option.bind_some,specSize _ (show P.Arrays[i].Dims.length ≤ 1048576 by omega)];rw [uY (by omega),ih (i + 1) _ (by omega),List.drop_eq_getElem_cons hlt,totL]
  have:=key _ 0 0 (Nat.zero_add _);rw [Int.natCast_zero,List.drop_zero] at this;rw [this]; rfl
end Go.LN
namespace Go.LN
def GA (l:List zJ):Prop:=l.length ≤ 4∧(∀ x ∈ l,DA x)∧l.Pairwise fun x y=>x.Name.l ≠ y.Name.l
def sumS:List zJ→Int
  | []=>0
  | x::l=>sizeF x + sumS l
theorem sumS_rng:∀ {l:List zJ},(∀ x ∈ l,DA x)→0 ≤ sumS l∧sumS l ≤ 36 * (l.length:Int)
  | [],_=>⟨Int.le_refl _,Int.le_refl _⟩
  | x::l,h=>by
    have h1:=(h x (List.mem_cons_self ..)).size
    have h2:=sumS_rng (l:=l) fun y hy=>h y (List.mem_cons_of_mem _ hy)
    rw [sumS,List.length_cons]; omega
theorem tot_sum:∀ {l:List zJ}{n:Int},(∀ x ∈ l,DA x)→0 ≤ n→n + 36 * (l.length:Int) ≤ 1000000→totL l n=n + sumS l
  | [],n,_,_,_=>by rw [totL,sumS]; omega
  | x::l,n,h,h0,h1=>by
    have hs:=(h x (List.mem_cons_self ..)).size
    rw [List.length_cons] at h1
    rw [totL,sE (by omega) (by omega),tot_sum (fun y hy=>h y (List.mem_cons_of_mem _ hy)) (by omega) (by omega),sumS]; omega
theorem lt_chain {n:Nat}{f:Nat→Nat} (h:∀ i,i + 1 < n→f i < f (i + 1)):∀ (d i:Nat),i + d + 1 < n→f i < f (i + d + 1)
  | 0,i,hi=>h i hi
  | d + 1,i,hi=>Nat.lt_trans (lt_chain h d i (by omega)) (h (i + d + 1) hi)
theorem name_one {l:List UInt8} (h:nameL l=true):∃ c,l=[c]:=by
  match l with
  | []=>cases h
  | [c]=>exact ⟨c,rfl⟩
  | c::d::r=>cases h
theorem arr_good {l:List zJ} (h:arrB l=true):GA l:=by
  simp only [arrB,Bool.and_eq_true,decide_eq_true_eq] at h;obtain ⟨h4,hall⟩:=h;have hi:∀ i,i < l.length→arrI l i=true:=fun i hi=>List.all_eq_true.1 hall i (List.mem_range.2 hi);refine ⟨h4,fun x hx=>?_,?_⟩
  · obtain ⟨i,hi',rfl⟩:=List.mem_iff_getElem.1 hx;have:=hi i hi';have hg:l.getD i ⟨⟨[]⟩,[]⟩=l[i]:=by simp [hi']
    simp only [arrI,hg,Bool.and_eq_true,decide_eq_true_eq] at this;obtain ⟨⟨_,h1,h2⟩,h3⟩:=this;have h3:=List.all_eq_true.1 h3
    match hd:l[i].Dims with
    | []=>rw [hd] at h1; simp at h1
    | [d] =>
      have:=h3 d (by rw [hd]; simp);simp only [dimB,Bool.and_eq_true,decide_eq_true_eq] at this;exact .inl ⟨d,hd,this⟩
    | [d,e] =>
      have k1:=h3 d (by rw [hd]; simp);have k2:=h3 e (by rw [hd]; simp);simp only [dimB,Bool.and_eq_true,decide_eq_true_eq] at k1 k2;exact .inr ⟨d,e,hd,k1,k2⟩
    | d::e::f::r=>rw [hd] at h2; simp at h2
  · have hlt:∀ i,i + 1 < l.length→nm l i < nm l (i + 1):=by
      intro i hi1;have a1:=hi i (by omega);have a2:=hi (i + 1) hi1;simp only [arrI,Bool.and_eq_true,Bool.or_eq_true,decide_eq_true_eq] at a1 a2;obtain ⟨c,hc⟩:=name_one a1.1.1.1;obtain ⟨d,hd⟩:=name_one a2.1.1.1;have hb:=a2.1.1.2;rw [show i + 1 - 1=i by omega] at hb;unfold nm;rw [hc,hd] at hb;rw [hc,hd];rcases hb with hb | hb
      · omega
      · simp only [Op.bytesLess,Bool.and_false,Bool.or_false,decide_eq_true_eq] at hb;exact hb
    refine List.pairwise_iff_getElem.2 fun i j hi1 hj1 hij e=>?_;have hk:=lt_chain (n:=l.length) (f:=nm l) hlt (j - i - 1) i (by omega);rw [show i + (j - i - 1) + 1=j by omega] at hk;have g1:l.getD i ⟨⟨[]⟩,[]⟩=l[i]:=by simp [hi1]
    have g2:l.getD j ⟨⟨[]⟩,[]⟩=l[j]:=by simp [hj1]
    unfold nm at hk;rw [g1,g2,e] at hk;exact Nat.lt_irrefl _ hk
theorem valid_good {P:zV} (h:validP P=true):GA P.Arrays:=by
  simp only [validP,progB,Bool.and_eq_true] at h;exact arr_good h.1.1.1
theorem valid_tot {P:zV} (h:validP P=true):totL P.Arrays 0=sumS P.Arrays∧0 ≤ sumS P.Arrays∧sumS P.Arrays ≤ 144:=by
  obtain ⟨h1,h2,_⟩:=valid_good h;have:=sumS_rng h2;rw [tot_sum h2 (Int.le_refl _) (by omega)];omega
theorem cellS1 {p:List Int}{d:Int}{s:zA} (h1:1 ≤ d) (h2:d ≤ 6):cellS p [d] [s] 0=if 0 ≤ evA s p∧evA s p < d then some (evA s p) else none:=by
  rw [cellS];by_cases h:0 ≤ evA s p∧evA s p < d
  · rw [if_pos h,if_pos h,cellS,Int.zero_mul,sE (x:=0) (by omega) (by omega),sE (by omega) (by omega),Int.zero_add]
  · rw [if_neg h,if_neg h]
theorem cellS2 {p:List Int}{d e:Int}{s t:zA} (h1:1 ≤ d) (h2:d ≤ 6) (h3:1 ≤ e) (h4:e ≤ 6):cellS p [d,e] [s,t] 0=if 0 ≤ evA s p∧evA s p < d then (if 0 ≤ evA t p∧evA t p < e then some (evA s p * e + evA t p) else none) else none:=by
  rw [cellS];by_cases h:0 ≤ evA s p∧evA s p < d
  · rw [if_pos h,if_pos h,cellS,Int.zero_mul,sE (x:=0) (by omega) (by omega),sE (x:=0 + evA s p) (by omega) (by omega),Int.zero_add];by_cases hk:0 ≤ evA t p∧evA t p < e
    · have hm:0 ≤ evA s p * e∧evA s p * e ≤ 36:=by
        have:evA s p=0∨evA s p=1∨evA s p=2∨evA s p=3∨evA s p=4∨evA s p=5:=by omega
        rcases this with e | e | e | e | e | e <;> rw [e] <;> omega
      rw [if_pos hk,if_pos hk,cellS,sE (x:=evA s p * e) (by omega) (by omega),sE (by omega) (by omega)]
    · rw [if_neg hk,if_neg hk]
  · rw [if_neg h,if_neg h]
theorem rows_lt {d e i j:Int} (hi:0 ≤ i∧i < d) (hd:d ≤ 6) (hj:0 ≤ j∧j < e) (he:e ≤ 6):0 ≤ i * e + j∧i * e + j < d * e:=by
  have h1:i=0∨i=1∨i=2∨i=3∨i=4∨i=5:=by omega
  have h2:d=1∨d=2∨d=3∨d=4∨d=5∨d=6:=by omega
  rcases h1 with rfl | rfl | rfl | rfl | rfl | rfl <;> rcases h2 with rfl | rfl | rfl | rfl | rfl | rfl <;> omega
theorem one_sub {l:List zA}{d:Int} (h:l.length=[d].length):∃ s,l=[s]:=by
  match l with
  | []=>cases h
  | [s]=>exact ⟨s,rfl⟩
  | a::b::r=>simp at h
theorem two_sub {l:List zA}{d e:Int} (h:l.length=[d,e].length):∃ s t,l=[s,t]:=by
  match l with
  | []=>cases h
  | [s]=>cases h
  | [s,t]=>exact ⟨s,t,rfl⟩
  | a::b::c::r=>simp at h
theorem cellS_rng {x:zJ}{subs:List zA}{p:List Int}{n:Int} (h:DA x) (hl:subs.length=x.Dims.length) (hc:cellS p x.Dims subs 0=some n):0 ≤ n∧n < sizeF x:=by
  rcases h with ⟨d,h,h1,h2⟩ | ⟨d,e,h,⟨h1,h2⟩,h3,h4⟩
  · rw [h] at hl hc;obtain ⟨s,rfl⟩:=one_sub hl;rw [zJG h h1 h2];rw [cellS1 h1 h2] at hc;split at hc
    · cases hc; assumption
    · cases hc
  · rw [h] at hl hc;obtain ⟨s,t,rfl⟩:=two_sub hl;rw [zJH h h1 h2 h3 h4];rw [cellS2 h1 h2 h3 h4] at hc;split at hc
    · split at hc
      · cases hc
        exact rows_lt ‹_› h2 ‹_› h4
      · cases hc
    · cases hc
theorem cell_rng (a:zL) (p:List Int):∀ (l:List zJ) (first:Int),(∀ x ∈ l,DA x)→0 ≤ first→first + sumS l ≤ 1000000→cellF a p l first=-1∨(first ≤ cellF a p l first∧cellF a p l first < first + sumS l)
  | [],first,_,_,_=>.inl rfl
  | x::l,first,h,h0,h1=>by
    have hx:=h x (List.mem_cons_self ..)
    have hs:=hx.size
    have hl:=sumS_rng (l:=l) fun y hy=>h y (List.mem_cons_of_mem _ hy)
    rw [sumS] at h1 ⊢
    rw [cellF]
    by_cases hn:x.Name.l=a.Array.l
    · rw [if_pos hn]
      by_cases hd:a.Subs.length=x.Dims.length
      · rw [if_pos hd]
        cases hc:cellS p x.Dims a.Subs 0 with
        | none=>exact .inl rfl
        | some n =>
          have:=cellS_rng hx hd hc
          refine .inr ?_
          dsimp only
          rw [sE (by omega) (by omega)]; omega
      · rw [if_neg hd]; exact .inl rfl
    · rw [if_neg hn,sE (by omega) (by omega)]
      rcases cell_rng a p l (first + sizeF x) (fun y hy=>h y (List.mem_cons_of_mem _ hy)) (by omega) (by omega) with k | k
      · exact .inl k
      · exact .inr (by omega)
theorem cell_lt {P:zV} (h:validP P=true) (a:zL) (p:List Int):-1 ≤ cellF a p P.Arrays 0∧cellF a p P.Arrays 0 < totL P.Arrays 0:=by
  obtain ⟨h1,h2,h3⟩:=valid_tot h;rcases cell_rng a p P.Arrays 0 (valid_good h).2.1 (Int.le_refl _) (by omega) with k | k <;> omega
end Go.LN
namespace Go.LN
theorem mk_row (n:Nat) (hn:n ≤ 1000000):mkrow 1 (n:Int) (false:Bool)=some (List.replicate n false):=by
  unfold mkrow;rw [if_pos ⟨by omega,by omega⟩,Int.toNat_natCast]
end Go.LN
namespace Go.LN
theorem intsV (a b:List Int) (h:a.length ≤ 1048576):M.laws_lnInts a b=some (decide (a=b)):=by
  unfold M.laws_lnInts;by_cases hl:a.length=b.length
  · have hf:=mS (n:=a.length) (f:=M.laws_lnInts_l1 a b) (P:=fun i=>a.getD i 0 == b.getD i 0) (fun i hi=>by
      rw [M.laws_lnInts_l1];have h1:((i:Int) < (a.length:Int)):=by omega
      have hib:i < b.length:=by omega
      have g1:a.getD i 0=a[i]:=by simp [hi]
      have g2:b.getD i 0=b[i]:=by simp [hib]
      simp only [h1,decide_true,if_true,yZ hi,yZ hib,Option.bind_eq_bind,Option.bind_some,Option.pure_def,g1,g2];by_cases e:a[i]=b[i]
      · simp only [e,bne_self_eq_false,Bool.false_eq_true,if_false,beq_self_eq_true,if_true];rw [uY (by omega)]
      · simp [e]) (by rw [M.laws_lnInts_l1]; simp)
    rw [hf];have hlb:((a.length:Int) != (b.length:Int))=false:=by simp [hl]
    simp only [hlb,Bool.false_eq_true,if_false,Option.bind_eq_bind,Option.bind_some];by_cases e:a=b
    · subst e; simp
    · have:((List.range a.length).all fun i=>a.getD i 0 == b.getD i 0)=false:=by
        cases hq:((List.range a.length).all fun i=>a.getD i 0 == b.getD i 0) with
        | false=>rfl
        | true =>
          refine absurd (List.ext_getElem hl fun i h1 h2=>?_) e;have:=List.all_eq_true.1 hq i (List.mem_range.2 h1);simpa [h1,h2] using this
      simp only [this,Bool.false_eq_true,if_false,e,decide_false,Option.pure_def]
  · have hlb:((a.length:Int) != (b.length:Int))=true:=by simp; omega
    have e:a ≠ b:=fun e=>hl (by rw [e]);simp [hlb,e]
end Go.LN
namespace Go.LN
theorem rdI_rng {P:zV}{z:zT} (hv:validP P=true) (h:InP P z):(∀ c ∈ rdI P z,0 ≤ c∧c < totL P.Arrays 0)∧0 ≤ wrI P z∧wrI P z < totL P.Arrays 0:=by
  have hst:=h.ok;simp only [stOk,Bool.and_eq_true,decide_eq_true_eq] at hst;refine ⟨fun c hc=>?_,hst.1,(cell_lt hv _ _).2⟩;obtain ⟨a,ha,rfl⟩:=List.mem_map.1 hc;exact ⟨of_decide_eq_true (List.all_eq_true.1 hst.2 a ha),(cell_lt hv _ _).2⟩
end Go.LN
namespace Go.LN
def hasB (l:List Int) (n:Int):Bool:=l.any (fun x=>x == n)
theorem hasB_iff {l:List Int}{n:Int}:hasB l n=true ↔ n ∈ l:=by
  unfold hasB;rw [List.any_eq_true];constructor
  · rintro ⟨x,hx,e⟩;have:x=n:=by simpa using e
    exact this ▸ hx
  · intro h;exact ⟨n,h,by simp⟩
theorem loop_any {R:Type}{r0:R}{n:Nat}{f:Int→Option (Out Unit R)}{P:Nat→Bool} (step:∀ i,i < n→f (i:Int)=if P i then some (.ret r0) else f ((i + 1:Nat):Int)) (fin:f (n:Int)=some (.done ())):f 0=some (if (List.range n).any P then .ret r0 else .done ()):=by
  have key:∀ (j i:Nat),i + j=n→f (i:Int)=some (if (List.range' i j).any P then .ret r0 else .done ()):=by
    intro j
    induction j with
    | zero=>intro i hi; rw [show i=n by omega,fin]; simp
    | succ j ih =>
      intro i hi;rw [step i (by omega),ih (i + 1) (by omega),List.range'_succ,List.any_cons];cases P i <;> rfl
  have:=key n 0 (Nat.zero_add _);rw [Int.natCast_zero] at this;rw [this,List.range_eq_range']
theorem any_range {α:Type} (l:List α) (P:α→Bool) (d:α):(List.range l.length).any (fun i=>P (l.getD i d))=l.any P:=by
  rw [Bool.eq_iff_iff,List.any_eq_true,List.any_eq_true];constructor
  · rintro ⟨i,hi,h⟩;have hi:=List.mem_range.1 hi;have hg:l.getD i d=l[i]:=by simp [hi]
    rw [hg] at h;exact ⟨_,List.getElem_mem hi,h⟩
  · rintro ⟨x,hx,h⟩;obtain ⟨i,hi,rfl⟩:=List.mem_iff_getElem.1 hx;exact ⟨i,List.mem_range.2 hi,by simpa [hi] using h⟩
end Go.LN
namespace Go.LN
theorem lnHasV (l:List Int) (n:Int) (hl:l.length ≤ 1048576):M.laws_lnHas l n=some (hasB l n):=by
  unfold M.laws_lnHas;have h:=loop_any (R:=Bool) (r0:=true) (n:=l.length) (f:=M.laws_lnHas_l1 l n) (P:=fun i=>l.getD i 0 == n) (fun i hi=>by
      rw [M.laws_lnHas_l1];have h1:((i:Int) < (l.length:Int)):=by omega
      have hg:l.getD i 0=l[i]:=by simp [hi]
      simp only [h1,decide_true,if_true,yZ hi,Option.bind_eq_bind,Option.bind_some,Option.pure_def,hg];rw [uY (by omega)]) (by rw [M.laws_lnHas_l1]; simp)
  rw [any_range l (fun x=>x == n) 0] at h;rw [h];unfold hasB;cases l.any fun x=>x == n <;> rfl
end Go.LN
namespace Go.LN
def setA:List Bool→List Int→List Bool
  | f,[]=>f
  | f,c::cs=>setA (f.set c.toNat true) cs
theorem setA_len:∀ (cs:List Int) (f:List Bool),(setA f cs).length=f.length
  | [],f=>rfl
  | c::cs,f=>by rw [setA,setA_len cs,List.length_set]
theorem setA_app:∀ (cs ds:List Int) (f:List Bool),setA f (cs ++ ds)=setA (setA f cs) ds
  | [],ds,f=>rfl
  | c::cs,ds,f=>by rw [List.cons_append,setA,setA_app cs ds,setA]
theorem getF_set {f:List Bool}{i k:Nat}{b:Bool} (hi:i < f.length):(f.set i b).getD k false=if i=k then b else f.getD k false:=by
  rw [List.getD_eq_getElem?_getD,List.getElem?_set];by_cases h:i=k
  · subst h; simp [hi]
  · simp [h]
theorem setA_iff {k:Nat}:∀ (cs:List Int) (f:List Bool),(∀ c ∈ cs,0 ≤ c∧c < (f.length:Int))→((setA f cs).getD k false=true ↔ f.getD k false=true∨(k:Int) ∈ cs)
  | [],f,_=>by simp [setA]
  | c::cs,f,h=>by
    have hc:=h c (List.mem_cons_self ..)
    rw [setA,setA_iff cs _ (fun d hd=>by rw [List.length_set]; exact h d (List.mem_cons_of_mem _ hd)),getF_set (by omega),List.mem_cons]
    by_cases e:c.toNat=k
    · have:(k:Int)=c:=by omega
      simp [e,this]
    · have:¬((k:Int)=c):=by omega
      simp [e,this]
def repF (n:Nat):List Bool:=List.replicate n false
theorem repF_get (n k:Nat):(repF n).getD k false=false:=by
  unfold repF;rw [List.getD_eq_getElem?_getD,List.getElem?_replicate];split <;> rfl
def choF:List Bool→Nat→List Int
  | [],_=>[]
  | b::l,i=>(if b then [(i:Int)] else []) ++ choF l (i + 1)
theorem mem_cho {c:Int}:∀ {l:List Bool}{i:Nat},c ∈ choF l i ↔ ∃ k:Nat,c=((i + k:Nat):Int)∧l.getD k false=true
  | [],i=>by simp [choF]
  | b::l,i=>by
    rw [choF,List.mem_append,mem_cho (l:=l)]
    constructor
    · rintro (h | ⟨k,h1,h2⟩)
      · cases b with
        | false=>simp at h
        | true=>exact ⟨0,by simpa using h,rfl⟩
      · exact ⟨k + 1,by rw [h1]; omega,by simpa using h2⟩
    · rintro ⟨k,h1,h2⟩
      cases k with
      | zero =>
        have hb:b=true:=by simpa using h2
        left; rw [hb]; simpa using h1
      | succ k=>exact .inr ⟨k,by rw [h1]; omega,by simpa using h2⟩
theorem choF_len:∀ (l:List Bool) (i:Nat),(choF l i).length ≤ l.length
  | [],_=>Nat.le_refl _
  | b::l,i=>by
    have:=choF_len l (i + 1)
    rw [choF,List.length_append,List.length_cons]
    cases b <;> simp <;> omega
theorem implCho (l:List Bool) (hl:l.length ≤ 1000000):M.impl_chosen l=some (choF l 0):=by
  have key:∀ (j i:Nat) (o:List Int),i + j=l.length→o.length ≤ i→M.impl_chosen_l1 l o (i:Int)=some (o ++ choF (l.drop i) i):=by
    intro j
    induction j with
    | zero =>
      intro i o hi ho;rw [M.impl_chosen_l1];have:¬((i:Int) < (l.length:Int)):=by omega
      simp only [this,decide_false,Bool.false_eq_true,if_false,Option.pure_def,id];rw [List.drop_eq_nil_iff.2 (by omega),choF,List.append_nil]
    | succ j ih =>
      intro i o hi ho;rw [M.impl_chosen_l1];have hlt:i < l.length:=by omega
      have hc:((i:Int) < (l.length:Int)):=by omega
      rw [List.drop_eq_getElem_cons hlt,choF];simp only [hc,decide_true,if_true,yZ hlt,Option.bind_eq_bind,Option.bind_some,Option.pure_def,id,pD (show (o.length + [(i:Int)].length) * 8 ≤ 140737488355328 by simp; omega)];rw [uY (by omega)];cases l[i] with
      | false =>
        simp only [Bool.false_eq_true,if_false,Option.bind_some];rw [ih (i + 1) o (by omega) (by omega),List.nil_append]
      | true =>
        simp only [if_true,Option.bind_some];rw [ih (i + 1) _ (by omega) (by rw [List.length_append]; simp; omega),List.append_assoc]
  have:=key _ 0 [] (Nat.zero_add _) (Nat.le_refl _);rw [Int.natCast_zero,List.drop_zero,List.nil_append] at this;unfold M.impl_chosen;rw [this]; rfl
theorem specCho (l:List Bool) (hl:l.length ≤ 1000000):M.spec_l5Flagged l=some (choF l 0):=by
  have key:∀ (j i:Nat) (o:List Int),i + j=l.length→o.length ≤ i→M.spec_l5Flagged_l1 l o (i:Int)=some (o ++ choF (l.drop i) i):=by
    intro j
    induction j with
    | zero =>
      intro i o hi ho;rw [M.spec_l5Flagged_l1];have:¬((i:Int) < (l.length:Int)):=by omega
      simp only [this,decide_false,Bool.false_eq_true,if_false,Option.pure_def,id];rw [List.drop_eq_nil_iff.2 (by omega),choF,List.append_nil]
    | succ j ih =>
      intro i o hi ho;rw [M.spec_l5Flagged_l1];have hlt:i < l.length:=by omega
      have hc:((i:Int) < (l.length:Int)):=by omega
      rw [List.drop_eq_getElem_cons hlt,choF];simp only [hc,decide_true,if_true,yZ hlt,Option.bind_eq_bind,Option.bind_some,Option.pure_def,id,pD (show (o.length + [(i:Int)].length) * 8 ≤ 140737488355328 by simp; omega)];rw [uY (by omega)];cases l[i] with
      | false =>
        simp only [Bool.false_eq_true,if_false,Option.bind_some];rw [ih (i + 1) o (by omega) (by omega),List.nil_append]
      | true =>
        simp only [if_true,Option.bind_some];rw [ih (i + 1) _ (by omega) (by rw [List.length_append]; simp; omega),List.append_assoc]
  have:=key _ 0 [] (Nat.zero_add _) (Nat.le_refl _);rw [Int.natCast_zero,List.drop_zero,List.nil_append] at this;unfold M.spec_l5Flagged;rw [this]; rfl
def nCel (P:zV):Nat:=(totL P.Arrays 0).toNat
theorem nC_tot {P:zV} (hv:validP P=true):totL P.Arrays 0=(nCel P:Int)∧nCel P ≤ 144:=by
  obtain ⟨t1,t2,t3⟩:=valid_tot hv;unfold nCel;omega
theorem row_n (n:Nat) (h:n ≤ 1000000):mkrow 1 (n:Int) (false:Bool)=some (repF n):=mk_row n h
theorem idx_set {f:List Bool}{c:Int} (h0:0 ≤ c) (h1:c < (f.length:Int)):∃ b,idx f c=some b:=by
  obtain ⟨k,rfl⟩:∃ k:Nat,c=(k:Int):=⟨c.toNat,by omega⟩;exact ⟨_,yZ (by omega)⟩
theorem repF_len (n:Nat):(repF n).length=n:=List.length_replicate ..
theorem set_l2 (x:List Int) (hx:x.length ≤ 1048576):∀ (j i:Nat) (f:List Bool),i + j=x.length→(∀ c ∈ x,0 ≤ c∧c < (f.length:Int))→M.impl_traced_cellsOf_l2 x f (i:Int)=some (setA f (x.drop i)):=by
  intro j
  induction j with
  | zero =>
    intro i f hi hf;rw [M.impl_traced_cellsOf_l2];have:¬((i:Int) < (x.length:Int)):=by omega
    simp only [this,decide_false,Bool.false_eq_true,if_false,Option.pure_def,id];rw [List.drop_eq_nil_iff.2 (by omega),setA]
  | succ j ih =>
    intro i f hi hf;rw [M.impl_traced_cellsOf_l2];have hlt:i < x.length:=by omega
    have hc:((i:Int) < (x.length:Int)):=by omega
    obtain ⟨w1,w2⟩:=hf _ (List.getElem_mem hlt);obtain ⟨b,hbx⟩:=idx_set (f:=f) w1 w2;simp only [hc,decide_true,if_true,yZ hlt,hbx,Option.bind_eq_bind,Option.bind_some,Option.pure_def];rw [uY (by omega),ih (i + 1) _ (by omega) (by rw [List.length_set]; exact hf),List.drop_eq_getElem_cons hlt,setA]
def ofPart (P:zV) (part:Int) (l:List zT):List zT:=l.filter fun z=>z.Part == part
theorem cellsOf_l1 {P:zV} (hb:BG P) (hv:validP P=true) (part:Int):∀ (j i:Nat) (f g:List Bool),i + j=(progI P).length→f.length=nCel P→g.length=nCel P→M.impl_traced_cellsOf_l1 (trcP P) part f g (i:Int)=some (setA f ((ofPart P part ((progI P).drop i)).flatMap (rdI P)),setA g ((ofPart P part ((progI P).drop i)).map (wrI P))):=by
  have hlen:=(zCr hv).2.2.2;have hn:=nC_tot hv;intro j
  induction j with
  | zero =>
    intro i f g hi hf hg;rw [M.impl_traced_cellsOf_l1];have:¬((i:Int) < ((trcP P).list.length:Int)):=by show ¬((i:Int) < ((progI P).length:Int)); omega
    simp only [this,decide_false,Bool.false_eq_true,if_false,Option.pure_def,id];rw [List.drop_eq_nil_iff.2 (by omega)];rfl
  | succ j ih =>
    intro i f g hi hf hg;rw [M.impl_traced_cellsOf_l1];have hlt:i < (progI P).length:=by omega
    have hc:((i:Int) < ((progI P).length:Int)):=by omega
    have hz:=zJJ hb hv (List.getElem_mem hlt);have hrl:=zJ0 hz;obtain ⟨r1,w1,w2⟩:=rdI_rng hv hz;obtain ⟨b,hbx⟩:=idx_set (f:=g) w1 (by omega);have hr:idx ((progI P).map (rdI P)) (i:Int)=some (rdI P (progI P)[i]):=by rw [yZ (by rw [List.length_map]; exact hlt)]; simp
    have hw:idx ((progI P).map (wrI P)) (i:Int)=some (wrI P (progI P)[i]):=by rw [yZ (by rw [List.length_map]; exact hlt)]; simp
    have h2:=set_l2 (rdI P (progI P)[i]) (by omega) _ 0 f (Nat.zero_add _) (fun c hc=>by have:=r1 c hc; omega);rw [Int.natCast_zero,List.drop_zero] at h2;have hn1:=ih (i + 1) f g (by omega) hf hg;have hn2:=ih (i + 1) (setA f (rdI P (progI P)[i])) (g.set (wrI P (progI P)[i]).toNat true) (by omega) (by rw [setA_len]; exact hf) (by rw [List.length_set]; exact hg);rw [show trcP P=⟨P,progI P,(progI P).map (rdI P),(progI P).map (wrI P)⟩ from rfl] at hn1 hn2 ⊢;rw [List.drop_eq_getElem_cons hlt];simp only [hc,decide_true,if_true,yZ hlt,hr,hw,hbx,h2,Option.bind_eq_bind,Option.bind_some,Option.pure_def];rw [uY (by omega)];by_cases e:(progI P)[i].Part=part
    · have e1:((progI P)[i].Part != part)=false:=by simpa using e
      have e2:((progI P)[i].Part == part)=true:=by simpa using e
      simp only [e1,Bool.false_eq_true,if_false];rw [hn2];unfold ofPart;rw [List.filter_cons_of_pos (p:=fun z:zT=>z.Part == part) e2,List.flatMap_cons,List.map_cons,setA_app,setA]
    · have e1:((progI P)[i].Part != part)=true:=by simpa using e
      have e2:¬(((progI P)[i].Part == part)=true):=by simpa using e
      simp only [e1,if_true];rw [hn1];unfold ofPart;rw [List.filter_cons_of_neg (p:=fun z:zT=>z.Part == part) e2]
def inR (P:zV) (part:Int):Prop:=validP P=true∧0 ≤ part∧part < (P.Parts.length:Int)
instance (P:zV) (part:Int):Decidable (inR P part):=inferInstanceAs (Decidable (_∧_))
def prF (P:zV) (part:Int):List Int:=if inR P part then choF (setA (repF (nCel P)) ((ofPart P part (progI P)).flatMap (rdI P))) 0 else []
theorem cellsOfV {P:zV} (hb:BG P) (hv:validP P=true) (part:Int):M.impl_traced_cellsOf (trcP P) part=some (setA (repF (nCel P)) ((ofPart P part (progI P)).flatMap (rdI P)),setA (repF (nCel P)) ((ofPart P part (progI P)).map (wrI P))):=by
  have hn:=nC_tot hv;have hl:=cellsOf_l1 hb hv part _ 0 (repF (nCel P)) (repF (nCel P)) (Nat.zero_add _) (repF_len _) (repF_len _);rw [Int.natCast_zero,List.drop_zero] at hl;unfold M.impl_traced_cellsOf;simp only [show (trcP P).Program=P from rfl,implCells P hb.1,hn.1,row_n _ (show nCel P ≤ 1000000 by omega),hl,Option.bind_eq_bind,Option.bind_some,Option.pure_def]
theorem isPartV {P:zV} (hb:BG P) (part:Int):M.impl_Program_isPart P part=some (decide (0 ≤ part) && decide (part ≤ (P.Parts.length:Int) - 1)):=by
  have:=hb.2.1;unfold M.impl_Program_isPart;simp only [pL,sE (x:=(P.Parts.length:Int) - 1) (by omega) (by omega),Option.bind_eq_bind,Option.bind_some,Option.pure_def,id]
theorem implPr (P:zV) (hb:BG P) (part:Int):M.impl_PartReads P part=some (prF P part):=by
  unfold M.impl_PartReads prF;rw [implTrace P hb];cases hv:validP P with
  | false =>
    have:¬inR P part:=fun h=>by have h1:=h.1; rw [hv] at h1; cases h1
    simp [this]
  | true =>
    have hn:=nC_tot hv;have hch:=implCho (setA (repF (nCel P)) ((ofPart P part (progI P)).flatMap (rdI P))) (by rw [setA_len,repF_len]; omega);by_cases h:inR P part
    · rw [if_pos h];have e1:=h.2.1;have e2:part ≤ (P.Parts.length:Int) - 1:=by have:=h.2.2; omega
      simp only [if_true,Option.bind_eq_bind,Option.bind_some,Option.pure_def,Bool.not_true,Bool.false_eq_true,if_false,isPartV hb,e1,e2,decide_true,Bool.and_self,cellsOfV hb hv,hch,id]
    · rw [if_neg h];have e:(!(decide (0 ≤ part) && decide (part ≤ (P.Parts.length:Int) - 1)))=true:=by
        cases hd:(decide (0 ≤ part) && decide (part ≤ (P.Parts.length:Int) - 1)) with
        | false=>rfl
        | true =>
          simp only [Bool.and_eq_true,decide_eq_true_eq] at hd;exact absurd ⟨hv,hd.1,by omega⟩ h
      simp only [if_true,Option.bind_eq_bind,Option.bind_some,Option.pure_def,Bool.not_true,Bool.false_eq_true,if_false,isPartV hb,e]
theorem mem_cells {n:Nat}{cs:List Int}{c:Int} (h:∀ c ∈ cs,0 ≤ c∧c < (n:Int)):c ∈ choF (setA (repF n) cs) 0 ↔ c ∈ cs:=by
  rw [mem_cho];have h':∀ c ∈ cs,0 ≤ c∧c < ((repF n).length:Int):=by rw [repF_len]; exact h
  constructor
  · rintro ⟨k,h1,h2⟩;rw [Nat.zero_add] at h1;rw [setA_iff cs _ h',repF_get] at h2;rw [h1];rcases h2 with h2 | h2
    · cases h2
    · exact h2
  · intro hc;have:=h c hc;refine ⟨c.toNat,by omega,?_⟩;rw [setA_iff cs _ h'];exact .inr (by rw [show ((c.toNat:Nat):Int)=c by omega]; exact hc)
theorem ofPart_mem {P:zV}{part:Int}{z:zT}:z ∈ ofPart P part (progI P) ↔ z ∈ progI P∧z.Part=part:=by
  unfold ofPart;rw [List.mem_filter];simp
theorem mem_pr {P:zV} (hb:BG P) {part:Int} (h:inR P part) {c:Int}:c ∈ prF P part ↔ ∃ z ∈ progI P,z.Part=part∧c ∈ rdI P z:=by
  have hn:=nC_tot h.1;unfold prF;rw [if_pos h,mem_cells,List.mem_flatMap]
  · constructor
    · rintro ⟨z,hz,e⟩;obtain ⟨h1,h2⟩:=ofPart_mem.1 hz;exact ⟨z,h1,h2,e⟩
    · rintro ⟨z,h1,h2,e⟩;exact ⟨z,ofPart_mem.2 ⟨h1,h2⟩,e⟩
  · intro c hc;obtain ⟨z,hz,hc⟩:=List.mem_flatMap.1 hc;have:=(rdI_rng h.1 (zJJ hb h.1 (ofPart_mem.1 hz).1)).1 c hc;omega
theorem prF_len (P:zV) (part:Int):(prF P part).length ≤ 1000:=by
  unfold prF;split
  · rename_i h;have hn:=nC_tot h.1;have:=choF_len (setA (repF (nCel P)) ((ofPart P part (progI P)).flatMap (rdI P))) 0;rw [setA_len,repF_len] at this;omega
  · simp
end Go.LN
namespace Go.LN
def inp1 (wr:List Bool):List Bool→List Int→List Bool
  | f,[]=>f
  | f,c::cs=>inp1 wr (f.set c.toNat (f.getD c.toNat false || !(wr.getD c.toNat false))) cs
def inpA (P:zV):List zT→List Bool→List Bool→List Bool
  | [],_,f=>f
  | z::l,wr,f=>inpA P l (wr.set (wrI P z).toNat true) (inp1 wr f (rdI P z))
theorem inp1_len (wr:List Bool):∀ (cs:List Int) (f:List Bool),(inp1 wr f cs).length=f.length
  | [],f=>rfl
  | c::cs,f=>by rw [inp1,inp1_len wr cs,List.length_set]
theorem inpA_len (P:zV):∀ (l:List zT) (wr f:List Bool),(inpA P l wr f).length=f.length
  | [],wr,f=>rfl
  | z::l,wr,f=>by rw [inpA,inpA_len P l,inp1_len]
theorem inp1_only (wr:List Bool) {k:Nat}:∀ (cs:List Int) (f:List Bool),(∀ c ∈ cs,0 ≤ c∧c < (f.length:Int))→(inp1 wr f cs).getD k false=true→f.getD k false=true∨(k:Int) ∈ cs
  | [],f,_,h=>.inl h
  | c::cs,f,hc,h=>by
    have h0:=hc c (List.mem_cons_self ..)
    rw [inp1] at h
    rcases inp1_only wr cs _ (fun d hd=>by rw [List.length_set]; exact hc d (List.mem_cons_of_mem _ hd)) h with h | h
    · rw [getF_set (by omega)] at h
      by_cases e:c.toNat=k
      · exact .inr (List.mem_cons.2 (.inl (by omega)))
      · rw [if_neg e] at h; exact .inl h
    · exact .inr (List.mem_cons_of_mem _ h)
theorem inpA_only (P:zV) {k:Nat}:∀ (l:List zT) (wr f:List Bool),(∀ z ∈ l,∀ c ∈ rdI P z,0 ≤ c∧c < (f.length:Int))→(inpA P l wr f).getD k false=true→f.getD k false=true∨∃ z ∈ l,(k:Int) ∈ rdI P z
  | [],wr,f,_,h=>.inl h
  | z::l,wr,f,hc,h=>by
    rw [inpA] at h
    rcases inpA_only P l _ _ (fun y hy c hcy=>by rw [inp1_len]; exact hc y (List.mem_cons_of_mem _ hy) c hcy) h with h | ⟨y,hy,h⟩
    · rcases inp1_only wr _ _ (hc z (List.mem_cons_self ..)) h with h | h
      · exact .inl h
      · exact .inr ⟨z,List.mem_cons_self ..,h⟩
    · exact .inr ⟨y,List.mem_cons_of_mem _ hy,h⟩
theorem getD_get {f:List Bool}{k:Nat} (h:k < f.length):f.getD k false=f[k]:=by simp [h]
theorem inp_l2 (wr:List Bool) (x:List Int) (hx:x.length ≤ 1048576):∀ (j i:Nat) (f:List Bool),i + j=x.length→f.length=wr.length→(∀ c ∈ x,0 ≤ c∧c < (f.length:Int))→M.impl_InputCells_l2 wr x f (i:Int)=some (inp1 wr f (x.drop i)):=by
  intro j
  induction j with
  | zero =>
    intro i f hi hw hf;rw [M.impl_InputCells_l2];have:¬((i:Int) < (x.length:Int)):=by omega
    simp only [this,decide_false,Bool.false_eq_true,if_false,Option.pure_def,id];rw [List.drop_eq_nil_iff.2 (by omega),inp1]
  | succ j ih =>
    intro i f hi hw hf;rw [M.impl_InputCells_l2];have hlt:i < x.length:=by omega
    have hc:((i:Int) < (x.length:Int)):=by omega
    obtain ⟨w1,w2⟩:=hf _ (List.getElem_mem hlt);obtain ⟨k,hk⟩:∃ k:Nat,x[i]=(k:Int):=⟨x[i].toNat,by omega⟩;have hkf:k < f.length:=by omega
    have hkw:k < wr.length:=by omega
    rw [List.drop_eq_getElem_cons hlt,inp1,hk,Int.toNat_natCast,getD_get hkf,getD_get hkw];simp only [hc,decide_true,if_true,yZ hlt,hk,yZ hkf,yZ hkw,Option.bind_eq_bind,Option.bind_some,Option.pure_def,id,Int.toNat_natCast];rw [uY (by omega)];cases f[k] with
    | true =>
      simp only [if_true,Option.bind_some,Bool.true_or];exact ih (i + 1) _ (by omega) (by rw [List.length_set]; exact hw) (by rw [List.length_set]; exact hf)
    | false =>
      simp only [Bool.false_eq_true,if_false,Option.bind_some,Bool.false_or];exact ih (i + 1) _ (by omega) (by rw [List.length_set]; exact hw) (by rw [List.length_set]; exact hf)
theorem inpS_l2 (wr:List Bool) (x:List Int) (hx:x.length ≤ 1048576):∀ (j i:Nat) (f:List Bool),i + j=x.length→f.length=wr.length→(∀ c ∈ x,0 ≤ c∧c < (f.length:Int))→M.spec_InputCells_l2 wr x f (i:Int)=some (inp1 wr f (x.drop i)):=by
  intro j
  induction j with
  | zero =>
    intro i f hi hw hf;rw [M.spec_InputCells_l2];have:¬((i:Int) < (x.length:Int)):=by omega
    simp only [this,decide_false,Bool.false_eq_true,if_false,Option.pure_def,id];rw [List.drop_eq_nil_iff.2 (by omega),inp1]
  | succ j ih =>
    intro i f hi hw hf;rw [M.spec_InputCells_l2];have hlt:i < x.length:=by omega
    have hc:((i:Int) < (x.length:Int)):=by omega
    obtain ⟨w1,w2⟩:=hf _ (List.getElem_mem hlt);obtain ⟨k,hk⟩:∃ k:Nat,x[i]=(k:Int):=⟨x[i].toNat,by omega⟩;have hkf:k < f.length:=by omega
    have hkw:k < wr.length:=by omega
    rw [List.drop_eq_getElem_cons hlt,inp1,hk,Int.toNat_natCast,getD_get hkf,getD_get hkw];simp only [hc,decide_true,if_true,yZ hlt,hk,yZ hkf,yZ hkw,Option.bind_eq_bind,Option.bind_some,Option.pure_def,id,Int.toNat_natCast];rw [uY (by omega)];cases f[k] with
    | true =>
      simp only [if_true,Option.bind_some,Bool.true_or];exact ih (i + 1) _ (by omega) (by rw [List.length_set]; exact hw) (by rw [List.length_set]; exact hf)
    | false =>
      simp only [Bool.false_eq_true,if_false,Option.bind_some,Bool.false_or];exact ih (i + 1) _ (by omega) (by rw [List.length_set]; exact hw) (by rw [List.length_set]; exact hf)
theorem inp_l1 {P:zV} (hb:BG P) (hv:validP P=true):∀ (j i:Nat) (wr f:List Bool),i + j=(progI P).length→wr.length=nCel P→f.length=nCel P→M.impl_InputCells_l1 P (progI P) wr f (i:Int)=some (inpA P ((progI P).drop i) wr f):=by
  have hlen:=(zCr hv).2.2.2;have hn:=nC_tot hv;intro j
  induction j with
  | zero =>
    intro i wr f hi hw hf;rw [M.impl_InputCells_l1];have:¬((i:Int) < ((progI P).length:Int)):=by omega
    simp only [this,decide_false,Bool.false_eq_true,if_false,Option.pure_def,id];rw [List.drop_eq_nil_iff.2 (by omega),inpA]
  | succ j ih =>
    intro i wr f hi hw hf;rw [M.impl_InputCells_l1];have hlt:i < (progI P).length:=by omega
    have hc:((i:Int) < ((progI P).length:Int)):=by omega
    have hz:=zJJ hb hv (List.getElem_mem hlt);have hrl:=zJ0 hz;obtain ⟨r1,w1,w2⟩:=rdI_rng hv hz;obtain ⟨b,hbx⟩:=idx_set (f:=wr) w1 (by omega);have h2:=inp_l2 wr (rdI P (progI P)[i]) (by omega) _ 0 f (Nat.zero_add _) (by omega) (fun c hc=>by have:=r1 c hc; omega);rw [Int.natCast_zero,List.drop_zero] at h2;simp only [hc,decide_true,if_true,yZ hlt,touchedV hb hv hz,h2,hbx,Option.bind_eq_bind,Option.bind_some,Option.pure_def];rw [uY (by omega),ih (i + 1) _ _ (by omega) (by rw [List.length_set]; exact hw) (by rw [inp1_len]; exact hf),List.drop_eq_getElem_cons hlt,inpA]
theorem inpS_l1 {P:zV} (hb:BG P) (hv:validP P=true):∀ (j i:Nat) (wr f:List Bool),i + j=(progI P).length→wr.length=nCel P→f.length=nCel P→M.spec_InputCells_l1 P (progI P) f wr (i:Int)=some (inpA P ((progI P).drop i) wr f):=by
  have hlen:=(zCr hv).2.2.2;have hR:=zHr hb hv;have hn:=nC_tot hv;intro j
  induction j with
  | zero =>
    intro i wr f hi hw hf;rw [M.spec_InputCells_l1];have:¬((i:Int) < ((progI P).length:Int)):=by omega
    simp only [this,decide_false,Bool.false_eq_true,if_false,Option.pure_def,id];rw [List.drop_eq_nil_iff.2 (by omega),inpA]
  | succ j ih =>
    intro i wr f hi hw hf;rw [M.spec_InputCells_l1];have hlt:i < (progI P).length:=by omega
    have hc:((i:Int) < ((progI P).length:Int)):=by omega
    have hz:=zJJ hb hv (List.getElem_mem hlt);have hrl:=zJ0 hz;obtain ⟨d,hd⟩:=hz.st;have hcl:qZ P.Arrays (stI P (progI P)[i]) (progI P)[i].Point=some (rdI P (progI P)[i],wrI P (progI P)[i],true):=by
      rw [specCells P.Arrays (stI P (progI P)[i]) (progI P)[i].Point hd hz.bs hz.pt hR,if_pos hz.ok]; rfl
    obtain ⟨r1,w1,w2⟩:=rdI_rng hv hz;obtain ⟨b,hbx⟩:=idx_set (f:=wr) w1 (by omega);have h2:=inpS_l2 wr (rdI P (progI P)[i]) (by omega) _ 0 f (Nat.zero_add _) (by omega) (fun c hc=>by have:=r1 c hc; omega);rw [Int.natCast_zero,List.drop_zero] at h2;simp only [hc,decide_true,if_true,yZ hlt,hz.idxP,hz.idxS,hcl,h2,hbx,Option.bind_eq_bind,Option.bind_some,Option.pure_def];rw [uY (by omega),ih (i + 1) _ _ (by omega) (by rw [List.length_set]; exact hw) (by rw [inp1_len]; exact hf),List.drop_eq_getElem_cons hlt,inpA]
def inpF (P:zV):List Int:=if validP P then choF (inpA P (progI P) (repF (nCel P)) (repF (nCel P))) 0 else []
theorem implInp (P:zV) (hb:BG P):M.impl_InputCells P=some (inpF P):=by
  unfold M.impl_InputCells inpF;rw [implInstances P hb];cases hv:validP P with
  | false =>
    unfold validP at hv;cases hp:progB P with
    | false=>rfl
    | true =>
      rw [hp,Bool.true_and] at hv;simp [hv]
  | true =>
    have hv':=hv;unfold validP at hv';rw [Bool.and_eq_true] at hv';have hn:=nC_tot hv;have hl:=inp_l1 hb hv _ 0 (repF (nCel P)) (repF (nCel P)) (Nat.zero_add _) (repF_len _) (repF_len _);rw [Int.natCast_zero,List.drop_zero] at hl;simp only [hv'.1,hv'.2,if_true,Option.bind_eq_bind,Option.bind_some,Bool.not_true,Bool.false_eq_true,if_false,implCells P hb.1,hn.1,row_n _ (show nCel P ≤ 1000000 by omega),hl,implCho _ (show (inpA P (progI P) (repF (nCel P)) (repF (nCel P))).length ≤ 1000000 by rw [inpA_len,repF_len]; omega),Option.pure_def,id]
theorem specInp (P:zV) (hb:BG P):M.spec_InputCells P=some (inpF P):=by
  unfold M.spec_InputCells inpF;rw [specValidP P hb];cases hv:validP P with
  | false=>rfl
  | true =>
    have hn:=nC_tot hv;have hl:=inpS_l1 hb hv _ 0 (repF (nCel P)) (repF (nCel P)) (Nat.zero_add _) (repF_len _) (repF_len _);rw [Int.natCast_zero,List.drop_zero] at hl;simp only [if_true,Option.bind_eq_bind,Option.bind_some,Bool.not_true,Bool.false_eq_true,if_false,specTotal P hb.1,hn.1,row_n _ (show nCel P ≤ 1000000 by omega),specInsts P hv,hl,specCho _ (show (inpA P (progI P) (repF (nCel P)) (repF (nCel P))).length ≤ 1000000 by rw [inpA_len,repF_len]; omega),Option.pure_def,id]
theorem inpF_len (P:zV):(inpF P).length ≤ 1000:=by
  unfold inpF;split
  · rename_i h;have hn:=nC_tot h;have:=choF_len (inpA P (progI P) (repF (nCel P)) (repF (nCel P))) 0;rw [inpA_len,repF_len] at this;omega
  · simp
theorem inp_read {P:zV} (hb:BG P) (hv:validP P=true) {c:Int} (h:c ∈ inpF P):∃ z ∈ progI P,c ∈ rdI P z:=by
  have hn:=nC_tot hv;unfold inpF at h;rw [if_pos hv,mem_cho] at h;obtain ⟨k,h1,h2⟩:=h;rw [Nat.zero_add] at h1;rw [h1];rcases inpA_only P (progI P) _ _ (fun z hz c hc=>by
    have:=(rdI_rng hv (zJJ hb hv hz)).1 c hc;rw [repF_len]; omega) h2 with h2 | h2
  · rw [repF_get] at h2; cases h2
  · exact h2
theorem inputs_l2 (P:zV) (hb:BG P) (A:List Int) (i:Nat) (hi:i < A.length):∀ (j k:Nat) (s:Bool),k + j=P.Parts.length→M.laws_FnInputReads_l2 P A (i:Int) s (k:Int)=some (s || (List.range' k j).any fun (q:Nat)=>hasB (prF P (q:Int)) A[i]):=by
  have hpl:=hb.2.1;intro j
  induction j with
  | zero =>
    intro k s hk;rw [M.laws_FnInputReads_l2];have:¬((k:Int) < (P.Parts.length:Int)):=by omega
    simp [this]
  | succ j ih =>
    intro k s hk;rw [M.laws_FnInputReads_l2];have hc:((k:Int) < (P.Parts.length:Int)):=by omega
    have hln:=prF_len P (k:Int);simp only [hc,decide_true,if_true,implPr P hb,yZ hi,lnHasV (prF P (k:Int)) _ (by omega),Option.bind_eq_bind,Option.bind_some,Option.pure_def,id];rw [uY (by omega),List.range'_succ,List.any_cons];cases s with
    | true=>simp only [if_true,Option.bind_some,ih (k + 1) true (by omega),Bool.true_or]
    | false=>simp only [Bool.false_eq_true,if_false,Option.bind_some,ih (k + 1) _ (by omega),Bool.false_or]
theorem inputs_l1 (P:zV) (hb:BG P):∀ (j i:Nat),i + j=(inpF P).length→M.laws_FnInputReads_l1 P (inpF P) (i:Int)=some (.done ()):=by
  have hwl:=inpF_len P;intro j
  induction j with
  | zero =>
    intro i hi;rw [M.laws_FnInputReads_l1];have:¬((i:Int) < ((inpF P).length:Int)):=by omega
    simp only [this,decide_false,Bool.false_eq_true,if_false,Option.pure_def]
  | succ j ih =>
    intro i hi;rw [M.laws_FnInputReads_l1];have hlt:i < (inpF P).length:=by omega
    have hc:((i:Int) < ((inpF P).length:Int)):=by omega
    have h4:=inputs_l2 P hb (inpF P) i hlt _ 0 false (Nat.zero_add _);rw [Int.natCast_zero,Bool.false_or] at h4;have hany:((List.range' 0 P.Parts.length).any fun (q:Nat)=>hasB (prF P (q:Int)) (inpF P)[i])=true:=by
      have hv:validP P=true:=by
        cases hv:validP P with
        | true=>rfl
        | false =>
          unfold inpF at hlt;rw [hv] at hlt;simp at hlt
      obtain ⟨z,hz,hw⟩:=inp_read hb hv (List.getElem_mem hlt);have hp:=(zJJ hb hv hz).part;refine List.any_eq_true.2 ⟨z.Part.toNat,List.mem_range'_1.2 ⟨Nat.zero_le _,by omega⟩,hasB_iff.2 ?_⟩;rw [show ((z.Part.toNat:Nat):Int)=z.Part by omega];exact (mem_pr hb ⟨hv,hp⟩).2 ⟨z,hz,rfl,hw⟩
    rw [hany] at h4;simp only [hc,decide_true,if_true,h4,Option.bind_eq_bind,Option.bind_some,Bool.not_true,Bool.false_eq_true,if_false];rw [uY (by omega)];exact ih (i + 1) (by omega)
theorem law_InputReads (code:List UInt8):∃ r,M.laws_FnInputReads code=some r∧r=true:=by
  obtain ⟨y,hy,hb,hAR⟩:=drawProg code;unfold M.laws_FnInputReads;refine ⟨true,?_,rfl⟩;have hd:M.spec_DrawInputCells code=some y:=by unfold M.spec_DrawInputCells; rw [hy]; rfl
  by_cases h1:(code.length:Int) > 1048576
  · simp [h1]
  · have hwl:=inpF_len y;have hr:=intsV (inpF y) (inpF y) (by omega);have l1:=inputs_l1 y hb _ 0 (Nat.zero_add _);rw [Int.natCast_zero] at l1;simp only [h1,decide_false,Bool.false_eq_true,if_false,hd,implInp y hb,specInp y hb,hr,l1,decide_true,Bool.not_true,Option.pure_def,Option.bind_eq_bind,Option.bind_some]
end Go.LN
