/- Helper of the proof (see the last text). -/
import Derived.Test.YtgempbddefdamaaGreatLnA
import Derived.Test.YtgempbddefdamaaGreatLnI
import Derived.Test.YtgempbddefdamaaGreatLnP
import Derived.Test.YtgempbddefdamaaGreatTryzShelf
import Derived.Test.YtgempbddefdamaaGreatHM1
import Derived.Test.YtgempbddefdamaaGreatHM2
import Derived.Test.YtgempbddefdamaaGreatHM3
import Derived.Test.YtgempbddefdamaaGreatHM4
import Derived.Test.YtgempbddefdamaaGreatHM5
import Derived.Test.YtgempbddefdamaaGreatHM6
import Derived.Test.YtgempbddefdamaaGreatHM7
import Derived.Test.YtgempbddefdamaaGreatHM8
import Derived.Test.YtgempbddefdamaaGreatQT
import Derived.Test.YtgempbddefdamaaGreatQZ
import Derived.Test.YtgempbddefdamaaGreatVB1
import Derived.Test.YtgempbddefdamaaGreatVB8
import Derived.Test.YtgempbddefdamaaGreatLnR
set_option linter.unusedVariables false
set_option linter.unusedSimpArgs false
namespace Go.LN
def mkrow {α:Type} (bytes:Nat) (k:Int) (z:α):Option (List α):=if 0 ≤ k∧k.toNat * bytes ≤ 140737488355328 then some (List.replicate k.toNat z) else none
def zrow (z:Array Value) (k:Nat):List Value:=(List.range k).map fun i=>z[i % z.size]!
theorem zrow_one (z:Array Value) (k:Nat) (h:0 < z.size):(List.range z.size).map (fun i=>z[(k * z.size + i) % z.size]!)=z.toList:=by
  refine List.ext_getElem (by simp) fun i h1 h2=>?_;have hi:i < z.size:=by simpa using h1
  simp only [List.getElem_map,List.getElem_range,Array.getElem_toList];have e:(k * z.size + i) % z.size=i:=by rw [Nat.add_comm,Nat.mul_comm,Nat.add_mul_mod_self_left,Nat.mod_eq_of_lt hi]
  rw [e];exact getElem!_pos z i hi
theorem zrow_rep {α:Type}{ρ:List Value→α→Prop}{z:Array Value}{a:α} (hz:0 < z.size) (h:ρ z.toList a):∀ k,RepL ρ z.size (zrow z (k * z.size)) (List.replicate k a)
  | 0=>by simp [zrow,RepL]
  | k + 1=>by
    have e:zrow z ((k + 1) * z.size)=zrow z (k * z.size) ++ z.toList:=by
      unfold zrow
      rw [Nat.succ_mul,List.range_add,List.map_append,List.map_map]
      congr 1
      exact zrow_one z k hz
    rw [e,List.replicate_succ']
    exact (zrow_rep hz h k).append (.single (by simp) h)
section
variable {P:Program}{n:Nat}{B:Base}{Q:Exit→Act→World→Prop}{imm:Imm}{hs:List HA}{m:FM}{ops:List Oper}{pc d:Nat}{ty:TypeId}{pos:String}{after:Array Edge}{g:Option (Nat×Bool)}
def mkT (P:Program) (t:TypeId):Option (Nat×Nat×List Value) :=
  match elemOfT P t with
  | some e=>match sizeT P e,bytesT P e,zeroC P e with
    | some s,some b,some z=>bif Nat.beq z.size s && Nat.blt 0 b then some (s,b,z.toList) else none
    | _,_,_=>none
  | none=>none
theorem R_mk {α:Type} [Rp α] {t:TypeId}{x y:Operand}{k:Int}{a:α}{l:List α} (by':Nat) (z:List Value) (ho:ops[pc]?=some ⟨some d,.makeSlice t x y,ty,pos,after,g⟩) (hk:mkrow by' k a=some l) (hr:Rp.rep imm z a)
    (next:∀ b cs,RL imm cs l→R P n B ops Q (pc + 1) imm (.osl (.slice (some ⟨b,0,none⟩) l.length l.length) (Rp.sz α) cs::hs) ((d,.slice (some ⟨b,0,none⟩) l.length l.length)::m))
    (hg:guardB ops m g=some true:=by kernel_rfl) (hn:Nat.blt d n=true:=by kernel_rfl) (hx:val m x=some (.int .i64 k):=by kernel_rfl) (hy:val m y=some (.int .i64 k):=by kernel_rfl) (ht:mkT P t=some (Rp.sz α,by',z):=by kernel_rfl) :
    R P n B ops Q pc imm hs m:=by
  refine nG ho hg rfl hn fun ac w f gd=>?_
  unfold mkrow at hk
  split at hk
  · rename_i hk0
    cases hk
    obtain ⟨hk0,hkb⟩:=hk0
    unfold mkT at ht
    cases he:elemOfT P t with
    | none=>rw [he] at ht; cases ht
    | some e =>
      rw [he] at ht
      simp only at ht
      split at ht
      · rename_i s b zc h1 h2 h3
        cases hq:Nat.beq zc.size s && Nat.blt 0 b with
        | false=>rw [hq] at ht; cases ht
        | true =>
          rw [hq] at ht
          simp only [cond_true,Option.some.injEq,Prod.mk.injEq] at ht
          obtain ⟨rfl,rfl,rfl⟩:=ht
          rw [Bool.and_eq_true] at hq
          have hzs:=Nat.eq_of_beq_eq_true hq.1
          have hb0:0 < b:=by simpa using hq.2
          have hu:P.underlying t=some (.slice e):=by
            unfold elemOfT at he
            split at he <;> simp_all
          cases hie:P.info? e with
          | none=>simp [sizeT,hie] at h1
          | some ie =>
          have hsz':ie.size=Rp.sz α:=by simpa [sizeT,hie] using h1
          have hby':ie.bytes=b:=by simpa [bytesT,hie] using h2
          obtain ⟨zv,hz1,hz2⟩:=gR (w:=w) h3
          have hpos:0 < zc.size:=by rw [hzs]; exact Rp.pos
          have hkk:(k.toNat:Int)=k:=Int.toNat_of_nonneg hk0
          have hle:k.toNat ≤ k.toNat * b:=Nat.le_mul_of_pos_right _ hb0
          have hwr:IntKind.i64.wrap k=k:=by rw [IntKind.wrap_i64]; omega
          have hmul:((ie.bytes:Int) * k) ≤ 140737488355328:=by
            rw [← hkk,hby',← Int.natCast_mul,Nat.mul_comm]
            exact Int.ofNat_le.2 hkb
          have hnt:¬(k < 0):=by omega
          have hnb:¬((ie.bytes:Int) * k > 2 ^ 48):=by omega
          let row:Array Value:=if k.toNat * Rp.sz α=0 then #[] else (Array.range (k.toNat * Rp.sz α)).map (fun i=>zc[i % zc.size]!)
          have hrow:(((Array.range (k.toNat * ie.size)).map fun i=>(if k.toNat * ie.size=0 then #[] else zc)[i % (if k.toNat * ie.size=0 then (#[]:Array Value) else zc).size]!))=⟨zrow zc (k.toNat * zc.size)⟩:=by
            rw [hsz',← hzs]
            apply Array.ext'
            by_cases h0:k.toNat * zc.size=0
            · simp [h0,zrow]
            · simp [h0,zrow]
          have hlen:(zrow zc (k.toNat * zc.size)).length=k.toNat * Rp.sz α:=by simp [zrow,hzs]
          have hg:=gd.alloc_osl ⟨zrow zc (k.toNat * zc.size)⟩ e (Rp.sz α) k.toNat k.toNat (zrow zc (k.toNat * zc.size)) (by show _ ≤ (zrow _ _).length; rw [hlen]; exact Nat.le_refl _) (Nat.le_refl _) (by rw [← hlen]; exact List.take_length) hlen (by omega)
          have hll:(List.replicate k.toNat a).length=k.toNat:=List.length_replicate
          rw [hll] at next
          refine ⟨_,_,imm,_,?_,hg,next w.heap.size _ ?_⟩
          · simp only [execOp,f.eval hx,f.eval hy,Instr.makeSlice,Sem.run_bind,xH hu,Result.andThen_ok,asInt,asIntOf,Sem.run_pure,typeInfo,run_program,hie,hwr,hnt,hnb,decide_false,Bool.false_or,Bool.false_eq_true,false_or,or_self,if_false,Int.lt_irrefl,
              gt_iff_lt,run_askRoom,qU h1]
            by_cases h0:k.toNat * Rp.sz α=0
            · have:=hrow
              rw [hsz'] at this
              simp only [h0,if_true] at this ⊢
              simp only [Sem.run_pure,Result.andThen_ok,newRow,run_newObj,Sem.run_bind,this]
            · have:=hrow
              rw [hsz'] at this
              simp only [h0,if_false] at this ⊢
              simp only [Sem.run_bind,hz1,hz2,Sem.run_pure,Result.andThen_ok,newRow,run_newObj,this]
          · have:=zrow_rep (z:=zc) (a:=a) hpos hr k.toNat
            rw [hzs] at this
            show RepL _ _ _ _
            rw [hzs]
            exact this
      · cases ht
  · cases hk
end
section
variable {P:Program}{n:Nat}{B:Base}{Q:Exit→Act→World→Prop}{imm:Imm}{hs:List HA}{m:FM}{ops:List Oper}{pc d:Nat}{ty:TypeId}{pos:String}{after:Array Edge}{g:Option (Nat×Bool)}
end
end Go.LN
namespace Go.LN
structure spec_l6Use where
  reads:List Int
  write:Int
instance:Rp spec_l6Use where
  sz:=2
  pos:=by decide
  rep i cs s:=∃ v0:Value,cs=[v0,.int .i64 s.write]∧SL i v0 s.reads
  len h:=by obtain ⟨v0,rfl,h0⟩:=h; rfl
  mono hm h:=by obtain ⟨v0,e,h0⟩:=h; exact ⟨v0,e,h0.mono hm⟩
  one h:=by obtain ⟨v0,rfl,h0⟩:=h; simp [zAQ,h0.one]
theorem spec_l6Use_open {i:Imm}{cs:List Value}{s:spec_l6Use} (h:Rp.rep i cs s):∃ v0:Value,cs=[v0,.int .i64 s.write]∧SL i v0 s.reads:=h
theorem spec_l6Use_shut {i:Imm}{cs:List Value}{s:spec_l6Use} (h:∃ v0:Value,cs=[v0,.int .i64 s.write]∧SL i v0 s.reads):Rp.rep i cs s:=h
instance:Vr spec_l6Use:=⟨fun i v a=>∃ cs,v=.agg ⟨cs⟩∧Rp.rep i cs a,fun hl ⟨cs,e,h⟩=>⟨cs,e,Rp.mono hl h⟩⟩
end Go.LN
namespace Go.LN
open Go.Proofs
set_option maxRecDepth 20000
def spec_DrawProgramValid_post (r:zV):KT:=fun kk imm' hs' v=>
  ∃ v0,hs'=[]∧v=tupV [v0]∧(∃ cs,v0=.agg ⟨cs⟩∧Rp.rep imm' cs r)
def M.spec_DrawProgramValid (code:(List UInt8)):Option (zV):=do
 let y←mH code
 let (y2,y3)←kI y
 let (y5,y6)←qD y3 y2
 pure (id y5)
theorem spec_DrawProgramValid_ok:∀ (code:(List UInt8)) r,M.spec_DrawProgramValid code=some r→∀ {imm:Imm}{p c},(S4 imm p code c)→Ret Tryz.prog 35 [vS p code c] imm [] (spec_DrawProgramValid_post  r):=by
 intro code r hM imm p c h;unfold M.spec_DrawProgramValid at hM;refine yG (fn:=Tryz.f35) (c:=(bodyOf Tryz.f35)) Tryz.func35 rfl rfl ?_;rintro B - -;refine zF<|zB<|uD zTwo ?_;intro b hb;refine yN rfl<|zE<|zF<|zB<|yK 1 [] [(4,vS p code c)] ?_;obtain ⟨y,hy,hM⟩:=zC hM;refine yR (zHG code _ hy h) ?_;rintro imm0 hs2 v2 k2 le - ⟨b1,p1,c1,rfl,rfl,h1⟩ -;refine yA [] [(3,vP b1 0)]<|zE<|zF<|zB<|yK 2 [] [(6,vP b1 0),(7,vP b1 0)] ?_;obtain ⟨⟨y2,y3⟩,hy1,hM⟩:=zC hM;refine sD [hB b1 (cRd y p1 c1)] [hB b zTwo] (zHb y _ hy1 h1) ?_;rintro imm01 hs2 v2 k2 le1 - ⟨v0,kk,rfl,rfl,⟨cs,rfl,h2⟩,h3⟩ -;obtain ⟨v01,v02,rfl,h4,h5⟩:=zG6 h2;obtain ⟨p2,c2,rfl⟩:=h4.form;obtain ⟨p3,c3,rfl⟩:=h5.form;obtain ⟨v03,rfl,h6⟩:=yI h3;obtain ⟨p4,c4,rfl⟩:=h6.form;obtain ⟨⟨y5,y6⟩,hy2,hM⟩:=zC hM;refine sD [hB b1 (cRd y3 p4 c4)] [hB b zTwo] (zGs y3 y2 _ hy2 h6 h4 h5) ?_;rintro imm02 hs2 v2 k2 le2 - ⟨v04,kk1,rfl,rfl,⟨cs1,rfl,h7⟩,h8⟩ -;obtain ⟨v05,v06,rfl,h9,h10⟩:=zG6 h7;obtain ⟨p5,c5,rfl⟩:=h9.form;obtain ⟨p6,c6,rfl⟩:=h10.form;obtain ⟨v07,rfl,h11⟩:=yI h8;obtain ⟨p7,c7,rfl⟩:=h11.form;refine xJ 1 (cProg y5 p5 c5 p6 c6) [hB b1 (cRd y6 p7 c7),hB b (cProg y5 p5 c5 p6 c6)] rfl rfl rfl rfl<|yN rfl<|zE<|yJ ?_;obtain rfl:=zD hM;exact yQ ⟨_,_,(.cell 1 rfl rfl (by kernel_rfl) ResV.nil),zX,⟨_,rfl,rfl,⟨_,rfl,(nH ⟨_,_,rfl,h9,h10⟩)⟩⟩⟩
end Go.LN
namespace Go.LN
open Go.Proofs
set_option maxRecDepth 20000
def impl_chosen_post (r:(List Int)):KT:=fun kk imm' hs' v=>
  ∃ v0,hs'=[]∧v=tupV [v0]∧SL imm' v0 r
def M.impl_chosen_l1 (list:(List Bool)) (out:List Int) (t8:Int):Option (List Int):=do
 if (decide (t8 < (list.length:Int))) then
  let x←idx list t8
  let out2←(do
    if x then
     let out3←app 8 out ([t8]:List Int)
     pure (id out3)
    else
     pure (id out)
      : Option (List Int))
  M.impl_chosen_l1 list out2 (W (t8 + 1))
 else
  pure (id out)
 partial_fixpoint
theorem impl_chosen_l1_ok (list:(List Bool)):∀ (out:List Int) (t8:Int) (o:List Int),M.impl_chosen_l1 list out t8=some o→∀ {B}{imm0 imm:Imm}{Q p c p1 c1 cs},imm0.le imm→(S4 imm p list c)→(RL imm cs out)→(∀ gl a w,¬Q (.goto gl) a w)→(∀ a w,¬Q .outgrown a w)→(∀ (imm':Imm) (out1:List Int) (p2:Option Addr) (c2:Nat) (cs1:List Value),o=out1→imm0.le imm'→(RL imm' cs1 out1)→T 20 B Q (.exit 0) imm' [hO Int (vS p2 out1 c2) cs1] [(3,vS p2 out1 c2)])→J Tryz.prog 20 B (nav (bodyOf Tryz.f39) [1,1,0,1,0]) Q imm [hO Int (vS p1 out c1) cs] [(3,vS p1 out c1),(6,vS p list c),(7,vI (list.length:Int)),(8,vI t8)]:=by
 refine M.impl_chosen_l1.partial_correctness list _ ?_;intro self ih out t8 o hM B imm0 imm Q p c p1 c1 cs hle h h2 hg ho hx;refine xC hg ho<|zF<|zB<|yA [] [(9,.bool (decide (t8 < (list.length:Int))))]<|zE<|zF<|yO hM ?_ ?_
 · intro hc hM;refine yE<|zE<|zF<|yC<|zF<|zB<|yK 1 [] [(10,vI t8)] ?_;obtain ⟨x,hy,hM⟩:=zC hM;refine wJ rfl rfl h hy ?_;intro ad ccs hat hrep;obtain rfl:=hrep;refine xS 0 hat [.bool x] (.bool x) rfl<|yA [] [(4,vI t8),(5,.bool x)]<|zE<|zF<|zB<|yA [] [(13,.bool x)]<|zE ?_;obtain ⟨o0,ho0,hMc⟩:=zC hM;refine yU (fun imm' hs' m'=>∃ (out2:List Int) (p3:Option Addr) (c3:Nat) (cs2:List Value),o0=out2∧imm.le imm'∧(RL imm' cs2 out2)∧hs'=[hO Int (vS p3 out2 c3) cs2]∧m'=[(3,vS p3 out2 c3),(6,vS p list c),(7,vI (list.length:Int)),(8,vI t8)]) ?_ ?_
   · have hle:=iS imm;refine yO ho0 ?_ ?_
     · intro hc1 hM;refine zB<|yK 2 [] [(14,vS p1 out c1),(15,vI t8)]<|xQ [vI t8] Int ?_;intro b hb;have h5:RL imm [vI t8] ([t8]:List Int):=⟨[vI t8],_,rfl,rfl,rfl,rfl⟩;obtain ⟨out3,hy1,hM⟩:=zC hM;refine qI 3 1 1 rfl rfl rfl h2 (.inr ⟨0,rfl⟩) h5 hy1 ?_;intro p4 c4 cs3 h6;exact rX (zK [1] (hs':=[hO Int (vS p4 out3 c4) cs3]) rfl (by decide))<|yA [] [(3,vS p4 out3 c4)]<|yT [(3,vS p4 out3 c4),(6,vS p list c),(7,vI (list.length:Int)),(8,vI t8)]<|yB ⟨_,_,_,_,(zD hM).symm,hle,h6,rfl,rfl⟩
     intro hc1 hM;exact yE<|yT [(3,vS p1 out c1),(6,vS p list c),(7,vI (list.length:Int)),(8,vI t8)]<|yB ⟨_,_,_,_,(zD hM).symm,hle,h2,rfl,rfl⟩
   rintro imm0 hs2 m2 ⟨out2,p3,c3,cs2,heq,le,h4,rfl,rfl⟩;subst o0;have h:=h.mono le;have hle:=hle.trans le;exact zY<|zE<|zB<|yA [] [(8,vI (W (t8 + 1)))]<|xD<|vQ [(3,vS p3 out2 c3),(6,vS p list c),(7,vI (list.length:Int)),(8,vI (W (t8 + 1)))]<|ih out2 (W (t8 + 1)) _ hMc hle h h4 hg ho hx
 intro hc hM;exact xA<|zS<|zS<|yT [(3,vS p1 out c1)]<|hx _ _ _ _ _ (zD hM).symm hle h2
def M.impl_chosen (list:(List Bool)):Option ((List Int)):=do
 let out1←M.impl_chosen_l1 list ([]:List Int) 0
 pure (id out1)
theorem impl_chosen_ok:∀ (list:(List Bool)) r,M.impl_chosen list=some r→∀ {imm:Imm}{p c},(S4 imm p list c)→Ret Tryz.prog 39 [vS p list c] imm [] (impl_chosen_post  r):=by
 intro list r hM imm p c h;unfold M.impl_chosen at hM;refine yG (fn:=Tryz.f39) (c:=(bodyOf Tryz.f39)) Tryz.func39 rfl rfl ?_;rintro B - -;refine zF<|zB<|yA [] []<|zE<|zF<|zB<|yA [] [(3,z0)]<|zE<|zF<|zF<|zB<|yA [] [(6,vS p list c),(7,vI (list.length:Int)),(8,vI 0)]<|zE<|yC<|vQ [(3,z0),(6,vS p list c),(7,vI (list.length:Int)),(8,vI 0)]<|qA (uI (Rp.sz Int)) ?_;have h1:RL imm [] ([]:List Int):=RepL.nil;obtain ⟨o01,ho01,hMl⟩:=zC hM;refine impl_chosen_l1_ok list ([]:List Int) 0 o01 ho01 iR h h1 (fun _ _ _ h=>h) (fun _ _ h=>h) ?_;intro imm01 out1 p2 c2 cs1 heq1 le1 h3;subst o01;refine yD<|zE<|zF<|zB<|yA [] [(2,vS p2 out1 c2)]<|zE<|yJ<|xI 0 rfl ?_;intro imm02 le2 hl0;have h7:=SL.of_frozen hl0 le2 h3;obtain rfl:=zD hMl;exact yQ ⟨_,_,(.tmp rfl ResV.nil),zX,⟨_,rfl,rfl,h7⟩⟩
def laws_lnInts_post (r:Bool):KT:=fun kk imm' hs' v=>
  ∃ v0,hs'=[]∧v=tupV [v0]∧v0=.bool r
def M.laws_lnInts_l1 (a0:(List Int)) (b:(List Int)) (i:Int):Option (Out Unit (Bool)):=do
 if (decide (i < (a0.length:Int))) then
  let x←idx a0 i
  let x1←idx b i
  if (x != x1) then
   pure (.ret false)
  else
   M.laws_lnInts_l1 a0 b (W (i + 1))
 else
  pure (.done ())
 partial_fixpoint
theorem laws_lnInts_l1_ok (a0:(List Int)) (b:(List Int)):∀ (i:Int) (o:Out Unit (Bool)),M.laws_lnInts_l1 a0 b i=some o→∀ {B}{imm0 imm:Imm}{Q p c p1 c1},imm0.le imm→(S4 imm p a0 c)→(S4 imm p1 b c1)→(∀ gl a w,¬Q (.goto gl) a w)→(∀ a w,¬Q .outgrown a w)→(∀ (imm':Imm) ,o=(.done ())→imm0.le imm'→T 26 B Q (.exit 0) imm' [] [])→(∀ r imm' hs' m',o=(.ret r)→imm0.le imm'→RS Tryz.prog Tryz.f12 B (laws_lnInts_post  r) imm' hs' m'→T 26 B Q .ret imm' hs' m')→J Tryz.prog 26 B (nav (bodyOf Tryz.f12) [1,1,0,1,0]) Q imm [] [(0,vS p a0 c),(1,vS p1 b c1),(5,vI i)]:=by
 refine M.laws_lnInts_l1.partial_correctness a0 b _ ?_;intro self ih i o hM B imm0 imm Q p c p1 c1 hle h h1 hg ho hx hr;refine xC hg ho<|zF<|zF<|zB<|yA [] [(14,.bool (decide (i < (a0.length:Int))))]<|zE<|yO hM ?_ ?_
 · intro hc1 hM;refine yE<|zE<|zF<|yC<|zF<|jF (by kernel_rfl) (by kernel_rfl)<|eU 2 [] [(17,vS p a0 c),(18,vI i)] ?_;obtain ⟨x,hy,hM⟩:=zC hM;refine zDb rfl rfl h hy ?_;intro ad ccs hat hrep;obtain rfl:=hrep;refine zDa 0 hat [vI x] (vI x) rfl<|eU 6 [] [(21,vS p1 b c1),(22,vI i)] ?_;obtain ⟨x1,hy1,hM⟩:=zC hM;refine zDb rfl rfl h1 hy1 ?_;intro ad1 ccs1 hat1 hrep1;obtain rfl:=hrep1;refine zDa 0 hat1 [vI x1] (vI x1) rfl<|zCt [] [(25,.bool (x != x1))]<|zE<|yO hM ?_ ?_
   · intro hc2 hM;exact zF<|zB<|yA [] [(4,.bool false)]<|zE<|yJ<|yF<|zR<|zR<|hr _ _ _ _ (zD hM).symm hle ⟨_,_,(.tmp rfl ResV.nil),zX,⟨_,rfl,rfl,rfl⟩⟩
   intro hc2 hM;exact yE<|zY<|zE<|zB<|yA [] [(5,vI (W (i + 1)))]<|xD<|vQ [(0,vS p a0 c),(1,vS p1 b c1),(5,vI (W (i + 1)))]<|ih (W (i + 1)) _ hM hle h h1 hg ho hx hr
 intro hc1 hM;exact xA<|zS<|zS<|yT []<|hx _  (zD hM).symm hle
def M.laws_lnInts (a0:(List Int)) (b:(List Int)):Option (Bool):=do
 if ((a0.length:Int) != (b.length:Int)) then
  pure false
 else
  match←M.laws_lnInts_l1 a0 b 0 with
  | .ret r0=>pure r0
  | .done _ =>
   pure true
theorem laws_lnInts_ok:∀ (a0:(List Int)) (b:(List Int)) r,M.laws_lnInts a0 b=some r→∀ {imm:Imm}{p c p1 c1},(S4 imm p a0 c)→(S4 imm p1 b c1)→Ret Tryz.prog 12 [vS p a0 c,vS p1 b c1] imm [] (laws_lnInts_post  r):=by
 intro a0 b r hM imm p c p1 c1 h h1;unfold M.laws_lnInts at hM;refine yG (fn:=Tryz.f12) (c:=(bodyOf Tryz.f12)) Tryz.func12 rfl rfl ?_;rintro B - -;refine zF<|zB<|yA [] []<|zE<|zF<|zF<|zB<|yA [] [(10,.bool ((a0.length:Int) != (b.length:Int)))]<|zE<|yO hM ?_ ?_
 · intro hc hM;refine zF<|zB<|yA [] [(4,.bool false)]<|zE<|yJ<|zR ?_;obtain rfl:=zD hM;exact yQ ⟨_,_,(.tmp rfl ResV.nil),zX,⟨_,rfl,rfl,rfl⟩⟩
 intro hc hM;refine yE<|zE<|zF<|zF<|zB<|yA [] [(5,vI 0)]<|zE<|yC<|vQ [(0,vS p a0 c),(1,vS p1 b c1),(5,vI 0)] ?_;obtain ⟨o0,ho0,hMl⟩:=zC hM;refine laws_lnInts_l1_ok a0 b 0 o0 ho0 iR h h1 (fun _ _ _ h=>h) (fun _ _ h=>h) ?_ ?_
 · intro imm0  heq le;subst o0;refine yD<|zE<|zF<|zB<|yA [] [(4,.bool true)]<|zE<|yJ ?_;obtain rfl:=zD hMl;exact yQ ⟨_,_,(.tmp rfl ResV.nil),zX,⟨_,rfl,rfl,rfl⟩⟩
 intro r0 imm9 hs9 m9 heq9 le9 hrs9;subst heq9;refine yF<|zR ?_;obtain rfl:=zD hMl;exact yQ hrs9
def spec_l5Flagged_post (r:(List Int)):KT:=fun kk imm' hs' v=>
  ∃ v0,hs'=[]∧v=tupV [v0]∧SL imm' v0 r
def M.spec_l5Flagged_l1 (list:(List Bool)) (out:List Int) (i:Int):Option (List Int):=do
 if (decide (i < (list.length:Int))) then
  let x←idx list i
  let out2←(do
    if x then
     let out3←app 8 out ([i]:List Int)
     pure (id out3)
    else
     pure (id out)
      : Option (List Int))
  M.spec_l5Flagged_l1 list out2 (W (i + 1))
 else
  pure (id out)
 partial_fixpoint
theorem spec_l5Flagged_l1_ok (list:(List Bool)):∀ (out:List Int) (i:Int) (o:List Int),M.spec_l5Flagged_l1 list out i=some o→∀ {B}{imm0 imm:Imm}{Q p c p1 c1 cs},imm0.le imm→(S4 imm p list c)→(RL imm cs out)→(∀ gl a w,¬Q (.goto gl) a w)→(∀ a w,¬Q .outgrown a w)→(∀ (imm':Imm) (out1:List Int) (p2:Option Addr) (c2:Nat) (cs1:List Value),o=out1→imm0.le imm'→(RL imm' cs1 out1)→T 21 B Q (.exit 0) imm' [hO Int (vS p2 out1 c2) cs1] [(3,vS p2 out1 c2)])→J Tryz.prog 21 B (nav (bodyOf Tryz.f44) [1,1,0,1,0]) Q imm [hO Int (vS p1 out c1) cs] [(0,vS p list c),(3,vS p1 out c1),(4,vI i)]:=by
 refine M.spec_l5Flagged_l1.partial_correctness list _ ?_;intro self ih out i o hM B imm0 imm Q p c p1 c1 cs hle h h2 hg ho hx;refine xC hg ho<|zF<|zF<|zB<|yA [] [(9,.bool (decide (i < (list.length:Int))))]<|zE<|yO hM ?_ ?_
 · intro hc hM;refine yE<|zE<|zF<|yC<|zF<|zB<|yK 2 [] [(12,vS p list c),(13,vI i)] ?_;obtain ⟨x,hy,hM⟩:=zC hM;refine wJ rfl rfl h hy ?_;intro ad ccs hat hrep;obtain rfl:=hrep;refine xS 0 hat [.bool x] (.bool x) rfl<|yN rfl<|zE ?_;obtain ⟨o0,ho0,hMc⟩:=zC hM;refine yU (fun imm' hs' m'=>∃ (out2:List Int) (p3:Option Addr) (c3:Nat) (cs2:List Value),o0=out2∧imm.le imm'∧(RL imm' cs2 out2)∧hs'=[hO Int (vS p3 out2 c3) cs2]∧m'=[(0,vS p list c),(3,vS p3 out2 c3),(4,vI i)]) ?_ ?_
   · have hle:=iS imm;refine yO ho0 ?_ ?_
     · intro hc1 hM;refine zB<|yK 2 [] [(16,vS p1 out c1),(17,vI i)]<|xQ [vI i] Int ?_;intro b1 hb1;have h5:RL imm [vI i] ([i]:List Int):=⟨[vI i],_,rfl,rfl,rfl,rfl⟩;obtain ⟨out3,hy1,hM⟩:=zC hM;refine qI 3 1 1 rfl rfl rfl h2 (.inr ⟨0,rfl⟩) h5 hy1 ?_;intro p4 c4 cs3 h6;exact rX (zK [1] (hs':=[hO Int (vS p4 out3 c4) cs3]) rfl (by decide))<|yA [] [(3,vS p4 out3 c4)]<|yT [(0,vS p list c),(3,vS p4 out3 c4),(4,vI i)]<|yB ⟨_,_,_,_,(zD hM).symm,hle,h6,rfl,rfl⟩
     intro hc1 hM;exact yE<|yT [(0,vS p list c),(3,vS p1 out c1),(4,vI i)]<|yB ⟨_,_,_,_,(zD hM).symm,hle,h2,rfl,rfl⟩
   rintro imm0 hs2 m2 ⟨out2,p3,c3,cs2,heq,le,h4,rfl,rfl⟩;subst o0;have h:=h.mono le;have hle:=hle.trans le;exact zY<|zE<|zB<|yA [] [(4,vI (W (i + 1)))]<|xD<|vQ [(0,vS p list c),(3,vS p3 out2 c3),(4,vI (W (i + 1)))]<|ih out2 (W (i + 1)) _ hMc hle h h4 hg ho hx
 intro hc hM;exact xA<|zS<|zS<|yT [(3,vS p1 out c1)]<|hx _ _ _ _ _ (zD hM).symm hle h2
def M.spec_l5Flagged (list:(List Bool)):Option ((List Int)):=do
 let out1←M.spec_l5Flagged_l1 list ([]:List Int) 0
 pure (id out1)
theorem spec_l5Flagged_ok:∀ (list:(List Bool)) r,M.spec_l5Flagged list=some r→∀ {imm:Imm}{p c},(S4 imm p list c)→Ret Tryz.prog 44 [vS p list c] imm [] (spec_l5Flagged_post  r):=by
 intro list r hM imm p c h;unfold M.spec_l5Flagged at hM;refine yG (fn:=Tryz.f44) (c:=(bodyOf Tryz.f44)) Tryz.func44 rfl rfl ?_;rintro B - -;refine zF<|zB<|yA [] []<|zE<|zF<|zB<|xQ [] Int ?_;intro b hb;have h1:RL imm [] ([]:List Int):=rfl;refine yA [] [(3,vS (some ⟨b,0,none⟩) ([]:List Int) 0)]<|zE<|zF<|zF<|zB<|yA [] [(4,vI 0)]<|zE<|yC<|vQ [(0,vS p list c),(3,vS (some ⟨b,0,none⟩) ([]:List Int) 0),(4,vI 0)] ?_;obtain ⟨o01,ho01,hMl⟩:=zC hM;refine spec_l5Flagged_l1_ok list ([]:List Int) 0 o01 ho01 iR h h1 (fun _ _ _ h=>h) (fun _ _ h=>h) ?_;intro imm01 out1 p2 c2 cs1 heq1 le1 h3;subst o01;refine yD<|zE<|zF<|zB<|yA [] [(2,vS p2 out1 c2)]<|zE<|yJ<|xI 0 rfl ?_;intro imm02 le2 hl0;have h7:=SL.of_frozen hl0 le2 h3;obtain rfl:=zD hMl;exact yQ ⟨_,_,(.tmp rfl ResV.nil),zX,⟨_,rfl,rfl,h7⟩⟩
def laws_lnHas_post (r:Bool):KT:=fun kk imm' hs' v=>
  ∃ v0,hs'=[]∧v=tupV [v0]∧v0=.bool r
def M.laws_lnHas_l1 (list:(List Int)) (n0:Int) (i:Int):Option (Out Unit (Bool)):=do
 if (decide (i < (list.length:Int))) then
  let x←idx list i
  if (x == n0) then
   pure (.ret true)
  else
   M.laws_lnHas_l1 list n0 (W (i + 1))
 else
  pure (.done ())
 partial_fixpoint
theorem laws_lnHas_l1_ok (list:(List Int)) (n0:Int):∀ (i:Int) (o:Out Unit (Bool)),M.laws_lnHas_l1 list n0 i=some o→∀ {B}{imm0 imm:Imm}{Q p c},imm0.le imm→(S4 imm p list c)→(∀ gl a w,¬Q (.goto gl) a w)→(∀ a w,¬Q .outgrown a w)→(∀ (imm':Imm) ,o=(.done ())→imm0.le imm'→T 18 B Q (.exit 0) imm' [] [])→(∀ r imm' hs' m',o=(.ret r)→imm0.le imm'→RS Tryz.prog Tryz.f15 B (laws_lnHas_post  r) imm' hs' m'→T 18 B Q .ret imm' hs' m')→J Tryz.prog 18 B (nav (bodyOf Tryz.f15) [1,0,1,0]) Q imm [] [(0,vS p list c),(1,vI n0),(5,vI i)]:=by
 refine M.laws_lnHas_l1.partial_correctness list n0 _ ?_;intro self ih i o hM B imm0 imm Q p c hle h hg ho hx hr;refine xC hg ho<|zF<|zF<|zB<|yA [] [(9,.bool (decide (i < (list.length:Int))))]<|zE<|yO hM ?_ ?_
 · intro hc hM;refine yE<|zE<|zF<|yC<|zF<|zB<|yK 2 [] [(12,vS p list c),(13,vI i)] ?_;obtain ⟨x,hy,hM⟩:=zC hM;refine wJ rfl rfl h hy ?_;intro ad ccs hat hrep;obtain rfl:=hrep;refine xS 0 hat [vI x] (vI x) rfl<|yA [] [(17,.bool (x == n0))]<|zE<|yO hM ?_ ?_
   · intro hc1 hM;exact zF<|zB<|yA [] [(4,.bool true)]<|zE<|yJ<|yF<|zR<|zR<|hr _ _ _ _ (zD hM).symm hle ⟨_,_,(.tmp rfl ResV.nil),zX,⟨_,rfl,rfl,rfl⟩⟩
   intro hc1 hM;exact yE<|zY<|zE<|zB<|yA [] [(5,vI (W (i + 1)))]<|xD<|vQ [(0,vS p list c),(1,vI n0),(5,vI (W (i + 1)))]<|ih (W (i + 1)) _ hM hle h hg ho hx hr
 intro hc hM;exact xA<|zS<|zS<|yT []<|hx _  (zD hM).symm hle
def M.laws_lnHas (list:(List Int)) (n0:Int):Option (Bool):=do
 match←M.laws_lnHas_l1 list n0 0 with
 | .ret r0=>pure r0
 | .done _ =>
  pure false
theorem laws_lnHas_ok:∀ (list:(List Int)) (n0:Int) r,M.laws_lnHas list n0=some r→∀ {imm:Imm}{p c},(S4 imm p list c)→Ret Tryz.prog 15 [vS p list c,vI n0] imm [] (laws_lnHas_post  r):=by
 intro list n0 r hM imm p c h;unfold M.laws_lnHas at hM;refine yG (fn:=Tryz.f15) (c:=(bodyOf Tryz.f15)) Tryz.func15 rfl rfl ?_;rintro B - -;refine zF<|zB<|yA [] []<|zE<|zF<|zF<|zB<|yA [] [(5,vI 0)]<|zE<|yC<|vQ [(0,vS p list c),(1,vI n0),(5,vI 0)] ?_;obtain ⟨o0,ho0,hMl⟩:=zC hM;refine laws_lnHas_l1_ok list n0 0 o0 ho0 iR h (fun _ _ _ h=>h) (fun _ _ h=>h) ?_ ?_
 · intro imm0  heq le;subst o0;refine yD<|zE<|zF<|zB<|yA [] [(4,.bool false)]<|zE<|yJ ?_;obtain rfl:=zD hMl;exact yQ ⟨_,_,(.tmp rfl ResV.nil),zX,⟨_,rfl,rfl,rfl⟩⟩
 intro r0 imm9 hs9 m9 heq9 le9 hrs9;subst heq9;refine yF<|zR ?_;obtain rfl:=zD hMl;exact yQ hrs9
def impl_traced_sources_post (r:(List Int)):KT:=fun kk imm' hs' v=>
  ∃ v0,hs'=[]∧v=tupV [v0]∧SL imm' v0 r
def M.impl_traced_sources_l2 (t:oS) (x1:Int) (from0:Int):Option (Int):=do
 let t35←(do
   if (decide (from0 ≥ 0)) then
    let x2←idx t.writes from0
    pure (x2 != x1)
   else
    pure false
     : Option Bool)
 if t35 then
  M.impl_traced_sources_l2 t x1 (W (from0 - 1))
 else
  pure (id from0)
 partial_fixpoint
theorem impl_traced_sources_l2_ok (t:oS) (x1:Int):∀ (from0:Int) (o:Int),M.impl_traced_sources_l2 t x1 from0=some o→∀ {B}{imm0 imm:Imm}{Q}{to0:Int}{x:(List Int)}{out:List Int}{t17:Int}{ad:Addr}{p c p1 c1 p2 c2 p3 c3 p4 c4 p5 c5 p6 c6 cs},imm0.le imm→(S4 imm p t.Program.Arrays c)→(S4 imm p1 t.Program.Parts c1)→(S4 imm p2 t.list c2)→(S4 imm p3 t.reads c3)→(S4 imm p4 t.writes c4)→(At imm ad [vS p t.Program.Arrays c,vS p1 t.Program.Parts c1,vS p2 t.list c2,vS p3 t.reads c3,vS p4 t.writes c4])→(RL imm cs out)→(S4 imm p5 x c5)→(∀ gl a w,¬Q (.goto gl) a w)→(∀ a w,¬Q .outgrown a w)→(∀ (imm':Imm) (from01:Int),o=from01→imm0.le imm'→T 44 B Q (.exit 2) imm' [hO Int (vS p6 out c6) cs] [(0,.pointer (some ad)),(1,vI to0),(5,vS p6 out c6),(8,vI from01),(15,vS p5 x c5),(16,vI (x.length:Int)),(17,vI t17)])→J Tryz.prog 44 B (nav (bodyOf Tryz.f53) [1,1,0,1,0,0,1,1,0,0,1,1,0,0]) Q imm [hO Int (vS p6 out c6) cs] [(0,.pointer (some ad)),(1,vI to0),(5,vS p6 out c6),(7,vI x1),(8,vI from0),(15,vS p5 x c5),(16,vI (x.length:Int)),(17,vI t17)]:=by
 refine M.impl_traced_sources_l2.partial_correctness t x1 _ ?_;intro self ih from0 o hM B imm0 imm Q to0 x out t17 ad p c p1 c1 p2 c2 p3 c3 p4 c4 p5 c5 p6 c6 cs hle h h1 h2 h3 h4 hat h7 h5 hg ho hx;refine xC hg ho<|zF<|zF ?_;obtain ⟨o0,ho0,hMc⟩:=zC hM;refine yU (fun imm' hs' m'=>∃ (t35:Bool),o0=t35∧imm.le imm'∧hs'=[hO Int (vS p6 out c6) cs]∧m'=[(0,.pointer (some ad)),(1,vI to0),(5,vS p6 out c6),(7,vI x1),(8,vI from0),(15,vS p5 x c5),(16,vI (x.length:Int)),(17,vI t17),(35,.bool t35)]) ?_ ?_
 · have hle:=iS imm;refine zB<|yK 3 [] [(25,.bool (decide (from0 ≥ 0)))] ?_;cases hc1:(decide (from0 ≥ 0)) with
   | true =>
    have hM0:=zW hc1 ho0
    try rw [hc1]
    refine yK 6 [] [(28,.pointer (some (ad.add 4)))]<|xS 4 hat [vS p4 t.writes c4] (vS p4 t.writes c4) rfl<|yK 8 [] [(30,vI from0)] ?_;obtain ⟨x2,hy2,hM⟩:=zC hM0;refine wJ rfl rfl h4 hy2 ?_;intro ad3 ccs2 hat3 hrep2;obtain rfl:=hrep2;exact xS 0 hat3 [vI x2] (vI x2) rfl<|yA [] [(35,.bool (x2 != x1))]<|yT [(0,.pointer (some ad)),(1,vI to0),(5,vS p6 out c6),(7,vI x1),(8,vI from0),(15,vS p5 x c5),(16,vI (x.length:Int)),(17,vI t17),(35,.bool (x2 != x1))]<|yB ⟨_,(zD hM).symm,hle,rfl,rfl⟩
   | false =>
    have hM01:=zU hc1 ho0
    try rw [hc1]
    exact yA [] [(35,.bool false)]<|yT [(0,.pointer (some ad)),(1,vI to0),(5,vS p6 out c6),(7,vI x1),(8,vI from0),(15,vS p5 x c5),(16,vI (x.length:Int)),(17,vI t17),(35,.bool false)]<|yB ⟨_,(zD hM01).symm,hle,rfl,rfl⟩
 rintro imm0 hs2 m2 ⟨t35,heq,le,rfl,rfl⟩;subst o0;have h:=h.mono le;have h1:=h1.mono le;have h2:=h2.mono le;have h3:=h3.mono le;have h4:=h4.mono le;have hat:=hat.mono le;have h7:=iM le h7;have h5:=h5.mono le;have hle:=hle.trans le;refine zE<|yO hMc ?_ ?_
 · intro hc2 hM;exact yE<|zE<|yC<|zB<|yA [] [(8,vI (W (from0 - 1)))]<|zY<|xD<|vQ [(0,.pointer (some ad)),(1,vI to0),(5,vS p6 out c6),(7,vI x1),(8,vI (W (from0 - 1))),(15,vS p5 x c5),(16,vI (x.length:Int)),(17,vI t17)]<|ih (W (from0 - 1)) _ hM hle h h1 h2 h3 h4 hat h7 h5 hg ho hx
 intro hc2 hM;exact xA<|zS<|zS<|yT [(0,.pointer (some ad)),(1,vI to0),(5,vS p6 out c6),(8,vI from0),(15,vS p5 x c5),(16,vI (x.length:Int)),(17,vI t17)]<|hx _ _ (zD hM).symm hle
def M.impl_traced_sources_l1 (t:oS) (to0:Int) (x:(List Int)) (out:List Int) (t17:Int):Option (List Int):=do
 if (decide (t17 < (x.length:Int))) then
  let x1←idx x t17
  let from01←M.impl_traced_sources_l2 t x1 (W (to0 - 1))
  let out2←app 8 out ([from01]:List Int)
  M.impl_traced_sources_l1 t to0 x out2 (W (t17 + 1))
 else
  pure (id out)
 partial_fixpoint
theorem impl_traced_sources_l1_ok (t:oS) (to0:Int) (x:(List Int)):∀ (out:List Int) (t17:Int) (o:List Int),M.impl_traced_sources_l1 t to0 x out t17=some o→∀ {B}{imm0 imm:Imm}{Q}  {ad:Addr}{p c p1 c1 p2 c2 p3 c3 p4 c4 p5 c5 p6 c6 cs},imm0.le imm→(S4 imm p t.Program.Arrays c)→(S4 imm p1 t.Program.Parts c1)→(S4 imm p2 t.list c2)→(S4 imm p3 t.reads c3)→(S4 imm p4 t.writes c4)→(At imm ad [vS p t.Program.Arrays c,vS p1 t.Program.Parts c1,vS p2 t.list c2,vS p3 t.reads c3,vS p4 t.writes c4])→(S4 imm p5 x c5)→(RL imm cs out)→(∀ gl a w,¬Q (.goto gl) a w)→(∀ a w,¬Q .outgrown a w)→(∀ (imm':Imm) (out1:List Int) (p7:Option Addr) (c7:Nat) (cs1:List Value),o=out1→imm0.le imm'→(RL imm' cs1 out1)→T 44 B Q (.exit 0) imm' [hO Int (vS p7 out1 c7) cs1] [(5,vS p7 out1 c7)])→J Tryz.prog 44 B (nav (bodyOf Tryz.f53) [1,1,0,1,0]) Q imm [hO Int (vS p6 out c6) cs] [(0,.pointer (some ad)),(1,vI to0),(5,vS p6 out c6),(15,vS p5 x c5),(16,vI (x.length:Int)),(17,vI t17)]:=by
 refine M.impl_traced_sources_l1.partial_correctness t to0 x _ ?_;intro self ih out t17 o hM B imm0 imm Q ad p c p1 c1 p2 c2 p3 c3 p4 c4 p5 c5 p6 c6 cs hle h h1 h2 h3 h4 hat h5 h7 hg ho hx;refine xC hg ho<|zF<|zB<|yA [] [(18,.bool (decide (t17 < (x.length:Int))))]<|zE<|zF<|yO hM ?_ ?_
 · intro hc hM;refine yE<|zE<|zF<|yC<|zF<|zB ?_;obtain ⟨x1,hy1,hM⟩:=zC hM;refine wJ rfl rfl h5 hy1 ?_;intro ad2 ccs1 hat2 hrep1;obtain rfl:=hrep1;refine xS 0 hat2 [vI x1] (vI x1) rfl<|yA [] [(7,vI x1)]<|zE<|zF<|zB<|yA [] [(8,vI (W (to0 - 1)))]<|zE<|zF<|yC<|vQ [(0,.pointer (some ad)),(1,vI to0),(5,vS p6 out c6),(7,vI x1),(8,vI (W (to0 - 1))),(15,vS p5 x c5),(16,vI (x.length:Int)),(17,vI t17)] ?_;obtain ⟨o01,ho01,hMl⟩:=zC hM;refine impl_traced_sources_l2_ok t x1 (W (to0 - 1)) o01 ho01 iR h h1 h2 h3 h4 hat h7 h5 (fun _ _ _ h=>hg _ _ _ h) (fun _ _ h=>ho _ _ h) ?_;intro imm01 from01 heq1 le1;subst o01;have h:=h.mono le1;have h1:=h1.mono le1;have h2:=h2.mono le1;have h3:=h3.mono le1;have h4:=h4.mono le1;have hat:=hat.mono le1;have h7:=iM le1 h7;have h5:=h5.mono le1;have hle:=hle.trans le1;refine yD<|zE<|zB<|yK 2 [] [(38,vS p6 out c6),(39,vI from01)]<|xQ [vI from01] Int ?_;intro b hb;have h9:RL imm01 [vI from01] ([from01]:List Int):=⟨[vI from01],_,rfl,rfl,rfl,rfl⟩;obtain ⟨out2,hy3,hM⟩:=zC hMl;refine qI 3 1 1 rfl rfl rfl h7 (.inr ⟨0,rfl⟩) h9 hy3 ?_;intro p8 c8 cs2 h10;exact rX (zK [1] (hs':=[hO Int (vS p8 out2 c8) cs2]) rfl (by decide))<|yA [] [(5,vS p8 out2 c8)]<|zY<|zE<|zB<|yA [] [(17,vI (W (t17 + 1)))]<|xD<|vQ [(0,.pointer (some ad)),(1,vI to0),(5,vS p8 out2 c8),(15,vS p5 x c5),(16,vI (x.length:Int)),(17,vI (W (t17 + 1)))]<|ih out2 (W (t17 + 1)) _ hM hle h h1 h2 h3 h4 hat h5 h10 hg ho hx
 intro hc hM;exact xA<|zS<|zS<|yT [(5,vS p6 out c6)]<|hx _ _ _ _ _ (zD hM).symm hle h7
def M.impl_traced_sources (t:oS) (to0:Int):Option ((List Int)):=do
 let x←idx t.reads to0
 let out1←M.impl_traced_sources_l1 t to0 x ([]:List Int) 0
 pure (id out1)
theorem impl_traced_sources_ok:∀ (t:oS) (to0:Int) r,M.impl_traced_sources t to0=some r→∀ {imm:Imm}{ad:Addr}{p c p1 c1 p2 c2 p3 c3 p4 c4},(S4 imm p t.Program.Arrays c)→(S4 imm p1 t.Program.Parts c1)→(S4 imm p2 t.list c2)→(S4 imm p3 t.reads c3)→(S4 imm p4 t.writes c4)→(At imm ad [vS p t.Program.Arrays c,vS p1 t.Program.Parts c1,vS p2 t.list c2,vS p3 t.reads c3,vS p4 t.writes c4])→Ret Tryz.prog 53 [.pointer (some ad),vI to0] imm [] (impl_traced_sources_post  r):=by
 intro t to0 r hM imm ad p c p1 c1 p2 c2 p3 c3 p4 c4 h h1 h2 h3 h4 hat;unfold M.impl_traced_sources at hM;refine yG (fn:=Tryz.f53) (c:=(bodyOf Tryz.f53)) Tryz.func53 rfl rfl ?_;rintro B - -;refine zF<|zB<|yA [] []<|zE<|zF<|zB<|yA [] [(5,z0)]<|zE<|zF<|zF<|zB<|yK 3 [] [(11,.pointer (some (ad.add 3)))]<|xS 3 hat [vS p3 t.reads c3] (vS p3 t.reads c3) rfl<|yK 5 [] [(13,vI to0)] ?_;obtain ⟨x,hy,hM⟩:=zC hM;refine wJ rfl rfl h3 hy ?_;intro ad1 ccs hat1 hrep;obtain ⟨v0,rfl,h5⟩:=hrep;obtain ⟨p5,c5,rfl⟩:=h5.form;refine xS 0 hat1 [vS p5 x c5] (vS p5 x c5) rfl<|yA [] [(16,vI (x.length:Int)),(17,vI 0)]<|zE<|yC<|vQ [(0,.pointer (some ad)),(1,vI to0),(5,z0),(15,vS p5 x c5),(16,vI (x.length:Int)),(17,vI 0)]<|qA (uI (Rp.sz Int)) ?_;have h6:RL imm [] ([]:List Int):=RepL.nil;obtain ⟨o02,ho02,hMl1⟩:=zC hM;refine impl_traced_sources_l1_ok t to0 x ([]:List Int) 0 o02 ho02 iR h h1 h2 h3 h4 hat h5 h6 (fun _ _ _ h=>h) (fun _ _ h=>h) ?_;intro imm02 out1 p7 c7 cs1 heq2 le2 h8;subst o02;refine yD<|zE<|zF<|zB<|yA [] [(4,vS p7 out1 c7)]<|zE<|yJ<|xI 0 rfl ?_;intro imm03 le3 hl0;have h11:=SL.of_frozen hl0 le3 h8;obtain rfl:=zD hMl1;exact yQ ⟨_,_,(.tmp rfl ResV.nil),zX,⟨_,rfl,rfl,h11⟩⟩
def impl_FlowSources_post (r:(List Int)×Bool):KT:=fun kk imm' hs' v=>
  ∃ v0 v1,hs'=[]∧v=tupV [v0,v1]∧SL imm' v0 r.1∧v1=.bool r.2
def M.impl_FlowSources (p:zV) (to0:Int):Option ((List Int)×Bool):=do
 let (y1,y2)←jC p
 let t25←(do
   if (!y2) then
    pure true
   else
    let t←y1
    let y3←xV to0 0 (W ((t.list.length:Int) - 1))
    pure (!y3)
     : Option Bool)
 if t25 then
  pure (([]:List Int),false)
 else
  let t1←y1
  let y4←M.impl_traced_sources t1 to0
  pure (y4,true)
theorem impl_FlowSources_ok:∀ (p:zV) (to0:Int) r,M.impl_FlowSources p to0=some r→∀ {imm:Imm}{p1 c p2 c1},(S4 imm p1 p.Arrays c)→(S4 imm p2 p.Parts c1)→Ret Tryz.prog 17 [vA (cProg p p1 c p2 c1),vI to0] imm [] (impl_FlowSources_post  r):=by
 intro p to0 r hM imm p1 c p2 c1 h h1;unfold M.impl_FlowSources at hM;refine yG (fn:=Tryz.f17) (c:=(bodyOf Tryz.f17)) Tryz.func17 rfl rfl ?_;rintro B - -;have hle:=iS imm;refine zF<|zB<|tR (cProg p p1 c p2 c1) ?_;intro b hb;refine yA [] []<|zE<|zF<|zB<|yK 1 [0] [(9,vA (cProg p p1 c p2 c1))] ?_;obtain ⟨⟨y1,y2⟩,hy,hM⟩:=zC hM;refine yR (zHu p _ hy h h1) ?_;rintro imm0 hs2 v2 k2 le - ⟨v0,v01,rfl,rfl,h2,rfl⟩ -;have hle:=hle.trans le;refine yA [] [(6,v0),(7,.bool y2)]<|zE<|zF<|zF ?_;obtain ⟨o0,ho0,hMc⟩:=zC hM;refine yU (fun imm' hs' m'=>∃ (t25:Bool),o0=t25∧imm0.le imm'∧hs'=[]∧m'=[(1,vI to0),(6,v0),(25,.bool t25)]) ?_ ?_
 · have hle:=iS imm0;refine zB<|yK 3 [] [(15,.bool (!y2))] ?_;cases hc:(!y2) with
   | true =>
    have hM0:=zW hc ho0
    try rw [hc]
    exact yA [] [(25,.bool true)]<|wD (zK [] rfl (by decide))<|yT [(1,vI to0),(6,v0),(25,.bool true)]<|yB ⟨_,(zD hM0).symm,hle,rfl,rfl⟩
   | false =>
    have hM01:=zU hc ho0
    try rw [hc]
    refine yK 5 [] [(16,vI to0),(17,v0)] ?_;obtain ⟨t,hy1,hM⟩:=zC hM01;obtain ⟨ad,ccs,rfl,hat,hrep⟩:=zJZ h2 hy1;obtain ⟨v02,v03,v04,v05,v06,rfl,h4,h5,h6,h7,h8⟩:=zGq hrep;obtain ⟨p3,c2,rfl⟩:=h4.form;obtain ⟨p4,c3,rfl⟩:=h5.form;obtain ⟨p5,c4,rfl⟩:=h6.form;obtain ⟨p6,c5,rfl⟩:=h7.form;obtain ⟨p7,c6,rfl⟩:=h8.form;refine yK 7 [] [(19,.pointer (some (ad.add 2)))]<|xS 2 hat [vS p5 t.list c4] (vS p5 t.list c4) rfl<|yK 10 [] [(22,vI (W ((t.list.length:Int) - 1)))] ?_;obtain ⟨y3,hy2,hM⟩:=zC hM;refine yR (wN to0 0 (W ((t.list.length:Int) - 1)) _ hy2 ) ?_;rintro imm02 hs2 v2 k2 le1 - ⟨v07,rfl,rfl,rfl⟩ -;have hle:=hle.trans le1;exact yA [] [(25,.bool (!y3))]<|wD (zK [] rfl (by decide))<|yT [(1,vI to0),(6,.pointer (some ad)),(25,.bool (!y3))]<|yB ⟨_,(zD hM).symm,hle,rfl,rfl⟩
 rintro imm01 hs2 m2 ⟨t25,heq,le2,rfl,rfl⟩;subst o0;have h2:=h2.mono le2;refine zE<|yO hMc ?_ ?_
 · intro hc1 hM;refine zF<|zB<|yA [] [(4,z0),(5,.bool false)]<|zE<|yJ<|zR ?_;obtain rfl:=zD hM;exact yQ ⟨_,_,(.tmp rfl (.tmp rfl ResV.nil)),zX,⟨_,_,rfl,rfl,(SL.nil _),rfl⟩⟩
 intro hc1 hM;refine yE<|zE<|zF<|zB<|yK 2 [] [(26,v0),(27,vI to0)] ?_;obtain ⟨t1,hy3,hM⟩:=zC hM;obtain ⟨ad1,ccs1,rfl,hat1,hrep1⟩:=zJZ h2 hy3;obtain ⟨v08,v09,v010,v011,v012,rfl,h10,h11,h12,h13,h14⟩:=zGq hrep1;obtain ⟨p8,c7,rfl⟩:=h10.form;obtain ⟨p9,c8,rfl⟩:=h11.form;obtain ⟨p10,c9,rfl⟩:=h12.form;obtain ⟨p11,c10,rfl⟩:=h13.form;obtain ⟨p12,c11,rfl⟩:=h14.form;obtain ⟨y4,hy4,hM⟩:=zC hM;refine yR (impl_traced_sources_ok t1 to0 _ hy4 h10 h11 h12 h13 h14 hat1) ?_;rintro imm03 hs2 v2 k2 le3 - ⟨v013,rfl,rfl,h15⟩ -;obtain ⟨p13,c12,rfl⟩:=h15.form;refine yA [] [(4,vS p13 y4 c12),(5,.bool true)]<|zE<|yJ ?_;obtain rfl:=zD hM;exact yQ ⟨_,_,(.tmp rfl (.tmp rfl ResV.nil)),zX,⟨_,_,rfl,rfl,h15,rfl⟩⟩
def spec_l6Uses_post (r:(List spec_l6Use)):KT:=fun kk imm' hs' v=>
  ∃ v0,hs'=[]∧v=tupV [v0]∧SL imm' v0 r
def M.spec_l6Uses_l1 (p:zV) (y:(List zT)) (out:List spec_l6Use) (i:Int):Option (List spec_l6Use):=do
 if (decide (i < (y.length:Int))) then
  let x←idx y i
  let x1←idx p.Parts x.Part
  let x2←idx y i
  let x3←idx x1.Body x2.Stmt
  let x4←idx y i
  let (y2,y3,y4)←qZ p.Arrays x3 x4.Point
  let out2←app 32 out ([(spec_l6Use.mk y2 y3)]:List spec_l6Use)
  M.spec_l6Uses_l1 p y out2 (W (i + 1))
 else
  pure (id out)
 partial_fixpoint
theorem spec_l6Uses_l1_ok (p:zV) (y:(List zT)):∀ (out:List spec_l6Use) (i:Int) (o:List spec_l6Use),M.spec_l6Uses_l1 p y out i=some o→∀ {B}{imm0 imm:Imm}{Q p1 c p2 c1}{b:Nat}{p3 c2 p4 c3 cs},imm0.le imm→(S4 imm p3 y c2)→(S4 imm p1 p.Arrays c)→(S4 imm p2 p.Parts c1)→(RL imm cs out)→(∀ gl a w,¬Q (.goto gl) a w)→(∀ a w,¬Q .outgrown a w)→(∀ (imm':Imm) (out1:List spec_l6Use) (p5:Option Addr) (c4:Nat) (cs1:List Value),o=out1→imm0.le imm'→(RL imm' cs1 out1)→T 54 B Q (.exit 0) imm' [hO spec_l6Use (vS p5 out1 c4) cs1] [(3,vS p5 out1 c4)])→J Tryz.prog 54 B (nav (bodyOf Tryz.f54) [1,1,1,0,1,0]) Q imm [hO spec_l6Use (vS p4 out c3) cs,hB b (cProg p p1 c p2 c1)] [(1,vP b 0),(3,vS p4 out c3),(4,vS p3 y c2),(5,vI i)]:=by
 refine M.spec_l6Uses_l1.partial_correctness p y _ ?_;intro self ih out i o hM B imm0 imm Q p1 c p2 c1 b p3 c2 p4 c3 cs hle h3 h h1 h4 hg ho hx;refine xC hg ho<|zF<|zF<|zB<|yA [] [(15,.bool (decide (i < (y.length:Int))))]<|zE<|yO hM ?_ ?_
 · intro hc hM;refine yE<|zE<|zF<|yC<|zF ?_;obtain ⟨x,hy1,hM⟩:=zC hM;obtain ⟨x1,hy2,hM⟩:=zC hM;obtain ⟨x2,hy3,hM⟩:=zC hM;obtain ⟨x3,hy4,hM⟩:=zC hM;obtain ⟨x4,hy5,hM⟩:=zC hM;obtain ⟨⟨y2,y3,y4⟩,hy6,hM⟩:=zC hM;refine uA [.p (vP b 0) [],.p (vS p1 p.Arrays c) [1],.p (vP b 1) [],.p (vS p2 p.Parts c1) [1],.p (vS p3 y c2) [],.p (vI i) [],.x (fun imm' v hx=>∃ ad p6 c5,v=.pointer (some ad)∧hx=[]∧(At imm' ad (cInst x p6 c5))∧(S4 imm' p6 x.Point c5)),.x (fun imm' v hx=>∃ ad1 p61 c51,v=.pointer (some ad1)∧hx=[]∧(At imm' ad1 (cInst x p61 c51))∧(S4 imm' p61 x.Point c51)),.q (vI x.Part),.x (fun imm' v hx=>∃ ad2 p7 c6 p8 c7,v=.pointer (some ad2)∧hx=[]∧(At imm' ad2 (cPart x1 p7 c6 p8 c7))∧(S4 imm' p7 x1.Nest c6)∧(S4 imm' p8 x1.Body c7)),.x (fun imm' v hx=>∃ ad21 p71 c61 p81 c71,v=.pointer (some (ad21.add 1))∧hx=[]∧(At imm' ad21 (cPart x1 p71 c61 p81 c71))∧(S4 imm' p71 x1.Nest c61)∧(S4 imm' p81 x1.Body c71)),.x (fun imm' v hx=>∃ p811 c711,v=vS p811 x1.Body c711∧hx=[]∧(S4 imm' p811 x1.Body c711)),.p (vS p3 y c2) [],.p (vI i) [],.x (fun imm' v hx=>∃ ad3 p9 c8,v=.pointer (some ad3)∧hx=[]∧(At imm' ad3 (cInst x2 p9 c8))∧(S4 imm' p9 x2.Point c8)),.x (fun imm' v hx=>∃ ad31 p91 c81,v=.pointer (some (ad31.add 1))∧hx=[]∧(At imm' ad31 (cInst x2 p91 c81))∧(S4 imm' p91 x2.Point c81)),.q (vI x2.Stmt),.x (fun imm' v hx=>∃ ad4 p10 c9 p11 c10 p12 c11 p13 c12,v=.pointer (some ad4)∧hx=[]∧(At imm' ad4 (cStmt x3 p10 c9 p11 c10 p12 c11 p13 c12))∧(S4 imm' p10 x3.Write.Subs c9)∧(S4 imm' p11 x3.Value.Index.Coefs c10)∧(S4 imm' p12 x3.Value.Read.Subs c11)∧(S4 imm' p13 x3.Value.Kids c12)),.x (fun imm' v hx=>∃ p101 c91 p111 c101 p121 c111 p131 c121,v=vA (cStmt x3 p101 c91 p111 c101 p121 c111 p131 c121)∧hx=[]∧(S4 imm' p101 x3.Write.Subs c91)∧(S4 imm' p111 x3.Value.Index.Coefs c101)∧(S4 imm' p121 x3.Value.Read.Subs c111)∧(S4 imm' p131 x3.Value.Kids c121)),.p (vS p3 y c2) [],.p (vI i) [],.x (fun imm' v hx=>∃ ad5 p14 c13,v=.pointer (some ad5)∧hx=[]∧(At imm' ad5 (cInst x4 p14 c13))∧(S4 imm' p14 x4.Point c13)),.x (fun imm' v hx=>∃ ad51 p141 c131,v=.pointer (some (ad51.add 2))∧hx=[]∧(At imm' ad51 (cInst x4 p141 c131))∧(S4 imm' p141 x4.Point c131)),.x (fun imm' v hx=>∃ p1411 c1311,v=vS p1411 x4.Point c1311∧hx=[]∧(S4 imm' p1411 x4.Point c1311)),.x (fun imm' v hx=>∃ p15 c14,v=.tuple ⟨[vS p15 y2 c14,vI y3,.bool y4]⟩∧hx=[]∧(S4 imm' p15 y2 c14)),.x (fun imm' v hx=>∃ p151 c141,v=.tuple ⟨[vS p151 y2 c141,vI y3,.bool y4]⟩∧hx=[]∧(S4 imm' p151 y2 c141)),.x (fun imm' v hx=>∃ p1511 c1411,v=vS p1511 y2 c1411∧hx=[]∧(S4 imm' p1511 y2 c1411)),.q (vI y3),.q (.bool y4),.x (fun imm' v hx=>∃ p15111 c14111,v=vS p15111 y2 c14111∧hx=[]∧(S4 imm' p15111 y2 c14111)),.p (vI y3) []] [[],[(0,false)],[],[(2,false)],[],[],[(4,false),(5,false)],[(6,false)],[(7,false)],[(3,false),(8,false)],[(9,false)],[(10,false)],[],[],[(12,false),(13,false)],[(14,false)],[(15,false)],[(11,false),(16,false)],[(17,false)],[],[],[(19,false),(20,false)],[(21,false)],[(22,false)],[(1,false),(18,false),(23,false)],[(24,false)],[(25,false)],[(25,false)],[(25,false)],[(26,false)],[(27,false)]] [hO spec_l6Use (vS p4 out c3) cs,hB b (cProg p p1 c p2 c1)] [] [(28,false),(29,false),(30,false)] (zK [0,1] rfl (by decide)) ?_ ?_
   · refine Op<|Op<|Op<|Op<|Op<|Op<|Ox ?_<|Ox ?_<|Oq ?_<|Ox ?_<|Ox ?_<|Ox ?_<|Op<|Op<|Ox ?_<|Ox ?_<|Oq ?_<|Ox ?_<|Ox ?_<|Op<|Op<|Ox ?_<|Ox ?_<|Ox ?_<|Ox ?_<|Ox ?_<|Ox ?_<|Oq ?_<|Oq ?_<|Ox ?_<|Op<|On
     · intro imm1 hf le1;refine zG ?_;rintro _ _ ⟨rfl,rfl⟩;refine zG ?_;rintro _ _ ⟨rfl,rfl⟩;refine zN<|yH [(23,vS p3 y c2),(24,vI i)] ?_;have hle:=iS imm1;have h3:=h3.mono le1;refine wJ rfl rfl h3 hy1 ?_;intro ad ccs hat hrep;obtain ⟨v01,rfl,h6⟩:=zAm hrep;obtain ⟨p6,c5,rfl⟩:=h6.form;exact zZ (hx:=[]) rfl hle rfl (zM rfl) ⟨_,_,_,rfl,rfl,hat,h6⟩
     · intro imm1 hf le1;refine zG ?_;rintro _ _ ⟨ad,p6,c5,rfl,rfl,hat,h6⟩;refine zN<|yH [(25,.pointer (some ad))] ?_;have hle:=iS imm1;exact qV 8 [(26,.pointer (some ad))]<|zZ (hx:=[]) rfl hle rfl (zM rfl) ⟨_,_,_,rfl,rfl,hat,h6⟩
     · intro imm1 hf le1;refine zG ?_;rintro _ _ ⟨ad1,p61,c51,rfl,rfl,hat1,h61⟩;refine zN<|yH [(26,.pointer (some ad1))] ?_;have hle:=iS imm1;exact xS 0 hat1 [vI x.Part] (vI x.Part) rfl<|zZ (hx:=[]) rfl hle rfl (zM rfl) ⟨rfl,rfl⟩
     · intro imm1 hf le1;refine zG ?_;rintro _ _ ⟨rfl,rfl⟩;refine zG ?_;rintro _ _ ⟨rfl,rfl⟩;refine zN<|yH [(22,vS p2 p.Parts c1),(27,vI x.Part)] ?_;have hle:=iS imm1;have h1:=h1.mono le1;refine wJ rfl rfl h1 hy2 ?_;intro ad2 ccs1 hat2 hrep1;obtain ⟨v02,v03,rfl,h7,h8⟩:=wS hrep1;obtain ⟨p7,c6,rfl⟩:=h7.form;obtain ⟨p8,c7,rfl⟩:=h8.form;exact zZ (hx:=[]) rfl hle rfl (zM rfl) ⟨_,_,_,_,_,rfl,rfl,hat2,h7,h8⟩
     · intro imm1 hf le1;refine zG ?_;rintro _ _ ⟨ad2,p7,c6,p8,c7,rfl,rfl,hat2,h7,h8⟩;refine zN<|yH [(28,.pointer (some ad2))] ?_;have hle:=iS imm1;exact qV 11 [(29,.pointer (some (ad2.add 1)))]<|zZ (hx:=[]) rfl hle rfl (zM rfl) ⟨_,_,_,_,_,rfl,rfl,hat2,h7,h8⟩
     · intro imm1 hf le1;refine zG ?_;rintro _ _ ⟨ad21,p71,c61,p81,c71,rfl,rfl,hat21,h71,h81⟩;refine zN<|yH [(29,.pointer (some (ad21.add 1)))] ?_;have hle:=iS imm1;exact xS 1 hat21 [vS p81 x1.Body c71] (vS p81 x1.Body c71) rfl<|zZ (hx:=[]) rfl hle rfl (zM rfl) ⟨_,_,rfl,rfl,h81⟩
     · intro imm1 hf le1;refine zG ?_;rintro _ _ ⟨rfl,rfl⟩;refine zG ?_;rintro _ _ ⟨rfl,rfl⟩;refine zN<|yH [(31,vS p3 y c2),(32,vI i)] ?_;have hle:=iS imm1;have h3:=h3.mono le1;refine wJ rfl rfl h3 hy3 ?_;intro ad3 ccs2 hat3 hrep2;obtain ⟨v04,rfl,h9⟩:=zAm hrep2;obtain ⟨p9,c8,rfl⟩:=h9.form;exact zZ (hx:=[]) rfl hle rfl (zM rfl) ⟨_,_,_,rfl,rfl,hat3,h9⟩
     · intro imm1 hf le1;refine zG ?_;rintro _ _ ⟨ad3,p9,c8,rfl,rfl,hat3,h9⟩;refine zN<|yH [(33,.pointer (some ad3))] ?_;have hle:=iS imm1;exact qV 16 [(34,.pointer (some (ad3.add 1)))]<|zZ (hx:=[]) rfl hle rfl (zM rfl) ⟨_,_,_,rfl,rfl,hat3,h9⟩
     · intro imm1 hf le1;refine zG ?_;rintro _ _ ⟨ad31,p91,c81,rfl,rfl,hat31,h91⟩;refine zN<|yH [(34,.pointer (some (ad31.add 1)))] ?_;have hle:=iS imm1;exact xS 1 hat31 [vI x2.Stmt] (vI x2.Stmt) rfl<|zZ (hx:=[]) rfl hle rfl (zM rfl) ⟨rfl,rfl⟩
     · intro imm1 hf le1;refine zG ?_;rintro _ _ ⟨p811,c711,rfl,rfl,h811⟩;refine zG ?_;rintro _ _ ⟨rfl,rfl⟩;refine zN<|yH [(30,vS p811 x1.Body c711),(35,vI x2.Stmt)] ?_;have hle:=iS imm1;refine wJ rfl rfl h811 hy4 ?_;intro ad4 ccs3 hat4 hrep3;obtain ⟨v05,v06,v07,v08,rfl,h10,h11,h12,h13⟩:=wA hrep3;obtain ⟨p10,c9,rfl⟩:=h10.form;obtain ⟨p11,c10,rfl⟩:=h11.form;obtain ⟨p12,c11,rfl⟩:=h12.form;obtain ⟨p13,c12,rfl⟩:=h13.form;exact zZ (hx:=[]) rfl hle rfl (zM rfl) ⟨_,_,_,_,_,_,_,_,_,rfl,rfl,hat4,h10,h11,h12,h13⟩
     · intro imm1 hf le1;refine zG ?_;rintro _ _ ⟨ad4,p10,c9,p11,c10,p12,c11,p13,c12,rfl,rfl,hat4,h10,h11,h12,h13⟩;refine zN<|yH [(36,.pointer (some ad4))] ?_;have hle:=iS imm1;exact xS 0 hat4 (cStmt x3 p10 c9 p11 c10 p12 c11 p13 c12) (vA (cStmt x3 p10 c9 p11 c10 p12 c11 p13 c12)) rfl<|zZ (hx:=[]) rfl hle rfl (zM rfl) ⟨_,_,_,_,_,_,_,_,rfl,rfl,h10,h11,h12,h13⟩
     · intro imm1 hf le1;refine zG ?_;rintro _ _ ⟨rfl,rfl⟩;refine zG ?_;rintro _ _ ⟨rfl,rfl⟩;refine zN<|yH [(38,vS p3 y c2),(39,vI i)] ?_;have hle:=iS imm1;have h3:=h3.mono le1;refine wJ rfl rfl h3 hy5 ?_;intro ad5 ccs4 hat5 hrep4;obtain ⟨v09,rfl,h14⟩:=zAm hrep4;obtain ⟨p14,c13,rfl⟩:=h14.form;exact zZ (hx:=[]) rfl hle rfl (zM rfl) ⟨_,_,_,rfl,rfl,hat5,h14⟩
     · intro imm1 hf le1;refine zG ?_;rintro _ _ ⟨ad5,p14,c13,rfl,rfl,hat5,h14⟩;refine zN<|yH [(40,.pointer (some ad5))] ?_;have hle:=iS imm1;exact qV 23 [(41,.pointer (some (ad5.add 2)))]<|zZ (hx:=[]) rfl hle rfl (zM rfl) ⟨_,_,_,rfl,rfl,hat5,h14⟩
     · intro imm1 hf le1;refine zG ?_;rintro _ _ ⟨ad51,p141,c131,rfl,rfl,hat51,h141⟩;refine zN<|yH [(41,.pointer (some (ad51.add 2)))] ?_;have hle:=iS imm1;exact xS 2 hat51 [vS p141 x4.Point c131] (vS p141 x4.Point c131) rfl<|zZ (hx:=[]) rfl hle rfl (zM rfl) ⟨_,_,rfl,rfl,h141⟩
     · intro imm1 hf le1;refine zG ?_;rintro _ _ ⟨rfl,rfl⟩;refine zG ?_;rintro _ _ ⟨p101,c91,p111,c101,p121,c111,p131,c121,rfl,rfl,h101,h111,h121,h131⟩;refine zG ?_;rintro _ _ ⟨p1411,c1311,rfl,rfl,h1411⟩;refine zN<|yH [(20,vS p1 p.Arrays c),(37,vA (cStmt x3 p101 c91 p111 c101 p121 c111 p131 c121)),(42,vS p1411 x4.Point c1311)] ?_;have hle:=iS imm1;have h:=h.mono le1;refine yR (zCz p.Arrays x3 x4.Point _ hy6 h h101 h111 h121 h131 h1411) ?_;rintro imm01 hs2 v2 k2 le1 - ⟨v010,v011,v012,rfl,rfl,h15,rfl,rfl⟩ -;have hle:=hle.trans le1;obtain ⟨p15,c14,rfl⟩:=h15.form;exact zZ (hx:=[]) rfl hle rfl (zM rfl) ⟨_,_,rfl,rfl,h15⟩
     · intro imm1 hf le1;refine zG ?_;rintro _ _ ⟨p15,c14,rfl,rfl,h15⟩;refine zN<|yH [(43,.tuple ⟨[vS p15 y2 c14,vI y3,.bool y4]⟩)] ?_;have hle:=iS imm1;exact qV 26 [(18,.tuple ⟨[vS p15 y2 c14,vI y3,.bool y4]⟩)]<|zZ (hx:=[]) rfl hle rfl (zM rfl) ⟨_,_,rfl,rfl,h15⟩
     · intro imm1 hf le1;refine zG ?_;rintro _ _ ⟨p151,c141,rfl,rfl,h151⟩;refine zN<|yH [(18,.tuple ⟨[vS p151 y2 c141,vI y3,.bool y4]⟩)] ?_;have hle:=iS imm1;exact qV 27 [(44,vS p151 y2 c141)]<|zZ (hx:=[]) rfl hle rfl (zM rfl) ⟨_,_,rfl,rfl,h151⟩
     · intro imm1 hf le1;refine zG ?_;rintro _ _ ⟨p151,c141,rfl,rfl,h151⟩;refine zN<|yH [(18,.tuple ⟨[vS p151 y2 c141,vI y3,.bool y4]⟩)] ?_;have hle:=iS imm1;exact qV 28 [(45,vI y3)]<|zZ (hx:=[]) rfl hle rfl (zM rfl) ⟨rfl,rfl⟩
     · intro imm1 hf le1;refine zG ?_;rintro _ _ ⟨p151,c141,rfl,rfl,h151⟩;refine zN<|yH [(18,.tuple ⟨[vS p151 y2 c141,vI y3,.bool y4]⟩)] ?_;have hle:=iS imm1;exact qV 29 [(46,.bool y4)]<|zZ (hx:=[]) rfl hle rfl (zM rfl) ⟨rfl,rfl⟩
     intro imm1 hf le1;refine zG ?_;rintro _ _ ⟨p1511,c1411,rfl,rfl,h1511⟩;refine zN<|yH [(44,vS p1511 y2 c1411)] ?_;have hle:=iS imm1;exact qV 30 [(6,vS p1511 y2 c1411)]<|zZ (hx:=[]) rfl hle rfl (zM rfl) ⟨_,_,rfl,rfl,h1511⟩
   intro imm02 le2;refine zG ?_;rintro _ _ ⟨rfl,rfl⟩;refine zG ?_;rintro _ _ ⟨p15111,c14111,rfl,rfl,h15111⟩;refine zG ?_;rintro _ _ ⟨rfl,rfl⟩;refine zN<|yH [(1,vP b 0),(3,vS p4 out c3),(4,vS p3 y c2),(5,vI i),(6,vS p15111 y2 c14111),(7,vI y3),(46,.bool y4)] ?_;have h4:=iM le2 h4;have h3:=h3.mono le2;have h:=h.mono le2;have h1:=h1.mono le2;have hle:=hle.trans le2;refine yA [] []<|zE<|zB<|yK 4 [] [(47,vS p4 out c3),(50,vA [vS p15111 y2 c14111,vI y3])]<|xQ [vS p15111 y2 c14111,vI y3] spec_l6Use ?_;intro b2 hb2;have h18:RL imm02 [vS p15111 y2 c14111,vI y3] ([(spec_l6Use.mk y2 y3)]:List spec_l6Use):=⟨[vS p15111 y2 c14111,vI y3],_,rfl,rfl,(spec_l6Use_shut ⟨_,rfl,h15111⟩),rfl⟩;obtain ⟨out2,hy7,hM⟩:=zC hM;refine qI 95 2 1 rfl rfl rfl h4 (.inr ⟨0,rfl⟩) h18 hy7 ?_;intro p16 c15 cs2 h19;exact rX (zK [1,2] (hs':=[hO spec_l6Use (vS p16 out2 c15) cs2,hB b (cProg p p1 c p2 c1)]) rfl (by decide))<|yA [] [(3,vS p16 out2 c15)]<|zY<|zE<|zB<|yA [] [(5,vI (W (i + 1)))]<|xD<|vQ [(1,vP b 0),(3,vS p16 out2 c15),(4,vS p3 y c2),(5,vI (W (i + 1)))]<|ih out2 (W (i + 1)) _ hM hle h3 h h1 h19 hg ho hx
 intro hc hM;exact xA<|zS<|zS<|wD (zK [0] rfl (by decide))<|yT [(3,vS p4 out c3)]<|hx _ _ _ _ _ (zD hM).symm hle h4
def M.spec_l6Uses (p:zV):Option ((List spec_l6Use)):=do
 let y←rS p
 let out1←M.spec_l6Uses_l1 p y ([]:List spec_l6Use) 0
 pure (id out1)
theorem spec_l6Uses_ok:∀ (p:zV) r,M.spec_l6Uses p=some r→∀ {imm:Imm}{p1 c p2 c1},(S4 imm p1 p.Arrays c)→(S4 imm p2 p.Parts c1)→Ret Tryz.prog 54 [vA (cProg p p1 c p2 c1)] imm [] (spec_l6Uses_post  r):=by
 intro p r hM imm p1 c p2 c1 h h1;unfold M.spec_l6Uses at hM;refine yG (fn:=Tryz.f54) (c:=(bodyOf Tryz.f54)) Tryz.func54 rfl rfl ?_;rintro B - -;refine zF<|zB<|tR (cProg p p1 c p2 c1) ?_;intro b hb;refine yA [] []<|zE<|zF<|zB<|xQ [] spec_l6Use ?_;intro b1 hb1;have h2:RL imm [] ([]:List spec_l6Use):=rfl;refine yA [] [(3,vS (some ⟨b1,0,none⟩) ([]:List spec_l6Use) 0)]<|zE<|zF<|zB<|yK 1 [1] [(10,vA (cProg p p1 c p2 c1))] ?_;obtain ⟨y,hy,hM⟩:=zC hM;refine yR (zGB p _ hy h h1) ?_;rintro imm0 hs2 v2 k2 le - ⟨v0,rfl,rfl,h3⟩ -;have h2:=iM le h2;have h:=h.mono le;have h1:=h1.mono le;obtain ⟨p3,c2,rfl⟩:=h3.form;refine yA [] [(4,vS p3 y c2)]<|zE<|zF<|zF<|zB<|yA [] [(5,vI 0)]<|zE<|yC<|vQ [(1,vP b 0),(3,vS (some ⟨b1,0,none⟩) ([]:List spec_l6Use) 0),(4,vS p3 y c2),(5,vI 0)] ?_;obtain ⟨o0,ho0,hMl⟩:=zC hM;refine spec_l6Uses_l1_ok p y ([]:List spec_l6Use) 0 o0 ho0 iR h3 h h1 h2 (fun _ _ _ h=>h) (fun _ _ h=>h) ?_;intro imm03 out1 p5 c4 cs1 heq le3 h5;subst o0;refine yD<|zE<|zF<|zB<|yA [] [(2,vS p5 out1 c4)]<|zE<|yJ<|xI 0 rfl ?_;intro imm04 le4 hl0;have h20:=SL.of_frozen hl0 le4 h5;obtain rfl:=zD hMl;exact yQ ⟨_,_,(.tmp rfl ResV.nil),zX,⟨_,rfl,rfl,h20⟩⟩
def spec_l6Source_post (r:Int):KT:=fun kk imm' hs' v=>
  ∃ v0,hs'=[]∧v=tupV [v0]∧v0=.int .i64 r
def M.spec_l6Source_l1 (uses:(List spec_l6Use)) (cell:Int) (i:Int):Option (Out Unit (Int)):=do
 if (decide (i ≥ 0)) then
  let x←idx uses i
  if (x.write == cell) then
   pure (.ret i)
  else
   M.spec_l6Source_l1 uses cell (W (i - 1))
 else
  pure (.done ())
 partial_fixpoint
theorem spec_l6Source_l1_ok (uses:(List spec_l6Use)) (cell:Int):∀ (i:Int) (o:Out Unit (Int)),M.spec_l6Source_l1 uses cell i=some o→∀ {B}{imm0 imm:Imm}{Q p c},imm0.le imm→(S4 imm p uses c)→(∀ gl a w,¬Q (.goto gl) a w)→(∀ a w,¬Q .outgrown a w)→(∀ (imm':Imm) ,o=(.done ())→imm0.le imm'→T 22 B Q (.exit 0) imm' [] [])→(∀ r imm' hs' m',o=(.ret r)→imm0.le imm'→RS Tryz.prog Tryz.f55 B (spec_l6Source_post  r) imm' hs' m'→T 22 B Q .ret imm' hs' m')→J Tryz.prog 22 B (nav (bodyOf Tryz.f55) [1,0,1,0]) Q imm [] [(0,vS p uses c),(2,vI cell),(7,vI i)]:=by
 refine M.spec_l6Source_l1.partial_correctness uses cell _ ?_;intro self ih i o hM B imm0 imm Q p c hle h hg ho hx hr;refine xC hg ho<|zF<|zF<|zB<|yA [] [(11,.bool (decide (i ≥ 0)))]<|zE<|yO hM ?_ ?_
 · intro hc hM;refine yE<|zE<|zF<|yC<|zF<|zB<|yK 2 [] [(14,vS p uses c),(15,vI i)] ?_;obtain ⟨x,hy,hM⟩:=zC hM;refine wJ rfl rfl h hy ?_;intro ad ccs hat hrep;obtain ⟨v0,rfl,h1⟩:=spec_l6Use_open hrep;obtain ⟨p1,c1,rfl⟩:=h1.form;refine yK 4 [] [(17,.pointer (some (ad.add 1)))]<|xS 1 hat [vI x.write] (vI x.write) rfl<|yA [] [(20,.bool (x.write == cell))]<|zE<|yO hM ?_ ?_
   · intro hc1 hM;exact zF<|zB<|yA [] [(6,vI i)]<|zE<|yJ<|yF<|zR<|zR<|hr _ _ _ _ (zD hM).symm hle ⟨_,_,(.tmp rfl ResV.nil),zX,⟨_,rfl,rfl,rfl⟩⟩
   intro hc1 hM;exact yE<|zY<|zE<|zB<|yA [] [(7,vI (W (i - 1)))]<|xD<|vQ [(0,vS p uses c),(2,vI cell),(7,vI (W (i - 1)))]<|ih (W (i - 1)) _ hM hle h hg ho hx hr
 intro hc hM;exact xA<|zS<|zS<|yT []<|hx _  (zD hM).symm hle
def M.spec_l6Source (uses:(List spec_l6Use)) (to0:Int) (cell:Int):Option (Int):=do
 match←M.spec_l6Source_l1 uses cell (W (to0 - 1)) with
 | .ret r0=>pure r0
 | .done _ =>
  pure (-1)
theorem spec_l6Source_ok:∀ (uses:(List spec_l6Use)) (to0:Int) (cell:Int) r,M.spec_l6Source uses to0 cell=some r→∀ {imm:Imm}{p c},(S4 imm p uses c)→Ret Tryz.prog 55 [vS p uses c,vI to0,vI cell] imm [] (spec_l6Source_post  r):=by
 intro uses to0 cell r hM imm p c h;unfold M.spec_l6Source at hM;refine yG (fn:=Tryz.f55) (c:=(bodyOf Tryz.f55)) Tryz.func55 rfl rfl ?_;rintro B - -;refine zF<|zB<|yA [] []<|zE<|zF<|zF<|zB<|yA [] [(7,vI (W (to0 - 1)))]<|zE<|yC<|vQ [(0,vS p uses c),(2,vI cell),(7,vI (W (to0 - 1)))] ?_;obtain ⟨o0,ho0,hMl⟩:=zC hM;refine spec_l6Source_l1_ok uses cell (W (to0 - 1)) o0 ho0 iR h (fun _ _ _ h=>h) (fun _ _ h=>h) ?_ ?_
 · intro imm0  heq le;subst o0;refine yD<|zE<|zF<|zB<|yA [] [(6,vI (-1))]<|zE<|yJ ?_;obtain rfl:=zD hMl;exact yQ ⟨_,_,(.tmp rfl ResV.nil),zX,⟨_,rfl,rfl,rfl⟩⟩
 intro r0 imm9 hs9 m9 heq9 le9 hrs9;subst heq9;refine yF<|zR ?_;obtain rfl:=zD hMl;exact yQ hrs9
end Go.LN
namespace Go.LN
open Go.Proofs
set_option maxRecDepth 20000
def slices_Index_int_int_post (r:Int):KT:=fun kk imm' hs' v=>
  ∃ v0,hs'=[]∧v=tupV [v0]∧v0=.int .i64 r
def M.slices_Index_int_int_l1 (s:(List Int)) (v0:Int) (t8:Int):Option (Out Unit (Int)):=do
 if (decide (t8 < (s.length:Int))) then
  let x←idx s t8
  if (v0 == x) then
   pure (.ret t8)
  else
   M.slices_Index_int_int_l1 s v0 (W (t8 + 1))
 else
  pure (.done ())
 partial_fixpoint
theorem slices_Index_int_int_l1_ok (s:(List Int)) (v0:Int):∀ (t8:Int) (o:Out Unit (Int)),M.slices_Index_int_int_l1 s v0 t8=some o→∀ {B}{imm0 imm:Imm}{Q p c},imm0.le imm→(S4 imm p s c)→(∀ gl a w,¬Q (.goto gl) a w)→(∀ a w,¬Q .outgrown a w)→(∀ (imm':Imm) ,o=(.done ())→imm0.le imm'→T 19 B Q (.exit 0) imm' [] [])→(∀ r imm' hs' m',o=(.ret r)→imm0.le imm'→RS Tryz.prog Tryz.f120 B (slices_Index_int_int_post  r) imm' hs' m'→T 19 B Q .ret imm' hs' m')→J Tryz.prog 19 B (nav (bodyOf Tryz.f120) [1,0,1,0]) Q imm [] [(0,vS p s c),(1,vI v0),(7,vI (s.length:Int)),(8,vI t8)]:=by
 refine M.slices_Index_int_int_l1.partial_correctness s v0 _ ?_;intro self ih t8 o hM B imm0 imm Q p c hle h hg ho hx hr;refine xC hg ho<|zF<|zB<|yA [] [(9,.bool (decide (t8 < (s.length:Int))))]<|zE<|zF<|yO hM ?_ ?_
 · intro hc hM;refine yE<|zE<|zF<|yC<|zF<|zB<|yA [] [(5,vI t8)]<|zE<|zF<|zB<|yK 3 [] [(11,vI v0),(12,vS p s c),(13,vI t8)] ?_;obtain ⟨x,hy,hM⟩:=zC hM;refine wJ rfl rfl h hy ?_;intro ad ccs hat hrep;obtain rfl:=hrep;refine xS 0 hat [vI x] (vI x) rfl<|yA [] [(16,.bool (v0 == x))]<|zE<|yO hM ?_ ?_
   · intro hc1 hM;exact zF<|zB<|yA [] [(4,vI t8)]<|zE<|yJ<|yF<|zR<|zR<|hr _ _ _ _ (zD hM).symm hle ⟨_,_,(.tmp rfl ResV.nil),zX,⟨_,rfl,rfl,rfl⟩⟩
   intro hc1 hM;exact yE<|zY<|zE<|zB<|yA [] [(8,vI (W (t8 + 1)))]<|xD<|vQ [(0,vS p s c),(1,vI v0),(7,vI (s.length:Int)),(8,vI (W (t8 + 1)))]<|ih (W (t8 + 1)) _ hM hle h hg ho hx hr
 intro hc hM;exact xA<|zS<|zS<|yT []<|hx _  (zD hM).symm hle
def M.slices_Index_int_int (s:(List Int)) (v0:Int):Option (Int):=do
 match←M.slices_Index_int_int_l1 s v0 0 with
 | .ret r0=>pure r0
 | .done _ =>
  pure (-1)
theorem slices_Index_int_int_ok:∀ (s:(List Int)) (v0:Int) r,M.slices_Index_int_int s v0=some r→∀ {imm:Imm}{p c},(S4 imm p s c)→Ret Tryz.prog 120 [vS p s c,vI v0] imm [] (slices_Index_int_int_post  r):=by
 intro s v0 r hM imm p c h;unfold M.slices_Index_int_int at hM;refine yG (fn:=Tryz.f120) (c:=(bodyOf Tryz.f120)) Tryz.func120 rfl rfl ?_;rintro B - -;refine zF<|zB<|yA [] []<|zE<|zF<|zF<|zB<|yA [] [(7,vI (s.length:Int)),(8,vI 0)]<|zE<|yC<|vQ [(0,vS p s c),(1,vI v0),(7,vI (s.length:Int)),(8,vI 0)] ?_;obtain ⟨o0,ho0,hMl⟩:=zC hM;refine slices_Index_int_int_l1_ok s v0 0 o0 ho0 iR h (fun _ _ _ h=>h) (fun _ _ h=>h) ?_ ?_
 · intro imm0  heq le;subst o0;refine yD<|zE<|zF<|zB<|yA [] [(4,vI (-1))]<|zE<|yJ ?_;obtain rfl:=zD hMl;exact yQ ⟨_,_,(.tmp rfl ResV.nil),zX,⟨_,rfl,rfl,rfl⟩⟩
 intro r0 imm9 hs9 m9 heq9 le9 hrs9;subst heq9;refine yF<|zR ?_;obtain rfl:=zD hMl;exact yQ hrs9
def slices_Contains_int_int_post (r:Bool):KT:=fun kk imm' hs' v=>
  ∃ v0,hs'=[]∧v=tupV [v0]∧v0=.bool r
def M.slices_Contains_int_int (s:(List Int)) (v0:Int):Option (Bool):=do
 let y←M.slices_Index_int_int s v0
 pure (decide (y ≥ 0))
theorem slices_Contains_int_int_ok:∀ (s:(List Int)) (v0:Int) r,M.slices_Contains_int_int s v0=some r→∀ {imm:Imm}{p c},(S4 imm p s c)→Ret Tryz.prog 90 [vS p s c,vI v0] imm [] (slices_Contains_int_int_post  r):=by
 intro s v0 r hM imm p c h;unfold M.slices_Contains_int_int at hM;refine yG (fn:=Tryz.f90) (c:=(bodyOf Tryz.f90)) Tryz.func90 rfl rfl ?_;rintro B - -;refine zF<|zB<|yA [] []<|zE<|zF<|zB<|yK 2 [] [(5,vS p s c),(6,vI v0)] ?_;obtain ⟨y,hy,hM⟩:=zC hM;refine yR (slices_Index_int_int_ok s v0 _ hy h) ?_;rintro imm0 hs2 v2 k2 le - ⟨v01,rfl,rfl,rfl⟩ -;refine yA [] [(4,.bool (decide (y ≥ 0)))]<|zE<|yJ ?_;obtain rfl:=zD hM;exact yQ ⟨_,_,(.tmp rfl ResV.nil),zX,⟨_,rfl,rfl,rfl⟩⟩
end Go.LN
namespace Go.LN
open Go.Proofs
set_option maxRecDepth 20000
def spec_DrawLiveInstances_post (r:zV):KT:=fun kk imm' hs' v=>
  ∃ v0,hs'=[]∧v=tupV [v0]∧(∃ cs,v0=.agg ⟨cs⟩∧Rp.rep imm' cs r)
def M.spec_DrawLiveInstances (code:(List UInt8)):Option (zV):=do
 let y←M.spec_DrawProgramValid code
 pure (id y)
theorem spec_DrawLiveInstances_ok:∀ (code:(List UInt8)) r,M.spec_DrawLiveInstances code=some r→∀ {imm:Imm}{p c},(S4 imm p code c)→Ret Tryz.prog 32 [vS p code c] imm [] (spec_DrawLiveInstances_post  r):=by
 intro code r hM imm p c h;unfold M.spec_DrawLiveInstances at hM;refine yG (fn:=Tryz.f32) (c:=(bodyOf Tryz.f32)) Tryz.func32 rfl rfl ?_;rintro B - -;refine zF<|zB<|uD zTwo ?_;intro b hb;refine yN rfl<|zE<|zF<|zB<|yK 1 [] [(3,vS p code c)] ?_;obtain ⟨y,hy,hM⟩:=zC hM;refine yR (spec_DrawProgramValid_ok code _ hy h) ?_;rintro imm0 hs2 v2 k2 le - ⟨v0,rfl,rfl,⟨cs,rfl,h1⟩⟩ -;obtain ⟨v01,v02,rfl,h2,h3⟩:=zG6 h1;obtain ⟨p1,c1,rfl⟩:=h2.form;obtain ⟨p2,c2,rfl⟩:=h3.form;refine xJ 0 (cProg y p1 c1 p2 c2) [hB b (cProg y p1 c1 p2 c2)] rfl rfl rfl rfl<|yN rfl<|zE<|yJ ?_;obtain rfl:=zD hM;exact yQ ⟨_,_,(.cell 0 rfl rfl (by kernel_rfl) ResV.nil),zX,⟨_,rfl,rfl,⟨_,rfl,(nH ⟨_,_,rfl,h2,h3⟩)⟩⟩⟩
def impl_traced_live_post (r:(List Bool)):KT:=fun kk imm' hs' v=>
  ∃ v0,hs'=[]∧v=tupV [v0]∧SL imm' v0 r
def M.impl_traced_live_l2 (y1:(List Int)) (out3:List Bool) (t52:Int):Option (List Bool):=do
 if (decide (t52 < (y1.length:Int))) then
  let x3←idx y1 t52
  let out5←(do
    if (decide (x3 ≥ 0)) then
     let x4←idx out3 x3
     let l2←pure (out3.set x3.toNat true)
     pure (id l2)
    else
     pure (id out3)
      : Option (List Bool))
  M.impl_traced_live_l2 y1 out5 (W (t52 + 1))
 else
  pure (id out3)
 partial_fixpoint
theorem impl_traced_live_l2_ok (y1:(List Int)):∀ (out3:List Bool) (t52:Int) (o:List Bool),M.impl_traced_live_l2 y1 out3 t52=some o→∀ {B}{imm0 imm:Imm}{Q}{t:oS}{i:Int}{ad:Addr}{p c p1 c1 p2 c2 p3 c3 p4 c4 p8 c8 p9 c9 cs4},imm0.le imm→(S4 imm p t.Program.Arrays c)→(S4 imm p1 t.Program.Parts c1)→(S4 imm p2 t.list c2)→(S4 imm p3 t.reads c3)→(S4 imm p4 t.writes c4)→(At imm ad [vS p t.Program.Arrays c,vS p1 t.Program.Parts c1,vS p2 t.list c2,vS p3 t.reads c3,vS p4 t.writes c4])→(S4 imm p8 y1 c8)→(RL imm cs4 out3)→(∀ gl a w,¬Q (.goto gl) a w)→(∀ a w,¬Q .outgrown a w)→(∀ (imm':Imm) (out4:List Bool) (p10:Option Addr) (c10:Nat) (cs5:List Value),o=out4→imm0.le imm'→(RL imm' cs5 out4)→T 63 B Q (.exit 2) imm' [hO Bool (vS p10 out4 c10) cs5] [(0,.pointer (some ad)),(3,vS p10 out4 c10),(4,vI i)])→J Tryz.prog 63 B (nav (bodyOf Tryz.f62) [1,1,0,1,0,0,1,0,0,1,1,1,0]) Q imm [hO Bool (vS p9 out3 c9) cs4] [(0,.pointer (some ad)),(3,vS p9 out3 c9),(4,vI i),(50,vS p8 y1 c8),(51,vI (y1.length:Int)),(52,vI t52)]:=by
 refine M.impl_traced_live_l2.partial_correctness y1 _ ?_;intro self ih out3 t52 o hM B imm0 imm Q t i ad p c p1 c1 p2 c2 p3 c3 p4 c4 p8 c8 p9 c9 cs4 hle h h1 h2 h3 h4 hat h11 h12 hg ho hx;refine xC hg ho<|zF<|zB<|yA [] [(53,.bool (decide (t52 < (y1.length:Int))))]<|zE<|zF<|yO hM ?_ ?_
 · intro hc3 hM;refine yE<|zE<|zF<|yC<|zF<|zB ?_;obtain ⟨x3,hy8,hM⟩:=zC hM;refine wJ rfl rfl h11 hy8 ?_;intro ad4 ccs3 hat4 hrep3;obtain rfl:=hrep3;refine xS 0 hat4 [vI x3] (vI x3) rfl<|yA [] [(6,vI x3)]<|zE<|zF<|zB<|yA [] [(57,.bool (decide (x3 ≥ 0)))]<|zE ?_;obtain ⟨o01,ho01,hMc1⟩:=zC hM;refine yU (fun imm' hs' m'=>∃ (out5:List Bool) (p11:Option Addr) (c11:Nat) (cs6:List Value),o01=out5∧imm.le imm'∧(RL imm' cs6 out5)∧hs'=[hO Bool (vS p11 out5 c11) cs6]∧m'=[(0,.pointer (some ad)),(3,vS p11 out5 c11),(4,vI i),(50,vS p8 y1 c8),(51,vI (y1.length:Int)),(52,vI t52)]) ?_ ?_
   · have hle:=iS imm;refine yO ho01 ?_ ?_
     · intro hc4 hM;refine zB<|yK 2 [] [(58,vS p9 out3 c9),(59,vI x3)] ?_;obtain ⟨x4,hy9,hM⟩:=zC hM;refine nK 0 rfl rfl rfl h12 hy9 ?_;intro ad5 ccs4 hat5 hcc2 hrep4;obtain rfl:=hrep4;obtain ⟨l2,hy10,hM⟩:=zC hM;refine qX (c:=[.bool true]) (x':=true) 0 0 rfl rfl rfl hat5 rfl rfl hcc2 (by kernel_rfl) (by kernel_rfl) (by kernel_rfl) h12 hy9 (by kernel_rfl) rfl ?_;rw [show out3.set x3.toNat true=l2 from zD hy10];intro cs7 h15 hl01;exact kJ (m':=[(0,.pointer (some ad)),(3,vS p9 out3 c9),(4,vI i),(50,vS p8 y1 c8),(51,vI (y1.length:Int)),(52,vI t52),(58,vS p9 out3 c9),(59,vI x3)]) ⟨rfl,rfl,rfl,rfl,rfl,rfl,rfl,rfl,trivial⟩<|zCM (hs':=[hO Bool (vS p9 l2 c9) cs7]) (m':=[(0,.pointer (some ad)),(3,vS p9 l2 c9),(4,vI i),(50,vS p8 y1 c8),(51,vI (y1.length:Int)),(52,vI t52),(58,vS p9 l2 c9),(59,vI x3)]) (by first | rfl | simp only [vS,hl01,List.nil_append,List.cons_append,List.set_cons_zero,List.set_cons_succ,List.eraseIdx_cons_zero,List.eraseIdx_cons_succ]) (by first | rfl | simp only [vS,hl01])<|yN rfl<|yT [(0,.pointer (some ad)),(3,vS p9 l2 c9),(4,vI i),(50,vS p8 y1 c8),(51,vI (y1.length:Int)),(52,vI t52)]<|yB ⟨_,_,_,_,(zD hM).symm,hle,h15,rfl,rfl⟩
     intro hc4 hM;exact yE<|yT [(0,.pointer (some ad)),(3,vS p9 out3 c9),(4,vI i),(50,vS p8 y1 c8),(51,vI (y1.length:Int)),(52,vI t52)]<|yB ⟨_,_,_,_,(zD hM).symm,hle,h12,rfl,rfl⟩
   rintro imm05 hs2 m2 ⟨out5,p11,c11,cs6,heq1,le5,h14,rfl,rfl⟩;subst o01;have h:=h.mono le5;have h1:=h1.mono le5;have h2:=h2.mono le5;have h3:=h3.mono le5;have h4:=h4.mono le5;have hat:=hat.mono le5;have h11:=h11.mono le5;have hle:=hle.trans le5;exact zY<|zE<|zB<|yA [] [(52,vI (W (t52 + 1)))]<|xD<|vQ [(0,.pointer (some ad)),(3,vS p11 out5 c11),(4,vI i),(50,vS p8 y1 c8),(51,vI (y1.length:Int)),(52,vI (W (t52 + 1)))]<|ih out5 (W (t52 + 1)) _ hMc1 hle h h1 h2 h3 h4 hat h11 h14 hg ho hx
 intro hc3 hM;exact xA<|zS<|zS<|yT [(0,.pointer (some ad)),(3,vS p9 out3 c9),(4,vI i)]<|hx _ _ _ _ _ (zD hM).symm hle h12
def M.impl_traced_live_l1 (t:oS) (out1:List Bool) (i:Int):Option (List Bool):=do
 if (decide (i ≥ 0)) then
  let t44←(do
    let x←idx out1 i
    if (!x) then
     let l←slc t.writes (W (i + 1)) (t.writes.length:Int)
     let x1←idx t.writes i
     let y←M.slices_Contains_int_int l x1
     pure (id y)
    else
     pure false
      : Option Bool)
  if t44 then
   M.impl_traced_live_l1 t out1 (W (i - 1))
  else
   let x2←idx out1 i
   let l1←pure (out1.set i.toNat true)
   let y1←M.impl_traced_sources t i
   let out4←M.impl_traced_live_l2 y1 l1 0
   M.impl_traced_live_l1 t out4 (W (i - 1))
 else
  pure (id out1)
 partial_fixpoint
theorem impl_traced_live_l1_ok (t:oS):∀ (out1:List Bool) (i:Int) (o:List Bool),M.impl_traced_live_l1 t out1 i=some o→∀ {B}{imm0 imm:Imm}{Q}  {ad:Addr}{p c p1 c1 p2 c2 p3 c3 p4 c4 p5 c5 cs1},imm0.le imm→(S4 imm p t.Program.Arrays c)→(S4 imm p1 t.Program.Parts c1)→(S4 imm p2 t.list c2)→(S4 imm p3 t.reads c3)→(S4 imm p4 t.writes c4)→(At imm ad [vS p t.Program.Arrays c,vS p1 t.Program.Parts c1,vS p2 t.list c2,vS p3 t.reads c3,vS p4 t.writes c4])→(RL imm cs1 out1)→(∀ gl a w,¬Q (.goto gl) a w)→(∀ a w,¬Q .outgrown a w)→(∀ (imm':Imm) (out2:List Bool) (p6:Option Addr) (c6:Nat) (cs2:List Value),o=out2→imm0.le imm'→(RL imm' cs2 out2)→T 63 B Q (.exit 0) imm' [hO Bool (vS p6 out2 c6) cs2] [(3,vS p6 out2 c6)])→J Tryz.prog 63 B (nav (bodyOf Tryz.f62) [1,1,0,1,0]) Q imm [hO Bool (vS p5 out1 c5) cs1] [(0,.pointer (some ad)),(3,vS p5 out1 c5),(4,vI i)]:=by
 refine M.impl_traced_live_l1.partial_correctness t _ ?_;intro self ih out1 i o hM B imm0 imm Q ad p c p1 c1 p2 c2 p3 c3 p4 c4 p5 c5 cs1 hle h h1 h2 h3 h4 hat h6 hg ho hx;refine xC hg ho<|zF<|zF<|zB<|yA [] [(20,.bool (decide (i ≥ 0)))]<|zE<|yO hM ?_ ?_
 · intro hc hM;refine yE<|zE<|zF<|yC<|zF<|zF ?_;obtain ⟨o0,ho0,hMc⟩:=zC hM;refine yU (fun imm' hs' m'=>∃ (t44:Bool),o0=t44∧imm.le imm'∧hs'=[hO Bool (vS p5 out1 c5) cs1]∧m'=[(0,.pointer (some ad)),(3,vS p5 out1 c5),(4,vI i),(44,.bool t44)]) ?_ ?_
   · have hle:=iS imm;obtain ⟨x,hy1,hM⟩:=zC ho0;cases hc1:(!x) with
     | true =>
      have hM0:=zW hc1 hM;obtain ⟨l,hy2,hM⟩:=zC hM0;obtain ⟨x1,hy3,hM⟩:=zC hM;obtain ⟨y,hy4,hM⟩:=zC hM;refine uA [.p (vS p5 out1 c5) [],.p (vI i) [],.x (fun imm' v hx=>∃ ad1,v=.pointer (some ad1)∧hx=[]∧(AtO (vS p5 out1 c5) (Rp.sz Bool) i.toNat ad1)∧((cs1.drop (i.toNat * Rp.sz Bool)).take (Rp.sz Bool)=[.bool x])),.q (.bool x),.q (.bool true),.q (.bool true),.p (.pointer (some ad)) [],.p (.pointer (some ad)) [],.p (.pointer (some (ad.add 4))) [],.q (vS p4 t.writes c4),.p (vI i) [],.p (vI (W (i + 1))) [],.x (fun imm' v hx=>∃ p7 c7,v=vS p7 l c7∧hx=[]∧(S4 imm' p7 l c7)),.p (.pointer (some ad)) [],.p (.pointer (some ad)) [],.p (.pointer (some (ad.add 4))) [],.q (vS p4 t.writes c4),.p (vI i) [],.x (fun imm' v hx=>∃ ad2,v=.pointer (some ad2)∧hx=[]∧(At imm' ad2 [vI x1])),.q (vI x1),.q (.bool y),.p (.bool y) []] [[],[],[(0,false),(1,false)],[(2,false)],[(3,false)],[(4,false)],[(5,false)],[(5,false),(6,false)],[(5,false),(7,false)],[(5,false),(8,false)],[(5,false)],[(5,false),(10,false)],[(5,false),(9,false),(11,false)],[(5,false)],[(5,false),(13,false)],[(5,false),(14,false)],[(5,false),(15,false)],[(5,false)],[(5,false),(16,false),(17,false)],[(5,false),(18,false)],[(5,false),(12,false),(19,false)],[(5,false),(20,false)]] [hO Bool (vS p5 out1 c5) cs1] [] [(21,false)] (zK [0] rfl (by decide)) ?_ ?_
      · refine Op<|Op<|Ox ?_<|Oq ?_<|Oq ?_<|Oq ?_<|Op<|Op<|Op<|Oq ?_<|Op<|Op<|Ox ?_<|Op<|Op<|Op<|Oq ?_<|Op<|Ox ?_<|Oq ?_<|Oq ?_<|Op<|On
        · intro imm1 hf le1;refine zG ?_;rintro _ _ ⟨rfl,rfl⟩;refine zG ?_;rintro _ _ ⟨rfl,rfl⟩;refine zN<|yH [(23,vS p5 out1 c5),(24,vI i)] ?_;have hle:=iS imm1;have h6:=iM le1 h6;refine nK 0 rfl rfl rfl h6 hy1 ?_;intro ad1 ccs hat1 hcc hrep;obtain rfl:=hrep;exact zZ (hx:=[]) rfl hle rfl (zM rfl) ⟨_,rfl,rfl,hat1,hcc⟩
        · intro imm1 hf le1;refine zG ?_;rintro _ _ ⟨ad1,rfl,rfl,hat1,hcc⟩;refine zN<|yH [(25,.pointer (some ad1))] ?_;have hle:=iS imm1;exact zCu 0 0 hat1 hcc [.bool x] (.bool x) rfl rfl<|zZ (hx:=[]) rfl hle rfl (zM rfl) ⟨rfl,rfl⟩
        · intro imm1 hf le1;refine zG ?_;rintro _ _ ⟨rfl,rfl⟩;refine zN<|yH [(26,.bool x)] ?_;have hle:=iS imm1;refine qV 5 [(27,.bool (!x))] ?_;rw [hc1];exact zZ (hx:=[]) rfl hle rfl (zM rfl) ⟨rfl,rfl⟩
        · intro imm1 hf le1;refine zG ?_;rintro _ _ ⟨rfl,rfl⟩;refine zN<|yH [(27,.bool true)] ?_;have hle:=iS imm1;exact qV 6 [(28,.bool true)]<|zZ (hx:=[]) rfl hle rfl (zM rfl) ⟨rfl,rfl⟩
        · intro imm1 hf le1;refine zG ?_;rintro _ _ ⟨rfl,rfl⟩;refine zG ?_;rintro _ _ ⟨rfl,rfl⟩;refine zN<|yH [(28,.bool true),(31,.pointer (some (ad.add 4)))] ?_;have hle:=iS imm1;have hat:=hat.mono le1;exact xS 4 hat [vS p4 t.writes c4] (vS p4 t.writes c4) rfl<|zZ (hx:=[]) rfl hle rfl (zM rfl) ⟨rfl,rfl⟩
        · intro imm1 hf le1;refine zG ?_;rintro _ _ ⟨rfl,rfl⟩;refine zG ?_;rintro _ _ ⟨rfl,rfl⟩;refine zG ?_;rintro _ _ ⟨rfl,rfl⟩;refine zN<|yH [(28,.bool true),(32,vS p4 t.writes c4),(34,vI (W (i + 1)))] ?_;have hle:=iS imm1;have h4:=h4.mono le1;refine zJS rfl h4 hy2 ?_;intro v0 h8;obtain ⟨p7,c7,rfl⟩:=h8.form;exact zZ (hx:=[]) rfl hle rfl (zM rfl) ⟨_,_,rfl,rfl,h8⟩
        · intro imm1 hf le1;refine zG ?_;rintro _ _ ⟨rfl,rfl⟩;refine zG ?_;rintro _ _ ⟨rfl,rfl⟩;refine zN<|yH [(28,.bool true),(38,.pointer (some (ad.add 4)))] ?_;have hle:=iS imm1;have hat:=hat.mono le1;exact xS 4 hat [vS p4 t.writes c4] (vS p4 t.writes c4) rfl<|zZ (hx:=[]) rfl hle rfl (zM rfl) ⟨rfl,rfl⟩
        · intro imm1 hf le1;refine zG ?_;rintro _ _ ⟨rfl,rfl⟩;refine zG ?_;rintro _ _ ⟨rfl,rfl⟩;refine zG ?_;rintro _ _ ⟨rfl,rfl⟩;refine zN<|yH [(28,.bool true),(39,vS p4 t.writes c4),(40,vI i)] ?_;have hle:=iS imm1;have h4:=h4.mono le1;refine wJ rfl rfl h4 hy3 ?_;intro ad2 ccs1 hat2 hrep1;obtain rfl:=hrep1;exact zZ (hx:=[]) rfl hle rfl (zM rfl) ⟨_,rfl,rfl,hat2⟩
        · intro imm1 hf le1;refine zG ?_;rintro _ _ ⟨rfl,rfl⟩;refine zG ?_;rintro _ _ ⟨ad2,rfl,rfl,hat2⟩;refine zN<|yH [(28,.bool true),(41,.pointer (some ad2))] ?_;have hle:=iS imm1;exact xS 0 hat2 [vI x1] (vI x1) rfl<|zZ (hx:=[]) rfl hle rfl (zM rfl) ⟨rfl,rfl⟩
        intro imm1 hf le1;refine zG ?_;rintro _ _ ⟨rfl,rfl⟩;refine zG ?_;rintro _ _ ⟨p7,c7,rfl,rfl,h8⟩;refine zG ?_;rintro _ _ ⟨rfl,rfl⟩;refine zN<|yH [(28,.bool true),(35,vS p7 l c7),(42,vI x1)] ?_;have hle:=iS imm1;refine yR (slices_Contains_int_int_ok l x1 _ hy4 h8) ?_;rintro imm01 hs2 v2 k2 le - ⟨v01,rfl,rfl,rfl⟩ -;have hle:=hle.trans le;exact zZ (hx:=[]) rfl hle rfl (zM rfl) ⟨rfl,rfl⟩
      intro imm02 le1;refine zG ?_;rintro _ _ ⟨rfl,rfl⟩;refine zN<|yH [(0,.pointer (some ad)),(3,vS p5 out1 c5),(4,vI i),(44,.bool y)] ?_;have hle:=hle.trans le1;exact yN rfl<|yT [(0,.pointer (some ad)),(3,vS p5 out1 c5),(4,vI i),(44,.bool y)]<|yB ⟨_,(zD hM).symm,hle,rfl,rfl⟩
     | false =>
      have hM01:=zU hc1 hM;refine uA [.p (vS p5 out1 c5) [],.p (vI i) [],.x (fun imm' v hx=>∃ ad1,v=.pointer (some ad1)∧hx=[]∧(AtO (vS p5 out1 c5) (Rp.sz Bool) i.toNat ad1)∧((cs1.drop (i.toNat * Rp.sz Bool)).take (Rp.sz Bool)=[.bool x])),.q (.bool x),.q (.bool false),.q (.bool false),.p undef [],.p undef [],.p undef [],.p undef [],.p undef [],.p undef [],.p undef [],.p undef [],.p undef [],.p undef [],.p undef [],.p undef [],.p undef [],.p undef [],.p undef [],.p (.bool false) []] [[],[],[(0,false),(1,false)],[(2,false)],[(3,false)],[(4,false)],[(5,false)],[(5,false),(6,false)],[(5,false),(7,false)],[(5,false),(8,false)],[(5,false)],[(5,false),(10,false)],[(5,false),(9,false),(11,false)],[(5,false)],[(5,false),(13,false)],[(5,false),(14,false)],[(5,false),(15,false)],[(5,false)],[(5,false),(16,false),(17,false)],[(5,false),(18,false)],[(5,false),(12,false),(19,false)],[(5,false),(20,false)]] [hO Bool (vS p5 out1 c5) cs1] [] [(21,false)] (zK [0] rfl (by decide)) ?_ ?_
      · refine Op<|Op<|Ox ?_<|Oq ?_<|Oq ?_<|Oq ?_<|Op<|Op<|Op<|Op<|Op<|Op<|Op<|Op<|Op<|Op<|Op<|Op<|Op<|Op<|Op<|Op<|On
        · intro imm1 hf le1;refine zG ?_;rintro _ _ ⟨rfl,rfl⟩;refine zG ?_;rintro _ _ ⟨rfl,rfl⟩;refine zN<|yH [(23,vS p5 out1 c5),(24,vI i)] ?_;have hle:=iS imm1;have h6:=iM le1 h6;refine nK 0 rfl rfl rfl h6 hy1 ?_;intro ad1 ccs hat1 hcc hrep;obtain rfl:=hrep;exact zZ (hx:=[]) rfl hle rfl (zM rfl) ⟨_,rfl,rfl,hat1,hcc⟩
        · intro imm1 hf le1;refine zG ?_;rintro _ _ ⟨ad1,rfl,rfl,hat1,hcc⟩;refine zN<|yH [(25,.pointer (some ad1))] ?_;have hle:=iS imm1;exact zCu 0 0 hat1 hcc [.bool x] (.bool x) rfl rfl<|zZ (hx:=[]) rfl hle rfl (zM rfl) ⟨rfl,rfl⟩
        · intro imm1 hf le1;refine zG ?_;rintro _ _ ⟨rfl,rfl⟩;refine zN<|yH [(26,.bool x)] ?_;have hle:=iS imm1;refine qV 5 [(27,.bool (!x))] ?_;rw [hc1];exact zZ (hx:=[]) rfl hle rfl (zM rfl) ⟨rfl,rfl⟩
        intro imm1 hf le1;refine zG ?_;rintro _ _ ⟨rfl,rfl⟩;refine zN<|yH [(27,.bool false)] ?_;have hle:=iS imm1;exact qV 6 [(28,.bool false)]<|zZ (hx:=[]) rfl hle rfl (zM rfl) ⟨rfl,rfl⟩
      intro imm03 le2;refine zG ?_;rintro _ _ ⟨rfl,rfl⟩;refine zN<|yH [(0,.pointer (some ad)),(3,vS p5 out1 c5),(4,vI i),(44,.bool false)] ?_;have hle:=hle.trans le2;exact yN rfl<|yT [(0,.pointer (some ad)),(3,vS p5 out1 c5),(4,vI i),(44,.bool false)]<|yB ⟨_,(zD hM01).symm,hle,rfl,rfl⟩
   rintro imm0 hs2 m2 ⟨t44,heq,le3,rfl,rfl⟩;subst o0;have h:=h.mono le3;have h1:=h1.mono le3;have h2:=h2.mono le3;have h3:=h3.mono le3;have h4:=h4.mono le3;have hat:=hat.mono le3;have h6:=iM le3 h6;have hle:=hle.trans le3;refine zE<|yO hMc ?_ ?_
   · intro hc2 hM;exact xA<|zS<|yD<|zE<|zB<|yA [] [(4,vI (W (i - 1)))]<|xD<|vQ [(0,.pointer (some ad)),(3,vS p5 out1 c5),(4,vI (W (i - 1)))]<|ih out1 (W (i - 1)) _ hM hle h h1 h2 h3 h4 hat h6 hg ho hx
   intro hc2 hM;refine yE<|zE<|zF<|zB<|yK 2 [] [(45,vS p5 out1 c5),(46,vI i)] ?_;obtain ⟨x2,hy5,hM⟩:=zC hM;refine nK 0 rfl rfl rfl h6 hy5 ?_;intro ad3 ccs2 hat3 hcc1 hrep2;obtain rfl:=hrep2;obtain ⟨l1,hy6,hM⟩:=zC hM;refine qX (c:=[.bool true]) (x':=true) 0 0 rfl rfl rfl hat3 rfl rfl hcc1 (by kernel_rfl) (by kernel_rfl) (by kernel_rfl) h6 hy5 (by kernel_rfl) rfl ?_;rw [show out1.set i.toNat true=l1 from zD hy6];intro cs3 h10 hl0;refine kJ (m':=[(0,.pointer (some ad)),(3,vS p5 out1 c5),(4,vI i),(45,vS p5 out1 c5),(46,vI i)]) ⟨rfl,rfl,rfl,rfl,rfl,trivial⟩<|zCM (hs':=[hO Bool (vS p5 l1 c5) cs3]) (m':=[(0,.pointer (some ad)),(3,vS p5 l1 c5),(4,vI i),(45,vS p5 l1 c5),(46,vI i)]) (by first | rfl | simp only [vS,hl0,List.nil_append,List.cons_append,List.set_cons_zero,List.set_cons_succ,List.eraseIdx_cons_zero,List.eraseIdx_cons_succ]) (by first | rfl | simp only [vS,hl0])<|yN rfl<|zE<|zF<|zB<|yK 2 [] [(48,.pointer (some ad)),(49,vI i)] ?_;obtain ⟨y1,hy7,hM⟩:=zC hM;refine yR (impl_traced_sources_ok t i _ hy7 h h1 h2 h3 h4 hat) ?_;rintro imm04 hs2 v2 k2 le4 - ⟨v02,rfl,rfl,h11⟩ -;have h:=h.mono le4;have h1:=h1.mono le4;have h2:=h2.mono le4;have h3:=h3.mono le4;have h4:=h4.mono le4;have hat:=hat.mono le4;have h10:=iM le4 h10;have hle:=hle.trans le4;obtain ⟨p8,c8,rfl⟩:=h11.form;refine yA [] [(51,vI (y1.length:Int)),(52,vI 0)]<|zE<|yC<|vQ [(0,.pointer (some ad)),(3,vS p5 l1 c5),(4,vI i),(50,vS p8 y1 c8),(51,vI (y1.length:Int)),(52,vI 0)] ?_;obtain ⟨o02,ho02,hMl⟩:=zC hM;refine impl_traced_live_l2_ok y1 l1 0 o02 ho02 iR h h1 h2 h3 h4 hat h11 h10 (fun _ _ _ h=>hg _ _ _ h) (fun _ _ h=>ho _ _ h) ?_;intro imm06 out4 p10 c10 cs5 heq2 le6 h13;subst o02;have h:=h.mono le6;have h1:=h1.mono le6;have h2:=h2.mono le6;have h3:=h3.mono le6;have h4:=h4.mono le6;have hat:=hat.mono le6;have hle:=hle.trans le6;exact yD<|zY<|zE<|zB<|yA [] [(4,vI (W (i - 1)))]<|xD<|vQ [(0,.pointer (some ad)),(3,vS p10 out4 c10),(4,vI (W (i - 1)))]<|ih out4 (W (i - 1)) _ hMl hle h h1 h2 h3 h4 hat h13 hg ho hx
 intro hc hM;exact xA<|zS<|zS<|yT [(3,vS p5 out1 c5)]<|hx _ _ _ _ _ (zD hM).symm hle h6
def M.impl_traced_live (t:oS):Option ((List Bool)):=do
 let out←mkrow 1 (t.list.length:Int) (false:Bool)
 let out2←M.impl_traced_live_l1 t out (W ((t.list.length:Int) - 1))
 pure (id out2)
theorem impl_traced_live_ok:∀ (t:oS) r,M.impl_traced_live t=some r→∀ {imm:Imm}{ad:Addr}{p c p1 c1 p2 c2 p3 c3 p4 c4},(S4 imm p t.Program.Arrays c)→(S4 imm p1 t.Program.Parts c1)→(S4 imm p2 t.list c2)→(S4 imm p3 t.reads c3)→(S4 imm p4 t.writes c4)→(At imm ad [vS p t.Program.Arrays c,vS p1 t.Program.Parts c1,vS p2 t.list c2,vS p3 t.reads c3,vS p4 t.writes c4])→Ret Tryz.prog 62 [.pointer (some ad)] imm [] (impl_traced_live_post  r):=by
 intro t r hM imm ad p c p1 c1 p2 c2 p3 c3 p4 c4 h h1 h2 h3 h4 hat;unfold M.impl_traced_live at hM;refine yG (fn:=Tryz.f62) (c:=(bodyOf Tryz.f62)) Tryz.func62 rfl rfl ?_;rintro B - -;refine zF<|zB<|yA [] []<|zE<|zF<|zB<|yK 3 [] [(9,.pointer (some (ad.add 2)))]<|xS 2 hat [vS p2 t.list c2] (vS p2 t.list c2) rfl<|yK 5 [] [(11,vI (t.list.length:Int))] ?_;obtain ⟨out,hy,hM⟩:=zC hM;refine R_mk 1 [.bool false] rfl hy rfl ?_;intro b cs h5;refine yA [] [(3,vS (some ⟨b,0,none⟩) out out.length)]<|zE<|zF<|zF<|zB<|yK 3 [] [(15,.pointer (some (ad.add 2)))]<|xS 2 hat [vS p2 t.list c2] (vS p2 t.list c2) rfl<|yA [] [(4,vI (W ((t.list.length:Int) - 1)))]<|zE<|yC<|vQ [(0,.pointer (some ad)),(3,vS (some ⟨b,0,none⟩) out out.length),(4,vI (W ((t.list.length:Int) - 1)))] ?_;obtain ⟨o03,ho03,hMl1⟩:=zC hM;refine impl_traced_live_l1_ok t out (W ((t.list.length:Int) - 1)) o03 ho03 iR h h1 h2 h3 h4 hat h5 (fun _ _ _ h=>h) (fun _ _ h=>h) ?_;intro imm07 out2 p6 c6 cs2 heq3 le7 h7;subst o03;refine yD<|zE<|zF<|zB<|yA [] [(2,vS p6 out2 c6)]<|zE<|yJ<|xI 0 rfl ?_;intro imm08 le8 hl02;have h16:=SL.of_frozen hl02 le8 h7;obtain rfl:=zD hMl1;exact yQ ⟨_,_,(.tmp rfl ResV.nil),zX,⟨_,rfl,rfl,h16⟩⟩
def impl_LiveInstances_post (r:(List Int)):KT:=fun kk imm' hs' v=>
  ∃ v0,hs'=[]∧v=tupV [v0]∧SL imm' v0 r
def M.impl_LiveInstances (p:zV):Option ((List Int)):=do
 let (y1,y2)←jC p
 if (!y2) then
  pure ([]:List Int)
 else
  let t←y1
  let y3←M.impl_traced_live t
  let y4←M.impl_chosen y3
  pure (id y4)
theorem impl_LiveInstances_ok:∀ (p:zV) r,M.impl_LiveInstances p=some r→∀ {imm:Imm}{p1 c p2 c1},(S4 imm p1 p.Arrays c)→(S4 imm p2 p.Parts c1)→Ret Tryz.prog 33 [vA (cProg p p1 c p2 c1)] imm [] (impl_LiveInstances_post  r):=by
 intro p r hM imm p1 c p2 c1 h h1;unfold M.impl_LiveInstances at hM;refine yG (fn:=Tryz.f33) (c:=(bodyOf Tryz.f33)) Tryz.func33 rfl rfl ?_;rintro B - -;refine zF<|zB<|tR (cProg p p1 c p2 c1) ?_;intro b hb;refine yA [] []<|zE<|zF<|zB<|yK 1 [0] [(6,vA (cProg p p1 c p2 c1))] ?_;obtain ⟨⟨y1,y2⟩,hy,hM⟩:=zC hM;refine yR (zHu p _ hy h h1) ?_;rintro imm0 hs2 v2 k2 le - ⟨v0,v01,rfl,rfl,h2,rfl⟩ -;refine yA [] [(3,v0),(4,.bool y2)]<|zE<|zF<|zF<|zB<|yA [] [(11,.bool (!y2))]<|zE<|yO hM ?_ ?_
 · intro hc hM;refine zF<|zB<|yA [] [(2,z0)]<|zE<|yJ<|zR ?_;obtain rfl:=zD hM;exact yQ ⟨_,_,(.tmp rfl ResV.nil),zX,⟨_,rfl,rfl,(SL.nil _)⟩⟩
 intro hc hM;refine yE<|zE<|zF<|zB<|yK 1 [] [(12,v0)] ?_;obtain ⟨t,hy1,hM⟩:=zC hM;obtain ⟨ad,ccs,rfl,hat,hrep⟩:=zJZ h2 hy1;obtain ⟨v02,v03,v04,v05,v06,rfl,h4,h5,h6,h7,h8⟩:=zGq hrep;obtain ⟨p3,c2,rfl⟩:=h4.form;obtain ⟨p4,c3,rfl⟩:=h5.form;obtain ⟨p5,c4,rfl⟩:=h6.form;obtain ⟨p6,c5,rfl⟩:=h7.form;obtain ⟨p7,c6,rfl⟩:=h8.form;obtain ⟨y3,hy2,hM⟩:=zC hM;refine yR (impl_traced_live_ok t _ hy2 h4 h5 h6 h7 h8 hat) ?_;rintro imm01 hs2 v2 k2 le1 - ⟨v07,rfl,rfl,h9⟩ -;obtain ⟨p8,c7,rfl⟩:=h9.form;obtain ⟨y4,hy3,hM⟩:=zC hM;refine yR (impl_chosen_ok y3 _ hy3 h9) ?_;rintro imm02 hs2 v2 k2 le2 - ⟨v08,rfl,rfl,h10⟩ -;obtain ⟨p9,c8,rfl⟩:=h10.form;refine yA [] [(2,vS p9 y4 c8)]<|zE<|yJ ?_;obtain rfl:=zD hM;exact yQ ⟨_,_,(.tmp rfl ResV.nil),zX,⟨_,rfl,rfl,h10⟩⟩
def spec_LiveInstances_post (r:(List Int)):KT:=fun kk imm' hs' v=>
  ∃ v0,hs'=[]∧v=tupV [v0]∧SL imm' v0 r
def M.spec_LiveInstances_l2 (y1:(List spec_l6Use)) (i:Int) (last0:Bool) (k0:Int):Option (Bool):=do
 if (decide (k0 < (y1.length:Int))) then
  let last02←(do
    if last0 then
     let x←idx y1 k0
     let x1←idx y1 i
     pure (x.write != x1.write)
    else
     pure false
      : Option Bool)
  M.spec_LiveInstances_l2 y1 i last02 (W (k0 + 1))
 else
  pure (id last0)
 partial_fixpoint
theorem spec_LiveInstances_l2_ok (y1:(List spec_l6Use)) (i:Int):∀ (last0:Bool) (k0:Int) (o:Bool),M.spec_LiveInstances_l2 y1 i last0 k0=some o→∀ {B}{imm0 imm:Imm}{Q}{live1:List Bool}{p3 c2 p4 c3 cs1},imm0.le imm→(S4 imm p3 y1 c2)→(RL imm cs1 live1)→(∀ gl a w,¬Q (.goto gl) a w)→(∀ a w,¬Q .outgrown a w)→(∀ (imm':Imm) (last01:Bool),o=last01→imm0.le imm'→T 92 B Q (.exit 2) imm' [hO Bool (vS p4 live1 c3) cs1] [(3,vS p3 y1 c2),(4,vS p4 live1 c3),(5,vI i),(6,.bool last01)])→J Tryz.prog 92 B (nav (bodyOf Tryz.f34) [1,1,1,1,0,1,0,0,1,0,0,1,0,1,0]) Q imm [hO Bool (vS p4 live1 c3) cs1] [(3,vS p3 y1 c2),(4,vS p4 live1 c3),(5,vI i),(6,.bool last0),(7,vI k0)]:=by
 refine M.spec_LiveInstances_l2.partial_correctness y1 i _ ?_;intro self ih last0 k0 o hM B imm0 imm Q live1 p3 c2 p4 c3 cs1 hle h5 h7 hg ho hx;refine xC hg ho<|zF<|zF<|zB<|yA [] [(31,.bool (decide (k0 < (y1.length:Int))))]<|zE<|yO hM ?_ ?_
 · intro hc2 hM;refine yE<|zE<|zF<|yC ?_;obtain ⟨o0,ho0,hMc⟩:=zC hM;refine yU (fun imm' hs' m'=>∃ (last02:Bool),o0=last02∧imm.le imm'∧hs'=[hO Bool (vS p4 live1 c3) cs1]∧m'=[(3,vS p3 y1 c2),(4,vS p4 live1 c3),(5,vI i),(6,.bool last02),(7,vI k0)]) ?_ ?_
   · have hle:=iS imm;refine jF (by kernel_rfl) (by kernel_rfl)<|eU 2 [] [(35,.bool last0)] ?_;cases hc3:last0 with
     | true =>
      have hM0:=zW hc3 ho0
      try rw [hc3]
      refine eU 4 [] [(36,vS p3 y1 c2),(37,vI k0)] ?_;obtain ⟨x,hy3,hM⟩:=zC hM0;refine zDb rfl rfl h5 hy3 ?_;intro ad ccs hat hrep;obtain ⟨v02,rfl,h9⟩:=spec_l6Use_open hrep;obtain ⟨p6,c5,rfl⟩:=h9.form;refine eU 6 [] [(39,.pointer (some (ad.add 1)))]<|zDa 1 hat [vI x.write] (vI x.write) rfl<|eU 9 [] [(41,vS p3 y1 c2),(42,vI i)] ?_;obtain ⟨x1,hy4,hM⟩:=zC hM;refine zDb rfl rfl h5 hy4 ?_;intro ad1 ccs1 hat1 hrep1;obtain ⟨v03,rfl,h10⟩:=spec_l6Use_open hrep1;obtain ⟨p7,c6,rfl⟩:=h10.form;exact eU 11 [] [(44,.pointer (some (ad1.add 1)))]<|zDa 1 hat1 [vI x1.write] (vI x1.write) rfl<|zCt [] [(6,.bool (x.write != x1.write))]<|yT [(3,vS p3 y1 c2),(4,vS p4 live1 c3),(5,vI i),(6,.bool (x.write != x1.write)),(7,vI k0)]<|yB ⟨_,(zD hM).symm,hle,rfl,rfl⟩
     | false =>
      have hM01:=zU hc3 ho0
      try rw [hc3]
      exact zCt [] [(6,.bool false)]<|yT [(3,vS p3 y1 c2),(4,vS p4 live1 c3),(5,vI i),(6,.bool false),(7,vI k0)]<|yB ⟨_,(zD hM01).symm,hle,rfl,rfl⟩
   rintro imm03 hs2 m2 ⟨last02,heq,le3,rfl,rfl⟩;subst o0;have h5:=h5.mono le3;have h7:=iM le3 h7;have hle:=hle.trans le3;exact zY<|zE<|zB<|yA [] [(7,vI (W (k0 + 1)))]<|xD<|vQ [(3,vS p3 y1 c2),(4,vS p4 live1 c3),(5,vI i),(6,.bool last02),(7,vI (W (k0 + 1)))]<|ih last02 (W (k0 + 1)) _ hMc hle h5 h7 hg ho hx
 intro hc2 hM;exact xA<|zS<|zS<|yT [(3,vS p3 y1 c2),(4,vS p4 live1 c3),(5,vI i),(6,.bool last0)]<|hx _ _ (zD hM).symm hle
def M.spec_LiveInstances_l3 (y1:(List spec_l6Use)) (i:Int) (live4:List Bool) (k01:Int):Option (List Bool):=do
 let t71←(do
   let x5←idx y1 i
   if (decide (k01 < (x5.reads.length:Int))) then
    let x6←idx live4 i
    pure (id x6)
   else
    pure false
     : Option Bool)
 if t71 then
  let x7←idx y1 i
  let x8←idx x7.reads k01
  let y2←M.spec_l6Source y1 i x8
  let live6←(do
    if (decide (y2 ≥ 0)) then
     let x9←idx live4 y2
     let l2←pure (live4.set y2.toNat true)
     pure (id l2)
    else
     pure (id live4)
      : Option (List Bool))
  M.spec_LiveInstances_l3 y1 i live6 (W (k01 + 1))
 else
  pure (id live4)
 partial_fixpoint
theorem spec_LiveInstances_l3_ok (y1:(List spec_l6Use)) (i:Int):∀ (live4:List Bool) (k01:Int) (o:List Bool),M.spec_LiveInstances_l3 y1 i live4 k01=some o→∀ {B}{imm0 imm:Imm}{Q p3 c2 p9 c8 cs6},imm0.le imm→(S4 imm p3 y1 c2)→(RL imm cs6 live4)→(∀ gl a w,¬Q (.goto gl) a w)→(∀ a w,¬Q .outgrown a w)→(∀ (imm':Imm) (live5:List Bool) (p10:Option Addr) (c9:Nat) (cs7:List Value),o=live5→imm0.le imm'→(RL imm' cs7 live5)→T 92 B Q (.exit 4) imm' [hO Bool (vS p10 live5 c9) cs7] [(3,vS p3 y1 c2),(4,vS p10 live5 c9),(5,vI i)])→J Tryz.prog 92 B (nav (bodyOf Tryz.f34) [1,1,1,1,0,1,0,0,1,0,0,1,1,1,1,0]) Q imm [hO Bool (vS p9 live4 c8) cs6] [(3,vS p3 y1 c2),(4,vS p9 live4 c8),(5,vI i),(8,vI k01)]:=by
 refine M.spec_LiveInstances_l3.partial_correctness y1 i _ ?_;intro self ih live4 k01 o hM B imm0 imm Q p3 c2 p9 c8 cs6 hle h5 h14 hg ho hx;refine xC hg ho<|zF<|zF ?_;obtain ⟨o03,ho03,hMc2⟩:=zC hM;refine yU (fun imm' hs' m'=>∃ (t71:Bool),o03=t71∧imm.le imm'∧hs'=[hO Bool (vS p9 live4 c8) cs6]∧m'=[(3,vS p3 y1 c2),(4,vS p9 live4 c8),(5,vI i),(8,vI k01),(71,.bool t71)]) ?_ ?_
 · have hle:=iS imm;refine zB<|yK 3 [] [(58,vI k01),(59,vS p3 y1 c2),(60,vI i)] ?_;obtain ⟨x5,hy10,hM⟩:=zC ho03;refine wJ rfl rfl h5 hy10 ?_;intro ad5 ccs5 hat5 hrep5;obtain ⟨v04,rfl,h16⟩:=spec_l6Use_open hrep5;obtain ⟨p11,c10,rfl⟩:=h16.form;refine yK 5 [] [(62,.pointer (some ad5))]<|xS 0 hat5 [vS p11 x5.reads c10] (vS p11 x5.reads c10) rfl<|yK 9 [] [(66,.bool (decide (k01 < (x5.reads.length:Int))))] ?_;cases hc5:(decide (k01 < (x5.reads.length:Int))) with
   | true =>
    have hM04:=zW hc5 hM
    try rw [hc5]
    refine yK 11 [] [(67,vS p9 live4 c8),(68,vI i)] ?_;obtain ⟨x6,hy11,hM⟩:=zC hM04;refine nK 0 rfl rfl rfl h14 hy11 ?_;intro ad6 ccs6 hat6 hcc3 hrep6;obtain rfl:=hrep6;exact zCu 0 0 hat6 hcc3 [.bool x6] (.bool x6) rfl rfl<|yA [] [(71,.bool x6)]<|yT [(3,vS p3 y1 c2),(4,vS p9 live4 c8),(5,vI i),(8,vI k01),(71,.bool x6)]<|yB ⟨_,(zD hM).symm,hle,rfl,rfl⟩
   | false =>
    have hM05:=zU hc5 hM
    try rw [hc5]
    exact yA [] [(71,.bool false)]<|yT [(3,vS p3 y1 c2),(4,vS p9 live4 c8),(5,vI i),(8,vI k01),(71,.bool false)]<|yB ⟨_,(zD hM05).symm,hle,rfl,rfl⟩
 rintro imm06 hs2 m2 ⟨t71,heq3,le6,rfl,rfl⟩;subst o03;have h5:=h5.mono le6;have h14:=iM le6 h14;have hle:=hle.trans le6;refine zE<|yO hMc2 ?_ ?_
 · intro hc6 hM;refine yE<|zE<|zF<|yC<|zF<|zB<|yK 4 [] [(74,vS p3 y1 c2),(75,vI i),(76,vS p3 y1 c2),(77,vI i)] ?_;obtain ⟨x7,hy12,hM⟩:=zC hM;refine wJ rfl rfl h5 hy12 ?_;intro ad7 ccs7 hat7 hrep7;obtain ⟨v05,rfl,h17⟩:=spec_l6Use_open hrep7;obtain ⟨p12,c11,rfl⟩:=h17.form;refine yK 6 [] [(79,.pointer (some ad7))]<|xS 0 hat7 [vS p12 x7.reads c11] (vS p12 x7.reads c11) rfl<|yK 8 [] [(81,vI k01)] ?_;obtain ⟨x8,hy13,hM⟩:=zC hM;refine wJ rfl rfl h17 hy13 ?_;intro ad8 ccs8 hat8 hrep8;obtain rfl:=hrep8;refine xS 0 hat8 [vI x8] (vI x8) rfl ?_;obtain ⟨y2,hy14,hM⟩:=zC hM;refine yR (spec_l6Source_ok y1 i x8 _ hy14 h5) ?_;rintro imm07 hs2 v2 k2 le7 - ⟨v06,rfl,rfl,rfl⟩ -;have h5:=h5.mono le7;have h14:=iM le7 h14;have hle:=hle.trans le7;refine yA [] [(9,vI y2)]<|zE<|zF<|zB<|yA [] [(86,.bool (decide (y2 ≥ 0)))]<|zE ?_;obtain ⟨o04,ho04,hMc3⟩:=zC hM;refine yU (fun imm' hs' m'=>∃ (live6:List Bool) (p13:Option Addr) (c12:Nat) (cs8:List Value),o04=live6∧imm07.le imm'∧(RL imm' cs8 live6)∧hs'=[hO Bool (vS p13 live6 c12) cs8]∧m'=[(3,vS p3 y1 c2),(4,vS p13 live6 c12),(5,vI i),(8,vI k01)]) ?_ ?_
   · have hle:=iS imm07;refine yO ho04 ?_ ?_
     · intro hc7 hM;refine zB<|yK 2 [] [(87,vS p9 live4 c8),(88,vI y2)] ?_;obtain ⟨x9,hy15,hM⟩:=zC hM;refine nK 0 rfl rfl rfl h14 hy15 ?_;intro ad9 ccs9 hat9 hcc4 hrep9;obtain rfl:=hrep9;obtain ⟨l2,hy16,hM⟩:=zC hM;refine qX (c:=[.bool true]) (x':=true) 0 0 rfl rfl rfl hat9 rfl rfl hcc4 (by kernel_rfl) (by kernel_rfl) (by kernel_rfl) h14 hy15 (by kernel_rfl) rfl ?_;rw [show live4.set y2.toNat true=l2 from zD hy16];intro cs9 h20 hl03;exact kJ (m':=[(3,vS p3 y1 c2),(4,vS p9 live4 c8),(5,vI i),(8,vI k01),(87,vS p9 live4 c8),(88,vI y2)]) ⟨rfl,rfl,rfl,rfl,rfl,rfl,trivial⟩<|zCM (hs':=[hO Bool (vS p9 l2 c8) cs9]) (m':=[(3,vS p3 y1 c2),(4,vS p9 l2 c8),(5,vI i),(8,vI k01),(87,vS p9 l2 c8),(88,vI y2)]) (by first | rfl | simp only [vS,hl03,List.nil_append,List.cons_append,List.set_cons_zero,List.set_cons_succ,List.eraseIdx_cons_zero,List.eraseIdx_cons_succ]) (by first | rfl | simp only [vS,hl03])<|yN rfl<|yT [(3,vS p3 y1 c2),(4,vS p9 l2 c8),(5,vI i),(8,vI k01)]<|yB ⟨_,_,_,_,(zD hM).symm,hle,h20,rfl,rfl⟩
     intro hc7 hM;exact yE<|yT [(3,vS p3 y1 c2),(4,vS p9 live4 c8),(5,vI i),(8,vI k01)]<|yB ⟨_,_,_,_,(zD hM).symm,hle,h14,rfl,rfl⟩
   rintro imm08 hs2 m2 ⟨live6,p13,c12,cs8,heq4,le8,h19,rfl,rfl⟩;subst o04;have h5:=h5.mono le8;have hle:=hle.trans le8;exact zY<|zE<|zB<|yA [] [(8,vI (W (k01 + 1)))]<|xD<|vQ [(3,vS p3 y1 c2),(4,vS p13 live6 c12),(5,vI i),(8,vI (W (k01 + 1)))]<|ih live6 (W (k01 + 1)) _ hMc3 hle h5 h19 hg ho hx
 intro hc6 hM;exact xA<|zS<|zS<|yT [(3,vS p3 y1 c2),(4,vS p9 live4 c8),(5,vI i)]<|hx _ _ _ _ _ (zD hM).symm hle h14
def M.spec_LiveInstances_l1 (y1:(List spec_l6Use)) (live1:List Bool) (i:Int):Option (List Bool):=do
 if (decide (i ≥ 0)) then
  let last01←M.spec_LiveInstances_l2 y1 i true (W (i + 1))
  let live3←(do
    let x2←idx live1 i
    if x2 then
     let x3←idx live1 i
     let l←pure (live1.set i.toNat true)
     pure (id l)
    else
     let x4←idx live1 i
     let l1←pure (live1.set i.toNat last01)
     pure (id l1)
      : Option (List Bool))
  let live5←M.spec_LiveInstances_l3 y1 i live3 0
  M.spec_LiveInstances_l1 y1 live5 (W (i - 1))
 else
  pure (id live1)
 partial_fixpoint
theorem spec_LiveInstances_l1_ok (y1:(List spec_l6Use)):∀ (live1:List Bool) (i:Int) (o:List Bool),M.spec_LiveInstances_l1 y1 live1 i=some o→∀ {B}{imm0 imm:Imm}{Q p3 c2 p4 c3 cs1},imm0.le imm→(S4 imm p3 y1 c2)→(RL imm cs1 live1)→(∀ gl a w,¬Q (.goto gl) a w)→(∀ a w,¬Q .outgrown a w)→(∀ (imm':Imm) (live2:List Bool) (p5:Option Addr) (c4:Nat) (cs2:List Value),o=live2→imm0.le imm'→(RL imm' cs2 live2)→T 92 B Q (.exit 0) imm' [hO Bool (vS p5 live2 c4) cs2] [(4,vS p5 live2 c4)])→J Tryz.prog 92 B (nav (bodyOf Tryz.f34) [1,1,1,1,0,1,0]) Q imm [hO Bool (vS p4 live1 c3) cs1] [(3,vS p3 y1 c2),(4,vS p4 live1 c3),(5,vI i)]:=by
 refine M.spec_LiveInstances_l1.partial_correctness y1 _ ?_;intro self ih live1 i o hM B imm0 imm Q p3 c2 p4 c3 cs1 hle h5 h7 hg ho hx;refine xC hg ho<|zF<|zF<|zB<|yA [] [(23,.bool (decide (i ≥ 0)))]<|zE<|yO hM ?_ ?_
 · intro hc1 hM;refine yE<|zE<|zF<|yC<|zF<|zB<|yA [] [(6,.bool true)]<|zE<|zF<|zF<|zB<|yA [] [(7,vI (W (i + 1)))]<|zE<|yC<|vQ [(3,vS p3 y1 c2),(4,vS p4 live1 c3),(5,vI i),(6,.bool true),(7,vI (W (i + 1)))] ?_;obtain ⟨o01,ho01,hMl⟩:=zC hM;refine spec_LiveInstances_l2_ok y1 i true (W (i + 1)) o01 ho01 iR h5 h7 (fun _ _ _ h=>hg _ _ _ h) (fun _ _ h=>ho _ _ h) ?_;intro imm04 last01 heq1 le4;subst o01;have h5:=h5.mono le4;have h7:=iM le4 h7;have hle:=hle.trans le4;refine yD<|zE<|zF ?_;obtain ⟨o02,ho02,hMc1⟩:=zC hMl;refine yU (fun imm' hs' m'=>∃ (live3:List Bool) (p8:Option Addr) (c7:Nat) (cs3:List Value),o02=live3∧imm04.le imm'∧(RL imm' cs3 live3)∧hs'=[hO Bool (vS p8 live3 c7) cs3]∧m'=[(3,vS p3 y1 c2),(4,vS p8 live3 c7),(5,vI i)]) ?_ ?_
   · have hle:=iS imm04;refine zB<|yK 4 [] [(48,vS p4 live1 c3),(49,vI i),(50,vS p4 live1 c3),(51,vI i)] ?_;obtain ⟨x2,hy5,hM⟩:=zC ho02;refine nK 0 rfl rfl rfl h7 hy5 ?_;intro ad2 ccs2 hat2 hcc hrep2;obtain rfl:=hrep2;refine zCu 0 0 hat2 hcc [.bool x2] (.bool x2) rfl rfl<|yK 7 [] [(54,.bool x2)] ?_;cases hc4:x2 with
     | true =>
      have hM02:=zW hc4 hM
      try rw [hc4]
      refine yK 9 [] [(56,.bool true)] ?_;obtain ⟨x3,hy6,hM⟩:=zC hM02;refine nK 0 rfl rfl rfl h7 hy6 ?_;intro ad3 ccs3 hat3 hcc1 hrep3;obtain rfl:=hrep3;obtain ⟨l,hy7,hM⟩:=zC hM;refine qX (c:=[.bool true]) (x':=true) 0 0 rfl rfl rfl hat3 rfl rfl hcc1 (by kernel_rfl) (by kernel_rfl) (by kernel_rfl) h7 hy6 (by kernel_rfl) rfl ?_;rw [show live1.set i.toNat true=l from zD hy7];intro cs4 h12 hl01;exact kJ (m':=[(3,vS p3 y1 c2),(4,vS p4 live1 c3),(5,vI i),(48,vS p4 live1 c3),(49,vI i),(56,.bool true)]) ⟨rfl,rfl,rfl,rfl,rfl,rfl,trivial⟩<|zCM (hs':=[hO Bool (vS p4 l c3) cs4]) (m':=[(3,vS p3 y1 c2),(4,vS p4 l c3),(5,vI i),(48,vS p4 l c3),(49,vI i),(56,.bool true)]) (by first | rfl | simp only [vS,hl01,List.nil_append,List.cons_append,List.set_cons_zero,List.set_cons_succ,List.eraseIdx_cons_zero,List.eraseIdx_cons_succ]) (by first | rfl | simp only [vS,hl01])<|yN rfl<|yT [(3,vS p3 y1 c2),(4,vS p4 l c3),(5,vI i)]<|yB ⟨_,_,_,_,(zD hM).symm,hle,h12,rfl,rfl⟩
     | false =>
      have hM03:=zU hc4 hM
      try rw [hc4]
      refine yK 9 [] [(56,.bool last01)] ?_;obtain ⟨x4,hy8,hM⟩:=zC hM03;refine nK 0 rfl rfl rfl h7 hy8 ?_;intro ad4 ccs4 hat4 hcc2 hrep4;obtain rfl:=hrep4;obtain ⟨l1,hy9,hM⟩:=zC hM;refine qX (c:=[.bool last01]) (x':=last01) 0 0 rfl rfl rfl hat4 rfl rfl hcc2 (by kernel_rfl) (by kernel_rfl) (by kernel_rfl) h7 hy8 (by kernel_rfl) rfl ?_;rw [show live1.set i.toNat last01=l1 from zD hy9];intro cs5 h13 hl02;exact kJ (m':=[(3,vS p3 y1 c2),(4,vS p4 live1 c3),(5,vI i),(48,vS p4 live1 c3),(49,vI i),(56,.bool last01)]) ⟨rfl,rfl,rfl,rfl,rfl,rfl,trivial⟩<|zCM (hs':=[hO Bool (vS p4 l1 c3) cs5]) (m':=[(3,vS p3 y1 c2),(4,vS p4 l1 c3),(5,vI i),(48,vS p4 l1 c3),(49,vI i),(56,.bool last01)]) (by first | rfl | simp only [vS,hl02,List.nil_append,List.cons_append,List.set_cons_zero,List.set_cons_succ,List.eraseIdx_cons_zero,List.eraseIdx_cons_succ]) (by first | rfl | simp only [vS,hl02])<|yN rfl<|yT [(3,vS p3 y1 c2),(4,vS p4 l1 c3),(5,vI i)]<|yB ⟨_,_,_,_,(zD hM).symm,hle,h13,rfl,rfl⟩
   rintro imm05 hs2 m2 ⟨live3,p8,c7,cs3,heq2,le5,h11,rfl,rfl⟩;subst o02;have h5:=h5.mono le5;have hle:=hle.trans le5;refine zE<|zF<|zB<|yA [] [(8,vI 0)]<|zE<|yC<|vQ [(3,vS p3 y1 c2),(4,vS p8 live3 c7),(5,vI i),(8,vI 0)] ?_;obtain ⟨o05,ho05,hMl1⟩:=zC hMc1;refine spec_LiveInstances_l3_ok y1 i live3 0 o05 ho05 iR h5 h11 (fun _ _ _ h=>hg _ _ _ h) (fun _ _ h=>ho _ _ h) ?_;intro imm09 live5 p10 c9 cs7 heq5 le9 h15;subst o05;have h5:=h5.mono le9;have hle:=hle.trans le9;exact yD<|zY<|zE<|zB<|yA [] [(5,vI (W (i - 1)))]<|xD<|vQ [(3,vS p3 y1 c2),(4,vS p10 live5 c9),(5,vI (W (i - 1)))]<|ih live5 (W (i - 1)) _ hMl1 hle h5 h15 hg ho hx
 intro hc1 hM;exact xA<|zS<|zS<|yT [(4,vS p4 live1 c3)]<|hx _ _ _ _ _ (zD hM).symm hle h7
def M.spec_LiveInstances (p:zV):Option ((List Int)):=do
 let y←tK p
 if (!y) then
  pure ([]:List Int)
 else
  let y1←M.spec_l6Uses p
  let live←mkrow 1 (y1.length:Int) (false:Bool)
  let live2←M.spec_LiveInstances_l1 y1 live (W ((y1.length:Int) - 1))
  let y3←M.spec_l5Flagged live2
  pure (id y3)
theorem spec_LiveInstances_ok:∀ (p:zV) r,M.spec_LiveInstances p=some r→∀ {imm:Imm}{p1 c p2 c1},(S4 imm p1 p.Arrays c)→(S4 imm p2 p.Parts c1)→Ret Tryz.prog 34 [vA (cProg p p1 c p2 c1)] imm [] (spec_LiveInstances_post  r):=by
 intro p r hM imm p1 c p2 c1 h h1;unfold M.spec_LiveInstances at hM;refine yG (fn:=Tryz.f34) (c:=(bodyOf Tryz.f34)) Tryz.func34 rfl rfl ?_;rintro B - -;refine zF<|zB<|tR (cProg p p1 c p2 c1) ?_;intro b hb;refine yA [] []<|zE<|zF<|zF<|zB<|yK 1 [0] [(10,vA (cProg p p1 c p2 c1))] ?_;obtain ⟨y,hy,hM⟩:=zC hM;refine yR (dT p _ hy h h1) ?_;rintro imm0 hs2 v2 k2 le - ⟨v0,rfl,rfl,rfl⟩ -;have h:=h.mono le;have h1:=h1.mono le;refine yA [] [(12,.bool (!y))]<|zE<|yO hM ?_ ?_
 · intro hc hM;refine zF<|zB<|xQ [] Int ?_;intro b1 hb1;have h3:RL imm0 [] ([]:List Int):=rfl;refine yA [] [(2,vS (some ⟨b1,0,none⟩) ([]:List Int) 0)]<|zE<|yJ<|zR<|xI 0 rfl ?_;intro imm01 le1 hl0;have h4:=SL.of_frozen hl0 le1 h3;obtain rfl:=zD hM;exact yQ ⟨_,_,(.tmp rfl ResV.nil),zX,⟨_,rfl,rfl,h4⟩⟩
 intro hc hM;refine yE<|zE<|zF<|zB<|yK 1 [0] [(14,vA (cProg p p1 c p2 c1))] ?_;obtain ⟨y1,hy1,hM⟩:=zC hM;refine yR (spec_l6Uses_ok p _ hy1 h h1) ?_;rintro imm02 hs2 v2 k2 le2 - ⟨v01,rfl,rfl,h5⟩ -;have h:=h.mono le2;obtain ⟨p3,c2,rfl⟩:=h5.form;refine yA [] [(3,vS p3 y1 c2)]<|zE<|zF<|zB<|yK 2 [] [(17,vI (y1.length:Int))] ?_;obtain ⟨live,hy2,hM⟩:=zC hM;refine R_mk 1 [.bool false] rfl hy2 rfl ?_;intro b2 cs h6;refine yA [] [(4,vS (some ⟨b2,0,none⟩) live live.length)]<|zE<|zF<|zF<|zB<|yA [] [(5,vI (W ((y1.length:Int) - 1)))]<|zE<|yC<|qA (zK [0] (hs':=[hO Bool (vS (some ⟨b2,0,none⟩) live live.length) cs]) rfl (by decide))<|vQ [(3,vS p3 y1 c2),(4,vS (some ⟨b2,0,none⟩) live live.length),(5,vI (W ((y1.length:Int) - 1)))] ?_;obtain ⟨o06,ho06,hMl2⟩:=zC hM;refine spec_LiveInstances_l1_ok y1 live (W ((y1.length:Int) - 1)) o06 ho06 iR h5 h6 (fun _ _ _ h=>h) (fun _ _ h=>h) ?_;intro imm010 live2 p5 c4 cs2 heq6 le10 h8;subst o06;refine yD<|zE<|zF<|zB<|yK 1 [] [(90,vS p5 live2 c4)]<|yL 0 rfl ?_;intro imm011 le11 hl04;have h21:=SL.of_frozen hl04 le11 h8;obtain ⟨y3,hy17,hM⟩:=zC hMl2;refine yR (spec_l5Flagged_ok live2 _ hy17 h21) ?_;rintro imm012 hs2 v2 k2 le12 - ⟨v07,rfl,rfl,h22⟩ -;obtain ⟨p14,c13,rfl⟩:=h22.form;refine yA [] [(2,vS p14 y3 c13)]<|zE<|yJ ?_;obtain rfl:=zD hM;exact yQ ⟨_,_,(.tmp rfl ResV.nil),zX,⟨_,rfl,rfl,h22⟩⟩
def laws_FnLiveSources_post (r:Bool):KT:=fun kk imm' hs' v=>
  ∃ v0,hs'=[]∧v=tupV [v0]∧v0=.bool r
def M.laws_FnLiveSources_l2 (y1:(List Int)) (y5:(List Int)) (k0:Int):Option (Out Unit (Bool)):=do
 if (decide (k0 < (y5.length:Int))) then
  let t57←(do
    let x1←idx y5 k0
    if (decide (x1 ≥ 0)) then
     let x2←idx y5 k0
     let y7←M.laws_lnHas y1 x2
     pure (!y7)
    else
     pure false
      : Option Bool)
  if t57 then
   pure (.ret false)
  else
   M.laws_FnLiveSources_l2 y1 y5 (W (k0 + 1))
 else
  pure (.done ())
 partial_fixpoint
theorem laws_FnLiveSources_l2_ok (y1:(List Int)) (y5:(List Int)):∀ (k0:Int) (o:Out Unit (Bool)),M.laws_FnLiveSources_l2 y1 y5 k0=some o→∀ {B}{imm0 imm:Imm}{Q}{y:zV}{i:Int}{p1 c1 p2 c2}{b:Nat}{p3 c3 p5111 c5111},imm0.le imm→(S4 imm p3 y1 c3)→(S4 imm p5111 y5 c5111)→(S4 imm p1 y.Arrays c1)→(S4 imm p2 y.Parts c2)→(∀ gl a w,¬Q (.goto gl) a w)→(∀ a w,¬Q .outgrown a w)→(∀ (imm':Imm) ,o=(.done ())→imm0.le imm'→T 58 B Q (.exit 2) imm' [hB b (cProg y p1 c1 p2 c2)] [(3,vP b 0),(4,vS p3 y1 c3),(5,vI i)])→(∀ r imm' hs' m',o=(.ret r)→imm0.le imm'→RS Tryz.prog Tryz.f9 B (laws_FnLiveSources_post  r) imm' hs' m'→T 58 B Q .ret imm' hs' m')→J Tryz.prog 58 B (nav (bodyOf Tryz.f9) [1,1,1,1,1,0,1,0,0,1,0,0,1,1,1,0]) Q imm [hB b (cProg y p1 c1 p2 c2)] [(3,vP b 0),(4,vS p3 y1 c3),(5,vI i),(6,vS p5111 y5 c5111),(8,vI k0)]:=by
 refine M.laws_FnLiveSources_l2.partial_correctness y1 y5 _ ?_;intro self ih k0 o hM B imm0 imm Q y i p1 c1 p2 c2 b p3 c3 p5111 c5111 hle h4 h7111 h2 h3 hg ho hx hr;refine xC hg ho<|zF<|zF<|zB<|yA [] [(41,.bool (decide (k0 < (y5.length:Int))))]<|zE<|yO hM ?_ ?_
 · intro hc4 hM;refine yE<|zE<|zF<|yC<|zF ?_;obtain ⟨o0,ho0,hMc⟩:=zC hM;refine yU (fun imm' hs' m'=>∃ (t57:Bool),o0=t57∧imm.le imm'∧hs'=[hB b (cProg y p1 c1 p2 c2)]∧m'=[(3,vP b 0),(4,vS p3 y1 c3),(5,vI i),(6,vS p5111 y5 c5111),(8,vI k0),(57,.bool t57)]) ?_ ?_
   · have hle:=iS imm;refine zB<|yK 2 [] [(44,vS p5111 y5 c5111),(45,vI k0)] ?_;obtain ⟨x1,hy6,hM⟩:=zC ho0;refine wJ rfl rfl h7111 hy6 ?_;intro ad1 ccs1 hat1 hrep1;obtain rfl:=hrep1;refine xS 0 hat1 [vI x1] (vI x1) rfl<|yK 6 [] [(49,.bool (decide (x1 ≥ 0)))] ?_;cases hc5:(decide (x1 ≥ 0)) with
     | true =>
      have hM0:=zW hc5 hM
      try rw [hc5]
      refine yK 9 [] [(50,vS p3 y1 c3),(51,vS p5111 y5 c5111),(52,vI k0)] ?_;obtain ⟨x2,hy7,hM⟩:=zC hM0;refine wJ rfl rfl h7111 hy7 ?_;intro ad2 ccs2 hat2 hrep2;obtain rfl:=hrep2;refine xS 0 hat2 [vI x2] (vI x2) rfl ?_;obtain ⟨y7,hy8,hM⟩:=zC hM;refine yR (laws_lnHas_ok y1 x2 _ hy8 h4) ?_;rintro imm07 hs2 v2 k2 le6 - ⟨v08,rfl,rfl,rfl⟩ -;have hle:=hle.trans le6;exact yA [] [(57,.bool (!y7))]<|yT [(3,vP b 0),(4,vS p3 y1 c3),(5,vI i),(6,vS p5111 y5 c5111),(8,vI k0),(57,.bool (!y7))]<|yB ⟨_,(zD hM).symm,hle,rfl,rfl⟩
     | false =>
      have hM01:=zU hc5 hM
      try rw [hc5]
      exact yA [] [(57,.bool false)]<|yT [(3,vP b 0),(4,vS p3 y1 c3),(5,vI i),(6,vS p5111 y5 c5111),(8,vI k0),(57,.bool false)]<|yB ⟨_,(zD hM01).symm,hle,rfl,rfl⟩
   rintro imm06 hs2 m2 ⟨t57,heq,le7,rfl,rfl⟩;subst o0;have h4:=h4.mono le7;have h7111:=h7111.mono le7;have h2:=h2.mono le7;have h3:=h3.mono le7;have hle:=hle.trans le7;refine zE<|yO hMc ?_ ?_
   · intro hc6 hM;exact zF<|zB<|yA [] [(2,.bool false)]<|zE<|yJ<|yF<|zR<|zR<|hr _ _ _ _ (zD hM).symm hle ⟨_,_,(.tmp rfl ResV.nil),zX,⟨_,rfl,rfl,rfl⟩⟩
   intro hc6 hM;exact yE<|zY<|zE<|zB<|yA [] [(8,vI (W (k0 + 1)))]<|xD<|vQ [(3,vP b 0),(4,vS p3 y1 c3),(5,vI i),(6,vS p5111 y5 c5111),(8,vI (W (k0 + 1)))]<|ih (W (k0 + 1)) _ hM hle h4 h7111 h2 h3 hg ho hx hr
 intro hc4 hM;exact xA<|zS<|zS<|yT [(3,vP b 0),(4,vS p3 y1 c3),(5,vI i)]<|hx _  (zD hM).symm hle
def M.laws_FnLiveSources_l1 (y:zV) (y1:(List Int)) (i:Int):Option (Out Unit (Bool)):=do
 if (decide (i < (y1.length:Int))) then
  let x←idx y1 i
  let (y5,y6)←M.impl_FlowSources y x
  if (!y6) then
   pure (.ret false)
  else
   match←M.laws_FnLiveSources_l2 y1 y5 0 with
   | .ret r0=>pure (.ret r0)
   | .done _ =>
    M.laws_FnLiveSources_l1 y y1 (W (i + 1))
 else
  pure (.done ())
 partial_fixpoint
theorem laws_FnLiveSources_l1_ok (y:zV) (y1:(List Int)):∀ (i:Int) (o:Out Unit (Bool)),M.laws_FnLiveSources_l1 y y1 i=some o→∀ {B}{imm0 imm:Imm}{Q p1 c1 p2 c2}{b:Nat}{p3 c3},imm0.le imm→(S4 imm p3 y1 c3)→(S4 imm p1 y.Arrays c1)→(S4 imm p2 y.Parts c2)→(∀ gl a w,¬Q (.goto gl) a w)→(∀ a w,¬Q .outgrown a w)→(∀ (imm':Imm) ,o=(.done ())→imm0.le imm'→T 58 B Q (.exit 0) imm' [] [])→(∀ r imm' hs' m',o=(.ret r)→imm0.le imm'→RS Tryz.prog Tryz.f9 B (laws_FnLiveSources_post  r) imm' hs' m'→T 58 B Q .ret imm' hs' m')→J Tryz.prog 58 B (nav (bodyOf Tryz.f9) [1,1,1,1,1,0,1,0]) Q imm [hB b (cProg y p1 c1 p2 c2)] [(3,vP b 0),(4,vS p3 y1 c3),(5,vI i)]:=by
 refine M.laws_FnLiveSources_l1.partial_correctness y y1 _ ?_;intro self ih i o hM B imm0 imm Q p1 c1 p2 c2 b p3 c3 hle h4 h2 h3 hg ho hx hr;refine xC hg ho<|zF<|zF<|zB<|yA [] [(24,.bool (decide (i < (y1.length:Int))))]<|zE<|yO hM ?_ ?_
 · intro hc2 hM;refine yE<|zE<|zF<|yC<|zF ?_;obtain ⟨x,hy4,hM⟩:=zC hM;obtain ⟨⟨y5,y6⟩,hy5,hM⟩:=zC hM;refine uA [.p (vA (cProg y p1 c1 p2 c2)) [0],.p (vS p3 y1 c3) [],.p (vI i) [],.x (fun imm' v hx=>∃ ad,v=.pointer (some ad)∧hx=[]∧(At imm' ad [vI x])),.q (vI x),.x (fun imm' v hx=>∃ p5 c5,v=.tuple ⟨[vS p5 y5 c5,.bool y6]⟩∧hx=[]∧(S4 imm' p5 y5 c5)),.x (fun imm' v hx=>∃ p51 c51,v=.tuple ⟨[vS p51 y5 c51,.bool y6]⟩∧hx=[]∧(S4 imm' p51 y5 c51)),.x (fun imm' v hx=>∃ p511 c511,v=vS p511 y5 c511∧hx=[]∧(S4 imm' p511 y5 c511)),.q (.bool y6),.x (fun imm' v hx=>∃ p5111 c5111,v=vS p5111 y5 c5111∧hx=[]∧(S4 imm' p5111 y5 c5111))] [[],[],[],[(1,false),(2,false)],[(3,false)],[(0,false),(4,false)],[(5,false)],[(6,false)],[(6,false)],[(7,false)]] [hB b (cProg y p1 c1 p2 c2)] [] [(8,false),(9,false)] (zK [0] rfl (by decide)) ?_ ?_
   · refine Op<|Op<|Op<|Ox ?_<|Oq ?_<|Ox ?_<|Ox ?_<|Ox ?_<|Oq ?_<|Ox ?_<|On
     · intro imm1 hf le1;refine zG ?_;rintro _ _ ⟨rfl,rfl⟩;refine zG ?_;rintro _ _ ⟨rfl,rfl⟩;refine zN<|yH [(29,vS p3 y1 c3),(30,vI i)] ?_;have hle:=iS imm1;have h4:=h4.mono le1;refine wJ rfl rfl h4 hy4 ?_;intro ad ccs hat hrep;obtain rfl:=hrep;exact zZ (hx:=[]) rfl hle rfl (zM rfl) ⟨_,rfl,rfl,hat⟩
     · intro imm1 hf le1;refine zG ?_;rintro _ _ ⟨ad,rfl,rfl,hat⟩;refine zN<|yH [(31,.pointer (some ad))] ?_;have hle:=iS imm1;exact xS 0 hat [vI x] (vI x) rfl<|zZ (hx:=[]) rfl hle rfl (zM rfl) ⟨rfl,rfl⟩
     · intro imm1 hf le1;refine zG ?_;rintro _ _ ⟨rfl,rfl⟩;refine zG ?_;rintro _ _ ⟨rfl,rfl⟩;refine zN<|yH [(28,vA (cProg y p1 c1 p2 c2)),(32,vI x)] ?_;have hle:=iS imm1;have h2:=h2.mono le1;have h3:=h3.mono le1;refine yR (impl_FlowSources_ok y x _ hy5 h2 h3) ?_;rintro imm04 hs2 v2 k2 le4 - ⟨v06,v07,rfl,rfl,h7,rfl⟩ -;have hle:=hle.trans le4;obtain ⟨p5,c5,rfl⟩:=h7.form;exact zZ (hx:=[]) rfl hle rfl (zM rfl) ⟨_,_,rfl,rfl,h7⟩
     · intro imm1 hf le1;refine zG ?_;rintro _ _ ⟨p5,c5,rfl,rfl,h7⟩;refine zN<|yH [(33,.tuple ⟨[vS p5 y5 c5,.bool y6]⟩)] ?_;have hle:=iS imm1;exact qV 7 [(27,.tuple ⟨[vS p5 y5 c5,.bool y6]⟩)]<|zZ (hx:=[]) rfl hle rfl (zM rfl) ⟨_,_,rfl,rfl,h7⟩
     · intro imm1 hf le1;refine zG ?_;rintro _ _ ⟨p51,c51,rfl,rfl,h71⟩;refine zN<|yH [(27,.tuple ⟨[vS p51 y5 c51,.bool y6]⟩)] ?_;have hle:=iS imm1;exact qV 8 [(34,vS p51 y5 c51)]<|zZ (hx:=[]) rfl hle rfl (zM rfl) ⟨_,_,rfl,rfl,h71⟩
     · intro imm1 hf le1;refine zG ?_;rintro _ _ ⟨p51,c51,rfl,rfl,h71⟩;refine zN<|yH [(27,.tuple ⟨[vS p51 y5 c51,.bool y6]⟩)] ?_;have hle:=iS imm1;exact qV 9 [(35,.bool y6)]<|zZ (hx:=[]) rfl hle rfl (zM rfl) ⟨rfl,rfl⟩
     intro imm1 hf le1;refine zG ?_;rintro _ _ ⟨p511,c511,rfl,rfl,h711⟩;refine zN<|yH [(34,vS p511 y5 c511)] ?_;have hle:=iS imm1;exact qV 10 [(6,vS p511 y5 c511)]<|zZ (hx:=[]) rfl hle rfl (zM rfl) ⟨_,_,rfl,rfl,h711⟩
   intro imm05 le5;refine zG ?_;rintro _ _ ⟨rfl,rfl⟩;refine zG ?_;rintro _ _ ⟨p5111,c5111,rfl,rfl,h7111⟩;refine zN<|yH [(3,vP b 0),(4,vS p3 y1 c3),(5,vI i),(6,vS p5111 y5 c5111),(35,.bool y6)] ?_;have h4:=h4.mono le5;have h2:=h2.mono le5;have h3:=h3.mono le5;have hle:=hle.trans le5;refine yA [] [(7,.bool y6)]<|zE<|zF<|zF<|zB<|yA [] [(37,.bool (!y6))]<|zE<|yO hM ?_ ?_
   · intro hc3 hM;exact zF<|zB<|yA [] [(2,.bool false)]<|zE<|yJ<|zR<|yF<|zR<|zR<|hr _ _ _ _ (zD hM).symm hle ⟨_,_,(.tmp rfl ResV.nil),zX,⟨_,rfl,rfl,rfl⟩⟩
   intro hc3 hM;refine yE<|zE<|zF<|zB<|yA [] [(8,vI 0)]<|zE<|yC<|vQ [(3,vP b 0),(4,vS p3 y1 c3),(5,vI i),(6,vS p5111 y5 c5111),(8,vI 0)] ?_;obtain ⟨o01,ho01,hMl⟩:=zC hM;refine laws_FnLiveSources_l2_ok y1 y5 0 o01 ho01 iR h4 h7111 h2 h3 (fun _ _ _ h=>hg _ _ _ h) (fun _ _ h=>ho _ _ h) ?_ ?_
   · intro imm08  heq1 le8;subst o01;have h4:=h4.mono le8;have h2:=h2.mono le8;have h3:=h3.mono le8;have hle:=hle.trans le8;exact yD<|zY<|zE<|zB<|yA [] [(5,vI (W (i + 1)))]<|xD<|vQ [(3,vP b 0),(4,vS p3 y1 c3),(5,vI (W (i + 1)))]<|ih (W (i + 1)) _ hMl hle h4 h2 h3 hg ho hx hr
   intro r0 imm9 hs9 m9 heq9 le9 hrs9;subst heq9;exact yF<|yF<|zR<|zR<|hr _ _ _ _ (zD hMl).symm (hle.trans le9) hrs9
 intro hc2 hM;exact xA<|zS<|zS<|wD (zK [] rfl (by decide))<|yT []<|hx _  (zD hM).symm hle
def M.laws_FnLiveSources (code:(List UInt8)):Option (Bool):=do
 if (decide ((code.length:Int) > 1048576)) then
  pure true
 else
  let y←M.spec_DrawLiveInstances code
  let y1←M.impl_LiveInstances y
  let y2←M.spec_LiveInstances y
  let y3←M.laws_lnInts y1 y2
  if (!y3) then
   pure false
  else
   match←M.laws_FnLiveSources_l1 y y1 0 with
   | .ret r0=>pure r0
   | .done _ =>
    pure true
theorem laws_FnLiveSources_ok:∀ (code:(List UInt8)) r,M.laws_FnLiveSources code=some r→∀ {imm:Imm}{p c},(S4 imm p code c)→Ret Tryz.prog 9 [vS p code c] imm [] (laws_FnLiveSources_post  r):=by
 intro code r hM imm p c h;unfold M.laws_FnLiveSources at hM;refine yG (fn:=Tryz.f9) (c:=(bodyOf Tryz.f9)) Tryz.func9 rfl rfl ?_;rintro B - -;refine zF<|zB<|yA [] []<|zE<|zF<|zF<|zB<|yA [] [(11,.bool (decide ((code.length:Int) > 1048576)))]<|zE<|yO hM ?_ ?_
 · intro hc hM;refine zF<|zB<|yA [] [(2,.bool true)]<|zE<|yJ<|zR ?_;obtain rfl:=zD hM;exact yQ ⟨_,_,(.tmp rfl ResV.nil),zX,⟨_,rfl,rfl,rfl⟩⟩
 intro hc hM;refine yE<|zE<|zF<|zB<|yK 1 [] [(12,vS p code c)] ?_;obtain ⟨y,hy,hM⟩:=zC hM;refine yR (spec_DrawLiveInstances_ok code _ hy h) ?_;rintro imm0 hs2 v2 k2 le - ⟨v0,rfl,rfl,⟨cs,rfl,h1⟩⟩ -;obtain ⟨v01,v02,rfl,h2,h3⟩:=zG6 h1;obtain ⟨p1,c1,rfl⟩:=h2.form;obtain ⟨p2,c2,rfl⟩:=h3.form;refine uD zTwo ?_;intro b hb;refine xJ 0 (cProg y p1 c1 p2 c2) [hB b (cProg y p1 c1 p2 c2)] rfl rfl rfl rfl<|yN rfl<|zE<|zF<|zB<|yK 1 [0] [(14,vA (cProg y p1 c1 p2 c2))] ?_;obtain ⟨y1,hy1,hM⟩:=zC hM;refine yR (impl_LiveInstances_ok y _ hy1 h2 h3) ?_;rintro imm01 hs2 v2 k2 le1 - ⟨v03,rfl,rfl,h4⟩ -;have h2:=h2.mono le1;have h3:=h3.mono le1;obtain ⟨p3,c3,rfl⟩:=h4.form;refine yA [] [(4,vS p3 y1 c3)]<|zE<|zF<|zF<|zB<|yK 2 [0] [(16,vS p3 y1 c3),(17,vA (cProg y p1 c1 p2 c2))] ?_;obtain ⟨y2,hy2,hM⟩:=zC hM;refine yR (spec_LiveInstances_ok y _ hy2 h2 h3) ?_;rintro imm02 hs2 v2 k2 le2 - ⟨v04,rfl,rfl,h5⟩ -;have h4:=h4.mono le2;have h2:=h2.mono le2;have h3:=h3.mono le2;obtain ⟨p4,c4,rfl⟩:=h5.form;obtain ⟨y3,hy3,hM⟩:=zC hM;refine yR (laws_lnInts_ok y1 y2 _ hy3 h4 h5) ?_;rintro imm03 hs2 v2 k2 le3 - ⟨v05,rfl,rfl,rfl⟩ -;have h4:=h4.mono le3;have h2:=h2.mono le3;have h3:=h3.mono le3;refine yA [] [(20,.bool (!y3))]<|zE<|yO hM ?_ ?_
 · intro hc1 hM;refine zF<|zB<|yA [] [(2,.bool false)]<|zE<|yJ<|zR ?_;obtain rfl:=zD hM;exact yQ ⟨_,_,(.tmp rfl ResV.nil),zX,⟨_,rfl,rfl,rfl⟩⟩
 intro hc1 hM;refine yE<|zE<|zF<|zF<|zB<|yA [] [(5,vI 0)]<|zE<|yC<|vQ [(3,vP b 0),(4,vS p3 y1 c3),(5,vI 0)] ?_;obtain ⟨o02,ho02,hMl1⟩:=zC hM;refine laws_FnLiveSources_l1_ok y y1 0 o02 ho02 iR h4 h2 h3 (fun _ _ _ h=>h) (fun _ _ h=>h) ?_ ?_
 · intro imm09  heq2 le9;subst o02;refine yD<|zE<|zF<|zB<|yA [] [(2,.bool true)]<|zE<|yJ ?_;obtain rfl:=zD hMl1;exact yQ ⟨_,_,(.tmp rfl ResV.nil),zX,⟨_,rfl,rfl,rfl⟩⟩
 intro r0 imm9 hs9 m9 heq9 le9 hrs9;subst heq9;refine yF<|zR ?_;obtain rfl:=zD hMl1;exact yQ hrs9
end Go.LN
namespace Go.LN
theorem drawProg (code:List UInt8):Ok (M.spec_DrawProgramValid code) (fun y=>BG y∧AR y.Arrays):=by
  unfold M.spec_DrawProgramValid;refine Ok.call (zIf code) trivial fun s hs=>Ok.call (zJE s) ⟨by omega,by omega⟩ fun a t g1 g2 g3=>?_;refine Ok.bind (mut4 t a g1.dp (by omega) (by omega)) fun p hp=>?_;obtain ⟨p1,p2⟩:=p;exact Ok.pure hp.1
end Go.LN
namespace Go.LN
theorem mk_row (n:Nat) (hn:n ≤ 1000000):mkrow 1 (n:Int) (false:Bool)=some (List.replicate n false):=by
  unfold mkrow;rw [if_pos ⟨by omega,by omega⟩,Int.toNat_natCast]
end Go.LN
namespace Go.LN
theorem intsV (a b:List Int) (h:a.length ≤ 1048576):M.laws_lnInts a b=some (decide (a=b)):=by
  unfold M.laws_lnInts;by_cases hl:a.length=b.length
  · have hf:=mS (n:=a.length) (f:=M.laws_lnInts_l1 a b) (P:=fun i=>a.getD i 0 == b.getD i 0) (fun i hi=>by
      rw [M.laws_lnInts_l1];have h1:((i:Int) < (a.length:Int)):=by omega
      have hib:i < b.length:=by omega
      have g1:a.getD i 0=a[i]:=by simp [hi]
      have g2:b.getD i 0=b[i]:=by simp [hib]
      simp only [h1,decide_true,if_true,yZ hi,yZ hib,Option.bind_eq_bind,Option.bind_some,Option.pure_def,g1,g2];by_cases e:a[i]=b[i]
      · simp only [e,bne_self_eq_false,Bool.false_eq_true,if_false,beq_self_eq_true,if_true];rw [uY (by omega)]
      · simp [e]) (by rw [M.laws_lnInts_l1]; simp)
    rw [hf];have hlb:((a.length:Int) != (b.length:Int))=false:=by simp [hl]
    simp only [hlb,Bool.false_eq_true,if_false,Option.bind_eq_bind,Option.bind_some];by_cases e:a=b
    · subst e; simp
    · have:((List.range a.length).all fun i=>a.getD i 0 == b.getD i 0)=false:=by
        cases hq:((List.range a.length).all fun i=>a.getD i 0 == b.getD i 0) with
        | false=>rfl
        | true =>
          refine absurd (List.ext_getElem hl fun i h1 h2=>?_) e;have:=List.all_eq_true.1 hq i (List.mem_range.2 h1);simpa [h1,h2] using this
      simp only [this,Bool.false_eq_true,if_false,e,decide_false,Option.pure_def]
  · have hlb:((a.length:Int) != (b.length:Int))=true:=by simp; omega
    have e:a ≠ b:=fun e=>hl (by rw [e]);simp [hlb,e]
end Go.LN
namespace Go.LN
def useI (P:zV) (z:zT):spec_l6Use:=⟨rdI P z,wrI P z⟩
theorem uses_l1 {P:zV} (hb:BG P) (hv:validP P=true):∀ (j i:Nat) (o:List spec_l6Use),i + j=(progI P).length→o.length=i→M.spec_l6Uses_l1 P (progI P) o (i:Int)=some (o ++ ((progI P).drop i).map (useI P)):=by
  have hlen:=(zCr hv).2.2.2;have hR:=zHr hb hv;intro j
  induction j with
  | zero =>
    intro i o hi ho;rw [M.spec_l6Uses_l1];have:¬((i:Int) < ((progI P).length:Int)):=by omega
    simp only [this,decide_false,Bool.false_eq_true,if_false,Option.pure_def,id];rw [List.drop_eq_nil_iff.2 (by omega),List.map_nil,List.append_nil]
  | succ j ih =>
    intro i o hi ho;rw [M.spec_l6Uses_l1];have hlt:i < (progI P).length:=by omega
    have hc:((i:Int) < ((progI P).length:Int)):=by omega
    have hz:=zJJ hb hv (List.getElem_mem hlt);obtain ⟨d,hd⟩:=hz.st;have hcl:=specCells P.Arrays (stI P (progI P)[i]) (progI P)[i].Point hd hz.bs hz.pt hR;rw [if_pos hz.ok] at hcl;simp only [hc,decide_true,if_true,yZ hlt,hz.idxP,hz.idxS,hcl,Option.bind_eq_bind,Option.bind_some,pD (show (o.length + [spec_l6Use.mk ((readsF 5 (stI P (progI P)[i]).Value).map (cellA P.Arrays (progI P)[i].Point)) (cellA P.Arrays (progI P)[i].Point (stI P (progI P)[i]).Write)].length) * 32 ≤ 140737488355328 by simp; omega)];rw [uY (by omega),ih (i + 1) _ (by omega) (by rw [List.length_append]; simp; omega),List.drop_eq_getElem_cons hlt,List.map_cons,List.append_assoc];rfl
theorem specUses (P:zV) (hb:BG P) (hv:validP P=true):M.spec_l6Uses P=some ((progI P).map (useI P)):=by
  unfold M.spec_l6Uses;have hl:=uses_l1 hb hv _ 0 [] (Nat.zero_add _) rfl;rw [Int.natCast_zero,List.drop_zero,List.nil_append] at hl;simp only [specInsts P hv,hl,Option.bind_eq_bind,Option.bind_some,Option.pure_def,id]
end Go.LN
namespace Go.LN
def hasB (l:List Int) (n:Int):Bool:=l.any (fun x=>x == n)
theorem hasB_iff {l:List Int}{n:Int}:hasB l n=true ↔ n ∈ l:=by
  unfold hasB;rw [List.any_eq_true];constructor
  · rintro ⟨x,hx,e⟩;have:x=n:=by simpa using e
    exact this ▸ hx
  · intro h;exact ⟨n,h,by simp⟩
theorem hasB_cons (x:Int) (l:List Int) (n:Int):hasB (x::l) n=(x == n || hasB l n):=by unfold hasB; rw [List.any_cons]
def srcN (ws:List Int) (c:Int):Nat→Int
  | 0=>-1
  | k + 1=>if ws.getD k 0 == c then (k:Int) else srcN ws c k
theorem srcN_spec (ws:List Int) (c:Int):∀ n:Nat,(srcN ws c n=-1∧∀ k,k < n→ws.getD k 0 ≠ c)∨∃ m:Nat,m < n∧srcN ws c n=(m:Int)∧ws.getD m 0=c∧∀ k,m < k→k < n→ws.getD k 0 ≠ c
  | 0=>.inl ⟨rfl,fun k hk=>by omega⟩
  | n + 1=>by
    rw [srcN]
    by_cases h:ws.getD n 0=c
    · refine .inr ⟨n,by omega,?_,h,fun k h1 h2=>by omega⟩
      rw [if_pos (by rw [h]; simp)]
    · rw [if_neg (by simpa using h)]
      rcases srcN_spec ws c n with ⟨h1,h2⟩ | ⟨m,h1,h2,h3,h4⟩
      · refine .inl ⟨h1,fun k hk=>?_⟩
        rcases Nat.lt_or_ge k n with hk' | hk'
        · exact h2 k hk'
        · rw [show k=n by omega]; exact h
      · refine .inr ⟨m,by omega,h2,h3,fun k hk1 hk2=>?_⟩
        rcases Nat.lt_or_ge k n with hk' | hk'
        · exact h4 k hk1 hk'
        · rw [show k=n by omega]; exact h
theorem srcN_rng (ws:List Int) (c:Int) (n:Nat):-1 ≤ srcN ws c n∧srcN ws c n < (n:Int):=by
  rcases srcN_spec ws c n with ⟨h1,_⟩ | ⟨m,h1,h2,_⟩ <;> omega
theorem loop_any {R:Type}{r0:R}{n:Nat}{f:Int→Option (Out Unit R)}{P:Nat→Bool} (step:∀ i,i < n→f (i:Int)=if P i then some (.ret r0) else f ((i + 1:Nat):Int)) (fin:f (n:Int)=some (.done ())):f 0=some (if (List.range n).any P then .ret r0 else .done ()):=by
  have key:∀ (j i:Nat),i + j=n→f (i:Int)=some (if (List.range' i j).any P then .ret r0 else .done ()):=by
    intro j
    induction j with
    | zero=>intro i hi; rw [show i=n by omega,fin]; simp
    | succ j ih =>
      intro i hi;rw [step i (by omega),ih (i + 1) (by omega),List.range'_succ,List.any_cons];cases P i <;> rfl
  have:=key n 0 (Nat.zero_add _);rw [Int.natCast_zero] at this;rw [this,List.range_eq_range']
theorem any_range {α:Type} (l:List α) (P:α→Bool) (d:α):(List.range l.length).any (fun i=>P (l.getD i d))=l.any P:=by
  rw [Bool.eq_iff_iff,List.any_eq_true,List.any_eq_true];constructor
  · rintro ⟨i,hi,h⟩;have hi:=List.mem_range.1 hi;have hg:l.getD i d=l[i]:=by simp [hi]
    rw [hg] at h;exact ⟨_,List.getElem_mem hi,h⟩
  · rintro ⟨x,hx,h⟩;obtain ⟨i,hi,rfl⟩:=List.mem_iff_getElem.1 hx;exact ⟨i,List.mem_range.2 hi,by simpa [hi] using h⟩
end Go.LN
namespace Go.LN
theorem lnHasV (l:List Int) (n:Int) (hl:l.length ≤ 1048576):M.laws_lnHas l n=some (hasB l n):=by
  unfold M.laws_lnHas;have h:=loop_any (R:=Bool) (r0:=true) (n:=l.length) (f:=M.laws_lnHas_l1 l n) (P:=fun i=>l.getD i 0 == n) (fun i hi=>by
      rw [M.laws_lnHas_l1];have h1:((i:Int) < (l.length:Int)):=by omega
      have hg:l.getD i 0=l[i]:=by simp [hi]
      simp only [h1,decide_true,if_true,yZ hi,Option.bind_eq_bind,Option.bind_some,Option.pure_def,hg];rw [uY (by omega)]) (by rw [M.laws_lnHas_l1]; simp)
  rw [any_range l (fun x=>x == n) 0] at h;rw [h];unfold hasB;cases l.any fun x=>x == n <;> rfl
theorem index_l (l:List Int) (v:Int) (hl:l.length ≤ 1048576):∀ (j i:Nat),i + j=l.length→∃ x,M.slices_Index_int_int_l1 l v (i:Int)=some x∧((hasB (l.drop i) v=true∧∃ k:Nat,x=.ret (k:Int))∨(hasB (l.drop i) v=false∧x=.done ())):=by
  intro j
  induction j with
  | zero =>
    intro i hi;rw [M.slices_Index_int_int_l1];have:¬((i:Int) < (l.length:Int)):=by omega
    refine ⟨_,by simp only [this,decide_false,Bool.false_eq_true,if_false,Option.pure_def],.inr ⟨?_,rfl⟩⟩;rw [List.drop_eq_nil_iff.2 (by omega)]; rfl
  | succ j ih =>
    intro i hi;rw [M.slices_Index_int_int_l1];have hlt:i < l.length:=by omega
    have hc:((i:Int) < (l.length:Int)):=by omega
    rw [List.drop_eq_getElem_cons hlt,hasB_cons];by_cases e:v=l[i]
    · refine ⟨_,by simp only [hc,decide_true,if_true,yZ hlt,Option.bind_eq_bind,Option.bind_some,Option.pure_def,e,beq_self_eq_true],.inl ⟨?_,i,rfl⟩⟩;rw [e,beq_self_eq_true,Bool.true_or]
    · have e1:(v == l[i])=false:=by simpa using e
      have e2:(l[i] == v)=false:=by simpa using fun h=>e h.symm
      obtain ⟨x,hx,hr⟩:=ih (i + 1) (by omega);refine ⟨x,?_,by rw [e2,Bool.false_or]; exact hr⟩;simp only [hc,decide_true,if_true,yZ hlt,Option.bind_eq_bind,Option.bind_some,Option.pure_def,e1,Bool.false_eq_true,if_false];rw [uY (by omega),hx]
theorem containsV (l:List Int) (v:Int) (hl:l.length ≤ 1048576):M.slices_Contains_int_int l v=some (hasB l v):=by
  unfold M.slices_Contains_int_int M.slices_Index_int_int;obtain ⟨x,hx,hr⟩:=index_l l v hl l.length 0 (Nat.zero_add _);rw [Int.natCast_zero] at hx;rw [List.drop_zero] at hr;rw [hx];rcases hr with ⟨h,k,rfl⟩ | ⟨h,rfl⟩
  · have:((k:Int) ≥ 0):=by omega
    simp [h,this]
  · rw [h]; rfl
def zIns (P:zV) (a:Nat):zT:=(progI P).getD a ⟨0,0,[]⟩
theorem zI_get {P:zV}{a:Nat} (h:a < (progI P).length):zIns P a=(progI P)[a]:=by simp [zIns,h]
theorem zI_in {P:zV}{a:Nat} (h:a < (progI P).length):zIns P a ∈ progI P:=by rw [zI_get h]; exact List.getElem_mem h
theorem reads_at {P:zV}{a:Nat} (h:a < (progI P).length):idx ((progI P).map (rdI P)) (a:Int)=some (rdI P (zIns P a)):=by rw [yZ (by rw [List.length_map]; exact h),zI_get h]; simp
theorem writes_at {P:zV}{a:Nat} (h:a < (progI P).length):idx ((progI P).map (wrI P)) (a:Int)=some (wrI P (zIns P a)):=by rw [yZ (by rw [List.length_map]; exact h),zI_get h]; simp
theorem uses_at {P:zV}{a:Nat} (h:a < (progI P).length):idx ((progI P).map (useI P)) (a:Int)=some (useI P (zIns P a)):=by rw [yZ (by rw [List.length_map]; exact h),zI_get h]; simp
theorem uses_at' {P:zV}{a:Nat} (h:a < (progI P).length):idx ((progI P).map (useI P)) (a:Int)=some ⟨rdI P (zIns P a),wrI P (zIns P a)⟩:=uses_at h
end Go.LN
namespace Go.LN
def wsP (P:zV):List Int:=(progI P).map (wrI P)
theorem wsP_get {P:zV}{k:Nat} (h:k < (progI P).length):(wsP P).getD k 0=wrI P (zIns P k):=by
  unfold wsP;rw [zI_get h]; simp [h]
theorem src_l2 {P:zV} (c:Int) (hlen:(progI P).length ≤ 120):∀ k:Nat,k ≤ (progI P).length→M.impl_traced_sources_l2 (trcP P) c ((k:Int) - 1)=some (srcN (wsP P) c k)
  | 0,_=>by
    rw [M.impl_traced_sources_l2]
    simp [srcN]
  | k + 1,hk=>by
    rw [M.impl_traced_sources_l2,srcN,wsP_get (by omega)]
    have h1:(((k + 1:Nat):Int) - 1)=(k:Int):=by omega
    have h2:((k:Int) ≥ 0):=by omega
    rw [h1]
    simp only [h2,decide_true,if_true,trcP,writes_at (show k < (progI P).length by omega),Option.bind_eq_bind,Option.bind_some,Option.pure_def,id]
    by_cases e:wrI P (zIns P k)=c
    · simp [e]
    · have e1:(wrI P (zIns P k) != c)=true:=by simpa using e
      have e2:(wrI P (zIns P k) == c)=false:=by simpa using e
      simp only [e1,e2,if_true,Bool.false_eq_true,if_false]
      rw [sE (by omega) (by omega)]
      exact src_l2 c hlen k (by omega)
theorem src_l1 {P:zV} (hlen:(progI P).length ≤ 120) (to:Nat) (ht:to < (progI P).length) (x:List Int) (hx:x.length ≤ 1048576):∀ (j i:Nat) (o:List Int),i + j=x.length→o.length=i→M.impl_traced_sources_l1 (trcP P) (to:Int) x o (i:Int)=some (o ++ (x.drop i).map fun c=>srcN (wsP P) c to):=by
  intro j
  induction j with
  | zero =>
    intro i o hi ho;rw [M.impl_traced_sources_l1];have:¬((i:Int) < (x.length:Int)):=by omega
    simp only [this,decide_false,Bool.false_eq_true,if_false,Option.pure_def,id];rw [List.drop_eq_nil_iff.2 (by omega),List.map_nil,List.append_nil]
  | succ j ih =>
    intro i o hi ho;rw [M.impl_traced_sources_l1];have hlt:i < x.length:=by omega
    have hc:((i:Int) < (x.length:Int)):=by omega
    have h2:=src_l2 (P:=P) x[i] hlen to (by omega);rw [sE (x:=(to:Int) - 1) (by omega) (by omega)];simp only [hc,decide_true,if_true,yZ hlt,h2,Option.bind_eq_bind,Option.bind_some,pD (show (o.length + [srcN (wsP P) x[i] to].length) * 8 ≤ 140737488355328 by simp; omega)];rw [uY (by omega),ih (i + 1) _ (by omega) (by rw [List.length_append]; simp; omega),List.drop_eq_getElem_cons hlt,List.map_cons,List.append_assoc];rfl
theorem srcS_l1 {P:zV} (c:Int) (hlen:(progI P).length ≤ 120):∀ k:Nat,k ≤ (progI P).length→∃ x,M.spec_l6Source_l1 ((progI P).map (useI P)) c ((k:Int) - 1)=some x∧(match x with | .ret r=>r | .done _=>-1)=srcN (wsP P) c k
  | 0,_=>by
    rw [M.spec_l6Source_l1]
    exact ⟨.done (),by simp,rfl⟩
  | k + 1,hk=>by
    rw [M.spec_l6Source_l1,srcN,wsP_get (by omega)]
    have h1:(((k + 1:Nat):Int) - 1)=(k:Int):=by omega
    have h2:((k:Int) ≥ 0):=by omega
    rw [h1]
    simp only [h2,decide_true,if_true,uses_at' (show k < (progI P).length by omega),Option.bind_eq_bind,Option.bind_some,Option.pure_def]
    by_cases e:wrI P (zIns P k)=c
    · exact ⟨.ret (k:Int),by simp [e],by simp [e]⟩
    · have e2:(wrI P (zIns P k) == c)=false:=by simpa using e
      simp only [e2,Bool.false_eq_true,if_false]
      rw [sE (by omega) (by omega)]
      exact srcS_l1 c hlen k (by omega)
theorem srcS {P:zV} (c:Int) (hlen:(progI P).length ≤ 120) (to:Nat) (ht:to < (progI P).length):M.spec_l6Source ((progI P).map (useI P)) (to:Int) c=some (srcN (wsP P) c to):=by
  unfold M.spec_l6Source;rw [sE (x:=(to:Int) - 1) (by omega) (by omega)];obtain ⟨x,hx,hr⟩:=srcS_l1 c hlen to (by omega);rw [hx];cases x with
  | ret r=>rw [← hr]; rfl
  | done u=>rw [← hr]; rfl
def srcL (P:zV) (to:Nat):List Int:=(rdI P (zIns P to)).map fun c=>srcN (wsP P) c to
def fsF (P:zV) (to:Int):List Int×Bool:=if validP P=true∧0 ≤ to∧to < ((progI P).length:Int) then (srcL P to.toNat,true) else ([],false)
theorem implFs (P:zV) (hb:BG P) (to:Int):M.impl_FlowSources P to=some (fsF P to):=by
  unfold M.impl_FlowSources fsF;rw [implTrace P hb];cases hv:validP P with
  | false=>simp
  | true =>
    have hlen:=(zCr hv).2.2.2;have hi:∀ z ∈ progI P,InP P z:=fun z hz=>zJJ hb hv hz;have hW:W (((trcP P).list.length:Int) - 1)=((progI P).length:Int) - 1:=by show W (((progI P).length:Int) - 1)=_; rw [sE (by omega) (by omega)]
    simp only [if_true,Option.bind_eq_bind,Option.bind_some,Option.pure_def,Bool.not_true,Bool.false_eq_true,if_false,pL,hW,true_and];by_cases h:0 ≤ to∧to < ((progI P).length:Int)
    · rw [if_pos h];obtain ⟨k,rfl⟩:∃ k:Nat,to=(k:Int):=⟨to.toNat,by omega⟩;have hk:k < (progI P).length:=by omega
      have e1:(0:Int) ≤ (k:Int):=by omega
      have e2:(k:Int) ≤ ((progI P).length:Int) - 1:=by omega
      have hrl:=zJ0 (hi _ (zI_in hk));have hl:=src_l1 hlen k hk (rdI P (zIns P k)) (by omega) _ 0 [] (Nat.zero_add _) rfl;rw [Int.natCast_zero,List.drop_zero,List.nil_append] at hl;have hs:M.impl_traced_sources (trcP P) (k:Int)=some (srcL P k):=by
        unfold M.impl_traced_sources;have hr:=reads_at (P:=P) hk;rw [show (trcP P).reads=(progI P).map (rdI P) from rfl,hr];simp only [Option.bind_eq_bind,Option.bind_some,hl,Option.pure_def,id];rfl
      simp only [e1,e2,decide_true,Bool.and_self,Bool.not_true,Bool.false_eq_true,if_false,Option.bind_some,hs,Int.toNat_natCast]
    · rw [if_neg h];have e4:(!(decide (0 ≤ to) && decide (to ≤ ((progI P).length:Int) - 1)))=true:=by simp; omega
      simp only [e4,Option.bind_some,if_true]
theorem srcL_at {P:zV}{to:Nat}{i:Nat} (hi:i < (srcL P to).length):∃ hj:i < (rdI P (zIns P to)).length,(srcL P to)[i]=srcN (wsP P) (rdI P (zIns P to))[i] to:=by
  unfold srcL at hi ⊢;rw [List.length_map] at hi;exact ⟨hi,by simp⟩
end Go.LN
namespace Go.LN
theorem getF_set {f:List Bool}{i k:Nat}{b:Bool} (hi:i < f.length):(f.set i b).getD k false=if i=k then b else f.getD k false:=by
  rw [List.getD_eq_getElem?_getD,List.getElem?_set];by_cases h:i=k
  · subst h; simp [hi]
  · simp [h]
def repF (n:Nat):List Bool:=List.replicate n false
theorem repF_get (n k:Nat):(repF n).getD k false=false:=by
  unfold repF;rw [List.getD_eq_getElem?_getD,List.getElem?_replicate];split <;> rfl
def choF:List Bool→Nat→List Int
  | [],_=>[]
  | b::l,i=>(if b then [(i:Int)] else []) ++ choF l (i + 1)
theorem mem_cho {c:Int}:∀ {l:List Bool}{i:Nat},c ∈ choF l i ↔ ∃ k:Nat,c=((i + k:Nat):Int)∧l.getD k false=true
  | [],i=>by simp [choF]
  | b::l,i=>by
    rw [choF,List.mem_append,mem_cho (l:=l)]
    constructor
    · rintro (h | ⟨k,h1,h2⟩)
      · cases b with
        | false=>simp at h
        | true=>exact ⟨0,by simpa using h,rfl⟩
      · exact ⟨k + 1,by rw [h1]; omega,by simpa using h2⟩
    · rintro ⟨k,h1,h2⟩
      cases k with
      | zero =>
        have hb:b=true:=by simpa using h2
        left; rw [hb]; simpa using h1
      | succ k=>exact .inr ⟨k,by rw [h1]; omega,by simpa using h2⟩
theorem choF_len:∀ (l:List Bool) (i:Nat),(choF l i).length ≤ l.length
  | [],_=>Nat.le_refl _
  | b::l,i=>by
    have:=choF_len l (i + 1)
    rw [choF,List.length_append,List.length_cons]
    cases b <;> simp <;> omega
theorem implCho (l:List Bool) (hl:l.length ≤ 1000000):M.impl_chosen l=some (choF l 0):=by
  have key:∀ (j i:Nat) (o:List Int),i + j=l.length→o.length ≤ i→M.impl_chosen_l1 l o (i:Int)=some (o ++ choF (l.drop i) i):=by
    intro j
    induction j with
    | zero =>
      intro i o hi ho;rw [M.impl_chosen_l1];have:¬((i:Int) < (l.length:Int)):=by omega
      simp only [this,decide_false,Bool.false_eq_true,if_false,Option.pure_def,id];rw [List.drop_eq_nil_iff.2 (by omega),choF,List.append_nil]
    | succ j ih =>
      intro i o hi ho;rw [M.impl_chosen_l1];have hlt:i < l.length:=by omega
      have hc:((i:Int) < (l.length:Int)):=by omega
      rw [List.drop_eq_getElem_cons hlt,choF];simp only [hc,decide_true,if_true,yZ hlt,Option.bind_eq_bind,Option.bind_some,Option.pure_def,id,pD (show (o.length + [(i:Int)].length) * 8 ≤ 140737488355328 by simp; omega)];rw [uY (by omega)];cases l[i] with
      | false =>
        simp only [Bool.false_eq_true,if_false,Option.bind_some];rw [ih (i + 1) o (by omega) (by omega),List.nil_append]
      | true =>
        simp only [if_true,Option.bind_some];rw [ih (i + 1) _ (by omega) (by rw [List.length_append]; simp; omega),List.append_assoc]
  have:=key _ 0 [] (Nat.zero_add _) (Nat.le_refl _);rw [Int.natCast_zero,List.drop_zero,List.nil_append] at this;unfold M.impl_chosen;rw [this]; rfl
theorem specCho (l:List Bool) (hl:l.length ≤ 1000000):M.spec_l5Flagged l=some (choF l 0):=by
  have key:∀ (j i:Nat) (o:List Int),i + j=l.length→o.length ≤ i→M.spec_l5Flagged_l1 l o (i:Int)=some (o ++ choF (l.drop i) i):=by
    intro j
    induction j with
    | zero =>
      intro i o hi ho;rw [M.spec_l5Flagged_l1];have:¬((i:Int) < (l.length:Int)):=by omega
      simp only [this,decide_false,Bool.false_eq_true,if_false,Option.pure_def,id];rw [List.drop_eq_nil_iff.2 (by omega),choF,List.append_nil]
    | succ j ih =>
      intro i o hi ho;rw [M.spec_l5Flagged_l1];have hlt:i < l.length:=by omega
      have hc:((i:Int) < (l.length:Int)):=by omega
      rw [List.drop_eq_getElem_cons hlt,choF];simp only [hc,decide_true,if_true,yZ hlt,Option.bind_eq_bind,Option.bind_some,Option.pure_def,id,pD (show (o.length + [(i:Int)].length) * 8 ≤ 140737488355328 by simp; omega)];rw [uY (by omega)];cases l[i] with
      | false =>
        simp only [Bool.false_eq_true,if_false,Option.bind_some];rw [ih (i + 1) o (by omega) (by omega),List.nil_append]
      | true =>
        simp only [if_true,Option.bind_some];rw [ih (i + 1) _ (by omega) (by rw [List.length_append]; simp; omega),List.append_assoc]
  have:=key _ 0 [] (Nat.zero_add _) (Nat.le_refl _);rw [Int.natCast_zero,List.drop_zero,List.nil_append] at this;unfold M.spec_l5Flagged;rw [this]; rfl
theorem row_n (n:Nat) (h:n ≤ 1000000):mkrow 1 (n:Int) (false:Bool)=some (repF n):=mk_row n h
theorem idx_set {f:List Bool}{c:Int} (h0:0 ≤ c) (h1:c < (f.length:Int)):∃ b,idx f c=some b:=by
  obtain ⟨k,rfl⟩:∃ k:Nat,c=(k:Int):=⟨c.toNat,by omega⟩;exact ⟨_,yZ (by omega)⟩
theorem repF_len (n:Nat):(repF n).length=n:=List.length_replicate ..
end Go.LN
namespace Go.LN
theorem getD_get' {f:List Bool}{k:Nat} (h:k < f.length):f.getD k false=f[k]:=by simp [h]
def posA:List Bool→List Int→List Bool
  | f,[]=>f
  | f,c::cs=>posA (if 0 ≤ c then f.set c.toNat true else f) cs
theorem posA_len:∀ (cs:List Int) (f:List Bool),(posA f cs).length=f.length
  | [],f=>rfl
  | c::cs,f=>by
    rw [posA,posA_len cs]
    split
    · rw [List.length_set]
    · rfl
theorem posA_iff {k:Nat}:∀ (cs:List Int) (f:List Bool),(∀ c ∈ cs,c < (f.length:Int))→((posA f cs).getD k false=true ↔ f.getD k false=true∨(k:Int) ∈ cs)
  | [],f,_=>by simp [posA]
  | c::cs,f,h=>by
    have hc:=h c (List.mem_cons_self ..)
    rw [posA]
    by_cases h0:0 ≤ c
    · rw [if_pos h0,posA_iff cs _ (fun d hd=>by rw [List.length_set]; exact h d (List.mem_cons_of_mem _ hd)),getF_set (by omega),List.mem_cons]
      by_cases e:c.toNat=k
      · have:(k:Int)=c:=by omega
        simp [e,this]
      · have:¬((k:Int)=c):=by omega
        simp [e,this]
    · rw [if_neg h0,posA_iff cs _ (fun d hd=>h d (List.mem_cons_of_mem _ hd)),List.mem_cons]
      have:¬((k:Int)=c):=by omega
      simp [this]
def isL (P:zV) (f:List Bool) (k:Nat):Bool:=f.getD k false || !(hasB ((wsP P).drop (k + 1)) (wrI P (zIns P k)))
def liveS (P:zV) (f:List Bool) (k:Nat):List Bool:=if isL P f k then posA (f.set k true) (srcL P k) else f
def liveA (P:zV):Nat→List Bool→List Bool
  | 0,f=>f
  | k + 1,f=>liveA P k (liveS P f k)
theorem liveS_len (P:zV) (f:List Bool) (k:Nat):(liveS P f k).length=f.length:=by
  unfold liveS;split
  · rw [posA_len,List.length_set]
  · rfl
theorem liveA_len (P:zV):∀ (k:Nat) (f:List Bool),(liveA P k f).length=f.length
  | 0,f=>rfl
  | k + 1,f=>by rw [liveA,liveA_len P k,liveS_len]
theorem srcL_lt {P:zV}{k:Nat}{c:Int} (h:c ∈ srcL P k):c < (k:Int):=by
  unfold srcL at h;obtain ⟨d,_,rfl⟩:=List.mem_map.1 h;exact (srcN_rng (wsP P) d k).2
theorem liveS_iff {P:zV}{f:List Bool}{k j:Nat} (hk:k < f.length):(liveS P f k).getD j false=true ↔ f.getD j false=true∨(isL P f k=true∧(j=k∨(j:Int) ∈ srcL P k)):=by
  unfold liveS;cases h:isL P f k with
  | false=>simp
  | true =>
    simp only [if_true];rw [posA_iff _ _ (fun c hc=>by have:=srcL_lt hc; rw [List.length_set]; omega),getF_set hk];by_cases e:k=j
    · simp [e]
    · have e':¬(j=k):=fun h=>e h.symm;simp [e,e']
theorem liveA_law {P:zV}:∀ (k:Nat) (f:List Bool),k ≤ f.length→(∀ j,f.getD j false=true→(liveA P k f).getD j false=true)∧(∀ j,k ≤ j→(liveA P k f).getD j false=f.getD j false)∧(∀ j,j < k→(liveA P k f).getD j false=true→∀ s ∈ srcL P j,0 ≤ s→(liveA P k f).getD s.toNat false=true)
  | 0,f,_=>⟨fun _ h=>h,fun _ _=>rfl,fun j hj=>by omega⟩
  | k + 1,f,hk=>by
    have hkf:k < f.length:=by omega
    obtain ⟨a,b,c⟩:=liveA_law (P:=P) k (liveS P f k) (by rw [liveS_len]; omega)
    rw [liveA]
    refine ⟨fun j hj=>a j ((liveS_iff hkf).2 (.inl hj)),fun j hj=>?_,fun j hj hl s hs h0=>?_⟩
    · rw [b j (by omega),Bool.eq_iff_iff,liveS_iff hkf]
      constructor
      · rintro (h | ⟨_,h | h⟩)
        · exact h
        · omega
        · have:=srcL_lt h; omega
      · exact .inl
    · rcases Nat.lt_or_ge j k with hj' | hj'
      · exact c j hj' hl s hs h0
      · have hjk:j=k:=by omega
        subst hjk
        rw [b j (Nat.le_refl _),liveS_iff hkf] at hl
        refine a _ ((liveS_iff hkf).2 (.inr ⟨?_,.inr (by rw [show ((s.toNat:Nat):Int)=s by omega]; exact hs)⟩))
        rcases hl with hl | hl
        · unfold isL; rw [hl]; rfl
        · exact hl.1
theorem sourcesV {P:zV} (hi:∀ z ∈ progI P,InP P z) (hlen:(progI P).length ≤ 120) {k:Nat} (hk:k < (progI P).length):M.impl_traced_sources (trcP P) (k:Int)=some (srcL P k):=by
  have hrl:=zJ0 (hi _ (zI_in hk));have hl:=src_l1 hlen k hk (rdI P (zIns P k)) (by omega) _ 0 [] (Nat.zero_add _) rfl;rw [Int.natCast_zero,List.drop_zero,List.nil_append] at hl;unfold M.impl_traced_sources;have hr:=reads_at (P:=P) hk;rw [show (trcP P).reads=(progI P).map (rdI P) from rfl,hr];simp only [Option.bind_eq_bind,Option.bind_some,hl,Option.pure_def,id];rfl
theorem pos_l2 (x:List Int) (hx:x.length ≤ 1048576):∀ (j i:Nat) (f:List Bool),i + j=x.length→(∀ c ∈ x,c < (f.length:Int))→M.impl_traced_live_l2 x f (i:Int)=some (posA f (x.drop i)):=by
  intro j
  induction j with
  | zero =>
    intro i f hi hf;rw [M.impl_traced_live_l2];have:¬((i:Int) < (x.length:Int)):=by omega
    simp only [this,decide_false,Bool.false_eq_true,if_false,Option.pure_def,id];rw [List.drop_eq_nil_iff.2 (by omega),posA]
  | succ j ih =>
    intro i f hi hf;rw [M.impl_traced_live_l2];have hlt:i < x.length:=by omega
    have hc:((i:Int) < (x.length:Int)):=by omega
    have hxi:=hf _ (List.getElem_mem hlt);rw [List.drop_eq_getElem_cons hlt,posA];simp only [hc,decide_true,if_true,yZ hlt,Option.bind_eq_bind,Option.bind_some,Option.pure_def,id];rw [uY (by omega)];by_cases h0:x[i] ≥ 0
    · obtain ⟨b,hbx⟩:=idx_set (f:=f) h0 hxi;simp only [h0,decide_true,if_true,hbx,Option.bind_some];rw [ih (i + 1) _ (by omega) (by rw [List.length_set]; exact hf)]
    · simp only [h0,decide_false,Bool.false_eq_true,if_false,Option.bind_some];rw [ih (i + 1) _ (by omega) hf]
theorem set_same {f:List Bool}{k:Nat}{b:Bool} (h:k < f.length) (hb:f[k]=b):f.set k b=f:=by
  subst hb; exact List.set_getElem_self h
theorem live_l1 {P:zV} (hi:∀ z ∈ progI P,InP P z) (hlen:(progI P).length ≤ 120):∀ (k:Nat) (f:List Bool),k ≤ (progI P).length→f.length=(progI P).length→M.impl_traced_live_l1 (trcP P) f ((k:Int) - 1)=some (liveA P k f)
  | 0,f,_,_=>by
    rw [M.impl_traced_live_l1]
    simp [liveA]
  | k + 1,f,hk,hf=>by
    rw [M.impl_traced_live_l1,liveA]
    have h1:(((k + 1:Nat):Int) - 1)=(k:Int):=by omega
    have h2:((k:Int) ≥ 0):=by omega
    have hkn:k < (progI P).length:=by omega
    have hkf:k < f.length:=by omega
    rw [h1]
    have hwl:((trcP P).writes.length:Int)=((wsP P).length:Int):=rfl
    have hwn:(wsP P).length=(progI P).length:=by unfold wsP; rw [List.length_map]
    have hsl:slc (trcP P).writes ((k + 1:Nat):Int) ((wsP P).length:Int)=some ((wsP P).drop (k + 1)):=by
      have:=zJF (s:=wsP P) (f:=k + 1) (i:=(wsP P).length) (by omega) (Nat.le_refl _)
      rw [List.take_length] at this
      exact this
    have hct:=containsV ((wsP P).drop (k + 1)) (wrI P (zIns P k)) (by rw [List.length_drop]; omega)
    have hwk:idx (trcP P).writes (k:Int)=some (wrI P (zIns P k)):=writes_at hkn
    have hsv:=sourcesV hi hlen hkn
    have hsl32:(srcL P k).length ≤ 32:=by have:=zJ0 (hi _ (zI_in hkn)); unfold srcL; rw [List.length_map]; omega
    have hp:=pos_l2 (srcL P k) (by omega) _ 0 (f.set k true) (Nat.zero_add _) (fun c hc=>by have:=srcL_lt hc; rw [List.length_set]; omega)
    rw [Int.natCast_zero,List.drop_zero] at hp
    have hW:W ((k:Int) - 1)=(k:Int) - 1:=sE (by omega) (by omega)
    have n1:=live_l1 hi hlen k f (by omega) hf
    have n2:=live_l1 hi hlen k (posA (f.set k true) (srcL P k)) (by omega) (by rw [posA_len,List.length_set]; exact hf)
    unfold liveS isL
    rw [getD_get' hkf]
    simp only [h2,decide_true,if_true,yZ hkf,uY (show k < 9223372036854775807 by omega),hwl,hsl,hwk,hct,hsv,hp,hW,Int.toNat_natCast,Option.bind_eq_bind,Option.bind_some,Option.pure_def,id]
    cases f[k] with
    | true=>simp only [Bool.not_true,Bool.false_eq_true,if_false,Option.bind_some,Bool.true_or,if_true,n2]
    | false =>
      cases hasB ((wsP P).drop (k + 1)) (wrI P (zIns P k)) with
      | true=>simp only [Bool.not_false,if_true,Option.bind_some,Bool.not_true,Bool.or_self,Bool.false_eq_true,if_false,n1]
      | false=>simp only [Bool.not_false,if_true,Option.bind_some,Bool.false_eq_true,if_false,Bool.false_or,n2]
theorem lastS {P:zV} (i:Nat) (hi:i < (progI P).length) (hlen:(progI P).length ≤ 120):∀ (j k:Nat) (b:Bool),k + j=(progI P).length→M.spec_LiveInstances_l2 ((progI P).map (useI P)) (i:Int) b (k:Int)=some (b && !(hasB ((wsP P).drop k) (wrI P (zIns P i)))):=by
  have hwn:(wsP P).length=(progI P).length:=by unfold wsP; rw [List.length_map]
  intro j
  induction j with
  | zero =>
    intro k b hk;rw [M.spec_LiveInstances_l2];have:¬((k:Int) < (((progI P).map (useI P)).length:Int)):=by rw [List.length_map]; omega
    simp only [this,decide_false,Bool.false_eq_true,if_false,Option.pure_def,id];rw [List.drop_eq_nil_iff.2 (by omega)];simp [hasB]
  | succ j ih =>
    intro k b hk;rw [M.spec_LiveInstances_l2];have hlt:k < (progI P).length:=by omega
    have hkw:k < (wsP P).length:=by omega
    have hc:((k:Int) < (((progI P).map (useI P)).length:Int)):=by rw [List.length_map]; omega
    have hgw:(wsP P)[k]=wrI P (zIns P k):=by rw [← wsP_get hlt]; simp [hkw]
    rw [List.drop_eq_getElem_cons hkw,hasB_cons,hgw];have u1:=uses_at' (P:=P) hlt;have u2:=uses_at' (P:=P) hi;simp only [hc,decide_true,if_true,u1,u2,Option.bind_eq_bind,Option.bind_some,Option.pure_def];rw [uY (by omega)];cases b with
    | false=>simp only [Bool.false_eq_true,if_false,Option.bind_some,ih (k + 1) false (by omega),Bool.false_and]
    | true =>
      simp only [if_true,Option.bind_some,ih (k + 1) _ (by omega),Bool.true_and];cases hq:(wrI P (zIns P k) == wrI P (zIns P i)) with
      | true =>
        have:(wrI P (zIns P k) != wrI P (zIns P i))=false:=by simp only [bne,hq]; rfl
        rw [this]; simp
      | false =>
        have:(wrI P (zIns P k) != wrI P (zIns P i))=true:=by simp only [bne,hq]; rfl
        rw [this]; simp
theorem posS_l3 {P:zV} (i:Nat) (hin:i < (progI P).length) (hlen:(progI P).length ≤ 120) (hrl:(rdI P (zIns P i)).length ≤ 32):∀ (j k:Nat) (f:List Bool),k + j=(rdI P (zIns P i)).length→f.length=(progI P).length→f.getD i false=true→M.spec_LiveInstances_l3 ((progI P).map (useI P)) (i:Int) f (k:Int)=some (posA f ((srcL P i).drop k)):=by
  intro j
  induction j with
  | zero =>
    intro k f hk hf ht;rw [M.spec_LiveInstances_l3];have:¬((k:Int) < ((rdI P (zIns P i)).length:Int)):=by omega
    have u2:=uses_at' (P:=P) hin;simp only [u2,this,decide_false,Bool.false_eq_true,if_false,Option.pure_def,Option.bind_eq_bind,Option.bind_some,id];rw [List.drop_eq_nil_iff.2 (by unfold srcL; rw [List.length_map]; omega),posA]
  | succ j ih =>
    intro k f hk hf ht;rw [M.spec_LiveInstances_l3];have hlt:k < (rdI P (zIns P i)).length:=by omega
    have hls:k < (srcL P i).length:=by unfold srcL; rw [List.length_map]; exact hlt
    have hc:((k:Int) < ((rdI P (zIns P i)).length:Int)):=by omega
    have hif:i < f.length:=by omega
    have u2:=uses_at' (P:=P) hin;obtain ⟨_,he⟩:=srcL_at hls;have hs:=srcS (P:=P) (rdI P (zIns P i))[k] hlen i hin;have hfi:f[i]=true:=by rw [← getD_get' hif]; exact ht
    have hsl:(srcL P i)[k] < (i:Int):=srcL_lt (List.getElem_mem hls);rw [List.drop_eq_getElem_cons hls,posA,he];rw [he] at hsl;have hus:(List.map (fun z=>({ reads:=rdI P z,write:=wrI P z }:spec_l6Use)) (progI P))=(progI P).map (useI P):=rfl;simp only [u2,hc,decide_true,if_true,yZ hif,hfi,yZ hlt,hs,Option.bind_eq_bind,Option.bind_some,Option.pure_def,id];rw [uY (by omega)];by_cases h0:srcN (wsP P) (rdI P (zIns P i))[k] i ≥ 0
    · obtain ⟨b,hbx⟩:=idx_set (f:=f) h0 (by omega);simp only [h0,decide_true,if_true,hbx,Option.bind_some];rw [ih (k + 1) _ (by omega) (by rw [List.length_set]; exact hf) (by rw [getF_set (by omega),if_neg (by omega)]; exact ht)]
    · simp only [h0,decide_false,Bool.false_eq_true,if_false,Option.bind_some];rw [ih (k + 1) _ (by omega) hf ht]
theorem liveS_l1 {P:zV} (hi:∀ z ∈ progI P,InP P z) (hlen:(progI P).length ≤ 120):∀ (k:Nat) (f:List Bool),k ≤ (progI P).length→f.length=(progI P).length→M.spec_LiveInstances_l1 ((progI P).map (useI P)) f ((k:Int) - 1)=some (liveA P k f)
  | 0,f,_,_=>by
    rw [M.spec_LiveInstances_l1]
    simp [liveA]
  | k + 1,f,hk,hf=>by
    rw [M.spec_LiveInstances_l1,liveA]
    have h1:(((k + 1:Nat):Int) - 1)=(k:Int):=by omega
    have h2:((k:Int) ≥ 0):=by omega
    have hkn:k < (progI P).length:=by omega
    have hkf:k < f.length:=by omega
    rw [h1]
    have hrl:=zJ0 (hi _ (zI_in hkn))
    have hla:=lastS k hkn hlen _ (k + 1) true (show k + 1 + ((progI P).length - (k + 1))=(progI P).length by omega)
    have hW:W ((k:Int) - 1)=(k:Int) - 1:=sE (by omega) (by omega)
    have n1:=liveS_l1 hi hlen k f (by omega) hf
    have n2:=liveS_l1 hi hlen k (posA (f.set k true) (srcL P k)) (by omega) (by rw [posA_len,List.length_set]; exact hf)
    have p1:=posS_l3 k hkn hlen hrl _ 0 (f.set k true) (Nat.zero_add _) (by rw [List.length_set]; exact hf) (by rw [getF_set hkf,if_pos rfl])
    rw [Int.natCast_zero,List.drop_zero] at p1
    unfold liveS isL
    rw [getD_get' hkf]
    simp only [h2,decide_true,if_true,yZ hkf,uY (show k < 9223372036854775807 by omega),hla,hW,Int.toNat_natCast,Option.bind_eq_bind,Option.bind_some,Option.pure_def,id,Bool.true_and]
    cases hfk:f[k] with
    | true=>simp only [if_true,Option.bind_some,Bool.true_or,p1,n2]
    | false =>
      cases hasB ((wsP P).drop (k + 1)) (wrI P (zIns P k)) with
      | false=>simp only [Bool.not_false,Bool.false_eq_true,if_false,Option.bind_some,Bool.false_or,if_true,p1,n2]
      | true =>
        have hset:f.set k false=f:=set_same hkf hfk
        have p0:M.spec_LiveInstances_l3 ((progI P).map (useI P)) (k:Int) f 0=some f:=by
          rw [M.spec_LiveInstances_l3]
          have u2:=uses_at' (P:=P) hkn
          by_cases hz:(0:Int) < ((rdI P (zIns P k)).length:Int)
          · simp only [u2,hz,decide_true,if_true,yZ hkf,hfk,Option.pure_def,Option.bind_eq_bind,Option.bind_some,id,Bool.false_eq_true,if_false]
          · simp only [u2,hz,decide_false,Option.pure_def,Option.bind_eq_bind,Option.bind_some,id,Bool.false_eq_true,if_false]
        simp only [Bool.not_true,Bool.false_eq_true,if_false,Option.bind_some,Bool.or_self,hset,p0,n1]
def lvF (P:zV):List Int:=if validP P then choF (liveA P (progI P).length (repF (progI P).length)) 0 else []
theorem implLive (P:zV) (hb:BG P):M.impl_LiveInstances P=some (lvF P):=by
  unfold M.impl_LiveInstances lvF;rw [implTrace P hb];cases hv:validP P with
  | false=>rfl
  | true =>
    have hlen:=(zCr hv).2.2.2;have hi:∀ z ∈ progI P,InP P z:=fun z hz=>zJJ hb hv hz;have hl:=live_l1 hi hlen _ (repF (progI P).length) (Nat.le_refl _) (repF_len _);have hW:W ((((trcP P).list.length:Int)) - 1)=((progI P).length:Int) - 1:=by show W (((progI P).length:Int) - 1)=_; rw [sE (by omega) (by omega)]
    have hrow:mkrow 1 (((trcP P).list.length:Int)) (false:Bool)=some (repF (progI P).length):=row_n (progI P).length (by omega);simp only [if_true,Option.bind_eq_bind,Option.bind_some,Bool.not_true,Bool.false_eq_true,if_false,M.impl_traced_live,hrow,hW,hl,Option.pure_def,id,implCho _ (show (liveA P (progI P).length (repF (progI P).length)).length ≤ 1000000 by rw [liveA_len,repF_len]; omega)]
theorem specLive (P:zV) (hb:BG P):M.spec_LiveInstances P=some (lvF P):=by
  unfold M.spec_LiveInstances lvF;rw [specValidP P hb];cases hv:validP P with
  | false=>rfl
  | true =>
    have hlen:=(zCr hv).2.2.2;have hi:∀ z ∈ progI P,InP P z:=fun z hz=>zJJ hb hv hz;have hl:=liveS_l1 hi hlen _ (repF (progI P).length) (Nat.le_refl _) (repF_len _);simp only [if_true,Option.bind_eq_bind,Option.bind_some,Bool.not_true,Bool.false_eq_true,if_false,specUses P hb hv,List.length_map,row_n (progI P).length (by omega),sE (x:=((progI P).length:Int) - 1) (by omega) (by omega),hl,Option.pure_def,id,specCho _ (show (liveA P (progI P).length (repF (progI P).length)).length ≤ 1000000 by rw [liveA_len,repF_len]; omega)]
theorem lvF_len (P:zV):(lvF P).length ≤ 1000:=by
  unfold lvF;split
  · rename_i h;have hlen:=(zCr h).2.2.2;have:=choF_len (liveA P (progI P).length (repF (progI P).length)) 0;rw [liveA_len,repF_len] at this;omega
  · simp
theorem live_l2 (A x:List Int) (hA:A.length ≤ 1048576) (hx:x.length ≤ 1048576) (h:∀ s ∈ x,0 ≤ s→s ∈ A):∀ (j i:Nat),i + j=x.length→M.laws_FnLiveSources_l2 A x (i:Int)=some (.done ()):=by
  intro j
  induction j with
  | zero =>
    intro i hi;rw [M.laws_FnLiveSources_l2];have:¬((i:Int) < (x.length:Int)):=by omega
    simp only [this,decide_false,Bool.false_eq_true,if_false,Option.pure_def]
  | succ j ih =>
    intro i hi;rw [M.laws_FnLiveSources_l2];have hlt:i < x.length:=by omega
    have hc:((i:Int) < (x.length:Int)):=by omega
    have hn:=ih (i + 1) (by omega);simp only [hc,decide_true,if_true,yZ hlt,Option.bind_eq_bind,Option.bind_some,Option.pure_def];rw [uY (by omega)];by_cases h0:x[i] ≥ 0
    · have hm:=hasB_iff.2 (h _ (List.getElem_mem hlt) h0);simp only [h0,decide_true,if_true,lnHasV A _ hA,hm,Option.bind_some,Bool.not_true,Bool.false_eq_true,if_false];exact hn
    · simp only [h0,decide_false,Bool.false_eq_true,if_false,Option.bind_some];exact hn
theorem live_loop {P:zV} (hb:BG P):∀ (j i:Nat),i + j=(lvF P).length→M.laws_FnLiveSources_l1 P (lvF P) (i:Int)=some (.done ()):=by
  have hll:=lvF_len P;intro j
  induction j with
  | zero =>
    intro i hi;rw [M.laws_FnLiveSources_l1];have:¬((i:Int) < ((lvF P).length:Int)):=by omega
    simp only [this,decide_false,Bool.false_eq_true,if_false,Option.pure_def]
  | succ j ih =>
    intro i hi;rw [M.laws_FnLiveSources_l1];have hlt:i < (lvF P).length:=by omega
    have hc:((i:Int) < ((lvF P).length:Int)):=by omega
    have hv:validP P=true:=by
      cases hv:validP P with
      | true=>rfl
      | false =>
        unfold lvF at hlt;rw [hv] at hlt;simp at hlt
    have hlen:=(zCr hv).2.2.2;obtain ⟨a,b,c⟩:=liveA_law (P:=P) (progI P).length (repF (progI P).length) (by rw [repF_len]; omega);have hmem:∀ {x:Int},x ∈ lvF P ↔ ∃ k:Nat,x=(k:Int)∧(liveA P (progI P).length (repF (progI P).length)).getD k false=true:=by
      intro x;unfold lvF;rw [if_pos hv,mem_cho];constructor
      · rintro ⟨k,h1,h2⟩; exact ⟨k,by rw [h1,Nat.zero_add],h2⟩
      · rintro ⟨k,h1,h2⟩; exact ⟨k,by rw [h1,Nat.zero_add],h2⟩
    obtain ⟨k,h1,h2⟩:=hmem.1 (List.getElem_mem hlt);have hk:k < (progI P).length:=by
      rcases Nat.lt_or_ge k (progI P).length with h | h
      · exact h
      · rw [b k h,repF_get] at h2; cases h2
    have hfs:fsF P (k:Int)=(srcL P k,true):=by unfold fsF; rw [if_pos ⟨hv,by omega,by omega⟩,Int.toNat_natCast]
    have hz:=zJJ hb hv (zI_in hk);have hrl:=zJ0 hz;have hsl:(srcL P k).length ≤ 32:=by unfold srcL; rw [List.length_map]; omega
    have h2':=live_l2 (lvF P) (srcL P k) (by omega) (by omega) (fun s hs h0=>hmem.2 ⟨s.toNat,by omega,c k hk h2 s hs h0⟩) _ 0 (Nat.zero_add _);rw [Int.natCast_zero] at h2';simp only [hc,decide_true,if_true,yZ hlt,h1,implFs P hb,hfs,h2',Option.bind_eq_bind,Option.bind_some,Bool.not_true,Bool.false_eq_true,if_false];rw [uY (by omega)];exact ih (i + 1) (by omega)
theorem law_LiveSources (code:List UInt8):∃ r,M.laws_FnLiveSources code=some r∧r=true:=by
  obtain ⟨y,hy,hb,hAR⟩:=drawProg code;unfold M.laws_FnLiveSources;refine ⟨true,?_,rfl⟩;have hd:M.spec_DrawLiveInstances code=some y:=by unfold M.spec_DrawLiveInstances; rw [hy]; rfl
  by_cases h1:(code.length:Int) > 1048576
  · simp [h1]
  · have hwl:=lvF_len y;have hr:=intsV (lvF y) (lvF y) (by omega);have l1:=live_loop (P:=y) hb _ 0 (Nat.zero_add _);rw [Int.natCast_zero] at l1;simp only [h1,decide_false,Bool.false_eq_true,if_false,hd,implLive y hb,specLive y hb,hr,l1,decide_true,Bool.not_true,Option.pure_def,Option.bind_eq_bind,Option.bind_some]
end Go.LN
