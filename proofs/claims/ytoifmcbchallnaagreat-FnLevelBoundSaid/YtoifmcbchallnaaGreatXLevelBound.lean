/- Helper of the proof (see the last text). -/
import Derived.Test.YtoifmcbchallnaaGreatLnA
import Derived.Test.YtoifmcbchallnaaGreatLnI
import Derived.Test.YtoifmcbchallnaaGreatLnO
import Derived.Test.YtoifmcbchallnaaGreatTryzShelf
import Derived.Test.YtoifmcbchallnaaGreatHM1
import Derived.Test.YtoifmcbchallnaaGreatHM2
import Derived.Test.YtoifmcbchallnaaGreatHM3
import Derived.Test.YtoifmcbchallnaaGreatHM4
import Derived.Test.YtoifmcbchallnaaGreatHM5
import Derived.Test.YtoifmcbchallnaaGreatHM6
import Derived.Test.YtoifmcbchallnaaGreatHM7
import Derived.Test.YtoifmcbchallnaaGreatHM8
import Derived.Test.YtoifmcbchallnaaGreatQT
import Derived.Test.YtoifmcbchallnaaGreatQZ
import Derived.Test.YtoifmcbchallnaaGreatVB1
import Derived.Test.YtoifmcbchallnaaGreatVB8
import Derived.Test.YtoifmcbchallnaaGreatLnR
set_option linter.unusedVariables false
set_option linter.unusedSimpArgs false
namespace Go.LN
def mkrow {α:Type} (bytes:Nat) (k:Int) (z:α):Option (List α):=if 0 ≤ k∧k.toNat * bytes ≤ 140737488355328 then some (List.replicate k.toNat z) else none
def zrow (z:Array Value) (k:Nat):List Value:=(List.range k).map fun i=>z[i % z.size]!
theorem zrow_one (z:Array Value) (k:Nat) (h:0 < z.size):(List.range z.size).map (fun i=>z[(k * z.size + i) % z.size]!)=z.toList:=by
  refine List.ext_getElem (by simp) fun i h1 h2=>?_;have hi:i < z.size:=by simpa using h1
  simp only [List.getElem_map,List.getElem_range,Array.getElem_toList];have e:(k * z.size + i) % z.size=i:=by rw [Nat.add_comm,Nat.mul_comm,Nat.add_mul_mod_self_left,Nat.mod_eq_of_lt hi]
  rw [e];exact getElem!_pos z i hi
theorem zrow_rep {α:Type}{ρ:List Value→α→Prop}{z:Array Value}{a:α} (hz:0 < z.size) (h:ρ z.toList a):∀ k,RepL ρ z.size (zrow z (k * z.size)) (List.replicate k a)
  | 0=>by simp [zrow,RepL]
  | k + 1=>by
    have e:zrow z ((k + 1) * z.size)=zrow z (k * z.size) ++ z.toList:=by
      unfold zrow
      rw [Nat.succ_mul,List.range_add,List.map_append,List.map_map]
      congr 1
      exact zrow_one z k hz
    rw [e,List.replicate_succ']
    exact (zrow_rep hz h k).append (.single (by simp) h)
section
variable {P:Program}{n:Nat}{B:Base}{Q:Exit→Act→World→Prop}{imm:Imm}{hs:List HA}{m:FM}{ops:List Oper}{pc d:Nat}{ty:TypeId}{pos:String}{after:Array Edge}{g:Option (Nat×Bool)}
def mkT (P:Program) (t:TypeId):Option (Nat×Nat×List Value) :=
  match elemOfT P t with
  | some e=>match sizeT P e,bytesT P e,zeroC P e with
    | some s,some b,some z=>bif Nat.beq z.size s && Nat.blt 0 b then some (s,b,z.toList) else none
    | _,_,_=>none
  | none=>none
theorem R_mk {α:Type} [Rp α] {t:TypeId}{x y:Operand}{k:Int}{a:α}{l:List α} (by':Nat) (z:List Value) (ho:ops[pc]?=some ⟨some d,.makeSlice t x y,ty,pos,after,g⟩) (hk:mkrow by' k a=some l) (hr:Rp.rep imm z a)
    (next:∀ b cs,RL imm cs l→R P n B ops Q (pc + 1) imm (.osl (.slice (some ⟨b,0,none⟩) l.length l.length) (Rp.sz α) cs::hs) ((d,.slice (some ⟨b,0,none⟩) l.length l.length)::m))
    (hg:guardB ops m g=some true:=by kernel_rfl) (hn:Nat.blt d n=true:=by kernel_rfl) (hx:val m x=some (.int .i64 k):=by kernel_rfl) (hy:val m y=some (.int .i64 k):=by kernel_rfl) (ht:mkT P t=some (Rp.sz α,by',z):=by kernel_rfl) :
    R P n B ops Q pc imm hs m:=by
  refine mL ho hg rfl hn fun ac w f gd=>?_
  unfold mkrow at hk
  split at hk
  · rename_i hk0
    cases hk
    obtain ⟨hk0,hkb⟩:=hk0
    unfold mkT at ht
    cases he:elemOfT P t with
    | none=>rw [he] at ht; cases ht
    | some e =>
      rw [he] at ht
      simp only at ht
      split at ht
      · rename_i s b zc h1 h2 h3
        cases hq:Nat.beq zc.size s && Nat.blt 0 b with
        | false=>rw [hq] at ht; cases ht
        | true =>
          rw [hq] at ht
          simp only [cond_true,Option.some.injEq,Prod.mk.injEq] at ht
          obtain ⟨rfl,rfl,rfl⟩:=ht
          rw [Bool.and_eq_true] at hq
          have hzs:=Nat.eq_of_beq_eq_true hq.1
          have hb0:0 < b:=by simpa using hq.2
          have hu:P.underlying t=some (.slice e):=by
            unfold elemOfT at he
            split at he <;> simp_all
          cases hie:P.info? e with
          | none=>simp [sizeT,hie] at h1
          | some ie =>
          have hsz':ie.size=Rp.sz α:=by simpa [sizeT,hie] using h1
          have hby':ie.bytes=b:=by simpa [bytesT,hie] using h2
          obtain ⟨zv,hz1,hz2⟩:=fV (w:=w) h3
          have hpos:0 < zc.size:=by rw [hzs]; exact Rp.pos
          have hkk:(k.toNat:Int)=k:=Int.toNat_of_nonneg hk0
          have hle:k.toNat ≤ k.toNat * b:=Nat.le_mul_of_pos_right _ hb0
          have hwr:IntKind.i64.wrap k=k:=by rw [IntKind.wrap_i64]; omega
          have hmul:((ie.bytes:Int) * k) ≤ 140737488355328:=by
            rw [← hkk,hby',← Int.natCast_mul,Nat.mul_comm]
            exact Int.ofNat_le.2 hkb
          have hnt:¬(k < 0):=by omega
          have hnb:¬((ie.bytes:Int) * k > 2 ^ 48):=by omega
          let row:Array Value:=if k.toNat * Rp.sz α=0 then #[] else (Array.range (k.toNat * Rp.sz α)).map (fun i=>zc[i % zc.size]!)
          have hrow:(((Array.range (k.toNat * ie.size)).map fun i=>(if k.toNat * ie.size=0 then #[] else zc)[i % (if k.toNat * ie.size=0 then (#[]:Array Value) else zc).size]!))=⟨zrow zc (k.toNat * zc.size)⟩:=by
            rw [hsz',← hzs]
            apply Array.ext'
            by_cases h0:k.toNat * zc.size=0
            · simp [h0,zrow]
            · simp [h0,zrow]
          have hlen:(zrow zc (k.toNat * zc.size)).length=k.toNat * Rp.sz α:=by simp [zrow,hzs]
          have hg:=gd.alloc_osl ⟨zrow zc (k.toNat * zc.size)⟩ e (Rp.sz α) k.toNat k.toNat (zrow zc (k.toNat * zc.size)) (by show _ ≤ (zrow _ _).length; rw [hlen]; exact Nat.le_refl _) (Nat.le_refl _) (by rw [← hlen]; exact List.take_length) hlen (by omega)
          have hll:(List.replicate k.toNat a).length=k.toNat:=List.length_replicate
          rw [hll] at next
          refine ⟨_,_,imm,_,?_,hg,next w.heap.size _ ?_⟩
          · simp only [execOp,f.eval hx,f.eval hy,Instr.makeSlice,Sem.run_bind,xO hu,Result.andThen_ok,asInt,asIntOf,Sem.run_pure,typeInfo,run_program,hie,hwr,hnt,hnb,decide_false,Bool.false_or,Bool.false_eq_true,false_or,or_self,if_false,Int.lt_irrefl,
              gt_iff_lt,run_askRoom,pV h1]
            by_cases h0:k.toNat * Rp.sz α=0
            · have:=hrow
              rw [hsz'] at this
              simp only [h0,if_true] at this ⊢
              simp only [Sem.run_pure,Result.andThen_ok,newRow,run_newObj,Sem.run_bind,this]
            · have:=hrow
              rw [hsz'] at this
              simp only [h0,if_false] at this ⊢
              simp only [Sem.run_bind,hz1,hz2,Sem.run_pure,Result.andThen_ok,newRow,run_newObj,this]
          · have:=zrow_rep (z:=zc) (a:=a) hpos hr k.toNat
            rw [hzs] at this
            show RepL _ _ _ _
            rw [hzs]
            exact this
      · cases ht
  · cases hk
end
section
variable {P:Program}{n:Nat}{B:Base}{Q:Exit→Act→World→Prop}{imm:Imm}{hs:List HA}{m:FM}{ops:List Oper}{pc d:Nat}{ty:TypeId}{pos:String}{after:Array Edge}{g:Option (Nat×Bool)}
end
end Go.LN
namespace Go.LN
open Go.Proofs
set_option maxRecDepth 20000
def M.impl_levels_l2 (deps:(List yL)) (t13:Int) (out3:List Int) (t18:Int):Option (List Int):=do
 if (decide (t18 < (deps.length:Int))) then
  let x←idx deps t18
  let out5←(do
    if (x.To == t13) then
     let x1←idx out3 t13
     let x2←idx out3 x.From
     let x3←idx out3 t13
     let l←pure (out3.set t13.toNat (if (W (x2 + 1)) > x1 then (W (x2 + 1)) else x1))
     pure (id l)
    else
     pure (id out3)
      : Option (List Int))
  M.impl_levels_l2 deps t13 out5 (W (t18 + 1))
 else
  pure (id out3)
 partial_fixpoint
theorem impl_levels_l2_ok (deps:(List yL)) (t13:Int):∀ (out3:List Int) (t18:Int) (o:List Int),M.impl_levels_l2 deps t13 out3 t18=some o→∀ {B}{I0 I:Imm}{Q}{out:List Int}{p c p3 c3 cs3},I0.le I→(S4 I p deps c)→(RL I cs3 out3)→NG Q→NO Q→(∀ (I':Imm) (out4:List Int) (p4:Option Addr) (c4:Nat) (cs4:List Value),o=out4→I0.le I'→(RL I' cs4 out4)→T 43 B Q (.exit 2) I' [hO Int (vS p4 out4 c4) cs4] [(0,vS p deps c),(5,vS p4 out4 c4),(12,vI (out.length:Int)),(13,vI t13)])→J Tryz.prog 43 B (nav (bodyOf Tryz.f37) [1,1,0,1,0,0,1,1,0,0,1,1,0]) Q I [hO Int (vS p3 out3 c3) cs3] [(0,vS p deps c),(5,vS p3 out3 c3),(6,vI t13),(12,vI (out.length:Int)),(13,vI t13),(16,vS p deps c),(17,vI (deps.length:Int)),(18,vI t18)]:=by
 refine M.impl_levels_l2.partial_correctness deps t13 _ ?_;intro self ih out3 t18 o N B I0 I Q out p c p3 c3 cs3 H h h4 hg ho hx;refine xE hg ho<|yG [(19,.bool (decide (t18 < (deps.length:Int))))]<|yI<|yO N ?_ ?_
 · intro hc1 N;refine zY<|yI<|zV<|yJ<|zR ?_;obtain ⟨x,hy1,N⟩:=zB N;refine xX rfl rfl h hy1 ?_;intro ad ccs hat hrep;obtain rfl:=zIS hrep;refine xT 0 hat [vI x.From,vI x.To,vI x.Kinds] (vA [vI x.From,vI x.To,vI x.Kinds]) rfl<|uO [vI 0,vI 0,vI 0] ?_;intro b1 hb;refine xP 0 [vI x.From,vI x.To,vI x.Kinds] [hB b1 [vI x.From,vI x.To,vI x.Kinds],hO Int (vS p3 out3 c3) cs3] rfl rfl rfl rfl<|yN rfl<|xQ<|yF [0] [(25,.bool (x.To == t13))]<|zD ?_;obtain ⟨o0,ho0,hMc⟩:=zB N;refine yV (fun I' hs' m'=>∃ (out5:List Int) (p5:Option Addr) (c5:Nat) (cs5:List Value),o0=out5∧I.le I'∧(RL I' cs5 out5)∧hs'=[hO Int (vS p5 out5 c5) cs5]∧m'=[(0,vS p deps c),(5,vS p5 out5 c5),(6,vI t13),(12,vI (out.length:Int)),(13,vI t13),(16,vS p deps c),(17,vI (deps.length:Int)),(18,vI t18)]) ?_ ?_
   · have H:=iS I;refine yO ho0 ?_ ?_
     · intro hc2 N;obtain ⟨x1,hy2,N⟩:=zB N;obtain ⟨x2,hy3,N⟩:=zB N;refine vR [.p (vS p3 out3 c3) [],.p (vI t13) [],.p (vS p3 out3 c3) [],.p (vI t13) [],.x (fun I' v hx=>∃ ad1,v=.pointer (some ad1)∧hx=[]∧(AtO (vS p3 out3 c3) (Rp.sz Int) t13.toNat ad1)∧((cs3.drop (t13.toNat * Rp.sz Int)).take (Rp.sz Int)=[vI x1])),.q (vI x1),.p (vS p3 out3 c3) [],.p (vP b1 0) [],.p (vI x.From) [0],.x (fun I' v hx=>∃ ad2,v=.pointer (some ad2)∧hx=[]∧(AtO (vS p3 out3 c3) (Rp.sz Int) x.From.toNat ad2)∧((cs3.drop (x.From.toNat * Rp.sz Int)).take (Rp.sz Int)=[vI x2])),.q (vI x2),.p (vI (W (x2 + 1))) [],.p (vI (if (W (x2 + 1)) > x1 then (W (x2 + 1)) else x1)) []] [[],[],[],[],[(2,false),(3,false)],[(4,false)],[],[],[(7,false)],[(6,false),(8,false)],[(9,false)],[(10,false)],[(5,false),(11,false)]] [hB b1 [vI x.From,vI x.To,vI x.Kinds],hO Int (vS p3 out3 c3) cs3] [] [(0,false),(1,false),(12,false)] (zH [0,1] rfl (by decide)) ?_ ?_
       · refine Op<|Op<|Op<|Op<|Ox ?_<|Oq ?_<|Op<|Op<|Op<|Ox ?_<|Oq ?_<|Op<|Op<|On
         · intro I1 hf le1;refine yT [(28,vS p3 out3 c3),(29,vI t13)] ?_;have h4:=iM le1 h4;refine mP 1 rfl rfl rfl h4 hy2 ?_;intro ad1 ccs1 hat1 hcc hrep1;obtain rfl:=hrep1;exact yS [] iR ⟨_,rfl,rfl,hat1,hcc⟩
         · intro I1 hf le1;refine zI ?_;rintro _ _ ⟨ad1,rfl,rfl,hat1,hcc⟩;exact yT [(30,.pointer (some ad1))]<|zCv 1 0 hat1 hcc [vI x1] (vI x1) rfl rfl<|xN iR
         · intro I1 hf le1;refine yT [(32,vS p3 out3 c3),(34,vI x.From)] ?_;have h4:=iM le1 h4;refine mP 1 rfl rfl rfl h4 hy3 ?_;intro ad2 ccs2 hat2 hcc1 hrep2;obtain rfl:=hrep2;exact yS [] iR ⟨_,rfl,rfl,hat2,hcc1⟩
         intro I1 hf le1;refine zI ?_;rintro _ _ ⟨ad2,rfl,rfl,hat2,hcc1⟩;exact yT [(35,.pointer (some ad2))]<|zCv 1 0 hat2 hcc1 [vI x2] (vI x2) rfl rfl<|xN iR
       intro I01 le;refine yT [(0,vS p deps c),(5,vS p3 out3 c3),(6,vI t13),(12,vI (out.length:Int)),(13,vI t13),(16,vS p deps c),(17,vI (deps.length:Int)),(18,vI t18),(26,vS p3 out3 c3),(27,vI t13),(38,vI (if (W (x2 + 1)) > x1 then (W (x2 + 1)) else x1))] ?_;have h4:=iM le h4;have H:=H.trans le;obtain ⟨x3,hy4,N⟩:=zB N;refine mP 1 rfl rfl rfl h4 hy4 ?_;intro ad3 ccs3 hat3 hcc2 hrep3;obtain rfl:=hrep3;obtain ⟨l,hy5,N⟩:=zB N;refine pY (c:=[vI (if (W (x2 + 1)) > x1 then (W (x2 + 1)) else x1)]) (x':=(if (W (x2 + 1)) > x1 then (W (x2 + 1)) else x1)) 1 0 rfl rfl rfl hat3 rfl rfl hcc2 (by kernel_rfl) (by kernel_rfl) (by kernel_rfl) h4 hy4 (by kernel_rfl) rfl ?_;rw [show out3.set t13.toNat (if (W (x2 + 1)) > x1 then (W (x2 + 1)) else x1)=l from zC hy5];intro cs6 h7 hl0;exact kS (m':=[(0,vS p deps c),(5,vS p3 out3 c3),(6,vI t13),(12,vI (out.length:Int)),(13,vI t13),(16,vS p deps c),(17,vI (deps.length:Int)),(18,vI t18),(26,vS p3 out3 c3),(27,vI t13),(38,vI (if (W (x2 + 1)) > x1 then (W (x2 + 1)) else x1))]) ⟨rfl,rfl,rfl,rfl,rfl,rfl,rfl,rfl,rfl,rfl,rfl,trivial⟩<|zCQ (hs':=[hB b1 [vI x.From,vI x.To,vI x.Kinds],hO Int (vS p3 l c3) cs6]) (m':=[(0,vS p deps c),(5,vS p3 l c3),(6,vI t13),(12,vI (out.length:Int)),(13,vI t13),(16,vS p deps c),(17,vI (deps.length:Int)),(18,vI t18),(26,vS p3 l c3),(27,vI t13),(38,vI (if (W (x2 + 1)) > x1 then (W (x2 + 1)) else x1))]) (by first | rfl | simp only [vS,hl0,List.nil_append,List.cons_append,List.set_cons_zero,List.set_cons_succ,List.eraseIdx_cons_zero,List.eraseIdx_cons_succ]) (by first | rfl | simp only [vS,hl0])<|yN rfl<|wJ (zH [1] rfl (by decide))<|yU [(0,vS p deps c),(5,vS p3 l c3),(6,vI t13),(12,vI (out.length:Int)),(13,vI t13),(16,vS p deps c),(17,vI (deps.length:Int)),(18,vI t18)]<|zX ⟨_,_,_,_,(zC N).symm,H,h7,rfl,rfl⟩
     intro hc2 N;exact zY<|wJ (zH [1] rfl (by decide))<|yU [(0,vS p deps c),(5,vS p3 out3 c3),(6,vI t13),(12,vI (out.length:Int)),(13,vI t13),(16,vS p deps c),(17,vI (deps.length:Int)),(18,vI t18)]<|zX ⟨_,_,_,_,(zC N).symm,H,h4,rfl,rfl⟩
   rintro I0 hs2 m2 ⟨out5,p5,c5,cs5,heq,le1,h6,rfl,rfl⟩;subst o0;have h:=h.mono le1;have H:=H.trans le1;exact zU<|zD<|zR<|yF [] [(18,vI (W (t18 + 1)))]<|xF<|vE [(0,vS p deps c),(5,vS p5 out5 c5),(6,vI t13),(12,vI (out.length:Int)),(13,vI t13),(16,vS p deps c),(17,vI (deps.length:Int)),(18,vI (W (t18 + 1)))]<|ih out5 (W (t18 + 1)) _ hMc H h h6 hg ho hx
 intro hc1 N;exact xA<|zO<|zO<|yU [(0,vS p deps c),(5,vS p3 out3 c3),(12,vI (out.length:Int)),(13,vI t13)]<|hx _ _ _ _ _ (zC N).symm H h4
def M.impl_levels_l1 (deps:(List yL)) (out:List Int) (out1:List Int) (t13:Int):Option (List Int):=do
 if (decide (t13 < (out.length:Int))) then
  let out4←M.impl_levels_l2 deps t13 out1 0
  M.impl_levels_l1 deps out out4 (W (t13 + 1))
 else
  pure (id out1)
 partial_fixpoint
theorem impl_levels_l1_ok (deps:(List yL)) (out:List Int):∀ (out1:List Int) (t13:Int) (o:List Int),M.impl_levels_l1 deps out out1 t13=some o→∀ {B}{I0 I:Imm}{Q p c p1 c1 cs1},I0.le I→(S4 I p deps c)→(RL I cs1 out1)→NG Q→NO Q→(∀ (I':Imm) (out2:List Int) (p2:Option Addr) (c2:Nat) (cs2:List Value),o=out2→I0.le I'→(RL I' cs2 out2)→T 43 B Q (.exit 0) I' [hO Int (vS p2 out2 c2) cs2] [(5,vS p2 out2 c2)])→J Tryz.prog 43 B (nav (bodyOf Tryz.f37) [1,1,0,1,0]) Q I [hO Int (vS p1 out1 c1) cs1] [(0,vS p deps c),(5,vS p1 out1 c1),(12,vI (out.length:Int)),(13,vI t13)]:=by
 refine M.impl_levels_l1.partial_correctness deps out _ ?_;intro self ih out1 t13 o N B I0 I Q p c p1 c1 cs1 H h h2 hg ho hx;refine xE hg ho<|yG [(14,.bool (decide (t13 < (out.length:Int))))]<|yI<|yO N ?_ ?_
 · intro hc N;refine zY<|yI<|zV<|yG [(6,vI t13)]<|wX [(16,vS p deps c),(17,vI (deps.length:Int)),(18,vI 0)]<|zD<|zV<|vE [(0,vS p deps c),(5,vS p1 out1 c1),(6,vI t13),(12,vI (out.length:Int)),(13,vI t13),(16,vS p deps c),(17,vI (deps.length:Int)),(18,vI 0)] ?_;obtain ⟨o01,ho01,hMl⟩:=zB N;refine impl_levels_l2_ok deps t13 out1 0 o01 ho01 iR h h2 (fun _ _ _ h=>hg _ _ _ h) (fun _ _ h=>ho _ _ h) ?_;intro I02 out4 p4 c4 cs4 heq1 le2 h5;subst o01;have h:=h.mono le2;have H:=H.trans le2;exact zW<|zU<|zD<|zR<|yF [] [(13,vI (W (t13 + 1)))]<|xF<|vE [(0,vS p deps c),(5,vS p4 out4 c4),(12,vI (out.length:Int)),(13,vI (W (t13 + 1)))]<|ih out4 (W (t13 + 1)) _ hMl H h h5 hg ho hx
 intro hc N;exact xA<|zO<|zO<|yU [(5,vS p1 out1 c1)]<|hx _ _ _ _ _ (zC N).symm H h2
def M.impl_levels (deps:(List yL)) (many:Int):Option ((List Int)):=do
 let out←mkrow 8 many (0:Int)
 let out2←M.impl_levels_l1 deps out out 0
 pure (id out2)
theorem impl_levels_ok:∀ (deps:(List yL)) (many:Int) r,M.impl_levels deps many=some r→∀ {I:Imm}{p c},(S4 I p deps c)→Ret Tryz.prog 37 [vS p deps c,vI many] I [] (zHI  r):=by
 intro deps many r N I p c h;unfold M.impl_levels at N;refine yB (fn:=Tryz.f37) (c:=(bodyOf Tryz.f37)) Tryz.func37 rfl rfl ?_;rintro B - -;refine yG []<|xQ<|yH 1 [] [(9,vI many)] ?_;obtain ⟨out,hy,N⟩:=zB N;refine R_mk 8 [vI 0] rfl hy rfl ?_;intro b cs h1;refine yF [] [(5,vS (some ⟨b,0,none⟩) out out.length)]<|yI<|yG [(12,vI (out.length:Int)),(13,vI 0)]<|zD<|zV<|vE [(0,vS p deps c),(5,vS (some ⟨b,0,none⟩) out out.length),(12,vI (out.length:Int)),(13,vI 0)] ?_;obtain ⟨o02,ho02,hMl1⟩:=zB N;refine impl_levels_l1_ok deps out out 0 o02 ho02 iR h h1 (fun _ _ _ h=>h) (fun _ _ h=>h) ?_;intro I03 out2 p2 c2 cs2 heq2 le3 h3;subst o02;refine zW<|wX [(4,vS p2 out2 c2)]<|zD<|yC<|xL 0 rfl ?_;intro I04 le4 hl01;have h8:=SL.of_frozen hl01 le4 h3;obtain rfl:=zC hMl1;exact xM ⟨_,_,(.tmp rfl ResV.nil),yE,⟨_,rfl,rfl,h8⟩⟩
def M.impl_LevelsOf (p:zK):Option ((List Int)):=do
 let y←mD p
 let y1←pC p
 let y2←M.impl_levels y (y1.length:Int)
 pure (id y2)
theorem impl_LevelsOf_ok:∀ (p:zK) r,M.impl_LevelsOf p=some r→∀ {I:Imm}{p1 c p2 c1},(S4 I p1 p.Arrays c)→(S4 I p2 p.Parts c1)→Ret Tryz.prog 12 [vA (cProg p p1 c p2 c1)] I [] (zHI  r):=by
 intro p r N I p1 c p2 c1 h h1;unfold M.impl_LevelsOf at N;refine yB (fn:=Tryz.f12) (c:=(bodyOf Tryz.f12)) Tryz.func12 rfl rfl ?_;rintro B - -;have H:=iS I;refine yP<|tM (cProg p p1 c p2 c1) ?_;intro b hb;refine yF [] []<|zD<|yJ ?_;obtain ⟨y,hy,N⟩:=zB N;obtain ⟨y1,hy1,N⟩:=zB N;obtain ⟨y2,hy2,N⟩:=zB N;refine vR [.p (vA (cProg p p1 c p2 c1)) [0],.x (fun I' v hx=>∃ p3 c2,v=vS p3 y c2∧hx=[]∧(S4 I' p3 y c2)),.p (vA (cProg p p1 c p2 c1)) [0],.x (fun I' v hx=>∃ p4 c3,v=vS p4 y1 c3∧hx=[]∧(S4 I' p4 y1 c3)),.q (vI (y1.length:Int)),.x (fun I' v hx=>∃ p5 c4,v=vS p5 y2 c4∧hx=[]∧(S4 I' p5 y2 c4))] [[],[(0,false)],[],[(2,false)],[(3,false)],[(1,false),(4,false)]] [hB b (cProg p p1 c p2 c1)] [] [(5,false)] (zH [0] rfl (by decide)) ?_ ?_
 · refine Op<|Ox ?_<|Op<|Ox ?_<|Oq ?_<|Ox ?_<|On
   · intro I1 hf le1;refine yT [(3,vA (cProg p p1 c p2 c1))] ?_;have H:=iS I1;have h:=h.mono le1;have h1:=h1.mono le1;refine yQ (zGR p _ hy h h1) ?_;rintro I0 hs2 v2 k2 le - ⟨v0,rfl,rfl,h2⟩ -;have H:=H.trans le;obtain ⟨p3,c2,rfl⟩:=h2.form;exact yS [] H ⟨_,_,rfl,rfl,h2⟩
   · intro I1 hf le1;refine yT [(5,vA (cProg p p1 c p2 c1))] ?_;have H:=iS I1;have h:=h.mono le1;have h1:=h1.mono le1;refine yQ (zEW p _ hy1 h h1) ?_;rintro I01 hs2 v2 k2 le1 - ⟨v01,rfl,rfl,h3⟩ -;have H:=H.trans le1;obtain ⟨p4,c3,rfl⟩:=h3.form;exact yS [] H ⟨_,_,rfl,rfl,h3⟩
   · intro I1 hf le1;refine zI ?_;rintro _ _ ⟨p4,c3,rfl,rfl,h3⟩;exact yT [(6,vS p4 y1 c3)]<|qY 5 [(7,vI (y1.length:Int))]<|xN iR
   intro I1 hf le1;refine zI ?_;rintro _ _ ⟨p3,c2,rfl,rfl,h2⟩;refine yT [(4,vS p3 y c2),(7,vI (y1.length:Int))] ?_;have H:=iS I1;refine yQ (impl_levels_ok y (y1.length:Int) _ hy2 h2) ?_;rintro I02 hs2 v2 k2 le2 - ⟨v02,rfl,rfl,h4⟩ -;have H:=H.trans le2;obtain ⟨p5,c4,rfl⟩:=h4.form;exact yS [] H ⟨_,_,rfl,rfl,h4⟩
 intro I03 le3;refine zI ?_;rintro _ _ ⟨p5,c4,rfl,rfl,h4⟩;refine yT [(8,vS p5 y2 c4)] ?_;refine yF [] [(2,vS p5 y2 c4)]<|zD<|yC ?_;obtain rfl:=zC N;exact xM ⟨_,_,(.tmp rfl ResV.nil),yE,⟨_,rfl,rfl,h4⟩⟩
def M.spec_l7Levels_l1 (y1:(List yL)) (out1:List Int) (i:Int):Option (List Int):=do
 if (decide (i < (y1.length:Int))) then
  let x←idx y1 i
  let x1←idx out1 x.From
  let x2←idx y1 i
  let x3←idx out1 x2.To
  let out3←(do
    if (decide ((W (x1 + 1)) > x3)) then
     let x4←idx y1 i
     let x5←idx y1 i
     let x6←idx out1 x5.From
     let x7←idx out1 x4.To
     let l←pure (out1.set x4.To.toNat (W (x6 + 1)))
     pure (id l)
    else
     pure (id out1)
      : Option (List Int))
  M.spec_l7Levels_l1 y1 out3 (W (i + 1))
 else
  pure (id out1)
 partial_fixpoint
theorem spec_l7Levels_l1_ok (y1:(List yL)):∀ (out1:List Int) (i:Int) (o:List Int),M.spec_l7Levels_l1 y1 out1 i=some o→∀ {B}{I0 I:Imm}{Q p4 c3 p5 c4 cs1},I0.le I→(S4 I p4 y1 c3)→(RL I cs1 out1)→NG Q→NO Q→(∀ (I':Imm) (out2:List Int) (p6:Option Addr) (c5:Nat) (cs2:List Value),o=out2→I0.le I'→(RL I' cs2 out2)→T 53 B Q (.exit 0) I' [hO Int (vS p6 out2 c5) cs2] [(3,vS p6 out2 c5)])→J Tryz.prog 53 B (nav (bodyOf Tryz.f39) [1,1,1,0,1,0]) Q I [hO Int (vS p5 out1 c4) cs1] [(3,vS p5 out1 c4),(4,vS p4 y1 c3),(5,vI i)]:=by
 refine M.spec_l7Levels_l1.partial_correctness y1 _ ?_;intro self ih out1 i o N B I0 I Q p4 c3 p5 c4 cs1 H h4 h5 hg ho hx;refine xE hg ho<|yJ<|yG [(15,.bool (decide (i < (y1.length:Int))))]<|zD<|yO N ?_ ?_
 · intro hc N;refine zY<|yI<|zV<|yJ<|jD (by kernel_rfl) (by kernel_rfl)<|gY 3 [] [(18,vS p5 out1 c4),(19,vS p4 y1 c3),(20,vI i)] ?_;obtain ⟨x,hy3,N⟩:=zB N;refine zB5 rfl rfl h4 hy3 ?_;intro ad ccs hat hrep;obtain rfl:=zIS hrep;refine gY 5 [] [(22,.pointer (some ad))]<|zAG 0 hat [vI x.From] (vI x.From) rfl ?_;obtain ⟨x1,hy4,N⟩:=zB N;refine zJu 0 rfl rfl rfl h5 hy4 ?_;intro ad1 ccs1 hat1 hcc hrep1;obtain rfl:=hrep1;refine zJv 0 0 hat1 hcc [vI x1] (vI x1) rfl rfl<|gY 12 [] [(26,vI (W (x1 + 1))),(27,vS p5 out1 c4),(28,vS p4 y1 c3),(29,vI i)] ?_;obtain ⟨x2,hy5,N⟩:=zB N;refine zB5 rfl rfl h4 hy5 ?_;intro ad2 ccs2 hat2 hrep2;obtain rfl:=zIS hrep2;refine gY 14 [] [(31,.pointer (some (ad2.add 1)))]<|zAG 1 hat2 [vI x2.To] (vI x2.To) rfl ?_;obtain ⟨x3,hy6,N⟩:=zB N;refine zJu 0 rfl rfl rfl h5 hy6 ?_;intro ad3 ccs3 hat3 hcc1 hrep3;obtain rfl:=hrep3;refine zJv 0 0 hat3 hcc1 [vI x3] (vI x3) rfl rfl<|zCT [] [(35,.bool (decide ((W (x1 + 1)) > x3)))]<|zD ?_;obtain ⟨o0,ho0,hMc⟩:=zB N;refine yV (fun I' hs' m'=>∃ (out3:List Int) (p7:Option Addr) (c6:Nat) (cs3:List Value),o0=out3∧I.le I'∧(RL I' cs3 out3)∧hs'=[hO Int (vS p7 out3 c6) cs3]∧m'=[(3,vS p7 out3 c6),(4,vS p4 y1 c3),(5,vI i)]) ?_ ?_
   · have H:=iS I;refine yO ho0 ?_ ?_
     · intro hc1 N;obtain ⟨x4,hy7,N⟩:=zB N;obtain ⟨x5,hy8,N⟩:=zB N;obtain ⟨x6,hy9,N⟩:=zB N;refine vR [.p (vS p5 out1 c4) [],.p (vS p4 y1 c3) [],.p (vI i) [],.x (fun I' v hx=>∃ ad4,v=.pointer (some ad4)∧hx=[]∧(At I' ad4 [vI x4.From,vI x4.To,vI x4.Kinds])),.x (fun I' v hx=>∃ ad41,v=.pointer (some (ad41.add 1))∧hx=[]∧(At I' ad41 [vI x4.From,vI x4.To,vI x4.Kinds])),.q (vI x4.To),.p (vS p5 out1 c4) [],.p (vS p4 y1 c3) [],.p (vI i) [],.x (fun I' v hx=>∃ ad5,v=.pointer (some ad5)∧hx=[]∧(At I' ad5 [vI x5.From,vI x5.To,vI x5.Kinds])),.x (fun I' v hx=>∃ ad51,v=.pointer (some ad51)∧hx=[]∧(At I' ad51 [vI x5.From,vI x5.To,vI x5.Kinds])),.q (vI x5.From),.x (fun I' v hx=>∃ ad6,v=.pointer (some ad6)∧hx=[]∧(AtO (vS p5 out1 c4) (Rp.sz Int) x5.From.toNat ad6)∧((cs1.drop (x5.From.toNat * Rp.sz Int)).take (Rp.sz Int)=[vI x6])),.q (vI x6),.p (vI (W (x6 + 1))) []] [[],[],[],[(1,false),(2,false)],[(3,false)],[(4,false)],[],[],[],[(7,false),(8,false)],[(9,false)],[(10,false)],[(6,false),(11,false)],[(12,false)],[(13,false)]] [hO Int (vS p5 out1 c4) cs1] [] [(0,false),(5,false),(14,false)] (zH [0] rfl (by decide)) ?_ ?_
       · refine Op<|Op<|Op<|Ox ?_<|Ox ?_<|Oq ?_<|Op<|Op<|Op<|Ox ?_<|Ox ?_<|Oq ?_<|Ox ?_<|Oq ?_<|Op<|On
         · intro I1 hf le1;refine yT [(37,vS p4 y1 c3),(38,vI i)] ?_;have h4:=h4.mono le1;refine xX rfl rfl h4 hy7 ?_;intro ad4 ccs4 hat4 hrep4;obtain rfl:=zIS hrep4;exact yS [] iR ⟨_,rfl,rfl,hat4⟩
         · intro I1 hf le1;refine zI ?_;rintro _ _ ⟨ad4,rfl,rfl,hat4⟩;exact yT [(39,.pointer (some ad4))]<|qY 5 [(40,.pointer (some (ad4.add 1)))]<|yS [] iR ⟨_,rfl,rfl,hat4⟩
         · intro I1 hf le1;refine zI ?_;rintro _ _ ⟨ad41,rfl,rfl,hat41⟩;exact yT [(40,.pointer (some (ad41.add 1)))]<|xT 1 hat41 [vI x4.To] (vI x4.To) rfl<|xN iR
         · intro I1 hf le1;refine yT [(43,vS p4 y1 c3),(44,vI i)] ?_;have h4:=h4.mono le1;refine xX rfl rfl h4 hy8 ?_;intro ad5 ccs5 hat5 hrep5;obtain rfl:=zIS hrep5;exact yS [] iR ⟨_,rfl,rfl,hat5⟩
         · intro I1 hf le1;refine zI ?_;rintro _ _ ⟨ad5,rfl,rfl,hat5⟩;exact yT [(45,.pointer (some ad5))]<|qY 11 [(46,.pointer (some ad5))]<|yS [] iR ⟨_,rfl,rfl,hat5⟩
         · intro I1 hf le1;refine zI ?_;rintro _ _ ⟨ad51,rfl,rfl,hat51⟩;exact yT [(46,.pointer (some ad51))]<|xT 0 hat51 [vI x5.From] (vI x5.From) rfl<|xN iR
         · intro I1 hf le1;refine yT [(42,vS p5 out1 c4),(47,vI x5.From)] ?_;have h5:=iM le1 h5;refine mP 0 rfl rfl rfl h5 hy9 ?_;intro ad6 ccs6 hat6 hcc2 hrep6;obtain rfl:=hrep6;exact yS [] iR ⟨_,rfl,rfl,hat6,hcc2⟩
         intro I1 hf le1;refine zI ?_;rintro _ _ ⟨ad6,rfl,rfl,hat6,hcc2⟩;exact yT [(48,.pointer (some ad6))]<|zCv 0 0 hat6 hcc2 [vI x6] (vI x6) rfl rfl<|xN iR
       intro I03 le2;refine yT [(3,vS p5 out1 c4),(4,vS p4 y1 c3),(5,vI i),(36,vS p5 out1 c4),(41,vI x4.To),(50,vI (W (x6 + 1)))] ?_;have h5:=iM le2 h5;have H:=H.trans le2;obtain ⟨x7,hy10,N⟩:=zB N;refine mP 0 rfl rfl rfl h5 hy10 ?_;intro ad7 ccs7 hat7 hcc3 hrep7;obtain rfl:=hrep7;obtain ⟨l,hy11,N⟩:=zB N;refine pY (c:=[vI (W (x6 + 1))]) (x':=(W (x6 + 1))) 0 0 rfl rfl rfl hat7 rfl rfl hcc3 (by kernel_rfl) (by kernel_rfl) (by kernel_rfl) h5 hy10 (by kernel_rfl) rfl ?_;rw [show out1.set x4.To.toNat (W (x6 + 1))=l from zC hy11];intro cs4 h8 hl0;exact kS (m':=[(3,vS p5 out1 c4),(4,vS p4 y1 c3),(5,vI i),(36,vS p5 out1 c4),(41,vI x4.To),(50,vI (W (x6 + 1)))]) ⟨rfl,rfl,rfl,rfl,rfl,rfl,trivial⟩<|zCQ (hs':=[hO Int (vS p5 l c4) cs4]) (m':=[(3,vS p5 l c4),(4,vS p4 y1 c3),(5,vI i),(36,vS p5 l c4),(41,vI x4.To),(50,vI (W (x6 + 1)))]) (by first | rfl | simp only [vS,hl0,List.nil_append,List.cons_append,List.set_cons_zero,List.set_cons_succ,List.eraseIdx_cons_zero,List.eraseIdx_cons_succ]) (by first | rfl | simp only [vS,hl0])<|yN rfl<|yU [(3,vS p5 l c4),(4,vS p4 y1 c3),(5,vI i)]<|zX ⟨_,_,_,_,(zC N).symm,H,h8,rfl,rfl⟩
     intro hc1 N;exact zY<|yU [(3,vS p5 out1 c4),(4,vS p4 y1 c3),(5,vI i)]<|zX ⟨_,_,_,_,(zC N).symm,H,h5,rfl,rfl⟩
   rintro I02 hs2 m2 ⟨out3,p7,c6,cs3,heq,le3,h7,rfl,rfl⟩;subst o0;have h4:=h4.mono le3;have H:=H.trans le3;exact zU<|zD<|zR<|yF [] [(5,vI (W (i + 1)))]<|xF<|vE [(3,vS p7 out3 c6),(4,vS p4 y1 c3),(5,vI (W (i + 1)))]<|ih out3 (W (i + 1)) _ hMc H h4 h7 hg ho hx
 intro hc N;exact xA<|zO<|zO<|yU [(3,vS p5 out1 c4)]<|hx _ _ _ _ _ (zC N).symm H h5
def M.spec_l7Levels (p:zK):Option ((List Int)):=do
 let y←sV p
 let out←mkrow 8 (y.length:Int) (0:Int)
 let y1←jN p
 let out2←M.spec_l7Levels_l1 y1 out 0
 pure (id out2)
theorem spec_l7Levels_ok:∀ (p:zK) r,M.spec_l7Levels p=some r→∀ {I:Imm}{p1 c p2 c1},(S4 I p1 p.Arrays c)→(S4 I p2 p.Parts c1)→Ret Tryz.prog 39 [vA (cProg p p1 c p2 c1)] I [] (zHI  r):=by
 intro p r N I p1 c p2 c1 h h1;unfold M.spec_l7Levels at N;refine yB (fn:=Tryz.f39) (c:=(bodyOf Tryz.f39)) Tryz.func39 rfl rfl ?_;rintro B - -;refine yP<|tM (cProg p p1 c p2 c1) ?_;intro b hb;refine yF [] []<|xQ<|yH 1 [0] [(6,vA (cProg p p1 c p2 c1))] ?_;obtain ⟨y,hy,N⟩:=zB N;refine yQ (zAj p _ hy h h1) ?_;rintro I0 hs2 v2 k2 le - ⟨v0,rfl,rfl,h2⟩ -;have h:=h.mono le;have h1:=h1.mono le;obtain ⟨p3,c2,rfl⟩:=h2.form;refine yH 3 [] [(8,vI (y.length:Int))] ?_;obtain ⟨out,hy1,N⟩:=zB N;refine R_mk 8 [vI 0] rfl hy1 rfl ?_;intro b1 cs h3;refine yF [] [(3,vS (some ⟨b1,0,none⟩) out out.length)]<|xQ<|yH 1 [1] [(10,vA (cProg p p1 c p2 c1))] ?_;obtain ⟨y1,hy2,N⟩:=zB N;refine yQ (zHu p _ hy2 h h1) ?_;rintro I01 hs2 v2 k2 le1 - ⟨v01,rfl,rfl,h4⟩ -;have h3:=iM le1 h3;have h:=h.mono le1;obtain ⟨p4,c3,rfl⟩:=h4.form;refine yF [] [(4,vS p4 y1 c3)]<|yI<|yG [(5,vI 0)]<|zD<|zV<|qT (zH [0] (hs':=[hO Int (vS (some ⟨b1,0,none⟩) out out.length) cs]) rfl (by decide))<|vE [(3,vS (some ⟨b1,0,none⟩) out out.length),(4,vS p4 y1 c3),(5,vI 0)] ?_;obtain ⟨o01,ho01,hMl⟩:=zB N;refine spec_l7Levels_l1_ok y1 out 0 o01 ho01 iR h4 h3 (fun _ _ _ h=>h) (fun _ _ h=>h) ?_;intro I04 out2 p6 c5 cs2 heq1 le4 h6;subst o01;refine zW<|wX [(2,vS p6 out2 c5)]<|zD<|yC<|xL 0 rfl ?_;intro I05 le5 hl01;have h9:=SL.of_frozen hl01 le5 h6;obtain rfl:=zC hMl;exact xM ⟨_,_,(.tmp rfl ResV.nil),yE,⟨_,rfl,rfl,h9⟩⟩
def M.spec_LevelsOf (p:zK):Option ((List Int)):=do
 let y←tF p
 if (!y) then
  pure ([]:List Int)
 else
  let y1←M.spec_l7Levels p
  pure (id y1)
theorem spec_LevelsOf_ok:∀ (p:zK) r,M.spec_LevelsOf p=some r→∀ {I:Imm}{p1 c p2 c1},(S4 I p1 p.Arrays c)→(S4 I p2 p.Parts c1)→Ret Tryz.prog 14 [vA (cProg p p1 c p2 c1)] I [] (zHI  r):=by
 intro p r N I p1 c p2 c1 h h1;unfold M.spec_LevelsOf at N;refine yB (fn:=Tryz.f14) (c:=(bodyOf Tryz.f14)) Tryz.func14 rfl rfl ?_;rintro B - -;refine yP<|tM (cProg p p1 c p2 c1) ?_;intro b hb;refine yF [] []<|yI<|yP<|yH 1 [0] [(3,vA (cProg p p1 c p2 c1))] ?_;obtain ⟨y,hy,N⟩:=zB N;refine yQ (zAO p _ hy h h1) ?_;rintro I0 hs2 v2 k2 le - ⟨v0,rfl,rfl,rfl⟩ -;have h:=h.mono le;have h1:=h1.mono le;refine yF [] [(5,.bool (!y))]<|zD<|yO N ?_ ?_
 · intro hc N;refine yP<|xW [] Int ?_;intro b1 hb1;have h3:RL I0 [] ([]:List Int):=rfl;refine yF [] [(2,vS (some ⟨b1,0,none⟩) ([]:List Int) 0)]<|zD<|yC<|zN<|xL 0 rfl ?_;intro I01 le1 hl0;have h4:=SL.of_frozen hl0 le1 h3;obtain rfl:=zC N;exact xM ⟨_,_,(.tmp rfl ResV.nil),yE,⟨_,rfl,rfl,h4⟩⟩
 intro hc N;refine zY<|xQ<|yH 1 [0] [(7,vA (cProg p p1 c p2 c1))] ?_;obtain ⟨y1,hy1,N⟩:=zB N;refine yQ (spec_l7Levels_ok p _ hy1 h h1) ?_;rintro I02 hs2 v2 k2 le2 - ⟨v01,rfl,rfl,h5⟩ -;obtain ⟨p3,c2,rfl⟩:=h5.form;refine yF [] [(2,vS p3 y1 c2)]<|zD<|yC ?_;obtain rfl:=zC N;exact xM ⟨_,_,(.tmp rfl ResV.nil),yE,⟨_,rfl,rfl,h5⟩⟩
def M.spec_DrawCriticalLength (code:(List UInt8)):Option (zK):=do
 let y←pA code
 pure (id y)
theorem spec_DrawCriticalLength_ok:∀ (code:(List UInt8)) r,M.spec_DrawCriticalLength code=some r→∀ {I:Imm}{p c},(S4 I p code c)→Ret Tryz.prog 16 [vS p code c] I [] (gT  r):=by
 intro code r N I p c h;unfold M.spec_DrawCriticalLength at N;refine yB (fn:=Tryz.f16) (c:=(bodyOf Tryz.f16)) Tryz.func16 rfl rfl ?_;rintro B - -;refine yP<|uO zTwo ?_;intro b hb;refine yN rfl<|xQ<|yH 1 [] [(3,vS p code c)] ?_;obtain ⟨y,hy,N⟩:=zB N;refine yQ (zEU code _ hy h) ?_;rintro I0 hs2 v2 k2 le - ⟨v0,rfl,rfl,⟨cs,rfl,h1⟩⟩ -;obtain ⟨v01,v02,rfl,h2,h3⟩:=fH h1;obtain ⟨p1,c1,rfl⟩:=h2.form;obtain ⟨p2,c2,rfl⟩:=h3.form;refine xP 0 (cProg y p1 c1 p2 c2) [hB b (cProg y p1 c1 p2 c2)] rfl rfl rfl rfl<|yN rfl<|zD<|yC ?_;obtain rfl:=zC N;exact xM ⟨_,_,(.cell 0 rfl rfl (by kernel_rfl) ResV.nil),yE,⟨_,rfl,rfl,⟨_,rfl,(oM ⟨_,_,rfl,h2,h3⟩)⟩⟩⟩
def M.impl_CriticalLength_l1 (y:(List Int)) (n0:Int) (t9:Int):Option (Int):=do
 if (decide (t9 < (y.length:Int))) then
  let x←idx y t9
  M.impl_CriticalLength_l1 y (if (W (x + 1)) > n0 then (W (x + 1)) else n0) (W (t9 + 1))
 else
  pure (id n0)
 partial_fixpoint
theorem impl_CriticalLength_l1_ok (y:(List Int)):∀ (n0:Int) (t9:Int) (o:Int),M.impl_CriticalLength_l1 y n0 t9=some o→∀ {B}{I0 I:Imm}{Q p3 c2},I0.le I→(S4 I p3 y c2)→NG Q→NO Q→(∀ (I':Imm) (n01:Int),o=n01→I0.le I'→T 19 B Q (.exit 0) I' [] [(3,vI n01)])→J Tryz.prog 19 B (nav (bodyOf Tryz.f17) [1,1,0,1,0]) Q I [] [(3,vI n0),(7,vS p3 y c2),(8,vI (y.length:Int)),(9,vI t9)]:=by
 refine M.impl_CriticalLength_l1.partial_correctness y _ ?_;intro self ih n0 t9 o N B I0 I Q p3 c2 H h2 hg ho hx;refine xE hg ho<|yG [(10,.bool (decide (t9 < (y.length:Int))))]<|yI<|yO N ?_ ?_
 · intro hc N;refine zY<|yI<|zV<|yJ<|zR ?_;obtain ⟨x,hy1,N⟩:=zB N;refine xX rfl rfl h2 hy1 ?_;intro ad ccs hat hrep;obtain rfl:=hrep;exact xT 0 hat [vI x] (vI x) rfl<|yF [] [(5,vI x)]<|zD<|zR<|yF [] [(3,vI (if (W (x + 1)) > n0 then (W (x + 1)) else n0))]<|zU<|zD<|zR<|yF [] [(9,vI (W (t9 + 1)))]<|xF<|vE [(3,vI (if (W (x + 1)) > n0 then (W (x + 1)) else n0)),(7,vS p3 y c2),(8,vI (y.length:Int)),(9,vI (W (t9 + 1)))]<|ih (if (W (x + 1)) > n0 then (W (x + 1)) else n0) (W (t9 + 1)) _ N H h2 hg ho hx
 intro hc N;exact xA<|zO<|zO<|yU [(3,vI n0)]<|hx _ _ (zC N).symm H
def M.impl_CriticalLength (p:zK):Option (Int):=do
 let y←M.impl_LevelsOf p
 let n01←M.impl_CriticalLength_l1 y 0 0
 pure (id n01)
theorem impl_CriticalLength_ok:∀ (p:zK) r,M.impl_CriticalLength p=some r→∀ {I:Imm}{p1 c p2 c1},(S4 I p1 p.Arrays c)→(S4 I p2 p.Parts c1)→Ret Tryz.prog 17 [vA (cProg p p1 c p2 c1)] I [] (yZ  r):=by
 intro p r N I p1 c p2 c1 h h1;unfold M.impl_CriticalLength at N;refine yB (fn:=Tryz.f17) (c:=(bodyOf Tryz.f17)) Tryz.func17 rfl rfl ?_;rintro B - -;refine yP<|tM (cProg p p1 c p2 c1) ?_;intro b hb;refine yF [] []<|wX [(3,vI 0)]<|yI<|yP<|yH 1 [0] [(6,vA (cProg p p1 c p2 c1))] ?_;obtain ⟨y,hy,N⟩:=zB N;refine yQ (impl_LevelsOf_ok p _ hy h h1) ?_;rintro I0 hs2 v2 k2 le - ⟨v0,rfl,rfl,h2⟩ -;have h:=h.mono le;obtain ⟨p3,c2,rfl⟩:=h2.form;refine yF [] [(8,vI (y.length:Int)),(9,vI 0)]<|zD<|zV<|qT (zH [] (hs':=[]) rfl (by decide))<|vE [(3,vI 0),(7,vS p3 y c2),(8,vI (y.length:Int)),(9,vI 0)] ?_;obtain ⟨o0,ho0,hMl⟩:=zB N;refine impl_CriticalLength_l1_ok y 0 0 o0 ho0 iR h2 (fun _ _ _ h=>h) (fun _ _ h=>h) ?_;intro I01 n01 heq le1;subst o0;refine zW<|wX [(2,vI n01)]<|zD<|yC ?_;obtain rfl:=zC hMl;exact uM
def M.spec_l7Length_l1 (levels:(List Int)) (n0:Int) (i:Int):Option (Int):=do
 if (decide (i < (levels.length:Int))) then
  let x←idx levels i
  let n02←(do
    if (decide ((W (x + 1)) > n0)) then
     let x1←idx levels i
     pure (W (x1 + 1))
    else
     pure (id n0)
      : Option Int)
  M.spec_l7Length_l1 levels n02 (W (i + 1))
 else
  pure (id n0)
 partial_fixpoint
theorem spec_l7Length_l1_ok (levels:(List Int)):∀ (n0:Int) (i:Int) (o:Int),M.spec_l7Length_l1 levels n0 i=some o→∀ {B}{I0 I:Imm}{Q p c},I0.le I→(S4 I p levels c)→NG Q→NO Q→(∀ (I':Imm) (n01:Int),o=n01→I0.le I'→T 24 B Q (.exit 0) I' [] [(3,vI n01)])→J Tryz.prog 24 B (nav (bodyOf Tryz.f42) [1,1,0,1,0]) Q I [] [(0,vS p levels c),(3,vI n0),(4,vI i)]:=by
 refine M.spec_l7Length_l1.partial_correctness levels _ ?_;intro self ih n0 i o N B I0 I Q p c H h hg ho hx;refine xE hg ho<|yJ<|yG [(8,.bool (decide (i < (levels.length:Int))))]<|zD<|yO N ?_ ?_
 · intro hc N;refine zY<|yI<|zV<|yP<|yH 2 [] [(11,vS p levels c),(12,vI i)] ?_;obtain ⟨x,hy,N⟩:=zB N;refine xX rfl rfl h hy ?_;intro ad ccs hat hrep;obtain rfl:=hrep;refine xT 0 hat [vI x] (vI x) rfl<|yF [] [(17,.bool (decide ((W (x + 1)) > n0)))]<|zD ?_;obtain ⟨o0,ho0,hMc⟩:=zB N;refine yV (fun I' hs' m'=>∃ (n02:Int),o0=n02∧I.le I'∧hs'=[]∧m'=[(0,vS p levels c),(3,vI n02),(4,vI i)]) ?_ ?_
   · have H:=iS I;refine yO ho0 ?_ ?_
     · intro hc1 N;refine zR<|yH 2 [] [(18,vS p levels c),(19,vI i)] ?_;obtain ⟨x1,hy1,N⟩:=zB N;refine xX rfl rfl h hy1 ?_;intro ad1 ccs1 hat1 hrep1;obtain rfl:=hrep1;exact xT 0 hat1 [vI x1] (vI x1) rfl<|yF [] [(3,vI (W (x1 + 1)))]<|yU [(0,vS p levels c),(3,vI (W (x1 + 1))),(4,vI i)]<|zX ⟨_,(zC N).symm,H,rfl,rfl⟩
     intro hc1 N;exact zY<|yU [(0,vS p levels c),(3,vI n0),(4,vI i)]<|zX ⟨_,(zC N).symm,H,rfl,rfl⟩
   rintro I0 hs2 m2 ⟨n02,heq,le,rfl,rfl⟩;subst o0;have h:=h.mono le;have H:=H.trans le;exact zU<|zD<|zR<|yF [] [(4,vI (W (i + 1)))]<|xF<|vE [(0,vS p levels c),(3,vI n02),(4,vI (W (i + 1)))]<|ih n02 (W (i + 1)) _ hMc H h hg ho hx
 intro hc N;exact xA<|zO<|zO<|yU [(3,vI n0)]<|hx _ _ (zC N).symm H
def M.spec_l7Length (levels:(List Int)):Option (Int):=do
 let n01←M.spec_l7Length_l1 levels 0 0
 pure (id n01)
theorem spec_l7Length_ok:∀ (levels:(List Int)) r,M.spec_l7Length levels=some r→∀ {I:Imm}{p c},(S4 I p levels c)→Ret Tryz.prog 42 [vS p levels c] I [] (yZ  r):=by
 intro levels r N I p c h;unfold M.spec_l7Length at N;refine yB (fn:=Tryz.f42) (c:=(bodyOf Tryz.f42)) Tryz.func42 rfl rfl ?_;rintro B - -;refine yG []<|wX [(3,vI 0)]<|yI<|yG [(4,vI 0)]<|zD<|zV<|vE [(0,vS p levels c),(3,vI 0),(4,vI 0)] ?_;obtain ⟨o01,ho01,hMl⟩:=zB N;refine spec_l7Length_l1_ok levels 0 0 o01 ho01 iR h (fun _ _ _ h=>h) (fun _ _ h=>h) ?_;intro I01 n01 heq1 le1;subst o01;refine zW<|wX [(2,vI n01)]<|zD<|yC ?_;obtain rfl:=zC hMl;exact uM
def M.spec_CriticalLength (p:zK):Option (Int):=do
 let y←M.spec_LevelsOf p
 let y1←M.spec_l7Length y
 pure (id y1)
theorem spec_CriticalLength_ok:∀ (p:zK) r,M.spec_CriticalLength p=some r→∀ {I:Imm}{p1 c p2 c1},(S4 I p1 p.Arrays c)→(S4 I p2 p.Parts c1)→Ret Tryz.prog 18 [vA (cProg p p1 c p2 c1)] I [] (yZ  r):=by
 intro p r N I p1 c p2 c1 h h1;unfold M.spec_CriticalLength at N;refine yB (fn:=Tryz.f18) (c:=(bodyOf Tryz.f18)) Tryz.func18 rfl rfl ?_;rintro B - -;refine yP<|tM (cProg p p1 c p2 c1) ?_;intro b hb;refine yF [] []<|xQ<|yH 1 [0] [(3,vA (cProg p p1 c p2 c1))] ?_;obtain ⟨y,hy,N⟩:=zB N;refine yQ (spec_LevelsOf_ok p _ hy h h1) ?_;rintro I0 hs2 v2 k2 le - ⟨v0,rfl,rfl,h2⟩ -;obtain ⟨p3,c2,rfl⟩:=h2.form;obtain ⟨y1,hy1,N⟩:=zB N;refine yQ (spec_l7Length_ok y _ hy1 h2) ?_;rintro I01 hs2 v2 k2 le1 - ⟨v01,rfl,rfl,rfl⟩ -;refine yF [] [(2,vI y1)]<|zD<|yC ?_;obtain rfl:=zC N;exact uM
def M.impl_DepBetween (p:zK) (from0:Int) (to0:Int):Option (Int):=do
 let (y1,y2)←kZ p
 let t42←(do
   if (!y2) then
    pure true
   else
    let t←y1
    let y3←wE from0 0 (W ((t.list.length:Int) - 1))
    if (!y3) then
     pure true
    else
     let y4←wE to0 0 (W ((t.list.length:Int) - 1))
     if (!y4) then
      pure true
     else
      pure (decide (from0 ≥ to0))
     : Option Bool)
 if t42 then
  pure (id 0)
 else
  let t1←y1
  let y5←rX t1 from0 to0
  pure (id y5)
theorem impl_DepBetween_ok:∀ (p:zK) (from0:Int) (to0:Int) r,M.impl_DepBetween p from0 to0=some r→∀ {I:Imm}{p1 c p2 c1},(S4 I p1 p.Arrays c)→(S4 I p2 p.Parts c1)→Ret Tryz.prog 20 [vA (cProg p p1 c p2 c1),vI from0,vI to0] I [] (yZ  r):=by
 intro p from0 to0 r N I p1 c p2 c1 h h1;unfold M.impl_DepBetween at N;refine yB (fn:=Tryz.f20) (c:=(bodyOf Tryz.f20)) Tryz.func20 rfl rfl ?_;rintro B - -;have H:=iS I;refine yP<|tM (cProg p p1 c p2 c1) ?_;intro b hb;refine yF [] []<|xQ<|yH 1 [0] [(10,vA (cProg p p1 c p2 c1))] ?_;obtain ⟨⟨y1,y2⟩,hy,N⟩:=zB N;refine yQ (zEV p _ hy h h1) ?_;rintro I0 hs2 v2 k2 le - ⟨v0,v01,rfl,rfl,h2,rfl⟩ -;have H:=H.trans le;refine yF [] [(7,v0),(8,.bool y2)]<|yI<|yJ ?_;obtain ⟨o0,ho0,hMc⟩:=zB N;refine yV (fun I' hs' m'=>∃ (t42:Bool),o0=t42∧I0.le I'∧hs'=[]∧m'=[(1,vI from0),(2,vI to0),(7,v0),(42,.bool t42)]) ?_ ?_
 · have H:=iS I0;refine zR<|yH 3 [] [(16,.bool (!y2))] ?_;cases hc:(!y2) with
   | true =>
    have hM0:=zT hc ho0
    try rw [hc]
    exact yF [] [(42,vY)]<|wJ (zH [] rfl (by decide))<|yU [(1,vI from0),(2,vI to0),(7,v0),(42,vY)]<|zX ⟨_,(zC hM0).symm,H,rfl,rfl⟩
   | false =>
    have hM01:=zS hc ho0
    try rw [hc]
    refine yH 5 [] [(17,vI from0),(18,v0)] ?_;obtain ⟨t,hy1,N⟩:=zB hM01;obtain ⟨ad,ccs,rfl,hat,hrep⟩:=zId h2 hy1;obtain ⟨v02,v03,v04,v05,v06,rfl,h4,h5,h6,h7,h8⟩:=zCV hrep;obtain ⟨p3,c2,rfl⟩:=h4.form;obtain ⟨p4,c3,rfl⟩:=h5.form;obtain ⟨p5,c4,rfl⟩:=h6.form;obtain ⟨p6,c5,rfl⟩:=h7.form;obtain ⟨p7,c6,rfl⟩:=h8.form;refine yH 7 [] [(20,.pointer (some (ad.add 2)))]<|xT 2 hat [vS p5 t.list c4] (vS p5 t.list c4) rfl<|yH 10 [] [(23,vI (W ((t.list.length:Int) - 1)))] ?_;obtain ⟨y3,hy2,N⟩:=zB N;refine yQ (wV from0 0 (W ((t.list.length:Int) - 1)) _ hy2 ) ?_;rintro I02 hs2 v2 k2 le1 - ⟨v07,rfl,rfl,rfl⟩ -;have hat:=hat.mono le1;have H:=H.trans le1;refine yH 14 [] [(27,.bool (!y3))] ?_;cases hc1:(!y3) with
    | true =>
     have hM02:=zT hc1 N
     try rw [hc1]
     exact yF [] [(42,vY)]<|wJ (zH [] rfl (by decide))<|yU [(1,vI from0),(2,vI to0),(7,.pointer (some ad)),(42,vY)]<|zX ⟨_,(zC hM02).symm,H,rfl,rfl⟩
    | false =>
     have hM03:=zS hc1 N
     try rw [hc1]
     refine yH 18 [] [(28,vI to0),(31,.pointer (some (ad.add 2)))]<|xT 2 hat [vS p5 t.list c4] (vS p5 t.list c4) rfl<|yH 21 [] [(34,vI (W ((t.list.length:Int) - 1)))] ?_;obtain ⟨y4,hy3,N⟩:=zB hM03;refine yQ (wV to0 0 (W ((t.list.length:Int) - 1)) _ hy3 ) ?_;rintro I03 hs2 v2 k2 le2 - ⟨v08,rfl,rfl,rfl⟩ -;have H:=H.trans le2;refine yH 25 [] [(38,.bool (!y4))] ?_;cases hc2:(!y4) with
     | true =>
      have hM04:=zT hc2 N
      try rw [hc2]
      exact yF [] [(42,vY)]<|wJ (zH [] rfl (by decide))<|yU [(1,vI from0),(2,vI to0),(7,.pointer (some ad)),(42,vY)]<|zX ⟨_,(zC hM04).symm,H,rfl,rfl⟩
     | false =>
      have hM05:=zS hc2 N
      try rw [hc2]
      exact yF [] [(42,.bool (decide (from0 ≥ to0)))]<|wJ (zH [] rfl (by decide))<|yU [(1,vI from0),(2,vI to0),(7,.pointer (some ad)),(42,.bool (decide (from0 ≥ to0)))]<|zX ⟨_,(zC hM05).symm,H,rfl,rfl⟩
 rintro I01 hs2 m2 ⟨t42,heq,le3,rfl,rfl⟩;subst o0;have h2:=h2.mono le3;refine zD<|yO hMc ?_ ?_
 · intro hc3 N;refine yG [(6,vI 0)]<|zD<|yC<|zN ?_;obtain rfl:=zC N;exact uM
 intro hc3 N;refine zY<|xQ<|yH 3 [] [(43,v0),(44,vI from0),(45,vI to0)] ?_;obtain ⟨t1,hy4,N⟩:=zB N;obtain ⟨ad1,ccs1,rfl,hat1,hrep1⟩:=zId h2 hy4;obtain ⟨v09,v010,v011,v012,v013,rfl,h11,h12,h13,h14,h15⟩:=zCV hrep1;obtain ⟨p8,c7,rfl⟩:=h11.form;obtain ⟨p9,c8,rfl⟩:=h12.form;obtain ⟨p10,c9,rfl⟩:=h13.form;obtain ⟨p11,c10,rfl⟩:=h14.form;obtain ⟨p12,c11,rfl⟩:=h15.form;obtain ⟨y5,hy5,N⟩:=zB N;refine yQ (dG t1 from0 to0 _ hy5 h11 h12 h13 h14 h15 hat1) ?_;rintro I04 hs2 v2 k2 le4 - ⟨v014,rfl,rfl,rfl⟩ -;refine yF [] [(6,vI y5)]<|zD<|yC ?_;obtain rfl:=zC N;exact uM
def M.laws_FnLevelBound_l1 (y:zK) (y2:(List zQ)) (chain:Bool) (i:Int):Option (Bool):=do
 if (decide (i < (y2.length:Int))) then
  let chain2←(do
    if chain then
     let y4←M.impl_DepBetween y (W (i - 1)) i
     pure (y4 != 0)
    else
     pure false
      : Option Bool)
  M.laws_FnLevelBound_l1 y y2 chain2 (W (i + 1))
 else
  pure (id chain)
 partial_fixpoint
theorem laws_FnLevelBound_l1_ok (y:zK) (y2:(List zQ)):∀ (chain:Bool) (i:Int) (o:Bool),M.laws_FnLevelBound_l1 y y2 chain i=some o→∀ {B}{I0 I:Imm}{Q}{y1:Int}{p1 c1 p2 c2}{b:Nat},I0.le I→(S4 I p1 y.Arrays c1)→(S4 I p2 y.Parts c2)→NG Q→NO Q→(∀ (I':Imm) (chain1:Bool),o=chain1→I0.le I'→T 48 B Q (.exit 0) I' [] [(4,vI y1),(5,vI (y2.length:Int)),(6,.bool chain1)])→J Tryz.prog 48 B (nav (bodyOf Tryz.f5) [1,1,1,1,1,1,1,0,1,0]) Q I [hB b (cProg y p1 c1 p2 c2)] [(3,vP b 0),(4,vI y1),(5,vI (y2.length:Int)),(6,.bool chain),(7,vI i)]:=by
 refine M.laws_FnLevelBound_l1.partial_correctness y y2 _ ?_;intro self ih chain i o N B I0 I Q y1 p1 c1 p2 c2 b H h2 h3 hg ho hx;refine xE hg ho<|yJ<|yG [(24,.bool (decide (i < (y2.length:Int))))]<|zD<|yO N ?_ ?_
 · intro hc2 N;refine zY<|yI<|zV ?_;obtain ⟨o0,ho0,hMc⟩:=zB N;refine yV (fun I' hs' m'=>∃ (chain2:Bool),o0=chain2∧I.le I'∧hs'=[hB b (cProg y p1 c1 p2 c2)]∧m'=[(3,vP b 0),(4,vI y1),(5,vI (y2.length:Int)),(6,.bool chain2),(7,vI i)]) ?_ ?_
   · have H:=iS I;refine zR<|yH 2 [] [(28,.bool chain)] ?_;cases hc3:chain with
     | true =>
      have hM0:=zT hc3 ho0
      try rw [hc3]
      refine yH 6 [0] [(29,vA (cProg y p1 c1 p2 c2)),(31,vI (W (i - 1))),(32,vI i)] ?_;obtain ⟨y4,hy4,N⟩:=zB hM0;refine yQ (impl_DepBetween_ok y (W (i - 1)) i _ hy4 h2 h3) ?_;rintro I05 hs2 v2 k2 le4 - ⟨v06,rfl,rfl,rfl⟩ -;have H:=H.trans le4;exact yF [] [(6,.bool (y4 != 0))]<|yU [(3,vP b 0),(4,vI y1),(5,vI (y2.length:Int)),(6,.bool (y4 != 0)),(7,vI i)]<|zX ⟨_,(zC N).symm,H,rfl,rfl⟩
     | false =>
      have hM01:=zS hc3 ho0
      try rw [hc3]
      exact yF [] [(6,vF)]<|yU [(3,vP b 0),(4,vI y1),(5,vI (y2.length:Int)),(6,vF),(7,vI i)]<|zX ⟨_,(zC hM01).symm,H,rfl,rfl⟩
   rintro I04 hs2 m2 ⟨chain2,heq,le5,rfl,rfl⟩;subst o0;have h2:=h2.mono le5;have h3:=h3.mono le5;have H:=H.trans le5;exact zU<|zD<|zR<|yF [] [(7,vI (W (i + 1)))]<|xF<|vE [(3,vP b 0),(4,vI y1),(5,vI (y2.length:Int)),(6,.bool chain2),(7,vI (W (i + 1)))]<|ih chain2 (W (i + 1)) _ hMc H h2 h3 hg ho hx
 intro hc2 N;exact xA<|zO<|zO<|wJ (zH [] rfl (by decide))<|yU [(4,vI y1),(5,vI (y2.length:Int)),(6,.bool chain)]<|hx _ _ (zC N).symm H
def M.laws_FnLevelBound (code:(List UInt8)):Option (Bool):=do
 if (decide ((code.length:Int) > 1048576)) then
  pure true
 else
  let y←M.spec_DrawCriticalLength code
  let y1←M.impl_CriticalLength y
  let y2←pC y
  let y3←M.spec_CriticalLength y
  if (y1 != y3) then
   pure false
  else
   let chain1←M.laws_FnLevelBound_l1 y y2 true 1
   let t2←(do
     if (decide (y1 ≤ (y2.length:Int))) then
      if (!chain1) then
       pure true
      else
       pure (y1 == (y2.length:Int))
     else
      pure false
       : Option Bool)
   pure (id t2)
theorem laws_FnLevelBound_ok:∀ (code:(List UInt8)) r,M.laws_FnLevelBound code=some r→∀ {I:Imm}{p c},(S4 I p code c)→Ret Tryz.prog 5 [vS p code c] I [] (zZ  r):=by
 intro code r N I p c h;unfold M.laws_FnLevelBound at N;refine yB (fn:=Tryz.f5) (c:=(bodyOf Tryz.f5)) Tryz.func5 rfl rfl ?_;rintro B - -;have H:=iS I;refine yG []<|yI<|yG [(10,.bool (decide ((code.length:Int) > 1048576)))]<|zD<|yO N ?_ ?_
 · intro hc N;refine yG [(2,vY)]<|zD<|yC<|zN ?_;obtain rfl:=zC N;exact uM
 intro hc N;refine zY<|xQ<|yH 1 [] [(11,vS p code c)] ?_;obtain ⟨y,hy,N⟩:=zB N;refine yQ (spec_DrawCriticalLength_ok code _ hy h) ?_;rintro I0 hs2 v2 k2 le - ⟨v0,rfl,rfl,⟨cs,rfl,h1⟩⟩ -;have H:=H.trans le;obtain ⟨v01,v02,rfl,h2,h3⟩:=fH h1;obtain ⟨p1,c1,rfl⟩:=h2.form;obtain ⟨p2,c2,rfl⟩:=h3.form;refine uO zTwo ?_;intro b hb;refine xP 0 (cProg y p1 c1 p2 c2) [hB b (cProg y p1 c1 p2 c2)] rfl rfl rfl rfl<|yN rfl<|xQ<|yH 1 [0] [(13,vA (cProg y p1 c1 p2 c2))] ?_;obtain ⟨y1,hy1,N⟩:=zB N;refine yQ (impl_CriticalLength_ok y _ hy1 h2 h3) ?_;rintro I01 hs2 v2 k2 le1 - ⟨v03,rfl,rfl,rfl⟩ -;have h2:=h2.mono le1;have h3:=h3.mono le1;have H:=H.trans le1;refine yF [] [(4,vI y1)]<|xQ<|yH 1 [0] [(15,vA (cProg y p1 c1 p2 c2))] ?_;obtain ⟨y2,hy2,N⟩:=zB N;refine yQ (zEW y _ hy2 h2 h3) ?_;rintro I02 hs2 v2 k2 le2 - ⟨v04,rfl,rfl,h5⟩ -;have h2:=h2.mono le2;have h3:=h3.mono le2;have H:=H.trans le2;obtain ⟨p3,c3,rfl⟩:=h5.form;refine yF [] [(5,vI (y2.length:Int))]<|yI<|yP<|yH 2 [0] [(18,vI y1),(19,vA (cProg y p1 c1 p2 c2))] ?_;obtain ⟨y3,hy3,N⟩:=zB N;refine yQ (spec_CriticalLength_ok y _ hy3 h2 h3) ?_;rintro I03 hs2 v2 k2 le3 - ⟨v05,rfl,rfl,rfl⟩ -;have h2:=h2.mono le3;have h3:=h3.mono le3;have H:=H.trans le3;refine yF [] [(21,.bool (y1 != y3))]<|zD<|yO N ?_ ?_
 · intro hc1 N;refine yG [(2,vF)]<|zD<|yC<|zN ?_;obtain rfl:=zC N;exact uM
 intro hc1 N;refine zY<|wX [(6,vY)]<|yI<|yG [(7,vI 1)]<|zD<|zV<|vE [(3,vP b 0),(4,vI y1),(5,vI (y2.length:Int)),(6,vY),(7,vI 1)] ?_;obtain ⟨o01,ho01,hMl⟩:=zB N;refine laws_FnLevelBound_l1_ok y y2 true 1 o01 ho01 iR h2 h3 (fun _ _ _ h=>h) (fun _ _ h=>h) ?_;intro I06 chain1 heq1 le6;subst o01;have H:=H.trans le6;refine zW<|zD<|yJ ?_;obtain ⟨o02,ho02,hMc1⟩:=zB hMl;refine yV (fun I' hs' m'=>∃ (t2:Bool),o02=t2∧I06.le I'∧hs'=[]∧m'=[(2,.bool t2)]) ?_ ?_
 · have H:=iS I06;refine zR<|yH 4 [] [(39,.bool (decide (y1 ≤ (y2.length:Int))))] ?_;cases hc4:(decide (y1 ≤ (y2.length:Int))) with
   | true =>
    have hM02:=zT hc4 ho02
    try rw [hc4]
    refine yH 7 [] [(42,.bool (!chain1))] ?_;cases hc5:(!chain1) with
    | true =>
     have hM03:=zT hc5 hM02
     try rw [hc5]
     exact yF [] [(2,vY)]<|yU [(2,vY)]<|zX ⟨_,(zC hM03).symm,H,rfl,rfl⟩
    | false =>
     have hM04:=zS hc5 hM02
     try rw [hc5]
     exact yF [] [(2,.bool (y1 == (y2.length:Int)))]<|yU [(2,.bool (y1 == (y2.length:Int)))]<|zX ⟨_,(zC hM04).symm,H,rfl,rfl⟩
   | false =>
    have hM05:=zS hc4 ho02
    try rw [hc4]
    exact yF [] [(2,vF)]<|yU [(2,vF)]<|zX ⟨_,(zC hM05).symm,H,rfl,rfl⟩
 rintro I07 hs2 m2 ⟨t2,heq2,le7,rfl,rfl⟩;subst o02;refine zD<|yC ?_;obtain rfl:=zC hMc1;exact uM
end Go.LN
namespace Go.LN
theorem specInst4 (P:zK) (hv:validP P=true):sV P=some (progI P):=by
  obtain ⟨_,v2,v3,_⟩:=jU hv;have hl:=zGN P v2 v3 _ 0 [] (Nat.zero_add _) (by simp);rw [Int.natCast_zero,List.nil_append] at hl;simp only [sV,hl,oB,oS,oP,id];rfl
end Go.LN
namespace Go.LN
def dpb (P:zK) (a b:Int):Int:=if validP P=true∧0 ≤ a∧a < b∧b < ((progI P).length:Int) then kindI P a.toNat b.toNat else 0
theorem implDep (P:zK) (hb:BG P) (a b:Int):M.impl_DepBetween P a b=some (dpb P a b):=by
  unfold M.impl_DepBetween dpb;rw [implTrace P hb];cases hv:validP P with
  | false=>simp
  | true =>
    have hlen:=(jU hv).2.2.2;have hi:∀ z ∈ progI P,InP P z:=fun z hz=>zFZ hb hv hz;have hW:W (((trcP P).list.length:Int) - 1)=((progI P).length:Int) - 1:=by show W (((progI P).length:Int) - 1)=_; rw [sX (by omega) (by omega)]
    simp only [if_true,oB,oS,oP,Bool.not_true,bF,if_false,oK,hW,true_and,id];by_cases h:0 ≤ a∧a < b∧b < ((progI P).length:Int)
    · rw [if_pos h];obtain ⟨k,rfl⟩:∃ k:Nat,a=(k:Int):=⟨a.toNat,by omega⟩;obtain ⟨m,rfl⟩:∃ m:Nat,b=(m:Int):=⟨b.toNat,by omega⟩;have e1:(0:Int) ≤ (k:Int):=by omega
      have e2:(k:Int) ≤ ((progI P).length:Int) - 1:=by omega
      have e3:(0:Int) ≤ (m:Int):=by omega
      have e4:(m:Int) ≤ ((progI P).length:Int) - 1:=by omega
      have e5:¬((k:Int) ≥ (m:Int)):=by omega
      simp only [e1,e2,e3,e4,e5,decide_true,decide_false,Bool.and_self,Bool.not_true,bF,if_false,oS,betweenV hi (show k < (progI P).length by omega) (show m < (progI P).length by omega),iN]
    · rw [if_neg h];by_cases h1:0 ≤ a∧a ≤ ((progI P).length:Int) - 1
      · by_cases h2:0 ≤ b∧b ≤ ((progI P).length:Int) - 1
        · have e5:a ≥ b:=by omega
          simp only [h1.1,h1.2,h2.1,h2.2,e5,decide_true,Bool.and_self,Bool.not_true,bF,if_false,oS,if_true]
        · have e4:(!(decide (0 ≤ b) && decide (b ≤ ((progI P).length:Int) - 1)))=true:=by simp; omega
          simp only [h1.1,h1.2,e4,decide_true,Bool.and_self,Bool.not_true,bF,if_false,oS,if_true]
      · have e4:(!(decide (0 ≤ a) && decide (a ≤ ((progI P).length:Int) - 1)))=true:=by simp; omega
        simp only [e4,oS,if_true]
end Go.LN
namespace Go.LN
def kGQ (P:zK) (i m:Nat):Int:=if m < (progI P).length then kindI P i m else 0
def mxV (P:zK) (f:Nat→Int) (k:Nat):Nat→Int
  | 0=>0
  | i + 1=>if kGQ P i k=0 then mxV P f k i else if f i + 1 > mxV P f k i then f i + 1 else mxV P f k i
def levL (P:zK):Nat→List Int
  | 0=>[]
  | k + 1=>levL P k ++ [mxV P (fun i=>(levL P k).getD i 0) k k]
def lev (P:zK) (k:Nat):Int:=mxV P (fun i=>(levL P k).getD i 0) k k
theorem levL_len (P:zK):∀ k,(levL P k).length=k
  | 0=>rfl
  | k + 1=>by rw [levL,List.length_append,levL_len P k]; rfl
theorem levL_get (P:zK):∀ (k i:Nat),i < k→(levL P k).getD i 0=lev P i
  | k + 1,i,h=>by
    rw [levL]
    have hl:=levL_len P k
    rcases Nat.lt_or_ge i k with h' | h'
    · rw [← levL_get P k i h',List.getD_eq_getElem?_getD,List.getElem?_append_left (by omega),← List.getD_eq_getElem?_getD]
    · have e:i=k:=by omega
      subst e
      rw [List.getD_eq_getElem?_getD,List.getElem?_append_right (by omega),hl,Nat.sub_self]; rfl
theorem mxV_congr {P:zK}{f g:Nat→Int}{k:Nat}:∀ j:Nat,(∀ i,i < j→f i=g i)→mxV P f k j=mxV P g k j
  | 0,_=>rfl
  | j + 1,h=>by rw [mxV,mxV,mxV_congr j fun i hi=>h i (by omega),h j (by omega)]
theorem lev_eq (P:zK) (k:Nat):lev P k=mxV P (lev P) k k:=mxV_congr k fun i hi=>levL_get P k i hi
theorem mxV_nonneg {P:zK}{f:Nat→Int}{k:Nat}:∀ j:Nat,0 ≤ mxV P f k j
  | 0=>Int.le_refl _
  | j + 1=>by
    have:=mxV_nonneg (P:=P) (f:=f) (k:=k) j
    rw [mxV]
    split
    · exact this
    · split
      · omega
      · exact this
theorem mxV_le {P:zK}{f:Nat→Int}{k:Nat}:∀ j:Nat,(∀ i:Nat,i < j→f i ≤ (i:Int))→mxV P f k j ≤ (j:Int)
  | 0,_=>Int.le_refl _
  | j + 1,h=>by
    have:=mxV_le (P:=P) (f:=f) (k:=k) j fun i hi=>h i (by omega)
    have hj:=h j (by omega)
    rw [mxV]
    split
    · omega
    · split <;> omega
theorem lev_rng (P:zK):∀ k:Nat,0 ≤ lev P k∧lev P k ≤ (k:Int):=by
  intro k
  induction k using Nat.strongRecOn with
  | _ k ih=>rw [lev_eq]; exact ⟨mxV_nonneg k,mxV_le k fun i hi=>(ih i hi).2⟩
theorem mxV_ge {P:zK}{f:Nat→Int}{k i:Nat} (hk:kGQ P i k ≠ 0):∀ j:Nat,i < j→f i + 1 ≤ mxV P f k j
  | j + 1,h=>by
    rw [mxV]
    rcases Nat.lt_or_ge i j with h' | h'
    · have:=mxV_ge (P:=P) (f:=f) hk j h'
      split
      · exact this
      · split <;> omega
    · have e:i=j:=by omega
      subst e
      rw [if_neg hk]
      split <;> omega
def stpF (g:Nat→Int) (d:yL):Nat→Int:=if W (g d.From.toNat + 1) > g d.To.toNat then upd g d.To.toNat (W (g d.From.toNat + 1)) else g
def stpP (p:Nat→Bool) (g:Nat→Int) (d:yL):Nat→Int:=if p d.To.toNat then stpF g d else g
theorem stp_block (P:zK) (p:Nat→Bool) (q:Nat):∀ (j k:Nat) (g:Nat→Int),q < k→(depR P q k j).foldl (stpP p) g=fun m=>if (k ≤ m∧m < k + j)∧p m=true∧kindI P q m ≠ 0∧W (g q + 1) > g m then W (g q + 1) else g m
  | 0,k,g,_=>by
    funext m
    rw [if_neg (by omega)]
    rfl
  | j + 1,k,g,hq=>by
    rw [zCp,List.foldl_append]
    by_cases h0:kindI P q k=0
    · have e:dep1 P q k=[]:=by unfold dep1; rw [if_pos (by simpa using h0)]
      rw [e,List.foldl_nil,stp_block P p q j (k + 1) g (by omega)]
      funext m
      by_cases hm:m=k
      · subst hm
        rw [if_neg (by omega),if_neg (fun h=>h.2.2.1 h0)]
      · by_cases hc:(k + 1 ≤ m∧m < k + 1 + j)∧p m=true∧kindI P q m ≠ 0∧W (g q + 1) > g m
        · rw [if_pos hc,if_pos ⟨⟨by omega,by omega⟩,hc.2⟩]
        · rw [if_neg hc,if_neg fun h=>hc ⟨⟨by omega,by omega⟩,h.2⟩]
    · have e:dep1 P q k=[⟨(q:Int),(k:Int),kindI P q k⟩]:=by unfold dep1; rw [if_neg (by simpa using h0)]
      rw [e,List.foldl_cons,List.foldl_nil]
      have hst:stpP p g ⟨(q:Int),(k:Int),kindI P q k⟩=fun m=>if m=k∧p m=true∧W (g q + 1) > g m then W (g q + 1) else g m:=by
        unfold stpP stpF upd
        simp only [iN]
        funext m
        by_cases hp:p k=true
        · rw [if_pos hp]
          by_cases hw:W (g q + 1) > g k
          · rw [if_pos hw]
            by_cases hm:m=k
            · subst hm
              rw [if_pos rfl,if_pos ⟨rfl,hp,hw⟩]
            · rw [if_neg hm,if_neg fun h=>hm h.1]
          · rw [if_neg hw]
            by_cases hm:m=k
            · subst hm
              rw [if_neg fun h=>hw h.2.2]
            · rw [if_neg fun h=>hm h.1]
        · rw [if_neg hp]
          by_cases hm:m=k
          · subst hm
            rw [if_neg fun h=>hp h.2.1]
          · rw [if_neg fun h=>hm h.1]
      rw [hst,stp_block P p q j (k + 1) _ (by omega)]
      funext m
      have hqk:¬(q=k∧p q=true∧W (g q + 1) > g q):=fun h=>by omega
      rw [if_neg hqk]
      by_cases hm:m=k
      · subst hm
        rw [if_neg (by omega)]
        by_cases hw:p m=true∧W (g q + 1) > g m
        · rw [if_pos ⟨rfl,hw⟩,if_pos ⟨⟨by omega,by omega⟩,hw.1,h0,hw.2⟩]
        · rw [if_neg fun h=>hw h.2,if_neg fun h=>hw ⟨h.2.1,h.2.2.2⟩]
      · rw [if_neg (c:=m=k∧p m=true∧W (g q + 1) > g m) fun h=>hm h.1]
        by_cases hc:(k + 1 ≤ m∧m < k + 1 + j)∧p m=true∧kindI P q m ≠ 0∧W (g q + 1) > g m
        · rw [if_pos hc,if_pos ⟨⟨by omega,by omega⟩,hc.2⟩]
        · rw [if_neg hc,if_neg fun h=>hc ⟨⟨by omega,by omega⟩,h.2⟩]
theorem W_lev {P:zK}{k:Nat} (h:k ≤ 1000000):W (lev P k + 1)=lev P k + 1:=by
  have:=lev_rng P k;exact sX (by omega) (by omega)
theorem stp_all (P:zK) (hlen:(progI P).length ≤ 120):∀ (j i:Nat),i + j=(progI P).length→(depA P i j).foldl (stpP fun _=>true) (fun m=>mxV P (lev P) m (min i m))=fun m=>mxV P (lev P) m (min (progI P).length m)
  | 0,i,hi=>by
    rw [show i=(progI P).length by omega]
    rfl
  | j + 1,i,hi=>by
    rw [zCq,List.foldl_append,stp_block P _ i _ _ _ (by omega),← stp_all P hlen j (i + 1) (by omega)]
    congr 1
    funext m
    rw [Nat.min_self,← lev_eq,W_lev (by omega)]
    by_cases hm:m ≤ i
    · rw [if_neg (by omega),show min i m=m by omega,show min (i + 1) m=m by omega]
    · rw [show min i m=i by omega,show min (i + 1) m=i + 1 by omega,mxV]
      unfold kGQ
      by_cases hn:m < (progI P).length
      · rw [if_pos hn]
        by_cases h0:kindI P i m=0
        · rw [if_pos h0,if_neg fun h=>h.2.2.1 h0]
        · rw [if_neg h0]
          by_cases hw:lev P i + 1 > mxV P (lev P) m i
          · rw [if_pos hw,if_pos ⟨⟨by omega,by omega⟩,rfl,h0,hw⟩]
          · rw [if_neg hw,if_neg fun h=>hw h.2.2.2]
      · rw [if_neg hn,if_pos rfl,if_neg (by omega)]
def levT (P:zK) (t:Nat):Nat→Int:=fun m=>if m < t then lev P m else 0
theorem stp_one (P:zK) (hlen:(progI P).length ≤ 120) (t:Nat) (ht:t < (progI P).length):∀ (j i:Nat),i + j=(progI P).length→(depA P i j).foldl (stpP fun m=>m == t) (fun m=>if m=t then mxV P (lev P) t (min i t) else levT P t m)=levT P (t + 1)
  | 0,i,hi=>by
    funext m
    show (if m=t then mxV P (lev P) t (min i t) else levT P t m)=_
    rw [show min i t=t by omega,← lev_eq]
    unfold levT
    by_cases hm:m=t
    · rw [if_pos hm,hm,if_pos (by omega)]
    · rw [if_neg hm]
      by_cases h2:m < t
      · rw [if_pos h2,if_pos (by omega)]
      · rw [if_neg h2,if_neg (by omega)]
  | j + 1,i,hi=>by
    rw [zCq,List.foldl_append,stp_block P _ i _ _ _ (by omega),← stp_one P hlen t ht j (i + 1) (by omega)]
    congr 1
    funext m
    by_cases hm:m=t
    · subst hm
      rw [if_pos rfl,if_pos rfl]
      by_cases hi':i < m
      · have hg:(if i=m then mxV P (lev P) m (min i m) else levT P m i)=lev P i:=by
          rw [if_neg (by omega)]; unfold levT; rw [if_pos hi']
        rw [hg,W_lev (by omega),show min i m=i by omega,show min (i + 1) m=i + 1 by omega,mxV]
        unfold kGQ
        rw [if_pos ht]
        by_cases h0:kindI P i m=0
        · rw [if_pos h0,if_neg fun h=>h.2.2.1 h0]
        · rw [if_neg h0]
          by_cases hw:lev P i + 1 > mxV P (lev P) m i
          · rw [if_pos hw,if_pos ⟨⟨by omega,by omega⟩,by simp,h0,hw⟩]
          · rw [if_neg hw,if_neg fun h=>hw h.2.2.2]
      · rw [if_neg (by omega),show min i m=m by omega,show min (i + 1) m=m by omega]
    · have hp:¬((m == t)=true):=by simpa using hm
      rw [if_neg hm,if_neg hm,if_neg fun h=>hp h.2.1]
theorem mem_dep {P:zK}{i k:Nat} (h1:i < k) (h2:k < (progI P).length) (h3:kindI P i k ≠ 0):(⟨(i:Int),(k:Int),kindI P i k⟩:yL) ∈ depA P 0 (progI P).length:=by
  unfold depA depR;refine List.mem_flatMap.2 ⟨i,List.mem_range'_1.2 ⟨by omega,by omega⟩,List.mem_flatMap.2 ⟨k,List.mem_range'_1.2 ⟨by omega,by omega⟩,?_⟩⟩;unfold dep1;rw [if_neg (by simpa using h3)];exact List.mem_singleton.2 rfl
end Go.LN
namespace Go.LN
theorem mk_r8 (n:Nat) (hn:n ≤ 1000000):mkrow 8 (n:Int) (0:Int)=some (List.replicate n 0):=by
  unfold mkrow;rw [if_pos ⟨by omega,by omega⟩,iN]
theorem stL_zero (n:Nat):List.replicate n (0:Int)=stL n fun _=>0:=by
  refine List.ext_getElem (by rw [List.length_replicate,zF1]) fun i h1 h2=>?_;rw [zIQ,List.getElem_replicate]
theorem upd_if {g:Nat→Int}{k:Nat}{c:Prop} [Decidable c] {v:Int}:upd g k (if c then v else g k)=if c then upd g k v else g:=by
  by_cases h:c
  · rw [if_pos h,if_pos h]
  · rw [if_neg h,if_neg h]
    funext x
    unfold upd;by_cases e:x=k
    · rw [if_pos e,e]
    · rw [if_neg e]
theorem depA_le {P:zK} (h:(progI P).length ≤ 120):(depA P 0 (progI P).length).length ≤ 14400:=by
  have:=zIN P (progI P).length 0;have h2:(progI P).length * (progI P).length ≤ 120 * 120:=Nat.mul_le_mul h h;omega
theorem levels_l2 {D:List yL}{n t:Nat} (hD:∀ d ∈ D,DB n d) (hl:D.length ≤ 1000000) (ht:t < n):∀ (j q:Nat) (g:Nat→Int),q + j=D.length→M.impl_levels_l2 D (t:Int) (stL n g) (q:Int)=some (stL n ((D.drop q).foldl (stpP fun m=>m == t) g)):=by
  intro j
  induction j with
  | zero =>
    intro q g hq;rw [M.impl_levels_l2];have:¬((q:Int) < (D.length:Int)):=by omega
    simp only [this,decide_false,bF,if_false,oP,id];rw [List.drop_eq_nil_iff.2 (by omega)]; rfl
  | succ j ih =>
    intro q g hq;rw [M.impl_levels_l2];have hlt:q < D.length:=by omega
    have hc:((q:Int) < (D.length:Int)):=by omega
    obtain ⟨i,k,e1,e2,h1,h2⟩:=hD D[q] (List.getElem_mem hlt);rw [gC hlt,List.foldl_cons];simp only [hc,decide_true,if_true,yX hlt,oB,oS,oP,id,e1,e2];by_cases hk:k=t
    · subst hk;simp only [beq_self_eq_true,if_true,zJr h1,zJr h2,oS,iN,zJs h2];rw [uP (by omega),ih (q + 1) _ (by omega)];unfold stpP stpF;rw [e1,e2,iN,iN,upd_if];simp
    · have e3:((k:Int) == (t:Int))=false:=by simpa using fun h=>hk (by omega)
      simp only [e3,bF,if_false,oS];rw [uP (by omega),ih (q + 1) _ (by omega)];unfold stpP;rw [e2,iN];simp [hk]
theorem levT_0 (P:zK):levT P 0=fun _=>0:=by
  funext m
  unfold levT;rw [if_neg (by omega)]
theorem levT_st (P:zK) (t:Nat):levT P t=fun m=>if m=t then mxV P (lev P) t (min 0 t) else levT P t m:=by
  funext m
  by_cases h:m=t
  · rw [if_pos h,Nat.zero_min,h];unfold levT;rw [if_neg (by omega)]; rfl
  · rw [if_neg h]
theorem levels_l1 {P:zK} (hlen:(progI P).length ≤ 120) {o:List Int} (ho:o.length=(progI P).length):∀ (j t:Nat),t + j=(progI P).length→M.impl_levels_l1 (depA P 0 (progI P).length) o (stL (progI P).length (levT P t)) (t:Int)=some (stL (progI P).length (lev P)):=by
  intro j
  induction j with
  | zero =>
    intro t ht;rw [M.impl_levels_l1];have:¬((t:Int) < (o.length:Int)):=by omega
    simp only [this,decide_false,bF,if_false,oP,id];exact congrArg some (zJb fun m hm=>by unfold levT; rw [if_pos (by omega)])
  | succ j ih =>
    intro t ht;rw [M.impl_levels_l1];have hc:((t:Int) < (o.length:Int)):=by omega
    have hl:=depA_le hlen;have h2:=levels_l2 zJt (by omega) (show t < (progI P).length by omega) _ 0 (levT P t) (Nat.zero_add _);have h3:=stp_one P hlen t (by omega) _ 0 (Nat.zero_add _);rw [← levT_st] at h3;rw [Int.natCast_zero,List.drop_zero,h3] at h2;simp only [hc,decide_true,if_true,h2,oB,oS];rw [uP (by omega)];exact ih (t + 1) (by omega)
theorem levelsS_l1 {D:List yL}{n:Nat} (hD:∀ d ∈ D,DB n d) (hl:D.length ≤ 1000000):∀ (j q:Nat) (g:Nat→Int),q + j=D.length→M.spec_l7Levels_l1 D (stL n g) (q:Int)=some (stL n ((D.drop q).foldl (stpP fun _=>true) g)):=by
  intro j
  induction j with
  | zero =>
    intro q g hq;rw [M.spec_l7Levels_l1];have:¬((q:Int) < (D.length:Int)):=by omega
    simp only [this,decide_false,bF,if_false,oP,id];rw [List.drop_eq_nil_iff.2 (by omega)]; rfl
  | succ j ih =>
    intro q g hq;rw [M.spec_l7Levels_l1];have hlt:q < D.length:=by omega
    have hc:((q:Int) < (D.length:Int)):=by omega
    obtain ⟨i,k,e1,e2,h1,h2⟩:=hD D[q] (List.getElem_mem hlt);rw [gC hlt,List.foldl_cons];have es:stpP (fun _=>true) g D[q]=if W (g i + 1) > g k then upd g k (W (g i + 1)) else g:=by
      unfold stpP stpF;rw [e1,e2,iN,iN]; rfl
    rw [es];simp only [hc,decide_true,if_true,yX hlt,oB,oS,oP,id,e1,e2,zJr h1,zJr h2,iN,zJs h2];rw [uP (show q < 9223372036854775807 by omega)];by_cases hw:W (g i + 1) > g k
    · simp only [hw,decide_true,if_true,oS];rw [ih (q + 1) _ (by omega)]
    · simp only [hw,decide_false,bF,if_false,oS];rw [ih (q + 1) _ (by omega)]
def lsF (P:zK):List Int:=if validP P then stL (progI P).length (lev P) else []
theorem lsF_len {P:zK}:(lsF P).length ≤ 120:=by
  unfold lsF;split
  · rename_i hv;have hlen:=(jU hv).2.2.2;rw [zF1]; exact hlen
  · simp
theorem lsF_rng {P:zK}:∀ x ∈ lsF P,0 ≤ x∧x ≤ 120:=by
  intro x hx;unfold lsF at hx;split at hx
  · rename_i hv;have hlen:=(jU hv).2.2.2;obtain ⟨m,hm,rfl⟩:=List.mem_map.1 hx;have:=List.mem_range.1 hm;have:=lev_rng P m;omega
  · cases hx
theorem implLevels (P:zK) (hb:BG P):M.impl_LevelsOf P=some (lsF P):=by
  unfold M.impl_LevelsOf lsF;rw [implDeps P hb,implInstP P hb];unfold dpF;cases hv:validP P with
  | false =>
    have h1:M.impl_levels_l1 [] [] [] 0=some []:=by rw [M.impl_levels_l1]; simp
    simp only [bF,if_false,oB,oS,M.impl_levels];rw [show ((([]:List zQ).length:Int))=((0:Nat):Int) from rfl,mk_r8 0 (by omega)];simp [h1]
  | true =>
    have hlen:=(jU hv).2.2.2;have hl:=levels_l1 hlen (o:=List.replicate (progI P).length 0) (List.length_replicate ..) _ 0 (Nat.zero_add _);rw [levT_0,← stL_zero,Int.natCast_zero] at hl;simp only [if_true,oB,oS,M.impl_levels,mk_r8 _ (show (progI P).length ≤ 1000000 by omega),hl,oP,id]
theorem specDeps6 (P:zK) (hb:BG P) (hv:validP P=true):jN P=some (depA P 0 (progI P).length):=by
  have h:=specDeps P hb;unfold gX dpF at h;rw [specValidP P hb,hv] at h;simp only [if_true,oB,oS,Bool.not_true,bF,if_false,oP,id] at h;cases hd:jN P with
  | none=>rw [hd] at h; cases h
  | some y=>rw [hd] at h; exact h
theorem specLevels (P:zK) (hb:BG P):M.spec_LevelsOf P=some (lsF P):=by
  unfold M.spec_LevelsOf lsF;rw [specValidP P hb];cases hv:validP P with
  | false=>simp
  | true =>
    have hlen:=(jU hv).2.2.2;have hl0:=depA_le hlen;have hl:=levelsS_l1 zJt (by omega) _ 0 (fun _=>0) (Nat.zero_add (depA P 0 (progI P).length).length);have h3:=stp_all P hlen _ 0 (Nat.zero_add _);have e0:(fun m=>mxV P (lev P) m (min 0 m))=fun _=>(0:Int):=by funext m; rw [Nat.zero_min]; rfl
    rw [e0] at h3;rw [List.drop_zero,h3,← stL_zero,Int.natCast_zero] at hl;have hs:=specInst4 P hv;simp only [if_true,oB,oS,Bool.not_true,bF,if_false,M.spec_l7Levels,hs,mk_r8 _ (show (progI P).length ≤ 1000000 by omega),specDeps6 P hb hv,hl,oP,id];refine congrArg some (zJb fun m hm=>?_);rw [show min (progI P).length m=m by omega,← lev_eq]
theorem kG_lt {P:zK}{i k:Nat} (hk:k < (progI P).length) (h:kindI P i k ≠ 0):kGQ P i k ≠ 0:=by unfold kGQ; rw [if_pos hk]; exact h
theorem lev_dep {P:zK}{d:yL} (h:d ∈ depA P 0 (progI P).length):lev P d.From.toNat < lev P d.To.toNat:=by
  obtain ⟨i,k,rfl,h1,h2,h3⟩:=zIz h;show lev P ((i:Int)).toNat < lev P ((k:Int)).toNat;rw [iN,iN];have:=mxV_ge (f:=lev P) (kG_lt h2 h3) k h1;rw [← lev_eq] at this;omega
end Go.LN
namespace Go.LN
def mxs (a x:Int):Int:=if x + 1 > a then x + 1 else a
def crt (P:zK):Int:=(lsF P).foldl mxs 0
theorem mxs_ge:∀ (l:List Int) (a:Int),a ≤ l.foldl mxs a∧∀ x ∈ l,x + 1 ≤ l.foldl mxs a
  | [],a=>⟨Int.le_refl _,fun x h=>by cases h⟩
  | y::l,a=>by
    obtain ⟨h1,h2⟩:=mxs_ge l (mxs a y)
    rw [List.foldl_cons]
    have h3:a ≤ mxs a y∧y + 1 ≤ mxs a y:=by unfold mxs; split <;> omega
    refine ⟨by omega,fun x hx=>?_⟩
    rcases List.mem_cons.1 hx with rfl | hx
    · omega
    · exact h2 x hx
theorem mxs_at:∀ (l:List Int) (a:Int),l.foldl mxs a=a∨∃ x ∈ l,l.foldl mxs a=x + 1
  | [],a=>.inl rfl
  | y::l,a=>by
    rw [List.foldl_cons]
    rcases mxs_at l (mxs a y) with h | ⟨x,hx,h⟩
    · rw [h]
      unfold mxs
      split
      · exact .inr ⟨y,List.mem_cons_self ..,rfl⟩
      · exact .inl rfl
    · exact .inr ⟨x,List.mem_cons_of_mem _ hx,h⟩
theorem crtI_l1 {l:List Int} (hl:l.length ≤ 1000000) (hx:∀ x ∈ l,0 ≤ x∧x ≤ 1000000):∀ (j q:Nat) (a:Int),q + j=l.length→M.impl_CriticalLength_l1 l a (q:Int)=some ((l.drop q).foldl mxs a):=by
  intro j
  induction j with
  | zero =>
    intro q a hq;rw [M.impl_CriticalLength_l1];have:¬((q:Int) < (l.length:Int)):=by omega
    simp only [this,decide_false,bF,if_false,oP,id];rw [List.drop_eq_nil_iff.2 (by omega)]; rfl
  | succ j ih =>
    intro q a hq;rw [M.impl_CriticalLength_l1];have hlt:q < l.length:=by omega
    have hc:((q:Int) < (l.length:Int)):=by omega
    have:=hx l[q] (List.getElem_mem hlt);rw [gC hlt,List.foldl_cons];simp only [hc,decide_true,if_true,yX hlt,oB,oS,sX (show -9223372036854775808 ≤ l[q] + 1 by omega) (show l[q] + 1 ≤ 9223372036854775807 by omega)];rw [uP (by omega),ih (q + 1) _ (by omega)]; rfl
theorem crtS_l1 {l:List Int} (hl:l.length ≤ 1000000) (hx:∀ x ∈ l,0 ≤ x∧x ≤ 1000000):∀ (j q:Nat) (a:Int),q + j=l.length→M.spec_l7Length_l1 l a (q:Int)=some ((l.drop q).foldl mxs a):=by
  intro j
  induction j with
  | zero =>
    intro q a hq;rw [M.spec_l7Length_l1];have:¬((q:Int) < (l.length:Int)):=by omega
    simp only [this,decide_false,bF,if_false,oP,id];rw [List.drop_eq_nil_iff.2 (by omega)]; rfl
  | succ j ih =>
    intro q a hq;rw [M.spec_l7Length_l1];have hlt:q < l.length:=by omega
    have hc:((q:Int) < (l.length:Int)):=by omega
    have:=hx l[q] (List.getElem_mem hlt);rw [gC hlt,List.foldl_cons];simp only [hc,decide_true,if_true,yX hlt,oB,oS,oP,id,sX (show -9223372036854775808 ≤ l[q] + 1 by omega) (show l[q] + 1 ≤ 9223372036854775807 by omega)];rw [uP (by omega)];unfold mxs;by_cases h:l[q] + 1 > a
    · simp only [h,decide_true,if_true,oS];exact ih (q + 1) _ (by omega)
    · simp only [h,decide_false,bF,if_false,oS];exact ih (q + 1) _ (by omega)
theorem implCrt (P:zK) (hb:BG P):M.impl_CriticalLength P=some (crt P):=by
  have h1:=lsF_len (P:=P);have h:=crtI_l1 (l:=lsF P) (by omega) (fun x hx=>by have:=lsF_rng x hx; omega) _ 0 0 (Nat.zero_add _);rw [List.drop_zero,Int.natCast_zero] at h;unfold M.impl_CriticalLength crt;simp only [implLevels P hb,h,oB,oS,oP,id]
theorem specLen (P:zK):M.spec_l7Length (lsF P)=some (crt P):=by
  have h1:=lsF_len (P:=P);have h:=crtS_l1 (l:=lsF P) (by omega) (fun x hx=>by have:=lsF_rng x hx; omega) _ 0 0 (Nat.zero_add _);rw [List.drop_zero,Int.natCast_zero] at h;unfold M.spec_l7Length crt;simp only [h,oB,oS,oP,id]
theorem specCrt (P:zK) (hb:BG P):M.spec_CriticalLength P=some (crt P):=by
  unfold M.spec_CriticalLength;simp only [specLevels P hb,specLen P,oB,oS,oP,id]
theorem crt_ge {P:zK}{x:Int} (h:x ∈ lsF P):x + 1 ≤ crt P:=(mxs_ge (lsF P) 0).2 x h
theorem crt_rng (P:zK):0 ≤ crt P∧crt P ≤ 121:=by
  refine ⟨(mxs_ge (lsF P) 0).1,?_⟩;rcases mxs_at (lsF P) 0 with h | ⟨x,hx,h⟩
  · unfold crt; omega
  · have:=lsF_rng x hx; unfold crt; omega
def chB (P:zK) (i:Nat):Bool:=dpb P ((i:Int) - 1) (i:Int) != 0
theorem blaw_l1 {P:zK} (hb:BG P) {l:List zQ} (hl:l.length ≤ 1000000):∀ (j q:Nat) (b:Bool),q + j=l.length→1 ≤ q→M.laws_FnLevelBound_l1 P l b (q:Int)=some (b && (List.range' q j).all (chB P)):=by
  intro j
  induction j with
  | zero =>
    intro q b hq h1;rw [M.laws_FnLevelBound_l1];have:¬((q:Int) < (l.length:Int)):=by omega
    simp [this]
  | succ j ih =>
    intro q b hq h1;rw [M.laws_FnLevelBound_l1];have hc:((q:Int) < (l.length:Int)):=by omega
    rw [List.range'_succ,List.all_cons];simp only [hc,decide_true,if_true,implDep P hb,oB,oS,oP,id,sX (show -9223372036854775808 ≤ (q:Int) - 1 by omega) (show (q:Int) - 1 ≤ 9223372036854775807 by omega)];rw [uP (by omega)];cases b with
    | true =>
      simp only [if_true,oS,Bool.true_and];rw [ih (q + 1) _ (by omega) (by omega)]; rfl
    | false =>
      simp only [bF,if_false,oS,Bool.false_and];rw [ih (q + 1) _ (by omega) (by omega),Bool.false_and]
theorem lev_chain {P:zK} (hv:validP P=true) (h:∀ i,1 ≤ i→i < (progI P).length→chB P i=true):∀ i,i < (progI P).length→(i:Int) ≤ lev P i
  | 0,hi=>(lev_rng P 0).1
  | i + 1,hi=>by
    have h1:=lev_chain hv h i (by omega)
    have h2:=h (i + 1) (by omega) hi
    unfold chB dpb at h2
    rw [if_pos ⟨hv,by omega,by omega,by omega⟩,iN,show ((((i + 1:Nat)):Int) - 1).toNat=i by omega] at h2
    have h3:kindI P i (i + 1) ≠ 0:=by simpa using h2
    have h4:=lev_dep (P:=P) (mem_dep (Nat.lt_succ_self i) hi h3)
    have h4:lev P ((i:Nat):Int).toNat < lev P ((i + 1:Nat):Int).toNat:=h4
    rw [iN,iN] at h4
    omega
theorem law_LevelBound (code:List UInt8):∃ r,M.laws_FnLevelBound code=some r∧r=true:=by
  obtain ⟨y,hy,hb,hAR⟩:=drawProg code;unfold M.laws_FnLevelBound;refine ⟨true,?_,rfl⟩;have hd:M.spec_DrawCriticalLength code=some y:=by unfold M.spec_DrawCriticalLength; rw [hy]; rfl
  by_cases h1:(code.length:Int) > 1048576
  · simp [h1]
  · simp only [h1,decide_false,bF,if_false,hd,implCrt y hb,implInstP y hb,specCrt y hb,bne_self_eq_false,oP,oB,oS,id];cases hv:validP y with
    | false =>
      have e1:lsF y=[]:=by unfold lsF; rw [hv]; rfl
      have e2:crt y=0:=by unfold crt; rw [e1]; rfl
      have hl:M.laws_FnLevelBound_l1 y [] true 1=some true:=by rw [M.laws_FnLevelBound_l1]; simp
      rw [e2];simp [hl]
    | true =>
      have hlen:=(jU hv).2.2.2;have e1:lsF y=stL (progI y).length (lev y):=by unfold lsF; rw [hv]; rfl
      have hle:crt y ≤ ((progI y).length:Int):=by
        rcases mxs_at (lsF y) 0 with h | ⟨x,hx,h⟩
        · have:crt y=0:=h;omega
        · have h:crt y=x + 1:=h;rw [e1] at hx;obtain ⟨m,hm,rfl⟩:=List.mem_map.1 hx;have:=List.mem_range.1 hm;have:=(lev_rng y m).2;omega
      have hge:∀ m,m < (progI y).length→lev y m + 1 ≤ crt y:=fun m hm=>crt_ge (by rw [e1]; exact List.mem_map.2 ⟨m,List.mem_range.2 hm,rfl⟩);simp only [if_true];by_cases h0:(progI y).length=0
      · have e3:progI y=[]:=List.length_eq_zero_iff.1 h0;have hl:M.laws_FnLevelBound_l1 y (progI y) true 1=some true:=by rw [M.laws_FnLevelBound_l1,e3]; simp
        have e4:crt y=0:=by have:=crt_rng y; omega
        rw [hl,e4,h0];simp
      · have hl:=blaw_l1 hb (l:=progI y) (by omega) ((progI y).length - 1) 1 true (by omega) (Nat.le_refl _);rw [Bool.true_and] at hl;have e3:((1:Nat):Int)=1:=rfl;rw [e3] at hl;simp only [hl,hle,decide_true,if_true,oS];cases hch:(List.range' 1 ((progI y).length - 1)).all (chB y) with
        | false=>rfl
        | true =>
          have hc:=lev_chain hv (fun i hi1 hi2=>List.all_eq_true.1 hch i (List.mem_range'_1.2 ⟨hi1,by omega⟩)) ((progI y).length - 1) (by omega);have:=hge ((progI y).length - 1) (by omega);have e5:crt y=((progI y).length:Int):=by omega
          simp [e5]
end Go.LN
