/- Helper of the proof (see the last text). -/
import Derived.Test.YtoifmcbchallnaaGreatLnA
import Derived.Test.YtoifmcbchallnaaGreatLnH
import Derived.Test.YtoifmcbchallnaaGreatLnN
import Derived.Test.YtoifmcbchallnaaGreatTryzShelf
import Derived.Test.YtoifmcbchallnaaGreatHM1
import Derived.Test.YtoifmcbchallnaaGreatHM2
import Derived.Test.YtoifmcbchallnaaGreatHM3
import Derived.Test.YtoifmcbchallnaaGreatHM4
import Derived.Test.YtoifmcbchallnaaGreatHM5
import Derived.Test.YtoifmcbchallnaaGreatHM6
import Derived.Test.YtoifmcbchallnaaGreatHM7
import Derived.Test.YtoifmcbchallnaaGreatHM8
import Derived.Test.YtoifmcbchallnaaGreatQT
import Derived.Test.YtoifmcbchallnaaGreatQZ
import Derived.Test.YtoifmcbchallnaaGreatVB1
import Derived.Test.YtoifmcbchallnaaGreatVB8
import Derived.Test.YtoifmcbchallnaaGreatLnR
set_option linter.unusedVariables false
set_option linter.unusedSimpArgs false
namespace Go.LN
section
variable {P:Program}{n:Nat}{B:Base}{Q:Exit→Act→World→Prop}{imm:Imm}{hs:List HA}{m:FM}{ops:List Oper}{pc d:Nat}{ty:TypeId}{pos:String}{after:Array Edge}{g:Option (Nat×Bool)}
theorem run_part_int {w:World}{t:TypeId}{k:IntKind} (hu:P.underlying t=some (.int k)) {xs:Array Value}{off:Nat}{v:Value} (hx:xs[off]?=some v):(part t xs off).run P w=.ok v w:=by
  simp [part,isAgg,xK hu,hx]
def intF (P:Program) (f:Field) (o:Nat):Bool:=(f.name != "_") && (f.offset == o) && (match P.underlying f.type with | some (.int _)=>true | _=>false)
def int3 (P:Program) (t:TypeId):Bool:=(match P.underlying t with | some (.struct _)=>true | _=>false) && (match (P.fieldsOf t).toList with | [a,b,c]=>intF P a 0 && intF P b 1 && intF P c 2 | _=>false) && !(P.stoodInHeld t) && !(P.eqGuardType P.depth t)
theorem run_field {w:World}{f:Field}{fs:List Field}{o e:Nat}{xs ys:Array Value}{a b:Int} (hf:intF P f o=true) (hx:xs[o]?=some (vI a)) (hy:ys[o]?=some (vI b)):(Op.eqFields (e + 1) xs ys (f::fs)).run P w=if (a == b)=true then (Op.eqFields (e + 1) xs ys fs).run P w else .ok false w:=by
  unfold intF at hf;simp only [Bool.and_eq_true,bne_iff_ne,ne_eq,beq_iff_eq] at hf;obtain ⟨⟨h1,h2⟩,h3⟩:=hf;split at h3
  · rename_i k hu;rw [Op.eqFields];subst h2;simp only [if_pos h1,Sem.run_bind,run_part_int hu hx,run_part_int hu hy,Result.andThen_ok,run_equalIn_int w e f.type .i64 k a b hu];cases a == b <;> simp
  · cases h3
theorem run_equal3 {w:World}{t:TypeId}{a b c a' b' c':Int} (ht:int3 P t=true):(Op.equalIn 10000 t (vA [vI a,vI b,vI c]) (vA [vI a',vI b',vI c'])).run P w=.ok (a == a' && (b == b' && c == c')) w:=by
  unfold int3 at ht;simp only [Bool.and_eq_true,Bool.not_eq_true'] at ht;obtain ⟨⟨⟨h1,h2⟩,h3⟩,h4⟩:=ht;have hu:P.underlying t=some (.struct (P.fieldsOf t)):=by
    unfold Program.fieldsOf;split at h1
    · rename_i fs hu; rw [hu]
    · cases h1
  rw [run_equalIn_struct w 9999 t _ _ hu h3];split at h2
  · rename_i f1 f2 f3 he;simp only [Bool.and_eq_true] at h2;rw [he,run_field (a:=a) (b:=a') h2.1.1 rfl rfl,run_field (a:=b) (b:=b') h2.1.2 rfl rfl,run_field (a:=c) (b:=c') h2.2 rfl rfl];cases a == a' <;> cases b == b' <;> cases c == c' <;> simp [Op.eqFields]
  · cases h2
theorem Rd_n3 {t t2:TypeId}{x y:Operand}{a b c a' b' c':Int} (hx:val m x=some (vA [vI a,vI b,vI c])) (hy:val m y=some (vA [vI a',vI b',vI c'])) (ht:int3 P t=true):Reads P n B imm hs m (.binOp .neq t x y t2) (.bool (!(a == a' && (b == b' && c == c')))):=fun oo α w he f gd=>by
  have hq:P.eqGuardType P.depth t=false:=by
    unfold int3 at ht;simp only [Bool.and_eq_true,Bool.not_eq_true'] at ht;exact ht.2
  simp only [execOp,he,f.eval hx,f.eval hy,Sem.run_bind];rw [show (eqGuard .neq t x y (vA [vI a,vI b,vI c]) (vA [vI a',vI b',vI c'])).run P w=.ok () w from run_eqGuard_agg w .neq t x y _ _ hq];simp only [Result.andThen_ok];rw [show (binOp .neq t (vA [vI a,vI b,vI c]) (vA [vI a',vI b',vI c'])).run P w=_ from run_neq_struct w t _ _];rw [show (Op.equalIn 10000 t (.agg ⟨[vI a,vI b,vI c]⟩) (.agg ⟨[vI a',vI b',vI c']⟩)).run P w=_ from run_equal3 ht];simp
theorem R_n3 {t t2:TypeId}{x y:Operand}{a b c a' b' c':Int} (ho:ops[pc]?=some ⟨some d,.binOp .neq t x y t2,ty,pos,after,g⟩)
    (next:R P n B ops Q (pc + 1) imm hs ((d,.bool (!(a == a' && (b == b' && c == c'))))::m)) (hx:val m x=some (vA [vI a,vI b,vI c]):=by kernel_rfl) (hy:val m y=some (vA [vI a',vI b',vI c']):=by kernel_rfl) (hg:guardB ops m g=some true:=by kernel_rfl) (hn:Nat.blt d n=true:=by kernel_rfl) (ht:int3 P t=true:=by kernel_rfl):R P n B ops Q pc imm hs m:=zDy ho hg rfl hn (Rd_n3 hx hy ht) next
end
end Go.LN
namespace Go.LN
open Go.Proofs
set_option maxRecDepth 20000
def M.impl_DepBetween (p:zJ) (from0:Int) (to0:Int):Option (Int):=do
 let (y1,y2)←jU p
 let t42←(do
   if (!y2) then
    pure true
   else
    let t←y1
    let y3←wB from0 0 (W ((t.list.length:Int) - 1))
    if (!y3) then
     pure true
    else
     let y4←wB to0 0 (W ((t.list.length:Int) - 1))
     if (!y4) then
      pure true
     else
      pure (decide (from0 ≥ to0))
     : Option Bool)
 if t42 then
  pure (id 0)
 else
  let t1←y1
  let y5←qC t1 from0 to0
  pure (id y5)
theorem impl_DepBetween_ok:∀ p from0 to0 r,M.impl_DepBetween p from0 to0=some r→∀ {I:Imm}{p1 c p2 c1},(S4 I p1 p.Arrays c)→(S4 I p2 p.Parts c1)→Ret Tryz.prog 20 [vA (cProg p p1 c p2 c1),vI from0,vI to0] I [] (yW  r):=by
 intro p from0 to0 r N I p1 c p2 c1 h h1;unfold M.impl_DepBetween at N;refine yA (fn:=Tryz.f20) (c:=(bodyOf Tryz.f20)) Tryz.func20 rfl rfl ?_;rintro B - -;have H:=iS I;refine yO<|tA (cProg p p1 c p2 c1) ?_;intro b hb;refine yF [] []<|xI<|yH 1 [0] [(10,vA (cProg p p1 c p2 c1))] ?_;obtain ⟨⟨y1,y2⟩,hy,N⟩:=zC N;refine xW (zFJ p _ hy h h1) ?_;rintro I0 hs2 v2 k2 le - ⟨v0,v01,rfl,rfl,h2,rfl⟩ -;have H:=H.trans le;refine yF [] [(7,v0),(8,.bool y2)]<|yI<|yK ?_;obtain ⟨o0,ho0,hMc⟩:=zC N;refine yU (fun I' hs' m'=>∃ (t42:Bool),o0=t42∧I0.le I'∧hs'=[]∧m'=[(1,vI from0),(2,vI to0),(7,v0),(42,.bool t42)]) ?_ ?_
 · have H:=iS I0;refine zQ<|yH 3 [] [(16,.bool (!y2))] ?_;cases hc:(!y2) with
   | true =>
    have hM0:=zU hc ho0
    try rw [hc]
    exact yF [] [(42,vY)]<|wC (zE [] rfl (by decide))<|yR [(1,vI from0),(2,vI to0),(7,v0),(42,vY)]<|zY ⟨_,(zB hM0).symm,H,rfl,rfl⟩
   | false =>
    have hM01:=zS hc ho0
    try rw [hc]
    refine yH 5 [] [(17,vI from0),(18,v0)] ?_;obtain ⟨t,hy1,N⟩:=zC hM01;obtain ⟨ad,ccs,rfl,hat,hrep⟩:=zJ6 h2 hy1;obtain ⟨p3,c2,p4,c3,p5,c4,p6,c5,p7,c6,rfl,h4,h5,h6,h7,h8⟩:=zEZ hrep;refine yH 7 [] [(20,.pointer (some (ad.add 2)))]<|xR 2 hat [vS p5 t.list c4] (vS p5 t.list c4) rfl<|yH 10 [] [(23,vI (W ((t.list.length:Int) - 1)))]<|bE N fun y3 hy2 N=>uR (wL from0 0 (W ((t.list.length:Int) - 1)) _ hy2 ) ?_;intro I02 le1;have hat:=hat.mono le1;have H:=H.trans le1;refine yH 14 [] [(27,.bool (!y3))] ?_;cases hc1:(!y3) with
    | true =>
     have hM02:=zU hc1 N
     try rw [hc1]
     exact yF [] [(42,vY)]<|wC (zE [] rfl (by decide))<|yR [(1,vI from0),(2,vI to0),(7,.pointer (some ad)),(42,vY)]<|zY ⟨_,(zB hM02).symm,H,rfl,rfl⟩
    | false =>
     have hM03:=zS hc1 N
     try rw [hc1]
     refine yH 18 [] [(28,vI to0),(31,.pointer (some (ad.add 2)))]<|xR 2 hat [vS p5 t.list c4] (vS p5 t.list c4) rfl<|yH 21 [] [(34,vI (W ((t.list.length:Int) - 1)))] ?_;obtain ⟨y4,hy3,N⟩:=zC hM03;refine uR (wL to0 0 (W ((t.list.length:Int) - 1)) _ hy3 ) ?_;intro I03 le2;have H:=H.trans le2;refine yH 25 [] [(38,.bool (!y4))] ?_;cases hc2:(!y4) with
     | true =>
      have hM04:=zU hc2 N
      try rw [hc2]
      exact yF [] [(42,vY)]<|wC (zE [] rfl (by decide))<|yR [(1,vI from0),(2,vI to0),(7,.pointer (some ad)),(42,vY)]<|zY ⟨_,(zB hM04).symm,H,rfl,rfl⟩
     | false =>
      have hM05:=zS hc2 N
      try rw [hc2]
      exact yF [] [(42,.bool (decide (from0 ≥ to0)))]<|wC (zE [] rfl (by decide))<|yR [(1,vI from0),(2,vI to0),(7,.pointer (some ad)),(42,.bool (decide (from0 ≥ to0)))]<|zY ⟨_,(zB hM05).symm,H,rfl,rfl⟩
 rintro I01 hs2 m2 ⟨t42,heq,le3,rfl,rfl⟩;subst o0;have h2:=h2.mono le3;refine zD<|yM hMc ?_ ?_
 · intro hc3 N;refine yE [(6,vI 0)]<|zD<|yC<|zM ?_;obtain rfl:=zB N;exact wY
 intro hc3 N;refine zX<|xI<|yH 3 [] [(43,v0),(44,vI from0),(45,vI to0)] ?_;obtain ⟨t1,hy4,N⟩:=zC N;obtain ⟨ad1,ccs1,rfl,hat1,hrep1⟩:=zJ6 h2 hy4;obtain ⟨p8,c7,p9,c8,p10,c9,p11,c10,p12,c11,rfl,h11,h12,h13,h14,h15⟩:=zEZ hrep1;obtain ⟨y5,hy5,N⟩:=zC N;refine kE (zAI t1 from0 to0 _ hy5 h11 h12 h13 h14 h15 hat1) fun I04 le4=>yF [] [(6,vI y5)]<|zD<|yC ?_;obtain rfl:=zB N;exact wY
end Go.LN
namespace Go.LN
open Go.Proofs
set_option maxRecDepth 20000
def M.spec_ProgramInstances (p:zJ):Option ((List zP)):=do
 let y←vV p
 if (!y) then
  pure ([]:List zP)
 else
  let y1←tT p
  pure (id y1)
theorem spec_ProgramInstances_ok:∀ p r,M.spec_ProgramInstances p=some r→∀ {I:Imm}{p1 c p2 c1},(S4 I p1 p.Arrays c)→(S4 I p2 p.Parts c1)→Ret Tryz.prog 47 [vA (cProg p p1 c p2 c1)] I [] (fY  r):=by
 intro p r N I p1 c p2 c1 h h1;unfold M.spec_ProgramInstances at N;refine yA (fn:=Tryz.f47) (c:=(bodyOf Tryz.f47)) Tryz.func47 rfl rfl ?_;rintro B - -;refine yO<|tA (cProg p p1 c p2 c1) ?_;intro b hb;refine yF [] []<|yI<|yO<|yH 1 [0] [(3,vA (cProg p p1 c p2 c1))]<|bE N fun y hy N=>uR (gO p _ hy h h1) ?_;intro I0 le;have h:=h.mono le;have h1:=h1.mono le;refine yF [] [(5,.bool (!y))]<|zD<|yM N ?_ ?_
 · intro hc N;refine yO<|xX [] zP ?_;intro b1 hb1;have h3:RL I0 [] ([]:List zP):=rfl;refine yF [] [(2,vS (some ⟨b1,0,none⟩) ([]:List zP) 0)]<|zD<|yC<|zM<|xG 0 rfl ?_;intro I01 le1 hl0;have h4:=SL.of_frozen hl0 le1 h3;obtain rfl:=zB N;exact xH ⟨_,_,(.tmp rfl ResV.nil),yD,⟨_,rfl,rfl,h4⟩⟩
 intro hc N;refine zX<|xI<|yH 1 [0] [(7,vA (cProg p p1 c p2 c1))]<|bE N fun y1 hy1 N=>xW (fB p _ hy1 h h1) ?_;rintro I02 hs2 v2 k2 le2 - ⟨v01,rfl,rfl,h5⟩ -;obtain ⟨p3,c2,rfl⟩:=h5.form;refine yF [] [(2,vS p3 y1 c2)]<|zD<|yC ?_;obtain rfl:=zB N;exact xH ⟨_,_,(.tmp rfl ResV.nil),yD,⟨_,rfl,rfl,h5⟩⟩
def spec_l5Order_post (b0:Nat) (r:(List Int)×zO):KT:=fun kk I' hs' v=>
  ∃ v0 k0,hs'=[.blk b0 ⟨k0⟩]∧v=tupV [v0]∧SL I' v0 r.1∧Rp.rep I' k0 r.2
def M.spec_l5Order_l1 (p1:zJ) (out:List Int) (i:Int):Option (List Int):=do
 let y←M.spec_ProgramInstances p1
 if (decide (i < (y.length:Int))) then
  let out2←app 8 out ([i]:List Int)
  M.spec_l5Order_l1 p1 out2 (W (i + 1))
 else
  pure (id out)
 partial_fixpoint
theorem spec_l5Order_l1_ok (p1:zJ):∀ (out:List Int) (i:Int) (o:List Int),M.spec_l5Order_l1 p1 out i=some o→∀ {B}{I0 I:Imm}{Q}{r0:zO}{r01:Nat}{p c p2 c1 p3 c2}{b:Nat}{p4 c3 cs},I0.le I→(S4 I p2 p1.Arrays c1)→(S4 I p3 p1.Parts c2)→(S4 I p r0.b c)→(RL I cs out)→NG Q→NO Q→(∀ (I':Imm) (out1:List Int) (p5:Option Addr) (c4:Nat) (cs1:List Value),o=out1→I0.le I'→(RL I' cs1 out1)→T 72 B Q (.exit 0) I' [hO Int (vS p5 out1 c4) cs1,hB r01 (cRd r0 p c)] [(0,vP r01 0),(5,vS p5 out1 c4)])→J Tryz.prog 72 B (nav (bodyOf Tryz.f76) [1,1,0,1,0]) Q I [hO Int (vS p4 out c3) cs,hB b (cProg p1 p2 c1 p3 c2),hB r01 (cRd r0 p c)] [(0,vP r01 0),(3,vP b 0),(5,vS p4 out c3),(6,vI i)]:=by
 refine M.spec_l5Order_l1.partial_correctness p1 _ fun self ih out i o N B I0 I Q r0 r01 p c p2 c1 p3 c2 b p4 c3 cs H h1 h2 h h4 hg ho hx=>yY hg ho<|yK<|yO<|yH 2 [1] [(12,vI i),(13,vA (cProg p1 p2 c1 p3 c2))]<|bE N fun y hy N=>xW (spec_ProgramInstances_ok p1 _ hy h1 h2) ?_;rintro I0 hs2 v2 k2 le - ⟨v0,rfl,rfl,h6⟩ -;have h4:=iM le h4;have h1:=h1.mono le;have h2:=h2.mono le;have h:=h.mono le;have H:=H.trans le;obtain ⟨p6,c5,rfl⟩:=h6.form;refine yF [] [(16,.bool (decide (i < (y.length:Int))))]<|zD<|yM N ?_ ?_
 · intro hc N;refine zX<|yI<|zV<|zQ<|yH 2 [] [(19,vS p4 out c3),(20,vI i)]<|xX [vI i] Int ?_;intro b2 hb2;have h7:RL I0 [vI i] ([i]:List Int):=⟨[vI i],_,rfl,rfl,rfl,rfl⟩;obtain ⟨out2,hy1,N⟩:=zC N;exact qF 3 1 1 rfl rfl rfl h4 (.inr ⟨0,rfl⟩) h7 hy1 fun p7 c6 cs2 h8=>rW (zE [1,2,3] (hs':=[hO Int (vS p7 out2 c6) cs2,hB b (cProg p1 p2 c1 p3 c2),hB r01 (cRd r0 p c)]) rfl (by decide))<|yF [] [(5,vS p7 out2 c6)]<|zT<|zD<|zQ<|yF [] [(6,vI (W (i + 1)))]<|yZ<|wS [(0,vP r01 0),(3,vP b 0),(5,vS p7 out2 c6),(6,vI (W (i + 1)))]<|ih out2 (W (i + 1)) _ N H h1 h2 h h8 hg ho hx
 intro hc N;exact yX<|zL<|zL<|wC (zE [0,2] rfl (by decide))<|yR [(0,vP r01 0),(5,vS p4 out c3)]<|hx _ _ _ _ _ (zB N).symm H h4
def M.spec_l5Order_l2 (out3:List Int) (i1:Int) (x:zO):Option ((List Int×zO)):=do
 let t32←(do
   if (decide (i1 > 0)) then
    pure (decide ((out3.length:Int) > 1))
   else
    pure false
     : Option Bool)
 if t32 then
  let (y5,y6)←xC x (out3.length:Int)
  let (y8,y9)←xC y6 (out3.length:Int)
  let x2←idx out3 y5
  let x3←idx out3 y8
  let x4←idx out3 y5
  let l←pure (out3.set y5.toNat x3)
  let x5←idx l y8
  let l1←pure (l.set y8.toNat x2)
  M.spec_l5Order_l2 l1 (W (i1 - 1)) y9
 else
  pure (out3,x)
 partial_fixpoint
theorem spec_l5Order_l2_ok :∀ (out3:List Int) (i1:Int) (x:zO) (o:(List Int×zO)),M.spec_l5Order_l2 out3 i1 x=some o→∀ {B}{I0 I:Imm}{Q}  {r01:Nat}{p9 c8 cs3 p10 c9},I0.le I→(RL I cs3 out3)→(S4 I p10 x.b c9)→NG Q→NO Q→(∀ (I':Imm) (out4:List Int) (x1:zO) (p11:Option Addr) (c10:Nat) (cs4:List Value) (p12:Option Addr) (c11:Nat),o=(out4,x1)→I0.le I'→(RL I' cs4 out4)→(S4 I' p12 x1.b c11)→T 72 B Q (.exit 2) I' [hB r01 (cRd x1 p12 c11),hO Int (vS p11 out4 c10) cs4] [(0,vP r01 0),(5,vS p11 out4 c10)])→J Tryz.prog 72 B (nav (bodyOf Tryz.f76) [1,1,1,0,1,0]) Q I [hB r01 (cRd x p10 c9),hO Int (vS p9 out3 c8) cs3] [(0,vP r01 0),(5,vS p9 out3 c8),(7,vI i1)]:=by
 refine M.spec_l5Order_l2.partial_correctness  _ fun self ih out3 i1 x o N B I0 I Q r01 p9 c8 cs3 p10 c9 H h14 h15 hg ho hx=>yY hg ho<|yK<|yK ?_;obtain ⟨o01,ho01,hMc⟩:=zC N;refine yU (fun I' hs' m'=>∃ (t32:Bool),o01=t32∧I.le I'∧hs'=[hB r01 (cRd x p10 c9),hO Int (vS p9 out3 c8) cs3]∧m'=[(0,vP r01 0),(5,vS p9 out3 c8),(7,vI i1),(32,.bool t32)]) ?_ ?_
 · have H:=iS I;refine zQ<|yH 3 [] [(28,.bool (decide (i1 > 0)))] ?_;cases hc1:(decide (i1 > 0)) with
   | true =>
    have hM0:=zU hc1 ho01
    try rw [hc1]
    exact yF [] [(32,.bool (decide ((out3.length:Int) > 1)))]<|yR [(0,vP r01 0),(5,vS p9 out3 c8),(7,vI i1),(32,.bool (decide ((out3.length:Int) > 1)))]<|zY ⟨_,(zB hM0).symm,H,rfl,rfl⟩
   | false =>
    have hM01:=zS hc1 ho01
    try rw [hc1]
    exact yF [] [(32,vF)]<|yR [(0,vP r01 0),(5,vS p9 out3 c8),(7,vI i1),(32,vF)]<|zY ⟨_,(zB hM01).symm,H,rfl,rfl⟩
 rintro I04 hs2 m2 ⟨t32,heq1,le4,rfl,rfl⟩;subst o01;have h14:=iM le4 h14;have h15:=h15.mono le4;have H:=H.trans le4;refine zD<|yM hMc ?_ ?_
 · intro hc2 N;refine zX<|yI<|zV<|yO<|yH 3 [] [(35,vP r01 0),(37,vI (out3.length:Int))] ?_;obtain ⟨⟨y5,y6⟩,hy3,N⟩:=zC N;refine sY [hB r01 (cRd x p10 c9)] [hO Int (vS p9 out3 c8) cs3] (xT x (out3.length:Int) _ hy3 h15) ?_;rintro I05 hs2 v2 k2 le5 - ⟨v03,kk1,rfl,rfl,rfl,h19⟩ -;have h14:=iM le5 h14;have H:=H.trans le5;obtain ⟨p13,c12,rfl,h20⟩:=yL h19;refine yF [] [(8,vI y5)]<|xI<|yH 3 [] [(39,vP r01 0),(41,vI (out3.length:Int))] ?_;obtain ⟨⟨y8,y9⟩,hy4,N⟩:=zC N;refine sY [hB r01 (cRd y6 p13 c12)] [hO Int (vS p9 out3 c8) cs3] (xT y6 (out3.length:Int) _ hy4 h20) ?_;rintro I06 hs2 v2 k2 le6 - ⟨v05,kk2,rfl,rfl,rfl,h22⟩ -;have h14:=iM le6 h14;have H:=H.trans le6;obtain ⟨p14,c13,rfl,h23⟩:=yL h22;refine yF [] [(9,vI y8)]<|xI<|yH 2 [] [(43,vS p9 out3 c8),(44,vI y5)]<|bE N fun x2 hy5 N=>oM 1 rfl rfl rfl h14 hy5 ?_;intro ad ccs hat hcc hrep;obtain rfl:=hrep;refine zCD 1 0 hat hcc [vI x2] (vI x2) rfl rfl<|yF [] [(10,vI x2)]<|xI<|yH 4 [] [(47,vS p9 out3 c8),(48,vI y5),(49,vS p9 out3 c8),(50,vI y8)]<|bE N fun x3 hy6 N=>oM 1 rfl rfl rfl h14 hy6 ?_;intro ad1 ccs1 hat1 hcc1 hrep1;obtain rfl:=hrep1;refine zCD 1 0 hat1 hcc1 [vI x3] (vI x3) rfl rfl<|bE N fun x4 hy7 N=>oM 1 rfl rfl rfl h14 hy7 ?_;intro ad2 ccs2 hat2 hcc2 hrep2;obtain rfl:=hrep2;obtain ⟨l,hy8,N⟩:=zC N;refine sF (c:=[vI x3]) (x':=x3) 1 0 rfl rfl rfl hat2 rfl rfl hcc2 (by kernel_rfl) (by kernel_rfl) (by kernel_rfl) h14 hy7 (by kernel_rfl) rfl ?_;rw [show out3.set y5.toNat x3=l from zB hy8];intro cs5 h24 hl01;refine oX (m':=[(0,vP r01 0),(5,vS p9 out3 c8),(7,vI i1),(9,vI y8),(10,vI x2),(47,vS p9 out3 c8),(48,vI y5),(49,vS p9 out3 c8),(50,vI y8),(52,vI x3)]) ⟨rfl,rfl,rfl,rfl,rfl,rfl,rfl,rfl,rfl,rfl,trivial⟩<|fL (hs':=[hB r01 (cRd y9 p14 c13),hO Int (vS p9 l c8) cs5]) (m':=[(0,vP r01 0),(5,vS p9 l c8),(7,vI i1),(9,vI y8),(10,vI x2),(47,vS p9 l c8),(48,vI y5),(49,vS p9 l c8),(50,vI y8),(52,vI x3)]) (by first | rfl | simp only [vS,hl01,List.nil_append,List.cons_append,List.set_cons_zero,List.set_cons_succ,List.eraseIdx_cons_zero,List.eraseIdx_cons_succ]) (by first | rfl | simp only [vS,hl01])<|yN rfl<|zD<|zQ<|yH 3 [] [(54,vS p9 l c8),(55,vI y8),(56,vI x2)]<|bE N fun x5 hy9 N=>oM 1 rfl rfl rfl h24 hy9 ?_;intro ad3 ccs3 hat3 hcc3 hrep3;obtain rfl:=hrep3;obtain ⟨l1,hy10,N⟩:=zC N;refine sF (c:=[vI x2]) (x':=x2) 1 0 rfl rfl rfl hat3 rfl rfl hcc3 (by kernel_rfl) (by kernel_rfl) (by kernel_rfl) h24 hy9 (by kernel_rfl) rfl ?_;rw [show l.set y8.toNat x2=l1 from zB hy10];intro cs6 h25 hl02;exact oX (m':=[(0,vP r01 0),(5,vS p9 l c8),(7,vI i1),(54,vS p9 l c8),(55,vI y8),(56,vI x2)]) ⟨rfl,rfl,rfl,rfl,rfl,rfl,trivial⟩<|fL (hs':=[hB r01 (cRd y9 p14 c13),hO Int (vS p9 l1 c8) cs6]) (m':=[(0,vP r01 0),(5,vS p9 l1 c8),(7,vI i1),(54,vS p9 l1 c8),(55,vI y8),(56,vI x2)]) (by first | rfl | simp only [vS,hl02,List.nil_append,List.cons_append,List.set_cons_zero,List.set_cons_succ,List.eraseIdx_cons_zero,List.eraseIdx_cons_succ]) (by first | rfl | simp only [vS,hl02])<|yN rfl<|zT<|zD<|zQ<|yF [] [(7,vI (W (i1 - 1)))]<|yZ<|wS [(0,vP r01 0),(5,vS p9 l1 c8),(7,vI (W (i1 - 1)))]<|ih l1 (W (i1 - 1)) y9 _ N H h25 h23 hg ho hx
 intro hc2 N;exact yX<|zL<|zL<|yR [(0,vP r01 0),(5,vS p9 out3 c8)]<|hx _ _ _ _ _ _ _ _ (zB N).symm H h14 h15
def M.spec_l5Order (r0:zO) (p1:zJ):Option ((List Int)×zO):=do
 let out1←M.spec_l5Order_l1 p1 ([]:List Int) 0
 let (y2,y3)←xB r0 ([1,3,0,8]:List Int)
 let (out4,x1)←M.spec_l5Order_l2 out1 y2 y3
 let (t65,x6)←(do
   if (decide ((out4.length:Int) > 0)) then
    let (y11,y12)←xC x1 20
    pure ((y11 == 0),y12)
   else
    pure (false,x1)
     : Option (Bool×zO))
 let (out5,x7)←(do
   if t65 then
    let (y14,y15)←xB x6 ([(-1),0,1,200]:List Int)
    let x8←idx out4 0
    let l2←pure (out4.set (0:Int).toNat y14)
    pure (l2,y15)
   else
    pure (out4,x6)
     : Option (List Int×zO))
 pure (out5,x7)
theorem spec_l5Order_ok:∀ r0 p1 r,M.spec_l5Order r0 p1=some r→∀ {I:Imm}{r01:Nat}{p c p2 c1 p3 c2},(S4 I p r0.b c)→(S4 I p2 p1.Arrays c1)→(S4 I p3 p1.Parts c2)→Ret Tryz.prog 76 [vP r01 0,vA (cProg p1 p2 c1 p3 c2)] I [hB r01 (cRd r0 p c)] (spec_l5Order_post r01 r):=by
 intro r0 p1 r N I r01 p c p2 c1 p3 c2 h h1 h2;unfold M.spec_l5Order at N;refine yA (fn:=Tryz.f76) (c:=(bodyOf Tryz.f76)) Tryz.func76 rfl rfl ?_;rintro B - -;have H:=iS I;refine yO<|tA (cProg p1 p2 c1 p3 c2) ?_;intro b hb;refine yF [] []<|xI<|xX [] Int ?_;intro b1 hb1;have h3:RL I [] ([]:List Int):=rfl;refine yF [] [(5,vS (some ⟨b1,0,none⟩) ([]:List Int) 0)]<|yI<|yE [(6,vI 0)]<|zD<|zV<|wS [(0,vP r01 0),(3,vP b 0),(5,vS (some ⟨b1,0,none⟩) ([]:List Int) 0),(6,vI 0)] ?_;obtain ⟨o0,ho0,hMl⟩:=zC N;refine spec_l5Order_l1_ok p1 ([]:List Int) 0 o0 ho0 iR h1 h2 h h3 (fun _ _ _ h=>h) (fun _ _ h=>h) ?_;intro I01 out1 p5 c4 cs1 heq le1 h5;subst o0;have h:=h.mono le1;have H:=H.trans le1;refine zW<|yI<|yO<|yH 1 [] [(23,vP r01 0)]<|xX [vI 1,vI 3,vI 0,vI 8] Int ?_;intro b3 hb3;have h9:RL I01 [vI 1,vI 3,vI 0,vI 8] ([1,3,0,8]:List Int):=⟨[vI 1],_,rfl,rfl,rfl,⟨[vI 3],_,rfl,rfl,rfl,⟨[vI 0],_,rfl,rfl,rfl,⟨[vI 8],_,rfl,rfl,rfl,rfl⟩⟩⟩⟩;refine yJ 0 rfl ?_;intro I02 le2 hl0;have h10:=SL.of_frozen hl0 le2 h9;have h5:=iM le2 h5;have h:=h.mono le2;have H:=H.trans le2;refine rW (zE [1,0] (hs':=[hB r01 (cRd r0 p c),hO Int (vS p5 out1 c4) cs1]) rfl (by decide)) ?_;obtain ⟨⟨y2,y3⟩,hy2,N⟩:=zC hMl;refine sY [hB r01 (cRd r0 p c)] [hO Int (vS p5 out1 c4) cs1] (xL r0 ([1,3,0,8]:List Int) _ hy2 h h10) ?_;rintro I03 hs2 v2 k2 le3 - ⟨v01,kk,rfl,rfl,rfl,h12⟩ -;have h5:=iM le3 h5;have H:=H.trans le3;obtain ⟨p8,c7,rfl,h13⟩:=yL h12;refine yF [] [(7,vI y2)]<|zD<|zV<|wS [(0,vP r01 0),(5,vS p5 out1 c4),(7,vI y2)] ?_;obtain ⟨o02,ho02,hMl1⟩:=zC N;refine spec_l5Order_l2_ok out1 y2 y3 o02 ho02 iR h5 h13 (fun _ _ _ h=>h) (fun _ _ h=>h) ?_;intro I07 out4 x1 p11 c10 cs4 p12 c11 heq2 le7 h16 h17;subst o02;have H:=H.trans le7;refine zW<|yI<|yK ?_;obtain ⟨o03,ho03,hMc1⟩:=zC hMl1;refine yU (fun I' hs' m'=>∃ (t65:Bool) (x6:zO) (p15:Option Addr) (c14:Nat),o03=(t65,x6)∧I07.le I'∧(S4 I' p15 x6.b c14)∧hs'=[hB r01 (cRd x6 p15 c14),hO Int (vS p11 out4 c10) cs4]∧m'=[(0,vP r01 0),(5,vS p11 out4 c10),(65,.bool t65)]) ?_ ?_
 · have H:=iS I07;refine zQ<|yH 4 [] [(61,.bool (decide ((out4.length:Int) > 0)))] ?_;cases hc3:(decide ((out4.length:Int) > 0)) with
   | true =>
    have hM02:=zU hc3 ho03
    try rw [hc3]
    refine yH 5 [] [(62,vP r01 0)] ?_;obtain ⟨⟨y11,y12⟩,hy11,N⟩:=zC hM02;refine sY [hB r01 (cRd x1 p12 c11)] [hO Int (vS p11 out4 c10) cs4] (xT x1 20 _ hy11 h17) ?_;rintro I09 hs2 v2 k2 le8 - ⟨v07,kk3,rfl,rfl,rfl,h28⟩ -;have H:=H.trans le8;obtain ⟨p16,c15,rfl,h29⟩:=yL h28;exact yF [] [(65,.bool (y11 == 0))]<|yR [(0,vP r01 0),(5,vS p11 out4 c10),(65,.bool (y11 == 0))]<|zY ⟨_,_,_,_,(zB N).symm,H,h29,rfl,rfl⟩
   | false =>
    have hM03:=zS hc3 ho03
    try rw [hc3]
    exact yF [] [(65,vF)]<|yR [(0,vP r01 0),(5,vS p11 out4 c10),(65,vF)]<|zY ⟨_,_,_,_,(zB hM03).symm,H,h17,rfl,rfl⟩
 rintro I08 hs2 m2 ⟨t65,x6,p15,c14,heq3,le9,h26,rfl,rfl⟩;subst o03;have h16:=iM le9 h16;have H:=H.trans le9;refine zD ?_;obtain ⟨o04,ho04,hMc2⟩:=zC hMc1;refine yU (fun I' hs' m'=>∃ (out5:List Int) (x7:zO) (p17:Option Addr) (c16:Nat) (cs7:List Value) (p18:Option Addr) (c17:Nat),o04=(out5,x7)∧I08.le I'∧(RL I' cs7 out5)∧(S4 I' p18 x7.b c17)∧hs'=[hB r01 (cRd x7 p18 c17),hO Int (vS p17 out5 c16) cs7]∧m'=[(5,vS p17 out5 c16)]) ?_ ?_
 · have H:=iS I08;refine yM ho04 ?_ ?_
   · intro hc4 N;refine zQ<|yH 2 [] [(66,vS p11 out4 c10),(67,vP r01 0)]<|xX [vI (-1),vI 0,vI 1,vI 200] Int ?_;intro b4 hb4;have h32:RL I08 [vI (-1),vI 0,vI 1,vI 200] ([(-1),0,1,200]:List Int):=⟨[vI (-1)],_,rfl,rfl,rfl,⟨[vI 0],_,rfl,rfl,rfl,⟨[vI 1],_,rfl,rfl,rfl,⟨[vI 200],_,rfl,rfl,rfl,rfl⟩⟩⟩⟩;refine yJ 0 rfl ?_;intro I011 le10 hl03;have h33:=SL.of_frozen hl03 le10 h32;have h16:=iM le10 h16;have h26:=h26.mono le10;have H:=H.trans le10;obtain ⟨⟨y14,y15⟩,hy12,N⟩:=zC N;refine sY [hB r01 (cRd x6 p15 c14)] [hO Int (vS p11 out4 c10) cs4] (xL x6 ([(-1),0,1,200]:List Int) _ hy12 h26 h33) ?_;rintro I012 hs2 v2 k2 le11 - ⟨v09,kk4,rfl,rfl,rfl,h35⟩ -;have h16:=iM le11 h16;have H:=H.trans le11;obtain ⟨p19,c18,rfl,h36⟩:=yL h35;obtain ⟨x8,hy13,N⟩:=zC N;refine oM 1 rfl rfl rfl h16 hy13 ?_;intro ad4 ccs4 hat4 hcc4 hrep4;obtain rfl:=hrep4;obtain ⟨l2,hy14,N⟩:=zC N;refine sF (c:=[vI y14]) (x':=y14) 1 0 rfl rfl rfl hat4 rfl rfl hcc4 (by kernel_rfl) (by kernel_rfl) (by kernel_rfl) h16 hy13 (by kernel_rfl) rfl ?_;rw [show out4.set (0:Int).toNat y14=l2 from zB hy14];intro cs8 h37 hl04;exact oX (m':=[(5,vS p11 out4 c10),(66,vS p11 out4 c10),(69,vI y14)]) ⟨rfl,rfl,rfl,trivial⟩<|fL (hs':=[hB r01 (cRd y15 p19 c18),hO Int (vS p11 l2 c10) cs8]) (m':=[(5,vS p11 l2 c10),(66,vS p11 l2 c10),(69,vI y14)]) (by first | rfl | simp only [vS,hl04,List.nil_append,List.cons_append,List.set_cons_zero,List.set_cons_succ,List.eraseIdx_cons_zero,List.eraseIdx_cons_succ]) (by first | rfl | simp only [vS,hl04])<|yN rfl<|yR [(5,vS p11 l2 c10)]<|zY ⟨_,_,_,_,_,_,_,(zB N).symm,H,h37,h36,rfl,rfl⟩
   intro hc4 N;exact zX<|yR [(5,vS p11 out4 c10)]<|zY ⟨_,_,_,_,_,_,_,(zB N).symm,H,h16,h26,rfl,rfl⟩
 rintro I010 hs2 m2 ⟨out5,x7,p17,c16,cs7,p18,c17,heq4,le12,h30,h31,rfl,rfl⟩;subst o04;refine wR [(4,vS p17 out5 c16)]<|zD<|yC<|xG 1 rfl ?_;intro I013 le13 hl05;have h38:=SL.of_frozen hl05 le13 h30;have h31:=h31.mono le13;obtain rfl:=zB hMc2;exact xH ⟨_,_,(.tmp rfl ResV.nil),(zE [0] rfl (by decide)),⟨_,_,rfl,rfl,h38,(xA ⟨_,rfl,h31⟩)⟩⟩
def M.spec_DrawOrderLegal (code:(List UInt8)):Option (zJ×(List Int)):=do
 let y←jN code
 let (y2,y3)←gK y
 let (y5,y6)←xC y3 2
 if (y5 == 0) then
  let (y8,y9)←xC y6 5
  let (y11,y12)←xC y9 3
  let (y14,y15)←xC y12 7
  let y16←eA y2 ([y8,y11,y14]:List Int)
  pure (y2,y16)
 else
  let (y18,y19)←pM y6 y2
  let (y21,y22)←M.spec_l5Order y19 y2
  pure (y18,y21)
theorem spec_DrawOrderLegal_ok:∀ code r,M.spec_DrawOrderLegal code=some r→∀ {I:Imm}{p c},(S4 I p code c)→Ret Tryz.prog 48 [vS p code c] I [] (zFK  r):=by
 intro code r N I p c h;unfold M.spec_DrawOrderLegal at N;refine yA (fn:=Tryz.f48) (c:=(bodyOf Tryz.f48)) Tryz.func48 rfl rfl ?_;rintro B - -;have H:=iS I;refine yO<|uQ zTwo ?_;intro b hb;refine yF [] []<|xI<|yH 1 [] [(6,vS p code c)]<|bE N fun y hy N=>xW (zIT code _ hy h) ?_;rintro I0 hs2 v2 k2 le - ⟨b1,p1,c1,rfl,rfl,h1⟩ -;have H:=H.trans le;refine yF [] [(4,vP b1 0)]<|xI<|yH 1 [] [(8,vP b1 0)] ?_;obtain ⟨⟨y2,y3⟩,hy1,N⟩:=zC N;refine sY [hB b1 (cRd y p1 c1)] [hB b zTwo] (zIp y _ hy1 h1) ?_;rintro I01 hs2 v2 k2 le1 - ⟨v0,kk,rfl,rfl,⟨cs,rfl,h2⟩,h3⟩ -;have H:=H.trans le1;obtain ⟨p2,c2,p3,c3,rfl,h4,h5⟩:=zIS h2;obtain ⟨p4,c4,rfl,h6⟩:=yL h3;refine uQ zTwo ?_;intro b2 hb1;refine xQ 0 (cProg y2 p2 c2 p3 c3) [hB b2 (cProg y2 p2 c2 p3 c3),hB b1 (cRd y3 p4 c4),hB b zTwo] rfl rfl rfl rfl<|yN rfl<|yI<|yO<|yH 1 [] [(10,vP b1 0)]<|rW (zE [1,0,2] (hs':=[hB b1 (cRd y3 p4 c4),hB b2 (cProg y2 p2 c2 p3 c3),hB b zTwo]) rfl (by decide)) ?_;obtain ⟨⟨y5,y6⟩,hy2,N⟩:=zC N;refine sY [hB b1 (cRd y3 p4 c4)] [hB b2 (cProg y2 p2 c2 p3 c3),hB b zTwo] (xT y3 2 _ hy2 h6) ?_;rintro I02 hs2 v2 k2 le2 - ⟨v04,kk1,rfl,rfl,rfl,h8⟩ -;have h4:=h4.mono le2;have h5:=h5.mono le2;have H:=H.trans le2;obtain ⟨p5,c5,rfl,h9⟩:=yL h8;refine yF [] [(12,.bool (y5 == 0))]<|zD<|yM N ?_ ?_
 · intro hc N;refine yK ?_;obtain ⟨⟨y8,y9⟩,hy3,N⟩:=zC N;obtain ⟨⟨y11,y12⟩,hy4,N⟩:=zC N;obtain ⟨⟨y14,y15⟩,hy5,N⟩:=zC N;obtain ⟨y16,hy6,N⟩:=zC N;refine vQ [.p (vA (cProg y2 p2 c2 p3 c3)) [0],.p (vA (cProg y2 p2 c2 p3 c3)) [0],.p (vP b1 0) [],.x (fun I' v hx=>∃ p6 c6,v=vI y8∧hx=[hB b1 (cRd y9 p6 c6)]∧(S4 I' p6 y9.b c6)),.p (vP b1 0) [],.x (fun I' v hx=>∃ p7 c7,v=vI y11∧hx=[hB b1 (cRd y12 p7 c7)]∧(S4 I' p7 y12.b c7)),.p (vP b1 0) [],.x (fun I' v hx=>∃ p8 c8,v=vI y14∧hx=[hB b1 (cRd y15 p8 c8)]∧(S4 I' p8 y15.b c8)),.x (fun I' v hx=>∃ b3,v=vS (some ⟨b3,0,none⟩) ([y8,y11,y14]:List Int) 3∧hx=[]∧(SL I' (vS (some ⟨b3,0,none⟩) ([y8,y11,y14]:List Int) 3) ([y8,y11,y14]:List Int))),.x (fun I' v hx=>∃ p9 c9,v=vS p9 y16 c9∧hx=[]∧(S4 I' p9 y16 c9)),.x (fun I' v hx=>hx=[hB b (cProg y2 p2 c2 p3 c3)])] [[],[],[],[(2,false),(12,true)],[],[(4,false),(3,true)],[],[(6,false),(5,true)],[(3,false),(5,false),(7,false)],[(1,false),(8,false)],[(0,false),(13,true)]] [hB b2 (cProg y2 p2 c2 p3 c3)] [[hB b1 (cRd y6 p5 c5)],[hB b zTwo]] [(7,true),(9,false),(10,true)] (zE [1,0,2] rfl (by decide)) ?_ ?_
   · refine Op<|Op<|Op<|Ox ?_<|Op<|Ox ?_<|Op<|Ox ?_<|Ox ?_<|Ox ?_<|Ox ?_<|On
     · intro I1 hf le1;refine zI ?_;rintro _ _ ⟨rfl,rfl⟩;refine zI ?_;rintro _ _ rfl;refine yV [(15,vP b1 0)] ?_;have H:=iS I1;have h9:=h9.mono le1;refine sY [hB b1 (cRd y6 p5 c5)] (hB b2 (cProg y2 p2 c2 p3 c3)::hf) (xT y6 5 _ hy3 h9) ?_;rintro I03 hs2 v2 k2 le3 - ⟨v06,kk2,rfl,rfl,rfl,h11⟩ -;have H:=H.trans le3;obtain ⟨p6,c6,rfl,h12⟩:=yL h11;exact yS [hB b1 (cRd y9 p6 c6)] H ⟨_,_,rfl,rfl,h12⟩
     · intro I1 hf le1;refine zI ?_;rintro _ _ ⟨rfl,rfl⟩;refine zI ?_;rintro _ _ ⟨p6,c6,rfl,rfl,h12⟩;refine yV [(17,vP b1 0)] ?_;have H:=iS I1;refine sY [hB b1 (cRd y9 p6 c6)] (hB b2 (cProg y2 p2 c2 p3 c3)::hf) (xT y9 3 _ hy4 h12) ?_;rintro I04 hs2 v2 k2 le4 - ⟨v08,kk3,rfl,rfl,rfl,h14⟩ -;have H:=H.trans le4;obtain ⟨p7,c7,rfl,h15⟩:=yL h14;exact yS [hB b1 (cRd y12 p7 c7)] H ⟨_,_,rfl,rfl,h15⟩
     · intro I1 hf le1;refine zI ?_;rintro _ _ ⟨rfl,rfl⟩;refine zI ?_;rintro _ _ ⟨p7,c7,rfl,rfl,h15⟩;refine yV [(19,vP b1 0)] ?_;have H:=iS I1;refine sY [hB b1 (cRd y12 p7 c7)] (hB b2 (cProg y2 p2 c2 p3 c3)::hf) (xT y12 7 _ hy5 h15) ?_;rintro I05 hs2 v2 k2 le5 - ⟨v010,kk4,rfl,rfl,rfl,h17⟩ -;have H:=H.trans le5;obtain ⟨p8,c8,rfl,h18⟩:=yL h17;exact yS [hB b1 (cRd y15 p8 c8)] H ⟨_,_,rfl,rfl,h18⟩
     · intro I1 hf le1;refine zI ?_;rintro _ _ ⟨p6,c6,rfl,rfl,h12⟩;refine zI ?_;rintro _ _ ⟨p7,c7,rfl,rfl,h15⟩;refine zI ?_;rintro _ _ ⟨p8,c8,rfl,rfl,h18⟩;refine yV [(16,vI y8),(18,vI y11),(20,vI y14)] ?_;have H:=iS I1;refine xX [vI y8,vI y11,vI y14] Int ?_;intro b3 hb2;have h19:RL I1 [vI y8,vI y11,vI y14] ([y8,y11,y14]:List Int):=⟨[vI y8],_,rfl,rfl,rfl,⟨[vI y11],_,rfl,rfl,rfl,⟨[vI y14],_,rfl,rfl,rfl,rfl⟩⟩⟩;refine yJ 0 rfl ?_;intro I06 le6 hl0;have h20:=SL.of_frozen hl0 le6 h19;have H:=H.trans le6;exact yS [] H ⟨_,rfl,rfl,h20⟩
     · intro I1 hf le1;refine zI ?_;rintro _ _ ⟨rfl,rfl⟩;refine zI ?_;rintro _ _ ⟨b3,rfl,rfl,h20⟩;refine yV [(14,vA (cProg y2 p2 c2 p3 c3)),(21,vS (some ⟨b3,0,none⟩) ([y8,y11,y14]:List Int) 3)] ?_;have H:=iS I1;have h4:=h4.mono le1;have h5:=h5.mono le1;refine xW (zHF y2 ([y8,y11,y14]:List Int) _ hy6 h4 h5 h20) ?_;rintro I07 hs2 v2 k2 le7 - ⟨v012,rfl,rfl,h21⟩ -;have H:=H.trans le7;obtain ⟨p9,c9,rfl⟩:=h21.form;exact yS [] H ⟨_,_,rfl,rfl,h21⟩
     intro I1 hf le1;refine zI ?_;rintro _ _ ⟨rfl,rfl⟩;refine zI ?_;rintro _ _ rfl;refine yV [(2,vP b 0),(13,vA (cProg y2 p2 c2 p3 c3))] ?_;have H:=iS I1;exact xQ 0 (cProg y2 p2 c2 p3 c3) (hB b (cProg y2 p2 c2 p3 c3)::hB b2 (cProg y2 p2 c2 p3 c3)::hf) rfl rfl rfl rfl<|zER (hx:=[hB b (cProg y2 p2 c2 p3 c3)]) rfl H rfl (zG2 (v:=undef)) rfl
   intro I08 le8;refine zI ?_;rintro _ _ ⟨p8,c8,rfl,rfl,h18⟩;refine zI ?_;rintro _ _ ⟨p9,c9,rfl,rfl,h21⟩;refine zI ?_;rintro _ _ rfl;refine yV [(2,vP b 0),(22,vS p9 y16 c9)] ?_;have h4:=h4.mono le8;have h5:=h5.mono le8;refine yF [] [(3,vS p9 y16 c9)]<|zD<|yC<|zM ?_;obtain rfl:=zB N;exact xH ⟨_,_,(.cell 0 rfl rfl (by kernel_rfl) (.tmp rfl ResV.nil)),yD,⟨_,_,rfl,rfl,⟨_,rfl,(mZ ⟨_,_,rfl,h4,h5⟩)⟩,h21⟩⟩
 intro hc N;refine zX<|zD<|yK ?_;obtain ⟨⟨y18,y19⟩,hy7,N⟩:=zC N;obtain ⟨⟨y21,y22⟩,hy8,N⟩:=zC N;refine vQ [.p (vP b1 0) [],.p (vA (cProg y2 p2 c2 p3 c3)) [0],.x (fun I' v hx=>∃ p10 c10 p11 c11 p12 c12,v=vA (cProg y18 p10 c10 p11 c11)∧hx=[hB b1 (cRd y19 p12 c12)]∧(S4 I' p10 y18.Arrays c10)∧(S4 I' p11 y18.Parts c11)∧(S4 I' p12 y19.b c12)),.p (vP b1 0) [],.p (vA (cProg y2 p2 c2 p3 c3)) [0],.x (fun I' v hx=>∃ p13 c13 p14 c14,v=vS p13 y21 c13∧hx=[hB b1 (cRd y22 p14 c14)]∧(S4 I' p13 y21 c13)∧(S4 I' p14 y22.b c14)),.x (fun I' v hx=>∃ p101 c101 p111 c111,hx=[hB b (cProg y18 p101 c101 p111 c111)]∧(S4 I' p101 y18.Arrays c101)∧(S4 I' p111 y18.Parts c111))] [[],[],[(0,false),(1,false),(8,true)],[],[],[(3,false),(4,false),(2,true)],[(2,false),(9,true)]] [hB b2 (cProg y2 p2 c2 p3 c3)] [[hB b1 (cRd y6 p5 c5)],[hB b zTwo]] [(5,true),(6,true)] (zE [1,0,2] rfl (by decide)) ?_ ?_
 · refine Op<|Op<|Ox ?_<|Op<|Op<|Ox ?_<|Ox ?_<|On
   · intro I1 hf le1;refine zI ?_;rintro _ _ ⟨rfl,rfl⟩;refine zI ?_;rintro _ _ ⟨rfl,rfl⟩;refine zI ?_;rintro _ _ rfl;refine yV [(23,vP b1 0),(24,vA (cProg y2 p2 c2 p3 c3))] ?_;have H:=iS I1;have h9:=h9.mono le1;have h4:=h4.mono le1;have h5:=h5.mono le1;refine sY [hB b1 (cRd y6 p5 c5)] (hB b2 (cProg y2 p2 c2 p3 c3)::hf) (zHz y6 y2 _ hy7 h9 h4 h5) ?_;rintro I09 hs2 v2 k2 le9 - ⟨v013,kk5,rfl,rfl,⟨cs1,rfl,h22⟩,h23⟩ -;have H:=H.trans le9;obtain ⟨p10,c10,p11,c11,rfl,h24,h25⟩:=zIS h22;obtain ⟨p12,c12,rfl,h26⟩:=yL h23;exact yS [hB b1 (cRd y19 p12 c12)] H ⟨_,_,_,_,_,_,rfl,rfl,h24,h25,h26⟩
   · intro I1 hf le1;refine zI ?_;rintro _ _ ⟨rfl,rfl⟩;refine zI ?_;rintro _ _ ⟨rfl,rfl⟩;refine zI ?_;rintro _ _ ⟨p10,c10,p11,c11,p12,c12,rfl,rfl,h24,h25,h26⟩;refine yV [(26,vP b1 0),(27,vA (cProg y2 p2 c2 p3 c3))] ?_;have H:=iS I1;have h4:=h4.mono le1;have h5:=h5.mono le1;refine sY [hB b1 (cRd y19 p12 c12)] (hB b2 (cProg y2 p2 c2 p3 c3)::hf) (spec_l5Order_ok y19 y2 _ hy8 h26 h4 h5) ?_;rintro I010 hs2 v2 k2 le10 - ⟨v017,kk6,rfl,rfl,h27,h28⟩ -;have H:=H.trans le10;obtain ⟨p13,c13,rfl⟩:=h27.form;obtain ⟨p14,c14,rfl,h29⟩:=yL h28;exact yS [hB b1 (cRd y22 p14 c14)] H ⟨_,_,_,_,rfl,rfl,h27,h29⟩
   intro I1 hf le1;refine zI ?_;rintro _ _ ⟨p10,c10,p11,c11,p12,c12,rfl,rfl,h24,h25,h26⟩;refine zI ?_;rintro _ _ rfl;refine yV [(2,vP b 0),(25,vA (cProg y18 p10 c10 p11 c11))] ?_;have H:=iS I1;exact xQ 0 (cProg y18 p10 c10 p11 c11) (hB b (cProg y18 p10 c10 p11 c11)::hB b2 (cProg y2 p2 c2 p3 c3)::hf) rfl rfl rfl rfl<|zER (hx:=[hB b (cProg y18 p10 c10 p11 c11)]) rfl H rfl (zG2 (v:=undef)) ⟨_,_,_,_,rfl,h24,h25⟩
 intro I011 le11;refine zI ?_;rintro _ _ ⟨p13,c13,p14,c14,rfl,rfl,h27,h29⟩;refine zI ?_;rintro _ _ ⟨p101,c101,p111,c111,rfl,h241,h251⟩;refine yV [(2,vP b 0),(28,vS p13 y21 c13)] ?_;refine yF [] [(3,vS p13 y21 c13)]<|zD<|yC ?_;obtain rfl:=zB N;exact xH ⟨_,_,(.cell 0 rfl rfl (by kernel_rfl) (.tmp rfl ResV.nil)),yD,⟨_,_,rfl,rfl,⟨_,rfl,(mZ ⟨_,_,rfl,h241,h251⟩)⟩,h27⟩⟩
def M.spec_DrawOrderBroken (code:(List UInt8)):Option (zJ×(List Int)):=do
 let (y1,y2)←M.spec_DrawOrderLegal code
 pure (y1,y2)
theorem spec_DrawOrderBroken_ok:∀ code r,M.spec_DrawOrderBroken code=some r→∀ {I:Imm}{p c},(S4 I p code c)→Ret Tryz.prog 27 [vS p code c] I [] (zFK  r):=by
 intro code r N I p c h;unfold M.spec_DrawOrderBroken at N;refine yA (fn:=Tryz.f27) (c:=(bodyOf Tryz.f27)) Tryz.func27 rfl rfl ?_;rintro B - -;refine yO<|uQ zTwo ?_;intro b hb;refine yF [] []<|xI<|yH 1 [] [(4,vS p code c)] ?_;obtain ⟨⟨y1,y2⟩,hy,N⟩:=zC N;refine xW (spec_DrawOrderLegal_ok code _ hy h) ?_;rintro I0 hs2 v2 k2 le - ⟨v0,v01,rfl,rfl,⟨cs,rfl,h1⟩,h2⟩ -;obtain ⟨p1,c1,p2,c2,rfl,h3,h4⟩:=zIS h1;obtain ⟨p3,c3,rfl⟩:=h2.form;refine yH 4 [] [(6,vA (cProg y1 p1 c1 p2 c2)),(7,vS p3 y2 c3)]<|xQ 0 (cProg y1 p1 c1 p2 c2) [hB b (cProg y1 p1 c1 p2 c2)] rfl rfl rfl rfl<|yF [] [(3,vS p3 y2 c3)]<|zD<|yC ?_;obtain rfl:=zB N;exact xH ⟨_,_,(.cell 0 rfl rfl (by kernel_rfl) (.tmp rfl ResV.nil)),yD,⟨_,_,rfl,rfl,⟨_,rfl,(mZ ⟨_,_,rfl,h3,h4⟩)⟩,h2⟩⟩
def impl_OrderBroken_post (r:yG×Bool):KT:=fun kk I' hs' v=>
  ∃ v0 v1,hs'=[]∧v=tupV [v0,v1]∧(∃ cs,v0=.agg ⟨cs⟩∧Rp.rep I' cs r.1)∧v1=.bool r.2
def M.impl_OrderBroken (p:zJ) (order:(List Int)):Option (yG×Bool):=do
 let y←nE p order
 if (!y) then
  pure ((yG.mk 0 0 0),false)
 else
  let y1←oK p
  let y2←mW y1 order
  if (decide (y2 < 0)) then
   pure ((yG.mk 0 0 0),false)
  else
   let x←idx y1 y2
   pure (x,true)
theorem impl_OrderBroken_ok:∀ p order r,M.impl_OrderBroken p order=some r→∀ {I:Imm}{p1 c p2 c1 p3 c2},(S4 I p1 p.Arrays c)→(S4 I p2 p.Parts c1)→(S4 I p3 order c2)→Ret Tryz.prog 28 [vA (cProg p p1 c p2 c1),vS p3 order c2] I [] (impl_OrderBroken_post  r):=by
 intro p order r N I p1 c p2 c1 p3 c2 h h1 h2;unfold M.impl_OrderBroken at N;refine yA (fn:=Tryz.f28) (c:=(bodyOf Tryz.f28)) Tryz.func28 rfl rfl ?_;rintro B - -;refine yO<|tA (cProg p p1 c p2 c1) ?_;intro b hb;refine uQ [vI 0,vI 0,vI 0] ?_;intro b1 hb1;refine yF [] []<|yI<|yO<|yH 2 [1] [(8,vA (cProg p p1 c p2 c1)),(9,vS p3 order c2)]<|bE N fun y hy N=>uR (zBp p order _ hy h h1 h2) ?_;intro I0 le;have h2:=h2.mono le;have h:=h.mono le;have h1:=h1.mono le;refine yF [] [(11,.bool (!y))]<|zD<|yM N ?_ ?_
 · intro hc N;refine yO<|yH 1 [] [(12,vA [vI 0,vI 0,vI 0])]<|xQ 0 [vI 0,vI 0,vI 0] [hB b1 [vI 0,vI 0,vI 0],hB b (cProg p p1 c p2 c1)] rfl rfl rfl rfl<|yF [] [(5,vF)]<|zD<|yC<|zM ?_;obtain rfl:=zB N;exact xH ⟨_,_,(.cell 0 rfl rfl (by kernel_rfl) (.tmp rfl ResV.nil)),yD,⟨_,_,rfl,rfl,⟨_,rfl,(dB rfl)⟩,rfl⟩⟩
 intro hc N;refine zX<|xI<|yH 1 [1] [(13,vA (cProg p p1 c p2 c1))]<|bE N fun y1 hy1 N=>xW (zBM p _ hy1 h h1) ?_;rintro I01 hs2 v2 k2 le1 - ⟨v01,rfl,rfl,h4⟩ -;have h2:=h2.mono le1;obtain ⟨p4,c3,rfl⟩:=h4.form;refine yF [] [(6,vS p4 y1 c3)]<|xI<|yH 2 [] [(15,vS p4 y1 c3),(16,vS p3 order c2)]<|bE N fun y2 hy2 N=>kE (zEh y1 order _ hy2 h4 h2) ?_;intro I02 le2;have h4:=h4.mono le2;refine yF [] [(7,vI y2)]<|yI<|yE [(19,.bool (decide (y2 < 0)))]<|zD<|yM N ?_ ?_
 · intro hc1 N;refine yO<|yH 1 [] [(20,vA [vI 0,vI 0,vI 0])]<|xQ 0 [vI 0,vI 0,vI 0] [hB b1 [vI 0,vI 0,vI 0],hB b (cProg p p1 c p2 c1)] rfl rfl rfl rfl<|yF [] [(5,vF)]<|zD<|yC<|zM ?_;obtain rfl:=zB N;exact xH ⟨_,_,(.cell 0 rfl rfl (by kernel_rfl) (.tmp rfl ResV.nil)),yD,⟨_,_,rfl,rfl,⟨_,rfl,(dB rfl)⟩,rfl⟩⟩
 intro hc1 N;refine zX<|xI<|yH 2 [] [(21,vS p4 y1 c3),(22,vI y2)]<|bE N fun x hy3 N=>xV rfl rfl h4 hy3 ?_;intro ad ccs hat hrep;obtain rfl:=gJ hrep;refine xR 0 hat [vI x.From,vI x.To,vI x.Kinds] (vA [vI x.From,vI x.To,vI x.Kinds]) rfl<|xQ 0 [vI x.From,vI x.To,vI x.Kinds] [hB b1 [vI x.From,vI x.To,vI x.Kinds],hB b (cProg p p1 c p2 c1)] rfl rfl rfl rfl<|yF [] [(5,vY)]<|zD<|yC ?_;obtain rfl:=zB N;exact xH ⟨_,_,(.cell 0 rfl rfl (by kernel_rfl) (.tmp rfl ResV.nil)),yD,⟨_,_,rfl,rfl,⟨_,rfl,(dB rfl)⟩,rfl⟩⟩
def M.spec_l5Perm_l1 (list:(List Int)) (n0:Int) (seen1:List Bool) (i:Int):Option (Out Unit (Bool)):=do
 if (decide (i < (list.length:Int))) then
  let t36←(do
    let x←idx list i
    if (decide (x < 0)) then
     pure true
    else
     let x1←idx list i
     if (decide (x1 ≥ n0)) then
      pure true
     else
      let x2←idx list i
      let x3←idx seen1 x2
      pure (id x3)
      : Option Bool)
  if t36 then
   pure (.ret false)
  else
   let x4←idx list i
   let x5←idx seen1 x4
   let l←pure (seen1.set x4.toNat true)
   M.spec_l5Perm_l1 list n0 l (W (i + 1))
 else
  pure (.done ())
 partial_fixpoint
theorem spec_l5Perm_l1_ok (list:(List Int)) (n0:Int):∀ (seen1:List Bool) (i:Int) (o:Out Unit (Bool)),M.spec_l5Perm_l1 list n0 seen1 i=some o→∀ {B}{I0 I:Imm}{Q p c p1 c1 cs1},I0.le I→(S4 I p list c)→(RL I cs1 seen1)→NG Q→NO Q→(∀ (I':Imm) ,o=(.done ())→I0.le I'→T 47 B Q (.exit 0) I' [] [(0,vS p list c),(1,vI n0)])→(∀ r I' hs' m',o=(.ret r)→I0.le I'→RS Tryz.prog Tryz.f79 B (zZ  r) I' hs' m'→T 47 B Q .ret I' hs' m')→J Tryz.prog 47 B (nav (bodyOf Tryz.f79) [1,1,0,1,0]) Q I [hO Bool (vS p1 seen1 c1) cs1] [(0,vS p list c),(1,vI n0),(5,vS p1 seen1 c1),(6,vI i)]:=by
 refine M.spec_l5Perm_l1.partial_correctness list n0 _ fun self ih seen1 i o N B I0 I Q p c p1 c1 cs1 H h h2 hg ho hx hr=>yY hg ho<|yK<|yE [(12,.bool (decide (i < (list.length:Int))))]<|zD<|yM N ?_ ?_
 · intro hc N;refine zX<|yI<|zV<|yK<|yK ?_;obtain ⟨o0,ho0,hMc⟩:=zC N;refine yU (fun I' hs' m'=>∃ (t36:Bool),o0=t36∧I.le I'∧hs'=[hO Bool (vS p1 seen1 c1) cs1]∧m'=[(0,vS p list c),(1,vI n0),(5,vS p1 seen1 c1),(6,vI i),(36,.bool t36)]) ?_ ?_
   · have H:=iS I;refine zQ<|yH 2 [] [(15,vS p list c),(16,vI i)] ?_;obtain ⟨x,hy1,N⟩:=zC ho0;refine xV rfl rfl h hy1 ?_;intro ad ccs hat hrep;obtain rfl:=hrep;refine xR 0 hat [vI x] (vI x) rfl<|yH 6 [] [(20,.bool (decide (x < 0)))] ?_;cases hc1:(decide (x < 0)) with
     | true =>
      have hM0:=zU hc1 N
      try rw [hc1]
      exact yF [] [(36,vY)]<|yR [(0,vS p list c),(1,vI n0),(5,vS p1 seen1 c1),(6,vI i),(36,vY)]<|zY ⟨_,(zB hM0).symm,H,rfl,rfl⟩
     | false =>
      have hM01:=zS hc1 N
      try rw [hc1]
      refine yH 8 [] [(21,vS p list c),(22,vI i)] ?_;obtain ⟨x1,hy2,N⟩:=zC hM01;refine xV rfl rfl h hy2 ?_;intro ad1 ccs1 hat1 hrep1;obtain rfl:=hrep1;refine xR 0 hat1 [vI x1] (vI x1) rfl<|yH 14 [] [(28,.bool (decide (x1 ≥ n0)))] ?_;cases hc2:(decide (x1 ≥ n0)) with
      | true =>
       have hM02:=zU hc2 N
       try rw [hc2]
       exact yF [] [(36,vY)]<|yR [(0,vS p list c),(1,vI n0),(5,vS p1 seen1 c1),(6,vI i),(36,vY)]<|zY ⟨_,(zB hM02).symm,H,rfl,rfl⟩
      | false =>
       have hM03:=zS hc2 N
       try rw [hc2]
       refine yH 17 [] [(29,vS p1 seen1 c1),(30,vS p list c),(31,vI i)] ?_;obtain ⟨x2,hy3,N⟩:=zC hM03;refine xV rfl rfl h hy3 ?_;intro ad2 ccs2 hat2 hrep2;obtain rfl:=hrep2;refine xR 0 hat2 [vI x2] (vI x2) rfl<|bE N fun x3 hy4 N=>oM 0 rfl rfl rfl h2 hy4 ?_;intro ad3 ccs3 hat3 hcc hrep3;obtain rfl:=hrep3;exact zCD 0 0 hat3 hcc [.bool x3] (.bool x3) rfl rfl<|yF [] [(36,.bool x3)]<|yR [(0,vS p list c),(1,vI n0),(5,vS p1 seen1 c1),(6,vI i),(36,.bool x3)]<|zY ⟨_,(zB N).symm,H,rfl,rfl⟩
   rintro I0 hs2 m2 ⟨t36,heq,le,rfl,rfl⟩;subst o0;have h:=h.mono le;have h2:=iM le h2;have H:=H.trans le;refine zD<|yM hMc ?_ ?_
   · intro hc3 N;exact yE [(4,vF)]<|zD<|yC<|zM<|yB<|zM<|zM<|hr _ _ _ _ (zB N).symm H ⟨_,_,(.tmp rfl ResV.nil),yD,⟨_,rfl,rfl,rfl⟩⟩
   intro hc3 N;refine zX<|zD<|zQ<|yH 3 [] [(37,vS p1 seen1 c1),(38,vS p list c),(39,vI i)]<|bE N fun x4 hy5 N=>xV rfl rfl h hy5 ?_;intro ad4 ccs4 hat4 hrep4;obtain rfl:=hrep4;refine xR 0 hat4 [vI x4] (vI x4) rfl<|bE N fun x5 hy6 N=>oM 0 rfl rfl rfl h2 hy6 ?_;intro ad5 ccs5 hat5 hcc1 hrep5;obtain rfl:=hrep5;obtain ⟨l,hy7,N⟩:=zC N;refine sF (c:=[vY]) (x':=true) 0 0 rfl rfl rfl hat5 rfl rfl hcc1 (by kernel_rfl) (by kernel_rfl) (by kernel_rfl) h2 hy6 (by kernel_rfl) rfl ?_;rw [show seen1.set x4.toNat true=l from zB hy7];intro cs2 h3 hl0;exact oX (m':=[(0,vS p list c),(1,vI n0),(5,vS p1 seen1 c1),(6,vI i),(37,vS p1 seen1 c1),(38,vS p list c),(39,vI i),(40,.pointer (some ad4)),(41,vI x4)]) ⟨rfl,rfl,rfl,rfl,rfl,rfl,rfl,rfl,rfl,trivial⟩<|fL (hs':=[hO Bool (vS p1 l c1) cs2]) (m':=[(0,vS p list c),(1,vI n0),(5,vS p1 l c1),(6,vI i),(37,vS p1 l c1),(38,vS p list c),(39,vI i),(40,.pointer (some ad4)),(41,vI x4)]) (by first | rfl | simp only [vS,hl0,List.nil_append,List.cons_append,List.set_cons_zero,List.set_cons_succ,List.eraseIdx_cons_zero,List.eraseIdx_cons_succ]) (by first | rfl | simp only [vS,hl0])<|yN rfl<|zT<|zD<|zQ<|yF [] [(6,vI (W (i + 1)))]<|yZ<|wS [(0,vS p list c),(1,vI n0),(5,vS p1 l c1),(6,vI (W (i + 1)))]<|ih l (W (i + 1)) _ N H h h3 hg ho hx hr
 intro hc N;exact yX<|zL<|zL<|wC (zE [] rfl (by decide))<|yR [(0,vS p list c),(1,vI n0)]<|hx _  (zB N).symm H
def M.spec_l5Perm (list:(List Int)) (n0:Int):Option (Bool):=do
 let seen←mkrow 1 n0 (false:Bool)
 match←M.spec_l5Perm_l1 list n0 seen 0 with
 | .ret r0=>pure r0
 | .done _ =>
  pure ((list.length:Int) == n0)
theorem spec_l5Perm_ok:∀ list n0 r,M.spec_l5Perm list n0=some r→∀ {I:Imm}{p c},(S4 I p list c)→Ret Tryz.prog 79 [vS p list c,vI n0] I [] (zZ  r):=by
 intro list n0 r N I p c h;unfold M.spec_l5Perm at N;refine yA (fn:=Tryz.f79) (c:=(bodyOf Tryz.f79)) Tryz.func79 rfl rfl ?_;rintro B - -;refine yE []<|xI<|yH 1 [] [(7,vI n0)]<|bE N fun seen hy N=>zJ8 1 [vF] rfl hy rfl fun b cs h1=>yF [] [(5,vS (some ⟨b,0,none⟩) seen seen.length)]<|yI<|yE [(6,vI 0)]<|zD<|zV<|wS [(0,vS p list c),(1,vI n0),(5,vS (some ⟨b,0,none⟩) seen seen.length),(6,vI 0)] ?_;obtain ⟨o01,ho01,hMl⟩:=zC N;refine spec_l5Perm_l1_ok list n0 seen 0 o01 ho01 iR h h1 (fun _ _ _ h=>h) (fun _ _ h=>h) ?_ ?_
 · intro I01  heq1 le1;subst o01;refine zW<|wR [(4,.bool ((list.length:Int) == n0))]<|zD<|yC ?_;obtain rfl:=zB hMl;exact wY
 intro r0 I9 hs9 m9 heq9 le9 hrs9;subst heq9;refine yB<|zM ?_;obtain rfl:=zB hMl;exact xH hrs9
def M.spec_OrderValid (p:zJ) (order:(List Int)):Option (Bool):=do
 let t4←(do
   let y←vV p
   if y then
    let y1←tT p
    let y2←M.spec_l5Perm order (y1.length:Int)
    pure (id y2)
   else
    pure false
     : Option Bool)
 pure (id t4)
theorem spec_OrderValid_ok:∀ p order r,M.spec_OrderValid p order=some r→∀ {I:Imm}{p1 c p2 c1 p3 c2},(S4 I p1 p.Arrays c)→(S4 I p2 p.Parts c1)→(S4 I p3 order c2)→Ret Tryz.prog 50 [vA (cProg p p1 c p2 c1),vS p3 order c2] I [] (zZ  r):=by
 intro p order r N I p1 c p2 c1 p3 c2 h h1 h2;unfold M.spec_OrderValid at N;refine yA (fn:=Tryz.f50) (c:=(bodyOf Tryz.f50)) Tryz.func50 rfl rfl ?_;rintro B - -;have H:=iS I;refine yO<|tA (cProg p p1 c p2 c1) ?_;intro b hb;refine yF [] []<|zD<|yK ?_;obtain ⟨o0,ho0,hMc⟩:=zC N;refine yU (fun I' hs' m'=>∃ (t4:Bool),o0=t4∧I.le I'∧hs'=[]∧m'=[(4,.bool t4)]) ?_ ?_
 · have H:=iS I;refine zQ<|yH 1 [0] [(5,vA (cProg p p1 c p2 c1))] ?_;obtain ⟨y,hy,N⟩:=zC ho0;refine uR (gO p _ hy h h1) ?_;intro I01 le;have h2:=h2.mono le;have h:=h.mono le;have h1:=h1.mono le;have H:=H.trans le;refine yH 3 [] [(7,.bool y)] ?_;cases hc:y with
   | true =>
    have hM0:=zU hc N
    try rw [hc]
    refine yH 5 [0] [(8,vS p3 order c2),(9,vA (cProg p p1 c p2 c1))] ?_;obtain ⟨y1,hy1,N⟩:=zC hM0;refine xW (fB p _ hy1 h h1) ?_;rintro I02 hs2 v2 k2 le1 - ⟨v01,rfl,rfl,h4⟩ -;have h2:=h2.mono le1;have H:=H.trans le1;obtain ⟨p4,c3,rfl⟩:=h4.form;refine yH 7 [] [(11,vI (y1.length:Int))]<|bE N fun y2 hy2 N=>uR (spec_l5Perm_ok order (y1.length:Int) _ hy2 h2) ?_;intro I03 le2;have H:=H.trans le2;exact yF [] [(4,.bool y2)]<|wC (zE [] rfl (by decide))<|yR [(4,.bool y2)]<|zY ⟨_,(zB N).symm,H,rfl,rfl⟩
   | false =>
    have hM01:=zS hc N
    try rw [hc]
    exact yF [] [(4,vF)]<|wC (zE [] rfl (by decide))<|yR [(4,vF)]<|zY ⟨_,(zB hM01).symm,H,rfl,rfl⟩
 rintro I0 hs2 m2 ⟨t4,heq,le3,rfl,rfl⟩;subst o0;refine zD<|yC ?_;obtain rfl:=zB hMc;exact wY
def M.spec_l7Places_l1 (order:(List Int)) (out1:List Int) (i:Int):Option (List Int):=do
 if (decide (i < (order.length:Int))) then
  let x←idx order i
  let x1←idx out1 x
  let l←pure (out1.set x.toNat i)
  M.spec_l7Places_l1 order l (W (i + 1))
 else
  pure (id out1)
 partial_fixpoint
theorem spec_l7Places_l1_ok (order:(List Int)):∀ (out1:List Int) (i:Int) (o:List Int),M.spec_l7Places_l1 order out1 i=some o→∀ {B}{I0 I:Imm}{Q p c p1 c1 cs1},I0.le I→(S4 I p order c)→(RL I cs1 out1)→NG Q→NO Q→(∀ (I':Imm) (out2:List Int) (p2:Option Addr) (c2:Nat) (cs2:List Value),o=out2→I0.le I'→(RL I' cs2 out2)→T 22 B Q (.exit 0) I' [hO Int (vS p2 out2 c2) cs2] [(3,vS p2 out2 c2)])→J Tryz.prog 22 B (nav (bodyOf Tryz.f51) [1,1,0,1,0]) Q I [hO Int (vS p1 out1 c1) cs1] [(0,vS p order c),(3,vS p1 out1 c1),(4,vI i)]:=by
 refine M.spec_l7Places_l1.partial_correctness order _ fun self ih out1 i o N B I0 I Q p c p1 c1 cs1 H h h2 hg ho hx=>yY hg ho<|yK<|yE [(11,.bool (decide (i < (order.length:Int))))]<|zD<|yM N ?_ ?_
 · intro hc N;refine zX<|yI<|zV<|zQ<|yH 3 [] [(14,vS p1 out1 c1),(15,vS p order c),(16,vI i)]<|bE N fun x hy1 N=>xV rfl rfl h hy1 ?_;intro ad ccs hat hrep;obtain rfl:=hrep;refine xR 0 hat [vI x] (vI x) rfl<|yH 6 [] [(19,vI i)]<|bE N fun x1 hy2 N=>oM 0 rfl rfl rfl h2 hy2 ?_;intro ad1 ccs1 hat1 hcc hrep1;obtain rfl:=hrep1;obtain ⟨l,hy3,N⟩:=zC N;refine sF (c:=[vI i]) (x':=i) 0 0 rfl rfl rfl hat1 rfl rfl hcc (by kernel_rfl) (by kernel_rfl) (by kernel_rfl) h2 hy2 (by kernel_rfl) rfl ?_;rw [show out1.set x.toNat i=l from zB hy3];intro cs3 h4 hl0;exact oX (m':=[(0,vS p order c),(3,vS p1 out1 c1),(4,vI i),(14,vS p1 out1 c1),(18,vI x),(19,vI i)]) ⟨rfl,rfl,rfl,rfl,rfl,rfl,trivial⟩<|fL (hs':=[hO Int (vS p1 l c1) cs3]) (m':=[(0,vS p order c),(3,vS p1 l c1),(4,vI i),(14,vS p1 l c1),(18,vI x),(19,vI i)]) (by first | rfl | simp only [vS,hl0,List.nil_append,List.cons_append,List.set_cons_zero,List.set_cons_succ,List.eraseIdx_cons_zero,List.eraseIdx_cons_succ]) (by first | rfl | simp only [vS,hl0])<|yN rfl<|zT<|zD<|zQ<|yF [] [(4,vI (W (i + 1)))]<|yZ<|wS [(0,vS p order c),(3,vS p1 l c1),(4,vI (W (i + 1)))]<|ih l (W (i + 1)) _ N H h h4 hg ho hx
 intro hc N;exact yX<|zL<|zL<|yR [(3,vS p1 out1 c1)]<|hx _ _ _ _ _ (zB N).symm H h2
def M.spec_l7Places (order:(List Int)):Option ((List Int)):=do
 let out←mkrow 8 (order.length:Int) (0:Int)
 let out2←M.spec_l7Places_l1 order out 0
 pure (id out2)
theorem spec_l7Places_ok:∀ order r,M.spec_l7Places order=some r→∀ {I:Imm}{p c},(S4 I p order c)→Ret Tryz.prog 51 [vS p order c] I [] (zDS  r):=by
 intro order r N I p c h;unfold M.spec_l7Places at N;refine yA (fn:=Tryz.f51) (c:=(bodyOf Tryz.f51)) Tryz.func51 rfl rfl ?_;rintro B - -;refine yE []<|xI<|yH 2 [] [(6,vI (order.length:Int))]<|bE N fun out hy N=>zJ8 8 [vI 0] rfl hy rfl fun b cs h1=>yF [] [(3,vS (some ⟨b,0,none⟩) out out.length)]<|yI<|yE [(4,vI 0)]<|zD<|zV<|wS [(0,vS p order c),(3,vS (some ⟨b,0,none⟩) out out.length),(4,vI 0)] ?_;obtain ⟨o0,ho0,hMl⟩:=zC N;refine spec_l7Places_l1_ok order out 0 o0 ho0 iR h h1 (fun _ _ _ h=>h) (fun _ _ h=>h) ?_;intro I0 out2 p2 c2 cs2 heq le h3;subst o0;refine zW<|wR [(2,vS p2 out2 c2)]<|zD<|yC<|xG 0 rfl ?_;intro I01 le1 hl01;have h5:=SL.of_frozen hl01 le1 h3;obtain rfl:=zB hMl;exact xH ⟨_,_,(.tmp rfl ResV.nil),yD,⟨_,rfl,rfl,h5⟩⟩
def M.spec_OrderBroken_l1 (y1:(List Int)) (y2:(List yG)) (x:yG) (i:Int):Option (Out yG (yG×Bool)):=do
 if (decide (i < (y2.length:Int))) then
  let x2←idx y2 i
  let x3←idx y1 x2.From
  let x4←idx y2 i
  let x5←idx y1 x4.To
  if (decide (x3 > x5)) then
   let x6←idx y2 i
   pure (.ret (x6,true))
  else
   M.spec_OrderBroken_l1 y1 y2 x (W (i + 1))
 else
  pure (.done x)
 partial_fixpoint
theorem spec_OrderBroken_l1_ok (y1:(List Int)) (y2:(List yG)) (x:yG):∀ (i:Int) (o:Out yG (yG×Bool)),M.spec_OrderBroken_l1 y1 y2 x i=some o→∀ {B}{I0 I:Imm}{Q}  {b1:Nat}{p4 c3 p5 c4},I0.le I→(S4 I p4 y1 c3)→(S4 I p5 y2 c4)→NG Q→NO Q→(∀ (I':Imm) (x1:yG),o=(.done x1)→I0.le I'→T 46 B Q (.exit 0) I' [hB b1 [vI x1.From,vI x1.To,vI x1.Kinds]] [(4,vP b1 0)])→(∀ r I' hs' m',o=(.ret r)→I0.le I'→RS Tryz.prog Tryz.f29 B (impl_OrderBroken_post  r) I' hs' m'→T 46 B Q .ret I' hs' m')→J Tryz.prog 46 B (nav (bodyOf Tryz.f29) [1,1,1,1,0,1,0]) Q I [hB b1 [vI x.From,vI x.To,vI x.Kinds]] [(4,vP b1 0),(6,vS p4 y1 c3),(7,vS p5 y2 c4),(8,vI i)]:=by
 refine M.spec_OrderBroken_l1.partial_correctness y1 y2 x _ fun self ih i o N B I0 I Q b1 p4 c3 p5 c4 H h4 h5 hg ho hx hr=>yY hg ho<|yK<|yE [(21,.bool (decide (i < (y2.length:Int))))]<|zD<|yM N ?_ ?_
 · intro hc1 N;refine zX<|yI<|zV<|yK<|jI (by kernel_rfl) (by kernel_rfl)<|fE 3 [] [(24,vS p4 y1 c3),(25,vS p5 y2 c4),(26,vI i)]<|bE N fun x2 hy3 N=>zA9 rfl rfl h5 hy3 ?_;intro ad ccs hat hrep;obtain rfl:=gJ hrep;refine fE 5 [] [(28,.pointer (some ad))]<|fM 0 hat [vI x2.From] (vI x2.From) rfl<|bE N fun x3 hy4 N=>zA9 rfl rfl h4 hy4 ?_;intro ad1 ccs1 hat1 hrep1;obtain rfl:=hrep1;refine fM 0 hat1 [vI x3] (vI x3) rfl<|fE 11 [] [(32,vS p4 y1 c3),(33,vS p5 y2 c4),(34,vI i)]<|bE N fun x4 hy5 N=>zA9 rfl rfl h5 hy5 ?_;intro ad2 ccs2 hat2 hrep2;obtain rfl:=gJ hrep2;refine fE 13 [] [(36,.pointer (some (ad2.add 1)))]<|fM 1 hat2 [vI x4.To] (vI x4.To) rfl<|bE N fun x5 hy6 N=>zA9 rfl rfl h4 hy6 ?_;intro ad3 ccs3 hat3 hrep3;obtain rfl:=hrep3;refine fM 0 hat3 [vI x5] (vI x5) rfl<|zCB [] [(40,.bool (decide (x3 > x5)))]<|zD<|yM N ?_ ?_
   · intro hc2 N;refine yO<|yH 2 [] [(41,vS p5 y2 c4),(42,vI i)]<|bE N fun x6 hy7 N=>xV rfl rfl h5 hy7 ?_;intro ad4 ccs4 hat4 hrep4;obtain rfl:=gJ hrep4;exact xR 0 hat4 [vI x6.From,vI x6.To,vI x6.Kinds] (vA [vI x6.From,vI x6.To,vI x6.Kinds]) rfl<|xQ 0 [vI x6.From,vI x6.To,vI x6.Kinds] [hB b1 [vI x6.From,vI x6.To,vI x6.Kinds]] rfl rfl rfl rfl<|yF [] [(5,vY)]<|zD<|yC<|yB<|zM<|zM<|hr _ _ _ _ (zB N).symm H ⟨_,_,(.cell 0 rfl rfl (by kernel_rfl) (.tmp rfl ResV.nil)),yD,⟨_,_,rfl,rfl,⟨_,rfl,(dB rfl)⟩,rfl⟩⟩
   intro hc2 N;exact zX<|zT<|zD<|zQ<|yF [] [(8,vI (W (i + 1)))]<|yZ<|wS [(4,vP b1 0),(6,vS p4 y1 c3),(7,vS p5 y2 c4),(8,vI (W (i + 1)))]<|ih (W (i + 1)) _ N H h4 h5 hg ho hx hr
 intro hc1 N;exact yX<|zL<|zL<|yR [(4,vP b1 0)]<|hx _ _ (zB N).symm H
def M.spec_OrderBroken (p:zJ) (order:(List Int)):Option (yG×Bool):=do
 let y←M.spec_OrderValid p order
 if (!y) then
  pure ((yG.mk 0 0 0),false)
 else
  let y1←M.spec_l7Places order
  let y2←nP p
  match←M.spec_OrderBroken_l1 y1 y2 (yG.mk 0 0 0) 0 with
  | .ret r0=>pure r0
  | .done x1 =>
   pure ((yG.mk 0 0 0),false)
theorem spec_OrderBroken_ok:∀ p order r,M.spec_OrderBroken p order=some r→∀ {I:Imm}{p1 c p2 c1 p3 c2},(S4 I p1 p.Arrays c)→(S4 I p2 p.Parts c1)→(S4 I p3 order c2)→Ret Tryz.prog 29 [vA (cProg p p1 c p2 c1),vS p3 order c2] I [] (impl_OrderBroken_post  r):=by
 intro p order r N I p1 c p2 c1 p3 c2 h h1 h2;unfold M.spec_OrderBroken at N;refine yA (fn:=Tryz.f29) (c:=(bodyOf Tryz.f29)) Tryz.func29 rfl rfl ?_;rintro B - -;refine yO<|tA (cProg p p1 c p2 c1) ?_;intro b hb;refine uQ [vI 0,vI 0,vI 0] ?_;intro b1 hb1;refine yF [] []<|yI<|yO<|yH 2 [1] [(9,vA (cProg p p1 c p2 c1)),(10,vS p3 order c2)]<|bE N fun y hy N=>uR (spec_OrderValid_ok p order _ hy h h1 h2) ?_;intro I0 le;have h2:=h2.mono le;have h:=h.mono le;have h1:=h1.mono le;refine yF [] [(12,.bool (!y))]<|zD<|yM N ?_ ?_
 · intro hc N;refine yO<|yH 1 [] [(13,vA [vI 0,vI 0,vI 0])]<|xQ 0 [vI 0,vI 0,vI 0] [hB b1 [vI 0,vI 0,vI 0],hB b (cProg p p1 c p2 c1)] rfl rfl rfl rfl<|yF [] [(5,vF)]<|zD<|yC<|zM ?_;obtain rfl:=zB N;exact xH ⟨_,_,(.cell 0 rfl rfl (by kernel_rfl) (.tmp rfl ResV.nil)),yD,⟨_,_,rfl,rfl,⟨_,rfl,(dB rfl)⟩,rfl⟩⟩
 intro hc N;refine zX<|xI<|yH 1 [] [(14,vS p3 order c2)]<|bE N fun y1 hy1 N=>xW (spec_l7Places_ok order _ hy1 h2) ?_;rintro I01 hs2 v2 k2 le1 - ⟨v01,rfl,rfl,h4⟩ -;have h:=h.mono le1;have h1:=h1.mono le1;obtain ⟨p4,c3,rfl⟩:=h4.form;refine yF [] [(6,vS p4 y1 c3)]<|xI<|yH 1 [1] [(16,vA (cProg p p1 c p2 c1))]<|bE N fun y2 hy2 N=>xW (zEg p _ hy2 h h1) ?_;rintro I02 hs2 v2 k2 le2 - ⟨v02,rfl,rfl,h5⟩ -;have h4:=h4.mono le2;have h:=h.mono le2;obtain ⟨p5,c4,rfl⟩:=h5.form;refine yF [] [(7,vS p5 y2 c4)]<|yI<|yE [(8,vI 0)]<|zD<|zV<|qE (zE [0] (hs':=[hB b1 [vI 0,vI 0,vI 0]]) rfl (by decide))<|wS [(4,vP b1 0),(6,vS p4 y1 c3),(7,vS p5 y2 c4),(8,vI 0)] ?_;obtain ⟨o0,ho0,hMl⟩:=zC N;refine spec_OrderBroken_l1_ok y1 y2 (yG.mk 0 0 0) 0 o0 ho0 iR h4 h5 (fun _ _ _ h=>h) (fun _ _ h=>h) ?_ ?_
 · intro I03 x1 heq le3;subst o0;refine zW<|xI<|yH 1 [] [(45,vA [vI 0,vI 0,vI 0])]<|xQ 0 [vI 0,vI 0,vI 0] [hB b1 [vI 0,vI 0,vI 0]] rfl rfl rfl rfl<|yF [] [(5,vF)]<|zD<|yC ?_;obtain rfl:=zB hMl;exact xH ⟨_,_,(.cell 0 rfl rfl (by kernel_rfl) (.tmp rfl ResV.nil)),yD,⟨_,_,rfl,rfl,⟨_,rfl,(dB rfl)⟩,rfl⟩⟩
 intro r0 I9 hs9 m9 heq9 le9 hrs9;subst heq9;refine yB<|zM ?_;obtain rfl:=zB hMl;exact xH hrs9
end Go.LN
namespace Go.LN
open Go.Proofs
set_option maxRecDepth 20000
def M.laws_FnOrderBroken_l1 (y2:(List Int)) (y4:yG) (from0:Int) (to0:Int) (i:Int):Option ((Int×Int)):=do
 if (decide (i < (y2.length:Int))) then
  let x←idx y2 i
  let from02←(do
    if (x == y4.From) then
     pure (id i)
    else
     pure (id from0)
      : Option Int)
  let x1←idx y2 i
  let to02←(do
    if (x1 == y4.To) then
     pure (id i)
    else
     pure (id to0)
      : Option Int)
  M.laws_FnOrderBroken_l1 y2 y4 from02 to02 (W (i + 1))
 else
  pure (from0,to0)
 partial_fixpoint
theorem laws_FnOrderBroken_l1_ok (y2:(List Int)) (y4:yG):∀ (from0:Int) (to0:Int) (i:Int) (o:(Int×Int)),M.laws_FnOrderBroken_l1 y2 y4 from0 to0 i=some o→∀ {B}{I0 I:Imm}{Q}{y1:zJ}{p1 c1 p2 c2 p3 c3}{b:Nat}{b1:Nat},I0.le I→(S4 I p3 y2 c3)→(S4 I p1 y1.Arrays c1)→(S4 I p2 y1.Parts c2)→NG Q→NO Q→(∀ (I':Imm) (from01:Int) (to01:Int),o=(from01,to01)→I0.le I'→T 102 B Q (.exit 0) I' [hB b1 [vI y4.From,vI y4.To,vI y4.Kinds],hB b (cProg y1 p1 c1 p2 c2)] [(3,vP b 0),(5,vP b1 0),(9,vI from01),(10,vI to01)])→J Tryz.prog 102 B (nav (bodyOf Tryz.f8) [1,1,1,1,1,1,1,1,1,0,1,0]) Q I [hB b1 [vI y4.From,vI y4.To,vI y4.Kinds],hB b (cProg y1 p1 c1 p2 c2)] [(3,vP b 0),(4,vS p3 y2 c3),(5,vP b1 0),(9,vI from0),(10,vI to0),(11,vI i)]:=by
 refine M.laws_FnOrderBroken_l1.partial_correctness y2 y4 _ fun self ih from0 to0 i o N B I0 I Q y1 p1 c1 p2 c2 p3 c3 b b1 H h2 h3 h4 hg ho hx=>yY hg ho<|yK<|yE [(69,.bool (decide (i < (y2.length:Int))))]<|zD<|yM N ?_ ?_
 · intro hc8 N;refine zX<|yI<|zV<|yK<|yK<|jI (by kernel_rfl) (by kernel_rfl)<|fE 2 [] [(72,vS p3 y2 c3),(73,vI i)]<|bE N fun x hy7 N=>zA9 rfl rfl h2 hy7 ?_;intro ad ccs hat hrep;obtain rfl:=hrep;refine fM 0 hat [vI x] (vI x) rfl<|zCB [0] [(78,.bool (x == y4.From))]<|zD ?_;obtain ⟨o03,ho03,hMc3⟩:=zC N;refine yU (fun I' hs' m'=>∃ (from02:Int),o03=from02∧I.le I'∧hs'=[hB b1 [vI y4.From,vI y4.To,vI y4.Kinds],hB b (cProg y1 p1 c1 p2 c2)]∧m'=[(3,vP b 0),(4,vS p3 y2 c3),(5,vP b1 0),(9,vI from02),(10,vI to0),(11,vI i)]) ?_ ?_
   · have H:=iS I;refine yM ho03 ?_ ?_
     · intro hc9 N;exact zQ<|yF [] [(9,vI i)]<|yR [(3,vP b 0),(4,vS p3 y2 c3),(5,vP b1 0),(9,vI i),(10,vI to0),(11,vI i)]<|zY ⟨_,(zB N).symm,H,rfl,rfl⟩
     intro hc9 N;exact zX<|yR [(3,vP b 0),(4,vS p3 y2 c3),(5,vP b1 0),(9,vI from0),(10,vI to0),(11,vI i)]<|zY ⟨_,(zB N).symm,H,rfl,rfl⟩
   rintro I016 hs2 m2 ⟨from02,heq3,le16,rfl,rfl⟩;subst o03;have h2:=h2.mono le16;have h3:=h3.mono le16;have h4:=h4.mono le16;have H:=H.trans le16;refine yI<|jI (by kernel_rfl) (by kernel_rfl)<|fE 2 [] [(80,vS p3 y2 c3),(81,vI i)] ?_;obtain ⟨x1,hy8,N⟩:=zC hMc3;refine zA9 rfl rfl h2 hy8 ?_;intro ad1 ccs1 hat1 hrep1;obtain rfl:=hrep1;refine fM 0 hat1 [vI x1] (vI x1) rfl<|zCB [0] [(86,.bool (x1 == y4.To))]<|zD ?_;obtain ⟨o04,ho04,hMc4⟩:=zC N;refine yU (fun I' hs' m'=>∃ (to02:Int),o04=to02∧I016.le I'∧hs'=[hB b1 [vI y4.From,vI y4.To,vI y4.Kinds],hB b (cProg y1 p1 c1 p2 c2)]∧m'=[(3,vP b 0),(4,vS p3 y2 c3),(5,vP b1 0),(9,vI from02),(10,vI to02),(11,vI i)]) ?_ ?_
   · have H:=iS I016;refine yM ho04 ?_ ?_
     · intro hc10 N;exact zQ<|yF [] [(10,vI i)]<|yR [(3,vP b 0),(4,vS p3 y2 c3),(5,vP b1 0),(9,vI from02),(10,vI i),(11,vI i)]<|zY ⟨_,(zB N).symm,H,rfl,rfl⟩
     intro hc10 N;exact zX<|yR [(3,vP b 0),(4,vS p3 y2 c3),(5,vP b1 0),(9,vI from02),(10,vI to0),(11,vI i)]<|zY ⟨_,(zB N).symm,H,rfl,rfl⟩
   rintro I017 hs2 m2 ⟨to02,heq4,le17,rfl,rfl⟩;subst o04;have h2:=h2.mono le17;have h3:=h3.mono le17;have h4:=h4.mono le17;have H:=H.trans le17;exact zT<|zD<|zQ<|yF [] [(11,vI (W (i + 1)))]<|yZ<|wS [(3,vP b 0),(4,vS p3 y2 c3),(5,vP b1 0),(9,vI from02),(10,vI to02),(11,vI (W (i + 1)))]<|ih from02 to02 (W (i + 1)) _ hMc4 H h2 h3 h4 hg ho hx
 intro hc8 N;exact yX<|zL<|zL<|yR [(3,vP b 0),(5,vP b1 0),(9,vI from0),(10,vI to0)]<|hx _ _ _ (zB N).symm H
def M.laws_FnOrderBroken (code:(List UInt8)):Option (Bool):=do
 if (decide ((code.length:Int) > 1048576)) then
  pure true
 else
  let (y1,y2)←M.spec_DrawOrderBroken code
  let (y4,y5)←M.impl_OrderBroken y1 y2
  let (y7,y8)←M.spec_OrderBroken y1 y2
  let t39←(do
    if (!(y5 == y8)) then
     pure true
    else
     pure (!(y4.From == y7.From && (y4.To == y7.To && y4.Kinds == y7.Kinds)))
      : Option Bool)
  if t39 then
   pure false
  else
   let t54←(do
     let y9←kD y1 y2
     let y10←nE y1 y2
     if y10 then
      if (!(y9 == (!y5))) then
       pure true
      else
       pure (!y5)
     else
      if (!(y9 == false)) then
       pure true
      else
       pure (!y5)
       : Option Bool)
   if t54 then
    let t2←(do
      let y11←kD y1 y2
      let y12←nE y1 y2
      if y12 then
       pure (y11 == (!y5))
      else
       pure (y11 == false)
        : Option Bool)
    pure (id t2)
   else
    let (from01,to01)←M.laws_FnOrderBroken_l1 y2 y4 (-1) (-1) 0
    let t21←(do
      if (decide (to01 < from01)) then
       let y13←M.impl_DepBetween y1 y4.From y4.To
       pure (y13 == y4.Kinds)
      else
       pure false
        : Option Bool)
    pure (id t21)
theorem laws_FnOrderBroken_ok:∀ code r,M.laws_FnOrderBroken code=some r→∀ {I:Imm}{p c},(S4 I p code c)→Ret Tryz.prog 8 [vS p code c] I [] (zZ  r):=by
 intro code r N I p c h;unfold M.laws_FnOrderBroken at N;refine yA (fn:=Tryz.f8) (c:=(bodyOf Tryz.f8)) Tryz.func8 rfl rfl ?_;rintro B - -;have H:=iS I;refine yE []<|yI<|yE [(14,.bool (decide ((code.length:Int) > 1048576)))]<|zD<|yM N ?_ ?_
 · intro hc N;refine yE [(2,vY)]<|zD<|yC<|zM ?_;obtain rfl:=zB N;exact wY
 intro hc N;refine zX<|xI<|yH 1 [] [(16,vS p code c)] ?_;obtain ⟨⟨y1,y2⟩,hy,N⟩:=zC N;refine xW (spec_DrawOrderBroken_ok code _ hy h) ?_;rintro I0 hs2 v2 k2 le - ⟨v0,v01,rfl,rfl,⟨cs,rfl,h1⟩,h2⟩ -;have H:=H.trans le;obtain ⟨p1,c1,p2,c2,rfl,h3,h4⟩:=zIS h1;obtain ⟨p3,c3,rfl⟩:=h2.form;refine yH 5 [] [(18,vA (cProg y1 p1 c1 p2 c2)),(19,vS p3 y2 c3)]<|uQ zTwo ?_;intro b hb;refine xQ 0 (cProg y1 p1 c1 p2 c2) [hB b (cProg y1 p1 c1 p2 c2)] rfl rfl rfl rfl<|yF [] [(4,vS p3 y2 c3)]<|xI<|yH 2 [0] [(21,vA (cProg y1 p1 c1 p2 c2)),(22,vS p3 y2 c3)] ?_;obtain ⟨⟨y4,y5⟩,hy1,N⟩:=zC N;refine xW (impl_OrderBroken_ok y1 y2 _ hy1 h3 h4 h2) ?_;rintro I01 hs2 v2 k2 le1 - ⟨v04,v05,rfl,rfl,⟨cs1,rfl,h5⟩,rfl⟩ -;have h2:=h2.mono le1;have h3:=h3.mono le1;have h4:=h4.mono le1;have H:=H.trans le1;obtain rfl:=gJ h5;refine yH 6 [] [(24,vA [vI y4.From,vI y4.To,vI y4.Kinds]),(25,.bool y5)]<|uQ [vI 0,vI 0,vI 0] ?_;intro b1 hb1;refine xQ 0 [vI y4.From,vI y4.To,vI y4.Kinds] [hB b1 [vI y4.From,vI y4.To,vI y4.Kinds],hB b (cProg y1 p1 c1 p2 c2)] rfl rfl rfl rfl<|yF [] [(6,.bool y5)]<|xI<|yH 2 [1] [(27,vA (cProg y1 p1 c1 p2 c2)),(28,vS p3 y2 c3)] ?_;obtain ⟨⟨y7,y8⟩,hy2,N⟩:=zC N;refine xW (spec_OrderBroken_ok y1 y2 _ hy2 h3 h4 h2) ?_;rintro I02 hs2 v2 k2 le2 - ⟨v06,v07,rfl,rfl,⟨cs2,rfl,h7⟩,rfl⟩ -;have h2:=h2.mono le2;have h3:=h3.mono le2;have h4:=h4.mono le2;have H:=H.trans le2;obtain rfl:=gJ h7;refine yH 6 [] [(30,vA [vI y7.From,vI y7.To,vI y7.Kinds]),(31,.bool y8)]<|uQ [vI 0,vI 0,vI 0] ?_;intro b2 hb2;refine xQ 0 [vI y7.From,vI y7.To,vI y7.Kinds] [hB b2 [vI y7.From,vI y7.To,vI y7.Kinds],hB b1 [vI y4.From,vI y4.To,vI y4.Kinds],hB b (cProg y1 p1 c1 p2 c2)] rfl rfl rfl rfl<|yF [] [(8,.bool y8)]<|yI<|yK ?_;obtain ⟨o0,ho0,hMc⟩:=zC N;refine yU (fun I' hs' m'=>∃ (t39:Bool),o0=t39∧I02.le I'∧hs'=[hB b1 [vI y4.From,vI y4.To,vI y4.Kinds],hB b (cProg y1 p1 c1 p2 c2)]∧m'=[(3,vP b 0),(4,vS p3 y2 c3),(5,vP b1 0),(6,.bool y5),(39,.bool t39)]) ?_ ?_
 · have H:=iS I02;refine zQ<|yH 4 [] [(35,.bool (!(y5 == y8)))] ?_;cases hc1:(!(y5 == y8)) with
   | true =>
    have hM0:=zU hc1 ho0
    try rw [hc1]
    exact yF [] [(39,vY)]<|wC (zE [1,2] rfl (by decide))<|yR [(3,vP b 0),(4,vS p3 y2 c3),(5,vP b1 0),(6,.bool y5),(39,vY)]<|zY ⟨_,(zB hM0).symm,H,rfl,rfl⟩
   | false =>
    have hM01:=zS hc1 ho0
    try rw [hc1]
    exact yH 6 [1,0] [(36,vA [vI y4.From,vI y4.To,vI y4.Kinds]),(37,vA [vI y7.From,vI y7.To,vI y7.Kinds])]<|R_n3 (a:=y4.From) (b:=y4.To) (c:=y4.Kinds) (a':=y7.From) (b':=y7.To) (c':=y7.Kinds) rfl<|yF [] [(39,.bool (!(y4.From == y7.From && (y4.To == y7.To && y4.Kinds == y7.Kinds))))]<|wC (zE [1,2] rfl (by decide))<|yR [(3,vP b 0),(4,vS p3 y2 c3),(5,vP b1 0),(6,.bool y5),(39,.bool (!(y4.From == y7.From && (y4.To == y7.To && y4.Kinds == y7.Kinds))))]<|zY ⟨_,(zB hM01).symm,H,rfl,rfl⟩
 rintro I03 hs2 m2 ⟨t39,heq,le3,rfl,rfl⟩;subst o0;have h2:=h2.mono le3;have h3:=h3.mono le3;have h4:=h4.mono le3;have H:=H.trans le3;refine zD<|yM hMc ?_ ?_
 · intro hc2 N;refine yE [(2,vF)]<|zD<|yC<|zM ?_;obtain rfl:=zB N;exact wY
 intro hc2 N;refine zX<|yI<|yK ?_;obtain ⟨o01,ho01,hMc1⟩:=zC N;refine yU (fun I' hs' m'=>∃ (t54:Bool),o01=t54∧I03.le I'∧hs'=[hB b1 [vI y4.From,vI y4.To,vI y4.Kinds],hB b (cProg y1 p1 c1 p2 c2)]∧m'=[(3,vP b 0),(4,vS p3 y2 c3),(5,vP b1 0),(6,.bool y5),(54,.bool t54)]) ?_ ?_
 · have H:=iS I03;obtain ⟨y9,hy3,N⟩:=zC ho01;obtain ⟨y10,hy4,N⟩:=zC N;cases hc3:y10 with
   | true =>
    have hM02:=zU hc3 N;cases hc4:(!(y9 == (!y5))) with
    | true =>
     have hM03:=zU hc4 hM02;refine vQ [.p (vA (cProg y1 p1 c1 p2 c2)) [1],.p (vS p3 y2 c3) [],.q (.bool y9),.p (vA (cProg y1 p1 c1 p2 c2)) [1],.p (vS p3 y2 c3) [],.q vY,.q vY,.p (.bool y5) [],.p (.bool (!y5)) [],.p (.bool (!y5)) [],.q vY,.q vY,.p undef [],.p undef [],.p vY []] [[],[],[(0,false),(1,false)],[],[],[(3,false),(4,false)],[(5,false)],[(6,false)],[(6,false),(7,false)],[(6,false),(8,false)],[(2,false),(9,false)],[(10,false)],[(11,false)],[(11,false),(12,false)],[(11,false),(13,false)]] [hB b1 [vI y4.From,vI y4.To,vI y4.Kinds],hB b (cProg y1 p1 c1 p2 c2)] [] [(14,false)] (zE [0,1] rfl (by decide)) ?_ ?_
     · refine Op<|Op<|Oq ?_<|Op<|Op<|Oq ?_<|Oq ?_<|Op<|Op<|Op<|Oq ?_<|Oq ?_<|Op<|Op<|Op<|On
       · intro I1 hf le1;refine yV [(40,vA (cProg y1 p1 c1 p2 c2)),(41,vS p3 y2 c3)] ?_;have H:=iS I1;have h2:=h2.mono le1;have h3:=h3.mono le1;have h4:=h4.mono le1;refine uR (zHR y1 y2 _ hy3 h3 h4 h2) ?_;intro I05 le4;have H:=H.trans le4;exact xP H
       · intro I1 hf le1;refine yV [(43,vA (cProg y1 p1 c1 p2 c2)),(44,vS p3 y2 c3)] ?_;have H:=iS I1;have h2:=h2.mono le1;have h3:=h3.mono le1;have h4:=h4.mono le1;refine uR (zBp y1 y2 _ hy4 h3 h4 h2) ?_;intro I06 le5;have H:=H.trans le5;rw [hc3];exact xP H
       · intro I1 hf le1;exact yV [(45,vY)]<|pH 7 [(46,vY)]<|xP iR
       · intro I1 hf le1;refine yV [(42,.bool y9),(49,.bool (!y5))]<|pH 11 [(50,.bool (!(y9 == (!y5))))] ?_;rw [hc4];exact xP iR
       intro I1 hf le1;exact yV [(50,vY)]<|pH 12 [(51,vY)]<|xP iR
     intro I07 le6;refine yV [(3,vP b 0),(4,vS p3 y2 c3),(5,vP b1 0),(6,.bool y5),(54,vY)] ?_;have H:=H.trans le6;exact yN rfl<|yR [(3,vP b 0),(4,vS p3 y2 c3),(5,vP b1 0),(6,.bool y5),(54,vY)]<|zY ⟨_,(zB hM03).symm,H,rfl,rfl⟩
    | false =>
     have hM04:=zS hc4 hM02;refine vQ [.p (vA (cProg y1 p1 c1 p2 c2)) [1],.p (vS p3 y2 c3) [],.q (.bool y9),.p (vA (cProg y1 p1 c1 p2 c2)) [1],.p (vS p3 y2 c3) [],.q vY,.q vY,.p (.bool y5) [],.p (.bool (!y5)) [],.p (.bool (!y5)) [],.q vF,.q vF,.p (.bool y5) [],.p (.bool (!y5)) [],.p (.bool (!y5)) []] [[],[],[(0,false),(1,false)],[],[],[(3,false),(4,false)],[(5,false)],[(6,false)],[(6,false),(7,false)],[(6,false),(8,false)],[(2,false),(9,false)],[(10,false)],[(11,false)],[(11,false),(12,false)],[(11,false),(13,false)]] [hB b1 [vI y4.From,vI y4.To,vI y4.Kinds],hB b (cProg y1 p1 c1 p2 c2)] [] [(14,false)] (zE [0,1] rfl (by decide)) ?_ ?_
     · refine Op<|Op<|Oq ?_<|Op<|Op<|Oq ?_<|Oq ?_<|Op<|Op<|Op<|Oq ?_<|Oq ?_<|Op<|Op<|Op<|On
       · intro I1 hf le1;refine yV [(40,vA (cProg y1 p1 c1 p2 c2)),(41,vS p3 y2 c3)] ?_;have H:=iS I1;have h2:=h2.mono le1;have h3:=h3.mono le1;have h4:=h4.mono le1;refine uR (zHR y1 y2 _ hy3 h3 h4 h2) ?_;intro I05 le4;have H:=H.trans le4;exact xP H
       · intro I1 hf le1;refine yV [(43,vA (cProg y1 p1 c1 p2 c2)),(44,vS p3 y2 c3)] ?_;have H:=iS I1;have h2:=h2.mono le1;have h3:=h3.mono le1;have h4:=h4.mono le1;refine uR (zBp y1 y2 _ hy4 h3 h4 h2) ?_;intro I06 le5;have H:=H.trans le5;rw [hc3];exact xP H
       · intro I1 hf le1;exact yV [(45,vY)]<|pH 7 [(46,vY)]<|xP iR
       · intro I1 hf le1;refine yV [(42,.bool y9),(49,.bool (!y5))]<|pH 11 [(50,.bool (!(y9 == (!y5))))] ?_;rw [hc4];exact xP iR
       intro I1 hf le1;exact yV [(50,vF)]<|pH 12 [(51,vF)]<|xP iR
     intro I08 le7;refine yV [(3,vP b 0),(4,vS p3 y2 c3),(5,vP b1 0),(6,.bool y5),(54,.bool (!y5))] ?_;have H:=H.trans le7;exact yN rfl<|yR [(3,vP b 0),(4,vS p3 y2 c3),(5,vP b1 0),(6,.bool y5),(54,.bool (!y5))]<|zY ⟨_,(zB hM04).symm,H,rfl,rfl⟩
   | false =>
    have hM05:=zS hc3 N;cases hc5:(!(y9 == false)) with
    | true =>
     have hM06:=zU hc5 hM05;refine vQ [.p (vA (cProg y1 p1 c1 p2 c2)) [1],.p (vS p3 y2 c3) [],.q (.bool y9),.p (vA (cProg y1 p1 c1 p2 c2)) [1],.p (vS p3 y2 c3) [],.q vF,.q vF,.p undef [],.p undef [],.p vF [],.q vY,.q vY,.p undef [],.p undef [],.p vY []] [[],[],[(0,false),(1,false)],[],[],[(3,false),(4,false)],[(5,false)],[(6,false)],[(6,false),(7,false)],[(6,false),(8,false)],[(2,false),(9,false)],[(10,false)],[(11,false)],[(11,false),(12,false)],[(11,false),(13,false)]] [hB b1 [vI y4.From,vI y4.To,vI y4.Kinds],hB b (cProg y1 p1 c1 p2 c2)] [] [(14,false)] (zE [0,1] rfl (by decide)) ?_ ?_
     · refine Op<|Op<|Oq ?_<|Op<|Op<|Oq ?_<|Oq ?_<|Op<|Op<|Op<|Oq ?_<|Oq ?_<|Op<|Op<|Op<|On
       · intro I1 hf le1;refine yV [(40,vA (cProg y1 p1 c1 p2 c2)),(41,vS p3 y2 c3)] ?_;have H:=iS I1;have h2:=h2.mono le1;have h3:=h3.mono le1;have h4:=h4.mono le1;refine uR (zHR y1 y2 _ hy3 h3 h4 h2) ?_;intro I05 le4;have H:=H.trans le4;exact xP H
       · intro I1 hf le1;refine yV [(43,vA (cProg y1 p1 c1 p2 c2)),(44,vS p3 y2 c3)] ?_;have H:=iS I1;have h2:=h2.mono le1;have h3:=h3.mono le1;have h4:=h4.mono le1;refine uR (zBp y1 y2 _ hy4 h3 h4 h2) ?_;intro I06 le5;have H:=H.trans le5;rw [hc3];exact xP H
       · intro I1 hf le1;exact yV [(45,vF)]<|pH 7 [(46,vF)]<|xP iR
       · intro I1 hf le1;refine yV [(42,.bool y9),(49,vF)]<|pH 11 [(50,.bool (!(y9 == false)))] ?_;rw [hc5];exact xP iR
       intro I1 hf le1;exact yV [(50,vY)]<|pH 12 [(51,vY)]<|xP iR
     intro I09 le8;refine yV [(3,vP b 0),(4,vS p3 y2 c3),(5,vP b1 0),(6,.bool y5),(54,vY)] ?_;have H:=H.trans le8;exact yN rfl<|yR [(3,vP b 0),(4,vS p3 y2 c3),(5,vP b1 0),(6,.bool y5),(54,vY)]<|zY ⟨_,(zB hM06).symm,H,rfl,rfl⟩
    | false =>
     have hM07:=zS hc5 hM05;refine vQ [.p (vA (cProg y1 p1 c1 p2 c2)) [1],.p (vS p3 y2 c3) [],.q (.bool y9),.p (vA (cProg y1 p1 c1 p2 c2)) [1],.p (vS p3 y2 c3) [],.q vF,.q vF,.p undef [],.p undef [],.p vF [],.q vF,.q vF,.p (.bool y5) [],.p (.bool (!y5)) [],.p (.bool (!y5)) []] [[],[],[(0,false),(1,false)],[],[],[(3,false),(4,false)],[(5,false)],[(6,false)],[(6,false),(7,false)],[(6,false),(8,false)],[(2,false),(9,false)],[(10,false)],[(11,false)],[(11,false),(12,false)],[(11,false),(13,false)]] [hB b1 [vI y4.From,vI y4.To,vI y4.Kinds],hB b (cProg y1 p1 c1 p2 c2)] [] [(14,false)] (zE [0,1] rfl (by decide)) ?_ ?_
     · refine Op<|Op<|Oq ?_<|Op<|Op<|Oq ?_<|Oq ?_<|Op<|Op<|Op<|Oq ?_<|Oq ?_<|Op<|Op<|Op<|On
       · intro I1 hf le1;refine yV [(40,vA (cProg y1 p1 c1 p2 c2)),(41,vS p3 y2 c3)] ?_;have H:=iS I1;have h2:=h2.mono le1;have h3:=h3.mono le1;have h4:=h4.mono le1;refine uR (zHR y1 y2 _ hy3 h3 h4 h2) ?_;intro I05 le4;have H:=H.trans le4;exact xP H
       · intro I1 hf le1;refine yV [(43,vA (cProg y1 p1 c1 p2 c2)),(44,vS p3 y2 c3)] ?_;have H:=iS I1;have h2:=h2.mono le1;have h3:=h3.mono le1;have h4:=h4.mono le1;refine uR (zBp y1 y2 _ hy4 h3 h4 h2) ?_;intro I06 le5;have H:=H.trans le5;rw [hc3];exact xP H
       · intro I1 hf le1;exact yV [(45,vF)]<|pH 7 [(46,vF)]<|xP iR
       · intro I1 hf le1;refine yV [(42,.bool y9),(49,vF)]<|pH 11 [(50,.bool (!(y9 == false)))] ?_;rw [hc5];exact xP iR
       intro I1 hf le1;exact yV [(50,vF)]<|pH 12 [(51,vF)]<|xP iR
     intro I010 le9;refine yV [(3,vP b 0),(4,vS p3 y2 c3),(5,vP b1 0),(6,.bool y5),(54,.bool (!y5))] ?_;have H:=H.trans le9;exact yN rfl<|yR [(3,vP b 0),(4,vS p3 y2 c3),(5,vP b1 0),(6,.bool y5),(54,.bool (!y5))]<|zY ⟨_,(zB hM07).symm,H,rfl,rfl⟩
 rintro I04 hs2 m2 ⟨t54,heq1,le10,rfl,rfl⟩;subst o01;have h2:=h2.mono le10;have h3:=h3.mono le10;have h4:=h4.mono le10;have H:=H.trans le10;refine zD<|yM hMc1 ?_ ?_
 · intro hc6 N;refine yK ?_;obtain ⟨o02,ho02,hMc2⟩:=zC N;refine yU (fun I' hs' m'=>∃ (t2:Bool),o02=t2∧I04.le I'∧hs'=[]∧m'=[(2,.bool t2)]) ?_ ?_
   · have H:=iS I04;obtain ⟨y11,hy5,N⟩:=zC ho02;obtain ⟨y12,hy6,N⟩:=zC N;cases hc7:y12 with
     | true =>
      have hM08:=zU hc7 N;refine vQ [.p (vA (cProg y1 p1 c1 p2 c2)) [1],.p (vS p3 y2 c3) [],.q (.bool y11),.p (vA (cProg y1 p1 c1 p2 c2)) [1],.p (vS p3 y2 c3) [],.q vY,.q vY,.p (.bool y5) [],.p (.bool (!y5)) [],.p (.bool (!y5)) [],.p (.bool (y11 == (!y5))) []] [[],[],[(0,false),(1,false)],[],[],[(3,false),(4,false)],[(5,false)],[(6,false)],[(6,false),(7,false)],[(6,false),(8,false)],[(2,false),(9,false)]] [hB b1 [vI y4.From,vI y4.To,vI y4.Kinds],hB b (cProg y1 p1 c1 p2 c2)] [] [(10,false)] (zE [0,1] rfl (by decide)) ?_ ?_
      · refine Op<|Op<|Oq ?_<|Op<|Op<|Oq ?_<|Oq ?_<|Op<|Op<|Op<|Op<|On
        · intro I1 hf le1;refine yV [(55,vA (cProg y1 p1 c1 p2 c2)),(56,vS p3 y2 c3)] ?_;have H:=iS I1;have h2:=h2.mono le1;have h3:=h3.mono le1;have h4:=h4.mono le1;refine uR (zHR y1 y2 _ hy5 h3 h4 h2) ?_;intro I012 le11;have H:=H.trans le11;exact xP H
        · intro I1 hf le1;refine yV [(58,vA (cProg y1 p1 c1 p2 c2)),(59,vS p3 y2 c3)] ?_;have H:=iS I1;have h2:=h2.mono le1;have h3:=h3.mono le1;have h4:=h4.mono le1;refine uR (zBp y1 y2 _ hy6 h3 h4 h2) ?_;intro I013 le12;have H:=H.trans le12;rw [hc7];exact xP H
        intro I1 hf le1;exact yV [(60,vY)]<|pH 7 [(61,vY)]<|xP iR
      intro I014 le13;refine yV [(65,.bool (y11 == (!y5)))] ?_;have H:=H.trans le13;exact yF [] [(2,.bool (y11 == (!y5)))]<|wC (zE [] rfl (by decide))<|yR [(2,.bool (y11 == (!y5)))]<|zY ⟨_,(zB hM08).symm,H,rfl,rfl⟩
     | false =>
      have hM09:=zS hc7 N;refine vQ [.p (vA (cProg y1 p1 c1 p2 c2)) [1],.p (vS p3 y2 c3) [],.q (.bool y11),.p (vA (cProg y1 p1 c1 p2 c2)) [1],.p (vS p3 y2 c3) [],.q vF,.q vF,.p undef [],.p undef [],.p vF [],.p (.bool (y11 == false)) []] [[],[],[(0,false),(1,false)],[],[],[(3,false),(4,false)],[(5,false)],[(6,false)],[(6,false),(7,false)],[(6,false),(8,false)],[(2,false),(9,false)]] [hB b1 [vI y4.From,vI y4.To,vI y4.Kinds],hB b (cProg y1 p1 c1 p2 c2)] [] [(10,false)] (zE [0,1] rfl (by decide)) ?_ ?_
      · refine Op<|Op<|Oq ?_<|Op<|Op<|Oq ?_<|Oq ?_<|Op<|Op<|Op<|Op<|On
        · intro I1 hf le1;refine yV [(55,vA (cProg y1 p1 c1 p2 c2)),(56,vS p3 y2 c3)] ?_;have H:=iS I1;have h2:=h2.mono le1;have h3:=h3.mono le1;have h4:=h4.mono le1;refine uR (zHR y1 y2 _ hy5 h3 h4 h2) ?_;intro I012 le11;have H:=H.trans le11;exact xP H
        · intro I1 hf le1;refine yV [(58,vA (cProg y1 p1 c1 p2 c2)),(59,vS p3 y2 c3)] ?_;have H:=iS I1;have h2:=h2.mono le1;have h3:=h3.mono le1;have h4:=h4.mono le1;refine uR (zBp y1 y2 _ hy6 h3 h4 h2) ?_;intro I013 le12;have H:=H.trans le12;rw [hc7];exact xP H
        intro I1 hf le1;exact yV [(60,vF)]<|pH 7 [(61,vF)]<|xP iR
      intro I015 le14;refine yV [(65,.bool (y11 == false))] ?_;have H:=H.trans le14;exact yF [] [(2,.bool (y11 == false))]<|wC (zE [] rfl (by decide))<|yR [(2,.bool (y11 == false))]<|zY ⟨_,(zB hM09).symm,H,rfl,rfl⟩
   rintro I011 hs2 m2 ⟨t2,heq2,le15,rfl,rfl⟩;subst o02;refine zD<|yC<|zM ?_;obtain rfl:=zB hMc2;exact wY
 intro hc6 N;refine zX<|wR [(9,vI (-1))]<|wR [(10,vI (-1))]<|yI<|yE [(11,vI 0)]<|zD<|zV<|wS [(3,vP b 0),(4,vS p3 y2 c3),(5,vP b1 0),(9,vI (-1)),(10,vI (-1)),(11,vI 0)] ?_;obtain ⟨o05,ho05,hMl⟩:=zC N;refine laws_FnOrderBroken_l1_ok y2 y4 (-1) (-1) 0 o05 ho05 iR h2 h3 h4 (fun _ _ _ h=>h) (fun _ _ h=>h) ?_;intro I018 from01 to01 heq5 le18;subst o05;have h3:=h3.mono le18;have h4:=h4.mono le18;have H:=H.trans le18;refine zW<|zD<|yK ?_;obtain ⟨o06,ho06,hMc5⟩:=zC hMl;refine yU (fun I' hs' m'=>∃ (t21:Bool),o06=t21∧I018.le I'∧hs'=[]∧m'=[(2,.bool t21)]) ?_ ?_
 · have H:=iS I018;cases hc11:(decide (to01 < from01)) with
   | true =>
    have hM010:=zU hc11 ho06;obtain ⟨y13,hy9,N⟩:=zC hM010;refine vQ [.p (vI to01) [],.p (vI from01) [],.q vY,.q vY,.p (vA (cProg y1 p1 c1 p2 c2)) [1],.p (vP b1 0) [],.p (vI y4.From) [0],.p (vP b1 1) [],.p (vI y4.To) [0],.q (vI y13),.p (vP b1 2) [],.p (vI y4.Kinds) [0],.p (.bool (y13 == y4.Kinds)) [],.p (.bool (y13 == y4.Kinds)) []] [[],[],[(0,false),(1,false)],[(2,false)],[(3,false)],[(3,false)],[(3,false),(5,false)],[(3,false)],[(3,false),(7,false)],[(3,false),(4,false),(6,false),(8,false)],[(3,false)],[(3,false),(10,false)],[(3,false),(9,false),(11,false)],[(3,false),(12,false)]] [hB b1 [vI y4.From,vI y4.To,vI y4.Kinds],hB b (cProg y1 p1 c1 p2 c2)] [] [(13,false)] (zE [0,1] rfl (by decide)) ?_ ?_
    · refine Op<|Op<|Oq ?_<|Oq ?_<|Op<|Op<|Op<|Op<|Op<|Oq ?_<|Op<|Op<|Op<|Op<|On
      · intro I1 hf le1;refine yV [(88,vI to01),(89,vI from01)]<|pH 3 [(90,.bool (decide (to01 < from01)))] ?_;rw [hc11];exact xP iR
      · intro I1 hf le1;exact yV [(90,vY)]<|pH 4 [(91,vY)]<|xP iR
      intro I1 hf le1;refine yV [(91,vY),(92,vA (cProg y1 p1 c1 p2 c2)),(94,vI y4.From),(96,vI y4.To)] ?_;have H:=iS I1;have h3:=h3.mono le1;have h4:=h4.mono le1;refine kE (impl_DepBetween_ok y1 y4.From y4.To _ hy9 h3 h4) ?_;intro I020 le19;have H:=H.trans le19;exact xP H
    intro I021 le20;refine yV [(101,.bool (y13 == y4.Kinds))] ?_;have H:=H.trans le20;exact yF [] [(2,.bool (y13 == y4.Kinds))]<|wC (zE [] rfl (by decide))<|yR [(2,.bool (y13 == y4.Kinds))]<|zY ⟨_,(zB N).symm,H,rfl,rfl⟩
   | false =>
    have hM011:=zS hc11 ho06;refine vQ [.p (vI to01) [],.p (vI from01) [],.q vF,.q vF,.p undef [],.p undef [],.p undef [],.p undef [],.p undef [],.p undef [],.p undef [],.p undef [],.p undef [],.p vF []] [[],[],[(0,false),(1,false)],[(2,false)],[(3,false)],[(3,false)],[(3,false),(5,false)],[(3,false)],[(3,false),(7,false)],[(3,false),(4,false),(6,false),(8,false)],[(3,false)],[(3,false),(10,false)],[(3,false),(9,false),(11,false)],[(3,false),(12,false)]] [hB b1 [vI y4.From,vI y4.To,vI y4.Kinds],hB b (cProg y1 p1 c1 p2 c2)] [] [(13,false)] (zE [0,1] rfl (by decide)) ?_ ?_
    · refine Op<|Op<|Oq ?_<|Oq ?_<|Op<|Op<|Op<|Op<|Op<|Op<|Op<|Op<|Op<|Op<|On
      · intro I1 hf le1;refine yV [(88,vI to01),(89,vI from01)]<|pH 3 [(90,.bool (decide (to01 < from01)))] ?_;rw [hc11];exact xP iR
      intro I1 hf le1;exact yV [(90,vF)]<|pH 4 [(91,vF)]<|xP iR
    intro I022 le21;refine yV [(101,vF)] ?_;have H:=H.trans le21;exact yF [] [(2,vF)]<|wC (zE [] rfl (by decide))<|yR [(2,vF)]<|zY ⟨_,(zB hM011).symm,H,rfl,rfl⟩
 rintro I019 hs2 m2 ⟨t21,heq6,le22,rfl,rfl⟩;subst o06;refine zD<|yC ?_;obtain rfl:=zB hMc5;exact wY
end Go.LN
namespace Go.LN
theorem specInstP (P:zJ) (h:BG P):M.spec_ProgramInstances P=some (if validP P then progI P else []):=by
  unfold M.spec_ProgramInstances;rw [specValidP P h];cases hv:validP P with
  | false=>rfl
  | true =>
    obtain ⟨_,v2,v3,_⟩:=kR hv;have hl:=zHA P v2 v3 _ 0 [] (Nat.zero_add _) (by simp);rw [Int.natCast_zero,List.nil_append] at hl;simp only [Bool.not_true,bF,if_false,oB,oS,tT,hl,oP,id,if_true];rfl
end Go.LN
namespace Go.LN
theorem perm_l1 (n:Nat) (hn:n ≤ 1000000) (l:List Int) (hl:l.length ≤ 1048576):∀ (j i:Nat) (seen:List Bool),i + j=l.length→seen.length=n→M.spec_l5Perm_l1 l (n:Int) seen (i:Int)=some (if permL n (l.drop i) seen=true then .done () else .ret false):=by
  intro j
  induction j with
  | zero =>
    intro i seen hi hs;rw [M.spec_l5Perm_l1];have:¬((i:Int) < (l.length:Int)):=by omega
    simp only [this,decide_false,bF,if_false];rw [List.drop_eq_nil_iff.2 (by omega)]; rfl
  | succ j ih =>
    intro i seen hi hs;rw [M.spec_l5Perm_l1];have hlt:i < l.length:=by omega
    have hc:((i:Int) < (l.length:Int)):=by omega
    rw [gC hlt,permL];simp only [hc,decide_true,if_true,yT hlt,oB,oS];by_cases hr:0 ≤ l[i]∧l[i] < (n:Int)
    · obtain ⟨k,hk⟩:∃ k:Nat,l[i]=(k:Int):=⟨l[i].toNat,by omega⟩;have hks:k < seen.length:=by omega
      have hg:seen.getD k true=seen[k]:=by simp [hks]
      have h1:(0:Int) ≤ (k:Int):=by omega
      have h2:¬((k:Int) < 0):=by omega
      have h3:(k:Int) < (n:Int):=by omega
      have h4:¬((k:Int) ≥ (n:Int)):=by omega
      rw [hk];simp only [h1,h2,h3,h4,decide_true,decide_false,bF,if_false,yT hks,oP,oS,id,iN,hg,true_and];cases hb:seen[k] with
      | true=>simp
      | false =>
        simp only [bF,if_false,if_true];rw [vR (by omega),ih (i + 1) _ (by omega) (by rw [List.length_set]; exact hs)]
    · have h5:¬(0 ≤ l[i]∧l[i] < (n:Int)∧seen.getD l[i].toNat true=false):=fun h=>hr ⟨h.1,h.2.1⟩;rw [if_neg h5];by_cases h6:l[i] < 0
      · simp [h6]
      · have h7:l[i] ≥ (n:Int):=by omega
        simp [h6,h7]
theorem specPerm (n:Nat) (hn:n ≤ 1000000) (l:List Int) (hl:l.length ≤ 1048576):M.spec_l5Perm l (n:Int)=some (permB n l):=by
  unfold M.spec_l5Perm permB;have h:=perm_l1 n hn l hl l.length 0 (List.replicate n false) (Nat.zero_add _) (List.length_replicate ..);rw [Int.natCast_zero,List.drop_zero] at h;simp only [zKc n hn,h,oB,oS];cases permL n l (List.replicate n false)
  · rfl
  · simp;by_cases e:l.length=n
    · simp [e]
    · have:¬((l.length:Int)=(n:Int)):=by omega
      simp [e,this]
theorem specOrd (P:zJ) (h:BG P) (l:List Int) (hl:l.length ≤ 1048576):M.spec_OrderValid P l=some (validP P && permB (progI P).length l):=by
  unfold M.spec_OrderValid;rw [specValidP P h];cases hv:validP P with
  | false=>rfl
  | true =>
    have:=(kR hv).2.2.2;simp [specInsts P hv,specPerm (progI P).length (by omega) l hl]
theorem order_l1 (P:zJ) (h:BG P):∀ (j i:Nat) (out:List Int),out.length=i→i + j=(if validP P then progI P else []).length→∃ o,M.spec_l5Order_l1 P out (i:Int)=some o∧o.length ≤ 120:=by
  have hlen:(if validP P then progI P else []).length ≤ 120:=by
    cases hv:validP P with
    | false=>simp
    | true=>have:=(kR hv).2.2.2; simpa using this
  generalize hL:(if validP P then progI P else [])=L at hlen;intro j
  induction j with
  | zero =>
    intro i out ho hi;rw [M.spec_l5Order_l1,specInstP P h,hL];have:¬((i:Int) < (L.length:Int)):=by omega
    refine ⟨out,by simp only [this,decide_false,bF,if_false,oB,oS,oP,id],by omega⟩
  | succ j ih =>
    intro i out ho hi;rw [M.spec_l5Order_l1,specInstP P h,hL];have hc:((i:Int) < (L.length:Int)):=by omega
    simp only [hc,decide_true,if_true,oB,oS,qX (show (out.length + [(i:Int)].length) * 8 ≤ 140737488355328 by simp; omega)];rw [vR (by omega)];exact ih (i + 1) _ (by rw [List.length_append]; simp; omega) (by omega)
theorem order_l2:∀ (m:Nat) (out:List Int) (x:zO),0 ≤ x.p→x.p + 2 * (m:Int) ≤ 900000000→out.length ≤ 120→Ok (M.spec_l5Order_l2 out (m:Int) x) (fun y=>y.1.length ≤ 120∧0 ≤ y.2.p∧y.2.p ≤ x.p + 2 * (m:Int))
  | 0,out,x,h0,h1,ho=>by
    rw [M.spec_l5Order_l2]
    exact ⟨(out,x),rfl,ho,h0,by dsimp only; omega⟩
  | m + 1,out,x,h0,h1,ho=>by
    rw [M.spec_l5Order_l2]
    refine Ok.bind (φ:=fun b=>b=true→1 < out.length) (Ok.ite_dec (fun h=>Ok.pure fun hd=>by have:=of_decide_eq_true hd; omega) fun _=>Ok.pure fun h=>by cases h) fun b hb=>Ok.ite (fun hc=>?_) fun _=>Ok.pure ⟨ho,h0,by dsimp only; omega⟩
    have h2:=hb hc
    refine Ok.call (jV x _) ⟨by omega,by omega⟩ fun y s k1 k2 k3=>Ok.call (jV s _) ⟨by omega,by omega⟩ fun z u g1 g2 g3=>Ok.idx (by omega) (by omega) fun x2 _ _=>Ok.idx (by omega) (by omega) fun x3 _ _=>Ok.idx (by omega) (by omega) fun x4 _ _=>Ok.bind_pure (Ok.idx (by omega) (by rw [List.length_set]; omega) fun x5 _ _=>Ok.bind_pure ?_)
    rw [show W (((m + 1:Nat):Int) - 1)=(m:Int) by rw [sT (by omega) (by omega)]; omega]
    refine Ok.mono (order_l2 m _ u (by omega) (by omega) (by rw [List.length_set,List.length_set]; exact ho)) fun r hr=>⟨hr.1,hr.2.1,by have:=hr.2.2; omega⟩
theorem drawOrd1 (r:zO) (P:zJ) (h:BG P) (hr:RD r):Ok (M.spec_l5Order r P) (fun y=>y.1.length ≤ 120):=by
  obtain ⟨h0,h1⟩:=hr;unfold M.spec_l5Order;obtain ⟨o,ho,hlen⟩:=order_l1 P h _ 0 [] rfl (Nat.zero_add _);rw [Int.natCast_zero] at ho;rw [ho];refine Ok.bind_some (Ok.call (uN r _) ⟨by decide,h0,by omega,by decide⟩ fun y s g1 g2 g3=>?_);obtain ⟨m,hm⟩:∃ m:Nat,y=(m:Int)∧m ≤ 8:=by
    simp only [List.mem_cons,List.mem_nil_iff,or_false] at g1;exact ⟨y.toNat,by omega,by omega⟩
  rw [hm.1];refine Ok.bind (order_l2 m o s (by omega) (by omega) hlen) fun z hz=>?_;obtain ⟨out,t⟩:=z;obtain ⟨z1,z2,z3⟩:=hz;dsimp only at z1 z2 z3;refine Ok.bind (φ:=fun z:Bool×zO=>(z.1=true→0 < out.length)∧0 ≤ z.2.p∧z.2.p ≤ 900000000) (Ok.ite_dec (fun hc=>Ok.call (jV t _) ⟨z2,by omega⟩ fun y s k1 k2 k3=>Ok.pure ⟨fun _=>by omega,by dsimp only; omega,by dsimp only; omega⟩) fun _=>Ok.pure ⟨fun h=>(by cases h),z2,by dsimp only; omega⟩) fun z hz=>?_;obtain ⟨b,t2⟩:=z;obtain ⟨w1,w2,w3⟩:=hz;refine Ok.bind (φ:=fun z:List Int×zO=>z.1.length ≤ 120) (Ok.ite (fun hc=>?_) fun _=>Ok.pure z1) fun z hz=>by
    obtain ⟨o3,t3⟩:=z;exact Ok.pure hz
  have:=w1 hc;exact Ok.call (uN t2 _) ⟨by decide,w2,by dsimp only at w3; omega,by decide⟩ fun y s _ _ _=>Ok.idx (by omega) (by omega) fun x _ _=>Ok.bind_pure (Ok.pure (by show (List.set _ _ _).length ≤ _; rw [List.length_set]; exact z1))
end Go.LN
namespace Go.LN
def dpb (P:zJ) (a b:Int):Int:=if validP P=true∧0 ≤ a∧a < b∧b < ((progI P).length:Int) then kindI P a.toNat b.toNat else 0
theorem implDep (P:zJ) (hb:BG P) (a b:Int):M.impl_DepBetween P a b=some (dpb P a b):=by
  unfold M.impl_DepBetween dpb;rw [implTrace P hb];cases hv:validP P with
  | false=>simp
  | true =>
    have hlen:=(kR hv).2.2.2;have hi:∀ z ∈ progI P,InP P z:=fun z hz=>zGM hb hv hz;have hW:W (((trcP P).list.length:Int) - 1)=((progI P).length:Int) - 1:=by show W (((progI P).length:Int) - 1)=_; rw [sT (by omega) (by omega)]
    simp only [if_true,oB,oS,oP,Bool.not_true,bF,if_false,oE,hW,true_and,id];by_cases h:0 ≤ a∧a < b∧b < ((progI P).length:Int)
    · rw [if_pos h];obtain ⟨k,rfl⟩:∃ k:Nat,a=(k:Int):=⟨a.toNat,by omega⟩;obtain ⟨m,rfl⟩:∃ m:Nat,b=(m:Int):=⟨b.toNat,by omega⟩;have e1:(0:Int) ≤ (k:Int):=by omega
      have e2:(k:Int) ≤ ((progI P).length:Int) - 1:=by omega
      have e3:(0:Int) ≤ (m:Int):=by omega
      have e4:(m:Int) ≤ ((progI P).length:Int) - 1:=by omega
      have e5:¬((k:Int) ≥ (m:Int)):=by omega
      simp only [e1,e2,e3,e4,e5,decide_true,decide_false,Bool.and_self,Bool.not_true,bF,if_false,oS,betweenV hi (show k < (progI P).length by omega) (show m < (progI P).length by omega),iN]
    · rw [if_neg h];by_cases h1:0 ≤ a∧a ≤ ((progI P).length:Int) - 1
      · by_cases h2:0 ≤ b∧b ≤ ((progI P).length:Int) - 1
        · have e5:a ≥ b:=by omega
          simp only [h1.1,h1.2,h2.1,h2.2,e5,decide_true,Bool.and_self,Bool.not_true,bF,if_false,oS,if_true]
        · have e4:(!(decide (0 ≤ b) && decide (b ≤ ((progI P).length:Int) - 1)))=true:=by simp; omega
          simp only [h1.1,h1.2,e4,decide_true,Bool.and_self,Bool.not_true,bF,if_false,oS,if_true]
      · have e4:(!(decide (0 ≤ a) && decide (a ≤ ((progI P).length:Int) - 1)))=true:=by simp; omega
        simp only [e4,oS,if_true]
end Go.LN
namespace Go.LN
theorem plS_l1 {n:Nat}{o:List Int} (hn:o.length ≤ 1000000) (ho:∀ x ∈ o,0 ≤ x∧x < (n:Int)):∀ (j q:Nat) (g:Nat→Int),q + j=o.length→M.spec_l7Places_l1 o (stL n g) (q:Int)=some (stL n (plc (o.drop q) q g)):=by
  intro j
  induction j with
  | zero =>
    intro q g hq;rw [M.spec_l7Places_l1];have:¬((q:Int) < (o.length:Int)):=by omega
    simp only [this,decide_false,bF,if_false,oP,id];rw [List.drop_eq_nil_iff.2 (by omega)]; rfl
  | succ j ih =>
    intro q g hq;rw [M.spec_l7Places_l1];have hlt:q < o.length:=by omega
    have hc:((q:Int) < (o.length:Int)):=by omega
    obtain ⟨x,hx⟩:∃ x:Nat,o[q]=(x:Int):=⟨o[q].toNat,by have:=ho _ (List.getElem_mem hlt); omega⟩;have hxn:x < n:=by have:=ho _ (List.getElem_mem hlt); omega
    rw [gC hlt,plc];simp only [hc,decide_true,if_true,yT hlt,hx,zGO hxn,oB,oS,oP,iN,zJv hxn];rw [vR (by omega)];exact ih (q + 1) _ (by omega)
end Go.LN
namespace Go.LN
theorem stB_congr {n:Nat}{f g:Nat→Bool} (h:∀ m,m < n→f m=g m):stB n f=stB n g:=by
  unfold stB;exact List.map_congr_left fun m hm=>h m (List.mem_range.1 hm)
theorem stB_val {n m:Nat}{g:Nat→Bool}{v:Bool} (h:m < n):(stB n g).set m v=stB n fun x=>if x=m then v else g x:=by
  refine List.ext_getElem (by rw [List.length_set,zEG,zEG]) fun i h1 h2=>?_;rw [List.getElem_set,zH7,zH7];by_cases e:m=i
  · rw [if_pos e,if_pos e.symm]
  · rw [if_neg e,if_neg fun h=>e h.symm]
theorem stB_getD {n k:Nat}{g:Nat→Bool}:(stB n g).getD k false=if k < n then g k else false:=by
  rw [List.getD_eq_getElem?_getD];by_cases h:k < n
  · rw [List.getElem?_eq_getElem (by rw [zEG]; exact h),zH7,if_pos h]; rfl
  · rw [List.getElem?_eq_none (by rw [zEG]; omega),if_neg h]; rfl
def stpY (dn:Nat→Bool) (r:Nat→Bool) (d:yG):Nat→Bool:=if dn d.From.toNat then r else fun x=>if x=d.To.toNat then false else r x
def rdF (D:List yG) (dn:Nat→Bool):Nat→Bool:=fun x=>!dn x && D.all fun d=>dn d.From.toNat || !(x == d.To.toNat)
theorem stpY_fold (dn:Nat→Bool) (x:Nat):∀ (D:List yG) (r:Nat→Bool),D.foldl (stpY dn) r x=(r x && D.all fun d=>dn d.From.toNat || !(x == d.To.toNat))
  | [],r=>by simp
  | d::D,r=>by
    rw [List.foldl_cons,stpY_fold dn x D,List.all_cons,← Bool.and_assoc]
    congr 1
    unfold stpY
    cases dn d.From.toNat with
    | true=>simp
    | false =>
      by_cases e:x=d.To.toNat
      · simp [e]
      · simp [e]
theorem ready_l1 {n:Nat} (hn:n ≤ 1000000) (dn:Nat→Bool):∀ (j i:Nat),i + j=n→kA (stB n dn) (stB n fun x=>if x < i then !dn x else false) (i:Int)=some (stB n fun x=>!dn x):=by
  intro j
  induction j with
  | zero =>
    intro i hi;rw [kA];have:¬((i:Int) < ((stB n dn).length:Int)):=by rw [zEG]; omega
    simp only [this,decide_false,bF,if_false,oP,id];exact congrArg some (stB_congr fun x hx=>by rw [if_pos (by omega)])
  | succ j ih =>
    intro i hi;rw [kA];have hc:((i:Int) < ((stB n dn).length:Int)):=by rw [zEG]; omega
    have hlt:i < n:=by omega
    simp only [hc,decide_true,if_true,zKx hlt,oB,oS,oP,iN,stB_val hlt];rw [vR (by omega),← ih (i + 1) (by omega)]
    congr 1
    refine stB_congr fun x hx=>?_;by_cases e:x=i
    · rw [if_pos e,if_pos (by omega),e]
    · rw [if_neg e];by_cases e2:x < i
      · rw [if_pos e2,if_pos (by omega)]
      · rw [if_neg e2,if_neg (by omega)]
theorem ready_l2 {D:List yG}{n:Nat} (hD:∀ d ∈ D,DB n d) (hl:D.length ≤ 1000000) (dn:Nat→Bool):∀ (j q:Nat) (r:Nat→Bool),q + j=D.length→kC D (stB n dn) (stB n r) (q:Int)=some (stB n ((D.drop q).foldl (stpY dn) r)):=by
  intro j
  induction j with
  | zero =>
    intro q r hq;rw [kC];have:¬((q:Int) < (D.length:Int)):=by omega
    simp only [this,decide_false,bF,if_false,oP,id];rw [List.drop_eq_nil_iff.2 (by omega)]; rfl
  | succ j ih =>
    intro q r hq;rw [kC];have hlt:q < D.length:=by omega
    have hc:((q:Int) < (D.length:Int)):=by omega
    obtain ⟨i,k,e1,e2,h1,h2⟩:=hD D[q] (List.getElem_mem hlt);rw [gC hlt,List.foldl_cons];have es:stpY dn r D[q]=if dn i then r else fun x=>if x=k then false else r x:=by
      unfold stpY;rw [e1,e2,iN,iN]
    rw [es];simp only [hc,decide_true,if_true,yT hlt,oB,oS,oP,id,e1,e2,zKx h1,zKx h2,iN,stB_val h2];rw [vR (show q < 9223372036854775807 by omega)];cases dn i with
    | true =>
      simp only [Bool.not_true,bF,if_false,if_true,oS];exact ih (q + 1) _ (by omega)
    | false =>
      simp only [Bool.not_false,bF,if_false,if_true,oS];exact ih (q + 1) _ (by omega)
theorem readyV {D:List yG}{n:Nat} (hD:∀ d ∈ D,DB n d) (hl:D.length ≤ 1000000) (hn:n ≤ 1000000) (dn:Nat→Bool):fZ D (stB n dn)=some (choF (stB n (rdF D dn)) 0):=by
  have h1:=ready_l1 hn dn n 0 (Nat.zero_add _);have h2:=ready_l2 hD hl dn _ 0 (fun x=>!dn x) (Nat.zero_add D.length);have e1:(stB n fun x=>if x < 0 then !dn x else false)=List.replicate n false:=by
    rw [zKz]; exact stB_congr fun x hx=>by rw [if_neg (by omega)]
  have e2:D.foldl (stpY dn) (fun x=>!dn x)=rdF D dn:=by
    funext x
    rw [stpY_fold]; rfl
  rw [e1,Int.natCast_zero] at h1;rw [List.drop_zero,e2,Int.natCast_zero] at h2;unfold fZ;rw [zEG,zKc n hn];simp only [h1,h2,specCho (stB n (rdF D dn)) (by rw [zEG]; omega),oB,oS,oP,id]
theorem choiceV (cs:List Int) (n0:Nat) {many:Nat} (hm:0 < many):∃ k:Nat,gX cs (n0:Int) (many:Int)=some (k:Int)∧k < many:=by
  unfold gX;by_cases h:cs.length=0
  · refine ⟨0,?_,hm⟩;have e:((cs.length:Int) == 0)=true:=by simp [h]
    rw [if_pos e]; rfl
  · have e:¬(((cs.length:Int) == 0)=true):=by simp; intro e; exact h (by rw [e]; rfl)
    rw [if_neg e];have h1:rem (n0:Int) (cs.length:Int)=some ((n0 % cs.length:Nat):Int):=by
      unfold rem;rw [if_neg (by omega)]; rfl
    have hq:n0 % cs.length < cs.length:=Nat.mod_lt _ (by omega);have h2:rem cs[n0 % cs.length] (many:Int)=some (cs[n0 % cs.length].tmod (many:Int)):=by
      unfold rem;rw [if_neg (by omega)]
    simp only [h1,yT hq,h2,oB,oS,oP,id];have hlt:=Int.tmod_lt_of_pos cs[n0 % cs.length] (show (0:Int) < (many:Int) by omega);by_cases h3:cs[n0 % cs.length].tmod (many:Int) < 0
    · exact ⟨0,by simp [h3],hm⟩
    · refine ⟨(cs[n0 % cs.length].tmod (many:Int)).toNat,?_,by omega⟩;simp only [h3,decide_false,bF,if_false];exact congrArg some (by omega)
def cntU (dn:Nat→Bool):Nat→Nat
  | 0=>0
  | n + 1=>cntU dn n + (if dn n then 0 else 1)
theorem cntU_zero {dn:Nat→Bool}:∀ {n:Nat},cntU dn n=0→∀ y,y < n→dn y=true
  | n + 1,h,y,hy=>by
    rw [cntU] at h
    by_cases e:dn n=true
    · rcases Nat.lt_or_ge y n with h1 | h1
      · exact cntU_zero (by omega) y h1
      · rw [show y=n by omega]; exact e
    · rw [if_neg e] at h; omega
theorem cntU_least {dn:Nat→Bool}:∀ {n:Nat},0 < cntU dn n→∃ x,x < n∧dn x=false∧∀ y,y < x→dn y=true
  | n + 1,h=>by
    by_cases h0:0 < cntU dn n
    · obtain ⟨x,h1,h2,h3⟩:=cntU_least h0
      exact ⟨x,by omega,h2,h3⟩
    · refine ⟨n,by omega,?_,cntU_zero (by omega)⟩
      rw [cntU] at h
      cases hd:dn n with
      | false=>rfl
      | true=>rw [hd,if_pos rfl] at h; omega
theorem cntU_congr {f g:Nat→Bool}:∀ {n:Nat},(∀ m,m < n→f m=g m)→cntU f n=cntU g n
  | 0,_=>rfl
  | n + 1,h=>by rw [cntU,cntU,cntU_congr fun m hm=>h m (by omega),h n (by omega)]
theorem cntU_set {dn:Nat→Bool}{x:Nat} (hx:dn x=false):∀ {n:Nat},x < n→cntU (fun y=>dn y || y == x) n + 1=cntU dn n
  | n + 1,h=>by
    rw [cntU,cntU]
    by_cases e:x=n
    · subst e
      rw [cntU_congr (f:=fun y=>dn y || y == x) (g:=dn) fun m hm=>by
        have:(m == x)=false:=by simp; omega
        rw [this,Bool.or_false],hx]
      simp
    · have:=cntU_set hx (n:=n) (by omega)
      have e2:(dn n || n == x)=dn n:=by
        have:(n == x)=false:=by simp; omega
        rw [this,Bool.or_false]
      rw [e2]; omega
theorem cntU_rep:∀ n,cntU (fun _=>false) n=n
  | 0=>rfl
  | n + 1=>by rw [cntU,cntU_rep n]; rfl
theorem greedy_l1 {D:List yG}{n:Nat} (hD:∀ d ∈ D,DB n d) (hlt:∀ d ∈ D,d.From.toNat < d.To.toNat) (hl:D.length ≤ 1000000) (hn:n ≤ 120) (cs:List Int):∀ (j n0:Nat) (dn:Nat→Bool) (o:List Int),n0 + j=n→cntU dn n=j→o.length=n0→∃ o2,oL cs D o (stB n dn) (n0:Int)=some o2∧o2.length ≤ 120:=by
  intro j
  induction j with
  | zero =>
    intro n0 dn o h1 h2 h3;rw [oL];have:¬((n0:Int) < ((stB n dn).length:Int)):=by rw [zEG]; omega
    exact ⟨o,by simp only [this,decide_false,bF,if_false,oP,id],by omega⟩
  | succ j ih =>
    intro n0 dn o h1 h2 h3;rw [oL];have hc:((n0:Int) < ((stB n dn).length:Int)):=by rw [zEG]; omega
    obtain ⟨x,x1,x2,x3⟩:=cntU_least (show 0 < cntU dn n by omega);have hmem:((x:Nat):Int) ∈ choF (stB n (rdF D dn)) 0:=by
      refine zJy.2 ⟨x,by omega,?_⟩;rw [stB_getD,if_pos x1];unfold rdF;rw [x2,Bool.not_false,Bool.true_and,List.all_eq_true];intro d hd;by_cases e:x=d.To.toNat
      · rw [x3 _ (by have:=hlt d hd; omega),Bool.true_or]
      · have:(x == d.To.toNat)=false:=by simpa using e
        rw [this]; simp
    have hpos:0 < (choF (stB n (rdF D dn)) 0).length:=List.length_pos_of_mem hmem;obtain ⟨k,k1,k2⟩:=choiceV cs n0 hpos;obtain ⟨m,m1,m2⟩:=zJy.1 (List.getElem_mem k2);rw [stB_getD] at m2;have hm:m < n:=by
      rcases Nat.lt_or_ge m n with h | h
      · exact h
      · rw [if_neg (by omega)] at m2; cases m2
    rw [if_pos hm] at m2;have hdm:dn m=false:=by
      unfold rdF at m2;cases hd:dn m with
      | false=>rfl
      | true=>rw [hd] at m2; simp at m2
    rw [Nat.zero_add] at m1;simp only [hc,decide_true,if_true,readyV hD hl (show n ≤ 1000000 by omega) dn,k1,yT k2,m1,zKx hm,oB,oS,oP,iN,zKy hm,qX (show (o.length + [(m:Int)].length) * 8 ≤ 140737488355328 by simp; omega)];rw [vR (by omega)];have:=cntU_set hdm hm;exact ih (n0 + 1) _ _ (by omega) (by omega) (by rw [List.length_append]; simp; omega)
theorem greedyV (P:zJ) (hb:BG P) (cs:List Int):∃ o,eA P cs=some o∧o.length ≤ 120:=by
  unfold eA;rw [specValidP P hb];cases hv:validP P with
  | false=>exact ⟨[],by simp,by simp⟩
  | true =>
    have hlen:=(kR hv).2.2.2;have hl0:=zKw hlen;obtain ⟨o,h1,h2⟩:=greedy_l1 (zJx (P:=P)) (fun d hd=>by
      obtain ⟨i,k,rfl,k1,_⟩:=zJw hd;show ((i:Nat):Int).toNat < ((k:Nat):Int).toNat;rw [iN,iN]; exact k1) (by omega) hlen cs (progI P).length 0 (fun _=>false) [] (Nat.zero_add _) (cntU_rep _) rfl
    rw [← zKz,Int.natCast_zero] at h1;refine ⟨o,?_,h2⟩;simp only [Bool.not_true,bF,if_false,specDeps6 P hb hv,specInsts P hv,zKc (progI P).length (by omega),h1,oB,oS,oP,id]
theorem drawBrk (code:List UInt8):Ok (M.spec_DrawOrderBroken code) (fun y=>BG y.1∧y.2.length ≤ 120):=by
  unfold M.spec_DrawOrderBroken;refine Ok.bind (φ:=fun y:zJ×List Int=>BG y.1∧y.2.length ≤ 120) ?_ fun p hp=>by
    obtain ⟨P,l⟩:=p;exact Ok.pure hp
  unfold M.spec_DrawOrderLegal;refine Ok.call (zKK code) trivial fun s hs=>Ok.call (zK9 s) ⟨by omega,by omega⟩ fun a t g1 g2 g3=>Ok.call (jV t 2) ⟨by omega,by omega⟩ fun y u k1 k2 k3=>Ok.ite_beq (fun _=>?_) fun _=>?_
  · refine Ok.call (jV u 5) ⟨by omega,by omega⟩ fun y1 u1 _ _ _=>Ok.call (jV u1 3) ⟨by omega,by omega⟩ fun y2 u2 _ _ _=>Ok.call (jV u2 7) ⟨by omega,by omega⟩ fun y3 u3 _ _ _=>?_;obtain ⟨o,h1,h2⟩:=greedyV a g1.dp.bg [y1,y2,y3];dsimp only;rw [h1];exact Ok.bind_some (Ok.pure ⟨g1.dp.bg,h2⟩)
  · refine Ok.bind (mut4 u a g1.dp (by omega) (by omega)) fun p hp=>?_;obtain ⟨P,r⟩:=p;refine Ok.bind (drawOrd1 r a g1.dp.bg hp.2) fun q hq=>?_;obtain ⟨l,r2⟩:=q;exact Ok.pure ⟨hp.1.1,hq⟩
def bkF (P:zJ) (o:List Int):yG×Bool:=if validP P && permB (progI P).length o then (match brF P o with | some d=>(d,true) | none=>(⟨0,0,0⟩,false)) else (⟨0,0,0⟩,false)
theorem implBk (P:zJ) (hb:BG P) (o:List Int) (ho:o.length ≤ 1048576):M.impl_OrderBroken P o=some (bkF P o):=by
  unfold M.impl_OrderBroken bkF;simp only [implOrd P hb o ho,implDeps P hb,oB,oS,oP,id];cases hv:validP P with
  | false=>rfl
  | true =>
    have hlen:=(kR hv).2.2.2;have hl:=zJu (P:=P);cases hp:permB (progI P).length o with
    | false=>rfl
    | true =>
      unfold brF;rcases implBrk (zKA hv) (by omega) (by omega) hp with ⟨h1,h2⟩ | ⟨k,hk,h1,h2⟩
      · rw [h2];simp [h1]
      · rw [h2];have:¬((k:Int) < 0):=by omega
        simp [h1,this,yT hk]
theorem bkS_l1 {n:Nat}{g:Nat→Int}{D:List yG} (hD:∀ d ∈ D,DB n d) (hl:D.length ≤ 1000000) (z:yG):∀ (j q:Nat),q + j=D.length→M.spec_OrderBroken_l1 (stL n g) D z (q:Int)=some (match (D.drop q).find? (brk g) with | some d=>.ret (d,true) | none=>.done z):=by
  intro j
  induction j with
  | zero =>
    intro q hq;rw [M.spec_OrderBroken_l1];have:¬((q:Int) < (D.length:Int)):=by omega
    simp only [this,decide_false,bF,if_false,oP];rw [List.drop_eq_nil_iff.2 (by omega)]; rfl
  | succ j ih =>
    intro q hq;rw [M.spec_OrderBroken_l1];have hlt:q < D.length:=by omega
    have hc:((q:Int) < (D.length:Int)):=by omega
    obtain ⟨i,k,e1,e2,h1,h2⟩:=hD D[q] (List.getElem_mem hlt);have hb:brk g D[q]=decide (g i > g k):=by
      unfold brk;rw [e1,e2,iN,iN]
    rw [gC hlt,List.find?_cons,hb];simp only [hc,decide_true,if_true,yT hlt,oB,oS,oP,e1,e2,zGO h1,zGO h2];rw [vR (by omega),ih (q + 1) (by omega)];cases decide (g i > g k) <;> rfl
theorem specBk (P:zJ) (hb:BG P) (o:List Int) (ho:o.length ≤ 1048576):M.spec_OrderBroken P o=some (bkF P o):=by
  unfold M.spec_OrderBroken bkF;simp only [specOrd P hb o ho,oB,oS,oP,id];cases hv:validP P with
  | false=>rfl
  | true =>
    have hlen:=(kR hv).2.2.2;have hl0:=zKw hlen;cases hp:permB (progI P).length o with
    | false=>rfl
    | true =>
      obtain ⟨⟨p1,p2⟩,p3⟩:=(zIJ _ _).1 hp;have h1:=plS_l1 (n:=(progI P).length) (by omega) p1 _ 0 (fun _=>0) (Nat.zero_add o.length);rw [Int.natCast_zero,List.drop_zero,← zJK] at h1;have h1:M.spec_l7Places_l1 o (List.replicate (progI P).length 0) 0=some (stL (progI P).length (plo o)):=h1;have h2:=bkS_l1 (g:=plo o) (zJx (P:=P)) (by omega) ⟨0,0,0⟩ _ 0 (Nat.zero_add (depA P 0 (progI P).length).length);rw [Int.natCast_zero,List.drop_zero] at h2;have e:brF P o=(depA P 0 (progI P).length).find? (brk (plo o)):=by unfold brF dpF; rw [hv,if_pos rfl]
      rw [e];unfold M.spec_l7Places;rw [p3];simp only [Bool.and_self,Bool.not_true,bF,if_false,if_true,zKv (progI P).length (by omega),h1,specDeps6 P hb hv,h2,oB,oS,oP,id];cases (depA P 0 (progI P).length).find? (brk (plo o)) <;> rfl
theorem xlaw_l1 {o:List Int} (ho:o.length ≤ 1000000) (h0:∀ x ∈ o,0 ≤ x) {d:yG}{i k:Nat} (e1:d.From=(i:Int)) (e2:d.To=(k:Int)):∀ (j q:Nat) (g:Nat→Int),q + j=o.length→M.laws_FnOrderBroken_l1 o d (g i) (g k) (q:Int)=some (plc (o.drop q) q g i,plc (o.drop q) q g k):=by
  intro j
  induction j with
  | zero =>
    intro q g hq;rw [M.laws_FnOrderBroken_l1];have:¬((q:Int) < (o.length:Int)):=by omega
    simp only [this,decide_false,bF,if_false,oP];rw [List.drop_eq_nil_iff.2 (by omega)]; rfl
  | succ j ih =>
    intro q g hq;rw [M.laws_FnOrderBroken_l1];have hlt:q < o.length:=by omega
    have hc:((q:Int) < (o.length:Int)):=by omega
    have hx:=h0 _ (List.getElem_mem hlt);rw [gC hlt,plc,← ih (q + 1) (upd g o[q].toNat (q:Int)) (by omega)];simp only [hc,decide_true,if_true,yT hlt,oB,oS,oP,id,e1,e2];rw [vR (by omega)];have u:∀ y:Nat,upd g o[q].toNat (q:Int) y=if (o[q] == (y:Int))=true then (q:Int) else g y:=fun y=>by
      unfold upd;by_cases e:o[q]=(y:Int)
      · rw [if_pos (by omega),if_pos (by simpa using e)]
      · rw [if_neg (by omega),if_neg (by simpa using e)]
    rw [u i,u k];cases (o[q] == (i:Int)) <;> cases (o[q] == (k:Int)) <;> rfl
theorem nodup_le:∀ (n:Nat) (l:List Int),l.Nodup→(∀ x ∈ l,0 ≤ x∧x < (n:Int))→l.length ≤ n
  | 0,[],_,_=>Nat.le_refl _
  | 0,x::l,_,h=>by have:=h x (List.mem_cons_self ..); omega
  | n + 1,l,hn,h=>by
    by_cases hm:(n:Int) ∈ l
    · have h1:=nodup_le n (l.erase (n:Int)) (hn.erase _) fun x hx=>by
        have h2:=(hn.mem_erase_iff).1 hx
        have h3:=h x h2.2
        have h4:=h2.1
        omega
      rw [List.length_erase_of_mem hm] at h1
      omega
    · have h1:=nodup_le n l hn fun x hx=>by
        have h3:=h x hx
        have h4:x ≠ (n:Int):=fun e=>hm (e ▸ hx)
        omega
      omega
theorem perm_has {n:Nat}{o:List Int} (hp:permB n o=true) {m:Nat} (hm:m < n):∃ (j:Nat) (hj:j < o.length),o[j]=(m:Int):=by
  obtain ⟨⟨p1,p2⟩,p3⟩:=(zIJ _ _).1 hp;by_cases h:(m:Int) ∈ o
  · exact List.mem_iff_getElem.1 h
  · have:=nodup_le n ((m:Int)::o) (List.nodup_cons.2 ⟨h,p2⟩) fun x hx=>by
      rcases List.mem_cons.1 hx with rfl | hx
      · omega
      · exact p1 x hx
    rw [List.length_cons] at this;omega
theorem law_OrderBroken (code:List UInt8):∃ r,M.laws_FnOrderBroken code=some r∧r=true:=by
  obtain ⟨⟨P,o⟩,hy,hb,hl⟩:=drawBrk code;dsimp only at hb hl;unfold M.laws_FnOrderBroken;refine ⟨true,?_,rfl⟩;by_cases h1:(code.length:Int) > 1048576
  · simp [h1]
  · have ho:o.length ≤ 1048576:=by omega
    simp only [h1,decide_false,bF,if_false,hy,implBk P hb o ho,specBk P hb o ho,implLegal P hb o ho,implOrd P hb o ho,implDep P hb,beq_self_eq_true,Bool.and_self,Bool.not_true,oP,oB,oS,id];unfold bkF;cases hv:(validP P && permB (progI P).length o) with
    | false=>rfl
    | true =>
      simp only [if_true,Bool.true_and];cases hf:brF P o with
      | none=>rfl
      | some d =>
        rw [Bool.and_eq_true] at hv;obtain ⟨⟨p1,p2⟩,p3⟩:=(zIJ _ _).1 hv.2;have hv1:=hv.1;have e3:dpF P=depA P 0 (progI P).length:=by unfold dpF; rw [hv1]; rfl
        have hm:=List.mem_of_find?_eq_some hf;rw [e3] at hm;obtain ⟨a,k,rfl,k1,k2,k3⟩:=zJw hm;have hbk:=List.find?_some hf;have hbk:brk (plo o) ⟨(a:Int),(k:Int),kindI P a k⟩=true:=hbk;unfold brk at hbk;have hbk:=of_decide_eq_true hbk;have hbk:plo o ((k:Nat):Int).toNat < plo o ((a:Nat):Int).toNat:=hbk;rw [iN,iN] at hbk;have hx:=xlaw_l1 (o:=o) (by omega) (fun x hx=>(p1 x hx).1) (d:=⟨(a:Int),(k:Int),kindI P a k⟩) (i:=a) (k:=k) rfl rfl _ 0 (fun _=>-1) (Nat.zero_add o.length);rw [Int.natCast_zero,List.drop_zero] at hx
        -- both stand in the order
        have hin:∀ m:Nat,m < (progI P).length→∃ (j:Nat) (hj:j < o.length),o[j]=(m:Int):=fun m hm=>perm_has hv.2 hm;obtain ⟨j1,hj1,q1⟩:=hin a (by omega);obtain ⟨j2,hj2,q2⟩:=hin k k2;have g1:=zKe o 0 (fun _=>-1) p2 (fun x hx=>(p1 x hx).1) j1 hj1;have g2:=zKe o 0 (fun _=>-1) p2 (fun x hx=>(p1 x hx).1) j2 hj2;have g3:=zKe o 0 (fun _=>0) p2 (fun x hx=>(p1 x hx).1) j1 hj1;have g4:=zKe o 0 (fun _=>0) p2 (fun x hx=>(p1 x hx).1) j2 hj2;rw [q1,iN] at g1 g3;rw [q2,iN] at g2 g4;unfold plo at hbk;rw [g3,g4] at hbk;rw [g1,g2] at hx;have hdep:dpb P (a:Int) (k:Int)=kindI P a k:=by unfold dpb; rw [if_pos ⟨hv1,by omega,by omega,by omega⟩,iN,iN]
        have hlt:((0 + j2:Nat):Int) < ((0 + j1:Nat):Int):=hbk;dsimp only;simp only [Option.isNone_some,Bool.not_true,bF,if_false,beq_self_eq_true,hx,hlt,hdep,decide_true,if_true,oS]
end Go.LN
