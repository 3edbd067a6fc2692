/- Helper of the proof (see the last text). -/
import Derived.Test.YtgempbddefdamaaGreatLnA
import Derived.Test.YtgempbddefdamaaGreatLnI
import Derived.Test.YtgempbddefdamaaGreatLnP
import Derived.Test.YtgempbddefdamaaGreatTryzShelf
import Derived.Test.YtgempbddefdamaaGreatHM1
import Derived.Test.YtgempbddefdamaaGreatHM2
import Derived.Test.YtgempbddefdamaaGreatHM3
import Derived.Test.YtgempbddefdamaaGreatHM4
import Derived.Test.YtgempbddefdamaaGreatHM5
import Derived.Test.YtgempbddefdamaaGreatHM6
import Derived.Test.YtgempbddefdamaaGreatHM7
import Derived.Test.YtgempbddefdamaaGreatHM8
import Derived.Test.YtgempbddefdamaaGreatQT
import Derived.Test.YtgempbddefdamaaGreatQZ
import Derived.Test.YtgempbddefdamaaGreatVB1
import Derived.Test.YtgempbddefdamaaGreatVB8
import Derived.Test.YtgempbddefdamaaGreatLnR
set_option linter.unusedVariables false
set_option linter.unusedSimpArgs false
namespace Go.LN
structure impl_Dep where
  From:Int
  To:Int
  Kinds:Int
instance:Rp impl_Dep where
  sz:=3
  pos:=by decide
  rep i cs s:=cs=[.int .i64 s.From,.int .i64 s.To,.int .i64 s.Kinds]
  len h:=by obtain rfl:=h; rfl
  mono _ h:=h
  one h:=by obtain rfl:=h; simp [zAQ]
theorem impl_Dep_open {i:Imm}{cs:List Value}{s:impl_Dep} (h:Rp.rep i cs s):cs=[.int .i64 s.From,.int .i64 s.To,.int .i64 s.Kinds]:=h
theorem impl_Dep_shut {i:Imm}{cs:List Value}{s:impl_Dep} (h:cs=[.int .i64 s.From,.int .i64 s.To,.int .i64 s.Kinds]):Rp.rep i cs s:=h
instance:Vr impl_Dep:=⟨fun i v a=>∃ cs,v=.agg ⟨cs⟩∧Rp.rep i cs a,fun hl ⟨cs,e,h⟩=>⟨cs,e,Rp.mono hl h⟩⟩
structure spec_l6Use where
  reads:List Int
  write:Int
instance:Rp spec_l6Use where
  sz:=2
  pos:=by decide
  rep i cs s:=∃ v0:Value,cs=[v0,.int .i64 s.write]∧SL i v0 s.reads
  len h:=by obtain ⟨v0,rfl,h0⟩:=h; rfl
  mono hm h:=by obtain ⟨v0,e,h0⟩:=h; exact ⟨v0,e,h0.mono hm⟩
  one h:=by obtain ⟨v0,rfl,h0⟩:=h; simp [zAQ,h0.one]
theorem spec_l6Use_open {i:Imm}{cs:List Value}{s:spec_l6Use} (h:Rp.rep i cs s):∃ v0:Value,cs=[v0,.int .i64 s.write]∧SL i v0 s.reads:=h
theorem spec_l6Use_shut {i:Imm}{cs:List Value}{s:spec_l6Use} (h:∃ v0:Value,cs=[v0,.int .i64 s.write]∧SL i v0 s.reads):Rp.rep i cs s:=h
instance:Vr spec_l6Use:=⟨fun i v a=>∃ cs,v=.agg ⟨cs⟩∧Rp.rep i cs a,fun hl ⟨cs,e,h⟩=>⟨cs,e,Rp.mono hl h⟩⟩
end Go.LN
namespace Go.LN
section
variable {P : Program} {n : Nat} {B : Base} {Q : Exit → Act → World → Prop} {imm : Imm} {hs : List HA} {m : FM} {ops : List Oper} {pc d : Nat} {ty : TypeId} {pos : String} {after : Array Edge} {g : Option (Nat × Bool)}
theorem run_part_int {w : World} {t : TypeId} {k : IntKind} (hu : P.underlying t = some (.int k)) {xs : Array Value} {off : Nat} {v : Value} (hx : xs[off]? = some v) : (part t xs off).run P w = .ok v w := by
  simp [part, isAgg, xH hu, hx]
def intF (P : Program) (f : Field) (o : Nat) : Bool := (f.name != "_") && (f.offset == o) && (match P.underlying f.type with | some (.int _) => true | _ => false)
def int3 (P : Program) (t : TypeId) : Bool := (match P.underlying t with | some (.struct _) => true | _ => false) && (match (P.fieldsOf t).toList with | [a, b, c] => intF P a 0 && intF P b 1 && intF P c 2 | _ => false) && !(P.stoodInHeld t) && !(P.eqGuardType P.depth t)
theorem run_field {w : World} {f : Field} {fs : List Field} {o e : Nat} {xs ys : Array Value} {a b : Int} (hf : intF P f o = true) (hx : xs[o]? = some (vI a)) (hy : ys[o]? = some (vI b)) : (Op.eqFields (e + 1) xs ys (f :: fs)).run P w = if (a == b) = true then (Op.eqFields (e + 1) xs ys fs).run P w else .ok false w := by
  unfold intF at hf
  simp only [Bool.and_eq_true, bne_iff_ne, ne_eq, beq_iff_eq] at hf
  obtain ⟨⟨h1, h2⟩, h3⟩ := hf
  split at h3
  · rename_i k hu
    rw [Op.eqFields]
    subst h2
    simp only [if_pos h1, Sem.run_bind, run_part_int hu hx, run_part_int hu hy, Result.andThen_ok, run_equalIn_int w e f.type .i64 k a b hu]
    cases a == b <;> simp
  · cases h3
theorem run_equal3 {w : World} {t : TypeId} {a b c a' b' c' : Int} (ht : int3 P t = true) : (Op.equalIn 10000 t (vA [vI a, vI b, vI c]) (vA [vI a', vI b', vI c'])).run P w = .ok (a == a' && (b == b' && c == c')) w := by
  unfold int3 at ht
  simp only [Bool.and_eq_true, Bool.not_eq_true'] at ht
  obtain ⟨⟨⟨h1, h2⟩, h3⟩, h4⟩ := ht
  have hu : P.underlying t = some (.struct (P.fieldsOf t)) := by
    unfold Program.fieldsOf
    split at h1
    · rename_i fs hu; rw [hu]
    · cases h1
  rw [run_equalIn_struct w 9999 t _ _ hu h3]
  split at h2
  · rename_i f1 f2 f3 he
    simp only [Bool.and_eq_true] at h2
    rw [he, run_field (a := a) (b := a') h2.1.1 rfl rfl, run_field (a := b) (b := b') h2.1.2 rfl rfl, run_field (a := c) (b := c') h2.2 rfl rfl]
    cases a == a' <;> cases b == b' <;> cases c == c' <;> simp [Op.eqFields]
  · cases h2
theorem Rd_n3 {t t2 : TypeId} {x y : Operand} {a b c a' b' c' : Int} (hx : val m x = some (vA [vI a, vI b, vI c])) (hy : val m y = some (vA [vI a', vI b', vI c'])) (ht : int3 P t = true) : Reads P n B imm hs m (.binOp .neq t x y t2) (.bool (!(a == a' && (b == b' && c == c')))) := fun oo α w he f gd => by
  have hq : P.eqGuardType P.depth t = false := by
    unfold int3 at ht
    simp only [Bool.and_eq_true, Bool.not_eq_true'] at ht
    exact ht.2
  simp only [execOp, he, f.eval hx, f.eval hy, Sem.run_bind]
  rw [show (eqGuard .neq t x y (vA [vI a, vI b, vI c]) (vA [vI a', vI b', vI c'])).run P w = .ok () w from run_eqGuard_agg w .neq t x y _ _ hq]
  simp only [Result.andThen_ok]
  rw [show (binOp .neq t (vA [vI a, vI b, vI c]) (vA [vI a', vI b', vI c'])).run P w = _ from run_neq_struct w t _ _]
  rw [show (Op.equalIn 10000 t (.agg ⟨[vI a, vI b, vI c]⟩) (.agg ⟨[vI a', vI b', vI c']⟩)).run P w = _ from run_equal3 ht]
  simp
theorem R_n3 {t t2 : TypeId} {x y : Operand} {a b c a' b' c' : Int} (ho : ops[pc]? = some ⟨some d, .binOp .neq t x y t2, ty, pos, after, g⟩)
    (next : R P n B ops Q (pc + 1) imm hs ((d, .bool (!(a == a' && (b == b' && c == c')))) :: m)) (hx : val m x = some (vA [vI a, vI b, vI c]) := by kernel_rfl) (hy : val m y = some (vA [vI a', vI b', vI c']) := by kernel_rfl) (hg : guardB ops m g = some true := by kernel_rfl) (hn : Nat.blt d n = true := by kernel_rfl) (ht : int3 P t = true := by kernel_rfl) : R P n B ops Q pc imm hs m := zDS ho hg rfl hn (Rd_n3 hx hy ht) next
theorem Rq_n3 {t t2 : TypeId} {x y : Operand} {a b c a' b' c' : Int} (ho : ops[pc]? = some ⟨some d, .binOp .neq t x y t2, ty, pos, after, g⟩)
    (next : Rq P n B ops Q (pc + 1) imm hs ((d, .bool (!(a == a' && (b == b' && c == c')))) :: m)) (hx : val m x = some (vA [vI a, vI b, vI c]) := by kernel_rfl) (hy : val m y = some (vA [vI a', vI b', vI c']) := by kernel_rfl) (hg : guardB ops m g = some true := by kernel_rfl) (hn : Nat.blt d n = true := by kernel_rfl) (ht : int3 P t = true := by kernel_rfl) : Rq P n B ops Q pc imm hs m := gU ho hg rfl hn (Rd_n3 hx hy ht) next
end
end Go.LN
namespace Go.LN
open Go.Proofs
set_option maxRecDepth 20000
def spec_DrawProgramValid_post (r:zV):KT:=fun kk imm' hs' v=>
  ∃ v0,hs'=[]∧v=tupV [v0]∧(∃ cs,v0=.agg ⟨cs⟩∧Rp.rep imm' cs r)
def M.spec_DrawProgramValid (code:(List UInt8)):Option (zV):=do
 let y←mH code
 let (y2,y3)←kI y
 let (y5,y6)←qD y3 y2
 pure (id y5)
theorem spec_DrawProgramValid_ok:∀ (code:(List UInt8)) r,M.spec_DrawProgramValid code=some r→∀ {imm:Imm}{p c},(S4 imm p code c)→Ret Tryz.prog 35 [vS p code c] imm [] (spec_DrawProgramValid_post  r):=by
 intro code r hM imm p c h;unfold M.spec_DrawProgramValid at hM;refine yG (fn:=Tryz.f35) (c:=(bodyOf Tryz.f35)) Tryz.func35 rfl rfl ?_;rintro B - -;refine zF<|zB<|uD zTwo ?_;intro b hb;refine yN rfl<|zE<|zF<|zB<|yK 1 [] [(4,vS p code c)] ?_;obtain ⟨y,hy,hM⟩:=zC hM;refine yR (zHG code _ hy h) ?_;rintro imm0 hs2 v2 k2 le - ⟨b1,p1,c1,rfl,rfl,h1⟩ -;refine yA [] [(3,vP b1 0)]<|zE<|zF<|zB<|yK 2 [] [(6,vP b1 0),(7,vP b1 0)] ?_;obtain ⟨⟨y2,y3⟩,hy1,hM⟩:=zC hM;refine sD [hB b1 (cRd y p1 c1)] [hB b zTwo] (zHb y _ hy1 h1) ?_;rintro imm01 hs2 v2 k2 le1 - ⟨v0,kk,rfl,rfl,⟨cs,rfl,h2⟩,h3⟩ -;obtain ⟨v01,v02,rfl,h4,h5⟩:=zG6 h2;obtain ⟨p2,c2,rfl⟩:=h4.form;obtain ⟨p3,c3,rfl⟩:=h5.form;obtain ⟨v03,rfl,h6⟩:=yI h3;obtain ⟨p4,c4,rfl⟩:=h6.form;obtain ⟨⟨y5,y6⟩,hy2,hM⟩:=zC hM;refine sD [hB b1 (cRd y3 p4 c4)] [hB b zTwo] (zGs y3 y2 _ hy2 h6 h4 h5) ?_;rintro imm02 hs2 v2 k2 le2 - ⟨v04,kk1,rfl,rfl,⟨cs1,rfl,h7⟩,h8⟩ -;obtain ⟨v05,v06,rfl,h9,h10⟩:=zG6 h7;obtain ⟨p5,c5,rfl⟩:=h9.form;obtain ⟨p6,c6,rfl⟩:=h10.form;obtain ⟨v07,rfl,h11⟩:=yI h8;obtain ⟨p7,c7,rfl⟩:=h11.form;refine xJ 1 (cProg y5 p5 c5 p6 c6) [hB b1 (cRd y6 p7 c7),hB b (cProg y5 p5 c5 p6 c6)] rfl rfl rfl rfl<|yN rfl<|zE<|yJ ?_;obtain rfl:=zD hM;exact yQ ⟨_,_,(.cell 1 rfl rfl (by kernel_rfl) ResV.nil),zX,⟨_,rfl,rfl,⟨_,rfl,(nH ⟨_,_,rfl,h9,h10⟩)⟩⟩⟩
end Go.LN
namespace Go.LN
open Go.Proofs
set_option maxRecDepth 20000
def spec_l6Uses_post (r:(List spec_l6Use)):KT:=fun kk imm' hs' v=>
  ∃ v0,hs'=[]∧v=tupV [v0]∧SL imm' v0 r
def M.spec_l6Uses_l1 (p:zV) (y:(List zT)) (out:List spec_l6Use) (i:Int):Option (List spec_l6Use):=do
 if (decide (i < (y.length:Int))) then
  let x←idx y i
  let x1←idx p.Parts x.Part
  let x2←idx y i
  let x3←idx x1.Body x2.Stmt
  let x4←idx y i
  let (y2,y3,y4)←qZ p.Arrays x3 x4.Point
  let out2←app 32 out ([(spec_l6Use.mk y2 y3)]:List spec_l6Use)
  M.spec_l6Uses_l1 p y out2 (W (i + 1))
 else
  pure (id out)
 partial_fixpoint
theorem spec_l6Uses_l1_ok (p:zV) (y:(List zT)):∀ (out:List spec_l6Use) (i:Int) (o:List spec_l6Use),M.spec_l6Uses_l1 p y out i=some o→∀ {B}{imm0 imm:Imm}{Q p1 c p2 c1}{b:Nat}{p3 c2 p4 c3 cs},imm0.le imm→(S4 imm p3 y c2)→(S4 imm p1 p.Arrays c)→(S4 imm p2 p.Parts c1)→(RL imm cs out)→(∀ gl a w,¬Q (.goto gl) a w)→(∀ a w,¬Q .outgrown a w)→(∀ (imm':Imm) (out1:List spec_l6Use) (p5:Option Addr) (c4:Nat) (cs1:List Value),o=out1→imm0.le imm'→(RL imm' cs1 out1)→T 54 B Q (.exit 0) imm' [hO spec_l6Use (vS p5 out1 c4) cs1] [(3,vS p5 out1 c4)])→J Tryz.prog 54 B (nav (bodyOf Tryz.f54) [1,1,1,0,1,0]) Q imm [hO spec_l6Use (vS p4 out c3) cs,hB b (cProg p p1 c p2 c1)] [(1,vP b 0),(3,vS p4 out c3),(4,vS p3 y c2),(5,vI i)]:=by
 refine M.spec_l6Uses_l1.partial_correctness p y _ ?_;intro self ih out i o hM B imm0 imm Q p1 c p2 c1 b p3 c2 p4 c3 cs hle h3 h h1 h4 hg ho hx;refine xC hg ho<|zF<|zF<|zB<|yA [] [(15,.bool (decide (i < (y.length:Int))))]<|zE<|yO hM ?_ ?_
 · intro hc hM;refine yE<|zE<|zF<|yC<|zF ?_;obtain ⟨x,hy1,hM⟩:=zC hM;obtain ⟨x1,hy2,hM⟩:=zC hM;obtain ⟨x2,hy3,hM⟩:=zC hM;obtain ⟨x3,hy4,hM⟩:=zC hM;obtain ⟨x4,hy5,hM⟩:=zC hM;obtain ⟨⟨y2,y3,y4⟩,hy6,hM⟩:=zC hM;refine uA [.p (vP b 0) [],.p (vS p1 p.Arrays c) [1],.p (vP b 1) [],.p (vS p2 p.Parts c1) [1],.p (vS p3 y c2) [],.p (vI i) [],.x (fun imm' v hx=>∃ ad p6 c5,v=.pointer (some ad)∧hx=[]∧(At imm' ad (cInst x p6 c5))∧(S4 imm' p6 x.Point c5)),.x (fun imm' v hx=>∃ ad1 p61 c51,v=.pointer (some ad1)∧hx=[]∧(At imm' ad1 (cInst x p61 c51))∧(S4 imm' p61 x.Point c51)),.q (vI x.Part),.x (fun imm' v hx=>∃ ad2 p7 c6 p8 c7,v=.pointer (some ad2)∧hx=[]∧(At imm' ad2 (cPart x1 p7 c6 p8 c7))∧(S4 imm' p7 x1.Nest c6)∧(S4 imm' p8 x1.Body c7)),.x (fun imm' v hx=>∃ ad21 p71 c61 p81 c71,v=.pointer (some (ad21.add 1))∧hx=[]∧(At imm' ad21 (cPart x1 p71 c61 p81 c71))∧(S4 imm' p71 x1.Nest c61)∧(S4 imm' p81 x1.Body c71)),.x (fun imm' v hx=>∃ p811 c711,v=vS p811 x1.Body c711∧hx=[]∧(S4 imm' p811 x1.Body c711)),.p (vS p3 y c2) [],.p (vI i) [],.x (fun imm' v hx=>∃ ad3 p9 c8,v=.pointer (some ad3)∧hx=[]∧(At imm' ad3 (cInst x2 p9 c8))∧(S4 imm' p9 x2.Point c8)),.x (fun imm' v hx=>∃ ad31 p91 c81,v=.pointer (some (ad31.add 1))∧hx=[]∧(At imm' ad31 (cInst x2 p91 c81))∧(S4 imm' p91 x2.Point c81)),.q (vI x2.Stmt),.x (fun imm' v hx=>∃ ad4 p10 c9 p11 c10 p12 c11 p13 c12,v=.pointer (some ad4)∧hx=[]∧(At imm' ad4 (cStmt x3 p10 c9 p11 c10 p12 c11 p13 c12))∧(S4 imm' p10 x3.Write.Subs c9)∧(S4 imm' p11 x3.Value.Index.Coefs c10)∧(S4 imm' p12 x3.Value.Read.Subs c11)∧(S4 imm' p13 x3.Value.Kids c12)),.x (fun imm' v hx=>∃ p101 c91 p111 c101 p121 c111 p131 c121,v=vA (cStmt x3 p101 c91 p111 c101 p121 c111 p131 c121)∧hx=[]∧(S4 imm' p101 x3.Write.Subs c91)∧(S4 imm' p111 x3.Value.Index.Coefs c101)∧(S4 imm' p121 x3.Value.Read.Subs c111)∧(S4 imm' p131 x3.Value.Kids c121)),.p (vS p3 y c2) [],.p (vI i) [],.x (fun imm' v hx=>∃ ad5 p14 c13,v=.pointer (some ad5)∧hx=[]∧(At imm' ad5 (cInst x4 p14 c13))∧(S4 imm' p14 x4.Point c13)),.x (fun imm' v hx=>∃ ad51 p141 c131,v=.pointer (some (ad51.add 2))∧hx=[]∧(At imm' ad51 (cInst x4 p141 c131))∧(S4 imm' p141 x4.Point c131)),.x (fun imm' v hx=>∃ p1411 c1311,v=vS p1411 x4.Point c1311∧hx=[]∧(S4 imm' p1411 x4.Point c1311)),.x (fun imm' v hx=>∃ p15 c14,v=.tuple ⟨[vS p15 y2 c14,vI y3,.bool y4]⟩∧hx=[]∧(S4 imm' p15 y2 c14)),.x (fun imm' v hx=>∃ p151 c141,v=.tuple ⟨[vS p151 y2 c141,vI y3,.bool y4]⟩∧hx=[]∧(S4 imm' p151 y2 c141)),.x (fun imm' v hx=>∃ p1511 c1411,v=vS p1511 y2 c1411∧hx=[]∧(S4 imm' p1511 y2 c1411)),.q (vI y3),.q (.bool y4),.x (fun imm' v hx=>∃ p15111 c14111,v=vS p15111 y2 c14111∧hx=[]∧(S4 imm' p15111 y2 c14111)),.p (vI y3) []] [[],[(0,false)],[],[(2,false)],[],[],[(4,false),(5,false)],[(6,false)],[(7,false)],[(3,false),(8,false)],[(9,false)],[(10,false)],[],[],[(12,false),(13,false)],[(14,false)],[(15,false)],[(11,false),(16,false)],[(17,false)],[],[],[(19,false),(20,false)],[(21,false)],[(22,false)],[(1,false),(18,false),(23,false)],[(24,false)],[(25,false)],[(25,false)],[(25,false)],[(26,false)],[(27,false)]] [hO spec_l6Use (vS p4 out c3) cs,hB b (cProg p p1 c p2 c1)] [] [(28,false),(29,false),(30,false)] (zK [0,1] rfl (by decide)) ?_ ?_
   · refine Op<|Op<|Op<|Op<|Op<|Op<|Ox ?_<|Ox ?_<|Oq ?_<|Ox ?_<|Ox ?_<|Ox ?_<|Op<|Op<|Ox ?_<|Ox ?_<|Oq ?_<|Ox ?_<|Ox ?_<|Op<|Op<|Ox ?_<|Ox ?_<|Ox ?_<|Ox ?_<|Ox ?_<|Ox ?_<|Oq ?_<|Oq ?_<|Ox ?_<|Op<|On
     · intro imm1 hf le1;refine zG ?_;rintro _ _ ⟨rfl,rfl⟩;refine zG ?_;rintro _ _ ⟨rfl,rfl⟩;refine zN<|yH [(23,vS p3 y c2),(24,vI i)] ?_;have hle:=iS imm1;have h3:=h3.mono le1;refine wJ rfl rfl h3 hy1 ?_;intro ad ccs hat hrep;obtain ⟨v01,rfl,h6⟩:=zAm hrep;obtain ⟨p6,c5,rfl⟩:=h6.form;exact zZ (hx:=[]) rfl hle rfl (zM rfl) ⟨_,_,_,rfl,rfl,hat,h6⟩
     · intro imm1 hf le1;refine zG ?_;rintro _ _ ⟨ad,p6,c5,rfl,rfl,hat,h6⟩;refine zN<|yH [(25,.pointer (some ad))] ?_;have hle:=iS imm1;exact qV 8 [(26,.pointer (some ad))]<|zZ (hx:=[]) rfl hle rfl (zM rfl) ⟨_,_,_,rfl,rfl,hat,h6⟩
     · intro imm1 hf le1;refine zG ?_;rintro _ _ ⟨ad1,p61,c51,rfl,rfl,hat1,h61⟩;refine zN<|yH [(26,.pointer (some ad1))] ?_;have hle:=iS imm1;exact xS 0 hat1 [vI x.Part] (vI x.Part) rfl<|zZ (hx:=[]) rfl hle rfl (zM rfl) ⟨rfl,rfl⟩
     · intro imm1 hf le1;refine zG ?_;rintro _ _ ⟨rfl,rfl⟩;refine zG ?_;rintro _ _ ⟨rfl,rfl⟩;refine zN<|yH [(22,vS p2 p.Parts c1),(27,vI x.Part)] ?_;have hle:=iS imm1;have h1:=h1.mono le1;refine wJ rfl rfl h1 hy2 ?_;intro ad2 ccs1 hat2 hrep1;obtain ⟨v02,v03,rfl,h7,h8⟩:=wS hrep1;obtain ⟨p7,c6,rfl⟩:=h7.form;obtain ⟨p8,c7,rfl⟩:=h8.form;exact zZ (hx:=[]) rfl hle rfl (zM rfl) ⟨_,_,_,_,_,rfl,rfl,hat2,h7,h8⟩
     · intro imm1 hf le1;refine zG ?_;rintro _ _ ⟨ad2,p7,c6,p8,c7,rfl,rfl,hat2,h7,h8⟩;refine zN<|yH [(28,.pointer (some ad2))] ?_;have hle:=iS imm1;exact qV 11 [(29,.pointer (some (ad2.add 1)))]<|zZ (hx:=[]) rfl hle rfl (zM rfl) ⟨_,_,_,_,_,rfl,rfl,hat2,h7,h8⟩
     · intro imm1 hf le1;refine zG ?_;rintro _ _ ⟨ad21,p71,c61,p81,c71,rfl,rfl,hat21,h71,h81⟩;refine zN<|yH [(29,.pointer (some (ad21.add 1)))] ?_;have hle:=iS imm1;exact xS 1 hat21 [vS p81 x1.Body c71] (vS p81 x1.Body c71) rfl<|zZ (hx:=[]) rfl hle rfl (zM rfl) ⟨_,_,rfl,rfl,h81⟩
     · intro imm1 hf le1;refine zG ?_;rintro _ _ ⟨rfl,rfl⟩;refine zG ?_;rintro _ _ ⟨rfl,rfl⟩;refine zN<|yH [(31,vS p3 y c2),(32,vI i)] ?_;have hle:=iS imm1;have h3:=h3.mono le1;refine wJ rfl rfl h3 hy3 ?_;intro ad3 ccs2 hat3 hrep2;obtain ⟨v04,rfl,h9⟩:=zAm hrep2;obtain ⟨p9,c8,rfl⟩:=h9.form;exact zZ (hx:=[]) rfl hle rfl (zM rfl) ⟨_,_,_,rfl,rfl,hat3,h9⟩
     · intro imm1 hf le1;refine zG ?_;rintro _ _ ⟨ad3,p9,c8,rfl,rfl,hat3,h9⟩;refine zN<|yH [(33,.pointer (some ad3))] ?_;have hle:=iS imm1;exact qV 16 [(34,.pointer (some (ad3.add 1)))]<|zZ (hx:=[]) rfl hle rfl (zM rfl) ⟨_,_,_,rfl,rfl,hat3,h9⟩
     · intro imm1 hf le1;refine zG ?_;rintro _ _ ⟨ad31,p91,c81,rfl,rfl,hat31,h91⟩;refine zN<|yH [(34,.pointer (some (ad31.add 1)))] ?_;have hle:=iS imm1;exact xS 1 hat31 [vI x2.Stmt] (vI x2.Stmt) rfl<|zZ (hx:=[]) rfl hle rfl (zM rfl) ⟨rfl,rfl⟩
     · intro imm1 hf le1;refine zG ?_;rintro _ _ ⟨p811,c711,rfl,rfl,h811⟩;refine zG ?_;rintro _ _ ⟨rfl,rfl⟩;refine zN<|yH [(30,vS p811 x1.Body c711),(35,vI x2.Stmt)] ?_;have hle:=iS imm1;refine wJ rfl rfl h811 hy4 ?_;intro ad4 ccs3 hat4 hrep3;obtain ⟨v05,v06,v07,v08,rfl,h10,h11,h12,h13⟩:=wA hrep3;obtain ⟨p10,c9,rfl⟩:=h10.form;obtain ⟨p11,c10,rfl⟩:=h11.form;obtain ⟨p12,c11,rfl⟩:=h12.form;obtain ⟨p13,c12,rfl⟩:=h13.form;exact zZ (hx:=[]) rfl hle rfl (zM rfl) ⟨_,_,_,_,_,_,_,_,_,rfl,rfl,hat4,h10,h11,h12,h13⟩
     · intro imm1 hf le1;refine zG ?_;rintro _ _ ⟨ad4,p10,c9,p11,c10,p12,c11,p13,c12,rfl,rfl,hat4,h10,h11,h12,h13⟩;refine zN<|yH [(36,.pointer (some ad4))] ?_;have hle:=iS imm1;exact xS 0 hat4 (cStmt x3 p10 c9 p11 c10 p12 c11 p13 c12) (vA (cStmt x3 p10 c9 p11 c10 p12 c11 p13 c12)) rfl<|zZ (hx:=[]) rfl hle rfl (zM rfl) ⟨_,_,_,_,_,_,_,_,rfl,rfl,h10,h11,h12,h13⟩
     · intro imm1 hf le1;refine zG ?_;rintro _ _ ⟨rfl,rfl⟩;refine zG ?_;rintro _ _ ⟨rfl,rfl⟩;refine zN<|yH [(38,vS p3 y c2),(39,vI i)] ?_;have hle:=iS imm1;have h3:=h3.mono le1;refine wJ rfl rfl h3 hy5 ?_;intro ad5 ccs4 hat5 hrep4;obtain ⟨v09,rfl,h14⟩:=zAm hrep4;obtain ⟨p14,c13,rfl⟩:=h14.form;exact zZ (hx:=[]) rfl hle rfl (zM rfl) ⟨_,_,_,rfl,rfl,hat5,h14⟩
     · intro imm1 hf le1;refine zG ?_;rintro _ _ ⟨ad5,p14,c13,rfl,rfl,hat5,h14⟩;refine zN<|yH [(40,.pointer (some ad5))] ?_;have hle:=iS imm1;exact qV 23 [(41,.pointer (some (ad5.add 2)))]<|zZ (hx:=[]) rfl hle rfl (zM rfl) ⟨_,_,_,rfl,rfl,hat5,h14⟩
     · intro imm1 hf le1;refine zG ?_;rintro _ _ ⟨ad51,p141,c131,rfl,rfl,hat51,h141⟩;refine zN<|yH [(41,.pointer (some (ad51.add 2)))] ?_;have hle:=iS imm1;exact xS 2 hat51 [vS p141 x4.Point c131] (vS p141 x4.Point c131) rfl<|zZ (hx:=[]) rfl hle rfl (zM rfl) ⟨_,_,rfl,rfl,h141⟩
     · intro imm1 hf le1;refine zG ?_;rintro _ _ ⟨rfl,rfl⟩;refine zG ?_;rintro _ _ ⟨p101,c91,p111,c101,p121,c111,p131,c121,rfl,rfl,h101,h111,h121,h131⟩;refine zG ?_;rintro _ _ ⟨p1411,c1311,rfl,rfl,h1411⟩;refine zN<|yH [(20,vS p1 p.Arrays c),(37,vA (cStmt x3 p101 c91 p111 c101 p121 c111 p131 c121)),(42,vS p1411 x4.Point c1311)] ?_;have hle:=iS imm1;have h:=h.mono le1;refine yR (zCz p.Arrays x3 x4.Point _ hy6 h h101 h111 h121 h131 h1411) ?_;rintro imm01 hs2 v2 k2 le1 - ⟨v010,v011,v012,rfl,rfl,h15,rfl,rfl⟩ -;have hle:=hle.trans le1;obtain ⟨p15,c14,rfl⟩:=h15.form;exact zZ (hx:=[]) rfl hle rfl (zM rfl) ⟨_,_,rfl,rfl,h15⟩
     · intro imm1 hf le1;refine zG ?_;rintro _ _ ⟨p15,c14,rfl,rfl,h15⟩;refine zN<|yH [(43,.tuple ⟨[vS p15 y2 c14,vI y3,.bool y4]⟩)] ?_;have hle:=iS imm1;exact qV 26 [(18,.tuple ⟨[vS p15 y2 c14,vI y3,.bool y4]⟩)]<|zZ (hx:=[]) rfl hle rfl (zM rfl) ⟨_,_,rfl,rfl,h15⟩
     · intro imm1 hf le1;refine zG ?_;rintro _ _ ⟨p151,c141,rfl,rfl,h151⟩;refine zN<|yH [(18,.tuple ⟨[vS p151 y2 c141,vI y3,.bool y4]⟩)] ?_;have hle:=iS imm1;exact qV 27 [(44,vS p151 y2 c141)]<|zZ (hx:=[]) rfl hle rfl (zM rfl) ⟨_,_,rfl,rfl,h151⟩
     · intro imm1 hf le1;refine zG ?_;rintro _ _ ⟨p151,c141,rfl,rfl,h151⟩;refine zN<|yH [(18,.tuple ⟨[vS p151 y2 c141,vI y3,.bool y4]⟩)] ?_;have hle:=iS imm1;exact qV 28 [(45,vI y3)]<|zZ (hx:=[]) rfl hle rfl (zM rfl) ⟨rfl,rfl⟩
     · intro imm1 hf le1;refine zG ?_;rintro _ _ ⟨p151,c141,rfl,rfl,h151⟩;refine zN<|yH [(18,.tuple ⟨[vS p151 y2 c141,vI y3,.bool y4]⟩)] ?_;have hle:=iS imm1;exact qV 29 [(46,.bool y4)]<|zZ (hx:=[]) rfl hle rfl (zM rfl) ⟨rfl,rfl⟩
     intro imm1 hf le1;refine zG ?_;rintro _ _ ⟨p1511,c1411,rfl,rfl,h1511⟩;refine zN<|yH [(44,vS p1511 y2 c1411)] ?_;have hle:=iS imm1;exact qV 30 [(6,vS p1511 y2 c1411)]<|zZ (hx:=[]) rfl hle rfl (zM rfl) ⟨_,_,rfl,rfl,h1511⟩
   intro imm02 le2;refine zG ?_;rintro _ _ ⟨rfl,rfl⟩;refine zG ?_;rintro _ _ ⟨p15111,c14111,rfl,rfl,h15111⟩;refine zG ?_;rintro _ _ ⟨rfl,rfl⟩;refine zN<|yH [(1,vP b 0),(3,vS p4 out c3),(4,vS p3 y c2),(5,vI i),(6,vS p15111 y2 c14111),(7,vI y3),(46,.bool y4)] ?_;have h4:=iM le2 h4;have h3:=h3.mono le2;have h:=h.mono le2;have h1:=h1.mono le2;have hle:=hle.trans le2;refine yA [] []<|zE<|zB<|yK 4 [] [(47,vS p4 out c3),(50,vA [vS p15111 y2 c14111,vI y3])]<|xQ [vS p15111 y2 c14111,vI y3] spec_l6Use ?_;intro b2 hb2;have h18:RL imm02 [vS p15111 y2 c14111,vI y3] ([(spec_l6Use.mk y2 y3)]:List spec_l6Use):=⟨[vS p15111 y2 c14111,vI y3],_,rfl,rfl,(spec_l6Use_shut ⟨_,rfl,h15111⟩),rfl⟩;obtain ⟨out2,hy7,hM⟩:=zC hM;refine qI 95 2 1 rfl rfl rfl h4 (.inr ⟨0,rfl⟩) h18 hy7 ?_;intro p16 c15 cs2 h19;exact rX (zK [1,2] (hs':=[hO spec_l6Use (vS p16 out2 c15) cs2,hB b (cProg p p1 c p2 c1)]) rfl (by decide))<|yA [] [(3,vS p16 out2 c15)]<|zY<|zE<|zB<|yA [] [(5,vI (W (i + 1)))]<|xD<|vQ [(1,vP b 0),(3,vS p16 out2 c15),(4,vS p3 y c2),(5,vI (W (i + 1)))]<|ih out2 (W (i + 1)) _ hM hle h3 h h1 h19 hg ho hx
 intro hc hM;exact xA<|zS<|zS<|wD (zK [0] rfl (by decide))<|yT [(3,vS p4 out c3)]<|hx _ _ _ _ _ (zD hM).symm hle h4
def M.spec_l6Uses (p:zV):Option ((List spec_l6Use)):=do
 let y←rS p
 let out1←M.spec_l6Uses_l1 p y ([]:List spec_l6Use) 0
 pure (id out1)
theorem spec_l6Uses_ok:∀ (p:zV) r,M.spec_l6Uses p=some r→∀ {imm:Imm}{p1 c p2 c1},(S4 imm p1 p.Arrays c)→(S4 imm p2 p.Parts c1)→Ret Tryz.prog 54 [vA (cProg p p1 c p2 c1)] imm [] (spec_l6Uses_post  r):=by
 intro p r hM imm p1 c p2 c1 h h1;unfold M.spec_l6Uses at hM;refine yG (fn:=Tryz.f54) (c:=(bodyOf Tryz.f54)) Tryz.func54 rfl rfl ?_;rintro B - -;refine zF<|zB<|tR (cProg p p1 c p2 c1) ?_;intro b hb;refine yA [] []<|zE<|zF<|zB<|xQ [] spec_l6Use ?_;intro b1 hb1;have h2:RL imm [] ([]:List spec_l6Use):=rfl;refine yA [] [(3,vS (some ⟨b1,0,none⟩) ([]:List spec_l6Use) 0)]<|zE<|zF<|zB<|yK 1 [1] [(10,vA (cProg p p1 c p2 c1))] ?_;obtain ⟨y,hy,hM⟩:=zC hM;refine yR (zGB p _ hy h h1) ?_;rintro imm0 hs2 v2 k2 le - ⟨v0,rfl,rfl,h3⟩ -;have h2:=iM le h2;have h:=h.mono le;have h1:=h1.mono le;obtain ⟨p3,c2,rfl⟩:=h3.form;refine yA [] [(4,vS p3 y c2)]<|zE<|zF<|zF<|zB<|yA [] [(5,vI 0)]<|zE<|yC<|vQ [(1,vP b 0),(3,vS (some ⟨b1,0,none⟩) ([]:List spec_l6Use) 0),(4,vS p3 y c2),(5,vI 0)] ?_;obtain ⟨o0,ho0,hMl⟩:=zC hM;refine spec_l6Uses_l1_ok p y ([]:List spec_l6Use) 0 o0 ho0 iR h3 h h1 h2 (fun _ _ _ h=>h) (fun _ _ h=>h) ?_;intro imm03 out1 p5 c4 cs1 heq le3 h5;subst o0;refine yD<|zE<|zF<|zB<|yA [] [(2,vS p5 out1 c4)]<|zE<|yJ<|xI 0 rfl ?_;intro imm04 le4 hl0;have h20:=SL.of_frozen hl0 le4 h5;obtain rfl:=zD hMl;exact yQ ⟨_,_,(.tmp rfl ResV.nil),zX,⟨_,rfl,rfl,h20⟩⟩
end Go.LN
namespace Go.LN
open Go.Proofs
set_option maxRecDepth 20000
def slices_Index_int_int_post (r:Int):KT:=fun kk imm' hs' v=>
  ∃ v0,hs'=[]∧v=tupV [v0]∧v0=.int .i64 r
def M.slices_Index_int_int_l1 (s:(List Int)) (v0:Int) (t8:Int):Option (Out Unit (Int)):=do
 if (decide (t8 < (s.length:Int))) then
  let x←idx s t8
  if (v0 == x) then
   pure (.ret t8)
  else
   M.slices_Index_int_int_l1 s v0 (W (t8 + 1))
 else
  pure (.done ())
 partial_fixpoint
theorem slices_Index_int_int_l1_ok (s:(List Int)) (v0:Int):∀ (t8:Int) (o:Out Unit (Int)),M.slices_Index_int_int_l1 s v0 t8=some o→∀ {B}{imm0 imm:Imm}{Q p c},imm0.le imm→(S4 imm p s c)→(∀ gl a w,¬Q (.goto gl) a w)→(∀ a w,¬Q .outgrown a w)→(∀ (imm':Imm) ,o=(.done ())→imm0.le imm'→T 19 B Q (.exit 0) imm' [] [])→(∀ r imm' hs' m',o=(.ret r)→imm0.le imm'→RS Tryz.prog Tryz.f120 B (slices_Index_int_int_post  r) imm' hs' m'→T 19 B Q .ret imm' hs' m')→J Tryz.prog 19 B (nav (bodyOf Tryz.f120) [1,0,1,0]) Q imm [] [(0,vS p s c),(1,vI v0),(7,vI (s.length:Int)),(8,vI t8)]:=by
 refine M.slices_Index_int_int_l1.partial_correctness s v0 _ ?_;intro self ih t8 o hM B imm0 imm Q p c hle h hg ho hx hr;refine xC hg ho<|zF<|zB<|yA [] [(9,.bool (decide (t8 < (s.length:Int))))]<|zE<|zF<|yO hM ?_ ?_
 · intro hc hM;refine yE<|zE<|zF<|yC<|zF<|zB<|yA [] [(5,vI t8)]<|zE<|zF<|zB<|yK 3 [] [(11,vI v0),(12,vS p s c),(13,vI t8)] ?_;obtain ⟨x,hy,hM⟩:=zC hM;refine wJ rfl rfl h hy ?_;intro ad ccs hat hrep;obtain rfl:=hrep;refine xS 0 hat [vI x] (vI x) rfl<|yA [] [(16,.bool (v0 == x))]<|zE<|yO hM ?_ ?_
   · intro hc1 hM;exact zF<|zB<|yA [] [(4,vI t8)]<|zE<|yJ<|yF<|zR<|zR<|hr _ _ _ _ (zD hM).symm hle ⟨_,_,(.tmp rfl ResV.nil),zX,⟨_,rfl,rfl,rfl⟩⟩
   intro hc1 hM;exact yE<|zY<|zE<|zB<|yA [] [(8,vI (W (t8 + 1)))]<|xD<|vQ [(0,vS p s c),(1,vI v0),(7,vI (s.length:Int)),(8,vI (W (t8 + 1)))]<|ih (W (t8 + 1)) _ hM hle h hg ho hx hr
 intro hc hM;exact xA<|zS<|zS<|yT []<|hx _  (zD hM).symm hle
def M.slices_Index_int_int (s:(List Int)) (v0:Int):Option (Int):=do
 match←M.slices_Index_int_int_l1 s v0 0 with
 | .ret r0=>pure r0
 | .done _ =>
  pure (-1)
theorem slices_Index_int_int_ok:∀ (s:(List Int)) (v0:Int) r,M.slices_Index_int_int s v0=some r→∀ {imm:Imm}{p c},(S4 imm p s c)→Ret Tryz.prog 120 [vS p s c,vI v0] imm [] (slices_Index_int_int_post  r):=by
 intro s v0 r hM imm p c h;unfold M.slices_Index_int_int at hM;refine yG (fn:=Tryz.f120) (c:=(bodyOf Tryz.f120)) Tryz.func120 rfl rfl ?_;rintro B - -;refine zF<|zB<|yA [] []<|zE<|zF<|zF<|zB<|yA [] [(7,vI (s.length:Int)),(8,vI 0)]<|zE<|yC<|vQ [(0,vS p s c),(1,vI v0),(7,vI (s.length:Int)),(8,vI 0)] ?_;obtain ⟨o0,ho0,hMl⟩:=zC hM;refine slices_Index_int_int_l1_ok s v0 0 o0 ho0 iR h (fun _ _ _ h=>h) (fun _ _ h=>h) ?_ ?_
 · intro imm0  heq le;subst o0;refine yD<|zE<|zF<|zB<|yA [] [(4,vI (-1))]<|zE<|yJ ?_;obtain rfl:=zD hMl;exact yQ ⟨_,_,(.tmp rfl ResV.nil),zX,⟨_,rfl,rfl,rfl⟩⟩
 intro r0 imm9 hs9 m9 heq9 le9 hrs9;subst heq9;refine yF<|zR ?_;obtain rfl:=zD hMl;exact yQ hrs9
def slices_Contains_int_int_post (r:Bool):KT:=fun kk imm' hs' v=>
  ∃ v0,hs'=[]∧v=tupV [v0]∧v0=.bool r
def M.slices_Contains_int_int (s:(List Int)) (v0:Int):Option (Bool):=do
 let y←M.slices_Index_int_int s v0
 pure (decide (y ≥ 0))
theorem slices_Contains_int_int_ok:∀ (s:(List Int)) (v0:Int) r,M.slices_Contains_int_int s v0=some r→∀ {imm:Imm}{p c},(S4 imm p s c)→Ret Tryz.prog 90 [vS p s c,vI v0] imm [] (slices_Contains_int_int_post  r):=by
 intro s v0 r hM imm p c h;unfold M.slices_Contains_int_int at hM;refine yG (fn:=Tryz.f90) (c:=(bodyOf Tryz.f90)) Tryz.func90 rfl rfl ?_;rintro B - -;refine zF<|zB<|yA [] []<|zE<|zF<|zB<|yK 2 [] [(5,vS p s c),(6,vI v0)] ?_;obtain ⟨y,hy,hM⟩:=zC hM;refine yR (slices_Index_int_int_ok s v0 _ hy h) ?_;rintro imm0 hs2 v2 k2 le - ⟨v01,rfl,rfl,rfl⟩ -;refine yA [] [(4,.bool (decide (y ≥ 0)))]<|zE<|yJ ?_;obtain rfl:=zD hM;exact yQ ⟨_,_,(.tmp rfl ResV.nil),zX,⟨_,rfl,rfl,rfl⟩⟩
def impl_traced_between_post (r:Int):KT:=fun kk imm' hs' v=>
  ∃ v0,hs'=[]∧v=tupV [v0]∧v0=.int .i64 r
def M.impl_traced_between (t:oS) (from0:Int) (to0:Int):Option (Int):=do
 let x←idx t.reads to0
 let x1←idx t.writes from0
 let y←M.slices_Contains_int_int x x1
 let kinds←(do
   if y then
    pure (W (0 + 1))
   else
    pure (id 0)
     : Option Int)
 let x2←idx t.reads from0
 let x3←idx t.writes to0
 let y1←M.slices_Contains_int_int x2 x3
 let kinds1←(do
   if y1 then
    pure (W (kinds + 2))
   else
    pure (id kinds)
     : Option Int)
 let x4←idx t.writes from0
 let x5←idx t.writes to0
 let kinds2←(do
   if (x4 == x5) then
    pure (W (kinds1 + 4))
   else
    pure (id kinds1)
     : Option Int)
 pure (id kinds2)
theorem impl_traced_between_ok:∀ (t:oS) (from0:Int) (to0:Int) r,M.impl_traced_between t from0 to0=some r→∀ {imm:Imm}{ad:Addr}{p c p1 c1 p2 c2 p3 c3 p4 c4},(S4 imm p t.Program.Arrays c)→(S4 imm p1 t.Program.Parts c1)→(S4 imm p2 t.list c2)→(S4 imm p3 t.reads c3)→(S4 imm p4 t.writes c4)→(At imm ad [vS p t.Program.Arrays c,vS p1 t.Program.Parts c1,vS p2 t.list c2,vS p3 t.reads c3,vS p4 t.writes c4])→Ret Tryz.prog 56 [.pointer (some ad),vI from0,vI to0] imm [] (impl_traced_between_post  r):=by
 intro t from0 to0 r hM imm ad p c p1 c1 p2 c2 p3 c3 p4 c4 h h1 h2 h3 h4 hat;unfold M.impl_traced_between at hM;refine yG (fn:=Tryz.f56) (c:=(bodyOf Tryz.f56)) Tryz.func56 rfl rfl ?_;rintro B - -;have hle:=iS imm;refine zF<|zB<|yA [] []<|zE<|zF<|zB<|yA [] [(7,vI 0)]<|zE<|zF<|zF ?_;obtain ⟨x,hy,hM⟩:=zC hM;obtain ⟨x1,hy1,hM⟩:=zC hM;obtain ⟨y,hy2,hM⟩:=zC hM;refine uA [.p (.pointer (some ad)) [],.p (.pointer (some ad)) [],.p (.pointer (some (ad.add 3))) [],.q (vS p3 t.reads c3),.p (vI to0) [],.x (fun imm' v hx=>∃ ad1 p5 c5,v=.pointer (some ad1)∧hx=[]∧(At imm' ad1 [vS p5 x c5])∧(S4 imm' p5 x c5)),.x (fun imm' v hx=>∃ p51 c51,v=vS p51 x c51∧hx=[]∧(S4 imm' p51 x c51)),.p (.pointer (some ad)) [],.p (.pointer (some ad)) [],.p (.pointer (some (ad.add 4))) [],.q (vS p4 t.writes c4),.p (vI from0) [],.x (fun imm' v hx=>∃ ad2,v=.pointer (some ad2)∧hx=[]∧(At imm' ad2 [vI x1])),.q (vI x1),.q (.bool y)] [[],[(0,false)],[(1,false)],[(2,false)],[],[(3,false),(4,false)],[(5,false)],[],[(7,false)],[(8,false)],[(9,false)],[],[(10,false),(11,false)],[(12,false)],[(6,false),(13,false)]] [] [] [(14,false)] (zK [] rfl (by decide)) ?_ ?_
 · refine Op<|Op<|Op<|Oq ?_<|Op<|Ox ?_<|Ox ?_<|Op<|Op<|Op<|Oq ?_<|Op<|Ox ?_<|Oq ?_<|Oq ?_<|On
   · intro imm1 hf le1;refine zG ?_;rintro _ _ ⟨rfl,rfl⟩;refine zN<|yH [(10,.pointer (some (ad.add 3)))] ?_;have hle:=iS imm1;have hat:=hat.mono le1;exact xS 3 hat [vS p3 t.reads c3] (vS p3 t.reads c3) rfl<|zZ (hx:=[]) rfl hle rfl (zM rfl) ⟨rfl,rfl⟩
   · intro imm1 hf le1;refine zG ?_;rintro _ _ ⟨rfl,rfl⟩;refine zG ?_;rintro _ _ ⟨rfl,rfl⟩;refine zN<|yH [(11,vS p3 t.reads c3),(12,vI to0)] ?_;have hle:=iS imm1;have h3:=h3.mono le1;refine wJ rfl rfl h3 hy ?_;intro ad1 ccs hat1 hrep;obtain ⟨v0,rfl,h5⟩:=hrep;obtain ⟨p5,c5,rfl⟩:=h5.form;exact zZ (hx:=[]) rfl hle rfl (zM rfl) ⟨_,_,_,rfl,rfl,hat1,h5⟩
   · intro imm1 hf le1;refine zG ?_;rintro _ _ ⟨ad1,p5,c5,rfl,rfl,hat1,h5⟩;refine zN<|yH [(13,.pointer (some ad1))] ?_;have hle:=iS imm1;exact xS 0 hat1 [vS p5 x c5] (vS p5 x c5) rfl<|zZ (hx:=[]) rfl hle rfl (zM rfl) ⟨_,_,rfl,rfl,h5⟩
   · intro imm1 hf le1;refine zG ?_;rintro _ _ ⟨rfl,rfl⟩;refine zN<|yH [(17,.pointer (some (ad.add 4)))] ?_;have hle:=iS imm1;have hat:=hat.mono le1;exact xS 4 hat [vS p4 t.writes c4] (vS p4 t.writes c4) rfl<|zZ (hx:=[]) rfl hle rfl (zM rfl) ⟨rfl,rfl⟩
   · intro imm1 hf le1;refine zG ?_;rintro _ _ ⟨rfl,rfl⟩;refine zG ?_;rintro _ _ ⟨rfl,rfl⟩;refine zN<|yH [(18,vS p4 t.writes c4),(19,vI from0)] ?_;have hle:=iS imm1;have h4:=h4.mono le1;refine wJ rfl rfl h4 hy1 ?_;intro ad2 ccs1 hat2 hrep1;obtain rfl:=hrep1;exact zZ (hx:=[]) rfl hle rfl (zM rfl) ⟨_,rfl,rfl,hat2⟩
   · intro imm1 hf le1;refine zG ?_;rintro _ _ ⟨ad2,rfl,rfl,hat2⟩;refine zN<|yH [(20,.pointer (some ad2))] ?_;have hle:=iS imm1;exact xS 0 hat2 [vI x1] (vI x1) rfl<|zZ (hx:=[]) rfl hle rfl (zM rfl) ⟨rfl,rfl⟩
   intro imm1 hf le1;refine zG ?_;rintro _ _ ⟨p51,c51,rfl,rfl,h51⟩;refine zG ?_;rintro _ _ ⟨rfl,rfl⟩;refine zN<|yH [(14,vS p51 x c51),(21,vI x1)] ?_;have hle:=iS imm1;refine yR (slices_Contains_int_int_ok x x1 _ hy2 h51) ?_;rintro imm0 hs2 v2 k2 le - ⟨v01,rfl,rfl,rfl⟩ -;have hle:=hle.trans le;exact zZ (hx:=[]) rfl hle rfl (zM rfl) ⟨rfl,rfl⟩
 intro imm01 le1;refine zG ?_;rintro _ _ ⟨rfl,rfl⟩;refine zN<|yH [(0,.pointer (some ad)),(1,vI from0),(2,vI to0),(7,vI 0),(22,.bool y)] ?_;have h3:=h3.mono le1;have h4:=h4.mono le1;have hat:=hat.mono le1;have hle:=hle.trans le1;refine yN rfl<|zE ?_;obtain ⟨o0,ho0,hMc⟩:=zC hM;refine yU (fun imm' hs' m'=>∃ (kinds:Int),o0=kinds∧imm01.le imm'∧hs'=[]∧m'=[(0,.pointer (some ad)),(1,vI from0),(2,vI to0),(7,vI kinds)]) ?_ ?_
 · have hle:=iS imm01;refine yO ho0 ?_ ?_
   · intro hc hM;exact zB<|yA [] [(7,vI (W (0 + 1)))]<|yT [(0,.pointer (some ad)),(1,vI from0),(2,vI to0),(7,vI (W (0 + 1)))]<|yB ⟨_,(zD hM).symm,hle,rfl,rfl⟩
   intro hc hM;exact yE<|yT [(0,.pointer (some ad)),(1,vI from0),(2,vI to0),(7,vI 0)]<|yB ⟨_,(zD hM).symm,hle,rfl,rfl⟩
 rintro imm02 hs2 m2 ⟨kinds,heq,le2,rfl,rfl⟩;subst o0;have h3:=h3.mono le2;have h4:=h4.mono le2;have hat:=hat.mono le2;have hle:=hle.trans le2;refine zE<|zF<|zF ?_;obtain ⟨x2,hy3,hM⟩:=zC hMc;obtain ⟨x3,hy4,hM⟩:=zC hM;obtain ⟨y1,hy5,hM⟩:=zC hM;refine uA [.p (.pointer (some ad)) [],.p (.pointer (some ad)) [],.p (.pointer (some (ad.add 3))) [],.q (vS p3 t.reads c3),.p (vI from0) [],.x (fun imm' v hx=>∃ ad3 p6 c6,v=.pointer (some ad3)∧hx=[]∧(At imm' ad3 [vS p6 x2 c6])∧(S4 imm' p6 x2 c6)),.x (fun imm' v hx=>∃ p61 c61,v=vS p61 x2 c61∧hx=[]∧(S4 imm' p61 x2 c61)),.p (.pointer (some ad)) [],.p (.pointer (some ad)) [],.p (.pointer (some (ad.add 4))) [],.q (vS p4 t.writes c4),.p (vI to0) [],.x (fun imm' v hx=>∃ ad4,v=.pointer (some ad4)∧hx=[]∧(At imm' ad4 [vI x3])),.q (vI x3),.q (.bool y1)] [[],[(0,false)],[(1,false)],[(2,false)],[],[(3,false),(4,false)],[(5,false)],[],[(7,false)],[(8,false)],[(9,false)],[],[(10,false),(11,false)],[(12,false)],[(6,false),(13,false)]] [] [] [(14,false)] (zK [] rfl (by decide)) ?_ ?_
 · refine Op<|Op<|Op<|Oq ?_<|Op<|Ox ?_<|Ox ?_<|Op<|Op<|Op<|Oq ?_<|Op<|Ox ?_<|Oq ?_<|Oq ?_<|On
   · intro imm1 hf le1;refine zG ?_;rintro _ _ ⟨rfl,rfl⟩;refine zN<|yH [(27,.pointer (some (ad.add 3)))] ?_;have hle:=iS imm1;have hat:=hat.mono le1;exact xS 3 hat [vS p3 t.reads c3] (vS p3 t.reads c3) rfl<|zZ (hx:=[]) rfl hle rfl (zM rfl) ⟨rfl,rfl⟩
   · intro imm1 hf le1;refine zG ?_;rintro _ _ ⟨rfl,rfl⟩;refine zG ?_;rintro _ _ ⟨rfl,rfl⟩;refine zN<|yH [(28,vS p3 t.reads c3),(29,vI from0)] ?_;have hle:=iS imm1;have h3:=h3.mono le1;refine wJ rfl rfl h3 hy3 ?_;intro ad3 ccs2 hat3 hrep2;obtain ⟨v02,rfl,h7⟩:=hrep2;obtain ⟨p6,c6,rfl⟩:=h7.form;exact zZ (hx:=[]) rfl hle rfl (zM rfl) ⟨_,_,_,rfl,rfl,hat3,h7⟩
   · intro imm1 hf le1;refine zG ?_;rintro _ _ ⟨ad3,p6,c6,rfl,rfl,hat3,h7⟩;refine zN<|yH [(30,.pointer (some ad3))] ?_;have hle:=iS imm1;exact xS 0 hat3 [vS p6 x2 c6] (vS p6 x2 c6) rfl<|zZ (hx:=[]) rfl hle rfl (zM rfl) ⟨_,_,rfl,rfl,h7⟩
   · intro imm1 hf le1;refine zG ?_;rintro _ _ ⟨rfl,rfl⟩;refine zN<|yH [(34,.pointer (some (ad.add 4)))] ?_;have hle:=iS imm1;have hat:=hat.mono le1;exact xS 4 hat [vS p4 t.writes c4] (vS p4 t.writes c4) rfl<|zZ (hx:=[]) rfl hle rfl (zM rfl) ⟨rfl,rfl⟩
   · intro imm1 hf le1;refine zG ?_;rintro _ _ ⟨rfl,rfl⟩;refine zG ?_;rintro _ _ ⟨rfl,rfl⟩;refine zN<|yH [(35,vS p4 t.writes c4),(36,vI to0)] ?_;have hle:=iS imm1;have h4:=h4.mono le1;refine wJ rfl rfl h4 hy4 ?_;intro ad4 ccs3 hat4 hrep3;obtain rfl:=hrep3;exact zZ (hx:=[]) rfl hle rfl (zM rfl) ⟨_,rfl,rfl,hat4⟩
   · intro imm1 hf le1;refine zG ?_;rintro _ _ ⟨ad4,rfl,rfl,hat4⟩;refine zN<|yH [(37,.pointer (some ad4))] ?_;have hle:=iS imm1;exact xS 0 hat4 [vI x3] (vI x3) rfl<|zZ (hx:=[]) rfl hle rfl (zM rfl) ⟨rfl,rfl⟩
   intro imm1 hf le1;refine zG ?_;rintro _ _ ⟨p61,c61,rfl,rfl,h71⟩;refine zG ?_;rintro _ _ ⟨rfl,rfl⟩;refine zN<|yH [(31,vS p61 x2 c61),(38,vI x3)] ?_;have hle:=iS imm1;refine yR (slices_Contains_int_int_ok x2 x3 _ hy5 h71) ?_;rintro imm03 hs2 v2 k2 le3 - ⟨v03,rfl,rfl,rfl⟩ -;have hle:=hle.trans le3;exact zZ (hx:=[]) rfl hle rfl (zM rfl) ⟨rfl,rfl⟩
 intro imm04 le4;refine zG ?_;rintro _ _ ⟨rfl,rfl⟩;refine zN<|yH [(0,.pointer (some ad)),(1,vI from0),(2,vI to0),(7,vI kinds),(39,.bool y1)] ?_;have h4:=h4.mono le4;have hat:=hat.mono le4;have hle:=hle.trans le4;refine yN rfl<|zE ?_;obtain ⟨o01,ho01,hMc1⟩:=zC hM;refine yU (fun imm' hs' m'=>∃ (kinds1:Int),o01=kinds1∧imm04.le imm'∧hs'=[]∧m'=[(0,.pointer (some ad)),(1,vI from0),(2,vI to0),(7,vI kinds1)]) ?_ ?_
 · have hle:=iS imm04;refine yO ho01 ?_ ?_
   · intro hc1 hM;exact zB<|yA [] [(7,vI (W (kinds + 2)))]<|yT [(0,.pointer (some ad)),(1,vI from0),(2,vI to0),(7,vI (W (kinds + 2)))]<|yB ⟨_,(zD hM).symm,hle,rfl,rfl⟩
   intro hc1 hM;exact yE<|yT [(0,.pointer (some ad)),(1,vI from0),(2,vI to0),(7,vI kinds)]<|yB ⟨_,(zD hM).symm,hle,rfl,rfl⟩
 rintro imm05 hs2 m2 ⟨kinds1,heq1,le5,rfl,rfl⟩;subst o01;have h4:=h4.mono le5;have hat:=hat.mono le5;have hle:=hle.trans le5;refine zE<|zF<|zF<|jF (by kernel_rfl) (by kernel_rfl)<|eU 3 [] [(44,.pointer (some (ad.add 4)))]<|zDa 4 hat [vS p4 t.writes c4] (vS p4 t.writes c4) rfl<|eU 5 [] [(46,vI from0)] ?_;obtain ⟨x4,hy6,hM⟩:=zC hMc1;refine zDb rfl rfl h4 hy6 ?_;intro ad5 ccs4 hat5 hrep4;obtain rfl:=hrep4;refine zDa 0 hat5 [vI x4] (vI x4) rfl<|eU 10 [] [(51,.pointer (some (ad.add 4)))]<|zDa 4 hat [vS p4 t.writes c4] (vS p4 t.writes c4) rfl<|eU 12 [] [(53,vI to0)] ?_;obtain ⟨x5,hy7,hM⟩:=zC hM;refine zDb rfl rfl h4 hy7 ?_;intro ad6 ccs5 hat6 hrep5;obtain rfl:=hrep5;refine zDa 0 hat6 [vI x5] (vI x5) rfl<|zCt [] [(56,.bool (x4 == x5))]<|zE ?_;obtain ⟨o02,ho02,hMc2⟩:=zC hM;refine yU (fun imm' hs' m'=>∃ (kinds2:Int),o02=kinds2∧imm05.le imm'∧hs'=[]∧m'=[(7,vI kinds2)]) ?_ ?_
 · have hle:=iS imm05;refine yO ho02 ?_ ?_
   · intro hc2 hM;exact zB<|yA [] [(7,vI (W (kinds1 + 4)))]<|yT [(7,vI (W (kinds1 + 4)))]<|yB ⟨_,(zD hM).symm,hle,rfl,rfl⟩
   intro hc2 hM;exact yE<|yT [(7,vI kinds1)]<|yB ⟨_,(zD hM).symm,hle,rfl,rfl⟩
 rintro imm06 hs2 m2 ⟨kinds2,heq2,le6,rfl,rfl⟩;subst o02;refine zE<|zF<|zB<|yA [] [(6,vI kinds2)]<|zE<|yJ ?_;obtain rfl:=zD hMc2;exact yQ ⟨_,_,(.tmp rfl ResV.nil),zX,⟨_,rfl,rfl,rfl⟩⟩
def impl_DepBetween_post (r:Int):KT:=fun kk imm' hs' v=>
  ∃ v0,hs'=[]∧v=tupV [v0]∧v0=.int .i64 r
def M.impl_DepBetween (p:zV) (from0:Int) (to0:Int):Option (Int):=do
 let (y1,y2)←jC p
 let t42←(do
   if (!y2) then
    pure true
   else
    let t←y1
    let y3←xV from0 0 (W ((t.list.length:Int) - 1))
    if (!y3) then
     pure true
    else
     let y4←xV to0 0 (W ((t.list.length:Int) - 1))
     if (!y4) then
      pure true
     else
      pure (decide (from0 ≥ to0))
     : Option Bool)
 if t42 then
  pure (id 0)
 else
  let t1←y1
  let y5←M.impl_traced_between t1 from0 to0
  pure (id y5)
theorem impl_DepBetween_ok:∀ (p:zV) (from0:Int) (to0:Int) r,M.impl_DepBetween p from0 to0=some r→∀ {imm:Imm}{p1 c p2 c1},(S4 imm p1 p.Arrays c)→(S4 imm p2 p.Parts c1)→Ret Tryz.prog 19 [vA (cProg p p1 c p2 c1),vI from0,vI to0] imm [] (impl_DepBetween_post  r):=by
 intro p from0 to0 r hM imm p1 c p2 c1 h h1;unfold M.impl_DepBetween at hM;refine yG (fn:=Tryz.f19) (c:=(bodyOf Tryz.f19)) Tryz.func19 rfl rfl ?_;rintro B - -;have hle:=iS imm;refine zF<|zB<|tR (cProg p p1 c p2 c1) ?_;intro b hb;refine yA [] []<|zE<|zF<|zB<|yK 1 [0] [(10,vA (cProg p p1 c p2 c1))] ?_;obtain ⟨⟨y1,y2⟩,hy,hM⟩:=zC hM;refine yR (zHu p _ hy h h1) ?_;rintro imm0 hs2 v2 k2 le - ⟨v0,v01,rfl,rfl,h2,rfl⟩ -;have hle:=hle.trans le;refine yA [] [(7,v0),(8,.bool y2)]<|zE<|zF<|zF ?_;obtain ⟨o0,ho0,hMc⟩:=zC hM;refine yU (fun imm' hs' m'=>∃ (t42:Bool),o0=t42∧imm0.le imm'∧hs'=[]∧m'=[(1,vI from0),(2,vI to0),(7,v0),(42,.bool t42)]) ?_ ?_
 · have hle:=iS imm0;refine zB<|yK 3 [] [(16,.bool (!y2))] ?_;cases hc:(!y2) with
   | true =>
    have hM0:=zW hc ho0
    try rw [hc]
    exact yA [] [(42,.bool true)]<|wD (zK [] rfl (by decide))<|yT [(1,vI from0),(2,vI to0),(7,v0),(42,.bool true)]<|yB ⟨_,(zD hM0).symm,hle,rfl,rfl⟩
   | false =>
    have hM01:=zU hc ho0
    try rw [hc]
    refine yK 5 [] [(17,vI from0),(18,v0)] ?_;obtain ⟨t,hy1,hM⟩:=zC hM01;obtain ⟨ad,ccs,rfl,hat,hrep⟩:=zJZ h2 hy1;obtain ⟨v02,v03,v04,v05,v06,rfl,h4,h5,h6,h7,h8⟩:=zGq hrep;obtain ⟨p3,c2,rfl⟩:=h4.form;obtain ⟨p4,c3,rfl⟩:=h5.form;obtain ⟨p5,c4,rfl⟩:=h6.form;obtain ⟨p6,c5,rfl⟩:=h7.form;obtain ⟨p7,c6,rfl⟩:=h8.form;refine yK 7 [] [(20,.pointer (some (ad.add 2)))]<|xS 2 hat [vS p5 t.list c4] (vS p5 t.list c4) rfl<|yK 10 [] [(23,vI (W ((t.list.length:Int) - 1)))] ?_;obtain ⟨y3,hy2,hM⟩:=zC hM;refine yR (wN from0 0 (W ((t.list.length:Int) - 1)) _ hy2 ) ?_;rintro imm02 hs2 v2 k2 le1 - ⟨v07,rfl,rfl,rfl⟩ -;have hat:=hat.mono le1;have hle:=hle.trans le1;refine yK 14 [] [(27,.bool (!y3))] ?_;cases hc1:(!y3) with
    | true =>
     have hM02:=zW hc1 hM
     try rw [hc1]
     exact yA [] [(42,.bool true)]<|wD (zK [] rfl (by decide))<|yT [(1,vI from0),(2,vI to0),(7,.pointer (some ad)),(42,.bool true)]<|yB ⟨_,(zD hM02).symm,hle,rfl,rfl⟩
    | false =>
     have hM03:=zU hc1 hM
     try rw [hc1]
     refine yK 18 [] [(28,vI to0),(31,.pointer (some (ad.add 2)))]<|xS 2 hat [vS p5 t.list c4] (vS p5 t.list c4) rfl<|yK 21 [] [(34,vI (W ((t.list.length:Int) - 1)))] ?_;obtain ⟨y4,hy3,hM⟩:=zC hM03;refine yR (wN to0 0 (W ((t.list.length:Int) - 1)) _ hy3 ) ?_;rintro imm03 hs2 v2 k2 le2 - ⟨v08,rfl,rfl,rfl⟩ -;have hle:=hle.trans le2;refine yK 25 [] [(38,.bool (!y4))] ?_;cases hc2:(!y4) with
     | true =>
      have hM04:=zW hc2 hM
      try rw [hc2]
      exact yA [] [(42,.bool true)]<|wD (zK [] rfl (by decide))<|yT [(1,vI from0),(2,vI to0),(7,.pointer (some ad)),(42,.bool true)]<|yB ⟨_,(zD hM04).symm,hle,rfl,rfl⟩
     | false =>
      have hM05:=zU hc2 hM
      try rw [hc2]
      exact yA [] [(42,.bool (decide (from0 ≥ to0)))]<|wD (zK [] rfl (by decide))<|yT [(1,vI from0),(2,vI to0),(7,.pointer (some ad)),(42,.bool (decide (from0 ≥ to0)))]<|yB ⟨_,(zD hM05).symm,hle,rfl,rfl⟩
 rintro imm01 hs2 m2 ⟨t42,heq,le3,rfl,rfl⟩;subst o0;have h2:=h2.mono le3;refine zE<|yO hMc ?_ ?_
 · intro hc3 hM;refine zF<|zB<|yA [] [(6,vI 0)]<|zE<|yJ<|zR ?_;obtain rfl:=zD hM;exact yQ ⟨_,_,(.tmp rfl ResV.nil),zX,⟨_,rfl,rfl,rfl⟩⟩
 intro hc3 hM;refine yE<|zE<|zF<|zB<|yK 3 [] [(43,v0),(44,vI from0),(45,vI to0)] ?_;obtain ⟨t1,hy4,hM⟩:=zC hM;obtain ⟨ad1,ccs1,rfl,hat1,hrep1⟩:=zJZ h2 hy4;obtain ⟨v09,v010,v011,v012,v013,rfl,h11,h12,h13,h14,h15⟩:=zGq hrep1;obtain ⟨p8,c7,rfl⟩:=h11.form;obtain ⟨p9,c8,rfl⟩:=h12.form;obtain ⟨p10,c9,rfl⟩:=h13.form;obtain ⟨p11,c10,rfl⟩:=h14.form;obtain ⟨p12,c11,rfl⟩:=h15.form;obtain ⟨y5,hy5,hM⟩:=zC hM;refine yR (impl_traced_between_ok t1 from0 to0 _ hy5 h11 h12 h13 h14 h15 hat1) ?_;rintro imm04 hs2 v2 k2 le4 - ⟨v014,rfl,rfl,rfl⟩ -;refine yA [] [(6,vI y5)]<|zE<|yJ ?_;obtain rfl:=zD hM;exact yQ ⟨_,_,(.tmp rfl ResV.nil),zX,⟨_,rfl,rfl,rfl⟩⟩
def impl_ProgramInstances_post (r:(List zT)):KT:=fun kk imm' hs' v=>
  ∃ v0,hs'=[]∧v=tupV [v0]∧SL imm' v0 r
def M.impl_ProgramInstances (p:zV):Option ((List zT)):=do
 let (y1,y2)←tV p
 if (!y2) then
  pure ([]:List zT)
 else
  pure (id y1)
theorem impl_ProgramInstances_ok:∀ (p:zV) r,M.impl_ProgramInstances p=some r→∀ {imm:Imm}{p1 c p2 c1},(S4 imm p1 p.Arrays c)→(S4 imm p2 p.Parts c1)→Ret Tryz.prog 24 [vA (cProg p p1 c p2 c1)] imm [] (impl_ProgramInstances_post  r):=by
 intro p r hM imm p1 c p2 c1 h h1;unfold M.impl_ProgramInstances at hM;refine yG (fn:=Tryz.f24) (c:=(bodyOf Tryz.f24)) Tryz.func24 rfl rfl ?_;rintro B - -;refine zF<|zB<|tR (cProg p p1 c p2 c1) ?_;intro b hb;refine yA [] []<|zE<|zF<|zB<|yK 1 [0] [(6,vA (cProg p p1 c p2 c1))] ?_;obtain ⟨⟨y1,y2⟩,hy,hM⟩:=zC hM;refine yR (jX p _ hy h h1) ?_;rintro imm0 hs2 v2 k2 le - ⟨v0,v01,rfl,rfl,h2,rfl⟩ -;obtain ⟨p3,c2,rfl⟩:=h2.form;refine yA [] [(3,vS p3 y1 c2),(4,.bool y2)]<|zE<|zF<|zF<|zB<|yA [] [(11,.bool (!y2))]<|zE<|yO hM ?_ ?_
 · intro hc hM;refine zF<|zB<|yA [] [(2,z0)]<|zE<|yJ<|zR ?_;obtain rfl:=zD hM;exact yQ ⟨_,_,(.tmp rfl ResV.nil),zX,⟨_,rfl,rfl,(SL.nil _)⟩⟩
 intro hc hM;refine yE<|zE<|zF<|zB<|yA [] [(2,vS p3 y1 c2)]<|zE<|yJ ?_;obtain rfl:=zD hM;exact yQ ⟨_,_,(.tmp rfl ResV.nil),zX,⟨_,rfl,rfl,h2⟩⟩
def spec_DrawDependences_post (r:zV):KT:=fun kk imm' hs' v=>
  ∃ v0,hs'=[]∧v=tupV [v0]∧(∃ cs,v0=.agg ⟨cs⟩∧Rp.rep imm' cs r)
def M.spec_DrawDependences (code:(List UInt8)):Option (zV):=do
 let y←M.spec_DrawProgramValid code
 pure (id y)
theorem spec_DrawDependences_ok:∀ (code:(List UInt8)) r,M.spec_DrawDependences code=some r→∀ {imm:Imm}{p c},(S4 imm p code c)→Ret Tryz.prog 26 [vS p code c] imm [] (spec_DrawDependences_post  r):=by
 intro code r hM imm p c h;unfold M.spec_DrawDependences at hM;refine yG (fn:=Tryz.f26) (c:=(bodyOf Tryz.f26)) Tryz.func26 rfl rfl ?_;rintro B - -;refine zF<|zB<|uD zTwo ?_;intro b hb;refine yN rfl<|zE<|zF<|zB<|yK 1 [] [(3,vS p code c)] ?_;obtain ⟨y,hy,hM⟩:=zC hM;refine yR (spec_DrawProgramValid_ok code _ hy h) ?_;rintro imm0 hs2 v2 k2 le - ⟨v0,rfl,rfl,⟨cs,rfl,h1⟩⟩ -;obtain ⟨v01,v02,rfl,h2,h3⟩:=zG6 h1;obtain ⟨p1,c1,rfl⟩:=h2.form;obtain ⟨p2,c2,rfl⟩:=h3.form;refine xJ 0 (cProg y p1 c1 p2 c2) [hB b (cProg y p1 c1 p2 c2)] rfl rfl rfl rfl<|yN rfl<|zE<|yJ ?_;obtain rfl:=zD hM;exact yQ ⟨_,_,(.cell 0 rfl rfl (by kernel_rfl) ResV.nil),zX,⟨_,rfl,rfl,⟨_,rfl,(nH ⟨_,_,rfl,h2,h3⟩)⟩⟩⟩
def impl_traced_deps_post (r:(List impl_Dep)):KT:=fun kk imm' hs' v=>
  ∃ v0,hs'=[]∧v=tupV [v0]∧SL imm' v0 r
def M.impl_traced_deps_l2 (t:oS) (t12:Int) (out2:List impl_Dep) (to0:Int):Option (List impl_Dep):=do
 if (decide (to0 < (t.list.length:Int))) then
  let y←M.impl_traced_between t t12 to0
  let out4←(do
    if (decide (y > 0)) then
     let out5←app 24 out2 ([(impl_Dep.mk t12 to0 y)]:List impl_Dep)
     pure (id out5)
    else
     pure (id out2)
      : Option (List impl_Dep))
  M.impl_traced_deps_l2 t t12 out4 (W (to0 + 1))
 else
  pure (id out2)
 partial_fixpoint
theorem impl_traced_deps_l2_ok (t:oS) (t12:Int):∀ (out2:List impl_Dep) (to0:Int) (o:List impl_Dep),M.impl_traced_deps_l2 t t12 out2 to0=some o→∀ {B}{imm0 imm:Imm}{Q}  {ad:Addr}{p c p1 c1 p2 c2 p3 c3 p4 c4 p7 c7 cs2},imm0.le imm→(S4 imm p t.Program.Arrays c)→(S4 imm p1 t.Program.Parts c1)→(S4 imm p2 t.list c2)→(S4 imm p3 t.reads c3)→(S4 imm p4 t.writes c4)→(At imm ad [vS p t.Program.Arrays c,vS p1 t.Program.Parts c1,vS p2 t.list c2,vS p3 t.reads c3,vS p4 t.writes c4])→(RL imm cs2 out2)→(∀ gl a w,¬Q (.goto gl) a w)→(∀ a w,¬Q .outgrown a w)→(∀ (imm':Imm) (out3:List impl_Dep) (p8:Option Addr) (c8:Nat) (cs3:List Value),o=out3→imm0.le imm'→(RL imm' cs3 out3)→T 41 B Q (.exit 2) imm' [hO impl_Dep (vS p8 out3 c8) cs3] [(0,.pointer (some ad)),(3,vS p8 out3 c8),(11,vI (t.list.length:Int)),(12,vI t12)])→J Tryz.prog 41 B (nav (bodyOf Tryz.f59) [1,1,0,1,0,0,1,1,0,0,1,1,0]) Q imm [hO impl_Dep (vS p7 out2 c7) cs2] [(0,.pointer (some ad)),(3,vS p7 out2 c7),(4,vI t12),(5,vI to0),(11,vI (t.list.length:Int)),(12,vI t12)]:=by
 refine M.impl_traced_deps_l2.partial_correctness t t12 _ ?_;intro self ih out2 to0 o hM B imm0 imm Q ad p c p1 c1 p2 c2 p3 c3 p4 c4 p7 c7 cs2 hle h h1 h2 h3 h4 hat h8 hg ho hx;refine xC hg ho<|zF<|zF<|zB<|yK 4 [] [(17,vI to0),(20,.pointer (some (ad.add 2)))]<|xS 2 hat [vS p2 t.list c2] (vS p2 t.list c2) rfl<|yA [] [(23,.bool (decide (to0 < (t.list.length:Int))))]<|zE<|yO hM ?_ ?_
 · intro hc1 hM;refine yE<|zE<|zF<|yC<|zF<|zB<|yK 3 [] [(26,.pointer (some ad)),(27,vI t12),(28,vI to0)] ?_;obtain ⟨y,hy,hM⟩:=zC hM;refine yR (impl_traced_between_ok t t12 to0 _ hy h h1 h2 h3 h4 hat) ?_;rintro imm0 hs2 v2 k2 le - ⟨v0,rfl,rfl,rfl⟩ -;have h:=h.mono le;have h1:=h1.mono le;have h2:=h2.mono le;have h3:=h3.mono le;have h4:=h4.mono le;have hat:=hat.mono le;have h8:=iM le h8;have hle:=hle.trans le;refine yA [] [(6,vI y)]<|zE<|zF<|zB<|yA [] [(31,.bool (decide (y > 0)))]<|zE ?_;obtain ⟨o0,ho0,hMc⟩:=zC hM;refine yU (fun imm' hs' m'=>∃ (out4:List impl_Dep) (p9:Option Addr) (c9:Nat) (cs4:List Value),o0=out4∧imm0.le imm'∧(RL imm' cs4 out4)∧hs'=[hO impl_Dep (vS p9 out4 c9) cs4]∧m'=[(0,.pointer (some ad)),(3,vS p9 out4 c9),(4,vI t12),(5,vI to0),(11,vI (t.list.length:Int)),(12,vI t12)]) ?_ ?_
   · have hle:=iS imm0;refine yO ho0 ?_ ?_
     · intro hc2 hM;refine zB<|yK 5 [] [(32,vS p7 out2 c7),(36,vA [vI t12,vI to0,vI y])]<|xQ [vI t12,vI to0,vI y] impl_Dep ?_;intro b hb;have h12:RL imm0 [vI t12,vI to0,vI y] ([(impl_Dep.mk t12 to0 y)]:List impl_Dep):=⟨[vI t12,vI to0,vI y],_,rfl,rfl,(impl_Dep_shut rfl),rfl⟩;obtain ⟨out5,hy1,hM⟩:=zC hM;refine qI 49 3 1 rfl rfl rfl h8 (.inr ⟨0,rfl⟩) h12 hy1 ?_;intro p10 c10 cs5 h13;exact rX (zK [1] (hs':=[hO impl_Dep (vS p10 out5 c10) cs5]) rfl (by decide))<|yA [] [(3,vS p10 out5 c10)]<|yT [(0,.pointer (some ad)),(3,vS p10 out5 c10),(4,vI t12),(5,vI to0),(11,vI (t.list.length:Int)),(12,vI t12)]<|yB ⟨_,_,_,_,(zD hM).symm,hle,h13,rfl,rfl⟩
     intro hc2 hM;exact yE<|yT [(0,.pointer (some ad)),(3,vS p7 out2 c7),(4,vI t12),(5,vI to0),(11,vI (t.list.length:Int)),(12,vI t12)]<|yB ⟨_,_,_,_,(zD hM).symm,hle,h8,rfl,rfl⟩
   rintro imm01 hs2 m2 ⟨out4,p9,c9,cs4,heq,le1,h11,rfl,rfl⟩;subst o0;have h:=h.mono le1;have h1:=h1.mono le1;have h2:=h2.mono le1;have h3:=h3.mono le1;have h4:=h4.mono le1;have hat:=hat.mono le1;have hle:=hle.trans le1;exact zY<|zE<|zB<|yA [] [(5,vI (W (to0 + 1)))]<|xD<|vQ [(0,.pointer (some ad)),(3,vS p9 out4 c9),(4,vI t12),(5,vI (W (to0 + 1))),(11,vI (t.list.length:Int)),(12,vI t12)]<|ih out4 (W (to0 + 1)) _ hMc hle h h1 h2 h3 h4 hat h11 hg ho hx
 intro hc1 hM;exact xA<|zS<|zS<|yT [(0,.pointer (some ad)),(3,vS p7 out2 c7),(11,vI (t.list.length:Int)),(12,vI t12)]<|hx _ _ _ _ _ (zD hM).symm hle h8
def M.impl_traced_deps_l1 (t:oS) (out:List impl_Dep) (t12:Int):Option (List impl_Dep):=do
 if (decide (t12 < (t.list.length:Int))) then
  let out3←M.impl_traced_deps_l2 t t12 out (W (t12 + 1))
  M.impl_traced_deps_l1 t out3 (W (t12 + 1))
 else
  pure (id out)
 partial_fixpoint
theorem impl_traced_deps_l1_ok (t:oS):∀ (out:List impl_Dep) (t12:Int) (o:List impl_Dep),M.impl_traced_deps_l1 t out t12=some o→∀ {B}{imm0 imm:Imm}{Q}  {ad:Addr}{p c p1 c1 p2 c2 p3 c3 p4 c4 p5 c5 cs},imm0.le imm→(S4 imm p t.Program.Arrays c)→(S4 imm p1 t.Program.Parts c1)→(S4 imm p2 t.list c2)→(S4 imm p3 t.reads c3)→(S4 imm p4 t.writes c4)→(At imm ad [vS p t.Program.Arrays c,vS p1 t.Program.Parts c1,vS p2 t.list c2,vS p3 t.reads c3,vS p4 t.writes c4])→(RL imm cs out)→(∀ gl a w,¬Q (.goto gl) a w)→(∀ a w,¬Q .outgrown a w)→(∀ (imm':Imm) (out1:List impl_Dep) (p6:Option Addr) (c6:Nat) (cs1:List Value),o=out1→imm0.le imm'→(RL imm' cs1 out1)→T 41 B Q (.exit 0) imm' [hO impl_Dep (vS p6 out1 c6) cs1] [(3,vS p6 out1 c6)])→J Tryz.prog 41 B (nav (bodyOf Tryz.f59) [1,1,0,1,0]) Q imm [hO impl_Dep (vS p5 out c5) cs] [(0,.pointer (some ad)),(3,vS p5 out c5),(11,vI (t.list.length:Int)),(12,vI t12)]:=by
 refine M.impl_traced_deps_l1.partial_correctness t _ ?_;intro self ih out t12 o hM B imm0 imm Q ad p c p1 c1 p2 c2 p3 c3 p4 c4 p5 c5 cs hle h h1 h2 h3 h4 hat h6 hg ho hx;refine xC hg ho<|zF<|zB<|yA [] [(13,.bool (decide (t12 < (t.list.length:Int))))]<|zE<|zF<|yO hM ?_ ?_
 · intro hc hM;refine yE<|zE<|zF<|yC<|zF<|zB<|yA [] [(4,vI t12)]<|zE<|zF<|zB<|yA [] [(5,vI (W (t12 + 1)))]<|zE<|yC<|vQ [(0,.pointer (some ad)),(3,vS p5 out c5),(4,vI t12),(5,vI (W (t12 + 1))),(11,vI (t.list.length:Int)),(12,vI t12)] ?_;obtain ⟨o01,ho01,hMl⟩:=zC hM;refine impl_traced_deps_l2_ok t t12 out (W (t12 + 1)) o01 ho01 iR h h1 h2 h3 h4 hat h6 (fun _ _ _ h=>hg _ _ _ h) (fun _ _ h=>ho _ _ h) ?_;intro imm02 out3 p8 c8 cs3 heq1 le2 h9;subst o01;have h:=h.mono le2;have h1:=h1.mono le2;have h2:=h2.mono le2;have h3:=h3.mono le2;have h4:=h4.mono le2;have hat:=hat.mono le2;have hle:=hle.trans le2;exact yD<|zY<|zE<|zB<|yA [] [(12,vI (W (t12 + 1)))]<|xD<|vQ [(0,.pointer (some ad)),(3,vS p8 out3 c8),(11,vI (t.list.length:Int)),(12,vI (W (t12 + 1)))]<|ih out3 (W (t12 + 1)) _ hMl hle h h1 h2 h3 h4 hat h9 hg ho hx
 intro hc hM;exact xA<|zS<|zS<|yT [(3,vS p5 out c5)]<|hx _ _ _ _ _ (zD hM).symm hle h6
def M.impl_traced_deps (t:oS):Option ((List impl_Dep)):=do
 let out1←M.impl_traced_deps_l1 t ([]:List impl_Dep) 0
 pure (id out1)
theorem impl_traced_deps_ok:∀ (t:oS) r,M.impl_traced_deps t=some r→∀ {imm:Imm}{ad:Addr}{p c p1 c1 p2 c2 p3 c3 p4 c4},(S4 imm p t.Program.Arrays c)→(S4 imm p1 t.Program.Parts c1)→(S4 imm p2 t.list c2)→(S4 imm p3 t.reads c3)→(S4 imm p4 t.writes c4)→(At imm ad [vS p t.Program.Arrays c,vS p1 t.Program.Parts c1,vS p2 t.list c2,vS p3 t.reads c3,vS p4 t.writes c4])→Ret Tryz.prog 59 [.pointer (some ad)] imm [] (impl_traced_deps_post  r):=by
 intro t r hM imm ad p c p1 c1 p2 c2 p3 c3 p4 c4 h h1 h2 h3 h4 hat;unfold M.impl_traced_deps at hM;refine yG (fn:=Tryz.f59) (c:=(bodyOf Tryz.f59)) Tryz.func59 rfl rfl ?_;rintro B - -;refine zF<|zB<|yA [] []<|zE<|zF<|zB<|yA [] [(3,z0)]<|zE<|zF<|zF<|zB<|yK 3 [] [(9,.pointer (some (ad.add 2)))]<|xS 2 hat [vS p2 t.list c2] (vS p2 t.list c2) rfl<|yA [] [(11,vI (t.list.length:Int)),(12,vI 0)]<|zE<|yC<|vQ [(0,.pointer (some ad)),(3,z0),(11,vI (t.list.length:Int)),(12,vI 0)]<|qA (uI (Rp.sz impl_Dep)) ?_;have h5:RL imm [] ([]:List impl_Dep):=RepL.nil;obtain ⟨o02,ho02,hMl1⟩:=zC hM;refine impl_traced_deps_l1_ok t ([]:List impl_Dep) 0 o02 ho02 iR h h1 h2 h3 h4 hat h5 (fun _ _ _ h=>h) (fun _ _ h=>h) ?_;intro imm03 out1 p6 c6 cs1 heq2 le3 h7;subst o02;refine yD<|zE<|zF<|zB<|yA [] [(2,vS p6 out1 c6)]<|zE<|yJ<|xI 0 rfl ?_;intro imm04 le4 hl0;have h14:=SL.of_frozen hl0 le4 h7;obtain rfl:=zD hMl1;exact yQ ⟨_,_,(.tmp rfl ResV.nil),zX,⟨_,rfl,rfl,h14⟩⟩
def impl_Dependences_post (r:(List impl_Dep)):KT:=fun kk imm' hs' v=>
  ∃ v0,hs'=[]∧v=tupV [v0]∧SL imm' v0 r
def M.impl_Dependences (p:zV):Option ((List impl_Dep)):=do
 let (y1,y2)←jC p
 if (!y2) then
  pure ([]:List impl_Dep)
 else
  let t←y1
  let y3←M.impl_traced_deps t
  pure (id y3)
theorem impl_Dependences_ok:∀ (p:zV) r,M.impl_Dependences p=some r→∀ {imm:Imm}{p1 c p2 c1},(S4 imm p1 p.Arrays c)→(S4 imm p2 p.Parts c1)→Ret Tryz.prog 27 [vA (cProg p p1 c p2 c1)] imm [] (impl_Dependences_post  r):=by
 intro p r hM imm p1 c p2 c1 h h1;unfold M.impl_Dependences at hM;refine yG (fn:=Tryz.f27) (c:=(bodyOf Tryz.f27)) Tryz.func27 rfl rfl ?_;rintro B - -;refine zF<|zB<|tR (cProg p p1 c p2 c1) ?_;intro b hb;refine yA [] []<|zE<|zF<|zB<|yK 1 [0] [(6,vA (cProg p p1 c p2 c1))] ?_;obtain ⟨⟨y1,y2⟩,hy,hM⟩:=zC hM;refine yR (zHu p _ hy h h1) ?_;rintro imm0 hs2 v2 k2 le - ⟨v0,v01,rfl,rfl,h2,rfl⟩ -;refine yA [] [(3,v0),(4,.bool y2)]<|zE<|zF<|zF<|zB<|yA [] [(11,.bool (!y2))]<|zE<|yO hM ?_ ?_
 · intro hc hM;refine zF<|zB<|yA [] [(2,z0)]<|zE<|yJ<|zR ?_;obtain rfl:=zD hM;exact yQ ⟨_,_,(.tmp rfl ResV.nil),zX,⟨_,rfl,rfl,(SL.nil _)⟩⟩
 intro hc hM;refine yE<|zE<|zF<|zB<|yK 1 [] [(12,v0)] ?_;obtain ⟨t,hy1,hM⟩:=zC hM;obtain ⟨ad,ccs,rfl,hat,hrep⟩:=zJZ h2 hy1;obtain ⟨v02,v03,v04,v05,v06,rfl,h4,h5,h6,h7,h8⟩:=zGq hrep;obtain ⟨p3,c2,rfl⟩:=h4.form;obtain ⟨p4,c3,rfl⟩:=h5.form;obtain ⟨p5,c4,rfl⟩:=h6.form;obtain ⟨p6,c5,rfl⟩:=h7.form;obtain ⟨p7,c6,rfl⟩:=h8.form;obtain ⟨y3,hy2,hM⟩:=zC hM;refine yR (impl_traced_deps_ok t _ hy2 h4 h5 h6 h7 h8 hat) ?_;rintro imm01 hs2 v2 k2 le1 - ⟨v07,rfl,rfl,h9⟩ -;obtain ⟨p8,c7,rfl⟩:=h9.form;refine yA [] [(2,vS p8 y3 c7)]<|zE<|yJ ?_;obtain rfl:=zD hM;exact yQ ⟨_,_,(.tmp rfl ResV.nil),zX,⟨_,rfl,rfl,h9⟩⟩
def laws_lnDeps_post (r:Bool):KT:=fun kk imm' hs' v=>
  ∃ v0,hs'=[]∧v=tupV [v0]∧v0=.bool r
def M.laws_lnDeps_l1 (a0:(List impl_Dep)) (b:(List impl_Dep)) (i:Int):Option (Out Unit (Bool)):=do
 if (decide (i < (a0.length:Int))) then
  let x←idx a0 i
  let x1←idx b i
  if (!(x.From == x1.From && (x.To == x1.To && x.Kinds == x1.Kinds))) then
   pure (.ret false)
  else
   M.laws_lnDeps_l1 a0 b (W (i + 1))
 else
  pure (.done ())
 partial_fixpoint
theorem laws_lnDeps_l1_ok (a0:(List impl_Dep)) (b:(List impl_Dep)):∀ (i:Int) (o:Out Unit (Bool)),M.laws_lnDeps_l1 a0 b i=some o→∀ {B}{imm0 imm:Imm}{Q p c p1 c1},imm0.le imm→(S4 imm p a0 c)→(S4 imm p1 b c1)→(∀ gl a w,¬Q (.goto gl) a w)→(∀ a w,¬Q .outgrown a w)→(∀ (imm':Imm) ,o=(.done ())→imm0.le imm'→T 26 B Q (.exit 0) imm' [] [])→(∀ r imm' hs' m',o=(.ret r)→imm0.le imm'→RS Tryz.prog Tryz.f28 B (laws_lnDeps_post  r) imm' hs' m'→T 26 B Q .ret imm' hs' m')→J Tryz.prog 26 B (nav (bodyOf Tryz.f28) [1,1,0,1,0]) Q imm [] [(0,vS p a0 c),(1,vS p1 b c1),(5,vI i)]:=by
 refine M.laws_lnDeps_l1.partial_correctness a0 b _ ?_;intro self ih i o hM B imm0 imm Q p c p1 c1 hle h h1 hg ho hx hr;refine xC hg ho<|zF<|zF<|zB<|yA [] [(14,.bool (decide (i < (a0.length:Int))))]<|zE<|yO hM ?_ ?_
 · intro hc1 hM;refine yE<|zE<|zF<|yC<|zF<|jF (by kernel_rfl) (by kernel_rfl)<|eU 2 [] [(17,vS p a0 c),(18,vI i)] ?_;obtain ⟨x,hy,hM⟩:=zC hM;refine zDb rfl rfl h hy ?_;intro ad ccs hat hrep;obtain rfl:=impl_Dep_open hrep;refine zDa 0 hat [vI x.From,vI x.To,vI x.Kinds] (vA [vI x.From,vI x.To,vI x.Kinds]) rfl<|eU 6 [] [(21,vS p1 b c1),(22,vI i)] ?_;obtain ⟨x1,hy1,hM⟩:=zC hM;refine zDb rfl rfl h1 hy1 ?_;intro ad1 ccs1 hat1 hrep1;obtain rfl:=impl_Dep_open hrep1;refine zDa 0 hat1 [vI x1.From,vI x1.To,vI x1.Kinds] (vA [vI x1.From,vI x1.To,vI x1.Kinds]) rfl<|Rq_n3 (a:=x.From) (b:=x.To) (c:=x.Kinds) (a':=x1.From) (b':=x1.To) (c':=x1.Kinds) rfl<|zIi rfl<|zE<|yO hM ?_ ?_
   · intro hc2 hM;exact zF<|zB<|yA [] [(4,.bool false)]<|zE<|yJ<|yF<|zR<|zR<|hr _ _ _ _ (zD hM).symm hle ⟨_,_,(.tmp rfl ResV.nil),zX,⟨_,rfl,rfl,rfl⟩⟩
   intro hc2 hM;exact yE<|zY<|zE<|zB<|yA [] [(5,vI (W (i + 1)))]<|xD<|vQ [(0,vS p a0 c),(1,vS p1 b c1),(5,vI (W (i + 1)))]<|ih (W (i + 1)) _ hM hle h h1 hg ho hx hr
 intro hc1 hM;exact xA<|zS<|zS<|yT []<|hx _  (zD hM).symm hle
def M.laws_lnDeps (a0:(List impl_Dep)) (b:(List impl_Dep)):Option (Bool):=do
 if ((a0.length:Int) != (b.length:Int)) then
  pure false
 else
  match←M.laws_lnDeps_l1 a0 b 0 with
  | .ret r0=>pure r0
  | .done _ =>
   pure true
theorem laws_lnDeps_ok:∀ (a0:(List impl_Dep)) (b:(List impl_Dep)) r,M.laws_lnDeps a0 b=some r→∀ {imm:Imm}{p c p1 c1},(S4 imm p a0 c)→(S4 imm p1 b c1)→Ret Tryz.prog 28 [vS p a0 c,vS p1 b c1] imm [] (laws_lnDeps_post  r):=by
 intro a0 b r hM imm p c p1 c1 h h1;unfold M.laws_lnDeps at hM;refine yG (fn:=Tryz.f28) (c:=(bodyOf Tryz.f28)) Tryz.func28 rfl rfl ?_;rintro B - -;refine zF<|zB<|yA [] []<|zE<|zF<|zF<|zB<|yA [] [(10,.bool ((a0.length:Int) != (b.length:Int)))]<|zE<|yO hM ?_ ?_
 · intro hc hM;refine zF<|zB<|yA [] [(4,.bool false)]<|zE<|yJ<|zR ?_;obtain rfl:=zD hM;exact yQ ⟨_,_,(.tmp rfl ResV.nil),zX,⟨_,rfl,rfl,rfl⟩⟩
 intro hc hM;refine yE<|zE<|zF<|zF<|zB<|yA [] [(5,vI 0)]<|zE<|yC<|vQ [(0,vS p a0 c),(1,vS p1 b c1),(5,vI 0)] ?_;obtain ⟨o0,ho0,hMl⟩:=zC hM;refine laws_lnDeps_l1_ok a0 b 0 o0 ho0 iR h h1 (fun _ _ _ h=>h) (fun _ _ h=>h) ?_ ?_
 · intro imm0  heq le;subst o0;refine yD<|zE<|zF<|zB<|yA [] [(4,.bool true)]<|zE<|yJ ?_;obtain rfl:=zD hMl;exact yQ ⟨_,_,(.tmp rfl ResV.nil),zX,⟨_,rfl,rfl,rfl⟩⟩
 intro r0 imm9 hs9 m9 heq9 le9 hrs9;subst heq9;refine yF<|zR ?_;obtain rfl:=zD hMl;exact yQ hrs9
def spec_l6Has_post (r:Bool):KT:=fun kk imm' hs' v=>
  ∃ v0,hs'=[]∧v=tupV [v0]∧v0=.bool r
def M.spec_l6Has_l1 (list:(List Int)) (n0:Int) (i:Int):Option (Out Unit (Bool)):=do
 if (decide (i < (list.length:Int))) then
  let x←idx list i
  if (x == n0) then
   pure (.ret true)
  else
   M.spec_l6Has_l1 list n0 (W (i + 1))
 else
  pure (.done ())
 partial_fixpoint
theorem spec_l6Has_l1_ok (list:(List Int)) (n0:Int):∀ (i:Int) (o:Out Unit (Bool)),M.spec_l6Has_l1 list n0 i=some o→∀ {B}{imm0 imm:Imm}{Q p c},imm0.le imm→(S4 imm p list c)→(∀ gl a w,¬Q (.goto gl) a w)→(∀ a w,¬Q .outgrown a w)→(∀ (imm':Imm) ,o=(.done ())→imm0.le imm'→T 18 B Q (.exit 0) imm' [] [])→(∀ r imm' hs' m',o=(.ret r)→imm0.le imm'→RS Tryz.prog Tryz.f92 B (spec_l6Has_post  r) imm' hs' m'→T 18 B Q .ret imm' hs' m')→J Tryz.prog 18 B (nav (bodyOf Tryz.f92) [1,0,1,0]) Q imm [] [(0,vS p list c),(1,vI n0),(5,vI i)]:=by
 refine M.spec_l6Has_l1.partial_correctness list n0 _ ?_;intro self ih i o hM B imm0 imm Q p c hle h hg ho hx hr;refine xC hg ho<|zF<|zF<|zB<|yA [] [(9,.bool (decide (i < (list.length:Int))))]<|zE<|yO hM ?_ ?_
 · intro hc hM;refine yE<|zE<|zF<|yC<|zF<|zB<|yK 2 [] [(12,vS p list c),(13,vI i)] ?_;obtain ⟨x,hy,hM⟩:=zC hM;refine wJ rfl rfl h hy ?_;intro ad ccs hat hrep;obtain rfl:=hrep;refine xS 0 hat [vI x] (vI x) rfl<|yA [] [(17,.bool (x == n0))]<|zE<|yO hM ?_ ?_
   · intro hc1 hM;exact zF<|zB<|yA [] [(4,.bool true)]<|zE<|yJ<|yF<|zR<|zR<|hr _ _ _ _ (zD hM).symm hle ⟨_,_,(.tmp rfl ResV.nil),zX,⟨_,rfl,rfl,rfl⟩⟩
   intro hc1 hM;exact yE<|zY<|zE<|zB<|yA [] [(5,vI (W (i + 1)))]<|xD<|vQ [(0,vS p list c),(1,vI n0),(5,vI (W (i + 1)))]<|ih (W (i + 1)) _ hM hle h hg ho hx hr
 intro hc hM;exact xA<|zS<|zS<|yT []<|hx _  (zD hM).symm hle
def M.spec_l6Has (list:(List Int)) (n0:Int):Option (Bool):=do
 match←M.spec_l6Has_l1 list n0 0 with
 | .ret r0=>pure r0
 | .done _ =>
  pure false
theorem spec_l6Has_ok:∀ (list:(List Int)) (n0:Int) r,M.spec_l6Has list n0=some r→∀ {imm:Imm}{p c},(S4 imm p list c)→Ret Tryz.prog 92 [vS p list c,vI n0] imm [] (spec_l6Has_post  r):=by
 intro list n0 r hM imm p c h;unfold M.spec_l6Has at hM;refine yG (fn:=Tryz.f92) (c:=(bodyOf Tryz.f92)) Tryz.func92 rfl rfl ?_;rintro B - -;refine zF<|zB<|yA [] []<|zE<|zF<|zF<|zB<|yA [] [(5,vI 0)]<|zE<|yC<|vQ [(0,vS p list c),(1,vI n0),(5,vI 0)] ?_;obtain ⟨o0,ho0,hMl⟩:=zC hM;refine spec_l6Has_l1_ok list n0 0 o0 ho0 iR h (fun _ _ _ h=>h) (fun _ _ h=>h) ?_ ?_
 · intro imm0  heq le;subst o0;refine yD<|zE<|zF<|zB<|yA [] [(4,.bool false)]<|zE<|yJ ?_;obtain rfl:=zD hMl;exact yQ ⟨_,_,(.tmp rfl ResV.nil),zX,⟨_,rfl,rfl,rfl⟩⟩
 intro r0 imm9 hs9 m9 heq9 le9 hrs9;subst heq9;refine yF<|zR ?_;obtain rfl:=zD hMl;exact yQ hrs9
def spec_l6Kinds_post (r:Int):KT:=fun kk imm' hs' v=>
  ∃ v0,hs'=[]∧v=tupV [v0]∧v0=.int .i64 r
def M.spec_l6Kinds (a0:spec_l6Use) (b:spec_l6Use):Option (Int):=do
 let y←M.spec_l6Has b.reads a0.write
 let n0←(do
   if y then
    pure (W (0 + 1))
   else
    pure (id 0)
     : Option Int)
 let y1←M.spec_l6Has a0.reads b.write
 let n01←(do
   if y1 then
    pure (W (n0 + 2))
   else
    pure (id n0)
     : Option Int)
 let n02←(do
   if (a0.write == b.write) then
    pure (W (n01 + 4))
   else
    pure (id n01)
     : Option Int)
 pure (id n02)
theorem spec_l6Kinds_ok:∀ (a0:spec_l6Use) (b:spec_l6Use) r,M.spec_l6Kinds a0 b=some r→∀ {imm:Imm}{p c p1 c1},(S4 imm p a0.reads c)→(S4 imm p1 b.reads c1)→Ret Tryz.prog 61 [vA [vS p a0.reads c,vI a0.write],vA [vS p1 b.reads c1,vI b.write]] imm [] (spec_l6Kinds_post  r):=by
 intro a0 b r hM imm p c p1 c1 h h1;unfold M.spec_l6Kinds at hM;refine yG (fn:=Tryz.f61) (c:=(bodyOf Tryz.f61)) Tryz.func61 rfl rfl ?_;rintro B - -;have hle:=iS imm;refine zF<|zB<|tR [vS p a0.reads c,vI a0.write] ?_;intro b1 hb;refine tR [vS p1 b.reads c1,vI b.write] ?_;intro b2 hb1;refine yA [] []<|zE<|zF<|zB<|yA [] [(5,vI 0)]<|zE<|zF<|zF<|zB<|yK 4 [0,1] [(7,vS p1 b.reads c1),(9,vI a0.write)] ?_;obtain ⟨y,hy,hM⟩:=zC hM;refine yR (spec_l6Has_ok b.reads a0.write _ hy h1) ?_;rintro imm0 hs2 v2 k2 le - ⟨v0,rfl,rfl,rfl⟩ -;have h:=h.mono le;have hle:=hle.trans le;refine yN rfl<|zE ?_;obtain ⟨o0,ho0,hMc⟩:=zC hM;refine yU (fun imm' hs' m'=>∃ (n0:Int),o0=n0∧imm0.le imm'∧hs'=[hB b2 [vS p1 b.reads c1,vI b.write],hB b1 [vS p a0.reads c,vI a0.write]]∧m'=[(2,vP b1 0),(3,vP b2 0),(5,vI n0)]) ?_ ?_
 · have hle:=iS imm0;refine yO ho0 ?_ ?_
   · intro hc hM;exact zB<|yA [] [(5,vI (W (0 + 1)))]<|yT [(2,vP b1 0),(3,vP b2 0),(5,vI (W (0 + 1)))]<|yB ⟨_,(zD hM).symm,hle,rfl,rfl⟩
   intro hc hM;exact yE<|yT [(2,vP b1 0),(3,vP b2 0),(5,vI 0)]<|yB ⟨_,(zD hM).symm,hle,rfl,rfl⟩
 rintro imm01 hs2 m2 ⟨n0,heq,le1,rfl,rfl⟩;subst o0;have h:=h.mono le1;have hle:=hle.trans le1;refine zE<|zF<|zF<|zB<|yK 4 [1,0] [(14,vS p a0.reads c),(16,vI b.write)] ?_;obtain ⟨y1,hy1,hM⟩:=zC hMc;refine yR (spec_l6Has_ok a0.reads b.write _ hy1 h) ?_;rintro imm02 hs2 v2 k2 le2 - ⟨v01,rfl,rfl,rfl⟩ -;have hle:=hle.trans le2;refine yN rfl<|zE ?_;obtain ⟨o01,ho01,hMc1⟩:=zC hM;refine yU (fun imm' hs' m'=>∃ (n01:Int),o01=n01∧imm02.le imm'∧hs'=[hB b2 [vS p1 b.reads c1,vI b.write],hB b1 [vS p a0.reads c,vI a0.write]]∧m'=[(2,vP b1 0),(3,vP b2 0),(5,vI n01)]) ?_ ?_
 · have hle:=iS imm02;refine yO ho01 ?_ ?_
   · intro hc1 hM;exact zB<|yA [] [(5,vI (W (n0 + 2)))]<|yT [(2,vP b1 0),(3,vP b2 0),(5,vI (W (n0 + 2)))]<|yB ⟨_,(zD hM).symm,hle,rfl,rfl⟩
   intro hc1 hM;exact yE<|yT [(2,vP b1 0),(3,vP b2 0),(5,vI n0)]<|yB ⟨_,(zD hM).symm,hle,rfl,rfl⟩
 rintro imm03 hs2 m2 ⟨n01,heq1,le3,rfl,rfl⟩;subst o01;have hle:=hle.trans le3;refine zE<|zF<|zF<|zB<|yA [1,0] [(24,.bool (a0.write == b.write))]<|zE ?_;obtain ⟨o02,ho02,hMc2⟩:=zC hMc1;refine yU (fun imm' hs' m'=>∃ (n02:Int),o02=n02∧imm03.le imm'∧hs'=[]∧m'=[(5,vI n02)]) ?_ ?_
 · have hle:=iS imm03;refine yO ho02 ?_ ?_
   · intro hc2 hM;exact zB<|yA [] [(5,vI (W (n01 + 4)))]<|wD (zK [] rfl (by decide))<|yT [(5,vI (W (n01 + 4)))]<|yB ⟨_,(zD hM).symm,hle,rfl,rfl⟩
   intro hc2 hM;exact yE<|wD (zK [] rfl (by decide))<|yT [(5,vI n01)]<|yB ⟨_,(zD hM).symm,hle,rfl,rfl⟩
 rintro imm04 hs2 m2 ⟨n02,heq2,le4,rfl,rfl⟩;subst o02;refine zE<|zF<|zB<|yA [] [(4,vI n02)]<|zE<|yJ ?_;obtain rfl:=zD hMc2;exact yQ ⟨_,_,(.tmp rfl ResV.nil),zX,⟨_,rfl,rfl,rfl⟩⟩
end Go.LN
namespace Go.LN
open Go.Proofs
set_option maxRecDepth 20000
def spec_l6Deps_post (r:(List impl_Dep)):KT:=fun kk imm' hs' v=>
  ∃ v0,hs'=[]∧v=tupV [v0]∧SL imm' v0 r
def M.spec_l6Deps_l2 (y:(List spec_l6Use)) (i:Int) (out2:List impl_Dep) (k0:Int):Option (List impl_Dep):=do
 if (decide (k0 < (y.length:Int))) then
  let x←idx y i
  let x1←idx y k0
  let y1←M.spec_l6Kinds x x1
  let out4←(do
    if (y1 != 0) then
     let out5←app 24 out2 ([(impl_Dep.mk i k0 y1)]:List impl_Dep)
     pure (id out5)
    else
     pure (id out2)
      : Option (List impl_Dep))
  M.spec_l6Deps_l2 y i out4 (W (k0 + 1))
 else
  pure (id out2)
 partial_fixpoint
theorem spec_l6Deps_l2_ok (y:(List spec_l6Use)) (i:Int):∀ (out2:List impl_Dep) (k0:Int) (o:List impl_Dep),M.spec_l6Deps_l2 y i out2 k0=some o→∀ {B}{imm0 imm:Imm}{Q p3 c2 p6 c5 cs2},imm0.le imm→(S4 imm p3 y c2)→(RL imm cs2 out2)→(∀ gl a w,¬Q (.goto gl) a w)→(∀ a w,¬Q .outgrown a w)→(∀ (imm':Imm) (out3:List impl_Dep) (p7:Option Addr) (c6:Nat) (cs3:List Value),o=out3→imm0.le imm'→(RL imm' cs3 out3)→T 44 B Q (.exit 2) imm' [hO impl_Dep (vS p7 out3 c6) cs3] [(3,vS p7 out3 c6),(4,vS p3 y c2),(5,vI i)])→J Tryz.prog 44 B (nav (bodyOf Tryz.f60) [1,1,1,0,1,0,0,1,0,0,1,0]) Q imm [hO impl_Dep (vS p6 out2 c5) cs2] [(3,vS p6 out2 c5),(4,vS p3 y c2),(5,vI i),(6,vI k0)]:=by
 refine M.spec_l6Deps_l2.partial_correctness y i _ ?_;intro self ih out2 k0 o hM B imm0 imm Q p3 c2 p6 c5 cs2 hle h3 h6 hg ho hx;refine xC hg ho<|zF<|zF<|zB<|yA [] [(22,.bool (decide (k0 < (y.length:Int))))]<|zE<|yO hM ?_ ?_
 · intro hc1 hM;refine yE<|zE<|zF<|yC<|zF ?_;obtain ⟨x,hy1,hM⟩:=zC hM;obtain ⟨x1,hy2,hM⟩:=zC hM;obtain ⟨y1,hy3,hM⟩:=zC hM;refine uA [.p (vS p3 y c2) [],.p (vI i) [],.x (fun imm' v hx=>∃ ad p8 c7,v=.pointer (some ad)∧hx=[]∧(At imm' ad [vS p8 x.reads c7,vI x.write])∧(S4 imm' p8 x.reads c7)),.x (fun imm' v hx=>∃ p81 c71,v=vA [vS p81 x.reads c71,vI x.write]∧hx=[]∧(S4 imm' p81 x.reads c71)),.p (vS p3 y c2) [],.p (vI k0) [],.x (fun imm' v hx=>∃ ad1 p9 c8,v=.pointer (some ad1)∧hx=[]∧(At imm' ad1 [vS p9 x1.reads c8,vI x1.write])∧(S4 imm' p9 x1.reads c8)),.x (fun imm' v hx=>∃ p91 c81,v=vA [vS p91 x1.reads c81,vI x1.write]∧hx=[]∧(S4 imm' p91 x1.reads c81)),.q (vI y1)] [[],[],[(0,false),(1,false)],[(2,false)],[],[],[(4,false),(5,false)],[(6,false)],[(3,false),(7,false)]] [hO impl_Dep (vS p6 out2 c5) cs2] [] [(8,false)] (zK [0] rfl (by decide)) ?_ ?_
   · refine Op<|Op<|Ox ?_<|Ox ?_<|Op<|Op<|Ox ?_<|Ox ?_<|Oq ?_<|On
     · intro imm1 hf le1;refine zG ?_;rintro _ _ ⟨rfl,rfl⟩;refine zG ?_;rintro _ _ ⟨rfl,rfl⟩;refine zN<|yH [(25,vS p3 y c2),(26,vI i)] ?_;have hle:=iS imm1;have h3:=h3.mono le1;refine wJ rfl rfl h3 hy1 ?_;intro ad ccs hat hrep;obtain ⟨v01,rfl,h8⟩:=spec_l6Use_open hrep;obtain ⟨p8,c7,rfl⟩:=h8.form;exact zZ (hx:=[]) rfl hle rfl (zM rfl) ⟨_,_,_,rfl,rfl,hat,h8⟩
     · intro imm1 hf le1;refine zG ?_;rintro _ _ ⟨ad,p8,c7,rfl,rfl,hat,h8⟩;refine zN<|yH [(27,.pointer (some ad))] ?_;have hle:=iS imm1;exact xS 0 hat [vS p8 x.reads c7,vI x.write] (vA [vS p8 x.reads c7,vI x.write]) rfl<|zZ (hx:=[]) rfl hle rfl (zM rfl) ⟨_,_,rfl,rfl,h8⟩
     · intro imm1 hf le1;refine zG ?_;rintro _ _ ⟨rfl,rfl⟩;refine zG ?_;rintro _ _ ⟨rfl,rfl⟩;refine zN<|yH [(29,vS p3 y c2),(30,vI k0)] ?_;have hle:=iS imm1;have h3:=h3.mono le1;refine wJ rfl rfl h3 hy2 ?_;intro ad1 ccs1 hat1 hrep1;obtain ⟨v02,rfl,h9⟩:=spec_l6Use_open hrep1;obtain ⟨p9,c8,rfl⟩:=h9.form;exact zZ (hx:=[]) rfl hle rfl (zM rfl) ⟨_,_,_,rfl,rfl,hat1,h9⟩
     · intro imm1 hf le1;refine zG ?_;rintro _ _ ⟨ad1,p9,c8,rfl,rfl,hat1,h9⟩;refine zN<|yH [(31,.pointer (some ad1))] ?_;have hle:=iS imm1;exact xS 0 hat1 [vS p9 x1.reads c8,vI x1.write] (vA [vS p9 x1.reads c8,vI x1.write]) rfl<|zZ (hx:=[]) rfl hle rfl (zM rfl) ⟨_,_,rfl,rfl,h9⟩
     intro imm1 hf le1;refine zG ?_;rintro _ _ ⟨p81,c71,rfl,rfl,h81⟩;refine zG ?_;rintro _ _ ⟨p91,c81,rfl,rfl,h91⟩;refine zN<|yH [(28,vA [vS p81 x.reads c71,vI x.write]),(32,vA [vS p91 x1.reads c81,vI x1.write])] ?_;have hle:=iS imm1;refine yR (spec_l6Kinds_ok x x1 _ hy3 h81 h91) ?_;rintro imm01 hs2 v2 k2 le1 - ⟨v03,rfl,rfl,rfl⟩ -;have hle:=hle.trans le1;exact zZ (hx:=[]) rfl hle rfl (zM rfl) ⟨rfl,rfl⟩
   intro imm02 le2;refine zG ?_;rintro _ _ ⟨rfl,rfl⟩;refine zN<|yH [(3,vS p6 out2 c5),(4,vS p3 y c2),(5,vI i),(6,vI k0),(33,vI y1)] ?_;have h6:=iM le2 h6;have h3:=h3.mono le2;have hle:=hle.trans le2;refine yA [] [(7,vI y1)]<|zE<|zF<|zB<|yA [] [(35,.bool (y1 != 0))]<|zE ?_;obtain ⟨o0,ho0,hMc⟩:=zC hM;refine yU (fun imm' hs' m'=>∃ (out4:List impl_Dep) (p10:Option Addr) (c9:Nat) (cs4:List Value),o0=out4∧imm02.le imm'∧(RL imm' cs4 out4)∧hs'=[hO impl_Dep (vS p10 out4 c9) cs4]∧m'=[(3,vS p10 out4 c9),(4,vS p3 y c2),(5,vI i),(6,vI k0)]) ?_ ?_
   · have hle:=iS imm02;refine yO ho0 ?_ ?_
     · intro hc2 hM;refine zB<|yK 5 [] [(36,vS p6 out2 c5),(40,vA [vI i,vI k0,vI y1])]<|xQ [vI i,vI k0,vI y1] impl_Dep ?_;intro b2 hb2;have h12:RL imm02 [vI i,vI k0,vI y1] ([(impl_Dep.mk i k0 y1)]:List impl_Dep):=⟨[vI i,vI k0,vI y1],_,rfl,rfl,(impl_Dep_shut rfl),rfl⟩;obtain ⟨out5,hy4,hM⟩:=zC hM;refine qI 49 3 1 rfl rfl rfl h6 (.inr ⟨0,rfl⟩) h12 hy4 ?_;intro p11 c10 cs5 h13;exact rX (zK [1] (hs':=[hO impl_Dep (vS p11 out5 c10) cs5]) rfl (by decide))<|yA [] [(3,vS p11 out5 c10)]<|yT [(3,vS p11 out5 c10),(4,vS p3 y c2),(5,vI i),(6,vI k0)]<|yB ⟨_,_,_,_,(zD hM).symm,hle,h13,rfl,rfl⟩
     intro hc2 hM;exact yE<|yT [(3,vS p6 out2 c5),(4,vS p3 y c2),(5,vI i),(6,vI k0)]<|yB ⟨_,_,_,_,(zD hM).symm,hle,h6,rfl,rfl⟩
   rintro imm03 hs2 m2 ⟨out4,p10,c9,cs4,heq,le3,h11,rfl,rfl⟩;subst o0;have h3:=h3.mono le3;have hle:=hle.trans le3;exact zY<|zE<|zB<|yA [] [(6,vI (W (k0 + 1)))]<|xD<|vQ [(3,vS p10 out4 c9),(4,vS p3 y c2),(5,vI i),(6,vI (W (k0 + 1)))]<|ih out4 (W (k0 + 1)) _ hMc hle h3 h11 hg ho hx
 intro hc1 hM;exact xA<|zS<|zS<|yT [(3,vS p6 out2 c5),(4,vS p3 y c2),(5,vI i)]<|hx _ _ _ _ _ (zD hM).symm hle h6
def M.spec_l6Deps_l1 (y:(List spec_l6Use)) (out:List impl_Dep) (i:Int):Option (List impl_Dep):=do
 if (decide (i < (y.length:Int))) then
  let out3←M.spec_l6Deps_l2 y i out (W (i + 1))
  M.spec_l6Deps_l1 y out3 (W (i + 1))
 else
  pure (id out)
 partial_fixpoint
theorem spec_l6Deps_l1_ok (y:(List spec_l6Use)):∀ (out:List impl_Dep) (i:Int) (o:List impl_Dep),M.spec_l6Deps_l1 y out i=some o→∀ {B}{imm0 imm:Imm}{Q p3 c2 p4 c3 cs},imm0.le imm→(S4 imm p3 y c2)→(RL imm cs out)→(∀ gl a w,¬Q (.goto gl) a w)→(∀ a w,¬Q .outgrown a w)→(∀ (imm':Imm) (out1:List impl_Dep) (p5:Option Addr) (c4:Nat) (cs1:List Value),o=out1→imm0.le imm'→(RL imm' cs1 out1)→T 44 B Q (.exit 0) imm' [hO impl_Dep (vS p5 out1 c4) cs1] [(3,vS p5 out1 c4)])→J Tryz.prog 44 B (nav (bodyOf Tryz.f60) [1,1,1,0,1,0]) Q imm [hO impl_Dep (vS p4 out c3) cs] [(3,vS p4 out c3),(4,vS p3 y c2),(5,vI i)]:=by
 refine M.spec_l6Deps_l1.partial_correctness y _ ?_;intro self ih out i o hM B imm0 imm Q p3 c2 p4 c3 cs hle h3 h4 hg ho hx;refine xC hg ho<|zF<|zF<|zB<|yA [] [(14,.bool (decide (i < (y.length:Int))))]<|zE<|yO hM ?_ ?_
 · intro hc hM;refine yE<|zE<|zF<|yC<|zF<|zB<|yA [] [(6,vI (W (i + 1)))]<|zE<|yC<|vQ [(3,vS p4 out c3),(4,vS p3 y c2),(5,vI i),(6,vI (W (i + 1)))] ?_;obtain ⟨o01,ho01,hMl⟩:=zC hM;refine spec_l6Deps_l2_ok y i out (W (i + 1)) o01 ho01 iR h3 h4 (fun _ _ _ h=>hg _ _ _ h) (fun _ _ h=>ho _ _ h) ?_;intro imm04 out3 p7 c6 cs3 heq1 le4 h7;subst o01;have h3:=h3.mono le4;have hle:=hle.trans le4;exact yD<|zY<|zE<|zB<|yA [] [(5,vI (W (i + 1)))]<|xD<|vQ [(3,vS p7 out3 c6),(4,vS p3 y c2),(5,vI (W (i + 1)))]<|ih out3 (W (i + 1)) _ hMl hle h3 h7 hg ho hx
 intro hc hM;exact xA<|zS<|zS<|yT [(3,vS p4 out c3)]<|hx _ _ _ _ _ (zD hM).symm hle h4
def M.spec_l6Deps (p:zV):Option ((List impl_Dep)):=do
 let y←M.spec_l6Uses p
 let out1←M.spec_l6Deps_l1 y ([]:List impl_Dep) 0
 pure (id out1)
theorem spec_l6Deps_ok:∀ (p:zV) r,M.spec_l6Deps p=some r→∀ {imm:Imm}{p1 c p2 c1},(S4 imm p1 p.Arrays c)→(S4 imm p2 p.Parts c1)→Ret Tryz.prog 60 [vA (cProg p p1 c p2 c1)] imm [] (spec_l6Deps_post  r):=by
 intro p r hM imm p1 c p2 c1 h h1;unfold M.spec_l6Deps at hM;refine yG (fn:=Tryz.f60) (c:=(bodyOf Tryz.f60)) Tryz.func60 rfl rfl ?_;rintro B - -;refine zF<|zB<|tR (cProg p p1 c p2 c1) ?_;intro b hb;refine yA [] []<|zE<|zF<|zB<|xQ [] impl_Dep ?_;intro b1 hb1;have h2:RL imm [] ([]:List impl_Dep):=rfl;refine yA [] [(3,vS (some ⟨b1,0,none⟩) ([]:List impl_Dep) 0)]<|zE<|zF<|zB<|yK 1 [1] [(9,vA (cProg p p1 c p2 c1))] ?_;obtain ⟨y,hy,hM⟩:=zC hM;refine yR (spec_l6Uses_ok p _ hy h h1) ?_;rintro imm0 hs2 v2 k2 le - ⟨v0,rfl,rfl,h3⟩ -;have h2:=iM le h2;have h:=h.mono le;obtain ⟨p3,c2,rfl⟩:=h3.form;refine yA [] [(4,vS p3 y c2)]<|zE<|zF<|zF<|zB<|yA [] [(5,vI 0)]<|zE<|yC<|qA (zK [0] (hs':=[hO impl_Dep (vS (some ⟨b1,0,none⟩) ([]:List impl_Dep) 0) []]) rfl (by decide))<|vQ [(3,vS (some ⟨b1,0,none⟩) ([]:List impl_Dep) 0),(4,vS p3 y c2),(5,vI 0)] ?_;obtain ⟨o02,ho02,hMl1⟩:=zC hM;refine spec_l6Deps_l1_ok y ([]:List impl_Dep) 0 o02 ho02 iR h3 h2 (fun _ _ _ h=>h) (fun _ _ h=>h) ?_;intro imm05 out1 p5 c4 cs1 heq2 le5 h5;subst o02;refine yD<|zE<|zF<|zB<|yA [] [(2,vS p5 out1 c4)]<|zE<|yJ<|xI 0 rfl ?_;intro imm06 le6 hl0;have h14:=SL.of_frozen hl0 le6 h5;obtain rfl:=zD hMl1;exact yQ ⟨_,_,(.tmp rfl ResV.nil),zX,⟨_,rfl,rfl,h14⟩⟩
def spec_Dependences_post (r:(List impl_Dep)):KT:=fun kk imm' hs' v=>
  ∃ v0,hs'=[]∧v=tupV [v0]∧SL imm' v0 r
def M.spec_Dependences (p:zV):Option ((List impl_Dep)):=do
 let y←tK p
 if (!y) then
  pure ([]:List impl_Dep)
 else
  let y1←M.spec_l6Deps p
  pure (id y1)
theorem spec_Dependences_ok:∀ (p:zV) r,M.spec_Dependences p=some r→∀ {imm:Imm}{p1 c p2 c1},(S4 imm p1 p.Arrays c)→(S4 imm p2 p.Parts c1)→Ret Tryz.prog 29 [vA (cProg p p1 c p2 c1)] imm [] (spec_Dependences_post  r):=by
 intro p r hM imm p1 c p2 c1 h h1;unfold M.spec_Dependences at hM;refine yG (fn:=Tryz.f29) (c:=(bodyOf Tryz.f29)) Tryz.func29 rfl rfl ?_;rintro B - -;refine zF<|zB<|tR (cProg p p1 c p2 c1) ?_;intro b hb;refine yA [] []<|zE<|zF<|zF<|zB<|yK 1 [0] [(3,vA (cProg p p1 c p2 c1))] ?_;obtain ⟨y,hy,hM⟩:=zC hM;refine yR (dT p _ hy h h1) ?_;rintro imm0 hs2 v2 k2 le - ⟨v0,rfl,rfl,rfl⟩ -;have h:=h.mono le;have h1:=h1.mono le;refine yA [] [(5,.bool (!y))]<|zE<|yO hM ?_ ?_
 · intro hc hM;refine zF<|zB<|xQ [] impl_Dep ?_;intro b1 hb1;have h3:RL imm0 [] ([]:List impl_Dep):=rfl;refine yA [] [(2,vS (some ⟨b1,0,none⟩) ([]:List impl_Dep) 0)]<|zE<|yJ<|zR<|xI 0 rfl ?_;intro imm01 le1 hl0;have h4:=SL.of_frozen hl0 le1 h3;obtain rfl:=zD hM;exact yQ ⟨_,_,(.tmp rfl ResV.nil),zX,⟨_,rfl,rfl,h4⟩⟩
 intro hc hM;refine yE<|zE<|zF<|zB<|yK 1 [0] [(7,vA (cProg p p1 c p2 c1))] ?_;obtain ⟨y1,hy1,hM⟩:=zC hM;refine yR (spec_l6Deps_ok p _ hy1 h h1) ?_;rintro imm02 hs2 v2 k2 le2 - ⟨v01,rfl,rfl,h5⟩ -;obtain ⟨p3,c2,rfl⟩:=h5.form;refine yA [] [(2,vS p3 y1 c2)]<|zE<|yJ ?_;obtain rfl:=zD hM;exact yQ ⟨_,_,(.tmp rfl ResV.nil),zX,⟨_,rfl,rfl,h5⟩⟩
def laws_FnDependences_post (r:Bool):KT:=fun kk imm' hs' v=>
  ∃ v0,hs'=[]∧v=tupV [v0]∧v0=.bool r
def M.laws_FnDependences_l2 (y:zV) (y1:(List impl_Dep)) (y4:(List zT)) (i:Int) (at02:Int) (k0:Int):Option (Out Int (Bool)):=do
 if (decide (k0 < (y4.length:Int))) then
  let y5←M.impl_DepBetween y i k0
  match←(do
    if (y5 != 0) then
     let t61←(do
       if (decide (at02 ≥ (y1.length:Int))) then
        pure true
       else
        let x←idx y1 at02
        pure (!(x.From == i && (x.To == k0 && x.Kinds == y5)))
         : Option Bool)
     if t61 then
      pure (.ret false)
     else
      pure (.done (W (at02 + 1)))
    else
     pure (.done at02)
      : Option (Out Int (Bool))) with
  | .ret r0=>pure (.ret r0)
  | .done at04 =>
   M.laws_FnDependences_l2 y y1 y4 i at04 (W (k0 + 1))
 else
  pure (.done at02)
 partial_fixpoint
theorem laws_FnDependences_l2_ok (y:zV) (y1:(List impl_Dep)) (y4:(List zT)) (i:Int):∀ (at02:Int) (k0:Int) (o:Out Int (Bool)),M.laws_FnDependences_l2 y y1 y4 i at02 k0=some o→∀ {B}{imm0 imm:Imm}{Q p1 c1 p2 c2}{b:Nat}{p3 c3},imm0.le imm→(S4 imm p3 y1 c3)→(S4 imm p1 y.Arrays c1)→(S4 imm p2 y.Parts c2)→(∀ gl a w,¬Q (.goto gl) a w)→(∀ a w,¬Q .outgrown a w)→(∀ (imm':Imm) (at03:Int),o=(.done at03)→imm0.le imm'→T 72 B Q (.exit 2) imm' [hB b (cProg y p1 c1 p2 c2)] [(3,vP b 0),(4,vS p3 y1 c3),(5,vI (y4.length:Int)),(6,vI at03),(7,vI i)])→(∀ r imm' hs' m',o=(.ret r)→imm0.le imm'→RS Tryz.prog Tryz.f7 B (laws_FnDependences_post  r) imm' hs' m'→T 72 B Q .ret imm' hs' m')→J Tryz.prog 72 B (nav (bodyOf Tryz.f7) [1,1,1,1,1,1,1,0,1,0,0,1,0,0,1,0]) Q imm [hB b (cProg y p1 c1 p2 c2)] [(3,vP b 0),(4,vS p3 y1 c3),(5,vI (y4.length:Int)),(6,vI at02),(7,vI i),(8,vI k0)]:=by
 refine M.laws_FnDependences_l2.partial_correctness y y1 y4 i _ ?_;intro self ih at02 k0 o hM B imm0 imm Q p1 c1 p2 c2 b p3 c3 hle h4 h2 h3 hg ho hx hr;refine xC hg ho<|zF<|zF<|zB<|yA [] [(38,.bool (decide (k0 < (y4.length:Int))))]<|zE<|yO hM ?_ ?_
 · intro hc4 hM;refine yE<|zE<|zF<|yC<|zF<|zB<|yK 3 [0] [(41,vA (cProg y p1 c1 p2 c2)),(42,vI i),(43,vI k0)] ?_;obtain ⟨y5,hy5,hM⟩:=zC hM;refine yR (impl_DepBetween_ok y i k0 _ hy5 h2 h3) ?_;rintro imm06 hs2 v2 k2 le6 - ⟨v07,rfl,rfl,rfl⟩ -;have h4:=h4.mono le6;have h2:=h2.mono le6;have h3:=h3.mono le6;have hle:=hle.trans le6;refine yA [] [(9,vI y5)]<|zE<|zF<|zB<|yA [] [(46,.bool (y5 != 0))]<|zE ?_;obtain ⟨o01,ho01,hMc1⟩:=zC hM;refine yU (fun imm' hs' m'=>∃ (at04:Int),o01=.done at04∧imm06.le imm'∧hs'=[hB b (cProg y p1 c1 p2 c2)]∧m'=[(3,vP b 0),(4,vS p3 y1 c3),(5,vI (y4.length:Int)),(6,vI at04),(7,vI i),(8,vI k0)]) ?_ ?_
   · have hle01:=hle;have hle:=iS imm06;refine yO ho01 ?_ ?_
     · intro hc5 hM;refine zF<|zF ?_;obtain ⟨o02,ho02,hMc2⟩:=zC hM;refine yU (fun imm' hs' m'=>∃ (t61:Bool),o02=t61∧imm06.le imm'∧hs'=[hB b (cProg y p1 c1 p2 c2)]∧m'=[(3,vP b 0),(4,vS p3 y1 c3),(5,vI (y4.length:Int)),(6,vI at02),(7,vI i),(8,vI k0),(61,.bool t61)]) ?_ ?_
       · have hle:=iS imm06;refine zB<|yK 5 [] [(51,.bool (decide (at02 ≥ (y1.length:Int))))] ?_;cases hc6:(decide (at02 ≥ (y1.length:Int))) with
         | true =>
          have hM02:=zW hc6 ho02
          try rw [hc6]
          exact yA [] [(61,.bool true)]<|yT [(3,vP b 0),(4,vS p3 y1 c3),(5,vI (y4.length:Int)),(6,vI at02),(7,vI i),(8,vI k0),(61,.bool true)]<|yB ⟨_,(zD hM02).symm,hle,rfl,rfl⟩
         | false =>
          have hM03:=zU hc6 ho02
          try rw [hc6]
          refine yK 7 [] [(52,vS p3 y1 c3),(53,vI at02)] ?_;obtain ⟨x,hy6,hM⟩:=zC hM03;refine wJ rfl rfl h4 hy6 ?_;intro ad ccs hat hrep;obtain rfl:=impl_Dep_open hrep;exact xS 0 hat [vI x.From,vI x.To,vI x.Kinds] (vA [vI x.From,vI x.To,vI x.Kinds]) rfl<|yK 13 [] [(59,vA [vI i,vI k0,vI y5])]<|R_n3 (a:=x.From) (b:=x.To) (c:=x.Kinds) (a':=i) (b':=k0) (c':=y5) rfl<|yA [] [(61,.bool (!(x.From == i && (x.To == k0 && x.Kinds == y5))))]<|yT [(3,vP b 0),(4,vS p3 y1 c3),(5,vI (y4.length:Int)),(6,vI at02),(7,vI i),(8,vI k0),(61,.bool (!(x.From == i && (x.To == k0 && x.Kinds == y5))))]<|yB ⟨_,(zD hM).symm,hle,rfl,rfl⟩
       rintro imm08 hs2 m2 ⟨t61,heq1,le7,rfl,rfl⟩;subst o02;have hle:=hle.trans le7;refine zE<|yO hMc2 ?_ ?_
       · intro hc7 hM;refine zF<|zB<|yA [] [(2,.bool false)]<|zE<|yJ<|zR<|zR<|yF<|zR<|zR ?_;obtain rfl:=zD hM;exact hr _ _ _ _ (zD hMc1).symm (hle01.trans hle) ⟨_,_,(.tmp rfl ResV.nil),zX,⟨_,rfl,rfl,rfl⟩⟩
       intro hc7 hM;exact yE<|zE<|zB<|yA [] [(6,vI (W (at02 + 1)))]<|yT [(3,vP b 0),(4,vS p3 y1 c3),(5,vI (y4.length:Int)),(6,vI (W (at02 + 1))),(7,vI i),(8,vI k0)]<|yB ⟨_,(zD hM).symm,hle,rfl,rfl⟩
     intro hc5 hM;exact yE<|yT [(3,vP b 0),(4,vS p3 y1 c3),(5,vI (y4.length:Int)),(6,vI at02),(7,vI i),(8,vI k0)]<|yB ⟨_,(zD hM).symm,hle,rfl,rfl⟩
   rintro imm07 hs2 m2 ⟨at04,heq2,le8,rfl,rfl⟩;subst o01;have h4:=h4.mono le8;have h2:=h2.mono le8;have h3:=h3.mono le8;have hle:=hle.trans le8;exact zY<|zE<|zB<|yA [] [(8,vI (W (k0 + 1)))]<|xD<|vQ [(3,vP b 0),(4,vS p3 y1 c3),(5,vI (y4.length:Int)),(6,vI at04),(7,vI i),(8,vI (W (k0 + 1)))]<|ih at04 (W (k0 + 1)) _ hMc1 hle h4 h2 h3 hg ho hx hr
 intro hc4 hM;exact xA<|zS<|zS<|yT [(3,vP b 0),(4,vS p3 y1 c3),(5,vI (y4.length:Int)),(6,vI at02),(7,vI i)]<|hx _ _ (zD hM).symm hle
def M.laws_FnDependences_l1 (y:zV) (y1:(List impl_Dep)) (y4:(List zT)) (at0:Int) (i:Int):Option (Out Int (Bool)):=do
 let t31←(do
   if (decide (i < (y4.length:Int))) then
    pure (decide ((y4.length:Int) ≤ 40))
   else
    pure false
     : Option Bool)
 if t31 then
  match←M.laws_FnDependences_l2 y y1 y4 i at0 (W (i + 1)) with
  | .ret r0=>pure (.ret r0)
  | .done at03 =>
   M.laws_FnDependences_l1 y y1 y4 at03 (W (i + 1))
 else
  pure (.done at0)
 partial_fixpoint
theorem laws_FnDependences_l1_ok (y:zV) (y1:(List impl_Dep)) (y4:(List zT)):∀ (at0:Int) (i:Int) (o:Out Int (Bool)),M.laws_FnDependences_l1 y y1 y4 at0 i=some o→∀ {B}{imm0 imm:Imm}{Q p1 c1 p2 c2}{b:Nat}{p3 c3},imm0.le imm→(S4 imm p3 y1 c3)→(S4 imm p1 y.Arrays c1)→(S4 imm p2 y.Parts c2)→(∀ gl a w,¬Q (.goto gl) a w)→(∀ a w,¬Q .outgrown a w)→(∀ (imm':Imm) (at01:Int),o=(.done at01)→imm0.le imm'→T 72 B Q (.exit 0) imm' [] [(4,vS p3 y1 c3),(5,vI (y4.length:Int)),(6,vI at01)])→(∀ r imm' hs' m',o=(.ret r)→imm0.le imm'→RS Tryz.prog Tryz.f7 B (laws_FnDependences_post  r) imm' hs' m'→T 72 B Q .ret imm' hs' m')→J Tryz.prog 72 B (nav (bodyOf Tryz.f7) [1,1,1,1,1,1,1,0,1,0]) Q imm [hB b (cProg y p1 c1 p2 c2)] [(3,vP b 0),(4,vS p3 y1 c3),(5,vI (y4.length:Int)),(6,vI at0),(7,vI i)]:=by
 refine M.laws_FnDependences_l1.partial_correctness y y1 y4 _ ?_;intro self ih at0 i o hM B imm0 imm Q p1 c1 p2 c2 b p3 c3 hle h4 h2 h3 hg ho hx hr;refine xC hg ho<|zF<|zF ?_;obtain ⟨o0,ho0,hMc⟩:=zC hM;refine yU (fun imm' hs' m'=>∃ (t31:Bool),o0=t31∧imm.le imm'∧hs'=[hB b (cProg y p1 c1 p2 c2)]∧m'=[(3,vP b 0),(4,vS p3 y1 c3),(5,vI (y4.length:Int)),(6,vI at0),(7,vI i),(31,.bool t31)]) ?_ ?_
 · have hle:=iS imm;refine zB<|yK 4 [] [(28,.bool (decide (i < (y4.length:Int))))] ?_;cases hc2:(decide (i < (y4.length:Int))) with
   | true =>
    have hM0:=zW hc2 ho0
    try rw [hc2]
    exact yA [] [(31,.bool (decide ((y4.length:Int) ≤ 40)))]<|yT [(3,vP b 0),(4,vS p3 y1 c3),(5,vI (y4.length:Int)),(6,vI at0),(7,vI i),(31,.bool (decide ((y4.length:Int) ≤ 40)))]<|yB ⟨_,(zD hM0).symm,hle,rfl,rfl⟩
   | false =>
    have hM01:=zU hc2 ho0
    try rw [hc2]
    exact yA [] [(31,.bool false)]<|yT [(3,vP b 0),(4,vS p3 y1 c3),(5,vI (y4.length:Int)),(6,vI at0),(7,vI i),(31,.bool false)]<|yB ⟨_,(zD hM01).symm,hle,rfl,rfl⟩
 rintro imm05 hs2 m2 ⟨t31,heq,le5,rfl,rfl⟩;subst o0;have h4:=h4.mono le5;have h2:=h2.mono le5;have h3:=h3.mono le5;have hle:=hle.trans le5;refine zE<|yO hMc ?_ ?_
 · intro hc3 hM;refine yE<|zE<|zF<|yC<|zF<|zB<|yA [] [(8,vI (W (i + 1)))]<|zE<|yC<|vQ [(3,vP b 0),(4,vS p3 y1 c3),(5,vI (y4.length:Int)),(6,vI at0),(7,vI i),(8,vI (W (i + 1)))] ?_;obtain ⟨o03,ho03,hMl⟩:=zC hM;refine laws_FnDependences_l2_ok y y1 y4 i at0 (W (i + 1)) o03 ho03 iR h4 h2 h3 (fun _ _ _ h=>hg _ _ _ h) (fun _ _ h=>ho _ _ h) ?_ ?_
   · intro imm09 at03 heq3 le9;subst o03;have h4:=h4.mono le9;have h2:=h2.mono le9;have h3:=h3.mono le9;have hle:=hle.trans le9;exact yD<|zY<|zE<|zB<|yA [] [(7,vI (W (i + 1)))]<|xD<|vQ [(3,vP b 0),(4,vS p3 y1 c3),(5,vI (y4.length:Int)),(6,vI at03),(7,vI (W (i + 1)))]<|ih at03 (W (i + 1)) _ hMl hle h4 h2 h3 hg ho hx hr
   intro r0 imm9 hs9 m9 heq9 le9 hrs9;subst heq9;exact yF<|yF<|zR<|zR<|hr _ _ _ _ (zD hMl).symm (hle.trans le9) hrs9
 intro hc3 hM;exact xA<|zS<|zS<|wD (zK [] rfl (by decide))<|yT [(4,vS p3 y1 c3),(5,vI (y4.length:Int)),(6,vI at0)]<|hx _ _ (zD hM).symm hle
def M.laws_FnDependences (code:(List UInt8)):Option (Bool):=do
 if (decide ((code.length:Int) > 1048576)) then
  pure true
 else
  let y←M.spec_DrawDependences code
  let y1←M.impl_Dependences y
  let y2←M.spec_Dependences y
  let y3←M.laws_lnDeps y1 y2
  if (!y3) then
   pure false
  else
   let y4←M.impl_ProgramInstances y
   match←M.laws_FnDependences_l1 y y1 y4 0 0 with
   | .ret r0=>pure r0
   | .done at01 =>
    let t2←(do
      if (decide ((y4.length:Int) > 40)) then
       pure true
      else
       pure (at01 == (y1.length:Int))
        : Option Bool)
    pure (id t2)
theorem laws_FnDependences_ok:∀ (code:(List UInt8)) r,M.laws_FnDependences code=some r→∀ {imm:Imm}{p c},(S4 imm p code c)→Ret Tryz.prog 7 [vS p code c] imm [] (laws_FnDependences_post  r):=by
 intro code r hM imm p c h;unfold M.laws_FnDependences at hM;refine yG (fn:=Tryz.f7) (c:=(bodyOf Tryz.f7)) Tryz.func7 rfl rfl ?_;rintro B - -;have hle:=iS imm;refine zF<|zB<|yA [] []<|zE<|zF<|zF<|zB<|yA [] [(12,.bool (decide ((code.length:Int) > 1048576)))]<|zE<|yO hM ?_ ?_
 · intro hc hM;refine zF<|zB<|yA [] [(2,.bool true)]<|zE<|yJ<|zR ?_;obtain rfl:=zD hM;exact yQ ⟨_,_,(.tmp rfl ResV.nil),zX,⟨_,rfl,rfl,rfl⟩⟩
 intro hc hM;refine yE<|zE<|zF<|zB<|yK 1 [] [(13,vS p code c)] ?_;obtain ⟨y,hy,hM⟩:=zC hM;refine yR (spec_DrawDependences_ok code _ hy h) ?_;rintro imm0 hs2 v2 k2 le - ⟨v0,rfl,rfl,⟨cs,rfl,h1⟩⟩ -;have hle:=hle.trans le;obtain ⟨v01,v02,rfl,h2,h3⟩:=zG6 h1;obtain ⟨p1,c1,rfl⟩:=h2.form;obtain ⟨p2,c2,rfl⟩:=h3.form;refine uD zTwo ?_;intro b hb;refine xJ 0 (cProg y p1 c1 p2 c2) [hB b (cProg y p1 c1 p2 c2)] rfl rfl rfl rfl<|yN rfl<|zE<|zF<|zB<|yK 1 [0] [(15,vA (cProg y p1 c1 p2 c2))] ?_;obtain ⟨y1,hy1,hM⟩:=zC hM;refine yR (impl_Dependences_ok y _ hy1 h2 h3) ?_;rintro imm01 hs2 v2 k2 le1 - ⟨v03,rfl,rfl,h4⟩ -;have h2:=h2.mono le1;have h3:=h3.mono le1;have hle:=hle.trans le1;obtain ⟨p3,c3,rfl⟩:=h4.form;refine yA [] [(4,vS p3 y1 c3)]<|zE<|zF<|zF<|zB<|yK 2 [0] [(17,vS p3 y1 c3),(18,vA (cProg y p1 c1 p2 c2))] ?_;obtain ⟨y2,hy2,hM⟩:=zC hM;refine yR (spec_Dependences_ok y _ hy2 h2 h3) ?_;rintro imm02 hs2 v2 k2 le2 - ⟨v04,rfl,rfl,h5⟩ -;have h4:=h4.mono le2;have h2:=h2.mono le2;have h3:=h3.mono le2;have hle:=hle.trans le2;obtain ⟨p4,c4,rfl⟩:=h5.form;obtain ⟨y3,hy3,hM⟩:=zC hM;refine yR (laws_lnDeps_ok y1 y2 _ hy3 h4 h5) ?_;rintro imm03 hs2 v2 k2 le3 - ⟨v05,rfl,rfl,rfl⟩ -;have h4:=h4.mono le3;have h2:=h2.mono le3;have h3:=h3.mono le3;have hle:=hle.trans le3;refine yA [] [(21,.bool (!y3))]<|zE<|yO hM ?_ ?_
 · intro hc1 hM;refine zF<|zB<|yA [] [(2,.bool false)]<|zE<|yJ<|zR ?_;obtain rfl:=zD hM;exact yQ ⟨_,_,(.tmp rfl ResV.nil),zX,⟨_,rfl,rfl,rfl⟩⟩
 intro hc1 hM;refine yE<|zE<|zF<|zB<|yK 1 [0] [(22,vA (cProg y p1 c1 p2 c2))] ?_;obtain ⟨y4,hy4,hM⟩:=zC hM;refine yR (impl_ProgramInstances_ok y _ hy4 h2 h3) ?_;rintro imm04 hs2 v2 k2 le4 - ⟨v06,rfl,rfl,h7⟩ -;have h4:=h4.mono le4;have h2:=h2.mono le4;have h3:=h3.mono le4;have hle:=hle.trans le4;obtain ⟨p5,c5,rfl⟩:=h7.form;refine yA [] [(5,vI (y4.length:Int))]<|zE<|zF<|zB<|yA [] [(6,vI 0)]<|zE<|zF<|zF<|zB<|yA [] [(7,vI 0)]<|zE<|yC<|vQ [(3,vP b 0),(4,vS p3 y1 c3),(5,vI (y4.length:Int)),(6,vI 0),(7,vI 0)] ?_;obtain ⟨o04,ho04,hMl1⟩:=zC hM;refine laws_FnDependences_l1_ok y y1 y4 0 0 o04 ho04 iR h4 h2 h3 (fun _ _ _ h=>h) (fun _ _ h=>h) ?_ ?_
 · intro imm010 at01 heq4 le10;subst o04;have hle:=hle.trans le10;refine yD<|zE<|zF ?_;obtain ⟨o05,ho05,hMc3⟩:=zC hMl1;refine yU (fun imm' hs' m'=>∃ (t2:Bool),o05=t2∧imm010.le imm'∧hs'=[]∧m'=[(2,.bool t2)]) ?_ ?_
   · have hle:=iS imm010;refine zB<|yK 3 [] [(66,.bool (decide ((y4.length:Int) > 40)))] ?_;cases hc8:(decide ((y4.length:Int) > 40)) with
     | true =>
      have hM04:=zW hc8 ho05
      try rw [hc8]
      exact yA [] [(2,.bool true)]<|yT [(2,.bool true)]<|yB ⟨_,(zD hM04).symm,hle,rfl,rfl⟩
     | false =>
      have hM05:=zU hc8 ho05
      try rw [hc8]
      exact yA [] [(2,.bool (at01 == (y1.length:Int)))]<|yT [(2,.bool (at01 == (y1.length:Int)))]<|yB ⟨_,(zD hM05).symm,hle,rfl,rfl⟩
   rintro imm011 hs2 m2 ⟨t2,heq5,le11,rfl,rfl⟩;subst o05;refine zE<|yJ ?_;obtain rfl:=zD hMc3;exact yQ ⟨_,_,(.tmp rfl ResV.nil),zX,⟨_,rfl,rfl,rfl⟩⟩
 intro r0 imm9 hs9 m9 heq9 le9 hrs9;subst heq9;refine yF<|zR ?_;obtain rfl:=zD hMl1;exact yQ hrs9
end Go.LN
namespace Go.LN
theorem implInstP (P:zV) (h:BG P):M.impl_ProgramInstances P=some (if validP P then progI P else []):=by
  unfold M.impl_ProgramInstances validP;rw [implInstances P h];cases progB P with
  | false=>rfl
  | true=>cases hd:decide ((progI P).length ≤ 120) <;> simp [hd]
end Go.LN
namespace Go.LN
theorem drawProg (code:List UInt8):Ok (M.spec_DrawProgramValid code) (fun y=>BG y∧AR y.Arrays):=by
  unfold M.spec_DrawProgramValid;refine Ok.call (zIf code) trivial fun s hs=>Ok.call (zJE s) ⟨by omega,by omega⟩ fun a t g1 g2 g3=>?_;refine Ok.bind (mut4 t a g1.dp (by omega) (by omega)) fun p hp=>?_;obtain ⟨p1,p2⟩:=p;exact Ok.pure hp.1
end Go.LN
namespace Go.LN
def useI (P:zV) (z:zT):spec_l6Use:=⟨rdI P z,wrI P z⟩
theorem uses_l1 {P:zV} (hb:BG P) (hv:validP P=true):∀ (j i:Nat) (o:List spec_l6Use),i + j=(progI P).length→o.length=i→M.spec_l6Uses_l1 P (progI P) o (i:Int)=some (o ++ ((progI P).drop i).map (useI P)):=by
  have hlen:=(zCr hv).2.2.2;have hR:=zHr hb hv;intro j
  induction j with
  | zero =>
    intro i o hi ho;rw [M.spec_l6Uses_l1];have:¬((i:Int) < ((progI P).length:Int)):=by omega
    simp only [this,decide_false,Bool.false_eq_true,if_false,Option.pure_def,id];rw [List.drop_eq_nil_iff.2 (by omega),List.map_nil,List.append_nil]
  | succ j ih =>
    intro i o hi ho;rw [M.spec_l6Uses_l1];have hlt:i < (progI P).length:=by omega
    have hc:((i:Int) < ((progI P).length:Int)):=by omega
    have hz:=zJJ hb hv (List.getElem_mem hlt);obtain ⟨d,hd⟩:=hz.st;have hcl:=specCells P.Arrays (stI P (progI P)[i]) (progI P)[i].Point hd hz.bs hz.pt hR;rw [if_pos hz.ok] at hcl;simp only [hc,decide_true,if_true,yZ hlt,hz.idxP,hz.idxS,hcl,Option.bind_eq_bind,Option.bind_some,pD (show (o.length + [spec_l6Use.mk ((readsF 5 (stI P (progI P)[i]).Value).map (cellA P.Arrays (progI P)[i].Point)) (cellA P.Arrays (progI P)[i].Point (stI P (progI P)[i]).Write)].length) * 32 ≤ 140737488355328 by simp; omega)];rw [uY (by omega),ih (i + 1) _ (by omega) (by rw [List.length_append]; simp; omega),List.drop_eq_getElem_cons hlt,List.map_cons,List.append_assoc];rfl
theorem specUses (P:zV) (hb:BG P) (hv:validP P=true):M.spec_l6Uses P=some ((progI P).map (useI P)):=by
  unfold M.spec_l6Uses;have hl:=uses_l1 hb hv _ 0 [] (Nat.zero_add _) rfl;rw [Int.natCast_zero,List.drop_zero,List.nil_append] at hl;simp only [specInsts P hv,hl,Option.bind_eq_bind,Option.bind_some,Option.pure_def,id]
end Go.LN
namespace Go.LN
def hasB (l:List Int) (n:Int):Bool:=l.any (fun x=>x == n)
theorem hasB_cons (x:Int) (l:List Int) (n:Int):hasB (x::l) n=(x == n || hasB l n):=by unfold hasB; rw [List.any_cons]
def kindF (r1:List Int) (w1:Int) (r2:List Int) (w2:Int):Int:=(if hasB r2 w1 then 1 else 0) + (if hasB r1 w2 then 2 else 0) + (if w1 == w2 then 4 else 0)
theorem kindF_rng (r1:List Int) (w1:Int) (r2:List Int) (w2:Int):0 ≤ kindF r1 w1 r2 w2∧kindF r1 w1 r2 w2 ≤ 7:=by
  unfold kindF;cases hasB r2 w1 <;> cases hasB r1 w2 <;> cases (w1 == w2) <;> simp
theorem loop_any {R:Type}{r0:R}{n:Nat}{f:Int→Option (Out Unit R)}{P:Nat→Bool} (step:∀ i,i < n→f (i:Int)=if P i then some (.ret r0) else f ((i + 1:Nat):Int)) (fin:f (n:Int)=some (.done ())):f 0=some (if (List.range n).any P then .ret r0 else .done ()):=by
  have key:∀ (j i:Nat),i + j=n→f (i:Int)=some (if (List.range' i j).any P then .ret r0 else .done ()):=by
    intro j
    induction j with
    | zero=>intro i hi; rw [show i=n by omega,fin]; simp
    | succ j ih =>
      intro i hi;rw [step i (by omega),ih (i + 1) (by omega),List.range'_succ,List.any_cons];cases P i <;> rfl
  have:=key n 0 (Nat.zero_add _);rw [Int.natCast_zero] at this;rw [this,List.range_eq_range']
theorem any_range {α:Type} (l:List α) (P:α→Bool) (d:α):(List.range l.length).any (fun i=>P (l.getD i d))=l.any P:=by
  rw [Bool.eq_iff_iff,List.any_eq_true,List.any_eq_true];constructor
  · rintro ⟨i,hi,h⟩;have hi:=List.mem_range.1 hi;have hg:l.getD i d=l[i]:=by simp [hi]
    rw [hg] at h;exact ⟨_,List.getElem_mem hi,h⟩
  · rintro ⟨x,hx,h⟩;obtain ⟨i,hi,rfl⟩:=List.mem_iff_getElem.1 hx;exact ⟨i,List.mem_range.2 hi,by simpa [hi] using h⟩
end Go.LN
namespace Go.LN
theorem specHas (l:List Int) (n:Int) (hl:l.length ≤ 1048576):M.spec_l6Has l n=some (hasB l n):=by
  unfold M.spec_l6Has;have h:=loop_any (R:=Bool) (r0:=true) (n:=l.length) (f:=M.spec_l6Has_l1 l n) (P:=fun i=>l.getD i 0 == n) (fun i hi=>by
      rw [M.spec_l6Has_l1];have h1:((i:Int) < (l.length:Int)):=by omega
      have hg:l.getD i 0=l[i]:=by simp [hi]
      simp only [h1,decide_true,if_true,yZ hi,Option.bind_eq_bind,Option.bind_some,Option.pure_def,hg];rw [uY (by omega)]) (by rw [M.spec_l6Has_l1]; simp)
  rw [any_range l (fun x=>x == n) 0] at h;rw [h];unfold hasB;cases l.any fun x=>x == n <;> rfl
theorem index_l (l:List Int) (v:Int) (hl:l.length ≤ 1048576):∀ (j i:Nat),i + j=l.length→∃ x,M.slices_Index_int_int_l1 l v (i:Int)=some x∧((hasB (l.drop i) v=true∧∃ k:Nat,x=.ret (k:Int))∨(hasB (l.drop i) v=false∧x=.done ())):=by
  intro j
  induction j with
  | zero =>
    intro i hi;rw [M.slices_Index_int_int_l1];have:¬((i:Int) < (l.length:Int)):=by omega
    refine ⟨_,by simp only [this,decide_false,Bool.false_eq_true,if_false,Option.pure_def],.inr ⟨?_,rfl⟩⟩;rw [List.drop_eq_nil_iff.2 (by omega)]; rfl
  | succ j ih =>
    intro i hi;rw [M.slices_Index_int_int_l1];have hlt:i < l.length:=by omega
    have hc:((i:Int) < (l.length:Int)):=by omega
    rw [List.drop_eq_getElem_cons hlt,hasB_cons];by_cases e:v=l[i]
    · refine ⟨_,by simp only [hc,decide_true,if_true,yZ hlt,Option.bind_eq_bind,Option.bind_some,Option.pure_def,e,beq_self_eq_true],.inl ⟨?_,i,rfl⟩⟩;rw [e,beq_self_eq_true,Bool.true_or]
    · have e1:(v == l[i])=false:=by simpa using e
      have e2:(l[i] == v)=false:=by simpa using fun h=>e h.symm
      obtain ⟨x,hx,hr⟩:=ih (i + 1) (by omega);refine ⟨x,?_,by rw [e2,Bool.false_or]; exact hr⟩;simp only [hc,decide_true,if_true,yZ hlt,Option.bind_eq_bind,Option.bind_some,Option.pure_def,e1,Bool.false_eq_true,if_false];rw [uY (by omega),hx]
theorem containsV (l:List Int) (v:Int) (hl:l.length ≤ 1048576):M.slices_Contains_int_int l v=some (hasB l v):=by
  unfold M.slices_Contains_int_int M.slices_Index_int_int;obtain ⟨x,hx,hr⟩:=index_l l v hl l.length 0 (Nat.zero_add _);rw [Int.natCast_zero] at hx;rw [List.drop_zero] at hr;rw [hx];rcases hr with ⟨h,k,rfl⟩ | ⟨h,rfl⟩
  · have:((k:Int) ≥ 0):=by omega
    simp [h,this]
  · rw [h]; rfl
def zIns (P:zV) (a:Nat):zT:=(progI P).getD a ⟨0,0,[]⟩
theorem zI_get {P:zV}{a:Nat} (h:a < (progI P).length):zIns P a=(progI P)[a]:=by simp [zIns,h]
theorem zI_in {P:zV}{a:Nat} (h:a < (progI P).length):zIns P a ∈ progI P:=by rw [zI_get h]; exact List.getElem_mem h
theorem reads_at {P:zV}{a:Nat} (h:a < (progI P).length):idx ((progI P).map (rdI P)) (a:Int)=some (rdI P (zIns P a)):=by rw [yZ (by rw [List.length_map]; exact h),zI_get h]; simp
theorem writes_at {P:zV}{a:Nat} (h:a < (progI P).length):idx ((progI P).map (wrI P)) (a:Int)=some (wrI P (zIns P a)):=by rw [yZ (by rw [List.length_map]; exact h),zI_get h]; simp
theorem uses_at {P:zV}{a:Nat} (h:a < (progI P).length):idx ((progI P).map (useI P)) (a:Int)=some (useI P (zIns P a)):=by rw [yZ (by rw [List.length_map]; exact h),zI_get h]; simp
def kindI (P:zV) (a b:Nat):Int:=kindF (rdI P (zIns P a)) (wrI P (zIns P a)) (rdI P (zIns P b)) (wrI P (zIns P b))
theorem betweenV {P:zV} (hi:∀ z ∈ progI P,InP P z) {a b:Nat} (ha:a < (progI P).length) (hb:b < (progI P).length):M.impl_traced_between (trcP P) (a:Int) (b:Int)=some (kindI P a b):=by
  have l1:=zJ0 (hi _ (zI_in ha));have l2:=zJ0 (hi _ (zI_in hb));unfold M.impl_traced_between kindI kindF;simp only [trcP,reads_at ha,reads_at hb,writes_at ha,writes_at hb,containsV _ _ (show (rdI P (zIns P a)).length ≤ 1048576 by omega),containsV _ _ (show (rdI P (zIns P b)).length ≤ 1048576 by omega),Option.bind_eq_bind,Option.bind_some,Option.pure_def,id];by_cases e:wrI P (zIns P a)=wrI P (zIns P b)
  · have e1:(wrI P (zIns P a) == wrI P (zIns P b))=true:=by simpa using e
    simp only [e1,if_true];cases hasB (rdI P (zIns P b)) (wrI P (zIns P a)) <;> cases hasB (rdI P (zIns P a)) (wrI P (zIns P b)) <;> rfl
  · have e1:(wrI P (zIns P a) == wrI P (zIns P b))=false:=by simpa using e
    simp only [e1,Bool.false_eq_true,if_false];cases hasB (rdI P (zIns P b)) (wrI P (zIns P a)) <;> cases hasB (rdI P (zIns P a)) (wrI P (zIns P b)) <;> rfl
theorem kindsV {P:zV} (hi:∀ z ∈ progI P,InP P z) {a b:Nat} (ha:a < (progI P).length) (hb:b < (progI P).length):M.spec_l6Kinds (useI P (zIns P a)) (useI P (zIns P b))=some (kindI P a b):=by
  have l1:=zJ0 (hi _ (zI_in ha));have l2:=zJ0 (hi _ (zI_in hb));unfold M.spec_l6Kinds kindI kindF;simp only [useI,specHas _ _ (show (rdI P (zIns P a)).length ≤ 1048576 by omega),specHas _ _ (show (rdI P (zIns P b)).length ≤ 1048576 by omega),Option.bind_eq_bind,Option.bind_some,Option.pure_def,id];by_cases e:wrI P (zIns P a)=wrI P (zIns P b)
  · have e1:(wrI P (zIns P a) == wrI P (zIns P b))=true:=by simpa using e
    simp only [e1,if_true];cases hasB (rdI P (zIns P b)) (wrI P (zIns P a)) <;> cases hasB (rdI P (zIns P a)) (wrI P (zIns P b)) <;> rfl
  · have e1:(wrI P (zIns P a) == wrI P (zIns P b))=false:=by simpa using e
    simp only [e1,Bool.false_eq_true,if_false];cases hasB (rdI P (zIns P b)) (wrI P (zIns P a)) <;> cases hasB (rdI P (zIns P a)) (wrI P (zIns P b)) <;> rfl
def dpb (P:zV) (a b:Int):Int:=if validP P=true∧0 ≤ a∧a < b∧b < ((progI P).length:Int) then kindI P a.toNat b.toNat else 0
theorem implDep (P:zV) (hb:BG P) (a b:Int):M.impl_DepBetween P a b=some (dpb P a b):=by
  unfold M.impl_DepBetween dpb;rw [implTrace P hb];cases hv:validP P with
  | false=>simp
  | true =>
    have hlen:=(zCr hv).2.2.2;have hi:∀ z ∈ progI P,InP P z:=fun z hz=>zJJ hb hv hz;have hW:W (((trcP P).list.length:Int) - 1)=((progI P).length:Int) - 1:=by show W (((progI P).length:Int) - 1)=_; rw [sE (by omega) (by omega)]
    simp only [if_true,Option.bind_eq_bind,Option.bind_some,Option.pure_def,Bool.not_true,Bool.false_eq_true,if_false,pL,hW,true_and,id];by_cases h:0 ≤ a∧a < b∧b < ((progI P).length:Int)
    · rw [if_pos h];obtain ⟨k,rfl⟩:∃ k:Nat,a=(k:Int):=⟨a.toNat,by omega⟩;obtain ⟨m,rfl⟩:∃ m:Nat,b=(m:Int):=⟨b.toNat,by omega⟩;have e1:(0:Int) ≤ (k:Int):=by omega
      have e2:(k:Int) ≤ ((progI P).length:Int) - 1:=by omega
      have e3:(0:Int) ≤ (m:Int):=by omega
      have e4:(m:Int) ≤ ((progI P).length:Int) - 1:=by omega
      have e5:¬((k:Int) ≥ (m:Int)):=by omega
      simp only [e1,e2,e3,e4,e5,decide_true,decide_false,Bool.and_self,Bool.not_true,Bool.false_eq_true,if_false,Option.bind_some,betweenV hi (show k < (progI P).length by omega) (show m < (progI P).length by omega),Int.toNat_natCast]
    · rw [if_neg h];by_cases h1:0 ≤ a∧a ≤ ((progI P).length:Int) - 1
      · by_cases h2:0 ≤ b∧b ≤ ((progI P).length:Int) - 1
        · have e5:a ≥ b:=by omega
          simp only [h1.1,h1.2,h2.1,h2.2,e5,decide_true,Bool.and_self,Bool.not_true,Bool.false_eq_true,if_false,Option.bind_some,if_true]
        · have e4:(!(decide (0 ≤ b) && decide (b ≤ ((progI P).length:Int) - 1)))=true:=by simp; omega
          simp only [h1.1,h1.2,e4,decide_true,Bool.and_self,Bool.not_true,Bool.false_eq_true,if_false,Option.bind_some,if_true]
      · have e4:(!(decide (0 ≤ a) && decide (a ≤ ((progI P).length:Int) - 1)))=true:=by simp; omega
        simp only [e4,Option.bind_some,if_true]
end Go.LN
namespace Go.LN
def dep1 (P:zV) (i q:Nat):List impl_Dep:=if kindI P i q == 0 then [] else [⟨(i:Int),(q:Int),kindI P i q⟩]
def depR (P:zV) (i k j:Nat):List impl_Dep:=(List.range' k j).flatMap fun q=>dep1 P i q
def depA (P:zV) (i j:Nat):List impl_Dep:=(List.range' i j).flatMap fun q=>depR P q (q + 1) ((progI P).length - (q + 1))
theorem depR_cons (P:zV) (i k j:Nat):depR P i k (j + 1)=dep1 P i k ++ depR P i (k + 1) j:=by unfold depR; rw [List.range'_succ,List.flatMap_cons]
theorem depA_cons (P:zV) (i j:Nat):depA P i (j + 1)=depR P i (i + 1) ((progI P).length - (i + 1)) ++ depA P (i + 1) j:=by unfold depA; rw [List.range'_succ,List.flatMap_cons]
theorem dep1_len (P:zV) (i q:Nat):(dep1 P i q).length ≤ 1:=by unfold dep1; split <;> simp
theorem depR_len (P:zV) (i:Nat):∀ (j k:Nat),(depR P i k j).length ≤ j
  | 0,k=>by simp [depR]
  | j + 1,k=>by
    have h1:=dep1_len P i k
    have h2:=depR_len P i j (k + 1)
    rw [depR_cons,List.length_append]; omega
theorem depA_len (P:zV):∀ (j i:Nat),(depA P i j).length ≤ j * (progI P).length
  | 0,i=>by simp [depA]
  | j + 1,i=>by
    have h1:=depR_len P i ((progI P).length - (i + 1)) (i + 1)
    have h2:=depA_len P j (i + 1)
    rw [depA_cons,List.length_append,Nat.add_mul,Nat.one_mul]; omega
theorem kindI_rng (P:zV) (a b:Nat):0 ≤ kindI P a b∧kindI P a b ≤ 7:=kindF_rng _ _ _ _
theorem deps_l2 {P:zV} (hi:∀ z ∈ progI P,InP P z) (hlen:(progI P).length ≤ 120) (i:Nat) (hin:i < (progI P).length):∀ (j k:Nat) (o:List impl_Dep),k + j=(progI P).length→o.length + j ≤ 1000000→M.impl_traced_deps_l2 (trcP P) (i:Int) o (k:Int)=some (o ++ depR P i k j):=by
  intro j
  induction j with
  | zero =>
    intro k o hk ho;rw [M.impl_traced_deps_l2];have:¬((k:Int) < ((trcP P).list.length:Int)):=by show ¬((k:Int) < ((progI P).length:Int)); omega
    simp only [this,decide_false,Bool.false_eq_true,if_false,Option.pure_def,id];simp [depR]
  | succ j ih =>
    intro k o hk ho;rw [M.impl_traced_deps_l2,depR_cons];have hlt:k < (progI P).length:=by omega
    have hc:((k:Int) < ((trcP P).list.length:Int)):=by show ((k:Int) < ((progI P).length:Int)); omega
    have hr:=kindI_rng P i k;simp only [hc,decide_true,if_true,betweenV hi hin hlt,Option.bind_eq_bind,Option.bind_some,Option.pure_def,id,pD (show (o.length + [impl_Dep.mk (i:Int) (k:Int) (kindI P i k)].length) * 24 ≤ 140737488355328 by simp; omega)];rw [uY (by omega)];unfold dep1;by_cases h0:kindI P i k=0
    · have e1:¬(kindI P i k > 0):=by omega
      have e2:(kindI P i k == 0)=true:=by simpa using h0
      simp only [e1,e2,decide_false,Bool.false_eq_true,if_false,if_true,Option.bind_some,List.nil_append];exact ih (k + 1) o (by omega) (by omega)
    · have e1:kindI P i k > 0:=by omega
      have e2:¬((kindI P i k == 0)=true):=by simpa using h0
      simp only [e1,decide_true,if_true,Option.bind_some];rw [if_neg e2,ih (k + 1) _ (by omega) (by rw [List.length_append]; simp; omega),List.append_assoc]
theorem deps_l1 {P:zV} (hi:∀ z ∈ progI P,InP P z) (hlen:(progI P).length ≤ 120):∀ (j i:Nat) (o:List impl_Dep),i + j=(progI P).length→o.length ≤ 120 * i→M.impl_traced_deps_l1 (trcP P) o (i:Int)=some (o ++ depA P i j):=by
  intro j
  induction j with
  | zero =>
    intro i o hij ho;rw [M.impl_traced_deps_l1];have:¬((i:Int) < ((trcP P).list.length:Int)):=by show ¬((i:Int) < ((progI P).length:Int)); omega
    simp only [this,decide_false,Bool.false_eq_true,if_false,Option.pure_def,id];simp [depA]
  | succ j ih =>
    intro i o hij ho;rw [M.impl_traced_deps_l1,depA_cons];have hlt:i < (progI P).length:=by omega
    have hc:((i:Int) < ((trcP P).list.length:Int)):=by show ((i:Int) < ((progI P).length:Int)); omega
    have hl:=depR_len P i ((progI P).length - (i + 1)) (i + 1);have h2:=deps_l2 hi hlen i hlt ((progI P).length - (i + 1)) (i + 1) o (by omega) (by omega);simp only [hc,decide_true,if_true,uY (show i < 9223372036854775807 by omega),h2,Option.bind_eq_bind,Option.bind_some];rw [ih (i + 1) _ (by omega) (by rw [List.length_append]; omega),List.append_assoc]
theorem depsS_l2 {P:zV} (hi:∀ z ∈ progI P,InP P z) (hlen:(progI P).length ≤ 120) (i:Nat) (hin:i < (progI P).length):∀ (j k:Nat) (o:List impl_Dep),k + j=(progI P).length→o.length + j ≤ 1000000→M.spec_l6Deps_l2 ((progI P).map (useI P)) (i:Int) o (k:Int)=some (o ++ depR P i k j):=by
  intro j
  induction j with
  | zero =>
    intro k o hk ho;rw [M.spec_l6Deps_l2];have:¬((k:Int) < (((progI P).map (useI P)).length:Int)):=by rw [List.length_map]; omega
    simp only [this,decide_false,Bool.false_eq_true,if_false,Option.pure_def,id];simp [depR]
  | succ j ih =>
    intro k o hk ho;rw [M.spec_l6Deps_l2,depR_cons];have hlt:k < (progI P).length:=by omega
    have hc:((k:Int) < (((progI P).map (useI P)).length:Int)):=by rw [List.length_map]; omega
    simp only [hc,decide_true,if_true,uses_at hin,uses_at hlt,kindsV hi hin hlt,Option.bind_eq_bind,Option.bind_some,Option.pure_def,id,pD (show (o.length + [impl_Dep.mk (i:Int) (k:Int) (kindI P i k)].length) * 24 ≤ 140737488355328 by simp; omega)];rw [uY (by omega)];unfold dep1;by_cases h0:kindI P i k=0
    · have e1:(kindI P i k != 0)=false:=by simpa using h0
      have e2:(kindI P i k == 0)=true:=by simpa using h0
      simp only [e1,e2,Bool.false_eq_true,if_false,if_true,Option.bind_some,List.nil_append];exact ih (k + 1) o (by omega) (by omega)
    · have e1:(kindI P i k != 0)=true:=by simpa using h0
      have e2:¬((kindI P i k == 0)=true):=by simpa using h0
      simp only [e1,if_true,Option.bind_some];rw [if_neg e2,ih (k + 1) _ (by omega) (by rw [List.length_append]; simp; omega),List.append_assoc]
theorem depsS_l1 {P:zV} (hi:∀ z ∈ progI P,InP P z) (hlen:(progI P).length ≤ 120):∀ (j i:Nat) (o:List impl_Dep),i + j=(progI P).length→o.length ≤ 120 * i→M.spec_l6Deps_l1 ((progI P).map (useI P)) o (i:Int)=some (o ++ depA P i j):=by
  intro j
  induction j with
  | zero =>
    intro i o hij ho;rw [M.spec_l6Deps_l1];have:¬((i:Int) < (((progI P).map (useI P)).length:Int)):=by rw [List.length_map]; omega
    simp only [this,decide_false,Bool.false_eq_true,if_false,Option.pure_def,id];simp [depA]
  | succ j ih =>
    intro i o hij ho;rw [M.spec_l6Deps_l1,depA_cons];have hlt:i < (progI P).length:=by omega
    have hc:((i:Int) < (((progI P).map (useI P)).length:Int)):=by rw [List.length_map]; omega
    have hl:=depR_len P i ((progI P).length - (i + 1)) (i + 1);have h2:=depsS_l2 hi hlen i hlt ((progI P).length - (i + 1)) (i + 1) o (by omega) (by omega);simp only [hc,decide_true,if_true,uY (show i < 9223372036854775807 by omega),h2,Option.bind_eq_bind,Option.bind_some];rw [ih (i + 1) _ (by omega) (by rw [List.length_append]; omega),List.append_assoc]
def dpF (P:zV):List impl_Dep:=if validP P then depA P 0 (progI P).length else []
theorem implDeps (P:zV) (hb:BG P):M.impl_Dependences P=some (dpF P):=by
  unfold M.impl_Dependences dpF;rw [implTrace P hb];cases hv:validP P with
  | false=>rfl
  | true =>
    have hlen:=(zCr hv).2.2.2;have hi:∀ z ∈ progI P,InP P z:=fun z hz=>zJJ hb hv hz;have hl:=deps_l1 hi hlen _ 0 [] (Nat.zero_add _) (by simp);rw [Int.natCast_zero,List.nil_append] at hl;simp only [if_true,Option.bind_eq_bind,Option.bind_some,Bool.not_true,Bool.false_eq_true,if_false,M.impl_traced_deps,hl,Option.pure_def,id]
theorem specDeps (P:zV) (hb:BG P):M.spec_Dependences P=some (dpF P):=by
  unfold M.spec_Dependences dpF;rw [specValidP P hb];cases hv:validP P with
  | false=>rfl
  | true =>
    have hlen:=(zCr hv).2.2.2;have hi:∀ z ∈ progI P,InP P z:=fun z hz=>zJJ hb hv hz;have hl:=depsS_l1 hi hlen _ 0 [] (Nat.zero_add _) (by simp);rw [Int.natCast_zero,List.nil_append] at hl;simp only [if_true,Option.bind_eq_bind,Option.bind_some,Bool.not_true,Bool.false_eq_true,if_false,M.spec_l6Deps,specUses P hb hv,hl,Option.pure_def,id]
theorem deps_refl (l:List impl_Dep) (h:l.length ≤ 1048576):M.laws_lnDeps l l=some true:=by
  unfold M.laws_lnDeps;have hl:=mS (n:=l.length) (f:=M.laws_lnDeps_l1 l l) (P:=fun _=>true) (fun i hi=>by
      rw [M.laws_lnDeps_l1];have h1:((i:Int) < (l.length:Int)):=by omega
      simp only [h1,decide_true,if_true,yZ hi,Option.bind_eq_bind,Option.bind_some,beq_self_eq_true,Bool.and_self,Bool.not_true,Bool.false_eq_true,if_false];rw [uY (by omega)]) (by rw [M.laws_lnDeps_l1]; simp)
  rw [hl];have:((List.range l.length).all fun _=>true)=true:=by simp
  simp [this]
theorem dpF_len {P:zV}:(dpF P).length ≤ 14400:=by
  unfold dpF;split
  · rename_i hv;have hlen:=(zCr hv).2.2.2;have:=depA_len P (progI P).length 0;have h2:(progI P).length * (progI P).length ≤ 120 * 120:=Nat.mul_le_mul hlen hlen;omega
  · simp
theorem dlaw_l2 {P:zV} (hb:BG P) (hv:validP P=true) (i:Nat):∀ (j k:Nat) (pre post:List impl_Dep),k + j=(progI P).length→i < k→dpF P=pre ++ depR P i k j ++ post→M.laws_FnDependences_l2 P (dpF P) (progI P) (i:Int) (pre.length:Int) (k:Int)=some (.done (((pre ++ depR P i k j).length:Nat):Int)):=by
  have hlen:=(zCr hv).2.2.2;have hdl:=dpF_len (P:=P);intro j
  induction j with
  | zero =>
    intro k pre post hk hik hd;rw [M.laws_FnDependences_l2];have:¬((k:Int) < ((progI P).length:Int)):=by omega
    simp only [this,decide_false,Bool.false_eq_true,if_false,Option.pure_def];simp [depR]
  | succ j ih =>
    intro k pre post hk hik hd;rw [M.laws_FnDependences_l2];have hc:((k:Int) < ((progI P).length:Int)):=by omega
    have hdep:dpb P (i:Int) (k:Int)=kindI P i k:=by unfold dpb; rw [if_pos ⟨hv,by omega,by omega,by omega⟩,Int.toNat_natCast,Int.toNat_natCast]
    rw [depR_cons] at hd ⊢;simp only [hc,decide_true,if_true,implDep P hb,hdep,Option.bind_eq_bind,Option.bind_some,Option.pure_def];by_cases h0:kindI P i k=0
    · have e1:(kindI P i k != 0)=false:=by simpa using h0
      have e2:(kindI P i k == 0)=true:=by simpa using h0
      unfold dep1 at hd ⊢;rw [if_pos e2,List.nil_append] at hd ⊢;simp only [e1,Bool.false_eq_true,if_false,Option.bind_some];rw [uY (by omega)];exact ih (k + 1) pre post (by omega) (by omega) hd
    · have e1:(kindI P i k != 0)=true:=by simpa using h0
      have e2:¬((kindI P i k == 0)=true):=by simpa using h0
      unfold dep1 at hd ⊢;rw [if_neg e2] at hd ⊢;have hl:pre.length < (dpF P).length:=by rw [hd]; simp
      have hg:(dpF P)[pre.length]=⟨(i:Int),(k:Int),kindI P i k⟩:=by
        have:(dpF P)[pre.length]?=some ⟨(i:Int),(k:Int),kindI P i k⟩:=by
          rw [hd,List.append_assoc,List.getElem?_append_right (Nat.le_refl _),Nat.sub_self]; rfl
        rw [List.getElem?_eq_getElem hl] at this;exact Option.some.inj this
      have e3:¬((pre.length:Int) ≥ ((dpF P).length:Int)):=by omega
      have hn:=ih (k + 1) (pre ++ [⟨(i:Int),(k:Int),kindI P i k⟩]) post (by omega) (by omega) (by rw [hd]; simp);rw [List.length_append,show [(⟨(i:Int),(k:Int),kindI P i k⟩:impl_Dep)].length=1 from rfl] at hn;simp only [e1,e3,if_true,decide_false,Bool.false_eq_true,if_false,yZ hl,hg,beq_self_eq_true,Bool.and_self,Bool.not_true,Option.bind_some];rw [uY (by omega),uY (by omega),hn,List.append_assoc]
theorem dlaw_l1 {P:zV} (hb:BG P) (hv:validP P=true) (h40:(progI P).length ≤ 40):∀ (j i:Nat) (pre:List impl_Dep),i + j=(progI P).length→dpF P=pre ++ depA P i j→M.laws_FnDependences_l1 P (dpF P) (progI P) (pre.length:Int) (i:Int)=some (.done ((dpF P).length:Int)):=by
  have hdl:=dpF_len (P:=P);intro j
  induction j with
  | zero =>
    intro i pre hi hd;rw [M.laws_FnDependences_l1];have:¬((i:Int) < ((progI P).length:Int)):=by omega
    have hp:dpF P=pre:=by rw [hd]; simp [depA]
    simp only [this,decide_false,Bool.false_eq_true,if_false,Option.pure_def,Option.bind_eq_bind,Option.bind_some,hp]
  | succ j ih =>
    intro i pre hi hd;rw [M.laws_FnDependences_l1];have hc:((i:Int) < ((progI P).length:Int)):=by omega
    have h4:(((progI P).length:Int) ≤ 40):=by omega
    rw [depA_cons,← List.append_assoc] at hd;have h2:=dlaw_l2 hb hv i ((progI P).length - (i + 1)) (i + 1) pre (depA P (i + 1) j) (by omega) (by omega) hd;have hn:=ih (i + 1) (pre ++ depR P i (i + 1) ((progI P).length - (i + 1))) (by omega) hd;simp only [hc,h4,decide_true,if_true,Option.bind_eq_bind,Option.bind_some,Option.pure_def,uY (show i < 9223372036854775807 by omega),h2];exact hn
theorem law_Dependences (code:List UInt8):∃ r,M.laws_FnDependences code=some r∧r=true:=by
  obtain ⟨y,hy,hb,hAR⟩:=drawProg code;unfold M.laws_FnDependences;refine ⟨true,?_,rfl⟩;have hd:M.spec_DrawDependences code=some y:=by unfold M.spec_DrawDependences; rw [hy]; rfl
  by_cases h1:(code.length:Int) > 1048576
  · simp [h1]
  · have hdl:=dpF_len (P:=y);have hr:=deps_refl (dpF y) (by omega);simp only [h1,decide_false,Bool.false_eq_true,if_false,hd,implDeps y hb,specDeps y hb,implInstP y hb,hr,Bool.not_true,Option.pure_def,Option.bind_eq_bind,Option.bind_some];cases hv:validP y with
    | false =>
      have hl:M.laws_FnDependences_l1 y (dpF y) [] 0 0=some (.done 0):=by rw [M.laws_FnDependences_l1]; simp
      have h0:dpF y=[]:=by unfold dpF; rw [hv]; rfl
      rw [h0] at hl ⊢;simp [hl]
    | true =>
      by_cases h40:(progI y).length ≤ 40
      · have hl:=dlaw_l1 hb hv h40 _ 0 [] (Nat.zero_add _) (by unfold dpF; rw [hv]; rfl);rw [List.length_nil,Int.natCast_zero] at hl;have e:¬(((progI y).length:Int) > 40):=by omega
        simp only [if_true,hl,Option.bind_some,e,decide_false,Bool.false_eq_true,if_false,beq_self_eq_true,id]
      · have hl:M.laws_FnDependences_l1 y (dpF y) (progI y) 0 0=some (.done 0):=by
          rw [M.laws_FnDependences_l1];have e1:((0:Int) < ((progI y).length:Int)):=by omega
          have e2:¬(((progI y).length:Int) ≤ 40):=by omega
          simp only [e1,e2,decide_true,decide_false,if_true,Bool.false_eq_true,if_false,Option.pure_def,Option.bind_eq_bind,Option.bind_some]
        have e:(((progI y).length:Int) > 40):=by omega
        simp only [if_true,hl,Option.bind_some,e,decide_true,id]
end Go.LN
