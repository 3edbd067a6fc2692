/- For every input, FnExactFoldProgram returns true, and each argument reads behind the call as it read before; no condition. -/
import Derived.Test.YtkipogionmkncaaGreatXExactFoldProgram
import Derived.Test.YtkipogionmkncaaGreatRows
import Derived.Test.YtkipogionmkncaaGreatVQ2
import Derived.Test.YtkipogionmkncaaGreatLnRN
import Derived.ProofKit
import Derived.OpenShut
import Derived.ShutString
import Derived.ChangeOld
import Derived.Below
set_option linter.unusedVariables false
set_option linter.unusedSimpArgs false
namespace Go.Proofs.YtkipogionmkncaaGreat
open Go.ChangeShapes Go.WideShapes Go.ChangeAt Go.RowKit Go.LN
theorem own : ownKnob Tryz.prog.godebug = none:=by kernel_rfl
theorem laidOut : laidOutB Tryz.prog = true:=by kernel_rfl
theorem cells3 : Tryz.prog.cellsOf 3 = 1:=by kernel_rfl
theorem cells9 : Tryz.prog.cellsOf 9 = 1:=by kernel_rfl
theorem cells48 : Tryz.prog.cellsOf 48 = 1:=by kernel_rfl
theorem cells138 : Tryz.prog.cellsOf 138 = 2:=by kernel_rfl
theorem cells132 : Tryz.prog.cellsOf 132 = 1:=by kernel_rfl
theorem cells137 : Tryz.prog.cellsOf 137 = 2:=by kernel_rfl
theorem cells139 : Tryz.prog.cellsOf 139 = 1:=by kernel_rfl
theorem cells141 : Tryz.prog.cellsOf 141 = 7:=by kernel_rfl
theorem cells143 : Tryz.prog.cellsOf 143 = 9:=by kernel_rfl
theorem cells134 : Tryz.prog.cellsOf 134 = 2:=by kernel_rfl
theorem cells68 : Tryz.prog.cellsOf 68 = 2:=by kernel_rfl
theorem cells73 : Tryz.prog.cellsOf 73 = 2:=by kernel_rfl
theorem cells70 : Tryz.prog.cellsOf 70 = 1:=by kernel_rfl
theorem cells71 : Tryz.prog.cellsOf 71 = 1:=by kernel_rfl
theorem cells22 : Tryz.prog.cellsOf 22 = 1:=by kernel_rfl
theorem cells23 : Tryz.prog.cellsOf 23 = 1:=by kernel_rfl
theorem cells25 : Tryz.prog.cellsOf 25 = 2:=by kernel_rfl
theorem zL2{H : Type}{enc : TypeId × Value -> H}{W : World}{base : Nat}{held : Bool}(n : Nat)(cs : List Value)(x : DataW H × List MemPlace)(h : DataW.trod enc Tryz.prog W base (λ_=>true) held n 3 cs = some x)(hl : cs.length = 1): ∃a : Int,Rp.rep (imm0 W) cs a /\ True:=by
 obtain⟨k,rfl,_⟩:=DataW.trod_int Tryz.underlying3 h
 exact⟨k,rfl,trivial⟩
theorem zL3{H : Type}{enc : TypeId × Value -> H}{W : World}{base : Nat}{held : Bool}(n : Nat)(c : Value)(x : DataW H × List MemPlace)(h : DataW.trod enc Tryz.prog W base (λ_=>true) held n 9 [c] = some x): ∃a : Str,c = vT a.l /\ a.l.length<=9223372036854775807:=by
 obtain⟨s,e,_,hs⟩:=DataW.trod_string Tryz.underlying9 h
 refine⟨⟨s.data.toList⟩,(List.cons.inj e).1,?_⟩
 exact Nat.le_trans (Nat.le_of_eq Array.length_toList) hs
set_option maxRecDepth 100000 in
theorem zDl{H : Type}{enc : TypeId × Value -> H}{W : World}{base : Nat}{held : Bool}(n : Nat)(cs : List Value)(x : DataW H × List MemPlace)(h : DataW.trod enc Tryz.prog W base (λ_=>true) held n 138 cs = some x)(hl : cs.length = 2): ∃a : yX,Rp.rep (imm0 W) cs a /\ lF a:=by
 obtain⟨m,hm,hf⟩:=zKq Tryz.underlying138 h
 match cs,hl with
 | [c0,c1],_=>
  obtain⟨y0,h0⟩:=hf 0 _ rfl
  change DataW.trod enc Tryz.prog W base (λ_=>true) held m 48 (([c0,c1].drop 0).take (Tryz.prog.cellsOf 48)) = _ at h0
  rw[cells48] at h0
  change DataW.trod enc Tryz.prog W base (λ_=>true) held m 48 [c0] = _ at h0
  obtain⟨y1,h1⟩:=hf 1 _ rfl
  change DataW.trod enc Tryz.prog W base (λ_=>true) held m 3 (([c0,c1].drop 1).take (Tryz.prog.cellsOf 3)) = _ at h1
  rw[cells3] at h1
  change DataW.trod enc Tryz.prog W base (λ_=>true) held m 3 [c1] = _ at h1
  obtain⟨p0,l0,q0,e0,s0,a0,b0⟩:=zKp (α:=Int) (p:=λ_=>True) Tryz.underlying48 cells3 (λm' _ cs x h hl=>zL2 m' cs x h hl) h0
  obtain rfl : c0 = .slice p0 l0.length q0:=by simpa using e0
  obtain⟨k1,e1,_⟩:=DataW.trod_int Tryz.underlying3 h1
  obtain rfl : c1 = .int .i64 k1:=by simpa using e1
  exact⟨⟨l0,k1⟩,zJ2 ⟨_,rfl,s0⟩,b0⟩
set_option maxRecDepth 100000 in
theorem zLa{H : Type}{enc : TypeId × Value -> H}{W : World}{base : Nat}{held : Bool}(n : Nat)(cs : List Value)(x : DataW H × List MemPlace)(h : DataW.trod enc Tryz.prog W base (λ_=>true) held n 68 cs = some x)(hl : cs.length = 2): ∃a : wQ,Rp.rep (imm0 W) cs a /\ lR a:=by
 obtain⟨m,hm,hf⟩:=zKq Tryz.underlying68 h
 match cs,hl with
 | [c0,c1],_=>
  obtain⟨y0,h0⟩:=hf 0 _ rfl
  change DataW.trod enc Tryz.prog W base (λ_=>true) held m 9 (([c0,c1].drop 0).take (Tryz.prog.cellsOf 9)) = _ at h0
  rw[cells9] at h0
  change DataW.trod enc Tryz.prog W base (λ_=>true) held m 9 [c0] = _ at h0
  obtain⟨y1,h1⟩:=hf 1 _ rfl
  change DataW.trod enc Tryz.prog W base (λ_=>true) held m 48 (([c0,c1].drop 1).take (Tryz.prog.cellsOf 48)) = _ at h1
  rw[cells48] at h1
  change DataW.trod enc Tryz.prog W base (λ_=>true) held m 48 [c1] = _ at h1
  obtain⟨t0,rfl,b0⟩:=zL3 m _ _ h0
  obtain⟨p1,l1,q1,e1,s1,a1,b1⟩:=zKp (α:=Int) (p:=λ_=>True) Tryz.underlying48 cells3 (λm' _ cs x h hl=>zL2 m' cs x h hl) h1
  obtain rfl : c1 = .slice p1 l1.length q1:=by simpa using e1
  exact⟨⟨t0,l1⟩,zJe ⟨_,rfl,s1⟩,b0,b1⟩
set_option maxRecDepth 100000 in
theorem zL4{H : Type}{enc : TypeId × Value -> H}{W : World}{base : Nat}{held : Bool}(n : Nat)(cs : List Value)(x : DataW H × List MemPlace)(h : DataW.trod enc Tryz.prog W base (λ_=>true) held n 137 cs = some x)(hl : cs.length = 2): ∃a : tS,Rp.rep (imm0 W) cs a /\ lC a:=by
 obtain⟨m,hm,hf⟩:=zKq Tryz.underlying137 h
 match cs,hl with
 | [c0,c1],_=>
  obtain⟨y0,h0⟩:=hf 0 _ rfl
  change DataW.trod enc Tryz.prog W base (λ_=>true) held m 9 (([c0,c1].drop 0).take (Tryz.prog.cellsOf 9)) = _ at h0
  rw[cells9] at h0
  change DataW.trod enc Tryz.prog W base (λ_=>true) held m 9 [c0] = _ at h0
  obtain⟨y1,h1⟩:=hf 1 _ rfl
  change DataW.trod enc Tryz.prog W base (λ_=>true) held m 132 (([c0,c1].drop 1).take (Tryz.prog.cellsOf 132)) = _ at h1
  rw[cells132] at h1
  change DataW.trod enc Tryz.prog W base (λ_=>true) held m 132 [c1] = _ at h1
  obtain⟨t0,rfl,b0⟩:=zL3 m _ _ h0
  obtain⟨p1,l1,q1,e1,s1,a1,b1⟩:=zKp (α:=yX) (p:=lF) Tryz.underlying132 cells138 (λm' _ cs x h hl=>zDl m' cs x h hl) h1
  obtain rfl : c1 = .slice p1 l1.length q1:=by simpa using e1
  exact⟨⟨t0,l1⟩,zJ4 ⟨_,rfl,s1⟩,b0,b1,a1⟩
set_option maxRecDepth 100000 in
theorem zL5{H : Type}{enc : TypeId × Value -> H}{W : World}{base : Nat}{held : Bool}(n : Nat)(cs : List Value)(x : DataW H × List MemPlace)(h : DataW.trod enc Tryz.prog W base (λ_=>true) held n 134 cs = some x)(hl : cs.length = 2): ∃a : vZ,Rp.rep (imm0 W) cs a /\ lL a:=by
 obtain⟨m,hm,hf⟩:=zKq Tryz.underlying134 h
 match cs,hl with
 | [c0,c1],_=>
  obtain⟨y0,h0⟩:=hf 0 _ rfl
  change DataW.trod enc Tryz.prog W base (λ_=>true) held m 132 (([c0,c1].drop 0).take (Tryz.prog.cellsOf 132)) = _ at h0
  rw[cells132] at h0
  change DataW.trod enc Tryz.prog W base (λ_=>true) held m 132 [c0] = _ at h0
  obtain⟨y1,h1⟩:=hf 1 _ rfl
  change DataW.trod enc Tryz.prog W base (λ_=>true) held m 132 (([c0,c1].drop 1).take (Tryz.prog.cellsOf 132)) = _ at h1
  rw[cells132] at h1
  change DataW.trod enc Tryz.prog W base (λ_=>true) held m 132 [c1] = _ at h1
  obtain⟨p0,l0,q0,e0,s0,a0,b0⟩:=zKp (α:=yX) (p:=lF) Tryz.underlying132 cells138 (λm' _ cs x h hl=>zDl m' cs x h hl) h0
  obtain rfl : c0 = .slice p0 l0.length q0:=by simpa using e0
  obtain⟨p1,l1,q1,e1,s1,a1,b1⟩:=zKp (α:=yX) (p:=lF) Tryz.underlying132 cells138 (λm' _ cs x h hl=>zDl m' cs x h hl) h1
  obtain rfl : c1 = .slice p1 l1.length q1:=by simpa using e1
  exact⟨⟨l0,l1⟩,zJv ⟨_,_,rfl,s0,s1⟩,⟨b0,a0⟩,b1,a1⟩
set_option maxRecDepth 100000 in
theorem zL6{H : Type}{enc : TypeId × Value -> H}{W : World}{base : Nat}{held : Bool}: ∀(n : Nat) (cs : List Value) (x : DataW H × List MemPlace),DataW.trod enc Tryz.prog W base (λ_=>true) held n 141 cs = some x -> cs.length = 7 -> ∃a : yB,Rp.rep (imm0 W) cs a /\ lE a:=by
 intro n
 induction n using Nat.strongRecOn with
 | _ n ih=>
 intro cs x h hl
 obtain⟨m,hm,hf⟩:=zKq Tryz.underlying141 h
 match cs,hl with
 | [c0,c1,c2,c3,c4,c5,c6],_=>
  obtain⟨y0,h0⟩:=hf 0 _ rfl
  change DataW.trod enc Tryz.prog W base (λ_=>true) held m 3 (([c0,c1,c2,c3,c4,c5,c6].drop 0).take (Tryz.prog.cellsOf 3)) = _ at h0
  rw[cells3] at h0
  change DataW.trod enc Tryz.prog W base (λ_=>true) held m 3 [c0] = _ at h0
  obtain⟨y1,h1⟩:=hf 1 _ rfl
  change DataW.trod enc Tryz.prog W base (λ_=>true) held m 3 (([c0,c1,c2,c3,c4,c5,c6].drop 1).take (Tryz.prog.cellsOf 3)) = _ at h1
  rw[cells3] at h1
  change DataW.trod enc Tryz.prog W base (λ_=>true) held m 3 [c1] = _ at h1
  obtain⟨y2,h2⟩:=hf 2 _ rfl
  change DataW.trod enc Tryz.prog W base (λ_=>true) held m 138 (([c0,c1,c2,c3,c4,c5,c6].drop 2).take (Tryz.prog.cellsOf 138)) = _ at h2
  rw[cells138] at h2
  change DataW.trod enc Tryz.prog W base (λ_=>true) held m 138 [c2,c3] = _ at h2
  obtain⟨y3,h3⟩:=hf 3 _ rfl
  change DataW.trod enc Tryz.prog W base (λ_=>true) held m 137 (([c0,c1,c2,c3,c4,c5,c6].drop 4).take (Tryz.prog.cellsOf 137)) = _ at h3
  rw[cells137] at h3
  change DataW.trod enc Tryz.prog W base (λ_=>true) held m 137 [c4,c5] = _ at h3
  obtain⟨y4,h4⟩:=hf 4 _ rfl
  change DataW.trod enc Tryz.prog W base (λ_=>true) held m 139 (([c0,c1,c2,c3,c4,c5,c6].drop 6).take (Tryz.prog.cellsOf 139)) = _ at h4
  rw[cells139] at h4
  change DataW.trod enc Tryz.prog W base (λ_=>true) held m 139 [c6] = _ at h4
  obtain⟨k0,e0,_⟩:=DataW.trod_int Tryz.underlying3 h0
  obtain rfl : c0 = .int .i64 k0:=by simpa using e0
  obtain⟨k1,e1,_⟩:=DataW.trod_int Tryz.underlying3 h1
  obtain rfl : c1 = .int .i64 k1:=by simpa using e1
  obtain⟨a2,r2,b2⟩:=zDl m _ _ h2 rfl
  obtain⟨w2,z2,g2⟩:=zB2 r2
  obtain⟨rfl,rfl⟩ : c2 = w2 /\ c3 = .int .i64 a2.Const:=by simpa using z2
  obtain⟨a3,r3,b3⟩:=zL4 m _ _ h3 rfl
  obtain⟨w3,z3,g3⟩:=zJ3 r3
  obtain⟨rfl,rfl⟩ : c4 = vT a3.Array.l /\ c5 = w3:=by simpa using z3
  obtain⟨p4,l4,q4,e4,s4,a4,b4⟩:=zKp (α:=yB) (p:=lE) Tryz.underlying139 cells141 (λm' hm' cs x h hl=>ih m' (Nat.lt_trans hm' hm) cs x h hl) h4
  obtain rfl : c6 = .slice p4 l4.length q4:=by simpa using e4
  exact⟨.mk k0 k1 a2 a3 l4,zJw ⟨_,_,_,rfl,g2,g3,s4⟩,by simp only[lE,zJS];exact⟨b2,b3,b4,a4⟩⟩
set_option maxRecDepth 100000 in
theorem zL7{H : Type}{enc : TypeId × Value -> H}{W : World}{base : Nat}{held : Bool}(n : Nat)(cs : List Value)(x : DataW H × List MemPlace)(h : DataW.trod enc Tryz.prog W base (λ_=>true) held n 143 cs = some x)(hl : cs.length = 9): ∃a : vG,Rp.rep (imm0 W) cs a /\ lS a:=by
 obtain⟨m,hm,hf⟩:=zKq Tryz.underlying143 h
 match cs,hl with
 | [c0,c1,c2,c3,c4,c5,c6,c7,c8],_=>
  obtain⟨y0,h0⟩:=hf 0 _ rfl
  change DataW.trod enc Tryz.prog W base (λ_=>true) held m 137 (([c0,c1,c2,c3,c4,c5,c6,c7,c8].drop 0).take (Tryz.prog.cellsOf 137)) = _ at h0
  rw[cells137] at h0
  change DataW.trod enc Tryz.prog W base (λ_=>true) held m 137 [c0,c1] = _ at h0
  obtain⟨y1,h1⟩:=hf 1 _ rfl
  change DataW.trod enc Tryz.prog W base (λ_=>true) held m 141 (([c0,c1,c2,c3,c4,c5,c6,c7,c8].drop 2).take (Tryz.prog.cellsOf 141)) = _ at h1
  rw[cells141] at h1
  change DataW.trod enc Tryz.prog W base (λ_=>true) held m 141 [c2,c3,c4,c5,c6,c7,c8] = _ at h1
  obtain⟨a0,r0,b0⟩:=zL4 m _ _ h0 rfl
  obtain⟨w0,z0,g0⟩:=zJ3 r0
  obtain⟨rfl,rfl⟩ : c0 = vT a0.Array.l /\ c1 = w0:=by simpa using z0
  obtain⟨a1,r1,b1⟩:=zL6 m _ _ h1 rfl
  obtain⟨w1,w2,w3,z1,g1,g2,g3⟩:=zC9 r1
  obtain⟨rfl,rfl,rfl,rfl,rfl,rfl,rfl⟩ : c2 = .int .i64 a1.Kind /\ c3 = .int .i64 a1.Num /\ c4 = w1 /\ c5 = .int .i64 a1.Index.Const /\ c6 = vT a1.Read.Array.l /\ c7 = w2 /\ c8 = w3:=by simpa using z1
  exact⟨⟨a0,a1⟩,zJx ⟨_,_,_,_,rfl,g0,g1,g2,g3⟩,b0,b1⟩
set_option maxRecDepth 100000 in
theorem zL8{H : Type}{enc : TypeId × Value -> H}{W : World}{base : Nat}{held : Bool}(n : Nat)(cs : List Value)(x : DataW H × List MemPlace)(h : DataW.trod enc Tryz.prog W base (λ_=>true) held n 73 cs = some x)(hl : cs.length = 2): ∃a : vH,Rp.rep (imm0 W) cs a /\ lX a:=by
 obtain⟨m,hm,hf⟩:=zKq Tryz.underlying73 h
 match cs,hl with
 | [c0,c1],_=>
  obtain⟨y0,h0⟩:=hf 0 _ rfl
  change DataW.trod enc Tryz.prog W base (λ_=>true) held m 70 (([c0,c1].drop 0).take (Tryz.prog.cellsOf 70)) = _ at h0
  rw[cells70] at h0
  change DataW.trod enc Tryz.prog W base (λ_=>true) held m 70 [c0] = _ at h0
  obtain⟨y1,h1⟩:=hf 1 _ rfl
  change DataW.trod enc Tryz.prog W base (λ_=>true) held m 71 (([c0,c1].drop 1).take (Tryz.prog.cellsOf 71)) = _ at h1
  rw[cells71] at h1
  change DataW.trod enc Tryz.prog W base (λ_=>true) held m 71 [c1] = _ at h1
  obtain⟨p0,l0,q0,e0,s0,a0,b0⟩:=zKp (α:=vZ) (p:=lL) Tryz.underlying70 cells134 (λm' _ cs x h hl=>zL5 m' cs x h hl) h0
  obtain rfl : c0 = .slice p0 l0.length q0:=by simpa using e0
  obtain⟨p1,l1,q1,e1,s1,a1,b1⟩:=zKp (α:=vG) (p:=lS) Tryz.underlying71 cells143 (λm' _ cs x h hl=>zL7 m' cs x h hl) h1
  obtain rfl : c1 = .slice p1 l1.length q1:=by simpa using e1
  exact⟨⟨l0,l1⟩,zJy ⟨_,_,rfl,s0,s1⟩,⟨b0,a0⟩,b1,a1⟩
set_option maxRecDepth 100000 in
theorem zL9{H : Type}{enc : TypeId × Value -> H}{W : World}{base : Nat}{held : Bool}(n : Nat)(cs : List Value)(x : DataW H × List MemPlace)(h : DataW.trod enc Tryz.prog W base (λ_=>true) held n 25 cs = some x)(hl : cs.length = 2): ∃a : wT,Rp.rep (imm0 W) cs a /\ lP a:=by
 obtain⟨m,hm,hf⟩:=zKq Tryz.underlying25 h
 match cs,hl with
 | [c0,c1],_=>
  obtain⟨y0,h0⟩:=hf 0 _ rfl
  change DataW.trod enc Tryz.prog W base (λ_=>true) held m 22 (([c0,c1].drop 0).take (Tryz.prog.cellsOf 22)) = _ at h0
  rw[cells22] at h0
  change DataW.trod enc Tryz.prog W base (λ_=>true) held m 22 [c0] = _ at h0
  obtain⟨y1,h1⟩:=hf 1 _ rfl
  change DataW.trod enc Tryz.prog W base (λ_=>true) held m 23 (([c0,c1].drop 1).take (Tryz.prog.cellsOf 23)) = _ at h1
  rw[cells23] at h1
  change DataW.trod enc Tryz.prog W base (λ_=>true) held m 23 [c1] = _ at h1
  obtain⟨p0,l0,q0,e0,s0,a0,b0⟩:=zKp (α:=wQ) (p:=lR) Tryz.underlying22 cells68 (λm' _ cs x h hl=>zLa m' cs x h hl) h0
  obtain rfl : c0 = .slice p0 l0.length q0:=by simpa using e0
  obtain⟨p1,l1,q1,e1,s1,a1,b1⟩:=zKp (α:=vH) (p:=lX) Tryz.underlying23 cells73 (λm' _ cs x h hl=>zL8 m' cs x h hl) h1
  obtain rfl : c1 = .slice p1 l1.length q1:=by simpa using e1
  exact⟨⟨l0,l1⟩,zJD ⟨_,_,rfl,s0,s1⟩,⟨b0,a0⟩,b1,a1⟩
set_option maxRecDepth 100000 in
theorem walk{W : World}{a : wT}(ha : lP a){p : Option Addr}{c : Nat}{p1 : Option Addr}{c1 : Nat}(s0 : SL (imm0 W) (vS p a.Arrays c) a.Arrays)(s1 : SL (imm0 W) (vS p1 a.Parts c1) a.Parts):
 Calls Tryz.prog 3 #[vA [vS p a.Arrays c,vS p1 a.Parts c1]] W λe W' => e = .returned (.bool true) /\ Below W.heap.size W W' :=
 zKZ (good0 W) ((zGs a true (zKX a ha) s0 s1).mono (by
  rintro k i aj v ⟨v0,rfl,rfl,rfl⟩
  rfl))
set_option maxRecDepth 100000 in
theorem lifted(os : Os)(started : os.Started)(H : Type)(enc : TypeId × Value -> H):
 ReturnsInHanded {} Tryz.checked os 3 .any (Rows.fnExactFoldProgramSpec.pre6 enc Tryz.prog Tryz.f3 Rows.fnExactFoldProgramRow.domain false) (Rows.fnExactFoldProgramSpec.post enc Tryz.prog Tryz.f3 false true false false):=by
 refine returnsInHanded_of_change (C:=Tryz.checked) own started (by kernel_rfl) Tryz.func3
  (ChangeSpec.witness6 (enc:=enc) (C:=Tryz.checked) false ⟨#[],#[.agg #[.slice none 0 0,.slice none 0 0]],[]⟩ 8 (by kernel_rfl) (by kernel_rfl) (by kernel_rfl) (by kernel_rfl)) ?_
 intro W base args ds gs before hval0 hW hcnd _
 have hval : ∀(j : Nat) t v,Tryz.f3.params[j]? = some t -> args[j]? = some v -> Value.okWide Tryz.prog W .any base t v:=hval0
 have hW' := hW
 obtain⟨p,q,hA0,hV,rfl,hfz,bH⟩:=hW
 have hA : DataW.TrodAll enc Tryz.prog W 0 (λ_=>true) true Tryz.f3.params.toList args.toList ds p:=hA0
 rw[Tryz.params3] at hA hval
 obtain⟨v0,vs0,d0,ds0,p0,q0,hargs,rfl,rfl,h0,r0⟩:=trodAll_cons hA
 obtain⟨rfl,rfl,rfl⟩:=trodAll_nil r0
 obtain rfl : args = #[v0]:=by cases args;simp_all
 obtain⟨rfl,rfl⟩:=trodVars_none hV
 have k0:=h0
 have lt0 : ∀x∈p0,x.block<W.heap.size:=by obtain⟨m,hm⟩:=k0;exact DataW.trod_lt m _ _ _ hm
 have hv0:=hval 0 25 v0 rfl rfl
 obtain⟨cs,rfl,bv⟩ : ∃cs : Array Value,v0 = .agg cs /\ cs.size = 2:=by
  unfold Value.okWide at hv0
  rw[Tryz.underlying25] at hv0
  obtain⟨cs,e1,e2,_⟩:=hv0
  exact⟨cs,e1,e2.trans cells25⟩
 obtain⟨fuel,hf⟩:=h0
 obtain⟨a,aq,ha⟩:=zL9 fuel cs.toList _ hf (by simpa using bv)
 obtain⟨w0,w1,e,s0,s1⟩:=zJC aq
 obtain⟨pa,ca,rfl⟩:=s0.form
 obtain⟨pb,cb,rfl⟩:=s1.form
 obtain rfl : cs = ⟨[vS pa a.Arrays ca,vS pb a.Parts cb]⟩:=by
  cases cs
  exact congrArg Array.mk e
 clear hA0 hval0
 refine(walk ha s0 s1).mono λe W' ⟨he,bel⟩ => ?_
 subst he
 exact⟨_,rfl,_,_,_,[],_,[],hW',trodAll_mk1 (shut_bool Tryz.underlying4 _),(trodAll_cons_mk (Below.trod laidOut (by kernel_rfl) (of_decide_eq_true (by kernel_rfl)) k0 bel lt0) trodAll_mk0),rfl,bel.frame _,λh=>by cases h⟩
theorem c1 : (Rows.fnExactFoldProgramRow.inPlace==Tryz.prog.inPlace 3) = true:=by kernel_rfl
theorem c2 : (Rows.fnExactFoldProgramRow.unfollowed==Tryz.prog.unfollowed 3) = true:=by kernel_rfl
theorem c3 : (Rows.fnExactFoldProgramRow.recurses==Tryz.prog.recurses 3) = true:=by kernel_rfl
theorem c4 : (Rows.fnExactFoldProgramRow.named==Tryz.prog.varsNamed 3) = true:=by kernel_rfl
theorem closed3 : joinedFacts Tryz.prog 3 Tryz.f3 Rows.fnExactFoldProgramSpec Rows.fnExactFoldProgramRow = true:=by
 unfold joinedFacts
 rw[c1,c2,c3,c4]
 kernel_rfl
theorem fnExactFoldProgram_holds : Rows.FnExactFoldProgramSaid:=
 OpenClaim.holds_of_wide 3 Tryz.f3 rfl rfl rfl rfl rfl rfl rfl ⟨rfl,rfl,rfl,rfl,rfl⟩ rfl rfl rfl rfl rfl (by kernel_rfl) Tryz.func3 closed3
  (of_decide_eq_true (by kernel_rfl)) (by unfold Func.isWrapper;first|(rw[if_pos (by decide +kernel)];kernel_rfl)|(rw[if_neg (by decide +kernel)];exact⟨rfl,rfl⟩))
  (λos started H enc _=>lifted os started H enc)
#print axioms fnExactFoldProgram_holds
end Go.Proofs.YtkipogionmkncaaGreat
