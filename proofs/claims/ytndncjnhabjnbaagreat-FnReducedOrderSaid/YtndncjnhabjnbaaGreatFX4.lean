/- For every input, FnReducedOrder returns true, and each argument reads behind the call as it read before; no condition. -/
import Derived.Test.YtndncjnhabjnbaaGreatXReducedOrder
import Derived.Test.YtndncjnhabjnbaaGreatRows
import Derived.Test.YtndncjnhabjnbaaGreatVK1
import Derived.Test.YtndncjnhabjnbaaGreatLnR
import Derived.ProofKit
import Derived.OpenShut
import Derived.ShutString
import Derived.ChangeOld
import Derived.Below
set_option linter.unusedVariables false
set_option linter.unusedSimpArgs false
namespace Go.Proofs.YtndncjnhabjnbaaGreat
open Go.ChangeShapes Go.WideShapes Go.ChangeAt Go.RowKit Go.LN
theorem own : ownKnob Tryz.prog.godebug = none:=by kernel_rfl
theorem laidOut : laidOutB Tryz.prog = true:=by kernel_rfl
theorem zRF : Tryz.prog.cellsOf 5 = 1:=by kernel_rfl
theorem zRE{H : Type}{enc : TypeId × Value -> H}{W : World}{base : Nat}{spare : Nat -> Bool}{held : Bool}(n : Nat)(cs : List Value)(x : DataW H × List MemPlace)(h : DataW.trod enc Tryz.prog W base spare held n 5 cs = some x)(hl : cs.length = 1):
 ∃a : UInt8,Rp.rep (imm0 W) cs a /\ True:=by
 obtain⟨k,rfl,_,hw⟩:=DataW.trod_int Tryz.underlying5 h
 have hw:=bounds_u8 hw
 refine⟨UInt8.ofNat k.toNat,?_,trivial⟩
 show [Value.int .u8 k] = [.int .u8 ((UInt8.ofNat k.toNat).toNat : Int)]
 have e : (UInt8.ofNat k.toNat).toNat = k.toNat:=UInt8.toNat_ofNat_of_lt' (by show k.toNat<256;omega)
 rw[e,show ((k.toNat : Nat) : Int) = k by omega]
theorem zRG(code : List UInt8): ∃r,jH code = some r /\ r = true:=zNg code
set_option maxRecDepth 100000 in
theorem walk{W : World}{a0 : Option Addr}{l0 : List UInt8}{c0 : Nat}(s0 : SL (imm0 W) (.slice a0 l0.length c0) l0):
 Calls Tryz.prog 4 #[.slice a0 l0.length c0] W λe W' => e = .returned (.bool true) /\ Below W.heap.size W W' := by
 obtain⟨r,h1,h2⟩:=zRG l0
 subst h2
 exact zPO (good0 W) ((zK5 l0 true h1 s0).mono (by
  rintro k i ag v ⟨v0,rfl,rfl,rfl⟩
  rfl))
set_option maxRecDepth 100000 in
theorem lifted(os : Os)(started : os.Started)(H : Type)(enc : TypeId × Value -> H):
 ReturnsInHanded {} Tryz.checked os 4 .any (Rows.fnReducedOrderSpec.pre6 enc Tryz.prog Tryz.f4 Rows.fnReducedOrderRow.domain false) (Rows.fnReducedOrderSpec.post enc Tryz.prog Tryz.f4 false true false false):=by
 refine returnsInHanded_of_change (C:=Tryz.checked) own started (by kernel_rfl) Tryz.func4
  (ChangeSpec.witness6 (enc:=enc) (C:=Tryz.checked) false ⟨#[],#[.slice none 0 0],[]⟩ 8 (by kernel_rfl) (by kernel_rfl) (by kernel_rfl) (by kernel_rfl)) ?_
 intro W base args ds gs before hval0 hW hcnd _
 have hval : ∀(j : Nat) t v,Tryz.f4.params[j]? = some t -> args[j]? = some v -> Value.okWide Tryz.prog W .any base t v:=hval0
 have hW' := hW
 obtain⟨p,q,hA0,hV,rfl,hfz,bU⟩:=hW
 have hA : DataW.TrodAll enc Tryz.prog W 0 (λ_=>true) true Tryz.f4.params.toList args.toList ds p:=hA0
 rw[Tryz.params4] at hA hval
 obtain⟨v0,vs0,d0,ds0,p0,q0,hargs,rfl,rfl,h0,r0⟩:=trodAll_cons hA
 obtain⟨rfl,rfl,rfl⟩:=trodAll_nil r0
 obtain rfl : args = #[v0]:=by cases args;simp_all
 obtain⟨rfl,rfl⟩:=trodVars_none hV
 have k0:=h0
 have lt0 : ∀x∈p0,x.block<W.heap.size:=by obtain⟨m,hm⟩:=k0;exact DataW.trod_lt m _ _ _ hm
 obtain⟨a0,l0,c0,rfl,sl0,_,_⟩:=zQh (α:=UInt8) (p:=λ_=>True) Tryz.underlying22 zRF (λn cs x h hl=>zRE n cs x h hl) (hval 0 22 v0 rfl rfl) h0
 clear hA0 hval0
 refine(walk sl0).mono λe W' ⟨he,bel⟩ => ?_
 subst he
 exact⟨_,rfl,_,_,_,[],_,[],hW',trodAll_mk1 (shut_bool Tryz.underlying4 _),(trodAll_cons_mk (Below.trod laidOut (by kernel_rfl) (of_decide_eq_true (by kernel_rfl)) k0 bel lt0) trodAll_mk0),rfl,bel.frame _,λh=>by cases h⟩
theorem c1 : (Rows.fnReducedOrderRow.inPlace==Tryz.prog.inPlace 4) = true:=by kernel_rfl
theorem c2 : (Rows.fnReducedOrderRow.unfollowed==Tryz.prog.unfollowed 4) = true:=by kernel_rfl
theorem c3 : (Rows.fnReducedOrderRow.recurses==Tryz.prog.recurses 4) = true:=by kernel_rfl
theorem c4 : (Rows.fnReducedOrderRow.named==Tryz.prog.varsNamed 4) = true:=by kernel_rfl
theorem closed4 : joinedFacts Tryz.prog 4 Tryz.f4 Rows.fnReducedOrderSpec Rows.fnReducedOrderRow = true:=by
 unfold joinedFacts
 rw[c1,c2,c3,c4]
 kernel_rfl
theorem fnReducedOrder_holds : Rows.FnReducedOrderSaid:=
 OpenClaim.holds_of_wide 4 Tryz.f4 rfl rfl rfl rfl rfl rfl rfl ⟨rfl,rfl,rfl,rfl,rfl⟩ rfl rfl rfl rfl rfl (by kernel_rfl) Tryz.func4 closed4
  (of_decide_eq_true (by kernel_rfl)) (by unfold Func.isWrapper;first|(rw[if_pos (by decide +kernel)];kernel_rfl)|(rw[if_neg (by decide +kernel)];exact⟨rfl,rfl⟩))
  (λos started H enc _=>lifted os started H enc)
#print axioms fnReducedOrder_holds
end Go.Proofs.YtndncjnhabjnbaaGreat
