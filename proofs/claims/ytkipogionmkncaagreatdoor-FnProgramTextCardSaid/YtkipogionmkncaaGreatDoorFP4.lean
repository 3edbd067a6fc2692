/- For every input, FnProgramText returns true, and each argument reads behind the call as it read before; what the library reads of package variables lies as the card ties it. -/
import Derived.Test.YtkipogionmkncaaGreatDoorXProgramTextCard
import Derived.Test.YtkipogionmkncaaGreatDoorTie
import Derived.Test.YtkipogionmkncaaGreatDoorCards
import Derived.Test.YtkipogionmkncaaGreatDoorPR6
import Derived.Test.YtkipogionmkncaaGreatDoorLnR
import Derived.ProofKit
import Derived.LaidMore
import Derived.LaidLaws
import Derived.Lay
import Derived.OpenShut
import Derived.ShutString
import Derived.HandedShaped
import Derived.Shelf.Vars
import Derived.Stop.Joined
import Derived.SevenTiedAt
set_option linter.unusedVariables false
set_option linter.unusedSimpArgs false
namespace Go.Proofs.YtkipogionmkncaaGreatDoor
open Go.ChangeShapes Go.WideShapes Go.ChangeAt Go.RowKit Go.LN
theorem own : ownKnob Tryz.prog.godebug = none:=by kernel_rfl
theorem laidOut : laidOutB Tryz.prog = true:=by kernel_rfl
theorem gMax : Tryz.prog.globalNamed "internal/bytealg.MaxLen" = some 0 := by kernel_rfl
theorem gTab : Tryz.prog.globalNamed "internal/strconv.uint64pow10" = some 3 := by kernel_rfl
theorem tTab : (Tryz.prog.globals[3]?).map (·.type) = some 264:=by kernel_rfl
theorem gSyn : Tryz.prog.globalNamed "strconv.ErrSyntax" = some 1 := by kernel_rfl
theorem tSyn : (Tryz.prog.globals[1]?).map (·.type) = some 129:=by kernel_rfl
theorem gRan : Tryz.prog.globalNamed "strconv.ErrRange" = some 2 := by kernel_rfl
theorem tRan : (Tryz.prog.globals[2]?).map (·.type) = some 129:=by kernel_rfl
theorem cells247 : Tryz.prog.cellsOf 247 = 1:=by kernel_rfl
theorem zRU : Tryz.prog.cellsOf 5 = 1:=by kernel_rfl
theorem cells264 : Tryz.prog.cellsOf 264 = 20:=by kernel_rfl
theorem zRT{W : World}{nm : String}{g : Nat}{cs : Array Value}(hg : Tryz.prog.globalNamed nm = some g)(hv : W.var? Tryz.prog nm = some cs): imm0 W g = some cs:=by
 unfold World.var? at hv
 rw[hg,Option.bind_some] at hv
 split at hv
 ·rename_i c ty fr hw
  cases hv
  exact zNg hw
 ·cases hv
theorem zRW{W : World}(h : laidMetH Tryz.prog Rows.fnProgramTextRow.laid W)(hs : W.ShapedOpen Tryz.prog): GH Tryz.prog (imm0 W):=by
 rw[MakeChecks.laidMetH_plain _ _ _ (by kernel_rfl)] at h
 obtain⟨ps,⟨g0,t0,cs0,f0,p0,q0,hg0,ht0,hv0,hd0,⟨g1,t1,aA,f1,p1,q1,hg1,ht1,hv1,hd1,⟨g2,t2,bv,f2,p2,q2,hg2,ht2,hv2,hd2,⟨g3,t3,bf,f3,p3,q3,hg3,ht3,hv3,hd3,⟨g4,t4,cC,f4,p4,q4,hg4,ht4,hv4,hd4,⟨g5,t5,cP,f5,p5,q5,hg5,ht5,hv5,hd5,_,_⟩,_⟩,_⟩,_⟩,_⟩,_⟩,_⟩:=h
 obtain rfl:=Option.some.inj (gTab.symm.trans hg2)
 obtain rfl:=Option.some.inj (tTab.symm.trans ht2)
 obtain rfl:=Option.some.inj (gRan.symm.trans hg4)
 obtain rfl:=Option.some.inj (tRan.symm.trans ht4)
 obtain rfl:=Option.some.inj (gSyn.symm.trans hg5)
 obtain rfl:=Option.some.inj (tSyn.symm.trans ht5)
 refine⟨⟨3,gTab,?_⟩,⟨0,gMax,?_⟩,⟨1,gSyn,?_⟩,⟨2,gRan,?_⟩⟩
 ·have hc : bv.toList = Lib.pow10Tab.map λz=>Value.int .u64 z:=Lib.cells_of_tab (zs:=Lib.pow10Tab) Tryz.underlying264 Tryz.underlying247 cells247 cells264 hd2
  rw[zRT hg2 hv2]
  congr 1
  apply Array.ext'
  rw[hc]
 ·obtain⟨m,hm⟩:=cell_of_shapedOpen_int (g:=0) (t:=3) (zero := #[.int .i64 0]) (k:=.i64) hs (of_decide_eq_true (by kernel_rfl)) (by kernel_rfl) rfl (by kernel_rfl) (by kernel_rfl) Tryz.underlying3
  obtain⟨cs,hh,fy,_⟩:=hs.1 0 #[.int .i64 0] 3 (of_decide_eq_true (by kernel_rfl)) (by kernel_rfl)
  refine⟨m,?_⟩
  rw[zNg hh]
  simp only[World.cell?,hh] at hm
  have fy : cs.size = 1:=fy
  obtain⟨l⟩:=cs
  match l,fy with
  | [x],_=>
   simp at hm
   subst hm
   rfl
 ·obtain⟨n,u,v,e,_,_⟩:=iface_of_trod Tryz.underlying129 hd5
  exact⟨u,v,by rw[zRT hg5 hv5,<- e]⟩
 ·obtain⟨n,u,v,e,_,_⟩:=iface_of_trod Tryz.underlying129 hd4
  exact⟨u,v,by rw[zRT hg4 hv4,<- e]⟩
theorem zA2{H : Type}{enc : TypeId × Value -> H}{W : World}{base : Nat}{spare : Nat -> Bool}{held : Bool}(n : Nat)(cs : List Value)(x : DataW H × List MemPlace)(h : DataW.trod enc Tryz.prog W base spare held n 5 cs = some x)(hl : cs.length = 1):
 ∃a : UInt8,Rp.rep (imm0 W) cs a /\ True:=by
 obtain⟨k,rfl,_,hw⟩:=DataW.trod_int Tryz.underlying5 h
 have hw:=bounds_u8 hw
 refine⟨UInt8.ofNat k.toNat,?_,trivial⟩
 show [Value.int .u8 k] = [.int .u8 ((UInt8.ofNat k.toNat).toNat : Int)]
 have e : (UInt8.ofNat k.toNat).toNat = k.toNat:=UInt8.toNat_ofNat_of_lt' (by show k.toNat<256;omega)
 rw[e,show ((k.toNat : Nat) : Int) = k by omega]
set_option maxRecDepth 100000 in
theorem walk{W : World}{a0 : Option Addr}{l0 : List UInt8}{c0 : Nat}{a1 : Option Addr}{l1 : List UInt8}{c1 : Nat}(s0 : SL (imm0 W) (.slice a0 l0.length c0) l0)(s1 : SL (imm0 W) (.slice a1 l1.length c1) l1)(hG : GH Tryz.prog (imm0 W)):
 Calls Tryz.prog 3 #[.slice a0 l0.length c0,.slice a1 l1.length c1] W λe W' => e = .returned (.bool true) /\ Below W.heap.size W W' := by
 obtain⟨r,h1,h2⟩:=zNn l0 l1
 subst h2
 exact zP1 (good0 W) ((zKg l0 l1 true h1 s0 s1 hG).mono (by
  rintro k i ah v ⟨v0,rfl,rfl,rfl⟩
  rfl))
variable {H : Type} {enc : TypeId × Value -> H}
theorem zRV{a : Assume}{C : Checked}{os : Os}{f : FuncId}{fn : Func}{s : ChangeSpec}{conds : List PathCond}{apart fresh handsOn again : Bool}{X : World -> Array Value -> Prop}
 (hX : ∀(w w' : World) (args : Array Value),w.heap = w'.heap -> X w args -> X w' args)
 (own : ownKnob C.prog.godebug = none) (started : os.Started) (noInit : C.prog.inits.idxOf? f = none) (hfn : C.prog.funcs[f]? = some fn)
 (witness : ∃(w : World) (tape : Tape) (i : Input),w.os = os /\ (w.forCall tape i).Shaped C.prog /\ i.vars = [] /\ Input.okWide C.prog (w.forCall tape i) .any w.heap.size f i /\
  ((s.pre enc C.prog fn conds apart (w.forCall tape i).memory i.args /\ X (w.forCall tape i).memory i.args) /\ sizedMet enc C.prog fn (OpenSpec.ofChange s) apart (w.forCall tape i).memory i.args) /\ a.holds C.prog (lone (Frame.enter C.prog f i.args .normal) [] (w.forCall tape i)))
 (contract : ∀(W : World) (base : Nat) (args : Array Value) (ds gs : List (DataW H)) (before : List MemPlace),
  (∀(j : Nat) t v,fn.params[j]? = some t -> args[j]? = some v -> Value.okWide C.prog W .any base t v) ->
  DataW.Whole enc C.prog fn.params.toList s.vars apart W args.toList ds gs before -> X W args -> W.ShapedOpen C.prog ->
  Calls C.prog f args W λe W' => ∃v,e = .returned v /\ s.post enc C.prog fn apart fresh handsOn again W args v W') :
 ReturnsInHanded a C os f .any (λw args=>(s.pre enc C.prog fn conds apart w args /\ X w args) /\ sizedMet enc C.prog fn (OpenSpec.ofChange s) apart w args) (s.post enc C.prog fn apart fresh handsOn again):=by
 refine returnsInHanded_of_calls own started noInit witness ?_
 intro w tape i _ hsh _ hok hpre hholds
 obtain⟨_,_,_,fn',hfn',_,_,_,_,hval⟩:=hok
 have e : fn' = fn:=Option.some.inj (hfn'.symm.trans hfn)
 subst e
 obtain⟨⟨⟨ds,gs,before,hw,hc⟩,hx⟩,hz⟩:=hpre
 have hw' := DataW.Whole.of_heap (w' := w.forCall tape i) (by rfl) hw
 refine(contract (w.forCall tape i) w.heap.size i.args ds gs before hval hw' (hX _ _ _ (by rfl) hx) hsh).mono λe W' ⟨v,he,hp⟩ => ?_
 subst he
 exact ChangeSpec.post_blind hp
set_option maxRecDepth 100000 in
theorem lifted(os : Os)(started : os.Started)(H : Type)(enc : TypeId × Value -> H):
 ReturnsInHanded {} Tryz.checked os 3 .any (λw args=>(Rows.fnProgramTextSpec.pre enc Tryz.prog Tryz.f3 [] false w args /\ laidMetH Tryz.prog Rows.fnProgramTextRow.laid w) /\ sizedMet enc Tryz.prog Tryz.f3 (OpenSpec.ofChange Rows.fnProgramTextSpec) false w args)
  (Rows.fnProgramTextSpec.post enc Tryz.prog Tryz.f3 false true false false):=by
 refine zRV (C:=Tryz.checked) (X:=λw _=>laidMetH Tryz.prog Rows.fnProgramTextRow.laid w) (λ_ _ _ hh h=>h.of_heap hh) own started (by kernel_rfl) Tryz.func3
  (ChangeSpec.witness_shaped (enc:=enc) (C:=Tryz.checked) (os:=os) (X:=λw _=>laidMetH Tryz.prog Rows.fnProgramTextRow.laid w) false (World.laidAll Tryz.prog os Rows.fnProgramTextRow.laid) #[.slice none 0 0,.slice none 0 0] 8 (World.laidAll_os _ _ _)
   (World.shaped_of_ZipB (by kernel_rfl) (by kernel_rfl)) (by kernel_rfl) (by kernel_rfl) (by kernel_rfl)
   (by rw[MakeChecks.laidMetH_plain _ _ _ (by kernel_rfl)];exact laidMet_laidAll _ (by kernel_rfl) (by kernel_rfl))) ?_
 intro W base args ds gs before hval0 hW hL hS
 have hval : ∀(j : Nat) t v,Tryz.f3.params[j]? = some t -> args[j]? = some v -> Value.okWide Tryz.prog W .any base t v:=hval0
 have hW' := hW
 obtain⟨p,q,hA0,hV,rfl,hfz,jf⟩:=hW
 have hA : DataW.TrodAll enc Tryz.prog W 0 (λ_=>true) true Tryz.f3.params.toList args.toList ds p:=hA0
 rw[Tryz.params3] at hA hval
 obtain⟨v0,vs0,d0,ds0,p0,q0,hargs,rfl,rfl,h0,r0⟩:=trodAll_cons hA
 obtain⟨v1,vs1,d1,ds1,p1,q1,rfl,rfl,rfl,h1,r1⟩:=trodAll_cons r0
 obtain⟨rfl,rfl,rfl⟩:=trodAll_nil r1
 obtain rfl : args = #[v0,v1]:=by cases args;simp_all
 obtain⟨rfl,rfl⟩:=trodVars_none hV
 have k0:=h0
 have lt0 : ∀x∈p0,x.block<W.heap.size:=by obtain⟨m,hm⟩:=k0;exact DataW.trod_lt m _ _ _ hm
 obtain⟨a0,l0,c0,rfl,sl0,_,_⟩:=zQz (α:=UInt8) (p:=λ_=>True) Tryz.underlying22 zRU (λn cs x h hl=>zA2 n cs x h hl) (hval 0 22 v0 rfl rfl) h0
 have k1:=h1
 have lt1 : ∀x∈p1,x.block<W.heap.size:=by obtain⟨m,hm⟩:=k1;exact DataW.trod_lt m _ _ _ hm
 obtain⟨a1,l1,c1,rfl,sl1,_,_⟩:=zQz (α:=UInt8) (p:=λ_=>True) Tryz.underlying22 zRU (λn cs x h hl=>zA2 n cs x h hl) (hval 1 22 v1 rfl rfl) h1
 clear hA0 hval0
 refine(walk sl0 sl1 (zRW hL hS)).mono λe W' ⟨he,bel⟩ => ?_
 subst he
 exact⟨_,rfl,_,_,_,[],_,[],hW',trodAll_mk1 (shut_bool Tryz.underlying4 _),(trodAll_cons_mk (Below.trod laidOut (by kernel_rfl) (of_decide_eq_true (by kernel_rfl)) k0 bel lt0) (trodAll_cons_mk (Below.trod laidOut (by kernel_rfl) (of_decide_eq_true (by kernel_rfl)) k1 bel lt1) trodAll_mk0)),rfl,bel.frame _,λh=>by cases h⟩
theorem c1 : (Rows.fnProgramTextRow.inPlace==Tryz.prog.inPlace 3) = true:=by kernel_rfl
theorem c2 : (Rows.fnProgramTextRow.unfollowed==Tryz.prog.unfollowed 3) = true:=by kernel_rfl
theorem c3 : (Rows.fnProgramTextRow.recurses==Tryz.prog.recurses 3) = true:=by kernel_rfl
theorem c4 : (Rows.fnProgramTextRow.named==Tryz.prog.varsNamed 3) = true:=by kernel_rfl
theorem closed3 : joinedFacts Tryz.prog 3 Tryz.f3 Rows.fnProgramTextSpec Rows.fnProgramTextRow = true:=by
 unfold joinedFacts
 rw[c1,c2,c3,c4]
 kernel_rfl
theorem zRX : Rows.FnProgramTextSaid:=
 OpenClaim.holds_of_wide 3 Tryz.f3 rfl rfl rfl rfl rfl rfl rfl ⟨rfl,rfl,rfl,rfl,rfl⟩ rfl rfl rfl rfl rfl (by kernel_rfl) Tryz.func3 closed3
  (of_decide_eq_true (by kernel_rfl)) (by unfold Func.isWrapper;first|(rw[if_pos (by decide +kernel)];kernel_rfl)|(rw[if_neg (by decide +kernel)];exact⟨rfl,rfl⟩))
  (λos started H enc _=>lifted os started H enc)
theorem fnProgramText_holds : Rows.FnProgramTextCardSaid:=
 Claim7.holds_tied_plain_at .later [] [.data, .data, .data, .data, .sentinel, .sentinel, .pinned] true (true, "85fca9a9565f2c8ce9707dea2544983004654c35dd5d753f3264e839a365c51c") true
  zRX (λ_ h=>by cases h) (by kernel_rfl) (λ_ h=>by cases h) fnProgramText_row_tie rfl ⟨rfl,rfl⟩ (by kernel_rfl) rfl
  (λf fn hf hfn=>by
   obtain rfl : f = 3 := Option.some.inj ((show Tryz.prog.funcNamed "loop.example/loopnests/laws.FnProgramText" = some 3 by kernel_rfl).symm.trans hf) |>.symm
   obtain rfl : fn = Tryz.f3:=(Option.some.inj (Tryz.func3.symm.trans hfn)).symm
   exact⟨by kernel_rfl,λj t ht=>by
    rw[Tryz.params3] at ht
    have hm : t∈[22]:=by simpa using Array.mem_of_getElem? ht
    have hall : ([22].all λu => !Tryz.prog.wantsStandIn u) = true:=by kernel_rfl
    exact(show Tryz.prog.wantsStandIn t = false by simpa using List.all_eq_true.1 hall t hm)⟩)
  (by kernel_rfl)
#print axioms fnProgramText_holds
end Go.Proofs.YtkipogionmkncaaGreatDoor
