/- Helper of the proof (see the last text). -/
import Derived.Test.YtkipogionmkncaaGreatLnO
import Derived.Deep.Slices
import Derived.Below
import Derived.WideShapes
set_option linter.unusedVariables false
set_option linter.unusedSimpArgs false
namespace Go.LN
open Go.ChangeShapes Go.WideShapes Go.Deep
def imm0(w : World): Imm:=λb=>match w.heap[b]? with|some (.cells c _ _)=>some c|_=>none
theorem zJd{w : World}{b : Nat}{c : Array Value}{ty : TypeId}{fr : Nat × Nat}(h : w.heap[b]? = some (.cells c ty fr)): imm0 w b = some c:=by simp[imm0,h]
theorem good0(w : World): Good ⟨w,imm0 w,[]⟩ (imm0 w) [] w:=
 ⟨(λb c e=>by
   unfold imm0 at e
   split at e
   ·rename_i c' ty fr h
    cases e;exact⟨ty,fr,h⟩
   ·cases e),by simp,by simp,⟨rfl,rfl,rfl,cH _,λ_ _ _=>rfl,λ_ _ _=>rfl,cH _⟩⟩
theorem zHA{a : Addr}(h : a.spot = none)(i : Nat): a.add i = ⟨a.block,a.off+i,none⟩:=by
 unfold Addr.add
 by_cases hi : i = 0
 ·subst hi;simp[<- h]
 ·simp[hi,h]
theorem zKW{w : World}{base : Nat}{a : Addr}{c : Array Value}{ty : TypeId}{fr : Nat × Nat}(hw : w.heap[a.block]? = some (.cells c ty fr))(hs : a.spot = none): ∀{n : Nat} {cs : List Value},w.cells? base a n = some cs -> cs = (c.toList.drop a.off).take n /\ cs.length = n:=by
 intro n cs h
 unfold World.cells? at h
 split at h
 ·have key : ∀(l : List Nat) (r : List Value),l.mapM (λi=>w.cell? (a.add i)) = some r -> r.length = l.length /\ ∀(j i : Nat),l[j]? = some i -> r[j]? = c.toList[a.off+i]? /\ (r[j]?).isSome:=by
   intro l
   induction l with
   | nil=>intro r hr;simp at hr;subst hr;simp
   | cons x l ih=>
    intro r hr
    simp only[et,Option.bind_eq_bind,Option.bind_eq_some_iff,Option.pure_def,Option.some.injEq] at hr
    obtain⟨v,hv,r',hr',rfl⟩:=hr
    obtain⟨i1,i2⟩:=ih r' hr'
    refine⟨by simp[i1],λj i hj => ?_⟩
    cases j with
    | zero=>
     simp at hj;subst hj
     rw[zHA hs] at hv
     simp only[World.cell?,hw] at hv
     simp at hv
     simp[hv]
    | succ j=>
     simp at hj
     simpa using i2 j i hj
  obtain⟨k1,k2⟩:=key _ _ h
  rw[List.length_range] at k1
  refine⟨?_,k1⟩
  apply ez
  intro j
  by_cases hj : j<n
  ·have:=(k2 j j (by simp[hj])).1
   rw[this,d8,if_pos hj,eu]
  ·rw[dh (by omega),d8,if_neg hj]
 ·cases h
end Go.LN
