/- Helper of the proof (see the last text). -/
import Derived.Test.YtkipogionmkncaaGreatLnR
set_option linter.unusedVariables false
set_option linter.unusedSimpArgs false
namespace Go.LN
open Go.ChangeShapes Go.WideShapes Go.Deep
theorem zIc{W : World}{base n : Nat}{a : Addr}{cs : List Value}(hn : 0<n)(h : W.cells? base a n = some cs): ∃c ty fr,W.heap[a.block]? = some (.cells c ty fr) /\ a.spot = none /\ a.off<c.size:=by
 unfold World.cells? at h
 split at h
 ·obtain⟨m,rfl⟩ : ∃m,n = m+1:=⟨n - 1,by omega⟩
  rw[List.range_succ_eq_map,et] at h
  simp only[Option.bind_eq_bind,Option.bind_eq_some_iff] at h
  obtain⟨v,hv,_⟩:=h
  have e : a.add 0 = a:=by simp[Addr.add]
  rw[e] at hv
  unfold World.cell? at hv
  split at hv
  ·rename_i c ty fr hw
   split at hv
   ·cases hv
   ·rename_i hs
    exact⟨c,ty,fr,hw,by cases hx : a.spot <;> simp_all,(Array.getElem?_eq_some_iff.1 hv).1⟩
  ·cases hv
 ·cases h
theorem zKp{α : Type}[Rp α]{H : Type}{enc : TypeId × Value -> H}{P : Program}{W : World}{base : Nat}{held : Bool}{t e : TypeId}{p : α -> Prop}{n : Nat}{cs0 : List Value}{x : DataW H × List MemPlace}
 (ht : P.underlying t = some (.slice e)) (hc : P.cellsOf e = Rp.sz α) (hel : ∀m,m<n -> ∀cs x,DataW.trod enc P W base (λ_=>true) held m e cs = some x -> cs.length = Rp.sz α -> ∃a : α,Rp.rep (imm0 W) cs a /\ p a)
 (h : DataW.trod enc P W base (λ_=>true) held n t cs0 = some x) : ∃(a : Option Addr) (l : List α) (c : Nat),cs0 = [.slice a l.length c] /\ SL (imm0 W) (.slice a l.length c) l /\ (∀x∈l,p x) /\ l.length<=maxLen:=by
 rcases DataW.trod_slice ht h with⟨rfl,_⟩|⟨a,len,cap,elems,rest,n',rfl,rfl,_,_,hl,hm,ap,hx,hsp,_⟩
 ·exact⟨none,[],0,rfl,SL.nil _,by simp,ex _⟩
 ·obtain⟨hr,hx2⟩:=hsp rfl
  have rd : ∀i,i<cap -> ∃cs' y,W.cells? base (a.add (i*Rp.sz α)) (Rp.sz α) = some cs' /\ DataW.trod enc P W base (λ_=>true) held n' e cs' = some y:=by
   intro i hi
   by_cases h1 : i<len
   ·have:=hx i h1
    rw[b9 (by omega),hc] at this
    obtain⟨cs',k1,k2⟩:=Option.bind_eq_some_iff.1 this
    exact⟨cs',_,k1,k2⟩
   ·have:=hx2 (i - len) (by omega)
    rw[b9 (by omega),hc,show len+(i - len) = i by omega] at this
    obtain⟨cs',k1,k2⟩:=Option.bind_eq_some_iff.1 this
    exact⟨cs',_,k1,k2⟩
  by_cases hcap : cap = 0
  ·subst hcap
   obtain rfl : len = 0:=by omega
   exact⟨some a,[],0,rfl,⟨[],.inl ⟨some a,rfl,rfl⟩,rfl⟩,by simp,ex _⟩
  ·have hpos:=Rp.pos (α:=α)
   obtain⟨aM,y1,r1,_⟩:=rd 0 (by omega)
   have e0 : a.add (0*Rp.sz α) = a:=by simp[Addr.add]
   rw[e0] at r1
   obtain⟨c,ty,fr,hw,hs,hoff⟩:=zIc hpos r1
   have step : ∀k,k<=len -> ∃l : List α,l.length = k /\ RepL (Rp.rep (imm0 W)) (Rp.sz α) ((c.toList.drop a.off).take (k*Rp.sz α)) l /\ (∀x∈l,p x) /\ a.off+k*Rp.sz α<=c.size:=by
    intro k
    induction k with
    | zero=>intro _;exact⟨[],rfl,by simp[RepL],by simp,by omega⟩
    | succ k ih=>
     intro hk
     obtain⟨l,h1,h2,h3,h4⟩:=ih (by omega)
     obtain⟨cs',y,k1,k2⟩:=rd k (by omega)
     rw[zHA hs] at k1
     obtain⟨e1,e2⟩:=zKW (a:=⟨a.block,a.off+k*Rp.sz α,none⟩) hw rfl k1
     obtain⟨x,x1,x2⟩:=hel n' (Nat.lt_succ_self _) _ _ k2 e2
     have hm2 : (k+1)*Rp.sz α = k*Rp.sz α+Rp.sz α:=dk _ _
     have e3 : (c.toList.drop a.off).take ((k+1)*Rp.sz α) = (c.toList.drop a.off).take (k*Rp.sz α)++cs' := by
      rw[hm2,List.take_add,e1,cZ]
     refine⟨l++[x],by simp[h1],?_,?_,?_⟩
     ·rw[e3];exact h2.append (.single e2 x1)
     ·intro y hy
      rcases dj.1 hy with hy|hy
      ·exact h3 y hy
      ·simp at hy;subst hy;exact x2
     ·have : cs'.length = Rp.sz α:=e2
      rw[e1,cv,cE,dm] at this
      simp only at this
      omega
   obtain⟨l,h1,h2,h3,h4⟩:=step len (cH _)
   subst h1
   obtain⟨ab,ao,asp⟩:=a
   simp only at hs
   subst hs
   refine⟨_,l,cap,rfl,⟨_,.inr ⟨ab,ao,l.length,cap,c,rfl,zJd hw,h4,hl,?_,rfl⟩,h2⟩,h3,by omega⟩
   rw[h2.length]
theorem zKq{H : Type}{enc : TypeId × Value -> H}{P : Program}{W : World}{base : Nat}{held : Bool}{spare : Nat -> Bool}{t : TypeId}{fs : Array Field}{n : Nat}{cs : List Value}{x : DataW H × List MemPlace}
 (ht : P.underlying t = some (.struct fs)) (h : DataW.trod enc P W base spare held n t cs = some x) : ∃m,m<n /\ ∀(i : Nat) (f : Field),fs[i]? = some f -> ∃y,DataW.trod enc P W base spare held m f.type ((cs.drop f.offset).take (P.cellsOf f.type)) = some y:=by
 obtain⟨xs,m,rfl,_,_,hl,hf⟩:=DataW.trod_struct ht h
 refine⟨m,Nat.lt_succ_self _,λi f hi => ?_⟩
 have aH:=(Array.getElem?_eq_some_iff.1 hi).1
 exact⟨xs[i]'(by omega),by rw[hf i f hi,b9 (by omega)]⟩
end Go.LN
