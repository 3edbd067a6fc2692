/- Helper of the proof (see the last text). -/
import Derived.Test.YtkipogionmkncaaGreatDoorLnP
import Derived.Deep.Slices
import Derived.Below
import Derived.WideShapes
set_option linter.unusedVariables false
set_option linter.unusedSimpArgs false
namespace Go.LN
open Go.ChangeShapes Go.WideShapes Go.Deep
def imm0(w:World):Imm:=λb=>match w.heap[b]? with|some (.cells c _ _)=>some c|_=>none
theorem zNg{w:World}{b:Nat}{c:Array Value}{ty:TypeId}{fr:Nat×Nat}(h:w.heap[b]?=some (.cells c ty fr)):imm0 w b=some c:=by simp[imm0,h]
theorem good0(w:World):Good ⟨w,imm0 w,[]⟩ (imm0 w) [] w:=
 ⟨(λb c e=>by
   unfold imm0 at e
   split at e
   ·rename_i c' ty fr h
    cases e;exact⟨ty,fr,h⟩
   ·cases e),by simp,by simp,⟨rfl,rfl,rfl,zf _,λ_ _ _=>rfl,λ_ _ _=>rfl⟩⟩
theorem zJC{a:Addr}(h:a.spot=none)(i:Nat):a.add i=⟨a.block,a.off+i,none⟩:=by
 unfold Addr.add;by_cases hi:i=0
 ·subst hi;simp[<- h]
 ·simp[hi,h]
theorem zPI{w:World}{base:Nat}{a:Addr}{c:Array Value}{ty:TypeId}{fr:Nat×Nat}(hw:w.heap[a.block]?=some (.cells c ty fr))(hs:a.spot=none):∀{n:Nat}{cs:List Value},w.cells? base a n=some cs->cs=(c.toList.drop a.off).take n/\cs.length=n:=by
 intro n cs h;unfold World.cells? at h;split at h
 ·have fh:∀(l:List Nat) (r:List Value),l.mapM (λi=>w.cell? (a.add i))=some r->r.length=l.length/\∀(j i:Nat),l[j]?=some i->r[j]?=c.toList[a.off+i]?/\(r[j]?).isSome:=by
   intro l
   induction l with
   | nil=>intro r hr;simp at hr;subst hr;simp
   | cons x l ih=>
    intro r hr;simp only[List.mapM_cons,xr,Option.bind_eq_some_iff,xw,Option.some.injEq] at hr;obtain⟨v,hv,r',hr',rfl⟩:=hr;obtain⟨i1,i2⟩:=ih r' hr';refine⟨by simp[i1],λj i hj=>?_⟩;cases j with
    | zero=>
     simp at hj;subst hj;rw[zJC hs] at hv;simp only[World.cell?,hw] at hv;simp at hv;simp[hv]
    | succ j=>
     simp at hj;simpa using i2 j i hj
  obtain⟨k1,k2⟩:=fh _ _ h;rw[List.length_range] at k1;refine⟨?_,k1⟩;apply Bk;intro j;by_cases hj:j<n
  ·have:=(k2 j j (by simp[hj])).1;rw[this,Ax,if_pos hj,AS]
  ·rw[Aj (by omega),Ax,if_neg hj]
 ·cases h
theorem zNh{P:Program}{fits:TypeId->Bool}:∀{d:Nat}{e:TypeId}{count off n:Nat},rowAt P fits d e count off n=true->off<=count*P.cellsOf e
 | 0,e,count,off,n,h=>by simp[rowAt] at h
 | d+1,e,count,off,n,h=>by
  unfold rowAt at h
  simp only at h
  split at h
  ·cases h
  ·rename_i hs
   have jq:0<P.cellsOf e:=Nat.pos_of_ne_zero hs
   have hdm:=Nat.div_add_mod off (P.cellsOf e)
   rw[Am] at h
   rcases h with h|h
   ·simp only[xv,beq_iff_eq,yd] at h
    have h1:off / P.cellsOf e<=count:=by omega
    have:=zy (P.cellsOf e) h1
    rw[Nat.mul_comm] at hdm
    omega
   ·simp only[xv,yd] at h
    have h1:off / P.cellsOf e+1<=count:=h.1
    have:=zy (P.cellsOf e) h1
    have hm:=Nat.mod_lt off jq
    rw[Ag] at this
    rw[Nat.mul_comm] at hdm
    omega
theorem zJD{P:Program}:∀{d:Nat}{e u:TypeId}{count off n:Nat},liesAt P d e count off u n=true->off<=count*P.cellsOf e
 | 0,e,u,count,off,n,h=>by simp[liesAt] at h
 | d+1,e,u,count,off,n,h=>by
  unfold liesAt at h
  rw[Am] at h
  rcases h with h|h
  ·exact zNh h
  ·split at h
   ·exact zJD h
   ·cases h
theorem zQz{α:Type}[Rp α]{H:Type}{enc:TypeId×Value->H}{P:Program}{W:World}{base b0:Nat}{spare:Nat->Bool}{held:Bool}{t e:TypeId}{v:Value}{d:DataW H}{ps:List MemPlace}{r:Reach}{p:α->Prop}
 (ht:P.underlying t=some (.slice e)) (hc:P.cellsOf e=Rp.sz α) (hel:∀n cs x,DataW.trod enc P W base spare held n e cs=some x->cs.length=Rp.sz α->∃a:α,Rp.rep (imm0 W) cs a/\p a)
 (hok:Value.okWide P W r b0 t v) (h:DataW.Trod enc P W base spare held t v d ps):∃(a:Option Addr) (l:List α) (c:Nat),v=.slice a l.length c/\SL (imm0 W) (.slice a l.length c) l/\(∀x∈l,p x)/\l.length<=maxLen:=by
 obtain⟨hS,hf⟩:=h
 obtain⟨a0,len0,cap0,rfl⟩:=okWide_slice ht hok
 rcases open_slice ht hf with⟨gy,_⟩|⟨a,len,bi,m,n,D,Pl,gy,hb,hl,hm,hmm,_,hx⟩
 ·simp[Value.cells] at gy
  obtain⟨rfl,rfl,rfl⟩:=gy
  exact⟨none,[],0,rfl,SL.nil _,by simp,zt _⟩
 ·simp[Value.cells] at gy
  obtain⟨rfl,rfl,rfl⟩:=gy
  simp only[Value.okWide,ht,Cell.okWide,Cell.ok] at hok
  obtain⟨_,_,_,xg,row,cells,hsh,hlies⟩:=hok
  unfold World.shape? at hsh
  split at hsh
  ·rename_i c el fr hw
   cases hsh
   have hoff:a.off<=c.size:=zw (zJD hlies) (Nat.div_mul_le_self _ _)
   have hlm:len0<=m:=by rw[hmm];split <;> omega
   have jq:=Rp.pos (α:=α)
   have step:∀k,k<=len0->∃l:List α,l.length=k/\RepL (Rp.rep (imm0 W)) (Rp.sz α) ((c.toList.drop a.off).take (k*Rp.sz α)) l/\(∀x∈l,p x)/\a.off+k*Rp.sz α<=c.size:=by
    intro k
    induction k with
    | zero=>intro _;exact⟨[],rfl,by simp[RepL],by simp,by omega⟩
    | succ k ih=>
     intro hk
     obtain⟨l,h1,h2,h3,h4⟩:=ih (by omega)
     obtain⟨et,k1,k2⟩:=hx k (by omega)
     rw[hc] at k1
     rw[zJC xg] at k1
     obtain⟨e1,e2⟩:=zPI (a:=⟨a.block,a.off+k*Rp.sz α,none⟩) hw rfl k1
     obtain⟨x,x1,x2⟩:=hel _ _ _ k2 e2
     have hm2:(k+1)*Rp.sz α=k*Rp.sz α+Rp.sz α:=Ag _ _
     have e3:(c.toList.drop a.off).take ((k+1)*Rp.sz α)=(c.toList.drop a.off).take (k*Rp.sz α)++et:=by
      rw[hm2,List.take_add,e1,zr]
     refine⟨l++[x],by simp[h1],?_,?_,?_⟩
     ·rw[e3];exact h2.append (.single e2 x1)
     ·intro y hy
      rcases yr.1 hy with hy|hy
      ·exact h3 y hy
      ·simp at hy;subst hy;exact x2
     ·have:et.length=Rp.sz α:=e2
      rw[e1,yl,yt,Aq] at this
      simp only at this
      omega
   obtain⟨l,h1,h2,h3,h4⟩:=step len0 (zf _)
   subst h1
   obtain⟨ab,ao,asp⟩:=a
   simp only at xg
   subst xg
   refine⟨_,l,cap0,rfl,⟨_,.inr ⟨ab,ao,l.length,cap0,c,rfl,zNg hw,h4,hl,?_,rfl⟩,h2⟩,h3,by omega⟩
   rw[h2.length]
  ·cases hsh
end Go.LN
