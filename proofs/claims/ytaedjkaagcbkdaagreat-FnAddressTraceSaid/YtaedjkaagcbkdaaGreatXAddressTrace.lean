/- Helper of the proof (see the last text). -/
import Derived.Test.YtaedjkaagcbkdaaGreatLnA
import Derived.Test.YtaedjkaagcbkdaaGreatLnI
import Derived.Test.YtaedjkaagcbkdaaGreatLnQ
import Derived.Test.YtaedjkaagcbkdaaGreatTryzShelf
import Derived.Test.YtaedjkaagcbkdaaGreatHM1
import Derived.Test.YtaedjkaagcbkdaaGreatHM2
import Derived.Test.YtaedjkaagcbkdaaGreatHM3
import Derived.Test.YtaedjkaagcbkdaaGreatHM4
import Derived.Test.YtaedjkaagcbkdaaGreatHM5
import Derived.Test.YtaedjkaagcbkdaaGreatHM6
import Derived.Test.YtaedjkaagcbkdaaGreatHM7
import Derived.Test.YtaedjkaagcbkdaaGreatHM8
import Derived.Test.YtaedjkaagcbkdaaGreatQT
import Derived.Test.YtaedjkaagcbkdaaGreatQZ
import Derived.Test.YtaedjkaagcbkdaaGreatVB1
import Derived.Test.YtaedjkaagcbkdaaGreatVB8
import Derived.Test.YtaedjkaagcbkdaaGreatLnR
set_option linter.unusedVariables false
set_option linter.unusedSimpArgs false
namespace Go.LN
section
variable {P:Program}{n:Nat}{B:Base}{Q:Exit→Act→World→Prop}{imm:Imm}{hs:List HA}{m:FM}{ops:List Oper}{pc d:Nat}
theorem Rd_index_osl {α:Type} [Rp α] {t:TypeId}{x xi:Operand}{a0:Option Addr}{cap0:Nat}{k:IntKind}{i:Int}{cs:List Value}{l:List α}{y:α} (j:Nat)
    (hj:hs[j]?=some (.osl (.slice a0 l.length cap0) (Rp.sz α) cs)) (hx:val m x=some (.slice a0 l.length cap0)) (hi:val m xi=some (.int k i)) (ht:elemT P t=some (Rp.sz α))
    (hr:RepL (Rp.rep imm) (Rp.sz α) cs l) (hy:idx l i=some y) (hne:∃ b off,a0=some ⟨b,off,none⟩) :
    ∃ ad cc,AtO (.slice a0 l.length cap0) (Rp.sz α) i.toNat ad∧(cs.drop (i.toNat * Rp.sz α)).take (Rp.sz α)=cc∧Rp.rep imm cc y∧Reads P n B imm hs m (.indexAddr t x xi) (.pointer (some ad)):=by
  obtain ⟨h0,h1,h2⟩:=sJ hy
  obtain ⟨hrep,hbd⟩:=hr.at h2
  obtain ⟨b,off,rfl⟩:=hne
  exact ⟨_,_,⟨b,off,_,cap0,rfl,rfl,by omega⟩,rfl,hrep,fun oo a w he f gd=>by simp only [execOp,he,f.eval hx,f.eval hi,Sem.run_bind,dW ht h0 h1,Result.andThen_ok,Sem.run_pure]⟩
theorem Rd_load_osl {t:TypeId}{x:Operand}{v0:Value}{sz i:Nat}{ad:Addr}{cs cc cc':List Value}{v:Value} (j o:Nat) (hj:hs[j]?=some (.osl v0 sz cs)) (hat:AtO v0 sz i ad) (hx:val m x=some (.pointer (some (ad.add o))))
    (hcc:(cs.drop (i * sz)).take sz=cc) (hol:Nat.ble (o + cc'.length) sz=true) (hc:(cc.drop o).take cc'.length=cc') (hv:loadV P t cc'=some v):Reads P n B imm hs m (.load t x) v:=fun oo a w he f gd=>by
  obtain ⟨b,off,len,cap,rfl,rfl,hi⟩:=hat
  have hol:=Nat.le_of_ble_eq_true hol
  have him:i * sz + sz ≤ len * sz:=by have:=Nat.mul_le_mul_right sz hi; rw [Nat.succ_mul] at this; exact this
  rcases gd.readO (rD hj) with ⟨e,_⟩ | ⟨b',off',len',cap',c,ty',fr,e,hw,hle,hcl,hcs⟩
  · cases e
  · injection e with e1 e2 e3
    injection e1 with e1
    injection e1 with e1 e4 e5
    subst e1; subst e4; subst e2
    have hcells:(c.toList.drop (off + i * sz + o)).take cc'.length=cc':=by
      conv=>rhs; rw [← hc,← hcc,← hcs]
      simp only [List.drop_take,List.take_take,List.drop_drop]
      rw [show off + i * sz + o=off + (i * sz + o) from by omega]
      congr 1
      omega
    simp only [execOp,he,f.eval hx,Instr.loadAt,Instr.sureAddr,Sem.run_bind,Sem.run_pure,Result.andThen_ok,mL,mM hw (by omega) hcells hv]
end
end Go.LN
namespace Go.LN
section
variable {P:Program}{n:Nat}{B:Base}{Q:Exit→Act→World→Prop}{imm:Imm}{hs:List HA}{m:FM}{ops:List Oper}{pc d:Nat}
section
variable {ty:TypeId}{pos:String}{after:Array Edge}{g:Option (Nat×Bool)}
theorem Rq_index_osl {α:Type} [Rp α] {t:TypeId}{x xi:Operand}{v:Value}{k:IntKind}{i:Int}{cs:List Value}{l:List α}{y:α} (j:Nat)
    (ho:ops[pc]?=some ⟨some d,.indexAddr t x xi,ty,pos,after,g⟩) (hg:guardB ops m g=some true) (hn:Nat.blt d n=true) (hj:hs[j]?=some (.osl v (Rp.sz α) cs)) (hx:val m x=some v) (hi:val m xi=some (.int k i)) (ht:elemT P t=some (Rp.sz α))
    (hr:RepL (Rp.rep imm) (Rp.sz α) cs l) (hy:idx l i=some y)
    (next:∀ ad cc,AtO v (Rp.sz α) i.toNat ad→(cs.drop (i.toNat * Rp.sz α)).take (Rp.sz α)=cc→Rp.rep imm cc y→Rq P n B ops Q (pc + 1) imm hs ((d,.pointer (some ad))::m)):Rq P n B ops Q pc imm hs m:=fun a w f gd=>by
  obtain ⟨h0,h1,h2⟩:=sJ hy
  obtain ⟨hrep,hbd⟩:=hr.at h2
  rcases gd.readO (rD hj) with ⟨rfl,rfl⟩ | ⟨b,off,len,cap,c,ty',fr,rfl,hw,hle,hcl,hcs⟩
  · have:=Rp.pos (α:=α)
    simp at hbd; omega
  · have hlen:=hr.length
    have hll:len=l.length:=pX (Rp.pos (α:=α)) (by omega)
    subst hll
    obtain ⟨ad,cc,k1,k2,k3,k4⟩:=Rd_index_osl (P:=P) (n:=n) (B:=B) j hj hx hi ht hr hy ⟨b,off,rfl⟩
    exact fF ho hg rfl hn k4 (next ad cc k1 k2 k3) a w f gd
theorem Rq_load_osl {t:TypeId}{x:Operand}{v0:Value}{sz i:Nat}{ad:Addr}{cs cc cc':List Value}{v:Value} (j o:Nat)
    (ho:ops[pc]?=some ⟨some d,.load t x,ty,pos,after,g⟩) (hg:guardB ops m g=some true) (hn:Nat.blt d n=true) (hj:hs[j]?=some (.osl v0 sz cs)) (hat:AtO v0 sz i ad) (hx:val m x=some (.pointer (some (ad.add o))))
    (hcc:(cs.drop (i * sz)).take sz=cc) (hol:Nat.ble (o + cc'.length) sz=true) (hc:(cc.drop o).take cc'.length=cc') (hv:loadV P t cc'=some v) (next:Rq P n B ops Q (pc + 1) imm hs ((d,v)::m)):Rq P n B ops Q pc imm hs m :=
  fF ho hg rfl hn (Rd_load_osl j o hj hat hx hcc hol hc hv) next
end
end
end Go.LN
namespace Go.LN
section
variable {P:Program}{n:Nat}{B:Base}{Q:Exit→Act→World→Prop}{imm:Imm}{hs:List HA}{m:FM}{ops:List Oper}
theorem wp_imp {o:Oper}{a:Act}{w:World}{K K':Act→World→Prop}{Q Q':Exit→Act→World→Prop} (hK:∀ a w,K a w→K' a w) (hQ:∀ e a w,Q e a w→Q' e a w) (hh:o.wp P a w K Q):o.wp P a w K' Q':=by
  unfold Oper.wp at *;generalize (execOp a.eval o).run P w=r at *;cases r with
  | ok x w' =>
    cases x <;> simp only [Oper.upon] at hh ⊢
    case value=>exact hK _ _ hh
    case skip=>exact hK _ _ hh
    case defer=>exact hK _ _ hh
    case enter =>
      refine Calls.mono hh fun e w'' he=>?_;cases e with
      | returned v=>exact hK _ _ he
      | panicked c=>exact hQ _ _ _ he
      | outgrown =>
        obtain ⟨a1,w1,he⟩:=he;exact ⟨a1,w1,hQ _ _ _ he⟩
    case row=>exact Rows.mono hh fun _ _ he=>hK _ _ he
  | halt x w' =>
    cases x <;> simp only [Oper.upon] at hh ⊢
    case panic=>exact hQ _ _ _ hh
    all_goals first | exact hh | exact hQ _ _ _ hh | (obtain ⟨a1,w1,he⟩:=hh; exact ⟨a1,w1,hQ _ _ _ he⟩)
theorem wpL_imp {o:Array Oper}{Q Q':Exit→Act→World→Prop} (hQ:∀ e a w,Q e a w→Q' e a w):∀ (l:List Oper) (a:Act) (w:World),wpL P o Q l a w→wpL P o Q' l a w
  | [],a,w,h=>hQ _ _ _ h
  | x::l,a,w,h=>by
    simp only [wpL] at h ⊢
    split
    · rename_i hw; rw [if_pos hw] at h; exact wp_imp (wpL_imp hQ l) hQ h
    · rename_i hw; rw [if_neg hw] at h; exact wpL_imp hQ l _ _ h
theorem R_imp {ops':List Oper}{pc:Nat}{Q Q':Exit→Act→World→Prop} (hQ:∀ e a w,Q e a w→Q' e a w) (h:R P n B ops' Q pc imm hs m):R P n B ops' Q' pc imm hs m:=fun a w f g=>wpL_imp hQ _ _ _ (h a w f g)
theorem R_bor {ops':List Oper}{pc:Nat}{φi:Fact}{d:Option Nat}{imm1:Imm}{hsC hf g hf':List HA} (hp:hf.Perm (g ++ hf')) (h:R P n B ops' (OutQ n B φi d imm1 (hsC ++ (g ++ hf'))) pc imm (hsC ++ (g ++ hf')) m):R P n B ops' (OutQ n B φi d imm1 (hsC ++ hf)) pc imm (hsC ++ hf) m :=
  R_imp (fun e a w hq=>by
    obtain ⟨h1,h2,imm',v,hx,h3,h4,h5,h6⟩:=hq
    exact ⟨h1,h2,imm',v,hx,h3,h4,h5.perm (List.Perm.append_left _ (List.Perm.append_left _ hp)),h6⟩) (rY (fun w hw=>hw.perm (List.Perm.append_left _ hp.symm)) h)
end
end Go.LN
namespace Go.LN
section
variable {P:Program}{n:Nat}{B:Base}{Q:Exit→Act→World→Prop}{imm:Imm}{hs:List HA}{m:FM}{ops:List Oper}{pc d:Nat}
theorem Good.recast {w:World} (h:Good B imm hs w) {j:Nat}{A A':HA} (hj:hs[j]?=some A) (hA:A'.ok B imm w) (hfp:∀ b ∈ A'.fp,b ∈ A.fp):Good B imm (hs.set j A') w:=by
  have hp:=nC hj;have h2:=h.perm hp.symm;refine Good.perm (hs:=A'::hs.eraseIdx j) ⟨h.inv,fun A2 h3=>?_,?_,h.frm⟩ (zDd (List.getElem?_eq_some_iff.1 hj).1)
  · rcases List.mem_cons.1 h3 with rfl | h3
    · exact hA
    · exact h2.own _ (List.mem_cons_of_mem _ h3)
  · have hn:=h2.nodup;rw [List.flatMap_cons] at hn ⊢;obtain ⟨_,n2,n3⟩:=List.nodup_append.1 hn;refine List.nodup_append.2 ⟨?_,n2,fun x hx y hy=>n3 x (hfp x hx) y hy⟩;cases A' with
    | blk b c=>simp [HA.fp]
    | obj b o=>simp [HA.fp]
    | osl v sz cs =>
      cases v <;> first | simp [HA.fp] | skip
      rename_i a _ _; cases a <;> simp [HA.fp]
theorem R_cut_osl {α:Type} [Rp α] {t:TypeId}{x:Operand}{lo hi:Option Operand}{ty:TypeId}{pos:String}{after:Array Edge}{g:Option (Nat×Bool)}{v:Value}{i k:Int}{cs:List Value}{l y:List α} (j:Nat)
    (ho:ops[pc]?=some ⟨some d,.slice t x lo hi none,ty,pos,after,g⟩) (hg:guardB ops m g=some true) (hn:Nat.blt d n=true) (hj:hs[j]?=some (.osl v (Rp.sz α) cs)) (hx:val m x=some v) (ht:elemT P t=some (Rp.sz α))
    (hlo:bnd m 0 lo=some i) (hhi:bnd m l.length hi=some k) (hr:RepL (Rp.rep imm) (Rp.sz α) cs l) (hy:slc l i k=some y)
    (next:∀ a' c' cs',(∀ b ∈ (HA.osl (.slice a' y.length c') (Rp.sz α) cs').fp,b ∈ (HA.osl v (Rp.sz α) cs).fp)→RepL (Rp.rep imm) (Rp.sz α) cs' y→R P n B ops Q (pc + 1) imm (hs.set j (.osl (.slice a' y.length c') (Rp.sz α) cs')) ((d,.slice a' y.length c')::m)):R P n B ops Q pc imm hs m:=by
  refine nG ho hg rfl hn fun a w f gd=>?_
  unfold slc at hy
  split at hy
  · rename_i hb
    cases hy
    have hrep:=(hr.take k.toNat).drop i.toNat
    have hlen:=hr.length
    have hz:=Rp.pos (α:=α)
    have hyl:((l.take k.toNat).drop i.toNat).length=k.toNat - i.toNat:=by simp; omega
    obtain ⟨e,hu,hse⟩:∃ e,P.underlying t=some (.slice e)∧sizeT P e=some (Rp.sz α):=by
      unfold elemT at ht
      split at ht
      · rename_i e hu; exact ⟨e,hu,ht⟩
      · cases ht
    have step:∀ (ad:Option Addr) (cap:Nat),v=.slice ad l.length cap→l.length ≤ cap →
        HA.ok B imm w (.osl (.slice (if cap=i.toNat then ad else ad.map (·.add (i.toNat * Rp.sz α))) (k.toNat - i.toNat) (cap - i.toNat)) (Rp.sz α) ((cs.take (k.toNat * Rp.sz α)).drop (i.toNat * Rp.sz α))) →
        (∀ b ∈ (HA.osl (.slice (if cap=i.toNat then ad else ad.map (·.add (i.toNat * Rp.sz α))) (k.toNat - i.toNat) (cap - i.toNat)) (Rp.sz α) ((cs.take (k.toNat * Rp.sz α)).drop (i.toNat * Rp.sz α))).fp,b ∈ (HA.osl v (Rp.sz α) cs).fp) →
        ∃ v' w' imm' hs',(execOp a.eval ⟨some d,.slice t x lo hi none,ty,pos,after,g⟩).run P w=.ok (.value v') w'∧Good B imm' hs' w'∧R P n B ops Q (pc + 1) imm' hs' ((d,v')::m):=by
      intro ad cap hv hlc hok hfp
      subst hv
      have hbd:=zDG (P:=P) (w:=w) f hlo hhi hb.1 hb.2.1 hb.2.2 hlc
      have hne:=next (if cap=i.toNat then ad else ad.map (·.add (i.toNat * Rp.sz α))) (cap - i.toNat) ((cs.take (k.toNat * Rp.sz α)).drop (i.toNat * Rp.sz α)) (by rw [hyl]; exact hfp) hrep
      rw [hyl] at hne
      refine ⟨_,w,imm,_,?_,gd.recast hj hok hfp,hne⟩
      simp only [execOp,f.eval hx,Option.map_none,Instr.sliceAt,Instr.slice,Sem.run_bind,xH hu,Result.andThen_ok,hbd,qV hse,Sem.run_pure]
    rcases gd.own _ (rD hj) with ⟨rfl,rfl⟩ | ⟨b,off,len,cap,all,ty',rfl,hp1,hp2,hw,hcap,hlc,hcl,hcs,hcM⟩
    · have hl0:l.length=0:=by
        have:l.length * Rp.sz α=0:=by rw [← hlen]; rfl
        rcases Nat.mul_eq_zero.1 this with h | h <;> omega
      refine step none 0 (by rw [hl0]) (by omega) (.inl ⟨?_,by simp⟩) (fun b hb=>?_)
      · have:k.toNat - i.toNat=0:=by omega
        simp [this]
      · simp [HA.fp] at hb
    · have hll:len=l.length:=pX hz (by omega)
      subst hll
      have hmul:∀ {p q:Nat},p ≤ q→p * Rp.sz α ≤ q * Rp.sz α:=fun h=>Nat.mul_le_mul_right _ h
      have e1:=hmul (show i.toNat ≤ k.toNat by omega)
      have e2:=hmul (show k.toNat ≤ l.length by omega)
      have e3:=hmul hlc
      refine step (some ⟨b,off,none⟩) cap rfl hlc ?_ (fun b' hb'=>?_)
      · by_cases hc0:cap=i.toNat
        · have hk:k.toNat - i.toNat=0:=by omega
          have hik:i.toNat=k.toNat:=by omega
          refine .inr ⟨b,off,0,0,all,ty',by simp [hc0,hik],hp1,hp2,hw,by omega,Nat.le_refl _,?_,?_,by omega⟩
          · simp [hik]
          · simp [hik]
        · refine .inr ⟨b,off + i.toNat * Rp.sz α,k.toNat - i.toNat,cap - i.toNat,all,ty',by simp [hc0,mL],hp1,hp2,hw,?_,by omega,?_,?_,by omega⟩
          · rw [Nat.sub_mul]; have:=hmul (show i.toNat ≤ cap by omega); omega
          · rw [List.length_drop,List.length_take,Nat.sub_mul]; omega
          · rw [Nat.sub_mul,← hcs]
            apply List.ext_getElem?
            intro q
            simp only [List.getElem?_take,List.getElem?_drop]
            grind
      · by_cases hc0:cap=i.toNat
        · simpa [HA.fp,hc0] using hb'
        · simpa [HA.fp,hc0,mL] using hb'
  · cases hy
end
end Go.LN
namespace Go.LN
theorem FP_nil {α:Type} [Rp α] {imm:Imm}:FP imm (.pointer none) (none:Option α):=rfl
theorem FP_at {α:Type} [Rp α] {imm:Imm}{ad:Addr}{cs:List Value}{x:α} (h:At imm ad cs) (hr:Rp.rep imm cs x):FP imm (.pointer (some ad)) (some x):=⟨ad,cs,rfl,h,hr⟩
theorem FP_some {α:Type} [Rp α] {imm:Imm}{v:Value}{o:Option α}{x:α} (h:FP imm v o) (e:o=some x):∃ ad cs,v=.pointer (some ad)∧At imm ad cs∧Rp.rep imm cs x:=by subst e; exact h
section
variable {P:Program}{n:Nat}{B:Base}{Q:Exit→Act→World→Prop}{imm:Imm}{hs:List HA}{m:FM}{ops:List Oper}
theorem Ob {φ:List Fact}{hsC:List HA}{i:Nat}{v:Value}{r:List It}{l:List (Nat×Bool)}{ins:List (List (Nat×Bool))}
    (ho:∀ imm1 hf,imm.le imm1→Bor ops φ imm1 l hf→Ins ops φ imm1 l m (hsC ++ hf) fun m' hs'=>R P n B (ops.take (i + 1)) (OutQ n B (φ.getD i nofact) (dstAt ops i) imm1 (hsC ++ hf)) i imm1 hs' m')
    (h:ObX P n B ops φ imm hsC m (i + 1) r ins):ObX P n B ops φ imm hsC m i (.q v::r) (l::ins):=⟨ho,h⟩
end
end Go.LN
namespace Go.LN
section
variable {P:Program}{n:Nat}{B:Base}{Q:Exit→Act→World→Prop}{imm:Imm}{hs:List HA}{m:FM}{ops:List Oper}{pc d:Nat}{ty:TypeId}{pos:String}{after:Array Edge}{g:Option (Nat×Bool)}
theorem Rq_ixo {α:Type} [Rp α] {t:TypeId}{x xi:Operand}{v:Value}{k:IntKind}{i:Int}{cs:List Value}{l:List α}{y:α} (j:Nat) (ho:ops[pc]?=some ⟨some d,.indexAddr t x xi,ty,pos,after,g⟩) (hi:val m xi=some (.int k i)) (hj:hs[j]?=some (.osl v (Rp.sz α) cs)) (hr:RepL (Rp.rep imm) (Rp.sz α) cs l) (hy:idx l i=some y) (next:∀ ad cc,AtO v (Rp.sz α) i.toNat ad→(cs.drop (i.toNat * Rp.sz α)).take (Rp.sz α)=cc→Rp.rep imm cc y→Rq P n B ops Q (pc + 1) imm hs ((d,.pointer (some ad))::m)) (hg:guardB ops m g=some true:=by kernel_rfl) (hn:Nat.blt d n=true:=by kernel_rfl) (hx:val m x=some v:=by kernel_rfl) (ht:elemT P t=some (Rp.sz α):=by kernel_rfl):Rq P n B ops Q pc imm hs m :=
  Rq_index_osl j ho hg hn hj hx hi ht hr hy next
theorem Rq_lo {t:TypeId}{x:Operand}{v0:Value}{sz i:Nat}{ad:Addr}{cs cc:List Value} (j o:Nat) (hat:AtO v0 sz i ad) (hcc:(cs.drop (i * sz)).take sz=cc) (cc':List Value) (v:Value) (ho:ops[pc]?=some ⟨some d,.load t x,ty,pos,after,g⟩) (hj:hs[j]?=some (.osl v0 sz cs)) (next:Rq P n B ops Q (pc + 1) imm hs ((d,v)::m)) (hg:guardB ops m g=some true:=by kernel_rfl) (hn:Nat.blt d n=true:=by kernel_rfl) (hx:val m x=some (.pointer (some (ad.add o))):=by kernel_rfl) (hol:Nat.ble (o + cc'.length) sz=true:=by kernel_rfl) (hc:(cc.drop o).take cc'.length=cc':=by kernel_rfl) (hv:loadV P t cc'=some v:=by kernel_rfl):Rq P n B ops Q pc imm hs m :=
  Rq_load_osl j o ho hg hn hj hat hx hcc hol hc hv next
end
end Go.LN
namespace Go.LN
structure impl_traced where
  Program:zW
  list:List zU
  reads:List (List Int)
  writes:List Int
instance:Rp impl_traced where
  sz:=5
  pos:=by decide
  rep i cs s:=∃ v0 v1 v2 v3 v4:Value,cs=[v0,v1,v2,v3,v4]∧SL i v0 s.Program.Arrays∧SL i v1 s.Program.Parts∧SL i v2 s.list∧SL i v3 s.reads∧SL i v4 s.writes
  len h:=by obtain ⟨v0,v1,v2,v3,v4,rfl,h0,h1,h2,h3,h4⟩:=h; rfl
  mono hm h:=by obtain ⟨v0,v1,v2,v3,v4,e,h0,h1,h2,h3,h4⟩:=h; exact ⟨v0,v1,v2,v3,v4,e,h0.mono hm,h1.mono hm,h2.mono hm,h3.mono hm,h4.mono hm⟩
  one h:=by obtain ⟨v0,v1,v2,v3,v4,rfl,h0,h1,h2,h3,h4⟩:=h; simp [h0.one,h1.one,h2.one,h3.one,h4.one]
theorem impl_traced_open {i:Imm}{cs:List Value}{s:impl_traced} (h:Rp.rep i cs s):∃ v0 v1 v2 v3 v4:Value,cs=[v0,v1,v2,v3,v4]∧SL i v0 s.Program.Arrays∧SL i v1 s.Program.Parts∧SL i v2 s.list∧SL i v3 s.reads∧SL i v4 s.writes:=h
theorem impl_traced_shut {i:Imm}{cs:List Value}{s:impl_traced} (h:∃ v0 v1 v2 v3 v4:Value,cs=[v0,v1,v2,v3,v4]∧SL i v0 s.Program.Arrays∧SL i v1 s.Program.Parts∧SL i v2 s.list∧SL i v3 s.reads∧SL i v4 s.writes):Rp.rep i cs s:=h
instance:Vr impl_traced:=⟨fun i v a=>∃ cs,v=.agg ⟨cs⟩∧Rp.rep i cs a,fun hl ⟨cs,e,h⟩=>⟨cs,e,Rp.mono hl h⟩⟩
structure spec_l6Use where
  reads:List Int
  write:Int
instance:Rp spec_l6Use where
  sz:=2
  pos:=by decide
  rep i cs s:=∃ v0:Value,cs=[v0,.int .i64 s.write]∧SL i v0 s.reads
  len h:=by obtain ⟨v0,rfl,h0⟩:=h; rfl
  mono hm h:=by obtain ⟨v0,e,h0⟩:=h; exact ⟨v0,e,h0.mono hm⟩
  one h:=by obtain ⟨v0,rfl,h0⟩:=h; simp [zA5,h0.one]
theorem spec_l6Use_open {i:Imm}{cs:List Value}{s:spec_l6Use} (h:Rp.rep i cs s):∃ v0:Value,cs=[v0,.int .i64 s.write]∧SL i v0 s.reads:=h
theorem spec_l6Use_shut {i:Imm}{cs:List Value}{s:spec_l6Use} (h:∃ v0:Value,cs=[v0,.int .i64 s.write]∧SL i v0 s.reads):Rp.rep i cs s:=h
instance:Vr spec_l6Use:=⟨fun i v a=>∃ cs,v=.agg ⟨cs⟩∧Rp.rep i cs a,fun hl ⟨cs,e,h⟩=>⟨cs,e,Rp.mono hl h⟩⟩
end Go.LN
namespace Go.LN
section
variable {P:Program}{n:Nat}{B:Base}{Q:Exit→Act→World→Prop}{imm:Imm}{hs:List HA}{m:FM}{ops:List Oper}{pc d:Nat}{ty:TypeId}{pos:String}{after:Array Edge}{g:Option (Nat×Bool)}
theorem SL.clip {α:Type} [Rp α] {a:Option Addr}{cap:Nat}{l:List α} (h:SL imm (.slice a l.length cap) l):SL imm (.slice (if l.length=0 then a else a.map (·.add (0 * Rp.sz α))) (l.length - 0) (l.length - 0)) l:=by
  obtain ⟨ccs,hsl,hr⟩:=h;refine ⟨ccs,?_,hr⟩;rcases hsl with ⟨e,rfl⟩ | ⟨b,off,len',cap',c,e,hc,hle,hlc,hcl,hcs⟩
  · injection e with e1 e2 e3;exact .inl ⟨by simp [e1,e2],rfl⟩
  · injection e with e1 e2 e3;subst e1; subst e2;exact .inr ⟨b,off,l.length,l.length,c,by simp [mL],hc,hle,Nat.le_refl _,hcl,hcs⟩
theorem R_s3 {α:Type} [Rp α] {t:TypeId}{x y z:Operand}{v:Value}{l:List α} (ho:ops[pc]?=some ⟨some d,.slice t x none (some y) (some z),ty,pos,after,g⟩) (hs':SL imm v l)
    (next:∀ v',SL imm v' l→R P n B ops Q (pc + 1) imm hs ((d,v')::m)) (hg:guardB ops m g=some true:=by kernel_rfl) (hn:Nat.blt d n=true:=by kernel_rfl) (hx:val m x=some v:=by kernel_rfl) (hy:val m y=some (.int .i64 (l.length:Int)):=by kernel_rfl) (hz:val m z=some (.int .i64 (l.length:Int)):=by kernel_rfl) (ht:elemT P t=some (Rp.sz α):=by kernel_rfl):R P n B ops Q pc imm hs m:=by
  refine nG ho hg rfl hn fun a w f gd=>?_
  obtain ⟨ad,cap,rfl⟩:=hs'.form
  have hlc:l.length ≤ cap:=by
    obtain ⟨ccs,hsl,hr⟩:=hs'
    rcases hsl with ⟨e,rfl⟩ | ⟨b,off,len',cap',c,e,_,_,hlc,_⟩
    · injection e with _ e2 e3; omega
    · injection e with _ e2 e3; omega
  have hbd:(Instr.sliceBounds true l.length cap none (some (.int .i64 (l.length:Int))) (some (.int .i64 (l.length:Int)))).run P w=.ok (0,l.length,l.length) w:=by
    simp [Instr.sliceBounds,Instr.sliceBound,asIntOf,hlc]
  refine ⟨_,w,imm,hs,?_,gd,next _ hs'.clip⟩
  unfold elemT at ht
  split at ht
  · rename_i e hu
    simp only [execOp,f.eval hx,f.eval hy,f.eval hz,Option.map_none,Option.map_some,Instr.sliceAt,Instr.slice,Sem.run_bind,xH hu,Result.andThen_ok,hbd,qV ht,Sem.run_pure]
  · cases ht
end
end Go.LN
namespace Go.LN
open Go.Proofs
set_option maxRecDepth 20000
def spec_DrawAddressTrace_post (r:zW):KT:=fun kk imm' hs' v=>
  ∃ v0,hs'=[]∧v=tupV [v0]∧(∃ cs,v0=.agg ⟨cs⟩∧Rp.rep imm' cs r)
def M.spec_DrawAddressTrace (code:(List UInt8)):Option (zW):=do
 let y←qA code
 pure (id y)
theorem spec_DrawAddressTrace_ok:∀ (code:(List UInt8)) r,M.spec_DrawAddressTrace code=some r→∀ {imm:Imm}{p c},(S4 imm p code c)→Ret Tryz.prog 38 [vS p code c] imm [] (spec_DrawAddressTrace_post  r):=by
 intro code r hM imm p c h;unfold M.spec_DrawAddressTrace at hM;refine yH (fn:=Tryz.f38) (c:=(bodyOf Tryz.f38)) Tryz.func38 rfl rfl ?_;rintro B - -;refine zG<|zB<|uB zTwo ?_;intro b hb;refine yN rfl<|zF<|zG<|zB<|yK 1 [] [(3,vS p code c)] ?_;obtain ⟨y,hy,hM⟩:=zC hM;refine yQ (zE5 code _ hy h) ?_;rintro imm0 hs2 v2 k2 le - ⟨v0,rfl,rfl,⟨cs,rfl,h1⟩⟩ -;obtain ⟨v01,v02,rfl,h2,h3⟩:=gJ h1;obtain ⟨p1,c1,rfl⟩:=h2.form;obtain ⟨p2,c2,rfl⟩:=h3.form;refine xI 0 (cProg y p1 c1 p2 c2) [hB b (cProg y p1 c1 p2 c2)] rfl rfl rfl rfl<|yN rfl<|zF<|yI ?_;obtain rfl:=zD hM;exact yP ⟨_,_,(.cell 0 rfl rfl (by kernel_rfl) ResV.nil),zX,⟨_,rfl,rfl,⟨_,rfl,(pO ⟨_,_,rfl,h2,h3⟩)⟩⟩⟩
def impl_trace_post (r:(Option impl_traced)×Bool):KT:=fun kk imm' hs' v=>
  ∃ v0 v1,hs'=[]∧v=tupV [v0,v1]∧FP imm' v0 r.1∧v1=.bool r.2
def M.impl_trace_l1 (p:zW) (y1:(List zU)) (t24:Int) (reads:List (List Int)) (writes:List Int):Option ((List (List Int)×List Int)):=do
 if (decide (t24 < (y1.length:Int))) then
  let x←idx y1 t24
  let (y4,y5)←nA p x
  let l←app 24 reads ([y4]:List (List Int))
  let l1←app 8 writes ([y5]:List Int)
  M.impl_trace_l1 p y1 (W (t24 + 1)) l l1
 else
  pure (reads,writes)
 partial_fixpoint
theorem impl_trace_l1_ok (p:zW) (y1:(List zU)):∀ (t24:Int) (reads:List (List Int)) (writes:List Int) (o:(List (List Int)×List Int)),M.impl_trace_l1 p y1 t24 reads writes=some o→∀ {B}{imm0 imm:Imm}{Q p1 c p2 c1}{b:Nat}{p3 c2}{b1:Nat}{p4 c3 cs p5 c4 cs1},imm0.le imm→(S4 imm p3 y1 c2)→(S4 imm p1 p.Arrays c)→(S4 imm p2 p.Parts c1)→(RL imm cs reads)→(RL imm cs1 writes)→(∀ gl a w,¬Q (.goto gl) a w)→(∀ a w,¬Q .outgrown a w)→(∀ (imm':Imm) (reads1:List (List Int)) (writes1:List Int) (p6:Option Addr) (c5:Nat) (cs2:List Value) (p7:Option Addr) (c6:Nat) (cs3:List Value),o=(reads1,writes1)→imm0.le imm'→(RL imm' cs2 reads1)→(RL imm' cs3 writes1)→T 56 B Q (.exit 0) imm' [hO Int (vS p7 writes1 c6) cs3,hO (List Int) (vS p6 reads1 c5) cs2,hB b1 [vS p1 p.Arrays c,vS p2 p.Parts c1,vS p3 y1 c2,vS p6 reads1 c5,vS p7 writes1 c6]] [(6,vP b1 0)])→J Tryz.prog 56 B (nav (bodyOf Tryz.f85) [1,1,1,1,0,1,0]) Q imm [hO Int (vS p5 writes c4) cs1,hO (List Int) (vS p4 reads c3) cs,hB b1 [vS p1 p.Arrays c,vS p2 p.Parts c1,vS p3 y1 c2,vS p4 reads c3,vS p5 writes c4],hB b (cProg p p1 c p2 c1)] [(1,vP b 0),(6,vP b1 0),(22,vS p3 y1 c2),(23,vI (y1.length:Int)),(24,vI t24)]:=by
 refine M.impl_trace_l1.partial_correctness p y1 _ ?_;intro self ih t24 reads writes o hM B imm0 imm Q p1 c p2 c1 b p3 c2 b1 p4 c3 cs p5 c4 cs1 hle h2 h h1 h6 h7 hg ho hx;refine xA hg ho<|zG<|zB<|yA [] [(25,.bool (decide (t24 < (y1.length:Int))))]<|zF<|zG<|yO hM ?_ ?_
 · intro hc1 hM;refine yE<|zF<|zG<|yC<|zG<|zB ?_;obtain ⟨x,hy1,hM⟩:=zC hM;refine wD rfl rfl h2 hy1 ?_;intro ad ccs hat hrep;obtain ⟨v02,rfl,h10⟩:=zG2 hrep;obtain ⟨p8,c7,rfl⟩:=h10.form;refine xQ 0 hat (cInst x p8 c7) (vA (cInst x p8 c7)) rfl<|uB [vI 0,vI 0,z0] ?_;intro b2 hb2;refine xI 0 (cInst x p8 c7) [hB b2 (cInst x p8 c7),hO Int (vS p5 writes c4) cs1,hO (List Int) (vS p4 reads c3) cs,hB b1 [vS p1 p.Arrays c,vS p2 p.Parts c1,vS p3 y1 c2,vS p4 reads c3,vS p5 writes c4],hB b (cProg p p1 c p2 c1)] rfl rfl rfl rfl<|yN rfl<|zF<|zG<|zB<|yK 2 [4,0] [(29,vA (cProg p p1 c p2 c1)),(30,vA (cInst x p8 c7))] ?_;obtain ⟨⟨y4,y5⟩,hy2,hM⟩:=zC hM;refine yQ (eF p x _ hy2 h h1 h10) ?_;rintro imm01 hs2 v2 k2 le1 - ⟨v03,v04,rfl,rfl,h11,rfl⟩ -;have h2:=h2.mono le1;have h7:=iM le1 h7;have h6:=iM le1 h6;have h:=h.mono le1;have h1:=h1.mono le1;have hle:=hle.trans le1;obtain ⟨p9,c8,rfl⟩:=h11.form;refine yA [] [(9,vS p9 y4 c8),(10,vI y5)]<|zF ?_;obtain ⟨l,hy3,hM⟩:=zC hM;obtain ⟨l1,hy4,hM⟩:=zC hM;refine vC [.p (vP b1 0) [],.p (vP b1 0) [],.p (vP b1 0) [],.p (vP b1 0) [],.p (vP b1 3) [],.q (vS p4 reads c3),.p (vS p9 y4 c8) [],.x (fun imm' v hx=>∃ b3,v=vS (some ⟨b3,0,none⟩) ([y4]:List (List Int)) 1∧hx=[]∧(SL imm' (vS (some ⟨b3,0,none⟩) ([y4]:List (List Int)) 1) ([y4]:List (List Int)))),.x (fun imm' v hx=>∃ p10 c9 cs4,v=vS p10 l c9∧hx=[hO (List Int) (vS p10 l c9) cs4]∧(RL imm' cs4 l)),.p (vP b1 0) [],.p (vP b1 0) [],.p (vP b1 4) [],.q (vS p5 writes c4),.p (vI y5) [],.x (fun imm' v hx=>∃ b4,v=vS (some ⟨b4,0,none⟩) ([y5]:List Int) 1∧hx=[]∧(SL imm' (vS (some ⟨b4,0,none⟩) ([y5]:List Int) 1) ([y5]:List Int))),.x (fun imm' v hx=>∃ p11 c10 cs5,v=vS p11 l1 c10∧hx=[hO Int (vS p11 l1 c10) cs5]∧(RL imm' cs5 l1)),.p (vP b1 0) [],.p (vP b1 3) [],.x (fun imm' v hx=>∃ p101 c91 cs41,hx=[hB b1 [vS p1 p.Arrays c,vS p2 p.Parts c1,vS p3 y1 c2,vS p101 l c91,vS p5 writes c4],hO (List Int) (vS p101 l c91) cs41]∧(RL imm' cs41 l))] [[],[],[],[(2,false)],[(3,false)],[(4,false),(24,false)],[],[(6,false)],[(5,false),(7,false),(22,true)],[],[(9,false)],[(10,false)],[(11,false),(24,false)],[],[(13,false)],[(12,false),(14,false),(23,true)],[(0,false)],[(16,false)],[(8,true),(17,false),(24,true)]] [hB b2 (cInst x p8 c7),hB b (cProg p p1 c p2 c1)] [[hO (List Int) (vS p4 reads c3) cs],[hO Int (vS p5 writes c4) cs1],[hB b1 [vS p1 p.Arrays c,vS p2 p.Parts c1,vS p3 y1 c2,vS p4 reads c3,vS p5 writes c4]]] [(1,false),(15,true),(18,true)] (zL [0,4,2,1,3] rfl (by decide)) ?_ ?_
   · refine Op<|Op<|Op<|Op<|Op<|Ob ?_<|Op<|Ox ?_<|Ox ?_<|Op<|Op<|Op<|Ob ?_<|Op<|Ox ?_<|Ox ?_<|Op<|Op<|Ox ?_<|On
     · intro imm1 hf le1 hbo;obtain ⟨hf2,hbp⟩:=hbo.at (j:=24) (g:=[hB b1 [vS p1 p.Arrays c,vS p2 p.Parts c1,vS p3 y1 c2,vS p4 reads c3,vS p5 writes c4]]) (by decide) (by kernel_rfl) rfl;refine zE ?_;rintro _ _ ⟨rfl,rfl⟩;refine zE ?_;rintro _ _ rfl;refine zM<|R_bor hbp<|yG [(38,vP b1 3)] ?_;have hle:=iS imm1;exact zGT (cs:=[vS p4 reads c3]) (v:=vS p4 reads c3) 2 rfl rfl rfl rfl rfl (by kernel_rfl) (by kernel_rfl) (by kernel_rfl)<|zZ (hx:=[]) rfl hle rfl (zK rfl) ⟨rfl,rfl⟩
     · intro imm1 hf le1;refine zE ?_;rintro _ _ ⟨rfl,rfl⟩;refine zM<|yG [(40,vS p9 y4 c8)] ?_;have hle:=iS imm1;have h11:=h11.mono le1;refine xV [vS p9 y4 c8] (List Int) ?_;intro b3 hb3;have h13:RL imm1 [vS p9 y4 c8] ([y4]:List (List Int)):=⟨[vS p9 y4 c8],_,rfl,rfl,⟨_,rfl,h11⟩,rfl⟩;refine yL 0 rfl ?_;intro imm02 le2 hl0;have h14:=SL.of_frozen hl0 le2 h13;have hle:=hle.trans le2;exact zZ (hx:=[]) rfl hle rfl (zK rfl) ⟨_,rfl,rfl,h14⟩
     · intro imm1 hf le1;refine zE ?_;rintro _ _ ⟨rfl,rfl⟩;refine zE ?_;rintro _ _ ⟨b3,rfl,rfl,h14⟩;refine zE ?_;rintro _ _ rfl;refine zM<|yG [(39,vS p4 reads c3),(41,vS (some ⟨b3,0,none⟩) ([y4]:List (List Int)) 1)] ?_;have hle:=iS imm1;have h6:=iM le1 h6;obtain ⟨ccs1,k0,k01⟩:=h14;have h14:SL imm1 (vS (some ⟨b3,0,none⟩) ([y4]:List (List Int)) 1) ([y4]:List (List Int)):=⟨_,k0,k01⟩;refine qQ 40 1 0 rfl rfl rfl h6 (.inl k0) k01 hy3 ?_;intro p10 c9 cs4 h15;exact uP (hs':=(hO (List Int) (vS p10 l c9) cs4::hB b2 (cInst x p8 c7)::hB b (cProg p p1 c p2 c1)::hf)) rfl<|zZ (hx:=[hO (List Int) (vS p10 l c9) cs4]) rfl hle rfl (zK rfl) ⟨_,_,_,rfl,rfl,h15⟩
     · intro imm1 hf le1 hbo;obtain ⟨hf2,hbp⟩:=hbo.at (j:=24) (g:=[hB b1 [vS p1 p.Arrays c,vS p2 p.Parts c1,vS p3 y1 c2,vS p4 reads c3,vS p5 writes c4]]) (by decide) (by kernel_rfl) rfl;refine zE ?_;rintro _ _ ⟨rfl,rfl⟩;refine zE ?_;rintro _ _ rfl;refine zM<|R_bor hbp<|yG [(45,vP b1 4)] ?_;have hle:=iS imm1;exact zGT (cs:=[vS p5 writes c4]) (v:=vS p5 writes c4) 2 rfl rfl rfl rfl rfl (by kernel_rfl) (by kernel_rfl) (by kernel_rfl)<|zZ (hx:=[]) rfl hle rfl (zK rfl) ⟨rfl,rfl⟩
     · intro imm1 hf le1;refine zE ?_;rintro _ _ ⟨rfl,rfl⟩;refine zM<|yG [(47,vI y5)] ?_;have hle:=iS imm1;refine xV [vI y5] Int ?_;intro b4 hb4;have h16:RL imm1 [vI y5] ([y5]:List Int):=⟨[vI y5],_,rfl,rfl,rfl,rfl⟩;refine yL 0 rfl ?_;intro imm03 le3 hl01;have h17:=SL.of_frozen hl01 le3 h16;have hle:=hle.trans le3;exact zZ (hx:=[]) rfl hle rfl (zK rfl) ⟨_,rfl,rfl,h17⟩
     · intro imm1 hf le1;refine zE ?_;rintro _ _ ⟨rfl,rfl⟩;refine zE ?_;rintro _ _ ⟨b4,rfl,rfl,h17⟩;refine zE ?_;rintro _ _ rfl;refine zM<|yG [(46,vS p5 writes c4),(48,vS (some ⟨b4,0,none⟩) ([y5]:List Int) 1)] ?_;have hle:=iS imm1;have h7:=iM le1 h7;obtain ⟨ccs2,k02,k03⟩:=h17;have h17:SL imm1 (vS (some ⟨b4,0,none⟩) ([y5]:List Int) 1) ([y5]:List Int):=⟨_,k02,k03⟩;refine qQ 3 1 0 rfl rfl rfl h7 (.inl k02) k03 hy4 ?_;intro p11 c10 cs5 h18;exact uP (hs':=(hO Int (vS p11 l1 c10) cs5::hB b2 (cInst x p8 c7)::hB b (cProg p p1 c p2 c1)::hf)) rfl<|zZ (hx:=[hO Int (vS p11 l1 c10) cs5]) rfl hle rfl (zK rfl) ⟨_,_,_,rfl,rfl,h18⟩
     intro imm1 hf le1;refine zE ?_;rintro _ _ ⟨p10,c9,cs4,rfl,rfl,h15⟩;refine zE ?_;rintro _ _ ⟨rfl,rfl⟩;refine zE ?_;rintro _ _ rfl;refine zM<|yG [(42,vS p10 l c9),(51,vP b1 3)] ?_;have hle:=iS imm1;exact xI 0 [vS p1 p.Arrays c,vS p2 p.Parts c1,vS p3 y1 c2,vS p10 l c9,vS p5 writes c4] (hB b1 [vS p1 p.Arrays c,vS p2 p.Parts c1,vS p3 y1 c2,vS p10 l c9,vS p5 writes c4]::hO (List Int) (vS p10 l c9) cs4::hB b2 (cInst x p8 c7)::hB b (cProg p p1 c p2 c1)::hf) rfl rfl rfl rfl<|zZ (hx:=[hB b1 [vS p1 p.Arrays c,vS p2 p.Parts c1,vS p3 y1 c2,vS p10 l c9,vS p5 writes c4],hO (List Int) (vS p10 l c9) cs4]) rfl hle rfl (zH7 (v:=undef)) ⟨_,_,_,rfl,h15⟩
   intro imm04 le4;refine zE ?_;rintro _ _ ⟨rfl,rfl⟩;refine zE ?_;rintro _ _ ⟨p11,c10,cs5,rfl,rfl,h18⟩;refine zE ?_;rintro _ _ ⟨p101,c91,cs41,rfl,h151⟩;refine zM<|yG [(1,vP b 0),(6,vP b1 0),(22,vS p3 y1 c2),(23,vI (y1.length:Int)),(24,vI t24),(35,vP b1 0),(49,vS p11 l1 c10)] ?_;have h2:=h2.mono le4;have h:=h.mono le4;have h1:=h1.mono le4;have hle:=hle.trans le4;exact yK 21 [] [(53,vP b1 4)]<|xI 0 [vS p1 p.Arrays c,vS p2 p.Parts c1,vS p3 y1 c2,vS p101 l c91,vS p11 l1 c10] [hB b1 [vS p1 p.Arrays c,vS p2 p.Parts c1,vS p3 y1 c2,vS p101 l c91,vS p11 l1 c10],hO (List Int) (vS p101 l c91) cs41,hO Int (vS p11 l1 c10) cs5,hB b2 (cInst x p8 c7),hB b (cProg p p1 c p2 c1)] rfl rfl rfl rfl<|yN rfl<|zY<|zF<|zB<|yA [] [(24,vI (W (t24 + 1)))]<|xB<|qP (zL [2,1,0,4] rfl (by decide))<|vG [(1,vP b 0),(6,vP b1 0),(22,vS p3 y1 c2),(23,vI (y1.length:Int)),(24,vI (W (t24 + 1)))]<|ih (W (t24 + 1)) l l1 _ hM hle h2 h h1 h151 h18 hg ho hx
 intro hc1 hM;exact yZ<|zS<|zS<|wB (zL [0,1,2] rfl (by decide))<|yS [(6,vP b1 0)]<|hx _ _ _ _ _ _ _ _ _ (zD hM).symm hle h6 h7
def M.impl_trace (p:zW):Option ((Option impl_traced)×Bool):=do
 let (y1,y2)←uL p
 if (!y2) then
  pure (none,false)
 else
  let (reads1,writes1)←M.impl_trace_l1 p y1 0 ([]:List (List Int)) ([]:List Int)
  pure ((some (impl_traced.mk p y1 reads1 writes1)),true)
theorem impl_trace_ok:∀ (p:zW) r,M.impl_trace p=some r→∀ {imm:Imm}{p1 c p2 c1},(S4 imm p1 p.Arrays c)→(S4 imm p2 p.Parts c1)→Ret Tryz.prog 85 [vA (cProg p p1 c p2 c1)] imm [] (impl_trace_post  r):=by
 intro p r hM imm p1 c p2 c1 h h1;unfold M.impl_trace at hM;refine yH (fn:=Tryz.f85) (c:=(bodyOf Tryz.f85)) Tryz.func85 rfl rfl ?_;rintro B - -;refine zG<|zB<|tA (cProg p p1 c p2 c1) ?_;intro b hb;refine yA [] []<|zF<|zG<|zB<|yK 1 [0] [(12,vA (cProg p p1 c p2 c1))] ?_;obtain ⟨⟨y1,y2⟩,hy,hM⟩:=zC hM;refine yQ (nW p _ hy h h1) ?_;rintro imm0 hs2 v2 k2 le - ⟨v0,v01,rfl,rfl,h2,rfl⟩ -;have h:=h.mono le;have h1:=h1.mono le;obtain ⟨p3,c2,rfl⟩:=h2.form;refine yA [] [(4,vS p3 y1 c2),(5,.bool y2)]<|zF<|zG<|zG<|zB<|yA [] [(17,.bool (!y2))]<|zF<|yO hM ?_ ?_
 · intro hc hM;refine zG<|zB<|yA [] [(2,.pointer none),(3,.bool false)]<|zF<|yI<|zP ?_;obtain rfl:=zD hM;exact yP ⟨_,_,(.tmp rfl (.tmp rfl ResV.nil)),zX,⟨_,_,rfl,rfl,FP_nil,rfl⟩⟩
 intro hc hM;refine yE<|zF<|zG<|zB<|yK 3 [0] [(20,vA [vS p1 p.Arrays c,vS p2 p.Parts c1,vS p3 y1 c2,z0,z0])]<|tA [vS p1 p.Arrays c,vS p2 p.Parts c1,vS p3 y1 c2,z0,z0] ?_;intro b1 hb1;refine yA [] [(6,vP b1 0)]<|zF<|zG<|zG<|zB<|yA [] [(22,vS p3 y1 c2),(23,vI (y1.length:Int)),(24,vI 0)]<|zF<|yC<|vG [(1,vP b 0),(6,vP b1 0),(22,vS p3 y1 c2),(23,vI (y1.length:Int)),(24,vI 0)]<|qP (uS (Rp.sz (List Int))) ?_;have h4:RL imm0 [] ([]:List (List Int)):=RepL.nil;refine qP (uS (Rp.sz Int)) ?_;have h5:RL imm0 [] ([]:List Int):=RepL.nil;obtain ⟨o0,ho0,hMl⟩:=zC hM;refine impl_trace_l1_ok p y1 0 ([]:List (List Int)) ([]:List Int) o0 ho0 iR h2 h h1 h4 h5 (fun _ _ _ h=>h) (fun _ _ h=>h) ?_;intro imm05 reads1 writes1 p6 c5 cs2 p7 c6 cs3 heq le5 h8 h9;subst o0;have h:=h.mono le5;have h1:=h1.mono le5;have h2:=h2.mono le5;refine yD<|zF<|zG<|zB<|yA [] [(2,vP b1 0),(3,.bool true)]<|zF<|yI<|xJ 1 rfl ?_;intro imm06 le6 hl02;have h19:=SL.of_frozen hl02 le6 h8;have h9:=iM le6 h9;have h:=h.mono le6;have h1:=h1.mono le6;have h2:=h2.mono le6;refine xJ 0 rfl ?_;intro imm07 le7 hl03;have h20:=SL.of_frozen hl03 le7 h9;have h:=h.mono le7;have h1:=h1.mono le7;have h2:=h2.mono le7;have h19:=h19.mono le7;refine xJ 0 rfl ?_;intro imm08 le8 hl04;have hat1:At imm08 ⟨b1,0,none⟩ [vS p1 p.Arrays c,vS p2 p.Parts c1,vS p3 y1 c2,vS p6 reads1 c5,vS p7 writes1 c6]:=At.of_blk hl04;have h:=h.mono le8;have h1:=h1.mono le8;have h2:=h2.mono le8;have h19:=h19.mono le8;have h20:=h20.mono le8;obtain rfl:=zD hMl;exact yP ⟨_,_,(.tmp rfl (.tmp rfl ResV.nil)),zX,⟨_,_,rfl,rfl,(FP_at hat1 (impl_traced_shut ⟨_,_,_,_,_,rfl,h,h1,h2,h19,h20⟩)),rfl⟩⟩
end Go.LN
namespace Go.LN
open Go.Proofs
set_option maxRecDepth 20000
def slices_Clip_int_int_post (r:(List Int)):KT:=fun kk imm' hs' v=>
  ∃ v0,hs'=[]∧v=tupV [v0]∧SL imm' v0 r
def M.slices_Clip_int_int (s:(List Int)):Option ((List Int)):=do
 pure (id s)
theorem slices_Clip_int_int_ok:∀ (s:(List Int)) r,M.slices_Clip_int_int s=some r→∀ {imm:Imm}{p c},(S4 imm p s c)→Ret Tryz.prog 86 [vS p s c] imm [] (slices_Clip_int_int_post  r):=by
 intro s r hM imm p c h;unfold M.slices_Clip_int_int at hM;refine yH (fn:=Tryz.f86) (c:=(bodyOf Tryz.f86)) Tryz.func86 rfl rfl ?_;rintro B - -;refine zG<|zB<|yA [] []<|zF<|zG<|zB<|yK 5 [] [(3,vS p s c),(5,vI (s.length:Int)),(7,vI (s.length:Int))]<|R_s3 rfl h ?_;intro v0 h1;obtain ⟨p1,c1,rfl⟩:=h1.form;refine yA [] [(2,vS p1 s c1)]<|zF<|yI ?_;obtain rfl:=zD hM;exact yP ⟨_,_,(.tmp rfl ResV.nil),zX,⟨_,rfl,rfl,h1⟩⟩
def impl_AddressTrace_post (r:(List Int)):KT:=fun kk imm' hs' v=>
  ∃ v0,hs'=[]∧v=tupV [v0]∧SL imm' v0 r
def M.impl_AddressTrace_l1 (t:impl_traced) (out:List Int) (t19:Int):Option (List Int):=do
 if (decide (t19 < (t.list.length:Int))) then
  let x←idx t.reads t19
  let l←app 8 out x
  let x1←idx t.writes t19
  let out2←app 8 l ([x1]:List Int)
  M.impl_AddressTrace_l1 t out2 (W (t19 + 1))
 else
  pure (id out)
 partial_fixpoint
theorem impl_AddressTrace_l1_ok (t:impl_traced):∀ (out:List Int) (t19:Int) (o:List Int),M.impl_AddressTrace_l1 t out t19=some o→∀ {B}{imm0 imm:Imm}{Q}  {ad:Addr}{p3 c2 p4 c3 p5 c4 p6 c5 p7 c6 p8 c7 cs},imm0.le imm→(S4 imm p3 t.Program.Arrays c2)→(S4 imm p4 t.Program.Parts c3)→(S4 imm p5 t.list c4)→(S4 imm p6 t.reads c5)→(S4 imm p7 t.writes c6)→(At imm ad [vS p3 t.Program.Arrays c2,vS p4 t.Program.Parts c3,vS p5 t.list c4,vS p6 t.reads c5,vS p7 t.writes c6])→(RL imm cs out)→(∀ gl a w,¬Q (.goto gl) a w)→(∀ a w,¬Q .outgrown a w)→(∀ (imm':Imm) (out1:List Int) (p9:Option Addr) (c8:Nat) (cs1:List Value),o=out1→imm0.le imm'→(RL imm' cs1 out1)→T 47 B Q (.exit 0) imm' [hO Int (vS p9 out1 c8) cs1] [(5,vS p9 out1 c8)])→J Tryz.prog 47 B (nav (bodyOf Tryz.f39) [1,1,1,1,0,1,0]) Q imm [hO Int (vS p8 out c7) cs] [(3,.pointer (some ad)),(5,vS p8 out c7),(18,vI (t.list.length:Int)),(19,vI t19)]:=by
 refine M.impl_AddressTrace_l1.partial_correctness t _ ?_;intro self ih out t19 o hM B imm0 imm Q ad p3 c2 p4 c3 p5 c4 p6 c5 p7 c6 p8 c7 cs hle h4 h5 h6 h7 h8 hat h10 hg ho hx;refine xA hg ho<|zG<|zB<|yA [] [(20,.bool (decide (t19 < (t.list.length:Int))))]<|zF<|zG<|yO hM ?_ ?_
 · intro hc1 hM;refine yE<|zF<|zG<|yC<|zG<|zB<|yA [] [(6,vI t19)]<|zF ?_;obtain ⟨x,hy2,hM⟩:=zC hM;obtain ⟨l,hy3,hM⟩:=zC hM;obtain ⟨x1,hy4,hM⟩:=zC hM;obtain ⟨out2,hy5,hM⟩:=zC hM;refine vC [.p (vS p8 out c7) [],.p (.pointer (some ad)) [],.p (.pointer (some ad)) [],.p (.pointer (some (ad.add 3))) [],.q (vS p6 t.reads c5),.p (vI t19) [],.x (fun imm' v hx=>∃ ad1 p10 c9,v=.pointer (some ad1)∧hx=[]∧(At imm' ad1 [vS p10 x c9])∧(S4 imm' p10 x c9)),.x (fun imm' v hx=>∃ p101 c91,v=vS p101 x c91∧hx=[]∧(S4 imm' p101 x c91)),.x (fun imm' v hx=>∃ p11 c10 cs2,v=vS p11 l c10∧hx=[hO Int (vS p11 l c10) cs2]∧(RL imm' cs2 l)),.p (.pointer (some ad)) [],.p (.pointer (some ad)) [],.p (.pointer (some (ad.add 4))) [],.q (vS p7 t.writes c6),.p (vI t19) [],.x (fun imm' v hx=>∃ ad2,v=.pointer (some ad2)∧hx=[]∧(At imm' ad2 [vI x1])),.q (vI x1),.x (fun imm' v hx=>∃ b1,v=vS (some ⟨b1,0,none⟩) ([x1]:List Int) 1∧hx=[]∧(SL imm' (vS (some ⟨b1,0,none⟩) ([x1]:List Int) 1) ([x1]:List Int))),.x (fun imm' v hx=>∃ p12 c11 cs3,v=vS p12 out2 c11∧hx=[hO Int (vS p12 out2 c11) cs3]∧(RL imm' cs3 out2))] [[],[],[(1,false)],[(2,false)],[(3,false)],[],[(4,false),(5,false)],[(6,false)],[(0,false),(7,false),(19,true)],[],[(9,false)],[(10,false)],[(11,false)],[],[(12,false),(13,false)],[(14,false)],[(15,false)],[(8,true),(16,false)]] [] [[hO Int (vS p8 out c7) cs]] [(17,true)] (zL [0] rfl (by decide)) ?_ ?_
   · refine Op<|Op<|Op<|Op<|Oq ?_<|Op<|Ox ?_<|Ox ?_<|Ox ?_<|Op<|Op<|Op<|Oq ?_<|Op<|Ox ?_<|Oq ?_<|Ox ?_<|Ox ?_<|On
     · intro imm1 hf le1;refine zE ?_;rintro _ _ ⟨rfl,rfl⟩;refine zM<|yG [(25,.pointer (some (ad.add 3)))] ?_;have hle:=iS imm1;have hat:=hat.mono le1;exact xQ 3 hat [vS p6 t.reads c5] (vS p6 t.reads c5) rfl<|zZ (hx:=[]) rfl hle rfl (zK rfl) ⟨rfl,rfl⟩
     · intro imm1 hf le1;refine zE ?_;rintro _ _ ⟨rfl,rfl⟩;refine zE ?_;rintro _ _ ⟨rfl,rfl⟩;refine zM<|yG [(26,vS p6 t.reads c5),(27,vI t19)] ?_;have hle:=iS imm1;have h7:=h7.mono le1;refine wD rfl rfl h7 hy2 ?_;intro ad1 ccs1 hat1 hrep1;obtain ⟨v07,rfl,h12⟩:=hrep1;obtain ⟨p10,c9,rfl⟩:=h12.form;exact zZ (hx:=[]) rfl hle rfl (zK rfl) ⟨_,_,_,rfl,rfl,hat1,h12⟩
     · intro imm1 hf le1;refine zE ?_;rintro _ _ ⟨ad1,p10,c9,rfl,rfl,hat1,h12⟩;refine zM<|yG [(28,.pointer (some ad1))] ?_;have hle:=iS imm1;exact xQ 0 hat1 [vS p10 x c9] (vS p10 x c9) rfl<|zZ (hx:=[]) rfl hle rfl (zK rfl) ⟨_,_,rfl,rfl,h12⟩
     · intro imm1 hf le1;refine zE ?_;rintro _ _ ⟨rfl,rfl⟩;refine zE ?_;rintro _ _ ⟨p101,c91,rfl,rfl,h121⟩;refine zE ?_;rintro _ _ rfl;refine zM<|yG [(22,vS p8 out c7),(29,vS p101 x c91)] ?_;have hle:=iS imm1;have h10:=iM le1 h10;obtain ⟨ccs2,k0,k01⟩:=h121;have h121:SL imm1 (vS p101 x c91) x:=⟨_,k0,k01⟩;refine qQ 3 1 0 rfl rfl rfl h10 (.inl k0) k01 hy3 ?_;intro p11 c10 cs2 h13;exact uP (hs':=(hO Int (vS p11 l c10) cs2::hf)) rfl<|zZ (hx:=[hO Int (vS p11 l c10) cs2]) rfl hle rfl (zK rfl) ⟨_,_,_,rfl,rfl,h13⟩
     · intro imm1 hf le1;refine zE ?_;rintro _ _ ⟨rfl,rfl⟩;refine zM<|yG [(33,.pointer (some (ad.add 4)))] ?_;have hle:=iS imm1;have hat:=hat.mono le1;exact xQ 4 hat [vS p7 t.writes c6] (vS p7 t.writes c6) rfl<|zZ (hx:=[]) rfl hle rfl (zK rfl) ⟨rfl,rfl⟩
     · intro imm1 hf le1;refine zE ?_;rintro _ _ ⟨rfl,rfl⟩;refine zE ?_;rintro _ _ ⟨rfl,rfl⟩;refine zM<|yG [(34,vS p7 t.writes c6),(35,vI t19)] ?_;have hle:=iS imm1;have h8:=h8.mono le1;refine wD rfl rfl h8 hy4 ?_;intro ad2 ccs3 hat2 hrep2;obtain rfl:=hrep2;exact zZ (hx:=[]) rfl hle rfl (zK rfl) ⟨_,rfl,rfl,hat2⟩
     · intro imm1 hf le1;refine zE ?_;rintro _ _ ⟨ad2,rfl,rfl,hat2⟩;refine zM<|yG [(36,.pointer (some ad2))] ?_;have hle:=iS imm1;exact xQ 0 hat2 [vI x1] (vI x1) rfl<|zZ (hx:=[]) rfl hle rfl (zK rfl) ⟨rfl,rfl⟩
     · intro imm1 hf le1;refine zE ?_;rintro _ _ ⟨rfl,rfl⟩;refine zM<|yG [(37,vI x1)] ?_;have hle:=iS imm1;refine xV [vI x1] Int ?_;intro b1 hb1;have h14:RL imm1 [vI x1] ([x1]:List Int):=⟨[vI x1],_,rfl,rfl,rfl,rfl⟩;refine yL 0 rfl ?_;intro imm01 le1 hl0;have h15:=SL.of_frozen hl0 le1 h14;have hle:=hle.trans le1;exact zZ (hx:=[]) rfl hle rfl (zK rfl) ⟨_,rfl,rfl,h15⟩
     intro imm1 hf le1;refine zE ?_;rintro _ _ ⟨p11,c10,cs2,rfl,rfl,h13⟩;refine zE ?_;rintro _ _ ⟨b1,rfl,rfl,h15⟩;refine zM<|yG [(30,vS p11 l c10),(38,vS (some ⟨b1,0,none⟩) ([x1]:List Int) 1)] ?_;have hle:=iS imm1;obtain ⟨ccs4,k02,k03⟩:=h15;have h15:SL imm1 (vS (some ⟨b1,0,none⟩) ([x1]:List Int) 1) ([x1]:List Int):=⟨_,k02,k03⟩;refine qQ 3 1 0 rfl rfl rfl h13 (.inl k02) k03 hy5 ?_;intro p12 c11 cs3 h16;exact uP (hs':=(hO Int (vS p12 out2 c11) cs3::hf)) rfl<|zZ (hx:=[hO Int (vS p12 out2 c11) cs3]) rfl hle rfl (zK rfl) ⟨_,_,_,rfl,rfl,h16⟩
   intro imm02 le2;refine zE ?_;rintro _ _ ⟨p12,c11,cs3,rfl,rfl,h16⟩;refine zM<|yG [(3,.pointer (some ad)),(18,vI (t.list.length:Int)),(19,vI t19),(39,vS p12 out2 c11)] ?_;have h4:=h4.mono le2;have h5:=h5.mono le2;have h6:=h6.mono le2;have h7:=h7.mono le2;have h8:=h8.mono le2;have hat:=hat.mono le2;have hle:=hle.trans le2;exact yA [] [(5,vS p12 out2 c11)]<|zY<|zF<|zB<|yA [] [(19,vI (W (t19 + 1)))]<|xB<|vG [(3,.pointer (some ad)),(5,vS p12 out2 c11),(18,vI (t.list.length:Int)),(19,vI (W (t19 + 1)))]<|ih out2 (W (t19 + 1)) _ hM hle h4 h5 h6 h7 h8 hat h16 hg ho hx
 intro hc1 hM;exact yZ<|zS<|zS<|yS [(5,vS p8 out c7)]<|hx _ _ _ _ _ (zD hM).symm hle h10
def M.impl_AddressTrace (p:zW):Option ((List Int)):=do
 let (y1,y2)←M.impl_trace p
 if (!y2) then
  pure ([]:List Int)
 else
  let t←y1
  let out1←M.impl_AddressTrace_l1 t ([]:List Int) 0
  let l1←slc out1 0 (if 600 < (out1.length:Int) then 600 else (out1.length:Int))
  let y3←M.slices_Clip_int_int l1
  pure (id y3)
theorem impl_AddressTrace_ok:∀ (p:zW) r,M.impl_AddressTrace p=some r→∀ {imm:Imm}{p1 c p2 c1},(S4 imm p1 p.Arrays c)→(S4 imm p2 p.Parts c1)→Ret Tryz.prog 39 [vA (cProg p p1 c p2 c1)] imm [] (impl_AddressTrace_post  r):=by
 intro p r hM imm p1 c p2 c1 h h1;unfold M.impl_AddressTrace at hM;refine yH (fn:=Tryz.f39) (c:=(bodyOf Tryz.f39)) Tryz.func39 rfl rfl ?_;rintro B - -;refine zG<|zB<|tA (cProg p p1 c p2 c1) ?_;intro b hb;refine yA [] []<|zF<|zG<|zB<|yK 1 [0] [(8,vA (cProg p p1 c p2 c1))] ?_;obtain ⟨⟨y1,y2⟩,hy,hM⟩:=zC hM;refine yQ (impl_trace_ok p _ hy h h1) ?_;rintro imm0 hs2 v2 k2 le - ⟨v0,v01,rfl,rfl,h2,rfl⟩ -;have h:=h.mono le;refine yA [] [(3,v0),(4,.bool y2)]<|zF<|zG<|zG<|zB<|yA [] [(13,.bool (!y2))]<|zF<|yO hM ?_ ?_
 · intro hc hM;refine zG<|zB<|yA [] [(2,z0)]<|zF<|yI<|zP ?_;obtain rfl:=zD hM;exact yP ⟨_,_,(.tmp rfl ResV.nil),zX,⟨_,rfl,rfl,(SL.nil _)⟩⟩
 intro hc hM;refine yE<|zF<|zG<|zB<|yA [] [(5,z0)]<|zF<|zG<|zG<|zB<|yK 1 [] [(14,v0)] ?_;obtain ⟨t,hy1,hM⟩:=zC hM;obtain ⟨ad,ccs,rfl,hat,hrep⟩:=FP_some h2 hy1;obtain ⟨v02,v03,v04,v05,v06,rfl,h4,h5,h6,h7,h8⟩:=impl_traced_open hrep;obtain ⟨p3,c2,rfl⟩:=h4.form;obtain ⟨p4,c3,rfl⟩:=h5.form;obtain ⟨p5,c4,rfl⟩:=h6.form;obtain ⟨p6,c5,rfl⟩:=h7.form;obtain ⟨p7,c6,rfl⟩:=h8.form;refine yK 3 [] [(16,.pointer (some (ad.add 2)))]<|xQ 2 hat [vS p5 t.list c4] (vS p5 t.list c4) rfl<|yA [] [(18,vI (t.list.length:Int)),(19,vI 0)]<|zF<|yC<|qP (zL [] (hs':=[]) rfl (by decide))<|vG [(3,.pointer (some ad)),(5,z0),(18,vI (t.list.length:Int)),(19,vI 0)]<|qP (uS (Rp.sz Int)) ?_;have h9:RL imm0 [] ([]:List Int):=RepL.nil;obtain ⟨o0,ho0,hMl⟩:=zC hM;refine impl_AddressTrace_l1_ok t ([]:List Int) 0 o0 ho0 iR h4 h5 h6 h7 h8 hat h9 (fun _ _ _ h=>h) (fun _ _ h=>h) ?_;intro imm03 out1 p9 c8 cs1 heq le3 h11;subst o0;refine yD<|zF<|zG<|zB<|yK 4 [] [(41,vS p9 out1 c8),(44,vI (if 600 < (out1.length:Int) then 600 else (out1.length:Int)))] ?_;obtain ⟨l1,hy6,hM⟩:=zC hMl;refine R_cut_osl 0 rfl rfl rfl rfl rfl (by kernel_rfl) rfl rfl h11 hy6 ?_;rintro p13 c12 cs4 - h17;refine uP (hs':=[hO Int (vS p13 l1 c12) cs4]) rfl<|yL 0 rfl ?_;intro imm04 le4 hl01;have h18:=SL.of_frozen hl01 le4 h17;obtain ⟨y3,hy7,hM⟩:=zC hM;refine yQ (slices_Clip_int_int_ok l1 _ hy7 h18) ?_;rintro imm05 hs2 v2 k2 le5 - ⟨v08,rfl,rfl,h19⟩ -;obtain ⟨p14,c13,rfl⟩:=h19.form;refine yA [] [(2,vS p14 y3 c13)]<|zF<|yI ?_;obtain rfl:=zD hM;exact yP ⟨_,_,(.tmp rfl ResV.nil),zX,⟨_,rfl,rfl,h19⟩⟩
def spec_l6Uses_post (r:(List spec_l6Use)):KT:=fun kk imm' hs' v=>
  ∃ v0,hs'=[]∧v=tupV [v0]∧SL imm' v0 r
def M.spec_l6Uses_l1 (p:zW) (y:(List zU)) (out:List spec_l6Use) (i:Int):Option (List spec_l6Use):=do
 if (decide (i < (y.length:Int))) then
  let x←idx y i
  let x1←idx p.Parts x.Part
  let x2←idx y i
  let x3←idx x1.Body x2.Stmt
  let x4←idx y i
  let (y2,y3,y4)←pA p.Arrays x3 x4.Point
  let out2←app 32 out ([(spec_l6Use.mk y2 y3)]:List spec_l6Use)
  M.spec_l6Uses_l1 p y out2 (W (i + 1))
 else
  pure (id out)
 partial_fixpoint
theorem spec_l6Uses_l1_ok (p:zW) (y:(List zU)):∀ (out:List spec_l6Use) (i:Int) (o:List spec_l6Use),M.spec_l6Uses_l1 p y out i=some o→∀ {B}{imm0 imm:Imm}{Q p1 c p2 c1}{b:Nat}{p3 c2 p4 c3 cs},imm0.le imm→(S4 imm p3 y c2)→(S4 imm p1 p.Arrays c)→(S4 imm p2 p.Parts c1)→(RL imm cs out)→(∀ gl a w,¬Q (.goto gl) a w)→(∀ a w,¬Q .outgrown a w)→(∀ (imm':Imm) (out1:List spec_l6Use) (p5:Option Addr) (c4:Nat) (cs1:List Value),o=out1→imm0.le imm'→(RL imm' cs1 out1)→T 54 B Q (.exit 0) imm' [hO spec_l6Use (vS p5 out1 c4) cs1] [(3,vS p5 out1 c4)])→J Tryz.prog 54 B (nav (bodyOf Tryz.f87) [1,1,1,0,1,0]) Q imm [hO spec_l6Use (vS p4 out c3) cs,hB b (cProg p p1 c p2 c1)] [(1,vP b 0),(3,vS p4 out c3),(4,vS p3 y c2),(5,vI i)]:=by
 refine M.spec_l6Uses_l1.partial_correctness p y _ ?_;intro self ih out i o hM B imm0 imm Q p1 c p2 c1 b p3 c2 p4 c3 cs hle h3 h h1 h4 hg ho hx;refine xA hg ho<|zG<|zG<|zB<|yA [] [(15,.bool (decide (i < (y.length:Int))))]<|zF<|yO hM ?_ ?_
 · intro hc hM;refine yE<|zF<|zG<|yC<|zG ?_;obtain ⟨x,hy1,hM⟩:=zC hM;obtain ⟨x1,hy2,hM⟩:=zC hM;obtain ⟨x2,hy3,hM⟩:=zC hM;obtain ⟨x3,hy4,hM⟩:=zC hM;obtain ⟨x4,hy5,hM⟩:=zC hM;obtain ⟨⟨y2,y3,y4⟩,hy6,hM⟩:=zC hM;refine vC [.p (vP b 0) [],.p (vS p1 p.Arrays c) [1],.p (vP b 1) [],.p (vS p2 p.Parts c1) [1],.p (vS p3 y c2) [],.p (vI i) [],.x (fun imm' v hx=>∃ ad p6 c5,v=.pointer (some ad)∧hx=[]∧(At imm' ad (cInst x p6 c5))∧(S4 imm' p6 x.Point c5)),.x (fun imm' v hx=>∃ ad1 p61 c51,v=.pointer (some ad1)∧hx=[]∧(At imm' ad1 (cInst x p61 c51))∧(S4 imm' p61 x.Point c51)),.q (vI x.Part),.x (fun imm' v hx=>∃ ad2 p7 c6 p8 c7,v=.pointer (some ad2)∧hx=[]∧(At imm' ad2 (cPart x1 p7 c6 p8 c7))∧(S4 imm' p7 x1.Nest c6)∧(S4 imm' p8 x1.Body c7)),.x (fun imm' v hx=>∃ ad21 p71 c61 p81 c71,v=.pointer (some (ad21.add 1))∧hx=[]∧(At imm' ad21 (cPart x1 p71 c61 p81 c71))∧(S4 imm' p71 x1.Nest c61)∧(S4 imm' p81 x1.Body c71)),.x (fun imm' v hx=>∃ p811 c711,v=vS p811 x1.Body c711∧hx=[]∧(S4 imm' p811 x1.Body c711)),.p (vS p3 y c2) [],.p (vI i) [],.x (fun imm' v hx=>∃ ad3 p9 c8,v=.pointer (some ad3)∧hx=[]∧(At imm' ad3 (cInst x2 p9 c8))∧(S4 imm' p9 x2.Point c8)),.x (fun imm' v hx=>∃ ad31 p91 c81,v=.pointer (some (ad31.add 1))∧hx=[]∧(At imm' ad31 (cInst x2 p91 c81))∧(S4 imm' p91 x2.Point c81)),.q (vI x2.Stmt),.x (fun imm' v hx=>∃ ad4 p10 c9 p11 c10 p12 c11 p13 c12,v=.pointer (some ad4)∧hx=[]∧(At imm' ad4 (cStmt x3 p10 c9 p11 c10 p12 c11 p13 c12))∧(S4 imm' p10 x3.Write.Subs c9)∧(S4 imm' p11 x3.Value.Index.Coefs c10)∧(S4 imm' p12 x3.Value.Read.Subs c11)∧(S4 imm' p13 x3.Value.Kids c12)),.x (fun imm' v hx=>∃ p101 c91 p111 c101 p121 c111 p131 c121,v=vA (cStmt x3 p101 c91 p111 c101 p121 c111 p131 c121)∧hx=[]∧(S4 imm' p101 x3.Write.Subs c91)∧(S4 imm' p111 x3.Value.Index.Coefs c101)∧(S4 imm' p121 x3.Value.Read.Subs c111)∧(S4 imm' p131 x3.Value.Kids c121)),.p (vS p3 y c2) [],.p (vI i) [],.x (fun imm' v hx=>∃ ad5 p14 c13,v=.pointer (some ad5)∧hx=[]∧(At imm' ad5 (cInst x4 p14 c13))∧(S4 imm' p14 x4.Point c13)),.x (fun imm' v hx=>∃ ad51 p141 c131,v=.pointer (some (ad51.add 2))∧hx=[]∧(At imm' ad51 (cInst x4 p141 c131))∧(S4 imm' p141 x4.Point c131)),.x (fun imm' v hx=>∃ p1411 c1311,v=vS p1411 x4.Point c1311∧hx=[]∧(S4 imm' p1411 x4.Point c1311)),.x (fun imm' v hx=>∃ p15 c14,v=.tuple ⟨[vS p15 y2 c14,vI y3,.bool y4]⟩∧hx=[]∧(S4 imm' p15 y2 c14)),.x (fun imm' v hx=>∃ p151 c141,v=.tuple ⟨[vS p151 y2 c141,vI y3,.bool y4]⟩∧hx=[]∧(S4 imm' p151 y2 c141)),.x (fun imm' v hx=>∃ p1511 c1411,v=vS p1511 y2 c1411∧hx=[]∧(S4 imm' p1511 y2 c1411)),.q (vI y3),.q (.bool y4),.x (fun imm' v hx=>∃ p15111 c14111,v=vS p15111 y2 c14111∧hx=[]∧(S4 imm' p15111 y2 c14111)),.p (vI y3) []] [[],[(0,false)],[],[(2,false)],[],[],[(4,false),(5,false)],[(6,false)],[(7,false)],[(3,false),(8,false)],[(9,false)],[(10,false)],[],[],[(12,false),(13,false)],[(14,false)],[(15,false)],[(11,false),(16,false)],[(17,false)],[],[],[(19,false),(20,false)],[(21,false)],[(22,false)],[(1,false),(18,false),(23,false)],[(24,false)],[(25,false)],[(25,false)],[(25,false)],[(26,false)],[(27,false)]] [hO spec_l6Use (vS p4 out c3) cs,hB b (cProg p p1 c p2 c1)] [] [(28,false),(29,false),(30,false)] (zL [0,1] rfl (by decide)) ?_ ?_
   · refine Op<|Op<|Op<|Op<|Op<|Op<|Ox ?_<|Ox ?_<|Oq ?_<|Ox ?_<|Ox ?_<|Ox ?_<|Op<|Op<|Ox ?_<|Ox ?_<|Oq ?_<|Ox ?_<|Ox ?_<|Op<|Op<|Ox ?_<|Ox ?_<|Ox ?_<|Ox ?_<|Ox ?_<|Ox ?_<|Oq ?_<|Oq ?_<|Ox ?_<|Op<|On
     · intro imm1 hf le1;refine zE ?_;rintro _ _ ⟨rfl,rfl⟩;refine zE ?_;rintro _ _ ⟨rfl,rfl⟩;refine zM<|yG [(23,vS p3 y c2),(24,vI i)] ?_;have hle:=iS imm1;have h3:=h3.mono le1;refine wD rfl rfl h3 hy1 ?_;intro ad ccs hat hrep;obtain ⟨v01,rfl,h6⟩:=zG2 hrep;obtain ⟨p6,c5,rfl⟩:=h6.form;exact zZ (hx:=[]) rfl hle rfl (zK rfl) ⟨_,_,_,rfl,rfl,hat,h6⟩
     · intro imm1 hf le1;refine zE ?_;rintro _ _ ⟨ad,p6,c5,rfl,rfl,hat,h6⟩;refine zM<|yG [(25,.pointer (some ad))] ?_;have hle:=iS imm1;exact rW 8 [(26,.pointer (some ad))]<|zZ (hx:=[]) rfl hle rfl (zK rfl) ⟨_,_,_,rfl,rfl,hat,h6⟩
     · intro imm1 hf le1;refine zE ?_;rintro _ _ ⟨ad1,p61,c51,rfl,rfl,hat1,h61⟩;refine zM<|yG [(26,.pointer (some ad1))] ?_;have hle:=iS imm1;exact xQ 0 hat1 [vI x.Part] (vI x.Part) rfl<|zZ (hx:=[]) rfl hle rfl (zK rfl) ⟨rfl,rfl⟩
     · intro imm1 hf le1;refine zE ?_;rintro _ _ ⟨rfl,rfl⟩;refine zE ?_;rintro _ _ ⟨rfl,rfl⟩;refine zM<|yG [(22,vS p2 p.Parts c1),(27,vI x.Part)] ?_;have hle:=iS imm1;have h1:=h1.mono le1;refine wD rfl rfl h1 hy2 ?_;intro ad2 ccs1 hat2 hrep1;obtain ⟨v02,v03,rfl,h7,h8⟩:=xT hrep1;obtain ⟨p7,c6,rfl⟩:=h7.form;obtain ⟨p8,c7,rfl⟩:=h8.form;exact zZ (hx:=[]) rfl hle rfl (zK rfl) ⟨_,_,_,_,_,rfl,rfl,hat2,h7,h8⟩
     · intro imm1 hf le1;refine zE ?_;rintro _ _ ⟨ad2,p7,c6,p8,c7,rfl,rfl,hat2,h7,h8⟩;refine zM<|yG [(28,.pointer (some ad2))] ?_;have hle:=iS imm1;exact rW 11 [(29,.pointer (some (ad2.add 1)))]<|zZ (hx:=[]) rfl hle rfl (zK rfl) ⟨_,_,_,_,_,rfl,rfl,hat2,h7,h8⟩
     · intro imm1 hf le1;refine zE ?_;rintro _ _ ⟨ad21,p71,c61,p81,c71,rfl,rfl,hat21,h71,h81⟩;refine zM<|yG [(29,.pointer (some (ad21.add 1)))] ?_;have hle:=iS imm1;exact xQ 1 hat21 [vS p81 x1.Body c71] (vS p81 x1.Body c71) rfl<|zZ (hx:=[]) rfl hle rfl (zK rfl) ⟨_,_,rfl,rfl,h81⟩
     · intro imm1 hf le1;refine zE ?_;rintro _ _ ⟨rfl,rfl⟩;refine zE ?_;rintro _ _ ⟨rfl,rfl⟩;refine zM<|yG [(31,vS p3 y c2),(32,vI i)] ?_;have hle:=iS imm1;have h3:=h3.mono le1;refine wD rfl rfl h3 hy3 ?_;intro ad3 ccs2 hat3 hrep2;obtain ⟨v04,rfl,h9⟩:=zG2 hrep2;obtain ⟨p9,c8,rfl⟩:=h9.form;exact zZ (hx:=[]) rfl hle rfl (zK rfl) ⟨_,_,_,rfl,rfl,hat3,h9⟩
     · intro imm1 hf le1;refine zE ?_;rintro _ _ ⟨ad3,p9,c8,rfl,rfl,hat3,h9⟩;refine zM<|yG [(33,.pointer (some ad3))] ?_;have hle:=iS imm1;exact rW 16 [(34,.pointer (some (ad3.add 1)))]<|zZ (hx:=[]) rfl hle rfl (zK rfl) ⟨_,_,_,rfl,rfl,hat3,h9⟩
     · intro imm1 hf le1;refine zE ?_;rintro _ _ ⟨ad31,p91,c81,rfl,rfl,hat31,h91⟩;refine zM<|yG [(34,.pointer (some (ad31.add 1)))] ?_;have hle:=iS imm1;exact xQ 1 hat31 [vI x2.Stmt] (vI x2.Stmt) rfl<|zZ (hx:=[]) rfl hle rfl (zK rfl) ⟨rfl,rfl⟩
     · intro imm1 hf le1;refine zE ?_;rintro _ _ ⟨p811,c711,rfl,rfl,h811⟩;refine zE ?_;rintro _ _ ⟨rfl,rfl⟩;refine zM<|yG [(30,vS p811 x1.Body c711),(35,vI x2.Stmt)] ?_;have hle:=iS imm1;refine wD rfl rfl h811 hy4 ?_;intro ad4 ccs3 hat4 hrep3;obtain ⟨v05,v06,v07,v08,rfl,h10,h11,h12,h13⟩:=wE hrep3;obtain ⟨p10,c9,rfl⟩:=h10.form;obtain ⟨p11,c10,rfl⟩:=h11.form;obtain ⟨p12,c11,rfl⟩:=h12.form;obtain ⟨p13,c12,rfl⟩:=h13.form;exact zZ (hx:=[]) rfl hle rfl (zK rfl) ⟨_,_,_,_,_,_,_,_,_,rfl,rfl,hat4,h10,h11,h12,h13⟩
     · intro imm1 hf le1;refine zE ?_;rintro _ _ ⟨ad4,p10,c9,p11,c10,p12,c11,p13,c12,rfl,rfl,hat4,h10,h11,h12,h13⟩;refine zM<|yG [(36,.pointer (some ad4))] ?_;have hle:=iS imm1;exact xQ 0 hat4 (cStmt x3 p10 c9 p11 c10 p12 c11 p13 c12) (vA (cStmt x3 p10 c9 p11 c10 p12 c11 p13 c12)) rfl<|zZ (hx:=[]) rfl hle rfl (zK rfl) ⟨_,_,_,_,_,_,_,_,rfl,rfl,h10,h11,h12,h13⟩
     · intro imm1 hf le1;refine zE ?_;rintro _ _ ⟨rfl,rfl⟩;refine zE ?_;rintro _ _ ⟨rfl,rfl⟩;refine zM<|yG [(38,vS p3 y c2),(39,vI i)] ?_;have hle:=iS imm1;have h3:=h3.mono le1;refine wD rfl rfl h3 hy5 ?_;intro ad5 ccs4 hat5 hrep4;obtain ⟨v09,rfl,h14⟩:=zG2 hrep4;obtain ⟨p14,c13,rfl⟩:=h14.form;exact zZ (hx:=[]) rfl hle rfl (zK rfl) ⟨_,_,_,rfl,rfl,hat5,h14⟩
     · intro imm1 hf le1;refine zE ?_;rintro _ _ ⟨ad5,p14,c13,rfl,rfl,hat5,h14⟩;refine zM<|yG [(40,.pointer (some ad5))] ?_;have hle:=iS imm1;exact rW 23 [(41,.pointer (some (ad5.add 2)))]<|zZ (hx:=[]) rfl hle rfl (zK rfl) ⟨_,_,_,rfl,rfl,hat5,h14⟩
     · intro imm1 hf le1;refine zE ?_;rintro _ _ ⟨ad51,p141,c131,rfl,rfl,hat51,h141⟩;refine zM<|yG [(41,.pointer (some (ad51.add 2)))] ?_;have hle:=iS imm1;exact xQ 2 hat51 [vS p141 x4.Point c131] (vS p141 x4.Point c131) rfl<|zZ (hx:=[]) rfl hle rfl (zK rfl) ⟨_,_,rfl,rfl,h141⟩
     · intro imm1 hf le1;refine zE ?_;rintro _ _ ⟨rfl,rfl⟩;refine zE ?_;rintro _ _ ⟨p101,c91,p111,c101,p121,c111,p131,c121,rfl,rfl,h101,h111,h121,h131⟩;refine zE ?_;rintro _ _ ⟨p1411,c1311,rfl,rfl,h1411⟩;refine zM<|yG [(20,vS p1 p.Arrays c),(37,vA (cStmt x3 p101 c91 p111 c101 p121 c111 p131 c121)),(42,vS p1411 x4.Point c1311)] ?_;have hle:=iS imm1;have h:=h.mono le1;refine yQ (zDO p.Arrays x3 x4.Point _ hy6 h h101 h111 h121 h131 h1411) ?_;rintro imm01 hs2 v2 k2 le1 - ⟨v010,v011,v012,rfl,rfl,h15,rfl,rfl⟩ -;have hle:=hle.trans le1;obtain ⟨p15,c14,rfl⟩:=h15.form;exact zZ (hx:=[]) rfl hle rfl (zK rfl) ⟨_,_,rfl,rfl,h15⟩
     · intro imm1 hf le1;refine zE ?_;rintro _ _ ⟨p15,c14,rfl,rfl,h15⟩;refine zM<|yG [(43,.tuple ⟨[vS p15 y2 c14,vI y3,.bool y4]⟩)] ?_;have hle:=iS imm1;exact rW 26 [(18,.tuple ⟨[vS p15 y2 c14,vI y3,.bool y4]⟩)]<|zZ (hx:=[]) rfl hle rfl (zK rfl) ⟨_,_,rfl,rfl,h15⟩
     · intro imm1 hf le1;refine zE ?_;rintro _ _ ⟨p151,c141,rfl,rfl,h151⟩;refine zM<|yG [(18,.tuple ⟨[vS p151 y2 c141,vI y3,.bool y4]⟩)] ?_;have hle:=iS imm1;exact rW 27 [(44,vS p151 y2 c141)]<|zZ (hx:=[]) rfl hle rfl (zK rfl) ⟨_,_,rfl,rfl,h151⟩
     · intro imm1 hf le1;refine zE ?_;rintro _ _ ⟨p151,c141,rfl,rfl,h151⟩;refine zM<|yG [(18,.tuple ⟨[vS p151 y2 c141,vI y3,.bool y4]⟩)] ?_;have hle:=iS imm1;exact rW 28 [(45,vI y3)]<|zZ (hx:=[]) rfl hle rfl (zK rfl) ⟨rfl,rfl⟩
     · intro imm1 hf le1;refine zE ?_;rintro _ _ ⟨p151,c141,rfl,rfl,h151⟩;refine zM<|yG [(18,.tuple ⟨[vS p151 y2 c141,vI y3,.bool y4]⟩)] ?_;have hle:=iS imm1;exact rW 29 [(46,.bool y4)]<|zZ (hx:=[]) rfl hle rfl (zK rfl) ⟨rfl,rfl⟩
     intro imm1 hf le1;refine zE ?_;rintro _ _ ⟨p1511,c1411,rfl,rfl,h1511⟩;refine zM<|yG [(44,vS p1511 y2 c1411)] ?_;have hle:=iS imm1;exact rW 30 [(6,vS p1511 y2 c1411)]<|zZ (hx:=[]) rfl hle rfl (zK rfl) ⟨_,_,rfl,rfl,h1511⟩
   intro imm02 le2;refine zE ?_;rintro _ _ ⟨rfl,rfl⟩;refine zE ?_;rintro _ _ ⟨p15111,c14111,rfl,rfl,h15111⟩;refine zE ?_;rintro _ _ ⟨rfl,rfl⟩;refine zM<|yG [(1,vP b 0),(3,vS p4 out c3),(4,vS p3 y c2),(5,vI i),(6,vS p15111 y2 c14111),(7,vI y3),(46,.bool y4)] ?_;have h4:=iM le2 h4;have h3:=h3.mono le2;have h:=h.mono le2;have h1:=h1.mono le2;have hle:=hle.trans le2;refine yA [] []<|zF<|zB<|yK 4 [] [(47,vS p4 out c3),(50,vA [vS p15111 y2 c14111,vI y3])]<|xV [vS p15111 y2 c14111,vI y3] spec_l6Use ?_;intro b2 hb2;have h18:RL imm02 [vS p15111 y2 c14111,vI y3] ([(spec_l6Use.mk y2 y3)]:List spec_l6Use):=⟨[vS p15111 y2 c14111,vI y3],_,rfl,rfl,(spec_l6Use_shut ⟨_,rfl,h15111⟩),rfl⟩;obtain ⟨out2,hy7,hM⟩:=zC hM;refine qQ 125 2 1 rfl rfl rfl h4 (.inr ⟨0,rfl⟩) h18 hy7 ?_;intro p16 c15 cs2 h19;exact rY (zL [1,2] (hs':=[hO spec_l6Use (vS p16 out2 c15) cs2,hB b (cProg p p1 c p2 c1)]) rfl (by decide))<|yA [] [(3,vS p16 out2 c15)]<|zY<|zF<|zB<|yA [] [(5,vI (W (i + 1)))]<|xB<|vG [(1,vP b 0),(3,vS p16 out2 c15),(4,vS p3 y c2),(5,vI (W (i + 1)))]<|ih out2 (W (i + 1)) _ hM hle h3 h h1 h19 hg ho hx
 intro hc hM;exact yZ<|zS<|zS<|wB (zL [0] rfl (by decide))<|yS [(3,vS p4 out c3)]<|hx _ _ _ _ _ (zD hM).symm hle h4
def M.spec_l6Uses (p:zW):Option ((List spec_l6Use)):=do
 let y←oZ p
 let out1←M.spec_l6Uses_l1 p y ([]:List spec_l6Use) 0
 pure (id out1)
theorem spec_l6Uses_ok:∀ (p:zW) r,M.spec_l6Uses p=some r→∀ {imm:Imm}{p1 c p2 c1},(S4 imm p1 p.Arrays c)→(S4 imm p2 p.Parts c1)→Ret Tryz.prog 87 [vA (cProg p p1 c p2 c1)] imm [] (spec_l6Uses_post  r):=by
 intro p r hM imm p1 c p2 c1 h h1;unfold M.spec_l6Uses at hM;refine yH (fn:=Tryz.f87) (c:=(bodyOf Tryz.f87)) Tryz.func87 rfl rfl ?_;rintro B - -;refine zG<|zB<|tA (cProg p p1 c p2 c1) ?_;intro b hb;refine yA [] []<|zF<|zG<|zB<|xV [] spec_l6Use ?_;intro b1 hb1;have h2:RL imm [] ([]:List spec_l6Use):=rfl;refine yA [] [(3,vS (some ⟨b1,0,none⟩) ([]:List spec_l6Use) 0)]<|zF<|zG<|zB<|yK 1 [1] [(10,vA (cProg p p1 c p2 c1))] ?_;obtain ⟨y,hy,hM⟩:=zC hM;refine yQ (zGP p _ hy h h1) ?_;rintro imm0 hs2 v2 k2 le - ⟨v0,rfl,rfl,h3⟩ -;have h2:=iM le h2;have h:=h.mono le;have h1:=h1.mono le;obtain ⟨p3,c2,rfl⟩:=h3.form;refine yA [] [(4,vS p3 y c2)]<|zF<|zG<|zG<|zB<|yA [] [(5,vI 0)]<|zF<|yC<|vG [(1,vP b 0),(3,vS (some ⟨b1,0,none⟩) ([]:List spec_l6Use) 0),(4,vS p3 y c2),(5,vI 0)] ?_;obtain ⟨o0,ho0,hMl⟩:=zC hM;refine spec_l6Uses_l1_ok p y ([]:List spec_l6Use) 0 o0 ho0 iR h3 h h1 h2 (fun _ _ _ h=>h) (fun _ _ h=>h) ?_;intro imm03 out1 p5 c4 cs1 heq le3 h5;subst o0;refine yD<|zF<|zG<|zB<|yA [] [(2,vS p5 out1 c4)]<|zF<|yI<|xJ 0 rfl ?_;intro imm04 le4 hl0;have h20:=SL.of_frozen hl0 le4 h5;obtain rfl:=zD hMl;exact yP ⟨_,_,(.tmp rfl ResV.nil),zX,⟨_,rfl,rfl,h20⟩⟩
def spec_AddressTrace_post (r:(List Int)):KT:=fun kk imm' hs' v=>
  ∃ v0,hs'=[]∧v=tupV [v0]∧SL imm' v0 r
def M.spec_AddressTrace_l1 (y1:(List spec_l6Use)) (out:List Int) (i:Int):Option (Out (List Int) ((List Int))):=do
 if (decide (i < (y1.length:Int))) then
  let x←idx y1 i
  let l←app 8 out x.reads
  let x1←idx y1 i
  let out2←app 8 l ([x1.write]:List Int)
  if (decide ((out2.length:Int) > 600)) then
   let l1←slc out2 0 600
   let t2←app 8 ([]:List Int) l1
   pure (.ret t2)
  else
   M.spec_AddressTrace_l1 y1 out2 (W (i + 1))
 else
  pure (.done out)
 partial_fixpoint
theorem spec_AddressTrace_l1_ok (y1:(List spec_l6Use)):∀ (out:List Int) (i:Int) (o:Out (List Int) ((List Int))),M.spec_AddressTrace_l1 y1 out i=some o→∀ {B}{imm0 imm:Imm}{Q p3 c2 p4 c3 cs},imm0.le imm→(S4 imm p3 y1 c2)→(RL imm cs out)→(∀ gl a w,¬Q (.goto gl) a w)→(∀ a w,¬Q .outgrown a w)→(∀ (imm':Imm) (out1:List Int) (p5:Option Addr) (c4:Nat) (cs1:List Value),o=(.done out1)→imm0.le imm'→(RL imm' cs1 out1)→T 41 B Q (.exit 0) imm' [hO Int (vS p5 out1 c4) cs1] [(3,vS p5 out1 c4)])→(∀ r imm' hs' m',o=(.ret r)→imm0.le imm'→RS Tryz.prog Tryz.f40 B (spec_AddressTrace_post  r) imm' hs' m'→T 41 B Q .ret imm' hs' m')→J Tryz.prog 41 B (nav (bodyOf Tryz.f40) [1,1,1,1,0,1,0]) Q imm [hO Int (vS p4 out c3) cs] [(3,vS p4 out c3),(4,vS p3 y1 c2),(5,vI i)]:=by
 refine M.spec_AddressTrace_l1.partial_correctness y1 _ ?_;intro self ih out i o hM B imm0 imm Q p3 c2 p4 c3 cs hle h5 h6 hg ho hx hr;refine xA hg ho<|zG<|zG<|zB<|yA [] [(16,.bool (decide (i < (y1.length:Int))))]<|zF<|yO hM ?_ ?_
 · intro hc1 hM;refine yE<|zF<|zG<|yC<|zG ?_;obtain ⟨x,hy2,hM⟩:=zC hM;obtain ⟨l,hy3,hM⟩:=zC hM;obtain ⟨x1,hy4,hM⟩:=zC hM;obtain ⟨out2,hy5,hM⟩:=zC hM;refine vC [.p (vS p4 out c3) [],.p (vS p3 y1 c2) [],.p (vI i) [],.x (fun imm' v hx=>∃ ad p6 c5,v=.pointer (some ad)∧hx=[]∧(At imm' ad [vS p6 x.reads c5,vI x.write])∧(S4 imm' p6 x.reads c5)),.x (fun imm' v hx=>∃ ad1 p61 c51,v=.pointer (some ad1)∧hx=[]∧(At imm' ad1 [vS p61 x.reads c51,vI x.write])∧(S4 imm' p61 x.reads c51)),.x (fun imm' v hx=>∃ p611 c511,v=vS p611 x.reads c511∧hx=[]∧(S4 imm' p611 x.reads c511)),.x (fun imm' v hx=>∃ p7 c6 cs2,v=vS p7 l c6∧hx=[hO Int (vS p7 l c6) cs2]∧(RL imm' cs2 l)),.p (vS p3 y1 c2) [],.p (vI i) [],.x (fun imm' v hx=>∃ ad2 p8 c7,v=.pointer (some ad2)∧hx=[]∧(At imm' ad2 [vS p8 x1.reads c7,vI x1.write])∧(S4 imm' p8 x1.reads c7)),.x (fun imm' v hx=>∃ ad21 p81 c71,v=.pointer (some (ad21.add 1))∧hx=[]∧(At imm' ad21 [vS p81 x1.reads c71,vI x1.write])∧(S4 imm' p81 x1.reads c71)),.q (vI x1.write),.x (fun imm' v hx=>∃ b2,v=vS (some ⟨b2,0,none⟩) ([x1.write]:List Int) 1∧hx=[]∧(SL imm' (vS (some ⟨b2,0,none⟩) ([x1.write]:List Int) 1) ([x1.write]:List Int))),.x (fun imm' v hx=>∃ p9 c8 cs3,v=vS p9 out2 c8∧hx=[hO Int (vS p9 out2 c8) cs3]∧(RL imm' cs3 out2))] [[],[],[],[(1,false),(2,false)],[(3,false)],[(4,false)],[(0,false),(5,false),(15,true)],[],[],[(7,false),(8,false)],[(9,false)],[(10,false)],[(11,false)],[(6,true),(12,false)]] [] [[hO Int (vS p4 out c3) cs]] [(13,true)] (zL [0] rfl (by decide)) ?_ ?_
   · refine Op<|Op<|Op<|Ox ?_<|Ox ?_<|Ox ?_<|Ox ?_<|Op<|Op<|Ox ?_<|Ox ?_<|Oq ?_<|Ox ?_<|Ox ?_<|On
     · intro imm1 hf le1;refine zE ?_;rintro _ _ ⟨rfl,rfl⟩;refine zE ?_;rintro _ _ ⟨rfl,rfl⟩;refine zM<|yG [(20,vS p3 y1 c2),(21,vI i)] ?_;have hle:=iS imm1;have h5:=h5.mono le1;refine wD rfl rfl h5 hy2 ?_;intro ad ccs hat hrep;obtain ⟨v02,rfl,h8⟩:=spec_l6Use_open hrep;obtain ⟨p6,c5,rfl⟩:=h8.form;exact zZ (hx:=[]) rfl hle rfl (zK rfl) ⟨_,_,_,rfl,rfl,hat,h8⟩
     · intro imm1 hf le1;refine zE ?_;rintro _ _ ⟨ad,p6,c5,rfl,rfl,hat,h8⟩;refine zM<|yG [(22,.pointer (some ad))] ?_;have hle:=iS imm1;exact rW 5 [(23,.pointer (some ad))]<|zZ (hx:=[]) rfl hle rfl (zK rfl) ⟨_,_,_,rfl,rfl,hat,h8⟩
     · intro imm1 hf le1;refine zE ?_;rintro _ _ ⟨ad1,p61,c51,rfl,rfl,hat1,h81⟩;refine zM<|yG [(23,.pointer (some ad1))] ?_;have hle:=iS imm1;exact xQ 0 hat1 [vS p61 x.reads c51] (vS p61 x.reads c51) rfl<|zZ (hx:=[]) rfl hle rfl (zK rfl) ⟨_,_,rfl,rfl,h81⟩
     · intro imm1 hf le1;refine zE ?_;rintro _ _ ⟨rfl,rfl⟩;refine zE ?_;rintro _ _ ⟨p611,c511,rfl,rfl,h811⟩;refine zE ?_;rintro _ _ rfl;refine zM<|yG [(19,vS p4 out c3),(24,vS p611 x.reads c511)] ?_;have hle:=iS imm1;have h6:=iM le1 h6;obtain ⟨ccs1,k0,k01⟩:=h811;have h811:SL imm1 (vS p611 x.reads c511) x.reads:=⟨_,k0,k01⟩;refine qQ 3 1 0 rfl rfl rfl h6 (.inl k0) k01 hy3 ?_;intro p7 c6 cs2 h9;exact uP (hs':=(hO Int (vS p7 l c6) cs2::hf)) rfl<|zZ (hx:=[hO Int (vS p7 l c6) cs2]) rfl hle rfl (zK rfl) ⟨_,_,_,rfl,rfl,h9⟩
     · intro imm1 hf le1;refine zE ?_;rintro _ _ ⟨rfl,rfl⟩;refine zE ?_;rintro _ _ ⟨rfl,rfl⟩;refine zM<|yG [(26,vS p3 y1 c2),(27,vI i)] ?_;have hle:=iS imm1;have h5:=h5.mono le1;refine wD rfl rfl h5 hy4 ?_;intro ad2 ccs2 hat2 hrep1;obtain ⟨v03,rfl,h10⟩:=spec_l6Use_open hrep1;obtain ⟨p8,c7,rfl⟩:=h10.form;exact zZ (hx:=[]) rfl hle rfl (zK rfl) ⟨_,_,_,rfl,rfl,hat2,h10⟩
     · intro imm1 hf le1;refine zE ?_;rintro _ _ ⟨ad2,p8,c7,rfl,rfl,hat2,h10⟩;refine zM<|yG [(28,.pointer (some ad2))] ?_;have hle:=iS imm1;exact rW 11 [(29,.pointer (some (ad2.add 1)))]<|zZ (hx:=[]) rfl hle rfl (zK rfl) ⟨_,_,_,rfl,rfl,hat2,h10⟩
     · intro imm1 hf le1;refine zE ?_;rintro _ _ ⟨ad21,p81,c71,rfl,rfl,hat21,h101⟩;refine zM<|yG [(29,.pointer (some (ad21.add 1)))] ?_;have hle:=iS imm1;exact xQ 1 hat21 [vI x1.write] (vI x1.write) rfl<|zZ (hx:=[]) rfl hle rfl (zK rfl) ⟨rfl,rfl⟩
     · intro imm1 hf le1;refine zE ?_;rintro _ _ ⟨rfl,rfl⟩;refine zM<|yG [(30,vI x1.write)] ?_;have hle:=iS imm1;refine xV [vI x1.write] Int ?_;intro b2 hb2;have h11:RL imm1 [vI x1.write] ([x1.write]:List Int):=⟨[vI x1.write],_,rfl,rfl,rfl,rfl⟩;refine yL 0 rfl ?_;intro imm03 le3 hl01;have h12:=SL.of_frozen hl01 le3 h11;have hle:=hle.trans le3;exact zZ (hx:=[]) rfl hle rfl (zK rfl) ⟨_,rfl,rfl,h12⟩
     intro imm1 hf le1;refine zE ?_;rintro _ _ ⟨p7,c6,cs2,rfl,rfl,h9⟩;refine zE ?_;rintro _ _ ⟨b2,rfl,rfl,h12⟩;refine zM<|yG [(25,vS p7 l c6),(31,vS (some ⟨b2,0,none⟩) ([x1.write]:List Int) 1)] ?_;have hle:=iS imm1;obtain ⟨ccs3,k02,k03⟩:=h12;have h12:SL imm1 (vS (some ⟨b2,0,none⟩) ([x1.write]:List Int) 1) ([x1.write]:List Int):=⟨_,k02,k03⟩;refine qQ 3 1 0 rfl rfl rfl h9 (.inl k02) k03 hy5 ?_;intro p9 c8 cs3 h13;exact uP (hs':=(hO Int (vS p9 out2 c8) cs3::hf)) rfl<|zZ (hx:=[hO Int (vS p9 out2 c8) cs3]) rfl hle rfl (zK rfl) ⟨_,_,_,rfl,rfl,h13⟩
   intro imm04 le4;refine zE ?_;rintro _ _ ⟨p9,c8,cs3,rfl,rfl,h13⟩;refine zM<|yG [(4,vS p3 y1 c2),(5,vI i),(32,vS p9 out2 c8)] ?_;have h5:=h5.mono le4;have hle:=hle.trans le4;refine yA [] [(3,vS p9 out2 c8)]<|zF<|zG<|zB<|yA [] [(35,.bool (decide ((out2.length:Int) > 600)))]<|zF<|yO hM ?_ ?_
   · intro hc2 hM;refine zG<|zB<|xV [] Int ?_;intro b3 hb3;have h14:RL imm04 [] ([]:List Int):=rfl;refine yK 2 [] [(37,vS p9 out2 c8)] ?_;obtain ⟨l1,hy6,hM⟩:=zC hM;refine R_cut_osl 1 rfl rfl rfl rfl rfl (by kernel_rfl) rfl rfl h13 hy6 ?_;rintro p10 c9 cs4 - h15;refine uP (hs':=[hO Int (vS (some ⟨b3,0,none⟩) ([]:List Int) 0) [],hO Int (vS p10 l1 c9) cs4]) rfl ?_;obtain ⟨t2,hy7,hM⟩:=zC hM;refine qQ 3 1 0 rfl rfl rfl h14 (.inr ⟨1,rfl⟩) h15 hy7 ?_;intro p11 c10 cs5 h16;refine rY (zL [0] (hs':=[hO Int (vS p11 t2 c10) cs5]) rfl (by decide))<|yA [] [(2,vS p11 t2 c10)]<|zF<|yI<|yF<|zP<|zP<|xJ 0 rfl ?_;intro imm05 le5 hl02;have h17:=SL.of_frozen hl02 le5 h16;have hle:=hle.trans le5;exact hr _ _ _ _ (zD hM).symm hle ⟨_,_,(.tmp rfl ResV.nil),zX,⟨_,rfl,rfl,h17⟩⟩
   intro hc2 hM;exact yE<|zY<|zF<|zB<|yA [] [(5,vI (W (i + 1)))]<|xB<|vG [(3,vS p9 out2 c8),(4,vS p3 y1 c2),(5,vI (W (i + 1)))]<|ih out2 (W (i + 1)) _ hM hle h5 h13 hg ho hx hr
 intro hc1 hM;exact yZ<|zS<|zS<|yS [(3,vS p4 out c3)]<|hx _ _ _ _ _ (zD hM).symm hle h6
def M.spec_AddressTrace (p:zW):Option ((List Int)):=do
 let y←tK p
 if (!y) then
  pure ([]:List Int)
 else
  let y1←M.spec_l6Uses p
  match←M.spec_AddressTrace_l1 y1 ([]:List Int) 0 with
  | .ret r0=>pure r0
  | .done out1 =>
   pure (id out1)
theorem spec_AddressTrace_ok:∀ (p:zW) r,M.spec_AddressTrace p=some r→∀ {imm:Imm}{p1 c p2 c1},(S4 imm p1 p.Arrays c)→(S4 imm p2 p.Parts c1)→Ret Tryz.prog 40 [vA (cProg p p1 c p2 c1)] imm [] (spec_AddressTrace_post  r):=by
 intro p r hM imm p1 c p2 c1 h h1;unfold M.spec_AddressTrace at hM;refine yH (fn:=Tryz.f40) (c:=(bodyOf Tryz.f40)) Tryz.func40 rfl rfl ?_;rintro B - -;refine zG<|zB<|tA (cProg p p1 c p2 c1) ?_;intro b hb;refine yA [] []<|zF<|zG<|zB<|xV [] Int ?_;intro b1 hb1;have h2:RL imm [] ([]:List Int):=rfl;refine yA [] [(3,vS (some ⟨b1,0,none⟩) ([]:List Int) 0)]<|zF<|zG<|zG<|zB<|yK 1 [1] [(7,vA (cProg p p1 c p2 c1))] ?_;obtain ⟨y,hy,hM⟩:=zC hM;refine yQ (zAH p _ hy h h1) ?_;rintro imm0 hs2 v2 k2 le - ⟨v0,rfl,rfl,rfl⟩ -;have h2:=iM le h2;have h:=h.mono le;have h1:=h1.mono le;refine yA [] [(9,.bool (!y))]<|zF<|yO hM ?_ ?_
 · intro hc hM;refine zG<|zB<|yA [] [(2,vS (some ⟨b1,0,none⟩) ([]:List Int) 0)]<|zF<|yI<|zP<|xJ 0 rfl ?_;intro imm01 le1 hl0;have h4:=SL.of_frozen hl0 le1 h2;obtain rfl:=zD hM;exact yP ⟨_,_,(.tmp rfl ResV.nil),zX,⟨_,rfl,rfl,h4⟩⟩
 intro hc hM;refine yE<|zF<|zG<|zB<|yK 1 [1] [(11,vA (cProg p p1 c p2 c1))] ?_;obtain ⟨y1,hy1,hM⟩:=zC hM;refine yQ (spec_l6Uses_ok p _ hy1 h h1) ?_;rintro imm02 hs2 v2 k2 le2 - ⟨v01,rfl,rfl,h5⟩ -;have h2:=iM le2 h2;have h:=h.mono le2;obtain ⟨p3,c2,rfl⟩:=h5.form;refine yA [] [(4,vS p3 y1 c2)]<|zF<|zG<|zG<|zB<|yA [] [(5,vI 0)]<|zF<|yC<|qP (zL [0] (hs':=[hO Int (vS (some ⟨b1,0,none⟩) ([]:List Int) 0) []]) rfl (by decide))<|vG [(3,vS (some ⟨b1,0,none⟩) ([]:List Int) 0),(4,vS p3 y1 c2),(5,vI 0)] ?_;obtain ⟨o0,ho0,hMl⟩:=zC hM;refine spec_AddressTrace_l1_ok y1 ([]:List Int) 0 o0 ho0 iR h5 h2 (fun _ _ _ h=>h) (fun _ _ h=>h) ?_ ?_
 · intro imm06 out1 p5 c4 cs1 heq le6 h7;subst o0;refine yD<|zF<|zG<|zB<|yA [] [(2,vS p5 out1 c4)]<|zF<|yI<|xJ 0 rfl ?_;intro imm07 le7 hl03;have h18:=SL.of_frozen hl03 le7 h7;obtain rfl:=zD hMl;exact yP ⟨_,_,(.tmp rfl ResV.nil),zX,⟨_,rfl,rfl,h18⟩⟩
 intro r0 imm9 hs9 m9 heq9 le9 hrs9;subst heq9;refine yF<|zP ?_;obtain rfl:=zD hMl;exact yP hrs9
def laws_FnAddressTrace_post (r:Bool):KT:=fun kk imm' hs' v=>
  ∃ v0,hs'=[]∧v=tupV [v0]∧v0=.bool r
def M.laws_FnAddressTrace_l2 (y1:(List Int)) (y8:Bool) (all:List Int) (at02:Int) (k02:Int):Option (Out Int (Bool)):=do
 let t58←(do
   if (decide (k02 < (all.length:Int))) then
    pure (decide (at02 < (y1.length:Int)))
   else
    pure false
     : Option Bool)
 if t58 then
  let t73←(do
    if (!y8) then
     pure true
    else
     let x1←idx y1 at02
     let x2←idx all k02
     pure (x1 != x2)
      : Option Bool)
  if t73 then
   pure (.ret false)
  else
   M.laws_FnAddressTrace_l2 y1 y8 all (W (at02 + 1)) (W (k02 + 1))
 else
  pure (.done at02)
 partial_fixpoint
theorem laws_FnAddressTrace_l2_ok (y1:(List Int)) (y8:Bool) (all:List Int):∀ (at02:Int) (k02:Int) (o:Out Int (Bool)),M.laws_FnAddressTrace_l2 y1 y8 all at02 k02=some o→∀ {B}{imm0 imm:Imm}{Q}{y:zW}{y4:(List zU)}{i:Int}{p1 c1 p2 c2}{b:Nat}{p3 c3 p5 c5 p9 c9 cs2},imm0.le imm→(S4 imm p3 y1 c3)→(S4 imm p5 y4 c5)→(RL imm cs2 all)→(S4 imm p1 y.Arrays c1)→(S4 imm p2 y.Parts c2)→(∀ gl a w,¬Q (.goto gl) a w)→(∀ a w,¬Q .outgrown a w)→(∀ (imm':Imm) (at03:Int),o=(.done at03)→imm0.le imm'→T 87 B Q (.exit 2) imm' [hB b (cProg y p1 c1 p2 c2)] [(3,vP b 0),(4,vS p3 y1 c3),(5,vS p5 y4 c5),(6,vI at03),(7,vI i)])→(∀ r imm' hs' m',o=(.ret r)→imm0.le imm'→RS Tryz.prog Tryz.f12 B (laws_FnAddressTrace_post  r) imm' hs' m'→T 87 B Q .ret imm' hs' m')→J Tryz.prog 87 B (nav (bodyOf Tryz.f12) [1,1,1,1,1,1,1,0,1,0,0,1,0,0,1,1,1,0]) Q imm [hO Int (vS p9 all c9) cs2,hB b (cProg y p1 c1 p2 c2)] [(3,vP b 0),(4,vS p3 y1 c3),(5,vS p5 y4 c5),(6,vI at02),(7,vI i),(10,.bool y8),(11,vS p9 all c9),(12,vI k02)]:=by
 refine M.laws_FnAddressTrace_l2.partial_correctness y1 y8 all _ ?_;intro self ih at02 k02 o hM B imm0 imm Q y y4 i p1 c1 p2 c2 b p3 c3 p5 c5 p9 c9 cs2 hle h4 h7 h15 h2 h3 hg ho hx hr;refine xA hg ho<|zG<|zG ?_;obtain ⟨o0,ho0,hMc⟩:=zC hM;refine yT (fun imm' hs' m'=>∃ (t58:Bool),o0=t58∧imm.le imm'∧hs'=[hO Int (vS p9 all c9) cs2,hB b (cProg y p1 c1 p2 c2)]∧m'=[(3,vP b 0),(4,vS p3 y1 c3),(5,vS p5 y4 c5),(6,vI at02),(7,vI i),(10,.bool y8),(11,vS p9 all c9),(12,vI k02),(58,.bool t58)]) ?_ ?_
 · have hle:=iS imm;refine zB<|yK 5 [] [(53,.bool (decide (k02 < (all.length:Int))))] ?_;cases hc3:(decide (k02 < (all.length:Int))) with
   | true =>
    have hM0:=zV hc3 ho0
    try rw [hc3]
    exact yA [] [(58,.bool (decide (at02 < (y1.length:Int))))]<|yS [(3,vP b 0),(4,vS p3 y1 c3),(5,vS p5 y4 c5),(6,vI at02),(7,vI i),(10,.bool y8),(11,vS p9 all c9),(12,vI k02),(58,.bool (decide (at02 < (y1.length:Int))))]<|yB ⟨_,(zD hM0).symm,hle,rfl,rfl⟩
   | false =>
    have hM01:=zT hc3 ho0
    try rw [hc3]
    exact yA [] [(58,.bool false)]<|yS [(3,vP b 0),(4,vS p3 y1 c3),(5,vS p5 y4 c5),(6,vI at02),(7,vI i),(10,.bool y8),(11,vS p9 all c9),(12,vI k02),(58,.bool false)]<|yB ⟨_,(zD hM01).symm,hle,rfl,rfl⟩
 rintro imm07 hs2 m2 ⟨t58,heq,le7,rfl,rfl⟩;subst o0;have h4:=h4.mono le7;have h7:=h7.mono le7;have h15:=iM le7 h15;have h2:=h2.mono le7;have h3:=h3.mono le7;have hle:=hle.trans le7;refine zF<|yO hMc ?_ ?_
 · intro hc4 hM;refine yE<|zF<|zG<|yC<|zG<|zG ?_;obtain ⟨o01,ho01,hMc1⟩:=zC hM;refine yT (fun imm' hs' m'=>∃ (t73:Bool),o01=t73∧imm07.le imm'∧hs'=[hO Int (vS p9 all c9) cs2,hB b (cProg y p1 c1 p2 c2)]∧m'=[(3,vP b 0),(4,vS p3 y1 c3),(5,vS p5 y4 c5),(6,vI at02),(7,vI i),(10,.bool y8),(11,vS p9 all c9),(12,vI k02),(73,.bool t73)]) ?_ ?_
   · have hle:=iS imm07;refine kA (by kernel_rfl) (by kernel_rfl)<|fH 3 [] [(63,.bool (!y8))] ?_;cases hc5:(!y8) with
     | true =>
      have hM02:=zV hc5 ho01
      try rw [hc5]
      exact zC3 [] [(73,.bool true)]<|yS [(3,vP b 0),(4,vS p3 y1 c3),(5,vS p5 y4 c5),(6,vI at02),(7,vI i),(10,.bool y8),(11,vS p9 all c9),(12,vI k02),(73,.bool true)]<|yB ⟨_,(zD hM02).symm,hle,rfl,rfl⟩
     | false =>
      have hM03:=zT hc5 ho01
      try rw [hc5]
      refine fH 5 [] [(64,vS p3 y1 c3),(65,vI at02)] ?_;obtain ⟨x1,hy9,hM⟩:=zC hM03;refine zBd rfl rfl h4 hy9 ?_;intro ad1 ccs2 hat1 hrep1;obtain rfl:=hrep1;refine zBc 0 hat1 [vI x1] (vI x1) rfl<|fH 9 [] [(68,vS p9 all c9),(69,vI k02)] ?_;obtain ⟨x2,hy10,hM⟩:=zC hM;refine Rq_ixo 0 rfl rfl rfl h15 hy10 ?_;intro ad2 ccs3 hat2 hcc hrep2;obtain rfl:=hrep2;exact Rq_lo 0 0 hat2 hcc [vI x2] (vI x2) rfl rfl<|zC3 [] [(73,.bool (x1 != x2))]<|yS [(3,vP b 0),(4,vS p3 y1 c3),(5,vS p5 y4 c5),(6,vI at02),(7,vI i),(10,.bool y8),(11,vS p9 all c9),(12,vI k02),(73,.bool (x1 != x2))]<|yB ⟨_,(zD hM).symm,hle,rfl,rfl⟩
   rintro imm08 hs2 m2 ⟨t73,heq1,le8,rfl,rfl⟩;subst o01;have h4:=h4.mono le8;have h7:=h7.mono le8;have h15:=iM le8 h15;have h2:=h2.mono le8;have h3:=h3.mono le8;have hle:=hle.trans le8;refine zF<|yO hMc1 ?_ ?_
   · intro hc6 hM;exact zG<|zB<|yA [] [(2,.bool false)]<|zF<|yI<|zP<|yF<|zP<|zP<|hr _ _ _ _ (zD hM).symm hle ⟨_,_,(.tmp rfl ResV.nil),zX,⟨_,rfl,rfl,rfl⟩⟩
   intro hc6 hM;exact yE<|zF<|zB<|yA [] [(6,vI (W (at02 + 1)))]<|zY<|zF<|zB<|yA [] [(12,vI (W (k02 + 1)))]<|xB<|vG [(3,vP b 0),(4,vS p3 y1 c3),(5,vS p5 y4 c5),(6,vI (W (at02 + 1))),(7,vI i),(10,.bool y8),(11,vS p9 all c9),(12,vI (W (k02 + 1)))]<|ih (W (at02 + 1)) (W (k02 + 1)) _ hM hle h4 h7 h15 h2 h3 hg ho hx hr
 intro hc4 hM;exact yZ<|zS<|zS<|wB (zL [1] rfl (by decide))<|yS [(3,vP b 0),(4,vS p3 y1 c3),(5,vS p5 y4 c5),(6,vI at02),(7,vI i)]<|hx _ _ (zD hM).symm hle
def M.laws_FnAddressTrace_l1 (y:zW) (y1:(List Int)) (y4:(List zU)) (at0:Int) (i:Int):Option (Out Int (Bool)):=do
 if (decide (i < (y4.length:Int))) then
  let x←idx y4 i
  let (y6,y7,y8)←kT y x
  let l←app 8 ([]:List Int) y6
  let all←app 8 l ([y7]:List Int)
  match←M.laws_FnAddressTrace_l2 y1 y8 all at0 0 with
  | .ret r0=>pure (.ret r0)
  | .done at03 =>
   M.laws_FnAddressTrace_l1 y y1 y4 at03 (W (i + 1))
 else
  pure (.done at0)
 partial_fixpoint
theorem laws_FnAddressTrace_l1_ok (y:zW) (y1:(List Int)) (y4:(List zU)):∀ (at0:Int) (i:Int) (o:Out Int (Bool)),M.laws_FnAddressTrace_l1 y y1 y4 at0 i=some o→∀ {B}{imm0 imm:Imm}{Q p1 c1 p2 c2}{b:Nat}{p3 c3 p5 c5},imm0.le imm→(S4 imm p3 y1 c3)→(S4 imm p5 y4 c5)→(S4 imm p1 y.Arrays c1)→(S4 imm p2 y.Parts c2)→(∀ gl a w,¬Q (.goto gl) a w)→(∀ a w,¬Q .outgrown a w)→(∀ (imm':Imm) (at01:Int),o=(.done at01)→imm0.le imm'→T 87 B Q (.exit 0) imm' [] [(4,vS p3 y1 c3),(5,vS p5 y4 c5),(6,vI at01)])→(∀ r imm' hs' m',o=(.ret r)→imm0.le imm'→RS Tryz.prog Tryz.f12 B (laws_FnAddressTrace_post  r) imm' hs' m'→T 87 B Q .ret imm' hs' m')→J Tryz.prog 87 B (nav (bodyOf Tryz.f12) [1,1,1,1,1,1,1,0,1,0]) Q imm [hB b (cProg y p1 c1 p2 c2)] [(3,vP b 0),(4,vS p3 y1 c3),(5,vS p5 y4 c5),(6,vI at0),(7,vI i)]:=by
 refine M.laws_FnAddressTrace_l1.partial_correctness y y1 y4 _ ?_;intro self ih at0 i o hM B imm0 imm Q p1 c1 p2 c2 b p3 c3 p5 c5 hle h4 h7 h2 h3 hg ho hx hr;refine xA hg ho<|zG<|zG<|zB<|yA [] [(30,.bool (decide (i < (y4.length:Int))))]<|zF<|yO hM ?_ ?_
 · intro hc2 hM;refine yE<|zF<|zG<|yC<|zG ?_;obtain ⟨x,hy5,hM⟩:=zC hM;obtain ⟨⟨y6,y7,y8⟩,hy6,hM⟩:=zC hM;refine vC [.p (vA (cProg y p1 c1 p2 c2)) [0],.p (vS p5 y4 c5) [],.p (vI i) [],.x (fun imm' v hx=>∃ ad p6 c6,v=.pointer (some ad)∧hx=[]∧(At imm' ad (cInst x p6 c6))∧(S4 imm' p6 x.Point c6)),.x (fun imm' v hx=>∃ p61 c61,v=vA (cInst x p61 c61)∧hx=[]∧(S4 imm' p61 x.Point c61)),.x (fun imm' v hx=>∃ p7 c7,v=.tuple ⟨[vS p7 y6 c7,vI y7,.bool y8]⟩∧hx=[]∧(S4 imm' p7 y6 c7)),.x (fun imm' v hx=>∃ p71 c71,v=.tuple ⟨[vS p71 y6 c71,vI y7,.bool y8]⟩∧hx=[]∧(S4 imm' p71 y6 c71)),.x (fun imm' v hx=>∃ p711 c711,v=vS p711 y6 c711∧hx=[]∧(S4 imm' p711 y6 c711)),.q (vI y7),.q (.bool y8),.x (fun imm' v hx=>∃ p7111 c7111,v=vS p7111 y6 c7111∧hx=[]∧(S4 imm' p7111 y6 c7111)),.p (vI y7) []] [[],[],[],[(1,false),(2,false)],[(3,false)],[(0,false),(4,false)],[(5,false)],[(6,false)],[(6,false)],[(6,false)],[(7,false)],[(8,false)]] [hB b (cProg y p1 c1 p2 c2)] [] [(9,false),(10,false),(11,false)] (zL [0] rfl (by decide)) ?_ ?_
   · refine Op<|Op<|Op<|Ox ?_<|Ox ?_<|Ox ?_<|Ox ?_<|Ox ?_<|Oq ?_<|Oq ?_<|Ox ?_<|Op<|On
     · intro imm1 hf le1;refine zE ?_;rintro _ _ ⟨rfl,rfl⟩;refine zE ?_;rintro _ _ ⟨rfl,rfl⟩;refine zM<|yG [(35,vS p5 y4 c5),(36,vI i)] ?_;have hle:=iS imm1;have h7:=h7.mono le1;refine wD rfl rfl h7 hy5 ?_;intro ad ccs hat hrep;obtain ⟨v07,rfl,h8⟩:=zG2 hrep;obtain ⟨p6,c6,rfl⟩:=h8.form;exact zZ (hx:=[]) rfl hle rfl (zK rfl) ⟨_,_,_,rfl,rfl,hat,h8⟩
     · intro imm1 hf le1;refine zE ?_;rintro _ _ ⟨ad,p6,c6,rfl,rfl,hat,h8⟩;refine zM<|yG [(37,.pointer (some ad))] ?_;have hle:=iS imm1;exact xQ 0 hat (cInst x p6 c6) (vA (cInst x p6 c6)) rfl<|zZ (hx:=[]) rfl hle rfl (zK rfl) ⟨_,_,rfl,rfl,h8⟩
     · intro imm1 hf le1;refine zE ?_;rintro _ _ ⟨rfl,rfl⟩;refine zE ?_;rintro _ _ ⟨p61,c61,rfl,rfl,h81⟩;refine zM<|yG [(34,vA (cProg y p1 c1 p2 c2)),(38,vA (cInst x p61 c61))] ?_;have hle:=iS imm1;have h2:=h2.mono le1;have h3:=h3.mono le1;refine yQ (zF5 y x _ hy6 h2 h3 h81) ?_;rintro imm05 hs2 v2 k2 le5 - ⟨v08,v09,v010,rfl,rfl,h9,rfl,rfl⟩ -;have hle:=hle.trans le5;obtain ⟨p7,c7,rfl⟩:=h9.form;exact zZ (hx:=[]) rfl hle rfl (zK rfl) ⟨_,_,rfl,rfl,h9⟩
     · intro imm1 hf le1;refine zE ?_;rintro _ _ ⟨p7,c7,rfl,rfl,h9⟩;refine zM<|yG [(39,.tuple ⟨[vS p7 y6 c7,vI y7,.bool y8]⟩)] ?_;have hle:=iS imm1;exact rW 7 [(33,.tuple ⟨[vS p7 y6 c7,vI y7,.bool y8]⟩)]<|zZ (hx:=[]) rfl hle rfl (zK rfl) ⟨_,_,rfl,rfl,h9⟩
     · intro imm1 hf le1;refine zE ?_;rintro _ _ ⟨p71,c71,rfl,rfl,h91⟩;refine zM<|yG [(33,.tuple ⟨[vS p71 y6 c71,vI y7,.bool y8]⟩)] ?_;have hle:=iS imm1;exact rW 8 [(40,vS p71 y6 c71)]<|zZ (hx:=[]) rfl hle rfl (zK rfl) ⟨_,_,rfl,rfl,h91⟩
     · intro imm1 hf le1;refine zE ?_;rintro _ _ ⟨p71,c71,rfl,rfl,h91⟩;refine zM<|yG [(33,.tuple ⟨[vS p71 y6 c71,vI y7,.bool y8]⟩)] ?_;have hle:=iS imm1;exact rW 9 [(41,vI y7)]<|zZ (hx:=[]) rfl hle rfl (zK rfl) ⟨rfl,rfl⟩
     · intro imm1 hf le1;refine zE ?_;rintro _ _ ⟨p71,c71,rfl,rfl,h91⟩;refine zM<|yG [(33,.tuple ⟨[vS p71 y6 c71,vI y7,.bool y8]⟩)] ?_;have hle:=iS imm1;exact rW 10 [(42,.bool y8)]<|zZ (hx:=[]) rfl hle rfl (zK rfl) ⟨rfl,rfl⟩
     intro imm1 hf le1;refine zE ?_;rintro _ _ ⟨p711,c711,rfl,rfl,h911⟩;refine zM<|yG [(40,vS p711 y6 c711)] ?_;have hle:=iS imm1;exact rW 11 [(8,vS p711 y6 c711)]<|zZ (hx:=[]) rfl hle rfl (zK rfl) ⟨_,_,rfl,rfl,h911⟩
   intro imm06 le6;refine zE ?_;rintro _ _ ⟨rfl,rfl⟩;refine zE ?_;rintro _ _ ⟨p7111,c7111,rfl,rfl,h9111⟩;refine zE ?_;rintro _ _ ⟨rfl,rfl⟩;refine zM<|yG [(3,vP b 0),(4,vS p3 y1 c3),(5,vS p5 y4 c5),(6,vI at0),(7,vI i),(8,vS p7111 y6 c7111),(9,vI y7),(42,.bool y8)] ?_;have h4:=h4.mono le6;have h7:=h7.mono le6;have h2:=h2.mono le6;have h3:=h3.mono le6;have hle:=hle.trans le6;refine yA [] [(10,.bool y8)]<|zF<|zG<|zB<|xV [] Int ?_;intro b1 hb1;have h12:RL imm06 [] ([]:List Int):=rfl;refine yK 2 [] [(44,vS p7111 y6 c7111)] ?_;obtain ⟨ccs1,k0,k01⟩:=h9111;have h9111:SL imm06 (vS p7111 y6 c7111) y6:=⟨_,k0,k01⟩;obtain ⟨l,hy7,hM⟩:=zC hM;refine qQ 3 1 0 rfl rfl rfl h12 (.inl k0) k01 hy7 ?_;intro p8 c8 cs1 h13;refine rY (zL [0,1] (hs':=[hO Int (vS p8 l c8) cs1,hB b (cProg y p1 c1 p2 c2)]) rfl (by decide))<|yK 4 [] [(46,vI y7)]<|xV [vI y7] Int ?_;intro b2 hb2;have h14:RL imm06 [vI y7] ([y7]:List Int):=⟨[vI y7],_,rfl,rfl,rfl,rfl⟩;obtain ⟨all,hy8,hM⟩:=zC hM;refine qQ 3 1 1 rfl rfl rfl h13 (.inr ⟨0,rfl⟩) h14 hy8 ?_;intro p9 c9 cs2 h15;refine rY (zL [1,2] (hs':=[hO Int (vS p9 all c9) cs2,hB b (cProg y p1 c1 p2 c2)]) rfl (by decide))<|yA [] [(11,vS p9 all c9)]<|zF<|zG<|zB<|yA [] [(12,vI 0)]<|zF<|yC<|vG [(3,vP b 0),(4,vS p3 y1 c3),(5,vS p5 y4 c5),(6,vI at0),(7,vI i),(10,.bool y8),(11,vS p9 all c9),(12,vI 0)] ?_;obtain ⟨o02,ho02,hMl⟩:=zC hM;refine laws_FnAddressTrace_l2_ok y1 y8 all at0 0 o02 ho02 iR h4 h7 h15 h2 h3 (fun _ _ _ h=>hg _ _ _ h) (fun _ _ h=>ho _ _ h) ?_ ?_
   · intro imm09 at03 heq2 le9;subst o02;have h4:=h4.mono le9;have h7:=h7.mono le9;have h2:=h2.mono le9;have h3:=h3.mono le9;have hle:=hle.trans le9;exact yD<|zY<|zF<|zB<|yA [] [(7,vI (W (i + 1)))]<|xB<|vG [(3,vP b 0),(4,vS p3 y1 c3),(5,vS p5 y4 c5),(6,vI at03),(7,vI (W (i + 1)))]<|ih at03 (W (i + 1)) _ hMl hle h4 h7 h2 h3 hg ho hx hr
   intro r0 imm9 hs9 m9 heq9 le9 hrs9;subst heq9;exact yF<|yF<|zP<|zP<|hr _ _ _ _ (zD hMl).symm (hle.trans le9) hrs9
 intro hc2 hM;exact yZ<|zS<|zS<|wB (zL [] rfl (by decide))<|yS [(4,vS p3 y1 c3),(5,vS p5 y4 c5),(6,vI at0)]<|hx _ _ (zD hM).symm hle
def M.laws_FnAddressTrace (code:(List UInt8)):Option (Bool):=do
 if (decide ((code.length:Int) > 1048576)) then
  pure true
 else
  let y←M.spec_DrawAddressTrace code
  let y1←M.impl_AddressTrace y
  let y2←M.spec_AddressTrace y
  let y3←zAv y1 y2
  if (!y3) then
   pure false
  else
   let y4←qB y
   match←M.laws_FnAddressTrace_l1 y y1 y4 0 0 with
   | .ret r0=>pure r0
   | .done at01 =>
    let t2←(do
      if (at01 == (y1.length:Int)) then
       pure (decide ((y1.length:Int) ≥ (y4.length:Int)))
      else
       pure false
        : Option Bool)
    pure (id t2)
theorem laws_FnAddressTrace_ok:∀ (code:(List UInt8)) r,M.laws_FnAddressTrace code=some r→∀ {imm:Imm}{p c},(S4 imm p code c)→Ret Tryz.prog 12 [vS p code c] imm [] (laws_FnAddressTrace_post  r):=by
 intro code r hM imm p c h;unfold M.laws_FnAddressTrace at hM;refine yH (fn:=Tryz.f12) (c:=(bodyOf Tryz.f12)) Tryz.func12 rfl rfl ?_;rintro B - -;have hle:=iS imm;refine zG<|zB<|yA [] []<|zF<|zG<|zG<|zB<|yA [] [(15,.bool (decide ((code.length:Int) > 1048576)))]<|zF<|yO hM ?_ ?_
 · intro hc hM;refine zG<|zB<|yA [] [(2,.bool true)]<|zF<|yI<|zP ?_;obtain rfl:=zD hM;exact yP ⟨_,_,(.tmp rfl ResV.nil),zX,⟨_,rfl,rfl,rfl⟩⟩
 intro hc hM;refine yE<|zF<|zG<|zB<|yK 1 [] [(16,vS p code c)] ?_;obtain ⟨y,hy,hM⟩:=zC hM;refine yQ (spec_DrawAddressTrace_ok code _ hy h) ?_;rintro imm0 hs2 v2 k2 le - ⟨v0,rfl,rfl,⟨cs,rfl,h1⟩⟩ -;have hle:=hle.trans le;obtain ⟨v01,v02,rfl,h2,h3⟩:=gJ h1;obtain ⟨p1,c1,rfl⟩:=h2.form;obtain ⟨p2,c2,rfl⟩:=h3.form;refine uB zTwo ?_;intro b hb;refine xI 0 (cProg y p1 c1 p2 c2) [hB b (cProg y p1 c1 p2 c2)] rfl rfl rfl rfl<|yN rfl<|zF<|zG<|zB<|yK 1 [0] [(18,vA (cProg y p1 c1 p2 c2))] ?_;obtain ⟨y1,hy1,hM⟩:=zC hM;refine yQ (impl_AddressTrace_ok y _ hy1 h2 h3) ?_;rintro imm01 hs2 v2 k2 le1 - ⟨v03,rfl,rfl,h4⟩ -;have h2:=h2.mono le1;have h3:=h3.mono le1;have hle:=hle.trans le1;obtain ⟨p3,c3,rfl⟩:=h4.form;refine yA [] [(4,vS p3 y1 c3)]<|zF<|zG<|zG<|zB<|yK 2 [0] [(20,vS p3 y1 c3),(21,vA (cProg y p1 c1 p2 c2))] ?_;obtain ⟨y2,hy2,hM⟩:=zC hM;refine yQ (spec_AddressTrace_ok y _ hy2 h2 h3) ?_;rintro imm02 hs2 v2 k2 le2 - ⟨v04,rfl,rfl,h5⟩ -;have h4:=h4.mono le2;have h2:=h2.mono le2;have h3:=h3.mono le2;have hle:=hle.trans le2;obtain ⟨p4,c4,rfl⟩:=h5.form;obtain ⟨y3,hy3,hM⟩:=zC hM;refine yQ (zHm y1 y2 _ hy3 h4 h5) ?_;rintro imm03 hs2 v2 k2 le3 - ⟨v05,rfl,rfl,rfl⟩ -;have h4:=h4.mono le3;have h2:=h2.mono le3;have h3:=h3.mono le3;have hle:=hle.trans le3;refine yA [] [(24,.bool (!y3))]<|zF<|yO hM ?_ ?_
 · intro hc1 hM;refine zG<|zB<|yA [] [(2,.bool false)]<|zF<|yI<|zP ?_;obtain rfl:=zD hM;exact yP ⟨_,_,(.tmp rfl ResV.nil),zX,⟨_,rfl,rfl,rfl⟩⟩
 intro hc1 hM;refine yE<|zF<|zG<|zB<|yK 1 [0] [(25,vA (cProg y p1 c1 p2 c2))] ?_;obtain ⟨y4,hy4,hM⟩:=zC hM;refine yQ (zE6 y _ hy4 h2 h3) ?_;rintro imm04 hs2 v2 k2 le4 - ⟨v06,rfl,rfl,h7⟩ -;have h4:=h4.mono le4;have h2:=h2.mono le4;have h3:=h3.mono le4;have hle:=hle.trans le4;obtain ⟨p5,c5,rfl⟩:=h7.form;refine yA [] [(5,vS p5 y4 c5)]<|zF<|zG<|zB<|yA [] [(6,vI 0)]<|zF<|zG<|zG<|zB<|yA [] [(7,vI 0)]<|zF<|yC<|vG [(3,vP b 0),(4,vS p3 y1 c3),(5,vS p5 y4 c5),(6,vI 0),(7,vI 0)] ?_;obtain ⟨o03,ho03,hMl1⟩:=zC hM;refine laws_FnAddressTrace_l1_ok y y1 y4 0 0 o03 ho03 iR h4 h7 h2 h3 (fun _ _ _ h=>h) (fun _ _ h=>h) ?_ ?_
 · intro imm010 at01 heq3 le10;subst o03;have hle:=hle.trans le10;refine yD<|zF<|zG ?_;obtain ⟨o04,ho04,hMc2⟩:=zC hMl1;refine yT (fun imm' hs' m'=>∃ (t2:Bool),o04=t2∧imm010.le imm'∧hs'=[]∧m'=[(2,.bool t2)]) ?_ ?_
   · have hle:=iS imm010;refine zB<|yK 5 [] [(80,.bool (at01 == (y1.length:Int)))] ?_;cases hc7:(at01 == (y1.length:Int)) with
     | true =>
      have hM04:=zV hc7 ho04
      try rw [hc7]
      exact yA [] [(2,.bool (decide ((y1.length:Int) ≥ (y4.length:Int))))]<|yS [(2,.bool (decide ((y1.length:Int) ≥ (y4.length:Int))))]<|yB ⟨_,(zD hM04).symm,hle,rfl,rfl⟩
     | false =>
      have hM05:=zT hc7 ho04
      try rw [hc7]
      exact yA [] [(2,.bool false)]<|yS [(2,.bool false)]<|yB ⟨_,(zD hM05).symm,hle,rfl,rfl⟩
   rintro imm011 hs2 m2 ⟨t2,heq4,le11,rfl,rfl⟩;subst o04;refine zF<|yI ?_;obtain rfl:=zD hMc2;exact yP ⟨_,_,(.tmp rfl ResV.nil),zX,⟨_,rfl,rfl,rfl⟩⟩
 intro r0 imm9 hs9 m9 heq9 le9 hrs9;subst heq9;refine yF<|zP ?_;obtain rfl:=zD hMl1;exact yP hrs9
end Go.LN
namespace Go.LN
end Go.LN
namespace Go.LN
theorem specInsts (P:zW) (hv:validP P=true):oZ P=some (progI P):=by
  obtain ⟨_,v2,v3,_⟩:=zIo hv;have hl:=zIn P v2 v3 _ 0 [] (Nat.zero_add _) (by simp);rw [Int.natCast_zero,List.nil_append] at hl;simp only [Option.bind_eq_bind,Option.bind_some,oZ,hl,Option.pure_def,id];rfl
/-! Drawn orders. -/
end Go.LN
namespace Go.LN
def c0 (n:Int):zA:=⟨[0,0,0,0],n⟩
end Go.LN
namespace Go.LN
theorem valid_rv {P:zW} (h:BG P) (hv:validP P=true):RV P.Arrays:=by
  simp only [validP,progB,Bool.and_eq_true] at hv;exact RV.of h.1 hv.1.1.1
theorem pt_len {p:List Int} (h:ptB p=true):p.length ≤ 4:=by
  simp only [ptB,Bool.and_eq_true,decide_eq_true_eq] at h;exact h.1
/-! The cells of the arrays, one after the other. -/
end Go.LN
namespace Go.LN
theorem intsV (a b:List Int) (h:a.length ≤ 1048576):zAv a b=some (decide (a=b)):=by
  unfold zAv;by_cases hl:a.length=b.length
  · have hf:=mX (n:=a.length) (f:=nV a b) (P:=fun i=>a.getD i 0 == b.getD i 0) (fun i hi=>by
      rw [nV];have h1:((i:Int) < (a.length:Int)):=by omega
      have hib:i < b.length:=by omega
      have g1:a.getD i 0=a[i]:=by simp [hi]
      have g2:b.getD i 0=b[i]:=by simp [hib]
      simp only [h1,decide_true,if_true,xF hi,xF hib,Option.bind_eq_bind,Option.bind_some,Option.pure_def,g1,g2];by_cases e:a[i]=b[i]
      · simp only [e,bne_self_eq_false,Bool.false_eq_true,if_false,beq_self_eq_true,if_true];rw [tR (by omega)]
      · simp [e]) (by rw [nV]; simp)
    rw [hf];have hlb:((a.length:Int) != (b.length:Int))=false:=by simp [hl]
    simp only [hlb,Bool.false_eq_true,if_false,Option.bind_eq_bind,Option.bind_some];by_cases e:a=b
    · subst e; simp
    · have:((List.range a.length).all fun i=>a.getD i 0 == b.getD i 0)=false:=by
        cases hq:((List.range a.length).all fun i=>a.getD i 0 == b.getD i 0) with
        | false=>rfl
        | true =>
          refine absurd (List.ext_getElem hl fun i h1 h2=>?_) e;have:=List.all_eq_true.1 hq i (List.mem_range.2 h1);simpa [h1,h2] using this
      simp only [this,Bool.false_eq_true,if_false,e,decide_false,Option.pure_def]
  · have hlb:((a.length:Int) != (b.length:Int))=true:=by simp; omega
    have e:a ≠ b:=fun e=>hl (by rw [e]);simp [hlb,e]
end Go.LN
namespace Go.LN
theorem pointIn_l1 (q:List Int) (hq:q.length ≤ 4) (nest:List zI):∀ (ls:List zI) (n:Nat),(∀ x ∈ ls,OL x)→nest.drop n=ls→inP ls (q.take n) (q.drop n)→n ≤ nest.length→nest.length ≤ 4→nH nest q (n:Int)=some (.done ())
  | [],n,hv,hd,h,hn,h4=>by
    rw [nH]
    have:¬((n:Int) < (nest.length:Int)):=by have:=List.drop_eq_nil_iff.1 hd; omega
    simp only [this,decide_false,Bool.false_eq_true,if_false,Option.pure_def]
  | l::ls,n,hv,hd,h,hn,h4=>by
    obtain ⟨hlt,hx,hd'⟩:=zDB hd
    have hnq:n < q.length:=by
      rcases Nat.lt_or_ge n q.length with h' | h'
      · exact h'
      · rw [List.drop_eq_nil_iff.2 h'] at h; exact h.elim
    rw [List.drop_eq_getElem_cons hnq] at h
    obtain ⟨⟨k1,k2⟩,k3⟩:=h
    rw [nH]
    have hc:((n:Int) < (nest.length:Int)):=by omega
    have hsl:slc q 0 (n:Int)=some (q.take n):=by
      have:=zJ1 (s:=q) (f:=0) (i:=n) (Nat.zero_le _) (by omega)
      rw [Int.natCast_zero,List.drop_zero] at this
      exact this
    obtain ⟨o1,o2⟩:=hv l (List.mem_cons_self ..)
    have hsp:=implSpan l (q.take n) (by rw [List.length_take]; omega) o1 o2
    have e1:¬(q[n] < loF l (q.take n)):=by omega
    have e2:¬(q[n] ≥ hiF l (q.take n)):=by omega
    simp only [hc,decide_true,if_true,xF hlt,hx,hsl,hsp,xF hnq,e1,e2,decide_false,Bool.false_eq_true,if_false,Option.bind_eq_bind,Option.bind_some,Option.pure_def]
    rw [tR (by omega)]
    refine pointIn_l1 q hq nest ls (n + 1) (fun x hx=>hv x (List.mem_cons_of_mem _ hx)) hd' ?_ (by omega) h4
    rw [List.take_succ_eq_append_getElem hnq]
    exact k3
theorem implPointIn {nest:List zI} (hb:BN nest) (h:nestB nest=true) {q:List Int} (hp:ptB q=true) (hq:inP nest [] q):gA nest q=some true:=by
  have hl:=zIe hq;obtain ⟨n1,n2⟩:=zDa h;have hpl:=pointIn_l1 q (by omega) nest nest 0 n2 rfl hq (Nat.zero_le _) n1;rw [Int.natCast_zero] at hpl;unfold gA;simp only [implNest nest hb,h,implPoint q (by omega),hp,hl,hpl,Option.bind_eq_bind,Option.bind_some,Option.pure_def,Bool.not_true,Bool.false_eq_true,if_false,bne_self_eq_false]
theorem touched_l1 (P:zW) (x:zU) (ys:List zN) (hy:ys.length ≤ 1048576) (ha:∀ a ∈ ys,AV a) (hp:x.Point.length ≤ 4) (hR:RV P.Arrays):∀ (j i:Nat) (o:List Int),i + j=ys.length→o.length=i→rB P x ys o (i:Int)=some (o ++ (ys.drop i).map (cellA P.Arrays x.Point)):=by
  intro j
  induction j with
  | zero =>
    intro i o hi ho;rw [rB];have:¬((i:Int) < (ys.length:Int)):=by omega
    simp only [this,decide_false,Bool.false_eq_true,if_false,Option.pure_def,id];rw [List.drop_eq_nil_iff.2 (by omega),List.map_nil,List.append_nil]
  | succ j ih =>
    intro i o hi ho;rw [rB];have hlt:i < ys.length:=by omega
    have hc:((i:Int) < (ys.length:Int)):=by omega
    simp only [hc,decide_true,if_true,xF hlt,implCell P ys[i] x.Point (ha _ (List.getElem_mem hlt)) hp hR,Option.bind_eq_bind,Option.bind_some,oP (show (o.length + [cellF ys[i] x.Point P.Arrays 0].length) * 8 ≤ 140737488355328 by simp; omega)];rw [tR (by omega),ih (i + 1) _ (by omega) (by rw [List.length_append]; simp; omega),List.drop_eq_getElem_cons hlt,List.map_cons,List.append_assoc];rfl
theorem within_idx {i n:Nat} (h:i < n) (hn:n ≤ 1000000):xP (i:Int) 0 (W ((n:Int) - 1))=some true:=by
  rw [pL,sD (by omega) (by omega)];have h1:(0:Int) ≤ (i:Int):=by omega
  have h2:(i:Int) ≤ (n:Int) - 1:=by omega
  simp [h1,h2]
end Go.LN
namespace Go.LN
def STz:zR:=zR.mk (zN.mk ⟨[]⟩ []) EXz
def stI (P:zW) (z:zU):zR:=(gP P z.Part.toNat).Body.getD z.Stmt.toNat STz
def rdI (P:zW) (z:zU):List Int:=(readsF 5 (stI P z).Value).map (cellA P.Arrays z.Point)
def wrI (P:zW) (z:zU):Int:=cellA P.Arrays z.Point (stI P z).Write
structure InP (P:zW) (z:zU):Prop where
  idxP:idx P.Parts z.Part=some (gP P z.Part.toNat)
  idxS:idx (gP P z.Part.toNat).Body z.Stmt=some (stI P z)
  part:0 ≤ z.Part∧z.Part < (P.Parts.length:Int)
  stmt:0 ≤ z.Stmt∧z.Stmt < ((gP P z.Part.toNat).Body.length:Int)
  pin:gA (gP P z.Part.toNat).Nest z.Point=some true
  pt:z.Point.length ≤ 4
  bs:BS (stI P z)
  st:∃ d,stmtB (stI P z) d=true
  ok:stOk P.Arrays (stI P z) z.Point=true
theorem inP_of {P:zW} (hb:BG P) (h:validP P=true) {z:zU} (hz:z ∈ progI P):InP P z:=by
  obtain ⟨i,s,hi,hs,z1,z2,hn,hin,hpt,hst,hsb⟩:=zJP h hz;have hbp:=hb.2.2 _ (List.getElem_mem hi);have hg:gP P z.Part.toNat=P.Parts[i]:=by rw [z1,Int.toNat_natCast]; simp [gP,hi]
  have hS:stI P z=P.Parts[i].Body[s]:=by unfold stI; rw [hg,z2,Int.toNat_natCast]; simp [hs]
  refine ⟨?_,?_,by rw [z1]; omega,by rw [hg,z2]; omega,?_,pt_len hpt,?_,?_,?_⟩
  · rw [hg,z1,xF hi]
  · rw [hS,hg,z2,xF hs]
  · rw [hg]; exact implPointIn hbp.1 hn hpt hin
  · rw [hS]; exact hbp.2.2 _ (List.getElem_mem hs)
  · rw [hS]; exact ⟨_,hsb⟩
  · rw [hS]; exact hst
theorem rdI_len {P:zW}{z:zU} (h:InP P z):(rdI P z).length ≤ 32:=by
  obtain ⟨d,hd⟩:=h.st;have:=mK 5 (stI P z).Value (zEW hd).2.1;unfold rdI;rw [List.length_map]; omega
theorem touchedV {P:zW} (hb:BG P) (hv:validP P=true) {z:zU} (h:InP P z):nA P z=some (rdI P z,wrI P z):=by
  obtain ⟨d,hd⟩:=h.st;obtain ⟨s1,s2,s3⟩:=zEW hd;have hR:=valid_rv hb hv;have hrd:=implReads 5 (stI P z).Value s2 (by omega);have hrl:=mK 5 (stI P z).Value s2;have htl:=touched_l1 P z (readsF 5 (stI P z).Value) (by omega) s3 h.pt hR _ 0 [] (Nat.zero_add _) rfl;rw [Int.natCast_zero,List.drop_zero,List.nil_append] at htl;have hw:=implCell P (stI P z).Write z.Point s1 h.pt hR;unfold nA nX;simp only [h.idxP,h.idxS,hrd,htl,hw,Option.bind_eq_bind,Option.bind_some,Option.pure_def,id];rfl
theorem cellsV {P:zW} (hb:BG P) (hv:validP P=true) {z:zU} (h:InP P z):kT P z=some (rdI P z,wrI P z,true):=by
  have hpl:=hb.2.1;have hB:(gP P z.Part.toNat).Body.length ≤ 100000:=by
    have hp:=h.part;have hi:z.Part.toNat < P.Parts.length:=by omega
    have hg:gP P z.Part.toNat=P.Parts[z.Part.toNat]:=by simp [gP,hi]
    rw [hg]; exact (hb.2.2 _ (List.getElem_mem hi)).2.1
  have e1:xP z.Part 0 (W ((P.Parts.length:Int) - 1))=some true:=by
    have:=h.part;rw [show z.Part=(z.Part.toNat:Int) by omega];exact within_idx (by omega) (by omega)
  have e2:xP z.Stmt 0 (W (((gP P z.Part.toNat).Body.length:Int) - 1))=some true:=by
    have:=h.stmt;rw [show z.Stmt=(z.Stmt.toNat:Int) by omega];exact within_idx (by omega) (by omega)
  unfold kT pF;simp only [implValidP P hb,hv,e1,e2,h.idxP,h.pin,touchedV hb hv h,Option.bind_eq_bind,Option.bind_some,Option.pure_def,Bool.not_true,Bool.false_eq_true,if_false,if_true,id]
def trcP (P:zW):impl_traced:=⟨P,progI P,(progI P).map (rdI P),(progI P).map (wrI P)⟩
theorem trace_l1 {P:zW} (hb:BG P) (hv:validP P=true):∀ (j i:Nat) (rs:List (List Int)) (ws:List Int),i + j=(progI P).length→rs.length=i→ws.length=i→M.impl_trace_l1 P (progI P) (i:Int) rs ws=some (rs ++ ((progI P).drop i).map (rdI P),ws ++ ((progI P).drop i).map (wrI P)):=by
  have hlen:=(zIo hv).2.2.2;intro j
  induction j with
  | zero =>
    intro i rs ws hi hr hw;rw [M.impl_trace_l1];have:¬((i:Int) < ((progI P).length:Int)):=by omega
    simp only [this,decide_false,Bool.false_eq_true,if_false,Option.pure_def];rw [List.drop_eq_nil_iff.2 (by omega),List.map_nil,List.map_nil,List.append_nil,List.append_nil]
  | succ j ih =>
    intro i rs ws hi hr hw;rw [M.impl_trace_l1];have hlt:i < (progI P).length:=by omega
    have hc:((i:Int) < ((progI P).length:Int)):=by omega
    have hz:=inP_of hb hv (List.getElem_mem hlt);simp only [hc,decide_true,if_true,xF hlt,touchedV hb hv hz,Option.bind_eq_bind,Option.bind_some,oP (show (rs.length + [rdI P (progI P)[i]].length) * 24 ≤ 140737488355328 by simp; omega),oP (show (ws.length + [wrI P (progI P)[i]].length) * 8 ≤ 140737488355328 by simp; omega)];rw [tR (by omega),ih (i + 1) _ _ (by omega) (by rw [List.length_append]; simp; omega) (by rw [List.length_append]; simp; omega),List.drop_eq_getElem_cons hlt,List.map_cons,List.map_cons,List.append_assoc,List.append_assoc];rfl
theorem implTrace (P:zW) (hb:BG P):M.impl_trace P=some (if validP P then (some (trcP P),true) else (none,false)):=by
  unfold M.impl_trace;rw [implInstances P hb];cases hv:validP P with
  | false =>
    unfold validP at hv;cases hp:progB P with
    | false=>rfl
    | true =>
      rw [hp,Bool.true_and] at hv;simp [hv]
  | true =>
    have hv':=hv;unfold validP at hv';rw [Bool.and_eq_true] at hv';have hl:=trace_l1 hb hv _ 0 [] [] (Nat.zero_add _) rfl rfl;rw [Int.natCast_zero,List.drop_zero,List.nil_append,List.nil_append] at hl;simp only [hv'.1,hv'.2,if_true,Option.bind_eq_bind,Option.bind_some,Bool.not_true,Bool.false_eq_true,if_false,hl,Option.pure_def];rfl
def useI (P:zW) (z:zU):spec_l6Use:=⟨rdI P z,wrI P z⟩
theorem uses_l1 {P:zW} (hb:BG P) (hv:validP P=true):∀ (j i:Nat) (o:List spec_l6Use),i + j=(progI P).length→o.length=i→M.spec_l6Uses_l1 P (progI P) o (i:Int)=some (o ++ ((progI P).drop i).map (useI P)):=by
  have hlen:=(zIo hv).2.2.2;have hR:=valid_rv hb hv;intro j
  induction j with
  | zero =>
    intro i o hi ho;rw [M.spec_l6Uses_l1];have:¬((i:Int) < ((progI P).length:Int)):=by omega
    simp only [this,decide_false,Bool.false_eq_true,if_false,Option.pure_def,id];rw [List.drop_eq_nil_iff.2 (by omega),List.map_nil,List.append_nil]
  | succ j ih =>
    intro i o hi ho;rw [M.spec_l6Uses_l1];have hlt:i < (progI P).length:=by omega
    have hc:((i:Int) < ((progI P).length:Int)):=by omega
    have hz:=inP_of hb hv (List.getElem_mem hlt);obtain ⟨d,hd⟩:=hz.st;have hcl:=specCells P.Arrays (stI P (progI P)[i]) (progI P)[i].Point hd hz.bs hz.pt hR;rw [if_pos hz.ok] at hcl;simp only [hc,decide_true,if_true,xF hlt,hz.idxP,hz.idxS,hcl,Option.bind_eq_bind,Option.bind_some,oP (show (o.length + [spec_l6Use.mk ((readsF 5 (stI P (progI P)[i]).Value).map (cellA P.Arrays (progI P)[i].Point)) (cellA P.Arrays (progI P)[i].Point (stI P (progI P)[i]).Write)].length) * 32 ≤ 140737488355328 by simp; omega)];rw [tR (by omega),ih (i + 1) _ (by omega) (by rw [List.length_append]; simp; omega),List.drop_eq_getElem_cons hlt,List.map_cons,List.append_assoc];rfl
theorem specUses (P:zW) (hb:BG P) (hv:validP P=true):M.spec_l6Uses P=some ((progI P).map (useI P)):=by
  unfold M.spec_l6Uses;have hl:=uses_l1 hb hv _ 0 [] (Nat.zero_add _) rfl;rw [Int.natCast_zero,List.drop_zero,List.nil_append] at hl;simp only [specInsts P hv,hl,Option.bind_eq_bind,Option.bind_some,Option.pure_def,id]
end Go.LN
namespace Go.LN
def allI (P:zW) (z:zU):List Int:=rdI P z ++ [wrI P z]
theorem flat_le {P:zW}:∀ {l:List zU},(∀ z ∈ l,InP P z)→(l.flatMap (allI P)).length ≤ 33 * l.length∧l.length ≤ (l.flatMap (allI P)).length
  | [],_=>by simp
  | z::l,h=>by
    have h1:=rdI_len (h z (List.mem_cons_self ..))
    have h2:=flat_le (l:=l) fun y hy=>h y (List.mem_cons_of_mem _ hy)
    rw [List.flatMap_cons,List.length_append,List.length_cons]
    have:(allI P z).length=(rdI P z).length + 1:=by unfold allI; simp
    omega
theorem addr_l1 {P:zW} (hi:∀ z ∈ progI P,InP P z) (hlen:(progI P).length ≤ 120):∀ (j i:Nat) (o:List Int),i + j=(progI P).length→o.length ≤ 33 * i→M.impl_AddressTrace_l1 (trcP P) o (i:Int)=some (o ++ ((progI P).drop i).flatMap (allI P)):=by
  intro j
  induction j with
  | zero =>
    intro i o hij ho;rw [M.impl_AddressTrace_l1];have:¬((i:Int) < ((progI P).length:Int)):=by omega
    simp only [trcP,this,decide_false,Bool.false_eq_true,if_false,Option.pure_def,id];rw [List.drop_eq_nil_iff.2 (by omega),List.flatMap_nil,List.append_nil]
  | succ j ih =>
    intro i o hij ho;rw [M.impl_AddressTrace_l1];have hlt:i < (progI P).length:=by omega
    have hc:((i:Int) < ((progI P).length:Int)):=by omega
    have hr:=rdI_len (hi _ (List.getElem_mem hlt));have h1:idx ((progI P).map (rdI P)) (i:Int)=some (rdI P (progI P)[i]):=by rw [xF (by rw [List.length_map]; exact hlt)]; simp
    have h2:idx ((progI P).map (wrI P)) (i:Int)=some (wrI P (progI P)[i]):=by rw [xF (by rw [List.length_map]; exact hlt)]; simp
    have a1:app 8 o (rdI P (progI P)[i])=some (o ++ rdI P (progI P)[i]):=oP (by omega);have a2:app 8 (o ++ rdI P (progI P)[i]) [wrI P (progI P)[i]]=some (o ++ rdI P (progI P)[i] ++ [wrI P (progI P)[i]]):=oP (by rw [List.length_append]; simp; omega);have hnx:=ih (i + 1) (o ++ rdI P (progI P)[i] ++ [wrI P (progI P)[i]]) (by omega) (by rw [List.length_append,List.length_append]; simp; omega);rw [show trcP P=⟨P,progI P,(progI P).map (rdI P),(progI P).map (wrI P)⟩ from rfl] at hnx ⊢;simp only [hc,decide_true,if_true,h1,h2,a1,a2,Option.bind_eq_bind,Option.bind_some];rw [tR (by omega),hnx,List.drop_eq_getElem_cons hlt,List.flatMap_cons,allI,List.append_assoc,List.append_assoc,List.append_assoc]
def trF (P:zW):List Int:=((progI P).flatMap (allI P)).take 600
theorem implAddr (P:zW) (hb:BG P):M.impl_AddressTrace P=some (if validP P then trF P else []):=by
  unfold M.impl_AddressTrace;rw [implTrace P hb];cases hv:validP P with
  | false=>rfl
  | true =>
    have hlen:=(zIo hv).2.2.2;have hi:∀ z ∈ progI P,InP P z:=fun z hz=>inP_of hb hv hz;have hl:=addr_l1 hi hlen _ 0 [] (Nat.zero_add _) (by simp);rw [Int.natCast_zero,List.drop_zero,List.nil_append] at hl;have hf:=flat_le hi;have hs:slc ((progI P).flatMap (allI P)) 0 (if 600 < (((progI P).flatMap (allI P)).length:Int) then 600 else (((progI P).flatMap (allI P)).length:Int))=some (trF P):=by
      unfold trF;by_cases h6:600 < ((progI P).flatMap (allI P)).length
      · rw [if_pos (by omega)];exact zJ1 (s:=(progI P).flatMap (allI P)) (f:=0) (i:=600) (by omega) (by omega)
      · rw [if_neg (by omega),List.take_of_length_le (by omega)];have:=zJ1 (s:=(progI P).flatMap (allI P)) (f:=0) (i:=((progI P).flatMap (allI P)).length) (by omega) (Nat.le_refl _);rw [List.take_length] at this;exact this
    simp only [if_true,Option.bind_eq_bind,Option.bind_some,Bool.not_true,Bool.false_eq_true,if_false,hl,hs,M.slices_Clip_int_int,Option.pure_def,id]
theorem addrS_l1 {P:zW} (hi:∀ z ∈ progI P,InP P z) (hlen:(progI P).length ≤ 120):∀ (j i:Nat) (o:List Int),i + j=(progI P).length→o.length ≤ 33 * i→o.length ≤ 600→∃ x,M.spec_AddressTrace_l1 ((progI P).map (useI P)) o (i:Int)=some x∧(x=.done (o ++ ((progI P).drop i).flatMap (allI P))∧(o ++ ((progI P).drop i).flatMap (allI P)).length ≤ 600∨x=.ret ((o ++ ((progI P).drop i).flatMap (allI P)).take 600)):=by
  intro j
  induction j with
  | zero =>
    intro i o hij ho h6;rw [M.spec_AddressTrace_l1];have:¬((i:Int) < (((progI P).map (useI P)).length:Int)):=by rw [List.length_map]; omega
    refine ⟨_,by simp only [this,decide_false,Bool.false_eq_true,if_false,Option.pure_def]; rfl,.inl ?_⟩;rw [List.drop_eq_nil_iff.2 (by omega),List.flatMap_nil,List.append_nil];exact ⟨rfl,h6⟩
  | succ j ih =>
    intro i o hij ho h6;rw [M.spec_AddressTrace_l1];have hlt:i < (progI P).length:=by omega
    have hc:((i:Int) < (((progI P).map (useI P)).length:Int)):=by rw [List.length_map]; omega
    have hr:=rdI_len (hi _ (List.getElem_mem hlt));have h1:idx ((progI P).map (useI P)) (i:Int)=some (useI P (progI P)[i]):=by rw [xF (by rw [List.length_map]; exact hlt)]; simp
    have a1:app 8 o (rdI P (progI P)[i])=some (o ++ rdI P (progI P)[i]):=oP (by omega);have a2:app 8 (o ++ rdI P (progI P)[i]) [wrI P (progI P)[i]]=some (o ++ rdI P (progI P)[i] ++ [wrI P (progI P)[i]]):=oP (by rw [List.length_append]; simp; omega);have hlo:(o ++ rdI P (progI P)[i] ++ [wrI P (progI P)[i]]).length ≤ 33 * (i + 1):=by rw [List.length_append,List.length_append]; simp; omega
    have hd:o ++ ((progI P).drop i).flatMap (allI P)=(o ++ rdI P (progI P)[i] ++ [wrI P (progI P)[i]]) ++ ((progI P).drop (i + 1)).flatMap (allI P):=by
      rw [List.drop_eq_getElem_cons hlt,List.flatMap_cons,allI,List.append_assoc,List.append_assoc,List.append_assoc]
    rw [hd];simp only [hc,decide_true,if_true,h1,useI,a1,a2,Option.bind_eq_bind,Option.bind_some];by_cases hg:((o ++ rdI P (progI P)[i] ++ [wrI P (progI P)[i]]).length:Int) > 600
    · have hs:slc (o ++ rdI P (progI P)[i] ++ [wrI P (progI P)[i]]) 0 600=some ((o ++ rdI P (progI P)[i] ++ [wrI P (progI P)[i]]).take 600):=zJ1 (s:=o ++ rdI P (progI P)[i] ++ [wrI P (progI P)[i]]) (f:=0) (i:=600) (by omega) (by omega);refine ⟨_,by simp only [hg,decide_true,if_true,hs,Option.bind_some,jJ _ (show ((o ++ rdI P (progI P)[i] ++ [wrI P (progI P)[i]]).take 600).length * 8 ≤ 140737488355328 by rw [List.length_take]; omega),Option.pure_def],.inr (congrArg Out.ret (List.take_append_of_le_length (by omega)).symm)⟩
    · simp only [hg,decide_false,Bool.false_eq_true,if_false];rw [tR (by omega)];exact ih (i + 1) _ (by omega) hlo (by omega)
theorem specAddr (P:zW) (hb:BG P):M.spec_AddressTrace P=some (if validP P then trF P else []):=by
  unfold M.spec_AddressTrace;rw [specValidP P hb];cases hv:validP P with
  | false=>rfl
  | true =>
    have hlen:=(zIo hv).2.2.2;have hi:∀ z ∈ progI P,InP P z:=fun z hz=>inP_of hb hv hz;obtain ⟨x,hx,hc⟩:=addrS_l1 hi hlen _ 0 [] (Nat.zero_add _) (by simp) (by simp);rw [Int.natCast_zero] at hx;rw [List.drop_zero,List.nil_append] at hc;simp only [Bool.not_true,Bool.false_eq_true,if_false,Option.bind_eq_bind,Option.bind_some,specUses P hb hv,hx];rcases hc with ⟨rfl,h6⟩ | rfl
    · have e:((progI P).flatMap (allI P)).take 600=(progI P).flatMap (allI P):=List.take_of_length_le h6;simp [trF,e]
    · rfl
theorem trF_len {P:zW}:(trF P).length=min 600 ((progI P).flatMap (allI P)).length:=by unfold trF; rw [List.length_take]
theorem at_l2 (T all pre post:List Int) (hT:T=(pre ++ all ++ post).take 600) (ha:all.length ≤ 1048576):∀ (j k:Nat),k + j=all.length→M.laws_FnAddressTrace_l2 T true all ((min T.length (pre.length + k):Nat):Int) (k:Int)=some (.done ((min T.length (pre.length + all.length):Nat):Int)):=by
  have hTl:T.length ≤ 600:=by rw [hT,List.length_take]; omega
  intro j
  induction j with
  | zero =>
    intro k hk;rw [M.laws_FnAddressTrace_l2];have:¬((k:Int) < (all.length:Int)):=by omega
    simp only [this,decide_false,Bool.false_eq_true,if_false,Option.pure_def,Option.bind_eq_bind,Option.bind_some];rw [show k=all.length by omega]
  | succ j ih =>
    intro k hk;rw [M.laws_FnAddressTrace_l2];have hlt:k < all.length:=by omega
    have hc:((k:Int) < (all.length:Int)):=by omega
    by_cases hg:pre.length + k < T.length
    · have hm:min T.length (pre.length + k)=pre.length + k:=by omega
      have hc2:(((pre.length + k:Nat):Int) < (T.length:Int)):=by omega
      have hget:T[pre.length + k]=all[k]:=by
        have h6:pre.length + k < 600:=by omega
        have:T[pre.length + k]?=some all[k]:=by
          rw [hT,List.getElem?_take,if_pos h6,List.append_assoc,List.getElem?_append_right (by omega),show pre.length + k - pre.length=k by omega,List.getElem?_append_left hlt,List.getElem?_eq_getElem hlt]
        rw [List.getElem?_eq_getElem hg] at this;exact Option.some.inj this
      rw [hm];simp only [hc,hc2,decide_true,if_true,Option.pure_def,Option.bind_eq_bind,Option.bind_some,Bool.not_true,Bool.false_eq_true,if_false,xF hg,xF hlt,hget,bne_self_eq_false];rw [tR (by omega),tR (by omega)];have:=ih (k + 1) (by omega);rw [show min T.length (pre.length + (k + 1))=pre.length + k + 1 by omega] at this;exact this
    · have hm:min T.length (pre.length + k)=T.length:=by omega
      have hc2:¬((T.length:Int) < (T.length:Int)):=by omega
      rw [hm];simp only [hc,hc2,decide_true,decide_false,if_true,Option.pure_def,Option.bind_eq_bind,Option.bind_some,Bool.false_eq_true,if_false];rw [show min T.length (pre.length + all.length)=T.length by omega]
theorem at_l1 {P:zW} (hb:BG P) (hv:validP P=true):∀ (j i:Nat),i + j=(progI P).length→M.laws_FnAddressTrace_l1 P (trF P) (progI P) ((min (trF P).length (((progI P).take i).flatMap (allI P)).length:Nat):Int) (i:Int)=some (.done ((trF P).length:Int)):=by
  have hlen:=(zIo hv).2.2.2;have hi:∀ z ∈ progI P,InP P z:=fun z hz=>inP_of hb hv hz;have hTl:(trF P).length ≤ 600:=by rw [trF_len]; omega
  intro j
  induction j with
  | zero =>
    intro i hij;rw [M.laws_FnAddressTrace_l1];have:¬((i:Int) < ((progI P).length:Int)):=by omega
    simp only [this,decide_false,Bool.false_eq_true,if_false,Option.pure_def];rw [List.take_of_length_le (by omega),trF_len]
    congr 3
    omega
  | succ j ih =>
    intro i hij;rw [M.laws_FnAddressTrace_l1];have hlt:i < (progI P).length:=by omega
    have hc:((i:Int) < ((progI P).length:Int)):=by omega
    have hz:=hi _ (List.getElem_mem hlt);have hr:=rdI_len hz;have a1:app 8 ([]:List Int) (rdI P (progI P)[i])=some (rdI P (progI P)[i]):=jJ _ (by omega);have a2:app 8 (rdI P (progI P)[i]) [wrI P (progI P)[i]]=some (allI P (progI P)[i]):=oP (by simp; omega);have hal:(allI P (progI P)[i]).length ≤ 33:=by unfold allI; simp; omega
    have hT:trF P=(((progI P).take i).flatMap (allI P) ++ allI P (progI P)[i] ++ ((progI P).drop (i + 1)).flatMap (allI P)).take 600:=by
      unfold trF
      congr 1
      conv=>lhs; rw [← List.take_append_drop i (progI P),List.flatMap_append,List.drop_eq_getElem_cons hlt,List.flatMap_cons]
      rw [List.append_assoc]
    have h2:=at_l2 (trF P) (allI P (progI P)[i]) (((progI P).take i).flatMap (allI P)) (((progI P).drop (i + 1)).flatMap (allI P)) hT (by omega) _ 0 (Nat.zero_add _);rw [Int.natCast_zero,Nat.add_zero] at h2;have hnx:(((progI P).take i).flatMap (allI P)).length + (allI P (progI P)[i]).length=(((progI P).take (i + 1)).flatMap (allI P)).length:=by
      rw [List.take_succ_eq_append_getElem hlt,List.flatMap_append,List.flatMap_cons,List.flatMap_nil,List.append_nil,List.length_append]
    rw [hnx] at h2;simp only [hc,decide_true,if_true,xF hlt,cellsV hb hv hz,Option.bind_eq_bind,Option.bind_some,a1,a2,h2];rw [tR (by omega)];exact ih (i + 1) (by omega)
theorem law_AddressTrace (code:List UInt8):∃ r,M.laws_FnAddressTrace code=some r∧r=true:=by
  obtain ⟨y,hy,hb,hAR⟩:=drawProg code;unfold M.laws_FnAddressTrace;refine ⟨true,?_,rfl⟩;have hd:M.spec_DrawAddressTrace code=some y:=by unfold M.spec_DrawAddressTrace; rw [hy]; rfl
  by_cases h1:(code.length:Int) > 1048576
  · simp [h1]
  · simp only [h1,decide_false,Bool.false_eq_true,if_false,hd,implAddr y hb,specAddr y hb,implInstP y hb,Option.pure_def,Option.bind_eq_bind,Option.bind_some];cases hv:validP y with
    | false =>
      have hr:=intsV [] [] (by simp);have hl:M.laws_FnAddressTrace_l1 y [] [] 0 0=some (.done 0):=by rw [M.laws_FnAddressTrace_l1]; simp
      simp [hr,hl]
    | true =>
      have hlen:=(zIo hv).2.2.2;have hi:∀ z ∈ progI y,InP y z:=fun z hz=>inP_of hb hv hz;have hTl:=trF_len (P:=y);have hr:=intsV (trF y) (trF y) (by omega);have hf:=flat_le hi;have hl:=at_l1 hb hv _ 0 (Nat.zero_add _);rw [Int.natCast_zero,List.take_zero,List.flatMap_nil,List.length_nil,Nat.min_zero,Int.natCast_zero] at hl;have e:(((trF y).length:Int) ≥ ((progI y).length:Int)):=by omega
      simp only [if_true,hr,hl,Option.bind_some,decide_true,Bool.not_true,Bool.false_eq_true,if_false,beq_self_eq_true,e,id]
end Go.LN
