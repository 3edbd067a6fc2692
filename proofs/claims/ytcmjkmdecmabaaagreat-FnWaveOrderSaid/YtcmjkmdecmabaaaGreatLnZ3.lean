/- Helper of the proof (see the last text). -/
import Derived.Test.YtcmjkmdecmabaaaGreatLnP
set_option linter.unusedVariables false
set_option linter.unusedSimpArgs false
namespace Go.LN
def Win (p:Option Addr) (sz:Nat) (k:Int) (wa:Option Addr) (n:Nat):Prop:=n=0∨p=none∨∃ b off,p=some ⟨b,off,none⟩/\0<=k/\wa=some ⟨b,off+k.toNat*sz,none⟩
theorem Win.mono {i j:Imm}{p:Option Addr}{sz:Nat}{k:Int}{wa:Option Addr}{n:Nat} (h:Win p sz k wa n) (_:i.le j):Win p sz k wa n:=h
instance {i j:Imm}{p:Option Addr}{sz:Nat}{k:Int}{wa:Option Addr}{n:Nat}:Mo (Win p sz k wa n) i j (Win p sz k wa n):=⟨fun _ x=>x⟩
section
variable {P:Program}{n:Nat}{B:Base}{ae:List Oper}{Q:Exit->Act->World->Prop}{pc:Nat}{imm:Imm}{hs:List HA}{m:FM}{d:Nat}
  {ty:TypeId}{pos:String}{after:Array Edge}{g:Option (Nat×Bool)}
theorem zQR {α:Type} [Rp α] {t:TypeId}{x lo:Operand}{p:Option Addr}{c:Nat}{i:Int}{cs:List Value}{l y:List α} (j:Nat)
    (ho:ae[pc]?=some ⟨some d,.slice t x (some lo) none none,ty,pos,after,g⟩) (hj:hs[j]?=some (.osl (vS p l c) (Rp.sz α) cs)) (hr:RepL (Rp.rep imm) (Rp.sz α) cs l) (hy:slc l i l.length=some y)
    (next:∀ wa wc,Win p (Rp.sz α) i wa y.length->R P n B ae Q (pc+1) imm hs ((d,vS wa y wc)::m)) (hx:val m x=some (vS p l c):=by kernel_rfl) (hlo:bnd m 0 (some lo)=some i:=by kernel_rfl)
    (hg:guardB ae m g=some true:=by kernel_rfl) (hn:Nat.blt d n=true:=by kernel_rfl) (ht:elemT P t=some (Rp.sz α):=by kernel_rfl):R P n B ae Q pc imm hs m:=by
  refine mS ho hg rfl hn fun a w f gd=>?_
  unfold slc at hy
  split at hy
  · rename_i hb
    cases hy
    have hz:=Rp.pos (α:=α)
    have aV:=hr.length
    have hyl:((l.take ((l.length:Int)).toNat).drop i.toNat).length=l.length - i.toNat:=by simp
    obtain ⟨e,hu,hse⟩:∃ e,P.underlying t=some (.slice e)/\sizeT P e=some (Rp.sz α):=by
      unfold elemT at ht
      split at ht
      · rename_i e hu; exact ⟨e,hu,ht⟩
      · cases ht
    have hlc:l.length<=c/\(p=none∨∃ b off,p=some ⟨b,off,none⟩):=by
      rcases gd.own _ (tQ hj) with ⟨e1,_⟩ | ⟨b,off,len,cap,all,ty',e1,_,_,_,_,hlc,_⟩
      · injection e1 with k1 k2 k3; exact ⟨by omega,.inl k1⟩
      · injection e1 with k1 k2 k3; exact ⟨by omega,.inr ⟨b,off,k1⟩⟩
    have hbd:=dI (P:=P) (w:=w) f hlo (show bnd m l.length none=some (l.length:Int) from rfl) hb.1 hb.2.1 hb.2.2 hlc.1
    have hk:((l.length:Int)).toNat=l.length:=gh _
    rw [hk,Option.map_none] at hbd
    have hne:=next (if c=i.toNat then p else p.map (·.add (i.toNat*Rp.sz α))) (c - i.toNat) (by
      rw [hyl]
      by_cases h0:l.length - i.toNat=0
      · exact .inl h0
      · rw [if_neg (by omega)]
        rcases hlc.2 with hp | ⟨b,off,hp⟩
        · exact .inr (.inl hp)
        · refine .inr (.inr ⟨b,off,hp,hb.1,?_⟩)
          rw [hp,Option.map_some,kQ])
    unfold vS at hne
    rw [hyl] at hne
    refine ⟨_,w,imm,hs,?_,gd,hne⟩
    simp only [execOp,f.eval hx,Option.map_none,Instr.sliceAt,Instr.slice,Sem.run_bind,yY hu,Result.andThen_ok,hbd,qX hse,Sem.run_pure]
  · cases hy
theorem zN2 {α:Type} [Rp α] {t:TypeId}{x xi:Operand}{p wa:Option Addr}{c wc:Nat}{i k0:Int}{cs:List Value}{l lw:List α}{y y0:α} (j:Nat)
    (ho:ae[pc]?=some ⟨some d,.indexAddr t x xi,ty,pos,after,g⟩) (hi:val m xi=some (.int .i64 i)) (hw:Win p (Rp.sz α) k0 wa lw.length) (hj:hs[j]?=some (.osl (vS p l c) (Rp.sz α) cs)) (hr:RepL (Rp.rep imm) (Rp.sz α) cs l)
    (h0:idx lw i=some y0) (hy:idx l (k0+i)=some y)
    (next:∀ ad cc,AtO (vS p l c) (Rp.sz α) (k0+i).toNat ad->(cs.drop ((k0+i).toNat*Rp.sz α)).take (Rp.sz α)=cc->Rp.rep imm cc y->R P n B ae Q (pc+1) imm hs ((d,.pointer (some ad))::m))
    (hx:val m x=some (vS wa lw wc):=by kernel_rfl) (hg:guardB ae m g=some true:=by kernel_rfl) (hn:Nat.blt d n=true:=by kernel_rfl) (ht:elemT P t=some (Rp.sz α):=by kernel_rfl):R P n B ae Q pc imm hs m:=by
  obtain ⟨a0,a1,a2⟩:=vU h0
  obtain ⟨b0,b1,b2⟩:=vU hy
  refine mS ho hg rfl hn fun a w f gd=>?_
  have aV:=hr.length
  obtain ⟨ap,hbd⟩:=hr.at b2
  rcases gd.readO (tQ hj) with ⟨e,e2⟩ | ⟨b,off,len,cap,cc,ty',fr,e,hw',bN,cd,bV⟩
  · have:=Rp.pos (α:=α)
    rw [e2] at hbd
    simp at hbd; omega
  · injection e with k1 k2 k3
    have hll:len=l.length:=oX (Rp.pos (α:=α)) (by omega)
    rcases hw with h | h | ⟨b',off',hp,hk,hwa⟩
    · omega
    · rw [h] at k1; cases k1
    · rw [hp] at k1
      injection k1 with k1
      injection k1 with k4 k5
      subst k4; subst k5
      have hadd:off'+k0.toNat*Rp.sz α+i.toNat*Rp.sz α=off'+(k0+i).toNat*Rp.sz α:=by
        rw [show (k0+i).toNat=k0.toNat+i.toNat by omega,fg,fj]
      subst hwa
      refine ⟨.pointer (some ⟨b',off'+k0.toNat*Rp.sz α+i.toNat*Rp.sz α,none⟩),w,imm,hs,by simp only [execOp,f.eval hx,f.eval hi,Sem.run_bind,zBM ht a0 a1,Result.andThen_ok,Sem.run_pure],gd,?_⟩
      rw [hadd]
      exact next _ _ ⟨b',off',l.length,c,by rw [hp],rfl,by omega⟩ rfl ap
end
end Go.LN
