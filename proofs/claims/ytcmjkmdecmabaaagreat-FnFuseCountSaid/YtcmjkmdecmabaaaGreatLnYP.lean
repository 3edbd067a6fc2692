/- Helper of the proof (see the last text). -/
import Derived.Test.YtcmjkmdecmabaaaGreatLnP
import Derived.Shelf.SlSortCmp.NoneTotal
set_option linter.unusedVariables false
set_option linter.unusedSimpArgs false
namespace Go.LN
structure PK where
 r:Raw2
 d:zF
 o:Bool
instance:Rp PK where
 sz:=2
 pos:=by decide
 rep imm cs x:=cs=[x.r.a,x.r.b]/\(x.r.a.oneCell'=true/\x.r.b.oneCell'=true)/\SL imm x.r.a x.d.Nest/\(x.o=false->SL imm x.r.b x.d.Body)
 len h:=by obtain⟨rfl,_⟩:=h;rfl
 mono hl h:=⟨h.1,h.2.1,h.2.2.1.mono hl,λe=>(h.2.2.2 e).mono hl⟩
 one h:=by obtain⟨rfl,⟨h1,h2⟩,_⟩:=h;simp[h1,h2]
theorem zOi{imm:Imm}:∀{pks:List PK}{cs:List Value},(∀z∈pks,SL imm z.r.a z.d.Nest/\(z.o=false->SL imm z.r.b z.d.Body))->RL imm cs (pks.map PK.r)->RL imm cs pks
 | [],_,_,h=>h
 | z::pks,cs,hz,⟨c1,c2,h1,h2,⟨h3,h4⟩,h5⟩=>⟨c1,c2,h1,h2,⟨h3,h4,hz z (ck ..)⟩,zOi (λy hy=>hz y (cf _ hy)) h5⟩
theorem zLu{imm:Imm}:∀{pks:List PK}{cs:List Value},(∀z∈pks,z.o=true->SL imm z.r.b z.d.Body)->RL imm cs pks->RL imm cs (pks.map PK.d)
 | [],_,_,h=>h
 | z::pks,cs,hz,⟨c1,c2,h1,h2,⟨h3,h4,h6,h7⟩,h5⟩=>⟨c1,c2,h1,h2,wU ⟨_,_,h3,h6,by
  cases ho:z.o with
  | false=>exact h7 ho
  | true=>exact hz z (ck ..) ho⟩,zLu (λy hy=>hz y (cf _ hy)) h5⟩
theorem zI1{α β:Type}[Rp α][Rp β](hs:Rp.sz α=Rp.sz β){p:Option Addr}{c:Nat}{cs:List Value}{l:List α}{l':List β}(hl:l.length=l'.length):hO α (vS p l c) cs=hO β (vS p l' c) cs:=by
 show HA.osl (vS p l c) (Rp.sz α) cs=HA.osl (vS p l' c) (Rp.sz β) cs;rw[hs];simp only[vS,hl]
def PRl(imm:Imm):List Raw2->List zF->Prop
 | [],[]=>True
 | r::rs,x::xs=>(SL imm r.a x.Nest/\SL imm r.b x.Body)/\PRl imm rs xs
 | _,_=>False
theorem PRl.len{imm:Imm}:∀{rs:List Raw2}{xs:List zF},PRl imm rs xs->rs.length=xs.length
 | [],[],_=>rfl
 | r::rs,x::xs,h=>by rw[cj,cj,PRl.len h.2]
 | [],_::_,h=>h.elim
 | _::_,[],h=>h.elim
theorem PRl.mono{i j:Imm}(hl:i.le j):∀{rs:List Raw2}{xs:List zF},PRl i rs xs->PRl j rs xs
 | [],[],_=>trivial
 | r::rs,x::xs,h=>⟨⟨h.1.1.mono hl,h.1.2.mono hl⟩,PRl.mono hl h.2⟩
 | [],_::_,h=>h.elim
 | _::_,[],h=>h.elim
theorem PRl.append{imm:Imm}:∀{rs:List Raw2}{xs:List zF}{rs':List Raw2}{xs':List zF},PRl imm rs xs->PRl imm rs' xs'->PRl imm (rs++rs') (xs++xs')
 | [],[],_,_,_,h'=>h'
 | r::rs,x::xs,_,_,h,h'=>⟨h.1,PRl.append h.2 h'⟩
 | [],_::_,_,_,h,_=>h.elim
 | _::_,[],_,_,h,_=>h.elim
theorem PRl.take{imm:Imm}:∀(k:Nat) {rs:List Raw2}{xs:List zF},PRl imm rs xs->PRl imm (rs.take k) (xs.take k)
 | 0,_,_,_=>by simp[PRl]
 | k+1,[],[],_=>trivial
 | k+1,r::rs,x::xs,h=>⟨h.1,PRl.take k h.2⟩
 | _+1,[],_::_,h=>h.elim
 | _+1,_::_,[],h=>h.elim
theorem PRl.drop{imm:Imm}:∀(k:Nat) {rs:List Raw2}{xs:List zF},PRl imm rs xs->PRl imm (rs.drop k) (xs.drop k)
 | 0,_,_,h=>h
 | k+1,[],[],_=>trivial
 | k+1,r::rs,x::xs,h=>PRl.drop k h.2
 | _+1,[],_::_,h=>h.elim
 | _+1,_::_,[],h=>h.elim
theorem PRl.of{imm:Imm}:∀{xs:List zF}{cs:List Value},RL imm cs xs->∃rs,RL imm cs rs/\PRl imm rs xs
 | [],_,h=>⟨[],h,trivial⟩
 | x::xs,cs,⟨c1,c2,h1,h2,h3,h5⟩=>by
  obtain⟨rs,h6,h7⟩:=PRl.of h5
  obtain⟨v0,v1,rfl,k1,k2⟩:=zDm h3
  obtain⟨p1,q1,rfl⟩:=k1.form
  obtain⟨p2,q2,rfl⟩:=k2.form
  exact⟨⟨_,_⟩::rs,⟨_,c2,h1,h2,⟨rfl,rfl,rfl⟩,h6⟩,⟨k1,k2⟩,h7⟩
theorem PRl.rl{imm:Imm}:∀{rs:List Raw2}{xs:List zF}{cs:List Value},PRl imm rs xs->RL imm cs rs->RL imm cs xs
 | [],[],_,_,h=>h
 | r::rs,x::xs,cs,h,⟨c1,c2,h1,h2,⟨h3,h4⟩,h5⟩=>⟨c1,c2,h1,h2,wU ⟨_,_,h3,h.1.1,h.1.2⟩,PRl.rl h.2 h5⟩
 | [],_::_,_,h,_=>h.elim
 | _::_,[],_,h,_=>h.elim
theorem zNH{xs:List PK}{k:Nat}{x z:PK}{α:Type}(f:PK->α)(h:xs[k]?=some x)(hr:f z=f x):(xs.set k z).map f=xs.map f:=by
 rw[List.map_set,hr];have:(xs.map f)[k]?=some (f x):=by rw[cY,h];rfl
 obtain⟨hk',e⟩:=bZ.1 this;rw[<- e,List.set_getElem_self]
theorem zOG{imm:Imm}{xs:List NB}{k:Nat}{z:NB}{cs:List Value}(hz:xs[k]?=some z)(hzo:z.ok imm)(hf:∀j y,j ≠ k->xs[j]?=some y->y.fz imm)(hr:RL imm cs (xs.map NB.raw)):
 ∃pks:List PK,RL imm cs pks/\pks.map PK.d=xs.map NB.a/\pks[k]?=some ⟨z.raw,z.a,true⟩/\∀j y,pks[j]?=some y->j ≠ k->y.o=false:=by
 have hk:=(bZ.1 hz).1
 have h0:(xs.map λy=>(⟨y.raw,y.a,false⟩:PK))[k]?=some ⟨z.raw,z.a,false⟩:=by rw[cY,hz];rfl
 refine⟨(xs.map λy=>(⟨y.raw,y.a,false⟩:PK)).set k ⟨z.raw,z.a,true⟩,zOi (λy hy=>?_) ?_,?_,?_,λj y hj hne=>?_⟩
 ·obtain⟨j,hj⟩:=List.mem_iff_getElem?.1 hy
  rw[List.getElem?_set] at hj
  split at hj
  ·split at hj
   ·injection hj with hj;subst hj
    exact⟨hzo.1,λe=>by cases e⟩
   ·cases hj
  ·rename_i hne
   rw[cY] at hj
   cases hq:xs[j]? with
   | none=>rw[hq] at hj;cases hj
   | some q=>
    rw[hq] at hj
    injection hj with hj;subst hj
    have:=hf j q (λe=>hne e.symm) hq
    exact⟨this.1,λ_=>this.2⟩
 ·rw[zNH PK.r (z:=⟨z.raw,z.a,true⟩) h0 rfl,List.map_map];exact hr
 ·rw[zNH PK.d (z:=⟨z.raw,z.a,true⟩) h0 rfl,List.map_map];rfl
 ·exact ew (by rw[cS];exact hk)
 ·rw[List.getElem?_set,if_neg (λe=>hne e.symm),cY] at hj
  cases hq:xs[j]? with
  | none=>rw[hq] at hj;cases hj
  | some q=>rw[hq] at hj;injection hj with hj;subst hj;rfl
theorem zNI{xs:List NB}{k:Nat}{z:NB}(h:xs[k]?=some z)(O R b1:HA):(NBs (xs.eraseIdx k)++[R,z.ha,O,b1]).Perm ([O,R,b1]++NBs xs):=by
 have h1:[R,z.ha,O,b1].Perm [O,R,b1,z.ha]:=(List.perm_middle (l₁:=[R,z.ha]) (a:=O) (l₂:=[b1])).trans (List.Perm.cons _ (List.Perm.cons _ (List.Perm.swap ..)));exact cU.trans ((h1.append_right (NBs (xs.eraseIdx k))).trans (List.Perm.append_left [O,R,b1] (zMW h).symm))
theorem zMY{xs:List NB}{j k:Nat}{y:NB}(h:xs[j]?=some y)(hne:j ≠ k):y∈xs.eraseIdx k:=by
 obtain⟨hl,rfl⟩:=bZ.1 h;exact List.mem_eraseIdx_iff_getElem.2 ⟨j,hl,hne,rfl⟩
theorem zLv{imm:Imm}{pks:List PK}{part:Int}{vN vB:Value}{x:zF}{cs:List Value}{parts:List zF}(hx:idx pks part=some ⟨⟨vN,vB⟩,x,true⟩)(hof:∀j z,pks[j]?=some z->j ≠ part.toNat->z.o=false)(hB:SL imm vB x.Body)(hr:RL imm cs pks)(hD:pks.map PK.d=parts):RL imm cs parts:=by
 rw[<- hD];refine zLu (λz hz ho=>?_) hr;obtain⟨j,hj⟩:=List.mem_iff_getElem?.1 hz;by_cases e:j=part.toNat
 ·rw[e,(uQ hx).2.2] at hj;injection hj with hj;rw[<- hj];exact hB
 ·rw[hof j z hj e] at ho;cases ho
theorem zPK{pks:List PK}{part:Int}{z0 z:PK}{parts:List zF}(hx:idx pks part=some z0)(hof:∀j z,pks[j]?=some z->j ≠ part.toNat->z.o=false)(hD:pks.map PK.d=parts):
 idx (pks.set part.toNat z) part=some z/\(∀j y,(pks.set part.toNat z)[j]?=some y->j ≠ part.toNat->y.o=false)/\(pks.set part.toNat z).map PK.d=parts.set part.toNat z.d:=by
 obtain⟨h0,h1,h2⟩:=uQ hx
 have hk:=(bZ.1 h2).1
 refine⟨?_,λj y hj hne=>?_,by rw[List.map_set,hD]⟩
 ·unfold idx;rw[if_pos h0,ew hk]
 ·rw[List.getElem?_set,if_neg (λe=>hne e.symm)] at hj
  exact hof j y hj hne
theorem zPL{pks:List PK}{i:Int}{x:zF}{parts:List zF}(hD:pks.map PK.d=parts)(h:idx parts i=some x):∃z,idx pks i=some z/\z.d=x:=by
 rw[<- hD] at h;obtain⟨h0,h1,h2⟩:=uQ h;rw[cY,Option.map_eq_some_iff] at h2;obtain⟨z,h3,rfl⟩:=h2;exact⟨z,by unfold idx;rw[if_pos h0,h3],rfl⟩
end Go.LN
namespace Go.LN
open Go.Sort Go.Proofs
def cmpL:List Int->List Int->Int
 | [],[]=>0
 | [],_::_=>-1
 | _::_,[]=>1
 | a::s,b::t=>if a<b then -1 else if b<a then 1 else cmpL s t
def ltL(a b:List Int):Bool:=decide (cmpL a b<0)
end Go.LN
namespace Go.LN
def Win(p:Option Addr)(sz:Nat)(k:Int)(wa:Option Addr)(n:Nat):Prop:=n=0∨p=none∨∃b off,p=some ⟨b,off,none⟩/\0<=k/\wa=some ⟨b,off+k.toNat*sz,none⟩
theorem Win.mono{i j:Imm}{p:Option Addr}{sz:Nat}{k:Int}{wa:Option Addr}{n:Nat}(h:Win p sz k wa n)(_:i.le j):Win p sz k wa n:=h
instance {i j:Imm}{p:Option Addr}{sz:Nat}{k:Int}{wa:Option Addr}{n:Nat}:Mo (Win p sz k wa n) i j (Win p sz k wa n):=⟨λ_ x=>x⟩
section
variable {P:Program}{n:Nat}{B:Base}{af:List Oper}{Q:Exit->Act->World->Prop}{pc:Nat}{imm:Imm}{hs:List HA}{m:FM}{d:Nat}
 {ty:TypeId}{pos:String}{after:Array Edge}{g:Option (Nat×Bool)}
end
end Go.LN
