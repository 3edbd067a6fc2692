/- Helper of the proof (see the last text). -/
import Derived.Test.YtkipogionmkncaaGreatDoorLnA
import Derived.Deep.Quiet
import Derived.Laws.BytesString
import Derived.MapKept
set_option linter.unusedVariables false
set_option linter.unusedSimpArgs false
namespace Go.LN
def Cq(w w':World):Prop:=∃k,w'=w.drewN k
def Rq(P:Program)(n:Nat)(B:Base)(af:List Oper)(Q:Exit->Act->World->Prop)(pc:Nat)(imm:Imm)(hs:List HA)(m:FM):Prop:=
 ∀a w,Fr n a m->Good B imm hs w->wpQuiet P af.toArray (Cq w) (λa'=>∀w',Cq w w'->Q .normal a' w') (af.drop pc) a
section
variable {P:Program}{n:Nat}{B:Base}{Q:Exit->Act->World->Prop}{imm:Imm}{hs:List HA}{m:FM}{af:List Oper}{pc d:Nat}
theorem Good.drewN{w:World}(h:Good B imm hs w)(k:Nat):Good B imm hs (w.drewN k):=h.draw _
theorem zA9{id:Nat}{af:List Oper}(hm:P.follows .mixedOrders=true)(hB:Region.lexB .any af.toArray=true)(h:Rq P n B af Q 0 imm hs m):J P n B (.region id af.toArray true) Q imm hs m:=λa w f g=>
 wp_region_quiet_lit hm hB (by
  have:=h a w f g
  rw[yn] at this
  exact this)
theorem zQZ{af:List Oper}{pc:Nat}(h0:af.drop pc=[])(h:T n B Q .normal imm hs m):Rq P n B af Q pc imm hs m:=λa w f g=>by
 rw[h0];refine wpQuiet_nil ?_;rintro w' ⟨k,rfl⟩;exact h a _ f (g.drewN k)
theorem zBf{α:Type}{af:List α}{pc:Nat}{o:α}(ho:af[pc]?=some o):af.drop pc=o::af.drop (pc+1):=by
 have aG:pc<af.length:=by
  rcases z6 pc af.length with h|h
  ·exact h
  ·rw[Aj h] at ho;cases ho
 rw[yp aG];rw[ya aG] at ho;cases ho;rfl
def Reads(P:Program)(n:Nat)(B:Base)(imm:Imm)(hs:List HA)(m:FM)(o:Op)(v:Value):Prop:=
 ∀(oo:Oper) a w,oo.op=o->Fr n a m->Good B imm hs w->(execOp a.eval oo).run P w=.ok (.value v) w
theorem zHc{o:Oper}{v:Value}(ho:af[pc]?=some o)(hg:guardB af m o.guard=some true)(hd:o.dst=some d)(hn:Nat.blt d n=true)(h:Reads P n B imm hs m o.op v)(next:R P n B af Q (pc+1) imm hs ((d,v)::m)):
 R P n B af Q pc imm hs m:=fC ho hg hd hn λa w f g=>⟨v,w,imm,hs,h o a w rfl f g,g,next⟩
theorem zCN{o:Oper}{v:Value}(ho:af[pc]?=some o)(hg:guardB af m o.guard=some true)(hd:o.dst=some d)(hn:Nat.blt d n=true)(h:Reads P n B imm hs m o.op v)(next:Rq P n B af Q (pc+1) imm hs ((d,v)::m)):
 Rq P n B af Q pc imm hs m:=λa w f g=>by
 rw[zBf ho]
 refine wpQuiet_step λK hK=>?_
 rw[if_pos (f.wanted hg)]
 refine⟨v,?_,hK _ ?_⟩
 ·rintro w' ⟨k,rfl⟩
  unfold Oper.quietAt
  rw[h o a _ rfl f (g.drewN k)]
  exact⟨rfl,rfl⟩
 ·rw[hd]
  exact next _ w (f.put d v (by simpa using hn)) g
theorem zLy{o:Oper}(ho:af[pc]?=some o)(hg:guardB af m o.guard=some false)(hd:o.dst=some d)(hn:Nat.blt d n=true)(next:Rq P n B af Q (pc+1) imm hs ((d,undef)::m)):Rq P n B af Q pc imm hs m:=λa w f g=>by
 rw[zBf ho];refine wpQuiet_step λK hK=>?_;rw[if_neg (by rw[f.wanted hg];simp)];refine hK _ ?_;rw[hd];exact next _ w (f.put d undef (by simpa using hn)) g
theorem zP2{o:Oper}{m':FM}(ho:af[pc]?=some o)(h:run1 P n af m o=some m')(hR:Rq P n B af Q (pc+1) imm hs m'):Rq P n B af Q pc imm hs m:=by
 unfold run1 at h;split at h
 ·cases h
 ·rename_i d hd;cases hn:Nat.blt d n with
  | false=>rw[hn] at h;cases h
  | true=>
   rw[hn] at h;simp only[cond_true] at h;split at h
   ·rename_i hg;split at h
    ·rename_i v hv;cases h
     exact zCN ho hg hd hn (λoo a w he f _=>zEF f (by rw[he];exact hv)) hR
    ·cases h
   ·rename_i hg;cases h
    exact zLy ho hg hd hn hR
   ·cases h
theorem zNu{α:Type}[Rp α]{t:TypeId}{x xi:Operand}{v:Value}{k:IntKind}{i:Int}{l:List α}{y:α}
 (hx:val m x=some v) (hi:val m xi=some (.int k i)) (ht:elemT P t=some (Rp.sz α)) (ah:SL imm v l) (hy:idx l i=some y) :
 ∃ad aR,At imm ad aR/\Rp.rep imm aR y/\Reads P n B imm hs m (.indexAddr t x xi) (.pointer (some ad)):=by
 obtain⟨h0,h1,h2⟩:=rG hy
 obtain⟨aR,kg,hr⟩:=ah
 have aP:=hr.length
 obtain⟨al,u3⟩:=hr.at h2
 rcases kg with⟨rfl,rfl⟩|⟨b,off,len,bi,c,rfl,hc,cM,_,qh,gy⟩
 ·have:=Rp.pos (α:=α)
  simp at u3;omega
 ·have uc:len=l.length:=gR (Rp.pos (α:=α)) (by omega)
  subst uc
  have av:At imm ⟨b,off+i.toNat*Rp.sz α,none⟩ ((aR.drop (i.toNat*Rp.sz α)).take (Rp.sz α)):=by
   refine⟨b,_,c,rfl,hc,?_,?_⟩
   ·simp only[yl,yt];omega
   ·rw[<- zr]
    conv=>rhs;rw[<- gy,AK,AG]
    congr 1
    simp only[yl,yt]
    omega
  exact⟨_,_,av,al,λoo a w he f _=>by simp only[execOp,he,f.eval hx,f.eval hi,Sem.run_bind,zDZ ht h0 h1,Result.andThen_ok,Sem.run_pure]⟩
theorem zLz{t:TypeId}{x:Operand}{ad:Addr}{cs et:List Value}{v:Value}(o:Nat)(av:At imm ad cs)(hx:val m x=some (.pointer (some (ad.add o))))(gp:Nat.ble o cs.length=true)
 (hc:(cs.drop o).take et.length=et) (hv:loadV P t et=some v):Reads P n B imm hs m (.load t x) v:=λoo a w he f gd=>by
 obtain⟨b,off,c,e,hb,cM,gy⟩:=av.sub o gp hc
 obtain⟨nk,fr,hw⟩:=gd.inv b c hb
 simp only[execOp,he,f.eval hx,Instr.loadAt,Instr.sureAddr,Sem.run_bind,Sem.run_pure,Result.andThen_ok,e,zAN hw cM gy hv]
theorem zKm{t:TypeId}{x:Operand}{b o:Nat}{c:Array Value}{cs:List Value}{v:Value}(j:Nat)(hj:hs[j]?=some (.blk b c))(hx:val m x=some (.pointer (some ⟨b,o,none⟩)))
 (gp:Nat.ble (o+cs.length) c.size=true) (hc:(c.toList.drop o).take cs.length=cs) (hv:loadV P t cs=some v):Reads P n B imm hs m (.load t x) v:=λoo a w he f gd=>by
 obtain⟨_,_,nk,hw⟩:=gd.own _ (mR hj)
 simp only[execOp,he,f.eval hx,Instr.loadAt,Instr.sureAddr,Sem.run_bind,Sem.run_pure,Result.andThen_ok,zAN hw (za gp) hc hv]
def cat(a b:Str):Option Str:=if a.l.length+b.l.length<=9223372036854775807 then some ⟨a.l++b.l⟩ else none
def sidx(a:Str)(i:Int):Option UInt8:=idx a.l i
def sslc(a:Str)(i k:Int):Option Str:=(slc a.l i k).map Str.mk
theorem zKB(a b:List UInt8):(⟨⟨a⟩⟩:ByteArray)++⟨⟨b⟩⟩=⟨⟨a++b⟩⟩:=by
 apply ByteArray.ext;simp[ByteArray.data_append]
theorem zJF(a:List UInt8)(i k:Nat):(⟨⟨a⟩⟩:ByteArray).extract i k=⟨⟨(a.take k).drop i⟩⟩:=by
 apply ByteArray.ext;simp only[ByteArray.data_extract];apply Array.ext';simp[Al,AK]
theorem zQ0{t t2:TypeId}{x y:Operand}{a b c:Str}(hx:val m x=some (.string ⟨⟨a.l⟩⟩))(hy:val m y=some (.string ⟨⟨b.l⟩⟩))(h:cat a b=some c):Reads P n B imm hs m (.binOp .add t x y t2) (.string ⟨⟨c.l⟩⟩):=λoo ac w he f gd=>by
 unfold cat at h;split at h
 ·rename_i cM;cases h
  have u2:¬((((⟨⟨a.l⟩⟩:ByteArray).size+(⟨⟨b.l⟩⟩:ByteArray).size:Nat):Int)>IntKind.i64.max):=by
   have hm:IntKind.i64.max=9223372036854775807:=by decide
   have e1:(⟨⟨a.l⟩⟩:ByteArray).size=a.l.length:=rfl;have e2:(⟨⟨b.l⟩⟩:ByteArray).size=b.l.length:=rfl;rw[hm,e1,e2];omega
  simp only[execOp,he,f.eval hx,f.eval hy,Sem.run_bind,eqGuard,yx,xu,Sem.run_pure,Result.andThen_ok,binOp,Op.stringOp,u2,xt];rw[zKB]
 ·cases h
theorem zNR{t:TypeId}{x y:Operand}{a:Str}{k:IntKind}{i:Int}{c:UInt8}(hx:val m x=some (.string ⟨⟨a.l⟩⟩))(hy:val m y=some (.int k i))(hu:P.underlying t=some .string)(h:sidx a i=some c):Reads P n B imm hs m (.index t x y) (.int .u8 (c.toNat:Int)):=λoo ac w he f gd=>by
 obtain⟨h0,h1,h2⟩:=rG h;have hg:(⟨⟨a.l⟩⟩:ByteArray)[i.toNat]?=some c:=by
  have aG:i.toNat<(⟨⟨a.l⟩⟩:ByteArray).size:=(yi.1 h2).1;rw[getElem?_pos (⟨⟨a.l⟩⟩:ByteArray) i.toNat aG]
  congr 1
  exact(yi.1 h2).2
 simp only[execOp,he,f.eval hx,f.eval hy,Instr.index,asIntOf,Sem.run_bind,Sem.run_pure,Result.andThen_ok,xZ hu,h0,xu,hg]
theorem zNS{t:TypeId}{x:Operand}{lo hi:Option Operand}{a c:Str}{i k:Int}(hx:val m x=some (.string ⟨⟨a.l⟩⟩))(hu:P.underlying t=some .string)
 (iy:bnd m 0 lo=some i) (iI:bnd m a.l.length hi=some k) (hy:sslc a i k=some c):Reads P n B imm hs m (.slice t x lo hi none) (.string ⟨⟨c.l⟩⟩):=λoo ac w he f gd=>by
 unfold sslc slc at hy
 split at hy
 ·rename_i hb
  cases hy
  have u3:(Instr.sliceBounds false a.l.length a.l.length (lo.map ac.eval) (hi.map ac.eval) none).run P w=.ok (i.toNat,k.toNat,a.l.length) w:=by
   have hh:∀{x:Operand}{j:Int}{y:Nat}{c:BoundsCode},(∃kd,val m x=some (.int kd j))->0<=j->j<=y->(Instr.sliceBound (ac.eval x) y c).run P w=.ok j.toNat w:=λ⟨kd,hx⟩ h4 h5=>by
    simp[Instr.sliceBound,f.eval hx,asIntOf,h4,h5]
   have ob:∀{x:Operand}{o9 j:Int},bnd m o9 (some x)=some j->∃kd,val m x=some (.int kd j):=λ{x o9 j} h=>by
    simp only[bnd] at h
    split at h
    ·rename_i kd k' hx;cases h;exact⟨kd,hx⟩
    ·cases h
   cases hi with
   | none=>
    simp only[bnd,Option.some.injEq] at iI
    subst iI
    cases lo with
    | none=>
     simp only[bnd,Option.some.injEq] at iy
     subst iy
     simp[Instr.sliceBounds]
    | some x=>simp[Instr.sliceBounds,hh (ob iy) hb.1 hb.2.1]
   | some z=>
    cases lo with
    | none=>
     simp only[bnd,Option.some.injEq] at iy
     subst iy
     have e1:=hh (y:=a.l.length) (c:=.sliceAlen) (ob iI) (by omega) (by omega)
     simp[Instr.sliceBounds,e1]
    | some x=>
     have e1:=hh (y:=a.l.length) (c:=.sliceAlen) (ob iI) (by omega) (by omega)
     have e2:=hh (y:=k.toNat) (c:=.sliceB) (ob iy) hb.1 (by omega)
     simp[Instr.sliceBounds,e1,e2]
  have fy:(⟨⟨a.l⟩⟩:ByteArray).size=a.l.length:=rfl
  simp only[execOp,he,f.eval hx,Option.map_none,Instr.sliceAt,Instr.slice,Sem.run_bind,xZ hu,Result.andThen_ok,Option.isSome_none,xq,xt,fy,u3,Sem.run_pure,zJF]
 ·cases hy
end
def same{α:Type}(x:α):α:=x
def nav:Code->List Nat->Code
 | c,[]=>c
 | .seq a _,0::p=>nav a p
 | .seq _ b,_::p=>nav b p
 | .loop a,_::p=>nav a p
 | .block _ a,_::p=>nav a p
 | .cond _ a _,0::p=>nav a p
 | .cond _ _ b,_::p=>nav b p
 | .scope a,_::p=>nav a p
 | c,_::_=>c
def bodyOf(f:Func):Code:=f.body.getD .skip
inductive Out (S R:Type) where
 | done (s:S)
 | ret (r:R)
theorem zB{α β:Type}{x:Option α}{f:α->Option β}{r:β}(h:(x >>= f)=some r):∃y,x=some y/\f y=some r:=by
 cases x with
 | none=>cases h
 | some y=>exact⟨y,rfl,h⟩
theorem zC{α:Type}{x r:α}(h:(pure x:Option α)=some r):x=r:=by cases h;rfl
section
variable {P:Program}{n:Nat}{B:Base}{Q:Exit->Act->World->Prop}{imm:Imm}{hs:List HA}{m:FM}{af:List Oper}{pc d:Nat}
theorem rR{c:Code}(S:Imm->List HA->FM->Prop)(h:J P n B c (Exit.then (λa w=>∃am ah m',S am ah m'/\Fr n a m'/\Good B am ah w) Q) imm hs m)(k:∀am ah m',S am ah m'->T n B Q .normal am ah m'):J P n B c Q imm hs m:=
 λa w f g=>wp_mono (h a w f g) λe a' w' he=>by
  cases e with
  | normal=>obtain⟨am,ah,m',h1,h2,h3⟩:=he;exact k _ _ _ h1 a' w' h2 h3
  | _=>exact he
theorem zQ{S:Imm->List HA->FM->Prop}(h:S imm hs m):T n B (Exit.then (λa w=>∃am ah m',S am ah m'/\Fr n a m'/\Good B am ah w) Q) .normal imm hs m:=λ_ _ f g=>⟨imm,hs,m,h,f,g⟩
theorem tI{α:Type}{c:Bool}{X Y:Option α}{r:α}(hc:c=true)(h:(if c=true then X else Y)=some r):X=some r:=by rwa[if_pos hc] at h
theorem uQ{α:Type}{c:Bool}{X Y:Option α}{r:α}(hc:c=false)(h:(if c=true then X else Y)=some r):Y=some r:=by rwa[if_neg (by rw[hc];decide)] at h
def quo(x y:Int):Option Int:=if y=0 then none else some (IntKind.i64.wrap (x.tdiv y))
def rem(x y:Int):Option Int:=if y=0 then none else some (x.tmod y)
theorem zQ1{t t2:TypeId}{x y:Operand}{a b c:Int}(hx:val m x=some (.int .i64 a))(hy:val m y=some (.int .i64 b))(h:quo a b=some c):Reads P n B imm hs m (.binOp .quo t x y t2) (.int .i64 c):=λoo ac w he f gd=>
 zEF f (by
  unfold quo at h
  split at h
  ·cases h
  ·rename_i h0
   cases h
   simp[he,pure1,hx,hy,ibin,h0])
theorem zNv{t t2:TypeId}{x y:Operand}{a b c:Int}(hx:val m x=some (.int .i64 a))(hy:val m y=some (.int .i64 b))(h:rem a b=some c):Reads P n B imm hs m (.binOp .rem t x y t2) (.int .i64 c):=λoo ac w he f gd=>
 zEF f (by
  unfold rem at h
  split at h
  ·cases h
  ·rename_i h0
   cases h
   simp[he,pure1,hx,hy,ibin,h0])
section
variable {ty:TypeId}{pos:String}{after:Array Edge}{g:Option (Nat×Bool)}
theorem zNw{α:Type}[Rp α]{t:TypeId}{x xi:Operand}{v:Value}{k:IntKind}{i:Int}{l:List α}{y:α}
 (ho:af[pc]?=some ⟨some d,.indexAddr t x xi,ty,pos,after,g⟩) (hg:guardB af m g=some true) (hn:Nat.blt d n=true) (hx:val m x=some v) (hi:val m xi=some (.int k i)) (ht:elemT P t=some (Rp.sz α))
 (ah:SL imm v l) (hy:idx l i=some y) (next:∀ad aR,At imm ad aR->Rp.rep imm aR y->Rq P n B af Q (pc+1) imm hs ((d,.pointer (some ad))::m)):Rq P n B af Q pc imm hs m:=by
 obtain⟨ad,aR,av,al,hrd⟩:=zNu (P:=P) (n:=n) (B:=B) (hs:=hs) hx hi ht ah hy
 exact zCN ho hg rfl hn hrd (next ad aR av al)
theorem zMA{t:TypeId}{x:Operand}{ad:Addr}{cs et:List Value}{v:Value}(o:Nat)
 (ho:af[pc]?=some ⟨some d,.load t x,ty,pos,after,g⟩) (hg:guardB af m g=some true) (hn:Nat.blt d n=true) (av:At imm ad cs) (hx:val m x=some (.pointer (some (ad.add o))))
 (gp:Nat.ble o cs.length=true) (hc:(cs.drop o).take et.length=et) (hv:loadV P t et=some v) (next:Rq P n B af Q (pc+1) imm hs ((d,v)::m)):Rq P n B af Q pc imm hs m:=
 zCN ho hg rfl hn (zLz o av hx gp hc hv) next
theorem zKn{t:TypeId}{x:Operand}{b o:Nat}{c:Array Value}{cs:List Value}{v:Value}(j:Nat)
 (ho:af[pc]?=some ⟨some d,.load t x,ty,pos,after,g⟩) (hg:guardB af m g=some true) (hn:Nat.blt d n=true) (hj:hs[j]?=some (.blk b c)) (hx:val m x=some (.pointer (some ⟨b,o,none⟩)))
 (gp:Nat.ble (o+cs.length) c.size=true) (hc:(c.toList.drop o).take cs.length=cs) (hv:loadV P t cs=some v) (next:Rq P n B af Q (pc+1) imm hs ((d,v)::m)):Rq P n B af Q pc imm hs m:=
 zCN ho hg rfl hn (zKm j hj hx gp hc hv) next
theorem zRB{t t2:TypeId}{x y:Operand}{a b c:Str}(ho:af[pc]?=some ⟨some d,.binOp .add t x y t2,ty,pos,after,g⟩)(hg:guardB af m g=some true)(hn:Nat.blt d n=true)
 (hx:val m x=some (.string ⟨⟨a.l⟩⟩)) (hy:val m y=some (.string ⟨⟨b.l⟩⟩)) (h:cat a b=some c) (next:R P n B af Q (pc+1) imm hs ((d,.string ⟨⟨c.l⟩⟩)::m)):R P n B af Q pc imm hs m:=zHc ho hg rfl hn (zQ0 hx hy h) next
theorem zNx{t:TypeId}{x y:Operand}{a:Str}{k:IntKind}{i:Int}{c:UInt8}(ho:af[pc]?=some ⟨some d,.index t x y,ty,pos,after,g⟩)(hg:guardB af m g=some true)(hn:Nat.blt d n=true)
 (hx:val m x=some (.string ⟨⟨a.l⟩⟩)) (hy:val m y=some (.int k i)) (hu:P.underlying t=some .string) (h:sidx a i=some c) (next:R P n B af Q (pc+1) imm hs ((d,.int .u8 (c.toNat:Int))::m)):R P n B af Q pc imm hs m:=zHc ho hg rfl hn (zNR hx hy hu h) next
theorem zNy{t:TypeId}{x:Operand}{lo hi:Option Operand}{a c:Str}{i k:Int}(ho:af[pc]?=some ⟨some d,.slice t x lo hi none,ty,pos,after,g⟩)(hg:guardB af m g=some true)(hn:Nat.blt d n=true)
 (hx:val m x=some (.string ⟨⟨a.l⟩⟩)) (hu:P.underlying t=some .string) (iy:bnd m 0 lo=some i) (iI:bnd m a.l.length hi=some k) (hy:sslc a i k=some c) (next:R P n B af Q (pc+1) imm hs ((d,.string ⟨⟨c.l⟩⟩)::m)):R P n B af Q pc imm hs m:=zHc ho hg rfl hn (zNS hx hu iy iI hy) next
theorem zQ2{t t2:TypeId}{x y:Operand}{a b c:Int}(ho:af[pc]?=some ⟨some d,.binOp .quo t x y t2,ty,pos,after,g⟩)(hg:guardB af m g=some true)(hn:Nat.blt d n=true)
 (hx:val m x=some (.int .i64 a)) (hy:val m y=some (.int .i64 b)) (h:quo a b=some c) (next:Rq P n B af Q (pc+1) imm hs ((d,.int .i64 c)::m)):Rq P n B af Q pc imm hs m:=zCN ho hg rfl hn (zQ1 hx hy h) next
theorem zRC{t t2:TypeId}{x y:Operand}{a b c:Int}(ho:af[pc]?=some ⟨some d,.binOp .rem t x y t2,ty,pos,after,g⟩)(hg:guardB af m g=some true)(hn:Nat.blt d n=true)
 (hx:val m x=some (.int .i64 a)) (hy:val m y=some (.int .i64 b)) (h:rem a b=some c) (next:R P n B af Q (pc+1) imm hs ((d,.int .i64 c)::m)):R P n B af Q pc imm hs m:=zHc ho hg rfl hn (zNv hx hy h) next
theorem zQ3{t t2:TypeId}{x y:Operand}{a b c:Int}(ho:af[pc]?=some ⟨some d,.binOp .rem t x y t2,ty,pos,after,g⟩)(hg:guardB af m g=some true)(hn:Nat.blt d n=true)
 (hx:val m x=some (.int .i64 a)) (hy:val m y=some (.int .i64 b)) (h:rem a b=some c) (next:Rq P n B af Q (pc+1) imm hs ((d,.int .i64 c)::m)):Rq P n B af Q pc imm hs m:=zCN ho hg rfl hn (zNv hx hy h) next
end
def app{α:Type}(bytes:Nat)(l l2:List α):Option (List α):=if(l.length+l2.length)*bytes<=140737488355328 then some (l++l2) else none
theorem zCO{α:Type}{bytes:Nat}{l l2 y:List α}(h:app bytes l l2=some y):(l.length+l2.length)*bytes<=140737488355328/\l++l2=y:=by
 unfold app at h;split at h
 ·cases h;exact⟨by assumption,rfl⟩
 ·cases h
def RS(P:Program)(fn:Func)(B:Base)(post:Nat->Imm->List HA->Value->Prop)(imm:Imm)(hs:List HA)(m:FM):Prop:=
 ∃vs j5,ResV P m hs fn.results.toList vs/\(∀w,Good B imm hs w->Good B imm j5 w)/\post B.w0.heap.size imm j5 (tupV vs)
theorem fO{fn:Func}{post:Nat->Imm->List HA->Value->Prop}(h:RS P fn B post imm hs m):T n B (QB P fn B post) .ret imm hs m:=by
 obtain⟨vs,j5,h1,h2,h3⟩:=h;exact λ_ w f g=>⟨f.defers,_,zHG f g h1,imm,j5,h3,h2 w g⟩
def pick(hs:List HA):List Nat->Option (List HA)
 | []=>some []
 | i::is=>match hs[i]?,pick hs is with|some A,some r=>some (A::r)|_,_=>none
theorem zHv:∀{hs:List HA},(hs.flatMap HA.fp).Nodup->(∀A∈hs,A.fp.Nodup)/\∀{i j:Nat}{A A':HA},hs[i]?=some A->hs[j]?=some A'->i ≠ j->∀b∈A.fp,b ∉ A'.fp
 | [],_=>⟨by simp,by simp⟩
 | A0::hs,h=>by
  rw[yf] at h
  obtain⟨h1,h2,h3⟩:=zn.1 h
  obtain⟨k1,k2⟩:=zHv h2
  refine⟨λA hA=>?_,λ{i j A A'} hi hj cT b hb ld=>?_⟩
  ·rcases yh.1 hA with rfl|hA
   ·exact h1
   ·exact k1 A hA
  ·cases i with
   | zero=>
    cases j with
    | zero=>exact cT rfl
    | succ j=>
     simp at hi hj
     subst hi
     exact h3 b hb b (zd.2 ⟨A',zj hj,ld⟩) rfl
   | succ i=>
    cases j with
    | zero=>
     simp at hi hj
     subst hj
     exact h3 b ld b (zd.2 ⟨A,zj hi,hb⟩) rfl
    | succ j=>exact k2 (by simpa using hi) (by simpa using hj) (λe=>cT (by rw[e])) b hb ld
theorem zFM{hs:List HA}:∀{is:List Nat}{r:List HA},pick hs is=some r->∀A∈r,∃i∈is,hs[i]?=some A
 | [],r,h,A,hA=>by simp only[pick] at h;cases h;cases hA
 | i::is,r,h,A,hA=>by
  simp only[pick] at h
  split at h
  ·rename_i A0 r' h1 h2
   cases h
   rcases yh.1 hA with rfl|hA
   ·exact⟨i,xz ..,h1⟩
   ·obtain⟨k,h3,h4⟩:=zFM h2 A hA
    exact⟨k,xx _ h3,h4⟩
  ·cases h
theorem zEc{hs:List HA}(g:(hs.flatMap HA.fp).Nodup):∀{is:List Nat}{r:List HA},pick hs is=some r->is.Nodup->(r.flatMap HA.fp).Nodup
 | [],r,h,_=>by simp only[pick] at h;cases h;simp
 | i::is,r,h,hn=>by
  simp only[pick] at h
  split at h
  ·rename_i A0 r' h1 h2
   cases h
   obtain⟨n1,n2⟩:=List.nodup_cons.1 hn
   rw[yf]
   refine zn.2 ⟨(zHv g).1 _ (zj h1),zEc g h2 n2,λb hb b' ld e=>?_⟩
   subst e
   obtain⟨A,hA,hbA⟩:=zd.1 ld
   obtain⟨k,h3,h4⟩:=zFM h2 A hA
   exact(zHv g).2 h1 h4 (λe=>n1 (e ▸ h3)) b hb hbA
  ·cases h
theorem zV(is:List Nat){ah:List HA}(h:pick hs is=some ah)(hn:is.Nodup):∀w,Good B imm hs w->Good B imm ah w:=λ_ g=>
 g.sub (λA hA=>by obtain⟨i,_,h1⟩:=zFM h A hA;exact zj h1) (zEc g.nodup h hn)
theorem zN:∀w,Good B imm hs w->Good B imm [] w:=λ_ h=>h.sub (λ_ h=>by cases h) (by simp)
end
abbrev Fact:=Imm->Value->List HA->Prop
def nofact:Fact:=λ_ _ _=>False
def dst0(af:List Oper)(i:Nat):Option Nat:=match af[i]? with|some o=>o.dst|none=>none
def allocAt(af:List Oper)(x:Nat):Bool:=af.any λq=>match q.dst,q.op with|some d,.alloc _=>Nat.beq d x|_,_=>false
def dstAt(af:List Oper)(i:Nat):Option Nat:=match af[i]? with
 | some o=>match o.dst with
  | some d=>some d
  | none=>match o.op with
   | .store _ (.tmp x) _=>bif allocAt af x then some x else none
   | _=>none
 | none=>none
theorem zMB{af:List Oper}{i d:Nat}(h:dst0 af i=some d):dstAt af i=some d:=by
 unfold dst0 at h;unfold dstAt;cases ho:af[i]? with
 | none=>rw[ho] at h;cases h
 | some o=>
  rw[ho] at h;simp only at h;simp only[h]
def Ins(af:List Oper)(φ:List Fact)(imm:Imm):List (Nat×Bool)->FM->List HA->(FM->List HA->Prop)->Prop
 | [],m,hs,K=>K m hs
 | (j,c)::r,m,hs,K=>∀v hx,(φ.getD j nofact) imm v hx->Ins af φ imm r (match dstAt af j with|some d=>(d,v)::m|none=>m) (match c with|true=>hx++hs|false=>hs) K
def addM(af:List Oper)(val:Nat->Value):List (Nat×Bool)->FM->FM
 | [],m=>m
 | (j,_)::r,m=>addM af val r (match dstAt af j with|some d=>(d,val j)::m|none=>m)
def addH(hx:Nat->List HA):List (Nat×Bool)->List HA->List HA
 | [],hs=>hs
 | (j,c)::r,hs=>addH hx r (match c with|true=>hx j++hs|false=>hs)
theorem Ins.use{af:List Oper}{φ:List Fact}{imm:Imm}{val:Nat->Value}{hx:Nat->List HA}{K:FM->List HA->Prop}:∀(r:List (Nat×Bool)) {m:FM}{hs:List HA},(∀p∈r,(φ.getD p.1 nofact) imm (val p.1) (hx p.1))->Ins af φ imm r m hs K->K (addM af val r m) (addH hx r hs)
 | [],_,_,_,h=>h
 | (j,c)::r,_,_,hp,h=>Ins.use r (λp hp'=>hp p (xx _ hp')) (h _ _ (hp _ (xz ..)))
def OutQ(n:Nat)(B:Base)(φi:Fact)(d:Option Nat)(imm:Imm)(j5:List HA):Exit->Act->World->Prop:=λe a w=>
 e=.normal/\a.defers=[]/\∃am v hx,imm.le am/\φi am v hx/\Good B am (hx++j5) w/\∀d',d=some d'->a.tmps[d']?=some v
def Bor(af:List Oper)(φ:List Fact)(imm:Imm)(ins:List (Nat×Bool))(hf:List HA):Prop:=
 ∀p∈ins,p.2=false->af.length<=p.1->∃v hx hf',(φ.getD p.1 nofact) imm v hx/\hf.Perm (hx++hf')
def Obl(P:Program)(n:Nat)(B:Base)(af:List Oper)(φ:List Fact)(imm:Imm)(hsC:List HA)(m:FM)(i:Nat)(ins:List (Nat×Bool)):Prop:=
 ∀bw hf,imm.le bw->Bor af φ bw ins hf->Ins af φ bw ins m (hsC++hf) λm' ah=>R P n B (af.take (i+1)) (OutQ n B (φ.getD i nofact) (dstAt af i) bw (hsC++hf)) i bw ah m'
def Obls(P:Program)(n:Nat)(B:Base)(af:List Oper)(φ:List Fact)(imm:Imm)(hsC:List HA)(m:FM):Nat->List (List (Nat×Bool))->Prop
 | _,[]=>True
 | i,x::xs=>Obl P n B af φ imm hsC m i x/\Obls P n B af φ imm hsC m (i+1) xs
theorem Obls.at{P:Program}{n:Nat}{B:Base}{af:List Oper}{φ:List Fact}{imm:Imm}{hsC:List HA}{m:FM}:∀{k:Nat}{l:List (List (Nat×Bool))},Obls P n B af φ imm hsC m k l->∀{i:Nat}{x:List (Nat×Bool)},l[i]?=some x->Obl P n B af φ imm hsC m (k+i) x
 | _,[],_,i,x,h=>by simp at h
 | k,y::l,h,0,x,hx=>by simp at hx;subst hx;exact h.1
 | k,y::l,h,i+1,x,hx=>by
  have:=Obls.at h.2 (i:=i) (by simpa using hx)
  rwa[show k+(i+1)=k+1+i from by omega]
def BaseG(φ:List Fact)(imm:Imm):Nat->List (List HA)->Prop
 | _,[]=>True
 | k,g::gs=>(φ.getD k nofact) imm undef g/\BaseG φ imm (k+1) gs
theorem BaseG.at{φ:List Fact}{imm:Imm}:∀{k:Nat}{gs:List (List HA)},BaseG φ imm k gs->∀{i:Nat}{g:List HA},gs[i]?=some g->(φ.getD (k+i) nofact) imm undef g
 | _,[],_,i,g,h=>by simp at h
 | k,x::gs,h,0,g,hg=>by simp at hg;subst hg;exact h.1
 | k,x::gs,h,i+1,g,hg=>by
  have:=BaseG.at h.2 (i:=i) (by simpa using hg)
  rwa[show k+(i+1)=k+1+i from by omega]
def MonoF(φ:List Fact):Prop:=∀j imm am v hx,imm.le am->(φ.getD j nofact) imm v hx->(φ.getD j nofact) am v hx
def Mono1(f:Fact):Prop:=∀imm am v hx,imm.le am->f imm v hx->f am v hx
def MonoL:List Fact->Prop
 | []=>True
 | f::fs=>Mono1 f/\MonoL fs
theorem MonoL.mono:∀{φ:List Fact},MonoL φ->MonoF φ
 | [],_,j,_,_,_,_,_,h=>by simp[nofact] at h
 | f::fs,h,0,i,i',v,hx,hl,h0=>h.1 i i' v hx hl h0
 | f::fs,h,j+1,i,i',v,hx,hl,h0=>MonoL.mono h.2 j i i' v hx hl h0
def bound(o:Oper):List Nat:=(o.after.toList.filter λe=>Region.binds .any e).map (·.on)
def chkEdges(af:List Oper)(s:Nat):Bool:=
 (List.range af.length).all λi=>match af[i]? with
  | some o=>(bound o).all (λe=>Nat.blt e i)&&(match o.guard with|some (g,_)=>Nat.blt g i|none=>true)&&(Nat.blt i s||(Nat.beq i s&&(List.range i).all (λe=>(bound o).contains e))||(Nat.blt s i&&(bound o).contains (i - 1)))
  | none=>true
def chkIns(af:List Oper)(s nb:Nat)(ins:List (List (Nat×Bool))):Bool:=
 (List.range s).all λi=>match ins[i]?,af[i]? with
  | some l,some o=>l.all (λp=>(Nat.ble af.length p.1&&Nat.blt p.1 (af.length+nb))||(Nat.blt p.1 s&&(bound o).contains p.1))&&((l.filter (·.2)).map (·.1)).Pairwise (· ≠ ·)
  | _,_=>false
def chkOnce(s:Nat)(ins:List (List (Nat×Bool))):Bool:=
 (List.range s).all λi=>(List.range s).all λi'=>Nat.beq i i'||(ins.getD i []).all (λp=>!p.2 || !((ins.getD i' []).contains (p.1,true)))
def chkTmp(af:List Oper)(n s:Nat)(iL:List Nat):Bool:=
 (List.range s).all λi=>match dst0 af i with
  | some d=>Nat.blt d n && !(iL.contains d)&&(List.range s).all (λj=>Nat.beq j i||match dst0 af j with|some d'=>!(Nat.beq d' d)|none=>true)
  | none=>true
def chkPse(af:List Oper)(s:Nat):Bool:=
 (List.range s).all λj=>match af[j]?,dst0 af j,dstAt af j with
  | some o,none,some d=>(List.range s).all λi=>match dst0 af i with|some d'=>!(Nat.beq d' d)||(bound o).contains i|none=>true
  | _,_,_=>true
def chkBor(af:List Oper)(s:Nat)(ins:List (List (Nat×Bool))):Bool:=
 (List.range s).all λi=>(ins.getD i []).all λp=>p.2||Nat.blt p.1 af.length||(List.range s).all λi'=>!((ins.getD i' []).contains (p.1,true))||(match af[i']? with|some o=>(bound o).contains i|none=>false)
def anyChk(af:List Oper)(n s nb:Nat)(ins:List (List (Nat×Bool)))(iL:List Nat):Bool:=
 Nat.beq ins.length s&&Nat.ble s af.length&&chkEdges af s&&chkIns af s nb ins&&chkOnce s ins&&chkTmp af n s iL&&chkBor af s ins&&chkPse af s
structure AnyOk(af:List Oper)(n s nb:Nat)(ins:List (List (Nat×Bool)))(iL:List Nat):Prop where
 len:ins.length=s
 le:s<=af.length
 edge:∀{i:Nat}{o:Oper},af[i]?=some o->∀e∈bound o,e<i
 guard:∀{i:Nat}{o:Oper}{g:Nat}{b:Bool},af[i]?=some o->o.guard=some (g,b)->g<i
 order:∀{i:Nat}{o:Oper},af[i]?=some o->s<=i->(i=s/\∀e,e<i->e∈bound o)∨(s<i/\i - 1∈bound o)
 there:∀{i:Nat}{l:List (Nat×Bool)}{o:Oper},ins[i]?=some l->af[i]?=some o->∀p∈l,(af.length<=p.1/\p.1<af.length+nb)∨(p.1<s/\p.1∈bound o)
 apart:∀{i:Nat}{l:List (Nat×Bool)},i<s->ins[i]?=some l->((l.filter (·.2)).map (·.1)).Pairwise (· ≠ ·)
 once:∀{i i':Nat}{l l':List (Nat×Bool)},i<s->i'<s->i ≠ i'->ins[i]?=some l->ins[i']?=some l'->∀j,(j,true)∈l->(j,true) ∉ l'
 tmp:∀{i d:Nat},i<s->dst0 af i=some d->d<n/\d ∉ iL
 own:∀{i j d:Nat},i<s->j<s->j ≠ i->dst0 af i=some d->dst0 af j ≠ some d
 bor:∀{i i' b:Nat}{l l':List (Nat×Bool)}{o:Oper},i<s->i'<s->ins[i]?=some l->(b,false)∈l->af.length<=b->ins[i']?=some l'->af[i']?=some o->(b,true)∈l'->i∈bound o
 pse:∀{i j d:Nat}{o:Oper},i<s->j<s->af[j]?=some o->dst0 af j=none->dstAt af j=some d->dst0 af i=some d->i∈bound o
theorem AnyOk.mk'{af:List Oper}{n s nb:Nat}{ins:List (List (Nat×Bool))}{iL:List Nat}(h:anyChk af n s nb ins iL=true):AnyOk af n s nb ins iL:=by
 unfold anyChk at h;simp only[xv] at h;obtain⟨⟨⟨⟨⟨⟨⟨h1,h2⟩,h3⟩,h4⟩,h5⟩,h6⟩,h7⟩,h8⟩:=h;have aP:=zm h1;have cM:=za h2;have lt_of:∀{i:Nat}{o:Oper},af[i]?=some o->i<af.length:=λe=>(yi.1 e).1;have e3:∀{i:Nat}{o:Oper},af[i]?=some o->(bound o).all (λe=>Nat.blt e i)=true/\(match o.guard with|some (g,_)=>Nat.blt g i|none=>true)=true/\(Nat.blt i s||(Nat.beq i s&&(List.range i).all (λe=>(bound o).contains e))||(Nat.blt s i&&(bound o).contains (i - 1)))=true:=λ{i o} e=>by
  have:=yb.1 h3 i (zg.2 (lt_of e));simp only[e,xv] at this;exact⟨this.1.1,this.1.2,this.2⟩
 have e4:∀{i:Nat}{o:Oper}{l},i<s->ins[i]?=some l->af[i]?=some o->_:=λ{i o l} hi hl ho=>by
  have:=yb.1 h4 i (zg.2 hi);simp only[hl,ho] at this;exact this
 refine⟨aP,cM,λe x hx=>?_,λe hg=>?_,λ{i o} e hs=>?_,λ{i l o} hl ho p hp=>?_,λ{i l} hi hl=>?_,λ{i i' l l'} hi hi' cT hl hl' j hj=>?_,λ{i d} hi hd=>?_,λ{i j d} hi hj cT hd my=>?_,λ{i i' b l l' o} hi hi' hl hb hN hl' ho ld=>?_,λ{i j d o} hi hj ho h0 hd my=>?_⟩
 ·simpa using yb.1 (e3 e).1 x hx
 ·have:=(e3 e).2.1;rw[hg] at this;simpa using this
 ·have:=(e3 e).2.2;rw[Am,Am,xv,xv] at this;rcases this with(h|⟨h0,h⟩)|⟨h0,h⟩
  ·exact absurd (by simpa using h) (Nat.not_lt.2 hs)
  ·exact .inl ⟨zm h0,λx hx=>by simpa using yb.1 h x (zg.2 hx)⟩
  ·exact .inr ⟨by simpa using h0,by simpa using h⟩
 ·have hi:i<s:=by rw[<- aP];exact(yi.1 hl).1
  have:=e4 hi hl ho;rw[xv] at this;have:=yb.1 this.1 p hp;simpa using this
 ·obtain⟨o,ho⟩:∃o,af[i]?=some o:=⟨_,ya (by omega)⟩;have:=e4 hi hl ho;rw[xv] at this;exact of_decide_eq_true this.2
 ·have:=yb.1 (yb.1 h5 i (zg.2 hi)) i' (zg.2 hi');rw[Am] at this;rcases this with h|h
  ·exact absurd (zm h) cT
  ·have:=yb.1 h (j,true) (by simpa [List.getD,hl] using hj);simpa [List.getD,hl'] using this
 ·have:=yb.1 h6 i (zg.2 hi);simp only[hd,xv] at this;exact⟨by simpa using this.1.1,by simpa using this.1.2⟩
 ·have:=yb.1 h6 i (zg.2 hi);simp only[hd,xv] at this;have:=yb.1 this.2 j (zg.2 hj);simp[my,cT] at this
 ·have:=yb.1 h7 i (zg.2 hi);have:=yb.1 this (b,false) (by simpa [List.getD,hl] using hb);simp only[AN,Am] at this;rcases this with h|h
  ·have h:b<af.length:=by simpa using h
   omega
  ·have:=yb.1 h i' (zg.2 hi');have hg:(ins.getD i' []).contains (b,true)=true:=by simpa [List.getD,hl'] using ld
   rw[hg,ho] at this;simpa using this
 ·have:=yb.1 h8 j (zg.2 hj);simp only[ho,h0,hd] at this;have:=yb.1 this i (zg.2 hi);simp only[my] at this;simpa using this
theorem dA{af:List Oper}{listed:Array Bool}{i:Nat}:i∈Region.ready .any af.toArray listed↔i<af.length/\listed.getD i true=false/\∃o,af[i]?=some o/\∀e∈bound o,listed.getD e false=true:=by
 unfold Region.ready;simp only[AA,zg,List.size_toArray,xv,Bool.not_eq_true'];constructor
 ·rintro⟨h1,h2,h3⟩;refine⟨h1,h2,af[i],ya h1,λe he=>?_⟩;have h4:af.toArray[i]?=some af[i]:=by simp[h1]
  rw[h4] at h3;simp only[Option.map_some,zx] at h3;unfold bound at he;obtain⟨x,hx,rfl⟩:=zi.1 he;obtain⟨hx1,r8⟩:=AA.1 hx;have:=Array.all_eq_true_iff_forall_mem.1 h3 x (by simpa using hx1);simpa [r8] using this
 ·rintro⟨h1,h2,o,ho,h3⟩;refine⟨h1,h2,?_⟩;have h4:af.toArray[i]?=some o:=by simpa using ho
  rw[h4];simp only[Option.map_some,zx];rw[Array.all_eq_true_iff_forall_mem];intro x hx;cases hb:Region.binds .any x with
  | false=>rfl
  | true=>
   simp only[y0,AN];exact h3 _ (zi.2 ⟨x,AA.2 ⟨by simpa using hx,hb⟩,rfl⟩)
theorem zBV{listed:Array Bool}{i j:Nat}{d:Bool}(h:i<listed.size):(listed.setIfInBounds i true).getD j d=if j=i then true else listed.getD j d:=by
 simp only[zo];by_cases e:j=i
 ·subst e;simp[h]
 ·rw[Af (Ne.symm e)];simp[e]
def unl(N:Nat)(listed:Array Bool):Nat:=(List.range N).countP λj=>!listed.getD j true
theorem zKo{l:List Nat}{p q:Nat->Bool}{i:Nat}(hi:i∈l)(hp:p i=true)(hq:q i=false)(h:∀j,q j=true->p j=true):l.countP q<l.countP p:=by
 induction l with
 | nil=>cases hi
 | cons x l ih=>
  have cM:l.countP q<=l.countP p:=List.countP_mono_left λj _ hj=>h j hj;simp only[List.countP_cons];rcases yh.1 hi with rfl|hi
  ·simp[hp,hq];omega
  ·have:=ih hi;cases hx:q x with
   | true=>simp[h x hx];omega
   | false=>cases p x <;> simp <;> omega
theorem zP3{N i:Nat}{listed:Array Bool}(hs:listed.size=N)(hi:i<N)(hl:listed.getD i true=false):unl N (listed.setIfInBounds i true)<unl N listed:=by
 unfold unl;refine zKo (i:=i) (zg.2 hi) (by simp[hl]) (by rw[zBV (by omega)];simp) λj hj=>?_;rw[zBV (by omega)] at hj;split at hj
 ·simp at hj
 ·exact hj
section
variable {P:Program}{n:Nat}{B:Base}{Q:Exit->Act->World->Prop}{imm:Imm}{hs:List HA}{m:FM}{af:List Oper}
theorem zKC{s nb:Nat}{ins:List (List (Nat×Bool))}{iL:List Nat}(hc:AnyOk af n s nb ins iL):∀(hS k:Nat) (listed:Array Bool) (a:Act) (w:World),s<=k->k<=af.length->af.length - k<=hS->listed.size=af.length->(∀j d,j<af.length->listed.getD j d=decide (j<k)) ->
 wpL P af.toArray Q (af.drop k) a w->wpAny P .any af.toArray Q hS listed a w:=by
 intro hS
 induction hS with
 | zero=>
  intro k listed a w h1 h2 h3 fy hl h
  have hk:k=af.length:=by omega
  subst hk
  rw[A8] at h
  refine⟨?_,h⟩
  rw[List.eq_nil_iff_forall_not_mem]
  intro i hi
  obtain⟨h4,h5,_⟩:=dA.1 hi
  rw[hl _ _ h4] at h5
  simp[h4] at h5
 | succ hS ih=>
  intro k listed a w h1 h2 h3 fy hl h
  have hrd:∀i,i∈Region.ready .any af.toArray listed->i=k:=λi hi=>by
   obtain⟨h4,h5,o,ho,h6⟩:=dA.1 hi
   rw[hl _ _ h4] at h5
   have h5:¬i<k:=by simpa using h5
   rcases z6 k i with h7|h7
   ·rcases hc.order ho (by omega) with⟨h8,h9⟩|⟨h8,h9⟩
    ·omega
    ·have:=h6 _ h9
     rw[hl _ _ (by omega)] at this
     simp at this
     omega
   ·omega
  refine⟨λh0=>?_,λi hi=>?_⟩
  ·rcases z6 k af.length with hk|hk
   ·have:k∈Region.ready .any af.toArray listed:=dA.2 ⟨hk,by rw[hl _ _ hk];simp,af[k],ya hk,λe he=>by
     have:=hc.edge (ya hk) e he
     rw[hl _ _ (by omega)];simp[this]⟩
    rw[h0] at this;cases this
   ·have hk:k=af.length:=by omega
    subst hk
    rw[A8] at h
    exact h
  ·have:=hrd i hi
   subst this
   have hk:=(dA.1 hi).1
   have ho:af[i]?=some af[i]:=ya hk
   rw[zBf ho] at h
   simp only[wpL] at h
   have next:∀a w,wpL P af.toArray Q (af.drop (i+1)) a w->wpAny P .any af.toArray Q hS (listed.setIfInBounds i true) a w:=λa w h=>
    ih (i+1) _ a w (by omega) (by omega) (by omega) (by simpa using fy) (λj d hj=>by
     rw[zBV (by omega),hl _ _ hj]
     by_cases e:j=i
     ·subst e;simp
     ·have:decide (j<i+1)=decide (j<i):=by simp;omega
      rw[this];simp[e]) h
   unfold wpOp
   have h4:af.toArray[i]?=some af[i]:=by simp[hk]
   rw[h4]
   split
   ·rename_i he;cases he
   ·rename_i o he
    injection he with he
    subst he
    split
    ·rename_i hw;rw[if_pos hw] at h;exact .inl (Oper.wp_mono next h)
    ·rename_i hw;rw[if_neg hw] at h;exact next _ _ h
theorem zQ4{o:Oper}{a:Act}{w:World}{K K':Act->World->Prop}{Q':Exit->Act->World->Prop}(hQ:∀e a w,Q' e a w->e=.normal)
 (hh:o.wp P a w K Q') (jf:∀v w',K (a.put o.dst v) w'->K' (a.put o.dst v) w') (hdef:∀d w',¬K ({ a with defers:=d::a.defers }.put o.dst undef) w'):o.wp P a w K' Q:=by
 unfold Oper.wp at *
 generalize (execOp a.eval o).run P w=r at *
 cases r with
 | ok x w' =>
  cases x <;> simp only[Oper.upon] at hh ⊢
  case value=>exact jf _ _ hh
  case skip=>exact jf _ _ hh
  case defer=>exact absurd hh (hdef _ _)
  case enter=>
   refine Calls.mono hh λe w'' he=>?_
   cases e with
   | returned v=>exact jf _ _ he
   | panicked c=>cases hQ _ _ _ he
   | outgrown=>
    obtain⟨a1,w1,he⟩:=he
    cases hQ _ _ _ he
  case row=>exact Rows.mono hh λ_ _ he=>jf _ _ he
 | halt x w' =>
  cases x <;> simp only[Oper.upon] at hh ⊢
  case panic=>cases hQ _ _ _ hh
structure AnyInv(n:Nat)(B:Base)(af:List Oper)(s nb:Nat)(ins:List (List (Nat×Bool)))(φ:List Fact)(imm:Imm)(hsC:List HA)(m:FM)(listed:Array Bool)(a:Act)(w:World)
 (am:Imm) (val:Nat->Value) (hx:Nat->List HA) (live:List Nat):Prop where
 le:imm.le am
 good:Good B am (hsC++live.flatMap hx) w
 defers:a.defers=[]
 size:a.tmps.size=n
 base:∀k v,look m k=some v->a.tmps[k]?=some v
 lsz:listed.size=af.length
 lst:∀j,listed.getD j false=true->j<s
 fact:∀j,(listed.getD j false=true∨(af.length<=j/\j<af.length+nb))->(φ.getD j nofact) am (val j) (hx j)
 slot:∀j d,listed.getD j false=true->dstAt af j=some d->a.tmps[d]?=some (val j)
 live:∀j,(listed.getD j false=true∨(af.length<=j/\j<af.length+nb))->(∀i l,listed.getD i false=true->ins[i]?=some l->(j,true) ∉ l)->j∈live
 closed:∀i o,listed.getD i false=true->af[i]?=some o->∀e∈bound o,listed.getD e false=true
theorem zGR{val:Nat->Value}{a:Act}{tm:Nat->Option Value}:∀(r:List (Nat×Bool)) {m:FM},(∀p∈r,∀d,dstAt af p.1=some d->a.tmps[d]?=some (val p.1))->(∀k v,look m k=some v->a.tmps[k]?=some v)->∀k v,look (addM af val r m) k=some v->a.tmps[k]?=some v
 | [],_,_,h2=>h2
 | (j,c)::r,m,h1,h2=>by
  refine zGR (tm:=tm) r (λp hp=>h1 p (xx _ hp)) (λk v hk=>?_)
  split at hk
  ·rename_i d hd
   by_cases e:d=k
   ·subst e;rw[gJ] at hk;cases hk;exact h1 _ (xz ..) _ hd
   ·rw[kH _ _ e] at hk;exact h2 _ _ hk
  ·exact h2 _ _ hk
theorem zEG{hx:Nat->List HA}:∀(r:List (Nat×Bool)) (live:List Nat),(∀p∈r,p.2=true->p.1∈live)->((r.filter (·.2)).map (·.1)).Pairwise (· ≠ ·) ->
 ∃ew:List Nat,(∀j∈live,(j,true) ∉ r->j∈ew)/\∀X:List HA,(X++live.flatMap hx).Perm (addH hx r (X++ew.flatMap hx))
 | [],live,_,_=>⟨live,λ_ h _=>h,λ_=>.refl _⟩
 | (j,false)::r,live,h1,h2=>by
  obtain⟨l',h3,h4⟩:=zEG (hx:=hx) r live (λp hp=>h1 p (xx _ hp)) (by simpa using h2)
  exact⟨l',λj' hj hn=>h3 j' hj (λh=>hn (xx _ h)),h4⟩
 | (j,true)::r,live,h1,h2=>by
  have h2':(∀x∈(r.filter (·.2)).map (·.1),j ≠ x)/\((r.filter (·.2)).map (·.1)).Pairwise (· ≠ ·):=by
   simpa only [List.filter_cons,xu,zl,List.pairwise_cons] using h2
  have hj:=h1 _ (xz ..) rfl
  obtain⟨l',h3,h4⟩:=zEG (hx:=hx) r (live.erase j) (λp hp ht=>by
   refine(List.mem_erase_of_ne ?_).2 (h1 p (xx _ hp) ht)
   exact(h2'.1 _ (zi.2 ⟨p,AA.2 ⟨hp,ht⟩,rfl⟩)).symm) h2'.2
  refine⟨l',λj' hj' hn=>h3 j' ((List.mem_erase_of_ne ?_).2 hj') (λh=>hn (xx _ h)),λX=>.trans ?_ (.trans (h4 (hx j++X)) (.of_eq ?_))⟩
  ·intro e;subst e;exact hn (xz ..)
  ·have hp:(live.flatMap hx).Perm (hx j++(live.erase j).flatMap hx):=by
    have:=(List.perm_cons_erase hj).flatMap_right hx
    simpa [yf] using this
   refine(List.Perm.append_left X hp).trans ?_
   rw[<- yu]
   exact List.Perm.append_right _ Ac
  ·simp only[addH,yu]
theorem zE5{af:List Oper}{i:Nat}{o:Oper}(ho:af[i]?=some o):(af.take (i+1)).drop i=[o]:=by
 have aG:=(yi.1 ho).1;rw[AK,zBf ho];simp
theorem zKp{af:List Oper}{i:Nat}{o:Oper}{t:Array Value}(hg:∀g b,o.guard=some (g,b)->g<i):Region.wanted o (yielded (af.take (i+1)).toArray t)=Region.wanted o (yielded af.toArray t):=by
 unfold Region.wanted;cases h:o.guard with
 | none=>rfl
 | some g=>
  obtain⟨j,b⟩:=g;have:=hg j b h;simp only[yielded];have e:(af.take (i+1)).toArray[j]?=af.toArray[j]?:=by
   simp only[AC];rw[List.getElem?_take_of_lt (by omega)]
  rw[e]
theorem zD0{α β:Type}{f g:α->List β}:∀{l:List α},(∀x∈l,f x=g x)->l.flatMap f=l.flatMap g
 | [],_=>rfl
 | x::l,h=>by rw[yf,yf,h x (xz ..),zD0 λy hy=>h y (xx _ hy)]
theorem zDE{α β:Type}{f:α->List β}{l l':List α}(h:l'.Sublist l):(l'.flatMap f).Sublist (l.flatMap f):=by
 induction h with
 | slnil=>exact List.Sublist.refl _
 | cons a _ ih=>rw[yf];exact ih.trans (List.sublist_append_right ..)
 | cons_cons a _ ih=>rw[yf,yf];exact List.Sublist.append_left ih _
theorem Good.sublist{w:World}(h:Good B imm hs w){ah:List HA}(hs1:ah.Sublist hs):Good B imm ah w:=
 h.sub (λ_ hA=>hs1.subset hA) ((zDE hs1).nodup h.nodup)
theorem AnyInv.step{s nb:Nat}{ins:List (List (Nat×Bool))}{iL:List Nat}(hc:AnyOk af n s nb ins iL){φ:List Fact}(hφ:MonoF φ){hsC:List HA}(hk:∀k v,look m k=some v->k∈iL)(xf:Obls P n B af φ imm hsC m 0 ins)
 {listed:Array Bool}{a:Act}{w:World}{bw:Imm}{val:Nat->Value}{hx:Nat->List HA}{live:List Nat} (h:AnyInv n B af s nb ins φ imm hsC m listed a w bw val hx live) {i:Nat} (hi:i<s) (hr:i∈Region.ready .any af.toArray listed)
 {K:Act->World->Prop} (hK:∀a' w' am val' cG ew,AnyInv n B af s nb ins φ imm hsC m (listed.setIfInBounds i true) a' w' am val' cG ew->K a' w'):wpOp P af.toArray Q i K a w:=by
 obtain⟨aG,ow,o,ho,hrd⟩:=dA.1 hr
 have hnl':listed.getD i false=false:=by
  have:i<listed.size:=by rw[h.lsz];exact aG
  simp only[zo,zz this,zx] at ow ⊢
  exact ow
 obtain⟨l,hl⟩:∃l,ins[i]?=some l:=⟨_,ya (by rw[hc.len];exact hi)⟩
 have m7:∀p∈l,listed.getD p.1 false=true∨(af.length<=p.1/\p.1<af.length+nb):=λp hp=>by
  rcases hc.there hl ho p hp with h1|⟨_,h1⟩
  ·exact .inr h1
  ·exact .inl (hrd _ h1)
 have hlive:∀p∈l,p.2=true->p.1∈live:=λp hp ht=>by
  refine h.live _ (m7 p hp) λi' l' hi' hl' hm=>?_
  have cT:i ≠ i':=λe=>by subst e;rw[hnl'] at hi';cases hi'
  have hp':(p.1,true)∈l:=by rw[<- ht];exact hp
  exact hc.once hi (h.lst _ hi') cT hl hl' _ hp' hm
 obtain⟨ew,h3,h4⟩:=zEG (hx:=hx) l live hlive (hc.apart hi hl)
 have hR:=Ins.use (val:=val) (hx:=hx) l (λp hp=>h.fact _ (m7 p hp)) (by
  have:=xf.at hl bw (ew.flatMap hx) h.le (λp hp hpf hN=>by
   have hin:af.length<=p.1/\p.1<af.length+nb:=by
    rcases m7 p hp with h1|h1
    ·have:=h.lst _ h1;have:=hc.le;omega
    ·exact h1
   have qx:(p.1,false)∈l:=by rw[<- hpf];exact hp
   have hnt:∀i' l' o',i'<s->ins[i']?=some l'->af[i']?=some o'->(p.1,true)∈l'->i∈bound o':=λi' l' o' hi' hl' pu hm=>hc.bor hi hi' hl qx hin.1 hl' pu hm
   have vc:p.1∈live:=h.live _ (.inr hin) λi' l' hi' hl' hm=>by
    have his:=h.lst _ hi'
    have hlt':i'<af.length:=by have:=hc.le;omega
    have:=h.closed i' _ hi' (ya hlt') i (hnt i' l' _ his hl' (ya hlt') hm)
    rw[hnl'] at this;cases this
   have hlv':=h3 _ vc λhm=>by
    have:=hc.edge ho i (hnt i l o hi hl ho hm)
    omega
   refine⟨val p.1,hx p.1,(ew.erase p.1).flatMap hx,h.fact _ (.inr hin),?_⟩
   have:=(List.perm_cons_erase hlv').flatMap_right hx
   simpa [yf] using this)
  rw[yv] at this
  exact this)
 have hfr:Fr n a (addM af val l m):=⟨h.defers,h.size,zGR (tm:=λ_=>none) l (λp hp d hd=>by
  rcases m7 p hp with h1|⟨h1,_⟩
  ·exact h.slot _ _ h1 hd
  ·unfold dstAt at hd
   rw[Aj h1] at hd
   cases hd) h.base⟩
 have hg:Good B bw (addH hx l (hsC++ew.flatMap hx)) w:=h.good.perm (h4 hsC).symm
 have hw:=hR a w hfr hg
 rw[zE5 ho] at hw
 have fy:i<listed.size:=by rw[h.lsz];exact aG
 have fin:∀v w',OutQ n B (φ.getD i nofact) (dstAt af i) bw (hsC++ew.flatMap hx) .normal (a.put o.dst v) w'->K (a.put o.dst v) w':=λv w' hq=>by
  obtain⟨_,hdf,am,v',cG,cM,hf,hg',ah⟩:=hq
  have tw:dst0 af i=o.dst:=by simp[dst0,ho]
  have hput:∀k,o.dst ≠ some k->(a.put o.dst v).tmps[k]?=a.tmps[k]?:=λk cT=>by
   cases hd:o.dst with
   | none=>rfl
   | some d=>
    have:d ≠ k:=λe=>cT (by rw[hd,e])
    simp only[Act.put]
    rw[Af this]
  have hold:∀j,j ≠ i->(if j=i then v' else val j)=val j:=λj hj=>by simp[hj]
  have hold2:∀j,j ≠ i->(if j=i then cG else hx j)=hx j:=λj hj=>by simp[hj]
  refine hK _ _ am (λj=>if j=i then v' else val j) (λj=>if j=i then cG else hx j) (i::ew.filter (λj=>j != i)) ?_
  have jp:∀j,(listed.setIfInBounds i true).getD j false=true->j=i∨(j ≠ i/\listed.getD j false=true):=λj hj=>by
   rw[zBV fy] at hj
   by_cases e:j=i
   ·exact .inl e
   ·rw[if_neg e] at hj;exact .inr ⟨e,hj⟩
  refine⟨h.le.trans cM,?_,hdf,?_,λk u hu=>?_,by simpa using h.lsz,λj hj=>?_,λj hj=>?_,λj d hj hd=>?_,λj hj hn=>?_,λi' o' hi' pu e he=>?_⟩
  ·have e1:(i::ew.filter (λj=>j != i)).flatMap (λj=>if j=i then cG else hx j)=cG++(ew.filter (λj=>j != i)).flatMap hx:=by
    rw[yf]
    simp only[xu]
    congr 1
    refine zD0 λj hj=>?_
    have:=(AA.1 hj).2
    have:j ≠ i:=by simpa using this
    simp[this]
   rw[e1]
   refine Good.perm (Good.sublist hg' (ah:=cG++(hsC++(ew.filter (λj=>j != i)).flatMap hx)) ?_) ?_
   ·exact List.Sublist.append_left (List.Sublist.append_left (zDE List.filter_sublist) _) _
   ·rw[<- yu,<- yu]
    exact List.Perm.append_right _ Ac
  ·cases hd:o.dst <;> simp[Act.put,h.size]
  ·rw[hput k (λe=>?_)]
   ·exact h.base k u hu
   ·exact(hc.tmp hi (tw.trans e)).2 (hk _ _ hu)
  ·rcases jp j hj with e|⟨_,e⟩
   ·subst e;exact hi
   ·exact h.lst j e
  ·by_cases e:j=i
   ·subst e;simpa using hf
   ·simp only[hold j e,hold2 j e]
    refine hφ _ _ _ _ _ cM (h.fact j ?_)
    rcases hj with hj|hj
    ·rcases jp j hj with e' | ⟨_,e'⟩
     ·exact absurd e' e
     ·exact .inl e'
    ·exact .inr hj
  ·by_cases e:j=i
   ·subst e;simpa using ah d hd
   ·simp only[hold j e]
    have hj':listed.getD j false=true:=by
     rcases jp j hj with e' | ⟨_,e'⟩
     ·exact absurd e' e
     ·exact e'
    rw[hput d (λe'=>by
     obtain⟨oj,hoj⟩:∃oj,af[j]?=some oj:=⟨_,ya (by have:=h.lst j hj';have:=hc.le;omega)⟩
     cases hj0:dst0 af j with
     | some d2=>
      have h9:=zMB hj0
      rw[hd] at h9;cases h9
      exact hc.own hi (h.lst j hj') e (tw.trans e') hj0
     | none=>
      have h9:=h.closed j oj hj' hoj i (hc.pse hi (h.lst j hj') hoj hj0 hd (tw.trans e'))
      rw[hnl'] at h9;cases h9)]
    exact h.slot j d hj' hd
  ·by_cases e:j=i
   ·subst e;exact xz ..
   ·refine xx _ (AA.2 ⟨?_,by simpa using e⟩)
    have hj':listed.getD j false=true∨(af.length<=j/\j<af.length+nb):=by
     rcases hj with hj|hj
     ·rcases jp j hj with e' | ⟨_,e'⟩
      ·exact absurd e' e
      ·exact .inl e'
     ·exact .inr hj
    refine h3 j (h.live j hj' λi' l' hi' hl'=>hn i' l' ?_ hl') (hn i l ?_ hl)
    ·rw[zBV fy];split
     ·rfl
     ·exact hi'
    ·rw[zBV fy];simp
  ·rw[zBV fy];split
   ·rfl
   ·rcases jp i' hi' with e' | ⟨_,e'⟩
    ·subst e';rw[ho] at pu;cases pu;exact hrd _ he
    ·exact h.closed i' o' e' pu e he
 unfold wpOp
 have h5:af.toArray[i]?=some o:=by simpa using ho
 rw[h5]
 simp only[wpL] at hw
 rw[zKp (λg b e=>hc.guard ho e)] at hw
 simp only[]
 split
 ·rename_i hwt
  rw[if_pos hwt] at hw
  refine .inl (zQ4 (λe a w h=>h.1) hw fin λd w' hq=>?_)
  have h7:=hq.2.1
  cases hd:o.dst <;> rw[hd] at h7 <;> cases h7
 ·rename_i hwt
  rw[if_neg hwt] at hw
  exact fin _ _ hw
theorem zMC{s nb:Nat}{ins:List (List (Nat×Bool))}{iL:List Nat}(hc:AnyOk af n s nb ins iL){φ:List Fact}(hφ:MonoF φ){hsC:List HA}(hk:∀k v,look m k=some v->k∈iL)(xf:Obls P n B af φ imm hsC m 0 ins)
 (mz:∀a w bw val hx live listed,AnyInv n B af s nb ins φ imm hsC m listed a w bw val hx live->(∀j,j<s->listed.getD j false=true)->wpL P af.toArray Q (af.drop s) a w) :
 ∀(hS:Nat) (listed:Array Bool) (a:Act) (w:World),unl af.length listed<=hS->(∃bw val hx live,AnyInv n B af s nb ins φ imm hsC m listed a w bw val hx live)->wpAny P .any af.toArray Q hS listed a w:=by
 intro hS
 have wz:∀(hS:Nat) (listed:Array Bool) (a:Act) (w:World),unl af.length listed<=hS->(∃bw val hx live,AnyInv n B af s nb ins φ imm hsC m listed a w bw val hx live)->(∀j,j<s->listed.getD j false=true)->wpAny P .any af.toArray Q hS listed a w:=by
  rintro hS listed a w hu ⟨bw,val,hx,live,h⟩ hall
  refine zKC hc hS s listed a w (zf _) hc.le ?_ h.lsz (λj d hj=>?_) (mz a w bw val hx live listed h hall)
  ·have cM:((List.range af.length).countP λj=>decide (s<=j))<=unl af.length listed:=by
    refine List.countP_mono_left λj hj hs=>?_
    have hs:s<=j:=by simpa using hs
    have:j<listed.size:=by rw[h.lsz];exact zg.1 hj
    cases hl:listed.getD j true with
    | false=>rfl
    | true=>
     have:=h.lst j (by
      simp only[zo,zz this,zx] at hl ⊢
      exact hl)
     omega
   have rx:∀N,((List.range N).countP λj=>decide (s<=j))=N - s:=by
    intro N
    induction N with
    | zero=>simp
    | succ N ih=>
     rw[List.range_succ,List.countP_append,ih]
     by_cases h:s<=N <;> simp[h] <;> omega
   rw[rx] at cM
   omega
  ·have hjs:j<listed.size:=by rw[h.lsz];exact hj
   rcases z6 j s with h1|h1
   ·have:=hall j h1
    simp only[zo,zz hjs,zx] at this ⊢
    simp[this,h1]
   ·cases hl:listed.getD j d with
    | false=>simp;omega
    | true=>
     have:=h.lst j (by
      simp only[zo,zz hjs,zx] at hl ⊢
      exact hl)
     omega
 induction hS with
 | zero=>
  rintro listed a w hu hI
  refine wz 0 listed a w hu hI λj hj=>?_
  obtain⟨bw,val,hx,live,h⟩:=hI
  have cM:=hc.le
  have h0:unl af.length listed=0:=by omega
  unfold unl at h0
  rw[List.countP_eq_zero] at h0
  have:=h0 j (zg.2 (by omega))
  have hjs:j<listed.size:=by rw[h.lsz];omega
  simp only[zo,zz hjs,zx,Bool.not_eq_true',Bool.not_eq_false] at this ⊢
  simpa using this
 | succ hS ih=>
  rintro listed a w hu hI
  by_cases hall:∀j,j<s->listed.getD j false=true
  ·exact wz _ listed a w hu hI hall
  ·obtain⟨bw,val,hx,live,h⟩:=hI
   have aG:∀i∈Region.ready .any af.toArray listed,i<s:=λi hi=>by
    obtain⟨h4,h5,o,ho,h6⟩:=dA.1 hi
    rcases z6 i s with h7|h7
    ·exact h7
    ·rcases hc.order ho h7 with⟨h8,h9⟩|⟨h8,h9⟩
     ·exact absurd (λj hj=>h6 j (h9 j (by omega))) hall
     ·have hl:=h6 _ h9
      have:=h.lst (i - 1) (by
       have fy:=h.lsz
       have hi:i - 1<listed.size:=by omega
       simp only[zo,zz hi,zx] at hl ⊢
       exact hl)
      omega
   refine⟨λh0=>?_,λi hi=>?_⟩
   ·refine absurd (λj hj=>?_) hall
    have cM:=hc.le
    have fh:∀N j,j<N->j<s->listed.getD j false=true:=by
     intro N
     induction N with
     | zero=>intro j hj;omega
     | succ N ihN=>
      intro j hj hjs
      cases hl:listed.getD j false with
      | true=>rfl
      | false=>
       have hjz:j<listed.size:=by rw[h.lsz];omega
       have:j∈Region.ready .any af.toArray listed:=dA.2 ⟨by omega,by
        simp only[zo,zz hjz,zx] at hl ⊢
        exact hl,af[j],ya (by omega),λe he=>by
         have hej:=hc.edge (ya (by omega)) e he
         exact ihN e (by omega) (by omega)⟩
       rw[h0] at this;cases this
    exact fh (j+1) j (by omega) hj
   ·have hilt:=aG i hi
    obtain⟨h4,h5,_⟩:=dA.1 hi
    refine h.step hc hφ hk xf hilt hi λa' w' am val' cG ew h'=>ih _ a' w' ?_ ⟨am,val',cG,ew,h'⟩
    have:=zP3 (N:=af.length) h.lsz h4 h5
    omega
def finChk(af:List Oper)(s nb:Nat)(ins:List (List (Nat×Bool)))(fin:List (Nat×Bool)):Bool:=
 fin.all (λp=>(Nat.ble af.length p.1&&Nat.blt p.1 (af.length+nb))||Nat.blt p.1 s)&&((fin.filter (·.2)).map (·.1)).Pairwise (· ≠ ·)&&fin.all (λp=>!p.2||ins.all (λl=>!(l.contains (p.1,true))))
theorem zD1{hx:Nat->List HA}:∀(r:List (Nat×Bool)) (X Y:List HA),addH hx r (X++Y)=addH hx r X++Y
 | [],_,_=>rfl
 | (j,true)::r,X,Y=>by simp only[addH];rw[<- yu,zD1 r]
 | (j,false)::r,X,Y=>by simp only[addH];rw[zD1 r]
theorem zKq:∀{m:FM}{k:Nat}{v:Value},look m k=some v->k∈m.map (·.1)
 | [],_,_,h=>by simp[look] at h
 | (k',v')::m,k,v,h=>by
  by_cases e:k'=k
  ·subst e;simp
  ·rw[kH _ _ e] at h
   exact xx _ (zKq h)
theorem zKD{id:Nat}(s:Nat)(ins:List (List (Nat×Bool)))(φ:List Fact)(hsC:List HA)(gs:List (List HA))(fin:List (Nat×Bool))
 (hm:P.follows .mixedOrders=true) (hc:anyChk af n s gs.length ins (m.map (·.1))=true) (hf:finChk af s gs.length ins fin=true) (hhs:∀w,Good B imm hs w->Good B imm (hsC++gs.flatten) w) (hφ:MonoL φ) (hg:BaseG φ imm af.length gs)
 (xf:Obls P n B af φ imm hsC m 0 ins)
 (mz:∀bw,imm.le bw->Ins af φ bw fin m hsC λm' ah=>R P n B af Q s bw ah m'):J P n B (.region id af.toArray true) Q imm hs m:=λa w f g=>by
 have hc:=AnyOk.mk' hc
 unfold finChk at hf
 simp only[xv] at hf
 obtain⟨⟨hf1,hf2⟩,hf3⟩:=hf
 refine wp_region_any hm (zMC (imm:=imm) (m:=m) (φ:=φ) (hsC:=hsC) hc hφ.mono (λk v hk=>?_) xf (λa w bw val hx live listed h hall=>?_) _ _ a _ ?_ ⟨imm,λ_=>undef,λj=>gs.getD (j - af.length) [],(List.range gs.length).map (af.length + ·),?_⟩)
 ·exact zKq hk
 ·have hin:∀p∈fin,(listed.getD p.1 false=true∨(af.length<=p.1/\p.1<af.length+gs.length)):=λp hp=>by
   have:=yb.1 hf1 p hp
   simp only[Am,xv] at this
   rcases this with h1|h1
   ·exact .inr (by simpa using h1)
   ·exact .inl (hall _ (by simpa using h1))
  obtain⟨ew,_,h4⟩:=zEG (hx:=hx) fin live (λp hp ht=>h.live _ (hin p hp) λi l hi hl hm'=>by
   have:=yb.1 hf3 p hp
   rw[ht] at this
   simp only[y0,AN] at this
   have:=yb.1 this l (zj hl)
   simp[hm'] at this) (of_decide_eq_true hf2)
  have hR:=Ins.use (val:=val) (hx:=hx) fin (λp hp=>h.fact _ (hin p hp)) (mz bw h.le)
  refine hR a w ⟨h.defers,h.size,zGR (tm:=λ_=>none) fin (λp hp d hd=>?_) h.base⟩ ?_
  ·rcases hin p hp with h1|⟨h1,_⟩
   ·exact h.slot _ _ h1 hd
   ·unfold dstAt at hd
    rw[Aj h1] at hd
    cases hd
  ·refine(h.good.perm (h4 hsC).symm).sublist ?_
   rw[zD1]
   exact List.sublist_append_left ..
 ·unfold unl
  exact zw List.countP_le_length (by simp)
 ·have e:((List.range gs.length).map (af.length + ·)).flatMap (λj=>gs.getD (j - af.length) [])=gs.flatten:=by
   rw[Ah]
   have:∀(gs:List (List HA)),(List.range gs.length).flatMap (λk=>gs.getD (af.length+k - af.length) [])=gs.flatten:=by
    intro gs
    simp only[Nat.add_sub_cancel_left]
    induction gs with
    | nil=>rfl
    | cons x gs ih=>
     rw[xy,List.range_succ_eq_map,yf,Ah,List.flatten_cons]
     simp only[List.getD_cons_zero,List.getD_cons_succ,ih]
   exact this gs
  have hfalse:∀j,(Array.replicate af.toArray.size false).getD j false=false:=λj=>by
   rw[zo]
   by_cases h:j<af.length <;> simp[h]
  have none':∀j {α:Prop},(Array.replicate af.toArray.size false).getD j false=true->α:=λj _ h=>by rw[hfalse] at h;cases h
  refine⟨Imm.le.refl _,by rw[e];exact(hhs w g).draw _,f.defers,f.size,f.holds,by simp,λj hj=>none' j hj,λj hj=>?_,λj d hj _=>none' j hj,λj hj _=>?_,λi o hi _=>none' i hi⟩
  ·rcases hj with hj|⟨h1,h2⟩
   ·exact none' j hj
   ·have h3:gs[j - af.length]?=some gs[j - af.length]:=ya (by omega)
    have:=hg.at h3
    rw[show af.length+(j - af.length)=j from by omega] at this
    simpa [List.getD,h3] using this
  ·rcases hj with hj|⟨h1,h2⟩
   ·exact none' j hj
   ·exact zi.2 ⟨j - af.length,zg.2 (by omega),by omega⟩
theorem kU{φ:List Fact}{K:FM->List HA->Prop}(h:K m hs):Ins af φ imm [] m hs K:=h
theorem vX{φ:List Fact}{j:Nat}{c:Bool}{r:List (Nat×Bool)}{K:FM->List HA->Prop}(h:∀v hx,(φ.getD j nofact) imm v hx->Ins af φ imm r (match dstAt af j with|some d=>(d,v)::m|none=>m) (match c with|true=>hx++hs|false=>hs) K):Ins af φ imm ((j,c)::r) m hs K:=h
theorem uT{af:List Oper}{pc:Nat}{ah:List HA}(h1:hs=ah)(h:R P n B af Q pc imm ah m):R P n B af Q pc imm hs m:=by subst h1;exact h
theorem zJc{jv:List Oper}{pc:Nat}{φi:Fact}{d:Option Nat}{bw:Imm}{j5:List HA}{v:Value}{hx:List HA}(h0:jv.drop pc=[])(cM:bw.le imm)(hh:hs=hx++j5)(hd:∀d',d=some d'->look m d'=some v)(hφ:φi imm v hx):
 R P n B jv (OutQ n B φi d bw j5) pc imm hs m:=zW h0 λa w f g=>⟨rfl,f.defers,imm,v,hx,cM,hφ,by rw[<- hh];exact g,λd' e=>f.holds _ _ (hd d' e)⟩
theorem zHw{d0:Nat}{v:Value}(h:look m d0=some v):∀d',some d0=some d'->look m d'=some v:=λd' e=>by cases e;exact h
theorem zNz{v:Value}:∀d',(none:Option Nat)=some d'->look m d'=some v:=λd' e=>by cases e
theorem zKr{hs:List HA}{is:List Nat}{r:List HA}(h:pick hs is=some r)(A:HA)(hA:A∈r):A∈hs:=by obtain⟨i,_,h1⟩:=zFM h A hA;exact zj h1
theorem gS(l:List HA)(tl:List HA)(is:List Nat){ah:List HA}(h:pick l is=some ah)(hn:is.Nodup):∀w,Good B imm (l++tl) w->Good B imm (ah++tl) w:=λ_ g=>
 g.sub (λA hA=>by
  rcases yr.1 hA with hA|hA
  ·exact Ad _ (zKr h A hA)
  ·exact A4 _ hA) (by
  have jf:=g.nodup
  rw[zu] at jf ⊢
  obtain⟨n1,n2,n3⟩:=zn.1 jf
  refine zn.2 ⟨zEc n1 h hn,n2,λx hx y hy=>n3 x ?_ y hy⟩
  obtain⟨A,hA,hxA⟩:=zd.1 hx
  exact zd.2 ⟨A,zKr h A hA,hxA⟩)
end
def u8(x:Int):UInt8:=UInt8.ofNat (IntKind.u8.wrap x).toNat
theorem zOA(x:Int):((u8 x).toNat:Int)=IntKind.u8.wrap x:=by
 have h:IntKind.u8.wrap x=x % 256:=rfl;unfold u8;rw[h];have h1:0<=x % 256:=Int.emod_nonneg _ (by decide);have h2:x % 256<256:=Int.emod_lt_of_pos _ (by decide);simp only[UInt8.toNat_ofNat'];omega
section
variable {P:Program}{n:Nat}{B:Base}{Q:Exit->Act->World->Prop}{imm:Imm}{hs:List HA}{m:FM}{af:List Oper}{pc d:Nat}
theorem zRD{o:Oper}{i:Int}(ho:af[pc]?=some o)(h:run1 P n af m o=some ((d,.int .u8 (IntKind.u8.wrap i))::m))(next:R P n B af Q (pc+1) imm hs ((d,.int .u8 ((u8 i).toNat:Int))::m)):R P n B af Q pc imm hs m:=
 zLu ho h (by rw[zOA] at next;exact next)
def isBytesT(P:Program)(t:TypeId):Bool:=match P.underlying t with|some (.slice e)=>(match P.underlying e with|some (.int .u8)=>true|_=>false)|_=>false
def isStrT(P:Program)(t:TypeId):Bool:=match P.underlying t with|some .string=>true|_=>false
theorem zJd{i:Imm}:∀{l:List UInt8}{cs:List Value},RepL (Rp.rep i) (Rp.sz UInt8) cs l->cs=(l.map λb=>(b.toNat:Int)).map (Value.int .u8)
 | [],_,h=>by simpa [RepL] using h
 | b::l,_,⟨c1,c2,h1,_,h3,h4⟩=>by
  have h3:c1=[.int .u8 (b.toNat:Int)]:=h3
  rw[h1,h3,zJd h4];rfl
theorem zHx:∀(l:List UInt8) (r:ByteArray),(l.map (λb=>(b.toNat:Int))).foldl (λr n=>r.push (UInt8.ofNat n.toNat)) r=⟨r.data++l.toArray⟩
 | [],r=>by simp
 | b::l,r=>by
  rw[zl,List.foldl_cons,zHx l]
  simp[ByteArray.push]
theorem zHd{src dst:TypeId}{x:Operand}{ty:TypeId}{pos:String}{after:Array Edge}{g:Option (Nat×Bool)}{v:Value}{cs:List Value}{l:List UInt8}
 (ho:af[pc]?=some ⟨some d,.convert src dst x,ty,pos,after,g⟩) (hg:guardB af m g=some true) (hn:Nat.blt d n=true) (hx:val m x=some v) (h1:isBytesT P src=true) (h2:isStrT P dst=true)
 (s:Src imm hs v (Rp.sz UInt8) cs) (hr:RepL (Rp.rep imm) (Rp.sz UInt8) cs l) (next:R P n B af Q (pc+1) imm hs ((d,.string ⟨⟨l⟩⟩)::m)):R P n B af Q pc imm hs m:=by
 refine fC ho hg rfl hn λa w f gd=>?_
 refine⟨_,w,imm,hs,?_,gd,next⟩
 unfold isBytesT at h1
 split at h1
 ·rename_i e he
  split at h1
  ·rename_i he2
   unfold isStrT at h2
   split at h2
   ·rename_i hd
    have aP:=hr.length
    have gy:=zJd hr
    rcases s.read gd with⟨rfl,rfl⟩|⟨b,off,len,bi,c,nk,fr,rfl,hw,cM,qh,cQ⟩
    ·have:l=[]:=by
      have h1:Rp.sz UInt8=1:=rfl
      cases l with
      | nil=>rfl
      | cons _ _=>rw[h1] at aP;simp at aP
     subst this
     simp only[execOp,f.eval hx,Sem.run_bind,run_convert_bytes_string w src dst e none 0 0 he he2 hd,Conv.bytesToString,Sem.run_pure,Result.andThen_ok]
     rfl
    ·have fy:Rp.sz UInt8=1:=rfl
     rw[fy,Nat.mul_one] at cM qh cQ
     have hl:=zCC (P:=P) (n:=len) hw cM
     have hcc':c.extract off (off+len)=((l.map λb=>(b.toNat:Int)).map (Value.int .u8)).toArray:=by
      apply Array.ext'
      rw[<- gy,<- cQ]
      simp[A9,Al]
     rw[hcc'] at hl
     simp only[execOp,f.eval hx,Sem.run_bind,run_convert_bytes_string w src dst e _ len bi he he2 hd,run_bytesToString w _ len bi _ hl,zHx,Result.andThen_ok,Sem.run_pure]
     simp[ByteArray.empty,ByteArray.emptyWithCapacity]
     rfl
   ·cases h2
  ·cases h1
 ·cases h1
theorem jA{α:Type}[Rp α]{t:TypeId}{x z:Operand}{ty:TypeId}{pos:String}{after:Array Edge}{g:Option (Nat×Bool)}{v0:Value}{i:Int}{ad:Addr}{cs cc c:List Value}{v:Value}{l:List α}{y x':α}(j o:Nat)
 (ho:af[pc]?=some ⟨none,.store t x z,ty,pos,after,g⟩) (hg:guardB af m g=some true) (hj:hs[j]?=some (.osl v0 (Rp.sz α) cs)) (av:AtO v0 (Rp.sz α) i.toNat ad) (hx:val m x=some (.pointer (some (ad.add o)))) (hz:val m z=some v)
 (cQ:(cs.drop (i.toNat*Rp.sz α)).take (Rp.sz α)=cc) (fy:sizeT P t=some v.cells.size) (gp:Nat.ble (o+v.cells.size) (Rp.sz α)=true) (j6:v.cells.toList.all Value.oneCell'=true)
 (hr:RepL (Rp.rep imm) (Rp.sz α) cs l) (hy:idx l i=some y) (hc:cc.take o++v.cells.toList++cc.drop (o+v.cells.size)=c) (cG:Rp.rep imm c x')
 (next:∀et,RepL (Rp.rep imm) (Rp.sz α) et (l.set i.toNat x')->(l.set i.toNat x').length=l.length->R P n B af Q (pc+1) imm (hs.set j (.osl v0 (Rp.sz α) et)) m):R P n B af Q pc imm hs m:=by
 refine zKl j o ho hg hj av hx hz fy gp j6 rfl ?_
 obtain⟨h0,h1,h2⟩:=rG hy
 have aG:=(yi.1 h2).1
 refine next _ ?_ (by simp)
 obtain⟨_,u3⟩:=hr.at h2
 have hol':=za gp
 have:=hr.set (i:=i.toNat) (a:=x') (c:=c) aG (Rp.len cG) cG
 rw[<- hc,<- cQ] at this
 have e:cs.take (i.toNat*Rp.sz α)++(((cs.drop (i.toNat*Rp.sz α)).take (Rp.sz α)).take o++v.cells.toList++((cs.drop (i.toNat*Rp.sz α)).take (Rp.sz α)).drop (o+v.cells.size))++cs.drop (i.toNat*Rp.sz α+Rp.sz α) =
  cs.take (i.toNat*Rp.sz α+o)++v.cells.toList++cs.drop (i.toNat*Rp.sz α+o+v.cells.size):=by
  generalize i.toNat*Rp.sz α=p at *
  have oc:v.cells.toList.length=v.cells.size:=Aq
  apply Bk
  intro q
  simp only[Ax,AS,List.getElem?_append,yc,yl,yt,oc]
  grind
 rw[e] at this
 exact this
theorem zKE{ah:List HA}{m':FM}(h1:hs=ah)(h2:m=m')(h:R P n B af Q pc imm ah m'):R P n B af Q pc imm hs m:=by subst h1;subst h2;exact h
theorem zQ5{α:Type}[Rp α](X:Nat->Prop){t t2:TypeId}{x1 x2:Operand}{ty:TypeId}{pos:String}{after:Array Edge}{g:Option (Nat×Bool)}{v vx:Value}{cs aR:List Value}{l l2 y:List α}{e nr zs:Nat}(j:Nat)
 (ho:af[pc]?=some ⟨some d,.call { callee:=.builtin .append,args:=#[x1,x2],argTypes:=#[t,t2] },ty,pos,after,g⟩) (hg:guardB af m g=some true) (hn:Nat.blt d n=true)
 (hx:val m x1=some v) (hy:val m x2=some vx) (ht:appT P t=some (e,Rp.sz α,nr,zs)) (ht2:appT P t2=some (e,Rp.sz α,nr,zs)) (hj:hs[j]?=some (.osl v (Rp.sz α) cs)) (hr:RepL (Rp.rep imm) (Rp.sz α) cs l)
 (r5:∀b∈(HA.osl v (Rp.sz α) cs).fp,X b∨B.w0.heap.size<=b)
 (s:Src imm hs vx (Rp.sz α) aR) (lh:RepL (Rp.rep imm) (Rp.sz α) aR l2) (hb:app nr l l2=some y)
 (next:∀a' c' et,(∀b∈(HA.osl (.slice a' y.length c') (Rp.sz α) et).fp,X b∨B.w0.heap.size<=b)->RepL (Rp.rep imm) (Rp.sz α) et y->R P n B af Q (pc+1) imm (hs.set j (.osl (.slice a' y.length c') (Rp.sz α) et)) ((d,.slice a' y.length c')::m)):R P n B af Q pc imm hs m:=by
 obtain⟨h1,rfl⟩:=zCO hb
 refine zNs j ho hg hn hx hy ht ht2 hj hr s lh h1 ?_
 intro v' et ah h2 h3 h4
 subst h4
 have hjl:=(yi.1 hj).1
 refine zEa j (v:=v') (cs:=et) (by simp[hjl]) h3 λa' c' hv=>?_
 subst hv
 exact next a' c' et (λb hb=>(h2 b hb).elim (r5 b) .inr) h3
end
def blkAt(hs:List HA)(j:Nat):Nat:=match hs[j]? with|some (.blk b _)=>b|_=>0
def load1(P:Program)(n:Nat)(af:List Oper)(hs:List HA)(j:Nat)(m:FM)(o:Oper):Option (FM×Nat):=
 match o.dst,guardB af m o.guard,o.op with
 | some d,some true,.load t x=>
  match hs[j]?,val m x,sizeT P t with
  | some (.blk _ c),some (.pointer (some ⟨pb,off,none⟩)),some s=>
   match Nat.blt d n&&Nat.ble (off+((c.toList.drop off).take s).length) c.size,loadV P t ((c.toList.drop off).take s) with
   | true,some v=>some ((d,v)::m,pb)
   | _,_=>none
  | _,_,_=>none
 | _,_,_=>none
def isLoad(o:Oper):Bool:=match o.op with|.load _ _=>true|_=>false
def runX(P:Program)(n:Nat)(af:List Oper)(hs:List HA):List Oper->List Nat->FM->Option (FM×List Nat)
 | [],[],m=>some (m,[])
 | [],_::_,_=>none
 | o::l,js,m=>match isLoad o&&(guardB af m o.guard==some true),js with
  | true,j::js'=>match load1 P n af hs j m o with
   | some (m',b)=>match runX P n af hs l js' m' with
    | some (m'',bs)=>some (m'',b::bs)
    | none=>none
   | none=>none
  | true,[]=>none
  | false,_=>match run1 P n af m o with
   | some m'=>runX P n af hs l js m'
   | none=>none
def memN(k:Nat):List Nat->Bool
 | []=>false
 | x::l=>bif Nat.beq x k then true else memN k l
def freshB(m:FM)(ks:List Nat):List Oper->Bool
 | []=>true
 | o::l=>(match o.dst with|some d=>(memN d ks||(match look m d with|none=>true|some _=>false))|none=>true)&&freshB m ks l
def runD(P:Program)(n:Nat)(af:List Oper)(hs:List HA)(pc k:Nat)(js ks:List Nat)(m:FM):Option (FM×List Nat):=
 match freshB m ks ((af.drop pc).take k),runX P n af hs ((af.drop pc).take k) js m with
 | true,some (m1,bs)=>match keep m1 ks with|some m2=>some (m2,bs)|none=>none
 | _,_=>none
theorem zJe{P:Program}{n:Nat}{af:List Oper}{m m':FM}{o:Oper}(h:run1 P n af m o=some m'):∃d v,o.dst=some d/\m'=(d,v)::m:=by
 unfold run1 at h;split at h
 ·cases h
 ·rename_i d hd;cases hn:Nat.blt d n with
  | false=>rw[hn] at h;cases h
  | true=>
   rw[hn] at h;simp only[cond_true] at h;split at h
   ·split at h
    ·cases h;exact⟨_,_,hd,rfl⟩
    ·cases h
   ·cases h;exact⟨_,_,hd,rfl⟩
   ·cases h
theorem zHy{P:Program}{n:Nat}{af:List Oper}{hs:List HA}{j b:Nat}{m m':FM}{o:Oper}(h:load1 P n af hs j m o=some (m',b)):∃d v,o.dst=some d/\m'=(d,v)::m:=by
 unfold load1 at h;split at h
 ·rename_i d t x hd _ _;split at h
  ·split at h
   ·cases h;exact⟨_,_,hd,rfl⟩
   ·cases h
  ·cases h
 ·cases h
theorem zGS{P:Program}{n:Nat}{af:List Oper}{hs:List HA}{ks:List Nat}{m0:FM}:∀{l:List Oper}{js:List Nat}{m m1:FM}{bs:List Nat},runX P n af hs l js m=some (m1,bs)->freshB m0 ks l=true ->
 (∀k v,memN k ks=false->look m0 k=some v->look m k=some v)->∀k v,memN k ks=false->look m0 k=some v->look m1 k=some v
 | [],js,m,m1,bs,h,_,hm=>by
  cases js with
  | nil=>simp only[runX] at h;cases h;exact hm
  | cons j js=>simp only[runX] at h;cases h
 | o::l,js,m,m1,bs,h,hf,hm=>by
  simp only[freshB,xv] at hf
  have fh:∀{m':FM},(∃d v,o.dst=some d/\m'=(d,v)::m)->∀k v,memN k ks=false->look m0 k=some v->look m' k=some v:=by
   rintro m' ⟨d,v',hd,rfl⟩ k v hk h0
   rw[hd] at hf
   simp only[Am] at hf
   have cT:d ≠ k:=by
    rintro rfl
    rcases hf.1 with h1|h1
    ·rw[h1] at hk;cases hk
    ·rw[h0] at h1;cases h1
   rw[kH _ _ cT]
   exact hm k v hk h0
  simp only[runX] at h
  split at h
  ·split at h
   ·rename_i m' b hl
    split at h
    ·rename_i m'' bs' hr
     cases h
     exact zGS hr hf.2 (fh (zHy hl))
    ·cases h
   ·cases h
  ·cases h
  ·split at h
   ·rename_i m' hl
    exact zGS h hf.2 (fh (zJe hl))
   ·cases h
theorem zJf{m:FM}:∀{ks:List Nat}{m':FM},keep m ks=some m'->(∀k v,look m' k=some v->look m k=some v)/\∀k,look m' k=none->memN k ks=false
 | [],m',h=>by simp only[keep] at h;cases h;exact⟨λk v e=>by simp[look] at e,λ_ _=>rfl⟩
 | k0::ks,m',h=>by
  simp only[keep] at h
  split at h
  ·rename_i v0 m1 h1 h2
   cases h
   obtain⟨i1,i2⟩:=zJf h2
   refine⟨λk v e=>?_,λk e=>?_⟩
   ·by_cases hk:k0=k
    ·subst hk;rw[gJ] at e;cases e;exact h1
    ·rw[kH _ _ hk] at e;exact i1 k v e
   ·by_cases hk:k0=k
    ·subst hk;rw[gJ] at e;cases e
    ·rw[kH _ _ hk] at e
     have:Nat.beq k0 k=false:=by
      cases hb:Nat.beq k0 k with
      | false=>rfl
      | true=>exact absurd (zm hb) hk
     simp only[memN,this,cond_false]
     exact i2 k e
  ·cases h
theorem zHH:∀{a m:FM}{k:Nat},look (a++m) k=match look a k with|some v=>some v|none=>look m k
 | [],m,k=>by simp[look]
 | (k0,v0)::a,m,k=>by
  by_cases e:k0=k
  ·subst e;simp[gJ]
  ·rw[ze,kH _ _ e,kH _ _ e,zHH]
section
variable {P:Program}{n:Nat}{B:Base}{Q:Exit->Act->World->Prop}{imm:Imm}{hs:List HA}{m:FM}{af:List Oper}{pc:Nat}
theorem zP4{m':FM}(h':∀a,Fr n a m->Fr n a m')(h:R P n B af Q pc imm hs m'):R P n B af Q pc imm hs m:=λa w f g=>h a w (h' a f) g
theorem zMd{m':FM}(h':∀a,Fr n a m->Fr n a m')(h:Rq P n B af Q pc imm hs m'):Rq P n B af Q pc imm hs m:=λa w f g=>h a w (h' a f) g
theorem zHz{m0 m1 eb:FM}{ks:List Nat}(hk:keep m1 ks=some eb)(hl:∀k v,memN k ks=false->look m0 k=some v->look m1 k=some v)(a:Act)(f:Fr n a m1):Fr n a (eb++m0):=
 ⟨f.defers,f.size,λk v e=>by
  obtain⟨i1,i2⟩:=zJf hk
  rw[zHH] at e
  cases hn:look eb k with
  | some u=>rw[hn] at e;simp only at e;cases e;exact f.holds _ _ (i1 _ _ hn)
  | none=>rw[hn] at e;exact f.holds _ _ (hl _ _ (i2 _ hn) e)⟩
theorem zGT{j b:Nat}{m':FM}{o:Oper}(h:load1 P n af hs j m o=some (m',b)):
 ∃d t x ty pos after g pb off c cs v,o=⟨some d,.load t x,ty,pos,after,g⟩/\m'=(d,v)::m/\b=pb/\guardB af m g=some true/\Nat.blt d n=true/\hs[j]?=some (.blk (blkAt hs j) c)/\val m x=some (.pointer (some ⟨pb,off,none⟩)) /\
  Nat.ble (off+cs.length) c.size=true/\(c.toList.drop off).take cs.length=cs/\loadV P t cs=some v:=by
 unfold load1 at h
 split at h
 ·rename_i d t x hd hg ho
  split at h
  ·rename_i b' c pb off s hj hx ah
   split at h
   ·rename_i v hb hv
    cases h
    rw[xv] at hb
    obtain⟨od,oo,oty,opos,oaft,og⟩:=o
    simp only at hd hg ho
    subst hd;subst ho
    refine⟨d,t,x,oty,opos,oaft,og,b,off,c,_,v,rfl,rfl,rfl,hg,hb.1,?_,hx,hb.2,?_,hv⟩
    ·simp only[blkAt,hj]
    ·rw[yl,<- AG,z7]
   ·cases h
  ·cases h
 ·cases h
theorem zIA:∀(l:List Oper) {pc:Nat}{js:List Nat}{m m':FM}{bs:List Nat},(∃r,af.drop pc=l++r)->runX P n af hs l js m=some (m',bs)->bs=js.map (blkAt hs)->R P n B af Q (pc+l.length) imm hs m'->R P n B af Q pc imm hs m
 | [],pc,js,m,m',bs,_,h,hb,hR=>by
  cases js with
  | nil=>simp only[runX] at h;cases h;exact hR
  | cons j js=>simp only[runX] at h;cases h
 | o::l,pc,js,m,m',bs,⟨r,hr⟩,h,hb,hR=>by
  have ho:af[pc]?=some o:=by
   have h0:(af.drop pc)[0]?=some o:=by rw[hr];rfl
   simpa using h0
  have hr':∃r,af.drop (pc+1)=l++r:=⟨r,by rw[<- zr,hr];rfl⟩
  have hR':R P n B af Q (pc+1+l.length) imm hs m':=by
   have:pc+1+l.length=pc+(o::l).length:=by simp;omega
   rw[this];exact hR
  simp only[runX] at h
  split at h
  ·rename_i j js' _
   split at h
   ·rename_i m1 b hl
    split at h
    ·rename_i m2 bs' hx
     cases h
     rw[zl,List.cons.injEq] at hb
     obtain⟨d,t,x,ty,pos,after,g,pb,off,c,cs,v,rfl,rfl,rfl,hg,hn,hj,hv,cM,hc,vc⟩:=zGT hl
     rw[hb.1] at hv
     exact zLv j ho hg hn hj hv cM hc vc (zIA l hr' hx hb.2 hR')
    ·cases h
   ·cases h
  ·cases h
  ·split at h
   ·rename_i m1 hl
    exact zLu ho hl (zIA l hr' h hb hR')
   ·cases h
theorem zHe:∀(l:List Oper) {pc:Nat}{js:List Nat}{m m':FM}{bs:List Nat},(∃r,af.drop pc=l++r)->runX P n af hs l js m=some (m',bs)->bs=js.map (blkAt hs)->Rq P n B af Q (pc+l.length) imm hs m'->Rq P n B af Q pc imm hs m
 | [],pc,js,m,m',bs,_,h,hb,hR=>by
  cases js with
  | nil=>simp only[runX] at h;cases h;exact hR
  | cons j js=>simp only[runX] at h;cases h
 | o::l,pc,js,m,m',bs,⟨r,hr⟩,h,hb,hR=>by
  have ho:af[pc]?=some o:=by
   have h0:(af.drop pc)[0]?=some o:=by rw[hr];rfl
   simpa using h0
  have hr':∃r,af.drop (pc+1)=l++r:=⟨r,by rw[<- zr,hr];rfl⟩
  have hR':Rq P n B af Q (pc+1+l.length) imm hs m':=by
   have:pc+1+l.length=pc+(o::l).length:=by simp;omega
   rw[this];exact hR
  simp only[runX] at h
  split at h
  ·rename_i j js' _
   split at h
   ·rename_i m1 b hl
    split at h
    ·rename_i m2 bs' hx
     cases h
     rw[zl,List.cons.injEq] at hb
     obtain⟨d,t,x,ty,pos,after,g,pb,off,c,cs,v,rfl,rfl,rfl,hg,hn,hj,hv,cM,hc,vc⟩:=zGT hl
     rw[hb.1] at hv
     exact zKn j ho hg hn hj hv cM hc vc (zHe l hr' hx hb.2 hR')
    ·cases h
   ·cases h
  ·cases h
  ·split at h
   ·rename_i m1 hl
    exact zP2 ho hl (zHe l hr' h hb hR')
   ·cases h
theorem zFN{pc k:Nat}{js ks:List Nat}{eb:FM}{bs:List Nat}(h:runD P n af hs pc k js ks m=some (eb,bs)):
 ∃m1,runX P n af hs ((af.drop pc).take k) js m=some (m1,bs)/\∀a,Fr n a m1->Fr n a (eb++m):=by
 unfold runD at h
 split at h
 ·rename_i m1 bs' hf hx
  split at h
  ·rename_i m2 hk
   cases h
   exact⟨m1,hx,λa f=>zHz hk (zGS hx hf (λ_ _ _ h=>h)) a f⟩
  ·cases h
 ·cases h
theorem qO(iV:Nat)(js:List Nat)(eb:FM)(hR:R P n B af Q iV imm hs (eb++m))(h:runD P n af hs pc (iV - pc) js (eb.map (·.1)) m=some (eb,js.map (blkAt hs)):=by kernel_rfl)
 (hl:Nat.beq (pc+((af.drop pc).take (iV - pc)).length) iV=true:=by kernel_rfl):R P n B af Q pc imm hs m:=by
 obtain⟨m1,h1,h2⟩:=zFN h
 refine zIA _ ⟨(af.drop pc).drop (iV - pc),(List.take_append_drop ..).symm⟩ h1 rfl (zP4 h2 ?_)
 rw[zm hl];exact hR
theorem zRP(iV:Nat)(js:List Nat)(eb:FM)(hR:Rq P n B af Q iV imm hs (eb++m))(h:runD P n af hs pc (iV - pc) js (eb.map (·.1)) m=some (eb,js.map (blkAt hs)):=by kernel_rfl)
 (hl:Nat.beq (pc+((af.drop pc).take (iV - pc)).length) iV=true:=by kernel_rfl):Rq P n B af Q pc imm hs m:=by
 obtain⟨m1,h1,h2⟩:=zFN h
 refine zHe _ ⟨(af.drop pc).drop (iV - pc),(List.take_append_drop ..).symm⟩ h1 rfl (zMd h2 ?_)
 rw[zm hl];exact hR
theorem wP(js:List Nat)(eb:FM)(hR:T n B Q .normal imm hs (eb++m))(h:runD P n af hs pc af.length js (eb.map (·.1)) m=some (eb,js.map (blkAt hs)):=by kernel_rfl):R P n B af Q pc imm hs m:=by
 obtain⟨m1,h1,h2⟩:=zFN h;have e:(af.drop pc).take af.length=af.drop pc:=zb (by rw[yt];omega);rw[e] at h1;exact zIA _ ⟨[],by simp⟩ h1 rfl (zP4 h2 (zW (yw.2 (by rw[yt];omega)) hR))
theorem zMD(js:List Nat)(eb:FM)(hR:T n B Q .normal imm hs (eb++m))(h:runD P n af hs pc af.length js (eb.map (·.1)) m=some (eb,js.map (blkAt hs)):=by kernel_rfl):Rq P n B af Q pc imm hs m:=by
 obtain⟨m1,h1,h2⟩:=zFN h;have e:(af.drop pc).take af.length=af.drop pc:=zb (by rw[yt];omega);rw[e] at h1;exact zHe _ ⟨[],by simp⟩ h1 rfl (zMd h2 (zQZ (yw.2 (by rw[yt];omega)) hR))
end
abbrev RL{α:Type}[Rp α](imm:Imm)(cs:List Value)(l:List α):Prop:=RepL (Rp.rep imm) (Rp.sz α) cs l
class MonoI (p:Imm->Prop):Prop where
 mono:∀i j,i.le j->p i->p j
instance zHI{q:Prop}:MonoI (λ_=>q):=⟨λ_ _ _ h=>h⟩
instance zJg{p q:Imm->Prop}[hp:MonoI p][hq:MonoI q]:MonoI (λi=>p i/\q i):=⟨λi j hl h=>⟨hp.mono i j hl h.1,hq.mono i j hl h.2⟩⟩
instance zKs{α:Type}{p:Imm->α->Prop}[hp:∀x,MonoI (λi=>p i x)]:MonoI (λi=>∃x,p i x):=⟨λi j hl ⟨x,h⟩=>⟨x,(hp x).mono i j hl h⟩⟩
instance zOB{α:Type}[Rp α]{v:Value}{l:List α}:MonoI (λi=>SL i v l):=⟨λ_ _ hl h=>h.mono hl⟩
instance zOC{ad:Addr}{cs:List Value}:MonoI (λi=>At i ad cs):=⟨λ_ _ hl h=>h.mono hl⟩
instance zOD{α:Type}[Rp α]{cs:List Value}{l:List α}:MonoI (λi=>RepL (Rp.rep i) (Rp.sz α) cs l):=⟨λ_ _ hl h=>RepL.mono (λ_ _=>Rp.mono hl) h⟩
instance zNT{α:Type}[Rp α]{cs:List Value}{a:α}:MonoI (λi=>Rp.rep i cs a):=⟨λ_ _ hl h=>Rp.mono hl h⟩
def FP{α:Type}[Rp α](imm:Imm)(v:Value)(o:Option α):Prop:=match o with
 | none=>v=.pointer none
 | some x=>∃ad cs,v=.pointer (some ad)/\At imm ad cs/\Rp.rep imm cs x
theorem FP.mono{α:Type}[Rp α]{imm am:Imm}{v:Value}{o:Option α}(h:FP imm v o)(hl:imm.le am):FP am v o:=by
 cases o with
 | none=>exact h
 | some x=>
  obtain⟨ad,cs,e,h1,h2⟩:=h;exact⟨ad,cs,e,h1.mono hl,Rp.mono hl h2⟩
instance zOE{α:Type}[Rp α]{v:Value}{o:Option α}:MonoI (λi=>FP i v o):=⟨λ_ _ hl h=>h.mono hl⟩
inductive It where
 | p (v:Value) (js:List Nat)
 | q (v:Value)
 | x (f:Fact)
def It.fact:It->Fact
 | .p v _=>λ_ u hx=>u=v/\hx=[]
 | .q v=>λ_ u hx=>u=v/\hx=[]
 | .x f=>f
def gfact(g:List HA):Fact:=λ_ _ hx=>hx=g
def factsOf(N:Nat)(its:List It)(gs:List (List HA)):List Fact:=its.map It.fact++(List.replicate (N - its.length) nofact++gs.map gfact)
def insM(af:List Oper)(its:List It):List (Nat×Bool)->FM->Option FM
 | [],m=>some m
 | (j,c)::r,m=>match its[j]?,c,dstAt af j with
  | some (.p v _),false,some d=>insM af its r ((d,v)::m)
  | some (.q v),false,some d=>insM af its r ((d,v)::m)
  | _,_,_=>none
def autoL(P:Program)(n:Nat)(af:List Oper)(hsC:List HA)(m:FM)(its:List It):Nat->List It->List (List (Nat×Bool))->Option (List Value×List Nat)
 | _,[],[]=>some ([],[])
 | i,.x _::r,_::ins=>autoL P n af hsC m its (i+1) r ins
 | i,.q _::r,_::ins=>autoL P n af hsC m its (i+1) r ins
 | i,.p _ js::r,l::ins=>match af[i]?,insM af its l m,autoL P n af hsC m its (i+1) r ins with
  | some o,some m',some (vs,bs)=>match runX P n (af.take (i+1)) hsC [o] js m' with
   | some ((_,v)::_,bs')=>some (v::vs,bs'++bs)
   | _=>none
  | _,_,_=>none
 | _,_,_=>none
def valsOf:List It->List Value
 | []=>[]
 | .p v _::r=>v::valsOf r
 | .x _::r=>valsOf r
 | .q _::r=>valsOf r
def blksOf(hs:List HA):List It->List Nat
 | []=>[]
 | .p _ js::r=>js.map (blkAt hs)++blksOf hs r
 | .x _::r=>blksOf hs r
 | .q _::r=>blksOf hs r
def ObX(P:Program)(n:Nat)(B:Base)(af:List Oper)(φ:List Fact)(imm:Imm)(hsC:List HA)(m:FM):Nat->List It->List (List (Nat×Bool))->Prop
 | _,[],[]=>True
 | i,.p _ _::r,_::ins=>ObX P n B af φ imm hsC m (i+1) r ins
 | i,.q _::r,l::ins=>Obl P n B af φ imm hsC m i l/\ObX P n B af φ imm hsC m (i+1) r ins
 | i,.x f::r,l::ins=>(∀v hx,MonoI (λi=>f i v hx))/\Obl P n B af φ imm hsC m i l/\ObX P n B af φ imm hsC m (i+1) r ins
 | _,_,_=>False
section
variable {P:Program}{n:Nat}{B:Base}{Q:Exit->Act->World->Prop}{imm:Imm}{hs:List HA}{m:FM}{af:List Oper}
theorem Op{φ:List Fact}{hsC:List HA}{i:Nat}{v:Value}{js:List Nat}{r:List It}{l:List (Nat×Bool)}{ins:List (List (Nat×Bool))}(h:ObX P n B af φ imm hsC m (i+1) r ins):ObX P n B af φ imm hsC m i (.p v js::r) (l::ins):=h
theorem Ox{φ:List Fact}{hsC:List HA}{i:Nat}{f:Fact}{r:List It}{l:List (Nat×Bool)}{ins:List (List (Nat×Bool))}
 (ho:∀bw hf,imm.le bw->Ins af φ bw l m (hsC++hf) λm' ah=>R P n B (af.take (i+1)) (OutQ n B (φ.getD i nofact) (dstAt af i) bw (hsC++hf)) i bw ah m')
 (h:ObX P n B af φ imm hsC m (i+1) r ins) (hm:∀v hx,MonoI (λi=>f i v hx):=by
  intro v hx
  repeat' (first|exact zHI|exact zOE|exact zOB|exact zOC|exact zOD|exact zNT|refine @zKs _ _ (λ_=>?_)|refine @zJg _ _ ?_ ?_)):ObX P n B af φ imm hsC m i (.x f::r) (l::ins):=⟨hm,λbw hf hl _=>ho bw hf hl,h⟩
theorem Oq{φ:List Fact}{hsC:List HA}{i:Nat}{v:Value}{r:List It}{l:List (Nat×Bool)}{ins:List (List (Nat×Bool))}
 (ho:∀bw hf,imm.le bw->Ins af φ bw l m (hsC++hf) λm' ah=>R P n B (af.take (i+1)) (OutQ n B (φ.getD i nofact) (dstAt af i) bw (hsC++hf)) i bw ah m')
 (h:ObX P n B af φ imm hsC m (i+1) r ins):ObX P n B af φ imm hsC m i (.q v::r) (l::ins):=⟨λbw hf hl _=>ho bw hf hl,h⟩
theorem Bor.at{φ:List Fact}{l:List (Nat×Bool)}{hf:List HA}{j:Nat}(h:Bor af φ imm l hf)(hj:(j,false)∈l)(hN:Nat.ble af.length j=true){g:List HA}(hg:φ.getD j nofact=gfact g):∃hf',hf.Perm (g++hf'):=by
 obtain⟨v,hx,hf',h1,h2⟩:=h _ hj rfl (za hN);rw[hg] at h1;have h1:hx=g:=h1;subst h1;exact⟨hf',h2⟩
theorem On{φ:List Fact}{hsC:List HA}{i:Nat}:ObX P n B af φ imm hsC m i [] []:=trivial
theorem zME{hsC hf:List HA}{af:List Oper}{j:Nat}{o:Oper}{r:FM×Nat}(h:load1 P n af hsC j m o=some r):load1 P n af (hsC++hf) j m o=some r/\blkAt (hsC++hf) j=blkAt hsC j:=by
 obtain⟨m',b⟩:=r;obtain⟨d,t,x,ty,pos,after,g,pb,off,c,cs,v,rfl,rfl,rfl,hg,hn,hj,hv,cM,hc,vc⟩:=zGT h;have aG:=(yi.1 hj).1;have e:(hsC++hf)[j]?=hsC[j]?:=Bh aG;refine⟨?_,by simp only[blkAt,e]⟩;unfold load1 at h ⊢;simp only[e];exact h
theorem zGU{hsC hf:List HA}{af:List Oper}:∀{l:List Oper}{js:List Nat}{m:FM}{r:FM×List Nat},runX P n af hsC l js m=some r->runX P n af (hsC++hf) l js m=some r/\js.map (blkAt (hsC++hf))=js.map (blkAt hsC)
 | [],js,m,r,h=>by
  cases js with
  | nil=>exact⟨h,rfl⟩
  | cons j js=>simp only[runX] at h;cases h
 | o::l,js,m,r,h=>by
  simp only[runX] at h ⊢
  split at h
  ·rename_i j js' hc
   split at h
   ·rename_i m1 b hl
    split at h
    ·rename_i m2 bs hx
     cases h
     obtain⟨k1,k2⟩:=zME (hf:=hf) hl
     obtain⟨k3,k4⟩:=zGU (hf:=hf) hx
     rw[k1]
     simp only[k3]
     exact⟨by trivial,by rw[zl,zl,k2,k4]⟩
    ·cases h
   ·cases h
  ·cases h
  ·rename_i hc
   split at h
   ·rename_i m1 hl
    exact zGU h
   ·cases h
theorem zFO{φ:List Fact}{its:List It}(hφ:∀j it,its[j]?=some it->φ.getD j nofact=it.fact){K:FM->List HA->Prop}:∀{l:List (Nat×Bool)}{m m':FM},insM af its l m=some m'->K m' hs->Ins af φ imm l m hs K
 | [],m,m',h,hk=>by simp only[insM] at h;cases h;exact hk
 | (j,c)::r,m,m',h,hk=>by
  simp only[insM] at h
  split at h
  ·rename_i v js d hit hd
   intro u hx hu
   rw[hφ _ _ hit] at hu
   obtain⟨rfl,rfl⟩:=hu
   simp only[hd]
   exact zFO hφ h hk
  ·rename_i v d hit hd
   intro u hx hu
   rw[hφ _ _ hit] at hu
   obtain⟨rfl,rfl⟩:=hu
   simp only[hd]
   exact zFO hφ h hk
  ·cases h
theorem zNU{d:Nat}{v:Value}:look ((d,v)::m) d=some v:=gJ ..
theorem zKt{af:List Oper}{hsC:List HA}{js bs:List Nat}{r:FM}(hr:runX P n af hsC [] js m=some (r,bs)):r=m:=by
 cases js with
 | nil=>simp only[runX] at hr;cases hr;rfl
 | cons a b=>simp only[runX] at hr;cases hr
theorem zOF{af:List Oper}{hsC:List HA}{o:Oper}{js bs:List Nat}{r:FM}(hr:runX P n af hsC [o] js m=some (r,bs)):∃d u,o.dst=some d/\r=(d,u)::m:=by
 simp only[runX] at hr;split at hr
 ·split at hr
  ·rename_i m1 b hl;split at hr
   ·rename_i hx;cases hr
    rw[zKt hx];exact zHy hl
   ·cases hr
  ·cases hr
 ·cases hr
 ·split at hr
  ·rename_i m1 hl;rw[zKt hr];exact zJe hl
  ·cases hr
theorem zOG{φ:List Fact}{its:List It}(hφ:∀j it,its[j]?=some it->φ.getD j nofact=it.fact){hsC:List HA}{i:Nat}{l:List (Nat×Bool)}{o:Oper}{v:Value}{js:List Nat}{m' m2:FM}{d0:Nat}{bs:List Nat}
 (hi:its[i]?=some (.p v js)) (ho:af[i]?=some o) (hm:insM af its l m=some m') (hr:runX P n (af.take (i+1)) hsC [o] js m'=some ((d0,v)::m2,bs)) (hb:bs=js.map (blkAt hsC)):Obl P n B af φ imm hsC m i l:=by
 intro bw hf ae _
 refine zFO hφ hm ?_
 obtain⟨k1,k2⟩:=zGU (hf:=hf) hr
 have aG:=(yi.1 ho).1
 have hd:(af.take (i+1)).drop i=[o]:=zE5 ho
 refine zIA [o] ⟨[],by rw[hd];rfl⟩ k1 (by rw[hb,k2]) ?_
 obtain⟨d,u,my,he⟩:=zOF hr
 rw[List.cons.injEq,Prod.mk.injEq] at he
 obtain⟨⟨rfl,rfl⟩,rfl⟩:=he
 have tw:dstAt af i=some d0:=by simp only[dstAt,ho,my]
 refine zJc (hx:=[]) ?_ (Imm.le.refl _) rfl (v:=v) ?_ ?_
 ·rw[yw,yl]
  simp only[xy,yo]
  omega
 ·rw[tw];exact zHw zNU
 ·rw[hφ _ _ hi];exact⟨rfl,rfl⟩
theorem zEH{φ:List Fact}{we:List It}(hφ:∀j it,we[j]?=some it->φ.getD j nofact=it.fact){hsC:List HA}:∀{its:List It}{i:Nat}{ins:List (List (Nat×Bool))}{bs:List Nat},(∀j,we[i+j]?=its[j]?) ->
 autoL P n af hsC m we i its ins=some (valsOf its,bs)->bs=blksOf hsC its->ObX P n B af φ imm hsC m i its ins->Obls P n B af φ imm hsC m i ins
 | [],i,[],bs,_,_,_,_=>trivial
 | [],i,_::_,bs,_,h,_,_=>by simp only[autoL] at h;cases h
 | .p v js::r,i,[],bs,_,h,_,_=>by simp only[autoL] at h;cases h
 | .x f::r,i,[],bs,_,h,_,_=>by simp only[autoL] at h;cases h
 | .q v::r,i,[],bs,_,h,_,_=>by simp only[autoL] at h;cases h
 | .q v::r,i,l::ins,bs,hi,h,hb,ho=>by
  simp only[autoL] at h
  exact⟨ho.1,zEH hφ (λj=>by have:=hi (j+1);rw[show i+(j+1)=i+1+j from by omega] at this;simpa using this) h hb ho.2⟩
 | .x f::r,i,l::ins,bs,hi,h,hb,ho=>by
  simp only[autoL] at h
  exact⟨ho.2.1,zEH hφ (λj=>by have:=hi (j+1);rw[show i+(j+1)=i+1+j from by omega] at this;simpa using this) h hb ho.2.2⟩
 | .p v js::r,i,l::ins,bs,hi,h,hb,ho=>by
  simp only[autoL] at h
  split at h
  ·rename_i o m' vs bs2 h1 h2 h3
   split at h
   ·rename_i d0 v0 m2 bs' h4
    simp only[Option.some.injEq,Prod.mk.injEq,valsOf,List.cons.injEq] at h
    obtain⟨⟨rfl,rfl⟩,rfl⟩:=h
    have aP:bs'.length=js.length:=by
     have:∀{l:List Oper}{js:List Nat}{m:FM}{r:FM}{bs:List Nat},runX P n (af.take (i+1)) hsC l js m=some (r,bs)->bs.length=js.length:=by
      intro l
      induction l with
      | nil=>intro js m r bs h;cases js <;> simp only[runX] at h <;> cases h;rfl
      | cons o l ih=>
       intro js m r bs h
       simp only[runX] at h
       split at h
       ·split at h
        ·split at h
         ·rename_i hx;cases h;simp[ih hx]
         ·cases h
        ·cases h
       ·cases h
       ·split at h
        ·exact ih h
        ·cases h
     exact this h4
    simp only[blksOf] at hb
    obtain⟨cp,fl⟩:=List.append_inj hb (by rw[ym];exact aP)
    have hi0:we[i]?=some (.p v0 js):=by have:=hi 0;simpa using this
    exact⟨zOG hφ hi0 h1 h2 h4 cp,zEH hφ (λj=>by have:=hi (j+1);rw[show i+(j+1)=i+1+j from by omega] at this;simpa using this) h3 fl ho⟩
   ·cases h
  ·cases h
theorem monoX{φ:List Fact}{hsC:List HA}:∀{its:List It}{i:Nat}{ins:List (List (Nat×Bool))},ObX P n B af φ imm hsC m i its ins->MonoL (its.map It.fact)
 | [],_,_,_=>trivial
 | .p v js::r,_,[],h=>h.elim
 | .x f::r,_,[],h=>h.elim
 | .q v::r,_,[],h=>h.elim
 | .q v::r,_,l::ins,h=>⟨λ_ _ _ _ _ h=>h,monoX (its:=r) h.2⟩
 | .p v js::r,_,l::ins,h=>⟨λ_ _ _ _ _ h=>h,monoX (its:=r) h⟩
 | .x f::r,_,l::ins,h=>⟨λi j v hx hl hh=>(h.1 v hx).mono i j hl hh,monoX (its:=r) h.2.2⟩
theorem zCf:∀{a b:List Fact},MonoL a->MonoL b->MonoL (a++b)
 | [],_,_,h=>h
 | _::_,_,h,h'=>⟨h.1,zCf h.2 h'⟩
theorem zJh:∀k,MonoL (List.replicate k nofact)
 | 0=>trivial
 | k+1=>⟨λ_ _ _ _ _ h=>h,zJh k⟩
theorem zMe:∀gs:List (List HA),MonoL (gs.map gfact)
 | []=>trivial
 | _::gs=>⟨λ_ _ _ _ _ h=>h,zMe gs⟩
theorem zKu:∀{gs:List (List HA)}{φ:List Fact}{k:Nat},(∀j g,gs[j]?=some g->φ.getD (k+j) nofact=gfact g)->BaseG φ imm k gs
 | [],_,_,_=>trivial
 | g::gs,φ,k,h=>⟨by have:=h 0 g (by simp);rw[Nat.add_zero] at this;rw[this];rfl,zKu λj g' hj=>by have:=h (j+1) g' (by simpa using hj);rwa[show k+(j+1)=k+1+j from by omega] at this⟩
theorem vK{id:Nat}(its:List It)(ins:List (List (Nat×Bool)))(hsC:List HA)(gs:List (List HA))(fin:List (Nat×Bool))(hhs:∀w,Good B imm hs w->Good B imm (hsC++gs.flatten) w)
 (xf:ObX P n B af (factsOf af.length its gs) imm hsC m 0 its ins)
 (mz:∀bw,imm.le bw->Ins af (factsOf af.length its gs) bw fin m hsC λm' ah=>R P n B af Q its.length bw ah m')
 (ha:autoL P n af hsC m its 0 its ins=some (valsOf its,blksOf hsC its):=by kernel_rfl)
 (hm:P.follows .mixedOrders=true:=by kernel_rfl) (hc:anyChk af n its.length gs.length ins (m.map (·.1))=true:=by kernel_rfl) (hf:finChk af its.length gs.length ins fin=true:=by kernel_rfl) :
 J P n B (.region id af.toArray true) Q imm hs m:=by
 have hφ:∀j it,its[j]?=some it->(factsOf af.length its gs).getD j nofact=it.fact:=λj it hj=>by
  have aG:=(yi.1 hj).1
  unfold factsOf
  rw[zp,Bh (by rw[ym];exact aG),Ae,hj]
  rfl
 have cM:its.length<=af.length:=(AnyOk.mk' hc).le
 refine zKD its.length ins (factsOf af.length its gs) hsC gs fin hm hc hf hhs (zCf (monoX xf) (zCf (zJh _) (zMe gs))) (zKu λj g hj=>?_)
  (zEH hφ (λj=>by rw[yv]) ha rfl xf) mz
 unfold factsOf
 rw[zp,AJ (by rw[ym];omega),AJ (by rw[ym,List.length_replicate];omega),ym,List.length_replicate,Ae,
  show af.length+j - its.length - (af.length - its.length)=j from by omega,hj]
 rfl
abbrev W:Int->Int:=IntKind.i64.wrap
theorem T_w{e:Exit}(m':FM)(h:T n B Q e imm hs m')(hk:keep m (m'.map (·.1))=some m':=by kernel_rfl):T n B Q e imm hs m:=zNq (zCM hk) h
theorem mM{c:Code}(m':FM)(h:J P n B c Q imm hs m')(hk:keep m (m'.map (·.1))=some m':=by kernel_rfl):J P n B c Q imm hs m:=zNp (zCM hk) h
theorem yC{x:Operand}{p q:Code}{c:Bool}{α:Type}{X Y:Option α}{r:α}(hM:(if c=true then X else Y)=some r)
 (ht:c=true->X=some r->J P n B p Q imm hs m) (hf:c=false->Y=some r->J P n B q Q imm hs m) (hc:val m x=some (.bool c):=by kernel_rfl):J P n B (.cond x p q) Q imm hs m:=zQX hc hM ht hf
end
section
variable {P:Program}{n:Nat}{B:Base}{Q:Exit->Act->World->Prop}{imm:Imm}{hs:List HA}{m:FM}{af:List Oper}{pc d:Nat}{ty:TypeId}{pos:String}{after:Array Edge}{g:Option (Nat×Bool)}
theorem wC{t:TypeId}{x:Operand}{ad:Addr}{cs:List Value}(o:Nat)(av:At imm ad cs)(et:List Value)(v:Value)(ho:af[pc]?=some ⟨some d,.load t x,ty,pos,after,g⟩)(next:R P n B af Q (pc+1) imm hs ((d,v)::m))(hg:guardB af m g=some true:=by kernel_rfl)(hn:Nat.blt d n=true:=by kernel_rfl)(hx:val m x=some (.pointer (some (ad.add o))):=by kernel_rfl)(gp:Nat.ble o cs.length=true:=by kernel_rfl)(hc:(cs.drop o).take et.length=et:=by kernel_rfl)(hv:loadV P t et=some v:=by kernel_rfl):R P n B af Q pc imm hs m:=
 zNQ o ho hg hn av hx gp hc hv next
theorem zFP{t:TypeId}{x:Operand}{ad:Addr}{cs:List Value}(o:Nat)(av:At imm ad cs)(et:List Value)(v:Value)(ho:af[pc]?=some ⟨some d,.load t x,ty,pos,after,g⟩)(next:Rq P n B af Q (pc+1) imm hs ((d,v)::m))(hg:guardB af m g=some true:=by kernel_rfl)(hn:Nat.blt d n=true:=by kernel_rfl)(hx:val m x=some (.pointer (some (ad.add o))):=by kernel_rfl)(gp:Nat.ble o cs.length=true:=by kernel_rfl)(hc:(cs.drop o).take et.length=et:=by kernel_rfl)(hv:loadV P t et=some v:=by kernel_rfl):Rq P n B af Q pc imm hs m:=
 zMA o ho hg hn av hx gp hc hv next
theorem wJ{α:Type}[Rp α]{t:TypeId}{x xi:Operand}{v:Value}{k:IntKind}{i:Int}{l:List α}{y:α}(ho:af[pc]?=some ⟨some d,.indexAddr t x xi,ty,pos,after,g⟩)(hi:val m xi=some (.int k i))(ah:SL imm v l)(hy:idx l i=some y)(next:∀ad aR,At imm ad aR->Rp.rep imm aR y->R P n B af Q (pc+1) imm hs ((d,.pointer (some ad))::m))(hg:guardB af m g=some true:=by kernel_rfl)(hn:Nat.blt d n=true:=by kernel_rfl)(hx:val m x=some v:=by kernel_rfl)(ht:elemT P t=some (Rp.sz α):=by kernel_rfl):R P n B af Q pc imm hs m:=
 zPY ho hg hn hx hi ht ah hy next
theorem zFQ{α:Type}[Rp α]{t:TypeId}{x xi:Operand}{v:Value}{k:IntKind}{i:Int}{l:List α}{y:α}(ho:af[pc]?=some ⟨some d,.indexAddr t x xi,ty,pos,after,g⟩)(hi:val m xi=some (.int k i))(ah:SL imm v l)(hy:idx l i=some y)(next:∀ad aR,At imm ad aR->Rp.rep imm aR y->Rq P n B af Q (pc+1) imm hs ((d,.pointer (some ad))::m))(hg:guardB af m g=some true:=by kernel_rfl)(hn:Nat.blt d n=true:=by kernel_rfl)(hx:val m x=some v:=by kernel_rfl)(ht:elemT P t=some (Rp.sz α):=by kernel_rfl):Rq P n B af Q pc imm hs m:=
 zNw ho hg hn hx hi ht ah hy next
theorem kV{α:Type}[Rp α]{t:TypeId}{x xi:Operand}{v:Value}{k:IntKind}{i:Int}{cs:List Value}{l:List α}{y:α}(j:Nat)(ho:af[pc]?=some ⟨some d,.indexAddr t x xi,ty,pos,after,g⟩)(hi:val m xi=some (.int k i))(hj:hs[j]?=some (.osl v (Rp.sz α) cs))(hr:RepL (Rp.rep imm) (Rp.sz α) cs l)(hy:idx l i=some y)(next:∀ad cc,AtO v (Rp.sz α) i.toNat ad->(cs.drop (i.toNat*Rp.sz α)).take (Rp.sz α)=cc->Rp.rep imm cc y->R P n B af Q (pc+1) imm hs ((d,.pointer (some ad))::m))(hg:guardB af m g=some true:=by kernel_rfl)(hn:Nat.blt d n=true:=by kernel_rfl)(hx:val m x=some v:=by kernel_rfl)(ht:elemT P t=some (Rp.sz α):=by kernel_rfl):R P n B af Q pc imm hs m:=
 zKk j ho hg hn hj hx hi ht hr hy next
theorem zDK{t:TypeId}{x:Operand}{v0:Value}{sz i:Nat}{ad:Addr}{cs cc:List Value}(j o:Nat)(av:AtO v0 sz i ad)(cQ:(cs.drop (i*sz)).take sz=cc)(tj:List Value)(v:Value)(ho:af[pc]?=some ⟨some d,.load t x,ty,pos,after,g⟩)(hj:hs[j]?=some (.osl v0 sz cs))(next:R P n B af Q (pc+1) imm hs ((d,v)::m))(hg:guardB af m g=some true:=by kernel_rfl)(hn:Nat.blt d n=true:=by kernel_rfl)(hx:val m x=some (.pointer (some (ad.add o))):=by kernel_rfl)(gp:Nat.ble (o+tj.length) sz=true:=by kernel_rfl)(hc:(cc.drop o).take tj.length=tj:=by kernel_rfl)(hv:loadV P t tj=some v:=by kernel_rfl):R P n B af Q pc imm hs m:=
 zLw j o ho hg hn hj av hx cQ gp hc hv next
theorem zP5{α:Type}[Rp α]{t:TypeId}{x:Operand}{lo hi:Option Operand}{v:Value}{i k:Int}{l l':List α}(ho:af[pc]?=some ⟨some d,.slice t x lo hi none,ty,pos,after,g⟩)(ah:SL imm v l)(hy:slc l i k=some l')(next:∀v',SL imm v' l'->R P n B af Q (pc+1) imm hs ((d,v')::m))(hg:guardB af m g=some true:=by kernel_rfl)(hn:Nat.blt d n=true:=by kernel_rfl)(hx:val m x=some v:=by kernel_rfl)(ht:elemT P t=some (Rp.sz α):=by kernel_rfl)(iy:bnd m 0 lo=some i:=by kernel_rfl)(iI:bnd m l.length hi=some k:=by kernel_rfl):R P n B af Q pc imm hs m:=
 zP0 ho hg hn hx ht iy iI ah hy next
theorem qP{t t2:TypeId}{x y:Operand}{a b c:Str}(ho:af[pc]?=some ⟨some d,.binOp .add t x y t2,ty,pos,after,g⟩)(h:cat a b=some c)(next:R P n B af Q (pc+1) imm hs ((d,.string ⟨⟨c.l⟩⟩)::m))(hg:guardB af m g=some true:=by kernel_rfl)(hn:Nat.blt d n=true:=by kernel_rfl)(hx:val m x=some (.string ⟨⟨a.l⟩⟩):=by kernel_rfl)(hy:val m y=some (.string ⟨⟨b.l⟩⟩):=by kernel_rfl):R P n B af Q pc imm hs m:=
 zRB ho hg hn hx hy h next
theorem zA3{t:TypeId}{x y:Operand}{a:Str}{k:IntKind}{i:Int}{c:UInt8}(ho:af[pc]?=some ⟨some d,.index t x y,ty,pos,after,g⟩)(hy:val m y=some (.int k i))(h:sidx a i=some c)(next:R P n B af Q (pc+1) imm hs ((d,.int .u8 (c.toNat:Int))::m))(hg:guardB af m g=some true:=by kernel_rfl)(hn:Nat.blt d n=true:=by kernel_rfl)(hx:val m x=some (.string ⟨⟨a.l⟩⟩):=by kernel_rfl)(hu:P.underlying t=some .string:=by kernel_rfl):R P n B af Q pc imm hs m:=
 zNx ho hg hn hx hy hu h next
theorem zB8{t:TypeId}{x:Operand}{lo hi:Option Operand}{a c:Str}{i k:Int}(ho:af[pc]?=some ⟨some d,.slice t x lo hi none,ty,pos,after,g⟩)(hy:sslc a i k=some c)(next:R P n B af Q (pc+1) imm hs ((d,.string ⟨⟨c.l⟩⟩)::m))(hg:guardB af m g=some true:=by kernel_rfl)(hn:Nat.blt d n=true:=by kernel_rfl)(hx:val m x=some (.string ⟨⟨a.l⟩⟩):=by kernel_rfl)(hu:P.underlying t=some .string:=by kernel_rfl)(iy:bnd m 0 lo=some i:=by kernel_rfl)(iI:bnd m a.l.length hi=some k:=by kernel_rfl):R P n B af Q pc imm hs m:=
 zNy ho hg hn hx hu iy iI hy next
theorem zRE{t t2:TypeId}{x y:Operand}{a b c:Int}(ho:af[pc]?=some ⟨some d,.binOp .quo t x y t2,ty,pos,after,g⟩)(h:quo a b=some c)(next:Rq P n B af Q (pc+1) imm hs ((d,.int .i64 c)::m))(hg:guardB af m g=some true:=by kernel_rfl)(hn:Nat.blt d n=true:=by kernel_rfl)(hx:val m x=some (.int .i64 a):=by kernel_rfl)(hy:val m y=some (.int .i64 b):=by kernel_rfl):Rq P n B af Q pc imm hs m:=
 zQ2 ho hg hn hx hy h next
theorem zRF{t t2:TypeId}{x y:Operand}{a b c:Int}(ho:af[pc]?=some ⟨some d,.binOp .rem t x y t2,ty,pos,after,g⟩)(h:rem a b=some c)(next:R P n B af Q (pc+1) imm hs ((d,.int .i64 c)::m))(hg:guardB af m g=some true:=by kernel_rfl)(hn:Nat.blt d n=true:=by kernel_rfl)(hx:val m x=some (.int .i64 a):=by kernel_rfl)(hy:val m y=some (.int .i64 b):=by kernel_rfl):R P n B af Q pc imm hs m:=
 zRC ho hg hn hx hy h next
theorem zQI{t t2:TypeId}{x y:Operand}{a b c:Int}(ho:af[pc]?=some ⟨some d,.binOp .rem t x y t2,ty,pos,after,g⟩)(h:rem a b=some c)(next:Rq P n B af Q (pc+1) imm hs ((d,.int .i64 c)::m))(hg:guardB af m g=some true:=by kernel_rfl)(hn:Nat.blt d n=true:=by kernel_rfl)(hx:val m x=some (.int .i64 a):=by kernel_rfl)(hy:val m y=some (.int .i64 b):=by kernel_rfl):Rq P n B af Q pc imm hs m:=
 zQ3 ho hg hn hx hy h next
theorem zAF{t:TypeId}{x y:Operand}{b o:Nat}{c:Array Value}{v:Value}(j:Nat)(c':List Value)(ah:List HA)(ho:af[pc]?=some ⟨none,.store t x y,ty,pos,after,g⟩)(hj:hs[j]?=some (.blk b c))(hx:val m x=some (.pointer (some ⟨b,o,none⟩)))(hy:val m y=some v)(next:R P n B af Q (pc+1) imm ah m)(hg:guardB af m g=some true:=by kernel_rfl)(fy:sizeT P t=some v.cells.size:=by kernel_rfl)(gp:Nat.ble (o+v.cells.size) c.size=true:=by kernel_rfl)(j6:v.cells.toList.all Value.oneCell'=true:=by rfl)(hc:wr c o v.cells.toList=⟨c'⟩:=by kernel_rfl)(hh:hs.set j (.blk b ⟨c'⟩)=ah:=by rfl):R P n B af Q pc imm hs m:=
 zHF j ho hg hj hx hy fy gp j6 hc hh next
theorem mD{α:Type}[Rp α]{t t2:TypeId}{x1 x2:Operand}{v vx:Value}{cs aR:List Value}{l l2 y:List α}{nr:Nat}(e zs j:Nat)(ho:af[pc]?=some ⟨some d,.call { callee:=.builtin .append,args:=#[x1,x2],argTypes:=#[t,t2] },ty,pos,after,g⟩)(hj:hs[j]?=some (.osl v (Rp.sz α) cs))(hy:val m x2=some vx)(hr:RepL (Rp.rep imm) (Rp.sz α) cs l)(s:Src imm hs vx (Rp.sz α) aR)(lh:RepL (Rp.rep imm) (Rp.sz α) aR l2)(hb:app nr l l2=some y)
 (next:∀a' c' et,RepL (Rp.rep imm) (Rp.sz α) et y->R P n B af Q (pc+1) imm (hs.set j (.osl (.slice a' y.length c') (Rp.sz α) et)) ((d,.slice a' y.length c')::m)) (hg:guardB af m g=some true:=by kernel_rfl) (hn:Nat.blt d n=true:=by kernel_rfl) (hx:val m x1=some v:=by kernel_rfl) (ht:appT P t=some (e,Rp.sz α,nr,zs):=by kernel_rfl) (ht2:appT P t2=some (e,Rp.sz α,nr,zs):=by kernel_rfl):R P n B af Q pc imm hs m:=
 zQ5 (λ_=>True) (e:=e) (zs:=zs) j ho hg hn hx hy ht ht2 hj hr (λ_ _=>.inl trivial) s lh hb (λa' c' et _ h=>next a' c' et h)
end
end Go.LN
